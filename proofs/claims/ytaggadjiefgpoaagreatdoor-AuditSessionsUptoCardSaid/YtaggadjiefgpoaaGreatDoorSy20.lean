/- slices.Sort at u32: the sorted list stands in the slice's own row; nothing else has turned. -/
import Derived.Test.YtaggadjiefgpoaaGreatDoorSy19
import Derived.Test.YtaggadjiefgpoaaGreatDoorSy17
import Derived.Test.YtaggadjiefgpoaaGreatDoorSy07
import Derived.Test.YtaggadjiefgpoaaGreatDoorSy04
import Derived.Test.YtaggadjiefgpoaaGreatDoorSy05
import Derived.Test.YtaggadjiefgpoaaGreatDoorSy01
import Derived.Sort.AssemblyPlain
import Derived.Lib.OwnBridge
namespace Go.Proofs.Eff.Sa
open Go.RowKit Go.Sort

theorem callees13 : Callees13 where
  ins := So.insertionSort_int
  brk := So.breakPatterns_int
  piv := So.choosePivot_int
  par := So.partialInsertionSort_int
  peq := So.partitionEqualOrdered_int
  prt := So.partitionOrdered_int

theorem plain13 : Plain13 where
  swo := swo_ltInt
  ins := insertionSort_holds
  par := partialInsertionSort_holds
  prt := partition_holds _
  peq := partitionEqual_holds _
  pdq := pdq_sorts _

theorem pdqWalkInt : pdqWalk_int := fun blk off cap a b limit d w hH hb hab hbd hsz hl hB =>
  So.pdqsort_int callees13 plain13 (b - a + 1) blk off cap a b limit d w (by omega) hH hb hab hbd hsz hl hB

theorem sort_eq (zs : List Int) : Sort.sort ltInt zs.toArray = (zs.mergeSort fun x y => decide (x ≤ y)).toArray := by
  rw [← sortInt zs]

/-- slices.Sort of a slice of the call's own. -/
theorem sort_row (g cap : Nat) (zs : List Int) (w : World) (hr : w.ownsRow 0 41 1 (.slice (some ⟨g, 0, none⟩) zs.length cap) zs.length (zs.map (Value.int .u32))) (hsz : zs.length < 4611686018427387904) :
    Calls Tryz.prog 77 #[.slice (some ⟨g, 0, none⟩) zs.length cap] w fun e w' => e = .returned (.tuple #[]) ∧ w'.ownsRow 0 41 1 (.slice (some ⟨g, 0, none⟩) zs.length cap) zs.length ((zs.mergeSort fun x y => decide (x ≤ y)).map (Value.int .u32)) ∧ Mod [g] w w' := by
  obtain ⟨g', cap', e0, _, hlt, _, _, _, hH⟩ := Lib.holds_of_ownsRow hr (by simp)
  cases e0
  have h := So.Sort_int pdqWalkInt g 0 cap zs.toArray w hH hlt (by simpa using hsz)
  rw [sort_eq] at h
  have h' : Calls Tryz.prog 77 #[.slice (some ⟨g, 0, none⟩) zs.length cap] w fun e w' => e = .returned (.tuple #[]) ∧ ∃ n os, w' = grow (putRow (Value.int .u32) (Sort.ahead w n) g 0 (zs.mergeSort fun x y => decide (x ≤ y)).toArray) os := by simpa using h
  refine h'.mono ?_
  rintro e w' ⟨rfl, n, os, rfl⟩
  have hp := Lib.ownsRow_putRow (q := n) (k := zs.length) (ys := zs.mergeSort fun x y => decide (x ≤ y)) hr (by simp) (Nat.le_refl _)
  rw [List.take_of_length_le (by simp)] at hp
  refine ⟨rfl, ?_, ⟨rfl, rfl, rfl, ?_, ?_⟩⟩
  · obtain ⟨a1, a2⟩ := hp
    refine ⟨a1, ?_⟩
    rcases a2 with a2 | ⟨g', c', cur, b1, b2, b3, b4⟩
    · exact .inl a2
    · refine .inr ⟨g', c', cur, b1, b2, ?_, b4⟩
      rw [heap_grow_old _ _ (lt_of_block b3)]; exact b3
  · simp [grow, putRow, mapBlock, Sort.ahead]
  · intro k hk hn
    have hs : (putRow (Value.int .u32) (Sort.ahead w n) g 0 (zs.mergeSort fun x y => decide (x ≤ y)).toArray).heap.size = w.heap.size := by simp [putRow, mapBlock, Sort.ahead]
    rw [heap_grow_old _ _ (by rw [hs]; exact hk)]
    simp only [putRow, mapBlock, Sort.ahead, Array.getElem?_modify]
    rw [if_neg (by simpa [eq_comm] using hn)]

set_option maxRecDepth 100000 in
theorem pdq_nil (p : Option Addr) (cap : Nat) (w : World) :
    Calls Tryz.prog 130 #[.slice p 0 cap, .int .i64 0, .int .i64 0, .int .i64 0] w fun e w' => e = .returned (.tuple #[]) ∧ w = w' := by
  have hins : ∀ w, Calls Tryz.prog 155 #[.slice p 0 cap, .int .i64 0, .int .i64 0] w fun e w' => e = .returned (.tuple #[]) ∧ w = w' := fun w => by
    go_enter Tryz.func155, Tryz.ntmps155
    go_wp2
    refine wp_loop_rounds 1 ?_
    rw [rounds_succ]
    go_wp2
    go_end0
    exact ⟨rfl, rfl⟩
  go_enter Tryz.func130, Tryz.ntmps130
  go_wp2
  refine wp_loop_rounds 1 ?_
  rw [rounds_succ]
  go_wp2_with (first | (go_at_call 155; refine (hins _).mono ?_; rintro e w' ⟨rfl, rfl⟩))
  refine bodyPost_ret (results_none rfl _ _ _) rfl ?_
  exact ⟨rfl, rfl⟩

set_option maxRecDepth 100000 in
/-- slices.Sort of no element. -/
theorem sort_nil (p : Option Addr) (cap : Nat) (w : World) :
    Calls Tryz.prog 77 #[.slice p 0 cap] w fun e w' => e = .returned (.tuple #[]) ∧ w = w' := by
  have hLen : ∀ w, Calls Tryz.prog 131 #[.int .u64 0] w fun e w' => e = .returned (.int .i64 0) ∧ w' = w := fun w => Tryz.bits_Len 0 w (by omega) (by omega)
  go_enter Tryz.func77, Tryz.ntmps77
  go_wp2_with (first | (go_at_call 131; refine (hLen _).mono ?_; rintro e w' ⟨rfl, rfl⟩) | (go_at_call 130; refine (pdq_nil p cap _).mono ?_; rintro e w' ⟨rfl, rfl⟩))
  go_end0
  exact ⟨rfl, rfl⟩

end Go.Proofs.Eff.Sa

/- slices.Sort at u64: the sorted list stands in the slice's own row; nothing else has turned. -/
namespace Go.Proofs.Eff.Sb
open Go.RowKit Go.Sort

theorem callees13 : Callees13 where
  ins := So.insertionSort_int
  brk := So.breakPatterns_int
  piv := So.choosePivot_int
  par := So.partialInsertionSort_int
  peq := So.partitionEqualOrdered_int
  prt := So.partitionOrdered_int

theorem plain13 : Plain13 where
  swo := swo_ltInt
  ins := insertionSort_holds
  par := partialInsertionSort_holds
  prt := partition_holds _
  peq := partitionEqual_holds _
  pdq := pdq_sorts _

theorem pdqWalkInt : pdqWalk_int := fun blk off cap a b limit d w hH hb hab hbd hsz hl hB =>
  So.pdqsort_int callees13 plain13 (b - a + 1) blk off cap a b limit d w (by omega) hH hb hab hbd hsz hl hB

theorem sort_eq (zs : List Int) : Sort.sort ltInt zs.toArray = (zs.mergeSort fun x y => decide (x ≤ y)).toArray := by
  rw [← sortInt zs]

/-- slices.Sort of a slice of the call's own. -/
theorem sort_row (g cap : Nat) (zs : List Int) (w : World) (hr : w.ownsRow 0 55 1 (.slice (some ⟨g, 0, none⟩) zs.length cap) zs.length (zs.map (Value.int .u64))) (hsz : zs.length < 4611686018427387904) :
    Calls Tryz.prog 93 #[.slice (some ⟨g, 0, none⟩) zs.length cap] w fun e w' => e = .returned (.tuple #[]) ∧ w'.ownsRow 0 55 1 (.slice (some ⟨g, 0, none⟩) zs.length cap) zs.length ((zs.mergeSort fun x y => decide (x ≤ y)).map (Value.int .u64)) ∧ Mod [g] w w' := by
  obtain ⟨g', cap', e0, _, hlt, _, _, _, hH⟩ := Lib.holds_of_ownsRow hr (by simp)
  cases e0
  have h := So.Sort_int pdqWalkInt g 0 cap zs.toArray w hH hlt (by simpa using hsz)
  rw [sort_eq] at h
  have h' : Calls Tryz.prog 93 #[.slice (some ⟨g, 0, none⟩) zs.length cap] w fun e w' => e = .returned (.tuple #[]) ∧ ∃ n os, w' = grow (putRow (Value.int .u64) (Sort.ahead w n) g 0 (zs.mergeSort fun x y => decide (x ≤ y)).toArray) os := by simpa using h
  refine h'.mono ?_
  rintro e w' ⟨rfl, n, os, rfl⟩
  have hp := Lib.ownsRow_putRow (q := n) (k := zs.length) (ys := zs.mergeSort fun x y => decide (x ≤ y)) hr (by simp) (Nat.le_refl _)
  rw [List.take_of_length_le (by simp)] at hp
  refine ⟨rfl, ?_, ⟨rfl, rfl, rfl, ?_, ?_⟩⟩
  · obtain ⟨a1, a2⟩ := hp
    refine ⟨a1, ?_⟩
    rcases a2 with a2 | ⟨g', c', cur, b1, b2, b3, b4⟩
    · exact .inl a2
    · refine .inr ⟨g', c', cur, b1, b2, ?_, b4⟩
      rw [heap_grow_old _ _ (lt_of_block b3)]; exact b3
  · simp [grow, putRow, mapBlock, Sort.ahead]
  · intro k hk hn
    have hs : (putRow (Value.int .u64) (Sort.ahead w n) g 0 (zs.mergeSort fun x y => decide (x ≤ y)).toArray).heap.size = w.heap.size := by simp [putRow, mapBlock, Sort.ahead]
    rw [heap_grow_old _ _ (by rw [hs]; exact hk)]
    simp only [putRow, mapBlock, Sort.ahead, Array.getElem?_modify]
    rw [if_neg (by simpa [eq_comm] using hn)]

set_option maxRecDepth 100000 in
theorem pdq_nil (p : Option Addr) (cap : Nat) (w : World) :
    Calls Tryz.prog 137 #[.slice p 0 cap, .int .i64 0, .int .i64 0, .int .i64 0] w fun e w' => e = .returned (.tuple #[]) ∧ w = w' := by
  have hins : ∀ w, Calls Tryz.prog 169 #[.slice p 0 cap, .int .i64 0, .int .i64 0] w fun e w' => e = .returned (.tuple #[]) ∧ w = w' := fun w => by
    go_enter Tryz.func169, Tryz.ntmps169
    go_wp2
    refine wp_loop_rounds 1 ?_
    rw [rounds_succ]
    go_wp2
    go_end0
    exact ⟨rfl, rfl⟩
  go_enter Tryz.func137, Tryz.ntmps137
  go_wp2
  refine wp_loop_rounds 1 ?_
  rw [rounds_succ]
  go_wp2_with (first | (go_at_call 169; refine (hins _).mono ?_; rintro e w' ⟨rfl, rfl⟩))
  refine bodyPost_ret (results_none rfl _ _ _) rfl ?_
  exact ⟨rfl, rfl⟩

set_option maxRecDepth 100000 in
/-- slices.Sort of no element. -/
theorem sort_nil (p : Option Addr) (cap : Nat) (w : World) :
    Calls Tryz.prog 93 #[.slice p 0 cap] w fun e w' => e = .returned (.tuple #[]) ∧ w = w' := by
  have hLen : ∀ w, Calls Tryz.prog 131 #[.int .u64 0] w fun e w' => e = .returned (.int .i64 0) ∧ w' = w := fun w => Tryz.bits_Len 0 w (by omega) (by omega)
  go_enter Tryz.func93, Tryz.ntmps93
  go_wp2_with (first | (go_at_call 131; refine (hLen _).mono ?_; rintro e w' ⟨rfl, rfl⟩) | (go_at_call 137; refine (pdq_nil p cap _).mono ?_; rintro e w' ⟨rfl, rfl⟩))
  go_end0
  exact ⟨rfl, rfl⟩

end Go.Proofs.Eff.Sb
