/- The document's package 01: Kind, May, Unpack. -/
import Derived.Test.YtaggadjiefgpoaaGreatDoorHa01
namespace Go.Proofs.Eff
open Go.RowKit

set_option maxHeartbeats 400000 in
theorem kind44 (o : Int) (w : World) (h0 : 0 ≤ o) (h1 : o < 4294967296) :
    Calls Tryz.prog 44 #[.int .u32 o] w fun e w' => e = .returned (.int .i64 (kindI o)) ∧ w = w' := by
  go_enter Tryz.func44, Tryz.ntmps44
  go_wp2
  all_goals (go_ret; refine ⟨?_, rfl⟩; congr 2; simp_all [kindI])

set_option maxHeartbeats 1000000 in
theorem may103 (h : Hdr) (w : World) :
    Calls Tryz.prog 103 #[h.val] w fun e w' => e = .returned (.bool (mayB h)) ∧ Ext w w' := by
  obtain ⟨sz, f, sp, c, s⟩ := h
  simp only [Hdr.val, Hdr.cells]
  go_enter Tryz.func103, Tryz.ntmps103
  go_wp2
  all_goals (go_ret; refine ⟨?_, (Ext.refl _).alloc _⟩; congr 2; simp_all [mayB]; try omega)


set_option maxHeartbeats 1000000 in
theorem unpack45_ok (a c s : Int) (w : World) (h0 : 0 ≤ a) (h1 : a < 4294967296) (hm : okW a = true) :
    Calls Tryz.prog 45 #[.agg #[.int .u32 a, .int .u32 c, .int .u32 s]] w fun e w' => e = .returned (.tuple #[(hdrOf a c s).val, .bool true]) ∧ Ext w w' := by
  have M := Lib.hid (okW_may c s hm)
  have hq : a / 536870912 = 0 := by simp only [okW, Bool.and_eq_true, beq_iff_eq] at hm; exact hm.2
  clear hm
  simp only [hdrOf, Hdr.val, Hdr.cells] at M ⊢
  have t1 : Int.tmod a 16777216 = a % 16777216 := Int.tmod_eq_emod_of_nonneg h0
  have t2 : Int.tdiv a 16777216 = a / 16777216 := Int.tdiv_eq_ediv_of_nonneg h0
  have t3 : Int.tmod (a / 16777216) 8 = a / 16777216 % 8 := Int.tmod_eq_emod_of_nonneg (by omega)
  have t4 : Int.tdiv a 134217728 = a / 134217728 := Int.tdiv_eq_ediv_of_nonneg h0
  have t5 : Int.tmod (a / 134217728) 4 = a / 134217728 % 4 := Int.tmod_eq_emod_of_nonneg (by omega)
  have t6 : Int.tdiv a 536870912 = a / 536870912 := Int.tdiv_eq_ediv_of_nonneg h0
  have r1 : 0 ≤ a % 16777216 ∧ a % 16777216 ≤ 16777215 := by omega
  have r2 : 0 ≤ a / 16777216 % 8 ∧ a / 16777216 % 8 ≤ 7 := by omega
  have r3 : 0 ≤ a / 134217728 % 4 ∧ a / 134217728 % 4 ≤ 3 := by omega
  generalize a % 16777216 = A at *
  generalize a / 16777216 % 8 = B at *
  generalize a / 134217728 % 4 = C at *
  go_enter Tryz.func45, Tryz.ntmps45
  go_wp2_with (go_at_call 103; refine (may103 ⟨A, B, C, c, s⟩ _).mono ?_; rintro e wF ⟨rfl, hb⟩; rw [M.out]; have hE := Lib.hid ((((Ext.refl w).alloc _).alloc _).alloc _ |>.trans hb); obtain ⟨c1, f1⟩ := blk (hb.keep (keepB (newB (w.alloc _) (Obj.cells #[Value.int IntKind.i64 0, Value.int IntKind.i64 0, Value.int IntKind.i64 0, Value.int IntKind.u32 0, Value.int IntKind.u32 0] 65) (w.heap.size + 1) (by simp)) _)); obtain ⟨c2, f2⟩ := blk (hb.keep (newB _ _ (w.heap.size + 1 + 1) (by simp))); clear hb)
  refine bodyPost_ret (v := .tuple #[.agg #[.int .i64 A, .int .i64 B, .int .i64 C, .int .u32 c, .int .u32 s], .bool true]) (by simp [results, Tryz.results45, go_sem, c1]) rfl ⟨rfl, ?_⟩
  refine Ext.setCell (Ext.setCell (Ext.setCell (Ext.setCell (Ext.setCell hE.out ?_ _) ?_ _) ?_ _) ?_ _) ?_ _
  all_goals simp


set_option maxHeartbeats 1000000 in
theorem unpack45_bad (a c s : Int) (w : World) (h0 : 0 ≤ a) (h1 : a < 4294967296) (hm : okW a = false) :
    Calls Tryz.prog 45 #[.agg #[.int .u32 a, .int .u32 c, .int .u32 s]] w fun e w' => e = .returned (.tuple #[Hdr.zero.val, .bool false]) ∧ Ext w w' := by
  have t1 : Int.tmod a 16777216 = a % 16777216 := Int.tmod_eq_emod_of_nonneg h0
  have t2 : Int.tdiv a 16777216 = a / 16777216 := Int.tdiv_eq_ediv_of_nonneg h0
  have t3 : Int.tmod (a / 16777216) 8 = a / 16777216 % 8 := Int.tmod_eq_emod_of_nonneg (by omega)
  have t4 : Int.tdiv a 134217728 = a / 134217728 := Int.tdiv_eq_ediv_of_nonneg h0
  have t5 : Int.tmod (a / 134217728) 4 = a / 134217728 % 4 := Int.tmod_eq_emod_of_nonneg (by omega)
  have t6 : Int.tdiv a 536870912 = a / 536870912 := Int.tdiv_eq_ediv_of_nonneg h0
  by_cases hq : a / 536870912 = 0
  · have M : Hid (mayB (hdrOf a c s) = false) := by
      show mayB (hdrOf a c s) = false
      rw [mayB_hdr]; simpa [okW, hq] using hm
    clear hm
    simp only [hdrOf, Hdr.val, Hdr.cells, Hdr.zero] at M ⊢
    have r1 : 0 ≤ a % 16777216 ∧ a % 16777216 ≤ 16777215 := by omega
    have r2 : 0 ≤ a / 16777216 % 8 ∧ a / 16777216 % 8 ≤ 7 := by omega
    have r3 : 0 ≤ a / 134217728 % 4 ∧ a / 134217728 % 4 ≤ 3 := by omega
    generalize a % 16777216 = A at *
    generalize a / 16777216 % 8 = B at *
    generalize a / 134217728 % 4 = C at *
    go_enter Tryz.func45, Tryz.ntmps45
    go_wp2_with (go_at_call 103; refine (may103 ⟨A, B, C, c, s⟩ _).mono ?_; rintro e wF ⟨rfl, hb⟩; rw [M.out]; have hE := Lib.hid ((((Ext.refl w).alloc _).alloc _).alloc _ |>.trans hb); obtain ⟨c1, f1⟩ := blk (hb.keep (keepB (newB (w.alloc _) (Obj.cells #[Value.int IntKind.i64 0, Value.int IntKind.i64 0, Value.int IntKind.i64 0, Value.int IntKind.u32 0, Value.int IntKind.u32 0] 65) (w.heap.size + 1) (by simp)) _)); clear hb)
    refine bodyPost_ret (v := .tuple #[.agg #[.int .i64 0, .int .i64 0, .int .i64 0, .int .u32 0, .int .u32 0], .bool false]) (by simp [results, Tryz.results45, go_sem, c1]) rfl ⟨rfl, ?_⟩
    refine Ext.setCell (Ext.setCell (Ext.setCell (Ext.setCell (Ext.setCell hE.out ?_ _) ?_ _) ?_ _) ?_ _) ?_ _
    all_goals simp
  · clear hm
    simp only [Hdr.val, Hdr.cells, Hdr.zero]
    go_enter Tryz.func45, Tryz.ntmps45
    go_wp2
    refine bodyPost_ret (v := .tuple #[.agg #[.int .i64 0, .int .i64 0, .int .i64 0, .int .u32 0, .int .u32 0], .bool false]) (by simp [results, Tryz.results45, go_sem]) rfl ⟨rfl, ?_⟩
    exact (((Ext.refl w).alloc _).alloc _).alloc _

end Go.Proofs.Eff
