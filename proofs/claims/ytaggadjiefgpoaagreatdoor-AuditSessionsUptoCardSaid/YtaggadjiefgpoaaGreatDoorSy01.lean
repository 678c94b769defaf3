/- The contracts of package oop. -/
import Derived.Test.YtaggadjiefgpoaaGreatDoorProg
import Derived.Test.YtaggadjiefgpoaaGreatDoorSy00
namespace Go.Proofs.Eff
open Go.RowKit

set_option maxHeartbeats 400000 in
theorem kind_any (o : Int) (w : World) (h0 : 0 ≤ o) (h1 : o < 4294967296) :
    Calls Tryz.prog 85 #[.int .u32 o] w fun e w' => e = .returned (.int .i64 (kindI o)) ∧ w = w' := by
  have hb := u32_and1 h0 h1
  go_enter Tryz.func85, Tryz.ntmps85
  go_wp2
  all_goals (go_ret; refine ⟨?_, rfl⟩; congr 2; simp_all [kindI])

set_option maxHeartbeats 400000 in
theorem index_obj (o : Int) (w : World) (h0 : 0 ≤ o) (h1 : o < 4294967296) (hk : isObj o = true) :
    Calls Tryz.prog 125 #[.int .u32 o] w fun e w' => e = .returned (.tuple #[.int .i64 (o / 2), .int .i64 0]) ∧ w = w' := by
  have hk2 := kind_obj hk
  go_enter Tryz.func125, Tryz.ntmps125
  go_wp2_with (go_at_call 85; refine (kind_any _ _ h0 h1).mono ?_; rintro e w' ⟨rfl, rfl⟩; rw [hk2])
  go_ret2
  exact ⟨rfl, rfl⟩

set_option maxHeartbeats 400000 in
theorem index_no (o : Int) (w : World) (h0 : 0 ≤ o) (h1 : o < 4294967296) (hk : isObj o = false) :
    Calls Tryz.prog 125 #[.int .u32 o] w fun e w' => e = .returned (.tuple #[.int .i64 0, .int .i64 3]) ∧ w = w' := by
  have hk2 : (kindI o != 2) = true := by simpa using kind_ne hk
  go_enter Tryz.func125, Tryz.ntmps125
  go_wp2_with (go_at_call 85; refine (kind_any _ _ h0 h1).mono ?_; rintro e w' ⟨rfl, rfl⟩)
  go_ret2
  exact ⟨rfl, rfl⟩

set_option maxHeartbeats 400000 in
theorem at_ok (i : Int) (w : World) (h0 : 1 ≤ i) (h1 : i ≤ 2147483647) :
    Calls Tryz.prog 121 #[.int .i64 i] w fun e w' => e = .returned (.tuple #[.int .u32 (2 * i), .int .i64 0]) ∧ w = w' := by
  have e1 : IntKind.u32.wrap (2 * i) = 2 * i := wraps_u32 _ (by omega) (by omega)
  go_enter Tryz.func121, Tryz.ntmps121
  go_wp2
  go_ret2
  exact ⟨rfl, rfl⟩

/-- The variable 'spares' as the text lays it. -/
def Spares (w : World) : Prop := ∃ T fz, w.heap[0]? = some (.cells #[.bool false, .bool false, .bool true, .bool false, .bool false] T fz)
theorem Spares.cell {w : World} (h : Spares w) (f : Int) (h0 : 1 ≤ f) (h1 : f ≤ 4) : w.cell? ⟨0, f.toNat, none⟩ = some (.bool (f == 2)) := by
  obtain ⟨T, fz, h⟩ := h
  obtain rfl | rfl | rfl | rfl : f = 1 ∨ f = 2 ∨ f = 3 ∨ f = 4 := by omega
  all_goals simp [World.cell?, h]
theorem Spares.pos {w : World} (h : Spares w) : 0 < w.heap.size := by
  obtain ⟨T, fz, h⟩ := h
  exact (Array.getElem?_eq_some_iff.1 h).1
theorem Spares.kept {B : Nat} {w w' : World} (h : Spares w) (hb : Below B w w') (hB : 0 < B) : Spares w' := by
  obtain ⟨T, fz, h⟩ := h
  exact ⟨T, fz, by rw [hb.block 0 hB]; exact h⟩

set_option maxHeartbeats 1000000 in
theorem may_any (h : Hdr) (w : World) (hs : Spares w) :
    Calls Tryz.prog 149 #[h.val] w fun e w' => e = .returned (.bool (mayB h)) ∧ Ext w w' := by
  obtain ⟨sz, f, sp, c, s⟩ := h
  have hp := hs.pos
  by_cases hf : 1 ≤ f ∧ f ≤ 4
  · have hc := hs.cell f hf.1 hf.2
    obtain ⟨hf1, hf2⟩ := hf
    simp only [Hdr.val, Hdr.cells]
    clear hs
    go_enter Tryz.func149, Tryz.ntmps149
    go_wp2
    all_goals (go_ret; refine ⟨?_, (Ext.refl _).alloc _⟩; congr 2; simp_all [mayB]; try omega)
  · have hfn : f ≤ 0 ∨ 4 < f := by omega
    clear hs hf
    simp only [Hdr.val, Hdr.cells]
    rcases hfn with h | h
    all_goals
      go_enter Tryz.func149, Tryz.ntmps149
      go_wp2
      all_goals (go_ret; refine ⟨?_, (Ext.refl _).alloc _⟩; congr 2; simp [mayB]; try omega)

theorem pack_bits (sz f sp : Int) (h1 : 0 ≤ sz) (h2 : sz ≤ 16777215) (h3 : 0 ≤ f) (h4 : f ≤ 7) (h5 : 0 ≤ sp) (h6 : sp ≤ 3) :
    bits .or .u32 (bits .or .u32 sz (f * 16777216)) (sp * 134217728) = sz + f * 16777216 + sp * 134217728 := by
  have c1 := bits_or_comm_u32 sz (f * 16777216)
  have a1 := bits_join .u32 32 (by decide) wraps_u32 24 (f * 16777216) sz (by omega) (by omega) (by omega) h1 (by omega) (by omega)
  have c2 := bits_or_comm_u32 (sz + f * 16777216) (sp * 134217728)
  have a2 := bits_join .u32 32 (by decide) wraps_u32 27 (sp * 134217728) (sz + f * 16777216) (by omega) (by omega) (by omega) (by omega) (by omega) (by omega)
  rw [c1, a1, Int.add_comm (f * 16777216) sz, c2, a2]; omega

set_option maxHeartbeats 1000000 in
theorem pack_any (h : Hdr) (w : World) (hz : 0 ≤ h.size ∧ h.size ≤ 16777215) (hf : 0 ≤ h.fmt ∧ h.fmt ≤ 7) (hsp : 0 ≤ h.spare ∧ h.spare ≤ 3) :
    Calls Tryz.prog 150 #[h.val] w fun e w' => e = .returned (.agg #[.int .u32 (packW h), .int .u32 h.cls, .int .u32 h.ser]) ∧ Ext w w' := by
  obtain ⟨sz, f, sp, c, s⟩ := h
  obtain ⟨hz1, hz2⟩ := hz
  obtain ⟨hf1, hf2⟩ := hf
  obtain ⟨hp1, hp2⟩ := hsp
  simp only at hz1 hz2 hf1 hf2 hp1 hp2
  have e1 : IntKind.u32.wrap sz = sz := wraps_u32 _ (by omega) (by omega)
  have e2 : IntKind.u32.wrap f = f := wraps_u32 _ (by omega) (by omega)
  have e3 : IntKind.u32.wrap sp = sp := wraps_u32 _ (by omega) (by omega)
  have e4 := pack_bits sz f sp hz1 hz2 hf1 hf2 hp1 hp2
  simp only [Hdr.val, Hdr.cells]
  go_enter Tryz.func150, Tryz.ntmps150
  go_wp2
  exact bodyPost_ret (v := .agg #[.int .u32 (sz + f * 16777216 + sp * 134217728), .int .u32 c, .int .u32 s]) (by simp [results, Tryz.results150, go_sem]) rfl ⟨rfl, ((Ext.refl _).alloc _).alloc _⟩

set_option maxHeartbeats 1000000 in
theorem packH_ok (h : Hdr) (w : World) (hs : Spares w) (hm : mayB h = true) :
    Calls Tryz.prog 134 #[h.val] w fun e w' => e = .returned (.tuple #[.agg #[.int .u32 (packW h), .int .u32 h.cls, .int .u32 h.ser], .int .i64 0]) ∧ Ext w w' := by
  have hm' := hm
  simp [mayB] at hm'
  obtain ⟨sz, f, sp, c, s⟩ := h
  simp only at hm'
  have hp := hs.pos
  have M := Lib.hid hm
  clear hm
  simp only [Hdr.val, Hdr.cells]
  go_enter Tryz.func134, Tryz.ntmps134
  go_wp2_with fail
  refine (may_any ⟨sz, f, sp, c, s⟩ _ ?_).mono ?_
  · exact hs.kept (((Ext.refl _).alloc _).alloc _) hp
  rintro e w1 ⟨rfl, hb⟩
  rw [M.out]
  obtain ⟨hc, hf⟩ := hb.rules
  have hz : w.heap.size + 1 < w1.heap.size := by have := hb.size; simp at this; omega
  have HB := Lib.hid hb
  clear hb
  go_wp2_with fail
  refine (pack_any ⟨sz, f, sp, c, s⟩ _ ⟨?_, ?_⟩ ⟨?_, ?_⟩ ⟨?_, ?_⟩).mono ?_
  all_goals (try (simp only; omega))
  rintro e w2 ⟨rfl, hb2⟩
  obtain ⟨hc2, hf2⟩ := hb2.rules
  have HB2 := Lib.hid hb2
  clear hb2
  go_wp2
  refine bodyPost_ret (v := .tuple #[.agg #[.int .u32 (packW ⟨sz, f, sp, c, s⟩), .int .u32 c, .int .u32 s], .int .i64 0]) (by simp [results, Tryz.results134, go_sem, hc, hc2, hz]) rfl ⟨rfl, ?_⟩
  exact (((((((Ext.refl w).alloc _).alloc _).trans HB.out).trans HB2.out).setCell (by simp) _).setCell (by simp) _).setCell (by simp) _

end Go.Proofs.Eff

/- oop.Unpack. -/
namespace Go.Proofs.Eff
open Go.RowKit

theorem mayB_hdr (a c s : Int) : mayB (hdrOf a c s) = mayB (hdrOf a 0 0) := rfl
theorem okW_may {a : Int} (c s : Int) (h : okW a = true) : mayB (hdrOf a c s) = true := by
  rw [mayB_hdr]; simp only [okW, Bool.and_eq_true] at h; exact h.1
theorem okW_pack {a : Int} (c s : Int) (h : okW a = true) : packW (hdrOf a c s) = a := by
  simp only [okW, Bool.and_eq_true, beq_iff_eq] at h; simp [packW, hdrOf]; omega

set_option maxHeartbeats 1000000 in
theorem unpack_ok (a c s : Int) (w : World) (hs : Spares w) (h0 : 0 ≤ a) (h1 : a < 4294967296) (hm : okW a = true) :
    Calls Tryz.prog 108 #[.agg #[.int .u32 a, .int .u32 c, .int .u32 s]] w fun e w' => e = .returned (.tuple #[(hdrOf a c s).val, .int .i64 0]) ∧ Ext w w' := by
  have e1 := u32_and24 h0 h1
  have e2 := u32_and7 (x := a / 16777216) (by omega) (by omega)
  have e3 := u32_and3 (x := a / 134217728) (by omega) (by omega)
  have hp := hs.pos
  have hneq : ∀ w', (binOp .neq 119 (.agg #[.int .u32 a, .int .u32 c, .int .u32 s]) (.agg #[.int .u32 a, .int .u32 c, .int .u32 s])).run Tryz.prog w' = .ok (.bool false) w' := fun w' => by
    rw [run_neq_arr3 w' 119 24 Tryz.underlying119 Tryz.underlying24 (fun _ => by kernel_rfl)]; simp
  have M := Lib.hid (okW_may c s hm)
  have PK := Lib.hid (okW_pack c s hm)
  clear hm
  simp only [hdrOf, Hdr.val, Hdr.cells] at M PK ⊢
  have r1 : 0 ≤ a % 16777216 ∧ a % 16777216 ≤ 16777215 := by omega
  have r2 : 0 ≤ a / 16777216 % 8 ∧ a / 16777216 % 8 ≤ 7 := by omega
  have r3 : 0 ≤ a / 134217728 % 4 ∧ a / 134217728 % 4 ≤ 3 := by omega
  generalize a % 16777216 = A at *
  generalize a / 16777216 % 8 = B at *
  generalize a / 134217728 % 4 = C at *
  go_enter Tryz.func108, Tryz.ntmps108
  go_wp2
  obtain ⟨W, hW⟩ : ∃ W, W = ((w.alloc (Obj.cells #[Value.int IntKind.u32 a, Value.int IntKind.u32 c, Value.int IntKind.u32 s] 119)).alloc
      (Obj.cells #[Value.int IntKind.i64 0, Value.int IntKind.i64 0, Value.int IntKind.i64 0, Value.int IntKind.u32 0, Value.int IntKind.u32 0] 65)).alloc
      (Obj.cells #[Value.int IntKind.i64 A, Value.int IntKind.i64 B, Value.int IntKind.i64 C, Value.int IntKind.u32 c, Value.int IntKind.u32 s] 65) := ⟨_, rfl⟩
  rw [← hW]
  have hE : Ext w W := by rw [hW]; exact (((Ext.refl w).alloc _).alloc _).alloc _
  have d0 : w.heap.size < W.heap.size := by rw [hW]; simp; omega
  have b0 : W.heap[w.heap.size]? = some (Obj.cells #[Value.int IntKind.u32 a, Value.int IntKind.u32 c, Value.int IntKind.u32 s] 119) := by rw [hW]; exact keepB (keepB (newB _ _ _ rfl) _) _
  have b1 : W.heap[w.heap.size + 1]? = some (Obj.cells #[Value.int IntKind.i64 0, Value.int IntKind.i64 0, Value.int IntKind.i64 0, Value.int IntKind.u32 0, Value.int IntKind.u32 0] 65) := by rw [hW]; exact keepB (newB _ _ _ (by simp)) _
  have b2 : W.heap[w.heap.size + 1 + 1]? = some (Obj.cells #[Value.int IntKind.i64 A, Value.int IntKind.i64 B, Value.int IntKind.i64 C, Value.int IntKind.u32 c, Value.int IntKind.u32 s] 65) := by rw [hW]; exact newB _ _ _ (by simp)
  have hS : Spares W := hs.kept hE hp
  have HK : Hid (∀ w', Ext W w' → _ ∧ _ ∧ Ext W w') := fun w' h => ⟨(blk (h.keep b0)).1, (blk (h.keep b2)).1, h⟩
  have B1 := Lib.hid b1
  clear hW hs e1 e2 e3 b0 b1 b2
  go_region_held3 (fun w' => (∀ i, w'.cell? ⟨w.heap.size, i, none⟩ = (#[Value.int IntKind.u32 a, Value.int IntKind.u32 c, Value.int IntKind.u32 s])[i]?) ∧ (∀ i, w'.cell? ⟨w.heap.size + 1 + 1, i, none⟩ = (#[Value.int IntKind.i64 A, Value.int IntKind.i64 B, Value.int IntKind.i64 C, Value.int IntKind.u32 c, Value.int IntKind.u32 s])[i]?) ∧ Ext W w') (first | exact HK.out _ (Ext.refl _).drew | exact HK.out _ (Ext.trans (‹_ ∧ _ ∧ Ext W _›).2.2 hb))
    (first | (go_at_call 149; refine (may_any ⟨A, B, C, c, s⟩ _ ?_).mono ?_; (exact hS.kept (‹_ ∧ _ ∧ Ext W _›).2.2 (by omega)); rintro e w' ⟨rfl, hb⟩; rw [M.out]) | (go_at_call 150; refine (pack_any ⟨A, B, C, c, s⟩ _ r1 r2 r3).mono ?_; rintro e w' ⟨rfl, hb⟩; rw [PK.out]))
  have hx := (‹_ ∧ _ ∧ Ext W _›).2.2
  obtain ⟨hc, hf⟩ := blk (hx.keep B1.out)
  have X := Lib.hid hx
  clear hx
  go_wp2
  refine bodyPost_ret (v := .tuple #[.agg #[.int .i64 A, .int .i64 B, .int .i64 C, .int .u32 c, .int .u32 s], .int .i64 0]) (by simp [results, Tryz.results108, go_sem, hc]) rfl ⟨rfl, ?_⟩
  refine Ext.setCell (Ext.setCell (Ext.setCell (Ext.setCell (Ext.setCell (hE.trans X.out) ?_ _) ?_ _) ?_ _) ?_ _) ?_ _
  all_goals simp

set_option maxHeartbeats 1000000 in
theorem unpack_bad1 (a c s : Int) (w : World) (hs : Spares w) (h0 : 0 ≤ a) (h1 : a < 4294967296) (hm : mayB (hdrOf a c s) = false) :
    Calls Tryz.prog 108 #[.agg #[.int .u32 a, .int .u32 c, .int .u32 s]] w fun e w' => e = .returned (.tuple #[Hdr.zero.val, .int .i64 10]) ∧ Ext w w' := by
  have e1 := u32_and24 h0 h1
  have e2 := u32_and7 (x := a / 16777216) (by omega) (by omega)
  have e3 := u32_and3 (x := a / 134217728) (by omega) (by omega)
  have hp := hs.pos
  have M := Lib.hid hm
  clear hm
  simp only [hdrOf, Hdr.zero, Hdr.val, Hdr.cells] at M ⊢
  have r1 : 0 ≤ a % 16777216 ∧ a % 16777216 ≤ 16777215 := by omega
  have r2 : 0 ≤ a / 16777216 % 8 ∧ a / 16777216 % 8 ≤ 7 := by omega
  have r3 : 0 ≤ a / 134217728 % 4 ∧ a / 134217728 % 4 ≤ 3 := by omega
  generalize a % 16777216 = A at *
  generalize a / 16777216 % 8 = B at *
  generalize a / 134217728 % 4 = C at *
  go_enter Tryz.func108, Tryz.ntmps108
  go_wp2
  obtain ⟨W, hW⟩ : ∃ W, W = ((w.alloc (Obj.cells #[Value.int IntKind.u32 a, Value.int IntKind.u32 c, Value.int IntKind.u32 s] 119)).alloc
      (Obj.cells #[Value.int IntKind.i64 0, Value.int IntKind.i64 0, Value.int IntKind.i64 0, Value.int IntKind.u32 0, Value.int IntKind.u32 0] 65)).alloc
      (Obj.cells #[Value.int IntKind.i64 A, Value.int IntKind.i64 B, Value.int IntKind.i64 C, Value.int IntKind.u32 c, Value.int IntKind.u32 s] 65) := ⟨_, rfl⟩
  rw [← hW]
  have hE : Ext w W := by rw [hW]; exact (((Ext.refl w).alloc _).alloc _).alloc _
  have d0 : w.heap.size < W.heap.size := by rw [hW]; simp; omega
  have b1 : W.heap[w.heap.size + 1]? = some (Obj.cells #[Value.int IntKind.i64 0, Value.int IntKind.i64 0, Value.int IntKind.i64 0, Value.int IntKind.u32 0, Value.int IntKind.u32 0] 65) := by rw [hW]; exact keepB (newB _ _ _ (by simp)) _
  have b2 : W.heap[w.heap.size + 1 + 1]? = some (Obj.cells #[Value.int IntKind.i64 A, Value.int IntKind.i64 B, Value.int IntKind.i64 C, Value.int IntKind.u32 c, Value.int IntKind.u32 s] 65) := by rw [hW]; exact newB _ _ _ (by simp)
  have hS : Spares W := hs.kept hE hp
  have HK : Hid (∀ w', Ext W w' → _ ∧ Ext W w') := fun w' h => ⟨(blk (h.keep b2)).1, h⟩
  have B1 := Lib.hid b1
  clear hW hs e1 e2 e3 b1
  have d1 : Ext W W.drew := (Ext.refl _).drew
  obtain ⟨c1, f1⟩ := blk (b := w.heap.size + 1 + 1) b2
  clear b2
  go_region_with (go_at_call 149; refine (may_any ⟨A, B, C, c, s⟩ _ ?_).mono ?_; (exact hS.kept d1 (by omega)); rintro e w' ⟨rfl, hb⟩; rw [M.out])
  all_goals
    have hx := d1.trans hb
    obtain ⟨hc, hf⟩ := blk (hx.keep B1.out)
    have X := Lib.hid hx
    clear hx hb
    go_wp2
    refine bodyPost_ret (v := .tuple #[.agg #[.int .i64 0, .int .i64 0, .int .i64 0, .int .u32 0, .int .u32 0], .int .i64 10]) (by simp [results, Tryz.results108, go_sem, hc]) rfl ⟨rfl, ?_⟩
    refine Ext.setCell (Ext.setCell (Ext.setCell (Ext.setCell (Ext.setCell (hE.trans X.out) ?_ _) ?_ _) ?_ _) ?_ _) ?_ _
    all_goals simp

set_option maxHeartbeats 1000000 in
theorem unpack_bad2 (a c s : Int) (w : World) (hs : Spares w) (h0 : 0 ≤ a) (h1 : a < 4294967296) (hm : mayB (hdrOf a c s) = true) (hq : packW (hdrOf a c s) ≠ a) :
    Calls Tryz.prog 108 #[.agg #[.int .u32 a, .int .u32 c, .int .u32 s]] w fun e w' => e = .returned (.tuple #[Hdr.zero.val, .int .i64 10]) ∧ Ext w w' := by
  have e1 := u32_and24 h0 h1
  have e2 := u32_and7 (x := a / 16777216) (by omega) (by omega)
  have e3 := u32_and3 (x := a / 134217728) (by omega) (by omega)
  have hp := hs.pos
  obtain ⟨pk, hpk⟩ : ∃ pk, packW (hdrOf a c s) = pk := ⟨_, rfl⟩
  have hneq : ∀ w', (binOp .neq 119 (.agg #[.int .u32 pk, .int .u32 c, .int .u32 s]) (.agg #[.int .u32 a, .int .u32 c, .int .u32 s])).run Tryz.prog w' = .ok (.bool true) w' := fun w' => by
    rw [run_neq_arr3 w' 119 24 Tryz.underlying119 Tryz.underlying24 (fun _ => by kernel_rfl)]; simp [← hpk, hq]
  have M := Lib.hid hm
  have PK := Lib.hid hpk
  clear hm hpk hq
  simp only [hdrOf, Hdr.zero, Hdr.val, Hdr.cells] at M PK ⊢
  have r1 : 0 ≤ a % 16777216 ∧ a % 16777216 ≤ 16777215 := by omega
  have r2 : 0 ≤ a / 16777216 % 8 ∧ a / 16777216 % 8 ≤ 7 := by omega
  have r3 : 0 ≤ a / 134217728 % 4 ∧ a / 134217728 % 4 ≤ 3 := by omega
  generalize a % 16777216 = A at *
  generalize a / 16777216 % 8 = B at *
  generalize a / 134217728 % 4 = C at *
  go_enter Tryz.func108, Tryz.ntmps108
  go_wp2
  obtain ⟨W, hW⟩ : ∃ W, W = ((w.alloc (Obj.cells #[Value.int IntKind.u32 a, Value.int IntKind.u32 c, Value.int IntKind.u32 s] 119)).alloc
      (Obj.cells #[Value.int IntKind.i64 0, Value.int IntKind.i64 0, Value.int IntKind.i64 0, Value.int IntKind.u32 0, Value.int IntKind.u32 0] 65)).alloc
      (Obj.cells #[Value.int IntKind.i64 A, Value.int IntKind.i64 B, Value.int IntKind.i64 C, Value.int IntKind.u32 c, Value.int IntKind.u32 s] 65) := ⟨_, rfl⟩
  rw [← hW]
  have hE : Ext w W := by rw [hW]; exact (((Ext.refl w).alloc _).alloc _).alloc _
  have d0 : w.heap.size < W.heap.size := by rw [hW]; simp; omega
  have b0 : W.heap[w.heap.size]? = some (Obj.cells #[Value.int IntKind.u32 a, Value.int IntKind.u32 c, Value.int IntKind.u32 s] 119) := by rw [hW]; exact keepB (keepB (newB _ _ _ rfl) _) _
  have b1 : W.heap[w.heap.size + 1]? = some (Obj.cells #[Value.int IntKind.i64 0, Value.int IntKind.i64 0, Value.int IntKind.i64 0, Value.int IntKind.u32 0, Value.int IntKind.u32 0] 65) := by rw [hW]; exact keepB (newB _ _ _ (by simp)) _
  have b2 : W.heap[w.heap.size + 1 + 1]? = some (Obj.cells #[Value.int IntKind.i64 A, Value.int IntKind.i64 B, Value.int IntKind.i64 C, Value.int IntKind.u32 c, Value.int IntKind.u32 s] 65) := by rw [hW]; exact newB _ _ _ (by simp)
  have hS : Spares W := hs.kept hE hp
  have HK : Hid (∀ w', Ext W w' → _ ∧ _ ∧ Ext W w') := fun w' h => ⟨(blk (h.keep b0)).1, (blk (h.keep b2)).1, h⟩
  have B1 := Lib.hid b1
  clear hW hs e1 e2 e3 b0 b1 b2
  go_region_held3 (fun w' => (∀ i, w'.cell? ⟨w.heap.size, i, none⟩ = (#[Value.int IntKind.u32 a, Value.int IntKind.u32 c, Value.int IntKind.u32 s])[i]?) ∧ (∀ i, w'.cell? ⟨w.heap.size + 1 + 1, i, none⟩ = (#[Value.int IntKind.i64 A, Value.int IntKind.i64 B, Value.int IntKind.i64 C, Value.int IntKind.u32 c, Value.int IntKind.u32 s])[i]?) ∧ Ext W w') (first | exact HK.out _ (Ext.refl _).drew | exact HK.out _ (Ext.trans (‹_ ∧ _ ∧ Ext W _›).2.2 hb))
    (first | (go_at_call 149; refine (may_any ⟨A, B, C, c, s⟩ _ ?_).mono ?_; (exact hS.kept (‹_ ∧ _ ∧ Ext W _›).2.2 (by omega)); rintro e w' ⟨rfl, hb⟩; rw [M.out]) | (go_at_call 150; refine (pack_any ⟨A, B, C, c, s⟩ _ r1 r2 r3).mono ?_; rintro e w' ⟨rfl, hb⟩; rw [PK.out]))
  have hx := (‹_ ∧ _ ∧ Ext W _›).2.2
  obtain ⟨hc, hf⟩ := blk (hx.keep B1.out)
  have X := Lib.hid hx
  clear hx
  go_wp2
  refine bodyPost_ret (v := .tuple #[.agg #[.int .i64 0, .int .i64 0, .int .i64 0, .int .u32 0, .int .u32 0], .int .i64 10]) (by simp [results, Tryz.results108, go_sem, hc]) rfl ⟨rfl, ?_⟩
  refine Ext.setCell (Ext.setCell (Ext.setCell (Ext.setCell (Ext.setCell (hE.trans X.out) ?_ _) ?_ _) ?_ _) ?_ _) ?_ _
  all_goals simp




theorem unpack_bad (a c s : Int) (w : World) (hs : Spares w) (h0 : 0 ≤ a) (h1 : a < 4294967296) (hm : okW a = false) :
    Calls Tryz.prog 108 #[.agg #[.int .u32 a, .int .u32 c, .int .u32 s]] w fun e w' => e = .returned (.tuple #[Hdr.zero.val, .int .i64 10]) ∧ Ext w w' := by
  cases h : mayB (hdrOf a c s) with
  | false => exact unpack_bad1 a c s w hs h0 h1 h
  | true =>
    refine unpack_bad2 a c s w hs h0 h1 h ?_
    have h' := h
    rw [mayB_hdr] at h'
    simp [okW, h'] at hm
    simp [packW, hdrOf]; omega

end Go.Proofs.Eff

/- heap: small functions. -/
namespace Go.Proofs.Eff
open Go.RowKit

section
variable {w : World} {L : HLoc} {h : HeapS} {os : List Nat}

set_option maxHeartbeats 400000 in
theorem made_ok (ha : HeapAt w L h) (wf : WF h os) :
    Calls Tryz.prog 47 #[.pointer (some ⟨L.b, 0, none⟩)] w fun e w' => e = .returned (.bool true) ∧ w = w' := by
  obtain ⟨c1, _⟩ := ha.rules
  have s1 := wf.size0
  clear ha wf
  go_enter Tryz.func47, Tryz.ntmps47
  go_wp2
  go_ret
  refine ⟨?_, rfl⟩
  congr 2
  simp; omega

set_option maxHeartbeats 400000 in
theorem made_nil (w : World) :
    Calls Tryz.prog 47 #[.pointer none] w fun e w' => e = .returned (.bool false) ∧ w = w' := by
  go_enter Tryz.func47, Tryz.ntmps47
  go_wp2
  go_ret
  exact ⟨rfl, rfl⟩

set_option maxHeartbeats 400000 in
theorem size_ok (ha : HeapAt w L h) (wf : WF h os) :
    Calls Tryz.prog 52 #[.pointer (some ⟨L.b, 0, none⟩)] w fun e w' => e = .returned (.int .i64 h.size) ∧ w = w' := by
  have hm := made_ok ha wf
  obtain ⟨c1, _⟩ := ha.rules
  have HM := Lib.hid hm
  clear ha wf hm
  go_enter Tryz.func52, Tryz.ntmps52
  go_wp2_with (go_at_call 47; refine HM.out.mono ?_; rintro e w' ⟨rfl, rfl⟩)
  go_ret
  exact ⟨rfl, rfl⟩

set_option maxHeartbeats 400000 in
theorem last_ok (ha : HeapAt w L h) (wf : WF h os) :
    Calls Tryz.prog 53 #[.pointer (some ⟨L.b, 0, none⟩)] w fun e w' => e = .returned (.int .u32 h.last) ∧ w = w' := by
  have hm := made_ok ha wf
  obtain ⟨c1, _⟩ := ha.rules
  have HM := Lib.hid hm
  clear ha wf hm
  go_enter Tryz.func53, Tryz.ntmps53
  go_wp2_with (go_at_call 47; refine HM.out.mono ?_; rintro e w' ⟨rfl, rfl⟩)
  go_ret
  exact ⟨rfl, rfl⟩

set_option maxHeartbeats 400000 in
theorem is_any (ha : HeapAt w L h) (wf : WF h os) (o : Int) (h0 : 0 ≤ o) (h1 : o < 4294967296) :
    Calls Tryz.prog 78 #[.pointer (some ⟨L.b, 0, none⟩), .int .u32 o] w fun e w' => e = .returned (.bool (isO os o)) ∧ w = w' := by
  have hm := made_ok ha wf
  obtain ⟨c1, _⟩ := ha.rules
  have sl := wf.slen
  have HM := Lib.hid hm
  cases hk : isObj o with
  | false =>
    have HI := Lib.hid (index_no o w h0 h1 hk)
    have hr : isO os o = false := by simp [isO, hk]
    rw [hr]
    clear ha wf hm
    go_enter Tryz.func78, Tryz.ntmps78
    go_wp2_with (first | (go_at_call 47; refine HM.out.mono ?_; rintro e w' ⟨rfl, rfl⟩) | (go_at_call 125; refine HI.out.mono ?_; rintro e w' ⟨rfl, rfl⟩))
    go_ret
    exact ⟨rfl, rfl⟩
  | true =>
    have HI := Lib.hid (index_obj o w h0 h1 hk)
    have hb := wf.big
    by_cases hl : (o / 2).toNat < h.words.length
    · have hs := ha.start (o / 2).toNat (by omega)
      have hr : isO os o = bd h.starts (o / 2).toNat := by simp [isO, hk, wf.start hl]
      rw [hr]
      have hl2 : o / 2 < (h.starts.length : Int) := by omega
      have hl3 : 0 ≤ o / 2 := by omega
      clear ha wf hm sl hr
      go_enter Tryz.func78, Tryz.ntmps78
      go_wp2_with (first | (go_at_call 47; refine HM.out.mono ?_; rintro e w' ⟨rfl, rfl⟩) | (go_at_call 125; refine HI.out.mono ?_; rintro e w' ⟨rfl, rfl⟩))
      go_ret
      exact ⟨rfl, rfl⟩
    · have hr : isO os o = false := by
        cases hc : isO os o with
        | false => rfl
        | true =>
          have := wf.mem (wf.isO_lt hc).2
          omega
      rw [hr]
      have hl2 : decide (o / 2 < (h.starts.length : Int)) = false := by simp; omega
      clear ha wf hm sl hr
      go_enter Tryz.func78, Tryz.ntmps78
      go_wp2_with (first | (go_at_call 47; refine HM.out.mono ?_; rintro e w' ⟨rfl, rfl⟩) | (go_at_call 125; refine HI.out.mono ?_; rintro e w' ⟨rfl, rfl⟩))
      go_ret
      exact ⟨rfl, rfl⟩

set_option maxHeartbeats 400000 in
theorem value_any (ha : HeapAt w L h) (wf : WF h os) (o : Int) (h0 : 0 ≤ o) (h1 : o < 4294967296) :
    Calls Tryz.prog 82 #[.pointer (some ⟨L.b, 0, none⟩), .int .u32 o] w fun e w' => e = .returned (.bool (valueOK os o)) ∧ w = w' := by
  have HK := Lib.hid (kind_any o w h0 h1)
  have HI := Lib.hid (is_any ha wf o h0 h1)
  cases hk : isObj o with
  | false =>
    have hr : valueOK os o = true := by simp [valueOK, hk]
    have hk2 : (kindI o != 2) = true := by simpa using kind_ne hk
    rw [hr]
    clear ha wf
    go_enter Tryz.func82, Tryz.ntmps82
    go_wp2_with (first | (go_at_call 85; refine HK.out.mono ?_; rintro e w' ⟨rfl, rfl⟩) | (go_at_call 78; refine HI.out.mono ?_; rintro e w' ⟨rfl, rfl⟩))
    go_ret
    exact ⟨rfl, rfl⟩
  | true =>
    have hr : valueOK os o = isO os o := by simp [valueOK, isO, hk]
    have hk2 : (kindI o != 2) = false := by simpa using kind_obj hk
    rw [hr]
    clear ha wf hr
    go_enter Tryz.func82, Tryz.ntmps82
    go_wp2_with (first | (go_at_call 85; refine HK.out.mono ?_; rintro e w' ⟨rfl, rfl⟩) | (go_at_call 78; refine HI.out.mono ?_; rintro e w' ⟨rfl, rfl⟩))
    go_ret
    exact ⟨rfl, rfl⟩

set_option maxHeartbeats 400000 in
theorem class_any (ha : HeapAt w L h) (wf : WF h os) (o : Int) (h0 : 0 ≤ o) (h1 : o < 4294967296) :
    Calls Tryz.prog 111 #[.pointer (some ⟨L.b, 0, none⟩), .int .u32 o] w fun e w' => e = .returned (.bool (classOK os o)) ∧ w = w' := by
  have HI := Lib.hid (is_any ha wf o h0 h1)
  cases hk : (o == 0) with
  | true =>
    have hr : classOK os o = true := by simp [classOK, hk]
    rw [hr]
    clear ha wf
    go_enter Tryz.func111, Tryz.ntmps111
    go_wp2_with (go_at_call 78; refine HI.out.mono ?_; rintro e w' ⟨rfl, rfl⟩)
    go_ret
    exact ⟨rfl, rfl⟩
  | false =>
    have hr : classOK os o = isO os o := by simp [classOK, hk]
    rw [hr]
    clear ha wf hr
    go_enter Tryz.func111, Tryz.ntmps111
    go_wp2_with (go_at_call 78; refine HI.out.mono ?_; rintro e w' ⟨rfl, rfl⟩)
    go_ret
    exact ⟨rfl, rfl⟩

set_option maxHeartbeats 400000 in
theorem hat_ok (p : Value) (o : Int) (h0 : 0 ≤ o) (h1 : o < 4294967296) (hk : isObj o = true) :
    Calls Tryz.prog 80 #[p, .int .u32 o] w fun e w' => e = .returned (.int .i64 (o / 2)) ∧ w = w' := by
  have HI := Lib.hid (index_obj o w h0 h1 hk)
  go_enter Tryz.func80, Tryz.ntmps80
  go_wp2_with (go_at_call 125; refine HI.out.mono ?_; rintro e w' ⟨rfl, rfl⟩)
  go_ret
  exact ⟨rfl, rfl⟩

set_option maxHeartbeats 400000 in
theorem pointers_any (x : Hdr) (w : World) :
    Calls Tryz.prog 113 #[x.val] w fun e w' => e = .returned (.bool (x.fmt == 1 || x.fmt == 4)) ∧ Ext w w' := by
  obtain ⟨sz, f, sp, c, s⟩ := x
  simp only [Hdr.val, Hdr.cells]
  go_enter Tryz.func113, Tryz.ntmps113
  go_wp2
  all_goals (go_ret; refine ⟨congrArg (fun z => Ending.returned (.bool z)) ?_, (Ext.refl _).alloc _⟩; simp_all)

def lenH (x : Hdr) : Int := if x.fmt = 2 then 4 * x.size - x.spare else x.size
set_option maxHeartbeats 400000 in
theorem length_any (x : Hdr) (w : World) (h0 : 0 ≤ x.size) (h1 : x.size ≤ 65535) (h2 : 0 ≤ x.spare) (h3 : x.spare ≤ 3) :
    Calls Tryz.prog 133 #[x.val] w fun e w' => e = .returned (.int .i64 (lenH x)) ∧ Ext w w' := by
  obtain ⟨sz, f, sp, c, s⟩ := x
  simp only at h0 h1 h2 h3
  simp only [Hdr.val, Hdr.cells]
  go_enter Tryz.func133, Tryz.ntmps133
  go_wp2
  all_goals (go_ret; refine ⟨congrArg (fun z => Ending.returned (.int .i64 z)) ?_, (Ext.refl _).alloc _⟩; simp_all [lenH])

set_option maxHeartbeats 400000 in
theorem object_any (ha : HeapAt w L h) (wf : WF h os) (i : Int) (h0 : 1 ≤ i) (h1 : i ≤ 2147483647) :
    Calls Tryz.prog 151 #[.pointer (some ⟨L.b, 0, none⟩), .int .i64 i] w fun e w' => e = .returned (.int .u32 (objAt h.words.length i)) ∧ w = w' := by
  have HA := Lib.hid (at_ok i w h0 h1)
  obtain ⟨c1, _⟩ := ha.rules
  have hb := wf.big
  clear ha wf
  by_cases hl : i < h.words.length
  · rw [objAt, if_pos hl]
    go_enter Tryz.func151, Tryz.ntmps151
    go_wp2_with (go_at_call 121; refine HA.out.mono ?_; rintro e w' ⟨rfl, rfl⟩)
    go_ret
    exact ⟨rfl, rfl⟩
  · rw [objAt, if_neg hl]
    go_enter Tryz.func151, Tryz.ntmps151
    go_wp2_with (go_at_call 121; refine HA.out.mono ?_; rintro e w' ⟨rfl, rfl⟩)
    go_ret
    exact ⟨rfl, rfl⟩

set_option maxHeartbeats 400000 in
theorem first_any (ha : HeapAt w L h) (wf : WF h os) :
    Calls Tryz.prog 109 #[.pointer (some ⟨L.b, 0, none⟩)] w fun e w' => e = .returned (.int .u32 (objAt h.words.length 1)) ∧ w = w' := by
  have HO := Lib.hid (object_any ha wf 1 (by omega) (by omega))
  have HM := Lib.hid (made_ok ha wf)
  clear ha wf
  go_enter Tryz.func109, Tryz.ntmps109
  go_wp2_with (first | (go_at_call 47; refine HM.out.mono ?_; rintro e w' ⟨rfl, rfl⟩) | (go_at_call 151; refine HO.out.mono ?_; rintro e w' ⟨rfl, rfl⟩))
  go_ret
  exact ⟨rfl, rfl⟩

set_option maxHeartbeats 400000 in
theorem root_ok (ha : HeapAt w L h) (wf : WF h os) (i : Int) (h0 : 0 ≤ i) (h1 : i < 64) :
    Calls Tryz.prog 84 #[.pointer (some ⟨L.b, 0, none⟩), .int .i64 i] w fun e w' => e = .returned (.tuple #[.int .u32 (wd h.roots i.toNat), .int .i64 0]) ∧ w = w' := by
  have HM := Lib.hid (made_ok ha wf)
  obtain ⟨c1, _⟩ := ha.rules
  have hl := wf.rlen
  have hr := ha.root i.toNat (by omega)
  have hl2 : i < (h.roots.length : Int) := by omega
  clear ha wf hl
  go_enter Tryz.func84, Tryz.ntmps84
  go_wp2_with (go_at_call 47; refine HM.out.mono ?_; rintro e w' ⟨rfl, rfl⟩)
  go_ret2
  exact ⟨rfl, rfl⟩

end
end Go.Proofs.Eff

namespace Go.Proofs.Eff
open Go.RowKit

theorem arrayAt_119 (g n c : Nat) (w : World) : (Instr.arrayAt 119 (.slice (some ⟨g, n, none⟩) 3 c)).run Tryz.prog w = .ok (.pointer (some ⟨g, n, none⟩)) w := by kernel_rfl

theorem field65_0 (x : Int) (b c d e : Value) (w : World) : (Instr.field 65 (.agg #[.int .i64 x, b, c, d, e]) 0).run Tryz.prog w = .ok (.int .i64 x) w := by kernel_rfl

section
variable {w : World} {L : HLoc} {h : HeapS} {os : List Nat}

set_option maxRecDepth 100000 in
set_option maxHeartbeats 400000 in
theorem header_ok (ha : HeapAt w L h) (hs : Spares w) (i : Int) (h0 : 0 ≤ i) (h1 : i + 3 ≤ h.words.length) (hb : h.words.length ≤ 1048576) (hw : ∀ j, 0 ≤ wd h.words j ∧ wd h.words j < 4294967296) (hm : okW (wd h.words i.toNat) = true) :
    Calls Tryz.prog 79 #[.pointer (some ⟨L.b, 0, none⟩), .int .i64 i] w fun e w' => e = .returned (hdrAt h.words i.toNat).val ∧ Ext w w' := by
  obtain ⟨n, rfl⟩ := Int.eq_ofNat_of_zero_le h0
  simp only [Int.toNat_natCast] at *
  obtain ⟨c1, _⟩ := ha.rules
  have hp := hs.pos
  have k0 := ha.word n (by omega)
  have k1 := ha.word (n + 1) (by omega)
  have k2 := ha.word (n + 2) (by omega)
  have HU := Lib.hid (fun W hS => unpack_ok (wd h.words n) (wd h.words (n + 1)) (wd h.words (n + 2)) W hS (hw _).1 (hw _).2 hm)
  have hmx := row_max ha.words
  have hl := ha.lt
  have hl2 := row_lt ha.words
  obtain ⟨m1, m2⟩ := hmx
  clear m2
  have m3 : n + 3 ≤ L.cw := by omega
  have m4 : (n : Int) + 3 ≤ (L.cw : Int) := by omega
  have m5 : n ≤ L.cw := by omega
  change Calls _ _ _ _ (fun e w' => e = .returned (hdrOf (wd h.words n) (wd h.words (n + 1)) (wd h.words (n + 2))).val ∧ Ext w w')
  generalize wd h.words n = x0 at *
  generalize wd h.words (n + 1) = x1 at *
  generalize wd h.words (n + 2) = x2 at *
  generalize hdrOf x0 x1 x2 = H at *
  obtain ⟨A, B, C, c, s⟩ := H
  simp only [Hdr.val, Hdr.cells] at HU ⊢
  have hAA := arrayAt_119
  clear ha hw
  go_enter Tryz.func79, Tryz.ntmps79
  go_wp2_with fail
  refine (HU.out _ (hs.kept ((Ext.refl _).alloc _) hp)).mono ?_
  rintro e w1 ⟨rfl, hb1⟩
  obtain ⟨d1, f1⟩ := blk (hb1.keep (newB _ _ _ rfl))
  have hz : w.heap.size < w1.heap.size := lt_of_block (hb1.keep (newB _ _ _ rfl))
  have X := Lib.hid hb1
  clear hb1
  go_wp2
  refine bodyPost_ret (v := .agg #[.int .i64 A, .int .i64 B, .int .i64 C, .int .u32 c, .int .u32 s]) (by simp [results, Tryz.results79, go_sem, d1, hz]) rfl ⟨rfl, ?_⟩
  refine Ext.alloc ?_ _
  iterate 5 refine Ext.setCell ?_ (by simp) _
  exact ((Ext.refl w).alloc _).trans X.out

/-- An object's header, or none. -/
def hdrO (ws : List Int) (os : List Nat) (o : Int) : Hdr := if isO os o then hdrAt ws (o / 2).toNat else Hdr.zero

set_option maxRecDepth 100000 in
set_option maxHeartbeats 400000 in
theorem Header_ok (ha : HeapAt w L h) (wf : WF h os) (hs : Spares w) (o : Int) (h0 : 0 ≤ o) (h1 : o < 4294967296) (ho : isO os o = true) :
    Calls Tryz.prog 22 #[.pointer (some ⟨L.b, 0, none⟩), .int .u32 o] w fun e w' => e = .returned (.tuple #[(hdrAt h.words (o / 2).toNat).val, .int .i64 0]) ∧ Ext w w' := by
  have hp := hs.pos
  have hm := wf.mem (wf.isO_lt ho).2
  have HI := Lib.hid (fun W (hE : Ext w W) => is_any (ha.keep hE) wf o h0 h1)
  have HT := Lib.hid (fun W => hat_ok (w := W) (.pointer (some ⟨L.b, 0, none⟩)) o h0 h1 (wf.isO_lt ho).1)
  have HH := Lib.hid (fun W (hE : Ext w W) => header_ok (ha.keep hE) (hs.kept hE hp) (o / 2) (by omega) (by omega) wf.big wf.word hm.2.2)
  generalize hdrAt h.words (o / 2).toNat = H at *
  obtain ⟨A, B, C, c, s⟩ := H
  simp only [Hdr.val, Hdr.cells, ho] at HH HI ⊢
  clear ha wf hm hs ho
  go_enter Tryz.func22, Tryz.ntmps22
  go_wp2_with (first | (go_at_call 78; refine (HI.out _ ((Ext.refl _).alloc _)).mono ?_; rintro e w' ⟨rfl, rfl⟩) | (go_at_call 80; refine (HT.out _).mono ?_; rintro e w' ⟨rfl, rfl⟩) | (go_at_call 79; refine (HH.out _ ((Ext.refl _).alloc _)).mono ?_; rintro e w1 ⟨rfl, hb1⟩; obtain ⟨d1, f1⟩ := blk (hb1.keep (newB _ _ _ rfl)); have X := Lib.hid hb1; clear hb1))
  refine bodyPost_ret (v := .tuple #[.agg #[.int .i64 A, .int .i64 B, .int .i64 C, .int .u32 c, .int .u32 s], .int .i64 0]) (by simp [results, Tryz.results22, go_sem, d1]) rfl ⟨rfl, ?_⟩
  iterate 5 refine Ext.setCell ?_ (by simp) _
  exact ((Ext.refl w).alloc _).trans X.out

set_option maxRecDepth 100000 in
set_option maxHeartbeats 400000 in
theorem Header_no (ha : HeapAt w L h) (wf : WF h os) (o : Int) (h0 : 0 ≤ o) (h1 : o < 4294967296) (ho : isO os o = false) :
    Calls Tryz.prog 22 #[.pointer (some ⟨L.b, 0, none⟩), .int .u32 o] w fun e w' => e = .returned (.tuple #[Hdr.zero.val, .int .i64 3]) ∧ Ext w w' := by
  have HI := Lib.hid (fun W (hE : Ext w W) => is_any (ha.keep hE) wf o h0 h1)
  simp only [Hdr.zero, Hdr.val, Hdr.cells, ho] at HI ⊢
  clear ha wf ho
  go_enter Tryz.func22, Tryz.ntmps22
  go_wp2_with (go_at_call 78; refine (HI.out _ ((Ext.refl _).alloc _)).mono ?_; rintro e w' ⟨rfl, rfl⟩)
  refine bodyPost_ret (v := .tuple #[.agg #[.int .i64 0, .int .i64 0, .int .i64 0, .int .u32 0, .int .u32 0], .int .i64 3]) (by simp [results, Tryz.results22, go_sem]) rfl ⟨rfl, ?_⟩
  exact (Ext.refl w).alloc _

/-- The object behind one. -/
def nextO (ws : List Int) (o : Int) : Int := objAt ws.length (o / 2 + 3 + sizeAt ws (o / 2).toNat)

set_option maxRecDepth 100000 in
set_option maxHeartbeats 400000 in
theorem Next_ok (ha : HeapAt w L h) (wf : WF h os) (hs : Spares w) (o : Int) (h0 : 0 ≤ o) (h1 : o < 4294967296) (ho : isO os o = true) :
    Calls Tryz.prog 110 #[.pointer (some ⟨L.b, 0, none⟩), .int .u32 o] w fun e w' => e = .returned (.tuple #[.int .u32 (nextO h.words o), .int .i64 0]) ∧ Ext w w' := by
  have hp := hs.pos
  have hm := wf.mem (wf.isO_lt ho).2
  have hw := wf.word (o / 2).toNat
  have hz : (hdrAt h.words (o / 2).toNat).size = sizeAt h.words (o / 2).toNat := by simp [hdrAt, hdrOf, sizeAt]; omega
  have hbig := wf.big
  have HI := Lib.hid (fun W (hE : Ext w W) => is_any (ha.keep hE) wf o h0 h1)
  have HT := Lib.hid (fun W => hat_ok (w := W) (.pointer (some ⟨L.b, 0, none⟩)) o h0 h1 (wf.isO_lt ho).1)
  have HH := Lib.hid (fun W (hE : Ext w W) => header_ok (ha.keep hE) (hs.kept hE hp) (o / 2) (by omega) (by omega) wf.big wf.word hm.2.2)
  have HO := Lib.hid (fun W (hE : Ext w W) => object_any (ha.keep hE) wf (o / 2 + 3 + sizeAt h.words (o / 2).toNat) (by omega) (by omega))
  generalize hdrAt h.words (o / 2).toNat = H at *
  obtain ⟨A, B, C, c, s⟩ := H
  simp only [Hdr.val, Hdr.cells, ho] at hz HH HI ⊢
  subst hz
  have hb1 : 0 ≤ o / 2 := by omega
  have hb2 : o / 2 + 3 + (sizeAt h.words (o / 2).toNat : Int) ≤ 1048576 := by omega
  have hF := field65_0
  clear ha wf hm hs ho hw hbig
  unfold nextO
  generalize sizeAt h.words (o / 2).toNat = Z at *
  go_enter Tryz.func110, Tryz.ntmps110
  go_wp2_with (first | (go_at_call 78; refine (HI.out _ (Ext.refl _)).mono ?_; rintro e w' ⟨rfl, rfl⟩) | (go_at_call 80; refine (HT.out _).mono ?_; rintro e w' ⟨rfl, rfl⟩) | (go_at_call 79; refine (HH.out _ (Ext.refl _)).mono ?_; rintro e w1 ⟨rfl, hb1⟩; have X := Lib.hid hb1; clear hb1) | (go_at_call 151; refine (HO.out _ X.out).mono ?_; rintro e w' ⟨rfl, rfl⟩))
  go_ret2
  exact ⟨rfl, X.out⟩

end
end Go.Proofs.Eff

/- slices.Clone at three types. -/
namespace Go.Proofs.Eff
open Go.RowKit

theorem Tryz.cinfo24 : (Tryz.prog.info? 24).map (fun i => (i.zero, i.size, i.bytes)) = some (some (.int .u32 0), 1, 4) := by kernel_rfl

set_option maxRecDepth 100000 in
set_option maxHeartbeats 400000 in
theorem clone48 (ad : Addr) (xs : List Value) (cap : Nat) (w : World) (hr : RRow w ad xs) (hl : ad.block < w.heap.size) (h1 : ∀ u, u ∈ xs → u.oneCell' = true) (hb : xs.length * 4 ≤ 140737488355328) :
    Calls Tryz.prog 48 #[.slice (some ad) xs.length cap] w fun e w' => ∃ g c, e = .returned (.slice (some ⟨g, 0, none⟩) xs.length c) ∧ w'.ownsRow w.heap.size 24 1 (.slice (some ⟨g, 0, none⟩) xs.length c) xs.length xs ∧ Ext w w' := by
  obtain ⟨i0, hi, hz0, hz1, hz2⟩ := info_parts Tryz.cinfo24
  have hb2 : xs.length ≤ maxLen := by unfold maxLen; omega
  have hnil : ∀ w, (binOp .eql 22 (.slice (some ad) xs.length cap) (.slice none 0 0)).run Tryz.prog w = .ok (.bool false) w := fun w => by rw [Lib.run_eql_slice_nil (P := Tryz.prog) w 22 24 _ _ _ _ _ Tryz.underlying22]; rfl
  have HR := Lib.hid hr
  clear hr
  go_enter Tryz.func48, Tryz.ntmps48
  go_wp2_with (at_builtin; refine wpList_append_own _ rfl _ _ 22 rfl w.heap.size 24 i0 (.int .u32 0) 1 4 Tryz.underlying22 hi hz0 hz1 hz2 rfl (by decide) _ 0 [] rfl (World.ownsRow_lit w #[] 0 (Nat.le_refl _) (by unfold maxLen; omega) rfl) ad xs.length cap xs rfl (by simp) (HR.out.keep ((Ext.refl _).alloc _) hl) h1 (by simpa using hb2) (by simpa using hb) (by simp) ?_; intro v' w1 hown hgrow hnil2)
  simp only [Nat.zero_add, List.nil_append] at hown
  have hv : v' ≠ .slice none 0 0 := fun h => by have := (hnil2.1 h).1; simp [go_sem] at this
  obtain ⟨g, c, rfl⟩ := own_form hown hv
  go_ret
  refine ⟨g, c, rfl, hown, ((Ext.refl w).alloc _).grown hgrow ?_⟩
  intro k hk
  simp [go_sem, Value.ownBlock] at hk
  omega

theorem Tryz.cinfo41 : (Tryz.prog.info? 41).map (fun i => (i.zero, i.size, i.bytes)) = some (some (.int .u32 0), 1, 4) := by kernel_rfl

set_option maxRecDepth 100000 in
set_option maxHeartbeats 400000 in
theorem clone49 (ad : Addr) (xs : List Value) (cap : Nat) (w : World) (hr : RRow w ad xs) (hl : ad.block < w.heap.size) (h1 : ∀ u, u ∈ xs → u.oneCell' = true) (hb : xs.length * 4 ≤ 140737488355328) :
    Calls Tryz.prog 49 #[.slice (some ad) xs.length cap] w fun e w' => ∃ g c, e = .returned (.slice (some ⟨g, 0, none⟩) xs.length c) ∧ w'.ownsRow w.heap.size 41 1 (.slice (some ⟨g, 0, none⟩) xs.length c) xs.length xs ∧ Ext w w' := by
  obtain ⟨i0, hi, hz0, hz1, hz2⟩ := info_parts Tryz.cinfo41
  have hb2 : xs.length ≤ maxLen := by unfold maxLen; omega
  have hnil : ∀ w, (binOp .eql 23 (.slice (some ad) xs.length cap) (.slice none 0 0)).run Tryz.prog w = .ok (.bool false) w := fun w => by rw [Lib.run_eql_slice_nil (P := Tryz.prog) w 23 41 _ _ _ _ _ Tryz.underlying23]; rfl
  have HR := Lib.hid hr
  clear hr
  go_enter Tryz.func49, Tryz.ntmps49
  go_wp2_with (at_builtin; refine wpList_append_own _ rfl _ _ 23 rfl w.heap.size 41 i0 (.int .u32 0) 1 4 Tryz.underlying23 hi hz0 hz1 hz2 rfl (by decide) _ 0 [] rfl (World.ownsRow_lit w #[] 0 (Nat.le_refl _) (by unfold maxLen; omega) rfl) ad xs.length cap xs rfl (by simp) (HR.out.keep ((Ext.refl _).alloc _) hl) h1 (by simpa using hb2) (by simpa using hb) (by simp) ?_; intro v' w1 hown hgrow hnil2)
  simp only [Nat.zero_add, List.nil_append] at hown
  have hv : v' ≠ .slice none 0 0 := fun h => by have := (hnil2.1 h).1; simp [go_sem] at this
  obtain ⟨g, c, rfl⟩ := own_form hown hv
  go_ret
  refine ⟨g, c, rfl, hown, ((Ext.refl w).alloc _).grown hgrow ?_⟩
  intro k hk
  simp [go_sem, Value.ownBlock] at hk
  omega

theorem Tryz.cinfo4 : (Tryz.prog.info? 4).map (fun i => (i.zero, i.size, i.bytes)) = some (some (.bool false), 1, 1) := by kernel_rfl

set_option maxRecDepth 100000 in
set_option maxHeartbeats 400000 in
theorem clone68 (ad : Addr) (xs : List Value) (cap : Nat) (w : World) (hr : RRow w ad xs) (hl : ad.block < w.heap.size) (h1 : ∀ u, u ∈ xs → u.oneCell' = true) (hb : xs.length * 1 ≤ 140737488355328) :
    Calls Tryz.prog 68 #[.slice (some ad) xs.length cap] w fun e w' => ∃ g c, e = .returned (.slice (some ⟨g, 0, none⟩) xs.length c) ∧ w'.ownsRow w.heap.size 4 1 (.slice (some ⟨g, 0, none⟩) xs.length c) xs.length xs ∧ Ext w w' := by
  obtain ⟨i0, hi, hz0, hz1, hz2⟩ := info_parts Tryz.cinfo4
  have hb2 : xs.length ≤ maxLen := by unfold maxLen; omega
  have hnil : ∀ w, (binOp .eql 120 (.slice (some ad) xs.length cap) (.slice none 0 0)).run Tryz.prog w = .ok (.bool false) w := fun w => by rw [Lib.run_eql_slice_nil (P := Tryz.prog) w 120 4 _ _ _ _ _ Tryz.underlying120]; rfl
  have HR := Lib.hid hr
  clear hr
  go_enter Tryz.func68, Tryz.ntmps68
  go_wp2_with (at_builtin; refine wpList_append_own _ rfl _ _ 120 rfl w.heap.size 4 i0 (.bool false) 1 1 Tryz.underlying120 hi hz0 hz1 hz2 rfl (by decide) _ 0 [] rfl (World.ownsRow_lit w #[] 0 (Nat.le_refl _) (by unfold maxLen; omega) rfl) ad xs.length cap xs rfl (by simp) (HR.out.keep ((Ext.refl _).alloc _) hl) h1 (by simpa using hb2) (by simpa using hb) (by simp) ?_; intro v' w1 hown hgrow hnil2)
  simp only [Nat.zero_add, List.nil_append] at hown
  have hv : v' ≠ .slice none 0 0 := fun h => by have := (hnil2.1 h).1; simp [go_sem] at this
  obtain ⟨g, c, rfl⟩ := own_form hown hv
  go_ret
  refine ⟨g, c, rfl, hown, ((Ext.refl w).alloc _).grown hgrow ?_⟩
  intro k hk
  simp [go_sem, Value.ownBlock] at hk
  omega

end Go.Proofs.Eff

namespace Go.Proofs.Eff
open Go.RowKit

section
variable {w : World} {L : HLoc} {h : HeapS} {os : List Nat}

theorem row_read {w : World} {base n cap g : Nat} {e : TypeId} {xs : List Value} (h : w.ownsRow base e 1 (.slice (some ⟨g, 0, none⟩) n cap) n xs) : RRow w ⟨g, 0, none⟩ xs := h.cells rfl
theorem row_zero {w : World} {base n size : Nat} {e : TypeId} {v : Value} {xs : List Value} (h : w.ownsRow base e size v n xs) : w.ownsRow 0 e size v n xs := by
  obtain ⟨h1, h2⟩ := h
  refine ⟨h1, ?_⟩
  rcases h2 with h2 | ⟨g, c, cur, a1, _, a3⟩
  · exact .inl h2
  · exact .inr ⟨g, c, cur, a1, Nat.zero_le _, a3⟩
theorem u32s_one (l : List Int) : ∀ u, u ∈ u32s l → u.oneCell' = true := by
  intro u hu; simp [u32s] at hu; obtain ⟨a, _, rfl⟩ := hu; rfl
theorem bools_one (l : List Bool) : ∀ u, u ∈ bools l → u.oneCell' = true := by
  intro u hu; simp only [bools, List.mem_map] at hu; obtain ⟨a, _, rfl⟩ := hu; rfl

/-- All of it is new. -/
def HLoc.fresh (L : HLoc) (n : Nat) : Prop := n ≤ L.b ∧ n ≤ L.gw ∧ n ≤ L.gs ∧ n ≤ L.gr

def CloneR (w : World) (h : HeapS) (e : Ending) (w' : World) : Prop := ∃ L', e = .returned (.pointer (some ⟨L'.b, 0, none⟩)) ∧ HeapAt w' L' h ∧ Ext w w' ∧ L'.fresh w.heap.size

set_option maxRecDepth 100000 in
set_option maxHeartbeats 1000000 in
theorem Clone_ok (ha : HeapAt w L h) (wf : WF h os) :
    Calls Tryz.prog 19 #[.pointer (some ⟨L.b, 0, none⟩)] w (CloneR w h) := by
  have HM := Lib.hid (made_ok ha wf)
  have hbig := wf.big
  have C1 := Lib.hid (fun W (hE : Ext w W) => clone48 ⟨L.gw, 0, none⟩ (u32s h.words) L.cw W (row_read (row_keep ha.words hE)) (Nat.lt_of_lt_of_le (row_lt ha.words) hE.size) (u32s_one _) (by simp; omega))
  have C2 := Lib.hid (fun W (hE : Ext w W) => clone68 ⟨L.gs, 0, none⟩ (bools h.starts) L.cs W (row_read (row_keep ha.starts hE)) (Nat.lt_of_lt_of_le (row_lt ha.starts) hE.size) (bools_one _) (by have := wf.slen; simp; omega))
  have C3 := Lib.hid (fun W (hE : Ext w W) => clone49 ⟨L.gr, 0, none⟩ (u32s h.roots) L.cr W (row_read (row_keep ha.roots hE)) (Nat.lt_of_lt_of_le (row_lt ha.roots) hE.size) (u32s_one _) (by have := wf.rlen; simp; omega))
  simp only [u32s_length, bools_length] at C1 C2 C3
  have HK : Hid (∀ w', Ext w w' → _ ∧ Ext w w') := fun w' hE => ⟨(ha.keep hE).rules.1, hE⟩
  clear ha wf
  go_enter Tryz.func19, Tryz.ntmps19
  go_wp2_with (go_at_call 47; refine HM.out.mono ?_; rintro e w' ⟨rfl, rfl⟩)
  go_region_held3 (fun w' => (∀ i, w'.cell? ⟨L.b, i, none⟩ = (#[.slice (some ⟨L.gw, 0, none⟩) h.words.length L.cw, .slice (some ⟨L.gs, 0, none⟩) h.starts.length L.cs, .slice (some ⟨L.gr, 0, none⟩) h.roots.length L.cr, .int .i64 h.size, .int .u32 h.last] : Array Value)[i]?) ∧ Ext w w')
    (first | exact HK.out _ (Ext.refl _).drew | exact HK.out _ (Ext.trans (‹_ ∧ Ext w _›).2 hb1) | exact HK.out _ (Ext.trans (‹_ ∧ Ext w _›).2 hb2) | exact HK.out _ (Ext.trans (‹_ ∧ Ext w _›).2 hb3) | exact HK.out _ (Ext.alloc (‹_ ∧ Ext w _›).2 _))
    (first | (go_at_call 48; refine (C1.out _ (‹_ ∧ Ext w _›).2).mono ?_; rintro e w1 ⟨g1, k1, rfl, hr1, hb1⟩) | (go_at_call 68; refine (C2.out _ (‹_ ∧ Ext w _›).2).mono ?_; rintro e w2 ⟨g2, k2, rfl, hr2, hb2⟩) | (go_at_call 49; refine (C3.out _ (‹_ ∧ Ext w _›).2).mono ?_; rintro e w3 ⟨g3, k3, rfl, hr3, hb3⟩))
  have hx := (‹_ ∧ Ext w _›).2
  have X := Lib.hid hx
  clear hx
  go_wp2
  go_ret
  have q1 : w.heap.size ≤ w.drew.heap.size := Nat.le_refl _
  have q2 := hb1.size
  have q3 := hb2.size
  have q4 := hb3.size
  have r1 := (hr1.lt g1 rfl).1
  have r2 := (hr2.lt g2 rfl).1
  have r3 := (hr3.lt g3 rfl).1
  refine ⟨⟨w3.heap.size, g1, k1, g2, k2, g3, k3⟩, rfl, ⟨newB _ _ _ rfl, ?_, ?_, ?_⟩, X.out, ?_⟩
  · exact row_zero (row_keep hr1 ((hb2.trans hb3).alloc _))
  · exact row_zero (row_keep hr2 (hb3.alloc _))
  · exact row_zero (row_keep hr3 ((Ext.refl _).alloc _))
  · simp only [HLoc.fresh] at *
    have e1 : w.drew.heap.size = w.heap.size := rfl
    omega

set_option maxHeartbeats 400000 in
theorem Clone_nil (w : World) : Calls Tryz.prog 19 #[.pointer none] w fun e w' => e = .returned (.pointer none) ∧ w = w' := by
  go_enter Tryz.func19, Tryz.ntmps19
  go_wp2_with (go_at_call 47; refine (made_nil _).mono ?_; rintro e w' ⟨rfl, rfl⟩)
  go_ret
  exact ⟨rfl, rfl⟩


/-- A new slice with those elements. -/
def NewRow (w : World) (E : TypeId) (xs : List Value) (e : Ending) (w' : World) : Prop :=
  ∃ g c, e = .returned (.slice (some ⟨g, 0, none⟩) xs.length c) ∧ w'.ownsRow w.heap.size E 1 (.slice (some ⟨g, 0, none⟩) xs.length c) xs.length xs ∧ Ext w w'

set_option maxHeartbeats 400000 in
theorem Roots_ok (ha : HeapAt w L h) (wf : WF h os) :
    Calls Tryz.prog 71 #[.pointer (some ⟨L.b, 0, none⟩)] w (NewRow w 41 (u32s h.roots)) := by
  have HM := Lib.hid (made_ok ha wf)
  obtain ⟨c1, _⟩ := ha.rules
  have C3 := Lib.hid (clone49 ⟨L.gr, 0, none⟩ (u32s h.roots) L.cr w (row_read ha.roots) (row_lt ha.roots) (u32s_one _) (by have := wf.rlen; simp; omega))
  simp only [u32s_length] at C3
  clear ha wf
  go_enter Tryz.func71, Tryz.ntmps71
  go_wp2_with (first | (go_at_call 47; refine HM.out.mono ?_; rintro e w' ⟨rfl, rfl⟩) | (go_at_call 49; refine C3.out.mono ?_; rintro e w' ⟨g, c, rfl, hr, hb⟩))
  go_ret
  exact ⟨g, c, by simp, by simpa using hr, hb⟩

set_option maxHeartbeats 400000 in
theorem Words_ok (ha : HeapAt w L h) (wf : WF h os) :
    Calls Tryz.prog 73 #[.pointer (some ⟨L.b, 0, none⟩)] w (NewRow w 24 (u32s h.words)) := by
  have HM := Lib.hid (made_ok ha wf)
  obtain ⟨c1, _⟩ := ha.rules
  have C3 := Lib.hid (clone48 ⟨L.gw, 0, none⟩ (u32s h.words) L.cw w (row_read ha.words) (row_lt ha.words) (u32s_one _) (by have := wf.big; simp; omega))
  simp only [u32s_length] at C3
  clear ha wf
  go_enter Tryz.func73, Tryz.ntmps73
  go_wp2_with (first | (go_at_call 47; refine HM.out.mono ?_; rintro e w' ⟨rfl, rfl⟩) | (go_at_call 48; refine C3.out.mono ?_; rintro e w' ⟨g, c, rfl, hr, hb⟩))
  go_ret
  exact ⟨g, c, by simp, by simpa using hr, hb⟩

end
end Go.Proofs.Eff

/- slices.Index, slices.Contains at formats. -/
namespace Go.Proofs.Eff
open Go.RowKit

def i64s (l : List Int) : List Value := l.map (Value.int .i64)
/-- Where a number stands first; -1: nowhere. -/
def idxI (l : List Int) (x : Int) : Int := if l.contains x then (l.idxOf x : Int) else -1

theorem idxI_hit {l : List Int} {x : Int} {k : Nat} (hk : k < l.length) (hb : ∀ j, j < k → wd l j ≠ x) (he : wd l k = x) : idxI l x = k := by
  have hm : l[k] = x := by simpa [wd, hk] using he
  have hc : l.contains x = true := by simp only [List.contains_iff_mem]; rw [← hm]; exact List.getElem_mem hk
  rw [idxI, if_pos hc]
  congr 1
  have h1 : l.idxOf x < l.length := List.idxOf_lt_length_iff.2 (by simpa using hc)
  have h2 : l[l.idxOf x] = x := by simp
  rcases Nat.lt_trichotomy (l.idxOf x) k with h | h | h
  · exact absurd (by simp [wd, h1]) (hb _ h)
  · exact h
  · have := List.not_of_lt_findIdx (xs := l) (p := (· == x)) (i := k) h
    simp [hm] at this
theorem idxI_miss {l : List Int} {x : Int} (hb : ∀ j, j < l.length → wd l j ≠ x) : idxI l x = -1 := by
  have hc : ¬ l.contains x = true := by
    intro h
    obtain ⟨j, hj, he⟩ := List.getElem_of_mem (List.contains_iff_mem.1 h)
    exact hb j hj (by simpa [wd, hj] using he)
  rw [idxI, if_neg hc]
theorem idxI_ge (l : List Int) (x : Int) : decide (0 ≤ idxI l x) = l.contains x := by
  unfold idxI; split
  · simp_all
  · simp_all

set_option maxHeartbeats 400000 in
theorem sindex166 (g cap : Nat) (fs : List Int) (x : Int) (w : World) (hr : RRow w ⟨g, 0, none⟩ (i64s fs)) (hl : fs.length ≤ 1048576) :
    Calls Tryz.prog 166 #[.slice (some ⟨g, 0, none⟩) fs.length cap, .int .i64 x] w fun e w' => e = .returned (.int .i64 (idxI fs x)) ∧ w = w' := by
  have hc : ∀ k, k < fs.length → w.cell? ⟨g, k, none⟩ = some (.int .i64 (wd fs k)) := by
    intro k hk
    have := hr k (.int .i64 (wd fs k)) (by simp [i64s, wd, hk])
    have e : (⟨g, 0, none⟩ : Addr).add k = ⟨g, k, none⟩ := by unfold Addr.add; split <;> simp_all
    rw [e] at this; exact this
  have HC := Lib.hid hc
  clear hr hc
  go_enter Tryz.func166, Tryz.ntmps166
  go_wp2
  go_loop [8] (fun i => ∃ k : Nat, k ≤ fs.length ∧ i = .int .i64 k ∧ ∀ j, j < k → wd fs j ≠ x) (fun i => fs.length - (intOf i).toNat)
  case atStart => exact ⟨0, by omega, rfl, by omega⟩
  case round =>
    obtain ⟨k, hk, rfl, hb⟩ := hrel
    have HB := Lib.hid hb
    clear hb
    by_cases hlt : k < fs.length
    · have c1 := HC.out k hlt
      by_cases he : wd fs k = x
      · have he2 : (x == wd fs k) = true := by simp [he]
        have HE := Lib.hid he
        clear he
        go_wp2
        go_ret
        refine ⟨?_, rfl⟩
        rw [idxI_hit hlt HB.out HE.out]; rfl
      · have he2 : (x == wd fs k) = false := by simp; exact fun h => he h.symm
        have HE := Lib.hid he
        clear he
        go_wp2
        go_round
        case rel => exact ⟨k + 1, by omega, by go_num, fun j hj => by
          by_cases h : j < k
          · exact HB.out j h
          · obtain rfl : j = k := by omega
            exact HE.out⟩
        case measure => simp [intOf]; omega
    · go_wp2
      go_ret
      obtain rfl : k = fs.length := by omega
      refine ⟨?_, rfl⟩
      rw [idxI_miss HB.out]; rfl

set_option maxHeartbeats 400000 in
theorem contains132 (g cap : Nat) (fs : List Int) (x : Int) (w : World) (hr : RRow w ⟨g, 0, none⟩ (i64s fs)) (hl : fs.length ≤ 1048576) :
    Calls Tryz.prog 132 #[.slice (some ⟨g, 0, none⟩) fs.length cap, .int .i64 x] w fun e w' => e = .returned (.bool (fs.contains x)) ∧ w = w' := by
  have HI := Lib.hid (sindex166 g cap fs x w hr hl)
  have HG := Lib.hid (idxI_ge fs x)
  clear hr
  go_enter Tryz.func132, Tryz.ntmps132
  go_wp2_with (go_at_call 166; refine HI.out.mono ?_; rintro e w' ⟨rfl, rfl⟩)
  go_ret
  refine ⟨?_, rfl⟩
  rw [← HG.out]; rfl

end Go.Proofs.Eff

/- heap.look. -/
namespace Go.Proofs.Eff
open Go.RowKit

/-- What is wrong with an element of an object of some formats. -/
def lookE (ws : List Int) (os : List Nat) (fs : List Int) (o i : Int) : Int :=
  if isO os o = false then 3 else if fs.contains (hdrAt ws (o / 2).toNat).fmt = false then 21 else if i < 0 ∨ lenH (hdrAt ws (o / 2).toNat) ≤ i then 1 else 0
def lookA (ws : List Int) (os : List Nat) (fs : List Int) (o i : Int) : Int := if lookE ws os fs o i = 0 then o / 2 + 3 else 0

theorem mayB_bounds {x : Hdr} (h : mayB x = true) : 0 ≤ x.size ∧ x.size ≤ 65535 ∧ 0 ≤ x.spare ∧ x.spare ≤ 3 ∧ 1 ≤ x.fmt ∧ x.fmt ≤ 4 := by
  simp [mayB] at h; omega

section
variable {w : World} {L : HLoc} {h : HeapS} {os : List Nat}

theorem WF.hdr (wf : WF h os) {x : Nat} (hx : x ∈ os) : mayB (hdrAt h.words x) = true := okW_may _ _ (wf.mem hx).2.2

set_option maxRecDepth 100000 in
set_option maxHeartbeats 1000000 in
theorem look_any (ha : HeapAt w L h) (wf : WF h os) (hs : Spares w) (o i : Int) (h0 : 0 ≤ o) (h1 : o < 4294967296) (g cap : Nat) (fs : List Int) (hr : RRow w ⟨g, 0, none⟩ (i64s fs)) (hg : g < w.heap.size) (hf : fs.length ≤ 4) :
    Calls Tryz.prog 81 #[.pointer (some ⟨L.b, 0, none⟩), .int .u32 o, .int .i64 i, .slice (some ⟨g, 0, none⟩) fs.length cap] w fun e w' => e = .returned (.tuple #[.int .i64 (lookA h.words os fs o i), .int .i64 (lookE h.words os fs o i)]) ∧ Ext w w' := by
  cases ho : isO os o with
  | false =>
    have HH := Lib.hid (Header_no ha wf o h0 h1 ho)
    have r1 : lookE h.words os fs o i = 3 := by simp [lookE, ho]
    have r2 : lookA h.words os fs o i = 0 := by simp [lookA, r1]
    rw [r1, r2]
    simp only [Hdr.zero, Hdr.val, Hdr.cells] at HH
    clear ha wf hs hr r1 r2
    go_enter Tryz.func81, Tryz.ntmps81
    go_wp2_with (go_at_call 22; refine HH.out.mono ?_; rintro e w1 ⟨rfl, hb⟩; have X := Lib.hid hb; clear hb)
    go_ret2
    exact ⟨rfl, X.out.alloc _⟩
  | true =>
    have hm := wf.mem (wf.isO_lt ho).2
    have hmay := mayB_bounds (wf.hdr (wf.isO_lt ho).2)
    have hbig := wf.big
    have HH := Lib.hid (Header_ok ha wf hs o h0 h1 ho)
    have HT := Lib.hid (fun W => hat_ok (w := W) (.pointer (some ⟨L.b, 0, none⟩)) o h0 h1 (wf.isO_lt ho).1)
    have d1 : 0 ≤ o / 2 := by omega
    have d2 : o / 2 ≤ 1048576 := by omega
    simp only [lookA, lookE, ho] at *
    simp only [Bool.true_eq_false, if_false]
    generalize hdrAt h.words (o / 2).toNat = H at *
    have HL := Lib.hid (fun W => length_any H W (by omega) (by omega) (by omega) (by omega))
    obtain ⟨A, B, C, c, s⟩ := H
    have HC := Lib.hid (fun W (hE : Ext w W) => contains132 g cap fs B W (hr.keep hE hg) (by omega))
    simp only [Hdr.val, Hdr.cells] at *
    clear ha wf hm hs ho hr hmay
    cases hc : fs.contains B with
    | false =>
      simp only [if_true]
      simp only [hc] at HC
      go_enter Tryz.func81, Tryz.ntmps81
      go_wp2_with (first | (go_at_call 22; refine HH.out.mono ?_; rintro e w1 ⟨rfl, hb⟩; have X := Lib.hid hb; clear hb) | (go_at_call 132; refine (HC.out _ (X.out.alloc _)).mono ?_; rintro e w1 ⟨rfl, rfl⟩))
      go_ret2
      exact ⟨rfl, X.out.alloc _⟩
    | true =>
      simp only [Bool.true_eq_false, if_false]
      simp only [hc] at HC
      generalize lenH ⟨A, B, C, c, s⟩ = Z at *
      by_cases hi : i < 0
      · simp only [hi, true_or, if_true]
        go_enter Tryz.func81, Tryz.ntmps81
        go_wp2_with (first | (go_at_call 22; refine HH.out.mono ?_; rintro e w1 ⟨rfl, hb⟩; have X := Lib.hid hb; clear hb) | (go_at_call 132; refine (HC.out _ (X.out.alloc _)).mono ?_; rintro e w1 ⟨rfl, rfl⟩))
        go_ret2
        exact ⟨rfl, X.out.alloc _⟩
      · by_cases hz : Z ≤ i
        · simp only [hi, hz, or_true, if_true]
          have hi2 : decide (i < 0) = false := by simpa using hi
          go_enter Tryz.func81, Tryz.ntmps81
          go_wp2_with (first | (go_at_call 22; refine HH.out.mono ?_; rintro e w1 ⟨rfl, hb⟩; have X := Lib.hid hb; clear hb) | (go_at_call 132; refine (HC.out _ (X.out.alloc _)).mono ?_; rintro e w1 ⟨rfl, rfl⟩) | (go_at_call 133; refine (HL.out _).mono ?_; rintro e w2 ⟨rfl, hb⟩; have Y := Lib.hid hb; clear hb))
          go_ret2
          exact ⟨rfl, (X.out.alloc _).trans Y.out⟩
        · simp only [hi, hz, or_self, if_false, if_true]
          have hi2 : decide (i < 0) = false := by simpa using hi
          go_enter Tryz.func81, Tryz.ntmps81
          go_wp2_with (first | (go_at_call 22; refine HH.out.mono ?_; rintro e w1 ⟨rfl, hb⟩; have X := Lib.hid hb; clear hb) | (go_at_call 132; refine (HC.out _ (X.out.alloc _)).mono ?_; rintro e w1 ⟨rfl, rfl⟩) | (go_at_call 133; refine (HL.out _).mono ?_; rintro e w2 ⟨rfl, hb⟩; have Y := Lib.hid hb; clear hb) | (go_at_call 80; refine (HT.out _).mono ?_; rintro e w2 ⟨rfl, rfl⟩))
          go_ret2
          exact ⟨rfl, (X.out.alloc _).trans Y.out⟩

end
end Go.Proofs.Eff

/- Frames of what is written; SetRoot, Get. -/
namespace Go.Proofs.Eff
open Go.RowKit

/-- Blocks outside a list are as they were. -/
structure Mod (S : List Nat) (w w' : World) : Prop where
  os : w'.os = w.os
  tape : w'.tape = w.tape
  output : w'.output = w.output
  size : w.heap.size ≤ w'.heap.size
  block : ∀ k, k < w.heap.size → ¬ k ∈ S → w'.heap[k]? = w.heap[k]?
theorem Ext.mod {w w' : World} (h : Ext w w') (S : List Nat) : Mod S w w' := ⟨h.os, h.tape, h.output, h.size, fun _k hk _ => h.block hk⟩
theorem Mod.trans {S : List Nat} {a b c : World} (h : Mod S a b) (k : Mod S b c) : Mod S a c :=
  ⟨k.os.trans h.os, k.tape.trans h.tape, k.output.trans h.output, Nat.le_trans h.size k.size, fun i hi hn => (k.block i (Nat.lt_of_lt_of_le hi h.size) hn).trans (h.block i hi hn)⟩
theorem Mod.refl (S : List Nat) (w : World) : Mod S w w := (Ext.refl w).mod S
theorem Mod.mono {S S' : List Nat} {w w' : World} (h : Mod S w w') (hs : ∀ x, x ∈ S → x ∈ S') : Mod S' w w' := ⟨h.os, h.tape, h.output, h.size, fun k hk hn => h.block k hk (fun hx => hn (hs k hx))⟩
theorem Mod.ext {S : List Nat} {a b c : World} (h : Mod S a b) (k : Ext b c) : Mod S a c := h.trans (k.mod S)
theorem Mod.keep {S : List Nat} {a w : World} (h : Mod S a w) {b : Nat} {o : Obj} (hb : a.heap[b]? = some o) (hn : ¬ b ∈ S) : w.heap[b]? = some o := by rw [h.block b (lt_of_block hb) hn]; exact hb
theorem mod_setCell (w : World) (a : Addr) (u : Value) : Mod [a.block] w (w.setCell a u) :=
  ⟨rfl, rfl, rfl, by simp [World.setCell], fun k _ hn => Below.heap_setCell _ _ _ _ (by simpa using hn)⟩
theorem Mod.row {S : List Nat} {a w : World} (h : Mod S a w) {base size n : Nat} {v : Value} {e : TypeId} {xs : List Value} (hr : a.ownsRow base e size v n xs) (hv : ∀ g, v.ownBlock = some g → ¬ g ∈ S) : w.ownsRow base e size v n xs := by
  obtain ⟨h1, h2⟩ := hr
  refine ⟨h1, ?_⟩
  rcases h2 with h2 | ⟨g, c, cur, a1, a2, a3, a4⟩
  · exact .inl h2
  · exact .inr ⟨g, c, cur, a1, a2, h.keep a3 (hv g (by rw [a1]; rfl)), a4⟩

section
variable {w : World} {L : HLoc} {h : HeapS} {os : List Nat}

/-- The blocks of one. -/
def HLoc.blocks (L : HLoc) : List Nat := [L.b, L.gw, L.gs, L.gr]
theorem HeapAt.mod {S : List Nat} {a w : World} (ha : HeapAt a L h) (hm : Mod S a w) (hd : ∀ x, x ∈ L.blocks → ¬ x ∈ S) : HeapAt w L h :=
  ⟨hm.keep ha.blk (hd _ (by simp [HLoc.blocks])), hm.row ha.words (by intro g hg; cases hg; exact hd _ (by simp [HLoc.blocks])), hm.row ha.starts (by intro g hg; cases hg; exact hd _ (by simp [HLoc.blocks])), hm.row ha.roots (by intro g hg; cases hg; exact hd _ (by simp [HLoc.blocks]))⟩

/-- The blocks of one heap are four. -/
theorem row_block {w : World} {base size n cap g : Nat} {e : TypeId} {xs : List Value} (h : w.ownsRow base e size (.slice (some ⟨g, 0, none⟩) n cap) n xs) : ∃ cur, w.heap[g]? = some (.cells cur e) ∧ cur.size = cap * size ∧ cur.toList.take (n * size) = xs := by
  rcases h.2 with ⟨h2, _⟩ | ⟨g', c', cur, h2, _, h3, _, _, h4, h5⟩
  · cases h2
  · cases h2; exact ⟨cur, h3, h4, h5⟩
theorem block_ne {w : World} {b b' : Nat} {o o' : Obj} (h : w.heap[b]? = some o) (h' : w.heap[b']? = some o') (hne : o ≠ o') : b ≠ b' := by
  intro e; subst e; rw [h] at h'; exact hne (Option.some.inj h')
theorem HeapAt.distinct (ha : HeapAt w L h) : L.b ≠ L.gw ∧ L.b ≠ L.gs ∧ L.b ≠ L.gr ∧ L.gw ≠ L.gs ∧ L.gw ≠ L.gr ∧ L.gs ≠ L.gr := by
  obtain ⟨c1, e1, _⟩ := row_block ha.words
  obtain ⟨c2, e2, _⟩ := row_block ha.starts
  obtain ⟨c3, e3, _⟩ := row_block ha.roots
  have e0 := ha.blk
  exact ⟨block_ne e0 e1 (by simp), block_ne e0 e2 (by simp), block_ne e0 e3 (by simp), block_ne e1 e2 (by simp), block_ne e1 e3 (by simp), block_ne e2 e3 (by simp)⟩

/-- A store into a row of one cell an element. -/
theorem row_set {w : World} {base n cap g : Nat} {e : TypeId} {xs : List Value} (h : w.ownsRow base e 1 (.slice (some ⟨g, 0, none⟩) n cap) n xs) (j : Nat) (u : Value) : (w.setCell ⟨g, j, none⟩ u).ownsRow base e 1 (.slice (some ⟨g, 0, none⟩) n cap) n (xs.set j u) := (h.stored j u).1

theorem u32s_set (l : List Int) (j : Nat) (x : Int) : (u32s l).set j (.int .u32 x) = u32s (l.set j x) := by simp [u32s, List.map_set]
theorem bools_set (l : List Bool) (j : Nat) (x : Bool) : (bools l).set j (.bool x) = bools (l.set j x) := by simp [bools, List.map_set]

set_option maxRecDepth 100000 in
set_option maxHeartbeats 1000000 in
theorem SetRoot_ok (ha : HeapAt w L h) (wf : WF h os) (i v : Int) (h0 : 0 ≤ v) (h1 : v < 4294967296) (i0 : 0 ≤ i) (i1 : i < 64) (hv : valueOK os v = true) :
    Calls Tryz.prog 38 #[.pointer (some ⟨L.b, 0, none⟩), .int .i64 i, .int .u32 v] w fun e w' => e = .returned (.int .i64 0) ∧ HeapAt w' L { h with roots := h.roots.set i.toNat v } ∧ Mod [L.gr] w w' := by
  have HM := Lib.hid (made_ok ha wf)
  have HV := Lib.hid (value_any ha wf v h0 h1)
  rw [hv] at HV
  obtain ⟨c1, _⟩ := ha.rules
  have hl := wf.rlen
  have hr := ha.root i.toNat (by omega)
  have hf := row_free ha.roots i.toNat
  have hl2 : i < (h.roots.length : Int) := by omega
  have HA := Lib.hid ha
  clear ha wf hl hv
  go_enter Tryz.func38, Tryz.ntmps38
  go_wp2_with (first | (go_at_call 47; refine HM.out.mono ?_; rintro e w' ⟨rfl, rfl⟩) | (go_at_call 82; refine HV.out.mono ?_; rintro e w' ⟨rfl, rfl⟩))
  go_ret
  have hd := HA.out.distinct
  have hm := mod_setCell w ⟨L.gr, i.toNat, none⟩ (.int .u32 v)
  refine ⟨rfl, ⟨?_, ?_, ?_, ?_⟩, hm⟩
  · rw [hm.keep HA.out.blk (by simp; omega)]; simp
  · exact hm.row HA.out.words (by intro g hg; cases hg; simp; omega)
  · exact hm.row HA.out.starts (by intro g hg; cases hg; simp; omega)
  · have := row_set HA.out.roots i.toNat (.int .u32 v)
    rw [u32s_set] at this
    simpa using this

/-- A field of an object. -/
def getA (ws : List Int) (os : List Nat) (fs : List Int) (o i : Int) : Int := if lookE ws os fs o i = 0 then wd ws (o / 2 + 3 + i).toNat else 0

theorem look_fits (wf : WF h os) (fs : List Int) (o i : Int) (_h0 : 0 ≤ o) (hf : ¬ 2 ∈ fs) (hz : lookE h.words os fs o i = 0) : 0 ≤ i ∧ o / 2 + 3 + i < h.words.length ∧ isO os o = true := by
  unfold lookE at hz
  split at hz
  · omega
  · rename_i h1
    split at hz
    · omega
    · rename_i h2
      split at hz
      · omega
      · rename_i h3
        have h1' : isO os o = true := by simpa using h1
        have hm := wf.mem (wf.isO_lt h1').2
        have hw := wf.word (o / 2).toNat
        have hz2 : (hdrAt h.words (o / 2).toNat).size = sizeAt h.words (o / 2).toNat := by simp [hdrAt, hdrOf, sizeAt]; omega
        have hne : (hdrAt h.words (o / 2).toNat).fmt ≠ 2 := by
          intro he; rw [he] at h2; simp at h2; exact hf h2
        simp only [lenH, if_neg hne, hz2] at h3
        exact ⟨by omega, by omega, h1'⟩

set_option maxRecDepth 100000 in
set_option maxHeartbeats 1000000 in
theorem Get_any (ha : HeapAt w L h) (wf : WF h os) (hs : Spares w) (o i : Int) (h0 : 0 ≤ o) (h1 : o < 4294967296) :
    Calls Tryz.prog 27 #[.pointer (some ⟨L.b, 0, none⟩), .int .u32 o, .int .i64 i] w fun e w' => e = .returned (.tuple #[.int .u32 (getA h.words os [1, 4] o i), .int .i64 (lookE h.words os [1, 4] o i)]) ∧ Ext w w' := by
  have hp := hs.pos
  have HL := Lib.hid (fun W (hE : Ext w W) g hg (hr : RRow W ⟨g, 0, none⟩ (i64s [1, 4])) => look_any (ha.keep hE) wf (hs.kept hE hp) o i h0 h1 g 2 [1, 4] hr hg (by simp))
  have HR : Hid (RRow (w.alloc (.cells #[.int .i64 1, .int .i64 4] 63)) ⟨w.heap.size, 0, none⟩ (i64s [1, 4])) := row_read (World.ownsRow_lit (base := 0) w #[.int .i64 1, .int .i64 4] 2 (by simp) (by unfold maxLen; omega) rfl)
  simp only [List.length_cons, List.length_nil, Nat.zero_add] at HL
  by_cases hz : lookE h.words os [1, 4] o i = 0
  · have hfit := look_fits wf [1, 4] o i h0 (by simp) hz
    have hbig := wf.big
    have d1 : 0 ≤ o / 2 + 3 + i := by omega
    have d2 : o / 2 + 3 + i < h.words.length := hfit.2.1
    have hla : lookA h.words os [1, 4] o i = o / 2 + 3 := by rw [lookA, if_pos hz]
    rw [getA, if_pos hz, hz]
    simp only [hla, hz] at HL
    have HW : Hid (∀ W, Ext w W → _ ∧ _) := fun W hE => ⟨(ha.keep hE).rules.1, (ha.keep hE).word (o / 2 + 3 + i).toNat (by omega)⟩
    generalize wd h.words (o / 2 + 3 + i).toNat = V at *
    clear ha wf hs hz hla hfit
    go_enter Tryz.func27, Tryz.ntmps27
    go_wp2_with (go_at_call 81; refine (HL.out _ ((Ext.refl _).alloc _) _ (by simp) HR.out).mono ?_; rintro e w1 ⟨rfl, hb⟩; obtain ⟨c1, c2⟩ := HW.out _ (((Ext.refl _).alloc _).trans hb); have X := Lib.hid hb; clear hb)
    go_ret2
    exact ⟨rfl, ((Ext.refl _).alloc _).trans X.out⟩
  · rw [getA, if_neg hz]
    have hla : lookA h.words os [1, 4] o i = 0 := by rw [lookA, if_neg hz]
    simp only [hla] at HL
    have hne : (lookE h.words os [1, 4] o i != 0) = true := by simpa using hz
    generalize lookE h.words os [1, 4] o i = E at *
    clear ha wf hs hz hla
    go_enter Tryz.func27, Tryz.ntmps27
    go_wp2_with (go_at_call 81; refine (HL.out _ ((Ext.refl _).alloc _) _ (by simp) HR.out).mono ?_; rintro e w1 ⟨rfl, hb⟩; have X := Lib.hid hb; clear hb)
    go_ret2
    exact ⟨rfl, ((Ext.refl _).alloc _).trans X.out⟩

end
end Go.Proofs.Eff

/- Word, New. -/
namespace Go.Proofs.Eff
open Go.RowKit

section
variable {w : World} {L : HLoc} {h : HeapS} {os : List Nat}

set_option maxRecDepth 100000 in
set_option maxHeartbeats 1000000 in
theorem Word_any (ha : HeapAt w L h) (wf : WF h os) (hs : Spares w) (o i : Int) (h0 : 0 ≤ o) (h1 : o < 4294967296) :
    Calls Tryz.prog 25 #[.pointer (some ⟨L.b, 0, none⟩), .int .u32 o, .int .i64 i] w fun e w' => e = .returned (.tuple #[.int .u32 (getA h.words os [3] o i), .int .i64 (lookE h.words os [3] o i)]) ∧ Ext w w' := by
  have hp := hs.pos
  have HL := Lib.hid (fun W (hE : Ext w W) g hg (hr : RRow W ⟨g, 0, none⟩ (i64s [3])) => look_any (ha.keep hE) wf (hs.kept hE hp) o i h0 h1 g 1 [3] hr hg (by simp))
  have HR : Hid (RRow (w.alloc (.cells #[.int .i64 3] 63)) ⟨w.heap.size, 0, none⟩ (i64s [3])) := row_read (World.ownsRow_lit (base := 0) w #[.int .i64 3] 1 (by simp) (by unfold maxLen; omega) rfl)
  simp only [List.length_cons, List.length_nil, Nat.zero_add] at HL
  by_cases hz : lookE h.words os [3] o i = 0
  · have hfit := look_fits wf [3] o i h0 (by simp) hz
    have hbig := wf.big
    have d1 : 0 ≤ o / 2 + 3 + i := by omega
    have d2 : o / 2 + 3 + i < h.words.length := hfit.2.1
    have hla : lookA h.words os [3] o i = o / 2 + 3 := by rw [lookA, if_pos hz]
    rw [getA, if_pos hz, hz]
    simp only [hla, hz] at HL
    have HW : Hid (∀ W, Ext w W → _ ∧ _) := fun W hE => ⟨(ha.keep hE).rules.1, (ha.keep hE).word (o / 2 + 3 + i).toNat (by omega)⟩
    generalize wd h.words (o / 2 + 3 + i).toNat = V at *
    clear ha wf hs hz hla hfit
    go_enter Tryz.func25, Tryz.ntmps25
    go_wp2_with (go_at_call 81; refine (HL.out _ ((Ext.refl _).alloc _) _ (by simp) HR.out).mono ?_; rintro e w1 ⟨rfl, hb⟩; obtain ⟨c1, c2⟩ := HW.out _ (((Ext.refl _).alloc _).trans hb); have X := Lib.hid hb; clear hb)
    go_ret2
    exact ⟨rfl, ((Ext.refl _).alloc _).trans X.out⟩
  · rw [getA, if_neg hz]
    have hla : lookA h.words os [3] o i = 0 := by rw [lookA, if_neg hz]
    simp only [hla] at HL
    have hne : (lookE h.words os [3] o i != 0) = true := by simpa using hz
    generalize lookE h.words os [3] o i = E at *
    clear ha wf hs hz hla
    go_enter Tryz.func25, Tryz.ntmps25
    go_wp2_with (go_at_call 81; refine (HL.out _ ((Ext.refl _).alloc _) _ (by simp) HR.out).mono ?_; rintro e w1 ⟨rfl, hb⟩; have X := Lib.hid hb; clear hb)
    go_ret2
    exact ⟨rfl, ((Ext.refl _).alloc _).trans X.out⟩


/-- An empty heap. -/
def emptyH (size : Int) : HeapS := ⟨[0], [false], List.replicate 64 0, size, 0⟩
theorem emptyH_wf (size : Int) (h0 : 64 ≤ size) (h1 : size ≤ 1048576) : WF (emptyH size) [] := by
  refine ⟨by simp [emptyH], by simp [emptyH, wd], by simp [emptyH], by simp [Laid, emptyH], ?_, by simp [emptyH], ?_, h0, h1, by simp [emptyH]; omega, by simp [emptyH], by simp [emptyH]⟩
  · simp [emptyH]
  · intro x hx; simp [emptyH] at hx; omega

def NewR (w : World) (h : HeapS) (e : Ending) (w' : World) : Prop := ∃ L', e = .returned (.tuple #[.pointer (some ⟨L'.b, 0, none⟩), .int .i64 0]) ∧ HeapAt w' L' h ∧ Ext w w' ∧ L'.fresh w.heap.size

def zeros64 : Array Value := Array.replicate 64 (.int .u32 0)
theorem make64 (w : World) : (Instr.makeSlice 23 (.int .i64 64) (.int .i64 64)).run Tryz.prog w = .ok (.slice (some ⟨w.heap.size, 0, none⟩) 64 64) (w.alloc (.cells zeros64 41)) := by kernel_rfl

set_option maxRecDepth 100000 in
set_option maxHeartbeats 1000000 in
theorem New_ok (size : Int) (h0 : 64 ≤ size) (h1 : size ≤ 1048576) (w : World) :
    Calls Tryz.prog 12 #[.int .i64 size] w (NewR w (emptyH size)) := by
  have hmk := make64
  go_enter Tryz.func12, Tryz.ntmps12
  go_wp2
  go_ret2
  refine ⟨⟨w.heap.size + 1 + 1 + 1, w.heap.size, 1, w.heap.size + 1, 1, w.heap.size + 1 + 1, 64⟩, rfl, ⟨?_, ?_, ?_, ?_⟩, ?_, ?_⟩
  · exact newB _ _ _ (by simp)
  · exact row_keep (World.ownsRow_lit w #[.int .u32 0] 1 (Nat.zero_le _) (by unfold maxLen; omega) rfl) ((((Ext.refl _).alloc _).alloc _).alloc _)
  · have := World.ownsRow_lit (base := 0) (e := 4) (size := 1) (w.alloc (.cells #[.int .u32 0] 24)) #[.bool false] 1 (Nat.zero_le _) (by unfold maxLen; omega) rfl
    simp only [World.size_alloc] at this
    exact row_keep this (((Ext.refl _).alloc _).alloc _)
  · have := World.ownsRow_lit (base := 0) (e := 41) (size := 1) ((w.alloc (.cells #[.int .u32 0] 24)).alloc (.cells #[.bool false] 4)) zeros64 64 (Nat.zero_le _) (by unfold maxLen; omega) (by simp [zeros64])
    simp only [World.size_alloc] at this
    have e : zeros64.toList = u32s (emptyH size).roots := by simp [zeros64, emptyH, u32s]
    rw [e] at this
    exact row_keep this ((Ext.refl _).alloc _)
  · exact ((((Ext.refl _).alloc _).alloc _).alloc _).alloc _
  · simp [HLoc.fresh]; omega

end
end Go.Proofs.Eff

/- oop.UnpackBytes. -/
namespace Go.Proofs.Eff
open Go.RowKit

def u8s (l : List Int) : List Value := l.map (Value.int .u8)
@[simp] theorem u8s_length (l : List Int) : (u8s l).length = l.length := by simp [u8s]
theorem u8s_append (l m : List Int) : u8s (l ++ m) = u8s l ++ u8s m := by simp [u8s]
theorem u8s_one (l : List Int) : ∀ u, u ∈ u8s l → u.oneCell' = true := by
  intro u hu; simp [u8s] at hu; obtain ⟨a, _, rfl⟩ := hu; rfl
def bytes4 (x : Int) : List Int := [x % 256, x / 256 % 256, x / 65536 % 256, x / 16777216]
def bytesOf (ws : List Int) : List Int := ws.flatMap bytes4
theorem bytesOf_length (ws : List Int) : (bytesOf ws).length = 4 * ws.length := by
  induction ws with
  | nil => rfl
  | cons x l ih => simp only [bytesOf, List.flatMap_cons, List.length_append, List.length_cons] at *; rw [ih]; simp [bytes4]; omega
theorem bytesOf_snoc (ws : List Int) (k : Nat) (hk : k < ws.length) : bytesOf (ws.take (k + 1)) = bytesOf (ws.take k) ++ bytes4 (wd ws k) := by
  rw [List.take_succ_eq_append_getElem hk]; simp only [bytesOf, List.flatMap_append, wd, List.getElem?_eq_getElem hk, Option.getD_some]; simp
theorem wraps_u8' (n : Int) : IntKind.u8.wrap n = n % 256 := IntKind.wrap_u8 n

/-- The last bytes are all zero. -/
def tailZero (ws : List Int) (sp : Nat) : Bool := ((bytesOf ws).drop (4 * ws.length - sp)).all (· == 0)

theorem tailZero_iff (ws : List Int) (sp : Nat) (h : sp ≤ 4 * ws.length) : tailZero ws sp = true ↔ ∀ j, j < sp → wd (bytesOf ws) (4 * ws.length - sp + j) = 0 := by
  have hl := bytesOf_length ws
  unfold tailZero
  rw [List.all_eq_true]
  constructor
  · intro ha j hj
    have := ha (wd (bytesOf ws) (4 * ws.length - sp + j)) (by
      rw [List.mem_iff_getElem?]
      exact ⟨j, by rw [List.getElem?_drop]; simp [wd, show 4 * ws.length - sp + j < (bytesOf ws).length by omega]⟩)
    simpa using this
  · intro ha x hx
    obtain ⟨j, hj⟩ := List.mem_iff_getElem?.1 hx
    rw [List.getElem?_drop] at hj
    have hlt := (List.getElem?_eq_some_iff.1 hj).1
    have := ha j (by omega)
    rw [wd, hj] at this
    simpa using this

theorem Tryz.cinfo5 : (Tryz.prog.info? 5).map (fun i => (i.zero, i.size, i.bytes)) = some (some (.int .u8 0), 1, 1) := by kernel_rfl
theorem rrow_cell {w : World} {g off : Nat} {xs : List Value} (h : RRow w ⟨g, off, none⟩ xs) (j : Nat) (hj : j < xs.length) : w.cell? ⟨g, off + j, none⟩ = xs[j]? := by
  have := h j xs[j] (by simp [hj])
  have e : (⟨g, off, none⟩ : Addr).add j = ⟨g, off + j, none⟩ := by unfold Addr.add; split <;> simp_all
  rw [e] at this; rw [this]; simp [hj]

def UBR (w : World) (ws : List Int) (sp : Nat) (e : Ending) (w' : World) : Prop :=
  Ext w w' ∧ ((tailZero ws sp = true ∧ ∃ g, e = .returned (.tuple #[.slice (some ⟨g, 0, none⟩) (4 * ws.length - sp) (4 * ws.length - sp), .int .i64 0]) ∧ w.heap.size ≤ g ∧ g < w'.heap.size ∧ RRow w' ⟨g, 0, none⟩ (u8s ((bytesOf ws).take (4 * ws.length - sp))))
   ∨ (tailZero ws sp = false ∧ e = .returned (.tuple #[.slice none 0 0, .int .i64 10])))

set_option maxRecDepth 100000 in
set_option maxHeartbeats 2000000 in
theorem UnpackBytes_any (g off cap : Nat) (ws : List Int) (sp : Nat) (w : World) (hr : RRow w ⟨g, off, none⟩ (u32s ws)) (hg : g < w.heap.size) (hw : ∀ i, 0 ≤ wd ws i ∧ wd ws i < 4294967296) (hl : ws.length ≤ 65535) (hs : sp ≤ 3) (hz : 0 < sp → 0 < ws.length) :
    Calls Tryz.prog 112 #[.slice (some ⟨g, off, none⟩) ws.length cap, .int .i64 sp] w (UBR w ws sp) := by
  obtain ⟨i0, hi, hz0, hz1, hz2⟩ := info_parts Tryz.cinfo5
  have t1 : decide ((65535 : Int) < (ws.length : Int)) = false := by simp; omega
  have t2 : decide ((sp : Int) < 0) = false := by rw [decide_eq_false_iff_not]; omega
  have t3 : decide ((3 : Int) < (sp : Int)) = false := by simp; omega
  have HR : Hid (∀ W, Ext w W → ∀ k, k < ws.length → W.cell? ⟨g, off + k, none⟩ = some (.int .u32 (wd ws k))) := fun W hE k hk => by
    rw [rrow_cell (hr.keep hE hg) k (by simpa using hk)]; simp [u32s, wd, hk]
  have HW := Lib.hid hw
  have hl4 : (4 * ws.length : Int) ≤ 262140 := by omega
  clear hr hw
  by_cases hsp : ¬ 0 < sp
  · have t4 : decide (0 < sp) = false := by simpa using hsp
    go_enter Tryz.func112, Tryz.ntmps112
    go_wp2_with (at_make; refine wpList_make_own _ rfl _ _ 37 rfl w.heap.size 5 i0 (.int .u8 0) 1 Tryz.underlying37 hi hz0 hz1 _ _ _ (4 * ws.length) rfl rfl (by simp) (by rw [hz2]; omega) (by unfold maxLen; omega) (Nat.le_refl _) ?_; intro w1 hown hgrow)
    have hE : Ext w w1 := (Ext.refl w).grown hgrow (by simp)
    have OW := Lib.hid hown
    have XE := Lib.hid hE
    clear hown hgrow hE
    go_loopw [6, 36] (fun v i wr => ∃ k : Nat, k ≤ ws.length ∧ i = .int .i64 k ∧ wr.ownsRow w.heap.size 5 1 v (4 * k) (u8s (bytesOf (ws.take k))) ∧ Ext w wr ∧ v ≠ .slice none 0 0) (fun _ i _ => ws.length - (intOf i).toNat)
    case atStart => exact ⟨0, by omega, rfl, by simpa [u8s, bytesOf] using OW.out, XE.out, by simp⟩
    case round =>
      obtain ⟨k, hk, rfl, hrow, hE, hv⟩ := hrel
      obtain ⟨gb, cb, rfl⟩ := own_form hrow hv
      have ROW := Lib.hid hrow
      have XE2 := Lib.hid hE
      clear hrow hE hv
      by_cases hlt : k < ws.length
      · have c1 := HR.out _ XE2.out k hlt
        have w0 := HW.out k
        have SN := Lib.hid (bytesOf_snoc ws k hlt)
        generalize wd ws k = x at *
        obtain ⟨w01, w02⟩ := w0
        have NW : Hid (RRow (wr.alloc (.cells #[.int .u8 (x % 256), .int .u8 (x / 256 % 256), .int .u8 (x / 65536 % 256), .int .u8 (x / 16777216)] 5)) ⟨wr.heap.size, 0, none⟩ (u8s (bytes4 x))) := row_read (World.ownsRow_lit (base := 0) wr #[.int .u8 (x % 256), .int .u8 (x / 256 % 256), .int .u8 (x / 65536 % 256), .int .u8 (x / 16777216)] 4 (Nat.zero_le _) (by unfold maxLen; omega) rfl)
        go_wp2_with (at_builtin; refine wpList_append_own _ rfl _ _ 37 rfl w.heap.size 5 i0 (.int .u8 0) 1 1 Tryz.underlying37 hi hz0 hz1 hz2 rfl (by decide) _ (4 * k) _ rfl (ROW.out.alloc _) ⟨wr.heap.size, 0, none⟩ 4 4 (u8s (bytes4 x)) rfl rfl NW.out (u8s_one _) (by unfold maxLen; omega) (by omega) (by have := XE2.out.size; simp; omega) ?_; intro v' w2 hown hgrow hnil2)
        have hv' : v' ≠ .slice none 0 0 := fun h => by have := (hnil2.1 h).2; omega
        have hE2 : Ext w w2 := (XE2.out.alloc _).grown hgrow (by intro q hq; have := (ROW.out.lt gb rfl).1; simp [go_sem, Value.ownBlock] at hq; omega)
        rw [← u8s_append, ← SN.out] at hown
        clear hgrow hnil2
        go_roundw
        case rel => exact ⟨k + 1, by omega, by go_num, hown, hE2, hv'⟩
        case measure => simp [intOf]; omega
      · obtain rfl : k = ws.length := by omega
        have ROW2 : Hid (wr.ownsRow w.heap.size 5 1 (Value.slice (some { block := gb, off := 0 }) (4 * ws.length) cb) (4 * ws.length) (u8s (bytesOf ws))) := by have := ROW.out; rw [List.take_length] at this; exact this
        have hcb := (row_max ROW2.out).1
        clear ROW
        have S0 : Hid (sp = 0) := by have : sp = 0 := by omega
                                     exact this
        have TT : Hid (tailZero ws sp = true) := by have h0 := S0.out; subst h0; exact (tailZero_iff ws 0 (by omega)).2 (by omega)
        have hn : ((4 * ws.length - (4 * ws.length - sp) : Nat) : Int) = 0 := by omega
        have HN := Lib.hid hn
        clear hn
        go_wp2
        all_goals
          rw [HN.out]
          go_loop [63] (fun i => i = .int .i64 0) (fun _ => 0)
          case atStart => rfl
          case round =>
            obtain rfl := hrel
            go_wp2
            go_ret2
            refine ⟨XE2.out, .inl ⟨TT.out, gb, ?_, (ROW2.out.lt gb rfl).1, (ROW2.out.lt gb rfl).2, ?_⟩⟩
            · simp
            · intro j u hj
              refine row_read ROW2.out j u ?_
              simp only [u8s, List.map_take] at hj ⊢
              rw [List.getElem?_take] at hj
              split at hj
              · exact hj
              · cases hj
  · have hsp : 0 < sp := by omega
    have t4 : decide (0 < sp) = true := by simpa using hsp
    have t5 : ((ws.length : Int) == 0) = false := by have := hz hsp; rw [beq_eq_false_iff_ne]; omega
    go_enter Tryz.func112, Tryz.ntmps112
    go_wp2_with (at_make; refine wpList_make_own _ rfl _ _ 37 rfl w.heap.size 5 i0 (.int .u8 0) 1 Tryz.underlying37 hi hz0 hz1 _ _ _ (4 * ws.length) rfl rfl (by simp) (by rw [hz2]; omega) (by unfold maxLen; omega) (Nat.le_refl _) ?_; intro w1 hown hgrow)
    have hE : Ext w w1 := (Ext.refl w).grown hgrow (by simp)
    have OW := Lib.hid hown
    have XE := Lib.hid hE
    clear hown hgrow hE
    go_loopw [6, 36] (fun v i wr => ∃ k : Nat, k ≤ ws.length ∧ i = .int .i64 k ∧ wr.ownsRow w.heap.size 5 1 v (4 * k) (u8s (bytesOf (ws.take k))) ∧ Ext w wr ∧ v ≠ .slice none 0 0) (fun _ i _ => ws.length - (intOf i).toNat)
    case atStart => exact ⟨0, by omega, rfl, by simpa [u8s, bytesOf] using OW.out, XE.out, by simp⟩
    case round =>
      obtain ⟨k, hk, rfl, hrow, hE, hv⟩ := hrel
      obtain ⟨gb, cb, rfl⟩ := own_form hrow hv
      have ROW := Lib.hid hrow
      have XE2 := Lib.hid hE
      clear hrow hE hv
      by_cases hlt : k < ws.length
      · have c1 := HR.out _ XE2.out k hlt
        have w0 := HW.out k
        have SN := Lib.hid (bytesOf_snoc ws k hlt)
        generalize wd ws k = x at *
        obtain ⟨w01, w02⟩ := w0
        have NW : Hid (RRow (wr.alloc (.cells #[.int .u8 (x % 256), .int .u8 (x / 256 % 256), .int .u8 (x / 65536 % 256), .int .u8 (x / 16777216)] 5)) ⟨wr.heap.size, 0, none⟩ (u8s (bytes4 x))) := row_read (World.ownsRow_lit (base := 0) wr #[.int .u8 (x % 256), .int .u8 (x / 256 % 256), .int .u8 (x / 65536 % 256), .int .u8 (x / 16777216)] 4 (Nat.zero_le _) (by unfold maxLen; omega) rfl)
        go_wp2_with (at_builtin; refine wpList_append_own _ rfl _ _ 37 rfl w.heap.size 5 i0 (.int .u8 0) 1 1 Tryz.underlying37 hi hz0 hz1 hz2 rfl (by decide) _ (4 * k) _ rfl (ROW.out.alloc _) ⟨wr.heap.size, 0, none⟩ 4 4 (u8s (bytes4 x)) rfl rfl NW.out (u8s_one _) (by unfold maxLen; omega) (by omega) (by have := XE2.out.size; simp; omega) ?_; intro v' w2 hown hgrow hnil2)
        have hv' : v' ≠ .slice none 0 0 := fun h => by have := (hnil2.1 h).2; omega
        have hE2 : Ext w w2 := (XE2.out.alloc _).grown hgrow (by intro q hq; have := (ROW.out.lt gb rfl).1; simp [go_sem, Value.ownBlock] at hq; omega)
        rw [← u8s_append, ← SN.out] at hown
        clear hgrow hnil2
        go_roundw
        case rel => exact ⟨k + 1, by omega, by go_num, hown, hE2, hv'⟩
        case measure => simp [intOf]; omega
      · obtain rfl : k = ws.length := by omega
        have ROW2 : Hid (wr.ownsRow w.heap.size 5 1 (Value.slice (some { block := gb, off := 0 }) (4 * ws.length) cb) (4 * ws.length) (u8s (bytesOf ws))) := by have := ROW.out; rw [List.take_length] at this; exact this
        have hcb := (row_max ROW2.out).1
        clear ROW
        go_wp2
        have HB : Hid (∀ j, j < sp → wr.cell? ⟨gb, 4 * ws.length - sp + j, none⟩ = some (.int .u8 (wd (bytesOf ws) (4 * ws.length - sp + j)))) := fun j hj => by
          have hbl := bytesOf_length ws
          rw [row_cell ROW2.out _ (by omega)]; simp [u8s, wd, show 4 * ws.length - sp + j < (bytesOf ws).length by omega]
        have hn : 4 * ws.length - (4 * ws.length - sp) = sp := by omega
        rw [hn]
        have TZ := Lib.hid (tailZero_iff ws sp (by omega))
        clear hn
        go_loop [63] (fun i => ∃ k : Nat, k ≤ sp ∧ i = .int .i64 k ∧ ∀ j, j < k → wd (bytesOf ws) (4 * ws.length - sp + j) = 0) (fun i => sp - (intOf i).toNat)
        case atStart => exact ⟨0, by omega, rfl, by omega⟩
        case round =>
          obtain ⟨k, hk, rfl, hzs⟩ := hrel
          have ZS := Lib.hid hzs
          clear hzs
          by_cases hlt2 : k < sp
          · have c2 := HB.out k hlt2
            by_cases hx : wd (bytesOf ws) (4 * ws.length - sp + k) = 0
            · have HX := Lib.hid hx
              have hx2 : (wd (bytesOf ws) (4 * ws.length - sp + k) != 0) = false := by simp [hx]
              generalize wd (bytesOf ws) (4 * ws.length - sp + k) = y at c2 hx2
              clear hx
              go_wp2
              go_round
              case rel => exact ⟨k + 1, by omega, by go_num, fun j hj => by
                by_cases h : j < k
                · exact ZS.out j h
                · obtain rfl : j = k := by omega
                  exact HX.out⟩
              case measure => simp [intOf]; omega
            · have TF : Hid (tailZero ws sp = false) := by
                cases h : tailZero ws sp with
                | false => exact rfl
                | true => exact absurd (TZ.out.1 h k hlt2) hx
              have hx2 : (wd (bytesOf ws) (4 * ws.length - sp + k) != 0) = true := by simp [hx]
              generalize wd (bytesOf ws) (4 * ws.length - sp + k) = y at c2 hx2
              clear hx
              go_wp2
              go_ret2
              exact ⟨XE2.out, .inr ⟨TF.out, rfl⟩⟩
          · obtain rfl : k = sp := by omega
            have TT : Hid (tailZero ws k = true) := TZ.out.2 ZS.out
            go_wp2
            go_ret2
            refine ⟨XE2.out, .inl ⟨TT.out, gb, ?_, (ROW2.out.lt gb rfl).1, (ROW2.out.lt gb rfl).2, ?_⟩⟩
            · simp
            · intro j u hj
              refine row_read ROW2.out j u ?_
              simp only [u8s, List.map_take] at hj ⊢
              rw [List.getElem?_take] at hj
              split at hj
              · exact hj
              · cases hj

end Go.Proofs.Eff

/- Maps keyed by integers: laws. -/
namespace Go.Proofs.Eff
open Go.RowKit

/-! ### Maps keyed by integers, as lists of pairs in the order in which they came -/
abbrev AList := List (Int × Value)
def aget : AList → Int → Option Value
  | [], _ => none
  | p :: r, k => if p.1 = k then some p.2 else aget r k
def aput : AList → Int → Value → AList
  | [], k, v => [(k, v)]
  | p :: r, k, v => if p.1 = k then (k, v) :: r else p :: aput r k v
def adel : AList → Int → AList
  | [], _ => []
  | p :: r, k => if p.1 = k then r else p :: adel r k
def aidx : AList → Int → Nat → Option (Nat × Value)
  | [], _, _ => none
  | p :: r, k, i => if p.1 = k then some (i, p.2) else aidx r k (i + 1)
def pairsOf (es : List MapEntry) : List (Value × Value) := es.map fun e => (e.key, e.val)
def encA (kd : IntKind) (l : AList) : List (Value × Value) := l.map fun p => (.int kd p.1, p.2)

/-- A map of those pairs lies there. -/
def MapAt (w : World) (b : Nat) (kd : IntKind) (l : AList) : Prop :=
  ∃ es clock, w.heap[b]? = some (.map es clock) ∧ pairsOf es.toList = encA kd l ∧ (∀ e, e ∈ es.toList → e.born < clock) ∧ (es.toList.map (·.born)).Nodup

theorem aget_aidx (l : AList) (k : Int) (i : Nat) : aget l k = (aidx l k i).map (·.2) := by
  induction l generalizing i with
  | nil => rfl
  | cons p r ih => simp only [aget, aidx]; split <;> simp [ih (i + 1)]

theorem findNow_int (q kd : IntKind) (k : Int) : ∀ (es : List MapEntry) (l : AList) (i : Nat), pairsOf es = encA kd l → Instr.findNow (.int q) (.int kd k) es i = some (aidx l k i) := by
  intro es
  induction es with
  | nil => intro l i h; cases l with
    | nil => rfl
    | cons p r => simp [pairsOf, encA] at h
  | cons e es ih =>
    intro l i h
    cases l with
    | nil => simp [pairsOf, encA] at h
    | cons p r =>
      simp only [pairsOf, encA, List.map_cons, List.cons.injEq, Prod.mk.injEq] at h
      obtain ⟨⟨h1, h2⟩, h3⟩ := h
      have ih' := ih r (i + 1) h3
      simp only [Instr.findNow, h1, Instr.sameNow, if_true, aidx]
      by_cases hk : p.1 = k
      · simp [hk, h2]
      · have hk' : (k == p.1) = false := by simp; exact fun h => hk h.symm
        simp [hk', hk, ih']

theorem get_map {P : Program} {w : World} {r : Nat} {es : Array MapEntry} {clock : Nat} (hb : w.heap[r]? = some (.map es clock)) : (getObj r).run P w = .ok (.map es clock) w := by
  simp [getObj, Sem.run, hb]
theorem set_map {P : Program} {w : World} {r : Nat} {es : Array MapEntry} {clock : Nat} (o : Obj) (hb : w.heap[r]? = some (.map es clock)) : (setObj r o).run P w = .ok () { w with heap := w.heap.setIfInBounds r o } := by
  simp [setObj, Sem.run, hb]
theorem run_checkKey_int' {P : Program} (w : World) {K : TypeId} {q : IntKind} (hK : P.underlying K = some (.int q)) (kd : IntKind) (em : Bool) (n : Nat) (k : Int) : (Instr.checkKey em (n + 1) K (.int kd k)).run P w = .ok () w := by
  simp only [Instr.checkKey, Sem.run_bind, run_underlying hK, Result.andThen_ok]
  rfl
theorem run_checkKey_int {P : Program} (w : World) {K : TypeId} {q : IntKind} (hK : P.underlying K = some (.int q)) (kd : IntKind) (em : Bool) (k : Int) : (Instr.checkKey em 10000 K (.int kd k)).run P w = .ok () w := run_checkKey_int' w hK kd em 9999 k
theorem run_findKey_int {P : Program} (w : World) {K : TypeId} {q : IntKind} (hK : P.underlying K = some (.int q)) {kd : IntKind} {es : List MapEntry} {l : AList} (h : pairsOf es = encA kd l) (k : Int) : (Instr.findKey K (.int kd k) es).run P w = .ok (aidx l k 0) w := by
  simp only [Instr.findKey, Sem.run_bind, run_underlying hK, Result.andThen_ok, findNow_int q kd k es l 0 h]
  rfl

/-- 'v, ok := m[k]'. -/
theorem run_lookup_ok {P : Program} (w : World) {T K E : TypeId} {q kd : IntKind} (hT : P.underlying T = some (.map K E)) (hK : P.underlying K = some (.int q)) {b : Nat} {l : AList} (hm : MapAt w b kd l) (z : Value) (hz : ∀ w, (zeroValue E).run P w = .ok z w) (k : Int) :
    (Instr.lookup T (.map (some b)) (.int kd k) true).run P w = .ok (.tuple #[(aget l k).getD z, .bool (aget l k).isSome]) w := by
  obtain ⟨es, clock, hb, hp, _, _⟩ := hm
  rw [aget_aidx l k 0]
  have hc := fun em => run_checkKey_int (P := P) w hK kd em k
  have hf := run_findKey_int (P := P) w hK hp k
  simp only [Instr.lookup, Sem.run_bind, run_underlying hT, Result.andThen_ok]
  cases ha : aidx l k 0 with
  | none => rw [ha] at hf; simp [get_map hb, hc, hf, hz]
  | some p => rw [ha] at hf; simp [get_map hb, hc, hf]
/-- 'm[k]'. -/
theorem run_lookup_at {P : Program} (w : World) {T K E : TypeId} {q kd : IntKind} (hT : P.underlying T = some (.map K E)) (hK : P.underlying K = some (.int q)) {b : Nat} {l : AList} (hm : MapAt w b kd l) (z : Value) (hz : ∀ w, (zeroValue E).run P w = .ok z w) (k : Int) :
    (Instr.lookup T (.map (some b)) (.int kd k) false).run P w = .ok ((aget l k).getD z) w := by
  obtain ⟨es, clock, hb, hp, _, _⟩ := hm
  rw [aget_aidx l k 0]
  have hc := fun em => run_checkKey_int (P := P) w hK kd em k
  have hf := run_findKey_int (P := P) w hK hp k
  simp only [Instr.lookup, Sem.run_bind, run_underlying hT, Result.andThen_ok]
  cases ha : aidx l k 0 with
  | none => rw [ha] at hf; simp [get_map hb, hc, hf, hz]
  | some p => rw [ha] at hf; simp [get_map hb, hc, hf]

theorem aidx_some {l : AList} {k : Int} {i j : Nat} {v : Value} (h : aidx l k i = some (j, v)) : i ≤ j ∧ ∃ hj : j - i < l.length, l[j - i].1 = k := by
  induction l generalizing i with
  | nil => simp [aidx] at h
  | cons p r ih =>
    simp only [aidx] at h
    split at h
    · rename_i hp
      simp only [Option.some.injEq, Prod.mk.injEq] at h
      obtain ⟨rfl, _⟩ := h
      exact ⟨Nat.le_refl _, by simp, by simpa using hp⟩
    · obtain ⟨h1, h2, h3⟩ := ih h
      refine ⟨by omega, by simp; omega, ?_⟩
      obtain ⟨m, hm⟩ : ∃ m, j - i = m + 1 := ⟨j - (i + 1), by omega⟩
      have e : j - (i + 1) = m := by omega
      simp only [hm, List.getElem_cons_succ]
      simp only [e] at h3
      exact h3
theorem aput_none {l : AList} {k : Int} {i : Nat} (v : Value) (h : aidx l k i = none) : aput l k v = l ++ [(k, v)] := by
  induction l generalizing i with
  | nil => rfl
  | cons p r ih =>
    simp only [aidx] at h
    split at h
    · cases h
    · rename_i hp; simp [aput, hp, ih h]
theorem aput_some {l : AList} {k : Int} {i j : Nat} {u : Value} (v : Value) (h : aidx l k i = some (j, u)) : aput l k v = l.set (j - i) (k, v) := by
  induction l generalizing i with
  | nil => simp [aidx] at h
  | cons p r ih =>
    simp only [aidx] at h
    split at h
    · rename_i hp
      simp only [Option.some.injEq, Prod.mk.injEq] at h
      obtain ⟨rfl, _⟩ := h
      simp [aput, hp]
    · rename_i hp
      have h1 := (aidx_some h).1
      obtain ⟨m, hm⟩ : ∃ m, j - i = m + 1 := ⟨j - (i + 1), by omega⟩
      have e : j - (i + 1) = m := by omega
      rw [hm, List.set_cons_succ, aput, if_neg hp, ih h, e]

/-- 'm[k] = v'. -/
theorem run_mapUpdate_int {P : Program} (w : World) {T K E : TypeId} {q kd : IntKind} (hT : P.underlying T = some (.map K E)) (hK : P.underlying K = some (.int q)) {b : Nat} {l : AList} (hm : MapAt w b kd l) (k : Int) (v : Value) :
    ∃ w', (Instr.mapUpdate T (.map (some b)) (.int kd k) v).run P w = .ok () w' ∧ MapAt w' b kd (aput l k v) ∧ Mod [b] w w' := by
  obtain ⟨es, clock, hb, hp, hbo, hnd⟩ := hm
  have hlt := lt_of_block hb
  have hc := fun em => run_checkKey_int (P := P) w hK kd em k
  have hf := run_findKey_int (P := P) w hK hp k
  have hel : es.toList.length = l.length := by have := congrArg List.length hp; simpa [pairsOf, encA] using this
  have hmod : ∀ o, Mod [b] w { w with heap := w.heap.setIfInBounds b o } := fun o => ⟨rfl, rfl, rfl, by simp, fun i hi hn => by
    show (w.heap.setIfInBounds b o)[i]? = _
    rw [Array.getElem?_setIfInBounds_ne (by simpa [eq_comm] using hn)]⟩
  cases ha : aidx l k 0 with
  | none =>
    rw [ha] at hf
    refine ⟨_, by simp [Instr.mapUpdate, run_underlying hT, get_map hb, hc, hf, set_map _ hb]; rfl, ?_, hmod _⟩
    refine ⟨es.push ⟨.int kd k, v, clock⟩, clock + 1, by simp [hlt], ?_, ?_, ?_⟩
    · rw [aput_none v ha]
      simp only [pairsOf, encA, Array.toList_push, List.map_append] at hp ⊢
      rw [hp]; rfl
    · intro e he
      simp only [Array.toList_push, List.mem_append, List.mem_singleton] at he
      rcases he with he | rfl
      · have := hbo e he; omega
      · simp
    · simp only [Array.toList_push, List.map_append, List.map_cons, List.map_nil]
      rw [List.nodup_append]
      refine ⟨hnd, by simp, ?_⟩
      intro x hx y hy
      simp only [List.mem_map, List.mem_singleton] at hx hy
      obtain ⟨e, he, rfl⟩ := hx
      have := hbo e he
      omega
  | some p =>
    obtain ⟨j, u⟩ := p
    rw [ha] at hf
    obtain ⟨_, hj, hk⟩ := aidx_some ha
    simp only [Nat.sub_zero] at hj hk
    have hje : j < es.size := by rw [← Array.length_toList, hel]; exact hj
    have hkey : es[j].key = .int kd k := by
      have := congrArg (fun z => z[j]?) hp
      simp [pairsOf, encA, hje, hj] at this
      rw [this.1, hk]
    have hks : (Instr.keyThatStays (((es[j]?).map (·.key)).getD (.int kd k)) (.int kd k)).run P w = .ok (.int kd k) w := by
      have : ((es[j]?).map (·.key)).getD (.int kd k) = .int kd k := by simp [hje, hkey]
      rw [this]
      simp [Instr.keyThatStays, Instr.sameBits]
    have hml : (es.modify j fun e => { e with key := .int kd k, val := v }).toList = es.toList.modify j fun e => { e with key := .int kd k, val := v } := Array.toList_modify
    refine ⟨{ w with heap := w.heap.setIfInBounds b (.map (es.modify j fun e => { e with key := .int kd k, val := v }) clock) }, by simp only [Instr.mapUpdate, Sem.run_bind, run_underlying hT, Result.andThen_ok, get_map hb, hc, hf, hks, set_map _ hb], ?_, hmod _⟩
    refine ⟨_, clock, by simp [hlt]; rfl, ?_, ?_, ?_⟩
    · rw [aput_some v ha, Nat.sub_zero, hml]
      apply List.ext_getElem
      · simp [pairsOf, encA, hel]
      · intro i h1 h2
        have hi : i < es.toList.length := by simpa [pairsOf] using h1
        have hi2 : i < l.length := by omega
        have := congrArg (fun z => z[i]?) hp
        simp only [pairsOf, encA, List.getElem?_map, List.getElem?_eq_getElem hi, List.getElem?_eq_getElem hi2, Option.map_some, Option.some.injEq] at this
        simp only [pairsOf, encA, List.getElem_map, List.getElem_modify, List.getElem_set]
        by_cases hij : j = i
        · simp [hij]
        · simp only [if_neg hij]; exact this
    · intro e he
      rw [hml] at he
      obtain ⟨i, hi, rfl⟩ := List.getElem_of_mem he
      rw [List.getElem_modify]
      have hi' : i < es.toList.length := by simpa using hi
      have := hbo _ (List.getElem_mem hi')
      split <;> simpa using this
    · rw [hml]
      have : (es.toList.modify j fun e => { e with key := .int kd k, val := v }).map (·.born) = es.toList.map (·.born) := by
        apply List.ext_getElem
        · simp
        · intro i h1 h2
          simp only [List.getElem_map, List.getElem_modify]
          split <;> rfl
      rw [this]; exact hnd

theorem MapAt.keep {a w : World} {b : Nat} {kd : IntKind} {l : AList} (h : MapAt a b kd l) (hx : Ext a w) : MapAt w b kd l := by
  obtain ⟨es, c, hb, r⟩ := h; exact ⟨es, c, hx.keep hb, r⟩
theorem MapAt.mod {S : List Nat} {a w : World} {b : Nat} {kd : IntKind} {l : AList} (h : MapAt a b kd l) (hx : Mod S a w) (hn : ¬ b ∈ S) : MapAt w b kd l := by
  obtain ⟨es, c, hb, r⟩ := h; exact ⟨es, c, hx.keep hb hn, r⟩
theorem MapAt.new (w : World) (n : Nat) (hn : n = w.heap.size) (kd : IntKind) : MapAt (w.alloc (.map #[] 0)) n kd [] := ⟨#[], 0, newB _ _ _ hn, rfl, by simp, by simp⟩
theorem MapAt.lt {w : World} {b : Nat} {kd : IntKind} {l : AList} (h : MapAt w b kd l) : b < w.heap.size := by obtain ⟨es, c, hb, _⟩ := h; exact lt_of_block hb
theorem MapAt.ne_cells {w : World} {b g : Nat} {kd : IntKind} {l : AList} {cs : Array Value} {T : TypeId} {fz : Nat × Nat} (h : MapAt w b kd l) (hg : w.heap[g]? = some (.cells cs T fz)) : g ≠ b := by
  obtain ⟨es, c, hb, _⟩ := h; exact block_ne hg hb (by simp)

end Go.Proofs.Eff
