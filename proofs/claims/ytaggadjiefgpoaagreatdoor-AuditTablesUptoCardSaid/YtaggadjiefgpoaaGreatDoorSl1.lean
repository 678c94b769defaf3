/- heap: Byte, SetByte, SetWord, Put at an object's first element. -/
import Derived.Test.YtaggadjiefgpoaaGreatDoorSl0
import Derived.Laws.BitsAllLaws
namespace Go.Proofs.Eff
open Go.RowKit

theorem xor_one_u8 {x : Int} (h0 : 0 ≤ x) (h1 : x < 256) : 0 ≤ bits .xor .u8 x 1 ∧ bits .xor .u8 x 1 < 256 ∧ bits .xor .u8 x 1 ≠ x := by
  rw [u8_xor x 1 h0 h1 (by omega) (by omega)]
  obtain ⟨n, rfl⟩ := Int.eq_ofNat_of_zero_le h0
  have hlt : n ^^^ 1 < 2 ^ 8 := Nat.xor_lt_two_pow (by omega) (by omega)
  have hne : n ^^^ 1 ≠ n := by
    intro e
    have := congrArg (fun z => n ^^^ z) e
    simp [← Nat.xor_assoc] at this
  simp only [Int.toNat_natCast, show (1 : Int).toNat = 1 from rfl]
  omega
theorem xor_one_u32 {x : Int} (h0 : 0 ≤ x) (h1 : x < 4294967296) : 0 ≤ bits .xor .u32 x 1 ∧ bits .xor .u32 x 1 < 4294967296 ∧ bits .xor .u32 x 1 ≠ x := by
  rw [u32_xor x 1 h0 h1 (by omega) (by omega)]
  obtain ⟨n, rfl⟩ := Int.eq_ofNat_of_zero_le h0
  have hlt : n ^^^ 1 < 2 ^ 32 := Nat.xor_lt_two_pow (by omega) (by omega)
  have hne : n ^^^ 1 ≠ n := by
    intro e
    have := congrArg (fun z => n ^^^ z) e
    simp [← Nat.xor_assoc] at this
  simp only [Int.toNat_natCast, show (1 : Int).toNat = 1 from rfl]
  omega
theorem andNot_255 {x : Int} (h0 : 0 ≤ x) (h1 : x < 4294967296) : bits .andNot .u32 x 255 = x - x % 256 := by
  rw [u32_andNot x 255 h0 h1 (by omega) (by omega)]
  obtain ⟨n, rfl⟩ := Int.eq_ofNat_of_zero_le h0
  have h2 : n < 2 ^ 32 := by omega
  have e : n &&& 4294967040 = n - n % 256 := by
    apply Nat.eq_of_testBit_eq
    intro i
    have h3 : n - n % 256 = 2 ^ 8 * (n / 2 ^ 8) := by omega
    rw [h3, Nat.testBit_and, Nat.testBit_two_pow_mul]
    have h4 : (4294967040 : Nat) = 2 ^ 8 * (2 ^ 24 - 1) := rfl
    rw [h4, Nat.testBit_two_pow_mul, Nat.testBit_two_pow_sub_one, Nat.testBit_div_two_pow]
    by_cases hi : 8 ≤ i
    · have : i - 8 + 8 = i := by omega
      by_cases h5 : i - 8 < 24
      · simp [hi, h5, this]
      · have : n.testBit i = false := Nat.testBit_lt_two_pow (Nat.lt_of_lt_of_le h2 (Nat.pow_le_pow_right (by omega) (by omega)))
        simp [hi, h5, this]
    · simp [hi]
  simp only [Int.toNat_natCast, show (255 : Int).toNat = 255 from rfl]
  rw [show 4294967295 - 255 = 4294967040 from rfl, e]
  omega
theorem or_byte {x b : Int} (h0 : 0 ≤ x) (h1 : x < 4294967296) (b0 : 0 ≤ b) (b1 : b < 256) : bits .or .u32 (x - x % 256) b = x - x % 256 + b :=
  bits_join .u32 32 (by decide) wraps_u32 8 (x - x % 256) b (by omega) (by omega) (by omega) (by omega) (by omega) (by omega)

section
variable {w : World} {L : HLoc} {h : HeapS} {os : List Nat}

theorem HeapAt.setWord (ha : HeapAt w L h) (j : Nat) (x : Int) : HeapAt (w.setCell ⟨L.gw, j, none⟩ (.int .u32 x)) L (setW h j x) ∧ Mod [L.gw] w (w.setCell ⟨L.gw, j, none⟩ (.int .u32 x)) := by
  have hd := ha.distinct
  have hm := mod_setCell w ⟨L.gw, j, none⟩ (.int .u32 x)
  refine ⟨⟨?_, ?_, ?_, ?_⟩, hm⟩
  · rw [hm.keep ha.blk (by simp; omega)]; simp [setW]
  · have := row_set ha.words j (.int .u32 x)
    rw [u32s_set] at this
    simpa [setW] using this
  · exact hm.row ha.starts (by intro g hg; cases hg; simp; omega)
  · exact hm.row ha.roots (by intro g hg; cases hg; simp; omega)

/-- The first element of an object of a format. -/
theorem look0 (_wf : WF h os) (fs : List Int) (o : Int) (ho : isO os o = true) (hf : fs.contains (hdrAt h.words (o / 2).toNat).fmt = true) (hl : 0 < lenH (hdrAt h.words (o / 2).toNat)) :
    lookE h.words os fs o 0 = 0 ∧ lookA h.words os fs o 0 = o / 2 + 3 := by
  have e : lookE h.words os fs o 0 = 0 := by
    unfold lookE
    rw [if_neg (by simp [ho]), if_neg (by rw [hf]; simp), if_neg (by omega)]
  exact ⟨e, by rw [lookA, if_pos e]⟩

set_option maxRecDepth 100000 in
set_option maxHeartbeats 1000000 in
theorem Byte0 (ha : HeapAt w L h) (wf : WF h os) (hs : Spares w) (o : Int) (h0 : 0 ≤ o) (h1 : o < 4294967296) (ho : isO os o = true) (hf : (hdrAt h.words (o / 2).toNat).fmt = 2) (hz : 0 < sizeAt h.words (o / 2).toNat) (hl : 0 < lenH (hdrAt h.words (o / 2).toNat)) :
    Calls Tryz.prog 23 #[.pointer (some ⟨L.b, 0, none⟩), .int .u32 o, .int .i64 0] w fun e w' => e = .returned (.tuple #[.int .u8 (wd h.words ((o / 2).toNat + 3) % 256), .int .i64 0]) ∧ Ext w w' := by
  have hp := hs.pos
  have hm := wf.mem (wf.isO_lt ho).2
  have hbig := wf.big
  obtain ⟨l1, l2⟩ := look0 wf [2] o ho (by rw [hf]; rfl) hl
  have HL := Lib.hid (fun W (hE : Ext w W) g hg (hr : RRow W ⟨g, 0, none⟩ (i64s [2])) => look_any (ha.keep hE) wf (hs.kept hE hp) o 0 h0 h1 g 1 [2] hr hg (by simp))
  have HR : Hid (RRow (w.alloc (.cells #[.int .i64 2] 63)) ⟨w.heap.size, 0, none⟩ (i64s [2])) := row_read (World.ownsRow_lit (base := 0) w #[.int .i64 2] 1 (by simp) (by unfold maxLen; omega) rfl)
  simp only [List.length_cons, List.length_nil, Nat.zero_add, l1, l2] at HL
  have d1 : 0 ≤ o / 2 + 3 := by omega
  have d2 : o / 2 + 3 < (h.words.length : Int) := by omega
  have HW : Hid (∀ W, Ext w W → _ ∧ _) := fun W hE => ⟨(ha.keep hE).rules.1, (ha.keep hE).word (o / 2 + 3).toNat (by omega)⟩
  rw [show (o / 2).toNat + 3 = (o / 2 + 3).toNat by omega]
  have hv := wf.word (o / 2 + 3).toNat
  generalize wd h.words (o / 2 + 3).toNat = V at *
  obtain ⟨v0, v1⟩ := hv
  clear ha wf hs hf hl hz hm ho l1 l2
  go_enter Tryz.func23, Tryz.ntmps23
  go_wp2_with (go_at_call 81; refine (HL.out _ ((Ext.refl _).alloc _) _ (by simp) HR.out).mono ?_; rintro e w1 ⟨rfl, hb⟩; obtain ⟨c1, c2⟩ := HW.out _ (((Ext.refl _).alloc _).trans hb); have X := Lib.hid hb; clear hb)
  go_ret2
  exact ⟨rfl, ((Ext.refl _).alloc _).trans X.out⟩

set_option maxRecDepth 100000 in
set_option maxHeartbeats 1000000 in
theorem SetWord0 (ha : HeapAt w L h) (wf : WF h os) (hs : Spares w) (o y : Int) (h0 : 0 ≤ o) (h1 : o < 4294967296) (ho : isO os o = true) (hf : (hdrAt h.words (o / 2).toNat).fmt = 3) (hz : 0 < sizeAt h.words (o / 2).toNat) :
    Calls Tryz.prog 26 #[.pointer (some ⟨L.b, 0, none⟩), .int .u32 o, .int .i64 0, .int .u32 y] w fun e w' => e = .returned (.int .i64 0) ∧ HeapAt w' L (setW h ((o / 2).toNat + 3) y) ∧ Mod [L.gw] w w' := by
  have hp := hs.pos
  have hm := wf.mem (wf.isO_lt ho).2
  have hbig := wf.big
  have hsz : (hdrAt h.words (o / 2).toNat).size = sizeAt h.words (o / 2).toNat := by have := wf.word (o / 2).toNat; simp [hdrAt, hdrOf, sizeAt]; omega
  obtain ⟨l1, l2⟩ := look0 wf [3] o ho (by rw [hf]; rfl) (by simp [lenH, hf]; omega)
  have HL := Lib.hid (fun W (hE : Ext w W) g hg (hr : RRow W ⟨g, 0, none⟩ (i64s [3])) => look_any (ha.keep hE) wf (hs.kept hE hp) o 0 h0 h1 g 1 [3] hr hg (by simp))
  have HR : Hid (RRow (w.alloc (.cells #[.int .i64 3] 63)) ⟨w.heap.size, 0, none⟩ (i64s [3])) := row_read (World.ownsRow_lit (base := 0) w #[.int .i64 3] 1 (by simp) (by unfold maxLen; omega) rfl)
  simp only [List.length_cons, List.length_nil, Nat.zero_add, l1, l2] at HL
  have d1 : 0 ≤ o / 2 + 3 := by omega
  have d2 : o / 2 + 3 < (h.words.length : Int) := by omega
  have HW : Hid (∀ W, Ext w W → _ ∧ _ ∧ _ ∧ _) := fun W hE => ⟨(ha.keep hE).rules.1, (ha.keep hE).word (o / 2 + 3).toNat (by omega), row_free (ha.keep hE).words (o / 2 + 3).toNat, row_lt (ha.keep hE).words⟩
  have HS : Hid (∀ W, Ext w W → HeapAt (W.setCell ⟨L.gw, (o / 2 + 3).toNat, none⟩ (.int .u32 y)) L (setW h (o / 2 + 3).toNat y) ∧ Mod [L.gw] w (W.setCell ⟨L.gw, (o / 2 + 3).toNat, none⟩ (.int .u32 y))) := fun W hE => ⟨((ha.keep hE).setWord _ y).1, (hE.mod _).trans ((ha.keep hE).setWord _ y).2⟩
  rw [show (o / 2).toNat + 3 = (o / 2 + 3).toNat by omega]
  generalize wd h.words (o / 2 + 3).toNat = V at *
  clear ha wf hs hf hz hm ho l1 l2 hsz
  go_enter Tryz.func26, Tryz.ntmps26
  go_wp2_with (go_at_call 81; refine (HL.out _ ((Ext.refl _).alloc _) _ (by simp) HR.out).mono ?_; rintro e w1 ⟨rfl, hb⟩; obtain ⟨c1, c2, c3, c4⟩ := HW.out _ (((Ext.refl _).alloc _).trans hb); have X := Lib.hid (((Ext.refl _).alloc _).trans hb); clear hb)
  go_ret
  exact ⟨rfl, HS.out _ X.out⟩

set_option maxRecDepth 100000 in
set_option maxHeartbeats 1000000 in
theorem Put0 (ha : HeapAt w L h) (wf : WF h os) (hs : Spares w) (o y : Int) (h0 : 0 ≤ o) (h1 : o < 4294967296) (y0 : 0 ≤ y) (y1 : y < 4294967296) (hy : valueOK os y = true) (ho : isO os o = true) (hf : (hdrAt h.words (o / 2).toNat).fmt = 1 ∨ (hdrAt h.words (o / 2).toNat).fmt = 4) (hz : 0 < sizeAt h.words (o / 2).toNat) :
    Calls Tryz.prog 28 #[.pointer (some ⟨L.b, 0, none⟩), .int .u32 o, .int .i64 0, .int .u32 y] w fun e w' => e = .returned (.int .i64 0) ∧ HeapAt w' L (setW h ((o / 2).toNat + 3) y) ∧ Mod [L.gw] w w' := by
  have hp := hs.pos
  have hm := wf.mem (wf.isO_lt ho).2
  have hbig := wf.big
  have hsz : (hdrAt h.words (o / 2).toNat).size = sizeAt h.words (o / 2).toNat := by have := wf.word (o / 2).toNat; simp [hdrAt, hdrOf, sizeAt]; omega
  obtain ⟨l1, l2⟩ := look0 wf [1, 4] o ho (by rcases hf with hf | hf <;> rw [hf] <;> rfl) (by rcases hf with hf | hf <;> simp [lenH, hf] <;> omega)
  have HL := Lib.hid (fun W (hE : Ext w W) g hg (hr : RRow W ⟨g, 0, none⟩ (i64s [1, 4])) => look_any (ha.keep hE) wf (hs.kept hE hp) o 0 h0 h1 g 2 [1, 4] hr hg (by simp))
  have HR : Hid (RRow (w.alloc (.cells #[.int .i64 1, .int .i64 4] 63)) ⟨w.heap.size, 0, none⟩ (i64s [1, 4])) := row_read (World.ownsRow_lit (base := 0) w #[.int .i64 1, .int .i64 4] 2 (by simp) (by unfold maxLen; omega) rfl)
  simp only [List.length_cons, List.length_nil, Nat.zero_add, l1, l2] at HL
  have d1 : 0 ≤ o / 2 + 3 := by omega
  have d2 : o / 2 + 3 < (h.words.length : Int) := by omega
  have HV := Lib.hid (fun W (hE : Ext w W) => value_any (ha.keep hE) wf y y0 y1)
  rw [hy] at HV
  have HW : Hid (∀ W, Ext w W → _ ∧ _ ∧ _ ∧ _) := fun W hE => ⟨(ha.keep hE).rules.1, (ha.keep hE).word (o / 2 + 3).toNat (by omega), row_free (ha.keep hE).words (o / 2 + 3).toNat, row_lt (ha.keep hE).words⟩
  have HS : Hid (∀ W, Ext w W → HeapAt (W.setCell ⟨L.gw, (o / 2 + 3).toNat, none⟩ (.int .u32 y)) L (setW h (o / 2 + 3).toNat y) ∧ Mod [L.gw] w (W.setCell ⟨L.gw, (o / 2 + 3).toNat, none⟩ (.int .u32 y))) := fun W hE => ⟨((ha.keep hE).setWord _ y).1, (hE.mod _).trans ((ha.keep hE).setWord _ y).2⟩
  rw [show (o / 2).toNat + 3 = (o / 2 + 3).toNat by omega]
  generalize wd h.words (o / 2 + 3).toNat = V at *
  clear ha wf hs hf hz hm ho l1 l2 hsz hy
  go_enter Tryz.func28, Tryz.ntmps28
  go_wp2_with (first | (go_at_call 81; refine (HL.out _ ((Ext.refl _).alloc _) _ (by simp) HR.out).mono ?_; rintro e w1 ⟨rfl, hb⟩; obtain ⟨c1, c2, c3, c4⟩ := HW.out _ (((Ext.refl _).alloc _).trans hb); have X := Lib.hid (((Ext.refl _).alloc _).trans hb); clear hb) | (go_at_call 82; refine (HV.out _ X.out).mono ?_; rintro e w2 ⟨rfl, rfl⟩))
  go_ret
  exact ⟨rfl, HS.out _ X.out⟩

set_option maxRecDepth 100000 in
set_option maxHeartbeats 1000000 in
theorem SetByte0 (ha : HeapAt w L h) (wf : WF h os) (hs : Spares w) (o b : Int) (h0 : 0 ≤ o) (h1 : o < 4294967296) (b0 : 0 ≤ b) (b1 : b < 256) (ho : isO os o = true) (hf : (hdrAt h.words (o / 2).toNat).fmt = 2) (hz : 0 < sizeAt h.words (o / 2).toNat) (hl : 0 < lenH (hdrAt h.words (o / 2).toNat)) :
    Calls Tryz.prog 24 #[.pointer (some ⟨L.b, 0, none⟩), .int .u32 o, .int .i64 0, .int .u8 b] w fun e w' => e = .returned (.int .i64 0) ∧ HeapAt w' L (setW h ((o / 2).toNat + 3) (wd h.words ((o / 2).toNat + 3) - wd h.words ((o / 2).toNat + 3) % 256 + b)) ∧ Mod [L.gw] w w' := by
  have hp := hs.pos
  have hm := wf.mem (wf.isO_lt ho).2
  have hbig := wf.big
  obtain ⟨l1, l2⟩ := look0 wf [2] o ho (by rw [hf]; rfl) hl
  have HL := Lib.hid (fun W (hE : Ext w W) g hg (hr : RRow W ⟨g, 0, none⟩ (i64s [2])) => look_any (ha.keep hE) wf (hs.kept hE hp) o 0 h0 h1 g 1 [2] hr hg (by simp))
  have HR : Hid (RRow (w.alloc (.cells #[.int .i64 2] 63)) ⟨w.heap.size, 0, none⟩ (i64s [2])) := row_read (World.ownsRow_lit (base := 0) w #[.int .i64 2] 1 (by simp) (by unfold maxLen; omega) rfl)
  simp only [List.length_cons, List.length_nil, Nat.zero_add, l1, l2] at HL
  have d1 : 0 ≤ o / 2 + 3 := by omega
  have d2 : o / 2 + 3 < (h.words.length : Int) := by omega
  have hv := wf.word (o / 2 + 3).toNat
  rw [show (o / 2).toNat + 3 = (o / 2 + 3).toNat by omega]
  have HW : Hid (∀ W, Ext w W → _ ∧ _ ∧ _ ∧ _) := fun W hE => ⟨(ha.keep hE).rules.1, (ha.keep hE).word (o / 2 + 3).toNat (by omega), row_free (ha.keep hE).words (o / 2 + 3).toNat, row_lt (ha.keep hE).words⟩
  generalize wd h.words (o / 2 + 3).toNat = V at *
  obtain ⟨v0, v1⟩ := hv
  have e1 := andNot_255 v0 v1
  have e2 := or_byte v0 v1 b0 b1
  have HS : Hid (∀ W, Ext w W → HeapAt (W.setCell ⟨L.gw, (o / 2 + 3).toNat, none⟩ (.int .u32 (V - V % 256 + b))) L (setW h (o / 2 + 3).toNat (V - V % 256 + b)) ∧ Mod [L.gw] w (W.setCell ⟨L.gw, (o / 2 + 3).toNat, none⟩ (.int .u32 (V - V % 256 + b)))) := fun W hE => ⟨((ha.keep hE).setWord _ _).1, (hE.mod _).trans ((ha.keep hE).setWord _ _).2⟩
  clear ha wf hs hf hz hm ho l1 l2 hl
  go_enter Tryz.func24, Tryz.ntmps24
  go_wp2_with (go_at_call 81; refine (HL.out _ ((Ext.refl _).alloc _) _ (by simp) HR.out).mono ?_; rintro e w1 ⟨rfl, hb⟩; obtain ⟨c1, c2, c3, c4⟩ := HW.out _ (((Ext.refl _).alloc _).trans hb); have X := Lib.hid (((Ext.refl _).alloc _).trans hb); clear hb)
  go_region
  go_wp2
  go_ret
  exact ⟨rfl, (HS.out _ X.out).1.keep ((Ext.refl _).drew), (HS.out _ X.out).2.ext ((Ext.refl _).drew)⟩
end
end Go.Proofs.Eff
