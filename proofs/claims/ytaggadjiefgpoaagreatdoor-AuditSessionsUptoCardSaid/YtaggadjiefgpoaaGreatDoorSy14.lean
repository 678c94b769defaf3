/- Bytes that are read and not owned: slices of them, nil or not, and a reader that stands before the rest of them. -/
import Derived.Test.YtaggadjiefgpoaaGreatDoorSy02
import Derived.Test.YtaggadjiefgpoaaGreatDoorSy13
namespace Go.Proofs.Eff
open Go.RowKit

/-- A slice of bytes, nil or not, below a block. -/
structure BU (w : World) (top : Nat) (a : Option Addr) (c : Nat) (l : List Int) : Prop where
  cap : l.length ≤ c
  nil0 : a = none → c = 0
  row : ∀ ad, a = some ad → 0 < c → ∃ g off, ad = ⟨g, off, none⟩ ∧ g < top ∧ ∀ j x, l[j]? = some x → w.cell? ⟨g, off + j, none⟩ = some (.int .u8 x)
  u8 : U8s l
  big : c ≤ maxLen
  small : l.length ≤ 1099511627776
section
variable {w w' : World} {top : Nat} {a : Option Addr} {c : Nat} {l : List Int}
theorem BU.nil (w : World) (top : Nat) : BU w top none 0 [] := ⟨Nat.le_refl _, fun _ => rfl, fun _ h => (by cases h), fun _ h => (by cases h), Nat.zero_le _, Nat.zero_le _⟩
theorem BU.keep (h : BU w top a c l) (hk : ∀ k, k < top → w'.heap[k]? = w.heap[k]?) : BU w' top a c l :=
  ⟨h.cap, h.nil0, fun ad e hc => by
    obtain ⟨g, off, e1, e2, e3⟩ := h.row ad e hc
    refine ⟨g, off, e1, e2, fun j x hj => ?_⟩
    rw [← e3 j x hj]
    exact World.cell?_of_block (a := ⟨g, off + j, none⟩) (hk _ e2), h.u8, h.big, h.small⟩
theorem BU.ext (h : BU w top a c l) (hx : Ext w w') (ht : top ≤ w.heap.size) : BU w' top a c l := h.keep fun k hk => hx.block (by omega)
theorem BU.mod (h : BU w top a c l) {S : List Nat} (hx : Mod S w w') (ht : top ≤ w.heap.size) (hs : ∀ x, x ∈ S → top ≤ x) : BU w' top a c l :=
  h.keep fun k hk => hx.block k (by omega) (fun hm => by have := hs k hm; omega)
theorem BU.up (h : BU w top a c l) {t : Nat} (ht : top ≤ t) : BU w t a c l := ⟨h.cap, h.nil0, fun ad e hc => by
    obtain ⟨g, off, e1, e2, e3⟩ := h.row ad e hc
    exact ⟨g, off, e1, by omega, e3⟩, h.u8, h.big, h.small⟩
theorem BU.at (h : BU w top a c l) {i : Nat} {x : Int} (hi : l[i]? = some x) : ∃ g off, a = some ⟨g, off, none⟩ ∧ g < top ∧ w.cell? ⟨g, off + i, none⟩ = some (.int .u8 x) := by
  have hl := (List.getElem?_eq_some_iff.1 hi).1
  cases a with
  | none => have := h.nil0 rfl; have := h.cap; omega
  | some ad =>
    obtain ⟨g, off, rfl, e2, e3⟩ := h.row ad rfl (by have := h.cap; omega)
    exact ⟨g, off, rfl, e2, e3 i x hi⟩
theorem BU.head {x : Int} (h : BU w top a c (x :: l)) : ∃ g off, a = some ⟨g, off, none⟩ ∧ g < top ∧ w.cell? ⟨g, off, none⟩ = some (.int .u8 x) := h.at (i := 0) rfl
theorem BU.cells (h : BU w top a c l) {g off : Nat} (e : a = some ⟨g, off, none⟩) : True ∧ ∀ j x, l[j]? = some x → w.cell? ⟨g, off + j, none⟩ = some (.int .u8 x) := by
  refine ⟨trivial, fun j x hj => ?_⟩
  have hl := (List.getElem?_eq_some_iff.1 hj).1
  obtain ⟨g', off', e1, e2, e3⟩ := h.row _ e (by have := h.cap; omega)
  cases e1
  exact e3 j x hj
theorem BU.sub (h : BU w top a c l) (lo hi : Nat) (h1 : lo ≤ hi) (h2 : hi ≤ l.length) : BU w top (if c = lo then a else a.map (·.add (lo * 1))) (c - lo) ((l.take hi).drop lo) := by
  have hc := h.cap
  refine ⟨by simp; omega, fun e => ?_, fun ad e hcc => ?_, fun x hx => h.u8 x (List.mem_of_mem_take (List.mem_of_mem_drop hx)), by have := h.big; omega, by have := h.small; simp; omega⟩
  · split at e
    · have := h.nil0 e; omega
    · cases a with
      | none => have := h.nil0 rfl; omega
      | some ad => simp at e
  · split at e
    · omega
    · cases a with
      | none => simp at e
      | some a' =>
        obtain ⟨g, off, rfl, e2, e3⟩ := h.row a' rfl (by omega)
        simp only [Option.map_some, Option.some.injEq, Nat.mul_one, Addr.add_lit] at e
        subst e
        refine ⟨g, off + lo, rfl, e2, fun j x hj => ?_⟩
        rw [Nat.add_assoc]
        refine e3 (lo + j) x ?_
        simp only [List.getElem?_drop, List.getElem?_take] at hj
        split at hj
        · exact hj
        · simp at hj
theorem BU.tail (h : BU w top a c l) (lo : Nat) (h1 : lo ≤ l.length) : BU w top (if c = lo then a else a.map (·.add (lo * 1))) (c - lo) (l.drop lo) := by
  have := h.sub lo l.length h1 (Nat.le_refl _)
  rwa [List.take_length] at this
theorem BU.rest_eq (h : BU w top a c l) {lo : Nat} (h1 : lo ≤ l.length) (hc : c = lo) : BU w top a 0 (l.drop lo) := by
  have := h.tail lo h1
  rwa [if_pos hc, hc, Nat.sub_self] at this
theorem BU.rest_ne (h : BU w top a c l) {lo : Nat} (h1 : lo ≤ l.length) (hc : ¬ c = lo) : BU w top (a.map fun x => x.add lo) (c - lo) (l.drop lo) := by
  have := h.tail lo h1
  rw [if_neg hc] at this
  simpa using this
theorem BU.front (h : BU w top a c l) (hi : Nat) (h1 : hi ≤ l.length) : BU w top a c (l.take hi) :=
  ⟨by have := h.cap; simp; omega, h.nil0, fun ad e hc => by
    obtain ⟨g, off, e1, e2, e3⟩ := h.row ad e hc
    refine ⟨g, off, e1, e2, fun j x hj => e3 j x ?_⟩
    simp only [List.getElem?_take] at hj
    split at hj
    · exact hj
    · simp at hj, fun x hx => h.u8 x (List.mem_of_mem_take hx), h.big, by have := h.small; simp; omega⟩
end

/-- A reader stands before bytes. -/
def RdAt (w : World) (pb ty : Nat) (l : List Int) (bad : Bool) : Prop := ∃ a c, w.heap[pb]? = some (.cells #[.slice a l.length c, .bool bad] ty) ∧ BU w pb a c l
/-- Where a reader is at; none: something was not as it must be. -/
def Rd (w : World) (pb ty : Nat) : Option (List Int) → Prop
  | some l => RdAt w pb ty l false
  | none => ∃ l, RdAt w pb ty l true
section
variable {w w' : World} {pb ty : Nat} {l : List Int} {bad : Bool}
theorem Rd.open {s : Option (List Int)} (h : Rd w pb ty s) : ∃ l bad, RdAt w pb ty l bad ∧ (bad = false → s = some l) ∧ (bad = true → s = none) := by
  cases s with
  | none => obtain ⟨l, h⟩ := h; exact ⟨l, true, h, by simp, by simp⟩
  | some l => exact ⟨l, false, h, by simp, by simp⟩
theorem RdAt.close (h : RdAt w pb ty l bad) : Rd w pb ty (if bad then none else some l) := by
  cases bad with
  | true => exact ⟨l, h⟩
  | false => exact h
theorem RdAt.lt (h : RdAt w pb ty l bad) : pb < w.heap.size := by obtain ⟨a, c, h, _⟩ := h; exact lt_of_block h
theorem Rd.lt {s : Option (List Int)} (h : Rd w pb ty s) : pb < w.heap.size := by obtain ⟨_, _, h, _⟩ := h.open; exact h.lt
theorem Rd.ext {s : Option (List Int)} (h : Rd w pb ty s) (hx : Ext w w') : Rd w' pb ty s := by
  have hl := h.lt
  cases s with
  | none => obtain ⟨l, a, c, h1, h2⟩ := h; exact ⟨l, a, c, hx.keep h1, h2.ext hx (by omega)⟩
  | some l => obtain ⟨a, c, h1, h2⟩ := h; exact ⟨a, c, hx.keep h1, h2.ext hx (by omega)⟩
/-- A reader's cells are written. -/
theorem RdAt.left (h : RdAt w pb ty l bad) {a : Option Addr} {c n : Nat} {r : List Int} (hn : n = r.length) (hu : BU w pb a c r) : RdAt (w.setCell ⟨pb, 0, none⟩ (.slice a n c)) pb ty r bad ∧ Mod [pb] w (w.setCell ⟨pb, 0, none⟩ (.slice a n c)) := by
  obtain ⟨a', c', hb, hu'⟩ := h
  subst hn
  refine ⟨⟨a, c, ?_, hu.mod (mod_setCell w ⟨pb, 0, none⟩ _) (Nat.le_of_lt (lt_of_block hb)) (by simp)⟩, mod_setCell w ⟨pb, 0, none⟩ _⟩
  exact setB hb _
theorem RdAt.mark (h : RdAt w pb ty l bad) : RdAt (w.setCell ⟨pb, 1, none⟩ (.bool true)) pb ty l true ∧ Mod [pb] w (w.setCell ⟨pb, 1, none⟩ (.bool true)) := by
  obtain ⟨a', c', hb, hu'⟩ := h
  refine ⟨⟨a', c', ?_, hu'.mod (mod_setCell w ⟨pb, 1, none⟩ _) (Nat.le_of_lt (lt_of_block hb)) (by simp)⟩, mod_setCell w ⟨pb, 1, none⟩ _⟩
  exact setB hb _
theorem RdAt.u8 (h : RdAt w pb ty l bad) : U8s l := by obtain ⟨a, c, _, h⟩ := h; exact h.u8
theorem Rd.u8 {s : Option (List Int)} (h : Rd w pb ty s) : U8o s := fun l hl => by subst hl; exact RdAt.u8 (bad := false) h
end
end Go.Proofs.Eff

/- wire.part: take, byte, count, signed, text, done. -/
namespace Go.Proofs.Eff
open Go.RowKit

/-- What is taken of bytes. -/
def TakeR (w : World) (pb : Nat) (l : List Int) (bad : Bool) (n : Int) (e : Ending) (w' : World) : Prop :=
  ∃ a c r l' bad', e = .returned (.slice a r.length c) ∧ BU w' pb a c r ∧ RdAt w' pb 294 l' bad' ∧ Mod [pb] w w' ∧
    (0 ≤ n ∧ n ≤ l.length → r = l.take n.toNat ∧ l' = l.drop n.toNat ∧ bad' = bad) ∧ (¬ (0 ≤ n ∧ n ≤ l.length) → r = [] ∧ l' = [] ∧ bad' = true)
set_option maxRecDepth 100000 in
set_option maxHeartbeats 1000000 in
theorem take201 {w : World} {pb : Nat} {l : List Int} {bad : Bool} (h : RdAt w pb 294 l bad) (n : Int) (h0 : -9223372036854775808 ≤ n) (h1 : n < 9223372036854775808) :
    Calls Tryz.prog 201 #[.pointer (some ⟨pb, 0, none⟩), .int .i64 n] w (TakeR w pb l bad n) := by
  obtain ⟨a, c, hb, hu⟩ := h
  obtain ⟨b1, b2⟩ := blk hb
  have HB := Lib.hid hb
  have HU := Lib.hid hu
  have hcap := hu.cap
  clear hb hu
  by_cases hn : 0 ≤ n ∧ n ≤ l.length
  · obtain ⟨n0, n1⟩ := hn
    have hl : n.toNat ≤ l.length := by omega
    have E1 : Hid (n.toNat = (l.take n.toNat).length) := by show _ = _; rw [List.length_take]; omega
    have E2 : Hid (l.length - n.toNat = (l.drop n.toNat).length) := by show _ = _; rw [List.length_drop]
    go_enter Tryz.func201, Tryz.ntmps201
    go_wp2_with fail
    case inl =>
      have hc : c = n.toNat := by assumption
      go_ret
      obtain ⟨h5, h6⟩ := RdAt.left ⟨a, c, HB.out, HU.out⟩ E2.out (HU.out.rest_eq hl hc)
      refine ⟨a, c, l.take n.toNat, _, bad, ?_, (HU.out.front _ hl).mod h6 (Nat.le_of_lt (lt_of_block HB.out)) (by simp), h5, h6, fun _ => ⟨rfl, rfl, rfl⟩, fun hn => absurd ⟨n0, n1⟩ hn⟩
      show Ending.returned (Value.slice a n.toNat n.toNat) = _
      rw [← E1.out, hc]
    case inr =>
      have hc : ¬ c = n.toNat := by assumption
      go_ret
      obtain ⟨h5, h6⟩ := RdAt.left ⟨a, c, HB.out, HU.out⟩ E2.out (HU.out.rest_ne hl hc)
      refine ⟨a, c, l.take n.toNat, _, bad, ?_, (HU.out.front _ hl).mod h6 (Nat.le_of_lt (lt_of_block HB.out)) (by simp), h5, h6, fun _ => ⟨rfl, rfl, rfl⟩, fun hn => absurd ⟨n0, n1⟩ hn⟩
      show Ending.returned (Value.slice a n.toNat c) = _
      rw [← E1.out]
  · obtain ⟨h3, h4⟩ := RdAt.mark ⟨a, c, HB.out, HU.out⟩
    obtain ⟨h5, h6⟩ := h3.left (a := none) (c := 0) (n := 0) (r := []) rfl (BU.nil _ _)
    have FIN := Lib.hid (show TakeR w pb l bad n (.returned (.slice none 0 0)) ((w.setCell ⟨pb, 1, none⟩ (.bool true)).setCell ⟨pb, 0, none⟩ (.slice none 0 0)) from
      ⟨none, 0, [], [], true, rfl, BU.nil _ _, h5, h4.trans h6, fun h => absurd h hn, fun _ => ⟨rfl, rfl, rfl⟩⟩)
    clear h3 h4 h5 h6
    have key : n < 0 ∨ (¬ n < 0 ∧ (l.length : Int) < n) := by omega
    rcases key with k1 | ⟨k1, k2⟩
    all_goals
      go_enter Tryz.func201, Tryz.ntmps201
      go_wp2_with fail
      go_ret
      exact FIN.out

/-- What a byte read is. -/
def ByteR (w : World) (pb ty : Nat) (l : List Int) (bad : Bool) (k : Int → Value) (e : Ending) (w' : World) : Prop :=
  ∃ x l' bad', e = .returned (k x) ∧ 0 ≤ x ∧ x < 256 ∧ RdAt w' pb ty l' bad' ∧ Mod [pb] w w' ∧ (∀ y r, l = y :: r → x = y ∧ l' = r ∧ bad' = bad) ∧ (l = [] → l' = [] ∧ bad' = true)
set_option maxRecDepth 100000 in
set_option maxHeartbeats 1000000 in
theorem byte181 {w : World} {pb : Nat} {l : List Int} {bad : Bool} (h : RdAt w pb 294 l bad) :
    Calls Tryz.prog 181 #[.pointer (some ⟨pb, 0, none⟩)] w (ByteR w pb 294 l bad (Value.int .u8)) := by
  have HT := Lib.hid (take201 h 1 (by omega) (by omega))
  have hu := Lib.hid h.u8
  clear h
  cases l with
  | nil =>
    go_enter Tryz.func181, Tryz.ntmps181
    go_wp2_with (go_at_call 201; refine HT.out.mono ?_; rintro e w1 ⟨a, c, r, l', bad', rfl, h1, h2, h3, h4, h5⟩; obtain ⟨rfl, rfl, rfl⟩ := h5 (by simp); have H2 := Lib.hid h2; have H3 := Lib.hid h3; clear h1 h2 h3 h4 h5)
    go_ret
    exact ⟨0, [], true, rfl, by omega, by omega, H2.out, H3.out, fun y r hy => (by cases hy), fun _ => ⟨rfl, rfl⟩⟩
  | cons x l =>
    go_enter Tryz.func181, Tryz.ntmps181
    go_wp2_with (go_at_call 201; refine HT.out.mono ?_; rintro e w1 ⟨a, c, r, l', bad', rfl, h1, h2, h3, h4, h5⟩; obtain ⟨rfl, rfl, rfl⟩ := h4 (by simp; omega); have H2 := Lib.hid h2; have H3 := Lib.hid h3; obtain ⟨g, off, rfl, _, b1⟩ := BU.head (x := x) (l := []) h1; clear h1 h2 h3 h4 h5)
    go_ret
    exact ⟨x, _, _, rfl, (hu.out x List.mem_cons_self).1, (hu.out x List.mem_cons_self).2, H2.out, H3.out, fun y r hy => by cases hy; exact ⟨rfl, rfl, rfl⟩, fun h0 => by cases h0⟩
end Go.Proofs.Eff

/- wire.part: count. -/
namespace Go.Proofs.Eff
open Go.RowKit

theorem u8_and127 {x : Int} (h₀ : 0 ≤ x) (h₁ : x < 256) : bits .and .u8 x 127 = x % 128 := bits_mask .u8 8 (by decide) wraps_u8 7 (by decide) x h₀ h₁
/-- What a count read is. -/
def CountR (w : World) (pb ty : Nat) (s : Option (List Int)) (e : Ending) (w' : World) : Prop :=
  e = .returned (.int .u64 (countS s).1) ∧ Rd w' pb ty (countS s).2 ∧ Mod [pb] w w'
/-- Where the reading of a count stands. -/
structure CntI (w : World) (pb ty : Nat) (l : List Int) (k : Nat) (v : Int) (wr : World) : Prop where
  le : k ≤ 10
  v0 : 0 ≤ v
  v1 : v < 2 ^ (7 * k)
  rd : ∃ r, RdAt wr pb ty r false ∧ countG (10 - k) k v r = countP l
  mod : Mod [pb] w wr
theorem CountR.stop {w w1 : World} {pb ty : Nat} {l r : List Int} {b : Bool} (hm : Mod [pb] w w1) (h : RdAt w1 pb ty r b) (hn : countP l = none) :
    CountR w pb ty (some l) (.returned (.int .u64 0)) (w1.setCell ⟨pb, 1, none⟩ (.bool true)) := by
  obtain ⟨h8, h9⟩ := h.mark
  unfold CountR
  rw [countS_stop hn]
  exact ⟨rfl, ⟨_, h8⟩, hm.trans h9⟩
theorem wrap_u64_in {n : Int} (h0 : 0 ≤ n) (h1 : n < 18446744073709551616) : IntKind.u64.wrap n = n := by
  show n % 18446744073709551616 = n
  omega
theorem or_comm_u64 (x y : Int) : bits .or .u64 x y = bits .or .u64 y x := by simp [bits, BitVec.or_comm]
theorem part_lt {x : Int} {k : Nat} (hk : k < 10) (x0 : 0 ≤ x) (_x1 : x < 256) (hb : ¬ (k = 9 ∧ 1 < x)) : 0 ≤ x % 128 * 2 ^ (7 * k) ∧ x % 128 * 2 ^ (7 * k) < 18446744073709551616 := by
  have hp : (0 : Int) < 2 ^ (7 * k) := Int.pow_pos (by omega)
  refine ⟨Int.mul_nonneg (by omega) (by omega), ?_⟩
  by_cases h9 : k = 9
  · subst h9
    have e1 : (2 : Int) ^ (7 * 9) = 9223372036854775808 := by decide
    rw [e1]
    have : x = 0 ∨ x = 1 := by omega
    rcases this with rfl | rfl <;> omega
  · have e1 : (2 : Int) ^ (7 * k) ≤ 2 ^ 56 := by exact_mod_cast Nat.pow_le_pow_right (n := 2) (by omega) (show 7 * k ≤ 56 by omega)
    have e2 : (2 : Int) ^ 56 = 72057594037927936 := by decide
    have e3 : x % 128 * 2 ^ (7 * k) ≤ 127 * 2 ^ (7 * k) := Int.mul_le_mul_of_nonneg_right (by omega) (by omega)
    omega
/-- One more byte of a count. -/
theorem count_add {v x : Int} {k : Nat} (hk : k < 10) (v0 : 0 ≤ v) (v1 : v < 2 ^ (7 * k)) (x0 : 0 ≤ x) (x1 : x < 256) (hb : ¬ (k = 9 ∧ 1 < x)) :
    bits .or .u64 v (IntKind.u64.wrap (IntKind.u64.wrap (bits .and .u8 x 127) * 2 ^ (7 * k))) = v + x % 128 * 2 ^ (7 * k) := by
  obtain ⟨p0, p1⟩ := part_lt hk x0 x1 hb
  have e2 : (2 : Int) ^ (7 * k) ≤ 2 ^ 63 := by exact_mod_cast Nat.pow_le_pow_right (n := 2) (by omega) (show 7 * k ≤ 63 by omega)
  have e3 : (2 : Int) ^ 63 = 9223372036854775808 := by decide
  have e4 : (2 : Int) ^ 64 = 18446744073709551616 := by decide
  rw [u8_and127 x0 x1, wrap_u64_in (n := x % 128) (by omega) (by omega), wrap_u64_in p0 p1, or_comm_u64,
    bits_join .u64 64 (by decide) (fun n h0 h1 => wrap_u64_in h0 (by omega)) (7 * k) _ _ p0 (Int.mul_emod_left _ _) (by omega) v0 v1 (by omega)]
  omega
theorem count_add9 {v x : Int} (v0 : 0 ≤ v) (v1 : v < 2 ^ (7 * 9)) (x0 : 0 ≤ x) (x1 : x < 256) (hb : ¬ 1 < x) :
    bits .or .u64 v (IntKind.u64.wrap (IntKind.u64.wrap (bits .and .u8 x 127) * 9223372036854775808)) = v + x % 128 * 2 ^ (7 * 9) := by
  have e := count_add (k := 9) (by omega) v0 v1 x0 x1 (fun h => hb h.2)
  have e2 : (2 : Int) ^ (7 * 9) = 9223372036854775808 := by decide
  rw [e2] at e
  rw [e2]
  exact e
theorem CountR.last {w w1 : World} {pb ty : Nat} {l r : List Int} {v x v' : Int} {k f : Nat} (hm : Mod [pb] w w1) (h : RdAt w1 pb ty r false) (hb : ¬ ((k = 9 ∧ 1 < x) ∨ (0 < k ∧ x = 0))) (hx : x < 128) (hc : countG (f + 1) k v (x :: r) = countP l)
    (hv : v' = v + x % 128 * 2 ^ (7 * k)) : CountR w pb ty (some l) (.returned (.int .u64 v')) w1 := by
  subst hv
  have hn : countP l = some (v + x % 128 * 2 ^ (7 * k), r) := by rw [← hc]; simp only [countG, if_neg hb, if_pos hx]
  unfold CountR
  rw [countS_go hn]
  exact ⟨rfl, h, hm⟩
theorem CntI.next {w wr w1 : World} {pb ty : Nat} {l r : List Int} {v x v' : Int} {k f : Nat} (hI : CntI w pb ty l k v wr) (hk : k < 10) (x0 : 0 ≤ x) (x1 : x < 256) (hb : ¬ ((k = 9 ∧ 1 < x) ∨ (0 < k ∧ x = 0))) (hx : ¬ x < 128) (hc : countG (f + 1) k v (x :: r) = countP l) (hf : 10 - k = f + 1)
    (hm : Mod [pb] wr w1) (h : RdAt w1 pb ty r false) (hv : v' = v + x % 128 * 2 ^ (7 * k)) : CntI w pb ty l (k + 1) v' w1 := by
  subst hv
  obtain ⟨p0, p1⟩ := part_lt hk x0 x1 (fun h => hb (.inl h))
  have hv0 := hI.v0
  have hv1 := hI.v1
  have hs : (2 : Int) ^ (7 * (k + 1)) = 128 * 2 ^ (7 * k) := by rw [show 7 * (k + 1) = 7 * k + 7 by omega, Int.pow_add]; omega
  have e3 : x % 128 * 2 ^ (7 * k) ≤ 127 * 2 ^ (7 * k) := Int.mul_le_mul_of_nonneg_right (by omega) (by omega)
  refine ⟨by omega, by omega, by rw [hs]; omega, ⟨r, h, ?_⟩, hI.mod.trans hm⟩
  rw [← hc, show 10 - (k + 1) = f by omega]
  simp only [countG, if_neg hb, if_neg hx]
theorem CountR.done {w w1 : World} {pb ty : Nat} {l r : List Int} {v : Int} (hm : Mod [pb] w w1) (h : RdAt w1 pb ty r false) (hn : countP l = some (v, r)) :
    CountR w pb ty (some l) (.returned (.int .u64 v)) w1 := by
  unfold CountR
  rw [countS_go hn]
  exact ⟨rfl, h, hm⟩

set_option maxRecDepth 100000 in
set_option maxHeartbeats 1000000 in
theorem count182_at {w : World} {pb : Nat} {l : List Int} (h : RdAt w pb 294 l false) :
    Calls Tryz.prog 182 #[.pointer (some ⟨pb, 0, none⟩)] w (CountR w pb 294 (some l)) := by
  have HS : Hid (CntI w pb 294 l 0 0 w) := ⟨by omega, by omega, by simp, ⟨l, h, rfl⟩, Mod.refl _ _⟩
  clear h
  go_enter Tryz.func182, Tryz.ntmps182
  go_wp2_with fail
  go_loopw [6, 3] (fun i n wr => ∃ k v, i = .int .i64 (k : Nat) ∧ n = .int .u64 v ∧ CntI w pb 294 l k v wr) (fun i _ _ => 10 - (intOf i).toNat)
  case atStart => exact ⟨0, 0, rfl, rfl, HS.out⟩
  case round =>
    obtain ⟨k, v, rfl, rfl, hI⟩ := hrel
    have HI := Lib.hid hI
    obtain ⟨hk, v0, v1, ⟨r, hr, hc⟩, hm⟩ := hI
    have HR := Lib.hid hr
    have HC := Lib.hid hc
    have HM := Lib.hid hm
    clear hr hc hm
    by_cases hk10 : k < 10
    · have HB := Lib.hid (byte181 HR.out)
      cases r with
      | nil =>
        have HN : Hid (countP l = none) := by
          have := HC.out
          obtain ⟨f, hf⟩ : ∃ f, 10 - k = f + 1 := ⟨10 - k - 1, by omega⟩
          rw [hf] at this
          exact this.symm
        go_wp2_with (go_at_call 181; refine HB.out.mono ?_; rintro e w1 ⟨x, l', bad', rfl, x0, x1, h2, h3, h4, h5⟩; obtain ⟨rfl, rfl⟩ := h5 rfl; have H2 := Lib.hid h2; have H3 := Lib.hid h3; obtain ⟨a, c, hb, _⟩ := h2; obtain ⟨b1, b2⟩ := blk hb; clear h3 h4 h5 hb)
        go_ret
        exact CountR.stop (HM.out.trans H3.out) H2.out HN.out
      | cons x r =>
        obtain ⟨f, hf⟩ : ∃ f, 10 - k = f + 1 := ⟨10 - k - 1, by omega⟩
        have hx : 0 ≤ x ∧ x < 256 := HR.out.u8 x List.mem_cons_self
        obtain ⟨x0, x1⟩ := hx
        by_cases hbad : (k = 9 ∧ 1 < x) ∨ (0 < k ∧ x = 0)
        · have HN : Hid (countP l = none) := by
            have := HC.out
            rw [hf] at this
            simp only [countG, if_pos hbad] at this
            exact this.symm
          have HBD := Lib.hid hbad
          clear hbad hf
          go_wp2_with (go_at_call 181; refine HB.out.mono ?_; rintro e w1 ⟨x', l', bad', rfl, x0, x1, h2, h3, h4, h5⟩; obtain ⟨rfl, rfl, rfl⟩ := h4 x r rfl; have H2 := Lib.hid h2; have H3 := Lib.hid h3; obtain ⟨a, c, hb, _⟩ := h2; obtain ⟨b1, b2⟩ := blk hb; clear h3 h4 h5 hb)
          all_goals first
            | (exfalso; have hbad := HBD.out; (try simp only [beq_iff_eq, beq_eq_false_iff_ne, ne_eq] at *); omega)
            | (go_ret
               exact CountR.stop (HM.out.trans H3.out) H2.out HN.out)

        · have HBD := Lib.hid hbad
          have HF := Lib.hid hf
          clear hbad hf
          by_cases h9 : k = 9
          · subst h9
            have hx1 : ¬ 1 < x := fun h => HBD.out (.inl ⟨rfl, h⟩)
            have hx2 : ¬ x = 0 := fun h => HBD.out (.inr ⟨by omega, h⟩)
            have hx3 : x = 1 := by omega
            clear hx1 hx2
            subst hx3
            have CA := Lib.hid (count_add9 v0 v1 (x := 1) (by omega) (by omega) (by omega))
            go_wp2_with (go_at_call 181; refine HB.out.mono ?_; rintro e w1 ⟨x', l', bad', rfl, _, _, h2, h3, h4, h5⟩; obtain ⟨rfl, rfl, rfl⟩ := h4 1 r rfl; have H2 := Lib.hid h2; have H3 := Lib.hid h3; obtain ⟨a, c, hb, _⟩ := h2; obtain ⟨b1, b2⟩ := blk hb; clear h3 h4 h5 hb)
            go_ret
            exact CountR.last (k := 9) (x := 1) (f := f) (HM.out.trans H3.out) H2.out (by omega) (by omega) (by rw [← HF.out]; exact HC.out) CA.out
          · have HC9 : Hid (¬ k = 9) := h9
            have k9 : ((k : Int) == 9) = false := by rw [beq_eq_false_iff_ne]; omega
            have CA := Lib.hid (count_add hk10 v0 v1 x0 x1 (fun h => h9 h.1))
            by_cases h0 : k = 0
            · have k0 : ¬ (0 < k) := by omega
              have CA : Hid (bits .or .u64 v (IntKind.u64.wrap (IntKind.u64.wrap (bits .and .u8 x 127))) = v + x % 128 * 2 ^ (7 * k)) := by
                have := CA.out
                subst h0
                show _ = _
                simpa using this
              by_cases hx : x < 128
              · go_wp2_with (go_at_call 181; refine HB.out.mono ?_; rintro e w1 ⟨x', l', bad', rfl, x0, x1, h2, h3, h4, h5⟩; obtain ⟨rfl, rfl, rfl⟩ := h4 x r rfl; have H2 := Lib.hid h2; have H3 := Lib.hid h3; obtain ⟨a, c, hb, _⟩ := h2; obtain ⟨b1, b2⟩ := blk hb; clear h3 h4 h5 hb)
                go_ret
                exact CountR.last (f := f) (HM.out.trans H3.out) H2.out HBD.out (by omega) (by rw [← HF.out]; exact HC.out) CA.out
              · go_wp2_with (go_at_call 181; refine HB.out.mono ?_; rintro e w1 ⟨x', l', bad', rfl, x0, x1, h2, h3, h4, h5⟩; obtain ⟨rfl, rfl, rfl⟩ := h4 x r rfl; have H2 := Lib.hid h2; have H3 := Lib.hid h3; obtain ⟨a, c, hb, _⟩ := h2; obtain ⟨b1, b2⟩ := blk hb; clear h3 h4 h5 hb)
                exact ⟨⟨k + 1, _, by go_num, rfl, HI.out.next hk10 x0 x1 HBD.out (by omega) (by rw [← HF.out]; exact HC.out) HF.out H3.out H2.out CA.out⟩, by simp [intOf]; omega⟩
            · have k0 : (0 < k) := by omega
              have x9 : (x == 0) = false := by rw [beq_eq_false_iff_ne]; exact fun h => HBD.out (.inr ⟨k0, h⟩)
              by_cases hx : x < 128
              · go_wp2_with (go_at_call 181; refine HB.out.mono ?_; rintro e w1 ⟨x', l', bad', rfl, x0, x1, h2, h3, h4, h5⟩; obtain ⟨rfl, rfl, rfl⟩ := h4 x r rfl; have H2 := Lib.hid h2; have H3 := Lib.hid h3; obtain ⟨a, c, hb, _⟩ := h2; obtain ⟨b1, b2⟩ := blk hb; clear h3 h4 h5 hb)
                go_ret
                exact CountR.last (f := f) (HM.out.trans H3.out) H2.out HBD.out (by omega) (by rw [← HF.out]; exact HC.out) CA.out
              · go_wp2_with (go_at_call 181; refine HB.out.mono ?_; rintro e w1 ⟨x', l', bad', rfl, x0, x1, h2, h3, h4, h5⟩; obtain ⟨rfl, rfl, rfl⟩ := h4 x r rfl; have H2 := Lib.hid h2; have H3 := Lib.hid h3; obtain ⟨a, c, hb, _⟩ := h2; obtain ⟨b1, b2⟩ := blk hb; clear h3 h4 h5 hb)
                exact ⟨⟨k + 1, _, by go_num, rfl, HI.out.next hk10 x0 x1 HBD.out (by omega) (by rw [← HF.out]; exact HC.out) HF.out H3.out H2.out CA.out⟩, by simp [intOf]; omega⟩
    · obtain rfl : k = 10 := by omega
      have HN : Hid (countP l = none) := HC.out.symm
      obtain ⟨a, c, hb, _⟩ := HR.out
      obtain ⟨b1, b2⟩ := blk hb
      clear hb
      go_wp2_with fail
      go_ret
      exact CountR.stop HM.out HR.out HN.out
end Go.Proofs.Eff
