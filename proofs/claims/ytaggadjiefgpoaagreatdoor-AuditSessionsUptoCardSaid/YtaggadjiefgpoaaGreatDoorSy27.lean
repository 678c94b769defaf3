/- wire.part: count, signed, text, done. -/
import Derived.Test.YtaggadjiefgpoaaGreatDoorSy14
import Derived.Test.YtaggadjiefgpoaaGreatDoorSy26
namespace Go.Proofs.Eff
open Go.RowKit

set_option maxRecDepth 100000 in
set_option maxHeartbeats 1000000 in
theorem count182_bad {w : World} {pb : Nat} {l : List Int} (h : RdAt w pb 294 l true) :
    Calls Tryz.prog 182 #[.pointer (some ⟨pb, 0, none⟩)] w (CountR w pb 294 none) := by
  have HB : Hid (Calls Tryz.prog 181 #[.pointer (some ⟨pb, 0, none⟩)] w fun e w' => ∃ x l', e = .returned (.int .u8 x) ∧ RdAt w' pb 294 l' true ∧ Mod [pb] w w') := by
    refine (byte181 h).mono ?_
    rintro e w1 ⟨x, l', bad', rfl, _, _, h2, h3, h4, h5⟩
    cases l with
    | nil => obtain ⟨rfl, rfl⟩ := h5 rfl; exact ⟨x, _, rfl, h2, h3⟩
    | cons y r => obtain ⟨_, _, rfl⟩ := h4 y r rfl; exact ⟨x, _, rfl, h2, h3⟩
  clear h
  go_enter Tryz.func182, Tryz.ntmps182
  go_wp2_with fail
  go_loopw [6, 3] (fun i n wr => i = .int .i64 0 ∧ n = .int .u64 0 ∧ wr = w) (fun _ _ _ => 0)
  case atStart => exact ⟨rfl, rfl, rfl⟩
  case round =>
    obtain ⟨rfl, rfl, rfl⟩ := hrel
    go_wp2_with (go_at_call 181; refine HB.out.mono ?_; rintro e w1 ⟨x, l', rfl, h2, h3⟩; have H2 := Lib.hid h2; have H3 := Lib.hid h3; obtain ⟨a, c, hb, _⟩ := h2; obtain ⟨b1, b2⟩ := blk hb; clear h3 hb)
    go_ret
    obtain ⟨h8, h9⟩ := H2.out.mark
    exact ⟨rfl, ⟨_, h8⟩, H3.out.trans h9⟩
theorem count182 {w : World} {pb : Nat} {s : Option (List Int)} (h : Rd w pb 294 s) : Calls Tryz.prog 182 #[.pointer (some ⟨pb, 0, none⟩)] w (CountR w pb 294 s) := by
  cases s with
  | none => obtain ⟨l, h⟩ := h; exact count182_bad h
  | some l => exact count182_at h

/-- What a signed number read is. -/
def SignedR (w : World) (pb ty : Nat) (s : Option (List Int)) (e : Ending) (w' : World) : Prop :=
  e = .returned (.int .i64 (signedS s).1) ∧ Rd w' pb ty (signedS s).2 ∧ Mod [pb] w w'
theorem signedS_even {s : Option (List Int)} (h : (countS s).1 % 2 = 0) : (signedS s).1 = (countS s).1 / 2 := by unfold signedS signedOf; exact if_pos h
theorem signedS_odd {s : Option (List Int)} (h : ¬ (countS s).1 % 2 = 0) : (signedS s).1 = -((countS s).1 / 2) - 1 := by unfold signedS signedOf; exact if_neg h
set_option maxRecDepth 100000 in
set_option maxHeartbeats 1000000 in
theorem signed205 {w : World} {pb : Nat} {s : Option (List Int)} (h : Rd w pb 294 s) : Calls Tryz.prog 205 #[.pointer (some ⟨pb, 0, none⟩)] w (SignedR w pb 294 s) := by
  have HB := Lib.hid (count182 h)
  obtain ⟨v0, v1, _⟩ := countS_in h.u8
  have e2 : (signedS s).2 = (countS s).2 := rfl
  by_cases hv : (countS s).1 % 2 = 0
  · have FIN : Hid (∀ w', Rd w' pb 294 (countS s).2 → Mod [pb] w w' → SignedR w pb 294 s (.returned (.int .i64 ((countS s).1 / 2))) w') := fun w' h2 h3 => ⟨by rw [signedS_even hv], h2, h3⟩
    unfold CountR at HB
    clear h e2
    generalize (countS s).1 = v at *
    have hv2 : (v % 2 == 0) = true := by simp [hv]
    go_enter Tryz.func205, Tryz.ntmps205
    go_wp2_with (go_at_call 182; refine HB.out.mono ?_; rintro e w1 ⟨rfl, h2, h3⟩; have H2 := Lib.hid h2; have H3 := Lib.hid h3; clear h2 h3)
    go_ret
    exact FIN.out _ H2.out H3.out
  · have FIN : Hid (∀ w', Rd w' pb 294 (countS s).2 → Mod [pb] w w' → SignedR w pb 294 s (.returned (.int .i64 (-((countS s).1 / 2) - 1))) w') := fun w' h2 h3 => ⟨by rw [signedS_odd hv], h2, h3⟩
    unfold CountR at HB
    clear h e2
    generalize (countS s).1 = v at *
    have hv2 : (v % 2 == 0) = false := by simp [hv]
    go_enter Tryz.func205, Tryz.ntmps205
    go_wp2_with (go_at_call 182; refine HB.out.mono ?_; rintro e w1 ⟨rfl, h2, h3⟩; have H2 := Lib.hid h2; have H3 := Lib.hid h3; clear h2 h3)
    go_ret
    exact FIN.out _ H2.out H3.out

theorem BU.bytesV {w : World} {top : Nat} {a : Option Addr} {c : Nat} {l : List Int} (h : BU w top a c l) (ht : top ≤ w.heap.size) (hl : 0 < l.length ∨ a = none) : BytesV w (.slice a l.length c) l := by
  cases a with
  | none =>
    have h0 := h.nil0 rfl
    have h1 := h.cap
    have : l = [] := List.eq_nil_of_length_eq_zero (by omega)
    subst this
    subst h0
    exact .inl ⟨rfl, rfl⟩
  | some ad =>
    obtain ⟨g, off, rfl, e2, e3⟩ := h.row ad rfl (by have := h.cap; rcases hl with hl | hl <;> first | omega | cases hl)
    refine .inr ⟨⟨g, off, none⟩, c, rfl, fun j u hj => ?_, by show g < _; omega⟩
    simp only [u8s, List.getElem?_map, Option.map_eq_some_iff] at hj
    obtain ⟨x, hx, rfl⟩ := hj
    rw [Addr.add_lit]
    exact e3 j x hx
/-- 'string(b)'. -/
theorem BU.conv {w : World} {top : Nat} {a : Option Addr} {c : Nat} {l : List Int} (h : BU w top a c l) (ht : top ≤ w.heap.size) : (convert 37 9 (.slice a l.length c)).run Tryz.prog w = .ok (.string (strOfNums l)) w := by
  by_cases hl : 0 < l.length
  · exact run_convert_bytesV (h.bytesV ht (.inl hl))
  · cases a with
    | none => exact run_convert_bytesV (h.bytesV ht (.inr rfl))
    | some ad =>
      obtain rfl : l = [] := List.eq_nil_of_length_eq_zero (by omega)
      exact run_convert_bytes_back (P := Tryz.prog) w 37 9 5 ad c [] Tryz.underlying37 Tryz.underlying5 Tryz.underlying9 (fun j hj => by cases hj)
theorem countS_stopped {s : Option (List Int)} (h : (countS s).2 = none) : (countS s).1 = 0 := by
  cases s with
  | none => rfl
  | some l =>
    cases hc : countP l with
    | none => rw [countS_stop hc]
    | some p => obtain ⟨v, r⟩ := p; rw [countS_go hc] at h; cases h
/-- What a text read is. -/
def TextR (w : World) (pb ty : Nat) (s : Option (List Int)) (e : Ending) (w' : World) : Prop :=
  e = .returned (.string (strOfNums (textS s).1)) ∧ Rd w' pb ty (textS s).2 ∧ Mod [pb] w w'
theorem textS_stop {s : Option (List Int)} (h : (countS s).2 = none) : textS s = ([], none) := by unfold textS; rw [h]
theorem textS_go {s : Option (List Int)} {r : List Int} (h : (countS s).2 = some r) (h1 : (countS s).1 ≤ 512 ∧ (countS s).1 ≤ r.length) : textS s = (r.take (countS s).1.toNat, some (r.drop (countS s).1.toNat)) := by unfold textS; rw [h]; exact if_pos h1
theorem textS_no {s : Option (List Int)} {r : List Int} (h : (countS s).2 = some r) (h1 : ¬ ((countS s).1 ≤ 512 ∧ (countS s).1 ≤ r.length)) : textS s = ([], none) := by unfold textS; rw [h]; exact if_neg h1

set_option maxRecDepth 100000 in
set_option maxHeartbeats 1000000 in
theorem text206 {w : World} {pb : Nat} {s : Option (List Int)} (h : Rd w pb 294 s) : Calls Tryz.prog 206 #[.pointer (some ⟨pb, 0, none⟩)] w (TextR w pb 294 s) := by
  have HB := Lib.hid (count182 h)
  obtain ⟨v0, v1, _⟩ := countS_in h.u8
  clear h
  unfold CountR at HB
  cases hs : (countS s).2 with
  | none =>
    have h0 := countS_stopped hs
    have FIN : Hid (∀ w', Rd w' pb 294 none → Mod [pb] w w' → TextR w pb 294 s (.returned (.string (strOfNums []))) w') := fun w' h2 h3 => ⟨by rw [textS_stop hs], by rw [textS_stop hs]; exact h2, h3⟩
    rw [h0, hs] at HB
    clear v0 v1 h0 hs
    go_enter Tryz.func206, Tryz.ntmps206
    go_wp2_with (first | (go_at_call 182; (refine HB.out.mono ?_; rintro e w1 ⟨rfl, ⟨l', h2⟩, h3⟩; have HT := Lib.hid (take201 h2 0 (by omega) (by omega)); have H3 := Lib.hid h3; clear h2 h3)) | (go_at_call 201; (refine HT.out.mono ?_; rintro e w2 ⟨a, c, r, l', bad', rfl, h1, h2, h3, h4, h5⟩; obtain ⟨e4, e6, e5⟩ := h4 ⟨Int.le_refl 0, Int.natCast_nonneg _⟩; subst e6; replace e4 : r = [] := e4.trans rfl; subst e4; subst e5; have H2 := Lib.hid h2; have H4 := Lib.hid h3; have cv : (convert 37 9 (.slice a 0 c)).run Tryz.prog w2 = .ok (.string (strOfNums [])) w2 := h1.conv (Nat.le_of_lt h2.lt); clear h1 h2 h3 h4 h5)))
    go_ret
    exact FIN.out _ ⟨_, H2.out⟩ (H3.out.trans H4.out)
  | some r =>
    by_cases h512 : (countS s).1 ≤ 512
    · have FIN : Hid (∀ w' rr st, (0 ≤ (countS s).1 ∧ (countS s).1 ≤ r.length → rr = r.take (countS s).1.toNat ∧ st = some (r.drop (countS s).1.toNat)) → (¬ (0 ≤ (countS s).1 ∧ (countS s).1 ≤ r.length) → rr = [] ∧ st = none) → Rd w' pb 294 st → Mod [pb] w w' → TextR w pb 294 s (.returned (.string (strOfNums rr))) w') := fun w' rr st ha hb h2 h3 => by
        by_cases hh : (countS s).1 ≤ r.length
        · obtain ⟨rfl, rfl⟩ := ha ⟨v0, hh⟩
          exact ⟨by rw [textS_go hs ⟨h512, hh⟩], by rw [textS_go hs ⟨h512, hh⟩]; exact h2, h3⟩
        · obtain ⟨rfl, rfl⟩ := hb (fun h => hh h.2)
          exact ⟨by rw [textS_no hs (fun h => hh h.2)], by rw [textS_no hs (fun h => hh h.2)]; exact h2, h3⟩
      rw [hs] at HB
      clear hs
      generalize (countS s).1 = v at *
      go_enter Tryz.func206, Tryz.ntmps206
      go_wp2_with (first | (go_at_call 182; refine HB.out.mono ?_; rintro e w1 ⟨rfl, h2, h3⟩; have HT := Lib.hid (take201 h2 v (by omega) (by omega)); have H3 := Lib.hid h3; clear h2 h3) | (go_at_call 201; refine HT.out.mono ?_; rintro e w2 ⟨a, c, rr, l', bad', rfl, h1, h2, h3, h4, h5⟩; have H1 := Lib.hid h1; have H2 := Lib.hid h2; have H3' := Lib.hid h3; have H4 := Lib.hid h4; have H5 := Lib.hid h5; have cv := h1.conv (Nat.le_of_lt h2.lt); clear h1 h2 h3 h4 h5))
      go_ret
      refine FIN.out _ rr (if bad' then none else some l') (fun h => ?_) (fun h => ?_) H2.out.close (H3.out.trans H3'.out)
      · obtain ⟨rfl, rfl, rfl⟩ := H4.out h; exact ⟨rfl, rfl⟩
      · obtain ⟨rfl, rfl, rfl⟩ := H5.out h; exact ⟨rfl, rfl⟩
    · have FIN : Hid (∀ w', Rd w' pb 294 none → Mod [pb] w w' → TextR w pb 294 s (.returned (.string (strOfNums []))) w') := fun w' h2 h3 => ⟨by rw [textS_no hs (fun h => h512 h.1)], by rw [textS_no hs (fun h => h512 h.1)]; exact h2, h3⟩
      rw [hs] at HB
      clear hs
      generalize (countS s).1 = v at *
      go_enter Tryz.func206, Tryz.ntmps206
      go_wp2_with (go_at_call 182; refine HB.out.mono ?_; rintro e w1 ⟨rfl, h2, h3⟩; have H2 := Lib.hid h2; have H3 := Lib.hid h3; obtain ⟨a, c, hb, _⟩ := h2; obtain ⟨b1, b2⟩ := blk hb; clear h3 hb)
      go_ret
      obtain ⟨h8, h9⟩ := RdAt.mark (bad := false) H2.out
      exact FIN.out _ ⟨_, h8⟩ (H3.out.trans h9)

set_option maxRecDepth 100000 in
set_option maxHeartbeats 1000000 in
theorem done208 {w : World} {pb : Nat} {l : List Int} {bad : Bool} (h : RdAt w pb 294 l bad) : Calls Tryz.prog 208 #[.pointer (some ⟨pb, 0, none⟩)] w fun e w' => e = .returned (.bool (decide ((if bad then none else some l) = some []))) ∧ w' = w := by
  obtain ⟨a, c, hb, _⟩ := h
  obtain ⟨b1, b2⟩ := blk hb
  clear hb
  cases bad with
  | true =>
    go_enter Tryz.func208, Tryz.ntmps208
    go_wp2_with fail
    go_ret
    exact ⟨rfl, rfl⟩
  | false =>
    go_enter Tryz.func208, Tryz.ntmps208
    go_wp2_with fail
    go_ret
    refine ⟨?_, rfl⟩
    cases l with
    | nil => simp
    | cons x l => simp; omega
end Go.Proofs.Eff

/- The document's Source: byte, count, signed, text. -/
namespace Go.Proofs.Eff
open Go.RowKit

set_option maxRecDepth 100000 in
set_option maxHeartbeats 1000000 in
theorem byte144 {w : World} {pb : Nat} {l : List Int} {bad : Bool} (h : RdAt w pb 257 l bad) :
    Calls Tryz.prog 144 #[.pointer (some ⟨pb, 0, none⟩)] w (ByteR w pb 257 l bad (Value.int .i64)) := by
  have HR := Lib.hid h
  obtain ⟨a, c, hb, hu⟩ := h
  obtain ⟨b1, b2⟩ := blk hb
  have HU := Lib.hid hu
  have hcap := hu.cap
  have hu8 := Lib.hid hu.u8
  clear hb hu
  cases l with
  | nil =>
    go_enter Tryz.func144, Tryz.ntmps144
    go_wp2_with fail
    go_ret
    obtain ⟨h8, h9⟩ := HR.out.mark
    exact ⟨0, [], true, rfl, by omega, by omega, h8, h9, fun y r hy => (by cases hy), fun _ => ⟨rfl, rfl⟩⟩
  | cons x l =>
    obtain ⟨x0, x1⟩ := hu8.out x List.mem_cons_self
    obtain ⟨g, off, rfl, _, b3⟩ := HU.out.head
    simp only [List.length_cons] at hcap
    by_cases hc : c = 1
    · have FIN := Lib.hid (HR.out.left (n := l.length) rfl (HU.out.rest_eq (lo := 1) (by simp) hc))
      subst hc
      clear hcap
      go_enter Tryz.func144, Tryz.ntmps144
      go_wp2_with fail
      go_ret
      exact ⟨x, l, bad, rfl, x0, x1, FIN.out.1, FIN.out.2, fun y r hy => (by cases hy; exact ⟨rfl, rfl, rfl⟩), fun h0 => (by cases h0)⟩
    · have FIN := Lib.hid (HR.out.left (n := l.length) rfl (HU.out.rest_ne (lo := 1) (by simp) hc))
      go_enter Tryz.func144, Tryz.ntmps144
      go_wp2_with fail
      go_ret
      exact ⟨x, l, bad, rfl, x0, x1, FIN.out.1, FIN.out.2, fun y r hy => (by cases hy; exact ⟨rfl, rfl, rfl⟩), fun h0 => (by cases h0)⟩


theorem countS_add {v x : Int} {k : Nat} (hk : k < 10) (v0 : 0 ≤ v) (v1 : v < 2 ^ (7 * k)) (x0 : 0 ≤ x) (x1 : x < 256) (hb : ¬ (k = 9 ∧ 1 < x)) :
    IntKind.u64.wrap (v + IntKind.u64.wrap (x % 128 * 2 ^ (7 * k))) = v + x % 128 * 2 ^ (7 * k) := by
  obtain ⟨p0, p1⟩ := part_lt hk x0 x1 hb
  rw [wrap_u64_in p0 p1]
  refine wrap_u64_in (by omega) ?_
  have e2 : (2 : Int) ^ (7 * k) ≤ 2 ^ 63 := by exact_mod_cast Nat.pow_le_pow_right (n := 2) (by omega) (show 7 * k ≤ 63 by omega)
  have e3 : (2 : Int) ^ 63 = 9223372036854775808 := by decide
  by_cases h9 : k = 9
  · subst h9
    have e1 : (2 : Int) ^ (7 * 9) = 9223372036854775808 := by decide
    rw [e1] at *
    have : x = 0 ∨ x = 1 := by omega
    rcases this with rfl | rfl <;> omega
  · have e1 : (2 : Int) ^ (7 * k) ≤ 2 ^ 56 := by exact_mod_cast Nat.pow_le_pow_right (n := 2) (by omega) (show 7 * k ≤ 56 by omega)
    have e2 : (2 : Int) ^ 56 = 72057594037927936 := by decide
    have e3 : x % 128 * 2 ^ (7 * k) ≤ 127 * 2 ^ (7 * k) := Int.mul_le_mul_of_nonneg_right (by omega) (by omega)
    omega
theorem countS_add9 {v x : Int} (v0 : 0 ≤ v) (v1 : v < 2 ^ (7 * 9)) (x0 : 0 ≤ x) (x1 : x < 256) (hb : ¬ 1 < x) :
    IntKind.u64.wrap (v + IntKind.u64.wrap (x % 128 * 9223372036854775808)) = v + x % 128 * 2 ^ (7 * 9) := by
  have e := countS_add (k := 9) (by omega) v0 v1 x0 x1 (fun h => hb h.2)
  have e2 : (2 : Int) ^ (7 * 9) = 9223372036854775808 := by decide
  rw [e2] at e
  rw [e2]
  exact e

set_option maxRecDepth 100000 in
set_option maxHeartbeats 1000000 in
theorem count145_at {w : World} {pb : Nat} {l : List Int} (h : RdAt w pb 257 l false) :
    Calls Tryz.prog 145 #[.pointer (some ⟨pb, 0, none⟩)] w (CountR w pb 257 (some l)) := by
  have HS : Hid (CntI w pb 257 l 0 0 w) := ⟨by omega, by omega, by simp, ⟨l, h, rfl⟩, Mod.refl _ _⟩
  clear h
  go_enter Tryz.func145, Tryz.ntmps145
  go_wp2_with fail
  go_loopw [4, 3] (fun i n wr => ∃ k v, i = .int .i64 (k : Nat) ∧ n = .int .u64 v ∧ CntI w pb 257 l k v wr) (fun i _ _ => 10 - (intOf i).toNat)
  case atStart => exact ⟨0, 0, rfl, rfl, HS.out⟩
  case round =>
    obtain ⟨k, v, rfl, rfl, hI⟩ := hrel
    have HI := Lib.hid hI
    obtain ⟨hk, v0, v1, ⟨r, hr, hc⟩, hm⟩ := hI
    have HR := Lib.hid hr
    have HC := Lib.hid hc
    have HM := Lib.hid hm
    clear hr hc hm
    by_cases hk10 : k < 10
    · have HB := Lib.hid (byte144 HR.out)
      cases r with
      | nil =>
        have HN : Hid (countP l = none) := by
          have := HC.out
          obtain ⟨f, hf⟩ : ∃ f, 10 - k = f + 1 := ⟨10 - k - 1, by omega⟩
          rw [hf] at this
          exact this.symm
        go_wp2_with (go_at_call 144; refine HB.out.mono ?_; rintro e w1 ⟨x, l', bad', rfl, x0, x1, h2, h3, h4, h5⟩; obtain ⟨rfl, rfl⟩ := h5 rfl; have H2 := Lib.hid h2; have H3 := Lib.hid h3; obtain ⟨a, c, hb, _⟩ := h2; obtain ⟨b1, b2⟩ := blk hb; clear h3 h4 h5 hb)
        go_ret
        exact CountR.stop (HM.out.trans H3.out) H2.out HN.out
      | cons x r =>
        obtain ⟨f, hf⟩ : ∃ f, 10 - k = f + 1 := ⟨10 - k - 1, by omega⟩
        have hx : 0 ≤ x ∧ x < 256 := HR.out.u8 x List.mem_cons_self
        obtain ⟨x0, x1⟩ := hx
        by_cases hbad : (k = 9 ∧ 1 < x) ∨ (0 < k ∧ x = 0)
        · have HN : Hid (countP l = none) := by
            have := HC.out
            rw [hf] at this
            simp only [countG, if_pos hbad] at this
            exact this.symm
          have HBD := Lib.hid hbad
          clear hbad hf
          go_wp2_with (go_at_call 144; refine HB.out.mono ?_; rintro e w1 ⟨x', l', bad', rfl, x0, x1, h2, h3, h4, h5⟩; obtain ⟨rfl, rfl, rfl⟩ := h4 x r rfl; have H2 := Lib.hid h2; have H3 := Lib.hid h3; obtain ⟨a, c, hb, _⟩ := h2; obtain ⟨b1, b2⟩ := blk hb; clear h3 h4 h5 hb)
          all_goals first
            | (exfalso; have hbad := HBD.out; (try simp only [beq_iff_eq, beq_eq_false_iff_ne, ne_eq] at *); omega)
            | (go_ret
               exact CountR.stop (HM.out.trans H3.out) H2.out HN.out)

        · have HBD := Lib.hid hbad
          have HF := Lib.hid hf
          clear hbad hf
          by_cases h9 : k = 9
          · subst h9
            have hx1 : ¬ 1 < x := fun h => HBD.out (.inl ⟨rfl, h⟩)
            have hx2 : ¬ x = 0 := fun h => HBD.out (.inr ⟨by omega, h⟩)
            have hx3 : x = 1 := by omega
            clear hx1 hx2
            subst hx3
            have CA : Hid (v + 9223372036854775808 = v + 1 % 128 * 2 ^ (7 * 9)) := by show _ = _; rw [show (2 : Int) ^ (7 * 9) = 9223372036854775808 from by decide]; omega
            go_wp2_with (go_at_call 144; refine HB.out.mono ?_; rintro e w1 ⟨x', l', bad', rfl, _, _, h2, h3, h4, h5⟩; obtain ⟨rfl, rfl, rfl⟩ := h4 1 r rfl; have H2 := Lib.hid h2; have H3 := Lib.hid h3; obtain ⟨a, c, hb, _⟩ := h2; obtain ⟨b1, b2⟩ := blk hb; clear h3 h4 h5 hb)
            go_ret
            exact CountR.last (k := 9) (x := 1) (f := f) (HM.out.trans H3.out) H2.out (by omega) (by omega) (by rw [← HF.out]; exact HC.out) CA.out
          · have HC9 : Hid (¬ k = 9) := h9
            have k9 : ((k : Int) == 9) = false := by rw [beq_eq_false_iff_ne]; omega
            have CA := Lib.hid (countS_add hk10 v0 v1 x0 x1 (fun h => h9 h.1))
            by_cases h0 : k = 0
            · have k0 : ¬ (0 < k) := by omega
              have CA : Hid (IntKind.u64.wrap (v + x % 128) = v + x % 128 * 2 ^ (7 * k)) := by
                have h7 := CA.out
                subst h0
                show _ = _
                simp only [Nat.mul_zero, Int.pow_zero, Int.mul_one] at h7 ⊢
                rwa [wrap_u64_in (n := x % 128) (by omega) (by omega)] at h7
              by_cases hx : x < 128
              · go_wp2_with (go_at_call 144; refine HB.out.mono ?_; rintro e w1 ⟨x', l', bad', rfl, x0, x1, h2, h3, h4, h5⟩; obtain ⟨rfl, rfl, rfl⟩ := h4 x r rfl; have H2 := Lib.hid h2; have H3 := Lib.hid h3; obtain ⟨a, c, hb, _⟩ := h2; obtain ⟨b1, b2⟩ := blk hb; clear h3 h4 h5 hb)
                go_ret
                exact CountR.last (f := f) (HM.out.trans H3.out) H2.out HBD.out (by omega) (by rw [← HF.out]; exact HC.out) CA.out
              · go_wp2_with (go_at_call 144; refine HB.out.mono ?_; rintro e w1 ⟨x', l', bad', rfl, x0, x1, h2, h3, h4, h5⟩; obtain ⟨rfl, rfl, rfl⟩ := h4 x r rfl; have H2 := Lib.hid h2; have H3 := Lib.hid h3; obtain ⟨a, c, hb, _⟩ := h2; obtain ⟨b1, b2⟩ := blk hb; clear h3 h4 h5 hb)
                exact ⟨⟨k + 1, _, by go_num, rfl, HI.out.next hk10 x0 x1 HBD.out (by omega) (by rw [← HF.out]; exact HC.out) HF.out H3.out H2.out CA.out⟩, by simp [intOf]; omega⟩
            · have k0 : (0 < k) := by omega
              have x9 : (x == 0) = false := by rw [beq_eq_false_iff_ne]; exact fun h => HBD.out (.inr ⟨k0, h⟩)
              by_cases hx : x < 128
              · go_wp2_with (go_at_call 144; refine HB.out.mono ?_; rintro e w1 ⟨x', l', bad', rfl, x0, x1, h2, h3, h4, h5⟩; obtain ⟨rfl, rfl, rfl⟩ := h4 x r rfl; have H2 := Lib.hid h2; have H3 := Lib.hid h3; obtain ⟨a, c, hb, _⟩ := h2; obtain ⟨b1, b2⟩ := blk hb; clear h3 h4 h5 hb)
                go_ret
                exact CountR.last (f := f) (HM.out.trans H3.out) H2.out HBD.out (by omega) (by rw [← HF.out]; exact HC.out) CA.out
              · go_wp2_with (go_at_call 144; refine HB.out.mono ?_; rintro e w1 ⟨x', l', bad', rfl, x0, x1, h2, h3, h4, h5⟩; obtain ⟨rfl, rfl, rfl⟩ := h4 x r rfl; have H2 := Lib.hid h2; have H3 := Lib.hid h3; obtain ⟨a, c, hb, _⟩ := h2; obtain ⟨b1, b2⟩ := blk hb; clear h3 h4 h5 hb)
                exact ⟨⟨k + 1, _, by go_num, rfl, HI.out.next hk10 x0 x1 HBD.out (by omega) (by rw [← HF.out]; exact HC.out) HF.out H3.out H2.out CA.out⟩, by simp [intOf]; omega⟩
    · obtain rfl : k = 10 := by omega
      have HN : Hid (countP l = none) := HC.out.symm
      obtain ⟨a, c, hb, _⟩ := HR.out
      obtain ⟨b1, b2⟩ := blk hb
      clear hb
      go_wp2_with fail
      go_ret
      exact CountR.stop HM.out HR.out HN.out
set_option maxRecDepth 100000 in
set_option maxHeartbeats 1000000 in
theorem count145_bad {w : World} {pb : Nat} {l : List Int} (h : RdAt w pb 257 l true) :
    Calls Tryz.prog 145 #[.pointer (some ⟨pb, 0, none⟩)] w (CountR w pb 257 none) := by
  have HB : Hid (Calls Tryz.prog 144 #[.pointer (some ⟨pb, 0, none⟩)] w fun e w' => ∃ x l', e = .returned (.int .i64 x) ∧ RdAt w' pb 257 l' true ∧ Mod [pb] w w') := by
    refine (byte144 h).mono ?_
    rintro e w1 ⟨x, l', bad', rfl, _, _, h2, h3, h4, h5⟩
    cases l with
    | nil => obtain ⟨rfl, rfl⟩ := h5 rfl; exact ⟨x, _, rfl, h2, h3⟩
    | cons y r => obtain ⟨_, _, rfl⟩ := h4 y r rfl; exact ⟨x, _, rfl, h2, h3⟩
  clear h
  go_enter Tryz.func145, Tryz.ntmps145
  go_wp2_with fail
  go_loopw [4, 3] (fun i n wr => i = .int .i64 0 ∧ n = .int .u64 0 ∧ wr = w) (fun _ _ _ => 0)
  case atStart => exact ⟨rfl, rfl, rfl⟩
  case round =>
    obtain ⟨rfl, rfl, rfl⟩ := hrel
    go_wp2_with (go_at_call 144; refine HB.out.mono ?_; rintro e w1 ⟨x, l', rfl, h2, h3⟩; have H2 := Lib.hid h2; have H3 := Lib.hid h3; obtain ⟨a, c, hb, _⟩ := h2; obtain ⟨b1, b2⟩ := blk hb; clear h3 hb)
    go_ret
    obtain ⟨h8, h9⟩ := H2.out.mark
    exact ⟨rfl, ⟨_, h8⟩, H3.out.trans h9⟩
theorem count145 {w : World} {pb : Nat} {s : Option (List Int)} (h : Rd w pb 257 s) : Calls Tryz.prog 145 #[.pointer (some ⟨pb, 0, none⟩)] w (CountR w pb 257 s) := by
  cases s with
  | none => obtain ⟨l, h⟩ := h; exact count145_bad h
  | some l => exact count145_at h

set_option maxRecDepth 100000 in
set_option maxHeartbeats 1000000 in
theorem signed189 {w : World} {pb : Nat} {s : Option (List Int)} (h : Rd w pb 257 s) : Calls Tryz.prog 189 #[.pointer (some ⟨pb, 0, none⟩)] w (SignedR w pb 257 s) := by
  have HB := Lib.hid (count145 h)
  obtain ⟨v0, v1, _⟩ := countS_in h.u8
  have e2 : (signedS s).2 = (countS s).2 := rfl
  by_cases hv : (countS s).1 % 2 = 0
  · have FIN : Hid (∀ w', Rd w' pb 257 (countS s).2 → Mod [pb] w w' → SignedR w pb 257 s (.returned (.int .i64 ((countS s).1 / 2))) w') := fun w' h2 h3 => ⟨by rw [signedS_even hv], h2, h3⟩
    unfold CountR at HB
    clear h e2
    generalize (countS s).1 = v at *
    have hv2 : (v % 2 == 0) = true := by simp [hv]
    go_enter Tryz.func189, Tryz.ntmps189
    go_wp2_with (go_at_call 145; refine HB.out.mono ?_; rintro e w1 ⟨rfl, h2, h3⟩; have H2 := Lib.hid h2; have H3 := Lib.hid h3; clear h2 h3)
    go_ret
    exact FIN.out _ H2.out H3.out
  · have FIN : Hid (∀ w', Rd w' pb 257 (countS s).2 → Mod [pb] w w' → SignedR w pb 257 s (.returned (.int .i64 (-((countS s).1 / 2) - 1))) w') := fun w' h2 h3 => ⟨by rw [signedS_odd hv], h2, h3⟩
    unfold CountR at HB
    clear h e2
    generalize (countS s).1 = v at *
    have hv2 : (v % 2 == 0) = false := by simp [hv]
    go_enter Tryz.func189, Tryz.ntmps189
    go_wp2_with (go_at_call 145; refine HB.out.mono ?_; rintro e w1 ⟨rfl, h2, h3⟩; have H2 := Lib.hid h2; have H3 := Lib.hid h3; clear h2 h3)
    go_ret
    exact FIN.out _ H2.out H3.out

set_option maxRecDepth 100000 in
set_option maxHeartbeats 1000000 in
theorem text190 {w : World} {pb : Nat} {s : Option (List Int)} (h : Rd w pb 257 s) : Calls Tryz.prog 190 #[.pointer (some ⟨pb, 0, none⟩)] w (TextR w pb 257 s) := by
  have HB := Lib.hid (count145 h)
  obtain ⟨v0, v1, _⟩ := countS_in h.u8
  clear h
  unfold CountR at HB
  cases hs : (countS s).2 with
  | none =>
    have FIN : Hid (∀ w', Rd w' pb 257 none → Mod [pb] w w' → TextR w pb 257 s (.returned (.string (strOfNums []))) w') := fun w' h2 h3 => ⟨by rw [textS_stop hs], by rw [textS_stop hs]; exact h2, h3⟩
    rw [hs] at HB
    clear hs
    generalize (countS s).1 = v at *
    go_enter Tryz.func190, Tryz.ntmps190
    go_wp2_with (go_at_call 145; refine HB.out.mono ?_; rintro e w1 ⟨rfl, ⟨l', h2⟩, h3⟩; have H2 := Lib.hid h2; have H3 := Lib.hid h3; obtain ⟨a, c, hb, _⟩ := h2; obtain ⟨b1, b2⟩ := blk hb; clear h3 hb)
    go_ret
    obtain ⟨h8, h9⟩ := H2.out.mark
    exact FIN.out _ ⟨_, h8⟩ (H3.out.trans h9)
  | some r =>
    by_cases hh : (countS s).1 ≤ 512 ∧ (countS s).1 ≤ r.length
    · have FIN : Hid (∀ w', RdAt w' pb 257 (r.drop (countS s).1.toNat) false → Mod [pb] w w' → TextR w pb 257 s (.returned (.string (strOfNums (r.take (countS s).1.toNat)))) w') := fun w' h2 h3 => ⟨by rw [textS_go hs hh], by rw [textS_go hs hh]; exact h2, h3⟩
      rw [hs] at HB
      clear hs
      generalize (countS s).1 = v at *
      obtain ⟨hh1, hh2⟩ := hh
      have hl : v.toNat ≤ r.length := by omega
      have E2 : Hid (r.length - v.toNat = (r.drop v.toNat).length) := by show _ = _; rw [List.length_drop]
      go_enter Tryz.func190, Tryz.ntmps190
      go_wp2_with (go_at_call 145; refine HB.out.mono ?_; rintro e w1 ⟨rfl, h2, h3⟩; have H2 := Lib.hid h2; have H3 := Lib.hid h3; obtain ⟨a, c, hb, hu⟩ := h2; have HU := Lib.hid hu; have hcap := hu.cap; obtain ⟨b1, b2⟩ := blk hb; have cv : (convert 37 9 (.slice a v.toNat c)).run Tryz.prog w1 = .ok (.string (strOfNums (r.take v.toNat))) w1 := (by have h7 := (hu.front v.toNat hl).conv (Nat.le_of_lt H2.out.lt); rwa [List.length_take, Nat.min_eq_left hl] at h7); have hrl : IntKind.u64.wrap (r.length : Int) = r.length := (by have := hu.cap; have := hu.big; unfold maxLen at this; exact wrap_u64_in (by omega) (by omega)); clear h3 hb hu)
      case inl =>
        have hc : c = v.toNat := by assumption
        go_ret
        obtain ⟨h5, h6⟩ := RdAt.left (bad := false) H2.out E2.out (HU.out.rest_eq hl hc)
        exact FIN.out _ h5 (H3.out.trans h6)
      case inr =>
        have hc : ¬ c = v.toNat := by assumption
        go_ret
        obtain ⟨h5, h6⟩ := RdAt.left (bad := false) H2.out E2.out (HU.out.rest_ne hl hc)
        exact FIN.out _ h5 (H3.out.trans h6)
    · have FIN : Hid (∀ w', Rd w' pb 257 none → Mod [pb] w w' → TextR w pb 257 s (.returned (.string (strOfNums []))) w') := fun w' h2 h3 => ⟨by rw [textS_no hs hh], by rw [textS_no hs hh]; exact h2, h3⟩
      rw [hs] at HB
      clear hs
      generalize (countS s).1 = v at *
      have key : 512 < v ∨ (v ≤ 512 ∧ (r.length : Int) < v) := by omega
      clear hh
      rcases key with k1 | ⟨k1, k2⟩
      all_goals
        go_enter Tryz.func190, Tryz.ntmps190
        go_wp2_with (go_at_call 145; refine HB.out.mono ?_; rintro e w1 ⟨rfl, h2, h3⟩; have H2 := Lib.hid h2; have H3 := Lib.hid h3; obtain ⟨a, c, hb, hu⟩ := h2; obtain ⟨b1, b2⟩ := blk hb; have hrl : IntKind.u64.wrap (r.length : Int) = r.length := (by have := hu.cap; have := hu.big; unfold maxLen at this; exact wrap_u64_in (by omega) (by omega)); clear h3 hb hu)
        go_ret
        obtain ⟨h8, h9⟩ := RdAt.mark (bad := false) H2.out
        exact FIN.out _ ⟨_, h8⟩ (H3.out.trans h9)
end Go.Proofs.Eff

/- Checksums. -/
namespace Go.Proofs.Eff
open Go.RowKit

theorem crcBit_odd {s : Int} (h : s % 2 = 1) : crcBit s = bits .xor .u32 (s / 2) 3988292384 := if_pos h
theorem crcBit_even {s : Int} (h : ¬ s % 2 = 1) : crcBit s = s / 2 := if_neg h
theorem crcL_take {l : List Int} {k : Nat} {x : Int} (h : l[k]? = some x) (s : Int) : crcL s (l.take (k + 1)) = crcByte (crcL s (l.take k)) x := by
  rw [← crcL_snoc]
  congr 1
  rw [List.take_add_one, h]
  rfl
theorem xor_ones (n : Nat) (h : n < 4294967296) : 4294967295 ^^^ n = 4294967295 - n := by
  have h1 : (BitVec.allOnes 32 ^^^ BitVec.ofNat 32 n) = ~~~ (BitVec.ofNat 32 n) := BitVec.allOnes_xor
  have h2 := congrArg BitVec.toNat h1
  rw [BitVec.toNat_xor, BitVec.toNat_not, BitVec.toNat_allOnes, BitVec.toNat_ofNat, Nat.mod_eq_of_lt h] at h2
  exact h2
theorem u32_not {s : Int} (h0 : 0 ≤ s) (h1 : s < 4294967296) : bits .xor .u32 IntKind.u32.max s = 4294967295 - s := by
  obtain ⟨n, rfl⟩ := Int.eq_ofNat_of_zero_le h0
  rw [show IntKind.u32.max = ((4294967295 : Nat) : Int) from rfl, u32_xor_nat 4294967295 n (by decide) (by omega), xor_ones n (by omega)]
  omega

set_option maxRecDepth 100000 in
set_option maxHeartbeats 1000000 in
theorem sum143 {w : World} {top : Nat} {a : Option Addr} {c : Nat} {l : List Int} (h : BU w top a c l) :
    Calls Tryz.prog 143 #[.slice a l.length c] w fun e w' => e = .returned (.int .u32 (crc l)) ∧ w' = w := by
  have HU := Lib.hid h
  have hbig : l.length ≤ maxLen := Nat.le_trans h.cap h.big
  unfold maxLen at hbig
  clear h
  go_enter Tryz.func143, Tryz.ntmps143
  go_wp2_with fail
  go_loopw [9, 3] (fun i s wr => ∃ k : Nat, k ≤ l.length ∧ i = .int .i64 k ∧ s = .int .u32 (crcL 4294967295 (l.take k)) ∧ wr = w) (fun i _ _ => l.length - (intOf i).toNat)
  case atStart => exact ⟨0, by omega, rfl, rfl, rfl⟩
  case round =>
    obtain ⟨k, hk, rfl, rfl, rfl⟩ := hrel
    by_cases hlt : k < l.length
    · obtain ⟨x, hx⟩ : ∃ x, l[k]? = some x := ⟨l[k], by simp [hlt]⟩
      have ST := Lib.hid (crcL_take hx 4294967295)
      obtain ⟨g, off, ha, _, b1⟩ := HU.out.at hx
      have hx8 := HU.out.u8 x (List.mem_of_getElem? hx)
      obtain ⟨x0, x1⟩ := hx8
      subst ha
      obtain ⟨c0, c1⟩ := crcL_in (s := 4294967295) (by omega) (by omega) (l.take k)
      clear hx
      generalize crcL 4294967295 (l.take k) = s at *
      have S0 := Lib.hid (xor_in s x)
      go_wp2_with fail
      go_loopw [6, 3] (fun j t wr2 => ∃ m : Nat, m ≤ 8 ∧ j = .int .i64 m ∧ t = .int .u32 (crcBits m (bits .xor .u32 s x)) ∧ wr2 = wr) (fun j _ _ => 8 - (intOf j).toNat)
      case atStart => exact ⟨0, by omega, rfl, rfl, rfl⟩
      case round =>
        obtain ⟨m, hm, rfl, rfl, rfl⟩ := hrel
        obtain ⟨t0, t1⟩ := crcBits_in m S0.out.1 S0.out.2
        by_cases hm8 : m < 8
        · have SS := Lib.hid (crcBits_succ m (bits .xor .u32 s x))
          generalize crcBits m (bits .xor .u32 s x) = t at *
          by_cases hb : t % 2 = 1
          · have CB := Lib.hid (crcBit_odd hb)
            have hb2 : (t % 2 == 1) = true := by simp [hb]
            go_wp2_with fail
            exact ⟨⟨m + 1, by omega, by go_num, by rw [SS.out, CB.out], trivial⟩, by simp [intOf]; omega⟩
          · have CB := Lib.hid (crcBit_even hb)
            have hb2 : (t % 2 == 1) = false := by simp [hb]
            go_wp2_with fail
            exact ⟨⟨m + 1, by omega, by go_num, by rw [SS.out, CB.out], trivial⟩, by simp [intOf]; omega⟩
        · obtain rfl : m = 8 := by omega
          have CY : Hid (crcBits 8 (bits .xor .u32 s x) = crcByte s x) := rfl
          generalize crcBits 8 (bits .xor .u32 s x) = t at *
          go_wp2_with fail
          exact ⟨⟨k + 1, by omega, by go_num, by rw [ST.out, CY.out], trivial⟩, by simp [intOf]; omega⟩
    · obtain rfl : k = l.length := by omega
      rw [List.take_length]
      have HC : Hid (crc l = 4294967295 - crcL 4294967295 l) := rfl
      obtain ⟨c0, c1⟩ := crcL_in (s := 4294967295) (by omega) (by omega) l
      generalize crcL 4294967295 l = s at *
      go_wp2_with fail
      go_ret
      rw [HC.out]
      exact ⟨rfl, rfl⟩
set_option maxRecDepth 100000 in
set_option maxHeartbeats 1000000 in
theorem sum179 {w : World} {top : Nat} {a : Option Addr} {c : Nat} {l : List Int} (h : BU w top a c l) :
    Calls Tryz.prog 179 #[.slice a l.length c] w fun e w' => e = .returned (.int .u32 (crc l)) ∧ w' = w := by
  have HU := Lib.hid h
  have hbig : l.length ≤ maxLen := Nat.le_trans h.cap h.big
  unfold maxLen at hbig
  clear h
  go_enter Tryz.func179, Tryz.ntmps179
  go_wp2_with fail
  go_loopw [9, 3] (fun i s wr => ∃ k : Nat, k ≤ l.length ∧ i = .int .i64 k ∧ s = .int .u32 (crcL 4294967295 (l.take k)) ∧ wr = w) (fun i _ _ => l.length - (intOf i).toNat)
  case atStart => exact ⟨0, by omega, rfl, rfl, rfl⟩
  case round =>
    obtain ⟨k, hk, rfl, rfl, rfl⟩ := hrel
    by_cases hlt : k < l.length
    · obtain ⟨x, hx⟩ : ∃ x, l[k]? = some x := ⟨l[k], by simp [hlt]⟩
      have ST := Lib.hid (crcL_take hx 4294967295)
      obtain ⟨g, off, ha, _, b1⟩ := HU.out.at hx
      have hx8 := HU.out.u8 x (List.mem_of_getElem? hx)
      obtain ⟨x0, x1⟩ := hx8
      subst ha
      obtain ⟨c0, c1⟩ := crcL_in (s := 4294967295) (by omega) (by omega) (l.take k)
      clear hx
      generalize crcL 4294967295 (l.take k) = s at *
      have S0 := Lib.hid (xor_in s x)
      go_wp2_with fail
      go_loopw [17, 3] (fun j t wr2 => ∃ m : Nat, m ≤ 8 ∧ j = .int .i64 m ∧ t = .int .u32 (crcBits m (bits .xor .u32 s x)) ∧ wr2 = wr) (fun j _ _ => 8 - (intOf j).toNat)
      case atStart => exact ⟨0, by omega, rfl, rfl, rfl⟩
      case round =>
        obtain ⟨m, hm, rfl, rfl, rfl⟩ := hrel
        obtain ⟨t0, t1⟩ := crcBits_in m S0.out.1 S0.out.2
        by_cases hm8 : m < 8
        · have SS := Lib.hid (crcBits_succ m (bits .xor .u32 s x))
          generalize crcBits m (bits .xor .u32 s x) = t at *
          have ta := u32_and1 t0 t1
          by_cases hb : t % 2 = 1
          · have CB := Lib.hid (crcBit_odd hb)
            have hb2 : (t % 2 == 1) = true := by simp [hb]
            go_wp2_with fail
            exact ⟨⟨m + 1, by omega, by go_num, by rw [SS.out, CB.out], trivial⟩, by simp [intOf]; omega⟩
          · have CB := Lib.hid (crcBit_even hb)
            have hb2 : (t % 2 == 1) = false := by simp [hb]
            go_wp2_with fail
            exact ⟨⟨m + 1, by omega, by go_num, by rw [SS.out, CB.out], trivial⟩, by simp [intOf]; omega⟩
        · obtain rfl : m = 8 := by omega
          have CY : Hid (crcBits 8 (bits .xor .u32 s x) = crcByte s x) := rfl
          generalize crcBits 8 (bits .xor .u32 s x) = t at *
          go_wp2_with fail
          exact ⟨⟨k + 1, by omega, by go_num, by rw [ST.out, CY.out], trivial⟩, by simp [intOf]; omega⟩
    · obtain rfl : k = l.length := by omega
      rw [List.take_length]
      have HC : Hid (crc l = 4294967295 - crcL 4294967295 l) := rfl
      obtain ⟨c0, c1⟩ := crcL_in (s := 4294967295) (by omega) (by omega) l
      generalize crcL 4294967295 l = s at *
      go_wp2_with fail
      go_ret
      rw [HC.out, ← u32_not c0 c1]
      exact ⟨rfl, rfl⟩
end Go.Proofs.Eff

/- wire.length. -/
namespace Go.Proofs.Eff
open Go.RowKit

theorem or_comm_i64 (x y : Int) : bits .or .i64 x y = bits .or .i64 y x := by simp [bits, BitVec.or_comm]
theorem len_or {x y : Int} (x0 : 0 ≤ x) (x1 : x < 256) (y0 : 0 ≤ y) (y1 : y < 256) : bits .or .i64 x (y * 256) = x + 256 * y := by
  have e3 : (2 : Int) ^ 63 = 9223372036854775808 := by decide
  have e8 : (2 : Int) ^ 8 = 256 := by decide
  rw [or_comm_i64, bits_join .i64 63 (by decide) (fun n h0 h1 => IntWalk.i64_in n (by omega)) 8 _ _ (by omega) (by rw [e8]; omega) (by omega) x0 (by omega) (by omega)]
  omega
theorem get_wd {l : List Int} {i : Nat} (h : i < l.length) : l[i]? = some (wd l i) := by simp [wd, h]
set_option maxRecDepth 100000 in
set_option maxHeartbeats 1000000 in
theorem length178 {w : World} {top : Nat} {a : Option Addr} {c : Nat} {l : List Int} (h : BU w top a c l) (h4 : 4 ≤ l.length) :
    Calls Tryz.prog 178 #[.slice a l.length c] w fun e w' => e = .returned (.int .i64 (lenAt l)) ∧ Ext w w' := by
  have HU := Lib.hid h
  have hbig : l.length ≤ maxLen := Nat.le_trans h.cap h.big
  unfold maxLen at hbig
  have q2 : (2 : Int) < (l.length : Int) := by omega
  have q3 : (3 : Int) < (l.length : Int) := by omega
  clear h
  obtain ⟨g, off, rfl, _, b2⟩ := HU.out.at (i := 2) (get_wd (by omega))
  have b3 := (HU.out.cells rfl).2 3 _ (get_wd (by omega))
  obtain ⟨x0, x1⟩ := HU.out.u8 (wd l 2) (List.mem_of_getElem? (get_wd (by omega)))
  obtain ⟨y0, y1⟩ := HU.out.u8 (wd l 3) (List.mem_of_getElem? (get_wd (by omega)))
  have HL : Hid (lenAt l = wd l 2 + 256 * wd l 3) := rfl
  have HO := Lib.hid (len_or x0 x1 y0 y1)
  generalize wd l 2 = x at *
  generalize wd l 3 = y at *
  go_enter Tryz.func178, Tryz.ntmps178
  go_wp2_with fail
  go_quiet (fail)
  go_wp2
  go_ret
  rw [HL.out, ← HO.out]
  exact ⟨rfl, (Ext.refl w).drewN _⟩
end Go.Proofs.Eff

/- wire.may, the document's MayPacket, bytes.Equal. -/
namespace Go.Proofs.Eff
open Go.RowKit

set_option maxRecDepth 100000 in
set_option maxHeartbeats 1000000 in
theorem may183 (w : World) (k t s q : Int) (a : Option Addr) (n c : Nat) :
    Calls Tryz.prog 183 #[.agg #[.int .i64 k, .int .u64 t, .int .u64 s, .int .u64 q, .slice a n c]] w fun e w' => e = .returned (.bool (decide (1 ≤ k) && decide (k ≤ 7) && decide (n ≤ 1024))) ∧ Ext w w' := by
  have BX : Hid ((w.alloc (.cells #[.int .i64 k, .int .u64 t, .int .u64 s, .int .u64 q, .slice a n c] 211)).heap[w.heap.size]? = some (.cells #[.int .i64 k, .int .u64 t, .int .u64 s, .int .u64 q, .slice a n c] 211)) := newB w _ _ rfl
  have EX : Hid (Ext w (w.alloc (.cells #[.int .i64 k, .int .u64 t, .int .u64 s, .int .u64 q, .slice a n c] 211))) := (Ext.refl w).alloc _
  have key : k < 1 ∨ (1 ≤ k ∧ 7 < k) ∨ (1 ≤ k ∧ k ≤ 7 ∧ n ≤ 1024) ∨ (1 ≤ k ∧ k ≤ 7 ∧ 1024 < n) := by omega
  rcases key with h1 | ⟨h1, h2⟩ | ⟨h1, h2, h3⟩ | ⟨h1, h2, h3⟩
  all_goals
    go_enter Tryz.func183, Tryz.ntmps183
    go_wp2_with fail
    go_ret
    exact ⟨congrArg (fun b => Ending.returned (Value.bool b)) (by rw [Bool.eq_iff_iff]; simp only [Bool.and_eq_true, decide_eq_true_eq, Bool.false_eq_true, false_iff]; omega), EX.out⟩
set_option maxRecDepth 100000 in
set_option maxHeartbeats 1000000 in
theorem may146 (w : World) (k t s q : Int) (a : Option Addr) (n c : Nat) :
    Calls Tryz.prog 146 #[.agg #[.int .i64 k, .int .u64 t, .int .u64 s, .int .u64 q, .slice a n c]] w fun e w' => e = .returned (.bool (decide (1 ≤ k) && decide (k ≤ 7) && decide (n ≤ 1024))) ∧ Ext w w' := by
  have BX : Hid ((w.alloc (.cells #[.int .i64 k, .int .u64 t, .int .u64 s, .int .u64 q, .slice a n c] 211)).heap[w.heap.size]? = some (.cells #[.int .i64 k, .int .u64 t, .int .u64 s, .int .u64 q, .slice a n c] 211)) := newB w _ _ rfl
  have EX : Hid (Ext w (w.alloc (.cells #[.int .i64 k, .int .u64 t, .int .u64 s, .int .u64 q, .slice a n c] 211))) := (Ext.refl w).alloc _
  have key : k < 1 ∨ (1 ≤ k ∧ 7 < k) ∨ (1 ≤ k ∧ k ≤ 7 ∧ n ≤ 1024) ∨ (1 ≤ k ∧ k ≤ 7 ∧ 1024 < n) := by omega
  rcases key with h1 | ⟨h1, h2⟩ | ⟨h1, h2, h3⟩ | ⟨h1, h2, h3⟩
  all_goals
    go_enter Tryz.func146, Tryz.ntmps146
    go_wp2_with fail
    go_ret
    exact ⟨congrArg (fun b => Ending.returned (Value.bool b)) (by rw [Bool.eq_iff_iff]; simp only [Bool.and_eq_true, decide_eq_true_eq, Bool.false_eq_true, false_iff]; omega), EX.out⟩
theorem str_beq {l1 l2 : List Int} (u1 : U8s l1) (u2 : U8s l2) : ((strOfNums l1).toList == (strOfNums l2).toList) = decide (l1 = l2) := by
  rw [Bool.eq_iff_iff, beq_iff_eq, decide_eq_true_eq, ← strOfNums_inj u1 u2]
  refine ⟨fun h => ?_, fun h => by rw [h]⟩
  rw [ByteArray.toList_eq, ByteArray.toList_eq] at h
  exact ByteArray.ext (Array.toList_inj.1 h)
theorem equal180 {w : World} {v1 v2 : Value} {l1 l2 : List Int} (h1 : BytesV w v1 l1) (h2 : BytesV w v2 l2) (u1 : U8s l1) (u2 : U8s l2) :
    Calls Tryz.prog 180 #[v1, v2] w fun e w' => e = .returned (.bool (decide (l1 = l2))) ∧ w' = w := by
  have c1 := run_convert_bytesV h1
  have c2 := run_convert_bytesV h2
  have HI := Lib.hid (str_beq u1 u2)
  clear h1 h2
  generalize strOfNums l1 = s1 at *
  generalize strOfNums l2 = s2 at *
  go_enter Tryz.func180, Tryz.ntmps180
  go_wp2_with fail
  go_ret
  rw [← HI.out]
  exact ⟨rfl, rfl⟩
end Go.Proofs.Eff

/- wire.zigzag, wire.counts: how many bytes they make. -/
namespace Go.Proofs.Eff
open Go.RowKit

set_option maxRecDepth 100000 in
set_option maxHeartbeats 1000000 in
theorem zigzag210 (w : World) (n : Int) (h0 : -9223372036854775808 ≤ n) (h1 : n < 9223372036854775808) :
    Calls Tryz.prog 210 #[.int .i64 n] w fun e w' => e = .returned (.int .u64 (zig n)) ∧ w' = w := by
  by_cases hn : 0 ≤ n
  · have HZ : Hid (zig n = 2 * n) := if_pos hn
    go_enter Tryz.func210, Tryz.ntmps210
    go_wp2_with fail
    go_ret
    rw [HZ.out]
    exact ⟨rfl, rfl⟩
  · have HZ : Hid (zig n = 2 * (-(n + 1)) + 1) := if_neg hn
    go_enter Tryz.func210, Tryz.ntmps210
    go_wp2_with fail
    go_ret
    rw [HZ.out]
    exact ⟨rfl, rfl⟩

/-- A row of bytes has grown; what is no row of bytes is as it was. -/
structure RowTo (w w' : World) (base : Nat) (v : Value) (n : Nat) : Prop where
  row : ∃ xs, w'.ownsRow base 5 1 v n xs
  below : Below base w w'
  keep : ∀ (k : Nat) (o : Obj), w.heap[k]? = some o → (∀ cs fz, o ≠ .cells cs 5 fz) → w'.heap[k]? = some o
theorem RowTo.trans {w w1 w2 : World} {base n1 n2 : Nat} {v1 v2 : Value} (h : RowTo w w1 base v1 n1) (k : RowTo w1 w2 base v2 n2) : RowTo w w2 base v2 n2 :=
  ⟨k.row, Below.trans h.below k.below, fun i o hi ho => k.keep i o (h.keep i o hi ho) ho⟩
theorem RowTo.start {w w' : World} {base n : Nat} {v : Value} {xs : List Value} (h : w.ownsRow base 5 1 v n xs) (hx : Ext w w') (hb : base ≤ w.heap.size) : RowTo w w' base v n :=
  ⟨⟨xs, row_keep h hx⟩, Below.mono hx hb, fun _i _o hi _ => hx.keep hi⟩
theorem RowTo.grow {w w1 w2 : World} {base n n2 : Nat} {v v2 : Value} {xs ys : List Value} (hr : w1.ownsRow base 5 1 v n xs) (hx : Ext w w1) (hb : base ≤ w.heap.size) (h2 : w2.ownsRow base 5 1 v2 n2 ys) (hg : w1.grownBy w2 v.ownBlock) : RowTo w w2 base v2 n2 := by
  refine ⟨⟨ys, h2⟩, ?_, fun i o hi ho => ?_⟩
  · exact Below.grown (Below.mono hx hb) hg (Nat.le_trans hb hx.size) (fun k hk => (hr.lt k hk).1)
  · have h3 := hx.keep hi
    rw [hg.block i (lt_of_block h3) (fun he => by
      rcases hr.2 with ⟨h4, _⟩ | ⟨g', cap', cur, h4, _, h5, _⟩
      · rw [h4] at he; simp [Value.ownBlock] at he
      · rw [h4] at he
        simp only [Value.ownBlock, Option.some.injEq] at he
        subst he
        rw [h5] at h3
        cases h3
        exact ho _ _ rfl)]
    exact h3
/-- Where the writing of a count stands. -/
structure WrI (w wr : World) (base n : Nat) (v m : Int) (b : Value) : Prop where
  m0 : 0 ≤ m
  at_ : ∃ j, j ≤ 9 ∧ m < 2 ^ (64 - 7 * j) ∧ clen v = j + clenG (9 - j) m ∧ RowTo w wr base b (n + j)
theorem WrI.last {w wr : World} {base n : Nat} {v m : Int} {b : Value} (h : WrI w wr base n v m b) (hm : m < 128) : ∃ j, j ≤ 9 ∧ clen v = j + 1 ∧ RowTo w wr base b (n + j) := by
  obtain ⟨j, h1, h2, h3, h4⟩ := h.at_
  refine ⟨j, h1, ?_, h4⟩
  rw [h3]
  congr 1
  cases hj : 9 - j with
  | zero => rfl
  | succ f => simp [clenG, hm]
theorem WrI.more {w wr : World} {base n : Nat} {v m : Int} {b : Value} (h : WrI w wr base n v m b) (hm : ¬ m < 128) : ∃ j, j < 9 ∧ m / 128 < 2 ^ (64 - 7 * (j + 1)) ∧ clen v = (j + 1) + clenG (9 - (j + 1)) (m / 128) ∧ RowTo w wr base b (n + j) := by
  obtain ⟨j, h1, h2, h3, h4⟩ := h.at_
  have hj : j < 9 := by
    rcases Nat.lt_or_ge j 9 with h | h
    · exact h
    · obtain rfl : j = 9 := by omega
      have e : (2 : Int) ^ (64 - 7 * 9) = 2 := by decide
      rw [e] at h2
      omega
  refine ⟨j, hj, ?_, ?_, h4⟩
  · have e : (2 : Int) ^ (64 - 7 * j) = 2 ^ (64 - 7 * (j + 1)) * 128 := by
      rw [show 64 - 7 * j = (64 - 7 * (j + 1)) + 7 by omega, Int.pow_add]
      rfl
    rw [e] at h2
    exact Int.ediv_lt_of_lt_mul (by omega) h2
  · rw [h3, show 9 - j = (9 - (j + 1)) + 1 by omega]
    simp only [clenG, if_neg hm]
    omega
set_option maxRecDepth 100000 in
set_option maxHeartbeats 4000000 in
theorem counts209 {w : World} {base n k : Nat} {vb : Value} {xs : List Value} {v : Int} (h : w.ownsRow base 5 1 vb n xs) (hb : base ≤ w.heap.size) (hk : w.heap[k]? = some (.cells #[.int .u64 v] 55)) (v0 : 0 ≤ v) (v1 : v < 18446744073709551616) (hn : n ≤ 1099511627776) :
    Calls Tryz.prog 209 #[vb, .slice (some ⟨k, 0, none⟩) 1 1] w fun e w' => ∃ v', e = .returned v' ∧ RowTo w w' base v' (n + clen v) := by
  have S0 : Hid (RowTo w w base vb n) := RowTo.start h (Ext.refl w) hb
  have HB := Lib.hid hb
  obtain ⟨b1, b2⟩ := blk hk
  have HV := Lib.hid v1
  have hk2 := Lib.hid hk
  have I0 : Hid (WrI w w base n v v vb) := ⟨v0, 0, by omega, by have e : (2 : Int) ^ (64 - 7 * 0) = 18446744073709551616 := by decide
                                                                rw [e]; exact v1, by simp [clen], S0.out⟩
  clear h hb hk
  go_enter Tryz.func209, Tryz.ntmps209
  go_wp2_with fail
  go_loopw [9, 0] (fun i b wr => (i = .int .i64 0 ∧ b = vb ∧ wr = w) ∨ (i = .int .i64 1 ∧ RowTo w wr base b (n + clen v))) (fun i _ _ => 1 - (intOf i).toNat)
  case atStart => exact .inl ⟨rfl, rfl, rfl⟩
  case round =>
    rcases hrel with ⟨rfl, rfl, rfl⟩ | ⟨rfl, hR⟩
    · obtain ⟨w0, rfl⟩ : ∃ w0, w0 = wr := ⟨_, rfl⟩
      go_wp2_with fail
      go_loopw [6, 0] (fun m b wr => ∃ mv, m = .int .u64 mv ∧ WrI w0 wr base n v mv b) (fun m _ _ => (intOf m).toNat)
      case atStart => exact ⟨v, rfl, I0.out⟩
      case round =>
        obtain ⟨m, rfl, hI⟩ := hrel
        have II := Lib.hid hI
        have m0 := hI.m0
        clear hI
        obtain ⟨i5, hi, hz0, hz1, hz3⟩ := info_parts Tryz.cinfo5
        have NW : Hid (∀ x : Int, ∀ j u, [Value.int .u8 x][j]? = some u → (wr.alloc (.cells #[.int .u8 x] 5)).cell? ((⟨wr.heap.size, 0, none⟩ : Addr).add j) = some u) := fun x => (World.ownsRow_lit (base := 0) (e := 5) (size := 1) wr #[.int .u8 x] 1 (Nat.zero_le _) (by unfold maxLen; omega) rfl).cells rfl
        by_cases hm : m < 128
        · obtain ⟨j, hj, hc, hR⟩ := II.out.last hm
          obtain ⟨xs2, hrow⟩ := hR.row
          obtain ⟨ad, c, rfl, _⟩ := own_any hrow
          have ROW := Lib.hid hrow
          have BS : Hid (w0.heap.size ≤ wr.heap.size) := Below.size hR.below
          have RB := Lib.hid hR
          have HC := Lib.hid hc
          clear hrow hR hc
          go_wp2_with (at_builtin; (refine wpList_append_own _ rfl _ _ 37 rfl base 5 i5 (.int .u8 0) 1 1 Tryz.underlying37 hi hz0 hz1 hz3 rfl (by decide) _ (n + j) xs2 rfl (row_keep ROW.out ((Ext.refl wr).alloc _)) ⟨wr.heap.size, 0, none⟩ 1 1 [.int .u8 _] rfl rfl (NW.out _) (by intro u hu; simp at hu; subst hu; rfl) (by unfold maxLen; omega) (by omega) (by have := BS.out; have := HB.out; simp; omega) ?_; intro v' w3 hown hgrow hnil2; have R3 := Lib.hid (RB.out.trans (RowTo.grow (row_keep ROW.out ((Ext.refl wr).alloc _)) ((Ext.refl wr).alloc _) (Nat.le_trans HB.out BS.out) hown hgrow)); obtain ⟨ad3, c3, rfl, _⟩ := own_any hown; clear hown hgrow hnil2))
          exact ⟨.inr ⟨rfl, by rw [HC.out, ← Nat.add_assoc]; exact R3.out⟩, by simp [intOf]⟩
        · obtain ⟨j, hj, hlt, hc, hR⟩ := II.out.more hm
          obtain ⟨xs2, hrow⟩ := hR.row
          obtain ⟨ad, c, rfl, _⟩ := own_any hrow
          have ROW := Lib.hid hrow
          have BS : Hid (w0.heap.size ≤ wr.heap.size) := Below.size hR.below
          have RB := Lib.hid hR
          have HC := Lib.hid hc
          have HLT := Lib.hid hlt
          clear hrow hR hc hlt
          go_wp2_with (at_builtin; (refine wpList_append_own _ rfl _ _ 37 rfl base 5 i5 (.int .u8 0) 1 1 Tryz.underlying37 hi hz0 hz1 hz3 rfl (by decide) _ (n + j) xs2 rfl (row_keep ROW.out ((Ext.refl wr).alloc _)) ⟨wr.heap.size, 0, none⟩ 1 1 [.int .u8 _] rfl rfl (NW.out _) (by intro u hu; simp at hu; subst hu; rfl) (by unfold maxLen; omega) (by omega) (by have := BS.out; have := HB.out; simp; omega) ?_; intro v' w3 hown hgrow hnil2; have R3 := Lib.hid (RB.out.trans (RowTo.grow (row_keep ROW.out ((Ext.refl wr).alloc _)) ((Ext.refl wr).alloc _) (Nat.le_trans HB.out BS.out) hown hgrow)); obtain ⟨ad3, c3, rfl, _⟩ := own_any hown; clear hown hgrow hnil2))
          refine ⟨⟨m / 128, rfl, by omega, j + 1, by omega, HLT.out, HC.out, by rw [← Nat.add_assoc]; exact R3.out⟩, ?_⟩
          simp only [intOf]
          omega
    · have HR := Lib.hid hR
      clear hR
      go_wp2_with fail
      go_ret
      exact ⟨_, rfl, HR.out⟩
end Go.Proofs.Eff
