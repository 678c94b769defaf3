/- Frames in plain words: the checksum, counts, packets, replies, and what a monitor of a session finds. -/
import Derived.Test.YtaggadjiefgpoaaGreatDoorSy01
import Derived.Laws.BitsAllLaws
namespace Go.Proofs.Eff
open Go.RowKit

/-- One bit of the checksum. -/
def crcBit (s : Int) : Int := if s % 2 = 1 then bits .xor .u32 (s / 2) 3988292384 else s / 2
def crcBits : Nat → Int → Int
  | 0, s => s
  | n + 1, s => crcBits n (crcBit s)
def crcByte (s x : Int) : Int := crcBits 8 (bits .xor .u32 s x)
def crcL (s : Int) (l : List Int) : Int := l.foldl crcByte s
def crc (l : List Int) : Int := 4294967295 - crcL 4294967295 l

theorem crcBit_in {s : Int} (h0 : 0 ≤ s) (h1 : s < 4294967296) : 0 ≤ crcBit s ∧ crcBit s < 4294967296 := by
  unfold crcBit
  split
  · have h2 := bits_lo_u32 .xor (s / 2) 3988292384
    have h3 := bits_hi_u32 .xor (s / 2) 3988292384
    omega
  · omega
theorem crcBits_in (n : Nat) {s : Int} (h0 : 0 ≤ s) (h1 : s < 4294967296) : 0 ≤ crcBits n s ∧ crcBits n s < 4294967296 := by
  induction n generalizing s with
  | zero => exact ⟨h0, h1⟩
  | succ n ih => exact ih (crcBit_in h0 h1).1 (crcBit_in h0 h1).2
theorem crcBits_succ (n : Nat) (s : Int) : crcBits (n + 1) s = crcBit (crcBits n s) := by
  induction n generalizing s with
  | zero => rfl
  | succ n ih => rw [crcBits, ih, crcBits]
theorem xor_in (s x : Int) : 0 ≤ bits .xor .u32 s x ∧ bits .xor .u32 s x < 4294967296 := by
  have h2 := bits_lo_u32 .xor s x
  have h3 := bits_hi_u32 .xor s x
  omega
theorem crcByte_in (s x : Int) : 0 ≤ crcByte s x ∧ crcByte s x < 4294967296 := crcBits_in 8 (xor_in s x).1 (xor_in s x).2
theorem crcL_in {s : Int} (h0 : 0 ≤ s) (h1 : s < 4294967296) (l : List Int) : 0 ≤ crcL s l ∧ crcL s l < 4294967296 := by
  unfold crcL
  induction l generalizing s with
  | nil => exact ⟨h0, h1⟩
  | cons x l ih =>
    rw [List.foldl_cons]
    exact ih (crcByte_in s x).1 (crcByte_in s x).2
theorem crcL_snoc (s : Int) (l : List Int) (x : Int) : crcL s (l ++ [x]) = crcByte (crcL s l) x := by
  unfold crcL
  rw [List.foldl_append]
  rfl
theorem crc_in (l : List Int) : 0 ≤ crc l ∧ crc l < 4294967296 := by
  have h := crcL_in (s := 4294967295) (by decide) (by decide) l
  show 0 ≤ 4294967295 - crcL 4294967295 l ∧ 4294967295 - crcL 4294967295 l < 4294967296
  generalize crcL 4294967295 l = c at h ⊢
  omega

/-- A count: seven bits a byte, the lowest first. -/
def countG : Nat → Nat → Int → List Int → Option (Int × List Int)
  | 0, _, _, _ => none
  | _ + 1, _, _, [] => none
  | f + 1, i, n, x :: l => if (i = 9 ∧ 1 < x) ∨ (0 < i ∧ x = 0) then none else if x < 128 then some (n + x % 128 * 2 ^ (7 * i), l) else countG f (i + 1) (n + x % 128 * 2 ^ (7 * i)) l
def countP (l : List Int) : Option (Int × List Int) := countG 10 0 0 l
def byteP : List Int → Option (Int × List Int)
  | [] => none
  | x :: l => some (x, l)
def signedOf (n : Int) : Int := if n % 2 = 0 then n / 2 else -(n / 2) - 1
def signedP (l : List Int) : Option (Int × List Int) := (countP l).map fun p => (signedOf p.1, p.2)

/-- A byte. -/
def U8s (l : List Int) : Prop := ∀ x, x ∈ l → 0 ≤ x ∧ x < 256
theorem U8s.tail {x : Int} {l : List Int} (h : U8s (x :: l)) : U8s l := fun y hy => h y (List.mem_cons_of_mem _ hy)

/-- So many bytes has a count. -/
def clenG : Nat → Int → Nat
  | 0, _ => 1
  | f + 1, v => if v < 128 then 1 else clenG f (v / 128) + 1
def clen (v : Int) : Nat := clenG 9 v
theorem clenG_pos (f : Nat) (v : Int) : 1 ≤ clenG f v := by cases f <;> simp [clenG]; split <;> omega
theorem clenG_le (f : Nat) (v : Int) : clenG f v ≤ f + 1 := by
  induction f generalizing v with
  | zero => simp [clenG]
  | succ f ih => have := ih (v / 128); simp only [clenG]; split <;> omega

theorem countG_some {f i : Nat} {n : Int} {l : List Int} {v : Int} {r : List Int} (hu : U8s l) (hn : 0 ≤ n) (hn1 : n < 2 ^ (7 * i)) (hf : f + i = 10) (h : countG f i n l = some (v, r)) :
    ∃ d : Int, v = n + d * 2 ^ (7 * i) ∧ 0 ≤ d ∧ (0 < i → 0 < d) ∧ v < 18446744073709551616 ∧ l.length = clenG (f - 1) d + r.length ∧ ∃ a, l = a ++ r := by
  induction f generalizing i n l with
  | zero => simp [countG] at h
  | succ f ih =>
    cases l with
    | nil => simp [countG] at h
    | cons x l =>
      have hx := hu x List.mem_cons_self
      have hp : (0 : Int) < 2 ^ (7 * i) := Int.pow_pos (by omega)
      have hs : (2 : Int) ^ (7 * (i + 1)) = 128 * 2 ^ (7 * i) := by rw [show 7 * (i + 1) = 7 * i + 7 by omega, Int.pow_add]; omega
      simp only [countG] at h
      split at h
      · cases h
      · rename_i hbad
        split at h
        · rename_i hlt
          simp only [Option.some.injEq, Prod.mk.injEq] at h
          obtain ⟨rfl, rfl⟩ := h
          have hm : x % 128 = x := by omega
          rw [hm]
          refine ⟨x, rfl, hx.1, fun hi => ?_, ?_, ?_, [x], rfl⟩
          · have : x ≠ 0 := fun h0 => hbad (.inr ⟨hi, h0⟩)
            omega
          · by_cases h9 : i = 9
            · subst h9
              have : ¬ 1 < x := fun h1 => hbad (.inl ⟨rfl, h1⟩)
              have e1 : (2 : Int) ^ (7 * 9) = 9223372036854775808 := by decide
              rw [e1] at *
              have : x = 0 ∨ x = 1 := by omega
              rcases this with rfl | rfl <;> omega
            · have h8 : i ≤ 8 := by omega
              have e1 : (2 : Int) ^ (7 * i) ≤ 2 ^ 56 := by exact_mod_cast Nat.pow_le_pow_right (n := 2) (by omega) (show 7 * i ≤ 56 by omega)
              have e2 : (2 : Int) ^ 56 = 72057594037927936 := by decide
              have e3 : x * 2 ^ (7 * i) ≤ 127 * 2 ^ (7 * i) := Int.mul_le_mul_of_nonneg_right (by omega) (by omega)
              omega
          · cases f with
            | zero => simp [clenG]; omega
            | succ f => simp [clenG, hlt]; omega
        · rename_i hge
          have hm : x % 128 = x - 128 := by omega
          have e3 : x % 128 * 2 ^ (7 * i) ≤ 127 * 2 ^ (7 * i) := Int.mul_le_mul_of_nonneg_right (by omega) (by omega)
          have e4 : 0 ≤ x % 128 * 2 ^ (7 * i) := Int.mul_nonneg (by omega) (by omega)
          obtain ⟨d, hv, hd0, hdp, hv2, hl, a, ha⟩ := ih (i := i + 1) (n := n + x % 128 * 2 ^ (7 * i)) hu.tail (by omega) (by rw [hs]; omega) (by omega) h
          have hdp := hdp (by omega)
          have hf1 : f ≠ 0 := by
            intro h0
            subst h0
            simp [countG] at h
          refine ⟨x % 128 + d * 128, ?_, by omega, fun _ => by omega, hv2, ?_, x :: a, by simp [ha]⟩
          · rw [hv, hs, Int.add_mul, Int.mul_assoc]; omega
          · obtain ⟨f', rfl⟩ : ∃ f', f = f' + 1 := ⟨f - 1, by omega⟩
            have h1 : ¬ (x % 128 + d * 128 < 128) := by omega
            have h2 : (x % 128 + d * 128) / 128 = d := by omega
            simp only [Nat.add_sub_cancel, clenG, h1, if_false, h2, List.length_cons] at *
            omega

theorem countP_some {l : List Int} {v : Int} {r : List Int} (hu : U8s l) (h : countP l = some (v, r)) : 0 ≤ v ∧ v < 18446744073709551616 ∧ l.length = clen v + r.length ∧ U8s r ∧ ∃ a, l = a ++ r := by
  obtain ⟨d, hv, hd, _, h2, hl, a, ha⟩ := countG_some (f := 10) (i := 0) (n := 0) hu (by omega) (by simp) rfl h
  have : v = d := by simpa using hv
  subst this
  refine ⟨hd, h2, hl, fun x hx => hu x (by rw [ha]; simp [hx]), a, ha⟩

/-- A signed number as a count. -/
def zig (n : Int) : Int := if 0 ≤ n then 2 * n else 2 * (-(n + 1)) + 1
theorem zig_signedOf {n : Int} (h0 : 0 ≤ n) : zig (signedOf n) = n := by
  unfold zig signedOf
  split <;> split <;> omega
theorem signedOf_in {n : Int} (h0 : 0 ≤ n) (h1 : n < 18446744073709551616) : -9223372036854775808 ≤ signedOf n ∧ signedOf n < 9223372036854775808 := by
  unfold signedOf
  split <;> omega
theorem zig_in {n : Int} (h0 : -9223372036854775808 ≤ n) (h1 : n < 9223372036854775808) : 0 ≤ zig n ∧ zig n < 18446744073709551616 := by
  unfold zig
  split <;> omega
theorem signedP_some {l : List Int} {v : Int} {r : List Int} (hu : U8s l) (h : signedP l = some (v, r)) : -9223372036854775808 ≤ v ∧ v < 9223372036854775808 ∧ l.length = clen (zig v) + r.length ∧ U8s r ∧ ∃ a, l = a ++ r := by
  unfold signedP at h
  cases hc : countP l with
  | none => simp [hc] at h
  | some p =>
    obtain ⟨n, r'⟩ := p
    simp only [hc, Option.map_some, Option.some.injEq, Prod.mk.injEq] at h
    obtain ⟨rfl, rfl⟩ := h
    obtain ⟨h0, h1, h2, h3, h4⟩ := countP_some hu hc
    have := signedOf_in h0 h1
    exact ⟨this.1, this.2, by rw [zig_signedOf h0]; exact h2, h3, h4⟩

/-- A packet. -/
structure Pkt where
  kind : Int
  tok : Int
  seq : Int
  ack : Int
  body : List Int
def innerP (l : List Int) : Option Pkt :=
  match byteP l with
  | none => none
  | some (k, l1) => match countP l1 with
    | none => none
    | some (t, l2) => match countP l2 with
      | none => none
      | some (s, l3) => match countP l3 with
        | none => none
        | some (a, l4) => some ⟨k, t, s, a, l4⟩
def mayP (p : Pkt) : Bool := decide (1 ≤ p.kind) && decide (p.kind ≤ 7) && decide (p.body.length ≤ 1024)
def lenAt (b : List Int) : Int := wd b 2 + 256 * wd b 3
def frameOK (b : List Int) : Bool := decide (8 ≤ b.length) && decide (wd b 0 = 239) && decide (wd b 1 = 30) && decide ((b.length : Int) = lenAt b + 8)
def inside (b : List Int) : List Int := (b.take (b.length - 4)).drop 4
def sumOK (b : List Int) : Bool := decide (b.drop (b.length - 4) = bytes4 (crc (b.take (b.length - 4))))
def unpack (b : List Int) : Option Pkt := if frameOK b && sumOK b then (innerP (inside b)).filter mayP else none

theorem innerP_some {l : List Int} {p : Pkt} (hu : U8s l) (h : innerP l = some p) : (0 ≤ p.kind ∧ p.kind < 256) ∧ (0 ≤ p.tok ∧ p.tok < 18446744073709551616) ∧ (0 ≤ p.seq ∧ p.seq < 18446744073709551616) ∧ (0 ≤ p.ack ∧ p.ack < 18446744073709551616) ∧ U8s p.body ∧ p.body.length < l.length := by
  cases l with
  | nil => simp [innerP, byteP] at h
  | cons k l1 =>
    simp only [innerP, byteP] at h
    cases h1 : countP l1 with
    | none => simp [h1] at h
    | some x =>
      obtain ⟨t, l2⟩ := x
      simp only [h1] at h
      obtain ⟨a0, a1, a2, a3, _⟩ := countP_some hu.tail h1
      cases h2 : countP l2 with
      | none => simp [h2] at h
      | some x =>
        obtain ⟨s, l3⟩ := x
        simp only [h2] at h
        obtain ⟨b0, b1, b2, b3, _⟩ := countP_some a3 h2
        cases h3 : countP l3 with
        | none => simp [h3] at h
        | some x =>
          obtain ⟨a, l4⟩ := x
          simp only [h3, Option.some.injEq] at h
          subst h
          obtain ⟨c0, c1, c2, c3, _⟩ := countP_some b3 h3
          have hk := hu k List.mem_cons_self
          refine ⟨hk, ⟨a0, a1⟩, ⟨b0, b1⟩, ⟨c0, c1⟩, c3, ?_⟩
          simp only [List.length_cons]
          omega

/-- The values of a reply. -/
def valsP : Nat → List Int → Option (List (Int × Int) × List Int)
  | 0, l => some ([], l)
  | k + 1, l => match countP l with
    | none => none
    | some (h, l1) => if h = 0 then (match signedP l1 with
        | none => none
        | some (n, l2) => (valsP k l2).map fun p => ((0, n) :: p.1, p.2))
      else (valsP k l1).map fun p => ((h, 0) :: p.1, p.2)
/-- A reply read to its end: its error, its values, how long its text is. -/
def replyG (b : List Int) : Option (Int × List (Int × Int) × Nat) :=
  match signedP b with
  | none => none
  | some (e, l1) => match byteP l1 with
    | none => none
    | some (k, l2) => match valsP k.toNat l2 with
      | none => none
      | some (vs, l3) => match countP l3 with
        | none => none
        | some (t, l4) => if t ≤ 512 ∧ t = l4.length then some (e, vs, l4.length) else none
def replyP (b : List Int) : Bool :=
  match replyG b with
  | none => false
  | some (_, vs, _) => decide (b.length ≤ 1024) && decide (vs.length ≤ 32)

/-- The bytes of a reply's values. -/
def vlen : List (Int × Int) → Nat
  | [] => 0
  | x :: l => clen x.1 + (if x.1 = 0 then clen (zig x.2) else 0) + vlen l
theorem vlen_append (a b : List (Int × Int)) : vlen (a ++ b) = vlen a + vlen b := by
  induction a with
  | nil => simp [vlen]
  | cons x a ih => simp only [List.cons_append, vlen, ih]; omega
/-- Values as a reply may have them. -/
def valOK (x : Int × Int) : Prop := (0 ≤ x.1 ∧ x.1 < 18446744073709551616) ∧ (-9223372036854775808 ≤ x.2 ∧ x.2 < 9223372036854775808) ∧ (x.1 ≠ 0 → x.2 = 0)
theorem valsP_some {k : Nat} {l : List Int} {vs : List (Int × Int)} {r : List Int} (hu : U8s l) (h : valsP k l = some (vs, r)) : vs.length = k ∧ (∀ x, x ∈ vs → valOK x) ∧ l.length = vlen vs + r.length ∧ U8s r := by
  induction k generalizing l vs with
  | zero =>
    simp only [valsP, Option.some.injEq, Prod.mk.injEq] at h
    obtain ⟨rfl, rfl⟩ := h
    exact ⟨rfl, by simp, by simp [vlen], hu⟩
  | succ k ih =>
    simp only [valsP] at h
    cases h1 : countP l with
    | none => simp [h1] at h
    | some x =>
      obtain ⟨n, l1⟩ := x
      simp only [h1] at h
      obtain ⟨a0, a1, a2, a3, _⟩ := countP_some hu h1
      split at h
      · rename_i hz
        subst hz
        cases h2 : signedP l1 with
        | none => simp [h2] at h
        | some x =>
          obtain ⟨m, l2⟩ := x
          simp only [h2] at h
          obtain ⟨b0, b1, b2, b3, _⟩ := signedP_some a3 h2
          cases h3 : valsP k l2 with
          | none => simp [h3] at h
          | some x =>
            obtain ⟨vs', r'⟩ := x
            simp only [h3, Option.map_some, Option.some.injEq, Prod.mk.injEq] at h
            obtain ⟨rfl, rfl⟩ := h
            obtain ⟨c0, c1, c2, c3⟩ := ih b3 h3
            refine ⟨by simp [c0], fun x hx => ?_, by simp [vlen]; omega, c3⟩
            rcases List.mem_cons.1 hx with rfl | hx
            · exact ⟨⟨by simp, by simp⟩, ⟨b0, b1⟩, by simp⟩
            · exact c1 x hx
      · rename_i hz
        cases h3 : valsP k l1 with
        | none => simp [h3] at h
        | some x =>
          obtain ⟨vs', r'⟩ := x
          simp only [h3, Option.map_some, Option.some.injEq, Prod.mk.injEq] at h
          obtain ⟨rfl, rfl⟩ := h
          obtain ⟨c0, c1, c2, c3⟩ := ih a3 h3
          refine ⟨by simp [c0], fun x hx => ?_, by simp [vlen, hz]; omega, c3⟩
          rcases List.mem_cons.1 hx with rfl | hx
          · exact ⟨⟨a0, a1⟩, by simp, fun _ => rfl⟩
          · exact c1 x hx

/-- A reply's bytes, made anew, are as many as were read. -/
def plen (err : Int) (vs : List (Int × Int)) (t : Nat) : Nat := clen (zig err) + 1 + vlen vs + clen (t : Int) + t

theorem replyG_some {b : List Int} {e : Int} {vs : List (Int × Int)} {t : Nat} (hu : U8s b) (h : replyG b = some (e, vs, t)) : b.length = plen e vs t ∧ t ≤ 512 ∧ (∀ x, x ∈ vs → valOK x) ∧ (-9223372036854775808 ≤ e ∧ e < 9223372036854775808) ∧ vs.length < 256 := by
  unfold replyG at h
  cases h1 : signedP b with
  | none => simp [h1] at h
  | some x =>
    obtain ⟨e', l1⟩ := x
    simp only [h1] at h
    obtain ⟨a0, a1, a2, a3, _⟩ := signedP_some hu h1
    cases l1 with
    | nil => simp [byteP] at h
    | cons k l2 =>
      have hk := a3 k List.mem_cons_self
      simp only [byteP] at h
      cases h2 : valsP k.toNat l2 with
      | none => simp [h2] at h
      | some x =>
        obtain ⟨vs', l3⟩ := x
        simp only [h2] at h
        obtain ⟨b0, b1, b2, b3⟩ := valsP_some a3.tail h2
        cases h3 : countP l3 with
        | none => simp [h3] at h
        | some x =>
          obtain ⟨n, l4⟩ := x
          simp only [h3] at h
          obtain ⟨c0, c1, c2, c3, _⟩ := countP_some b3 h3
          split at h
          · rename_i ht
            obtain ⟨ht, rfl⟩ := ht
            simp only [Option.some.injEq, Prod.mk.injEq] at h
            obtain ⟨rfl, rfl, rfl⟩ := h
            refine ⟨?_, by omega, b1, ⟨a0, a1⟩, by omega⟩
            simp only [List.length_cons] at a2
            unfold plen
            omega
          · cases h

/-- The packets of a stretch of bytes, and what is kept of it. -/
def scan : Nat → List Int → List Pkt × List Int
  | 0, b => ([], b)
  | f + 1, b => if b = [] then ([], []) else if wd b 0 ≠ 239 ∨ (1 < b.length ∧ wd b 1 ≠ 30) then scan f (b.drop 1)
    else if b.length < 4 then ([], b) else if 1080 < lenAt b then scan f (b.drop 1) else if (b.length : Int) < lenAt b + 8 then ([], b)
    else match unpack (b.take (lenAt b + 8).toNat) with
      | some p => (p :: (scan f (b.drop ((lenAt b).toNat + 8))).1, (scan f (b.drop ((lenAt b).toNat + 8))).2)
      | none => scan f (b.drop 1)
theorem scan_more {f g : Nat} {b : List Int} (hf : b.length ≤ f) (hg : b.length ≤ g) : scan f b = scan g b := by
  induction f generalizing g b with
  | zero =>
    have : b = [] := List.eq_nil_of_length_eq_zero (by omega)
    subst this
    cases g <;> simp [scan]
  | succ f ih =>
    cases g with
    | zero =>
      have : b = [] := List.eq_nil_of_length_eq_zero (by omega)
      subst this
      simp [scan]
    | succ g =>
      by_cases hb : b = []
      · simp [scan, hb]
      · have hl : 0 < b.length := List.length_pos_iff.2 hb
        have h1 : scan f (b.drop 1) = scan g (b.drop 1) := ih (by simp; omega) (by simp; omega)
        have h2 : scan f (b.drop ((lenAt b).toNat + 8)) = scan g (b.drop ((lenAt b).toNat + 8)) := ih (by simp; omega) (by simp; omega)
        simp only [scan, h1, h2]
def scanP (b : List Int) : List Pkt × List Int := scan b.length b
theorem scanP_drop {b : List Int} (f : Nat) (_hl : 0 < b.length) (hf : f + 1 = b.length) (k : Nat) (hk : 0 < k) : scan f (b.drop k) = scanP (b.drop k) :=
  scan_more (by simp; omega) (Nat.le_refl _)
theorem scanP_nil : scanP [] = ([], []) := rfl
theorem scanP_bad {b : List Int} (hl : 0 < b.length) (h : wd b 0 ≠ 239 ∨ (1 < b.length ∧ wd b 1 ≠ 30)) : scanP b = scanP (b.drop 1) := by
  obtain ⟨f, hf⟩ : ∃ f, f + 1 = b.length := ⟨b.length - 1, by omega⟩
  rw [← scanP_drop f hl hf 1 (by omega)]
  have hb : b ≠ [] := List.length_pos_iff.1 hl
  unfold scanP
  rw [← hf]
  simp only [scan, hb, if_false, if_pos h]
theorem scanP_short {b : List Int} (hl : 0 < b.length) (h : ¬ (wd b 0 ≠ 239 ∨ (1 < b.length ∧ wd b 1 ≠ 30))) (h4 : b.length < 4) : scanP b = ([], b) := by
  obtain ⟨f, hf⟩ : ∃ f, f + 1 = b.length := ⟨b.length - 1, by omega⟩
  have hb : b ≠ [] := List.length_pos_iff.1 hl
  unfold scanP
  rw [← hf]
  simp only [scan, hb, if_false, if_neg h, if_pos h4]
theorem scanP_long {b : List Int} (h : ¬ (wd b 0 ≠ 239 ∨ (1 < b.length ∧ wd b 1 ≠ 30))) (h4 : ¬ b.length < 4) (h5 : 1080 < lenAt b) : scanP b = scanP (b.drop 1) := by
  obtain ⟨f, hf⟩ : ∃ f, f + 1 = b.length := ⟨b.length - 1, by omega⟩
  rw [← scanP_drop f (by omega) hf 1 (by omega)]
  have hb : b ≠ [] := List.length_pos_iff.1 (by omega)
  unfold scanP
  rw [← hf]
  simp only [scan, hb, if_false, if_neg h, if_neg h4, if_pos h5]
theorem scanP_wait {b : List Int} (h : ¬ (wd b 0 ≠ 239 ∨ (1 < b.length ∧ wd b 1 ≠ 30))) (h4 : ¬ b.length < 4) (h5 : ¬ 1080 < lenAt b) (h6 : (b.length : Int) < lenAt b + 8) : scanP b = ([], b) := by
  obtain ⟨f, hf⟩ : ∃ f, f + 1 = b.length := ⟨b.length - 1, by omega⟩
  have hb : b ≠ [] := List.length_pos_iff.1 (by omega)
  unfold scanP
  rw [← hf]
  simp only [scan, hb, if_false, if_neg h, if_neg h4, if_neg h5, if_pos h6]
theorem scanP_none {b : List Int} (h : ¬ (wd b 0 ≠ 239 ∨ (1 < b.length ∧ wd b 1 ≠ 30))) (h4 : ¬ b.length < 4) (h5 : ¬ 1080 < lenAt b) (h6 : ¬ (b.length : Int) < lenAt b + 8) (h7 : unpack (b.take (lenAt b + 8).toNat) = none) : scanP b = scanP (b.drop 1) := by
  obtain ⟨f, hf⟩ : ∃ f, f + 1 = b.length := ⟨b.length - 1, by omega⟩
  rw [← scanP_drop f (by omega) hf 1 (by omega)]
  have hb : b ≠ [] := List.length_pos_iff.1 (by omega)
  unfold scanP
  rw [← hf]
  simp only [scan, hb, if_false, if_neg h, if_neg h4, if_neg h5, if_neg h6, h7]
theorem scanP_some {b : List Int} (h : ¬ (wd b 0 ≠ 239 ∨ (1 < b.length ∧ wd b 1 ≠ 30))) (h4 : ¬ b.length < 4) (h5 : ¬ 1080 < lenAt b) (h6 : ¬ (b.length : Int) < lenAt b + 8) {p : Pkt} (h7 : unpack (b.take (lenAt b + 8).toNat) = some p) : scanP b = (p :: (scanP (b.drop ((lenAt b).toNat + 8))).1, (scanP (b.drop ((lenAt b).toNat + 8))).2) := by
  obtain ⟨f, hf⟩ : ∃ f, f + 1 = b.length := ⟨b.length - 1, by omega⟩
  rw [← scanP_drop f (by omega) hf _ (by omega)]
  have hb : b ≠ [] := List.length_pos_iff.1 (by omega)
  unfold scanP
  rw [← hf]
  simp only [scan, hb, if_false, if_neg h, if_neg h4, if_neg h5, if_neg h6, h7]

/-- What a monitor knows. -/
structure Mon where
  tok : Int := 0
  most : Int := 0
  replies : List (List Int) := []
  asked : List Int := []
  events : Int := 0
  kept : List Int := []
def monIn1 (s : Mon) (p : Pkt) : Mon := if s.tok = 0 ∨ p.tok ≠ s.tok then s else if p.kind = 3 then { s with asked := p.seq :: s.asked } else if p.kind = 7 then { s with tok := 0 } else s
def monIn (s : Mon) (l : List Pkt) : Mon := l.foldl monIn1 s
/-- What is found of a frame that went out; 0: nothing. -/
def monKind (s : Mon) (b : List Int) : Int :=
  match unpack b with
  | none => 20
  | some p =>
    if p.kind = 2 then
      (if p.tok = 0 ∨ (s.tok ≠ 0 ∧ p.tok ≠ s.tok) ∨ (s.tok = 0 ∧ p.tok ≤ s.most) then 21 else if p.seq ≠ 0 then 22 else if p.ack ≠ (if s.tok = 0 then 0 else (s.replies.length : Int)) then 25 else 0)
    else if p.kind = 4 then
      (if s.tok = 0 ∨ p.tok ≠ s.tok then 21 else if p.seq = 0 ∨ (s.replies.length : Int) + 1 < p.seq then 22 else if replyP p.body = false then 20
       else if p.seq ≤ s.replies.length then (if b ≠ (s.replies[(p.seq - 1).toNat]?).getD [] then 24 else 0)
       else if p.seq ∉ s.asked then 23 else if p.ack ≠ p.seq then 25 else 0)
    else if p.kind = 5 then
      (if s.tok = 0 ∨ p.tok ≠ s.tok then 21 else if p.seq ≠ s.events + 1 then 22 else if p.ack ≠ s.replies.length then 25 else if replyP p.body = false then 20 else 0)
    else if p.kind = 6 then (if p.body.length = 1 then 0 else 20) else 20
/-- What a monitor knows behind a frame at which nothing was found. -/
def monNext (s : Mon) (b : List Int) : Mon :=
  match unpack b with
  | none => s
  | some p =>
    if p.kind = 2 then (if s.tok = 0 then { tok := p.tok, most := p.tok, replies := [], asked := [], events := 0, kept := s.kept } else s)
    else if p.kind = 4 then (if p.seq ≤ s.replies.length then s else { s with replies := s.replies ++ [b] })
    else if p.kind = 5 then { s with events := s.events + 1 } else s
/-- What passed. -/
structure Psd where
  out : Bool
  cut : Bool
  bytes : List Int
/-- What a session finds, from a place on. -/
def sessG (s : Mon) (i : Nat) : List Psd → Int × Nat
  | [] => (0, 0)
  | p :: l => if p.cut then sessG { s with kept := [] } (i + 1) l
    else if p.out then (if monKind s p.bytes = 0 then sessG (monNext s p.bytes) (i + 1) l else (monKind s p.bytes, i))
    else sessG (monIn { s with kept := (scanP (s.kept ++ p.bytes)).2 } (scanP (s.kept ++ p.bytes)).1) (i + 1) l
end Go.Proofs.Eff

/- What a reader of bytes is at, in plain words: none: something was not as it must be. -/
namespace Go.Proofs.Eff
open Go.RowKit

/-- A count read, and what is left. -/
def countS : Option (List Int) → Int × Option (List Int)
  | none => (0, none)
  | some l => match countP l with
    | none => (0, none)
    | some (v, r) => (v, some r)
def signedS (s : Option (List Int)) : Int × Option (List Int) := (signedOf (countS s).1, (countS s).2)
/-- A reader's bytes are bytes. -/
def U8o (s : Option (List Int)) : Prop := ∀ l, s = some l → U8s l
theorem countS_in {s : Option (List Int)} (h : U8o s) : 0 ≤ (countS s).1 ∧ (countS s).1 < 18446744073709551616 ∧ U8o (countS s).2 := by
  cases s with
  | none => exact ⟨by simp [countS], by simp [countS], fun l hl => by simp [countS] at hl⟩
  | some l =>
    simp only [countS]
    cases hc : countP l with
    | none => exact ⟨by simp, by simp, fun l hl => by simp at hl⟩
    | some p =>
      obtain ⟨v, r⟩ := p
      obtain ⟨h0, h1, _, h3, _⟩ := countP_some (h l rfl) hc
      exact ⟨h0, h1, fun l hl => by simp at hl; exact hl ▸ h3⟩
theorem signedS_in {s : Option (List Int)} (h : U8o s) : -9223372036854775808 ≤ (signedS s).1 ∧ (signedS s).1 < 9223372036854775808 ∧ U8o (signedS s).2 := by
  obtain ⟨h0, h1, h2⟩ := countS_in h
  exact ⟨(signedOf_in h0 h1).1, (signedOf_in h0 h1).2, h2⟩

/-- A packet's bytes read: its head, then three counts, then the rest. -/
def innerS (l : List Int) : Option Pkt :=
  match l with
  | [] => none
  | k :: l1 => match (countS (countS (countS (some l1)).2).2).2 with
    | none => none
    | some r => some ⟨k, (countS (some l1)).1, (countS (countS (some l1)).2).1, (countS (countS (countS (some l1)).2).2).1, r⟩
theorem innerP_eq (l : List Int) : innerP l = innerS l := by
  cases l with
  | nil => rfl
  | cons k l1 =>
    simp only [innerP, byteP, innerS, countS]
    cases h1 : countP l1 with
    | none => simp
    | some x =>
      obtain ⟨t, l2⟩ := x
      simp only
      cases h2 : countP l2 with
      | none => simp
      | some x =>
        obtain ⟨s, l3⟩ := x
        simp only
        cases h3 : countP l3 with
        | none => simp
        | some x => rfl

/-- A text's bytes read, and what is left. -/
def textS (s : Option (List Int)) : List Int × Option (List Int) :=
  match (countS s).2 with
  | none => ([], none)
  | some r => if (countS s).1 ≤ 512 ∧ (countS s).1 ≤ r.length then (r.take (countS s).1.toNat, some (r.drop (countS s).1.toNat)) else ([], none)
/-- One value of a reply. -/
def val1S (s : Option (List Int)) : (Int × Int) × Option (List Int) :=
  if (countS s).1 = 0 then ((0, (signedS (countS s).2).1), (signedS (countS s).2).2) else (((countS s).1, 0), (countS s).2)
theorem val1S_ok {s : Option (List Int)} (h : U8o s) : valOK (val1S s).1 ∧ U8o (val1S s).2 := by
  obtain ⟨h0, h1, h2⟩ := countS_in h
  obtain ⟨g0, g1, g2⟩ := signedS_in h2
  unfold val1S valOK
  split
  · exact ⟨⟨by simp, ⟨g0, g1⟩, by simp⟩, g2⟩
  · exact ⟨⟨⟨h0, h1⟩, by simp, by simp⟩, h2⟩
/-- Where reading of values stands: so many are left, those that were read, what is left. -/
def valsOn (k : Nat) (s : Option (List Int)) : Option (List (Int × Int) × List Int) :=
  match s with
  | none => none
  | some l => valsP k l
theorem valsOn_none (k : Nat) : valsOn k none = none := rfl
theorem valsOn_zero (l : List Int) : valsOn 0 (some l) = some ([], l) := rfl
theorem countS_none : countS none = (0, none) := rfl
theorem countS_stop {l : List Int} (h : countP l = none) : countS (some l) = (0, none) := by simp only [countS, h]
theorem countS_go {l : List Int} {v : Int} {r : List Int} (h : countP l = some (v, r)) : countS (some l) = (v, some r) := by simp only [countS, h]
theorem valsOn_succ (k : Nat) (l : List Int) : valsOn (k + 1) (some l) = (valsOn k (val1S (some l)).2).map fun p => ((val1S (some l)).1 :: p.1, p.2) := by
  simp only [valsOn, valsP]
  cases h1 : countP l with
  | none =>
    simp only [val1S, signedS, countS_stop h1, countS_none]
    rfl
  | some x =>
    obtain ⟨h, l1⟩ := x
    simp only [val1S, signedS, countS_go h1]
    by_cases hz : h = 0
    · subst hz
      simp only [if_true, signedP]
      cases h2 : countP l1 with
      | none =>
        simp only [countS_stop h2]
        rfl
      | some y =>
        obtain ⟨n, l2⟩ := y
        simp only [countS_go h2, Option.map_some]
    · simp only [if_neg hz]
/-- A reply read, step by step. -/
def replyS (b : List Int) : Option (Int × List (Int × Int) × Nat) :=
  match (signedS (some b)).2 with
  | none => none
  | some [] => none
  | some (k :: l2) => match valsOn k.toNat (some l2) with
    | none => none
    | some (vs, l3) => if (textS (some l3)).2 = some [] then some ((signedS (some b)).1, vs, (textS (some l3)).1.length) else none
theorem replyG_eq {b : List Int} (hu : U8s b) : replyG b = replyS b := by
  unfold replyG replyS
  cases h1 : countP b with
  | none =>
    simp only [signedP, signedS, h1, countS_stop h1]
    rfl
  | some x =>
    obtain ⟨n, l1⟩ := x
    simp only [signedP, signedS, h1, countS_go h1, Option.map_some]
    cases l1 with
    | nil => rfl
    | cons k l2 =>
      simp only [byteP, valsOn]
      cases h2 : valsP k.toNat l2 with
      | none => rfl
      | some y =>
        obtain ⟨vs, l3⟩ := y
        simp only
        cases h3 : countP l3 with
        | none => simp only [textS, countS_stop h3]; rfl
        | some z =>
          obtain ⟨t, l4⟩ := z
          have ht0 : 0 ≤ t := (countP_some (valsP_some (countP_some hu h1).2.2.2.1.tail h2).2.2.2 h3).1
          simp only [textS, countS_go h3]
          by_cases ht : t ≤ 512 ∧ t = l4.length
          · rw [if_pos ht]
            obtain ⟨h5, rfl⟩ := ht
            simp [h5]
          · rw [if_neg ht]
            split
            · rename_i h6
              have : ¬ (some (l4.drop t.toNat) = some []) := by
                simp only [Option.some.injEq, List.drop_eq_nil_iff]
                omega
              simp only [if_neg this]
            · simp
end Go.Proofs.Eff
