/- wire.Unpack. -/
import Derived.Test.YtaggadjiefgpoaaGreatDoorSy27
import Derived.Laws.ResultCell
namespace Go.Proofs.Eff
open Go.RowKit

abbrev zeroP : Value := .agg #[.int .i64 0, .int .u64 0, .int .u64 0, .int .u64 0, .slice none 0 0]
/-- What Unpack answers. -/
def UnpackR (w : World) (l : List Int) (e : Ending) (w' : World) : Prop := Ext w w' ∧
  (unpack l = none → ∃ err, 0 < err ∧ err < 256 ∧ e = .returned (.tuple #[zeroP, .int .i64 err])) ∧
  (∀ p, unpack l = some p → ∃ a c, e = .returned (.tuple #[.agg #[.int .i64 p.kind, .int .u64 p.tok, .int .u64 p.seq, .int .u64 p.ack, .slice a p.body.length c], .int .i64 0]) ∧ w'.ownsRow w.heap.size 5 1 (.slice a p.body.length c) p.body.length (u8s p.body) ∧ U8s p.body ∧ p.body.length ≤ 1099511627776)
theorem row_low {w : World} {base b n : Nat} {v : Value} {xs : List Value} (h : w.ownsRow base 5 1 v n xs) (hb : b ≤ base) : w.ownsRow b 5 1 v n xs := by
  obtain ⟨h1, h2⟩ := h
  refine ⟨h1, ?_⟩
  rcases h2 with h2 | ⟨g, c, cur, a1, a2, a3⟩
  · exact .inl h2
  · exact .inr ⟨g, c, cur, a1, Nat.le_trans hb a2, a3⟩
theorem UnpackR.bad {w w' : World} {l : List Int} (h : unpack l = none) (hx : Ext w w') (err : Int) (h0 : 0 < err) (h1 : err < 256) : UnpackR w l (.returned (.tuple #[zeroP, .int .i64 err])) w' :=
  ⟨hx, fun _ => ⟨err, h0, h1, rfl⟩, fun p hp => by rw [h] at hp; cases hp⟩
theorem UnpackR.ok {w w' : World} {l : List Int} {p : Pkt} (h : unpack l = some p) (hx : Ext w w') {a : Option Addr} {c : Nat} (hb : w'.ownsRow w.heap.size 5 1 (.slice a p.body.length c) p.body.length (u8s p.body) ∧ U8s p.body ∧ p.body.length ≤ 1099511627776) :
    UnpackR w l (.returned (.tuple #[.agg #[.int .i64 p.kind, .int .u64 p.tok, .int .u64 p.seq, .int .u64 p.ack, .slice a p.body.length c], .int .i64 0])) w' :=
  ⟨hx, fun h0 => (by rw [h] at h0; cases h0), fun p' hp => (by rw [h] at hp; cases hp; exact ⟨a, c, rfl, hb⟩)⟩
theorem unpack_frame {l : List Int} (h : frameOK l = false) : unpack l = none := by unfold unpack; rw [h]; rfl
theorem unpack_sum {l : List Int} (h : sumOK l = false) : unpack l = none := by unfold unpack; rw [h, Bool.and_false]; rfl
theorem unpack_in {l : List Int} (h : frameOK l = true) (h2 : sumOK l = true) : unpack l = (innerP (inside l)).filter mayP := by unfold unpack; rw [h, h2]; rfl
theorem lenAt_in {l : List Int} (h : U8s l) (h4 : 4 ≤ l.length) : 0 ≤ lenAt l ∧ lenAt l < 65536 := by
  have h2 := h (wd l 2) (List.mem_of_getElem? (get_wd (by omega)))
  have h3 := h (wd l 3) (List.mem_of_getElem? (get_wd (by omega)))
  unfold lenAt
  omega

set_option maxRecDepth 100000 in
set_option maxHeartbeats 2000000 in
theorem Unpack139_frame {w : World} {top : Nat} {a : Option Addr} {c : Nat} {l : List Int} (h : BU w top a c l) (ht : top ≤ w.heap.size) (hf : frameOK l = false) :
    Calls Tryz.prog 139 #[.slice a l.length c] w (UnpackR w l) := by
  have FIN : Hid (∀ w', Ext w w' → UnpackR w l (.returned (.tuple #[zeroP, .int .i64 170])) w') := fun w' hx => UnpackR.bad (unpack_frame hf) hx 170 (by omega) (by omega)
  have BXB : Hid ((w.alloc (.cells #[.int .i64 0, .int .u64 0, .int .u64 0, .int .u64 0, .slice none 0 0] 211)).heap[w.heap.size]? = some (.cells #[.int .i64 0, .int .u64 0, .int .u64 0, .int .u64 0, .slice none 0 0] 211)) := newB w _ _ rfl
  by_cases h8 : l.length < 8
  · clear h hf
    have hi8 : (l.length : Int) < 8 := by omega
    go_enter Tryz.func139, Tryz.ntmps139
    go_wp2_with fail
    (try simp only [Exit.inBlock, Exit.then])
    refine bodyPost_ret (v := .tuple #[zeroP, .int .i64 170]) ?_ rfl (FIN.out _ ?_)
    · rw [results_cell_tmp rfl]
      go_simp
    · repeat' (first | exact Ext.refl _ | refine Ext.setCell ?_ (Nat.le_refl _) _ | refine Ext.alloc ?_ _)
  · have hi8 : ¬ (l.length : Int) < 8 := by omega
    obtain ⟨g, off, rfl, bl, b0⟩ := h.at (i := 0) (get_wd (by omega))
    have b1 := (h.cells rfl).2 1 _ (get_wd (by omega))
    rw [Nat.add_zero] at b0
    have bl2 : g < w.heap.size := Nat.lt_of_lt_of_le bl ht
    have HLEN := Lib.hid (fun W (hE : Ext w W) => length178 (h.ext hE ht) (by omega))
    obtain ⟨n0, n1⟩ := lenAt_in h.u8 (by omega)
    have hbig : l.length ≤ maxLen := Nat.le_trans h.cap h.big
    unfold maxLen at hbig
    have key : ¬ wd l 0 = 239 ∨ (wd l 0 = 239 ∧ ¬ wd l 1 = 30) ∨ (wd l 0 = 239 ∧ wd l 1 = 30 ∧ ¬ (l.length : Int) = lenAt l + 8) := by
      by_cases q0 : wd l 0 = 239 <;> by_cases q1 : wd l 1 = 30 <;> by_cases q2 : (l.length : Int) = lenAt l + 8 <;> simp_all [frameOK]
    clear h hf
    generalize lenAt l = n at *
    generalize wd l 0 = x at *
    generalize wd l 1 = y at *
    rcases key with k0 | ⟨k0, k1⟩ | ⟨k0, k1, k2⟩
    all_goals
      go_enter Tryz.func139, Tryz.ntmps139
      go_wp2_with (go_at_call 178; refine (HLEN.out _ ((Ext.refl w).alloc _)).mono ?_; rintro e w1 ⟨rfl, hE⟩; obtain ⟨b3, b4⟩ := blk (hE.keep BXB.out); have E1 := Lib.hid (((Ext.refl w).alloc _).trans hE); clear hE)
      (try simp only [Exit.inBlock, Exit.then])
      refine bodyPost_ret (v := .tuple #[zeroP, .int .i64 170]) ?_ rfl (FIN.out _ ?_)
      · rw [results_cell_tmp rfl]
        go_simp
      · repeat' (first | exact E1.out | exact Ext.refl _ | refine Ext.setCell ?_ (Nat.le_refl _) _ | refine Ext.alloc ?_ _)
end Go.Proofs.Eff

/- wire.Unpack: behind the head. -/
namespace Go.Proofs.Eff
open Go.RowKit

theorem frameOK_parts {l : List Int} (h : frameOK l = true) : 8 ≤ l.length ∧ wd l 0 = 239 ∧ wd l 1 = 30 ∧ (l.length : Int) = lenAt l + 8 := by
  simp only [frameOK, Bool.and_eq_true, decide_eq_true_eq] at h
  exact ⟨h.1.1.1, h.1.1.2, h.1.2, h.2⟩
theorem sumOK_at {l : List Int} {m : Nat} (hm : l.length = m + 4) : sumOK l = decide (l.drop m = bytes4 (crc (l.take m))) := by
  unfold sumOK
  rw [show l.length - 4 = m by omega]
theorem bytes4_rng {x : Int} (h0 : 0 ≤ x) (h1 : x < 4294967296) : U8s (bytes4 x) := by
  intro y hy
  simp only [bytes4, List.mem_cons, List.not_mem_nil, or_false] at hy
  rcases hy with rfl | rfl | rfl | rfl <;> omega
set_option maxRecDepth 100000 in
set_option maxHeartbeats 2000000 in
theorem Unpack139_sum {w : World} {top : Nat} {a : Option Addr} {c : Nat} {l : List Int} (h : BU w top a c l) (ht : top ≤ w.heap.size) (hf : frameOK l = true) (hb : sumOK l = false) :
    Calls Tryz.prog 139 #[.slice a l.length c] w (UnpackR w l) := by
  have BXB : Hid ((w.alloc (.cells #[.int .i64 0, .int .u64 0, .int .u64 0, .int .u64 0, .slice none 0 0] 211)).heap[w.heap.size]? = some (.cells #[.int .i64 0, .int .u64 0, .int .u64 0, .int .u64 0, .slice none 0 0] 211)) := newB w _ _ rfl
  obtain ⟨h8, q0, q1, q2⟩ := frameOK_parts hf
  obtain ⟨g, off, rfl, bl, b0⟩ := h.at (i := 0) (get_wd (by omega))
  have b1 := (h.cells rfl).2 1 _ (get_wd (by omega))
  rw [Nat.add_zero] at b0
  have bl2 : g < w.heap.size := Nat.lt_of_lt_of_le bl ht
  have HLEN := Lib.hid (fun W (hE : Ext w W) => length178 (h.ext hE ht) (by omega))
  obtain ⟨n0, n1⟩ := lenAt_in h.u8 (by omega)
  obtain ⟨m, hm⟩ : ∃ m, l.length = m + 4 := ⟨l.length - 4, by omega⟩
  have hcap := h.cap
  have hmx : m ≤ 9223372036854775803 := by have := h.big; unfold maxLen at this; omega
  have HSUM : Hid (∀ W, Ext w W → Calls Tryz.prog 179 #[.slice (some ⟨g, off, none⟩) m c] W fun e w' => e = .returned (.int .u32 (crc (l.take m))) ∧ w' = W) := fun W hE => by
    have := sum179 ((h.ext hE ht).front m (by omega))
    rwa [List.length_take, Nat.min_eq_left (by omega)] at this
  have BT : Hid (∀ W, Ext w W → BytesV W (.slice (some ⟨g, off + m, none⟩) 4 (c - m)) (l.drop m)) := fun W hE => by
    have := ((h.ext hE ht).rest_ne (lo := m) (by omega) (by omega)).bytesV (Nat.le_trans ht hE.size) (.inl (by rw [List.length_drop]; omega))
    rw [List.length_drop, hm, Nat.add_sub_cancel_left] at this
    simpa [Addr.add_lit] using this
  have UD := Lib.hid (show U8s (l.drop m) from fun x hx => h.u8 x (List.mem_of_mem_drop hx))
  obtain ⟨s0, s1⟩ := crc_in (l.take m)
  have S4 := Lib.hid (bytes4_rng s0 s1)
  have BI : Hid (∀ W, Ext w W → BU W top (some ⟨g, off + 4, none⟩) (c - 4) (inside l)) := fun W hE => by
    have := (h.ext hE ht).sub 4 m (by omega) (by omega)
    rw [if_neg (by omega)] at this
    simp only [Option.map_some, Nat.mul_one, Addr.add_lit] at this
    unfold inside
    rwa [show l.length - 4 = m by omega]
  have LI : Hid ((inside l).length = m - 4) := by show _ = _; simp [inside]; omega
  have HS : Hid (sumOK l = decide (l.drop m = bytes4 (crc (l.take m)))) := sumOK_at hm
  have FIN1 : Hid (sumOK l = false → ∀ w', Ext w w' → UnpackR w l (.returned (.tuple #[zeroP, .int .i64 171])) w') := fun hs w' hx => UnpackR.bad (unpack_sum hs) hx 171 (by omega) (by omega)
  have FIN2 : Hid (sumOK l = true → unpack l = (innerP (inside l)).filter mayP) := fun hs => unpack_in hf hs
  rw [hm] at hcap HLEN q2 ⊢
  have hmi : (m : Int) + 4 = lenAt l + 8 := by omega
  rw [q0] at b0
  rw [q1] at b1
  clear h hf q2 hm q0 q1
  generalize crc (l.take m) = s at *
  generalize lenAt l = n at *
  have hq : ((m : Int) + 4 != n + 4 + 4) = false := by simp; omega
  have hcm : ¬ c = m := by omega
  have hm0 : ¬ m = 0 := by omega
  have hm8 : ¬ (m : Int) + 4 < 8 := by omega
  clear hmi
  have NW : Hid (∀ W : World, BytesV (W.alloc (.cells #[.int .u8 (s % 256), .int .u8 (s / 256 % 256), .int .u8 (s / 65536 % 256), .int .u8 (s / 16777216)] 5)) (.slice (some ⟨W.heap.size, 0, none⟩) 4 4) (bytes4 s)) := fun W =>
    .inr ⟨⟨W.heap.size, 0, none⟩, 4, rfl, row_read (World.ownsRow_lit (base := 0) W #[.int .u8 (s % 256), .int .u8 (s / 256 % 256), .int .u8 (s / 65536 % 256), .int .u8 (s / 16777216)] 4 (Nat.zero_le _) (by unfold maxLen; omega) rfl), by simp⟩
  have HS2 : Hid (decide (l.drop m = bytes4 s) = false) := HS.out.symm.trans hb
  have FIN := Lib.hid (FIN1.out hb)
  clear hb FIN1 FIN2
  go_enter Tryz.func139, Tryz.ntmps139
  go_upto_region 3 with ((go_at_call 178; refine (HLEN.out _ ((Ext.refl w).alloc _)).mono ?_; rintro e w1 ⟨rfl, hE⟩; obtain ⟨b3, b4⟩ := blk (hE.keep BXB.out); have BXX := Lib.hid (hE.keep BXB.out); have E1 := Lib.hid (((Ext.refl w).alloc _).trans hE); clear hE))
  go_upto_region 5 with (go_at_call 179; refine (HSUM.out _ E1.out).mono ?_; rintro e w2 ⟨rfl, rfl⟩)
  go_wp2_with (go_at_call 180; refine (equal180 (BT.out _ (E1.out.alloc _)) (NW.out _) UD.out S4.out).mono ?_; rintro e w3 ⟨rfl, rfl⟩; obtain ⟨b5, b6⟩ := blk (keepB BXX.out (.cells #[.int .u8 (s % 256), .int .u8 (s / 256 % 256), .int .u8 (s / 65536 % 256), .int .u8 (s / 16777216)] 5)); rw [HS2.out])
  (try simp only [Exit.inBlock, Exit.then])
  refine bodyPost_ret (v := .tuple #[zeroP, .int .i64 171]) ?_ rfl (FIN.out _ ?_)
  · rw [results_cell_tmp rfl]
    go_simp
  · repeat' (first | exact E1.out | exact Ext.refl _ | refine Ext.setCell ?_ (Nat.le_refl _) _ | refine Ext.alloc ?_ _)
end Go.Proofs.Eff

/- The document's Unpack: the head. -/
namespace Go.Proofs.Eff
open Go.RowKit

set_option maxRecDepth 100000 in
set_option maxHeartbeats 8000000 in
theorem Unpack98_frame {w : World} {top : Nat} {a : Option Addr} {c : Nat} {l : List Int} (h : BU w top a c l) (ht : top ≤ w.heap.size) (hf : frameOK l = false) :
    Calls Tryz.prog 98 #[.slice a l.length c] w (UnpackR w l) := by
  have FIN : Hid (∀ w', Ext w w' → UnpackR w l (.returned (.tuple #[zeroP, .int .i64 170])) w') := fun w' hx => UnpackR.bad (unpack_frame hf) hx 170 (by omega) (by omega)
  by_cases h8 : l.length < 8
  · clear h hf
    have hd8 : decide ((l.length : Int) < 8) = true := by simp; omega
    clear h8
    go_enter Tryz.func98, Tryz.ntmps98
    go_wp2_with fail
    go_quiet (fail)
    go_wp2
    (try simp only [Exit.inBlock, Exit.then])
    refine bodyPost_ret (v := .tuple #[zeroP, .int .i64 170]) ?_ rfl (FIN.out _ ?_)
    · rw [results_cell_tmp rfl]
      go_simp
    · repeat' (first | exact Ext.refl _ | refine Ext.setCell ?_ (Nat.le_refl _) _ | refine Ext.alloc ?_ _ | refine Ext.drewN ?_ _)
  · have hi8 : ¬ (l.length : Int) < 8 := by omega
    obtain ⟨g, off, rfl, bl, b0⟩ := h.at (i := 0) (get_wd (by omega))
    have b1 := (h.cells rfl).2 1 _ (get_wd (by omega))
    have b2 := (h.cells rfl).2 2 _ (get_wd (by omega))
    have b3 := (h.cells rfl).2 3 _ (get_wd (by omega))
    rw [Nat.add_zero] at b0
    have bl2 : g < w.heap.size := Nat.lt_of_lt_of_le bl ht
    obtain ⟨x0, x1⟩ := h.u8 (wd l 2) (List.mem_of_getElem? (get_wd (by omega)))
    obtain ⟨y0, y1⟩ := h.u8 (wd l 3) (List.mem_of_getElem? (get_wd (by omega)))
    have hbig := h.small
    have l0 : 0 < l.length := by omega
    have lne : l ≠ [] := List.length_pos_iff.1 l0
    have l1 : (1 : Int) < (l.length : Int) := by omega
    have l2 : (2 : Int) < (l.length : Int) := by omega
    have l3 : (3 : Int) < (l.length : Int) := by omega
    have key : ¬ wd l 0 = 239 ∨ (wd l 0 = 239 ∧ ¬ wd l 1 = 30) ∨ (wd l 0 = 239 ∧ wd l 1 = 30 ∧ ¬ wd l 2 + 256 * wd l 3 = (l.length : Int) - 8) := by
      by_cases q0 : wd l 0 = 239 <;> by_cases q1 : wd l 1 = 30 <;> by_cases q2 : wd l 2 + 256 * wd l 3 = (l.length : Int) - 8
      · exfalso
        have : frameOK l = true := by
          unfold frameOK lenAt
          rw [decide_eq_true (show 8 ≤ l.length by omega), decide_eq_true q0, decide_eq_true q1, decide_eq_true (show (l.length : Int) = wd l 2 + 256 * wd l 3 + 8 by omega)]
          rfl
        rw [this] at hf
        cases hf
      all_goals simp_all
    clear h hf
    generalize wd l 0 = z0 at *
    generalize wd l 1 = z1 at *
    generalize wd l 2 = x at *
    generalize wd l 3 = y at *
    have r1 : IntKind.i64.wrap (256 * y) = 256 * y := IntWalk.i64_in _ (by omega)
    have r2 : IntKind.i64.wrap (x + 256 * y) = x + 256 * y := IntWalk.i64_in _ (by omega)
    have r3 : IntKind.i64.wrap ((l.length : Int) - 8) = (l.length : Int) - 8 := IntWalk.i64_in _ (by omega)
    rcases key with k0 | ⟨k0, k1⟩ | ⟨k0, k1, k2⟩
    · have k0b : (z0 != 239) = true := by simp [k0]
      have hd8 : decide ((l.length : Int) < 8) = false := by simp; omega
      clear k0 hi8 r1 r2 r3 x0 x1 y0 y1 hbig h8 b1 b2 b3 l1 l2 l3
      go_enter Tryz.func98, Tryz.ntmps98
      go_wp2_with fail
      go_quiet (fail)
      go_wp2
      (try simp only [Exit.inBlock, Exit.then])
      refine bodyPost_ret (v := .tuple #[zeroP, .int .i64 170]) ?_ rfl (FIN.out _ ?_)
      · rw [results_cell_tmp rfl]
        go_simp
      · repeat' (first | exact Ext.refl _ | refine Ext.setCell ?_ (Nat.le_refl _) _ | refine Ext.alloc ?_ _ | refine Ext.drewN ?_ _)
    · have k1b : (z1 != 30) = true := by simp [k1]
      subst k0
      have hd8 : decide ((l.length : Int) < 8) = false := by simp; omega
      clear k1 hi8 r1 r2 r3 x0 x1 y0 y1 hbig h8 b2 b3 l2 l3
      go_enter Tryz.func98, Tryz.ntmps98
      go_wp2_with fail
      go_quiet (fail)
      go_wp2
      (try simp only [Exit.inBlock, Exit.then])
      refine bodyPost_ret (v := .tuple #[zeroP, .int .i64 170]) ?_ rfl (FIN.out _ ?_)
      · rw [results_cell_tmp rfl]
        go_simp
      · repeat' (first | exact Ext.refl _ | refine Ext.setCell ?_ (Nat.le_refl _) _ | refine Ext.alloc ?_ _ | refine Ext.drewN ?_ _)
    · have k2b : (x + 256 * y != (l.length : Int) - 8) = true := by simpa using k2
      subst k0
      subst k1
      have hd8 : decide ((l.length : Int) < 8) = false := by simp; omega
      clear k2 hi8 hbig h8
      go_enter Tryz.func98, Tryz.ntmps98
      go_wp2_with fail
      go_quiet (fail)
      go_wp2
      (try simp only [Exit.inBlock, Exit.then])
      refine bodyPost_ret (v := .tuple #[zeroP, .int .i64 170]) ?_ rfl (FIN.out _ ?_)
      · rw [results_cell_tmp rfl]
        go_simp
      · repeat' (first | exact Ext.refl _ | refine Ext.setCell ?_ (Nat.le_refl _) _ | refine Ext.alloc ?_ _ | refine Ext.drewN ?_ _)
end Go.Proofs.Eff

/- A row of packets. -/
namespace Go.Proofs.Eff
open Go.RowKit

/-- A packet, and the slice of its body. -/
abbrev Pk := Pkt × Option Addr × Nat
def pkC (x : Pk) : List Value := [.int .i64 x.1.kind, .int .u64 x.1.tok, .int .u64 x.1.seq, .int .u64 x.1.ack, .slice x.2.1 x.1.body.length x.2.2]
def pksC (l : List Pk) : List Value := l.flatMap pkC
theorem pksC_append (l m : List Pk) : pksC (l ++ m) = pksC l ++ pksC m := by simp [pksC]
theorem pksC_length (l : List Pk) : (pksC l).length = l.length * 5 := by
  induction l with
  | nil => rfl
  | cons x l ih =>
    have : pksC (x :: l) = pkC x ++ pksC l := rfl
    rw [this, List.length_append, ih]
    simp only [pkC, List.length_cons, List.length_nil]
    omega
theorem pksC_get {l : List Pk} {k : Nat} {x : Pk} (h : l[k]? = some x) (j : Nat) (hj : j < 5) : (pksC l)[k * 5 + j]? = (pkC x)[j]? := by
  induction l generalizing k with
  | nil => simp at h
  | cons y l ih =>
    have e : pksC (y :: l) = pkC y ++ pksC l := rfl
    have hl : (pkC y).length = 5 := rfl
    rw [e]
    cases k with
    | zero =>
      simp only [List.getElem?_cons_zero, Option.some.injEq] at h
      subst h
      rw [Nat.zero_mul, Nat.zero_add, List.getElem?_append_left (by omega)]
    | succ k =>
      simp only [List.getElem?_cons_succ] at h
      rw [List.getElem?_append_right (by omega), hl, show (k + 1) * 5 + j - 5 = k * 5 + j by omega]
      exact ih h
/-- A body lies in a row of its own. -/
structure BodyAt (w : World) (x : Pk) : Prop where
  row : w.ownsRow 0 5 1 (.slice x.2.1 x.1.body.length x.2.2) x.1.body.length (u8s x.1.body)
  u8 : U8s x.1.body
  small : x.1.body.length ≤ 1099511627776
  k0 : -9223372036854775808 ≤ x.1.kind ∧ x.1.kind < 9223372036854775808
  t0 : 0 ≤ x.1.tok ∧ x.1.tok < 18446744073709551616
  s0 : 0 ≤ x.1.seq ∧ x.1.seq < 18446744073709551616
  a0 : 0 ≤ x.1.ack ∧ x.1.ack < 18446744073709551616
/-- Packets lie in a row. -/
structure PksAt (w : World) (base : Nat) (v : Value) (ps : List Pk) : Prop where
  row : w.ownsRow base 211 5 v ps.length (pksC ps)
  ok : ∀ x, x ∈ ps → BodyAt w x
theorem PksAt.nil (w : World) (base : Nat) : PksAt w base (.slice none 0 0) [] := ⟨⟨rfl, .inl ⟨rfl, rfl⟩⟩, fun _ h => (by cases h)⟩
theorem BodyAt.ext {w w' : World} {x : Pk} (h : BodyAt w x) (hx : Ext w w') : BodyAt w' x := ⟨row_keep h.row hx, h.u8, h.small, h.k0, h.t0, h.s0, h.a0⟩
theorem PksAt.ext {w w' : World} {base : Nat} {v : Value} {ps : List Pk} (h : PksAt w base v ps) (hx : Ext w w') : PksAt w' base v ps := ⟨row_keep h.row hx, fun x hm => (h.ok x hm).ext hx⟩
/-- A row of bytes stays where a row of another kind grew. -/
theorem own_other {w w' : World} {base b e e' size size' n m : Nat} {v v' : Value} {xs ys : List Value} (h : w.ownsRow b e size v n xs) (hr : w.ownsRow base e' size' v' m ys) (hg : w.grownBy w' v'.ownBlock) (he : e ≠ e') : w'.ownsRow b e size v n xs :=
  h.kept hg (by
    rcases h.2 with ⟨h6, _⟩ | ⟨g2, cap2, cur2, h6, _, h7, _⟩
    · exact .inl (by rw [h6]; rfl)
    · right
      rcases hr.2 with ⟨h4, _⟩ | ⟨g', cap', cur, h4, _, h5, _⟩
      · rw [h4, h6]; simp [Value.ownBlock]
      · rw [h4, h6]
        intro e1
        simp only [Value.ownBlock, Option.some.injEq] at e1
        subst e1
        rw [h5] at h7
        simp only [Option.some.injEq, Obj.cells.injEq] at h7
        exact he h7.2.1.symm)
theorem PksAt.snoc {w w' : World} {base : Nat} {v v' : Value} {ps : List Pk} {x : Pk} (h : PksAt w base v ps) (hx : BodyAt w x) (hown : w'.ownsRow base 211 5 v' (ps.length + 1) (pksC ps ++ pkC x)) (hg : w.grownBy w' v.ownBlock) : PksAt w' base v' (ps ++ [x]) := by
  have keep : ∀ y, BodyAt w y → BodyAt w' y := fun y hy => ⟨own_other hy.row h.row hg (by decide), hy.u8, hy.small, hy.k0, hy.t0, hy.s0, hy.a0⟩
  refine ⟨?_, fun y hy => ?_⟩
  · rw [pksC_append, List.length_append]
    have : pksC [x] = pkC x := by simp [pksC]
    rw [this]
    exact hown
  · rcases List.mem_append.1 hy with h1 | h1
    · exact keep y (h.ok y h1)
    · simp only [List.mem_cons, List.not_mem_nil, or_false] at h1
      subst h1
      exact keep _ hx
end Go.Proofs.Eff

/- The session's small functions; slices.Equal and Clone of bytes. -/
namespace Go.Proofs.Eff
open Go.RowKit

/-- A session's cells. -/
abbrev sesC (rb : Nat) (tok most : Int) (ra : Option Addr) (rn rc mb : Nat) (ev : Int) : Array Value := #[.pointer (some ⟨rb, 0, none⟩), .int .u64 tok, .int .u64 most, .slice ra rn rc, .map (some mb), .int .u64 ev]
set_option maxRecDepth 100000 in
set_option maxHeartbeats 1000000 in
theorem applied184 {w : World} {sb rb rn rc mb : Nat} {tok most ev : Int} {ra : Option Addr} (h : w.heap[sb]? = some (.cells (sesC rb tok most ra rn rc mb ev) 198)) (hn : rn ≤ 1099511627776) :
    Calls Tryz.prog 184 #[.pointer (some ⟨sb, 0, none⟩)] w fun e w' => e = .returned (.int .u64 (rn : Int)) ∧ w' = w := by
  obtain ⟨b1, b2⟩ := blk h
  have r1 : IntKind.u64.wrap (rn : Int) = rn := wrap_u64_in (by omega) (by omega)
  clear h hn
  go_enter Tryz.func184, Tryz.ntmps184
  go_wp2_with fail
  go_ret
  exact ⟨rfl, rfl⟩
set_option maxRecDepth 100000 in
set_option maxHeartbeats 1000000 in
theorem ours185 {w : World} {sb rb rn rc mb : Nat} {tok most ev : Int} {ra : Option Addr} (h : w.heap[sb]? = some (.cells (sesC rb tok most ra rn rc mb ev) 198)) (k t s q : Int) (a : Option Addr) (n c : Nat) :
    Calls Tryz.prog 185 #[.pointer (some ⟨sb, 0, none⟩), .agg #[.int .i64 k, .int .u64 t, .int .u64 s, .int .u64 q, .slice a n c]] w fun e w' => e = .returned (.bool (decide (tok ≠ 0 ∧ t = tok))) ∧ Ext w w' := by
  have hlt := lt_of_block h
  obtain ⟨b1, b2⟩ := blk (keepB h (.cells #[.int .i64 k, .int .u64 t, .int .u64 s, .int .u64 q, .slice a n c] 211))
  obtain ⟨d1, d2⟩ := blk (newB w (.cells #[.int .i64 k, .int .u64 t, .int .u64 s, .int .u64 q, .slice a n c] 211) _ rfl)
  have EX : Hid (Ext w (w.alloc (.cells #[.int .i64 k, .int .u64 t, .int .u64 s, .int .u64 q, .slice a n c] 211))) := (Ext.refl w).alloc _
  clear h
  go_enter Tryz.func185, Tryz.ntmps185
  go_wp2_with fail
  generalize w.alloc (.cells #[.int .i64 k, .int .u64 t, .int .u64 s, .int .u64 q, .slice a n c] 211) = w1 at *
  by_cases h0 : tok = 0
  · have h1 : (tok != 0) = false := by simp [h0]
    have RES : Hid (decide (tok ≠ 0 ∧ t = tok) = false) := by show _ = _; simp [h0]
    clear h0
    go_quiet (fail)
    go_wp2
    go_ret
    rw [RES.out]
    exact ⟨rfl, EX.out.drewN _⟩
  · have h1 : (tok != 0) = true := by simp [h0]
    have RES : Hid (decide (tok ≠ 0 ∧ t = tok) = (t == tok)) := by show _ = _; by_cases ht : t = tok <;> simp [h0, ht]
    clear h0
    go_quiet (fail)
    go_wp2
    go_ret
    rw [RES.out]
    exact ⟨rfl, EX.out.drewN _⟩
theorem find60s (w : World) (k i : Int) : Calls Tryz.prog 60 #[.int .i64 k, .int .i64 i] w fun e w' => e = .returned (.agg #[.int .i64 k, .int .i64 i]) ∧ Ext w w' := by
  go_enter Tryz.func60, Tryz.ntmps60
  go_wp2
  exact bodyPost_ret (v := .agg #[.int .i64 k, .int .i64 i]) (by simp [results, Tryz.results60, go_sem]) rfl ⟨rfl, (Ext.refl _).alloc _⟩
set_option maxRecDepth 100000 in
set_option maxHeartbeats 4000000 in
theorem Equal187 {w : World} {top top' : Nat} {a b : Option Addr} {c d : Nat} {l m : List Int} (h1 : BU w top a c l) (h2 : BU w top' b d m) (t1 : top ≤ w.heap.size) (t2 : top' ≤ w.heap.size) :
    Calls Tryz.prog 187 #[.slice a l.length c, .slice b m.length d] w fun e w' => e = .returned (.bool (decide (l = m))) ∧ Ext w w' := by
  have hs1 := h1.small
  have hs2 := h2.small
  by_cases hl : l.length = m.length
  · have hne : ((l.length : Int) != (m.length : Int)) = false := by simp [hl]
    have HL := Lib.hid hl
    have U1 := Lib.hid (fun W (hE : Ext w W) => h1.ext hE t1)
    have U2 := Lib.hid (fun W (hE : Ext w W) => h2.ext hE t2)
    clear h1 h2 hl
    go_enter Tryz.func187, Tryz.ntmps187
    go_wp2_with fail
    go_loopw [13] (fun i wr => ∃ k : Nat, k ≤ l.length ∧ i = .int .i64 k ∧ Ext w wr ∧ ∀ j, j < k → l[j]? = m[j]?) (fun i _ => l.length - (intOf i).toNat)
    case atStart => exact ⟨0, Nat.zero_le _, rfl, Ext.refl _, fun j hj => absurd hj (Nat.not_lt_zero _)⟩
    case round =>
      obtain ⟨k, hk, rfl, hE, heq⟩ := hrel
      have EW := Lib.hid hE
      have HEQ := Lib.hid heq
      clear hE heq
      by_cases hlt : k < l.length
      · obtain ⟨x, hx⟩ : ∃ x, l[k]? = some x := ⟨l[k], by simp [hlt]⟩
        obtain ⟨y, hy⟩ : ∃ y, m[k]? = some y := ⟨m[k]'(by have := HL.out; omega), by simp [show k < m.length by have := HL.out; omega]⟩
        obtain ⟨g, off, ha, _, b1⟩ := (U1.out wr EW.out).at hx
        obtain ⟨g', off', hb, _, b2⟩ := (U2.out wr EW.out).at hy
        subst ha
        subst hb
        have i1 : (k : Int) < (l.length : Int) := by omega
        have i2 : (k : Int) < (m.length : Int) := by have := HL.out; omega
        have HX := Lib.hid hx
        have HY := Lib.hid hy
        clear hx hy
        go_upto_region 6 with fail
        by_cases hxy : x = y
        · have hb1 : (x != y) = false := by simp [hxy]
          have HXY := Lib.hid hxy
          clear hxy
          go_quiet (fail)
          go_wp2
          exact ⟨⟨k + 1, by omega, by go_num, EW.out.drewN _, fun j hj => by
            by_cases h6 : j < k
            · exact HEQ.out j h6
            · obtain rfl : j = k := by omega
              rw [HX.out, HY.out, HXY.out]⟩, by simp only [intOf]; omega⟩
        · have hb1 : (x != y) = true := by simp [hxy]
          have RES : Hid (decide (l = m) = false) := decide_eq_false (fun e => by have h7 := HX.out; rw [e, HY.out] at h7; exact hxy (Option.some.inj h7).symm)
          clear hxy
          go_quiet (fail)
          go_wp2
          go_ret
          rw [RES.out]
          exact ⟨rfl, EW.out.drewN _⟩
      · obtain rfl : k = l.length := by omega
        have RES : Hid (decide (l = m) = true) := decide_eq_true (by
          apply List.ext_getElem?
          intro i
          by_cases hi : i < l.length
          · exact HEQ.out i hi
          · rw [List.getElem?_eq_none (by omega), List.getElem?_eq_none (by have := HL.out; omega)])
        go_wp2
        go_ret
        rw [RES.out]
        exact ⟨rfl, EW.out⟩
  · have hne : ((l.length : Int) != (m.length : Int)) = true := by simp; omega
    have RES : Hid (decide (l = m) = false) := decide_eq_false (fun e => hl (by rw [e]))
    clear hl h1 h2
    go_enter Tryz.func187, Tryz.ntmps187
    go_wp2_with fail
    go_ret
    rw [RES.out]
    exact ⟨rfl, Ext.refl _⟩
/-- A clone of bytes lies in a row of its own. -/
def ByClR (w : World) (_a : Option Addr) (l : List Int) (e : Ending) (w' : World) : Prop :=
  ∃ a' c', e = .returned (.slice a' l.length c') ∧ w'.ownsRow w.heap.size 5 1 (.slice a' l.length c') l.length (u8s l) ∧ Ext w w'
set_option maxRecDepth 100000 in
set_option maxHeartbeats 4000000 in
theorem Clone188 {w : World} {top c : Nat} {a : Option Addr} {l : List Int} (h : BU w top a c l) (ht : top ≤ w.heap.size) : Calls Tryz.prog 188 #[.slice a l.length c] w (ByClR w a l) := by
  cases a with
  | none =>
    obtain rfl : c = 0 := h.nil0 rfl
    have h0 := h.cap
    obtain rfl : l = [] := List.eq_nil_of_length_eq_zero (by omega)
    have hnil : ∀ w, (binOp .eql 37 (.slice none 0 0) (.slice none 0 0)).run Tryz.prog w = .ok (.bool true) w := fun w => by rw [Lib.run_eql_slice_nil (P := Tryz.prog) w 37 5 _ _ _ _ _ Tryz.underlying37]; rfl
    clear h h0
    go_enter Tryz.func188, Tryz.ntmps188
    go_wp2_with fail
    go_ret
    exact ⟨none, 0, rfl, ⟨rfl, .inl ⟨rfl, rfl⟩⟩, Ext.refl _⟩
  | some ad =>
    have hs := h.small
    have HU := Lib.hid h
    obtain ⟨i5, hi, hz0, hz1, hz3⟩ := info_parts Tryz.cinfo5
    have NW := Lib.hid (World.ownsRow_lit (base := w.heap.size) (e := 5) (size := 1) w #[] 0 (Nat.le_refl _) (Nat.zero_le _) rfl)
    have NEWS : Hid (∀ j u, (u8s l)[j]? = some u → (w.alloc (.cells #[] 5)).cell? (ad.add j) = some u) := fun j u hj => by
      simp only [u8s, List.getElem?_map, Option.map_eq_some_iff] at hj
      obtain ⟨x, hx, rfl⟩ := hj
      obtain ⟨g, off, e1, _, e3⟩ := (h.ext ((Ext.refl w).alloc (.cells #[] 5)) ht).row ad rfl (by have := h.cap; have := (List.getElem?_eq_some_iff.1 hx).1; omega)
      subst e1
      rw [Addr.add_lit]
      exact e3 j x hx
    have hnil : ∀ w, (binOp .eql 37 (.slice (some ad) l.length c) (.slice none 0 0)).run Tryz.prog w = .ok (.bool false) w := fun w => by rw [Lib.run_eql_slice_nil (P := Tryz.prog) w 37 5 _ _ _ _ _ Tryz.underlying37]; rfl
    clear h
    go_enter Tryz.func188, Tryz.ntmps188
    go_wp2_with (at_builtin; (refine wpList_append_own _ rfl _ _ 37 rfl w.heap.size 5 i5 (.int .u8 0) 1 1 Tryz.underlying37 hi hz0 hz1 hz3 rfl (by decide) _ 0 [] rfl NW.out ad l.length c (u8s l) rfl (by simp) NEWS.out (u8s_one _) (by unfold maxLen; omega) (by omega) (by simp) ?_; intro v' w3 hown hgrow hnil2; rw [Nat.zero_add] at hown; obtain ⟨ad3, c3, rfl, _⟩ := own_any hown; have E3 : Hid (Ext w w3) := ((Ext.refl w).alloc _).grown (show World.grownBy _ w3 (some w.heap.size) from hgrow) (fun q hq => Nat.le_of_eq (Option.some.inj hq)); have R3 := Lib.hid hown; clear hown hgrow hnil2))
    go_ret
    exact ⟨ad3, c3, rfl, R3.out, E3.out⟩
end Go.Proofs.Eff
