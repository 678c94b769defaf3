/- audit: fits, issue; slices.Equal of uint64. -/
import Derived.Test.YtaggadjiefgpoaaGreatDoorHa02
import Derived.Test.YtaggadjiefgpoaaGreatDoorHa25
import Derived.Test.YtaggadjiefgpoaaGreatDoorHa19
namespace Go.Proofs.Eff
open Go.RowKit

set_option maxHeartbeats 400000 in
theorem fits119 (n : Int) (w : World) : Calls Tryz.prog 119 #[.int .i64 n] w fun e w' => e = .returned (.bool (fitsB n)) ∧ w = w' := by
  unfold fitsB
  by_cases h1 : 1 ≤ n
  · by_cases h2 : n ≤ 1000000
    · have e : (decide (1 ≤ n) && decide (n ≤ 1000000)) = true := by simp [h1, h2]
      rw [e]
      go_enter Tryz.func119, Tryz.ntmps119
      go_wp2
      go_ret
      exact ⟨rfl, rfl⟩
    · have e : (decide (1 ≤ n) && decide (n ≤ 1000000)) = false := by simp [h2]
      rw [e]
      have h3 : 1000000 < n := by omega
      go_enter Tryz.func119, Tryz.ntmps119
      go_wp2
      go_ret
      exact ⟨rfl, rfl⟩
  · have e : (decide (1 ≤ n) && decide (n ≤ 1000000)) = false := by simp [h1]
    rw [e]
    have h3 : n < 1 := by omega
    go_enter Tryz.func119, Tryz.ntmps119
    go_wp2
    go_ret
    exact ⟨rfl, rfl⟩

def AnsR (w : World) (tb mb : Nat) (r : TabS × Bool) (e : Ending) (w' : World) : Prop := e = .returned (.bool r.2) ∧ TabAt w' tb mb r.1 ∧ Mod [tb, mb] w w'
theorem AnsR.same {w w' : World} {tb mb : Nat} {t : TabS} {b : Bool} {e : Ending} (ht : TabAt w tb mb t) (hE : Ext w w') (he : e = .returned (.bool b)) : AnsR w tb mb (t, b) e w' := ⟨he, ht.keep hE, hE.mod _⟩
theorem ret_bool {a b : Bool} (h : a = b) : Ending.returned (.bool a) = .returned (.bool b) := by rw [h]

theorem under140 : Tryz.prog.underlying 140 = some (.map (Tryz.prog.mapKeyOf 140) (Tryz.prog.mapElemOf 140)) := by kernel_rfl

set_option maxRecDepth 100000 in
set_option maxHeartbeats 2000000 in
theorem issue118 {w : World} {tb mb : Nat} {t : TabS} (ht : TabAt w tb mb t) (ok : TabOK t) (a : HAct) (ad : Option Addr) (c : Nat) :
    Calls Tryz.prog 118 #[.pointer (some ⟨tb, 0, none⟩), .agg (actC a ad c)] w (AnsR w tb mb (issueF t a)) := by
  obtain ⟨kind, id, n, ser, ids, err⟩ := a
  have HT := Lib.hid ht
  have hne := ht.ne
  have hlt := lt_of_block ht.blk
  have HFT := Lib.hid (fun W => fits119 n W)
  unfold actC
  simp only
  generalize ids.length = il at *
  unfold issueF
  simp only
  obtain ⟨k1, k2⟩ := blk ht.blk
  have B1 : ∀ W, Ext w W → _ := fun W hE => (blk ((ht.keep hE).blk)).1
  have LEN := Lib.hid (fun W (hE : Ext w W) ty => (ht.map.keep hE).len (P := Tryz.prog) under140 ty)
  by_cases h1 : err = 3
  · have q1 : (err == 3) = true := by simpa using h1
    rw [if_pos h1]
    clear ht B1 h1
    go_enter Tryz.func118, Tryz.ntmps118
    go_wp2
    go_ret
    exact AnsR.same HT.out ((Ext.refl _).alloc _) rfl
  rw [if_neg h1]
  have q1 : (err == 3) = false := by simpa using h1
  by_cases h2 : fitsB n = false
  · rw [if_pos h2]
    rw [h2] at HFT
    clear ht B1 h1 h2
    by_cases e1 : err = 162
    · have q2 : (err == 162) = true := by simpa using e1
      rw [q2]
      clear e1
      go_enter Tryz.func118, Tryz.ntmps118
      go_wp2_with (go_at_call 119; refine (HFT.out _).mono ?_; rintro e w' ⟨rfl, rfl⟩)
      go_ret
      exact AnsR.same HT.out ((Ext.refl _).alloc _) rfl
    · have q2 : (err == 162) = false := by simpa using e1
      rw [q2]
      clear e1
      go_enter Tryz.func118, Tryz.ntmps118
      go_wp2_with (go_at_call 119; refine (HFT.out _).mono ?_; rintro e w' ⟨rfl, rfl⟩)
      go_ret
      exact AnsR.same HT.out ((Ext.refl _).alloc _) rfl
  rw [if_neg h2]
  have h2' : fitsB n = true := by simpa using h2
  rw [h2'] at HFT
  have h2f := Lib.hid h2'
  clear h1 h2 h2' B1 LEN
  have LEN : Hid (∀ W, Ext w W → W.cell? ⟨tb, 0, none⟩ = some (.int .i64 t.cap) ∧ W.cell? ⟨tb, 1, none⟩ = some (.map (some mb)) ∧ ∀ ty, (Builtin.len_ #[140] ty #[.map (some mb)]).run Tryz.prog W = .ok (.int .i64 (t.live.length : Int)) W) := by
    intro W hE
    obtain ⟨z1, _⟩ := blk (ht.keep hE).blk
    refine ⟨by rw [z1]; rfl, by rw [z1]; rfl, fun ty => ?_⟩
    have := (ht.map.keep hE).len (P := Tryz.prog) under140 ty
    rw [encL_length] at this; exact this
  have hl1 := ok.len
  have hcp := ok.cap1
  by_cases h3 : (t.live.length : Int) = t.cap
  · rw [if_pos h3]
    have q3 : ((t.live.length : Int) == t.cap) = true := by simpa using h3
    clear h3 ht
    by_cases e1 : err = 161
    · have q4 : (err == 161) = true := by simpa using e1
      rw [q4]
      clear e1
      go_enter Tryz.func118, Tryz.ntmps118
      go_wp2_with (go_at_call 119; refine (HFT.out _).mono ?_; rintro e w' ⟨rfl, rfl⟩)
      go_region_held3 (fun W => W.cell? ⟨tb, 0, none⟩ = some (.int .i64 t.cap) ∧ W.cell? ⟨tb, 1, none⟩ = some (.map (some mb)) ∧ ∀ ty, (Builtin.len_ #[140] ty #[.map (some mb)]).run Tryz.prog W = .ok (.int .i64 (t.live.length : Int)) W) (first | exact LEN.out _ ((Ext.refl _).alloc _) | exact LEN.out _ ((Ext.refl _).alloc _).drew) (fail)
      go_wp2
      go_ret
      exact AnsR.same HT.out (((Ext.refl _).alloc _).drew) rfl
    · have q4 : (err == 161) = false := by simpa using e1
      rw [q4]
      clear e1
      go_enter Tryz.func118, Tryz.ntmps118
      go_wp2_with (go_at_call 119; refine (HFT.out _).mono ?_; rintro e w' ⟨rfl, rfl⟩)
      go_region_held3 (fun W => W.cell? ⟨tb, 0, none⟩ = some (.int .i64 t.cap) ∧ W.cell? ⟨tb, 1, none⟩ = some (.map (some mb)) ∧ ∀ ty, (Builtin.len_ #[140] ty #[.map (some mb)]).run Tryz.prog W = .ok (.int .i64 (t.live.length : Int)) W) (first | exact LEN.out _ ((Ext.refl _).alloc _) | exact LEN.out _ ((Ext.refl _).alloc _).drew) (fail)
      go_wp2
      go_ret
      exact AnsR.same HT.out (((Ext.refl _).alloc _).drew) rfl
  rw [if_neg h3]
  have q3 : ((t.live.length : Int) == t.cap) = false := by simpa using h3
  clear h3
  by_cases h4 : t.next = 0
  · rw [if_pos h4]
    have q5 : (t.next == 0) = true := by simpa using h4
    clear h4 ht
    by_cases e1 : err = 163
    · have q4 : (err == 163) = true := by simpa using e1
      rw [q4]
      clear e1
      go_enter Tryz.func118, Tryz.ntmps118
      go_wp2_with (go_at_call 119; refine (HFT.out _).mono ?_; rintro e w' ⟨rfl, rfl⟩)
      go_region_held3 (fun W => W.cell? ⟨tb, 0, none⟩ = some (.int .i64 t.cap) ∧ W.cell? ⟨tb, 1, none⟩ = some (.map (some mb)) ∧ ∀ ty, (Builtin.len_ #[140] ty #[.map (some mb)]).run Tryz.prog W = .ok (.int .i64 (t.live.length : Int)) W) (first | exact LEN.out _ ((Ext.refl _).alloc _) | exact LEN.out _ ((Ext.refl _).alloc _).drew) (fail)
      go_wp2
      go_ret
      exact AnsR.same HT.out (((Ext.refl _).alloc _).drew) rfl
    · have q4 : (err == 163) = false := by simpa using e1
      rw [q4]
      clear e1
      go_enter Tryz.func118, Tryz.ntmps118
      go_wp2_with (go_at_call 119; refine (HFT.out _).mono ?_; rintro e w' ⟨rfl, rfl⟩)
      go_region_held3 (fun W => W.cell? ⟨tb, 0, none⟩ = some (.int .i64 t.cap) ∧ W.cell? ⟨tb, 1, none⟩ = some (.map (some mb)) ∧ ∀ ty, (Builtin.len_ #[140] ty #[.map (some mb)]).run Tryz.prog W = .ok (.int .i64 (t.live.length : Int)) W) (first | exact LEN.out _ ((Ext.refl _).alloc _) | exact LEN.out _ ((Ext.refl _).alloc _).drew) (fail)
      go_wp2
      go_ret
      exact AnsR.same HT.out (((Ext.refl _).alloc _).drew) rfl
  rw [if_neg h4]
  have q5 : (t.next == 0) = false := by simpa using h4
  have hn0 := ok.next0
  have hn1 := ok.next1
  have hc0 := ok.clock0
  have hc1 := ok.clock1
  clear h4 ht
  go_enter Tryz.func118, Tryz.ntmps118
  go_wp2_with (go_at_call 119; refine (HFT.out _).mono ?_; rintro e w' ⟨rfl, rfl⟩)
  go_region_held3 (fun W => W.cell? ⟨tb, 0, none⟩ = some (.int .i64 t.cap) ∧ W.cell? ⟨tb, 1, none⟩ = some (.map (some mb)) ∧ ∀ ty, (Builtin.len_ #[140] ty #[.map (some mb)]).run Tryz.prog W = .ok (.int .i64 (t.live.length : Int)) W) (first | exact LEN.out _ ((Ext.refl _).alloc _) | exact LEN.out _ ((Ext.refl _).alloc _).drew) (fail)
  go_wp2
  have hwr : IntKind.u64.wrap (t.next + 1) = (t.next + 1) % 18446744073709551616 := IntKind.wrap_u64 _
  generalize IntKind.u64.wrap (t.next + 1) = nx at *
  have T1 : TabAt (w.setCell ⟨tb, 2, none⟩ (.int .u64 nx)) tb mb { t with next := nx } := ⟨by simpa using setB (i := 2) HT.out.blk (.int .u64 nx), HT.out.map.mod (mod_setCell w ⟨tb, 2, none⟩ (.int .u64 nx)) (by simp; omega)⟩
  have M1 := mod_setCell w ⟨tb, 2, none⟩ (.int .u64 nx)
  have hbx := newB (w.setCell ⟨tb, 2, none⟩ (.int .u64 nx)) (.cells #[.int .i64 kind, .int .u64 id, .int .i64 n, .int .u32 ser, .slice ad il c, .int .i64 err] 90) w.heap.size (by simp)
  have E1 : Ext (w.setCell ⟨tb, 2, none⟩ (.int .u64 nx)) ((w.setCell ⟨tb, 2, none⟩ (.int .u64 nx)).alloc (.cells #[.int .i64 kind, .int .u64 id, .int .i64 n, .int .u32 ser, .slice ad il c, .int .i64 err] 90)).drew := ((Ext.refl _).alloc _).drew
  have hbx2 : ((w.setCell ⟨tb, 2, none⟩ (.int .u64 nx)).alloc (.cells #[.int .i64 kind, .int .u64 id, .int .i64 n, .int .u32 ser, .slice ad il c, .int .i64 err] 90)).drew.heap[w.heap.size]? = some (.cells #[.int .i64 kind, .int .u64 id, .int .i64 n, .int .u32 ser, .slice ad il c, .int .i64 err] 90) := hbx
  clear hbx
  have T2 := Lib.hid (T1.keep E1)
  have M2 := Lib.hid ((M1.mono (S' := [tb, mb]) (by simp)).ext E1)
  clear M1 E1 T1
  generalize ((w.setCell ⟨tb, 2, none⟩ (.int .u64 nx)).alloc (.cells #[.int .i64 kind, .int .u64 id, .int .i64 n, .int .u32 ser, .slice ad il c, .int .i64 err] 90)).drew = Y at *
  obtain ⟨z1, _⟩ := blk T2.out.blk
  obtain ⟨z3, z4⟩ := blk hbx2
  have hfb : fitsB n = true := h2f.out
  simp only [fitsB, Bool.and_eq_true, decide_eq_true_eq] at hfb
  obtain ⟨hf1, hf2⟩ := hfb
  have hsum : IntKind.i64.wrap (t.clock + n) = t.clock + n := IntWalk.i64_in _ (by omega)
  obtain ⟨w3, hup, hm3, hmod3⟩ := run_mapUpdate_int (P := Tryz.prog) Y.drew Tryz.underlying140 Tryz.underlying55 (T2.out.map.keep (Ext.refl _).drew) t.next (leaseV (ser, t.clock + n))
  rw [encL_put] at hm3
  unfold leaseV at hup
  have hbt := lt_of_block T2.out.blk
  have b3 := hmod3.keep T2.out.blk (by simp; omega)
  have ba : w.heap.size ≠ mb := by have := HT.out.map.lt; omega
  have c3 := hmod3.keep hbx2 (by simp; omega)
  have T3 : Hid (TabAt w3 tb mb { t with next := nx, live := lput t.live t.next (ser, t.clock + n) }) := ⟨b3, hm3⟩
  have M3 := Lib.hid (M2.out.trans ((((Ext.refl Y).drew).mod [tb, mb]).trans (hmod3.mono (by simp))))
  obtain ⟨y1, y2⟩ := blk c3
  have KP : Hid (∀ W : World, W.heap = Y.heap → W.cell? ⟨tb, 1, none⟩ = some (.map (some mb)) ∧ W.cell? ⟨tb, 3, none⟩ = some (.int .i64 t.clock) ∧ W.cell? ⟨w.heap.size, 2, none⟩ = some (.int .i64 n) ∧ W.cell? ⟨w.heap.size, 3, none⟩ = some (.int .u32 ser)) := by
    intro W hW
    obtain ⟨p1, _⟩ := blk (w := W) (b := tb) (by rw [hW]; exact T2.out.blk)
    obtain ⟨p2, _⟩ := blk (w := W) (b := w.heap.size) (by rw [hW]; exact hbx2)
    exact ⟨by rw [p1]; rfl, by rw [p1]; rfl, by rw [p2]; rfl, by rw [p2]; rfl⟩
  have KP3 : Hid (w3.cell? ⟨tb, 1, none⟩ = some (.map (some mb)) ∧ w3.cell? ⟨tb, 3, none⟩ = some (.int .i64 t.clock) ∧ w3.cell? ⟨w.heap.size, 2, none⟩ = some (.int .i64 n) ∧ w3.cell? ⟨w.heap.size, 3, none⟩ = some (.int .u32 ser)) := by
    obtain ⟨p1, _⟩ := blk b3
    exact ⟨by rw [p1]; rfl, by rw [p1]; rfl, by rw [y1]; rfl, by rw [y1]; rfl⟩
  clear hmod3 hm3 b3 c3 hbx2
  go_region_held3 (fun W => W.cell? ⟨tb, 1, none⟩ = some (.map (some mb)) ∧ W.cell? ⟨tb, 3, none⟩ = some (.int .i64 t.clock) ∧ W.cell? ⟨w.heap.size, 2, none⟩ = some (.int .i64 n) ∧ W.cell? ⟨w.heap.size, 3, none⟩ = some (.int .u32 ser)) (first | exact KP.out _ rfl | exact KP3.out) (fail)
  have hw : ({ t with next := nx, live := lput t.live t.next (ser, t.clock + n) } : TabS) = { t with next := (t.next + 1) % 18446744073709551616, live := lput t.live t.next (ser, t.clock + n) } := by rw [hwr]
  rw [hw] at T3
  clear hw hwr
  cases e1 : (err == 0) with
  | true =>
    go_wp2
    go_ret
    exact ⟨rfl, T3.out, M3.out⟩
  | false =>
    go_wp2
    go_ret
    exact ⟨rfl, T3.out, M3.out⟩

/-! ### slices.Equal -/

set_option maxRecDepth 100000 in
set_option maxHeartbeats 1000000 in
theorem Equal154 {w : World} {a b : Option Addr} {c d : Nat} {l m : List Int} (h1 : IdsAt w a l) (h2 : IdsAt w b m) (hl : l.length ≤ 9223372036854775807) (_hm : m.length ≤ 9223372036854775807) :
    Calls Tryz.prog 154 #[.slice a l.length c, .slice b m.length d] w fun e w' => e = .returned (.bool (l == m)) ∧ Ext w w' := by
  by_cases hlen : l.length = m.length
  · have q1 : ((l.length : Int) != (m.length : Int)) = false := by simp [hlen]
    have q2 : (l.length != m.length) = false := by simp [hlen]
    have EQ : Hid ((∀ j, j < l.length → wd l j = wd m j) → (l == m) = true) := by
      intro hj
      rw [beq_iff_eq]
      apply List.ext_getElem hlen
      intro i i1 i2
      have := hj i i1
      simpa [wd, i1, i2] using this
    have NE : Hid (∀ j, j < l.length → wd l j ≠ wd m j → (l == m) = false) := by
      intro j hj hne
      rw [beq_eq_false_iff_ne]
      intro e; rw [e] at hne; exact hne rfl
    have H1 := Lib.hid h1
    have H2 := Lib.hid h2
    have HL := Lib.hid hlen
    clear h1 h2 hlen
    go_enter Tryz.func154, Tryz.ntmps154
    go_wp2
    go_loopw [13] (fun i wr => ∃ (k : Nat), k ≤ l.length ∧ i = .int .i64 k ∧ Ext w wr ∧ ∀ j, j < k → wd l j = wd m j) (fun i _ => l.length - (intOf i).toNat)
    case atStart => exact ⟨0, by omega, rfl, Ext.refl _, fun j hj => by omega⟩
    case round =>
      obtain ⟨k, hk, rfl, hE, hA⟩ := hrel
      have E := Lib.hid hE
      have A := Lib.hid hA
      clear hE hA
      by_cases hlt : k < l.length
      · obtain ⟨g1, o1, rfl, hg1, hr1⟩ := H1.out (by omega)
        obtain ⟨g2, o2, rfl, hg2, hr2⟩ := H2.out (by have := HL.out; omega)
        have hlt2 : k < m.length := by have := HL.out; omega
        have c1 : wr.cell? ⟨g1, o1 + k, none⟩ = some (.int .u64 (wd l k)) := by
          rw [rrow_cell (hr1.keep E.out hg1) k (by simpa using hlt)]; simp [u64s, wd, hlt]
        have c2 : wr.cell? ⟨g2, o2 + k, none⟩ = some (.int .u64 (wd m k)) := by
          rw [rrow_cell (hr2.keep E.out hg2) k (by simpa using hlt2)]; simp [u64s, wd, hlt2]
        have i1 : (k : Int) < (l.length : Int) := by omega
        have i2 : (k : Int) < (m.length : Int) := by omega
        have i3 : (0 : Int) ≤ (k : Int) := by omega
        have NEk := Lib.hid (NE.out k hlt)
        have AS : Hid (wd l k = wd m k → ∀ j, j < k + 1 → wd l j = wd m j) := by
          intro he j hj
          by_cases e : j = k
          · rw [e]; exact he
          · exact A.out j (by omega)
        generalize wd l k = x at *
        generalize wd m k = y at *
        by_cases hxy : x = y
        · have q3 : (x != y) = false := by simpa using hxy
          have ASk := Lib.hid (AS.out hxy)
          clear hxy
          go_wp2
          go_quiet (fail)
          go_wp2
          go_roundw
          case rel => exact ⟨k + 1, by omega, by go_num, E.out.drewN _, ASk.out⟩
          case measure => simp [intOf]; omega
        · have q3 : (x != y) = true := by simpa using hxy
          have NF := Lib.hid (NEk.out hxy)
          clear hxy
          go_wp2
          go_quiet (fail)
          go_wp2
          go_ret
          rw [NF.out]
          exact ⟨rfl, E.out.drewN _⟩
      · obtain rfl : k = l.length := by omega
        go_wp2
        go_ret
        rw [EQ.out A.out]
        exact ⟨rfl, E.out⟩
  · have q1 : ((l.length : Int) != (m.length : Int)) = true := by simp; omega
    have q2 : (l.length != m.length) = true := by simpa using hlen
    have F : Hid ((l == m) = false) := by
      show (l == m) = false
      rw [beq_eq_false_iff_ne]
      intro e; rw [e] at hlen; exact hlen rfl
    clear h1 h2 hlen
    rw [F.out]
    go_enter Tryz.func154, Tryz.ntmps154
    go_wp2
    go_ret
    exact ⟨rfl, Ext.refl _⟩

end Go.Proofs.Eff

/- audit.tick: plain laws. -/
namespace Go.Proofs.Eff
open Go.RowKit

/-- What is left of leases, where some are still to come. -/
def curF (l : LT) (c : Int) (left : Int → Bool) : LT := l.filter fun p => left p.1 || decide (c < p.2.2)
def goneL (l : LT) (c : Int) (left : Int → Bool) : List Int := (l.filter fun p => !left p.1 && decide (p.2.2 ≤ c)).map (·.1)
def toCome (l : LT) (left : Int → Bool) : Nat := (l.filter fun p => left p.1).length
theorem curF_start (l : LT) (c : Int) : curF l c (fun _ => true) = l := by simp [curF]
theorem goneL_start (l : LT) (c : Int) : goneL l c (fun _ => true) = [] := by simp [goneL]
theorem key_val {l : LT} (hn : (l.map (·.1)).Nodup) {p q : Int × Int × Int} (hp : p ∈ l) (hq : q ∈ l) (h : p.1 = q.1) : p = q := inj_of_nodup_map hn hp hq h
theorem ldel_filter {m : LT} (hn : (m.map (·.1)).Nodup) (k : Int) : ldel m k = m.filter fun p => p.1 != k := by
  induction m with
  | nil => rfl
  | cons p r ih =>
    rw [List.map_cons, List.nodup_cons] at hn
    simp only [ldel]
    by_cases h : p.1 = k
    · rw [if_pos h, List.filter_cons_of_neg (by simp [h])]
      symm
      rw [List.filter_eq_self]
      intro q hq
      simp only [bne_iff_ne, ne_eq]
      intro e
      exact hn.1 (by rw [h, ← e]; exact List.mem_map.2 ⟨q, hq, rfl⟩)
    · rw [if_neg h, List.filter_cons_of_pos (by simpa using h), ih hn.2]
theorem curF_sub (l : LT) (c : Int) (left : Int → Bool) : (curF l c left).Sublist l := List.filter_sublist
theorem curF_nodup {l : LT} (hn : (l.map (·.1)).Nodup) (c : Int) (left : Int → Bool) : ((curF l c left).map (·.1)).Nodup := ((curF_sub l c left).map _).nodup hn
theorem cur_dead {l : LT} (hn : (l.map (·.1)).Nodup) {c : Int} {left : Int → Bool} {p : Int × Int × Int} (hp : p ∈ l) (hx : p.2.2 ≤ c) : ldel (curF l c left) p.1 = curF l c (fun z => left z && z != p.1) := by
  rw [ldel_filter (curF_nodup hn c left)]
  unfold curF
  rw [List.filter_filter]
  apply List.filter_congr
  intro q hq
  by_cases h : q.1 = p.1
  · have := key_val hn hq hp h
    subst this
    have : decide (c < q.2.2) = false := by simpa using hx
    simp [this]
  · have : (q.1 != p.1) = true := by simpa using h
    simp only [this, Bool.and_true, Bool.true_and]
theorem cur_lives {l : LT} (hn : (l.map (·.1)).Nodup) {c : Int} {left : Int → Bool} {p : Int × Int × Int} (hp : p ∈ l) (hx : c < p.2.2) : curF l c left = curF l c (fun z => left z && z != p.1) := by
  unfold curF
  apply List.filter_congr
  intro q hq
  by_cases h : q.1 = p.1
  · have := key_val hn hq hp h
    subst this
    have : decide (c < q.2.2) = true := by simpa using hx
    rw [this]; simp
  · have : (q.1 != p.1) = true := by simpa using h
    simp only [this, Bool.and_true]
theorem goneL_nodup {l : LT} (hn : (l.map (·.1)).Nodup) (c : Int) (left : Int → Bool) : (goneL l c left).Nodup := (List.filter_sublist.map _).nodup hn
theorem mem_goneL {l : LT} {c : Int} {left : Int → Bool} {k : Int} : k ∈ goneL l c left ↔ ∃ x, (k, x) ∈ l ∧ left k = false ∧ x.2 ≤ c := by
  unfold goneL
  simp only [List.mem_map, List.mem_filter, Bool.and_eq_true, Bool.not_eq_true', decide_eq_true_eq]
  constructor
  · rintro ⟨p, ⟨h1, h2, h3⟩, rfl⟩; exact ⟨p.2, h1, h2, h3⟩
  · rintro ⟨x, h1, h2, h3⟩; exact ⟨(k, x), ⟨h1, h2, h3⟩, rfl⟩
theorem gone_dead {l : LT} (hn : (l.map (·.1)).Nodup) {c : Int} {left : Int → Bool} {p : Int × Int × Int} (hp : p ∈ l) (hl : left p.1 = true) (hx : p.2.2 ≤ c) {gs : List Int} (hg : gs.Perm (goneL l c left)) : (gs ++ [p.1]).Perm (goneL l c (fun z => left z && z != p.1)) := by
  refine (hg.append_right [p.1]).trans ?_
  rw [List.perm_ext_iff_of_nodup]
  · intro k
    rw [List.mem_append, List.mem_singleton, mem_goneL, mem_goneL]
    constructor
    · rintro (⟨x, h1, h2, h3⟩ | rfl)
      · exact ⟨x, h1, by simp [h2], h3⟩
      · exact ⟨p.2, hp, by simp, hx⟩
    · rintro ⟨x, h1, h2, h3⟩
      by_cases h : k = p.1
      · exact .inr h
      · left; refine ⟨x, h1, ?_, h3⟩
        have : (k != p.1) = true := by simpa using h
        rw [this] at h2; simpa using h2
  · rw [List.nodup_append]
    refine ⟨goneL_nodup hn c left, by simp, ?_⟩
    intro a ha b hb
    simp only [List.mem_singleton] at hb
    obtain ⟨x, _, h2, _⟩ := mem_goneL.1 ha
    rw [hb]; intro e; rw [e, hl] at h2; cases h2
  · exact goneL_nodup hn c _
theorem gone_lives {l : LT} (hn : (l.map (·.1)).Nodup) {c : Int} {left : Int → Bool} {p : Int × Int × Int} (hp : p ∈ l) (hx : c < p.2.2) : goneL l c left = goneL l c (fun z => left z && z != p.1) := by
  unfold goneL
  congr 1
  apply List.filter_congr
  intro q hq
  by_cases h : q.1 = p.1
  · have := key_val hn hq hp h
    subst this
    have : decide (q.2.2 ≤ c) = false := by simpa using hx
    rw [this]; simp
  · have : (q.1 != p.1) = true := by simpa using h
    simp only [this, Bool.and_true]
theorem toCome_less {l : LT} {left : Int → Bool} {p : Int × Int × Int} (hp : p ∈ l) (hl : left p.1 = true) : toCome l (fun z => left z && z != p.1) < toCome l left := by
  unfold toCome
  induction l with
  | nil => cases hp
  | cons q r ih =>
    have hle : ∀ r : LT, (r.filter fun p' => left p'.1 && p'.1 != p.1).length ≤ (r.filter fun p' => left p'.1).length := by
      intro r
      have : (r.filter fun p' => left p'.1 && p'.1 != p.1) = (r.filter fun p' => left p'.1).filter fun p' => p'.1 != p.1 := by
        rw [List.filter_filter]; apply List.filter_congr; intro x _; rw [Bool.and_comm]
      rw [this]; exact List.length_filter_le _ _
    rcases List.mem_cons.1 hp with rfl | hp
    · have h1 := hle r
      simp only [List.filter_cons, hl, bne_self_eq_false, Bool.and_false, Bool.false_eq_true, if_false, if_true, List.length_cons]
      omega
    · have h1 := ih hp
      simp only [List.filter_cons] at h1 ⊢
      cases h2 : left q.1 with
      | true =>
        cases h3 : (q.1 != p.1) with
        | true => simp only [Bool.and_self, if_true, List.length_cons]; omega
        | false => simp only [Bool.and_false, Bool.false_eq_true, if_false, if_true, List.length_cons]; omega
      | false => simp only [Bool.false_and, Bool.false_eq_true, if_false]; exact h1
theorem cur_end {l : LT} {c : Int} {left : Int → Bool} (h : ∀ p, p ∈ curF l c left → left p.1 = false) : curF l c left = stayF l c ∧ goneL l c left = (l.filter fun p => decide (p.2.2 ≤ c)).map (·.1) := by
  have h2 : ∀ p, p ∈ l → left p.1 = false := by
    intro p hp
    cases hl : left p.1 with
    | false => rfl
    | true =>
      have := h p (by unfold curF; rw [List.mem_filter]; exact ⟨hp, by simp [hl]⟩)
      rw [hl] at this; cases this
  constructor
  · unfold curF stayF
    apply List.filter_congr
    intro p hp; simp [h2 p hp]
  · unfold goneL
    congr 1
    apply List.filter_congr
    intro p hp; simp [h2 p hp]
theorem sort_perm {l m : List Int} (h : l.Perm m) : (l.mergeSort fun x y => decide (x ≤ y)) = m.mergeSort fun x y => decide (x ≤ y) := by
  have hl : (l.mergeSort fun x y => decide (x ≤ y)).Pairwise (fun a b : Int => a ≤ b) := by
    have := List.pairwise_mergeSort (le := fun x y : Int => decide (x ≤ y)) (by intro a b c; simp; omega) (by intro a b; simp; omega) l
    simpa using this
  have hm : (m.mergeSort fun x y => decide (x ≤ y)).Pairwise (fun a b : Int => a ≤ b) := by
    have := List.pairwise_mergeSort (le := fun x y : Int => decide (x ≤ y)) (by intro a b c; simp; omega) (by intro a b; simp; omega) m
    simpa using this
  exact List.Perm.eq_of_pairwise (fun a b _ _ h1 h2 => by omega) hl hm (((List.mergeSort_perm l _).trans h).trans (List.mergeSort_perm m _).symm)
theorem mem_enc {l : LT} {p : Int × Value} (h : p ∈ encL l) : ∃ q, q ∈ l ∧ p = (q.1, leaseV q.2) := by
  obtain ⟨q, hq, rfl⟩ := List.mem_map.1 h; exact ⟨q, hq, rfl⟩

end Go.Proofs.Eff

/- audit.tick: the walk. -/
namespace Go.Proofs.Eff
open Go.RowKit

theorem Tryz.cinfo55 : (Tryz.prog.info? 55).map (fun i => (i.zero, i.size, i.bytes)) = some (some (.int .u64 0), 1, 8) := by kernel_rfl

/-- In the loop over what is live. -/
structure TickI (W0 : World) (tb mb r ab : Nat) (t : TabS) (acts : Array Value) (c : Int) (v : Value) (left : Int → Bool) (gs : List Int) (wr : World) : Prop where
  rng : RangeAt wr mb r .u64 (encL (curF t.live c left)) left
  row : wr.ownsRow W0.heap.size 55 1 v gs.length (u64s gs)
  perm : gs.Perm (goneL t.live c left)
  tab : wr.heap[tb]? = some (.cells #[.int .i64 t.cap, .map (some mb), .int .u64 t.next, .int .i64 c] 142)
  act : wr.heap[ab]? = some (.cells acts 90)
  mod : Mod [mb] W0 wr

theorem row_cells {w : World} {base n size g : Nat} {e : TypeId} {v : Value} {xs : List Value} (h : w.ownsRow base e size v n xs) (hg : v.ownBlock = some g) : ∃ cs, w.heap[g]? = some (.cells cs e) := by
  rcases h.2 with ⟨h2, _⟩ | ⟨g', c, cur, h2, _, h3, _⟩
  · rw [h2] at hg; cases hg
  · rw [h2] at hg; cases hg; exact ⟨cur, h3⟩
theorem RangeAt.grown {W W' : World} {row : Option Nat} {mb r : Nat} {kd : IntKind} {cur : AList} {left : Int → Bool} (h : RangeAt W mb r kd cur left) (hg : W.grownBy W' row) (hr : ∀ g, row = some g → ∃ cs T fz, W.heap[g]? = some (.cells cs T fz)) : RangeAt W' mb r kd cur left := by
  obtain ⟨es, clock, since, seen, c0, a1, a2, a3, a4, a5, a6⟩ := h
  have n1 : some mb ≠ row := by
    intro e; obtain ⟨cs, T, fz, hc⟩ := hr mb e.symm; rw [a1] at hc; simp at hc
  have n2 : some r ≠ row := by
    intro e; obtain ⟨cs, T, fz, hc⟩ := hr r e.symm; rw [a5] at hc; simp at hc
  exact ⟨es, clock, since, seen, c0, (hg.block mb (lt_of_block a1) n1).trans a1, a2, a3, a4, (hg.block r (lt_of_block a5) n2).trans a5, a6⟩
theorem Mod.grown {S : List Nat} {a w w' : World} {row : Option Nat} (h : Mod S a w) (hg : w.grownBy w' row) (hr : ∀ g, row = some g → a.heap.size ≤ g) : Mod S a w' :=
  ⟨hg.os.trans h.os, hg.tape.trans h.tape, hg.output.trans h.output, Nat.le_trans h.size hg.size, fun k hk hn => (hg.block k (Nat.lt_of_lt_of_le hk h.size) (fun e => by have := hr k e.symm; omega)).trans (h.block k hk hn)⟩
theorem RangeAt.alloc {W : World} {mb r : Nat} {kd : IntKind} {cur : AList} {left : Int → Bool} (h : RangeAt W mb r kd cur left) (o : Obj) : RangeAt (W.alloc o) mb r kd cur left := by
  obtain ⟨es, clock, since, seen, c0, a1, a2, a3, a4, a5, a6⟩ := h
  exact ⟨es, clock, since, seen, c0, keepB a1 _, a2, a3, a4, keepB a5 _, a6⟩
theorem RangeAt.drewN {W : World} {mb r : Nat} {kd : IntKind} {cur : AList} {left : Int → Bool} (h : RangeAt W mb r kd cur left) (n : Nat) : RangeAt (W.drewN n) mb r kd cur left := h

set_option maxRecDepth 100000 in
set_option maxHeartbeats 4000000 in
theorem tick120 {w : World} {tb mb : Nat} {t : TabS} (ht : TabAt w tb mb t) (ok : TabOK t) (a : HAct) (ad : Option Addr) (c : Nat) (hids : IdsAt w ad a.ids) (hdis : 0 < a.ids.length → ∀ g off, ad = some ⟨g, off, none⟩ → g ≠ tb ∧ g ≠ mb) (hil : a.ids.length ≤ 9223372036854775807) :
    Calls Tryz.prog 120 #[.pointer (some ⟨tb, 0, none⟩), .agg (actC a ad c)] w (AnsR w tb mb (tickF t a)) := by
  obtain ⟨kind, id, n, ser, ids, err⟩ := a
  have HT := Lib.hid ht
  have hne := ht.ne
  have hlt := lt_of_block ht.blk
  unfold actC
  simp only at hids hil ⊢
  have hc0 := ok.clock0
  have hc1 := ok.clock1
  have HID := Lib.hid hids
  have HDS := Lib.hid hdis
  clear hdis
  unfold tickF
  simp only
  obtain ⟨k1, k2⟩ := blk ht.blk
  have hsub : IntKind.i64.wrap (1099511627776 - t.clock) = 1099511627776 - t.clock := IntWalk.i64_in _ (by omega)
  cases hb : tickB t ⟨kind, id, n, ser, ids, err⟩ with
  | true =>
    simp only [if_true]
    have hq : (n < 0) ∨ (¬ n < 0 ∧ 1099511627776 - t.clock < n) := by
      simp only [tickB, Bool.or_eq_true, decide_eq_true_eq] at hb
      by_cases h : n < 0
      · exact .inl h
      · exact .inr ⟨h, by rcases hb with hb | hb; exact absurd hb h; exact hb⟩
    have hll : ((ids.length : Int) == 0) = (ids.length == 0) := by
      cases ids <;> simp
      omega
    have HLL := Lib.hid hll
    clear hb ht hids hll
    rcases hq with hq | ⟨hq, hq2⟩
    · have d1 : decide (n < 0) = true := by simpa using hq
      clear hq
      cases e1 : (err == 1) with
      | true =>
        go_enter Tryz.func120, Tryz.ntmps120
        go_wp2
        go_quiet (fail)
        go_wp2
        go_ret
        refine AnsR.same HT.out (((Ext.refl _).alloc _).drewN _) ?_
        first | exact rfl | exact ret_bool HLL.out
      | false =>
        go_enter Tryz.func120, Tryz.ntmps120
        go_wp2
        go_quiet (fail)
        go_wp2
        go_ret
        refine AnsR.same HT.out (((Ext.refl _).alloc _).drewN _) ?_
        first | exact rfl | exact ret_bool HLL.out
    · have d1 : decide (n < 0) = false := by simpa using hq
      have d2 : decide (1099511627776 - t.clock < n) = true := by simpa using hq2
      clear hq hq2
      cases e1 : (err == 1) with
      | true =>
        go_enter Tryz.func120, Tryz.ntmps120
        go_wp2
        go_quiet (fail)
        go_wp2
        go_ret
        refine AnsR.same HT.out (((Ext.refl _).alloc _).drewN _) ?_
        first | exact rfl | exact ret_bool HLL.out
      | false =>
        go_enter Tryz.func120, Tryz.ntmps120
        go_wp2
        go_quiet (fail)
        go_wp2
        go_ret
        refine AnsR.same HT.out (((Ext.refl _).alloc _).drewN _) ?_
        first | exact rfl | exact ret_bool HLL.out
  | false =>
    simp only [Bool.false_eq_true, if_false]
    have hq : ¬ n < 0 ∧ ¬ 1099511627776 - t.clock < n := by
      simp only [tickB, Bool.or_eq_false_iff, decide_eq_false_iff_not] at hb; exact hb
    obtain ⟨hq1, hq2⟩ := hq
    have d1 : decide (n < 0) = false := by simpa using hq1
    have d2 : decide (1099511627776 - t.clock < n) = false := by simpa using hq2
    have hsum : IntKind.i64.wrap (t.clock + n) = t.clock + n := IntWalk.i64_in _ (by omega)
    clear hb hids
    have hmt := ht.map.lt
    go_enter Tryz.func120, Tryz.ntmps120
    go_wp2
    go_quiet (fail)
    go_wp2
    go_region
    have TX : Hid (((w.alloc (.cells #[.int .i64 kind, .int .u64 id, .int .i64 n, .int .u32 ser, .slice ad ids.length c, .int .i64 err] 90)).drewN (nq + 1)).setCell ⟨tb, 3, none⟩ (.int .i64 (t.clock + n)) |>.heap[tb]? = some (.cells #[.int .i64 t.cap, .map (some mb), .int .u64 t.next, .int .i64 (t.clock + n)] 142)) := by
      have h1 : ((w.alloc (.cells #[.int .i64 kind, .int .u64 id, .int .i64 n, .int .u32 ser, .slice ad ids.length c, .int .i64 err] 90)).drewN (nq + 1)).heap[tb]? = _ := keepB HT.out.blk _
      show _ = _
      simpa using setB (i := 3) h1 (.int .i64 (t.clock + n))
    have hEX : Ext w ((w.alloc (.cells #[.int .i64 kind, .int .u64 id, .int .i64 n, .int .u32 ser, .slice ad ids.length c, .int .i64 err] 90)).drewN (nq + 1)) := ((Ext.refl _).alloc _).drewN _
    have hmX := mod_setCell ((w.alloc (.cells #[.int .i64 kind, .int .u64 id, .int .i64 n, .int .u32 ser, .slice ad ids.length c, .int .i64 err] 90)).drewN (nq + 1)) ⟨tb, 3, none⟩ (.int .i64 (t.clock + n))
    have hactX : ((w.alloc (.cells #[.int .i64 kind, .int .u64 id, .int .i64 n, .int .u32 ser, .slice ad ids.length c, .int .i64 err] 90)).drewN (nq + 1)).heap[w.heap.size]? = some (.cells #[.int .i64 kind, .int .u64 id, .int .i64 n, .int .u32 ser, .slice ad ids.length c, .int .i64 err] 90) := newB w _ _ rfl
    have ACT := Lib.hid (hmX.keep hactX (by simp; omega))
    have MX := Lib.hid ((hEX.mod [tb]).trans hmX)
    have MPX := Lib.hid ((ht.map.keep hEX).mod hmX (by simp; omega))
    clear hactX hmX hEX ht
    generalize ((w.alloc (.cells #[.int .i64 kind, .int .u64 id, .int .i64 n, .int .u32 ser, .slice ad ids.length c, .int .i64 err] 90)).drewN (nq + 1)).setCell ⟨tb, 3, none⟩ (.int .i64 (t.clock + n)) = X at *
    generalize t.clock + n = C at *
    clear k1 k2
    obtain ⟨z1, z2⟩ := blk TX.out
    have hXs := MX.out.size
    have hXt := lt_of_block TX.out
    obtain ⟨w1, hrng, hR1, hE1, hs1⟩ := range_start (P := Tryz.prog) Tryz.underlying140 MPX.out
    have E1 := Lib.hid hE1
    have R1 := Lib.hid hR1
    clear hE1 hR1 hs1
    go_wp2
    clear hrng
    have hXa := lt_of_block ACT.out
    obtain ⟨r, hr⟩ : ∃ r, r = X.heap.size := ⟨_, rfl⟩
    rw [← hr] at R1 ⊢
    have hrX : X.heap.size ≤ r := by omega
    clear hr
    generalize habE : w.heap.size = ab at *
    have I0 : Hid (TickI X tb mb r ab t #[.int .i64 kind, .int .u64 id, .int .i64 n, .int .u32 ser, .slice ad ids.length c, .int .i64 err] C (.slice none 0 0) (fun _ => true) [] w1) := ⟨by rw [curF_start]; exact R1.out, World.ownsRow_nil _ _ _ _, by rw [goneL_start], E1.out.keep TX.out, E1.out.keep ACT.out, E1.out.mod _⟩
    obtain ⟨i0, hi, hz0, hz1, hz3⟩ := info_parts Tryz.cinfo55
    have KEYS := Lib.hid ok.keys
    have hlen : t.live.length ≤ 256 := by have := ok.len; have := ok.cap1; omega
    go_loopg [5] (toCome t.live (fun _ => true)) (fun g v wr => ∃ left gs, g = toCome t.live left ∧ TickI X tb mb r ab t #[.int .i64 kind, .int .u64 id, .int .i64 n, .int .u32 ser, .slice ad ids.length c, .int .i64 err] C v left gs wr)
    case atStart => exact ⟨_, [], rfl, I0.out⟩
    case round =>
      obtain ⟨left, gs, hgk, hI⟩ := hrel
      have I := Lib.hid hI
      have GK := Lib.hid hgk
      have hgs : gs.length ≤ 256 := by
        have := hI.perm.length_eq
        have h2 := List.length_filter_le (fun p : Int × Int × Int => !left p.1 && decide (p.2.2 ≤ C)) t.live
        simp only [goneL, List.length_map] at this
        omega
      clear hgk hI
      rcases range_next (P := Tryz.prog) I.out.rng (by rw [encL_fst]; exact curF_nodup KEYS.out C left) 0 with ⟨hd, hnx⟩ | ⟨p, hp, hl, w2, hnx, hR2, hm2, hen⟩
      · have hce := cur_end (l := t.live) (c := C) (left := left) (fun q hq => hd _ (List.mem_map.2 ⟨q, hq, rfl⟩))
        have SRT : Hid ((gs.mergeSort fun x y => decide (x ≤ y)) = goneF t.live C) := by
          show _ = _
          rw [sort_perm I.out.perm, hce.2]; rfl
        have TAB : Hid (TabAt wr tb mb ⟨t.cap, stayF t.live C, t.next, C⟩) := ⟨I.out.tab, by have := I.out.rng.map; rw [hce.1] at this; exact this⟩
        have MWr : Hid (Mod [tb, mb] w wr) := (MX.out.mono (by simp)).trans (I.out.mod.mono (by simp))
        obtain ⟨ad2, c2, hv, hd2⟩ := own_any I.out.row
        have ROW := Lib.hid I.out.row
        subst hv
        have ACTr := Lib.hid I.out.act
        have IDS : Hid (∀ W, Mod [tb, mb] w W → IdsAt W ad ids) := by
          intro W hM h0
          obtain ⟨g, off, e1, e2, e3⟩ := HID.out h0
          have := HDS.out h0 g off e1
          refine ⟨g, off, e1, Nat.lt_of_lt_of_le e2 hM.size, fun j u hj => ?_⟩
          have h4 := e3 j u hj
          have hbk := hM.block g e2 (by simp; omega)
          rw [World.cell?_of_block (w := w) (a := (⟨g, off, none⟩ : Addr).add j) (by rw [add_block]; exact hbk)]
          exact h4
        have SORT : Hid (Calls Tryz.prog 93 #[.slice ad2 gs.length c2] wr fun e w' => e = .returned (.tuple #[]) ∧ TabAt w' tb mb ⟨t.cap, stayF t.live C, t.next, C⟩ ∧ Mod [tb, mb] w w' ∧ w'.heap[ab]? = some (.cells #[.int .i64 kind, .int .u64 id, .int .i64 n, .int .u32 ser, .slice ad ids.length c, .int .i64 err] 90) ∧ IdsAt w' ad2 (gs.mergeSort fun x y => decide (x ≤ y))) := by
          by_cases hg0 : gs.length = 0
          · have : gs = [] := List.length_eq_zero_iff.1 hg0
            subst this
            refine (Sb.sort_nil ad2 c2 wr).mono ?_
            rintro e w' ⟨rfl, rfl⟩
            exact ⟨rfl, TAB.out, MWr.out, ACTr.out, fun h => by simp at h⟩
          · obtain ⟨g, rfl, hg1, hg2⟩ := hd2 (by omega)
            refine (Sb.sort_row g c2 gs wr (row_zero ROW.out) (by omega)).mono ?_
            rintro e w' ⟨rfl, hrw, hmd⟩
            obtain ⟨cs, hcs⟩ := row_cells ROW.out (g := g) rfl
            have n1 : tb ≠ g := block_ne TAB.out.blk hcs (by simp)
            have n2 : mb ≠ g := fun e => (TAB.out.map.ne_cells hcs) e.symm
            have n3 : ab ≠ g := block_ne ACTr.out hcs (by simp)
            refine ⟨rfl, ⟨hmd.keep TAB.out.blk (by simp; omega), TAB.out.map.mod hmd (by simp; omega)⟩, MWr.out.via hmd (by intro x hx; simp at hx; right; omega), hmd.keep ACTr.out (by simp; omega), fun _ => ⟨g, 0, rfl, ?_, ?_⟩⟩
            · have := hmd.size; omega
            · exact row_read hrw
        have HSL : Hid ((gs.mergeSort fun x y => decide (x ≤ y)).length = gs.length) := (List.mergeSort_perm _ _).length_eq
        clear hce hd hd2
        have EQ : Hid (∀ W, IdsAt W ad ids → IdsAt W ad2 (gs.mergeSort fun x y => decide (x ≤ y)) → Calls Tryz.prog 154 #[.slice ad ids.length c, .slice ad2 gs.length c2] W fun e w' => e = .returned (.bool (ids == goneF t.live C)) ∧ Ext W w') := by
          intro W h1 h2
          have := Equal154 (c := c) (d := c2) h1 h2 hil (by rw [HSL.out]; omega)
          rw [HSL.out, SRT.out] at this; exact this
        cases e1 : (err == 0) with
        | true =>
          go_wp2_with (first | (go_at_call 93; refine SORT.out.mono ?_; rintro e w3 ⟨rfl, hT3, hM3, hA3, hI3⟩; have T3 := Lib.hid hT3; have M3 := Lib.hid hM3; have I3 := Lib.hid hI3; obtain ⟨y1, y2⟩ := blk hA3; have y9 := lt_of_block hA3; clear hT3 hM3 hA3 hI3) | (go_at_call 154; refine (EQ.out _ (IDS.out _ M3.out) I3.out).mono ?_; rintro e w4 ⟨rfl, hb4⟩; have B4 := Lib.hid hb4; clear hb4))
          go_ret
          exact ⟨ret_bool (by simp only [e1, Bool.true_and]), T3.out.keep B4.out, M3.out.ext B4.out⟩
        | false =>
          go_wp2_with (go_at_call 93; refine SORT.out.mono ?_; rintro e w3 ⟨rfl, hT3, hM3, hA3, hI3⟩; have T3 := Lib.hid hT3; have M3 := Lib.hid hM3; have I3 := Lib.hid hI3; obtain ⟨y1, y2⟩ := blk hA3; have y9 := lt_of_block hA3; clear hT3 hM3 hA3 hI3)
          go_ret
          exact ⟨ret_bool (by simp only [e1, Bool.false_and]), T3.out, M3.out⟩
      · obtain ⟨q, hq, rfl⟩ := mem_enc hp
        have hql : q ∈ t.live := (curF_sub _ _ _).subset hq
        obtain ⟨k, sr, x⟩ := q
        simp only [leaseV] at hnx hen hl hR2
        have I2 : Hid (RangeAt w2 mb r .u64 (encL (curF t.live C left)) (fun z => left z && z != k)) := hR2
        have hrr := I.out.rng.lt
        have tb2 := hm2.keep I.out.tab (by simp; omega)
        have ac2 := hm2.keep I.out.act (by simp; omega)
        have rw2 : Hid (w2.ownsRow X.heap.size 55 1 u5 gs.length (u64s gs)) := hm2.row I.out.row (by
          intro g hg
          obtain ⟨cs, hcs⟩ := row_cells I.out.row hg
          have := I.out.rng.ne_cells hcs
          simpa using this)
        have m2 : Hid (Mod [mb] X w2) := I.out.mod.via hm2 (by intro z hz; simp at hz; right; omega)
        have TB2 := Lib.hid tb2
        have AC2 := Lib.hid ac2
        have LS := Lib.hid (toCome_less (left := left) hql hl)
        have HQL := Lib.hid hql
        have HL := Lib.hid hl
        have GK2 := Lib.hid GK.out
        have PM := Lib.hid I.out.perm
        obtain ⟨j1, j2⟩ := blk tb2
        have hj := lt_of_block tb2
        have hsz2 := m2.out.size
        clear hq hp hl hR2 hm2 ac2 tb2 hql
        by_cases hx : x ≤ C
        · have hd : decide (x ≤ C) = true := by simpa using hx
          have HX := Lib.hid hx
          clear hx
          go_wp2
          go_quiet (fail)
          have R5 : Hid (RangeAt ((w2.alloc (.cells #[.int .u32 sr, .int .i64 x] 232)).drewN nq) mb r .u64 (encL (curF t.live C left)) (fun z => left z && z != k)) := (I2.out.alloc _).drewN _
          have E5 : Ext w2 ((w2.alloc (.cells #[.int .u32 sr, .int .i64 x] 232)).drewN nq) := ((Ext.refl _).alloc _).drewN _
          have ROW5 := Lib.hid (row_keep rw2.out E5)
          have TB5 := Lib.hid (E5.keep TB2.out)
          have AC5 := Lib.hid (E5.keep AC2.out)
          have M5 := Lib.hid (m2.out.ext E5)
          clear E5 j1 j2 hj hen hnx
          generalize (w2.alloc (.cells #[.int .u32 sr, .int .i64 x] 232)).drewN nq = W5 at *
          have hs5 := M5.out.size
          have NW : Hid (RRow (W5.alloc (.cells #[.int .u64 k] 55)) ⟨W5.heap.size, 0, none⟩ (u64s [k])) := row_read (World.ownsRow_lit (base := 0) (e := 55) W5 #[.int .u64 k] 1 (Nat.zero_le _) (by unfold maxLen; omega) rfl)
          go_wp2_with (at_builtin; refine wpList_append_own _ rfl _ _ 88 rfl X.heap.size 55 i0 (.int .u64 0) 1 8 Tryz.underlying88 hi hz0 hz1 hz3 rfl (by decide) _ gs.length _ rfl (ROW5.out.alloc _) ⟨W5.heap.size, 0, none⟩ 1 1 (u64s [k]) rfl rfl NW.out (u64s_one _) (by unfold maxLen; omega) (by omega) (by simp; omega) ?_; intro v' w6 hown hgrow hnil; have R6 := (R5.out.alloc (.cells #[.int .u64 k] 55)).grown hgrow (fun g hg => by obtain ⟨cs, hcs⟩ := row_cells (ROW5.out.alloc (.cells #[.int .u64 k] 55)) hg; exact ⟨cs, _, _, hcs⟩); have ntb : some tb ≠ u5.ownBlock := (fun e => by obtain ⟨cs, hcs⟩ := row_cells ROW5.out e.symm; have hc2 := TB5.out; rw [hc2] at hcs; simp at hcs); have nab : some ab ≠ u5.ownBlock := (fun e => by obtain ⟨cs, hcs⟩ := row_cells ROW5.out e.symm; have hc2 := AC5.out; rw [hc2] at hcs; simp at hcs); have tb6 := grow_keep hgrow (keepB TB5.out _) ntb; have ac6 := grow_keep hgrow (keepB AC5.out _) nab; obtain ⟨w7, hdel, hR7, hm7⟩ := range_delete (P := Tryz.prog) Tryz.underlying140 Tryz.underlying55 R6 k; obtain ⟨j1, j2⟩ := blk tb6; have hj6 := lt_of_block tb6)
          have CD := cur_dead (left := left) KEYS.out HQL.out HX.out
          have GD := gone_dead KEYS.out HQL.out HL.out HX.out PM.out
          have TI : Hid (TickI X tb mb r ab t #[.int .i64 kind, .int .u64 id, .int .i64 n, .int .u32 ser, .slice ad ids.length c, .int .i64 err] C v' (fun z => left z && z != k) (gs ++ [k]) w7) := by
            refine ⟨?_, ?_, GD, hm7.keep tb6 (by simp; omega), hm7.keep ac6 (by simp; omega), ?_⟩
            · rw [encL_del] at hR7
              have hcd : ldel (curF t.live C left) k = curF t.live C (fun z => left z && z != k) := CD
              rw [hcd] at hR7; exact hR7
            · have e1 : u64s (gs ++ [k]) = u64s gs ++ u64s [k] := by simp [u64s]
              rw [e1, List.length_append]
              refine hm7.row hown ?_
              intro g hg
              obtain ⟨cs, hcs⟩ := row_cells hown hg
              have := R6.map.ne_cells hcs
              simpa using this
            · refine ((M5.out.ext ((Ext.refl _).alloc _)).grown hgrow ?_).trans hm7
              intro g hg
              exact (ROW5.out.lt g hg).1
          clear CD GD hown hgrow hnil R6 tb6 ac6 hdel hR7 hm7 j1 j2
          go_roundg (toCome t.live (fun z => left z && z != k))
          case measure => rw [GK2.out]; exact LS.out
          case rel => exact ⟨_, _, rfl, TI.out⟩
        · have hd : decide (x ≤ C) = false := by simpa using hx
          have HX : Hid (C < x) := by show C < x; omega
          clear hx
          go_wp2
          go_quiet (fail)
          have R5 : Hid (RangeAt ((w2.alloc (.cells #[.int .u32 sr, .int .i64 x] 232)).drewN nq) mb r .u64 (encL (curF t.live C left)) (fun z => left z && z != k)) := (I2.out.alloc _).drewN _
          have E5 : Ext w2 ((w2.alloc (.cells #[.int .u32 sr, .int .i64 x] 232)).drewN nq) := ((Ext.refl _).alloc _).drewN _
          have ROW5 := Lib.hid (row_keep rw2.out E5)
          have TB5 := Lib.hid (E5.keep TB2.out)
          have AC5 := Lib.hid (E5.keep AC2.out)
          have M5 := Lib.hid (m2.out.ext E5)
          clear E5 j1 j2 hj hen hnx
          generalize (w2.alloc (.cells #[.int .u32 sr, .int .i64 x] 232)).drewN nq = W5 at *
          have CD := cur_lives (left := left) KEYS.out HQL.out HX.out
          have GD := gone_lives (left := left) KEYS.out HQL.out HX.out
          have TI : Hid (TickI X tb mb r ab t #[.int .i64 kind, .int .u64 id, .int .i64 n, .int .u32 ser, .slice ad ids.length c, .int .i64 err] C u5 (fun z => left z && z != k) gs W5) := by
            refine ⟨?_, ROW5.out, ?_, TB5.out, AC5.out, M5.out⟩
            · have hcd : curF t.live C left = curF t.live C (fun z => left z && z != k) := CD
              rw [← hcd]; exact R5.out
            · have hgd : goneL t.live C left = goneL t.live C (fun z => left z && z != k) := GD
              rw [← hgd]; exact PM.out
          clear CD GD
          go_wp2
          go_roundg (toCome t.live (fun z => left z && z != k))
          case measure => rw [GK2.out]; exact LS.out
          case rel => exact ⟨_, _, rfl, TI.out⟩

end Go.Proofs.Eff

/- audit.answer. -/
namespace Go.Proofs.Eff
open Go.RowKit

theorem zero232 (w : World) : (zeroValue 232).run Tryz.prog w = .ok (.agg #[.int .u32 0, .int .i64 0]) w := by kernel_rfl
theorem lookL {W : World} {mb : Nat} {l : LT} (hm : MapAt W mb .u64 (encL l)) (k : Int) : (Instr.lookup 140 (.map (some mb)) (.int .u64 k) true).run Tryz.prog W = .ok (.tuple #[leaseV ((lget l k).getD (0, 0)), .bool (lget l k).isSome]) W := by
  have := run_lookup_ok (P := Tryz.prog) W Tryz.underlying140 Tryz.underlying55 hm (.agg #[.int .u32 0, .int .i64 0]) zero232 k
  rw [encL_get] at this
  rw [this]
  cases lget l k <;> rfl

set_option maxRecDepth 100000 in
set_option maxHeartbeats 4000000 in
theorem answer65 {w : World} {tb mb : Nat} {t : TabS} (ht : TabAt w tb mb t) (ok : TabOK t) (a : HAct) (ad : Option Addr) (c : Nat) (hids : IdsAt w ad a.ids) (hdis : 0 < a.ids.length → ∀ g off, ad = some ⟨g, off, none⟩ → g ≠ tb ∧ g ≠ mb) (hil : a.ids.length ≤ 9223372036854775807) :
    Calls Tryz.prog 65 #[.pointer (some ⟨tb, 0, none⟩), .agg (actC a ad c)] w (AnsR w tb mb (ansF t a)) := by
  have ISS : Hid (∀ W, Ext w W → Calls Tryz.prog 118 #[.pointer (some ⟨tb, 0, none⟩), .agg (actC a ad c)] W (AnsR W tb mb (issueF t a))) := fun W hE => issue118 (ht.keep hE) ok a ad c
  have TCK : Hid (∀ W, Ext w W → Calls Tryz.prog 120 #[.pointer (some ⟨tb, 0, none⟩), .agg (actC a ad c)] W (AnsR W tb mb (tickF t a))) := by
    intro W hE
    refine tick120 (ht.keep hE) ok a ad c ?_ hdis hil
    intro h0
    obtain ⟨g, off, e1, e2, e3⟩ := hids h0
    exact ⟨g, off, e1, Nat.lt_of_lt_of_le e2 hE.size, e3.keep hE e2⟩
  obtain ⟨kind, id, n, ser, ids, err⟩ := a
  have HT := Lib.hid ht
  have hne := ht.ne
  have hlt := lt_of_block ht.blk
  have HFT := Lib.hid (fun W => fits119 n W)
  unfold actC at *
  simp only at *
  generalize ids.length = il at *
  have hc0 := ok.clock0
  have hc1 := ok.clock1
  obtain ⟨k1, k2⟩ := blk ht.blk
  have KP : Hid (∀ W, Ext (w.alloc (.cells #[.int .i64 kind, .int .u64 id, .int .i64 n, .int .u32 ser, .slice ad il c, .int .i64 err] 90)) W → W.cell? ⟨tb, 1, none⟩ = some (.map (some mb)) ∧ W.cell? ⟨w.heap.size, 1, none⟩ = some (.int .u64 id) ∧ (Instr.lookup 140 (.map (some mb)) (.int .u64 id) true).run Tryz.prog W = .ok (.tuple #[.agg #[.int .u32 ((lget t.live id).getD (0, 0)).1, .int .i64 ((lget t.live id).getD (0, 0)).2], .bool (lget t.live id).isSome]) W) := by
    intro W hE
    have hE2 := ((Ext.refl w).alloc (.cells #[.int .i64 kind, .int .u64 id, .int .i64 n, .int .u32 ser, .slice ad il c, .int .i64 err] 90)).trans hE
    obtain ⟨p1, _⟩ := blk (ht.keep hE2).blk
    obtain ⟨p2, _⟩ := blk (hE.keep (newB w (.cells #[.int .i64 kind, .int .u64 id, .int .i64 n, .int .u32 ser, .slice ad il c, .int .i64 err] 90) _ rfl))
    exact ⟨by rw [p1]; rfl, by rw [p2]; rfl, lookL (ht.map.keep hE2) id⟩
  clear ht hids
  go_enter Tryz.func65, Tryz.ntmps65
  go_wp2
  go_region_held3 (fun W => W.cell? ⟨tb, 1, none⟩ = some (.map (some mb)) ∧ W.cell? ⟨w.heap.size, 1, none⟩ = some (.int .u64 id) ∧ (Instr.lookup 140 (.map (some mb)) (.int .u64 id) true).run Tryz.prog W = .ok (.tuple #[.agg #[.int .u32 ((lget t.live id).getD (0, 0)).1, .int .i64 ((lget t.live id).getD (0, 0)).2], .bool (lget t.live id).isSome]) W) (first | exact KP.out _ ((Ext.refl _).drew) | exact KP.out _ ((Ext.refl _).drew.alloc _) | exact KP.out _ (((Ext.refl _).alloc _).drew)) (fail)
  all_goals
    have EY : Hid (Ext w ((w.alloc (.cells #[.int .i64 kind, .int .u64 id, .int .i64 n, .int .u32 ser, .slice ad il c, .int .i64 err] 90)).alloc (.cells #[.int .u32 ((lget t.live id).getD (0, 0)).1, .int .i64 ((lget t.live id).getD (0, 0)).2] 232)).drew) := (((Ext.refl _).alloc _).alloc _).drew
    have AY : Hid (((w.alloc (.cells #[.int .i64 kind, .int .u64 id, .int .i64 n, .int .u32 ser, .slice ad il c, .int .i64 err] 90)).alloc (.cells #[.int .u32 ((lget t.live id).getD (0, 0)).1, .int .i64 ((lget t.live id).getD (0, 0)).2] 232)).drew.heap[w.heap.size]? = some (.cells #[.int .i64 kind, .int .u64 id, .int .i64 n, .int .u32 ser, .slice ad il c, .int .i64 err] 90)) := (keepB (newB w _ _ rfl) _ : ((w.alloc (.cells #[.int .i64 kind, .int .u64 id, .int .i64 n, .int .u32 ser, .slice ad il c, .int .i64 err] 90)).alloc _).heap[w.heap.size]? = _)
    have LY : Hid (((w.alloc (.cells #[.int .i64 kind, .int .u64 id, .int .i64 n, .int .u32 ser, .slice ad il c, .int .i64 err] 90)).alloc (.cells #[.int .u32 ((lget t.live id).getD (0, 0)).1, .int .i64 ((lget t.live id).getD (0, 0)).2] 232)).drew.heap[w.heap.size + 1]? = some (.cells #[.int .u32 ((lget t.live id).getD (0, 0)).1, .int .i64 ((lget t.live id).getD (0, 0)).2] 232)) := (newB (w.alloc (.cells #[.int .i64 kind, .int .u64 id, .int .i64 n, .int .u32 ser, .slice ad il c, .int .i64 err] 90)) _ _ (by simp) : ((w.alloc (.cells #[.int .i64 kind, .int .u64 id, .int .i64 n, .int .u32 ser, .slice ad il c, .int .i64 err] 90)).alloc _).heap[w.heap.size + 1]? = _)
    generalize ((w.alloc (.cells #[.int .i64 kind, .int .u64 id, .int .i64 n, .int .u32 ser, .slice ad il c, .int .i64 err] 90)).alloc (.cells #[.int .u32 ((lget t.live id).getD (0, 0)).1, .int .i64 ((lget t.live id).getD (0, 0)).2] 232)).drew = Y at *
    clear KP k1 k2
    have T := Lib.hid (HT.out.keep EY.out)
    have MY := Lib.hid (EY.out.mod [tb, mb])
    obtain ⟨z1, z2⟩ := blk T.out.blk
    obtain ⟨z3, z4⟩ := blk AY.out
    obtain ⟨z5, z6⟩ := blk LY.out
    have hzt := lt_of_block T.out.blk
    have hza := lt_of_block AY.out
    have hzl := lt_of_block LY.out
    have hwm := HT.out.map.lt
    by_cases h1 : kind = 1
    · have q1 : (kind == 1) = true := by simpa using h1
      have AF : Hid (ansF t ⟨kind, id, n, ser, ids, err⟩ = issueF t ⟨kind, id, n, ser, ids, err⟩) := by
        show ansF _ _ = _
        unfold ansF; rw [if_pos h1]
      clear h1
      go_wp2_with (go_at_call 118; refine (ISS.out _ EY.out).mono ?_; rintro e w3 ⟨rfl, hT3, hM3⟩; have T3 := Lib.hid hT3; have M3 := Lib.hid (MY.out.trans hM3); clear hT3 hM3)
      go_ret
      rw [AF.out]
      exact ⟨rfl, T3.out, M3.out⟩
    have q1 : (kind == 1) = false := by simpa using h1
    by_cases h2 : kind = 2
    · have q2 : (kind == 2) = true := by simpa using h2
      have AF0 : Hid (ansF t ⟨kind, id, n, ser, ids, err⟩ = getF t ⟨kind, id, n, ser, ids, err⟩) := by
        show ansF _ _ = _
        unfold ansF; rw [if_neg h1, if_pos h2]
      clear h1 h2
      have GF : Hid (getF t ⟨kind, id, n, ser, ids, err⟩ = match lget t.live id with | none => (t, err == 160 && ser == 0) | some x => (t, err == 0 && ser == x.1)) := rfl
      generalize lget t.live id = og at *
      cases og with
      | none =>
        have AF := Lib.hid (AF0.out.trans GF.out)
        simp only [Option.getD_none, Option.isSome_none] at *
        cases e1 : (err == 160) with
        | true =>
          go_wp2
          go_ret
          exact ⟨ret_bool (by rw [AF.out]; simp only [e1, Bool.true_and]), by rw [AF.out]; exact T.out, MY.out⟩
        | false =>
          go_wp2
          go_ret
          exact ⟨ret_bool (by rw [AF.out]; simp only [e1, Bool.false_and]), by rw [AF.out]; exact T.out, MY.out⟩
      | some xx =>
        have AF := Lib.hid (AF0.out.trans GF.out)
        obtain ⟨x0, x1⟩ := xx
        simp only [Option.getD_some, Option.isSome_some] at *
        cases e1 : (err == 0) with
        | true =>
          go_wp2
          go_ret
          exact ⟨ret_bool (by rw [AF.out]; simp only [e1, Bool.true_and]), by rw [AF.out]; exact T.out, MY.out⟩
        | false =>
          go_wp2
          go_ret
          exact ⟨ret_bool (by rw [AF.out]; simp only [e1, Bool.false_and]), by rw [AF.out]; exact T.out, MY.out⟩
    have q2 : (kind == 2) = false := by simpa using h2
    by_cases h3 : kind = 3
    · have q3 : (kind == 3) = true := by simpa using h3
      have AF0 : Hid (ansF t ⟨kind, id, n, ser, ids, err⟩ = renewF t ⟨kind, id, n, ser, ids, err⟩) := by
        show ansF _ _ = _
        unfold ansF; rw [if_neg h1, if_neg h2, if_pos h3]
      clear h1 h2 h3
      have GF : Hid (renewF t ⟨kind, id, n, ser, ids, err⟩ = match lget t.live id with | none => (t, err == 160) | some x => if fitsB n then ({ t with live := lput t.live id (x.1, t.clock + n) }, err == 0) else (t, err == 162)) := rfl
      generalize lget t.live id = og at *
      cases og with
      | none =>
        have AF := Lib.hid (AF0.out.trans GF.out)
        simp only [Option.getD_none, Option.isSome_none] at *
        go_wp2
        go_ret
        exact ⟨ret_bool (by rw [AF.out]), by rw [AF.out]; exact T.out, MY.out⟩
      | some xx =>
        obtain ⟨x0, x1⟩ := xx
        simp only [Option.getD_some, Option.isSome_some] at *
        cases hf : fitsB n with
        | false =>
          rw [hf] at HFT
          have AF : Hid (ansF t ⟨kind, id, n, ser, ids, err⟩ = (t, err == 162)) := by
            show ansF _ _ = _
            rw [AF0.out, GF.out]; simp [hf]
          clear hf
          go_wp2_with (go_at_call 119; refine (HFT.out _).mono ?_; rintro e w' ⟨rfl, rfl⟩)
          go_ret
          exact ⟨ret_bool (by rw [AF.out]), by rw [AF.out]; exact T.out, MY.out⟩
        | true =>
          rw [hf] at HFT
          have AF : Hid (ansF t ⟨kind, id, n, ser, ids, err⟩ = ({ t with live := lput t.live id (x0, t.clock + n) }, err == 0)) := by
            show ansF _ _ = _
            rw [AF0.out, GF.out]; simp [hf]
          have hfb := hf
          simp only [fitsB, Bool.and_eq_true, decide_eq_true_eq] at hfb
          obtain ⟨hf1, hf2⟩ := hfb
          have hsum : IntKind.i64.wrap (t.clock + n) = t.clock + n := IntWalk.i64_in _ (by omega)
          clear hf
          obtain ⟨w3, hup, hm3, hmod3⟩ := run_mapUpdate_int (P := Tryz.prog) Y.drew Tryz.underlying140 Tryz.underlying55 (T.out.map.keep (Ext.refl _).drew) id (leaseV (x0, t.clock + n))
          rw [encL_put] at hm3
          simp only [leaseV] at hup
          have b3 := hmod3.keep T.out.blk (by simp; omega)
          have c3 := hmod3.keep AY.out (by simp; omega)
          have l3 := hmod3.keep LY.out (by simp; omega)
          have T3 : Hid (TabAt w3 tb mb { t with live := lput t.live id (x0, t.clock + n) }) := ⟨b3, hm3⟩
          have M3 := Lib.hid (MY.out.trans ((((Ext.refl Y).drew).mod [tb, mb]).trans (hmod3.mono (by simp))))
          obtain ⟨y1, y2⟩ := blk c3
          have KQ : Hid (∀ W : World, W.heap = Y.heap → W.cell? ⟨tb, 1, none⟩ = some (.map (some mb)) ∧ W.cell? ⟨tb, 3, none⟩ = some (.int .i64 t.clock) ∧ W.cell? ⟨w.heap.size, 1, none⟩ = some (.int .u64 id) ∧ W.cell? ⟨w.heap.size, 2, none⟩ = some (.int .i64 n) ∧ W.cell? ⟨w.heap.size + 1, 0, none⟩ = some (.int .u32 x0)) := by
            intro W hW
            obtain ⟨p1, _⟩ := blk (w := W) (b := tb) (by rw [hW]; exact T.out.blk)
            obtain ⟨p2, _⟩ := blk (w := W) (b := w.heap.size) (by rw [hW]; exact AY.out)
            obtain ⟨p3, _⟩ := blk (w := W) (b := w.heap.size + 1) (by rw [hW]; exact LY.out)
            exact ⟨by rw [p1]; rfl, by rw [p1]; rfl, by rw [p2]; rfl, by rw [p2]; rfl, by rw [p3]; rfl⟩
          have KQ3 : Hid (w3.cell? ⟨tb, 1, none⟩ = some (.map (some mb)) ∧ w3.cell? ⟨tb, 3, none⟩ = some (.int .i64 t.clock) ∧ w3.cell? ⟨w.heap.size, 1, none⟩ = some (.int .u64 id) ∧ w3.cell? ⟨w.heap.size, 2, none⟩ = some (.int .i64 n) ∧ w3.cell? ⟨w.heap.size + 1, 0, none⟩ = some (.int .u32 x0)) := by
            obtain ⟨p1, _⟩ := blk b3
            obtain ⟨p3, _⟩ := blk l3
            exact ⟨by rw [p1]; rfl, by rw [p1]; rfl, by rw [y1]; rfl, by rw [y1]; rfl, by rw [p3]; rfl⟩
          clear hmod3 hm3 b3 c3 l3
          go_wp2_with (go_at_call 119; refine (HFT.out _).mono ?_; rintro e w' ⟨rfl, rfl⟩)
          go_region_held3 (fun W => W.cell? ⟨tb, 1, none⟩ = some (.map (some mb)) ∧ W.cell? ⟨tb, 3, none⟩ = some (.int .i64 t.clock) ∧ W.cell? ⟨w.heap.size, 1, none⟩ = some (.int .u64 id) ∧ W.cell? ⟨w.heap.size, 2, none⟩ = some (.int .i64 n) ∧ W.cell? ⟨w.heap.size + 1, 0, none⟩ = some (.int .u32 x0)) (first | exact KQ.out _ rfl | exact KQ3.out) (fail)
          go_wp2
          go_ret
          exact ⟨ret_bool (by rw [AF.out]), by rw [AF.out]; exact T3.out, M3.out⟩
    have q3 : (kind == 3) = false := by simpa using h3
    by_cases h4 : kind = 4
    · have q4 : (kind == 4) = true := by simpa using h4
      have AF0 : Hid (ansF t ⟨kind, id, n, ser, ids, err⟩ = releaseF t ⟨kind, id, n, ser, ids, err⟩) := by
        show ansF _ _ = _
        unfold ansF; rw [if_neg h1, if_neg h2, if_neg h3, if_pos h4]
      clear h1 h2 h3 h4
      have GF : Hid (releaseF t ⟨kind, id, n, ser, ids, err⟩ = match lget t.live id with | none => (t, err == 160) | some _ => ({ t with live := ldel t.live id }, err == 0)) := rfl
      generalize lget t.live id = og at *
      cases og with
      | none =>
        have AF := Lib.hid (AF0.out.trans GF.out)
        simp only [Option.getD_none, Option.isSome_none] at *
        go_wp2
        go_ret
        exact ⟨ret_bool (by rw [AF.out]), by rw [AF.out]; exact T.out, MY.out⟩
      | some xx =>
        have AF := Lib.hid (AF0.out.trans GF.out)
        obtain ⟨x0, x1⟩ := xx
        simp only [Option.getD_some, Option.isSome_some] at *
        obtain ⟨w3, hdel, hm3, hmod3⟩ := run_delete_map (P := Tryz.prog) Y.drew Tryz.underlying140 Tryz.underlying55 (T.out.map.keep (Ext.refl _).drew) id
        rw [encL_del] at hm3
        have b3 := hmod3.keep T.out.blk (by simp; omega)
        have c3 := hmod3.keep AY.out (by simp; omega)
        have T3 : Hid (TabAt w3 tb mb { t with live := ldel t.live id }) := ⟨b3, hm3⟩
        have M3 := Lib.hid (MY.out.trans ((((Ext.refl Y).drew).mod [tb, mb]).trans (hmod3.mono (by simp))))
        obtain ⟨y1, y2⟩ := blk c3
        have KQ : Hid (∀ W : World, W.heap = Y.heap → W.cell? ⟨tb, 1, none⟩ = some (.map (some mb)) ∧ W.cell? ⟨w.heap.size, 1, none⟩ = some (.int .u64 id)) := by
          intro W hW
          obtain ⟨p1, _⟩ := blk (w := W) (b := tb) (by rw [hW]; exact T.out.blk)
          obtain ⟨p2, _⟩ := blk (w := W) (b := w.heap.size) (by rw [hW]; exact AY.out)
          exact ⟨by rw [p1]; rfl, by rw [p2]; rfl⟩
        have KQ3 : Hid (w3.cell? ⟨tb, 1, none⟩ = some (.map (some mb)) ∧ w3.cell? ⟨w.heap.size, 1, none⟩ = some (.int .u64 id)) := by
          obtain ⟨p1, _⟩ := blk b3
          exact ⟨by rw [p1]; rfl, by rw [y1]; rfl⟩
        clear hmod3 hm3 b3 c3
        go_wp2
        go_region_held3 (fun W => W.cell? ⟨tb, 1, none⟩ = some (.map (some mb)) ∧ W.cell? ⟨w.heap.size, 1, none⟩ = some (.int .u64 id)) (first | exact KQ.out _ rfl | exact KQ3.out) (fail)
        go_wp2
        go_ret
        exact ⟨ret_bool (by rw [AF.out]), by rw [AF.out]; exact T3.out, M3.out⟩
    have q4 : (kind == 4) = false := by simpa using h4
    by_cases h5 : kind = 5
    · have q5 : (kind == 5) = true := by simpa using h5
      have AF : Hid (ansF t ⟨kind, id, n, ser, ids, err⟩ = tickF t ⟨kind, id, n, ser, ids, err⟩) := by
        show ansF _ _ = _
        unfold ansF; rw [if_neg h1, if_neg h2, if_neg h3, if_neg h4, if_pos h5]
      clear h1 h2 h3 h4 h5
      go_wp2_with (go_at_call 120; refine (TCK.out _ EY.out).mono ?_; rintro e w3 ⟨rfl, hT3, hM3⟩; have T3 := Lib.hid hT3; have M3 := Lib.hid (MY.out.trans hM3); clear hT3 hM3)
      go_ret
      rw [AF.out]
      exact ⟨rfl, T3.out, M3.out⟩
    have q5 : (kind == 5) = false := by simpa using h5
    have AF : Hid (ansF t ⟨kind, id, n, ser, ids, err⟩ = (t, false)) := by
      show ansF _ _ = _
      unfold ansF; rw [if_neg h1, if_neg h2, if_neg h3, if_neg h4, if_neg h5]
    clear h1 h2 h3 h4 h5
    go_wp2
    go_ret
    exact ⟨ret_bool (by rw [AF.out]), by rw [AF.out]; exact T.out, MY.out⟩

end Go.Proofs.Eff

/- audit.Handles. -/
namespace Go.Proofs.Eff
open Go.RowKit

/-- Acts lie in memory from an address on, each with its slice of numbers. -/
structure ActAt (w : World) (b o : Nat) (a : HAct) (ad : Option Addr) (c : Nat) : Prop where
  c0 : w.cell? ⟨b, o, none⟩ = some (.int .i64 a.kind)
  c1 : w.cell? ⟨b, o + 1, none⟩ = some (.int .u64 a.id)
  c2 : w.cell? ⟨b, o + 2, none⟩ = some (.int .i64 a.n)
  c3 : w.cell? ⟨b, o + 3, none⟩ = some (.int .u32 a.ser)
  c4 : w.cell? ⟨b, o + 4, none⟩ = some (.slice ad a.ids.length c)
  c5 : w.cell? ⟨b, o + 5, none⟩ = some (.int .i64 a.err)
  ids : IdsAt w ad a.ids
  len : a.ids.length ≤ 9223372036854775807
def ActsAt (w : World) (ad : Option Addr) (acts : List HAct) : Prop := 0 < acts.length → ∃ b off, ad = some ⟨b, off, none⟩ ∧ b < w.heap.size ∧ ∀ k a, acts[k]? = some a → ∃ ad c, ActAt w b (off + k * 6) a ad c
theorem ActAt.mod {S : List Nat} {w w' : World} {b o : Nat} {a : HAct} {ad : Option Addr} {c : Nat} (h : ActAt w b o a ad c) (hb : b < w.heap.size) (hm : Mod S w w') (hS : ∀ x, x ∈ S → w.heap.size ≤ x) : ActAt w' b o a ad c := by
  have e : ∀ o, w'.cell? ⟨b, o, none⟩ = w.cell? ⟨b, o, none⟩ := fun o => World.cell?_of_block (a := ⟨b, o, none⟩) (hm.block b hb (fun hx => by have := hS b hx; omega))
  refine ⟨by rw [e]; exact h.c0, by rw [e]; exact h.c1, by rw [e]; exact h.c2, by rw [e]; exact h.c3, by rw [e]; exact h.c4, by rw [e]; exact h.c5, ?_, h.len⟩
  intro h0
  obtain ⟨g, off, e1, e2, e3⟩ := h.ids h0
  refine ⟨g, off, e1, Nat.lt_of_lt_of_le e2 hm.size, fun j u hj => ?_⟩
  have h4 := e3 j u hj
  have hbk := hm.block g e2 (fun hx => by have := hS g hx; omega)
  rw [World.cell?_of_block (w := w) (a := (⟨g, off, none⟩ : Addr).add j) (by rw [add_block]; exact hbk)]
  exact h4

set_option maxRecDepth 100000 in
set_option maxHeartbeats 1000000 in
theorem Handles_bad (cap first : Int) (v : Value) (w : World) (h : badTab cap first = true) :
    Calls Tryz.prog 17 #[.int .i64 cap, .int .u64 first, v] w (FindR w (10, 0)) := by
  unfold badTab at h
  by_cases h1 : cap < 1
  · have d1 : decide (cap < 1) = true := by simpa using h1
    clear h h1
    go_enter Tryz.func17, Tryz.ntmps17
    go_wp2
    refine bodyPost_ret (v := .agg #[.int .i64 10, .int .i64 0]) (by simp [results, Tryz.results17, go_sem]) rfl ⟨rfl, (Ext.refl _).alloc _⟩
  by_cases h2 : 256 < cap
  · have d1 : decide (cap < 1) = false := by simpa using h1
    have d2 : decide (256 < cap) = true := by simpa using h2
    clear h h1 h2
    go_enter Tryz.func17, Tryz.ntmps17
    go_wp2
    refine bodyPost_ret (v := .agg #[.int .i64 10, .int .i64 0]) (by simp [results, Tryz.results17, go_sem]) rfl ⟨rfl, (Ext.refl _).alloc _⟩
  have d1 : decide (cap < 1) = false := by simpa using h1
  have d2 : decide (256 < cap) = false := by simpa using h2
  have d3 : (first == 0) = true := by rw [d1, d2] at h; simpa using h
  clear h h1 h2
  go_enter Tryz.func17, Tryz.ntmps17
  go_wp2
  refine bodyPost_ret (v := .agg #[.int .i64 10, .int .i64 0]) (by simp [results, Tryz.results17, go_sem]) rfl ⟨rfl, (Ext.refl _).alloc _⟩

theorem Ext.of_mod {S : List Nat} {a w w' : World} (h : Ext a w) (k : Mod S w w') (hS : ∀ x, x ∈ S → a.heap.size ≤ x) : Ext a w' :=
  ⟨k.os.trans h.os, k.tape.trans h.tape, k.output.trans h.output, Nat.le_trans h.size k.size, fun i hi => (k.block i (Nat.lt_of_lt_of_le hi h.size) (fun hx => by have := hS i hx; omega)).trans (h.block hi)⟩
theorem ActAt.keep {w w' : World} {b o : Nat} {a : HAct} {ad : Option Addr} {c : Nat} (h : ActAt w b o a ad c) (hb : b < w.heap.size) (hE : Ext w w') : ActAt w' b o a ad c := h.mod hb (hE.mod []) (by simp)
theorem hgo_step {t : TabS} {acts : List HAct} {k : Nat} {a : HAct} (h : acts[k]? = some a) : hgo t k (acts.drop k) = if (ansF t a).2 then hgo (ansF t a).1 (k + 1) (acts.drop (k + 1)) else (30, (k : Int)) := by
  obtain ⟨hk, rfl⟩ := List.getElem?_eq_some_iff.1 h
  rw [List.drop_eq_getElem_cons hk]; rfl

set_option maxRecDepth 100000 in
set_option maxHeartbeats 2000000 in
theorem Handles_ok (cap first : Int) (ad : Option Addr) (c : Nat) (acts : List HAct) (w : World) (h : badTab cap first = false) (hf0 : 0 ≤ first) (hf1 : first < 18446744073709551616) (ha : ActsAt w ad acts) (hal : acts.length ≤ 9223372036854775807) :
    Calls Tryz.prog 17 #[.int .i64 cap, .int .u64 first, .slice ad acts.length c] w (FindR w (handF cap first acts)) := by
  have hmm := @run_makeMap Tryz.prog
  have HF : Hid (handF cap first acts = hgo ⟨cap, [], first, 0⟩ 0 acts) := by
    show handF _ _ _ = _
    unfold handF; rw [h]; rfl
  unfold badTab at h
  simp only [Bool.or_eq_false_iff] at h
  obtain ⟨⟨d1, d2⟩, d3⟩ := h
  have hc1 : 1 ≤ cap := by simpa using d1
  have hc2 : cap ≤ 256 := by simpa using d2
  have HA := Lib.hid ha
  rw [HF.out]
  obtain ⟨r, hr⟩ : ∃ r, r = hgo ⟨cap, [], first, 0⟩ 0 acts := ⟨_, rfl⟩
  rw [← hr]
  have HR := Lib.hid hr
  clear ha hr HF
  go_enter Tryz.func17, Tryz.ntmps17
  go_wp2
  have T0 : TabAt (((w.alloc (.cells #[.int .i64 0, .int .i64 0] 51)).alloc (.map #[] 0)).alloc (.cells #[.int .i64 cap, .map (some (w.heap.size + 1)), .int .u64 first, .int .i64 0] 142)) (w.heap.size + 1 + 1) (w.heap.size + 1) ⟨cap, [], first, 0⟩ := ⟨newB _ _ _ (by simp), (MapAt.new (w.alloc (.cells #[.int .i64 0, .int .i64 0] 51)) _ (by simp) _).keep ((Ext.refl _).alloc _)⟩
  have B0 : (((w.alloc (.cells #[.int .i64 0, .int .i64 0] 51)).alloc (.map #[] 0)).alloc (.cells #[.int .i64 cap, .map (some (w.heap.size + 1)), .int .u64 first, .int .i64 0] 142)).heap[w.heap.size]? = some (.cells #[.int .i64 0, .int .i64 0] 51) := keepB (keepB (newB _ _ _ rfl) _) _
  have E0 : Ext w (((w.alloc (.cells #[.int .i64 0, .int .i64 0] 51)).alloc (.map #[] 0)).alloc (.cells #[.int .i64 cap, .map (some (w.heap.size + 1)), .int .u64 first, .int .i64 0] 142)) := (((Ext.refl _).alloc _).alloc _).alloc _
  have TT := Lib.hid T0
  have BB := Lib.hid B0
  have EE := Lib.hid E0
  clear T0 B0 E0
  generalize ((w.alloc (.cells #[.int .i64 0, .int .i64 0] 51)).alloc (.map #[] 0)).alloc (.cells #[.int .i64 cap, .map (some (w.heap.size + 1)), .int .u64 first, .int .i64 0] 142) = X at *
  obtain ⟨tb, htb⟩ : ∃ n, n = w.heap.size + 1 + 1 := ⟨_, rfl⟩
  obtain ⟨mb, hmb⟩ : ∃ n, n = w.heap.size + 1 := ⟨_, rfl⟩
  obtain ⟨rb, hrb⟩ : ∃ n, n = w.heap.size := ⟨_, rfl⟩
  rw [← htb, ← hmb] at TT
  rw [← hrb] at BB
  rw [← htb, ← hmb, ← hrb]
  have hord : w.heap.size ≤ rb ∧ rb < mb ∧ mb < tb := by omega
  clear htb hmb hrb
  obtain ⟨ho1, ho2, ho3⟩ := hord
  have OK0 : Hid (TabOK ⟨cap, [], first, 0⟩) := ⟨hc1, hc2, hf0, hf1, by simp, by simp, by simp; omega, by simp⟩
  go_loopw [28] (fun i wr => ∃ (k : Nat) (t : TabS), k ≤ acts.length ∧ i = .int .i64 k ∧ TabAt wr tb mb t ∧ TabOK t ∧ hgo t k (acts.drop k) = r ∧ wr.heap[rb]? = some (.cells #[.int .i64 0, .int .i64 0] 51) ∧ Ext w wr) (fun i _ => acts.length - (intOf i).toNat)
  case atStart => exact ⟨0, _, by omega, rfl, TT.out, OK0.out, HR.out.symm, BB.out, EE.out⟩
  case round =>
    obtain ⟨k, t, hk, rfl, hT, hO, hH, hB, hE⟩ := hrel
    have T := Lib.hid hT
    have O := Lib.hid hO
    have H := Lib.hid hH
    have B := Lib.hid hB
    have E := Lib.hid hE
    clear hT hO hH hB hE
    by_cases hlt : k < acts.length
    · obtain ⟨b, off, rfl, hb, hacts⟩ := HA.out (by omega)
      obtain ⟨a, hak⟩ : ∃ a, acts[k]? = some a := ⟨acts[k], by simp [hlt]⟩
      obtain ⟨ad2, c2, hat⟩ := hacts k a hak
      have ST := Lib.hid (hgo_step (t := t) hak)
      have hatr := hat.keep hb E.out
      have ANS : Hid (∀ W, Ext wr W → Calls Tryz.prog 65 #[.pointer (some ⟨tb, 0, none⟩), .agg (actC a ad2 c2)] W (AnsR W tb mb (ansF t a))) := by
        intro W hW
        have hw := (hat.keep hb (E.out.trans hW))
        refine answer65 (T.out.keep hW) O.out a ad2 c2 hw.ids ?_ hat.len
        intro h0 g o e1
        obtain ⟨g', o', e2, e3, _⟩ := hat.ids h0
        rw [e1] at e2; cases e2
        omega
      have OKN := Lib.hid (ansF_ok O.out a)
      have a0 := hatr.c0
      have a1 := hatr.c1
      have a2 := hatr.c2
      have a3 := hatr.c3
      have a4 := hatr.c4
      have a5 := hatr.c5
      generalize ansF t a = res at *
      obtain ⟨t2, bb⟩ := res
      obtain ⟨kind, id, n, ser, ids, err⟩ := a
      unfold actC at ANS
      simp only at *
      generalize ids.length = il at *
      clear hat hatr hak hacts
      have hki : (k : Int) < (acts.length : Int) := by omega
      have hbw : rb < wr.heap.size := lt_of_block B.out
      cases bb with
      | true =>
        have HN : Hid (hgo t2 (k + 1) (acts.drop (k + 1)) = r) := by
          show _ = _
          have := ST.out; rw [H.out] at this; simpa using this.symm
        go_wp2_with (go_at_call 65; refine (ANS.out _ ((Ext.refl _).alloc _)).mono ?_; rintro e w2 ⟨rfl, hT2, hM2⟩; have T2 := Lib.hid hT2; have M2 := Lib.hid hM2; clear hT2 hM2)
        have E2 := Lib.hid ((E.out.alloc (.cells #[.int .i64 kind, .int .u64 id, .int .i64 n, .int .u32 ser, .slice ad2 il c2, .int .i64 err] 90)).of_mod M2.out (by intro x hx; simp at hx; omega))
        have B2 := Lib.hid (M2.out.keep (keepB B.out _) (by simp; omega))
        go_roundw
        case rel => exact ⟨k + 1, t2, by omega, by go_num, T2.out, OKN.out, HN.out, B2.out, E2.out⟩
        case measure => simp [intOf]; omega
      | false =>
        have RK : Hid (r = (30, (k : Int))) := by
          show _ = _
          have := ST.out; rw [H.out] at this; simpa using this
        go_wp2_with (go_at_call 65; refine (ANS.out _ ((Ext.refl _).alloc _)).mono ?_; rintro e w2 ⟨rfl, hT2, hM2⟩; have M2 := Lib.hid hM2; have B2 := Lib.hid (hM2.keep (keepB B.out _) (by simp; omega)); obtain ⟨y1, y2⟩ := blk B2.out; clear hT2 hM2)
        have E2 := Lib.hid ((E.out.alloc (.cells #[.int .i64 kind, .int .u64 id, .int .i64 n, .int .u32 ser, .slice ad2 il c2, .int .i64 err] 90)).of_mod M2.out (by intro x hx; simp at hx; omega))
        have hZ := set2 B2.out (.int .i64 30) (.int .i64 (k : Int))
        have XF : Ext w ((w2.setCell ⟨rb, 0, none⟩ (.int .i64 30)).setCell ⟨rb, 1, none⟩ (.int .i64 (k : Int))) := (Ext.setCell E2.out (p := ⟨rb, 0, none⟩) ho1 _).setCell (p := ⟨rb, 1, none⟩) ho1 _
        generalize (w2.setCell ⟨rb, 0, none⟩ (.int .i64 30)).setCell ⟨rb, 1, none⟩ (.int .i64 (k : Int)) = Z at *
        obtain ⟨z1, z2⟩ := blk hZ
        refine bodyPost_ret (v := .agg #[.int .i64 30, .int .i64 (k : Int)]) (by simp [results, Tryz.results17, go_sem, z1]) rfl ⟨by rw [RK.out], XF⟩
    · obtain rfl : k = acts.length := by omega
      have RK : Hid (r = (0, 0)) := by
        have := H.out; rw [List.drop_length] at this; exact this.symm
      obtain ⟨y1, y2⟩ := blk B.out
      have hbw : rb < wr.heap.size := lt_of_block B.out
      go_wp2
      have hZ := set2 B.out (.int .i64 0) (.int .i64 0)
      have XF : Ext w ((wr.setCell ⟨rb, 0, none⟩ (.int .i64 0)).setCell ⟨rb, 1, none⟩ (.int .i64 0)) := (Ext.setCell E.out (p := ⟨rb, 0, none⟩) ho1 _).setCell (p := ⟨rb, 1, none⟩) ho1 _
      generalize (wr.setCell ⟨rb, 0, none⟩ (.int .i64 0)).setCell ⟨rb, 1, none⟩ (.int .i64 0) = Z at *
      obtain ⟨z1, z2⟩ := blk hZ
      refine bodyPost_ret (v := .agg #[.int .i64 0, .int .i64 0]) (by simp [results, Tryz.results17, go_sem, z1]) rfl ⟨by rw [RK.out], XF⟩

end Go.Proofs.Eff

/- effigylaw24.awake. -/
namespace Go.Proofs.Eff
open Go.RowKit

theorem stood51 : Tryz.prog.stoodInHeld 51 = false := by kernel_rfl
theorem under51 : Tryz.prog.underlying 51 = some (.struct (Tryz.prog.fieldsOf 51)) := by kernel_rfl
theorem names51 : (Tryz.prog.fieldsOf 51).toList.map (fun f => (f.name, f.type, f.offset)) = [("Kind", 49, 0), ("At", 3, 1)] := by kernel_rfl
theorem two_fields {fs : List Field} {a b : String × TypeId × Nat} (h : fs.map (fun f => (f.name, f.type, f.offset)) = [a, b]) : ∃ f0 f1, fs = [f0, f1] := by
  have hl := congrArg List.length h
  simp at hl
  rcases fs with _ | ⟨f0, _ | ⟨f1, _ | ⟨f2, fs⟩⟩⟩ <;> simp at hl
  exact ⟨_, _, rfl⟩
theorem run_equalIn51 (w : World) (a0 a1 b0 b1 : Int) : (Op.equalIn 10000 51 (.agg #[.int .i64 a0, .int .i64 a1]) (.agg #[.int .i64 b0, .int .i64 b1])).run Tryz.prog w = .ok (decide ((a0, a1) = (b0, b1))) w := by
  rw [run_equalIn_struct w 9999 51 _ _ under51 stood51]
  have hn := names51
  generalize (Tryz.prog.fieldsOf 51).toList = fs at hn
  obtain ⟨f0, f1, rfl⟩ := two_fields hn
  simp only [List.map_cons, List.map_nil, List.cons.injEq, Prod.mk.injEq, and_true] at hn
  obtain ⟨⟨n0, t0, o0⟩, n1, t1, o1⟩ := hn
  rw [eqFields_int _ w 9998 _ _ f0 _ .i64 .i64 a0 b0 (by rw [n0]; decide) (by rw [t0]; exact Tryz.underlying49) (by rw [o0]; rfl) (by rw [o0]; rfl),
    eqFields_int _ w 9998 _ _ f1 _ .i64 .i64 a1 b1 (by rw [n1]; decide) (by rw [t1]; exact Tryz.underlying3) (by rw [o1]; rfl) (by rw [o1]; rfl)]
  simp only [Op.eqFields, Sem.run_pure]
  by_cases h0 : a0 = b0 <;> by_cases h1 : a1 = b1 <;> simp [h0, h1]
theorem run_eql51 (w : World) (a0 a1 b0 b1 : Int) : (binOp .eql 51 (.agg #[.int .i64 a0, .int .i64 a1]) (.agg #[.int .i64 b0, .int .i64 b1])).run Tryz.prog w = .ok (.bool (decide ((a0, a1) = (b0, b1)))) w := by
  rw [run_eql_struct, run_equalIn51]; rfl
theorem run_neq51 (w : World) (a0 a1 b0 b1 : Int) : (binOp .neq 51 (.agg #[.int .i64 a0, .int .i64 a1]) (.agg #[.int .i64 b0, .int .i64 b1])).run Tryz.prog w = .ok (.bool (!decide ((a0, a1) = (b0, b1)))) w := by
  rw [run_neq_struct, run_equalIn51]; rfl

theorem num13 (n : Int) (w : World) : Calls Tryz.prog 13 #[.int .i64 n] w fun e w' => e = .returned (.int .i64 n) ∧ w = w' := by
  go_enter Tryz.func13, Tryz.ntmps13
  go_wp2
  go_ret
  exact ⟨rfl, rfl⟩
def HLoc.above (L : HLoc) (n : Nat) : Prop := ∀ x, x ∈ L.blocks → n ≤ x
theorem fresh_above {L : HLoc} {n : Nat} (h : L.fresh n) : L.above n := by
  intro x hx
  obtain ⟨h1, h2, h3, h4⟩ := h
  simp only [HLoc.blocks, List.mem_cons, List.not_mem_nil, or_false] at hx
  rcases hx with rfl | rfl | rfl | rfl <;> assumption
theorem above_zero {L : HLoc} {n : Nat} (h : L.above n) (hn : 0 < n) : ¬ 0 ∈ L.blocks := fun hx => by have := h 0 hx; omega

set_option maxRecDepth 100000 in
set_option maxHeartbeats 2000000 in
theorem awake9 {w : World} (hs : Spares w) : Calls Tryz.prog 9 #[] w fun e w' => e = .returned (.bool true) ∧ Ext w w' := by
  have hp := hs.pos
  have HS := Lib.hid hs
  have NEW := Lib.hid (New_ok 64 (by omega) (by omega) w)
  have e51 : ∀ w, (binOp .eql 51 (.agg #[.int .i64 0, .int .i64 0]) (.agg #[.int .i64 0, .int .i64 0])).run Tryz.prog w = .ok (.bool true) w := fun w => by rw [run_eql51]; rfl
  clear hs
  go_enter Tryz.func9, Tryz.ntmps9
  go_wp2_with fail
  refine NEW.out.mono ?_
  rintro e w1 ⟨L1, rfl, hA1, hE1, hf1⟩
  have A1 := Lib.hid hA1
  have E1 := Lib.hid hE1
  have F1 := Lib.hid (fresh_above hf1)
  have S1 := Lib.hid (HS.out.kept hE1 hp)
  clear hA1 hE1 hf1
  go_wp2_with fail
  refine (num13 _ _).mono ?_
  rintro e w' ⟨rfl, rfl⟩
  go_wp2_with fail
  have AL1 := Lib.hid (Alloc_ok A1.out (emptyH_wf 64 (by omega) (by omega)) S1.out 0 1 1 (by omega) (by omega) (by omega) (by omega) (by omega) (by omega) (by decide) (by decide) (by decide) (above_zero F1.out hp))
  refine AL1.out.mono ?_
  rintro e w2 ⟨rfl, L2, hb2, hA2, hM2, hf2⟩
  have A2 : Hid (HeapAt w2 L2 awkA) := hA2
  have E2 := Lib.hid (E1.out.of_mod hM2 F1.out)
  have F2 : Hid (L2.above w.heap.size) := fun x hx => by
    rcases hf2 x hx with h | h
    · exact F1.out x h
    · have := E1.out.size; omega
  have S2 := Lib.hid (HS.out.kept E2.out hp)
  have HB2 := Lib.hid hb2
  clear hA2 hM2 hf2 hb2 AL1 A1 S1
  go_wp2_with fail
  have AL2 := Lib.hid (Alloc_ok A2.out awkA_wf S2.out 0 3 2 (by omega) (by omega) (by omega) (by omega) (by omega) (by omega) (by decide) (by decide) (by decide) (above_zero F2.out hp))
  rw [HB2.out] at AL2
  refine AL2.out.mono ?_
  rintro e w3 ⟨rfl, L3, hb3, hA3, hM3, hf3⟩
  have A3 : Hid (HeapAt w3 L3 awkB) := hA3
  have E3 := Lib.hid (E2.out.of_mod hM3 F2.out)
  have F3 : Hid (L3.above w.heap.size) := fun x hx => by
    rcases hf3 x hx with h | h
    · exact F2.out x h
    · have := E2.out.size; omega
  have HB3 : Hid (L3.b = L1.b) := hb3.trans HB2.out
  clear hA3 hM3 hf3 hb3 AL2 A2 S2
  go_wp2_with fail
  have SR := Lib.hid (SetRoot_ok A3.out awkB_wf 3 2 (by omega) (by omega) (by omega) (by omega) (by decide))
  rw [HB3.out] at SR
  refine SR.out.mono ?_
  rintro e w4 ⟨rfl, hA4, hM4⟩
  have A4 : Hid (HeapAt w4 L3 awkH) := hA4
  have E4 := Lib.hid (E3.out.of_mod hM4 (by intro x hx; exact F3.out x (by simp only [List.mem_singleton] at hx; rw [hx]; simp [HLoc.blocks])))
  clear hA4 hM4 SR A3
  go_wp2_with fail
  have CL := Lib.hid (Clone_ok A4.out awkH_wf)
  rw [HB3.out] at CL
  refine CL.out.mono ?_
  rintro e w5 ⟨L5, rfl, hA5, hE5, hf5⟩
  have A5 := Lib.hid hA5
  have E45 := Lib.hid hE5
  have E5 := Lib.hid (E4.out.trans hE5)
  have F5 := Lib.hid hf5
  clear hA5 hE5 hf5 CL
  go_wp2_with fail
  have CO := Lib.hid (Collect_ok A5.out awkH_wf awkH_sound (HS.out.kept E5.out hp))
  refine CO.out.mono ?_
  rintro e w6 ⟨⟨vv, rfl⟩, L6, hb6, hA6, hM6, _⟩
  have A6 := Lib.hid hA6
  have E46 := Lib.hid (Mod.ext_of_new E45.out hM6 F5.out.1)
  have E6 := Lib.hid (E4.out.trans E46.out)
  have HB6 := Lib.hid hb6
  clear hA6 hM6 hb6 CO A5
  go_wp2_with fail
  have C1 := Lib.hid (Collection_ok (A4.out.keep E46.out) awkH_wf awkH_sound A6.out (collect_wf awkH_wf awkH_sound) (collect_sound awkH_wf awkH_sound) (HS.out.kept E6.out hp))
  rw [coll_self awkH_wf awkH_sound, HB3.out, HB6.out] at C1
  refine C1.out.mono ?_
  rintro e w7 ⟨rfl, hE7⟩
  have E47 := Lib.hid (E46.out.trans hE7)
  clear hE7 C1
  go_wp2_with fail
  have E48 := Lib.hid (E47.out.alloc (.cells #[.int .i64 0, .int .i64 0] 51))
  have C2 := Lib.hid (Collection_ok (A4.out.keep E48.out) awkH_wf awkH_sound (A4.out.keep E48.out) awkH_wf awkH_sound (HS.out.kept (E4.out.trans E48.out) hp))
  rw [awk_dead, HB3.out] at C2
  refine C2.out.mono ?_
  rintro e w8 ⟨rfl, hE8⟩
  have E8 := Lib.hid hE8
  have n1 := hE8.keep (newB w7 (.cells #[.int .i64 0, .int .i64 0] 51) _ rfl)
  have N1 := Lib.hid n1
  clear hE8 C2 n1
  go_wp2_with fail
  have HN := Lib.hid (Handles_bad 0 1 (.slice none 0 0) (w8.alloc (.cells #[.int .i64 12, .int .i64 2] 51)) rfl)
  refine HN.out.mono ?_
  rintro e w9 ⟨rfl, hE9⟩
  have m1 := hE9.keep (keepB N1.out _)
  have m2 := hE9.keep (newB w8 (.cells #[.int .i64 12, .int .i64 2] 51) _ rfl)
  obtain ⟨p1, p2⟩ := blk m1
  obtain ⟨p3, p4⟩ := blk m2
  have l1 := lt_of_block m1
  have l2 := lt_of_block m2
  have E9 := Lib.hid hE9
  clear hE9 m1 m2 HN
  go_wp2
  go_ret
  exact ⟨rfl, ((((E4.out.trans E48.out).trans E8.out).alloc _).trans E9.out).alloc _⟩

end Go.Proofs.Eff

/- effigyref24: same, gone. -/
namespace Go.Proofs.Eff
open Go.RowKit

set_option maxRecDepth 100000 in
set_option maxHeartbeats 1000000 in
theorem same67 {w : World} {a b : Option Addr} {c d : Nat} {l m : List Int} (h1 : IdsAt w a l) (h2 : IdsAt w b m) (hl : l.length ≤ 9223372036854775807) (_hm : m.length ≤ 9223372036854775807) :
    Calls Tryz.prog 67 #[.slice a l.length c, .slice b m.length d] w fun e w' => e = .returned (.bool (l == m)) ∧ Ext w w' := by
  by_cases hlen : l.length = m.length
  · have q1 : ((l.length : Int) != (m.length : Int)) = false := by simp [hlen]
    have q2 : (l.length != m.length) = false := by simp [hlen]
    have EQ : Hid ((∀ j, j < l.length → wd l j = wd m j) → (l == m) = true) := by
      intro hj
      rw [beq_iff_eq]
      apply List.ext_getElem hlen
      intro i i1 i2
      have := hj i i1
      simpa [wd, i1, i2] using this
    have NE : Hid (∀ j, j < l.length → wd l j ≠ wd m j → (l == m) = false) := by
      intro j hj hne
      rw [beq_eq_false_iff_ne]
      intro e; rw [e] at hne; exact hne rfl
    have H1 := Lib.hid h1
    have H2 := Lib.hid h2
    have HL := Lib.hid hlen
    clear h1 h2 hlen
    go_enter Tryz.func67, Tryz.ntmps67
    go_wp2
    go_loopw [5] (fun i wr => ∃ (k : Nat), k ≤ l.length ∧ i = .int .i64 k ∧ Ext w wr ∧ ∀ j, j < k → wd l j = wd m j) (fun i _ => l.length - (intOf i).toNat)
    case atStart => exact ⟨0, by omega, rfl, Ext.refl _, fun j hj => by omega⟩
    case round =>
      obtain ⟨k, hk, rfl, hE, hA⟩ := hrel
      have E := Lib.hid hE
      have A := Lib.hid hA
      clear hE hA
      by_cases hlt : k < l.length
      · obtain ⟨g1, o1, rfl, hg1, hr1⟩ := H1.out (by omega)
        obtain ⟨g2, o2, rfl, hg2, hr2⟩ := H2.out (by have := HL.out; omega)
        have hlt2 : k < m.length := by have := HL.out; omega
        have c1 : wr.cell? ⟨g1, o1 + k, none⟩ = some (.int .u64 (wd l k)) := by
          rw [rrow_cell (hr1.keep E.out hg1) k (by simpa using hlt)]; simp [u64s, wd, hlt]
        have c2 : wr.cell? ⟨g2, o2 + k, none⟩ = some (.int .u64 (wd m k)) := by
          rw [rrow_cell (hr2.keep E.out hg2) k (by simpa using hlt2)]; simp [u64s, wd, hlt2]
        have i1 : (k : Int) < (l.length : Int) := by omega
        have i2 : (k : Int) < (m.length : Int) := by omega
        have i3 : (0 : Int) ≤ (k : Int) := by omega
        have NEk := Lib.hid (NE.out k hlt)
        have AS : Hid (wd l k = wd m k → ∀ j, j < k + 1 → wd l j = wd m j) := by
          intro he j hj
          by_cases e : j = k
          · rw [e]; exact he
          · exact A.out j (by omega)
        generalize wd l k = x at *
        generalize wd m k = y at *
        by_cases hxy : x = y
        · have q3 : (x != y) = false := by simpa using hxy
          have ASk := Lib.hid (AS.out hxy)
          clear hxy
          go_wp2
          go_quiet (fail)
          go_wp2
          go_roundw
          case rel => exact ⟨k + 1, by omega, by go_num, E.out.drewN _, ASk.out⟩
          case measure => simp [intOf]; omega
        · have q3 : (x != y) = true := by simpa using hxy
          have NF := Lib.hid (NEk.out hxy)
          clear hxy
          go_wp2
          go_quiet (fail)
          go_wp2
          go_ret
          rw [NF.out]
          exact ⟨rfl, E.out.drewN _⟩
      · obtain rfl : k = l.length := by omega
        go_wp2
        go_ret
        rw [EQ.out A.out]
        exact ⟨rfl, E.out⟩
  · have q1 : ((l.length : Int) != (m.length : Int)) = true := by simp; omega
    have q2 : (l.length != m.length) = true := by simpa using hlen
    have F : Hid ((l == m) = false) := by
      show (l == m) = false
      rw [beq_eq_false_iff_ne]
      intro e; rw [e] at hlen; exact hlen rfl
    clear h1 h2 hlen
    rw [F.out]
    go_enter Tryz.func67, Tryz.ntmps67
    go_wp2
    go_ret
    exact ⟨rfl, Ext.refl _⟩


/-! ### Insertion -/
def insAt (ps : List Int) (x : Int) (k : Nat) : List Int := ps.take k ++ x :: ps.drop k
theorem insAt_length (ps : List Int) (x : Int) (k : Nat) : (insAt ps x k).length = ps.length + 1 := by simp [insAt]; omega
theorem insAt_end (ps : List Int) (x : Int) : insAt ps x ps.length = ps ++ [x] := by simp [insAt]
theorem insAt_wd {ps : List Int} {x : Int} {k : Nat} (hk : k ≤ ps.length) (rest : List Int) : wd (insAt ps x k ++ rest) k = x := by
  unfold insAt wd
  rw [List.append_assoc, List.getElem?_append_right (by simp; omega)]
  simp [Nat.min_eq_left hk]
theorem insAt_wd_pred {ps : List Int} {x : Int} {k : Nat} (hk : k < ps.length) (rest : List Int) : wd (insAt ps x (k + 1) ++ rest) k = wd ps k := by
  unfold insAt wd
  rw [List.append_assoc, List.getElem?_append_left (by simp; omega), List.getElem?_take, if_pos (by omega)]
theorem insAt_swap {ps : List Int} {x : Int} {k : Nat} (hk : k < ps.length) (rest : List Int) : ((insAt ps x (k + 1) ++ rest).set k x).set (k + 1) (wd ps k) = insAt ps x k ++ rest := by
  have e1 : insAt ps x (k + 1) ++ rest = ps.take k ++ (wd ps k :: x :: (ps.drop (k + 1) ++ rest)) := by
    unfold insAt
    have : wd ps k = ps[k] := by simp [wd, hk]
    rw [this, List.take_succ_eq_append_getElem hk]; simp only [List.append_assoc, List.cons_append, List.nil_append]
  have e2 : insAt ps x k ++ rest = ps.take k ++ (x :: wd ps k :: (ps.drop (k + 1) ++ rest)) := by
    unfold insAt
    have : wd ps k = ps[k] := by simp [wd, hk]
    rw [this, List.drop_eq_getElem_cons hk]; simp only [List.append_assoc, List.cons_append]
  have hl : (ps.take k).length = k := by simp; omega
  rw [e1, e2, List.set_append_right _ _ (by omega), hl, Nat.sub_self, List.set_cons_zero, List.set_append_right _ _ (by omega), hl, show k + 1 - k = 1 by omega, List.set_cons_succ, List.set_cons_zero]
theorem insAt_perm (ps : List Int) (x : Int) (k : Nat) : (insAt ps x k).Perm (ps ++ [x]) := by
  unfold insAt
  refine (List.perm_middle).trans ?_
  rw [List.take_append_drop]
  exact (List.perm_append_singleton x ps).symm
theorem insAt_sorted {ps : List Int} {x : Int} {k : Nat} (hs : ps.Pairwise (fun a b => a ≤ b)) (hk : k ≤ ps.length) (h1 : k = 0 ∨ wd ps (k - 1) ≤ x) (h2 : ∀ j, k ≤ j → j < ps.length → x ≤ wd ps j) : (insAt ps x k).Pairwise (fun a b => a ≤ b) := by
  unfold insAt
  have hsp := hs
  rw [← List.take_append_drop k ps, List.pairwise_append] at hsp
  obtain ⟨p1, p2, p3⟩ := hsp
  rw [List.pairwise_append]
  have hx : ∀ b, b ∈ ps.drop k → x ≤ b := by
    intro b hb
    obtain ⟨j, hj, rfl⟩ := List.getElem_of_mem hb
    have hj' : k + j < ps.length := by simp at hj; omega
    have := h2 (k + j) (by omega) hj'
    simpa [wd, hj'] using this
  have hy : ∀ a, a ∈ ps.take k → a ≤ x := by
    intro a ha
    rcases h1 with h1 | h1
    · subst h1; simp at ha
    · by_cases hk0 : k = 0
      · subst hk0; simp at ha
      · obtain ⟨j, hj, rfl⟩ := List.getElem_of_mem ha
        have hj' : j < k := by simp at hj; omega
        have hl : k - 1 < ps.length := by omega
        have e1 : (ps.take k)[j] = ps[j]'(by omega) := by simp
        have e2 : wd ps (k - 1) = ps[k - 1] := by simp [wd, hl]
        rw [e1]
        rw [e2] at h1
        by_cases e : j = k - 1
        · subst e; exact h1
        · have := List.pairwise_iff_getElem.1 hs j (k - 1) (by omega) hl (by omega)
          omega
  refine ⟨p1, List.pairwise_cons.2 ⟨hx, p2⟩, ?_⟩
  intro a ha b hb
  rcases List.mem_cons.1 hb with rfl | hb
  · exact hy a ha
  · exact p3 a ha b hb
def delAll (l : LT) : List Int → LT
  | [] => l
  | k :: r => delAll (ldel l k) r
theorem delAll_snoc (l : LT) (ks : List Int) (k : Int) : delAll l (ks ++ [k]) = ldel (delAll l ks) k := by
  induction ks generalizing l with
  | nil => rfl
  | cons x r ih => exact ih _
theorem delAll_filter {l : LT} (hn : (l.map (·.1)).Nodup) (ks : List Int) : delAll l ks = l.filter fun p => !ks.contains p.1 := by
  induction ks generalizing l with
  | nil => simp [delAll, List.filter_eq_self.2]
  | cons x r ih =>
    have hn2 : ((ldel l x).map (·.1)).Nodup := ((ldel_sub l x).map _).nodup hn
    simp only [delAll]
    rw [ih hn2, ldel_filter hn, List.filter_filter]
    apply List.filter_congr
    intro p _
    simp only [List.contains_cons, Bool.not_or, bne]
    rw [Bool.and_comm]
theorem delAll_gone {l : LT} (hn : (l.map (·.1)).Nodup) {c : Int} {gs : List Int} (hg : gs.Perm ((l.filter fun p => decide (p.2.2 ≤ c)).map (·.1))) : delAll l gs = stayF l c := by
  rw [delAll_filter hn]
  unfold stayF
  apply List.filter_congr
  intro p hp
  have : gs.contains p.1 = decide (p.2.2 ≤ c) := by
    rw [Bool.eq_iff_iff]
    simp only [List.contains_eq_mem, decide_eq_true_eq]
    rw [hg.mem_iff, List.mem_map]
    constructor
    · rintro ⟨q, hq, he⟩
      rw [List.mem_filter] at hq
      have := key_val hn hq.1 hp he
      subst this
      simpa using hq.2
    · intro h
      exact ⟨p, by rw [List.mem_filter]; exact ⟨hp, by simpa using h⟩, rfl⟩
  rw [this]
  by_cases h : p.2.2 ≤ c
  · simp [h]
  · simp [h]; omega

end Go.Proofs.Eff

/- effigyref24.gone: the walk. -/
namespace Go.Proofs.Eff
open Go.RowKit

/-- While the keys that are over are gathered. -/
structure GatI (W0 : World) (mb r : Nat) (l : LT) (c : Int) (v : Value) (left : Int → Bool) (gs : List Int) (wr : World) : Prop where
  rng : RangeAt wr mb r .u64 (encL l) left
  row : wr.ownsRow W0.heap.size 55 1 v gs.length (u64s gs)
  perm : gs.Perm (goneL l c left)
  ext : Ext W0 wr
/-- While they are sorted. -/
structure SrtI (W0 : World) (mb : Nat) (l : LT) (gs : List Int) (ad : Option Addr) (cp : Nat) (i : Nat) (ps : List Int) (wr : World) : Prop where
  map : MapAt wr mb .u64 (encL (delAll l (gs.take i)))
  row : wr.ownsRow W0.heap.size 55 1 (.slice ad gs.length cp) gs.length (u64s (ps ++ gs.drop i))
  perm : ps.Perm (gs.take i)
  srt : ps.Pairwise (fun a b => a ≤ b)
  mod : Mod [mb] W0 wr

theorem SrtI.drewN {W0 : World} {mb : Nat} {l : LT} {gs : List Int} {ad : Option Addr} {cp i : Nat} {ps : List Int} {wr : World} (h : SrtI W0 mb l gs ad cp i ps wr) (n : Nat) : SrtI W0 mb l gs ad cp i ps (wr.drewN n) :=
  ⟨h.map.keep ((Ext.refl _).drewN n), row_keep h.row ((Ext.refl _).drewN n), h.perm, h.srt, h.mod.ext ((Ext.refl _).drewN n)⟩
theorem u64s_get {l : List Int} {j : Nat} (h : j < l.length) : (u64s l)[j]? = some (.int .u64 (wd l j)) := by simp [u64s, wd, h]
theorem u64s_set (l : List Int) (j : Nat) (x : Int) : (u64s l).set j (.int .u64 x) = u64s (l.set j x) := by simp [u64s, List.map_set]

set_option maxRecDepth 100000 in
set_option maxHeartbeats 4000000 in
theorem gone66 {w : World} {mb : Nat} {l : LT} (hm : MapAt w mb .u64 (encL l)) (hk : (l.map (·.1)).Nodup) (hl : l.length ≤ 256) (c : Int) :
    Calls Tryz.prog 66 #[.map (some mb), .int .i64 c] w fun e w' => (∃ ad cp, e = .returned (.slice ad (goneF l c).length cp) ∧ IdsAt w' ad (goneF l c)) ∧ MapAt w' mb .u64 (encL (stayF l c)) ∧ Mod [mb] w w' := by
  obtain ⟨i0, hi, hz0, hz1, hz3⟩ := info_parts Tryz.cinfo55
  have hmbw := hm.lt
  obtain ⟨w1, hrng, hR1, hE1, hs1⟩ := range_start (P := Tryz.prog) Tryz.underlying144 hm
  have I0 : Hid (GatI w mb w.heap.size l c (.slice none 0 0) (fun _ => true) [] w1) := ⟨hR1, World.ownsRow_nil _ _ _ _, by rw [goneL_start], hE1⟩
  have KEYS := Lib.hid hk
  clear hm hR1 hE1 hs1 hk
  go_enter Tryz.func66, Tryz.ntmps66
  go_wp2
  clear hrng
  obtain ⟨r, hr⟩ : ∃ r, r = w.heap.size := ⟨_, rfl⟩
  rw [← hr] at I0 ⊢
  have hrX : w.heap.size ≤ r := by omega
  clear hr
  go_loopg [5] (toCome l (fun _ => true)) (fun g v wr => ∃ left gs, g = toCome l left ∧ GatI w mb r l c v left gs wr)
  case atStart => exact ⟨_, [], rfl, I0.out⟩
  case round =>
    obtain ⟨left, gs, hgk, hI⟩ := hrel
    have I := Lib.hid hI
    have GK := Lib.hid hgk
    have hgs : gs.length ≤ 256 := by
      have := hI.perm.length_eq
      have h2 := List.length_filter_le (fun p : Int × Int × Int => !left p.1 && decide (p.2.2 ≤ c)) l
      simp only [goneL, List.length_map] at this
      omega
    clear hgk hI
    rcases range_next (P := Tryz.prog) I.out.rng (by rw [encL_fst]; exact KEYS.out) 0 with ⟨hd, hnx⟩ | ⟨p, hp, hl2, w2, hnx, hR2, hm2, hen⟩
    · have hall : ∀ q, q ∈ l → left q.1 = false := fun q hq => hd _ (List.mem_map.2 ⟨q, hq, rfl⟩)
      have PM : Hid (gs.Perm ((l.filter fun p => decide (p.2.2 ≤ c)).map (·.1))) := by
        have := I.out.perm
        rw [(cur_end (l := l) (c := c) (left := left) (fun q hq => hall q ((curF_sub _ _ _).subset hq))).2] at this
        exact this
      obtain ⟨ad, cp, hv, hd2⟩ := own_any I.out.row
      have AD := Lib.hid hd2
      have S0 : Hid (SrtI w mb l gs ad cp 0 [] wr) := ⟨I.out.rng.map, by have := I.out.row; rw [hv] at this; simpa using this, by simp, List.Pairwise.nil, I.out.ext.mod _⟩
      subst hv
      clear hd hall hd2
      go_wp2
      go_loopw [8] (fun i wr => ∃ (k : Nat) (ps : List Int), k ≤ gs.length ∧ i = .int .i64 k ∧ SrtI w mb l gs ad cp k ps wr) (fun i _ => gs.length - (intOf i).toNat)
      case atStart => exact ⟨0, [], by omega, rfl, S0.out⟩
      case round =>
        obtain ⟨k, ps, hk, rfl, hS⟩ := hrel
        have S := Lib.hid hS
        clear hS
        by_cases hlt : k < gs.length
        · obtain ⟨g, rfl, hg1, hg2⟩ := AD.out (by omega)
          have hpl : ps.length = k := by have := S.out.perm.length_eq; rw [List.length_take] at this; omega
          have HPL := Lib.hid hpl
          have hgk : gs.drop k = wd gs k :: gs.drop (k + 1) := by rw [List.drop_eq_getElem_cons hlt]; simp [wd, hlt]
          have ROW : Hid (wr.ownsRow w.heap.size 55 1 (.slice (some ⟨g, 0, none⟩) gs.length cp) gs.length (u64s (insAt ps (wd gs k) k ++ gs.drop (k + 1)))) := by
            have := S.out.row
            rw [hgk] at this
            have e : ps ++ wd gs k :: gs.drop (k + 1) = insAt ps (wd gs k) k ++ gs.drop (k + 1) := by
              rw [← hpl, insAt_end]; simp
            rw [e] at this; exact this
          have hrl : (insAt ps (wd gs k) k ++ gs.drop (k + 1)).length = gs.length := by rw [List.length_append, insAt_length, hpl, List.length_drop]; omega
          have cx : wr.cell? ⟨g, k, none⟩ = some (.int .u64 (wd gs k)) := by
            rw [row_cell ROW.out k hlt, u64s_get (by omega), insAt_wd (by omega)]
          obtain ⟨w3, hdel, hm3, hmod3⟩ := run_delete_map (P := Tryz.prog) wr Tryz.underlying144 Tryz.underlying55 S.out.map (wd gs k)
          rw [encL_del, ← delAll_snoc] at hm3
          have htk : gs.take k ++ [wd gs k] = gs.take (k + 1) := by rw [List.take_succ_eq_append_getElem hlt]; simp [wd, hlt]
          rw [htk] at hm3
          have PN : Hid ((ps ++ [wd gs k]).Perm (gs.take (k + 1))) := by rw [← htk]; exact S.out.perm.append_right _
          have ngm : g ≠ mb := by
            obtain ⟨cs, hcs⟩ := row_cells ROW.out (g := g) rfl
            exact S.out.map.ne_cells hcs
          have ROW3 := Lib.hid (hmod3.row ROW.out (by intro q hq; cases hq; simpa using ngm))
          have MP3 := Lib.hid hm3
          have MD3 := Lib.hid (S.out.mod.trans hmod3)
          have SS := Lib.hid S.out.srt
          generalize wd gs k = x at *
          obtain ⟨rest, hrest⟩ : ∃ rest, rest = gs.drop (k + 1) := ⟨_, rfl⟩
          rw [← hrest] at ROW3 hrl
          rw [List.length_append, insAt_length] at hrl
          have RL := Lib.hid hrl
          have RS := Lib.hid hrest
          clear hm3 hmod3 hgk htk hrl hpl hrest ROW
          have hki : (k : Int) < (gs.length : Int) := by omega
          go_wp2
          clear hdel cx
          go_loopw [9] (fun i wr => ∃ (j : Nat), j ≤ k ∧ i = .int .i64 j ∧ wr.ownsRow w.heap.size 55 1 (.slice (some ⟨g, 0, none⟩) gs.length cp) gs.length (u64s (insAt ps x j ++ rest)) ∧ (∀ m, j ≤ m → m < ps.length → x ≤ wd ps m) ∧ Mod [g] w3 wr) (fun i _ => (intOf i).toNat)
          case atStart => exact ⟨k, by omega, rfl, ROW3.out, fun m h1 h2 => by have := HPL.out; omega, Mod.refl _ _⟩
          case round =>
            obtain ⟨j, hj, rfl, hrow, hge, hmd⟩ := hrel
            have RW := Lib.hid hrow
            have GE := Lib.hid hge
            have MD := Lib.hid hmd
            clear hrow hge hmd
            have FIN : Hid ((j = 0 ∨ wd ps (j - 1) ≤ x) → SrtI w mb l gs (some ⟨g, 0, none⟩) cp (k + 1) (insAt ps x j) wr) := by
              intro h1
              have hpl := HPL.out
              refine ⟨MP3.out.mod MD.out (by simpa using fun e => ngm e.symm), ?_, (insAt_perm ps x j).trans PN.out, insAt_sorted SS.out (by omega) h1 GE.out, MD3.out.via MD.out (by intro z hz; simp at hz; right; omega)⟩
              rw [← RS.out]; exact RW.out
            have hpl := HPL.out
            cases j with
            | zero =>
              have F := Lib.hid (FIN.out (.inl rfl))
              have d1 : decide ((0 : Int) < ((0 : Nat) : Int)) = false := by simp
              clear hpl
              go_wp2
              go_quiet (fail)
              go_wp2
              go_roundw
              case rel => exact ⟨k + 1, insAt ps x 0, by omega, by go_num, F.out.drewN _⟩
              case measure => simp [intOf]; omega
            | succ j =>
              have hjl : j < ps.length := by omega
              have RLo := RL.out
              have c1 : wr.cell? ⟨g, j + 1, none⟩ = some (.int .u64 x) := by
                rw [row_cell RW.out (j + 1) (by omega), u64s_get (by rw [List.length_append, insAt_length]; omega), insAt_wd (by omega)]
              have c2 : wr.cell? ⟨g, j, none⟩ = some (.int .u64 (wd ps j)) := by
                rw [row_cell RW.out j (by omega), u64s_get (by rw [List.length_append, insAt_length]; omega), insAt_wd_pred hjl]
              have f1 := row_free RW.out j
              have f2 := row_free RW.out (j + 1)
              have i1 : (((j + 1 : Nat) : Int)) < (gs.length : Int) := by omega
              have i2 : ((j : Nat) : Int) < (gs.length : Int) := by omega
              have hsub : IntKind.i64.wrap (((j + 1 : Nat) : Int) - 1) = (j : Int) := by rw [show ((j + 1 : Nat) : Int) - 1 = (j : Int) by omega]; exact IntWalk.i64_in _ (by omega)
              have SW : Hid (∀ W : World, W.ownsRow w.heap.size 55 1 (.slice (some ⟨g, 0, none⟩) gs.length cp) gs.length (u64s (insAt ps x (j + 1) ++ rest)) → ((W.setCell ⟨g, j, none⟩ (.int .u64 x)).setCell ⟨g, j + 1, none⟩ (.int .u64 (wd ps j))).ownsRow w.heap.size 55 1 (.slice (some ⟨g, 0, none⟩) gs.length cp) gs.length (u64s (insAt ps x j ++ rest)) ∧ ((W.setCell ⟨g, j + 1, none⟩ (.int .u64 (wd ps j))).setCell ⟨g, j, none⟩ (.int .u64 x)).ownsRow w.heap.size 55 1 (.slice (some ⟨g, 0, none⟩) gs.length cp) gs.length (u64s (insAt ps x j ++ rest))) := by
                intro W hW
                constructor
                · have := row_set (row_set hW j (.int .u64 x)) (j + 1) (.int .u64 (wd ps j))
                  rw [u64s_set, u64s_set, insAt_swap hjl] at this; exact this
                · have := row_set (row_set hW (j + 1) (.int .u64 (wd ps j))) j (.int .u64 x)
                  rw [u64s_set, u64s_set, List.set_comm _ _ (by omega), insAt_swap hjl] at this; exact this
              by_cases hgt : x < wd ps j
              · have d2 : decide (x < wd ps j) = true := by simpa using hgt
                have GE2 : Hid (∀ m, j ≤ m → m < ps.length → x ≤ wd ps m) := by
                  intro m h1 h2
                  by_cases e : m = j
                  · rw [e]; omega
                  · exact GE.out m (by omega) h2
                generalize wd ps j = y at *
                clear hgt hpl
                go_wp2
                go_quiet (fail)
                go_wp2
                go_region
                go_wp2
                refine ⟨⟨j, by omega, rfl, (SW.out _ (row_keep RW.out ((Ext.refl _).drewN _))).1, GE2.out, ?_⟩, by simp [intOf]⟩
                exact (MD.out.ext ((Ext.refl _).drewN _)).trans ((mod_setCell _ ⟨g, j, none⟩ _).trans (mod_setCell _ ⟨g, j + 1, none⟩ _))
              · have d2 : decide (x < wd ps j) = false := by simpa using hgt
                have F := Lib.hid (FIN.out (.inr (by show wd ps (j + 1 - 1) ≤ x; rw [Nat.add_sub_cancel]; omega)))
                generalize wd ps j = y at *
                clear hgt hpl
                go_wp2
                go_quiet (fail)
                go_wp2
                go_roundw
                case rel => exact ⟨k + 1, insAt ps x (j + 1), by omega, by go_num, F.out.drewN _⟩
                case measure => simp [intOf]; omega
        · obtain rfl : k = gs.length := by omega
          have SP : Hid (ps = goneF l c ∧ ps.length = gs.length) := by
            have h1 := S.out.perm
            rw [List.take_length] at h1
            refine ⟨?_, h1.length_eq⟩
            unfold goneF
            have h2 := sort_perm (h1.trans PM.out)
            rw [← h2]
            refine (List.Perm.eq_of_pairwise (le := fun a b : Int => a ≤ b) (fun a b _ _ h1 h2 => by omega) S.out.srt ?_ (List.mergeSort_perm ps _).symm)
            have := List.pairwise_mergeSort (le := fun x y : Int => decide (x ≤ y)) (by intro a b c; simp; omega) (by intro a b; simp; omega) ps
            simpa using this
          go_wp2
          go_ret
          obtain ⟨e1, e2⟩ := SP.out
          have hrow := S.out.row
          rw [List.drop_length, List.append_nil] at hrow
          have hmp := S.out.map
          rw [List.take_length, delAll_gone KEYS.out PM.out] at hmp
          rw [← e1]
          refine ⟨⟨ad, cp, by rw [e2]; rfl, fun h0 => ?_⟩, hmp, S.out.mod⟩
          obtain ⟨g, rfl, _, _⟩ := AD.out (by omega)
          exact ⟨g, 0, rfl, (hrow.lt g rfl).2, row_read hrow⟩
    · obtain ⟨q, hq, rfl⟩ := mem_enc hp
      obtain ⟨k, sr, x⟩ := q
      simp only [leaseV] at hnx hen hl2 hR2
      have I2 : Hid (RangeAt w2 mb r .u64 (encL l) (fun z => left z && z != k)) := hR2
      have rw2 : Hid (w2.ownsRow w.heap.size 55 1 u5 gs.length (u64s gs)) := hm2.row I.out.row (by
        intro g hg
        obtain ⟨cs, hcs⟩ := row_cells I.out.row hg
        have := I.out.rng.ne_cells hcs
        simpa using this)
      have e2 : Hid (Ext w w2) := I.out.ext.of_mod hm2 (by intro z hz; simp at hz; omega)
      have LS := Lib.hid (toCome_less (left := left) hq hl2)
      have HQL := Lib.hid hq
      have HL := Lib.hid hl2
      have GK2 := Lib.hid GK.out
      have PM := Lib.hid I.out.perm
      have hsz2 := e2.out.size
      clear hq hp hl2 hR2 hm2
      by_cases hx : x ≤ c
      · have hd : decide (x ≤ c) = true := by simpa using hx
        have HX := Lib.hid hx
        have R5 : Hid (RangeAt (w2.alloc (.cells #[.int .u32 sr, .int .i64 x] 146)) mb r .u64 (encL l) (fun z => left z && z != k)) := I2.out.alloc _
        have ROW5 : Hid ((w2.alloc (.cells #[.int .u32 sr, .int .i64 x] 146)).ownsRow w.heap.size 55 1 u5 gs.length (u64s gs)) := rw2.out.alloc _
        have NW : Hid (RRow ((w2.alloc (.cells #[.int .u32 sr, .int .i64 x] 146)).alloc (.cells #[.int .u64 k] 55)) ⟨w2.heap.size + 1, 0, none⟩ (u64s [k])) := by
          have := row_read (World.ownsRow_lit (base := 0) (e := 55) (w2.alloc (.cells #[.int .u32 sr, .int .i64 x] 146)) #[.int .u64 k] 1 (Nat.zero_le _) (by unfold maxLen; omega) rfl)
          simp only [World.size_alloc] at this
          exact this
        clear hx
        go_wp2_with (at_builtin; refine wpList_append_own _ rfl _ _ 88 rfl w.heap.size 55 i0 (.int .u64 0) 1 8 Tryz.underlying88 hi hz0 hz1 hz3 rfl (by decide) _ gs.length _ rfl (ROW5.out.alloc _) ⟨w2.heap.size + 1, 0, none⟩ 1 1 (u64s [k]) rfl rfl NW.out (u64s_one _) (by unfold maxLen; omega) (by omega) (by simp; omega) ?_; intro v' w6 hown hgrow hnil)
        have GD := gone_dead KEYS.out HQL.out HL.out HX.out PM.out
        have TI : Hid (GatI w mb r l c v' (fun z => left z && z != k) (gs ++ [k]) w6) := by
          refine ⟨(R5.out.alloc _).grown hgrow (fun g hg => by obtain ⟨cs, hcs⟩ := row_cells (ROW5.out.alloc (.cells #[.int .u64 k] 55)) hg; exact ⟨cs, _, _, hcs⟩), ?_, GD, ?_⟩
          · have e1 : u64s (gs ++ [k]) = u64s gs ++ u64s [k] := by simp [u64s]
            rw [e1, List.length_append]; exact hown
          · exact ((e2.out.alloc _).alloc _).grown hgrow (fun g hg => (ROW5.out.lt g hg).1)
        clear GD hown hgrow hnil hnx hen
        go_roundg (toCome l (fun z => left z && z != k))
        case measure => rw [GK2.out]; exact LS.out
        case rel => exact ⟨_, _, rfl, TI.out⟩
      · have hd : decide (x ≤ c) = false := by simpa using hx
        have HX : Hid (c < x) := by show c < x; omega
        have GD := gone_lives (left := left) KEYS.out HQL.out HX.out
        have TI : Hid (GatI w mb r l c u5 (fun z => left z && z != k) gs (w2.alloc (.cells #[.int .u32 sr, .int .i64 x] 146))) := by
          refine ⟨I2.out.alloc _, rw2.out.alloc _, ?_, e2.out.alloc _⟩
          have hgd : goneL l c left = goneL l c (fun z => left z && z != k) := GD
          rw [← hgd]; exact PM.out
        clear hx GD
        go_wp2
        go_roundg (toCome l (fun z => left z && z != k))
        case measure => rw [GK2.out]; exact LS.out
        case rel => exact ⟨_, _, rfl, TI.out⟩

end Go.Proofs.Eff
