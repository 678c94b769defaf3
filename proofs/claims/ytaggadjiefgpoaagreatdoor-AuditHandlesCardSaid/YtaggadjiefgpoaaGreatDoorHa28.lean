/- effigyref24.Handles: the walk. -/
import Derived.Test.YtaggadjiefgpoaaGreatDoorHa26
namespace Go.Proofs.Eff
open Go.RowKit

theorem find60 (k a : Int) (w : World) : Calls Tryz.prog 60 #[.int .i64 k, .int .i64 a] w fun e w' => e = .returned (.agg #[.int .i64 k, .int .i64 a]) ∧ Ext w w' := by
  go_enter Tryz.func60, Tryz.ntmps60
  go_wp2
  exact bodyPost_ret (v := .agg #[.int .i64 k, .int .i64 a]) (by simp [results, Tryz.results60, go_sem]) rfl ⟨rfl, (Ext.refl _).alloc _⟩
theorem zero146 (w : World) : (zeroValue 146).run Tryz.prog w = .ok (.agg #[.int .u32 0, .int .i64 0]) w := by kernel_rfl
theorem lookB {W : World} {mb : Nat} {l : LT} (hm : MapAt W mb .u64 (encL l)) (k : Int) : (Instr.lookup 144 (.map (some mb)) (.int .u64 k) true).run Tryz.prog W = .ok (.tuple #[.agg #[.int .u32 ((lget l k).getD (0, 0)).1, .int .i64 ((lget l k).getD (0, 0)).2], .bool (lget l k).isSome]) W := by
  have := run_lookup_ok (P := Tryz.prog) W Tryz.underlying144 Tryz.underlying55 hm (.agg #[.int .u32 0, .int .i64 0]) zero146 k
  rw [encL_get] at this
  rw [this]
  cases lget l k <;> rfl
theorem under144 : Tryz.prog.underlying 144 = some (.map (Tryz.prog.mapKeyOf 144) (Tryz.prog.mapElemOf 144)) := by kernel_rfl
theorem ldel_none {l : LT} {k : Int} (h : lget l k = none) : ldel l k = l := by
  induction l with
  | nil => rfl
  | cons p r ih =>
    simp only [lget] at h
    split at h
    · cases h
    · rename_i hp; simp only [ldel, if_neg hp, ih h]

/-- Between two acts. -/
structure RefI (w : World) (mb rb : Nat) (cap : Int) (acts : List HAct) (r : Int × Int) (k : Nat) (t : TabS) (wr : World) : Prop where
  cap : t.cap = cap
  map : MapAt wr mb .u64 (encL t.live)
  ok : TabOK t
  go : hgo t k (acts.drop k) = r
  box : wr.heap[rb]? = some (.cells #[.int .i64 0, .int .i64 0] 51)
  ext : Ext w wr

set_option maxRecDepth 100000 in
set_option maxHeartbeats 1000000 in
theorem RHandles_bad (cap first : Int) (v : Value) (w : World) (h : badTab cap first = true) :
    Calls Tryz.prog 18 #[.int .i64 cap, .int .u64 first, v] w (FindR w (10, 0)) := by
  unfold badTab at h
  have FIN : ∀ (wF : World), Ext (w.alloc (.cells #[.int .i64 0, .int .i64 0] 51)) wF → wF.heap[w.heap.size]? = some (.cells #[.int .i64 0, .int .i64 0] 51) := fun wF hE => hE.keep (newB _ _ _ rfl)
  by_cases h1 : cap < 1
  · have d1 : decide (cap < 1) = true := by simpa using h1
    clear h h1
    go_enter Tryz.func18, Tryz.ntmps18
    go_wp2_with (go_at_call 60; refine (find60 _ _ _).mono ?_; rintro e wF ⟨rfl, hbF⟩; have hb := FIN wF hbF; obtain ⟨y1, y2⟩ := blk hb; have yl := lt_of_block hb)
    have hZ := set2 hb (.int .i64 10) (.int .i64 0)
    have XF : Ext w ((wF.setCell ⟨w.heap.size, 0, none⟩ (.int .i64 10)).setCell ⟨w.heap.size, 1, none⟩ (.int .i64 0)) := (Ext.setCell (((Ext.refl _).alloc _).trans hbF) (p := ⟨w.heap.size, 0, none⟩) (Nat.le_refl _) _).setCell (p := ⟨w.heap.size, 1, none⟩) (Nat.le_refl _) _
    generalize (wF.setCell ⟨w.heap.size, 0, none⟩ (.int .i64 10)).setCell ⟨w.heap.size, 1, none⟩ (.int .i64 0) = Z at *
    obtain ⟨z1, z2⟩ := blk hZ
    exact bodyPost_ret (v := .agg #[.int .i64 10, .int .i64 0]) (by simp [results, Tryz.results18, go_sem, z1]) rfl ⟨rfl, XF⟩
  by_cases h2 : 256 < cap
  · have d1 : decide (cap < 1) = false := by simpa using h1
    have d2 : decide (256 < cap) = true := by simpa using h2
    clear h h1 h2
    go_enter Tryz.func18, Tryz.ntmps18
    go_wp2_with (go_at_call 60; refine (find60 _ _ _).mono ?_; rintro e wF ⟨rfl, hbF⟩; have hb := FIN wF hbF; obtain ⟨y1, y2⟩ := blk hb; have yl := lt_of_block hb)
    have hZ := set2 hb (.int .i64 10) (.int .i64 0)
    have XF : Ext w ((wF.setCell ⟨w.heap.size, 0, none⟩ (.int .i64 10)).setCell ⟨w.heap.size, 1, none⟩ (.int .i64 0)) := (Ext.setCell (((Ext.refl _).alloc _).trans hbF) (p := ⟨w.heap.size, 0, none⟩) (Nat.le_refl _) _).setCell (p := ⟨w.heap.size, 1, none⟩) (Nat.le_refl _) _
    generalize (wF.setCell ⟨w.heap.size, 0, none⟩ (.int .i64 10)).setCell ⟨w.heap.size, 1, none⟩ (.int .i64 0) = Z at *
    obtain ⟨z1, z2⟩ := blk hZ
    exact bodyPost_ret (v := .agg #[.int .i64 10, .int .i64 0]) (by simp [results, Tryz.results18, go_sem, z1]) rfl ⟨rfl, XF⟩
  have d1 : decide (cap < 1) = false := by simpa using h1
  have d2 : decide (256 < cap) = false := by simpa using h2
  have d3 : (first == 0) = true := by rw [d1, d2] at h; simpa using h
  clear h h1 h2
  go_enter Tryz.func18, Tryz.ntmps18
  go_wp2_with (go_at_call 60; refine (find60 _ _ _).mono ?_; rintro e wF ⟨rfl, hbF⟩; have hb := FIN wF hbF; obtain ⟨y1, y2⟩ := blk hb; have yl := lt_of_block hb)
  have hZ := set2 hb (.int .i64 10) (.int .i64 0)
  have XF : Ext w ((wF.setCell ⟨w.heap.size, 0, none⟩ (.int .i64 10)).setCell ⟨w.heap.size, 1, none⟩ (.int .i64 0)) := (Ext.setCell (((Ext.refl _).alloc _).trans hbF) (p := ⟨w.heap.size, 0, none⟩) (Nat.le_refl _) _).setCell (p := ⟨w.heap.size, 1, none⟩) (Nat.le_refl _) _
  generalize (wF.setCell ⟨w.heap.size, 0, none⟩ (.int .i64 10)).setCell ⟨w.heap.size, 1, none⟩ (.int .i64 0) = Z at *
  obtain ⟨z1, z2⟩ := blk hZ
  exact bodyPost_ret (v := .agg #[.int .i64 10, .int .i64 0]) (by simp [results, Tryz.results18, go_sem, z1]) rfl ⟨rfl, XF⟩

set_option maxRecDepth 100000 in
set_option maxHeartbeats 8000000 in
theorem RHandles_ok (cap first : Int) (ad : Option Addr) (c : Nat) (acts : List HAct) (w : World) (h : badTab cap first = false) (hf0 : 0 ≤ first) (hf1 : first < 18446744073709551616) (ha : ActsAt w ad acts) (hal : acts.length ≤ 9223372036854775807) :
    Calls Tryz.prog 18 #[.int .i64 cap, .int .u64 first, .slice ad acts.length c] w (FindR w (handF cap first acts)) := by
  have hmm := @run_makeMap Tryz.prog
  have HF : Hid (handF cap first acts = hgo ⟨cap, [], first, 0⟩ 0 acts) := by
    show handF _ _ _ = _
    unfold handF; rw [h]; rfl
  unfold badTab at h
  simp only [Bool.or_eq_false_iff] at h
  obtain ⟨⟨d1, d2⟩, d3⟩ := h
  have hc1 : 1 ≤ cap := by simpa using d1
  have hc2 : cap ≤ 256 := by simpa using d2
  have HA := Lib.hid ha
  rw [HF.out]
  obtain ⟨r, hr⟩ : ∃ r, r = hgo ⟨cap, [], first, 0⟩ 0 acts := ⟨_, rfl⟩
  rw [← hr]
  have HR := Lib.hid hr
  clear ha hr HF
  go_enter Tryz.func18, Tryz.ntmps18
  go_wp2
  have OK0 : TabOK ⟨cap, [], first, 0⟩ := ⟨hc1, hc2, hf0, hf1, by simp, by simp, by simp; omega, by simp⟩
  have I0 : Hid (RefI w (w.heap.size + 1) w.heap.size cap acts r 0 ⟨cap, [], first, 0⟩ ((w.alloc (.cells #[.int .i64 0, .int .i64 0] 51)).alloc (.map #[] 0))) := ⟨rfl, MapAt.new (w.alloc (.cells #[.int .i64 0, .int .i64 0] 51)) _ (by simp) _, OK0, HR.out.symm, keepB (newB _ _ _ rfl) _, ((Ext.refl _).alloc _).alloc _⟩
  clear OK0
  generalize (w.alloc (.cells #[.int .i64 0, .int .i64 0] 51)).alloc (.map #[] 0) = X at *
  obtain ⟨mb, hmb⟩ : ∃ n, n = w.heap.size + 1 := ⟨_, rfl⟩
  obtain ⟨rb, hrb⟩ : ∃ n, n = w.heap.size := ⟨_, rfl⟩
  rw [← hmb, ← hrb] at I0
  rw [← hmb, ← hrb]
  have ho1 : w.heap.size ≤ rb := by omega
  have ho2 : rb < mb := by omega
  clear hmb hrb
  go_loopw [8, 9, 10] (fun nx ck i wr => ∃ (k : Nat) (t : TabS), k ≤ acts.length ∧ i = .int .i64 k ∧ nx = .int .u64 t.next ∧ ck = .int .i64 t.clock ∧ RefI w mb rb cap acts r k t wr) (fun _ _ i _ => acts.length - (intOf i).toNat)
  case atStart => exact ⟨0, _, by omega, rfl, rfl, rfl, I0.out⟩
  case round =>
    obtain ⟨k, t, hk, rfl, rfl, rfl, hI⟩ := hrel
    have I := Lib.hid hI
    clear hI
    by_cases hlt : k < acts.length
    · obtain ⟨b, off, rfl, hb, hacts⟩ := HA.out (by omega)
      obtain ⟨a, hak⟩ : ∃ a, acts[k]? = some a := ⟨acts[k], by simp [hlt]⟩
      obtain ⟨ad2, c2, hat⟩ := hacts k a hak
      have ST := hgo_step (t := t) hak
      rw [I.out.go] at ST
      have YOK : Hid ((ansF t a).2 = true → hgo (ansF t a).1 (k + 1) (acts.drop (k + 1)) = r) := by
        intro h1; rw [h1] at ST; simpa using ST.symm
      have NOK : Hid ((ansF t a).2 = false → r = (30, (k : Int))) := by
        intro h1; rw [h1] at ST; simpa using ST
      have OKN := Lib.hid (ansF_ok I.out.ok a)
      have hatr := hat.keep hb I.out.ext
      have a0 := hatr.c0
      have a1 := hatr.c1
      have a2 := hatr.c2
      have a3 := hatr.c3
      have a4 := hatr.c4
      have a5 := hatr.c5
      have IDS : Hid (∀ W, Mod [mb] wr W → IdsAt W ad2 a.ids) := by
        intro W hM h0
        obtain ⟨g, o, e1, e2, e3⟩ := hatr.ids h0
        obtain ⟨g', o', e1', e2', _⟩ := hat.ids h0
        rw [e1] at e1'; cases e1'
        refine ⟨g, o, e1, Nat.lt_of_lt_of_le e2 hM.size, fun j u hj => ?_⟩
        have h4 := e3 j u hj
        have hbk := hM.block g e2 (by simp; omega)
        rw [World.cell?_of_block (w := wr) (a := (⟨g, o, none⟩ : Addr).add j) (by rw [add_block]; exact hbk)]
        exact h4
      have hil : a.ids.length ≤ 9223372036854775807 := hat.len
      clear ST hat hatr hak hacts
      obtain ⟨cap0, live, next, clock⟩ := t
      have CAP := Lib.hid I.out.cap
      have hcp : cap0 = cap := I.out.cap
      subst hcp
      obtain ⟨kind, id, n, ser, ids, err⟩ := a
      simp only at *
      obtain ⟨il, hile⟩ : ∃ il, il = ids.length := ⟨_, rfl⟩
      rw [← hile] at a4 hil
      have HIL := Lib.hid hile
      clear hile
      have hki : (k : Int) < (acts.length : Int) := by omega
      have hlk := lookB (W := wr.alloc (.cells #[.int .i64 kind, .int .u64 id, .int .i64 n, .int .u32 ser, .slice ad2 il c2, .int .i64 err] 90)) (I.out.map.keep ((Ext.refl _).alloc _)) id
      have hok := I.out.ok
      have hn0 := hok.next0
      have hn1 := hok.next1
      have hck0 := hok.clock0
      have hck1 := hok.clock1
      have hlen := hok.len
      simp only at hn0 hn1 hck0 hck1 hlen
      have KEYS := Lib.hid hok.keys
      clear hok
      go_upto_region 14 with (fail)
      clear hlk
      have EY0 : Ext wr ((wr.alloc (.cells #[.int .i64 kind, .int .u64 id, .int .i64 n, .int .u32 ser, .slice ad2 il c2, .int .i64 err] 90)).alloc (.cells #[.int .u32 ((lget live id).getD (0, 0)).1, .int .i64 ((lget live id).getD (0, 0)).2] 146)) := ((Ext.refl _).alloc _).alloc _
      have AY : Hid (((wr.alloc (.cells #[.int .i64 kind, .int .u64 id, .int .i64 n, .int .u32 ser, .slice ad2 il c2, .int .i64 err] 90)).alloc (.cells #[.int .u32 ((lget live id).getD (0, 0)).1, .int .i64 ((lget live id).getD (0, 0)).2] 146)).heap[wr.heap.size]? = some (.cells #[.int .i64 kind, .int .u64 id, .int .i64 n, .int .u32 ser, .slice ad2 il c2, .int .i64 err] 90)) := keepB (newB wr _ _ rfl) _
      have LY : Hid (((wr.alloc (.cells #[.int .i64 kind, .int .u64 id, .int .i64 n, .int .u32 ser, .slice ad2 il c2, .int .i64 err] 90)).alloc (.cells #[.int .u32 ((lget live id).getD (0, 0)).1, .int .i64 ((lget live id).getD (0, 0)).2] 146)).heap[wr.heap.size + 1]? = some (.cells #[.int .u32 ((lget live id).getD (0, 0)).1, .int .i64 ((lget live id).getD (0, 0)).2] 146)) := newB (wr.alloc (.cells #[.int .i64 kind, .int .u64 id, .int .i64 n, .int .u32 ser, .slice ad2 il c2, .int .i64 err] 90)) _ _ (by simp)
      have EWY := Lib.hid EY0
      have EY := Lib.hid (I.out.ext.trans EY0)
      have MY := Lib.hid (I.out.map.keep EY0)
      have BY := Lib.hid (EY0.keep I.out.box)
      have hwrm := I.out.map.lt
      have hwrb := lt_of_block I.out.box
      clear EY0 a0 a1 a2 a3 a4 a5
      generalize (wr.alloc (.cells #[.int .i64 kind, .int .u64 id, .int .i64 n, .int .u32 ser, .slice ad2 il c2, .int .i64 err] 90)).alloc (.cells #[.int .u32 ((lget live id).getD (0, 0)).1, .int .i64 ((lget live id).getD (0, 0)).2] 146) = Y at *
      generalize wr.heap.size = ab at *
      obtain ⟨z3, z4⟩ := blk AY.out
      obtain ⟨z5, z6⟩ := blk LY.out
      have hza := lt_of_block AY.out
      have hzl := lt_of_block LY.out
      have hyb := lt_of_block BY.out
      have LEN : Hid (∀ ty, (Builtin.len_ #[144] ty #[.map (some mb)]).run Tryz.prog Y = .ok (.int .i64 (live.length : Int)) Y) := by
        intro ty
        have := MY.out.len (P := Tryz.prog) under144 ty
        rw [encL_length] at this; exact this
      by_cases h1 : kind = 1
      · as_aux_lemma =>
          have q1x : (kind == 1) = true := by simpa using h1
          by_cases h3 : err = 3
          · have q3x : (err == 3) = true := by simpa using h3
            have e1 : True := trivial
            have AF : Hid (ansF ⟨cap0, live, next, clock⟩ ⟨kind, id, n, ser, ids, err⟩ = (⟨cap0, live, next, clock⟩, id == 0)) := by
              show ansF _ _ = _
              unfold ansF; rw [if_pos h1]; unfold issueF; rw [if_pos h3]

            clear h1 h3
            cases e2 : (id == 0) with
            | false =>
              have e2x : (id == 0) = false := e2
              have RK : Hid (r = (30, (k : Int))) := NOK.out (by rw [AF.out]; simp [e2x])
              go_wp2_with (first | (go_at_call 60; refine (find60 _ _ _).mono ?_; rintro e wF ⟨rfl, hbF⟩; have BF := Lib.hid (hbF.keep BY.out); have EF := Lib.hid (EY.out.trans hbF); obtain ⟨y1, y2⟩ := blk BF.out; have yl := lt_of_block BF.out; clear hbF))
              have hZ := set2 BF.out (.int .i64 30) (.int .i64 (k : Int))
              have XF : Ext w ((wF.setCell ⟨rb, 0, none⟩ (.int .i64 30)).setCell ⟨rb, 1, none⟩ (.int .i64 (k : Int))) := (Ext.setCell EF.out (p := ⟨rb, 0, none⟩) ho1 _).setCell (p := ⟨rb, 1, none⟩) ho1 _
              generalize (wF.setCell ⟨rb, 0, none⟩ (.int .i64 30)).setCell ⟨rb, 1, none⟩ (.int .i64 (k : Int)) = Z at *
              obtain ⟨z1, z2⟩ := blk hZ
              exact bodyPost_ret (v := .agg #[.int .i64 30, .int .i64 (k : Int)]) (by simp [results, Tryz.results18, go_sem, z1]) rfl ⟨by rw [RK.out], XF⟩
            | true =>
              have e2x : (id == 0) = true := e2
              have HN := Lib.hid (YOK.out (by rw [AF.out]; simp [e2x]))
              go_wp2_with (first | fail)
              have NI : Hid (RefI w mb rb cap0 acts r (k + 1) ⟨cap0, live, next, clock⟩ Y) := by
                have h9 := HN.out
                have h8 := OKN.out
                rw [AF.out] at h9 h8
                exact ⟨rfl, MY.out, h8, h9, BY.out, EY.out⟩
              go_roundw
              case rel => exact ⟨k + 1, ⟨cap0, live, next, clock⟩, by omega, by go_num, rfl, rfl, NI.out⟩
              case measure => simp [intOf]; omega
          have q3x : (err == 3) = false := by simpa using h3
          cases hfit : fitsB n with
          | false =>
            have AF : Hid (ansF ⟨cap0, live, next, clock⟩ ⟨kind, id, n, ser, ids, err⟩ = (⟨cap0, live, next, clock⟩, err == 162 && id == 0)) := by
              show ansF _ _ = _
              unfold ansF; rw [if_pos h1]; unfold issueF; rw [if_neg h3, if_pos hfit]
            clear h1 h3
            have hfx : n < 1 ∨ (¬ n < 1 ∧ 1000000 < n) := by
              simp only [fitsB, Bool.and_eq_false_iff, decide_eq_false_iff_not] at hfit
              omega
            rcases hfx with hfx | ⟨hfx, hfy⟩
            · have dd1 : decide (n < 1) = true := by simpa using hfx
              clear hfx hfit
              cases e1 : (err == 162) with
              | false =>
                have e1x : (err != 162) = true := by simp [bne, e1]
                have e2x : True := trivial
                have RK : Hid (r = (30, (k : Int))) := NOK.out (by rw [AF.out]; simp [e1])
                go_wp2_with (first | (go_at_call 60; refine (find60 _ _ _).mono ?_; rintro e wF ⟨rfl, hbF⟩; have BF := Lib.hid (hbF.keep BY.out); have EF := Lib.hid (EY.out.trans hbF); obtain ⟨y1, y2⟩ := blk BF.out; have yl := lt_of_block BF.out; clear hbF))
                have hZ := set2 BF.out (.int .i64 30) (.int .i64 (k : Int))
                have XF : Ext w ((wF.setCell ⟨rb, 0, none⟩ (.int .i64 30)).setCell ⟨rb, 1, none⟩ (.int .i64 (k : Int))) := (Ext.setCell EF.out (p := ⟨rb, 0, none⟩) ho1 _).setCell (p := ⟨rb, 1, none⟩) ho1 _
                generalize (wF.setCell ⟨rb, 0, none⟩ (.int .i64 30)).setCell ⟨rb, 1, none⟩ (.int .i64 (k : Int)) = Z at *
                obtain ⟨z1, z2⟩ := blk hZ
                exact bodyPost_ret (v := .agg #[.int .i64 30, .int .i64 (k : Int)]) (by simp [results, Tryz.results18, go_sem, z1]) rfl ⟨by rw [RK.out], XF⟩
              | true =>
                have e1x : (err != 162) = false := by simp [bne, e1]
                cases e2 : (id == 0) with
                | false =>
                  have e2x : (id == 0) = false := e2
                  have RK : Hid (r = (30, (k : Int))) := NOK.out (by rw [AF.out]; simp [e1, e2x])
                  go_wp2_with (first | (go_at_call 60; refine (find60 _ _ _).mono ?_; rintro e wF ⟨rfl, hbF⟩; have BF := Lib.hid (hbF.keep BY.out); have EF := Lib.hid (EY.out.trans hbF); obtain ⟨y1, y2⟩ := blk BF.out; have yl := lt_of_block BF.out; clear hbF))
                  have hZ := set2 BF.out (.int .i64 30) (.int .i64 (k : Int))
                  have XF : Ext w ((wF.setCell ⟨rb, 0, none⟩ (.int .i64 30)).setCell ⟨rb, 1, none⟩ (.int .i64 (k : Int))) := (Ext.setCell EF.out (p := ⟨rb, 0, none⟩) ho1 _).setCell (p := ⟨rb, 1, none⟩) ho1 _
                  generalize (wF.setCell ⟨rb, 0, none⟩ (.int .i64 30)).setCell ⟨rb, 1, none⟩ (.int .i64 (k : Int)) = Z at *
                  obtain ⟨z1, z2⟩ := blk hZ
                  exact bodyPost_ret (v := .agg #[.int .i64 30, .int .i64 (k : Int)]) (by simp [results, Tryz.results18, go_sem, z1]) rfl ⟨by rw [RK.out], XF⟩
                | true =>
                  have e2x : (id == 0) = true := e2
                  have HN := Lib.hid (YOK.out (by rw [AF.out]; simp [e1, e2x]))
                  go_wp2_with (first | fail)
                  have NI : Hid (RefI w mb rb cap0 acts r (k + 1) ⟨cap0, live, next, clock⟩ Y) := by
                    have h9 := HN.out
                    have h8 := OKN.out
                    rw [AF.out] at h9 h8
                    exact ⟨rfl, MY.out, h8, h9, BY.out, EY.out⟩
                  go_roundw
                  case rel => exact ⟨k + 1, ⟨cap0, live, next, clock⟩, by omega, by go_num, rfl, rfl, NI.out⟩
                  case measure => simp [intOf]; omega
            · have dd1 : decide (n < 1) = false := by simpa using hfx
              have dd2 : decide (1000000 < n) = true := by simpa using hfy
              clear hfx hfy hfit
              cases e1 : (err == 162) with
              | false =>
                have e1x : (err != 162) = true := by simp [bne, e1]
                have e2x : True := trivial
                have RK : Hid (r = (30, (k : Int))) := NOK.out (by rw [AF.out]; simp [e1])
                go_wp2_with (first | (go_at_call 60; refine (find60 _ _ _).mono ?_; rintro e wF ⟨rfl, hbF⟩; have BF := Lib.hid (hbF.keep BY.out); have EF := Lib.hid (EY.out.trans hbF); obtain ⟨y1, y2⟩ := blk BF.out; have yl := lt_of_block BF.out; clear hbF))
                have hZ := set2 BF.out (.int .i64 30) (.int .i64 (k : Int))
                have XF : Ext w ((wF.setCell ⟨rb, 0, none⟩ (.int .i64 30)).setCell ⟨rb, 1, none⟩ (.int .i64 (k : Int))) := (Ext.setCell EF.out (p := ⟨rb, 0, none⟩) ho1 _).setCell (p := ⟨rb, 1, none⟩) ho1 _
                generalize (wF.setCell ⟨rb, 0, none⟩ (.int .i64 30)).setCell ⟨rb, 1, none⟩ (.int .i64 (k : Int)) = Z at *
                obtain ⟨z1, z2⟩ := blk hZ
                exact bodyPost_ret (v := .agg #[.int .i64 30, .int .i64 (k : Int)]) (by simp [results, Tryz.results18, go_sem, z1]) rfl ⟨by rw [RK.out], XF⟩
              | true =>
                have e1x : (err != 162) = false := by simp [bne, e1]
                cases e2 : (id == 0) with
                | false =>
                  have e2x : (id == 0) = false := e2
                  have RK : Hid (r = (30, (k : Int))) := NOK.out (by rw [AF.out]; simp [e1, e2x])
                  go_wp2_with (first | (go_at_call 60; refine (find60 _ _ _).mono ?_; rintro e wF ⟨rfl, hbF⟩; have BF := Lib.hid (hbF.keep BY.out); have EF := Lib.hid (EY.out.trans hbF); obtain ⟨y1, y2⟩ := blk BF.out; have yl := lt_of_block BF.out; clear hbF))
                  have hZ := set2 BF.out (.int .i64 30) (.int .i64 (k : Int))
                  have XF : Ext w ((wF.setCell ⟨rb, 0, none⟩ (.int .i64 30)).setCell ⟨rb, 1, none⟩ (.int .i64 (k : Int))) := (Ext.setCell EF.out (p := ⟨rb, 0, none⟩) ho1 _).setCell (p := ⟨rb, 1, none⟩) ho1 _
                  generalize (wF.setCell ⟨rb, 0, none⟩ (.int .i64 30)).setCell ⟨rb, 1, none⟩ (.int .i64 (k : Int)) = Z at *
                  obtain ⟨z1, z2⟩ := blk hZ
                  exact bodyPost_ret (v := .agg #[.int .i64 30, .int .i64 (k : Int)]) (by simp [results, Tryz.results18, go_sem, z1]) rfl ⟨by rw [RK.out], XF⟩
                | true =>
                  have e2x : (id == 0) = true := e2
                  have HN := Lib.hid (YOK.out (by rw [AF.out]; simp [e1, e2x]))
                  go_wp2_with (first | fail)
                  have NI : Hid (RefI w mb rb cap0 acts r (k + 1) ⟨cap0, live, next, clock⟩ Y) := by
                    have h9 := HN.out
                    have h8 := OKN.out
                    rw [AF.out] at h9 h8
                    exact ⟨rfl, MY.out, h8, h9, BY.out, EY.out⟩
                  go_roundw
                  case rel => exact ⟨k + 1, ⟨cap0, live, next, clock⟩, by omega, by go_num, rfl, rfl, NI.out⟩
                  case measure => simp [intOf]; omega

          | true =>
            have hfit0 := Lib.hid hfit
            have hfz : ¬ n < 1 ∧ ¬ 1000000 < n := by
              simp only [fitsB, Bool.and_eq_true, decide_eq_true_eq] at hfit
              omega
            have dd1 : decide (n < 1) = false := by simpa using hfz.1
            have dd2 : decide (1000000 < n) = false := by simpa using hfz.2
            have hb1 : 1 ≤ n := by omega
            have hb2 : n ≤ 1000000 := by omega
            have hsum : IntKind.i64.wrap (clock + n) = clock + n := IntWalk.i64_in _ (by omega)
            clear hfz hfit
            have hlenW := LEN.out
            by_cases h4 : (live.length : Int) = cap0
            · have q4x : decide (cap0 ≤ (live.length : Int)) = true := by simp; omega
              have AF : Hid (ansF ⟨cap0, live, next, clock⟩ ⟨kind, id, n, ser, ids, err⟩ = (⟨cap0, live, next, clock⟩, err == 161 && id == 0)) := by
                show ansF _ _ = _
                unfold ansF; rw [if_pos h1]; unfold issueF; rw [if_neg h3, if_neg (by rw [hfit0.out]; simp), if_pos h4]
              clear h1 h3 h4
              cases e1 : (err == 161) with
              | false =>
                have e1x : (err != 161) = true := by simp [bne, e1]
                have e2x : True := trivial
                have RK : Hid (r = (30, (k : Int))) := NOK.out (by rw [AF.out]; simp [e1])
                go_wp2_with (first | (go_at_call 60; refine (find60 _ _ _).mono ?_; rintro e wF ⟨rfl, hbF⟩; have BF := Lib.hid (hbF.keep BY.out); have EF := Lib.hid (EY.out.trans hbF); obtain ⟨y1, y2⟩ := blk BF.out; have yl := lt_of_block BF.out; clear hbF))
                have hZ := set2 BF.out (.int .i64 30) (.int .i64 (k : Int))
                have XF : Ext w ((wF.setCell ⟨rb, 0, none⟩ (.int .i64 30)).setCell ⟨rb, 1, none⟩ (.int .i64 (k : Int))) := (Ext.setCell EF.out (p := ⟨rb, 0, none⟩) ho1 _).setCell (p := ⟨rb, 1, none⟩) ho1 _
                generalize (wF.setCell ⟨rb, 0, none⟩ (.int .i64 30)).setCell ⟨rb, 1, none⟩ (.int .i64 (k : Int)) = Z at *
                obtain ⟨z1, z2⟩ := blk hZ
                exact bodyPost_ret (v := .agg #[.int .i64 30, .int .i64 (k : Int)]) (by simp [results, Tryz.results18, go_sem, z1]) rfl ⟨by rw [RK.out], XF⟩
              | true =>
                have e1x : (err != 161) = false := by simp [bne, e1]
                cases e2 : (id == 0) with
                | false =>
                  have e2x : (id == 0) = false := e2
                  have RK : Hid (r = (30, (k : Int))) := NOK.out (by rw [AF.out]; simp [e1, e2x])
                  go_wp2_with (first | (go_at_call 60; refine (find60 _ _ _).mono ?_; rintro e wF ⟨rfl, hbF⟩; have BF := Lib.hid (hbF.keep BY.out); have EF := Lib.hid (EY.out.trans hbF); obtain ⟨y1, y2⟩ := blk BF.out; have yl := lt_of_block BF.out; clear hbF))
                  have hZ := set2 BF.out (.int .i64 30) (.int .i64 (k : Int))
                  have XF : Ext w ((wF.setCell ⟨rb, 0, none⟩ (.int .i64 30)).setCell ⟨rb, 1, none⟩ (.int .i64 (k : Int))) := (Ext.setCell EF.out (p := ⟨rb, 0, none⟩) ho1 _).setCell (p := ⟨rb, 1, none⟩) ho1 _
                  generalize (wF.setCell ⟨rb, 0, none⟩ (.int .i64 30)).setCell ⟨rb, 1, none⟩ (.int .i64 (k : Int)) = Z at *
                  obtain ⟨z1, z2⟩ := blk hZ
                  exact bodyPost_ret (v := .agg #[.int .i64 30, .int .i64 (k : Int)]) (by simp [results, Tryz.results18, go_sem, z1]) rfl ⟨by rw [RK.out], XF⟩
                | true =>
                  have e2x : (id == 0) = true := e2
                  have HN := Lib.hid (YOK.out (by rw [AF.out]; simp [e1, e2x]))
                  go_wp2_with (first | fail)
                  have NI : Hid (RefI w mb rb cap0 acts r (k + 1) ⟨cap0, live, next, clock⟩ Y) := by
                    have h9 := HN.out
                    have h8 := OKN.out
                    rw [AF.out] at h9 h8
                    exact ⟨rfl, MY.out, h8, h9, BY.out, EY.out⟩
                  go_roundw
                  case rel => exact ⟨k + 1, ⟨cap0, live, next, clock⟩, by omega, by go_num, rfl, rfl, NI.out⟩
                  case measure => simp [intOf]; omega
            have q4x : decide (cap0 ≤ (live.length : Int)) = false := by simp; omega
            by_cases h5 : next = 0
            · have q5x : (next == 0) = true := by simpa using h5
              have AF : Hid (ansF ⟨cap0, live, next, clock⟩ ⟨kind, id, n, ser, ids, err⟩ = (⟨cap0, live, next, clock⟩, err == 163 && id == 0)) := by
                show ansF _ _ = _
                unfold ansF; rw [if_pos h1]; unfold issueF; rw [if_neg h3, if_neg (by rw [hfit0.out]; simp), if_neg h4, if_pos h5]
              clear h1 h3 h4 h5
              cases e1 : (err == 163) with
              | false =>
                have e1x : (err != 163) = true := by simp [bne, e1]
                have e2x : True := trivial
                have RK : Hid (r = (30, (k : Int))) := NOK.out (by rw [AF.out]; simp [e1])
                go_wp2_with (first | (go_at_call 60; refine (find60 _ _ _).mono ?_; rintro e wF ⟨rfl, hbF⟩; have BF := Lib.hid (hbF.keep BY.out); have EF := Lib.hid (EY.out.trans hbF); obtain ⟨y1, y2⟩ := blk BF.out; have yl := lt_of_block BF.out; clear hbF))
                have hZ := set2 BF.out (.int .i64 30) (.int .i64 (k : Int))
                have XF : Ext w ((wF.setCell ⟨rb, 0, none⟩ (.int .i64 30)).setCell ⟨rb, 1, none⟩ (.int .i64 (k : Int))) := (Ext.setCell EF.out (p := ⟨rb, 0, none⟩) ho1 _).setCell (p := ⟨rb, 1, none⟩) ho1 _
                generalize (wF.setCell ⟨rb, 0, none⟩ (.int .i64 30)).setCell ⟨rb, 1, none⟩ (.int .i64 (k : Int)) = Z at *
                obtain ⟨z1, z2⟩ := blk hZ
                exact bodyPost_ret (v := .agg #[.int .i64 30, .int .i64 (k : Int)]) (by simp [results, Tryz.results18, go_sem, z1]) rfl ⟨by rw [RK.out], XF⟩
              | true =>
                have e1x : (err != 163) = false := by simp [bne, e1]
                cases e2 : (id == 0) with
                | false =>
                  have e2x : (id == 0) = false := e2
                  have RK : Hid (r = (30, (k : Int))) := NOK.out (by rw [AF.out]; simp [e1, e2x])
                  go_wp2_with (first | (go_at_call 60; refine (find60 _ _ _).mono ?_; rintro e wF ⟨rfl, hbF⟩; have BF := Lib.hid (hbF.keep BY.out); have EF := Lib.hid (EY.out.trans hbF); obtain ⟨y1, y2⟩ := blk BF.out; have yl := lt_of_block BF.out; clear hbF))
                  have hZ := set2 BF.out (.int .i64 30) (.int .i64 (k : Int))
                  have XF : Ext w ((wF.setCell ⟨rb, 0, none⟩ (.int .i64 30)).setCell ⟨rb, 1, none⟩ (.int .i64 (k : Int))) := (Ext.setCell EF.out (p := ⟨rb, 0, none⟩) ho1 _).setCell (p := ⟨rb, 1, none⟩) ho1 _
                  generalize (wF.setCell ⟨rb, 0, none⟩ (.int .i64 30)).setCell ⟨rb, 1, none⟩ (.int .i64 (k : Int)) = Z at *
                  obtain ⟨z1, z2⟩ := blk hZ
                  exact bodyPost_ret (v := .agg #[.int .i64 30, .int .i64 (k : Int)]) (by simp [results, Tryz.results18, go_sem, z1]) rfl ⟨by rw [RK.out], XF⟩
                | true =>
                  have e2x : (id == 0) = true := e2
                  have HN := Lib.hid (YOK.out (by rw [AF.out]; simp [e1, e2x]))
                  go_wp2_with (first | fail)
                  have NI : Hid (RefI w mb rb cap0 acts r (k + 1) ⟨cap0, live, next, clock⟩ Y) := by
                    have h9 := HN.out
                    have h8 := OKN.out
                    rw [AF.out] at h9 h8
                    exact ⟨rfl, MY.out, h8, h9, BY.out, EY.out⟩
                  go_roundw
                  case rel => exact ⟨k + 1, ⟨cap0, live, next, clock⟩, by omega, by go_num, rfl, rfl, NI.out⟩
                  case measure => simp [intOf]; omega
            have q5x : (next == 0) = false := by simpa using h5
            have AF : Hid (ansF ⟨cap0, live, next, clock⟩ ⟨kind, id, n, ser, ids, err⟩ = (⟨cap0, lput live next (ser, clock + n), (next + 1) % 18446744073709551616, clock⟩, err == 0 && id == next)) := by
              show ansF _ _ = _
              unfold ansF; rw [if_pos h1]; unfold issueF; rw [if_neg h3, if_neg (by rw [hfit0.out]; simp), if_neg h4, if_neg h5]
            clear h1 h3 h4 h5
            obtain ⟨w3, hup, hm3, hmod3⟩ := run_mapUpdate_int (P := Tryz.prog) Y Tryz.underlying144 Tryz.underlying55 MY.out next (leaseV (ser, clock + n))
            rw [encL_put] at hm3
            simp only [leaseV] at hup
            have hwr : IntKind.u64.wrap (next + 1) = (next + 1) % 18446744073709551616 := IntKind.wrap_u64 _
            have B3 := Lib.hid (hmod3.keep BY.out (by simp; omega))
            have E3 : Hid (Ext w w3) := EY.out.of_mod hmod3 (by intro z hz; simp at hz; omega)
            have A3 := hmod3.keep AY.out (by simp; omega)
            obtain ⟨q1, q2⟩ := blk A3
            have hq3 := lt_of_block A3
            have M3 := Lib.hid hm3
            clear hm3 hmod3 A3
            cases e1 : (err == 0) with
            | false =>
              have e1x : (err != 0) = true := by simp [bne, e1]
              have e2x : True := trivial
              have RK : Hid (r = (30, (k : Int))) := NOK.out (by rw [AF.out]; simp [e1])
              go_wp2_with (first | (go_at_call 60; refine (find60 _ _ _).mono ?_; rintro e wF ⟨rfl, hbF⟩; have BF := Lib.hid (hbF.keep B3.out); have EF := Lib.hid (E3.out.trans hbF); obtain ⟨y1, y2⟩ := blk BF.out; have yl := lt_of_block BF.out; clear hbF))
              have hZ := set2 BF.out (.int .i64 30) (.int .i64 (k : Int))
              have XF : Ext w ((wF.setCell ⟨rb, 0, none⟩ (.int .i64 30)).setCell ⟨rb, 1, none⟩ (.int .i64 (k : Int))) := (Ext.setCell EF.out (p := ⟨rb, 0, none⟩) ho1 _).setCell (p := ⟨rb, 1, none⟩) ho1 _
              generalize (wF.setCell ⟨rb, 0, none⟩ (.int .i64 30)).setCell ⟨rb, 1, none⟩ (.int .i64 (k : Int)) = Z at *
              obtain ⟨z1, z2⟩ := blk hZ
              exact bodyPost_ret (v := .agg #[.int .i64 30, .int .i64 (k : Int)]) (by simp [results, Tryz.results18, go_sem, z1]) rfl ⟨by rw [RK.out], XF⟩
            | true =>
              have e1x : (err != 0) = false := by simp [bne, e1]
              cases e2 : (id == next) with
              | false =>
                have e2x : (id == next) = false := e2
                have RK : Hid (r = (30, (k : Int))) := NOK.out (by rw [AF.out]; simp [e1, e2x])
                go_wp2_with (first | (go_at_call 60; refine (find60 _ _ _).mono ?_; rintro e wF ⟨rfl, hbF⟩; have BF := Lib.hid (hbF.keep B3.out); have EF := Lib.hid (E3.out.trans hbF); obtain ⟨y1, y2⟩ := blk BF.out; have yl := lt_of_block BF.out; clear hbF))
                have hZ := set2 BF.out (.int .i64 30) (.int .i64 (k : Int))
                have XF : Ext w ((wF.setCell ⟨rb, 0, none⟩ (.int .i64 30)).setCell ⟨rb, 1, none⟩ (.int .i64 (k : Int))) := (Ext.setCell EF.out (p := ⟨rb, 0, none⟩) ho1 _).setCell (p := ⟨rb, 1, none⟩) ho1 _
                generalize (wF.setCell ⟨rb, 0, none⟩ (.int .i64 30)).setCell ⟨rb, 1, none⟩ (.int .i64 (k : Int)) = Z at *
                obtain ⟨z1, z2⟩ := blk hZ
                exact bodyPost_ret (v := .agg #[.int .i64 30, .int .i64 (k : Int)]) (by simp [results, Tryz.results18, go_sem, z1]) rfl ⟨by rw [RK.out], XF⟩
              | true =>
                have e2x : (id == next) = true := e2
                have HN := Lib.hid (YOK.out (by rw [AF.out]; simp [e1, e2x]))
                go_wp2_with (first | fail)
                have NI : Hid (RefI w mb rb cap0 acts r (k + 1) ⟨cap0, lput live next (ser, clock + n), (next + 1) % 18446744073709551616, clock⟩ w3) := by
                  have h9 := HN.out
                  have h8 := OKN.out
                  rw [AF.out] at h9 h8
                  exact ⟨rfl, M3.out, h8, h9, B3.out, E3.out⟩
                go_roundw
                case rel => exact ⟨k + 1, ⟨cap0, lput live next (ser, clock + n), (next + 1) % 18446744073709551616, clock⟩, by omega, by go_num, rfl, rfl, NI.out⟩
                case measure => simp [intOf]; omega
      have q1x : (kind == 1) = false := by simpa using h1
      by_cases h2 : kind = 2
      · as_aux_lemma =>
          have q2x : (kind == 2) = true := by simpa using h2
          have AF0 : Hid (ansF ⟨cap0, live, next, clock⟩ ⟨kind, id, n, ser, ids, err⟩ = match lget live id with | none => (⟨cap0, live, next, clock⟩, err == 160 && ser == 0) | some x => (⟨cap0, live, next, clock⟩, err == 0 && ser == x.1)) := by
            show ansF _ _ = _
            unfold ansF; rw [if_neg h1, if_pos h2]; rfl
          clear h1 h2
          generalize lget live id = og at *
          cases og with
          | none =>
            have AF := Lib.hid AF0.out
            simp only [Option.getD_none, Option.isSome_none] at *
            cases e1 : (err == 160) with
            | false =>
              have e1x : (err != 160) = true := by simp [bne, e1]
              have e2x : True := trivial
              have RK : Hid (r = (30, (k : Int))) := NOK.out (by rw [AF.out]; simp [e1])
              go_wp2_with (first | (go_at_call 60; refine (find60 _ _ _).mono ?_; rintro e wF ⟨rfl, hbF⟩; have BF := Lib.hid (hbF.keep BY.out); have EF := Lib.hid (EY.out.trans hbF); obtain ⟨y1, y2⟩ := blk BF.out; have yl := lt_of_block BF.out; clear hbF))
              have hZ := set2 BF.out (.int .i64 30) (.int .i64 (k : Int))
              have XF : Ext w ((wF.setCell ⟨rb, 0, none⟩ (.int .i64 30)).setCell ⟨rb, 1, none⟩ (.int .i64 (k : Int))) := (Ext.setCell EF.out (p := ⟨rb, 0, none⟩) ho1 _).setCell (p := ⟨rb, 1, none⟩) ho1 _
              generalize (wF.setCell ⟨rb, 0, none⟩ (.int .i64 30)).setCell ⟨rb, 1, none⟩ (.int .i64 (k : Int)) = Z at *
              obtain ⟨z1, z2⟩ := blk hZ
              exact bodyPost_ret (v := .agg #[.int .i64 30, .int .i64 (k : Int)]) (by simp [results, Tryz.results18, go_sem, z1]) rfl ⟨by rw [RK.out], XF⟩
            | true =>
              have e1x : (err != 160) = false := by simp [bne, e1]
              cases e2 : (ser == 0) with
              | false =>
                have e2x : (ser == 0) = false := e2
                have RK : Hid (r = (30, (k : Int))) := NOK.out (by rw [AF.out]; simp [e1, e2x])
                go_wp2_with (first | (go_at_call 60; refine (find60 _ _ _).mono ?_; rintro e wF ⟨rfl, hbF⟩; have BF := Lib.hid (hbF.keep BY.out); have EF := Lib.hid (EY.out.trans hbF); obtain ⟨y1, y2⟩ := blk BF.out; have yl := lt_of_block BF.out; clear hbF))
                have hZ := set2 BF.out (.int .i64 30) (.int .i64 (k : Int))
                have XF : Ext w ((wF.setCell ⟨rb, 0, none⟩ (.int .i64 30)).setCell ⟨rb, 1, none⟩ (.int .i64 (k : Int))) := (Ext.setCell EF.out (p := ⟨rb, 0, none⟩) ho1 _).setCell (p := ⟨rb, 1, none⟩) ho1 _
                generalize (wF.setCell ⟨rb, 0, none⟩ (.int .i64 30)).setCell ⟨rb, 1, none⟩ (.int .i64 (k : Int)) = Z at *
                obtain ⟨z1, z2⟩ := blk hZ
                exact bodyPost_ret (v := .agg #[.int .i64 30, .int .i64 (k : Int)]) (by simp [results, Tryz.results18, go_sem, z1]) rfl ⟨by rw [RK.out], XF⟩
              | true =>
                have e2x : (ser == 0) = true := e2
                have HN := Lib.hid (YOK.out (by rw [AF.out]; simp [e1, e2x]))
                go_wp2_with (first | fail)
                have NI : Hid (RefI w mb rb cap0 acts r (k + 1) ⟨cap0, live, next, clock⟩ Y) := by
                  have h9 := HN.out
                  have h8 := OKN.out
                  rw [AF.out] at h9 h8
                  exact ⟨rfl, MY.out, h8, h9, BY.out, EY.out⟩
                go_roundw
                case rel => exact ⟨k + 1, ⟨cap0, live, next, clock⟩, by omega, by go_num, rfl, rfl, NI.out⟩
                case measure => simp [intOf]; omega
          | some xx =>
            have AF := Lib.hid AF0.out
            obtain ⟨x0, x1⟩ := xx
            simp only [Option.getD_some, Option.isSome_some] at *
            cases e1 : (err == 0) with
            | false =>
              have e1x : (err != 0) = true := by simp [bne, e1]
              have e2x : True := trivial
              have RK : Hid (r = (30, (k : Int))) := NOK.out (by rw [AF.out]; simp [e1])
              go_wp2_with (first | (go_at_call 60; refine (find60 _ _ _).mono ?_; rintro e wF ⟨rfl, hbF⟩; have BF := Lib.hid (hbF.keep BY.out); have EF := Lib.hid (EY.out.trans hbF); obtain ⟨y1, y2⟩ := blk BF.out; have yl := lt_of_block BF.out; clear hbF))
              have hZ := set2 BF.out (.int .i64 30) (.int .i64 (k : Int))
              have XF : Ext w ((wF.setCell ⟨rb, 0, none⟩ (.int .i64 30)).setCell ⟨rb, 1, none⟩ (.int .i64 (k : Int))) := (Ext.setCell EF.out (p := ⟨rb, 0, none⟩) ho1 _).setCell (p := ⟨rb, 1, none⟩) ho1 _
              generalize (wF.setCell ⟨rb, 0, none⟩ (.int .i64 30)).setCell ⟨rb, 1, none⟩ (.int .i64 (k : Int)) = Z at *
              obtain ⟨z1, z2⟩ := blk hZ
              exact bodyPost_ret (v := .agg #[.int .i64 30, .int .i64 (k : Int)]) (by simp [results, Tryz.results18, go_sem, z1]) rfl ⟨by rw [RK.out], XF⟩
            | true =>
              have e1x : (err != 0) = false := by simp [bne, e1]
              cases e2 : (ser == x0) with
              | false =>
                have e2x : (ser == x0) = false := e2
                have RK : Hid (r = (30, (k : Int))) := NOK.out (by rw [AF.out]; simp [e1, e2x])
                go_wp2_with (first | (go_at_call 60; refine (find60 _ _ _).mono ?_; rintro e wF ⟨rfl, hbF⟩; have BF := Lib.hid (hbF.keep BY.out); have EF := Lib.hid (EY.out.trans hbF); obtain ⟨y1, y2⟩ := blk BF.out; have yl := lt_of_block BF.out; clear hbF))
                have hZ := set2 BF.out (.int .i64 30) (.int .i64 (k : Int))
                have XF : Ext w ((wF.setCell ⟨rb, 0, none⟩ (.int .i64 30)).setCell ⟨rb, 1, none⟩ (.int .i64 (k : Int))) := (Ext.setCell EF.out (p := ⟨rb, 0, none⟩) ho1 _).setCell (p := ⟨rb, 1, none⟩) ho1 _
                generalize (wF.setCell ⟨rb, 0, none⟩ (.int .i64 30)).setCell ⟨rb, 1, none⟩ (.int .i64 (k : Int)) = Z at *
                obtain ⟨z1, z2⟩ := blk hZ
                exact bodyPost_ret (v := .agg #[.int .i64 30, .int .i64 (k : Int)]) (by simp [results, Tryz.results18, go_sem, z1]) rfl ⟨by rw [RK.out], XF⟩
              | true =>
                have e2x : (ser == x0) = true := e2
                have HN := Lib.hid (YOK.out (by rw [AF.out]; simp [e1, e2x]))
                go_wp2_with (first | fail)
                have NI : Hid (RefI w mb rb cap0 acts r (k + 1) ⟨cap0, live, next, clock⟩ Y) := by
                  have h9 := HN.out
                  have h8 := OKN.out
                  rw [AF.out] at h9 h8
                  exact ⟨rfl, MY.out, h8, h9, BY.out, EY.out⟩
                go_roundw
                case rel => exact ⟨k + 1, ⟨cap0, live, next, clock⟩, by omega, by go_num, rfl, rfl, NI.out⟩
                case measure => simp [intOf]; omega
      have q2x : (kind == 2) = false := by simpa using h2
      by_cases h3 : kind = 3
      · as_aux_lemma =>
          have q3x : (kind == 3) = true := by simpa using h3
          have AF0 : Hid (ansF ⟨cap0, live, next, clock⟩ ⟨kind, id, n, ser, ids, err⟩ = match lget live id with | none => (⟨cap0, live, next, clock⟩, err == 160) | some x => if fitsB n then (⟨cap0, lput live id (x.1, clock + n), next, clock⟩, err == 0) else (⟨cap0, live, next, clock⟩, err == 162)) := by
            show ansF _ _ = _
            unfold ansF; rw [if_neg h1, if_neg h2, if_pos h3]; rfl
          clear h1 h2 h3
          generalize lget live id = og at *
          cases og with
          | none =>
            have AF := Lib.hid AF0.out
            simp only [Option.getD_none, Option.isSome_none] at *
            cases e1 : (err == 160) with
            | false =>
              have e1x : (err != 160) = true := by simp [bne, e1]
              have e2x : True := trivial
              have RK : Hid (r = (30, (k : Int))) := NOK.out (by rw [AF.out]; simp [e1])
              go_wp2_with (first | (go_at_call 60; refine (find60 _ _ _).mono ?_; rintro e wF ⟨rfl, hbF⟩; have BF := Lib.hid (hbF.keep BY.out); have EF := Lib.hid (EY.out.trans hbF); obtain ⟨y1, y2⟩ := blk BF.out; have yl := lt_of_block BF.out; clear hbF))
              have hZ := set2 BF.out (.int .i64 30) (.int .i64 (k : Int))
              have XF : Ext w ((wF.setCell ⟨rb, 0, none⟩ (.int .i64 30)).setCell ⟨rb, 1, none⟩ (.int .i64 (k : Int))) := (Ext.setCell EF.out (p := ⟨rb, 0, none⟩) ho1 _).setCell (p := ⟨rb, 1, none⟩) ho1 _
              generalize (wF.setCell ⟨rb, 0, none⟩ (.int .i64 30)).setCell ⟨rb, 1, none⟩ (.int .i64 (k : Int)) = Z at *
              obtain ⟨z1, z2⟩ := blk hZ
              exact bodyPost_ret (v := .agg #[.int .i64 30, .int .i64 (k : Int)]) (by simp [results, Tryz.results18, go_sem, z1]) rfl ⟨by rw [RK.out], XF⟩
            | true =>
              have e1x : (err != 160) = false := by simp [bne, e1]
              have e2x : True := trivial
              have HN := Lib.hid (YOK.out (by rw [AF.out]; simp [e1]))
              go_wp2_with (first | fail)
              have NI : Hid (RefI w mb rb cap0 acts r (k + 1) ⟨cap0, live, next, clock⟩ Y) := by
                have h9 := HN.out
                have h8 := OKN.out
                rw [AF.out] at h9 h8
                exact ⟨rfl, MY.out, h8, h9, BY.out, EY.out⟩
              go_roundw
              case rel => exact ⟨k + 1, ⟨cap0, live, next, clock⟩, by omega, by go_num, rfl, rfl, NI.out⟩
              case measure => simp [intOf]; omega
          | some xx =>
            obtain ⟨x0, x1⟩ := xx
            simp only [Option.getD_some, Option.isSome_some] at *
            cases hfit : fitsB n with
            | false =>
              have AF : Hid (ansF ⟨cap0, live, next, clock⟩ ⟨kind, id, n, ser, ids, err⟩ = (⟨cap0, live, next, clock⟩, err == 162)) := by
                show ansF _ _ = _
                rw [AF0.out, hfit]; simp
              have hfx : n < 1 ∨ (¬ n < 1 ∧ 1000000 < n) := by
                simp only [fitsB, Bool.and_eq_false_iff, decide_eq_false_iff_not] at hfit
                omega
              rcases hfx with hfx | ⟨hfx, hfy⟩
              · have dd1 : decide (n < 1) = true := by simpa using hfx
                clear hfx hfit
                cases e1 : (err == 162) with
                | false =>
                  have e1x : (err != 162) = true := by simp [bne, e1]
                  have e2x : True := trivial
                  have RK : Hid (r = (30, (k : Int))) := NOK.out (by rw [AF.out]; simp [e1])
                  go_wp2_with (first | (go_at_call 60; refine (find60 _ _ _).mono ?_; rintro e wF ⟨rfl, hbF⟩; have BF := Lib.hid (hbF.keep BY.out); have EF := Lib.hid (EY.out.trans hbF); obtain ⟨y1, y2⟩ := blk BF.out; have yl := lt_of_block BF.out; clear hbF))
                  have hZ := set2 BF.out (.int .i64 30) (.int .i64 (k : Int))
                  have XF : Ext w ((wF.setCell ⟨rb, 0, none⟩ (.int .i64 30)).setCell ⟨rb, 1, none⟩ (.int .i64 (k : Int))) := (Ext.setCell EF.out (p := ⟨rb, 0, none⟩) ho1 _).setCell (p := ⟨rb, 1, none⟩) ho1 _
                  generalize (wF.setCell ⟨rb, 0, none⟩ (.int .i64 30)).setCell ⟨rb, 1, none⟩ (.int .i64 (k : Int)) = Z at *
                  obtain ⟨z1, z2⟩ := blk hZ
                  exact bodyPost_ret (v := .agg #[.int .i64 30, .int .i64 (k : Int)]) (by simp [results, Tryz.results18, go_sem, z1]) rfl ⟨by rw [RK.out], XF⟩
                | true =>
                  have e1x : (err != 162) = false := by simp [bne, e1]
                  have e2x : True := trivial
                  have HN := Lib.hid (YOK.out (by rw [AF.out]; simp [e1]))
                  go_wp2_with (first | fail)
                  have NI : Hid (RefI w mb rb cap0 acts r (k + 1) ⟨cap0, live, next, clock⟩ Y) := by
                    have h9 := HN.out
                    have h8 := OKN.out
                    rw [AF.out] at h9 h8
                    exact ⟨rfl, MY.out, h8, h9, BY.out, EY.out⟩
                  go_roundw
                  case rel => exact ⟨k + 1, ⟨cap0, live, next, clock⟩, by omega, by go_num, rfl, rfl, NI.out⟩
                  case measure => simp [intOf]; omega
              · have dd1 : decide (n < 1) = false := by simpa using hfx
                have dd2 : decide (1000000 < n) = true := by simpa using hfy
                clear hfx hfy hfit
                cases e1 : (err == 162) with
                | false =>
                  have e1x : (err != 162) = true := by simp [bne, e1]
                  have e2x : True := trivial
                  have RK : Hid (r = (30, (k : Int))) := NOK.out (by rw [AF.out]; simp [e1])
                  go_wp2_with (first | (go_at_call 60; refine (find60 _ _ _).mono ?_; rintro e wF ⟨rfl, hbF⟩; have BF := Lib.hid (hbF.keep BY.out); have EF := Lib.hid (EY.out.trans hbF); obtain ⟨y1, y2⟩ := blk BF.out; have yl := lt_of_block BF.out; clear hbF))
                  have hZ := set2 BF.out (.int .i64 30) (.int .i64 (k : Int))
                  have XF : Ext w ((wF.setCell ⟨rb, 0, none⟩ (.int .i64 30)).setCell ⟨rb, 1, none⟩ (.int .i64 (k : Int))) := (Ext.setCell EF.out (p := ⟨rb, 0, none⟩) ho1 _).setCell (p := ⟨rb, 1, none⟩) ho1 _
                  generalize (wF.setCell ⟨rb, 0, none⟩ (.int .i64 30)).setCell ⟨rb, 1, none⟩ (.int .i64 (k : Int)) = Z at *
                  obtain ⟨z1, z2⟩ := blk hZ
                  exact bodyPost_ret (v := .agg #[.int .i64 30, .int .i64 (k : Int)]) (by simp [results, Tryz.results18, go_sem, z1]) rfl ⟨by rw [RK.out], XF⟩
                | true =>
                  have e1x : (err != 162) = false := by simp [bne, e1]
                  have e2x : True := trivial
                  have HN := Lib.hid (YOK.out (by rw [AF.out]; simp [e1]))
                  go_wp2_with (first | fail)
                  have NI : Hid (RefI w mb rb cap0 acts r (k + 1) ⟨cap0, live, next, clock⟩ Y) := by
                    have h9 := HN.out
                    have h8 := OKN.out
                    rw [AF.out] at h9 h8
                    exact ⟨rfl, MY.out, h8, h9, BY.out, EY.out⟩
                  go_roundw
                  case rel => exact ⟨k + 1, ⟨cap0, live, next, clock⟩, by omega, by go_num, rfl, rfl, NI.out⟩
                  case measure => simp [intOf]; omega

            | true =>
              have AF : Hid (ansF ⟨cap0, live, next, clock⟩ ⟨kind, id, n, ser, ids, err⟩ = (⟨cap0, lput live id (x0, clock + n), next, clock⟩, err == 0)) := by
                show ansF _ _ = _
                rw [AF0.out, hfit]; simp
              have hfz : ¬ n < 1 ∧ ¬ 1000000 < n := by
                simp only [fitsB, Bool.and_eq_true, decide_eq_true_eq] at hfit
                omega
              have dd1 : decide (n < 1) = false := by simpa using hfz.1
              have dd2 : decide (1000000 < n) = false := by simpa using hfz.2
              have hb1 : 1 ≤ n := by omega
              have hb2 : n ≤ 1000000 := by omega
              have hsum : IntKind.i64.wrap (clock + n) = clock + n := IntWalk.i64_in _ (by omega)
              clear hfz hfit
              obtain ⟨w3, hup, hm3, hmod3⟩ := run_mapUpdate_int (P := Tryz.prog) Y Tryz.underlying144 Tryz.underlying55 MY.out id (leaseV (x0, clock + n))
              rw [encL_put] at hm3
              simp only [leaseV] at hup
              have B3 := Lib.hid (hmod3.keep BY.out (by simp; omega))
              have E3 : Hid (Ext w w3) := EY.out.of_mod hmod3 (by intro z hz; simp at hz; omega)
              have A3 := hmod3.keep AY.out (by simp; omega)
              obtain ⟨q1, q2⟩ := blk A3
              have hq3 := lt_of_block A3
              have M3 := Lib.hid hm3
              clear hm3 hmod3 A3
              cases e1 : (err == 0) with
              | false =>
                have e1x : (err != 0) = true := by simp [bne, e1]
                have e2x : True := trivial
                have RK : Hid (r = (30, (k : Int))) := NOK.out (by rw [AF.out]; simp [e1])
                go_wp2_with (first | (go_at_call 60; refine (find60 _ _ _).mono ?_; rintro e wF ⟨rfl, hbF⟩; have BF := Lib.hid (hbF.keep B3.out); have EF := Lib.hid (E3.out.trans hbF); obtain ⟨y1, y2⟩ := blk BF.out; have yl := lt_of_block BF.out; clear hbF))
                have hZ := set2 BF.out (.int .i64 30) (.int .i64 (k : Int))
                have XF : Ext w ((wF.setCell ⟨rb, 0, none⟩ (.int .i64 30)).setCell ⟨rb, 1, none⟩ (.int .i64 (k : Int))) := (Ext.setCell EF.out (p := ⟨rb, 0, none⟩) ho1 _).setCell (p := ⟨rb, 1, none⟩) ho1 _
                generalize (wF.setCell ⟨rb, 0, none⟩ (.int .i64 30)).setCell ⟨rb, 1, none⟩ (.int .i64 (k : Int)) = Z at *
                obtain ⟨z1, z2⟩ := blk hZ
                exact bodyPost_ret (v := .agg #[.int .i64 30, .int .i64 (k : Int)]) (by simp [results, Tryz.results18, go_sem, z1]) rfl ⟨by rw [RK.out], XF⟩
              | true =>
                have e1x : (err != 0) = false := by simp [bne, e1]
                have e2x : True := trivial
                have HN := Lib.hid (YOK.out (by rw [AF.out]; simp [e1]))
                go_wp2_with (first | fail)
                have NI : Hid (RefI w mb rb cap0 acts r (k + 1) ⟨cap0, lput live id (x0, clock + n), next, clock⟩ w3) := by
                  have h9 := HN.out
                  have h8 := OKN.out
                  rw [AF.out] at h9 h8
                  exact ⟨rfl, M3.out, h8, h9, B3.out, E3.out⟩
                go_roundw
                case rel => exact ⟨k + 1, ⟨cap0, lput live id (x0, clock + n), next, clock⟩, by omega, by go_num, rfl, rfl, NI.out⟩
                case measure => simp [intOf]; omega
      have q3x : (kind == 3) = false := by simpa using h3
      by_cases h4 : kind = 4
      · as_aux_lemma =>
          have q4x : (kind == 4) = true := by simpa using h4
          have AF0 : Hid (ansF ⟨cap0, live, next, clock⟩ ⟨kind, id, n, ser, ids, err⟩ = match lget live id with | none => (⟨cap0, live, next, clock⟩, err == 160) | some x => (⟨cap0, ldel live id, next, clock⟩, err == 0)) := by
            show ansF _ _ = _
            unfold ansF; rw [if_neg h1, if_neg h2, if_neg h3, if_pos h4]; rfl
          clear h1 h2 h3 h4
          obtain ⟨w3, hdel, hm3, hmod3⟩ := run_delete_map (P := Tryz.prog) Y Tryz.underlying144 Tryz.underlying55 MY.out id
          rw [encL_del] at hm3
          have LDN : Hid (lget live id = none → ldel live id = live) := ldel_none
          have B3 := Lib.hid (hmod3.keep BY.out (by simp; omega))
          have E3 : Hid (Ext w w3) := EY.out.of_mod hmod3 (by intro z hz; simp at hz; omega)
          have A3 := hmod3.keep AY.out (by simp; omega)
          obtain ⟨q1, q2⟩ := blk A3
          have hq3 := lt_of_block A3
          have M3 := Lib.hid hm3
          clear hm3 hmod3 A3
          generalize lget live id = og at *
          cases og with
          | none =>
            have AF := Lib.hid AF0.out
            rw [LDN.out rfl] at M3
            simp only [Option.getD_none, Option.isSome_none] at *
            cases e1 : (err == 160) with
            | false =>
              have e1x : (err != 160) = true := by simp [bne, e1]
              have e2x : True := trivial
              have RK : Hid (r = (30, (k : Int))) := NOK.out (by rw [AF.out]; simp [e1])
              go_wp2_with (first | (go_at_call 60; refine (find60 _ _ _).mono ?_; rintro e wF ⟨rfl, hbF⟩; have BF := Lib.hid (hbF.keep B3.out); have EF := Lib.hid (E3.out.trans hbF); obtain ⟨y1, y2⟩ := blk BF.out; have yl := lt_of_block BF.out; clear hbF))
              have hZ := set2 BF.out (.int .i64 30) (.int .i64 (k : Int))
              have XF : Ext w ((wF.setCell ⟨rb, 0, none⟩ (.int .i64 30)).setCell ⟨rb, 1, none⟩ (.int .i64 (k : Int))) := (Ext.setCell EF.out (p := ⟨rb, 0, none⟩) ho1 _).setCell (p := ⟨rb, 1, none⟩) ho1 _
              generalize (wF.setCell ⟨rb, 0, none⟩ (.int .i64 30)).setCell ⟨rb, 1, none⟩ (.int .i64 (k : Int)) = Z at *
              obtain ⟨z1, z2⟩ := blk hZ
              exact bodyPost_ret (v := .agg #[.int .i64 30, .int .i64 (k : Int)]) (by simp [results, Tryz.results18, go_sem, z1]) rfl ⟨by rw [RK.out], XF⟩
            | true =>
              have e1x : (err != 160) = false := by simp [bne, e1]
              have e2x : True := trivial
              have HN := Lib.hid (YOK.out (by rw [AF.out]; simp [e1]))
              go_wp2_with (first | fail)
              have NI : Hid (RefI w mb rb cap0 acts r (k + 1) ⟨cap0, live, next, clock⟩ w3) := by
                have h9 := HN.out
                have h8 := OKN.out
                rw [AF.out] at h9 h8
                exact ⟨rfl, M3.out, h8, h9, B3.out, E3.out⟩
              go_roundw
              case rel => exact ⟨k + 1, ⟨cap0, live, next, clock⟩, by omega, by go_num, rfl, rfl, NI.out⟩
              case measure => simp [intOf]; omega
          | some xx =>
            have AF := Lib.hid AF0.out
            obtain ⟨x0, x1⟩ := xx
            simp only [Option.getD_some, Option.isSome_some] at *
            cases e1 : (err == 0) with
            | false =>
              have e1x : (err != 0) = true := by simp [bne, e1]
              have e2x : True := trivial
              have RK : Hid (r = (30, (k : Int))) := NOK.out (by rw [AF.out]; simp [e1])
              go_wp2_with (first | (go_at_call 60; refine (find60 _ _ _).mono ?_; rintro e wF ⟨rfl, hbF⟩; have BF := Lib.hid (hbF.keep B3.out); have EF := Lib.hid (E3.out.trans hbF); obtain ⟨y1, y2⟩ := blk BF.out; have yl := lt_of_block BF.out; clear hbF))
              have hZ := set2 BF.out (.int .i64 30) (.int .i64 (k : Int))
              have XF : Ext w ((wF.setCell ⟨rb, 0, none⟩ (.int .i64 30)).setCell ⟨rb, 1, none⟩ (.int .i64 (k : Int))) := (Ext.setCell EF.out (p := ⟨rb, 0, none⟩) ho1 _).setCell (p := ⟨rb, 1, none⟩) ho1 _
              generalize (wF.setCell ⟨rb, 0, none⟩ (.int .i64 30)).setCell ⟨rb, 1, none⟩ (.int .i64 (k : Int)) = Z at *
              obtain ⟨z1, z2⟩ := blk hZ
              exact bodyPost_ret (v := .agg #[.int .i64 30, .int .i64 (k : Int)]) (by simp [results, Tryz.results18, go_sem, z1]) rfl ⟨by rw [RK.out], XF⟩
            | true =>
              have e1x : (err != 0) = false := by simp [bne, e1]
              have e2x : True := trivial
              have HN := Lib.hid (YOK.out (by rw [AF.out]; simp [e1]))
              go_wp2_with (first | fail)
              have NI : Hid (RefI w mb rb cap0 acts r (k + 1) ⟨cap0, ldel live id, next, clock⟩ w3) := by
                have h9 := HN.out
                have h8 := OKN.out
                rw [AF.out] at h9 h8
                exact ⟨rfl, M3.out, h8, h9, B3.out, E3.out⟩
              go_roundw
              case rel => exact ⟨k + 1, ⟨cap0, ldel live id, next, clock⟩, by omega, by go_num, rfl, rfl, NI.out⟩
              case measure => simp [intOf]; omega
      have q4x : (kind == 4) = false := by simpa using h4
      by_cases h5 : kind = 5
      · as_aux_lemma =>
          have q5x : (kind == 5) = true := by simpa using h5
          cases hb : tickB ⟨cap0, live, next, clock⟩ ⟨kind, id, n, ser, ids, err⟩ with
          | true =>
            have AF : Hid (ansF ⟨cap0, live, next, clock⟩ ⟨kind, id, n, ser, ids, err⟩ = (⟨cap0, live, next, clock⟩, err == 1 && ids.length == 0)) := by
              show ansF _ _ = _
              unfold ansF; rw [if_neg h1, if_neg h2, if_neg h3, if_neg h4, if_pos h5]; unfold tickF; rw [hb]; rfl
            have SAM : Hid (Calls Tryz.prog 67 #[.slice none 0 0, .slice ad2 il c2] Y fun e w' => e = .returned (.bool (ids.length == 0)) ∧ Ext Y w') := by
              have := same67 (w := Y) (a := none) (b := ad2) (c := 0) (d := c2) (l := []) (m := ids) (fun h => by simp at h) (IDS.out Y (EWY.out.mod _)) (by simp) (by rw [← HIL.out]; exact hil)
              rw [← HIL.out] at this
              have e : (([] : List Int) == ids) = (ids.length == 0) := by cases ids <;> rfl
              rw [e] at this; exact this
            have hq : n < 0 ∨ (¬ n < 0 ∧ 1099511627776 < n) ∨ (¬ n < 0 ∧ ¬ 1099511627776 < n ∧ 1099511627776 < clock + n) := by
              simp only [tickB, Bool.or_eq_true, decide_eq_true_eq] at hb
              omega
            clear h1 h2 h3 h4 h5 hb
            rcases hq with hq | ⟨hq, hq2⟩ | ⟨hq, hq2, hq3'⟩
            · have dd1 : decide (n < 0) = true := by simpa using hq
              clear hq
              cases e1 : (err == 1) with
              | false =>
                have e1x : (err != 1) = true := by simp [bne, e1]
                have e2x : True := trivial
                have RK : Hid (r = (30, (k : Int))) := NOK.out (by rw [AF.out]; simp [e1])
                go_wp2_with (first | (go_at_call 67; refine (SAM.out).mono ?_; rintro e w4 ⟨rfl, hb4⟩; have E4 := Lib.hid (EY.out.trans hb4); have B4 := Lib.hid (hb4.keep BY.out); have M4 := Lib.hid (MY.out.keep hb4); clear hb4) | (go_at_call 60; refine (find60 _ _ _).mono ?_; rintro e wF ⟨rfl, hbF⟩; have BF := Lib.hid (hbF.keep B4.out); have EF := Lib.hid (E4.out.trans hbF); obtain ⟨y1, y2⟩ := blk BF.out; have yl := lt_of_block BF.out; clear hbF))
                have hZ := set2 BF.out (.int .i64 30) (.int .i64 (k : Int))
                have XF : Ext w ((wF.setCell ⟨rb, 0, none⟩ (.int .i64 30)).setCell ⟨rb, 1, none⟩ (.int .i64 (k : Int))) := (Ext.setCell EF.out (p := ⟨rb, 0, none⟩) ho1 _).setCell (p := ⟨rb, 1, none⟩) ho1 _
                generalize (wF.setCell ⟨rb, 0, none⟩ (.int .i64 30)).setCell ⟨rb, 1, none⟩ (.int .i64 (k : Int)) = Z at *
                obtain ⟨z1, z2⟩ := blk hZ
                exact bodyPost_ret (v := .agg #[.int .i64 30, .int .i64 (k : Int)]) (by simp [results, Tryz.results18, go_sem, z1]) rfl ⟨by rw [RK.out], XF⟩
              | true =>
                have e1x : (err != 1) = false := by simp [bne, e1]
                cases e2 : (ids.length == 0) with
                | false =>
                  have e2x : (ids.length == 0) = false := e2
                  rw [e2] at SAM
                  have RK : Hid (r = (30, (k : Int))) := NOK.out (by rw [AF.out]; simp [e1, e2x])
                  go_wp2_with (first | (go_at_call 67; refine (SAM.out).mono ?_; rintro e w4 ⟨rfl, hb4⟩; have E4 := Lib.hid (EY.out.trans hb4); have B4 := Lib.hid (hb4.keep BY.out); have M4 := Lib.hid (MY.out.keep hb4); clear hb4) | (go_at_call 60; refine (find60 _ _ _).mono ?_; rintro e wF ⟨rfl, hbF⟩; have BF := Lib.hid (hbF.keep B4.out); have EF := Lib.hid (E4.out.trans hbF); obtain ⟨y1, y2⟩ := blk BF.out; have yl := lt_of_block BF.out; clear hbF))
                  have hZ := set2 BF.out (.int .i64 30) (.int .i64 (k : Int))
                  have XF : Ext w ((wF.setCell ⟨rb, 0, none⟩ (.int .i64 30)).setCell ⟨rb, 1, none⟩ (.int .i64 (k : Int))) := (Ext.setCell EF.out (p := ⟨rb, 0, none⟩) ho1 _).setCell (p := ⟨rb, 1, none⟩) ho1 _
                  generalize (wF.setCell ⟨rb, 0, none⟩ (.int .i64 30)).setCell ⟨rb, 1, none⟩ (.int .i64 (k : Int)) = Z at *
                  obtain ⟨z1, z2⟩ := blk hZ
                  exact bodyPost_ret (v := .agg #[.int .i64 30, .int .i64 (k : Int)]) (by simp [results, Tryz.results18, go_sem, z1]) rfl ⟨by rw [RK.out], XF⟩
                | true =>
                  have e2x : (ids.length == 0) = true := e2
                  rw [e2] at SAM
                  have HN := Lib.hid (YOK.out (by rw [AF.out]; simp [e1, e2x]))
                  go_wp2_with (first | (go_at_call 67; refine (SAM.out).mono ?_; rintro e w4 ⟨rfl, hb4⟩; have E4 := Lib.hid (EY.out.trans hb4); have B4 := Lib.hid (hb4.keep BY.out); have M4 := Lib.hid (MY.out.keep hb4); clear hb4))
                  have NI : Hid (RefI w mb rb cap0 acts r (k + 1) ⟨cap0, live, next, clock⟩ w4) := by
                    have h9 := HN.out
                    have h8 := OKN.out
                    rw [AF.out] at h9 h8
                    exact ⟨rfl, M4.out, h8, h9, B4.out, E4.out⟩
                  go_roundw
                  case rel => exact ⟨k + 1, ⟨cap0, live, next, clock⟩, by omega, by go_num, rfl, rfl, NI.out⟩
                  case measure => simp [intOf]; omega
            · have dd1 : decide (n < 0) = false := by simpa using hq
              have dd2 : decide (1099511627776 < n) = true := by simpa using hq2
              clear hq hq2
              cases e1 : (err == 1) with
              | false =>
                have e1x : (err != 1) = true := by simp [bne, e1]
                have e2x : True := trivial
                have RK : Hid (r = (30, (k : Int))) := NOK.out (by rw [AF.out]; simp [e1])
                go_wp2_with (first | (go_at_call 67; refine (SAM.out).mono ?_; rintro e w4 ⟨rfl, hb4⟩; have E4 := Lib.hid (EY.out.trans hb4); have B4 := Lib.hid (hb4.keep BY.out); have M4 := Lib.hid (MY.out.keep hb4); clear hb4) | (go_at_call 60; refine (find60 _ _ _).mono ?_; rintro e wF ⟨rfl, hbF⟩; have BF := Lib.hid (hbF.keep B4.out); have EF := Lib.hid (E4.out.trans hbF); obtain ⟨y1, y2⟩ := blk BF.out; have yl := lt_of_block BF.out; clear hbF))
                have hZ := set2 BF.out (.int .i64 30) (.int .i64 (k : Int))
                have XF : Ext w ((wF.setCell ⟨rb, 0, none⟩ (.int .i64 30)).setCell ⟨rb, 1, none⟩ (.int .i64 (k : Int))) := (Ext.setCell EF.out (p := ⟨rb, 0, none⟩) ho1 _).setCell (p := ⟨rb, 1, none⟩) ho1 _
                generalize (wF.setCell ⟨rb, 0, none⟩ (.int .i64 30)).setCell ⟨rb, 1, none⟩ (.int .i64 (k : Int)) = Z at *
                obtain ⟨z1, z2⟩ := blk hZ
                exact bodyPost_ret (v := .agg #[.int .i64 30, .int .i64 (k : Int)]) (by simp [results, Tryz.results18, go_sem, z1]) rfl ⟨by rw [RK.out], XF⟩
              | true =>
                have e1x : (err != 1) = false := by simp [bne, e1]
                cases e2 : (ids.length == 0) with
                | false =>
                  have e2x : (ids.length == 0) = false := e2
                  rw [e2] at SAM
                  have RK : Hid (r = (30, (k : Int))) := NOK.out (by rw [AF.out]; simp [e1, e2x])
                  go_wp2_with (first | (go_at_call 67; refine (SAM.out).mono ?_; rintro e w4 ⟨rfl, hb4⟩; have E4 := Lib.hid (EY.out.trans hb4); have B4 := Lib.hid (hb4.keep BY.out); have M4 := Lib.hid (MY.out.keep hb4); clear hb4) | (go_at_call 60; refine (find60 _ _ _).mono ?_; rintro e wF ⟨rfl, hbF⟩; have BF := Lib.hid (hbF.keep B4.out); have EF := Lib.hid (E4.out.trans hbF); obtain ⟨y1, y2⟩ := blk BF.out; have yl := lt_of_block BF.out; clear hbF))
                  have hZ := set2 BF.out (.int .i64 30) (.int .i64 (k : Int))
                  have XF : Ext w ((wF.setCell ⟨rb, 0, none⟩ (.int .i64 30)).setCell ⟨rb, 1, none⟩ (.int .i64 (k : Int))) := (Ext.setCell EF.out (p := ⟨rb, 0, none⟩) ho1 _).setCell (p := ⟨rb, 1, none⟩) ho1 _
                  generalize (wF.setCell ⟨rb, 0, none⟩ (.int .i64 30)).setCell ⟨rb, 1, none⟩ (.int .i64 (k : Int)) = Z at *
                  obtain ⟨z1, z2⟩ := blk hZ
                  exact bodyPost_ret (v := .agg #[.int .i64 30, .int .i64 (k : Int)]) (by simp [results, Tryz.results18, go_sem, z1]) rfl ⟨by rw [RK.out], XF⟩
                | true =>
                  have e2x : (ids.length == 0) = true := e2
                  rw [e2] at SAM
                  have HN := Lib.hid (YOK.out (by rw [AF.out]; simp [e1, e2x]))
                  go_wp2_with (first | (go_at_call 67; refine (SAM.out).mono ?_; rintro e w4 ⟨rfl, hb4⟩; have E4 := Lib.hid (EY.out.trans hb4); have B4 := Lib.hid (hb4.keep BY.out); have M4 := Lib.hid (MY.out.keep hb4); clear hb4))
                  have NI : Hid (RefI w mb rb cap0 acts r (k + 1) ⟨cap0, live, next, clock⟩ w4) := by
                    have h9 := HN.out
                    have h8 := OKN.out
                    rw [AF.out] at h9 h8
                    exact ⟨rfl, M4.out, h8, h9, B4.out, E4.out⟩
                  go_roundw
                  case rel => exact ⟨k + 1, ⟨cap0, live, next, clock⟩, by omega, by go_num, rfl, rfl, NI.out⟩
                  case measure => simp [intOf]; omega
            · have dd1 : decide (n < 0) = false := by simpa using hq
              have dd2 : decide (1099511627776 < n) = false := by simpa using hq2
              have hsum : IntKind.i64.wrap (clock + n) = clock + n := IntWalk.i64_in _ (by omega)
              have dd3 : decide (1099511627776 < clock + n) = true := by simpa using hq3'
              clear hq3'
              cases e1 : (err == 1) with
              | false =>
                have e1x : (err != 1) = true := by simp [bne, e1]
                have e2x : True := trivial
                have RK : Hid (r = (30, (k : Int))) := NOK.out (by rw [AF.out]; simp [e1])
                go_wp2_with (first | (go_at_call 67; refine (SAM.out).mono ?_; rintro e w4 ⟨rfl, hb4⟩; have E4 := Lib.hid (EY.out.trans hb4); have B4 := Lib.hid (hb4.keep BY.out); have M4 := Lib.hid (MY.out.keep hb4); clear hb4) | (go_at_call 60; refine (find60 _ _ _).mono ?_; rintro e wF ⟨rfl, hbF⟩; have BF := Lib.hid (hbF.keep B4.out); have EF := Lib.hid (E4.out.trans hbF); obtain ⟨y1, y2⟩ := blk BF.out; have yl := lt_of_block BF.out; clear hbF))
                have hZ := set2 BF.out (.int .i64 30) (.int .i64 (k : Int))
                have XF : Ext w ((wF.setCell ⟨rb, 0, none⟩ (.int .i64 30)).setCell ⟨rb, 1, none⟩ (.int .i64 (k : Int))) := (Ext.setCell EF.out (p := ⟨rb, 0, none⟩) ho1 _).setCell (p := ⟨rb, 1, none⟩) ho1 _
                generalize (wF.setCell ⟨rb, 0, none⟩ (.int .i64 30)).setCell ⟨rb, 1, none⟩ (.int .i64 (k : Int)) = Z at *
                obtain ⟨z1, z2⟩ := blk hZ
                exact bodyPost_ret (v := .agg #[.int .i64 30, .int .i64 (k : Int)]) (by simp [results, Tryz.results18, go_sem, z1]) rfl ⟨by rw [RK.out], XF⟩
              | true =>
                have e1x : (err != 1) = false := by simp [bne, e1]
                cases e2 : (ids.length == 0) with
                | false =>
                  have e2x : (ids.length == 0) = false := e2
                  rw [e2] at SAM
                  have RK : Hid (r = (30, (k : Int))) := NOK.out (by rw [AF.out]; simp [e1, e2x])
                  go_wp2_with (first | (go_at_call 67; refine (SAM.out).mono ?_; rintro e w4 ⟨rfl, hb4⟩; have E4 := Lib.hid (EY.out.trans hb4); have B4 := Lib.hid (hb4.keep BY.out); have M4 := Lib.hid (MY.out.keep hb4); clear hb4) | (go_at_call 60; refine (find60 _ _ _).mono ?_; rintro e wF ⟨rfl, hbF⟩; have BF := Lib.hid (hbF.keep B4.out); have EF := Lib.hid (E4.out.trans hbF); obtain ⟨y1, y2⟩ := blk BF.out; have yl := lt_of_block BF.out; clear hbF))
                  have hZ := set2 BF.out (.int .i64 30) (.int .i64 (k : Int))
                  have XF : Ext w ((wF.setCell ⟨rb, 0, none⟩ (.int .i64 30)).setCell ⟨rb, 1, none⟩ (.int .i64 (k : Int))) := (Ext.setCell EF.out (p := ⟨rb, 0, none⟩) ho1 _).setCell (p := ⟨rb, 1, none⟩) ho1 _
                  generalize (wF.setCell ⟨rb, 0, none⟩ (.int .i64 30)).setCell ⟨rb, 1, none⟩ (.int .i64 (k : Int)) = Z at *
                  obtain ⟨z1, z2⟩ := blk hZ
                  exact bodyPost_ret (v := .agg #[.int .i64 30, .int .i64 (k : Int)]) (by simp [results, Tryz.results18, go_sem, z1]) rfl ⟨by rw [RK.out], XF⟩
                | true =>
                  have e2x : (ids.length == 0) = true := e2
                  rw [e2] at SAM
                  have HN := Lib.hid (YOK.out (by rw [AF.out]; simp [e1, e2x]))
                  go_wp2_with (first | (go_at_call 67; refine (SAM.out).mono ?_; rintro e w4 ⟨rfl, hb4⟩; have E4 := Lib.hid (EY.out.trans hb4); have B4 := Lib.hid (hb4.keep BY.out); have M4 := Lib.hid (MY.out.keep hb4); clear hb4))
                  have NI : Hid (RefI w mb rb cap0 acts r (k + 1) ⟨cap0, live, next, clock⟩ w4) := by
                    have h9 := HN.out
                    have h8 := OKN.out
                    rw [AF.out] at h9 h8
                    exact ⟨rfl, M4.out, h8, h9, B4.out, E4.out⟩
                  go_roundw
                  case rel => exact ⟨k + 1, ⟨cap0, live, next, clock⟩, by omega, by go_num, rfl, rfl, NI.out⟩
                  case measure => simp [intOf]; omega
          | false =>
            have AF : Hid (ansF ⟨cap0, live, next, clock⟩ ⟨kind, id, n, ser, ids, err⟩ = (⟨cap0, stayF live (clock + n), next, clock + n⟩, err == 0 && ids == goneF live (clock + n))) := by
              show ansF _ _ = _
              unfold ansF; rw [if_neg h1, if_neg h2, if_neg h3, if_neg h4, if_pos h5]; unfold tickF; rw [hb]; rfl
            have hq : ¬ n < 0 ∧ ¬ 1099511627776 < n ∧ ¬ 1099511627776 < clock + n := by
              simp only [tickB, Bool.or_eq_false_iff, decide_eq_false_iff_not] at hb
              omega
            obtain ⟨hq1, hq2, hq3'⟩ := hq
            have dd1 : decide (n < 0) = false := by simpa using hq1
            have dd2 : decide (1099511627776 < n) = false := by simpa using hq2
            have hsum : IntKind.i64.wrap (clock + n) = clock + n := IntWalk.i64_in _ (by omega)
            have dd3 : decide (1099511627776 < clock + n) = false := by simpa using hq3'
            have hgl : (goneF live (clock + n)).length ≤ 256 := by
              have h9 := (List.mergeSort_perm ((live.filter fun p => decide (p.2.2 ≤ clock + n)).map (·.1)) fun x y => decide (x ≤ y)).length_eq
              have h8 := List.length_filter_le (fun p : Int × Int × Int => decide (p.2.2 ≤ clock + n)) live
              simp only [List.length_map] at h9
              unfold goneF; omega
            have GON := Lib.hid (gone66 (l := live) MY.out KEYS.out (by show live.length ≤ 256; omega) (clock + n))
            have SAM : Hid (∀ (W : World) (ad3 : Option Addr) (cp3 : Nat), Mod [mb] Y W → IdsAt W ad3 (goneF live (clock + n)) → Calls Tryz.prog 67 #[.slice ad3 (goneF live (clock + n)).length cp3, .slice ad2 il c2] W fun e w' => e = .returned (.bool (ids == goneF live (clock + n))) ∧ Ext W w') := by
              intro W ad3 cp3 hM h9
              have := same67 (w := W) (a := ad3) (b := ad2) (c := cp3) (d := c2) h9 (IDS.out W (((EWY.out).mod _).trans hM)) (by omega) (by rw [← HIL.out]; exact hil)
              rw [← HIL.out] at this
              have e : (goneF live (clock + n) == ids) = (ids == goneF live (clock + n)) := BEq.comm
              rw [e] at this; exact this
            generalize (goneF live (clock + n)).length = gl at *
            clear h1 h2 h3 h4 h5 hb hq3'
            cases e1 : (err == 0) with
            | false =>
              have e1x : (err != 0) = true := by simp [bne, e1]
              have e2x : True := trivial
              have RK : Hid (r = (30, (k : Int))) := NOK.out (by rw [AF.out]; simp [e1])
              go_wp2_with (first | (go_at_call 66; refine GON.out.mono ?_; rintro e w3 ⟨⟨ad3, cp3, rfl, hi3⟩, hm3, hmod3⟩; have I3 := Lib.hid hi3; have M3 := Lib.hid hm3; have D3 := Lib.hid hmod3; obtain ⟨q1, q2⟩ := blk (hmod3.keep AY.out (by simp; omega)); have hq3 := lt_of_block (hmod3.keep AY.out (by simp; omega)); clear hi3 hm3 hmod3) | (go_at_call 67; refine (SAM.out _ _ cp3 D3.out I3.out).mono ?_; rintro e w4 ⟨rfl, hb4⟩; have E4 := Lib.hid ((EY.out.of_mod D3.out (by intro z hz; simp at hz; omega)).trans hb4); have B4 := Lib.hid (hb4.keep (D3.out.keep BY.out (by simp; omega))); have M4 := Lib.hid (M3.out.keep hb4); clear hb4) | (go_at_call 60; refine (find60 _ _ _).mono ?_; rintro e wF ⟨rfl, hbF⟩; have BF := Lib.hid (hbF.keep B4.out); have EF := Lib.hid (E4.out.trans hbF); obtain ⟨y1, y2⟩ := blk BF.out; have yl := lt_of_block BF.out; clear hbF))
              have hZ := set2 BF.out (.int .i64 30) (.int .i64 (k : Int))
              have XF : Ext w ((wF.setCell ⟨rb, 0, none⟩ (.int .i64 30)).setCell ⟨rb, 1, none⟩ (.int .i64 (k : Int))) := (Ext.setCell EF.out (p := ⟨rb, 0, none⟩) ho1 _).setCell (p := ⟨rb, 1, none⟩) ho1 _
              generalize (wF.setCell ⟨rb, 0, none⟩ (.int .i64 30)).setCell ⟨rb, 1, none⟩ (.int .i64 (k : Int)) = Z at *
              obtain ⟨z1, z2⟩ := blk hZ
              exact bodyPost_ret (v := .agg #[.int .i64 30, .int .i64 (k : Int)]) (by simp [results, Tryz.results18, go_sem, z1]) rfl ⟨by rw [RK.out], XF⟩
            | true =>
              have e1x : (err != 0) = false := by simp [bne, e1]
              cases e2 : (ids == goneF live (clock + n)) with
              | false =>
                have e2x : (ids == goneF live (clock + n)) = false := e2
                rw [e2] at SAM
                have RK : Hid (r = (30, (k : Int))) := NOK.out (by rw [AF.out]; simp [e1, e2x])
                go_wp2_with (first | (go_at_call 66; refine GON.out.mono ?_; rintro e w3 ⟨⟨ad3, cp3, rfl, hi3⟩, hm3, hmod3⟩; have I3 := Lib.hid hi3; have M3 := Lib.hid hm3; have D3 := Lib.hid hmod3; obtain ⟨q1, q2⟩ := blk (hmod3.keep AY.out (by simp; omega)); have hq3 := lt_of_block (hmod3.keep AY.out (by simp; omega)); clear hi3 hm3 hmod3) | (go_at_call 67; refine (SAM.out _ _ cp3 D3.out I3.out).mono ?_; rintro e w4 ⟨rfl, hb4⟩; have E4 := Lib.hid ((EY.out.of_mod D3.out (by intro z hz; simp at hz; omega)).trans hb4); have B4 := Lib.hid (hb4.keep (D3.out.keep BY.out (by simp; omega))); have M4 := Lib.hid (M3.out.keep hb4); clear hb4) | (go_at_call 60; refine (find60 _ _ _).mono ?_; rintro e wF ⟨rfl, hbF⟩; have BF := Lib.hid (hbF.keep B4.out); have EF := Lib.hid (E4.out.trans hbF); obtain ⟨y1, y2⟩ := blk BF.out; have yl := lt_of_block BF.out; clear hbF))
                have hZ := set2 BF.out (.int .i64 30) (.int .i64 (k : Int))
                have XF : Ext w ((wF.setCell ⟨rb, 0, none⟩ (.int .i64 30)).setCell ⟨rb, 1, none⟩ (.int .i64 (k : Int))) := (Ext.setCell EF.out (p := ⟨rb, 0, none⟩) ho1 _).setCell (p := ⟨rb, 1, none⟩) ho1 _
                generalize (wF.setCell ⟨rb, 0, none⟩ (.int .i64 30)).setCell ⟨rb, 1, none⟩ (.int .i64 (k : Int)) = Z at *
                obtain ⟨z1, z2⟩ := blk hZ
                exact bodyPost_ret (v := .agg #[.int .i64 30, .int .i64 (k : Int)]) (by simp [results, Tryz.results18, go_sem, z1]) rfl ⟨by rw [RK.out], XF⟩
              | true =>
                have e2x : (ids == goneF live (clock + n)) = true := e2
                rw [e2] at SAM
                have HN := Lib.hid (YOK.out (by rw [AF.out]; simp [e1, e2x]))
                go_wp2_with (first | (go_at_call 66; refine GON.out.mono ?_; rintro e w3 ⟨⟨ad3, cp3, rfl, hi3⟩, hm3, hmod3⟩; have I3 := Lib.hid hi3; have M3 := Lib.hid hm3; have D3 := Lib.hid hmod3; obtain ⟨q1, q2⟩ := blk (hmod3.keep AY.out (by simp; omega)); have hq3 := lt_of_block (hmod3.keep AY.out (by simp; omega)); clear hi3 hm3 hmod3) | (go_at_call 67; refine (SAM.out _ _ cp3 D3.out I3.out).mono ?_; rintro e w4 ⟨rfl, hb4⟩; have E4 := Lib.hid ((EY.out.of_mod D3.out (by intro z hz; simp at hz; omega)).trans hb4); have B4 := Lib.hid (hb4.keep (D3.out.keep BY.out (by simp; omega))); have M4 := Lib.hid (M3.out.keep hb4); clear hb4))
                have NI : Hid (RefI w mb rb cap0 acts r (k + 1) ⟨cap0, stayF live (clock + n), next, clock + n⟩ w4) := by
                  have h9 := HN.out
                  have h8 := OKN.out
                  rw [AF.out] at h9 h8
                  exact ⟨rfl, M4.out, h8, h9, B4.out, E4.out⟩
                go_roundw
                case rel => exact ⟨k + 1, ⟨cap0, stayF live (clock + n), next, clock + n⟩, by omega, by go_num, rfl, rfl, NI.out⟩
                case measure => simp [intOf]; omega
      as_aux_lemma =>
        have q5x : (kind == 5) = false := by simpa using h5
        have e1 : True := trivial
        have e2x : True := trivial
        have AF : Hid (ansF ⟨cap0, live, next, clock⟩ ⟨kind, id, n, ser, ids, err⟩ = (⟨cap0, live, next, clock⟩, false)) := by
          show ansF _ _ = _
          unfold ansF; rw [if_neg h1, if_neg h2, if_neg h3, if_neg h4, if_neg h5]
        clear h1 h2 h3 h4 h5
        have RK : Hid (r = (30, (k : Int))) := NOK.out (by rw [AF.out])
        go_wp2_with (first | (go_at_call 60; refine (find60 _ _ _).mono ?_; rintro e wF ⟨rfl, hbF⟩; have BF := Lib.hid (hbF.keep BY.out); have EF := Lib.hid (EY.out.trans hbF); obtain ⟨y1, y2⟩ := blk BF.out; have yl := lt_of_block BF.out; clear hbF))
        have hZ := set2 BF.out (.int .i64 30) (.int .i64 (k : Int))
        have XF : Ext w ((wF.setCell ⟨rb, 0, none⟩ (.int .i64 30)).setCell ⟨rb, 1, none⟩ (.int .i64 (k : Int))) := (Ext.setCell EF.out (p := ⟨rb, 0, none⟩) ho1 _).setCell (p := ⟨rb, 1, none⟩) ho1 _
        generalize (wF.setCell ⟨rb, 0, none⟩ (.int .i64 30)).setCell ⟨rb, 1, none⟩ (.int .i64 (k : Int)) = Z at *
        obtain ⟨z1, z2⟩ := blk hZ
        exact bodyPost_ret (v := .agg #[.int .i64 30, .int .i64 (k : Int)]) (by simp [results, Tryz.results18, go_sem, z1]) rfl ⟨by rw [RK.out], XF⟩
    · obtain rfl : k = acts.length := by omega
      have RK : Hid (r = (0, 0)) := by
        have := I.out.go; rw [List.drop_length] at this; exact this.symm
      obtain ⟨y1, y2⟩ := blk I.out.box
      have hbw : rb < wr.heap.size := lt_of_block I.out.box
      go_wp2
      have hZ := set2 I.out.box (.int .i64 0) (.int .i64 0)
      have XF : Ext w ((wr.setCell ⟨rb, 0, none⟩ (.int .i64 0)).setCell ⟨rb, 1, none⟩ (.int .i64 0)) := (Ext.setCell I.out.ext (p := ⟨rb, 0, none⟩) ho1 _).setCell (p := ⟨rb, 1, none⟩) ho1 _
      generalize (wr.setCell ⟨rb, 0, none⟩ (.int .i64 0)).setCell ⟨rb, 1, none⟩ (.int .i64 0) = Z at *
      obtain ⟨z1, z2⟩ := blk hZ
      exact bodyPost_ret (v := .agg #[.int .i64 0, .int .i64 0]) (by simp [results, Tryz.results18, go_sem, z1]) rfl ⟨by rw [RK.out], XF⟩

end Go.Proofs.Eff
