/- effigylaw24.both. -/
import Derived.Test.YtaggadjiefgpoaaGreatDoorRf4
import Derived.Test.YtaggadjiefgpoaaGreatDoorSl1
namespace Go.Proofs.Eff
open Go.RowKit

/-- A heap by its words, as it came in. -/
structure StuffIn (w : World) (ws rs : List Int) (last : Int) (ad1 ad2 : Option Addr) : Prop where
  in1 : SlIn w ad1 (u32s ws)
  in2 : SlIn w ad2 (u32s rs)
  r1 : ∀ x, x ∈ ws → 0 ≤ x ∧ x < 4294967296
  r2 : ∀ x, x ∈ rs → 0 ≤ x ∧ x < 4294967296
  l0 : 0 ≤ last
  l1 : last < 4294967296
  n1 : ws.length ≤ 9223372036854775807
  n2 : rs.length ≤ 9223372036854775807
theorem StuffIn.keep {a w : World} {ws rs : List Int} {last : Int} {ad1 ad2 : Option Addr} (h : StuffIn a ws rs last ad1 ad2) (hE : Ext a w) : StuffIn w ws rs last ad1 ad2 := ⟨h.in1.keep hE, h.in2.keep hE, h.r1, h.r2, h.l0, h.l1, h.n1, h.n2⟩

theorem RLoad_any {w : World} {size : Int} {ws rs : List Int} {last : Int} {ad1 ad2 : Option Addr} (c1 c2 : Nat) (hs0 : 64 ≤ size) (hs1 : size ≤ 1048576) (h : StuffIn w ws rs last ad1 ad2) :
    Calls Tryz.prog 11 #[.int .i64 size, .slice ad1 ws.length c1, .slice ad2 rs.length c2, .int .u32 last] w (RLoadR w size ws rs last) := by
  by_cases hbad : ws.length < 1 ∨ size < (ws.length : Int) ∨ rs.length ≠ 64
  · exact RLoad_short h.n1 h.n2 hbad
  · obtain ⟨ga, oa, rfl, g1, g2⟩ := h.in1 (by simp; omega)
    obtain ⟨gb, ob, rfl, g3, g4⟩ := h.in2 (by simp; omega)
    exact RLoad_long hs0 hs1 (by omega) (by omega) (by omega) g1 g2 g3 g4 h.r1 h.r2 h.l0 h.l1

def BothR (w : World) (size : Int) (ws rs : List Int) (last : Int) (e : Ending) (w' : World) : Prop :=
  Ext w w' ∧ ((∃ os L LR, e = .returned (.tuple #[.pointer (some ⟨L.b, 0, none⟩), .pointer (some ⟨LR.b, 0, none⟩), .bool true]) ∧ HeapAt w' L (stuffH size ws os rs last) ∧ RefFull w' LR (stuffH size ws os rs last) ∧ WF (stuffH size ws os rs last) os ∧ Sound (stuffH size ws os rs last) os ∧ L.above w.heap.size) ∨
    e = .returned (.tuple #[.pointer none, .pointer none, .bool false]))

set_option maxRecDepth 100000 in
set_option maxHeartbeats 2000000 in
theorem both8 {w : World} {size : Int} {ws rs : List Int} {last : Int} {ad1 ad2 : Option Addr} (c1 c2 : Nat) (hs : Spares w) (h : StuffIn w ws rs last ad1 ad2) :
    Calls Tryz.prog 8 #[.agg #[.int .i64 size, .slice ad1 ws.length c1, .slice ad2 rs.length c2, .int .u32 last]] w (BothR w size ws rs last) := by
  have hp := hs.pos
  have HS := Lib.hid hs
  have H := Lib.hid h
  have NO : Hid (∀ (e : Ending) (W : World), Ext w W → e = .returned (.tuple #[.pointer none, .pointer none, .bool false]) → BothR w size ws rs last e W) := fun e W hE he => ⟨hE, .inr he⟩
  clear h hs
  by_cases h1 : size < 64
  · go_enter Tryz.func8, Tryz.ntmps8
    go_wp2
    go_ret3
    exact NO.out _ _ ((Ext.refl _).alloc _) rfl
  · by_cases h2 : 1048576 < size
    · have d1 : decide (size < 64) = false := by simpa using h1
      go_enter Tryz.func8, Tryz.ntmps8
      go_wp2
      go_ret3
      exact NO.out _ _ ((Ext.refl _).alloc _) rfl
    · have d1 : decide (size < 64) = false := by simpa using h1
      have d2 : decide (1048576 < size) = false := by simpa using h2
      have s0 : 64 ≤ size := by omega
      have s1 : size ≤ 1048576 := by omega
      have RL := Lib.hid (fun W (hE : Ext w W) => RLoad_any (size := size) c1 c2 s0 s1 (H.out.keep hE))
      have NW := Lib.hid (fun W => New_ok size s0 s1 W)
      have B0 := Lib.hid (newB w (.cells #[.int .i64 size, .slice ad1 ws.length c1, .slice ad2 rs.length c2, .int .u32 last] 26) _ rfl)
      have E0 := Lib.hid ((Ext.refl w).alloc (.cells #[.int .i64 size, .slice ad1 ws.length c1, .slice ad2 rs.length c2, .int .u32 last] 26))
      clear h1 h2
      go_enter Tryz.func8, Tryz.ntmps8
      go_wp2_with fail
      refine (RL.out _ E0.out).mono ?_
      rintro e w1 ⟨hE1, ⟨os, LR, rfl, hF, hwf, hso⟩ | ⟨n, hn, rfl⟩⟩
      · have F1 := Lib.hid hF
        have WFX := Lib.hid hwf
        have SO := Lib.hid hso
        have E1 := Lib.hid (E0.out.trans hE1)
        have B1 := Lib.hid (hE1.keep B0.out)
        obtain ⟨b1, b2⟩ := blk B1.out
        clear hE1 hF hwf hso
        go_wp2_with fail
        refine (NW.out _).mono ?_
        rintro e w2 ⟨L2, rfl, hA2, hE2, hf2⟩
        have A2 := Lib.hid hA2
        have E2 := Lib.hid (E1.out.trans hE2)
        have F2 := Lib.hid (F1.out.keep hE2)
        have B2 := Lib.hid (hE2.keep B1.out)
        have HF2 := Lib.hid hf2
        have HS12 := Lib.hid hE2.size
        have E12 := Lib.hid hE2
        clear b1 b2 hA2 hE2 hf2
        obtain ⟨b1, b2⟩ := blk B2.out
        have S2 := Lib.hid (H.out.keep E2.out)
        have hl1 : 0 < ws.length := WFX.out.pos
        have hl2 : rs.length = 64 := WFX.out.rlen
        obtain ⟨ga, oa, he1, g1, g2⟩ := S2.out.in1 (by simp; omega)
        obtain ⟨gb, ob, he2, g3, g4⟩ := S2.out.in2 (by simp; omega)
        have LD := Lib.hid (Load_ok (os := os) A2.out (emptyH_wf size s0 s1) (HS.out.kept E2.out hp) (ws := ws) (rs := rs) (last := last) ⟨ga, oa, none⟩ ⟨gb, ob, none⟩ c1 c2 g2 g1 g4 g3 hl1 WFX.out.fits H.out.r1 hl2 H.out.r2 H.out.l0 H.out.l1 WFX.out.zero WFX.out.laid SO.out)
        rw [← he1, ← he2] at LD
        clear he1 he2 g1 g2 g3 g4 hl1 hl2
        go_wp2_with (first | (go_at_call 13; refine (num13 _ _).mono ?_; rintro e w' ⟨rfl, rfl⟩) | (go_at_call 14; refine LD.out.mono ?_; rintro e w3 ⟨rfl, L3, hb3, hA3, hM3, n1, n2, n3⟩))
        go_ret3
        have E13 : Ext w1 w3 := Mod.ext_of_new E12.out hM3 HF2.out.1
        have q1 := E1.out.size
        have q2 := HS12.out
        have q3 := HF2.out.1
        refine ⟨E1.out.trans E13, .inl ⟨os, L3, LR, by rw [hb3]; rfl, hA3, F1.out.keep E13, WFX.out, SO.out, ?_⟩⟩
        intro x hx
        simp only [HLoc.blocks, List.mem_cons, List.not_mem_nil, or_false] at hx
        rcases hx with rfl | rfl | rfl | rfl <;> omega
      · have hn2 : (n != 0) = true := by simpa using hn
        have E1 := Lib.hid (E0.out.trans hE1)
        clear hE1 hn
        go_wp2
        go_ret3
        exact NO.out _ _ E1.out rfl

end Go.Proofs.Eff
