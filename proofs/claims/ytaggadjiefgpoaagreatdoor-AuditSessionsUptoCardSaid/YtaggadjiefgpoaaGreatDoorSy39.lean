/- The program's Reader.Feed. -/
import Derived.Test.YtaggadjiefgpoaaGreatDoorSy29
import Derived.Test.YtaggadjiefgpoaaGreatDoorSy34
import Derived.Test.YtaggadjiefgpoaaGreatDoorSy36
import Derived.Deep.CutBlock
namespace Go.Proofs.Eff
open Go.RowKit Go

def unskip : Code → Code
  | .seq .skip x => x
  | c => c
theorem wp_unskip {P : Program} {a : Act} {w : World} {Q : Exit → Act → World → Prop} {c : Code} (h : (unskip c).wp P Q a w) : c.wp P Q a w := by
  unfold unskip at h
  split at h
  · exact wp_seq (wp_skip h)
  · exact h
/-- A scope with labels: each label's code may be walked with what is known of lower ones; the first walk, with all of them. -/
theorem wp_scope_found {P : Program} {a : Act} {w : World} {Q : Exit → Act → World → Prop} {c : Code} (J : Nat → Act → World → Prop) (μ : Nat → Act → World → Nat) (hf : ∀ l a w, J l a w → (findLabel c l).isSome = true)
    (pass : ∀ l a w, J l a w → (∀ l' a' w', J l' a' w' → μ l' a' w' < μ l a w → (unskip ((findLabel c l').getD .skip)).wp P (Jumps (fun l'' a'' w'' => J l'' a'' w'' ∧ μ l'' a'' w'' < μ l a w) Q) a' w') →
      (unskip ((findLabel c l).getD .skip)).wp P (Jumps (fun l' a' w' => J l' a' w' ∧ μ l' a' w' < μ l a w) Q) a w)
    (first : (∀ l a w, J l a w → (unskip ((findLabel c l).getD .skip)).wp P (Jumps J Q) a w) → c.wp P (Jumps J Q) a w) : (Code.scope c).wp P Q a w := by
  have all : ∀ n l a w, μ l a w = n → J l a w → (unskip ((findLabel c l).getD .skip)).wp P (Jumps (fun l' a' w' => J l' a' w' ∧ μ l' a' w' < μ l a w) Q) a w := by
    intro n
    induction n using Nat.strongRecOn with
    | _ n ih =>
      intro l a w hn hJ
      refine pass l a w hJ fun l' a' w' hJ' hlt => wp_mono (ih _ (by omega) l' a' w' rfl hJ') fun e a'' w'' h => ?_
      cases e with
      | goto l'' => exact ⟨h.1, Nat.lt_trans h.2 hlt⟩
      | normal => exact h
      | exit id => exact h
      | ret => exact h
      | panic ch => exact h
      | outgrown => exact h
  refine wp_scope_labels (fun l => (findLabel c l).getD .skip) J μ (fun l a w h => by
    have h1 := hf l a w h
    cases h2 : findLabel c l with
    | none => rw [h2] at h1; cases h1
    | some r => rfl) (first fun l a w hJ => wp_mono (all _ l a w rfl hJ) fun e a'' w'' h => ?_) (fun l a w hJ => wp_unskip (all _ l a w rfl hJ))
  cases e with
  | goto l'' => exact h.1
  | normal => exact h
  | exit id => exact h
  | ret => exact h
  | panic ch => exact h
  | outgrown => exact h
theorem list_fn (l : List Value) (n : Nat) (h : l.length = n) : l = (List.range n).map fun k => l.getD k undef := by
  apply List.ext_getElem
  · simp [h]
  · intro i h1 h2
    simp [List.getD, List.getElem?_eq_getElem h1]
set_option maxRecDepth 100000 in
def Fr138 (p c t4 t5 t6 : Value) (a : Act) : Prop := a.defers = [] ∧ a.tmps.size = 98 ∧ a.tmps[0]? = some p ∧ a.tmps[1]? = some c ∧ a.tmps[4]? = some t4 ∧ a.tmps[5]? = some t5 ∧ a.tmps[6]? = some t6
theorem Fr138.open {p c t4 t5 t6 : Value} {a : Act} (h : Fr138 p c t4 t5 t6 a) : ∃ u : Nat → Value, a = { tmps := (p :: c :: u 2 :: u 3 :: t4 :: t5 :: t6 :: u 7 :: u 8 :: u 9 :: u 10 :: u 11 :: u 12 :: u 13 :: u 14 :: u 15 :: u 16 :: u 17 :: u 18 :: u 19 :: u 20 :: u 21 :: u 22 :: u 23 :: u 24 :: u 25 :: u 26 :: u 27 :: u 28 :: u 29 :: u 30 :: u 31 :: u 32 :: u 33 :: u 34 :: u 35 :: u 36 :: u 37 :: u 38 :: u 39 :: u 40 :: u 41 :: u 42 :: u 43 :: u 44 :: u 45 :: u 46 :: u 47 :: u 48 :: u 49 :: u 50 :: u 51 :: u 52 :: u 53 :: u 54 :: u 55 :: u 56 :: u 57 :: u 58 :: u 59 :: u 60 :: u 61 :: u 62 :: u 63 :: u 64 :: u 65 :: u 66 :: u 67 :: u 68 :: u 69 :: u 70 :: u 71 :: u 72 :: u 73 :: u 74 :: u 75 :: u 76 :: u 77 :: u 78 :: u 79 :: u 80 :: u 81 :: u 82 :: u 83 :: u 84 :: u 85 :: u 86 :: u 87 :: u 88 :: u 89 :: u 90 :: u 91 :: u 92 :: u 93 :: u 94 :: u 95 :: u 96 :: u 97 :: []).toArray, defers := [] } := by
  obtain ⟨⟨l⟩, d⟩ := a
  obtain ⟨hd, hs, h0, h1, h4, h5, h6⟩ := h
  have key : ∃ u : Nat → Value, (∀ k v, l[k]? = some v → u k = v) ∧ l = u 0 :: u 1 :: u 2 :: u 3 :: u 4 :: u 5 :: u 6 :: u 7 :: u 8 :: u 9 :: u 10 :: u 11 :: u 12 :: u 13 :: u 14 :: u 15 :: u 16 :: u 17 :: u 18 :: u 19 :: u 20 :: u 21 :: u 22 :: u 23 :: u 24 :: u 25 :: u 26 :: u 27 :: u 28 :: u 29 :: u 30 :: u 31 :: u 32 :: u 33 :: u 34 :: u 35 :: u 36 :: u 37 :: u 38 :: u 39 :: u 40 :: u 41 :: u 42 :: u 43 :: u 44 :: u 45 :: u 46 :: u 47 :: u 48 :: u 49 :: u 50 :: u 51 :: u 52 :: u 53 :: u 54 :: u 55 :: u 56 :: u 57 :: u 58 :: u 59 :: u 60 :: u 61 :: u 62 :: u 63 :: u 64 :: u 65 :: u 66 :: u 67 :: u 68 :: u 69 :: u 70 :: u 71 :: u 72 :: u 73 :: u 74 :: u 75 :: u 76 :: u 77 :: u 78 :: u 79 :: u 80 :: u 81 :: u 82 :: u 83 :: u 84 :: u 85 :: u 86 :: u 87 :: u 88 :: u 89 :: u 90 :: u 91 :: u 92 :: u 93 :: u 94 :: u 95 :: u 96 :: u 97 :: [] := ⟨fun k => l.getD k undef, fun k v hk => by simp [List.getD, hk], list_fn l 98 hs⟩
  obtain ⟨u, hu, hl⟩ := key
  have hd' : d = [] := hd
  subst hd'
  rw [hu 0 p (by simpa using h0)] at hl
  rw [hu 1 c (by simpa using h1)] at hl
  rw [hu 4 t4 (by simpa using h4)] at hl
  rw [hu 5 t5 (by simpa using h5)] at hl
  rw [hu 6 t6 (by simpa using h6)] at hl
  exact ⟨u, by rw [hl]⟩

theorem Jumps_ret {J : Nat → Act → World → Prop} {Q : Exit → Act → World → Prop} {a : Act} {w : World} : Jumps J Q .ret a w = Q .ret a w := rfl
/-- How long the bytes are that are looked at. -/
def len5 (a : Act) : Nat := match (a.tmps[5]? : Option Value) with | some (Value.slice _ n _) => n | _ => 0
theorem len5_of {p c t4 t6 : Value} {a : Act} {ab : Option Addr} {n cb : Nat} (h : Fr138 p c t4 (.slice ab n cb) t6 a) : len5 a = n := by
  unfold len5
  rw [show (a.tmps[5]? : Option Value) = _ from h.2.2.2.2.2.1]
def mu138 (l : Nat) (a : Act) : Nat := if l = 0 then 0 else 2 * len5 a + l
theorem mu138_2 {a : Act} {n : Nat} (h : len5 a = n) : mu138 2 a = 2 * n + 2 := by unfold mu138; rw [h]; rfl
theorem mu138_1 {a : Act} {n : Nat} (h : len5 a = n) : mu138 1 a = 2 * n + 1 := by unfold mu138; rw [h]; rfl
theorem mu138_0 (a : Act) : mu138 0 a = 0 := rfl
/-- What holds at a label: 0: done, 1: drop, 2: look. -/
def J138 (w : World) (rb : Nat) (ka0 : Option Addr) (all : List Int) (p c : Value) (l : Nat) (a : Act) (w' : World) : Prop :=
  ∃ w1 b ab cb v, Mod (ka0.map (·.block)).toList w w1 ∧ FeedJ w1 rb all b ab cb v w' ∧ Fr138 p c (.slice none 0 0) (.slice ab b.length cb) v a ∧ ((l = 2) ∨ (l = 1 ∧ 0 < b.length ∧ scanP b = scanP (b.drop 1)) ∨ (l = 0 ∧ scanP b = ([], b)))
theorem J138.to0 {w w1 w' : World} {rb cb : Nat} {ka0 ab : Option Addr} {all b : List Int} {p c v : Value} {a : Act} (hM : Mod (ka0.map (·.block)).toList w w1) (hF : FeedJ w1 rb all b ab cb v w') (hs : scanP b = ([], b)) (hfr : Fr138 p c (.slice none 0 0) (.slice ab b.length cb) v a) : J138 w rb ka0 all p c 0 a w' := ⟨w1, b, ab, cb, v, hM, hF, hfr, .inr (.inr ⟨rfl, hs⟩)⟩
theorem J138.to1 {w w1 w' : World} {rb cb : Nat} {ka0 ab : Option Addr} {all b : List Int} {p c v : Value} {a : Act} (hM : Mod (ka0.map (·.block)).toList w w1) (hF : FeedJ w1 rb all b ab cb v w') (hl : 0 < b.length) (hs : scanP b = scanP (b.drop 1)) (hfr : Fr138 p c (.slice none 0 0) (.slice ab b.length cb) v a) : J138 w rb ka0 all p c 1 a w' := ⟨w1, b, ab, cb, v, hM, hF, hfr, .inr (.inl ⟨rfl, hl, hs⟩)⟩
theorem J138.to2 {w w1 w' : World} {rb cb : Nat} {ka0 ab : Option Addr} {all b : List Int} {p c v : Value} {a : Act} (hM : Mod (ka0.map (·.block)).toList w w1) (hF : FeedJ w1 rb all b ab cb v w') (hfr : Fr138 p c (.slice none 0 0) (.slice ab b.length cb) v a) : J138 w rb ka0 all p c 2 a w' := ⟨w1, b, ab, cb, v, hM, hF, hfr, .inl rfl⟩
theorem J138.lt {w w' : World} {rb : Nat} {ka0 : Option Addr} {all : List Int} {p c : Value} {l : Nat} {a : Act} (h : J138 w rb ka0 all p c l a w') : l = 0 ∨ l = 1 ∨ l = 2 := by
  obtain ⟨_, _, _, _, _, _, _, _, h⟩ := h
  omega

set_option maxRecDepth 100000 in
set_option maxHeartbeats 4000000 in
theorem Feed138 {w : World} {rb base top kc cc : Nat} {ka ca : Option Addr} {kept chunk : List Int} {d : Int} (h : w.heap[rb]? = some (.cells #[.bool true, .slice ka kept.length kc, .int .i64 d] 249)) (hk : w.ownsRow base 5 1 (.slice ka kept.length kc) kept.length (u8s kept)) (hku : U8s kept) (hc : BU w top ca cc chunk) (_ht : top ≤ base) (hbs : base ≤ w.heap.size) (hn : kept.length + chunk.length ≤ 1099511627776) :
    Calls Tryz.prog 138 #[.pointer (some ⟨rb, 0, none⟩), .slice ca chunk.length cc] w (FeedW w rb ka (kept ++ chunk)) := by
  have HB := Lib.hid h
  have HK := Lib.hid hk
  have HC := Lib.hid hc
  have hlt := lt_of_block h
  have LA : Hid ((kept ++ chunk).length = kept.length + chunk.length) := List.length_append
  have UA : Hid (U8s (kept ++ chunk)) := fun x hx => (List.mem_append.1 hx).elim (hku x) (hc.u8 x)
  obtain ⟨b1, b2⟩ := blk h
  clear h hk hc
  go_enter Tryz.func138, Tryz.ntmps138
  go_wp2_with fail

  refine wp_scope_found (J138 w rb ka (kept ++ chunk) (.pointer (some ⟨rb, 0, none⟩)) (.slice ca chunk.length cc)) (fun l a' _ => mu138 l a') ?_ ?_ ?_
  · intro l a' w' hJ
    rcases hJ.lt with rfl | rfl | rfl <;> rfl
  · intro l a' w' hJ LK
    rcases hJ.lt with rfl | rfl | rfl
    · obtain ⟨w1, b, ab, cb, v, hM1, hFJ, hFr, hor⟩ := hJ
      have hsc : scanP b = ([], b) := by rcases hor with h | ⟨h, _⟩ | ⟨_, h⟩ <;> first | exact h | omega
      obtain ⟨u, rfl⟩ := hFr.open
      have FJ := Lib.hid hFJ
      have M1 := Lib.hid hM1
      have SC := Lib.hid hsc
      obtain ⟨ps, ka', kn', kc', d', hM, hb, hu, hfar, hP, hs⟩ := hFJ
      have BUX := Lib.hid hu
      have hmsz := hM.size
      have hsm := hu.small
      have NW := Lib.hid (World.ownsRow_lit (base := w1.heap.size) (e := 5) (size := 1) w' #[] 0 hM.size (Nat.zero_le _) rfl)
      have HBR := Lib.hid hb
      obtain ⟨b3, b4⟩ := blk (keepB hb (.cells #[] 5))
      clear hM1 hM hb hu hfar hP hs hor hsc hFr b1 b2
      conv => arg 2; whnf
      go_wp2_with (at_builtin; (refine wpList_append_bu rfl _ _ rfl w1.heap.size (.slice (some ⟨w'.heap.size, 0, none⟩) 0 0) 0 [] rfl NW.out (BUX.out.ext ((Ext.refl w').alloc _) hmsz) rfl (by omega) (by simp; omega) ?_; intro v1 w3 hown hgrow; rw [Nat.zero_add, List.nil_append] at hown; obtain ⟨a1, c1, rfl, _⟩ := own_any hown; have E3 : Hid (Ext w' w3) := ((Ext.refl w').alloc _).grown hgrow (fun q hq => by cases hq; exact Nat.le_refl _); have R3 := Lib.hid hown; obtain ⟨b5, b6⟩ := blk (E3.out.keep HBR.out); clear hown hgrow))
      rw [Jumps_ret]
      go_ret
      exact FJ.out.done M1.out hlt SC.out E3.out R3.out
    · obtain ⟨w1, b, ab, cb, v, hM1, hFJ, hFr, hor⟩ := hJ
      have hsc : 0 < b.length ∧ scanP b = scanP (b.drop 1) := by rcases hor with h | ⟨_, h⟩ | ⟨h, _⟩ <;> first | exact h | omega
      obtain ⟨u, rfl⟩ := hFr.open
      have FJ := Lib.hid hFJ
      have M1 := Lib.hid hM1
      obtain ⟨hl0, hsc⟩ := hsc
      have SC := Lib.hid hsc
      obtain ⟨ps, ka', kn', kc', d', hM, hb, hu, hfar, hP, hs⟩ := hFJ
      have hcap := hu.cap
      have hsm := hu.small
      have HFA := Lib.hid hfar
      have BUX := Lib.hid hu
      obtain ⟨b3, b4⟩ := blk hb
      clear hM1 hM hb hu hfar hP hs hor hsc hFr b1 b2
      conv => arg 2; whnf
      by_cases hk1 : cb = 1
      · have FN := Lib.hid (FJ.out.next SC.out (BUX.out.rest_eq (lo := 1) hl0 hk1) HFA.out (wrap64 (d' + 1)))
        subst hk1
        have L1 : Hid (b.length = 1) := by show _ = _; omega
        go_wp2_with fail
        go_step3
        refine ⟨⟨w1, b.drop 1, _, _, v, M1.out, FN.out, ?_, .inl rfl⟩, ?_⟩
        · rw [List.length_drop, L1.out]
          exact ⟨rfl, rfl, rfl, rfl, rfl, rfl, rfl⟩
        · rw [mu138_2 (n := 0) rfl, mu138_1 (n := b.length) rfl]; omega
      · have FN := Lib.hid (FJ.out.next SC.out (BUX.out.rest_ne (lo := 1) hl0 hk1) (far_sub HFA.out) (wrap64 (d' + 1)))
        go_wp2_with fail
        go_step3
        refine ⟨⟨w1, b.drop 1, _, _, v, M1.out, FN.out, ?_, .inl rfl⟩, ?_⟩
        · rw [List.length_drop]
          exact ⟨rfl, rfl, rfl, rfl, rfl, rfl, rfl⟩
        · rw [mu138_2 (n := b.length - 1) rfl, mu138_1 (n := b.length) rfl]; omega
    · --LOOK
      obtain ⟨w1, b, ab, cb, v, hM1, hFJ, hFr, _⟩ := hJ
      obtain ⟨u, rfl⟩ := hFr.open
      have FJ := Lib.hid hFJ
      have M1 := Lib.hid hM1
      have LKD := Lib.hid (LK 1)
      obtain ⟨ps, ka', kn', kc', d', hM, hb, hu, hfar, hP, hsc⟩ := hFJ
      have HM := Lib.hid hM
      have HBR := Lib.hid hb
      have BUX := Lib.hid hu
      have HFA := Lib.hid hfar
      have HP := Lib.hid hP
      have SC := Lib.hid hsc
      have hmsz := hM.size
      have hcap := hu.cap
      have hsm := hu.small
      clear LK hM1 hM hb hu hfar hP hsc hFr b1 b2
      conv => arg 2; whnf
      have hu8 := BUX.out.u8
      by_cases hl0 : b.length = 0
      · obtain rfl : b = [] := List.eq_nil_of_length_eq_zero hl0
        go_wp2_with fail
        go_step3
        exact ⟨J138.to0 M1.out FJ.out scanP_nil ⟨rfl, rfl, rfl, rfl, rfl, rfl, rfl⟩, by rw [mu138_0, mu138_2 (n := 0) rfl]; omega⟩
      · have l0 : 0 < b.length := by omega
        have lne : b ≠ [] := List.length_pos_iff.1 l0
        obtain ⟨g, off, rfl, hgB, bx⟩ := BUX.out.at (i := 0) (get_wd l0)
        rw [Nat.add_zero] at bx
        by_cases hx : wd b 0 = 239
        · have HX := Lib.hid hx
          rw [hx] at bx
          clear hx
          by_cases h1 : b.length = 1
          · have NB : Hid (¬ (wd b 0 ≠ 239 ∨ (1 < b.length ∧ wd b 1 ≠ 30))) := fun h => h.elim (fun h => h HX.out) (fun h => by omega)
            have SH : Hid (scanP b = ([], b)) := scanP_short l0 NB.out (by omega)
            have l1 : ¬ (1 : Int) < (b.length : Int) := by omega
            have l4 : (b.length : Int) < 4 := by omega
            have lz : ¬ (b.length : Int) = 0 := by omega
            clear h1
            go_wp2_with fail
            go_step3
            exact ⟨J138.to0 M1.out FJ.out SH.out ⟨rfl, rfl, rfl, rfl, rfl, rfl, rfl⟩, by rw [mu138_0, mu138_2 (n := b.length) rfl]; omega⟩
          · have l1 : (1 : Int) < (b.length : Int) := by omega
            have by1 := (BUX.out.cells rfl).2 1 _ (get_wd (show 1 < b.length by omega))
            by_cases hy : wd b 1 = 30
            · have HY := Lib.hid hy
              rw [hy] at by1
              clear hy
              have NB : Hid (¬ (wd b 0 ≠ 239 ∨ (1 < b.length ∧ wd b 1 ≠ 30))) := fun h => h.elim (fun h => h HX.out) (fun h => h.2 HY.out)
              by_cases h4 : b.length < 4
              · have SH : Hid (scanP b = ([], b)) := scanP_short l0 NB.out h4
                have l4 : (b.length : Int) < 4 := by omega
                clear h4
                go_wp2_with fail
                go_step3
                exact ⟨J138.to0 M1.out FJ.out SH.out ⟨rfl, rfl, rfl, rfl, rfl, rfl, rfl⟩, by rw [mu138_0, mu138_2 (n := b.length) rfl]; omega⟩
              · have hn4 := lenAt_in hu8 (show 4 ≤ b.length by omega)
                obtain ⟨S, hS⟩ : ∃ S : Nat, lenAt b = (S : Int) - 8 := ⟨(lenAt b).toNat + 8, by omega⟩
                have hlen := fun W (hE : Ext w' W) => length178 (BUX.out.ext hE hmsz) (show 4 ≤ b.length by omega)
                simp only [hS] at hlen hn4
                have HLEN := Lib.hid hlen
                have HS := Lib.hid hS
                have N4 : Hid (¬ b.length < 4) := h4
                have EX : Hid (Ext w' w') := Ext.refl w'
                have l4 : ¬ (b.length : Int) < 4 := by omega
                have r1 : IntKind.i64.wrap ((S : Int) - 8 + 4) = (S : Int) - 4 := by rw [IntWalk.i64_in _ (by omega)]; omega
                have r2 : IntKind.i64.wrap ((S : Int) - 4 + 4) = (S : Int) := by rw [IntWalk.i64_in _ (by omega)]; omega
                clear hS hlen h4
                by_cases hlong : 1080 < (S : Int) - 8
                · have HSB : Hid (scanP b = scanP (b.drop 1)) := scanP_long NB.out N4.out (by rw [HS.out]; exact hlong)
                  go_wp2_with (go_at_call 178; (refine (HLEN.out _ EX.out).mono ?_; rintro e w2 ⟨rfl, hE⟩; replace EX := Lib.hid (EX.out.trans hE); clear hE))
                  go_step3
                  exact ⟨J138.to1 M1.out (FJ.out.ext EX.out) l0 HSB.out ⟨rfl, rfl, rfl, rfl, rfl, rfl, rfl⟩, by rw [mu138_1 (n := b.length) rfl, mu138_2 (n := b.length) rfl]; omega⟩
                · by_cases hw : (b.length : Int) < (S : Int)
                  · have HSB : Hid (scanP b = ([], b)) := scanP_wait NB.out N4.out (by rw [HS.out]; exact hlong) (by rw [HS.out]; omega)
                    go_wp2_with (go_at_call 178; (refine (HLEN.out _ EX.out).mono ?_; rintro e w2 ⟨rfl, hE⟩; replace EX := Lib.hid (EX.out.trans hE); clear hE))
                    go_step3
                    exact ⟨J138.to0 M1.out (FJ.out.ext EX.out) HSB.out ⟨rfl, rfl, rfl, rfl, rfl, rfl, rfl⟩, by rw [mu138_0, mu138_2 (n := b.length) rfl]; omega⟩
                  · have hSl : S ≤ b.length := by omega
                    have HLG : Hid (¬ 1080 < lenAt b) := by show ¬ _; rw [HS.out]; exact hlong
                    have HWT : Hid (¬ (b.length : Int) < lenAt b + 8) := by show ¬ _; rw [HS.out]; omega
                    have HS2 : Hid ((lenAt b + 8).toNat = S) := by show _ = _; rw [HS.out]; omega
                    have UN : Hid (∀ W, Ext w' W → Calls Tryz.prog 139 #[.slice (some ⟨g, off, none⟩) S cb] W (UnpackR W (b.take S))) := fun W hE => by
                      have h7 := Unpack139 ((BUX.out.front S hSl).ext hE hmsz) (Nat.le_trans hmsz hE.size)
                      rwa [List.length_take, Nat.min_eq_left hSl] at h7
                    cases hun : unpack (b.take S) with
                    | none =>
                      have HSB : Hid (scanP b = scanP (b.drop 1)) := scanP_none NB.out N4.out HLG.out HWT.out (by rw [HS2.out]; exact hun)
                      have HNO := Lib.hid hun
                      clear hun
                      go_wp2_with (first
                        | (go_at_call 178; (refine (HLEN.out _ EX.out).mono ?_; rintro e w2 ⟨rfl, hE⟩; replace EX := Lib.hid (EX.out.trans hE); clear hE))
                        | (go_at_call 139; (refine (UN.out _ EX.out).mono ?_; rintro e w5 ⟨hx5, h1, _⟩; obtain ⟨er, e0, e1, rfl⟩ := h1 HNO.out; replace EX := Lib.hid (EX.out.trans hx5); have heb : (er == 0) = false := (by simp; omega); clear hx5 h1)))
                      go_step3
                      rename_i hK1
                      have X6 := Lib.hid (EX.out.alloc (.cells #[.int .i64 0, .int .u64 0, .int .u64 0, .int .u64 0, .slice none 0 0] 211))
                      exact hK1 _ _ (LKD.out _ _ (J138.to1 M1.out (FJ.out.ext X6.out) l0 HSB.out ⟨rfl, rfl, rfl, rfl, rfl, rfl, rfl⟩) (by rw [mu138_1 (n := b.length) rfl, mu138_2 (n := b.length) rfl]; omega))
                    | some p =>
                      have HSP := Lib.hid (scanP_some NB.out N4.out HLG.out HWT.out (by rw [HS2.out]; exact hun))
                      have HPK := Lib.hid hun
                      have UT : Hid (U8s (b.take S)) := fun x hx => hu8 x (List.mem_of_mem_take hx)
                      have HSS : Hid (scanP b = (p :: (scanP (b.drop S)).1, (scanP (b.drop S)).2)) := by
                        have e : (lenAt b).toNat + 8 = S := by have := HS2.out; have := HS.out; omega
                        show _ = _
                        rw [← e]
                        exact HSP.out
                      have PSN : Hid (ps.length ≤ 1099511627776) := by
                        show _ ≤ _
                        have h8 := scanP_many (kept ++ chunk)
                        rw [SC.out] at h8
                        simp only [List.length_append, List.length_map] at h8
                        omega
                      have HLT := Lib.hid (show rb < w1.heap.size from Nat.lt_of_lt_of_le hlt M1.out.size)
                      have H8 := Lib.hid hu8
                      obtain ⟨av, cv, hvv, _⟩ := own_any HP.out.row
                      subst hvv
                      clear hun HSP hu8
                      go_upto_region 12 with (first
                        | (go_at_call 178; (refine (HLEN.out _ EX.out).mono ?_; rintro e w2 ⟨rfl, hE⟩; replace EX := Lib.hid (EX.out.trans hE); clear hE))
                        | (go_at_call 139; (refine (UN.out _ EX.out).mono ?_; rintro e w5 ⟨hx5, _, h2⟩; obtain ⟨a5, c5, rfl, hr5, hu5, hs5⟩ := h2 p HPK.out; replace EX := Lib.hid (EX.out.trans hx5); have R5 := Lib.hid hr5; have U5 := Lib.hid hu5; have S5 := Lib.hid hs5; clear hx5 h2 hr5 hu5 hs5)))
                      have X6 := Lib.hid (EX.out.alloc (.cells #[.int .i64 p.kind, .int .u64 p.tok, .int .u64 p.seq, .int .u64 p.ack, .slice a5 p.body.length c5] 211))
                      have NB6 := Lib.hid (newB w5 (.cells #[.int .i64 p.kind, .int .u64 p.tok, .int .u64 p.seq, .int .u64 p.ack, .slice a5 p.body.length c5] 211) _ rfl)
                      have BA6 := Lib.hid ((unpack_body UT.out HPK.out R5.out U5.out S5.out).ext ((Ext.refl w5).alloc (.cells #[.int .i64 p.kind, .int .u64 p.tok, .int .u64 p.seq, .int .u64 p.ack, .slice a5 p.body.length c5] 211)))
                      generalize w5.heap.size = g5 at *
                      generalize w5.alloc (.cells #[.int .i64 p.kind, .int .u64 p.tok, .int .u64 p.seq, .int .u64 p.ack, .slice a5 p.body.length c5] 211) = w6 at *
                      have HM6 := Lib.hid (HM.out.ext X6.out)
                      have HBR6 := Lib.hid (X6.out.keep HBR.out)
                      have HU6 := Lib.hid (BUX.out.ext X6.out hmsz)
                      have HP6 := Lib.hid (HP.out.ext X6.out)
                      have E6 : Hid (Ext w6 w6) := Ext.refl w6
                      have HLEN6 := Lib.hid (fun W (hE : Ext w6 W) => HLEN.out W (X6.out.trans hE))
                      clear EX HLEN UN R5 U5 S5 UT bx by1
                      obtain ⟨b3, b4⟩ := blk NB6.out
                      go_upto_region 13 with (at_builtin; (refine wpList_append_pk rfl _ _ rfl w1.heap.size (.slice av ps.length cv) ps rfl (HP6.out.ext ((Ext.refl w6).alloc _)).row (p, a5, c5) w6.heap.size (newB w6 _ _ rfl) rfl PSN.out (Nat.le_trans HM6.out.size ((Ext.refl w6).alloc _).size) ?_; intro v7 w7 hown hgrow; have OW7 := Lib.hid hown; have GR7 := Lib.hid hgrow; clear hown hgrow))
                      have X7 : Ext w6 (w6.alloc (.cells #[.int .i64 p.kind, .int .u64 p.tok, .int .u64 p.seq, .int .u64 p.ack, .slice a5 p.body.length c5] 211)) := (Ext.refl w6).alloc _
                      have hn7 : ∀ y, y ∈ (Value.slice av ps.length cv).ownBlock.toList → w1.heap.size ≤ y := fun y hy => (HP6.out.row.lt y (by simpa using hy)).1
                      have hm6 := Nat.le_trans HM6.out.size X7.size
                      have BU7 := Lib.hid ((HU6.out.ext X7 HM6.out.size).mod (mod_grown GR7.out) hm6 hn7)
                      have hm7 := Nat.le_trans hm6 (mod_grown GR7.out).size
                      have hlen := fun W (hE : Ext w7 W) => length178 (BU7.out.ext hE hm7) (show 4 ≤ b.length by omega)
                      have HSQ := HS.out
                      simp only [HSQ] at hlen
                      have HLEN7 := Lib.hid hlen
                      have E7 : Hid (Ext w7 w7) := Ext.refl w7
                      clear hlen HSQ hn7 b3 b4 HLEN6
                      by_cases hkS : cb = S
                      · have FS := Lib.hid (FeedJ.pack (HM6.out.ext X7) (X7.keep HBR6.out) (HU6.out.ext X7 HM6.out.size) (HP6.out.ext X7) SC.out HSS.out (BA6.out.ext X7) OW7.out GR7.out HLT.out ((HU6.out.rest_eq (lo := S) hSl hkS).ext X7 HM6.out.size) HFA.out)
                        subst hkS
                        have hbk : Hid (b.length = cb) := by show _ = _; omega
                        go_wp2_with (go_at_call 178; (refine (HLEN7.out _ E7.out).mono ?_; rintro e w8 ⟨rfl, hE⟩; replace E7 := Lib.hid (E7.out.trans hE); clear hE))
                        go_step3
                        refine ⟨J138.to2 M1.out (FS.out.ext E7.out) ?_, ?_⟩
                        · rw [List.length_drop, hbk.out, Nat.sub_self]
                          exact ⟨rfl, rfl, rfl, rfl, rfl, rfl, rfl⟩
                        · rw [mu138_2 (n := 0) rfl, mu138_2 (n := b.length) rfl]; omega
                      · have FS := Lib.hid (FeedJ.pack (HM6.out.ext X7) (X7.keep HBR6.out) (HU6.out.ext X7 HM6.out.size) (HP6.out.ext X7) SC.out HSS.out (BA6.out.ext X7) OW7.out GR7.out HLT.out ((HU6.out.rest_ne (lo := S) hSl hkS).ext X7 HM6.out.size) (far_sub HFA.out))
                        go_wp2_with (go_at_call 178; (refine (HLEN7.out _ E7.out).mono ?_; rintro e w8 ⟨rfl, hE⟩; replace E7 := Lib.hid (E7.out.trans hE); clear hE))
                        go_step3
                        refine ⟨J138.to2 M1.out (FS.out.ext E7.out) ?_, ?_⟩
                        · rw [List.length_drop]
                          simp only [Option.map_some, Addr.add_lit]
                          exact ⟨rfl, rfl, rfl, rfl, rfl, rfl, rfl⟩
                        · rw [mu138_2 (n := b.length - S) rfl, mu138_2 (n := b.length) rfl]; omega
            · have hyb : (wd b 1 != 30) = true := by simp [hy]
              have HSB : Hid (scanP b = scanP (b.drop 1)) := scanP_bad l0 (.inr ⟨by omega, hy⟩)
              clear hy
              generalize wd b 1 = y at *
              go_wp2_with fail
              go_step3
              exact ⟨J138.to1 M1.out FJ.out l0 HSB.out ⟨rfl, rfl, rfl, rfl, rfl, rfl, rfl⟩, by rw [mu138_1 (n := b.length) rfl, mu138_2 (n := b.length) rfl]; omega⟩
        · have HSB : Hid (scanP b = scanP (b.drop 1)) := scanP_bad l0 (.inl hx)
          have hxb : (wd b 0 != 239) = true := by simp [hx]
          clear hx
          generalize wd b 0 = x at *
          go_wp2_with fail
          go_step3
          exact ⟨J138.to1 M1.out FJ.out l0 HSB.out ⟨rfl, rfl, rfl, rfl, rfl, rfl, rfl⟩, by rw [mu138_1 (n := b.length) rfl, mu138_2 (n := b.length) rfl]; omega⟩
  · intro LK
    have LK2 := Lib.hid (LK 2)
    clear LK
    go_wp2_with (at_builtin; (refine wpList_append_bu rfl _ _ rfl base (.slice ka kept.length kc) kept.length (u8s kept) rfl HK.out HC.out rfl (by omega) hbs ?_; intro v1 w1 hown hgrow; obtain ⟨a1, c1, rfl, _⟩ := own_any hown; have OW1 := Lib.hid hown; have GR1 := Lib.hid hgrow; clear hown hgrow))
    go_step3
    rename_i hK1
    have hob : (Value.slice ka kept.length kc).ownBlock = ka.map (·.block) := by cases ka <;> rfl
    have M1 : Mod (ka.map (·.block)).toList w w1 := by rw [← hob]; exact mod_grown GR1.out
    have HBR : w1.heap[rb]? = some (.cells #[.bool true, .slice ka kept.length kc, .int .i64 d] 249) := M1.keep HB.out (fun hm => by
      cases ka with
      | none => simp at hm
      | some ad =>
        simp only [Option.map_some, Option.toList_some, List.mem_cons, List.not_mem_nil, or_false] at hm
        obtain ⟨_, _, cs, h7⟩ := own_type HK.out
        rw [← hm, HB.out] at h7
        simp at h7)
    have OW2 : w1.ownsRow base 5 1 (.slice a1 (kept ++ chunk).length c1) (kept ++ chunk).length (u8s (kept ++ chunk)) := by
      rw [LA.out, u8s_append]
      exact OW1.out
    have hfar : ∀ ad, a1 = some ad → ad.block ≠ rb := fun ad e hm => by
      subst e
      obtain ⟨_, _, cs, h7⟩ := own_type OW1.out
      rw [hm, HBR] at h7
      simp at h7
    have FJ : FeedJ w1 rb (kept ++ chunk) (kept ++ chunk) a1 c1 (.slice none 0 0) w1 := ⟨[], ka, kept.length, kc, d, Mod.refl _ _, HBR, BU.of_row OW2 UA.out (by rw [LA.out]; exact hn), hfar, PksAt.nil _ _, by simp⟩
    refine hK1 _ _ (LK2.out _ _ (J138.to2 M1 FJ ?_))
    rw [LA.out]
    exact ⟨rfl, rfl, rfl, rfl, rfl, rfl, rfl⟩
end Go.Proofs.Eff
