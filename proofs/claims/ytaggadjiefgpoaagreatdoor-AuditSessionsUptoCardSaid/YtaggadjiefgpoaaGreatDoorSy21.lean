/- collect.walk. -/
import Derived.Test.YtaggadjiefgpoaaGreatDoorSy13
import Derived.ScopeJumps
import Derived.WalkMore
namespace Go.Proofs.Eff
open Go.RowKit

/-- Sound: what a heap keeps. -/
structure Sound (h : HeapS) (os : List Nat) : Prop where
  cls : ∀ a, a ∈ os → classOK os (hdrAt h.words a).cls = true
  ser0 : ∀ a, a ∈ os → 0 < (hdrAt h.words a).ser
  ser1 : ∀ a, a ∈ os → (hdrAt h.words a).ser ≤ h.last
  uniq : (os.map fun a => (hdrAt h.words a).ser).Nodup
  fld : ∀ a, a ∈ os → (hdrAt h.words a).fmt = 1 ∨ (hdrAt h.words a).fmt = 4 → ∀ x, x ∈ fieldsAt h.words a → valueOK os x = true
  spare : ∀ a, a ∈ os → (hdrAt h.words a).fmt = 2 → spareOK h.words a = true
  root : ∀ x, x ∈ h.roots → valueOK os x = true

theorem Sound.names {h : HeapS} {os : List Nat} (hs : Sound h os) {a : Nat} (ha : a ∈ os) (held : Bool) : ∀ x, x ∈ namesAt h.words a held → isO os x = true := by
  intro x hx
  simp only [namesAt, List.mem_filter, oopsAt, List.mem_cons] at hx
  obtain ⟨hx, ho⟩ := hx
  rcases hx with rfl | hx
  · have := hs.cls a ha
    simp only [classOK, Bool.or_eq_true, beq_iff_eq] at this
    rcases this with h0 | h0
    · rw [h0] at ho; simp [isObj] at ho
    · exact h0
  · split at hx
    · rename_i hc
      have := hs.fld a ha (by omega) x hx
      simp only [valueOK, ho, Bool.not_true, Bool.false_or] at this
      simp only [isO, ho, this, Bool.and_self]
    · cases hx

/-- From a place in what was met on, the nearest ahead: so many steps at most. -/
def bfs (ws : List Int) : Nat → List Int → Nat → List Int
  | 0, met, _ => met
  | n + 1, met, at_ => if at_ < met.length then bfs ws n (putAll met (namesAt ws (wd met at_ / 2).toNat true)) (at_ + 1) else met

theorem nodup_le {α : Type} [BEq α] [LawfulBEq α] : ∀ (l m : List α), l.Nodup → (∀ x, x ∈ l → x ∈ m) → l.length ≤ m.length := by
  intro l
  induction l with
  | nil => intro m _ _; simp
  | cons x l ih =>
    intro m hn hs
    rw [List.nodup_cons] at hn
    have hx : x ∈ m := hs x (by simp)
    have h1 := ih (m.erase x) hn.2 (fun y hy => by
      rw [List.mem_erase_of_ne (by intro e; rw [e] at hy; exact hn.1 hy)]
      exact hs y (by simp [hy]))
    rw [List.length_erase_of_mem hx] at h1
    have : 0 < m.length := List.length_pos_of_mem hx
    simp; omega
theorem met_le {os : List Nat} {l : List Int} (hn : l.Nodup) (hv : ∀ x, x ∈ l → isO os x = true) (h0 : ∀ x, x ∈ l → 0 ≤ x) : l.length ≤ os.length := by
  have h := nodup_le (l.map fun x => (x / 2).toNat) os ?_ ?_
  · simpa using h
  · rw [List.nodup_iff_pairwise_ne] at hn ⊢
    rw [List.pairwise_map]
    refine List.Pairwise.imp_of_mem ?_ hn
    intro a b ha hb hab he
    have h1 := hv a ha
    have h2 := hv b hb
    have h3 := h0 a ha
    have h4 := h0 b hb
    simp [isO, isObj] at h1 h2
    omega
  · intro y hy
    obtain ⟨x, hx, rfl⟩ := List.mem_map.1 hy
    have h1 := hv x hx
    simp [isO] at h1
    exact h1.2
theorem putOne_nodup {m : List Int} {o : Int} (h : m.Nodup) : (putOne m o).Nodup := by
  unfold putOne
  split
  · exact h
  · rename_i hc
    rw [List.nodup_append]
    refine ⟨h, by simp, ?_⟩
    intro a ha b hb
    simp at hb
    subst hb
    intro e; subst e
    exact hc (List.contains_iff_mem.2 ha)
theorem putAll_nodup {m l : List Int} (h : m.Nodup) : (putAll m l).Nodup := by
  induction l generalizing m with
  | nil => exact h
  | cons x l ih => exact ih (putOne_nodup h)
theorem putAll_mem {m l : List Int} {x : Int} : x ∈ putAll m l ↔ x ∈ m ∨ x ∈ l := by
  induction l generalizing m with
  | nil => simp [putAll]
  | cons y l ih =>
    show x ∈ putAll (putOne m y) l ↔ _
    rw [ih]
    unfold putOne
    split
    · rename_i hc
      have := List.contains_iff_mem.1 hc
      simp only [List.mem_cons]
      constructor
      · rintro (h | h)
        · exact .inl h
        · exact .inr (.inr h)
      · rintro (h | rfl | h)
        · exact .inl h
        · exact .inl this
        · exact .inr h
    · simp only [List.mem_append, List.mem_cons, List.not_mem_nil, or_false, or_assoc]

theorem TrailAt.keep {a w : World} {base tb mb : Nat} {v : Value} {met : List Int} (h : TrailAt a base tb v mb met) (hx : Ext a w) : TrailAt w base tb v mb met := by
  obtain ⟨fr, hm, hk⟩ := h.map
  exact ⟨h.tbase, h.mbase, hx.keep h.blk, row_keep h.row hx, fr, hm.keep hx, hk⟩

theorem Ext.trans' {a b c : World} (h : Ext a b) (k : Below a.heap.size b c) : Ext a c := Below.trans h k
theorem names_rng {h : HeapS} {os : List Nat} (wf : WF h os) {a : Nat} {held : Bool} : ∀ x, x ∈ namesAt h.words a held → 0 ≤ x ∧ x < 4294967296 := by
  intro x hx
  simp only [namesAt, List.mem_filter, oopsAt, List.mem_cons] at hx
  rcases hx.1 with rfl | hx
  · exact wf.word _
  · split at hx
    · have := List.mem_of_mem_take hx
      exact wf.rng x (List.mem_of_mem_drop this)
    · cases hx

/-- All that is held from some objects on. -/
def reach (ws : List Int) (n : Nat) (xs : List Int) : List Int := bfs ws (n + 1) (putAll [] xs) 0

def WalkR (w : World) (met : List Int) (e : Ending) (w' : World) : Prop :=
  ∃ tb v mb, e = .returned (.pointer (some ⟨tb, 0, none⟩)) ∧ TrailAt w' w.heap.size tb v mb met ∧ Ext w w'

/-- Between two steps. -/
structure WInv (w : World) (h : HeapS) (os : List Nat) (xs : List Int) (tb mb : Nat) (at_ : Nat) (v : Value) (met : List Int) (w' : World) : Prop where
  trail : TrailAt w' w.heap.size tb v mb met
  ext : Ext w w'
  le : at_ ≤ met.length
  valid : ∀ x, x ∈ met → isO os x = true
  nodup : met.Nodup
  rng : ∀ x, x ∈ met → 0 ≤ x ∧ x < 4294967296
  bfs : bfs h.words (os.length + 1 - at_) met at_ = reach h.words os.length xs

theorem reach_le {h : HeapS} {os : List Nat} (wf : WF h os) : os.length ≤ 1048576 := by
  have hb := wf.big
  have h1 : os.Nodup := by
    have : ∀ a l, Laid h.words a l → l.Pairwise (· < ·) ∧ ∀ x, x ∈ l → a ≤ x := by
      intro a l
      induction l generalizing a with
      | nil => intro _; simp
      | cons y l ih =>
        rintro ⟨rfl, h2, h3, h4⟩
        have := ih _ h4
        refine ⟨List.pairwise_cons.2 ⟨fun z hz => by have := this.2 z hz; omega, this.1⟩, ?_⟩
        intro z hz
        rcases List.mem_cons.1 hz with rfl | hz
        · exact Nat.le_refl _
        · have := this.2 z hz; omega
    exact (this 1 os wf.laid).1.imp (fun h => by omega)
  have h2 := nodup_le os (List.range h.words.length) h1 (fun x hx => by have := wf.mem hx; simp; omega)
  simp at h2; omega

set_option maxRecDepth 100000 in
set_option maxHeartbeats 2000000 in
theorem walk75 {w : World} {L : HLoc} {h : HeapS} {os : List Nat} (ha : HeapAt w L h) (wf : WF h os) (hso : Sound h os) (hs : Spares w) (go cap : Nat) (xs : List Int) (hr : w.ownsRow 0 41 1 (.slice (some ⟨go, 0, none⟩) xs.length cap) xs.length (u32s xs)) (hx : ∀ x, x ∈ xs → isO os x = true) (hxr : ∀ x, x ∈ xs → 0 ≤ x ∧ x < 4294967296) (hxl : xs.length ≤ 1048576) :
    Calls Tryz.prog 75 #[.pointer (some ⟨L.b, 0, none⟩), .slice (some ⟨go, 0, none⟩) xs.length cap] w (WalkR w (reach h.words os.length xs)) := by
  have hmm := @run_makeMap Tryz.prog
  have hp := hs.pos
  have HA := Lib.hid ha
  have WFH := Lib.hid wf
  have SO := Lib.hid hso
  have HSP := Lib.hid hs
  have HOS := Lib.hid (reach_le wf)
  have HX := Lib.hid hx
  have HXR := Lib.hid hxr
  have HR := Lib.hid hr
  have HP : Hid (∀ (W : World) (n : Nat), W.heap.size = n → Ext w W → Calls Tryz.prog 126 #[.pointer (some ⟨n + 1, 0, none⟩), .int .i64 (-1), .slice (some ⟨go, 0, none⟩) xs.length cap] ((W.alloc (.map #[] 0)).alloc (.cells #[.slice none 0 0, .map (some n)] 165)) (PutR ((W.alloc (.map #[] 0)).alloc (.cells #[.slice none 0 0, .map (some n)] 165)) w.heap.size (n + 1) n (putAll [] xs))) := by
    rintro W n rfl hE
    have hlt := row_lt HR.out
    have hsz := hE.size
    refine put126 w.heap.size (W.heap.size + 1) W.heap.size go cap (.slice none 0 0) [] xs (-1) _ ⟨by omega, by omega, newB _ _ _ (by simp), World.ownsRow_nil _ _ _ _, [], (MapAt.new W _ rfl .u32).keep ((Ext.refl _).alloc _), rfl⟩ (by simp; omega) (row_read (row_keep HR.out ((hE.alloc _).alloc _))) (by simp; omega) (by simp [Value.ownBlock]) (by omega) (by simp; omega)
  clear ha wf hso hs hx hxr hr
  go_enter Tryz.func75, Tryz.ntmps75
  go_wp2_with fail
  refine wp_scope_jumps 0 (fun a' w' => ∃ (at_ tb mb : Nat) (v : Value) (met : List Int) (u7 u8 u9 u10 u11 u12 u13 u14 u15 u16 u17 u18 u19 u20 u21 u22 u23 u24 u25 u26 u27 u28 u29 u30 u31 u32 u33 : Value), WInv w h os xs tb mb at_ v met w' ∧ a' = { tmps := #[.pointer (some ⟨L.b, 0, none⟩), .slice (some ⟨go, 0, none⟩) xs.length cap, undef, undef, .pointer none, .pointer (some ⟨tb, 0, none⟩), .int .i64 at_, u7, u8, u9, u10, u11, u12, u13, u14, u15, u16, u17, u18, u19, u20, u21, u22, u23, u24, u25, u26, u27, u28, u29, u30, u31, u32, u33, undef], defers := [] }) (fun a' _ => os.length + 1 - (intOf (a'.tmps.getD 6 undef)).toNat) rfl ?_ ?_
  · go_wp2_with (first | (go_at_call 126; refine (HP.out _ _ rfl (Ext.refl _)).mono ?_; rintro e W ⟨rfl, v, hT, hB⟩; have T0 := Lib.hid hT; have B0 := Lib.hid hB; clear hT hB))
    go_step3
    have I0 : Hid (WInv w h os xs (w.heap.size + 1) w.heap.size 0 v (putAll [] xs) W) := by
      refine ⟨T0.out, (((Ext.refl w).alloc _).alloc _).trans' B0.out, Nat.zero_le _, ?_, putAll_nodup (by simp), ?_, rfl⟩
      · intro x hx
        rcases putAll_mem.1 hx with h1 | h1
        · cases h1
        · exact HX.out x h1
      · intro x hx
        rcases putAll_mem.1 hx with h1 | h1
        · cases h1
        · exact HXR.out x h1
    obtain ⟨at_, hat⟩ : ∃ n : Nat, n = 0 := ⟨0, rfl⟩
    rw [show Value.int IntKind.i64 0 = Value.int IntKind.i64 (at_ : Int) from by rw [hat]; rfl]
    rw [← hat] at I0
    obtain ⟨tb, htb0⟩ : ∃ n : Nat, n = w.heap.size + 1 := ⟨_, rfl⟩
    rw [← htb0] at I0 ⊢
    obtain ⟨mb, hmb0⟩ : ∃ n : Nat, n = w.heap.size := ⟨_, rfl⟩
    generalize putAll [] xs = met at *
    have I1 : Hid (WInv w h os xs tb mb at_ v met W) := by rw [hmb0]; exact I0.out
    clear I0 T0 B0 hat htb0 hmb0
    rcases I1.out.trail.row.2 with ⟨hv, hz⟩ | ⟨gm, cm, cur, hv, hgb, hcur, _, _, _, _⟩
    · subst hv
      have hm0 : met = [] := List.length_eq_zero_iff.1 hz
      subst hm0
      obtain rfl : at_ = 0 := by have := I1.out.le; simpa using this
      obtain ⟨c1, c2⟩ := blk I1.out.trail.blk
      have FN : Hid (reach h.words os.length xs = []) := by
        have := I1.out.bfs
        simp only [bfs, Nat.sub_zero, List.length_nil, Nat.lt_irrefl, if_false] at this
        exact this.symm
      go_wp2
      simp only [Exit.jump]
      go_ret
      refine ⟨tb, .slice none 0 0, mb, rfl, ?_, I1.out.ext⟩
      rw [FN.out]; exact I1.out.trail
    · subst hv
      have hml := met_le I1.out.nodup I1.out.valid (fun x hx => (I1.out.rng x hx).1)
      have hatl := I1.out.le
      have hosl : os.length ≤ 1048576 := HOS.out
      obtain ⟨c1, c2⟩ := blk I1.out.trail.blk
      by_cases hlt : at_ < met.length
      · have hmem : wd met at_ ∈ met := by simp [wd, hlt]
        have hx0 := (I1.out.rng _ hmem).1
        have hx1 := (I1.out.rng _ hmem).2
        have cx : W.cell? ⟨gm, at_, none⟩ = some (.int .u32 (wd met at_)) := by
          rw [row_cell I1.out.trail.row at_ hlt]; simp [u32s, wd, hlt]
        have hv0 := I1.out.valid _ hmem
        have HN := Lib.hid (named127 (HA.out.keep I1.out.ext) WFH.out (HSP.out.kept I1.out.ext hp) (wd met at_) hx0 hx1 hv0 true)
        have hal : (at_ : Int) < (met.length : Int) := by omega
        go_wp2_with (go_at_call 127; refine HN.out.mono ?_; rintro e W2 ⟨g2, cp2, rfl, hr2, hb2⟩; have R2 := Lib.hid hr2; have B2 := Lib.hid hb2; clear hr2 hb2)
        have hg2 := (R2.out.lt g2 rfl).1
        have hg3 := (R2.out.lt g2 rfl).2
        have hgm := (I1.out.trail.row.lt gm rfl).2
        have htb := lt_of_block I1.out.trail.blk
        have hlenN : (namesAt h.words (wd met at_ / 2).toNat true).length ≤ 1048576 := by
          have h1 : (namesAt h.words (wd met at_ / 2).toNat true).length ≤ (oopsAt h.words (wd met at_ / 2).toNat true).length := List.length_filter_le _ _
          have hmm2 := WFH.out.mem (WFH.out.isO_lt hv0).2
          have h2 : (oopsAt h.words (wd met at_ / 2).toNat true).length ≤ sizeAt h.words (wd met at_ / 2).toNat + 1 := by
            unfold oopsAt
            split
            · simp [fieldsAt]; omega
            · simp
          have := WFH.out.big
          omega
        have HPT := Lib.hid (put126 w.heap.size tb mb g2 cp2 (.slice (some ⟨gm, 0, none⟩) met.length cm) met (namesAt h.words (wd met at_ / 2).toNat true) at_ W2 (I1.out.trail.keep B2.out) (by have := I1.out.ext.size; have := B2.out.size; omega) (row_read R2.out) hg3 (by simp [Value.ownBlock]; omega) (by omega) (by omega))
        refine HPT.out.mono ?_
        rintro e W3 ⟨rfl, v3, hT3, hB3⟩
        have T3 := Lib.hid hT3
        have B3 := Lib.hid hB3
        have ST : Hid (bfs h.words (os.length + 1 - (at_ + 1)) (putAll met (namesAt h.words (wd met at_ / 2).toNat true)) (at_ + 1) = reach h.words os.length xs) := by
          have hb := I1.out.bfs
          obtain ⟨m, hm⟩ : ∃ m, os.length + 1 - at_ = m + 1 := ⟨os.length - at_, by omega⟩
          rw [hm, bfs, if_pos hlt] at hb
          have : os.length + 1 - (at_ + 1) = m := by omega
          show bfs _ _ _ _ = _
          rw [this]; exact hb
        have NI : Hid (WInv w h os xs tb mb (at_ + 1) v3 (putAll met (namesAt h.words (wd met at_ / 2).toNat true)) W3) := by
          refine ⟨T3.out, ?_, ?_, ?_, putAll_nodup I1.out.nodup, ?_, ST.out⟩
          · refine (I1.out.ext.trans B2.out).trans' B3.out
          · have : met.length ≤ (putAll met (namesAt h.words (wd met at_ / 2).toNat true)).length := nodup_le _ _ I1.out.nodup (fun x hx => putAll_mem.2 (.inl hx))
            omega
          · intro x hx
            rcases putAll_mem.1 hx with h1 | h1
            · exact I1.out.valid x h1
            · exact SO.out.names (WFH.out.isO_lt hv0).2 true x h1
          · intro x hx
            rcases putAll_mem.1 hx with h1 | h1
            · exact I1.out.rng x h1
            · exact names_rng WFH.out x h1
        clear hT3 hB3 c1 c2 cx
        go_wp2
        go_step3
        rw [show Value.int IntKind.i64 ((at_ : Int) + 1) = Value.int IntKind.i64 ((at_ + 1 : Nat) : Int) from by go_num]
        exact ⟨rfl, at_ + 1, tb, mb, v3, _, _, _, _, _, _, _, _, _, _, _, _, _, _, _, _, _, _, _, _, _, _, _, _, _, _, _, _, NI.out, rfl⟩
      · obtain rfl : at_ = met.length := by omega
        have FN : Hid (reach h.words os.length xs = met) := by
          have hb := I1.out.bfs
          obtain ⟨m, hm⟩ : ∃ m, os.length + 1 - met.length = m + 1 := ⟨os.length - met.length, by omega⟩
          rw [hm, bfs, if_neg (by omega)] at hb
          exact hb.symm
        go_wp2
        simp only [Exit.jump]
        go_ret
        refine ⟨tb, .slice (some ⟨gm, 0, none⟩) met.length cm, mb, rfl, ?_, I1.out.ext⟩
        rw [FN.out]; exact I1.out.trail
  · rintro a' W ⟨at_, tb, mb, v, met, u7, u8, u9, u10, u11, u12, u13, u14, u15, u16, u17, u18, u19, u20, u21, u22, u23, u24, u25, u26, u27, u28, u29, u30, u31, u32, u33, hI, rfl⟩
    have I1 := Lib.hid hI
    clear hI
    rcases I1.out.trail.row.2 with ⟨hv, hz⟩ | ⟨gm, cm, cur, hv, hgb, hcur, _, _, _, _⟩
    · subst hv
      have hm0 : met = [] := List.length_eq_zero_iff.1 hz
      subst hm0
      obtain rfl : at_ = 0 := by have := I1.out.le; simpa using this
      obtain ⟨c1, c2⟩ := blk I1.out.trail.blk
      have FN : Hid (reach h.words os.length xs = []) := by
        have := I1.out.bfs
        simp only [bfs, Nat.sub_zero, List.length_nil, Nat.lt_irrefl, if_false] at this
        exact this.symm
      go_wp2
      simp only [Exit.jump]
      go_ret
      refine ⟨tb, .slice none 0 0, mb, rfl, ?_, I1.out.ext⟩
      rw [FN.out]; exact I1.out.trail
    · subst hv
      have hml := met_le I1.out.nodup I1.out.valid (fun x hx => (I1.out.rng x hx).1)
      have hatl := I1.out.le
      have hosl : os.length ≤ 1048576 := HOS.out
      obtain ⟨c1, c2⟩ := blk I1.out.trail.blk
      by_cases hlt : at_ < met.length
      · have hmem : wd met at_ ∈ met := by simp [wd, hlt]
        have hx0 := (I1.out.rng _ hmem).1
        have hx1 := (I1.out.rng _ hmem).2
        have cx : W.cell? ⟨gm, at_, none⟩ = some (.int .u32 (wd met at_)) := by
          rw [row_cell I1.out.trail.row at_ hlt]; simp [u32s, wd, hlt]
        have hv0 := I1.out.valid _ hmem
        have HN := Lib.hid (named127 (HA.out.keep I1.out.ext) WFH.out (HSP.out.kept I1.out.ext hp) (wd met at_) hx0 hx1 hv0 true)
        have hal : (at_ : Int) < (met.length : Int) := by omega
        go_wp2_with (go_at_call 127; refine HN.out.mono ?_; rintro e W2 ⟨g2, cp2, rfl, hr2, hb2⟩; have R2 := Lib.hid hr2; have B2 := Lib.hid hb2; clear hr2 hb2)
        have hg2 := (R2.out.lt g2 rfl).1
        have hg3 := (R2.out.lt g2 rfl).2
        have hgm := (I1.out.trail.row.lt gm rfl).2
        have htb := lt_of_block I1.out.trail.blk
        have hlenN : (namesAt h.words (wd met at_ / 2).toNat true).length ≤ 1048576 := by
          have h1 : (namesAt h.words (wd met at_ / 2).toNat true).length ≤ (oopsAt h.words (wd met at_ / 2).toNat true).length := List.length_filter_le _ _
          have hmm2 := WFH.out.mem (WFH.out.isO_lt hv0).2
          have h2 : (oopsAt h.words (wd met at_ / 2).toNat true).length ≤ sizeAt h.words (wd met at_ / 2).toNat + 1 := by
            unfold oopsAt
            split
            · simp [fieldsAt]; omega
            · simp
          have := WFH.out.big
          omega
        have HPT := Lib.hid (put126 w.heap.size tb mb g2 cp2 (.slice (some ⟨gm, 0, none⟩) met.length cm) met (namesAt h.words (wd met at_ / 2).toNat true) at_ W2 (I1.out.trail.keep B2.out) (by have := I1.out.ext.size; have := B2.out.size; omega) (row_read R2.out) hg3 (by simp [Value.ownBlock]; omega) (by omega) (by omega))
        refine HPT.out.mono ?_
        rintro e W3 ⟨rfl, v3, hT3, hB3⟩
        have T3 := Lib.hid hT3
        have B3 := Lib.hid hB3
        have ST : Hid (bfs h.words (os.length + 1 - (at_ + 1)) (putAll met (namesAt h.words (wd met at_ / 2).toNat true)) (at_ + 1) = reach h.words os.length xs) := by
          have hb := I1.out.bfs
          obtain ⟨m, hm⟩ : ∃ m, os.length + 1 - at_ = m + 1 := ⟨os.length - at_, by omega⟩
          rw [hm, bfs, if_pos hlt] at hb
          have : os.length + 1 - (at_ + 1) = m := by omega
          show bfs _ _ _ _ = _
          rw [this]; exact hb
        have NI : Hid (WInv w h os xs tb mb (at_ + 1) v3 (putAll met (namesAt h.words (wd met at_ / 2).toNat true)) W3) := by
          refine ⟨T3.out, ?_, ?_, ?_, putAll_nodup I1.out.nodup, ?_, ST.out⟩
          · refine (I1.out.ext.trans B2.out).trans' B3.out
          · have : met.length ≤ (putAll met (namesAt h.words (wd met at_ / 2).toNat true)).length := nodup_le _ _ I1.out.nodup (fun x hx => putAll_mem.2 (.inl hx))
            omega
          · intro x hx
            rcases putAll_mem.1 hx with h1 | h1
            · exact I1.out.valid x h1
            · exact SO.out.names (WFH.out.isO_lt hv0).2 true x h1
          · intro x hx
            rcases putAll_mem.1 hx with h1 | h1
            · exact I1.out.rng x h1
            · exact names_rng WFH.out x h1
        clear hT3 hB3 c1 c2 cx
        go_wp2
        go_step3
        rw [show Value.int IntKind.i64 ((at_ : Int) + 1) = Value.int IntKind.i64 ((at_ + 1 : Nat) : Int) from by go_num]
        refine ⟨rfl, ⟨at_ + 1, tb, mb, v3, _, _, _, _, _, _, _, _, _, _, _, _, _, _, _, _, _, _, _, _, _, _, _, _, _, _, _, _, NI.out, rfl⟩, ?_⟩
        simp [intOf]; omega
      · obtain rfl : at_ = met.length := by omega
        have FN : Hid (reach h.words os.length xs = met) := by
          have hb := I1.out.bfs
          obtain ⟨m, hm⟩ : ∃ m, os.length + 1 - met.length = m + 1 := ⟨os.length - met.length, by omega⟩
          rw [hm, bfs, if_neg (by omega)] at hb
          exact hb.symm
        go_wp2
        simp only [Exit.jump]
        go_ret
        refine ⟨tb, .slice (some ⟨gm, 0, none⟩) met.length cm, mb, rfl, ?_, I1.out.ext⟩
        rw [FN.out]; exact I1.out.trail

end Go.Proofs.Eff
