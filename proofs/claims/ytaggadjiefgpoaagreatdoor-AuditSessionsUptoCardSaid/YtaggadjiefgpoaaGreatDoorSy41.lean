/- Plain laws of the program's session as it lies. -/
import Derived.Test.YtaggadjiefgpoaaGreatDoorSy38
import Derived.Test.YtaggadjiefgpoaaGreatDoorSy29
namespace Go.Proofs.Eff
open Go.RowKit

/-- Only what lies high was written. -/
def ModHi (base : Nat) (w w' : World) : Prop := ∃ S, (∀ x, x ∈ S → base ≤ x) ∧ Mod S w w'
theorem ModHi.refl (base : Nat) (w : World) : ModHi base w w := ⟨[], by simp, Mod.refl _ _⟩
theorem ModHi.of_ext {base : Nat} {w w' : World} (h : Ext w w') : ModHi base w w' := ⟨[], by simp, h.mod _⟩
theorem ModHi.of_mod {base : Nat} {w w' : World} {S : List Nat} (h : Mod S w w') (hs : ∀ x, x ∈ S → base ≤ x) : ModHi base w w' := ⟨S, hs, h⟩
theorem ModHi.trans {base : Nat} {w a b : World} (h : ModHi base w a) (k : ModHi base a b) : ModHi base w b := by
  obtain ⟨S, hs, hm⟩ := h
  obtain ⟨T, ht, hn⟩ := k
  exact ⟨S ++ T, fun x hx => (List.mem_append.1 hx).elim (hs x) (ht x), (hm.mono (fun x hx => List.mem_append_left _ hx)).trans (hn.mono (fun x hx => List.mem_append_right _ hx))⟩
theorem ModHi.size {base : Nat} {w w' : World} (h : ModHi base w w') : w.heap.size ≤ w'.heap.size := by obtain ⟨S, _, hm⟩ := h; exact hm.size
theorem ModHi.ext {a w w' : World} (h : ModHi a.heap.size w w') (hx : Ext a w) : Ext a w' := by
  obtain ⟨S, hs, hm⟩ := h
  exact ⟨hm.os.trans hx.os, hm.tape.trans hx.tape, hm.output.trans hx.output, Nat.le_trans hx.size hm.size, fun k hk => by
    rw [hm.block k (Nat.lt_of_lt_of_le hk hx.size) (fun h => by have := hs k h; omega)]
    exact hx.block hk⟩
theorem BU.hi {w w' : World} {top base c : Nat} {a : Option Addr} {l : List Int} (h : BU w top a c l) (hm : ModHi base w w') (ht : top ≤ base) (hb : base ≤ w.heap.size) : BU w' top a c l := by
  obtain ⟨S, hs, hm⟩ := hm
  exact h.mod hm (Nat.le_trans ht hb) (fun x hx => Nat.le_trans ht (hs x hx))

section
variable {w w' : World} {base sb rb mb : Nat} {ka ra : Option Addr} {rc kc : Nat} {d : Int} {rs : List Rp} {s s' : Mon}
theorem row_map {g b e size n : Nat} {v : Value} {xs : List Value} {la : AList} {kd : IntKind} (h : w.ownsRow b e size v n xs) (hm : Mod [g] w w') (hg : MapAt w g kd la) : w'.ownsRow b e size v n xs :=
  hm.row h fun q hq hmem => by
    rcases h.2 with ⟨h4, _⟩ | ⟨g', cap', cur, h4, _, h5, _⟩
    · rw [h4] at hq; simp [Value.ownBlock] at hq
    · rw [h4] at hq
      simp only [Value.ownBlock, Option.some.injEq] at hq
      subst hq
      simp only [List.mem_cons, List.not_mem_nil, or_false] at hmem
      exact hg.ne_cells h5 hmem
/-- The map is written. -/
theorem SesAt.asked (h : SesAt w base sb rb mb ka ra rc kc d rs s) (hm : Mod [mb] w w') {la : AList} {asked : List Int} (h1 : MapAt w' mb .u64 la) (h2 : AskN la asked) : SesAt w' base sb rb mb ka ra rc kc d rs { s with asked := asked } := by
  obtain ⟨h3, h4, h5, h6, h7, h8, h9, h10, ⟨l0, h11, _⟩, h12⟩ := h
  have q1 : sb ∉ [mb] := by have := h11.ne_cells h3; simpa using this
  have q2 : rb ∉ [mb] := by have := h11.ne_cells h4; simpa using this
  exact ⟨hm.keep h3 q1, hm.keep h4 q2, h5, row_map h6 hm h11, h7, row_map h8 hm h11, fun x hx => ⟨row_map (h9 x hx).row hm h11, (h9 x hx).u8, (h9 x hx).small⟩, h10, ⟨la, h1, h2⟩, h12⟩
/-- The session's own cells are written. -/
theorem SesAt.box (h : SesAt w base sb rb mb ka ra rc kc d rs s) (hm : Mod [sb] w w') (hb : w'.heap[sb]? = some (.cells (sesC rb s'.tok s'.most ra rs.length rc mb s'.events) 198)) (e1 : s'.replies = s.replies) (e2 : s'.kept = s.kept) (e3 : s'.asked = s.asked) : SesAt w' base sb rb mb ka ra rc kc d rs s' := by
  obtain ⟨h3, h4, h5, h6, h7, h8, h9, h10, ⟨l0, h11, h13⟩, h12⟩ := h
  have q2 : rb ∉ [sb] := by
    intro hx
    simp only [List.mem_cons, List.not_mem_nil, or_false] at hx
    subst hx
    rw [h3] at h4
    simp at h4
  have q3 : mb ∉ [sb] := by have := h11.ne_cells h3; simpa using this.symm
  refine ⟨hb, ?_, ?_, ?_, ?_, row_mod h8 hm h3 (by decide), fun x hx => ⟨row_mod (h9 x hx).row hm h3 (by decide), (h9 x hx).u8, (h9 x hx).small⟩, h10, ⟨l0, h11.mod hm q3, by rw [e3]; exact h13⟩, h12⟩
  · rw [e2]; exact hm.keep h4 q2
  · rw [e1]; exact h5
  · rw [e2]; exact row_mod h6 hm h3 (by decide)
  · rw [e2]; exact h7
/-- The session begins anew. -/
theorem SesAt.anew (h : SesAt w base sb rb mb ka ra rc kc d rs s) (hm : Mod [sb] w w') {mb' : Nat} (h0 : base ≤ mb') {ev : Int} (hb : w'.heap[sb]? = some (.cells (sesC rb s'.tok s'.most none 0 0 mb' ev) 198)) (h1 : MapAt w' mb' .u64 []) (e1 : s'.replies = []) (e2 : s'.kept = s.kept) (e3 : s'.asked = []) (e4 : s'.events = ev) : SesAt w' base sb rb mb' ka none 0 kc d [] s' := by
  obtain ⟨h3, h4, h5, h6, h7, h8, h9, h10, ⟨l0, h11, h13⟩, h12⟩ := h
  have q2 : rb ∉ [sb] := by
    intro hx
    simp only [List.mem_cons, List.not_mem_nil, or_false] at hx
    subst hx
    rw [h3] at h4
    simp at h4
  refine ⟨by rw [e4]; exact hb, ?_, by rw [e1]; rfl, ?_, ?_, ⟨rfl, .inl ⟨rfl, rfl⟩⟩, fun x hx => (by cases hx), fun x hx => (by cases hx), ⟨[], h1, by rw [e3]; exact AskN.nil⟩, ⟨h12.1, h12.2.1, h0⟩⟩
  · rw [e2]; exact hm.keep h4 q2
  · rw [e2]; exact row_mod h6 hm h3 (by decide)
  · rw [e2]; exact h7
/-- What the reader was fed is taken. -/
theorem SesAt.fed (h : SesAt w base sb rb mb ka ra rc kc d rs s) {ka' : Option Addr} {kc' : Nat} {d' : Int} {l : List Int} (hm : Mod (rb :: (ka.map (·.block)).toList) w w') (hb : w'.heap[rb]? = some (.cells #[.bool true, .slice ka' l.length kc', .int .i64 d'] 249)) (hr : w'.ownsRow w.heap.size 5 1 (.slice ka' l.length kc') l.length (u8s l)) (hu : U8s l) (hbs : base ≤ w.heap.size) : SesAt w' base sb rb mb ka' ra rc kc' d' rs { s with kept := l } := by
  obtain ⟨h3, h4, h5, h6, h7, h8, h9, h10, ⟨l0, h11, h13⟩, h12⟩ := h
  have typ : ∀ g cs ty, w.heap[g]? = some (.cells cs ty) → ty ≠ 5 → ty ≠ 249 → g ∉ (rb :: (ka.map (·.block)).toList) := by
    intro g cs ty hg t5 t249 hmem
    rcases List.mem_cons.1 hmem with rfl | hx
    · rw [h4] at hg
      simp only [Option.some.injEq, Obj.cells.injEq] at hg
      exact t249 hg.2.1.symm
    · cases ka with
      | none => simp at hx
      | some ad =>
        simp only [Option.map_some, Option.toList_some, List.mem_cons, List.not_mem_nil, or_false] at hx
        obtain ⟨_, _, cs2, h14⟩ := own_type h6
        rw [← hx, hg] at h14
        simp only [Option.some.injEq, Obj.cells.injEq] at h14
        exact t5 h14.2.1
  have hmb : mb ∉ (rb :: (ka.map (·.block)).toList) := by
    intro hmem
    rcases List.mem_cons.1 hmem with rfl | hx
    · exact h11.ne_cells h4 rfl
    · cases ka with
      | none => simp at hx
      | some ad =>
        simp only [Option.map_some, Option.toList_some, List.mem_cons, List.not_mem_nil, or_false] at hx
        obtain ⟨_, _, cs2, h14⟩ := own_type h6
        exact h11.ne_cells h14 hx.symm
  have hrep : ∀ x, x ∈ rs → w'.ownsRow base 5 1 (rpC x) x.1.length (u8s x.1) := fun x hx => hm.row (h9 x hx).row fun q hq hmem => by
    have hxa : ∃ ad, x.2.1 = some ad ∧ ad.block = q := by
      unfold rpC at hq
      cases hxx : x.2.1 with
      | none => rw [hxx] at hq; simp [Value.ownBlock] at hq
      | some ad => rw [hxx] at hq; exact ⟨ad, rfl, by simpa [Value.ownBlock] using hq⟩
    obtain ⟨ad, h15, h16⟩ := hxa
    have h17 := (h9 x hx).row
    unfold rpC at h17
    rw [h15] at h17
    obtain ⟨_, _, cs, h18⟩ := own_type h17
    rcases List.mem_cons.1 hmem with h19 | h19
    · rw [h16, h19, h4] at h18
      simp at h18
    · cases ka with
      | none => simp at h19
      | some kd =>
        simp only [Option.map_some, Option.toList_some, List.mem_cons, List.not_mem_nil, or_false] at h19
        exact h10 x hx ad kd h15 rfl (h16.trans h19)
  refine ⟨hm.keep h3 (typ _ _ _ h3 (by decide) (by decide)), hb, h5, row_low hr hbs, hu, hm.row h8 fun q hq hmem => ?_, fun x hx => ⟨hrep x hx, (h9 x hx).u8, (h9 x hx).small⟩, fun x hx ad kd h15 h16 => ?_, ⟨l0, h11.mod hm hmb, h13⟩, h12⟩
  · rcases h8.2 with ⟨h20, _⟩ | ⟨g', cap', cur, h20, _, h21, _⟩
    · rw [h20] at hq; simp [Value.ownBlock] at hq
    · rw [h20] at hq
      simp only [Value.ownBlock, Option.some.injEq] at hq
      subst hq
      exact typ _ _ _ h21 (by decide) (by decide) hmem
  · have h17 := (h9 x hx).row
    unfold rpC at h17
    rw [h15] at h17
    subst h16
    have h22 := own_type h17
    have h23 := own_type hr
    omega
theorem SesAt.fed_hi (h : SesAt w base sb rb mb ka ra rc kc d rs s) (hm : Mod (rb :: (ka.map (·.block)).toList) w w') : ModHi base w w' := by
  refine ⟨_, fun x hx => ?_, hm⟩
  rcases List.mem_cons.1 hx with rfl | hx
  · exact h.low.2.1
  · have h6 := h.krow
    cases ka with
    | none => simp at hx
    | some ad =>
      simp only [Option.map_some, Option.toList_some, List.mem_cons, List.not_mem_nil, or_false] at hx
      obtain ⟨h7, _⟩ := own_type h6
      omega
end
end Go.Proofs.Eff
