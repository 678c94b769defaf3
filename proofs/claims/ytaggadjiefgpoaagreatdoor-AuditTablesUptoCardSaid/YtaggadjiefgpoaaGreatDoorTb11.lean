/- handles: Tick. -/
import Derived.Test.YtaggadjiefgpoaaGreatDoorTb10
namespace Go.Proofs.Eff
open Go.RowKit

/-- The numbers of the first k slots that are over at c. -/
def expI (T : HTab) (c : Int) (k : Nat) : List Int := ((T.slots.take k).filter fun p => p != (0, 0) && decide (p.2 ≤ c)).map (·.1)
theorem expI_succ {T : HTab} {c : Int} {k : Nat} (hk : k < T.slots.length) : expI T c (k + 1) = if T.slots[k] ≠ (0, 0) ∧ T.slots[k].2 ≤ c then expI T c k ++ [T.slots[k].1] else expI T c k := by
  unfold expI
  rw [List.take_succ_eq_append_getElem hk, List.filter_append, List.map_append]
  by_cases h : T.slots[k] ≠ (0, 0) ∧ T.slots[k].2 ≤ c
  · rw [if_pos h]; simp [h.1, h.2]
  · rw [if_neg h]
    have : (T.slots[k] != (0, 0) && decide (T.slots[k].2 ≤ c)) = false := by
      cases h1 : (T.slots[k] != (0, 0)) with
      | false => rfl
      | true =>
        have h1' : T.slots[k] ≠ (0, 0) := by simpa using h1
        simp only [Bool.true_and, decide_eq_false_iff_not]
        exact fun h2 => h ⟨h1', h2⟩
    simp [this]
theorem expI_length (T : HTab) (c : Int) (k : Nat) : (expI T c k).length ≤ k := by
  unfold expI
  have h1 := List.length_filter_le (fun p => p != ((0 : Int), (0 : Int)) && decide (p.2 ≤ c)) (T.slots.take k)
  simp only [List.length_map]
  have := List.length_take_le k T.slots
  omega
theorem TabOK.del {M : TabS} (ok : TabOK M) (i : Int) : TabOK { M with live := ldel M.live i } :=
  ⟨ok.cap0, ok.cap1, ok.next0, ok.next1, ok.clock0, ok.clock1, by have := (ldel_sub M.live i).length_le; have := ok.len; simp only; omega, ((ldel_sub M.live i).map _).nodup ok.keys⟩

section
variable {w : World} {L : HLoc} {h : HeapS} {os : List Nat} {a cap tb : Nat} {T : HTab} {M : TabS}
theorem Rel.at_clock (R : Rel h os a cap T M) (c : Int) (ok : TabOK { M with clock := c }) : Rel h os a cap { T with now := c } { M with clock := c } :=
  ⟨ok, R.capE, R.next, rfl, R.len, R.zero, R.used, R.conv, R.inj, R.fresh⟩
theorem Rel.over (R : Rel h os a cap T M) (c : Int) : (expI T c 256).Perm ((M.live.filter fun p => decide (p.2.2 ≤ c)).map (·.1)) := by
  have hlen := R.len
  have e0 : T.slots.take 256 = T.slots := List.take_of_length_le (by omega)
  have mem1 : ∀ i, i ∈ expI T c 256 ↔ ∃ k, ∃ hk : k < T.slots.length, T.slots[k] ≠ (0, 0) ∧ T.slots[k].2 ≤ c ∧ T.slots[k].1 = i := by
    intro i
    unfold expI
    rw [e0]
    simp only [List.mem_map, List.mem_filter, Bool.and_eq_true, bne_iff_ne, decide_eq_true_eq]
    constructor
    · rintro ⟨p, ⟨hp, h1, h2⟩, h3⟩
      obtain ⟨k, hk, he⟩ := List.getElem_of_mem hp
      exact ⟨k, hk, by rw [he]; exact h1, by rw [he]; exact h2, by rw [he]; exact h3⟩
    · rintro ⟨k, hk, h1, h2, h3⟩
      exact ⟨T.slots[k], ⟨List.getElem_mem hk, h1, h2⟩, h3⟩
  have nd1 : (expI T c 256).Nodup := by
    unfold expI
    rw [e0]
    have hp : T.slots.Pairwise fun p q => p.1 = q.1 → p.1 = 0 := by
      rw [List.pairwise_iff_getElem]
      intro i j hi hj hlt he
      refine Classical.byContradiction fun h0 => ?_
      have := R.inj i j hi hj he h0
      omega
    rw [List.nodup_iff_pairwise_ne, List.pairwise_map]
    refine (hp.filter _).imp_of_mem ?_
    intro p q hp1 hq1 hpq he
    have h0 := hpq he
    simp only [List.mem_filter, Bool.and_eq_true, bne_iff_ne] at hp1
    obtain ⟨k, hk, hke⟩ := List.getElem_of_mem hp1.1
    exact hp1.2.1 (by rw [← hke]; exact R.zero k hk (by rw [hke]; exact h0))
  have nd2 : ((M.live.filter fun p => decide (p.2.2 ≤ c)).map (·.1)).Nodup := ((List.filter_sublist).map _).nodup R.ok.keys
  rw [List.perm_ext_iff_of_nodup nd1 nd2]
  intro i
  rw [mem1]
  simp only [List.mem_map, List.mem_filter, decide_eq_true_eq]
  have mem2 : ∀ {l : LT} {i : Int} {x : Int × Int}, lget l i = some x → (i, x) ∈ l := by
    intro l
    induction l with
    | nil => intro i x hx; cases hx
    | cons p r ih =>
      intro i x hx
      simp only [lget] at hx
      by_cases hp : p.1 = i
      · rw [if_pos hp] at hx
        cases hx
        rw [← hp]; exact List.mem_cons_self
      · rw [if_neg hp] at hx
        exact List.mem_cons_of_mem _ (ih hx)
  constructor
  · rintro ⟨k, hk, h1, h2, h3⟩
    have u := (R.used k hk h1).2.2
    rw [h3] at u
    exact ⟨_, ⟨mem2 u, h2⟩, rfl⟩
  · rintro ⟨p, ⟨hp, h2⟩, rfl⟩
    have hm : p.1 ∈ M.live.map (·.1) := List.mem_map.2 ⟨p, hp, rfl⟩
    obtain ⟨k, hk, he⟩ := R.conv _ hm
    have h1 := (R.fresh _ hm).1
    have hne := R.ne0 hk (by rw [he]; omega)
    have u := (R.used k hk hne).2.2
    rw [he] at u
    have := key_val R.ok.keys hp (mem2 u) rfl
    refine ⟨k, hk, hne, ?_, he⟩
    rw [this] at h2; exact h2
theorem TBx.modFar {w' : World} {S : List Nat} (t : TBx w L h os a cap tb T) (hM : Mod S w w') (hL : ∀ x, x ∈ L.blocks → ¬ x ∈ S) (ht : ¬ tb ∈ S) : TBx w' L h os a cap tb T :=
  ⟨t.heap.mod hM hL, t.wf, t.so, t.arr, t.tab.mod hM ht, t.ap, t.capE, t.cap1, t.cap2⟩
theorem TBx.setNow (t : TBx w L h os a cap tb T) (x : Int) : TBx (w.setCell ⟨tb, 515, none⟩ (.int .i64 x)) L h os a cap tb { T with now := x } := by
  have other : ∀ i, i ≠ 515 → (w.setCell ⟨tb, 515, none⟩ (.int .i64 x)).cell? ⟨tb, i, none⟩ = w.cell? ⟨tb, i, none⟩ := fun i h1 => World.cell?_setCell_other _ _ _ _ (by intro e; cases e; exact h1 rfl)
  have ht := t.tab
  refine ⟨t.heap.setFar ⟨tb, 515, none⟩ t.ap _, t.wf, t.so, t.arr, ⟨by have := ht.lt; simpa using this, by rw [other 0 (by omega)]; exact ht.ptr, ?_, ht.len, by rw [other 513 (by omega)]; exact ht.cap, by rw [other 514 (by omega)]; exact ht.next, World.cell?_setCell_same _ _ _ ht.now, fun i => by simp only [World.frozen?_setCell]; exact ht.fr i⟩, t.ap, t.capE, t.cap1, t.cap2⟩
  intro j v hv
  have hj : j < 512 := by have h1 := (List.getElem?_eq_some_iff.1 hv).1; rw [slotC_length, ht.len] at h1; exact h1
  rw [other (1 + j) (by omega)]
  exact ht.slots j v hv
/-- Behind the first k slots. -/
structure TkI (w0 : World) (base : Nat) (L : HLoc) (os : List Nat) (a cap tb : Nat) (T : HTab) (M : TabS) (c : Int) (k : Nat) (v : Value) (wr : World) : Prop where
  tab : ∃ h' T', TBx wr L h' os a cap tb T' ∧ Rel h' os a cap T' { M with clock := c, live := delAll M.live (expI T c k) } ∧ T'.now = c ∧ ∀ j (hj : j < T.slots.length), k ≤ j → T'.slots[j]? = some T.slots[j]
  row : wr.ownsRow base 55 1 v (expI T c k).length (u64s (expI T c k))
  mod : Mod [tb, L.gw] w0 wr
end
end Go.Proofs.Eff
