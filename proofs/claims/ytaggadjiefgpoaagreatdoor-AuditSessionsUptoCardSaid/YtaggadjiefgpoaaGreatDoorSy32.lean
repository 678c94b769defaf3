/- wire.GetReply. -/
import Derived.Test.YtaggadjiefgpoaaGreatDoorSy31
import Derived.Test.YtaggadjiefgpoaaGreatDoorSy27
import Derived.Laws.ResultCell
import Derived.Deep.CutBlock
namespace Go.Proofs.Eff
open Go.RowKit

theorem Rd.low {w w' : World} {pb ty : Nat} {s : Option (List Int)} (h : Rd w pb ty s) (hk : ∀ k, k ≤ pb → w'.heap[k]? = w.heap[k]?) : Rd w' pb ty s := by
  cases s with
  | none => obtain ⟨l, a, c, h1, h2⟩ := h; exact ⟨l, a, c, by rw [hk pb (Nat.le_refl _)]; exact h1, h2.keep fun k hk2 => hk k (Nat.le_of_lt hk2)⟩
  | some l => obtain ⟨a, c, h1, h2⟩ := h; exact ⟨a, c, by rw [hk pb (Nat.le_refl _)]; exact h1, h2.keep fun k hk2 => hk k (Nat.le_of_lt hk2)⟩
theorem Rd.blk {w : World} {pb ty : Nat} {s : Option (List Int)} (h : Rd w pb ty s) : ∃ cs, w.heap[pb]? = some (.cells cs ty) := by
  cases s with
  | none => obtain ⟨l, a, c, h1, _⟩ := h; exact ⟨_, h1⟩
  | some l => obtain ⟨a, c, h1, _⟩ := h; exact ⟨_, h1⟩
theorem ValsAt.ext {w w' : World} {base : Nat} {v : Value} {vs : List (Int × Int)} (h : ValsAt w base v vs) (hx : Ext w w') : ValsAt w' base v vs := ⟨row_keep h.row hx, h.ok⟩
theorem ValsAt.mod {w w' : World} {base b ty : Nat} {v : Value} {vs : List (Int × Int)} {cs : Array Value} (h : ValsAt w base v vs) (hm : Mod [b] w w') (hb : w.heap[b]? = some (.cells cs ty)) (ht : ty ≠ 298) : ValsAt w' base v vs :=
  ⟨hm.row h.row fun g hg => by
    rcases h.row.2 with ⟨h4, _⟩ | ⟨g', cap', cur, h4, _, h5, _⟩
    · rw [h4] at hg; simp [Value.ownBlock] at hg
    · rw [h4] at hg
      simp only [Value.ownBlock, Option.some.injEq] at hg
      subst hg
      intro hm2
      simp only [List.mem_cons, List.not_mem_nil, or_false] at hm2
      subst hm2
      rw [h5] at hb
      simp only [Option.some.injEq, Obj.cells.injEq] at hb
      exact ht hb.2.1.symm, h.ok⟩
/-- A block that is no row of values is as it was when the row grew. -/
theorem ValsAt.keep {w w' : World} {base b ty : Nat} {v : Value} {vs : List (Int × Int)} {cs : Array Value} (h : ValsAt w base v vs) (hg : w.grownBy w' v.ownBlock) (hb : w.heap[b]? = some (.cells cs ty)) (ht : ty ≠ 298) : w'.heap[b]? = some (.cells cs ty) := by
  rw [hg.block b (lt_of_block hb) (fun he => by
    rcases h.row.2 with ⟨h4, _⟩ | ⟨g', cap', cur, h4, _, h5, _⟩
    · rw [h4] at he; simp [Value.ownBlock] at he
    · rw [h4] at he
      simp only [Value.ownBlock, Option.some.injEq] at he
      subst he
      rw [h5] at hb
      simp only [Option.some.injEq, Obj.cells.injEq] at hb
      exact ht hb.2.1.symm)]
  exact hb
abbrev emptyStr : Value := .string { data := #[] }
theorem cinfo298 : (Tryz.prog.info? 298).map (fun i => (i.zero, i.size, i.bytes)) = some (some (.agg #[.int .u64 0, .int .i64 0]), 2, 16) := by kernel_rfl
/-- Where the reading of a reply's values stands. -/
structure RepI (w : World) (pb p5 ty base K : Nat) (err : Int) (l2 : Option (List Int)) (k : Nat) (wr : World) : Prop where
  ext : Ext w wr
  st : ∃ (s : Option (List Int)) (a : Option Addr) (c : Nat) (vs : List (Int × Int)), Rd wr pb ty s ∧ wr.heap[p5]? = some (.cells #[.int .i64 err, .slice a k c, emptyStr] 262) ∧ vs.length = k ∧ ValsAt wr base (.slice a k c) vs ∧
    (∀ l', s = some l' → k ≤ K ∧ l2.bind (fun l => valsOn K (some l)) = (valsOn (K - k) (some l')).map fun p => (vs ++ p.1, p.2)) ∧ (s = none → l2.bind (fun l => valsOn K (some l)) = none)
theorem rep_step {K k : Nat} {o : Option (List (Int × Int) × List Int)} {vs : List (Int × Int)} {l : List Int} (hk : k < K) (h : o = (valsOn (K - k) (some l)).map fun p => (vs ++ p.1, p.2)) :
    (∀ l', (val1S (some l)).2 = some l' → o = (valsOn (K - (k + 1)) (some l')).map fun p => ((vs ++ [(val1S (some l)).1]) ++ p.1, p.2)) ∧ ((val1S (some l)).2 = none → o = none) := by
  rw [show K - k = K - (k + 1) + 1 by omega, valsOn_succ] at h
  constructor
  · intro l' hl
    rw [h, hl]
    cases valsOn (K - (k + 1)) (some l') with
    | none => rfl
    | some p => simp
  · intro hl
    rw [h, hl, valsOn_none]
    rfl
theorem val1S_zero {s : Option (List Int)} (h : (countS s).1 = 0) : val1S s = ((0, (signedS (countS s).2).1), (signedS (countS s).2).2) := if_pos h
theorem val1S_more {s : Option (List Int)} (h : ¬ (countS s).1 = 0) : val1S s = (((countS s).1, 0), (countS s).2) := if_neg h
/-- Reading of the values is at its end. -/
structure RepE (w : World) (pb p5 ty base K : Nat) (err : Int) (l2 : Option (List Int)) (wr : World) : Prop where
  ext : Ext w wr
  st : ∃ (s : Option (List Int)) (a : Option Addr) (c k : Nat) (vs : List (Int × Int)), Rd wr pb ty s ∧ wr.heap[p5]? = some (.cells #[.int .i64 err, .slice a k c, emptyStr] 262) ∧ vs.length = k ∧ ValsAt wr base (.slice a k c) vs ∧
    l2.bind (fun l => valsOn K (some l)) = s.map fun l' => (vs, l')
theorem rep_push {w wq w9 : World} {pb p5 ty K k cv c9 : Nat} {er : Int} {o2 sq : Option (List Int)} {av a9 : Option Addr} {vs : List (Int × Int)} {x : Int × Int} (hE : Ext w wq) (hS : Rd wq pb ty sq)
    (h5 : wq.heap[p5]? = some (.cells #[.int .i64 er, .slice av k cv, emptyStr] 262)) (hz : wq.heap[w.heap.size]? = some (.cells #[.int .i64 0, .slice none 0 0, emptyStr] 262)) (hV : ValsAt wq (p5 + 1) (.slice av k cv) vs) (hvl : vs.length = k) (hx : valOK x)
    (hpb : pb < p5) (hpw : w.heap.size < pb) (hown : w9.ownsRow (p5 + 1) 298 2 (.slice a9 (k + 1) c9) (k + 1) (valC vs ++ [.int .u64 x.1, .int .i64 x.2])) (hg : (wq.alloc (.cells #[.int .u64 x.1, .int .i64 x.2] 298)).grownBy w9 (Value.slice av k cv).ownBlock)
    (hk : k < K) (hst : (∀ l', sq = some l' → o2.bind (fun l => valsOn K (some l)) = (valsOn (K - (k + 1)) (some l')).map fun p => ((vs ++ [x]) ++ p.1, p.2)) ∧ (sq = none → o2.bind (fun l => valsOn K (some l)) = none)) :
    RepI w pb p5 ty (p5 + 1) K er o2 (k + 1) (w9.setCell ⟨p5, 1, none⟩ (.slice a9 (k + 1) c9)) ∧ (w9.setCell ⟨p5, 1, none⟩ (.slice a9 (k + 1) c9)).heap[w.heap.size]? = some (.cells #[.int .i64 0, .slice none 0 0, emptyStr] 262) := by
  have hV2 := hV.ext ((Ext.refl wq).alloc (.cells #[.int .u64 x.1, .int .i64 x.2] 298))
  have hlt : p5 < wq.heap.size := lt_of_block h5
  have hrow : ∀ q, (Value.slice av k cv).ownBlock = some q → p5 + 1 ≤ q := fun q hq => (hV2.row.lt q hq).1
  have E9 : Ext w w9 := (hE.alloc _).grown hg (fun q hq => by have := hrow q hq; omega)
  have B9 := hV2.keep hg (keepB h5 _) (by decide)
  have Z9 := hV2.keep hg (keepB hz _) (by decide)
  have low : ∀ j, j ≤ pb → (w9.setCell ⟨p5, 1, none⟩ (.slice a9 (k + 1) c9)).heap[j]? = wq.heap[j]? := fun j hj => by
    rw [Below.heap_setCell _ _ _ _ (by show j ≠ p5; omega), hg.block j (by simp; omega) (fun he => by have := hrow j he.symm; omega), heap_alloc_get, if_neg (by omega)]
  refine ⟨⟨E9.setCell (by show w.heap.size ≤ p5; omega) _, sq, a9, c9, vs ++ [x], hS.low low, ?_, by simp [hvl], ⟨?_, fun y hy => ?_⟩, fun l' hl => ⟨hk, hst.1 l' hl⟩, hst.2⟩, ?_⟩
  · exact setB B9 _
  · rw [valC_append, List.length_append, hvl]
    exact (mod_setCell w9 ⟨p5, 1, none⟩ _).row hown (fun q hq => by have := (hown.lt q hq).1; simp; omega)
  · rcases List.mem_append.1 hy with h | h
    · exact hV.ok y h
    · simp only [List.mem_cons, List.not_mem_nil, or_false] at h
      subst h
      exact hx
  · exact keepS Z9 (by show w.heap.size ≠ p5; omega) _
theorem strOfNums_size (l : List Int) : (strOfNums l).size = l.length := by
  have h := strOfNums_data l
  have h2 := congrArg List.length h
  simp only [List.length_map] at h2
  exact h2
theorem textS_len (s : Option (List Int)) : (textS s).1.length ≤ 512 := by
  unfold textS
  split
  · simp
  · split
    · rename_i h
      rw [List.length_take]
      omega
    · simp
theorem rep_final {l : List Int} {o2 s : Option (List Int)} {K : Nat} {er er2 : Int} {vs : List (Int × Int)} (hu : U8s l) (RP0 : o2 = none → replyG l = none)
    (RP1 : ∀ l2, o2 = some l2 → replyG l = match valsOn K (some l2) with
      | none => none
      | some (vs, l3) => if (textS (some l3)).2 = some [] then some (er, vs, (textS (some l3)).1.length) else none)
    (hfin : o2.bind (fun l => valsOn K (some l)) = s.map fun l' => (vs, l')) (hput : er2 = 0 ↔ vs.length ≤ 32 ∧ plen er vs (textS s).1.length ≤ 1024) : (er2 = 0 ∧ (textS s).2 = some []) ↔ replyP l = true := by
  cases o2 with
  | none =>
    have h0 : s = none := by cases s with
      | none => rfl
      | some x => simp at hfin
    subst h0
    unfold replyP
    rw [RP0 rfl]
    simp [textS, countS]
  | some l2 =>
    have h1 := RP1 l2 rfl
    simp only [Option.bind_some] at hfin
    rw [hfin] at h1
    cases s with
    | none =>
      simp only [Option.map_none] at h1
      unfold replyP
      rw [h1]
      simp [textS, countS]
    | some l3 =>
      simp only [Option.map_some] at h1
      by_cases hd : (textS (some l3)).2 = some []
      · rw [if_pos hd] at h1
        have h2 := replyG_some hu h1
        unfold replyP
        rw [h1]
        simp only [Bool.and_eq_true, decide_eq_true_eq, hput, hd, and_true]
        rw [← h2.1]
        omega
      · rw [if_neg hd] at h1
        unfold replyP
        rw [h1]
        simp [hd]
set_option maxRecDepth 100000 in
set_option maxHeartbeats 8000000 in
theorem GetReply202 {w : World} {top : Nat} {a : Option Addr} {c : Nat} {l : List Int} (h : BU w top a c l) (ht : top ≤ w.heap.size) :
    Calls Tryz.prog 202 #[.slice a l.length c] w fun e w' => ∃ k a n c t er, e = .returned (.tuple #[.agg #[.int .i64 k, .slice a n c, .string t], .int .i64 er]) ∧ Ext w w' ∧ (er = 0 ↔ replyP l = true) := by
  have BZ := Lib.hid (newB w (.cells #[.int .i64 0, .slice none 0 0, emptyStr] 262) _ rfl)
  have E0 := Lib.hid (((Ext.refl w).alloc (.cells #[.int .i64 0, .slice none 0 0, emptyStr] 262)).alloc (.cells #[.slice a l.length c, .bool false] 294))
  have BZ1 := Lib.hid (keepB BZ.out (.cells #[.slice a l.length c, .bool false] 294))
  have RD0 : Hid (Rd ((w.alloc (.cells #[.int .i64 0, .slice none 0 0, emptyStr] 262)).alloc (.cells #[.slice a l.length c, .bool false] 294)) (w.heap.size + 1) 294 (some l)) :=
    ⟨a, c, newB _ _ _ (by simp), (h.ext E0.out ht).up (by omega)⟩
  have HU8 := Lib.hid h.u8
  clear h
  go_enter Tryz.func202, Tryz.ntmps202
  go_upto_region 2 with fail
  have HPB : Hid (w.heap.size < w.heap.size + 1) := Nat.lt_succ_self _
  generalize (w.alloc (.cells #[.int .i64 0, .slice none 0 0, emptyStr] 262)).alloc (.cells #[.slice a l.length c, .bool false] 294) = w1 at *
  go_upto_region 3 with (go_at_call 205; refine (signed205 RD0.out).mono ?_; rintro e w2 ⟨rfl, h2, h3⟩; have S2 := Lib.hid h2; have M2 := Lib.hid h3; clear h2 h3)
  generalize w.heap.size + 1 = pb at *
  have REP : Hid (replyG l = match (signedS (some l)).2 with
    | none => none
    | some [] => none
    | some (k :: l2) => match valsOn k.toNat (some l2) with
      | none => none
      | some (vs, l3) => if (textS (some l3)).2 = some [] then some ((signedS (some l)).1, vs, (textS (some l3)).1.length) else none) := replyG_eq HU8.out
  obtain ⟨er0, er1, _⟩ := signedS_in (s := some l) (fun l' hl => by cases hl; exact HU8.out)
  have E2 := Lib.hid (Mod.ext_of_new E0.out M2.out (Nat.le_of_lt HPB.out))
  have BZ2 := Lib.hid (M2.out.keep BZ1.out (by have := HPB.out; simp; omega))
  generalize (signedS (some l)).1 = er at *
  generalize (signedS (some l)).2 = st1 at *
  have LPB : Hid (pb < w2.heap.size) := S2.out.lt
  have S3 := Lib.hid (S2.out.ext ((Ext.refl w2).alloc (.cells #[.int .i64 er, .slice none 0 0, emptyStr] 262)))
  have B5 := Lib.hid (newB w2 (.cells #[.int .i64 er, .slice none 0 0, emptyStr] 262) _ rfl)
  have E3 := Lib.hid (E2.out.alloc (.cells #[.int .i64 er, .slice none 0 0, emptyStr] 262))
  have BZ3 := Lib.hid (keepB BZ2.out (.cells #[.int .i64 er, .slice none 0 0, emptyStr] 262))
  generalize w2.alloc (.cells #[.int .i64 er, .slice none 0 0, emptyStr] 262) = w3 at *
  generalize w2.heap.size = p5 at *
  clear BZ E0 BZ1 RD0 S2 M2 E2 BZ2
  obtain ⟨l1, bad1, hrd, hst1, hst2⟩ := S3.out.open
  have HB := Lib.hid (byte181 hrd)
  have HS1 := Lib.hid hst1
  have HS2 := Lib.hid hst2
  clear hrd hst1 hst2 S3
  go_upto_region 4 with (go_at_call 181; refine HB.out.mono ?_; rintro e w4 ⟨x, l', bad', rfl, x0, x1, h2, h3, h4, h5⟩; obtain ⟨o2, ho2, hoS, hoN⟩ : ∃ o2, Rd w4 pb 294 o2 ∧ (∀ l2, o2 = some l2 → st1 = some (x :: l2)) ∧ (o2 = none → st1 = none ∨ st1 = some []) := (by
      refine ⟨if bad' then none else some l', h2.close, fun l2 h6 => ?_, fun h6 => ?_⟩
      · cases bad' with
        | true => simp at h6
        | false =>
          simp only [Bool.false_eq_true, if_false, Option.some.injEq] at h6
          subst h6
          cases l1 with
          | nil => have := (h5 rfl).2; cases this
          | cons y r =>
            obtain ⟨a1, a2, a3⟩ := h4 y r rfl
            subst a1; subst a2
            exact HS1.out a3.symm
      · cases bad' with
        | false => simp at h6
        | true =>
          cases bad1 with
          | true => exact .inl (HS2.out rfl)
          | false =>
            cases l1 with
            | nil => exact .inr (HS1.out rfl)
            | cons y r => have := (h4 y r rfl).2.2; cases this); have S4 := Lib.hid ho2; have M4 := Lib.hid h3; have OS := Lib.hid hoS; have ON := Lib.hid hoN; clear h2 h3 h4 h5 ho2 hoS hoN)
  obtain ⟨K, rfl⟩ : ∃ K : Nat, x = (K : Int) := ⟨x.toNat, by omega⟩
  have RP1 : Hid (∀ l2, o2 = some l2 → replyG l = match valsOn K (some l2) with
      | none => none
      | some (vs, l3) => if (textS (some l3)).2 = some [] then some (er, vs, (textS (some l3)).1.length) else none) := fun l2 h => by
    rw [REP.out, OS.out l2 h]
    rfl
  have RP0 : Hid (o2 = none → replyG l = none) := fun h => by
    rw [REP.out]
    rcases ON.out h with h | h <;> rw [h]
  have NE5 : Hid (pb < p5) := LPB.out
  have B54 := Lib.hid (M4.out.keep B5.out (by have := NE5.out; simp; omega))
  have BZ4 := Lib.hid (M4.out.keep BZ3.out (by have := HPB.out; simp; omega))
  have E4 := Lib.hid (Mod.ext_of_new E3.out M4.out (Nat.le_of_lt HPB.out))
  have HP5 : Hid (p5 < w4.heap.size) := lt_of_block B54.out
  clear REP OS ON B5 BZ3 E3 M4 HS1 HS2 HB LPB
  have W5 : Hid (w.heap.size < p5) := Nat.lt_trans HPB.out NE5.out
  have I0 : Hid (RepI w pb p5 294 (p5 + 1) K er o2 0 w4) := ⟨E4.out, o2, none, 0, [], S4.out, B54.out, rfl, ⟨⟨rfl, .inl ⟨rfl, rfl⟩⟩, fun _ h => (by cases h)⟩, fun l' hl => ⟨Nat.zero_le _, by subst hl; simp⟩, fun hl => by subst hl; rfl⟩
  go_upto_block 0 with fail
  go_cut [7, 8] from 20 to 46 (fun _ _ wc => RepE w pb p5 294 (p5 + 1) K er o2 wc ∧ wc.heap[w.heap.size]? = some (.cells #[.int .i64 0, .slice none 0 0, emptyStr] 262))
  case first =>
    go_wp2_with fail
    go_loopw [7] (fun i wr => ∃ k : Nat, k ≤ K ∧ i = .int .i64 k ∧ RepI w pb p5 294 (p5 + 1) K er o2 k wr ∧ wr.heap[w.heap.size]? = some (.cells #[.int .i64 0, .slice none 0 0, emptyStr] 262)) (fun i _ => K - (intOf i).toNat)
    case atStart => exact ⟨0, Nat.zero_le _, rfl, I0.out, BZ4.out⟩
    case round =>
      obtain ⟨k, hkK, rfl, hI, hz⟩ := hrel
      have HZR := Lib.hid hz
      obtain ⟨hE, s, av, cv, vs, hS, hb5, hvl, hV, hs1, hs2⟩ := hI
      have ER := Lib.hid hE
      have SR := Lib.hid hS
      have B5R := Lib.hid hb5
      have VL := Lib.hid hvl
      have VR := Lib.hid hV
      clear hE hS hb5 hvl hV hz
      obtain ⟨csp, hbp⟩ := SR.out.blk
      cases s with
      | none =>
        have FE := Lib.hid (hs2 rfl)
        obtain ⟨lp, ap, cp, hp1, hp2⟩ := SR.out
        obtain ⟨b1, b2⟩ := blk hp1
        clear hs1 hs2 hp1 hp2 hbp
        have FIN : Hid (RepE w pb p5 294 (p5 + 1) K er o2 wr) := ⟨ER.out, none, av, cv, k, vs, SR.out, B5R.out, VL.out, VR.out, FE.out⟩
        go_wp2_with fail
        all_goals (go_meet; exact ⟨FIN.out, HZR.out⟩)
      | some lw =>
        obtain ⟨_, hs3⟩ := hs1 lw rfl
        by_cases hlt : k < K
        · have ST := Lib.hid (rep_step hlt hs3)
          obtain ⟨ap, cp, hp1, hp2⟩ := SR.out
          obtain ⟨b1, b2⟩ := blk hp1
          clear hs1 hs2 hp1 hp2 hs3
          have VOK := Lib.hid (val1S_ok (s := some lw) (fun l' hl => by cases hl; exact SR.out.u8 lw rfl))
          obtain ⟨hc0, hc1, _⟩ := countS_in (s := some lw) (fun l' hl => by cases hl; exact SR.out.u8 lw rfl)
          go_upto_region 8 with (go_at_call 182; refine (count182 SR.out).mono ?_; rintro e w5 ⟨rfl, h2, h3⟩; have S5 := Lib.hid h2; have M5 := Lib.hid h3; clear h2 h3)
          obtain ⟨s1, hs1d⟩ : ∃ s1, (countS (some lw)).2 = s1 := ⟨_, rfl⟩
          have VS : Hid (val1S (some lw) = if (countS (some lw)).1 = 0 then ((0, (signedS s1).1), (signedS s1).2) else (((countS (some lw)).1, 0), s1)) := by
            show _ = _
            subst hs1d
            rfl
          rw [hs1d] at S5
          have V5 := Lib.hid (VR.out.mod M5.out hbp (by decide))
          have B55 := Lib.hid (M5.out.keep B5R.out (by have := NE5.out; simp; omega))
          have Z5 := Lib.hid (M5.out.keep HZR.out (by have := HPB.out; simp; omega))
          have E5 := Lib.hid (Mod.ext_of_new ER.out M5.out (Nat.le_of_lt HPB.out))
          have L8 : Hid (p5 < w5.heap.size) := lt_of_block B55.out
          clear hs1d
          generalize (countS (some lw)).1 = hh at *
          have V6 := Lib.hid (V5.out.ext ((Ext.refl w5).alloc (.cells #[.int .u64 hh, .int .i64 0] 298)))
          have B56 := Lib.hid (keepB B55.out (.cells #[.int .u64 hh, .int .i64 0] 298))
          have Z6 := Lib.hid (keepB Z5.out (.cells #[.int .u64 hh, .int .i64 0] 298))
          have E6 := Lib.hid (E5.out.alloc (.cells #[.int .u64 hh, .int .i64 0] 298))
          have S6 := Lib.hid (S5.out.ext ((Ext.refl w5).alloc (.cells #[.int .u64 hh, .int .i64 0] 298)))
          have B86 := Lib.hid (newB w5 (.cells #[.int .u64 hh, .int .i64 0] 298) _ rfl)
          have V6b : Hid (∀ q, (Value.slice av k cv).ownBlock = some q → q < w5.heap.size) := fun q hq => (V5.out.row.lt q hq).2
          clear M5 V5 B55 Z5 E5 S5 b1 b2 hbp
          generalize w5.alloc (.cells #[.int .u64 hh, .int .i64 0] 298) = w6 at *
          generalize w5.heap.size = b8 at *
          obtain ⟨g1, g2⟩ := blk B86.out
          by_cases h0 : hh = 0
          · subst h0
            have VSS : Hid (val1S (some lw) = ((0, (signedS s1).1), (signedS s1).2)) := VS.out.trans (if_pos rfl)
            have VK0 := Lib.hid VOK.out.1
            have SK0 := Lib.hid ST.out
            rw [VSS.out] at VK0 SK0
            go_upto_region 10 with (go_at_call 205; refine (signed205 S6.out).mono ?_; rintro e w7 ⟨rfl, h2, h3⟩; have S7 := Lib.hid h2; have M7 := Lib.hid h3; have B87 := Lib.hid (h3.keep B86.out (by have := L8.out; have := NE5.out; simp; omega)); obtain ⟨g1, g2⟩ := blk B87.out; clear h2 h3)
            have NV := Lib.hid (fun q hq => (V6b.out q hq : q < b8))
            obtain ⟨csp6, hbp6⟩ := S6.out.blk
            have V7 := Lib.hid (V6.out.mod M7.out hbp6 (by decide))
            have VQ : Hid (ValsAt (w7.setCell ⟨b8, 1, none⟩ (.int .i64 (signedS s1).1)) (p5 + 1) (.slice av k cv) vs) := ⟨(mod_setCell w7 ⟨b8, 1, none⟩ _).row V7.out.row (fun q hq => by have := NV.out q hq; simp; omega), V7.out.ok⟩
            have B5Q := Lib.hid (keepS (a := ⟨b8, 1, none⟩) (M7.out.keep B56.out (by have := NE5.out; simp; omega)) (by have := L8.out; show p5 ≠ b8; omega) (.int .i64 (signedS s1).1))
            have ZQ := Lib.hid (keepS (a := ⟨b8, 1, none⟩) (M7.out.keep Z6.out (by have := HPB.out; simp; omega)) (by have := L8.out; have := W5.out; show w.heap.size ≠ b8; omega) (.int .i64 (signedS s1).1))
            have B8Q := Lib.hid (setB B87.out (i := 1) (.int .i64 (signedS s1).1))
            have EQ := Lib.hid ((Mod.ext_of_new E6.out M7.out (Nat.le_of_lt HPB.out)).setCell (p := ⟨b8, 1, none⟩) (by have := L8.out; have := W5.out; show w.heap.size ≤ b8; omega) (.int .i64 (signedS s1).1))
            have SQ := Lib.hid (S7.out.low (w' := w7.setCell ⟨b8, 1, none⟩ (.int .i64 (signedS s1).1)) (fun j hj => Below.heap_setCell _ _ _ _ (by have := L8.out; have := NE5.out; show j ≠ b8; omega)))
            have VK := VK0
            have SK := SK0
            clear hbp6 V7 S7 M7 B87 V6 B56 Z6 E6 S6 B86 g1 g2 VS VSS VK0 SK0 VOK ST NV V6b
            generalize w7.setCell ⟨b8, 1, none⟩ (.int .i64 (signedS s1).1) = wq at *
            generalize (signedS s1).1 = N at *
            generalize (signedS s1).2 = s2 at *
            have DN : Hid (∀ (a9 : Option Addr) (c9 : Nat) (w9 : World), w9.ownsRow (p5 + 1) 298 2 (.slice a9 (k + 1) c9) (k + 1) (valC vs ++ [.int .u64 0, .int .i64 N]) → (wq.alloc (.cells #[.int .u64 0, .int .i64 N] 298)).grownBy w9 (Value.slice av k cv).ownBlock → RepI w pb p5 294 (p5 + 1) K er o2 (k + 1) (w9.setCell ⟨p5, 1, none⟩ (.slice a9 (k + 1) c9)) ∧ (w9.setCell ⟨p5, 1, none⟩ (.slice a9 (k + 1) c9)).heap[w.heap.size]? = some (.cells #[.int .i64 0, .slice none 0 0, emptyStr] 262)) := fun a9 c9 w9 ho hg =>
              rep_push (x := (0, N)) EQ.out SQ.out B5Q.out ZQ.out VQ.out VL.out VK.out NE5.out HPB.out ho hg hlt SK.out
            have RQ : Hid (∀ W, Ext wq W → W.ownsRow (p5 + 1) 298 2 (.slice av k cv) k (valC vs)) := fun W hE => by have h7 := (VQ.out.ext hE).row; rwa [VL.out] at h7
            have KB : Hid (k ≤ 255) := by show k ≤ 255; omega
            have NEWS : Hid (∀ W : World, ∀ j u, [Value.int .u64 0, .int .i64 N][j]? = some u → (W.alloc (.cells #[.int .u64 0, .int .i64 N] 298)).cell? ((⟨W.heap.size, 0, none⟩ : Addr).add j) = some u) := fun W => (World.ownsRow_lit (base := 0) (e := 298) (size := 2) W #[.int .u64 0, .int .i64 N] 1 (Nat.zero_le _) (by unfold maxLen; omega) rfl).cells rfl
            have P5L : Hid (p5 + 1 ≤ wq.heap.size) := lt_of_block B5Q.out
            have LPB2 : Hid (pb < wq.heap.size) := SQ.out.lt
            obtain ⟨i298, hi, hz0, hz1, hz3⟩ := info_parts cinfo298
            obtain ⟨d1, d2⟩ := blk B5Q.out
            obtain ⟨d3, d4⟩ := blk B8Q.out
            go_wp2_with (at_builtin; (refine wpList_append_own _ rfl _ _ 260 rfl (p5 + 1) 298 i298 (.agg #[.int .u64 0, .int .i64 0]) 2 16 Tryz.underlying260 hi hz0 hz1 hz3 rfl (by decide) _ k (valC vs) rfl (RQ.out _ ((Ext.refl wq).alloc _)) ⟨wq.heap.size, 0, none⟩ 1 1 [.int .u64 0, .int .i64 N] rfl rfl (NEWS.out _) (by intro u hu; simp at hu; rcases hu with rfl | rfl <;> rfl) (by have := KB.out; unfold maxLen; omega) (by have := KB.out; omega) (by have := P5L.out; simp; omega) ?_; intro v9 w9 hown hgrow hnil2; obtain ⟨a9, c9, rfl, _⟩ := own_any hown; obtain ⟨m1, m2⟩ := blk ((VQ.out.ext ((Ext.refl wq).alloc (.cells #[.int .u64 0, .int .i64 N] 298))).keep hgrow (keepB B5Q.out _) (by decide)); have DD := Lib.hid (DN.out _ _ _ hown hgrow); clear hown hgrow hnil2 d1 d2 d3 d4))
            exact ⟨⟨k + 1, by omega, by go_num, DD.out.1, DD.out.2⟩, by simp [intOf]; omega⟩
          · have h0b : (hh == 0) = false := by simp [h0]
            have VSS : Hid (val1S (some lw) = ((hh, 0), s1)) := VS.out.trans (if_neg h0)
            have VK := Lib.hid VOK.out.1
            have SK := Lib.hid ST.out
            rw [VSS.out] at VK SK
            go_upto_region 10 with fail
            have VQ := V6
            have B5Q := B56
            have ZQ := Z6
            have B8Q := B86
            have EQ := E6
            have SQ := S6
            clear V6 B56 Z6 E6 S6 B86 g1 g2 VS VSS VOK ST V6b h0
            obtain ⟨wq, rfl⟩ : ∃ wq, wq = w6 := ⟨_, rfl⟩
            have DN : Hid (∀ (a9 : Option Addr) (c9 : Nat) (w9 : World), w9.ownsRow (p5 + 1) 298 2 (.slice a9 (k + 1) c9) (k + 1) (valC vs ++ [.int .u64 hh, .int .i64 0]) → (wq.alloc (.cells #[.int .u64 hh, .int .i64 0] 298)).grownBy w9 (Value.slice av k cv).ownBlock → RepI w pb p5 294 (p5 + 1) K er o2 (k + 1) (w9.setCell ⟨p5, 1, none⟩ (.slice a9 (k + 1) c9)) ∧ (w9.setCell ⟨p5, 1, none⟩ (.slice a9 (k + 1) c9)).heap[w.heap.size]? = some (.cells #[.int .i64 0, .slice none 0 0, emptyStr] 262)) := fun a9 c9 w9 ho hg =>
              rep_push (x := (hh, 0)) EQ.out SQ.out B5Q.out ZQ.out VQ.out VL.out VK.out NE5.out HPB.out ho hg hlt SK.out
            have RQ : Hid (∀ W, Ext wq W → W.ownsRow (p5 + 1) 298 2 (.slice av k cv) k (valC vs)) := fun W hE => by have h7 := (VQ.out.ext hE).row; rwa [VL.out] at h7
            have KB : Hid (k ≤ 255) := by show k ≤ 255; omega
            have NEWS : Hid (∀ W : World, ∀ j u, [Value.int .u64 hh, .int .i64 0][j]? = some u → (W.alloc (.cells #[.int .u64 hh, .int .i64 0] 298)).cell? ((⟨W.heap.size, 0, none⟩ : Addr).add j) = some u) := fun W => (World.ownsRow_lit (base := 0) (e := 298) (size := 2) W #[.int .u64 hh, .int .i64 0] 1 (Nat.zero_le _) (by unfold maxLen; omega) rfl).cells rfl
            have P5L : Hid (p5 + 1 ≤ wq.heap.size) := lt_of_block B5Q.out
            have LPB2 : Hid (pb < wq.heap.size) := SQ.out.lt
            obtain ⟨i298, hi, hz0, hz1, hz3⟩ := info_parts cinfo298
            obtain ⟨d1, d2⟩ := blk B5Q.out
            obtain ⟨d3, d4⟩ := blk B8Q.out
            go_wp2_with (at_builtin; (refine wpList_append_own _ rfl _ _ 260 rfl (p5 + 1) 298 i298 (.agg #[.int .u64 0, .int .i64 0]) 2 16 Tryz.underlying260 hi hz0 hz1 hz3 rfl (by decide) _ k (valC vs) rfl (RQ.out _ ((Ext.refl wq).alloc _)) ⟨wq.heap.size, 0, none⟩ 1 1 [.int .u64 hh, .int .i64 0] rfl rfl (NEWS.out _) (by intro u hu; simp at hu; rcases hu with rfl | rfl <;> rfl) (by have := KB.out; unfold maxLen; omega) (by have := KB.out; omega) (by have := P5L.out; simp; omega) ?_; intro v9 w9 hown hgrow hnil2; obtain ⟨a9, c9, rfl, _⟩ := own_any hown; obtain ⟨m1, m2⟩ := blk ((VQ.out.ext ((Ext.refl wq).alloc (.cells #[.int .u64 hh, .int .i64 0] 298))).keep hgrow (keepB B5Q.out _) (by decide)); have DD := Lib.hid (DN.out _ _ _ hown hgrow); clear hown hgrow hnil2 d1 d2 d3 d4))
            exact ⟨⟨k + 1, by omega, by go_num, DD.out.1, DD.out.2⟩, by simp [intOf]; omega⟩
        · obtain rfl : k = K := by omega
          obtain ⟨ap, cp, hp1, hp2⟩ := SR.out
          obtain ⟨b1, b2⟩ := blk hp1
          have FIN : Hid (RepE w pb p5 294 (p5 + 1) k er o2 wr) := ⟨ER.out, some lw, av, cv, k, vs, SR.out, B5R.out, VL.out, VR.out, by rw [hs3, Nat.sub_self, valsOn_zero]; simp⟩
          clear hs1 hs2 hp1 hp2 hs3 hbp
          go_wp2_with fail
          all_goals (go_meet; exact ⟨FIN.out, HZR.out⟩)
  case rest =>
    obtain ⟨⟨hE, s, av, cv, k, vs, hS, hb5, hvl, hV, hfin⟩, hz⟩ := hcut
    have ZC := Lib.hid hz
    have EC := Lib.hid hE
    have SC := Lib.hid hS
    have B5C := Lib.hid hb5
    have VL := Lib.hid hvl
    have VC := Lib.hid hV
    have FIN : Hid (∀ er2 : Int, (er2 = 0 ↔ vs.length ≤ 32 ∧ plen er vs (strOfNums (textS s).1).size ≤ 1024) → ((er2 = 0 ∧ (textS s).2 = some []) ↔ replyP l = true)) := fun er2 hp => rep_final HU8.out RP0.out RP1.out hfin (by rw [← strOfNums_size]; exact hp)
    have TS : Hid ((strOfNums (textS s).1).size ≤ 512) := by show _ ≤ _; rw [strOfNums_size]; exact textS_len s
    obtain ⟨d1, d2⟩ := blk hb5
    clear hE hS hb5 hvl hz hfin
    obtain ⟨csp, hbp⟩ := SC.out.blk
    go_upto_region 12 with (go_at_call 206; refine (text206 SC.out).mono ?_; rintro e w5 ⟨rfl, h2, h3⟩; have S5 := Lib.hid h2; have V5 := Lib.hid (hV.mod h3 hbp (by decide)); have M5 := Lib.hid h3; have B55 := Lib.hid (h3.keep B5C.out (by have := NE5.out; simp; omega)); obtain ⟨m1, m2⟩ := blk B55.out; clear h2 h3)
    have E5 := Lib.hid (Mod.ext_of_new EC.out M5.out (Nat.le_of_lt HPB.out))
    have Z5 := Lib.hid (M5.out.keep ZC.out (by have := HPB.out; simp; omega))
    generalize hstr : strOfNums (textS s).1 = str at *
    have V6 : Hid (ValsAt (w5.setCell ⟨p5, 2, none⟩ (.string str)) (p5 + 1) (.slice av k cv) vs) := ⟨(mod_setCell w5 ⟨p5, 2, none⟩ _).row V5.out.row (fun q hq => by have := (V5.out.row.lt q hq).1; simp; omega), V5.out.ok⟩
    have B56 := Lib.hid (setB B55.out (i := 2) (.string str))
    have Z6 := Lib.hid (keepS (a := ⟨p5, 2, none⟩) Z5.out (by have := W5.out; show w.heap.size ≠ p5; omega) (.string str))
    have E6 := Lib.hid (E5.out.setCell (p := ⟨p5, 2, none⟩) (Nat.le_of_lt W5.out) (.string str))
    have S6 := Lib.hid (S5.out.low (w' := w5.setCell ⟨p5, 2, none⟩ (.string str)) (fun j hj => Below.heap_setCell _ _ _ _ (by have := NE5.out; show j ≠ p5; omega)))
    have PR := Lib.hid (PutReply207_any er av k cv vs str V6.out VL.out TS.out er0 er1)
    clear hstr m1 m2 B55 Z5 E5 S5 V5 M5 hbp d1 d2
    generalize w5.setCell ⟨p5, 2, none⟩ (.string str) = w6 at *
    obtain ⟨m1, m2⟩ := blk B56.out
    go_upto_region 13 with (go_at_call 207; refine PR.out.mono ?_; rintro e w7 ⟨v7, e7, rfl, hE7, hi7⟩; have FI := Lib.hid (FIN.out e7 hi7); have B57 := Lib.hid (hE7.keep B56.out); have Z7 := Lib.hid (hE7.keep Z6.out); have S7 := Lib.hid (S6.out.ext hE7); have E7 := Lib.hid (E6.out.trans hE7); clear hE7 hi7 m1 m2)
    clear FIN PR S6 E6 Z6 B56
    generalize (textS s).2 = sF at *
    obtain ⟨n1, n2⟩ := blk B57.out
    obtain ⟨n3, n4⟩ := blk Z7.out
    by_cases he : e7 = 0
    · subst he
      obtain ⟨lf, bad, hrd, hf1, hf2⟩ := S7.out.open
      have DN := Lib.hid (done208 hrd)
      have HF : Hid ((if bad then none else some lf) = sF) := by
        cases bad with
        | true => exact (hf2 rfl).symm
        | false => exact (hf1 rfl).symm
      clear hrd hf1 hf2
      by_cases hd : sF = some []
      · have DT : Hid (decide ((if bad then none else some lf) = some []) = true) := by show _ = _; rw [HF.out, hd]; rfl
        have RT : Hid (replyP l = true) := FI.out.1 ⟨rfl, hd⟩
        clear hd
        go_wp2_with (go_at_call 208; refine DN.out.mono ?_; rintro e w8 ⟨rfl, rfl⟩; rw [DT.out])
        (try simp only [Exit.inBlock, Exit.then])
        refine bodyPost_ret (v := .tuple #[.agg #[.int .i64 er, .slice av k cv, .string str], .int .i64 0]) ?_ rfl ⟨_, _, _, _, _, 0, rfl, ?_, ?_⟩
        · rw [results_cell_tmp rfl]
          go_simp
        · repeat' (first | exact E7.out | exact Ext.refl _ | refine Ext.setCell ?_ (Nat.le_refl _) _ | refine Ext.alloc ?_ _)
        · exact ⟨fun _ => RT.out, fun _ => rfl⟩
      · have DT : Hid (decide ((if bad then none else some lf) = some []) = false) := by show _ = _; rw [HF.out]; simp [hd]
        have RT : Hid (¬ replyP l = true) := fun h => hd (FI.out.2 h).2
        clear hd
        go_wp2_with (go_at_call 208; refine DN.out.mono ?_; rintro e w8 ⟨rfl, rfl⟩; rw [DT.out])
        (try simp only [Exit.inBlock, Exit.then])
        refine bodyPost_ret (v := .tuple #[.agg #[.int .i64 0, .slice none 0 0, emptyStr], .int .i64 173]) ?_ rfl ⟨_, _, _, _, _, 173, rfl, ?_, ?_⟩
        · rw [results_cell_tmp rfl]
          go_simp
        · repeat' (first | exact E7.out | exact Ext.refl _ | refine Ext.setCell ?_ (Nat.le_refl _) _ | refine Ext.alloc ?_ _)
        · exact ⟨fun h => (by cases h), fun h => absurd h RT.out⟩
    · have RT : Hid (¬ replyP l = true) := fun h => he (FI.out.2 h).1
      have heb : (e7 != 0) = true := by simp [he]
      clear he
      go_wp2_with fail
      (try simp only [Exit.inBlock, Exit.then])
      refine bodyPost_ret (v := .tuple #[.agg #[.int .i64 0, .slice none 0 0, emptyStr], .int .i64 173]) ?_ rfl ⟨_, _, _, _, _, 173, rfl, ?_, ?_⟩
      · rw [results_cell_tmp rfl]
        go_simp
      · repeat' (first | exact E7.out | exact Ext.refl _ | refine Ext.setCell ?_ (Nat.le_refl _) _ | refine Ext.alloc ?_ _)
      · exact ⟨fun h => (by cases h), fun h => absurd h RT.out⟩
end Go.Proofs.Eff

/- The document's GetReply. -/
namespace Go.Proofs.Eff
open Go.RowKit

theorem rep_final0 {l : List Int} {o2 s : Option (List Int)} {K : Nat} {er : Int} {vs : List (Int × Int)} (RP0 : o2 = none → replyG l = none)
    (RP1 : ∀ l2, o2 = some l2 → replyG l = match valsOn K (some l2) with
      | none => none
      | some (vs, l3) => if (textS (some l3)).2 = some [] then some (er, vs, (textS (some l3)).1.length) else none)
    (hfin : o2.bind (fun l => valsOn K (some l)) = s.map fun l' => (vs, l')) (hd : ¬ (textS s).2 = some []) : replyP l = false := by
  cases o2 with
  | none =>
    unfold replyP
    rw [RP0 rfl]
  | some l2 =>
    have h1 := RP1 l2 rfl
    simp only [Option.bind_some] at hfin
    rw [hfin] at h1
    cases s with
    | none =>
      simp only [Option.map_none] at h1
      unfold replyP
      rw [h1]
    | some l3 =>
      simp only [Option.map_some] at h1
      rw [if_neg hd] at h1
      unfold replyP
      rw [h1]
theorem rep_final2 {l : List Int} {o2 s : Option (List Int)} {K : Nat} {er : Int} {vs : List (Int × Int)} (_RP0 : o2 = none → replyG l = none)
    (RP1 : ∀ l2, o2 = some l2 → replyG l = match valsOn K (some l2) with
      | none => none
      | some (vs, l3) => if (textS (some l3)).2 = some [] then some (er, vs, (textS (some l3)).1.length) else none)
    (hfin : o2.bind (fun l => valsOn K (some l)) = s.map fun l' => (vs, l')) (hd : (textS s).2 = some []) : replyP l = (decide (l.length ≤ 1024) && decide (vs.length ≤ 32)) := by
  cases s with
  | none => simp [textS, countS] at hd
  | some l3 =>
    cases o2 with
    | none => simp at hfin
    | some l2 =>
      have h1 := RP1 l2 rfl
      simp only [Option.bind_some] at hfin
      rw [hfin] at h1
      simp only [Option.map_some] at h1
      rw [if_pos hd] at h1
      unfold replyP
      rw [h1]
set_option maxRecDepth 100000 in
set_option maxHeartbeats 8000000 in
theorem GetReply147 {w : World} {top : Nat} {a : Option Addr} {c : Nat} {l : List Int} (h : BU w top a c l) (ht : top ≤ w.heap.size) :
    Calls Tryz.prog 147 #[.slice a l.length c] w fun e w' => (∃ k a n c t, e = .returned (.tuple #[.agg #[.int .i64 k, .slice a n c, .string t], .bool (replyP l)])) ∧ Ext w w' := by
  have BZ := Lib.hid (newB w (.cells #[.int .i64 0, .slice none 0 0, emptyStr] 262) _ rfl)
  have E0 := Lib.hid (((Ext.refl w).alloc (.cells #[.int .i64 0, .slice none 0 0, emptyStr] 262)).alloc (.cells #[.slice a l.length c, .bool false] 257))
  have BZ1 := Lib.hid (keepB BZ.out (.cells #[.slice a l.length c, .bool false] 257))
  have RD0 : Hid (Rd ((w.alloc (.cells #[.int .i64 0, .slice none 0 0, emptyStr] 262)).alloc (.cells #[.slice a l.length c, .bool false] 257)) (w.heap.size + 1) 257 (some l)) :=
    ⟨a, c, newB _ _ _ (by simp), (h.ext E0.out ht).up (by omega)⟩
  have HU8 := Lib.hid h.u8
  clear h
  go_enter Tryz.func147, Tryz.ntmps147
  go_upto_region 2 with fail
  have HPB : Hid (w.heap.size < w.heap.size + 1) := Nat.lt_succ_self _
  generalize (w.alloc (.cells #[.int .i64 0, .slice none 0 0, emptyStr] 262)).alloc (.cells #[.slice a l.length c, .bool false] 257) = w1 at *
  go_upto_region 3 with (go_at_call 189; refine (signed189 RD0.out).mono ?_; rintro e w2 ⟨rfl, h2, h3⟩; have S2 := Lib.hid h2; have M2 := Lib.hid h3; clear h2 h3)
  generalize w.heap.size + 1 = pb at *
  have REP : Hid (replyG l = match (signedS (some l)).2 with
    | none => none
    | some [] => none
    | some (k :: l2) => match valsOn k.toNat (some l2) with
      | none => none
      | some (vs, l3) => if (textS (some l3)).2 = some [] then some ((signedS (some l)).1, vs, (textS (some l3)).1.length) else none) := replyG_eq HU8.out
  obtain ⟨er0, er1, _⟩ := signedS_in (s := some l) (fun l' hl => by cases hl; exact HU8.out)
  have E2 := Lib.hid (Mod.ext_of_new E0.out M2.out (Nat.le_of_lt HPB.out))
  have BZ2 := Lib.hid (M2.out.keep BZ1.out (by have := HPB.out; simp; omega))
  generalize (signedS (some l)).1 = er at *
  generalize (signedS (some l)).2 = st1 at *
  have LPB : Hid (pb < w2.heap.size) := S2.out.lt
  have S3 := Lib.hid (S2.out.ext ((Ext.refl w2).alloc (.cells #[.int .i64 er, .slice none 0 0, emptyStr] 262)))
  have B5 := Lib.hid (newB w2 (.cells #[.int .i64 er, .slice none 0 0, emptyStr] 262) _ rfl)
  have E3 := Lib.hid (E2.out.alloc (.cells #[.int .i64 er, .slice none 0 0, emptyStr] 262))
  have BZ3 := Lib.hid (keepB BZ2.out (.cells #[.int .i64 er, .slice none 0 0, emptyStr] 262))
  generalize w2.alloc (.cells #[.int .i64 er, .slice none 0 0, emptyStr] 262) = w3 at *
  generalize w2.heap.size = p5 at *
  clear BZ E0 BZ1 RD0 S2 M2 E2 BZ2
  obtain ⟨l1, bad1, hrd, hst1, hst2⟩ := S3.out.open
  have HB := Lib.hid (byte144 hrd)
  have HS1 := Lib.hid hst1
  have HS2 := Lib.hid hst2
  clear hrd hst1 hst2 S3
  go_upto_block 0 with (go_at_call 144; refine HB.out.mono ?_; rintro e w4 ⟨x, l', bad', rfl, x0, x1, h2, h3, h4, h5⟩; obtain ⟨o2, ho2, hoS, hoN⟩ : ∃ o2, Rd w4 pb 257 o2 ∧ (∀ l2, o2 = some l2 → st1 = some (x :: l2)) ∧ (o2 = none → st1 = none ∨ st1 = some []) := (by
      refine ⟨if bad' then none else some l', h2.close, fun l2 h6 => ?_, fun h6 => ?_⟩
      · cases bad' with
        | true => simp at h6
        | false =>
          simp only [Bool.false_eq_true, if_false, Option.some.injEq] at h6
          subst h6
          cases l1 with
          | nil => have := (h5 rfl).2; cases this
          | cons y r =>
            obtain ⟨a1, a2, a3⟩ := h4 y r rfl
            subst a1; subst a2
            exact HS1.out a3.symm
      · cases bad' with
        | false => simp at h6
        | true =>
          cases bad1 with
          | true => exact .inl (HS2.out rfl)
          | false =>
            cases l1 with
            | nil => exact .inr (HS1.out rfl)
            | cons y r => have := (h4 y r rfl).2.2; cases this); have S4 := Lib.hid ho2; have M4 := Lib.hid h3; have OS := Lib.hid hoS; have ON := Lib.hid hoN; clear h2 h3 h4 h5 ho2 hoS hoN)
  obtain ⟨K, rfl⟩ : ∃ K : Nat, x = (K : Int) := ⟨x.toNat, by omega⟩
  have RP1 : Hid (∀ l2, o2 = some l2 → replyG l = match valsOn K (some l2) with
      | none => none
      | some (vs, l3) => if (textS (some l3)).2 = some [] then some (er, vs, (textS (some l3)).1.length) else none) := fun l2 h => by
    rw [REP.out, OS.out l2 h]
    rfl
  have RP0 : Hid (o2 = none → replyG l = none) := fun h => by
    rw [REP.out]
    rcases ON.out h with h | h <;> rw [h]
  have NE5 : Hid (pb < p5) := LPB.out
  have B54 := Lib.hid (M4.out.keep B5.out (by have := NE5.out; simp; omega))
  have BZ4 := Lib.hid (M4.out.keep BZ3.out (by have := HPB.out; simp; omega))
  have E4 := Lib.hid (Mod.ext_of_new E3.out M4.out (Nat.le_of_lt HPB.out))
  have HP5 : Hid (p5 < w4.heap.size) := lt_of_block B54.out
  clear REP OS ON B5 BZ3 E3 M4 HS1 HS2 HB LPB
  have W5 : Hid (w.heap.size < p5) := Nat.lt_trans HPB.out NE5.out
  have I0 : Hid (RepI w pb p5 257 (p5 + 1) K er o2 0 w4) := ⟨E4.out, o2, none, 0, [], S4.out, B54.out, rfl, ⟨⟨rfl, .inl ⟨rfl, rfl⟩⟩, fun _ h => (by cases h)⟩, fun l' hl => ⟨Nat.zero_le _, by subst hl; simp⟩, fun hl => by subst hl; rfl⟩
  go_cut [6, 7] from 16 to 41 (fun _ _ wc => RepE w pb p5 257 (p5 + 1) K er o2 wc ∧ wc.heap[w.heap.size]? = some (.cells #[.int .i64 0, .slice none 0 0, emptyStr] 262))
  case first =>
    go_wp2_with fail
    go_loopw [6] (fun i wr => ∃ k : Nat, k ≤ K ∧ i = .int .i64 ((K : Int) - (k : Int)) ∧ RepI w pb p5 257 (p5 + 1) K er o2 k wr ∧ wr.heap[w.heap.size]? = some (.cells #[.int .i64 0, .slice none 0 0, emptyStr] 262)) (fun i _ => (intOf i).toNat)
    case atStart => exact ⟨0, Nat.zero_le _, by simp, I0.out, BZ4.out⟩
    case round =>
      obtain ⟨k, hkK, rfl, hI, hz⟩ := hrel
      have HZR := Lib.hid hz
      obtain ⟨hE, s, av, cv, vs, hS, hb5, hvl, hV, hs1, hs2⟩ := hI
      have ER := Lib.hid hE
      have SR := Lib.hid hS
      have B5R := Lib.hid hb5
      have VL := Lib.hid hvl
      have VR := Lib.hid hV
      clear hE hS hb5 hvl hV hz
      obtain ⟨csp, hbp⟩ := SR.out.blk
      cases s with
      | none =>
        have FE := Lib.hid (hs2 rfl)
        obtain ⟨lp, ap, cp, hp1, hp2⟩ := SR.out
        obtain ⟨b1, b2⟩ := blk hp1
        clear hs1 hs2 hp1 hp2 hbp
        have FIN : Hid (RepE w pb p5 257 (p5 + 1) K er o2 wr) := ⟨ER.out, none, av, cv, k, vs, SR.out, B5R.out, VL.out, VR.out, FE.out⟩
        go_wp2_with fail
        all_goals (go_meet; exact ⟨FIN.out, HZR.out⟩)
      | some lw =>
        obtain ⟨_, hs3⟩ := hs1 lw rfl
        by_cases hlt : k < K
        · have ST := Lib.hid (rep_step hlt hs3)
          obtain ⟨ap, cp, hp1, hp2⟩ := SR.out
          obtain ⟨b1, b2⟩ := blk hp1
          clear hs1 hs2 hp1 hp2 hs3
          have VOK := Lib.hid (val1S_ok (s := some lw) (fun l' hl => by cases hl; exact SR.out.u8 lw rfl))
          obtain ⟨hc0, hc1, _⟩ := countS_in (s := some lw) (fun l' hl => by cases hl; exact SR.out.u8 lw rfl)
          go_upto_region 7 with (go_at_call 145; refine (count145 SR.out).mono ?_; rintro e w5 ⟨rfl, h2, h3⟩; have S5 := Lib.hid h2; have M5 := Lib.hid h3; clear h2 h3)
          obtain ⟨s1, hs1d⟩ : ∃ s1, (countS (some lw)).2 = s1 := ⟨_, rfl⟩
          have VS : Hid (val1S (some lw) = if (countS (some lw)).1 = 0 then ((0, (signedS s1).1), (signedS s1).2) else (((countS (some lw)).1, 0), s1)) := by
            show _ = _
            subst hs1d
            rfl
          rw [hs1d] at S5
          have V5 := Lib.hid (VR.out.mod M5.out hbp (by decide))
          have B55 := Lib.hid (M5.out.keep B5R.out (by have := NE5.out; simp; omega))
          have Z5 := Lib.hid (M5.out.keep HZR.out (by have := HPB.out; simp; omega))
          have E5 := Lib.hid (Mod.ext_of_new ER.out M5.out (Nat.le_of_lt HPB.out))
          have L8 : Hid (p5 < w5.heap.size) := lt_of_block B55.out
          clear hs1d
          generalize (countS (some lw)).1 = hh at *
          have V6 := Lib.hid (V5.out.ext ((Ext.refl w5).alloc (.cells #[.int .u64 hh, .int .i64 0] 298)))
          have B56 := Lib.hid (keepB B55.out (.cells #[.int .u64 hh, .int .i64 0] 298))
          have Z6 := Lib.hid (keepB Z5.out (.cells #[.int .u64 hh, .int .i64 0] 298))
          have E6 := Lib.hid (E5.out.alloc (.cells #[.int .u64 hh, .int .i64 0] 298))
          have S6 := Lib.hid (S5.out.ext ((Ext.refl w5).alloc (.cells #[.int .u64 hh, .int .i64 0] 298)))
          have B86 := Lib.hid (newB w5 (.cells #[.int .u64 hh, .int .i64 0] 298) _ rfl)
          have V6b : Hid (∀ q, (Value.slice av k cv).ownBlock = some q → q < w5.heap.size) := fun q hq => (V5.out.row.lt q hq).2
          clear M5 V5 B55 Z5 E5 S5 b1 b2 hbp
          generalize w5.alloc (.cells #[.int .u64 hh, .int .i64 0] 298) = w6 at *
          generalize w5.heap.size = b8 at *
          obtain ⟨g1, g2⟩ := blk B86.out
          by_cases h0 : hh = 0
          · subst h0
            have VSS : Hid (val1S (some lw) = ((0, (signedS s1).1), (signedS s1).2)) := VS.out.trans (if_pos rfl)
            have VK0 := Lib.hid VOK.out.1
            have SK0 := Lib.hid ST.out
            rw [VSS.out] at VK0 SK0
            go_upto_region 9 with (go_at_call 189; refine (signed189 S6.out).mono ?_; rintro e w7 ⟨rfl, h2, h3⟩; have S7 := Lib.hid h2; have M7 := Lib.hid h3; have B87 := Lib.hid (h3.keep B86.out (by have := L8.out; have := NE5.out; simp; omega)); obtain ⟨g1, g2⟩ := blk B87.out; clear h2 h3)
            have NV := Lib.hid (fun q hq => (V6b.out q hq : q < b8))
            obtain ⟨csp6, hbp6⟩ := S6.out.blk
            have V7 := Lib.hid (V6.out.mod M7.out hbp6 (by decide))
            have VQ : Hid (ValsAt (w7.setCell ⟨b8, 1, none⟩ (.int .i64 (signedS s1).1)) (p5 + 1) (.slice av k cv) vs) := ⟨(mod_setCell w7 ⟨b8, 1, none⟩ _).row V7.out.row (fun q hq => by have := NV.out q hq; simp; omega), V7.out.ok⟩
            have B5Q := Lib.hid (keepS (a := ⟨b8, 1, none⟩) (M7.out.keep B56.out (by have := NE5.out; simp; omega)) (by have := L8.out; show p5 ≠ b8; omega) (.int .i64 (signedS s1).1))
            have ZQ := Lib.hid (keepS (a := ⟨b8, 1, none⟩) (M7.out.keep Z6.out (by have := HPB.out; simp; omega)) (by have := L8.out; have := W5.out; show w.heap.size ≠ b8; omega) (.int .i64 (signedS s1).1))
            have B8Q := Lib.hid (setB B87.out (i := 1) (.int .i64 (signedS s1).1))
            have EQ := Lib.hid ((Mod.ext_of_new E6.out M7.out (Nat.le_of_lt HPB.out)).setCell (p := ⟨b8, 1, none⟩) (by have := L8.out; have := W5.out; show w.heap.size ≤ b8; omega) (.int .i64 (signedS s1).1))
            have SQ := Lib.hid (S7.out.low (w' := w7.setCell ⟨b8, 1, none⟩ (.int .i64 (signedS s1).1)) (fun j hj => Below.heap_setCell _ _ _ _ (by have := L8.out; have := NE5.out; show j ≠ b8; omega)))
            have VK := VK0
            have SK := SK0
            clear hbp6 V7 S7 M7 B87 V6 B56 Z6 E6 S6 B86 g1 g2 VS VSS VK0 SK0 VOK ST NV V6b
            generalize w7.setCell ⟨b8, 1, none⟩ (.int .i64 (signedS s1).1) = wq at *
            generalize (signedS s1).1 = N at *
            generalize (signedS s1).2 = s2 at *
            have DN : Hid (∀ (a9 : Option Addr) (c9 : Nat) (w9 : World), w9.ownsRow (p5 + 1) 298 2 (.slice a9 (k + 1) c9) (k + 1) (valC vs ++ [.int .u64 0, .int .i64 N]) → (wq.alloc (.cells #[.int .u64 0, .int .i64 N] 298)).grownBy w9 (Value.slice av k cv).ownBlock → RepI w pb p5 257 (p5 + 1) K er o2 (k + 1) (w9.setCell ⟨p5, 1, none⟩ (.slice a9 (k + 1) c9)) ∧ (w9.setCell ⟨p5, 1, none⟩ (.slice a9 (k + 1) c9)).heap[w.heap.size]? = some (.cells #[.int .i64 0, .slice none 0 0, emptyStr] 262)) := fun a9 c9 w9 ho hg =>
              rep_push (x := (0, N)) EQ.out SQ.out B5Q.out ZQ.out VQ.out VL.out VK.out NE5.out HPB.out ho hg hlt SK.out
            have RQ : Hid (∀ W, Ext wq W → W.ownsRow (p5 + 1) 298 2 (.slice av k cv) k (valC vs)) := fun W hE => by have h7 := (VQ.out.ext hE).row; rwa [VL.out] at h7
            have KB : Hid (k ≤ 255) := by show k ≤ 255; omega
            have NEWS : Hid (∀ W : World, ∀ j u, [Value.int .u64 0, .int .i64 N][j]? = some u → (W.alloc (.cells #[.int .u64 0, .int .i64 N] 298)).cell? ((⟨W.heap.size, 0, none⟩ : Addr).add j) = some u) := fun W => (World.ownsRow_lit (base := 0) (e := 298) (size := 2) W #[.int .u64 0, .int .i64 N] 1 (Nat.zero_le _) (by unfold maxLen; omega) rfl).cells rfl
            have P5L : Hid (p5 + 1 ≤ wq.heap.size) := lt_of_block B5Q.out
            have LPB2 : Hid (pb < wq.heap.size) := SQ.out.lt
            obtain ⟨i298, hi, hz0, hz1, hz3⟩ := info_parts cinfo298
            obtain ⟨d1, d2⟩ := blk B5Q.out
            obtain ⟨d3, d4⟩ := blk B8Q.out
            go_wp2_with (at_builtin; (refine wpList_append_own _ rfl _ _ 260 rfl (p5 + 1) 298 i298 (.agg #[.int .u64 0, .int .i64 0]) 2 16 Tryz.underlying260 hi hz0 hz1 hz3 rfl (by decide) _ k (valC vs) rfl (RQ.out _ ((Ext.refl wq).alloc _)) ⟨wq.heap.size, 0, none⟩ 1 1 [.int .u64 0, .int .i64 N] rfl rfl (NEWS.out _) (by intro u hu; simp at hu; rcases hu with rfl | rfl <;> rfl) (by have := KB.out; unfold maxLen; omega) (by have := KB.out; omega) (by have := P5L.out; simp; omega) ?_; intro v9 w9 hown hgrow hnil2; obtain ⟨a9, c9, rfl, _⟩ := own_any hown; obtain ⟨m1, m2⟩ := blk ((VQ.out.ext ((Ext.refl wq).alloc (.cells #[.int .u64 0, .int .i64 N] 298))).keep hgrow (keepB B5Q.out _) (by decide)); have DD := Lib.hid (DN.out _ _ _ hown hgrow); clear hown hgrow hnil2 d1 d2 d3 d4))
            exact ⟨⟨k + 1, by omega, by simp only [Value.int.injEq, true_and]; omega, DD.out.1, DD.out.2⟩, by simp only [intOf]; omega⟩
          · have h0b : (hh == 0) = false := by simp [h0]
            have VSS : Hid (val1S (some lw) = ((hh, 0), s1)) := VS.out.trans (if_neg h0)
            have VK := Lib.hid VOK.out.1
            have SK := Lib.hid ST.out
            rw [VSS.out] at VK SK
            go_upto_region 9 with fail
            have VQ := V6
            have B5Q := B56
            have ZQ := Z6
            have B8Q := B86
            have EQ := E6
            have SQ := S6
            clear V6 B56 Z6 E6 S6 B86 g1 g2 VS VSS VOK ST V6b h0
            obtain ⟨wq, rfl⟩ : ∃ wq, wq = w6 := ⟨_, rfl⟩
            have DN : Hid (∀ (a9 : Option Addr) (c9 : Nat) (w9 : World), w9.ownsRow (p5 + 1) 298 2 (.slice a9 (k + 1) c9) (k + 1) (valC vs ++ [.int .u64 hh, .int .i64 0]) → (wq.alloc (.cells #[.int .u64 hh, .int .i64 0] 298)).grownBy w9 (Value.slice av k cv).ownBlock → RepI w pb p5 257 (p5 + 1) K er o2 (k + 1) (w9.setCell ⟨p5, 1, none⟩ (.slice a9 (k + 1) c9)) ∧ (w9.setCell ⟨p5, 1, none⟩ (.slice a9 (k + 1) c9)).heap[w.heap.size]? = some (.cells #[.int .i64 0, .slice none 0 0, emptyStr] 262)) := fun a9 c9 w9 ho hg =>
              rep_push (x := (hh, 0)) EQ.out SQ.out B5Q.out ZQ.out VQ.out VL.out VK.out NE5.out HPB.out ho hg hlt SK.out
            have RQ : Hid (∀ W, Ext wq W → W.ownsRow (p5 + 1) 298 2 (.slice av k cv) k (valC vs)) := fun W hE => by have h7 := (VQ.out.ext hE).row; rwa [VL.out] at h7
            have KB : Hid (k ≤ 255) := by show k ≤ 255; omega
            have NEWS : Hid (∀ W : World, ∀ j u, [Value.int .u64 hh, .int .i64 0][j]? = some u → (W.alloc (.cells #[.int .u64 hh, .int .i64 0] 298)).cell? ((⟨W.heap.size, 0, none⟩ : Addr).add j) = some u) := fun W => (World.ownsRow_lit (base := 0) (e := 298) (size := 2) W #[.int .u64 hh, .int .i64 0] 1 (Nat.zero_le _) (by unfold maxLen; omega) rfl).cells rfl
            have P5L : Hid (p5 + 1 ≤ wq.heap.size) := lt_of_block B5Q.out
            have LPB2 : Hid (pb < wq.heap.size) := SQ.out.lt
            obtain ⟨i298, hi, hz0, hz1, hz3⟩ := info_parts cinfo298
            obtain ⟨d1, d2⟩ := blk B5Q.out
            obtain ⟨d3, d4⟩ := blk B8Q.out
            go_wp2_with (at_builtin; (refine wpList_append_own _ rfl _ _ 260 rfl (p5 + 1) 298 i298 (.agg #[.int .u64 0, .int .i64 0]) 2 16 Tryz.underlying260 hi hz0 hz1 hz3 rfl (by decide) _ k (valC vs) rfl (RQ.out _ ((Ext.refl wq).alloc _)) ⟨wq.heap.size, 0, none⟩ 1 1 [.int .u64 hh, .int .i64 0] rfl rfl (NEWS.out _) (by intro u hu; simp at hu; rcases hu with rfl | rfl <;> rfl) (by have := KB.out; unfold maxLen; omega) (by have := KB.out; omega) (by have := P5L.out; simp; omega) ?_; intro v9 w9 hown hgrow hnil2; obtain ⟨a9, c9, rfl, _⟩ := own_any hown; obtain ⟨m1, m2⟩ := blk ((VQ.out.ext ((Ext.refl wq).alloc (.cells #[.int .u64 hh, .int .i64 0] 298))).keep hgrow (keepB B5Q.out _) (by decide)); have DD := Lib.hid (DN.out _ _ _ hown hgrow); clear hown hgrow hnil2 d1 d2 d3 d4))
            exact ⟨⟨k + 1, by omega, by simp only [Value.int.injEq, true_and]; omega, DD.out.1, DD.out.2⟩, by simp only [intOf]; omega⟩
        · obtain rfl : k = K := by omega
          obtain ⟨ap, cp, hp1, hp2⟩ := SR.out
          obtain ⟨b1, b2⟩ := blk hp1
          have FIN : Hid (RepE w pb p5 257 (p5 + 1) k er o2 wr) := ⟨ER.out, some lw, av, cv, k, vs, SR.out, B5R.out, VL.out, VR.out, by rw [hs3, Nat.sub_self, valsOn_zero]; simp⟩
          clear hs1 hs2 hp1 hp2 hs3 hbp
          go_wp2_with fail
          all_goals (go_meet; exact ⟨FIN.out, HZR.out⟩)
  case rest =>
    obtain ⟨⟨hE, s, av, cv, k, vs, hS, hb5, hvl, hV, hfin⟩, hz⟩ := hcut
    have ZC := Lib.hid hz
    have EC := Lib.hid hE
    have SC := Lib.hid hS
    have B5C := Lib.hid hb5
    have VL := Lib.hid hvl
    have VC := Lib.hid hV
    have FIN1 : Hid ((textS s).2 = some [] → replyP l = (decide (l.length ≤ 1024) && decide (vs.length ≤ 32))) := fun hd => rep_final2 RP0.out RP1.out hfin hd
    have FIN0 : Hid (¬ (textS s).2 = some [] → replyP l = false) := fun hd => rep_final0 RP0.out RP1.out hfin hd
    obtain ⟨d1, d2⟩ := blk hb5
    clear hE hS hb5 hvl hz hfin
    obtain ⟨csp, hbp⟩ := SC.out.blk
    go_upto_region 11 with (go_at_call 190; refine (text190 SC.out).mono ?_; rintro e w5 ⟨rfl, h2, h3⟩; have S5 := Lib.hid h2; have M5 := Lib.hid h3; have B55 := Lib.hid (h3.keep B5C.out (by have := NE5.out; simp; omega)); obtain ⟨m1, m2⟩ := blk B55.out; clear h2 h3)
    have E5 := Lib.hid (Mod.ext_of_new EC.out M5.out (Nat.le_of_lt HPB.out))
    have Z5 := Lib.hid (M5.out.keep ZC.out (by have := HPB.out; simp; omega))
    generalize strOfNums (textS s).1 = str at *
    have B56 := Lib.hid (setB B55.out (i := 2) (.string str))
    have Z6 := Lib.hid (keepS (a := ⟨p5, 2, none⟩) Z5.out (by have := W5.out; show w.heap.size ≠ p5; omega) (.string str))
    have E6 := Lib.hid (E5.out.setCell (p := ⟨p5, 2, none⟩) (Nat.le_of_lt W5.out) (.string str))
    have S6 := Lib.hid (S5.out.low (w' := w5.setCell ⟨p5, 2, none⟩ (.string str)) (fun j hj => Below.heap_setCell _ _ _ _ (by have := NE5.out; show j ≠ p5; omega)))
    clear m1 m2 B55 Z5 E5 S5 M5 hbp d1 d2
    generalize w5.setCell ⟨p5, 2, none⟩ (.string str) = w6 at *
    obtain ⟨m1, m2⟩ := blk B56.out
    obtain ⟨n3, n4⟩ := blk Z6.out
    generalize (textS s).2 = sF at *
    obtain ⟨lf, bad, ⟨af, cf, hp1, hp2⟩, hf1, hf2⟩ := S6.out.open
    obtain ⟨b1, b2⟩ := blk hp1
    have HF1 := Lib.hid hf1
    have HF2 := Lib.hid hf2
    clear hp1 hp2 hf1 hf2
    have HK : Hid (vs.length = k) := VL.out
    cases bad with
    | true =>
      have RT : Hid (replyP l = false) := FIN0.out (by rw [HF2.out rfl]; simp)
      clear FIN1 FIN0
      go_wp2_with fail
      (try simp only [Exit.inBlock, Exit.then])
      refine bodyPost_ret (v := .tuple #[.agg #[.int .i64 0, .slice none 0 0, emptyStr], .bool false]) ?_ rfl ⟨⟨_, _, _, _, _, by rw [RT.out]⟩, ?_⟩
      · rw [results_cell_tmp rfl]
        go_simp
      · repeat' (first | exact E6.out | exact Ext.refl _ | refine Ext.setCell ?_ (Nat.le_refl _) _ | refine Ext.alloc ?_ _)
    | false =>
      have hsf := HF1.out rfl
      cases lf with
      | cons y r =>
        have RT : Hid (replyP l = false) := FIN0.out (by rw [hsf]; simp)
        clear FIN1 FIN0 hsf
        go_wp2_with fail
        (try simp only [Exit.inBlock, Exit.then])
        refine bodyPost_ret (v := .tuple #[.agg #[.int .i64 0, .slice none 0 0, emptyStr], .bool false]) ?_ rfl ⟨⟨_, _, _, _, _, by rw [RT.out]⟩, ?_⟩
        · rw [results_cell_tmp rfl]
          go_simp
        · repeat' (first | exact E6.out | exact Ext.refl _ | refine Ext.setCell ?_ (Nat.le_refl _) _ | refine Ext.alloc ?_ _)
      | nil =>
        have RT0 : Hid (replyP l = (decide (l.length ≤ 1024) && decide (k ≤ 32))) := by show _ = _; rw [FIN1.out hsf, HK.out]
        clear FIN1 FIN0 hsf
        by_cases q1 : l.length ≤ 1024
        · have q1i : ¬ (1024 : Int) < (l.length : Int) := by omega
          by_cases q2 : k ≤ 32
          · have q2i : ¬ (32 : Int) < (k : Int) := by omega
            have RT : Hid (replyP l = true) := RT0.out.trans (by simp [q1, q2])
            clear RT0 q1 q2
            go_wp2_with fail
            (try simp only [Exit.inBlock, Exit.then])
            refine bodyPost_ret (v := .tuple #[.agg #[.int .i64 er, .slice av k cv, .string str], .bool true]) ?_ rfl ⟨⟨_, _, _, _, _, by rw [RT.out]⟩, ?_⟩
            · rw [results_cell_tmp rfl]
              go_simp
            · repeat' (first | exact E6.out | exact Ext.refl _ | refine Ext.setCell ?_ (Nat.le_refl _) _ | refine Ext.alloc ?_ _)
          · have q2i : (32 : Int) < (k : Int) := by omega
            have RT : Hid (replyP l = false) := RT0.out.trans (by simp [q2])
            clear RT0 q1 q2
            go_wp2_with fail
            (try simp only [Exit.inBlock, Exit.then])
            refine bodyPost_ret (v := .tuple #[.agg #[.int .i64 0, .slice none 0 0, emptyStr], .bool false]) ?_ rfl ⟨⟨_, _, _, _, _, by rw [RT.out]⟩, ?_⟩
            · rw [results_cell_tmp rfl]
              go_simp
            · repeat' (first | exact E6.out | exact Ext.refl _ | refine Ext.setCell ?_ (Nat.le_refl _) _ | refine Ext.alloc ?_ _)
        · have q1i : (1024 : Int) < (l.length : Int) := by omega
          have RT : Hid (replyP l = false) := RT0.out.trans (by simp [q1])
          clear RT0 q1
          go_wp2_with fail
          (try simp only [Exit.inBlock, Exit.then])
          refine bodyPost_ret (v := .tuple #[.agg #[.int .i64 0, .slice none 0 0, emptyStr], .bool false]) ?_ rfl ⟨⟨_, _, _, _, _, by rw [RT.out]⟩, ?_⟩
          · rw [results_cell_tmp rfl]
            go_simp
          · repeat' (first | exact E6.out | exact Ext.refl _ | refine Ext.setCell ?_ (Nat.le_refl _) _ | refine Ext.alloc ?_ _)
end Go.Proofs.Eff
