/- AuditHandles holds: for every capacity, first number and acts the law answers true, and its arguments read as they did.
   No condition but the card's own: the package-level variable oop.spares is as the program's text lays it. -/
import Derived.Test.YtaggadjiefgpoaaGreatDoorHa28
import Derived.Test.YtaggadjiefgpoaaGreatDoorHa27
import Derived.Test.YtaggadjiefgpoaaGreatDoorCards
import Derived.Test.YtaggadjiefgpoaaGreatDoorTie
import Derived.SevenTiedAt
namespace Go.Proofs.Eff
open Go.ChangeShapes Go.WideShapes Go.ChangeAt Go.RowKit

set_option maxRecDepth 100000 in
set_option maxHeartbeats 1000000 in
/-- The law, walked. -/
theorem AuditHandles4 {w : World} (hs : Spares w) (cap first : Int) (hf0 : 0 ≤ first) (hf1 : first < 18446744073709551616) (ad : Option Addr) (c : Nat) (acts : List HAct) (ha : ActsAt w ad acts) (hal : acts.length ≤ 9223372036854775807) :
    Calls Tryz.prog 4 #[.int .i64 cap, .int .u64 first, .slice ad acts.length c] w fun e w' => e = .returned (.bool true) ∧ Ext w w' := by
  have hp := hs.pos
  have HA : Hid (Calls Tryz.prog 17 #[.int .i64 cap, .int .u64 first, .slice ad acts.length c] w (FindR w (handF cap first acts))) := by
    cases hb : badTab cap first with
    | true => have := Handles_bad cap first (.slice ad acts.length c) w hb; unfold handF; rw [hb]; exact this
    | false => exact Handles_ok cap first ad c acts w hb hf0 hf1 ha hal
  have HB : Hid (∀ W, Ext w W → Calls Tryz.prog 18 #[.int .i64 cap, .int .u64 first, .slice ad acts.length c] W (FindR W (handF cap first acts))) := by
    intro W hE
    cases hb : badTab cap first with
    | true => have := RHandles_bad cap first (.slice ad acts.length c) W hb; unfold handF; rw [hb]; exact this
    | false =>
      refine RHandles_ok cap first ad c acts W hb hf0 hf1 ?_ hal
      intro h0
      obtain ⟨b, off, e1, e2, e3⟩ := ha h0
      refine ⟨b, off, e1, Nat.lt_of_lt_of_le e2 hE.size, fun k a hk => ?_⟩
      obtain ⟨ad2, c2, h1⟩ := e3 k a hk
      exact ⟨ad2, c2, h1.keep e2 hE⟩
  have AW : Hid (∀ W, Ext w W → Calls Tryz.prog 9 #[] W fun e w' => e = .returned (.bool true) ∧ Ext W w') := fun W hE => awake9 (hs.kept hE hp)
  generalize handF cap first acts = r at *
  obtain ⟨r1, r2⟩ := r
  have e51 : ∀ w, (binOp .eql 51 (.agg #[.int .i64 r1, .int .i64 r2]) (.agg #[.int .i64 r1, .int .i64 r2])).run Tryz.prog w = .ok (.bool true) w := fun w => by rw [run_eql51]; simp
  clear ha hs
  go_enter Tryz.func4, Tryz.ntmps4
  go_wp2_with fail
  refine HA.out.mono ?_
  rintro e w1 ⟨rfl, hb1⟩
  have B1 := Lib.hid hb1
  clear hb1
  go_wp2_with fail
  refine (HB.out _ B1.out).mono ?_
  rintro e w2 ⟨rfl, hb2⟩
  have B2 := Lib.hid (B1.out.trans hb2)
  clear hb2
  go_wp2_with (go_at_call 9; refine (AW.out _ B2.out).mono ?_; rintro e w3 ⟨rfl, hb3⟩; have B3 := Lib.hid (B2.out.trans hb3); clear hb3)
  go_ret
  exact ⟨rfl, B3.out⟩

theorem wf_u64_in {n : Int} (h : (Lit.int .u64 n).wf = true) : 0 ≤ n ∧ n < 18446744073709551616 := by
  simp only [Lit.wf, Bool.and_eq_true, decide_eq_true_eq] at h
  have h1 : IntKind.u64.min = 0 := rfl
  have h2 : IntKind.u64.max = 18446744073709551615 := rfl
  rw [h1, h2] at h
  omega

end Go.Proofs.Eff

namespace Go.Proofs.YtaggadjiefgpoaaGreatDoor
open Go Go.Proofs.Eff Go.ChangeShapes Go.WideShapes Go.ChangeAt Go.RowKit

set_option maxRecDepth 100000 in
theorem auditHandles_lifted (os : Os) (started : os.Started) (H : Type) (enc : TypeId × Value → H) :
    ReturnsInHanded {} Tryz.checked os 4 .any (fun w args => (Rows.auditHandlesSpec.pre enc Tryz.prog Tryz.f4 [] false w args ∧ laidMetH Tryz.prog Laid1 w) ∧ sizedMet enc Tryz.prog Tryz.f4 (OpenSpec.ofChange Rows.auditHandlesSpec) false w args)
      (Rows.auditHandlesSpec.post enc Tryz.prog Tryz.f4 false true false false) := by
  refine returnsInHanded_of_change_and (C := Tryz.checked) (X := fun w _ => laidMetH Tryz.prog Laid1 w) (fun _ _ _ hh h => h.of_heap hh) own started (by kernel_rfl) Tryz.func4
    (ChangeSpec.witness_shaped (enc := enc) (C := Tryz.checked) (os := os) (X := fun w _ => laidMetH Tryz.prog Laid1 w) false (World.doorLaid Tryz.prog 400 os) #[.int .i64 0, .int .u64 0, .slice none 0 0] 8 rfl (World.shaped_of_RefB (by kernel_rfl) (by kernel_rfl)) (by kernel_rfl) (by kernel_rfl) (by kernel_rfl) (door_met os _)) ?_
  intro W base args ds gs before hval0 hW _ _ hL _
  have hval : ∀ (j : Nat) t v, Tryz.f4.params[j]? = some t → args[j]? = some v → Value.okWide Tryz.prog W .any base t v := hval0
  have hW' := hW
  obtain ⟨p, q, hA0, hV, rfl, hfz, hnd⟩ := hW
  have hA : DataW.TrodAll enc Tryz.prog W 0 (fun _ => true) true Tryz.f4.params.toList args.toList ds p := hA0
  rw [Tryz.params4] at hA hval
  obtain ⟨v0, v1, v2, d0, d1, d2, p0, p1, p2, rfl, rfl, rfl, h0, h1, h2⟩ := trodAll_three hA
  obtain ⟨rfl, rfl⟩ := trodVars_none hV
  obtain ⟨cap, rfl, rfl, rfl, hwc⟩ := open_int Tryz.underlying3 (hval 0 3 v0 rfl rfl) h0
  obtain ⟨first, rfl, rfl, rfl, hwf⟩ := open_int Tryz.underlying55 (hval 1 55 v1 rfl rfl) h1
  obtain ⟨ad, c, acts, rfl, hacts, hal⟩ := open_acts (hval 2 56 v2 rfl rfl) h2
  have hf := wf_u64_in hwf
  refine (AuditHandles4 (spares_of_laid hL) cap first hf.1 hf.2 ad c acts hacts hal).mono fun e W' ⟨he, hE⟩ => ?_
  subst he
  refine ⟨_, rfl, law_post hW' rfl (by kernel_rfl) ?_ rfl hE⟩
  intro t ht
  rw [Tryz.params4] at ht
  simp only [List.mem_cons, List.not_mem_nil, or_false] at ht
  rcases ht with rfl | rfl | rfl <;> exact ⟨by kernel_rfl, of_decide_eq_true (by kernel_rfl)⟩

theorem auditHandles_said : Rows.AuditHandlesSaid :=
  OpenClaim.holds_of_wide 4 Tryz.f4 rfl rfl rfl rfl rfl rfl rfl ⟨rfl, rfl, rfl, rfl, rfl⟩ rfl rfl rfl rfl rfl (by kernel_rfl) Tryz.func4 (by kernel_rfl)
    (of_decide_eq_true (by kernel_rfl)) (by unfold Func.isWrapper; first | (rw [if_pos (by decide +kernel)]; kernel_rfl) | (rw [if_neg (by decide +kernel)]; exact ⟨rfl, rfl⟩))
    (fun os started H enc _ => auditHandles_lifted os started H enc)

/-- The tied card. -/
theorem auditHandles_holds : Rows.AuditHandlesCardSaid :=
  Claim7.holds_tied_plain_at .later [] [.data] true (true, "7ca29abcf5adfc48c5b1ad8331aa62d4dd7be4f31fe07d6c6917f9435eec6876") false
    auditHandles_said (fun _ h => by cases h) (by kernel_rfl) (fun _ h => by cases h) auditHandles_row_tie rfl ⟨rfl, rfl⟩ (by kernel_rfl) rfl
    (fun f fn hf hfn => by
      obtain rfl : f = 4 := Option.some.inj ((show Tryz.prog.funcNamed "effigy/effigylaw24.AuditHandles" = some 4 by kernel_rfl).symm.trans hf) |>.symm
      obtain rfl : fn = Tryz.f4 := (Option.some.inj (Tryz.func4.symm.trans hfn)).symm
      exact ⟨by kernel_rfl, fun j t ht => by
        rw [Tryz.params4] at ht
        have h3 : t = 3 ∨ t = 55 ∨ t = 56 := by
          rcases j with _ | _ | _ | j
          · left; simpa using ht.symm
          · right; left; simpa using ht.symm
          · right; right; simpa using ht.symm
          · simp at ht
        rcases h3 with rfl | rfl | rfl
        · exact (show Tryz.prog.wantsStandIn 3 = false by kernel_rfl)
        · exact (show Tryz.prog.wantsStandIn 55 = false by kernel_rfl)
        · exact (show Tryz.prog.wantsStandIn 56 = false by kernel_rfl)⟩)
    (by kernel_rfl)
#print axioms auditHandles_holds

end Go.Proofs.YtaggadjiefgpoaaGreatDoor
