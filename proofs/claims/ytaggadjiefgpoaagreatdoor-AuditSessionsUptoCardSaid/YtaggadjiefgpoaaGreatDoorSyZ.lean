/- AuditSessions holds where what it reads is of bulk at most 1048576: whatever passed, the law answers true, and its argument reads as it did.
   Conditions: the card's own (the package-level variable oop.spares is as the program's text lays it) and the statement's bound on the bulk of what is read. -/
import Derived.Test.YtaggadjiefgpoaaGreatDoorSy45
import Derived.Test.YtaggadjiefgpoaaGreatDoorSy46
import Derived.Test.YtaggadjiefgpoaaGreatDoorSy47
import Derived.Test.YtaggadjiefgpoaaGreatDoorCards
import Derived.Test.YtaggadjiefgpoaaGreatDoorTie
import Derived.SevenTiedAt

namespace Go.Proofs.YtaggadjiefgpoaaGreatDoor
open Go Go.Proofs.Eff Go.ChangeShapes Go.WideShapes Go.ChangeAt Go.RowKit

/-- Nothing passed. -/
abbrev nonePassed : Array Value := #[.slice none 0 0]

set_option maxRecDepth 100000 in
theorem auditSessions_lifted (os : Os) (started : os.Started) (H : Type) (enc : TypeId × Value → H) (F : Stop.Interp) :
    ReturnsInHanded {} Tryz.checked os 7 .any (fun w args => ((Rows.OpenSpec.upto Rows.auditSessionsSpec).pre enc Tryz.prog Tryz.f7 [] false w args ∧ laidMetH Tryz.prog Laid1 w) ∧ sizedMet enc Tryz.prog Tryz.f7 (Rows.OpenSpec.upto Rows.auditSessionsSpec) false w args)
      (((Rows.OpenSpec.upto Rows.auditSessionsSpec).at F).post enc Tryz.prog Tryz.f7 false true false false) := by
  refine handed_cond_laid (C := Tryz.checked) (k := Rows.uptoSmall) rfl (X := fun w _ => laidMetH Tryz.prog Laid1 w) (fun _ _ _ hh h => h.of_heap hh) own started (by kernel_rfl) Tryz.func7
    ⟨World.doorLaid Tryz.prog 400 os, fun _ _ => 0, ⟨#[], nonePassed, []⟩, rfl, World.shaped_of_RefB (by kernel_rfl) (by kernel_rfl), rfl, (Input.okWide_of_okWideB (by kernel_rfl)).2,
      ⟨⟨(OpenSpec.pre_some (k := Rows.uptoSmall) rfl [] false _ _).2 ⟨[.nil], [], [], DataW.Whole_of_whole (fuel := 8) (x := ([.nil], [], [])) (by kernel_rfl), by kernel_rfl, by kernel_rfl⟩, door_met os _⟩, sizedMet_of_sizedB (fuel := 8) (by kernel_rfl)⟩, by
      simp only [Assume.holds]
      exact ⟨by simp, by simp, by simp, by simp, by simp, by simp⟩⟩ ?_
  intro W base args ds gs before hval0 hW hk hL
  have hval : ∀ (j : Nat) t v, Tryz.f7.params[j]? = some t → args[j]? = some v → Value.okWide Tryz.prog W .any base t v := hval0
  have hW' := hW
  obtain ⟨p, q, hA0, hV, rfl, hfz, hnd⟩ := hW
  have hA : DataW.TrodAll enc Tryz.prog W 0 (fun _ => true) true Tryz.f7.params.toList args.toList ds p := hA0
  rw [Tryz.params7] at hA hval
  obtain ⟨v0, d0, rfl, rfl, h0⟩ := trodAll_one hA
  obtain ⟨rfl, rfl⟩ := trodVars_none hV
  have hbk : Rows.uptoBulk d0 ≤ 1048576 := by
    simp only [Rows.uptoSmall, Rows.uptoBulkAll, List.cons_append, List.nil_append, decide_eq_true_eq] at hk
    omega
  obtain ⟨ad, c, l, rfl, hps, hlen⟩ := open_passed (hval 0 99 v0 rfl rfl) h0 hbk
  refine (AuditSessions7 (spares_of_laid hL) hps hlen).mono fun e W' ⟨he, hE⟩ => ?_
  subst he
  refine ⟨_, rfl, law_post hW' rfl (by kernel_rfl) ?_ rfl hE⟩
  intro t ht
  rw [Tryz.params7] at ht
  simp only [List.mem_cons, List.not_mem_nil, or_false] at ht
  rcases ht with rfl
  exact ⟨by kernel_rfl, of_decide_eq_true (by kernel_rfl)⟩

theorem auditSessions_said : Rows.AuditSessionsUptoSaid :=
  OpenClaim.holds_of_cond 7 Tryz.f7 rfl rfl rfl rfl rfl rfl rfl ⟨rfl, rfl, rfl, rfl, rfl⟩ rfl rfl rfl rfl rfl (by kernel_rfl) Tryz.func7 (by kernel_rfl)
    (of_decide_eq_true (by kernel_rfl)) (by unfold Func.isWrapper; first | (rw [if_pos (by decide +kernel)]; kernel_rfl) | (rw [if_neg (by decide +kernel)]; exact ⟨rfl, rfl⟩))
    (fun os started H enc _ F => auditSessions_lifted os started H enc F)

/-- The tied card. -/
theorem auditSessions_holds : Rows.AuditSessionsUptoCardSaid :=
  Claim7.holds_tied_plain_at .later [] [.data] true (true, "7ca29abcf5adfc48c5b1ad8331aa62d4dd7be4f31fe07d6c6917f9435eec6876") false
    auditSessions_said (fun _ h => by cases h) (by kernel_rfl) (fun _ h => by cases h) auditSessionsUpto_row_tie rfl ⟨rfl, rfl⟩ (by kernel_rfl) rfl
    (fun f fn hf hfn => by
      obtain rfl : f = 7 := Option.some.inj ((show Tryz.prog.funcNamed "effigy/effigylaw24.AuditSessions" = some 7 by kernel_rfl).symm.trans hf) |>.symm
      obtain rfl : fn = Tryz.f7 := (Option.some.inj (Tryz.func7.symm.trans hfn)).symm
      exact ⟨by kernel_rfl, fun j t ht => by
        rw [Tryz.params7] at ht
        have h3 : t = 99 := by
          rcases j with _ | j
          · simpa using ht.symm
          · simp at ht
        rcases h3 with rfl
        exact (show Tryz.prog.wantsStandIn 99 = false by kernel_rfl)⟩)
    (by kernel_rfl)

end Go.Proofs.YtaggadjiefgpoaaGreatDoor
