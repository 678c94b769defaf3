/- AuditTables holds where what it reads is of bulk at most 1048576: for every script of deeds and every spoil the law answers true, and its arguments read as they did.
   Conditions: the card's own (the package-level variable oop.spares is as the program's text lays it) and the statement's bound on the bulk of what is read. -/
import Derived.Test.YtaggadjiefgpoaaGreatDoorTbD
import Derived.Test.YtaggadjiefgpoaaGreatDoorTbX
import Derived.Test.YtaggadjiefgpoaaGreatDoorTbY
import Derived.Test.YtaggadjiefgpoaaGreatDoorCards
import Derived.Test.YtaggadjiefgpoaaGreatDoorTie
import Derived.SevenTiedAt

namespace Go.Proofs.YtaggadjiefgpoaaGreatDoor
open Go Go.Proofs.Eff Go.ChangeShapes Go.WideShapes Go.ChangeAt Go.RowKit

theorem trodAll_two {H : Type} {enc : TypeId × Value → H} {P : Program} {w : World} {base : Nat} {spare : Nat → Bool} {held : Bool} {t t' : TypeId} {args : Array Value} {ds : List (DataW H)} {ps : List MemPlace} (h : DataW.TrodAll enc P w base spare held [t, t'] args.toList ds ps) :
    ∃ v v' d d' p p', args = #[v, v'] ∧ ds = [d, d'] ∧ ps = p ++ p' ∧ DataW.Trod enc P w base spare held t v d p ∧ DataW.Trod enc P w base spare held t' v' d' p' := by
  obtain ⟨v, vs, d, ds', p, q, hargs, rfl, rfl, hd, hrest⟩ := trodAll_cons h
  obtain ⟨v', vs', d', ds'', p', q', rfl, rfl, rfl, hd', hrest'⟩ := trodAll_cons hrest
  obtain ⟨rfl, rfl, rfl⟩ := trodAll_nil hrest'
  exact ⟨v, v', d, d', p, p', by cases args; simp_all, rfl, by simp, hd, hd'⟩

/-- An empty script and no spoil. -/
abbrev noScript : Array Value := #[.agg #[.int .i64 0, .int .i64 0, .int .i64 0, .int .u64 0, .slice none 0 0], .int .i64 0]

set_option maxRecDepth 100000 in
theorem auditTables_lifted (os : Os) (started : os.Started) (H : Type) (enc : TypeId × Value → H) (F : Stop.Interp) :
    ReturnsInHanded {} Tryz.checked os 6 .any (fun w args => ((Rows.OpenSpec.upto Rows.auditTablesSpec).pre enc Tryz.prog Tryz.f6 [] false w args ∧ laidMetH Tryz.prog Laid1 w) ∧ sizedMet enc Tryz.prog Tryz.f6 (Rows.OpenSpec.upto Rows.auditTablesSpec) false w args)
      (((Rows.OpenSpec.upto Rows.auditTablesSpec).at F).post enc Tryz.prog Tryz.f6 false true false false) := by
  refine handed_cond_laid (C := Tryz.checked) (k := Rows.uptoSmall) rfl (X := fun w _ => laidMetH Tryz.prog Laid1 w) (fun _ _ _ hh h => h.of_heap hh) own started (by kernel_rfl) Tryz.func6
    ⟨World.doorLaid Tryz.prog 400 os, fun _ _ => 0, ⟨#[], noScript, []⟩, rfl, World.shaped_of_RefB (by kernel_rfl) (by kernel_rfl), rfl, (Input.okWide_of_okWideB (by kernel_rfl)).2,
      ⟨⟨(OpenSpec.pre_some (k := Rows.uptoSmall) rfl [] false _ _).2 ⟨[.agg [.lit (.int .i64 0), .lit (.int .i64 0), .lit (.int .i64 0), .lit (.int .u64 0), .nil], .lit (.int .i64 0)], [], [], DataW.Whole_of_whole (fuel := 8) (x := ([.agg [.lit (.int .i64 0), .lit (.int .i64 0), .lit (.int .i64 0), .lit (.int .u64 0), .nil], .lit (.int .i64 0)], [], [])) (by kernel_rfl), by kernel_rfl, by kernel_rfl⟩, door_met os _⟩, sizedMet_of_sizedB (fuel := 8) (by kernel_rfl)⟩, by
      simp only [Assume.holds]
      exact ⟨by simp, by simp, by simp, by simp, by simp, by simp⟩⟩ ?_
  intro W base args ds gs before hval0 hW hk hL
  have hval : ∀ (j : Nat) t v, Tryz.f6.params[j]? = some t → args[j]? = some v → Value.okWide Tryz.prog W .any base t v := hval0
  have hW' := hW
  obtain ⟨p, q, hA0, hV, rfl, hfz, hnd⟩ := hW
  have hA : DataW.TrodAll enc Tryz.prog W 0 (fun _ => true) true Tryz.f6.params.toList args.toList ds p := hA0
  rw [Tryz.params6] at hA hval
  obtain ⟨v0, v1, d0, d1, p0, p1, rfl, rfl, rfl, h0, h1⟩ := trodAll_two hA
  obtain ⟨rfl, rfl⟩ := trodVars_none hV
  obtain ⟨size, objects, cap, first, ad, deeds, c, rfl, hds, hdo, hbulk, hob, hcp, f0, f1⟩ := open_script (hval 0 80 v0 rfl rfl) h0
  obtain ⟨spoil, rfl, rfl, rfl, hws⟩ := open_int Tryz.underlying3 (hval 1 3 v1 rfl rfl) h1
  have hlen : deeds.length ≤ 1073741824 := by
    simp only [Rows.uptoSmall, Rows.uptoBulkAll, List.cons_append, List.nil_append, decide_eq_true_eq] at hk
    omega
  refine (AuditTables6 (spares_of_laid hL) size objects cap first ad deeds c spoil hds hlen hdo hob.1 hob.2 hcp.1 hcp.2 f0 f1).mono fun e W' ⟨he, hE⟩ => ?_
  subst he
  refine ⟨_, rfl, law_post hW' rfl (by kernel_rfl) ?_ rfl hE⟩
  intro t ht
  rw [Tryz.params6] at ht
  simp only [List.mem_cons, List.not_mem_nil, or_false] at ht
  rcases ht with rfl | rfl <;> exact ⟨by kernel_rfl, of_decide_eq_true (by kernel_rfl)⟩

theorem auditTables_said : Rows.AuditTablesUptoSaid :=
  OpenClaim.holds_of_cond 6 Tryz.f6 rfl rfl rfl rfl rfl rfl rfl ⟨rfl, rfl, rfl, rfl, rfl⟩ rfl rfl rfl rfl rfl (by kernel_rfl) Tryz.func6 (by kernel_rfl)
    (of_decide_eq_true (by kernel_rfl)) (by unfold Func.isWrapper; first | (rw [if_pos (by decide +kernel)]; kernel_rfl) | (rw [if_neg (by decide +kernel)]; exact ⟨rfl, rfl⟩))
    (fun os started H enc _ F => auditTables_lifted os started H enc F)

/-- The tied card. -/
theorem auditTables_holds : Rows.AuditTablesUptoCardSaid :=
  Claim7.holds_tied_plain_at .later [] [.data] true (true, "7ca29abcf5adfc48c5b1ad8331aa62d4dd7be4f31fe07d6c6917f9435eec6876") false
    auditTables_said (fun _ h => by cases h) (by kernel_rfl) (fun _ h => by cases h) auditTablesUpto_row_tie rfl ⟨rfl, rfl⟩ (by kernel_rfl) rfl
    (fun f fn hf hfn => by
      obtain rfl : f = 6 := Option.some.inj ((show Tryz.prog.funcNamed "effigy/effigylaw24.AuditTables" = some 6 by kernel_rfl).symm.trans hf) |>.symm
      obtain rfl : fn = Tryz.f6 := (Option.some.inj (Tryz.func6.symm.trans hfn)).symm
      exact ⟨by kernel_rfl, fun j t ht => by
        rw [Tryz.params6] at ht
        have h3 : t = 80 ∨ t = 3 := by
          rcases j with _ | _ | j
          · left; simpa using ht.symm
          · right; simpa using ht.symm
          · simp at ht
        rcases h3 with rfl | rfl
        · exact (show Tryz.prog.wantsStandIn 80 = false by kernel_rfl)
        · exact (show Tryz.prog.wantsStandIn 3 = false by kernel_rfl)⟩)
    (by kernel_rfl)

end Go.Proofs.YtaggadjiefgpoaaGreatDoor
