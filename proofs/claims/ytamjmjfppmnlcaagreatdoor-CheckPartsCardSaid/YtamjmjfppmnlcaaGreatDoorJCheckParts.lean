/- Of a configuration that may be each part may be, it may be without one of its rules, and with its rules and mutes turned about: the law CheckParts answers true for all configurations and numbers.
   No condition beyond the row's own. -/
import Derived.Test.YtamjmjfppmnlcaaGreatDoorJ2
import Derived.Test.YtamjmjfppmnlcaaGreatDoorJ5
import Derived.Test.YtamjmjfppmnlcaaGreatDoorJCheckParts7
namespace Go.Proofs.YtamjmjfppmnlcaaGreatDoor
open Go Go.Vi Go.ChangeShapes Go.WideShapes Go.RowKit Go.Proofs

def checkPartsLaid : List (String × DataW Unit) := Rows.checkPartsRow.laid
theorem checkParts_door (os : Os) (args : Array Value) : laidMetH Tryz.prog checkPartsLaid ((World.doorLaid Tryz.prog 400 os).forCall (fun _ _ => 0) ⟨#[], args, []⟩).memory :=
  laidMetH_of_parts3 (fuel := 8) (laidMet_of_run' 8 (by kernel_rfl) (by kernel_rfl)) (by kernel_rfl) (by kernel_rfl)
set_option maxRecDepth 100000 in
theorem checkParts_lifted (os : Os) (started : os.Started) (H : Type) (enc : TypeId × Value → H) :
    ReturnsInHanded {} Tryz.checked os 3 .any (fun w args => (Rows.checkPartsSpec.pre enc Tryz.prog Tryz.f3 [] false w args ∧ laidMetH Tryz.prog checkPartsLaid w) ∧ sizedMet enc Tryz.prog Tryz.f3 (OpenSpec.ofChange Rows.checkPartsSpec) false w args)
      (Rows.checkPartsSpec.post enc Tryz.prog Tryz.f3 false true false false) := by
  refine returnsInHanded_of_change_and (C := Tryz.checked) (X := fun w _ => laidMetH Tryz.prog checkPartsLaid w) (fun _ _ _ hh h => h.of_heap hh) own started (by kernel_rfl) Tryz.func3
    (ChangeSpec.witness_shaped (enc := enc) (C := Tryz.checked) (os := os) (X := fun w _ => laidMetH Tryz.prog checkPartsLaid w) false (World.doorLaid Tryz.prog 400 os) #[.agg #[.slice none 0 0, .slice none 0 0, .int .i64 0, .int .i64 0], .int .i64 0] 8 rfl (World.shaped_of_RefB (by kernel_rfl) (by kernel_rfl)) (by kernel_rfl) (by kernel_rfl) (by kernel_rfl) (checkParts_door os _)) ?_
  intro W base args ds gs before hval0 hW _ _ _ _
  have hval : ∀ (j : Nat) t v, Tryz.f3.params[j]? = some t → args[j]? = some v → Value.okWide Tryz.prog W .any base t v := hval0
  have hW' := hW
  obtain ⟨p, q, hA0, hV, rfl, hfz, hnd⟩ := hW
  have hA : DataW.TrodAll enc Tryz.prog W 0 (fun _ => true) true Tryz.f3.params.toList args.toList ds p := hA0
  rw [Tryz.params3] at hA hval
  obtain ⟨v0, v1, d0, d1, p0, p1, rfl, rfl, rfl, h0, h1⟩ := trodAll_two hA
  obtain ⟨rfl, rfl⟩ := trodVars_none hV
  have g0 : Got Tryz.prog W (fun _ => ⟨0, 0, 0⟩) [] (fun _ => ⟨0, 0, 0⟩) [] := ⟨WRel.refl W _, NoOwn.nil, Ext.refl _ _, Pre.refl _⟩
  obtain ⟨s1, H1, a0, k1, r0, o0, q0⟩ := arg_agg (P := Tryz.prog) (f := 12) (q := parts_cfg1) (fun _ => rfl) (by kernel_rfl) (by kernel_rfl) (hval 0 25 v0 rfl rfl) h0 g0.rel g0.no
  have g1 := g0.trans k1
  obtain ⟨n1, rfl, rfl, rfl, b1⟩ := open_int Tryz.underlying3 (hval 1 3 v1 rfl rfl) h1
  have ha : VRelL s1 H1 [.agg a0.toArray, i64 n1] (#[v0, .int .i64 n1] : Array Value).toList := .cons r0 (.cons (.lit _ rfl) (.nil _ _))
  obtain ⟨x0, rfl, y0⟩ := rd_cfg1 q0
  refine (callsT_of (P := Tryz.prog) (w_parts n1 y0.1 y0.2) (by kernel_rfl) g1.rel ha).mono fun e W' ⟨he, hw⟩ => ?_
  exact ⟨_, he, post_true (tb := 4) hW' rfl rfl (by kernel_rfl) Tryz.underlying4 laidOut (by kernel_rfl) hw⟩
theorem checkParts_said : Rows.CheckPartsSaid :=
  OpenClaim.holds_of_wide 3 Tryz.f3 rfl rfl rfl rfl rfl rfl rfl ⟨rfl, rfl, rfl, rfl, rfl⟩ rfl rfl rfl rfl rfl (by kernel_rfl) Tryz.func3 (by kernel_rfl)
    (of_decide_eq_true (by kernel_rfl)) (by unfold Func.isWrapper; first | (rw [if_pos (by decide +kernel)]; kernel_rfl) | (rw [if_neg (by decide +kernel)]; exact ⟨rfl, rfl⟩))
    (fun os started H enc _ => checkParts_lifted os started H enc)
theorem checkParts_holds : Rows.CheckPartsCardSaid :=
  Claim7.holds_tied_plain_at .later [] [.data, .data, .data, .sentinel, .sentinel] true (true, "9d4ad357cf0155aab3fe8e39d8e1a9f257b9929ab867b31b0d23ebafad23d1ba") true
    checkParts_said (fun _ h => by cases h) (by kernel_rfl) (fun _ h => by cases h) checkParts_row_tie rfl ⟨rfl, rfl⟩ (by kernel_rfl) rfl
    (fun f fn hf hfn => by
      obtain rfl : f = 3 := Option.some.inj ((show Tryz.prog.funcNamed "tocsin/tocsinlaw11.CheckParts" = some 3 by kernel_rfl).symm.trans hf) |>.symm
      obtain rfl : fn = Tryz.f3 := (Option.some.inj (Tryz.func3.symm.trans hfn)).symm
      exact ⟨by kernel_rfl, fun j t ht => by
        rw [Tryz.params3] at ht
        have h3 : t = 25 ∨ t = 3 := by
          rcases j with _ | _ | j
          all_goals simp at ht
          all_goals subst ht
          all_goals simp
        rcases h3 with rfl | rfl
        · exact (show Tryz.prog.wantsStandIn 25 = false by kernel_rfl)
        · exact (show Tryz.prog.wantsStandIn 3 = false by kernel_rfl)⟩)
    (by kernel_rfl)
#print axioms checkParts_holds
end Go.Proofs.YtamjmjfppmnlcaaGreatDoor
