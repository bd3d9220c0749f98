/- A configuration in which a rule or a mute stands twice may not be, and a rule that may be has a window between one and a thousand: the law CheckTwice answers true for all configurations.
   No condition beyond the row's own. -/
import Derived.Test.YtamjmjfppmnlcaaGreatDoorJ2
import Derived.Test.YtamjmjfppmnlcaaGreatDoorJ4
import Derived.Test.YtamjmjfppmnlcaaGreatDoorJCheckTwice7
namespace Go.Proofs.YtamjmjfppmnlcaaGreatDoor
open Go Go.Vi Go.ChangeShapes Go.WideShapes Go.RowKit Go.Proofs

def checkTwiceLaid : List (String × DataW Unit) := Rows.checkTwiceRow.laid
theorem checkTwice_door (os : Os) (args : Array Value) : laidMetH Tryz.prog checkTwiceLaid ((World.doorLaid Tryz.prog 400 os).forCall (fun _ _ => 0) ⟨#[], args, []⟩).memory :=
  laidMetH_of_parts3 (fuel := 8) (laidMet_of_run' 8 (by kernel_rfl) (by kernel_rfl)) (by kernel_rfl) (by kernel_rfl)
set_option maxRecDepth 100000 in
theorem checkTwice_lifted (os : Os) (started : os.Started) (H : Type) (enc : TypeId × Value → H) :
    ReturnsInHanded {} Tryz.checked os 4 .any (fun w args => (Rows.checkTwiceSpec.pre enc Tryz.prog Tryz.f4 [] false w args ∧ laidMetH Tryz.prog checkTwiceLaid w) ∧ sizedMet enc Tryz.prog Tryz.f4 (OpenSpec.ofChange Rows.checkTwiceSpec) false w args)
      (Rows.checkTwiceSpec.post enc Tryz.prog Tryz.f4 false true false false) := by
  refine returnsInHanded_of_change_and (C := Tryz.checked) (X := fun w _ => laidMetH Tryz.prog checkTwiceLaid w) (fun _ _ _ hh h => h.of_heap hh) own started (by kernel_rfl) Tryz.func4
    (ChangeSpec.witness_shaped (enc := enc) (C := Tryz.checked) (os := os) (X := fun w _ => laidMetH Tryz.prog checkTwiceLaid w) false (World.doorLaid Tryz.prog 400 os) #[.agg #[.slice none 0 0, .slice none 0 0, .int .i64 0, .int .i64 0]] 8 rfl (World.shaped_of_RefB (by kernel_rfl) (by kernel_rfl)) (by kernel_rfl) (by kernel_rfl) (by kernel_rfl) (checkTwice_door os _)) ?_
  intro W base args ds gs before hval0 hW _ _ _ _
  have hval : ∀ (j : Nat) t v, Tryz.f4.params[j]? = some t → args[j]? = some v → Value.okWide Tryz.prog W .any base t v := hval0
  have hW' := hW
  obtain ⟨p, q, hA0, hV, rfl, hfz, hnd⟩ := hW
  have hA : DataW.TrodAll enc Tryz.prog W 0 (fun _ => true) true Tryz.f4.params.toList args.toList ds p := hA0
  rw [Tryz.params4] at hA hval
  obtain ⟨v0, d0, rfl, rfl, h0⟩ := trodAll_one hA
  obtain ⟨rfl, rfl⟩ := trodVars_none hV
  have g0 : Got Tryz.prog W (fun _ => ⟨0, 0, 0⟩) [] (fun _ => ⟨0, 0, 0⟩) [] := ⟨WRel.refl W _, NoOwn.nil, Ext.refl _ _, Pre.refl _⟩
  obtain ⟨s1, H1, a0, k1, r0, o0, q0⟩ := arg_agg (P := Tryz.prog) (f := 12) (q := parts_cfg1) (fun _ => rfl) (by kernel_rfl) (by kernel_rfl) (hval 0 25 v0 rfl rfl) h0 g0.rel g0.no
  have g1 := g0.trans k1
  have ha : VRelL s1 H1 [.agg a0.toArray] (#[v0] : Array Value).toList := .cons r0 (.nil _ _)
  obtain ⟨x0, rfl, y0⟩ := rd_cfg1 q0
  refine (callsT_of (P := Tryz.prog) (w_twice y0.1 y0.2) (by kernel_rfl) g1.rel ha).mono fun e W' ⟨he, hw⟩ => ?_
  exact ⟨_, he, post_true (tb := 4) hW' rfl rfl (by kernel_rfl) Tryz.underlying4 laidOut (by kernel_rfl) hw⟩
theorem checkTwice_said : Rows.CheckTwiceSaid :=
  OpenClaim.holds_of_wide 4 Tryz.f4 rfl rfl rfl rfl rfl rfl rfl ⟨rfl, rfl, rfl, rfl, rfl⟩ rfl rfl rfl rfl rfl (by kernel_rfl) Tryz.func4 (by kernel_rfl)
    (of_decide_eq_true (by kernel_rfl)) (by unfold Func.isWrapper; first | (rw [if_pos (by decide +kernel)]; kernel_rfl) | (rw [if_neg (by decide +kernel)]; exact ⟨rfl, rfl⟩))
    (fun os started H enc _ => checkTwice_lifted os started H enc)
theorem checkTwice_holds : Rows.CheckTwiceCardSaid :=
  Claim7.holds_tied_plain_at .later [] [.data, .data, .data, .sentinel, .sentinel] true (true, "9d4ad357cf0155aab3fe8e39d8e1a9f257b9929ab867b31b0d23ebafad23d1ba") true
    checkTwice_said (fun _ h => by cases h) (by kernel_rfl) (fun _ h => by cases h) checkTwice_row_tie rfl ⟨rfl, rfl⟩ (by kernel_rfl) rfl
    (fun f fn hf hfn => by
      obtain rfl : f = 4 := Option.some.inj ((show Tryz.prog.funcNamed "tocsin/tocsinlaw11.CheckTwice" = some 4 by kernel_rfl).symm.trans hf) |>.symm
      obtain rfl : fn = Tryz.f4 := (Option.some.inj (Tryz.func4.symm.trans hfn)).symm
      exact ⟨by kernel_rfl, fun j t ht => by
        rw [Tryz.params4] at ht
        have h3 : t = 25 := by
          rcases j with _ | j
          all_goals simp at ht
          all_goals subst ht
          all_goals simp
        rcases h3 with rfl
        · exact (show Tryz.prog.wantsStandIn 25 = false by kernel_rfl)⟩)
    (by kernel_rfl)
#print axioms checkTwice_holds
end Go.Proofs.YtamjmjfppmnlcaaGreatDoor
