/- A mute of some day may be just if it begins on the day, ends at latest with it, and does not end where it begins, and the examples of the chapter answer as they should: the law CheckTimes answers true for all days and numbers.
   No condition beyond the row's own. -/
import Derived.Test.YtjkgabnnnobeeaaGreatDoorJ2
import Derived.Test.YtjkgabnnnobeeaaGreatDoorJ4
import Derived.Test.YtjkgabnnnobeeaaGreatDoorJ5
namespace Go.Proofs.YtjkgabnnnobeeaaGreatDoor
open Go Go.Vi Go.ChangeShapes Go.WideShapes Go.RowKit Go.Proofs

def checkTimesLaid : List (String × DataW Unit) := Rows.checkTimesRow.laid
theorem checkTimes_door (os : Os) (args : Array Value) : laidMetH Tryz.prog checkTimesLaid ((World.doorLaid Tryz.prog 400 os).forCall (fun _ _ => 0) ⟨#[], args, []⟩).memory :=
  laidMetH_of_parts3 (fuel := 8) (laidMet_of_run' 8 (by kernel_rfl) (by kernel_rfl)) (by kernel_rfl) (by kernel_rfl)
set_option maxRecDepth 100000 in
theorem checkTimes_lifted (os : Os) (started : os.Started) (H : Type) (enc : TypeId × Value → H) :
    ReturnsInHanded {} Tryz.checked os 4 .any (fun w args => (Rows.checkTimesSpec.pre enc Tryz.prog Tryz.f4 [] false w args ∧ laidMetH Tryz.prog checkTimesLaid w) ∧ sizedMet enc Tryz.prog Tryz.f4 (OpenSpec.ofChange Rows.checkTimesSpec) false w args)
      (Rows.checkTimesSpec.post enc Tryz.prog Tryz.f4 false true false false) := by
  refine returnsInHanded_of_change_and (C := Tryz.checked) (X := fun w _ => laidMetH Tryz.prog checkTimesLaid w) (fun _ _ _ hh h => h.of_heap hh) own started (by kernel_rfl) Tryz.func4
    (ChangeSpec.witness_shaped (enc := enc) (C := Tryz.checked) (os := os) (X := fun w _ => laidMetH Tryz.prog checkTimesLaid w) false (World.doorLaid Tryz.prog 400 os) #[.agg (Array.replicate 7 (.bool false)), .int .i64 0, .int .i64 0] 8 rfl (World.shaped_of_RefB (by kernel_rfl) (by kernel_rfl)) (by kernel_rfl) (by kernel_rfl) (by kernel_rfl) (checkTimes_door os _)) ?_
  intro W base args ds gs before hval0 hW _ _ _ _
  have hval : ∀ (j : Nat) t v, Tryz.f4.params[j]? = some t → args[j]? = some v → Value.okWide Tryz.prog W .any base t v := hval0
  have hW' := hW
  obtain ⟨p, q, hA0, hV, rfl, hfz, hnd⟩ := hW
  have hA : DataW.TrodAll enc Tryz.prog W 0 (fun _ => true) true Tryz.f4.params.toList args.toList ds p := hA0
  rw [Tryz.params4] at hA hval
  obtain ⟨v0, v1, v2, d0, d1, d2, p0, p1, p2, rfl, rfl, rfl, h0, h1, h2⟩ := trodAll_three hA
  obtain ⟨rfl, rfl⟩ := trodVars_none hV
  have g0 : Got Tryz.prog W (fun _ => ⟨0, 0, 0⟩) [] (fun _ => ⟨0, 0, 0⟩) [] := ⟨WRel.refl W _, NoOwn.nil, Ext.refl _ _, Pre.refl _⟩
  obtain ⟨s1, H1, a0, k1, r0, o0, q0⟩ := arg_agg (P := Tryz.prog) (f := 8) (q := parts_days) (fun _ => rfl) (by kernel_rfl) (by kernel_rfl) (hval 0 30 v0 rfl rfl) h0 g0.rel g0.no
  have g1 := g0.trans k1
  obtain ⟨n1, rfl, rfl, rfl, b1⟩ := open_int Tryz.underlying3 (hval 1 3 v1 rfl rfl) h1
  obtain ⟨n2, rfl, rfl, rfl, b2⟩ := open_int Tryz.underlying3 (hval 2 3 v2 rfl rfl) h2
  have ha : VRelL s1 H1 [.agg a0.toArray, i64 n1, i64 n2] (#[v0, .int .i64 n1, .int .i64 n2] : Array Value).toList := .cons r0 (.cons (.lit _ rfl) (.cons (.lit _ rfl) (.nil _ _)))
  obtain ⟨x0, rfl, y0⟩ := rd_days q0
  refine (callsT_of (P := Tryz.prog) (w_times _ x0 y0 n1 n2) (by kernel_rfl) g1.rel ha).mono fun e W' ⟨he, hw⟩ => ?_
  exact ⟨_, he, post_true (tb := 4) hW' rfl rfl (by kernel_rfl) Tryz.underlying4 laidOut (by kernel_rfl) hw⟩
theorem checkTimes_said : Rows.CheckTimesSaid :=
  OpenClaim.holds_of_wide 4 Tryz.f4 rfl rfl rfl rfl rfl rfl rfl ⟨rfl, rfl, rfl, rfl, rfl⟩ rfl rfl rfl rfl rfl (by kernel_rfl) Tryz.func4 (by kernel_rfl)
    (of_decide_eq_true (by kernel_rfl)) (by unfold Func.isWrapper; first | (rw [if_pos (by decide +kernel)]; kernel_rfl) | (rw [if_neg (by decide +kernel)]; exact ⟨rfl, rfl⟩))
    (fun os started H enc _ => checkTimes_lifted os started H enc)
theorem checkTimes_holds : Rows.CheckTimesCardSaid :=
  Claim7.holds_tied_plain_at .later [] [.data, .data, .data, .sentinel, .sentinel] true (true, "a7251ee3788b831bef5292d1ab95aaa6ef3e5e61cf96a6585bad48ad7de0f339") true
    checkTimes_said (fun _ h => by cases h) (by kernel_rfl) (fun _ h => by cases h) checkTimes_row_tie rfl ⟨rfl, rfl⟩ (by kernel_rfl) rfl
    (fun f fn hf hfn => by
      obtain rfl : f = 4 := Option.some.inj ((show Tryz.prog.funcNamed "tocsin/tocsinlaw11.CheckTimes" = some 4 by kernel_rfl).symm.trans hf) |>.symm
      obtain rfl : fn = Tryz.f4 := (Option.some.inj (Tryz.func4.symm.trans hfn)).symm
      exact ⟨by kernel_rfl, fun j t ht => by
        rw [Tryz.params4] at ht
        have h3 : t = 30 ∨ t = 3 := by
          rcases j with _ | _ | _ | j
          all_goals simp at ht
          all_goals subst ht
          all_goals simp
        rcases h3 with rfl | rfl
        · exact (show Tryz.prog.wantsStandIn 30 = false by kernel_rfl)
        · exact (show Tryz.prog.wantsStandIn 3 = false by kernel_rfl)⟩)
    (by kernel_rfl)
#print axioms checkTimes_holds
end Go.Proofs.YtjkgabnnnobeeaaGreatDoor
