/- The greatest window of two conditions together is the greater one of both, and the examples of the chapter answer as they should: the law CheckWidest answers true for all nodes.
   No condition beyond the row's own. -/
import Derived.Test.YtjkgabnnnobeeaaGreatDoorJ2
import Derived.Test.YtjkgabnnnobeeaaGreatDoorJ4
import Derived.Test.YtjkgabnnnobeeaaGreatDoorJ5
namespace Go.Proofs.YtjkgabnnnobeeaaGreatDoor
open Go Go.Vi Go.ChangeShapes Go.WideShapes Go.RowKit Go.Proofs

def checkWidestLaid : List (String × DataW Unit) := Rows.checkWidestRow.laid
theorem checkWidest_door (os : Os) (args : Array Value) : laidMetH Tryz.prog checkWidestLaid ((World.doorLaid Tryz.prog 400 os).forCall (fun _ _ => 0) ⟨#[], args, []⟩).memory :=
  laidMetH_of_parts3 (fuel := 8) (laidMet_of_run' 8 (by kernel_rfl) (by kernel_rfl)) (by kernel_rfl) (by kernel_rfl)
set_option maxRecDepth 100000 in
theorem checkWidest_lifted (os : Os) (started : os.Started) (H : Type) (enc : TypeId × Value → H) :
    ReturnsInHanded {} Tryz.checked os 6 .any (fun w args => (Rows.checkWidestSpec.pre enc Tryz.prog Tryz.f6 [] false w args ∧ laidMetH Tryz.prog checkWidestLaid w) ∧ sizedMet enc Tryz.prog Tryz.f6 (OpenSpec.ofChange Rows.checkWidestSpec) false w args)
      (Rows.checkWidestSpec.post enc Tryz.prog Tryz.f6 false true false false) := by
  refine returnsInHanded_of_change_and (C := Tryz.checked) (X := fun w _ => laidMetH Tryz.prog checkWidestLaid w) (fun _ _ _ hh h => h.of_heap hh) own started (by kernel_rfl) Tryz.func6
    (ChangeSpec.witness_shaped (enc := enc) (C := Tryz.checked) (os := os) (X := fun w _ => laidMetH Tryz.prog checkWidestLaid w) false (World.doorLaid Tryz.prog 400 os) #[.slice none 0 0, .slice none 0 0] 8 rfl (World.shaped_of_RefB (by kernel_rfl) (by kernel_rfl)) (by kernel_rfl) (by kernel_rfl) (by kernel_rfl) (checkWidest_door os _)) ?_
  intro W base args ds gs before hval0 hW _ _ _ _
  have hval : ∀ (j : Nat) t v, Tryz.f6.params[j]? = some t → args[j]? = some v → Value.okWide Tryz.prog W .any base t v := hval0
  have hW' := hW
  obtain ⟨p, q, hA0, hV, rfl, hfz, hnd⟩ := hW
  have hA : DataW.TrodAll enc Tryz.prog W 0 (fun _ => true) true Tryz.f6.params.toList args.toList ds p := hA0
  rw [Tryz.params6] at hA hval
  obtain ⟨v0, v1, d0, d1, p0, p1, rfl, rfl, rfl, h0, h1⟩ := trodAll_two hA
  obtain ⟨rfl, rfl⟩ := trodVars_none hV
  have g0 : Got Tryz.prog W (fun _ => ⟨0, 0, 0⟩) [] (fun _ => ⟨0, 0, 0⟩) [] := ⟨WRel.refl W _, NoOwn.nil, Ext.refl _ _, Pre.refl _⟩
  obtain ⟨s1, H1, a0, k1, r0, q0⟩ := arg_slice (P := Tryz.prog) (f := 8) (fun _ => rfl) Tryz.underlying35 (by kernel_rfl) (hval 0 35 v0 rfl rfl) h0 g0.rel g0.no
  have g1 := g0.trans k1
  obtain ⟨s2, H2, a1, k2, r1, q1⟩ := arg_slice (P := Tryz.prog) (f := 8) (fun _ => rfl) Tryz.underlying35 (by kernel_rfl) (hval 1 35 v1 rfl rfl) h1 g1.rel g1.no
  have g2 := g1.trans k2
  have ha : VRelL s2 H2 [a0, a1] (#[v0, v1] : Array Value).toList := .cons (r0.mono k2.ext) (.cons r1 (.nil _ _))
  obtain ⟨x0, y0⟩ := rd_nodes (q0.pre k2.pre)
  obtain ⟨x1, y1⟩ := rd_nodes q1
  refine (callsT_of (P := Tryz.prog) (w_widest y0.1 y1.1 y0.2 y1.2) (by kernel_rfl) g2.rel ha).mono fun e W' ⟨he, hw⟩ => ?_
  exact ⟨_, he, post_true (tb := 4) hW' rfl rfl (by kernel_rfl) Tryz.underlying4 laidOut (by kernel_rfl) hw⟩
theorem checkWidest_said : Rows.CheckWidestSaid :=
  OpenClaim.holds_of_wide 6 Tryz.f6 rfl rfl rfl rfl rfl rfl rfl ⟨rfl, rfl, rfl, rfl, rfl⟩ rfl rfl rfl rfl rfl (by kernel_rfl) Tryz.func6 (by kernel_rfl)
    (of_decide_eq_true (by kernel_rfl)) (by unfold Func.isWrapper; first | (rw [if_pos (by decide +kernel)]; kernel_rfl) | (rw [if_neg (by decide +kernel)]; exact ⟨rfl, rfl⟩))
    (fun os started H enc _ => checkWidest_lifted os started H enc)
theorem checkWidest_holds : Rows.CheckWidestCardSaid :=
  Claim7.holds_tied_plain_at .later [] [.data, .data, .data, .sentinel, .sentinel] true (true, "a7251ee3788b831bef5292d1ab95aaa6ef3e5e61cf96a6585bad48ad7de0f339") true
    checkWidest_said (fun _ h => by cases h) (by kernel_rfl) (fun _ h => by cases h) checkWidest_row_tie rfl ⟨rfl, rfl⟩ (by kernel_rfl) rfl
    (fun f fn hf hfn => by
      obtain rfl : f = 6 := Option.some.inj ((show Tryz.prog.funcNamed "tocsin/tocsinlaw11.CheckWidest" = some 6 by kernel_rfl).symm.trans hf) |>.symm
      obtain rfl : fn = Tryz.f6 := (Option.some.inj (Tryz.func6.symm.trans hfn)).symm
      exact ⟨by kernel_rfl, fun j t ht => by
        rw [Tryz.params6] at ht
        have h3 : t = 35 := by
          rcases j with _ | _ | j
          all_goals simp at ht
          all_goals subst ht
          all_goals simp
        rcases h3 with rfl
        · exact (show Tryz.prog.wantsStandIn 35 = false by kernel_rfl)⟩)
    (by kernel_rfl)
#print axioms checkWidest_holds
end Go.Proofs.YtjkgabnnnobeeaaGreatDoor
