/- The fingerprints of two lists of rules, one behind the other, are those of both, and they are all unlike only if those of both lists are: the law FingerTwo answers true for all rules.
   No condition beyond the row's own. -/
import Derived.Test.YtpkdgmcfojjfjaaGreatDoorJ2
import Derived.Test.YtpkdgmcfojjfjaaGreatDoorJ7
import Derived.Test.YtpkdgmcfojjfjaaGreatDoorJFingerTwo8
namespace Go.Proofs.YtpkdgmcfojjfjaaGreatDoor
open Go Go.Vi Go.ChangeShapes Go.WideShapes Go.RowKit Go.Proofs

def fingerTwoLaid : List (String × DataW Unit) := Rows.fingerTwoRow.laid
theorem fingerTwo_door (os : Os) (args : Array Value) : laidMetH Tryz.prog fingerTwoLaid ((World.laidAll Tryz.prog os fingerTwoLaid).forCall (fun _ _ => 0) ⟨#[], args, []⟩).memory :=
  by
  rw [Go.MakeChecks.laidMetH_plain _ _ _ (by kernel_rfl)]
  exact laidMet_laidAll args (by kernel_rfl) (by kernel_rfl)
set_option maxRecDepth 100000 in
theorem fingerTwo_lifted (os : Os) (started : os.Started) (H : Type) (enc : TypeId × Value → H) :
    ReturnsInHanded {} Tryz.checked os 10 .any (fun w args => (Rows.fingerTwoSpec.pre enc Tryz.prog Tryz.f10 [] false w args ∧ laidMetH Tryz.prog fingerTwoLaid w) ∧ sizedMet enc Tryz.prog Tryz.f10 (OpenSpec.ofChange Rows.fingerTwoSpec) false w args)
      (Rows.fingerTwoSpec.post enc Tryz.prog Tryz.f10 false true false false) := by
  refine returnsInHanded_of_change_and (C := Tryz.checked) (X := fun w _ => laidMetH Tryz.prog fingerTwoLaid w) (fun _ _ _ hh h => h.of_heap hh) own started (by kernel_rfl) Tryz.func10
    (ChangeSpec.witness_shaped (enc := enc) (C := Tryz.checked) (os := os) (X := fun w _ => laidMetH Tryz.prog fingerTwoLaid w) false (World.laidAll Tryz.prog os fingerTwoLaid) #[.slice none 0 0, .slice none 0 0] 8 (World.laidAll_os _ _ _) (World.shaped_of_ZipB (by kernel_rfl) (by kernel_rfl)) (by kernel_rfl) (by kernel_rfl) (by kernel_rfl) (fingerTwo_door os _)) ?_
  intro W base args ds gs before hval0 hW _ _ hX _
  have hval : ∀ (j : Nat) t v, Tryz.f10.params[j]? = some t → args[j]? = some v → Value.okWide Tryz.prog W .any base t v := hval0
  have hW' := hW
  obtain ⟨p, q, hA0, hV, rfl, hfz, hnd⟩ := hW
  have hA : DataW.TrodAll enc Tryz.prog W 0 (fun _ => true) true Tryz.f10.params.toList args.toList ds p := hA0
  rw [Tryz.params10] at hA hval
  obtain ⟨v0, v1, d0, d1, p0, p1, rfl, rfl, rfl, h0, h1⟩ := trodAll_two hA
  obtain ⟨rfl, rfl⟩ := trodVars_none hV
  obtain ⟨s0, g0⟩ := start_gs hX ⟨Rows.laid_strconv_ErrSyntax, List.mem_filter.2 ⟨List.mem_of_getElem? (i := 5) (by kernel_rfl), by kernel_rfl⟩⟩ ⟨Rows.laid_strconv_ErrRange, List.mem_filter.2 ⟨List.mem_of_getElem? (i := 4) (by kernel_rfl), by kernel_rfl⟩⟩ (List.mem_filter.2 ⟨List.mem_of_getElem? (i := 2) (by kernel_rfl), by kernel_rfl⟩)
  obtain ⟨s1, H1, a0, k1, r0, q0⟩ := arg_slice (P := Tryz.prog) (f := 12) (fun _ => rfl) Tryz.underlying46 (by kernel_rfl) (hval 0 46 v0 rfl rfl) h0 g0.rel g0.no
  have g1 := g0.trans k1
  obtain ⟨s2, H2, a1, k2, r1, q1⟩ := arg_slice (P := Tryz.prog) (f := 12) (fun _ => rfl) Tryz.underlying46 (by kernel_rfl) (hval 1 46 v1 rfl rfl) h1 g1.rel g1.no
  have g2 := g1.trans k2
  have hgs : Pre Gs H2 := (k1.pre.trans k2.pre)
  have ha : VRelL s2 H2 [a0, a1] (#[v0, v1] : Array Value).toList := .cons (r0.mono k2.ext) (.cons r1 (.nil _ _))
  obtain ⟨x0, y0⟩ := rd_rules (q0.pre k2.pre)
  obtain ⟨x1, y1⟩ := rd_rules q1
  refine (callsT_of (P := Tryz.prog) (w_ftwo hgs y0.1 y1.1) (by kernel_rfl) g2.rel ha).mono fun e W' ⟨he, hw⟩ => ?_
  exact ⟨_, he, post_true (tb := 4) hW' rfl rfl (by kernel_rfl) Tryz.underlying4 laidOut (by kernel_rfl) hw⟩
theorem fingerTwo_said : Rows.FingerTwoSaid :=
  OpenClaim.holds_of_wide 10 Tryz.f10 rfl rfl rfl rfl rfl rfl rfl ⟨rfl, rfl, rfl, rfl, rfl⟩ rfl rfl rfl rfl rfl (by kernel_rfl) Tryz.func10 (by kernel_rfl)
    (of_decide_eq_true (by kernel_rfl)) (by unfold Func.isWrapper; first | (rw [if_pos (by decide +kernel)]; kernel_rfl) | (rw [if_neg (by decide +kernel)]; exact ⟨rfl, rfl⟩))
    (fun os started H enc _ => fingerTwo_lifted os started H enc)
theorem fingerTwo_holds : Rows.FingerTwoCardSaid :=
  Claim7.holds_tied_plain_at .later [] [.data, .data, .data, .data, .sentinel, .sentinel, .pinned] true (true, "fde039e8609e075c077b02e71ea27212d217c09f785cf624176f93ecc920fa71") true
    fingerTwo_said (fun _ h => by cases h) (by kernel_rfl) (fun _ h => by cases h) fingerTwo_row_tie rfl ⟨rfl, rfl⟩ (by kernel_rfl) rfl
    (fun f fn hf hfn => by
      obtain rfl : f = 10 := Option.some.inj ((show Tryz.prog.funcNamed "tocsin/tocsinlaw14.FingerTwo" = some 10 by kernel_rfl).symm.trans hf) |>.symm
      obtain rfl : fn = Tryz.f10 := (Option.some.inj (Tryz.func10.symm.trans hfn)).symm
      exact ⟨by kernel_rfl, fun j t ht => by
        rw [Tryz.params10] at ht
        have h3 : t = 46 := by
          rcases j with _ | _ | j
          all_goals simp at ht
          all_goals subst ht
          all_goals simp
        rcases h3 with rfl
        · exact (show Tryz.prog.wantsStandIn 46 = false by kernel_rfl)⟩)
    (by kernel_rfl)
#print axioms fingerTwo_holds
end Go.Proofs.YtpkdgmcfojjfjaaGreatDoor
