/- Of rules none comes twice just if all pairs of them are unlike, in whatever order they stand: the law FingerUnlike answers true for all rules.
   No condition beyond the row's own. -/
import Derived.Test.YtpkdgmcfojjfjaaGreatDoorJ2
import Derived.Test.YtpkdgmcfojjfjaaGreatDoorJ6
import Derived.Test.YtpkdgmcfojjfjaaGreatDoorJFingerUnlike8
namespace Go.Proofs.YtpkdgmcfojjfjaaGreatDoor
open Go Go.Vi Go.ChangeShapes Go.WideShapes Go.RowKit Go.Proofs

def fingerUnlikeLaid : List (String × DataW Unit) := Rows.fingerUnlikeRow.laid
theorem fingerUnlike_door (os : Os) (args : Array Value) : laidMetH Tryz.prog fingerUnlikeLaid ((World.laidAll Tryz.prog os fingerUnlikeLaid).forCall (fun _ _ => 0) ⟨#[], args, []⟩).memory :=
  by
  rw [Go.MakeChecks.laidMetH_plain _ _ _ (by kernel_rfl)]
  exact laidMet_laidAll args (by kernel_rfl) (by kernel_rfl)
set_option maxRecDepth 100000 in
theorem fingerUnlike_lifted (os : Os) (started : os.Started) (H : Type) (enc : TypeId × Value → H) :
    ReturnsInHanded {} Tryz.checked os 8 .any (fun w args => (Rows.fingerUnlikeSpec.pre enc Tryz.prog Tryz.f8 [] false w args ∧ laidMetH Tryz.prog fingerUnlikeLaid w) ∧ sizedMet enc Tryz.prog Tryz.f8 (OpenSpec.ofChange Rows.fingerUnlikeSpec) false w args)
      (Rows.fingerUnlikeSpec.post enc Tryz.prog Tryz.f8 false true false false) := by
  refine returnsInHanded_of_change_and (C := Tryz.checked) (X := fun w _ => laidMetH Tryz.prog fingerUnlikeLaid w) (fun _ _ _ hh h => h.of_heap hh) own started (by kernel_rfl) Tryz.func8
    (ChangeSpec.witness_shaped (enc := enc) (C := Tryz.checked) (os := os) (X := fun w _ => laidMetH Tryz.prog fingerUnlikeLaid w) false (World.laidAll Tryz.prog os fingerUnlikeLaid) #[.slice none 0 0] 8 (World.laidAll_os _ _ _) (World.shaped_of_ZipB (by kernel_rfl) (by kernel_rfl)) (by kernel_rfl) (by kernel_rfl) (by kernel_rfl) (fingerUnlike_door os _)) ?_
  intro W base args ds gs before hval0 hW _ _ hX _
  have hval : ∀ (j : Nat) t v, Tryz.f8.params[j]? = some t → args[j]? = some v → Value.okWide Tryz.prog W .any base t v := hval0
  have hW' := hW
  obtain ⟨p, q, hA0, hV, rfl, hfz, hnd⟩ := hW
  have hA : DataW.TrodAll enc Tryz.prog W 0 (fun _ => true) true Tryz.f8.params.toList args.toList ds p := hA0
  rw [Tryz.params8] at hA hval
  obtain ⟨v0, d0, rfl, rfl, h0⟩ := trodAll_one hA
  obtain ⟨rfl, rfl⟩ := trodVars_none hV
  obtain ⟨s0, g0⟩ := start_gs hX ⟨Rows.laid_strconv_ErrSyntax, List.mem_filter.2 ⟨List.mem_of_getElem? (i := 5) (by kernel_rfl), by kernel_rfl⟩⟩ ⟨Rows.laid_strconv_ErrRange, List.mem_filter.2 ⟨List.mem_of_getElem? (i := 4) (by kernel_rfl), by kernel_rfl⟩⟩ (List.mem_filter.2 ⟨List.mem_of_getElem? (i := 2) (by kernel_rfl), by kernel_rfl⟩)
  obtain ⟨s1, H1, a0, k1, r0, q0⟩ := arg_slice (P := Tryz.prog) (f := 12) (fun _ => rfl) Tryz.underlying46 (by kernel_rfl) (hval 0 46 v0 rfl rfl) h0 g0.rel g0.no
  have g1 := g0.trans k1
  have hgs : Pre Gs H1 := k1.pre
  have ha : VRelL s1 H1 [a0] (#[v0] : Array Value).toList := .cons r0 (.nil _ _)
  obtain ⟨x0, y0⟩ := rd_rules q0
  refine (callsT_of (P := Tryz.prog) (w_funl hgs y0.1) (by kernel_rfl) g1.rel ha).mono fun e W' ⟨he, hw⟩ => ?_
  exact ⟨_, he, post_true (tb := 4) hW' rfl rfl (by kernel_rfl) Tryz.underlying4 laidOut (by kernel_rfl) hw⟩
theorem fingerUnlike_said : Rows.FingerUnlikeSaid :=
  OpenClaim.holds_of_wide 8 Tryz.f8 rfl rfl rfl rfl rfl rfl rfl ⟨rfl, rfl, rfl, rfl, rfl⟩ rfl rfl rfl rfl rfl (by kernel_rfl) Tryz.func8 (by kernel_rfl)
    (of_decide_eq_true (by kernel_rfl)) (by unfold Func.isWrapper; first | (rw [if_pos (by decide +kernel)]; kernel_rfl) | (rw [if_neg (by decide +kernel)]; exact ⟨rfl, rfl⟩))
    (fun os started H enc _ => fingerUnlike_lifted os started H enc)
theorem fingerUnlike_holds : Rows.FingerUnlikeCardSaid :=
  Claim7.holds_tied_plain_at .later [] [.data, .data, .data, .data, .sentinel, .sentinel, .pinned] true (true, "fde039e8609e075c077b02e71ea27212d217c09f785cf624176f93ecc920fa71") true
    fingerUnlike_said (fun _ h => by cases h) (by kernel_rfl) (fun _ h => by cases h) fingerUnlike_row_tie rfl ⟨rfl, rfl⟩ (by kernel_rfl) rfl
    (fun f fn hf hfn => by
      obtain rfl : f = 8 := Option.some.inj ((show Tryz.prog.funcNamed "tocsin/tocsinlaw14.FingerUnlike" = some 8 by kernel_rfl).symm.trans hf) |>.symm
      obtain rfl : fn = Tryz.f8 := (Option.some.inj (Tryz.func8.symm.trans hfn)).symm
      exact ⟨by kernel_rfl, fun j t ht => by
        rw [Tryz.params8] at ht
        have h3 : t = 46 := by
          rcases j with _ | j
          all_goals simp at ht
          all_goals subst ht
          all_goals simp
        rcases h3 with rfl
        · exact (show Tryz.prog.wantsStandIn 46 = false by kernel_rfl)⟩)
    (by kernel_rfl)
#print axioms fingerUnlike_holds
end Go.Proofs.YtpkdgmcfojjfjaaGreatDoor
