/- Right nodes, written and read again, are the same, and what is read is right, and its text is read as the same nodes: the law ExprBack answers true for all nodes and texts.
   No condition beyond the row's own. -/
import Derived.Test.YtpkdgmcfojjfjaaGreatDoorJ2
import Derived.Test.YtpkdgmcfojjfjaaGreatDoorJ4
import Derived.Test.YtpkdgmcfojjfjaaGreatDoorJ5
import Derived.Test.YtpkdgmcfojjfjaaGreatDoorJExprBack7
namespace Go.Proofs.YtpkdgmcfojjfjaaGreatDoor
open Go Go.Vi Go.ChangeShapes Go.WideShapes Go.RowKit Go.Proofs

def exprBackLaid : List (String × DataW Unit) := Rows.exprBackRow.laid
theorem exprBack_door (os : Os) (args : Array Value) : laidMetH Tryz.prog exprBackLaid ((World.laidAll Tryz.prog os exprBackLaid).forCall (fun _ _ => 0) ⟨#[], args, []⟩).memory :=
  by
  rw [Go.MakeChecks.laidMetH_plain _ _ _ (by kernel_rfl)]
  exact laidMet_laidAll args (by kernel_rfl) (by kernel_rfl)
set_option maxRecDepth 100000 in
theorem exprBack_lifted (os : Os) (started : os.Started) (H : Type) (enc : TypeId × Value → H) :
    ReturnsInHanded {} Tryz.checked os 6 .any (fun w args => (Rows.exprBackSpec.pre enc Tryz.prog Tryz.f6 [] false w args ∧ laidMetH Tryz.prog exprBackLaid w) ∧ sizedMet enc Tryz.prog Tryz.f6 (OpenSpec.ofChange Rows.exprBackSpec) false w args)
      (Rows.exprBackSpec.post enc Tryz.prog Tryz.f6 false true false false) := by
  refine returnsInHanded_of_change_and (C := Tryz.checked) (X := fun w _ => laidMetH Tryz.prog exprBackLaid w) (fun _ _ _ hh h => h.of_heap hh) own started (by kernel_rfl) Tryz.func6
    (ChangeSpec.witness_shaped (enc := enc) (C := Tryz.checked) (os := os) (X := fun w _ => laidMetH Tryz.prog exprBackLaid w) false (World.laidAll Tryz.prog os exprBackLaid) #[.slice none 0 0, .string ⟨#[]⟩] 8 (World.laidAll_os _ _ _) (World.shaped_of_ZipB (by kernel_rfl) (by kernel_rfl)) (by kernel_rfl) (by kernel_rfl) (by kernel_rfl) (exprBack_door os _)) ?_
  intro W base args ds gs before hval0 hW _ _ hX _
  have hval : ∀ (j : Nat) t v, Tryz.f6.params[j]? = some t → args[j]? = some v → Value.okWide Tryz.prog W .any base t v := hval0
  have hW' := hW
  obtain ⟨p, q, hA0, hV, rfl, hfz, hnd⟩ := hW
  have hA : DataW.TrodAll enc Tryz.prog W 0 (fun _ => true) true Tryz.f6.params.toList args.toList ds p := hA0
  rw [Tryz.params6] at hA hval
  obtain ⟨v0, v1, d0, d1, p0, p1, rfl, rfl, rfl, h0, h1⟩ := trodAll_two hA
  obtain ⟨rfl, rfl⟩ := trodVars_none hV
  obtain ⟨s0, g0⟩ := start_gs hX ⟨Rows.laid_strconv_ErrSyntax, List.mem_filter.2 ⟨List.mem_of_getElem? (i := 5) (by kernel_rfl), by kernel_rfl⟩⟩ ⟨Rows.laid_strconv_ErrRange, List.mem_filter.2 ⟨List.mem_of_getElem? (i := 4) (by kernel_rfl), by kernel_rfl⟩⟩ (List.mem_filter.2 ⟨List.mem_of_getElem? (i := 2) (by kernel_rfl), by kernel_rfl⟩)
  obtain ⟨s1, H1, a0, k1, r0, q0⟩ := arg_slice (P := Tryz.prog) (f := 12) (fun _ => rfl) Tryz.underlying27 (by kernel_rfl) (hval 0 27 v0 rfl rfl) h0 g0.rel g0.no
  have g1 := g0.trans k1
  obtain ⟨l1, rfl, rfl, rfl, b1⟩ := open_str Tryz.underlying9 (hval 1 9 v1 rfl rfl) h1
  have hgs : Pre Gs H1 := k1.pre
  have ha : VRelL s1 H1 [a0, str l1] (#[v0, str l1] : Array Value).toList := .cons r0 (.cons (.lit _ rfl) (.nil _ _))
  obtain ⟨x0, y0⟩ := rd_nodes q0
  refine (callsT_of (P := Tryz.prog) (w_back hgs y0.1) (by kernel_rfl) g1.rel ha).mono fun e W' ⟨he, hw⟩ => ?_
  exact ⟨_, he, post_true (tb := 4) hW' rfl rfl (by kernel_rfl) Tryz.underlying4 laidOut (by kernel_rfl) hw⟩
theorem exprBack_said : Rows.ExprBackSaid :=
  OpenClaim.holds_of_wide 6 Tryz.f6 rfl rfl rfl rfl rfl rfl rfl ⟨rfl, rfl, rfl, rfl, rfl⟩ rfl rfl rfl rfl rfl (by kernel_rfl) Tryz.func6 (by kernel_rfl)
    (of_decide_eq_true (by kernel_rfl)) (by unfold Func.isWrapper; first | (rw [if_pos (by decide +kernel)]; kernel_rfl) | (rw [if_neg (by decide +kernel)]; exact ⟨rfl, rfl⟩))
    (fun os started H enc _ => exprBack_lifted os started H enc)
theorem exprBack_holds : Rows.ExprBackCardSaid :=
  Claim7.holds_tied_plain_at .later [] [.data, .data, .data, .data, .sentinel, .sentinel, .pinned] true (true, "fde039e8609e075c077b02e71ea27212d217c09f785cf624176f93ecc920fa71") true
    exprBack_said (fun _ h => by cases h) (by kernel_rfl) (fun _ h => by cases h) exprBack_row_tie rfl ⟨rfl, rfl⟩ (by kernel_rfl) rfl
    (fun f fn hf hfn => by
      obtain rfl : f = 6 := Option.some.inj ((show Tryz.prog.funcNamed "tocsin/tocsinlaw10.ExprBack" = some 6 by kernel_rfl).symm.trans hf) |>.symm
      obtain rfl : fn = Tryz.f6 := (Option.some.inj (Tryz.func6.symm.trans hfn)).symm
      exact ⟨by kernel_rfl, fun j t ht => by
        rw [Tryz.params6] at ht
        have h3 : t = 27 ∨ t = 9 := by
          rcases j with _ | _ | j
          all_goals simp at ht
          all_goals subst ht
          all_goals simp
        rcases h3 with rfl | rfl
        · exact (show Tryz.prog.wantsStandIn 27 = false by kernel_rfl)
        · exact (show Tryz.prog.wantsStandIn 9 = false by kernel_rfl)⟩)
    (by kernel_rfl)
#print axioms exprBack_holds
end Go.Proofs.YtpkdgmcfojjfjaaGreatDoor
