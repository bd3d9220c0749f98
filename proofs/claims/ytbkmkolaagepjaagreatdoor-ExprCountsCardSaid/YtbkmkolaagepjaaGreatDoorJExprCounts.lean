/- A condition has a node for each comparison and one for each operator, of right nodes comparisons are one more than those with two sides: the law ExprCounts answers true for all nodes.
   No condition beyond the row's own. -/
import Derived.Test.YtbkmkolaagepjaaGreatDoorJ2
import Derived.Test.YtbkmkolaagepjaaGreatDoorJ4
import Derived.Test.YtbkmkolaagepjaaGreatDoorJ5
import Derived.Test.YtbkmkolaagepjaaGreatDoorJExprCounts8
namespace Go.Proofs.YtbkmkolaagepjaaGreatDoor
open Go Go.Vi Go.ChangeShapes Go.WideShapes Go.RowKit Go.Proofs

def exprCountsLaid : List (String × DataW Unit) := Rows.exprCountsRow.laid
theorem exprCounts_door (os : Os) (args : Array Value) : laidMetH Tryz.prog exprCountsLaid ((World.laidAll Tryz.prog os exprCountsLaid).forCall (fun _ _ => 0) ⟨#[], args, []⟩).memory :=
  by
  rw [Go.MakeChecks.laidMetH_plain _ _ _ (by kernel_rfl)]
  exact laidMet_laidAll args (by kernel_rfl) (by kernel_rfl)
set_option maxRecDepth 100000 in
theorem exprCounts_lifted (os : Os) (started : os.Started) (H : Type) (enc : TypeId × Value → H) :
    ReturnsInHanded {} Tryz.checked os 4 .any (fun w args => (Rows.exprCountsSpec.pre enc Tryz.prog Tryz.f4 [] false w args ∧ laidMetH Tryz.prog exprCountsLaid w) ∧ sizedMet enc Tryz.prog Tryz.f4 (OpenSpec.ofChange Rows.exprCountsSpec) false w args)
      (Rows.exprCountsSpec.post enc Tryz.prog Tryz.f4 false true false false) := by
  refine returnsInHanded_of_change_and (C := Tryz.checked) (X := fun w _ => laidMetH Tryz.prog exprCountsLaid w) (fun _ _ _ hh h => h.of_heap hh) own started (by kernel_rfl) Tryz.func4
    (ChangeSpec.witness_shaped (enc := enc) (C := Tryz.checked) (os := os) (X := fun w _ => laidMetH Tryz.prog exprCountsLaid w) false (World.laidAll Tryz.prog os exprCountsLaid) #[.slice none 0 0] 8 (World.laidAll_os _ _ _) (World.shaped_of_ZipB (by kernel_rfl) (by kernel_rfl)) (by kernel_rfl) (by kernel_rfl) (by kernel_rfl) (exprCounts_door os _)) ?_
  intro W base args ds gs before hval0 hW _ _ hX _
  have hval : ∀ (j : Nat) t v, Tryz.f4.params[j]? = some t → args[j]? = some v → Value.okWide Tryz.prog W .any base t v := hval0
  have hW' := hW
  obtain ⟨p, q, hA0, hV, rfl, hfz, hnd⟩ := hW
  have hA : DataW.TrodAll enc Tryz.prog W 0 (fun _ => true) true Tryz.f4.params.toList args.toList ds p := hA0
  rw [Tryz.params4] at hA hval
  obtain ⟨v0, d0, rfl, rfl, h0⟩ := trodAll_one hA
  obtain ⟨rfl, rfl⟩ := trodVars_none hV
  obtain ⟨s0, g0⟩ := start_gs hX ⟨Rows.laid_strconv_ErrSyntax, List.mem_filter.2 ⟨List.mem_of_getElem? (i := 5) (by kernel_rfl), by kernel_rfl⟩⟩ ⟨Rows.laid_strconv_ErrRange, List.mem_filter.2 ⟨List.mem_of_getElem? (i := 4) (by kernel_rfl), by kernel_rfl⟩⟩ (List.mem_filter.2 ⟨List.mem_of_getElem? (i := 2) (by kernel_rfl), by kernel_rfl⟩)
  obtain ⟨s1, H1, a0, k1, r0, q0⟩ := arg_slice (P := Tryz.prog) (f := 12) (fun _ => rfl) Tryz.underlying27 (by kernel_rfl) (hval 0 27 v0 rfl rfl) h0 g0.rel g0.no
  have g1 := g0.trans k1
  have hgs : Pre Gs H1 := k1.pre
  have ha : VRelL s1 H1 [a0] (#[v0] : Array Value).toList := .cons r0 (.nil _ _)
  obtain ⟨x0, y0⟩ := rd_nodes q0
  refine (callsT_of (P := Tryz.prog) (w_counts hgs y0.1) (by kernel_rfl) g1.rel ha).mono fun e W' ⟨he, hw⟩ => ?_
  exact ⟨_, he, post_true (tb := 4) hW' rfl rfl (by kernel_rfl) Tryz.underlying4 laidOut (by kernel_rfl) hw⟩
theorem exprCounts_said : Rows.ExprCountsSaid :=
  OpenClaim.holds_of_wide 4 Tryz.f4 rfl rfl rfl rfl rfl rfl rfl ⟨rfl, rfl, rfl, rfl, rfl⟩ rfl rfl rfl rfl rfl (by kernel_rfl) Tryz.func4 (by kernel_rfl)
    (of_decide_eq_true (by kernel_rfl)) (by unfold Func.isWrapper; first | (rw [if_pos (by decide +kernel)]; kernel_rfl) | (rw [if_neg (by decide +kernel)]; exact ⟨rfl, rfl⟩))
    (fun os started H enc _ => exprCounts_lifted os started H enc)
theorem exprCounts_holds : Rows.ExprCountsCardSaid :=
  Claim7.holds_tied_plain_at .later [] [.data, .data, .data, .data, .sentinel, .sentinel, .pinned] true (true, "835127bd9a3781ec729651f9db63f07315c9e2e8d065f7be212c22ab11bea1c5") true
    exprCounts_said (fun _ h => by cases h) (by kernel_rfl) (fun _ h => by cases h) exprCounts_row_tie rfl ⟨rfl, rfl⟩ (by kernel_rfl) rfl
    (fun f fn hf hfn => by
      obtain rfl : f = 4 := Option.some.inj ((show Tryz.prog.funcNamed "tocsin/tocsinlaw10.ExprCounts" = some 4 by kernel_rfl).symm.trans hf) |>.symm
      obtain rfl : fn = Tryz.f4 := (Option.some.inj (Tryz.func4.symm.trans hfn)).symm
      exact ⟨by kernel_rfl, fun j t ht => by
        rw [Tryz.params4] at ht
        have h3 : t = 27 := by
          rcases j with _ | j
          all_goals simp at ht
          all_goals subst ht
          all_goals simp
        rcases h3 with rfl
        · exact (show Tryz.prog.wantsStandIn 27 = false by kernel_rfl)⟩)
    (by kernel_rfl)
#print axioms exprCounts_holds
end Go.Proofs.YtbkmkolaagepjaaGreatDoor
