/- Any nodes are written as the chapter says, if they are right; they stay: the law ExprPrints answers true for all nodes.
   No condition beyond the row's own. -/
import Derived.Test.YtpkdgmcfojjfjaaGreatDoorJExprPrints2
import Derived.Test.YtpkdgmcfojjfjaaGreatDoorJExprPrints4
import Derived.Test.YtpkdgmcfojjfjaaGreatDoorJExprPrints6
namespace Go.Proofs.YtpkdgmcfojjfjaaGreatDoor
open Go Go.Vi Go.ChangeShapes Go.WideShapes Go.RowKit Go.Proofs Go.Proofs.Tryz
def exprPrintsLaid : List (String × DataW Unit) := Rows.exprPrintsRow.laid
theorem exprPrints_door (os : Os) (args : Array Value) : laidMetH prog exprPrintsLaid ((World.laidAll prog os exprPrintsLaid).forCall (fun _ _ => 0) ⟨#[],args,[]⟩).memory :=
 by
 rw [Go.MakeChecks.laidMetH_plain _ _ _ (by kernel_rfl)]
 exact laidMet_laidAll args (by kernel_rfl) (by kernel_rfl)
set_option maxRecDepth 100000 in
theorem exprPrints_lifted (os : Os) (started : os.Started) (H : Type) (enc : TypeId × Value → H) :
  ReturnsInHanded {} checked os 11 .any (fun w args => (Rows.exprPrintsSpec.pre enc prog Tryz.f11 [] false w args ∧ laidMetH prog exprPrintsLaid w) ∧ sizedMet enc prog Tryz.f11 (OpenSpec.ofChange Rows.exprPrintsSpec) false w args)
   (Rows.exprPrintsSpec.post enc prog Tryz.f11 false true false false) := by
 refine returnsInHanded_of_change_and (C := checked) (X := fun w _ => laidMetH prog exprPrintsLaid w) (fun _ _ _ hh h => h.of_heap hh) own started (by kernel_rfl) func11
  (ChangeSpec.witness_shaped (enc := enc) (C := checked) (os := os) (X := fun w _ => laidMetH prog exprPrintsLaid w) false (World.laidAll prog os exprPrintsLaid) #[.slice none 0 0] 8 (World.laidAll_os _ _ _) (World.shaped_of_ZipB (by kernel_rfl) (by kernel_rfl)) (by kernel_rfl) (by kernel_rfl) (by kernel_rfl) (exprPrints_door os _)) ?_
 intro W base args ds gs before hval0 hW _ _ hX _
 have hval : ∀ (j : Nat) t v,Tryz.f11.params[j]? = some t → args[j]? = some v → Value.okWide prog W .any base t v := hval0
 have hW' := hW
 obtain ⟨p,q,hA0,hV,rfl,hfz,hnd⟩ := hW
 have hA : DataW.TrodAll enc prog W 0 (fun _ => true) true Tryz.f11.params.toList args.toList ds p := hA0
 rw [params11] at hA hval
 obtain ⟨v0,d0,rfl,rfl,h0⟩ := trodAll_one hA
 obtain ⟨rfl,rfl⟩ := trodVars_none hV
 obtain ⟨s0,g0⟩ := start_pw hX (List.mem_filter.2 ⟨List.mem_of_getElem? (i := 2) (by kernel_rfl),by kernel_rfl⟩)
 obtain ⟨s1,H1,a0,k1,r0,q0⟩ := arg_slice (P := prog) (f := 12) (fun _ => rfl) underlying27 (by kernel_rfl) (hval 0 27 v0 rfl rfl) h0 g0.rel g0.no
 have g1 := g0.trans k1
 have hgs : Pre Gp H1 := k1.pre
 have ha : VRelL s1 H1 [a0] (#[v0] : Array Value).toList := .cons r0 (.nil _ _)
 obtain ⟨x0,y0⟩ := rd_nodesW q0
 refine (callsT_of (P := prog) (w_prints (pw_gp hgs) y0.1 y0.2) (by kernel_rfl) g1.rel ha).mono fun e W' ⟨he,hw⟩ => ?_
 exact ⟨_,he,post_true (tb := 4) hW' rfl rfl (by kernel_rfl) underlying4 laidOut (by kernel_rfl) hw⟩
theorem exprPrints_said : Rows.ExprPrintsSaid :=
 OpenClaim.holds_of_wide 11 Tryz.f11 rfl rfl rfl rfl rfl rfl rfl ⟨rfl,rfl,rfl,rfl,rfl⟩ rfl rfl rfl rfl rfl (by kernel_rfl) func11 (by kernel_rfl)
  (of_decide_eq_true (by kernel_rfl)) (by unfold Func.isWrapper; first | (rw [if_pos (by decide +kernel)]; kernel_rfl) | (rw [if_neg (by decide +kernel)]; exact ⟨rfl,rfl⟩))
  (fun os started H enc _ => exprPrints_lifted os started H enc)
theorem exprPrints_holds : Rows.ExprPrintsCardSaid :=
 Claim7.holds_tied_plain_at .later [] [.data, .data, .data, .data, .pinned] true (true, "fde039e8609e075c077b02e71ea27212d217c09f785cf624176f93ecc920fa71") true
  exprPrints_said (fun _ h => by cases h) (by kernel_rfl) (fun _ h => by cases h) exprPrints_row_tie rfl ⟨rfl,rfl⟩ (by kernel_rfl) rfl
  (fun f fn hf hfn => by
   obtain rfl : f = 11 := Option.some.inj ((show prog.funcNamed "tocsin/tocsinlaw10.ExprPrints" = some 11 by kernel_rfl).symm.trans hf) |>.symm
   obtain rfl : fn = Tryz.f11 := (Option.some.inj (func11.symm.trans hfn)).symm
   exact ⟨by kernel_rfl,fun j t ht => by
    rw [params11] at ht
    have h3 : t = 27 := by
     rcases j with _ | j
     all_goals simp at ht
     all_goals subst ht
     all_goals simp
    rcases h3 with rfl
    · exact (show prog.wantsStandIn 27 = false by kernel_rfl)⟩)
  (by kernel_rfl)
#print axioms exprPrints_holds
end Go.Proofs.YtpkdgmcfojjfjaaGreatDoor
