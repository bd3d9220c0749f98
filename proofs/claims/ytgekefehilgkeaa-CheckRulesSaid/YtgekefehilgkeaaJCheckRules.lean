/- Whether any rule, any mute may be, and the greatest window, is what the chapter says, and the rule stays: the law CheckRules answers true for all rules and mutes.
   No condition beyond the row's own. -/
import Derived.Test.YtgekefehilgkeaaJCheckRules2
import Derived.Test.YtgekefehilgkeaaJCheckRules3
import Derived.Test.YtgekefehilgkeaaJCheckRules6
namespace Go.Proofs.Ytgekefehilgkeaa
open Go Go.Vi Go.ChangeShapes Go.WideShapes Go.RowKit Go.Proofs Go.Proofs.Try
set_option maxRecDepth 100000 in
theorem checkRules_lifted (os : Os) (started : os.Started) (H : Type) (enc : TypeId × Value → H) :
  ReturnsInHanded {} checked os 3 .any (Rows.checkRulesSpec.pre6 enc prog Try.f3 Rows.checkRulesRow.domain false) (Rows.checkRulesSpec.post enc prog Try.f3 false true false false) := by
 refine returnsInHanded_of_change_sized (C := checked) own started (by kernel_rfl) func3
  (ChangeSpec.witness6 (enc := enc) (C := checked) false ⟨#[],#[.agg #[.string ⟨#[]⟩,.string ⟨#[]⟩,.slice none 0 0,.int .i64 0,.int .i64 0,.int .i64 0,.slice none 0 0,.string ⟨#[]⟩],.agg #[.string ⟨#[]⟩,.bool false,.bool false,.bool false,.bool false,.bool false,.bool false,.bool false,.int .i64 0,.int .i64 0]],[]⟩ 8 (by kernel_rfl) (by kernel_rfl) (by kernel_rfl) (by kernel_rfl)) ?_
 intro W base args ds gs before hval0 hW _ _ _
 have hval : ∀ (j : Nat) t v,Try.f3.params[j]? = some t → args[j]? = some v → Value.okWide prog W .any base t v := hval0
 have hW' := hW
 obtain ⟨p,q,hA0,hV,rfl,hfz,hnd⟩ := hW
 have hA : DataW.TrodAll enc prog W 0 (fun _ => true) true Try.f3.params.toList args.toList ds p := hA0
 rw [params3] at hA hval
 obtain ⟨v0,v1,d0,d1,p0,p1,rfl,rfl,rfl,h0,h1⟩ := trodAll_two hA
 obtain ⟨rfl,rfl⟩ := trodVars_none hV
 have g0 : Got prog W (fun _ => ⟨0,0,0⟩) [] (fun _ => ⟨0,0,0⟩) [] := ⟨WRel.refl W _,NoOwn.nil,Ext.refl _ _,Pre.refl _⟩
 obtain ⟨s1,H1,a0,k1,r0,o0,q0⟩ := arg_agg (P := prog) (f := 12) (q := parts_ruleW) (fun _ => rfl) (by kernel_rfl) (by kernel_rfl) (hval 0 25 v0 rfl rfl) h0 g0.rel g0.no
 have g1 := g0.trans k1
 obtain ⟨s2,H2,a1,k2,r1,o1,q1⟩ := arg_agg (P := prog) (f := 12) (q := parts_muteW) (fun _ => rfl) (by kernel_rfl) (by kernel_rfl) (hval 1 28 v1 rfl rfl) h1 g1.rel g1.no
 have g2 := g1.trans k2
 have ha : VRelL s2 H2 [.agg a0.toArray,.agg a1.toArray] (#[v0,v1] : Array Value).toList := .cons (r0.mono k2.ext) (.cons r1 (.nil _ _))
 obtain ⟨x0,rfl,y0⟩ := rd_ruleW (q0.pre k2.pre)
 obtain ⟨x1,rfl,y1⟩ := rd_muteW q1
 refine (callsT_of (P := prog) (w_rules y0.1.1 y0.1.2.1 y0.1.2.2 y0.2 y1) (by kernel_rfl) g2.rel ha).mono fun e W' ⟨he,hw⟩ => ?_
 exact ⟨_,he,post_true (tb := 4) hW' rfl rfl (by kernel_rfl) underlying4 laidOut (by kernel_rfl) hw⟩
theorem checkRules_said : Rows.CheckRulesSaid :=
 OpenClaim.holds_of_wide 3 Try.f3 rfl rfl rfl rfl rfl rfl rfl ⟨rfl,rfl,rfl,rfl,rfl⟩ rfl rfl rfl rfl rfl (by kernel_rfl) func3 (by kernel_rfl)
  (of_decide_eq_true (by kernel_rfl)) (by unfold Func.isWrapper; first | (rw [if_pos (by decide +kernel)]; kernel_rfl) | (rw [if_neg (by decide +kernel)]; exact ⟨rfl,rfl⟩))
  (fun os started H enc _ => checkRules_lifted os started H enc)
theorem checkRules_holds : Rows.CheckRulesSaid := checkRules_said
#print axioms checkRules_holds
end Go.Proofs.Ytgekefehilgkeaa
