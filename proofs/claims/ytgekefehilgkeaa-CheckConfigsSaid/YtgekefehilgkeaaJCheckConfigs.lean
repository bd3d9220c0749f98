/- Whether a configuration may be is what the chapter says, and the configuration stays: the law CheckConfigs answers true for all of them.
   No condition beyond the row's own. -/
import Derived.Test.YtgekefehilgkeaaJCheckConfigs2
import Derived.Test.YtgekefehilgkeaaJCheckConfigs4
import Derived.Test.YtgekefehilgkeaaJCheckConfigs7
namespace Go.Proofs.Ytgekefehilgkeaa
open Go Go.Vi Go.ChangeShapes Go.WideShapes Go.RowKit Go.Proofs Go.Proofs.Try
set_option maxRecDepth 100000 in
theorem checkConfigs_lifted (os : Os) (started : os.Started) (H : Type) (enc : TypeId × Value → H) :
  ReturnsInHanded {} checked os 4 .any (Rows.checkConfigsSpec.pre6 enc prog Try.f4 Rows.checkConfigsRow.domain false) (Rows.checkConfigsSpec.post enc prog Try.f4 false true false false) := by
 refine returnsInHanded_of_change_sized (C := checked) own started (by kernel_rfl) func4
  (ChangeSpec.witness6 (enc := enc) (C := checked) false ⟨#[],#[.agg #[.slice none 0 0,.slice none 0 0,.int .i64 0,.int .i64 0]],[]⟩ 8 (by kernel_rfl) (by kernel_rfl) (by kernel_rfl) (by kernel_rfl)) ?_
 intro W base args ds gs before hval0 hW _ _ _
 have hval : ∀ (j : Nat) t v,Try.f4.params[j]? = some t → args[j]? = some v → Value.okWide prog W .any base t v := hval0
 have hW' := hW
 obtain ⟨p,q,hA0,hV,rfl,hfz,hnd⟩ := hW
 have hA : DataW.TrodAll enc prog W 0 (fun _ => true) true Try.f4.params.toList args.toList ds p := hA0
 rw [params4] at hA hval
 obtain ⟨v0,d0,rfl,rfl,h0⟩ := trodAll_one hA
 obtain ⟨rfl,rfl⟩ := trodVars_none hV
 have g0 : Got prog W (fun _ => ⟨0,0,0⟩) [] (fun _ => ⟨0,0,0⟩) [] := ⟨WRel.refl W _,NoOwn.nil,Ext.refl _ _,Pre.refl _⟩
 obtain ⟨s1,H1,a0,k1,r0,o0,q0⟩ := arg_agg (P := prog) (f := 12) (q := parts_cfgW) (fun _ => rfl) (by kernel_rfl) (by kernel_rfl) (hval 0 42 v0 rfl rfl) h0 g0.rel g0.no
 have g1 := g0.trans k1
 have ha : VRelL s1 H1 [.agg a0.toArray] (#[v0] : Array Value).toList := .cons r0 (.nil _ _)
 obtain ⟨x0,rfl,y0⟩ := rd_cfgW q0
 refine (callsT_of (P := prog) (w_configs y0.1.1 y0.1.2 y0.2) (by kernel_rfl) g1.rel ha).mono fun e W' ⟨he,hw⟩ => ?_
 exact ⟨_,he,post_true (tb := 4) hW' rfl rfl (by kernel_rfl) underlying4 laidOut (by kernel_rfl) hw⟩
theorem checkConfigs_said : Rows.CheckConfigsSaid :=
 OpenClaim.holds_of_wide 4 Try.f4 rfl rfl rfl rfl rfl rfl rfl ⟨rfl,rfl,rfl,rfl,rfl⟩ rfl rfl rfl rfl rfl (by kernel_rfl) func4 (by kernel_rfl)
  (of_decide_eq_true (by kernel_rfl)) (by unfold Func.isWrapper; first | (rw [if_pos (by decide +kernel)]; kernel_rfl) | (rw [if_neg (by decide +kernel)]; exact ⟨rfl,rfl⟩))
  (fun os started H enc _ => checkConfigs_lifted os started H enc)
theorem checkConfigs_holds : Rows.CheckConfigsSaid := checkConfigs_said
#print axioms checkConfigs_holds
end Go.Proofs.Ytgekefehilgkeaa
