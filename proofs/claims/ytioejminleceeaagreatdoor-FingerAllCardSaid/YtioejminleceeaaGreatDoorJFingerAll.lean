/- Any rules have the fingerprints that the chapter says, and it is told whether none comes twice; they stay: the law FingerAll answers true for all rules.
   No condition beyond the row's own. -/
import Derived.Test.YtioejminleceeaaGreatDoorJFingerAll2
import Derived.Test.YtioejminleceeaaGreatDoorJFingerAll3
import Derived.Test.YtioejminleceeaaGreatDoorJFingerAll6
namespace Go.Proofs.YtioejminleceeaaGreatDoor
open Go Go.Vi Go.ChangeShapes Go.WideShapes Go.RowKit Go.Proofs Go.Proofs.Tryz
def fingerAllLaid:List (String × DataW Unit):=Rows.fingerAllRow.laid
theorem fingerAll_door (os:Os) (args:Array Value):laidMetH prog fingerAllLaid ((World.laidAll prog os fingerAllLaid).forCall (fun _ _=>0) ⟨#[],args,[]⟩).memory :=
 by
 rw [Go.MakeChecks.laidMetH_plain _ _ _ (by kernel_rfl)]
 exact laidMet_laidAll args (by kernel_rfl) (by kernel_rfl)
set_option maxRecDepth 100000 in
theorem fingerAll_lifted (os:Os) (started:os.Started) (H:Type) (enc:TypeId × Value→H) :
  ReturnsInHanded {} checked os 3 .any (fun w args=>(Rows.fingerAllSpec.pre enc prog Tryz.f3 [] false w args∧laidMetH prog fingerAllLaid w)∧sizedMet enc prog Tryz.f3 (OpenSpec.ofChange Rows.fingerAllSpec) false w args)
   (Rows.fingerAllSpec.post enc prog Tryz.f3 false true false false):=by
 refine returnsInHanded_of_change_and (C:=checked) (X:=fun w _=>laidMetH prog fingerAllLaid w) (fun _ _ _ hh h=>h.of_heap hh) own started (by kernel_rfl) func3
  (ChangeSpec.witness_shaped (enc:=enc) (C:=checked) (os:=os) (X:=fun w _=>laidMetH prog fingerAllLaid w) false (World.laidAll prog os fingerAllLaid) #[.slice none 0 0] 8 (World.laidAll_os _ _ _) (World.shaped_of_ZipB (by kernel_rfl) (by kernel_rfl)) (by kernel_rfl) (by kernel_rfl) (by kernel_rfl) (fingerAll_door os _)) ?_
 intro W base args ds gs before hval0 hW _ _ hX _
 have hval:∀ (j:Nat) t v,Tryz.f3.params[j]?=some t→args[j]?=some v→Value.okWide prog W .any base t v:=hval0
 have hW':=hW
 obtain ⟨p,q,hA0,hV,rfl,hfz,hnd⟩:=hW
 have hA:DataW.TrodAll enc prog W 0 (fun _=>true) true Tryz.f3.params.toList args.toList ds p:=hA0
 rw [params3] at hA hval
 obtain ⟨v0,d0,rfl,rfl,h0⟩:=trodAll_one hA
 obtain ⟨rfl,rfl⟩:=trodVars_none hV
 obtain ⟨s0,g0⟩:=start_pw hX (List.mem_filter.2 ⟨List.mem_of_getElem? (i:=2) (by kernel_rfl),by kernel_rfl⟩)
 obtain ⟨s1,H1,a0,k1,r0,q0⟩:=arg_slice (P:=prog) (f:=12) (fun _=>rfl) underlying22 (by kernel_rfl) (hval 0 22 v0 rfl rfl) h0 g0.rel g0.no
 have g1:=g0.trans k1
 have hgs:Pre Gp H1:=k1.pre
 have ha:VRelL s1 H1 [a0] (#[v0]:Array Value).toList:=.cons r0 (.nil _ _)
 obtain ⟨x0,y0⟩:=rd_rulesF q0
 refine (callsT_of (P:=prog) (w_fall (pw_gp hgs) y0.1 y0.2) (by kernel_rfl) g1.rel ha).mono fun e W' ⟨he,hw⟩=>?_
 exact ⟨_,he,post_true (tb:=4) hW' rfl rfl (by kernel_rfl) underlying4 laidOut (by kernel_rfl) hw⟩
theorem fingerAll_said:Rows.FingerAllSaid :=
 OpenClaim.holds_of_wide 3 Tryz.f3 rfl rfl rfl rfl rfl rfl rfl ⟨rfl,rfl,rfl,rfl,rfl⟩ rfl rfl rfl rfl rfl (by kernel_rfl) func3 (by kernel_rfl)
  (of_decide_eq_true (by kernel_rfl)) (by unfold Func.isWrapper;first | (rw [if_pos (by decide +kernel)];kernel_rfl) | (rw [if_neg (by decide +kernel)];exact ⟨rfl,rfl⟩))
  (fun os started H enc _=>fingerAll_lifted os started H enc)
theorem fingerAll_holds:Rows.FingerAllCardSaid :=
 Claim7.holds_tied_plain_at .later [] [.data, .data, .data, .data, .pinned] true (true, "1c1a1fcedf2ef0769b5c3c20c839841ae72e9a54dff47876d94506825f2298f8") false
  fingerAll_said (fun _ h=>by cases h) (by kernel_rfl) (fun _ h=>by cases h) fingerAll_row_tie rfl ⟨rfl,rfl⟩ (by kernel_rfl) rfl
  (fun f fn hf hfn=>by
   obtain rfl : f = 3 := Option.some.inj ((show prog.funcNamed "tocsin/tocsinlaw14.FingerAll" = some 3 by kernel_rfl).symm.trans hf) |>.symm
   obtain rfl:fn=Tryz.f3:=(Option.some.inj (func3.symm.trans hfn)).symm
   exact ⟨by kernel_rfl,fun j t ht=>by
    rw [params3] at ht
    have h3:t=22:=by
     rcases j with _ | j
     all_goals simp at ht
     all_goals subst ht
     all_goals simp
    rcases h3 with rfl
    · exact (show prog.wantsStandIn 22=false by kernel_rfl)⟩)
  (by kernel_rfl)
#print axioms fingerAll_holds
end Go.Proofs.YtioejminleceeaaGreatDoor
