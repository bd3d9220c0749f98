/- The first instant above a minute is a multiple, above it, and none lies between: the law SwapNext answers true for all numbers.
   No condition beyond the row's own. -/
import Derived.Test.YtmajhiahjkjflaaGreatDoorJSwapNext2
import Derived.Test.YtmajhiahjkjflaaGreatDoorJSwapNext4
import Derived.Test.YtmajhiahjkjflaaGreatDoorJSwapNext5
namespace Go.Proofs.YtmajhiahjkjflaaGreatDoor
open Go Go.Vi Go.ChangeShapes Go.WideShapes Go.RowKit Go.Proofs Go.Proofs.Tryz
def swapNextLaid:List (String × DataW Unit):=Rows.swapNextRow.laid
theorem swapNext_door (os:Os) (args:Array Value):laidMetH prog swapNextLaid ((World.laidAll prog os swapNextLaid).forCall (fun _ _=>0) ⟨#[],args,[]⟩).memory :=
 by
 rw [Go.MakeChecks.laidMetH_plain _ _ _ (by kernel_rfl)]
 exact laidMet_laidAll args (by kernel_rfl) (by kernel_rfl)
set_option maxRecDepth 100000 in
theorem swapNext_lifted (os:Os) (started:os.Started) (H:Type) (enc:TypeId × Value→H) :
  ReturnsInHanded {} checked os 4 .any (fun w args=>(Rows.swapNextSpec.pre enc prog Tryz.f4 [] false w args∧laidMetH prog swapNextLaid w)∧sizedMet enc prog Tryz.f4 (OpenSpec.ofChange Rows.swapNextSpec) false w args)
   (Rows.swapNextSpec.post enc prog Tryz.f4 false true false false):=by
 refine returnsInHanded_of_change_and (C:=checked) (X:=fun w _=>laidMetH prog swapNextLaid w) (fun _ _ _ hh h=>h.of_heap hh) own started (by kernel_rfl) func4
  (ChangeSpec.witness_shaped (enc:=enc) (C:=checked) (os:=os) (X:=fun w _=>laidMetH prog swapNextLaid w) false (World.laidAll prog os swapNextLaid) #[.int .i64 0,.int .i64 0] 8 (World.laidAll_os _ _ _) (World.shaped_of_ZipB (by kernel_rfl) (by kernel_rfl)) (by kernel_rfl) (by kernel_rfl) (by kernel_rfl) (swapNext_door os _)) ?_
 intro W base args ds gs before hval0 hW _ _ hX _
 have hval:∀ (j:Nat) t v,Tryz.f4.params[j]?=some t→args[j]?=some v→Value.okWide prog W .any base t v:=hval0
 have hW':=hW
 obtain ⟨p,q,hA0,hV,rfl,hfz,hnd⟩:=hW
 have hA:DataW.TrodAll enc prog W 0 (fun _=>true) true Tryz.f4.params.toList args.toList ds p:=hA0
 rw [params4] at hA hval
 obtain ⟨v0,v1,d0,d1,p0,p1,rfl,rfl,rfl,h0,h1⟩:=trodAll_two hA
 obtain ⟨rfl,rfl⟩:=trodVars_none hV
 obtain ⟨s0,g0⟩:=start_gs hX ⟨Rows.laid_strconv_ErrSyntax,List.mem_filter.2 ⟨List.mem_of_getElem? (i:=5) (by kernel_rfl),by kernel_rfl⟩⟩ ⟨Rows.laid_strconv_ErrRange,List.mem_filter.2 ⟨List.mem_of_getElem? (i:=4) (by kernel_rfl),by kernel_rfl⟩⟩ (List.mem_filter.2 ⟨List.mem_of_getElem? (i:=2) (by kernel_rfl),by kernel_rfl⟩)
 obtain ⟨n0,rfl,rfl,rfl,b0⟩:=open_int underlying3 (hval 0 3 v0 rfl rfl) h0
 obtain ⟨n1,rfl,rfl,rfl,b1⟩:=open_int underlying3 (hval 1 3 v1 rfl rfl) h1
 have hgs:Pre Gs Gs:=.refl Gs
 have ha:VRelL s0 Gs [i64 n0,i64 n1] (#[.int .i64 n0,.int .i64 n1]:Array Value).toList:=.cons (.lit _ rfl) (.cons (.lit _ rfl) (.nil _ _))
 refine (callsT_of (P:=prog) (w_snext hgs _ _) (by kernel_rfl) g0.rel ha).mono fun e W' ⟨he,hw⟩=>?_
 exact ⟨_,he,post_true (tb:=4) hW' rfl rfl (by kernel_rfl) underlying4 laidOut (by kernel_rfl) hw⟩
theorem swapNext_said:Rows.SwapNextSaid :=
 OpenClaim.holds_of_wide 4 Tryz.f4 rfl rfl rfl rfl rfl rfl rfl ⟨rfl,rfl,rfl,rfl,rfl⟩ rfl rfl rfl rfl rfl (by kernel_rfl) func4 (by kernel_rfl)
  (of_decide_eq_true (by kernel_rfl)) (by unfold Func.isWrapper;first | (rw [if_pos (by decide +kernel)];kernel_rfl) | (rw [if_neg (by decide +kernel)];exact ⟨rfl,rfl⟩))
  (fun os started H enc _=>swapNext_lifted os started H enc)
theorem swapNext_holds:Rows.SwapNextCardSaid :=
 Claim7.holds_tied_plain_at .later [] [.data, .data, .data, .data, .sentinel, .sentinel, .pinned] true (true, "4d076318f26114c22674fd157f3a5a52baa09206506f6f6ae76f7fd32a7d7f28") true
  swapNext_said (fun _ h=>by cases h) (by kernel_rfl) (fun _ h=>by cases h) swapNext_row_tie rfl ⟨rfl,rfl⟩ (by kernel_rfl) rfl
  (fun f fn hf hfn=>by
   obtain rfl : f = 4 := Option.some.inj ((show prog.funcNamed "tocsin/tocsinlaw27.SwapNext" = some 4 by kernel_rfl).symm.trans hf) |>.symm
   obtain rfl:fn=Tryz.f4:=(Option.some.inj (func4.symm.trans hfn)).symm
   exact ⟨by kernel_rfl,fun j t ht=>by
    rw [params4] at ht
    have h3:t=3:=by
     rcases j with _ | _ | j
     all_goals simp at ht
     all_goals subst ht
     all_goals simp
    rcases h3 with rfl
    · exact (show prog.wantsStandIn 3=false by kernel_rfl)⟩)
  (by kernel_rfl)
#print axioms swapNext_holds
end Go.Proofs.YtmajhiahjkjflaaGreatDoor
