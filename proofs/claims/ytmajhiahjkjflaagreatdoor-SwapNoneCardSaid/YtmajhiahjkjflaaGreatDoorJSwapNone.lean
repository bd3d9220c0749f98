/- A configuration without rules leaves no alerts and no tasks: the law SwapNone answers true for all alerts, tasks and minutes.
   No condition beyond the row's own. -/
import Derived.Test.YtmajhiahjkjflaaGreatDoorJSwapNone2
import Derived.Test.YtmajhiahjkjflaaGreatDoorJSwapNone5
namespace Go.Proofs.YtmajhiahjkjflaaGreatDoor
open Go Go.Vi Go.ChangeShapes Go.WideShapes Go.RowKit Go.Proofs Go.Proofs.Tryz
def swapNoneLaid:List (String × DataW Unit):=Rows.swapNoneRow.laid
theorem swapNone_door (os:Os) (args:Array Value):laidMetH prog swapNoneLaid ((World.laidAll prog os swapNoneLaid).forCall (fun _ _=>0) ⟨#[],args,[]⟩).memory :=
 by
 rw [Go.MakeChecks.laidMetH_plain _ _ _ (by kernel_rfl)]
 exact laidMet_laidAll args (by kernel_rfl) (by kernel_rfl)
set_option maxRecDepth 100000 in
theorem swapNone_lifted (os:Os) (started:os.Started) (H:Type) (enc:TypeId × Value→H) :
  ReturnsInHanded {} checked os 3 .any (fun w args=>(Rows.swapNoneSpec.pre enc prog Tryz.f3 [] false w args∧laidMetH prog swapNoneLaid w)∧sizedMet enc prog Tryz.f3 (OpenSpec.ofChange Rows.swapNoneSpec) false w args)
   (Rows.swapNoneSpec.post enc prog Tryz.f3 false true false false):=by
 refine returnsInHanded_of_change_and (C:=checked) (X:=fun w _=>laidMetH prog swapNoneLaid w) (fun _ _ _ hh h=>h.of_heap hh) own started (by kernel_rfl) func3
  (ChangeSpec.witness_shaped (enc:=enc) (C:=checked) (os:=os) (X:=fun w _=>laidMetH prog swapNoneLaid w) false (World.laidAll prog os swapNoneLaid) #[.slice none 0 0,.slice none 0 0,.int .i64 0] 8 (World.laidAll_os _ _ _) (World.shaped_of_ZipB (by kernel_rfl) (by kernel_rfl)) (by kernel_rfl) (by kernel_rfl) (by kernel_rfl) (swapNone_door os _)) ?_
 intro W base args ds gs before hval0 hW _ _ hX _
 have hval:∀ (j:Nat) t v,Tryz.f3.params[j]?=some t→args[j]?=some v→Value.okWide prog W .any base t v:=hval0
 have hW':=hW
 obtain ⟨p,q,hA0,hV,rfl,hfz,hnd⟩:=hW
 have hA:DataW.TrodAll enc prog W 0 (fun _=>true) true Tryz.f3.params.toList args.toList ds p:=hA0
 rw [params3] at hA hval
 obtain ⟨v0,v1,v2,d0,d1,d2,p0,p1,p2,rfl,rfl,rfl,h0,h1,h2⟩:=trodAll_three hA
 obtain ⟨rfl,rfl⟩:=trodVars_none hV
 obtain ⟨s0,g0⟩:=start_gs hX ⟨Rows.laid_strconv_ErrSyntax,List.mem_filter.2 ⟨List.mem_of_getElem? (i:=5) (by kernel_rfl),by kernel_rfl⟩⟩ ⟨Rows.laid_strconv_ErrRange,List.mem_filter.2 ⟨List.mem_of_getElem? (i:=4) (by kernel_rfl),by kernel_rfl⟩⟩ (List.mem_filter.2 ⟨List.mem_of_getElem? (i:=2) (by kernel_rfl),by kernel_rfl⟩)
 obtain ⟨s1,H1,a0,k1,r0,q0⟩:=arg_slice (P:=prog) (f:=12) (fun _=>rfl) underlying22 (by kernel_rfl) (hval 0 22 v0 rfl rfl) h0 g0.rel g0.no
 have g1:=g0.trans k1
 obtain ⟨s2,H2,a1,k2,r1,q1⟩:=arg_slice (P:=prog) (f:=12) (fun _=>rfl) underlying23 (by kernel_rfl) (hval 1 23 v1 rfl rfl) h1 g1.rel g1.no
 have g2:=g1.trans k2
 obtain ⟨n2,rfl,rfl,rfl,b2⟩:=open_int underlying3 (hval 2 3 v2 rfl rfl) h2
 have hgs:Pre Gs H2:=(k1.pre.trans k2.pre)
 have ha:VRelL s2 H2 [a0,a1,i64 n2] (#[v0,v1,.int .i64 n2]:Array Value).toList:=.cons (r0.mono k2.ext) (.cons r1 (.cons (.lit _ rfl) (.nil _ _)))
 obtain ⟨x0,y0⟩:=rd_alerts (q0.pre k2.pre)
 obtain ⟨x1,y1⟩:=rd_tasks q1
 refine (callsT_of (P:=prog) (w_snone hgs y0.1 y1.1) (by kernel_rfl) g2.rel ha).mono fun e W' ⟨he,hw⟩=>?_
 exact ⟨_,he,post_true (tb:=4) hW' rfl rfl (by kernel_rfl) underlying4 laidOut (by kernel_rfl) hw⟩
theorem swapNone_said:Rows.SwapNoneSaid :=
 OpenClaim.holds_of_wide 3 Tryz.f3 rfl rfl rfl rfl rfl rfl rfl ⟨rfl,rfl,rfl,rfl,rfl⟩ rfl rfl rfl rfl rfl (by kernel_rfl) func3 (by kernel_rfl)
  (of_decide_eq_true (by kernel_rfl)) (by unfold Func.isWrapper;first | (rw [if_pos (by decide +kernel)];kernel_rfl) | (rw [if_neg (by decide +kernel)];exact ⟨rfl,rfl⟩))
  (fun os started H enc _=>swapNone_lifted os started H enc)
theorem swapNone_holds:Rows.SwapNoneCardSaid :=
 Claim7.holds_tied_plain_at .later [] [.data, .data, .data, .data, .sentinel, .sentinel, .pinned] true (true, "4d076318f26114c22674fd157f3a5a52baa09206506f6f6ae76f7fd32a7d7f28") true
  swapNone_said (fun _ h=>by cases h) (by kernel_rfl) (fun _ h=>by cases h) swapNone_row_tie rfl ⟨rfl,rfl⟩ (by kernel_rfl) rfl
  (fun f fn hf hfn=>by
   obtain rfl : f = 3 := Option.some.inj ((show prog.funcNamed "tocsin/tocsinlaw27.SwapNone" = some 3 by kernel_rfl).symm.trans hf) |>.symm
   obtain rfl:fn=Tryz.f3:=(Option.some.inj (func3.symm.trans hfn)).symm
   exact ⟨by kernel_rfl,fun j t ht=>by
    rw [params3] at ht
    have h3:t=22∨t=23∨t=3:=by
     rcases j with _ | _ | _ | j
     all_goals simp at ht
     all_goals subst ht
     all_goals simp
    rcases h3 with rfl | rfl | rfl
    · exact (show prog.wantsStandIn 22=false by kernel_rfl)
    · exact (show prog.wantsStandIn 23=false by kernel_rfl)
    · exact (show prog.wantsStandIn 3=false by kernel_rfl)⟩)
  (by kernel_rfl)
#print axioms swapNone_holds
end Go.Proofs.YtmajhiahjkjflaaGreatDoor
