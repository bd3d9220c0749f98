/- A fingerprint is the sum of By, For, Every and the text of the condition, with blanks between, or 1 where that is 0: the law FingerText answers true for all rules and numbers.
   No condition beyond the row's own. -/
import Derived.Test.YtpkdgmcfojjfjaaGreatDoorJFingerText2
import Derived.Test.YtpkdgmcfojjfjaaGreatDoorJFingerText5
namespace Go.Proofs.YtpkdgmcfojjfjaaGreatDoor
open Go Go.Vi Go.ChangeShapes Go.WideShapes Go.RowKit Go.Proofs Go.Proofs.Tryz
def fingerTextLaid:List (String × DataW Unit):=Rows.fingerTextRow.laid
theorem fingerText_door (os:Os) (args:Array Value):laidMetH prog fingerTextLaid ((World.laidAll prog os fingerTextLaid).forCall (fun _ _=>0) ⟨#[],args,[]⟩).memory :=
 by
 rw [Go.MakeChecks.laidMetH_plain _ _ _ (by kernel_rfl)]
 exact laidMet_laidAll args (by kernel_rfl) (by kernel_rfl)
set_option maxRecDepth 100000 in
theorem fingerText_lifted (os:Os) (started:os.Started) (H:Type) (enc:TypeId × Value→H) :
  ReturnsInHanded {} checked os 9 .any (fun w args=>(Rows.fingerTextSpec.pre enc prog Tryz.f9 [] false w args∧laidMetH prog fingerTextLaid w)∧sizedMet enc prog Tryz.f9 (OpenSpec.ofChange Rows.fingerTextSpec) false w args)
   (Rows.fingerTextSpec.post enc prog Tryz.f9 false true false false):=by
 refine returnsInHanded_of_change_and (C:=checked) (X:=fun w _=>laidMetH prog fingerTextLaid w) (fun _ _ _ hh h=>h.of_heap hh) own started (by kernel_rfl) func9
  (ChangeSpec.witness_shaped (enc:=enc) (C:=checked) (os:=os) (X:=fun w _=>laidMetH prog fingerTextLaid w) false (World.laidAll prog os fingerTextLaid) #[.agg #[.string ⟨#[]⟩,.string ⟨#[]⟩,.slice none 0 0,.int .i64 0,.int .i64 0,.int .i64 0,.slice none 0 0,.string ⟨#[]⟩],.int .u8 0,.int .u8 0] 8 (World.laidAll_os _ _ _) (World.shaped_of_ZipB (by kernel_rfl) (by kernel_rfl)) (by kernel_rfl) (by kernel_rfl) (by kernel_rfl) (fingerText_door os _)) ?_
 intro W base args ds gs before hval0 hW _ _ hX _
 have hval:∀ (j:Nat) t v,Tryz.f9.params[j]?=some t→args[j]?=some v→Value.okWide prog W .any base t v:=hval0
 have hW':=hW
 obtain ⟨p,q,hA0,hV,rfl,hfz,hnd⟩:=hW
 have hA:DataW.TrodAll enc prog W 0 (fun _=>true) true Tryz.f9.params.toList args.toList ds p:=hA0
 rw [params9] at hA hval
 obtain ⟨v0,v1,v2,d0,d1,d2,p0,p1,p2,rfl,rfl,rfl,h0,h1,h2⟩:=trodAll_three hA
 obtain ⟨rfl,rfl⟩:=trodVars_none hV
 obtain ⟨s0,g0⟩:=start_gs hX ⟨Rows.laid_strconv_ErrSyntax,List.mem_filter.2 ⟨List.mem_of_getElem? (i:=5) (by kernel_rfl),by kernel_rfl⟩⟩ ⟨Rows.laid_strconv_ErrRange,List.mem_filter.2 ⟨List.mem_of_getElem? (i:=4) (by kernel_rfl),by kernel_rfl⟩⟩ (List.mem_filter.2 ⟨List.mem_of_getElem? (i:=2) (by kernel_rfl),by kernel_rfl⟩)
 obtain ⟨s1,H1,a0,k1,r0,o0,q0⟩:=arg_agg (P:=prog) (f:=12) (q:=parts_rule1) (fun _=>rfl) (by kernel_rfl) (by kernel_rfl) (hval 0 44 v0 rfl rfl) h0 g0.rel g0.no
 have g1:=g0.trans k1
 obtain ⟨n1,rfl,rfl,rfl,b1⟩:=open_int underlying5 (hval 1 5 v1 rfl rfl) h1
 obtain ⟨u1,rfl⟩:=byte_of b1
 obtain ⟨n2,rfl,rfl,rfl,b2⟩:=open_int underlying5 (hval 2 5 v2 rfl rfl) h2
 obtain ⟨u2,rfl⟩:=byte_of b2
 have hgs:Pre Gs H1:=k1.pre
 have ha:VRelL s1 H1 [.agg a0.toArray,byt u1,byt u2] (#[v0,byt u1,byt u2]:Array Value).toList:=.cons r0 (.cons (.lit _ rfl) (.cons (.lit _ rfl) (.nil _ _)))
 obtain ⟨x0,rfl,y0⟩:=rd_rule1 q0
 refine (callsT_of (P:=prog) (w_ftext hgs y0) (by kernel_rfl) g1.rel ha).mono fun e W' ⟨he,hw⟩=>?_
 exact ⟨_,he,post_true (tb:=4) hW' rfl rfl (by kernel_rfl) underlying4 laidOut (by kernel_rfl) hw⟩
theorem fingerText_said:Rows.FingerTextSaid :=
 OpenClaim.holds_of_wide 9 Tryz.f9 rfl rfl rfl rfl rfl rfl rfl ⟨rfl,rfl,rfl,rfl,rfl⟩ rfl rfl rfl rfl rfl (by kernel_rfl) func9 (by kernel_rfl)
  (of_decide_eq_true (by kernel_rfl)) (by unfold Func.isWrapper;first | (rw [if_pos (by decide +kernel)];kernel_rfl) | (rw [if_neg (by decide +kernel)];exact ⟨rfl,rfl⟩))
  (fun os started H enc _=>fingerText_lifted os started H enc)
theorem fingerText_holds:Rows.FingerTextCardSaid :=
 Claim7.holds_tied_plain_at .later [] [.data, .data, .data, .data, .sentinel, .sentinel, .pinned] true (true, "fde039e8609e075c077b02e71ea27212d217c09f785cf624176f93ecc920fa71") true
  fingerText_said (fun _ h=>by cases h) (by kernel_rfl) (fun _ h=>by cases h) fingerText_row_tie rfl ⟨rfl,rfl⟩ (by kernel_rfl) rfl
  (fun f fn hf hfn=>by
   obtain rfl : f = 9 := Option.some.inj ((show prog.funcNamed "tocsin/tocsinlaw14.FingerText" = some 9 by kernel_rfl).symm.trans hf) |>.symm
   obtain rfl:fn=Tryz.f9:=(Option.some.inj (func9.symm.trans hfn)).symm
   exact ⟨by kernel_rfl,fun j t ht=>by
    rw [params9] at ht
    have h3:t=44∨t=5:=by
     rcases j with _ | _ | _ | j
     all_goals simp at ht
     all_goals subst ht
     all_goals simp
    rcases h3 with rfl | rfl
    · exact (show prog.wantsStandIn 44=false by kernel_rfl)
    · exact (show prog.wantsStandIn 5=false by kernel_rfl)⟩)
  (by kernel_rfl)
#print axioms fingerText_holds
end Go.Proofs.YtpkdgmcfojjfjaaGreatDoor
