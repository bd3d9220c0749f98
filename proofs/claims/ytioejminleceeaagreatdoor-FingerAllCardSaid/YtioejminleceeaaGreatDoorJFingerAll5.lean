/- Nodes held against the same nodes elsewhere. The document's own answer: tokens, matchers, windows. The document's own answer: numbers with a point. The document's own answer: a comparison. The document's own answer: a comparison from its beginning. Rows of nodes that grow. The document's own answer: conditions. Conditions as trees: what is read is right. Texts in parentheses: what Parse tells of them. The tokens of a condition that is written, and that they are read as its nodes. What is written is read as the nodes. Numbers that are written are read as they were. The document's own answer: how numbers are written. The tokens of the text that is written. Texts that are read part by part, between blanks that stand in no quotes; the document's own printer in plain words. Whether rows of matchers, of nodes are the same: any two. The document's own answer: how matchers and fixed numbers are written. -/
import Derived.Test.YtioejminleceeaaGreatDoorJFingerAll4
namespace Go.Vi
open Go Go.Proofs
theorem acallsG_flat {P:Program} {D:DrawK} (hD:∀ c:Ctx,@SoundK c P D) {f fn args H v} (hf:P.funcs[f]?=some fn) (hn:notNG fn=true) (hc:flat v=true) (hr:kbodyG P D fn args H fun u H2=>u=v∧∃ X,H2=H++X):ACalls P f args H v H:=by
 intro w0 s w args' h hargs
 left
 unfold kbodyG at hr
 split at hr
 · rename_i c hb
   constructor
   · have hq : ¬ fn.name = "runtime.NumGoroutine" := by intro q; simp [notNG, q] at hn
     have hbn:¬ fn.body=none:=by rw [hb];simp
     simp [callFunc,hf,hq,hbn]
   · letI:Ctx:=⟨[],none⟩
     refine callsIn_wide.1 (callsIn_of_wp_marks (F:=Fence.wide) (n:=0) hf hb trivial ?_ rfl)
     have hal:args.length=args'.size:=by have:=hargs.1;simpa using this
     have ha:ARel s H (args++List.replicate (fn.ntmps-args.length) undef) { tmps:=args'++Array.replicate (fn.ntmps-args'.size) undef,defers:=[] }:=by
      refine ⟨?_,rfl⟩
      simp only [Array.toList_append,Array.toList_replicate,hal]
      refine hargs.append ⟨by simp,fun i x y hx hy=>?_⟩
      rw [List.getElem?_replicate] at hx hy
      split at hx
      · rename_i hi
        rw [if_pos hi] at hy
        cases hx;cases hy
        exact undef_rel _ _
      · cases hx
     refine kxG_sound hD c h ha ⟨[],rfl,.nil _ _⟩ hr ?_
     have fin:∀ {sl' H2 m' s' a' w' ds'},WRel w0 s' H2 w'→Ext s H s' H2→@ARel ⟨ds',none⟩ s' H2 sl' a'→MarkRel s' H2 m' ds'→kmarks (fun H2=>kres P sl' H2 fn.results.toList fun l=>retV l=v∧∃ X,H2=H++X) m' H2 →
       LeavesInM Fence.wide 0 P fn a'.tmps (AEnd w0 s H v H) a'.defers .returning w':=by
      intro sl' H2 m' s' a' w' ds' g1 g2 g3 g4 hk
      have hd:a'.defers=ds':=@ARel.d ⟨ds',none⟩ _ _ _ _ g3
      rw [hd]
      refine kmarks_leave m' g1 g2 (@ARel.r ⟨ds',none⟩ _ _ _ _ g3) g4 hk ?_
      intro s5 H5 w5 q1 q2 q3 q4
      obtain ⟨l,h1,rfl,X,rfl⟩:=kres_sound _ q4
      obtain ⟨v',k1,k2⟩:=run_ret (P:=P) (a:={ tmps:=a'.tmps,defers:=[] }) fn q1.h ⟨q3,rfl⟩ (aRet_of h1)
      exact ⟨v',k1,s,v',rfl,h.forget q1 q2,Ext.refl _ _,by rw [k2.flat_eq hc];exact flat_rel hc s H⟩
     intro e sl' H2 m' hk s' a' w' ds' g1 g2 g3 g4
     cases e with
     | exit i=>cases hk
     | normal=>exact fin g1 g2 g3 g4 hk
     | ret=>exact fin g1 g2 g3 g4 hk
 · cases hr
theorem pv_prog {P:Program}:pv P program=some P:=rfl
end Go.Vi
namespace Go.Vi
open Go Go.Proofs Go.Proofs.Tryz
structure RTA (K:AHeap) (v:Value) (T:List RTk):Prop where
 arr:Arr K 4 v (T.map rt)
 len:T.length < 2 ^ 40
theorem RTA.pre {K K' v T} (h:RTA K v T) (p:Pre K K'):RTA K' v T:=⟨h.arr.pre p,h.len⟩
def isR (ts:List Tok) (a:Nat) (k:Int) (s:List UInt8):Bool:=(ts[a]?).any fun t=>t.kind == k && (t.text == s || s == [42])
theorem RTA.at {K v T} (h:RTA K v T) {a:Nat} {p:RTk} (hp:T[a]?=some p) :
  ∃ q q0 q1,aIndexAddr prog K 80 v (i64 a)=some q∧aFieldAddr prog K 122 q 0=some q0∧aLoad prog K 5 q0=some (.int .u8 p.1.kind)∧aFieldAddr prog K 122 q 1=some q1∧aLoad prog K 9 q1=some (str p.1.text):=by
 have hi:(T.map rt)[a]?=some (rt p):=by simp [hp]
 obtain ⟨p1,q1,h1,h2,h3⟩:=h.arr.field (P:=prog) (T:=80) (te:=122) (f:=0) (d:=0) (ft:=5) (by simp) (by simp) (by simp) (by simp) (by simp) hi rfl
 obtain ⟨p2,q2,h4,h5,h6⟩:=h.arr.field (P:=prog) (T:=80) (te:=122) (f:=1) (d:=1) (ft:=9) (by simp) (by simp) (by simp) (by simp) (by simp) hi rfl
 rw [h1] at h4
 cases h4
 exact ⟨p1,q1,q2,h1,h2,h3,h5,h6⟩
theorem r_is {K v T} (h:RTA K v T) (a:Nat) (k:Int) (s:List UInt8):ACalls prog 80 [v,i64 a,.int .u8 k,str s] K (.bool (isR (T.map Prod.fst) a k s)) K:=by
 refine acalls_pure MixT func80 (by decide) rfl ?_
 rw [d80]
 have hl:=h.arr.len (P:=prog) (T:=80) (e:=122) (by simp)
 simp at hl
 by_cases ha:a < T.length
 · obtain ⟨p,hp⟩:∃ p,T[a]?=some p:=⟨_,List.getElem?_eq_getElem ha⟩
   obtain ⟨q,q0,q1,h1,h2,h3,h4,h5⟩:=h.at hp
   have hr:isR (T.map Prod.fst) a k s=(p.1.kind == k && (p.1.text == s || s == [42])):=by simp [isR,hp]
   rw [hr]
   cases hk:p.1.kind == k with
   | false=>simp [hl,ha,h1,h2,h3,hk]
   | true =>
     by_cases ht:p.1.text=s
     · simp [hl,ha,h1,h2,h3,hk,h4,h5,ht]
     · have ht':(p.1.text == s)=false:=by simpa using ht
       by_cases hs:s=[42]
       · subst hs
         simp [hl,ha,h1,h2,h3,hk,h4,h5,ht]
       · simp [hl,ha,h1,h2,h3,hk,h4,h5,ht,hs]
 · have hr:isR (T.map Prod.fst) a k s=false:=by simp [isR,List.getElem?_eq_none (Nat.le_of_not_lt ha)]
   rw [hr]
   simp [hl,ha]
theorem isR_star (ts:List Tok) (a:Nat) (k:Int):isR ts a k [42]=(tokK ts k a).isSome:=by
 unfold isR tokK
 cases ts[a]? with
 | none=>rfl
 | some t =>
   by_cases h:t.kind=k
   · simp [h]
   · simp [h]
theorem isR_txt {ts:List Tok} {a:Nat} {k:Int} {s:List UInt8} (h:s≠[42]):isR ts a k s=isT ts a k s:=by
 unfold isR isT
 have:(s == [42])=false:=by simpa using h
 simp [this]
theorem isT_tok (ts:List Tok) (a:Nat) (k:Int) (s:List UInt8):isT ts a k s=true↔tokK ts k a=some s:=by
 unfold isT tokK
 cases ts[a]? with
 | none=>simp
 | some t =>
   by_cases h:t.kind=k
   · simp [h]
   · simp [h]
theorem strs_at {H:AHeap} (l:List (List UInt8)) {n i:Nat} (hn:n=l.length) {s:List UInt8} (hi:l[i]?=some s):∃ p,aIndexAddr prog (H++[.cells (l.map str) 9]) 33 (.slice (some ⟨H.length,0,some n⟩) n n) (i64 i)=some p∧aLoad prog (H++[.cells (l.map str) 9]) 9 p=some (str s) :=
 (arr_strs l 9 n hn).load1 (P:=prog) (T:=33) (te:=9) (i:=i) (x:=str s) (by simp) (by simp) (by simp) (by simp [strCells,hi])
theorem r_aggregate (H:AHeap) {i:Nat} (hi:i < 6):ACalls prog 37 [i64 i] H (str (aggs.getD i [])) H:=by
 refine acalls_pure MixT func37 (by decide) rfl ?_
 rw [d37]
 have hs:=sliceLit1 (H:=H) (P:=prog) (T:=33) (e:=9) (zv:=.string ByteArray.empty) (l:=aggs.map str) (n:=6) (by kernel_rfl) (by decide) rfl (by decide)
 obtain ⟨s,hs2⟩:∃ s,aggs[i]?=some s:=⟨_,List.getElem?_eq_getElem hi⟩
 obtain ⟨p,p1,p2⟩:=strs_at (H:=H) aggs (n:=6) rfl hs2
 have hg:aggs.getD i []=s:=by rw [List.getD_eq_getElem?_getD,hs2];rfl
 rw [hg]
 refine bndL_lit hs ?_
 simp [p1,p2]
theorem r_compare (H:AHeap) {i:Nat} (hi:i < 6):ACalls prog 40 [i64 i] H (str (cmps.getD i [])) H:=by
 refine acalls_pure MixT func40 (by decide) rfl ?_
 rw [d40]
 have hs:=sliceLit1 (H:=H) (P:=prog) (T:=33) (e:=9) (zv:=.string ByteArray.empty) (l:=cmps.map str) (n:=6) (by kernel_rfl) (by decide) rfl (by decide)
 obtain ⟨s,hs2⟩:∃ s,cmps[i]?=some s:=⟨_,List.getElem?_eq_getElem hi⟩
 obtain ⟨p,p1,p2⟩:=strs_at (H:=H) cmps (n:=6) rfl hs2
 have hg:cmps.getD i []=s:=by rw [List.getD_eq_getElem?_getD,hs2];rfl
 rw [hg]
 refine bndL_lit hs ?_
 simp [p1,p2]
theorem r_op (H:AHeap) {i:Nat} (hi:i < 3):ACalls prog 123 [i64 i] H (str (opsL.getD i [])) H:=by
 refine acalls_pure MixT func123 (by decide) rfl ?_
 rw [d123]
 have hs:=sliceLit1 (H:=H) (P:=prog) (T:=33) (e:=9) (zv:=.string ByteArray.empty) (l:=opsL.map str) (n:=3) (by kernel_rfl) (by decide) rfl (by decide)
 obtain ⟨s,hs2⟩:∃ s,opsL[i]?=some s:=⟨_,List.getElem?_eq_getElem hi⟩
 obtain ⟨p,p1,p2⟩:=strs_at (H:=H) opsL (n:=3) rfl hs2
 have hg:opsL.getD i []=s:=by rw [List.getD_eq_getElem?_getD,hs2];rfl
 rw [hg]
 refine bndL_lit hs ?_
 simp [p1,p2]
def winF (n:Int):List UInt8→Int
 | []=>if n > 1000 then 0 else n
 | d :: r=>if isDig d=false∨n > 1000 then 0 else winF (10*n+((d.toNat:Int)-48)) r
theorem win_loop {H:AHeap} {s:List UInt8} {k:Value→AHeap→Prop} {w:Int} (hs:s.length < 2 ^ 62) (hk:k (i64 w) H) :
  ∀ (r:List UInt8) (i:Nat) (n:Int) (I J K L M N O a c d e f g h j l m o p q t u v x y z A B C D E F G:Value),s.drop i=r→i≤s.length→0≤n→n≤20000→w=winF n r→L112x0 (r.length+1) k [str s,I,J,i64 n,i64 i,K,L,M,N,O,a,c,d,e,f,g,h,j,l,m,o,p,q,t,u,v,x,y,z,A,B,C,D,E,F,G] H:=by
 intro r
 induction r with
 | nil =>
   intro i n I J K L M N O a c d e f g h j l m o p q t u v x y z A B C D E F G hd hi h0 hn hw
   have hle:s.length≤i:=by simpa using hd
   have:¬ i < s.length:=by omega
   rw [List.length_nil,L112x0q]
   rw [winF] at hw
   by_cases h1:n > 1000
   · rw [if_pos h1] at hw
     subst hw
     simp [this,h1]
     exact hk
   · rw [if_neg h1] at hw
     subst hw
     simp [this,h1]
     exact hk
 | cons b r ih =>
   intro i n I J K L M N O a c d e f g h j l m o p q t u v x y z A B C D E F G hd hi h0 hn hw
   have hb:s[i]?=some b:=by rw [← List.head?_drop,hd];rfl
   have hlt:i < s.length:=(List.getElem?_eq_some_iff.1 hb).1
   have hix:=aIndex_at (P:=prog) (T:=9) (k:=.i64) (by simp) hb
   have hdr:s.drop (i+1)=r:=by rw [← List.drop_drop,hd];rfl
   rw [List.length_cons,L112x0q]
   have hq:=isDig_iff b
   rw [winF] at hw
   by_cases h1:(b.toNat:Int) < 48
   · have:isDig b=false:=by rw [← Bool.not_eq_true];rw [hq];omega
     rw [if_pos (.inl this)] at hw
     subst hw
     simp [hlt,hix,h1]
     exact hk
   · by_cases h2:57 < (b.toNat:Int)
     · have:isDig b=false:=by rw [← Bool.not_eq_true];rw [hq];omega
       rw [if_pos (.inl this)] at hw
       subst hw
       simp [hlt,hix,h1,h2]
       exact hk
     · have hdg:isDig b=true:=by rw [hq];omega
       by_cases h3:n > 1000
       · rw [if_pos (.inr h3)] at hw
         subst hw
         simp [hlt,hix,h1,h2,h3]
         exact hk
       · rw [if_neg (by simp [hdg,h3])] at hw
         have w1:IntKind.i64.wrap (10*n)=10*n:=wrap_i64 (by omega) (by omega)
         have w2:IntKind.u8.wrap ((b.toNat:Int)-48)=(b.toNat:Int)-48:=by unfold IntKind.wrap;simp [IntKind.bits,IntKind.signed];omega
         have w3:IntKind.i64.wrap ((b.toNat:Int)-48)=(b.toNat:Int)-48:=wrap_i64 (by omega) (by omega)
         have w4:IntKind.i64.wrap (10*n+((b.toNat:Int)-48))=10*n+((b.toNat:Int)-48):=wrap_i64 (by omega) (by omega)
         simp [hlt,hix,h1,h2,h3,w1,w2,w3,w4,show i+1 < 2 ^ 63 by omega]
         exact ih (i+1) _ _ _ _ _ _ _ _ _ _ _ _ _ _ _ _ _ _ _ _ _ _ _ _ _ _ _ _ _ _ _ _ _ _ hdr hlt (by omega) (by omega) hw
theorem r_window (H:AHeap) {s:List UInt8} (hs:s.length < 2 ^ 62):ACalls prog 112 [str s] H (i64 (winF 0 s)) H:=by
 refine acalls_pure MixT func112 (by decide) rfl ?_
 rw [d112]
 exact ⟨s.length+1,win_loop (k:=fun u H2=>u=i64 (winF 0 s)∧∃ X,H2=H++X) hs ⟨rfl,[],by simp⟩ s 0 0 _ _ _ _ _ _ _ _ _ _ _ _ _ _ _ _ _ _ _ _ _ _ _ _ _ _ _ _ _ _ _ _ _ rfl (by omega) (by omega) (by omega) rfl⟩
theorem natF_mono:∀ (l:List UInt8) (n:Int),0≤n→l.all isDig=true→n≤natF n l:=by
 intro l
 induction l with
 | nil=>intro n h _;exact Int.le_refl _
 | cons d r ih =>
   intro n h hd
   rw [List.all_cons,Bool.and_eq_true] at hd
   have h2:=(isDig_iff d).1 hd.1
   rw [natF]
   have:=ih (10*n+((d.toNat:Int)-48)) (by omega) hd.2
   omega
theorem winF_nat:∀ (l:List UInt8) (n:Int),0≤n→winF n l=if l.all isDig=true∧natF n l≤1000 then natF n l else 0:=by
 intro l
 induction l with
 | nil =>
   intro n h
   rw [winF,natF]
   by_cases h1:n > 1000
   · rw [if_pos h1,if_neg (by simp;omega)]
   · rw [if_neg h1,if_pos (by simp;omega)]
 | cons d r ih =>
   intro n h
   rw [winF,natF]
   by_cases h1:isDig d=true
   · have h2:=(isDig_iff d).1 h1
     by_cases h3:n > 1000
     · rw [if_pos (.inr h3),if_neg]
       rintro ⟨q1,q2⟩
       rw [List.all_cons,Bool.and_eq_true] at q1
       have:=natF_mono r (10*n+((d.toNat:Int)-48)) (by omega) q1.2
       omega
     · rw [if_neg (by simp [h1,h3]),ih _ (by omega)]
       simp [h1]
   · have h1':isDig d=false:=by simpa using h1
     rw [if_pos (.inl h1'),if_neg (by simp [h1'])]
theorem win_ato (s:List UInt8):(winF 0 s≠0∧∃ n,atoF s=some n∧1≤n∧n≤1000∧winF 0 s=n)∨(winF 0 s=0∧∀ n,atoF s=some n→¬ (1≤n∧n≤1000)):=by
 rw [winF_nat s 0 (Int.le_refl _)]
 unfold atoF
 by_cases h1:s.all isDig=true∧natF 0 s≤1000
 · rw [if_pos h1]
   by_cases h0:natF 0 s=0
   · right
     refine ⟨h0,fun n hn=>?_⟩
     split at hn
     · cases hn;omega
     · cases hn
   · left
     have hge:=natF_ge s 0 (Int.le_refl _) h1.1
     have hne:s≠[]:=by rintro rfl;exact h0 rfl
     exact ⟨h0,natF 0 s,by rw [if_pos ⟨hne,h1.1,by omega⟩],by omega,h1.2,rfl⟩
 · rw [if_neg h1]
   right
   refine ⟨rfl,fun n hn=>?_⟩
   split at hn
   · rename_i h2
     cases hn
     intro h3
     exact h1 ⟨h2.2.1,h3.2⟩
   · cases hn
def matV:Option (Mat × Nat)→Value
 | none=>.tuple #[.agg (Mat.cells ⟨[],0,[]⟩).toArray,i64 (-1)]
 | some p=>.tuple #[.agg p.1.cells.toArray,i64 p.2]
def mcond (ts:List Tok) (a i:Nat):Prop:=(tokK ts 1 a).isSome=true∧tokK ts 4 (a+1)=opsL[i]?∧(tokK ts 3 (a+2)).isSome=true
theorem opsL_at:∀ i < 3,∀ j < 3,opsL[i]?=opsL[j]?→i=j:=by decide
theorem matO_none {ts:List Tok} {a:Nat} (h:∀ i,i < 3→¬ mcond ts a i):matO ts a=none:=by
 unfold matO
 cases h1:tokK ts 1 a with
 | none=>rfl
 | some x =>
   cases h2:tokK ts 4 (a+1) with
   | none=>rfl
   | some o =>
     simp only [Option.bind_some]
     by_cases ho:o∈opsL
     · rw [if_pos ho]
       obtain ⟨i,hi⟩:=List.getElem?_of_mem ho
       have hi3:i < 3:=(List.getElem?_eq_some_iff.1 hi).1
       cases h3:tokK ts 3 (a+2) with
       | none=>rfl
       | some y=>exact absurd ⟨by rw [h1];rfl,by rw [h2,hi],by rw [h3];rfl⟩ (h i hi3)
     · rw [if_neg ho]
theorem matO_some {ts:List Tok} {a i:Nat} (hi:i < 3) (h:mcond ts a i):∃ x y,tokK ts 1 a=some x∧tokK ts 3 (a+2)=some y∧matO ts a=some (⟨x,i,y⟩,a+3):=by
 obtain ⟨h1,h2,h3⟩:=h
 obtain ⟨x,h1⟩:=Option.isSome_iff_exists.1 h1
 obtain ⟨y,h3⟩:=Option.isSome_iff_exists.1 h3
 refine ⟨x,y,h1,h3,?_⟩
 obtain ⟨o,ho⟩:∃ o,opsL[i]?=some o:=⟨_,List.getElem?_eq_getElem hi⟩
 rw [ho] at h2
 have hm:o∈opsL:=List.mem_of_getElem? ho
 have hx:idxS opsL o=i:=by
  unfold idxS
  rw [if_pos hm]
  have hlt:=List.idxOf_lt_length_of_mem hm
  exact opsL_at _ hlt _ hi (by rw [ho,List.getElem?_eq_getElem hlt,List.getElem_idxOf hlt])
 unfold matO
 simp only [h1,h2,h3,Option.bind_some,if_pos hm,hx]
theorem opsL_star:∀ i,i < 3→opsL.getD i []≠[42]:=by decide
theorem tok_at {T:List RTk} {k:Int} {a:Nat} {x:List UInt8} (h:tokK (T.map Prod.fst) k a=some x):∃ p,T[a]?=some p∧p.1.kind=k∧p.1.text=x:=by
 unfold tokK at h
 cases hp:T[a]? with
 | none=>simp [hp] at h
 | some p =>
   simp only [List.getElem?_map,hp,Option.map_some,Option.bind_some] at h
   split at h
   · rename_i hk
     cases h
     exact ⟨p,rfl,hk,rfl⟩
   · cases h
set_option maxHeartbeats 1000000 in
theorem mat_loop {K:AHeap} {v:Value} {T:List RTk} {a:Nat} {k:Value→AHeap→Prop} (h:RTA K v T) (ha:a < 2 ^ 50) (hk:∀ u,u=matV (matO (T.map Prod.fst) a)→∀ X,k u (K++X)) :
  ∀ (d j:Nat) (s2 s3 s5 s7 s8 s9 b c f g l m n r s t w z A B C D E F G H I J L M N O P Q R S U V W Y Z:Value),d+j=3→(∀ i,i < j→¬ mcond (T.map Prod.fst) a i)→L110x0 (d+1) k [v,i64 a,s2,s3,.pointer (some ⟨K.length,0,some 3⟩),s5,i64 j,s7,s8,s9,b,c,f,g,l,m,n,r,s,t,w,z,A,B,C,D,E,F,G,H,I,J,L,M,N,O,P,Q,R,S,U,V,W,Y,Z] (K++[.cells [str [],.int .u8 0,str []] 56]):=by
 intro d
 have hK:=h.pre (.app K [.cells [str [],.int .u8 0,str []] 56])
 have w1:IntKind.i64.wrap ((a:Int)+1)=((a+1:Nat):Int):=by rw [wrap_i64 (by omega) (by omega)];omega
 have w2:IntKind.i64.wrap ((a:Int)+2)=((a+2:Nat):Int):=by rw [wrap_i64 (by omega) (by omega)];omega
 have w3:IntKind.i64.wrap ((a:Int)+3)=((a+3:Nat):Int):=by rw [wrap_i64 (by omega) (by omega)];omega
 induction d with
 | zero =>
   intro j s2 s3 s5 s7 s8 s9 b c f g l m n r s t w z A B C D E F G H I J L M N O P Q R S U V W Y Z hd hn
   obtain rfl:j=3:=by omega
   rw [L110x0q]
   simp
   exact hk _ (by rw [matO_none hn];rfl) _
 | succ d ih =>
   intro j s2 s3 s5 s7 s8 s9 b c f g l m n r s t w z A B C D E F G H I J L M N O P Q R S U V W Y Z hd hn
   have hj:j < 3:=by omega
   rw [L110x0q]
   have hjI:(j:Int) < 3:=by omega
   simp [hjI]
   have wj:IntKind.i64.wrap ((j:Int)+1)=((j+1:Nat):Int):=by rw [wrap_i64 (by omega) (by omega)];omega
   have i1:=r_is hK a 1 [42]
   rw [isR_star] at i1
   have i2:=r_is hK (a+1) 4 (opsL.getD j [])
   rw [isR_txt (opsL_star j hj)] at i2
   have i3:=r_is hK (a+2) 3 [42]
   rw [isR_star] at i3
   have next:¬ mcond (T.map Prod.fst) a j→∀ (s2 s3 s5 s7 s8 s9 b c f g l m n r s t w z A B C D E F G H I J L M N O P Q R S U V W Y Z:Value),L110x0 (d+1) k [v,i64 a,s2,s3,.pointer (some ⟨K.length,0,some 3⟩),s5,i64 ((j+1:Nat):Int),s7,s8,s9,b,c,f,g,l,m,n,r,s,t,w,z,A,B,C,D,E,F,G,H,I,J,L,M,N,O,P,Q,R,S,U,V,W,Y,Z] (K++[.cells [str [],.int .u8 0,str []] 56]):=by
    intro hnm s2 s3 s5 s7 s8 s9 b c f g l m n r s t w z A B C D E F G H I J L M N O P Q R S U V W Y Z
    exact ih (j+1) _ _ _ _ _ _ _ _ _ _ _ _ _ _ _ _ _ _ _ _ _ _ _ _ _ _ _ _ _ _ _ _ _ _ _ _ _ _ _ _ _ (by omega) (fun i hi=>by
     by_cases e:i=j
     · rw [e];exact hnm
     · exact hn i (by omega))
   refine bndC_of i1 ?_
   cases t1:(tokK (T.map Prod.fst) 1 a).isSome with
   | false =>
     simp [wj]
     exact next (fun hm=>by have:=hm.1;rw [t1] at this;cases this) _ _ _ _ _ _ _ _ _ _ _ _ _ _ _ _ _ _ _ _ _ _ _ _ _ _ _ _ _ _ _ _ _ _ _ _ _ _ _ _ _
   | true =>
     simp [w1]
     refine bndG_t _ _ (r_op _ hj) ?_
     refine bndG_t _ _ i2 ?_
     obtain ⟨o,ho⟩:∃ o,opsL[j]?=some o:=⟨_,List.getElem?_eq_getElem hj⟩
     have hgo:opsL.getD j []=o:=by rw [List.getD_eq_getElem?_getD,ho];rfl
     cases t2:isT (T.map Prod.fst) (a+1) 4 (opsL.getD j []) with
     | false =>
       simp [wj]
       exact next (fun hm=>by
        have:=hm.2.1
        rw [ho] at this
        rw [hgo] at t2
        rw [(isT_tok _ _ _ _).2 this] at t2
        cases t2) _ _ _ _ _ _ _ _ _ _ _ _ _ _ _ _ _ _ _ _ _ _ _ _ _ _ _ _ _ _ _ _ _ _ _ _ _ _ _ _ _
     | true =>
       simp [w2]
       refine bndG_t _ _ i3 ?_
       cases t3:(tokK (T.map Prod.fst) 3 (a+2)).isSome with
       | false =>
         simp [wj]
         exact next (fun hm=>by have:=hm.2.2;rw [t3] at this;cases this) _ _ _ _ _ _ _ _ _ _ _ _ _ _ _ _ _ _ _ _ _ _ _ _ _ _ _ _ _ _ _ _ _ _ _ _ _ _ _ _ _
       | true =>
         have hm:mcond (T.map Prod.fst) a j:=⟨t1,by rw [ho,← hgo];exact (isT_tok _ _ _ _).1 t2,t3⟩
         obtain ⟨x,y,g1,g2,g3⟩:=matO_some hj hm
         obtain ⟨p,p1,p2,p3⟩:=tok_at g1
         obtain ⟨q,q1,q2,q3⟩:=tok_at g2
         obtain ⟨e1,e2,e3,f1,f2,f3,f4,f5⟩:=hK.at p1
         obtain ⟨e4,e5,e6,f6,f7,f8,f9,f10⟩:=hK.at q1
         rw [p3] at f5
         rw [q3] at f10
         simp only [Int.natCast_add,Int.cast_ofNat_Int] at f6
         have wju:IntKind.u8.wrap (j:Int)=(j:Int):=by unfold IntKind.wrap;simp [IntKind.bits,IntKind.signed];omega
         simp [f1,f4,f5,w2,f6,f9,f10,w3,wju]
         refine bndK_of (v:=undef) (H':=K++[AObj.cells [str x,.int .u8 j,str y] 56]) ⟨rfl,by simp⟩ (by simp [w3]) ?_
         simp
         exact hk _ (by rw [g3];rfl) _
theorem r_matcher {K v T} (h:RTA K v T) {a:Nat} (ha:a < 2 ^ 50):ACalls prog 110 [v,i64 a] K (matV (matO (T.map Prod.fst) a)) K:=by
 have hfl:∀ o,flat (matV o)=true:=by
  intro o
  cases o with
  | none=>rfl
  | some p=>rfl
 refine acallsG_flat (fun c=>@drawKeep_sound _ c MixT) func110 (by decide) (hfl _) ?_
 rw [d110]
 simp
 exact ⟨3+1,mat_loop h ha (fun u hu X=>⟨hu,X,rfl⟩) 3 0 _ _ _ _ _ _ _ _ _ _ _ _ _ _ _ _ _ _ _ _ _ _ _ _ _ _ _ _ _ _ _ _ _ _ _ _ _ _ _ _ _ rfl (fun i hi=>by omega)⟩
end Go.Vi
namespace Go.Vi
open Go Go.Proofs Go.Proofs.Tryz
theorem r_fsat (H:AHeap) (x:Int):ACalls prog 59 [i64 x] H (i64 (sat x)) H:=by
 refine acalls_pure MixT func59 (by decide) rfl ?_
 rw [d59]
 have hm:maxFix=4611686018427387903:=rfl
 by_cases h1:4611686018427387903 < x
 · have:sat x=4611686018427387903:=by unfold sat;omega
   rw [this]
   simp [h1]
 · by_cases h2:x < -4611686018427387903
   · have:sat x = -4611686018427387903:=by unfold sat;omega
     rw [this]
     simp [h1,h2]
   · have:sat x=x:=by unfold sat;omega
     rw [this]
     simp [h1,h2]
theorem r_digit (H:AHeap) (b:UInt8):ACalls prog 124 [byt b] H (.bool (isDig b)) H:=by
 refine acalls_pure MixT func124 (by decide) rfl ?_
 rw [d124]
 simp +contextual [isDig]
def moreF (x:Int) (d:UInt8):Int:=if x > 461168601842738790 then maxFix else sat (10*x+((d.toNat:Int)-48))
theorem moreF_rng {x:Int} {d:UInt8} (h0:0≤x) (hd:isDig d=true):0≤moreF x d∧moreF x d≤maxFix:=by
 have hm:maxFix=4611686018427387903:=rfl
 have:=(isDig_iff d).1 hd
 unfold moreF sat
 split<;>omega
theorem r_more (H:AHeap) {x:Int} {d:UInt8} (h0:0≤x) (hd:isDig d=true):ACalls prog 125 [i64 x,byt d] H (i64 (moreF x d)) H:=by
 refine acalls_pure MixT func125 (by decide) rfl ?_
 rw [d125]
 have hb:=(isDig_iff d).1 hd
 unfold moreF
 by_cases h1:x > 461168601842738790
 · rw [if_pos h1]
   simp [h1,maxFix]
 · rw [if_neg h1]
   have w1:IntKind.i64.wrap (10*x)=10*x:=wrap_i64 (by omega) (by omega)
   have w2:IntKind.u8.wrap ((d.toNat:Int)-48)=(d.toNat:Int)-48:=by unfold IntKind.wrap;simp [IntKind.bits,IntKind.signed];omega
   have w3:IntKind.i64.wrap ((d.toNat:Int)-48)=(d.toNat:Int)-48:=wrap_i64 (by omega) (by omega)
   have w4:IntKind.i64.wrap (10*x+((d.toNat:Int)-48))=10*x+((d.toNat:Int)-48):=wrap_i64 (by omega) (by omega)
   simp [h1,w1,w2,w3,w4]
   exact bndC_of (r_fsat _ _) ⟨rfl,[],by simp⟩
def foldM (x:Int) (l:List UInt8):Int:=l.foldl moreF x
theorem foldM_max:∀ (l:List UInt8),foldM maxFix l=maxFix:=by
 intro l
 induction l with
 | nil=>rfl
 | cons d r ih =>
   have:moreF maxFix d=maxFix:=by unfold moreF;rw [if_pos (by decide)]
   show foldM (moreF maxFix d) r=_
   rw [this,ih]
theorem digF_fold:∀ (l:List UInt8) (x:Int),0≤x→x≤maxFix→l.all isDig=true→digF x l=foldM x l:=by
 intro l
 induction l with
 | nil=>intro x _ _ _;rfl
 | cons d r ih =>
   intro x h0 h1 h
   rw [List.all_cons,Bool.and_eq_true] at h
   have hb:=(isDig_iff d).1 h.1
   have hm:maxFix=4611686018427387903:=rfl
   rw [digF]
   show _=foldM (moreF x d) r
   by_cases hc:x > (maxFix-((d.toNat:Int)-48)).tdiv 10
   · rw [if_pos hc]
     have:moreF x d=maxFix:=by
      unfold moreF sat
      rw [Int.tdiv_eq_ediv_of_nonneg (by omega)] at hc
      split<;>omega
     rw [this,foldM_max]
   · rw [if_neg hc]
     have:moreF x d=10*x+((d.toNat:Int)-48):=by
      unfold moreF sat
      rw [Int.tdiv_eq_ediv_of_nonneg (by omega)] at hc
      split<;>omega
     rw [this]
     rw [Int.tdiv_eq_ediv_of_nonneg (by omega)] at hc
     exact ih _ (by omega) (by omega) h.2
def finR (less:Bool) (x:Int) (w p:Nat) (ok:Bool):Int × Int :=
 if w=0∨p > 3∨ok=false then (0,10) else (if less=true then -foldM x (List.replicate (3-p) 48) else foldM x (List.replicate (3-p) 48),0)
def parV (q:Int × Int):Value:=.tuple #[i64 q.1,i64 q.2]
theorem pad_loop {H:AHeap} {less:Bool} {k:Value→AHeap→Prop} (q:Int) (hk:k (parV (if less=true then -q else q,0)) H) :
  ∀ (d p:Nat) (x:Int) (s0 s1 s2 s3 s4 s7 s9 a b c e f g h i j l m n o r s t u v w y z A B C D E F G I J K L M N O P Q R S T U V W X Y Z aa ab ac ad ae af ag ah ai aj ak al am an ao ap aq ar au av aw ax ay az aA aB aC aD aE aF aG aH aI aJ aK aL:Value),d+p=3→0≤x→x≤maxFix→q=foldM x (List.replicate d 48)→L113x2 (d+1) k [s0,s1,s2,s3,s4,.bool less,i64 x,s7,i64 p,s9,a,b,c,e,f,g,h,i,j,l,m,n,o,r,s,t,u,v,w,y,z,A,B,C,D,E,F,G,I,J,K,L,M,N,O,P,Q,R,S,T,U,V,W,X,Y,Z,aa,ab,ac,ad,ae,af,ag,ah,ai,aj,ak,al,am,an,ao,ap,aq,ar,au,av,aw,ax,ay,az,aA,aB,aC,aD,aE,aF,aG,aH,aI,aJ,aK,aL] H:=by
 intro d
 have hm:maxFix=4611686018427387903:=rfl
 induction d with
 | zero =>
   intro p x s0 s1 s2 s3 s4 s7 s9 a b c e f g h i j l m n o r s t u v w y z A B C D E F G I J K L M N O P Q R S T U V W X Y Z aa ab ac ad ae af ag ah ai aj ak al am an ao ap aq ar au av aw ax ay az aA aB aC aD aE aF aG aH aI aJ aK aL hd h0 h1 hq
   obtain rfl:p=3:=by omega
   rw [L113x2q]
   have hqx:q=x:=hq
   subst hqx
   have wn:IntKind.i64.wrap (-q) = -q:=wrap_i64 (by omega) (by omega)
   cases less with
   | true=>simp [wn];exact hk
   | false=>simp;exact hk
 | succ d ih =>
   intro p x s0 s1 s2 s3 s4 s7 s9 a b c e f g h i j l m n o r s t u v w y z A B C D E F G I J K L M N O P Q R S T U V W X Y Z aa ab ac ad ae af ag ah ai aj ak al am an ao ap aq ar au av aw ax ay az aA aB aC aD aE aF aG aH aI aJ aK aL hd h0 h1 hq
   rw [L113x2q]
   have hp:(p:Int) < 3:=by omega
   have wp:IntKind.i64.wrap ((p:Int)+1)=((p+1:Nat):Int):=by rw [wrap_i64 (by omega) (by omega)];omega
   simp [hp]
   refine bndC_of (r_more H (d:=48) h0 (by decide)) ?_
   simp [wp]
   have:=moreF_rng (x:=x) (d:=48) h0 (by decide)
   exact ih (p+1) _ _ _ _ _ _ _ _ _ _ _ _ _ _ _ _ _ _ _ _ _ _ _ _ _ _ _ _ _ _ _ _ _ _ _ _ _ _ _ _ _ _ _ _ _ _ _ _ _ _ _ _ _ _ _ _ _ _ _ _ _ _ _ _ _ _ _ _ _ _ _ _ _ _ _ _ _ _ _ _ _ _ _ _ _ _ _ _ _ _ (by omega) this.1 this.2 (by rw [hq,List.replicate_succ];rfl)
theorem fin_walk {H:AHeap} {s:List UInt8} {less:Bool} {k:Value→AHeap→Prop} {x:Int} {w p i:Nat} (h0:0≤x) (h1:x≤maxFix) (hk:k (parV (finR less x w p (decide (i=s.length)))) H) (s1 s2 s3 s9 a b c d e f g h j l m n o q r t u v y z A B C D E F G I J K L M N O P Q R S T U V W X Y Z aa ab ac ad ae af ag ah ai aj ak al am an ao ap aq ar au av aw ax ay az aA aB aC aD aE aF aG aH aI aJ aK aL aM:Value) :
  S113x1 k [str s,s1,s2,s3,i64 i,.bool less,i64 x,i64 w,i64 p,s9,a,b,c,d,e,f,g,h,j,l,m,n,o,q,r,t,u,v,y,z,A,B,C,D,E,F,G,I,J,K,L,M,N,O,P,Q,R,S,T,U,V,W,X,Y,Z,aa,ab,ac,ad,ae,af,ag,ah,ai,aj,ak,al,am,an,ao,ap,aq,ar,au,av,aw,ax,ay,az,aA,aB,aC,aD,aE,aF,aG,aH,aI,aJ,aK,aL,aM] H:=by
 rw [S113x1q]
 unfold finR at hk
 by_cases hw:w=0
 · subst hw
   rw [if_pos (.inl rfl)] at hk
   simp
   exact hk
 · have hw':((w:Int) == 0)=false:=by rw [beq_eq_false_iff_ne];omega
   by_cases hp:p > 3
   · rw [if_pos (.inr (.inl hp))] at hk
     have hp':(3:Int) < p:=by omega
     simp [hw',hp']
     exact hk
   · have hp':¬ (3:Int) < p:=by omega
     by_cases hi:i=s.length
     · rw [if_neg (by simp [hw,hp,hi])] at hk
       subst hi
       simp [hw',hp']
       exact ⟨3-p+1,pad_loop _ hk (3-p) p x _ _ _ _ _ _ _ _ _ _ _ _ _ _ _ _ _ _ _ _ _ _ _ _ _ _ _ _ _ _ _ _ _ _ _ _ _ _ _ _ _ _ _ _ _ _ _ _ _ _ _ _ _ _ _ _ _ _ _ _ _ _ _ _ _ _ _ _ _ _ _ _ _ _ _ _ _ _ _ _ _ _ _ _ _ _ _ _ _ (by omega) h0 h1 rfl⟩
     · rw [if_pos (.inr (.inr (by simp [hi])))] at hk
       have hi':((i:Int) != s.length)=true:=by rw [bne_iff_ne];omega
       simp [hw',hp',hi']
       exact hk
theorem part_loop {H:AHeap} {s:List UInt8} {less:Bool} {k:Value→AHeap→Prop} {w:Nat} (hs:s.length < 2 ^ 60) (q:Int × Int) (hk:k (parV q) H) :
  ∀ (r : List UInt8) (i p : Nat) (x : Int) (s1 s2 s3 s9 a c d e f g h j l m n o t u v y z A B C D E F G I J K L M N O Q R S U V W X Y Z aa ab ac ad ae af ag ah ai aj ak al am an ao ap aq ar au av aw ax ay az aA aB aC aD aE aF aG aH aI aJ aK aL aM aN aO aP aQ aR : Value), s.drop i = r → i ≤ s.length → p ≤ i → 0 ≤ x → x ≤ maxFix →
    q=(if p+runF isDig r=0 then (0,10) else finR less (foldM x (r.take (runF isDig r))) w (p+runF isDig r) (decide (i+runF isDig r=s.length))) →
    L113x1 (r.length+1) k [str s,s1,s2,s3,i64 i,.bool less,i64 x,i64 w,i64 p,s9,a,c,d,e,f,g,h,j,l,m,n,o,t,u,v,y,z,A,B,C,D,E,F,G,I,J,K,L,M,N,O,Q,R,S,U,V,W,X,Y,Z,aa,ab,ac,ad,ae,af,ag,ah,ai,aj,ak,al,am,an,ao,ap,aq,ar,au,av,aw,ax,ay,az,aA,aB,aC,aD,aE,aF,aG,aH,aI,aJ,aK,aL,aM,aN,aO,aP,aQ,aR] H:=by
 intro r
 induction r with
 | nil =>
   intro i p x s1 s2 s3 s9 a c d e f g h j l m n o t u v y z A B C D E F G I J K L M N O Q R S U V W X Y Z aa ab ac ad ae af ag ah ai aj ak al am an ao ap aq ar au av aw ax ay az aA aB aC aD aE aF aG aH aI aJ aK aL aM aN aO aP aQ aR hd hi hpi h0 h1 hq
   have hle:s.length≤i:=by simpa using hd
   have:¬ i < s.length:=by omega
   rw [List.length_nil,L113x1q]
   have hr:runF isDig []=0:=rfl
   rw [hr] at hq
   simp only [Nat.add_zero] at hq
   by_cases hp0:p=0
   · subst hp0
     rw [if_pos rfl] at hq
     rw [hq] at hk
     simp [this]
     exact hk
   · rw [if_neg hp0] at hq
     rw [hq] at hk
     have hpb:((p:Int) == 0)=false:=by rw [beq_eq_false_iff_ne];omega
     simp [this,hpb]
     exact fin_walk h0 h1 hk _ _ _ _ _ _ _ _ _ _ _ _ _ _ _ _ _ _ _ _ _ _ _ _ _ _ _ _ _ _ _ _ _ _ _ _ _ _ _ _ _ _ _ _ _ _ _ _ _ _ _ _ _ _ _ _ _ _ _ _ _ _ _ _ _ _ _ _ _ _ _ _ _ _ _ _ _ _ _ _ _ _ _ _ _ _
 | cons b r ih =>
   intro i p x s1 s2 s3 s9 a c d e f g h j l m n o t u v y z A B C D E F G I J K L M N O Q R S U V W X Y Z aa ab ac ad ae af ag ah ai aj ak al am an ao ap aq ar au av aw ax ay az aA aB aC aD aE aF aG aH aI aJ aK aL aM aN aO aP aQ aR hd hi hpi h0 h1 hq
   have hb:s[i]?=some b:=by rw [← List.head?_drop,hd];rfl
   have hlt:i < s.length:=(List.getElem?_eq_some_iff.1 hb).1
   have hix:=aIndex_at (P:=prog) (T:=9) (k:=.i64) (by simp) hb
   have hdr:s.drop (i+1)=r:=by rw [← List.drop_drop,hd];rfl
   rw [List.length_cons,L113x1q]
   rw [runF_cons] at hq
   have hdig:=r_digit H b
   cases hbd:isDig b with
   | true =>
     rw [if_pos hbd] at hq
     rw [hbd] at hdig
     have wp:IntKind.i64.wrap ((p:Int)+1)=((p+1:Nat):Int):=by rw [wrap_i64 (by omega) (by omega)];omega
     simp [hlt,hix]
     refine bndG_t _ _ hdig ?_
     simp [hix]
     refine bndC_of (r_more H h0 hbd) ?_
     simp [wp,show i+1 < 2 ^ 63 by omega]
     have hr:=moreF_rng (x:=x) h0 hbd
     refine ih (i+1) (p+1) _ _ _ _ _ _ _ _ _ _ _ _ _ _ _ _ _ _ _ _ _ _ _ _ _ _ _ _ _ _ _ _ _ _ _ _ _ _ _ _ _ _ _ _ _ _ _ _ _ _ _ _ _ _ _ _ _ _ _ _ _ _ _ _ _ _ _ _ _ _ _ _ _ _ _ _ _ _ _ _ _ _ _ _ _ _ _ hdr hlt (by omega) hr.1 hr.2 ?_
     have e1:p+(runF isDig r+1)=p+1+runF isDig r:=by omega
     have e2:i+(runF isDig r+1)=i+1+runF isDig r:=by omega
     rw [hq,List.take_succ_cons,e1,e2]
     rfl
   | false =>
     have hz:(if isDig b=true then runF isDig r+1 else 0)=0:=if_neg (by simp [hbd])
     rw [hz] at hq
     rw [hbd] at hdig
     simp only [Nat.add_zero,List.take_zero] at hq
     have hf0:foldM x []=x:=rfl
     rw [hf0] at hq
     simp [hlt,hix]
     refine bndG_t _ _ hdig ?_
     by_cases hp0:p=0
     · subst hp0
       rw [if_pos rfl] at hq
       rw [hq] at hk
       simp
       exact hk
     · rw [if_neg hp0] at hq
       rw [hq] at hk
       have hpb:((p:Int) == 0)=false:=by rw [beq_eq_false_iff_ne];omega
       simp [hpb]
       exact fin_walk h0 h1 hk _ _ _ _ _ _ _ _ _ _ _ _ _ _ _ _ _ _ _ _ _ _ _ _ _ _ _ _ _ _ _ _ _ _ _ _ _ _ _ _ _ _ _ _ _ _ _ _ _ _ _ _ _ _ _ _ _ _ _ _ _ _ _ _ _ _ _ _ _ _ _ _ _ _ _ _ _ _ _ _ _ _ _ _ _ _
def wholeR (less:Bool) (s:List UInt8) (i w:Nat) (x:Int) (r:List UInt8):Int × Int :=
 let m:=runF isDig r
 let x':=foldM x (r.take m)
 match r.drop m with
 | []=>finR less x' (w+m) 0 true
 | c :: v => if ((c.toNat : Int) == 46) = true then
     (if runF isDig v=0 then (0,10) else finR less (foldM x' (v.take (runF isDig v))) (w+m) (runF isDig v) (decide (i+m+1+runF isDig v=s.length)))
   else finR less x' (w+m) 0 (decide (i+m=s.length))
theorem whole_loop {H:AHeap} {s:List UInt8} {less:Bool} {k:Value→AHeap→Prop} (hs:s.length < 2 ^ 60) (q:Int × Int) (hk:k (parV q) H) :
  ∀ (r : List UInt8) (i w : Nat) (x : Int) (s1 s2 s3 s8 s9 a c d e f g h j l m n o t u v y z A B C D E F G I J K L M N O Q R S U V W X Y Z aa ab ac ad ae af ag ah ai aj ak al am an ao ap aq ar au av aw ax ay az aA aB aC aD aE aF aG aH aI aJ aK aL aM aN aO aP aQ aR : Value), s.drop i = r → i ≤ s.length → w ≤ i → 0 ≤ x → x ≤ maxFix → q = wholeR less s i w x r →
    L113x0 (r.length+1) k [str s,s1,s2,s3,i64 i,.bool less,i64 x,i64 w,s8,s9,a,c,d,e,f,g,h,j,l,m,n,o,t,u,v,y,z,A,B,C,D,E,F,G,I,J,K,L,M,N,O,Q,R,S,U,V,W,X,Y,Z,aa,ab,ac,ad,ae,af,ag,ah,ai,aj,ak,al,am,an,ao,ap,aq,ar,au,av,aw,ax,ay,az,aA,aB,aC,aD,aE,aF,aG,aH,aI,aJ,aK,aL,aM,aN,aO,aP,aQ,aR] H:=by
 intro r
 induction r with
 | nil =>
   intro i w x s1 s2 s3 s8 s9 a c d e f g h j l m n o t u v y z A B C D E F G I J K L M N O Q R S U V W X Y Z aa ab ac ad ae af ag ah ai aj ak al am an ao ap aq ar au av aw ax ay az aA aB aC aD aE aF aG aH aI aJ aK aL aM aN aO aP aQ aR hd hi hwi h0 h1 hq
   have hle:s.length≤i:=by simpa using hd
   have:¬ i < s.length:=by omega
   rw [List.length_nil,L113x0q]
   have hq':q=finR less x w 0 (decide (i=s.length)):=by
    rw [hq]
    have:decide (i=s.length)=true:=by simp;omega
    rw [this]
    rfl
   rw [hq'] at hk
   simp [this]
   exact fin_walk (p:=0) h0 h1 hk _ _ _ _ _ _ _ _ _ _ _ _ _ _ _ _ _ _ _ _ _ _ _ _ _ _ _ _ _ _ _ _ _ _ _ _ _ _ _ _ _ _ _ _ _ _ _ _ _ _ _ _ _ _ _ _ _ _ _ _ _ _ _ _ _ _ _ _ _ _ _ _ _ _ _ _ _ _ _ _ _ _ _ _ _ _
 | cons b r ih =>
   intro i w x s1 s2 s3 s8 s9 a c d e f g h j l m n o t u v y z A B C D E F G I J K L M N O Q R S U V W X Y Z aa ab ac ad ae af ag ah ai aj ak al am an ao ap aq ar au av aw ax ay az aA aB aC aD aE aF aG aH aI aJ aK aL aM aN aO aP aQ aR hd hi hwi h0 h1 hq
   have hb:s[i]?=some b:=by rw [← List.head?_drop,hd];rfl
   have hlt:i < s.length:=(List.getElem?_eq_some_iff.1 hb).1
   have hix:=aIndex_at (P:=prog) (T:=9) (k:=.i64) (by simp) hb
   have hdr:s.drop (i+1)=r:=by rw [← List.drop_drop,hd];rfl
   rw [List.length_cons,L113x0q]
   have hdig:=r_digit H b
   cases hbd:isDig b with
   | true =>
     rw [hbd] at hdig
     have ww:IntKind.i64.wrap ((w:Int)+1)=((w+1:Nat):Int):=by rw [wrap_i64 (by omega) (by omega)];omega
     simp [hlt,hix]
     refine bndG_t _ _ hdig ?_
     simp [hix]
     refine bndC_of (r_more H h0 hbd) ?_
     simp [ww,show i+1 < 2 ^ 63 by omega]
     have hr:=moreF_rng (x:=x) h0 hbd
     refine ih (i+1) (w+1) _ _ _ _ _ _ _ _ _ _ _ _ _ _ _ _ _ _ _ _ _ _ _ _ _ _ _ _ _ _ _ _ _ _ _ _ _ _ _ _ _ _ _ _ _ _ _ _ _ _ _ _ _ _ _ _ _ _ _ _ _ _ _ _ _ _ _ _ _ _ _ _ _ _ _ _ _ _ _ _ _ _ _ _ _ _ _ _ hdr hlt (by omega) hr.1 hr.2 ?_
     rw [hq]
     unfold wholeR
     rw [runF_cons,if_pos hbd]
     simp only [List.take_succ_cons,List.drop_succ_cons]
     have e1:w+(runF isDig r+1)=w+1+runF isDig r:=by omega
     have e2:i+(runF isDig r+1)=i+1+runF isDig r:=by omega
     rw [e1,e2]
     rfl
   | false =>
     rw [hbd] at hdig
     have hm0:runF isDig (b :: r)=0:=by rw [runF_cons,if_neg (by simp [hbd])]
     unfold wholeR at hq
     rw [hm0] at hq
     simp only [List.drop_zero,List.take_zero,Nat.add_zero] at hq
     have hf0:foldM x []=x:=rfl
     rw [hf0] at hq
     simp [hlt,hix]
     refine bndG_t _ _ hdig ?_
     by_cases h46:((b.toNat:Int) == 46)=true
     · rw [if_pos h46] at hq
       simp [hlt,hix,h46,show i+1 < 2 ^ 63 by omega]
       exact ⟨r.length+1,part_loop hs q hk r (i+1) 0 x _ _ _ _ _ _ _ _ _ _ _ _ _ _ _ _ _ _ _ _ _ _ _ _ _ _ _ _ _ _ _ _ _ _ _ _ _ _ _ _ _ _ _ _ _ _ _ _ _ _ _ _ _ _ _ _ _ _ _ _ _ _ _ _ _ _ _ _ _ _ _ _ _ _ _ _ _ _ _ _ _ _ _ _ _ _ hdr hlt (by omega) h0 h1 (by rw [hq];simp)⟩
     · have h46':((b.toNat:Int) == 46)=false:=by simpa using h46
       rw [if_neg h46] at hq
       rw [hq] at hk
       simp [hlt,hix,h46']
       exact fin_walk (p:=0) h0 h1 hk _ _ _ _ _ _ _ _ _ _ _ _ _ _ _ _ _ _ _ _ _ _ _ _ _ _ _ _ _ _ _ _ _ _ _ _ _ _ _ _ _ _ _ _ _ _ _ _ _ _ _ _ _ _ _ _ _ _ _ _ _ _ _ _ _ _ _ _ _ _ _ _ _ _ _ _ _ _ _ _ _ _ _ _ _ _
def parR (s:List UInt8):Int × Int:=if hasPre s [45]=true then wholeR true s 1 0 0 (s.drop 1) else wholeR false s 0 0 0 s
theorem r_fparse (H:AHeap) {s:List UInt8} (hs:s.length < 2 ^ 60):ACalls prog 113 [str s] H (parV (parR s)) H:=by
 refine acallsT_pure MixT func113 (by decide) rfl ?_
 rw [d113]
 cases s with
 | nil =>
   simp
   rw [S113x0q]
   exact ⟨0+1,whole_loop (s:=[]) (less:=false) (k:=fun u H2=>u=parV (parR [])∧∃ X,H2=H++X) hs (parR []) ⟨rfl,[],by simp⟩ [] 0 0 0 _ _ _ _ _ _ _ _ _ _ _ _ _ _ _ _ _ _ _ _ _ _ _ _ _ _ _ _ _ _ _ _ _ _ _ _ _ _ _ _ _ _ _ _ _ _ _ _ _ _ _ _ _ _ _ _ _ _ _ _ _ _ _ _ _ _ _ _ _ _ _ _ _ _ _ _ _ _ _ _ _ _ _ _ _ _ _ rfl (by omega) (by omega) (by omega) (by decide) rfl⟩
 | cons b r =>
   have h0:=aIndex_at (P:=prog) (T:=9) (k:=.i64) (l:=b :: r) (i:=0) (b:=b) (by simp) rfl
   simp at h0
   have hp:hasPre (b :: r) [45]=((b.toNat:Int) == 45):=by
    have:((b.toNat:Int) == 45)=decide (b=45):=byte_all (p:=fun b=>((b.toNat:Int) == 45)=decide (b=45)) (by decide +kernel) b
    rw [this]
    simp [hasPre]
   have hpos:(0:Int) < (r.length:Int)+1:=by omega
   by_cases h45:((b.toNat:Int) == 45)=true
   · have hpr:parR (b :: r)=wholeR true (b :: r) 1 0 0 r:=by unfold parR;rw [hp,if_pos h45];rfl
     simp [h0,h45,hpos]
     rw [S113x0q]
     exact ⟨r.length+1,whole_loop (s:=b :: r) (less:=true) (k:=fun u H2=>u=parV (parR (b :: r))∧∃ X,H2=H++X) hs (parR (b :: r)) ⟨rfl,[],by simp⟩ r 1 0 0 _ _ _ _ _ _ _ _ _ _ _ _ _ _ _ _ _ _ _ _ _ _ _ _ _ _ _ _ _ _ _ _ _ _ _ _ _ _ _ _ _ _ _ _ _ _ _ _ _ _ _ _ _ _ _ _ _ _ _ _ _ _ _ _ _ _ _ _ _ _ _ _ _ _ _ _ _ _ _ _ _ _ _ _ _ _ _ rfl (by simp) (by omega) (by omega) (by decide) hpr⟩
   · have h45':((b.toNat:Int) == 45)=false:=by simpa using h45
     have hpr:parR (b :: r)=wholeR false (b :: r) 0 0 0 (b :: r):=by unfold parR;rw [hp,if_neg h45]
     simp [h0,h45',hpos]
     rw [S113x0q]
     exact ⟨(b :: r).length+1,whole_loop (s:=b :: r) (less:=false) (k:=fun u H2=>u=parV (parR (b :: r))∧∃ X,H2=H++X) hs (parR (b :: r)) ⟨rfl,[],by simp⟩ (b :: r) 0 0 0 _ _ _ _ _ _ _ _ _ _ _ _ _ _ _ _ _ _ _ _ _ _ _ _ _ _ _ _ _ _ _ _ _ _ _ _ _ _ _ _ _ _ _ _ _ _ _ _ _ _ _ _ _ _ _ _ _ _ _ _ _ _ _ _ _ _ _ _ _ _ _ _ _ _ _ _ _ _ _ _ _ _ _ _ _ _ _ rfl (by simp) (by omega) (by omega) (by decide) hpr⟩
theorem scan_digs:∀ (D v:List UInt8) (i:Nat) (pt:Int),D.all isDig=true→scanF (D++v) i pt=scanF v (i+D.length) pt:=by
 intro D
 induction D with
 | nil=>intro v i pt _;simp
 | cons d D ih =>
   intro v i pt h
   rw [List.all_cons,Bool.and_eq_true] at h
   rw [List.cons_append,scanF,if_pos h.1,ih v (i+1) pt h.2]
   simp only [List.length_cons]
   congr 1
   omega
theorem split_run (p:UInt8→Bool) (r:List UInt8):(r.take (runF p r)).all p=true∧(∀ c v,r.drop (runF p r)=c :: v→p c=false):=by
 induction r with
 | nil=>exact ⟨rfl,fun c v h=>by cases h⟩
 | cons b r ih =>
   rw [runF_cons]
   cases hb:p b with
   | true=>exact ⟨by simp only [if_true,List.take_succ_cons,List.all_cons,hb,Bool.true_and];exact ih.1,fun c v h=>ih.2 c v (by simpa using h)⟩
   | false=>exact ⟨by simp,fun c v h=>by simp at h;rw [← h.1];exact hb⟩
theorem par_eq (s:List UInt8):parR s=parF s:=by
 have key:∀ (less:Bool) (i:Nat) (u:List UInt8),s.drop i=u→i≤s.length→wholeR less s i 0 0 u=(if (cutF u).2.2=true then (if less=true then -(digF 0 ((cutF u).1++(cutF u).2.1++List.replicate (3-(cutF u).2.1.length) 48)) else digF 0 ((cutF u).1++(cutF u).2.1++List.replicate (3-(cutF u).2.1.length) 48),0) else (0,10)):=by
  intro less i u hu hi
  have hul:u.length=s.length-i:=by rw [← hu,List.length_drop]
  obtain ⟨s1,s2⟩:=split_run isDig u
  have hmle:=runF_le isDig u
  unfold wholeR
  dsimp only
  generalize hm:runF isDig u=m at *
  have hsp:u=u.take m++u.drop m:=(List.take_append_drop m u).symm
  have htl:(u.take m).length=m:=by simp;omega
  cases hr:u.drop m with
  | nil =>
    dsimp only
    have hum:u.length=m:=by
     have:=congrArg List.length hr
     simp at this
     omega
    have hut:u.take m=u:=List.take_of_length_le (by omega)
    rw [hut] at s1 ⊢
    have hsc:scanF u 0 (-1)=(-1,true):=by
     have:=scan_digs u [] 0 (-1) s1
     rw [List.append_nil] at this
     rw [this];rfl
    have hcut:cutF u=(u,[],!u.isEmpty):=by unfold cutF cutT;rw [hsc];simp
    rw [hcut]
    simp only
    unfold finR
    by_cases hm0:m=0
    · have:u=[]:=List.eq_nil_of_length_eq_zero (by omega)
      subst this
      rw [if_pos (.inl (by omega))]
      rfl
    · have hne:u.isEmpty=false:=by cases u with | nil=>simp at hum;omega | cons=>rfl
      rw [if_neg (by simp;omega),hne]
      simp only [Bool.not_false,if_true,List.append_nil,List.length_nil]
      rw [digF_fold _ 0 (Int.le_refl _) (by decide) (by rw [List.all_append,s1];decide)]
      unfold foldM
      rw [List.foldl_append]
  | cons c v =>
    dsimp only
    have hcd:=s2 c v hr
    have hum:u.length=m+1+v.length:=by
     have:=congrArg List.length hr
     simp at this
     omega
    have hsc:scanF u 0 (-1)=scanF (c :: v) m (-1):=by
     conv=>lhs;rw [hsp,hr]
     rw [scan_digs _ _ _ _ s1,htl,Nat.zero_add]
    rw [scanF,if_neg (by simp [hcd])] at hsc
    by_cases h46:((c.toNat:Int) == 46)=true
    · rw [if_pos h46]
      rw [if_pos (by simp [h46])] at hsc
      obtain ⟨t1,t2⟩:=split_run isDig v
      have hvle:=runF_le isDig v
      generalize hp:runF isDig v=p at *
      have hvsp:v=v.take p++v.drop p:=(List.take_append_drop p v).symm
      have hvtl:(v.take p).length=p:=by simp;omega
      have hsc2:scanF v (m+1) (m:Int)=((m:Int),decide (p=v.length)):=by
       have e1:scanF v (m+1) (m:Int)=scanF (v.drop p) (m+1+p) (m:Int):=by
        conv=>lhs;rw [hvsp]
        rw [scan_digs _ _ _ _ t1,hvtl]
       rw [e1]
       cases hv:v.drop p with
       | nil =>
         have:p=v.length:=by
          have:=congrArg List.length hv
          simp at this
          omega
         rw [scanF]
         simp [this]
       | cons c2 v2 =>
         have:¬ p=v.length:=by
          have:=congrArg List.length hv
          simp at this
          omega
         rw [scanF,if_neg (by simp [t2 c2 v2 hv]),if_neg (by simp)]
         simp [this]
      rw [hsc2] at hsc
      have hdv:u.drop (m+1)=v:=by rw [← List.drop_drop,hr];rfl
      have hcut:cutF u=(u.take m,v,decide (p=v.length) && !u.isEmpty && !decide (u.take m=[]) && !decide (v=[]) && decide (v.length≤3)):=by
       unfold cutF cutT
       rw [hsc]
       simp only
       rw [if_neg (by omega)]
       simp only [Int.toNat_natCast,hdv]
      have hne:u.isEmpty=false:=by cases u with | nil=>simp at hum;omega | cons=>rfl
      rw [hcut,hne]
      simp only [Bool.not_false,Bool.and_true]
      have htm:(u.take m=[])↔m=0:=by
       rw [← List.length_eq_zero_iff,htl]
      have hvm:(v=[])↔v.length=0:=List.length_eq_zero_iff.symm
      by_cases hall:p=v.length∧m≠0∧v.length≠0∧v.length≤3
      · obtain ⟨a1,a2,a3,a4⟩:=hall
        have hvt:v.take p=v:=List.take_of_length_le (by omega)
        rw [if_neg (by omega),if_pos (by simp [a1,htm,hvm,a2,a3,a4])]
        unfold finR
        rw [if_neg (by simp;omega),hvt]
        rw [hvt] at t1
        rw [digF_fold _ 0 (Int.le_refl _) (by decide) (by
         rw [List.all_append,List.all_append,s1,t1]
         simp only [Bool.true_and,List.all_eq_true]
         intro x hx
         rw [(List.mem_replicate.1 hx).2]
         decide)]
        unfold foldM
        rw [List.foldl_append,List.foldl_append,a1]
      · have hbad:(decide (p=v.length) && !decide (u.take m=[]) && !decide (v=[]) && decide (v.length≤3))=false:=by
         rw [← Bool.not_eq_true]
         intro h
         simp only [Bool.and_eq_true,decide_eq_true_eq,Bool.not_eq_true',decide_eq_false_iff_not,htm,hvm] at h
         exact hall ⟨h.1.1.1,h.1.1.2,h.1.2,h.2⟩
        rw [hbad,if_neg (show ¬ (false=true) by decide)]
        by_cases hp0:p=0
        · rw [if_pos hp0]
        · rw [if_neg hp0]
          unfold finR
          rw [if_pos]
          by_cases q1:m=0
          · exact .inl (by omega)
          · by_cases q2:p > 3
            · exact .inr (.inl q2)
            · refine .inr (.inr ?_)
              rw [decide_eq_false_iff_not]
              intro q3
              exact hall ⟨by omega,q1,by omega,by omega⟩
    · rw [if_neg h46]
      rw [if_neg (by simp [h46])] at hsc
      have hcut:(cutF u).2.2=false:=by unfold cutF cutT;rw [hsc];simp
      rw [hcut]
      unfold finR
      rw [if_pos (.inr (.inr (by rw [decide_eq_false_iff_not];omega)))]
      rfl
 unfold parR parF
 by_cases h:hasPre s [45]=true
 · have h1:1≤s.length:=by
    unfold hasPre at h
    simp only [Bool.and_eq_true,decide_eq_true_eq] at h
    exact h.1
   have hc:cutPre s [45]=s.drop 1:=by unfold cutPre;rw [if_pos h];rfl
   rw [if_pos h,key true 1 (s.drop 1) rfl h1]
   simp only [hc,h,if_true]
 · have hc:cutPre s [45]=s:=by unfold cutPre;rw [if_neg h]
   rw [if_neg h,key false 0 s rfl (Nat.zero_le _)]
   simp only [hc,h,if_false,Bool.false_eq_true]
end Go.Vi
namespace Go.Vi
open Go Go.Proofs Go.Proofs.Tryz
theorem bndG_f {H:AHeap} {e q:QH} (v:Value) (H':AHeap) (h:e.f v H') (k:q.f v H'):@bndG (.bool false) false H e q:=⟨v,H',by simpa [gifp] using h,k⟩
theorem matR_ok (m:Mat) (h0:0≤m.op):m.ok=(decide (m.op≤2) && mayName m.name && decide (m.value.length≤32) && m.value.all isSign):=by
 have e:(m.op == 0 || m.op == 1 || m.op == 2)=decide (m.op≤2):=by
  rw [Bool.eq_iff_iff]
  simp only [Bool.or_eq_true,beq_iff_eq,decide_eq_true_eq]
  omega
 unfold Mat.ok mayM mayValue
 rw [e]
 cases m.value with
 | nil=>simp
 | cons b r=>simp [Bool.and_assoc]
theorem rMay_loop {H:AHeap} {v:Value} {ms:List Mat} {k:Value→AHeap→Prop} {w:Bool} (hm:MatsAt H v ms) (hl:ms.length < 2 ^ 62) (h0:∀ m∈ms,0≤m.op∧m.name.length < 2 ^ 60∧m.value.length < 2 ^ 60) (hk:k (.bool w) H) :
  ∀ (r:List Mat) (i:Nat) (X Y Z s5 s6 s7 s8 s9 a b c g j l n o p q s t u x y z A B C D E F G I J K L M N O Q R S U V W:Value),ms.drop i=r→i≤ms.length→w=(r.all Mat.ok && decide (ms.length≤6))→L111x0 (r.length+1) k [v,X,Y,i64 i,Z,s5,s6,s7,s8,s9,a,b,c,g,j,l,n,o,p,q,s,t,u,x,y,z,A,B,C,D,E,F,G,I,J,K,L,M,N,O,Q,R,S,U,V,W] H:=by
 have hlen:=Arr.len (P:=prog) (T:=52) (e:=56) hm (by simp)
 simp at hlen
 intro r
 induction r with
 | nil =>
   intro i X Y Z s5 s6 s7 s8 s9 a b c g j l n o p q s t u x y z A B C D E F G I J K L M N O Q R S U V W hd hi hw
   have hle:ms.length≤i:=by simpa using hd
   have:¬ i < ms.length:=by omega
   rw [List.length_nil,L111x0q]
   rw [List.all_nil,Bool.true_and] at hw
   have e:decide ((ms.length:Int)≤6)=w:=by rw [hw,decide_eq_decide];omega
   simp [hlen,this]
   rw [e]
   exact hk
 | cons m r ih =>
   intro i X Y Z s5 s6 s7 s8 s9 a b c g j l n o p q s t u x y z A B C D E F G I J K L M N O Q R S U V W hd hi hw
   have hb:ms[i]?=some m:=by rw [← List.head?_drop,hd];rfl
   have hlt:i < ms.length:=(List.getElem?_eq_some_iff.1 hb).1
   have hdr:ms.drop (i+1)=r:=by rw [← List.drop_drop,hd];rfl
   obtain ⟨g1,g2,g3⟩:=h0 m (List.mem_of_getElem? hb)
   have hcell:(ms.map Mat.cells)[i]?=some m.cells:=by simp [hb]
   obtain ⟨p1,q1,a1,a2,a3⟩:=Arr.field (P:=prog) (T:=52) (te:=56) (f:=1) (d:=1) (ft:=5) hm (by simp) (by simp) (by simp) (by simp) (by simp) hcell rfl
   obtain ⟨p2,q2,b1,b2,b3⟩:=Arr.field (P:=prog) (T:=52) (te:=56) (f:=0) (d:=0) (ft:=9) hm (by simp) (by simp) (by simp) (by simp) (by simp) hcell rfl
   obtain ⟨p3,q3,c1,c2,c3⟩:=Arr.field (P:=prog) (T:=52) (te:=56) (f:=2) (d:=2) (ft:=9) hm (by simp) (by simp) (by simp) (by simp) (by simp) hcell rfl
   rw [a1] at b1 c1
   cases b1
   cases c1
   have hok:=matR_ok m g1
   rw [List.all_cons] at hw
   rw [List.length_cons,L111x0q]
   have no:m.ok=false→k (.bool false) H:=by
    intro h
    rw [h,Bool.false_and,Bool.false_and] at hw
    rw [← hw]
    exact hk
   by_cases t1:(2:Int) < m.op
   · simp [hlen,hlt,a1,a2,a3,t1]
     exact no (by rw [hok];simp;intro h;omega)
   · simp [hlen,hlt,a1,a2,a3,t1,b2,b3]
     refine bndG_f _ _ (r_mayName H (by omega)) ?_
     cases t2:mayName m.name with
     | false =>
       simp
       exact no (by rw [hok,t2];simp)
     | true =>
       by_cases t3:(32:Int) < m.value.length
       · simp [a1,c2,c3,t3]
         exact no (by rw [hok];simp;intros;omega)
       · simp [a1,c2,c3,t3]
         refine bndG_f _ _ (r_plain H (by omega)) ?_
         cases t4:m.value.all isSign with
         | false =>
           simp
           exact no (by rw [hok,t4];simp)
         | true =>
           have hy:m.ok=true:=by rw [hok,t2,t4];simp;omega
           rw [hy,Bool.true_and] at hw
           simp [show i+1 < 2 ^ 63 by omega]
           exact ih (i+1) _ _ _ _ _ _ _ _ _ _ _ _ _ _ _ _ _ _ _ _ _ _ _ _ _ _ _ _ _ _ _ _ _ _ _ _ _ _ _ _ _ _ _ _ hdr hlt hw
theorem r_mats {H:AHeap} {v:Value} {ms:List Mat} (hm:MatsAt H v ms) (hl:ms.length < 2 ^ 62) (h0:∀ m∈ms,0≤m.op∧m.name.length < 2 ^ 60∧m.value.length < 2 ^ 60):ACalls prog 111 [v] H (.bool (mayMats ms)) H:=by
 refine acalls_pure MixT func111 (by decide) rfl ?_
 rw [d111]
 exact ⟨ms.length+1,rMay_loop (k:=fun u H2=>u=.bool (mayMats ms)∧∃ X,H2=H++X) hm hl h0 ⟨rfl,[],by simp⟩ ms 0 _ _ _ _ _ _ _ _ _ _ _ _ _ _ _ _ _ _ _ _ _ _ _ _ _ _ _ _ _ _ _ _ _ _ _ _ _ _ _ _ _ _ _ _ rfl (by omega) rfl⟩
def nodB (g w c x:Int) (sv:Value):List Value:=[.int .u8 0,.int .u8 g,sv,i64 w,.int .u8 c,i64 x,i64 0,i64 0]
structure CM (K M:AHeap) (g w c x:Int) (sv:Value) (ms:List Mat):Prop where
 pre:Pre K M
 blk:M[K.length]?=some (.cells (nodB g w c x sv) 54)
 sel:Gro M (K.length+1) 3 56 sv (ms.map Mat.cells)
def CmpP (K:AHeap) (r:Option (Nod × Nat)) (u:Value) (K':AHeap):Prop:=∃ v,∃ next:Int,∃ out:List Nod,u=.tuple #[v,i64 next]∧Pre K K'∧NL K' K.length v out∧(match r with | none=>out=[]∧next = -1 | some p=>out=[p.1]∧next=p.2)
theorem NL.nil {K lo}:NL K lo (.slice none 0 0) []:=⟨[],.nil,rfl,fun i n h=>by simp at h⟩
theorem CmpP.none {K K':AHeap} (h:Pre K K'):CmpP K none (.tuple #[.slice none 0 0,i64 (-1)]) K':=⟨_,_,[],rfl,h,.nil,rfl,rfl⟩
theorem cmps_star:∀ i,i < 6→cmps.getD i []≠[42]:=by decide
theorem aggs_star:∀ i,i < 6→aggs.getD i []≠[42]:=by decide
def valE (ts:List Tok) (g:UInt8) (ms:List Mat) (w:Int) (c:UInt8) (b:Nat):Option (Nod × Nat):=(valO ts b).bind fun v=>some (⟨0,g,ms,w,c,v.1,0,0⟩,v.2)
def cmpE (ts:List Tok) (g:UInt8) (ms:List Mat) (c:Nat):Option (Nod × Nat):=(signO ts [91] c).bind fun b3=>(winO ts b3).bind fun w =>
 (signO ts [93] w.2).bind fun b4=>(signO ts [41] b4).bind fun b5=>(oneO ts 4 cmps b5).bind fun b6=>valE ts g ms w.1 (UInt8.ofNat (idxS cmps (txtK ts 4 b5))) b6
theorem cmpO_split (ts:List Tok) (a:Nat):cmpO ts a=(oneO ts 1 aggs a).bind fun b1=>(signO ts [40] b1).bind fun b2=>(selO ts b2).bind fun p=>cmpE ts (UInt8.ofNat (idxS aggs (txtK ts 1 a))) p.1 p.2:=rfl
section
variable {K:AHeap} {v:Value} {T:List RTk} {k:Value→AHeap→Prop} {R:Option (Nod × Nat)}
theorem CM.hc {M g w c x sv ms} (h:CM K M g w c x sv ms):hcells M K.length=some (nodB g w c x sv):=by simp [hcells,h.blk]
theorem CM.hl {M g w c x sv ms} (h:CM K M g w c x sv ms):hlen M K.length=some 8:=by simp [hlen,h.blk,nodB]
theorem CM.put {M g w c x sv ms} (h:CM K M g w c x sv ms) (g' w' c' x':Int):CM K (M.set K.length (.cells (nodB g' w' c' x' sv) 54)) g' w' c' x' sv ms:=by
 have hlt:=(List.getElem?_eq_some_iff.1 h.blk).1
 exact ⟨h.pre.set (Nat.le_refl _),by rw [List.getElem?_set_self hlt],h.sel.set (by omega)⟩
theorem cmp_end {M:AHeap} {g c:UInt8} {w:Int} {sv:Value} {ms:List Mat} {b:Nat} {less:List UInt8} (hT:RTA K v T) (hM:CM K M g.toNat w c.toNat 0 sv ms) (hml:ms.length≤2 ^ 41) (htx:∀ p∈T,p.1.text.length < 2 ^ 50)
  (hb:b < 2 ^ 50) (hless:less.length≤1) (hR:R=match tokK (T.map Prod.fst) 2 b with | none=>none | some s=>if (parF (less++s)).2=0 then some (⟨0,g,ms,w,c,(parF (less++s)).1,0,0⟩,b+1) else none)
  (hk:∀ u K',CmpP K R u K'→k u K') (s2 s3 s4 s5 s7 s8 s9 aO aP aQ aR aS aT aU aV aW aX aY aZ a0 a1 a2 a3 a4 a5 a6 a7 a8 a9 ba bb bc bd be bf bg bh bi bj bk bl bm bn bo bp bq br bs bt bu bv bw bx bz bA bB bC bD bE bF bG bH bI bJ bK bL bM bN bO bP bQ bR bS bT bU bV bW bX bY bZ b0 b1 b2 b3 b4 b5 b6 b7 b8 b9 ca cb cc cd ce cf d e f h j l m o q r t A B C D E F G I J L N O Q S U V W Y Z aa ab ac ad ae af ag ah ai aj ak al am an ao ap aq ar au av aw ax ay az aA aB aC aD aE aF aG aH aI aJ aK aL aM aN:Value):S98x1 k [v,i64 b,s2,s3,s4,s5,.pointer (some ⟨K.length,0,some 8⟩),s7,s8,s9,str less,aO,aP,aQ,aR,aS,aT,aU,aV,aW,aX,aY,aZ,a0,a1,a2,a3,a4,a5,a6,a7,a8,a9,ba,bb,bc,bd,be,bf,bg,bh,bi,bj,bk,bl,bm,bn,bo,bp,bq,br,bs,bt,bu,bv,bw,bx,bz,bA,bB,bC,bD,bE,bF,bG,bH,bI,bJ,bK,bL,bM,bN,bO,bP,bQ,bR,bS,bT,bU,bV,bW,bX,bY,bZ,b0,b1,b2,b3,b4,b5,b6,b7,b8,b9,ca,cb,cc,cd,ce,cf,d,e,f,h,j,l,m,o,q,r,t,A,B,C,D,E,F,G,I,J,L,N,O,Q,S,U,V,W,Y,Z,aa,ab,ac,ad,ae,af,ag,ah,ai,aj,ak,al,am,an,ao,ap,aq,ar,au,av,aw,ax,ay,az,aA,aB,aC,aD,aE,aF,aG,aH,aI,aJ,aK,aL,aM,aN] M:=by
 rw [S98x1q]
 have i1:=r_is (hT.pre hM.pre) b 2 [42]
 rw [isR_star] at i1
 refine bndC_of i1 ?_
 cases ht:tokK (T.map Prod.fst) 2 b with
 | none =>
   rw [ht] at hR
   subst hR
   simp
   exact hk _ _ (.none hM.pre)
 | some s =>
   rw [ht] at hR
   simp only at hR
   obtain ⟨p,p1,p2,p3⟩:=tok_at ht
   obtain ⟨e1,e2,e3,f1,f2,f3,f4,f5⟩:=(hT.pre hM.pre).at p1
   rw [p3] at f5
   have hsl:s.length < 2 ^ 50:=by rw [← p3];exact htx p (List.mem_of_getElem? p1)
   have hcat:=fun x y=>aBin_str (P:=prog) (H:=M) (T:=9) (x:=x) (y:=y) (a:=less) (b:=s) (by omega)
   simp [f1,f4,f5]
   refine bnd_of (hcat _ _) ?_
   have hpr:=r_fparse M (s:=less++s) (by simp;omega)
   rw [par_eq] at hpr
   refine bndC_of hpr ?_
   by_cases h0:(parF (less++s)).2=0
   · rw [if_pos h0] at hR
     have hM2:=hM.put g.toNat w c.toNat (parF (less++s)).1
     have w1:IntKind.i64.wrap ((b:Int)+1)=((b+1:Nat):Int):=by rw [wrap_i64 (by omega) (by omega)];omega
     have hbk:=hM.blk
     have hll:=hM.hl
     have hcc:=hM.hc
     have ho:=hM.sel.one
     have hc2:=hM2.hc
     have hnc:Nod.cells ⟨0,g,ms,w,c,(parF (less++s)).1,0,0⟩ sv=nodB g.toNat w c.toNat (parF (less++s)).1 sv:=rfl
     generalize hM2e:M.set K.length (.cells (nodB g.toNat w c.toNat (parF (less++s)).1 sv) 54)=M2 at *
     simp only [nodB] at hc2 hM2e
     simp [parV,h0,hll,hbk,nodB,hM2e,hc2]
     have hlit:=sliceLitA (c:=nodB g.toNat w c.toNat (parF (less++s)).1 sv) (tbs32 M2 1 _) (by rfl) (by simp [nodB,ho]) (by simp)
     refine bndL_lit hlit ?_
     simp [w1]
     refine hk _ _ ⟨_,_,[⟨0,g,ms,w,c,(parF (less++s)).1,0,0⟩],rfl,hM2.pre.more _,⟨[nodB g.toNat w c.toNat (parF (less++s)).1 sv],?_,rfl,?_⟩,by rw [hR];exact ⟨rfl,by omega⟩⟩
     · have:=Gro.mk (K:=M2++[.cells (nodB g.toNat w c.toNat (parF (less++s)).1 sv) 54]) (lo:=K.length) (z:=8) (T:=54) M2.length [nodB g.toNat w c.toNat (parF (less++s)).1 sv] (by obtain ⟨X,rfl⟩:=hM2.pre;simp) (by simp) (by simp) (by simp [nodB])
       simp at this
       exact this
     · intro i n hi
       cases i with
       | zero =>
         simp at hi
         subst hi
         exact ⟨sv,by rw [hnc];rfl,(hM2.sel.weak (by omega)).app,hml⟩
       | succ i=>simp at hi
   · rw [if_neg h0] at hR
     subst hR
     have h0':((parF (less++s)).2 != 0)=true:=by simpa using h0
     simp [parV,h0']
     exact hk _ _ (.none hM.pre)
theorem one_some {ts:List Tok} {kk:Int} {l:List (List UInt8)} {a j:Nat} (hn:l.Nodup) (hj:j < l.length) (h:tokK ts kk a=some (l.getD j [])):oneO ts kk l a=some (a+1)∧idxS l (txtK ts kk a)=j:=by
 have hg:l.getD j []=l[j]:=by rw [List.getD_eq_getElem?_getD,List.getElem?_eq_getElem hj];rfl
 have hm:l.getD j []∈l:=by rw [hg];exact List.getElem_mem hj
 unfold oneO txtK idxS
 rw [h]
 simp only [Option.bind_some,Option.getD_some]
 rw [if_pos hm,if_pos hm,hg]
 exact ⟨rfl,List.Nodup.idxOf_getElem hn j hj⟩
theorem one_none {ts:List Tok} {kk:Int} {l:List (List UInt8)} {a:Nat} (h:∀ i,i < l.length→tokK ts kk a≠some (l.getD i [])):oneO ts kk l a=none:=by
 unfold oneO
 cases ht:tokK ts kk a with
 | none=>rfl
 | some s =>
   simp only [Option.bind_some]
   rw [if_neg]
   intro hm
   obtain ⟨i,hi⟩:=List.getElem?_of_mem hm
   have hlt:=(List.getElem?_eq_some_iff.1 hi).1
   exact h i hlt (by rw [ht,List.getD_eq_getElem?_getD,hi];rfl)
theorem cmps_nd:cmps.Nodup:=by decide
theorem aggs_nd:aggs.Nodup:=by decide
set_option maxHeartbeats 1000000 in
theorem cmp_find {M:AHeap} {g:UInt8} {w:Int} {sv:Value} {ms:List Mat} {b:Nat} (hT:RTA K v T) (hM:CM K M g.toNat w 0 0 sv ms) (hml:ms.length≤2 ^ 41) (htx:∀ p∈T,p.1.text.length < 2 ^ 50) (hb:b < 2 ^ 49)
  (hR:R=if w=0 then none else (oneO (T.map Prod.fst) 4 cmps b).bind fun b6=>valE (T.map Prod.fst) g ms w (UInt8.ofNat (idxS cmps (txtK (T.map Prod.fst) 4 b))) b6) (hk:∀ u K',CmpP K R u K'→k u K') :
  ∀ (d j:Nat) (s2 s3 s4 s5 s8 s9 aK aL aM aN aO aP aQ aR aS aT aU aV aW aX aY aZ a0 a1 a2 a3 a4 a5 a6 a7 a8 a9 ba bb bc bd be bf bg bh bi bj bk bl bm bn bo bp bq br bs bt bu bv bw bx bz bA bB bC bD bE bF bG bH bI bJ bK bL bM bN bO bP bQ bR bS bT bU bV bW bX bY bZ b0 b1 b2 b3 b4 b5 b7 b8 b9 ca cb cc cd a c f m n o q r t x y z A B C D E F G H I J L N O P Q S U V W X Y Z aa ab ac ad ae af ag ah ai aj ak al am an ao ap aq ar au av aw ax ay az aA aB aC aD aE aF aG aH aI aJ:Value),d+j=6→(∀ i,i < j→tokK (T.map Prod.fst) 4 b≠some (cmps.getD i []))→L98x2 (d+1) k [v,i64 b,s2,s3,s4,s5,.pointer (some ⟨K.length,0,some 8⟩),i64 j,s8,s9,aK,aL,aM,aN,aO,aP,aQ,aR,aS,aT,aU,aV,aW,aX,aY,aZ,a0,a1,a2,a3,a4,a5,a6,a7,a8,a9,ba,bb,bc,bd,be,bf,bg,bh,bi,bj,bk,bl,bm,bn,bo,bp,bq,br,bs,bt,bu,bv,bw,bx,bz,bA,bB,bC,bD,bE,bF,bG,bH,bI,bJ,bK,bL,bM,bN,bO,bP,bQ,bR,bS,bT,bU,bV,bW,bX,bY,bZ,b0,b1,b2,b3,b4,b5,b7,b8,b9,ca,cb,cc,cd,a,c,f,m,n,o,q,r,t,x,y,z,A,B,C,D,E,F,G,H,I,J,L,N,O,P,Q,S,U,V,W,X,Y,Z,aa,ab,ac,ad,ae,af,ag,ah,ai,aj,ak,al,am,an,ao,ap,aq,ar,au,av,aw,ax,ay,az,aA,aB,aC,aD,aE,aF,aG,aH,aI,aJ] M:=by
 have hTM:=hT.pre hM.pre
 have hll:=hM.hl
 have hcc:=hM.hc
 intro d
 induction d with
 | zero =>
   intro j s2 s3 s4 s5 s8 s9 aK aL aM aN aO aP aQ aR aS aT aU aV aW aX aY aZ a0 a1 a2 a3 a4 a5 a6 a7 a8 a9 ba bb bc bd be bf bg bh bi bj bk bl bm bn bo bp bq br bs bt bu bv bw bx bz bA bB bC bD bE bF bG bH bI bJ bK bL bM bN bO bP bQ bR bS bT bU bV bW bX bY bZ b0 b1 b2 b3 b4 b5 b7 b8 b9 ca cb cc cd a c f m n o q r t x y z A B C D E F G H I J L N O P Q S U V W X Y Z aa ab ac ad ae af ag ah ai aj ak al am an ao ap aq ar au av aw ax ay az aA aB aC aD aE aF aG aH aI aJ hd hn
   obtain rfl:j=6:=by omega
   have:R=none:=by
    rw [hR,one_none (l:=cmps) hn]
    split<;>rfl
   subst this
   rw [L98x2q]
   simp
   exact hk _ _ (.none hM.pre)
 | succ d ih =>
   intro j s2 s3 s4 s5 s8 s9 aK aL aM aN aO aP aQ aR aS aT aU aV aW aX aY aZ a0 a1 a2 a3 a4 a5 a6 a7 a8 a9 ba bb bc bd be bf bg bh bi bj bk bl bm bn bo bp bq br bs bt bu bv bw bx bz bA bB bC bD bE bF bG bH bI bJ bK bL bM bN bO bP bQ bR bS bT bU bV bW bX bY bZ b0 b1 b2 b3 b4 b5 b7 b8 b9 ca cb cc cd a c f m n o q r t x y z A B C D E F G H I J L N O P Q S U V W X Y Z aa ab ac ad ae af ag ah ai aj ak al am an ao ap aq ar au av aw ax ay az aA aB aC aD aE aF aG aH aI aJ hd hn
   have hj:j < 6:=by omega
   have hjI:(j:Int) < 6:=by omega
   have hj6:((j:Int) == 6)=false:=by rw [beq_eq_false_iff_ne];omega
   have wj:IntKind.i64.wrap ((j:Int)+1)=((j+1:Nat):Int):=by rw [wrap_i64 (by omega) (by omega)];omega
   have wju:IntKind.u8.wrap (j:Int)=(j:Int):=by unfold IntKind.wrap;simp [IntKind.bits,IntKind.signed];omega
   have w1:IntKind.i64.wrap ((b:Int)+1)=((b+1:Nat):Int):=by rw [wrap_i64 (by omega) (by omega)];omega
   have w2:IntKind.i64.wrap ((b:Int)+1+1)=((b+2:Nat):Int):=by rw [wrap_i64 (by omega) (by omega)];omega
   rw [L98x2q]
   have i1:=r_is hTM b 4 (cmps.getD j [])
   rw [isR_txt (cmps_star j hj)] at i1
   simp [hjI]
   refine bndG_t _ _ (r_compare _ hj) ?_
   refine bndG_t _ _ i1 ?_
   cases t1:isT (T.map Prod.fst) b 4 (cmps.getD j []) with
   | false =>
     simp [wj]
     refine ih (j+1) _ _ _ _ _ _ _ _ _ _ _ _ _ _ _ _ _ _ _ _ _ _ _ _ _ _ _ _ _ _ _ _ _ _ _ _ _ _ _ _ _ _ _ _ _ _ _ _ _ _ _ _ _ _ _ _ _ _ _ _ _ _ _ _ _ _ _ _ _ _ _ _ _ _ _ _ _ _ _ _ _ _ _ _ _ _ _ _ _ _ _ _ _ _ _ _ _ _ _ _ _ _ _ _ _ _ _ _ _ _ _ _ _ _ _ _ _ _ _ _ _ _ _ _ _ _ _ _ _ _ _ _ _ _ _ _ _ _ _ _ _ _ _ _ _ _ _ _ _ _ _ _ _ _ _ _ _ _ _ _ _ _ _ _ (by omega) (fun i hi=>?_)
     by_cases e:i=j
     · rw [e];intro h;rw [(isT_tok _ _ _ _).2 h] at t1;cases t1
     · exact hn i (by omega)
   | true =>
     obtain ⟨o1,o2⟩:=one_some cmps_nd hj ((isT_tok _ _ _ _).1 t1)
     rw [o1,o2] at hR
     simp only [Option.bind_some] at hR
     have hcu:((UInt8.ofNat j).toNat:Int)=j:=by rw [UInt8.toNat_ofNat_of_lt' (by show j < 256;omega)]
     by_cases hw:w=0
     · rw [if_pos hw] at hR
       subst hR
       subst hw
       simp [hj6,hll,hcc,nodB]
       exact hk _ _ (.none hM.pre)
     · rw [if_neg hw] at hR
       have hw':(w == 0)=false:=by simpa using hw
       have hM2:=hM.put g.toNat w (j:Int) 0
       generalize hM2e:M.set K.length (.cells (nodB g.toNat w j 0 sv) 54)=M2 at *
       simp only [nodB] at hM2e
       have i2:=r_is (hT.pre hM2.pre) (b+1) 4 [45]
       rw [isR_txt (by decide)] at i2
       have hbk:=hM.blk
       simp [hj6,hll,hcc,nodB,hw',hbk,wju,w1,hM2e]
       refine bndC_of i2 ?_
       rw [← hcu] at hM2
       cases t2:isT (T.map Prod.fst) (b+1) 4 [45] with
       | true =>
         simp only [kifB_true]
         simp [w2]
         refine cmp_end (b:=b+2) (less:=[45]) hT hM2 hml htx (by omega) (by simp) ?_ hk _ _ _ _ _ _ _ _ _ _ _ _ _ _ _ _ _ _ _ _ _ _ _ _ _ _ _ _ _ _ _ _ _ _ _ _ _ _ _ _ _ _ _ _ _ _ _ _ _ _ _ _ _ _ _ _ _ _ _ _ _ _ _ _ _ _ _ _ _ _ _ _ _ _ _ _ _ _ _ _ _ _ _ _ _ _ _ _ _ _ _ _ _ _ _ _ _ _ _ _ _ _ _ _ _ _ _ _ _ _ _ _ _ _ _ _ _ _ _ _ _ _ _ _ _ _ _ _ _ _ _ _ _ _ _ _ _ _ _ _ _ _ _ _ _ _ _ _ _ _ _ _ _ _ _ _ _ _ _ _ _ _ _ _
         rw [hR]
         unfold valE valO valP takO
         rw [t2]
         simp only [if_true]
         cases tokK (T.map Prod.fst) 2 (b+1+1) with
         | none=>rfl
         | some s =>
           simp only [Option.bind_some]
           split<;>rfl
       | false =>
         simp only [kifB_false]
         refine cmp_end (b:=b+1) (less:=[]) hT hM2 hml htx (by omega) (by simp) ?_ hk _ _ _ _ _ _ _ _ _ _ _ _ _ _ _ _ _ _ _ _ _ _ _ _ _ _ _ _ _ _ _ _ _ _ _ _ _ _ _ _ _ _ _ _ _ _ _ _ _ _ _ _ _ _ _ _ _ _ _ _ _ _ _ _ _ _ _ _ _ _ _ _ _ _ _ _ _ _ _ _ _ _ _ _ _ _ _ _ _ _ _ _ _ _ _ _ _ _ _ _ _ _ _ _ _ _ _ _ _ _ _ _ _ _ _ _ _ _ _ _ _ _ _ _ _ _ _ _ _ _ _ _ _ _ _ _ _ _ _ _ _ _ _ _ _ _ _ _ _ _ _ _ _ _ _ _ _ _ _ _ _ _ _ _
         rw [hR]
         unfold valE valO valP takO
         rw [t2]
         simp only [Bool.false_eq_true,if_false]
         cases tokK (T.map Prod.fst) 2 (b+1) with
         | none=>rfl
         | some s =>
           simp only [Option.bind_some]
           split<;>rfl
set_option maxHeartbeats 1000000 in
theorem cmp_mid {M:AHeap} {g:UInt8} {sv:Value} {ms:List Mat} {b:Nat} (hT:RTA K v T) (hM:CM K M g.toNat 0 0 0 sv ms) (hml:ms.length≤2 ^ 41) (hm0:∀ m∈ms,0≤m.op∧m.name.length < 2 ^ 60∧m.value.length < 2 ^ 60) (htx:∀ p∈T,p.1.text.length < 2 ^ 50) (hb:b < 2 ^ 48)
  (hR:R=if mayMats ms=true then cmpE (T.map Prod.fst) g ms b else none) (hk:∀ u K',CmpP K R u K'→k u K') (s2 s3 s4 s5 s7 s8 s9 aH aI aJ aK aL aM aN aO aP aQ aR aS aT aU aV aW aX aY aZ a0 a1 a2 a3 a4 a5 a6 a7 a8 a9 ba bb bc bd be bf bg bh bi bj bk bl bm bn bo bp bq br bs bt bu bv bw bx bz bA bB bC bD bE bF bG bH bI bJ bK bL bM bN bO bP bQ bR bS bT bU bV bW bX bY bZ b0 b1 b2 b3 b4 b5 b6 b7 b8 b9 a c d e f j l o q r t w x y z A B C D E F G H I J L N O P Q S U V W X Y Z aa ab ac ad ae af ag ah ai aj ak al am an ao ap aq ar au av aw ax ay az aA aB aC aD aE aF aG:Value) :
  S98x0 k [v,i64 b,s2,s3,s4,s5,.pointer (some ⟨K.length,0,some 8⟩),s7,s8,s9,aH,aI,aJ,aK,aL,aM,aN,aO,aP,aQ,aR,aS,aT,aU,aV,aW,aX,aY,aZ,a0,a1,a2,a3,a4,a5,a6,a7,a8,a9,ba,bb,bc,bd,be,bf,bg,bh,bi,bj,bk,bl,bm,bn,bo,bp,bq,br,bs,bt,bu,bv,bw,bx,bz,bA,bB,bC,bD,bE,bF,bG,bH,bI,bJ,bK,bL,bM,bN,bO,bP,bQ,bR,bS,bT,bU,bV,bW,bX,bY,bZ,b0,b1,b2,b3,b4,b5,b6,b7,b8,b9,a,c,d,e,f,j,l,o,q,r,t,w,x,y,z,A,B,C,D,E,F,G,H,I,J,L,N,O,P,Q,S,U,V,W,X,Y,Z,aa,ab,ac,ad,ae,af,ag,ah,ai,aj,ak,al,am,an,ao,ap,aq,ar,au,av,aw,ax,ay,az,aA,aB,aC,aD,aE,aF,aG] M:=by
 have hTM:=hT.pre hM.pre
 have hll:=hM.hl
 have hcc:=hM.hc
 have w1:IntKind.i64.wrap ((b:Int)+1)=((b+1:Nat):Int):=by rw [wrap_i64 (by omega) (by omega)];omega
 have w2:IntKind.i64.wrap ((b:Int)+2)=((b+2:Nat):Int):=by rw [wrap_i64 (by omega) (by omega)];omega
 have w3:IntKind.i64.wrap ((b:Int)+3)=((b+3:Nat):Int):=by rw [wrap_i64 (by omega) (by omega)];omega
 have w4:IntKind.i64.wrap ((b:Int)+4)=((b+4:Nat):Int):=by rw [wrap_i64 (by omega) (by omega)];omega
 have i1:=r_is hTM b 4 [91]
 have i2:=r_is hTM (b+1) 2 [42]
 have i3:=r_is hTM (b+2) 4 [93]
 have i4:=r_is hTM (b+3) 4 [41]
 rw [isR_txt (by decide)] at i1 i3 i4
 rw [isR_star] at i2
 rw [S98x0q]
 have fail:R=none→k (.tuple #[.slice none 0 0,i64 (-1)]) M:=fun h=>hk _ _ (by rw [h];exact .none hM.pre)
 simp [hll,hcc,nodB]
 refine bndC_of (r_mats hM.sel.arr (by omega) hm0) ?_
 cases t0:mayMats ms with
 | false =>
   rw [t0] at hR
   simp
   exact fail hR
 | true =>
   rw [t0,if_pos rfl] at hR
   simp
   refine bndG_f _ _ i1 ?_
   cases t1:isT (T.map Prod.fst) b 4 [91] with
   | false =>
     simp
     exact fail (by rw [hR];unfold cmpE signO;rw [t1];rfl)
   | true =>
     simp [w1]
     refine bndG_f _ _ i2 ?_
     cases t2:tokK (T.map Prod.fst) 2 (b+1) with
     | none =>
       simp
       exact fail (by rw [hR];unfold cmpE signO winO;rw [t1];simp [t2])
     | some s =>
       simp [w2]
       refine bndG_f _ _ i3 ?_
       cases t3:isT (T.map Prod.fst) (b+2) 4 [93] with
       | false =>
         simp
         refine fail ?_
         rw [hR]
         unfold cmpE signO winO
         rw [t1]
         simp only [if_true,Option.bind_some,t2]
         cases atoF s with
         | none=>rfl
         | some n =>
           simp only [Option.bind_some]
           split
           · simp [t3]
           · rfl
       | true =>
         simp [w3]
         refine bndG_f _ _ i4 ?_
         cases t4:isT (T.map Prod.fst) (b+3) 4 [41] with
         | false =>
           simp
           refine fail ?_
           rw [hR]
           unfold cmpE signO winO
           rw [t1]
           simp only [if_true,Option.bind_some,t2]
           cases atoF s with
           | none=>rfl
           | some n =>
             simp only [Option.bind_some]
             split
             · simp [t3,t4]
             · rfl
         | true =>
           obtain ⟨p,p1,p2,p3⟩:=tok_at t2
           obtain ⟨e1,e2,e3,f1,f2,f3,f4,f5⟩:=hTM.at p1
           rw [p3] at f5
           have hsl:s.length < 2 ^ 50:=by rw [← p3];exact htx p (List.mem_of_getElem? p1)
           simp only [Int.natCast_add,Int.cast_ofNat_Int] at f1
           have hM2:=hM.put g.toNat (winF 0 s) 0 0
           generalize hM2e:M.set K.length (.cells (nodB g.toNat (winF 0 s) 0 0 sv) 54)=M2 at *
           simp only [nodB] at hM2e
           have hbk:=hM.blk
           simp [w1,f1,f4,f5]
           refine bndC_of (r_window M (by omega)) ?_
           simp [hll,hbk,nodB,hM2e,w4]
           refine ⟨6+1,cmp_find (b:=b+4) hT hM2 hml htx (by omega) ?_ hk 6 0 _ _ _ _ _ _ _ _ _ _ _ _ _ _ _ _ _ _ _ _ _ _ _ _ _ _ _ _ _ _ _ _ _ _ _ _ _ _ _ _ _ _ _ _ _ _ _ _ _ _ _ _ _ _ _ _ _ _ _ _ _ _ _ _ _ _ _ _ _ _ _ _ _ _ _ _ _ _ _ _ _ _ _ _ _ _ _ _ _ _ _ _ _ _ _ _ _ _ _ _ _ _ _ _ _ _ _ _ _ _ _ _ _ _ _ _ _ _ _ _ _ _ _ _ _ _ _ _ _ _ _ _ _ _ _ _ _ _ _ _ _ _ _ _ _ _ _ _ _ _ _ _ _ _ _ _ _ _ _ _ _ _ _ _ rfl (fun i hi=>by omega)⟩
           rw [hR]
           unfold cmpE signO winO
           rw [t1]
           simp only [if_true,Option.bind_some,t2]
           rcases win_ato s with ⟨q0,n,q1,q2,q3,q4⟩ | ⟨q0,q1⟩
           · rw [q1,if_neg q0,q4]
             simp only [Option.bind_some]
             rw [if_pos ⟨q2,q3⟩]
             simp [t3,t4]
           · rw [if_pos q0]
             cases hat:atoF s with
             | none=>rfl
             | some n =>
               simp only [Option.bind_some]
               rw [if_neg (q1 n hat)]
               rfl
end
end Go.Vi
namespace Go.Vi
open Go Go.Proofs Go.Proofs.Tryz
theorem matO_bd {T:List RTk} {a:Nat} {p:Mat × Nat} (htx:∀ p∈T,p.1.text.length < 2 ^ 50) (h:matO (T.map Prod.fst) a=some p):p.2=a+3∧a+3≤T.length∧0≤p.1.op∧p.1.name.length < 2 ^ 60∧p.1.value.length < 2 ^ 60:=by
 unfold matO at h
 obtain ⟨x,h1,h⟩:=Option.bind_eq_some_iff.1 h
 obtain ⟨o,h2,h⟩:=Option.bind_eq_some_iff.1 h
 split at h
 · obtain ⟨y,h3,h⟩:=Option.bind_eq_some_iff.1 h
   cases h
   obtain ⟨q,q1,q2,q3⟩:=tok_at h1
   obtain ⟨r,r1,r2,r3⟩:=tok_at h3
   have b1:=htx q (List.mem_of_getElem? q1)
   have b2:=htx r (List.mem_of_getElem? r1)
   have b3:=(List.getElem?_eq_some_iff.1 r1).1
   rw [q3] at b1
   rw [r3] at b2
   exact ⟨rfl,by omega,by simp only;omega,by simp only;omega,by simp only;omega⟩
 · cases h
section
variable {K:AHeap} {v:Value} {T:List RTk} {k:Value→AHeap→Prop} {R:Option (Nod × Nat)}
set_option maxHeartbeats 2000000 in
theorem cmp_mats {g:UInt8} (hT:RTA K v T) (htx:∀ p∈T,p.1.text.length < 2 ^ 50) (hk:∀ u K',CmpP K R u K'→k u K') :
  ∀ (f a : Nat) (acc : List Mat) (M : AHeap) (sv : Value) (s2 s3 s4 s5 s7 s8 s9 aJ aK aL aM aN aO aP aQ aR aS aT aU aV aW aX aY aZ a0 a1 a2 a3 a4 a5 a6 a7 a8 a9 ba bb bc bd be bf bg bh bi bj bk bl bm bn bo bp bq br bs bt bu bv bw bx bz bA bB bC bD bE bF bG bH bI bJ bK bL bM bN bO bP bQ bR bS bT bU bV bW bX bY bZ b0 b6 b7 b8 b9 ca cb cc cd ce cf cg d e i j l n o q r s t w y z A B C D E F G H I J L N O Q S U V W X Y Z aa ab ac ad ae af ag ah ai aj ak al am an ao ap aq ar au av aw ax ay az aA aB aC aD aE aF aG aH aI : Value), T.length < f + a → a ≤ 2 ^ 45 → acc.length ≤ a → (∀ m ∈ acc, 0 ≤ m.op ∧ m.name.length < 2 ^ 60 ∧ m.value.length < 2 ^ 60) → CM K M g.toNat 0 0 0 sv acc →
    R=(selL (T.map Prod.fst) f a acc).bind (fun p=>(selE (T.map Prod.fst) p.1 p.2).bind fun c=>cmpE (T.map Prod.fst) g p.1 c) →
    L98x1 (f+1) k [v,i64 a,s2,s3,s4,s5,.pointer (some ⟨K.length,0,some 8⟩),s7,s8,s9,aJ,aK,aL,aM,aN,aO,aP,aQ,aR,aS,aT,aU,aV,aW,aX,aY,aZ,a0,a1,a2,a3,a4,a5,a6,a7,a8,a9,ba,bb,bc,bd,be,bf,bg,bh,bi,bj,bk,bl,bm,bn,bo,bp,bq,br,bs,bt,bu,bv,bw,bx,bz,bA,bB,bC,bD,bE,bF,bG,bH,bI,bJ,bK,bL,bM,bN,bO,bP,bQ,bR,bS,bT,bU,bV,bW,bX,bY,bZ,b0,b6,b7,b8,b9,ca,cb,cc,cd,ce,cf,cg,d,e,i,j,l,n,o,q,r,s,t,w,y,z,A,B,C,D,E,F,G,H,I,J,L,N,O,Q,S,U,V,W,X,Y,Z,aa,ab,ac,ad,ae,af,ag,ah,ai,aj,ak,al,am,an,ao,ap,aq,ar,au,av,aw,ax,ay,az,aA,aB,aC,aD,aE,aF,aG,aH,aI] M:=by
 have htl:=hT.len
 intro f
 induction f with
 | zero =>
   intro a acc M sv s2 s3 s4 s5 s7 s8 s9 aJ aK aL aM aN aO aP aQ aR aS aT aU aV aW aX aY aZ a0 a1 a2 a3 a4 a5 a6 a7 a8 a9 ba bb bc bd be bf bg bh bi bj bk bl bm bn bo bp bq br bs bt bu bv bw bx bz bA bB bC bD bE bF bG bH bI bJ bK bL bM bN bO bP bQ bR bS bT bU bV bW bX bY bZ b0 b6 b7 b8 b9 ca cb cc cd ce cf cg d e i j l n o q r s t w y z A B C D E F G H I J L N O Q S U V W X Y Z aa ab ac ad ae af ag ah ai aj ak al am an ao ap aq ar au av aw ax ay az aA aB aC aD aE aF aG aH aI hf ha hac hm0 hM hR
   have hnone:matO (T.map Prod.fst) a=none:=by
    cases h:matO (T.map Prod.fst) a with
    | none=>rfl
    | some p=>have:=(matO_bd htx h).2.1;omega
   rw [L98x1q]
   have h1:=r_matcher (hT.pre hM.pre) (a:=a) (by omega)
   rw [hnone] at h1
   refine bndC_of h1 ?_
   have hRn:R=none:=hR
   subst hRn
   simp [matV,Mat.cells]
   exact hk _ _ (.none (hM.pre.more _))
 | succ f ih =>
   intro a acc M sv s2 s3 s4 s5 s7 s8 s9 aJ aK aL aM aN aO aP aQ aR aS aT aU aV aW aX aY aZ a0 a1 a2 a3 a4 a5 a6 a7 a8 a9 ba bb bc bd be bf bg bh bi bj bk bl bm bn bo bp bq br bs bt bu bv bw bx bz bA bB bC bD bE bF bG bH bI bJ bK bL bM bN bO bP bQ bR bS bT bU bV bW bX bY bZ b0 b6 b7 b8 b9 ca cb cc cd ce cf cg d e i j l n o q r s t w y z A B C D E F G H I J L N O Q S U V W X Y Z aa ab ac ad ae af ag ah ai aj ak al am an ao ap aq ar au av aw ax ay az aA aB aC aD aE aF aG aH aI hf ha hac hm0 hM hR
   rw [L98x1q]
   have h1:=r_matcher (hT.pre hM.pre) (a:=a) (by omega)
   refine bndC_of h1 ?_
   rw [selL] at hR
   cases hmo:matO (T.map Prod.fst) a with
   | none =>
     have hRn:R=none:=by rw [hR,hmo];rfl
     subst hRn
     simp [matV,Mat.cells]
     exact hk _ _ (.none (hM.pre.more _))
   | some p =>
     obtain ⟨m,nx⟩:=p
     obtain ⟨b1,b2,b3,b4,b5⟩:=matO_bd htx hmo
     simp only at b1 b3 b4 b5
     subst b1
     rw [hmo] at hR
     simp only [Option.bind_some] at hR
     have hKM:K.length < M.length:=(List.getElem?_eq_some_iff.1 hM.blk).1
     have c1:hcells (M++[.cells m.cells 56]) K.length=some (nodB g.toNat 0 0 0 sv):=hcells_more hM.hc
     have l1:hlen (M++[.cells m.cells 56]) K.length=some 8:=hlen_more hM.hl
     have hneg:¬ ((a:Int)+3 < 0):=by omega
     have wa:IntKind.i64.wrap ((a:Int)+3+1)=((a+4:Nat):Int):=by rw [wrap_i64 (by omega) (by omega)];omega
     simp only [nodB,Mat.cells] at c1 l1
     simp [matV,Mat.cells,hneg,l1,c1]
     have hlit:=sliceLitA (c:=m.cells) (tbs52 (M++[.cells m.cells 56]) 1 _) (by rfl) (by simp [Mat.cells]) (by simp)
     refine bndL_lit hlit ?_
     obtain ⟨sv',M3,q1,q2,q3,q4,q5⟩:=Gro.push (P:=prog) (K:=M++[.cells m.cells 56]++[.cells m.cells 56]) (lo:=K.length+1) (Ts:=52) (by_:=40) (x:=.slice (some ⟨(M++[AObj.cells m.cells 56]).length,0,some m.cells.length⟩) 1 1) (c:=m.cells) hM.sel.app.app mael1 mael2 rfl (by simp;omega) (by simp [aSrc,Mat.cells]) (by simp;omega) (by simp;omega)
     dsimp only
     rw [q1]
     have hb3:=q3 K.length _ (by omega) (get_more (get_more hM.blk))
     have hl3:hlen M3 K.length=some 8:=by simp [hlen,hb3,nodB]
     simp only [nodB] at hb3
     have ho:=q2.one
     have hM4:CM K (M3.set K.length (.cells (nodB g.toNat 0 0 0 sv') 54)) g.toNat 0 0 0 sv' (acc++[m]):=by
      have hlt:=(List.getElem?_eq_some_iff.1 hb3).1
      exact ⟨(q5 K ((hM.pre.more _).more _) (by omega)).set (Nat.le_refl _),by rw [List.getElem?_set_self hlt],by rw [List.map_append];exact q2.set (by omega)⟩
     generalize hM4e:M3.set K.length (.cells (nodB g.toNat 0 0 0 sv') 54)=M4 at *
     simp only [nodB] at hM4e
     simp [hl3,hb3,q2.stor,q2.cells,hM4e,wa]
     have i1:=r_is (hT.pre hM4.pre) (a+3) 4 [125]
     have i2:=r_is (hT.pre hM4.pre) (a+3) 4 [44]
     rw [isR_txt (by decide)] at i1 i2
     refine bndC_of i1 ?_
     have hm1:∀ x∈acc++[m],0≤x.op∧x.name.length < 2 ^ 60∧x.value.length < 2 ^ 60:=by
      intro x hx
      rcases List.mem_append.1 hx with hx | hx
      · exact hm0 x hx
      · rw [List.mem_singleton.1 hx];exact ⟨b3,b4,b5⟩
     cases t1:isT (T.map Prod.fst) (a+3) 4 [125] with
     | true =>
       have t2:isT (T.map Prod.fst) (a+3) 4 [44]=false:=by
        cases h:isT (T.map Prod.fst) (a+3) 4 [44] with
        | false=>rfl
        | true =>
          have e1:=(isT_tok _ _ _ _).1 t1
          have e2:=(isT_tok _ _ _ _).1 h
          rw [e1] at e2
          cases e2
       rw [t2] at hR
       simp only [Bool.false_eq_true,if_false,Option.bind_some] at hR
       simp
       rw [B98x0q]
       refine cmp_mid (b:=a+4) hT hM4 (by simp;omega) hm1 htx (by omega) ?_ hk _ _ _ _ _ _ _ _ _ _ _ _ _ _ _ _ _ _ _ _ _ _ _ _ _ _ _ _ _ _ _ _ _ _ _ _ _ _ _ _ _ _ _ _ _ _ _ _ _ _ _ _ _ _ _ _ _ _ _ _ _ _ _ _ _ _ _ _ _ _ _ _ _ _ _ _ _ _ _ _ _ _ _ _ _ _ _ _ _ _ _ _ _ _ _ _ _ _ _ _ _ _ _ _ _ _ _ _ _ _ _ _ _ _ _ _ _ _ _ _ _ _ _ _ _ _ _ _ _ _ _ _ _ _ _ _ _ _ _ _ _ _ _ _ _ _ _ _ _ _ _ _ _ _ _ _ _ _ _ _ _ _ _ _ _
       rw [hR]
       unfold selE signO
       rw [t1]
       simp only [if_true,Option.bind_some]
       split<;>rfl
     | false =>
       simp
       refine bndC_of i2 ?_
       cases t2:isT (T.map Prod.fst) (a+3) 4 [44] with
       | false =>
         rw [t2] at hR
         simp only [Bool.false_eq_true,if_false,Option.bind_some] at hR
         have hRn:R=none:=by rw [hR];unfold selE signO;rw [t1];rfl
         subst hRn
         simp
         exact hk _ _ (.none hM4.pre)
       | true =>
         rw [t2] at hR
         simp only [if_true] at hR
         simp
         exact ih (a+4) (acc++[m]) M4 sv' _ _ _ _ _ _ _ _ _ _ _ _ _ _ _ _ _ _ _ _ _ _ _ _ _ _ _ _ _ _ _ _ _ _ _ _ _ _ _ _ _ _ _ _ _ _ _ _ _ _ _ _ _ _ _ _ _ _ _ _ _ _ _ _ _ _ _ _ _ _ _ _ _ _ _ _ _ _ _ _ _ _ _ _ _ _ _ _ _ _ _ _ _ _ _ _ _ _ _ _ _ _ _ _ _ _ _ _ _ _ _ _ _ _ _ _ _ _ _ _ _ _ _ _ _ _ _ _ _ _ _ _ _ _ _ _ _ _ _ _ _ _ _ _ _ _ _ _ _ _ _ _ _ _ _ _ _ _ _ _ _ _ _ _ _ (by omega) (by omega) (by simp;omega) hm1 hM4 hR
set_option maxHeartbeats 2000000 in
theorem cmp_aggs {M:AHeap} {a:Nat} (hT:RTA K v T) (htx:∀ p∈T,p.1.text.length < 2 ^ 50) (ha:a≤2 ^ 44) (hM:CM K M 0 0 0 0 (.slice none 0 0) []) (hR:R=cmpO (T.map Prod.fst) a) (hk:∀ u K',CmpP K R u K'→k u K') :
  ∀ (d j:Nat) (s2 s3 s4 s5 s8 s9 aJ aK aL aM aN aO aP aQ aR aS aT aU aV aW aX aY aZ a0 a1 a2 a3 a4 a5 a6 a7 a8 a9 ba bb bc bd be bf bg bh bi bj bk bl bm bn bo bp bq br bs bt bu bv bw bx bz bA bB bC bD bE bF bG bH bI bJ bK bL bM bN bO bP bQ bR bS bT bU bV bW bX bY bZ b0 b1 b2 b3 b4 b5 b6 b7 b8 b9 ca cb f g m n o q r s t w x y z A B C D E F G H I J L N O P Q S U V W X Y Z aa ab ac ad ae af ag ah ai aj ak al am an ao ap aq ar au av aw ax ay az aA aB aC aD aE aF aG aH aI:Value),d+j=6→(∀ i,i < j→tokK (T.map Prod.fst) 1 a≠some (aggs.getD i []))→L98x0 (d+1) k [v,i64 a,s2,s3,s4,s5,.pointer (some ⟨K.length,0,some 8⟩),i64 j,s8,s9,aJ,aK,aL,aM,aN,aO,aP,aQ,aR,aS,aT,aU,aV,aW,aX,aY,aZ,a0,a1,a2,a3,a4,a5,a6,a7,a8,a9,ba,bb,bc,bd,be,bf,bg,bh,bi,bj,bk,bl,bm,bn,bo,bp,bq,br,bs,bt,bu,bv,bw,bx,bz,bA,bB,bC,bD,bE,bF,bG,bH,bI,bJ,bK,bL,bM,bN,bO,bP,bQ,bR,bS,bT,bU,bV,bW,bX,bY,bZ,b0,b1,b2,b3,b4,b5,b6,b7,b8,b9,ca,cb,f,g,m,n,o,q,r,s,t,w,x,y,z,A,B,C,D,E,F,G,H,I,J,L,N,O,P,Q,S,U,V,W,X,Y,Z,aa,ab,ac,ad,ae,af,ag,ah,ai,aj,ak,al,am,an,ao,ap,aq,ar,au,av,aw,ax,ay,az,aA,aB,aC,aD,aE,aF,aG,aH,aI] M:=by
 have htl:=hT.len
 have hTM:=hT.pre hM.pre
 have hll:=hM.hl
 have hbk:=hM.blk
 rw [cmpO_split] at hR
 intro d
 induction d with
 | zero =>
   intro j s2 s3 s4 s5 s8 s9 aJ aK aL aM aN aO aP aQ aR aS aT aU aV aW aX aY aZ a0 a1 a2 a3 a4 a5 a6 a7 a8 a9 ba bb bc bd be bf bg bh bi bj bk bl bm bn bo bp bq br bs bt bu bv bw bx bz bA bB bC bD bE bF bG bH bI bJ bK bL bM bN bO bP bQ bR bS bT bU bV bW bX bY bZ b0 b1 b2 b3 b4 b5 b6 b7 b8 b9 ca cb f g m n o q r s t w x y z A B C D E F G H I J L N O P Q S U V W X Y Z aa ab ac ad ae af ag ah ai aj ak al am an ao ap aq ar au av aw ax ay az aA aB aC aD aE aF aG aH aI hd hn
   obtain rfl:j=6:=by omega
   have:R=none:=by rw [hR,one_none (l:=aggs) hn];rfl
   subst this
   rw [L98x0q]
   simp
   exact hk _ _ (.none hM.pre)
 | succ d ih =>
   intro j s2 s3 s4 s5 s8 s9 aJ aK aL aM aN aO aP aQ aR aS aT aU aV aW aX aY aZ a0 a1 a2 a3 a4 a5 a6 a7 a8 a9 ba bb bc bd be bf bg bh bi bj bk bl bm bn bo bp bq br bs bt bu bv bw bx bz bA bB bC bD bE bF bG bH bI bJ bK bL bM bN bO bP bQ bR bS bT bU bV bW bX bY bZ b0 b1 b2 b3 b4 b5 b6 b7 b8 b9 ca cb f g m n o q r s t w x y z A B C D E F G H I J L N O P Q S U V W X Y Z aa ab ac ad ae af ag ah ai aj ak al am an ao ap aq ar au av aw ax ay az aA aB aC aD aE aF aG aH aI hd hn
   have hj:j < 6:=by omega
   have hjI:(j:Int) < 6:=by omega
   have hj6:((j:Int) == 6)=false:=by rw [beq_eq_false_iff_ne];omega
   have wj:IntKind.i64.wrap ((j:Int)+1)=((j+1:Nat):Int):=by rw [wrap_i64 (by omega) (by omega)];omega
   have wju:IntKind.u8.wrap (j:Int)=(j:Int):=by unfold IntKind.wrap;simp [IntKind.bits,IntKind.signed];omega
   have w1:IntKind.i64.wrap ((a:Int)+1)=((a+1:Nat):Int):=by rw [wrap_i64 (by omega) (by omega)];omega
   have w2:IntKind.i64.wrap ((a:Int)+2)=((a+2:Nat):Int):=by rw [wrap_i64 (by omega) (by omega)];omega
   have w3:IntKind.i64.wrap ((a:Int)+3)=((a+3:Nat):Int):=by rw [wrap_i64 (by omega) (by omega)];omega
   have w4:IntKind.i64.wrap ((a:Int)+3+1)=((a+4:Nat):Int):=by rw [wrap_i64 (by omega) (by omega)];omega
   rw [L98x0q]
   have i1:=r_is hTM a 1 (aggs.getD j [])
   rw [isR_txt (aggs_star j hj)] at i1
   simp [hjI]
   refine bndG_t _ _ (r_aggregate _ hj) ?_
   refine bndG_t _ _ i1 ?_
   cases t1:isT (T.map Prod.fst) a 1 (aggs.getD j []) with
   | false =>
     simp [wj]
     refine ih (j+1) _ _ _ _ _ _ _ _ _ _ _ _ _ _ _ _ _ _ _ _ _ _ _ _ _ _ _ _ _ _ _ _ _ _ _ _ _ _ _ _ _ _ _ _ _ _ _ _ _ _ _ _ _ _ _ _ _ _ _ _ _ _ _ _ _ _ _ _ _ _ _ _ _ _ _ _ _ _ _ _ _ _ _ _ _ _ _ _ _ _ _ _ _ _ _ _ _ _ _ _ _ _ _ _ _ _ _ _ _ _ _ _ _ _ _ _ _ _ _ _ _ _ _ _ _ _ _ _ _ _ _ _ _ _ _ _ _ _ _ _ _ _ _ _ _ _ _ _ _ _ _ _ _ _ _ _ _ _ _ _ _ _ _ _ (by omega) (fun i hi=>?_)
     by_cases e:i=j
     · rw [e];intro h;rw [(isT_tok _ _ _ _).2 h] at t1;cases t1
     · exact hn i (by omega)
   | true =>
     obtain ⟨o1,o2⟩:=one_some aggs_nd hj ((isT_tok _ _ _ _).1 t1)
     rw [o1,o2] at hR
     simp only [Option.bind_some] at hR
     have hcu:((UInt8.ofNat j).toNat:Int)=j:=by rw [UInt8.toNat_ofNat_of_lt' (by show j < 256;omega)]
     have i2:=r_is hTM (a+1) 4 [40]
     have i3:=r_is hTM (a+2) 4 [123]
     rw [isR_txt (by decide)] at i2 i3
     simp [hj6,w1]
     refine bndG_f _ _ i2 ?_
     cases t2:isT (T.map Prod.fst) (a+1) 4 [40] with
     | false =>
       have hRn:R=none:=by rw [hR];unfold signO;rw [t2];rfl
       subst hRn
       simp
       exact hk _ _ (.none hM.pre)
     | true =>
       have e2:signO (T.map Prod.fst) [40] (a+1)=some (a+2):=by unfold signO;rw [t2];rfl
       rw [e2] at hR
       simp only [Option.bind_some] at hR
       simp [w2]
       refine bndG_f _ _ i3 ?_
       cases t3:isT (T.map Prod.fst) (a+2) 4 [123] with
       | false =>
         have hRn:R=none:=by rw [hR];unfold selO signO;rw [t3];rfl
         subst hRn
         simp
         exact hk _ _ (.none hM.pre)
       | true =>
         have e3:selO (T.map Prod.fst) (a+2)=if isT (T.map Prod.fst) (a+3) 4 [125]=true then some ([],a+4) else (selL (T.map Prod.fst) ((T.map Prod.fst).length+1) (a+3) []).bind fun p=>(selE (T.map Prod.fst) p.1 p.2).map fun c=>(p.1,c):=by
          unfold selO signO
          rw [t3]
          rfl
         rw [e3] at hR
         have hM2:=hM.put (j:Int) 0 0 0
         generalize hM2e:M.set K.length (.cells (nodB j 0 0 0 (.slice none 0 0)) 54)=M2 at *
         simp only [nodB] at hM2e hbk
         have i4:=r_is (hT.pre hM2.pre) (a+3) 4 [125]
         rw [isR_txt (by decide)] at i4
         simp [hll,hbk,wju,hM2e,w3]
         refine bndC_of i4 ?_
         rw [← hcu] at hM2
         cases t4:isT (T.map Prod.fst) (a+3) 4 [125] with
         | true =>
           rw [t4,if_pos rfl] at hR
           simp only [Option.bind_some] at hR
           simp only [kifB_true]
           simp [w4]
           exact cmp_mid (b:=a+4) hT hM2 (by simp) (by simp) htx (by omega) (by rw [hR];rfl) hk _ _ _ _ _ _ _ _ _ _ _ _ _ _ _ _ _ _ _ _ _ _ _ _ _ _ _ _ _ _ _ _ _ _ _ _ _ _ _ _ _ _ _ _ _ _ _ _ _ _ _ _ _ _ _ _ _ _ _ _ _ _ _ _ _ _ _ _ _ _ _ _ _ _ _ _ _ _ _ _ _ _ _ _ _ _ _ _ _ _ _ _ _ _ _ _ _ _ _ _ _ _ _ _ _ _ _ _ _ _ _ _ _ _ _ _ _ _ _ _ _ _ _ _ _ _ _ _ _ _ _ _ _ _ _ _ _ _ _ _ _ _ _ _ _ _ _ _ _ _ _ _ _ _ _ _ _ _ _ _ _ _ _ _ _
         | false =>
           rw [t4,if_neg (by decide)] at hR
           simp only [kifB_false]
           refine ⟨(T.map Prod.fst).length+1+1,cmp_mats hT htx hk ((T.map Prod.fst).length+1) (a+3) [] M2 (.slice none 0 0) _ _ _ _ _ _ _ _ _ _ _ _ _ _ _ _ _ _ _ _ _ _ _ _ _ _ _ _ _ _ _ _ _ _ _ _ _ _ _ _ _ _ _ _ _ _ _ _ _ _ _ _ _ _ _ _ _ _ _ _ _ _ _ _ _ _ _ _ _ _ _ _ _ _ _ _ _ _ _ _ _ _ _ _ _ _ _ _ _ _ _ _ _ _ _ _ _ _ _ _ _ _ _ _ _ _ _ _ _ _ _ _ _ _ _ _ _ _ _ _ _ _ _ _ _ _ _ _ _ _ _ _ _ _ _ _ _ _ _ _ _ _ _ _ _ _ _ _ _ _ _ _ _ _ _ _ _ _ _ _ _ _ _ _ _ (by simp;omega) (by omega) (by simp) (by simp) hM2 ?_⟩
           rw [hR]
           cases selL (T.map Prod.fst) ((T.map Prod.fst).length+1) (a+3) [] with
           | none=>rfl
           | some p =>
             simp only [Option.bind_some]
             cases selE (T.map Prod.fst) p.1 p.2 with
             | none=>rfl
             | some c=>rfl
theorem r_comparison {a:Nat} (hT:RTA K v T) (htx:∀ p∈T,p.1.text.length < 2 ^ 50) (ha:a≤2 ^ 44):∃ u K',CmpP K (cmpO (T.map Prod.fst) a) u K'∧ACalls prog 98 [v,i64 a] K u K':=by
 refine acalls_ex MixT func98 (by decide) ?_
 rw [d98]
 have hM:CM K (K++[.cells (nodB 0 0 0 0 (.slice none 0 0)) 54]) 0 0 0 0 (.slice none 0 0) []:=⟨.app _ _,by simp,.nil⟩
 have:=cmp_aggs (k:=CmpP K (cmpO (T.map Prod.fst) a)) hT htx ha hM rfl (fun u K' h=>h) 6 0
 generalize CmpP K (cmpO (T.map Prod.fst) a)=k at *
 simp
 exact ⟨6+1,this _ _ _ _ _ _ _ _ _ _ _ _ _ _ _ _ _ _ _ _ _ _ _ _ _ _ _ _ _ _ _ _ _ _ _ _ _ _ _ _ _ _ _ _ _ _ _ _ _ _ _ _ _ _ _ _ _ _ _ _ _ _ _ _ _ _ _ _ _ _ _ _ _ _ _ _ _ _ _ _ _ _ _ _ _ _ _ _ _ _ _ _ _ _ _ _ _ _ _ _ _ _ _ _ _ _ _ _ _ _ _ _ _ _ _ _ _ _ _ _ _ _ _ _ _ _ _ _ _ _ _ _ _ _ _ _ _ _ _ _ _ _ _ _ _ _ _ _ _ _ _ _ _ _ _ _ _ _ _ _ _ _ _ _ rfl (fun i hi=>by omega)⟩
end
end Go.Vi
namespace Go.Vi
open Go Go.Proofs Go.Proofs.Tryz
theorem Gro.src {K lo z T v cl} (h:Gro K lo z T v cl):aSrc K z v=some (cl.length,cl.flatten):=by
 cases h with
 | nil=>rfl
 | mk bb cl h1 h2 h3 h4 =>
   have hfl:=flat_len h4
   simp only [aSrc,hcells,h2]
   rw [if_pos ⟨by omega,by omega⟩,List.drop_zero,List.take_of_length_le (by omega)]
theorem Gro.pushNT {P:Program} {K:AHeap} {lo z by_:Nat} {T Ts:TypeId} {v x:Value} {cl ds:List (List Value)} (h:Gro K lo z T v cl) (hT:aElem P Ts=some (T,z,by_)) (hsq:isSeq P Ts=true) (hc:∀ c∈ds,c.length=z) (hlo:lo≤K.length)
  (hx:aSrc K z x=some (ds.length,ds.flatten)) (hb:(cl.length+ds.length)*by_≤140737488355328) (hn:cl.length+ds.length≤9223372036854775807) :
  ∃ v' K',aBuiltin P K .append #[Ts,Ts] [v,x]=some (v',K')∧Gro K' lo z T v' (cl++ds)∧K.length≤K'.length∧(∀ H,Pre H K→H.length≤lo→Pre H K')∧(∀ (b:Nat) o,K[b]?=some o→(∀ cs,o≠.cells cs T)→K'[b]?=some o):=by
 by_cases hd:ds=[]
 · subst hd
   refine ⟨v,K,?_,by simpa using h,Nat.le_refl _,fun H p _=>p,fun b o h _=>h⟩
   cases h with
   | nil=>simp at hx;simp [aBuiltin,aAppend,hT,hx,hsq]
   | mk bb cl h1 h2 h3 h4 =>
     have hfl:=flat_len h4
     simp at hx
     simp [aBuiltin,aAppend,hT,hx,hsq,h2,hfl]
     rw [putCells_eq _ _ _ (by rw [hfl];simp)]
     simp
     exact set_same h2
 have hdl:0 < ds.length:=List.length_pos_iff.2 hd
 have hfd:=flat_len hc
 cases h with
 | nil =>
   refine ⟨.slice (some ⟨K.length,0,some (ds.length*z)⟩) ds.length ds.length,K++[.cells ds.flatten T],?_,?_,by simp,fun H p _=>p.more _,fun b o ho _=>get_more ho⟩
   · have hb':ds.length*by_≤140737488355328:=by simpa using hb
     have hn':ds.length≤9223372036854775807:=by simpa using hn
     have hne:¬ ds.length=0:=by omega
     simp only [aBuiltin,aAppend,hT,hx,hsq,if_true,hne,if_false,hb',hn',and_self,hfd]
   · have:=Gro.mk (K:=K++[.cells ds.flatten T]) (lo:=lo) (z:=z) (T:=T) K.length ds hlo (by simp) hd hc
     simpa using this
 | mk bb cl h1 h2 h3 h4 =>
   have hfl:=flat_len h4
   have hlt:=(List.getElem?_eq_some_iff.1 h2).1
   refine ⟨.slice (some ⟨bb,0,some ((cl.length+ds.length)*z)⟩) (cl.length+ds.length) (cl.length+ds.length),K.set bb (.cells (cl++ds).flatten T),?_,?_,by simp,fun H p hH=>p.set (by omega),fun b o ho hne=>by
    rw [List.getElem?_set_ne (by rintro rfl;rw [ho] at h2;cases h2;exact hne _ rfl)];exact ho⟩
   · have e1:cl.length*z=cl.flatten.length:=hfl.symm
     have e2:¬ cl.length+ds.length≤cl.length:=by omega
     simp only [aBuiltin,aAppend,hT,hx,hsq,if_true,h2,hfl,Nat.zero_add,Nat.le_refl,and_self,e2,if_false,hb,hn]
     have e3:(cl.flatten.take (cl.length*z))=cl.flatten:=List.take_of_length_le (by omega)
     rw [e3]
     simp
   · have:=Gro.mk (K:=K.set bb (.cells (cl++ds).flatten T)) (lo:=lo) (z:=z) (T:=T) bb (cl++ds) h1 (List.getElem?_set_self hlt) (by simp [h3]) (by
      intro x hx
      rw [List.mem_append] at hx
      rcases hx with hx | hx
      · exact h4 x hx
      · exact hc x hx)
     simpa using this
theorem Gro.keep {K K' lo z T T' v cl} (h:Gro K lo z T v cl) (hne:T≠T') (hf:∀ (b:Nat) o,K[b]?=some o→(∀ cs,o≠.cells cs T')→K'[b]?=some o):Gro K' lo z T v cl:=by
 cases h with
 | nil=>exact .nil
 | mk bb cl h1 h2 h3 h4=>exact .mk bb cl h1 (hf bb _ h2 (fun cs e=>by cases e;exact hne rfl)) h3 h4
theorem Gro.pre {K K' lo z T v cl} (h:Gro K lo z T v cl) (p:Pre K K'):Gro K' lo z T v cl:=by
 obtain ⟨X,rfl⟩:=p
 exact h.app
theorem NL.pre {K K' lo v ns} (h:NL K lo v ns) (p:Pre K K'):NL K' lo v ns:=by
 obtain ⟨cl,h1,h2,h3⟩:=h
 refine ⟨cl,h1.pre p,h2,fun i n hi=>?_⟩
 obtain ⟨sv,q1,q2,q3⟩:=h3 i n hi
 exact ⟨sv,q1,q2.pre p,q3⟩
theorem node_ne:56≠54:=by decide
theorem NL.appL {M:AHeap} {lo lo':Nat} {vo vm:Value} {ns ms:List Nod} (h:NL M lo vo ns) (hm:NL M lo' vm ms) (hl:lo≤lo') (hlo:lo≤M.length) (hn:ns.length+ms.length≤2 ^ 38) :
  ∃ v' M',aBuiltin prog M .append #[32,32] [vo,vm]=some (v',M')∧NL M' lo v' (ns++ms)∧M.length≤M'.length∧(∀ H,Pre H M→H.length≤lo→Pre H M'):=by
 obtain ⟨ca,a1,a2,a3⟩:=h
 obtain ⟨cb,b1,b2,b3⟩:=hm
 have hc:∀ c∈cb,c.length=8:=by
  intro c hc
  obtain ⟨i,hi⟩:=List.getElem?_of_mem hc
  have hlt:=(List.getElem?_eq_some_iff.1 hi).1
  obtain ⟨n,hn⟩:∃ n,ms[i]?=some n:=⟨_,List.getElem?_eq_getElem (by omega)⟩
  obtain ⟨sv,q1,_⟩:=b3 i n hn
  rw [hi] at q1
  cases q1
  rfl
 obtain ⟨v',M',g1,g2,g3,g4,g5⟩:=a1.pushNT (P:=prog) (Ts:=32) (by_:=72) (x:=vm) (ds:=cb) nael1 nael2 hc hlo b1.src (by omega) (by omega)
 refine ⟨v',M',g1,⟨ca++cb,g2,by simp [a2,b2],fun i n hi=>?_⟩,g3,g4⟩
 by_cases hi2:i < ns.length
 · rw [List.getElem?_append_left hi2] at hi
   obtain ⟨sv,q1,q2,q3⟩:=a3 i n hi
   exact ⟨sv,by rw [List.getElem?_append_left (by omega)];exact q1,q2.keep node_ne g5,q3⟩
 · rw [List.getElem?_append_right (by omega)] at hi
   obtain ⟨sv,q1,q2,q3⟩:=b3 _ n hi
   exact ⟨sv,by rw [List.getElem?_append_right (by omega),a2];exact q1,(q2.weak hl).keep node_ne g5,q3⟩
theorem NL.app1 {M:AHeap} {lo:Nat} {vo sv x:Value} {ns:List Nod} {n:Nod} (h:NL M lo vo ns) (hsv:Gro M lo 3 56 sv (n.sel.map Mat.cells)) (hsl:n.sel.length≤2 ^ 41) (hx:aSrc M 8 x=some (1,n.cells sv)) (hlo:lo≤M.length) (hn:ns.length+1≤2 ^ 38) :
  ∃ v' M',aBuiltin prog M .append #[32,32] [vo,x]=some (v',M')∧NL M' lo v' (ns++[n])∧M.length≤M'.length∧(∀ H,Pre H M→H.length≤lo→Pre H M'):=by
 obtain ⟨ca,a1,a2,a3⟩:=h
 obtain ⟨v',M',g1,g2,g3,g4,g5⟩:=a1.pushNT (P:=prog) (Ts:=32) (by_:=72) (x:=x) (ds:=[n.cells sv]) nael1 nael2 (by simp [Nod.cells]) hlo (by simpa using hx) (by simp;omega) (by simp;omega)
 refine ⟨v',M',g1,⟨ca++[n.cells sv],g2,by simp [a2],fun i m hi=>?_⟩,g3,g4⟩
 by_cases hi2:i < ns.length
 · rw [List.getElem?_append_left hi2] at hi
   obtain ⟨sv,q1,q2,q3⟩:=a3 i m hi
   exact ⟨sv,by rw [List.getElem?_append_left (by omega)];exact q1,q2.keep node_ne g5,q3⟩
 · rw [List.getElem?_append_right (by omega)] at hi
   have h0:i-ns.length=0:=by
    have:=(List.getElem?_eq_some_iff.1 hi).1
    simp at this
    omega
   rw [h0] at hi
   simp at hi
   subst hi
   exact ⟨sv,by rw [List.getElem?_append_right (by omega),a2,h0];rfl,hsv.keep node_ne g5,hsl⟩
end Go.Vi
namespace Go.Vi
open Go Go.Proofs Go.Proofs.Tryz
theorem tokK_lt2 {ts:List Tok} {k:Int} {a:Nat} {s:List UInt8} (h:tokK ts k a=some s):a < ts.length:=by
 unfold tokK at h
 cases ht:ts[a]? with
 | none=>simp [ht] at h
 | some t=>exact (List.getElem?_eq_some_iff.1 ht).1
theorem isT_lt2 {ts:List Tok} {k:Int} {a:Nat} {s:List UInt8} (h:isT ts a k s=true):a < ts.length:=tokK_lt2 ((isT_tok _ _ _ _).1 h)
theorem cmpO_bd {ts:List Tok} {a:Nat} {p:Nod × Nat} (h:cmpO ts a=some p):a < ts.length∧p.2≤ts.length:=by
 rw [cmpO_split] at h
 obtain ⟨b1,h1,h⟩:=Option.bind_eq_some_iff.1 h
 obtain ⟨b2,h2,h⟩:=Option.bind_eq_some_iff.1 h
 obtain ⟨q,h3,h⟩:=Option.bind_eq_some_iff.1 h
 unfold cmpE at h
 obtain ⟨b3,h4,h⟩:=Option.bind_eq_some_iff.1 h
 obtain ⟨w,h5,h⟩:=Option.bind_eq_some_iff.1 h
 obtain ⟨b4,h6,h⟩:=Option.bind_eq_some_iff.1 h
 obtain ⟨b5,h7,h⟩:=Option.bind_eq_some_iff.1 h
 obtain ⟨b6,h8,h⟩:=Option.bind_eq_some_iff.1 h
 unfold valE at h
 obtain ⟨x,h9,h⟩:=Option.bind_eq_some_iff.1 h
 cases h
 unfold oneO at h1
 obtain ⟨s,h1,_⟩:=Option.bind_eq_some_iff.1 h1
 unfold valO at h9
 obtain ⟨s9,h9,h10⟩:=Option.bind_eq_some_iff.1 h9
 have:=tokK_lt2 h9
 split at h10
 · cases h10
   exact ⟨tokK_lt2 h1,this⟩
 · cases h10
theorem strO_bd {ts:List Tok}:∀ (f:Nat) {m a l l' b},strO ts f m a l=some (some (l',b))→a≤ts.length→b≤ts.length:=by
 intro f
 induction f with
 | zero=>intro m a l l' b h;cases h
 | succ f ih =>
   intro m a l l' b h ha
   unfold strO at h
   by_cases hm:m=2
   · rw [if_pos hm] at h
     by_cases h1:isT ts a 1 notS=true
     · rw [if_pos h1] at h
       obtain ⟨q,e1,e2⟩:=Option.map_eq_some_iff.1 h
       obtain ⟨p,rfl,e3⟩:=Option.map_eq_some_iff.1 e2
       simp only [Prod.mk.injEq] at e3
       rw [← e3.2]
       exact ih e1 (isT_lt2 h1)
     · rw [if_neg h1] at h
       by_cases h2:isT ts a 4 [40]=true
       · rw [if_pos h2] at h
         obtain ⟨q,e1,e2⟩:=Option.map_eq_some_iff.1 h
         obtain ⟨p,rfl,e3⟩:=Option.bind_eq_some_iff.1 e2
         obtain ⟨c,e4,e5⟩:=Option.map_eq_some_iff.1 e3
         cases e5
         unfold signO at e4
         split at e4
         · rename_i h3
           cases e4
           exact isT_lt2 h3
         · cases e4
       · rw [if_neg h2] at h
         simp only [Option.some.injEq] at h
         obtain ⟨p,e1,e2⟩:=Option.map_eq_some_iff.1 h
         cases e2
         exact (cmpO_bd e1).2
   · rw [if_neg hm] at h
     by_cases hm2:m < 2
     · rw [if_pos hm2] at h
       obtain ⟨q,e1,e2⟩:=Option.bind_eq_some_iff.1 h
       cases q with
       | none=>cases e2
       | some p=>exact ih e2 (ih e1 ha)
     · rw [if_neg hm2] at h
       by_cases hw:isT ts a 1 (wordO (m-10))=true
       · rw [if_pos hw] at h
         obtain ⟨q,e1,e2⟩:=Option.bind_eq_some_iff.1 h
         cases q with
         | none=>cases e2
         | some p=>exact ih e2 (ih e1 (isT_lt2 hw))
       · rw [if_neg hw] at h
         simp only [Option.some.injEq,Prod.mk.injEq] at h
         obtain ⟨_,rfl⟩:=h
         exact ha
def RowP (K:AHeap) (N a:Nat) (l:List Nod) (r:Option (List Nod × Nat)) (u:Value) (K':AHeap):Prop:=∃ v,∃ next:Int,∃ out:List Nod,u=.tuple #[v,i64 next]∧Pre K K'∧NL K' K.length v out∧out.length+a≤N∧(match r with | none=>next = -1 | some p=>p.1=l++out∧next=p.2)
theorem RowP.none {K K':AHeap} {N a:Nat} {l:List Nod} (h:Pre K K') (ha:a≤N):RowP K N a l none (.tuple #[.slice none 0 0,i64 (-1)]) K':=⟨_,_,[],rfl,h,.nil,by simpa using ha,rfl⟩
theorem wordO_ne:∀ kx,kx < 2→wordO kx≠[42]:=by decide
section
variable (v:Value) (T:List RTk)
def PartC (f kx:Nat):Prop:=∀ (K:AHeap) (a:Nat) (l:List Nod) r,RTA K v T→a≤T.length→l.length≤a→strO (T.map Prod.fst) f (kx+1) a l=some r →
 ∃ u K',RowP K T.length a l r u K'∧ACalls prog 79 [v,i64 a,i64 l.length,str (wordO kx)] K u K'
def RowC (f kx:Nat):Prop:=∀ (K:AHeap) (a:Nat) (l:List Nod) r,RTA K v T→a≤T.length→l.length≤a→strO (T.map Prod.fst) f kx a l=some r →
 ∃ u K',RowP K T.length a l r u K'∧ACalls prog 61 [v,i64 a,i64 l.length,str (wordO kx)] K u K'
def LoopC (f kx:Nat):Prop:=∀ (K M:AHeap) (a b:Nat) (l out:List Nod) (vo:Value) r (k:Value→AHeap→Prop) (s1 s4 s5 s6 s7 s8 s9 c d e g h i j m n o p q s t w x y z A B C D E F G H I J L N O P Q R S U V W X Y Z aa ab ac ad ae af ag ah ai aj ak al am an ao ap:Value),RTA K v T→Pre K M→NL M K.length vo out→out.length+a≤b→b≤T.length→l.length≤a→strO (T.map Prod.fst) f (kx+10) b (l++out)=some r →
 (∀ u K',RowP K T.length a l r u K'→k u K')→L61x0 f k [v,s1,i64 l.length,str (wordO kx),s4,s5,s6,s7,s8,s9,vo,i64 b,c,d,e,g,h,i,j,m,n,o,p,q,s,t,w,x,y,z,A,B,C,D,E,F,G,H,I,J,L,N,O,P,Q,R,S,U,V,W,X,Y,Z,aa,ab,ac,ad,ae,af,ag,ah,ai,aj,ak,al,am,an,ao,ap] M
end
theorem row_neg {v vo w x:Value} {k:Value→AHeap→Prop} {M:AHeap} {n:Nat} (hk:k (.tuple #[vo,i64 (-1)]) M) (s1 s4 s5 s6 s7 s8 s9 a b c d e f g h i j l m o p q r s t u y z A B C D E F G H I J K L N O P Q R S T U V W X Y Z aa ab ac ad ae af ag ah ai aj ak:Value):L61x0 (n+1) k [v,s1,w,x,s4,s5,s6,s7,s8,s9,vo,i64 (-1),a,b,c,d,e,f,g,h,i,j,l,m,o,p,q,r,s,t,u,y,z,A,B,C,D,E,F,G,H,I,J,K,L,N,O,P,Q,R,S,T,U,V,W,X,Y,Z,aa,ab,ac,ad,ae,af,ag,ah,ai,aj,ak] M:=by
 rw [L61x0q]
 simp
 exact hk
section
variable {v:Value} {T:List RTk}
theorem row_of {f kx:Nat} (hp:PartC v T f kx) (hl:LoopC v T f kx) (hkx:kx < 2):RowC v T (f+1) kx:=by
 intro K a l r hT ha hla hr
 refine acalls_ex MixT func61 (by decide) ?_
 rw [d61]
 unfold strO at hr
 rw [if_neg (by omega),if_pos hkx] at hr
 obtain ⟨r1,e1,e2⟩:=Option.bind_eq_some_iff.1 hr
 obtain ⟨u,K',⟨vo,next,out,rfl,p1,p2,p3,p4⟩,hc⟩:=hp K a l r1 hT ha hla e1
 refine bndC_of hc ?_
 cases r1 with
 | none =>
   simp only at e2 p4
   cases e2
   subst p4
   simp
   exact ⟨0+1,row_neg ⟨_,_,out,rfl,p1,p2,p3,rfl⟩ _ _ _ _ _ _ _ _ _ _ _ _ _ _ _ _ _ _ _ _ _ _ _ _ _ _ _ _ _ _ _ _ _ _ _ _ _ _ _ _ _ _ _ _ _ _ _ _ _ _ _ _ _ _ _ _ _ _ _ _ _ _ _ _⟩
 | some p =>
   simp only at e2 p4
   obtain ⟨q1,rfl⟩:=p4
   obtain ⟨l1,b⟩:=p
   simp only at q1 e2 ⊢
   subst q1
   have hsl:=strO_len _ e1
   simp only [List.length_append] at hsl
   simp
   exact ⟨f,hl K K' a b l out vo r _ _ _ _ _ _ _ _ _ _ _ _ _ _ _ _ _ _ _ _ _ _ _ _ _ _ _ _ _ _ _ _ _ _ _ _ _ _ _ _ _ _ _ _ _ _ _ _ _ _ _ _ _ _ _ _ _ _ _ _ _ _ _ _ _ hT p1 p2 (by omega) (by have:=strO_bd _ e1 (by simpa using ha);simpa using this) hla e2 (fun u K' h=>h)⟩
theorem part_or {f:Nat} (h:RowC v T f 1):PartC v T f 0:=by
 intro K a l r hT ha hla hr
 refine acalls_ex MixT func79 (by decide) ?_
 rw [d79]
 obtain ⟨u,K',hR,hc⟩:=h K a l r hT ha hla hr
 have e1:(str (wordO 0))=Value.string ⟨#[111,114]⟩:=rfl
 rw [e1]
 simp
 refine bndC_of hc ?_
 obtain ⟨vo,next,out,rfl,p1,p2,p3,p4⟩:=hR
 simp
 exact ⟨vo,next,out,rfl,p1,p2,p3,p4⟩
theorem cond_or {f:Nat} (h:RowC v T f 0) (K:AHeap) (a:Nat) (l:List Nod) (r:Option (List Nod × Nat)) (hT:RTA K v T) (ha:a≤T.length) (hla:l.length≤a) (hr:strO (T.map Prod.fst) f 0 a l=some r) :
  ∃ u K',RowP K T.length a l r u K'∧ACalls prog 44 [v,i64 a,i64 l.length] K u K':=by
 refine acalls_ex MixT func44 (by decide) ?_
 rw [d44]
 obtain ⟨u,K',hR,hc⟩:=h K a l r hT ha hla hr
 refine bndC_of hc ?_
 obtain ⟨vo,next,out,rfl,p1,p2,p3,p4⟩:=hR
 simp
 exact ⟨vo,next,out,rfl,p1,p2,p3,p4⟩
theorem loop_zero (kx:Nat):LoopC v T 0 kx:=by
 intro K M a b l out vo r k s1 s4 s5 s6 s7 s8 s9 c d e f g h i j m n o p q s t u w x y z A B C D E F G H I J L N O P Q R S U V W X Y Z aa ab ac ad ae af ag ah ai aj ak al am an hT hp hn hb hbT hla hr
 cases hr
set_option maxHeartbeats 2000000 in
theorem loop_of {f kx:Nat} (hTl:T.length≤2 ^ 36) (hp:PartC v T f kx) (hl:LoopC v T f kx) (hkx:kx < 2):LoopC v T (f+1) kx:=by
 intro K M a b l out vo r k s1 s4 s5 s6 s7 s8 s9 d e ax ay h i j m o q s t w y z A B C D E F G H I J L N O P Q R S U V W Y Z aa ab ac ad ae af ag ah ai aj ak al am an ao ap aq ar au av hT hpre hn hb hbT hla hr hk
 unfold strO at hr
 have e10:kx+10-10=kx:=by omega
 rw [if_neg (by omega),if_neg (by omega),e10] at hr
 have hTM:=hT.pre hpre
 have i1:=r_is hTM b 1 (wordO kx)
 rw [isR_txt (wordO_ne kx hkx)] at i1
 rw [L61x0q]
 simp
 refine bndG_t _ _ i1 ?_
 cases t1:isT (T.map Prod.fst) b 1 (wordO kx) with
 | false =>
   rw [t1,if_neg (by decide)] at hr
   cases hr
   simp
   exact hk _ _ ⟨vo,b,out,rfl,hpre,hn,by omega,rfl,rfl⟩
 | true =>
   rw [t1,if_pos rfl] at hr
   obtain ⟨r1,e1,e2⟩:=Option.bind_eq_some_iff.1 hr
   have hbl:=isT_lt2 t1
   simp only [List.length_map] at hbl
   obtain ⟨u,K1,⟨v1,next,out1,rfl,p1,p2,p3,p4⟩,hc⟩:=hp M (b+1) (l++out) r1 hTM (by omega) (by simp;omega) e1
   have hKM:K.length≤M.length:=by obtain ⟨X,rfl⟩:=hpre;simp
   have hKM1:M.length≤K1.length:=by obtain ⟨X,rfl⟩:=p1;simp
   have hlo:=hn.len
   have w1:IntKind.i64.wrap ((l.length:Int)+out.length)=(l.length:Int)+out.length:=wrap_i64 (by omega) (by omega)
   have w2:IntKind.i64.wrap ((l.length:Int)+out.length-1)=(l.length:Int)+out.length-1:=wrap_i64 (by omega) (by omega)
   have w3:IntKind.i64.wrap ((b:Int)+1)=((b+1:Nat):Int):=by rw [wrap_i64 (by omega) (by omega)];omega
   obtain ⟨v2,M2,a1,a2,a3,a4⟩:=NL.appL (hn.pre p1) p2 hKM (by omega) (by omega)
   have hl2:=a2.len
   have w4:IntKind.i64.wrap ((l.length:Int)+((out.length:Int)+out1.length))=(l.length:Int)+((out.length:Int)+out1.length):=wrap_i64 (by omega) (by omega)
   have w5:IntKind.i64.wrap ((l.length:Int)+((out.length:Int)+out1.length)-1)=(l.length:Int)+((out.length:Int)+out1.length)-1:=wrap_i64 (by omega) (by omega)
   simp [hlo,w1,w2,w3]
   have hc':=hc
   simp only [List.length_append] at hc'
   refine bndC_of hc' ?_
   simp [a1,hl2,w4,w5]
   have hM2p:Pre K M2:=a4 K (hpre.trans p1) (Nat.le_refl _)
   have tail:∀ (op:Nod) (s1 s4 s5 s6 s7 s8 s9 aw d e h i j m o q s t w y z A B C D E F G H I J L N O P Q R S U V W Y Z aa ab ac ad ae af ag ah ai aj ak al am an ao ap aq ar au av:Value),op=opN (kindK kx) (((l++out).length:Int)-1) (((l++out++out1).length:Int)-1)→S61x0 f k [v,s1,i64 l.length,str (wordO kx),s4,s5,s6,s7,s8,s9,v2,aw,d,e,i64 next,.pointer (some ⟨M2.length,0,some 8⟩),h,i,j,m,o,q,s,t,w,y,z,A,B,C,D,E,F,G,H,I,J,L,N,O,P,Q,R,S,U,V,W,Y,Z,aa,ab,ac,ad,ae,af,ag,ah,ai,aj,ak,al,am,an,ao,ap,aq,ar,au,av] (M2++[.cells (op.cells (.slice none 0 0)) 54]):=by
    intro op s1 s4 s5 s6 s7 s8 s9 aw d e h i j m o q s t w y z A B C D E F G H I J L N O P Q R S U V W Y Z aa ab ac ad ae af ag ah ai aj ak al am an ao ap aq ar au av hop
    rw [S61x0q]
    have hlit:=sliceLitA (c:=op.cells (.slice none 0 0)) (tbs32 (M2++[.cells (op.cells (.slice none 0 0)) 54]) 1 _) (by rfl) (by simp [Nod.cells]) (by simp)
    have hop3:op.sel=[]:=by rw [hop];rfl
    obtain ⟨v3,M3,b1,b2,b3,b4⟩:=NL.app1 (M:=M2++[.cells (op.cells (.slice none 0 0)) 54]++[.cells (op.cells (.slice none 0 0)) 54]) (sv:=.slice none 0 0) (n:=op) (x:=.slice (some ⟨(M2++[AObj.cells (op.cells (.slice none 0 0)) 54]).length,0,some (op.cells (.slice none 0 0)).length⟩) 1 1) ((a2.pre (.app _ _)).pre (.app _ _)) (by rw [hop3];exact .nil) (by rw [hop3];simp) (by simp [aSrc,Nod.cells]) (by simp;omega) (by simp;omega)
    simp [Nod.cells]
    refine bndL_lit hlit ?_
    dsimp only
    rw [b1]
    simp
    have hM3p:Pre K M3:=b4 K ((hM2p.more _).more _) (Nat.le_refl _)
    cases r1 with
    | none =>
      simp only at e2 p4
      cases e2
      subst p4
      obtain ⟨f',rfl⟩:∃ g,f=g+1:=by
       cases f with
       | zero=>cases e1
       | succ g=>exact ⟨g,rfl⟩
      exact row_neg (hk _ _ ⟨v3,-1,out++out1++[op],rfl,hM3p,b2,by simp;omega,rfl⟩) _ _ _ _ _ _ _ _ _ _ _ _ _ _ _ _ _ _ _ _ _ _ _ _ _ _ _ _ _ _ _ _ _ _ _ _ _ _ _ _ _ _ _ _ _ _ _ _ _ _ _ _ _ _ _ _ _ _ _ _ _ _ _ _
    | some p =>
      simp only at e2 p4
      obtain ⟨q1,rfl⟩:=p4
      obtain ⟨l1,b'⟩:=p
      simp only at q1 e2 ⊢
      subst q1
      have hsl:=strO_len _ e1
      simp only [List.length_append] at hsl
      have hbd:=strO_bd _ e1 (by simp;omega)
      simp only [List.length_map] at hbd
      refine hl K M3 a b' l (out++out1++[op]) v3 r k _ _ _ _ _ _ _ _ _ _ _ _ _ _ _ _ _ _ _ _ _ _ _ _ _ _ _ _ _ _ _ _ _ _ _ _ _ _ _ _ _ _ _ _ _ _ _ _ _ _ _ _ _ _ _ _ _ _ _ _ _ _ _ _ hT hM3p b2 (by simp;omega) hbd hla ?_ hk
      rw [← e2,hop]
      simp
   rcases (show kx=0∨kx=1 by omega) with rfl | rfl
   · simp [wordO]
     refine tail ⟨2,0,[],0,0,0,(l.length:Int)+out.length-1,(l.length:Int)+((out.length:Int)+out1.length)-1⟩ _ _ _ _ _ _ _ _ _ _ _ _ _ _ _ _ _ _ _ _ _ _ _ _ _ _ _ _ _ _ _ _ _ _ _ _ _ _ _ _ _ _ _ _ _ _ _ _ _ _ _ _ _ _ _ _ _ _ _ _ _ _ _ (by simp [opN,kindK])
   · simp [wordO]
     refine tail ⟨1,0,[],0,0,0,(l.length:Int)+out.length-1,(l.length:Int)+((out.length:Int)+out1.length)-1⟩ _ _ _ _ _ _ _ _ _ _ _ _ _ _ _ _ _ _ _ _ _ _ _ _ _ _ _ _ _ _ _ _ _ _ _ _ _ _ _ _ _ _ _ _ _ _ _ _ _ _ _ _ _ _ _ _ _ _ _ _ _ _ _ (by simp [opN,kindK])
set_option maxHeartbeats 2000000 in
theorem part_and {f:Nat} (hTl:T.length≤2 ^ 36) (htx:∀ p∈T,p.1.text.length < 2 ^ 50) (hp:PartC v T f 1) (hc:RowC v T f 0):PartC v T (f+1) 1:=by
 intro K a l r hT ha hla hr
 refine acalls_ex MixT func79 (by decide) ?_
 rw [d79]
 unfold strO at hr
 rw [if_pos rfl] at hr
 have w1:IntKind.i64.wrap ((a:Int)+1)=((a+1:Nat):Int):=by rw [wrap_i64 (by omega) (by omega)];omega
 have i1:=r_is hT a 1 notS
 have i2:=r_is hT a 4 [40]
 rw [isR_txt (by decide)] at i1 i2
 have fail:∀ K',Pre K K'→r=none→RowP K T.length a l r (.tuple #[.slice none 0 0,i64 (-1)]) K':=fun K' h e=>by rw [e];exact .none h ha
 simp [wordO]
 refine bndC_of i1 ?_
 cases t1:isT (T.map Prod.fst) a 1 notS with
 | true =>
   rw [t1,if_pos rfl] at hr
   obtain ⟨r1,e1,e2⟩:=Option.map_eq_some_iff.1 hr
   have hal:=isT_lt2 t1
   simp only [List.length_map] at hal
   obtain ⟨u,K1,⟨v1,next,out1,rfl,p1,p2,p3,p4⟩,hcl⟩:=hp K (a+1) l r1 hT (by omega) (by omega) e1
   simp [w1]
   refine bndC_of hcl ?_
   have hl1:=p2.len
   have hKM1:K.length≤K1.length:=by obtain ⟨X,rfl⟩:=p1;simp
   cases r1 with
   | none =>
     simp only [Option.map_none] at e2
     simp only at p4
     subst p4
     simp
     exact fail _ p1 e2.symm
   | some p =>
     simp only [Option.map_some] at e2
     simp only at p4
     obtain ⟨q1,rfl⟩:=p4
     have hneg:¬ ((p.2:Int) < 0):=by omega
     have w2:IntKind.i64.wrap ((l.length:Int)+out1.length)=(l.length:Int)+out1.length:=wrap_i64 (by omega) (by omega)
     have w3:IntKind.i64.wrap ((l.length:Int)+out1.length-1)=(l.length:Int)+out1.length-1:=wrap_i64 (by omega) (by omega)
     have hlit:=sliceLitA (c:=(opN 3 ((l.length:Int)+out1.length-1) 0).cells (.slice none 0 0)) (tbs32 K1 1 _) (by rfl) (by simp [Nod.cells]) (by simp)
     obtain ⟨v3,M3,b1,b2,b3,b4⟩:=NL.app1 (M:=K1++[.cells ((opN 3 ((l.length:Int)+out1.length-1) 0).cells (.slice none 0 0)) 54]) (sv:=.slice none 0 0) (n:=opN 3 ((l.length:Int)+out1.length-1) 0) (x:=.slice (some ⟨K1.length,0,some ((opN 3 ((l.length:Int)+out1.length-1) 0).cells (.slice none 0 0)).length⟩) 1 1) (p2.pre (.app _ _)) .nil (by simp [opN]) (by simp [aSrc,Nod.cells]) (by simp;omega) (by omega)
     simp [hneg,hl1,w2,w3]
     refine bndL_lit hlit ?_
     dsimp only
     rw [b1]
     simp
     have hsl:=strO_len _ e1
     have hbd:=strO_bd _ e1 (by simp;omega)
     simp only [List.length_map] at hbd
     rw [q1] at hsl
     simp only [List.length_append] at hsl
     refine ⟨v3,p.2,out1++[opN 3 ((l.length:Int)+out1.length-1) 0],rfl,b4 K (p1.more _) (Nat.le_refl _),b2,by simp;omega,?_⟩
     rw [← e2]
     exact ⟨by simp [q1],rfl⟩
 | false =>
   rw [t1,if_neg (by decide)] at hr
   simp
   refine bndC_of i2 ?_
   cases t2:isT (T.map Prod.fst) a 4 [40] with
   | true =>
     rw [t2,if_pos rfl] at hr
     obtain ⟨r1,e1,e2⟩:=Option.map_eq_some_iff.1 hr
     have hal:=isT_lt2 t2
     simp only [List.length_map] at hal
     obtain ⟨u,K1,⟨v1,next,out1,rfl,p1,p2,p3,p4⟩,hcl⟩:=cond_or hc K (a+1) l r1 hT (by omega) (by omega) e1
     simp [w1]
     refine bndC_of hcl ?_
     cases r1 with
     | none =>
       simp only [Option.bind_none] at e2
       simp only at p4
       subst p4
       simp
       exact fail _ p1 e2.symm
     | some p =>
       simp only [Option.bind_some] at e2
       simp only at p4
       obtain ⟨q1,rfl⟩:=p4
       have hneg:¬ ((p.2:Int) < 0):=by omega
       have i3:=r_is (hT.pre p1) p.2 4 [41]
       rw [isR_txt (by decide)] at i3
       simp [hneg]
       refine bndG_f _ _ i3 ?_
       cases t3:isT (T.map Prod.fst) p.2 4 [41] with
       | false =>
         have:r=none:=by rw [← e2];unfold signO;rw [t3];rfl
         simp
         exact fail _ p1 this
       | true =>
         have hpl:=isT_lt2 t3
         simp only [List.length_map] at hpl
         have e3:r=some (p.1,p.2+1):=by rw [← e2];unfold signO;rw [t3];rfl
         have w2:IntKind.i64.wrap ((p.2:Int)+1)=((p.2+1:Nat):Int):=by rw [wrap_i64 (by omega) (by omega)];omega
         simp [w2]
         refine ⟨v1,((p.2+1:Nat):Int),out1,by simp,p1,p2,by omega,?_⟩
         rw [e3]
         exact ⟨q1,rfl⟩
   | false =>
     rw [t2,if_neg (by decide)] at hr
     simp only [Option.some.injEq] at hr
     obtain ⟨u,K1,⟨v1,next,out1,rfl,p1,p2,p3⟩,hcl⟩:=r_comparison (a:=a) hT htx (by omega)
     simp
     refine bndC_of hcl ?_
     simp
     cases hco:cmpO (T.map Prod.fst) a with
     | none =>
       rw [hco] at hr p3
       simp only at p3
       have:r=none:=by rw [← hr];rfl
       obtain ⟨rfl,rfl⟩:=p3
       rw [this]
       exact ⟨v1,-1,[],rfl,p1,p2,by simpa using ha,rfl⟩
     | some p =>
       rw [hco] at hr p3
       simp only at p3
       obtain ⟨rfl,rfl⟩:=p3
       have hbd:=cmpO_bd hco
       simp only [List.length_map] at hbd
       rw [← hr]
       exact ⟨v1,p.2,[p.1],rfl,p1,p2,by simp;omega,rfl,rfl⟩
theorem r_all_f (hTl:T.length≤2 ^ 36) (htx:∀ p∈T,p.1.text.length < 2 ^ 50):∀ f,PartC v T f 1∧RowC v T f 1∧PartC v T f 0∧RowC v T f 0∧LoopC v T f 0∧LoopC v T f 1:=by
 intro f
 induction f with
 | zero =>
   have hr:∀ kx,RowC v T 0 kx:=fun kx K a l r _ _ _ h=>by cases h
   have hp:∀ kx,PartC v T 0 kx:=fun kx K a l r _ _ _ h=>by cases h
   exact ⟨hp 1,hr 1,hp 0,hr 0,loop_zero 0,loop_zero 1⟩
 | succ f ih =>
   obtain ⟨a1,a2,a3,a4,a5,a6⟩:=ih
   have b1:=part_and hTl htx a1 a4
   have b2:=row_of a1 a6 (by omega)
   have b3:=part_or b2
   have b4:=row_of a3 a5 (by omega)
   exact ⟨b1,b2,b3,b4,loop_of hTl a3 a5 (by omega),loop_of hTl a1 a6 (by omega)⟩
theorem r_condition {K:AHeap} {a:Nat} (hT:RTA K v T) (hTl:T.length≤2 ^ 36) (htx:∀ p∈T,p.1.text.length < 2 ^ 50) (ha:a≤T.length) :
  ∃ u K',RowP K T.length a [] (conO (T.map Prod.fst) a) u K'∧ACalls prog 44 [v,i64 a,i64 0] K u K' :=
 cond_or (r_all_f hTl htx _).2.2.2.1 K a [] _ hT ha (by simp) (conO_str _ a)
end
end Go.Vi
namespace Go.Vi
open Go Go.Proofs
inductive Cond (ns:List Nod):Nat→Nat→Prop
 | cmp (e:Nat) (n:Nod):ns[e]?=some n→n.kind=0→n.plain=true→Cond ns e e
 | neg (s e:Nat) (n:Nod):ns[e+1]?=some n→n.kind=3→n.void=true→n.left=e→n.right=0→Cond ns s e→Cond ns s (e+1)
 | two (s r e:Nat) (n:Nod):ns[e+1]?=some n→n.kind=1∨n.kind=2→n.void=true→n.left=r→n.right=e→Cond ns s r→Cond ns (r+1) e→Cond ns s (e+1)
theorem Cond.le {ns s e} (h:Cond ns s e):s≤e:=by
 induction h with
 | cmp=>omega
 | neg=>omega
 | two=>omega
theorem Cond.lt {ns s e} (h:Cond ns s e):e < ns.length:=by
 cases h with
 | cmp _ n h=>exact (List.getElem?_eq_some_iff.1 h).1
 | neg _ _ n h=>exact (List.getElem?_eq_some_iff.1 h).1
 | two _ _ _ n h=>exact (List.getElem?_eq_some_iff.1 h).1
theorem Cond.app {ns s e} (h:Cond ns s e) (xs:List Nod):Cond (ns++xs) s e:=by
 have up:∀ {i:Nat} {n:Nod},ns[i]?=some n→(ns++xs)[i]?=some n:=fun {i n} h=>by rw [List.getElem?_append_left (List.getElem?_eq_some_iff.1 h).1,h]
 induction h with
 | cmp e n h1 h2 h3=>exact .cmp e n (up h1) h2 h3
 | neg s e n h1 h2 h3 h4 h5 _ ih=>exact .neg s e n (up h1) h2 h3 h4 h5 ih
 | two s r e n h1 h2 h3 h4 h5 _ _ ih1 ih2=>exact .two s r e n (up h1) h2 h3 h4 h5 ih1 ih2
theorem kind_nat {n:Nod} {m:UInt8} (h:n.kind=m):(n.kind.toNat:Int)=m.toNat:=by rw [h]
theorem Cond.beg {ns s e} (h:Cond ns s e):∀ f,e < f→Vi.beg ns f e=s:=by
 induction h with
 | cmp e n h1 h2 h3 =>
   intro f hf
   obtain ⟨f,rfl⟩:∃ g,f=g+1:=⟨f-1,by omega⟩
   have k0:((n.kind.toNat:Int) == 0)=true:=by rw [kind_nat h2];rfl
   rw [Vi.beg,if_neg (by omega),Int.toNat_natCast,h1]
   simp only [k0,if_true,h3]
 | neg s e n h1 h2 h3 h4 h5 hc ih =>
   intro f hf
   obtain ⟨f,rfl⟩:∃ g,f=g+1:=⟨f-1,by omega⟩
   have k0:((n.kind.toNat:Int) == 0)=false:=by rw [kind_nat h2];rfl
   have k3:((n.kind.toNat:Int) == 3)=true:=by rw [kind_nat h2];rfl
   have e1:((e+1:Nat):Int)-1=e:=by omega
   rw [Vi.beg,if_neg (by omega),Int.toNat_natCast,h1]
   simp only [k0,k3,Bool.false_eq_true,if_false,if_true,e1,h3,h4,h5,beq_self_eq_true,Bool.and_self,ih f (by omega)]
 | two s r e n h1 h2 h3 h4 h5 hc1 hc2 ih1 ih2 =>
   intro f hf
   obtain ⟨f,rfl⟩:∃ g,f=g+1:=⟨f-1,by omega⟩
   have l2:=hc2.le
   have k0:((n.kind.toNat:Int) == 0)=false:=by rcases h2 with h2 | h2<;>rw [kind_nat h2]<;>rfl
   have k3:((n.kind.toNat:Int) == 3)=false:=by rcases h2 with h2 | h2<;>rw [kind_nat h2]<;>rfl
   have k12:(isAnd n || isOr n)=true:=by unfold isAnd isOr;rcases h2 with h2 | h2<;>rw [kind_nat h2]<;>rfl
   have e1:((e+1:Nat):Int)-1=e:=by omega
   have e2:((r+1:Nat):Int)-1=r:=by omega
   have e3:decide (((r+1:Nat):Int) > 0)=true:=by simp
   rw [Vi.beg,if_neg (by omega),Int.toNat_natCast,h1]
   simp only [k0,k3,k12,Bool.false_eq_true,if_false,if_true,e1,ih2 f (by omega),e2,e3,h3,h4,h5,beq_self_eq_true,Bool.and_self,ih1 f (by omega)]
theorem kind_of {k m:UInt8} (h:((k.toNat:Int) == m.toNat)=true):k=m:=by
 have:(k.toNat:Int)=m.toNat:=by simpa using h
 exact UInt8.toNat_inj.1 (by omega)
theorem cond_of_beg {ns:List Nod}:∀ (f:Nat) (e:Nat),0≤beg ns f e→∃ s:Nat,beg ns f e=s∧Cond ns s e:=by
 intro f
 induction f with
 | zero=>intro e h;simp [beg] at h
 | succ f ih =>
   intro e h
   rw [beg,if_neg (by omega),Int.toNat_natCast] at h ⊢
   cases hn:ns[e]? with
   | none=>rw [hn] at h;simp at h
   | some n =>
     rw [hn] at h
     simp only at h ⊢
     by_cases k0:((n.kind.toNat:Int) == 0)=true
     · rw [if_pos k0] at h ⊢
       by_cases hp:n.plain=true
       · rw [if_pos hp]
         exact ⟨e,rfl,.cmp e n hn (kind_of k0) hp⟩
       · rw [if_neg hp] at h;omega
     · rw [if_neg k0] at h ⊢
       by_cases k3:((n.kind.toNat:Int) == 3)=true
       · rw [if_pos k3] at h ⊢
         by_cases hc:(n.void && n.left == (e:Int)-1 && n.right == 0)=true
         · rw [if_pos hc] at h ⊢
           simp only [Bool.and_eq_true,beq_iff_eq] at hc
           obtain ⟨d,rfl⟩:∃ d,e=d+1:=by
            cases e with
            | zero =>
              have:=beg_range ns f (((0:Nat):Int)-1) (by omega)
              omega
            | succ d=>exact ⟨d,rfl⟩
           have e1:((d+1:Nat):Int)-1=d:=by omega
           rw [e1] at h hc ⊢
           obtain ⟨s,h1,h2⟩:=ih d h
           exact ⟨s,h1,.neg s d n hn (kind_of k3) hc.1.1 hc.1.2 hc.2 h2⟩
         · rw [if_neg hc] at h;omega
       · rw [if_neg k3] at h ⊢
         by_cases k12:(isAnd n || isOr n)=true
         · rw [if_pos k12] at h ⊢
           by_cases hc:(n.void && n.right == (e:Int)-1 && decide (beg ns f ((e:Int)-1) > 0) && n.left == beg ns f ((e:Int)-1)-1)=true
           · rw [if_pos hc] at h ⊢
             simp only [Bool.and_eq_true,beq_iff_eq,decide_eq_true_eq] at hc
             obtain ⟨d,rfl⟩:∃ d,e=d+1:=by
              cases e with
              | zero =>
                have:=beg_range ns f (((0:Nat):Int)-1) (by omega)
                omega
              | succ d=>exact ⟨d,rfl⟩
             have e1:((d+1:Nat):Int)-1=d:=by omega
             rw [e1] at h hc ⊢
             obtain ⟨r,h1,h2⟩:=ih d (by omega)
             rw [h1] at h hc ⊢
             obtain ⟨r,rfl⟩:∃ q,r=q+1:=⟨r-1,by omega⟩
             have e2:((r+1:Nat):Int)-1=r:=by omega
             rw [e2] at h hc ⊢
             obtain ⟨s,h3,h4⟩:=ih r h
             refine ⟨s,h3,.two s r d n hn ?_ hc.1.1.1 hc.2 hc.1.1.2 h4 h2⟩
             simp only [isAnd,isOr,Bool.or_eq_true,beq_iff_eq] at k12
             rcases k12 with k | k
             · exact .inl (kind_of (by simpa using k))
             · exact .inr (kind_of (by simpa using k))
           · rw [if_neg hc] at h;omega
         · rw [if_neg k12] at h;omega
theorem right_cond {ns:List Nod} (h:right ns=true):1≤ns.length∧ns.length≤31∧Cond ns 0 (ns.length-1):=by
 unfold right at h
 simp only [Bool.and_eq_true,decide_eq_true_eq,beq_iff_eq] at h
 obtain ⟨⟨h1,h2⟩,h3⟩:=h
 have e:((ns.length:Int)-1)=((ns.length-1:Nat):Int):=by omega
 rw [e] at h3
 obtain ⟨s,h4,h5⟩:=cond_of_beg (ns:=ns) ns.length (ns.length-1) (by omega)
 have:s=0:=by omega
 subst this
 exact ⟨by omega,by omega,h5⟩
theorem cond_right {ns:List Nod} (h1:1≤ns.length) (h2:ns.length≤31) (h:Cond ns 0 (ns.length-1)):right ns=true:=by
 have hb:=h.beg ns.length (by omega)
 have e:((ns.length:Int)-1)=((ns.length-1:Nat):Int):=by omega
 unfold right
 rw [e,hb]
 simp
 omega
theorem par_sat {s:List UInt8} (h:(parF s).2=0):sat (parF s).1=(parF s).1:=by
 unfold parF at h ⊢
 by_cases hc:(cutF (cutPre s [45])).2.2=true
 · obtain ⟨h1,h2,_⟩:=cutF_ok hc
   have hr:=digF_range ((cutF (cutPre s [45])).1++(cutF (cutPre s [45])).2.1++List.replicate (3-(cutF (cutPre s [45])).2.1.length) 48) 0 (fun b hb=>by
    rcases List.mem_append.1 hb with hb | hb
    · exact h1 b hb
    · rw [List.eq_of_mem_replicate hb];decide) (by omega) (by decide)
   simp only [hc,if_true]
   generalize digF 0 _=x at hr
   have hm:maxFix=4611686018427387903:=rfl
   unfold sat
   split<;>omega
 · simp only [hc] at h;simp at h
theorem idx_lt {l:List (List UInt8)} {s:List UInt8} (h:s∈l):idxS l s < l.length:=by
 unfold idxS
 rw [if_pos h]
 exact List.idxOf_lt_length_of_mem h
theorem one_in {ts:List Tok} {k:Int} {l:List (List UInt8)} {a b:Nat} (h:oneO ts k l a=some b):txtK ts k a∈l:=by
 unfold oneO at h
 obtain ⟨s,h1,h2⟩:=Option.bind_eq_some_iff.1 h
 unfold txtK
 rw [h1]
 split at h2
 · assumption
 · cases h2
theorem sel_may {ts:List Tok} {a:Nat} {p:List Mat × Nat} (h:selO ts a=some p):mayMats p.1=true:=by
 unfold selO at h
 obtain ⟨b,_,h⟩:=Option.bind_eq_some_iff.1 h
 split at h
 · cases h;rfl
 · obtain ⟨r,_,h⟩:=Option.bind_eq_some_iff.1 h
   obtain ⟨c,h3,h⟩:=Option.map_eq_some_iff.1 h
   cases h
   unfold selE at h3
   obtain ⟨d,_,h5⟩:=Option.bind_eq_some_iff.1 h3
   split at h5
   · assumption
   · cases h5
theorem cmp_plain {ts:List Tok} {a:Nat} {p:Nod × Nat} (hc:cmpO ts a=some p):p.1.kind=0∧p.1.plain=true:=by
 unfold cmpO at hc
 obtain ⟨b1,h1,hc⟩:=Option.bind_eq_some_iff.1 hc
 obtain ⟨b2,h2,hc⟩:=Option.bind_eq_some_iff.1 hc
 obtain ⟨q,h3,hc⟩:=Option.bind_eq_some_iff.1 hc
 obtain ⟨b3,h4,hc⟩:=Option.bind_eq_some_iff.1 hc
 obtain ⟨w,h5,hc⟩:=Option.bind_eq_some_iff.1 hc
 obtain ⟨b4,h6,hc⟩:=Option.bind_eq_some_iff.1 hc
 obtain ⟨b5,h7,hc⟩:=Option.bind_eq_some_iff.1 hc
 obtain ⟨b6,h8,hc⟩:=Option.bind_eq_some_iff.1 hc
 obtain ⟨v,h9,hc⟩:=Option.bind_eq_some_iff.1 hc
 cases hc
 have i1:idxS aggs (txtK ts 1 a) < 6:=idx_lt (one_in h1)
 have i2:idxS cmps (txtK ts 4 b5) < 6:=idx_lt (one_in h8)
 have hw:1≤w.1∧w.1≤1000:=by
  unfold winO at h5
  obtain ⟨s,_,h5⟩:=Option.bind_eq_some_iff.1 h5
  obtain ⟨m,_,h5⟩:=Option.bind_eq_some_iff.1 h5
  split at h5
  · cases h5;assumption
  · cases h5
 have hv:sat v.1=v.1:=by
  unfold valO at h9
  obtain ⟨s,_,h9⟩:=Option.bind_eq_some_iff.1 h9
  split at h9
  · rename_i q;cases h9;exact par_sat q
  · cases h9
 refine ⟨rfl,?_⟩
 unfold Nod.plain
 have e1:(((UInt8.ofNat (idxS aggs (txtK ts 1 a))).toNat:Int))=idxS aggs (txtK ts 1 a):=u8_of (by omega)
 have e2:(((UInt8.ofNat (idxS cmps (txtK ts 4 b5))).toNat:Int))=idxS cmps (txtK ts 4 b5):=u8_of (by omega)
 simp only [e1,e2,sel_may h3,hv,Bool.and_eq_true,decide_eq_true_eq,beq_iff_eq,and_true]
 omega
theorem op_void (k:UInt8) (l r:Int):(opN k l r).void=true:=by simp [opN,Nod.void]
theorem strO_cond {ts:List Tok}:∀ (f:Nat) {m a:Nat} {l l':List Nod} {b:Nat},strO ts f m a l=some (some (l',b)) →
  (m≤2→∃ xs,l'=l++xs∧0 < xs.length∧Cond l' l.length (l'.length-1)) ∧
  (m=10∨m=11→∀ s,0 < l.length→Cond l s (l.length-1)→∃ xs,l'=l++xs∧Cond l' s (l'.length-1)):=by
 intro f
 induction f with
 | zero=>intro m a l l' b h;cases h
 | succ f ih =>
   intro m a l l' b h
   unfold strO at h
   by_cases hm:m=2
   · subst hm
     refine ⟨fun _=>?_,fun h=>by omega⟩
     rw [if_pos rfl] at h
     by_cases h1:isT ts a 1 notS=true
     · rw [if_pos h1] at h
       obtain ⟨q,e1,e2⟩:=Option.map_eq_some_iff.1 h
       obtain ⟨p,rfl,e3⟩:=Option.map_eq_some_iff.1 e2
       simp only [Prod.mk.injEq] at e3
       obtain ⟨rfl,rfl⟩:=e3
       obtain ⟨xs,g1,g2,g3⟩:=(ih e1).1 (by omega)
       have hl:p.1.length=l.length+xs.length:=by rw [g1];simp
       refine ⟨xs++[opN 3 ((p.1.length:Int)-1) 0],by rw [g1];simp,by simp,?_⟩
       have:(p.1++[opN 3 ((p.1.length:Int)-1) 0]).length-1=(p.1.length-1)+1:=by simp;omega
       rw [this]
       refine .neg _ _ (opN 3 ((p.1.length:Int)-1) 0) ?_ rfl (op_void _ _ _) (by simp only [opN];omega) rfl (g3.app _)
       rw [show p.1.length-1+1=p.1.length by omega];simp
     · rw [if_neg h1] at h
       by_cases h2:isT ts a 4 [40]=true
       · rw [if_pos h2] at h
         obtain ⟨q,e1,e2⟩:=Option.map_eq_some_iff.1 h
         obtain ⟨p,rfl,e3⟩:=Option.bind_eq_some_iff.1 e2
         obtain ⟨c,e4,e5⟩:=Option.map_eq_some_iff.1 e3
         cases e5
         exact (ih e1).1 (by omega)
       · rw [if_neg h2] at h
         simp only [Option.some.injEq] at h
         obtain ⟨p,e1,e2⟩:=Option.map_eq_some_iff.1 h
         cases e2
         obtain ⟨c1,c2⟩:=cmp_plain e1
         refine ⟨[p.1],rfl,by simp,?_⟩
         rw [show (l++[p.1]).length-1=l.length by simp]
         exact .cmp _ p.1 (by simp) c1 c2
   · rw [if_neg hm] at h
     by_cases hm2:m < 2
     · rw [if_pos hm2] at h
       refine ⟨fun _=>?_,fun h=>by omega⟩
       obtain ⟨q,e1,e2⟩:=Option.bind_eq_some_iff.1 h
       cases q with
       | none=>cases e2
       | some p =>
         obtain ⟨xs,g1,g2,g3⟩:=(ih e1).1 (by omega)
         have hl:p.1.length=l.length+xs.length:=by rw [g1];simp
         obtain ⟨ys,k1,k2⟩:=(ih e2).2 (by omega) l.length (by omega) g3
         exact ⟨xs++ys,by rw [k1,g1];simp,by simp;omega,k2⟩
     · rw [if_neg hm2] at h
       refine ⟨fun h=>by omega,fun hm10 s hl hcs=>?_⟩
       by_cases hw:isT ts a 1 (wordO (m-10))=true
       · rw [if_pos hw] at h
         obtain ⟨q,e1,e2⟩:=Option.bind_eq_some_iff.1 h
         cases q with
         | none=>cases e2
         | some p =>
           obtain ⟨xs,g1,g2,g3⟩:=(ih e1).1 (by omega)
           have hpl:p.1.length=l.length+xs.length:=by rw [g1];simp
           have hc':Cond (p.1++[opN (kindK (m-10)) ((l.length:Int)-1) ((p.1.length:Int)-1)]) s ((p.1++[opN (kindK (m-10)) ((l.length:Int)-1) ((p.1.length:Int)-1)]).length-1):=by
            have:(p.1++[opN (kindK (m-10)) ((l.length:Int)-1) ((p.1.length:Int)-1)]).length-1=(p.1.length-1)+1:=by simp;omega
            rw [this]
            refine .two s (l.length-1) (p.1.length-1) (opN (kindK (m-10)) ((l.length:Int)-1) ((p.1.length:Int)-1)) ?_ ?_ (op_void _ _ _) (by simp only [opN];omega) (by simp only [opN];omega) ?_ ?_
            · rw [show p.1.length-1+1=p.1.length by omega];simp
            · show kindK (m-10)=1∨kindK (m-10)=2
              unfold kindK;split<;>simp
            · rw [g1,List.append_assoc];exact hcs.app _
            · rw [show l.length-1+1=l.length by omega];exact g3.app _
           obtain ⟨ys,k1,k2⟩:=(ih e2).2 hm10 s (by simp) hc'
           exact ⟨xs++[opN (kindK (m-10)) ((l.length:Int)-1) ((p.1.length:Int)-1)]++ys,by rw [k1,g1];simp,k2⟩
       · rw [if_neg hw] at h
         simp only [Option.some.injEq,Prod.mk.injEq] at h
         obtain ⟨rfl,rfl⟩:=h
         exact ⟨[],by simp,hcs⟩
end Go.Vi
namespace Go.Vi
open Go Go.Proofs
theorem isT_out {ts:List Tok} {a:Nat} (h:ts.length≤a) (k:Int) (s:List UInt8):isT ts a k s=false:=by
 unfold isT;rw [List.getElem?_eq_none h];rfl
def kindB (or':Bool):UInt8:=if or'=true then 2 else 1
def two (a b:List Nod) (or':Bool):List Nod:=a++b.map (shN a.length)++[opN (kindB or') ((a.length:Int)-1) (((a++b.map (shN a.length)).length:Int)-1)]
end Go.Vi
namespace Go.Vi
open Go Go.Proofs
abbrev KT:Type:=Int × List UInt8
def fixU (n:Nat):List UInt8:=natS (n / 1000)++if n % 1000=0 then [] else 46 :: trimR 48 ((natS (1000+n % 1000)).drop 1)
def matK (m:Mat):List KT:=[(1,m.name),(4,opS m.op),(3,m.value)]
def moreK:List Mat→List KT
 | []=>[]
 | m :: r=>(4,[44]) :: (matK m++moreK r)
def matsK:List Mat→List KT
 | []=>[]
 | m :: r=>matK m++moreK r
def selK (ms:List Mat):List KT:=(4,[123]) :: (matsK ms++[(4,[125])])
def valK (v:Int):List KT:=(if v < 0 then [(4,[45])] else [])++[(2,fixU v.natAbs)]
def leafK (n:Nod):List KT:=(1,aggs.getD n.agg.toNat []) :: (4,[40]) :: (selK n.sel++(4,[91]) :: (2,fmtS n.window) :: (4,[93]) :: (4,[41]) :: (4,cmps.getD n.cmp.toNat []) :: valK n.value)
def txtT (ns:List Nod):Nat→Nat→Int→List KT
 | 0,_,_=>[]
 | f + 1, e, least => match ns[e]? with
   | none=>[]
   | some n =>
     let s:=if n.kind=0 then leafK n
      else if n.kind=3 then (1,notS) :: txtT ns f n.left.toNat 2
      else if n.kind=1 then txtT ns f n.left.toNat 1++(1,wordO 1) :: txtT ns f n.right.toNat 2
      else if n.kind=2 then txtT ns f n.left.toNat 0++(1,wordO 0) :: txtT ns f n.right.toNat 1
      else []
     if strongI n.kind < least then (4,[40]) :: (s++[(4,[41])]) else s
def At (ts:List Tok) (a:Nat) (K:List KT):Prop:=∀ (i:Nat) x,K[i]?=some x→∃ t,ts[a+i]?=some t∧kt t=x
theorem At.head {ts a x K} (h:At ts a (x :: K)):∃ t,ts[a]?=some t∧kt t=x:=h 0 x rfl
theorem At.tail {ts a x K} (h:At ts a (x :: K)):At ts (a+1) K:=fun i y hy=>by
 have:=h (i+1) y (by simpa using hy)
 rwa [show a+(i+1)=a+1+i by omega] at this
theorem At.left {ts a K L} (h:At ts a (K++L)):At ts a K:=fun i y hy=>h i y (by rw [List.getElem?_append_left (List.getElem?_eq_some_iff.1 hy).1,hy])
theorem At.right {ts a K L} (h:At ts a (K++L)):At ts (a+K.length) L:=fun i y hy=>by
 have:=h (K.length+i) y (by rw [List.getElem?_append_right (by omega),Nat.add_sub_cancel_left,hy])
 rwa [← Nat.add_assoc] at this
theorem At.isT {ts a x K} (h:At ts a (x :: K)) (k:Int) (s:List UInt8):Vi.isT ts a k s=(x.1 == k && x.2 == s):=by
 obtain ⟨t,h1,h2⟩:=h.head
 unfold Vi.isT
 rw [h1]
 subst h2
 rfl
theorem At.tok {ts a K} {k:Int} {s:List UInt8} (h:At ts a ((k,s) :: K)):tokK ts k a=some s:=by
 obtain ⟨t,h1,h2⟩:=h.head
 simp only [kt,Prod.mk.injEq] at h2
 unfold tokK
 rw [h1]
 simp [h2]
theorem At.sgn {ts a K} {s:List UInt8} (h:At ts a ((4,s) :: K)):signO ts s a=some (a+1):=by
 unfold signO
 rw [h.isT];simp
theorem ops_at {o:Int} (h:o=0∨o=1∨o=2):opS o∈opsL∧(idxS opsL (opS o):Int)=o:=by
 rcases h with rfl | rfl | rfl<;>decide
theorem At.mat {ts a K} {m:Mat} (h:At ts a (matK m++K)) (ho:m.op=0∨m.op=1∨m.op=2):matO ts a=some (m,a+3):=by
 obtain ⟨o1,o2⟩:=ops_at ho
 unfold matO
 have h0:At ts a ((1,m.name) :: (4,opS m.op) :: (3,m.value) :: K):=h
 rw [h0.tok,Option.bind_some,h0.tail.tok,Option.bind_some,if_pos o1,h0.tail.tail.tok,Option.bind_some]
 rw [show ((idxS opsL (opS m.op):Nat):Int)=m.op from o2]
theorem sel_more {ts:List Tok}:∀ (r:List Mat) (f a:Nat) (m:Mat) (acc:List Mat),At ts a (matK m++(moreK r++[(4,[125])]))→(∀ x∈m :: r,x.op=0∨x.op=1∨x.op=2)→r.length < f →
  selL ts f a acc=some (acc++m :: r,a+(matK m++moreK r).length):=by
 intro r
 induction r with
 | nil =>
   intro f a m acc h ho hf
   obtain ⟨f,rfl⟩:∃ g,f=g+1:=⟨f-1,by simp at hf;omega⟩
   unfold selL
   rw [h.mat (ho m (by simp)),Option.bind_some]
   have hr:=h.right
   simp only
   rw [show a+(matK m).length=a+3 from rfl] at hr
   have hn:Vi.isT ts (a+3) 4 [44]=false:=by rw [At.isT (x:=(4,[125])) (K:=[]) (by simpa [moreK] using hr)];decide
   rw [if_neg (by simp [hn])]
   simp [matK,moreK]
 | cons x r ih =>
   intro f a m acc h ho hf
   obtain ⟨f,rfl⟩:∃ g,f=g+1:=⟨f-1,by simp at hf;omega⟩
   unfold selL
   rw [h.mat (ho m (by simp)),Option.bind_some]
   have hr:=h.right
   rw [show a+(matK m).length=a+3 from rfl] at hr
   simp only [moreK,List.cons_append] at hr
   simp only
   have hc:Vi.isT ts (a+3) 4 [44]=true:=by rw [hr.isT];decide
   rw [if_pos hc]
   have ht:=hr.tail
   rw [List.append_assoc] at ht
   rw [ih f (a+3+1) x (acc++[m]) ht (fun y hy=>ho y (List.mem_cons_of_mem _ hy)) (by simp at hf;omega)]
   simp [matK,moreK]
   omega
theorem may_op {ms:List Mat} (h:mayMats ms=true):∀ m∈ms,m.op=0∨m.op=1∨m.op=2:=by
 intro m hm
 unfold mayMats at h
 simp only [Bool.and_eq_true,List.all_eq_true] at h
 have:=h.1 m hm
 unfold Mat.ok at this
 simp only [Bool.and_eq_true,Bool.or_eq_true,beq_iff_eq] at this
 have:=this.1.1
 omega
theorem At.sel {ts a K} {ms:List Mat} (h:At ts a (selK ms++K)) (hm:mayMats ms=true) (hf:ms.length≤ts.length):selO ts a=some (ms,a+(selK ms).length):=by
 have h0:At ts a ((4,[123]) :: (matsK ms++[(4,[125])]++K)):=h
 unfold selO
 rw [h0.sgn,Option.bind_some]
 have h1:=h0.tail
 cases ms with
 | nil =>
   have:Vi.isT ts (a+1) 4 [125]=true:=by rw [At.isT (x:=(4,[125])) (K:=K) h1];decide
   rw [if_pos this]
   simp [selK,matsK]
 | cons m r =>
   have hx:At ts (a+1) ((1,m.name) :: ((4,opS m.op) :: (3,m.value) :: (moreK r++[(4,[125])]++K))):=by simpa [matsK,matK] using h1
   have hn:Vi.isT ts (a+1) 4 [125]=false:=by rw [hx.isT];rfl
   rw [if_neg (by simp [hn])]
   have h2:At ts (a+1) (matK m++(moreK r++[(4,[125])])):=by
    have:At ts (a+1) ((matK m++(moreK r++[(4,[125])]))++K):=by simpa [matsK] using h1
    exact this.left
   rw [sel_more r (ts.length+1) (a+1) m [] h2 (may_op hm) (by simp at hf;omega),Option.bind_some]
   have h3:At ts (a+1+(matK m++moreK r).length) ((4,[125]) :: K):=by
    have:At ts (a+1) ((matK m++moreK r)++((4,[125]) :: K)):=by simpa [matsK] using h1
    exact this.right
   simp only [List.nil_append,selE,h3.sgn,Option.bind_some,hm,if_true,Option.map_some]
   simp [selK,matsK]
   omega
structure Num (n:Nod):Prop where
 win:atoF (fmtS n.window)=some n.window
 val:parF ((if n.value < 0 then [45] else [])++fixU n.value.natAbs)=(n.value,0)
theorem aggs_ok:∀ i,i < 6→aggs.getD i []∈aggs∧idxS aggs (aggs.getD i [])=i:=by decide
theorem cmps_ok:∀ i,i < 6→cmps.getD i []∈cmps∧idxS cmps (cmps.getD i [])=i:=by decide
theorem At.leaf {ts a K} {n:Nod} (h:At ts a (leafK n++K)) (hk:n.kind=0) (hp:n.plain=true) (hn:Num n):cmpO ts a=some (n,a+(leafK n).length):=by
 unfold Nod.plain at hp
 simp only [Bool.and_eq_true,decide_eq_true_eq,beq_iff_eq] at hp
 obtain ⟨⟨⟨⟨⟨⟨⟨p1,p2⟩,p3⟩,p4⟩,p5⟩,p6⟩,p7⟩,p8⟩:=hp
 obtain ⟨a1,a2⟩:=aggs_ok n.agg.toNat (by omega)
 obtain ⟨c1,c2⟩:=cmps_ok n.cmp.toNat (by omega)
 have h0:At ts a ((1,aggs.getD n.agg.toNat []) :: (4,[40]) :: (selK n.sel++((4,[91]) :: (2,fmtS n.window) :: (4,[93]) :: (4,[41]) :: (4,cmps.getD n.cmp.toNat []) :: (valK n.value++K)))):=by
  simpa [leafK] using h
 have h1:=h0.tail.tail
 have h2:=h1.right
 generalize hb:a+1+1+(selK n.sel).length=b at h2
 have hsl:n.sel.length≤ts.length:=by
  have hml:∀ r:List Mat,r.length≤(moreK r).length:=by
   intro r;induction r with
   | nil=>simp
   | cons x r ih=>simp [moreK];omega
  have:n.sel.length≤(selK n.sel).length:=by
   cases hs:n.sel with
   | nil=>simp
   | cons x r=>have:=hml r;simp [selK,matsK,matK];omega
  obtain ⟨t,ht,_⟩:=h2.head
  have:=(List.getElem?_eq_some_iff.1 ht).1
  omega
 have e1:oneO ts 1 aggs a=some (a+1):=by unfold oneO;rw [h0.tok,Option.bind_some,if_pos a1]
 have e2:txtK ts 1 a=aggs.getD n.agg.toNat []:=by unfold txtK;rw [h0.tok];rfl
 have h3:=h2.tail
 have h4:=h3.tail
 have h5:=h4.tail
 have h6:=h5.tail
 have h7:=h6.tail
 have e3:winO ts (b+1)=some (n.window,b+1+1):=by
  unfold winO
  rw [h3.tok,Option.bind_some,hn.win,Option.bind_some,if_pos ⟨p3,p4⟩]
 have e4:oneO ts 4 cmps (b+1+1+1+1)=some (b+1+1+1+1+1):=by unfold oneO;rw [h6.tok,Option.bind_some,if_pos c1]
 have e5:txtK ts 4 (b+1+1+1+1)=cmps.getD n.cmp.toNat []:=by unfold txtK;rw [h6.tok];rfl
 have e6:valO ts (b+1+1+1+1+1)=some (n.value,b+1+1+1+1+1+(valK n.value).length):=by
  unfold valO
  by_cases hv:n.value < 0
  · have hx:At ts (b+1+1+1+1+1) ((4,[45]) :: (2,fixU n.value.natAbs) :: K):=by simpa [valK,hv] using h7
    have ht:Vi.isT ts (b+1+1+1+1+1) 4 [45]=true:=by rw [hx.isT];decide
    have hval:=hn.val
    rw [if_pos hv] at hval
    simp only [takO,ht,if_true,valP]
    rw [hx.tail.tok,Option.bind_some,hval]
    simp [valK,hv]
  · have hx:At ts (b+1+1+1+1+1) ((2,fixU n.value.natAbs) :: K):=by simpa [valK,hv] using h7
    have ht:Vi.isT ts (b+1+1+1+1+1) 4 [45]=false:=by rw [hx.isT];rfl
    have hval:=hn.val
    rw [if_neg hv] at hval
    simp only [takO,ht,Bool.false_eq_true,if_false,valP]
    rw [hx.tok,Option.bind_some,hval]
    simp [valK,hv]
 unfold cmpO
 rw [e1,Option.bind_some,h0.tail.sgn,Option.bind_some,h1.sel p2 hsl,Option.bind_some]
 simp only [hb]
 rw [h2.sgn,Option.bind_some,e3,Option.bind_some]
 simp only
 rw [h4.sgn,Option.bind_some,h5.sgn,Option.bind_some,e4,Option.bind_some,e6,Option.bind_some,e2,e5,a2,c2]
 have u1:UInt8.ofNat n.agg.toNat=n.agg:=by simp
 have u2:UInt8.ofNat n.cmp.toNat=n.cmp:=by simp
 rw [u1,u2]
 congr 2
 · obtain ⟨k,ag,se,wi,cm,va,le,ri⟩:=n
   simp only at hk p7 p8
   subst hk p7 p8
   rfl
 · simp [leafK]
   omega
end Go.Vi
namespace Go.Vi
open Go Go.Proofs
def PI (ts:List Tok) (ns:List Nod) (a s e X:Nat):Prop:=isT ts (a+X) 1 (wordO 1)=false→∀ F r,strO ts F 10 (a+X) (ns.take (e+1))=some r→∃ F',strO ts F' 0 a (ns.take s)=some r
def PII (ts:List Tok) (ns:List Nod) (a s e X:Nat):Prop:=∀ F r,strO ts F 11 (a+X) (ns.take (e+1))=some r→∃ F',strO ts F' 1 a (ns.take s)=some r
def PIII (ts:List Tok) (ns:List Nod) (a s e X:Nat):Prop:=∃ F',strO ts F' 2 a (ns.take s)=some (some (ns.take (e+1),a+X))
theorem str_stop {ts:List Tok} {k b:Nat} {l:List Nod} (hk:k < 2) (h:isT ts b 1 (wordO k)=false):strO ts 1 (k+10) b l=some (some (l,b)):=by
 unfold strO
 rw [if_neg (by omega),if_neg (by omega),Nat.add_sub_cancel,if_neg (by simp [h])]
theorem str_then {ts:List Tok} {k a b F G:Nat} {l l':List Nod} {r:Option (List Nod × Nat)} (hk:k < 2) (h1:strO ts F (k+1) a l=some (some (l',b))) (h2:strO ts G (k+10) b l'=some r):strO ts (max F G+1) k a l=some r:=by
 have e1:=strO_mono _ (max F G) _ _ _ _ (by omega) h1
 have e2:=strO_mono _ (max F G) _ _ _ _ (by omega) h2
 unfold strO
 rw [if_neg (by omega),if_pos hk,e1,Option.bind_some]
 exact e2
theorem str_op {ts:List Tok} {k b c F G:Nat} {l l':List Nod} {r:Option (List Nod × Nat)} (hk:k < 2) (hw:isT ts b 1 (wordO k)=true) (h1:strO ts F (k+1) (b+1) l=some (some (l',c)))
  (h2:strO ts G (k+10) c (l'++[opN (kindK k) ((l.length:Int)-1) ((l'.length:Int)-1)])=some r):strO ts (max F G+1) (k+10) b l=some r:=by
 have e1:=strO_mono _ (max F G) _ _ _ _ (by omega) h1
 have e2:=strO_mono _ (max F G) _ _ _ _ (by omega) h2
 unfold strO
 rw [if_neg (by omega),if_neg (by omega),Nat.add_sub_cancel,if_pos hw,e1,Option.bind_some]
 exact e2
theorem PIII.two {ts ns a s e X} (h:PIII ts ns a s e X):PII ts ns a s e X:=by
 obtain ⟨F,h⟩:=h
 exact fun G r h2=>⟨_,str_then (k:=1) (by omega) h h2⟩
theorem PII.one {ts ns a s e X} (h:PII ts ns a s e X):PI ts ns a s e X:=by
 intro hn F r h2
 obtain ⟨F',h'⟩:=h 1 _ (str_stop (k:=1) (by omega) hn)
 exact ⟨_,str_then (k:=0) (by omega) h' h2⟩
theorem void_eq {n:Nod} {k:UInt8} {l r:Int} (hk:n.kind=k) (hv:n.void=true) (hl:n.left=l) (hr:n.right=r):n=opN k l r:=by
 obtain ⟨kd,ag,se,wi,cm,va,le,ri⟩:=n
 unfold Nod.void at hv
 simp only [Bool.and_eq_true,beq_iff_eq] at hv hk hl hr
 obtain ⟨⟨⟨⟨v1,v2⟩,v3⟩,v4⟩,v5⟩:=hv
 have a0:ag=0:=kind_of (by rw [v1];rfl)
 have c0:cm=0:=kind_of (by rw [v4];rfl)
 have s0:se=[]:=List.eq_nil_of_length_eq_zero (by omega)
 subst hk hl hr a0 c0 s0 v3 v5
 rfl
theorem strong_nn (k:UInt8):0≤strongI k:=by unfold strongI;split<;>(try split)<;>(try split)<;>(try split)<;>omega
theorem txtT_one {ns:List Nod} {f e:Nat} {n:Nod} (hn:ns[e]?=some n) (least:Int):txtT ns (f+1) e least=if strongI n.kind < least then (4,[40]) :: (txtT ns (f+1) e 0++[(4,[41])]) else txtT ns (f+1) e 0:=by
 have h0:=strong_nn n.kind
 have hz:¬ strongI n.kind < 0:=by omega
 simp only [txtT,hn,if_neg hz]
theorem paren3 {ts:List Tok} {ns:List Nod} {a s e:Nat} {B:List KT} (h:At ts a ((4,[40]) :: (B++[(4,[41])]))) (hp:PI ts ns (a+1) s e B.length):PIII ts ns a s e (B.length+2):=by
 have hc:=h.tail.right
 have h1:isT ts (a+1+B.length) 1 (wordO 1)=false:=by rw [hc.isT];rfl
 have h0:isT ts (a+1+B.length) 1 (wordO 0)=false:=by rw [hc.isT];rfl
 obtain ⟨F',h'⟩:=hp h1 1 _ (str_stop (k:=0) (by omega) h0)
 have:=str_paren (a:=a) h' (by rw [h.isT];rfl) (by rw [hc.isT];rfl)
 exact ⟨_,this.trans (by rw [show a+1+B.length+1=a+(B.length+2) by omega])⟩
theorem aggs_not:∀ i,i < 6→(aggs.getD i [] == notS)=false:=by decide
theorem take_one {ns:List Nod} {e:Nat} {n:Nod} (h:ns[e]?=some n):ns.take (e+1)=ns.take e++[n]:=by rw [List.take_add_one,h];rfl
theorem take_len {ns:List Nod} {e:Nat} (h:e < ns.length):(ns.take (e+1)).length=e+1:=by rw [List.length_take];omega
structure Rd3 (ts:List Tok) (ns:List Nod) (f a s e:Nat) (n:Nod):Prop where
 one:PI ts ns a s e (txtT ns (f+1) e 0).length
 two:n.kind≠2→PII ts ns a s e (txtT ns (f+1) e 0).length
 three:n.kind=0∨n.kind=3→PIII ts ns a s e (txtT ns (f+1) e 0).length
theorem strong_of {k:UInt8} (h:k=0∨k=1∨k=2∨k=3):(strongI k < 1↔k=2)∧(strongI k < 2↔k=1∨k=2):=by
 rcases h with rfl | rfl | rfl | rfl<;>decide
theorem Cond.kind {ns s e} (h:Cond ns s e):∃ n,ns[e]?=some n∧(n.kind=0∨n.kind=1∨n.kind=2∨n.kind=3):=by
 cases h with
 | cmp _ n h k=>exact ⟨n,h,.inl k⟩
 | neg _ _ n h k=>exact ⟨n,h,.inr (.inr (.inr k))⟩
 | two _ _ _ n h k=>exact ⟨n,h,by rcases k with k | k<;>simp [k]⟩
theorem rd_least {ts:List Tok} {ns:List Nod} {f s e:Nat} (hc:Cond ns s e) (ih:∀ a n,ns[e]?=some n→At ts a (txtT ns (f+1) e 0)→Rd3 ts ns f a s e n) {a:Nat} (least:Int) (h:At ts a (txtT ns (f+1) e least)) :
  (least=0→PI ts ns a s e (txtT ns (f+1) e least).length)∧(least=1→PII ts ns a s e (txtT ns (f+1) e least).length)∧(least=2→PIII ts ns a s e (txtT ns (f+1) e least).length):=by
 obtain ⟨n,hn,hk⟩:=hc.kind
 obtain ⟨s1,s2⟩:=strong_of hk
 rw [txtT_one hn least] at h ⊢
 by_cases hs:strongI n.kind < least
 · rw [if_pos hs] at h ⊢
   have h3:=paren3 (s:=s) (e:=e) h (ih (a+1) n hn h.tail.left).one
   have e1:((4,[40]) :: (txtT ns (f+1) e 0++[(4,[41])]):List KT).length=(txtT ns (f+1) e 0).length+2:=by simp
   rw [e1]
   exact ⟨fun _=>h3.two.one,fun _=>h3.two,fun _=>h3⟩
 · rw [if_neg hs] at h ⊢
   have h3:=ih a n hn h
   refine ⟨fun _=>h3.one,fun hl=>h3.two ?_,fun hl=>h3.three ?_⟩
   · subst hl;exact fun k=>hs (s1.2 k)
   · subst hl
     rcases hk with k | k | k | k
     · exact .inl k
     · exact absurd (s2.2 (.inl k)) hs
     · exact absurd (s2.2 (.inr k)) hs
     · exact .inr k
theorem cond_read {ts:List Tok} {ns:List Nod} (hnum:∀ n∈ns,n.kind=0→Num n) {s e:Nat} (hc:Cond ns s e):∀ (f a:Nat) n,e < f+1→ns[e]?=some n→At ts a (txtT ns (f+1) e 0)→Rd3 ts ns f a s e n:=by
 induction hc with
 | cmp e n h1 h2 h3 =>
   intro f a n' hf hn h
   rw [h1] at hn;cases hn
   have hb:txtT ns (f+1) e 0=leafK n:=by
    have hz:¬ strongI n.kind < 0:=by have:=strong_nn n.kind;omega
    rw [h2] at hz
    simp only [txtT,h1,h2,if_true,if_neg hz]
   have hl:At ts a (leafK n++[]):=by rw [List.append_nil,← hb];exact h
   have hcm:=hl.leaf h2 h3 (hnum n (List.mem_of_getElem? h1) h2)
   have hag:n.agg.toNat < 6:=by
    unfold Nod.plain at h3
    simp only [Bool.and_eq_true,decide_eq_true_eq] at h3
    have:=h3.1.1.1.1.1.1.1
    omega
   have h3':PIII ts ns a e e (txtT ns (f+1) e 0).length:=by
    refine ⟨1,?_⟩
    have hx:At ts a ((1,aggs.getD n.agg.toNat []) :: (leafK n).tail):=by simpa [leafK] using hl
    have n1:isT ts a 1 notS=false:=by rw [hx.isT];simp only [aggs_not _ hag,Bool.and_false]
    have n2:isT ts a 4 [40]=false:=by rw [hx.isT];rfl
    unfold strO
    rw [if_pos rfl,if_neg (by simp [n1]),if_neg (by simp [n2]),hcm,Option.map_some,take_one h1,hb]
   exact ⟨h3'.two.one,fun _=>h3'.two,fun _=>h3'⟩
 | neg s e n h1 h2 h3 h4 h5 hc ih =>
   intro f a n' hf hn h
   rw [h1] at hn;cases hn
   obtain ⟨f,rfl⟩:∃ g,f=g+1:=⟨f-1,by omega⟩
   have hz:¬ strongI n.kind < 0:=by have:=strong_nn n.kind;omega
   have hlt:=hc.lt
   have hb:txtT ns (f+1+1) (e+1) 0=(1,notS) :: txtT ns (f+1) e 2:=by
    rw [txtT]
    simp only [h1,h2,h4,Int.toNat_natCast]
    rfl
   rw [hb] at h
   obtain ⟨F,h'⟩:=(rd_least hc (fun a n hn h=>ih f a n (by omega) hn h) 2 h.tail).2.2 rfl
   have h3':PIII ts ns a s (e+1) (txtT ns (f+1+1) (e+1) 0).length:=by
    refine ⟨F+1,(str_neg2 h' (by rw [h.isT];rfl)).trans ?_⟩
    rw [take_one h1,take_len hlt,void_eq h2 h3 h4 h5,hb,List.length_cons,show ((e+1:Nat):Int)-1=e by omega,show a+((txtT ns (f+1) e 2).length+1)=a+1+(txtT ns (f+1) e 2).length by omega]
   exact ⟨h3'.two.one,fun _=>h3'.two,fun _=>h3'⟩
 | two s r e n h1 h2 h3 h4 h5 hc1 hc2 ih1 ih2 =>
   intro f a n' hf hn h
   rw [h1] at hn;cases hn
   obtain ⟨f,rfl⟩:∃ g,f=g+1:=⟨f-1,by omega⟩
   have hz:¬ strongI n.kind < 0:=by have:=strong_nn n.kind;omega
   have hle:=hc2.le
   have l1:=hc1.lt
   have l2:=hc2.lt
   rcases h2 with h2 | h2
   · have hb:txtT ns (f+1+1) (e+1) 0=txtT ns (f+1) r 1++(1,wordO 1) :: txtT ns (f+1) e 2:=by
      rw [txtT]
      simp only [h1,h2,h4,h5,Int.toNat_natCast]
      rfl
     rw [hb] at h
     have hw:=h.right
     obtain ⟨F,h'⟩:=(rd_least hc2 (fun a n hn h=>ih2 f a n (by omega) hn h) 2 hw.tail).2.2 rfl
     have hL:=(rd_least hc1 (fun a n hn h=>ih1 f a n (by omega) hn h) 1 h.left).2.1 rfl
     have h2':PII ts ns a s (e+1) (txtT ns (f+1+1) (e+1) 0).length:=by
      intro G r0 hG
      refine hL _ r0 (str_op (k:=1) (G:=G) (by omega) (by rw [hw.isT];rfl) h' ?_)
      rw [take_len l1,take_len l2,show ((r+1:Nat):Int)-1=r by omega,show ((e+1:Nat):Int)-1=e by omega,show opN (kindK 1) (r:Int) (e:Int)=n from (void_eq h2 h3 h4 h5).symm,← take_one h1]
      rw [hb] at hG
      simp only [List.length_append,List.length_cons] at hG
      rw [show a+(txtT ns (f+1) r 1).length+1+(txtT ns (f+1) e 2).length=a+((txtT ns (f+1) r 1).length+((txtT ns (f+1) e 2).length+1)) by omega]
      exact hG
     exact ⟨h2'.one,fun _=>h2',fun k=>by rcases k with k | k<;>(rw [h2] at k;cases k)⟩
   · have hb:txtT ns (f+1+1) (e+1) 0=txtT ns (f+1) r 0++(1,wordO 0) :: txtT ns (f+1) e 1:=by
      rw [txtT]
      simp only [h1,h2,h4,h5,Int.toNat_natCast]
      rfl
     rw [hb] at h
     have hw:=h.right
     have hR:=(rd_least hc2 (fun a n hn h=>ih2 f a n (by omega) hn h) 1 hw.tail).2.1 rfl
     have hL:=(rd_least hc1 (fun a n hn h=>ih1 f a n (by omega) hn h) 0 h.left).1 rfl
     have h1':PI ts ns a s (e+1) (txtT ns (f+1+1) (e+1) 0).length:=by
      intro hnx G r0 hG
      rw [hb] at hG hnx
      simp only [List.length_append,List.length_cons] at hG hnx
      rw [show a+((txtT ns (f+1) r 0).length+((txtT ns (f+1) e 1).length+1))=a+(txtT ns (f+1) r 0).length+1+(txtT ns (f+1) e 1).length by omega] at hG hnx
      obtain ⟨F,h'⟩:=hR 1 _ (str_stop (k:=1) (by omega) hnx)
      refine hL (by rw [hw.isT];rfl) _ r0 (str_op (k:=0) (G:=G) (by omega) (by rw [hw.isT];rfl) h' ?_)
      rw [take_len l1,take_len l2,show ((r+1:Nat):Int)-1=r by omega,show ((e+1:Nat):Int)-1=e by omega,show opN (kindK 0) (r:Int) (e:Int)=n from (void_eq h2 h3 h4 h5).symm,← take_one h1]
      exact hG
     exact ⟨h1',fun k=>absurd h2 k,fun k=>by rcases k with k | k<;>(rw [h2] at k;cases k)⟩
theorem con_read {ts:List Tok} {ns:List Nod} (hr:right ns=true) (hnum:∀ n∈ns,n.kind=0→Num n) (hk:ts.map kt=txtT ns ns.length (ns.length-1) 0):conO ts 0=some (ns,ts.length):=by
 obtain ⟨h1,h2,hc⟩:=right_cond hr
 obtain ⟨f,hf⟩:∃ f,ns.length=f+1:=⟨ns.length-1,by omega⟩
 obtain ⟨n,hn,_⟩:=hc.kind
 have hat:At ts 0 (txtT ns (f+1) (ns.length-1) 0):=by
  rw [← hf,← hk]
  intro i x hx
  rw [List.getElem?_map] at hx
  obtain ⟨t,e1,e2⟩:=Option.map_eq_some_iff.1 hx
  exact ⟨t,by rw [Nat.zero_add];exact e1,e2⟩
 have h3:=(cond_read hnum hc f 0 n (by omega) hn hat).one
 have hl:(txtT ns (f+1) (ns.length-1) 0).length=ts.length:=by rw [← hf,← hk];simp
 rw [hl] at h3
 obtain ⟨F,h'⟩:=h3 (isT_out (by omega) _ _) 1 _ (str_stop (k:=0) (by omega) (isT_out (by omega) _ _))
 rw [List.take_zero,show ns.length-1+1=ns.length by omega,List.take_length,Nat.zero_add] at h'
 exact conO_of h'
end Go.Vi
namespace Go.Vi
open Go Go.Proofs
theorem natF_snoc:∀ (l:List UInt8) (x:Int) (d:UInt8),natF x (l++[d])=10*natF x l+((d.toNat:Int)-48):=by
 intro l
 induction l with
 | nil=>intro x d;rfl
 | cons b r ih=>intro x d;simp only [List.cons_append,natF,ih]
theorem natF_app:∀ (l r:List UInt8) (x:Int),natF x (l++r)=natF (natF x l) r:=by
 intro l
 induction l with
 | nil=>intro r x;rfl
 | cons b l ih=>intro r x;simp only [List.cons_append,natF,ih]
theorem dig_val {u:Nat}:((UInt8.ofNat (48+u % 10)).toNat:Int)=48+(u % 10:Nat)∧isDig (UInt8.ofNat (48+u % 10))=true:=by
 have h:(UInt8.ofNat (48+u % 10)).toNat=48+u % 10:=by simp only [UInt8.toNat_ofNat'];omega
 refine ⟨by rw [h];omega,?_⟩
 unfold isDig
 rw [h]
 simp
 omega
theorem digs_dig:∀ (k u:Nat),∀ b∈digs k u,isDig b=true:=by
 intro k
 induction k with
 | zero=>intro u b hb;cases hb
 | succ k ih =>
   intro u b hb
   rw [digs] at hb
   rcases List.mem_append.1 hb with hb | hb
   · exact ih _ b hb
   · simp only [List.mem_singleton] at hb;subst hb;exact dig_val.2
theorem digs_val:∀ (k u:Nat),natF 0 (digs k u)=(u % 10 ^ k:Nat):=by
 intro k
 induction k with
 | zero=>intro u;simp [digs,natF,Nat.mod_one]
 | succ k ih =>
   intro u
   rw [digs,natF_snoc,ih,dig_val.1,Nat.pow_succ,Nat.mul_comm,Nat.mod_mul]
   omega
theorem natS_dig (n:Nat):∀ b∈natS n,isDig b=true:=by
 unfold natS
 split
 · intro b hb;simp only [List.mem_singleton] at hb;subst hb;decide
 · exact digs_dig _ _
theorem natS_ne {n:Nat} (h:n < 2 ^ 64):natS n≠[]:=by
 unfold natS
 split
 · simp
 · intro e
   have:=congrArg List.length e
   rw [digs_len] at this
   have:=(ndig_ok (by omega) h).1
   simp at *
   omega
theorem natS_val {n:Nat} (h:n < 2 ^ 64):natF 0 (natS n)=n:=by
 unfold natS
 split
 · rename_i h0;subst h0;rfl
 · rw [digs_val,Nat.mod_eq_of_lt (ndig_ok (by omega) h).2.2.1]
theorem all_dig {l:List UInt8} (h:∀ b∈l,isDig b=true):l.all isDig=true:=List.all_eq_true.2 h
theorem ato_nat {n:Nat} (h:n≤1000):atoF (natS n)=some (n:Int):=by
 unfold atoF
 rw [natS_val (by omega),if_pos ⟨natS_ne (by omega),all_dig (natS_dig n),by omega⟩]
theorem natF_le:∀ (l:List UInt8) (x:Int),(∀ b∈l,isDig b=true)→0≤x→x≤natF x l:=by
 intro l
 induction l with
 | nil=>intro x _ _;exact Int.le_refl _
 | cons d r ih =>
   intro x hd h0
   have h:=hd d (by simp)
   simp only [isDig,Bool.and_eq_true,decide_eq_true_eq] at h
   have:=ih (10*x+((d.toNat:Int)-48)) (fun b hb=>hd b (by simp [hb])) (by omega)
   simp only [natF]
   omega
theorem digF_nat:∀ (l:List UInt8) (x:Int),(∀ b∈l,isDig b=true)→0≤x→natF x l≤maxFix→digF x l=natF x l:=by
 intro l
 induction l with
 | nil=>intro x _ _ _;rfl
 | cons d r ih =>
   intro x hd h0 hm
   have h:=hd d (by simp)
   simp only [isDig,Bool.and_eq_true,decide_eq_true_eq] at h
   simp only [natF] at hm
   have hr:∀ b∈r,isDig b=true:=fun b hb=>hd b (by simp [hb])
   have h1:=natF_le r (10*x+((d.toNat:Int)-48)) hr (by omega)
   have hmx:maxFix=4611686018427387903:=rfl
   have h2:¬ x > (maxFix-((d.toNat:Int)-48)).tdiv 10:=by
    rw [Int.tdiv_eq_ediv_of_nonneg (by omega)]
    omega
   rw [digF,if_neg h2]
   exact ih _ hr (by omega) hm
theorem scanF_dig:∀ (d r:List UInt8) (i:Nat) (pt:Int),(∀ b∈d,isDig b=true)→scanF (d++r) i pt=scanF r (i+d.length) pt:=by
 intro d
 induction d with
 | nil=>intro r i pt _;rfl
 | cons b d ih =>
   intro r i pt h
   rw [List.cons_append,scanF,if_pos (h b (by simp)),ih r (i+1) pt (fun c hc=>h c (by simp [hc]))]
   rw [List.length_cons,Nat.add_assoc,Nat.add_comm 1]
def fracS (m:Nat):List UInt8:=trimR 48 ((natS (1000+m)).drop 1)
theorem frac_ok:∀ m,m < 1000→(m≠0→fracS m≠[])∧(fracS m).all isDig=true∧(fracS m).length≤3∧fracS m++List.replicate (3-(fracS m).length) 48=[UInt8.ofNat (48+m / 100 % 10),UInt8.ofNat (48+m / 10 % 10),UInt8.ofNat (48+m % 10)]:=by
 decide +kernel
theorem fixU_eq (n:Nat):fixU n=natS (n / 1000)++if n % 1000=0 then [] else 46 :: fracS (n % 1000):=rfl
theorem cut_fixU {n:Nat} (h:n < 2 ^ 63):∃ t,cutF (fixU n)=(natS (n / 1000),t,true)∧(∀ b∈t,isDig b=true)∧t++List.replicate (3-t.length) 48=[UInt8.ofNat (48+n % 1000 / 100 % 10),UInt8.ofNat (48+n % 1000 / 10 % 10),UInt8.ofNat (48+n % 1000 % 10)]:=by
 obtain ⟨f1,f2,f3,f4⟩:=frac_ok (n % 1000) (by omega)
 have hq:=natS_dig (n / 1000)
 have hne:=natS_ne (n:=n / 1000) (by omega)
 rw [fixU_eq]
 by_cases hm:n % 1000=0
 · refine ⟨[],?_,by simp,?_⟩
   · rw [if_pos hm,List.append_nil]
     have hs:=scanF_dig (natS (n / 1000)) [] 0 (-1) hq
     rw [List.append_nil] at hs
     unfold cutF
     rw [hs]
     have he:(natS (n / 1000)).isEmpty=false:=by simpa using hne
     simp [scanF,cutT,he]
   · rw [hm];decide
 · refine ⟨fracS (n % 1000),?_,fun b hb=>List.all_eq_true.1 f2 b hb,f4⟩
   rw [if_neg hm]
   have hs:=scanF_dig (natS (n / 1000)) (46 :: fracS (n % 1000)) 0 (-1) hq
   have hs2:=scanF_dig (fracS (n % 1000)) [] ((natS (n / 1000)).length+1) ((natS (n / 1000)).length:Int) (fun b hb=>List.all_eq_true.1 f2 b hb)
   rw [List.append_nil] at hs2
   have h46:isDig 46=false:=by decide
   have hs3:scanF (46 :: fracS (n % 1000)) (0+(natS (n / 1000)).length) (-1)=(((natS (n / 1000)).length:Int),true):=by
    rw [scanF,if_neg (by simp [h46]),if_pos (by decide),Nat.zero_add,hs2]
    rfl
   have he:(natS (n / 1000)++46 :: fracS (n % 1000)).isEmpty=false:=by simp
   unfold cutF
   rw [hs,hs3,he]
   unfold cutT
   rw [if_neg (by omega)]
   have e1:(natS (n / 1000)++46 :: fracS (n % 1000)).take ((natS (n / 1000)).length:Int).toNat=natS (n / 1000):=by rw [Int.toNat_natCast,List.take_left]
   have e2:(natS (n / 1000)++46 :: fracS (n % 1000)).drop (((natS (n / 1000)).length:Int).toNat+1)=fracS (n % 1000):=by
    rw [Int.toNat_natCast,← List.drop_drop,List.drop_left];rfl
   simp only [e1,e2]
   simp [hne,f1 hm,f3]
theorem fixU_head (n:Nat) (h:n < 2 ^ 63):∃ b r,fixU n=b :: r∧isDig b=true:=by
 have hne:=natS_ne (n:=n / 1000) (by omega)
 have hd:=natS_dig (n / 1000)
 rw [fixU_eq]
 cases hq:natS (n / 1000) with
 | nil=>exact absurd hq hne
 | cons b r=>rw [hq] at hd;exact ⟨b,_,rfl,hd b (by simp)⟩
theorem par_fix {v:Int} (hv:sat v=v):parF ((if v < 0 then [45] else [])++fixU v.natAbs)=(v,0):=by
 have hmx:maxFix=4611686018427387903:=rfl
 have hr:-maxFix≤v∧v≤maxFix:=by unfold sat at hv;omega
 have hn:v.natAbs < 2 ^ 63:=by omega
 obtain ⟨b,r,hb1,hb2⟩:=fixU_head v.natAbs hn
 have hb45:¬ b=45:=by rintro rfl;revert hb2;decide
 have hpre:cutPre ((if v < 0 then [45] else [])++fixU v.natAbs) [45]=fixU v.natAbs∧hasPre ((if v < 0 then [45] else [])++fixU v.natAbs) [45]=decide (v < 0):=by
  by_cases h0:v < 0
  · rw [if_pos h0]
    have:hasPre ([45]++fixU v.natAbs) [45]=true:=by simp [hasPre]
    refine ⟨?_,by rw [this];simp [h0]⟩
    unfold cutPre
    rw [if_pos this];simp
  · rw [if_neg h0,List.nil_append,hb1]
    have:hasPre (b :: r) [45]=false:=by simp [hasPre,hb45]
    refine ⟨?_,by rw [this];simp [h0]⟩
    unfold cutPre
    rw [this];simp
 obtain ⟨t,c1,c2,c3⟩:=cut_fixU hn
 unfold parF
 rw [hpre.1,hpre.2,c1]
 simp only [if_true]
 have hdig:∀ x∈natS (v.natAbs / 1000)++t++List.replicate (3-t.length) 48,isDig x=true:=by
  intro x hx
  rcases List.mem_append.1 hx with hx | hx
  · rcases List.mem_append.1 hx with hx | hx
    · exact natS_dig _ x hx
    · exact c2 x hx
  · rw [List.eq_of_mem_replicate hx];decide
 have hval:natF 0 (natS (v.natAbs / 1000)++t++List.replicate (3-t.length) 48)=v.natAbs:=by
  rw [List.append_assoc,c3,natF_app,natS_val (by omega)]
  simp only [natF,dig_val.1]
  omega
 rw [digF_nat _ 0 hdig (by omega) (by rw [hval];omega),hval]
 by_cases h0:v < 0
 · simp [h0];omega
 · simp [h0];omega
theorem plain_num {n:Nod} (hp:n.plain=true):Num n:=by
 unfold Nod.plain at hp
 simp only [Bool.and_eq_true,decide_eq_true_eq,beq_iff_eq] at hp
 obtain ⟨⟨⟨⟨⟨⟨⟨p1,p2⟩,p3⟩,p4⟩,p5⟩,p6⟩,p7⟩,p8⟩:=hp
 refine ⟨?_,par_fix p6⟩
 obtain ⟨w,hw⟩:∃ w:Nat,n.window=w:=⟨n.window.toNat,by omega⟩
 rw [hw,fmtS_nat]
 exact ato_nat (by omega)
theorem fixS_eq {v:Int} (hv:sat v=v):fixS v=(if v < 0 then [45] else [])++fixU v.natAbs:=by
 unfold fixS
 rw [hv,fmtS_nat,fmtS_nat,List.append_assoc]
 rfl
end Go.Vi
namespace Go.Vi
open Go Go.Proofs Go.Proofs.Tryz
theorem pow_one {m a b:Nat} (h1:10 ^ (a-1)≤m) (h2:m < 10 ^ b) (ha:1≤a):a≤b:=by
 rcases Nat.lt_or_ge b a with h | h
 · have:=Nat.pow_le_pow_right (show 0 < 10 by omega) (show b≤a-1 by omega)
   omega
 · exact h
theorem natS_small {n:Nat} (h:n < 10):natS n=[UInt8.ofNat (48+n % 10)]:=by
 have:∀ n,n < 10→natS n=[UInt8.ofNat (48+n % 10)]:=by decide +kernel
 exact this n h
theorem natS_step {n:Nat} (h:10≤n) (h64:n < 2 ^ 64):natS n=natS (n / 10)++[UInt8.ofNat (48+n % 10)]:=by
 obtain ⟨a1,a2,a3,a4⟩:=ndig_ok (n:=n) (by omega) h64
 obtain ⟨b1,b2,b3,b4⟩:=ndig_ok (n:=n / 10) (by omega) (by omega)
 obtain ⟨k,hk⟩:∃ k,ndig n=k+1:=⟨ndig n-1,by omega⟩
 rw [hk] at a3 a4
 simp only [Nat.add_sub_cancel] at a4
 have h1:1≤k:=by
  rcases Nat.eq_zero_or_pos k with h0 | h0
  · rw [h0] at a3;omega
  · exact h0
 have c1:n / 10 < 10 ^ k:=by
  rw [Nat.pow_succ] at a3
  exact Nat.div_lt_of_lt_mul (by omega)
 have c2:10 ^ (k-1)≤n / 10:=by
  obtain ⟨j,rfl⟩:∃ j,k=j+1:=⟨k-1,by omega⟩
  rw [Nat.pow_succ] at a4
  simp only [Nat.add_sub_cancel]
  exact (Nat.le_div_iff_mul_le (by omega)).2 a4
 have e:ndig (n / 10)=k:=Nat.le_antisymm (pow_one b4 c1 b1) (pow_one c2 b3 h1)
 unfold natS
 rw [if_neg (by omega),if_neg (by omega),hk,e,digs]
def preS (n:Nat) (s:List UInt8):List UInt8:=if n=0 then (if s=[] then [48] else s) else natS n++s
theorem preS_step {n:Nat} {s:List UInt8} (h:0 < n∨s=[]) (h64:n < 2 ^ 64):preS n s=preS (n / 10) (UInt8.ofNat (48+n % 10) :: s):=by
 unfold preS
 by_cases h0:n=0
 · subst h0
   have hs : s = [] := by rcases h with h | h; · omega
                          · exact h
   subst hs
   rfl
 · rw [if_neg h0]
   by_cases h10:n < 10
   · rw [if_pos (by omega),natS_small h10]
     simp
   · rw [if_neg (by omega),natS_step (by omega) h64]
     simp
theorem one_byte {H:AHeap} (b:UInt8):convV prog (H++[.cells [byt b] 5]) 45 9 (.slice (some ⟨H.length,0,some 1⟩) 1 1)=some (str [b]) :=
 convBytes (cs:=[byt b]) (l:=[b]) (by simp) (by simp [bcells]) rfl (by simp)
theorem byte_lit (H:AHeap) (b:UInt8):sliceLit prog H 45 1 [(0,byt b)] (.slice (some ⟨H.length,0,some 1⟩) 1 1) (H++[.cells [byt b] 5]) :=
 sliceLit1 (l:=[byt b]) (tbs45 _ 1 _) (by simp) rfl (by decide)
theorem ofNat_dig {d:Nat} (h:d < 10):Value.int .u8 (48+(d:Int))=byt (UInt8.ofNat (48+d)):=by
 have:(UInt8.ofNat (48+d)).toNat=48+d:=UInt8.toNat_ofNat_of_lt' (by show 48+d < 256;omega)
 unfold byt
 rw [this]
 rfl
theorem wrap_dig {d:Nat} (h:d < 10):IntKind.u8.wrap (48+(d:Int))=48+(d:Int):=by unfold IntKind.wrap;simp [IntKind.bits,IntKind.signed];omega
theorem dec_loop {H:AHeap} {k:Value→AHeap→Prop} (w:List UInt8) (hk:∀ K,Pre H K→k (str w) K) :
  ∀ (d n:Nat) (s:List UInt8) (K:AHeap) (z A B C D E F G e f g i j l o p q r t u v:Value),Pre H K→n < 10 ^ d→n < 2 ^ 63→s.length+d≤2 ^ 40→w=preS n s→L39x0 (d+2) k [i64 n,z,A,str s,B,C,D,E,F,G,e,f,g,i,j,l,o,p,q,r,t,u,v] K:=by
 have step:∀ (m n:Nat) (s:List UInt8) (K:AHeap) (z A B C D E F G e f g i j l o p q r t u v:Value),Pre H K→n < 2 ^ 63→s.length≤2 ^ 40→(0 < n∨s=[]) →
   (∀ (K:AHeap) (z A B C D E F G e f g i j l o p q r t u v:Value),Pre H K→L39x0 m k [i64 ((n / 10:Nat):Int),z,A,str (UInt8.ofNat (48+n % 10) :: s),B,C,D,E,F,G,e,f,g,i,j,l,o,p,q,r,t,u,v] K)→L39x0 (m+1) k [i64 n,z,A,str s,B,C,D,E,F,G,e,f,g,i,j,l,o,p,q,r,t,u,v] K:=by
  intro m n s K z A B C D E F G e f g i j l o p q r t u v hp h63 hsl hc hn
  rw [L39x0q]
  have hr:=fun (H:AHeap) x y=>remL (P:=prog) (H:=H) (T:=3) (x:=x) (y:=y) (k:=.i64) (a:=n) (c:=10) (n:=10) rfl (by omega)
  have hq:=fun (H:AHeap) x y=>quoL (P:=prog) (H:=H) (T:=3) (x:=x) (y:=y) (k:=.i64) (a:=n) (c:=10) (n:=10) rfl (by omega) (wrap_i64 (by omega) (by omega))
  have en:((n % 10:Nat):Int)=(n:Int) % 10:=by omega
  have eq:((n / 10:Nat):Int)=(n:Int) / 10:=by omega
  have wa:IntKind.i64.wrap (48+(n:Int) % 10)=48+(n:Int) % 10:=wrap_i64 (by omega) (by omega)
  have wd:IntKind.u8.wrap (48+(n:Int) % 10)=48+(n:Int) % 10:=by rw [← en];exact wrap_dig (by omega)
  have ed:Value.int .u8 (48+(n:Int) % 10)=byt (UInt8.ofNat (48+n % 10)):=by rw [← en];exact ofNat_dig (by omega)
  simp only [en,eq] at hr hq
  have hcat:=fun (H:AHeap) x y=>aBin_str (P:=prog) (H:=H) (T:=9) (x:=x) (y:=y) (a:=[UInt8.ofNat (48+n % 10)]) (b:=s) (by simp;omega)
  have body:∀ (z A B C D E F G e f g i j l o p q r t u v:Value),L39x0 m k [i64 ((n / 10:Nat):Int),z,A,str (UInt8.ofNat (48+n % 10) :: s),B,C,D,E,F,G,e,f,g,i,j,l,o,p,q,r,t,u,v] (K++[.cells [byt (UInt8.ofNat (48+n % 10))] 5]):=by
   intro z A B C D E F G e f g i j l o p q r t u v
   exact hn _ _ _ _ _ _ _ _ _ _ _ _ _ _ _ _ _ _ _ _ _ _ (hp.trans (.app _ _))
  by_cases h0:0 < n
  · simp [h0,hr,wa,wd]
    rw [ed]
    refine bndL_lit (byte_lit K _) ?_
    dsimp only
    refine bnd_of (one_byte _) ?_
    dsimp only
    refine bnd_of (hcat _ _ _) ?_
    dsimp only
    refine bnd_of (hq _ _ _) ?_
    exact body _ _ _ _ _ _ _ _ _ _ _ _ _ _ _ _ _ _ _ _ _
  · obtain rfl:s=[]:=by
     rcases hc with h | h
     · exact absurd h h0
     · exact h
    simp [h0,hr,wa,wd]
    rw [ed]
    refine bndL_lit (byte_lit K _) ?_
    dsimp only
    refine bnd_of (one_byte _) ?_
    dsimp only
    refine bnd_of (hcat _ _ _) ?_
    dsimp only
    refine bnd_of (hq _ _ _) ?_
    exact body _ _ _ _ _ _ _ _ _ _ _ _ _ _ _ _ _ _ _ _ _
 have stop:∀ (m:Nat) (s:List UInt8) (K:AHeap) (z A B C D E F G e f g i j l o p q r t u v:Value),Pre H K→s≠[]→w=s→L39x0 (m+1) k [i64 (0:Nat),z,A,str s,B,C,D,E,F,G,e,f,g,i,j,l,o,p,q,r,t,u,v] K:=by
  intro m s K z A B C D E F G e f g i j l o p q r t u v hp hs hw
  subst hw
  rw [L39x0q]
  simp [hs]
  exact hk K hp
 intro d
 induction d with
 | zero =>
   intro n s K z A B C D E F G e f g i j l o p q r t u v hp hn h63 hsl hw
   obtain rfl:n=0:=by simpa using hn
   by_cases hs:s=[]
   · subst hs
     refine step (0+1) 0 [] K _ _ _ _ _ _ _ _ _ _ _ _ _ _ _ _ _ _ _ _ _ hp (by omega) (by simp) (.inr rfl) ?_
     intro K2 z A B C D E F G e f g i j l o p q r t u v hp2
     exact stop 0 _ K2 _ _ _ _ _ _ _ _ _ _ _ _ _ _ _ _ _ _ _ _ _ hp2 (by simp) (by rw [hw];rfl)
   · exact stop (0+1) s K _ _ _ _ _ _ _ _ _ _ _ _ _ _ _ _ _ _ _ _ _ hp hs (by rw [hw];unfold preS;rw [if_pos rfl,if_neg hs])
 | succ d ih =>
   intro n s K z A B C D E F G e f g i j l o p q r t u v hp hn h63 hsl hw
   by_cases hc:0 < n∨s=[]
   · refine step (d+2) n s K _ _ _ _ _ _ _ _ _ _ _ _ _ _ _ _ _ _ _ _ _ hp h63 (by omega) hc ?_
     intro K2 z A B C D E F G e f g i j l o p q r t u v hp2
     refine ih (n / 10) _ K2 _ _ _ _ _ _ _ _ _ _ _ _ _ _ _ _ _ _ _ _ _ hp2 (by rw [Nat.pow_succ] at hn;omega) (by omega) (by simp;omega) ?_
     rw [hw,preS_step hc (by omega)]
   · have h0:n=0:=by
      rcases Nat.eq_zero_or_pos n with h | h
      · exact h
      · exact absurd (.inl h) hc
     have hs:s≠[]:=fun h=>hc (.inr h)
     subst h0
     exact stop (d+1+1) s K _ _ _ _ _ _ _ _ _ _ _ _ _ _ _ _ _ _ _ _ _ hp hs (by rw [hw];unfold preS;rw [if_pos rfl,if_neg hs])
def decR (x:Int):List UInt8:=if x < 0 then [45] else natS x.toNat
theorem r_decimal (H:AHeap) {x:Int} (hx:x < 2 ^ 63):ACalls prog 39 [i64 x] H (str (decR x)) H:=by
 refine acalls_pure MixT func39 (by decide) rfl ?_
 rw [d39]
 unfold decR
 by_cases h0:x < 0
 · rw [if_pos h0]
   simp [h0]
 · rw [if_neg h0]
   obtain ⟨n,rfl⟩:∃ n:Nat,x=n:=⟨x.toNat,by omega⟩
   simp [h0]
   have hw:natS n=preS n []:=by
    unfold preS
    by_cases h:n=0
    · subst h;rfl
    · rw [if_neg h,List.append_nil]
   exact ⟨20+2,dec_loop (H:=H) (natS n) (fun K ⟨X,hX⟩=>⟨rfl,X,hX⟩) 20 n [] H _ _ _ _ _ _ _ _ _ _ _ _ _ _ _ _ _ _ _ _ _ (.refl _) (by omega) (by omega) (by simp) hw⟩
end Go.Vi
namespace Go.Vi
open Go Go.Proofs
inductive Lk:List UInt8→List KT→Prop
 | nil (s:List UInt8):skp s=s.length→Lk s []
 | cons (s:List UInt8) (K:List KT):skp s < s.length→(oneF (s.drop (skp s)) 0).2≠0→Lk ((s.drop (skp s)).drop (oneF (s.drop (skp s)) 0).2) K→Lk s (kt (oneF (s.drop (skp s)) 0).1 :: K)
theorem oneF_at (s:List UInt8) (a:Nat):oneF s a=(⟨(oneF s 0).1.kind,(oneF s 0).1.text,a⟩,(oneF s 0).2):=by
 cases s with
 | nil=>rfl
 | cons b r=>unfold oneF;simp only;split<;>(try split)<;>(try split)<;>rfl
theorem Lk.lx {s K} (h:Lk s K) (l:List UInt8):∀ a,a≤l.length→s=l.drop a→∃ T,Lx l (skipN l a) T∧T.map kt=K:=by
 induction h with
 | nil s h =>
   intro a ha hs
   refine ⟨[],.nil _ ?_,rfl⟩
   rw [skipN_eq,← hs,h,hs,List.length_drop]
   omega
 | cons s K h h0 _ ih =>
   intro a ha hs
   have hb:l.drop (skipN l a)=s.drop (skp s):=by rw [skipN_eq,← hs,← List.drop_drop,← hs]
   have hlt:skipN l a < l.length:=by
    rw [skipN_eq,← hs]
    have:s.length=l.length-a:=by rw [hs,List.length_drop]
    omega
   have hle:=oneF_le (s.drop (skp s)) 0
   have hlen:(s.drop (skp s)).length=l.length-skipN l a:=by rw [← hb,List.length_drop]
   obtain ⟨T,t1,t2⟩:=ih (skipN l a+(oneF (s.drop (skp s)) 0).2) (by omega) (by rw [← hb,List.drop_drop])
   have ho:=oneF_at (l.drop (skipN l a)) (skipN l a)
   rw [hb] at ho
   refine ⟨⟨(oneF (s.drop (skp s)) 0).1.kind,(oneF (s.drop (skp s)) 0).1.text,↑(skipN l a)⟩ :: T,.tok (n:=(oneF (s.drop (skp s)) 0).2) hlt (by rw [hb];exact ho) h0 t1,by simp [t2,kt]⟩
theorem Lk.tok {t r:List UInt8} {k:Int} {x:List UInt8} {K:List KT} (hs:skp (t++r)=0) (ho:oneF (t++r) 0=(⟨k,x,0⟩,t.length)) (hne:t≠[]) (h:Lk r K):Lk (t++r) ((k,x) :: K):=by
 have hl:0 < t.length:=List.length_pos_iff.2 hne
 have hd:(t++r).drop (skp (t++r))=t++r:=by rw [hs];rfl
 have:=Lk.cons (t++r) K (by rw [hs];simp;omega) (by rw [hd,ho];simp only;omega) (by rw [hd,ho];simp only;rw [List.drop_left];exact h)
 rw [hd,ho] at this
 exact this
theorem skp_zero {b:UInt8} {r:List UInt8} (h1:hasB blanks b=false) (h2:((b.toNat:Int) == 35)=false):skp (b :: r)=0:=by rw [skp_cons];simp [h1,h2]
theorem low_skp {b:UInt8} (h:isLow b=true):hasB blanks b=false∧((b.toNat:Int) == 35)=false:=by
 have hb:=b.toNat_lt
 have:∀ n,n < 256→isLow (UInt8.ofNat n)=true→hasB blanks (UInt8.ofNat n)=false∧(((UInt8.ofNat n).toNat:Int) == 35)=false:=by decide +kernel
 have e:UInt8.ofNat b.toNat=b:=by simp
 have:=this b.toNat hb
 rw [e] at this
 exact this h
theorem dig_skp {b:UInt8} (h:isDig b=true):hasB blanks b=false∧((b.toNat:Int) == 35)=false∧isLow b=false:=by
 have hb:=b.toNat_lt
 have:∀ n,n < 256→isDig (UInt8.ofNat n)=true→hasB blanks (UInt8.ofNat n)=false∧(((UInt8.ofNat n).toNat:Int) == 35)=false∧isLow (UInt8.ofNat n)=false:=by decide +kernel
 have e:UInt8.ofNat b.toNat=b:=by simp
 have:=this b.toNat hb
 rw [e] at this
 exact this h
def Off (p:UInt8→Bool) (r:List UInt8):Prop:=∀ b r',r=b :: r'→p b=false
theorem runF_all {p:UInt8→Bool} {s r:List UInt8} (h:∀ b∈s,p b=true) (hr:Off p r):runF p (s++r)=s.length:=by
 unfold runF
 rw [List.takeWhile_append_of_pos h]
 have:r.takeWhile p=[]:=by
  cases r with
  | nil=>rfl
  | cons b r'=>rw [List.takeWhile_cons,hr b r' rfl];rfl
 rw [this,List.append_nil]
theorem Lk.word {s r:List UInt8} {K:List KT} {b:UInt8} {t:List UInt8} (hs:s=b :: t) (hb:isLow b=true) (hm:∀ x∈s,isMark x=true) (hr:Off isMark r) (h:Lk r K):Lk (s++r) ((1,s) :: K):=by
 obtain ⟨h1,h2⟩:=low_skp hb
 have hrun:=runF_all hm hr
 refine .tok ?_ ?_ (by rw [hs];simp) h
 · rw [hs];exact skp_zero h1 h2
 · rw [hs] at hrun ⊢
   simp only [List.cons_append] at hrun ⊢
   simp only [oneF,hb,if_true,hrun]
   (rw [← List.cons_append,List.take_left]<;>rfl)
theorem Lk.sign {c:UInt8} {r:List UInt8} {K:List KT} (h1:hasB blanks c=false∧((c.toNat:Int) == 35)=false∧isLow c=false∧isDig c=false∧((c.toNat:Int) == 34)=false∧hasB sigs2 c=true) (hc:hasB sigs1 c=false∨Off (fun b=>(b.toNat:Int) == 61) r) (h:Lk r K) :
  Lk (c :: r) ((4,[c]) :: K):=by
 obtain ⟨a1,a2,a3,a4,a5,a6⟩:=h1
 refine Lk.tok (t:=[c]) (r:=r) (skp_zero a1 a2) ?_ (by simp) h
 have hs:signF (c :: r)=1:=by
  rw [signF]
  rcases hc with hc | hc
  · simp [hc,a6]
  · cases r with
    | nil=>simp [a6]
    | cons b r'=>have:=hc b r' rfl;simp only at this;simp [this,a6]
 show oneF (c :: r) 0=_
 simp [oneF,a3,a4,a5,hs]
theorem Lk.sign2 {c:UInt8} {r:List UInt8} {K:List KT} (h1:hasB blanks c=false∧((c.toNat:Int) == 35)=false∧isLow c=false∧isDig c=false∧((c.toNat:Int) == 34)=false∧hasB sigs1 c=true) (h:Lk r K) :
  Lk (c :: 61 :: r) ((4,[c,61]) :: K):=by
 obtain ⟨a1,a2,a3,a4,a5,a6⟩:=h1
 refine Lk.tok (t:=[c,61]) (r:=r) (skp_zero a1 a2) ?_ (by simp) h
 have hs:signF (c :: 61 :: r)=2:=by rw [signF];simp [a6]
 show oneF (c :: 61 :: r) 0=_
 simp [oneF,a3,a4,a5,hs]
theorem textF_esc:∀ (v r acc:List UInt8) (c:Nat),(∀ b∈v,isSign b=true)→textF (v.flatMap escB++34 :: r) acc c=(acc++v,c+(v.flatMap escB).length+1):=by
 intro v
 induction v with
 | nil=>intro r acc c _;rw [List.flatMap_nil,List.nil_append,textF_cons,if_pos (by decide),if_pos (by decide)];simp
 | cons b v ih =>
   intro r acc c hv
   have hb:=hv b (by simp)
   have hr:∀ x∈v,isSign x=true:=fun x hx=>hv x (by simp [hx])
   rw [List.flatMap_cons]
   by_cases he:b=34∨b=92
   · have e0:escB b=[92,b]:=if_pos he
     rw [e0]
     have hor:((b.toNat:Int) == 34 || (b.toNat:Int) == 92)=true:=by rcases he with rfl | rfl<;>decide
     simp only [List.cons_append,List.nil_append]
     rw [textF_cons,if_pos (by decide),if_neg (by decide),if_pos (by decide)]
     simp only [hor,if_true]
     rw [ih r (acc++[b]) (c+2) hr]
     simp
     omega
   · have e0:escB b=[b]:=if_neg he
     rw [e0]
     have h34:¬ ((b.toNat:Int) == 34)=true:=fun e=>he (.inl (kind_of (m:=34) e))
     have h92:¬ ((b.toNat:Int) == 92)=true:=fun e=>he (.inr (kind_of (m:=92) e))
     simp only [List.cons_append,List.nil_append]
     rw [textF_cons,if_pos hb,if_neg h34,if_neg h92,ih r (acc++[b]) (c+1) hr]
     simp
     omega
theorem Lk.text {v r:List UInt8} {K:List KT} (hv:∀ b∈v,isSign b=true) (h:Lk r K):Lk (quoteS v++r) ((3,v) :: K):=by
 have e:quoteS v++r=34 :: (v.flatMap escB++34 :: r):=by simp [quoteS]
 have hl:(quoteS v).length=1+(v.flatMap escB).length+1:=by simp [quoteS];omega
 refine .tok ?_ ?_ (by simp [quoteS]) h
 · rw [e];exact skp_zero (by decide) (by decide)
 · rw [e,hl]
   have:=textF_esc v r [] 1 hv
   have a1:isLow 34=false:=by decide
   have a2:isDig 34=false:=by decide
   simp only [oneF,a1,a2,Bool.false_eq_true,if_false,this,List.nil_append]
   rfl
theorem Lk.num {s r:List UInt8} {K:List KT} {b:UInt8} {t:List UInt8} (hs:s=b :: t) (hb:isDig b=true) (hn:numLen (s++r)=s.length) (h:Lk r K):Lk (s++r) ((2,s) :: K):=by
 obtain ⟨h1,h2,h3⟩:=dig_skp hb
 refine .tok ?_ ?_ (by rw [hs];simp) h
 · rw [hs];exact skp_zero h1 h2
 · rw [hs] at hn ⊢
   simp only [List.cons_append] at hn ⊢
   simp only [oneF,h3,hb,if_true,hn,Bool.false_eq_true,if_false]
   (rw [← List.cons_append,List.take_left]<;>rfl)
theorem numLen_int {d r:List UInt8} (hd:∀ b∈d,isDig b=true) (h1:Off isDig r) (h2:Off (fun b=>(b.toNat:Int) == 46) r):numLen (d++r)=d.length:=by
 unfold numLen
 rw [runF_all hd h1]
 have:((d++r)[d.length]?).any (fun e=>(e.toNat:Int) == 46)=false:=by
  rw [List.getElem?_append_right (Nat.le_refl _),Nat.sub_self]
  cases r with
  | nil=>rfl
  | cons b r'=>exact h2 b r' rfl
 rw [if_neg (by simp [this])]
theorem numLen_frac {d t r:List UInt8} (hd:∀ b∈d,isDig b=true) (ht:∀ b∈t,isDig b=true) (hne:t≠[]) (h1:Off isDig r):numLen (d++46 :: t++r)=(d++46 :: t).length:=by
 have ho:Off isDig (46 :: t++r):=by intro b r' e;simp at e;rw [← e.1];decide
 have hl:0 < t.length:=List.length_pos_iff.2 hne
 rw [List.append_assoc]
 unfold numLen
 rw [runF_all hd ho]
 have e1:(d++(46 :: t++r))[d.length]?=some 46:=by rw [List.getElem?_append_right (Nat.le_refl _),Nat.sub_self];rfl
 have e2:(d++(46 :: t++r)).drop (d.length+1)=t++r:=by rw [← List.drop_drop,List.drop_left];rfl
 rw [e1,e2,runF_all ht h1]
 have:((some (46:UInt8)).any (fun e=>(e.toNat:Int) == 46) && decide (t.length > 0))=true:=by simp;exact hl
 rw [if_pos this]
 simp
 omega
def Del (r:List UInt8):Prop:=∀ b r',r=b :: r'→b=32∨b=41
theorem Del.dig {r} (h:Del r):Off isDig r:=fun b r' e=>by rcases h b r' e with rfl | rfl<;>decide
theorem Del.pt {r} (h:Del r):Off (fun b=>(b.toNat:Int) == 46) r:=fun b r' e=>by rcases h b r' e with rfl | rfl<;>decide
theorem Lk.val {r:List UInt8} {K:List KT} {v:Int} (hv:sat v=v) (hr:Del r) (h:Lk r K):Lk (fixS v++r) (valK v++K):=by
 have hmx:maxFix=4611686018427387903:=rfl
 have hrg:-maxFix≤v∧v≤maxFix:=by unfold sat at hv;omega
 obtain ⟨b,t,hb1,hb2⟩:=fixU_head v.natAbs (by omega)
 have hu:Lk (fixU v.natAbs++r) ((2,fixU v.natAbs) :: K):=by
  refine .num hb1 hb2 ?_ h
  rw [fixU_eq]
  by_cases hm:v.natAbs % 1000=0
  · rw [if_pos hm,List.append_nil]
    exact numLen_int (natS_dig _) hr.dig hr.pt
  · rw [if_neg hm]
    obtain ⟨f1,f2,_⟩:=frac_ok (v.natAbs % 1000) (by omega)
    exact numLen_frac (natS_dig _) (fun b hb=>List.all_eq_true.1 f2 b hb) (f1 hm) hr.dig
 rw [fixS_eq hv]
 unfold valK
 by_cases h0:v < 0
 · rw [if_pos h0,if_pos h0]
   exact Lk.sign (by decide) (.inl (by decide)) hu
 · rw [if_neg h0,if_neg h0]
   exact hu
theorem name_low {l:List UInt8} (h:mayName l=true):∃ b t,l=b :: t∧isLow b=true∧∀ x∈l,isMark x=true:=by
 unfold mayName at h
 simp only [Bool.and_eq_true,decide_eq_true_eq] at h
 cases l with
 | nil=>simp at h
 | cons b t=>exact ⟨b,t,rfl,by simpa using h.1.2,fun x hx=>List.all_eq_true.1 h.2 x hx⟩
theorem Lk.mat {m:Mat} {r:List UInt8} {K:List KT} (hm:m.ok=true) (h:Lk r K):Lk (matS m++r) (matK m++K):=by
 unfold Mat.ok at hm
 simp only [Bool.and_eq_true,Bool.or_eq_true,beq_iff_eq] at hm
 obtain ⟨⟨ho,hn⟩,hv⟩:=hm
 obtain ⟨b,t,n1,n2,n3⟩:=name_low hn
 have hvs:∀ x∈m.value,isSign x=true:=by
  unfold mayM at hv
  simp only [Bool.or_eq_true,decide_eq_true_eq] at hv
  rcases hv with hv | hv
  · rw [hv];intro x hx;cases hx
  · unfold mayValue at hv
    simp only [Bool.and_eq_true] at hv
    exact fun x hx=>List.all_eq_true.1 hv.2 x hx
 have ht:=Lk.text hvs h
 have e:matS m++r=m.name++(sgnS m.op++(quoteS m.value++r)):=by simp [matS]
 have hop:sgnS m.op=opS m.op:=by
  unfold sgnS isOp
  rcases ho with (ho | ho) | ho<;>simp [ho]
 rw [e,hop]
 show Lk _ ((1,m.name) :: (4,opS m.op) :: (3,m.value) :: K)
 rcases ho with (ho | ho) | ho
 · rw [ho]
   exact .word n1 n2 n3 (by intro b r' e;simp [opS] at e;rw [← e.1];decide) (Lk.sign (c:=61) (by decide) (.inr (by intro b r' e;simp [quoteS] at e;rw [← e.1];decide)) ht)
 · rw [ho]
   exact .word n1 n2 n3 (by intro b r' e;simp [opS] at e;rw [← e.1];decide) (Lk.sign2 (c:=33) (by decide) ht)
 · rw [ho]
   exact .word n1 n2 n3 (by intro b r' e;simp [opS] at e;rw [← e.1];decide) (Lk.sign2 (c:=94) (by decide) ht)
theorem Lk.more:∀ (ms:List Mat) {r:List UInt8} {K:List KT},(∀ m∈ms,m.ok=true)→Lk r K→Lk (((ms.map matS).map ([44]++·)).flatten++r) (moreK ms++K):=by
 intro ms
 induction ms with
 | nil=>intro r K _ h;exact h
 | cons m ms ih =>
   intro r K hm h
   have h2:=ih (fun x hx=>hm x (by simp [hx])) h
   have h3:=Lk.mat (hm m (by simp)) h2
   have:=Lk.sign (c:=44) (by decide) (.inl (by decide)) h3
   simpa [moreK] using this
theorem Lk.sel {ms:List Mat} {r:List UInt8} {K:List KT} (hm:mayMats ms=true) (h:Lk r K):Lk (selS ms++r) (selK ms++K):=by
 unfold mayMats at hm
 simp only [Bool.and_eq_true,List.all_eq_true] at hm
 have h1:=Lk.sign (c:=125) (by decide) (.inl (by decide)) h
 cases ms with
 | nil =>
   have:=Lk.sign (c:=123) (by decide) (.inl (by decide)) h1
   simpa [selS,joinS,selK,matsK] using this
 | cons m ms =>
   have h2:=Lk.more ms (fun x hx=>hm.1 x (by simp [hx])) h1
   have h3:=Lk.mat (hm.1 m (by simp)) h2
   have:=Lk.sign (c:=123) (by decide) (.inl (by decide)) h3
   simpa [selS,joinS,selK,matsK] using this
theorem aggs_low:∀ i,i < 6→∃ b t,aggs.getD i []=b :: t∧isLow b=true∧(aggs.getD i []).all isMark=true:=by
 intro i hi
 match i,hi with
 | 0,_=>exact ⟨_,_,rfl,by decide,by decide⟩
 | 1,_=>exact ⟨_,_,rfl,by decide,by decide⟩
 | 2,_=>exact ⟨_,_,rfl,by decide,by decide⟩
 | 3,_=>exact ⟨_,_,rfl,by decide,by decide⟩
 | 4,_=>exact ⟨_,_,rfl,by decide,by decide⟩
 | 5,_=>exact ⟨_,_,rfl,by decide,by decide⟩
theorem Del.sp (r:List UInt8):Del (32 :: r):=by intro b r' e;simp at e;exact .inl e.1.symm
theorem Del.cl (r:List UInt8):Del (41 :: r):=by intro b r' e;simp at e;exact .inr e.1.symm
theorem off_sp (r:List UInt8):Off isMark (32 :: r):=by intro b r' e;simp at e;rw [← e.1];decide
theorem cond_num {ns:List Nod} {s e:Nat} (hc:Cond ns s e):∀ i,s≤i→i≤e→∀ n,ns[i]?=some n→n.kind=0→Num n:=by
 induction hc with
 | cmp e n h1 h2 h3 =>
   intro i a b m hm _
   obtain rfl:i=e:=by omega
   rw [h1] at hm;cases hm
   exact plain_num h3
 | neg s e n h1 h2 h3 h4 h5 _ ih =>
   intro i a b m hm hk
   by_cases hi:i=e+1
   · subst hi;rw [h1] at hm;cases hm;rw [h2] at hk;cases hk
   · exact ih i a (by omega) m hm hk
 | two s r e n h1 h2 h3 h4 h5 _ _ ih1 ih2 =>
   intro i a b m hm hk
   by_cases hi:i=e+1
   · subst hi;rw [h1] at hm;cases hm;rcases h2 with h2 | h2<;>(rw [h2] at hk;cases hk)
   · by_cases hr:i≤r
     · exact ih1 i a hr m hm hk
     · exact ih2 i (by omega) (by omega) m hm hk
end Go.Vi
namespace Go.Vi
open Go Go.Proofs
def partF:List UInt8→Bool→Nat
 | [],_=>0
 | [b],q=>if q=false∧b=32 then 0 else if b=92 then 2 else 1
 | b :: c :: r,q=>if q=false∧b=32 then 0 else if b=92 then 2+partF r q else if b=34 then 1+partF (c :: r) (!q) else 1+partF (c :: r) q
theorem partF_cons (b:UInt8) (r:List UInt8) (q:Bool):partF (b :: r) q=if q=false∧b=32 then 0 else if b=92 then 2+partF (r.drop 1) q else if b=34 then 1+partF r (!q) else 1+partF r q:=by
 cases r with
 | nil =>
   have e:partF [b] q=if q=false∧b=32 then 0 else if b=92 then 2 else 1:=by rw [partF]
   rw [e]
   split
   · rfl
   · split
     · rfl
     · split<;>rfl
 | cons c r=>rw [partF];rfl
def partsF:Nat→List UInt8→List Tok × Int
 | 0,_=>([],0)
 | f + 1, s => if s = [] then ([], 0) else if s.length < partF s false then ([], 1) else
     if (allTok (s.take (partF s false))).2.2≠0 then ([],(allTok (s.take (partF s false))).2.2) else
     if (partsF f (s.drop (partF s false+1))).2≠0 then ([],(partsF f (s.drop (partF s false+1))).2) else ((allTok (s.take (partF s false))).1++(partsF f (s.drop (partF s false+1))).1,0)
def Thr (t:List UInt8):Prop:=∀ x,partF (t++x) false=t.length+partF x false
theorem Thr.app {t u} (h:Thr t) (g:Thr u):Thr (t++u):=fun x=>by rw [List.append_assoc,h,g,List.length_append];omega
theorem thr_of {t:List UInt8} (h:∀ b∈t,b≠32∧b≠34∧b≠92):Thr t:=by
 induction t with
 | nil=>intro x;simp
 | cons b t ih =>
   intro x
   obtain ⟨h1,h2,h3⟩:=h b (by simp)
   rw [List.cons_append,partF_cons,if_neg (fun q=>h1 q.2),if_neg h3,if_neg h2,ih (fun c hc=>h c (by simp [hc])) x,List.length_cons]
   omega
theorem thr_esc:∀ (v x:List UInt8),partF (v.flatMap escB++34 :: x) true=(v.flatMap escB).length+1+partF x false:=by
 intro v
 induction v with
 | nil=>intro x;rw [List.flatMap_nil,List.nil_append,partF_cons];simp
 | cons b v ih =>
   intro x
   rw [List.flatMap_cons]
   by_cases he:b=34∨b=92
   · have e0:escB b=[92,b]:=if_pos he
     rw [e0]
     simp only [List.cons_append,List.nil_append,List.length_cons]
     rw [partF_cons,if_neg (by simp),if_pos rfl,List.drop_succ_cons,List.drop_zero,ih x]
     omega
   · have e0:escB b=[b]:=if_neg he
     rw [e0]
     simp only [List.cons_append,List.nil_append,List.length_cons]
     rw [partF_cons,if_neg (by simp),if_neg (fun e=>he (.inr e)),if_neg (fun e=>he (.inl e)),ih x]
     omega
theorem thr_quote (v:List UInt8):Thr (quoteS v):=by
 intro x
 have e:quoteS v++x=34 :: (v.flatMap escB++34 :: x):=by simp [quoteS]
 rw [e,partF_cons,if_neg (by simp),if_neg (by decide),if_pos rfl]
 simp only [Bool.not_false]
 rw [thr_esc]
 simp [quoteS]
 omega
def Clo (p:List UInt8):Prop:=∀ r,(∀ b r',r=b :: r'→b=32)→partF (p++r) false=p.length
theorem clo_nil:Clo []:=by
 intro r h
 cases r with
 | nil=>rfl
 | cons b r=>rw [List.nil_append,partF_cons,if_pos ⟨rfl,h b r rfl⟩];rfl
theorem Thr.clo {t p} (h:Thr t) (g:Clo p):Clo (t++p):=fun r hr=>by rw [List.append_assoc,h,g r hr,List.length_append]
inductive Pk:List UInt8→List KT→Nat→Prop
 | last {p K c}:Lk p K→Clo p→p.length≤c→Pk p K c
 | cons {p K s K' c c'}:Lk p K→Clo p→p.length≤c→c'≤4096→Pk s K' c'→Pk (p++32 :: s) (K++K') c
theorem Pk.mono {s K c c'} (h:Pk s K c) (hc:c≤c'):Pk s K c':=by
 cases h with
 | last h1 h2 h3=>exact .last h1 h2 (by omega)
 | cons h1 h2 h3 h4 h5=>exact .cons h1 h2 (by omega) h4 h5
theorem Pk.blank {s K c} (h:Pk s K c) (hc:c≤4096):Pk (32 :: s) K 0:=.cons (p:=[]) (K:=[]) (.nil [] rfl) clo_nil (Nat.le_refl _) hc h
theorem Pk.tok {t r:List UInt8} {x K:List KT} {c:Nat} (ht:Thr t) (hL:∀ p K y,r=p++y→Lk p K→Lk (t++p) (x++K)) (h:Pk r K c):Pk (t++r) (x++K) (c+t.length):=by
 cases h with
 | last h1 h2 h3=>exact .last (hL _ _ [] (by simp) h1) (ht.clo h2) (by simp;omega)
 | cons h1 h2 h3 h4 h5 =>
   have:=Pk.cons (hL _ _ _ rfl h1) (ht.clo h2) (c:=c+t.length) (by simp;omega) h4 h5
   simpa using this
theorem Off.pre {q:UInt8→Bool} {r p y:List UInt8} (h:Off q r) (e:r=p++y):Off q p:=fun b r' he=>h b (r'++y) (by rw [e,he];rfl)
theorem Del.pre {r p y:List UInt8} (h:Del r) (e:r=p++y):Del p:=fun b r' he=>h b (r'++y) (by rw [e,he];rfl)
theorem mark_thr {b:UInt8} (h:isMark b=true):b≠32∧b≠34∧b≠92:=by
 refine ⟨?_,?_,?_⟩<;>(rintro rfl;revert h;decide)
theorem dig_thr {b:UInt8} (h:isDig b=true):b≠32∧b≠34∧b≠92:=by
 refine ⟨?_,?_,?_⟩<;>(rintro rfl;revert h;decide)
theorem Pk.word {s r:List UInt8} {K:List KT} {c:Nat} {b:UInt8} {t:List UInt8} (hs:s=b :: t) (hb:isLow b=true) (hm:∀ x∈s,isMark x=true) (hr:Off isMark r) (h:Pk r K c):Pk (s++r) ((1,s) :: K) (c+s.length) :=
 .tok (x:=[(1,s)]) (thr_of fun b hb=>mark_thr (hm b hb)) (fun _ _ _ e h=>Lk.word hs hb hm (hr.pre e) h) h
theorem Pk.sign {c:UInt8} {r:List UInt8} {K:List KT} {n:Nat} (h1:hasB blanks c=false∧((c.toNat:Int) == 35)=false∧isLow c=false∧isDig c=false∧((c.toNat:Int) == 34)=false∧hasB sigs2 c=true) (hb:c≠32∧c≠34∧c≠92)
  (hc:hasB sigs1 c=false∨Off (fun b=>(b.toNat:Int) == 61) r) (h:Pk r K n):Pk (c :: r) ((4,[c]) :: K) (n+1) :=
 Pk.tok (t:=[c]) (x:=[(4,[c])]) (thr_of fun b h=>by simp at h;subst h;exact hb) (fun _ _ _ e h=>Lk.sign h1 (hc.imp id fun h=>h.pre e) h) h
theorem Pk.sign2 {c:UInt8} {r:List UInt8} {K:List KT} {n:Nat} (h1:hasB blanks c=false∧((c.toNat:Int) == 35)=false∧isLow c=false∧isDig c=false∧((c.toNat:Int) == 34)=false∧hasB sigs1 c=true) (hb:c≠32∧c≠34∧c≠92)
  (h:Pk r K n):Pk (c :: 61 :: r) ((4,[c,61]) :: K) (n+2) :=
 Pk.tok (t:=[c,61]) (x:=[(4,[c,61])]) (thr_of fun b h=>by simp at h;rcases h with rfl | rfl<;>first | exact hb | decide) (fun _ _ _ _ h=>Lk.sign2 h1 h) h
theorem fix_thr {v:Int} (hv:sat v=v):Thr (fixS v):=by
 have hmx:maxFix=4611686018427387903:=rfl
 have hrg:-maxFix≤v∧v≤maxFix:=by unfold sat at hv;omega
 refine thr_of fun b hb=>?_
 rw [fixS_eq hv,fixU_eq] at hb
 obtain ⟨_,f2,_⟩:=frac_ok (v.natAbs % 1000) (by omega)
 rw [List.mem_append,List.mem_append] at hb
 rcases hb with hb | hb | hb
 · split at hb
   · simp at hb;subst hb;decide
   · cases hb
 · exact dig_thr (natS_dig _ b hb)
 · split at hb
   · cases hb
   · rcases List.mem_cons.1 hb with rfl | hb
     · decide
     · exact dig_thr (List.all_eq_true.1 f2 b hb)
theorem Pk.val {r:List UInt8} {K:List KT} {v:Int} {c:Nat} (hv:sat v=v) (hr:Del r) (h:Pk r K c):Pk (fixS v++r) (valK v++K) (c+42) :=
 (Pk.tok (fix_thr hv) (fun _ _ _ e h=>Lk.val hv (hr.pre e) h) h).mono (by have:=fixS_len v;omega)
theorem mat_thr {m:Mat} (h:m.ok=true):Thr (matS m):=by
 unfold Mat.ok at h
 simp only [Bool.and_eq_true,Bool.or_eq_true,beq_iff_eq] at h
 obtain ⟨⟨_,hn⟩,_⟩:=h
 obtain ⟨_,_,_,_,n3⟩:=name_low hn
 refine ((thr_of fun b hb=>mark_thr (n3 b hb)).app (thr_of fun b hb=>?_)).app (thr_quote _)
 unfold sgnS opS at hb
 split at hb
 · split at hb
   · simp at hb;subst hb;decide
   · split at hb
     · simp at hb;rcases hb with rfl | rfl<;>decide
     · split at hb
       · simp at hb;rcases hb with rfl | rfl<;>decide
       · cases hb
 · simp at hb;subst hb;decide
theorem more_thr:∀ (ms:List Mat),(∀ m∈ms,m.ok=true)→Thr ((ms.map matS).map ([44]++·)).flatten:=by
 intro ms
 induction ms with
 | nil=>intro _ x;simp
 | cons m ms ih =>
   intro h
   have h1:=ih fun x hx=>h x (by simp [hx])
   have h2:Thr [44]:=thr_of (by decide)
   exact (h2.app (mat_thr (h m (by simp)))).app h1
theorem sel_thr {ms:List Mat} (h:mayMats ms=true):Thr (selS ms):=by
 unfold mayMats at h
 simp only [Bool.and_eq_true,List.all_eq_true] at h
 have h1:Thr [123]:=thr_of (by decide)
 have h2:Thr [125]:=thr_of (by decide)
 cases ms with
 | nil=>exact h1.app h2
 | cons m ms =>
   have h3:=((h1.app (mat_thr (h.1 m (by simp)))).app (more_thr ms fun x hx=>h.1 x (by simp [hx]))).app h2
   have e:selS (m :: ms)=[123]++matS m++((ms.map matS).map ([44]++·)).flatten++[125]:=by simp [selS,joinS]
   rw [e];exact h3
theorem Pk.sel {ms:List Mat} {r:List UInt8} {K:List KT} {c:Nat} (hm:mayMats ms=true) (h:Pk r K c):Pk (selS ms++r) (selK ms++K) (c+512) :=
 (Pk.tok (sel_thr hm) (fun _ _ _ _ h=>Lk.sel hm h) h).mono (by have:=(sel_small hm).2.2;omega)
theorem Pk.cmpS {i:Nat} (hi:i < 6) {r:List UInt8} {K:List KT} {c:Nat} (hc:c≤4096) (h:Pk r K c):Pk (cmps.getD i []++32 :: r) ((4,cmps.getD i []) :: K) 2:=by
 have hb:=h.blank hc
 have ho:Off (fun b:UInt8=>(b.toNat:Int) == 61) (32 :: r):=by intro b r' e;simp at e;rw [← e.1];decide
 match i,hi with
 | 0,_=>exact (Pk.sign (c:=60) (by decide) (by decide) (.inr ho) hb).mono (by omega)
 | 1,_=>exact Pk.sign2 (c:=60) (by decide) (by decide) hb
 | 2,_=>exact (Pk.sign (c:=62) (by decide) (by decide) (.inr ho) hb).mono (by omega)
 | 3,_=>exact Pk.sign2 (c:=62) (by decide) (by decide) hb
 | 4,_=>exact Pk.sign2 (c:=61) (by decide) (by decide) hb
 | 5,_=>exact Pk.sign2 (c:=33) (by decide) (by decide) hb
theorem Pk.leaf {n:Nod} {r:List UInt8} {K:List KT} {c:Nat} (hp:n.plain=true) (hr:Del r) (hcc:c≤4000) (h:Pk r K c):Pk (leafS n++r) (leafK n++K) 600:=by
 unfold Nod.plain at hp
 simp only [Bool.and_eq_true,decide_eq_true_eq,beq_iff_eq] at hp
 obtain ⟨⟨⟨⟨⟨⟨⟨p1,p2⟩,p3⟩,p4⟩,p5⟩,p6⟩,p7⟩,p8⟩:=hp
 obtain ⟨w,hw⟩:∃ w:Nat,n.window=w:=⟨n.window.toNat,by omega⟩
 have hwl:w≤1000:=by omega
 obtain ⟨b,t,a1,a2,a3⟩:=aggs_low n.agg.toNat (by omega)
 have a4:(aggs.getD n.agg.toNat []).length≤5:=getD_len (by decide)
 have h1:=Pk.val p6 hr h
 have h2:=Pk.cmpS (i:=n.cmp.toNat) (by omega) (by omega) h1
 have h3:=Pk.sign (c:=41) (by decide) (by decide) (.inl (by decide)) (h2.blank (by omega))
 have h4:=Pk.sign (c:=93) (by decide) (by decide) (.inl (by decide)) h3
 have hwl2:=natS_len (n:=w) (by omega)
 have h5:Pk (fmtS n.window++93 :: 41 :: 32 :: (cmps.getD n.cmp.toNat []++32 :: (fixS n.value++r))) ((2,fmtS n.window) :: (4,[93]) :: (4,[41]) :: (4,cmps.getD n.cmp.toNat []) :: (valK n.value++K)) 22:=by
  rw [hw,fmtS_nat]
  have hne:=natS_ne (n:=w) (by omega)
  have hd:=natS_dig w
  refine (Pk.tok (x:=[(2,natS w)]) (thr_of fun b hb=>dig_thr (hd b hb)) (fun p K y e h=>?_) h4).mono (by omega)
  cases hq:natS w with
  | nil=>exact absurd hq hne
  | cons b t =>
    rw [← hq]
    refine .num hq (hd b (by rw [hq];simp)) (numLen_int hd ?_ ?_) h
    · intro b r' e2;rw [e2] at e;simp at e;rw [← e.1];decide
    · intro b r' e2;rw [e2] at e;simp at e;rw [← e.1];decide
 have h6:=Pk.sign (c:=91) (by decide) (by decide) (.inl (by decide)) h5
 have h7:=Pk.sel p2 h6
 have h8:=Pk.sign (c:=40) (by decide) (by decide) (.inl (by decide)) h7
 have h9:=Pk.word a1 a2 (fun x hx=>List.all_eq_true.1 a3 x hx) (by intro b r' e;simp at e;rw [← e.1];decide) h8
 have e1:leafS n++r=aggs.getD n.agg.toNat []++40 :: (selS n.sel++91 :: (fmtS n.window++93 :: 41 :: 32 :: (cmps.getD n.cmp.toNat []++32 :: (fixS n.value++r)))):=by simp [leafS]
 have e2:leafK n++K=(1,aggs.getD n.agg.toNat []) :: (4,[40]) :: (selK n.sel++(4,[91]) :: (2,fmtS n.window) :: (4,[93]) :: (4,[41]) :: (4,cmps.getD n.cmp.toNat []) :: (valK n.value++K)):=by simp [leafK]
 rw [e1,e2]
 exact h9.mono (by omega)
theorem Pk.cond {ns:List Nod} {s e:Nat} (hc:Cond ns s e):∀ (f:Nat) (least:Int) {r:List UInt8} {K:List KT} {c:Nat},e < f→f≤40→Del r→c+f≤4000→Pk r K c→Pk (txtF ns f e least++r) (txtT ns f e least++K) (700+f):=by
 have wrap:∀ {n:Nod} {least:Int} {B:List UInt8} {T:List KT} {f:Nat},(∀ {r:List UInt8} {K:List KT} {c:Nat},Del r→c+f≤4000→Pk r K c→Pk (B++r) (T++K) (700+f))→∀ {r:List UInt8} {K:List KT} {c:Nat},Del r→c+(f+1)≤4000→Pk r K c →
   Pk ((if strongI n.kind < least then [40]++B++[41] else B)++r) ((if strongI n.kind < least then (4,[40]) :: (T++[(4,[41])]) else T)++K) (700+(f+1)):=by
  intro n least B T f hB r K c hr hcc h
  split
  · have h1:=Pk.sign (c:=41) (by decide) (by decide) (.inl (by decide)) h
    have h2:=hB (Del.cl r) (by omega) h1
    have h3:=(Pk.sign (c:=40) (by decide) (by decide) (.inl (by decide)) h2).mono (c':=700+(f+1)) (by omega)
    simpa using h3
  · exact (hB hr (by omega) h).mono (by omega)
 induction hc with
 | cmp e n h1 h2 h3 =>
   intro f least r K c hf hf4 hr hcc h
   obtain ⟨f,rfl⟩:∃ g,f=g+1:=⟨f-1,by omega⟩
   have:=wrap (n:=n) (least:=least) (B:=leafS n) (T:=leafK n) (f:=f) (fun hr hcc h=>(Pk.leaf h3 hr (by omega) h).mono (by omega)) hr hcc h
   simpa only [txtF,txtT,h1,h2,if_true] using this
 | neg s e n h1 h2 h3 h4 h5 hc ih =>
   intro f least r K c hf hf4 hr hcc h
   obtain ⟨f,rfl⟩:∃ g,f=g+1:=⟨f-1,by omega⟩
   have:=wrap (n:=n) (least:=least) (B:=[110,111,116,32]++txtF ns f e 2) (T:=(1,notS) :: txtT ns f e 2) (f:=f) (fun {r K c} hr hcc h=>by
    have h1:=ih f 2 (by omega) (by omega) hr hcc h
    have:=Pk.word (s:=[110,111,116]) rfl (by decide) (by decide) (off_sp _) (h1.blank (by omega))
    have:=this.mono (c':=700+f) (by simp;omega)
    simpa [notS] using this) hr hcc h
   have k0:¬ ((3:UInt8)=0):=by decide
   simpa only [txtF,txtT,h1,h2,h4,Int.toNat_natCast,k0,if_false,if_true] using this
 | two s r' e n h1 h2 h3 h4 h5 hc1 hc2 ih1 ih2 =>
   intro f least r K c hf hf4 hr hcc h
   obtain ⟨f,rfl⟩:∃ g,f=g+1:=⟨f-1,by omega⟩
   have hle:=hc2.le
   rcases h2 with h2 | h2
   · have:=wrap (n:=n) (least:=least) (B:=txtF ns f r' 1++[32,97,110,100,32]++txtF ns f e 2) (T:=txtT ns f r' 1++(1,wordO 1) :: txtT ns f e 2) (f:=f) (fun {r K c} hr hcc h=>by
      have g1:=ih2 f 2 (by omega) (by omega) hr hcc h
      have g2:=Pk.word (s:=[97,110,100]) rfl (by decide) (by decide) (off_sp _) (g1.blank (by omega))
      have:=ih1 f 1 (by omega) (by omega) (Del.sp _) (by omega) (g2.blank (by simp))
      simpa [wordO] using this) hr hcc h
     have k0:¬ ((1:UInt8)=0):=by decide
     have k3:¬ ((1:UInt8)=3):=by decide
     simpa only [txtF,txtT,h1,h2,h4,h5,Int.toNat_natCast,k0,k3,if_false,if_true] using this
   · have:=wrap (n:=n) (least:=least) (B:=txtF ns f r' 0++[32,111,114,32]++txtF ns f e 1) (T:=txtT ns f r' 0++(1,wordO 0) :: txtT ns f e 1) (f:=f) (fun {r K c} hr hcc h=>by
      have g1:=ih2 f 1 (by omega) (by omega) hr hcc h
      have g2:=Pk.word (s:=[111,114]) rfl (by decide) (by decide) (off_sp _) (g1.blank (by omega))
      have:=ih1 f 0 (by omega) (by omega) (Del.sp _) (by omega) (g2.blank (by simp))
      simpa [wordO] using this) hr hcc h
     have k0:¬ ((2:UInt8)=0):=by decide
     have k1:¬ ((2:UInt8)=1):=by decide
     have k3:¬ ((2:UInt8)=3):=by decide
     simpa only [txtF,txtT,h1,h2,h4,h5,Int.toNat_natCast,k0,k1,k3,if_false,if_true] using this
theorem Lk.void {K} (h:Lk [] K):K=[]:=by
 cases h with
 | nil _ _=>rfl
 | cons _ _ h _ _=>simp at h
theorem Lk.all {p K} (h:Lk p K) (hl:p.length≤4096):∃ T,allTok p=(T,0,0)∧T.map kt=K:=by
 obtain ⟨T,t1,t2⟩:=h.lx p 0 (Nat.zero_le _) rfl
 exact ⟨T,allTok_of hl t1,t2⟩
theorem Pk.parts {s K c} (h:Pk s K c):c≤4096→∀ f,s.length < f→∃ ts,partsF f s=(ts,0)∧ts.map kt=K:=by
 induction h with
 | @last p K c h1 h2 h3 =>
   intro hc f hf
   obtain ⟨f,rfl⟩:∃ g,f=g+1:=⟨f-1,by omega⟩
   by_cases hp:p=[]
   · subst hp
     exact ⟨[],by rw [partsF,if_pos rfl],by rw [h1.void];rfl⟩
   · have e:=h2 [] (by intro b r' e;cases e)
     rw [List.append_nil] at e
     obtain ⟨T,t1,t2⟩:=h1.all (by omega)
     have e2:partsF f (p.drop (p.length+1))=([],0):=by
      rw [List.drop_eq_nil_of_le (by omega)]
      cases f with
      | zero=>rfl
      | succ f=>rw [partsF,if_pos rfl]
     refine ⟨T,?_,t2⟩
     rw [partsF,if_neg hp,e,if_neg (by omega),List.take_length,t1,e2]
     simp
 | @cons p K s K' c c' h1 h2 h3 h4 h5 ih =>
   intro hc f hf
   obtain ⟨f,rfl⟩:∃ g,f=g+1:=⟨f-1,by omega⟩
   have e:=h2 (32 :: s) (by intro b r' e;simp at e;exact e.1.symm)
   obtain ⟨T,t1,t2⟩:=h1.all (by omega)
   obtain ⟨T',u1,u2⟩:=ih h4 f (by simp at hf;omega)
   refine ⟨T++T',?_,by rw [List.map_append,t2,u2]⟩
   have e3:(p++32 :: s).drop (p.length+1)=s:=by rw [← List.drop_drop,List.drop_left];rfl
   rw [partsF,if_neg (by simp),e,if_neg (by simp),List.take_left,t1,e3,u1]
   simp
theorem cond_nums {ns:List Nod} (hr:right ns=true):∀ n∈ns,n.kind=0→Num n:=by
 obtain ⟨h1,h2,hc⟩:=right_cond hr
 intro n hn hk
 obtain ⟨i,hi⟩:=List.getElem?_of_mem hn
 have:=(List.getElem?_eq_some_iff.1 hi).1
 exact cond_num hc i (Nat.zero_le _) (by omega) n hi hk
theorem parts_print {ns:List Nod} (hr:right ns=true):∃ ts,partsF ((printS ns).length+1) (printS ns)=(ts,0)∧conO ts 0=some (ns,ts.length):=by
 obtain ⟨h1,h2,hc⟩:=right_cond hr
 have hp:printS ns=txtF ns ns.length (ns.length-1) 0:=by unfold printS;rw [if_pos hr]
 have hk:=Pk.cond hc ns.length 0 (r:=[]) (K:=[]) (c:=0) (by omega) (by omega) (by intro b r' e;cases e) (by omega) (.last (.nil [] rfl) clo_nil (Nat.le_refl _))
 rw [List.append_nil,List.append_nil,← hp] at hk
 obtain ⟨ts,t1,t2⟩:=hk.parts (by omega) _ (Nat.lt_succ_self _)
 exact ⟨ts,t1,con_read hr (cond_nums hr) t2⟩
def leafR (n:Nod):List UInt8:=aggs.getD n.agg.toNat []++[40]++selS n.sel++[91]++decR n.window++[93,41,32]++cmps.getD n.cmp.toNat []++[32]++fixS n.value
def txtR (ns:List Nod):Nat→Nat→Int→List UInt8
 | 0,_,_=>[]
 | f + 1, e, least => match ns[e]? with
   | none=>[]
   | some n =>
     let s:=if n.kind=0 then leafR n
      else if n.kind=3 then [110,111,116,32]++txtR ns f n.left.toNat 2
      else if n.kind=1 then txtR ns f n.left.toNat 1++[32,97,110,100,32]++txtR ns f n.right.toNat 2
      else if n.kind=2 then txtR ns f n.left.toNat 0++[32,111,114,32]++txtR ns f n.right.toNat 1
      else []
     if strongI n.kind < least then [40]++s++[41] else s
def fitN (i:Nat) (n:Nod):Prop:=n.kind.toNat≤3∧(n.kind=0→n.agg.toNat≤5∧n.cmp.toNat≤5)∧(n.kind≠0→0≤n.left∧n.left < i∧0≤n.right∧(n.kind≠3→n.right < i))
theorem fit_txt {ns:List Nod} (hfit:∀ (j:Nat) n,ns[j]?=some n→fitN j n):∀ (i f g:Nat) (least:Int),i < f→i < g→txtR ns f i least=txtR ns g i least:=by
 intro i
 induction i using Nat.strongRecOn with
 | ind i ih =>
   intro f g least hf hg
   obtain ⟨f,rfl⟩:∃ k,f=k+1:=⟨f-1,by omega⟩
   obtain ⟨g,rfl⟩:∃ k,g=k+1:=⟨g-1,by omega⟩
   rw [txtR,txtR]
   cases hn:ns[i]? with
   | none=>rfl
   | some n =>
     obtain ⟨_,_,h3⟩:=hfit i n hn
     by_cases k0:n.kind=0
     · simp [k0]
     · obtain ⟨a1,a2,a3,a4⟩:=h3 k0
       have hl:=fun l=>ih n.left.toNat (by omega) f g l (by omega) (by omega)
       by_cases k3:n.kind=3
       · simp [k3,hl]
       · have:=a4 k3
         have hr:=fun l=>ih n.right.toNat (by omega) f g l (by omega) (by omega)
         simp only [hl,hr]
theorem leaf_plain {n:Nod} (h:n.plain=true):leafR n=leafS n:=by
 unfold Nod.plain at h
 simp only [Bool.and_eq_true,decide_eq_true_eq] at h
 obtain ⟨⟨⟨⟨⟨⟨⟨_,_⟩,h3⟩,_⟩,_⟩,_⟩,_⟩,_⟩:=h
 unfold leafR leafS decR fmtS
 rw [if_neg (by omega),if_neg (by omega),show n.window.toNat=n.window.natAbs by omega]
theorem leaf_len {n:Nod} (h:n.plain=true):(leafS n).length≤600:=by
 unfold Nod.plain at h
 simp only [Bool.and_eq_true,decide_eq_true_eq] at h
 obtain ⟨⟨⟨⟨⟨⟨⟨h1,h2⟩,h3⟩,h4⟩,h5⟩,_⟩,_⟩,_⟩:=h
 obtain ⟨s1,s2,s3⟩:=sel_small h2
 have a1:(aggs.getD n.agg.toNat []).length≤5:=getD_len (by decide)
 have a2:(cmps.getD n.cmp.toNat []).length≤2:=getD_len (by decide)
 have a3:=fixS_len n.value
 have a4:(fmtS n.window).length≤20:=by
  obtain ⟨w,hw⟩:∃ w:Nat,n.window=w:=⟨n.window.toNat,by omega⟩
  rw [hw,fmtS_nat]
  exact natS_len (by omega)
 simp only [leafS,List.length_append,List.length_cons,List.length_nil]
 omega
theorem cond_txtR {ns:List Nod} {s e:Nat} (hc:Cond ns s e):∀ (f:Nat) (least:Int),e < f→txtR ns f e least=txtF ns f e least:=by
 induction hc with
 | cmp e n h1 h2 h3 =>
   intro f least hf
   obtain ⟨f,rfl⟩:∃ g,f=g+1:=⟨f-1,by omega⟩
   rw [txtR,txtF]
   simp only [h1,h2,if_true,leaf_plain h3]
 | neg s e n h1 h2 h3 h4 h5 hc ih =>
   intro f least hf
   obtain ⟨f,rfl⟩:∃ g,f=g+1:=⟨f-1,by omega⟩
   have k0:¬ ((3:UInt8)=0):=by decide
   rw [txtR,txtF]
   simp only [h1,h2,h4,Int.toNat_natCast,k0,if_false,if_true,ih f _ (by omega)]
 | two s r e n h1 h2 h3 h4 h5 hc1 hc2 ih1 ih2 =>
   intro f least hf
   obtain ⟨f,rfl⟩:∃ g,f=g+1:=⟨f-1,by omega⟩
   have:=hc2.le
   rw [txtR,txtF]
   simp only [h1,h4,h5,Int.toNat_natCast,ih1 f _ (by omega),ih2 f _ (by omega)]
   rcases h2 with h2 | h2
   · have k0:¬ ((1:UInt8)=0):=by decide
     have k3:¬ ((1:UInt8)=3):=by decide
     simp only [h2,k0,k3,if_false,if_true]
   · have k0:¬ ((2:UInt8)=0):=by decide
     have k1:¬ ((2:UInt8)=1):=by decide
     have k3:¬ ((2:UInt8)=3):=by decide
     simp only [h2,k0,k1,k3,if_false,if_true]
theorem cond_len {ns:List Nod} {s e:Nat} (hc:Cond ns s e):∀ (f:Nat) (least:Int),e < f→(txtF ns f e least).length≤610*(e+1-s):=by
 have key:∀ (k:UInt8) (least:Int) (B:List UInt8) (m:Nat),B.length+2≤m→(if strongI k < least then [40]++B++[41] else B).length≤m:=by
  intro k least B m h
  split
  · simp;omega
  · omega
 induction hc with
 | cmp e n h1 h2 h3 =>
   intro f least hf
   obtain ⟨f,rfl⟩:∃ g,f=g+1:=⟨f-1,by omega⟩
   rw [txtF]
   simp only [h1,h2,if_true]
   exact key _ _ _ _ (by have:=leaf_len h3;omega)
 | neg s e n h1 h2 h3 h4 h5 hc ih =>
   intro f least hf
   obtain ⟨f,rfl⟩:∃ g,f=g+1:=⟨f-1,by omega⟩
   have k0:¬ ((3:UInt8)=0):=by decide
   have:=hc.le
   rw [txtF]
   simp only [h1,h2,h4,Int.toNat_natCast,k0,if_false,if_true]
   exact key _ _ _ _ (by have:=ih f 2 (by omega);simp;omega)
 | two s r e n h1 h2 h3 h4 h5 hc1 hc2 ih1 ih2 =>
   intro f least hf
   obtain ⟨f,rfl⟩:∃ g,f=g+1:=⟨f-1,by omega⟩
   have:=hc1.le
   have:=hc2.le
   have j1:=fun l=>ih1 f l (by omega)
   have j2:=fun l=>ih2 f l (by omega)
   rw [txtF]
   simp only [h1,h4,h5,Int.toNat_natCast]
   rcases h2 with h2 | h2
   · have k0:¬ ((1:UInt8)=0):=by decide
     have k3:¬ ((1:UInt8)=3):=by decide
     simp only [h2,k0,k3,if_false,if_true]
     exact key _ _ _ _ (by have:=j1 1;have:=j2 2;simp;omega)
   · have k0:¬ ((2:UInt8)=0):=by decide
     have k1:¬ ((2:UInt8)=1):=by decide
     have k3:¬ ((2:UInt8)=3):=by decide
     simp only [h2,k0,k1,k3,if_false,if_true]
     exact key _ _ _ _ (by have:=j1 0;have:=j2 1;simp;omega)
theorem cond_fit {ns:List Nod} {s e:Nat} (hc:Cond ns s e):∀ i,s≤i→i≤e→∃ n t,ns[i]?=some n∧fitN i n∧s≤t∧Cond ns t i:=by
 induction hc with
 | cmp e n h1 h2 h3 =>
   intro i a b
   obtain rfl:i=e:=by omega
   obtain ⟨p1,p2,_⟩:=plain_leaf h3
   exact ⟨n,i,h1,⟨by rw [h2];decide,fun _=>⟨by omega,by omega⟩,fun h=>absurd h2 h⟩,Nat.le_refl _,.cmp i n h1 h2 h3⟩
 | neg s e n h1 h2 h3 h4 h5 hc ih =>
   intro i a b
   by_cases hi:i=e+1
   · subst hi
     exact ⟨n,s,h1,⟨by rw [h2];decide,fun h=>absurd (h2.symm.trans h) (by decide),fun _=>⟨by omega,by omega,by omega,fun h=>absurd h2 h⟩⟩,Nat.le_refl _,.neg s e n h1 h2 h3 h4 h5 hc⟩
   · exact ih i a (by omega)
 | two s r e n h1 h2 h3 h4 h5 hc1 hc2 ih1 ih2 =>
   intro i a b
   have:=hc1.le
   have:=hc2.le
   by_cases hi:i=e+1
   · subst hi
     exact ⟨n,s,h1,⟨by rcases h2 with h2 | h2<;>rw [h2]<;>decide,fun h=>by rcases h2 with h2 | h2<;>exact absurd (h2.symm.trans h) (by decide),fun _=>⟨by omega,by omega,by omega,fun _=>by omega⟩⟩,Nat.le_refl _,.two s r e n h1 h2 h3 h4 h5 hc1 hc2⟩
   · by_cases hr:i≤r
     · exact ih1 i a hr
     · obtain ⟨m,t,q1,q2,q3,q4⟩:=ih2 i (by omega) (by omega)
       exact ⟨m,t,q1,q2,by omega,q4⟩
theorem con_right {ts:List Tok} {ns:List Nod} {b:Nat} (h:conO ts 0=some (ns,b)) (h1:ns.length≤31):right ns=true:=by
 obtain ⟨xs,g1,g2,g3⟩:=(strO_cond _ ((conO_str _ 0).trans (congrArg some h))).1 (by omega)
 simp only [List.nil_append] at g1
 exact cond_right (by rw [g1];omega) h1 g3
open Classical in
noncomputable def refP (ns:List Nod):List UInt8 :=
 if ns.length < 1∨31 < ns.length then [] else if ¬ (∀ (i:Nat) n,ns[i]?=some n→fitN i n) then [] else if ∃ i,i < ns.length∧20000 < (txtR ns (i+1) i 0).length then [] else
  if (partsF ((txtR ns ns.length (ns.length-1) 0).length+1) (txtR ns ns.length (ns.length-1) 0)).2=0 ∧
   conO (partsF ((txtR ns ns.length (ns.length-1) 0).length+1) (txtR ns ns.length (ns.length-1) 0)).1 0=some (ns,(partsF ((txtR ns ns.length (ns.length-1) 0).length+1) (txtR ns ns.length (ns.length-1) 0)).1.length)
  then txtR ns ns.length (ns.length-1) 0 else []
theorem refP_eq (ns:List Nod):refP ns=printS ns:=by
 unfold refP
 by_cases hr:right ns=true
 · obtain ⟨h1,h2,hc⟩:=right_cond hr
   have hp:printS ns=txtF ns ns.length (ns.length-1) 0:=by unfold printS;rw [if_pos hr]
   have hq:txtR ns ns.length (ns.length-1) 0=printS ns:=by rw [hp];exact cond_txtR hc _ _ (by omega)
   obtain ⟨ts,t1,t2⟩:=parts_print hr
   rw [if_neg (by omega),if_neg,if_neg,hq,t1,if_pos ⟨rfl,t2⟩]
   · rintro ⟨i,hi,hl⟩
     obtain ⟨n,t,q1,q2,q3,q4⟩:=cond_fit hc i (Nat.zero_le _) (by omega)
     rw [cond_txtR q4 _ _ (by omega)] at hl
     have:=cond_len q4 (i+1) 0 (by omega)
     omega
   · intro h
     apply h
     intro i n hn
     have:=(List.getElem?_eq_some_iff.1 hn).1
     obtain ⟨m,t,q1,q2,_⟩:=cond_fit hc i (Nat.zero_le _) (by omega)
     rw [q1] at hn;cases hn
     exact q2
 · have hn:printS ns=[]:=by unfold printS;rw [if_neg hr]
   rw [hn]
   split
   · rfl
   · rename_i h1
     split
     · rfl
     · split
       · rfl
       · split
         · rename_i h4
           exact absurd (con_right h4.2 (by omega)) hr
         · rfl
end Go.Vi
namespace Go.Vi
open Go Go.Proofs Go.Proofs.Tryz
instance matDec:DecidableEq Mat:=fun a b=>decidable_of_iff (a.name=b.name∧a.op=b.op∧a.value=b.value) (by
 obtain ⟨_,_,_⟩:=a
 obtain ⟨_,_,_⟩:=b
 simp)
instance nodDec:DecidableEq Nod:=fun a b=>decidable_of_iff (a.kind=b.kind∧a.agg=b.agg∧a.sel=b.sel∧a.window=b.window∧a.cmp=b.cmp∧a.value=b.value∧a.left=b.left∧a.right=b.right) (by
 obtain ⟨_,_,_,_,_,_,_,_⟩:=a
 obtain ⟨_,_,_,_,_,_,_,_⟩:=b
 simp)
theorem pv_str2 {P:Program} {T:TypeId} {d:Nat} {a b:List UInt8} (h:P.underlying T=some .string):pv P (Op.equalIn (d+1) T (str a) (str b))=some (decide (a=b)):=by
 have e:((⟨a.toArray⟩:ByteArray) == ⟨b.toArray⟩)=decide (a=b):=by
  show ((a.toArray:Array UInt8) == b.toArray)=_
  rw [Bool.eq_iff_iff];simp
 unfold Op.equalIn
 rw [pv_bind,pv_und h]
 simp only [Option.bind_some]
 rw [← e]
 rfl
theorem pv_int2 {P:Program} {T:TypeId} {d:Nat} {k k':IntKind} {n m:Int} (h:P.underlying T=some (.int k')):pv P (Op.equalIn (d+1) T (.int k n) (.int k m))=some (decide (n=m)):=by
 have e:(n == m)=decide (n=m):=by rw [Bool.eq_iff_iff];simp
 unfold Op.equalIn
 rw [pv_bind,pv_und h]
 simp [pv_pure]
 exact e
theorem mat_guard2 (m m':Mat) (x y:Operand):pv prog (eqGuard .neq 56 x y (.agg m.cells.toArray) (.agg m'.cells.toArray))=some ():=by kernel_rfl
theorem mat_eq2 (m m':Mat):pv prog (Op.equal 56 (.agg m.cells.toArray) (.agg m'.cells.toArray))=some (decide (m=m')):=by
 show pv prog (Op.equalIn (9998+1+1) 56 _ _)=_
 have hs:prog.stoodInHeld 56=false:=by kernel_rfl
 have p0:∀ m:Mat,pv prog (part 9 m.cells.toArray 0)=some (str m.name):=fun m=>by kernel_rfl
 have p1:∀ m:Mat,pv prog (part 5 m.cells.toArray 1)=some (.int .u8 m.op):=fun m=>by kernel_rfl
 have p2:∀ m:Mat,pv prog (part 9 m.cells.toArray 2)=some (str m.value):=fun m=>by kernel_rfl
 have e0:∀ s t:List UInt8,pv prog (Op.equalIn (9998+1) 9 (str s) (str t))=some (decide (s=t)):=fun s t=>pv_str2 (by simp)
 have e1:∀ a b:Int,pv prog (Op.equalIn (9998+1) 5 (.int .u8 a) (.int .u8 b))=some (decide (a=b)):=fun a b=>pv_int2 (k':=.u8) (by simp)
 have hm:decide (m=m')=(decide (m.name=m'.name) && (decide (m.op=m'.op) && decide (m.value=m'.value))):=by
  obtain ⟨a,b,c⟩:=m
  obtain ⟨a',b',c'⟩:=m'
  rw [Bool.eq_iff_iff];simp
 rw [Op.equalIn]
 rw [pv_bind,pv_und (by simp;rfl)]
 simp only [Option.bind_some]
 rw [hm]
 by_cases h0:m.name=m'.name
 · by_cases h1:m.op=m'.op
   · by_cases h2:m.value=m'.value
     · simp [pv_bind,pv_prog,hs,p0,p1,p2,e0,e1,pv_pure,h0,h1,h2]
     · simp [pv_bind,pv_prog,hs,p0,p1,p2,e0,e1,pv_pure,h0,h1,h2]
   · simp [pv_bind,pv_prog,hs,p0,p1,e0,e1,pv_pure,h0,h1]
 · simp [pv_bind,pv_prog,hs,p0,e0,pv_pure,h0]
theorem aBin_mat2 {H:AHeap} {x y:Operand} (m m':Mat):aBin2 prog H .neq 56 x y (.agg m.cells.toArray) (.agg m'.cells.toArray)=some (.bool (!decide (m=m'))):=by
 apply aBin2_of
 have:pv prog (do eqGuard .neq 56 x y (.agg m.cells.toArray) (.agg m'.cells.toArray);binOp .neq 56 (.agg m.cells.toArray) (.agg m'.cells.toArray))=some (.bool (!decide (m=m'))):=by
  rw [pv_bind,mat_guard2,Option.bind_some]
  show pv prog (Op.equal 56 (.agg m.cells.toArray) (.agg m'.cells.toArray) >>= fun r=>pure (Value.bool !r))=_
  rw [pv_bind,mat_eq2];rfl
 unfold aBin
 rw [if_pos ⟨rfl,rfl⟩,this];rfl
theorem drop_at {α:Type} {l:List α} {i:Nat} {a:α} (h:l[i]?=some a):l.drop i=a :: l.drop (i+1):=by
 obtain ⟨h1,rfl⟩:=List.getElem?_eq_some_iff.1 h
 exact List.drop_eq_getElem_cons h1
theorem sameM_loop2 {H:AHeap} {v1 v2:Value} {ms ms':List Mat} {k:Value→AHeap→Prop} {w:Bool} (h1:MatsAt H v1 ms) (h2:MatsAt H v2 ms') (hl:ms.length < 2 ^ 63) (hle:ms.length=ms'.length) (hk:k (.bool w) H) :
  ∀ (n i:Nat) (y z A B C D E a b c d f g h j l o r s t u v x:Value),n+i=ms.length→w=decide (ms.drop i=ms'.drop i)→L56x0 (n+1) k [v1,v2,y,z,A,i64 i,B,C,D,E,a,b,c,d,f,g,h,j,l,o,r,s,t,u,v,x] H:=by
 intro n
 have hlen:=Arr.len (P:=prog) (T:=52) (e:=56) h1 (by simp)
 simp at hlen
 induction n with
 | zero =>
   intro i y z A B C D E a b c d f g h j l o r s t u v x hi hw
   rw [L56x0q]
   have:¬ i < ms.length:=by omega
   rw [List.drop_eq_nil_of_le (by omega),List.drop_eq_nil_of_le (by omega)] at hw
   simp only [decide_true] at hw
   subst hw
   simp [hlen,this]
   exact hk
 | succ n ih =>
   intro i y z A B C D E a b c d f g h j l o r s t u v x hi hw
   have hlt:i < ms.length:=by omega
   rw [L56x0q]
   obtain ⟨m,hm⟩:∃ m,ms[i]?=some m:=⟨_,List.getElem?_eq_getElem hlt⟩
   obtain ⟨m',hm'⟩:∃ m,ms'[i]?=some m:=⟨_,List.getElem?_eq_getElem (by omega)⟩
   have hc:(ms.map Mat.cells)[i]?=some m.cells:=by rw [List.getElem?_map,hm];rfl
   have hc':(ms'.map Mat.cells)[i]?=some m'.cells:=by rw [List.getElem?_map,hm'];rfl
   obtain ⟨p,hp1,hp2⟩:=Arr.load (P:=prog) (T:=52) (te:=56) h1 (i:=i) (e:=m.cells) (by simp) (by simp) (by simp) hc
   obtain ⟨q,hq1,hq2⟩:=Arr.load (P:=prog) (T:=52) (te:=56) h2 (i:=i) (e:=m'.cells) (by simp) (by simp) (by simp) hc'
   have w1:IntKind.i64.wrap ((i:Int)+1)=((i+1:Nat):Int):=by rw [wrap_i64 (by omega) (by omega)];omega
   rw [drop_at hm,drop_at hm'] at hw
   by_cases he:m=m'
   · have hw2:w=decide (ms.drop (i+1)=ms'.drop (i+1)):=by rw [hw,he];simp
     simp [hlen,hlt,hp1,hp2,hq1,hq2,aBin_mat2,he,w1]
     rw [show ((i:Int)+1)=((i+1:Nat):Int) by omega]
     exact ih (i+1) _ _ _ _ _ _ _ _ _ _ _ _ _ _ _ _ _ _ _ _ _ _ _ (by omega) hw2
   · have hw2:w=false:=by rw [hw];simp [he]
     subst hw2
     simp [hlen,hlt,hp1,hp2,hq1,hq2,aBin_mat2,he]
     exact hk
theorem r_sameM {H:AHeap} {v1 v2:Value} {ms ms':List Mat} (h1:MatsAt H v1 ms) (h2:MatsAt H v2 ms') (hl:ms.length < 2 ^ 63):ACalls prog 56 [v1,v2] H (.bool (decide (ms=ms'))) H:=by
 refine acalls_pure MixT func56 (by decide) rfl ?_
 rw [d56]
 have hl1:=Arr.len (P:=prog) (T:=52) (e:=56) h1 (by simp)
 have hl2:=Arr.len (P:=prog) (T:=52) (e:=56) h2 (by simp)
 simp at hl1 hl2
 by_cases he:ms.length=ms'.length
 · have hb:((ms.length:Int) != ms'.length)=false:=by simp;omega
   simp [hl1,hl2,hb]
   exact ⟨_,sameM_loop2 (k:=fun u H2=>u=.bool (decide (ms=ms'))∧∃ X,H2=H++X) h1 h2 hl he ⟨rfl,[],by simp⟩ ms.length 0 _ _ _ _ _ _ _ _ _ _ _ _ _ _ _ _ _ _ _ _ _ _ _ (by omega) (by simp)⟩
 · have hb:((ms.length:Int) != ms'.length)=true:=by simp;omega
   have hne:¬ ms=ms':=fun e=>he (by rw [e])
   simp [hl1,hl2,hb,hne]
theorem nod_ext {a b:Nod} (h0:((a.kind.toNat:Int) != b.kind.toNat)=false) (h1:((a.agg.toNat:Int) != b.agg.toNat)=false) (h2:a.sel=b.sel) (h3:(a.window != b.window)=false) (h4:((a.cmp.toNat:Int) != b.cmp.toNat)=false) (h5:(a.value != b.value)=false) (h6:(a.left != b.left)=false) (h7:(a.right != b.right)=false):a=b:=by
 obtain ⟨a0,a1,a2,a3,a4,a5,a6,a7⟩:=a
 obtain ⟨b0,b1,b2,b3,b4,b5,b6,b7⟩:=b
 have u:∀ {x y:UInt8},((x.toNat:Int) != y.toNat)=false→x=y:=fun {x y} h=>by
  have:(x.toNat:Int)=y.toNat:=by simpa using h
  exact UInt8.toNat_inj.1 (by omega)
 have e0:=u h0
 have e1:=u h1
 have e4:=u h4
 simp at h2 h3 h5 h6 h7 e0 e1 e4
 simp [h2,h3,h5,h6,h7,e0,e1,e4]
theorem u8_ne {x y:UInt8} (h:((x.toNat:Int) != y.toNat)=true):x≠y:=by rintro rfl;simp at h
set_option maxHeartbeats 2000000 in
theorem sameN_loop2 {H:AHeap} {v1 v2:Value} {ns ns':List Nod} {k:Value→AHeap→Prop} {w:Bool} (h1:NodesAt H v1 ns) (h2:NodesAt H v2 ns') (hl:ns.length < 2 ^ 63) (hle:ns.length=ns'.length) (hs:∀ n∈ns,n.sel.length < 2 ^ 63) (hk:∀ X,k (.bool w) (H++X)) :
  ∀ (n i:Nat) (X:AHeap) (s2 s3 s4 s6 s7 s8 s9 b c d f g j l o r s t u x y z A B C D E F G I J L M N O Q R S U V W Z aa ab ac ad ae af ag ah ai aj ak al am an ao ap aq ar au av aw ax ay az aA aB aC aD aE aF aG aH aI aJ aK aL aM:Value),n+i=ns.length→w=decide (ns.drop i=ns'.drop i)→L35x0 (n+1) k [v1,v2,s2,s3,s4,i64 i,s6,s7,s8,s9,b,c,d,f,g,j,l,o,r,s,t,u,x,y,z,A,B,C,D,E,F,G,I,J,L,M,N,O,Q,R,S,U,V,W,Z,aa,ab,ac,ad,ae,af,ag,ah,ai,aj,ak,al,am,an,ao,ap,aq,ar,au,av,aw,ax,ay,az,aA,aB,aC,aD,aE,aF,aG,aH,aI,aJ,aK,aL,aM] (H++X):=by
 intro n
 have hlen:=h1.len
 induction n with
 | zero =>
   intro i X s2 s3 s4 s6 s7 s8 s9 b c d f g j l o r s t u x y z A B C D E F G I J L M N O Q R S U V W Z aa ab ac ad ae af ag ah ai aj ak al am an ao ap aq ar au av aw ax ay az aA aB aC aD aE aF aG aH aI aJ aK aL aM hi hw
   rw [L35x0q]
   have:¬ i < ns.length:=by omega
   rw [List.drop_eq_nil_of_le (by omega),List.drop_eq_nil_of_le (by omega)] at hw
   simp only [decide_true] at hw
   subst hw
   simp [hlen,this]
   exact hk X
 | succ n ih =>
   intro i X s2 s3 s4 s6 s7 s8 s9 b c d f g j l o r s t u x y z A B C D E F G I J L M N O Q R S U V W Z aa ab ac ad ae af ag ah ai aj ak al am an ao ap aq ar au av aw ax ay az aA aB aC aD aE aF aG aH aI aJ aK aL aM hi hw
   have hlt:i < ns.length:=by omega
   rw [L35x0q]
   obtain ⟨m,hm⟩:∃ m,ns[i]?=some m:=⟨_,List.getElem?_eq_getElem hlt⟩
   obtain ⟨m',hm'⟩:∃ m,ns'[i]?=some m:=⟨_,List.getElem?_eq_getElem (by omega)⟩
   rw [drop_at hm,drop_at hm'] at hw
   have w1:IntKind.i64.wrap ((i:Int)+1)=((i+1:Nat):Int):=by rw [wrap_i64 (by omega) (by omega)];omega
   have ld:∀ {v m} {ns:List Nod},NodesAt H v ns→ns[i]?=some m→∃ sv,MatsAt H sv m.sel∧∀ Y,∃ p,aIndexAddr prog (H++Y) 32 v (i64 i)=some p∧aLoad prog (H++Y) 54 p=some (.agg (m.cells sv).toArray):=by
    intro v m ns h hm
    obtain ⟨cl,ha,hcl,hc⟩:=h
    obtain ⟨sv,q1,q2,q3⟩:=hc _ _ hm
    exact ⟨sv,q2,fun Y=>(ha.pre (.app H Y)).load (P:=prog) (T:=32) (te:=54) (by simp) (by simp) (by simp) q1⟩
   obtain ⟨a,m1,l1⟩:=ld h1 hm
   obtain ⟨s2',m2,l2⟩:=ld h2 hm'
   obtain ⟨p,p1,p2⟩:=l1 X
   obtain ⟨q,q1,q2⟩:=l2 X
   have a1:=m1.one
   have a2:=m2.one
   have no:m≠m'→∀ X,k (.bool false) (H++X):=by
    intro he
    have:w=false:=by rw [hw];simp [he]
    subst this
    exact hk
   have yes:m=m'→w=decide (ns.drop (i+1)=ns'.drop (i+1)):=by
    intro he
    rw [hw,he];simp
   refine bnd_of (hlen _) ?_
   refine bnd_of (v:=.bool true) (by simp [hlt]) ?_
   dsimp only
   rw [kifB_true]
   dsimp only
   have hsl:=hs m (List.mem_of_getElem? hm)
   refine ⟨?_,?_⟩
   · simp only [bnd_some,p1,p2,q1,q2]
     refine bndK_ext (tal54 _) ⟨_,rfl⟩ ?_
     dsimp only
     refine bndK_ext (tal54 _) ⟨_,rfl⟩ ?_
     dsimp only
     refine bndK_of (v:=undef) (H':=H++X++[.cells (m.cells a) 54]++[.cells [.int .u8 0,.int .u8 0,.slice none 0 0,.int .i64 0,.int .u8 0,.int .i64 0,.int .i64 0,.int .i64 0] 54]) ⟨rfl,by simp [Nod.cells,a1]⟩ ?_ ?_
     · dsimp only
       rw [List.append_assoc (H++X)]
       exact ⟨aLoad_more q2,aIndexAddr_more q1,trivial⟩
     · dsimp only
       refine bndK_bar (v:=undef) (H':=H++X++[.cells (m.cells a) 54]++[.cells (m'.cells s2') 54]) ⟨rfl,by simp [Nod.cells,a2]⟩ ?_
       dsimp only
       obtain ⟨K,hK⟩:∃ K,K=H++X++[.cells (m.cells a) 54]++[.cells (m'.cells s2') 54]:=⟨_,rfl⟩
       have hKX:K=H++(X++[.cells (m.cells a) 54]++[.cells (m'.cells s2') 54]):=by rw [hK];simp
       have e1:H.length+(X.length+1)=(H++X++[AObj.cells (m.cells a) 54]).length:=by simp
       have f1:hcells K (H.length+X.length)=some (m.cells a):=by rw [hK,← List.length_append];simp
       have f2:Vi.hlen K (H.length+X.length)=some 8:=by rw [hK,← List.length_append];simp [Nod.cells]
       have f3:hcells K (H.length+(X.length+1))=some (m'.cells s2'):=by rw [hK,e1];simp
       have f4:Vi.hlen K (H.length+(X.length+1))=some 8:=by rw [hK,e1];simp [Nod.cells]
       rw [← hK]
       clear hK p1 p2 q1 q2 l1 l2 ld
       simp only [Nod.cells] at f1 f3
       cases c0:((m.kind.toNat:Int) != m'.kind.toNat) with
       | true =>
         simp [f1,f2,f3,f4,c0]
         rw [hKX]
         exact no (fun e=>u8_ne c0 (by rw [e])) _
       | false =>
         cases c1:((m.agg.toNat:Int) != m'.agg.toNat) with
         | true =>
           simp [f1,f2,f3,f4,c0,c1]
           rw [hKX]
           exact no (fun e=>u8_ne c1 (by rw [e])) _
         | false =>
           simp [f1,f2,f3,f4,c0,c1]
           refine bndG_call (.bool (decide (m.sel=m'.sel))) (fun _=>by rw [hKX];exact r_sameM (m1.pre (.app H _)) (m2.pre (.app H _)) hsl) ?_
           refine (Classical.em (m.sel=m'.sel)).symm.elim (fun c2=>?_) (fun c2=>?_)
           · simp [f2,f4,c2]
             rw [hKX]
             exact no (fun e=>c2 (by rw [e])) _
           ·
            cases c3:(m.window != m'.window) with
            | true =>
              simp [f1,f2,f3,f4,c2,c3]
              rw [hKX]
              exact no (fun e=>by rw [e] at c3;simp at c3) _
            | false =>
              cases c4:((m.cmp.toNat:Int) != m'.cmp.toNat) with
              | true =>
                simp [f1,f2,f3,f4,c2,c3,c4]
                rw [hKX]
                exact no (fun e=>u8_ne c4 (by rw [e])) _
              | false =>
                cases c5:(m.value != m'.value) with
                | true =>
                  simp [f1,f2,f3,f4,c2,c3,c4,c5]
                  rw [hKX]
                  exact no (fun e=>by rw [e] at c5;simp at c5) _
                | false =>
                  cases c6:(m.left != m'.left) with
                  | true =>
                    simp [f1,f2,f3,f4,c2,c3,c4,c5,c6]
                    rw [hKX]
                    exact no (fun e=>by rw [e] at c6;simp at c6) _
                  | false =>
                    cases c7:(m.right != m'.right) with
                    | true =>
                      simp [f1,f2,f3,f4,c2,c3,c4,c5,c6,c7]
                      rw [hKX]
                      exact no (fun e=>by rw [e] at c7;simp at c7) _
                    | false =>
                      simp [f1,f2,f3,f4,c2,c3,c4,c5,c6,c7,w1]
                      rw [hKX,show ((i:Int)+1)=((i+1:Nat):Int) by omega]
                      exact ih (i+1) _ _ _ _ _ _ _ _ _ _ _ _ _ _ _ _ _ _ _ _ _ _ _ _ _ _ _ _ _ _ _ _ _ _ _ _ _ _ _ _ _ _ _ _ _ _ _ _ _ _ _ _ _ _ _ _ _ _ _ _ _ _ _ _ _ _ _ _ _ _ _ _ _ _ _ _ _ _ _ _ (by omega) (yes (nod_ext c0 c1 c2 c3 c4 c5 c6 c7))
   · simp only [bnd_some,p1,p2,q1,q2]
     refine bndK_ext (tal54 _) ⟨_,rfl⟩ ?_
     dsimp only
     refine bndK_ext (tal54 _) ⟨_,rfl⟩ ?_
     dsimp only
     refine bndK_of (v:=undef) (H':=H++X++[.cells [.int .u8 0,.int .u8 0,.slice none 0 0,.int .i64 0,.int .u8 0,.int .i64 0,.int .i64 0,.int .i64 0] 54]++[.cells (m.cells a) 54]) ⟨rfl,by simp [Nod.cells,a1]⟩ ?_ ?_
     · dsimp only
       rw [List.append_assoc (H++X)]
       exact ⟨aLoad_more q2,aIndexAddr_more q1,trivial⟩
     · dsimp only
       refine bndK_bar (v:=undef) (H':=H++X++[.cells (m'.cells s2') 54]++[.cells (m.cells a) 54]) ⟨rfl,by simp [Nod.cells,a2]⟩ ?_
       dsimp only
       obtain ⟨K,hK⟩:∃ K,K=H++X++[.cells (m'.cells s2') 54]++[.cells (m.cells a) 54]:=⟨_,rfl⟩
       have hKX:K=H++(X++[.cells (m'.cells s2') 54]++[.cells (m.cells a) 54]):=by rw [hK];simp
       have e1:H.length+(X.length+1)=(H++X++[AObj.cells (m'.cells s2') 54]).length:=by simp
       have f3:hcells K (H.length+X.length)=some (m'.cells s2'):=by rw [hK,← List.length_append];simp
       have f4:Vi.hlen K (H.length+X.length)=some 8:=by rw [hK,← List.length_append];simp [Nod.cells]
       have f1:hcells K (H.length+(X.length+1))=some (m.cells a):=by rw [hK,e1];simp
       have f2:Vi.hlen K (H.length+(X.length+1))=some 8:=by rw [hK,e1];simp [Nod.cells]
       rw [← hK]
       clear hK p1 p2 q1 q2 l1 l2 ld
       simp only [Nod.cells] at f1 f3
       cases c0:((m.kind.toNat:Int) != m'.kind.toNat) with
       | true =>
         simp [f1,f2,f3,f4,c0]
         rw [hKX]
         exact no (fun e=>u8_ne c0 (by rw [e])) _
       | false =>
         cases c1:((m.agg.toNat:Int) != m'.agg.toNat) with
         | true =>
           simp [f1,f2,f3,f4,c0,c1]
           rw [hKX]
           exact no (fun e=>u8_ne c1 (by rw [e])) _
         | false =>
           simp [f1,f2,f3,f4,c0,c1]
           refine bndG_call (.bool (decide (m.sel=m'.sel))) (fun _=>by rw [hKX];exact r_sameM (m1.pre (.app H _)) (m2.pre (.app H _)) hsl) ?_
           refine (Classical.em (m.sel=m'.sel)).symm.elim (fun c2=>?_) (fun c2=>?_)
           · simp [f2,f4,c2]
             rw [hKX]
             exact no (fun e=>c2 (by rw [e])) _
           ·
            cases c3:(m.window != m'.window) with
            | true =>
              simp [f1,f2,f3,f4,c2,c3]
              rw [hKX]
              exact no (fun e=>by rw [e] at c3;simp at c3) _
            | false =>
              cases c4:((m.cmp.toNat:Int) != m'.cmp.toNat) with
              | true =>
                simp [f1,f2,f3,f4,c2,c3,c4]
                rw [hKX]
                exact no (fun e=>u8_ne c4 (by rw [e])) _
              | false =>
                cases c5:(m.value != m'.value) with
                | true =>
                  simp [f1,f2,f3,f4,c2,c3,c4,c5]
                  rw [hKX]
                  exact no (fun e=>by rw [e] at c5;simp at c5) _
                | false =>
                  cases c6:(m.left != m'.left) with
                  | true =>
                    simp [f1,f2,f3,f4,c2,c3,c4,c5,c6]
                    rw [hKX]
                    exact no (fun e=>by rw [e] at c6;simp at c6) _
                  | false =>
                    cases c7:(m.right != m'.right) with
                    | true =>
                      simp [f1,f2,f3,f4,c2,c3,c4,c5,c6,c7]
                      rw [hKX]
                      exact no (fun e=>by rw [e] at c7;simp at c7) _
                    | false =>
                      simp [f1,f2,f3,f4,c2,c3,c4,c5,c6,c7,w1]
                      rw [hKX,show ((i:Int)+1)=((i+1:Nat):Int) by omega]
                      exact ih (i+1) _ _ _ _ _ _ _ _ _ _ _ _ _ _ _ _ _ _ _ _ _ _ _ _ _ _ _ _ _ _ _ _ _ _ _ _ _ _ _ _ _ _ _ _ _ _ _ _ _ _ _ _ _ _ _ _ _ _ _ _ _ _ _ _ _ _ _ _ _ _ _ _ _ _ _ _ _ _ _ _ (by omega) (yes (nod_ext c0 c1 c2 c3 c4 c5 c6 c7))
theorem r_sameN {H:AHeap} {v1 v2:Value} {ns ns':List Nod} (h1:NodesAt H v1 ns) (h2:NodesAt H v2 ns') (hl:ns.length < 2 ^ 63) (hs:∀ n∈ns,n.sel.length < 2 ^ 63):ACalls prog 35 [v1,v2] H (.bool (decide (ns=ns'))) H:=by
 refine acallsG_flat (fun c=>@drawPairK_sound _ c MixT) func35 (by decide) rfl ?_
 rw [d35]
 have hl1:=h1.len
 have hl2:=h2.len
 by_cases he:ns.length=ns'.length
 · have hb:((ns.length:Int) != ns'.length)=false:=by simp;omega
   simp [hl1,hl2,hb]
   have:=sameN_loop2 (k:=fun u H2=>u=.bool (decide (ns=ns'))∧∃ X,H2=H++X) h1 h2 hl he hs (fun X=>⟨rfl,X,rfl⟩) ns.length 0 []
   simp only [List.append_nil] at this
   exact ⟨_,this _ _ _ _ _ _ _ _ _ _ _ _ _ _ _ _ _ _ _ _ _ _ _ _ _ _ _ _ _ _ _ _ _ _ _ _ _ _ _ _ _ _ _ _ _ _ _ _ _ _ _ _ _ _ _ _ _ _ _ _ _ _ _ _ _ _ _ _ _ _ _ _ _ _ _ _ _ _ _ (by omega) (by simp)⟩
 · have hb:((ns.length:Int) != ns'.length)=true:=by simp;omega
   have hne:¬ ns=ns':=fun e=>he (by rw [e])
   simp [hl1,hl2,hb,hne]
end Go.Vi
namespace Go.Vi
open Go Go.Proofs Go.Proofs.Tryz
theorem rquote_loop {H:AHeap} {l:List UInt8} {k:Value→AHeap→Prop} (hl:l.length < 2 ^ 40) (hk:k (str (quoteS l)) H) :
  ∀ (r : List UInt8) (i : Nat) (acc : List UInt8) (G I J K L M N c d f g h j n o p q s t u v w z A B C D E F : Value), l.drop i = r → i ≤ l.length → acc.length ≤ 1 + 2 * i → 34 :: l.flatMap escB = acc ++ r.flatMap escB →
    L58x0 (r.length+1) k [str l,G,I,str acc,i64 i,J,K,L,M,N,c,d,f,g,h,j,n,o,p,q,s,t,u,v,w,z,A,B,C,D,E,F] H:=by
 intro r
 induction r with
 | nil =>
   intro i acc G I J K L M N c d f g h j n o p q s t u v w z A B C D E F hd hi ha hw
   have hle:l.length≤i:=by simpa using hd
   rw [List.length_nil,L58x0q]
   have:¬ i < l.length:=by omega
   have hcat:=fun x y=>aBin_str (P:=prog) (H:=H) (T:=9) (x:=x) (y:=y) (a:=acc) (b:=[34]) (by simp;omega)
   have e:quoteS l=acc++[34]:=by
    unfold quoteS
    rw [show (34 :: List.flatMap escB l)=acc by simpa using hw]
   simp [this,hcat]
   rw [← e]
   exact hk
 | cons b r ih =>
   intro i acc G I J K L M N c d f g h j n o p q s t u v w z A B C D E F hd hi ha hw
   have hb:l[i]?=some b:=by rw [← List.head?_drop,hd];rfl
   have hlt:i < l.length:=(List.getElem?_eq_some_iff.1 hb).1
   have hix:=aIndex_at (P:=prog) (T:=9) (k:=.i64) (by simp) hb
   have hdr:l.drop (i+1)=r:=by rw [← List.drop_drop,hd];rfl
   have step:∀ (acc':List UInt8) (G I J K L M N c d f g h j n o p q s t u v w z A B C D E F:Value),acc'.length≤2+2*i→34 :: l.flatMap escB=acc'++b :: r.flatMap escB→S58x0 (r.length+1) k [str l,G,I,str acc',i64 i,J,K,L,M,N,c,d,f,g,h,j,n,o,p,q,s,t,u,v,w,z,A,B,C,D,E,F] H:=by
    intro acc' G I J K L M N c d f g h j n o p q s t u v w z A B C D E F ha' hw'
    have hw1:IntKind.i64.wrap ((i:Int)+1)=(i:Int)+1:=wrap_i64 (by omega) (by omega)
    have hsl:=aSliceOp_str (P:=prog) (H:=H) (T:=9) (l:=l) (lo:=some (i64 i)) (hi:=some (i64 ((i:Int)+1))) (a:=i) (b:=((i+1:Nat):Int)) (by simp) rfl rfl (by omega) (by omega) (by omega)
    have he:(l.take (i+1)).drop i=[b]:=by rw [List.drop_take,hd];simp
    simp only [Int.toNat_natCast,he] at hsl
    have hcat:=fun x y=>aBin_str (P:=prog) (H:=H) (T:=9) (x:=x) (y:=y) (a:=acc') (b:=[b]) (by simp;omega)
    rw [S58x0q]
    simp [hw1,hsl,hcat]
    exact ih (i+1) (acc'++[b]) _ _ _ _ _ _ _ _ _ _ _ _ _ _ _ _ _ _ _ _ _ _ _ _ _ _ _ _ _ hdr hlt (by simp;omega) (by rw [hw'];simp)
   rw [List.flatMap_cons] at hw
   rw [List.length_cons,L58x0q]
   have hcat:=fun x y=>aBin_str (P:=prog) (H:=H) (T:=9) (x:=x) (y:=y) (a:=acc) (b:=[92]) (by simp;omega)
   by_cases he:b=34∨b=92
   · have e0:escB b=[92,b]:=if_pos he
     rw [e0] at hw
     by_cases h34:((b.toNat:Int) == 34)=true
     · simp [hlt,hix,h34,hcat]
       exact step (acc++[92]) _ _ _ _ _ _ _ _ _ _ _ _ _ _ _ _ _ _ _ _ _ _ _ _ _ _ _ _ _ (by simp;omega) (by rw [hw];simp)
     · have h34':((b.toNat:Int) == 34)=false:=by simpa using h34
       have h92:((b.toNat:Int) == 92)=true:=by
        rcases he with rfl | rfl
        · exact absurd rfl h34
        · rfl
       simp [hlt,hix,h34',h92,hcat]
       exact step (acc++[92]) _ _ _ _ _ _ _ _ _ _ _ _ _ _ _ _ _ _ _ _ _ _ _ _ _ _ _ _ _ (by simp;omega) (by rw [hw];simp)
   · have e0:escB b=[b]:=if_neg he
     rw [e0] at hw
     have h34:((b.toNat:Int) == 34)=false:=by
      rw [Bool.eq_false_iff];exact fun e=>he (.inl (kind_of (m:=34) e))
     have h92:((b.toNat:Int) == 92)=false:=by
      rw [Bool.eq_false_iff];exact fun e=>he (.inr (kind_of (m:=92) e))
     simp [hlt,hix,h34,h92]
     exact step acc _ _ _ _ _ _ _ _ _ _ _ _ _ _ _ _ _ _ _ _ _ _ _ _ _ _ _ _ _ (by omega) hw
theorem r_quote (H:AHeap) {l:List UInt8} (hl:l.length < 2 ^ 40):ACalls prog 58 [str l] H (str (quoteS l)) H:=by
 refine acalls_pure MixT func58 (by decide) rfl ?_
 rw [d58]
 exact ⟨_,rquote_loop hl ⟨rfl,[],by simp⟩ l 0 [34] _ _ _ _ _ _ _ _ _ _ _ _ _ _ _ _ _ _ _ _ _ _ _ _ _ _ _ _ _ rfl (by omega) (by simp) rfl⟩
theorem r_sgn (H:AHeap) (op:Int):ACalls prog 57 [.int .u8 op] H (str (sgnS op)) H:=by
 refine acalls_pure MixT func57 (by decide) rfl ?_
 rw [d57]
 by_cases h1:op=1
 · subst h1
   simp [sgnS,isOp,opS]
 · by_cases h2:op=2
   · subst h2
     simp [sgnS,isOp,opS]
   · have e1:(op == 1)=false:=by simpa using h1
     have e2:(op == 2)=false:=by simpa using h2
     have e:sgnS op=[61]:=by
      unfold sgnS opS
      split
      · split
        · rfl
        · rename_i h _
          unfold isOp at h
          simp at h
          omega
      · rfl
     simp [e1,e2,e]
def moreS (i:Nat) (r:List Mat):List UInt8:=(if i=0 then joinS [44] (r.map matS) else ((r.map matS).map ([44]++·)).flatten)++[125]
theorem moreS_cons (i:Nat) (m:Mat) (r:List Mat):moreS i (m :: r)=(if 0 < i then [44] else [])++matS m++moreS (i+1) r:=by
 unfold moreS
 by_cases h:i=0
 · subst h;simp [joinS]
 · rw [if_neg h,if_pos (show 0 < i by omega),if_neg (show ¬ (i+1=0) by omega)];simp
theorem matS_len2 {m:Mat} (h:m.tame):(matS m).length≤2 ^ 22:=by
 have h4:=sgnS_len m.op
 have h5:=quoteS_len m.value
 obtain ⟨h1,h2⟩:=h
 simp only [matS,List.length_append]
 omega
theorem rsel_loop {H:AHeap} {v:Value} {ms:List Mat} {k:Value→AHeap→Prop} {w:List UInt8} (hm:MatsAt H v ms) (hl:ms.length≤2 ^ 20) (ht:∀ m∈ms,m.tame) (hk:k (str w) H) :
  ∀ (r:List Mat) (i:Nat) (acc:List UInt8) (S U V W X Y Z c g h j n o p q s t u z A B C D E F G I J K L M N O Q R:Value),ms.drop i=r→i≤ms.length→acc.length≤1+(2 ^ 22+1)*i→w=acc++moreS i r→L38x0 (r.length+1) k [v,S,U,str acc,i64 i,V,W,X,Y,Z,c,g,h,j,n,o,p,q,s,t,u,z,A,B,C,D,E,F,G,I,J,K,L,M,N,O,Q,R] H:=by
 have hlen:=Arr.len (P:=prog) (T:=52) (e:=56) hm (by simp)
 simp at hlen
 intro r
 induction r with
 | nil =>
   intro i acc S U V W X Y Z c g h j n o p q s t u z A B C D E F G I J K L M N O Q R hd hi ha hw
   have hle:ms.length≤i:=by simpa using hd
   have:¬ i < ms.length:=by omega
   have hcat:=fun x y=>aBin_str (P:=prog) (H:=H) (T:=9) (x:=x) (y:=y) (a:=acc) (b:=[125]) (by simp;omega)
   have e:w=acc++[125]:=by
    rw [hw];unfold moreS
    split<;>rfl
   rw [List.length_nil,L38x0q]
   simp [hlen,this,hcat]
   rw [← e]
   exact hk
 | cons m r ih =>
   intro i acc S U V W X Y Z c g h j n o p q s t u z A B C D E F G I J K L M N O Q R hd hi ha hw
   have hb:ms[i]?=some m:=by rw [← List.head?_drop,hd];rfl
   have hlt:i < ms.length:=(List.getElem?_eq_some_iff.1 hb).1
   have hdr:ms.drop (i+1)=r:=by rw [← List.drop_drop,hd];rfl
   have htm:=ht m (List.mem_of_getElem? hb)
   have hml:=matS_len2 htm
   have hmm:=htm
   obtain ⟨hn,hv⟩:=hmm
   have hcell:(ms.map Mat.cells)[i]?=some m.cells:=by simp [hb]
   obtain ⟨p1,q1,a1,a2,a3⟩:=Arr.field (P:=prog) (T:=52) (te:=56) (f:=1) (d:=1) (ft:=5) hm (by simp) (by simp) (by simp) (by simp) (by simp) hcell rfl
   obtain ⟨p2,q2,b1,b2,b3⟩:=Arr.field (P:=prog) (T:=52) (te:=56) (f:=0) (d:=0) (ft:=9) hm (by simp) (by simp) (by simp) (by simp) (by simp) hcell rfl
   obtain ⟨p3,q3,c1,c2,c3⟩:=Arr.field (P:=prog) (T:=52) (te:=56) (f:=2) (d:=2) (ft:=9) hm (by simp) (by simp) (by simp) (by simp) (by simp) hcell rfl
   rw [a1] at b1 c1
   cases b1
   cases c1
   rw [moreS_cons] at hw
   have step:∀ (acc':List UInt8) (S U V W X Y Z c g h j n o p q s t u z A B C D E F G I J K L M N O Q R:Value),acc'.length≤2+(2 ^ 22+1)*i→w=acc'++(matS m++moreS (i+1) r)→S38x0 (r.length+1) k [v,S,U,str acc',i64 i,V,W,X,Y,Z,c,g,h,j,n,o,p,q,s,t,u,z,A,B,C,D,E,F,G,I,J,K,L,M,N,O,Q,R] H:=by
    intro acc' S U V W X Y Z c g h j n o p q s t u z A B C D E F G I J K L M N O Q R ha' hw'
    have hw1:IntKind.i64.wrap ((i:Int)+1)=(i:Int)+1:=wrap_i64 (by omega) (by omega)
    have l1:=sgnS_len m.op
    have l2:=quoteS_len m.value
    have hc1:=fun x y=>aBin_str (P:=prog) (H:=H) (T:=9) (x:=x) (y:=y) (a:=acc') (b:=m.name) (by omega)
    have hc2:=fun x y=>aBin_str (P:=prog) (H:=H) (T:=9) (x:=x) (y:=y) (a:=acc'++m.name) (b:=sgnS m.op) (by rw [List.length_append];omega)
    have hc3:=fun x y=>aBin_str (P:=prog) (H:=H) (T:=9) (x:=x) (y:=y) (a:=acc'++m.name++sgnS m.op) (b:=quoteS m.value) (by rw [List.length_append,List.length_append];omega)
    rw [S38x0q]
    simp only [a1,a2,a3,b2,b3,bnd_some,hc1]
    refine bndD_same (r_sgn H _) ?_
    dsimp only
    simp only [hc2,a1,c2,c3,bnd_some]
    refine bndD_same (r_quote H (l:=m.value) (by omega)) ?_
    dsimp only
    simp only [hc3,bnd_some,aBin_add,hw1]
    refine ih (i+1) _ _ _ _ _ _ _ _ _ _ _ _ _ _ _ _ _ _ _ _ _ _ _ _ _ _ _ _ _ _ _ _ _ _ _ _ hdr hlt ?_ ?_
    · have:(acc'++m.name++sgnS m.op++quoteS m.value).length=acc'.length+(matS m).length:=by simp [matS]
      rw [this]
      omega
    · rw [hw'];simp [matS]
   rw [List.length_cons,L38x0q]
   by_cases h0:0 < i
   · have hcat:=fun x y=>aBin_str (P:=prog) (H:=H) (T:=9) (x:=x) (y:=y) (a:=acc) (b:=[44]) (by simp;omega)
     simp [hlen,hlt,h0,hcat]
     exact step (acc++[44]) _ _ _ _ _ _ _ _ _ _ _ _ _ _ _ _ _ _ _ _ _ _ _ _ _ _ _ _ _ _ _ _ _ _ _ (by simp;omega) (by rw [hw,if_pos h0];simp)
   · simp [hlen,hlt,h0]
     exact step acc _ _ _ _ _ _ _ _ _ _ _ _ _ _ _ _ _ _ _ _ _ _ _ _ _ _ _ _ _ _ _ _ _ _ _ (by omega) (by rw [hw,if_neg h0];simp)
theorem r_sel {H:AHeap} {v:Value} {ms:List Mat} (hm:MatsAt H v ms) (hl:ms.length≤2 ^ 20) (ht:∀ m∈ms,m.tame):ACalls prog 38 [v] H (str (selS ms)) H:=by
 refine acalls_pure MixT func38 (by decide) rfl ?_
 rw [d38]
 exact ⟨_,rsel_loop hm hl ht ⟨rfl,[],by simp⟩ ms 0 [123] _ _ _ _ _ _ _ _ _ _ _ _ _ _ _ _ _ _ _ _ _ _ _ _ _ _ _ _ _ _ _ _ _ _ _ rfl (by omega) (by simp) (by simp [moreS,selS])⟩
theorem r_sat (H:AHeap) (x:Int):ACalls prog 59 [i64 x] H (i64 (sat x)) H:=by
 refine acalls_pure MixT func59 (by decide) rfl ?_
 rw [d59]
 have hmx:maxFix=4611686018427387903:=rfl
 by_cases h1:(4611686018427387903:Int) < x
 · have e:sat x=4611686018427387903:=by unfold sat;omega
   simp [h1,e]
 · by_cases h2:x < -4611686018427387903
   · have e:sat x = -4611686018427387903:=by unfold sat;omega
     simp [h1,h2,e]
   · have e:sat x=x:=by unfold sat;omega
     simp [h1,h2,e]
def fracL:Nat→Nat→Nat→List UInt8
 | 0,_,_=>[]
 | n+1,p,u=>if p=0 then [] else UInt8.ofNat (48+p / u) :: fracL n (p % u) (u / 10)
theorem frac_eq:∀ m,m < 1000→m≠0→fracS m=fracL 3 m 100:=by decide +kernel
theorem frac_loop {H:AHeap} {k:Value→AHeap→Prop} (w:List UInt8) (hk:∀ K,Pre H K→k (str w) K):∀ (n p u:Nat) (s:List UInt8) (K:AHeap) (s0 s1 s2 s4 s7 s8 s9 e f g h i j l o q r t v z A B C D E F G I J L M N O Q R S U V W X Y Z aa ab ac ad ae af ag ah ai aj ak al:Value),Pre H K→(n=0→p=0)→(0 < n→u=10 ^ (n-1)∧p < 10 ^ n)→n≤3→s.length+n≤2 ^ 40→w=s++fracL n p u →
  L41x1 (n+1) k [s0,s1,s2,str s,s4,i64 p,i64 u,s7,s8,s9,e,f,g,h,i,j,l,o,q,r,t,v,z,A,B,C,D,E,F,G,I,J,L,M,N,O,Q,R,S,U,V,W,X,Y,Z,aa,ab,ac,ad,ae,af,ag,ah,ai,aj,ak,al] K:=by
 have stop:∀ (n u:Nat) (s:List UInt8) (K:AHeap) (s0 s1 s2 s4 s7 s8 s9 e f g h i j l o q r t v z A B C D E F G I J L M N O Q R S U V W X Y Z aa ab ac ad ae af ag ah ai aj ak al:Value),Pre H K→w=s→L41x1 (n+1) k [s0,s1,s2,str s,s4,i64 (0:Nat),i64 u,s7,s8,s9,e,f,g,h,i,j,l,o,q,r,t,v,z,A,B,C,D,E,F,G,I,J,L,M,N,O,Q,R,S,U,V,W,X,Y,Z,aa,ab,ac,ad,ae,af,ag,ah,ai,aj,ak,al] K:=by
  intro n u s K s0 s1 s2 s4 s7 s8 s9 e f g h i j l o q r t v z A B C D E F G I J L M N O Q R S U V W X Y Z aa ab ac ad ae af ag ah ai aj ak al hp hw
  subst hw
  rw [L41x1q]
  simp
  exact hk K hp
 intro n
 induction n with
 | zero =>
   intro p u s K s0 s1 s2 s4 s7 s8 s9 e f g h i j l o q r t v z A B C D E F G I J L M N O Q R S U V W X Y Z aa ab ac ad ae af ag ah ai aj ak al hp h0 hu hn hsl hw
   obtain rfl:=h0 rfl
   exact stop 0 u s K _ _ _ _ _ _ _ _ _ _ _ _ _ _ _ _ _ _ _ _ _ _ _ _ _ _ _ _ _ _ _ _ _ _ _ _ _ _ _ _ _ _ _ _ _ _ _ _ _ _ _ _ _ _ hp (by rw [hw];simp [fracL])
 | succ n ih =>
   intro p u s K s0 s1 s2 s4 s7 s8 s9 e f g h i j l o q r t v z A B C D E F G I J L M N O Q R S U V W X Y Z aa ab ac ad ae af ag ah ai aj ak al hp h0 hu hn hsl hw
   by_cases hz:p=0
   · subst hz
     exact stop (n+1) u s K _ _ _ _ _ _ _ _ _ _ _ _ _ _ _ _ _ _ _ _ _ _ _ _ _ _ _ _ _ _ _ _ _ _ _ _ _ _ _ _ _ _ _ _ _ _ _ _ _ _ _ _ _ _ hp (by rw [hw];simp [fracL])
   · obtain ⟨hu1,hu2⟩:=hu (by omega)
     simp only [Nat.add_sub_cancel] at hu1
     have hupos:0 < u:=by rw [hu1];exact Nat.pow_pos (by omega)
     have hu10:p < 10*u:=by rw [hu1];rw [Nat.pow_succ] at hu2;omega
     have hu3:u≤1000:=by rw [hu1];exact Nat.pow_le_pow_right (show 0 < 10 by omega) (show n≤3 by omega)
     have hq:p / u < 10:=Nat.div_lt_of_lt_mul (by rw [Nat.mul_comm];exact hu10)
     have hr:p % u < u:=Nat.mod_lt _ hupos
     have wq:IntKind.i64.wrap ((p / u:Nat):Int)=((p / u:Nat):Int):=by
      generalize p / u=d at hq
      exact wrap_i64 (by omega) (by omega)
     have r1:=fun (H:AHeap) x y=>quoL (P:=prog) (H:=H) (T:=2) (x:=x) (y:=y) (k:=.i64) (a:=p) (c:=u) (n:=u) rfl hupos wq
     have r2:=fun (H:AHeap) x y=>remL (P:=prog) (H:=H) (T:=2) (x:=x) (y:=y) (k:=.i64) (a:=p) (c:=u) (n:=u) rfl hupos
     have r3:=fun (H:AHeap) x y=>quoL (P:=prog) (H:=H) (T:=2) (x:=x) (y:=y) (k:=.i64) (a:=u) (c:=10) (n:=10) rfl (by omega) (wrap_i64 (by omega) (by omega))
     obtain ⟨d,hd⟩:∃ d,d=p / u:=⟨_,rfl⟩
     obtain ⟨p',hp'⟩:∃ d,d=p % u:=⟨_,rfl⟩
     obtain ⟨u',hu'⟩:∃ d,d=u / 10:=⟨_,rfl⟩
     rw [← hd] at r1 hq
     rw [← hp'] at r2 hr
     rw [← hu'] at r3
     have wa:IntKind.i64.wrap (48+(d:Int))=48+(d:Int):=wrap_i64 (by omega) (by omega)
     have wd:IntKind.u8.wrap (48+(d:Int))=48+(d:Int):=wrap_dig hq
     have ed:=ofNat_dig (d:=d) hq
     have hcat:=fun (H:AHeap) x y=>aBin_str (P:=prog) (H:=H) (T:=9) (x:=x) (y:=y) (a:=s) (b:=[UInt8.ofNat (48+d)]) (by simp;omega)
     have hpos:0 < p:=by omega
     rw [L41x1q]
     simp only [aBin_gtr,bnd_some,show decide ((p:Int) > 0)=true by simp;omega,kifB_true,r1,aBin_add,wa]
     simp only [convV_int underlying2 underlying5,bnd_some,wd]
     rw [ed]
     refine bndL_lit (byte_lit K _) ?_
     dsimp only
     refine bnd_of (one_byte _) ?_
     dsimp only
     refine bnd_of (hcat _ _ _) ?_
     dsimp only
     refine bnd_of (r2 _ _ _) ?_
     dsimp only
     refine bnd_of (r3 _ _ _) ?_
     dsimp only
     refine ih p' u' (s++[UInt8.ofNat (48+d)]) _ _ _ _ _ _ _ _ _ _ _ _ _ _ _ _ _ _ _ _ _ _ _ _ _ _ _ _ _ _ _ _ _ _ _ _ _ _ _ _ _ _ _ _ _ _ _ _ _ _ _ _ _ _ _ (hp.trans (.app _ _)) ?_ ?_ (by omega) (by simp;omega) ?_
     · intro hn0
       subst hn0
       simp only [Nat.pow_zero] at hu1
       omega
     · intro hn0
       obtain ⟨m,rfl⟩:∃ m,n=m+1:=⟨n-1,by omega⟩
       rw [Nat.pow_succ] at hu1
       refine ⟨by rw [hu',hu1];simp,?_⟩
       rw [Nat.pow_succ,← hu1];exact hr
     · rw [hw,fracL,if_neg hz,← hd,← hp',← hu'];simp
theorem fixw_loop {H:AHeap} {k:Value→AHeap→Prop} (m:Nat) (_hm:m < 2 ^ 62) (hk:∀ K,Pre H K→k (str (fixU m)) K) :
  ∀ (d n:Nat) (s:List UInt8) (K:AHeap) (s1 s2 s5 s6 s7 s8 s9 e g i j l o p r t u v w z A B C D E F G I J L M N O Q R S U V W X Y Z aa ab ac ad ae af ag ah ai aj ak al:Value),Pre H K→n < 10 ^ d→n < 2 ^ 63→s.length+d≤2 ^ 39→natS (m / 1000)=preS n s→L41x0 (d+2) k [i64 m,s1,s2,str s,i64 n,s5,s6,s7,s8,s9,e,g,i,j,l,o,p,r,t,u,v,w,z,A,B,C,D,E,F,G,I,J,L,M,N,O,Q,R,S,U,V,W,X,Y,Z,aa,ab,ac,ad,ae,af,ag,ah,ai,aj,ak,al] K:=by
 have step:∀ (q n:Nat) (s:List UInt8) (K:AHeap) (s1 s2 s5 s6 s7 s8 s9 e g i j l o p r t u v w z A B C D E F G I J L M N O Q R S U V W X Y Z aa ab ac ad ae af ag ah ai aj ak al:Value),Pre H K→n < 2 ^ 63→s.length≤2 ^ 40→(0 < n∨s=[]) →
   (∀ (K:AHeap) (s1 s2 s5 s6 s7 s8 s9 e g i j l o p r t u v w z A B C D E F G I J L M N O Q R S U V W X Y Z aa ab ac ad ae af ag ah ai aj ak al:Value),Pre H K→L41x0 q k [i64 m,s1,s2,str (UInt8.ofNat (48+n % 10) :: s),i64 ((n / 10:Nat):Int),s5,s6,s7,s8,s9,e,g,i,j,l,o,p,r,t,u,v,w,z,A,B,C,D,E,F,G,I,J,L,M,N,O,Q,R,S,U,V,W,X,Y,Z,aa,ab,ac,ad,ae,af,ag,ah,ai,aj,ak,al] K)→L41x0 (q+1) k [i64 m,s1,s2,str s,i64 n,s5,s6,s7,s8,s9,e,g,i,j,l,o,p,r,t,u,v,w,z,A,B,C,D,E,F,G,I,J,L,M,N,O,Q,R,S,U,V,W,X,Y,Z,aa,ab,ac,ad,ae,af,ag,ah,ai,aj,ak,al] K:=by
  intro q n s K s1 s2 s5 s6 s7 s8 s9 e g i j l o p r t u v w z A B C D E F G I J L M N O Q R S U V W X Y Z aa ab ac ad ae af ag ah ai aj ak al hp h63 hsl hc hn
  rw [L41x0q]
  have hr:=fun (H:AHeap) x y=>remL (P:=prog) (H:=H) (T:=2) (x:=x) (y:=y) (k:=.i64) (a:=n) (c:=10) (n:=10) rfl (by omega)
  have hq:=fun (H:AHeap) x y=>quoL (P:=prog) (H:=H) (T:=2) (x:=x) (y:=y) (k:=.i64) (a:=n) (c:=10) (n:=10) rfl (by omega) (wrap_i64 (by omega) (by omega))
  have en:((n % 10:Nat):Int)=(n:Int) % 10:=by omega
  have eq:((n / 10:Nat):Int)=(n:Int) / 10:=by omega
  have wa:IntKind.i64.wrap (48+(n:Int) % 10)=48+(n:Int) % 10:=wrap_i64 (by omega) (by omega)
  have wd:IntKind.u8.wrap (48+(n:Int) % 10)=48+(n:Int) % 10:=by rw [← en];exact wrap_dig (by omega)
  have ed:Value.int .u8 (48+(n:Int) % 10)=byt (UInt8.ofNat (48+n % 10)):=by rw [← en];exact ofNat_dig (by omega)
  simp only [en,eq] at hr hq
  have hcat:=fun (H:AHeap) x y=>aBin_str (P:=prog) (H:=H) (T:=9) (x:=x) (y:=y) (a:=[UInt8.ofNat (48+n % 10)]) (b:=s) (by simp;omega)
  have body:∀ (s1 s2 s5 s6 s7 s8 s9 e g i j l o p r t u v w z A B C D E F G I J L M N O Q R S U V W X Y Z aa ab ac ad ae af ag ah ai aj ak al:Value),L41x0 q k [i64 m,s1,s2,str (UInt8.ofNat (48+n % 10) :: s),i64 ((n / 10:Nat):Int),s5,s6,s7,s8,s9,e,g,i,j,l,o,p,r,t,u,v,w,z,A,B,C,D,E,F,G,I,J,L,M,N,O,Q,R,S,U,V,W,X,Y,Z,aa,ab,ac,ad,ae,af,ag,ah,ai,aj,ak,al] (K++[.cells [byt (UInt8.ofNat (48+n % 10))] 5]):=by
   intro s1 s2 s5 s6 s7 s8 s9 e g i j l o p r t u v w z A B C D E F G I J L M N O Q R S U V W X Y Z aa ab ac ad ae af ag ah ai aj ak al
   exact hn _ _ _ _ _ _ _ _ _ _ _ _ _ _ _ _ _ _ _ _ _ _ _ _ _ _ _ _ _ _ _ _ _ _ _ _ _ _ _ _ _ _ _ _ _ _ _ _ _ _ _ _ _ _ _ (hp.trans (.app _ _))
  by_cases h0:0 < n
  · simp [h0,hr,wa,wd]
    rw [ed]
    refine bndL_lit (byte_lit K _) ?_
    dsimp only
    refine bnd_of (one_byte _) ?_
    dsimp only
    refine bnd_of (hcat _ _ _) ?_
    dsimp only
    refine bnd_of (hq _ _ _) ?_
    exact body _ _ _ _ _ _ _ _ _ _ _ _ _ _ _ _ _ _ _ _ _ _ _ _ _ _ _ _ _ _ _ _ _ _ _ _ _ _ _ _ _ _ _ _ _ _ _ _ _ _ _ _ _ _
  · obtain rfl:s=[]:=by
     rcases hc with h | h
     · exact absurd h h0
     · exact h
    simp [h0,hr,wa,wd]
    rw [ed]
    refine bndL_lit (byte_lit K _) ?_
    dsimp only
    refine bnd_of (one_byte _) ?_
    dsimp only
    refine bnd_of (hcat _ _ _) ?_
    dsimp only
    refine bnd_of (hq _ _ _) ?_
    exact body _ _ _ _ _ _ _ _ _ _ _ _ _ _ _ _ _ _ _ _ _ _ _ _ _ _ _ _ _ _ _ _ _ _ _ _ _ _ _ _ _ _ _ _ _ _ _ _ _ _ _ _ _ _
 have stop:∀ (q:Nat) (s:List UInt8) (K:AHeap) (s1 s2 s5 s6 s7 s8 s9 e g i j l o p r t u v w z A B C D E F G I J L M N O Q R S U V W X Y Z aa ab ac ad ae af ag ah ai aj ak al:Value),Pre H K→s≠[]→s.length≤2 ^ 39→natS (m / 1000)=s→L41x0 (q+1) k [i64 m,s1,s2,str s,i64 (0:Nat),s5,s6,s7,s8,s9,e,g,i,j,l,o,p,r,t,u,v,w,z,A,B,C,D,E,F,G,I,J,L,M,N,O,Q,R,S,U,V,W,X,Y,Z,aa,ab,ac,ad,ae,af,ag,ah,ai,aj,ak,al] K:=by
  intro q s K s1 s2 s5 s6 s7 s8 s9 e g i j l o p r t u v w z A B C D E F G I J L M N O Q R S U V W X Y Z aa ab ac ad ae af ag ah ai aj ak al hp hs hsl hw
  have hr:=fun (H:AHeap) x y=>remL (P:=prog) (H:=H) (T:=2) (x:=x) (y:=y) (k:=.i64) (a:=m) (c:=1000) (n:=1000) rfl (by omega)
  obtain ⟨f,hf⟩:∃ f,f=m % 1000:=⟨_,rfl⟩
  rw [← hf] at hr
  have hfix:fixU m=s++if f=0 then [] else 46 :: fracS f:=by rw [fixU_eq,hw,hf]
  rw [L41x0q]
  have hcat:=fun (H:AHeap) x y=>aBin_str (P:=prog) (H:=H) (T:=9) (x:=x) (y:=y) (a:=s) (b:=[46]) (by simp;omega)
  by_cases h0:f=0
  · rw [if_pos h0,List.append_nil] at hfix
    have hb:((f:Int) == 0)=true:=by simp [h0]
    simp [hs,hr,hb]
    rw [← hfix]
    exact hk K hp
  · rw [if_neg h0] at hfix
    have hb:((f:Int) == 0)=false:=by simp [h0]
    simp [hs,hr,hb,hcat]
    exact ⟨3+1,frac_loop (fixU m) hk 3 f 100 (s++[46]) K _ _ _ _ _ _ _ _ _ _ _ _ _ _ _ _ _ _ _ _ _ _ _ _ _ _ _ _ _ _ _ _ _ _ _ _ _ _ _ _ _ _ _ _ _ _ _ _ _ _ _ _ _ _ hp (by omega) (by omega) (by omega) (by simp;omega) (by rw [hfix,frac_eq f (by omega) h0];simp)⟩
 intro d
 induction d with
 | zero =>
   intro n s K s1 s2 s5 s6 s7 s8 s9 e g i j l o p r t u v w z A B C D E F G I J L M N O Q R S U V W X Y Z aa ab ac ad ae af ag ah ai aj ak al hp hn h63 hsl hw
   obtain rfl:n=0:=by simpa using hn
   by_cases hs:s=[]
   · subst hs
     refine step (0+1) 0 [] K _ _ _ _ _ _ _ _ _ _ _ _ _ _ _ _ _ _ _ _ _ _ _ _ _ _ _ _ _ _ _ _ _ _ _ _ _ _ _ _ _ _ _ _ _ _ _ _ _ _ _ _ _ _ hp (by omega) (by simp) (.inr rfl) ?_
     intro K2 s1 s2 s5 s6 s7 s8 s9 e g i j l o p r t u v w z A B C D E F G I J L M N O Q R S U V W X Y Z aa ab ac ad ae af ag ah ai aj ak al hp2
     exact stop 0 _ K2 _ _ _ _ _ _ _ _ _ _ _ _ _ _ _ _ _ _ _ _ _ _ _ _ _ _ _ _ _ _ _ _ _ _ _ _ _ _ _ _ _ _ _ _ _ _ _ _ _ _ _ _ _ _ hp2 (by simp) (by simp) (by rw [hw];rfl)
   · exact stop (0+1) s K _ _ _ _ _ _ _ _ _ _ _ _ _ _ _ _ _ _ _ _ _ _ _ _ _ _ _ _ _ _ _ _ _ _ _ _ _ _ _ _ _ _ _ _ _ _ _ _ _ _ _ _ _ _ hp hs (by omega) (by rw [hw];unfold preS;rw [if_pos rfl,if_neg hs])
 | succ d ih =>
   intro n s K s1 s2 s5 s6 s7 s8 s9 e g i j l o p r t u v w z A B C D E F G I J L M N O Q R S U V W X Y Z aa ab ac ad ae af ag ah ai aj ak al hp hn h63 hsl hw
   by_cases hc:0 < n∨s=[]
   · refine step (d+2) n s K _ _ _ _ _ _ _ _ _ _ _ _ _ _ _ _ _ _ _ _ _ _ _ _ _ _ _ _ _ _ _ _ _ _ _ _ _ _ _ _ _ _ _ _ _ _ _ _ _ _ _ _ _ _ hp h63 (by omega) hc ?_
     intro K2 s1 s2 s5 s6 s7 s8 s9 e g i j l o p r t u v w z A B C D E F G I J L M N O Q R S U V W X Y Z aa ab ac ad ae af ag ah ai aj ak al hp2
     refine ih (n / 10) _ K2 _ _ _ _ _ _ _ _ _ _ _ _ _ _ _ _ _ _ _ _ _ _ _ _ _ _ _ _ _ _ _ _ _ _ _ _ _ _ _ _ _ _ _ _ _ _ _ _ _ _ _ _ _ _ hp2 (by rw [Nat.pow_succ] at hn;omega) (by omega) (by simp;omega) ?_
     rw [hw,preS_step hc (by omega)]
   · have h0:n=0:=by
      rcases Nat.eq_zero_or_pos n with h | h
      · exact h
      · exact absurd (.inl h) hc
     have hs:s≠[]:=fun h=>hc (.inr h)
     subst h0
     exact stop (d+1+1) s K _ _ _ _ _ _ _ _ _ _ _ _ _ _ _ _ _ _ _ _ _ _ _ _ _ _ _ _ _ _ _ _ _ _ _ _ _ _ _ _ _ _ _ _ _ _ _ _ _ _ _ _ _ _ hp hs (by omega) (by rw [hw];unfold preS;rw [if_pos rfl,if_neg hs])
theorem pre_nil (n:Nat):natS n=preS n []:=by
 unfold preS
 by_cases h:n=0
 · subst h;rfl
 · rw [if_neg h,List.append_nil]
theorem r_fixU (H:AHeap) {m:Nat} (hm:(m:Int)≤maxFix):ACalls prog 41 [i64 m] H (str (fixU m)) H:=by
 have hmx:maxFix=4611686018427387903:=rfl
 have hs:sat m=m:=by unfold sat;omega
 refine acalls_pure MixT func41 (by decide) rfl ?_
 rw [d41]
 refine bndC_of (r_sat H m) ?_
 rw [hs]
 have hq:=fun (H:AHeap) x y=>quoL (P:=prog) (H:=H) (T:=2) (x:=x) (y:=y) (k:=.i64) (a:=m) (c:=1000) (n:=1000) rfl (by omega) (wrap_i64 (by omega) (by omega))
 obtain ⟨f,hf⟩:∃ f,f=m / 1000:=⟨_,rfl⟩
 rw [← hf] at hq
 have hneg:¬ (m:Int) < 0:=by omega
 simp [hneg,hq]
 exact ⟨20+2,fixw_loop (H:=H) m (by omega) (fun K ⟨X,hX⟩=>⟨rfl,X,hX⟩) 20 f [] H _ _ _ _ _ _ _ _ _ _ _ _ _ _ _ _ _ _ _ _ _ _ _ _ _ _ _ _ _ _ _ _ _ _ _ _ _ _ _ _ _ _ _ _ _ _ _ _ _ _ _ _ _ _ (.refl _) (by omega) (by omega) (by simp) (by rw [← hf];exact pre_nil _)⟩
theorem r_fix (H:AHeap) (x:Int):ACalls prog 41 [i64 x] H (str (fixS x)) H:=by
 have hmx:maxFix=4611686018427387903:=rfl
 have hb:-maxFix≤sat x∧sat x≤maxFix:=by unfold sat;omega
 have hss:sat (sat x)=sat x:=by unfold sat;omega
 have e:fixS x=(if sat x < 0 then [45] else [])++fixU (sat x).natAbs:=by
  have:=fixS_eq hss
  rw [← this]
  unfold fixS
  rw [hss]
 by_cases h0:sat x < 0
 · refine acalls_pure MixT func41 (by decide) rfl ?_
   rw [d41]
   refine bndC_of (r_sat H x) ?_
   have hw:IntKind.i64.wrap (0-sat x)=((sat x).natAbs:Int):=by rw [wrap_i64 (by omega) (by omega)];omega
   have hl:=fixS_len x
   rw [e,if_pos h0] at hl
   simp only [List.length_append,List.length_cons,List.length_nil] at hl
   have hcat:=fun (H:AHeap) x' y=>aBin_str (P:=prog) (H:=H) (T:=9) (x:=x') (y:=y) (a:=[45]) (b:=fixU (sat x).natAbs) (by simp;omega)
   simp only [aBin_lss,bnd_some,show decide (sat x < 0)=true by simpa using h0,kifB_true,unV_neg,hw]
   refine bndC_of (r_fixU H (by omega)) ?_
   simp only [hcat,bnd_some]
   rw [e,if_pos h0]
   exact ⟨rfl,[],by simp⟩
 · have hx:sat x=((sat x).natAbs:Int):=by omega
   by_cases hxx:sat x=x
   · rw [e,if_neg h0,List.nil_append]
     rw [hxx] at hx
     have:=r_fixU H (m:=(sat x).natAbs) (by omega)
     rw [hxx] at this ⊢
     rw [← hx] at this
     exact this
   · refine acalls_pure MixT func41 (by decide) rfl ?_
     rw [d41]
     refine bndC_of (r_sat H x) ?_
     obtain ⟨m,hm⟩:∃ m:Nat,sat x=m:=⟨_,hx⟩
     rw [e,if_neg h0,List.nil_append,hm]
     have hq:=fun (H:AHeap) x y=>quoL (P:=prog) (H:=H) (T:=2) (x:=x) (y:=y) (k:=.i64) (a:=m) (c:=1000) (n:=1000) rfl (by omega) (wrap_i64 (by omega) (by omega))
     obtain ⟨f,hf⟩:∃ f,f=m / 1000:=⟨_,rfl⟩
     rw [← hf] at hq
     have hneg:¬ (m:Int) < 0:=by omega
     simp [hneg,hq]
     exact ⟨20+2,fixw_loop (H:=H) m (by omega) (fun K ⟨X,hX⟩=>⟨rfl,X,hX⟩) 20 f [] H _ _ _ _ _ _ _ _ _ _ _ _ _ _ _ _ _ _ _ _ _ _ _ _ _ _ _ _ _ _ _ _ _ _ _ _ _ _ _ _ _ _ _ _ _ _ _ _ _ _ _ _ _ _ (.refl _) (by omega) (by omega) (by simp) (by rw [← hf];exact pre_nil _)⟩
end Go.Vi
