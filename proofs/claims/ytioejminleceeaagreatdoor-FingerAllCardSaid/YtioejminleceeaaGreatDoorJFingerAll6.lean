/- The document's own answer: the tokens of a text, part by part. The document's own printer: the walk. The document's own printer: all texts. The document's own printer: each text. The document's own printer: any nodes. Nodes in memory of their own; what chapter 10 goes through. Rows that grow: what the copies need. Lists copied and joined; whether a configuration is more than is gone through. Whether a configuration is more than is gone through. Copies in memory of their own: matchers, nodes. Copies in memory of their own: rules, configurations. Copies in memory of their own: configurations. The document's own answer: whether a rule, a mute may be. Whether a rule is more than is gone through: what is known of one that isn't. The document's own answer of chapter 11, rule by rule, mute by mute; CheckRules. Whether a configuration is more than is gone through: what is known of one that isn't; the mute of a name. The document's own answer of chapter 11: whether a configuration may be. CheckConfigs: the walk. Rules, and a rule's fingerprint. Rules as they are handed over, with their numbers. The sum of bytes, bit by bit: plain numbers. The document's own sum of bytes, and how it writes numbers (tocsinref02, tocsinref14): the walks. The fingerprints of rules; whether none comes twice. The document's own fingerprints (tocsinref14): the walks. FingerAll: the walk. -/
import Derived.Test.YtioejminleceeaaGreatDoorJFingerAll5
import Derived.Test.YtioejminleceeaaGreatDoorJFingerAll4
import Derived.Test.YtioejminleceeaaGreatDoorJFingerAll3
namespace Go.Vi
open Go Go.Proofs Go.Proofs.Tryz
theorem parts_len:∀ (f:Nat) (s:List UInt8),(partsF f s).1.length≤4097*f∧∀ t∈(partsF f s).1,t.text.length < 2 ^ 50:=by
 intro f
 induction f with
 | zero=>intro s;exact ⟨Nat.le_refl _,fun t h=>by cases h⟩
 | succ f ih =>
   intro s
   have nil:∀ e:Int,(([],e):List Tok × Int).1.length≤4097*(f+1)∧∀ t∈(([],e):List Tok × Int).1,t.text.length < 2 ^ 50:=fun e=>⟨Nat.zero_le _,fun t h=>by cases h⟩
   rw [partsF]
   split
   · exact nil 0
   · split
     · exact nil 1
     · split
       · exact nil _
       · split
         · exact nil _
         · obtain ⟨h1,h2⟩:=ih (s.drop (partF s false+1))
           obtain ⟨hnt,hnl⟩:=allTok_ok (l:=s.take (partF s false))
           refine ⟨?_,fun t ht=>?_⟩
           · simp only [List.length_append];omega
           · rcases List.mem_append.1 ht with ht | ht
             · obtain ⟨i,hi⟩:=List.getElem?_of_mem ht
               have:=(hnt i t hi).1
               omega
             · exact h2 t ht
theorem parts_err {f:Nat} {s:List UInt8} (h:(partsF f s).2≠0):partsF f s=([],(partsF f s).2):=by
 cases f with
 | zero=>exact absurd rfl h
 | succ f =>
   rw [partsF] at h ⊢
   split
   · rfl
   · split
     · rfl
     · split
       · rfl
       · split
         · rfl
         · rename_i h1 h2 h3 h4
           rw [if_neg h1,if_neg h2,if_neg h3,if_neg h4] at h
           exact absurd rfl h
theorem end_loop {K:AHeap} {s:List UInt8} {k:Value→AHeap→Prop} {v:Value} {a n0 E:Nat} (hs:s.length < 2 ^ 40)
  (hstop:∀ (m:Nat) (q:Bool) (s1 s2 s3 s4 s9 c d f g h i j l o p r t u w x y z A B C D F G H I J L M N O Q R S U V W X Y Z aa ab ac ad ae af ag ah ai aj ak al am an ao ap aq:Value),s.length≤E∨q=false∧s[E]?=some 32→L43x1 (m+1) n0 k [str s,s1,s2,s3,s4,v,i64 a,i64 E,.bool q,s9,c,d,f,g,h,i,j,l,o,p,r,t,u,w,x,y,z,A,B,C,D,F,G,H,I,J,L,M,N,O,Q,R,S,U,V,W,X,Y,Z,aa,ab,ac,ad,ae,af,ag,ah,ai,aj,ak,al,am,an,ao,ap,aq] K) :
  ∀ (n e:Nat) (q:Bool) (s1 s2 s3 s4 s9 c d f g h i j l o p r t u w x y z A B C D F G H I J L M N O Q R S U V W X Y Z aa ab ac ad ae af ag ah ai aj ak al am an ao ap aq:Value),s.length+1 < n+e→e≤s.length+1→e+partF (s.drop e) q=E→L43x1 n n0 k [str s,s1,s2,s3,s4,v,i64 a,i64 e,.bool q,s9,c,d,f,g,h,i,j,l,o,p,r,t,u,w,x,y,z,A,B,C,D,F,G,H,I,J,L,M,N,O,Q,R,S,U,V,W,X,Y,Z,aa,ab,ac,ad,ae,af,ag,ah,ai,aj,ak,al,am,an,ao,ap,aq] K:=by
 intro n
 induction n with
 | zero=>intro e q s1 s2 s3 s4 s9 c d f g h i j l o p r t u w x y z A B C D F G H I J L M N O Q R S U V W X Y Z aa ab ac ad ae af ag ah ai aj ak al am an ao ap aq h1 h2;omega
 | succ n ih =>
   intro e q s1 s2 s3 s4 s9 c d f g h i j l o p r t u w x y z A B C D F G H I J L M N O Q R S U V W X Y Z aa ab ac ad ae af ag ah ai aj ak al am an ao ap aq h1 h2 hE
   by_cases hlt:e < s.length
   · obtain ⟨b,hb⟩:∃ b,s[e]?=some b:=⟨_,List.getElem?_eq_getElem hlt⟩
     rw [drop_at hb,partF_cons] at hE
     have hix:=aIndex_at (P:=prog) (T:=9) (k:=.i64) (by simp) hb
     by_cases hq:q=false∧b=32
     · rw [if_pos hq] at hE
       have:E=e:=by omega
       subst this
       exact hstop n q _ _ _ _ _ _ _ _ _ _ _ _ _ _ _ _ _ _ _ _ _ _ _ _ _ _ _ _ _ _ _ _ _ _ _ _ _ _ _ _ _ _ _ _ _ _ _ _ _ _ _ _ _ _ _ _ _ _ _ _ _ (.inr ⟨hq.1,by rw [hb,hq.2]⟩)
     · rw [if_neg hq] at hE
       rw [L43x1q]
       have w1:IntKind.i64.wrap ((e:Int)+1)=(e:Int)+1:=wrap_i64 (by omega) (by omega)
       have w2:IntKind.i64.wrap ((e:Int)+1+1)=(e:Int)+1+1:=wrap_i64 (by omega) (by omega)
       have step:∀ (q':Bool) (s1 s2 s3 s4 s9 c d f g h i j l o p r t u w x y z A B C D F G H I J L M N O Q R S U V W X Y Z aa ab ac ad ae af ag ah ai aj ak al am an ao ap aq:Value),e+1+partF (s.drop (e+1)) q'=E→S43x0 n n0 k [str s,s1,s2,s3,s4,v,i64 a,i64 e,.bool q',s9,c,d,f,g,h,i,j,l,o,p,r,t,u,w,x,y,z,A,B,C,D,F,G,H,I,J,L,M,N,O,Q,R,S,U,V,W,X,Y,Z,aa,ab,ac,ad,ae,af,ag,ah,ai,aj,ak,al,am,an,ao,ap,aq] K:=by
        intro q' s1 s2 s3 s4 s9 c d f g h i j l o p r t u w x y z A B C D F G H I J L M N O Q R S U V W X Y Z aa ab ac ad ae af ag ah ai aj ak al am an ao ap aq hE'
        rw [S43x0q]
        simp [w1]
        exact ih (e+1) q' _ _ _ _ _ _ _ _ _ _ _ _ _ _ _ _ _ _ _ _ _ _ _ _ _ _ _ _ _ _ _ _ _ _ _ _ _ _ _ _ _ _ _ _ _ _ _ _ _ _ _ _ _ _ _ _ _ _ _ _ _ (by omega) (by omega) hE'
       have step2:∀ (q':Bool) (s1 s2 s3 s4 s9 c d f g h i j l o p r t u w x y z A B C D F G H I J L M N O Q R S U V W X Y Z aa ab ac ad ae af ag ah ai aj ak al am an ao ap aq:Value),e+1+1+partF (s.drop (e+1+1)) q'=E→S43x0 n n0 k [str s,s1,s2,s3,s4,v,i64 a,i64 ((e:Int)+1),.bool q',s9,c,d,f,g,h,i,j,l,o,p,r,t,u,w,x,y,z,A,B,C,D,F,G,H,I,J,L,M,N,O,Q,R,S,U,V,W,X,Y,Z,aa,ab,ac,ad,ae,af,ag,ah,ai,aj,ak,al,am,an,ao,ap,aq] K:=by
        intro q' s1 s2 s3 s4 s9 c d f g h i j l o p r t u w x y z A B C D F G H I J L M N O Q R S U V W X Y Z aa ab ac ad ae af ag ah ai aj ak al am an ao ap aq hE'
        rw [S43x0q]
        simp [w2]
        exact ih (e+1+1) q' _ _ _ _ _ _ _ _ _ _ _ _ _ _ _ _ _ _ _ _ _ _ _ _ _ _ _ _ _ _ _ _ _ _ _ _ _ _ _ _ _ _ _ _ _ _ _ _ _ _ _ _ _ _ _ _ _ _ _ _ _ (by omega) (by omega) hE'
       have hc:q=true∨q=false∧((b.toNat:Int) != 32)=true:=by
        cases q with
        | true=>exact .inl rfl
        | false =>
          refine .inr ⟨rfl,?_⟩
          rw [bne_iff_ne]
          intro he
          exact hq ⟨rfl,kind_of (m:=32) (by rw [beq_iff_eq];exact he)⟩
       by_cases h92:b=92
       · rw [if_pos h92,List.drop_drop] at hE
         have hb92:((b.toNat:Int) == 92)=true:=by rw [h92];rfl
         have hE2:e+1+1+partF (s.drop (e+1+1)) q=E:=by omega
         rcases hc with rfl | ⟨rfl,hc⟩
         · simp [hlt,hix,hb92,w1]
           exact step2 true _ _ _ _ _ _ _ _ _ _ _ _ _ _ _ _ _ _ _ _ _ _ _ _ _ _ _ _ _ _ _ _ _ _ _ _ _ _ _ _ _ _ _ _ _ _ _ _ _ _ _ _ _ _ _ _ _ _ _ _ _ hE2
         · simp [hlt,hix,hb92,w1,hc]
           exact step2 false _ _ _ _ _ _ _ _ _ _ _ _ _ _ _ _ _ _ _ _ _ _ _ _ _ _ _ _ _ _ _ _ _ _ _ _ _ _ _ _ _ _ _ _ _ _ _ _ _ _ _ _ _ _ _ _ _ _ _ _ _ hE2
       · rw [if_neg h92] at hE
         have hb92:((b.toNat:Int) == 92)=false:=by rw [Bool.eq_false_iff];exact fun e=>h92 (kind_of (m:=92) e)
         by_cases h34:b=34
         · rw [if_pos h34] at hE
           have hb34:((b.toNat:Int) == 34)=true:=by rw [h34];rfl
           have hE2:e+1+partF (s.drop (e+1)) (!q)=E:=by omega
           rcases hc with rfl | ⟨rfl,hc⟩
           · simp [hlt,hix,hb92,hb34]
             exact step false _ _ _ _ _ _ _ _ _ _ _ _ _ _ _ _ _ _ _ _ _ _ _ _ _ _ _ _ _ _ _ _ _ _ _ _ _ _ _ _ _ _ _ _ _ _ _ _ _ _ _ _ _ _ _ _ _ _ _ _ _ hE2
           · simp [hlt,hix,hb92,hb34,hc]
             exact step true _ _ _ _ _ _ _ _ _ _ _ _ _ _ _ _ _ _ _ _ _ _ _ _ _ _ _ _ _ _ _ _ _ _ _ _ _ _ _ _ _ _ _ _ _ _ _ _ _ _ _ _ _ _ _ _ _ _ _ _ _ hE2
         · rw [if_neg h34] at hE
           have hb34:((b.toNat:Int) == 34)=false:=by rw [Bool.eq_false_iff];exact fun e=>h34 (kind_of (m:=34) e)
           have hE2:e+1+partF (s.drop (e+1)) q=E:=by omega
           rcases hc with rfl | ⟨rfl,hc⟩
           · simp [hlt,hix,hb92,hb34]
             exact step true _ _ _ _ _ _ _ _ _ _ _ _ _ _ _ _ _ _ _ _ _ _ _ _ _ _ _ _ _ _ _ _ _ _ _ _ _ _ _ _ _ _ _ _ _ _ _ _ _ _ _ _ _ _ _ _ _ _ _ _ _ hE2
           · simp [hlt,hix,hb92,hb34,hc]
             exact step false _ _ _ _ _ _ _ _ _ _ _ _ _ _ _ _ _ _ _ _ _ _ _ _ _ _ _ _ _ _ _ _ _ _ _ _ _ _ _ _ _ _ _ _ _ _ _ _ _ _ _ _ _ _ _ _ _ _ _ _ _ hE2
   · rw [List.drop_eq_nil_of_le (by omega)] at hE
     have:E=e:=by rw [partF] at hE;omega
     subst this
     exact hstop n q _ _ _ _ _ _ _ _ _ _ _ _ _ _ _ _ _ _ _ _ _ _ _ _ _ _ _ _ _ _ _ _ _ _ _ _ _ _ _ _ _ _ _ _ _ _ _ _ _ _ _ _ _ _ _ _ _ _ _ _ _ (.inl (by omega))
theorem part_le:∀ (n:Nat) (s:List UInt8) (q:Bool),s.length≤n→partF s q≤s.length+1:=by
 intro n
 induction n with
 | zero=>intro s q h;obtain rfl:=List.eq_nil_of_length_eq_zero (show s.length=0 by omega);rw [partF];omega
 | succ n ih =>
   intro s q h
   cases s with
   | nil=>rw [partF];omega
   | cons b r =>
     rw [partF_cons]
     simp only [List.length_cons] at h ⊢
     split
     · omega
     · split
       · cases r with
         | nil=>rw [List.drop_nil,partF];simp
         | cons c r =>
           simp only [List.length_cons] at h ⊢
           have:=ih r q (by omega)
           rw [List.drop_succ_cons,List.drop_zero]
           omega
       · split
         · have:=ih r (!q) (by omega);omega
         · have:=ih r q (by omega);omega
theorem rpt_loop {H:AHeap} {s:List UInt8} {k:Value→AHeap→Prop} {w:List Tok × Int} (hs:s.length≤2 ^ 15) (hk:∀ v K (T:List RTk) (e:Int),Pre H K→Gro K H.length 4 122 v (T.map rt)→(T.map Prod.fst,e)=w→k (.tuple #[v,i64 0,i64 e]) K) :
  ∀ (n a f : Nat) (acc : List RTk) (v : Value) (K : AHeap) (s1 s2 s3 s4 s7 s8 s9 d i j o p r u y z A B C D F G I J L M N O Q R S U V W Y Z aa ab ac ad ae af ag ah ai aj ak al am an ao ap aq ar au av aw ax ay az aA aB aC : Value), s.length + 1 < n + a → a ≤ s.length + 1 → s.length < f + a → acc.length ≤ 4097 * a → Pre H K → Gro K H.length 4 122 v (acc.map rt) →
    w=(if (partsF f (s.drop a)).2≠0 then ([],(partsF f (s.drop a)).2) else (acc.map Prod.fst++(partsF f (s.drop a)).1,0))→L43x0 n k [str s,s1,s2,s3,s4,v,i64 a,s7,s8,s9,d,i,j,o,p,r,u,y,z,A,B,C,D,F,G,I,J,L,M,N,O,Q,R,S,U,V,W,Y,Z,aa,ab,ac,ad,ae,af,ag,ah,ai,aj,ak,al,am,an,ao,ap,aq,ar,au,av,aw,ax,ay,az,aA,aB,aC] K:=by
 intro n
 induction n with
 | zero=>intro a f acc v K s1 s2 s3 s4 s7 s8 s9 d i j o p r u y z A B C D F G I J L M N O Q R S U V W Y Z aa ab ac ad ae af ag ah ai aj ak al am an ao ap aq ar au av aw ax ay az aA aB aC h1 h2;omega
 | succ n ih =>
   intro a f acc v K s1 s2 s3 s4 s7 s8 s9 d i j o p r u y z A B C D F G I J L M N O Q R S U V W Y Z aa ab ac ad ae af ag ah ai aj ak al am an ao ap aq ar au av aw ax ay az aA aB aC h1 h2 hf hac hp hg hr
   by_cases hlt:a < s.length
   · obtain ⟨f,rfl⟩:∃ g,f=g+1:=⟨f-1,by omega⟩
     obtain ⟨E,hE⟩:∃ E,a+partF (s.drop a) false=E:=⟨_,rfl⟩
     have hne:s.drop a≠[]:=by
      intro h
      have:=congrArg List.length h
      simp at this
      omega
     have hEle:E≤s.length+1:=by
      have:=part_le _ (s.drop a) false (Nat.le_refl _)
      rw [List.length_drop] at this
      omega
     have hdE:(s.drop a).drop (partF (s.drop a) false+1)=s.drop (E+1):=by rw [List.drop_drop,← hE];rfl
     rw [partsF,if_neg hne,List.length_drop] at hr
     rw [L43x0q]
     simp [hlt]
     refine ⟨s.length+2,end_loop (by omega) (E:=E) ?_ (s.length+2) a false _ _ _ _ _ _ _ _ _ _ _ _ _ _ _ _ _ _ _ _ _ _ _ _ _ _ _ _ _ _ _ _ _ _ _ _ _ _ _ _ _ _ _ _ _ _ _ _ _ _ _ _ _ _ _ _ _ _ _ _ _ (by omega) (by omega) hE⟩
     intro m q s1 s2 s3 s4 s9 d i j o p r u y z A B C D F G I J L M N O Q R S U V W Y Z aa ab ac ad ae af ag ah ai aj ak al am an ao ap aq ar au av aw ax ay az aA aB aC hst
     have hst':(E < s.length∧q=false∧s[E]?=some 32)∨¬ E < s.length:=by
      rcases hst with h | ⟨h1,h2⟩
      · exact .inr (by omega)
      · exact .inl ⟨(List.getElem?_eq_some_iff.1 h2).1,h1,h2⟩
     have w1:IntKind.i64.wrap ((E:Int)+1)=((E+1:Nat):Int):=by rw [wrap_i64 (by omega) (by omega)];omega
     rw [L43x1q]
     by_cases hgt:s.length < E
     · have hEs:¬ E < s.length:=by omega
       rw [if_pos (show s.length-a < partF (s.drop a) false by omega)] at hr
       simp [hEs,hgt]
       exact hk _ _ [] _ hp .nil (by rw [hr];simp)
     have hsl:=aSliceOp_str (P:=prog) (H:=K) (T:=9) (l:=s) (lo:=some (i64 a)) (hi:=some (i64 E)) (a:=a) (b:=(E:Int)) (by simp) rfl rfl (by omega) (by omega) (by omega)
     have hpt:(s.take E).drop a=(s.drop a).take (partF (s.drop a) false):=by rw [List.drop_take,show E-a=partF (s.drop a) false by omega]
     simp only [Int.toNat_natCast,hpt] at hsl
     rw [if_neg (show ¬ s.length-a < partF (s.drop a) false by omega)] at hr
     obtain ⟨mv,K2,T,r1,r2,r3,r4⟩:=r_all K ((s.drop a).take (partF (s.drop a) false))
     have hTl:T.length≤4097:=by
      have:=(allTok_ok (l:=(s.drop a).take (partF (s.drop a) false))).2
      rw [← r4] at this
      simpa using this
     rcases hst' with ⟨hEs,rfl,h32⟩ | hEs
     · have hix:=aIndex_at (P:=prog) (T:=9) (k:=.i64) (by simp) h32
       have h32b:((UInt8.toNat 32:Int) != 32)=false:=by decide
       simp [hEs,hix,hgt,hsl]
       refine bndC_of r1 ?_
       by_cases he:(allTok ((s.drop a).take (partF (s.drop a) false))).2.2=0
       · rw [if_neg (show ¬ (allTok ((s.drop a).take (partF (s.drop a) false))).2.2≠0 from fun h=>h he)] at hr
         simp [he]
         obtain ⟨v',K3,c1,c2,c3,c4,c5⟩:=(hg.pre r2).pushNT (P:=prog) (Ts:=80) (by_:=40) (x:=mv) (ds:=T.map rt) rtel1 rtel2 (fun c hc=>by obtain ⟨t,_,rfl⟩:=List.mem_map.1 hc;rfl) (by obtain ⟨X,rfl⟩:=hp.trans r2;simp) r3.src (by simp;omega) (by simp;omega)
         rw [c1]
         simp [w1]
         refine ih (E+1) f (acc++T) v' K3 _ _ _ _ _ _ _ _ _ _ _ _ _ _ _ _ _ _ _ _ _ _ _ _ _ _ _ _ _ _ _ _ _ _ _ _ _ _ _ _ _ _ _ _ _ _ _ _ _ _ _ _ _ _ _ _ _ _ _ _ _ _ _ (by omega) (by omega) (by omega) (by simp;omega) (c4 _ (hp.trans r2) (Nat.le_refl _)) (by rw [List.map_append];exact c2) ?_
         rw [hr,hdE]
         by_cases h2:(partsF f (s.drop (E+1))).2=0
         · simp [h2,r4]
         · simp [h2]
       · have hne2:((allTok ((s.drop a).take (partF (s.drop a) false))).2.2 != 0)=true:=by simpa using he
         rw [if_pos he] at hr
         simp [hne2]
         exact hk _ _ [] _ (hp.trans r2) .nil (by rw [hr];simp [he])
     · simp [hEs,hgt,hsl]
       refine bndC_of r1 ?_
       by_cases he:(allTok ((s.drop a).take (partF (s.drop a) false))).2.2=0
       · rw [if_neg (show ¬ (allTok ((s.drop a).take (partF (s.drop a) false))).2.2≠0 from fun h=>h he)] at hr
         simp [he]
         obtain ⟨v',K3,c1,c2,c3,c4,c5⟩:=(hg.pre r2).pushNT (P:=prog) (Ts:=80) (by_:=40) (x:=mv) (ds:=T.map rt) rtel1 rtel2 (fun c hc=>by obtain ⟨t,_,rfl⟩:=List.mem_map.1 hc;rfl) (by obtain ⟨X,rfl⟩:=hp.trans r2;simp) r3.src (by simp;omega) (by simp;omega)
         rw [c1]
         simp [w1]
         refine ih (E+1) f (acc++T) v' K3 _ _ _ _ _ _ _ _ _ _ _ _ _ _ _ _ _ _ _ _ _ _ _ _ _ _ _ _ _ _ _ _ _ _ _ _ _ _ _ _ _ _ _ _ _ _ _ _ _ _ _ _ _ _ _ _ _ _ _ _ _ _ _ (by omega) (by omega) (by omega) (by simp;omega) (c4 _ (hp.trans r2) (Nat.le_refl _)) (by rw [List.map_append];exact c2) ?_
         rw [hr,hdE]
         by_cases h2:(partsF f (s.drop (E+1))).2=0
         · simp [h2,r4]
         · simp [h2]
       · have hne2:((allTok ((s.drop a).take (partF (s.drop a) false))).2.2 != 0)=true:=by simpa using he
         rw [if_pos he] at hr
         simp [hne2]
         exact hk _ _ [] _ (hp.trans r2) .nil (by rw [hr];simp [he])
   · have hf0:partsF f (s.drop a)=([],0):=by
      rw [List.drop_eq_nil_of_le (by omega)]
      cases f with
      | zero=>rfl
      | succ f=>rw [partsF,if_pos rfl]
     rw [hf0] at hr
     rw [L43x0q]
     simp [hlt]
     exact hk _ _ acc _ hp hg (by rw [hr];simp)
theorem r_allTokens (H:AHeap) {s:List UInt8} (hs:s.length≤2 ^ 15):∃ v K,∃ T:List RTk,ACalls prog 43 [str s] H (.tuple #[v,i64 0,i64 (partsF (s.length+1) s).2]) K∧Pre H K∧Gro K H.length 4 122 v (T.map rt)∧T.map Prod.fst=(partsF (s.length+1) s).1:=by
 have key:∃ u K,(∃ v,∃ T:List RTk,u=.tuple #[v,i64 0,i64 (partsF (s.length+1) s).2]∧Pre H K∧Gro K H.length 4 122 v (T.map rt)∧T.map Prod.fst=(partsF (s.length+1) s).1)∧ACalls prog 43 [str s] H u K:=by
  refine acalls_ex MixT func43 (by decide) ?_
  rw [d43]
  refine ⟨s.length+2,rpt_loop (H:=H) (w:=partsF (s.length+1) s) hs ?_ (s.length+2) 0 (s.length+1) [] (.slice none 0 0) H _ _ _ _ _ _ _ _ _ _ _ _ _ _ _ _ _ _ _ _ _ _ _ _ _ _ _ _ _ _ _ _ _ _ _ _ _ _ _ _ _ _ _ _ _ _ _ _ _ _ _ _ _ _ _ _ _ _ _ _ _ _ _ (by omega) (by omega) (by omega) (by simp) (.refl _) .nil ?_⟩
  · intro v K T e g1 g2 g3
    rw [← g3]
    exact ⟨v,T,rfl,g1,g2,rfl⟩
  · rw [List.drop_zero]
    by_cases h:(partsF (s.length+1) s).2=0
    · rw [if_neg (by simpa using h)]
      simp [← h]
    · rw [if_pos h]
      rw [parts_err h]
 obtain ⟨u,K,⟨v,T,rfl,g1,g2,g3⟩,g4⟩:=key
 exact ⟨v,K,T,g4,g1,g2,g3⟩
end Go.Vi
namespace Go.Vi
open Go Go.Proofs Go.Proofs.Tryz
theorem selS_len {ms:List Mat} (h:∀ m∈ms,m.tame):(selS ms).length≤2+(2 ^ 22+1)*ms.length:=by
 have key:∀ (r:List Mat) (i:Nat),(∀ m∈r,m.tame)→(moreS i r).length≤1+(2 ^ 22+1)*r.length:=by
  intro r
  induction r with
  | nil=>intro i _;unfold moreS;split<;>simp [joinS]
  | cons m r ih =>
    intro i h
    have h1:=matS_len2 (h m (by simp))
    have h2:=ih (i+1) (fun x hx=>h x (by simp [hx]))
    have h3:(if 0 < i then [44] else ([]:List UInt8)).length≤1:=by split<;>simp
    rw [moreS_cons,List.length_append,List.length_append,List.length_cons]
    omega
 have:=key ms 0 h
 have e:selS ms=123 :: moreS 0 ms:=by simp [moreS,selS]
 rw [e,List.length_cons]
 omega
theorem decR_len {x:Int} (h:x < 2 ^ 63):(decR x).length≤20:=by
 unfold decR
 split
 · simp
 · exact natS_len (by omega)
def txl (ns:List Nod) (i:Nat):List (List UInt8):=(List.range ns.length).map fun j=>if j < i then txtR ns (j+1) j 0 else []
theorem txl_len (ns:List Nod) (i:Nat):(txl ns i).length=ns.length:=by simp [txl]
theorem txl_get {ns:List Nod} {i j:Nat} (hj:j < ns.length) (hi:j < i):(txl ns i)[j]?=some (txtR ns (j+1) j 0):=by
 unfold txl
 rw [List.getElem?_map,List.getElem?_range hj]
 simp [hi]
theorem txl_set (ns:List Nod) (i:Nat):(txl ns i).set i (txtR ns (i+1) i 0)=txl ns (i+1):=by
 apply List.ext_getElem?
 intro j
 rw [List.getElem?_set]
 by_cases hj:j < ns.length
 · by_cases he:i=j
   · subst he
     rw [if_pos rfl,if_pos (by rw [txl_len];exact hj),txl_get hj (by omega)]
   · rw [if_neg he]
     unfold txl
     rw [List.getElem?_map,List.getElem?_map,List.getElem?_range hj]
     by_cases h1:j < i
     · simp [h1,show j < i+1 by omega]
     · simp [h1,show ¬ j < i+1 by omega]
 · rw [List.getElem?_eq_none (l:=txl ns (i+1)) (by rw [txl_len];omega),List.getElem?_eq_none (l:=txl ns i) (by rw [txl_len];omega)]
   split
   · rw [txl_len]
     rename_i he
     rw [if_neg (by omega)]
   · rfl
theorem row_put {K:AHeap} {b i:Nat} {l:List (List UInt8)} {s:List UInt8} {T:TypeId} (hb:K[b]?=some (.cells (l.map str) T)) (hi:i < l.length) :
  ∃ p,aIndexAddr prog K 33 (.slice (some ⟨b,0,some l.length⟩) l.length l.length) (i64 i)=some p∧aStore prog K 9 p (str s)=some (K.set b (.cells ((l.set i s).map str) T)):=by
 have hc:hcells K b=some (l.map str):=by simp [hcells,hb]
 have hl:hlen K b=some l.length:=by rw [hcells_len hc];simp
 refine ⟨.pointer (some ⟨b,i,some l.length⟩),?_,?_⟩
 · rw [aIndexAddr_sl]
   simp [hl,slElem]
   omega
 · simp [hb,List.map_set]
   omega
theorem r_side {M:AHeap} {v:Value} {b i:Nat} {l:List (List UInt8)} {t:List UInt8} (c:Bool) (hb:hcells M b=some (l.map str)) (hi:l[i]?=some t) (ht:t.length≤2 ^ 40) :
  ACalls prog 42 [v,.slice (some ⟨b,0,some l.length⟩) l.length l.length,i64 i,.bool c] M (str (if c=true then [40]++t++[41] else t)) M:=by
 refine acalls_pure MixT func42 (by decide) rfl ?_
 rw [d42]
 obtain ⟨p,h1,h2⟩:=row_str (k:=.i64) hb hi
 have c1:∀ X Y,aBin2 prog M .add 9 X Y (.string ⟨#[40]⟩) (str t)=some (str (40 :: t)):=fun X Y=>aBin_str (a:=[40]) (b:=t) (by simp;omega)
 have c2:∀ X Y,aBin2 prog M .add 9 X Y (str (40 :: t)) (.string ⟨#[41]⟩)=some (str (40 :: t++[41])):=fun X Y=>aBin_str (a:=40 :: t) (b:=[41]) (by simp;omega)
 cases c
 · simp [h1,h2]
 · simp [h1,h2,c1,c2]
theorem side_txt {ns:List Nod} (hfit:∀ (j:Nat) n,ns[j]?=some n→fitN j n) {i l:Nat} {m:Nod} (hl:l < i) (hm:ns[l]?=some m) (least:Int) :
  txtR ns i l least=if strongI m.kind < least then [40]++txtR ns (l+1) l 0++[41] else txtR ns (l+1) l 0:=by
 rw [fit_txt hfit l i (l+1) least hl (by omega)]
 have hs:=strong_nn m.kind
 rw [txtR,txtR,hm]
 simp only
 rw [if_neg (show ¬ strongI m.kind < 0 by omega)]
theorem kind_of3 {k:UInt8} (h:k.toNat≤3):k=0∨k=1∨k=2∨k=3:=by
 have:∀ n,n≤3→UInt8.ofNat n=0∨UInt8.ofNat n=1∨UInt8.ofNat n=2∨UInt8.ofNat n=3:=by decide
 have:=this k.toNat h
 simpa using this
structure PrOk (ns:List Nod):Prop where
 win:∀ n∈ns,n.window < 2 ^ 63
 sel:∀ n∈ns,n.sel.length≤2 ^ 20
 tame:∀ n∈ns,∀ m∈n.sel,m.tame
theorem refP_long {ns:List Nod} (h1:1≤ns.length) (h31:ns.length≤31) (hfit:∀ (j:Nat) n,ns[j]?=some n→fitN j n) {i:Nat} (hi:i < ns.length) (hl:20000 < (txtR ns (i+1) i 0).length):refP ns=[]:=by
 unfold refP
 rw [if_neg (by omega),if_neg (fun h=>h hfit),if_pos ⟨i,hi,hl⟩]
theorem refP_end {ns:List Nod} (h1:1≤ns.length) (h31:ns.length≤31) (hfit:∀ (j:Nat) n,ns[j]?=some n→fitN j n) (hs:∀ i,i < ns.length→(txtR ns (i+1) i 0).length≤20000) {s:List UInt8} (he:txtR ns ns.length (ns.length-1) 0=s) :
  refP ns=if (partsF (s.length+1) s).2=0∧conO (partsF (s.length+1) s).1 0=some (ns,(partsF (s.length+1) s).1.length) then s else []:=by
 unfold refP
 rw [if_neg (by omega),if_neg (fun h=>h hfit),if_neg (by rintro ⟨i,hi,hl⟩;have:=hs i hi;omega),he]
 by_cases h:(partsF (s.length+1) s).2=0∧conO (partsF (s.length+1) s).1 0=some (ns,(partsF (s.length+1) s).1.length)
 · rw [if_pos h,if_pos h]
 · rw [if_neg h,if_neg h]
theorem NL.sel {K lo v ns} (h:NL K lo v ns):∀ n∈ns,n.sel.length < 2 ^ 63:=by
 obtain ⟨cl,h1,h2,h3⟩:=h
 intro n hn
 obtain ⟨i,hi⟩:=List.getElem?_of_mem hn
 obtain ⟨_,_,_,q⟩:=h3 i n hi
 omega
end Go.Vi
namespace Go.Vi
open Go Go.Proofs Go.Proofs.Tryz
section
variable {H:AHeap} {v:Value} {ns:List Nod} {k:Value→AHeap→Prop} {bb:Nat}
theorem txt_end (hn:NodesAt H v ns) (h1:1≤ns.length) (h31:ns.length≤31) (hfit:∀ (j:Nat) n,ns[j]?=some n→fitN j n) (hk:∀ K,Pre H K→k (str (refP ns)) K) (m:Nat) (M:AHeap) (s1 s2 s3 s4 s7 s8 s9 cf cg ch ci cj ck cl cm cn co cp cq cr cs ct cu cv cw cx cy cz cA cB cC cD cE cF cG cH cI cJ cK cL cM cN cO cP cQ cR cS cT cU cV cW cX cY cZ c0 c5 c6 c7 c8 c9 da db dc dd de df dg dh di dj dk dl dm dn dp dq dr ds dt du dv dw dx dy dz dA dB dC dD dE dF dG dH dI dJ dK dL c d f g l o r t x y z A B C D E F G I L N O Q R S U V W X Y Z aa ab ac ad ae af ag ah ai aj ak al am an ao ap aq ar au av aw ax ay az aA aB aC aD aE aF aG aH aI aJ aK aL aM aN aO aP aQ aR aS aT aU aV aW aX aY aZ a0 a1 a2 a3 a4 a5 a6 a7 a8 a9 ba bc bd be bf bg bh bi bj bk bl bm bn bo bp bq br bs bt bu bv bw bx bz bA bB bC bD bE bF bG bH bI bJ bK bL bM bN bO bP bQ bR bS bT bU bV bW bX bY bZ b0 b1 b2 b3 b4 b5 b6 b7 b8 b9 ca cb cc cd ce:Value) (hp:Pre H M)
  (hb:M[bb]?=some (.cells ((txl ns ns.length).map str) 9)) (hs:∀ i,i < ns.length→(txtR ns (i+1) i 0).length≤20000) :
  L26x1 (m+1) k [v,s1,s2,s3,s4,.slice (some ⟨bb,0,some ns.length⟩) ns.length ns.length,i64 ns.length,s7,s8,s9,cf,cg,ch,ci,cj,ck,cl,cm,cn,co,cp,cq,cr,cs,ct,cu,cv,cw,cx,cy,cz,cA,cB,cC,cD,cE,cF,cG,cH,cI,cJ,cK,cL,cM,cN,cO,cP,cQ,cR,cS,cT,cU,cV,cW,cX,cY,cZ,c0,c5,c6,c7,c8,c9,da,db,dc,dd,de,df,dg,dh,di,dj,dk,dl,dm,dn,dp,dq,dr,ds,dt,du,dv,dw,dx,dy,dz,dA,dB,dC,dD,dE,dF,dG,dH,dI,dJ,dK,dL,c,d,f,g,l,o,r,t,x,y,z,A,B,C,D,E,F,G,I,L,N,O,Q,R,S,U,V,W,X,Y,Z,aa,ab,ac,ad,ae,af,ag,ah,ai,aj,ak,al,am,an,ao,ap,aq,ar,au,av,aw,ax,ay,az,aA,aB,aC,aD,aE,aF,aG,aH,aI,aJ,aK,aL,aM,aN,aO,aP,aQ,aR,aS,aT,aU,aV,aW,aX,aY,aZ,a0,a1,a2,a3,a4,a5,a6,a7,a8,a9,ba,bc,bd,be,bf,bg,bh,bi,bj,bk,bl,bm,bn,bo,bp,bq,br,bs,bt,bu,bv,bw,bx,bz,bA,bB,bC,bD,bE,bF,bG,bH,bI,bJ,bK,bL,bM,bN,bO,bP,bQ,bR,bS,bT,bU,bV,bW,bX,bY,bZ,b0,b1,b2,b3,b4,b5,b6,b7,b8,b9,ca,cb,cc,cd,ce] M:=by
 have hlen:=fun J=>(hn.pre hp).len J
 obtain ⟨s,he⟩:∃ s,txtR ns ns.length (ns.length-1) 0=s:=⟨_,rfl⟩
 have hR:=refP_end h1 h31 hfit hs he
 have hsl:s.length≤20000:=by
  have:=hs (ns.length-1) (by omega)
  rw [show ns.length-1+1=ns.length by omega,he] at this
  exact this
 have hget:(txl ns ns.length)[ns.length-1]?=some s:=by
  rw [txl_get (by omega) (by omega),show ns.length-1+1=ns.length by omega,he]
 have hc:hcells M bb=some ((txl ns ns.length).map str):=by simp [hcells,hb]
 obtain ⟨p,p1,p2⟩:=row_str (k:=.i64) hc hget
 rw [txl_len] at p1
 have hw:IntKind.i64.wrap ((ns.length:Int)-1)=((ns.length-1:Nat):Int):=by rw [wrap_i64 (by omega) (by omega)];omega
 obtain ⟨mv,K2,T,r1,r2,r3,r4⟩:=r_allTokens M (s:=s) (by omega)
 obtain ⟨q1,q2⟩:=parts_len (s.length+1) s
 obtain ⟨w,hw2⟩:∃ w,partsF (s.length+1) s=w:=⟨_,rfl⟩
 rw [hw2] at hR r1 r4 q1 q2
 have hTl:T.length=w.1.length:=by rw [← r4];simp
 have hTA:RTA K2 mv T:=⟨r3.arr,by omega⟩
 obtain ⟨u,K4,⟨wv,next,out,rfl,c1,c2,c3,c4⟩,hcon⟩:=r_condition (K:=K2) (a:=0) hTA (by omega) (fun p hp=>q2 p.1 (by rw [← r4];exact List.mem_map_of_mem hp)) (by omega)
 rw [r4] at c4
 have hml:∀ J,aLen prog J 80 mv=some (i64 T.length):=fun J=>by
  have:=r3.arr.len' (K:=J) (P:=prog) (T:=80) (e:=122) (by simp)
  simpa using this
 have hpK:=(hp.trans r2).trans c1
 rw [L26x1q]
 simp [hlen,hw,p1,p2]
 refine bndC_of r1 ?_
 simp
 refine bndC_of hcon ?_
 by_cases he0:w.2=0
 · have hnone:conO w.1 0≠some (ns,w.1.length)→k (str []) K4:=by
    intro h
    rw [if_neg (fun q=>h q.2)] at hR
    rw [← hR]
    exact hk K4 hpK
   by_cases hnx:next=T.length
   · have hb':(next != (T.length:Int))=false:=by simp [hnx]
     simp [he0,hml,hb']
     refine bndG_call (.bool (decide (out=ns))) (fun _=>r_sameN c2.nodes (hn.pre hpK) (by omega) c2.sel) ?_
     cases hco:conO w.1 0 with
     | none =>
       rw [hco] at c4
       simp only at c4
       omega
     | some p =>
       rw [hco] at c4
       simp only at c4
       obtain ⟨g1,g2⟩:=c4
       rw [List.nil_append] at g1
       by_cases hon:out=ns
       · have:conO w.1 0=some (ns,w.1.length):=by
          rw [hco];obtain ⟨a,b⟩:=p;simp only at g1 g2;rw [g1,hon];congr 2;omega
         rw [if_pos ⟨he0,this⟩] at hR
         simp [hon]
         rw [← hR]
         exact hk K4 hpK
       · simp [hon]
         refine hnone ?_
         rw [hco]
         intro e
         cases e
         exact hon g1.symm
   · have hb':(next != (T.length:Int))=true:=by simp [hnx]
     simp [he0,hml,hb']
     refine hnone ?_
     intro e
     rw [e] at c4
     simp only at c4
     omega
 · have hb':(w.2 != 0)=true:=by simpa using he0
   rw [if_neg (fun q=>he0 q.1)] at hR
   simp [hb']
   rw [← hR]
   exact hk K4 hpK
end
end Go.Vi
namespace Go.Vi
open Go Go.Proofs Go.Proofs.Tryz
section
variable {H:AHeap} {v:Value} {ns:List Nod} {k:Value→AHeap→Prop} {bb:Nat}
set_option maxHeartbeats 4000000 in
set_option maxRecDepth 20000 in
theorem txt_loop (hn:NodesAt H v ns) (h1:1≤ns.length) (h31:ns.length≤31) (hok:PrOk ns) (hfit:∀ (j:Nat) n,ns[j]?=some n→fitN j n) (hbb:H.length≤bb) (hk:∀ K,Pre H K→k (str (refP ns)) K) :
  ∀ (d i : Nat) (M : AHeap) (s1 s2 s3 s4 s7 s8 s9 cH cI cJ cK cL cM cN cO cP cQ cR cS cT cU cV cW cX cY cZ c0 c5 c6 c7 c8 c9 da db dc dd de df dg dh di dj dk dl dm dn dp dq dr ds dt du dv dw dx dy dz dA dB dC dD dE dF dG dH dI dJ dK dL dM dN dO dP dQ dR dS dT dU dV dW dX dY dZ d0 d3 d4 d5 d6 d7 d8 d9 ea eb ec ed ee ef g o r w B D E F G I O Q U X Y Z aa ab ac ad ae af ag ah ai aj ak al am an ao ap aq ar au av aw ax ay az aA aB aC aD aE aF aG aH aI aJ aK aL aM aN aO aP aQ aR aS aT aU aV aW aX aY aZ a0 a9 ba bc bd be bf bg bh bi bj bk bl bm bn bo bp bq br bs bt bu bv bw bx bz bA bB bC bD bE bF bG bH bI bJ bK bL bM bN bO bP bQ bR bS bT bU bV bW bX bY bZ b0 b5 b6 b7 b8 b9 ca cb cc cd ce cf cg ch ci cj ck cm cn co cp cq cr cs ct cu cv cw cx cy cz cA cB cC cD cE cF cG : Value), d + i = ns.length → Pre H M → M[bb]? = some (.cells ((txl ns i).map str) 9) → (∀ j, j < i → (txtR ns (j + 1) j 0).length ≤ 20000) →
    L26x1 (d+1) k [v,s1,s2,s3,s4,.slice (some ⟨bb,0,some ns.length⟩) ns.length ns.length,i64 i,s7,s8,s9,cH,cI,cJ,cK,cL,cM,cN,cO,cP,cQ,cR,cS,cT,cU,cV,cW,cX,cY,cZ,c0,c5,c6,c7,c8,c9,da,db,dc,dd,de,df,dg,dh,di,dj,dk,dl,dm,dn,dp,dq,dr,ds,dt,du,dv,dw,dx,dy,dz,dA,dB,dC,dD,dE,dF,dG,dH,dI,dJ,dK,dL,dM,dN,dO,dP,dQ,dR,dS,dT,dU,dV,dW,dX,dY,dZ,d0,d3,d4,d5,d6,d7,d8,d9,ea,eb,ec,ed,ee,ef,g,o,r,w,B,D,E,F,G,I,O,Q,U,X,Y,Z,aa,ab,ac,ad,ae,af,ag,ah,ai,aj,ak,al,am,an,ao,ap,aq,ar,au,av,aw,ax,ay,az,aA,aB,aC,aD,aE,aF,aG,aH,aI,aJ,aK,aL,aM,aN,aO,aP,aQ,aR,aS,aT,aU,aV,aW,aX,aY,aZ,a0,a9,ba,bc,bd,be,bf,bg,bh,bi,bj,bk,bl,bm,bn,bo,bp,bq,br,bs,bt,bu,bv,bw,bx,bz,bA,bB,bC,bD,bE,bF,bG,bH,bI,bJ,bK,bL,bM,bN,bO,bP,bQ,bR,bS,bT,bU,bV,bW,bX,bY,bZ,b0,b5,b6,b7,b8,b9,ca,cb,cc,cd,ce,cf,cg,ch,ci,cj,ck,cm,cn,co,cp,cq,cr,cs,ct,cu,cv,cw,cx,cy,cz,cA,cB,cC,cD,cE,cF,cG] M:=by
 intro d
 induction d with
 | zero =>
   intro i M s1 s2 s3 s4 s7 s8 s9 cH cI cJ cK cL cM cN cO cP cQ cR cS cT cU cV cW cX cY cZ c0 c5 c6 c7 c8 c9 da db dc dd de df dg dh di dj dk dl dm dn dp dq dr ds dt du dv dw dx dy dz dA dB dC dD dE dF dG dH dI dJ dK dL dM dN dO dP dQ dR dS dT dU dV dW dX dY dZ d0 d3 d4 d5 d6 d7 d8 d9 ea eb ec ed ee ef g o r w B D E F G I O Q U X Y Z aa ab ac ad ae af ag ah ai aj ak al am an ao ap aq ar au av aw ax ay az aA aB aC aD aE aF aG aH aI aJ aK aL aM aN aO aP aQ aR aS aT aU aV aW aX aY aZ a0 a9 ba bc bd be bf bg bh bi bj bk bl bm bn bo bp bq br bs bt bu bv bw bx bz bA bB bC bD bE bF bG bH bI bJ bK bL bM bN bO bP bQ bR bS bT bU bV bW bX bY bZ b0 b5 b6 b7 b8 b9 ca cb cc cd ce cf cg ch ci cj ck cm cn co cp cq cr cs ct cu cv cw cx cy cz cA cB cC cD cE cF cG hi hp hb hs
   obtain rfl:i=ns.length:=by omega
   exact txt_end hn h1 h31 hfit hk 0 M _ _ _ _ _ _ _ _ _ _ _ _ _ _ _ _ _ _ _ _ _ _ _ _ _ _ _ _ _ _ _ _ _ _ _ _ _ _ _ _ _ _ _ _ _ _ _ _ _ _ _ _ _ _ _ _ _ _ _ _ _ _ _ _ _ _ _ _ _ _ _ _ _ _ _ _ _ _ _ _ _ _ _ _ _ _ _ _ _ _ _ _ _ _ _ _ _ _ _ _ _ _ _ _ _ _ _ _ _ _ _ _ _ _ _ _ _ _ _ _ _ _ _ _ _ _ _ _ _ _ _ _ _ _ _ _ _ _ _ _ _ _ _ _ _ _ _ _ _ _ _ _ _ _ _ _ _ _ _ _ _ _ _ _ _ _ _ _ _ _ _ _ _ _ _ _ _ _ _ _ _ _ _ _ _ _ _ _ _ _ _ _ _ _ _ _ _ _ _ _ _ _ _ _ _ _ _ _ _ _ _ _ _ _ _ _ _ _ _ _ _ _ _ _ _ _ _ _ _ _ _ _ _ _ _ _ _ _ _ _ _ _ _ _ _ _ _ _ _ _ _ _ _ hp hb hs
 | succ d ih =>
   intro i M s1 s2 s3 s4 s7 s8 s9 cH cI cJ cK cL cM cN cO cP cQ cR cS cT cU cV cW cX cY cZ c0 c5 c6 c7 c8 c9 da db dc dd de df dg dh di dj dk dl dm dn dp dq dr ds dt du dv dw dx dy dz dA dB dC dD dE dF dG dH dI dJ dK dL dM dN dO dP dQ dR dS dT dU dV dW dX dY dZ d0 d3 d4 d5 d6 d7 d8 d9 ea eb ec ed ee ef g o r w B D E F G I O Q U X Y Z aa ab ac ad ae af ag ah ai aj ak al am an ao ap aq ar au av aw ax ay az aA aB aC aD aE aF aG aH aI aJ aK aL aM aN aO aP aQ aR aS aT aU aV aW aX aY aZ a0 a9 ba bc bd be bf bg bh bi bj bk bl bm bn bo bp bq br bs bt bu bv bw bx bz bA bB bC bD bE bF bG bH bI bJ bK bL bM bN bO bP bQ bR bS bT bU bV bW bX bY bZ b0 b5 b6 b7 b8 b9 ca cb cc cd ce cf cg ch ci cj ck cm cn co cp cq cr cs ct cu cv cw cx cy cz cA cB cC cD cE cF cG hi hp hb hs
   have hlt:i < ns.length:=by omega
   obtain ⟨n,hnd⟩:∃ n,ns[i]?=some n:=⟨_,List.getElem?_eq_getElem hlt⟩
   have hmem:n∈ns:=List.mem_of_getElem? hnd
   obtain ⟨f1,f2,f3⟩:=hfit i n hnd
   have hlen:=fun J=>(hn.pre hp).len J
   obtain ⟨cl,ha,hcl,hc⟩:=hn.pre hp
   obtain ⟨sv,hsv,hm,hml⟩:=hc _ _ hnd
   obtain ⟨p,hp1,hp2⟩:=ha.load (P:=prog) (T:=32) (te:=54) (i:=i) (e:=n.cells sv) (by simp) (by simp) (by simp) hsv
   have hone:=hm.one
   have hcM:hcells (M++[.cells (n.cells sv) 54]) M.length=some (n.cells sv):=by simp
   have hpM:Pre M (M++[.cells (n.cells sv) 54]):=.app _ _
   -- what follows once the text is laid
   have fin:∀ (M2:AHeap) (s1 s2 s3 s4 s7 s8 s9 cH cI cJ cK cL cM cN cO cP cQ cR cS cT cU cV cW cX cY cZ c0 c5 c6 c7 c8 c9 da db dc dd de df dg dh di dj dk dl dm dn dp dq dr ds dt du dv dw dx dy dz dA dB dC dD dE dF dG dH dI dJ dK dL dM dN dO dP dQ dR dS dT dU dV dW dX dY dZ d0 d3 d4 d5 d6 d7 d8 d9 ea eb ec ed ee ef g o r w B D E F G I O Q U X Y Z aa ab ac ad ae af ag ah ai aj ak al am an ao ap aq ar au av aw ax ay az aA aB aC aD aE aF aG aH aI aJ aK aL aM aN aO aP aQ aR aS aT aU aV aW aX aY aZ a0 a9 ba bc bd be bf bg bh bi bj bk bl bm bn bo bp bq br bs bt bu bv bw bx bz bA bB bC bD bE bF bG bH bI bJ bK bL bM bN bO bP bQ bR bS bT bU bV bW bX bY bZ b0 b5 b6 b7 b8 b9 ca cb cc cd ce cf cg ch ci cj ck cm cn co cp cq cr cs ct cu cv cw cx cy cz cA cB cC cD cE cF cG:Value),Pre H M2→M2[bb]?=some (.cells ((txl ns (i+1)).map str) 9)→S26x0 (d+1) k [v,s1,s2,s3,s4,.slice (some ⟨bb,0,some ns.length⟩) ns.length ns.length,i64 i,s7,s8,s9,cH,cI,cJ,cK,cL,cM,cN,cO,cP,cQ,cR,cS,cT,cU,cV,cW,cX,cY,cZ,c0,c5,c6,c7,c8,c9,da,db,dc,dd,de,df,dg,dh,di,dj,dk,dl,dm,dn,dp,dq,dr,ds,dt,du,dv,dw,dx,dy,dz,dA,dB,dC,dD,dE,dF,dG,dH,dI,dJ,dK,dL,dM,dN,dO,dP,dQ,dR,dS,dT,dU,dV,dW,dX,dY,dZ,d0,d3,d4,d5,d6,d7,d8,d9,ea,eb,ec,ed,ee,ef,g,o,r,w,B,D,E,F,G,I,O,Q,U,X,Y,Z,aa,ab,ac,ad,ae,af,ag,ah,ai,aj,ak,al,am,an,ao,ap,aq,ar,au,av,aw,ax,ay,az,aA,aB,aC,aD,aE,aF,aG,aH,aI,aJ,aK,aL,aM,aN,aO,aP,aQ,aR,aS,aT,aU,aV,aW,aX,aY,aZ,a0,a9,ba,bc,bd,be,bf,bg,bh,bi,bj,bk,bl,bm,bn,bo,bp,bq,br,bs,bt,bu,bv,bw,bx,bz,bA,bB,bC,bD,bE,bF,bG,bH,bI,bJ,bK,bL,bM,bN,bO,bP,bQ,bR,bS,bT,bU,bV,bW,bX,bY,bZ,b0,b5,b6,b7,b8,b9,ca,cb,cc,cd,ce,cf,cg,ch,ci,cj,ck,cm,cn,co,cp,cq,cr,cs,ct,cu,cv,cw,cx,cy,cz,cA,cB,cC,cD,cE,cF,cG] M2:=by
    intro M2 s1 s2 s3 s4 s7 s8 s9 cH cI cJ cK cL cM cN cO cP cQ cR cS cT cU cV cW cX cY cZ c0 c5 c6 c7 c8 c9 da db dc dd de df dg dh di dj dk dl dm dn dp dq dr ds dt du dv dw dx dy dz dA dB dC dD dE dF dG dH dI dJ dK dL dM dN dO dP dQ dR dS dT dU dV dW dX dY dZ d0 d3 d4 d5 d6 d7 d8 d9 ea eb ec ed ee ef g o r w B D E F G I O Q U X Y Z aa ab ac ad ae af ag ah ai aj ak al am an ao ap aq ar au av aw ax ay az aA aB aC aD aE aF aG aH aI aJ aK aL aM aN aO aP aQ aR aS aT aU aV aW aX aY aZ a0 a9 ba bc bd be bf bg bh bi bj bk bl bm bn bo bp bq br bs bt bu bv bw bx bz bA bB bC bD bE bF bG bH bI bJ bK bL bM bN bO bP bQ bR bS bT bU bV bW bX bY bZ b0 b5 b6 b7 b8 b9 ca cb cc cd ce cf cg ch ci cj ck cm cn co cp cq cr cs ct cu cv cw cx cy cz cA cB cC cD cE cF cG hp2 hb2
    have hc2:hcells M2 bb=some ((txl ns (i+1)).map str):=by simp [hcells,hb2]
    obtain ⟨q,q1,q2⟩:=row_str (k:=.i64) hc2 (txl_get (ns:=ns) hlt (Nat.lt_succ_self i))
    rw [txl_len] at q1
    rw [S26x0q]
    have w1:IntKind.i64.wrap ((i:Int)+1)=((i+1:Nat):Int):=by rw [wrap_i64 (by omega) (by omega)];omega
    by_cases hl:20000 < (txtR ns (i+1) i 0).length
    · have hlI:(20000:Int) < (txtR ns (i+1) i 0).length:=by omega
      have:=hk M2 hp2
      rw [refP_long h1 h31 hfit hlt hl] at this
      simp [q1,q2,hlI]
      exact this
    · have hlI:¬ (20000:Int) < (txtR ns (i+1) i 0).length:=by omega
      simp [q1,q2,hlI,w1]
      rw [show ((i:Int)+1)=((i+1:Nat):Int) by omega]
      exact ih (i+1) M2 _ _ _ _ _ _ _ _ _ _ _ _ _ _ _ _ _ _ _ _ _ _ _ _ _ _ _ _ _ _ _ _ _ _ _ _ _ _ _ _ _ _ _ _ _ _ _ _ _ _ _ _ _ _ _ _ _ _ _ _ _ _ _ _ _ _ _ _ _ _ _ _ _ _ _ _ _ _ _ _ _ _ _ _ _ _ _ _ _ _ _ _ _ _ _ _ _ _ _ _ _ _ _ _ _ _ _ _ _ _ _ _ _ _ _ _ _ _ _ _ _ _ _ _ _ _ _ _ _ _ _ _ _ _ _ _ _ _ _ _ _ _ _ _ _ _ _ _ _ _ _ _ _ _ _ _ _ _ _ _ _ _ _ _ _ _ _ _ _ _ _ _ _ _ _ _ _ _ _ _ _ _ _ _ _ _ _ _ _ _ _ _ _ _ _ _ _ _ _ _ _ _ _ _ _ _ _ _ _ _ _ _ _ _ _ _ _ _ _ _ _ _ _ _ _ _ _ _ _ _ _ _ _ _ _ _ _ _ _ _ _ _ _ _ _ _ _ _ _ _ _ _ _ (by omega) hp2 hb2 (fun j hj=>by
       by_cases e:j=i
       · subst e;omega
       · exact hs j (by omega))
   -- the text is laid
   have put:∀ (N:AHeap) (t:List UInt8),Pre H N→N[bb]?=some (.cells ((txl ns i).map str) 9)→t=txtR ns (i+1) i 0 →
     ∃ p N2,aIndexAddr prog N 33 (.slice (some ⟨bb,0,some ns.length⟩) ns.length ns.length) (i64 i)=some p∧aStore prog N 9 p (str t)=some N2∧Pre H N2∧N2[bb]?=some (.cells ((txl ns (i+1)).map str) 9):=by
    intro N t hpN hbN ht
    obtain ⟨q,q1,q2⟩:=row_put (s:=t) hbN (show i < (txl ns i).length by rw [txl_len];exact hlt)
    rw [txl_len] at q1
    refine ⟨q,_,q1,q2,hpN.set (by omega),?_⟩
    rw [List.getElem?_set_self (List.getElem?_eq_some_iff.1 hbN).1,ht,txl_set]
   rw [L26x1q]
   generalize hM:M++[AObj.cells (n.cells sv) 54]=M1 at hcM hpM
   have hp1':=hp.trans hpM
   have hb1:M1[bb]?=some (.cells ((txl ns i).map str) 9):=hpM.get hb
   have hc1:hcells M1 bb=some ((txl ns i).map str):=by simp [hcells,hb1]
   have hm1:=hm.pre hpM
   have hn1:=hn.pre hp1'
   simp only [Nod.cells] at hcM hM
   have hlM:Vi.hlen M1 M.length=some 8:=by rw [hcells_len hcM];rfl
   simp [hlen,hlt,hp1,hp2,Nod.cells,hone,hM,hcM,hlM]
   have kind_at:∀ (l:Nat) (m:Nod),ns[l]?=some m→∃ q q0,aIndexAddr prog M1 32 v (i64 l)=some q∧aFieldAddr prog M1 54 q 0=some q0∧aLoad prog M1 5 q0=some (byt m.kind):=by
    intro l m hl
    obtain ⟨cl,ha,hcl,hc⟩:=hn1
    obtain ⟨sv,hsv,_,_⟩:=hc _ _ hl
    exact ha.field (P:=prog) (T:=32) (te:=54) (ft:=5) (f:=0) (d:=0) (x:=byt m.kind) (by simp) (by simp) (by simp) (by simp) (by simp) hsv rfl
   have sideK:∀ (l:Nat) (m:Nod) (c:Bool) (least:Int),l < i→ns[l]?=some m→(c=true↔strongI m.kind < least) →
     ACalls prog 42 [v,.slice (some ⟨bb,0,some ns.length⟩) ns.length ns.length,i64 l,.bool c] M1 (str (txtR ns i l least)) M1∧(txtR ns i l least).length≤20002:=by
    intro l m c least hl hm hcl
    have hts:=hs l hl
    have rs:=r_side (M:=M1) (v:=v) c hc1 (txl_get (ns:=ns) (by omega) hl) (by omega)
    rw [txl_len] at rs
    have e:=side_txt hfit hl hm least
    have e2:(if c=true then [40]++txtR ns (l+1) l 0++[41] else txtR ns (l+1) l 0)=txtR ns i l least:=by
     rw [e]
     by_cases hh:strongI m.kind < least
     · rw [if_pos hh,if_pos (hcl.2 hh)]
     · rw [if_neg hh,if_neg (fun q=>hh (hcl.1 q))]
    rw [e2] at rs
    refine ⟨rs,?_⟩
    rw [e]
    split
    · simp;omega
    · omega
   have node_of:∀ l,l < i→∃ m,ns[l]?=some m∧(m.kind=0∨m.kind=1∨m.kind=2∨m.kind=3):=by
    intro l hl
    obtain ⟨m,hm⟩:∃ m,ns[l]?=some m:=⟨_,List.getElem?_eq_getElem (by omega)⟩
    exact ⟨m,hm,kind_of3 (hfit l m hm).1⟩
   have kq:∀ (u:UInt8) (c:UInt8),(((u.toNat:Int) == c.toNat)=true↔u=c):=by
    intro u c
    exact ⟨fun h=>kind_of h,fun h=>by rw [h];simp⟩
   have cat:=fun (a b:List UInt8) (h:a.length+b.length < 2 ^ 63) x y=>aBin_str (P:=prog) (H:=M1) (T:=9) (x:=x) (y:=y) (a:=a) (b:=b) h
   rcases kind_of3 f1 with k0 | k1 | k2 | k3
   · obtain ⟨g1,g2⟩:=f2 k0
     have e0:((n.kind.toNat:Int) == 0)=true:=by rw [k0];rfl
     have htx:txtR ns (i+1) i 0=leafR n:=by
      rw [txtR,hnd]
      simp only [k0,if_true]
      rw [if_neg (by decide)]
     have hwin:=hok.win n hmem
     have hsl:=selS_len (hok.tame n hmem)
     have hsl2:=hok.sel n hmem
     have l1:(aggs.getD n.agg.toNat []).length≤5:=getD_len (by decide)
     have l2:(cmps.getD n.cmp.toNat []).length≤2:=getD_len (by decide)
     have l3:=fixS_len n.value
     have l4:=decR_len hwin
     have r1:=r_aggregate M1 (i:=n.agg.toNat) (by omega)
     have r2:=r_sel hm1 hsl2 (hok.tame n hmem)
     have r3:=r_decimal M1 hwin
     have r4:=r_compare M1 (i:=n.cmp.toNat) (by omega)
     have r5:=r_fix M1 n.value
     unfold leafR at htx
     generalize aggs.getD n.agg.toNat []=A at htx l1 r1
     generalize cmps.getD n.cmp.toNat []=C at htx l2 r4
     generalize fixS n.value=V at htx l3 r5
     generalize decR n.window=W at htx l4 r3
     generalize selS n.sel=S at htx hsl r2
     have a1:=cat A [40] (by simp;omega)
     have a2:=cat (A++[40]) S (by simp;omega)
     have a3:=cat (A++[40]++S) [91] (by simp;omega)
     have a4:=cat (A++[40]++S++[91]) W (by simp;omega)
     have a5:=cat (A++[40]++S++[91]++W) [93,41,32] (by simp;omega)
     have a6:=cat (A++[40]++S++[91]++W++[93,41,32]) C (by simp;omega)
     have a7:=cat (A++[40]++S++[91]++W++[93,41,32]++C) [32] (by simp;omega)
     have a8:=cat (A++[40]++S++[91]++W++[93,41,32]++C++[32]) V (by simp;omega)
     obtain ⟨q,N2,b1,b2,b3,b4⟩:=put M1 _ hp1' hb1 htx.symm
     have e0':(n.kind.toNat:Int)=0:=by rw [k0];rfl
     simp [e0',hcM,hlM]
     refine bndD_same r1 ?_
     dsimp only
     refine bnd_of (a1 _ _) ?_
     simp [hcM,hlM]
     refine bndD_same r2 ?_
     dsimp only
     refine bnd_of (a2 _ _) ?_
     dsimp only
     refine bnd_of (a3 _ _) ?_
     simp [hcM,hlM]
     refine bndD_same r3 ?_
     dsimp only
     refine bnd_of (a4 _ _) ?_
     dsimp only
     refine bnd_of (a5 _ _) ?_
     simp [hcM,hlM]
     refine bndD_same r4 ?_
     dsimp only
     refine bnd_of (a6 _ _) ?_
     dsimp only
     refine bnd_of (a7 _ _) ?_
     simp [hcM,hlM]
     refine bndD_same r5 ?_
     dsimp only
     refine bnd_of (a8 _ _) ?_
     dsimp only
     refine bnd_of b1 ?_
     dsimp only
     refine bndD_of ⟨rfl,b2⟩ (.inl rfl) ?_
     exact fin N2 _ _ _ _ _ _ _ _ _ _ _ _ _ _ _ _ _ _ _ _ _ _ _ _ _ _ _ _ _ _ _ _ _ _ _ _ _ _ _ _ _ _ _ _ _ _ _ _ _ _ _ _ _ _ _ _ _ _ _ _ _ _ _ _ _ _ _ _ _ _ _ _ _ _ _ _ _ _ _ _ _ _ _ _ _ _ _ _ _ _ _ _ _ _ _ _ _ _ _ _ _ _ _ _ _ _ _ _ _ _ _ _ _ _ _ _ _ _ _ _ _ _ _ _ _ _ _ _ _ _ _ _ _ _ _ _ _ _ _ _ _ _ _ _ _ _ _ _ _ _ _ _ _ _ _ _ _ _ _ _ _ _ _ _ _ _ _ _ _ _ _ _ _ _ _ _ _ _ _ _ _ _ _ _ _ _ _ _ _ _ _ _ _ _ _ _ _ _ _ _ _ _ _ _ _ _ _ _ _ _ _ _ _ _ _ _ _ _ _ _ _ _ _ _ _ _ _ _ _ _ _ _ _ _ _ _ _ _ _ _ _ _ _ _ _ _ _ _ _ _ _ _ _ b3 b4
   · obtain ⟨g1,g2,g3,g4⟩:=f3 (by rw [k1];decide)
     have g5:=g4 (by rw [k1];decide)
     obtain ⟨L,hL⟩:∃ L:Nat,n.left=L:=⟨n.left.toNat,by omega⟩
     obtain ⟨R,hR⟩:∃ R:Nat,n.right=R:=⟨n.right.toNat,by omega⟩
     obtain ⟨ml,l1,l2⟩:=node_of L (by omega)
     obtain ⟨mr,r1,r2⟩:=node_of R (by omega)
     obtain ⟨q,q0,a1,a2,a3⟩:=kind_at L ml l1
     obtain ⟨x,x0,b1,b2,b3⟩:=kind_at R mr r1
     have htx:txtR ns (i+1) i 0=txtR ns i L 1++[32,97,110,100,32]++txtR ns i R 2:=by
      have e0:¬ ((1:UInt8)=0):=by decide
      have e3:¬ ((1:UInt8)=3):=by decide
      have es:¬ strongI 1 < 0:=by decide
      rw [txtR,hnd]
      simp only [k1,hL,hR,e0,e3,es,if_false,if_true,Int.toNat_natCast]
     obtain ⟨c1,c2⟩:=sideK L ml ((ml.kind.toNat:Int) == 2) 1 (by omega) l1 (by rw [(strong_of l2).1];exact kq ml.kind 2)
     have h2':∀ c:Bool,(c=true↔mr.kind=1∨mr.kind=2)→_:=fun c hc=>sideK R mr c 2 (by omega) r1 (by rw [(strong_of r2).2];exact hc)
     obtain ⟨_,c3⟩:=h2' (decide (mr.kind=1∨mr.kind=2)) (by simp)
     have d1:=cat (txtR ns i L 1) [32,97,110,100,32] (by simp;omega)
     have d2:=cat (txtR ns i L 1++[32,97,110,100,32]) (txtR ns i R 2) (by simp;omega)
     obtain ⟨z,N2,z1,z2,z3,z4⟩:=put M1 _ hp1' hb1 htx.symm
     have e1:(n.kind.toNat:Int)=1:=by rw [k1];rfl
     simp only [hL,hR] at hcM
     simp [e1,hcM,hlM,a1,a2,a3]
     refine bndD_same c1 ?_
     dsimp only
     refine bnd_of (d1 _ _) ?_
     cases hq1:((mr.kind.toNat:Int) == 1) with
     | true =>
       obtain ⟨c4,_⟩:=h2' true (by simp [(kq mr.kind 1).1 hq1])
       simp [hcM,hlM,b1,b2,b3,hq1]
       refine bndD_same c4 ?_
       dsimp only
       refine bnd_of (d2 _ _) ?_
       dsimp only
       refine bnd_of z1 ?_
       dsimp only
       refine bndD_of ⟨rfl,z2⟩ (.inl rfl) ?_
       exact fin N2 _ _ _ _ _ _ _ _ _ _ _ _ _ _ _ _ _ _ _ _ _ _ _ _ _ _ _ _ _ _ _ _ _ _ _ _ _ _ _ _ _ _ _ _ _ _ _ _ _ _ _ _ _ _ _ _ _ _ _ _ _ _ _ _ _ _ _ _ _ _ _ _ _ _ _ _ _ _ _ _ _ _ _ _ _ _ _ _ _ _ _ _ _ _ _ _ _ _ _ _ _ _ _ _ _ _ _ _ _ _ _ _ _ _ _ _ _ _ _ _ _ _ _ _ _ _ _ _ _ _ _ _ _ _ _ _ _ _ _ _ _ _ _ _ _ _ _ _ _ _ _ _ _ _ _ _ _ _ _ _ _ _ _ _ _ _ _ _ _ _ _ _ _ _ _ _ _ _ _ _ _ _ _ _ _ _ _ _ _ _ _ _ _ _ _ _ _ _ _ _ _ _ _ _ _ _ _ _ _ _ _ _ _ _ _ _ _ _ _ _ _ _ _ _ _ _ _ _ _ _ _ _ _ _ _ _ _ _ _ _ _ _ _ _ _ _ _ _ _ _ _ _ _ z3 z4
     | false =>
       obtain ⟨c4,_⟩:=h2' ((mr.kind.toNat:Int) == 2) (by
        refine (kq mr.kind 2).trans ?_
        have:¬ mr.kind=1:=fun e=>absurd (hq1.symm.trans ((kq mr.kind 1).2 e)) (by decide)
        simp [this])
       simp [hcM,hlM,b1,b2,b3,hq1]
       refine bndD_same c4 ?_
       dsimp only
       refine bnd_of (d2 _ _) ?_
       dsimp only
       refine bnd_of z1 ?_
       dsimp only
       refine bndD_of ⟨rfl,z2⟩ (.inl rfl) ?_
       exact fin N2 _ _ _ _ _ _ _ _ _ _ _ _ _ _ _ _ _ _ _ _ _ _ _ _ _ _ _ _ _ _ _ _ _ _ _ _ _ _ _ _ _ _ _ _ _ _ _ _ _ _ _ _ _ _ _ _ _ _ _ _ _ _ _ _ _ _ _ _ _ _ _ _ _ _ _ _ _ _ _ _ _ _ _ _ _ _ _ _ _ _ _ _ _ _ _ _ _ _ _ _ _ _ _ _ _ _ _ _ _ _ _ _ _ _ _ _ _ _ _ _ _ _ _ _ _ _ _ _ _ _ _ _ _ _ _ _ _ _ _ _ _ _ _ _ _ _ _ _ _ _ _ _ _ _ _ _ _ _ _ _ _ _ _ _ _ _ _ _ _ _ _ _ _ _ _ _ _ _ _ _ _ _ _ _ _ _ _ _ _ _ _ _ _ _ _ _ _ _ _ _ _ _ _ _ _ _ _ _ _ _ _ _ _ _ _ _ _ _ _ _ _ _ _ _ _ _ _ _ _ _ _ _ _ _ _ _ _ _ _ _ _ _ _ _ _ _ _ _ _ _ _ _ _ z3 z4
   · obtain ⟨g1,g2,g3,g4⟩:=f3 (by rw [k2];decide)
     have g5:=g4 (by rw [k2];decide)
     obtain ⟨L,hL⟩:∃ L:Nat,n.left=L:=⟨n.left.toNat,by omega⟩
     obtain ⟨R,hR⟩:∃ R:Nat,n.right=R:=⟨n.right.toNat,by omega⟩
     obtain ⟨ml,l1,l2⟩:=node_of L (by omega)
     obtain ⟨mr,r1,r2⟩:=node_of R (by omega)
     obtain ⟨x,x0,b1,b2,b3⟩:=kind_at R mr r1
     have htx:txtR ns (i+1) i 0=txtR ns i L 0++[32,111,114,32]++txtR ns i R 1:=by
      have e0:¬ ((2:UInt8)=0):=by decide
      have e1:¬ ((2:UInt8)=1):=by decide
      have e3:¬ ((2:UInt8)=3):=by decide
      have es:¬ strongI 2 < 0:=by decide
      rw [txtR,hnd]
      simp only [k2,hL,hR,e0,e1,e3,es,if_false,if_true,Int.toNat_natCast]
     have hl0:txtR ns i L 0=txtR ns (L+1) L 0:=fit_txt hfit L i (L+1) 0 (by omega) (by omega)
     have hls:=hs L (by omega)
     rw [← hl0] at hls
     obtain ⟨q,a1,a2⟩:=row_str (k:=.i64) hc1 (txl_get (ns:=ns) (i:=i) (j:=L) (by omega) (by omega))
     rw [txl_len] at a1
     rw [← hl0] at a2
     obtain ⟨c1,c2⟩:=sideK R mr ((mr.kind.toNat:Int) == 2) 1 (by omega) r1 (by rw [(strong_of r2).1];exact kq mr.kind 2)
     have d1:=cat (txtR ns i L 0) [32,111,114,32] (by simp;omega)
     have d2:=cat (txtR ns i L 0++[32,111,114,32]) (txtR ns i R 1) (by simp;omega)
     obtain ⟨z,N2,z1,z2,z3,z4⟩:=put M1 _ hp1' hb1 htx.symm
     have e1:(n.kind.toNat:Int)=2:=by rw [k2];rfl
     simp only [hL,hR] at hcM
     simp [e1,hcM,hlM,a1,a2]
     refine bnd_of (d1 _ _) ?_
     simp [hcM,hlM,b1,b2,b3]
     refine bndD_same c1 ?_
     dsimp only
     refine bnd_of (d2 _ _) ?_
     dsimp only
     refine bnd_of z1 ?_
     dsimp only
     refine bndD_of ⟨rfl,z2⟩ (.inl rfl) ?_
     exact fin N2 _ _ _ _ _ _ _ _ _ _ _ _ _ _ _ _ _ _ _ _ _ _ _ _ _ _ _ _ _ _ _ _ _ _ _ _ _ _ _ _ _ _ _ _ _ _ _ _ _ _ _ _ _ _ _ _ _ _ _ _ _ _ _ _ _ _ _ _ _ _ _ _ _ _ _ _ _ _ _ _ _ _ _ _ _ _ _ _ _ _ _ _ _ _ _ _ _ _ _ _ _ _ _ _ _ _ _ _ _ _ _ _ _ _ _ _ _ _ _ _ _ _ _ _ _ _ _ _ _ _ _ _ _ _ _ _ _ _ _ _ _ _ _ _ _ _ _ _ _ _ _ _ _ _ _ _ _ _ _ _ _ _ _ _ _ _ _ _ _ _ _ _ _ _ _ _ _ _ _ _ _ _ _ _ _ _ _ _ _ _ _ _ _ _ _ _ _ _ _ _ _ _ _ _ _ _ _ _ _ _ _ _ _ _ _ _ _ _ _ _ _ _ _ _ _ _ _ _ _ _ _ _ _ _ _ _ _ _ _ _ _ _ _ _ _ _ _ _ _ _ _ _ _ z3 z4
   · obtain ⟨g1,g2,g3,_⟩:=f3 (by rw [k3];decide)
     obtain ⟨L,hL⟩:∃ L:Nat,n.left=L:=⟨n.left.toNat,by omega⟩
     obtain ⟨ml,l1,l2⟩:=node_of L (by omega)
     obtain ⟨q,q0,a1,a2,a3⟩:=kind_at L ml l1
     have htx:txtR ns (i+1) i 0=[110,111,116,32]++txtR ns i L 2:=by
      have e0:¬ ((3:UInt8)=0):=by decide
      have es:¬ strongI 3 < 0:=by decide
      rw [txtR,hnd]
      simp only [k3,hL,e0,es,if_false,if_true,Int.toNat_natCast]
     have h2':∀ c:Bool,(c=true↔ml.kind=1∨ml.kind=2)→_:=fun c hc=>sideK L ml c 2 (by omega) l1 (by rw [(strong_of l2).2];exact hc)
     obtain ⟨_,c3⟩:=h2' (decide (ml.kind=1∨ml.kind=2)) (by simp)
     have d2:=cat [110,111,116,32] (txtR ns i L 2) (by simp;omega)
     obtain ⟨z,N2,z1,z2,z3,z4⟩:=put M1 _ hp1' hb1 htx.symm
     have e1:(n.kind.toNat:Int)=3:=by rw [k3];rfl
     simp only [hL] at hcM
     cases hq1:((ml.kind.toNat:Int) == 1) with
     | true =>
       obtain ⟨c4,_⟩:=h2' true (by simp [(kq ml.kind 1).1 hq1])
       simp [e1,hcM,hlM,a1,a2,a3,hq1]
       refine bndD_same c4 ?_
       dsimp only
       refine bnd_of (d2 _ _) ?_
       dsimp only
       refine bnd_of z1 ?_
       dsimp only
       refine bndD_of ⟨rfl,z2⟩ (.inl rfl) ?_
       exact fin N2 _ _ _ _ _ _ _ _ _ _ _ _ _ _ _ _ _ _ _ _ _ _ _ _ _ _ _ _ _ _ _ _ _ _ _ _ _ _ _ _ _ _ _ _ _ _ _ _ _ _ _ _ _ _ _ _ _ _ _ _ _ _ _ _ _ _ _ _ _ _ _ _ _ _ _ _ _ _ _ _ _ _ _ _ _ _ _ _ _ _ _ _ _ _ _ _ _ _ _ _ _ _ _ _ _ _ _ _ _ _ _ _ _ _ _ _ _ _ _ _ _ _ _ _ _ _ _ _ _ _ _ _ _ _ _ _ _ _ _ _ _ _ _ _ _ _ _ _ _ _ _ _ _ _ _ _ _ _ _ _ _ _ _ _ _ _ _ _ _ _ _ _ _ _ _ _ _ _ _ _ _ _ _ _ _ _ _ _ _ _ _ _ _ _ _ _ _ _ _ _ _ _ _ _ _ _ _ _ _ _ _ _ _ _ _ _ _ _ _ _ _ _ _ _ _ _ _ _ _ _ _ _ _ _ _ _ _ _ _ _ _ _ _ _ _ _ _ _ _ _ _ _ _ z3 z4
     | false =>
       obtain ⟨c4,_⟩:=h2' ((ml.kind.toNat:Int) == 2) (by
        refine (kq ml.kind 2).trans ?_
        have:¬ ml.kind=1:=fun e=>absurd (hq1.symm.trans ((kq ml.kind 1).2 e)) (by decide)
        simp [this])
       simp [e1,hcM,hlM,a1,a2,a3,hq1]
       refine bndD_same c4 ?_
       dsimp only
       refine bnd_of (d2 _ _) ?_
       dsimp only
       refine bnd_of z1 ?_
       dsimp only
       refine bndD_of ⟨rfl,z2⟩ (.inl rfl) ?_
       exact fin N2 _ _ _ _ _ _ _ _ _ _ _ _ _ _ _ _ _ _ _ _ _ _ _ _ _ _ _ _ _ _ _ _ _ _ _ _ _ _ _ _ _ _ _ _ _ _ _ _ _ _ _ _ _ _ _ _ _ _ _ _ _ _ _ _ _ _ _ _ _ _ _ _ _ _ _ _ _ _ _ _ _ _ _ _ _ _ _ _ _ _ _ _ _ _ _ _ _ _ _ _ _ _ _ _ _ _ _ _ _ _ _ _ _ _ _ _ _ _ _ _ _ _ _ _ _ _ _ _ _ _ _ _ _ _ _ _ _ _ _ _ _ _ _ _ _ _ _ _ _ _ _ _ _ _ _ _ _ _ _ _ _ _ _ _ _ _ _ _ _ _ _ _ _ _ _ _ _ _ _ _ _ _ _ _ _ _ _ _ _ _ _ _ _ _ _ _ _ _ _ _ _ _ _ _ _ _ _ _ _ _ _ _ _ _ _ _ _ _ _ _ _ _ _ _ _ _ _ _ _ _ _ _ _ _ _ _ _ _ _ _ _ _ _ _ _ _ _ _ _ _ _ _ _ z3 z4
end
end Go.Vi
namespace Go.Vi
open Go Go.Proofs Go.Proofs.Tryz
theorem sael1:aElem prog 33=some (9,1,16):=by kernel_rfl
theorem mk_strs (K:AHeap) {n:Nat} (hn:n≤2 ^ 20):aMake prog K 33 (i64 n) (i64 n)=some (.slice (some ⟨K.length,0,some n⟩) n n,K++[.cells ((List.replicate n ([]:List UInt8)).map str) 9]):=by
 have hz:zcells prog 9=some #[.string ByteArray.empty]:=by kernel_rfl
 have hr:(repCells #[Value.string ByteArray.empty] n).toList=(List.replicate n ([]:List UInt8)).map str:=by
  unfold repCells
  apply List.ext_getElem?
  intro i
  simp only [Array.toList_map,Array.toList_range,List.getElem?_map,List.map_replicate,List.getElem?_replicate]
  by_cases h:i < n
  · rw [List.getElem?_range h,if_pos h]
    simp
    rw [Nat.mod_one]
    rfl
  · rw [List.getElem?_eq_none (by simpa using h),if_neg h];rfl
 unfold aMake
 simp only [sael1,hz]
 rw [if_pos ⟨by omega,by omega,by omega,by omega,by rfl⟩]
 simp [hr]
section
variable {H:AHeap} {v:Value} {ns:List Nod} {k:Value→AHeap→Prop}
theorem refP_bad {ns:List Nod} {i:Nat} {n:Nod} (hn:ns[i]?=some n) (hb:¬ fitN i n):refP ns=[]:=by
 unfold refP
 split
 · rfl
 · rw [if_pos (fun h=>hb (h i n hn))]
set_option maxHeartbeats 4000000 in
set_option maxRecDepth 20000 in
theorem fit_loop (hn:NodesAt H v ns) (h1:1≤ns.length) (h31:ns.length≤31) (hok:PrOk ns) (hk:∀ K,Pre H K→k (str (refP ns)) K) :
  ∀ (d i : Nat) (M : AHeap) (s1 s2 s4 s5 s6 s7 s8 s9 ca cb cc cd ce cf ch ci cj ck cm cn co cp cq cr cs ct cu cv cw cx cy cz cA cB cC cD cE cF cG cH cI cJ cK cL cM cN cO cP cQ cR cS cT cU cV cW cX cY cZ c9 da db dc dd de df dg dh di dj dk dl dm dn dp dq dr ds dt du dv dw dx dy dz dA dB dC dD dE dF dG dH dI dJ dK dL dM dN a b c f g l o q r s t u w x y z A B C D E F G I L N O Q R S U V W Y Z aa ab ac ad ae af ag ah ai aj ak al am an ao ap aq ar au av aw ax ay az aA aB aC aD aE aF aG aH aI aJ aK aL aM aN aO aP aQ aR aS aT aU aV aW aX aY aZ a0 a1 a2 a3 a4 a5 a6 a7 a8 a9 ba bb bc bd be bf bg bh bi bj bk bl bm bn bo bp bq br bs bt bu bv bw bx bz bA bB bC bD bE bF bG bH bI bJ bK bL bM bN bO bP bQ bR bS bT bU bV bW bX bY bZ b0 b1 b2 b3 b4 b5 b6 b7 b8 b9 : Value), d + i = ns.length → Pre H M → (∀ (j : Nat) n, j < i → ns[j]? = some n → fitN j n) →
    L26x0 (d+1) k [v,s1,s2,i64 i,s4,s5,s6,s7,s8,s9,ca,cb,cc,cd,ce,cf,ch,ci,cj,ck,cm,cn,co,cp,cq,cr,cs,ct,cu,cv,cw,cx,cy,cz,cA,cB,cC,cD,cE,cF,cG,cH,cI,cJ,cK,cL,cM,cN,cO,cP,cQ,cR,cS,cT,cU,cV,cW,cX,cY,cZ,c9,da,db,dc,dd,de,df,dg,dh,di,dj,dk,dl,dm,dn,dp,dq,dr,ds,dt,du,dv,dw,dx,dy,dz,dA,dB,dC,dD,dE,dF,dG,dH,dI,dJ,dK,dL,dM,dN,a,b,c,f,g,l,o,q,r,s,t,u,w,x,y,z,A,B,C,D,E,F,G,I,L,N,O,Q,R,S,U,V,W,Y,Z,aa,ab,ac,ad,ae,af,ag,ah,ai,aj,ak,al,am,an,ao,ap,aq,ar,au,av,aw,ax,ay,az,aA,aB,aC,aD,aE,aF,aG,aH,aI,aJ,aK,aL,aM,aN,aO,aP,aQ,aR,aS,aT,aU,aV,aW,aX,aY,aZ,a0,a1,a2,a3,a4,a5,a6,a7,a8,a9,ba,bb,bc,bd,be,bf,bg,bh,bi,bj,bk,bl,bm,bn,bo,bp,bq,br,bs,bt,bu,bv,bw,bx,bz,bA,bB,bC,bD,bE,bF,bG,bH,bI,bJ,bK,bL,bM,bN,bO,bP,bQ,bR,bS,bT,bU,bV,bW,bX,bY,bZ,b0,b1,b2,b3,b4,b5,b6,b7,b8,b9] M:=by
 intro d
 induction d with
 | zero =>
   intro i M s1 s2 s4 s5 s6 s7 s8 s9 ca cb cc cd ce cf ch ci cj ck cm cn co cp cq cr cs ct cu cv cw cx cy cz cA cB cC cD cE cF cG cH cI cJ cK cL cM cN cO cP cQ cR cS cT cU cV cW cX cY cZ c9 da db dc dd de df dg dh di dj dk dl dm dn dp dq dr ds dt du dv dw dx dy dz dA dB dC dD dE dF dG dH dI dJ dK dL dM dN a b c f g l o q r s t u w x y z A B C D E F G I L N O Q R S U V W Y Z aa ab ac ad ae af ag ah ai aj ak al am an ao ap aq ar au av aw ax ay az aA aB aC aD aE aF aG aH aI aJ aK aL aM aN aO aP aQ aR aS aT aU aV aW aX aY aZ a0 a1 a2 a3 a4 a5 a6 a7 a8 a9 ba bb bc bd be bf bg bh bi bj bk bl bm bn bo bp bq br bs bt bu bv bw bx bz bA bB bC bD bE bF bG bH bI bJ bK bL bM bN bO bP bQ bR bS bT bU bV bW bX bY bZ b0 b1 b2 b3 b4 b5 b6 b7 b8 b9 hi hp hf
   obtain rfl:i=ns.length:=by omega
   have hfit:∀ (j:Nat) n,ns[j]?=some n→fitN j n:=fun j n hj=>hf j n (List.getElem?_eq_some_iff.1 hj).1 hj
   have hlen:=fun J=>(hn.pre hp).len J
   have hmk:=mk_strs M (n:=ns.length) (by omega)
   have ht0:List.replicate ns.length ([]:List UInt8)=txl ns 0:=by
    apply List.ext_getElem?
    intro j
    unfold txl
    rw [List.getElem?_replicate,List.getElem?_map]
    by_cases h:j < ns.length
    · rw [if_pos h,List.getElem?_range h];simp
    · rw [if_neg h,List.getElem?_eq_none (by simpa using h)];rfl
   rw [ht0] at hmk
   rw [L26x0q]
   simp [hlen,hmk]
   have hpl:H.length≤M.length:=by obtain ⟨X,rfl⟩:=hp;simp
   exact ⟨ns.length+1,txt_loop hn h1 h31 hok hfit hpl hk ns.length 0 _ _ _ _ _ _ _ _ _ _ _ _ _ _ _ _ _ _ _ _ _ _ _ _ _ _ _ _ _ _ _ _ _ _ _ _ _ _ _ _ _ _ _ _ _ _ _ _ _ _ _ _ _ _ _ _ _ _ _ _ _ _ _ _ _ _ _ _ _ _ _ _ _ _ _ _ _ _ _ _ _ _ _ _ _ _ _ _ _ _ _ _ _ _ _ _ _ _ _ _ _ _ _ _ _ _ _ _ _ _ _ _ _ _ _ _ _ _ _ _ _ _ _ _ _ _ _ _ _ _ _ _ _ _ _ _ _ _ _ _ _ _ _ _ _ _ _ _ _ _ _ _ _ _ _ _ _ _ _ _ _ _ _ _ _ _ _ _ _ _ _ _ _ _ _ _ _ _ _ _ _ _ _ _ _ _ _ _ _ _ _ _ _ _ _ _ _ _ _ _ _ _ _ _ _ _ _ _ _ _ _ _ _ _ _ _ _ _ _ _ _ _ _ _ _ _ _ _ _ _ _ _ _ _ _ _ _ _ _ _ _ _ _ _ _ _ _ _ _ _ _ _ _ _ (by omega) (hp.more _) (by simp) (fun j hj=>by omega)⟩
 | succ d ih =>
   intro i M s1 s2 s4 s5 s6 s7 s8 s9 ca cb cc cd ce cf ch ci cj ck cm cn co cp cq cr cs ct cu cv cw cx cy cz cA cB cC cD cE cF cG cH cI cJ cK cL cM cN cO cP cQ cR cS cT cU cV cW cX cY cZ c9 da db dc dd de df dg dh di dj dk dl dm dn dp dq dr ds dt du dv dw dx dy dz dA dB dC dD dE dF dG dH dI dJ dK dL dM dN a b c f g l o q r s t u w x y z A B C D E F G I L N O Q R S U V W Y Z aa ab ac ad ae af ag ah ai aj ak al am an ao ap aq ar au av aw ax ay az aA aB aC aD aE aF aG aH aI aJ aK aL aM aN aO aP aQ aR aS aT aU aV aW aX aY aZ a0 a1 a2 a3 a4 a5 a6 a7 a8 a9 ba bb bc bd be bf bg bh bi bj bk bl bm bn bo bp bq br bs bt bu bv bw bx bz bA bB bC bD bE bF bG bH bI bJ bK bL bM bN bO bP bQ bR bS bT bU bV bW bX bY bZ b0 b1 b2 b3 b4 b5 b6 b7 b8 b9 hi hp hf
   have hlt:i < ns.length:=by omega
   obtain ⟨n,hnd⟩:∃ n,ns[i]?=some n:=⟨_,List.getElem?_eq_getElem hlt⟩
   have hlen:=fun J=>(hn.pre hp).len J
   obtain ⟨cl,ha,hcl,hc⟩:=hn.pre hp
   obtain ⟨sv,hsv,hm,hml⟩:=hc _ _ hnd
   obtain ⟨p,hp1,hp2⟩:=ha.load (P:=prog) (T:=32) (te:=54) (i:=i) (e:=n.cells sv) (by simp) (by simp) (by simp) hsv
   have hone:=hm.one
   have hcM:hcells (M++[.cells (n.cells sv) 54]) M.length=some (n.cells sv):=by simp
   have hpM:Pre M (M++[.cells (n.cells sv) 54]):=.app _ _
   rw [L26x0q]
   generalize hM:M++[AObj.cells (n.cells sv) 54]=M1 at hcM hpM
   have hp1':=hp.trans hpM
   simp only [Nod.cells] at hcM hM
   have hlM:Vi.hlen M1 M.length=some 8:=by rw [hcells_len hcM];rfl
   have w1:i+1 < 2 ^ 63:=by omega
   have bad:¬ fitN i n→k (str []) M1:=by
    intro h
    have:=hk M1 hp1'
    rw [refP_bad hnd h] at this
    exact this
   have good:fitN i n→∀ (s1 s2 s4 s5 s6 s7 s8 s9 ca cb cc cd ce cf ch ci cj ck cm cn co cp cq cr cs ct cu cv cw cx cy cz cA cB cC cD cE cF cG cH cI cJ cK cL cM cN cO cP cQ cR cS cT cU cV cW cX cY cZ c9 da db dc dd de df dg dh di dj dk dl dm dn dp dq dr ds dt du dv dw dx dy dz dA dB dC dD dE dF dG dH dI dJ dK dL dM dN a b c f g l o q r s t u w x y z A B C D E F G I L N O Q R S U V W Y Z aa ab ac ad ae af ag ah ai aj ak al am an ao ap aq ar au av aw ax ay az aA aB aC aD aE aF aG aH aI aJ aK aL aM aN aO aP aQ aR aS aT aU aV aW aX aY aZ a0 a1 a2 a3 a4 a5 a6 a7 a8 a9 ba bb bc bd be bf bg bh bi bj bk bl bm bn bo bp bq br bs bt bu bv bw bx bz bA bB bC bD bE bF bG bH bI bJ bK bL bM bN bO bP bQ bR bS bT bU bV bW bX bY bZ b0 b1 b2 b3 b4 b5 b6 b7 b8 b9:Value),L26x0 (d+1) k [v,s1,s2,i64 ((i:Int)+1),s4,s5,s6,s7,s8,s9,ca,cb,cc,cd,ce,cf,ch,ci,cj,ck,cm,cn,co,cp,cq,cr,cs,ct,cu,cv,cw,cx,cy,cz,cA,cB,cC,cD,cE,cF,cG,cH,cI,cJ,cK,cL,cM,cN,cO,cP,cQ,cR,cS,cT,cU,cV,cW,cX,cY,cZ,c9,da,db,dc,dd,de,df,dg,dh,di,dj,dk,dl,dm,dn,dp,dq,dr,ds,dt,du,dv,dw,dx,dy,dz,dA,dB,dC,dD,dE,dF,dG,dH,dI,dJ,dK,dL,dM,dN,a,b,c,f,g,l,o,q,r,s,t,u,w,x,y,z,A,B,C,D,E,F,G,I,L,N,O,Q,R,S,U,V,W,Y,Z,aa,ab,ac,ad,ae,af,ag,ah,ai,aj,ak,al,am,an,ao,ap,aq,ar,au,av,aw,ax,ay,az,aA,aB,aC,aD,aE,aF,aG,aH,aI,aJ,aK,aL,aM,aN,aO,aP,aQ,aR,aS,aT,aU,aV,aW,aX,aY,aZ,a0,a1,a2,a3,a4,a5,a6,a7,a8,a9,ba,bb,bc,bd,be,bf,bg,bh,bi,bj,bk,bl,bm,bn,bo,bp,bq,br,bs,bt,bu,bv,bw,bx,bz,bA,bB,bC,bD,bE,bF,bG,bH,bI,bJ,bK,bL,bM,bN,bO,bP,bQ,bR,bS,bT,bU,bV,bW,bX,bY,bZ,b0,b1,b2,b3,b4,b5,b6,b7,b8,b9] M1:=by
    intro h s1 s2 s4 s5 s6 s7 s8 s9 ca cb cc cd ce cf ch ci cj ck cm cn co cp cq cr cs ct cu cv cw cx cy cz cA cB cC cD cE cF cG cH cI cJ cK cL cM cN cO cP cQ cR cS cT cU cV cW cX cY cZ c9 da db dc dd de df dg dh di dj dk dl dm dn dp dq dr ds dt du dv dw dx dy dz dA dB dC dD dE dF dG dH dI dJ dK dL dM dN a b c f g l o q r s t u w x y z A B C D E F G I L N O Q R S U V W Y Z aa ab ac ad ae af ag ah ai aj ak al am an ao ap aq ar au av aw ax ay az aA aB aC aD aE aF aG aH aI aJ aK aL aM aN aO aP aQ aR aS aT aU aV aW aX aY aZ a0 a1 a2 a3 a4 a5 a6 a7 a8 a9 ba bb bc bd be bf bg bh bi bj bk bl bm bn bo bp bq br bs bt bu bv bw bx bz bA bB bC bD bE bF bG bH bI bJ bK bL bM bN bO bP bQ bR bS bT bU bV bW bX bY bZ b0 b1 b2 b3 b4 b5 b6 b7 b8 b9
    rw [show ((i:Int)+1)=((i+1:Nat):Int) by omega]
    refine ih (i+1) M1 _ _ _ _ _ _ _ _ _ _ _ _ _ _ _ _ _ _ _ _ _ _ _ _ _ _ _ _ _ _ _ _ _ _ _ _ _ _ _ _ _ _ _ _ _ _ _ _ _ _ _ _ _ _ _ _ _ _ _ _ _ _ _ _ _ _ _ _ _ _ _ _ _ _ _ _ _ _ _ _ _ _ _ _ _ _ _ _ _ _ _ _ _ _ _ _ _ _ _ _ _ _ _ _ _ _ _ _ _ _ _ _ _ _ _ _ _ _ _ _ _ _ _ _ _ _ _ _ _ _ _ _ _ _ _ _ _ _ _ _ _ _ _ _ _ _ _ _ _ _ _ _ _ _ _ _ _ _ _ _ _ _ _ _ _ _ _ _ _ _ _ _ _ _ _ _ _ _ _ _ _ _ _ _ _ _ _ _ _ _ _ _ _ _ _ _ _ _ _ _ _ _ _ _ _ _ _ _ _ _ _ _ _ _ _ _ _ _ _ _ _ _ _ _ _ _ _ _ _ _ _ _ _ _ _ _ _ _ _ _ _ _ _ _ _ _ _ _ _ _ _ _ _ _ (by omega) hp1' (fun j m hj hm=>?_)
    by_cases e:j=i
    · subst e;rw [hnd] at hm;cases hm;exact h
    · exact hf j m (by omega) hm
   clear ih hf hk
   have z0:(n.kind=0)↔(n.kind.toNat:Int)=0:=⟨fun h=>by rw [h];rfl,fun h=>UInt8.toNat_inj.1 (by show n.kind.toNat=0;omega)⟩
   have z3:(n.kind=3)↔(n.kind.toNat:Int)=3:=⟨fun h=>by rw [h];rfl,fun h=>UInt8.toNat_inj.1 (by show n.kind.toNat=3;omega)⟩
   by_cases c0:(3:Int) < n.kind.toNat
   · simp [hlen,hlt,hp1,hp2,Nod.cells,hone,hM,hcM,hlM,c0]
     exact bad (fun h=>by have:=h.1;omega)
   · by_cases c1:(n.kind.toNat:Int)=0
     · have kz:=z0.2 c1
       by_cases c2:(5:Int) < n.agg.toNat
       · simp [hlen,hlt,hp1,hp2,Nod.cells,hone,hM,hcM,hlM,c1,c2]
         exact bad (fun h=>by have:=(h.2.1 kz).1;omega)
       · by_cases c3:(5:Int) < n.cmp.toNat
         · simp [hlen,hlt,hp1,hp2,Nod.cells,hone,hM,hcM,hlM,c1,c2,c3]
           exact bad (fun h=>by have:=(h.2.1 kz).2;omega)
         · simp [hlen,hlt,hp1,hp2,Nod.cells,hone,hM,hcM,hlM,c1,c2,c3,w1]
           exact good ⟨by omega,fun _=>⟨by omega,by omega⟩,fun h=>absurd kz h⟩ _ _ _ _ _ _ _ _ _ _ _ _ _ _ _ _ _ _ _ _ _ _ _ _ _ _ _ _ _ _ _ _ _ _ _ _ _ _ _ _ _ _ _ _ _ _ _ _ _ _ _ _ _ _ _ _ _ _ _ _ _ _ _ _ _ _ _ _ _ _ _ _ _ _ _ _ _ _ _ _ _ _ _ _ _ _ _ _ _ _ _ _ _ _ _ _ _ _ _ _ _ _ _ _ _ _ _ _ _ _ _ _ _ _ _ _ _ _ _ _ _ _ _ _ _ _ _ _ _ _ _ _ _ _ _ _ _ _ _ _ _ _ _ _ _ _ _ _ _ _ _ _ _ _ _ _ _ _ _ _ _ _ _ _ _ _ _ _ _ _ _ _ _ _ _ _ _ _ _ _ _ _ _ _ _ _ _ _ _ _ _ _ _ _ _ _ _ _ _ _ _ _ _ _ _ _ _ _ _ _ _ _ _ _ _ _ _ _ _ _ _ _ _ _ _ _ _ _ _ _ _ _ _ _ _ _ _ _ _ _ _ _ _ _ _ _ _ _ _ _ _ _ _ _
     · have kz:n.kind≠0:=fun h=>c1 (z0.1 h)
       have c1b:((n.kind.toNat:Int) == 0)=false:=by simpa using c1
       have cg:0 < n.kind.toNat:=by omega
       by_cases c4:n.left < 0
       · simp [hlen,hlt,hp1,hp2,Nod.cells,hone,hM,hcM,hlM,c0,c1b,cg,c4]
         exact bad (fun h=>by have:=(h.2.2 kz).1;omega)
       · by_cases c5:(i:Int)≤n.left
         · simp [hlen,hlt,hp1,hp2,Nod.cells,hone,hM,hcM,hlM,c0,c1b,cg,c4,c5]
           exact bad (fun h=>by have:=(h.2.2 kz).2.1;omega)
         · by_cases c6:n.right < 0
           · simp [hlen,hlt,hp1,hp2,Nod.cells,hone,hM,hcM,hlM,c0,c1b,cg,c4,c5,c6]
             exact bad (fun h=>by have:=(h.2.2 kz).2.2.1;omega)
           · by_cases c7:(i:Int)≤n.right
             · by_cases c8:(n.kind.toNat:Int)=3
               · have c8b:((n.kind.toNat:Int) != 3)=false:=by simpa using c8
                 simp [hlen,hlt,hp1,hp2,Nod.cells,hone,hM,hcM,hlM,c0,c1b,cg,c4,c5,c6,c7,c8b,w1]
                 exact good ⟨by omega,fun h=>absurd h kz,fun _=>⟨by omega,by omega,by omega,fun h=>absurd (z3.2 c8) h⟩⟩ _ _ _ _ _ _ _ _ _ _ _ _ _ _ _ _ _ _ _ _ _ _ _ _ _ _ _ _ _ _ _ _ _ _ _ _ _ _ _ _ _ _ _ _ _ _ _ _ _ _ _ _ _ _ _ _ _ _ _ _ _ _ _ _ _ _ _ _ _ _ _ _ _ _ _ _ _ _ _ _ _ _ _ _ _ _ _ _ _ _ _ _ _ _ _ _ _ _ _ _ _ _ _ _ _ _ _ _ _ _ _ _ _ _ _ _ _ _ _ _ _ _ _ _ _ _ _ _ _ _ _ _ _ _ _ _ _ _ _ _ _ _ _ _ _ _ _ _ _ _ _ _ _ _ _ _ _ _ _ _ _ _ _ _ _ _ _ _ _ _ _ _ _ _ _ _ _ _ _ _ _ _ _ _ _ _ _ _ _ _ _ _ _ _ _ _ _ _ _ _ _ _ _ _ _ _ _ _ _ _ _ _ _ _ _ _ _ _ _ _ _ _ _ _ _ _ _ _ _ _ _ _ _ _ _ _ _ _ _ _ _ _ _ _ _ _ _ _ _ _ _ _ _ _
               · have c8b:((n.kind.toNat:Int) != 3)=true:=by simpa using c8
                 simp [hlen,hlt,hp1,hp2,Nod.cells,hone,hM,hcM,hlM,c0,c1b,cg,c4,c5,c6,c7,c8b]
                 exact bad (fun h=>by have:=(h.2.2 kz).2.2.2 (fun e=>c8 (z3.1 e));omega)
             · simp [hlen,hlt,hp1,hp2,Nod.cells,hone,hM,hcM,hlM,c0,c1b,cg,c4,c5,c6,c7,w1]
               exact good ⟨by omega,fun h=>absurd h kz,fun _=>⟨by omega,by omega,by omega,fun _=>by omega⟩⟩ _ _ _ _ _ _ _ _ _ _ _ _ _ _ _ _ _ _ _ _ _ _ _ _ _ _ _ _ _ _ _ _ _ _ _ _ _ _ _ _ _ _ _ _ _ _ _ _ _ _ _ _ _ _ _ _ _ _ _ _ _ _ _ _ _ _ _ _ _ _ _ _ _ _ _ _ _ _ _ _ _ _ _ _ _ _ _ _ _ _ _ _ _ _ _ _ _ _ _ _ _ _ _ _ _ _ _ _ _ _ _ _ _ _ _ _ _ _ _ _ _ _ _ _ _ _ _ _ _ _ _ _ _ _ _ _ _ _ _ _ _ _ _ _ _ _ _ _ _ _ _ _ _ _ _ _ _ _ _ _ _ _ _ _ _ _ _ _ _ _ _ _ _ _ _ _ _ _ _ _ _ _ _ _ _ _ _ _ _ _ _ _ _ _ _ _ _ _ _ _ _ _ _ _ _ _ _ _ _ _ _ _ _ _ _ _ _ _ _ _ _ _ _ _ _ _ _ _ _ _ _ _ _ _ _ _ _ _ _ _ _ _ _ _ _ _ _ _ _ _ _ _ _ _
end
set_option maxRecDepth 20000 in
theorem r_print {H:AHeap} {v:Value} {ns:List Nod} (hn:NodesAt H v ns) (hok:PrOk ns) (hl:ns.length < 2 ^ 62):ACalls prog 26 [v] H (str (printS ns)) H:=by
 rw [← refP_eq]
 refine acalls_pure MixT func26 (by decide) rfl ?_
 rw [d26]
 have hlen:=hn.len
 by_cases h1:(ns.length:Int) < 1
 · have e:refP ns=[]:=by unfold refP;rw [if_pos (by omega)]
   simp [hlen,h1,e]
 · by_cases h31:(31:Int) < ns.length
   · have e:refP ns=[]:=by unfold refP;rw [if_pos (by omega)]
     simp [hlen,h1,h31,e]
   · simp [hlen,h1,h31]
     exact ⟨ns.length+1,fit_loop hn (by omega) (by omega) hok (k:=fun u H2=>u=str (refP ns)∧∃ X,H2=H++X) (fun K p=>⟨rfl,p⟩) ns.length 0 H _ _ _ _ _ _ _ _ _ _ _ _ _ _ _ _ _ _ _ _ _ _ _ _ _ _ _ _ _ _ _ _ _ _ _ _ _ _ _ _ _ _ _ _ _ _ _ _ _ _ _ _ _ _ _ _ _ _ _ _ _ _ _ _ _ _ _ _ _ _ _ _ _ _ _ _ _ _ _ _ _ _ _ _ _ _ _ _ _ _ _ _ _ _ _ _ _ _ _ _ _ _ _ _ _ _ _ _ _ _ _ _ _ _ _ _ _ _ _ _ _ _ _ _ _ _ _ _ _ _ _ _ _ _ _ _ _ _ _ _ _ _ _ _ _ _ _ _ _ _ _ _ _ _ _ _ _ _ _ _ _ _ _ _ _ _ _ _ _ _ _ _ _ _ _ _ _ _ _ _ _ _ _ _ _ _ _ _ _ _ _ _ _ _ _ _ _ _ _ _ _ _ _ _ _ _ _ _ _ _ _ _ _ _ _ _ _ _ _ _ _ _ _ _ _ _ _ _ _ _ _ _ _ _ _ _ _ _ _ _ _ _ _ _ _ _ _ _ _ _ _ _ _ _ (by omega) (.refl _) (fun j n hj=>by omega)⟩
end Go.Vi
namespace Go.Vi
open Go Go.Proofs
def Nod.tame (n:Nod):Prop:=n.sel.length≤100∧∀ m∈n.sel,m.tame
section
variable {H:AHeap} {ns:List Nod} {v:Value} {k:Value→AHeap→Prop}
end
end Go.Vi
namespace Go.Vi
open Go Go.Proofs Go.Proofs.Tryz
theorem nel1:aElem prog 32=some (54,8,72):=by kernel_rfl
theorem nel2:isSeq prog 32=true:=by kernel_rfl
theorem mel1:aElem prog 24=some (42,10,40):=by kernel_rfl
theorem mel2:isSeq prog 24=true:=by kernel_rfl
theorem Gro.fr {K K' lo z T v cl} (h:Gro K lo z T v cl) (hf:∀ (b:Nat) o,lo≤b→K[b]?=some o→K'[b]?=some o):Gro K' lo z T v cl:=by
 cases h with
 | nil=>exact .nil
 | mk bb cl h1 h2 h3 h4=>exact .mk bb cl h1 (hf _ _ h1 h2) h3 h4
end Go.Vi
namespace Go.Vi
open Go Go.Proofs
theorem src_flat {z:Nat} {cs:List Value}:∀ (l:List (List Value)) (o:Nat),(∀ (i:Nat) e,l[i]?=some e→(cs.drop (o+i*z)).take z=e)→(cs.drop o).take (l.length*z)=l.flatten:=by
 intro l
 induction l with
 | nil=>intro o _;simp
 | cons c r ih =>
   intro o h
   have h0:=h 0 c rfl
   have hr:=ih (o+z) fun i e hi=>by
    have:=h (i+1) e (by simpa using hi)
    rw [← this,Nat.add_mul,Nat.one_mul];congr 2;omega
   rw [List.length_cons,Nat.add_mul,Nat.one_mul,Nat.add_comm,List.take_add,List.drop_drop,hr,List.flatten_cons]
   simpa using congrArg (·++r.flatten) h0
theorem Arr.src {H z v l} (h:Arr H z v l):aSrc H z v=some (l.length,l.flatten):=by
 cases h with
 | nil=>rfl
 | mk b o m n c cs l hn hcs hm hle hel =>
   subst hn
   simp only [aSrc,hcs]
   rw [if_pos ⟨hm.symm,by omega⟩,src_flat l o hel]
theorem Arr.all_len {H z v l} (h:Arr H z v l):∀ c∈l,c.length=z:=by
 intro c hc
 obtain ⟨i,hi⟩:=List.getElem?_of_mem hc
 exact h.elen hi
theorem Gro.pushN {P:Program} {K:AHeap} {lo z by_:Nat} {T Ts:TypeId} {v x:Value} {cl ds:List (List Value)} (h:Gro K lo z T v cl) (hT:aElem P Ts=some (T,z,by_)) (hsq:isSeq P Ts=true) (hc:∀ c∈ds,c.length=z) (hlo:lo≤K.length)
  (hx:aSrc K z x=some (ds.length,ds.flatten)) (hb:(cl.length+ds.length)*by_≤140737488355328) (hn:cl.length+ds.length≤9223372036854775807) :
  ∃ v' K',aBuiltin P K .append #[Ts,Ts] [v,x]=some (v',K')∧Gro K' lo z T v' (cl++ds)∧(∀ b o,b < lo→K[b]?=some o→K'[b]?=some o)∧K.length≤K'.length∧(∀ H,Pre H K→H.length≤lo→Pre H K'):=by
 by_cases hd:ds=[]
 · subst hd
   refine ⟨v,K,?_,by simpa using h,fun b o _ h=>h,Nat.le_refl _,fun H p _=>p⟩
   cases h with
   | nil=>simp at hx;simp [aBuiltin,aAppend,hT,hx,hsq]
   | mk bb cl h1 h2 h3 h4 =>
     have hfl:=flat_len h4
     simp at hx
     simp [aBuiltin,aAppend,hT,hx,hsq,h2,hfl]
     rw [putCells_eq _ _ _ (by rw [hfl];simp)]
     simp
     exact set_same h2
 have hdl:0 < ds.length:=List.length_pos_iff.2 hd
 have hfd:=flat_len hc
 cases h with
 | nil =>
   refine ⟨.slice (some ⟨K.length,0,some (ds.length*z)⟩) ds.length ds.length,K++[.cells ds.flatten T],?_,?_,fun b o hb ho=>get_more ho,by simp,fun H p _=>p.more _⟩
   · have hb':ds.length*by_≤140737488355328:=by simpa using hb
     have hn':ds.length≤9223372036854775807:=by simpa using hn
     have hne:¬ ds.length=0:=by omega
     simp only [aBuiltin,aAppend,hT,hx,hsq,if_true,hne,if_false,hb',hn',and_self,hfd]
   · have:=Gro.mk (K:=K++[.cells ds.flatten T]) (lo:=lo) (z:=z) (T:=T) K.length ds hlo (by simp) hd hc
     simpa using this
 | mk bb cl h1 h2 h3 h4 =>
   have hfl:=flat_len h4
   have hlt:=(List.getElem?_eq_some_iff.1 h2).1
   refine ⟨.slice (some ⟨bb,0,some ((cl.length+ds.length)*z)⟩) (cl.length+ds.length) (cl.length+ds.length),K.set bb (.cells (cl++ds).flatten T),?_,?_,fun b o hb ho=>by rw [List.getElem?_set_ne (by omega)];exact ho,by simp,fun H p hH=>p.set (by omega)⟩
   · have e1:cl.length*z=cl.flatten.length:=hfl.symm
     have e2:¬ cl.length+ds.length≤cl.length:=by omega
     simp only [aBuiltin,aAppend,hT,hx,hsq,if_true,h2,hfl,Nat.zero_add,Nat.le_refl,and_self,e2,if_false,hb,hn]
     have e3:(cl.flatten.take (cl.length*z))=cl.flatten:=List.take_of_length_le (by omega)
     rw [e3]
     simp
   · have:=Gro.mk (K:=K.set bb (.cells (cl++ds).flatten T)) (lo:=lo) (z:=z) (T:=T) bb (cl++ds) h1 (List.getElem?_set_self hlt) (by simp [h3]) (by
      intro x hx
      rw [List.mem_append] at hx
      rcases hx with hx | hx
      · exact h4 x hx
      · exact hc x hx)
     simpa using this
theorem acalls_bool {P:Program} (hm:P.follows .mixedOrders=true) {f fn args H} {Q:Prop} (hf:P.funcs[f]?=some fn) (hn:notNG fn=true)
  (hr:∀ k:Value→AHeap→Prop,(∀ K,Pre H K→k (.bool true) K)→(Q→∀ K,Pre H K→k (.bool false) K)→kbody P fn args H k):∃ b,(b=false→Q)∧ACalls P f args H (.bool b) H:=by
 obtain ⟨v,H',⟨b,rfl,hq,X,rfl⟩,h⟩:=acalls_ex hm hf hn (hr (fun u H2=>∃ b,u=.bool b∧(b=false→Q)∧Pre H H2) (fun K p=>⟨true,rfl,by simp,p⟩) fun q K p=>⟨false,rfl,fun _=>q,p⟩)
 exact ⟨b,hq,h.trim rfl⟩
def Rul.small (r:Rul):Prop:=r.mutes.length≤100∧r.nodes.length≤100∧∀ n∈r.nodes,n.sel.length≤50
section
variable {r:Rul} {H:AHeap} {nv mv:Value} {b:Nat} {k:Value→AHeap→Prop}
end
end Go.Vi
namespace Go.Vi
open Go Go.Proofs Go.Proofs.Tryz
def Cfg.small (c:Cfg):Prop:=c.rules.length≤20∧c.mutes.length≤50∧∀ r∈c.rules,r.small
section
variable {c:Cfg} {H:AHeap} {rv mv:Value} {b:Nat} {k:Value→AHeap→Prop}
theorem RulesAt.lenR {H v rs} (h:RulesAt H v rs) (K:AHeap):aLen prog K 22 v=some (i64 rs.length):=by
 obtain ⟨cl,h1,h2,_⟩:=h
 rw [← h2]
 exact h1.len' (e:=35) (by simp)
theorem MutesAt.lenM {H v ms} (h:MutesAt H v ms) (K:AHeap):aLen prog K 24 v=some (i64 ms.length):=by
 have:=h.1.len' (P:=prog) (K:=K) (T:=24) (e:=42) (by simp)
 simpa using this
theorem RulesAt.one {H v rs} (h:RulesAt H v rs):v.oneCell'=true:=by obtain ⟨_,h,_⟩:=h;exact h.one
theorem MutesAt.one {H v ms} (h:MutesAt H v ms):v.oneCell'=true:=h.1.one
theorem Mut.hd (m:Mut):m.cells[0]?=some (str m.name):=rfl
end
end Go.Vi
namespace Go.Vi
open Go Go.Proofs Go.Proofs.Tryz
theorem xel1:aElem prog 52=some (56,3,40):=by kernel_rfl
theorem xel2:isSeq prog 52=true:=by kernel_rfl
theorem sel1:aElem prog 33=some (9,1,16):=by kernel_rfl
theorem sel2:isSeq prog 33=true:=by kernel_rfl
theorem rel1:aElem prog 22=some (35,8,120):=by kernel_rfl
theorem rel2:isSeq prog 22=true:=by kernel_rfl
theorem Gro.wk {K lo lo' z T v cl} (h:Gro K lo z T v cl) (hl:lo'≤lo):Gro K lo' z T v cl:=by
 cases h with
 | nil=>exact .nil
 | mk bb cl h1 h2 h3 h4=>exact .mk bb cl (Nat.le_trans hl h1) h2 h3 h4
def KTy (T:TypeId) (K K':AHeap):Prop:=∀ (b:Nat) o,K[b]?=some o→(∀ cs,o≠.cells cs T)→K'[b]?=some o
theorem Gro.kt {T':TypeId} {K K' lo z T v cl} (h:Gro K lo z T v cl) (hk:KTy T' K K') (hT:T≠T'):Gro K' lo z T v cl:=by
 cases h with
 | nil=>exact .nil
 | mk bb cl h1 h2 h3 h4=>exact .mk bb cl h1 (hk _ _ h2 fun cs e=>hT (by cases e;rfl)) h3 h4
theorem Gro.pushK {P:Program} {K:AHeap} {lo z by_:Nat} {T Ts:TypeId} {v x:Value} {cl:List (List Value)} {c:List Value} (h:Gro K lo z T v cl) (hT:aElem P Ts=some (T,z,by_)) (hsq:isSeq P Ts=true) (hc:c.length=z) (hlo:lo≤K.length)
  (hx:aSrc K z x=some (1,c)) (hb:(cl.length+1)*by_≤140737488355328) (hn:cl.length+1≤9223372036854775807) :
  ∃ v' K',aBuiltin P K .append #[Ts,Ts] [v,x]=some (v',K')∧Gro K' lo z T v' (cl++[c])∧(∀ b o,b < lo→K[b]?=some o→K'[b]?=some o)∧K.length≤K'.length∧(∀ H,Pre H K→H.length≤lo→Pre H K')∧KTy T K K':=by
 obtain ⟨v',K',h1,h2,h3,h4,h5⟩:=h.push hT hsq hc hlo hx hb hn
 refine ⟨v',K',h1,h2,h3,h4,h5,fun b o hbo hne=>?_⟩
 cases h with
 | nil =>
   have hb':by_≤140737488355328:=by simpa using hb
   simp [aBuiltin,aAppend,hT,hx,hsq,hb',hc] at h1
   rw [← h1.2];exact get_more hbo
 | mk bb cl g1 g2 g3 g4 =>
   have hfl:=flat_len g4
   have e2:¬ cl.length+1≤cl.length:=by omega
   simp only [aBuiltin,aAppend,hT,hx,hsq,if_true,g2,hfl,Nat.zero_add,Nat.le_refl,and_self,e2,if_false,hb,hn,Option.some.injEq,Prod.mk.injEq] at h1
   rw [← h1.2,List.getElem?_set_ne (by rintro rfl;rw [hbo] at g2;cases g2;exact hne _ rfl)]
   exact hbo
def NRow (K:AHeap) (lo:Nat) (v:Value) (ns:List Nod):Prop:=∃ cl,Gro K lo 8 54 v cl∧cl.length=ns.length∧∀ (i:Nat) n,ns[i]?=some n→∃ sv,cl[i]?=some (n.cells sv)∧Gro K lo 3 56 sv (n.sel.map Mat.cells)∧n.sel.length < 2 ^ 63
theorem NRow.fr {K K' lo v ns} (h:NRow K lo v ns) (hf:∀ (b:Nat) o,lo≤b→K[b]?=some o→K'[b]?=some o):NRow K' lo v ns:=by
 obtain ⟨cl,h1,h2,h3⟩:=h
 refine ⟨cl,h1.fr hf,h2,fun i n hi=>?_⟩
 obtain ⟨sv,q1,q2,q3⟩:=h3 i n hi
 exact ⟨sv,q1,q2.fr hf,q3⟩
theorem NRow.wk {K lo lo' v ns} (h:NRow K lo v ns) (hl:lo'≤lo):NRow K lo' v ns:=by
 obtain ⟨cl,h1,h2,h3⟩:=h
 refine ⟨cl,h1.wk hl,h2,fun i n hi=>?_⟩
 obtain ⟨sv,q1,q2,q3⟩:=h3 i n hi
 exact ⟨sv,q1,q2.wk hl,q3⟩
theorem NRow.kt {T':TypeId} {K K' lo v ns} (h:NRow K lo v ns) (hk:KTy T' K K') (h1:54≠T') (h2:56≠T'):NRow K' lo v ns:=by
 obtain ⟨cl,q1,q2,h3⟩:=h
 refine ⟨cl,q1.kt hk h1,q2,fun i n hi=>?_⟩
 obtain ⟨sv,q1,q2,q3⟩:=h3 i n hi
 exact ⟨sv,q1,q2.kt hk h2,q3⟩
theorem NRow.at {K lo v ns} (h:NRow K lo v ns):NodesAt K v ns:=by
 obtain ⟨cl,h1,h2,h3⟩:=h
 refine ⟨cl,h1.arr,h2,fun i n hi=>?_⟩
 obtain ⟨sv,q1,q2,q3⟩:=h3 i n hi
 exact ⟨sv,q1,q2.arr,q3⟩
theorem NRow.one {K lo v ns} (h:NRow K lo v ns):v.oneCell'=true:=by obtain ⟨cl,h1,_⟩:=h;exact h1.one
theorem NRow.cells {K lo v ns} (h:NRow K lo v ns):v.cells = #[v]:=by obtain ⟨cl,h1,_⟩:=h;exact h1.cells
theorem NRow.stor {K lo v ns} (h:NRow K lo v ns):storable v=true:=by obtain ⟨cl,h1,_⟩:=h;exact h1.stor
theorem get_snoc {α:Type} {l:List α} {a b:α} {i:Nat} (h:(l++[a])[i]?=some b):(i < l.length∧l[i]?=some b)∨(i=l.length∧b=a):=by
 rcases Nat.lt_or_ge i l.length with hlt | hge
 · rw [List.getElem?_append_left hlt] at h;exact .inl ⟨hlt,h⟩
 · rw [List.getElem?_append_right hge] at h
   have h0:i-l.length=0:=by
    have:=(List.getElem?_eq_some_iff.1 h).1;simp at this;omega
   rw [h0] at h
   simp at h
   exact .inr ⟨by omega,h.symm⟩
theorem NRow.push {K lo v ns} (h:NRow K lo v ns) (n:Nod) (sv:Value) (hsv:Gro K lo 3 56 sv (n.sel.map Mat.cells)) (hsl:n.sel.length < 2 ^ 63) (hns:ns.length+1≤2 ^ 30) (hlo:lo≤K.length) :
  ∃ v' K2, aBuiltin prog (K ++ [AObj.cells (n.cells sv) 54]) .append #[32, 32] [v, .slice (some ⟨K.length, 0, some 8⟩) 1 1] = some (v', K2) ∧
    NRow K2 lo v' (ns++[n])∧(∀ H,Pre H K→H.length≤lo→Pre H K2)∧K.length≤K2.length:=by
 obtain ⟨cl,hg,hcl,hall⟩:=h
 obtain ⟨v',K2,q1,q2,q3,q4,q5,q6⟩:=Gro.pushK (P:=prog) (Ts:=32) (by_:=72) (x:=.slice (some ⟨K.length,0,some 8⟩) 1 1) (c:=n.cells sv) (hg.app (X:=[AObj.cells (n.cells sv) 54])) nel1 nel2 (by rfl) (by simp;omega) (by simp [aSrc,Nod.cells]) (by omega) (by omega)
 have hmat:∀ {sv ms},Gro K lo 3 56 sv ms→Gro K2 lo 3 56 sv ms:=fun hg=>hg.app.kt q6 (by decide)
 refine ⟨v',K2,q1,⟨cl++[n.cells sv],q2,by simp [hcl],fun i m hi=>?_⟩,fun H p hH=>q5 H (p.more _) hH,by simp at q4;omega⟩
 rcases get_snoc hi with ⟨hlt,hi⟩ | ⟨rfl,rfl⟩
 · obtain ⟨sv',e1,e2,e3⟩:=hall i m hi
   exact ⟨sv',by rw [List.getElem?_append_left (by omega)];exact e1,hmat e2,e3⟩
 · exact ⟨sv,by rw [List.getElem?_append_right (by omega),hcl];simp,hmat hsv,hsl⟩
theorem nod_lit8 {K:AHeap} (n:Nod) {sv:Value} (hs:sv.oneCell'=true):sliceLit prog K 32 1 [(0,.agg (n.cells sv).toArray)] (.slice (some ⟨K.length,0,some 8⟩) 1 1) (K++[.cells (n.cells sv) 54]) :=
 sliceLitA (c:=n.cells sv) (tbs32 K 1 _) (by rfl) (by simp [Nod.cells,hs]) (by simp)
theorem c_copyMats {H:AHeap} {v:Value} {ms:List Mat} (h:MatsAt H v ms) (hl:ms.length≤50):∃ v' K',ACalls prog 36 [v] H v' K'∧Pre H K'∧Gro K' H.length 3 56 v' (ms.map Mat.cells):=by
 obtain ⟨v1,K1,p1,p2,p3,p4,p5⟩:=Gro.pushN (P:=prog) (K:=H) (lo:=H.length) (v:=.slice none 0 0) (cl:=[]) (ds:=ms.map Mat.cells) (by_:=40) .nil xel1 xel2 (Arr.all_len h) (Nat.le_refl _) (Arr.src h) (by simp;omega) (by simp;omega)
 refine ⟨v1,K1,acalls_of MixT func36 (by decide) ?_,p5 H (Pre.refl _) (Nat.le_refl _),by simpa using p2⟩
 rw [d36,p1]
 simp
theorem copyN_loop {ns:List Nod} {H:AHeap} {v:Value} {k:Value→AHeap→Prop} (hn0:NodesAt H v ns) (hnl:ns.length≤100) (hs:∀ n∈ns,n.sel.length≤50) (hk:∀ u K,Pre H K→NRow K H.length u ns→k u K) :
  ∀ (l : List Nod) (i : Nat) (K : AHeap) (out : Value) (F G I J L N O a c g h j m q r s t w y z A B C D E : Value), ns.drop i = l → i ≤ ns.length → Pre H K → NRow K H.length out (ns.take i) →
    L21x0 (l.length+1) k [v,F,G,out,i64 i,I,J,L,N,O,a,c,g,h,j,m,q,r,s,t,w,y,z,A,B,C,D,E] K:=by
 intro l
 induction l with
 | nil =>
   intro i K out F G I J L N O a c g h j m q r s t w y z A B C D E hd hi hp hr
   have hle:ns.length≤i:=by simpa using hd
   have hl:=(hn0.pre hp).len K
   rw [List.length_nil,L21x0q]
   have:¬ i < ns.length:=by omega
   rw [List.take_of_length_le hle] at hr
   simp [hl,this]
   exact hk _ _ hp hr
 | cons n l ih =>
   intro i K out F G I J L N O a c g h j m q r s t w y z A B C D E hd hi hp hr
   have hb:ns[i]?=some n:=by rw [← List.head?_drop,hd];rfl
   have hlt:i < ns.length:=(List.getElem?_eq_some_iff.1 hb).1
   have hl:=(hn0.pre hp).len K
   obtain ⟨cl,ha,hcl,hc⟩:=hn0.pre hp
   obtain ⟨sv,hsv,hm,hml⟩:=hc _ _ hb
   obtain ⟨p,hp1,hp2⟩:=ha.load (P:=prog) (T:=32) (te:=54) (i:=i) (e:=n.cells sv) (by simp) (by simp) (by simp) hsv
   have hone:=hm.one
   have hpl:H.length≤K.length:=by obtain ⟨X,rfl⟩:=hp;simp
   rw [List.length_cons,L21x0q]
   have hhl:=fun X:AHeap=>(ha.pre (.app K X)).field (P:=prog) (T:=32) (te:=54) (ft:=52) (f:=2) (d:=2) (i:=i) (x:=sv) (by simp) (by simp) (by simp) (by simp) (by simp) hsv rfl
   obtain ⟨q1,q2,f1,f2,f3⟩:=hhl [.cells (n.cells sv) 54]
   simp only [Nod.cells] at f1 f2 f3
   simp [hl,hlt,hp1,hp2,Nod.cells,hone,f1,f2,f3]
   obtain ⟨v',K',g1,g2,g3⟩:=c_copyMats (hm.pre (.app K [.cells (n.cells sv) 54])) (hs n (List.mem_of_getElem? hb))
   simp only [Nod.cells] at g1 g2 g3
   refine bndC_of g1 ?_
   have hcc:hcells K' K.length=some (n.cells sv):=g2.hcells (by simp [Nod.cells])
   have hkk:=g2.get (b:=K.length) (o:=.cells (n.cells sv) 54) (by simp [Nod.cells])
   have hl8:hlen K' K.length=some 8:=by rw [hcells_len hcc];rfl
   have hKl:K.length < K'.length:=(List.getElem?_eq_some_iff.1 hkk).1
   have v1:=g3.one
   have v2:=g3.cells
   have v3:=g3.stor
   simp [hl8,hkk,v2,v3,Nod.cells]
   generalize hM:K'.set K.length (.cells [byt n.kind,byt n.agg,v',i64 n.window,byt n.cmp,i64 n.value,i64 n.left,i64 n.right] 54)=M
   have hMc:hcells M K.length=some (n.cells v'):=by
    rw [← hM,hcells_eq,List.getElem?_set_self hKl];rfl
   have hMp:Pre H M:=by
    rw [← hM];exact ((hp.more _).trans g2).set hpl
   have hMl:K.length < M.length:=by rw [← hM];simpa using hKl
   have hkeep:∀ (b:Nat) o,K[b]?=some o→M[b]?=some o:=fun b o ho=>by
    have hbl:b < K.length:=(List.getElem?_eq_some_iff.1 ho).1
    rw [← hM,List.getElem?_set_ne (by omega)]
    exact g2.get (get_more ho)
   simp [hMc,Nod.cells]
   refine bndL_lit (nod_lit8 n v1) ?_
   have hg3:Gro M H.length 3 56 v' (n.sel.map Mat.cells):=by
    refine (g3.fr fun b o hb ho=>?_).wk (by simp;omega)
    simp at hb
    rw [← hM,List.getElem?_set_ne (by omega)]
    exact ho
   obtain ⟨v2,K2,r1,r2,r3,r4⟩:=NRow.push (hr.fr fun b o _ ho=>hkeep b o ho) n v' hg3 hml (by simp;omega) (by omega)
   dsimp only
   rw [r1]
   simp [show i+1 < 2 ^ 63 by omega]
   refine ih (i+1) K2 v2 _ _ _ _ _ _ _ _ _ _ _ _ _ _ _ _ _ _ _ _ _ _ _ _ _ (by rw [← List.drop_drop,hd];rfl) hlt (r3 H hMp (Nat.le_refl _)) ?_
   rw [List.take_add_one,hb]
   exact r2
theorem c_copyNodes {H:AHeap} {v:Value} {ns:List Nod} (h:NodesAt H v ns) (hnl:ns.length≤100) (hs:∀ n∈ns,n.sel.length≤50):∃ v' K',ACalls prog 21 [v] H v' K'∧Pre H K'∧NRow K' H.length v' ns:=by
 obtain ⟨v',K',⟨h1,h2⟩,h3⟩:∃ v' K',(Pre H K'∧NRow K' H.length v' ns)∧ACalls prog 21 [v] H v' K':=by
  refine acalls_ex MixT func21 (by decide) ?_
  rw [d21]
  exact ⟨ns.length+1,copyN_loop h hnl hs (fun u K p q=>⟨p,q⟩) ns 0 H (.slice none 0 0) _ _ _ _ _ _ _ _ _ _ _ _ _ _ _ _ _ _ _ _ _ _ _ _ _ rfl (by omega) (.refl _) ⟨[],.nil,by simp,fun i n hi=>by simp at hi⟩⟩
 exact ⟨v',K',h3,h1,h2⟩
end Go.Vi
namespace Go.Vi
open Go Go.Proofs Go.Proofs.Tryz
theorem cellF {M:AHeap} {b:Nat} {cs:List Value} {T:TypeId} (h:M[b]?=some (.cells cs T)):hcells M b=some cs∧hlen M b=some cs.length:=by
 have:hcells M b=some cs:=by rw [hcells_eq,h];rfl
 exact ⟨this,hcells_len this⟩
theorem c_copyRule {H:AHeap} {r:Rul} {nv mv:Value} (hn:NodesAt H nv r.nodes) (hm:Arr H 1 mv (strCells r.mutes)) (hs:r.small) :
  ∃ nv' mv' K',ACalls prog 13 [.agg (r.cells nv mv).toArray] H (.agg (r.cells nv' mv').toArray) K'∧Pre H K'∧NRow K' H.length nv' r.nodes∧Gro K' H.length 1 9 mv' (strCells r.mutes):=by
 obtain ⟨v,K',⟨nv',mv',rfl,h1,h2,h3⟩,h4⟩:∃ v K',(∃ nv' mv',v=.agg (r.cells nv' mv').toArray∧Pre H K'∧NRow K' H.length nv' r.nodes∧Gro K' H.length 1 9 mv' (strCells r.mutes))∧ACalls prog 13 [.agg (r.cells nv mv).toArray] H v K':=by
  refine acalls_ex MixT func13 (by decide) ?_
  generalize hk:(fun (v:Value) (K':AHeap)=>∃ nv' mv',v=.agg (r.cells nv' mv').toArray∧Pre H K'∧NRow K' H.length nv' r.nodes∧Gro K' H.length 1 9 mv' (strCells r.mutes))=k
  rw [d13]
  obtain ⟨s1,s2,s3⟩:=hs
  have h1:nv.oneCell'=true:=by obtain ⟨_,h,_⟩:=hn;exact h.one
  have h2:=hm.one
  simp [aNew_agg,Rul.cells,h1,h2]
  generalize hC0:[str r.name,str r.byL,nv,i64 r.forM,i64 r.every,i64 r.repeatM,mv,str r.route]=C0
  generalize hC1:[Value.string { data:=#[] },Value.string { data:=#[] },Value.slice none 0 0,Value.int IntKind.i64 0,Value.int IntKind.i64 0,Value.int IntKind.i64 0,Value.slice none 0 0,Value.string { data:=#[] }]=C1
  obtain ⟨v6,K1,g1,g2,g3⟩:=c_copyNodes (hn.pre (.app H [.cells C0 35,.cells C1 35])) s2 s3
  refine bndC_of g1 ?_
  have e0:K1[H.length]?=some (.cells C0 35):=g2.get (by simp)
  have e1:K1[H.length+1]?=some (.cells C1 35):=g2.get (by simp)
  have l0:hlen K1 H.length=some 8:=by rw [(cellF e0).2,← hC0];rfl
  have hp1:Pre H K1:=(Pre.app _ _).trans g2
  have hl1:H.length+1 < K1.length:=(List.getElem?_eq_some_iff.1 e1).1
  have v1:=g3.one
  have v2:=g3.cells
  have v3:=g3.stor
  simp [l0,e0,v2,v3]
  subst hC0
  dsimp only [List.set_cons_succ,List.set_cons_zero]
  have hp2:Pre H (K1.set H.length (.cells [str r.name,str r.byL,v6,i64 r.forM,i64 r.every,i64 r.repeatM,mv,str r.route] 35)):=hp1.set (Nat.le_refl _)
  have e2:(K1.set H.length (.cells [str r.name,str r.byL,v6,i64 r.forM,i64 r.every,i64 r.repeatM,mv,str r.route] 35))[H.length]?=some (.cells [str r.name,str r.byL,v6,i64 r.forM,i64 r.every,i64 r.repeatM,mv,str r.route] 35):=List.getElem?_set_self (by omega)
  have e3:(K1.set H.length (.cells [str r.name,str r.byL,v6,i64 r.forM,i64 r.every,i64 r.repeatM,mv,str r.route] 35))[H.length+1]?=some (.cells C1 35):=by rw [List.getElem?_set_ne (by omega)];exact e1
  have g4:NRow (K1.set H.length (.cells [str r.name,str r.byL,v6,i64 r.forM,i64 r.every,i64 r.repeatM,mv,str r.route] 35)) (H.length+2) v6 r.nodes:=by
   refine (g3.fr fun b o hb ho=>?_).wk (by simp)
   simp at hb
   rw [List.getElem?_set_ne (by omega)];exact ho
  generalize K1.set H.length (.cells [str r.name,str r.byL,v6,i64 r.forM,i64 r.every,i64 r.repeatM,mv,str r.route] 35)=K2 at hp2 e2 e3 g4 ⊢
  obtain ⟨c2,l2⟩:=cellF e2
  have hm2:=hm.pre hp2
  have hl2:H.length+1 < K2.length:=(List.getElem?_eq_some_iff.1 e3).1
  simp [c2,l2]
  obtain ⟨v11,K3,p1,p2,p3,p4,p5⟩:=Gro.pushN (P:=prog) (K:=K2) (lo:=K2.length) (v:=.slice none 0 0) (cl:=[]) (ds:=strCells r.mutes) (by_:=16) .nil sel1 sel2 hm2.all_len (Nat.le_refl _) hm2.src (by simp [strCells];omega) (by simp [strCells];omega)
  rw [p1]
  simp only [bndE_some]
  have hp3:Pre H K3:=hp2.trans (p5 K2 (Pre.refl _) (Nat.le_refl _))
  have e4:=p3 _ _ (by omega) e2
  have e5:=p3 _ _ (by omega) e3
  obtain ⟨c4,l4⟩:=cellF e4
  have w1:=p2.one
  have w2:=p2.cells
  have w3:=p2.stor
  simp [l4,e4,w2,w3]
  have hp4:Pre H (K3.set H.length (.cells [str r.name,str r.byL,v6,i64 r.forM,i64 r.every,i64 r.repeatM,v11,str r.route] 35)):=hp3.set (Nat.le_refl _)
  have e6:(K3.set H.length (.cells [str r.name,str r.byL,v6,i64 r.forM,i64 r.every,i64 r.repeatM,v11,str r.route] 35))[H.length]?=some (.cells [str r.name,str r.byL,v6,i64 r.forM,i64 r.every,i64 r.repeatM,v11,str r.route] 35):=List.getElem?_set_self (by omega)
  have e7:(K3.set H.length (.cells [str r.name,str r.byL,v6,i64 r.forM,i64 r.every,i64 r.repeatM,v11,str r.route] 35))[H.length+1]?=some (.cells C1 35):=by rw [List.getElem?_set_ne (by omega)];exact e5
  have hl3:H.length+1 < (K3.set H.length (.cells [str r.name,str r.byL,v6,i64 r.forM,i64 r.every,i64 r.repeatM,v11,str r.route] 35)).length:=by simp;omega
  have g5:NRow (K3.set H.length (.cells [str r.name,str r.byL,v6,i64 r.forM,i64 r.every,i64 r.repeatM,v11,str r.route] 35)) (H.length+2) v6 r.nodes:=by
   refine g4.fr fun b o hb ho=>?_
   rw [List.getElem?_set_ne (by omega)];exact p3 _ _ (List.getElem?_eq_some_iff.1 ho).1 ho
  have p6:Gro (K3.set H.length (.cells [str r.name,str r.byL,v6,i64 r.forM,i64 r.every,i64 r.repeatM,v11,str r.route] 35)) (H.length+2) 1 9 v11 (strCells r.mutes):=(p2.wk (by omega)).set (by omega)
  generalize K3.set H.length (.cells [str r.name,str r.byL,v6,i64 r.forM,i64 r.every,i64 r.repeatM,v11,str r.route] 35)=K4 at hp4 e6 e7 hl3 g5 p6 ⊢
  obtain ⟨c6,l6⟩:=cellF e6
  have l1:C1.length=8:=by rw [← hC1];rfl
  simp [c6,e7,l1,w1,v1]
  have hp5:Pre H (K4.set (H.length+1) (.cells [str r.name,str r.byL,v6,i64 r.forM,i64 r.every,i64 r.repeatM,v11,str r.route] 35)):=hp4.set (by omega)
  have e8:(K4.set (H.length+1) (.cells [str r.name,str r.byL,v6,i64 r.forM,i64 r.every,i64 r.repeatM,v11,str r.route] 35))[H.length+1]?=some (.cells [str r.name,str r.byL,v6,i64 r.forM,i64 r.every,i64 r.repeatM,v11,str r.route] 35):=List.getElem?_set_self hl3
  obtain ⟨c8,l8⟩:=cellF e8
  simp [c8]
  rw [← hk]
  exact ⟨v6,v11,rfl,hp5,(g5.fr fun b o hb ho=>by rw [List.getElem?_set_ne (by omega)];exact ho).wk (by omega),(p6.set (by omega)).wk (by omega)⟩
 exact ⟨nv',mv',K',h4,h1,h2,h3⟩
end Go.Vi
namespace Go.Vi
open Go Go.Proofs Go.Proofs.Tryz
def RRow (K:AHeap) (lo:Nat) (v:Value) (rs:List Rul):Prop:=∃ cl,Gro K lo 8 35 v cl∧cl.length=rs.length∧∀ (i:Nat) r,rs[i]?=some r→∃ nv mv,cl[i]?=some (r.cells nv mv)∧NRow K lo nv r.nodes∧Gro K lo 1 9 mv (strCells r.mutes)∧r.mutes.length < 2 ^ 63
theorem RRow.fr {K K' lo v rs} (h:RRow K lo v rs) (hf:∀ (b:Nat) o,lo≤b→K[b]?=some o→K'[b]?=some o):RRow K' lo v rs:=by
 obtain ⟨cl,h1,h2,h3⟩:=h
 refine ⟨cl,h1.fr hf,h2,fun i n hi=>?_⟩
 obtain ⟨nv,mv,q1,q2,q3,q4⟩:=h3 i n hi
 exact ⟨nv,mv,q1,q2.fr hf,q3.fr hf,q4⟩
theorem RRow.wk {K lo lo' v rs} (h:RRow K lo v rs) (hl:lo'≤lo):RRow K lo' v rs:=by
 obtain ⟨cl,h1,h2,h3⟩:=h
 refine ⟨cl,h1.wk hl,h2,fun i n hi=>?_⟩
 obtain ⟨nv,mv,q1,q2,q3,q4⟩:=h3 i n hi
 exact ⟨nv,mv,q1,q2.wk hl,q3.wk hl,q4⟩
theorem RRow.one {K lo v rs} (h:RRow K lo v rs):v.oneCell'=true:=by obtain ⟨cl,h1,_⟩:=h;exact h1.one
theorem rul_lit {K:AHeap} (r:Rul) {nv mv:Value} (h1:nv.oneCell'=true) (h2:mv.oneCell'=true):sliceLit prog K 22 1 [(0,.agg (r.cells nv mv).toArray)] (.slice (some ⟨K.length,0,some 8⟩) 1 1) (K++[.cells (r.cells nv mv) 35]) :=
 sliceLitA (c:=r.cells nv mv) (tbs22 K 1 _) (by rfl) (by simp [Rul.cells,h1,h2]) (by simp)
theorem RRow.push {K lo v rs} (h:RRow K lo v rs) (r:Rul) (nv mv:Value) (hrs:rs.length+1≤2 ^ 30) (hlo:lo≤K.length) :
  ∃ v' K2, aBuiltin prog (K ++ [AObj.cells (r.cells nv mv) 35]) .append #[22, 22] [v, .slice (some ⟨K.length, 0, some 8⟩) 1 1] = some (v', K2) ∧
    v'.cells = #[v']∧v'.oneCell'=true∧storable v'=true ∧
    (NRow K lo nv r.nodes→Gro K lo 1 9 mv (strCells r.mutes)→r.mutes.length < 2 ^ 63→RRow K2 lo v' (rs++[r])) ∧
    (∀ H,Pre H K→H.length≤lo→NodesAt H nv r.nodes→Arr H 1 mv (strCells r.mutes)→r.mutes.length < 2 ^ 63→RulesAt K2 v' (rs++[r])) ∧
    (∀ b o,b < lo→K[b]?=some o→K2[b]?=some o)∧(∀ H,Pre H K→H.length≤lo→Pre H K2)∧K.length≤K2.length:=by
 obtain ⟨cl,hg,hcl,hall⟩:=h
 obtain ⟨v',K2,q1,q2,q3,q4,q5,q6⟩:=Gro.pushK (P:=prog) (Ts:=22) (by_:=120) (x:=.slice (some ⟨K.length,0,some 8⟩) 1 1) (c:=r.cells nv mv) (hg.app (X:=[AObj.cells (r.cells nv mv) 35])) rel1 rel2 (by rfl) (by simp;omega) (by simp [aSrc,Rul.cells]) (by omega) (by omega)
 have hnr:∀ {nv ns},NRow K lo nv ns→NRow K2 lo nv ns:=fun h=>(h.fr fun b o _ ho=>get_more (X:=[AObj.cells (r.cells nv mv) 35]) ho).kt q6 (by decide) (by decide)
 have hst:∀ {sv ms},Gro K lo 1 9 sv ms→Gro K2 lo 1 9 sv ms:=fun hg=>hg.app.kt q6 (by decide)
 refine ⟨v',K2,q1,q2.cells,q2.one,q2.stor,fun a1 a2 a3=>⟨cl++[r.cells nv mv],q2,by simp [hcl],fun i m hi=>?_⟩,fun H p hH a1 a2 a3=>⟨cl++[r.cells nv mv],q2.arr,by simp [hcl],fun i m hi=>?_⟩,fun b o hb ho=>q3 b o hb (get_more ho),fun H p hH=>q5 H (p.more _) hH,by simp at q4;omega⟩
 · rcases get_snoc hi with ⟨hlt,hi⟩ | ⟨rfl,rfl⟩
   · obtain ⟨nv',mv',e1,e2,e3,e4⟩:=hall i m hi
     exact ⟨nv',mv',by rw [List.getElem?_append_left (by omega)];exact e1,hnr e2,hst e3,e4⟩
   · exact ⟨nv,mv,by rw [List.getElem?_append_right (by omega),hcl];simp,hnr a1,hst a2,a3⟩
 · rcases get_snoc hi with ⟨hlt,hi⟩ | ⟨rfl,rfl⟩
   · obtain ⟨nv',mv',e1,e2,e3,e4⟩:=hall i m hi
     exact ⟨nv',mv',by rw [List.getElem?_append_left (by omega)];exact e1,(hnr e2).at,(hst e3).arr,e4⟩
   · have hp:=q5 H (p.more _) hH
     exact ⟨nv,mv,by rw [List.getElem?_append_right (by omega),hcl];simp,a1.pre hp,a2.pre hp,a3⟩
structure CopS (H K:AHeap) (c:Cfg) (rv mv:Value) (a b d lo:Nat) (out:Value) (rs:List Rul):Prop where
 pre:Pre H K
 ca:K[a]?=some (.cells (c.cells rv mv) 26)
 cb:K[b]?=some (.cells [.slice none 0 0,.slice none 0 0,i64 0,i64 0] 26)
 cd:K[d]?=some (.cells [out,.slice none 0 0,i64 c.late,i64 c.limit] 26)
 row:RRow K lo out rs
 h1:H.length≤a
 h2:H.length≤b
 h3:H.length≤d
 h4:a < lo
 h5:b < lo
 h6:d < lo
 h7:a≠d
 h8:b≠d
 h9:a≠b
 hl:lo≤K.length
theorem cop_loop {c:Cfg} {H:AHeap} {rv mv:Value} {a b d lo:Nat} {k:Value→AHeap→Prop} (hr0:RulesAt H rv c.rules) (hm0:MutesAt H mv c.mutes) (hs:c.small)
  (hk:∀ rv' mv' K,Pre H K→RRow K H.length rv' c.rules→Gro K H.length 10 42 mv' (c.mutes.map Mut.cells)→k (.agg (c.cells rv' mv').toArray) K) :
  ∀ (l : List Rul) (i : Nat) (K : AHeap) (out : Value) (O Q R S U V f g h j m n p s t u w y z A B C D E F G I J L M N : Value), c.rules.drop i = l → i ≤ c.rules.length → CopS H K c rv mv a b d lo out (c.rules.take i) →
    L5x0 (l.length+1) k [O,.pointer (some ⟨a,0,some 4⟩),.pointer (some ⟨b,0,some 4⟩),.pointer (some ⟨d,0,some 4⟩),i64 i,Q,R,S,U,V,f,g,h,j,m,n,p,s,t,u,w,y,z,A,B,C,D,E,F,G,I,J,L,M,N] K:=by
 intro l
 induction l with
 | nil =>
   intro i K out O Q R S U V f g h j m n p s t u w y z A B C D E F G I J L M N hd hi hq
   have hle:c.rules.length≤i:=by simpa using hd
   rw [List.take_of_length_le hle] at hq
   obtain ⟨pre,ca,cb,cd,row,q1,q2,q3,q4,q5,q6,q7,q8,q9,hll⟩:=hq
   have hl:=(hr0.pre pre).lenR K
   obtain ⟨ca1,ca2⟩:=cellF ca
   obtain ⟨cd1,cd2⟩:=cellF cd
   simp only [Cfg.cells] at ca1 ca2
   have hm:=hm0.pre pre
   have:¬ i < c.rules.length:=by omega
   obtain ⟨v2,K2,p1,p2,p3,p4,p5⟩:=Gro.pushN (P:=prog) (K:=K) (lo:=K.length) (v:=.slice none 0 0) (cl:=[]) (ds:=c.mutes.map Mut.cells) (by_:=40) .nil mel1 mel2 hm.1.all_len (Nat.le_refl _) hm.1.src (by have:=hs.2.1;simp;omega) (by have:=hs.2.1;simp;omega)
   rw [List.length_nil,L5x0q]
   simp [ca1,ca2,cd1,cd2,hl,this]
   rw [p1]
   simp only [bndE_some]
   have p2:Gro K2 K.length 10 42 v2 (c.mutes.map Mut.cells):=by simpa using p2
   have cd':=p3 _ _ (by omega) cd
   have cb':=p3 _ _ (by omega) cb
   obtain ⟨dd1,dd2⟩:=cellF cd'
   have r1:=row.one
   have w1:=p2.one
   have w2:=p2.cells
   have w3:=p2.stor
   have hp2:Pre H K2:=pre.trans (p5 K (Pre.refl _) (Nat.le_refl _))
   simp [dd2,cd',w2,w3]
   have hp3:Pre H (K2.set d (.cells [out,v2,i64 c.late,i64 c.limit] 26)):=hp2.set q3
   have cd3:(K2.set d (.cells [out,v2,i64 c.late,i64 c.limit] 26))[d]?=some (.cells [out,v2,i64 c.late,i64 c.limit] 26):=List.getElem?_set_self (by omega)
   have cb3:(K2.set d (.cells [out,v2,i64 c.late,i64 c.limit] 26))[b]?=some (.cells [.slice none 0 0,.slice none 0 0,i64 0,i64 0] 26):=by rw [List.getElem?_set_ne (by omega)];exact cb'
   have row3:RRow (K2.set d (.cells [out,v2,i64 c.late,i64 c.limit] 26)) lo out c.rules:=row.fr fun b o hb ho=>by
    rw [List.getElem?_set_ne (by omega)];exact p3 _ _ (List.getElem?_eq_some_iff.1 ho).1 ho
   have mu3:Gro (K2.set d (.cells [out,v2,i64 c.late,i64 c.limit] 26)) lo 10 42 v2 (c.mutes.map Mut.cells):=(p2.wk hll).set q6
   have hl3:b < (K2.set d (.cells [out,v2,i64 c.late,i64 c.limit] 26)).length:=by simp;omega
   generalize K2.set d (.cells [out,v2,i64 c.late,i64 c.limit] 26)=K3 at hp3 cd3 cb3 row3 mu3 hl3 ⊢
   obtain ⟨dd3,dd4⟩:=cellF cd3
   simp [dd3,cb3,r1,w1]
   have cb4:(K3.set b (.cells [out,v2,i64 c.late,i64 c.limit] 26))[b]?=some (.cells [out,v2,i64 c.late,i64 c.limit] 26):=List.getElem?_set_self hl3
   obtain ⟨bb1,bb2⟩:=cellF cb4
   simp [bb1]
   refine hk out v2 _ (hp3.set q2) ((row3.fr fun b' o hb ho=>?_).wk (by omega)) ((mu3.set q5).wk (by omega))
   rw [List.getElem?_set_ne (by omega)];exact ho
 | cons x l ih =>
   intro i K out O Q R S U V f g h j m n p s t u w y z A B C D E F G I J L M N hd hi hq
   have hb:c.rules[i]?=some x:=by rw [← List.head?_drop,hd];rfl
   have hlt:i < c.rules.length:=(List.getElem?_eq_some_iff.1 hb).1
   obtain ⟨pre,ca,cb,cd,row,q1,q2,q3,q4,q5,q6,q7,q8,q9,hll⟩:=hq
   have hl:=(hr0.pre pre).lenR K
   obtain ⟨ca1,ca2⟩:=cellF ca
   obtain ⟨cd1,cd2⟩:=cellF cd
   simp only [Cfg.cells] at ca1 ca2
   obtain ⟨cl,ha,hcl,hcc⟩:=hr0.pre pre
   obtain ⟨nv,xv,hx,hn,hxm,hxl⟩:=hcc _ _ hb
   obtain ⟨q,hp1,hp2⟩:=ha.load (P:=prog) (T:=22) (te:=35) (i:=i) (e:=x.cells nv xv) (by simp) (by simp) (by simp) hx
   rw [List.length_cons,L5x0q]
   simp [ca1,ca2,cd1,cd2,hl,hlt,hp1,hp2]
   obtain ⟨nv',mv',K1,g1,⟨X,rfl⟩,g3,g4⟩:=c_copyRule (r:=x) hn hxm (hs.2.2 x (List.mem_of_getElem? hb))
   refine bndD_of g1 (.inr ⟨X,rfl⟩) ?_
   dsimp only
   refine bndD_of (rul_lit x g3.one g4.one) (.inr ⟨_,rfl⟩) ?_
   dsimp only
   obtain ⟨v2,K2,r1,r2,r3,r4,r5,r6,r7,r8,r9⟩:=(row.fr (K':=K++X) fun b o _ ho=>get_more ho).push x nv' mv' (by have:=hs.1;simp;omega) (by simp;omega)
   refine bndD_of r1 (.inl rfl) ?_
   have row2:=r5 (g3.wk hll) (g4.wk hll) hxl
   have ca':=r7 _ _ q4 (get_more ca)
   have cb':=r7 _ _ q5 (get_more cb)
   have cd':=r7 _ _ q6 (get_more cd)
   obtain ⟨dd1,dd2⟩:=cellF cd'
   have hp2:Pre H K2:=r8 H (pre.more _) (by omega)
   have hl2:d < K2.length:=(List.getElem?_eq_some_iff.1 cd').1
   simp [dd2]
   refine bndD_of (v:=undef) (H':=K2.set d (.cells [v2,.slice none 0 0,i64 c.late,i64 c.limit] 26)) ⟨rfl,by simp [cd',r2,r4]⟩ (.inl rfl) ?_
   simp [show i+1 < 2 ^ 63 by have:=hs.1;omega]
   refine ih (i+1) _ v2 _ _ _ _ _ _ _ _ _ _ _ _ _ _ _ _ _ _ _ _ _ _ _ _ _ _ _ _ _ _ _ (by rw [← List.drop_drop,hd];rfl) hlt ⟨hp2.set q3,?_,?_,List.getElem?_set_self hl2,?_,q1,q2,q3,q4,q5,q6,q7,q8,q9,?_⟩
   · rw [List.getElem?_set_ne (by omega)];exact ca'
   · rw [List.getElem?_set_ne (by omega)];exact cb'
   · rw [List.take_add_one,hb]
     exact row2.fr fun b o hb ho=>by rw [List.getElem?_set_ne (by omega)];exact ho
   · simp at r9 ⊢;omega
theorem c_copyCfg {c:Cfg} {H:AHeap} {rv mv:Value} (hr:RulesAt H rv c.rules) (hm:MutesAt H mv c.mutes) (hs:c.small) :
  ∃ rv' mv' K',ACalls prog 5 [.agg (c.cells rv mv).toArray] H (.agg (c.cells rv' mv').toArray) K'∧Pre H K'∧RRow K' H.length rv' c.rules∧Gro K' H.length 10 42 mv' (c.mutes.map Mut.cells):=by
 obtain ⟨v,K',⟨rv',mv',rfl,h1,h2,h3⟩,h4⟩:∃ v K',(∃ rv' mv',v=.agg (c.cells rv' mv').toArray∧Pre H K'∧RRow K' H.length rv' c.rules∧Gro K' H.length 10 42 mv' (c.mutes.map Mut.cells))∧ACalls prog 5 [.agg (c.cells rv mv).toArray] H v K':=by
  refine acalls_ex MixT func5 (by decide) ?_
  generalize hk:(fun (v:Value) (K':AHeap)=>∃ rv' mv',v=.agg (c.cells rv' mv').toArray∧Pre H K'∧RRow K' H.length rv' c.rules∧Gro K' H.length 10 42 mv' (c.mutes.map Mut.cells))=k
  rw [d5]
  have h1:=hr.one
  have h2:=hm.one
  simp [aNew_agg,Cfg.cells,h1,h2]
  refine ⟨c.rules.length+1,?_⟩
  refine cop_loop (H:=H) (a:=H.length) (b:=H.length+1) (d:=H.length+2) (lo:=H.length+3) hr hm hs (fun rv' mv' K p q1 q2=>?_) c.rules 0 _ (.slice none 0 0) _ _ _ _ _ _ _ _ _ _ _ _ _ _ _ _ _ _ _ _ _ _ _ _ _ _ _ _ _ _ _ rfl (by omega) ⟨.app _ _,?_,?_,?_,⟨[],.nil,by simp,fun i r hi=>by simp at hi⟩,by omega,by omega,by omega,by omega,by omega,by omega,by omega,by omega,by omega,by simp⟩
  · rw [← hk]
    exact ⟨rv',mv',rfl,p,q1,q2⟩
  · simp [Cfg.cells]
  · simp
  · simp
 exact ⟨rv',mv',K',h4,h1,h2,h3⟩
end Go.Vi
namespace Go.Vi
open Go Go.Proofs Go.Proofs.Tryz
structure Rul.tame (r:Rul):Prop where
 name:r.name.length≤5000
 byL:r.byL.length≤5000
 route:r.route.length≤5000
 muts:∀ s∈r.mutes,s.length≤5000
 mlen:r.mutes.length≤100
 nlen:r.nodes.length≤100
 nods:∀ n∈r.nodes,n.tame
 win:∀ n∈r.nodes,n.window < 2 ^ 63
@[simp] theorem bndG_un {want:Bool} {H:AHeap} {e q:QH}:@bndG undef want H e q=q.f undef H:=by
 apply propext
 constructor
 · rintro ⟨v,H',h,k⟩
   obtain ⟨rfl,rfl⟩:v=undef∧H'=H:=h
   exact k
 · intro k;exact ⟨undef,H,⟨rfl,rfl⟩,k⟩
section
variable {H:AHeap} {r:Rul} {nv mv:Value} {b:Nat} {k:Value→AHeap→Prop}
theorem strs_get {K:AHeap} {v:Value} {l:List (List UInt8)} {i:Nat} {s:List UInt8} (ha:Arr K 1 v (strCells l)) (hi:l[i]?=some s):∃ p,aIndexAddr prog K 33 v (i64 i)=some p∧aLoad prog K 9 p=some (str s) :=
 ha.load1 (P:=prog) (T:=33) (te:=9) (x:=str s) (by simp) (by simp) (by simp) (by simp [strCells,hi])
end
end Go.Vi
namespace Go.Vi
open Go Go.Proofs Go.Proofs.Tryz
section
variable {r:Rul} {H:AHeap} {nv mv:Value} {b:Nat} {k:Value→AHeap→Prop}
theorem bb_x2 {n1:Nat} (hn0:NodesAt H nv r.nodes) {i:Nat} {nd:Nod} (hi:r.nodes[i]?=some nd) (hsel:nd.sel.length≤50) (hi2:i+1 < 2 ^ 63) (hT:∀ K,Pre H K→k (.bool true) K)
  (hk:nd.tame→∀ (K:AHeap) (left:Int) (s0 s2 s4 s6 s7 s8 s9 Y Z aa ab ac ad ae af ag ah ai aj ak al am an ao ap aq ar au av aw ax ay az aA aB aC aD aE aF aG aH aI aJ aK aL aM aN aO aP aQ aR aS aT aU aV aW aX aY aZ a0 a1 a2 a3 a4 a5 a6 a7 a8 a9 ba bb bc bd be bf bg bh bi bj bk bl bm bn bo bp bq br bs bt bu bv bw bx bz bA bB bC a c g h n o s t u v w z A B C D E F G I J L M N O Q R S U V W:Value),Pre H K→left≤5000→hcells K b=some (r.cells nv mv)→L12x1 n1 k [s0,.pointer (some ⟨b,0,some 8⟩),s2,i64 left,s4,i64 ((i+1:Nat):Int),s6,s7,s8,s9,Y,Z,aa,ab,ac,ad,ae,af,ag,ah,ai,aj,ak,al,am,an,ao,ap,aq,ar,au,av,aw,ax,ay,az,aA,aB,aC,aD,aE,aF,aG,aH,aI,aJ,aK,aL,aM,aN,aO,aP,aQ,aR,aS,aT,aU,aV,aW,aX,aY,aZ,a0,a1,a2,a3,a4,a5,a6,a7,a8,a9,ba,bb,bc,bd,be,bf,bg,bh,bi,bj,bk,bl,bm,bn,bo,bp,bq,br,bs,bt,bu,bv,bw,bx,bz,bA,bB,bC,a,c,g,h,n,o,s,t,u,v,w,z,A,B,C,D,E,F,G,I,J,L,M,N,O,Q,R,S,U,V,W] K) :
  ∀ (m : List Mat) (j : Nat) (left : Int) (K : AHeap) (s0 s2 s4 s7 s8 s9 Y Z aa ab ac ad ae af ag ah ai aj ak al am an ao ap aq ar au av aw ax ay az aA aB aC aD aE aF aG aH aI aJ aK aL aM aN aO aP aQ aR aS aT aU aV aW aX aY aZ a0 a1 a2 a3 a4 a5 a6 a7 a8 a9 ba bb bc bd be bf bg bh bi bj bk bl bm bn bo bp bq br bs bt bu bv bw bx bz bA bB bC a c g h n o s t u v w z A B C D E F G I J L M N O Q R S U V W : Value), nd.sel.drop j = m → j ≤ nd.sel.length → Pre H K → left ≤ 5000 → (∀ (l : Nat) x, l < j → nd.sel[l]? = some x → x.tame) → hcells K b = some (r.cells nv mv) →
    L12x2 (m.length+1) n1 k [s0,.pointer (some ⟨b,0,some 8⟩),s2,i64 left,s4,i64 i,i64 j,s7,s8,s9,Y,Z,aa,ab,ac,ad,ae,af,ag,ah,ai,aj,ak,al,am,an,ao,ap,aq,ar,au,av,aw,ax,ay,az,aA,aB,aC,aD,aE,aF,aG,aH,aI,aJ,aK,aL,aM,aN,aO,aP,aQ,aR,aS,aT,aU,aV,aW,aX,aY,aZ,a0,a1,a2,a3,a4,a5,a6,a7,a8,a9,ba,bb,bc,bd,be,bf,bg,bh,bi,bj,bk,bl,bm,bn,bo,bp,bq,br,bs,bt,bu,bv,bw,bx,bz,bA,bB,bC,a,c,g,h,n,o,s,t,u,v,w,z,A,B,C,D,E,F,G,I,J,L,M,N,O,Q,R,S,U,V,W] K:=by
 intro m
 induction m with
 | nil =>
   intro j left K s0 s2 s4 s7 s8 s9 Y Z aa ab ac ad ae af ag ah ai aj ak al am an ao ap aq ar au av aw ax ay az aA aB aC aD aE aF aG aH aI aJ aK aL aM aN aO aP aQ aR aS aT aU aV aW aX aY aZ a0 a1 a2 a3 a4 a5 a6 a7 a8 a9 ba bb bc bd be bf bg bh bi bj bk bl bm bn bo bp bq br bs bt bu bv bw bx bz bA bB bC a c g h n o s t u v w z A B C D E F G I J L M N O Q R S U V W hd hj hp hle0 hac hc
   have hle:nd.sel.length≤j:=by simpa using hd
   obtain ⟨cl,ha,hcl,hcc⟩:=hn0.pre hp
   obtain ⟨sv,h1,h2,h3⟩:=hcc _ _ hi
   obtain ⟨p,q,f1,f2,f3⟩:=ha.field (P:=prog) (T:=32) (te:=54) (ft:=52) (f:=2) (d:=2) (x:=sv) (by simp) (by simp) (by simp) (by simp) (by simp) h1 rfl
   have hl:=h2.len (P:=prog) (T:=52) (e:=56) (by simp)
   simp only [List.length_map] at hl
   have hl8:Vi.hlen K b=some 8:=by rw [hcells_len hc];rfl
   rw [List.length_nil,L12x2q]
   have:¬ j < nd.sel.length:=by omega
   simp [hc,hl8,Rul.cells,f1,f2,f3,hl,this,hi2]
   refine hk ⟨by omega,fun x hx=>?_⟩ K left _ _ _ _ _ _ _ _ _ _ _ _ _ _ _ _ _ _ _ _ _ _ _ _ _ _ _ _ _ _ _ _ _ _ _ _ _ _ _ _ _ _ _ _ _ _ _ _ _ _ _ _ _ _ _ _ _ _ _ _ _ _ _ _ _ _ _ _ _ _ _ _ _ _ _ _ _ _ _ _ _ _ _ _ _ _ _ _ _ _ _ _ _ _ _ _ _ _ _ _ _ _ _ _ _ _ _ _ _ _ _ _ _ _ _ _ _ _ _ _ _ _ _ _ _ _ _ _ hp hle0 hc
   obtain ⟨l,hl⟩:=List.getElem?_of_mem hx
   exact hac l x (by have:=(List.getElem?_eq_some_iff.1 hl).1;omega) hl
 | cons x m ih =>
   intro j left K s0 s2 s4 s7 s8 s9 Y Z aa ab ac ad ae af ag ah ai aj ak al am an ao ap aq ar au av aw ax ay az aA aB aC aD aE aF aG aH aI aJ aK aL aM aN aO aP aQ aR aS aT aU aV aW aX aY aZ a0 a1 a2 a3 a4 a5 a6 a7 a8 a9 ba bb bc bd be bf bg bh bi bj bk bl bm bn bo bp bq br bs bt bu bv bw bx bz bA bB bC a c g h n o s t u v w z A B C D E F G I J L M N O Q R S U V W hd hj hp hle0 hac hc
   have hb:nd.sel[j]?=some x:=by rw [← List.head?_drop,hd];rfl
   have hlt:j < nd.sel.length:=(List.getElem?_eq_some_iff.1 hb).1
   obtain ⟨cl,ha,hcl,hcc⟩:=hn0.pre hp
   obtain ⟨sv,h1,h2,h3⟩:=hcc _ _ hi
   obtain ⟨p,q,f1,f2,f3⟩:=ha.field (P:=prog) (T:=32) (te:=54) (ft:=52) (f:=2) (d:=2) (x:=sv) (by simp) (by simp) (by simp) (by simp) (by simp) h1 rfl
   have hl:=h2.len (P:=prog) (T:=52) (e:=56) (by simp)
   simp only [List.length_map] at hl
   obtain ⟨p2,g1,g2⟩:=h2.load (P:=prog) (T:=52) (te:=56) (i:=j) (e:=x.cells) (by simp) (by simp) (by simp) (by simp [hb])
   have hl8:Vi.hlen K b=some 8:=by rw [hcells_len hc];rfl
   have hX:=fun X:AHeap=>hcells_more (X:=X) hc
   rw [List.length_cons,L12x2q]
   by_cases t1:left < (x.name.length:Int)
   · simp [hc,hl8,Rul.cells,f1,f2,f3,hl,hlt,g1,g2,Mat.cells,t1]
     exact hT _ (hp.more _)
   · have hw:IntKind.i64.wrap (left-x.name.length)=left-x.name.length:=wrap_i64 (by omega) (by omega)
     by_cases t2:left-(x.name.length:Int) < (x.value.length:Int)
     · simp [hc,hl8,Rul.cells,f1,f2,f3,hl,hlt,g1,g2,Mat.cells,t1,hw,t2]
       exact hT _ (hp.more _)
     · have hw2:IntKind.i64.wrap (left-x.name.length-x.value.length)=left-x.name.length-x.value.length:=wrap_i64 (by omega) (by omega)
       simp [hc,hl8,Rul.cells,f1,f2,f3,hl,hlt,g1,g2,Mat.cells,t1,hw,t2,hw2,show j+1 < 2 ^ 63 by omega]
       refine ih (j+1) _ _ _ _ _ _ _ _ _ _ _ _ _ _ _ _ _ _ _ _ _ _ _ _ _ _ _ _ _ _ _ _ _ _ _ _ _ _ _ _ _ _ _ _ _ _ _ _ _ _ _ _ _ _ _ _ _ _ _ _ _ _ _ _ _ _ _ _ _ _ _ _ _ _ _ _ _ _ _ _ _ _ _ _ _ _ _ _ _ _ _ _ _ _ _ _ _ _ _ _ _ _ _ _ _ _ _ _ _ _ _ _ _ _ _ _ _ _ _ _ _ _ _ _ _ _ _ _ _ (by rw [← List.drop_drop,hd];rfl) hlt (hp.more _) (by omega) (fun l y hl hy=>?_) (hX _)
       by_cases e:l=j
       · subst e;rw [hb] at hy;cases hy;exact ⟨by omega,by omega⟩
       · exact hac l y (by omega) hy
theorem bb_x1 (hn0:NodesAt H nv r.nodes) (hnl:r.nodes.length≤100) (hT:∀ K,Pre H K→k (.bool true) K) (hk:(∀ n∈r.nodes,n.sel.length≤50∧n.tame)→∀ K,Pre H K→k (.bool false) K) :
  ∀ (ns : List Nod) (i : Nat) (left : Int) (K : AHeap) (s0 s2 s4 s6 s7 s8 s9 W X Y Z aa ab ac ad ae af ag ah ai aj ak al am an ao ap aq ar au av aw ax ay az aA aB aC aD aE aF aG aH aI aJ aK aL aM aN aO aP aQ aR aS aT aU aV aW aX aY aZ a0 a1 a2 a3 a4 a5 a6 a7 a8 a9 ba bb bc bd be bf bg bh bi bj bk bl bm bn bo bp bq br bs bt bu bv bw bx bz bA a c g h j m o s t u v w z A B C D E F G I J L M N O Q R S U V : Value), r.nodes.drop i = ns → i ≤ r.nodes.length → (∀ n ∈ r.nodes.take i, n.sel.length ≤ 50 ∧ n.tame) → Pre H K → left ≤ 5000 → hcells K b = some (r.cells nv mv) →
    L12x1 (ns.length+1) k [s0,.pointer (some ⟨b,0,some 8⟩),s2,i64 left,s4,i64 i,s6,s7,s8,s9,W,X,Y,Z,aa,ab,ac,ad,ae,af,ag,ah,ai,aj,ak,al,am,an,ao,ap,aq,ar,au,av,aw,ax,ay,az,aA,aB,aC,aD,aE,aF,aG,aH,aI,aJ,aK,aL,aM,aN,aO,aP,aQ,aR,aS,aT,aU,aV,aW,aX,aY,aZ,a0,a1,a2,a3,a4,a5,a6,a7,a8,a9,ba,bb,bc,bd,be,bf,bg,bh,bi,bj,bk,bl,bm,bn,bo,bp,bq,br,bs,bt,bu,bv,bw,bx,bz,bA,a,c,g,h,j,m,o,s,t,u,v,w,z,A,B,C,D,E,F,G,I,J,L,M,N,O,Q,R,S,U,V] K:=by
 intro ns
 induction ns with
 | nil =>
   intro i left K s0 s2 s4 s6 s7 s8 s9 W X Y Z aa ab ac ad ae af ag ah ai aj ak al am an ao ap aq ar au av aw ax ay az aA aB aC aD aE aF aG aH aI aJ aK aL aM aN aO aP aQ aR aS aT aU aV aW aX aY aZ a0 a1 a2 a3 a4 a5 a6 a7 a8 a9 ba bb bc bd be bf bg bh bi bj bk bl bm bn bo bp bq br bs bt bu bv bw bx bz bA a c g h j m o s t u v w z A B C D E F G I J L M N O Q R S U V hd hi hs hp hle0 hc
   have hle:r.nodes.length≤i:=by simpa using hd
   have hl:=(hn0.pre hp).len K
   have hl8:Vi.hlen K b=some 8:=by rw [hcells_len hc];rfl
   rw [List.length_nil,L12x1q]
   have:¬ i < r.nodes.length:=by omega
   simp [hc,hl8,Rul.cells,hl,this]
   exact hk (by rw [List.take_of_length_le hle] at hs;exact hs) K hp
 | cons x ns ih =>
   intro i left K s0 s2 s4 s6 s7 s8 s9 W X Y Z aa ab ac ad ae af ag ah ai aj ak al am an ao ap aq ar au av aw ax ay az aA aB aC aD aE aF aG aH aI aJ aK aL aM aN aO aP aQ aR aS aT aU aV aW aX aY aZ a0 a1 a2 a3 a4 a5 a6 a7 a8 a9 ba bb bc bd be bf bg bh bi bj bk bl bm bn bo bp bq br bs bt bu bv bw bx bz bA a c g h j m o s t u v w z A B C D E F G I J L M N O Q R S U V hd hi hs hp hle0 hc
   have hb:r.nodes[i]?=some x:=by rw [← List.head?_drop,hd];rfl
   have hlt:i < r.nodes.length:=(List.getElem?_eq_some_iff.1 hb).1
   obtain ⟨cl,ha,hcl,hcc⟩:=hn0.pre hp
   obtain ⟨sv,h1,h2,h3⟩:=hcc _ _ hb
   obtain ⟨p,q,f1,f2,f3⟩:=ha.field (P:=prog) (T:=32) (te:=54) (ft:=52) (f:=2) (d:=2) (x:=sv) (by simp) (by simp) (by simp) (by simp) (by simp) h1 rfl
   have hl:=h2.len (P:=prog) (T:=52) (e:=56) (by simp)
   simp only [List.length_map] at hl
   have hln:=(hn0.pre hp).len K
   have hl8:Vi.hlen K b=some 8:=by rw [hcells_len hc];rfl
   rw [List.length_cons,L12x1q]
   simp [hc,hl8,Rul.cells,hln,hlt,f1,f2,f3,hl]
   by_cases h50:50 < x.sel.length
   · have h50I:(50:Int) < x.sel.length:=by omega
     simp [h50I]
     exact hT K hp
   · have h50I:¬ (50:Int) < x.sel.length:=by omega
     simp [h50I]
     refine ⟨x.sel.length+1,bb_x2 (H:=H) (r:=r) (nv:=nv) (mv:=mv) (b:=b) hn0 hb (by omega) (by omega) hT ?_ x.sel 0 left K _ _ _ _ _ _ _ _ _ _ _ _ _ _ _ _ _ _ _ _ _ _ _ _ _ _ _ _ _ _ _ _ _ _ _ _ _ _ _ _ _ _ _ _ _ _ _ _ _ _ _ _ _ _ _ _ _ _ _ _ _ _ _ _ _ _ _ _ _ _ _ _ _ _ _ _ _ _ _ _ _ _ _ _ _ _ _ _ _ _ _ _ _ _ _ _ _ _ _ _ _ _ _ _ _ _ _ _ _ _ _ _ _ _ _ _ _ _ _ _ _ _ _ _ _ _ _ rfl (by omega) hp hle0 (fun l y hl=>by omega) hc⟩
     intro htx K2 left2 s0 s2 s4 s6 s7 s8 s9 W X Y Z aa ab ac ad ae af ag ah ai aj ak al am an ao ap aq ar au av aw ax ay az aA aB aC aD aE aF aG aH aI aJ aK aL aM aN aO aP aQ aR aS aT aU aV aW aX aY aZ a0 a1 a2 a3 a4 a5 a6 a7 a8 a9 ba bb bc bd be bf bg bh bi bj bk bl bm bn bo bp bq br bs bt bu bv bw bx bz bA a c g h j m o s t u v w z A B C D E F G I J L M N O Q R S U V hp2 hle2 hc2
     refine ih (i+1) left2 K2 _ _ _ _ _ _ _ _ _ _ _ _ _ _ _ _ _ _ _ _ _ _ _ _ _ _ _ _ _ _ _ _ _ _ _ _ _ _ _ _ _ _ _ _ _ _ _ _ _ _ _ _ _ _ _ _ _ _ _ _ _ _ _ _ _ _ _ _ _ _ _ _ _ _ _ _ _ _ _ _ _ _ _ _ _ _ _ _ _ _ _ _ _ _ _ _ _ _ _ _ _ _ _ _ _ _ _ _ _ _ _ _ _ _ _ _ _ _ _ _ _ _ _ _ _ _ _ _ (by rw [← List.drop_drop,hd];rfl) hlt ?_ hp2 hle2 hc2
     intro n hn
     rw [List.take_add_one,hb] at hn
     simp at hn
     rcases hn with hn | rfl
     · exact hs n hn
     · exact ⟨by omega,htx⟩
set_option maxRecDepth 20000 in
theorem bb_x0 (hn0:NodesAt H nv r.nodes) (hm0:Arr H 1 mv (strCells r.mutes)) (hnl:r.nodes.length≤100) (hml:r.mutes.length≤100) (hT:∀ K,Pre H K→k (.bool true) K)
  (hk:(∀ n∈r.nodes,n.sel.length≤50∧n.tame)→(∀ s∈r.mutes,s.length≤5000)→∀ K,Pre H K→k (.bool false) K) :
  ∀ (l : List (List UInt8)) (i : Nat) (left : Int) (K : AHeap) (s0 s2 s5 s6 s7 s8 s9 U V W X Y Z aa ab ac ad ae af ag ah ai aj ak al am an ao ap aq ar au av aw ax ay az aA aB aC aD aE aF aG aH aI aJ aK aL aM aN aO aP aQ aR aS aT aU aV aW aX aY aZ a0 a1 a2 a3 a4 a5 a6 a7 a8 a9 ba bb bc bd be bf bg bh bi bj bk bl bm bn bo bp bq br bs bt bu bv bw bx a c d f g j m o p t u v w y z A B C D E F G I J L M N O Q R S : Value), r.mutes.drop i = l → i ≤ r.mutes.length → (∀ s ∈ r.mutes.take i, s.length ≤ 5000) → Pre H K → left ≤ 5000 → hcells K b = some (r.cells nv mv) →
    L12x0 (l.length+1) k [s0,.pointer (some ⟨b,0,some 8⟩),s2,i64 left,i64 i,s5,s6,s7,s8,s9,U,V,W,X,Y,Z,aa,ab,ac,ad,ae,af,ag,ah,ai,aj,ak,al,am,an,ao,ap,aq,ar,au,av,aw,ax,ay,az,aA,aB,aC,aD,aE,aF,aG,aH,aI,aJ,aK,aL,aM,aN,aO,aP,aQ,aR,aS,aT,aU,aV,aW,aX,aY,aZ,a0,a1,a2,a3,a4,a5,a6,a7,a8,a9,ba,bb,bc,bd,be,bf,bg,bh,bi,bj,bk,bl,bm,bn,bo,bp,bq,br,bs,bt,bu,bv,bw,bx,a,c,d,f,g,j,m,o,p,t,u,v,w,y,z,A,B,C,D,E,F,G,I,J,L,M,N,O,Q,R,S] K:=by
 intro l
 induction l with
 | nil =>
   intro i left K s0 s2 s5 s6 s7 s8 s9 U V W X Y Z aa ab ac ad ae af ag ah ai aj ak al am an ao ap aq ar au av aw ax ay az aA aB aC aD aE aF aG aH aI aJ aK aL aM aN aO aP aQ aR aS aT aU aV aW aX aY aZ a0 a1 a2 a3 a4 a5 a6 a7 a8 a9 ba bb bc bd be bf bg bh bi bj bk bl bm bn bo bp bq br bs bt bu bv bw bx a c d f g j m o p t u v w y z A B C D E F G I J L M N O Q R S hd hi hs hp hle0 hc
   have hle:r.mutes.length≤i:=by simpa using hd
   have hl:=(hm0.pre hp).len (P:=prog) (T:=33) (e:=9) (by simp)
   simp [strCells] at hl
   have hl8:Vi.hlen K b=some 8:=by rw [hcells_len hc];rfl
   rw [List.length_nil,L12x0q]
   have:¬ i < r.mutes.length:=by omega
   simp [hc,hl8,Rul.cells,hl,this]
   rw [List.take_of_length_le hle] at hs
   exact ⟨r.nodes.length+1,bb_x1 (H:=H) (r:=r) (nv:=nv) (mv:=mv) (b:=b) hn0 hnl hT (fun h=>hk h hs) r.nodes 0 left K _ _ _ _ _ _ _ _ _ _ _ _ _ _ _ _ _ _ _ _ _ _ _ _ _ _ _ _ _ _ _ _ _ _ _ _ _ _ _ _ _ _ _ _ _ _ _ _ _ _ _ _ _ _ _ _ _ _ _ _ _ _ _ _ _ _ _ _ _ _ _ _ _ _ _ _ _ _ _ _ _ _ _ _ _ _ _ _ _ _ _ _ _ _ _ _ _ _ _ _ _ _ _ _ _ _ _ _ _ _ _ _ _ _ _ _ _ _ _ _ _ _ _ _ _ _ _ _ rfl (by omega) (by simp) hp hle0 hc⟩
 | cons x l ih =>
   intro i left K s0 s2 s5 s6 s7 s8 s9 U V W X Y Z aa ab ac ad ae af ag ah ai aj ak al am an ao ap aq ar au av aw ax ay az aA aB aC aD aE aF aG aH aI aJ aK aL aM aN aO aP aQ aR aS aT aU aV aW aX aY aZ a0 a1 a2 a3 a4 a5 a6 a7 a8 a9 ba bb bc bd be bf bg bh bi bj bk bl bm bn bo bp bq br bs bt bu bv bw bx a c d f g j m o p t u v w y z A B C D E F G I J L M N O Q R S hd hi hs hp hle0 hc
   have hb:r.mutes[i]?=some x:=by rw [← List.head?_drop,hd];rfl
   have hlt:i < r.mutes.length:=(List.getElem?_eq_some_iff.1 hb).1
   have hl:=(hm0.pre hp).len (P:=prog) (T:=33) (e:=9) (by simp)
   simp [strCells] at hl
   obtain ⟨q,hp1,hp2⟩:=strs_get (hm0.pre hp) hb
   have hl8:Vi.hlen K b=some 8:=by rw [hcells_len hc];rfl
   rw [List.length_cons,L12x0q]
   by_cases t1:left < (x.length:Int)
   · simp [hc,hl8,Rul.cells,hl,hlt,hp1,hp2,t1]
     exact hT K hp
   · have hw:IntKind.i64.wrap (left-x.length)=left-x.length:=wrap_i64 (by omega) (by omega)
     simp [hc,hl8,Rul.cells,hl,hlt,hp1,hp2,t1,hw,show i+1 < 2 ^ 63 by omega]
     refine ih (i+1) _ K _ _ _ _ _ _ _ _ _ _ _ _ _ _ _ _ _ _ _ _ _ _ _ _ _ _ _ _ _ _ _ _ _ _ _ _ _ _ _ _ _ _ _ _ _ _ _ _ _ _ _ _ _ _ _ _ _ _ _ _ _ _ _ _ _ _ _ _ _ _ _ _ _ _ _ _ _ _ _ _ _ _ _ _ _ _ _ _ _ _ _ _ _ _ _ _ _ _ _ _ _ _ _ _ _ _ _ _ _ _ _ _ _ _ _ _ _ _ _ _ _ _ _ _ _ _ _ _ (by rw [← List.drop_drop,hd];rfl) hlt ?_ hp (by omega) hc
     intro s hs'
     rw [List.take_add_one,hb] at hs'
     simp at hs'
     rcases hs' with hs' | rfl
     · exact hs s hs'
     · omega
theorem c_bbig (hn0:NodesAt H nv r.nodes) (hm0:Arr H 1 mv (strCells r.mutes)) (hw:∀ n∈r.nodes,n.window < 2 ^ 63):∃ b,(b=false→r.small∧r.tame)∧ACalls prog 12 [.agg (r.cells nv mv).toArray] H (.bool b) H:=by
 refine acalls_bool MixT func12 (by decide) fun k hT hk=>?_
 rw [d12]
 have h1:nv.oneCell'=true:=by obtain ⟨_,h,_⟩:=hn0;exact h.one
 have h2:=hm0.one
 have hl:∀ X:AHeap,aLen prog (H++X) 33 mv=some (i64 r.mutes.length):=fun X=>by
  have:=(hm0.pre (.app H X)).len (P:=prog) (T:=33) (e:=9) (by simp)
  simpa [strCells] using this
 have hln:=fun X:AHeap=>(hn0.pre (.app H X)).len (H++X)
 have hT':=hT (H++[.cells [str r.name,str r.byL,nv,i64 r.forM,i64 r.every,i64 r.repeatM,mv,str r.route] 35]) (.app _ _)
 by_cases c1:(100:Int) < r.mutes.length
 · simp [aNew_agg,Rul.cells,h1,h2,hl,c1]
   exact hT'
 by_cases c2:(100:Int) < r.nodes.length
 · simp [aNew_agg,Rul.cells,h1,h2,hl,hln,c1,c2]
   exact hT'
 by_cases c3:(1000:Int) < r.name.length
 · simp [aNew_agg,Rul.cells,h1,h2,hl,hln,c1,c2,c3]
   exact hT'
 by_cases c4:(1000:Int) < r.byL.length
 · simp [aNew_agg,Rul.cells,h1,h2,hl,hln,c1,c2,c3,c4]
   exact hT'
 by_cases c5:(1000:Int) < r.route.length
 · simp [aNew_agg,Rul.cells,h1,h2,hl,hln,c1,c2,c3,c4,c5]
   exact hT'
 have w1:IntKind.i64.wrap (5000-(r.name.length:Int))=5000-r.name.length:=wrap_i64 (by omega) (by omega)
 have w2:IntKind.i64.wrap (5000-(r.name.length:Int)-r.byL.length)=5000-r.name.length-r.byL.length:=wrap_i64 (by omega) (by omega)
 have w3:IntKind.i64.wrap (5000-(r.name.length:Int)-r.byL.length-r.route.length)=5000-r.name.length-r.byL.length-r.route.length:=wrap_i64 (by omega) (by omega)
 simp [aNew_agg,Rul.cells,h1,h2,hl,hln,c1,c2,c3,c4,c5,w1,w2,w3]
 refine ⟨r.mutes.length+1,?_⟩
 exact bb_x0 (H:=H) (r:=r) (nv:=nv) (mv:=mv) (b:=H.length) hn0 hm0 (by omega) (by omega) hT (fun q1 q2 K p=>hk ⟨⟨by omega,by omega,fun n hn=>(q1 n hn).1⟩,⟨by omega,by omega,by omega,q2,by omega,by omega,fun n hn=>(q1 n hn).2,hw⟩⟩ K p) r.mutes 0 _ _ _ _ _ _ _ _ _ _ _ _ _ _ _ _ _ _ _ _ _ _ _ _ _ _ _ _ _ _ _ _ _ _ _ _ _ _ _ _ _ _ _ _ _ _ _ _ _ _ _ _ _ _ _ _ _ _ _ _ _ _ _ _ _ _ _ _ _ _ _ _ _ _ _ _ _ _ _ _ _ _ _ _ _ _ _ _ _ _ _ _ _ _ _ _ _ _ _ _ _ _ _ _ _ _ _ _ _ _ _ _ _ _ _ _ _ _ _ _ _ _ _ _ _ _ _ _ _ _ rfl (by omega) (by simp) (.app _ _) (by omega) (by simp [Rul.cells])
end
end Go.Vi
namespace Go.Vi
open Go Go.Proofs Go.Proofs.Tryz
theorem mut_cells {m:Mut} (hd:m.days.length=7):∃ d0 d1 d2 d3 d4 d5 d6:Bool,m.cells=[str m.name,.bool d0,.bool d1,.bool d2,.bool d3,.bool d4,.bool d5,.bool d6,i64 m.fromM,i64 m.toM]:=by
 obtain ⟨name,days,fr,to⟩:=m
 simp only at hd
 match days,hd with
 | [d0,d1,d2,d3,d4,d5,d6],_=>exact ⟨d0,d1,d2,d3,d4,d5,d6,rfl⟩
section
variable {H:AHeap} {r:Rul} {n1 m1 n2 m2:Value} {a b:Nat} {k:Value→AHeap→Prop}
theorem sameR_loop (hn1:NodesAt H n1 r.nodes) (hn2:NodesAt H n2 r.nodes) (hm1:Arr H 1 m1 (strCells r.mutes)) (hm2:Arr H 1 m2 (strCells r.mutes)) (hml:r.mutes.length < 2 ^ 62) (hnl:r.nodes.length < 2 ^ 62) (hs:∀ n∈r.nodes,n.sel.length < 2 ^ 63)
  (ha:hcells H a=some (r.cells n1 m1)) (hb:hcells H b=some (r.cells n2 m2)) (hk:k (.bool true) H) :
  ∀ (d i:Nat) (s0 s1 s4 s6 s7 s8 s9 c f g h j l m o u v w x y z A B C D E F G I J K L M N O Q R S U V W X Y Z aa ab ac ad ae af ag ah ai aj ak al am an ao ap aq ar au av aw ax ay az aA aB aC aD aE aF aG:Value),d+i=r.mutes.length→L20x0 (d+1) k [s0,s1,.pointer (some ⟨a,0,some 8⟩),.pointer (some ⟨b,0,some 8⟩),s4,i64 i,s6,s7,s8,s9,c,f,g,h,j,l,m,o,u,v,w,x,y,z,A,B,C,D,E,F,G,I,J,K,L,M,N,O,Q,R,S,U,V,W,X,Y,Z,aa,ab,ac,ad,ae,af,ag,ah,ai,aj,ak,al,am,an,ao,ap,aq,ar,au,av,aw,ax,ay,az,aA,aB,aC,aD,aE,aF,aG] H:=by
 have la:Vi.hlen H a=some 8:=by rw [hcells_len ha];rfl
 have lb:Vi.hlen H b=some 8:=by rw [hcells_len hb];rfl
 simp only [Rul.cells] at ha hb
 have hlen:=Arr.len (P:=prog) (T:=33) (e:=9) hm1 (by simp)
 simp [strCells] at hlen
 intro d
 induction d with
 | zero =>
   intro i s0 s1 s4 s6 s7 s8 s9 c f g h j l m o u v w x y z A B C D E F G I J K L M N O Q R S U V W X Y Z aa ab ac ad ae af ag ah ai aj ak al am an ao ap aq ar au av aw ax ay az aA aB aC aD aE aF aG hi
   have:¬ i < r.mutes.length:=by omega
   rw [L20x0q]
   simp [ha,hb,la,lb,hlen,this]
   refine bndG_t (.bool true) H (by have:=r_sameN hn1 hn2 (by omega) hs;simpa using this) ?_
   simp [ha,hb,la,lb]
   exact hk
 | succ d ih =>
   intro i s0 s1 s4 s6 s7 s8 s9 c f g h j l m o u v w x y z A B C D E F G I J K L M N O Q R S U V W X Y Z aa ab ac ad ae af ag ah ai aj ak al am an ao ap aq ar au av aw ax ay az aA aB aC aD aE aF aG hi
   have hlt:i < r.mutes.length:=by omega
   obtain ⟨s,hs'⟩:∃ t,r.mutes[i]?=some t:=⟨_,List.getElem?_eq_getElem hlt⟩
   obtain ⟨p,p1,p2⟩:=strs_get hm1 hs'
   obtain ⟨q,q1,q2⟩:=strs_get hm2 hs'
   rw [L20x0q]
   simp [ha,hb,la,lb,hlen,hlt,p1,p2,q1,q2,show i+1 < 2 ^ 63 by omega]
   exact ih (i+1) _ _ _ _ _ _ _ _ _ _ _ _ _ _ _ _ _ _ _ _ _ _ _ _ _ _ _ _ _ _ _ _ _ _ _ _ _ _ _ _ _ _ _ _ _ _ _ _ _ _ _ _ _ _ _ _ _ _ _ _ _ _ _ _ _ _ _ _ _ _ _ _ _ _ _ (by omega)
theorem r_sameRule (hn1:NodesAt H n1 r.nodes) (hn2:NodesAt H n2 r.nodes) (hm1:Arr H 1 m1 (strCells r.mutes)) (hm2:Arr H 1 m2 (strCells r.mutes)) (hml:r.mutes.length < 2 ^ 62) (hnl:r.nodes.length < 2 ^ 62) (hs:∀ n∈r.nodes,n.sel.length < 2 ^ 63) :
  ACalls prog 20 [.agg (r.cells n1 m1).toArray,.agg (r.cells n2 m2).toArray] H (.bool true) H:=by
 refine acalls_pure MixT func20 (by decide) rfl ?_
 have o1:n1.oneCell'=true:=by obtain ⟨_,h,_⟩:=hn1;exact h.one
 have o2:=hm1.one
 have o3:n2.oneCell'=true:=by obtain ⟨_,h,_⟩:=hn2;exact h.one
 have o4:=hm2.one
 have hnew1:aNew H 35 (.agg (r.cells n1 m1).toArray)=some (.pointer (some ⟨H.length,0,some 8⟩),H++[.cells (r.cells n1 m1) 35]):=by simp [aNew_agg,Rul.cells,o1,o2]
 have hnew2:aNew (H++[.cells (r.cells n1 m1) 35]) 35 (.agg (r.cells n2 m2).toArray)=some (.pointer (some ⟨H.length+1,0,some 8⟩),H++[.cells (r.cells n1 m1) 35,.cells (r.cells n2 m2) 35]):=by simp [aNew_agg,Rul.cells,o3,o4]
 rw [d20,hnew1]
 simp only [bndE_some]
 rw [hnew2]
 simp only [bndE_some]
 obtain ⟨K,hK⟩:∃ K,K=H++[AObj.cells (r.cells n1 m1) 35,.cells (r.cells n2 m2) 35]:=⟨_,rfl⟩
 have hp:Pre H K:=by rw [hK];exact .app _ _
 have ha0:hcells K H.length=some (r.cells n1 m1):=by rw [hK];simp
 have hb0:hcells K (H.length+1)=some (r.cells n2 m2):=by rw [hK];simp
 rw [← hK]
 have la:Vi.hlen K H.length=some 8:=by rw [hcells_len ha0];rfl
 have lb:Vi.hlen K (H.length+1)=some 8:=by rw [hcells_len hb0];rfl
 have ha:=ha0
 have hb:=hb0
 simp only [Rul.cells] at ha hb
 have e1:=Arr.len (P:=prog) (T:=33) (e:=9) (hm1.pre hp) (by simp)
 have e2:=Arr.len (P:=prog) (T:=33) (e:=9) (hm2.pre hp) (by simp)
 simp [strCells] at e1 e2
 simp [ha,hb,la,lb,e1,e2]
 exact ⟨r.mutes.length+1,sameR_loop (hn1.pre hp) (hn2.pre hp) (hm1.pre hp) (hm2.pre hp) hml hnl hs ha0 hb0 ⟨rfl,hp⟩ r.mutes.length 0 _ _ _ _ _ _ _ _ _ _ _ _ _ _ _ _ _ _ _ _ _ _ _ _ _ _ _ _ _ _ _ _ _ _ _ _ _ _ _ _ _ _ _ _ _ _ _ _ _ _ _ _ _ _ _ _ _ _ _ _ _ _ _ _ _ _ _ _ _ _ _ _ _ _ _ (by omega)⟩
end
end Go.Vi
namespace Go.Vi
open Go Go.Proofs Go.Proofs.Tryz
structure Cfg.tame (c:Cfg):Prop where
 small:c.small
 rules:∀ r∈c.rules,r.tame
 names:∀ m∈c.mutes,m.name.length≤5000
section
variable {c:Cfg} {H:AHeap} {rv mv:Value} {b:Nat} {k:Value→AHeap→Prop}
theorem bcfg_x1 (hm:MutesAt H mv c.mutes) (hml:c.mutes.length≤50) (hT:∀ K,Pre H K→k (.bool true) K) (hk:(∀ m∈c.mutes,m.name.length≤5000)→∀ K,Pre H K→k (.bool false) K) :
  ∀ (l : List Mut) (i : Nat) (K : AHeap) (X Y Z s5 s6 s7 s8 s9 a g h j n o r s t u v w y z A B C D E F G I J L M N O Q R S U V W : Value), c.mutes.drop i = l → i ≤ c.mutes.length → (∀ m ∈ c.mutes.take i, m.name.length ≤ 5000) → Pre H K → hcells K b = some (c.cells rv mv) →
    L4x1 (l.length+1) k [X,.pointer (some ⟨b,0,some 4⟩),Y,Z,i64 i,s5,s6,s7,s8,s9,a,g,h,j,n,o,r,s,t,u,v,w,y,z,A,B,C,D,E,F,G,I,J,L,M,N,O,Q,R,S,U,V,W] K:=by
 intro l
 induction l with
 | nil =>
   intro i K X Y Z s5 s6 s7 s8 s9 a g h j n o r s t u v w y z A B C D E F G I J L M N O Q R S U V W hd hi hs hp hc
   have hle:c.mutes.length≤i:=by simpa using hd
   have hl:=(hm.pre hp).lenM K
   have hl4:Vi.hlen K b=some 4:=by rw [hcells_len hc];rfl
   rw [List.length_nil,L4x1q]
   have:¬ i < c.mutes.length:=by omega
   rw [List.take_of_length_le hle] at hs
   simp [hc,hl4,Cfg.cells,hl,this]
   exact hk hs K hp
 | cons x l ih =>
   intro i K X Y Z s5 s6 s7 s8 s9 a g h j n o r s t u v w y z A B C D E F G I J L M N O Q R S U V W hd hi hs hp hc
   have hb:c.mutes[i]?=some x:=by rw [← List.head?_drop,hd];rfl
   have hlt:i < c.mutes.length:=(List.getElem?_eq_some_iff.1 hb).1
   have hl:=(hm.pre hp).lenM K
   have hl4:Vi.hlen K b=some 4:=by rw [hcells_len hc];rfl
   obtain ⟨p,q,f1,f2,f3⟩:=(hm.pre hp).1.field (P:=prog) (T:=24) (te:=42) (ft:=9) (f:=0) (d:=0) (i:=i) (e:=x.cells) (x:=str x.name) (by simp) (by simp) (by simp) (by simp) (by simp) (by simp [hb]) x.hd
   rw [List.length_cons,L4x1q]
   by_cases t1:(1000:Int) < x.name.length
   · simp [hc,hl4,Cfg.cells,hl,hlt,f1,f2,f3,t1]
     exact hT K hp
   · simp [hc,hl4,Cfg.cells,hl,hlt,f1,f2,f3,t1,show i+1 < 2 ^ 63 by omega]
     refine ih (i+1) K _ _ _ _ _ _ _ _ _ _ _ _ _ _ _ _ _ _ _ _ _ _ _ _ _ _ _ _ _ _ _ _ _ _ _ _ _ _ _ _ _ (by rw [← List.drop_drop,hd];rfl) hlt ?_ hp hc
     intro m hm'
     rw [List.take_add_one,hb] at hm'
     simp at hm'
     rcases hm' with hm' | rfl
     · exact hs m hm'
     · omega
theorem bcfg_x0 (hr:RulesAt H rv c.rules) (hw:∀ r∈c.rules,∀ n∈r.nodes,n.window < 2 ^ 63) (hm:MutesAt H mv c.mutes) (hrl:c.rules.length≤20) (hml:c.mutes.length≤50) (hT:∀ K,Pre H K→k (.bool true) K) (hk:c.tame→∀ K,Pre H K→k (.bool false) K) :
  ∀ (l : List Rul) (i : Nat) (K : AHeap) (W X Y Z s6 s7 s8 s9 a d f g h j m o p s u v w y z A B C D E F G I J L M N O Q R S U V : Value), c.rules.drop i = l → i ≤ c.rules.length → (∀ r ∈ c.rules.take i, r.small ∧ r.tame) → Pre H K → hcells K b = some (c.cells rv mv) →
    L4x0 (l.length+1) k [W,.pointer (some ⟨b,0,some 4⟩),X,i64 i,Y,Z,s6,s7,s8,s9,a,d,f,g,h,j,m,o,p,s,u,v,w,y,z,A,B,C,D,E,F,G,I,J,L,M,N,O,Q,R,S,U,V] K:=by
 intro l
 induction l with
 | nil =>
   intro i K W X Y Z s6 s7 s8 s9 a d f g h j m o p s u v w y z A B C D E F G I J L M N O Q R S U V hd hi hs hp hc
   have hle:c.rules.length≤i:=by simpa using hd
   have hl:=(hr.pre hp).lenR K
   have hl4:Vi.hlen K b=some 4:=by rw [hcells_len hc];rfl
   rw [List.length_nil,L4x0q]
   have:¬ i < c.rules.length:=by omega
   rw [List.take_of_length_le hle] at hs
   simp [hc,hl4,Cfg.cells,hl,this]
   exact ⟨c.mutes.length+1,bcfg_x1 (H:=H) (c:=c) (rv:=rv) (mv:=mv) (b:=b) hm hml hT (fun hnm=>hk ⟨⟨hrl,hml,fun r hr=>(hs r hr).1⟩,fun r hr=>(hs r hr).2,hnm⟩) c.mutes 0 K _ _ _ _ _ _ _ _ _ _ _ _ _ _ _ _ _ _ _ _ _ _ _ _ _ _ _ _ _ _ _ _ _ _ _ _ _ _ _ _ _ rfl (by omega) (by simp) hp hc⟩
 | cons x l ih =>
   intro i K W X Y Z s6 s7 s8 s9 a d f g h j m o p s u v w y z A B C D E F G I J L M N O Q R S U V hd hi hs hp hc
   have hb:c.rules[i]?=some x:=by rw [← List.head?_drop,hd];rfl
   have hlt:i < c.rules.length:=(List.getElem?_eq_some_iff.1 hb).1
   have hl:=(hr.pre hp).lenR K
   have hl4:Vi.hlen K b=some 4:=by rw [hcells_len hc];rfl
   obtain ⟨cl,ha,hcl,hcc⟩:=hr.pre hp
   obtain ⟨nv,xv,hx,hn,hxm,hxl⟩:=hcc _ _ hb
   obtain ⟨q,hp1,hp2⟩:=ha.load (P:=prog) (T:=22) (te:=35) (i:=i) (e:=x.cells nv xv) (by simp) (by simp) (by simp) hx
   rw [List.length_cons,L4x0q]
   simp [hc,hl4,Cfg.cells,hl,hlt,hp1,hp2]
   obtain ⟨t,ht,hcall⟩:=c_bbig (r:=x) hn hxm (hw x (List.mem_of_getElem? hb))
   refine bndC_of hcall ?_
   cases t with
   | true =>
     simp
     exact hT K hp
   | false =>
     simp [show i+1 < 2 ^ 63 by omega]
     refine ih (i+1) K _ _ _ _ _ _ _ _ _ _ _ _ _ _ _ _ _ _ _ _ _ _ _ _ _ _ _ _ _ _ _ _ _ _ _ _ _ _ _ _ _ (by rw [← List.drop_drop,hd];rfl) hlt ?_ hp hc
     intro r hrm
     rw [List.take_add_one,hb] at hrm
     simp at hrm
     rcases hrm with hrm | rfl
     · exact hs r hrm
     · exact ht rfl
theorem c_BBig (hr:RulesAt H rv c.rules) (hw:∀ r∈c.rules,∀ n∈r.nodes,n.window < 2 ^ 63) (hm:MutesAt H mv c.mutes):∃ b,(b=false→c.tame)∧ACalls prog 4 [.agg (c.cells rv mv).toArray] H (.bool b) H:=by
 refine acalls_bool MixT func4 (by decide) fun k hT hk=>?_
 rw [d4]
 have h1:=hr.one
 have h2:=hm.one
 have hlr:=fun X:AHeap=>hr.lenR (H++X)
 have hlm:=fun X:AHeap=>hm.lenM (H++X)
 simp +contextual [aNew_agg,Cfg.cells,h1,h2,hlr,hlm]
 refine kifB_bool (fun h=>?_) (fun h=>?_)
 · exact hT _ (.app _ _)
 · simp at h
   refine ⟨c.rules.length+1,?_⟩
   exact bcfg_x0 (H:=H) (c:=c) (rv:=rv) (mv:=mv) (b:=H.length) hr hw hm (by omega) (by omega) hT hk c.rules 0 _ _ _ _ _ _ _ _ _ _ _ _ _ _ _ _ _ _ _ _ _ _ _ _ _ _ _ _ _ _ _ _ _ _ _ _ _ _ _ _ _ _ rfl (by omega) (by simp) (.app _ _) (by simp [Cfg.cells])
end
end Go.Vi
namespace Go.Vi
open Go Go.Proofs Go.Proofs.Tryz
section
variable {c:Cfg} {H:AHeap} {rv mv:Value} {b:Nat} {k:Value→AHeap→Prop}
theorem rule_at (hr:RulesAt H rv c.rules) {i:Nat} {r:Rul} (hi:c.rules[i]?=some r):∃ nv xv,NodesAt H nv r.nodes∧Arr H 1 xv (strCells r.mutes)∧r.mutes.length < 2 ^ 63∧∃ p q6,aIndexAddr prog H 22 rv (i64 i)=some p∧aLoad prog H 35 p=some (.agg (r.cells nv xv).toArray) ∧
  (∃ q0,aFieldAddr prog H 35 p 0=some q0∧aLoad prog H 9 q0=some (str r.name))∧aFieldAddr prog H 35 p 6=some q6∧aLoad prog H 33 q6=some xv:=by
 obtain ⟨cl,ha,hcl,hcc⟩:=hr
 obtain ⟨nv,xv,hx,hn,hxm,hxl⟩:=hcc _ _ hi
 obtain ⟨p,hp1,hp2⟩:=ha.load (P:=prog) (T:=22) (te:=35) (i:=i) (e:=r.cells nv xv) (by simp) (by simp) (by simp) hx
 obtain ⟨p0,q0,a1,a2,a3⟩:=ha.field (P:=prog) (T:=22) (te:=35) (ft:=9) (f:=0) (d:=0) (x:=str r.name) (by simp) (by simp) (by simp) (by simp) (by simp) hx rfl
 obtain ⟨p6,q6,b1,b2,b3⟩:=ha.field (P:=prog) (T:=22) (te:=35) (ft:=33) (f:=6) (d:=6) (x:=xv) (by simp) (by simp) (by simp) (by simp) (by simp) hx rfl
 rw [hp1] at a1 b1
 cases a1
 cases b1
 exact ⟨nv,xv,hn,hxm,hxl,p,q6,hp1,hp2,⟨q0,a2,a3⟩,b2,b3⟩
theorem mute_at (hm:MutesAt H mv c.mutes) {i:Nat} {m:Mut} (hi:c.mutes[i]?=some m):∃ p q0,aIndexAddr prog H 24 mv (i64 i)=some p∧aLoad prog H 42 p=some (.agg m.cells.toArray)∧aFieldAddr prog H 42 p 0=some q0∧aLoad prog H 9 q0=some (str m.name):=by
 obtain ⟨p,hp1,hp2⟩:=hm.1.load (P:=prog) (T:=24) (te:=42) (i:=i) (e:=m.cells) (by simp) (by simp) (by simp) (by simp [hi])
 obtain ⟨p0,q0,a1,a2,a3⟩:=hm.1.field (P:=prog) (T:=24) (te:=42) (ft:=9) (f:=0) (d:=0) (i:=i) (e:=m.cells) (x:=str m.name) (by simp) (by simp) (by simp) (by simp) (by simp) (by simp [hi]) m.hd
 rw [hp1] at a1
 cases a1
 exact ⟨p,q0,hp1,hp2,a2,a3⟩
end
end Go.Vi
namespace Go.Vi
open Go Go.Proofs Go.Proofs.Tryz
theorem pv_strR {P:Program} {T:TypeId} {d:Nat} {a:ByteArray} (h:P.underlying T=some .string):pv P (Op.equalIn (d+1) T (.string a) (.string a))=some true:=by
 have e:(a == a)=true:=by
  obtain ⟨⟨x⟩⟩:=a
  show ((⟨x⟩:Array UInt8) == ⟨x⟩)=true
  simp
 unfold Op.equalIn
 rw [pv_bind,pv_und h]
 simp [pv_pure,e]
theorem pv_intR {P:Program} {T:TypeId} {d:Nat} {k k':IntKind} {n:Int} (h:P.underlying T=some (.int k')):pv P (Op.equalIn (d+1) T (.int k n) (.int k n))=some true:=by
 unfold Op.equalIn
 rw [pv_bind,pv_und h]
 simp [pv_pure]
theorem days_eq (d0 d1 d2 d3 d4 d5 d6:Bool):pv prog (Op.equalIn 9999 40 (.agg #[.bool d0,.bool d1,.bool d2,.bool d3,.bool d4,.bool d5,.bool d6]) (.agg #[.bool d0,.bool d1,.bool d2,.bool d3,.bool d4,.bool d5,.bool d6]))=some true:=by
 cases d0<;>cases d1<;>cases d2<;>cases d3<;>cases d4<;>cases d5<;>cases d6<;>kernel_rfl
theorem mute_eq (nm:List UInt8) (d0 d1 d2 d3 d4 d5 d6:Bool) (a b:Int):pv prog (Op.equal 42 (.agg #[str nm,.bool d0,.bool d1,.bool d2,.bool d3,.bool d4,.bool d5,.bool d6,i64 a,i64 b]) (.agg #[str nm,.bool d0,.bool d1,.bool d2,.bool d3,.bool d4,.bool d5,.bool d6,i64 a,i64 b]))=some true:=by
 show pv prog (Op.equalIn (9998+1+1) 42 _ _)=_
 have hs:prog.stoodInHeld 42=false:=by kernel_rfl
 have p0:pv prog (part 9 #[str nm,.bool d0,.bool d1,.bool d2,.bool d3,.bool d4,.bool d5,.bool d6,i64 a,i64 b] 0)=some (str nm):=by kernel_rfl
 have p1:pv prog (part 40 #[str nm,.bool d0,.bool d1,.bool d2,.bool d3,.bool d4,.bool d5,.bool d6,i64 a,i64 b] 1)=some (.agg #[.bool d0,.bool d1,.bool d2,.bool d3,.bool d4,.bool d5,.bool d6]):=by kernel_rfl
 have p2:pv prog (part 3 #[str nm,.bool d0,.bool d1,.bool d2,.bool d3,.bool d4,.bool d5,.bool d6,i64 a,i64 b] 8)=some (i64 a):=by kernel_rfl
 have p3:pv prog (part 3 #[str nm,.bool d0,.bool d1,.bool d2,.bool d3,.bool d4,.bool d5,.bool d6,i64 a,i64 b] 9)=some (i64 b):=by kernel_rfl
 have e0:pv prog (Op.equalIn (9998+1) 9 (str nm) (str nm))=some true:=pv_strR (by simp)
 have e1:pv prog (Op.equalIn (9998+1) 40 (.agg #[.bool d0,.bool d1,.bool d2,.bool d3,.bool d4,.bool d5,.bool d6]) (.agg #[.bool d0,.bool d1,.bool d2,.bool d3,.bool d4,.bool d5,.bool d6]))=some true:=days_eq d0 d1 d2 d3 d4 d5 d6
 have e2:∀ n:Int,pv prog (Op.equalIn (9998+1) 3 (i64 n) (i64 n))=some true:=fun n=>pv_intR (k':=.i64) (by simp)
 rw [Op.equalIn]
 rw [pv_bind,pv_und (by simp;rfl)]
 simp only [Option.bind_some]
 simp [pv_bind,pv_prog,hs,p0,p1,p2,p3,e0,e1,e2,pv_pure]
theorem aBin_mute {H:AHeap} {x y:Operand} {m:Mut} (hd:m.days.length=7):aBin2 prog H .neq 42 x y (.agg m.cells.toArray) (.agg m.cells.toArray)=some (.bool false):=by
 obtain ⟨d0,d1,d2,d3,d4,d5,d6,hce⟩:=mut_cells hd
 rw [hce]
 apply aBin2_of
 have hg:pv prog (eqGuard .neq 42 x y (.agg [str m.name,.bool d0,.bool d1,.bool d2,.bool d3,.bool d4,.bool d5,.bool d6,i64 m.fromM,i64 m.toM].toArray) (.agg [str m.name,.bool d0,.bool d1,.bool d2,.bool d3,.bool d4,.bool d5,.bool d6,i64 m.fromM,i64 m.toM].toArray))=some ():=by kernel_rfl
 have:pv prog (do eqGuard .neq 42 x y (.agg [str m.name,.bool d0,.bool d1,.bool d2,.bool d3,.bool d4,.bool d5,.bool d6,i64 m.fromM,i64 m.toM].toArray) (.agg [str m.name,.bool d0,.bool d1,.bool d2,.bool d3,.bool d4,.bool d5,.bool d6,i64 m.fromM,i64 m.toM].toArray);binOp .neq 42 (.agg [str m.name,.bool d0,.bool d1,.bool d2,.bool d3,.bool d4,.bool d5,.bool d6,i64 m.fromM,i64 m.toM].toArray) (.agg [str m.name,.bool d0,.bool d1,.bool d2,.bool d3,.bool d4,.bool d5,.bool d6,i64 m.fromM,i64 m.toM].toArray))=some (.bool false):=by
  rw [pv_bind,hg,Option.bind_some]
  show pv prog (Op.equal 42 (.agg #[str m.name,.bool d0,.bool d1,.bool d2,.bool d3,.bool d4,.bool d5,.bool d6,i64 m.fromM,i64 m.toM]) (.agg #[str m.name,.bool d0,.bool d1,.bool d2,.bool d3,.bool d4,.bool d5,.bool d6,i64 m.fromM,i64 m.toM]) >>= fun r=>pure (Value.bool !r))=_
  rw [pv_bind,mute_eq];rfl
 unfold aBin
 rw [if_pos ⟨rfl,rfl⟩,this];rfl
section
variable {c:Cfg} {H:AHeap} {rv mv rv' mv':Value} {a b:Nat} {k:Value→AHeap→Prop}
theorem sameC_x1 (hm:MutesAt H mv c.mutes) (hm':MutesAt H mv' c.mutes) (hml:c.mutes.length < 2 ^ 62) (ha:hcells H a=some (c.cells rv mv)) (hb:hcells H b=some (c.cells rv' mv')) (hk:k (.bool true) H) :
  ∀ (d i:Nat) (s0 s1 s4 s5 s7 s8 s9 e f g h j l n o r t u v w x y z A B C D E F G I J K L M N O P Q R S T U V W X Y Z aa ab ac ad ae af ag ah ai aj ak al am an ao ap aq ar au av aw ax ay:Value),d+i=c.mutes.length→L11x1 (d+1) k [s0,s1,.pointer (some ⟨a,0,some 4⟩),.pointer (some ⟨b,0,some 4⟩),s4,s5,i64 i,s7,s8,s9,e,f,g,h,j,l,n,o,r,t,u,v,w,x,y,z,A,B,C,D,E,F,G,I,J,K,L,M,N,O,P,Q,R,S,T,U,V,W,X,Y,Z,aa,ab,ac,ad,ae,af,ag,ah,ai,aj,ak,al,am,an,ao,ap,aq,ar,au,av,aw,ax,ay] H:=by
 have la:Vi.hlen H a=some 4:=by rw [hcells_len ha];rfl
 have lb:Vi.hlen H b=some 4:=by rw [hcells_len hb];rfl
 simp only [Cfg.cells] at ha hb
 have hlen:=hm.lenM H
 intro d
 induction d with
 | zero =>
   intro i s0 s1 s4 s5 s7 s8 s9 e f g h j l n o r t u v w x y z A B C D E F G I J K L M N O P Q R S T U V W X Y Z aa ab ac ad ae af ag ah ai aj ak al am an ao ap aq ar au av aw ax ay hi
   have:¬ i < c.mutes.length:=by omega
   rw [L11x1q]
   simp [ha,la,hlen,this]
   exact hk
 | succ d ih =>
   intro i s0 s1 s4 s5 s7 s8 s9 e f g h j l n o r t u v w x y z A B C D E F G I J K L M N O P Q R S T U V W X Y Z aa ab ac ad ae af ag ah ai aj ak al am an ao ap aq ar au av aw ax ay hi
   have hlt:i < c.mutes.length:=by omega
   obtain ⟨m,hx⟩:∃ s,c.mutes[i]?=some s:=⟨_,List.getElem?_eq_getElem hlt⟩
   obtain ⟨p,_,p1,p2,_⟩:=mute_at hm hx
   obtain ⟨q,_,q1,q2,_⟩:=mute_at hm' hx
   rw [L11x1q]
   simp [ha,hb,la,lb,hlen,hlt,p1,p2,q1,q2,aBin_mute (hm.2 m (List.mem_of_getElem? hx)),show i+1 < 2 ^ 63 by omega]
   exact ih (i+1) _ _ _ _ _ _ _ _ _ _ _ _ _ _ _ _ _ _ _ _ _ _ _ _ _ _ _ _ _ _ _ _ _ _ _ _ _ _ _ _ _ _ _ _ _ _ _ _ _ _ _ _ _ _ _ _ _ _ _ _ _ _ _ _ _ _ _ _ _ _ _ (by omega)
theorem sameC_x0 (hr:RulesAt H rv c.rules) (hr':RulesAt H rv' c.rules) (hm:MutesAt H mv c.mutes) (hm':MutesAt H mv' c.mutes) (hml:c.mutes.length < 2 ^ 62) (ht:∀ r∈c.rules,r.tame) (hrl:c.rules.length < 2 ^ 62)
  (ha:hcells H a=some (c.cells rv mv)) (hb:hcells H b=some (c.cells rv' mv')) (hk:k (.bool true) H) :
  ∀ (d i:Nat) (s0 s1 s4 s6 s7 s8 s9 e f g h j l m o t u v w x y z A B C D E F G I J K L M N O P Q R S T U V W X Y Z aa ab ac ad ae af ag ah ai aj ak al am an ao ap aq ar au av aw ax ay az:Value),d+i=c.rules.length→L11x0 (d+1) k [s0,s1,.pointer (some ⟨a,0,some 4⟩),.pointer (some ⟨b,0,some 4⟩),s4,i64 i,s6,s7,s8,s9,e,f,g,h,j,l,m,o,t,u,v,w,x,y,z,A,B,C,D,E,F,G,I,J,K,L,M,N,O,P,Q,R,S,T,U,V,W,X,Y,Z,aa,ab,ac,ad,ae,af,ag,ah,ai,aj,ak,al,am,an,ao,ap,aq,ar,au,av,aw,ax,ay,az] H:=by
 have la:Vi.hlen H a=some 4:=by rw [hcells_len ha];rfl
 have lb:Vi.hlen H b=some 4:=by rw [hcells_len hb];rfl
 have ha0:=ha
 have hb0:=hb
 simp only [Cfg.cells] at ha hb
 have hlen:=hr.lenR H
 intro d
 induction d with
 | zero =>
   intro i s0 s1 s4 s6 s7 s8 s9 e f g h j l m o t u v w x y z A B C D E F G I J K L M N O P Q R S T U V W X Y Z aa ab ac ad ae af ag ah ai aj ak al am an ao ap aq ar au av aw ax ay az hi
   have:¬ i < c.rules.length:=by omega
   rw [L11x0q]
   simp [ha,la,hlen,this]
   exact ⟨c.mutes.length+1,sameC_x1 hm hm' hml ha0 hb0 hk c.mutes.length 0 _ _ _ _ _ _ _ _ _ _ _ _ _ _ _ _ _ _ _ _ _ _ _ _ _ _ _ _ _ _ _ _ _ _ _ _ _ _ _ _ _ _ _ _ _ _ _ _ _ _ _ _ _ _ _ _ _ _ _ _ _ _ _ _ _ _ _ _ _ _ _ (by omega)⟩
 | succ d ih =>
   intro i s0 s1 s4 s6 s7 s8 s9 e f g h j l m o t u v w x y z A B C D E F G I J K L M N O P Q R S T U V W X Y Z aa ab ac ad ae af ag ah ai aj ak al am an ao ap aq ar au av aw ax ay az hi
   have hlt:i < c.rules.length:=by omega
   obtain ⟨r,hx⟩:∃ s,c.rules[i]?=some s:=⟨_,List.getElem?_eq_getElem hlt⟩
   obtain ⟨nv,xv,n1,x1,_,p,_,p1,p2,_⟩:=rule_at hr hx
   obtain ⟨nv',xv',n2,x2,_,q,_,q1,q2,_⟩:=rule_at hr' hx
   have htr:=ht r (List.mem_of_getElem? hx)
   rw [L11x0q]
   simp [ha,hb,la,lb,hlen,hlt,p1,p2,q1,q2]
   refine bndD_same (r_sameRule n1 n2 x1 x2 (by have:=htr.mlen;omega) (by have:=htr.nlen;omega) (fun n hn=>by have:=(htr.nods n hn).1;omega)) ?_
   simp [show i+1 < 2 ^ 63 by omega]
   exact ih (i+1) _ _ _ _ _ _ _ _ _ _ _ _ _ _ _ _ _ _ _ _ _ _ _ _ _ _ _ _ _ _ _ _ _ _ _ _ _ _ _ _ _ _ _ _ _ _ _ _ _ _ _ _ _ _ _ _ _ _ _ _ _ _ _ _ _ _ _ _ _ _ _ (by omega)
theorem cfg_new {H:AHeap} (h1:rv.oneCell'=true) (h2:mv.oneCell'=true):aNew H 26 (.agg (c.cells rv mv).toArray)=some (.pointer (some ⟨H.length,0,some 4⟩),H++[.cells (c.cells rv mv) 26]):=by simp [aNew_agg,Cfg.cells,h1,h2]
theorem r_sameCfg (hr:RulesAt H rv c.rules) (hr':RulesAt H rv' c.rules) (hm:MutesAt H mv c.mutes) (hm':MutesAt H mv' c.mutes) (ht:c.tame):ACalls prog 11 [.agg (c.cells rv mv).toArray,.agg (c.cells rv' mv').toArray] H (.bool true) H:=by
 refine acalls_pure MixT func11 (by decide) rfl ?_
 have hnew2:aNew (H++[.cells (c.cells rv mv) 26]) 26 (.agg (c.cells rv' mv').toArray)=some (.pointer (some ⟨H.length+1,0,some 4⟩),H++[.cells (c.cells rv mv) 26,.cells (c.cells rv' mv') 26]):=by simp [aNew_agg,Cfg.cells,hr'.one,hm'.one]
 rw [d11,cfg_new hr.one hm.one]
 simp only [bndE_some]
 rw [hnew2]
 simp only [bndE_some]
 obtain ⟨K,hK⟩:∃ K,K=H++[AObj.cells (c.cells rv mv) 26,.cells (c.cells rv' mv') 26]:=⟨_,rfl⟩
 have hp:Pre H K:=by rw [hK];exact .app _ _
 have ha0:hcells K H.length=some (c.cells rv mv):=by rw [hK];simp
 have hb0:hcells K (H.length+1)=some (c.cells rv' mv'):=by rw [hK];simp
 rw [← hK]
 have la:Vi.hlen K H.length=some 4:=by rw [hcells_len ha0];rfl
 have lb:Vi.hlen K (H.length+1)=some 4:=by rw [hcells_len hb0];rfl
 have ha:=ha0
 have hb:=hb0
 simp only [Cfg.cells] at ha hb
 have e1:=(hr.pre hp).lenR K
 have e2:=(hr'.pre hp).lenR K
 have e3:=(hm.pre hp).lenM K
 have e4:=(hm'.pre hp).lenM K
 obtain ⟨s1,s2,_⟩:=ht.small
 simp [ha,hb,la,lb,e1,e2,e3,e4]
 exact ⟨c.rules.length+1,sameC_x0 (hr.pre hp) (hr'.pre hp) (hm.pre hp) (hm'.pre hp) (by omega) ht.rules (by omega) ha0 hb0 ⟨rfl,hp⟩ c.rules.length 0 _ _ _ _ _ _ _ _ _ _ _ _ _ _ _ _ _ _ _ _ _ _ _ _ _ _ _ _ _ _ _ _ _ _ _ _ _ _ _ _ _ _ _ _ _ _ _ _ _ _ _ _ _ _ _ _ _ _ _ _ _ _ _ _ _ _ _ _ _ _ _ (by omega)⟩
end
end Go.Vi
namespace Go.Vi
open Go Go.Proofs Go.Proofs.Tryz
def Rul.fit (r:Rul):Prop:=-9223372036854775808≤r.forM∧r.forM < 9223372036854775808∧-9223372036854775808≤r.every∧r.every < 9223372036854775808
structure RulAt (H:AHeap) (r:Rul) (nv mv:Value):Prop where
 nodes:NodesAt H nv r.nodes
 mutes:Arr H 1 mv (strCells r.mutes)
 fit:r.fit
 mlen:r.mutes.length < 2 ^ 63
theorem RulAt.pre {H K r nv mv} (h:RulAt H r nv mv) (p:Pre H K):RulAt K r nv mv:=⟨h.nodes.pre p,h.mutes.pre p,h.fit,h.mlen⟩
theorem RulAt.o1 {H r nv mv} (h:RulAt H r nv mv):nv.oneCell'=true:=by obtain ⟨_,h,_⟩:=h.nodes;exact h.one
theorem RulAt.o2 {H r nv mv} (h:RulAt H r nv mv):mv.oneCell'=true:=h.mutes.one
theorem RulesAt.atF {H v rs} (h:RulesAt H v rs) {i:Nat} {r:Rul} (hf:r.fit) (hi:rs[i]?=some r):∃ nv mv,RulAt H r nv mv∧∃ p,aIndexAddr prog H 22 v (i64 i)=some p∧aLoad prog H 35 p=some (.agg (r.cells nv mv).toArray):=by
 obtain ⟨cl,h1,h2,h3⟩:=h
 obtain ⟨nv,mv,q1,q2,q3,q4⟩:=h3 i r hi
 exact ⟨nv,mv,⟨q2,q3,hf,q4⟩,h1.load (P:=prog) (T:=22) (te:=35) (by simp) (by simp) (by simp) q1⟩
def fTxt (r:Rul):List UInt8:=joinS [32] [r.byL,fmtS r.forM,fmtS r.every,printS r.nodes]
def fingF (r:Rul):Int:=if 1 > crcF (fTxt r) then 1 else crcF (fTxt r)
theorem print_len (ns:List Nod):(printS ns).length≤2 ^ 41:=by
 unfold printS
 split
 · rename_i h
   obtain ⟨h1,h2,h3⟩:=right_WF h
   have:=txt_len ns _ _ 0 h3
   have hp:2 ^ (ns.length+10)≤2 ^ 41:=Nat.pow_le_pow_right (by omega) (by omega)
   omega
 · simp
theorem fTxt_eq (r:Rul):fTxt r=r.byL++[32]++fmtS r.forM++[32]++fmtS r.every++[32]++printS r.nodes:=by simp [fTxt,joinS]
theorem aConv_sb (H:AHeap) (l:List UInt8):aConv prog H 9 45 (str l)=some (.slice (some ⟨H.length,0,some l.length⟩) l.length l.length,H++[.ro (bcells l)]):=by
 have e:bytesL ⟨l.toArray⟩=bcells l:=by simp [bytesL,bcells]
 have hs:(⟨l.toArray⟩:ByteArray).size=l.length:=rfl
 have hu:isU8 prog 5=true:=by kernel_rfl
 simp [aConv,hu,e,hs]
theorem roArr (H:AHeap) (l:List UInt8):Arr (H++[.ro (bcells l)]) 1 (.slice (some ⟨H.length,0,some l.length⟩) l.length l.length) (l.map fun b=>[byt b]):=by
 refine .mk H.length 0 _ _ _ (bcells l) _ (by simp) (by simp) (by simp [bcells]) (by simp) fun i e hi=>?_
 simp only [List.getElem?_map,Option.map_eq_some_iff] at hi
 obtain ⟨b,h1,rfl⟩:=hi
 have hlt:=(List.getElem?_eq_some_iff.1 h1).1
 rw [Nat.zero_add,Nat.mul_one,bcells,← List.map_drop,List.drop_eq_getElem_cons hlt,List.map_cons,List.take_succ_cons,List.take_zero,(List.getElem?_eq_some_iff.1 h1).2]
theorem fmt_len {n:Int} (h1:-9223372036854775808≤n) (h2:n < 9223372036854775808):(fmtS n).length≤2 ^ 20:=by
 have h:=natS_len (n:=n.natAbs) (by omega)
 unfold fmtS
 split
 · simp;omega
 · omega
set_option maxRecDepth 20000 in
theorem c_finger {H:AHeap} {r:Rul} {nv mv:Value} (hg:Pw H) (hr:RulAt H r nv mv) (hby:r.byL.length≤2 ^ 20):ACalls prog 8 [.agg (r.cells nv mv).toArray] H (.int .u32 (fingF r)) H:=by
 refine acalls_pure MixT func8 (by decide) rfl ?_
 rw [d8]
 have h1:=hr.o1
 have h2:=hr.o2
 obtain ⟨f1,f2,f3,f4⟩:=hr.fit
 have hgX:=hg.trans (.app H [AObj.cells (r.cells nv mv) 35])
 have hrX:=hr.pre (.app H [AObj.cells (r.cells nv mv) 35])
 have hnew:aNew H 35 (.agg (r.cells nv mv).toArray)=some (.pointer (some ⟨H.length,0,some 8⟩),H++[.cells (r.cells nv mv) 35]):=by simp [aNew_agg,Rul.cells,h1,h2]
 rw [hnew]
 simp only [bndE_some]
 obtain ⟨K,hK⟩:∃ K,K=H++[.cells (r.cells nv mv) 35]:=⟨_,rfl⟩
 have g1:hcells K H.length=some (r.cells nv mv):=by rw [hK];simp
 have g2:hlen K H.length=some 8:=by rw [hK];simp [Rul.cells]
 have hKp:Pre H K:=by rw [hK];exact .app _ _
 rw [← hK] at hgX hrX ⊢
 simp only [Rul.cells] at g1
 simp [g1,g2]
 refine bndD_same (c_itoa hgX f1 f2) ?_
 simp [g1,g2]
 refine bndD_same (c_itoa hgX f3 f4) ?_
 simp [g1,g2]
 refine bndD_same (c_exprPrint hgX hrX.nodes) ?_
 have hlit:sliceLit prog K 33 4 [(0,str r.byL),(1,str (fmtS r.forM)),(2,str (fmtS r.every)),(3,str (printS r.nodes))] (.slice (some ⟨K.length,0,some 4⟩) 4 4) (K++[.cells ([r.byL,fmtS r.forM,fmtS r.every,printS r.nodes].map str) 9]) :=
  strs_lit (l:=[r.byL,fmtS r.forM,fmtS r.every,printS r.nodes]) (tbs33 K 4 _) rfl (by decide)
 refine bndD_of (v:=_) (H':=_) hlit (.inl rfl) ?_
 have hparts:Parts (K++[.cells ([r.byL,fmtS r.forM,fmtS r.every,printS r.nodes].map str) 9]) (.slice (some ⟨K.length,0,some 4⟩) 4 4) [r.byL,fmtS r.forM,fmtS r.every,printS r.nodes]:=.mk K.length [r.byL,fmtS r.forM,fmtS r.every,printS r.nodes] (by simp)
 have l1:=fmt_len f1 f2
 have l2:=fmt_len f3 f4
 have l3:=print_len r.nodes
 have hfl:(fTxt r).length≤2 ^ 42:=by rw [fTxt_eq];simp;omega
 refine bndD_same (c_join hparts (by have : (fTxt r).length ≤ 2 ^ 46 := by omega
                                     exact this) (by simp) (by simp) (fun _=>join_ne (.inl (by simp)))) ?_
 dsimp only
 rw [aConv_sb]
 simp only [bndE_some]
 refine bndC_of (c_sum (roArr _ (fTxt r)) (by omega)) ?_
 simp
 refine ⟨rfl,?_⟩
 rw [hK]
 exact ⟨_,by rw [List.append_assoc]⟩
end Go.Vi
namespace Go.Vi
open Go Go.Proofs Go.Proofs.Tryz
theorem word_fit2 {n:Int} (h:(Lit.int .i64 n).wf=true):-9223372036854775808≤n∧n < 9223372036854775808:=by
 have e1:IntKind.i64.min = -9223372036854775808:=by decide
 have e2:IntKind.i64.max=9223372036854775807:=by decide
 simp only [Lit.wf,Bool.and_eq_true,decide_eq_true_eq,e1,e2] at h
 omega
section
variable {H:AHeap} {f:Nat} {v:Value} {cs:List Value}
theorem rd_ruleF (h:Rd prog H (f+6) 35 cs):∃ (r:Rul) (nv mv:Value),cs=r.cells nv mv∧(NodesAt H nv r.nodes∧Arr H 1 mv (strCells r.mutes)∧r.mutes.length < 2 ^ 63)∧r.win∧r.fit:=by
 obtain ⟨hl,hp⟩:=h.parts (ps:=parts_rule) (by kernel_rfl)
 rw [ce_rule] at hl
 obtain ⟨x0,x1,x2,x3,x4,x5,x6,x7,rfl⟩:=len8 hl
 simp only [parts_rule,List.forall_mem_cons,ce_str,ce_int,ce_nodes,ce_strs] at hp
 obtain ⟨h0,h1,h2,h3,h4,h5,h6,h7,_⟩:=hp
 obtain ⟨b0,e0,_⟩:=h0.str underlying9
 obtain ⟨b1,e1,_⟩:=h1.str underlying9
 obtain ⟨ns,e2,w2⟩:=rd_nodesW h2
 obtain ⟨b3,e3,w3⟩:=h3.int underlying3
 obtain ⟨b4,e4,w4⟩:=h4.int underlying3
 obtain ⟨b5,e5,_⟩:=h5.int underlying3
 obtain ⟨ms,e6,e6'⟩:=rd_strs h6
 obtain ⟨b7,e7,_⟩:=h7.str underlying9
 simp at e0 e1 e3 e4 e5 e7
 exact ⟨⟨b0,b1,ns,b3,b4,b5,ms,b7⟩,x2,x6,by simp [Rul.cells,e0,e1,e3,e4,e5,e7],⟨e2,e6,e6'⟩,w2,(word_fit2 w3).1,(word_fit2 w3).2,(word_fit2 w4).1,(word_fit2 w4).2⟩
theorem rd_rulesF (h:Rd prog H (f+7) 22 [v]):∃ rs,RulesAt H v rs∧∀ r∈rs,r.win∧r.fit:=by
 obtain ⟨v',l,h1,h2,h3,h4⟩:=h.slice underlying22
 cases h1
 rw [ce_rule] at h2
 obtain ⟨rs,q1,q2⟩:=rd_list (R:=fun cs (r:Rul)=>∃ nv mv,cs=r.cells nv mv∧(NodesAt H nv r.nodes∧Arr H 1 mv (strCells r.mutes)∧r.mutes.length < 2 ^ 63)∧r.win∧r.fit) fun x hx=>rd_ruleF (h4 x hx)
 refine ⟨rs,⟨l,h2,q1,fun i n hi=>?_⟩,fun r hr=>?_⟩
 · obtain ⟨c,c1,nv,mv,rfl,c2,_⟩:=q2 i n hi
   exact ⟨nv,mv,c1,c2⟩
 · obtain ⟨i,hi⟩:=List.getElem?_of_mem hr
   obtain ⟨c,c1,nv,mv,rfl,_,c3⟩:=q2 i r hi
   exact c3
end
end Go.Vi
namespace Go.Vi
open Go Go.Proofs
def upN (p:Nat):Nat:=if p % 2=1 then (p / 2) ^^^ 2197175160 else p / 2
def upsN:Nat→Nat→Nat
 | 0,p=>p
 | n+1,p=>upsN n (upN p)
theorem xor_half (x c:Nat):(x ^^^ 2*c) / 2=x / 2 ^^^ c:=by
 apply Nat.eq_of_testBit_eq
 intro i
 rw [← Nat.testBit_add_one,Nat.testBit_xor,Nat.testBit_add_one,Nat.testBit_add_one,Nat.testBit_xor,Nat.mul_div_cancel_left _ (by omega)]
theorem xor_odd (x c:Nat):((x ^^^ 2*c) % 2=1)↔(x % 2=1):=by simp
theorem up_x (x c:Nat):upN (x ^^^ 2*c)=upN x ^^^ c:=by
 unfold upN
 rw [xor_half]
 by_cases h:x % 2=1
 · rw [if_pos ((xor_odd x c).2 h),if_pos h,Nat.xor_assoc,Nat.xor_comm c,← Nat.xor_assoc]
 · rw [if_neg (mt (xor_odd x c).1 h),if_neg h]
theorem ups_x:∀ (n x c:Nat),upsN n (x ^^^ 2 ^ n*c)=upsN n x ^^^ c
 | 0,x,c=>by simp [upsN]
 | n + 1, x, c => by
   have e:2 ^ (n+1)*c=2*(2 ^ n*c):=by rw [Nat.pow_succ,Nat.mul_comm (2 ^ n) 2,Nat.mul_assoc]
   rw [e,upsN,up_x,ups_x n,upsN]
theorem ups_last:∀ (n x:Nat),upN (upsN n x)=upsN (n+1) x
 | 0,_=>rfl
 | n+1,x=>by rw [upsN,ups_last n];rfl
theorem xor_one (x:Nat):x ^^^ 1=x-x % 2+(x % 2+1) % 2:=by
 have h1:(x ^^^ 1) / 2=x / 2:=by
  apply Nat.eq_of_testBit_eq
  intro i
  rw [← Nat.testBit_add_one,Nat.testBit_xor,Nat.testBit_add_one,Nat.testBit_add_one]
  simp
 have h2:(x ^^^ 1).testBit 0=(x.testBit 0 ^^ (1:Nat).testBit 0):=Nat.testBit_xor ..
 rw [Nat.testBit_zero,Nat.testBit_zero,Nat.testBit_zero] at h2
 by_cases h:x % 2=1
 · have h3:¬ (x ^^^ 1) % 2=1:=fun e=>by
    rw [decide_eq_true e,decide_eq_true h] at h2
    exact absurd h2 (by decide)
   omega
 · have h3:(x ^^^ 1) % 2=1:=by
    rw [decide_eq_false h] at h2
    exact of_decide_eq_true (h2.trans (by decide))
   omega
theorem xor_bit (x b:Nat) (hb:b < 2):x-x % 2+(x % 2+b) % 2=x ^^^ b:=by
 rcases (by omega:b=0∨b=1) with rfl | rfl
 · simp
   have:=Nat.mod_lt x (show 0 < 2 by omega)
   omega
 · exact (xor_one x).symm
theorem xor_low (y:Nat):y ^^^ y % 2=2*(y / 2):=by
 rw [← xor_bit y (y % 2) (Nat.mod_lt _ (by omega))]
 omega
def stepN (left bit:Nat):Nat:=upN (left-left % 2+(left % 2+bit) % 2)
def bitsN (left b:Nat):Nat→Nat
 | 0=>left
 | j+1=>stepN (bitsN left b j) (b / 2 ^ j % 2)
theorem bits_eq (L B:Nat):∀ j,bitsN L B j=upsN j (L ^^^ B) ^^^ B / 2 ^ j
 | 0=>by simp [bitsN,upsN,Nat.xor_assoc]
 | j + 1 => by
   rw [bitsN,stepN,xor_bit _ _ (Nat.mod_lt _ (by omega)),bits_eq L B j,Nat.xor_assoc,xor_low,up_x,ups_last,Nat.pow_succ,Nat.div_div_eq_div_mul]
theorem low_high (L:Nat):L=L % 256 ^^^ 2 ^ 8*(L / 256):=by
 apply Nat.eq_of_testBit_eq
 intro i
 rw [Nat.testBit_xor,show (256:Nat)=2 ^ 8 from rfl,Nat.testBit_mod_two_pow,Nat.testBit_two_pow_mul,Nat.testBit_div_two_pow]
 by_cases h:i < 8
 · simp [h,show ¬ 8≤i by omega]
 · simp [h,show 8≤i by omega]
def onN (L B:Nat):Nat:=upsN 8 (L % 256 ^^^ B) ^^^ L / 256
theorem bits_on (L B:Nat) (hB:B < 256):bitsN L B 8=onN L B:=by
 rw [bits_eq,show B / 2 ^ 8=0 by omega,Nat.xor_zero]
 have e:L ^^^ B=(L % 256 ^^^ B) ^^^ 2 ^ 8*(L / 256):=by
  conv=>lhs;rw [low_high L]
  rw [Nat.xor_assoc,Nat.xor_comm (2 ^ 8*(L / 256)),← Nat.xor_assoc]
 rw [e,ups_x]
 rfl
theorem up_lt {p:Nat} (h:p < 2 ^ 32):upN p < 2 ^ 32:=by
 unfold upN
 split
 · exact Nat.xor_lt_two_pow (by omega) (by omega)
 · omega
theorem ups_lt:∀ (n:Nat) {p:Nat},p < 2 ^ 32→upsN n p < 2 ^ 32
 | 0,_,h=>h
 | n+1,_,h=>ups_lt n (up_lt h)
theorem on_lt {L B:Nat} (h:L < 2 ^ 32) (hB:B < 256):onN L B < 2 ^ 32:=by
 have h1:L % 256 ^^^ B < 2 ^ 8:=Nat.xor_lt_two_pow (by omega) (by omega)
 exact Nat.xor_lt_two_pow (ups_lt 8 (by omega)) (by omega)
theorem xorI_nat {k:IntKind} (hk:k.signed=false) {a b:Nat} (ha:a < 2 ^ k.bits) (hb:b < 2 ^ k.bits):xorI k a b=((a ^^^ b:Nat):Int):=by
 have h:=Nat.xor_lt_two_pow ha hb
 unfold xorI IntKind.wrap
 simp only [hk,BitVec.toNat_xor,BitVec.ofInt_natCast,BitVec.toNat_ofNat,Nat.mod_eq_of_lt ha,Nat.mod_eq_of_lt hb]
 simp
 have:((a ^^^ b:Nat):Int) < ((2 ^ k.bits:Nat):Int):=by exact_mod_cast h
 push_cast at this
 exact Int.emod_eq_of_lt (by omega) this
theorem upF_nat {p:Nat} (h:p < 2 ^ 32):upF p=(upN p:Int):=by
 have e2:((p:Int)).fdiv 2=((p / 2:Nat):Int):=by rw [Int.fdiv_eq_ediv_of_nonneg _ (by omega)];omega
 have ea:andI .u32 p 1=((p % 2:Nat):Int):=by
  unfold andI IntKind.wrap
  simp only [show IntKind.u32.bits=32 from rfl,show IntKind.u32.signed=false from rfl,BitVec.toNat_and,BitVec.ofInt_natCast,BitVec.toNat_ofNat,Nat.mod_eq_of_lt h]
  have:(BitVec.ofInt IntKind.u32.bits 1).toNat=1:=rfl
  rw [this,Nat.and_one_is_mod]
  simp
  omega
 unfold upF upN
 rw [ea,e2]
 by_cases hp:p % 2=1
 · rw [if_pos (by simp [hp]),if_pos hp]
   exact xorI_nat (k:=.u32) (b:=2197175160) rfl (by show p / 2 < 2 ^ 32;omega) (by decide)
 · rw [if_neg (by simp;omega),if_neg hp]
theorem ups_nat:∀ (n:Nat) {p:Nat},p < 2 ^ 32→ups n p=(upsN n p:Int)
 | 0,_,_=>rfl
 | n+1,p,h=>by rw [ups,upF_nat h,ups_nat n (up_lt h)];rfl
theorem onF_nat {L:Nat} (h:L < 2 ^ 32) (b:UInt8):onF L b=(onN L b.toNat:Int):=by
 have hb:=b.toNat_lt
 have e1:IntKind.u8.wrap (L:Int)=((L % 256:Nat):Int):=by
  unfold IntKind.wrap
  simp only [show IntKind.u8.bits=8 from rfl,show IntKind.u8.signed=false from rfl]
  simp
 have e2:(L:Int).fdiv 256=((L / 256:Nat):Int):=by rw [Int.fdiv_eq_ediv_of_nonneg _ (by omega)];omega
 have h1:L % 256 ^^^ b.toNat < 2 ^ 8:=Nat.xor_lt_two_pow (by omega) (by omega)
 unfold onF
 rw [e1,e2,xorI_nat (k:=.u8) rfl (by show L % 256 < 2 ^ 8;omega) (by show b.toNat < 2 ^ 8;omega),Int.toNat_natCast,tabF,ups_nat 8 (by omega)]
 exact xorI_nat (k:=.u32) rfl (ups_lt 8 (by omega)) (by show L / 256 < 2 ^ 32;omega)
theorem fold_nat:∀ (l:List UInt8) {L:Nat},L < 2 ^ 32→l.foldl onF L=((l.foldl (fun a b=>onN a b.toNat) L:Nat):Int)
 | [],_,_=>rfl
 | b :: l, L, h => by
   rw [List.foldl_cons,onF_nat h,fold_nat l (on_lt h b.toNat_lt),List.foldl_cons]
theorem fold_lt:∀ (l:List UInt8) {L:Nat},L < 2 ^ 32→l.foldl (fun a b=>onN a b.toNat) L < 2 ^ 32
 | [],_,h=>h
 | b :: l,_,h=>fold_lt l (on_lt h b.toNat_lt)
theorem not_nat {x:Nat} (h:x < 2 ^ 32):4294967295 ^^^ x=4294967295-x:=by
 have h1:=BitVec.toNat_not (x:=BitVec.ofNat 32 x)
 have h2:(~~~(BitVec.ofNat 32 x))=BitVec.allOnes 32 ^^^ BitVec.ofNat 32 x:=by rw [BitVec.allOnes_xor]
 rw [h2,BitVec.toNat_xor,BitVec.toNat_ofNat,Nat.mod_eq_of_lt h] at h1
 exact h1
def rowN (l:List UInt8):Nat→Nat
 | 0=>4294967295
 | i+1=>stepN (rowN l i) ((l.getD (i / 8) 0).toNat / 2 ^ (i % 8) % 2)
theorem row_bits (l:List UInt8) (j:Nat):∀ i,i≤8→rowN l (8*j+i)=bitsN (rowN l (8*j)) (l.getD j 0).toNat i
 | 0,_=>rfl
 | i + 1, h => by
   rw [← Nat.add_assoc,rowN,row_bits l j i (by omega),bitsN,show (8*j+i) / 8=j by omega,show (8*j+i) % 8=i by omega]
theorem row_fold (l:List UInt8):∀ j,j≤l.length→rowN l (8*j)=(l.take j).foldl (fun a b=>onN a b.toNat) 4294967295
 | 0,_=>rfl
 | j + 1, h => by
   have hj:j < l.length:=by omega
   rw [show 8*(j+1)=8*j+8 by omega,row_bits l j 8 (by omega),bits_on _ _ (UInt8.toNat_lt _),row_fold l j (by omega),List.take_add_one,List.foldl_append,List.getElem?_eq_getElem hj,List.getD_eq_getElem?_getD,List.getElem?_eq_getElem hj]
   rfl
theorem row_lt (l:List UInt8):∀ i,rowN l i < 2 ^ 32
 | 0=>by show 4294967295 < 2 ^ 32;omega
 | i + 1 => by
   rw [rowN,stepN,xor_bit _ _ (Nat.mod_lt _ (by omega))]
   exact up_lt (Nat.xor_lt_two_pow (row_lt l i) (by omega))
theorem row_sum (l:List UInt8):(4294967295:Int)-(rowN l (8*l.length):Nat)=crcF l:=by
 have e:((4294967295:Nat):Int)=4294967295:=rfl
 have h:=fold_nat l (L:=4294967295) (by omega)
 have hl:=fold_lt l (L:=4294967295) (by omega)
 rw [e] at h
 rw [row_fold l l.length (Nat.le_refl _),List.take_length,crcF,h]
 generalize l.foldl (fun a b=>onN a b.toNat) 4294967295=F at hl
 have:=xorI_nat (k:=.u32) (a:=4294967295) (b:=F) rfl (by show 4294967295 < 2 ^ 32;omega) hl
 rw [e] at this
 rw [this,not_nat hl]
 omega
end Go.Vi
namespace Go.Vi
open Go Go.Proofs Go.Proofs.Tryz
theorem r_upref (H:AHeap) {p:Nat} (hp:p < 2 ^ 32):ACalls prog 24 [.int .u32 p,.int .u32 2197175160] H (.int .u32 (upN p)) H:=by
 refine acalls_pure MixT func24 (by decide) rfl ?_
 rw [d24]
 have wu:IntKind.u32.wrap ((p / 2:Nat):Int)=((p / 2:Nat):Int):=by
  unfold IntKind.wrap
  simp only [show IntKind.u32.bits=32 from rfl,show IntKind.u32.signed=false from rfl]
  simp
  omega
 refine bnd_of (remL (a:=p) (c:=2) (n:=2) rfl (by omega)) ?_
 refine bnd_of (aBin_eql ..) ?_
 dsimp only
 have hx:=xorI_nat (k:=.u32) (a:=p / 2) (b:=2197175160) rfl (by show p / 2 < 2 ^ 32;omega) (by decide)
 by_cases h:p % 2=1
 · rw [show (((p % 2:Nat):Int) == 1)=true by simp [h],kifB_true]
   refine bnd_of (quoL (a:=p) (c:=2) (n:=2) rfl (by omega) wu) ?_
   refine bnd_of aBin_xor ?_
   refine ⟨?_,[],by simp⟩
   unfold upN
   rw [if_pos h,← hx]
   rfl
 · rw [show (((p % 2:Nat):Int) == 1)=false by simp;omega,kifB_false]
   refine bnd_of (quoL (a:=p) (c:=2) (n:=2) rfl (by omega) wu) ?_
   refine ⟨?_,[],by simp⟩
   unfold upN
   rw [if_neg h]
theorem arr1_newS {H:AHeap} {T:TypeId} (l:List Value) (X:AHeap):Arr (H++.cells l T :: X) 1 (.slice (some ⟨H.length,0,some l.length⟩) l.length l.length) (l.map fun v=>[v]):=by
 refine .mk _ _ _ _ _ l _ (by simp) (by simp) rfl (by omega) fun i e he=>?_
 rw [List.getElem?_map] at he
 cases hi:l[i]? with
 | none=>simp [hi] at he
 | some x =>
   simp [hi] at he
   subst he
   obtain ⟨h1,h2⟩:=List.getElem?_eq_some_iff.1 hi
   rw [Nat.mul_one,Nat.zero_add,List.drop_eq_getElem_cons h1,h2]
   rfl
def powL:List Int:=[28,27,26,25,23,22,20,19,18,14,13,11,10,9,8,6,0]
def numF:List Int→Int→Int
 | [],a=>a
 | x :: r,a=>numF r (IntKind.u32.wrap (a+IntKind.u32.wrap (1*2 ^ (min (IntKind.u64.wrap (IntKind.i64.wrap (31-x))).toNat IntKind.u32.bits))))
theorem r_powers (H:AHeap):ACalls prog 23 [] H (.slice (some ⟨H.length,0,some 17⟩) 17 17) (H++[.cells (powL.map fun n=>.int .i64 n) 3]):=by
 refine acalls_of MixT func23 (by decide) ?_
 rw [d23]
 have hlit:sliceLit prog H 59 17 (enumL 0 (powL.map fun n=>.int .i64 n)) (.slice (some ⟨H.length,0,some 17⟩) 17 17) (H++[.cells (powL.map fun n=>.int .i64 n) 3]) :=
  sliceLit1 (l:=powL.map fun n=>.int .i64 n) (tbs59 H 17 _) (by simp) rfl (by decide)
 refine bndL_lit hlit ?_
 exact ⟨rfl,rfl⟩
theorem number_loop {H:AHeap} {v:Value} {l:List Int} {k:Value→AHeap→Prop} (ha:Arr H 1 v (l.map fun n=>[.int .i64 n])) (hl:l.length < 2 ^ 62) (hb:∀ x∈l,0≤x∧x≤31) (w:Int) (hk:k (.int .u32 w) H) :
  ∀ (r:List Int) (i:Nat) (a:Int) (u y z A B C D b c d f g h m o p s t:Value),l.drop i=r→i≤l.length→numF r a=w→L22x0 (r.length+1) k [v,u,y,.int .u32 a,i64 i,z,A,B,C,D,b,c,d,f,g,h,m,o,p,s,t] H:=by
 have hlen:=ha.len (P:=prog) (T:=59) (e:=3) (by simp)
 simp at hlen
 intro r
 induction r with
 | nil =>
   intro i a u y z A B C D b c d f g h m o p s t hd hi hw
   have hle:l.length≤i:=by simpa using hd
   rw [List.length_nil,L22x0q]
   have:¬ i < l.length:=by omega
   rw [numF] at hw
   subst hw
   simp [hlen,this]
   exact hk
 | cons x r ih =>
   intro i a u y z A B C D b c d f g h m o p s t hd hi hw
   have hx:l[i]?=some x:=by rw [← List.head?_drop,hd];rfl
   have hlt:i < l.length:=(List.getElem?_eq_some_iff.1 hx).1
   obtain ⟨q,hp1,hp2⟩:=ha.load1 (P:=prog) (T:=59) (te:=3) (i:=i) (x:=.int .i64 x) (by simp) (by simp) (by simp) (by rw [List.getElem?_map,hx];rfl)
   obtain ⟨b1,b2⟩:=hb x (List.mem_of_getElem? hx)
   rw [List.length_cons,L22x0q]
   have w1:IntKind.i64.wrap (31-x)=31-x:=wrap_i64 (by omega) (by omega)
   have w2:IntKind.u64.wrap (31-x)=31-x:=by
    unfold IntKind.wrap
    simp only [show IntKind.u64.bits=64 from rfl,show IntKind.u64.signed=false from rfl]
    simp
    omega
   have hs:0≤31-x:=by omega
   have hi63:IntKind.i64.wrap ((i:Int)+1)=((i+1:Nat):Int):=by rw [wrap_i64 (by omega) (by omega)];omega
   rw [numF,w1,w2] at hw
   refine bnd_of hlen ?_
   refine bnd_of (v:=.bool true) (by simp [hlt]) ?_
   dsimp only
   rw [kifB_true]
   refine bnd_of hp1 ?_
   refine bnd_of hp2 ?_
   refine bnd_of (aBin_sub ..) ?_
   rw [w1]
   refine bnd_of (v:=.int .u64 (31-x)) (by rw [convV_int (k:=.u64) (j:=.i64) (by simp) (by simp),w2]) ?_
   refine bnd_of (aBin_shl _ _ _ _ _ _ _ hs) ?_
   refine bnd_of (aBin_add ..) ?_
   refine bnd_of (aBin_add ..) ?_
   rw [hi63]
   exact ih (i+1) _ _ _ _ _ _ _ _ _ _ _ _ _ _ _ _ _ _ _ (by rw [← List.drop_drop,hd];rfl) hlt hw
theorem r_numberP (H:AHeap) {v:Value} (ha:Arr H 1 v (powL.map fun n=>[.int .i64 n])):ACalls prog 22 [v] H (.int .u32 2197175160) H:=by
 refine acalls_pure MixT func22 (by decide) rfl ?_
 rw [d22]
 exact ⟨powL.length+1,number_loop ha (by decide) (by decide) 2197175160 ⟨rfl,[],by simp⟩ powL 0 0 _ _ _ _ _ _ _ _ _ _ _ _ _ _ _ _ _ _ rfl (by decide) (by kernel_rfl)⟩
theorem sum_loop {H:AHeap} {v:Value} {l:List UInt8} {k:Value→AHeap→Prop} (ha:Arr H 1 v (l.map fun b=>[byt b])) (hl:l.length < 2 ^ 59) (hk:k (.int .u32 (crcF l)) H) :
  ∀ (d i:Nat) (X Y Z s7 s8 s9 f g m o p r s t u w y z A B C D E F G I J K L M N O Q R S U V W:Value),d+i=8*l.length→L14x0 (d+1) k [v,X,Y,.int .u32 2197175160,.int .u32 (rowN l i),i64 i,Z,s7,s8,s9,f,g,m,o,p,r,s,t,u,w,y,z,A,B,C,D,E,F,G,I,J,K,L,M,N,O,Q,R,S,U,V,W] H:=by
 have hlen:=ha.len (P:=prog) (T:=45) (e:=5) (by simp)
 simp at hlen
 have w8:IntKind.i64.wrap (8*(l.length:Int))=((8*l.length:Nat):Int):=by rw [wrap_i64 (by omega) (by omega)];omega
 have wu:∀ n:Nat,n < 2 ^ 32→IntKind.u32.wrap (n:Int)=(n:Int):=fun n h=>by
  unfold IntKind.wrap
  simp only [show IntKind.u32.bits=32 from rfl,show IntKind.u32.signed=false from rfl]
  simp
  omega
 intro d
 induction d with
 | zero =>
   intro i X Y Z s7 s8 s9 f g m o p r s t u w y z A B C D E F G I J K L M N O Q R S U V W hi
   have hie:i=8*l.length:=by omega
   subst hie
   rw [L14x0q]
   refine bnd_of hlen ?_
   refine bnd_of (aBin_mul ..) ?_
   rw [w8]
   refine bnd_of (v:=.bool false) (by simp) ?_
   dsimp only
   rw [kifB_false]
   refine bnd_of (aBin_sub ..) ?_
   have hr:=row_lt l (8*l.length)
   rw [show (4294967295:Int)-(rowN l (8*l.length):Nat)=((4294967295-rowN l (8*l.length):Nat):Int) by omega,wu _ (by omega)]
   have:=row_sum l
   rw [show (4294967295:Int)-(rowN l (8*l.length):Nat)=((4294967295-rowN l (8*l.length):Nat):Int) by omega] at this
   rw [this]
   exact hk
 | succ d ih =>
   intro i X Y Z s7 s8 s9 f g m o p r s t u w y z A B C D E F G I J K L M N O Q R S U V W hi
   have hlt:i < 8*l.length:=by omega
   have hj:i / 8 < l.length:=by omega
   have hx:l[i / 8]?=some l[i / 8]:=List.getElem?_eq_getElem hj
   obtain ⟨q,hp1,hp2⟩:=ha.load1 (P:=prog) (T:=45) (te:=5) (i:=i / 8) (x:=byt l[i / 8]) (by simp) (by simp) (by simp) (by rw [List.getElem?_map,hx];rfl)
   have hbt:=l[i / 8].toNat_lt
   have hr:=row_lt l i
   have hi63:IntKind.i64.wrap ((i:Int)+1)=((i+1:Nat):Int):=by rw [wrap_i64 (by omega) (by omega)];omega
   obtain ⟨b,hb⟩:∃ b,b=l[i / 8].toNat / 2 ^ (i % 8) % 2:=⟨_,rfl⟩
   have hb2:b < 2:=by omega
   have hstep:rowN l (i+1)=upN (rowN l i-rowN l i % 2+(rowN l i % 2+b) % 2):=by
    rw [rowN,stepN,List.getD_eq_getElem?_getD,hx,hb];rfl
   have hle:rowN l i-rowN l i % 2+(rowN l i % 2+b) % 2 < 2 ^ 32:=by omega
   have hp8:2 ^ (i % 8)≤128:=by
    have:i % 8≤7:=by omega
    exact Nat.pow_le_pow_right (by omega) this
   have hp0:0 < 2 ^ (i % 8):=Nat.pow_pos (by omega)
   rw [L14x0q]
   refine bnd_of hlen ?_
   refine bnd_of (aBin_mul ..) ?_
   rw [w8]
   refine bnd_of (v:=.bool true) (by simp;omega) ?_
   dsimp only
   rw [kifB_true]
   refine bnd_of (quoL (a:=i) (c:=8) (n:=8) rfl (by omega) (wrap_i64 (by omega) (by omega))) ?_
   refine bnd_of hp1 ?_
   refine bnd_of hp2 ?_
   refine bnd_of (v:=.int .u32 (l[i / 8].toNat:Nat)) (by rw [byt,convV_int (k:=.u32) (j:=.u8) (by simp) (by simp),wu _ (by omega)]) ?_
   refine bnd_of (remL (a:=i) (c:=8) (n:=8) rfl (by omega)) ?_
   refine bnd_of (v:=.int .u64 ((i % 8:Nat):Int)) (by
    rw [convV_int (k:=.u64) (j:=.i64) (by simp) (by simp)]
    unfold IntKind.wrap
    simp only [show IntKind.u64.bits=64 from rfl,show IntKind.u64.signed=false from rfl]
    simp
    omega) ?_
   refine bnd_of (v:=.int .u32 ((2 ^ (i % 8):Nat):Int)) (by
    rw [aBin_shl _ _ _ _ _ _ _ (by omega),Int.toNat_natCast,show min (i % 8) IntKind.u32.bits=i % 8 by show min (i % 8) 32=i % 8;omega,Int.one_mul]
    rw [show (2:Int) ^ (i % 8)=((2 ^ (i % 8):Nat):Int) by push_cast;rfl,wu _ (by omega)]) ?_
   refine bnd_of (quoL (a:=l[i / 8].toNat) (n:=2 ^ (i % 8)) rfl hp0 (wu _ (by have:=Nat.div_le_self l[i / 8].toNat (2 ^ (i % 8));omega))) ?_
   refine bnd_of (remL (a:=l[i / 8].toNat / 2 ^ (i % 8)) (c:=2) (n:=2) rfl (by omega)) ?_
   rw [← hb]
   refine bnd_of (remL (a:=rowN l i) (c:=2) (n:=2) rfl (by omega)) ?_
   refine bnd_of (aBin_sub ..) ?_
   rw [show ((rowN l i:Nat):Int)-((rowN l i % 2:Nat):Int)=((rowN l i-rowN l i % 2:Nat):Int) by omega,wu _ (by omega)]
   refine bnd_of (remL (a:=rowN l i) (c:=2) (n:=2) rfl (by omega)) ?_
   refine bnd_of (aBin_add ..) ?_
   rw [show ((rowN l i % 2:Nat):Int)+((b:Nat):Int)=((rowN l i % 2+b:Nat):Int) by omega,wu _ (by omega)]
   refine bnd_of (remL (a:=rowN l i % 2+b) (c:=2) (n:=2) rfl (by omega)) ?_
   refine bnd_of (aBin_add ..) ?_
   rw [show ((rowN l i-rowN l i % 2:Nat):Int)+(((rowN l i % 2+b) % 2:Nat):Int)=((rowN l i-rowN l i % 2+(rowN l i % 2+b) % 2:Nat):Int) by omega,wu _ hle]
   refine bndC_of (r_upref H hle) ?_
   refine bnd_of (aBin_add ..) ?_
   rw [hi63,← hstep]
   exact ih (i+1) _ _ _ _ _ _ _ _ _ _ _ _ _ _ _ _ _ _ _ _ _ _ _ _ _ _ _ _ _ _ _ _ _ _ _ _ _ _ (by omega)
theorem r_sumref {H:AHeap} {v:Value} {l:List UInt8} (ha:Arr H 1 v (l.map fun b=>[byt b])) (hl:l.length < 2 ^ 59):ACalls prog 14 [v] H (.int .u32 (crcF l)) H:=by
 refine acalls_pure MixT func14 (by decide) rfl ?_
 rw [d14]
 refine bndC_of (r_powers H) ?_
 refine bndC_of (r_numberP _ (by
  have:=arr1_newS (H:=H) (T:=3) (powL.map fun n=>Value.int .i64 n) []
  simpa [powL] using this)) ?_
 exact ⟨8*l.length+1,sum_loop (ha.pre (.app _ _)) hl ⟨rfl,_,rfl⟩ (8*l.length) 0 _ _ _ _ _ _ _ _ _ _ _ _ _ _ _ _ _ _ _ _ _ _ _ _ _ _ _ _ _ _ _ _ _ _ _ _ _ _ rfl⟩
theorem dig_loop {H:AHeap} {k:Value→AHeap→Prop} (w:List UInt8) (hk:∀ K,Pre H K→k (str w) K) :
  ∀ (d n:Nat) (s:List UInt8) (K:AHeap) (Q R S U V W X Y e f g i j l o p q r t u v z A B C D E F G I J L M N O:Value),Pre H K→n < 10 ^ d→n < 2 ^ 63→s.length+d≤2 ^ 40→w=preS n s→L25x0 (d+2) k [i64 n,Q,R,str s,S,U,V,W,X,Y,e,f,g,i,j,l,o,p,q,r,t,u,v,z,A,B,C,D,E,F,G,I,J,L,M,N,O] K:=by
 have step:∀ (m n:Nat) (s:List UInt8) (K:AHeap) (Q R S U V W X Y e f g i j l o p q r t u v z A B C D E F G I J L M N O:Value),Pre H K→n < 2 ^ 63→s.length≤2 ^ 40→(0 < n∨s=[]) →
   (∀ (K:AHeap) (Q R S U V W X Y e f g i j l o p q r t u v z A B C D E F G I J L M N O:Value),Pre H K→L25x0 m k [i64 ((n / 10:Nat):Int),Q,R,str (UInt8.ofNat (48+n % 10) :: s),S,U,V,W,X,Y,e,f,g,i,j,l,o,p,q,r,t,u,v,z,A,B,C,D,E,F,G,I,J,L,M,N,O] K)→L25x0 (m+1) k [i64 n,Q,R,str s,S,U,V,W,X,Y,e,f,g,i,j,l,o,p,q,r,t,u,v,z,A,B,C,D,E,F,G,I,J,L,M,N,O] K:=by
  intro m n s K Q R S U V W X Y e f g i j l o p q r t u v z A B C D E F G I J L M N O hp h63 hsl hc hn
  rw [L25x0q]
  have hr:=fun (H:AHeap) x y=>remL (P:=prog) (H:=H) (T:=3) (x:=x) (y:=y) (k:=.i64) (a:=n) (c:=10) (n:=10) rfl (by omega)
  have hq:=fun (H:AHeap) x y=>quoL (P:=prog) (H:=H) (T:=3) (x:=x) (y:=y) (k:=.i64) (a:=n) (c:=10) (n:=10) rfl (by omega) (wrap_i64 (by omega) (by omega))
  have en:((n % 10:Nat):Int)=(n:Int) % 10:=by omega
  have eq:((n / 10:Nat):Int)=(n:Int) / 10:=by omega
  have wa:IntKind.i64.wrap (48+(n:Int) % 10)=48+(n:Int) % 10:=wrap_i64 (by omega) (by omega)
  have wd:IntKind.u8.wrap (48+(n:Int) % 10)=48+(n:Int) % 10:=by rw [← en];exact wrap_dig (by omega)
  have ed:Value.int .u8 (48+(n:Int) % 10)=byt (UInt8.ofNat (48+n % 10)):=by rw [← en];exact ofNat_dig (by omega)
  simp only [en,eq] at hr hq
  have hcat:=fun (H:AHeap) x y=>aBin_str (P:=prog) (H:=H) (T:=9) (x:=x) (y:=y) (a:=[UInt8.ofNat (48+n % 10)]) (b:=s) (by simp;omega)
  have body:∀ (Q R S U V W X Y e f g i j l o p q r t u v z A B C D E F G I J L M N O:Value),L25x0 m k [i64 ((n / 10:Nat):Int),Q,R,str (UInt8.ofNat (48+n % 10) :: s),S,U,V,W,X,Y,e,f,g,i,j,l,o,p,q,r,t,u,v,z,A,B,C,D,E,F,G,I,J,L,M,N,O] (K++[.cells [byt (UInt8.ofNat (48+n % 10))] 5]):=by
   intro Q R S U V W X Y e f g i j l o p q r t u v z A B C D E F G I J L M N O
   exact hn _ _ _ _ _ _ _ _ _ _ _ _ _ _ _ _ _ _ _ _ _ _ _ _ _ _ _ _ _ _ _ _ _ _ _ _ (hp.trans (.app _ _))
  by_cases h0:0 < n
  · simp [h0,hr,wa,wd]
    rw [ed]
    refine bndL_lit (byte_lit K _) ?_
    dsimp only
    refine bnd_of (one_byte _) ?_
    dsimp only
    refine bnd_of (hcat _ _ _) ?_
    dsimp only
    refine bnd_of (hq _ _ _) ?_
    exact body _ _ _ _ _ _ _ _ _ _ _ _ _ _ _ _ _ _ _ _ _ _ _ _ _ _ _ _ _ _ _ _ _ _ _
  · obtain rfl:s=[]:=by
     rcases hc with h | h
     · exact absurd h h0
     · exact h
    simp [h0,hr,wa,wd]
    rw [ed]
    refine bndL_lit (byte_lit K _) ?_
    dsimp only
    refine bnd_of (one_byte _) ?_
    dsimp only
    refine bnd_of (hcat _ _ _) ?_
    dsimp only
    refine bnd_of (hq _ _ _) ?_
    exact body _ _ _ _ _ _ _ _ _ _ _ _ _ _ _ _ _ _ _ _ _ _ _ _ _ _ _ _ _ _ _ _ _ _ _
 have stop:∀ (m:Nat) (s:List UInt8) (K:AHeap) (Q R S U V W X Y e f g i j l o p q r t u v z A B C D E F G I J L M N O:Value),Pre H K→s≠[]→w=s→L25x0 (m+1) k [i64 (0:Nat),Q,R,str s,S,U,V,W,X,Y,e,f,g,i,j,l,o,p,q,r,t,u,v,z,A,B,C,D,E,F,G,I,J,L,M,N,O] K:=by
  intro m s K Q R S U V W X Y e f g i j l o p q r t u v z A B C D E F G I J L M N O hp hs hw
  subst hw
  rw [L25x0q]
  simp [hs]
  exact hk K hp
 intro d
 induction d with
 | zero =>
   intro n s K Q R S U V W X Y e f g i j l o p q r t u v z A B C D E F G I J L M N O hp hn h63 hsl hw
   obtain rfl:n=0:=by simpa using hn
   by_cases hs:s=[]
   · subst hs
     refine step (0+1) 0 [] K _ _ _ _ _ _ _ _ _ _ _ _ _ _ _ _ _ _ _ _ _ _ _ _ _ _ _ _ _ _ _ _ _ _ _ hp (by omega) (by simp) (.inr rfl) ?_
     intro K2 Q R S U V W X Y e f g i j l o p q r t u v z A B C D E F G I J L M N O hp2
     exact stop 0 _ K2 _ _ _ _ _ _ _ _ _ _ _ _ _ _ _ _ _ _ _ _ _ _ _ _ _ _ _ _ _ _ _ _ _ _ _ hp2 (by simp) (by rw [hw];rfl)
   · exact stop (0+1) s K _ _ _ _ _ _ _ _ _ _ _ _ _ _ _ _ _ _ _ _ _ _ _ _ _ _ _ _ _ _ _ _ _ _ _ hp hs (by rw [hw];unfold preS;rw [if_pos rfl,if_neg hs])
 | succ d ih =>
   intro n s K Q R S U V W X Y e f g i j l o p q r t u v z A B C D E F G I J L M N O hp hn h63 hsl hw
   by_cases hc:0 < n∨s=[]
   · refine step (d+2) n s K _ _ _ _ _ _ _ _ _ _ _ _ _ _ _ _ _ _ _ _ _ _ _ _ _ _ _ _ _ _ _ _ _ _ _ hp h63 (by omega) hc ?_
     intro K2 Q R S U V W X Y e f g i j l o p q r t u v z A B C D E F G I J L M N O hp2
     refine ih (n / 10) _ K2 _ _ _ _ _ _ _ _ _ _ _ _ _ _ _ _ _ _ _ _ _ _ _ _ _ _ _ _ _ _ _ _ _ _ _ hp2 (by rw [Nat.pow_succ] at hn;omega) (by omega) (by simp;omega) ?_
     rw [hw,preS_step hc (by omega)]
   · have h0:n=0:=by
      rcases Nat.eq_zero_or_pos n with h | h
      · exact h
      · exact absurd (.inl h) hc
     have hs:s≠[]:=fun h=>hc (.inr h)
     subst h0
     exact stop (d+1+1) s K _ _ _ _ _ _ _ _ _ _ _ _ _ _ _ _ _ _ _ _ _ _ _ _ _ _ _ _ _ _ _ _ _ _ _ hp hs (by rw [hw];unfold preS;rw [if_pos rfl,if_neg hs])
theorem r_digits0 (H:AHeap) {n:Nat} (hn:n < 2 ^ 63+1) (h63:n < 2 ^ 63):ACalls prog 25 [i64 n] H (str (natS n)) H:=by
 refine acalls_pure MixT func25 (by decide) rfl ?_
 rw [d25]
 have h0:¬ (n:Int) < 0:=by omega
 simp [h0]
 have hw:natS n=preS n []:=by
  unfold preS
  by_cases h:n=0
  · subst h;rfl
  · rw [if_neg h,List.append_nil]
 exact ⟨20+2,dig_loop (H:=H) (natS n) (fun K ⟨X,hX⟩=>⟨rfl,X,hX⟩) 20 n [] H _ _ _ _ _ _ _ _ _ _ _ _ _ _ _ _ _ _ _ _ _ _ _ _ _ _ _ _ _ _ _ _ _ _ _ (.refl _) (by omega) (by omega) (by simp) hw⟩
theorem neg_nat {n:Nat} (h:n < 2 ^ 63):IntKind.i64.wrap (0-(-(n:Int)))=(n:Int):=by rw [show (0:Int)-(-(n:Int))=n by omega];exact wrap_i64 (by omega) (by omega)
theorem fmt_neg {n:Nat} (h:1≤n):fmtS (-(n:Int))=45 :: natS n:=by
 unfold fmtS
 rw [if_pos (by omega),Int.natAbs_neg,Int.natAbs_natCast]
theorem r_digitsN:∀ (m:Nat) (H:AHeap) {n:Nat},n≤m→1≤n→n≤2 ^ 63→ACalls prog 25 [i64 (-(n:Int))] H (str (45 :: natS n)) H:=by
 intro m
 induction m with
 | zero=>intro H n h1 h2;omega
 | succ m ih =>
   intro H n h1 h2 h63
   refine acalls_pure MixT func25 (by decide) rfl ?_
   rw [d25]
   refine bnd_of (v:=.bool true) (by simp;omega) ?_
   dsimp only
   rw [kifB_true]
   by_cases h10:n < 10
   · refine bnd_of (v:=.bool true) (by simp;omega) ?_
     dsimp only
     rw [kifB_true]
     refine bnd_of unV_neg ?_
     rw [neg_nat (by omega)]
     refine bndC_of (r_digits0 H (by omega) (by omega)) ?_
     refine bnd_of (aBin_str (a:=[45]) (b:=natS n) (by have:=natS_len (n:=n) (by omega);simp;omega)) ?_
     exact ⟨rfl,[],by simp⟩
   · refine bnd_of (v:=.bool false) (by simp;omega) ?_
     dsimp only
     rw [kifB_false]
     have hq:(-(n:Int)).tdiv 10 = -((n / 10:Nat):Int):=by rw [Int.neg_tdiv];rfl
     have hr:(-(n:Int)).tmod 10 = -((n % 10:Nat):Int):=by rw [Int.neg_tmod];rfl
     refine bnd_of (v:=i64 (-((n / 10:Nat):Int))) (by rw [aBin_quo _ _ _ _ _ _ _ (by decide),hq,wrap_i64 (by omega) (by omega)]) ?_
     refine bndC_of (ih H (n:=n / 10) (by omega) (by omega) (by omega)) ?_
     refine bnd_of (v:=i64 (-((n % 10:Nat):Int))) (by rw [aBin_rem _ _ _ _ _ _ _ (by decide),hr]) ?_
     refine bnd_of unV_neg ?_
     rw [neg_nat (by omega)]
     refine bndC_of (r_digits0 H (n:=n % 10) (by omega) (by omega)) ?_
     have e1:=natS_len (n:=n / 10) (by omega)
     have e2:=natS_len (n:=n % 10) (by omega)
     refine bnd_of (aBin_str (a:=45 :: natS (n / 10)) (b:=natS (n % 10)) (by simp;omega)) ?_
     refine ⟨?_,[],by simp⟩
     rw [natS_step (n:=n) (by omega) (by omega),natS_small (n:=n % 10) (by omega),Nat.mod_mod]
     rfl
theorem r_digitsZ (H:AHeap) {x:Int} (h1:-9223372036854775808≤x) (h2:x < 9223372036854775808):ACalls prog 25 [i64 x] H (str (fmtS x)) H:=by
 by_cases h0:x < 0
 · obtain ⟨n,rfl⟩:∃ n:Nat,x = -(n:Int):=⟨x.natAbs,by omega⟩
   rw [fmt_neg (by omega)]
   exact r_digitsN n H (Nat.le_refl _) (by omega) (by omega)
 · obtain ⟨n,rfl⟩:∃ n:Nat,x=n:=⟨x.toNat,by omega⟩
   unfold fmtS
   rw [if_neg h0,Int.natAbs_natCast]
   exact r_digits0 H (by omega) (by omega)
end Go.Vi
namespace Go.Vi
open Go Go.Proofs Go.Proofs.Tryz
def nCells (l:List Int):List (List Value):=l.map fun x=>[.int .u32 x]
theorem uel1:aElem prog 28=some (30,1,4):=by kernel_rfl
theorem uel2:isSeq prog 28=true:=by kernel_rfl
def fine (rs:List Rul):Prop:=∀ r∈rs,r.byL.length≤2 ^ 20∧r.fit
theorem rule_new {K:AHeap} {r:Rul} {nv mv:Value} (h1:nv.oneCell'=true) (h2:mv.oneCell'=true) :
  aStore prog (K++[.cells [.string ⟨#[]⟩,.string ⟨#[]⟩,.slice none 0 0,.int .i64 0,.int .i64 0,.int .i64 0,.slice none 0 0,.string ⟨#[]⟩] 35]) 35 (.pointer (some ⟨K.length,0,some 8⟩)) (.agg (r.cells nv mv).toArray)=some (K++[.cells (r.cells nv mv) 35]):=by simp [Rul.cells,h1,h2]
theorem rule_get {K:AHeap} {b:Nat} {cs:List Value} (h:hcells K b=some cs) (hl:cs.length=8):aLoad prog K 35 (.pointer (some ⟨b,0,some 8⟩))=some (.agg cs.toArray):=by
 simp [h,hl,List.take_of_length_le]
theorem all_loop {H:AHeap} {v:Value} {rs:List Rul} {k:Value→AHeap→Prop} (hg:Pw H) (hv:RulesAt H v rs) (hl:rs.length≤2 ^ 20) (hf:fine rs) (hk:∀ K ov,Pre H K→Gro K H.length 1 30 ov (nCells (rs.map fingF))→k ov K) :
  ∀ (n i : Nat) (K : AHeap) (ov : Value) (o q s t u w a b d e f g h j m : Value), n + i = rs.length → Pre H K → Gro K H.length 1 30 ov (nCells ((rs.take i).map fingF)) →
    L6x0 (n+1) k [o,q,s,ov,t,u,v,i64 rs.length,i64 i,w,a,b,d,e,f,g,h,j,m] K:=by
 intro n
 induction n with
 | zero =>
   intro i K ov o q s t u w a b d e f g h j m hi hp ho
   rw [L6x0q]
   have:¬ i < rs.length:=by omega
   rw [List.take_of_length_le (by omega)] at ho
   simp [this]
   exact hk K ov hp ho
 | succ n ih =>
   intro i K ov o q s t u w a b d e f g h j m hi hp ho
   have hlt:i < rs.length:=by omega
   rw [L6x0q]
   obtain ⟨r,hr⟩:∃ r,rs[i]?=some r:=⟨_,List.getElem?_eq_getElem hlt⟩
   obtain ⟨nv,mv,ra,p,p1,p2⟩:=(hv.pre hp).atF (hf r (List.mem_of_getElem? hr)).2 hr
   have w1:IntKind.i64.wrap ((i:Int)+1)=((i+1:Nat):Int):=by rw [wrap_i64 (by omega) (by omega)];omega
   refine bnd_of (v:=.bool true) (by simp [hlt]) ?_
   dsimp only
   rw [kifB_true]
   dsimp only
   refine bnd_of p1 ?_
   refine bnd_of p2 ?_
   dsimp only
   simp only [tal35,bndE_some]
   rw [rule_new ra.o1 ra.o2]
   simp only [bndS_some]
   refine bnd_of (rule_get (cs:=r.cells nv mv) (by simp) rfl) ?_
   have hK1:Pre H (K++[.cells (r.cells nv mv) 35]):=hp.more _
   refine bndC_of (c_finger (hg.trans hK1) (ra.pre (.app K _)) (hf r (List.mem_of_getElem? hr)).1) ?_
   have hlit:sliceLit prog (K++[.cells (r.cells nv mv) 35]) 28 1 [(0,.int .u32 (fingF r))] (.slice (some ⟨(K++[AObj.cells (r.cells nv mv) 35]).length,0,some 1⟩) 1 1) (K++[.cells (r.cells nv mv) 35]++[.cells [.int .u32 (fingF r)] 30]) :=
    sliceLit1 (l:=[.int .u32 (fingF r)]) (tbs28 _ 1 _) (by simp) rfl (by decide)
   refine bndL_lit hlit ?_
   dsimp only
   obtain ⟨v',K',g1,g2,g3,g4,g5⟩:=Gro.push (P:=prog) (K:=K++[.cells (r.cells nv mv) 35]++[.cells [.int .u32 (fingF r)] 30]) (lo:=H.length) (Ts:=28) (by_:=4) (x:=.slice (some ⟨(K++[AObj.cells (r.cells nv mv) 35]).length,0,some 1⟩) 1 1) (c:=[.int .u32 (fingF r)]) (ho.app.app) uel1 uel2 rfl
    (by obtain ⟨X,rfl⟩:=hp;simp) (by simp [aSrc]) (by simp [nCells];omega) (by simp [nCells];omega)
   rw [g1]
   simp only [bndE_some]
   refine bnd_of (v:=i64 ((i+1:Nat):Int)) (by simp [w1]) ?_
   dsimp only
   refine ih (i+1) K' v' _ _ _ _ _ _ _ _ _ _ _ _ _ _ _ (by omega) (g5 H ((hp.more _).more _) (Nat.le_refl _)) ?_
   rw [List.take_add_one,hr]
   simpa [nCells] using g2
theorem c_all {H:AHeap} {v:Value} {rs:List Rul} (hg:Pw H) (hv:RulesAt H v rs) (hl:rs.length≤2 ^ 20) (hf:fine rs) :
  ∃ ov K,ACalls prog 6 [v] H ov K∧Pre H K∧Gro K H.length 1 30 ov (nCells (rs.map fingF)):=by
 obtain ⟨u,K,⟨h1,h2⟩,h3⟩:∃ ov K,(Pre H K∧Gro K H.length 1 30 ov (nCells (rs.map fingF)))∧ACalls prog 6 [v] H ov K:=by
  refine acalls_ex MixT func6 (by decide) ?_
  rw [d6]
  have:=hv.lenR H
  simp [this]
  exact ⟨_,all_loop hg hv hl hf (fun K ov p g=>⟨p,g⟩) rs.length 0 H _ _ _ _ _ _ _ _ _ _ _ _ _ _ _ _ rfl (.refl H) .nil⟩
 exact ⟨u,K,h3,h1,h2⟩
def NMap:List (Value × Value)→List Int→Prop
 | [],[]=>True
 | e :: es,k :: ks=>e.1=.int .u32 k∧(∃ n,e.2=i64 n)∧NMap es ks
 | _,_=>False
theorem NMap.len:∀ {es ks},NMap es ks→es.length=ks.length:=by
 intro es
 induction es with
 | nil => intro ks h; cases ks with
   | nil=>rfl
   | cons=>cases h
 | cons e es ih => intro ks h; cases ks with
   | nil=>cases h
   | cons k ks=>simp [ih h.2.2]
theorem NMap.ok:∀ {es ks},NMap es ks→mOk (.int .u32) es=true:=by
 intro es
 induction es with
 | nil=>intro ks _;rfl
 | cons e es ih => intro ks h; cases ks with
   | nil=>cases h
   | cons k ks =>
     have:=ih h.2.2
     unfold mOk at this ⊢
     rw [List.all_cons,this,h.1]
     rfl
theorem NMap.find {k:Int}:∀ {es ks},NMap es ks→(k∈ks∧∃ j n,mfind (.int .u32 k) es=some j∧es[j]?=some (.int .u32 k,i64 n))∨(k ∉ ks∧mfind (.int .u32 k) es=none):=by
 intro es
 induction es with
 | nil => intro ks h; cases ks with
   | nil=>exact .inr ⟨by simp,rfl⟩
   | cons=>cases h
 | cons e es ih => intro ks h; cases ks with
   | nil=>cases h
   | cons k' ks =>
     obtain ⟨e1,e2⟩:=e
     obtain ⟨h1,⟨n,h2⟩,h3⟩:=h
     simp only at h1 h2
     subst h1 h2
     simp only [mfind,keyEq,beq_self_eq_true,Bool.true_and,beq_iff_eq]
     by_cases hk:k=k'
     · subst hk
       exact .inl ⟨by simp,0,n,by simp,rfl⟩
     · rcases ih h3 with ⟨g1,j,v,g2,g3⟩ | ⟨g1,g2⟩
       · exact .inl ⟨by simp [g1],j+1,v,by simp [hk,g2],by simpa using g3⟩
       · exact .inr ⟨by simp [hk,g1],by simp [hk,g2]⟩
theorem NMap.get {k:Int} {es ks} (h:NMap es ks):(∃ n,mget (.int .u32 k) es=some (i64 n))∨mget (.int .u32 k) es=none:=by
 unfold mget
 rcases h.find (k:=k) with ⟨g1,j,v,g2,g3⟩ | ⟨g1,g2⟩
 · exact .inl ⟨v,by simp [g2,g3]⟩
 · exact .inr (by simp [g2])
theorem NMap.app {k n:Int}:∀ {es ks},NMap es ks→NMap (es++[(.int .u32 k,i64 n)]) (ks++[k]):=by
 intro es
 induction es with
 | nil => intro ks h; cases ks with
   | nil=>exact ⟨rfl,⟨n,rfl⟩,trivial⟩
   | cons=>cases h
 | cons e es ih => intro ks h; cases ks with
   | nil=>cases h
   | cons k' ks=>exact ⟨h.1,h.2.1,ih h.2.2⟩
theorem NMap.set {k n:Int}:∀ {es ks} {j:Nat} {v:Value},NMap es ks→es[j]?=some (.int .u32 k,v)→NMap (es.set j (.int .u32 k,i64 n)) ks:=by
 intro es
 induction es with
 | nil=>intro ks j v h hj;simp at hj
 | cons e es ih => intro ks j v h hj; cases ks with
   | nil=>cases h
   | cons k' ks =>
     cases j with
     | zero =>
       simp at hj
       subst hj
       have:k=k':=by
        have:=h.1
        simpa using this
       subst this
       exact ⟨rfl,⟨n,rfl⟩,h.2.2⟩
     | succ j=>exact ⟨h.1,h.2.1,ih h.2.2 (by simpa using hj)⟩
theorem NMap.put {k n:Int} {es ks} (h:NMap es ks):NMap (mput (.int .u32 k) (i64 n) es) (addKey ks k):=by
 unfold mput addKey
 rcases h.find (k:=k) with ⟨g1,j,v,g2,g3⟩ | ⟨g1,g2⟩
 · rw [g2,if_pos g1];exact h.set g3
 · rw [g2,if_neg g1];exact h.app
def keysOf (l:List Int):List Int:=l.foldl addKey []
def unlF (l:List Int):Bool:=((keysOf l).length:Int) == (l.length:Int)
theorem unl_loop {rv:Value} {rs:List Rul} {l:List Int} {H:AHeap} {v:Value} {k:Value→AHeap→Prop} (hl:l.length < 2 ^ 62) (hrs:rs.length=l.length) (hr:∀ K,aLen prog K 22 rv=some (i64 rs.length)) (hk:∀ K,Pre H K→k (.bool (unlF l)) K) (b:Nat) (hbH:H.length≤b) :
  ∀ (r : List Int) (i : Nat) (es : List (Value × Value)) (ks : List Int) (K : AHeap) (w y z A B C a c d e f g h j m o p t u : Value), l.drop i = r → i ≤ l.length → Pre H K → Arr K 1 v (nCells l) → K[b]? = some (.map es) → NMap es ks → r.foldl addKey ks = keysOf l →
    L9x0 (r.length+1) k [rv,w,y,.map (some b),z,A,B,C,v,i64 l.length,i64 i,a,c,d,e,f,g,h,j,m,o,p,t,u] K:=by
 intro r
 induction r with
 | nil =>
   intro i es ks K w y z A B C a c d e f g h j m o p t u hd hi hp ha hm hs hf
   have hle:l.length≤i:=by simpa using hd
   rw [List.length_nil,L9x0q]
   have:¬ i < l.length:=by omega
   have hml:aLen prog K 50 (.map (some b))=some (i64 es.length):=by simp [aLen,hm]
   simp [this,hr,hml]
   have:=hk K hp
   rw [unlF,← hf,List.foldl_nil,← hs.len,← hrs] at this
   exact this
 | cons s r ih =>
   intro i es ks K w y z A B C a c d e f g h j m o p t u hd hi hp ha hm hs hf
   have hb:l[i]?=some s:=by rw [← List.head?_drop,hd];rfl
   have hlt:i < l.length:=(List.getElem?_eq_some_iff.1 hb).1
   obtain ⟨q,hp1,hp2⟩:=ha.load1 (P:=prog) (T:=28) (te:=30) (i:=i) (x:=.int .u32 s) (by simp) (by simp) (by simp) (by simp [nCells,hb])
   rw [List.length_cons,L9x0q]
   obtain ⟨x,hx⟩:∃ n,aLookup prog K 50 (.map (some b)) (.int .u32 s) false=some (i64 n):=by
    rw [aLookup_map,hm]
    simp only [tm50,Option.bind_some,mapOf_map,keyOk,beq_self_eq_true,if_true,hs.ok]
    rcases hs.get (k:=s) with ⟨n,g1⟩ | g1
    · rw [g1];exact ⟨n,by simp⟩
    · rw [g1];exact ⟨0,by simp [cok,isLit]⟩
   simp only [aBin_lss,bnd_some,Int.ofNat_lt,hlt,decide_true,kifB_true,hp1,hp2,hx,aBin_add,aUpdate_map,hm,tm50,Option.bind_some,mapOf_map,keyOk,beq_self_eq_true,hs.ok,and_self,if_true,bndS_some,wrap_succ (show i+1 < 2 ^ 63 by omega)]
   exact ih (i+1) _ (addKey ks s) _ _ _ _ _ _ _ _ _ _ _ _ _ _ _ _ _ _ _ _ (by rw [← List.drop_drop,hd];rfl) hlt (hp.set hbH) (ha.set (hcells_map hm)) (get_set hm) hs.put hf
theorem c_unlike {H:AHeap} {v:Value} {rs:List Rul} (hg:Pw H) (hv:RulesAt H v rs) (hl:rs.length≤2 ^ 20) (hf:fine rs):ACalls prog 9 [v] H (.bool (unlF (rs.map fingF))) H:=by
 refine acalls_pure MixT func9 (by decide) rfl ?_
 rw [d9]
 simp only [bndE_some]
 obtain ⟨ov,K,a1,p1,g1⟩:=c_all (hg.trans (.app H [AObj.map []])) (hv.pre (.app H [AObj.map []])) hl hf
 refine bndC_of a1 ?_
 have hm:K[H.length]?=some (.map []):=p1.get (by simp)
 have hlen:=g1.arr.len (P:=prog) (T:=28) (e:=30) (by simp)
 simp [nCells] at hlen
 refine bnd_of hlen ?_
 have hr:=hv.lenR
 refine ⟨(rs.map fingF).length+1,?_⟩
 have:=unl_loop (k:=fun u H2=>u=.bool (unlF (rs.map fingF))∧∃ X,H2=H++X) (H:=H) (rv:=v) (rs:=rs) (l:=rs.map fingF) (v:=ov) (by simp;omega) (by simp) hr (fun K p=>⟨rfl,p⟩) H.length (Nat.le_refl _) (rs.map fingF) 0 [] [] K
 simp only [List.length_map] at this ⊢
 exact this _ _ _ _ _ _ _ _ _ _ _ _ _ _ _ _ _ _ _ rfl (by omega) ((Pre.app H _).trans p1) g1.arr hm trivial rfl
theorem keys_len:∀ (l ks:List Int),ks.Nodup→((l.foldl addKey ks).length≤ks.length+l.length∧((l.foldl addKey ks).length=ks.length+l.length↔(ks++l).Nodup)):=by
 intro l
 induction l with
 | nil=>intro ks h;simp [h]
 | cons x l ih =>
   intro ks h
   simp only [List.foldl_cons,List.length_cons]
   by_cases hx:x∈ks
   · have e:addKey ks x=ks:=by unfold addKey;rw [if_pos hx]
     rw [e]
     obtain ⟨h1,h2⟩:=ih ks h
     refine ⟨by omega,fun q=>by omega,fun q=>?_⟩
     exfalso
     rw [List.nodup_append] at q
     exact q.2.2 x hx x (by simp) rfl
   · have e:addKey ks x=ks++[x]:=by unfold addKey;rw [if_neg hx]
     rw [e]
     have hn:(ks++[x]).Nodup:=by
      rw [List.nodup_append]
      exact ⟨h,by simp,fun a ha b hb=>by simp at hb;subst hb;exact fun q=>hx (q ▸ ha)⟩
     obtain ⟨h1,h2⟩:=ih (ks++[x]) hn
     simp only [List.length_append,List.length_cons,List.length_nil,List.append_assoc,List.cons_append,List.nil_append] at h1 h2
     refine ⟨by omega,?_⟩
     rw [← h2]
     constructor<;>intro q<;>omega
theorem unlF_iff (l:List Int):unlF l=true↔l.Nodup:=by
 have:=(keys_len l [] List.nodup_nil).2
 simp only [List.length_nil,Nat.zero_add,List.nil_append] at this
 rw [← this]
 unfold unlF keysOf
 simp only [beq_iff_eq]
 omega
end Go.Vi
namespace Go.Vi
open Go Go.Proofs Go.Proofs.Tryz
theorem crc_nn (l:List UInt8):0≤crcF l:=by
 have:=row_lt l (8*l.length)
 rw [← row_sum l]
 omega
theorem tame_pr {r:Rul} (ht:r.tame):PrOk r.nodes:=⟨ht.win,fun n hn=>by have:=(ht.nods n hn).1;omega,fun n hn=>(ht.nods n hn).2⟩
theorem fTxt_len {r:Rul} (hf:r.fit) (ht:r.tame):(fTxt r).length≤2 ^ 42:=by
 obtain ⟨f1,f2,f3,f4⟩:=hf
 have l1:=fmt_len f1 f2
 have l2:=fmt_len f3 f4
 have l3:=print_len r.nodes
 have l4:=ht.byL
 rw [fTxt_eq]
 simp
 omega
set_option maxRecDepth 20000 in
theorem r_text {H:AHeap} {r:Rul} {nv mv:Value} (hr:RulAt H r nv mv) (ht:r.tame):ACalls prog 15 [.agg (r.cells nv mv).toArray] H (str (fTxt r)) H:=by
 refine acalls_pure MixT func15 (by decide) rfl ?_
 rw [d15]
 have h1:=hr.o1
 have h2:=hr.o2
 have hfl:=fTxt_len hr.fit ht
 rw [fTxt_eq] at hfl
 simp only [List.length_append] at hfl
 obtain ⟨f1,f2,f3,f4⟩:=hr.fit
 have hrX:=hr.pre (.app H [AObj.cells (r.cells nv mv) 35])
 have hnew:aNew H 35 (.agg (r.cells nv mv).toArray)=some (.pointer (some ⟨H.length,0,some 8⟩),H++[.cells (r.cells nv mv) 35]):=by simp [aNew_agg,Rul.cells,h1,h2]
 rw [hnew]
 simp only [bndE_some]
 obtain ⟨K,hK⟩:∃ K,K=H++[.cells (r.cells nv mv) 35]:=⟨_,rfl⟩
 have g1:hcells K H.length=some (r.cells nv mv):=by rw [hK];simp
 have g2:hlen K H.length=some 8:=by rw [hK];simp [Rul.cells]
 rw [← hK] at hrX ⊢
 simp only [Rul.cells] at g1
 obtain ⟨t1,e1⟩:∃ t,t=r.byL++[32]:=⟨_,rfl⟩
 obtain ⟨t2,e2⟩:∃ t,t=t1++fmtS r.forM:=⟨_,rfl⟩
 obtain ⟨t3,e3⟩:∃ t,t=t2++[32]:=⟨_,rfl⟩
 obtain ⟨t4,e4⟩:∃ t,t=t3++fmtS r.every:=⟨_,rfl⟩
 obtain ⟨t5,e5⟩:∃ t,t=t4++[32]:=⟨_,rfl⟩
 have n1:t1.length=r.byL.length+1:=by rw [e1];simp
 have n2:t2.length=t1.length+(fmtS r.forM).length:=by rw [e2];simp
 have n3:t3.length=t2.length+1:=by rw [e3];simp
 have n4:t4.length=t3.length+(fmtS r.every).length:=by rw [e4];simp
 have n5:t5.length=t4.length+1:=by rw [e5];simp
 have u1:[(32:UInt8)].length=1:=rfl
 simp [g1,g2]
 refine bnd_of (v:=str t1) (by rw [e1];exact aBin_str (b:=[32]) (by omega)) ?_
 simp [g1,g2]
 refine bndD_same (r_digitsZ K f1 f2) ?_
 refine bnd_of (v:=str t2) (by rw [e2];exact aBin_str (by omega)) ?_
 refine bnd_of (v:=str t3) (by rw [e3];exact aBin_str (b:=[32]) (by omega)) ?_
 simp [g1,g2]
 refine bndD_same (r_digitsZ K f3 f4) ?_
 refine bnd_of (v:=str t4) (by rw [e4];exact aBin_str (by omega)) ?_
 refine bnd_of (v:=str t5) (by rw [e5];exact aBin_str (b:=[32]) (by omega)) ?_
 simp [g1,g2]
 refine bndD_same (r_print hrX.nodes (tame_pr ht) (by have:=ht.nlen;omega)) ?_
 refine bnd_of (v:=str (t5++printS r.nodes)) (aBin_str (by omega)) ?_
 refine ⟨?_,by rw [hK];exact ⟨_,rfl⟩⟩
 rw [fTxt_eq,e5,e4,e3,e2,e1]
theorem r_of {H:AHeap} {r:Rul} {nv mv:Value} (hr:RulAt H r nv mv) (ht:r.tame):ACalls prog 7 [.agg (r.cells nv mv).toArray] H (.int .u32 (fingF r)) H:=by
 refine acalls_pure MixT func7 (by decide) rfl ?_
 rw [d7]
 have h1:=hr.o1
 have h2:=hr.o2
 have hfl:=fTxt_len hr.fit ht
 have hnew:aNew H 35 (.agg (r.cells nv mv).toArray)=some (.pointer (some ⟨H.length,0,some 8⟩),H++[.cells (r.cells nv mv) 35]):=by simp [aNew_agg,Rul.cells,h1,h2]
 rw [hnew]
 simp only [bndE_some]
 refine bnd_of (rule_get (cs:=r.cells nv mv) (by simp) rfl) ?_
 refine bndC_of (r_text (hr.pre (.app H [AObj.cells (r.cells nv mv) 35])) ht) ?_
 dsimp only
 rw [aConv_sb]
 simp only [bndE_some]
 refine bndC_of (r_sumref (roArr _ (fTxt r)) (by omega)) ?_
 refine bnd_of (aBin_eql ..) ?_
 dsimp only
 have hn:=crc_nn (fTxt r)
 by_cases h:crcF (fTxt r)=0
 · rw [show (crcF (fTxt r) == 0)=true by simp [h],kifB_true]
   refine ⟨?_,_,by rw [List.append_assoc]⟩
   unfold fingF
   rw [if_pos (by omega)]
 · rw [show (crcF (fTxt r) == 0)=false by simp [h],kifB_false]
   refine ⟨?_,_,by rw [List.append_assoc]⟩
   unfold fingF
   rw [if_neg (by omega)]
section
variable {H:AHeap} {v:Value} {rs:List Rul} {k:Value→AHeap→Prop}
theorem unR_x1 (hv:RulesAt H v rs) (ht:∀ r∈rs,r.tame∧r.fit) (hl:rs.length < 2 ^ 62) {i n0:Nat} {r:Rul} (hi:rs[i]?=some r) (bad:¬ unlF (rs.map fingF)=true→k (.bool false) H)
  (hk:(∀ (j:Nat) x,j < i→rs[j]?=some x→fingF r≠fingF x)→∀ (E F M G I J K L a b c f g m n o q u w y z A B C D:Value),L10x0 n0 k [v,E,F,i64 ((i+1:Nat):Int),M,G,I,J,K,L,a,b,c,f,g,m,n,o,q,u,w,y,z,A,B,C,D] H) :
  ∀ (d j:Nat) (E F G I J K L a b c f g m n o q u w y z A B C D:Value),d+j=i→(∀ (l:Nat) x,l < j→rs[l]?=some x→fingF r≠fingF x)→L10x1 (d+1) n0 k [v,E,F,i64 i,i64 j,G,I,J,K,L,a,b,c,f,g,m,n,o,q,u,w,y,z,A,B,C,D] H:=by
 have hil:=(List.getElem?_eq_some_iff.1 hi).1
 obtain ⟨ht1,ht2⟩:=ht r (List.mem_of_getElem? hi)
 obtain ⟨nv,mv,ra,p,p1,p2⟩:=hv.atF ht2 hi
 intro d
 induction d with
 | zero =>
   intro j E F G I J K L a b c f g m n o q u w y z A B C D hj hac
   have hji:j=i:=by omega
   subst hji
   rw [L10x1q]
   have hi63:IntKind.i64.wrap ((j:Int)+1)=((j+1:Nat):Int):=by rw [wrap_i64 (by omega) (by omega)];omega
   simp [show j+1 < 2 ^ 63 by omega]
   exact hk hac _ _ _ _ _ _ _ _ _ _ _ _ _ _ _ _ _ _ _ _ _ _ _ _ _
 | succ d ih =>
   intro j E F G I J K L a b c f g m n o q u w y z A B C D hj hac
   have hlt:j < i:=by omega
   obtain ⟨x,hx⟩:∃ s,rs[j]?=some s:=⟨_,List.getElem?_eq_getElem (by omega)⟩
   obtain ⟨hx1,hx2⟩:=ht x (List.mem_of_getElem? hx)
   obtain ⟨nv',mv',ra',p',p1',p2'⟩:=hv.atF hx2 hx
   rw [L10x1q]
   refine bnd_of (v:=.bool true) (by simp [hlt]) ?_
   dsimp only
   rw [kifB_true]
   refine bnd_of p1 ?_
   refine bnd_of p2 ?_
   refine bndD_same (r_of ra ht1) ?_
   refine bnd_of p1' ?_
   refine bnd_of p2' ?_
   refine bndD_same (r_of ra' hx1) ?_
   refine bnd_of (aBin_eql ..) ?_
   dsimp only
   by_cases he:fingF r=fingF x
   · rw [show (fingF r == fingF x)=true by simp [he],kifB_true]
     refine bad (fun h=>?_)
     have hnd:=(unlF_iff _).1 h
     obtain ⟨i1,e1⟩:=List.getElem?_eq_some_iff.1 hi
     obtain ⟨j1,e2⟩:=List.getElem?_eq_some_iff.1 hx
     have:=List.pairwise_iff_getElem.1 hnd j i (by simpa using j1) (by simpa using i1) hlt
     simp [e1,e2,he] at this
   · rw [show (fingF r == fingF x)=false by simp [he],kifB_false]
     refine bnd_of (v:=i64 ((j+1:Nat):Int)) (by simp [show j+1 < 2 ^ 63 by omega]) ?_
     refine ih (j+1) _ _ _ _ _ _ _ _ _ _ _ _ _ _ _ _ _ _ _ _ _ _ _ _ (by omega) (fun l t hl2 htl=>?_)
     by_cases e:l=j
     · subst e;rw [hx] at htl;cases htl;exact he
     · exact hac l t (by omega) htl
theorem unR_x0 (hv:RulesAt H v rs) (ht:∀ r∈rs,r.tame∧r.fit) (hl:rs.length < 2 ^ 62) (hk:k (.bool (unlF (rs.map fingF))) H) :
  ∀ (d i:Nat) (F G I J K L M N c f g m n o p q t u w z A B C D E:Value),d+i=rs.length→(∀ (j l:Nat) x y,j < i→l < j→rs[j]?=some x→rs[l]?=some y→fingF x≠fingF y)→L10x0 (d+1) k [v,F,G,i64 i,I,J,K,L,M,N,c,f,g,m,n,o,p,q,t,u,w,z,A,B,C,D,E] H:=by
 have hlen:=hv.lenR H
 intro d
 induction d with
 | zero =>
   intro i F G I J K L M N c f g m n o p q t u w z A B C D E hi hac
   have:¬ i < rs.length:=by omega
   rw [L10x0q]
   have hu:unlF (rs.map fingF)=true:=by
    rw [unlF_iff,List.Nodup,List.pairwise_iff_getElem]
    intro a b ha hb hab he
    simp only [List.length_map] at ha hb
    simp only [List.getElem_map] at he
    exact hac b a _ _ (by omega) hab (List.getElem?_eq_getElem hb) (List.getElem?_eq_getElem ha) he.symm
   rw [hu] at hk
   simp [hlen,this]
   exact hk
 | succ d ih =>
   intro i F G I J K L M N c f g m n o p q t u w z A B C D E hi hac
   have hlt:i < rs.length:=by omega
   obtain ⟨r,hr⟩:∃ s,rs[i]?=some s:=⟨_,List.getElem?_eq_getElem hlt⟩
   rw [L10x0q]
   simp [hlen,hlt]
   refine ⟨i+1,unR_x1 hv ht hl hr (fun h=>by rwa [show unlF (rs.map fingF)=false by simpa using h] at hk) (fun hq F G I J K L M N c f g m n o p q t u w z A B C D E=>?_) i 0 _ _ _ _ _ _ _ _ _ _ _ _ _ _ _ _ _ _ _ _ _ _ _ _ (by omega) (fun l x hl=>by omega)⟩
   refine ih (i+1) _ _ _ _ _ _ _ _ _ _ _ _ _ _ _ _ _ _ _ _ _ _ _ _ _ (by omega) (fun j l x y hj hlj hx hy=>?_)
   by_cases e:j=i
   · subst e;rw [hr] at hx;cases hx;exact hq l y hlj hy
   · exact hac j l x y (by omega) hlj hx hy
theorem r_unlike (hv:RulesAt H v rs) (ht:∀ r∈rs,r.tame∧r.fit) (hl:rs.length < 2 ^ 62):ACalls prog 10 [v] H (.bool (unlF (rs.map fingF))) H:=by
 refine acalls_pure MixT func10 (by decide) rfl ?_
 rw [d10]
 exact ⟨rs.length+1,unR_x0 hv ht hl ⟨rfl,[],by simp⟩ rs.length 0 _ _ _ _ _ _ _ _ _ _ _ _ _ _ _ _ _ _ _ _ _ _ _ _ _ (by omega) (fun j l x y hj=>by omega)⟩
end
end Go.Vi
namespace Go.Vi
open Go Go.Proofs Go.Proofs.Tryz
theorem RRow.atR {K lo v rs} (h:RRow K lo v rs):RulesAt K v rs:=by
 obtain ⟨cl,h1,h2,h3⟩:=h
 refine ⟨cl,h1.arr,h2,fun i n hi=>?_⟩
 obtain ⟨nv,mv,q1,q2,q3,q4⟩:=h3 i n hi
 exact ⟨nv,mv,q1,q2.at,q3.arr,q4⟩
theorem nums_flat (l:List Int):(nCells l).flatten=l.map (Value.int .u32):=by
 unfold nCells
 induction l with
 | nil=>rfl
 | cons a r ih=>simp [ih]
theorem num_put {K:AHeap} {lo:Nat} {v:Value} {l:List Int} {j:Nat} {y:Int} (h:Gro K lo 1 30 v (nCells l)) (hj:l[j]?=some y) (x:Int) :
  ∃ p K',aIndexAddr prog K 28 v (i64 j)=some p∧aLoad prog K 30 p=some (.int .u32 y)∧aStore prog K 30 p (.int .u32 x)=some K'∧Gro K' lo 1 30 v (nCells (l.set j x))∧∀ X,Pre X K→X.length≤lo→Pre X K':=by
 have hlt:j < l.length:=(List.getElem?_eq_some_iff.1 hj).1
 generalize hc:nCells l=cl at h
 cases h with
 | nil =>
   have:l=[]:=by simpa [nCells] using hc
   subst this
   simp at hj
 | mk b cl h1 h2 h3 h4 =>
   subst hc
   rw [nums_flat] at h2
   have hl:(nCells l).length=l.length:=by simp [nCells]
   have hcs:hcells K b=some (l.map (Value.int .u32)):=by simp [hcells,h2]
   have hln:hlen K b=some l.length:=by rw [hcells_len hcs];simp
   rw [hl,Nat.mul_one]
   refine ⟨.pointer (some ⟨b,j,some l.length⟩),K.set b (.cells ((l.set j x).map (Value.int .u32)) 30),?_,?_,?_,?_,fun X p hX=>p.set (by omega)⟩
   · rw [aIndexAddr_sl]
     simp [hln,slElem]
     omega
   · simp [hcs,hj]
   · simp [h2,List.map_set]
     omega
   · have:=Gro.mk (K:=K.set b (.cells ((l.set j x).map (Value.int .u32)) 30)) (lo:=lo) (z:=1) (T:=30) b (nCells (l.set j x)) h1 (by rw [nums_flat];exact get_set h2) (by simp [nCells];intro e;rw [e] at hlt;simp at hlt) (fun c hc=>by unfold nCells at hc;obtain ⟨x',_,rfl⟩:=List.mem_map.1 hc;rfl)
     simpa [nCells] using this
section
variable {H:AHeap} {v mv:Value} {rs:List Rul} {k:Value→AHeap→Prop}
set_option maxRecDepth 20000 in
theorem fall_x1 (_hg:Pw H) (hv:RulesAt H v rs) (hm:RulesAt H mv rs) (ht:∀ r∈rs,r.tame∧r.fit) (hl:rs.length≤20) {i n0:Nat} (hi:i < 2) {ov:Value}
  (hk:∀ K,Pre H K→∀ (s1 s2 s5 s6 s7 s8 s9 a b c e f g h l n o t u w x y z A B C D E F G I J L M N O P Q R S T U V W X Y Z aa ab ac ad ae af ag ah ai aj ak al am an ao ap aq ar au av aw:Value),L3x0 n0 k [v,s1,s2,mv,i64 ((i+1:Nat):Int),s5,s6,s7,s8,s9,a,b,c,e,f,g,h,l,n,o,t,u,w,x,y,z,A,B,C,D,E,F,G,I,J,L,M,N,O,P,Q,R,S,T,U,V,W,X,Y,Z,aa,ab,ac,ad,ae,af,ag,ah,ai,aj,ak,al,am,an,ao,ap,aq,ar,au,av,aw] K) :
  ∀ (d j : Nat) (K : AHeap) (ys : List Int) (s1 s2 s7 s8 s9 a b c e f g h l n o t u w x y z A B C D E F G I J L M N O P Q R S T U V W X Y Z aa ab ac ad ae af ag ah ai aj ak al am an ao ap aq ar au av aw : Value), d + j = rs.length → Pre H K → Gro K H.length 1 30 ov (nCells ys) → (∀ q, j ≤ q → ys[q]? = (rs.map fingF)[q]?) →
    L3x1 (d+1) n0 k [v,s1,s2,mv,i64 i,ov,i64 j,s7,s8,s9,a,b,c,e,f,g,h,l,n,o,t,u,w,x,y,z,A,B,C,D,E,F,G,I,J,L,M,N,O,P,Q,R,S,T,U,V,W,X,Y,Z,aa,ab,ac,ad,ae,af,ag,ah,ai,aj,ak,al,am,an,ao,ap,aq,ar,au,av,aw] K:=by
 intro d
 induction d with
 | zero =>
   intro j K ys s1 s2 s7 s8 s9 a b c e f g h l n o t u w x y z A B C D E F G I J L M N O P Q R S T U V W X Y Z aa ab ac ad ae af ag ah ai aj ak al am an ao ap aq ar au av aw hj hp hgo hys
   have hlen:=hv.lenR K
   have:¬ j < rs.length:=by omega
   rw [L3x1q]
   refine bnd_of hlen ?_
   refine bnd_of (v:=.bool false) (by simp [this]) ?_
   dsimp only
   rw [kifB_false]
   refine bnd_of (v:=i64 ((i+1:Nat):Int)) (by simp [show i+1 < 2 ^ 63 by omega]) ?_
   exact hk K hp _ _ _ _ _ _ _ _ _ _ _ _ _ _ _ _ _ _ _ _ _ _ _ _ _ _ _ _ _ _ _ _ _ _ _ _ _ _ _ _ _ _ _ _ _ _ _ _ _ _ _ _ _ _ _ _ _ _ _ _ _ _ _ _ _ _ _ _
 | succ d ih =>
   intro j K ys s1 s2 s7 s8 s9 a b c e f g h l n o t u w x y z A B C D E F G I J L M N O P Q R S T U V W X Y Z aa ab ac ad ae af ag ah ai aj ak al am an ao ap aq ar au av aw hj hp hgo hys
   have hlen:=hv.lenR K
   have hlt:j < rs.length:=by omega
   obtain ⟨r,hr⟩:∃ s,rs[j]?=some s:=⟨_,List.getElem?_eq_getElem hlt⟩
   obtain ⟨ht1,ht2⟩:=ht r (List.mem_of_getElem? hr)
   have hy:ys[j]?=some (fingF r):=by rw [hys j (Nat.le_refl _),List.getElem?_map,hr];rfl
   obtain ⟨p,K',p1,p2,p3,p4,p5⟩:=num_put hgo hy (IntKind.u32.wrap (fingF r+1))
   obtain ⟨nv,xv,ra,q,q1,q2⟩:=(hv.pre hp).atF ht2 hr
   obtain ⟨nv',xv',ra',m,m1,m2⟩:=(hm.pre hp).atF ht2 hr
   have hby:r.byL.length≤2 ^ 20:=by have:=ht1.byL;omega
   rw [L3x1q]
   refine bnd_of hlen ?_
   refine bnd_of (v:=.bool true) (by simp [hlt]) ?_
   dsimp only
   rw [kifB_true]
   refine bnd_of p1 ?_
   refine bnd_of p2 ?_
   refine bnd_of q1 ?_
   refine bnd_of q2 ?_
   refine bndD_same (r_of ra ht1) ?_
   refine bnd_of (v:=.bool false) (by simp) ?_
   simp [m1,m2]
   refine bndD_gcall _ rfl (fun _=>c_finger (_hg.trans hp) ra' hby) ?_
   simp [p1,p2,p3,show j+1 < 2 ^ 63 by omega]
   exact ih (j+1) K' _ _ _ _ _ _ _ _ _ _ _ _ _ _ _ _ _ _ _ _ _ _ _ _ _ _ _ _ _ _ _ _ _ _ _ _ _ _ _ _ _ _ _ _ _ _ _ _ _ _ _ _ _ _ _ _ _ _ _ _ _ _ _ _ _ _ _ (by omega) (p5 H hp (Nat.le_refl _)) p4 (fun q hq=>by rw [List.getElem?_set_ne (by omega)];exact hys q (by omega))
theorem cfgR {v:Value} (h:v.oneCell'=true) (rs:List Rul):buildV prog 26 [(0,v)]=some (.agg ((⟨rs,[],0,0⟩:Cfg).cells v (.slice none 0 0)).toArray):=by
 simp [Cfg.cells,stor_one h,cells_one h]
theorem fall_x0 (hg:Pw H) (hv:RulesAt H v rs) (hm:RulesAt H mv rs) (hc:(⟨rs,[],0,0⟩:Cfg).tame) (hf:∀ r∈rs,r.fit) (hk:∀ K,Pre H K→k (.bool true) K) :
  ∀ (d i:Nat) (K:AHeap) (s1 s2 s5 s6 s7 s8 s9 a b c f g h j l m n o p s t u w x y z A B C D E F G I J L M N O Q R S U V W Y Z aa ab ac ad ae af ag ah ai aj ak al am an ao ap aq ar au av aw:Value),d+i=2→Pre H K→L3x0 (d+1) k [v,s1,s2,mv,i64 i,s5,s6,s7,s8,s9,a,b,c,f,g,h,j,l,m,n,o,p,s,t,u,w,x,y,z,A,B,C,D,E,F,G,I,J,L,M,N,O,Q,R,S,U,V,W,Y,Z,aa,ab,ac,ad,ae,af,ag,ah,ai,aj,ak,al,am,an,ao,ap,aq,ar,au,av,aw] K:=by
 have hl:rs.length≤20:=hc.small.1
 have ht:∀ r∈rs,r.tame∧r.fit:=fun r hr=>⟨hc.rules r hr,hf r hr⟩
 have hfn:fine rs:=fun r hr=>⟨by have:=(hc.rules r hr).byL;omega,hf r hr⟩
 intro d
 induction d with
 | zero =>
   intro i K s1 s2 s5 s6 s7 s8 s9 a b c f g h j l m n o p s t u w x y z A B C D E F G I J L M N O Q R S U V W Y Z aa ab ac ad ae af ag ah ai aj ak al am an ao ap aq ar au av aw hi hp
   have hi2:i=2:=by omega
   subst hi2
   have hvK:=hv.pre hp
   have hmK:=hm.pre hp
   have hn:MutesAt K (.slice none 0 0) []:=⟨.nil,by simp⟩
   have b1:=cfgR hmK.one rs
   have b2:=cfgR hvK.one rs
   rw [L3x0q]
   refine bnd_of (v:=.bool false) (by simp) ?_
   dsimp only
   rw [kifB_false]
   refine bndC_of (c_unlike (hg.trans hp) hmK (by omega) hfn) ?_
   refine bndC_of (r_unlike hvK ht (by omega)) ?_
   refine bnd_of (v:=.bool true) (by rw [aBin_beql (by simp)];simp) ?_
   simp [b1,b2]
   refine bndG_t (.bool true) K (r_sameCfg hmK hvK hn hn hc) ?_
   simp
   exact hk K hp
 | succ d ih =>
   intro i K s1 s2 s5 s6 s7 s8 s9 a b c f g h j l m n o p s t u w x y z A B C D E F G I J L M N O Q R S U V W Y Z aa ab ac ad ae af ag ah ai aj ak al am an ao ap aq ar au av aw hi hp
   have hlenv:=fun K=>hv.lenR K
   rw [L3x0q]
   refine bnd_of (v:=.bool true) (by simp;omega) ?_
   dsimp only
   rw [kifB_true]
   obtain ⟨ov,K1,a1,a2,a3⟩:=c_all (hg.trans hp) (hm.pre hp) (by omega) hfn
   refine bndC_of a1 ?_
   have hlen:=a3.arr.len (P:=prog) (T:=28) (e:=30) (by simp)
   simp [nCells] at hlen
   refine bnd_of hlen ?_
   refine bnd_of (hlenv K1) ?_
   refine bnd_of (v:=.bool false) (by simp) ?_
   dsimp only
   rw [kifB_false]
   have hgo:Gro K1 H.length 1 30 ov (nCells (rs.map fingF)):=a3.wk (by obtain ⟨X,rfl⟩:=hp;simp)
   exact ⟨rs.length+1,fall_x1 hg hv hm ht hl (i:=i) (by omega) (fun K hK s1 s2 s5 s6 s7 s8 s9 a b c f g h j l m n o p s t u w x y z A B C D E F G I J L M N O Q R S U V W Y Z aa ab ac ad ae af ag ah ai aj ak al am an ao ap aq ar au av aw=>ih (i+1) K _ _ _ _ _ _ _ _ _ _ _ _ _ _ _ _ _ _ _ _ _ _ _ _ _ _ _ _ _ _ _ _ _ _ _ _ _ _ _ _ _ _ _ _ _ _ _ _ _ _ _ _ _ _ _ _ _ _ _ _ _ _ _ _ _ _ _ _ (by omega) hK) rs.length 0 K1 (rs.map fingF) _ _ _ _ _ _ _ _ _ _ _ _ _ _ _ _ _ _ _ _ _ _ _ _ _ _ _ _ _ _ _ _ _ _ _ _ _ _ _ _ _ _ _ _ _ _ _ _ _ _ _ _ _ _ _ _ _ _ _ _ _ _ _ _ _ _ (by omega) (hp.trans a2) hgo (fun q _=>rfl)⟩
theorem w_fall (hg:Pw H) (hv:RulesAt H v rs) (hw:∀ r∈rs,(∀ n∈r.nodes,n.window < 2 ^ 63)∧r.fit):ACalls prog 3 [v] H (.bool true) H:=by
 refine acalls_pure MixT func3 (by decide) rfl ?_
 obtain ⟨k,hk0⟩:∃ k:Value→AHeap→Prop,k=fun u H2=>u=Value.bool true∧∃ X,H2=H++X:=⟨_,rfl⟩
 rw [← hk0]
 have hk:∀ M,Pre H M→k (.bool true) M:=fun M p=>by rw [hk0];exact ⟨rfl,p⟩
 clear hk0
 have b2:=cfgR hv.one rs
 have hn:MutesAt H (.slice none 0 0) []:=⟨.nil,by simp⟩
 rw [d3]
 refine bnd_of b2 ?_
 obtain ⟨t,htm,hcall⟩:=c_BBig (c:=⟨rs,[],0,0⟩) hv (fun r hr=>(hw r hr).1) hn
 refine bndC_of hcall ?_
 cases t with
 | true =>
   simp
   exact hk H (.refl H)
 | false =>
   have ht:=htm rfl
   dsimp only
   rw [kifB_false]
   refine bnd_of b2 ?_
   obtain ⟨rv',mv',K2,g1,g2,g3,g4⟩:=c_copyCfg (c:=⟨rs,[],0,0⟩) hv hn ht.small
   refine bndC_of g1 ?_
   have o1:=g3.atR.one
   have o2:=g4.one
   refine bnd_of (v:=rv') (by simp [aField,aPart,Cfg.cells]) ?_
   exact ⟨3,fall_x0 (hg.trans g2) (hv.pre g2) g3.atR ht (fun r hr=>(hw r hr).2) (fun K p=>hk K (g2.trans p)) 2 0 K2 _ _ _ _ _ _ _ _ _ _ _ _ _ _ _ _ _ _ _ _ _ _ _ _ _ _ _ _ _ _ _ _ _ _ _ _ _ _ _ _ _ _ _ _ _ _ _ _ _ _ _ _ _ _ _ _ _ _ _ _ _ _ _ _ _ _ _ _ rfl (.refl _)⟩
end
end Go.Vi
