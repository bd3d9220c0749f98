/- All tokens: the iterator, and the range over it. The reader of conditions: tokens. Numbers' texts. Reading a condition. Numbers' texts that are refused. Numbers are written: how many digits there are. What the functions' bodies come to. Numbers are written: digits. Numbers are written: their texts. Numbers are written: Itoa, TrimRight, fixed.Print. strings.Builder grows ahead; strings.Join. Matchers are written. Matchers are written: the loop. Conditions are written. -/
import Derived.Test.YtpkdgmcfojjfjaaGreatDoorJFingerText3
import Derived.Test.YtpkdgmcfojjfjaaGreatDoorJFingerText2
import Derived.Test.YtpkdgmcfojjfjaaGreatDoorChecked
namespace Go.Vi
open Go Go.Proofs Go.Proofs.Tryz
def lexF (l:List UInt8):Nat→Nat→List Tok × Option Nat
 | 0,_=>([],none)
 | f + 1, a => if a < l.length then
     (if (oneF (l.drop a) a).2=0 then ([],some a)
      else ((oneF (l.drop a) a).1 :: (lexF l f (skipN l (a+(oneF (l.drop a) a).2))).1,(lexF l f (skipN l (a+(oneF (l.drop a) a).2))).2))
   else ([],none)
theorem oneF_le (s:List UInt8) (a:Nat):(oneF s a).2≤s.length:=by
 unfold oneF
 cases s with
 | nil=>simp
 | cons b r =>
   simp only
   split
   · exact runF_le _ _
   · split
     · exact numLen_le _
     · split
       · have:=textF_len r.length r [] 1 (Nat.le_refl _);simp;omega
       · exact signF_le (b :: r)
theorem skipN_ge (l:List UInt8) (a:Nat):a≤skipN l a:=by unfold skipN;omega
theorem tell_loop {l:List UInt8} {sp:Nat} {rb:Nat} {J:List Tok→AHeap→Prop} {Jx:Nat→AHeap→Prop} {k:Value→AHeap→Prop} (hl:l.length≤4096)
  (hJs:∀ ts K,J ts K→hcells K sp=some [str l]) (hJr:∀ ts K,J ts K→∃ r,K[rb]?=some (.loop r)) (hJa:∀ ts K X,J ts K→J ts (K++X))
  (hy:∀ ts t K,J ts K→ts.length < 4096→∃ K',AYields prog rb [.agg (Tok.cells t).toArray,i64 0] K (.bool true) K'∧J (ts++[t]) K')
  (hx:∀ ts (a:Nat) K,J ts K→∃ K',AYields prog rb [.agg (Tok.cells ⟨0,[],a⟩).toArray,i64 90] K (.bool false) K'∧Jx a K')
  (w:List Tok × Option Nat) (hk1:∀ K,w.2=none→J w.1 K→k (.tuple #[]) K) (hk2:∀ K a,w.2=some a→Jx a K→k (.tuple #[]) K) :
  ∀ (f : Nat) (a : Nat) (ts : List Tok) (K : AHeap) (Q R S T U V W b c d e g i j m p q s u v x y z A B C D E F G H I L M N O P : Value), l.length - a ≤ f → a ≤ l.length → ts.length ≤ a → J ts K → w = (ts ++ (lexF l f a).1, (lexF l f a).2) →
    L64x0 (f+1) k [yval rb,.pointer (some ⟨sp,0,some 1⟩),Q,i64 a,R,S,T,U,V,W,b,c,d,e,g,i,j,m,p,q,s,u,v,x,y,z,A,B,C,D,E,F,G,H,I,L,M,N,O,P] K:=by
 intro f
 induction f with
 | zero =>
   intro a ts K Q R S T U V W b c d e g i j m p q s u v x y z A B C D E F G H I L M N O P hf ha hts hJ hw
   have hc:=hJs ts K hJ
   rw [L64x0q]
   have:¬ a < l.length:=by omega
   simp [hc,this]
   refine hk1 K ?_ ?_
   · rw [hw];rfl
   · rw [hw];simpa [lexF] using hJ
 | succ f ih =>
   intro a ts K Q R S T U V W b c d e g i j m p q s u v x y z A B C D E F G H I L M N O P hf ha hts hJ hw
   have hc:=hJs ts K hJ
   rw [L64x0q]
   by_cases hlt:a < l.length
   · simp [hc,hlt]
     refine bndC_of (c_one (by omega) hlt) ?_
     have hle:=oneF_le (l.drop a) a
     rw [List.length_drop] at hle
     rw [lexF,if_pos hlt] at hw
     generalize oneF (l.drop a) a=o at hw hle ⊢
     obtain ⟨t,n⟩:=o
     simp only at hw hle
     simp [Tok.cells]
     refine kifB_bool (fun h=>?_) (fun h=>?_)
     · have hn:n=0:=by simpa using h
       rw [if_pos hn] at hw
       obtain ⟨K',q1,q2⟩:=hx ts a _ (hJa ts K [.cells t.cells 70] hJ)
       simp
       refine bndV_yield (hJr ts _ (hJa ts K _ hJ)) (by simpa [Tok.cells] using q1) ?_
       exact hk2 K' a (by rw [hw]) q2
     · have hn:n≠0:=by simpa using h
       rw [if_neg hn] at hw
       obtain ⟨K',q1,q2⟩:=hy ts t _ (hJa ts K [.cells t.cells 70] hJ) (by omega)
       simp
       refine bndV_yield (hJr ts _ (hJa ts K _ hJ)) (by simpa [Tok.cells] using q1) ?_
       have hc':=hJs _ K' q2
       have hwr:IntKind.i64.wrap ((a:Int)+n)=((a+n:Nat):Int):=by rw [wrap_i64 (by omega) (by omega)];simp
       simp only [unV_not,bnd_some,Bool.not_true,kifB_false,aBin_add,hwr]
       simp [hc']
       refine bndC_of (c_skip (by omega) (by omega)) ?_
       have h1:=skipN_le (l:=l) (a:=a+n) (by omega)
       have h2:=skipN_ge l (a+n)
       exact ih (skipN l (a+n)) (ts++[t]) K' _ _ _ _ _ _ _ _ _ _ _ _ _ _ _ _ _ _ _ _ _ _ _ _ _ _ _ _ _ _ _ _ _ _ _ _ _ (by omega) h1 (by simp;omega) q2 (by rw [hw];simp)
   · rw [lexF,if_neg hlt] at hw
     simp [hc,hlt]
     refine hk1 K ?_ ?_
     · rw [hw]
     · rw [hw];simpa using hJ
theorem c_tell (H:AHeap) (l:List UInt8):ACalls prog 39 [str l] H (.func (.func 64) #[] #[.pointer (some ⟨H.length,0,some 1⟩)]) (H++[.cells [str l] 9]):=by
 refine acalls_of MixT func39 (by decide) ?_
 rw [d39]
 simp [aNew]
def allTok (l:List UInt8):List Tok × Nat × Int :=
 if 4096 < l.length then ([],0,3) else match (lexF l (l.length+1) (skipN l 0)).2 with
  | none=>((lexF l (l.length+1) (skipN l 0)).1,0,0)
  | some a=>([],a,90)
theorem c_tell1 {l:List UInt8} {sp:Nat} {rb:Nat} {J:List Tok→AHeap→Prop} {Jx:Nat→Int→AHeap→Prop} {K:AHeap} 
  (hJs:∀ ts K,J ts K→hcells K sp=some [str l]) (hJr:∀ ts K,J ts K→∃ r,K[rb]?=some (.loop r)) (hJa:∀ ts K X,J ts K→J ts (K++X))
  (hy:∀ ts t K,J ts K→ts.length < 4096→∃ K',AYields prog rb [.agg (Tok.cells t).toArray,i64 0] K (.bool true) K'∧J (ts++[t]) K')
  (hx:∀ ts (a:Nat) (e:Int) K,e≠0→J ts K→∃ K',AYields prog rb [.agg (Tok.cells ⟨0,[],a⟩).toArray,i64 e] K (.bool false) K'∧Jx a e K') (hJ:J [] K) :
  ∃ v K',(((allTok l).2.2=0∧J (allTok l).1 K')∨((allTok l).1=[]∧(allTok l).2.2≠0∧Jx (allTok l).2.1 (allTok l).2.2 K'))∧ACalls prog 64 [yval rb,.pointer (some ⟨sp,0,some 1⟩)] K v K':=by
 refine acalls_ex MixT func64 (by decide) ?_
 rw [d64]
 have hc:=hJs [] K hJ
 by_cases h4:4096 < l.length
 · have h4I:(4096:Int) < l.length:=by omega
   simp [hc,h4I]
   obtain ⟨K',q1,q2⟩:=hx [] 0 3 K (by simp) hJ
   refine bndV_yield (hJr [] K hJ) (by simpa [Tok.cells] using q1) ?_
   right
   simp [allTok,h4]
   exact q2
 · have h4I:¬ (4096:Int) < l.length:=by omega
   simp [hc,h4I]
   have hs:=c_skip (H:=K) (l:=l) (a:=0) (by omega) (by omega)
   rw [show ((0:Nat):Int)=0 from rfl] at hs
   refine bndC_of hs ?_
   have h1:=skipN_le (l:=l) (a:=0) (by omega)
   refine ⟨l.length+1+1,tell_loop (J:=J) (Jx:=fun a K=>Jx a 90 K) (by omega) hJs hJr hJa hy (fun ts a K h=>hx ts a 90 K (by simp) h) (lexF l (l.length+1) (skipN l 0)) ?_ ?_ (l.length+1) (skipN l 0) [] K _ _ _ _ _ _ _ _ _ _ _ _ _ _ _ _ _ _ _ _ _ _ _ _ _ _ _ _ _ _ _ _ _ _ _ _ _ (by omega) h1 (by simp) hJ (by simp)⟩
   · intro K' e1 e2
     left
     simp [allTok,h4,e1]
     exact e2
   · intro K' a e1 e2
     right
     simp [allTok,h4,e1]
     exact e2
def ToksAt (H:AHeap) (v:Value) (ts:List Tok):Prop:=Arr H 3 v (ts.map Tok.cells)
structure AllJ (H:AHeap) (l:List UInt8) (sl:List Value) (ps:Array Tmp) (assign body:Code) (ts:List Tok) (K:AHeap):Prop where
 pre:Pre H K
 len:H.length+7≤K.length
 r1:K[H.length]?=some (.cells [.slice none 0 0] 23)
 r2:K[H.length+1]?=some (.cells [i64 0] 3)
 r3:K[H.length+2]?=some (.cells [i64 0] 24)
 r4:∃ lv,K[H.length+3]?=some (.cells [lv] 23)∧Gro K (H.length+7) 3 70 lv (ts.map Tok.cells)
 r5:K[H.length+4]?=some (.cells [str l] 9)
 r6:K[H.length+5]?=some (.loop .blk)
 r7:K[H.length+6]?=some (.loop (.run sl ps assign body .ready none))
theorem AllJ.app {H l sl ps assign body ts K} (h:AllJ H l sl ps assign body ts K) (X:AHeap):AllJ H l sl ps assign body ts (K++X):=by
 obtain ⟨lv,g1,g2⟩:=h.r4
 exact ⟨h.pre.more X,by have:=h.len;simp;omega,get_more h.r1,get_more h.r2,get_more h.r3,⟨lv,get_more g1,g2.app⟩,get_more h.r5,get_more h.r6,get_more h.r7⟩
structure AllX (H:AHeap) (sl:List Value) (ps:Array Tmp) (assign body:Code) (a:Nat) (e:Int) (K:AHeap):Prop where
 pre:Pre H K
 r1:K[H.length]?=some (.cells [.slice none 0 0] 23)
 r2:K[H.length+1]?=some (.cells [i64 a] 3)
 r3:K[H.length+2]?=some (.cells [i64 e] 24)
 r6:K[H.length+5]?=some (.loop .blk)
 r7:K[H.length+6]?=some (.loop (.run sl ps assign body .done (some .ret)))
noncomputable abbrev allA:Code:=cl (cl (cr (cl (cr (cr (cb Tryz.f16))))))
noncomputable abbrev allB:Code:=cr (cl (cr (cl (cr (cr (cb Tryz.f16))))))
def allSl (H:AHeap) (l:List UInt8) (fv:Value):List Value:=[str l,undef,.pointer (some ⟨H.length,0,some 1⟩),.pointer (some ⟨H.length+1,0,some 1⟩),.pointer (some ⟨H.length+2,0,some 1⟩),.pointer (some ⟨H.length+3,0,some 1⟩),undef,undef,str l,fv,undef,undef,undef,undef,undef,undef,undef,undef,undef,undef,undef,undef]
theorem tel1:aElem prog 23=some (70,3,32):=by kernel_rfl
theorem tel2:isSeq prog 23=true:=by kernel_rfl
theorem all_yield {H:AHeap} {l:List UInt8} {fv:Value} {ts:List Tok} {t:Tok} {K:AHeap} (hJ:AllJ H l (allSl H l fv) #[10,11] allA allB ts K) (hts:ts.length < 4096) :
  ∃ K',AYields prog (H.length+6) [.agg t.cells.toArray,i64 0] K (.bool true) K'∧AllJ H l (allSl H l fv) #[10,11] allA allB (ts++[t]) K':=by
 have key:∃ v K',(v=.bool true∧AllJ H l (allSl H l fv) #[10,11] allA allB (ts++[t]) K')∧AYields prog (H.length+6) [.agg t.cells.toArray,i64 0] K v K':=by
  refine ayields_ex MixT ?_
  unfold kround
  have h7:=hJ.r7
  rw [h7]
  refine ⟨rfl,?_⟩
  have hsl:yput (allSl H l fv) (#[10,11]:Array Tmp).toList [.agg t.cells.toArray,i64 0]=[str l,undef,.pointer (some ⟨H.length,0,some 1⟩),.pointer (some ⟨H.length+1,0,some 1⟩),.pointer (some ⟨H.length+2,0,some 1⟩),.pointer (some ⟨H.length+3,0,some 1⟩),undef,undef,str l,fv,.agg t.cells.toArray,i64 0,undef,undef,undef,undef,undef,undef,undef,undef,undef,undef]:=rfl
  rw [hsl,R16x0A]
  simp [Tok.cells]
  refine ⟨get_more h7,?_⟩
  rw [R16x0B]
  have hKl:=hJ.len
  generalize hB:AObj.loop (.run (allSl H l fv) #[10,11] allA allB .busy none)=bus
  generalize hK1:(K++[AObj.cells [.int .u8 t.kind,str t.text,i64 t.at'] 70]).set (H.length+6) bus=K1
  have hL1:K1.length=K.length+1:=by rw [← hK1];simp
  have hget:∀ (b:Nat) (o:AObj),b≠H.length+6→K[b]?=some o→K1[b]?=some o:=fun b o hb ho=>by rw [← hK1,List.getElem?_set_ne (by omega)];exact get_more ho
  have hx:K1[K.length]?=some (.cells [.int .u8 t.kind,str t.text,i64 t.at'] 70):=by rw [← hK1,List.getElem?_set_ne (by omega)];simp
  have hbus:K1[H.length+6]?=some bus:=by rw [← hK1];rw [List.getElem?_set_self (by simp;omega)]
  obtain ⟨lv,g1,g2⟩:=hJ.r4
  have g1':=hget _ _ (by omega) g1
  have g2':Gro K1 (H.length+7) 3 70 lv (ts.map Tok.cells):=by rw [← hK1];exact g2.app.set (by omega)
  have hc1:hcells K1 (H.length+3)=some [lv]:=by simp [hcells,g1']
  have hc2:hcells K1 K.length=some [.int .u8 t.kind,str t.text,i64 t.at']:=by simp [hcells,hx]
  simp [hc1,hc2]
  have hlit:=sliceLitA (c:=t.cells) (tbs23 K1 1 _) (by rfl) (by simp [Tok.cells]) (by simp)
  simp only [Tok.cells,List.length_cons,List.length_nil] at hlit
  refine bndL_lit hlit ?_
  have hp1:Pre H K1:=by rw [← hK1];exact (hJ.pre.more _).set (by omega)
  have g2'':=g2'.app (X:=[AObj.cells [.int .u8 t.kind,str t.text,i64 t.at'] 70])
  obtain ⟨v',K2,p1,p2,p3,p4,p5⟩:=Gro.push (P:=prog) (Ts:=23) (by_:=32) (x:=.slice (some ⟨K1.length,0,some 3⟩) 1 1) (c:=t.cells) g2'' tel1 tel2 (by rfl) (by simp;omega) (by simp [aSrc,Tok.cells]) (by simp;omega) (by simp;omega)
  have p6:=p3 (H.length+3) _ (by omega) (get_more g1')
  have hv1:v'.oneCell'=true:=p2.one
  simp [p1,p6,Gro.cells p2,Gro.stor p2]
  have hj:jumpOf AExit.normal=none:=rfl
  have hL2:K1.length < K2.length:=by have:=p4;simp at this;omega
  refine ⟨p3 _ _ (by omega) (get_more hbus),hj,?_⟩
  simp only [hj,if_true]
  have hg:∀ (b:Nat) (o:AObj) (x y:AObj),b < H.length+7→b≠H.length+6→b≠H.length+3→K[b]?=some o→((K2.set (H.length+3) x).set (H.length+6) y)[b]?=some o:=fun b o x y h1 h2 h3 h4=>by
   rw [List.getElem?_set_ne (by omega),List.getElem?_set_ne (by omega)]
   exact p3 _ _ h1 (get_more (hget _ _ h2 h4))
  refine ⟨((p5 H (hp1.more _) (by omega)).set (by omega)).set (by omega),by simp;omega,hg _ _ _ _ (by omega) (by omega) (by omega) hJ.r1,hg _ _ _ _ (by omega) (by omega) (by omega) hJ.r2,hg _ _ _ _ (by omega) (by omega) (by omega) hJ.r3,⟨v',?_,?_⟩,hg _ _ _ _ (by omega) (by omega) (by omega) hJ.r5,hg _ _ _ _ (by omega) (by omega) (by omega) hJ.r6,?_⟩
  · rw [List.getElem?_set_ne (by omega),List.getElem?_set_self (by omega)]
  · rw [List.map_append]
    exact (p2.set (by omega)).set (by omega)
  · rw [List.getElem?_set_self (by simp;omega)]
 obtain ⟨v,K',⟨rfl,h⟩,hy⟩:=key
 exact ⟨K',hy,h⟩
theorem all_err {H:AHeap} {l:List UInt8} {fv:Value} {ts:List Tok} {a:Nat} {e:Int} {K:AHeap} (he:e≠0) (hJ:AllJ H l (allSl H l fv) #[10,11] allA allB ts K) :
  ∃ K',AYields prog (H.length+6) [.agg (Tok.cells ⟨0,[],a⟩).toArray,i64 e] K (.bool false) K'∧AllX H (allSl H l fv) #[10,11] allA allB a e K':=by
 have key:∃ v K',(v=.bool false∧AllX H (allSl H l fv) #[10,11] allA allB a e K')∧AYields prog (H.length+6) [.agg (Tok.cells ⟨0,[],a⟩).toArray,i64 e] K v K':=by
  refine ayields_ex MixT ?_
  unfold kround
  have h7:=hJ.r7
  rw [h7]
  refine ⟨rfl,?_⟩
  have hsl:yput (allSl H l fv) (#[10,11]:Array Tmp).toList [.agg (Tok.cells ⟨0,[],a⟩).toArray,i64 e]=[str l,undef,.pointer (some ⟨H.length,0,some 1⟩),.pointer (some ⟨H.length+1,0,some 1⟩),.pointer (some ⟨H.length+2,0,some 1⟩),.pointer (some ⟨H.length+3,0,some 1⟩),undef,undef,str l,fv,.agg (Tok.cells ⟨0,[],a⟩).toArray,i64 e,undef,undef,undef,undef,undef,undef,undef,undef,undef,undef]:=rfl
  rw [hsl,R16x0A]
  simp [Tok.cells]
  refine ⟨get_more h7,?_⟩
  rw [R16x0B]
  have hKl:=hJ.len
  have heb:(e != 0)=true:=by simpa using he
  simp
  generalize hB:AObj.loop (.run (allSl H l fv) #[10,11] allA allB .busy none)=bus
  generalize hK1:(K++[AObj.cells [.int .u8 0,str [],i64 a] 70]).set (H.length+6) bus=K1
  have hL1:K1.length=K.length+1:=by rw [← hK1];simp
  have hget:∀ (b:Nat) (o:AObj),b≠H.length+6→K[b]?=some o→K1[b]?=some o:=fun b o hb ho=>by rw [← hK1,List.getElem?_set_ne (by omega)];exact get_more ho
  have hx:K1[K.length]?=some (.cells [.int .u8 0,str [],i64 a] 70):=by rw [← hK1,List.getElem?_set_ne (by omega)];simp
  have hc2:hcells K1 K.length=some [.int .u8 0,str [],i64 a]:=by simp [hcells,hx]
  have q1:=hget _ _ (by omega) hJ.r1
  have q2:=hget _ _ (by omega) hJ.r2
  have q3:=hget _ _ (by omega) hJ.r3
  have q6:=hget _ _ (by omega) hJ.r6
  have hl2:hlen K1 K.length=some 3:=by simp [hlen,hx]
  rw [heb]
  simp [hc2,hl2]
  have hs1:aStore prog K1 23 (.pointer (some ⟨H.length,0,some 1⟩)) (.slice none 0 0)=some K1:=by
   simp [q1]
   exact set_same q1
  refine bndD_of ⟨rfl,hs1⟩ (.inr ⟨[],by simp⟩) ?_
  refine bndD_of (v:=undef) (H':=K1.set (H.length+1) (.cells [i64 a] 3)) ⟨rfl,by simp [q2]⟩ (.inl rfl) ?_
  have hne:∀ (b c:Nat) (x:AObj),b≠c→(K1.set b x)[c]?=K1[c]?:=fun b c x h=>List.getElem?_set_ne h
  refine bndD_of (v:=undef) (H':=(K1.set (H.length+1) (.cells [i64 a] 3)).set (H.length+2) (.cells [i64 e] 24)) ⟨rfl,by simp [q3,hne]⟩ (.inl rfl) ?_
  simp
  have hj:jumpOf AExit.ret=some .ret:=rfl
  have hbus:K1[H.length+6]?=some bus:=by rw [← hK1];rw [List.getElem?_set_self (by simp;omega)]
  have hp1:Pre H K1:=by rw [← hK1];exact (hJ.pre.more _).set (by omega)
  refine ⟨hbus,by rw [hj];rfl,?_⟩
  simp only [hj,reduceCtorEq,if_false]
  refine ⟨((hp1.set (by omega)).set (by omega)).set (by omega),?_,?_,?_,?_,?_⟩
  · simp [q1]
  · rw [List.getElem?_set_ne (by omega),List.getElem?_set_ne (by omega),List.getElem?_set_self (by omega)]
  · rw [List.getElem?_set_ne (by omega),List.getElem?_set_self (by simp;omega)]
  · simp [q6]
  · rw [List.getElem?_set_self (by simp;omega)]
 obtain ⟨v,K',⟨rfl,h⟩,hy⟩:=key
 exact ⟨K',hy,h⟩
theorem allTok_zero {l:List UInt8} (h:(allTok l).2.2=0):(allTok l).2.1=0:=by
 unfold allTok at *
 by_cases h4:4096 < l.length
 · simp [h4] at h
 · rw [if_neg h4] at h ⊢
   split at h<;>first | rfl | simp at h
theorem c_lexAll (H:AHeap) (l:List UInt8):∃ v K',(∃ lv,v=.tuple #[lv,i64 (allTok l).2.1,i64 (allTok l).2.2]∧Pre H K'∧ToksAt K' lv (allTok l).1)∧ACalls prog 16 [str l] H v K':=by
 refine acallsG_ex MixT func16 (by decide) ?_
 rw [d16]
 simp
 refine bndC_of (c_tell _ _) ?_
 simp [krange]
 refine ⟨by kernel_rfl,?_⟩
 rw [show H.length+5+1=H.length+6 from rfl]
 generalize hfv:Value.func (Fn.func 64) #[] #[Value.pointer (some { block:=H.length+4,off:=0,spot:=some 1 })]=fv
 generalize hK0:(H++_:AHeap)=K0
 have hJ:AllJ H l (allSl H l fv) #[10,11] allA allB [] K0:=by
  subst hK0
  refine ⟨.app _ _,by simp,?_,?_,?_,⟨_,?_,.nil⟩,?_,?_,?_⟩<;>simp<;>rfl
 obtain ⟨v,K',hd,hc⟩:=c_tell1 (l:=l) (sp:=H.length+4) (rb:=H.length+6) (J:=fun ts K=>AllJ H l (allSl H l fv) #[10,11] allA allB ts K) (Jx:=fun a e K=>AllX H (allSl H l fv) #[10,11] allA allB a e K)
  (fun ts K h=>by simp [hcells,h.r5]) (fun ts K h=>⟨_,h.r7⟩) (fun ts K X h=>h.app X) (fun ts t K h ht=>all_yield h ht) (fun ts a e K he h=>all_err he h) hJ
 refine ⟨v,K',hc,?_⟩
 rcases hd with ⟨e0,h⟩ | ⟨e1,e0,h⟩
 · obtain ⟨lv,g1,g2⟩:=h.r4
   have hL:=h.len
   have hne:∀ (b c:Nat) (x:AObj) (K:AHeap),b≠c→(K.set b x)[c]?=K[c]?:=fun b c x K h=>List.getElem?_set_ne h
   have hnc:∀ (b c:Nat) (x:AObj) (K:AHeap),b≠c→hcells (K.set b x) c=hcells K c:=fun b c x K h=>by rw [hcells_eq,hcells_eq,hne _ _ _ _ h]
   have c1:hcells K' (H.length+3)=some [lv]:=by simp [hcells_eq,g1]
   have hst:=g2.stor
   unfold rngEnd
   simp [h.r7,kjump,allSl]
   rw [R16x0n]
   have hself0:∀ X (cs:List Value) (T:TypeId),hcells ((K'.set (H.length+6) X).set H.length (.cells cs T)) H.length=some cs:=fun X cs T=>by
    rw [hcells_eq,List.getElem?_set_self (by simp;omega)];rfl
   have hself1:∀ X Y (cs:List Value) (T:TypeId),hcells (((K'.set (H.length+6) X).set H.length Y).set (H.length+1) (.cells cs T)) (H.length+1)=some cs:=fun X Y cs T=>by
    rw [hcells_eq,List.getElem?_set_self (by simp;omega)];rfl
   have hself2:∀ X Y Z (cs:List Value) (T:TypeId),hcells ((((K'.set (H.length+6) X).set H.length Y).set (H.length+1) Z).set (H.length+2) (.cells cs T)) (H.length+2)=some cs:=fun X Y Z cs T=>by
    rw [hcells_eq,List.getElem?_set_self (by simp;omega)];rfl
   simp [hne,hnc,hself0,hself1,hself2,c1,h.r1,h.r2,h.r3,h.r6,g2.cells,hst]
   exact ⟨lv,⟨rfl,by rw [allTok_zero e0];rfl,e0.symm⟩,((((h.pre.set (by omega)).set (by omega)).set (by omega)).set (by omega)).set (by omega),(((((g2.set (by omega)).set (by omega)).set (by omega)).set (by omega)).set (by omega)).arr⟩
 · have hne:∀ (b c:Nat) (x:AObj) (K:AHeap),b≠c→(K.set b x)[c]?=K[c]?:=fun b c x K h=>List.getElem?_set_ne h
   have hnc:∀ (b c:Nat) (x:AObj) (K:AHeap),b≠c→hcells (K.set b x) c=hcells K c:=fun b c x K h=>by rw [hcells_eq,hcells_eq,hne _ _ _ _ h]
   have c1:hcells K' (H.length)=some [.slice none 0 0]:=by simp [hcells_eq,h.r1]
   have c2:hcells K' (H.length+1)=some [i64 (allTok l).2.1]:=by simp [hcells_eq,h.r2]
   have c3:hcells K' (H.length+2)=some [i64 (allTok l).2.2]:=by simp [hcells_eq,h.r3]
   unfold rngEnd
   simp [h.r7,kjump,allSl]
   rw [R16x0r]
   simp [hne,hnc,c1,c2,c3,h.r6,e1]
   exact ⟨(h.pre.set (by omega)).set (by omega),.nil⟩
end Go.Vi
namespace Go.Vi
open Go Go.Proofs Go.Proofs.Tryz
@[simp] theorem nilV_ptr (b o m:Nat):nilV (.pointer (some ⟨b,o,some m⟩))=some (.pointer (some ⟨b,o,some m⟩)):=rfl
def rdo (lv:Value) (a:Nat) (ok:Bool):AObj:=.cells [lv,i64 a,.bool ok] 81
structure RdA (H K:AHeap) (rb:Nat) (lv:Value) (ts:List Tok) (a:Nat) (ok:Bool):Prop where
 toks:ToksAt H lv ts
 pre:Pre H K
 hb:H.length≤rb
 cell:K[rb]?=some (rdo lv a ok)
 len:ts.length < 2 ^ 40
 le:a≤ts.length
def isT (ts:List Tok) (a:Nat) (k:Int) (s:List UInt8):Bool:=(ts[a]?).any fun t=>t.kind == k && t.text == s
theorem RdA.lt {H K rb lv ts a ok} (h:RdA H K rb lv ts a ok):rb < K.length:=(List.getElem?_eq_some_iff.1 h.cell).1
theorem RdA.app {H K rb lv ts a ok} (h:RdA H K rb lv ts a ok) (X:AHeap):RdA H (K++X) rb lv ts a ok:=⟨h.toks,h.pre.more X,h.hb,get_more h.cell,h.len,h.le⟩
theorem RdA.put {H K rb lv ts a ok} (h:RdA H K rb lv ts a ok) (a':Nat) (ok':Bool) (ha:a'≤ts.length):RdA H (K.set rb (rdo lv a' ok')) rb lv ts a' ok' :=
 ⟨h.toks,h.pre.set h.hb,h.hb,by rw [List.getElem?_set_self h.lt],h.len,ha⟩
theorem toksAt_at {K:AHeap} {lv:Value} {ts:List Tok} {a:Nat} {t:Tok} (h:ToksAt K lv ts) (ht:ts[a]?=some t) :
  ∃ p q r,aIndexAddr prog K 23 lv (i64 a)=some p∧aFieldAddr prog K 70 p 0=some q∧aLoad prog K 5 q=some (.int .u8 t.kind)∧aFieldAddr prog K 70 p 1=some r∧aLoad prog K 9 r=some (str t.text):=by
 have hi:(ts.map Tok.cells)[a]?=some t.cells:=by simp [ht]
 obtain ⟨p,q,h1,h2,h3⟩:=h.field (P:=prog) (T:=23) (te:=70) (f:=0) (d:=0) (ft:=5) (by simp) (by simp) (by simp) (by simp) (by simp) hi rfl
 obtain ⟨p',r,h4,h5,h6⟩:=h.field (P:=prog) (T:=23) (te:=70) (f:=1) (d:=1) (ft:=9) (by simp) (by simp) (by simp) (by simp) (by simp) hi rfl
 rw [h1] at h4
 cases h4
 exact ⟨p,q,r,h1,h2,h3,h5,h6⟩
theorem c_is {H K rb lv ts a ok} (h:RdA H K rb lv ts a ok) (k:Int) (s:List UInt8) :
  ACalls prog 104 [(Value.pointer (some ⟨rb,0,some 3⟩)),.int .u8 k,str s] K (.bool (ok && isT ts a k s)) K:=by
 refine acalls_pure MixT func104 (by decide) rfl ?_
 rw [d104]
 have hc:=h.cell
 have hcc:hcells K rb=some [lv,i64 a,.bool ok]:=by simp [hcells_eq,hc,rdo]
 have hll:hlen K rb=some 3:=by simp [hlen,hc,rdo]
 have hl:=(h.toks.pre h.pre).len (P:=prog) (T:=23) (e:=70) (by simp)
 simp at hl
 cases ok with
 | false=>simp [hcc,hll]
 | true =>
   simp [hcc,hll,hl]
   by_cases ha:a < ts.length
   · obtain ⟨t,ht⟩:∃ t,ts[a]?=some t:=⟨_,List.getElem?_eq_getElem ha⟩
     obtain ⟨p,q,r,e1,e2,e3,e4,e5⟩:=toksAt_at (h.toks.pre h.pre) ht
     have hT:isT ts a k s=(t.kind == k && t.text == s):=by simp [isT,ht]
     rw [hT]
     simp [ha,hcc,hll,e1,e2,e3]
     by_cases hk:(t.kind == k)=true
     · simp [hk,hcc,hll,e1,e4,e5]
       exact Bool.eq_iff_iff.2 (by simp)
     · simp only [Bool.not_eq_true] at hk
       simp [hk]
   · simp [ha,isT]
theorem isT_lt {ts a k s} (h:isT ts a k s=true):a < ts.length:=by
 unfold isT at h
 by_cases ha:a < ts.length
 · exact ha
 · rw [List.getElem?_eq_none (by omega)] at h;cases h
theorem c_takes_y {H K rb lv ts a} (h:RdA H K rb lv ts a true) {k:Int} {s:List UInt8} (ht:isT ts a k s=true) :
  ACalls prog 68 [(Value.pointer (some ⟨rb,0,some 3⟩)),.int .u8 k,str s] K (.bool true) (K.set rb (rdo lv (a+1) true)):=by
 refine acalls_of MixT func68 (by decide) ?_
 rw [d68]
 refine bndC_of (c_is h k s) ?_
 have hlt:=isT_lt ht
 have hc:=h.cell
 have hcc:hcells K rb=some [lv,i64 a,.bool true]:=by simp [hcells_eq,hc,rdo]
 have hll:hlen K rb=some 3:=by simp [hlen,hc,rdo]
 have hw:IntKind.i64.wrap ((a:Int)+1)=(a:Int)+1:=wrap_i64 (by omega) (by have:=h.len;omega)
 simp only [rdo] at hc
 simp only [ht,Bool.true_and]
 simp [hcc,hll,hc,rdo,hw,ht,S68x0q]
theorem c_takes_n {H K rb lv ts a ok} (h:RdA H K rb lv ts a ok) {k:Int} {s:List UInt8} (ht:(ok && isT ts a k s)=false) :
  ACalls prog 68 [(Value.pointer (some ⟨rb,0,some 3⟩)),.int .u8 k,str s] K (.bool false) K:=by
 refine acalls_of MixT func68 (by decide) ?_
 rw [d68]
 refine bndC_of (c_is h k s) ?_
 simp [ht,S68x0q]
theorem c_sign_y {H K rb lv ts a} (h:RdA H K rb lv ts a true) {s:List UInt8} (ht:isT ts a 4 s=true) :
  ACalls prog 69 [(Value.pointer (some ⟨rb,0,some 3⟩)),str s] K (.tuple #[]) (K.set rb (rdo lv (a+1) true)):=by
 refine acalls_of MixT func69 (by decide) ?_
 rw [d69]
 refine bndC_of (c_takes_y h ht) ?_
 have hlt:=h.lt
 have hc:(K.set rb (rdo lv (a+1) true))[rb]?=some (rdo lv (a+1) true):=List.getElem?_set_self hlt
 generalize K.set rb (rdo lv (a+1) true)=L at hc
 have hll:hlen L rb=some 3:=by simp [hlen,hc,rdo]
 simp [hll,hc,rdo]
 exact set_same hc
theorem c_take_y {H K rb lv ts a} (h:RdA H K rb lv ts a true) {t:Tok} (ht:ts[a]?=some t) :
  ACalls prog 127 [(Value.pointer (some ⟨rb,0,some 3⟩)),.int .u8 t.kind] K (str t.text) (K.set rb (rdo lv (a+1) true)):=by
 refine acalls_of MixT func127 (by decide) ?_
 rw [d127]
 have hlt:=(List.getElem?_eq_some_iff.1 ht).1
 have hc:=h.cell
 have hcc:hcells K rb=some [lv,i64 a,.bool true]:=by simp [hcells_eq,hc,rdo]
 have hll:hlen K rb=some 3:=by simp [hlen,hc,rdo]
 have hl:=(h.toks.pre h.pre).len (P:=prog) (T:=23) (e:=70) (by simp)
 simp at hl
 obtain ⟨p,q,r,e1,e2,e3,e4,e5⟩:=toksAt_at (h.toks.pre h.pre) ht
 have hw:IntKind.i64.wrap ((a:Int)+1)=(a:Int)+1:=wrap_i64 (by omega) (by have:=h.len;omega)
 have hlt2:¬ (ts.length≤a):=by omega
 simp only [rdo] at hc
 simp [hcc,hll,hl,hlt2,e1,e2,e3,hc,hw]
 have hL:=(h.put (a+1) true (by omega)).cell
 have hpL:=(h.put (a+1) true (by omega)).pre
 simp only [rdo,Int.natCast_add,Int.natCast_one] at hL hpL
 generalize hLd:K.set rb (AObj.cells [lv,i64 (a+1),.bool true] 81)=L at hL hpL ⊢
 have hcL:hcells L rb=some [lv,i64 (a+1),.bool true]:=by simp [hcells_eq,hL]
 have hlL:hlen L rb=some 3:=by simp [hlen,hL]
 have hw2:IntKind.i64.wrap (a:Int)=a:=wrap_i64 (by omega) (by have:=h.len;omega)
 obtain ⟨p,q,r,e1,e2,e3,e4,e5⟩:=toksAt_at (h.toks.pre hpL) ht
 simp [hcL,hlL,hw2,e1,e4,e5]
 rw [← hLd]
 simp [rdo]
def nmapK:Nat→List (List UInt8)→List (Value × Value)
 | _,[]=>[]
 | k,s :: r=>(str s,i64 k) :: nmapK (k+1) r
theorem nmapK_app (s:List UInt8):∀ (l:List (List UInt8)) (k:Nat),nmapK k (l++[s])=nmapK k l++[(str s,i64 ((k+l.length:Nat):Int))]:=by
 intro l
 induction l with
 | nil=>intro k;rfl
 | cons t r ih =>
   intro k
   rw [List.cons_append,nmapK,ih,nmapK,List.length_cons,show k+1+r.length=k+(r.length+1) by omega]
   rfl
theorem SMap.mono {Q R:List UInt8→Value→Prop} (h:∀ k v,Q k v→R k v):∀ {es ks},SMap Q es ks→SMap R es ks:=by
 intro es
 induction es with
 | nil=>intro ks h;cases ks<;>exact h
 | cons e es ih => intro ks h; cases ks with
   | nil=>exact h
   | cons k ks=>exact ⟨h.1,‹∀ k v,Q k v→R k v› _ _ h.2.1,ih h.2.2⟩
theorem nmapK_smap:∀ (l:List (List UInt8)) (k:Nat),SMap (fun s v=>∃ i:Nat,v=i64 ((k+i:Nat):Int)∧l[i]?=some s) (nmapK k l) l:=by
 intro l
 induction l with
 | nil=>intro k;trivial
 | cons t r ih =>
   intro k
   refine ⟨rfl,⟨0,rfl,rfl⟩,(ih (k+1)).mono ?_⟩
   rintro s v ⟨i,rfl,h⟩
   exact ⟨i+1,by rw [show k+1+i=k+(i+1) by omega],by simpa using h⟩
theorem nmap_put {l:List (List UInt8)} {i:Nat} {s:List UInt8} (hn:l.Nodup) (hi:l[i]?=some s):mput (str s) (i64 i) (nmapK 0 (l.take i))=nmapK 0 (l.take (i+1)):=by
 have hlt:=(List.getElem?_eq_some_iff.1 hi).1
 have hns:s ∉ l.take i:=by
  intro hm
  obtain ⟨j,hj,hjs⟩:=List.getElem_of_mem hm
  have hj':j < i:=by simp at hj;omega
  have e1:l[j]=s:=by simpa using hjs
  have e2:l[i]=s:=(List.getElem?_eq_some_iff.1 hi).2
  exact List.pairwise_iff_getElem.1 hn j i (by omega) hlt hj' (e1.trans e2.symm)
 have htk:l.take (i+1)=l.take i++[s]:=by rw [List.take_add_one,hi];rfl
 unfold mput
 rcases (nmapK_smap (l.take i) 0).find (k:=s) with ⟨g1,_⟩ | ⟨_,g2⟩
 · exact absurd g1 hns
 · rw [g2,htk,nmapK_app]
   simp [Nat.min_eq_left (Nat.le_of_lt hlt)]
theorem named_loop {l:List (List UInt8)} {H:AHeap} {v:Value} {k:Value→AHeap→Prop} (hl:l.length < 2 ^ 40) (hn:l.Nodup) (ha:Arr H 1 v (strCells l)) (hk:k (.map (some H.length)) (H++[.map (nmapK 0 l)])) :
  ∀ (r : List (List UInt8)) (i : Nat) (m n o p t a b c d e f g h j : Value), l.drop i = r → i ≤ l.length →
    L126x0 (r.length+1) k [v,m,n,.map (some H.length),o,p,t,v,i64 l.length,i64 i,a,b,c,d,e,f,g,h,j] (H++[.map (nmapK 0 (l.take i))]):=by
 intro r
 induction r with
 | nil =>
   intro i m n o p t a b c d e f g h j hd hi
   have hle:l.length≤i:=by simpa using hd
   rw [List.length_nil,L126x0q,List.take_of_length_le hle]
   have:¬ i < l.length:=by omega
   simp [this]
   exact hk
 | cons s r ih =>
   intro i m n o p t a b c d e f g h j hd hi
   have hb:l[i]?=some s:=by rw [← List.head?_drop,hd];rfl
   have hlt:i < l.length:=(List.getElem?_eq_some_iff.1 hb).1
   obtain ⟨q,hp1,hp2⟩:=(ha.pre (.app H [.map (nmapK 0 (l.take i))])).load1 (P:=prog) (T:=42) (te:=9) (i:=i) (x:=str s) (by simp) (by simp) (by simp) (by simp [strCells,hb])
   rw [List.length_cons,L126x0q]
   have hm:(H++[AObj.map (nmapK 0 (l.take i))])[H.length]?=some (.map (nmapK 0 (l.take i))):=by simp
   have hok:=(nmapK_smap (l.take i) 0).ok
   have hset:(H++[AObj.map (nmapK 0 (l.take i))]).set H.length (.map (nmapK 0 (l.take (i+1))))=H++[.map (nmapK 0 (l.take (i+1)))]:=by simp
   simp only [aBin_lss,bnd_some,Int.ofNat_lt,hlt,decide_true,kifB_true,hp1,hp2]
   simp only [aUpdate_map,hm,tm163,Option.bind_some,mapOf_map,keyOk,hok,and_self,if_true,bndS_some,bnd_some,aBin_add,wrap_succ (show i+1 < 2 ^ 63 by omega),nmap_put hn hb,hset]
   exact ih (i+1) _ _ _ _ _ _ _ _ _ _ _ _ _ _ (by rw [← List.drop_drop,hd];rfl) hlt
theorem c_named {l:List (List UInt8)} {H:AHeap} {v:Value} (hl:l.length < 2 ^ 40) (hn:l.Nodup) (ha:Arr H 1 v (strCells l)) :
  ACalls prog 126 [v] H (.map (some H.length)) (H++[.map (nmapK 0 l)]):=by
 refine acalls_of MixT func126 (by decide) ?_
 rw [d126]
 have hlen:=(ha.pre (.app H [.map []])).len (P:=prog) (T:=42) (e:=9) (by simp)
 simp [strCells] at hlen
 simp [hlen]
 exact ⟨l.length+1,named_loop hl hn ha ⟨rfl,rfl⟩ l 0 _ _ _ _ _ _ _ _ _ _ _ _ _ _ rfl (by omega)⟩
theorem nmap_get {l:List (List UInt8)} {i:Nat} {s:List UInt8} (hn:l.Nodup) (hi:l[i]?=some s):mget (str s) (nmapK 0 l)=some (i64 i):=by
 rcases (nmapK_smap l 0).get (k:=s) with ⟨_,v,g1,j,rfl,g2⟩ | ⟨g1,_⟩
 · have h1:=(List.getElem?_eq_some_iff.1 hi)
   have h2:=(List.getElem?_eq_some_iff.1 g2)
   obtain ⟨a1,a2⟩:=h1
   obtain ⟨b1,b2⟩:=h2
   have:i=j:=by
    rcases Nat.lt_trichotomy i j with q | q | q
    · exact absurd (a2.trans b2.symm) (List.pairwise_iff_getElem.1 hn i j a1 b1 q)
    · exact q
    · exact absurd (b2.trans a2.symm) (List.pairwise_iff_getElem.1 hn j i b1 a1 q)
   subst this
   rw [g1,Nat.zero_add]
 · exact absurd (List.mem_of_getElem? hi) g1
end Go.Vi
namespace Go.Vi
open Go Go.Proofs Go.Proofs.Tryz
theorem bnd_of {x:Option Value} {v:Value} {q:QV} (h:x=some v) (k:q.f v):@bnd x q:=by rw [h,bnd_some];exact k
def hasPre (l p:List UInt8):Bool:=decide (p.length≤l.length) && decide (l.take p.length=p)
theorem c_hasPrefix0 (H:AHeap) (l p:List UInt8):ACalls prog 158 [str l,str p] H (.bool (hasPre l p)) H:=by
 refine acalls_pure MixT func158 (by decide) rfl ?_
 rw [d158]
 by_cases h:p.length≤l.length
 · have hs:=aSliceOp_str (P:=prog) (H:=H) (T:=9) (l:=l) (lo:=none) (hi:=some (i64 p.length)) (a:=0) (b:=p.length) (by simp) rfl rfl (by omega) (by omega) (by omega)
   simp at hs
   simp [h,hs,hasPre]
 · simp [h,hasPre]
theorem c_hasPrefix (H:AHeap) (l p:List UInt8):ACalls prog 133 [str l,str p] H (.bool (hasPre l p)) H:=by
 refine acalls_pure MixT func133 (by decide) rfl ?_
 rw [d133]
 exact bndC_of (c_hasPrefix0 _ _ _) (by simp)
def cutPre (l p:List UInt8):List UInt8:=if hasPre l p=true then l.drop p.length else l
theorem c_cutPrefix0 (H:AHeap) (l p:List UInt8):ACalls prog 179 [str l,str p] H (.tuple #[str (cutPre l p),.bool (hasPre l p)]) H:=by
 refine acallsT_pure MixT func179 (by decide) rfl ?_
 rw [d179]
 refine bndC_of (c_hasPrefix0 _ _ _) ?_
 by_cases h:hasPre l p=true
 · have hle:p.length≤l.length:=by unfold hasPre at h;simp at h;exact h.1
   have hs:=aSliceOp_str (P:=prog) (H:=H) (T:=9) (l:=l) (lo:=some (i64 p.length)) (hi:=none) (a:=p.length) (b:=l.length) (by simp) rfl rfl (by omega) (by omega) (by omega)
   simp at hs
   simp [h,hs,cutPre]
 · simp only [Bool.not_eq_true] at h
   simp [h,cutPre]
theorem c_cutPrefix (H:AHeap) (l p:List UInt8):ACalls prog 155 [str l,str p] H (.tuple #[str (cutPre l p),.bool (hasPre l p)]) H:=by
 refine acallsT_pure MixT func155 (by decide) rfl ?_
 rw [d155]
 exact bndC_of (c_cutPrefix0 _ _ _) (by simp)
theorem and_lo (H:AHeap) (x y:Operand):aBin2 prog H .and 178 x y (.int .u64 1) (.int .u64 4294967295)=some (.int .u64 1):=by kernel_rfl
theorem and_lo2 (H:AHeap) (x y:Operand):aBin2 prog H .and 178 x y (.int .u64 2) (.int .u64 4294967295)=some (.int .u64 2):=by kernel_rfl
theorem and_lo3 (H:AHeap) (x y:Operand):aBin2 prog H .and 178 x y (.int .u64 3) (.int .u64 4294967295)=some (.int .u64 3):=by kernel_rfl
theorem and_lo0 (H:AHeap) (x y:Operand):aBin2 prog H .and 178 x y (.int .u64 0) (.int .u64 4294967295)=some (.int .u64 0):=by kernel_rfl
theorem c_hasZero (H:AHeap):ACalls prog 133 [str (List.replicate 64 48),str [48]] H (.bool true) H:=by
 have:=c_hasPrefix H (List.replicate 64 48) [48]
 rwa [show hasPre (List.replicate 64 48) [48]=true by decide] at this
theorem c_mul64 (H:AHeap) (n:Int) (hn:n=2∨n=3):ACalls prog 192 [.int .u64 1,.int .u64 n] H (.tuple #[.int .u64 0,.int .u64 n]) H:=by
 refine acallsT_pure MixT func192 (by decide) rfl ?_
 rw [d192]
 have f1:Int.fdiv 1 (2 ^ min 32 IntKind.u64.bits)=0:=by decide
 have f2:Int.fdiv 2 (2 ^ min 32 IntKind.u64.bits)=0:=by decide
 have f3:Int.fdiv 3 (2 ^ min 32 IntKind.u64.bits)=0:=by decide
 have f0:Int.fdiv 0 (2 ^ min 32 IntKind.u64.bits)=0:=by decide
 have w0:IntKind.u64.wrap 0=0:=by decide
 have w2:IntKind.u64.wrap 2=2:=by decide
 have w3:IntKind.u64.wrap 3=3:=by decide
 rcases hn with rfl | rfl<;>simp [and_lo,and_lo2,and_lo3,and_lo0,aBin_shr,f0,f1,f2,f3,w0,w2,w3]
theorem c_mul (H:AHeap) (n:Int) (hn:n=2∨n=3):ACalls prog 180 [.int .u64 1,.int .u64 n] H (.tuple #[.int .u64 0,.int .u64 n]) H:=by
 refine acallsT_pure MixT func180 (by decide) rfl ?_
 rw [d180]
 simp
 refine bndC_of (c_mul64 _ _ hn) (by simp)
set_option maxRecDepth 4000 in
theorem c_repeat0 (H:AHeap) (n:Nat) (hn:n≤3):ACalls prog 157 [str [48],i64 n] H (str (List.replicate n 48)) H:=by
 refine acalls_pure MixT func157 (by decide) rfl ?_
 rw [d157]
 have i2:IntKind.i64.wrap 2=2:=by decide
 have i3:IntKind.i64.wrap 3=3:=by decide
 have w1:IntKind.u64.wrap 1=1:=by decide
 have w2:IntKind.u64.wrap 2=2:=by decide
 have w3:IntKind.u64.wrap 3=3:=by decide
 rcases n with _ | _ | _ | _ | n
 · simp
 · simp
 · simp
   rw [S157x0q]
   simp [convV_int,w1,w2]
   refine bndC_of (c_mul _ _ (.inl rfl)) ?_
   simp
   rw [S157x1q]
   have q0:=aIndex_at (P:=prog) (T:=9) (k:=.i64) (l:=[48]) (i:=0) (by simp) rfl
   simp at q0
   simp [convV_int,q0]
   rw [S157x2q]
   simp [i2]
   refine bndG_t (.bool false) _ (c_hasPrefix H (List.replicate 128 32) [48]) ?_
   simp [i2]
   refine bndG_t (.bool false) _ (c_hasPrefix H (List.replicate 128 45) [48]) ?_
   simp [i2]
   refine bndG_t (.bool true) _ (c_hasZero H) ?_
   have hs:=aSliceOp_str (P:=prog) (H:=H) (T:=9) (l:=List.replicate 64 48) (lo:=none) (hi:=some (i64 2)) (a:=0) (b:=2) (by simp) rfl rfl (by omega) (by omega) (by simp)
   refine bnd_of (v:=.bool true) (by simp) ?_
   simp only [kifB_true]
   refine bnd_of hs ?_
   exact ⟨rfl,[],by simp⟩
 · simp
   rw [S157x0q]
   simp [convV_int,w1,w3]
   refine bndC_of (c_mul _ _ (.inr rfl)) ?_
   simp
   rw [S157x1q]
   have q0:=aIndex_at (P:=prog) (T:=9) (k:=.i64) (l:=[48]) (i:=0) (by simp) rfl
   simp at q0
   simp [convV_int,q0]
   rw [S157x2q]
   simp [i3]
   refine bndG_t (.bool false) _ (c_hasPrefix H (List.replicate 128 32) [48]) ?_
   simp [i3]
   refine bndG_t (.bool false) _ (c_hasPrefix H (List.replicate 128 45) [48]) ?_
   simp [i3]
   refine bndG_t (.bool true) _ (c_hasZero H) ?_
   have hs:=aSliceOp_str (P:=prog) (H:=H) (T:=9) (l:=List.replicate 64 48) (lo:=none) (hi:=some (i64 3)) (a:=0) (b:=3) (by simp) rfl rfl (by omega) (by omega) (by simp)
   refine bnd_of (v:=.bool true) (by simp) ?_
   simp only [kifB_true]
   refine bnd_of hs ?_
   exact ⟨rfl,[],by simp⟩
 · omega
def scanF:List UInt8→Nat→Int→Int × Bool
 | [],_,pt=>(pt,true)
 | b :: r,i,pt=>if isDig b=true then scanF r (i+1) pt else if ((b.toNat:Int) == 46 && decide (pt < 0))=true then scanF r (i+1) i else (pt,false)
def cutT (s:List UInt8) (pt:Int) (ok:Bool):List UInt8 × List UInt8 × Bool :=
 if pt < 0 then (s,[],ok) else (s.take pt.toNat,s.drop (pt.toNat+1),ok && !decide (s.take pt.toNat=[]) && !decide (s.drop (pt.toNat+1)=[]) && decide ((s.drop (pt.toNat+1)).length≤3))
def cutF (s:List UInt8):List UInt8 × List UInt8 × Bool:=cutT s (scanF s 0 (-1)).1 ((scanF s 0 (-1)).2 && !s.isEmpty)
def cutV (x:List UInt8 × List UInt8 × Bool):Value:=.tuple #[str x.1,str x.2.1,.bool x.2.2]
theorem cut_tail {s:List UInt8} {pt:Int} {ok:Bool} {H:AHeap} {k:Value→AHeap→Prop} (hs:s.length < 2 ^ 60) (hpt:pt < s.length) (hp1:-1≤pt) (hk:k (cutV (cutT s pt ok)) H) (s1 s2 s3 s6 s7 s8 s9 c d e f g i j m o p q r t u v w x y z A B C D E F G I J K L M N O Q R S U V W X Y Z aa ab ac ad ae af ag ah ai aj ak al am an:Value) :
  S156x1 k [str s,s1,s2,s3,.bool ok,i64 pt,s6,s7,s8,s9,c,d,e,f,g,i,j,m,o,p,q,r,t,u,v,w,x,y,z,A,B,C,D,E,F,G,I,J,K,L,M,N,O,Q,R,S,U,V,W,X,Y,Z,aa,ab,ac,ad,ae,af,ag,ah,ai,aj,ak,al,am,an] H:=by
 rw [S156x1q]
 by_cases h:pt < 0
 · simp [h]
   simpa [cutT,h,cutV] using hk
 · obtain ⟨n,rfl⟩:∃ n:Nat,pt=n:=⟨pt.toNat,by omega⟩
   have h1:=aSliceOp_str (P:=prog) (H:=H) (T:=9) (l:=s) (lo:=none) (hi:=some (i64 n)) (a:=0) (b:=n) (by simp) rfl rfl (by omega) (by omega) (by omega)
   have h2:=aSliceOp_str (P:=prog) (H:=H) (T:=9) (l:=s) (lo:=some (i64 ((n+1:Nat):Int))) (hi:=none) (a:=(n+1:Nat)) (b:=s.length) (by simp) rfl rfl (by omega) (by omega) (by omega)
   simp only [cutT,if_neg h,cutV] at hk
   simp at h1 h2 hk
   simp +contextual [h,h1,h2,show n+1 < 2 ^ 63 by omega]
   have e3:decide (((s.length-(n+1):Nat):Int)≤3)=decide (s.length≤3+(n+1)):=by rw [decide_eq_decide];omega
   rw [e3]
   exact hk
theorem cut_loop {s:List UInt8} {H:AHeap} {k:Value→AHeap→Prop} (hs:s.length < 2 ^ 60) (w:List UInt8 × List UInt8 × Bool) (hk:k (cutV w) H) :
  ∀ (r : List UInt8) (i : Nat) (pt : Int) (ok : Bool) (s1 s2 s3 s6 s7 a c d e f g j l m n o p t u v x y z A B C D E F G I J K L M N O Q R S U V W X Y Z aa ab ac ad ae af ag ah ai aj ak al am an ao : Value), s.drop i = r → i ≤ s.length → -1 ≤ pt → pt < i → ok = (r.isEmpty && !s.isEmpty) → w = cutT s (scanF r i pt).1 ((scanF r i pt).2 && !s.isEmpty) →
    L156x0 (r.length+1) k [str s,s1,s2,s3,.bool ok,i64 pt,s6,s7,i64 s.length,i64 i,a,c,d,e,f,g,j,l,m,n,o,p,t,u,v,x,y,z,A,B,C,D,E,F,G,I,J,K,L,M,N,O,Q,R,S,U,V,W,X,Y,Z,aa,ab,ac,ad,ae,af,ag,ah,ai,aj,ak,al,am,an,ao] H:=by
 intro r
 induction r with
 | nil =>
   intro i pt ok s1 s2 s3 s6 s7 a c d e f g j l m n o p t u v x y z A B C D E F G I J K L M N O Q R S U V W X Y Z aa ab ac ad ae af ag ah ai aj ak al am an ao hd hi hp1 hp2 hok hw
   have hle:s.length≤i:=by simpa using hd
   rw [List.length_nil,L156x0q]
   have:¬ i < s.length:=by omega
   simp [this]
   rw [B156x1q]
   simp only [List.isEmpty_nil,Bool.true_and] at hok
   rw [hok]
   refine cut_tail hs (by omega) hp1 ?_ _ _ _ _ _ _ _ _ _ _ _ _ _ _ _ _ _ _ _ _ _ _ _ _ _ _ _ _ _ _ _ _ _ _ _ _ _ _ _ _ _ _ _ _ _ _ _ _ _ _ _ _ _ _ _ _ _ _ _ _ _ _ _
   rw [hw] at hk
   simpa [scanF] using hk
 | cons b r ih =>
   intro i pt ok s1 s2 s3 s6 s7 a c d e f g j l m n o p t u v x y z A B C D E F G I J K L M N O Q R S U V W X Y Z aa ab ac ad ae af ag ah ai aj ak al am an ao hd hi hp1 hp2 hok hw
   have hb:s[i]?=some b:=by rw [← List.head?_drop,hd];rfl
   have hlt:i < s.length:=(List.getElem?_eq_some_iff.1 hb).1
   have hix:=aIndex_at (P:=prog) (T:=9) (k:=.i64) (by simp) hb
   have hne:s.isEmpty=false:=by cases s with | nil=>simp at hlt | cons=>rfl
   have hdr:s.drop (i+1)=r:=by rw [← List.drop_drop,hd];rfl
   have hlast:(i:Int)=(s.length:Int)-1↔r.isEmpty=true:=by
    have:=congrArg List.length hd
    simp at this
    cases r with
    | nil=>simp at this ⊢;omega
    | cons=>simp at this ⊢;omega
   simp only [List.isEmpty_cons,Bool.false_and] at hok
   subst hok
   have hwr:IntKind.i64.wrap ((s.length:Int)-1)=(s.length:Int)-1:=wrap_i64 (by omega) (by omega)
   have step:∀ (pt':Int) (s1 s2 s3 s7 a c d e f g j l m n o p t u v x y z A B C D E F G I J K L M N O Q R S U V W X Y Z aa ab ac ad ae af ag ah ai aj ak al am an ao:Value),-1≤pt'→pt' < (i+1:Nat)→w=cutT s (scanF r (i+1) pt').1 ((scanF r (i+1) pt').2 && !s.isEmpty) →
     S156x0 (r.length+1) k [str s,s1,s2,s3,.bool false,i64 pt',i64 i,s7,i64 s.length,i64 i,a,c,d,e,f,g,j,l,m,n,o,p,t,u,v,x,y,z,A,B,C,D,E,F,G,I,J,K,L,M,N,O,Q,R,S,U,V,W,X,Y,Z,aa,ab,ac,ad,ae,af,ag,ah,ai,aj,ak,al,am,an,ao] H:=by
    intro pt' s1 s2 s3 s7 a c d e f g j l m n o p t u v x y z A B C D E F G I J K L M N O Q R S U V W X Y Z aa ab ac ad ae af ag ah ai aj ak al am an ao q1 q2 q3
    rw [S156x0q]
    simp [hwr]
    refine kifB_bool (fun h=>?_) (fun h=>?_)
    · have hre:=hlast.1 (by simpa using h)
      rw [S156x2q]
      simp [show i+1 < 2 ^ 63 by omega]
      exact ih (i+1) pt' true _ _ _ _ _ _ _ _ _ _ _ _ _ _ _ _ _ _ _ _ _ _ _ _ _ _ _ _ _ _ _ _ _ _ _ _ _ _ _ _ _ _ _ _ _ _ _ _ _ _ _ _ _ _ _ _ _ _ _ _ _ hdr (by omega) q1 q2 (by simp [hre,hne]) q3
    · have hre:r.isEmpty=false:=by
       cases hr:r.isEmpty with
       | false=>rfl
       | true=>have:=hlast.2 hr;simp [this] at h
      rw [S156x2q]
      simp [show i+1 < 2 ^ 63 by omega]
      exact ih (i+1) pt' false _ _ _ _ _ _ _ _ _ _ _ _ _ _ _ _ _ _ _ _ _ _ _ _ _ _ _ _ _ _ _ _ _ _ _ _ _ _ _ _ _ _ _ _ _ _ _ _ _ _ _ _ _ _ _ _ _ _ _ _ _ hdr (by omega) q1 q2 (by simp [hre]) q3
   rw [List.length_cons,L156x0q]
   by_cases hdg:isDig b=true
   · have hdg':=hdg
     simp only [isDig,Bool.and_eq_true,decide_eq_true_eq] at hdg'
     simp [hlt,hix,hdg'.1,hdg'.2]
     exact step pt _ _ _ _ _ _ _ _ _ _ _ _ _ _ _ _ _ _ _ _ _ _ _ _ _ _ _ _ _ _ _ _ _ _ _ _ _ _ _ _ _ _ _ _ _ _ _ _ _ _ _ _ _ _ _ _ _ _ _ _ hp1 (by omega) (by simpa only [scanF,if_pos hdg] using hw)
   · have hndg:¬ (48≤(b.toNat:Int)∧(b.toNat:Int)≤57):=by simpa [isDig] using hdg
     simp only [scanF,if_neg hdg] at hw
     by_cases h48:48≤(b.toNat:Int)
     · have h57:¬ (b.toNat:Int)≤57:=fun q=>hndg ⟨h48,q⟩
       have h46:¬ (b.toNat:Int)=46:=by omega
       have h46b:((b.toNat:Int) == 46)=false:=by simpa using h46
       simp [hlt,hix,h48,h57,h46b]
       rw [B156x0q]
       refine cut_tail hs (by omega) hp1 ?_ _ _ _ _ _ _ _ _ _ _ _ _ _ _ _ _ _ _ _ _ _ _ _ _ _ _ _ _ _ _ _ _ _ _ _ _ _ _ _ _ _ _ _ _ _ _ _ _ _ _ _ _ _ _ _ _ _ _ _ _ _ _ _
       rw [hw] at hk
       simpa [h46] using hk
     · by_cases h46:(b.toNat:Int)=46
       · by_cases hpt:pt < 0
         · simp [hlt,hix,h46,hpt]
           exact step i _ _ _ _ _ _ _ _ _ _ _ _ _ _ _ _ _ _ _ _ _ _ _ _ _ _ _ _ _ _ _ _ _ _ _ _ _ _ _ _ _ _ _ _ _ _ _ _ _ _ _ _ _ _ _ _ _ _ _ _ (by omega) (by omega) (by simpa [h46,hpt] using hw)
         · simp [hlt,hix,h46,hpt]
           rw [B156x0q]
           refine cut_tail hs (by omega) hp1 ?_ _ _ _ _ _ _ _ _ _ _ _ _ _ _ _ _ _ _ _ _ _ _ _ _ _ _ _ _ _ _ _ _ _ _ _ _ _ _ _ _ _ _ _ _ _ _ _ _ _ _ _ _ _ _ _ _ _ _ _ _ _ _ _
           rw [hw] at hk
           simpa [h46,hpt] using hk
       · have h46b:((b.toNat:Int) == 46)=false:=by simpa using h46
         simp [hlt,hix,h48,h46b]
         rw [B156x0q]
         refine cut_tail hs (by omega) hp1 ?_ _ _ _ _ _ _ _ _ _ _ _ _ _ _ _ _ _ _ _ _ _ _ _ _ _ _ _ _ _ _ _ _ _ _ _ _ _ _ _ _ _ _ _ _ _ _ _ _ _ _ _ _ _ _ _ _ _ _ _ _ _ _ _
         rw [hw] at hk
         simpa [h46] using hk
theorem c_cut {s:List UInt8} {H:AHeap} (hs:s.length < 2 ^ 60):ACalls prog 156 [str s] H (cutV (cutF s)) H:=by
 refine acallsT_pure MixT func156 (by decide) rfl ?_
 rw [d156]
 simp
 refine ⟨s.length+1,?_⟩
 have e:false=(s.isEmpty && !s.isEmpty):=by cases s.isEmpty<;>rfl
 have:=cut_loop (H:=H) (k:=fun u H2=>u=cutV (cutF s)∧∃ X,H2=H++X) hs (cutF s) ⟨rfl,[],by simp⟩ s 0 (-1) false
 exact this _ _ _ _ _ _ _ _ _ _ _ _ _ _ _ _ _ _ _ _ _ _ _ _ _ _ _ _ _ _ _ _ _ _ _ _ _ _ _ _ _ _ _ _ _ _ _ _ _ _ _ _ _ _ _ _ _ _ _ _ _ rfl (by omega) (by omega) (by omega) e rfl
def digF (x:Int):List UInt8→Int
 | []=>x
 | d :: r=>if x > (maxFix-((d.toNat:Int)-48)).tdiv 10 then maxFix else digF (10*x+((d.toNat:Int)-48)) r
def parF (s:List UInt8):Int × Int :=
 let c:=cutF (cutPre s [45])
 if c.2.2=true then
  let x:=digF 0 (c.1++c.2.1++List.replicate (3-c.2.1.length) 48)
  (if hasPre s [45]=true then -x else x,0)
 else (0,10)
theorem scanF_pt:∀ (r:List UInt8) (i:Nat) (pt:Int),0≤pt→(scanF r i pt).2=true→(scanF r i pt).1=pt∧∀ b∈r,isDig b=true:=by
 intro r
 induction r with
 | nil=>intro i pt _ _;simp [scanF]
 | cons b r ih =>
   intro i pt hp h
   have hp':¬ pt < 0:=by omega
   rw [scanF] at h ⊢
   by_cases hd:isDig b=true
   · rw [if_pos hd] at h ⊢
     obtain ⟨h1,h2⟩:=ih _ _ hp h
     refine ⟨h1,fun c hc=>?_⟩
     rcases List.mem_cons.1 hc with rfl | hc
     · exact hd
     · exact h2 c hc
   · rw [if_neg hd] at h
     simp [hp'] at h
theorem scanF_none:∀ (r:List UInt8) (i:Nat),(scanF r i (-1)).2=true→((scanF r i (-1)).1 = -1∧∀ b∈r,isDig b=true) ∨
  ∃ j:Nat,(scanF r i (-1)).1=((i+j:Nat):Int)∧j < r.length∧(∀ b∈r.take j,isDig b=true)∧∀ b∈r.drop (j+1),isDig b=true:=by
 intro r
 induction r with
 | nil=>intro i _;left;simp [scanF]
 | cons b r ih =>
   intro i h
   rw [scanF] at h ⊢
   by_cases hd:isDig b=true
   · rw [if_pos hd] at h ⊢
     rcases ih _ h with ⟨h1,h2⟩ | ⟨j,h1,h2,h3,h4⟩
     · left
       refine ⟨h1,fun c hc=>?_⟩
       rcases List.mem_cons.1 hc with rfl | hc
       · exact hd
       · exact h2 c hc
     · right
       refine ⟨j+1,by rw [h1];congr 1;omega,by simp;omega,fun c hc=>?_,by simpa using h4⟩
       rw [List.take_succ_cons] at hc
       rcases List.mem_cons.1 hc with rfl | hc
       · exact hd
       · exact h3 c hc
   · rw [if_neg hd] at h ⊢
     split at h
     · rename_i hq
       rw [if_pos hq]
       obtain ⟨h1,h2⟩:=scanF_pt r (i+1) i (by omega) h
       exact .inr ⟨0,by rw [h1];rfl,by simp,by simp,by simpa using h2⟩
     · cases h
theorem cutF_ok {s:List UInt8} (h:(cutF s).2.2=true):(∀ b∈(cutF s).1++(cutF s).2.1,isDig b=true)∧(cutF s).2.1.length≤3∧(cutF s).1.length+(cutF s).2.1.length≤s.length:=by
 unfold cutF cutT at *
 by_cases hp:(scanF s 0 (-1)).1 < 0
 · simp only [if_pos hp] at h ⊢
   simp only [Bool.and_eq_true] at h
   rcases scanF_none s 0 h.1 with ⟨h1,h2⟩ | ⟨j,h1,_⟩
   · simp;exact h2
   · rw [h1] at hp;omega
 · simp only [if_neg hp] at h ⊢
   simp only [Bool.and_eq_true,decide_eq_true_eq] at h
   rcases scanF_none s 0 h.1.1.1.1 with ⟨h1,h2⟩ | ⟨j,h1,h2,h3,h4⟩
   · rw [h1] at hp;omega
   · rw [h1] at h ⊢
     simp only [Nat.zero_add,Int.toNat_natCast] at h ⊢
     refine ⟨fun b hb=>?_,h.2,?_⟩
     · rcases List.mem_append.1 hb with hb | hb
       · exact h3 b hb
       · exact h4 b hb
     · simp;omega
theorem arr_bytes {H:AHeap} (l:List UInt8):Arr (H++[sbO 5 ⟨l.toArray⟩]) 1 (.slice (some ⟨H.length,0,some l.length⟩) l.length l.length) (l.map fun b=>[byt b]):=by
 refine .mk H.length 0 _ _ _ (l.map byt) _ (by simp) (by simp [hcells_eq,bytesL]) (by simp) (by simp) fun i e hi=>?_
 simp at hi
 obtain ⟨b,hb,rfl⟩:=hi
 rw [Nat.zero_add,Nat.mul_one,← List.map_drop,← List.map_take]
 have:(l.drop i).take 1=[b]:=by
  have hlt:=(List.getElem?_eq_some_iff.1 hb).1
  rw [List.drop_eq_getElem_cons hlt,(List.getElem?_eq_some_iff.1 hb).2];rfl
 rw [this];rfl
theorem dig_loop {H:AHeap} {v:Value} {l:List UInt8} {less:Bool} {k:Value→AHeap→Prop} (ha:Arr H 1 v (l.map fun b=>[byt b])) (hl:l.length < 2 ^ 61) (hd:∀ b∈l,isDig b=true) (w:Int)
  (hk:k (.tuple #[i64 (if less=true then -w else w),i64 0]) H) :
  ∀ (r : List UInt8) (i : Nat) (x : Int) (s0 s1 s2 s3 s4 s6 s7 s8 a c e f g j m n o p s t u y z A B C D E F G I J K L M N O Q R S U V W X Y Z aa ab ac ad ae af : Value), l.drop i = r → i ≤ l.length → 0 ≤ x → x ≤ maxFix → w = digF x r →
    L130x0 (r.length+1) k [s0,s1,s2,s3,s4,.bool less,s6,s7,s8,i64 x,a,c,e,f,g,j,m,n,o,p,s,t,u,y,z,A,B,C,D,E,F,G,I,v,i64 l.length,i64 i,J,K,L,M,N,O,Q,R,S,U,V,W,X,Y,Z,aa,ab,ac,ad,ae,af] H:=by
 have tail:∀ (s0 s1 s2 s3 s4 s6 s7 s8 a c e f g j m n o p s t u y z A B C D E F G I ag ah ai J K L M N O Q R S U V W X Y Z aa ab ac ad ae af:Value),0≤w→w≤maxFix→S130x0 k [s0,s1,s2,s3,s4,.bool less,s6,s7,s8,i64 w,a,c,e,f,g,j,m,n,o,p,s,t,u,y,z,A,B,C,D,E,F,G,I,ag,ah,ai,J,K,L,M,N,O,Q,R,S,U,V,W,X,Y,Z,aa,ab,ac,ad,ae,af] H:=by
  intro s0 s1 s2 s3 s4 s6 s7 s8 a c e f g j m n o p s t u y z A B C D E F G I ag ah ai J K L M N O Q R S U V W X Y Z aa ab ac ad ae af h1 h2
  rw [S130x0q]
  simp only [maxFix] at h2
  cases less with
  | true =>
    have hw:IntKind.i64.wrap (-w) = -w:=wrap_i64 (by omega) (by omega)
    simp [unV_neg,hw]
    rw [S130x1q]
    simpa using hk
  | false =>
    simp
    rw [S130x1q]
    simpa using hk
 intro r
 induction r with
 | nil =>
   intro i x s0 s1 s2 s3 s4 s6 s7 s8 a c e f g j m n o p s t u y z A B C D E F G I J K L M N O Q R S U V W X Y Z aa ab ac ad ae af hdr hi hx1 hx2 hw
   have hle:l.length≤i:=by simpa using hdr
   rw [List.length_nil,L130x0q]
   have:¬ i < l.length:=by omega
   simp [this]
   rw [B130x1q]
   simp only [digF] at hw
   subst hw
   exact tail _ _ _ _ _ _ _ _ _ _ _ _ _ _ _ _ _ _ _ _ _ _ _ _ _ _ _ _ _ _ _ _ _ _ _ _ _ _ _ _ _ _ _ _ _ _ _ _ _ _ _ _ _ _ _ hx1 hx2
 | cons d r ih =>
   intro i x s0 s1 s2 s3 s4 s6 s7 s8 a c e f g j m n o p s t u y z A B C D E F G I J K L M N O Q R S U V W X Y Z aa ab ac ad ae af hdr hi hx1 hx2 hw
   have hb:l[i]?=some d:=by rw [← List.head?_drop,hdr];rfl
   have hlt:i < l.length:=(List.getElem?_eq_some_iff.1 hb).1
   have hdd:=hd d (List.mem_of_getElem? hb)
   have hd':(∀ b∈r,isDig b=true):=fun b hb'=>hd b (List.mem_of_mem_drop (by rw [hdr];simp [hb']))
   simp only [isDig,Bool.and_eq_true,decide_eq_true_eq] at hdd
   obtain ⟨q,hp1,hp2⟩:=ha.load1 (P:=prog) (T:=55) (te:=5) (i:=i) (x:=byt d) (by simp) (by simp) (by simp) (by rw [List.getElem?_map,hb];rfl)
   have w1:IntKind.u8.wrap ((d.toNat:Int)-48)=(d.toNat:Int)-48:=wrap_u8 (by omega) (by omega)
   have w2:IntKind.i64.wrap ((d.toNat:Int)-48)=(d.toNat:Int)-48:=wrap_i64 (by omega) (by omega)
   have w3:IntKind.i64.wrap (4611686018427387903-((d.toNat:Int)-48))=4611686018427387903-((d.toNat:Int)-48):=wrap_i64 (by omega) (by omega)
   have htd:(4611686018427387903-((d.toNat:Int)-48)).tdiv 10=(4611686018427387903-((d.toNat:Int)-48)) / 10:=Int.tdiv_eq_ediv_of_nonneg (by omega)
   have w4:IntKind.i64.wrap ((4611686018427387903-((d.toNat:Int)-48)).tdiv 10)=(4611686018427387903-((d.toNat:Int)-48)).tdiv 10:=by rw [htd];exact wrap_i64 (by omega) (by omega)
   rw [List.length_cons,L130x0q]
   rw [digF] at hw
   simp only [maxFix] at hx2
   simp [hlt,hp1,hp2,w1,w2,w3,aBin_quo,w4,convV_int]
   refine kifB_bool (fun h=>?_) (fun h=>?_)
   · simp only [decide_eq_true_eq] at h
     rw [if_pos (show x > (maxFix-((d.toNat:Int)-48)).tdiv 10 from h)] at hw
     subst hw
     simp
     rw [B130x0q]
     exact tail _ _ _ _ _ _ _ _ _ _ _ _ _ _ _ _ _ _ _ _ _ _ _ _ _ _ _ _ _ _ _ _ _ _ _ _ _ _ _ _ _ _ _ _ _ _ _ _ _ _ _ _ _ _ _ (by simp [maxFix]) (by simp [maxFix])
   · simp only [decide_eq_false_iff_not] at h
     rw [if_neg (show ¬ x > (maxFix-((d.toNat:Int)-48)).tdiv 10 from h)] at hw
     rw [htd] at h
     have hx10:x≤(4611686018427387903-((d.toNat:Int)-48)) / 10:=by omega
     have h10:10*x+((d.toNat:Int)-48)≤4611686018427387903:=by omega
     have w5:IntKind.i64.wrap (10*x)=10*x:=wrap_i64 (by omega) (by omega)
     have w6:IntKind.i64.wrap (10*x+((d.toNat:Int)-48))=10*x+((d.toNat:Int)-48):=wrap_i64 (by omega) (by omega)
     simp [w1,w2,w5,w6,convV_int,show i+1 < 2 ^ 63 by omega]
     exact ih (i+1) _ _ _ _ _ _ _ _ _ _ _ _ _ _ _ _ _ _ _ _ _ _ _ _ _ _ _ _ _ _ _ _ _ _ _ _ _ _ _ _ _ _ _ _ _ _ _ _ _ _ _ _ _ (by rw [← List.drop_drop,hdr];rfl) hlt (by omega) (by simp only [maxFix];omega) hw
theorem c_fixParse {s:List UInt8} {H:AHeap} (hs:s.length < 2 ^ 59):ACalls prog 130 [str s] H (.tuple #[i64 (parF s).1,i64 (parF s).2]) H:=by
 refine acallsT_pure MixT func130 (by decide) rfl ?_
 rw [d130]
 refine bndC_of (c_cutPrefix _ _ [45]) ?_
 simp
 have hcl:(cutPre s [45]).length≤s.length:=by unfold cutPre;split<;>simp
 refine bndC_of (c_cut (by omega)) ?_
 generalize hc:cutF (cutPre s [45])=c
 obtain ⟨wh,pa,ok⟩:=c
 simp [cutV]
 have hpar:parF s=if ok=true then (if hasPre s [45]=true then -(digF 0 (wh++pa++List.replicate (3-pa.length) 48)) else digF 0 (wh++pa++List.replicate (3-pa.length) 48),0) else (0,10):=by
  unfold parF;simp only [hc]
 generalize parF s=res at hpar ⊢
 cases ok with
 | false=>simp [hpar]
 | true =>
   obtain ⟨k1,k2,k3⟩:=cutF_ok (s:=cutPre s [45]) (by rw [hc])
   rw [hc] at k1 k2 k3
   dsimp only at k1 k2 k3
   simp only [if_true] at hpar
   have hw:IntKind.i64.wrap (3-(pa.length:Int))=((3-pa.length:Nat):Int):=by rw [wrap_i64 (by omega) (by omega)];omega
   have e1:=fun X Y=>aBin_str (P:=prog) (H:=H) (T:=9) (x:=X) (y:=Y) (a:=wh) (b:=pa) (by omega)
   simp [hw,e1]
   refine bndC_of (c_repeat0 _ _ (by omega)) ?_
   have e2:=fun X Y=>aBin_str (P:=prog) (H:=H) (T:=9) (x:=X) (y:=Y) (a:=wh++pa) (b:=List.replicate (3-pa.length) 48) (by simp;omega)
   simp only [e2,bnd_some]
   generalize hD:wh++pa++List.replicate (3-pa.length) 48=D at hpar
   have hDl:D.length < 2 ^ 61:=by rw [← hD];simp;omega
   have hDd:∀ b∈D,isDig b=true:=by
    intro b hb
    rw [← hD] at hb
    rcases List.mem_append.1 hb with hb | hb
    · exact k1 b hb
    · rw [(List.mem_replicate.1 hb).2];decide
   have hcv:aConv prog H 9 55 (str D)=some (.slice (some ⟨H.length,0,some D.length⟩) D.length D.length,H++[sbO 5 ⟨D.toArray⟩]):=by
    have hu:isU8 prog 5=true:=by kernel_rfl
    simp [aConv,hu]
   simp [hcv]
   refine ⟨D.length+1,dig_loop (less:=hasPre s [45]) (arr_bytes D) hDl hDd (digF 0 D) ?_ D 0 0 _ _ _ _ _ _ _ _ _ _ _ _ _ _ _ _ _ _ _ _ _ _ _ _ _ _ _ _ _ _ _ _ _ _ _ _ _ _ _ _ _ _ _ _ _ _ _ _ _ _ _ _ rfl (by omega) (by omega) (by simp [maxFix]) rfl⟩
   rw [hpar]
   exact ⟨by split<;>rfl,[_],rfl⟩
end Go.Vi
namespace Go.Vi
open Go Go.Proofs Go.Proofs.Tryz
def natF (n:Int):List UInt8→Int
 | []=>n
 | d :: r=>natF (10*n+((d.toNat:Int)-48)) r
theorem atoi_loop {H:AHeap} {v:Value} {l:List UInt8} {k:Value→AHeap→Prop} (ha:Arr H 1 v (l.map fun b=>[byt b])) (hl:l.length≤18) (h1:1≤l.length) (hd:∀ b∈l,isDig b=true) (w:Int)
  (hk:k (.tuple #[i64 w,.nilIface]) H) :
  ∀ (r : List UInt8) (i : Nat) (n : Int) (s0 s1 s2 s3 s4 s7 s8 s9 a c e f g h j m o p s t u y z A B C D E F G I J K L M N O Q R S U V W X Y Z aa ab ac ad ae af ag ah ai aj ak al am an ao ap aq ar au av aw ax ay az aA aB : Value), l.drop i = r → i ≤ l.length → 0 ≤ n → n < 10 ^ i → w = natF n r →
    L153x0 (r.length+1) k [s0,s1,s2,s3,s4,str l,i64 n,s7,s8,s9,a,c,e,f,g,h,j,m,o,p,s,t,u,y,z,A,B,C,D,E,F,G,I,J,K,L,M,N,O,Q,R,S,U,V,W,X,Y,v,i64 l.length,i64 i,Z,aa,ab,ac,ad,ae,af,ag,ah,ai,aj,ak,al,am,an,ao,ap,aq,ar,au,av,aw,ax,ay,az,aA,aB] H:=by
 intro r
 induction r with
 | nil =>
   intro i n s0 s1 s2 s3 s4 s7 s8 s9 a c e f g h j m o p s t u y z A B C D E F G I J K L M N O Q R S U V W X Y Z aa ab ac ad ae af ag ah ai aj ak al am an ao ap aq ar au av aw ax ay az aA aB hdr hi hn1 hn2 hw
   have hle:l.length≤i:=by simpa using hdr
   rw [List.length_nil,L153x0q]
   have:¬ i < l.length:=by omega
   obtain ⟨b0,hb0⟩:∃ b,l[0]?=some b:=⟨_,List.getElem?_eq_getElem (by omega)⟩
   have hix:=aIndex_at (P:=prog) (T:=9) (k:=.i64) (i:=0) (by simp) hb0
   have hdd:=hd b0 (List.mem_of_getElem? hb0)
   simp only [isDig,Bool.and_eq_true,decide_eq_true_eq] at hdd
   have h45:((b0.toNat:Int) == 45)=false:=by simp;omega
   simp only [natF] at hw
   subst hw
   simp at hix
   simp [this,hix,h45]
   rw [S153x1q]
   exact hk
 | cons d r ih =>
   intro i n s0 s1 s2 s3 s4 s7 s8 s9 a c e f g h j m o p s t u y z A B C D E F G I J K L M N O Q R S U V W X Y Z aa ab ac ad ae af ag ah ai aj ak al am an ao ap aq ar au av aw ax ay az aA aB hdr hi hn1 hn2 hw
   have hb:l[i]?=some d:=by rw [← List.head?_drop,hdr];rfl
   have hlt:i < l.length:=(List.getElem?_eq_some_iff.1 hb).1
   have hdd:=hd d (List.mem_of_getElem? hb)
   simp only [isDig,Bool.and_eq_true,decide_eq_true_eq] at hdd
   obtain ⟨q,hp1,hp2⟩:=ha.load1 (P:=prog) (T:=55) (te:=5) (i:=i) (x:=byt d) (by simp) (by simp) (by simp) (by rw [List.getElem?_map,hb];rfl)
   have w1:IntKind.u8.wrap ((d.toNat:Int)-48)=(d.toNat:Int)-48:=wrap_u8 (by omega) (by omega)
   have w2:IntKind.i64.wrap ((d.toNat:Int)-48)=(d.toNat:Int)-48:=wrap_i64 (by omega) (by omega)
   have hp:(10:Int) ^ (i+1)≤10 ^ 18:=by exact_mod_cast Nat.pow_le_pow_right (by omega:0 < 10) (by omega:i+1≤18)
   have hpe:(10:Int) ^ (i+1)=10 ^ i*10:=Int.pow_succ ..
   have w3:IntKind.i64.wrap (n*10)=n*10:=wrap_i64 (by omega) (by omega)
   have w4:IntKind.i64.wrap (n*10+((d.toNat:Int)-48))=n*10+((d.toNat:Int)-48):=wrap_i64 (by omega) (by omega)
   have h9:¬ (9 < (d.toNat:Int)-48):=by omega
   rw [List.length_cons,L153x0q]
   simp [hlt,hp1,hp2,w1,w2,w3,w4,h9,convV_int,show i+1 < 2 ^ 63 by omega]
   exact ih (i+1) _ _ _ _ _ _ _ _ _ _ _ _ _ _ _ _ _ _ _ _ _ _ _ _ _ _ _ _ _ _ _ _ _ _ _ _ _ _ _ _ _ _ _ _ _ _ _ _ _ _ _ _ _ _ _ _ _ _ _ _ _ _ _ _ _ _ _ _ _ _ _ _ _ (by rw [← List.drop_drop,hdr];rfl) hlt (by omega) (by omega) (by rw [hw,natF];congr 1;omega)
theorem c_atoi0 {H:AHeap} {l:List UInt8} (hl:l.length≤18) (h1:1≤l.length) (hd:∀ b∈l,isDig b=true):ACalls prog 153 [str l] H (.tuple #[i64 (natF 0 l),.nilIface]) H:=by
 refine acallsT_pure MixT func153 (by decide) rfl ?_
 rw [d153]
 obtain ⟨b0,hb0⟩:∃ b,l[0]?=some b:=⟨_,List.getElem?_eq_getElem (by omega)⟩
 have hix:=aIndex_at (P:=prog) (T:=9) (k:=.i64) (i:=0) (by simp) hb0
 have hdd:=hd b0 (List.mem_of_getElem? hb0)
 simp only [isDig,Bool.and_eq_true,decide_eq_true_eq] at hdd
 have h45:((b0.toNat:Int) == 45)=false:=by simp;omega
 have h43:((b0.toNat:Int) == 43)=false:=by simp;omega
 have q1:(0:Int) < l.length:=by omega
 have q2:(l.length:Int) < 19:=by omega
 have q3:0 < l.length:=by omega
 simp at hix
 simp [q2,q3,hix,h45,h43]
 rw [S153x0q]
 have hcv:aConv prog H 9 55 (str l)=some (.slice (some ⟨H.length,0,some l.length⟩) l.length l.length,H++[sbO 5 ⟨l.toArray⟩]):=by
  have hu:isU8 prog 5=true:=by kernel_rfl
  simp [aConv,hu]
 simp [hcv]
 exact ⟨l.length+1,atoi_loop (arr_bytes l) hl h1 hd (natF 0 l) ⟨rfl,[_],rfl⟩ l 0 0 _ _ _ _ _ _ _ _ _ _ _ _ _ _ _ _ _ _ _ _ _ _ _ _ _ _ _ _ _ _ _ _ _ _ _ _ _ _ _ _ _ _ _ _ _ _ _ _ _ _ _ _ _ _ _ _ _ _ _ _ _ _ _ _ _ _ _ _ _ _ _ _ rfl (by omega) (by omega) (by omega) rfl⟩
def cmpNod (i:Nat) (w:Int) (j:Nat) (x:Int):Nod:=⟨0,UInt8.ofNat i,[],w,UInt8.ofNat j,x,0,0⟩
def nodZ:List Value:=[.int .u8 0,.int .u8 0,.slice none 0 0,i64 0,.int .u8 0,i64 0,i64 0,i64 0]
theorem arr_strs {H:AHeap} (l:List (List UInt8)) (T:TypeId) (n:Nat) (hn:n=l.length):Arr (H++[AObj.cells (l.map str) T]) 1 (.slice (some ⟨H.length,0,some n⟩) n n) (strCells l):=by
 subst hn
 refine .mk H.length 0 _ _ _ (l.map str) _ (by simp [strCells]) (by simp [hcells_eq,AObj.rcells]) (by simp) (by simp) fun i e hi=>?_
 simp [strCells] at hi
 obtain ⟨b,hb,rfl⟩:=hi
 rw [Nat.zero_add,Nat.mul_one,← List.map_drop,← List.map_take]
 have:(l.drop i).take 1=[b]:=by
  have hlt:=(List.getElem?_eq_some_iff.1 hb).1
  rw [List.drop_eq_getElem_cons hlt,(List.getElem?_eq_some_iff.1 hb).2];rfl
 rw [this];rfl
end Go.Vi
namespace Go.Vi
open Go Go.Proofs Go.Proofs.Tryz
theorem aLoad_gl {P:Program} {H:AHeap} {T:TypeId} {g o b n:Nat} (h:gFind H g 0=some (b,n)):aLoad P H T (.pointer (some ⟨g,o,none⟩))=aLoad P H T (.pointer (some ⟨b,o,some n⟩)):=by
 unfold aLoad deG;simp only [h]
theorem aIndexAddr_gl {P:Program} {H:AHeap} {T:TypeId} {g o b n:Nat} {x:Value} (h:gFind H g 0=some (b,n)):aIndexAddr P H T (.pointer (some ⟨g,o,none⟩)) x=aIndexAddr P H T (.pointer (some ⟨b,o,some n⟩)) x:=by
 unfold aIndexAddr deG;simp only [h]
def pow10s:List Value:=(List.range 20).map fun i=>.int .u64 (10 ^ i)
def Gs:AHeap:=[.gl 2 [unkV],.gl 3 [unkV],.gl 1 pow10s]
theorem gs_syn {H:AHeap} (h:Pre Gs H):gFind H 2 0=some (0,1)∧hcells H 0=some [unkV]:=by
 obtain ⟨X,rfl⟩:=h;exact ⟨gFind_app (by rfl),hcells_more (by rfl)⟩
theorem gs_ran {H:AHeap} (h:Pre Gs H):gFind H 3 0=some (1,1)∧hcells H 1=some [unkV]:=by
 obtain ⟨X,rfl⟩:=h;exact ⟨gFind_app (by rfl),hcells_more (by rfl)⟩
theorem gs_pow {H:AHeap} (h:Pre Gs H):gFind H 1 0=some (2,20)∧hcells H 2=some pow10s:=by
 obtain ⟨X,rfl⟩:=h;exact ⟨gFind_app (by rfl),hcells_more (by rfl)⟩
theorem unk_sto:storable unkV=true:=rfl
theorem unk_cel:unkV.cells = #[unkV]:=rfl
theorem c_clone (H:AHeap) {s:List UInt8} (hs:s.length < 2 ^ 40):ACalls prog 189 [str s] H (str s) H:=by
 refine acalls_pure MixT func189 (by decide) rfl ?_
 rw [d189]
 cases s with
 | nil=>simp
 | cons b r =>
   simp only [List.length_cons] at hs
   have hz:zcells prog 5=some #[.int .u8 0]:=by kernel_rfl
   have h1:¬ ((r.length:Int)+1=0):=by omega
   have h2:(r.length:Int)+1≤9223372036854775807:=by omega
   have h3:(r.length:Int)+1≤140737488355328:=by omega
   have hmk:aMake prog H 55 (i64 ((r.length:Int)+1)) (i64 ((r.length:Int)+1))=some (.slice (some ⟨H.length,0,some (r.length+1)⟩) (r.length+1) (r.length+1),H++[.cells (repCells #[.int .u8 0] (r.length+1)).toList 5]):=by
    have e:((r.length:Int)+1).toNat=r.length+1:=by omega
    simp [aMake,hz,h2,h3,e]
    omega
   have hrl:(repCells #[.int .u8 0] (r.length+1)).toList.length=r.length+1:=by simp [repCells]
   have h1':((r.length:Int)+1 == 0)=false:=by simpa using h1
   have hce:prog.cellsOf 5=1:=by kernel_rfl
   have hu:u8l (bcells (b :: r))=some (b :: r):=u8l_bcells _
   have hcp:aBuiltin prog (H++[.cells (repCells #[.int .u8 0] (r.length+1)).toList 5]) .copy #[55,9] [.slice (some ⟨H.length,0,some (r.length+1)⟩) (r.length+1) (r.length+1),str (b :: r)] =
     some (i64 ((r.length:Int)+1),H++[.cells (bcells (b :: r)) 5]):=by
    simp [aBuiltin,aCopy,aSrc,hrl,bytesL,bcells]
   have hbl:(bcells (b :: r)).length=r.length+1:=by simp [bcells]
   have htk:(bcells (b :: r)).take (r.length+1)=bcells (b :: r):=by rw [← hbl,List.take_length]
   have e2:((r.length:Int)+1).toNat=r.length+1:=by omega
   have hus:aBuiltin prog (H++[.cells (bcells (b :: r)) 5]) .unsafeString #[157,3] [.pointer (some ⟨H.length,0,some (r.length+1)⟩),i64 ((r.length:Int)+1)]=some (str (b :: r),H++[.ro (bcells (b :: r))]):=by
    simp [aBuiltin,aUnsafeString,hce,hbl,h2,e2,htk,hu]
   have hia:aIndexAddr prog (H++[.cells (bcells (b :: r)) 5]) 55 (.slice (some ⟨H.length,0,some (r.length+1)⟩) (r.length+1) (r.length+1)) (.int .i64 0)=some (.pointer (some ⟨H.length,0,some (r.length+1)⟩)):=by
    rw [aIndexAddr_eq (e:=5) (z:=1) (by simp) (by simp) (by simp [hbl]) (by omega) (by omega)];rfl
   simp [h1',hmk,hcp,hia,hus]
theorem c_synErr {H:AHeap} (hg:Pre Gs H) {s f:List UInt8} (hs:s.length < 2 ^ 40) :
  ∃ v K',(∃ p,v=.pointer (some p))∧Pre H K'∧ACalls prog 175 [str f,str s] H v K':=by
 suffices h:∃ v K',((∃ p,v=.pointer (some p))∧Pre H K')∧ACalls prog 175 [str f,str s] H v K' by
  obtain ⟨v,K',⟨h1,h2⟩,h3⟩:=h;exact ⟨v,K',h1,h2,h3⟩
 refine acalls_ex MixT func175 (by decide) ?_
 rw [d175]
 obtain ⟨g1,g2⟩:=gs_syn hg
 refine bndD_same (c_clone H hs) ?_
 simp [aLoad_gl g1,g2,unk_sto,unk_cel]
 refine bndD_of (v:=_) (H':=_) (aNew_agg rfl) (.inl rfl) ?_
 exact ⟨⟨_,rfl⟩,.app _ _⟩
theorem c_ranErr {H:AHeap} (hg:Pre Gs H) {s f:List UInt8} (hs:s.length < 2 ^ 40) :
  ∃ v K',(∃ p,v=.pointer (some p))∧Pre H K'∧ACalls prog 176 [str f,str s] H v K':=by
 suffices h:∃ v K',((∃ p,v=.pointer (some p))∧Pre H K')∧ACalls prog 176 [str f,str s] H v K' by
  obtain ⟨v,K',⟨h1,h2⟩,h3⟩:=h;exact ⟨v,K',h1,h2,h3⟩
 refine acalls_ex MixT func176 (by decide) ?_
 rw [d176]
 obtain ⟨g1,g2⟩:=gs_ran hg
 refine bndD_same (c_clone H hs) ?_
 simp [aLoad_gl g1,g2,unk_sto,unk_cel]
 refine bndD_of (v:=_) (H':=_) (aNew_agg rfl) (.inl rfl) ?_
 exact ⟨⟨_,rfl⟩,.app _ _⟩
abbrev nerr (n:Int):Value:=.iface 205 (i64 n)
theorem nerr_eql (H:AHeap) (x y:Operand):aBin2 prog H .eql 118 x y (nerr 2) (nerr 2)=some (.bool true)∧aBin2 prog H .eql 118 x y (nerr 1) (nerr 2)=some (.bool false)∧aBin2 prog H .eql 118 x y (nerr 1) (nerr 1)=some (.bool true):=⟨by kernel_rfl,by kernel_rfl,by kernel_rfl⟩
theorem nerr_neq (H:AHeap) (x y:Operand):aBin2 prog H .neq 118 x y (nerr 1) (nerr 1)=some (.bool false)∧aBin2 prog H .neq 118 x y (nerr 2) (nerr 1)=some (.bool true):=⟨by kernel_rfl,by kernel_rfl⟩
theorem nerr_nil (H:AHeap) (x:Operand) (c:Value) (n:Int):aBin2 prog H .neq 118 x (.const c) (nerr n) .nilIface=some (.bool true):=by kernel_rfl
theorem c_toError {H:AHeap} (hg:Pre Gs H) {s f:List UInt8} {n a b:Int} (hn:n=1∨n=2) (hs:s.length < 2 ^ 40) :
  ∃ v K',(∃ p,v=.iface 208 (.pointer (some p)))∧Pre H K'∧ACalls prog 154 [str f,str s,i64 a,i64 b,nerr n] H v K':=by
 suffices h:∃ v K',((∃ p,v=.iface 208 (.pointer (some p)))∧Pre H K')∧ACalls prog 154 [str f,str s,i64 a,i64 b,nerr n] H v K' by
  obtain ⟨v,K',⟨h1,h2⟩,h3⟩:=h;exact ⟨v,K',h1,h2,h3⟩
 refine acalls_ex MixT func154 (by decide) ?_
 rw [d154]
 rcases hn with rfl | rfl
 · obtain ⟨v,K',⟨p,rfl⟩,h2,h3⟩:=c_ranErr (f:=f) hg hs
   simp [nerr_eql]
   exact bndC_of h3 ⟨⟨_,rfl⟩,h2⟩
 · obtain ⟨v,K',⟨p,rfl⟩,h2,h3⟩:=c_synErr (f:=f) hg hs
   simp [nerr_eql]
   exact bndC_of h3 ⟨⟨_,rfl⟩,h2⟩
def maxU:Int:=18446744073709551615
theorem c_lower46 (H:AHeap):ACalls prog 197 [.int .u8 46] H (.int .u8 46) H:=by
 refine acalls_pure MixT func197 (by decide) rfl ?_
 rw [d197]
 refine bnd_of (v:=.int .u8 46) (by kernel_rfl) ?_
 exact ⟨rfl,[],by simp⟩
def puF (n:Int):List UInt8→Int × Int
 | []=>(n,0)
 | d :: r=>if isDig d=false then (0,2) else if n ≥ 1844674407370955162 then (maxU,1) else if n*10+((d.toNat:Int)-48) > maxU then (maxU,1) else puF (n*10+((d.toNat:Int)-48)) r
def perr (c:Int):Value:=if c=0 then .nilIface else nerr c
theorem perr_clos (c:Int):clos (perr c)=true:=by unfold perr;split<;>rfl
theorem pu_loop {H:AHeap} {v:Value} {l:List UInt8} {k:Value→AHeap→Prop} (ha:Arr H 1 v (l.map fun b=>[byt b])) (hl:l.length < 2 ^ 62) (hd:∀ b∈l,isDig b=true∨b=46) (w:Int × Int)
  (hk:k (.tuple #[.int .u64 w.1,perr w.2]) H) :
  ∀ (r : List UInt8) (i : Nat) (n : Int) (s0 s2 s3 s4 s5 s6 s7 s9 aI aJ aK aL aM aN aO aP aQ aR aS aT aU aV aW aX aY aZ a0 a1 a2 a3 a4 a5 a6 a7 a8 a9 ba bb bc bd be bf bg bh bi bj bk bl bm bn bo bp bq br bs bt bu bv bw bx bz bA bB bC bD bE bF bG bH bI bJ bK bL bM bN bO bP bQ bR bS bT bU bV bW bX bY bZ b0 b1 b2 b3 b4 b5 a c e f g h j m o p s t u y z A B C D E F G I J K L M N O Q R S U V W X Y Z aa ab ac ad ae af ag ah ai aj ak al am an ao ap aq ar au av aw ax ay az aA aB aC aD aE aF aG aH : Value), l.drop i = r → i ≤ l.length → 0 ≤ n → n ≤ maxU → w = puF n r →
    L188x0 (r.length+1) k [s0,i64 10,s2,s3,s4,s5,s6,s7,.bool false,s9,.int .u64 1844674407370955162,.int .u64 18446744073709551615,.bool false,.int .u64 n,aI,aJ,aK,aL,aM,aN,aO,aP,aQ,aR,aS,aT,aU,aV,aW,aX,aY,aZ,a0,a1,a2,a3,a4,a5,a6,a7,a8,a9,ba,bb,bc,bd,be,bf,bg,bh,bi,bj,bk,bl,bm,bn,bo,bp,bq,br,bs,bt,bu,bv,bw,bx,bz,bA,bB,bC,bD,bE,bF,bG,bH,bI,bJ,bK,bL,bM,bN,bO,bP,bQ,bR,bS,bT,bU,bV,bW,bX,bY,bZ,b0,b1,b2,b3,b4,b5,v,i64 l.length,i64 i,a,c,e,f,g,h,j,m,o,p,s,t,u,y,z,A,B,C,D,E,F,G,I,J,K,L,M,N,O,Q,R,S,U,V,W,X,Y,Z,aa,ab,ac,ad,ae,af,ag,ah,ai,aj,ak,al,am,an,ao,ap,aq,ar,au,av,aw,ax,ay,az,aA,aB,aC,aD,aE,aF,aG,aH] H:=by
 intro r
 induction r with
 | nil =>
   intro i n s0 s2 s3 s4 s5 s6 s7 s9 aI aJ aK aL aM aN aO aP aQ aR aS aT aU aV aW aX aY aZ a0 a1 a2 a3 a4 a5 a6 a7 a8 a9 ba bb bc bd be bf bg bh bi bj bk bl bm bn bo bp bq br bs bt bu bv bw bx bz bA bB bC bD bE bF bG bH bI bJ bK bL bM bN bO bP bQ bR bS bT bU bV bW bX bY bZ b0 b1 b2 b3 b4 b5 a c e f g h j m o p s t u y z A B C D E F G I J K L M N O Q R S U V W X Y Z aa ab ac ad ae af ag ah ai aj ak al am an ao ap aq ar au av aw ax ay az aA aB aC aD aE aF aG aH hdr hi hn1 hn2 hw
   have hle:l.length≤i:=by simpa using hdr
   rw [List.length_nil,L188x0q]
   have:¬ i < l.length:=by omega
   simp only [puF] at hw
   subst hw
   simp [this]
   exact hk
 | cons d r ih =>
   intro i n s0 s2 s3 s4 s5 s6 s7 s9 aI aJ aK aL aM aN aO aP aQ aR aS aT aU aV aW aX aY aZ a0 a1 a2 a3 a4 a5 a6 a7 a8 a9 ba bb bc bd be bf bg bh bi bj bk bl bm bn bo bp bq br bs bt bu bv bw bx bz bA bB bC bD bE bF bG bH bI bJ bK bL bM bN bO bP bQ bR bS bT bU bV bW bX bY bZ b0 b1 b2 b3 b4 b5 a c e f g h j m o p s t u y z A B C D E F G I J K L M N O Q R S U V W X Y Z aa ab ac ad ae af ag ah ai aj ak al am an ao ap aq ar au av aw ax ay az aA aB aC aD aE aF aG aH hdr hi hn1 hn2 hw
   have hb:l[i]?=some d:=by rw [← List.head?_drop,hdr];rfl
   have hlt:i < l.length:=(List.getElem?_eq_some_iff.1 hb).1
   obtain ⟨q,hp1,hp2⟩:=ha.load1 (P:=prog) (T:=55) (te:=5) (i:=i) (x:=byt d) (by simp) (by simp) (by simp) (by rw [List.getElem?_map,hb];rfl)
   rw [List.length_cons,L188x0q]
   rcases hd d (List.mem_of_getElem? hb) with hdd | rfl
   · have hdd2:=hdd
     simp only [isDig,Bool.and_eq_true,decide_eq_true_eq] at hdd
     have w1:IntKind.u8.wrap ((d.toNat:Int)-48)=(d.toNat:Int)-48:=wrap_u8 (by omega) (by omega)
     have h95:((d.toNat:Int) == 95)=false:=by simp;omega
     have w10:IntKind.u8.wrap 10=10:=by decide
     have v10:IntKind.u64.wrap 10=10:=by decide
     have wu:∀ x:Int,0≤x→x≤maxU→IntKind.u64.wrap x=x:=by
      intro x h1 h2
      unfold maxU at h2
      unfold IntKind.wrap
      simp only [show IntKind.u64.bits=64 from rfl,show IntKind.u64.signed=false from rfl]
      simp
      omega
     have w2:IntKind.u64.wrap ((d.toNat:Int)-48)=(d.toNat:Int)-48:=wu _ (by omega) (by unfold maxU;omega)
     have h10:¬ ((d.toNat:Int)-48 ≥ 10):=by omega
     simp only [puF,hdd2,Bool.true_eq_false,if_false] at hw
     simp [hlt,hp1,hp2,h95,hdd.1,hdd.2,w1]
     rw [S188x3q]
     have h10':¬ (10≤(d.toNat:Int)-48):=by omega
     simp [convV_int,w10,h10']
     refine kifB_bool (fun hc=>?_) (fun hc=>?_)
     · have hc':n ≥ 1844674407370955162:=by simpa using hc
       rw [if_pos hc'] at hw
       subst hw
       exact hk
     · have hc':¬ n ≥ 1844674407370955162:=by simpa using hc
       rw [if_neg hc'] at hw
       have w3:IntKind.u64.wrap (n*10)=n*10:=wu _ (by omega) (by unfold maxU;omega)
       by_cases hs:n*10+((d.toNat:Int)-48) > maxU
       · rw [if_pos hs] at hw
         subst hw
         have w4:IntKind.u64.wrap (n*10+((d.toNat:Int)-48))=n*10+((d.toNat:Int)-48)-18446744073709551616:=by
          unfold maxU at hs
          unfold IntKind.wrap
          simp only [show IntKind.u64.bits=64 from rfl,show IntKind.u64.signed=false from rfl]
          simp
          omega
         have h5:n*10+((d.toNat:Int)-48)-18446744073709551616 < n*10:=by omega
         simp [v10,w2,w3,w4,h5]
         exact hk
       · rw [if_neg hs] at hw
         have w4:IntKind.u64.wrap (n*10+((d.toNat:Int)-48))=n*10+((d.toNat:Int)-48):=wu _ (by omega) (by omega)
         have h5:¬ n*10+((d.toNat:Int)-48) < n*10:=by omega
         have h6:¬ (18446744073709551615 < n*10+((d.toNat:Int)-48)):=by unfold maxU at hs;omega
         simp [v10,w2,w3,w4,h5,h6]
         rw [S188x4q]
         simp [show i+1 < 2 ^ 63 by omega]
         exact ih (i+1) _ _ _ _ _ _ _ _ _ _ _ _ _ _ _ _ _ _ _ _ _ _ _ _ _ _ _ _ _ _ _ _ _ _ _ _ _ _ _ _ _ _ _ _ _ _ _ _ _ _ _ _ _ _ _ _ _ _ _ _ _ _ _ _ _ _ _ _ _ _ _ _ _ _ _ _ _ _ _ _ _ _ _ _ _ _ _ _ _ _ _ _ _ _ _ _ _ _ _ _ _ _ _ _ _ _ _ _ _ _ _ _ _ _ _ _ _ _ _ _ _ _ _ _ _ _ _ _ _ _ _ _ _ _ _ _ _ _ _ _ _ _ _ _ _ _ _ _ _ _ _ _ _ _ _ _ _ _ _ _ _ _ _ _ (by rw [← List.drop_drop,hdr];rfl) hlt (by omega) (by omega) hw
   · simp only [puF,show isDig 46=false by decide,if_true] at hw
     subst hw
     have e46:((46:UInt8).toNat:Int)=46:=rfl
     have hp2':aLoad prog H 5 q=some (.int .u8 46):=hp2
     simp [hlt,hp1,hp2']
     refine bndC_of (c_lower46 H) ?_
     simp
     exact hk
theorem c_parseUint {H:AHeap} {l:List UInt8} (hl:l.length < 2 ^ 40) (hne:l≠[]) (hd:∀ b∈l,isDig b=true∨b=46) :
  ACalls prog 188 [str l,i64 10,i64 0] H (.tuple #[.int .u64 (puF 0 l).1,perr (puF 0 l).2]) H:=by
 refine acallsT_pure MixT func188 (by decide) (by simp [flat,perr_clos];rfl) ?_
 rw [d188]
 simp [hne]
 rw [S188x0q]
 simp
 rw [S188x1q]
 simp
 rw [S188x2q]
 have hcv:aConv prog H 9 55 (str l)=some (.slice (some ⟨H.length,0,some l.length⟩) l.length l.length,H++[sbO 5 ⟨l.toArray⟩]):=by
  have hu:isU8 prog 5=true:=by kernel_rfl
  simp [aConv,hu]
 have w1:IntKind.u64.wrap 64=64:=by decide
 have w2:∀ (x y:Operand),aBin2 prog H .shl 178 x y (.int .u64 1) (.int .u64 64)=some (.int .u64 0):=fun x y=>by
  rw [aBin_shl _ _ _ _ _ _ _ (by omega)];rfl
 have w3:IntKind.u64.wrap (0-1)=18446744073709551615:=by decide
 have w4:IntKind.u64.wrap (-1)=18446744073709551615:=by decide
 simp [convV_int,hcv,w1,w2,w4]
 exact ⟨l.length+1,pu_loop (arr_bytes l) (by omega) hd (puF 0 l) ⟨rfl,[_],rfl⟩ l 0 0 _ _ _ _ _ _ _ _ _ _ _ _ _ _ _ _ _ _ _ _ _ _ _ _ _ _ _ _ _ _ _ _ _ _ _ _ _ _ _ _ _ _ _ _ _ _ _ _ _ _ _ _ _ _ _ _ _ _ _ _ _ _ _ _ _ _ _ _ _ _ _ _ _ _ _ _ _ _ _ _ _ _ _ _ _ _ _ _ _ _ _ _ _ _ _ _ _ _ _ _ _ _ _ _ _ _ _ _ _ _ _ _ _ _ _ _ _ _ _ _ _ _ _ _ _ _ _ _ _ _ _ _ _ _ _ _ _ _ _ _ _ _ _ _ _ _ _ _ _ _ _ _ _ _ _ _ _ _ _ _ _ _ _ rfl (by omega) (by omega) (by unfold maxU;omega) rfl⟩
def piF (l:List UInt8):Int × Int:=if (puF 0 l).2=2 then (0,2) else if (puF 0 l).1 ≥ 9223372036854775808 then (9223372036854775807,1) else ((puF 0 l).1,0)
theorem puF_cases:∀ (l:List UInt8) (n:Int),0≤n→n≤maxU→((puF n l).2=0∧l.all isDig=true∧(puF n l).1=natF n l∧0≤natF n l∧natF n l≤maxU)∨((puF n l).2=1∧(puF n l).1=maxU∧(l.all isDig=true→maxU < natF n l))∨((puF n l).2=2∧(puF n l).1=0∧l.all isDig=false):=by
 intro l
 induction l with
 | nil=>intro n h1 h2;exact .inl ⟨rfl,rfl,rfl,h1,h2⟩
 | cons d r ih =>
   intro n h1 h2
   have mono:∀ (r:List UInt8) (m:Int),r.all isDig=true→maxU < m→maxU < natF m r:=by
    intro r
    induction r with
    | nil=>intro m _ h;exact h
    | cons e r ih2 =>
      intro m h hm
      simp only [List.all_cons,Bool.and_eq_true,isDig,decide_eq_true_eq] at h
      simp only [natF]
      refine ih2 _ (by simpa [isDig] using h.2) ?_
      unfold maxU at hm ⊢
      omega
   by_cases hd:isDig d=true
   · have hdd:=hd
     simp only [isDig,Bool.and_eq_true,decide_eq_true_eq] at hdd
     have e:n*10+((d.toNat:Int)-48)=10*n+((d.toNat:Int)-48):=by omega
     simp only [puF,hd,Bool.true_eq_false,if_false,natF,List.all_cons,Bool.true_and,e]
     by_cases hc:n ≥ 1844674407370955162
     · rw [if_pos hc]
       exact .inr (.inl ⟨rfl,rfl,fun h=>mono r _ h (by unfold maxU;omega)⟩)
     · rw [if_neg hc]
       by_cases hs:10*n+((d.toNat:Int)-48) > maxU
       · rw [if_pos hs]
         exact .inr (.inl ⟨rfl,rfl,fun h=>mono r _ h hs⟩)
       · rw [if_neg hs]
         exact ih _ (by omega) (by omega)
   · have hd':isDig d=false:=by simpa using hd
     simp only [puF,hd',if_true,List.all_cons,Bool.false_and]
     exact .inr (.inr ⟨by simp,by simp,by simp⟩)
theorem c_parseInt0 (H:AHeap):ACalls prog 174 [str [],i64 10,i64 0] H (.tuple #[i64 0,nerr 2]) H:=by
 refine acallsT_pure MixT func174 (by decide) rfl ?_
 rw [d174]
 simp
theorem c_parseInt {H:AHeap} {l:List UInt8} {d0:UInt8} {r:List UInt8} (hl:l.length < 2 ^ 40) (hlr:l=d0 :: r) (h0:isDig d0=true) (hd:∀ b∈l,isDig b=true∨b=46) :
  ACalls prog 174 [str l,i64 10,i64 0] H (.tuple #[i64 (piF l).1,perr (piF l).2]) H:=by
 refine acallsT_pure MixT func174 (by decide) (by simp [flat,perr_clos];rfl) ?_
 rw [d174]
 have hne:l≠[]:=by rw [hlr];simp
 have hb:l[0]?=some d0:=by rw [hlr];rfl
 have hix:=aIndex_at (P:=prog) (T:=9) (k:=.i64) (i:=0) (by simp) hb
 have hdd:=h0
 simp only [isDig,Bool.and_eq_true,decide_eq_true_eq] at hdd
 have h45:((d0.toNat:Int) == 45)=false:=by simp;omega
 have h43:((d0.toNat:Int) == 43)=false:=by simp;omega
 simp at hix
 simp [hne,hix,h45,h43]
 rw [S174x0q]
 refine bndC_of (c_parseUint hl hne hd) ?_
 have hu:=tu118
 have w63:∀ (x y:Operand),aBin2 prog H .shl 178 x y (.int .u64 1) (.int .u64 63)=some (.int .u64 9223372036854775808):=fun x y=>by
  rw [aBin_shl _ _ _ _ _ _ _ (by omega)];rfl
 have v1:IntKind.i64.wrap 63=63:=by decide
 have v2:IntKind.u64.wrap 63=63:=by decide
 have v3:IntKind.u64.wrap 9223372036854775807=9223372036854775807:=by decide
 have v4:IntKind.i64.wrap 9223372036854775807=9223372036854775807:=by decide
 have v0:IntKind.i64.wrap (64-1)=63:=by decide
 have v5:IntKind.u64.wrap (9223372036854775808-1)=9223372036854775807:=by decide
 have hif:ifaceV prog 205 (.int .i64 1)=some (nerr 1):=by kernel_rfl
 rcases puF_cases l 0 (by omega) (by unfold maxU;omega) with ⟨q1,q2,q3,q4,q5⟩ | ⟨q1,q2,q3⟩ | ⟨q1,q2,q3⟩
 · simp [q1,perr,aBin_nilifn hu]
   rw [S174x1q]
   simp [v1,v2,w63,convV_int]
   refine kifB_bool (fun hc=>?_) (fun hc=>?_)
   · have hc':(puF 0 l).1 ≥ 9223372036854775808:=by simpa using hc
     simp [v3,v4,convV_int,piF,q1,hc']
   · have hc':¬ 9223372036854775808≤(puF 0 l).1:=by simpa using hc
     have v6:IntKind.i64.wrap (puF 0 l).1=(puF 0 l).1:=wrap_i64 (by omega) (by omega)
     simp [convV_int,v6]
     rw [S174x2q]
     simp [piF,q1,hc']
 · simp [q1,perr,nerr_nil,nerr_neq,hif]
   rw [S174x1q]
   simp [v1,v2,v3,v4,w63,convV_int,q2,maxU,piF,q1]
 · simp [q1,perr,nerr_nil,nerr_neq,piF,hif]
def atoF (l:List UInt8):Option Int:=if l≠[]∧l.all isDig=true∧natF 0 l≤9223372036854775807 then some (natF 0 l) else none
theorem piF_ato {l:List UInt8} (hne:l≠[]):(∃ n,atoF l=some n∧piF l=(n,0))∨(atoF l=none∧((piF l).2=1∨(piF l).2=2)):=by
 unfold atoF piF
 rcases puF_cases l 0 (by omega) (by unfold maxU;omega) with ⟨q1,q2,q3,q4,q5⟩ | ⟨q1,q2,q3⟩ | ⟨q1,q2,q3⟩
 · rw [q3]
   by_cases hc:natF 0 l≤9223372036854775807
   · exact .inl ⟨natF 0 l,by simp [hne,q2,hc],by simp [q1];omega⟩
   · exact .inr ⟨by simp [hne,q2];omega,.inl (by rw [q1,if_neg (by omega),if_pos (by omega)])⟩
 · right
   refine ⟨?_,.inl (by simp [q1,q2,maxU])⟩
   by_cases hd:l.all isDig=true
   · have:=q3 hd
     simp [hne,hd]
     unfold maxU at this
     omega
   · simp [hne]
     intro h
     exact absurd (by simpa using h) hd
 · right
   refine ⟨?_,.inr (by simp [q1])⟩
   simp [q3]
theorem atoi_slow {H:AHeap} {l:List UInt8} (hl:l.length < 2 ^ 40) (h19:l=[]∨19≤l.length) {x:Int} {e:Value} (hc:clos e=true) (hp:ACalls prog 174 [str l,i64 10,i64 0] H (.tuple #[i64 x,e]) H) :
  ACalls prog 153 [str l] H (.tuple #[i64 x,e]) H:=by
 refine acallsT_pure MixT func153 (by decide) (by simp [flat,hc];rfl) ?_
 rw [d153]
 rcases h19 with rfl | h19
 · simp
   exact bndC_of hp (by simp)
 · have h1:¬ ((l.length:Int) < 19):=by omega
   have h2:(0:Int) < l.length:=by omega
   have h3:0 < l.length:=by omega
   simp [h1,h3]
   exact bndC_of hp (by simp)
theorem atoi_loop2 {H:AHeap} {v:Value} {l:List UInt8} {k:Value→AHeap→Prop} (ha:Arr H 1 v (l.map fun b=>[byt b])) (hl:l.length≤18) (hd:∀ b∈l,isDig b=true∨b=46)
  (hk:k (.tuple #[i64 0,nerr 2]) H) :
  ∀ (r : List UInt8) (i : Nat) (n : Int) (s0 s1 s2 s3 s4 s7 s8 s9 a c e f g j m o p s t u w y z A B C D E F G I J K L M N O Q R S U V W X Y Z aa ab ac ad ae af ag ah ai aj ak al am an ao ap aq ar au av aw ax ay az aA aB : Value), l.drop i = r → i ≤ l.length → 0 ≤ n → n < 10 ^ i → r.all isDig = false →
    L153x0 (r.length+1) k [s0,s1,s2,s3,s4,str l,i64 n,s7,s8,s9,a,c,e,f,g,j,m,o,p,s,t,u,w,y,z,A,B,C,D,E,F,G,I,J,K,L,M,N,O,Q,R,S,U,V,W,X,Y,v,i64 l.length,i64 i,Z,aa,ab,ac,ad,ae,af,ag,ah,ai,aj,ak,al,am,an,ao,ap,aq,ar,au,av,aw,ax,ay,az,aA,aB] H:=by
 intro r
 induction r with
 | nil=>intro i n s0 s1 s2 s3 s4 s7 s8 s9 a c e f g j m o p s t u w y z A B C D E F G I J K L M N O Q R S U V W X Y Z aa ab ac ad ae af ag ah ai aj ak al am an ao ap aq ar au av aw ax ay az aA aB _ _ _ _ h;simp at h
 | cons d r ih =>
   intro i n s0 s1 s2 s3 s4 s7 s8 s9 a c e f g j m o p s t u w y z A B C D E F G I J K L M N O Q R S U V W X Y Z aa ab ac ad ae af ag ah ai aj ak al am an ao ap aq ar au av aw ax ay az aA aB hdr hi hn1 hn2 hw
   have hb:l[i]?=some d:=by rw [← List.head?_drop,hdr];rfl
   have hlt:i < l.length:=(List.getElem?_eq_some_iff.1 hb).1
   obtain ⟨q,hp1,hp2⟩:=ha.load1 (P:=prog) (T:=55) (te:=5) (i:=i) (x:=byt d) (by simp) (by simp) (by simp) (by rw [List.getElem?_map,hb];rfl)
   rw [List.length_cons,L153x0q]
   rcases hd d (List.mem_of_getElem? hb) with hdd | rfl
   · have hall:r.all isDig=false:=by simpa [hdd] using hw
     simp only [isDig,Bool.and_eq_true,decide_eq_true_eq] at hdd
     have w1:IntKind.u8.wrap ((d.toNat:Int)-48)=(d.toNat:Int)-48:=wrap_u8 (by omega) (by omega)
     have w2:IntKind.i64.wrap ((d.toNat:Int)-48)=(d.toNat:Int)-48:=wrap_i64 (by omega) (by omega)
     have hp:(10:Int) ^ (i+1)≤10 ^ 18:=by exact_mod_cast Nat.pow_le_pow_right (by omega:0 < 10) (by omega:i+1≤18)
     have hpe:(10:Int) ^ (i+1)=10 ^ i*10:=Int.pow_succ ..
     have w3:IntKind.i64.wrap (n*10)=n*10:=wrap_i64 (by omega) (by omega)
     have w4:IntKind.i64.wrap (n*10+((d.toNat:Int)-48))=n*10+((d.toNat:Int)-48):=wrap_i64 (by omega) (by omega)
     have h9:¬ (9 < (d.toNat:Int)-48):=by omega
     simp [hlt,hp1,hp2,w1,w2,w3,w4,h9,convV_int,show i+1 < 2 ^ 63 by omega]
     exact ih (i+1) _ _ _ _ _ _ _ _ _ _ _ _ _ _ _ _ _ _ _ _ _ _ _ _ _ _ _ _ _ _ _ _ _ _ _ _ _ _ _ _ _ _ _ _ _ _ _ _ _ _ _ _ _ _ _ _ _ _ _ _ _ _ _ _ _ _ _ _ _ _ _ _ _ (by rw [← List.drop_drop,hdr];rfl) hlt (by omega) (by omega) hall
   · have hp2':aLoad prog H 5 q=some (.int .u8 46):=hp2
     have w1:IntKind.u8.wrap (46-48)=254:=by decide
     simp [hlt,hp1,hp2']
     exact hk
theorem natF_lt:∀ (l:List UInt8) (n:Int),0≤n→l.all isDig=true→natF n l < (n+1)*10 ^ l.length:=by
 intro l
 induction l with
 | nil=>intro n h _;simp [natF];omega
 | cons d r ih =>
   intro n h hd
   simp only [List.all_cons,Bool.and_eq_true] at hd
   have hdd:=hd.1
   simp only [isDig,Bool.and_eq_true,decide_eq_true_eq] at hdd
   have h1:=ih (10*n+((d.toNat:Int)-48)) (by omega) hd.2
   simp only [natF,List.length_cons,Int.pow_succ]
   have h2:(10*n+((d.toNat:Int)-48)+1)*10 ^ r.length≤((n+1)*10)*10 ^ r.length:=Int.mul_le_mul_of_nonneg_right (by omega) (Int.le_of_lt (Int.pow_pos (by omega)))
   have e:(n+1)*(10 ^ r.length*10)=((n+1)*10)*10 ^ r.length:=by rw [Int.mul_assoc,Int.mul_comm (10 ^ r.length) 10]
   omega
theorem c_atoi0bad {H:AHeap} {l:List UInt8} {b0:UInt8} (hb0:l[0]?=some b0) (hdd0:isDig b0=true) (hl:l.length≤18) (hd:∀ b∈l,isDig b=true∨b=46) (hbad:l.all isDig=false):ACalls prog 153 [str l] H (.tuple #[i64 0,nerr 2]) H:=by
 refine acallsT_pure MixT func153 (by decide) rfl ?_
 rw [d153]
 have hix:=aIndex_at (P:=prog) (T:=9) (k:=.i64) (i:=0) (by simp) hb0
 have hdd:=hdd0
 simp only [isDig,Bool.and_eq_true,decide_eq_true_eq] at hdd
 have h45:((b0.toNat:Int) == 45)=false:=by simp;omega
 have h43:((b0.toNat:Int) == 43)=false:=by simp;omega
 have hlt:=(List.getElem?_eq_some_iff.1 hb0).1
 have q2:(l.length:Int) < 19:=by omega
 have q3:0 < l.length:=by omega
 simp at hix
 simp [q2,q3,hix,h45,h43]
 rw [S153x0q]
 have hcv:aConv prog H 9 55 (str l)=some (.slice (some ⟨H.length,0,some l.length⟩) l.length l.length,H++[sbO 5 ⟨l.toArray⟩]):=by
  have hu:isU8 prog 5=true:=by kernel_rfl
  simp [aConv,hu]
 simp [hcv]
 exact ⟨l.length+1,atoi_loop2 (arr_bytes l) hl hd ⟨rfl,[_],rfl⟩ l 0 0 _ _ _ _ _ _ _ _ _ _ _ _ _ _ _ _ _ _ _ _ _ _ _ _ _ _ _ _ _ _ _ _ _ _ _ _ _ _ _ _ _ _ _ _ _ _ _ _ _ _ _ _ _ _ _ _ _ _ _ _ _ _ _ _ _ _ _ _ _ _ _ _ rfl (by omega) (by omega) (by omega) hbad⟩
theorem c_atoiG {H:AHeap} (hg:Pre Gs H) {l:List UInt8} (hl:l.length < 2 ^ 40) (h0:∀ b r,l=b :: r→isDig b=true) (hd:∀ b∈l,isDig b=true∨b=46) :
  ∃ x e K',((∃ n,atoF l=some n∧x=n∧e=.nilIface)∨(atoF l=none∧∃ t p,e=.iface t (.pointer (some p))))∧Pre H K'∧ACalls prog 129 [str l] H (.tuple #[i64 x,e]) K':=by
 have hu:=tu118
 have key:∀ {x:Int} {c:Int},ACalls prog 153 [str l] H (.tuple #[i64 x,perr c]) H→((∃ n,atoF l=some n∧x=n∧c=0)∨(atoF l=none∧(c=1∨c=2))) →
   ∃ x e K',((∃ n,atoF l=some n∧x=n∧e=.nilIface)∨(atoF l=none∧∃ t p,e=.iface t (.pointer (some p))))∧Pre H K'∧ACalls prog 129 [str l] H (.tuple #[i64 x,e]) K':=by
  intro x c hcall hcase
  rcases hcase with ⟨n,h1,rfl,rfl⟩ | ⟨h1,h2⟩
  · refine ⟨x,.nilIface,H,.inl ⟨_,h1,rfl,rfl⟩,.refl _,?_⟩
    refine acallsT_pure MixT func129 (by decide) rfl ?_
    rw [d129]
    refine bndC_of hcall ?_
    simp [perr,aBin_nilifn hu]
  · obtain ⟨v,K',⟨p,rfl⟩,h4,h5⟩:=c_toError (f:=[65,116,111,105]) (n:=c) (a:=0) (b:=0) hg h2 hl
    refine ⟨x,.iface 208 (.pointer (some p)),K',.inr ⟨h1,_,_,rfl⟩,h4,?_⟩
    refine acalls_of MixT func129 (by decide) ?_
    rw [d129]
    refine bndC_of hcall ?_
    have hc0:c≠0:=by omega
    simp [perr,hc0,nerr_nil]
    exact bndC_of h5 ⟨rfl,rfl⟩
 by_cases hs:l=[]∨19≤l.length
 · rcases hs with rfl | hs
   · exact key (c:=2) (atoi_slow hl (.inl rfl) rfl (c_parseInt0 H)) (.inr ⟨by simp [atoF],.inr rfl⟩)
   · obtain ⟨d0,r,hlr⟩:=List.exists_cons_of_length_pos (show 0 < l.length by omega)
     refine key (atoi_slow hl (.inr hs) (perr_clos _) (c_parseInt hl hlr (h0 _ _ hlr) hd)) ?_
     rcases piF_ato (l:=l) (by rw [hlr];simp) with ⟨n,h1,h2⟩ | ⟨h1,h2⟩
     · exact .inl ⟨n,h1,by rw [h2],by rw [h2]⟩
     · exact .inr ⟨h1,h2⟩
 · simp only [not_or] at hs
   have h18:l.length≤18:=by omega
   have h1:1≤l.length:=List.length_pos_iff.2 hs.1
   by_cases hall:l.all isDig=true
   · have hall':∀ b∈l,isDig b=true:=by simpa using hall
     have h2:=natF_lt l 0 (by omega) hall
     have h3:(10:Int) ^ l.length≤10 ^ 18:=by exact_mod_cast Nat.pow_le_pow_right (by omega:0 < 10) h18
     refine key (x:=natF 0 l) (c:=0) (by simpa [perr] using c_atoi0 (H:=H) h18 h1 hall') (.inl ⟨natF 0 l,?_,rfl,rfl⟩)
     unfold atoF
     rw [if_pos ⟨hs.1,hall,by omega⟩]
   · have hbad:l.all isDig=false:=by simpa using hall
     obtain ⟨d0,r,hlr⟩:=List.exists_cons_of_length_pos (show 0 < l.length by omega)
     have hb0:l[0]?=some d0:=by rw [hlr];rfl
     have hd0:isDig d0=true:=h0 _ _ hlr
     refine key (x:=0) (c:=2) (by simpa [perr] using c_atoi0bad hb0 hd0 h18 hd hbad) (.inr ⟨?_,.inr rfl⟩)
     simp [atoF,hbad]
end Go.Vi
namespace Go.Vi
open Go Go.Proofs Go.Proofs.Tryz
def len2 (n:Nat):Nat:=if n=0 then 0 else Nat.log2 n+1
theorem len2_half {n:Nat} (h:2≤n):len2 n=len2 (n / 2)+1:=by
 unfold len2
 rw [if_neg (by omega),if_neg (by omega),Nat.log2_def n,if_pos h]
theorem len2_shift:∀ (k n:Nat),2 ^ k≤n→len2 n=len2 (n / 2 ^ k)+k:=by
 intro k
 induction k with
 | zero=>intro n _;simp
 | succ k ih =>
   intro n h
   have h2:2≤n:=by
    have:=Nat.one_le_two_pow (n:=k)
    rw [Nat.pow_succ] at h;omega
   rw [len2_half h2,ih (n / 2) (by rw [Nat.pow_succ] at h;omega),Nat.div_div_eq_div_mul,Nat.pow_succ,Nat.mul_comm 2]
   omega
theorem len2_bd {n:Nat} (h:0 < n):2 ^ (len2 n-1)≤n∧n < 2 ^ len2 n∧1≤len2 n:=by
 unfold len2
 rw [if_neg (by omega)]
 exact ⟨by simpa using Nat.log2_self_le (by omega),Nat.lt_log2_self,by omega⟩
abbrev u64 (n:Int):Value:=.int .u64 n
theorem wrapU {x:Int} (h1:0≤x) (h2:x≤18446744073709551615):IntKind.u64.wrap x=x:=by
 unfold IntKind.wrap
 simp only [show IntKind.u64.bits=64 from rfl,show IntKind.u64.signed=false from rfl]
 simp
 omega
theorem shrN {P:Program} {H:AHeap} {T:TypeId} {x y:Operand} {n k:Nat} (hk:k≤64):aBin2 P H .shr T x y (u64 n) (u64 k)=some (u64 ((n / 2 ^ k:Nat):Int)):=by
 rw [aBin_shr _ _ _ _ _ _ _ (by omega)]
 congr 2
 rw [show min ((k:Int)).toNat IntKind.u64.bits=k by simp only [Int.toNat_natCast];exact Nat.min_eq_left hk]
 rw [Int.fdiv_eq_ediv_of_nonneg _ (Int.le_of_lt (Int.pow_pos (by omega)))]
 norm_cast
theorem len8_at:∀ b:Nat,b < 256→l8S.data[b]?=some (UInt8.ofNat (len2 b))∧len2 b≤8:=by decide +kernel
set_option maxRecDepth 20000 in
theorem c_len64 (H:AHeap) {n:Nat} (hn:n < 2 ^ 64):ACalls prog 167 [u64 n] H (i64 (len2 n)) H:=by
 refine acalls_pure MixT func167 (by decide) rfl ?_
 rw [d167]
 have tail:∀ (x c:Nat) (y z A B C D E F a b d f g h j m o p q r s v w:Value),x < 256→c≤56→len2 n=len2 x+c→S167x2 (fun u H2=>u=i64 (len2 n)∧∃ X,H2=H++X) [u64 x,y,i64 c,z,A,B,C,D,E,F,a,b,d,f,g,h,j,m,o,p,q,r,s,v,w] H:=by
  intro x c y z A B C D E F a b d f g h j m o p q r s v w hx hc hl
  rw [S167x2q]
  obtain ⟨q1,q2⟩:=len8_at x hx
  have w1:IntKind.u8.wrap (x:Int)=x:=wrap_u8 (by omega) (by omega)
  have hq:l8S.data.toList[x]?=some (UInt8.ofNat (len2 x)):=by simpa using q1
  have hi:=aIndex_at (P:=prog) (T:=9) (k:=.u8) (l:=l8S.data.toList) (i:=x) (by simp) hq
  have e:str l8S.data.toList=.string l8S:=rfl
  rw [e] at hi
  have w2:IntKind.i64.wrap ((len2 x:Int) % 256)=(len2 x:Int):=by
   rw [wrap_i64 (by omega) (by omega)];omega
  have w3:IntKind.i64.wrap ((c:Int)+len2 x)=len2 n:=by rw [hl,wrap_i64 (by omega) (by omega)];omega
  simp [convV_int,w1,hi,w2,w3]
 have mid:∀ (x c:Nat) (y z A B C D E F a b d f g h j m o p q r s v w:Value),x < 2 ^ 16→c≤48→len2 n=len2 x+c→S167x1 (fun u H2=>u=i64 (len2 n)∧∃ X,H2=H++X) [u64 x,y,i64 c,z,A,B,C,D,E,F,a,b,d,f,g,h,j,m,o,p,q,r,s,v,w] H:=by
  intro x c y z A B C D E F a b d f g h j m o p q r s v w hx hc hl
  rw [S167x1q]
  simp
  refine kifB_bool (fun hq=>?_) (fun hq=>?_)
  · have hq:2 ^ 8≤x:=by simp at hq;omega
    have w1:IntKind.i64.wrap ((c:Int)+8)=((c+8:Nat):Int):=by rw [wrap_i64 (by omega) (by omega)];omega
    have hs':∀ X Y,aBin2 prog H .shr 178 X Y (.int .u64 x) (.int .u64 8)=some (u64 ((x / 2 ^ 8:Nat):Int)):=fun X Y=>shrN (k:=8) (by omega)
    simp only [hs',bnd_some,aBin_add,w1]
    exact tail (x / 2 ^ 8) (c+8) _ _ _ _ _ _ _ _ _ _ _ _ _ _ _ _ _ _ _ _ _ _ _ (by omega) (by omega) (by rw [hl,len2_shift 8 x hq];omega)
  · dsimp only
    exact tail x c _ _ _ _ _ _ _ _ _ _ _ _ _ _ _ _ _ _ _ _ _ _ _ (by simp at hq;omega) (by omega) hl
 have top:∀ (x c:Nat) (y z A B C D E F a b d f g h j m o p q r s v w:Value),x < 2 ^ 32→c≤32→len2 n=len2 x+c→S167x0 (fun u H2=>u=i64 (len2 n)∧∃ X,H2=H++X) [u64 x,y,i64 c,z,A,B,C,D,E,F,a,b,d,f,g,h,j,m,o,p,q,r,s,v,w] H:=by
  intro x c y z A B C D E F a b d f g h j m o p q r s v w hx hc hl
  rw [S167x0q]
  simp
  refine kifB_bool (fun hq=>?_) (fun hq=>?_)
  · have hq:2 ^ 16≤x:=by simp at hq;omega
    have w1:IntKind.i64.wrap ((c:Int)+16)=((c+16:Nat):Int):=by rw [wrap_i64 (by omega) (by omega)];omega
    have hs':∀ X Y,aBin2 prog H .shr 178 X Y (.int .u64 x) (.int .u64 16)=some (u64 ((x / 2 ^ 16:Nat):Int)):=fun X Y=>shrN (k:=16) (by omega)
    simp only [hs',bnd_some,aBin_add,w1]
    exact mid (x / 2 ^ 16) (c+16) _ _ _ _ _ _ _ _ _ _ _ _ _ _ _ _ _ _ _ _ _ _ _ (by omega) (by omega) (by rw [hl,len2_shift 16 x hq];omega)
  · dsimp only
    exact mid x c _ _ _ _ _ _ _ _ _ _ _ _ _ _ _ _ _ _ _ _ _ _ _ (by simp at hq;omega) (by omega) hl
 simp
 refine kifB_bool (fun hq=>?_) (fun hq=>?_)
 · have hq:2 ^ 32≤n:=by simp at hq;omega
   have hs':∀ X Y,aBin2 prog H .shr 178 X Y (.int .u64 n) (.int .u64 32)=some (u64 ((n / 2 ^ 32:Nat):Int)):=fun X Y=>shrN (k:=32) (by omega)
   simp only [hs',bnd_some]
   have t:=fun a0 a1 a2 a3 a4 a5 a6 a7 a8 a9 b0 b1 b2 b3 b4 b5 b6 b7 b8 b9 c0 c1 c2=>top (n / 2 ^ 32) 32 a0 a1 a2 a3 a4 a5 a6 a7 a8 a9 b0 b1 b2 b3 b4 b5 b6 b7 b8 b9 c0 c1 c2 (by omega) (by omega) (len2_shift 32 n hq)
   rw [show ((32:Nat):Int)=32 from rfl] at t
   exact t _ _ _ _ _ _ _ _ _ _ _ _ _ _ _ _ _ _ _ _ _ _ _
 · dsimp only
   exact top n 0 _ _ _ _ _ _ _ _ _ _ _ _ _ _ _ _ _ _ _ _ _ _ _ (by simp at hq;omega) (by omega) (by omega)
theorem aIndexAddr_arr {P:Program} {H:AHeap} {T e:TypeId} {b o m z n:Nat} {k:IntKind} {i:Int} (hu:P.underlying T=some (.array n e)) (hs:tsize P e=some z) (hl:hlen H b=some m) (h0:0≤i) (h1:i < n) :
  aIndexAddr P H T (.pointer (some ⟨b,o,some m⟩)) (.int k i)=some (.pointer (some ⟨b,o+i.toNat*z,some m⟩)):=by
 show aIndexAddr0 P H T (.pointer (some ⟨b,o,some m⟩)) (.int k i)=_
 simp [aIndexAddr0,hl,h0,h1,hu,hs]
def nlog (L:Nat):Nat:=L*78913 / 2 ^ 18
theorem nlog_ok:∀ L:Nat,L < 65→1≤L→nlog L < 20∧2 ^ L≤10 ^ (nlog L+1)∧10 ^ (nlog L-1)≤2 ^ (L-1)∧(nlog L=0→L≤3):=by decide +kernel
def ndig (n:Nat):Nat:=nlog (len2 n)+if 10 ^ nlog (len2 n)≤n then 1 else 0
theorem ndig_ok {n:Nat} (h0:0 < n) (hn:n < 2 ^ 64):1≤ndig n∧ndig n≤20∧n < 10 ^ ndig n∧10 ^ (ndig n-1)≤n:=by
 obtain ⟨h1,h2,h3⟩:=len2_bd h0
 have hL:len2 n < 65:=by
  rcases Nat.lt_or_ge (len2 n) 65 with h | h
  · exact h
  · have:=Nat.pow_le_pow_right (by omega:0 < 2) (show 64≤len2 n-1 by omega)
    omega
 obtain ⟨q1,q2,q3,q4⟩:=nlog_ok _ hL h3
 unfold ndig
 by_cases hc:10 ^ nlog (len2 n)≤n
 · rw [if_pos hc]
   exact ⟨by omega,by omega,by omega,by simpa using hc⟩
 · rw [if_neg hc,Nat.add_zero]
   refine ⟨?_,by omega,by omega,by omega⟩
   rcases Nat.eq_zero_or_pos (nlog (len2 n)) with hz | hz
   · rw [hz] at hc;simp at hc;omega
   · exact hz
def Pw (H:AHeap):Prop:=∃ b,gFind H 1 0=some (b,20)∧hcells H b=some pow10s
theorem Pw.trans {H K:AHeap} (h:Pw H) (p:Pre H K):Pw K:=by
 obtain ⟨b,h1,h2⟩:=h
 obtain ⟨X,rfl⟩:=p
 exact ⟨b,gFind_app h1,hcells_more h2⟩
theorem Pw.more {H:AHeap} (h:Pw H) (X:AHeap):Pw (H++X):=h.trans (.app H X)
theorem pw_gs {H:AHeap} (h:Pre Gs H):Pw H:=⟨2,gs_pow h⟩
set_option maxRecDepth 20000 in
theorem c_numDigits {H:AHeap} (hg:Pw H) {n:Nat} (h0:0 < n) (hn:n < 2 ^ 64):ACalls prog 143 [u64 n] H (i64 (ndig n)) H:=by
 refine acalls_pure MixT func143 (by decide) rfl ?_
 rw [d143]
 refine bndC_of (c_len64 H hn) ?_
 obtain ⟨h1,h2,h3⟩:=len2_bd h0
 have hL:len2 n < 65:=by
  rcases Nat.lt_or_ge (len2 n) 65 with h | h
  · exact h
  · have:=Nat.pow_le_pow_right (by omega:0 < 2) (show 64≤len2 n-1 by omega)
    omega
 obtain ⟨q1,q2,q3,q4⟩:=nlog_ok _ hL h3
 have hlog:ACalls prog 166 [i64 (len2 n)] H (i64 (nlog (len2 n))) H:=by
  refine acalls_pure MixT func166 (by decide) rfl ?_
  rw [d166]
  have w1:IntKind.i64.wrap ((len2 n:Int)*78913)=((len2 n*78913:Nat):Int):=by rw [wrap_i64 (by omega) (by omega)];omega
  have hs:∀ X Y,aBin2 prog H .shr 3 X Y (.int .i64 ((len2 n*78913:Nat):Int)) (.int .u64 18)=some (i64 (nlog (len2 n))):=fun X Y=>by
   rw [aBin_shr _ _ _ _ _ _ _ (by omega)]
   congr 2
   rw [show min ((18:Int)).toNat IntKind.i64.bits=18 from rfl,Int.fdiv_eq_ediv_of_nonneg _ (Int.le_of_lt (Int.pow_pos (by omega)))]
   unfold nlog
   norm_cast
  simp only [Int.natCast_mul,show ((78913:Nat):Int)=78913 from rfl] at w1 hs
  simp [w1,hs]
 refine bndC_of hlog ?_
 obtain ⟨pb,g1,g2⟩:=hg
 have hll:hlen H pb=some 20:=by rw [hcells_len g2];rfl
 have hia:=aIndexAddr_arr (P:=prog) (T:=200) (e:=178) (z:=1) (n:=20) (k:=.i64) (o:=0) (i:=(nlog (len2 n):Int)) (by simp) (by simp) hll (by omega) (by omega)
 have hp:pow10s[nlog (len2 n)]?=some (u64 ((10 ^ nlog (len2 n):Nat):Int)):=by
  have:∀ i:Nat,i < 20→pow10s[i]?=some (u64 ((10 ^ i:Nat):Int)):=by
   intro i hi
   simp [pow10s,hi]
  exact this _ q1
 have hb:∀ c:Bool,ACalls prog 168 [.bool c] H (i64 (if c=true then 1 else 0)) H:=by
  intro c
  refine acalls_pure MixT func168 (by decide) rfl ?_
  rw [d168]
  cases c<;>simp
 simp only [aIndexAddr_gl g1,hia,bnd_some]
 have h20:pow10s.length=20:=rfl
 simp only [Int.natCast_pow,show ((10:Nat):Int)=10 from rfl] at hp
 simp [g2,hp,h20]
 refine bndC_of (hb _) ?_
 have hd:decide ((10:Int) ^ nlog (len2 n)≤n)=decide (10 ^ nlog (len2 n)≤n):=by
  rw [decide_eq_decide];norm_cast
 have hnd:IntKind.i64.wrap ((nlog (len2 n):Int)+(if 10 ^ nlog (len2 n)≤n then 1 else 0))=(ndig n:Int):=by
  rw [wrap_i64 (by split<;>omega) (by split<;>omega)]
  unfold ndig
  split<;>simp
 simp [hd,hnd]
end Go.Vi
namespace Go.Vi
open Go Go.Proofs Go.Proofs.Tryz
-- (*tocsin/expr.reader).condition$1
def S67x0 (k:Value→AHeap→Prop) (sl:List Value) (H:AHeap):Prop:=kseqG prog (drawKeep prog) (cr (cr (cr (cb Tryz.f67)))) (kfinG prog Tryz.f67 k) .normal sl H []
def L67x0 (n:Nat) (k:Value→AHeap→Prop) (sl:List Value) (H:AHeap):Prop:=kitG prog (drawKeep prog) (cl (cl (cr (cr (cr (cr (cb Tryz.f67))))))) n (kblkG 1 (kfinG prog Tryz.f67 k)) .normal sl H []
theorem d67 (a0 a1 a2 a3:Value) (H:AHeap) (k:Value→AHeap→Prop):kbodyG prog (drawKeep prog) Tryz.f67 [a0,a1,a2,a3] H k=(@bnd (aBin2 prog H .eql 3 (.tmp 8) (.const (.int .i64 2)) a0 (.int .i64 2))
 ⟨fun f=>@kifB f ⟨@bnd (aLoad prog H 79 a1) ⟨fun r=>@bndC prog 68 [r,(.int .u8 1),(.string { data:=#[110,111,116] })] H ⟨fun s H4=>@kifB s ⟨@bnd (aLoad prog H4 107 a2) ⟨fun t
=>@bndV prog t [(.int .i64 2)] H4 ⟨fun _ H7=>@bnd (aLoad prog H7 27 a3) ⟨fun u=>@bnd (aLoad prog H7 27 a3) ⟨fun v=>@bnd (aLen prog H7 27 v) ⟨fun g=>@bnd (aBin2 prog H7 .sub
 3 (.tmp 22) (.const (.int .i64 1)) g (.int .i64 1)) ⟨fun h=>@bnd (buildV prog 37 [(0,(.int .u8 3)),(6,h)]) ⟨fun i=>@bndL prog H7 27 1 [(0,i)] ⟨fun j H14=>@bndE (aBuiltin
 prog H14 Builtin.append #[27,27] [u,j]) ⟨fun l H16=>@bndS (aStore prog H16 27 a3 l) ⟨fun _ H18=>k (.tuple #[]) H18⟩⟩⟩⟩⟩⟩⟩⟩⟩⟩⟩ ⟨@bnd (aLoad prog H4 79 a1) ⟨fun m=>@bndC prog 68
 [m,(.int .u8 4),(.string { data:=#[40] })] H4 ⟨fun n H21=>@kifB n ⟨@bnd (aLoad prog H21 107 a2) ⟨fun o=>@bndV prog o [(.int .i64 0)] H21 ⟨fun _ H24=>@bnd (aLoad prog H24 79 a1)
 ⟨fun p=>@bndC prog 69 [p,(.string { data:=#[41] })] H24 ⟨fun _ H27=>k (.tuple #[]) H27⟩⟩⟩⟩⟩ ⟨@bnd (aLoad prog H21 27 a3) ⟨fun a=>@bnd (aLoad prog H21 79 a1) ⟨fun q=>@bndK false true
 H21 ⟨fun b H31=>ACalls prog 70 [q] H21 b H31⟩ ⟨fun _ H31=>aLoad prog H31 27 a3=some a∧True⟩ ⟨fun b H31=>@bndK false true H31 ⟨fun c H33=>sliceLit prog H31 27 1 [(0,
 b)] c H33⟩ ⟨fun _ H33=>aLoad prog H33 27 a3=some a∧True⟩ ⟨fun c H33=>@bndK true true H33 ⟨fun d H35=>aBuiltin prog H33 Builtin.append #[27,27] [a,c]=some (d,H35)⟩
 ⟨fun _ _=>True⟩ ⟨fun d H35=>@bndK true true H35 ⟨fun x36 H37=>x36=undef∧aStore prog H35 27 a3 d=some H37⟩ ⟨fun _ _=>True⟩ ⟨fun _ H37=>k (.tuple #[]) H37⟩⟩⟩⟩⟩⟩⟩⟩⟩⟩⟩⟩⟩ ⟨@bnd (aBin2 prog H .eql
 3 (.tmp 34) (.const (.int .i64 1)) a0 (.int .i64 1)) ⟨fun e=>@kifB e ⟨S67x0  k [a0,a1,a2,a3,undef,(.string { data:=#[97,110,100] }),(.int .u8 1),undef,a0,f,undef,undef,undef,undef,undef,undef,
 undef,undef,undef,undef,undef,undef,undef,undef,undef,undef,undef,undef,undef,undef,undef,undef,undef,undef,a0,e,undef,undef,undef,undef,undef,undef,undef,undef,undef,undef,undef,undef,
 undef,undef,undef,undef,undef,undef,undef,undef,undef,undef,undef] H⟩ ⟨S67x0  k [a0,a1,a2,a3,undef,(.string { data:=#[111,114] }),(.int .u8 2),undef,a0,f,undef,undef,undef,undef,undef,undef,
 undef,undef,undef,undef,undef,undef,undef,undef,undef,undef,undef,undef,undef,undef,undef,undef,undef,undef,a0,e,undef,undef,undef,undef,undef,undef,undef,undef,undef,undef,undef,undef,
 undef,undef,undef,undef,undef,undef,undef,undef,undef,undef,undef] H⟩⟩⟩⟩):=by kernel_rfl
theorem S67x0q (d s1 s2 s3 s4 s5 s6 s7 s8 s9 e f g h i j l m o p q r s t u v w x y z A B C D E F aa ab ac ad G I J K L M N O P Q R S T U V W
 X Y Z:Value) (H:AHeap) (k:Value→AHeap→Prop):S67x0 k [d,s1,s2,s3,s4,s5,s6,s7,s8,s9,e,f,g,h,i,j,l,m,o,p,q,r,s,t,u,v,w,x,y,z,A,B,C,
 D,E,F,aa,ab,ac,ad,G,I,J,K,L,M,N,O,P,Q,R,S,T,U,V,W,X,Y,Z] H=(@bnd (aLoad prog H 107 s2) ⟨fun a=>@bnd (aBin2 prog H .add 3 (.tmp 37)
 (.const (.int .i64 1)) d (.int .i64 1)) ⟨fun b=>@bndV prog a [b] H ⟨fun c H42=>∃ n,L67x0 n  k [d,s1,s2,s3,s4,s5,s6,s7,s8,s9,e,f,g,h,i,j,l,m,o,p,q,r,
 s,t,u,v,w,x,y,z,A,B,C,D,E,F,a,d,b,c,G,I,J,K,L,M,N,O,P,Q,R,S,T,U,V,W,X,Y,Z] H42⟩⟩⟩):=by kernel_rfl
theorem L67x0q (n0:Nat) (r Z s2 p s4 s t s7 s8 s9 u v w x y z A B C D E F G I J K L M N O P Q R S T U V W X Y aa ab ac ad ae af ag ah ai aj ak al am
 an ao ap aq ar au:Value) (H:AHeap) (k:Value→AHeap→Prop):L67x0 (n0+1) k [r,Z,s2,p,s4,s,t,s7,s8,s9,u,v,w,x,y,z,A,B,C,D,E,F,G,I,J,K,L,M,N,
 O,P,Q,R,S,T,U,V,W,X,Y,aa,ab,ac,ad,ae,af,ag,ah,ai,aj,ak,al,am,an,ao,ap,aq,ar,au] H=(@bnd (aLoad prog H 79 Z) ⟨fun b=>@bndC prog 68
 [b,(.int .u8 1),s] H ⟨fun c H45=>@kifB c ⟨@bnd (aLoad prog H45 27 p) ⟨fun d=>@bnd (aLen prog H45 27 d) ⟨fun e=>@bnd (aBin2 prog H45 .sub 3 (.tmp 44) (.const (.int .i64 1))
 e (.int .i64 1)) ⟨fun a=>@bnd (aLoad prog H45 107 s2) ⟨fun f=>@bnd (aBin2 prog H45 .add 3 (.tmp 47) (.const (.int .i64 1)) r (.int .i64 1)) ⟨fun g=>@bndV prog f [g] H45 ⟨fun
 q H52=>@bnd (aLoad prog H52 27 p) ⟨fun h=>@bnd (aLoad prog H52 27 p) ⟨fun i=>@bnd (aLen prog H52 27 i) ⟨fun j=>@bnd (aBin2 prog H52 .sub 3 (.tmp 54) (.const (.int .i64 1))
 j (.int .i64 1)) ⟨fun l=>@bnd (buildV prog 37 [(0,t),(6,a),(7,l)]) ⟨fun m=>@bndL prog H52 27 1 [(0,m)] ⟨fun n H59=>@bndE (aBuiltin prog H59 Builtin.append #[27,27]
 [h,n]) ⟨fun o H61=>@bndS (aStore prog H61 27 p o) ⟨fun _ H63=>L67x0 n0  k [r,Z,s2,p,s4,s,t,a,s8,s9,u,v,w,x,y,z,A,B,C,D,E,F,G,I,J,
 K,L,M,N,O,P,Q,R,S,T,U,V,W,X,Y,b,s,c,d,e,a,f,r,g,q,h,t,a,i,j,l,m,n,o]
 H63⟩⟩⟩⟩⟩⟩⟩⟩⟩⟩⟩⟩⟩⟩⟩ ⟨k (.tuple #[]) H45⟩⟩⟩):=by kernel_rfl
-- internal/strconv.formatBase10
def L144x0 (n:Nat) (k:Value→AHeap→Prop) (sl:List Value) (H:AHeap):Prop:=kitG prog (drawKeep prog) (cl (cl (cl (cr (cb Tryz.f144))))) n (kblkG 0 (kseqG prog (drawKeep prog) (cr (cr (cb
 Tryz.f144))) (kfinG prog Tryz.f144 k))) .normal sl H []
def S144x0 (k:Value→AHeap→Prop) (sl:List Value) (H:AHeap):Prop:=kseqG prog (drawKeep prog) (cr (cr (cr (cr (cb Tryz.f144))))) (kfinG prog Tryz.f144 k) .normal sl H []
def S144x1 (k:Value→AHeap→Prop) (sl:List Value) (H:AHeap):Prop:=kseqG prog (drawKeep prog) (cr (cr (cr (cr (cr (cb Tryz.f144)))))) (kfinG prog Tryz.f144 k) .normal sl H []
theorem d144 (a0 a1:Value) (H:AHeap) (k:Value→AHeap→Prop):kbodyG prog (drawKeep prog) Tryz.f144 [a0,a1] H k=(@bnd (aLen prog H 55 a0) ⟨fun v18x1=>∃ n,L144x0 n  k [a0,a1,undef,undef,v18x1,
 undef,undef,undef,undef,undef,undef,undef,undef,undef,undef,undef,undef,a0,v18x1,undef,undef,undef,undef,undef,undef,undef,undef,undef,undef,undef,undef,undef,undef,undef,undef,undef,undef,undef,
 undef,undef,undef,undef,undef,undef,undef,undef,undef,undef,undef,undef,undef,undef,undef,undef,undef,undef,undef,undef,undef,undef,undef,undef,undef,undef,undef,undef,undef,undef,undef,undef,
 undef,undef,undef,undef,undef,undef,undef,undef,undef,undef,undef,undef,undef,undef,undef,undef,undef,undef,undef,undef,undef,undef,undef,undef,undef,undef,undef,undef,undef,undef,undef,undef,
 undef,undef,undef,undef,undef,undef,undef,undef,undef,undef,undef,undef,undef,undef,undef,undef,undef,undef,undef,undef,undef,undef,undef,undef,undef,undef,undef,undef,undef,undef,undef,undef,
 undef,undef,undef,undef,undef,undef,undef,undef,undef,undef,undef,undef,undef,undef,undef,undef,undef,undef,undef,undef,undef,undef,undef,undef,undef,undef,undef,undef,undef,undef,undef,undef,
 undef] H⟩):=by kernel_rfl
theorem L144x0q (n0:Nat) (i s1 s2 s3 a s5 s6 s7 s8 s9 cd ce dw cf cg ch b7 b8 b9 dB dC ci cj ck cl cm cn co cp cq cr cs ct cu cv cw cx cy cz cA cB cC cD cE cF cG cH cI cJ cK cL cM cN
 cO cP cQ cR cS cT cU cV cW cX cY cZ c0 c1 c2 c3 c4 c5 c6 c7 c8 c9 da db dc dd de df dg dh di dj dk dl dm dn dp dq dr ds dt du dv dx dy dz dA bu bv bw bx bz bA bB bC
 bD bE bF bG bH bI bJ bK bL bM bN bO bP bQ bR bS bT bU bV bW bX bY bZ b0 b1 b2 b3 b4 b5 b6 al am an ao ap aq ar au av aw ax ay az aA aB
 aC aD aE aF aG aH aI aJ aK aL aM aN aO aP:Value) (H:AHeap) (k:Value→AHeap→Prop):L144x0 (n0+1) k [i,s1,s2,s3,a,s5,s6,s7,s8,s9,cd,ce,dw,cf,cg,ch,b7,b8,b9,
 dB,dC,ci,cj,ck,cl,cm,cn,co,cp,cq,cr,cs,ct,cu,cv,cw,cx,cy,cz,cA,cB,cC,cD,cE,cF,cG,cH,cI,cJ,cK,cL,cM,cN,cO,cP,cQ,cR,cS,cT,cU,cV,cW,cX,cY,
 cZ,c0,c1,c2,c3,c4,c5,c6,c7,c8,c9,da,db,dc,dd,de,df,dg,dh,di,dj,dk,dl,dm,dn,dp,dq,dr,ds,dt,du,dv,dx,dy,dz,dA,bu,bv,bw,bx,bz,bA,bB,bC,
 bD,bE,bF,bG,bH,bI,bJ,bK,bL,bM,bN,bO,bP,bQ,bR,bS,bT,bU,bV,bW,bX,bY,bZ,b0,b1,b2,b3,b4,b5,b6,al,am,an,ao,ap,aq,ar,au,
 av,aw,ax,ay,az,aA,aB,aC,aD,aE,aF,aG,aH,aI,aJ,aK,aL,aM,aN,aO,aP] H=(@bnd (aBin2 prog H .geq 3 (.tmp 19) (.const (.int .i64 8)) a (.int .i64 8)) ⟨fun v =>
 @kifB v ⟨@bnd (aBin2 prog H .rem 178 (.tmp 21) (.const (.int .u64 100000000)) s1 (.int .u64 100000000)) ⟨fun ca=>@bnd (convV prog H 178 50 ca) ⟨fun d=>@bnd (aBin2 prog H .quo 178 (.tmp 24)
 (.const (.int .u64 100000000)) s1 (.int .u64 100000000)) ⟨fun cb=>@bnd (aBin2 prog H .quo 50 (.tmp 26) (.const (.int .u32 10000)) d (.int .u32 10000)) ⟨fun e=>@bnd (aBin2 prog H .rem 50 (.tmp 28)
 (.const (.int .u32 10000)) d (.int .u32 10000)) ⟨fun f=>@bnd (aBin2 prog H .quo 50 (.tmp 30) (.const (.int .u32 100)) f (.int .u32 100)) ⟨fun cc=>@bnd (aBin2 prog H .mul 50 (.tmp 31) (.const (.int
 .u32 2)) cc (.int .u32 2)) ⟨fun w=>@bnd (aBin2 prog H .rem 50 (.tmp 33) (.const (.int .u32 100)) f (.int .u32 100)) ⟨fun aQ=>@bnd (aBin2 prog H .mul 50 (.tmp 34) (.const (.int .u32 2)) aQ (.int
 .u32 2)) ⟨fun q=>@bnd (aBin2 prog H .quo 50 (.tmp 36) (.const (.int .u32 100)) e (.int .u32 100)) ⟨fun aR=>@bnd (aBin2 prog H .mul 50 (.tmp 37) (.const (.int .u32 2)) aR (.int .u32 2)) ⟨fun r
=>@bnd (aBin2 prog H .rem 50 (.tmp 39) (.const (.int .u32 100)) e (.int .u32 100)) ⟨fun aS=>@bnd (aBin2 prog H .mul 50 (.tmp 40) (.const (.int .u32 2)) aS (.int .u32 2)) ⟨fun s=>@bnd ((some i))
 ⟨fun aT=>@bnd ((some a)) ⟨fun aU=>@bnd (aBin2 prog H .sub 3 (.tmp 43) (.const (.int .i64 1)) aU (.int .i64 1)) ⟨fun aV=>@bnd ((some i)) ⟨fun aW=>@bnd ((some a)) ⟨fun x=>@bnd (aBin2
 prog H .sub 3 (.tmp 46) (.const (.int .i64 2)) x (.int .i64 2)) ⟨fun y=>@bnd ((some q)) ⟨fun aX=>@bnd (aBin2 prog H .add 50 (.tmp 48) (.const (.int .u32 1)) aX (.int .u32 1)) ⟨fun aY =>
 @bnd (aIndex prog 9 (.string smS) aY) ⟨fun aZ=>@bnd ((some q)) ⟨fun z=>@bnd (aIndex prog 9 (.string smS) z) ⟨fun A=>@bnd (aIndexAddr prog H 55 aT aV) ⟨fun a0=>@bndK
 false true H ⟨fun x28 H29=>x28=undef∧aStore prog H 5 a0 aZ=some H29⟩ ⟨fun _ H29=>aIndex prog 9 (.string smS) z=some A∧aBin2 prog H29 .sub 3 (.tmp 46) (.const (.int .i64 2)) x
 (.int .i64 2)=some y∧True⟩ ⟨fun _ H29=>@bnd (aIndexAddr prog H29 55 aW y) ⟨fun a1=>@bndK true true H29 ⟨fun x31 H32=>x31=undef∧aStore prog H29 5 a1 A=some H32⟩ ⟨fun _ _ =>
 True⟩ ⟨fun _ H32=>@bnd ((some i)) ⟨fun a2=>@bnd ((some a)) ⟨fun a3=>@bnd (aBin2 prog H32 .sub 3 (.tmp 56) (.const (.int .i64 3)) a3 (.int .i64 3)) ⟨fun a4=>@bnd ((some i)) ⟨fun a5=>@bnd
 ((some a)) ⟨fun B=>@bnd (aBin2 prog H32 .sub 3 (.tmp 59) (.const (.int .i64 4)) B (.int .i64 4)) ⟨fun C=>@bnd ((some w)) ⟨fun a6=>@bnd (aBin2 prog H32 .add 50 (.tmp 61) (.const (.int .u32
 1)) a6 (.int .u32 1)) ⟨fun a7=>@bnd (aIndex prog 9 (.string smS) a7) ⟨fun a8=>@bnd ((some w)) ⟨fun D=>@bnd (aIndex prog 9 (.string smS) D) ⟨fun E=>@bnd (aIndexAddr prog
 H32 55 a2 a4) ⟨fun a9=>@bndK false true H32 ⟨fun x45 H46=>x45=undef∧aStore prog H32 5 a9 a8=some H46⟩ ⟨fun _ H46=>aIndex prog 9 (.string smS) D=some E∧aBin2 prog H46
 .sub 3 (.tmp 59) (.const (.int .i64 4)) B (.int .i64 4)=some C∧True⟩ ⟨fun _ H46=>@bnd (aIndexAddr prog H46 55 a5 C) ⟨fun ba=>@bndK true true H46 ⟨fun x48 H49=>x48=undef∧aStore prog
 H46 5 ba E=some H49⟩ ⟨fun _ _=>True⟩ ⟨fun _ H49=>@bnd ((some i)) ⟨fun bb=>@bnd ((some a)) ⟨fun bc=>@bnd (aBin2 prog H49 .sub 3 (.tmp 69) (.const (.int .i64 5)) bc (.int .i64 5)) ⟨fun bd
=>@bnd ((some i)) ⟨fun be=>@bnd ((some a)) ⟨fun F=>@bnd (aBin2 prog H49 .sub 3 (.tmp 72) (.const (.int .i64 6)) F (.int .i64 6)) ⟨fun G=>@bnd ((some s)) ⟨fun bf=>@bnd (aBin2 prog
 H49 .add 50 (.tmp 74) (.const (.int .u32 1)) bf (.int .u32 1)) ⟨fun bg=>@bnd (aIndex prog 9 (.string smS) bg) ⟨fun bh=>@bnd ((some s)) ⟨fun I=>@bnd (aIndex prog 9 (.string smS) I)
 ⟨fun J=>@bnd (aIndexAddr prog H49 55 bb bd) ⟨fun bi=>@bndK false true H49 ⟨fun x62 H63=>x62=undef∧aStore prog H49 5 bi bh=some H63⟩ ⟨fun _ H63=>aIndex prog 9 (.string smS)
 I=some J∧aBin2 prog H63 .sub 3 (.tmp 72) (.const (.int .i64 6)) F (.int .i64 6)=some G∧True⟩ ⟨fun _ H63=>@bnd (aIndexAddr prog H63 55 be G) ⟨fun bj=>@bndK true true H63
 ⟨fun x65 H66=>x65=undef∧aStore prog H63 5 bj J=some H66⟩ ⟨fun _ _=>True⟩ ⟨fun _ H66=>@bnd ((some i)) ⟨fun bk=>@bnd ((some a)) ⟨fun bl=>@bnd (aBin2 prog H66 .sub 3 (.tmp 82) (.const
 (.int .i64 7)) bl (.int .i64 7)) ⟨fun bm=>@bnd ((some i)) ⟨fun bn=>@bnd ((some a)) ⟨fun K=>@bnd (aBin2 prog H66 .sub 3 (.tmp 85) (.const (.int .i64 8)) K (.int .i64 8)) ⟨fun L=>@bnd
 ((some r)) ⟨fun bo=>@bnd (aBin2 prog H66 .add 50 (.tmp 87) (.const (.int .u32 1)) bo (.int .u32 1)) ⟨fun bp=>@bnd (aIndex prog 9 (.string smS) bp) ⟨fun bq=>@bnd ((some r)) ⟨fun
 M=>@bnd (aIndex prog 9 (.string smS) M) ⟨fun N=>@bnd (aIndexAddr prog H66 55 bk bm) ⟨fun br=>@bndK false true H66 ⟨fun x79 H80=>x79=undef∧aStore prog H66 5 br bq =
 some H80⟩ ⟨fun _ H80=>aIndex prog 9 (.string smS) M=some N∧aBin2 prog H80 .sub 3 (.tmp 85) (.const (.int .i64 8)) K (.int .i64 8)=some L∧True⟩ ⟨fun _ H80=>@bnd (aIndexAddr prog H80
 55 bn L) ⟨fun bs=>@bndK true true H80 ⟨fun x82 H83=>x82=undef∧aStore prog H80 5 bs N=some H83⟩ ⟨fun _ _=>True⟩ ⟨fun _ H83=>@bnd (aBin2 prog H83 .sub 3 (.tmp 94) (.const (.int .i64
 8)) a (.int .i64 8)) ⟨fun bt=>L144x0 n0  k [i,cb,s2,s3,bt,d,e,f,w,q,r,s,dw,cf,cg,ch,b7,b8,b9,a,v,s1,ca,d,s1,cb,d,e,d,
 f,f,cc,w,f,aQ,q,e,aR,r,e,aS,s,aT,aU,aV,aW,x,y,aX,aY,aZ,z,A,a0,a1,a2,a3,a4,
 a5,B,C,a6,a7,a8,D,E,a9,ba,bb,bc,bd,be,F,G,bf,bg,bh,I,J,bi,bj,bk,bl,bm,bn,K,
 L,bo,bp,bq,M,N,br,bs,a,bt,dx,dy,dz,dA,bu,bv,bw,bx,bz,bA,bB,bC,bD,bE,bF,bG,bH,bI,bJ,bK,bL,bM,bN,bO,bP,bQ,
 bR,bS,bT,bU,bV,bW,bX,bY,bZ,b0,b1,b2,b3,b4,b5,b6,al,am,an,ao,ap,aq,ar,au,av,aw,ax,ay,az,aA,aB,aC,aD,aE,aF,aG,aH,aI,
 aJ,aK,aL,aM,aN,aO,aP] H83⟩⟩⟩⟩⟩⟩⟩⟩⟩⟩⟩⟩⟩⟩⟩⟩⟩⟩⟩⟩⟩⟩⟩⟩⟩⟩⟩⟩⟩⟩⟩⟩⟩⟩⟩⟩⟩⟩⟩⟩⟩⟩⟩⟩⟩⟩⟩⟩⟩⟩⟩⟩⟩⟩⟩⟩⟩⟩⟩⟩⟩⟩⟩⟩⟩⟩⟩⟩⟩⟩⟩⟩⟩⟩⟩ ⟨@bnd (convV prog H 178 50 s1) ⟨fun c=>@bnd (aBin2 prog H .geq 3 (.tmp 98) (.const (.int
 .i64 4)) a (.int .i64 4)) ⟨fun O=>@kifB O ⟨@bnd (aBin2 prog H .rem 50 (.tmp 100) (.const (.int .u32 10000)) c (.int .u32 10000)) ⟨fun b=>@bnd (aBin2 prog H .quo 50 (.tmp 102) (.const (.int
 .u32 10000)) c (.int .u32 10000)) ⟨fun ad=>@bnd (aBin2 prog H .quo 50 (.tmp 104) (.const (.int .u32 100)) b (.int .u32 100)) ⟨fun ae=>@bnd (aBin2 prog H .mul 50 (.tmp 105) (.const (.int .u32
 2)) ae (.int .u32 2)) ⟨fun g=>@bnd (aBin2 prog H .rem 50 (.tmp 107) (.const (.int .u32 100)) b (.int .u32 100)) ⟨fun af=>@bnd (aBin2 prog H .mul 50 (.tmp 108) (.const (.int .u32 2)) af
 (.int .u32 2)) ⟨fun h=>@bnd ((some i)) ⟨fun ag=>@bnd ((some a)) ⟨fun ah=>@bnd (aBin2 prog H .sub 3 (.tmp 111) (.const (.int .i64 1)) ah (.int .i64 1)) ⟨fun ai=>@bnd ((some i)) ⟨fun
 aj=>@bnd ((some a)) ⟨fun t=>@bnd (aBin2 prog H .sub 3 (.tmp 114) (.const (.int .i64 2)) t (.int .i64 2)) ⟨fun u=>@bnd ((some h)) ⟨fun ak=>@bnd (aBin2 prog H .add 50 (.tmp
 116) (.const (.int .u32 1)) ak (.int .u32 1)) ⟨fun P=>@bnd (aIndex prog 9 (.string smS) P) ⟨fun Q=>@bnd ((some h)) ⟨fun j=>@bnd (aIndex prog 9 (.string smS) j) ⟨fun
 l=>@bnd (aIndexAddr prog H 55 ag ai) ⟨fun R=>@bndK false true H ⟨fun x105 H106=>x105=undef∧aStore prog H 5 R Q=some H106⟩ ⟨fun _ H106=>aIndex prog 9 (.string
 smS) j=some l∧aBin2 prog H106 .sub 3 (.tmp 114) (.const (.int .i64 2)) t (.int .i64 2)=some u∧True⟩ ⟨fun _ H106=>@bnd (aIndexAddr prog H106 55 aj u) ⟨fun S =>
 @bndK true true H106 ⟨fun x108 H109=>x108=undef∧aStore prog H106 5 S l=some H109⟩ ⟨fun _ _=>True⟩ ⟨fun _ H109=>@bnd ((some i)) ⟨fun T=>@bnd ((some a)) ⟨fun U=>@bnd (aBin2
 prog H109 .sub 3 (.tmp 124) (.const (.int .i64 3)) U (.int .i64 3)) ⟨fun V=>@bnd ((some i)) ⟨fun W=>@bnd ((some a)) ⟨fun m=>@bnd (aBin2 prog H109 .sub 3 (.tmp 127) (.const (.int
 .i64 4)) m (.int .i64 4)) ⟨fun n=>@bnd ((some g)) ⟨fun X=>@bnd (aBin2 prog H109 .add 50 (.tmp 129) (.const (.int .u32 1)) X (.int .u32 1)) ⟨fun Y=>@bnd (aIndex prog 9
 (.string smS) Y) ⟨fun Z=>@bnd ((some g)) ⟨fun o=>@bnd (aIndex prog 9 (.string smS) o) ⟨fun p=>@bnd (aIndexAddr prog H109 55 T V) ⟨fun aa=>@bndK
 false true H109 ⟨fun x122 H123=>x122=undef∧aStore prog H109 5 aa Z=some H123⟩ ⟨fun _ H123=>aIndex prog 9 (.string smS) o=some p∧aBin2 prog H123 .sub 3 (.tmp 127) (.const
 (.int .i64 4)) m (.int .i64 4)=some n∧True⟩ ⟨fun _ H123=>@bnd (aIndexAddr prog H123 55 W n) ⟨fun ab=>@bndK true true H123 ⟨fun x125 H126=>x125=undef∧aStore prog H123 5
 ab p=some H126⟩ ⟨fun _ _=>True⟩ ⟨fun _ H126=>@bnd (aBin2 prog H126 .sub 3 (.tmp 136) (.const (.int .i64 4)) a (.int .i64 4)) ⟨fun ac=>S144x0  k [i,s1,s2,s3,ac,s5,s6,s7,s8,s9,
 cd,ce,ad,b,g,h,b7,b8,b9,a,v,ci,cj,ck,cl,cm,cn,co,cp,cq,cr,cs,ct,cu,cv,cw,cx,cy,cz,cA,cB,cC,cD,cE,cF,cG,cH,cI,cJ,cK,cL,cM,
 cN,cO,cP,cQ,cR,cS,cT,cU,cV,cW,cX,cY,cZ,c0,c1,c2,c3,c4,c5,c6,c7,c8,c9,da,db,dc,dd,de,df,dg,dh,di,dj,dk,dl,dm,dn,dp,dq,dr,ds,dt,du,dv,s1,
 c,a,O,c,b,c,ad,b,ae,g,b,af,h,ag,ah,ai,aj,t,u,ak,P,Q,j,l,R,
 S,T,U,V,W,m,n,X,Y,Z,o,p,aa,ab,a,ac,al,am,an,ao,ap,aq,ar,au,av,aw,ax,ay,
 az,aA,aB,aC,aD,aE,aF,aG,aH,aI,aJ,aK,aL,aM,aN,aO,aP] H126⟩⟩⟩⟩⟩⟩⟩⟩⟩⟩⟩⟩⟩⟩⟩⟩⟩⟩⟩⟩⟩⟩⟩⟩⟩⟩⟩⟩⟩⟩⟩⟩⟩⟩⟩⟩⟩⟩ ⟨S144x0  k [i,s1,s2,s3,a,s5,s6,s7,s8,s9,cd,ce,c,cf,cg,
 ch,b7,b8,b9,a,v,ci,cj,ck,cl,cm,cn,co,cp,cq,cr,cs,ct,cu,cv,cw,cx,cy,cz,cA,cB,cC,cD,cE,cF,cG,cH,cI,cJ,cK,cL,cM,cN,cO,cP,cQ,cR,cS,cT,cU,
 cV,cW,cX,cY,cZ,c0,c1,c2,c3,c4,c5,c6,c7,c8,c9,da,db,dc,dd,de,df,dg,dh,di,dj,dk,dl,dm,dn,dp,dq,dr,ds,dt,du,dv,s1,c,a,O,bu,bv,bw,bx,
 bz,bA,bB,bC,bD,bE,bF,bG,bH,bI,bJ,bK,bL,bM,bN,bO,bP,bQ,bR,bS,bT,bU,bV,bW,bX,bY,bZ,b0,b1,b2,b3,b4,b5,b6,al,am,an,ao,
 ap,aq,ar,au,av,aw,ax,ay,az,aA,aB,aC,aD,aE,aF,aG,aH,aI,aJ,aK,aL,aM,aN,aO,aP] H⟩⟩⟩⟩⟩):=by kernel_rfl
theorem S144x0q (s0 s1 s2 s3 u s5 s6 s7 s8 s9 ap aq t ar au av cc aw ax ay az aA aB aC aD aE aF aG aH aI aJ aK aL aM aN aO aP aQ aR aS aT aU aV aW aX aY aZ a0 a1 a2 a3 a4 a5 a6 a7
 a8 a9 ba bb bc bd be bf bg bh bi bj bk bl bm bn bo bp bq br bs bt bu bv bw bx bz bA bB bC bD bE bF bG bH bI bJ bK bL bM bN bO bP bQ bR v w x y z A B C D
 E F G I J K L M N O P Q R S T U V W X Y Z aa ab ac ad ae af ag ah cd ce bS bT bU bV bW bX bY bZ b0 b1 b2 b3 b4 b5
 b6 b7 b8 b9 ca cb ai aj ak al am an ao:Value) (H:AHeap) (k:Value→AHeap→Prop):S144x0 k [s0,s1,s2,s3,u,s5,s6,s7,s8,s9,ap,aq,t,ar,au,av,cc,aw,ax,ay,az,aA,
 aB,aC,aD,aE,aF,aG,aH,aI,aJ,aK,aL,aM,aN,aO,aP,aQ,aR,aS,aT,aU,aV,aW,aX,aY,aZ,a0,a1,a2,a3,a4,a5,a6,a7,a8,a9,ba,bb,bc,bd,be,bf,bg,bh,bi,bj,
 bk,bl,bm,bn,bo,bp,bq,br,bs,bt,bu,bv,bw,bx,bz,bA,bB,bC,bD,bE,bF,bG,bH,bI,bJ,bK,bL,bM,bN,bO,bP,bQ,bR,v,w,x,y,z,A,B,C,D,E,
 F,G,I,J,K,L,M,N,O,P,Q,R,S,T,U,V,W,X,Y,Z,aa,ab,ac,ad,ae,af,ag,ah,cd,ce,bS,bT,bU,bV,bW,bX,bY,bZ,
 b0,b1,b2,b3,b4,b5,b6,b7,b8,b9,ca,cb,ai,aj,ak,al,am,an,ao] H=(@bnd (aBin2 prog H .geq 3 (.tmp 138) (.const (.int .i64 2)) u (.int .i64 2)) ⟨fun b=>@kifB
 b ⟨@bnd (aBin2 prog H .rem 50 (.tmp 140) (.const (.int .u32 100)) t (.int .u32 100)) ⟨fun g=>@bnd (aBin2 prog H .mul 50 (.tmp 141) (.const (.int .u32 2)) g (.int .u32 2)) ⟨fun a=>@bnd
 (aBin2 prog H .quo 50 (.tmp 143) (.const (.int .u32 100)) t (.int .u32 100)) ⟨fun h=>@bnd ((some s0)) ⟨fun i=>@bnd ((some u)) ⟨fun j=>@bnd (aBin2 prog H .sub 3 (.tmp 146) (.const (.int
 .i64 1)) j (.int .i64 1)) ⟨fun l=>@bnd ((some s0)) ⟨fun m=>@bnd ((some u)) ⟨fun c=>@bnd (aBin2 prog H .sub 3 (.tmp 149) (.const (.int .i64 2)) c (.int .i64 2)) ⟨fun d =>
 @bnd ((some a)) ⟨fun n=>@bnd (aBin2 prog H .add 50 (.tmp 151) (.const (.int .u32 1)) n (.int .u32 1)) ⟨fun o=>@bnd (aIndex prog 9 (.string smS) o) ⟨fun p=>@bnd ((some
 a)) ⟨fun e=>@bnd (aIndex prog 9 (.string smS) e) ⟨fun f=>@bnd (aIndexAddr prog H 55 i l) ⟨fun q=>@bndK false true H ⟨fun x144 H145=>x144=undef∧aStore
 prog H 5 q p=some H145⟩ ⟨fun _ H145=>aIndex prog 9 (.string smS) e=some f∧aBin2 prog H145 .sub 3 (.tmp 149) (.const (.int .i64 2)) c (.int .i64 2)=some d ∧
 True⟩ ⟨fun _ H145=>@bnd (aIndexAddr prog H145 55 m d) ⟨fun r=>@bndK true true H145 ⟨fun x147 H148=>x147=undef∧aStore prog H145 5 r f=some H148⟩ ⟨fun _ _=>True⟩ ⟨fun _
 H148=>@bnd (aBin2 prog H148 .sub 3 (.tmp 158) (.const (.int .i64 2)) u (.int .i64 2)) ⟨fun s=>S144x1  k [s0,s1,s2,s3,s,s5,s6,s7,s8,s9,ap,aq,h,ar,au,av,a,aw,ax,ay,
 az,aA,aB,aC,aD,aE,aF,aG,aH,aI,aJ,aK,aL,aM,aN,aO,aP,aQ,aR,aS,aT,aU,aV,aW,aX,aY,aZ,a0,a1,a2,a3,a4,a5,a6,a7,a8,a9,ba,bb,bc,bd,be,bf,bg,bh,
 bi,bj,bk,bl,bm,bn,bo,bp,bq,br,bs,bt,bu,bv,bw,bx,bz,bA,bB,bC,bD,bE,bF,bG,bH,bI,bJ,bK,bL,bM,bN,bO,bP,bQ,bR,v,w,x,y,z,A,B,C,
 D,E,F,G,I,J,K,L,M,N,O,P,Q,R,S,T,U,V,W,X,Y,Z,aa,ab,ac,ad,ae,af,ag,ah,u,b,t,g,a,t,
 h,i,j,l,m,c,d,n,o,p,e,f,q,r,u,s,ai,aj,ak,al,am,an,ao] H148⟩⟩⟩⟩⟩⟩⟩⟩⟩⟩⟩⟩⟩⟩⟩⟩⟩⟩⟩⟩
 ⟨S144x1  k [s0,s1,s2,s3,u,s5,s6,s7,s8,s9,ap,aq,t,ar,au,av,cc,aw,ax,ay,az,aA,aB,aC,aD,aE,aF,aG,aH,aI,aJ,aK,aL,aM,aN,aO,aP,aQ,aR,aS,aT,aU,aV,aW,aX,
 aY,aZ,a0,a1,a2,a3,a4,a5,a6,a7,a8,a9,ba,bb,bc,bd,be,bf,bg,bh,bi,bj,bk,bl,bm,bn,bo,bp,bq,br,bs,bt,bu,bv,bw,bx,bz,bA,bB,bC,bD,bE,bF,bG,bH,
 bI,bJ,bK,bL,bM,bN,bO,bP,bQ,bR,v,w,x,y,z,A,B,C,D,E,F,G,I,J,K,L,M,N,O,P,Q,R,S,T,U,V,W,X,Y,
 Z,aa,ab,ac,ad,ae,af,ag,ah,u,b,bS,bT,bU,bV,bW,bX,bY,bZ,b0,b1,b2,b3,b4,b5,b6,b7,b8,b9,ca,cb,ai,aj,ak,al,am,an,
 ao] H⟩⟩):=by kernel_rfl
theorem S144x1q (s0 s1 s2 s3 s4 s5 s6 s7 s8 s9 ay az e aA aB aC aD aE aF aG aH aI aJ aK aL aM aN aO aP aQ aR aS aT aU aV aW aX aY aZ a0 a1 a2 a3 a4 a5 a6 a7 a8 a9 ba bb bc bd be bf
 bg bh bi bj bk bl bm bn bo bp bq br bs bt bu bv bw bx bz bA bB bC bD bE bF bG bH bI bJ bK bL bM bN bO bP bQ bR bS bT bU bV bW bX bY bZ f g h i j l m n o
 p q r s t u v w x y z A B C D E F G I J K L M N O P Q R S T U V W X Y Z aa ab ac ad ae af ag ah ai
 aj ak al am an ao ap aq ar au av aw ax:Value) (H:AHeap) (k:Value→AHeap→Prop):S144x1 k [s0,s1,s2,s3,s4,s5,s6,s7,s8,s9,ay,az,e,aA,aB,aC,aD,aE,aF,aG,aH,aI,
 aJ,aK,aL,aM,aN,aO,aP,aQ,aR,aS,aT,aU,aV,aW,aX,aY,aZ,a0,a1,a2,a3,a4,a5,a6,a7,a8,a9,ba,bb,bc,bd,be,bf,bg,bh,bi,bj,bk,bl,bm,bn,bo,bp,bq,br,
 bs,bt,bu,bv,bw,bx,bz,bA,bB,bC,bD,bE,bF,bG,bH,bI,bJ,bK,bL,bM,bN,bO,bP,bQ,bR,bS,bT,bU,bV,bW,bX,bY,bZ,f,g,h,i,j,l,m,n,o,p,
 q,r,s,t,u,v,w,x,y,z,A,B,C,D,E,F,G,I,J,K,L,M,N,O,P,Q,R,S,T,U,V,W,X,Y,Z,aa,ab,ac,
 ad,ae,af,ag,ah,ai,aj,ak,al,am,an,ao,ap,aq,ar,au,av,aw,ax] H=(@bnd (aBin2 prog H .gtr 3 (.tmp 160) (.const (.int .i64 0)) s4 (.int .i64 0)) ⟨fun a=>@kifB
 a ⟨@bnd (aBin2 prog H .add 50 (.const (.int .u32 48)) (.tmp 163) (.int .u32 48) e) ⟨fun b=>@bnd (convV prog H 50 5 b) ⟨fun c=>@bnd (aIndexAddr prog H 55 s0 (.int .i64 0)) ⟨fun
 d=>@bndS (aStore prog H 5 d c) ⟨fun _ H155=>k (.tuple #[]) H155⟩⟩⟩⟩⟩ ⟨k (.tuple #[]) H⟩⟩):=by kernel_rfl
-- tocsin/tocsinlaw14.awake
def PL23:Plan:=(.split 4 6 (.split 19 20 .std (.swap 19 20 (.split 20 21 .std (.swap 20 21 .std)))) (.swap 4 5 (.swap 5 6 (.split 19 20 .std (.swap 19 20 (.split 20 21 .std (.swap 20 21 .std)))))))
theorem d23 (H:AHeap) (k:Value→AHeap→Prop):kbodyG prog (drawPlan prog 41 PL23) Tryz.f23 [] H k=(@bndC prog 17 [(.string { data:=#[99,111,117,110,116,40,123,125,91,53,93,41,32,62,32,51]
 })] H ⟨fun cX H2=>@bnd (tupV cX 0) ⟨fun dC=>@bnd (tupV cX 1) ⟨fun C=>@bnd (buildV prog 44 [(0,(.string { data:=#[110] })),(1,(.string { data:=#[97] })),(2,dC),(3,(.int .i64 5)),(4,(.int
 .i64 10))]) ⟨fun dA=>@bndE (aAlloc prog H2 44) ⟨fun a H7=>@bndS (aStore prog H7 44 a dA) ⟨fun _ H9=>@bnd (aLoad prog H9 44 a) ⟨fun cY=>@bndE (aAlloc prog H9 44) ⟨fun b H12 =>
 @bndS (aStore prog H12 44 b cY) ⟨fun _ H14=>@bndL prog H14 42 1 [(0,(.string { data:=#[113] }))] ⟨fun cZ H16=>@bnd (aFieldAddr prog H16 44 b 0) ⟨fun c0=>@bndS (aStore prog H16 9
 c0 (.string { data:=#[109] })) ⟨fun _ H19=>@bnd (aFieldAddr prog H19 44 b 5) ⟨fun c1=>@bndS (aStore prog H19 3 c1 (.int .i64 7)) ⟨fun _ H22=>@bnd (aFieldAddr prog H22 44 b 6) ⟨fun
 c2=>@bndS (aStore prog H22 42 c2 cZ) ⟨fun _ H25=>@bnd (aFieldAddr prog H25 44 b 7) ⟨fun c3=>@bndS (aStore prog H25 9 c3 (.string { data:=#[111,112,115] })) ⟨fun _ H28=>@bnd
 (aLoad prog H28 44 a) ⟨fun c4=>@bndE (aAlloc prog H28 44) ⟨fun c H31=>@bndS (aStore prog H31 44 c c4) ⟨fun _ H33=>@bnd (aFieldAddr prog H33 44 c 3) ⟨fun c5=>@bndS (aStore
 prog H33 3 c5 (.int .i64 6)) ⟨fun _ H36=>((@bnd ((some C)) ⟨fun c6=>@bnd (aBin2 prog H36 .eql 24 (.tmp 21) (.const (.int .i64 0)) c6 (.int .i64 0)) ⟨fun c7=>@bnd ((some c7)) ⟨fun x
=>@bnd (gif x true (aLoad prog H36 44 a) undef) ⟨fun c8=>@bndK true true H36 ⟨fun a1 H42=>gifp x true (ACalls prog 25 [c8] H36 a1 H42) (a1=undef∧H42=H36)⟩ ⟨fun _ _=>True⟩
 ⟨fun a1 H42=>@bnd (gif x true ((some (.string { data:=#[97,32,53,32,49,48,32,99,111,117,110,116,40,123,125,91,53,93,41,32,62,32,51] }))) undef) ⟨fun c9=>@bndK true true H42 ⟨fun a2
 H45=>gifp x true (aConv prog H42 9 55 c9=some (a2,H45)) (a2=undef∧H45=H42)⟩ ⟨fun _ _=>True⟩ ⟨fun a2 H45=>@bndK true true H45 ⟨fun a3 H47=>gifp x true (ACalls prog 27
 [a2] H45 a3 H47) (a3=undef∧H47=H45)⟩ ⟨fun _ _=>True⟩ ⟨fun a3 H47=>@bnd (gif x true (aBin2 prog H47 .eql 50 (.tmp 25) (.tmp 28) a1 a3) undef) ⟨fun da=>@bnd (pickV x da
 (.bool false)) ⟨fun db=>@bnd ((some db)) ⟨fun A=>@bnd (gif A true (aLoad prog H47 44 b) undef) ⟨fun dc=>@bndK false false H47 ⟨fun a4 H53=>gifp A true (ACalls prog 25
 [dc] H47 a4 H53) (a4=undef∧H53=H47)⟩ ⟨fun _ _=>True⟩ ⟨fun a4 H53=>@bnd (gif A true (aLoad prog H47 44 a) undef) ⟨fun dd=>@bndK true true H53 ⟨fun a5 H56=>gifp A true
 (ACalls prog 25 [dd] H53 a5 H56) (a5=undef∧H56=H53)⟩ ⟨fun _ _=>True⟩ ⟨fun a5 H56=>@bnd (gif A true (aBin2 prog H56 .eql 50 (.tmp 33) (.tmp 35) a4 a5) undef) ⟨fun de=>@bnd
 (pickV A de (.bool false)) ⟨fun df=>@bnd ((some df)) ⟨fun y=>@bnd (gif y true (aLoad prog H56 44 c) undef) ⟨fun dg=>@bndK true true H56 ⟨fun a6 H62=>gifp y true (ACalls
 prog 25 [dg] H56 a6 H62) (a6=undef∧H62=H56)⟩ ⟨fun _ _=>True⟩ ⟨fun a6 H62=>@bndK true true H62 ⟨fun a7 H64=>gifp y true (sliceLit prog H62 55 23 [(0,(.int .u8 97)),(1,(.int .u8
 32)),(2,(.int .u8 54)),(3,(.int .u8 32)),(4,(.int .u8 49)),(5,(.int .u8 48)),(6,(.int .u8 32)),(7,(.int .u8 99)),(8,(.int .u8 111)),(9,(.int .u8 117)),(10,(.int .u8 110)),(11,(.int .u8 116)),(12,(.int .u8
 40)),(13,(.int .u8 123)),(14,(.int .u8 125)),(15,(.int .u8 91)),(16,(.int .u8 53)),(17,(.int .u8 93)),(18,(.int .u8 41)),(19,(.int .u8 32)),(20,(.int .u8 62)),(21,(.int .u8 32)),(22,(.int .u8 51))] a7
 H64) (a7=undef∧H64=H62)⟩ ⟨fun _ _=>True⟩ ⟨fun a7 H64=>@bndK true true H64 ⟨fun a8 H66=>gifp y true (aConv prog H64 55 55 a7=some (a8,H66)) (a8=undef∧H66=H64)⟩ ⟨fun _ _ =>
 True⟩ ⟨fun a8 H66=>@bndK true true H66 ⟨fun a9 H68=>gifp y true (ACalls prog 27 [a8] H66 a9 H68) (a9=undef∧H68=H66)⟩ ⟨fun _ _=>True⟩ ⟨fun a9 H68=>@bnd (gif y true (aBin2
 prog H68 .eql 50 (.tmp 40) (.tmp 43) a6 a9) undef) ⟨fun dh=>@bnd (pickV y dh (.bool false)) ⟨fun di=>@bnd ((some di)) ⟨fun bu=>@bndK true true H68 ⟨fun ba H73=>gifp bu true
 (ACalls prog 26 [(.slice none 0 0)] H68 ba H73) (ba=undef∧H73=H68)⟩ ⟨fun _ _=>True⟩ ⟨fun ba H73=>@bnd (pickV bu ba (.bool false)) ⟨fun dj=>@bnd ((some dj)) ⟨fun bb=>@bnd (gif
 bb true (aLoad prog H73 44 a) undef) ⟨fun dk=>@bndK true true H73 ⟨fun bc H78=>gifp bb true (sliceLit prog H73 46 1 [(0,dk)] bc H78) (bc=undef∧H78=H73)⟩ ⟨fun _ _=>True⟩ ⟨fun
 bc H78=>@bndK true true H78 ⟨fun bd H80=>gifp bb true (ACalls prog 26 [bc] H78 bd H80) (bd=undef∧H80=H78)⟩ ⟨fun _ _=>True⟩ ⟨fun bd H80=>@bnd (pickV bb bd (.bool false))
 ⟨fun dl=>@bnd ((some dl)) ⟨fun B=>@bnd (gif B true (aLoad prog H80 44 a) undef) ⟨fun dm=>@bnd (gif B true (aLoad prog H80 44 b) undef) ⟨fun dn=>@bndK true true H80 ⟨fun
 be H86=>gifp B true (sliceLit prog H80 46 2 [(0,dm),(1,dn)] be H86) (be=undef∧H86=H80)⟩ ⟨fun _ _=>True⟩ ⟨fun be H86=>@bndK true true H86 ⟨fun bf H88=>gifp B true
 (ACalls prog 26 [be] H86 bf H88) (bf=undef∧H88=H86)⟩ ⟨fun _ _=>True⟩ ⟨fun bf H88=>@bnd (gif B true (unV prog .not bf) undef) ⟨fun dp=>@bnd (pickV B dp (.bool false))
 ⟨fun dq=>@bnd ((some dq)) ⟨fun dB=>k dB H88⟩⟩⟩⟩⟩⟩⟩⟩⟩⟩⟩⟩⟩⟩⟩⟩⟩⟩⟩⟩⟩⟩⟩⟩⟩⟩⟩⟩⟩⟩⟩⟩⟩⟩⟩⟩⟩⟩⟩⟩⟩∧(@bnd ((some C)) ⟨fun dr=>@bnd (aBin2 prog H36 .eql 24 (.tmp 21) (.const (.int .i64 0)) dr (.int .i64
 0)) ⟨fun ds=>@bnd ((some ds)) ⟨fun z=>@bnd (gif z true (aLoad prog H36 44 a) undef) ⟨fun dt=>@bndK true true H36 ⟨fun bg H97=>gifp z true (ACalls prog 25 [dt] H36 bg
 H97) (bg=undef∧H97=H36)⟩ ⟨fun _ _=>True⟩ ⟨fun bg H97=>@bnd (gif z true ((some (.string { data:=#[97,32,53,32,49,48,32,99,111,117,110,116,40,123,125,91,53,93,41,32,62,32,51] })))
 undef) ⟨fun du=>@bndK true true H97 ⟨fun bh H100=>gifp z true (aConv prog H97 9 55 du=some (bh,H100)) (bh=undef∧H100=H97)⟩ ⟨fun _ _=>True⟩ ⟨fun bh H100=>@bndK true true H100
 ⟨fun D H102=>gifp z true (ACalls prog 27 [bh] H100 D H102) (D=undef∧H102=H100)⟩ ⟨fun _ _=>True⟩ ⟨fun D H102=>@bnd (gif z true (aBin2 prog H102 .eql 50 (.tmp 25) (.tmp
 28) bg D) undef) ⟨fun bv=>@bnd (pickV z bv (.bool false)) ⟨fun bw=>@bnd ((some bw)) ⟨fun n=>@bnd (gif n true (aLoad prog H102 44 b) undef) ⟨fun bx=>@bndK
 false false H102 ⟨fun E H108=>gifp n true (ACalls prog 25 [bx] H102 E H108) (E=undef∧H108=H102)⟩ ⟨fun _ _=>True⟩ ⟨fun E H108=>@bnd (gif n true (aLoad prog H102 44
 a) undef) ⟨fun bz=>@bndK true true H108 ⟨fun F H111=>gifp n true (ACalls prog 25 [bz] H108 F H111) (F=undef∧H111=H108)⟩ ⟨fun _ _=>True⟩ ⟨fun F H111=>@bnd (gif
 n true (aBin2 prog H111 .eql 50 (.tmp 33) (.tmp 35) E F) undef) ⟨fun bA=>@bnd (pickV n bA (.bool false)) ⟨fun bB=>@bnd ((some bB)) ⟨fun f=>@bnd (gif f true
 (aLoad prog H111 44 c) undef) ⟨fun bk=>@bndK false true H111 ⟨fun G H117=>gifp f true (sliceLit prog H111 55 23 [(0,(.int .u8 97)),(1,(.int .u8 32)),(2,(.int .u8 54)),(3,(.int .u8 32)),
 (4,(.int .u8 49)),(5,(.int .u8 48)),(6,(.int .u8 32)),(7,(.int .u8 99)),(8,(.int .u8 111)),(9,(.int .u8 117)),(10,(.int .u8 110)),(11,(.int .u8 116)),(12,(.int .u8 40)),(13,(.int .u8 123)),(14,(.int .u8
 125)),(15,(.int .u8 91)),(16,(.int .u8 53)),(17,(.int .u8 93)),(18,(.int .u8 41)),(19,(.int .u8 32)),(20,(.int .u8 62)),(21,(.int .u8 32)),(22,(.int .u8 51))] G H117) (G=undef∧H117=H111)⟩ ⟨fun
 _ H117=>gif f true (aLoad prog H117 44 c) undef=some bk∧True⟩ ⟨fun G H117=>@bndK true true H117 ⟨fun I H119=>gifp f true (ACalls prog 25 [bk] H117 I H119) (I
 = undef∧H119=H117)⟩ ⟨fun _ _=>True⟩ ⟨fun I H119=>@bndK true true H119 ⟨fun J H121=>gifp f true (aConv prog H119 55 55 G=some (J,H121)) (J=undef∧H121=H119)⟩ ⟨fun _ _ =>
 True⟩ ⟨fun J H121=>@bndK true true H121 ⟨fun K H123=>gifp f true (ACalls prog 27 [J] H121 K H123) (K=undef∧H123=H121)⟩ ⟨fun _ _=>True⟩ ⟨fun K H123=>@bnd (gif f
 true (aBin2 prog H123 .eql 50 (.tmp 40) (.tmp 43) I K) undef) ⟨fun bC=>@bnd (pickV f bC (.bool false)) ⟨fun bD=>@bnd ((some bD)) ⟨fun bl=>@bndK true true H123 ⟨fun L
 H128=>gifp bl true (ACalls prog 26 [(.slice none 0 0)] H123 L H128) (L=undef∧H128=H123)⟩ ⟨fun _ _=>True⟩ ⟨fun L H128=>@bnd (pickV bl L (.bool false)) ⟨fun bE=>@bnd
 ((some bE)) ⟨fun M=>@bnd (gif M true (aLoad prog H128 44 a) undef) ⟨fun bF=>@bndK true true H128 ⟨fun N H133=>gifp M true (sliceLit prog H128 46 1 [(0,bF)] N
 H133) (N=undef∧H133=H128)⟩ ⟨fun _ _=>True⟩ ⟨fun N H133=>@bndK true true H133 ⟨fun O H135=>gifp M true (ACalls prog 26 [N] H133 O H135) (O=undef∧H135=H133)⟩ ⟨fun _
 _=>True⟩ ⟨fun O H135=>@bnd (pickV M O (.bool false)) ⟨fun bG=>@bnd ((some bG)) ⟨fun o=>@bnd (gif o true (aLoad prog H135 44 a) undef) ⟨fun bH=>@bnd (gif o
 true (aLoad prog H135 44 b) undef) ⟨fun bI=>@bndK true true H135 ⟨fun P H141=>gifp o true (sliceLit prog H135 46 2 [(0,bH),(1,bI)] P H141) (P=undef∧H141=H135)⟩
 ⟨fun _ _=>True⟩ ⟨fun P H141=>@bndK true true H141 ⟨fun Q H143=>gifp o true (ACalls prog 26 [P] H141 Q H143) (Q=undef∧H143=H141)⟩ ⟨fun _ _=>True⟩ ⟨fun Q H143=>@bnd
 (gif o true (unV prog .not Q) undef) ⟨fun bJ=>@bnd (pickV o bJ (.bool false)) ⟨fun bK=>@bnd ((some bK)) ⟨fun dv=>k dv H143⟩⟩⟩⟩⟩⟩⟩⟩⟩⟩⟩⟩⟩⟩⟩⟩⟩⟩⟩⟩⟩⟩⟩⟩⟩⟩⟩⟩⟩⟩⟩⟩⟩⟩⟩⟩⟩⟩⟩⟩⟩∧@bnd
 ((some C)) ⟨fun bL=>@bnd (aBin2 prog H36 .eql 24 (.tmp 21) (.const (.int .i64 0)) bL (.int .i64 0)) ⟨fun bM=>@bnd ((some bM)) ⟨fun l=>@bnd (gif l true (aLoad prog H36 44 a)
 undef) ⟨fun bN=>@bndK true true H36 ⟨fun R H152=>gifp l true (ACalls prog 25 [bN] H36 R H152) (R=undef∧H152=H36)⟩ ⟨fun _ _=>True⟩ ⟨fun R H152=>@bnd (gif l true
 ((some (.string { data:=#[97,32,53,32,49,48,32,99,111,117,110,116,40,123,125,91,53,93,41,32,62,32,51] }))) undef) ⟨fun bO=>@bndK true true H152 ⟨fun S H155=>gifp l true (aConv
 prog H152 9 55 bO=some (S,H155)) (S=undef∧H155=H152)⟩ ⟨fun _ _=>True⟩ ⟨fun S H155=>@bndK true true H155 ⟨fun T H157=>gifp l true (ACalls prog 27 [S] H155 T
 H157) (T=undef∧H157=H155)⟩ ⟨fun _ _=>True⟩ ⟨fun T H157=>@bnd (gif l true (aBin2 prog H157 .eql 50 (.tmp 25) (.tmp 28) R T) undef) ⟨fun bP=>@bnd (pickV l bP (.bool
 false)) ⟨fun bQ=>@bnd ((some bQ)) ⟨fun p=>@bnd (gif p true (aLoad prog H157 44 b) undef) ⟨fun bR=>@bndK false false H157 ⟨fun U H163=>gifp p true (ACalls prog 25
 [bR] H157 U H163) (U=undef∧H163=H157)⟩ ⟨fun _ _=>True⟩ ⟨fun U H163=>@bnd (gif p true (aLoad prog H157 44 a) undef) ⟨fun bS=>@bndK true true H163 ⟨fun V H166=>gifp
 p true (ACalls prog 25 [bS] H163 V H166) (V=undef∧H166=H163)⟩ ⟨fun _ _=>True⟩ ⟨fun V H166=>@bnd (gif p true (aBin2 prog H166 .eql 50 (.tmp 33) (.tmp 35) U V)
 undef) ⟨fun bT=>@bnd (pickV p bT (.bool false)) ⟨fun bU=>@bnd ((some bU)) ⟨fun d=>@bnd (gif d true (aLoad prog H166 44 c) undef) ⟨fun bi=>@bndK false true H166 ⟨fun
 W H172=>gifp d true (sliceLit prog H166 55 23 [(0,(.int .u8 97)),(1,(.int .u8 32)),(2,(.int .u8 54)),(3,(.int .u8 32)),(4,(.int .u8 49)),(5,(.int .u8 48)),(6,(.int .u8 32)),(7,(.int .u8 99)),
 (8,(.int .u8 111)),(9,(.int .u8 117)),(10,(.int .u8 110)),(11,(.int .u8 116)),(12,(.int .u8 40)),(13,(.int .u8 123)),(14,(.int .u8 125)),(15,(.int .u8 91)),(16,(.int .u8 53)),(17,(.int .u8 93)),(18,(.int
 .u8 41)),(19,(.int .u8 32)),(20,(.int .u8 62)),(21,(.int .u8 32)),(22,(.int .u8 51))] W H172) (W=undef∧H172=H166)⟩ ⟨fun _ H172=>gif d true (aLoad prog H172 44 c) undef=some bi ∧
 True⟩ ⟨fun W H172=>@bndK false true H172 ⟨fun X H174=>gifp d true (aConv prog H172 55 55 W=some (X,H174)) (X=undef∧H174=H172)⟩ ⟨fun _ H174=>gif d true (aLoad
 prog H174 44 c) undef=some bi∧True⟩ ⟨fun X H174=>@bndK true true H174 ⟨fun Y H176=>gifp d true (ACalls prog 25 [bi] H174 Y H176) (Y=undef∧H176=H174)⟩ ⟨fun _ _
=>True⟩ ⟨fun Y H176=>@bndK true true H176 ⟨fun Z H178=>gifp d true (ACalls prog 27 [X] H176 Z H178) (Z=undef∧H178=H176)⟩ ⟨fun _ _=>True⟩ ⟨fun Z H178=>@bnd (gif
 d true (aBin2 prog H178 .eql 50 (.tmp 40) (.tmp 43) Y Z) undef) ⟨fun bV=>@bnd (pickV d bV (.bool false)) ⟨fun bW=>@bnd ((some bW)) ⟨fun bm=>@bndK true true H178 ⟨fun
 aa H183=>gifp bm true (ACalls prog 26 [(.slice none 0 0)] H178 aa H183) (aa=undef∧H183=H178)⟩ ⟨fun _ _=>True⟩ ⟨fun aa H183=>@bnd (pickV bm aa (.bool false)) ⟨fun bX =>
 @bnd ((some bX)) ⟨fun ab=>@bnd (gif ab true (aLoad prog H183 44 a) undef) ⟨fun bY=>@bndK true true H183 ⟨fun ac H188=>gifp ab true (sliceLit prog H183 46 1 [(0,bY)] ac
 H188) (ac=undef∧H188=H183)⟩ ⟨fun _ _=>True⟩ ⟨fun ac H188=>@bndK true true H188 ⟨fun ad H190=>gifp ab true (ACalls prog 26 [ac] H188 ad H190) (ad=undef∧H190=H188)⟩ ⟨fun _
 _=>True⟩ ⟨fun ad H190=>@bnd (pickV ab ad (.bool false)) ⟨fun bZ=>@bnd ((some bZ)) ⟨fun q=>@bnd (gif q true (aLoad prog H190 44 a) undef) ⟨fun b0=>@bnd (gif q
 true (aLoad prog H190 44 b) undef) ⟨fun b1=>@bndK true true H190 ⟨fun ae H196=>gifp q true (sliceLit prog H190 46 2 [(0,b0),(1,b1)] ae H196) (ae=undef∧H196=H190)⟩
 ⟨fun _ _=>True⟩ ⟨fun ae H196=>@bndK true true H196 ⟨fun af H198=>gifp q true (ACalls prog 26 [ae] H196 af H198) (af=undef∧H198=H196)⟩ ⟨fun _ _=>True⟩ ⟨fun af H198=>@bnd
 (gif q true (unV prog .not af) undef) ⟨fun b2=>@bnd (pickV q b2 (.bool false)) ⟨fun b3=>@bnd ((some b3)) ⟨fun dw=>k dw H198⟩⟩⟩⟩⟩⟩⟩⟩⟩⟩⟩⟩⟩⟩⟩⟩⟩⟩⟩⟩⟩⟩⟩⟩⟩⟩⟩⟩⟩⟩⟩⟩⟩⟩⟩⟩⟩⟩⟩⟩⟩)) ∧
 (@bnd ((some C)) ⟨fun b4=>@bnd (aBin2 prog H36 .eql 24 (.tmp 21) (.const (.int .i64 0)) b4 (.int .i64 0)) ⟨fun b5=>@bnd ((some b5)) ⟨fun g=>@bnd (gif g true (aLoad prog H36 44
 a) undef) ⟨fun bn=>@bnd (gif g true ((some (.string { data:=#[97,32,53,32,49,48,32,99,111,117,110,116,40,123,125,91,53,93,41,32,62,32,51] }))) undef) ⟨fun b6=>@bndK false true H36
 ⟨fun ag H208=>gifp g true (aConv prog H36 9 55 b6=some (ag,H208)) (ag=undef∧H208=H36)⟩ ⟨fun _ H208=>gif g true (aLoad prog H208 44 a) undef=some bn∧True⟩ ⟨fun
 ag H208=>@bndK true true H208 ⟨fun ah H210=>gifp g true (ACalls prog 25 [bn] H208 ah H210) (ah=undef∧H210=H208)⟩ ⟨fun _ _=>True⟩ ⟨fun ah H210=>@bndK true true H210 ⟨fun
 ai H212=>gifp g true (ACalls prog 27 [ag] H210 ai H212) (ai=undef∧H212=H210)⟩ ⟨fun _ _=>True⟩ ⟨fun ai H212=>@bnd (gif g true (aBin2 prog H212 .eql 50 (.tmp 25) (.tmp
 28) ah ai) undef) ⟨fun b7=>@bnd (pickV g b7 (.bool false)) ⟨fun b8=>@bnd ((some b8)) ⟨fun r=>@bnd (gif r true (aLoad prog H212 44 b) undef) ⟨fun b9=>@bndK
 false false H212 ⟨fun aj H218=>gifp r true (ACalls prog 25 [b9] H212 aj H218) (aj=undef∧H218=H212)⟩ ⟨fun _ _=>True⟩ ⟨fun aj H218=>@bnd (gif r true (aLoad prog H212 44
 a) undef) ⟨fun ca=>@bndK true true H218 ⟨fun ak H221=>gifp r true (ACalls prog 25 [ca] H218 ak H221) (ak=undef∧H221=H218)⟩ ⟨fun _ _=>True⟩ ⟨fun ak H221=>@bnd (gif
 r true (aBin2 prog H221 .eql 50 (.tmp 33) (.tmp 35) aj ak) undef) ⟨fun cb=>@bnd (pickV r cb (.bool false)) ⟨fun cc=>@bnd ((some cc)) ⟨fun m=>@bnd (gif m true
 (aLoad prog H221 44 c) undef) ⟨fun cd=>@bndK true true H221 ⟨fun al H227=>gifp m true (ACalls prog 25 [cd] H221 al H227) (al=undef∧H227=H221)⟩ ⟨fun _ _=>True⟩ ⟨fun
 al H227=>@bndK true true H227 ⟨fun am H229=>gifp m true (sliceLit prog H227 55 23 [(0,(.int .u8 97)),(1,(.int .u8 32)),(2,(.int .u8 54)),(3,(.int .u8 32)),(4,(.int .u8 49)),(5,(.int .u8 48)),
 (6,(.int .u8 32)),(7,(.int .u8 99)),(8,(.int .u8 111)),(9,(.int .u8 117)),(10,(.int .u8 110)),(11,(.int .u8 116)),(12,(.int .u8 40)),(13,(.int .u8 123)),(14,(.int .u8 125)),(15,(.int .u8 91)),(16,(.int .u8
 53)),(17,(.int .u8 93)),(18,(.int .u8 41)),(19,(.int .u8 32)),(20,(.int .u8 62)),(21,(.int .u8 32)),(22,(.int .u8 51))] am H229) (am=undef∧H229=H227)⟩ ⟨fun _ _=>True⟩ ⟨fun am H229=>@bndK
 true true H229 ⟨fun an H231=>gifp m true (aConv prog H229 55 55 am=some (an,H231)) (an=undef∧H231=H229)⟩ ⟨fun _ _=>True⟩ ⟨fun an H231=>@bndK true true H231 ⟨fun ao H233 =>
 gifp m true (ACalls prog 27 [an] H231 ao H233) (ao=undef∧H233=H231)⟩ ⟨fun _ _=>True⟩ ⟨fun ao H233=>@bnd (gif m true (aBin2 prog H233 .eql 50 (.tmp 40) (.tmp 43) al
 ao) undef) ⟨fun ce=>@bnd (pickV m ce (.bool false)) ⟨fun cf=>@bnd ((some cf)) ⟨fun bo=>@bndK true true H233 ⟨fun ap H238=>gifp bo true (ACalls prog 26 [(.slice none 0
 0)] H233 ap H238) (ap=undef∧H238=H233)⟩ ⟨fun _ _=>True⟩ ⟨fun ap H238=>@bnd (pickV bo ap (.bool false)) ⟨fun cg=>@bnd ((some cg)) ⟨fun aq=>@bnd (gif aq true (aLoad
 prog H238 44 a) undef) ⟨fun ch=>@bndK true true H238 ⟨fun ar H243=>gifp aq true (sliceLit prog H238 46 1 [(0,ch)] ar H243) (ar=undef∧H243=H238)⟩ ⟨fun _ _=>True⟩ ⟨fun
 ar H243=>@bndK true true H243 ⟨fun au H245=>gifp aq true (ACalls prog 26 [ar] H243 au H245) (au=undef∧H245=H243)⟩ ⟨fun _ _=>True⟩ ⟨fun au H245=>@bnd (pickV aq au
 (.bool false)) ⟨fun ci=>@bnd ((some ci)) ⟨fun s=>@bnd (gif s true (aLoad prog H245 44 a) undef) ⟨fun cj=>@bnd (gif s true (aLoad prog H245 44 b) undef) ⟨fun ck =>
 @bndK true true H245 ⟨fun av H251=>gifp s true (sliceLit prog H245 46 2 [(0,cj),(1,ck)] av H251) (av=undef∧H251=H245)⟩ ⟨fun _ _=>True⟩ ⟨fun av H251=>@bndK true true H251
 ⟨fun aw H253=>gifp s true (ACalls prog 26 [av] H251 aw H253) (aw=undef∧H253=H251)⟩ ⟨fun _ _=>True⟩ ⟨fun aw H253=>@bnd (gif s true (unV prog .not aw) undef) ⟨fun
 cl=>@bnd (pickV s cl (.bool false)) ⟨fun cm=>@bnd ((some cm)) ⟨fun dx=>k dx H253⟩⟩⟩⟩⟩⟩⟩⟩⟩⟩⟩⟩⟩⟩⟩⟩⟩⟩⟩⟩⟩⟩⟩⟩⟩⟩⟩⟩⟩⟩⟩⟩⟩⟩⟩⟩⟩⟩⟩⟩⟩∧(@bnd ((some C)) ⟨fun cn=>@bnd (aBin2 prog H36
 .eql 24 (.tmp 21) (.const (.int .i64 0)) cn (.int .i64 0)) ⟨fun co=>@bnd ((some co)) ⟨fun h=>@bnd (gif h true (aLoad prog H36 44 a) undef) ⟨fun bp=>@bnd (gif h true ((some
 (.string { data:=#[97,32,53,32,49,48,32,99,111,117,110,116,40,123,125,91,53,93,41,32,62,32,51] }))) undef) ⟨fun cp=>@bndK false true H36 ⟨fun ax H263=>gifp h true (aConv prog H36
 9 55 cp=some (ax,H263)) (ax=undef∧H263=H36)⟩ ⟨fun _ H263=>gif h true (aLoad prog H263 44 a) undef=some bp∧True⟩ ⟨fun ax H263=>@bndK true true H263 ⟨fun ay H265 =>
 gifp h true (ACalls prog 25 [bp] H263 ay H265) (ay=undef∧H265=H263)⟩ ⟨fun _ _=>True⟩ ⟨fun ay H265=>@bndK true true H265 ⟨fun az H267=>gifp h true (ACalls prog 27
 [ax] H265 az H267) (az=undef∧H267=H265)⟩ ⟨fun _ _=>True⟩ ⟨fun az H267=>@bnd (gif h true (aBin2 prog H267 .eql 50 (.tmp 25) (.tmp 28) ay az) undef) ⟨fun cq=>@bnd (pickV
 h cq (.bool false)) ⟨fun cr=>@bnd ((some cr)) ⟨fun t=>@bnd (gif t true (aLoad prog H267 44 b) undef) ⟨fun cs=>@bndK false false H267 ⟨fun aA H273=>gifp t true
 (ACalls prog 25 [cs] H267 aA H273) (aA=undef∧H273=H267)⟩ ⟨fun _ _=>True⟩ ⟨fun aA H273=>@bnd (gif t true (aLoad prog H267 44 a) undef) ⟨fun ct=>@bndK true true H273 ⟨fun
 aB H276=>gifp t true (ACalls prog 25 [ct] H273 aB H276) (aB=undef∧H276=H273)⟩ ⟨fun _ _=>True⟩ ⟨fun aB H276=>@bnd (gif t true (aBin2 prog H276 .eql 50 (.tmp 33) (.tmp
 35) aA aB) undef) ⟨fun cu=>@bnd (pickV t cu (.bool false)) ⟨fun cv=>@bnd ((some cv)) ⟨fun i=>@bnd (gif i true (aLoad prog H276 44 c) undef) ⟨fun bq=>@bndK
 false true H276 ⟨fun aC H282=>gifp i true (sliceLit prog H276 55 23 [(0,(.int .u8 97)),(1,(.int .u8 32)),(2,(.int .u8 54)),(3,(.int .u8 32)),(4,(.int .u8 49)),(5,(.int .u8 48)),(6,(.int .u8 32)),
 (7,(.int .u8 99)),(8,(.int .u8 111)),(9,(.int .u8 117)),(10,(.int .u8 110)),(11,(.int .u8 116)),(12,(.int .u8 40)),(13,(.int .u8 123)),(14,(.int .u8 125)),(15,(.int .u8 91)),(16,(.int .u8 53)),(17,(.int .u8
 93)),(18,(.int .u8 41)),(19,(.int .u8 32)),(20,(.int .u8 62)),(21,(.int .u8 32)),(22,(.int .u8 51))] aC H282) (aC=undef∧H282=H276)⟩ ⟨fun _ H282=>gif i true (aLoad prog H282 44 c) undef
 = some bq∧True⟩ ⟨fun aC H282=>@bndK true true H282 ⟨fun aD H284=>gifp i true (ACalls prog 25 [bq] H282 aD H284) (aD=undef∧H284=H282)⟩ ⟨fun _ _=>True⟩ ⟨fun aD H284 =>
 @bndK true true H284 ⟨fun aE H286=>gifp i true (aConv prog H284 55 55 aC=some (aE,H286)) (aE=undef∧H286=H284)⟩ ⟨fun _ _=>True⟩ ⟨fun aE H286=>@bndK true true H286 ⟨fun aF
 H288=>gifp i true (ACalls prog 27 [aE] H286 aF H288) (aF=undef∧H288=H286)⟩ ⟨fun _ _=>True⟩ ⟨fun aF H288=>@bnd (gif i true (aBin2 prog H288 .eql 50 (.tmp 40) (.tmp 43)
 aD aF) undef) ⟨fun cw=>@bnd (pickV i cw (.bool false)) ⟨fun cx=>@bnd ((some cx)) ⟨fun br=>@bndK true true H288 ⟨fun aG H293=>gifp br true (ACalls prog 26 [(.slice
 none 0 0)] H288 aG H293) (aG=undef∧H293=H288)⟩ ⟨fun _ _=>True⟩ ⟨fun aG H293=>@bnd (pickV br aG (.bool false)) ⟨fun cy=>@bnd ((some cy)) ⟨fun aH=>@bnd (gif aH true
 (aLoad prog H293 44 a) undef) ⟨fun cz=>@bndK true true H293 ⟨fun aI H298=>gifp aH true (sliceLit prog H293 46 1 [(0,cz)] aI H298) (aI=undef∧H298=H293)⟩ ⟨fun _ _=>True⟩
 ⟨fun aI H298=>@bndK true true H298 ⟨fun aJ H300=>gifp aH true (ACalls prog 26 [aI] H298 aJ H300) (aJ=undef∧H300=H298)⟩ ⟨fun _ _=>True⟩ ⟨fun aJ H300=>@bnd (pickV aH
 aJ (.bool false)) ⟨fun cA=>@bnd ((some cA)) ⟨fun u=>@bnd (gif u true (aLoad prog H300 44 a) undef) ⟨fun cB=>@bnd (gif u true (aLoad prog H300 44 b) undef) ⟨fun
 cC=>@bndK true true H300 ⟨fun aK H306=>gifp u true (sliceLit prog H300 46 2 [(0,cB),(1,cC)] aK H306) (aK=undef∧H306=H300)⟩ ⟨fun _ _=>True⟩ ⟨fun aK H306=>@bndK true
 true H306 ⟨fun aL H308=>gifp u true (ACalls prog 26 [aK] H306 aL H308) (aL=undef∧H308=H306)⟩ ⟨fun _ _=>True⟩ ⟨fun aL H308=>@bnd (gif u true (unV prog .not aL)
 undef) ⟨fun cD=>@bnd (pickV u cD (.bool false)) ⟨fun cE=>@bnd ((some cE)) ⟨fun dy=>k dy H308⟩⟩⟩⟩⟩⟩⟩⟩⟩⟩⟩⟩⟩⟩⟩⟩⟩⟩⟩⟩⟩⟩⟩⟩⟩⟩⟩⟩⟩⟩⟩⟩⟩⟩⟩⟩⟩⟩⟩⟩⟩∧@bnd ((some C)) ⟨fun cF=>@bnd (aBin2
 prog H36 .eql 24 (.tmp 21) (.const (.int .i64 0)) cF (.int .i64 0)) ⟨fun cG=>@bnd ((some cG)) ⟨fun j=>@bnd (gif j true (aLoad prog H36 44 a) undef) ⟨fun bs=>@bnd (gif j
 true ((some (.string { data:=#[97,32,53,32,49,48,32,99,111,117,110,116,40,123,125,91,53,93,41,32,62,32,51] }))) undef) ⟨fun cH=>@bndK false true H36 ⟨fun aM H318=>gifp j true (aConv
 prog H36 9 55 cH=some (aM,H318)) (aM=undef∧H318=H36)⟩ ⟨fun _ H318=>gif j true (aLoad prog H318 44 a) undef=some bs∧True⟩ ⟨fun aM H318=>@bndK true true H318 ⟨fun
 aN H320=>gifp j true (ACalls prog 25 [bs] H318 aN H320) (aN=undef∧H320=H318)⟩ ⟨fun _ _=>True⟩ ⟨fun aN H320=>@bndK true true H320 ⟨fun aO H322=>gifp j true (ACalls
 prog 27 [aM] H320 aO H322) (aO=undef∧H322=H320)⟩ ⟨fun _ _=>True⟩ ⟨fun aO H322=>@bnd (gif j true (aBin2 prog H322 .eql 50 (.tmp 25) (.tmp 28) aN aO) undef) ⟨fun cI =>
 @bnd (pickV j cI (.bool false)) ⟨fun cJ=>@bnd ((some cJ)) ⟨fun v=>@bnd (gif v true (aLoad prog H322 44 b) undef) ⟨fun cK=>@bndK false false H322 ⟨fun aP H328=>gifp
 v true (ACalls prog 25 [cK] H322 aP H328) (aP=undef∧H328=H322)⟩ ⟨fun _ _=>True⟩ ⟨fun aP H328=>@bnd (gif v true (aLoad prog H322 44 a) undef) ⟨fun cL=>@bndK true true
 H328 ⟨fun aQ H331=>gifp v true (ACalls prog 25 [cL] H328 aQ H331) (aQ=undef∧H331=H328)⟩ ⟨fun _ _=>True⟩ ⟨fun aQ H331=>@bnd (gif v true (aBin2 prog H331 .eql 50 (.tmp
 33) (.tmp 35) aP aQ) undef) ⟨fun cM=>@bnd (pickV v cM (.bool false)) ⟨fun cN=>@bnd ((some cN)) ⟨fun e=>@bnd (gif e true (aLoad prog H331 44 c) undef) ⟨fun bj
=>@bndK false true H331 ⟨fun aR H337=>gifp e true (sliceLit prog H331 55 23 [(0,(.int .u8 97)),(1,(.int .u8 32)),(2,(.int .u8 54)),(3,(.int .u8 32)),(4,(.int .u8 49)),(5,(.int .u8 48)),(6,(.int
 .u8 32)),(7,(.int .u8 99)),(8,(.int .u8 111)),(9,(.int .u8 117)),(10,(.int .u8 110)),(11,(.int .u8 116)),(12,(.int .u8 40)),(13,(.int .u8 123)),(14,(.int .u8 125)),(15,(.int .u8 91)),(16,(.int .u8 53)),(17,
 (.int .u8 93)),(18,(.int .u8 41)),(19,(.int .u8 32)),(20,(.int .u8 62)),(21,(.int .u8 32)),(22,(.int .u8 51))] aR H337) (aR=undef∧H337=H331)⟩ ⟨fun _ H337=>gif e true (aLoad prog H337 44
 c) undef=some bj∧True⟩ ⟨fun aR H337=>@bndK false true H337 ⟨fun aS H339=>gifp e true (aConv prog H337 55 55 aR=some (aS,H339)) (aS=undef∧H339=H337)⟩ ⟨fun _ H339 =>
 gif e true (aLoad prog H339 44 c) undef=some bj∧True⟩ ⟨fun aS H339=>@bndK true true H339 ⟨fun aT H341=>gifp e true (ACalls prog 25 [bj] H339 aT H341) (aT=undef ∧
 H341=H339)⟩ ⟨fun _ _=>True⟩ ⟨fun aT H341=>@bndK true true H341 ⟨fun aU H343=>gifp e true (ACalls prog 27 [aS] H341 aU H343) (aU=undef∧H343=H341)⟩ ⟨fun _ _=>True⟩ ⟨fun aU
 H343=>@bnd (gif e true (aBin2 prog H343 .eql 50 (.tmp 40) (.tmp 43) aT aU) undef) ⟨fun cO=>@bnd (pickV e cO (.bool false)) ⟨fun cP=>@bnd ((some cP)) ⟨fun bt=>@bndK
 true true H343 ⟨fun aV H348=>gifp bt true (ACalls prog 26 [(.slice none 0 0)] H343 aV H348) (aV=undef∧H348=H343)⟩ ⟨fun _ _=>True⟩ ⟨fun aV H348=>@bnd (pickV bt aV (.bool
 false)) ⟨fun cQ=>@bnd ((some cQ)) ⟨fun aW=>@bnd (gif aW true (aLoad prog H348 44 a) undef) ⟨fun cR=>@bndK true true H348 ⟨fun aX H353=>gifp aW true (sliceLit prog H348 46
 1 [(0,cR)] aX H353) (aX=undef∧H353=H348)⟩ ⟨fun _ _=>True⟩ ⟨fun aX H353=>@bndK true true H353 ⟨fun aY H355=>gifp aW true (ACalls prog 26 [aX] H353 aY H355) (aY =
 undef∧H355=H353)⟩ ⟨fun _ _=>True⟩ ⟨fun aY H355=>@bnd (pickV aW aY (.bool false)) ⟨fun cS=>@bnd ((some cS)) ⟨fun w=>@bnd (gif w true (aLoad prog H355 44 a) undef) ⟨fun
 cT=>@bnd (gif w true (aLoad prog H355 44 b) undef) ⟨fun cU=>@bndK true true H355 ⟨fun aZ H361=>gifp w true (sliceLit prog H355 46 2 [(0,cT),(1,cU)] aZ H361)
 (aZ=undef∧H361=H355)⟩ ⟨fun _ _=>True⟩ ⟨fun aZ H361=>@bndK true true H361 ⟨fun a0 H363=>gifp w true (ACalls prog 26 [aZ] H361 a0 H363) (a0=undef∧H363=H361)⟩ ⟨fun _ _ =>
 True⟩ ⟨fun a0 H363=>@bnd (gif w true (unV prog .not a0) undef) ⟨fun cV=>@bnd (pickV w cV (.bool false)) ⟨fun cW=>@bnd ((some cW)) ⟨fun dz=>k dz
 H363⟩⟩⟩⟩⟩⟩⟩⟩⟩⟩⟩⟩⟩⟩⟩⟩⟩⟩⟩⟩⟩⟩⟩⟩⟩⟩⟩⟩⟩⟩⟩⟩⟩⟩⟩⟩⟩⟩⟩⟩⟩)))⟩⟩⟩⟩⟩⟩⟩⟩⟩⟩⟩⟩⟩⟩⟩⟩⟩⟩⟩⟩⟩⟩⟩):=by kernel_rfl
-- tocsin/tocsinlaw14.FingerSame
end Go.Vi
namespace Go.Vi
open Go Go.Proofs Go.Proofs.Tryz
theorem acallsKo {P:Program} (hm:P.follows .mixedOrders=true) {f fn args H v K'} (hf:P.funcs[f]?=some fn) (hn:notNG fn=true) (hr:kbodyG P (drawKeep P) fn args H fun u H2=>u=v∧H2=K'):ACalls P f args H v K' :=
 acallsG_of (fun c=>@drawKeep_sound P c hm) hf hn hr
abbrev u32 (n:Int):Value:=.int .u32 n
def dgt (d:Nat):Value:=byt (UInt8.ofNat (48+d))
def putD (o:Nat):Nat→Nat→List Value→List Value
 | 0,_,cs=>cs
 | n+1,u,cs=>putD o n (u / 10) (cs.set (o+n) (dgt (u % 10)))
theorem sm_at:∀ p:Nat,p < 100→smS.data[2*p]?=some (UInt8.ofNat (48+p / 10))∧smS.data[2*p+1]?=some (UInt8.ofNat (48+p % 10)):=by decide +kernel
theorem sm_ix (_H:Nat) {p:Nat} (hp:p < 100):aIndex prog 9 (.string smS) (u32 ((2*p:Nat):Int))=some (dgt (p / 10))∧aIndex prog 9 (.string smS) (u32 ((2*p+1:Nat):Int))=some (dgt (p % 10)):=by
 obtain ⟨h1,h2⟩:=sm_at p hp
 have e:str smS.data.toList=.string smS:=rfl
 have i1:=aIndex_at (P:=prog) (T:=9) (k:=.u32) (l:=smS.data.toList) (i:=2*p) (by simp) (by rw [Array.getElem?_toList];exact h1)
 have i2:=aIndex_at (P:=prog) (T:=9) (k:=.u32) (l:=smS.data.toList) (i:=2*p+1) (by simp) (by rw [Array.getElem?_toList];exact h2)
 rw [e] at i1 i2
 exact ⟨i1,i2⟩
section
variable {P:Program} {H:AHeap} {T:TypeId} {x y:Operand} {k:IntKind} {a:Nat}
theorem remL {c:Int} {n:Nat} (hc:c=n) (h0:0 < n):aBin2 P H .rem T x y (.int k (a:Int)) (.int k c)=some (.int k ((a % n:Nat):Int)):=by
 subst hc;rw [aBin_rem _ _ _ _ _ _ _ (by omega)];rfl
theorem quoL {c:Int} {n:Nat} (hc:c=n) (h0:0 < n) (hw:k.wrap ((a / n:Nat):Int)=((a / n:Nat):Int)):aBin2 P H .quo T x y (.int k (a:Int)) (.int k c)=some (.int k ((a / n:Nat):Int)):=by
 subst hc;rw [aBin_quo _ _ _ _ _ _ _ (by omega),← hw];rfl
theorem wrap32 {n:Int} (h1:0≤n) (h2:n < 4294967296):IntKind.u32.wrap n=n:=by
 unfold IntKind.wrap
 simp only [show IntKind.u32.bits=32 from rfl,show IntKind.u32.signed=false from rfl]
 simp
 omega
theorem rem32 {n:Nat} {c:Int} (hc:c=n) (h0:0 < n):aBin2 P H .rem T x y (u32 (a:Int)) (u32 c)=some (u32 ((a % n:Nat):Int)):=remL hc h0
theorem quo32 {n:Nat} {c:Int} (hc:c=n) (h0:0 < n) (ha:a < 4294967296):aBin2 P H .quo T x y (u32 (a:Int)) (u32 c)=some (u32 ((a / n:Nat):Int)) :=
 quoL hc h0 (by have h:=Nat.div_le_self a n;generalize a / n=q at *;exact wrap32 (by omega) (by omega))
theorem mul32 (ha:a < 1000):aBin2 P H .mul T x y (u32 (a:Int)) (u32 2)=some (u32 ((2*a:Nat):Int)):=by
 rw [aBin_mul,wrap32 (by omega) (by omega)];congr 2;omega
theorem add32 (ha:a < 1000):aBin2 P H .add T x y (u32 ((2*a:Nat):Int)) (u32 1)=some (u32 ((2*a+1:Nat):Int)):=by
 rw [aBin_add,wrap32 (by omega) (by omega)];rfl
theorem subN {j:Nat} {c:Int} (hc:c=j) (hj:j≤a) (ha:a < 1000):aBin2 P H .sub T x y (i64 (a:Int)) (i64 c)=some (i64 ((a-j:Nat):Int)):=by
 subst hc;rw [aBin_sub,wrap_i64 (by omega) (by omega)];congr 2;omega
end
theorem row_at {H:AHeap} {b o nd c i:Nat} {cs:List Value} {T:TypeId} (hb:H[b]?=some (.cells cs T)) (hc:cs.length=24) (hi:i < nd) :
  aIndexAddr prog H 55 (.slice (some ⟨b,o,some 24⟩) nd c) (i64 (i:Int))=some (.pointer (some ⟨b,o+i,some 24⟩)):=by
 rw [aIndexAddr_eq (e:=5) (z:=1) (by simp) (by simp) (by simp [hlen,hb,AObj.len,hc]) (by omega) (by omega)]
 simp
theorem row_sto {H:AHeap} {b i d:Nat} {cs:List Value} {T:TypeId} (hb:H[b]?=some (.cells cs T)) (hc:cs.length=24) (hi:i < 24) :
  aStore prog H 5 (.pointer (some ⟨b,i,some 24⟩)) (dgt d)=some (H.set b (.cells (cs.set i (dgt d)) T)):=by
 have h1:(dgt d).cells = #[dgt d]:=rfl
 have h2:storable (dgt d)=true:=rfl
 simp [hb,hc,h1,h2]
 omega
theorem set_get {H:AHeap} {b:Nat} {x y:AObj} (hb:H[b]?=some x):(H.set b y)[b]?=some y:=List.getElem?_set_self (List.getElem?_eq_some_iff.1 hb).1
theorem putD_two {o n u:Nat} {cs:List Value}:putD o (n+2) u cs=putD o n (u / 100) ((cs.set (o+(n+1)) (dgt (u % 100 % 10))).set (o+n) (dgt (u % 100 / 10))):=by
 show putD o n (u / 10 / 10) ((cs.set (o+(n+1)) (dgt (u % 10))).set (o+n) (dgt (u / 10 % 10)))=_
 rw [show u / 10 / 10=u / 100 by omega,show u % 100 % 10=u % 10 by omega,show u % 100 / 10=u / 10 % 10 by omega]
theorem putD_len:∀ (n o u:Nat) (cs:List Value),(putD o n u cs).length=cs.length:=by
 intro n
 induction n with
 | zero=>intro o u cs;rfl
 | succ n ih=>intro o u cs;rw [putD,ih];simp
theorem fb_last {H:AHeap} {b o nd m0 c u:Nat} {cs:List Value} {T:TypeId} {k:Value→AHeap→Prop} (hb:H[b]?=some (.cells cs T)) (hc:cs.length=24) (ho:o+nd≤24) (hnd:nd < 2) (hu:u < 10 ^ nd) (hndc:nd≤m0)
  (hk:k (.tuple #[]) (H.set b (.cells (putD o nd u cs) T))) (s1 s2 s3 s5 s6 s7 s8 s9 aB aC aD aE aF aG aH aI aJ aK aL aM aN aO aP aQ aR aS aT aU aV aW aX aY aZ a0 a1 a2 a3 a4 a5 a6 a7 a8 a9 ba bb bc bd be bf bg bh bi bj bk bl bm bn bo bp bq br bs bt bu bv bw bx bz bA bB bC bD bE bF bG bH bI bJ bK bL bM bN bO bP bQ bR bS bT bU bV bW bX bY bZ b0 b1 b2 a f g h j l m n p q r s t v w x y z A B C D E F G I J K L M N O P Q R S U V W X Y Z aa ab ac ad ae af ag ah ai aj ak al am an ao ap aq ar au av aw ax ay az aA:Value):S144x1 k [.slice (some ⟨b,o,some 24⟩) m0 c,s1,s2,s3,i64 (nd:Int),s5,s6,s7,s8,s9,aB,aC,u32 (u:Int),aD,aE,aF,aG,aH,aI,aJ,aK,aL,aM,aN,aO,aP,aQ,aR,aS,aT,aU,aV,aW,aX,aY,aZ,a0,a1,a2,a3,a4,a5,a6,a7,a8,a9,ba,bb,bc,bd,be,bf,bg,bh,bi,bj,bk,bl,bm,bn,bo,bp,bq,br,bs,bt,bu,bv,bw,bx,bz,bA,bB,bC,bD,bE,bF,bG,bH,bI,bJ,bK,bL,bM,bN,bO,bP,bQ,bR,bS,bT,bU,bV,bW,bX,bY,bZ,b0,b1,b2,a,f,g,h,j,l,m,n,p,q,r,s,t,v,w,x,y,z,A,B,C,D,E,F,G,I,J,K,L,M,N,O,P,Q,R,S,U,V,W,X,Y,Z,aa,ab,ac,ad,ae,af,ag,ah,ai,aj,ak,al,am,an,ao,ap,aq,ar,au,av,aw,ax,ay,az,aA] H:=by
 rw [S144x1q]
 match nd,hnd,hu,hk with
 | 0, _, hu, hk =>
   simp
   rw [show H.set b (.cells (putD o 0 u cs) T)=H from set_same hb] at hk
   exact hk
 | 1, _, hu, hk =>
   have hu':u < 10:=by simpa using hu
   have w1:IntKind.u32.wrap (48+(u:Int))=((48+u:Nat):Int):=by rw [wrap32 (by omega) (by omega)];omega
   have w2:IntKind.u8.wrap (((48+u:Nat):Int))=(((UInt8.ofNat (48+u)).toNat:Nat):Int):=by
    rw [wrap_u8 (by omega) (by omega)];simp only [UInt8.toNat_ofNat'];omega
   have hix:=row_at (o:=o) (nd:=m0) (c:=c) (i:=0) hb hc (by omega)
   have hst:=row_sto (i:=o) (d:=u) hb hc (by omega)
   simp only [show ((0:Nat):Int)=0 from rfl,Nat.add_zero] at hix
   have e:putD o 1 u cs=cs.set o (dgt u):=by
    show cs.set (o+0) (dgt (u % 10))=_
    rw [Nat.add_zero,Nat.mod_eq_of_lt hu']
   rw [e] at hk
   simp only [show ((1:Nat):Int)=1 from rfl,aBin_gtr,show decide ((1:Int) > 0)=true from rfl,bnd_some,kifB_true,aBin_add,w1,convV_int tu50 tu5,w2,hix]
   rw [show (Value.int .u8 (((UInt8.ofNat (48+u)).toNat:Nat):Int))=dgt u from rfl,hst]
   simp only [bndS_some]
   exact hk
theorem set_len {cs:List Value} {i:Nat} {v:Value} (h:cs.length=24):(cs.set i v).length=24:=by simpa using h
theorem fb_two {H:AHeap} {b o nd m0 c u:Nat} {cs:List Value} {T:TypeId} {k:Value→AHeap→Prop} (hb:H[b]?=some (.cells cs T)) (hc:cs.length=24) (ho:o+nd≤24) (hnd:nd < 4) (hu:u < 10 ^ nd) (hndc:nd≤m0)
  (hk:k (.tuple #[]) (H.set b (.cells (putD o nd u cs) T))) (f e s3 s5 s6 s7 s8 s9 aL aM aN aO aP aQ aR aS aT aU aV aW aX aY aZ a1 a2 a3 a4 a5 a6 a7 a8 a9 ba bb bc bd be bf bg bh bi bj bk bl bm bn bo bp bq br bs bt bu bv bw bx bz bA bB bC bD bE bF bG bH bI bJ bK bL bM bN bO bP bQ bR bS bT bU bV bW bX bY bZ b0 b4 b5 b6 b7 b8 b9 ca cb cc cd ce cf cg g h l m p q r s t w z A B C D E F G I J K L M N O Q R S U V W Z aa ab ac ad ae af ag ah ai aj ak al am an ao ap aq ar au av aw ax ay az aA aB aC aD aE aF aG aH aI aJ aK:Value):S144x0 k [.slice (some ⟨b,o,some 24⟩) m0 c,f,e,s3,i64 (nd:Int),s5,s6,s7,s8,s9,aL,aM,u32 (u:Int),aN,aO,aP,aQ,aR,aS,aT,aU,aV,aW,aX,aY,aZ,a1,a2,a3,a4,a5,a6,a7,a8,a9,ba,bb,bc,bd,be,bf,bg,bh,bi,bj,bk,bl,bm,bn,bo,bp,bq,br,bs,bt,bu,bv,bw,bx,bz,bA,bB,bC,bD,bE,bF,bG,bH,bI,bJ,bK,bL,bM,bN,bO,bP,bQ,bR,bS,bT,bU,bV,bW,bX,bY,bZ,b0,b4,b5,b6,b7,b8,b9,ca,cb,cc,cd,ce,cf,cg,g,h,l,m,p,q,r,s,t,w,z,A,B,C,D,E,F,G,I,J,K,L,M,N,O,Q,R,S,U,V,W,Z,aa,ab,ac,ad,ae,af,ag,ah,ai,aj,ak,al,am,an,ao,ap,aq,ar,au,av,aw,ax,ay,az,aA,aB,aC,aD,aE,aF,aG,aH,aI,aJ,aK] H:=by
 rw [S144x0q]
 simp only [aBin_geq,bnd_some]
 have hu4:u < 10000:=Nat.lt_of_lt_of_le hu (Nat.pow_le_pow_right (by omega) (by omega:nd≤4))
 refine kifB_bool (fun hq=>?_) (fun hq=>?_)
 · obtain ⟨n,rfl⟩:∃ n,nd=n+2:=⟨nd-2,by simp at hq;omega⟩
   have hp:u % 100 < 100:=Nat.mod_lt _ (by omega)
   have b1:=fun (H:AHeap) (X Y:Operand)=>rem32 (P:=prog) (H:=H) (T:=50) (x:=X) (y:=Y) (a:=u) (n:=100) (c:=100) rfl (by omega)
   have b2:=fun (H:AHeap) (X Y:Operand)=>mul32 (P:=prog) (H:=H) (T:=50) (x:=X) (y:=Y) (a:=u % 100) (by omega)
   have b3:=fun (H:AHeap) (X Y:Operand)=>quo32 (P:=prog) (H:=H) (T:=50) (x:=X) (y:=Y) (a:=u) (n:=100) (c:=100) rfl (by omega) (by omega)
   have f:=fun (H:AHeap) (X Y:Operand)=>subN (P:=prog) (H:=H) (T:=3) (x:=X) (y:=Y) (a:=n+2) (j:=1) (c:=1) rfl (by omega) (by omega)
   replace f:∀ (H:AHeap) (X Y:Operand),aBin2 prog H .sub 3 X Y (i64 ((n+2:Nat):Int)) (i64 1)=some (i64 ((n+1:Nat):Int)):=f
   have e:=fun (H:AHeap) (X Y:Operand)=>subN (P:=prog) (H:=H) (T:=3) (x:=X) (y:=Y) (a:=n+2) (j:=2) (c:=2) rfl (by omega) (by omega)
   replace e:∀ (H:AHeap) (X Y:Operand),aBin2 prog H .sub 3 X Y (i64 ((n+2:Nat):Int)) (i64 2)=some (i64 ((n+0:Nat):Int)):=e
   have r0a:=row_at (o:=o) (nd:=m0) (c:=c) (i:=n+1) hb hc (by omega)
   have t0a:=row_sto (i:=o+(n+1)) (d:=(u % 100) % 10) hb hc (by omega)
   have g0a:=set_get (y:=.cells (cs.set (o+(n+1)) (dgt ((u % 100) % 10))) T) hb
   have l0a:=set_len (i:=o+(n+1)) (v:=dgt ((u % 100) % 10)) hc
   have r0b:=row_at (o:=o) (nd:=m0) (c:=c) (i:=n+0) g0a l0a (by omega)
   have t0b:=row_sto (i:=o+(n+0)) (d:=(u % 100) / 10) g0a l0a (by omega)
   have g0b:=set_get (y:=.cells ((cs.set (o+(n+1)) (dgt ((u % 100) % 10))).set (o+(n+0)) (dgt ((u % 100) / 10))) T) g0a
   have l0b:=set_len (i:=o+(n+0)) (v:=dgt ((u % 100) / 10)) l0a
   have x0:=sm_ix 0 hp
   have a0:=fun (H:AHeap) (X Y:Operand)=>add32 (P:=prog) (H:=H) (T:=50) (x:=X) (y:=Y) (a:=u % 100) (by omega)
   simp only [b1,b2,b3,bnd_some]
   simp only [bnd_some,f,e,a0,x0.1,x0.2,r0a]
   refine bndK_of ⟨rfl,t0a⟩ ⟨x0.1,e _ _ _,trivial⟩ ?_
   simp only [r0b,bnd_some]
   refine bndK_bar ⟨rfl,t0b⟩ ?_
   simp only [e,bnd_some]
   have hu':u / 100 < 10 ^ n:=by rw [Nat.div_lt_iff_lt_mul (by omega)];rw [Nat.pow_add] at hu;exact hu
   refine fb_last (nd:=n) g0b l0b (by omega) (by omega) hu' (by omega) ?_ _ _ _ _ _ _ _ _ _ _ _ _ _ _ _ _ _ _ _ _ _ _ _ _ _ _ _ _ _ _ _ _ _ _ _ _ _ _ _ _ _ _ _ _ _ _ _ _ _ _ _ _ _ _ _ _ _ _ _ _ _ _ _ _ _ _ _ _ _ _ _ _ _ _ _ _ _ _ _ _ _ _ _ _ _ _ _ _ _ _ _ _ _ _ _ _ _ _ _ _ _ _ _ _ _ _ _ _ _ _ _ _ _ _ _ _ _ _ _ _ _ _ _ _ _ _ _ _ _ _ _ _ _ _ _ _ _ _ _ _ _ _ _ _ _ _ _ _ _ _ _ _ _ _ _ _ _ _ _ _ _ _ _ _
   rw [List.set_set,List.set_set]
   rw [putD_two] at hk
   exact hk
 · dsimp only
   exact fb_last hb hc (by omega) (by simp at hq;omega) hu (by omega) hk _ _ _ _ _ _ _ _ _ _ _ _ _ _ _ _ _ _ _ _ _ _ _ _ _ _ _ _ _ _ _ _ _ _ _ _ _ _ _ _ _ _ _ _ _ _ _ _ _ _ _ _ _ _ _ _ _ _ _ _ _ _ _ _ _ _ _ _ _ _ _ _ _ _ _ _ _ _ _ _ _ _ _ _ _ _ _ _ _ _ _ _ _ _ _ _ _ _ _ _ _ _ _ _ _ _ _ _ _ _ _ _ _ _ _ _ _ _ _ _ _ _ _ _ _ _ _ _ _ _ _ _ _ _ _ _ _ _ _ _ _ _ _ _ _ _ _ _ _ _ _ _ _ _ _ _ _ _ _ _ _ _ _ _
theorem putD_four {o n u:Nat} {cs:List Value}:putD o (n+4) u cs=putD o n (u / 10000) ((((cs.set (o+(n+3)) (dgt ((u % 10000 % 100) % 10))).set (o+(n+2)) (dgt ((u % 10000 % 100) / 10))).set (o+(n+1)) (dgt ((u % 10000 / 100) % 10))).set (o+(n+0)) (dgt ((u % 10000 / 100) / 10))):=by
 rw [show n+4=(n+2)+2 from rfl,putD_two,putD_two,Nat.div_div_eq_div_mul,show u / 100 % 100=u % 10000 / 100 by omega,show u % 10000 % 100=u % 100 by omega]
 rfl
set_option maxRecDepth 20000 in
theorem fb_four {H:AHeap} {b o nd m0 c u:Nat} {cs:List Value} {T:TypeId} {k:Value→AHeap→Prop} (hb:H[b]?=some (.cells cs T)) (hc:cs.length=24) (ho:o+nd≤24) (hnd:nd < 8) (hu:u < 10 ^ nd) (hndc:nd≤m0)
  (hk:k (.tuple #[]) (H.set b (.cells (putD o nd u cs) T))) (n1:Nat) (e f s5 s6 s7 s8 s9 aM aN aO aP aQ aR aS aT aU aV aW aX aY aZ a2 a3 a4 a5 a6 a7 a8 a9 ba bb bc bd be bf bg bh bi bj bk bl bm bn bo bp bq br bs bt bu bv bw bx bz bA bB bC bD bE bF bG bH bI bJ bK bL bM bN bO bP bQ bR bS bT bU bV bW bX bY bZ b0 b7 b8 b9 ca cb cc cd ce cf cg ch ci cj ck cl cm h l m p q r s t w z A B C D E F G I J K L M N O Q R S U V W Z aa ab ac ad ae af ag ah ai aj ak al am an ao ap aq ar au av aw ax ay az aA aB aC aD aE aF aG aH aI aJ aK aL:Value):L144x0 (n1+1) k [.slice (some ⟨b,o,some 24⟩) m0 c,u64 (u:Int),e,f,i64 (nd:Int),s5,s6,s7,s8,s9,aM,aN,aO,aP,aQ,aR,aS,aT,aU,aV,aW,aX,aY,aZ,a2,a3,a4,a5,a6,a7,a8,a9,ba,bb,bc,bd,be,bf,bg,bh,bi,bj,bk,bl,bm,bn,bo,bp,bq,br,bs,bt,bu,bv,bw,bx,bz,bA,bB,bC,bD,bE,bF,bG,bH,bI,bJ,bK,bL,bM,bN,bO,bP,bQ,bR,bS,bT,bU,bV,bW,bX,bY,bZ,b0,b7,b8,b9,ca,cb,cc,cd,ce,cf,cg,ch,ci,cj,ck,cl,cm,h,l,m,p,q,r,s,t,w,z,A,B,C,D,E,F,G,I,J,K,L,M,N,O,Q,R,S,U,V,W,Z,aa,ab,ac,ad,ae,af,ag,ah,ai,aj,ak,al,am,an,ao,ap,aq,ar,au,av,aw,ax,ay,az,aA,aB,aC,aD,aE,aF,aG,aH,aI,aJ,aK,aL] H:=by
 rw [L144x0q]
 have hu8:u < 100000000:=Nat.lt_of_lt_of_le hu (Nat.pow_le_pow_right (by omega) (by omega:nd≤8))
 have h8:decide ((nd:Int) ≥ 8)=false:=by simp;omega
 have w0:IntKind.u32.wrap (u:Int)=u:=wrap32 (by omega) (by omega)
 simp only [aBin_geq,bnd_some,h8,kifB_false,convV_int tu178 tu50,w0]
 refine kifB_bool (fun hq=>?_) (fun hq=>?_)
 · obtain ⟨n,rfl⟩:∃ n,nd=n+4:=⟨nd-4,by simp at hq;omega⟩
   have hp:u % 10000 % 100 < 100:=Nat.mod_lt _ (by omega)
   have hp2:u % 10000 / 100 < 100:=by omega
   have b1:=fun (H:AHeap) (X Y:Operand)=>rem32 (P:=prog) (H:=H) (T:=50) (x:=X) (y:=Y) (a:=u) (n:=10000) (c:=10000) rfl (by omega)
   have b2:=fun (H:AHeap) (X Y:Operand)=>quo32 (P:=prog) (H:=H) (T:=50) (x:=X) (y:=Y) (a:=u) (n:=10000) (c:=10000) rfl (by omega) (by omega)
   have b3:=fun (H:AHeap) (X Y:Operand)=>quo32 (P:=prog) (H:=H) (T:=50) (x:=X) (y:=Y) (a:=u % 10000) (n:=100) (c:=100) rfl (by omega) (by omega)
   have b4:=fun (H:AHeap) (X Y:Operand)=>mul32 (P:=prog) (H:=H) (T:=50) (x:=X) (y:=Y) (a:=u % 10000 / 100) (by omega)
   have b5:=fun (H:AHeap) (X Y:Operand)=>rem32 (P:=prog) (H:=H) (T:=50) (x:=X) (y:=Y) (a:=u % 10000) (n:=100) (c:=100) rfl (by omega)
   have b6:=fun (H:AHeap) (X Y:Operand)=>mul32 (P:=prog) (H:=H) (T:=50) (x:=X) (y:=Y) (a:=u % 10000 % 100) (by omega)
   have s1:=fun (H:AHeap) (X Y:Operand)=>subN (P:=prog) (H:=H) (T:=3) (x:=X) (y:=Y) (a:=n+4) (j:=1) (c:=1) rfl (by omega) (by omega)
   replace s1:∀ (H:AHeap) (X Y:Operand),aBin2 prog H .sub 3 X Y (i64 ((n+4:Nat):Int)) (i64 1)=some (i64 ((n+3:Nat):Int)):=s1
   have e:=fun (H:AHeap) (X Y:Operand)=>subN (P:=prog) (H:=H) (T:=3) (x:=X) (y:=Y) (a:=n+4) (j:=2) (c:=2) rfl (by omega) (by omega)
   replace e:∀ (H:AHeap) (X Y:Operand),aBin2 prog H .sub 3 X Y (i64 ((n+4:Nat):Int)) (i64 2)=some (i64 ((n+2:Nat):Int)):=e
   have f:=fun (H:AHeap) (X Y:Operand)=>subN (P:=prog) (H:=H) (T:=3) (x:=X) (y:=Y) (a:=n+4) (j:=3) (c:=3) rfl (by omega) (by omega)
   replace f:∀ (H:AHeap) (X Y:Operand),aBin2 prog H .sub 3 X Y (i64 ((n+4:Nat):Int)) (i64 3)=some (i64 ((n+1:Nat):Int)):=f
   have g:=fun (H:AHeap) (X Y:Operand)=>subN (P:=prog) (H:=H) (T:=3) (x:=X) (y:=Y) (a:=n+4) (j:=4) (c:=4) rfl (by omega) (by omega)
   replace g:∀ (H:AHeap) (X Y:Operand),aBin2 prog H .sub 3 X Y (i64 ((n+4:Nat):Int)) (i64 4)=some (i64 ((n+0:Nat):Int)):=g
   have r0a:=row_at (o:=o) (nd:=m0) (c:=c) (i:=n+3) hb hc (by omega)
   have t0a:=row_sto (i:=o+(n+3)) (d:=(u % 10000 % 100) % 10) hb hc (by omega)
   have g0a:=set_get (y:=.cells (cs.set (o+(n+3)) (dgt ((u % 10000 % 100) % 10))) T) hb
   have l0a:=set_len (i:=o+(n+3)) (v:=dgt ((u % 10000 % 100) % 10)) hc
   have r0b:=row_at (o:=o) (nd:=m0) (c:=c) (i:=n+2) g0a l0a (by omega)
   have t0b:=row_sto (i:=o+(n+2)) (d:=(u % 10000 % 100) / 10) g0a l0a (by omega)
   have g0b:=set_get (y:=.cells ((cs.set (o+(n+3)) (dgt ((u % 10000 % 100) % 10))).set (o+(n+2)) (dgt ((u % 10000 % 100) / 10))) T) g0a
   have l0b:=set_len (i:=o+(n+2)) (v:=dgt ((u % 10000 % 100) / 10)) l0a
   have x0:=sm_ix 0 hp
   have a0:=fun (H:AHeap) (X Y:Operand)=>add32 (P:=prog) (H:=H) (T:=50) (x:=X) (y:=Y) (a:=u % 10000 % 100) (by omega)
   have r1a:=row_at (o:=o) (nd:=m0) (c:=c) (i:=n+1) g0b l0b (by omega)
   have t1a:=row_sto (i:=o+(n+1)) (d:=(u % 10000 / 100) % 10) g0b l0b (by omega)
   have g1a:=set_get (y:=.cells (((cs.set (o+(n+3)) (dgt ((u % 10000 % 100) % 10))).set (o+(n+2)) (dgt ((u % 10000 % 100) / 10))).set (o+(n+1)) (dgt ((u % 10000 / 100) % 10))) T) g0b
   have l1a:=set_len (i:=o+(n+1)) (v:=dgt ((u % 10000 / 100) % 10)) l0b
   have r1b:=row_at (o:=o) (nd:=m0) (c:=c) (i:=n+0) g1a l1a (by omega)
   have t1b:=row_sto (i:=o+(n+0)) (d:=(u % 10000 / 100) / 10) g1a l1a (by omega)
   have g1b:=set_get (y:=.cells ((((cs.set (o+(n+3)) (dgt ((u % 10000 % 100) % 10))).set (o+(n+2)) (dgt ((u % 10000 % 100) / 10))).set (o+(n+1)) (dgt ((u % 10000 / 100) % 10))).set (o+(n+0)) (dgt ((u % 10000 / 100) / 10))) T) g1a
   have l1b:=set_len (i:=o+(n+0)) (v:=dgt ((u % 10000 / 100) / 10)) l1a
   have x1:=sm_ix 0 hp2
   have a1:=fun (H:AHeap) (X Y:Operand)=>add32 (P:=prog) (H:=H) (T:=50) (x:=X) (y:=Y) (a:=u % 10000 / 100) (by omega)
   simp only [b1,b2,b3,b4,b5,b6,bnd_some]
   simp only [bnd_some,s1,e,a0,x0.1,x0.2,r0a]
   refine bndK_of ⟨rfl,t0a⟩ ⟨x0.1,e _ _ _,trivial⟩ ?_
   simp only [r0b,bnd_some]
   refine bndK_bar ⟨rfl,t0b⟩ ?_
   simp only [bnd_some,f,g,a1,x1.1,x1.2,r1a]
   refine bndK_of ⟨rfl,t1a⟩ ⟨x1.1,g _ _ _,trivial⟩ ?_
   simp only [r1b,bnd_some]
   refine bndK_bar ⟨rfl,t1b⟩ ?_
   simp only [g,bnd_some]
   have hu':u / 10000 < 10 ^ n:=by rw [Nat.div_lt_iff_lt_mul (by omega)];rw [Nat.pow_add] at hu;exact hu
   refine fb_two (nd:=n) g1b l1b (by omega) (by omega) hu' (by omega) ?_ _ _ _ _ _ _ _ _ _ _ _ _ _ _ _ _ _ _ _ _ _ _ _ _ _ _ _ _ _ _ _ _ _ _ _ _ _ _ _ _ _ _ _ _ _ _ _ _ _ _ _ _ _ _ _ _ _ _ _ _ _ _ _ _ _ _ _ _ _ _ _ _ _ _ _ _ _ _ _ _ _ _ _ _ _ _ _ _ _ _ _ _ _ _ _ _ _ _ _ _ _ _ _ _ _ _ _ _ _ _ _ _ _ _ _ _ _ _ _ _ _ _ _ _ _ _ _ _ _ _ _ _ _ _ _ _ _ _ _ _ _ _ _ _ _ _ _ _ _ _ _ _ _ _ _ _ _ _ _ _ _ _ _ _
   rw [List.set_set,List.set_set,List.set_set,List.set_set]
   rw [putD_four] at hk
   exact hk
 · dsimp only
   exact fb_two hb hc (by omega) (by simp at hq;omega) hu (by omega) hk _ _ _ _ _ _ _ _ _ _ _ _ _ _ _ _ _ _ _ _ _ _ _ _ _ _ _ _ _ _ _ _ _ _ _ _ _ _ _ _ _ _ _ _ _ _ _ _ _ _ _ _ _ _ _ _ _ _ _ _ _ _ _ _ _ _ _ _ _ _ _ _ _ _ _ _ _ _ _ _ _ _ _ _ _ _ _ _ _ _ _ _ _ _ _ _ _ _ _ _ _ _ _ _ _ _ _ _ _ _ _ _ _ _ _ _ _ _ _ _ _ _ _ _ _ _ _ _ _ _ _ _ _ _ _ _ _ _ _ _ _ _ _ _ _ _ _ _ _ _ _ _ _ _ _ _ _ _ _ _ _ _ _ _
theorem putD_eight {o n u:Nat} {cs:List Value}:putD o (n+8) u cs=putD o n (u / 100000000) ((((((((cs.set (o+(n+7)) (dgt ((u % 100000000 % 10000 % 100) % 10))).set (o+(n+6)) (dgt ((u % 100000000 % 10000 % 100) / 10))).set (o+(n+5)) (dgt ((u % 100000000 % 10000 / 100) % 10))).set (o+(n+4)) (dgt ((u % 100000000 % 10000 / 100) / 10))).set (o+(n+3)) (dgt ((u % 100000000 / 10000 % 100) % 10))).set (o+(n+2)) (dgt ((u % 100000000 / 10000 % 100) / 10))).set (o+(n+1)) (dgt ((u % 100000000 / 10000 / 100) % 10))).set (o+(n+0)) (dgt ((u % 100000000 / 10000 / 100) / 10))):=by
 rw [show n+8=(n+4)+4 from rfl,putD_four,putD_four,Nat.div_div_eq_div_mul,show u % 100000000 % 10000=u % 10000 by omega,show u % 100000000 / 10000=u / 10000 % 10000 by omega]
set_option maxRecDepth 20000 in
theorem fb_loop {b o m0 c:Nat} {T:TypeId} {k:Value→AHeap→Prop}:∀ (f nd u:Nat) (H:AHeap) (cs:List Value),nd < 8*f+8→H[b]?=some (.cells cs T)→cs.length=24→o+nd≤24→u < 10 ^ nd→u < 2 ^ 64→nd≤m0→k (.tuple #[]) (H.set b (.cells (putD o nd u cs) T)) →
  ∀ (g l m h p e s9 aQ aR aS aT aU aV aW aX aY aZ a4 a5 a6 a7 a8 a9 bb bc bd be bf bg bh bi bj bk bl bm bn bo bp bq br bs bt bu bv bw bx bz bA bB bC bD bE bF bG bH bI bJ bK bL bM bN bO bP bQ bR bS bT bU bV bW bX bY bZ b0 ca cb cc cd ce cf cg ch ci cj ck cl cm cn co cp cq cr ct cu cv cw cx q r s t w z A B C D E F G I J K L M N O Q R S U V W Z aa ab ac ad ae af ag ah ai aj ak al am an ao ap aq ar au av aw ax ay az aA aB aC aD aE aF aG aH aI aJ aK aL aM aN aO aP:Value),L144x0 (f+1) k [.slice (some ⟨b,o,some 24⟩) m0 c,u64 (u:Int),g,l,i64 (nd:Int),m,h,p,e,s9,aQ,aR,aS,aT,aU,aV,aW,aX,aY,aZ,a4,a5,a6,a7,a8,a9,bb,bc,bd,be,bf,bg,bh,bi,bj,bk,bl,bm,bn,bo,bp,bq,br,bs,bt,bu,bv,bw,bx,bz,bA,bB,bC,bD,bE,bF,bG,bH,bI,bJ,bK,bL,bM,bN,bO,bP,bQ,bR,bS,bT,bU,bV,bW,bX,bY,bZ,b0,ca,cb,cc,cd,ce,cf,cg,ch,ci,cj,ck,cl,cm,cn,co,cp,cq,cr,ct,cu,cv,cw,cx,q,r,s,t,w,z,A,B,C,D,E,F,G,I,J,K,L,M,N,O,Q,R,S,U,V,W,Z,aa,ab,ac,ad,ae,af,ag,ah,ai,aj,ak,al,am,an,ao,ap,aq,ar,au,av,aw,ax,ay,az,aA,aB,aC,aD,aE,aF,aG,aH,aI,aJ,aK,aL,aM,aN,aO,aP] H:=by
 intro f
 induction f with
 | zero=>intro nd u H cs hnd hb hc ho hu _ hm hk;exact fb_four hb hc ho (by omega) hu hm hk 0
 | succ f ih =>
   intro nd u H cs hnd hb hc ho hu hu64 hm hk
   by_cases h8:nd < 8
   · exact fb_four hb hc ho h8 hu hm hk (f+1)
   intro g l m h p e s9 aQ aR aS aT aU aV aW aX aY aZ a4 a5 a6 a7 a8 a9 bb bc bd be bf bg bh bi bj bk bl bm bn bo bp bq br bs bt bu bv bw bx bz bA bB bC bD bE bF bG bH bI bJ bK bL bM bN bO bP bQ bR bS bT bU bV bW bX bY bZ b0 ca cb cc cd ce cf cg ch ci cj ck cl cm cn co cp cq cr ct cu cv cw cx q r s t w z A B C D E F G I J K L M N O Q R S U V W Z aa ab ac ad ae af ag ah ai aj ak al am an ao ap aq ar au av aw ax ay az aA aB aC aD aE aF aG aH aI aJ aK aL aM aN aO aP
   rw [L144x0q]
   obtain ⟨n,rfl⟩:∃ n,nd=n+8:=⟨nd-8,by omega⟩
   have h8':decide ((((n+8:Nat):Int)) ≥ 8)=true:=by simp;omega
   have w0:IntKind.u32.wrap ((u % 100000000:Nat):Int)=((u % 100000000:Nat):Int):=wrap32 (by omega) (by omega)
   have c1:=fun (H:AHeap) (X Y:Operand)=>remL (P:=prog) (H:=H) (T:=178) (x:=X) (y:=Y) (k:=.u64) (a:=u) (n:=100000000) (c:=100000000) rfl (by omega)
   have c2:=fun (H:AHeap) (X Y:Operand)=>quoL (P:=prog) (H:=H) (T:=178) (x:=X) (y:=Y) (k:=.u64) (a:=u) (n:=100000000) (c:=100000000) rfl (by omega) (wrapU (by omega) (by omega))
   simp only [aBin_geq,bnd_some,h8',kifB_true,c1,c2,convV_int tu178 tu50,w0]
   have p0:u % 100000000 % 10000 % 100 < 100:=Nat.mod_lt _ (by omega)
   have p1:u % 100000000 % 10000 / 100 < 100:=by omega
   have p2:u % 100000000 / 10000 % 100 < 100:=Nat.mod_lt _ (by omega)
   have p3:u % 100000000 / 10000 / 100 < 100:=by omega
   have b1:=fun (H:AHeap) (X Y:Operand)=>quo32 (P:=prog) (H:=H) (T:=50) (x:=X) (y:=Y) (a:=u % 100000000) (n:=10000) (c:=10000) rfl (by omega) (by omega)
   have b2:=fun (H:AHeap) (X Y:Operand)=>rem32 (P:=prog) (H:=H) (T:=50) (x:=X) (y:=Y) (a:=u % 100000000) (n:=10000) (c:=10000) rfl (by omega)
   have b3:=fun (H:AHeap) (X Y:Operand)=>quo32 (P:=prog) (H:=H) (T:=50) (x:=X) (y:=Y) (a:=u % 100000000 % 10000) (n:=100) (c:=100) rfl (by omega) (by omega)
   have b4:=fun (H:AHeap) (X Y:Operand)=>mul32 (P:=prog) (H:=H) (T:=50) (x:=X) (y:=Y) (a:=u % 100000000 % 10000 / 100) (by omega)
   have b5:=fun (H:AHeap) (X Y:Operand)=>rem32 (P:=prog) (H:=H) (T:=50) (x:=X) (y:=Y) (a:=u % 100000000 % 10000) (n:=100) (c:=100) rfl (by omega)
   have b6:=fun (H:AHeap) (X Y:Operand)=>mul32 (P:=prog) (H:=H) (T:=50) (x:=X) (y:=Y) (a:=u % 100000000 % 10000 % 100) (by omega)
   have b7:=fun (H:AHeap) (X Y:Operand)=>quo32 (P:=prog) (H:=H) (T:=50) (x:=X) (y:=Y) (a:=u % 100000000 / 10000) (n:=100) (c:=100) rfl (by omega) (by omega)
   have b8:=fun (H:AHeap) (X Y:Operand)=>mul32 (P:=prog) (H:=H) (T:=50) (x:=X) (y:=Y) (a:=u % 100000000 / 10000 / 100) (by omega)
   have b9:=fun (H:AHeap) (X Y:Operand)=>rem32 (P:=prog) (H:=H) (T:=50) (x:=X) (y:=Y) (a:=u % 100000000 / 10000) (n:=100) (c:=100) rfl (by omega)
   have ba:=fun (H:AHeap) (X Y:Operand)=>mul32 (P:=prog) (H:=H) (T:=50) (x:=X) (y:=Y) (a:=u % 100000000 / 10000 % 100) (by omega)
   have s1:=fun (H:AHeap) (X Y:Operand)=>subN (P:=prog) (H:=H) (T:=3) (x:=X) (y:=Y) (a:=n+8) (j:=1) (c:=1) rfl (by omega) (by omega)
   replace s1:∀ (H:AHeap) (X Y:Operand),aBin2 prog H .sub 3 X Y (i64 ((n+8:Nat):Int)) (i64 1)=some (i64 ((n+7:Nat):Int)):=s1
   have g:=fun (H:AHeap) (X Y:Operand)=>subN (P:=prog) (H:=H) (T:=3) (x:=X) (y:=Y) (a:=n+8) (j:=2) (c:=2) rfl (by omega) (by omega)
   replace g:∀ (H:AHeap) (X Y:Operand),aBin2 prog H .sub 3 X Y (i64 ((n+8:Nat):Int)) (i64 2)=some (i64 ((n+6:Nat):Int)):=g
   have l:=fun (H:AHeap) (X Y:Operand)=>subN (P:=prog) (H:=H) (T:=3) (x:=X) (y:=Y) (a:=n+8) (j:=3) (c:=3) rfl (by omega) (by omega)
   replace l:∀ (H:AHeap) (X Y:Operand),aBin2 prog H .sub 3 X Y (i64 ((n+8:Nat):Int)) (i64 3)=some (i64 ((n+5:Nat):Int)):=l
   have s4:=fun (H:AHeap) (X Y:Operand)=>subN (P:=prog) (H:=H) (T:=3) (x:=X) (y:=Y) (a:=n+8) (j:=4) (c:=4) rfl (by omega) (by omega)
   replace s4:∀ (H:AHeap) (X Y:Operand),aBin2 prog H .sub 3 X Y (i64 ((n+8:Nat):Int)) (i64 4)=some (i64 ((n+4:Nat):Int)):=s4
   have m:=fun (H:AHeap) (X Y:Operand)=>subN (P:=prog) (H:=H) (T:=3) (x:=X) (y:=Y) (a:=n+8) (j:=5) (c:=5) rfl (by omega) (by omega)
   replace m:∀ (H:AHeap) (X Y:Operand),aBin2 prog H .sub 3 X Y (i64 ((n+8:Nat):Int)) (i64 5)=some (i64 ((n+3:Nat):Int)):=m
   have h:=fun (H:AHeap) (X Y:Operand)=>subN (P:=prog) (H:=H) (T:=3) (x:=X) (y:=Y) (a:=n+8) (j:=6) (c:=6) rfl (by omega) (by omega)
   replace h:∀ (H:AHeap) (X Y:Operand),aBin2 prog H .sub 3 X Y (i64 ((n+8:Nat):Int)) (i64 6)=some (i64 ((n+2:Nat):Int)):=h
   have p:=fun (H:AHeap) (X Y:Operand)=>subN (P:=prog) (H:=H) (T:=3) (x:=X) (y:=Y) (a:=n+8) (j:=7) (c:=7) rfl (by omega) (by omega)
   replace p:∀ (H:AHeap) (X Y:Operand),aBin2 prog H .sub 3 X Y (i64 ((n+8:Nat):Int)) (i64 7)=some (i64 ((n+1:Nat):Int)):=p
   have e:=fun (H:AHeap) (X Y:Operand)=>subN (P:=prog) (H:=H) (T:=3) (x:=X) (y:=Y) (a:=n+8) (j:=8) (c:=8) rfl (by omega) (by omega)
   replace e:∀ (H:AHeap) (X Y:Operand),aBin2 prog H .sub 3 X Y (i64 ((n+8:Nat):Int)) (i64 8)=some (i64 ((n+0:Nat):Int)):=e
   have r0a:=row_at (o:=o) (nd:=m0) (c:=c) (i:=n+7) hb hc (by omega)
   have t0a:=row_sto (i:=o+(n+7)) (d:=(u % 100000000 % 10000 % 100) % 10) hb hc (by omega)
   have g0a:=set_get (y:=.cells (cs.set (o+(n+7)) (dgt ((u % 100000000 % 10000 % 100) % 10))) T) hb
   have l0a:=set_len (i:=o+(n+7)) (v:=dgt ((u % 100000000 % 10000 % 100) % 10)) hc
   have r0b:=row_at (o:=o) (nd:=m0) (c:=c) (i:=n+6) g0a l0a (by omega)
   have t0b:=row_sto (i:=o+(n+6)) (d:=(u % 100000000 % 10000 % 100) / 10) g0a l0a (by omega)
   have g0b:=set_get (y:=.cells ((cs.set (o+(n+7)) (dgt ((u % 100000000 % 10000 % 100) % 10))).set (o+(n+6)) (dgt ((u % 100000000 % 10000 % 100) / 10))) T) g0a
   have l0b:=set_len (i:=o+(n+6)) (v:=dgt ((u % 100000000 % 10000 % 100) / 10)) l0a
   have x0:=sm_ix 0 p0
   have a0:=fun (H:AHeap) (X Y:Operand)=>add32 (P:=prog) (H:=H) (T:=50) (x:=X) (y:=Y) (a:=u % 100000000 % 10000 % 100) (by omega)
   have r1a:=row_at (o:=o) (nd:=m0) (c:=c) (i:=n+5) g0b l0b (by omega)
   have t1a:=row_sto (i:=o+(n+5)) (d:=(u % 100000000 % 10000 / 100) % 10) g0b l0b (by omega)
   have g1a:=set_get (y:=.cells (((cs.set (o+(n+7)) (dgt ((u % 100000000 % 10000 % 100) % 10))).set (o+(n+6)) (dgt ((u % 100000000 % 10000 % 100) / 10))).set (o+(n+5)) (dgt ((u % 100000000 % 10000 / 100) % 10))) T) g0b
   have l1a:=set_len (i:=o+(n+5)) (v:=dgt ((u % 100000000 % 10000 / 100) % 10)) l0b
   have r1b:=row_at (o:=o) (nd:=m0) (c:=c) (i:=n+4) g1a l1a (by omega)
   have t1b:=row_sto (i:=o+(n+4)) (d:=(u % 100000000 % 10000 / 100) / 10) g1a l1a (by omega)
   have g1b:=set_get (y:=.cells ((((cs.set (o+(n+7)) (dgt ((u % 100000000 % 10000 % 100) % 10))).set (o+(n+6)) (dgt ((u % 100000000 % 10000 % 100) / 10))).set (o+(n+5)) (dgt ((u % 100000000 % 10000 / 100) % 10))).set (o+(n+4)) (dgt ((u % 100000000 % 10000 / 100) / 10))) T) g1a
   have l1b:=set_len (i:=o+(n+4)) (v:=dgt ((u % 100000000 % 10000 / 100) / 10)) l1a
   have x1:=sm_ix 0 p1
   have a1:=fun (H:AHeap) (X Y:Operand)=>add32 (P:=prog) (H:=H) (T:=50) (x:=X) (y:=Y) (a:=u % 100000000 % 10000 / 100) (by omega)
   have r2a:=row_at (o:=o) (nd:=m0) (c:=c) (i:=n+3) g1b l1b (by omega)
   have t2a:=row_sto (i:=o+(n+3)) (d:=(u % 100000000 / 10000 % 100) % 10) g1b l1b (by omega)
   have g2a:=set_get (y:=.cells (((((cs.set (o+(n+7)) (dgt ((u % 100000000 % 10000 % 100) % 10))).set (o+(n+6)) (dgt ((u % 100000000 % 10000 % 100) / 10))).set (o+(n+5)) (dgt ((u % 100000000 % 10000 / 100) % 10))).set (o+(n+4)) (dgt ((u % 100000000 % 10000 / 100) / 10))).set (o+(n+3)) (dgt ((u % 100000000 / 10000 % 100) % 10))) T) g1b
   have l2a:=set_len (i:=o+(n+3)) (v:=dgt ((u % 100000000 / 10000 % 100) % 10)) l1b
   have r2b:=row_at (o:=o) (nd:=m0) (c:=c) (i:=n+2) g2a l2a (by omega)
   have t2b:=row_sto (i:=o+(n+2)) (d:=(u % 100000000 / 10000 % 100) / 10) g2a l2a (by omega)
   have g2b:=set_get (y:=.cells ((((((cs.set (o+(n+7)) (dgt ((u % 100000000 % 10000 % 100) % 10))).set (o+(n+6)) (dgt ((u % 100000000 % 10000 % 100) / 10))).set (o+(n+5)) (dgt ((u % 100000000 % 10000 / 100) % 10))).set (o+(n+4)) (dgt ((u % 100000000 % 10000 / 100) / 10))).set (o+(n+3)) (dgt ((u % 100000000 / 10000 % 100) % 10))).set (o+(n+2)) (dgt ((u % 100000000 / 10000 % 100) / 10))) T) g2a
   have l2b:=set_len (i:=o+(n+2)) (v:=dgt ((u % 100000000 / 10000 % 100) / 10)) l2a
   have x2:=sm_ix 0 p2
   have a2:=fun (H:AHeap) (X Y:Operand)=>add32 (P:=prog) (H:=H) (T:=50) (x:=X) (y:=Y) (a:=u % 100000000 / 10000 % 100) (by omega)
   have r3a:=row_at (o:=o) (nd:=m0) (c:=c) (i:=n+1) g2b l2b (by omega)
   have t3a:=row_sto (i:=o+(n+1)) (d:=(u % 100000000 / 10000 / 100) % 10) g2b l2b (by omega)
   have g3a:=set_get (y:=.cells (((((((cs.set (o+(n+7)) (dgt ((u % 100000000 % 10000 % 100) % 10))).set (o+(n+6)) (dgt ((u % 100000000 % 10000 % 100) / 10))).set (o+(n+5)) (dgt ((u % 100000000 % 10000 / 100) % 10))).set (o+(n+4)) (dgt ((u % 100000000 % 10000 / 100) / 10))).set (o+(n+3)) (dgt ((u % 100000000 / 10000 % 100) % 10))).set (o+(n+2)) (dgt ((u % 100000000 / 10000 % 100) / 10))).set (o+(n+1)) (dgt ((u % 100000000 / 10000 / 100) % 10))) T) g2b
   have l3a:=set_len (i:=o+(n+1)) (v:=dgt ((u % 100000000 / 10000 / 100) % 10)) l2b
   have r3b:=row_at (o:=o) (nd:=m0) (c:=c) (i:=n+0) g3a l3a (by omega)
   have t3b:=row_sto (i:=o+(n+0)) (d:=(u % 100000000 / 10000 / 100) / 10) g3a l3a (by omega)
   have g3b:=set_get (y:=.cells ((((((((cs.set (o+(n+7)) (dgt ((u % 100000000 % 10000 % 100) % 10))).set (o+(n+6)) (dgt ((u % 100000000 % 10000 % 100) / 10))).set (o+(n+5)) (dgt ((u % 100000000 % 10000 / 100) % 10))).set (o+(n+4)) (dgt ((u % 100000000 % 10000 / 100) / 10))).set (o+(n+3)) (dgt ((u % 100000000 / 10000 % 100) % 10))).set (o+(n+2)) (dgt ((u % 100000000 / 10000 % 100) / 10))).set (o+(n+1)) (dgt ((u % 100000000 / 10000 / 100) % 10))).set (o+(n+0)) (dgt ((u % 100000000 / 10000 / 100) / 10))) T) g3a
   have l3b:=set_len (i:=o+(n+0)) (v:=dgt ((u % 100000000 / 10000 / 100) / 10)) l3a
   have x3:=sm_ix 0 p3
   have a3:=fun (H:AHeap) (X Y:Operand)=>add32 (P:=prog) (H:=H) (T:=50) (x:=X) (y:=Y) (a:=u % 100000000 / 10000 / 100) (by omega)
   simp only [b1,b2,b3,b4,b5,b6,b7,b8,b9,ba,bnd_some]
   simp only [bnd_some,s1,g,a0,x0.1,x0.2,r0a]
   refine bndK_of ⟨rfl,t0a⟩ ⟨x0.1,g _ _ _,trivial⟩ ?_
   simp only [r0b,bnd_some]
   refine bndK_bar ⟨rfl,t0b⟩ ?_
   simp only [bnd_some,l,s4,a1,x1.1,x1.2,r1a]
   refine bndK_of ⟨rfl,t1a⟩ ⟨x1.1,s4 _ _ _,trivial⟩ ?_
   simp only [r1b,bnd_some]
   refine bndK_bar ⟨rfl,t1b⟩ ?_
   simp only [bnd_some,m,h,a2,x2.1,x2.2,r2a]
   refine bndK_of ⟨rfl,t2a⟩ ⟨x2.1,h _ _ _,trivial⟩ ?_
   simp only [r2b,bnd_some]
   refine bndK_bar ⟨rfl,t2b⟩ ?_
   simp only [bnd_some,p,e,a3,x3.1,x3.2,r3a]
   refine bndK_of ⟨rfl,t3a⟩ ⟨x3.1,e _ _ _,trivial⟩ ?_
   simp only [r3b,bnd_some]
   refine bndK_bar ⟨rfl,t3b⟩ ?_
   simp only [e,bnd_some]
   have hu':u / 100000000 < 10 ^ n:=by rw [Nat.div_lt_iff_lt_mul (by omega)];rw [Nat.pow_add] at hu;exact hu
   refine ih n (u / 100000000) _ _ (by omega) g3b l3b (by omega) hu' (by omega) (by omega) ?_ _ _ _ _ _ _ _ _ _ _ _ _ _ _ _ _ _ _ _ _ _ _ _ _ _ _ _ _ _ _ _ _ _ _ _ _ _ _ _ _ _ _ _ _ _ _ _ _ _ _ _ _ _ _ _ _ _ _ _ _ _ _ _ _ _ _ _ _ _ _ _ _ _ _ _ _ _ _ _ _ _ _ _ _ _ _ _ _ _ _ _ _ _ _ _ _ _ _ _ _ _ _ _ _ _ _ _ _ _ _ _ _ _ _ _ _ _ _ _ _ _ _ _ _ _ _ _ _ _ _ _ _ _ _ _ _ _ _ _ _ _ _ _ _ _ _ _ _ _ _ _ _ _ _ _ _ _ _ _ _ _ _ _ _
   rw [List.set_set,List.set_set,List.set_set,List.set_set,List.set_set,List.set_set,List.set_set,List.set_set]
   rw [putD_eight] at hk
   exact hk
theorem c_formatBase10 {H:AHeap} {b o nd c u:Nat} {cs:List Value} {T:TypeId} (hb:H[b]?=some (.cells cs T)) (hc:cs.length=24) (ho:o+nd≤24) (hu:u < 10 ^ nd) (hu64:u < 2 ^ 64) :
  ACalls prog 144 [.slice (some ⟨b,o,some 24⟩) nd c,u64 (u:Int)] H (.tuple #[]) (H.set b (.cells (putD o nd u cs) T)):=by
 refine acallsKo MixT func144 (by decide) ?_
 rw [d144]
 simp
 exact ⟨3+1,fb_loop 3 nd u H cs (by omega) hb hc ho hu hu64 (Nat.le_refl _) ⟨rfl,rfl⟩ _ _ _ _ _ _ _ _ _ _ _ _ _ _ _ _ _ _ _ _ _ _ _ _ _ _ _ _ _ _ _ _ _ _ _ _ _ _ _ _ _ _ _ _ _ _ _ _ _ _ _ _ _ _ _ _ _ _ _ _ _ _ _ _ _ _ _ _ _ _ _ _ _ _ _ _ _ _ _ _ _ _ _ _ _ _ _ _ _ _ _ _ _ _ _ _ _ _ _ _ _ _ _ _ _ _ _ _ _ _ _ _ _ _ _ _ _ _ _ _ _ _ _ _ _ _ _ _ _ _ _ _ _ _ _ _ _ _ _ _ _ _ _ _ _ _ _ _ _ _ _ _ _ _ _ _ _ _ _ _ _ _ _ _⟩
end Go.Vi
namespace Go.Vi
open Go Go.Proofs Go.Proofs.Tryz
def digs:Nat→Nat→List UInt8
 | 0,_=>[]
 | n+1,u=>digs n (u / 10)++[UInt8.ofNat (48+u % 10)]
theorem digs_len:∀ (n u:Nat),(digs n u).length=n:=by
 intro n
 induction n with
 | zero=>intro u;rfl
 | succ n ih=>intro u;rw [digs];simp [ih]
theorem putD_eq:∀ (n o u:Nat) (cs:List Value),o+n≤cs.length→putD o n u cs=cs.take o++bcells (digs n u)++cs.drop (o+n):=by
 intro n
 induction n with
 | zero=>intro o u cs _;simp [putD,digs,bcells]
 | succ n ih =>
   intro o u cs h
   rw [putD,ih _ _ _ (by simp;omega),digs]
   have e1:(cs.set (o+n) (dgt (u % 10))).take o=cs.take o:=by
    rw [List.take_set_of_le (by omega)]
   have e2:(cs.set (o+n) (dgt (u % 10))).drop (o+n)=dgt (u % 10) :: cs.drop (o+(n+1)):=by
    rw [List.drop_eq_getElem_cons (by simp;omega),List.getElem_set_self,List.drop_set_of_lt (by omega)]
    rfl
   rw [e1,e2]
   simp [bcells,dgt]
def natS (n:Nat):List UInt8:=if n=0 then [48] else digs (ndig n) n
def fmtS (x:Int):List UInt8:=if x < 0 then 45 :: natS x.natAbs else natS x.natAbs
theorem small_txt:(∀ n:Nat,n < 10→dgS.extract n (n+1)=⟨(natS n).toArray⟩)∧(∀ n:Nat,n < 100→10≤n→smS.extract (2*n) (2*n+2)=⟨(natS n).toArray⟩):=by
 constructor<;>decide +kernel
theorem convBytes {H:AHeap} {b o n c:Nat} {cs:List Value} {l:List UInt8} (hb:hcells H b=some cs) (hcs:(cs.drop o).take n=bcells l) (_hn:n=l.length) (hle:o+n≤cs.length) :
  convV prog H 55 9 (.slice (some ⟨b,o,some cs.length⟩) n c)=some (str l):=by
 have hu:∀ l:List UInt8,u8s (bcells l)=some (l.map fun b=>(b.toNat:Int)):=by
  intro l
  induction l with
  | nil=>rfl
  | cons x r ih=>simp only [bcells,List.map_cons,u8s];simp only [bcells] at ih;rw [ih];rfl
 have hs:∀ l:List UInt8,strOfNums (l.map fun b=>(b.toNat:Int))=⟨l.toArray⟩:=by
  intro l
  unfold strOfNums
  simp
  exact (List.map_congr_left fun b _=>by simp).trans (List.map_id _)
 simp [convV,aConv,hb,hle,hcs,hu,hs,isU8]
theorem wrapN {x:Int} (h1:-9223372036854775808≤x) (h2:x < 0):IntKind.u64.wrap (0-IntKind.u64.wrap x)=x.natAbs:=by
 have:IntKind.u64.wrap x=x+18446744073709551616:=by
  unfold IntKind.wrap
  simp [IntKind.bits,IntKind.signed]
  omega
 rw [this]
 unfold IntKind.wrap
 simp [IntKind.bits,IntKind.signed]
 omega
theorem cellFx {M:AHeap} {b:Nat} {cs:List Value} {T:TypeId} (h:M[b]?=some (.cells cs T)):hcells M b=some cs∧hlen M b=some cs.length:=by
 have:hcells M b=some cs:=by rw [hcells_eq,h];rfl
 exact ⟨this,hcells_len this⟩
set_option maxRecDepth 20000 in
theorem c_small {H:AHeap} {n:Nat} (hn:n < 100):ACalls prog 142 [i64 n] H (str (natS n)) H:=by
 refine acalls_pure MixT func142 (by decide) rfl ?_
 rw [d142]
 have w1:IntKind.i64.wrap ((n:Int)*2)=2*(n:Int):=by rw [wrap_i64 (by omega) (by omega)];omega
 have w2:IntKind.i64.wrap (2*(n:Int)+2)=2*(n:Int)+2:=wrap_i64 (by omega) (by omega)
 have hu:prog.underlying 9=some .string:=by simp
 have z1:10≤dgS.size:=by decide +kernel
 have z2:smS.size=200:=by decide +kernel
 by_cases h:n < 10
 · have hI:(n:Int) < 10:=by omega
   have hs:aSliceOp prog H 9 (.string dgS) (some (i64 n)) (some (i64 ((n:Int)+1)))=some (str (natS n)):=by
    simp only [aSliceOp,hu,aLow,aHigh]
    rw [if_pos ⟨by omega,by omega,by omega⟩]
    have e1:((n:Int)+1).toNat=n+1:=by omega
    simp only [Int.toNat_natCast,e1,small_txt.1 n h]
   simp [hI,show n+1 < 2 ^ 63 by omega,hs]
 · have hI:¬ (n:Int) < 10:=by omega
   have hs:aSliceOp prog H 9 (.string smS) (some (i64 (2*(n:Int)))) (some (i64 (2*(n:Int)+2)))=some (str (natS n)):=by
    simp only [aSliceOp,hu,aLow,aHigh,z2]
    rw [if_pos ⟨by omega,by omega,by omega⟩]
    have e1:(2*(n:Int)+2).toNat=2*n+2:=by omega
    have e2:(2*(n:Int)).toNat=2*n:=by omega
    simp only [e1,e2,small_txt.2 n hn (by omega)]
   simp [hI,w1,w2,hs]
theorem slice_arr {H:AHeap} {b m n:Nat} {e:TypeId} {T:TypeId} {lo hi:Option Value} {l h:Nat} (hu:prog.underlying T=some (.array n e)) (hs:tsize prog e=some 1) (hb:hlen H b=some m) (h1:aLow lo=some (l:Int)) (h2:aHigh n hi=some (h:Int)) (h3:l≤h) (h4:h≤n) :
  aSliceOp prog H T (.pointer (some ⟨b,0,some m⟩)) lo hi=some (.slice (some ⟨b,l,some m⟩) (h-l) (n-l)):=by
 simp only [aSliceOp,hu,h1,h2,hs,hb]
 rw [if_pos ⟨trivial,by omega,by omega,by omega⟩]
 have e1:((h:Int)-l).toNat=h-l:=by omega
 simp [e1]
theorem take_neg {D r:List Value} {z v:Value} {n:Nat} (h:D.length=n):((((z :: D)++r).set 0 v).drop 0).take (1+n)=v :: D:=by
 subst h
 simp [Nat.add_comm 1]
theorem take_pos {D r:List Value} {z:Value} {n:Nat} (h:D.length=n):(((z :: D)++r).drop 1).take n=D:=by
 subst h
 simp
theorem fi_tail {H K:AHeap} {b:Nat} {x:Int} {k:Value→AHeap→Prop} (hg:Pw K) (hb:K[b]?=some (.cells (List.replicate 24 (.int .u8 0)) 177)) (hbH:H.length≤b) (hp:Pre H K) (h0:x≠0) (h1:-9223372036854775808≤x) (h2:x < 9223372036854775808)
  (hk:∀ K,Pre H K→k (str (fmtS x)) K) (a d s3 s4 s7 s8 s9 f g j p q r s t v w y A B C D E F G I J L O Q R S U V W X Y Z aa ab ac ad ae af ag ah ai aj ak al am:Value):S118x0 k [i64 x,a,d,s3,s4,.pointer (some ⟨b,0,some 24⟩),u64 (x.natAbs:Int),s7,s8,s9,f,g,j,p,q,r,s,t,v,w,y,A,B,C,D,E,F,G,I,J,L,O,Q,R,S,U,V,W,X,Y,Z,aa,ab,ac,ad,ae,af,ag,ah,ai,aj,ak,al,am] K:=by
 have hu0:0 < x.natAbs:=by omega
 have hu1:x.natAbs < 2 ^ 64:=by omega
 obtain ⟨n1,n2,n3,n4⟩:=ndig_ok hu0 hu1
 generalize hnd:ndig x.natAbs=nd at n1 n2 n3 n4
 rw [S118x0q]
 refine bndC_of (c_numDigits hg hu0 hu1) ?_
 rw [hnd]
 have hl:hlen K b=some 24:=(cellFx hb).2.trans (by simp)
 have a:∀ K,hlen K b=some 24→aSliceOp prog K 177 (.pointer (some ⟨b,0,some 24⟩)) (some (i64 1)) (some (i64 (1+(nd:Int))))=some (.slice (some ⟨b,1,some 24⟩) nd 23):=fun K hl=>by
  have:=slice_arr (H:=K) (T:=177) (n:=24) (e:=5) (lo:=some (i64 1)) (hi:=some (i64 (1+(nd:Int)))) (l:=1) (h:=1+nd) (by simp) (by simp) hl rfl (by simp [aHigh]) (by omega) (by omega)
  simpa using this
 have w1:IntKind.i64.wrap (1+(nd:Int))=1+(nd:Int):=wrap_i64 (by omega) (by omega)
 simp [w1,a K hl]
 have hfb:=c_formatBase10 (H:=K) (b:=b) (o:=1) (nd:=nd) (c:=23) (u:=x.natAbs) hb (by simp) (by omega) n3 hu1
 refine bndC_of hfb ?_
 have hput:=putD_eq nd 1 x.natAbs (List.replicate 24 (.int .u8 0)) (by simp;omega)
 have hlen:=putD_len nd 1 x.natAbs (List.replicate 24 (.int .u8 0))
 rw [List.length_replicate] at hlen
 have hfm:natS x.natAbs=digs nd x.natAbs:=by unfold natS;rw [if_neg (by omega),hnd]
 have hdl:=digs_len nd x.natAbs
 have hput':putD 1 nd x.natAbs (List.replicate 24 (.int .u8 0))=(Value.int .u8 0 :: bcells (digs nd x.natAbs))++(List.replicate 24 (.int .u8 0)).drop (1+nd):=by rw [hput];rfl
 clear hput
 have hbl:b < K.length:=(List.getElem?_eq_some_iff.1 hb).1
 generalize putD 1 nd x.natAbs (List.replicate 24 (.int .u8 0))=cs at hput' hlen
 have hM:(K.set b (.cells cs 177))[b]?=some (.cells cs 177):=List.getElem?_set_self hbl
 have hpM:Pre H (K.set b (.cells cs 177)):=hp.set hbH
 dsimp only
 generalize K.set b (.cells cs 177)=M at hM hpM ⊢
 obtain ⟨m1,m2⟩:=cellFx hM
 rw [hlen] at m2
 by_cases hx:x < 0
 · have hf:fmtS x=45 :: digs nd x.natAbs:=by unfold fmtS;rw [if_pos hx,hfm]
   have ha:=aIndexAddr_arr (P:=prog) (H:=M) (T:=177) (n:=24) (e:=5) (b:=b) (o:=0) (m:=24) (z:=1) (k:=.i64) (i:=0) (by simp) (by simp) m2 (by omega) (by omega)
   simp at ha
   simp [hx,ha,hM,hlen]
   have hN:(M.set b (.cells (cs.set 0 (.int .u8 45)) 177))[b]?=some (.cells (cs.set 0 (.int .u8 45)) 177):=List.getElem?_set_self (List.getElem?_eq_some_iff.1 hM).1
   have hpN:Pre H (M.set b (.cells (cs.set 0 (.int .u8 45)) 177)):=hpM.set hbH
   generalize M.set b (.cells (cs.set 0 (.int .u8 45)) 177)=N at hN hpN ⊢
   obtain ⟨m3,m4⟩:=cellFx hN
   rw [List.length_set,hlen] at m4
   have d:=slice_arr (H:=N) (T:=177) (n:=24) (e:=5) (lo:=none) (hi:=some (i64 (1+(nd:Int)))) (l:=0) (h:=1+nd) (by simp) (by simp) m4 rfl (by simp [aHigh]) (by omega) (by omega)
   have c2:=convBytes (c:=24) m3 (o:=0) (n:=1+nd) (l:=fmtS x) (by rw [hf,hput'];exact take_neg (by simp [bcells,hdl])) (by rw [hf];simp [hdl];omega) (by simp [hlen];omega)
   simp [hlen] at d c2
   simp [w1,d,c2]
   exact hk N hpN
 · have hf:fmtS x=digs nd x.natAbs:=by unfold fmtS;rw [if_neg hx,hfm]
   have c2:=convBytes (c:=23) m1 (o:=1) (n:=nd) (l:=fmtS x) (by rw [hf,hput'];exact take_pos (by simp [bcells,hdl])) (by rw [hf,hdl]) (by omega)
   rw [hlen] at c2
   simp [hx,w1,a M m2,c2]
   exact hk M hpM
theorem c_formatInt0 {H:AHeap} (hg:Pw H) {x:Int} (h1:-9223372036854775808≤x) (h2:x < 9223372036854775808):ACalls prog 118 [i64 x,i64 10] H (str (fmtS x)) H:=by
 refine acalls_pure MixT func118 (by decide) rfl ?_
 rw [d118]
 by_cases hs:0≤x∧x < 100
 · obtain ⟨n,rfl⟩:∃ n:Nat,x=n:=⟨x.toNat,by omega⟩
   have hf:fmtS (n:Int)=natS n:=by unfold fmtS;rw [if_neg (by omega)];rfl
   simp [hs]
   refine bndC_of (c_small (by omega)) ?_
   rw [hf]
   exact ⟨rfl,[],by simp⟩
 · have h0:x≠0:=by omega
   have hb:(H++[AObj.cells (List.replicate 24 (.int .u8 0)) 177])[H.length]?=some (.cells (List.replicate 24 (.int .u8 0)) 177):=by simp
   by_cases hx:x < 0
   · have hx0:¬ 0≤x:=by omega
     have hw:=wrapN h1 hx
     simp [hx,hx0] at hw ⊢
     simp only [hw]
     exact fi_tail (H:=H) (b:=H.length) (x:=x) (k:=fun u H2=>u=str (fmtS x)∧∃ X,H2=H++X) (hg.more _) hb (Nat.le_refl _) (.app _ _) h0 h1 h2 (fun K p=>⟨rfl,p⟩) _ _ _ _ _ _ _ _ _ _ _ _ _ _ _ _ _ _ _ _ _ _ _ _ _ _ _ _ _ _ _ _ _ _ _ _ _ _ _ _ _ _ _ _ _ _ _ _ _ _ _
   · have hx0:0≤x:=by omega
     have hx1:¬ x < 100:=by omega
     have hw:IntKind.u64.wrap x=x.natAbs:=by rw [wrapU hx0 (by omega)];omega
     simp [hx,hx0,hx1,hw]
     exact fi_tail (H:=H) (b:=H.length) (x:=x) (k:=fun u H2=>u=str (fmtS x)∧∃ X,H2=H++X) (hg.more _) hb (Nat.le_refl _) (.app _ _) h0 h1 h2 (fun K p=>⟨rfl,p⟩) _ _ _ _ _ _ _ _ _ _ _ _ _ _ _ _ _ _ _ _ _ _ _ _ _ _ _ _ _ _ _ _ _ _ _ _ _ _ _ _ _ _ _ _ _ _ _ _ _ _ _
theorem c_formatInt {H:AHeap} (hg:Pw H) {x:Int} (h1:-9223372036854775808≤x) (h2:x < 9223372036854775808):ACalls prog 113 [i64 x,i64 10] H (str (fmtS x)) H:=by
 refine acalls_pure MixT func113 (by decide) rfl ?_
 rw [d113]
 exact bndC_of (c_formatInt0 hg h1 h2) ⟨rfl,[],by simp⟩
end Go.Vi
namespace Go.Vi
open Go Go.Proofs Go.Proofs.Tryz
theorem c_itoa0 {H:AHeap} (hg:Pw H) {x:Int} (h1:-9223372036854775808≤x) (h2:x < 9223372036854775808):ACalls prog 81 [i64 x] H (str (fmtS x)) H:=by
 refine acalls_pure MixT func81 (by decide) rfl ?_
 rw [d81]
 exact bndC_of (c_formatInt0 hg h1 h2) ⟨rfl,[],by simp⟩
theorem c_itoa {H:AHeap} (hg:Pw H) {x:Int} (h1:-9223372036854775808≤x) (h2:x < 9223372036854775808):ACalls prog 47 [i64 x] H (str (fmtS x)) H:=by
 refine acalls_pure MixT func47 (by decide) rfl ?_
 rw [d47]
 exact bndC_of (c_itoa0 hg h1 h2) ⟨rfl,[],by simp⟩
def trimR (b:UInt8):List UInt8→List UInt8
 | []=>[]
 | x :: r => match trimR b r with
   | []=>if x=b then [] else [x]
   | y :: s=>x :: y :: s
theorem trimR_snoc (b x:UInt8):∀ l,trimR b (l++[x])=if x=b then trimR b l else l++[x]:=by
 intro l
 induction l with
 | nil=>simp [trimR]
 | cons y r ih =>
   rw [List.cons_append,trimR,ih]
   by_cases h:x=b
   · simp [h,trimR]
   · simp only [h,if_false]
     cases hr:r++[x] with
     | nil=>simp at hr
     | cons z s=>simp
theorem trim_loop {H:AHeap} {b:UInt8} {k:Value→AHeap→Prop} (w:List UInt8) (hk:k (str w) H):∀ (n:Nat) (l:List UInt8) (y z A B C D E F c d f g j m o p q s t u v:Value),l.length=n→l.length < 2 ^ 62→trimR b l=w →
  L134x0 (n+1) k [str l,byt b,y,z,A,B,C,D,E,F,c,d,f,g,j,m,o,p,q,s,t,u,v] H:=by
 intro n
 induction n with
 | zero =>
   intro l y z A B C D E F c d f g j m o p q s t u v hn hl hw
   have:l=[]:=List.length_eq_zero_iff.1 hn
   subst this
   rw [L134x0q]
   simp
   rw [← hw] at hk
   exact hk
 | succ n ih =>
   intro l y z A B C D E F c d f g j m o p q s t u v hn hl hw
   obtain ⟨r,x,rfl⟩:∃ r x,l=r++[x]:=by
    rcases List.eq_nil_or_concat l with rfl | ⟨r,x,h⟩
    · simp at hn
    · exact ⟨r,x,by simpa using h⟩
   have hr:r.length=n:=by simpa using hn
   have hix:=aIndex_at (P:=prog) (T:=9) (k:=.i64) (l:=r++[x]) (i:=r.length) (b:=x) (by simp) (by simp)
   have hs:=aSliceOp_str (P:=prog) (H:=H) (T:=9) (l:=r++[x]) (lo:=none) (hi:=some (i64 r.length)) (a:=0) (b:=r.length) (by simp) rfl rfl (by omega) (by omega) (by simp;omega)
   simp at hs
   have hw0:IntKind.i64.wrap (r.length:Int)=r.length:=wrap_i64 (by omega) (by simp at hl;omega)
   rw [trimR_snoc] at hw
   rw [L134x0q]
   by_cases hx:x=b
   · rw [if_pos hx] at hw
     subst hx
     simp [hix,hs,hw0]
     exact ih r _ _ _ _ _ _ _ _ _ _ _ _ _ _ _ _ _ _ _ _ _ hr (by simp at hl;omega) hw
   · rw [if_neg hx] at hw
     have hx':((x.toNat:Int) == (b.toNat:Int))=false:=by
      rw [beq_eq_false_iff_ne]
      exact fun e=>hx (UInt8.toNat_inj.1 (by omega))
     simp [hix,hx',hw0]
     rw [← hw] at hk
     exact hk
theorem c_trimByte {H:AHeap} {b:UInt8} {l:List UInt8} (hl:l.length < 2 ^ 62):ACalls prog 134 [str l,byt b] H (str (trimR b l)) H:=by
 refine acalls_pure MixT func134 (by decide) rfl ?_
 rw [d134]
 exact ⟨l.length+1,trim_loop (trimR b l) ⟨rfl,[],by simp⟩ l.length l _ _ _ _ _ _ _ _ _ _ _ _ _ _ _ _ _ _ _ _ _ rfl hl rfl⟩
theorem c_trimRight {H:AHeap} {l:List UInt8} (hl:l.length < 2 ^ 62):ACalls prog 114 [str l,str [48]] H (str (trimR 48 l)) H:=by
 refine acalls_pure MixT func114 (by decide) rfl ?_
 rw [d114]
 have hix:=aIndex_at (P:=prog) (T:=9) (k:=.i64) (l:=[48]) (i:=0) (b:=48) (by simp) rfl
 simp at hix
 by_cases h0:l=[]
 · subst h0
   simp
   rfl
 · have h0':¬ (⟨l.toArray⟩:ByteArray)=⟨#[]⟩:=fun e=>h0 (by simpa using e)
   simp [h0',hix]
   refine bndC_of (c_trimByte hl) ⟨rfl,[],by simp⟩
def fixS (x:Int):List UInt8 :=
 (if sat x < 0 then [45] else [])++fmtS (((sat x).natAbs / 1000:Nat):Int)++if (sat x).natAbs % 1000=0 then [] else 46 :: trimR 48 ((fmtS ((1000+(sat x).natAbs % 1000:Nat):Int)).drop 1)
theorem natS_len {n:Nat} (h:n < 2 ^ 64):(natS n).length≤20:=by
 unfold natS
 split
 · simp
 · rw [digs_len];exact (ndig_ok (by omega) h).2.1
theorem fmtS_nat (n:Nat):fmtS (n:Int)=natS n:=by
 unfold fmtS;rw [if_neg (by omega)];rfl
theorem trimR_len (b:UInt8):∀ l:List UInt8,(trimR b l).length≤l.length:=by
 intro l
 induction l with
 | nil=>exact Nat.le_refl _
 | cons x r ih =>
   rw [trimR]
   split
   · split<;>simp
   · rename_i h;rw [h] at ih;simpa using ih
theorem fix_tail {H:AHeap} (hg:Pw H) {n:Nat} {sg:List UInt8} {k:Value→AHeap→Prop} (hn:n < 2 ^ 63) (hs:sg.length≤1)
  (hk:k (str (sg++fmtS ((n / 1000:Nat):Int)++if n % 1000=0 then [] else 46 :: trimR 48 ((fmtS ((1000+n % 1000:Nat):Int)).drop 1))) H) (E F G I J K L M d f g h i j o p q r s t u v w z A B C D:Value) :
  S74x0 k [i64 n,E,F,str sg,G,I,J,K,L,M,d,f,g,h,i,j,o,p,q,r,s,t,u,v,w,z,A,B,C,D] H:=by
 simp only [fmtS_nat] at hk
 have l1:=natS_len (n:=n / 1000) (by omega)
 have l2:=natS_len (n:=1000+n % 1000) (by omega)
 have l3:=trimR_len 48 ((natS (1000+n % 1000)).drop 1)
 simp only [List.length_drop] at l3
 have q1:=fun X Y=>quoL (P:=prog) (H:=H) (T:=2) (x:=X) (y:=Y) (k:=.i64) (a:=n) (c:=1000) (n:=1000) rfl (by omega) (wrap_i64 (by omega) (by omega))
 have q2:=fun X Y=>remL (P:=prog) (H:=H) (T:=2) (x:=X) (y:=Y) (k:=.i64) (a:=n) (c:=1000) (n:=1000) rfl (by omega)
 rw [S74x0q]
 simp only [q1,bnd_some]
 refine bndC_of (c_formatInt hg (by omega) (by omega)) ?_
 rw [fmtS_nat]
 have c1:=fun X Y=>aBin_str (P:=prog) (H:=H) (T:=9) (x:=X) (y:=Y) (a:=sg) (b:=natS (n / 1000)) (by omega)
 simp only [c1,bnd_some,q2]
 by_cases h0:n % 1000=0
 · simp [h0,S74x1q]
   simpa [h0] using hk
 · have hp:(0:Int) < ((n % 1000:Nat):Int):=by omega
   have hw:IntKind.i64.wrap (1000+((n % 1000:Nat):Int))=((1000+n % 1000:Nat):Int):=by rw [wrap_i64 (by omega) (by omega)];omega
   rw [if_neg h0] at hk
   have hm:n % 1000 < 1000:=Nat.mod_lt _ (by omega)
   clear q1 q2 c1
   generalize n % 1000=m at hk h0 hp hw l2 l3 hm ⊢
   have hs2:=aSliceOp_str (P:=prog) (H:=H) (T:=9) (l:=natS (1000+m)) (lo:=some (i64 1)) (hi:=none) (a:=1) (b:=(natS (1000+m)).length) (by simp) rfl rfl (by omega) (by
    have:natS (1000+m)≠[]:=by
     unfold natS;rw [if_neg (by omega)]
     intro e
     have:=congrArg List.length e
     rw [digs_len] at this
     have:=(ndig_ok (n:=1000+m) (by omega) (by omega)).1
     simp at *;omega
    have:=List.length_pos_iff.2 this
    omega) (by omega)
   have e1:(List.take (((natS (1000+m)).length:Int).toNat) (natS (1000+m))).drop ((1:Int).toNat)=(natS (1000+m)).drop 1:=by simp
   rw [e1] at hs2
   have hp':((m:Int) > 0):=hp
   simp only [aBin_gtr,bnd_some,hp',decide_true,kifB_true,aBin_add,hw]
   refine bndC_of (c_formatInt hg (by omega) (by omega)) ?_
   rw [fmtS_nat]
   simp only [hs2,bnd_some]
   refine bndC_of (c_trimRight (by simp;omega)) ?_
   generalize trimR 48 ((natS (1000+m)).drop 1)=T at l3 hk ⊢
   have c2:∀ X Y,aBin2 prog H .add 9 X Y (.string ⟨#[46]⟩) (str T)=some (str (46 :: T)):=fun X Y=>aBin_str (a:=[46]) (b:=T) (by simp only [List.length_cons,List.length_nil];omega)
   have c3:=fun X Y=>aBin_str (P:=prog) (H:=H) (T:=9) (x:=X) (y:=Y) (a:=sg++natS (n / 1000)) (b:=46 :: T) (by simp only [List.length_cons,List.length_append];omega)
   simp only [c2,c3,bnd_some,S74x1q]
   exact hk
theorem c_fixPrint {H:AHeap} (hg:Pw H) {x:Int}:ACalls prog 74 [i64 x] H (str (fixS x)) H:=by
 refine acalls_pure MixT func74 (by decide) rfl ?_
 rw [d74]
 refine bndC_of (c_sat H x) ?_
 have hb:-4611686018427387903≤sat x∧sat x≤4611686018427387903:=by unfold sat maxFix;omega
 by_cases h:sat x < 0
 · have hw:IntKind.i64.wrap (0-sat x)=((sat x).natAbs:Int):=by rw [wrap_i64 (by omega) (by omega)];omega
   simp [h] at hw ⊢
   rw [hw]
   refine fix_tail hg (sg:=[45]) (by omega) (by simp) ?_ _ _ _ _ _ _ _ _ _ _ _ _ _ _ _ _ _ _ _ _ _ _ _ _ _ _ _ _
   exact ⟨by unfold fixS;rw [if_pos h],[],by simp⟩
 · have hw:sat x=((sat x).natAbs:Int):=by omega
   have hf:fixS x=[]++fmtS (((sat x).natAbs / 1000:Nat):Int)++if (sat x).natAbs % 1000=0 then [] else 46 :: trimR 48 ((fmtS ((1000+(sat x).natAbs % 1000:Nat):Int)).drop 1):=by unfold fixS;rw [if_neg h]
   simp [h]
   rw [hf]
   generalize (sat x).natAbs=m at hw hf ⊢
   rw [hw]
   refine fix_tail hg (sg:=[]) (by omega) (by simp) ?_ _ _ _ _ _ _ _ _ _ _ _ _ _ _ _ _ _ _ _ _ _ _ _ _ _ _ _ _
   exact ⟨rfl,[],by simp⟩
end Go.Vi
namespace Go.Vi
open Go Go.Proofs Go.Proofs.Tryz
theorem c_mnz {H:AHeap} {n:Nat} (h0:0 < n) (h1:n≤2 ^ 47):ACalls prog 141 [i64 n] H (.slice (some ⟨H.length,0,some n⟩) n n) (H++[.cells (List.replicate n unkV) 5]) :=
 acalls_makeNoZero (n:=(n:Int)) (t:=55) (by omega) (by omega) (by simp) func141 (by kernel_rfl) (by decide) (by kernel_rfl) ⟨#[3],by kernel_rfl⟩
theorem c_grow1 {K:AHeap} {pb n:Nat} (h:K[pb]?=some (.cells [selfP pb,.slice none 0 0] 116)) (h0:0 < n) (h1:n≤2 ^ 46) :
  ∃ K',ACalls prog 117 [selfP pb,i64 n] K (.tuple #[]) K'∧Bld true K' pb []∧Keeps pb K K':=by
 obtain ⟨v,K',⟨rfl,q1,q2⟩,q3⟩:∃ v K',(v=.tuple #[]∧Bld true K' pb []∧Keeps pb K K')∧ACalls prog 117 [selfP pb,i64 n] K v K':=by
  refine acalls_ex MixT func117 (by decide) ?_
  rw [d117]
  obtain ⟨c1,c2⟩:=cellFx h
  simp [nilV,aIsPtr,c1,c2]
  refine bndD_same (v:=i64 0) (by simp [aBuiltin]) ?_
  have w0:IntKind.i64.wrap (n:Int)=n:=wrap_i64 (by omega) (by omega)
  simp [w0]
  refine bndD_of (c_mnz h0 (by omega)) (.inr ⟨_,rfl⟩) ?_
  have c3:hcells (K++[.cells (List.replicate n unkV) 5]) pb=some [selfP pb,.slice none 0 0]:=hcells_more c1
  have c4:hlen (K++[.cells (List.replicate n unkV) 5]) pb=some 2:=by rw [hcells_len c3];rfl
  have e1:(K++[.cells (List.replicate n unkV) 5])[K.length]?=some (.cells (List.replicate n unkV) 5):=by simp
  have e2:=get_more (X:=[.cells (List.replicate n unkV) 5]) h
  have hlt:pb < K.length:=(List.getElem?_eq_some_iff.1 h).1
  obtain ⟨d1,d2⟩:=cellFx e1
  rw [List.length_replicate] at d2
  have hs:aSliceOp prog (K++[.cells (List.replicate n unkV) 5]) 55 (.slice (some ⟨K.length,0,some n⟩) n n) none (some (i64 0))=some (.slice (some ⟨K.length,0,some n⟩) 0 n):=by
   simp [aSliceOp,aLow,aHigh,d2]
  simp [nilV,aIsPtr,c1,c2,c3,c4,hs]
  have hcp:aBuiltin prog (K++[.cells (List.replicate n unkV) 5]) .copy #[55,55] [.slice (some ⟨K.length,0,some n⟩) 0 n,.slice none 0 0]=some (i64 0,K++[.cells (List.replicate n unkV) 5]):=by
   simp [aBuiltin,aCopy,aSrc]
  rw [hcp]
  simp [nilV,aIsPtr,c4,e2]
  refine ⟨⟨selfP pb,.slice (some ⟨K.length,0,some n⟩) 0 n,by rw [List.getElem?_set_self (by simp;omega)],.inr rfl,.mk K.length 0 n (List.replicate n unkV) [] hlt ?_ (by simp) rfl (by omega) rfl (by simp) h0⟩,?_⟩
  · rw [List.getElem?_set_ne (by omega)];exact e1
  · exact Keeps.app.trans (.set (Nat.le_refl _))
 exact ⟨K',q3,q1,q2⟩
theorem c_grow {K:AHeap} {pb n:Nat} (h:K[pb]?=some (.cells [.pointer none,.slice none 0 0] 116)) (h1:n≤2 ^ 46) :
  ∃ K',ACalls prog 78 [selfP pb,i64 n] K (.tuple #[]) K'∧Bld (decide (0 < n)) K' pb []∧Keeps pb K K':=by
 obtain ⟨v,K',⟨rfl,q1,q2⟩,q3⟩:∃ v K',(v=.tuple #[]∧Bld (decide (0 < n)) K' pb []∧Keeps pb K K')∧ACalls prog 78 [selfP pb,i64 n] K v K':=by
  refine acalls_ex MixT func78 (by decide) ?_
  rw [d78]
  refine bndC_of (c_copyCheck h (.inl rfl) rfl) ?_
  have hlt:pb < K.length:=(List.getElem?_eq_some_iff.1 h).1
  have hM:(K.set pb (.cells [selfP pb,.slice none 0 0] 116))[pb]?=some (.cells [selfP pb,.slice none 0 0] 116):=List.getElem?_set_self hlt
  have hk1:Keeps pb K (K.set pb (.cells [selfP pb,.slice none 0 0] 116)):=.set (Nat.le_refl _)
  generalize K.set pb (.cells [selfP pb,.slice none 0 0] 116)=M at hM hk1 ⊢
  obtain ⟨c1,c2⟩:=cellFx hM
  have hn0:¬ (n:Int) < 0:=by omega
  simp [hn0,S78x0q,nilV,aIsPtr,c1,c2]
  refine bndD_same (v:=i64 0) (by simp [aBuiltin]) ?_
  simp [nilV,aIsPtr,c1,c2]
  by_cases h0:0 < n
  · simp [h0]
    obtain ⟨K',g1,g2,g3⟩:=c_grow1 hM h0 h1
    refine bndC_of g1 ⟨rfl,by simpa [h0] using g2,hk1.trans g3⟩
  · simp [h0]
    exact ⟨⟨selfP pb,.slice none 0 0,hM,.inr rfl,.nil⟩,hk1⟩
 exact ⟨K',q3,q1,q2⟩
inductive Parts (K:AHeap):Value→List (List UInt8)→Prop
 | nil:Parts K (.slice none 0 0) []
 | mk (b:Nat) (l:List (List UInt8)) (hb:hcells K b=some (l.map str)):Parts K (.slice (some ⟨b,0,some l.length⟩) l.length l.length) l
theorem Parts.pre {H K v l} (h:Parts H v l) (p:Pre H K):Parts K v l:=by
 cases h with
 | nil=>exact .nil
 | mk b l hb=>exact .mk b l (p.hcells hb)
theorem Parts.len {H v l} (h:Parts H v l) (K:AHeap):aLen prog K 42 v=some (i64 l.length):=by
 cases h<;>simp
theorem Parts.load {H v l} (h:Parts H v l) {i:Nat} {s:List UInt8} (hi:l[i]?=some s):∃ p,aIndexAddr prog H 42 v (i64 i)=some p∧aLoad prog H 9 p=some (str s):=by
 have ha:Arr H 1 v (strCells l):=by
  cases h with
  | nil=>exact .nil
  | mk b l hb =>
    refine .mk b 0 _ _ _ (l.map str) _ (by simp [strCells]) hb (by simp) (by omega) fun i e hi=>?_
    simp only [strCells,List.getElem?_map,Option.map_eq_some_iff] at hi
    obtain ⟨s,h1,rfl⟩:=hi
    rw [Nat.zero_add,Nat.mul_one,← List.map_drop,List.drop_eq_getElem_cons (List.getElem?_eq_some_iff.1 h1).1,List.map_cons,List.take_succ_cons,List.take_zero,(List.getElem?_eq_some_iff.1 h1).2]
 exact ha.load1 (by simp) (by simp) (by simp) (by simp [strCells,hi])
theorem Parts.tail {H v a l} (h:Parts H v (a :: l)) (hl:0 < l.length):∃ t,aSliceOp prog H 42 v (some (i64 1)) none=some t∧(∀ K,aLen prog K 42 t=some (i64 l.length)) ∧
  ∀ K,Pre H K→∀ (i:Nat) s,l[i]?=some s→∃ p,aIndexAddr prog K 42 t (i64 i)=some p∧aLoad prog K 9 p=some (str s):=by
 cases h with
 | mk b _ hb =>
   have hhl:hlen H b=some (l.length+1):=by rw [hcells_len hb];simp
   refine ⟨.slice (some ⟨b,1,some (l.length+1)⟩) l.length l.length,?_,fun K=>by simp,fun K p i s hi=>?_⟩
   · simp [aSliceOp,aLow,aHigh,hhl]
     omega
   · have ha:Arr K 1 (.slice (some ⟨b,1,some (l.length+1)⟩) l.length l.length) (strCells l):=by
      refine .mk b 1 _ _ _ ((a :: l).map str) _ (by simp [strCells]) (p.hcells hb) (by simp) (by omega) fun i e hi=>?_
      simp only [strCells,List.getElem?_map,Option.map_eq_some_iff] at hi
      obtain ⟨s,h1,rfl⟩:=hi
      rw [Nat.mul_one,Nat.add_comm,List.map_cons,List.drop_succ_cons,← List.map_drop,List.drop_eq_getElem_cons (List.getElem?_eq_some_iff.1 h1).1,List.map_cons,List.take_succ_cons,List.take_zero,(List.getElem?_eq_some_iff.1 h1).2]
     exact ha.load1 (by simp) (by simp) (by simp) (by simp [strCells,hi])
def joinS (sep:List UInt8):List (List UInt8)→List UInt8
 | []=>[]
 | a :: r=>a++(r.map (sep++·)).flatten
theorem join_w {H:AHeap} {t:Value} {sep:List UInt8} {l:List (List UInt8)} {pb:Nat} {k:Value→AHeap→Prop} (hpb:H.length≤pb) (_hlen:∀ K,aLen prog K 42 t=some (i64 l.length)) (hll:l.length < 2 ^ 62)
  (hat:∀ K,Pre H K→∀ (i:Nat) s,l[i]?=some s→∃ p,aIndexAddr prog K 42 t (i64 i)=some p∧aLoad prog K 9 p=some (str s)) (w:List UInt8) (hw46:w.length≤2 ^ 46) (hne:w≠[]) (hk:∀ K,Pre H K→k (str w) K) :
  ∀ (r : List (List UInt8)) (i : Nat) (acc : List UInt8) (g : Bool) (K : AHeap) (s0 s2 s3 s4 s5 s6 s7 s9 a b c d e f j m n o q u x y z A B C D E F G I J L M N O P Q R S T U V W X Y Z aa ab ac ad ae af ag ah ai aj ak al am an ao ap aq ar au av aw ax ay : Value), l.drop i = r → i ≤ l.length → Pre H K → Bld g K pb acc → (g = true → acc = []) → w = acc ++ (r.map (sep ++ ·)).flatten →
    L46x1 (r.length+1) k [s0,str sep,s2,s3,s4,s5,s6,s7,selfP pb,s9,a,b,c,d,e,f,j,m,n,o,q,u,x,y,z,A,B,C,D,E,F,G,I,J,L,M,N,O,P,Q,R,S,T,U,V,W,X,Y,Z,aa,ab,ac,ad,ae,af,ag,ah,ai,aj,ak,al,am,an,t,i64 l.length,i64 i,ao,ap,aq,ar,au,av,aw,ax,ay] K:=by
 intro r
 induction r with
 | nil =>
   intro i acc g K s0 s2 s3 s4 s5 s6 s7 s9 a b c d e f j m n o q u x y z A B C D E F G I J L M N O P Q R S T U V W X Y Z aa ab ac ad ae af ag ah ai aj ak al am an ao ap aq ar au av aw ax ay hd hi hp hb hg hw
   have hle:l.length≤i:=by simpa using hd
   simp at hw
   subst hw
   have hgf:g=false:=by
    cases g with
    | false=>rfl
    | true=>exact absurd (hg rfl) hne
   subst hgf
   rw [List.length_nil,L46x1q]
   have:¬ i < l.length:=by omega
   simp [this]
   obtain ⟨v,K',⟨rfl,h1⟩,h2⟩:=c_bstring hb (by omega)
   exact bndC_of h2 (hk _ (h1 H hp hpb))
 | cons s r ih =>
   intro i acc g K s0 s2 s3 s4 s5 s6 s7 s9 a b c d e f j m n o q u x y z A B C D E F G I J L M N O P Q R S T U V W X Y Z aa ab ac ad ae af ag ah ai aj ak al am an ao ap aq ar au av aw ax ay hd hi hp hb hg hw
   have hbi:l[i]?=some s:=by rw [← List.head?_drop,hd];rfl
   have hlt:i < l.length:=(List.getElem?_eq_some_iff.1 hbi).1
   have hwl:=congrArg List.length hw
   simp at hwl
   rw [List.length_cons,L46x1q]
   obtain ⟨p,e1,e2⟩:=hat K hp i s hbi
   simp [hlt,e1,e2]
   obtain ⟨v1,K1,⟨rfl,h1,h2⟩,h3⟩:=c_writeString (ys:=sep) hb (by omega)
   refine bndC_of h3 ?_
   have hp1:=h2 H hp hpb
   obtain ⟨v2,K2,⟨rfl,h4,h5⟩,h6⟩:=c_writeString (ys:=s) h1 (by simp;omega)
   refine bndC_of h6 ?_
   have hp2:=h5 H hp1 hpb
   simp [show i+1 < 2 ^ 63 by omega]
   refine ih (i+1) (acc++sep++s) _ K2 _ _ _ _ _ _ _ _ _ _ _ _ _ _ _ _ _ _ _ _ _ _ _ _ _ _ _ _ _ _ _ _ _ _ _ _ _ _ _ _ _ _ _ _ _ _ _ _ _ _ _ _ _ _ _ _ _ _ _ _ _ _ _ _ _ _ _ _ _ _ (by rw [← List.drop_drop,hd];rfl) hlt hp2 h4 (fun h=>?_) (by rw [hw];simp)
   simp at h
   rw [hg h.1.1,h.1.2,h.2];rfl
def sumL:List (List UInt8)→Nat
 | []=>0
 | a :: r=>a.length+sumL r
theorem join_len (sep a:List UInt8):∀ r:List (List UInt8),(joinS sep (a :: r)).length=sep.length*r.length+sumL (a :: r):=by
 intro r
 have h:∀ r:List (List UInt8),((r.map (sep++·)).flatten).length=sep.length*r.length+sumL r:=by
  intro r
  induction r with
  | nil=>simp [sumL]
  | cons x r ih=>rw [List.map_cons,List.flatten_cons,List.length_append,ih,List.length_append,sumL,List.length_cons,Nat.mul_add,Nat.mul_one];omega
 rw [joinS,List.length_append,h,sumL]
 omega
theorem join_n {H:AHeap} {v:Value} {sep:List UInt8} {a:List UInt8} {l:List (List UInt8)} {k:Value→AHeap→Prop} (hv:Parts H v (a :: l)) (hl:0 < l.length) (hj:(joinS sep (a :: l)).length≤2 ^ 46) (hne:joinS sep (a :: l)≠[]) (hll:l.length < 2 ^ 61)
  (hk:∀ K,Pre H K→k (str (joinS sep (a :: l))) K) :
  ∀ (r : List (List UInt8)) (i n : Nat) (s2 s3 s4 s6 s7 s8 s9 b c d e f g j m o q u w x y z A B C D E F G I J L M N O P Q R S T U V W Y Z aa ab ac ad ae af ag ah ai aj ak al am an ao ap aq ar au av aw ax ay az : Value), (a :: l).drop i = r → i ≤ l.length + 1 → n + sumL r = (joinS sep (a :: l)).length →
    L46x0 (r.length+1) k [v,str sep,s2,s3,s4,i64 n,s6,s7,s8,s9,b,c,d,e,f,g,j,m,o,q,u,w,x,y,z,A,B,C,D,E,F,G,I,J,L,M,N,O,P,v,i64 ((l.length+1:Nat):Int),i64 i,Q,R,S,T,U,V,W,Y,Z,aa,ab,ac,ad,ae,af,ag,ah,ai,aj,ak,al,am,an,ao,ap,aq,ar,au,av,aw,ax,ay,az] H:=by
 intro r
 induction r with
 | nil =>
   intro i n s2 s3 s4 s6 s7 s8 s9 b c d e f g j m o q u w x y z A B C D E F G I J L M N O P Q R S T U V W Y Z aa ab ac ad ae af ag ah ai aj ak al am an ao ap aq ar au av aw ax ay az hd hi hn
   have hle:l.length+1≤i:=by have:=congrArg List.length hd;simp at this;omega
   simp only [sumL,Nat.add_zero] at hn
   subst hn
   rw [List.length_nil,L46x0q]
   have:¬ (i:Int) < ((l.length+1:Nat):Int):=by omega
   simp only [aBin_lss,bnd_some,this,decide_false,kifB_false]
   simp
   obtain ⟨K1,g1,g2,g3⟩:=c_grow (K:=H++[.cells [.pointer none,.slice none 0 0] 116]) (pb:=H.length) (by simp) hj
   have hp1:Pre H K1:=g3 H (.app _ _) (Nat.le_refl _)
   refine bndC_of g1 ?_
   obtain ⟨p,e1,e2⟩:=(hv.pre hp1).load (i:=0) (s:=a) rfl
   simp at e1
   simp [e1,e2]
   obtain ⟨v2,K2,⟨rfl,h1,h2⟩,h3⟩:=c_writeString (ys:=a) g2 (by simp;have:=join_len sep a l;simp only [sumL] at this;omega)
   refine bndC_of h3 ?_
   have hp2:=h2 H hp1 (Nat.le_refl _)
   obtain ⟨t,t0,t2,t3⟩:=hv.tail hl
   have t1:aSliceOp prog K2 42 v (some (i64 1)) none=some t:=by
    obtain ⟨X,rfl⟩:=hp2
    exact aSliceOp_more t0
   simp [t1,t2]
   exact ⟨l.length+1,join_w (H:=H) (l:=l) (sep:=sep) (pb:=H.length) (Nat.le_refl _) t2 (by omega) t3 (joinS sep (a :: l)) hj hne hk l 0 a _ K2 _ _ _ _ _ _ _ _ _ _ _ _ _ _ _ _ _ _ _ _ _ _ _ _ _ _ _ _ _ _ _ _ _ _ _ _ _ _ _ _ _ _ _ _ _ _ _ _ _ _ _ _ _ _ _ _ _ _ _ _ _ _ _ _ _ _ _ _ _ _ rfl (by omega) hp2 (by simpa using h1) (fun h=>by simp at h;exact h.2) rfl⟩
 | cons s r ih =>
   intro i n s2 s3 s4 s6 s7 s8 s9 b c d e f g j m o q u w x y z A B C D E F G I J L M N O P Q R S T U V W Y Z aa ab ac ad ae af ag ah ai aj ak al am an ao ap aq ar au av aw ax ay az hd hi hn
   have hbi:(a :: l)[i]?=some s:=by rw [← List.head?_drop,hd];rfl
   have hlt:i < l.length+1:=by simpa using (List.getElem?_eq_some_iff.1 hbi).1
   obtain ⟨p,e1,e2⟩:=hv.load hbi
   rw [sumL] at hn
   have w1:IntKind.i64.wrap (9223372036854775807-(n:Int))=9223372036854775807-(n:Int):=wrap_i64 (by omega) (by omega)
   have w2:¬ (9223372036854775807-(n:Int) < s.length):=by omega
   have w3:IntKind.i64.wrap ((n:Int)+s.length)=((n+s.length:Nat):Int):=by rw [wrap_i64 (by omega) (by omega)];omega
   have hltI:(i:Int) < ((l.length+1:Nat):Int):=by omega
   rw [List.length_cons,L46x0q]
   simp only [aBin_lss,bnd_some,hltI,decide_true,kifB_true]
   simp [e1,e2,w1,w2,S46x2q,w3,show i+1 < 2 ^ 63 by omega]
   exact ih (i+1) (n+s.length) _ _ _ _ _ _ _ _ _ _ _ _ _ _ _ _ _ _ _ _ _ _ _ _ _ _ _ _ _ _ _ _ _ _ _ _ _ _ _ _ _ _ _ _ _ _ _ _ _ _ _ _ _ _ _ _ _ _ _ _ _ _ _ _ _ _ _ _ _ (by rw [← List.drop_drop,hd];rfl) hlt (by omega)
theorem c_join {H:AHeap} {v:Value} {sep:List UInt8} {l:List (List UInt8)} (hv:Parts H v l) (hj:(joinS sep l).length≤2 ^ 46) (hll:l.length < 2 ^ 40) (hsl:sep.length < 2 ^ 20) (hne:2≤l.length→joinS sep l≠[]) :
  ACalls prog 46 [v,str sep] H (str (joinS sep l)) H:=by
 refine acalls_pure MixT func46 (by decide) rfl ?_
 rw [d46]
 have hlen:=fun K=>hv.len K
 match l,hv with
 | [],hv=>simp [hlen];rfl
 | [a], hv =>
   obtain ⟨p,e1,e2⟩:=hv.load (i:=0) (s:=a) rfl
   simp at e1
   simp [hlen,e1,e2,joinS]
 | a :: b :: r, hv =>
   have hl2:(a :: b :: r).length=r.length+2:=rfl
   rw [hl2] at hll
   simp only [hl2] at hlen
   have w0:IntKind.i64.wrap (((r.length+2:Nat):Int)-1)=((r.length+1:Nat):Int):=by rw [wrap_i64 (by omega) (by omega)];omega
   have f0:((r.length:Int)+2 == 0)=false:=by rw [beq_eq_false_iff_ne];omega
   have f1:((r.length:Int)+2 == 1)=false:=by rw [beq_eq_false_iff_ne];omega
   have hjl:=join_len sep a (b :: r)
   have go:=fun (n:Nat) (hn:n+sumL (a :: b :: r)=(joinS sep (a :: b :: r)).length) (s2 s3 s4 s6 s7 s8 s9 d f g h j m o q t w z A B C E F G I J L M O Q R S U V W Z aa ab ac ad ae af ag ah ai aj ak al am an ao ap aq ar au av aw ax ay az aA aB aC aD aE aF aG aH aI:Value)=>join_n (H:=H) (v:=v) (sep:=sep) (k:=fun u H2=>u=str (joinS sep (a :: b :: r))∧∃ X,H2=H++X) hv (by simp) hj (hne (by simp)) (by simp;omega) (fun K p=>⟨rfl,p⟩) (a :: b :: r) 0 n s2 s3 s4 s6 s7 s8 s9 d f g h j m o q t w z A B C E F G I J L M O Q R S U V W Z aa ab ac ad ae af ag ah ai aj ak al am an ao ap aq ar au av aw ax ay az aA aB aC aD aE aF aG aH aI rfl (by omega) hn
   simp at w0
   simp [hlen,f0,f1]
   by_cases hs0:sep.length=0
   · simp [hs0,S46x1q,hlen]
     refine ⟨r.length+2+1,?_⟩
     exact go 0 (by rw [hjl,hs0];simp) _ _ _ _ _ _ _ _ _ _ _ _ _ _ _ _ _ _ _ _ _ _ _ _ _ _ _ _ _ _ _ _ _ _ _ _ _ _ _ _ _ _ _ _ _ _ _ _ _ _ _ _ _ _ _ _ _ _ _ _ _ _ _ _ _ _ _ _ _
   · have hs0':0 < sep.length:=by omega
     have hq:=fun X Y=>quoL (P:=prog) (H:=H) (T:=3) (x:=X) (y:=Y) (k:=.i64) (a:=9223372036854775807) (c:=(r.length:Int)+1) (n:=r.length+1) (by simp) (by omega) (by
      have:9223372036854775807 / (r.length+1)≤9223372036854775807:=Nat.div_le_self _ _
      generalize 9223372036854775807 / (r.length+1)=X at this ⊢
      exact wrap_i64 (by omega) (by omega))
     have hD:sep.length+1≤9223372036854775807 / (r.length+1):=by
      rw [Nat.le_div_iff_mul_le (by omega)]
      have h1:(sep.length+1)*(r.length+1)≤2 ^ 20*2 ^ 40:=Nat.mul_le_mul (by omega) (by omega)
      omega
     generalize 9223372036854775807 / (r.length+1)=D at hq hD
     have hg:¬ ((D:Int)≤sep.length):=by omega
     have hq':∀ X Y,aBin2 prog H .quo 3 X Y (.int .i64 9223372036854775807) (.int .i64 ((r.length:Int)+1))=some (i64 (D:Int)):=fun X Y=>hq X Y
     simp [hs0',w0,hlen,hq',hg]
     have hN:(joinS sep (a :: b :: r)).length=sep.length*(r.length+1)+sumL (a :: b :: r):=hjl
     have hm:IntKind.i64.wrap ((sep.length:Int)*((r.length:Int)+1))=((sep.length*(r.length+1):Nat):Int):=by
      have e:(sep.length:Int)*((r.length:Int)+1)=((sep.length*(r.length+1):Nat):Int):=by simp
      rw [e]
      generalize sep.length*(r.length+1)=N at hN ⊢
      exact wrap_i64 (by omega) (by omega)
     have hm2:IntKind.i64.wrap ((sep.length*(r.length+1):Nat):Int)=((sep.length*(r.length+1):Nat):Int):=by
      generalize sep.length*(r.length+1)=N at hN ⊢
      exact wrap_i64 (by omega) (by omega)
     have hgo:=go (sep.length*(r.length+1)) hN.symm
     clear go hq hq' hN hjl
     generalize sep.length*(r.length+1)=N at hm hm2 hgo
     simp [S46x0q,hlen,w0,hm,hm2,S46x1q]
     exact ⟨r.length+2+1,hgo _ _ _ _ _ _ _ _ _ _ _ _ _ _ _ _ _ _ _ _ _ _ _ _ _ _ _ _ _ _ _ _ _ _ _ _ _ _ _ _ _ _ _ _ _ _ _ _ _ _ _ _ _ _ _ _ _ _ _ _ _ _ _ _ _ _ _ _ _⟩
end Go.Vi
namespace Go.Vi
open Go Go.Proofs Go.Proofs.Tryz
def escB (b:UInt8):List UInt8:=if (b=34∨b=92) then [92,b] else [b]
def quoteS (v:List UInt8):List UInt8:=34 :: (v.flatMap escB)++[34]
theorem escB_len (b:UInt8):(escB b).length≤2:=by unfold escB;split<;>simp
theorem esc_len:∀ v:List UInt8,(v.flatMap escB).length≤2*v.length:=by
 intro v
 induction v with
 | nil=>simp
 | cons b r ih=>rw [List.flatMap_cons,List.length_append,List.length_cons];have:=escB_len b;omega
theorem quote_loop {H:AHeap} {l:List UInt8} {pb:Nat} {k:Value→AHeap→Prop} (hpb:H.length≤pb) (hl:l.length < 2 ^ 40) (hk:∀ K,Pre H K→k (str (quoteS l)) K) :
  ∀ (r : List UInt8) (i : Nat) (acc : List UInt8) (K : AHeap) (A B F C D E a c d f g j m n o p q s t u v w x y z : Value), l.drop i = r → i ≤ l.length → Pre H K → Bld false K pb acc → acc.length ≤ 1 + 2 * i → 34 :: l.flatMap escB = acc ++ r.flatMap escB →
    L111x0 (r.length+1) k [str l,A,B,selfP pb,F,C,D,i64 l.length,i64 i,E,a,c,d,f,g,j,m,n,o,p,q,s,t,u,v,w,x,y,z] K:=by
 intro r
 induction r with
 | nil =>
   intro i acc K A B F C D E a c d f g j m n o p q s t u v w x y z hd hi hp hb ha hw
   have hle:l.length≤i:=by simpa using hd
   rw [List.length_nil,L111x0q]
   have:¬ i < l.length:=by omega
   simp [this]
   obtain ⟨v1,K1,⟨rfl,h1,h2⟩,h3⟩:=c_writeByte (b:=34) hb (by omega)
   refine bndC_of h3 ?_
   obtain ⟨v2,K2,⟨rfl,h4⟩,h5⟩:=c_bstring h1 (by simp;omega)
   refine bndC_of h5 ?_
   have e:quoteS l=acc++[34]:=by
    unfold quoteS
    rw [show (34 :: List.flatMap escB l)=acc by simpa using hw]
   rw [← e]
   exact hk _ (h4 H (h2 H hp hpb) hpb)
 | cons b r ih =>
   intro i acc K A B F C D E a c d f g j m n o p q s t u v w x y z hd hi hp hb ha hw
   have hbi:l[i]?=some b:=by rw [← List.head?_drop,hd];rfl
   have hlt:i < l.length:=(List.getElem?_eq_some_iff.1 hbi).1
   have hix:=aIndex_at (P:=prog) (T:=9) (k:=.i64) (by simp) hbi
   have step:∀ (acc':List UInt8) (K':AHeap) (A B C D E a c d f g j m n o p q s t u v w x y z:Value),Pre H K'→Bld false K' pb acc'→acc'.length≤2+2*i→34 :: l.flatMap escB=acc'++[b]++r.flatMap escB →
     S111x0 (r.length+1) k [str l,A,B,selfP pb,i64 i,C,D,i64 l.length,i64 i,E,a,c,d,f,g,j,m,n,o,p,q,s,t,u,v,w,x,y,z] K':=by
    intro acc' K' A B C D E a c d f g j m n o p q s t u v w x y z hp' hb' ha' hw'
    rw [S111x0q]
    simp only [hix,bnd_some]
    obtain ⟨v1,K1,⟨rfl,h1,h2⟩,h3⟩:=c_writeByte (b:=b) hb' (by omega)
    refine bndC_of h3 ?_
    simp [show i+1 < 2 ^ 63 by omega]
    exact ih (i+1) (acc'++[b]) K1 _ _ _ _ _ _ _ _ _ _ _ _ _ _ _ _ _ _ _ _ _ _ _ _ _ (by rw [← List.drop_drop,hd];rfl) hlt (h2 H hp' hpb) h1 (by simp;omega) hw'
   rw [List.flatMap_cons] at hw
   rw [List.length_cons,L111x0q]
   have e34:((b.toNat:Int) == 34)=decide (b=34):=by
    rw [Bool.eq_iff_iff];simp
    exact ⟨fun e=>UInt8.toNat_inj.1 (by simp;omega),fun e=>by subst e;rfl⟩
   have e92:((b.toNat:Int) == 92)=decide (b=92):=by
    rw [Bool.eq_iff_iff];simp
    exact ⟨fun e=>UInt8.toNat_inj.1 (by simp;omega),fun e=>by subst e;rfl⟩
   by_cases hq:b=34∨b=92
   · have he:escB b=[92,b]:=by unfold escB;rw [if_pos hq]
     rw [he] at hw
     have hq':(decide (b=34) || decide (b=92))=true:=by simpa using hq
     simp +contextual [hlt,hix,e34,e92]
     refine kifB_bool (fun _=>?_) (fun h=>?_)
     · obtain ⟨v1,K1,⟨rfl,h1,h2⟩,h3⟩:=c_writeByte (b:=92) hb (by omega)
       refine bndC_of h3 ?_
       exact step (acc++[92]) K1 _ _ _ _ _ _ _ _ _ _ _ _ _ _ _ _ _ _ _ _ _ _ _ _ (h2 H hp hpb) h1 (by simp;omega) (by rw [hw];simp)
     · simp at h
       exact absurd hq (by simp [h])
   · have he:escB b=[b]:=by unfold escB;rw [if_neg hq]
     rw [he] at hw
     simp +contextual [hlt,hix,e34,e92]
     refine kifB_bool (fun h=>?_) (fun h=>?_)
     · exact absurd (by simpa using h) hq
     · exact step acc K _ _ _ _ _ _ _ _ _ _ _ _ _ _ _ _ _ _ _ _ _ _ _ _ hp hb (by omega) (by rw [hw];simp)
theorem c_quote {H:AHeap} {l:List UInt8} (hl:l.length < 2 ^ 40):ACalls prog 111 [str l] H (str (quoteS l)) H:=by
 refine acalls_pure MixT func111 (by decide) rfl ?_
 rw [d111]
 simp
 have hb0:Bld false (H++[.cells [.pointer none,.slice none 0 0] 116]) H.length []:=⟨.pointer none,.slice none 0 0,by simp,.inl rfl,.nil⟩
 obtain ⟨v1,K1,⟨rfl,h1,h2⟩,h3⟩:=c_writeByte (b:=34) hb0 (by simp)
 refine bndC_of h3 ?_
 simp
 exact ⟨l.length+1,quote_loop (H:=H) (k:=fun u H2=>u=str (quoteS l)∧∃ X,H2=H++X) (Nat.le_refl _) hl (fun K p=>⟨rfl,p⟩) l 0 [34] K1 _ _ _ _ _ _ _ _ _ _ _ _ _ _ _ _ _ _ _ _ _ _ _ _ _ rfl (by omega) (h2 H (.app _ _) (Nat.le_refl _)) h1 (by simp) rfl⟩
theorem c_joined {H:AHeap} {v:Value} {l:List (List UInt8)} (hv:Parts H v l) (hj:(joinS [] l).length≤2 ^ 46) (hll:l.length < 2 ^ 40) (hne:2≤l.length→joinS [] l≠[]):ACalls prog 110 [v] H (str (joinS [] l)) H:=by
 refine acalls_pure MixT func110 (by decide) rfl ?_
 rw [d110]
 exact bndC_of (c_join (sep:=[]) hv hj hll (by simp) hne) ⟨rfl,[],by simp⟩
def sgnS (n:Int):List UInt8:=if isOp n=true then opS n else [61]
def matS (m:Mat):List UInt8:=m.name++sgnS m.op++quoteS m.value
def selS (ms:List Mat):List UInt8:=123 :: joinS [44] (ms.map matS)++[125]
def Mat.tame (m:Mat):Prop:=m.name.length≤2 ^ 20∧m.value.length≤2 ^ 20
theorem sgnS_len (n:Int):(sgnS n).length≤2:=by
 unfold sgnS opS
 split
 · split
   · simp
   · split
     · simp
     · split<;>simp
 · simp
theorem quoteS_len (v:List UInt8):(quoteS v).length≤2*v.length+2:=by
 have:=esc_len v
 rw [quoteS,List.length_append,List.length_cons]
 simp only [List.length_cons,List.length_nil]
 omega
theorem matS_len {m:Mat} (h:m.tame):(matS m).length≤2 ^ 22-2∧2≤(matS m).length:=by
 have h1:=sgnS_len m.op
 have h2:=quoteS_len m.value
 obtain ⟨a,b⟩:=h
 have h3:2≤(quoteS m.value).length:=by simp [quoteS]
 simp only [matS,List.length_append]
 omega
theorem sumL_le {c:Nat}:∀ l:List (List UInt8),(∀ x∈l,x.length≤c)→sumL l≤c*l.length:=by
 intro l
 induction l with
 | nil=>intro _;simp [sumL]
 | cons a r ih =>
   intro h
   rw [sumL,List.length_cons,Nat.mul_add]
   have:=ih fun x hx=>h x (by simp [hx])
   have:=h a (by simp)
   omega
theorem sel_len {ms:List Mat} (hm:∀ m∈ms,m.tame) (hl:ms.length≤2 ^ 20):(joinS [44] (ms.map matS)).length≤2 ^ 43:=by
 cases h:ms.map matS with
 | nil=>simp [joinS]
 | cons a r =>
   rw [join_len]
   have hall:∀ x∈a :: r,x.length≤2 ^ 22-2:=by
    rw [← h]
    intro x hx
    obtain ⟨m,hm1,rfl⟩:=List.mem_map.1 hx
    exact (matS_len (hm m hm1)).1
   have h2:=sumL_le _ hall
   have h3:(a :: r).length≤2 ^ 20:=by rw [← h];simpa using hl
   have h4:(2 ^ 22-2)*(a :: r).length≤(2 ^ 22-2)*2 ^ 20:=Nat.mul_le_mul_left _ h3
   simp at h3 ⊢
   omega
theorem join_ne {sep a b:List UInt8} {r:List (List UInt8)} (h:sep≠[]∨a≠[]):joinS sep (a :: b :: r)≠[]:=by
 intro e
 simp [joinS] at e
 rcases h with h | h
 · exact h e.2.1
 · exact h e.1
theorem strs_lit {P:Program} {H:AHeap} {T e:TypeId} {l:List (List UInt8)} {n:Nat} (hs:aBuildSlice P H T n (enumL 0 (l.map str))=bslV e #[.string ⟨#[]⟩] H n (enumL 0 (l.map str))) (hn:n=l.length) (hb:n≤16777216) :
  sliceLit P H T n (enumL 0 (l.map str)) (.slice (some ⟨H.length,0,some n⟩) n n) (H++[.cells (l.map str) e]) :=
 sliceLit1 hs (fun v hv=>by obtain ⟨s,_,rfl⟩:=List.mem_map.1 hv;rfl) (by simpa using hn) hb
theorem Gro.parts {K lo v l} (h:Gro K lo 1 9 v (strCells l)):Parts K v l:=by
 have hf:∀ l:List (List UInt8),(strCells l).flatten=l.map str:=by
  intro l
  induction l with
  | nil=>rfl
  | cons a r ih=>simp [strCells] at ih ⊢;exact ih
 generalize hc:strCells l=cl at h
 cases h with
 | nil =>
   have:l=[]:=by simpa [strCells] using hc
   subst this;exact .nil
 | mk bb cl h1 h2 h3 h4 =>
   subst hc
   have hl:(strCells l).length=l.length:=by simp [strCells]
   rw [hl,Nat.mul_one]
   exact .mk bb l (by rw [hcells_eq,h2,hf];rfl)
theorem strel1:aElem prog 42=some (9,1,16):=by kernel_rfl
theorem strel2:isSeq prog 42=true:=by kernel_rfl
theorem mp_tail {H:AHeap} {ms:List Mat} {mb lo n0 i b6 b7:Nat} {m:Mat} {fv:Value} {k:Value→AHeap→Prop} (hm:m.tame) (hi:i+1 < 2 ^ 40) {v:Value} {acc:List (List UInt8)} {pv:Value} {K:AHeap} (hp:Pre H K) (hH:H.length≤lo) (hmap:K[mb]?=some (.map opsMap)) (hmb:mb < lo) (hlo:lo≤K.length)
  (h6:K[b6]?=some (.cells m.cells 75)) (h7:K[b7]?=some (.cells [str (sgnS m.op),fv] 150)) (hg:Gro K lo 1 9 pv (strCells acc)) (hal:acc.length≤2 ^ 20)
  (hk:∀ (K:AHeap) (pv:Value) (Q R S V W T U a b d f g h j n o p q r s t u w y z A B C D E F G I J L M N O:Value),Pre H K→K[mb]?=some (.map opsMap)→lo≤K.length→Gro K lo 1 9 pv (strCells (acc++[matS m]))→L72x0 n0 k [v,Q,R,.map (some mb),pv,S,V,W,T,U,v,i64 ms.length,i64 ((i+1:Nat):Int),a,b,d,f,g,h,j,n,o,p,q,r,s,t,u,w,y,z,A,B,C,D,E,F,G,I,J,L,M,N,O] K) (Q R S T U a b d f g h j n o p q r s t u w y z A B C D E F G I J L M N O:Value) :
  S72x0 n0 k [v,Q,R,.map (some mb),pv,S,.pointer (some ⟨b6,0,some 3⟩),.pointer (some ⟨b7,0,some 2⟩),T,U,v,i64 ms.length,i64 i,a,b,d,f,g,h,j,n,o,p,q,r,s,t,u,w,y,z,A,B,C,D,E,F,G,I,J,L,M,N,O] K:=by
 obtain ⟨c6,l6⟩:=cellFx h6
 obtain ⟨c7,l7⟩:=cellFx h7
 simp only [Mat.cells] at c6 l6
 obtain ⟨t1,t2⟩:=hm
 rw [S72x0q]
 simp [c6,l6,c7,l7]
 refine bndD_same (c_quote (by omega)) ?_
 dsimp only
 refine bndD_of (strs_lit (l:=[m.name,sgnS m.op,quoteS m.value]) (tbs42 K 3 _) rfl (by decide)) (.inl rfl) ?_
 dsimp only
 have hj:joinS [] [m.name,sgnS m.op,quoteS m.value]=matS m:=by simp [joinS,matS]
 have hml:=matS_len (m:=m) ⟨t1,t2⟩
 refine bndD_of (c_joined (v:=.slice (some ⟨K.length,0,some 3⟩) 3 3) (l:=[m.name,sgnS m.op,quoteS m.value]) (.mk _ [m.name,sgnS m.op,quoteS m.value] (by simp)) (by rw [hj];omega) (by simp) (fun _ e=>by rw [hj] at e;rw [e] at hml;simp at hml)) (.inl rfl) ?_
 dsimp only
 rw [hj]
 generalize hK1:K++[AObj.cells (List.map str [m.name,sgnS m.op,quoteS m.value]) 9]=K1
 have hg1:Gro K1 lo 1 9 pv (strCells acc):=by rw [← hK1];exact hg.app
 have hp1:Pre H K1:=by rw [← hK1];exact hp.more _
 have hm1:K1[mb]?=some (.map opsMap):=by rw [← hK1];exact get_more hmap
 have hl1:lo≤K1.length:=by rw [← hK1];simp;omega
 clear hK1
 refine bndD_of (strs_lit (l:=[matS m]) (tbs42 K1 1 _) rfl (by decide)) (.inl rfl) ?_
 dsimp only
 obtain ⟨v',K2,q1,q2,q3,q4,q5⟩:=Gro.push (P:=prog) (Ts:=42) (by_:=16) (x:=.slice (some ⟨K1.length,0,some 1⟩) 1 1) (c:=[str (matS m)]) (hg1.app (X:=[AObj.cells (List.map str [matS m]) 9])) strel1 strel2 (by rfl) (by simp;omega) (by simp [aSrc]) (by simp [strCells];omega) (by simp [strCells];omega)
 refine bndD_of q1 (.inl rfl) ?_
 simp [show i+1 < 2 ^ 63 by omega]
 refine hk K2 v' _ _ _ _ _ _ _ _ _ _ _ _ _ _ _ _ _ _ _ _ _ _ _ _ _ _ _ _ _ _ _ _ _ _ _ _ _ _ (q5 H (hp1.more _) hH) (q3 _ _ hmb (get_more hm1)) (by simp at q4;omega) ?_
 have:strCells (acc++[matS m])=strCells acc++[[str (matS m)]]:=by simp [strCells]
 rw [this];exact q2
end Go.Vi
namespace Go.Vi
open Go Go.Proofs Go.Proofs.Tryz
theorem opsLookE {K:AHeap} {mb:Nat} (h:K[mb]?=some (.map opsMap)):aLookup prog K 146 (.map (some mb)) (.int .u8 0) false=some (.agg #[str [61],opF 0]):=by
 rw [aLookup_map,h]
 simp only [tm146,Option.bind_some,mapOf_map,opsOk,keyOk,beq_self_eq_true,if_true]
 unfold mget opsMap opF
 simp [mfind,keyEq]
theorem mp_loop {H:AHeap} {ms:List Mat} {v:Value} {mb lo:Nat} {k:Value→AHeap→Prop} (hm0:MatsAt H v ms) (htm:∀ m∈ms,m.tame) (hml:ms.length≤2 ^ 20) (hH:H.length≤lo) (hmb:mb < lo) (hk:∀ K,Pre H K→k (str (selS ms)) K) :
  ∀ (r : List Mat) (i : Nat) (K : AHeap) (pv : Value) (V W X s6 s7 Y Z c d f g j n o q s u w x y z A B C D E F G I J L M N O Q R S U : Value), ms.drop i = r → i ≤ ms.length → Pre H K → K[mb]? = some (.map opsMap) → lo ≤ K.length → Gro K lo 1 9 pv (strCells ((ms.take i).map matS)) →
    L72x0 (r.length+1) k [v,V,W,.map (some mb),pv,X,s6,s7,Y,Z,v,i64 ms.length,i64 i,c,d,f,g,j,n,o,q,s,u,w,x,y,z,A,B,C,D,E,F,G,I,J,L,M,N,O,Q,R,S,U] K:=by
 intro r
 induction r with
 | nil =>
   intro i K pv V W X s6 s7 Y Z c d f g j n o q s u w x y z A B C D E F G I J L M N O Q R S U hd hi hp hmap hlo hg
   have hle:ms.length≤i:=by simpa using hd
   rw [List.take_of_length_le hle] at hg
   rw [List.length_nil,L72x0q]
   have:¬ i < ms.length:=by omega
   simp [this]
   have hsl:=sel_len htm hml
   refine bndC_of (c_join (sep:=[44]) hg.parts (by omega) (by simp;omega) (by simp) ?_) ?_
   · intro h2
     cases hms:ms.map matS with
     | nil=>rw [hms] at h2;simp at h2
     | cons a t =>
       cases t with
       | nil=>rw [hms] at h2;simp at h2
       | cons b t=>exact join_ne (.inl (by simp))
   refine bndL_lit (strs_lit (l:=[[123],joinS [44] (ms.map matS),[125]]) (tbs42 K 3 _) rfl (by decide)) ?_
   dsimp only
   have hj:joinS [] [[123],joinS [44] (ms.map matS),[125]]=selS ms:=by simp [joinS,selS]
   have hsl2:(selS ms).length≤2 ^ 46:=by simp [selS];omega
   refine bndC_of (c_joined (v:=.slice (some ⟨K.length,0,some 3⟩) 3 3) (l:=[[123],joinS [44] (ms.map matS),[125]]) (.mk _ [[123],joinS [44] (ms.map matS),[125]] (by simp)) (by rw [hj];exact hsl2) (by simp) (fun _ e=>by rw [hj] at e;simp [selS] at e)) ?_
   rw [hj]
   exact hk _ (hp.more _)
 | cons m r ih =>
   intro i K pv V W X s6 s7 Y Z c d f g j n o q s u w x y z A B C D E F G I J L M N O Q R S U hd hi hp hmap hlo hg
   have hb:ms[i]?=some m:=by rw [← List.head?_drop,hd];rfl
   have hlt:i < ms.length:=(List.getElem?_eq_some_iff.1 hb).1
   obtain ⟨p,hp1,hp2⟩:=(hm0.pre hp).load (P:=prog) (T:=35) (te:=75) (i:=i) (e:=m.cells) (by simp) (by simp) (by simp) (by simp [hb])
   have hmK:mb < K.length:=(List.getElem?_eq_some_iff.1 hmap).1
   have hlook:aLookup prog (K++[.cells m.cells 75]) 146 (.map (some mb)) (.int .u8 m.op) true=some (.tuple #[.agg #[str (opS m.op),opF m.op],.bool (isOp m.op)]):=opsLook _ (get_more hmap)
   have hgo:∀ (fv:Value) (V W X Y Z c d f g j n o q s u w x y z A B C D E F G I J L M N O Q R S U:Value),S72x0 (r.length+1) k [v,V,W,.map (some mb),pv,X,.pointer (some ⟨K.length,0,some 3⟩),.pointer (some ⟨K.length+1,0,some 2⟩),Y,Z,v,i64 ms.length,i64 i,c,d,f,g,j,n,o,q,s,u,w,x,y,z,A,B,C,D,E,F,G,I,J,L,M,N,O,Q,R,S,U] (K++[.cells m.cells 75,.cells [str (sgnS m.op),fv] 150]):=by
    intro fv V W X Y Z c d f g j n o q s u w x y z A B C D E F G I J L M N O Q R S U
    refine mp_tail (H:=H) (ms:=ms) (mb:=mb) (lo:=lo) (i:=i) (m:=m) (fv:=fv) (htm m (List.mem_of_getElem? hb)) (by omega) (acc:=(ms.take i).map matS) (hp.more _) hH (get_more hmap) hmb (by simp;omega) (by simp) (by simp) hg.app (by simp;omega) (fun K' pv' V W X s6 s7 Y Z c d f g j n o q s u w x y z A B C D E F G I J L M N O Q R S U a1 a2 a3 a4=>?_) _ _ _ _ _ _ _ _ _ _ _ _ _ _ _ _ _ _ _ _ _ _ _ _ _ _ _ _ _ _ _ _ _ _ _ _
    refine ih (i+1) K' pv' _ _ _ _ _ _ _ _ _ _ _ _ _ _ _ _ _ _ _ _ _ _ _ _ _ _ _ _ _ _ _ _ _ _ _ _ _ _ (by rw [← List.drop_drop,hd];rfl) hlt a1 a2 a3 ?_
    rw [List.take_add_one,hb]
    simpa using a4
   rw [List.length_cons,L72x0q]
   simp only [Mat.cells] at hlook hgo
   simp [hlt,hp1,hp2,Mat.cells,-aLookup_map,hlook,opF_one]
   refine kifB_bool (fun h=>?_) (fun h=>?_)
   · have hno:isOp m.op=false:=by simpa using h
     have hlook2:=opsLookE (K:=K++[.cells [str m.name,.int .u8 m.op,str m.value] 75,.cells [str (opS m.op),opF m.op] 150]) (mb:=mb) (get_more hmap)
     simp [-aLookup_map,hlook2,opF_one]
     have:=hgo (opF 0)
     simp only [sgnS,hno,Bool.false_eq_true,if_false] at this
     exact this _ _ _ _ _ _ _ _ _ _ _ _ _ _ _ _ _ _ _ _ _ _ _ _ _ _ _ _ _ _ _ _ _ _ _ _
   · have hyes:isOp m.op=true:=by simpa using h
     have:=hgo (opF m.op)
     simp only [sgnS,hyes,if_true] at this
     exact this _ _ _ _ _ _ _ _ _ _ _ _ _ _ _ _ _ _ _ _ _ _ _ _ _ _ _ _ _ _ _ _ _ _ _ _
theorem c_matPrint {H:AHeap} {v:Value} {ms:List Mat} (hm:MatsAt H v ms) (htm:∀ m∈ms,m.tame) (hml:ms.length≤2 ^ 20):ACalls prog 72 [v] H (str (selS ms)) H:=by
 refine acalls_pure MixT func72 (by decide) rfl ?_
 rw [d72]
 refine bndC_of (c_matOps H) ?_
 have hlen:=(hm.pre (.app H [.map opsMap])).len (P:=prog) (T:=35) (e:=75) (by simp)
 simp at hlen
 simp [hlen]
 exact ⟨ms.length+1,mp_loop (H:=H) (ms:=ms) (mb:=H.length) (lo:=H.length+1) hm htm hml (by omega) (by omega) (fun K p=>⟨rfl,p⟩) ms 0 _ (.slice none 0 0) _ _ _ _ _ _ _ _ _ _ _ _ _ _ _ _ _ _ _ _ _ _ _ _ _ _ _ _ _ _ _ _ _ _ _ _ _ _ rfl (by omega) (.app _ _) (by simp) (by simp) .nil⟩
end Go.Vi
namespace Go.Vi
open Go Go.Proofs Go.Proofs.Tryz
def strongI (k:UInt8):Int:=if k=2 then 0 else if k=1 then 1 else if k=3 then 2 else if k=0 then 3 else 0
def leafS (n:Nod):List UInt8:=aggs.getD n.agg.toNat []++[40]++selS n.sel++[91]++fmtS n.window++[93,41,32]++cmps.getD n.cmp.toNat []++[32]++fixS n.value
def txtF (ns:List Nod):Nat→Nat→Int→List UInt8
 | 0,_,_=>[]
 | f + 1, e, least => match ns[e]? with
   | none=>[]
   | some n =>
     let s:=if n.kind=0 then leafS n
      else if n.kind=3 then [110,111,116,32]++txtF ns f n.left.toNat 2
      else if n.kind=1 then txtF ns f n.left.toNat 1++[32,97,110,100,32]++txtF ns f n.right.toNat 2
      else if n.kind=2 then txtF ns f n.left.toNat 0++[32,111,114,32]++txtF ns f n.right.toNat 1
      else []
     if strongI n.kind < least then [40]++s++[41] else s
theorem c_strong {H:AHeap} {n:Nod} {sv:Value} (hs:sv.oneCell'=true):ACalls prog 75 [.agg (n.cells sv).toArray] H (i64 (strongI n.kind)) H:=by
 refine acalls_pure MixT func75 (by decide) rfl ?_
 rw [d75]
 simp [aNew_agg,Nod.cells,hs,keyOk,mOk,mput,mfind,keyEq]
 generalize n.kind=q
 by_cases h2:q=2
 · subst h2;simp [mget,mfind,keyEq,strongI]
 by_cases h1:q=1
 · subst h1;simp [mget,mfind,keyEq,strongI]
 by_cases h3:q=3
 · subst h3;simp [mget,mfind,keyEq,strongI]
 by_cases h0:q=0
 · subst h0;simp [mget,mfind,keyEq,strongI]
 have e:∀ m:UInt8,q≠m→¬ (q.toNat:Int)=m.toNat:=fun m hm e=>hm (UInt8.toNat_inj.1 (by omega))
 have e2:=e 2 h2
 have e1:=e 1 h1
 have e3:=e 3 h3
 have e0:=e 0 h0
 simp at e2 e1 e3 e0
 simp [mget,mfind,keyEq,strongI,e2,e1,e3,e0,h2,h1,h3,h0,cok,isLit]
theorem aggs_at {i:Nat} (h:i < 6):aggs[i]?=some (aggs.getD i []):=by
 simp only [List.getD]
 rw [List.getElem?_eq_getElem (by simpa [aggs] using h)];rfl
theorem cmps_at {i:Nat} (h:i < 6):cmps[i]?=some (cmps.getD i []):=by
 simp only [List.getD]
 rw [List.getElem?_eq_getElem (by simpa [cmps] using h)];rfl
def WF (ns:List Nod):Nat→Nat→Prop
 | 0,_=>False
 | f + 1, e => ∃ n, ns[e]? = some n ∧ (n.kind = 0 → n.agg.toNat < 6 ∧ n.cmp.toNat < 6 ∧ -9223372036854775808 ≤ n.window ∧ n.window < 9223372036854775808 ∧ (∀ m ∈ n.sel, m.tame) ∧ n.sel.length ≤ 2 ^ 20 ∧ (leafS n).length ≤ 2 ^ 10) ∧
     (n.kind=3→∃ a:Nat,n.left=a∧WF ns f a)∧(n.kind=1∨n.kind=2→(∃ a:Nat,n.left=a∧WF ns f a)∧∃ b:Nat,n.right=b∧WF ns f b)
theorem txt_len (ns:List Nod):∀ (f e:Nat) (least:Int),WF ns f e→(txtF ns f e least).length+8≤2 ^ (f+10):=by
 intro f
 induction f with
 | zero=>intro e least h;exact h.elim
 | succ f ih =>
   intro e least h
   obtain ⟨n,h1,h2,h3,h4⟩:=h
   have hp:2 ^ (f+1+10)=2*2 ^ (f+10):=by rw [show f+1+10=(f+10)+1 by omega,Nat.pow_succ];omega
   have hq:2 ^ 10≤2 ^ (f+10):=Nat.pow_le_pow_right (by omega) (by omega)
   have key:∀ s:List UInt8,s.length+10≤2 ^ (f+1+10)→(if strongI n.kind < least then [40]++s++[41] else s).length+8≤2 ^ (f+1+10):=by
    intro s hs
    split
    · simp;omega
    · omega
   rw [txtF,h1]
   refine key _ ?_
   split
   · rename_i k;have:=(h2 k).2.2.2.2.2.2;omega
   · split
     · rename_i k
       obtain ⟨a,e1,e2⟩:=h3 k
       have:=ih _ 2 e2
       rw [e1]
       simp
       omega
     · split
       · rename_i k
         obtain ⟨⟨a,e1,e2⟩,b,e3,e4⟩:=h4 (.inl k)
         have a1:=ih _ 1 e2
         have a2:=ih _ 2 e4
         rw [e1,e3]
         simp
         omega
       · split
         · rename_i k
           obtain ⟨⟨a,e1,e2⟩,b,e3,e4⟩:=h4 (.inr k)
           have a1:=ih _ 0 e2
           have a2:=ih _ 1 e4
           rw [e1,e3]
           simp
           omega
         · simp;omega
theorem row_str {K:AHeap} {b i:Nat} {l:List (List UInt8)} {s:List UInt8} {k:IntKind} (hb:hcells K b=some (l.map str)) (hi:l[i]?=some s) :
  ∃ p,aIndexAddr prog K 42 (.slice (some ⟨b,0,some l.length⟩) l.length l.length) (.int k i)=some p∧aLoad prog K 9 p=some (str s):=by
 have hl:hlen K b=some l.length:=by rw [hcells_len hb];simp
 have hlt:=(List.getElem?_eq_some_iff.1 hi).1
 refine ⟨.pointer (some ⟨b,i,some l.length⟩),?_,?_⟩
 · rw [aIndexAddr_sl]
   simp [hl,slElem]
   omega
 · simp [hb,hi]
theorem c_exprText {ns:List Nod} {H:AHeap} {v:Value} (hg:Pw H) (hn:NodesAt H v ns):∀ (f e:Nat) (least:Int),f≤40→WF ns f e→∀ K:AHeap,Pre H K→ACalls prog 43 [v,i64 e,i64 least] K (str (txtF ns f e least)) K:=by
 intro f
 induction f with
 | zero=>intro e least _ h;exact h.elim
 | succ f ih =>
   intro e least hf hw K hpK
   have htl:=txt_len ns (f+1) e
   obtain ⟨n,h1,h2,h3,h4⟩:=id hw
   obtain ⟨cl,ha,hcl,hc⟩:=hn.pre hpK
   obtain ⟨sv,hsv,hm,hml⟩:=hc _ _ h1
   obtain ⟨p,hp1,hp2⟩:=ha.load (P:=prog) (T:=27) (te:=37) (i:=e) (e:=n.cells sv) (by simp) (by simp) (by simp) hsv
   have hone:=hm.one
   refine acalls_pure MixT func43 (by decide) rfl ?_
   generalize hk0:(fun u H2=>u=str (txtF ns (f+1) e least)∧∃ Y,H2=K++Y)=k
   have hk:∀ M,Pre K M→k (str (txtF ns (f+1) e least)) M:=fun M p=>by rw [← hk0];exact ⟨rfl,p⟩
   rw [d43]
   have hpow:2 ^ (f+1+10)≤2 ^ 52:=Nat.pow_le_pow_right (by omega) (by omega)
   have hpow2:2 ^ (f+10)≤2 ^ 51:=Nat.pow_le_pow_right (by omega) (by omega)
   have hpM:Pre K (K++[.cells (n.cells sv) 37]):=.app _ _
   have hcM:hcells (K++[.cells (n.cells sv) 37]) K.length=some (n.cells sv):=by simp
   have hfin:∀ (N:AHeap) (s:List UInt8) (s0 s1 s3 s4 s5 s6 s9 d g j o q r t w y z B D E F G I J L O Q R V Z aa ab ac ad ae af ag ah ai aj ak al am an ao ap aq ar au av aw ax ay az aA aB aC aD aE aF aG aH aI aJ aK aL aM aN aO aP aQ aR aS aT aU aV aW aX aY aZ:Value),Pre (K++[.cells (n.cells sv) 37]) N→s.length≤2 ^ 60→txtF ns (f+1) e least=(if strongI n.kind < least then [40]++s++[41] else s) →
     S43x0 k [s0,s1,i64 least,s3,s4,s5,s6,.pointer (some ⟨K.length,0,some 8⟩),str s,s9,d,g,j,o,q,r,t,w,y,z,B,D,E,F,G,I,J,L,O,Q,R,V,Z,aa,ab,ac,ad,ae,af,ag,ah,ai,aj,ak,al,am,an,ao,ap,aq,ar,au,av,aw,ax,ay,az,aA,aB,aC,aD,aE,aF,aG,aH,aI,aJ,aK,aL,aM,aN,aO,aP,aQ,aR,aS,aT,aU,aV,aW,aX,aY,aZ] N:=by
    intro N s s0 s1 s3 s4 s5 s6 s9 d g j o q r t w y z B D E F G I J L O Q R V Z aa ab ac ad ae af ag ah ai aj ak al am an ao ap aq ar au av aw ax ay az aA aB aC aD aE aF aG aH aI aJ aK aL aM aN aO aP aQ aR aS aT aU aV aW aX aY aZ hN hs ht
    rw [S43x0q]
    rw [ht] at hk
    clear ht hw h2 h3 h4 ih hsv hp2 hk0 htl
    replace hcM:=hN.hcells hcM
    replace hpM:=hpM.trans hN
    clear hN
    generalize N=M at hcM hpM ⊢
    simp only [Nod.cells] at hcM
    simp [hcM]
    have hst:=c_strong (H:=M) (n:=n) (sv:=sv) hone
    simp only [Nod.cells] at hst
    refine bndC_of hst ?_
    simp
    refine kifB_bool (fun h=>?_) (fun h=>?_)
    · have hl:strongI n.kind < least:=by simpa using h
      rw [if_pos hl] at hk
      have c1:∀ X Y,aBin2 prog M .add 9 X Y (.string ⟨#[40]⟩) (str s)=some (str (40 :: s)):=fun X Y=>aBin_str (a:=[40]) (b:=s) (by simp;omega)
      have c2:∀ X Y,aBin2 prog M .add 9 X Y (str (40 :: s)) (.string ⟨#[41]⟩)=some (str (40 :: s++[41])):=fun X Y=>aBin_str (a:=40 :: s) (b:=[41]) (by simp;omega)
      simp [c1,c2]
      exact hk M hpM
    · have hl:¬ strongI n.kind < least:=by simpa using h
      rw [if_neg hl] at hk
      exact hk M hpM
   generalize hM:K++[AObj.cells (n.cells sv) 37]=M at hcM hpM hfin
   have hpHM:=hpK.trans hpM
   simp only [Nod.cells] at hcM hM
   have hlM:hlen M K.length=some 8:=by rw [hcells_len hcM];rfl
   simp [hp1,hp2,Nod.cells,hone,hM,hcM,hlM]
   by_cases k0:n.kind=0
   · obtain ⟨g1,g2,g3,g4,g5,g6,g7⟩:=h2 k0
     have e0:(n.kind.toNat:Int)=0:=by rw [k0];rfl
     have hts:txtF ns (f+1) e least=if strongI n.kind < least then [40]++leafS n++[41] else leafS n:=by rw [txtF,h1];simp only [k0,if_true]
     have hgo:∀ (N:AHeap) (s:List UInt8) (s0 s1 s3 s4 s5 s6 s9 d g j o q r t w y z B D E F G I J L O Q R V Z aa ab ac ad ae af ag ah ai aj ak al am an ao ap aq ar au av aw ax ay az aA aB aC aD aE aF aG aH aI aJ aK aL aM aN aO aP aQ aR aS aT aU aV aW aX aY aZ:Value),Pre M N→s=leafS n→S43x0 k [s0,s1,i64 least,s3,s4,s5,s6,.pointer (some ⟨K.length,0,some 8⟩),str s,s9,d,g,j,o,q,r,t,w,y,z,B,D,E,F,G,I,J,L,O,Q,R,V,Z,aa,ab,ac,ad,ae,af,ag,ah,ai,aj,ak,al,am,an,ao,ap,aq,ar,au,av,aw,ax,ay,az,aA,aB,aC,aD,aE,aF,aG,aH,aI,aJ,aK,aL,aM,aN,aO,aP,aQ,aR,aS,aT,aU,aV,aW,aX,aY,aZ] N:=fun N s s0 s1 s3 s4 s5 s6 s9 d g j o q r t w y z B D E F G I J L O Q R V Z aa ab ac ad ae af ag ah ai aj ak al am an ao ap aq ar au av aw ax ay az aA aB aC aD aE aF aG aH aI aJ aK aL aM aN aO aP aQ aR aS aT aU aV aW aX aY aZ a b=>hfin N s _ _ _ _ _ _ _ _ _ _ _ _ _ _ _ _ _ _ _ _ _ _ _ _ _ _ _ _ _ _ _ _ _ _ _ _ _ _ _ _ _ _ _ _ _ _ _ _ _ _ _ _ _ _ _ _ _ _ _ _ _ _ _ _ _ _ _ _ _ _ _ _ _ _ _ _ _ _ _ _ a (by subst b;omega) (by rw [hts,b])
     simp only [leafS,List.length_append,List.length_cons,List.length_nil] at g7
     simp only [leafS] at hgo
     clear hfin ih h3 h4 htl hw
     generalize hA:aggs.getD n.agg.toNat []=A at g7 hgo
     generalize hC:cmps.getD n.cmp.toNat []=C at g7 hgo
     have hA':aggs[n.agg.toNat]?=some A:=by rw [← hA];exact aggs_at g1
     have hC':cmps[n.cmp.toNat]?=some C:=by rw [← hC];exact cmps_at g2
     simp [e0]
     refine bndD_of (c_aggregates M) (.inr ⟨_,rfl⟩) ?_
     obtain ⟨p1,a1,a2⟩:=row_str (K:=M++[.cells (aggs.map str) 9]) (b:=M.length) (l:=aggs) (k:=.u8) (by simp) hA'
     simp only [show aggs.length=6 from rfl] at a1
     simp [hlM,hcM,a1,a2]
     generalize hM1:M++[AObj.cells (aggs.map str) 9]=M1
     have hpM1:Pre M M1:=by rw [← hM1];exact .app _ _
     clear hM1 a1 a2 hA' hA hC
     have hmp:=c_matPrint ((hm.pre hpM).pre hpM1) g5 g6
     have hit:=c_itoa (H:=M1) ((hg.trans hpHM).trans hpM1) g3 g4
     generalize selS n.sel=S at g7 hgo hmp
     generalize fmtS n.window=W at g7 hgo hit
     refine bnd_of (aBin_str (b:=[40]) (by simp;omega)) ?_
     simp [hlM,hcM]
     refine bndD_same hmp ?_
     dsimp only
     refine bnd_of (aBin_str (b:=S) (by simp;omega)) ?_
     dsimp only
     refine bnd_of (aBin_str (b:=[91]) (by simp;omega)) ?_
     simp [hlM,hcM]
     refine bndD_same hit ?_
     dsimp only
     refine bnd_of (aBin_str (b:=W) (by simp;omega)) ?_
     dsimp only
     refine bnd_of (aBin_str (b:=[93,41,32]) (by simp;omega)) ?_
     dsimp only
     refine bndD_of (c_compares M1) (.inr ⟨_,rfl⟩) ?_
     obtain ⟨p2,b1,b2⟩:=row_str (K:=M1++[.cells (cmps.map str) 9]) (b:=M1.length) (l:=cmps) (k:=.u8) (by simp) hC'
     simp only [show cmps.length=6 from rfl] at b1
     simp [hlM,hcM,b1,b2]
     have hfx:=c_fixPrint (H:=M1++[.cells (cmps.map str) 9]) (((hg.trans hpHM).trans hpM1).more _) (x:=n.value)
     have hpM2:Pre M (M1++[.cells (cmps.map str) 9]):=hpM1.more _
     clear b1 b2 hmp hit
     generalize M1++[AObj.cells (cmps.map str) 9]=M2 at hfx hpM2 ⊢
     generalize fixS n.value=X at g7 hgo hfx
     refine bnd_of (aBin_str (b:=C) (by simp;omega)) ?_
     dsimp only
     refine bnd_of (aBin_str (b:=[32]) (by simp;omega)) ?_
     simp [hlM,hcM]
     refine bndD_same hfx ?_
     dsimp only
     refine bnd_of (aBin_str (b:=X) (by simp;omega)) ?_
     dsimp only
     exact hgo M2 _ _ _ _ _ _ _ _ _ _ _ _ _ _ _ _ _ _ _ _ _ _ _ _ _ _ _ _ _ _ _ _ _ _ _ _ _ _ _ _ _ _ _ _ _ _ _ _ _ _ _ _ _ _ _ _ _ _ _ _ _ _ _ _ _ _ _ _ _ _ _ _ _ _ _ _ _ _ _ _ _ hpM2 (by simp)
   · have hkn:∀ m:UInt8,n.kind≠m→¬ (n.kind.toNat:Int)=m.toNat:=fun m hm e=>hm (UInt8.toNat_inj.1 (by omega))
     have e0:¬ (n.kind.toNat:Int)=0:=by simpa using hkn 0 k0
     have e0b:((n.kind.toNat:Int) == 0)=false:=by simpa using e0
     have hgo:∀ (N:AHeap) (s:List UInt8) (s0 s1 s3 s4 s5 s6 s9 d g j o q r t w y z B D E F G I J L O Q R V Z aa ab ac ad ae af ag ah ai aj ak al am an ao ap aq ar au av aw ax ay az aA aB aC aD aE aF aG aH aI aJ aK aL aM aN aO aP aQ aR aS aT aU aV aW aX aY aZ:Value),Pre M N→s.length≤2 ^ 60→(txtF ns (f+1) e least=if strongI n.kind < least then [40]++s++[41] else s)→S43x0 k [s0,s1,i64 least,s3,s4,s5,s6,.pointer (some ⟨K.length,0,some 8⟩),str s,s9,d,g,j,o,q,r,t,w,y,z,B,D,E,F,G,I,J,L,O,Q,R,V,Z,aa,ab,ac,ad,ae,af,ag,ah,ai,aj,ak,al,am,an,ao,ap,aq,ar,au,av,aw,ax,ay,az,aA,aB,aC,aD,aE,aF,aG,aH,aI,aJ,aK,aL,aM,aN,aO,aP,aQ,aR,aS,aT,aU,aV,aW,aX,aY,aZ] N:=fun N s s0 s1 s3 s4 s5 s6 s9 d g j o q r t w y z B D E F G I J L O Q R V Z aa ab ac ad ae af ag ah ai aj ak al am an ao ap aq ar au av aw ax ay az aA aB aC aD aE aF aG aH aI aJ aK aL aM aN aO aP aQ aR aS aT aU aV aW aX aY aZ a b c=>hfin N s _ _ _ _ _ _ _ _ _ _ _ _ _ _ _ _ _ _ _ _ _ _ _ _ _ _ _ _ _ _ _ _ _ _ _ _ _ _ _ _ _ _ _ _ _ _ _ _ _ _ _ _ _ _ _ _ _ _ _ _ _ _ _ _ _ _ _ _ _ _ _ _ _ _ _ _ _ _ _ _ a b c
     have htx:txtF ns (f+1) e least=(let s:=(if n.kind=3 then [110,111,116,32]++txtF ns f n.left.toNat 2 else if n.kind=1 then txtF ns f n.left.toNat 1++[32,97,110,100,32]++txtF ns f n.right.toNat 2 else if n.kind=2 then txtF ns f n.left.toNat 0++[32,111,114,32]++txtF ns f n.right.toNat 1 else []);(if strongI n.kind < least then [40]++s++[41] else s)):=by rw [txtF,h1];simp only [k0,if_false]
     dsimp only at htx
     by_cases k3:n.kind=3
     · obtain ⟨a,l1,l2⟩:=h3 k3
       have e3:(n.kind.toNat:Int)=3:=by rw [k3];rfl
       rw [if_pos k3,l1,Int.toNat_natCast] at htx
       have hl:=txt_len ns f a 2 l2
       have hcall:=ih a 2 (by omega) l2 M hpHM
       generalize txtF ns f a 2=T at htx hl hcall
       simp [e3,hlM,hcM,l1]
       refine bndC_of hcall ?_
       refine bnd_of (v:=str ([110,111,116,32]++T)) (aBin_str (a:=[110,111,116,32]) (b:=T) (by simp;omega)) ?_
       dsimp only
       exact hgo M _ _ _ _ _ _ _ _ _ _ _ _ _ _ _ _ _ _ _ _ _ _ _ _ _ _ _ _ _ _ _ _ _ _ _ _ _ _ _ _ _ _ _ _ _ _ _ _ _ _ _ _ _ _ _ _ _ _ _ _ _ _ _ _ _ _ _ _ _ _ _ _ _ _ _ _ _ _ _ _ _ (.refl _) (by simp;omega) htx
     · have e3:¬ (n.kind.toNat:Int)=3:=by simpa using hkn 3 k3
       have e3b:((n.kind.toNat:Int) == 3)=false:=by simpa using e3
       rw [if_neg k3] at htx
       by_cases k1:n.kind=1
       · obtain ⟨⟨a,l1,l2⟩,b,r1,r2⟩:=h4 (.inl k1)
         have e1:(n.kind.toNat:Int)=1:=by rw [k1];rfl
         rw [if_pos k1,l1,r1,Int.toNat_natCast,Int.toNat_natCast] at htx
         have hl:=txt_len ns f a 1 l2
         have hr:=txt_len ns f b 2 r2
         have hcl1:=ih a 1 (by omega) l2 M hpHM
         have hcl2:=ih b 2 (by omega) r2 M hpHM
         generalize txtF ns f a 1=T at htx hl hcl1
         generalize txtF ns f b 2=U at htx hr hcl2
         simp [e1,hlM,hcM,l1]
         refine bndD_same hcl1 ?_
         dsimp only
         refine bnd_of (aBin_str (b:=[32,97,110,100,32]) (by simp;omega)) ?_
         simp [hlM,hcM,r1]
         refine bndD_same hcl2 ?_
         dsimp only
         refine bnd_of (aBin_str (b:=U) (by simp;omega)) ?_
         dsimp only
         exact hgo M _ _ _ _ _ _ _ _ _ _ _ _ _ _ _ _ _ _ _ _ _ _ _ _ _ _ _ _ _ _ _ _ _ _ _ _ _ _ _ _ _ _ _ _ _ _ _ _ _ _ _ _ _ _ _ _ _ _ _ _ _ _ _ _ _ _ _ _ _ _ _ _ _ _ _ _ _ _ _ _ _ (.refl _) (by simp;omega) (by rw [htx])
       · have e1:¬ (n.kind.toNat:Int)=1:=by simpa using hkn 1 k1
         have e1b:((n.kind.toNat:Int) == 1)=false:=by simpa using e1
         rw [if_neg k1] at htx
         by_cases k2:n.kind=2
         · obtain ⟨⟨a,l1,l2⟩,b,r1,r2⟩:=h4 (.inr k2)
           have e2:(n.kind.toNat:Int)=2:=by rw [k2];rfl
           rw [if_pos k2,l1,r1,Int.toNat_natCast,Int.toNat_natCast] at htx
           have hl:=txt_len ns f a 0 l2
           have hr:=txt_len ns f b 1 r2
           have hcl1:=ih a 0 (by omega) l2 M hpHM
           have hcl2:=ih b 1 (by omega) r2 M hpHM
           generalize txtF ns f a 0=T at htx hl hcl1
           generalize txtF ns f b 1=U at htx hr hcl2
           simp [e2,hlM,hcM,l1]
           refine bndD_same hcl1 ?_
           dsimp only
           refine bnd_of (aBin_str (b:=[32,111,114,32]) (by simp;omega)) ?_
           simp [hlM,hcM,r1]
           refine bndD_same hcl2 ?_
           dsimp only
           refine bnd_of (aBin_str (b:=U) (by simp;omega)) ?_
           dsimp only
           exact hgo M _ _ _ _ _ _ _ _ _ _ _ _ _ _ _ _ _ _ _ _ _ _ _ _ _ _ _ _ _ _ _ _ _ _ _ _ _ _ _ _ _ _ _ _ _ _ _ _ _ _ _ _ _ _ _ _ _ _ _ _ _ _ _ _ _ _ _ _ _ _ _ _ _ _ _ _ _ _ _ _ _ (.refl _) (by simp;omega) (by rw [htx])
         · have e2:¬ (n.kind.toNat:Int)=2:=by simpa using hkn 2 k2
           have e2b:((n.kind.toNat:Int) == 2)=false:=by simpa using e2
           rw [if_neg k2] at htx
           simp [e0b,e1b,e2b,e3b]
           exact hgo M [] _ _ _ _ _ _ _ _ _ _ _ _ _ _ _ _ _ _ _ _ _ _ _ _ _ _ _ _ _ _ _ _ _ _ _ _ _ _ _ _ _ _ _ _ _ _ _ _ _ _ _ _ _ _ _ _ _ _ _ _ _ _ _ _ _ _ _ _ _ _ _ _ _ _ _ _ _ _ _ _ (.refl _) (by simp) htx
end Go.Vi
