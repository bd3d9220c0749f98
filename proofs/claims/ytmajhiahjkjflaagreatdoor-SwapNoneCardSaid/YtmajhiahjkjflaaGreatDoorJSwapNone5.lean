/- Conditions, whatever is read. Read and Parse, whatever they read. The sum of bytes (crc). Statements of chapter 10: the examples. Rules, and a rule's fingerprint. Ranges over maps: whichever entry comes next, the rest must hold. What the functions' bodies come to. Places: the first things that have a number. What is held against what; two tasks are sorted; the first instant. The first instant; alerts that stay; tasks. Alerts that stay; tasks of rules. Tasks that are to be: of no rules; of two. Tasks that are to be: of no rules; of two. Alerts and tasks as they are handed over. What the listed variables ask of a world: one that meets it. Package variables, as the world lays them, in the abstract memory. What the functions' bodies come to. Statements of chapter 27: the examples. What the functions' bodies come to. SwapNext, SwapNone: the walks. -/
import Derived.Test.YtmajhiahjkjflaaGreatDoorJSwapNone4
import Derived.Test.YtmajhiahjkjflaaGreatDoorJSwapNone2
import Derived.Maps.RangeRun
import Derived.Test.YtmajhiahjkjflaaGreatDoorChecked
import Derived.Test.YtmajhiahjkjflaaGreatDoorJSwapNone3
import Derived.Test.YtmajhiahjkjflaaGreatDoorTie
import Derived.Test.YtmajhiahjkjflaaGreatDoorCards
import Derived.SevenTiedAt
import Derived.LaidSub
import Derived.Lay
import Derived.MakeChecks
import Derived.ChangeMaps5
namespace Go.Vi
open Go Go.Proofs Go.Proofs.Tryz
theorem drawKeepOne {P:Program}:OneD (drawKeep P):=by
 constructor
 · intro ops k k' sl H hk h
   unfold drawKeep at h ⊢
   split at h
   · exact kdrawK_mono hk _ _ h
   · cases h
 · intro ops k sl H h
   unfold drawKeep at h ⊢
   split at h
   · exact kdrawK_one _ _ h
   · cases h
theorem acallsKex {P:Program} (hm:P.follows .mixedOrders=true) {f fn args H} {k:Value→AHeap→Prop} (hf:P.funcs[f]?=some fn) (hn:notNG fn=true) (hr:kbodyG P (drawKeep P) fn args H k):∃ v H',k v H'∧ACalls P f args H v H':=by
 obtain ⟨v,H',h1,h2⟩:=kbodyG_one drawKeepOne hr
 exact ⟨v,H',h1,acallsG_of (fun c=>@drawKeep_sound P c hm) hf hn h2⟩
def wordO (k:Nat):List UInt8:=if k=1 then [97,110,100] else [111,114]
def notS:List UInt8:=[110,111,116]
def opN (k:UInt8) (l r:Int):Nod:=⟨k,0,[],0,0,0,l,r⟩
def kindK (k:Nat):UInt8:=if k=1 then 1 else 2
def strO (ts:List Tok):Nat→Nat→Nat→List Nod→Option (Option (List Nod × Nat))
 | 0,_,_,_=>none
 | f + 1, m, a, l =>
   if m=2 then
    if isT ts a 1 notS=true then (strO ts f 2 (a+1) l).map fun r=>r.map fun p=>(p.1++[opN 3 ((p.1.length:Int)-1) 0],p.2)
    else if isT ts a 4 [40]=true then (strO ts f 0 (a+1) l).map fun r=>r.bind fun p=>(signO ts [41] p.2).map fun c=>(p.1,c)
    else some ((cmpO ts a).map fun p=>(l++[p.1],p.2))
   else if m < 2 then (strO ts f (m+1) a l).bind fun r=>match r with
    | none=>some none
    | some p=>strO ts f (m+10) p.2 p.1
   else if isT ts a 1 (wordO (m-10))=true then (strO ts f (m-10+1) (a+1) l).bind fun r=>match r with
    | none=>some none
    | some p=>strO ts f m p.2 (p.1++[opN (kindK (m-10)) ((l.length:Int)-1) ((p.1.length:Int)-1)])
   else some (some (l,a))
theorem cmpO_lt {ts:List Tok} {a:Nat} {p:Nod × Nat} (h:cmpO ts a=some p):a < p.2:=by
 have hone:∀ {k l a b},oneO ts k l a=some b→b=a+1:=by
  intro k l a b h
  unfold oneO at h
  obtain ⟨_,_,h2⟩:=Option.bind_eq_some_iff.1 h
  split at h2<;>simp_all
 have hsign:∀ {s a b},signO ts s a=some b→b=a+1:=by
  intro s a b h
  unfold signO at h
  split at h<;>simp_all
 have hmat:∀ {a p},matO ts a=some p→p.2=a+3:=by
  intro a p h
  unfold matO at h
  obtain ⟨_,_,h2⟩:=Option.bind_eq_some_iff.1 h
  obtain ⟨_,_,h3⟩:=Option.bind_eq_some_iff.1 h2
  split at h3
  · obtain ⟨_,_,h4⟩:=Option.bind_eq_some_iff.1 h3
    rw [← Option.some.inj h4]
  · cases h3
 have hselL:∀ (f:Nat) {a acc p},selL ts f a acc=some p→a≤p.2:=by
  intro f
  induction f with
  | zero=>intro a acc p h;cases h
  | succ f ih =>
    intro a acc p h
    simp only [selL] at h
    obtain ⟨q,h1,h2⟩:=Option.bind_eq_some_iff.1 h
    have:=hmat h1
    split at h2
    · have:=ih h2;omega
    · rw [← Option.some.inj h2];simp only;omega
 have hsel:∀ {a p},selO ts a=some p→a≤p.2:=by
  intro a p h
  unfold selO at h
  obtain ⟨b,h1,h2⟩:=Option.bind_eq_some_iff.1 h
  have:=hsign h1
  split at h2
  · rw [← Option.some.inj h2];simp only;omega
  · obtain ⟨q,h3,h4⟩:=Option.bind_eq_some_iff.1 h2
    have:=hselL _ h3
    obtain ⟨c,h5,h6⟩:=Option.map_eq_some_iff.1 h4
    rw [← h6]
    unfold selE at h5
    obtain ⟨d,h7,h8⟩:=Option.bind_eq_some_iff.1 h5
    have:=hsign h7
    split at h8
    · rw [← Option.some.inj h8];simp only;omega
    · cases h8
 have hwin:∀ {a p},winO ts a=some p→p.2=a+1:=by
  intro a p h
  unfold winO at h
  obtain ⟨_,_,h2⟩:=Option.bind_eq_some_iff.1 h
  obtain ⟨_,_,h3⟩:=Option.bind_eq_some_iff.1 h2
  split at h3
  · rw [← Option.some.inj h3]
  · cases h3
 have hval:∀ {a p},valO ts a=some p→a≤p.2:=by
  intro a p h
  unfold valO at h
  obtain ⟨_,_,h2⟩:=Option.bind_eq_some_iff.1 h
  split at h2
  · rw [← Option.some.inj h2];simp only [takO];split<;>omega
  · cases h2
 unfold cmpO at h
 obtain ⟨b1,h1,h⟩:=Option.bind_eq_some_iff.1 h
 obtain ⟨b2,h2,h⟩:=Option.bind_eq_some_iff.1 h
 obtain ⟨q,h3,h⟩:=Option.bind_eq_some_iff.1 h
 obtain ⟨b3,h4,h⟩:=Option.bind_eq_some_iff.1 h
 obtain ⟨w,h5,h⟩:=Option.bind_eq_some_iff.1 h
 obtain ⟨b4,h6,h⟩:=Option.bind_eq_some_iff.1 h
 obtain ⟨b5,h7,h⟩:=Option.bind_eq_some_iff.1 h
 obtain ⟨b6,h8,h⟩:=Option.bind_eq_some_iff.1 h
 obtain ⟨v,h9,h⟩:=Option.bind_eq_some_iff.1 h
 have:=hone h1;have:=hsign h2;have:=hsel h3;have:=hsign h4;have:=hwin h5;have:=hsign h6;have:=hsign h7;have:=hone h8;have:=hval h9
 rw [← Option.some.inj h]
 simp only
 omega
theorem strO_len {ts:List Tok}:∀ (f:Nat) {m a l l' b},strO ts f m a l=some (some (l',b))→a≤b∧l.length≤l'.length∧l'.length+a≤l.length+b:=by
 intro f
 induction f with
 | zero=>intro m a l l' b h;cases h
 | succ f ih =>
   intro m a l l' b h
   simp only [strO] at h
   split at h
   · split at h
     · obtain ⟨r,h1,h2⟩:=Option.map_eq_some_iff.1 h
       obtain ⟨p,rfl,h3⟩:=Option.map_eq_some_iff.1 h2
       have:=ih h1
       simp only [Prod.mk.injEq] at h3
       obtain ⟨rfl,rfl⟩:=h3
       simp only [List.length_append,List.length_cons,List.length_nil]
       omega
     · split at h
       · obtain ⟨r,h1,h2⟩:=Option.map_eq_some_iff.1 h
         obtain ⟨p,rfl,h3⟩:=Option.bind_eq_some_iff.1 h2
         obtain ⟨c,h4,h5⟩:=Option.map_eq_some_iff.1 h3
         have:=ih h1
         unfold signO at h4
         split at h4
         · simp only [Option.some.injEq] at h4
           simp only [Prod.mk.injEq] at h5
           obtain ⟨rfl,rfl⟩:=h5
           omega
         · cases h4
       · obtain ⟨p,h1,h2⟩:=Option.map_eq_some_iff.1 (Option.some.inj h)
         have:=cmpO_lt h1
         simp only [Prod.mk.injEq] at h2
         obtain ⟨rfl,rfl⟩:=h2
         simp only [List.length_append,List.length_cons,List.length_nil]
         omega
   · split at h
     · obtain ⟨r,h1,h2⟩:=Option.bind_eq_some_iff.1 h
       cases r with
       | none=>cases h2
       | some p =>
         have:=ih h1
         have:=ih h2
         omega
     · split at h
       · obtain ⟨r,h1,h2⟩:=Option.bind_eq_some_iff.1 h
         cases r with
         | none=>cases h2
         | some p =>
           have:=ih h1
           have:=ih h2
           simp only [List.length_append,List.length_cons,List.length_nil] at this
           omega
       · simp only [Option.some.injEq,Prod.mk.injEq] at h
         obtain ⟨rfl,rfl⟩:=h
         omega
theorem nael1:aElem prog 34=some (89,8,72):=by kernel_rfl
theorem nael2:isSeq prog 34=true:=by kernel_rfl
theorem Gro.pushT {P:Program} {K:AHeap} {lo z by_:Nat} {T Ts:TypeId} {v x:Value} {cl:List (List Value)} {c:List Value} (h:Gro K lo z T v cl) (hT:aElem P Ts=some (T,z,by_)) (hsq:isSeq P Ts=true) (hc:c.length=z) (hlo:lo≤K.length)
  (hx:aSrc K z x=some (1,c)) (hb:(cl.length+1)*by_≤140737488355328) (hn:cl.length+1≤9223372036854775807) :
  ∃ v' K',aBuiltin P K .append #[Ts,Ts] [v,x]=some (v',K')∧Gro K' lo z T v' (cl++[c])∧(∀ b o,b < lo→K[b]?=some o→K'[b]?=some o)∧K.length≤K'.length∧(∀ H,Pre H K→H.length≤lo→Pre H K')∧(∀ (b:Nat) o,K[b]?=some o→(∀ cs,o≠.cells cs T)→K'[b]?=some o):=by
 obtain ⟨v',K',h1,h2,h3,h4,h5⟩:=h.push hT hsq hc hlo hx hb hn
 refine ⟨v',K',h1,h2,h3,h4,h5,fun b o hbo hne=>?_⟩
 cases h with
 | nil =>
   have hb':by_≤140737488355328:=by simpa using hb
   simp [aBuiltin,aAppend,hT,hx,hsq,hb',hc] at h1
   rw [← h1.2];exact get_more hbo
 | mk bb cl g1 g2 g3 g4 =>
   have hfl:=flat_len g4
   have e2:¬ cl.length+1≤cl.length:=by omega
   simp only [aBuiltin,aAppend,hT,hx,hsq,if_true,g2,hfl,Nat.zero_add,Nat.le_refl,and_self,e2,if_false,hb,hn,Option.some.injEq,Prod.mk.injEq] at h1
   rw [← h1.2,List.getElem?_set_ne (by rintro rfl;rw [hbo] at g2;cases g2;exact hne _ rfl)]
   exact hbo
def NL (K:AHeap) (lo:Nat) (v:Value) (ns:List Nod):Prop:=∃ cl,Gro K lo 8 89 v cl∧cl.length=ns.length∧∀ (i:Nat) n,ns[i]?=some n→∃ sv,cl[i]?=some ((n:Nod).cells sv)∧Gro K lo 3 153 sv (n.sel.map Mat.cells)∧n.sel.length≤2 ^ 41
theorem NL.frm {K K' lo v ns} (h:NL K lo v ns) (hf:∀ (b:Nat) o,lo≤b→K[b]?=some o→K'[b]?=some o):NL K' lo v ns:=by
 obtain ⟨cl,h1,h2,h3⟩:=h
 refine ⟨cl,h1.frm hf,h2,fun i n hi=>?_⟩
 obtain ⟨sv,q1,q2,q3⟩:=h3 i n hi
 exact ⟨sv,q1,q2.frm hf,q3⟩
theorem NL.nodes {K lo v ns} (h:NL K lo v ns):NodesAt K v ns:=by
 obtain ⟨cl,h1,h2,h3⟩:=h
 refine ⟨cl,h1.arr,h2,fun i n hi=>?_⟩
 obtain ⟨sv,q1,q2,q3⟩:=h3 i n hi
 exact ⟨sv,q1,q2.arr,by omega⟩
theorem NL.len {K lo v ns} (h:NL K lo v ns) (J:AHeap):aLen prog J 34 v=some (i64 ns.length):=by
 obtain ⟨cl,h1,h2,_⟩:=h
 rw [← h2];exact h1.arr.len' (e:=89) (by simp)
abbrev sP (b:Nat):Value:=.pointer (some ⟨b,0,some 1⟩)
abbrev cndF (rv sb lb:Nat):Value:=.func (.func 33) #[] #[sP rv,sP sb,sP lb]
structure CndS (H K:AHeap) (rb:Nat) (lv:Value) (ts:List Tok) (st:Option Nat) (rv sb lb lo:Nat) (ns:List Nod):Prop where
 rd:RdS H K rb lv ts st
 cr:K[rv]?=some (.cells [rP rb] 61)
 cs:K[sb]?=some (.cells [cndF rv sb lb] 85)
 cl:∃ v,K[lb]?=some (.cells [v] 34)∧NL K lo v ns
 b0:rb < rv
 b1:rv < lb
 b2:lb < sb
 b3:sb < lo
 b4:lo≤K.length
 hH:H.length≤rb
theorem CndS.adv {H K K1 rb lv ts st st' rv sb lb lo ns} (h:CndS H K rb lv ts st rv sb lb lo ns) (g:Adv H K K1 rb lv ts st'):CndS H K1 rb lv ts st' rv sb lb lo ns:=by
 obtain ⟨v,hv1,hv2⟩:=h.cl
 have hb0:=h.b0;have hb1:=h.b1;have hb2:=h.b2;have hb3:=h.b3;have hb4:=h.b4
 exact ⟨g.rd,g.fr _ _ (by omega) h.cr,g.fr _ _ (by omega) h.cs,⟨v,g.fr _ _ (by omega) hv1,hv2.frm fun b o hb ho=>g.fr b o (by omega) ho⟩,hb0,hb1,hb2,hb3,Nat.le_trans hb4 g.len,h.hH⟩
theorem CndS.push {H K rb lv ts st rv sb lb lo ns} (h:CndS H K rb lv ts st rv sb lb lo ns) (n:Nod) (sv:Value) (hsv:Gro K lo 3 153 sv (n.sel.map Mat.cells)) (hsl:n.sel.length≤2 ^ 41) (hns:ns.length+1≤2 ^ 30) {v:Value} (hv:K[lb]?=some (.cells [v] 34)) :
  ∃ v' K2, aBuiltin prog (K ++ [AObj.cells (n.cells sv) 89]) .append #[34, 34] [v, .slice (some ⟨K.length, 0, some 8⟩) 1 1] = some (v', K2) ∧
    aStore prog K2 34 (sP lb) v'=some (K2.set lb (.cells [v'] 34))∧CndS H (K2.set lb (.cells [v'] 34)) rb lv ts st rv sb lb lo (ns++[n]):=by
 obtain ⟨v0,hv1,hv2⟩:=h.cl
 rw [hv] at hv1
 cases hv1
 obtain ⟨cl,hg,hcl,hall⟩:=hv2
 have hb0:=h.b0;have hb1:=h.b1;have hb2:=h.b2;have hb3:=h.b3;have hb4:=h.b4;have hH:=h.hH
 obtain ⟨v',K2,q1,q2,q3,q4,q5,q6⟩:=Gro.pushT (P:=prog) (Ts:=34) (by_:=72) (x:=.slice (some ⟨K.length,0,some 8⟩) 1 1) (c:=n.cells sv) (hg.app (X:=[AObj.cells (n.cells sv) 89])) nael1 nael2 (by rfl) (by simp;omega) (by simp [aSrc,Nod.cells]) (by omega) (by omega)
 have hcl2:=q3 lb _ (by omega) (get_more hv)
 have hget:∀ (b:Nat) o,b < lo→b≠lb→K[b]?=some o→(K2.set lb (.cells [v'] 34))[b]?=some o:=fun b o h1 h2 ho=>by
  rw [List.getElem?_set_ne (fun e=>h2 e.symm)];exact q3 _ _ h1 (get_more ho)
 have hmat:∀ {sv ms},Gro K lo 3 153 sv ms→Gro (K2.set lb (.cells [v'] 34)) lo 3 153 sv ms:=by
  intro sv ms hg
  cases hg with
  | nil=>exact .nil
  | mk bb ms h1 h2 h3 h4=>exact .mk bb ms h1 (by rw [List.getElem?_set_ne (by omega)];exact q6 _ _ (get_more h2) (by simp)) h3 h4
 refine ⟨v',K2,q1,by simp [hcl2,q2.cells,q2.stor],⟨h.rd.frame ((q5 H (h.rd.pre.more _) (by omega)).set (by omega)) fun o ho=>hget _ _ (by omega) (by omega) ho,hget _ _ (by omega) (by omega) h.cr,hget _ _ (by omega) (by omega) h.cs,⟨v',?_,cl++[n.cells sv],q2.set (by omega),by simp [hcl],?_⟩,hb0,hb1,hb2,hb3,?_,hH⟩⟩
 · rw [List.getElem?_set_self (by simp at q4;omega)]
 · intro i m hi
   rcases Nat.lt_or_ge i ns.length with hlt | hge
   · rw [List.getElem?_append_left hlt] at hi
     obtain ⟨sv',e1,e2,e3⟩:=hall i m hi
     exact ⟨sv',by rw [List.getElem?_append_left (by omega)];exact e1,hmat e2,e3⟩
   · rw [List.getElem?_append_right hge] at hi
     have hi0:i-ns.length=0:=by
      have:=(List.getElem?_eq_some_iff.1 hi).1;simp at this;omega
     rw [hi0] at hi
     simp at hi
     subst hi
     exact ⟨sv,by rw [List.getElem?_append_right (by omega),hcl,hi0];rfl,hmat hsv,hsl⟩
 · simp at q4 ⊢;omega
theorem nodLit {K:AHeap} (n:Nod) {sv:Value} (hs:sv.oneCell'=true):sliceLit prog K 34 1 [(0,.agg (n.cells sv).toArray)] (.slice (some ⟨K.length,0,some 8⟩) 1 1) (K++[.cells (n.cells sv) 89]) :=
 sliceLitA (c:=n.cells sv) (tbs34 K 1 _) (by rfl) (by simp [Nod.cells,hs]) (by simp)
def OutS (H K':AHeap) (rb:Nat) (lv:Value) (ts:List Tok) (rv sb lb lo B:Nat):Option (List Nod × Nat)→Prop
 | some p=>CndS H K' rb lv ts (some p.2) rv sb lb lo p.1
 | none=>∃ l',CndS H K' rb lv ts none rv sb lb lo l'∧l'.length≤B
abbrev CndC (H K:AHeap) (rb:Nat) (lv:Value) (ts:List Tok) (rv sb lb lo B:Nat) (r:Option (List Nod × Nat)) (m:Nat):Prop :=
 ∃ K',ACalls prog 33 [i64 m,sP rv,sP sb,sP lb] K (.tuple #[]) K'∧OutS H K' rb lv ts rv sb lb lo B r
abbrev CndL (H K:AHeap) (rb:Nat) (lv:Value) (ts:List Tok) (rv sb lb lo B:Nat) (r:Option (List Nod × Nat)) (k:Nat):Prop :=
 ∃ K', OutS H K' rb lv ts rv sb lb lo B r ∧ ∀ (kk : Value → AHeap → Prop), kk (.tuple #[]) K' → ∃ n, ∀ (s4 s7 s8 s9 a b c d e f g h i j l m o p q s t u v w x y z A C D E F G I J L M N O P Q R S T U V W X Y Z aa ab ac : Value),
   L33x0 n kk [i64 k,sP rv,sP sb,sP lb,s4,str (wordO k),byt (kindK k),s7,s8,s9,a,b,c,d,e,f,g,h,i,j,l,m,o,p,q,s,t,u,v,w,x,y,z,A,C,D,E,F,G,I,J,L,M,N,O,P,Q,R,S,T,U,V,W,X,Y,Z,aa,ab,ac] K
theorem cndC_of {H K rb lv ts rv sb lb lo B r} {m:Nat} (h:∃ v K',(v=.tuple #[]∧OutS H K' rb lv ts rv sb lb lo B r)∧ACalls prog 33 [i64 m,sP rv,sP sb,sP lb] K v K'):CndC H K rb lv ts rv sb lb lo B r m:=by
 obtain ⟨v,K',⟨rfl,h⟩,hy⟩:=h
 exact ⟨K',hy,h⟩
theorem str_cmp {H K rb lv ts a rv sb lb lo ns} (hg:Pre Gs H) (hn:NumTok ts) (h:CndS H K rb lv ts (some a) rv sb lb lo ns) (hns:ns.length+1≤2 ^ 30) (h1:isT ts a 1 notS=false) (h2:isT ts a 4 [40]=false) :
  CndC H K rb lv ts rv sb lb lo (ns.length+(ts.length-a)+1) ((cmpO ts a).map fun p=>(ns++[p.1],p.2)) 2:=by
 refine cndC_of ?_
 refine acallsKex MixT func33 (by decide) ?_
 rw [d33]
 obtain ⟨v,hv1,hv2⟩:=h.cl
 have hcr:hcells K rv=some [rP rb]:=by rw [hcells_eq,h.cr];rfl
 have hcl:hcells K lb=some [v]:=by rw [hcells_eq,hv1];rfl
 have hrd:RdA H K rb lv ts a true:=h.rd
 simp [hcr]
 refine bndC_of (c_takes_n hrd (k:=1) (s:=notS) (by simp [h1])) ?_
 simp [hcr]
 refine bndC_of (c_takes_n hrd (k:=4) (s:=[40]) (by simp [h2])) ?_
 simp [hcr,hcl]
 obtain ⟨n,sv,K1,g1,g2,g3,g4,g5⟩:=g_comparison hg hn h.rd
 have c1:=h.adv g2
 have hb0:=h.b0;have hb1:=h.b1;have hb4:=h.b4
 have hcl1:K1[lb]?=some (.cells [v] 34):=g2.fr _ _ (by omega) hv1
 have hcc1:hcells K1 lb=some [v]:=by rw [hcells_eq,hcl1];rfl
 refine bndK_of g1 ⟨by simp [hcc1],trivial⟩ ?_
 obtain ⟨v',K2,q1,q2,q3⟩:=c1.push n sv (g3.weak hb4) g5 hns hcl1
 refine bndK_ext (nodLit n g3.one) ⟨_,rfl⟩ ?_
 refine bndK_bar q1 ?_
 refine bndK_bar ⟨rfl,q2⟩ ?_
 refine ⟨rfl,?_⟩
 simp only [Option.bind_some] at q3 g4
 cases hc:cmpO ts a with
 | none=>rw [hc] at q3;exact ⟨ns++[n],q3,by simp only [List.length_append,List.length_cons,List.length_nil];omega⟩
 | some p =>
   have e:=g4 p hc
   rw [hc] at q3
   subst e
   exact q3
theorem str_neg {H K rb lv ts a rv sb lb lo} {l:List Nod} {r:Option (List Nod × Nat)} (h1:isT ts a 1 notS=true) (ih:∀ {K},CndS H K rb lv ts (some (a+1)) rv sb lb lo l→CndC H K rb lv ts rv sb lb lo (l.length+(ts.length-(a+1))+1) r 2)
  (h:CndS H K rb lv ts (some a) rv sb lb lo l) (hl:l.length+ts.length≤2 ^ 29+a) (hr:∀ p,r=some p→p.1.length+(a+1)≤l.length+p.2) :
  CndC H K rb lv ts rv sb lb lo (l.length+(ts.length-a)+1) (r.map fun p=>(p.1++[opN 3 ((p.1.length:Int)-1) 0],p.2)) 2:=by
 refine cndC_of ?_
 refine acallsKex MixT func33 (by decide) ?_
 rw [d33]
 have hcr:hcells K rv=some [rP rb]:=by rw [hcells_eq,h.cr];rfl
 have hrd:RdA H K rb lv ts a true:=h.rd
 simp [hcr]
 refine bndC_of (c_takes_y hrd (k:=1) (s:=notS) h1) ?_
 have hlt:=isT_lt h1
 have hst:=h.adv (.setT hrd (a+1) (by omega))
 generalize K.set rb (rdo lv (a+1) true)=K1 at hst ⊢
 have hcs:hcells K1 sb=some [cndF rv sb lb]:=by rw [hcells_eq,hst.cs];rfl
 simp [hcs]
 obtain ⟨K2,g1,g2⟩:=ih hst
 refine bndV_func (by simpa using g1) ?_
 have go:∀ {st:Option Nat} {l':List Nod},CndS H K2 rb lv ts st rv sb lb lo l'→l'.length+1≤2 ^ 30→(∀ K3,CndS H K3 rb lv ts st rv sb lb lo (l'++[opN 3 ((l'.length:Int)-1) 0])→OutS H K3 rb lv ts rv sb lb lo (l.length+(ts.length-a)+1) (r.map fun p=>(p.1++[opN 3 ((p.1.length:Int)-1) 0],p.2))) →
   ∀ (q:QH),q=q→True:=fun _ _ _ _ _=>trivial
 clear go
 obtain ⟨st,l',hcs2,hlen',hout⟩:∃ (st:Option Nat) (l':List Nod),CndS H K2 rb lv ts st rv sb lb lo l'∧l'.length+1≤2 ^ 30∧∀ K3,CndS H K3 rb lv ts st rv sb lb lo (l'++[opN 3 ((l'.length:Int)-1) 0])→OutS H K3 rb lv ts rv sb lb lo (l.length+(ts.length-a)+1) (r.map fun p=>(p.1++[opN 3 ((p.1.length:Int)-1) 0],p.2)):=by
  cases r with
  | none =>
    obtain ⟨l',e1,e2⟩:=g2
    exact ⟨none,l',e1,by omega,fun K3 h3=>⟨_,h3,by simp;omega⟩⟩
  | some p =>
    have g2':CndS H K2 rb lv ts (some p.2) rv sb lb lo p.1:=g2
    have:=hr p rfl
    have:=g2'.rd.le
    exact ⟨some p.2,p.1,g2',by omega,fun K3 h3=>h3⟩
 obtain ⟨v,hv1,hv2⟩:=hcs2.cl
 have hcl:hcells K2 lb=some [v]:=by rw [hcells_eq,hv1];rfl
 have hlen:=fun J=>hv2.len J
 have hw:IntKind.i64.wrap ((l'.length:Int)-1)=(l'.length:Int)-1:=wrap_i64 (by omega) (by omega)
 simp [hcl,hlen,hw]
 obtain ⟨v',K3,q1,q2,q3⟩:=hcs2.push (opN 3 ((l'.length:Int)-1) 0) (.slice none 0 0) .nil (by simp [opN]) hlen' hv1
 refine bndL_lit (nodLit (opN 3 ((l'.length:Int)-1) 0) rfl) ?_
 dsimp only
 rw [q1]
 simp only [bndE_some,q2,bndS_some]
 exact ⟨by trivial,hout _ q3⟩
theorem str_par {H K rb lv ts a rv sb lb lo} {l:List Nod} {r:Option (List Nod × Nat)} (h0:isT ts a 1 notS=false) (h1:isT ts a 4 [40]=true) (ih:∀ {K},CndS H K rb lv ts (some (a+1)) rv sb lb lo l→CndC H K rb lv ts rv sb lb lo (l.length+(ts.length-(a+1))+1) r 0)
  (h:CndS H K rb lv ts (some a) rv sb lb lo l) (hr:∀ p,r=some p→p.1.length+(a+1)≤l.length+p.2) :
  CndC H K rb lv ts rv sb lb lo (l.length+(ts.length-a)+1) (r.bind fun p=>(signO ts [41] p.2).map fun c=>(p.1,c)) 2:=by
 refine cndC_of ?_
 refine acallsKex MixT func33 (by decide) ?_
 rw [d33]
 have hcr:hcells K rv=some [rP rb]:=by rw [hcells_eq,h.cr];rfl
 have hrd:RdA H K rb lv ts a true:=h.rd
 simp [hcr]
 refine bndC_of (c_takes_n hrd (k:=1) (s:=notS) (by simp [h0])) ?_
 simp [hcr]
 refine bndC_of (c_takes_y hrd (k:=4) (s:=[40]) h1) ?_
 have hlt:=isT_lt h1
 have hst:=h.adv (.setT hrd (a+1) (by omega))
 generalize K.set rb (rdo lv (a+1) true)=K1 at hst ⊢
 have hcs:hcells K1 sb=some [cndF rv sb lb]:=by rw [hcells_eq,hst.cs];rfl
 simp [hcs]
 obtain ⟨K2,g1,g2⟩:=ih hst
 refine bndV_func (by simpa using g1) ?_
 cases r with
 | none =>
   obtain ⟨l',e1,e2⟩:=g2
   have hcr2:hcells K2 rv=some [rP rb]:=by rw [hcells_eq,e1.cr];rfl
   simp [hcr2]
   obtain ⟨K3,s1,s2⟩:=g_sign e1.rd [41]
   exact bndC_of s1 ⟨rfl,l',e1.adv s2,by omega⟩
 | some p =>
   have g2':CndS H K2 rb lv ts (some p.2) rv sb lb lo p.1:=g2
   have hcr2:hcells K2 rv=some [rP rb]:=by rw [hcells_eq,g2'.cr];rfl
   simp [hcr2]
   obtain ⟨K3,s1,s2⟩:=g_sign g2'.rd [41]
   have c3:=g2'.adv s2
   have:=hr p rfl
   have:=g2'.rd.le
   refine bndC_of s1 ⟨rfl,?_⟩
   simp only [Option.bind_some] at c3 ⊢
   cases hs:signO ts [41] p.2 with
   | none=>rw [hs] at c3;exact ⟨p.1,c3,by omega⟩
   | some c=>rw [hs] at c3;exact c3
theorem str_done {H K rb lv ts st rv sb lb lo B} {l:List Nod} {k:Nat} {r:Option (List Nod × Nat)} (h1:(st.any fun b=>isT ts b 1 (wordO k))=false) (h:CndS H K rb lv ts st rv sb lb lo l) (hout:OutS H K rb lv ts rv sb lb lo B r):CndL H K rb lv ts rv sb lb lo B r k:=by
 refine ⟨K,hout,fun kk hk=>⟨1,?_⟩⟩
 intro s4 s7 s8 s9 c d e f g i j m n o p q s t u v w x y z A C D E F G I J L M N O P Q R S T U V W X Y Z aa ab ac ad ae af
 rw [L33x0q]
 have hcr:hcells K rv=some [rP rb]:=by rw [hcells_eq,h.cr];rfl
 simp [hcr]
 have hcall:ACalls prog 34 [rP rb,.int .u8 1,str (wordO k)] K (.bool false) K:=by
  have hrd:=h.rd
  cases st with
  | none=>obtain ⟨a,hrd⟩:=hrd;exact c_takes_n hrd rfl
  | some b=>exact c_takes_n (ok:=true) hrd (by simpa using h1)
 refine bndC_of hcall ?_
 simp
 exact hk
theorem str_more {H K rb lv ts b rv sb lb lo} {l:List Nod} {r r':Option (List Nod × Nat)} {k:Nat} (hk2:k < 2) (h1:isT ts b 1 (wordO k)=true)
  (ih1:∀ {K},CndS H K rb lv ts (some (b+1)) rv sb lb lo l→CndC H K rb lv ts rv sb lb lo (l.length+(ts.length-(b+1))+1) r (k+1)) (hl:l.length+ts.length≤2 ^ 29+b) (hr:∀ p,r=some p→p.1.length+(b+1)≤l.length+p.2)
  (hr0:r=none→r'=none)
  (ih2:∀ p,r=some p→∀ {K},CndS H K rb lv ts (some p.2) rv sb lb lo (p.1++[opN (kindK k) ((l.length:Int)-1) ((p.1.length:Int)-1)])→CndL H K rb lv ts rv sb lb lo (l.length+(ts.length-b)+1) r' k)
  (h:CndS H K rb lv ts (some b) rv sb lb lo l):CndL H K rb lv ts rv sb lb lo (l.length+(ts.length-b)+1) r' k:=by
 have hlt:=isT_lt h1
 have hrd:RdA H K rb lv ts b true:=h.rd
 have hst:=h.adv (.setT hrd (b+1) (by omega))
 generalize hK1:K.set rb (rdo lv (b+1) true)=K1 at hst
 obtain ⟨K2,g1,g2⟩:=ih1 hst
 obtain ⟨st,l',hcs2,hlen',hnext⟩:∃ (st:Option Nat) (l':List Nod),CndS H K2 rb lv ts st rv sb lb lo l'∧l'.length+1≤2 ^ 30∧∀ K3,CndS H K3 rb lv ts st rv sb lb lo (l'++[opN (kindK k) ((l.length:Int)-1) ((l'.length:Int)-1)])→CndL H K3 rb lv ts rv sb lb lo (l.length+(ts.length-b)+1) r' k:=by
  cases r with
  | none =>
    obtain ⟨l',e1,e2⟩:=g2
    refine ⟨none,l',e1,by omega,fun K3 h3=>str_done rfl h3 ?_⟩
    rw [hr0 rfl]
    exact ⟨_,h3,by simp only [List.length_append,List.length_cons,List.length_nil];omega⟩
  | some p =>
    have g2':CndS H K2 rb lv ts (some p.2) rv sb lb lo p.1:=g2
    have:=hr p rfl
    have:=g2'.rd.le
    exact ⟨some p.2,p.1,g2',by omega,fun K3 h3=>ih2 p rfl h3⟩
 obtain ⟨v,hv1,hv2⟩:=hcs2.cl
 obtain ⟨v',K3,q1,q2,q3⟩:=hcs2.push (opN (kindK k) ((l.length:Int)-1) ((l'.length:Int)-1)) (.slice none 0 0) .nil (by simp [opN]) hlen' hv1
 obtain ⟨K4,r1,r2⟩:=hnext _ q3
 refine ⟨K4,r1,fun kk hk=>?_⟩
 obtain ⟨n,hn⟩:=r2 kk hk
 refine ⟨n+1,?_⟩
 intro s4 s7 s8 s9 a c d e f g i j m o q s t u w x y z A B C D E F G I L M N O P Q R S T U V W X Y Z aa ab ac ad ae af ag ah
 rw [L33x0q]
 have hcr:hcells K rv=some [rP rb]:=by rw [hcells_eq,h.cr];rfl
 simp [hcr]
 refine bndC_of (c_takes_y hrd h1) ?_
 rw [hK1]
 obtain ⟨v0,hu1,hu2⟩:=hst.cl
 have hcl0:hcells K1 lb=some [v0]:=by rw [hcells_eq,hu1];rfl
 have hlen0:=fun J=>hu2.len J
 have hcs:hcells K1 sb=some [cndF rv sb lb]:=by rw [hcells_eq,hst.cs];rfl
 have hw0:IntKind.i64.wrap ((l.length:Int)-1)=(l.length:Int)-1:=wrap_i64 (by omega) (by omega)
 have hwk:IntKind.i64.wrap ((k:Int)+1)=(k:Int)+1:=wrap_i64 (by omega) (by omega)
 simp [hcl0,hlen0,hw0,hcs,hwk]
 refine bndV_func (by simpa using g1) ?_
 have hcl:hcells K2 lb=some [v]:=by rw [hcells_eq,hv1];rfl
 have hlen:=fun J=>hv2.len J
 have hw:IntKind.i64.wrap ((l'.length:Int)-1)=(l'.length:Int)-1:=wrap_i64 (by omega) (by omega)
 simp [hcl,hlen,hw]
 have hlit:=nodLit (K:=K2) (opN (kindK k) ((l.length:Int)-1) ((l'.length:Int)-1)) (sv:=.slice none 0 0) rfl
 have hnod:(opN (kindK k) ((l.length:Int)-1) ((l'.length:Int)-1)).cells (.slice none 0 0)=[byt (kindK k),.int .u8 0,.slice none 0 0,i64 0,.int .u8 0,i64 0,i64 ((l.length:Int)-1),i64 ((l'.length:Int)-1)]:=rfl
 rw [hnod] at hlit q1
 refine bndL_lit hlit ?_
 dsimp only
 rw [q1]
 simp only [bndE_some,q2,bndS_some]
 exact hn _ _ _ _ _ _ _ _ _ _ _ _ _ _ _ _ _ _ _ _ _ _ _ _ _ _ _ _ _ _ _ _ _ _ _ _ _ _ _ _ _ _ _ _ _ _ _ _ _ _ _ _ _
theorem g_str {H rb lv ts rv sb lb lo} (hg:Pre Gs H) (hnt:NumTok ts):∀ (f m a:Nat) (l:List Nod) (r:Option (List Nod × Nat)),strO ts f m a l=some r→l.length+ts.length≤2 ^ 29+a→∀ {K},CndS H K rb lv ts (some a) rv sb lb lo l →
  (m≤2→CndC H K rb lv ts rv sb lb lo (l.length+(ts.length-a)+1) r m)∧(∀ k,m=k+10→k < 2→CndL H K rb lv ts rv sb lb lo (l.length+(ts.length-a)+1) r k):=by
 intro f
 induction f with
 | zero=>intro m a l r h;cases h
 | succ f ih =>
   intro m a l r hs hl K h
   have hale:=h.rd.le
   have hbnd:∀ {m a l r},strO ts f m a l=some r→∀ p,r=some p→p.1.length+a≤l.length+p.2:=fun h p hp=>by subst hp;have:=strO_len f h;omega
   have hmon:∀ {m a l r},strO ts f m a l=some r→∀ p,r=some p→a≤p.2∧l.length≤p.1.length:=fun h p hp=>by subst hp;have:=strO_len f h;omega
   simp only [strO] at hs
   split at hs
   · rename_i hm2
     subst hm2
     refine ⟨fun _=>?_,fun k hk=>by omega⟩
     split at hs
     · rename_i hnot
       obtain ⟨r1,e1,rfl⟩:=Option.map_eq_some_iff.1 hs
       exact str_neg hnot (fun {K} hK=>(ih _ _ _ _ e1 (by omega) hK).1 (by omega)) h hl (hbnd e1)
     · rename_i hnot
       have hnot:isT ts a 1 notS=false:=by simpa using hnot
       split at hs
       · rename_i hpar
         obtain ⟨r1,e1,rfl⟩:=Option.map_eq_some_iff.1 hs
         exact str_par hnot hpar (fun {K} hK=>(ih _ _ _ _ e1 (by omega) hK).1 (by omega)) h (hbnd e1)
       · rename_i hpar
         rw [← Option.some.inj hs]
         exact str_cmp hg hnt h (by omega) hnot (by simpa using hpar)
   · rename_i hm2
     split at hs
     · rename_i hm
       refine ⟨fun _=>?_,fun k hk=>by omega⟩
       obtain ⟨r1,e1,e2⟩:=Option.bind_eq_some_iff.1 hs
       obtain ⟨K1,g1,g2⟩:=(ih _ _ _ _ e1 hl h).1 (by omega)
       have hloop:CndL H K1 rb lv ts rv sb lb lo (l.length+(ts.length-a)+1) r m:=by
        cases r1 with
        | none =>
          obtain ⟨l',c1,c2⟩:=g2
          rw [← Option.some.inj e2]
          exact str_done rfl c1 ⟨l',c1,c2⟩
        | some p =>
          have g2':CndS H K1 rb lv ts (some p.2) rv sb lb lo p.1:=g2
          have b1:=hbnd e1 p rfl
          have b2:=hmon e1 p rfl
          have hp2:=g2'.rd.le
          obtain ⟨K2,c1,c2⟩:=(ih _ _ _ _ e2 (by omega) g2').2 m rfl hm
          refine ⟨K2,?_,c2⟩
          cases r with
          | none=>obtain ⟨l',d1,d2⟩:=c1;exact ⟨l',d1,by omega⟩
          | some q=>exact c1
       refine cndC_of ?_
       refine acallsKex MixT func33 (by decide) ?_
       rw [d33]
       have hcs:hcells K sb=some [cndF rv sb lb]:=by rw [hcells_eq,h.cs];rfl
       have hwk:IntKind.i64.wrap ((m:Int)+1)=(m:Int)+1:=wrap_i64 (by omega) (by omega)
       obtain ⟨K2,r1',r2⟩:=hloop
       obtain ⟨n,hn⟩:=r2 (fun v K'=>v=.tuple #[]∧OutS H K' rb lv ts rv sb lb lo (l.length+(ts.length-a)+1) r) ⟨rfl,r1'⟩
       have h2:((m:Int) == 2)=false:=by simp;omega
       simp [h2]
       have fin:∀ (s4 s7 s8 s9 b c d g i j o s t u w x y z A B C D E F G I J L M N O P Q R S T U V W X Y Z aa ab ac ad ae af ag ah ai aj ak:Value),S33x0 (fun v K'=>v=.tuple #[]∧OutS H K' rb lv ts rv sb lb lo (l.length+(ts.length-a)+1) r) [i64 m,sP rv,sP sb,sP lb,s4,str (wordO m),byt (kindK m),s7,s8,s9,b,c,d,g,i,j,o,s,t,u,w,x,y,z,A,B,C,D,E,F,G,I,J,L,M,N,O,P,Q,R,S,T,U,V,W,X,Y,Z,aa,ab,ac,ad,ae,af,ag,ah,ai,aj,ak] K:=by
        intro s4 s7 s8 s9 b c d g i j o s t u w x y z A B C D E F G I J L M N O P Q R S T U V W X Y Z aa ab ac ad ae af ag ah ai aj ak
        rw [S33x0q]
        simp [hcs,hwk]
        refine bndV_func (by simpa using g1) ?_
        exact ⟨n,hn _ _ _ _ _ _ _ _ _ _ _ _ _ _ _ _ _ _ _ _ _ _ _ _ _ _ _ _ _ _ _ _ _ _ _ _ _ _ _ _ _ _ _ _ _ _ _ _ _ _ _ _ _⟩
       refine kifB_bool (fun hq=>?_) (fun hq=>?_)
       · obtain rfl:m=1:=by simp at hq;omega
         exact fin _ _ _ _ _ _ _ _ _ _ _ _ _ _ _ _ _ _ _ _ _ _ _ _ _ _ _ _ _ _ _ _ _ _ _ _ _ _ _ _ _ _ _ _ _ _ _ _ _ _ _ _ _
       · obtain rfl:m=0:=by simp at hq;omega
         exact fin _ _ _ _ _ _ _ _ _ _ _ _ _ _ _ _ _ _ _ _ _ _ _ _ _ _ _ _ _ _ _ _ _ _ _ _ _ _ _ _ _ _ _ _ _ _ _ _ _ _ _ _ _
     · rename_i hm
       refine ⟨fun _=>by omega,fun k hk hk2=>?_⟩
       subst hk
       rw [Nat.add_sub_cancel] at hs
       split at hs
       · rename_i hw
         obtain ⟨r1,e1,e2⟩:=Option.bind_eq_some_iff.1 hs
         have hlt:=isT_lt hw
         refine str_more hk2 hw (fun {K} hK=>(ih _ _ _ _ e1 (by omega) hK).1 (by omega)) hl (hbnd e1) (fun e=>by subst e;exact (Option.some.inj e2).symm) (fun p hp {K'} hK'=>?_) h
         subst hp
         have b1:=hbnd e1 p rfl
         have b2:=hmon e1 p rfl
         have hp2:=hK'.rd.le
         obtain ⟨K2,c1,c2⟩:=(ih _ _ _ _ e2 (by simp only [List.length_append,List.length_cons,List.length_nil];omega) hK').2 k rfl hk2
         refine ⟨K2,?_,c2⟩
         cases r with
         | none=>obtain ⟨l',d1,d2⟩:=c1;exact ⟨l',d1,by simp only [List.length_append,List.length_cons,List.length_nil] at d2;omega⟩
         | some q=>exact c1
       · rename_i hw
         rw [← Option.some.inj hs]
         exact str_done (by simpa using hw) h h
end Go.Vi
namespace Go.Vi
open Go Go.Proofs Go.Proofs.Tryz
theorem strO_tot {ts:List Tok}:∀ (f m a:Nat) (l:List Nod),(m≤2∨m=10∨m=11)→4*(ts.length-a)+(if m≤2 then 3-m else 1)≤f→∃ r,strO ts f m a l=some r:=by
 intro f
 induction f with
 | zero=>intro m a l hm h;split at h<;>omega
 | succ f ih =>
   intro m a l hm h
   simp only [strO]
   split
   · rename_i h2
     subst h2
     rw [if_pos (by omega)] at h
     split
     · rename_i hT
       have:=isT_lt hT
       obtain ⟨r,hr⟩:=ih 2 (a+1) l (by omega) (by simp;omega)
       exact ⟨_,by rw [hr];rfl⟩
     · split
       · rename_i hT
         have:=isT_lt hT
         obtain ⟨r,hr⟩:=ih 0 (a+1) l (by omega) (by simp;omega)
         exact ⟨_,by rw [hr];rfl⟩
       · exact ⟨_,rfl⟩
   · split
     · rename_i hm2
       rw [if_pos (by omega)] at h
       obtain ⟨r,hr⟩:=ih (m+1) a l (by omega) (by rw [if_pos (by omega)];omega)
       rw [hr]
       cases r with
       | none=>exact ⟨none,rfl⟩
       | some p =>
         have:=strO_len f hr
         exact ih (m+10) p.2 p.1 (by omega) (by rw [if_neg (by omega)];omega)
     · split
       · rename_i hT
         have:=isT_lt hT
         rw [if_neg (by omega)] at h
         obtain ⟨r,hr⟩:=ih (m-10+1) (a+1) l (by omega) (by rw [if_pos (by omega)];omega)
         rw [hr]
         cases r with
         | none=>exact ⟨none,rfl⟩
         | some p =>
           have:=strO_len f hr
           exact ih m p.2 _ hm (by rw [if_neg (by omega)];omega)
       · exact ⟨_,rfl⟩
def conO (ts:List Tok) (a:Nat):Option (List Nod × Nat):=(strO ts (4*ts.length+3) 0 a []).getD none
theorem conO_str (ts:List Tok) (a:Nat):strO ts (4*ts.length+3) 0 a []=some (conO ts a):=by
 obtain ⟨r,hr⟩:=strO_tot (ts:=ts) (4*ts.length+3) 0 a [] (by omega) (by simp;omega)
 unfold conO
 rw [hr];rfl
theorem g_condition {H K rb lv ts a} (hg:Pre Gs H) (hn:NumTok ts) (htl:ts.length≤2 ^ 20) (h:RdS H K rb lv ts (some a)) :
  ∃ v K',ACalls prog 21 [rP rb] K v K'∧RdS H K' rb lv ts ((conO ts a).map (·.2))∧∃ ns,NL K' (K.length+3) v ns∧ns.length≤2 ^ 21∧∀ p,conO ts a=some p→p.1=ns:=by
 have key:∃ v K',(RdS H K' rb lv ts ((conO ts a).map (·.2))∧∃ ns,NL K' (K.length+3) v ns∧ns.length≤2 ^ 21∧∀ p,conO ts a=some p→p.1=ns)∧ACalls prog 21 [rP rb] K v K':=by
  refine acalls_ex MixT func21 (by decide) ?_
  rw [d21]
  have hrb:=h.lt
  have hrd:RdA H K rb lv ts a true:=h
  have st:CndS H (K++[AObj.cells [rP rb] 61,AObj.cells [.slice none 0 0] 34,AObj.cells [cndF K.length (K.length+2) (K.length+1)] 85]) rb lv ts (some a) K.length (K.length+2) (K.length+1) (K.length+3) [] :=
   ⟨h.app _,by simp,by simp,⟨.slice none 0 0,by simp,[],.nil,rfl,by simp⟩,hrb,by omega,by omega,by omega,by simp,hrd.hb⟩
  obtain ⟨K1,g1,g2⟩:=(g_str hg hn _ 0 a [] _ (conO_str ts a) (by simp;omega) st).1 (by omega)
  simp [aNew]
  refine bndV_func (by simpa using g1) ?_
  have hle:=h.le
  obtain ⟨st',ns,c1,c2,c3,c4⟩:∃ (st':Option Nat) (ns:List Nod),CndS H K1 rb lv ts st' K.length (K.length+2) (K.length+1) (K.length+3) ns∧st'=(conO ts a).map (·.2)∧ns.length≤2 ^ 21∧∀ p,conO ts a=some p→p.1=ns:=by
   have hlen:=fun l' b (hq:conO ts a=some (l',b))=>strO_len (ts:=ts) (4*ts.length+3) (m:=0) (a:=a) (l:=[]) (l':=l') (b:=b) (by rw [conO_str,hq])
   cases hc:conO ts a with
   | none=>rw [hc] at g2;obtain ⟨l',e1,e2⟩:=g2;exact ⟨none,l',e1,rfl,by simp at e2;omega,by simp⟩
   | some p =>
     rw [hc] at g2
     have g2':CndS H K1 rb lv ts (some p.2) K.length (K.length+2) (K.length+1) (K.length+3) p.1:=g2
     have q1:=hlen p.1 p.2 hc
     have q2:=g2'.rd.le
     simp only [List.length_nil] at q1
     exact ⟨some p.2,p.1,g2',rfl,by omega,fun q hq=>by cases hq;rfl⟩
  obtain ⟨v,hv1,hv2⟩:=c1.cl
  have hcl:hcells K1 (K.length+1)=some [v]:=by rw [hcells_eq,hv1];rfl
  simp [hcl]
  refine ⟨by rw [← c2];exact c1.rd,ns,hv2,c3,fun l b hq=>c4 (l,b) hq⟩
 obtain ⟨v,K',h,hy⟩:=key
 exact ⟨v,K',hy,h⟩
theorem arr_cell {H z v l} (h:Arr H z v l):v.cells = #[v]∧storable v=true:=by cases h<;>exact ⟨rfl,rfl⟩
def readF (ts:List Tok) (at':Int):List Nod × Int × Int:=if at' < 0∨at' ≥ ts.length then ([],0,100) else match conO ts at'.toNat with
 | none=>([],0,100)
 | some p=>if (p.1.length:Int) > 31 then ([],0,4) else (p.1,p.2,0)
theorem NodesAt.nil {H:AHeap}:NodesAt H (.slice none 0 0) []:=⟨[],.nil,rfl,fun i n h=>by simp at h⟩
theorem g_read {H lv ts} {at':Int} (hg:Pre Gs H) (hn:NumTok ts) (htl:ts.length≤2 ^ 20) (hts:ToksAt H lv ts) :
  ∃ v K',ACalls prog 20 [lv,i64 at'] H (.tuple #[v,i64 (readF ts at').2.1,i64 (readF ts at').2.2]) K'∧Pre H K'∧NodesAt K' v (readF ts at').1∧((readF ts at').2.2≠0→v=.slice none 0 0):=by
 have key:∃ v K',(∃ u,v=.tuple #[u,i64 (readF ts at').2.1,i64 (readF ts at').2.2]∧Pre H K'∧NodesAt K' u (readF ts at').1∧((readF ts at').2.2≠0→u=.slice none 0 0))∧ACalls prog 20 [lv,i64 at'] H v K':=by
  refine acalls_ex MixT func20 (by decide) ?_
  rw [d20]
  have hl0:=hts.len (P:=prog) (T:=56) (e:=84) (by simp)
  simp at hl0
  by_cases h0:at' < 0
  · simp [h0,readF]
    exact ⟨.refl _,.nil⟩
  by_cases h1:at' ≥ ts.length
  · have h1':(ts.length:Int)≤at':=h1
    simp [h0,hl0,h1',readF]
    exact ⟨.refl _,.nil⟩
  have h1':¬ (ts.length:Int)≤at':=h1
  have hat:((at'.toNat:Nat):Int)=at':=by omega
  have hrd:RdA H (H++[rdo lv at'.toNat true]) H.length lv ts at'.toNat true:=⟨hts,.app _ _,Nat.le_refl _,by simp,by omega,by omega⟩
  obtain ⟨v,K1,g1,g2,ns,g3,g4,g5⟩:=g_condition hg hn htl (a:=at'.toNat) hrd
  have hb1:=Arr.one hts
  obtain ⟨hb2,hb3⟩:=arr_cell hts
  simp only [rdo,hat] at g1
  simp [h0,hl0,h1',aNew,hb1,hb2,hb3]
  refine bndC_of g1 ?_
  have hpre:=g2.pre
  obtain ⟨a1,c1,c2,c3,_⟩:=RdS.cells g2
  have hcc:hcells K1 H.length=some [lv,i64 a1,.bool ((conO ts at'.toNat).map (·.2)).isSome]:=by rw [hcells_eq,c1];rfl
  have hll:Vi.hlen K1 H.length=some 3:=by unfold Vi.hlen;rw [c1];rfl
  have hnl:=g3.len K1
  have hcond:¬ (at' < 0∨at' ≥ ts.length):=by omega
  unfold readF
  rw [if_neg hcond]
  cases hc:conO ts at'.toNat with
  | none =>
    rw [hc] at hcc
    simp [hcc,hll]
    exact ⟨hpre,.nil⟩
  | some p =>
    rw [hc] at hcc c3
    have e:=g5 p hc
    subst e
    have ea:=c3 p.2 rfl
    subst ea
    by_cases h31:(p.1.length:Int) > 31
    · have h31':(31:Int) < p.1.length:=by omega
      simp [hcc,hll,hnl,h31']
      exact ⟨hpre,.nil⟩
    · have h31':¬ (31:Int) < p.1.length:=by omega
      simp [hcc,hll,hnl,h31']
      exact ⟨hpre,g3.nodes⟩
 obtain ⟨v,K',⟨u,rfl,h1,h2⟩,hy⟩:=key
 exact ⟨u,K',hy,h1,h2⟩
theorem textF_acc:∀ (f:Nat) (r acc:List UInt8) (c:Nat),r.length≤f→(textF r acc c).1.length≤acc.length+r.length:=by
 intro f
 induction f with
 | zero=>intro r acc c h;have:r=[]:=List.eq_nil_of_length_eq_zero (by omega);subst this;simp [textF]
 | succ f ih =>
   intro r acc c h
   cases r with
   | nil=>simp [textF]
   | cons b r =>
     rw [textF_cons]
     simp at h
     split
     · split
       · simp
       · split
         · cases r with
           | nil=>simp
           | cons e r =>
             simp only
             split
             · have:=ih r (acc++[e]) (c+2) (by simp at h;omega);simp at this ⊢;omega
             · simp
         · have:=ih r (acc++[b]) (c+1) (by omega);simp at this ⊢;omega
     · simp
theorem mem_takeWhile {p:UInt8→Bool}:∀ {s:List UInt8} {b:UInt8},b∈s.takeWhile p→p b=true:=by
 intro s
 induction s with
 | nil=>intro b h;simp at h
 | cons x r ih =>
   intro b h
   rw [List.takeWhile_cons] at h
   split at h
   · rcases List.mem_cons.1 h with rfl | h
     · assumption
     · exact ih h
   · simp at h
theorem runF_take (p:UInt8→Bool) (s:List UInt8):s.take (runF p s)=s.takeWhile p:=by
 unfold runF
 exact (List.prefix_iff_eq_take.1 (List.takeWhile_prefix p)).symm
theorem numLen_mem (s:List UInt8):∀ b∈s.take (numLen s),isDig b=true∨b=46:=by
 intro b hb
 unfold numLen at hb
 split at hb
 · rename_i h
   simp only [Bool.and_eq_true,Option.any_eq_true,beq_iff_eq] at h
   obtain ⟨⟨e,he,h46⟩,_⟩:=h
   rw [List.take_add] at hb
   rcases List.mem_append.1 hb with hb | hb
   · rw [runF_take] at hb;exact .inl (mem_takeWhile hb)
   · have hd:s.drop (runF isDig s)=e :: s.drop (runF isDig s+1):=by
      have hlt:=(List.getElem?_eq_some_iff.1 he).1
      rw [List.drop_eq_getElem_cons hlt,(List.getElem?_eq_some_iff.1 he).2]
     rw [hd,Nat.add_comm 1,List.take_succ_cons,runF_take] at hb
     rcases List.mem_cons.1 hb with rfl | hb
     · right
       have:b.toNat=(46:UInt8).toNat:=by have:(46:UInt8).toNat=46:=rfl;omega
       exact UInt8.toNat_inj.1 this
     · exact .inl (mem_takeWhile hb)
 · rw [runF_take] at hb;exact .inl (mem_takeWhile hb)
theorem oneF_num {s:List UInt8} {a:Nat} (hs:s.length≤4096):(oneF s a).1.text.length < 2 ^ 20∧((oneF s a).1.kind=2→(∀ b∈(oneF s a).1.text,isDig b=true∨b=46)∧∀ b r,(oneF s a).1.text=b :: r→isDig b=true):=by
 cases s with
 | nil=>simp [oneF]
 | cons b r =>
   simp only [oneF]
   simp only [List.length_cons] at hs
   split
   · exact ⟨by simp only [List.length_take,List.length_cons];omega,fun h=>by cases h⟩
   · split
     · rename_i hd
       refine ⟨by simp only [List.length_take,List.length_cons];omega,fun _=>⟨numLen_mem _,fun c q hq=>?_⟩⟩
       cases hn:numLen (b :: r) with
       | zero=>rw [hn] at hq;simp at hq
       | succ n=>rw [hn,List.take_succ_cons] at hq;cases hq;exact hd
     · split
       · have:=textF_acc r.length r [] 1 (Nat.le_refl _)
         exact ⟨by simp at this ⊢;omega,fun h=>by cases h⟩
       · exact ⟨by simp only [List.length_take,List.length_cons];omega,fun h=>by cases h⟩
theorem lexF_mem (l:List UInt8) (hl:l.length≤4096):∀ (f a:Nat),∀ t∈(lexF l f a).1,t.text.length < 2 ^ 20∧(t.kind=2→(∀ b∈t.text,isDig b=true∨b=46)∧∀ b r,t.text=b :: r→isDig b=true):=by
 intro f
 induction f with
 | zero=>intro a t h;simp [lexF] at h
 | succ f ih =>
   intro a t h
   simp only [lexF] at h
   split at h
   · split at h
     · simp at h
     · rcases List.mem_cons.1 h with rfl | h
       · exact oneF_num (by simp;omega)
       · exact ih _ t h
   · simp at h
theorem lexF_len (l:List UInt8):∀ (f a:Nat),(lexF l f a).1.length≤f:=by
 intro f
 induction f with
 | zero=>intro a;simp [lexF]
 | succ f ih =>
   intro a
   simp only [lexF]
   split
   · split
     · simp
     · have:=ih (skipN l (a+(oneF (l.drop a) a).2));simp;omega
   · simp
theorem allTok_ok {l:List UInt8}:NumTok (allTok l).1∧(allTok l).1.length≤4097:=by
 unfold allTok
 split
 · exact ⟨fun a t h=>by simp at h,by simp⟩
 · split
   · refine ⟨fun a t h=>?_,?_⟩
     · exact lexF_mem l (by omega) _ _ t (List.mem_of_getElem? h)
     · have:=lexF_len l (l.length+1) (skipN l 0);simp only;omega
   · exact ⟨fun a t h=>by simp at h,by simp⟩
def parseF (s:List UInt8):List Nod × Int:=if (allTok s).2.2≠0 then ([],(allTok s).2.2) else match conO (allTok s).1 0 with
 | none=>([],100)
 | some p=>if p.2≠(allTok s).1.length then ([],100) else if (p.1.length:Int) > 31 then ([],4) else (p.1,0)
theorem conO_nil:conO [] 0=none:=by kernel_rfl
theorem g_parse {H:AHeap} {s:List UInt8} (hg:Pre Gs H) :
  ∃ v K',ACalls prog 9 [str s] H (.tuple #[v,i64 (parseF s).2]) K'∧Pre H K'∧NodesAt K' v (parseF s).1:=by
 have key:∃ v K',(∃ u,v=.tuple #[u,i64 (parseF s).2]∧Pre H K'∧NodesAt K' u (parseF s).1)∧ACalls prog 9 [str s] H v K':=by
  refine acalls_ex MixT func9 (by decide) ?_
  rw [d9]
  obtain ⟨v,K1,⟨lv,rfl,g1,g2⟩,g3⟩:=c_lexAll H s
  refine bndC_of g3 ?_
  obtain ⟨hn,hlen⟩:=allTok_ok (l:=s)
  by_cases he:(allTok s).2.2=0
  · have hp:parseF s=match conO (allTok s).1 0 with
      | none=>([],100)
      | some p=>if p.2≠(allTok s).1.length then ([],100) else if (p.1.length:Int) > 31 then ([],4) else (p.1,0):=by unfold parseF;rw [if_neg (by simpa using he)]
    obtain ⟨u,K2,q1,q2,q3,q4⟩:=g_read (at':=0) (hg.trans g1) hn (by omega) g2
    have hl0:=fun J=>g2.len' (K:=J) (P:=prog) (T:=56) (e:=84) (by simp)
    simp at hl0
    simp [he]
    rw [hp]
    have hr:readF (allTok s).1 0=match conO (allTok s).1 0 with
      | none=>([],0,100)
      | some p=>if (p.1.length:Int) > 31 then ([],0,4) else (p.1,p.2,0):=by
     unfold readF
     by_cases hts:(0:Int) ≥ (allTok s).1.length
     · have:(allTok s).1=[]:=List.eq_nil_of_length_eq_zero (by omega)
       rw [if_pos (.inr hts),this,conO_nil]
     · rw [if_neg (by omega)];rfl
    cases hc:conO (allTok s).1 0 with
    | none =>
      rw [hc] at hr
      rw [hr] at q1 q3 q4
      refine bndC_of q1 ?_
      simp
      exact ⟨g1.trans q2,.nil⟩
    | some p =>
      rw [hc] at hr
      simp only at hr ⊢
      by_cases h31:(p.1.length:Int) > 31
      · rw [if_pos h31] at hr
        rw [hr] at q1 q3 q4
        have h31':(31:Int) < p.1.length:=h31
        refine bndC_of q1 ?_
        simp
        have hrd:RdA K1 (K2++[rdo lv 0 true]) K2.length lv (allTok s).1 0 true:=⟨g2,q2.more _,by obtain ⟨X,hX⟩:=q2;rw [hX];simp,by simp,by omega,by omega⟩
        obtain ⟨v3,K3,r1,r2,ns,r3,_,_⟩:=g_condition (hg.trans g1) hn (by omega) (a:=0) hrd
        obtain ⟨hb2,hb3⟩:=arr_cell g2
        have hb1:=Arr.one g2
        simp only [rdo,show ((0:Nat):Int)=0 from rfl] at r1
        simp [aNew,hb1,hb2,hb3]
        refine bndC_of r1 ?_
        rw [hc] at r2
        have hr2:RdA K1 K3 K2.length lv (allTok s).1 p.2 true:=r2
        have hcc:hcells K3 K2.length=some [lv,i64 p.2,.bool true]:=by rw [hcells_eq,hr2.cell];rfl
        have hll:Vi.hlen K3 K2.length=some 3:=by unfold Vi.hlen;rw [hr2.cell];rfl
        simp [hcc,hll]
        rw [S9x0q]
        simp [hl0]
        by_cases hb:p.2=(allTok s).1.length
        · simp [hb,h31',q4 (by simp)];exact ⟨g1.trans hr2.pre,.nil⟩
        · have hb':((p.2:Int) != (allTok s).1.length)=true:=by simp;omega
          simp [hb,hb'];exact ⟨g1.trans hr2.pre,.nil⟩
      · rw [if_neg h31] at hr
        rw [hr] at q1 q3 q4
        have h31':¬ (31:Int) < p.1.length:=h31
        refine bndC_of q1 ?_
        simp [h31']
        rw [S9x0q]
        simp [hl0]
        by_cases hb:p.2=(allTok s).1.length
        · simp [hb];exact ⟨g1.trans q2,q3⟩
        · have hb':((p.2:Int) != (allTok s).1.length)=true:=by simp;omega
          simp [hb,hb'];exact ⟨g1.trans q2,.nil⟩
  · have hp:parseF s=([],(allTok s).2.2):=by unfold parseF;rw [if_pos he]
    rw [hp]
    have he':((allTok s).2.2 != 0)=true:=by simpa using he
    simp [he']
    exact ⟨g1,.nil⟩
 obtain ⟨v,K',⟨u,rfl,h1,h2⟩,hy⟩:=key
 exact ⟨u,K',hy,h1,h2⟩
end Go.Vi
namespace Go.Vi
open Go Go.Proofs Go.Proofs.Tryz
def andI (k:IntKind) (a b:Int):Int:=k.wrap (BitVec.ofInt k.bits a &&& BitVec.ofInt k.bits b).toNat
def xorI (k:IntKind) (a b:Int):Int:=k.wrap (BitVec.ofInt k.bits a ^^^ BitVec.ofInt k.bits b).toNat
theorem aBin_and {P:Program} {H:AHeap} {T:TypeId} {x y:Operand} {k:IntKind} {a b:Int}:aBin2 P H .and T x y (.int k a) (.int k b)=some (.int k (andI k a b)):=by
 apply aBin2_of
 simp [aBin,clos,isLit,eqGuard,binOp,Op.intBits,pv_pure,andI]
theorem aBin_xor {P:Program} {H:AHeap} {T:TypeId} {x y:Operand} {k:IntKind} {a b:Int}:aBin2 P H .xor T x y (.int k a) (.int k b)=some (.int k (xorI k a b)):=by
 apply aBin2_of
 simp [aBin,clos,isLit,eqGuard,binOp,Op.intBits,pv_pure,xorI]
theorem unV_xor32 {P:Program} {a:Int}:unV P .xor (.int .u32 a)=some (.int .u32 (xorI .u32 4294967295 a)):=by kernel_rfl
def upF (p:Int):Int:=if (andI .u32 p 1 == 1)=true then xorI .u32 (p.fdiv 2) 2197175160 else p.fdiv 2
theorem c_up (H:AHeap) (p:Int):ACalls prog 110 [.int .u32 p] H (.int .u32 (upF p)) H:=by
 refine acalls_pure MixT func110 (by decide) rfl ?_
 rw [d110]
 have e:(2:Int) ^ (min 1 IntKind.u32.bits)=2:=by decide
 simp [aBin_and]
 refine kifB_bool (fun h=>?_) (fun h=>?_)
 · simp [upF,h,aBin_shr,aBin_xor,e]
 · simp [upF,h,aBin_shr,e]
def ups:Nat→Int→Int
 | 0,p=>p
 | n+1,p=>ups n (upF p)
def tabF (i:Nat):Int:=ups 8 i
def tabC (i:Nat):List Value:=(List.range i).map (fun j=>.int .u32 (tabF j))++List.replicate (256-i) (.int .u32 0)
theorem tabC_len {i:Nat} (h:i≤256):(tabC i).length=256:=by simp [tabC];omega
theorem tabC_set {i:Nat} (h:i < 256):(tabC i).set i (.int .u32 (tabF i))=tabC (i+1):=by
 unfold tabC
 rw [List.set_append_right _ _ (by simp),List.length_map,List.length_range,Nat.sub_self,show 256-i=(256-(i+1))+1 by omega,List.replicate_succ,List.set_cons_zero,List.range_succ,List.map_append]
 simp
theorem row_in {k:Value→AHeap→Prop} {H:AHeap} {n0 i:Nat} {pv:Value} (hi:i < 256) (hp:pv=.pointer (some ⟨H.length,0,some 256⟩))
  (hk:∀ (r x y s t u w A a c d f g h l q:Value),L74x0 n0 k [r,pv,x,y,i64 ((i+1:Nat):Int),s,t,u,w,A,a,c,d,f,g,h,l,q] (H++[.cells (tabC (i+1)) 176])) :
  ∀ (n j:Nat) (p:Int) (r s t u w a c d f g h l q:Value),n+j=8→ups n p=tabF i→L74x1 (n+1) n0 k [r,pv,i64 i,.int .u32 p,i64 i,s,t,u,w,i64 j,a,c,d,f,g,h,l,q] (H++[.cells (tabC i) 176]):=by
 intro n
 induction n with
 | zero =>
   intro j p r s t u w a c d f g h l q hj hu
   rw [L74x1q]
   have:¬ j < 8:=by omega
   have hl:hlen (H++[.cells (tabC i) 176]) H.length=some 256:=by simp [tabC_len (Nat.le_of_lt hi)]
   have hia:=aIndexAddr_arr (P:=prog) (H:=H++[.cells (tabC i) 176]) (T:=176) (e:=41) (b:=H.length) (o:=0) (m:=256) (z:=1) (n:=256) (k:=.i64) (i:=i) (by simp) (by simp) hl (by omega) (by omega)
   subst hp
   have w1:IntKind.i64.wrap ((i:Int)+1)=((i+1:Nat):Int):=by rw [wrap_i64 (by omega) (by omega)];omega
   simp only [ups] at hu
   subst hu
   have hge:¬ ((j:Int) < 8):=by omega
   simp [hge,hia,tabC_len (Nat.le_of_lt hi)]
   rw [if_pos (by omega),tabC_set hi]
   simp [w1]
   exact hk _ _ _ _ _ _ _ _ _ _ _ _ _ _ _ _
 | succ n ih =>
   intro j p r s t u w a c d f g h l q hj hu
   rw [L74x1q]
   have hlt:j < 8:=by omega
   have w1:IntKind.i64.wrap ((j:Int)+1)=((j+1:Nat):Int):=by rw [wrap_i64 (by omega) (by omega)];omega
   refine bnd_of (v:=.bool true) (by simp;omega) ?_
   dsimp only
   rw [kifB_true]
   dsimp only
   refine bndC_of (c_up _ p) ?_
   simp [w1]
   rw [show ((j:Int)+1)=((j+1:Nat):Int) by omega]
   exact ih (j+1) _ _ _ _ _ _ _ _ _ _ _ _ _ _ (by omega) hu
theorem alTab (H:AHeap):aAlloc prog H 176=some (.pointer (some ⟨H.length,0,some 256⟩),H++[.cells (tabC 0) 176]):=by kernel_rfl
theorem row_out {k:Value→AHeap→Prop} {H:AHeap} {pv:Value} (hp:pv=.pointer (some ⟨H.length,0,some 256⟩)) (hk:k pv (H++[.cells (tabC 256) 176])) :
  ∀ (n i:Nat) (j l m o p q r s a b c d e f g h:Value),n+i=256→L74x0 (n+1) k [j,pv,l,m,i64 i,o,p,q,r,s,a,b,c,d,e,f,g,h] (H++[.cells (tabC i) 176]):=by
 intro n
 induction n with
 | zero =>
   intro i j l m o p q r s a b c d e f g h hi
   obtain rfl:i=256:=by omega
   rw [L74x0q]
   simp
   exact hk
 | succ n ih =>
   intro i j l m o p q r s a b c d e f g h hi
   have hlt:(i:Int) < 256:=by omega
   rw [L74x0q]
   simp [hlt,convV_int]
   have w:IntKind.u32.wrap (i:Int)=i:=by
    unfold IntKind.wrap
    simp only [show IntKind.u32.bits=32 from rfl,show IntKind.u32.signed=false from rfl]
    simp
    omega
   rw [w]
   exact ⟨_,row_in (n0:=n+1) (i:=i) (by omega) hp (fun j l m o p q r s a b c d e f g h=>ih (i+1) _ _ _ _ _ _ _ _ _ _ _ _ _ _ _ _ (by omega)) 8 0 i _ _ _ _ _ _ _ _ _ _ _ _ _ rfl rfl⟩
def tabV (b:Nat):Value:=.pointer (some ⟨b,0,some 256⟩)
theorem c_row (H:AHeap):ACalls prog 74 [] H (tabV H.length) (H++[.cells (tabC 256) 176]):=by
 refine acalls_of MixT func74 (by decide) ?_
 rw [d74,alTab]
 simp
 exact ⟨_,row_out rfl ⟨rfl,rfl⟩ 256 0 _ _ _ _ _ _ _ _ _ _ _ _ _ _ _ _ rfl⟩
def onF (left:Int) (b:UInt8):Int:=xorI .u32 (tabF (xorI .u8 (IntKind.u8.wrap left) b.toNat).toNat) (left.fdiv 256)
theorem xor8_lt (a:Int) (b:UInt8):0≤xorI .u8 a b.toNat∧xorI .u8 a b.toNat < 256:=by
 unfold xorI IntKind.wrap
 simp only [show IntKind.u8.bits=8 from rfl,show IntKind.u8.signed=false from rfl]
 simp
 omega
theorem tab_at {K:AHeap} {tb:Nat} (h:hcells K tb=some (tabC 256)) {x:Int} (h0:0≤x) (h1:x < 256):∃ p,aIndexAddr prog K 176 (tabV tb) (.int .u8 x)=some p∧aLoad prog K 41 p=some (.int .u32 (tabF x.toNat)):=by
 have hl:hlen K tb=some 256:=by rw [hcells_len h,tabC_len (Nat.le_refl _)]
 refine ⟨_,aIndexAddr_arr (P:=prog) (H:=K) (T:=176) (e:=41) (b:=tb) (o:=0) (m:=256) (z:=1) (n:=256) (k:=.u8) (i:=x) (by simp) (by simp) hl h0 (by omega),?_⟩
 have hc:(tabC 256)[x.toNat]?=some (.int .u32 (tabF x.toNat)):=by
  unfold tabC
  rw [List.getElem?_append_left (by simp;omega),List.getElem?_map,List.getElem?_range (by omega)]
  rfl
 simp [h,hc,tabC_len (Nat.le_refl 256)]
theorem on_loop {H:AHeap} {tb:Nat} {v:Value} {l:List UInt8} {k:Value→AHeap→Prop} (ht:hcells H tb=some (tabC 256)) (ha:Arr H 1 v (l.map fun b=>[byt b])) (hl:l.length < 2 ^ 62) (w:Int) (hk:k (.int .u32 w) H) :
  ∀ (r : List UInt8) (i : Nat) (left : Int) (C D E F G I J a c f g h j m n o s t u y z A B : Value), l.drop i = r → i ≤ l.length → r.foldl onF left = w →
    L75x0 (r.length+1) k [.int .u32 left,tabV tb,C,D,E,F,G,I,J,v,i64 l.length,i64 i,a,c,f,g,h,j,m,n,o,s,t,u,y,z,A,B] H:=by
 intro r
 induction r with
 | nil =>
   intro i left C D E F G I J a c f g h j m n o s t u y z A B hd hi hw
   have hle:l.length≤i:=by simpa using hd
   rw [List.length_nil,L75x0q]
   have:¬ i < l.length:=by omega
   simp only [List.foldl_nil] at hw
   subst hw
   simp [this]
   exact hk
 | cons d r ih =>
   intro i left C D E F G I J a c f g h j m n o s t u y z A B hd hi hw
   have hb:l[i]?=some d:=by rw [← List.head?_drop,hd];rfl
   have hlt:i < l.length:=(List.getElem?_eq_some_iff.1 hb).1
   obtain ⟨q,hp1,hp2⟩:=ha.load1 (P:=prog) (T:=69) (te:=5) (i:=i) (x:=byt d) (by simp) (by simp) (by simp) (by rw [List.getElem?_map,hb];rfl)
   obtain ⟨x1,x2⟩:=xor8_lt (IntKind.u8.wrap left) d
   obtain ⟨p,g1,g2⟩:=tab_at ht x1 x2
   have w1:IntKind.i64.wrap ((i:Int)+1)=((i+1:Nat):Int):=by rw [wrap_i64 (by omega) (by omega)];omega
   have e:(2:Int) ^ (min 8 IntKind.u32.bits)=256:=by decide
   have nv:nilV (tabV tb)=some (tabV tb):=rfl
   rw [List.length_cons,L75x0q]
   simp [hlt,hp1,hp2,convV_int,aBin_xor,g1,g2,aBin_shr,e,w1,nv]
   rw [show ((i:Int)+1)=((i+1:Nat):Int) by omega]
   exact ih (i+1) _ _ _ _ _ _ _ _ _ _ _ _ _ _ _ _ _ _ _ _ _ _ _ _ (by rw [← List.drop_drop,hd];rfl) hlt hw
theorem c_on {H:AHeap} {tb:Nat} {v:Value} {l:List UInt8} {left:Int} (ht:hcells H tb=some (tabC 256)) (ha:Arr H 1 v (l.map fun b=>[byt b])) (hl:l.length < 2 ^ 62):ACalls prog 75 [.int .u32 left,tabV tb,v] H (.int .u32 (l.foldl onF left)) H:=by
 refine acalls_pure MixT func75 (by decide) rfl ?_
 rw [d75]
 have hlen:=ha.len (P:=prog) (T:=69) (e:=5) (by simp)
 simp at hlen
 simp [hlen]
 exact ⟨_,on_loop ht ha hl _ ⟨rfl,[],by simp⟩ l 0 left _ _ _ _ _ _ _ _ _ _ _ _ _ _ _ _ _ _ _ _ _ _ _ rfl (by omega) rfl⟩
def crcF (l:List UInt8):Int:=xorI .u32 4294967295 (l.foldl onF 4294967295)
theorem c_of {H:AHeap} {v:Value} {l:List UInt8} (ha:Arr (H++[.cells [v] 69]) 1 v (l.map fun b=>[byt b])) (_hone:v.oneCell'=true) (hl:l.length < 2 ^ 62):ACalls prog 44 [.slice (some ⟨H.length,0,some 1⟩) 1 1] (H++[.cells [v] 69]) (.int .u32 (crcF l)) (H++[.cells [v] 69]):=by
 refine acalls_pure MixT func44 (by decide) rfl ?_
 rw [d44]
 refine bndC_of (c_row _) ?_
 simp
 refine ⟨2,?_⟩
 have hpv:Arr (H++[.cells [v] 69]) 1 (.slice (some ⟨H.length,0,some 1⟩) 1 1) [[v]]:=by
  refine .mk H.length 0 1 1 1 [v] _ rfl (by simp) rfl (by omega) fun i e hi=>?_
  cases i with
  | zero=>simp at hi;subst hi;rfl
  | succ i=>simp at hi
 have hX:=hpv.pre (.app _ [AObj.cells (tabC 256) 176])
 obtain ⟨q,hq1,hq2⟩:=hX.load1 (P:=prog) (T:=133) (te:=69) (i:=0) (x:=v) (by simp) (by simp) (by simp) rfl
 have ht:hcells (H++[.cells [v] 69]++[.cells (tabC 256) 176]) (H++[AObj.cells [v] 69]).length=some (tabC 256):=by simp
 rw [L44x0q]
 simp at hq1 hq2
 simp [hq1,hq2]
 have ht2:hcells (H++[.cells [v] 69,.cells (tabC 256) 176]) (H.length+1)=some (tabC 256):=by simp
 have haX:=ha.pre (.app _ [AObj.cells (tabC 256) 176])
 rw [List.append_assoc] at haX
 refine bndC_of (c_on (left:=4294967295) ht2 haX hl) ?_
 simp
 rw [L44x0q]
 simp [unV_xor32,crcF,show IntKind.i64.wrap 1=1 by decide]
theorem c_sum {H:AHeap} {v:Value} {l:List UInt8} (ha:Arr H 1 v (l.map fun b=>[byt b])) (hl:l.length < 2 ^ 62):ACalls prog 25 [v] H (.int .u32 (crcF l)) H:=by
 refine acalls_pure MixT func25 (by decide) rfl ?_
 rw [d25]
 have hone:=ha.one
 have hlit:sliceLit prog H 133 1 [(0,v)] (.slice (some ⟨H.length,0,some 1⟩) 1 1) (H++[.cells [v] 69]):=sliceLit1 (l:=[v]) (tbs133 H 1 _) (by simp [hone]) rfl (by decide)
 refine bndL_lit hlit ?_
 refine bndC_of (c_of (l:=l) (ha.pre (.app H _)) hone hl) ?_
 simp
end Go.Vi
namespace Go.Vi
open Go Go.Proofs
def tA:List UInt8:=[99,111,117,110,116,40,123,125,91,53,93,41,32,62,32,51]
def nA:Nod:=cmpNod 0 5 2 3000
theorem pA:parseF tA=([nA],0):=by kernel_rfl
end Go.Vi
namespace Go.Vi
open Go Go.Proofs Go.Proofs.Tryz
structure Rul where
 name:List UInt8
 byL:List UInt8
 nodes:List Nod
 forM:Int
 every:Int
 repeatM:Int
 mutes:List (List UInt8)
 route:List UInt8
def Rul.cells (r:Rul) (nv mv:Value):List Value:=[str r.name,str r.byL,nv,i64 r.forM,i64 r.every,i64 r.repeatM,mv,str r.route]
def Rul.fit (r:Rul):Prop:=-9223372036854775808≤r.forM∧r.forM < 9223372036854775808∧-9223372036854775808≤r.every∧r.every < 9223372036854775808
structure RulAt (H:AHeap) (r:Rul) (nv mv:Value):Prop where
 nodes:NodesAt H nv r.nodes
 mutes:Arr H 1 mv (strCells r.mutes)
 fit:r.fit
 mlen:r.mutes.length < 2 ^ 63
theorem RulAt.pre {H K r nv mv} (h:RulAt H r nv mv) (p:Pre H K):RulAt K r nv mv:=⟨h.nodes.pre p,h.mutes.pre p,h.fit,h.mlen⟩
theorem RulAt.o1 {H r nv mv} (h:RulAt H r nv mv):nv.oneCell'=true:=by obtain ⟨_,h,_⟩:=h.nodes;exact h.one
theorem RulAt.o2 {H r nv mv} (h:RulAt H r nv mv):mv.oneCell'=true:=h.mutes.one
def RulesAt (H:AHeap) (v:Value) (rs:List Rul):Prop:=∃ cl:List (List Value),Arr H 8 v cl∧cl.length=rs.length∧∀ (i:Nat) r,rs[i]?=some r→∃ nv mv,cl[i]?=some (r.cells nv mv)∧RulAt H r nv mv
theorem RulesAt.pre {H K v rs} (h:RulesAt H v rs) (p:Pre H K):RulesAt K v rs:=by
 obtain ⟨cl,h1,h2,h3⟩:=h
 refine ⟨cl,h1.pre p,h2,fun i r hi=>?_⟩
 obtain ⟨nv,mv,q1,q2⟩:=h3 i r hi
 exact ⟨nv,mv,q1,q2.pre p⟩
def fTxt (r:Rul):List UInt8:=joinS [32] [r.byL,fmtS r.forM,fmtS r.every,printS r.nodes]
def fingF (r:Rul):Int:=if 1 > crcF (fTxt r) then 1 else crcF (fTxt r)
theorem print_len (ns:List Nod):(printS ns).length≤2 ^ 41:=by
 unfold printS
 split
 · rename_i h
   obtain ⟨h1,h2,h3⟩:=right_WF h
   have:=txt_len ns _ _ 0 h3
   have hp:2 ^ (ns.length+10)≤2 ^ 41:=Nat.pow_le_pow_right (by omega) (by omega)
   omega
 · simp
theorem fTxt_eq (r:Rul):fTxt r=r.byL++[32]++fmtS r.forM++[32]++fmtS r.every++[32]++printS r.nodes:=by simp [fTxt,joinS]
def sbB (l:List UInt8):AObj:=sbO 5 ⟨l.toArray⟩
theorem bytes_b (l:List UInt8):bytesL ⟨l.toArray⟩=bcells l:=by simp [bytesL,bcells]
@[simp] theorem rcells_sbB (l:List UInt8):(sbB l).rcells=some (bcells l):=by simp [sbB,bytes_b]
@[simp] theorem len_sbB (l:List UInt8):(sbB l).len=some l.length:=by rw [sbB,len_sbO];rfl
theorem aConv_sb (H:AHeap) (l:List UInt8):aConv prog H 9 69 (str l)=some (.slice (some ⟨H.length,0,some l.length⟩) l.length l.length,H++[sbB l]):=by
 have hs:(⟨l.toArray⟩:ByteArray).size=l.length:=rfl
 have hu:isU8 prog 5=true:=by kernel_rfl
 simp [aConv,hu,hs,sbB]
theorem roArr (H:AHeap) (l:List UInt8):Arr (H++[sbB l]) 1 (.slice (some ⟨H.length,0,some l.length⟩) l.length l.length) (l.map fun b=>[byt b]):=by
 refine .mk H.length 0 _ _ _ (bcells l) _ (by simp) (by simp [hcells_eq]) (by simp [bcells]) (by simp) fun i e hi=>?_
 simp only [List.getElem?_map,Option.map_eq_some_iff] at hi
 obtain ⟨b,h1,rfl⟩:=hi
 have hlt:=(List.getElem?_eq_some_iff.1 h1).1
 rw [Nat.zero_add,Nat.mul_one,bcells,← List.map_drop,List.drop_eq_getElem_cons hlt,List.map_cons,List.take_succ_cons,List.take_zero,(List.getElem?_eq_some_iff.1 h1).2]
theorem fmt_len {n:Int} (h1:-9223372036854775808≤n) (h2:n < 9223372036854775808):(fmtS n).length≤2 ^ 20:=by
 have h:=natS_len (n:=n.natAbs) (by omega)
 unfold fmtS
 split
 · simp;omega
 · omega
set_option maxRecDepth 20000 in
theorem c_finger {H:AHeap} {r:Rul} {nv mv:Value} (hg:Pw H) (hr:RulAt H r nv mv) (hby:r.byL.length≤2 ^ 20):ACalls prog 10 [.agg (r.cells nv mv).toArray] H (.int .u32 (fingF r)) H:=by
 refine acalls_pure MixT func10 (by decide) rfl ?_
 rw [d10]
 have h1:=hr.o1
 have h2:=hr.o2
 obtain ⟨f1,f2,f3,f4⟩:=hr.fit
 have hgX:=hg.trans (.app H [AObj.cells (r.cells nv mv) 40])
 have hrX:=hr.pre (.app H [AObj.cells (r.cells nv mv) 40])
 have hnew:aNew H 40 (.agg (r.cells nv mv).toArray)=some (.pointer (some ⟨H.length,0,some 8⟩),H++[.cells (r.cells nv mv) 40]):=by simp [aNew_agg,Rul.cells,h1,h2]
 rw [hnew]
 simp only [bndE_some]
 obtain ⟨K,hK⟩:∃ K,K=H++[.cells (r.cells nv mv) 40]:=⟨_,rfl⟩
 have g1:hcells K H.length=some (r.cells nv mv):=by rw [hK];simp
 have g2:hlen K H.length=some 8:=by rw [hK];simp [Rul.cells]
 have hKp:Pre H K:=by rw [hK];exact .app _ _
 rw [← hK] at hgX hrX ⊢
 simp only [Rul.cells] at g1
 simp [g1,g2]
 refine bndD_same (c_itoa hgX f1 f2) ?_
 simp [g1,g2]
 refine bndD_same (c_itoa hgX f3 f4) ?_
 simp [g1,g2]
 refine bndD_same (c_exprPrint hgX hrX.nodes) ?_
 have hlit:sliceLit prog K 38 4 [(0,str r.byL),(1,str (fmtS r.forM)),(2,str (fmtS r.every)),(3,str (printS r.nodes))] (.slice (some ⟨K.length,0,some 4⟩) 4 4) (K++[.cells ([r.byL,fmtS r.forM,fmtS r.every,printS r.nodes].map str) 9]) :=
  strs_lit (l:=[r.byL,fmtS r.forM,fmtS r.every,printS r.nodes]) (tbs38 K 4 _) rfl (by decide)
 refine bndD_of (v:=_) (H':=_) hlit (.inl rfl) ?_
 have hparts:Parts (K++[.cells ([r.byL,fmtS r.forM,fmtS r.every,printS r.nodes].map str) 9]) (.slice (some ⟨K.length,0,some 4⟩) 4 4) [r.byL,fmtS r.forM,fmtS r.every,printS r.nodes]:=.mk K.length [r.byL,fmtS r.forM,fmtS r.every,printS r.nodes] (by simp)
 have l1:=fmt_len f1 f2
 have l2:=fmt_len f3 f4
 have l3:=print_len r.nodes
 have hfl:(fTxt r).length≤2 ^ 42:=by rw [fTxt_eq];simp;omega
 refine bndD_same (c_join hparts (by have : (fTxt r).length ≤ 2 ^ 46 := by omega
                                     exact this) (by simp) (by simp) (fun _=>join_ne (.inl (by simp)))) ?_
 dsimp only
 rw [aConv_sb]
 simp only [bndE_some]
 refine bndC_of (c_sum (roArr _ (fTxt r)) (by omega)) ?_
 simp
 refine ⟨rfl,?_⟩
 rw [hK]
 exact ⟨_,by rw [List.append_assoc]⟩
end Go.Vi
namespace Go.Vi
open Go.RowKit
variable {P:Program}
def nexts (H:AHeap) (v:Value) (f:Value→AHeap→Prop):Prop:=match v with
 | .chan (some (b + 1)) => match H[b]? with
   | some (.loop (.iter (.map none) _ _))=>f (.tuple #[.bool false]) H
   | some (.loop (.iter (.map (some c)) n seen)) => match H[c]? with
     | some (.map es)=>es.length=n∧((∀ j,j < n→j∈seen)→f (.tuple #[.bool false]) H) ∧
       (∀ j k x,es[j]?=some (k,x)→j ∉ seen→f (.tuple #[.bool true,k,x]) (H.set b (.loop (.iter (.map (some c)) n (seen++[j])))))
     | _=>False
   | _=>False
 | _=>False
theorem nexts_sound {w0 s H w v v'} {f:Value→AHeap→Prop} (ty:TypeId) (h:WRel w0 s H w) (hv:VRel s H v v') (hr:nexts H v f) :
  ∃ o H',f o H'∧∃ r' w',(Instr.next v' false ty).run P w=.ok r' w'∧WRel w0 s H' w'∧Ext s H s H'∧VRel s H' o r':=by
 unfold nexts at hr
 split at hr
 case h_2=>cases hr
 rename_i b
 split at hr
 · rename_i n seen hb
   have:=hv.iter_inv hb;subst this
   obtain ⟨_,ob,hob,m2,a,rfl,ha,hm2⟩:=h.h.obj b _ hb
   have:=hm2.lit_inv rfl;cases this
   refine ⟨_,_,hr,.tuple #[.bool false],w,?_,h,Ext.refl _ _,.tuple _ _ rfl fun i u y hu hy=>?_⟩
   · simp [Instr.next,getObj,Sem.run,hob]
   · match i with
     | 0=>simp at hu hy;subst hu hy;exact .lit _ rfl
     | i+1=>simp at hu
 · rename_i c n seen hb
   split at hr
   case h_2=>cases hr
   rename_i es hm
   obtain ⟨hn,h0,h1⟩:=hr
   have:=hv.iter_inv hb;subst this
   obtain ⟨_,ob,hob,m2,a,rfl,ha,hm2⟩:=h.h.obj b _ hb
   have:=hm2.map_inv hm;cases this
   obtain ⟨_,ces,clk,hheap,hsz,hclk,hes⟩:=h.h.obj c _ hm
   have born:∀ (j:Nat) (hj:j < ces.size),ces[j].born=j:=fun j hj=>by
    have hj':j < es.length:=by omega
    exact (hes j es[j].1 es[j].2 ces[j] (List.getElem?_eq_getElem hj') (Array.getElem?_eq_getElem hj)).2.2.2
   have hold:∀ x∈ces.toList,x.born < n:=fun x hx=>by
    obtain ⟨j,hj,rfl⟩:=List.getElem_of_mem hx
    have hj':j < ces.size:=by simpa using hj
    have:=born j hj'
    simp only [Array.getElem_toList]
    omega
   rcases run_next_at (P:=P) w ty (s b).blk (s c).blk n n a ces clk hob hheap hold (Nat.le_refl _) with ⟨z,hrun⟩ | ⟨e,he,w1,hw1,hrun⟩
   · refine ⟨_,_,h0 fun j hj=>?_,.tuple #[.bool false],w,hrun,h,Ext.refl _ _,.tuple _ _ rfl fun i u y hu hy=>?_⟩
     · have hj':j < ces.size:=by omega
       rw [← ha]
       by_cases hq:j∈a.toList
       · exact hq
       · have hmem:ces[j]∈(leftOf ces a).toList:=by
          simp [leftOf,born j hj']
          simpa using hq
         have hlen:(leftOf ces a).toList.length=0:=by simpa using z
         rw [List.eq_nil_of_length_eq_zero hlen] at hmem
         cases hmem
     · match i with
       | 0=>simp at hu hy;subst hu hy;exact .lit _ rfl
       | i+1=>simp at hu
   · have hmem:e∈ces.toList∧e.born ∉ a.toList:=by
      simp [leftOf] at he
      simpa using he
     obtain ⟨j,hj,rfl⟩:=List.getElem_of_mem hmem.1
     have hj':j < ces.size:=by simpa using hj
     have hjb:=born j hj'
     have hje:j < es.length:=by omega
     obtain ⟨q1,q2,q3,_⟩:=hes j es[j].1 es[j].2 ces[j] (List.getElem?_eq_getElem hje) (Array.getElem?_eq_getElem hj')
     have hw:WRel w0 s H w1:=by rcases hw1 with rfl | rfl;exact h;exact h.drew
     have hput:=hw.putLoop (r':=.iter (.map (some c)) n (seen++[j])) hb (.mapIter (some (s c).blk) n (a.push j) n) ⟨_,_,rfl,by simp [ha],hm2⟩
     refine ⟨_,_,h1 j es[j].1 es[j].2 (List.getElem?_eq_getElem hje) (by rw [← ha];have:=hmem.2;simp only [Array.getElem_toList,hjb] at this;exact this),.tuple #[.bool true,ces[j].key,ces[j].val],_,?_,hput,Ext.loop hb,?_⟩
     · rw [hrun]
       simp only [Array.getElem_toList,hjb,ChangeMaps.setBlock]
       rw [show clk=n by omega]
     · refine VRel.mono (.tuple _ _ rfl fun i u y hu hy=>?_) (Ext.loop (s:=s) hb)
       match i with
       | 0=>simp at hu hy;subst hu hy;exact .lit _ rfl
       | 1=>simp at hu hy;subst hu hy;rw [q1];exact .lit _ q2
       | 2=>simp at hu hy;subst hu hy;exact q3
       | i+3=>simp at hu
 · cases hr
def nextOf (o:Oper):Option Operand:=match o.op,o.guard with
 | .next it false,none=>some it
 | _,_=>none
def kopsN (P:Program) (ops:Array Oper) (os:List Oper) (sl:List Value) (H:AHeap) (k:List Value→AHeap→Prop):Prop:=match os with
 | o :: r => match nextOf o with
   | some it => match aev sl it with
     | some v=>nexts H v fun u H2=>kops P ops r (aput sl o.dst u) H2 k
     | none=>False
   | none=>kops P ops os sl H k
 | []=>k sl H
theorem nextOf_inv {o:Oper} {it:Operand} (h:nextOf o=some it):o.op=.next it false∧o.guard=none:=by
 unfold nextOf at h
 split at h
 · rename_i h1 h2;cases h;exact ⟨h1,h2⟩
 · cases h
theorem kopsN_sound [Ctx] {w0 Q} {ops:Array Oper} {k:List Value→AHeap→Prop} {s H w sl a} (h:WRel w0 s H w) (ha:ARel s H sl a) (hr:kopsN P ops ops.toList sl H k)
  (hq:∀ sl' H',k sl' H'→APost w0 s H Q .normal (sl',H')):wpOpsIn FF 0 P ops Q (List.range ops.size) a w:=by
 rw [List.range_eq_range']
 cases ho:ops.toList with
 | nil =>
   have h0:ops.size=0:=by rw [← Array.length_toList,ho];rfl
   rw [ho] at hr
   rw [h0]
   exact hq _ _ hr s a w h (Ext.refl _ _) ha
 | cons o r =>
   have hs:ops.size=r.length+1:=by rw [← Array.length_toList,ho];rfl
   have hget:∀ (i:Nat) x,(o :: r)[i]?=some x→ops[i]?=some x:=fun i x hi=>by rw [← ho] at hi;simpa using hi
   cases hn:nextOf o with
   | none =>
     have hr':kops P ops ops.toList sl H k:=by
      rw [ho] at hr ⊢
      simpa [kopsN,hn] using hr
     have:=kops_sound (Q:=Q) ops.toList 0 (ops:=ops) (fun i o hi=>by simpa using hi) h ha hr' hq
     simpa using this
   | some it =>
     rw [ho] at hr
     simp only [kopsN,hn] at hr
     split at hr
     case h_2=>cases hr
     rename_i v hv
     obtain ⟨e1,e2⟩:=nextOf_inv hn
     obtain ⟨u,H2,hk,r',w',g1,g2,g3,g4⟩:=nexts_sound (P:=P) o.type h (aev_rel ha hv) hr
     rw [hs,List.range'_succ,wpOpsIn_cons]
     unfold wpOpIn
     simp only [hget 0 o rfl]
     have hw:Region.wanted o (yielded ops a.tmps)=true:=by simp [Region.wanted,e2]
     rw [if_pos hw]
     have hrun:(execOp a.eval o).run P w=.ok (.value r') w':=by
      obtain ⟨dst,op,ty,pos,after,guard⟩:=o
      simp only at e1 g1
      subst e1
      simp only [execOp,Sem.run_bind]
      rw [g1];rfl
     refine wpF_of (by rw [e1];rintro c ⟨⟩) ?_
     rw [hrun]
     exact kops_sound (Q:=Q) r 1 (ops:=ops) (fun i x hi=>by rw [Nat.add_comm];exact hget (i+1) x (by simpa using hi)) g2 ((ha.mono g3).put o.dst g4) hk fun sl' H' k' s2 a2 w2 k1 k2 k3=>hq sl' H' k' s2 a2 w2 k1 (g3.trans k2) k3
def kxN (P:Program) (D:DrawK):Code→List Value→AHeap→Kont→Prop
 | .skip,sl,H,k | .label _,sl,H,k=>k .normal sl H
 | .region _ ops false,sl,H,k=>kopsN P ops ops.toList sl H (k .normal)
 | .region _ ops true,sl,H,k=>D ops (k .normal) sl H
 | .seq x y,sl,H,k=>kxN P D x sl H (kthen (fun sl H=>kxN P D y sl H k) k)
 | .cond c x y, sl, H, k => match aev sl c with
   | some v=>kif v (kxN P D x sl H k) (kxN P D y sl H k)
   | none=>False
 | .block id c,sl,H,k=>kxN P D c sl H (kblk id k)
 | .scope c,sl,H,k=>kxN P D c sl H k
 | .exit id,sl,H,k=>k (.exit id) sl H
 | .ret,sl,H,k=>k .ret sl H
 | .loop c,sl,H,k=>∃ n,kthen (fun sl H=>kloop (kxN P D c) n sl H k) k .normal sl H
 | _,_,_,_=>False
def kseqN (P:Program) (D:DrawK) (y:Code) (k:Kont):Kont:=kthen (fun sl H=>kxN P D y sl H k) k
def kitN (P:Program) (D:DrawK) (c:Code) (n:Nat) (k:Kont):Kont:=kthen (fun sl H=>kloop (kxN P D c) n sl H k) k
theorem kxN_sound [Ctx] {D:DrawK} (hD:SoundK P D) {w0}:∀ (c:Code) {s H w sl a Q} {k:Kont},WRel w0 s H w→ARel s H sl a→kxN P D c sl H k →
  (∀ e sl' H',k e sl' H'→APost w0 s H Q e (sl',H'))→c.wpIn FF 0 P Q a w:=by
 intro c
 induction c with
 | skip=>intro s H w sl a Q k h ha hr hq;exact wpIn_skip (hq _ _ _ hr s a w h (Ext.refl _ _) ha)
 | label l=>intro s H w sl a Q k h ha hr hq;exact wpIn_label (hq _ _ _ hr s a w h (Ext.refl _ _) ha)
 | region id ops draw =>
   intro s H w sl a Q k h ha hr hq
   cases draw with
   | false=>exact wpIn_region (kopsN_sound h ha hr (fun sl' H' hk=>hq .normal sl' H' hk))
   | true=>exact hD h ha hr (fun sl' H' hk=>hq .normal sl' H' hk)
 | seq x y ihx ihy =>
   intro s H w sl a Q k h ha hr hq
   refine wpIn_seq (ihx h ha hr ?_)
   intro e sl' H' hk s' a' w' g1 g2 g3
   cases e with
   | normal=>exact ihy g1 g3 hk fun e2 sl2 H2 k2=>(hq e2 sl2 H2 k2).later g2
   | exit id=>exact hq _ _ _ hk s' a' w' g1 g2 g3
   | ret=>exact hq _ _ _ hk s' a' w' g1 g2 g3
 | cond c x y ihx ihy =>
   intro s H w sl a Q k h ha hr hq
   simp only [kxN] at hr
   split at hr
   · rename_i v hv
     unfold kif at hr
     split at hr
     · rename_i t
       have hb':=(aev_rel ha hv).lit_inv rfl
       cases t with
       | true=>exact wpIn_cond_true hb' (ihx h ha (by simpa using hr) hq)
       | false=>exact wpIn_cond_false hb' (ihy h ha (by simpa using hr) hq)
     · cases hr
   · cases hr
 | block id c ih =>
   intro s H w sl a Q k h ha hr hq
   refine wpIn_block (ih h ha hr ?_)
   intro e sl' H' hk s' a' w' g1 g2 g3
   cases e with
   | normal=>exact hq _ _ _ hk s' a' w' g1 g2 g3
   | exit i =>
     simp only [kblk] at hk
     show Exit.inBlock id Q (.exit i) a' w'
     simp only [Exit.inBlock]
     split at hk
     · rename_i hid;rw [if_pos hid];exact hq _ _ _ hk s' a' w' g1 g2 g3
     · rename_i hid;rw [if_neg hid];exact hq _ _ _ hk s' a' w' g1 g2 g3
   | ret=>exact hq _ _ _ hk s' a' w' g1 g2 g3
 | scope c ih =>
   intro s H w sl a Q k h ha hr hq
   refine wpIn_scope (ih h ha hr ?_)
   intro e sl' H' hk s' a' w' g1 g2 g3
   have:=hq _ _ _ hk s' a' w' g1 g2 g3
   cases e with
   | normal=>exact this
   | exit id=>exact this
   | ret=>exact this
 | exit id=>intro s H w sl a Q k h ha hr hq;exact wpIn_exit (hq _ _ _ hr s a w h (Ext.refl _ _) ha)
 | ret=>intro s H w sl a Q k h ha hr hq;exact wpIn_ret (hq _ _ _ hr s a w h (Ext.refl _ _) ha)
 | loop c ih =>
   intro s H w sl a Q k h ha hr hq
   obtain ⟨n,hr⟩:=hr
   exact kloop_sound (f:=kxN P D c) (fun h ha hr hq=>ih h ha hr hq) n h ha hr hq
 | _=>intro s H w sl a Q k h ha hr hq;cases hr
def kbodyN (P:Program) (D:DrawK) (fn:Func) (args:List Value) (H:AHeap) (k:Value→AHeap→Prop):Prop:=match fn.body with
 | some c=>kxN P D c (args++List.replicate (fn.ntmps-args.length) undef) H (kfin P fn k)
 | none=>False
theorem Ext.same {s H s' X} (e:Ext s H s' (H++X)) {b:Nat} {o:AObj} (ho:H[b]?=some o) (hl:o.live=true):s' b=s b:=by
 have hb:=(List.getElem?_eq_some_iff.1 ho).1
 have hg:(H++X)[b]?=H[b]?:=List.getElem?_append_left hb
 have len:∀ L,o.len=some L→s' b=s b:=fun L hL=>by
  obtain ⟨L0,e1,e2,e3⟩:=(e.2 b hb).1 L (by simp [hlen,hg,ho,hL])
  simp [hlen,ho,hL] at e1
  exact e3 e1.symm
 cases o with
 | cells cs T=>exact len cs.length rfl
 | ro cs=>exact len cs.length rfl
 | map es=>obtain ⟨_,_,e2⟩:=(e.2 b hb).2.1 es (by rw [hg];exact ho);exact e2
 | loop r=>obtain ⟨_,_,e2⟩:=(e.2 b hb).2.2.2 r (by rw [hg];exact ho);exact e2
 | gl g cs=>exact len cs.length rfl
 | dead=>cases hl
theorem WRel.keepRow {w0 s H w s' X w'} (h0:WRel w0 s H w) (h1:WRel w0 s' (H++X) w') (e:Ext s H s' (H++X)) {p:Nat} {cs:List Value} {T:TypeId} (hp:H.length≤p) (hx:(H++X)[p]?=some (.cells cs T)) (hl:∀ v∈cs,isLit v=true) :
  WRel w0 (upd s H.length (s' p)) (H++[.cells cs T]) w':=by
 have hF:=h0.forget h1 e
 have hg:∀ b,b < H.length→(H++X)[b]?=H[b]?:=fun b hb=>List.getElem?_append_left hb
 refine ⟨⟨fun b x hb=>?_,fun b b' x x' hb hb' hne ho1 hl1=>?_⟩,hF.b,h0.o.push _ (by rintro _ ⟨rfl⟩;exact h1.o p cs (by simp [hcells,hx]))⟩
 · rcases getElem_append_old hb with ⟨hlt,hb'⟩ | ⟨rfl,rfl⟩
   · exact (hF.h.obj b x hb').keep (Ext.push _ _ _ _) (fun _=>upd_ne _ _ (by omega)) (fun _ _=>rfl)
   · obtain ⟨q1,q2,arr,fr,qf,q3,q4,q5,q6⟩:=h1.h.obj p _ hx
     refine ⟨by rw [upd_self];exact q1,by rw [upd_self];exact q2,arr,fr,qf,by rw [upd_self];exact q3,by rw [upd_self];exact q4,q5,fun j v hj=>?_⟩
     obtain ⟨v',k1,k2⟩:=q6 j v hj
     have hv:=hl v (List.mem_of_getElem? hj)
     exact ⟨v',k1,by rw [k2.lit_inv hv];exact .lit _ hv⟩
 · rcases getElem_append_old hb with ⟨hlt,hb1⟩ | ⟨rfl,rfl⟩
   · rw [upd_ne _ _ (by omega)]
     rcases getElem_append_old hb' with ⟨hlt',hb2⟩ | ⟨rfl,rfl⟩
     · rw [upd_ne _ _ (by omega)]
       exact hF.h.inj b b' x x' hb1 hb2 hne ho1 hl1
     · rw [upd_self,← e.same hb1 (by cases x<;>simp_all [AObj.owned,AObj.live])]
       exact h1.h.inj b p x _ (by rw [hg b hlt];exact hb1) hx (by omega) ho1 rfl
   · rw [upd_self]
     rcases getElem_append_old hb' with ⟨hlt',hb2⟩ | ⟨rfl,rfl⟩
     · rw [upd_ne _ _ (by omega),← e.same hb2 hl1]
       exact h1.h.inj p b' _ x' hx (by rw [hg b' hlt'];exact hb2) (by omega) rfl hl1
     · exact absurd rfl hne
theorem acallsN_of {D:DrawK} (hD:∀ c:Ctx,@SoundK c P D) {f fn args H v H'} {k:Value→AHeap→Prop} (hf:P.funcs[f]?=some fn) (hn:notNG fn=true) (hr:kbodyN P D fn args H k)
  (hend:∀ {w0 s w s' H2 w' u u'},WRel w0 s H w→WRel w0 s' H2 w'→Ext s H s' H2→VRel s' H2 u u'→k u H2→AEnd w0 s H v H' (.returned u') w'):ACalls P f args H v H':=by
 intro w0 s w args' h hargs
 left
 unfold kbodyN at hr
 split at hr
 · rename_i c hb
   constructor
   · have hq : ¬ fn.name = "runtime.NumGoroutine" := by intro q; simp [notNG, q] at hn
     have hbn:¬ fn.body=none:=by rw [hb];simp
     simp [callFunc,hf,hq,hbn]
   · letI:Ctx:=⟨[],none⟩
     refine callsIn_wide.1 (callsIn_of_wp (F:=Fence.wide) (n:=0) hf hb trivial ?_ rfl)
     have hal:args.length=args'.size:=by have:=hargs.1;simpa using this
     have ha:ARel s H (args++List.replicate (fn.ntmps-args.length) undef) { tmps:=args'++Array.replicate (fn.ntmps-args'.size) undef,defers:=[] }:=by
      refine ⟨?_,rfl⟩
      simp only [Array.toList_append,Array.toList_replicate,hal]
      refine hargs.append ⟨by simp,fun i x y hx hy=>?_⟩
      rw [List.getElem?_replicate] at hx hy
      split at hx
      · rename_i hi
        rw [if_pos hi] at hy
        cases hx;cases hy
        exact undef_rel _ _
      · cases hx
     refine kxN_sound (hD _) c h ha hr ?_
     intro e sl' H2 hk s' a' w' g1 g2 g3
     cases e with
     | exit i=>cases hk
     | normal =>
       obtain ⟨l,h1,hl⟩:=kres_sound _ hk
       obtain ⟨v',k1,k2⟩:=run_ret (P:=P) fn g1.h g3 (aRet_of h1)
       exact ⟨g3.d,v',k1,hend h g1 g2 k2 hl⟩
     | ret =>
       obtain ⟨l,h1,hl⟩:=kres_sound _ hk
       obtain ⟨v',k1,k2⟩:=run_ret (P:=P) fn g1.h g3 (aRet_of h1)
       exact ⟨g3.d,v',k1,hend h g1 g2 k2 hl⟩
 · cases hr
theorem acallsN_row {D:DrawK} (hD:∀ c:Ctx,@SoundK c P D) {f fn args H T n z} {cs:List Value} (hf:P.funcs[f]?=some fn) (hn:notNG fn=true) (hl:∀ v∈cs,isLit v=true) (hz:cs.length=z)
  (hr:kbodyN P D fn args H fun u H2=>∃ X p,u=.slice (some ⟨p,0,some z⟩) n n∧H2=H++X∧H.length≤p∧H2[p]?=some (.cells cs T)) :
  ACalls P f args H (.slice (some ⟨H.length,0,some z⟩) n n) (H++[.cells cs T]):=by
 refine acallsN_of hD hf hn hr fun {w0 s w s' H2 w' u u'} h g1 g2 k2 hk=>?_
 obtain ⟨X,p,rfl,rfl,hp,hx⟩:=hk
 obtain ⟨a1,c1,rfl,t1,t2,t3,t4⟩:=k2.slice_inv (m:=z) (by simp [hlen,hx,AObj.len,hz])
 refine ⟨upd s H.length (s' p),_,rfl,h.keepRow g1 g2 hp hx hl,Ext.push _ _ _ _,.slice _ 0 z n n a1 c1 (by simp) fun L hL=>?_⟩
 have hL':cs.length=L:=by simpa [hlen,AObj.len] using hL
 refine ⟨by omega,fun _=>⟨fun h0=>by rw [upd_self];exact t1 h0,t2,t3,fun cs' T' hc=>?_⟩⟩
 obtain ⟨q1,q2⟩:=t4 cs T hx
 exact ⟨q1,fun sz hs=>by rw [upd_self];exact q2 sz (by omega)⟩
theorem acallsN_flat {D:DrawK} (hD:∀ c:Ctx,@SoundK c P D) {f fn args H v} (hf:P.funcs[f]?=some fn) (hn:notNG fn=true) (hc:isLit v=true)
  (hr:kbodyN P D fn args H fun u H2=>u=v∧∃ X,H2=H++X):ACalls P f args H v H:=by
 refine acallsN_of hD hf hn hr fun {w0 s w s' H2 w' u u'} h g1 g2 k2 hk=>?_
 obtain ⟨rfl,X,rfl⟩:=hk
 exact ⟨s,u',rfl,h.forget g1 g2,Ext.refl _ _,by rw [k2.lit_inv hc];exact .lit _ hc⟩
def bndN (v:Value) (H:AHeap) [q:QH]:Prop:=nexts H v q.f
end Go.Vi
namespace Go.Vi
open Go Go.Proofs Go.Proofs.Tryz
-- tocsin/swap.places[tocsin/api.Task]
def R12x0 (k:Value→AHeap→Prop):KontG:=(kblkG 0 (kseqG prog (drawStd prog) (cr (cr (cr (cb Tryz.f12)))) (kfinG prog Tryz.f12 k)))
theorem d12 (a0 a1:Value) (H:AHeap) (k:Value→AHeap→Prop):kbodyG prog (drawStd prog) Tryz.f12 [a0,a1] H k=(@bndE (aNew H 51 a1) ⟨fun v3x1 H2=>@bndE (some (Value.map (some H2.length),H2++[AObj.map
 []])) ⟨fun v8x3 H4=>@bndE (aAlloc prog H4 47) ⟨fun v5x5 H6=>@bndS (aStore prog H6 47 v5x5 v8x3) ⟨fun _ H8=>@bndC prog 27 [a0] H8 ⟨fun v10x9 H10=>krange prog v10x9 [a0,a1,undef,v3x1,(.map none),
 v5x5,undef,undef,v8x3,a0,v10x9,undef,undef,undef,undef,undef,undef,undef,undef] #[11,12] (cl (cl (cr (cl (cr (cr (cb Tryz.f12))))))) (cr (cl (cr (cl (cr (cr (cb Tryz.f12))))))) H10 [] (R12x0 k)⟩⟩⟩⟩⟩):=by
 kernel_rfl
theorem R12x0n (n o p q r c s t u v d e f g h i j l m:Value) (H:AHeap) (b:Nat) (k:Value→AHeap→Prop):R12x0 k .normal [n,o,p,q,r,c,s,t,u,v,d,e,f,g,h,i,
 j,l,m] H [b]=(@bnd (aLoad prog H 47 c) ⟨fun a=>H[b]?=some (AObj.loop LRec.blk)∧k a (H.set b (AObj.loop LRec.gone))⟩):=by kernel_rfl
theorem R12x0A (k l m n o p s t q r d b c e f g h i j:Value) (H:AHeap) (kk:Kont):kx prog (cl (cl (cr (cl (cr (cr (cb Tryz.f12))))))) [k,l,m,n,o,p,s,t,q,r,d,b,c,
 e,f,g,h,i,j] H kk=(@bndE (aAlloc prog H 44) ⟨fun a H13=>@bndS (aStore prog H13 44 a c) ⟨fun _ H15=>kk AExit.normal [k,l,m,n,o,p,b,a,q,r,d,b,c,e,f,
 g,h,i,j] H15⟩⟩):=by kernel_rfl
theorem R12x0B (m n o j p k e l q r f g h s t u v w i:Value) (H:AHeap) (kk:Kont):kx prog (cr (cl (cr (cl (cr (cr (cb Tryz.f12))))))) [m,n,o,j,p,k,e,l,q,r,f,g,h,
 s,t,u,v,w,i] H kk=(@bnd (aLoad prog H 47 k) ⟨fun b=>@bnd (aLoad prog H 51 j) ⟨fun c=>@bnd (aLoad prog H 44 l) ⟨fun d=>@bndD false H ⟨fun a H20=>callV prog
 c [d] H a H20⟩ ⟨fun a H20=>@bndD true H20 ⟨fun x21 H22=>x21=undef∧aUpdate prog H20 47 b a e=some H22⟩ ⟨fun _ H22=>kk AExit.normal [m,n,o,j,p,k,e,l,q,r,f,
 g,h,b,c,d,a,e,i] H22⟩⟩⟩⟩⟩):=by kernel_rfl
-- slices.Backward[[]tocsin/api.Task,tocsin/api.Task]$1
def L46x0 (n:Nat) (k:Value→AHeap→Prop) (sl:List Value) (H:AHeap):Prop:=kit prog (cl (cl (cr (cb Tryz.f46)))) n (kblk 0 (kfin prog Tryz.f46 k)) .normal sl H
theorem d46 (a0 a1:Value) (H:AHeap) (k:Value→AHeap→Prop):kbody prog Tryz.f46 [a0,a1] H k=(@bnd (aLoad prog H 23 a1) ⟨fun v4x1=>@bnd (aLen prog H 23 v4x1) ⟨fun v5x2=>@bnd (aBin2 prog H .sub 3
 (.tmp 5) (.const (.int .i64 1)) v5x2 (.int .i64 1)) ⟨fun v6x3=>∃ n,L46x0 n  k [a0,a1,undef,v6x3,v4x1,v5x2,v6x3,undef,undef,undef,undef,undef,undef,undef,undef,undef,undef,undef,undef] H⟩⟩⟩):=by kernel_rfl
theorem L46x0q (n0:Nat) (i j l a m n o y z A p q r s t u v w x:Value) (H:AHeap) (k:Value→AHeap→Prop):L46x0 (n0+1) k [i,j,l,a,m,n,o,y,z,A,p,q,r,s,t,
 u,v,w,x] H=(@bnd (aBin2 prog H .geq 3 (.tmp 7) (.const (.int .i64 0)) a (.int .i64 0)) ⟨fun h=>@kifB h ⟨@bnd (aLoad prog H 23 j) ⟨fun d=>@bnd (aIndexAddr prog H 23 d a) ⟨fun
 e=>@bnd (aLoad prog H 44 e) ⟨fun f=>@bndV prog i [a,f] H ⟨fun g H9=>@bnd (unV prog .not g) ⟨fun b=>@kifB b ⟨k (.tuple #[]) H9⟩ ⟨@bnd (aBin2 prog H9 .sub 3 (.tmp
 9) (.const (.int .i64 1)) a (.int .i64 1)) ⟨fun c=>L46x0 n0  k [i,j,l,c,m,n,o,a,h,a,c,i,a,d,a,e,f,g,b] H9⟩⟩⟩⟩⟩⟩⟩⟩ ⟨k (.tuple #[]) H⟩⟩):=by kernel_rfl
-- slices.Backward[[]tocsin/api.Task,tocsin/api.Task]
theorem d27 (a0:Value) (H:AHeap) (k:Value→AHeap→Prop):kbody prog Tryz.f27 [a0] H k=(@bndE (aNew H 23 a0) ⟨fun v1x1 H2=>k (.func (Fn.func 46) #[] #[v1x1]) H2⟩):=by kernel_rfl
-- tocsin/swap.places[tocsin/api.Rule]
def R26x0 (k:Value→AHeap→Prop):KontG:=(kblkG 0 (kseqG prog (drawStd prog) (cr (cr (cr (cb Tryz.f26)))) (kfinG prog Tryz.f26 k)))
theorem d26 (a0 a1:Value) (H:AHeap) (k:Value→AHeap→Prop):kbodyG prog (drawStd prog) Tryz.f26 [a0,a1] H k=(@bndE (aNew H 42 a1) ⟨fun v3x1 H2=>@bndE (some (Value.map (some H2.length),H2++[AObj.map
 []])) ⟨fun v8x3 H4=>@bndE (aAlloc prog H4 47) ⟨fun v5x5 H6=>@bndS (aStore prog H6 47 v5x5 v8x3) ⟨fun _ H8=>@bndC prog 45 [a0] H8 ⟨fun v10x9 H10=>krange prog v10x9 [a0,a1,undef,v3x1,(.map none),
 v5x5,undef,undef,v8x3,a0,v10x9,undef,undef,undef,undef,undef,undef,undef,undef] #[11,12] (cl (cl (cr (cl (cr (cr (cb Tryz.f26))))))) (cr (cl (cr (cl (cr (cr (cb Tryz.f26))))))) H10 [] (R26x0 k)⟩⟩⟩⟩⟩):=by
 kernel_rfl
theorem R26x0n (n o p q r c s t u v d e f g h i j l m:Value) (H:AHeap) (b:Nat) (k:Value→AHeap→Prop):R26x0 k .normal [n,o,p,q,r,c,s,t,u,v,d,e,f,g,h,i,
 j,l,m] H [b]=(@bnd (aLoad prog H 47 c) ⟨fun a=>H[b]?=some (AObj.loop LRec.blk)∧k a (H.set b (AObj.loop LRec.gone))⟩):=by kernel_rfl
theorem R26x0A (k l m n o p s t q r d b c e f g h i j:Value) (H:AHeap) (kk:Kont):kx prog (cl (cl (cr (cl (cr (cr (cb Tryz.f26))))))) [k,l,m,n,o,p,s,t,q,r,d,b,c,
 e,f,g,h,i,j] H kk=(@bndE (aAlloc prog H 40) ⟨fun a H13=>@bndS (aStore prog H13 40 a c) ⟨fun _ H15=>kk AExit.normal [k,l,m,n,o,p,b,a,q,r,d,b,c,e,f,
 g,h,i,j] H15⟩⟩):=by kernel_rfl
theorem R26x0B (m n o j p k e l q r f g h s t u v w i:Value) (H:AHeap) (kk:Kont):kx prog (cr (cl (cr (cl (cr (cr (cb Tryz.f26))))))) [m,n,o,j,p,k,e,l,q,r,f,g,h,
 s,t,u,v,w,i] H kk=(@bnd (aLoad prog H 47 k) ⟨fun b=>@bnd (aLoad prog H 42 j) ⟨fun c=>@bnd (aLoad prog H 40 l) ⟨fun d=>@bndD false H ⟨fun a H20=>callV prog
 c [d] H a H20⟩ ⟨fun a H20=>@bndD true H20 ⟨fun x21 H22=>x21=undef∧aUpdate prog H20 47 b a e=some H22⟩ ⟨fun _ H22=>kk AExit.normal [m,n,o,j,p,k,e,l,q,r,f,
 g,h,b,c,d,a,e,i] H22⟩⟩⟩⟩⟩):=by kernel_rfl
-- slices.Backward[[]tocsin/api.Rule,tocsin/api.Rule]$1
def L76x0 (n:Nat) (k:Value→AHeap→Prop) (sl:List Value) (H:AHeap):Prop:=kit prog (cl (cl (cr (cb Tryz.f76)))) n (kblk 0 (kfin prog Tryz.f76 k)) .normal sl H
theorem d76 (a0 a1:Value) (H:AHeap) (k:Value→AHeap→Prop):kbody prog Tryz.f76 [a0,a1] H k=(@bnd (aLoad prog H 26 a1) ⟨fun v4x1=>@bnd (aLen prog H 26 v4x1) ⟨fun v5x2=>@bnd (aBin2 prog H .sub 3
 (.tmp 5) (.const (.int .i64 1)) v5x2 (.int .i64 1)) ⟨fun v6x3=>∃ n,L76x0 n  k [a0,a1,undef,v6x3,v4x1,v5x2,v6x3,undef,undef,undef,undef,undef,undef,undef,undef,undef,undef,undef,undef] H⟩⟩⟩):=by kernel_rfl
theorem L76x0q (n0:Nat) (i j l a m n o y z A p q r s t u v w x:Value) (H:AHeap) (k:Value→AHeap→Prop):L76x0 (n0+1) k [i,j,l,a,m,n,o,y,z,A,p,q,r,s,t,
 u,v,w,x] H=(@bnd (aBin2 prog H .geq 3 (.tmp 7) (.const (.int .i64 0)) a (.int .i64 0)) ⟨fun h=>@kifB h ⟨@bnd (aLoad prog H 26 j) ⟨fun d=>@bnd (aIndexAddr prog H 26 d a) ⟨fun
 e=>@bnd (aLoad prog H 40 e) ⟨fun f=>@bndV prog i [a,f] H ⟨fun g H9=>@bnd (unV prog .not g) ⟨fun b=>@kifB b ⟨k (.tuple #[]) H9⟩ ⟨@bnd (aBin2 prog H9 .sub 3 (.tmp
 9) (.const (.int .i64 1)) a (.int .i64 1)) ⟨fun c=>L76x0 n0  k [i,j,l,c,m,n,o,a,h,a,c,i,a,d,a,e,f,g,b] H9⟩⟩⟩⟩⟩⟩⟩⟩ ⟨k (.tuple #[]) H⟩⟩):=by kernel_rfl
-- slices.Backward[[]tocsin/api.Rule,tocsin/api.Rule]
theorem d45 (a0:Value) (H:AHeap) (k:Value→AHeap→Prop):kbody prog Tryz.f45 [a0] H k=(@bndE (aNew H 26 a0) ⟨fun v1x1 H2=>k (.func (Fn.func 76) #[] #[v1x1]) H2⟩):=by kernel_rfl
-- cmp.isNaN[int]
theorem d30 (a0:Value) (H:AHeap) (k:Value→AHeap→Prop):kbody prog Tryz.f30 [a0] H k=(@bnd (aBin2 prog H .neq 3 (.tmp 3) (.tmp 4) a0 a0) ⟨fun v5x1=>k v5x1 H⟩):=by kernel_rfl
-- cmp.isNaN[uint32]
theorem d31 (a0:Value) (H:AHeap) (k:Value→AHeap→Prop):kbody prog Tryz.f31 [a0] H k=(@bnd (aBin2 prog H .neq 41 (.tmp 3) (.tmp 4) a0 a0) ⟨fun v5x1=>k v5x1 H⟩):=by kernel_rfl
-- cmp.Compare[int]
theorem d17 (a0 a1:Value) (H:AHeap) (k:Value→AHeap→Prop):kbody prog Tryz.f17 [a0,a1] H k=(@bndC prog 30 [a0] H ⟨fun v8x1 H2=>@bndC prog 30 [a1] H2 ⟨fun v10x3 H4=>@kifB v8x1 ⟨@kifB v10x3 ⟨k (.int
 .i64 0) H4⟩ ⟨k (.int .i64 (-1)) H4⟩⟩ ⟨@kifB v10x3 ⟨k (.int .i64 1) H4⟩ ⟨@bnd (aBin2 prog H4 .lss 3 (.tmp 14) (.tmp 15) a0 a1) ⟨fun v16x5=>@kifB v16x5 ⟨k (.int .i64 (-1)) H4⟩ ⟨@bnd (aBin2 prog H4 .gtr 3 (.tmp 17)
 (.tmp 18) a0 a1) ⟨fun v19x6=>@kifB v19x6 ⟨k (.int .i64 1) H4⟩ ⟨k (.int .i64 0) H4⟩⟩⟩⟩⟩⟩⟩⟩):=by kernel_rfl
-- cmp.Compare[uint32]
theorem d18 (a0 a1:Value) (H:AHeap) (k:Value→AHeap→Prop):kbody prog Tryz.f18 [a0,a1] H k=(@bndC prog 31 [a0] H ⟨fun v8x1 H2=>@bndC prog 31 [a1] H2 ⟨fun v10x3 H4=>@kifB v8x1 ⟨@kifB v10x3 ⟨k (.int
 .i64 0) H4⟩ ⟨k (.int .i64 (-1)) H4⟩⟩ ⟨@kifB v10x3 ⟨k (.int .i64 1) H4⟩ ⟨@bnd (aBin2 prog H4 .lss 41 (.tmp 14) (.tmp 15) a0 a1) ⟨fun v16x5=>@kifB v16x5 ⟨k (.int .i64 (-1)) H4⟩ ⟨@bnd (aBin2 prog H4 .gtr 41 (.tmp 17)
 (.tmp 18) a0 a1) ⟨fun v19x6=>@kifB v19x6 ⟨k (.int .i64 1) H4⟩ ⟨k (.int .i64 0) H4⟩⟩⟩⟩⟩⟩⟩⟩):=by kernel_rfl
-- cmp.Or[int]
def L16x0 (n:Nat) (k:Value→AHeap→Prop) (sl:List Value) (H:AHeap):Prop:=kit prog (cl (cl (cr (cl (cr (cr (cb Tryz.f16))))))) n (kblk 0 (kseq prog (cr (cr (cr (cb Tryz.f16)))) (kfin prog Tryz.f16 k)))
 .normal sl H
theorem d16 (a0:Value) (H:AHeap) (k:Value→AHeap→Prop):kbody prog Tryz.f16 [a0] H k=(@bnd (aLen prog H 77 a0) ⟨fun v7x1=>∃ n,L16x0 n  k [a0,undef,(.int .i64 0),(.int .i64 0),undef,undef,a0,v7x1,
 (.int .i64 0),undef,undef,undef,undef,undef,undef,undef,undef,undef] H⟩):=by kernel_rfl
theorem L16x0q (n0:Nat) (m n o e p w j l g x q r s t u h v i:Value) (H:AHeap) (k:Value→AHeap→Prop):L16x0 (n0+1) k [m,n,o,e,p,w,j,l,g,x,q,r,s,t,u,h,
 v,i] H=(@bnd (aBin2 prog H .lss 3 (.tmp 8) (.tmp 7) g l) ⟨fun f=>@kifB f ⟨@bnd (aIndexAddr prog H 77 j g) ⟨fun b=>@bnd (aLoad prog H 3 b) ⟨fun a=>@bnd (aBin2 prog H .neq 3
 (.tmp 12) (.tmp 13) a e) ⟨fun c=>@kifB c ⟨k a H⟩ ⟨@bnd (aBin2 prog H .add 3 (.tmp 8) (.const (.int .i64 1)) g (.int .i64 1)) ⟨fun d=>L16x0 n0  k [m,n,o,e,p,a,j,l,d,f,
 b,a,a,e,c,h,d,i] H⟩⟩⟩⟩⟩⟩ ⟨k e H⟩⟩):=by kernel_rfl
-- tocsin/swap.Tasks$2
theorem d15 (a0 a1:Value) (H:AHeap) (k:Value→AHeap→Prop):kbody prog Tryz.f15 [a0,a1] H k=(@bndE (aNew H 44 a0) ⟨fun e H2=>@bndE (aNew H2 44 a1) ⟨fun f H4=>@bnd (aFieldAddr prog H4 44 e 1)
 ⟨fun l=>@bnd (aLoad prog H4 3 l) ⟨fun m=>@bnd (aFieldAddr prog H4 44 f 1) ⟨fun n=>@bnd (aLoad prog H4 3 n) ⟨fun o=>@bndD false H4 ⟨fun d H10=>ACalls prog 17 [m,o] H4
 d H10⟩ ⟨fun d H10=>@bnd (aFieldAddr prog H4 44 e 0) ⟨fun g=>@bnd (aLoad prog H4 41 g) ⟨fun h=>@bnd (aFieldAddr prog H4 44 f 0) ⟨fun i=>@bnd (aLoad prog H4 41 i)
 ⟨fun j=>@bndD true H10 ⟨fun a H16=>ACalls prog 18 [h,j] H10 a H16⟩ ⟨fun a H16=>@bndD true H16 ⟨fun b H18=>sliceLit prog H16 77 2 [(0,d),(1,a)] b H18⟩ ⟨fun
 b H18=>@bndD true H18 ⟨fun c H20=>ACalls prog 16 [b] H18 c H20⟩ ⟨fun c H20=>k c H20⟩⟩⟩⟩⟩⟩⟩⟩⟩⟩⟩⟩⟩⟩):=by kernel_rfl
-- slices.insertionSortCmpFunc[tocsin/api.Task]
def L47x0 (n:Nat) (k:Value→AHeap→Prop) (sl:List Value) (H:AHeap):Prop:=kitG prog (drawKeep prog) (cl (cl (cr (cb Tryz.f47)))) n (kblkG 0 (kfinG prog Tryz.f47 k)) .normal sl H []
def L47x1 (n:Nat) (n0:Nat) (k:Value→AHeap→Prop) (sl:List Value) (H:AHeap):Prop:=kitG prog (drawKeep prog) (cl (cl (cr (cl (cl (cr (cl (cl (cr (cb Tryz.f47)))))))))) n (kblkG 2 (kblkG 1 (kseqG prog
 (drawKeep prog) (cr (cr (cl (cl (cr (cb Tryz.f47)))))) (kitG prog (drawKeep prog) (cl (cl (cr (cb Tryz.f47)))) n0 (kblkG 0 (kfinG prog Tryz.f47 k)))))) .normal sl H []
theorem d47 (a0 a1 a2 a3:Value) (H:AHeap) (k:Value→AHeap→Prop):kbodyG prog (drawKeep prog) Tryz.f47 [a0,a1,a2,a3] H k=(@bnd (aBin2 prog H .add 3 (.tmp 10) (.const (.int .i64 1)) a1 (.int .i64 1))
 ⟨fun v11x1=>∃ n,L47x0 n  k [a0,a1,a2,a3,undef,undef,undef,undef,v11x1,undef,a1,v11x1,undef,undef,undef,undef,undef,undef,undef,undef,undef,undef,undef,undef,undef,undef,undef,undef,undef,undef,
 undef,undef,undef,undef,undef,undef,undef,undef,undef,undef,undef,undef,undef,undef,undef,undef,undef,undef,undef,undef,undef,undef,undef] H⟩):=by kernel_rfl
theorem L47x0q (n0:Nat) (T U c V W X Y Z b s9 d e aa ab ac f g ad h i j l m o p q r s t u v w x y z A B C D E F G I J K L M N O P Q R S
:Value) (H:AHeap) (k:Value→AHeap→Prop):L47x0 (n0+1) k [T,U,c,V,W,X,Y,Z,b,s9,d,e,aa,ab,ac,f,g,ad,h,i,j,l,m,o,p,q,r,s,t,u,v,w,x,y,
 z,A,B,C,D,E,F,G,I,J,K,L,M,N,O,P,Q,R,S] H=(@bnd (aBin2 prog H .lss 3 (.tmp 12) (.tmp 13) b c) ⟨fun a=>@kifB a ⟨∃ n,L47x1 n n0 k [T,U,c,V,W,X,
 Y,Z,b,b,d,e,b,c,a,f,g,b,h,i,j,l,m,o,p,q,r,s,t,u,v,w,x,y,z,A,B,C,D,E,F,G,I,J,K,L,M,N,O,P,Q,R,
 S] H⟩ ⟨k (.tuple #[]) H⟩⟩):=by kernel_rfl
theorem L47x1q (n1:Nat) (n0:Nat) (p T s2 U s4 s5 s6 s7 V c N O P Q R W X S aq ar au av aw ax ay az aA aB aC aD aE aF aG aH aI Y Z aa ab ac ad ae af ag ah ai aj ak al am
 an ao ap:Value) (H:AHeap) (k:Value→AHeap→Prop):L47x1 (n1+1) n0 k [p,T,s2,U,s4,s5,s6,s7,V,c,N,O,P,Q,R,W,X,S,aq,ar,au,av,aw,ax,ay,az,aA,aB,aC,aD,aE,
 aF,aG,aH,aI,Y,Z,aa,ab,ac,ad,ae,af,ag,ah,ai,aj,ak,al,am,an,ao,ap] H=(@bnd ((some c)) ⟨fun q=>@bnd ((some T)) ⟨fun r=>@bnd (aBin2 prog H .gtr 3 (.tmp 18) (.tmp 19)
 q r) ⟨fun s=>@bnd ((some s)) ⟨fun a=>@bnd (gif a true ((some U)) undef) ⟨fun t=>@bnd (gif a true ((some p)) undef) ⟨fun u=>@bnd (gif a true ((some c)) undef) ⟨fun v=>@bnd
 (gif a true (aIndexAddr prog H 23 u v) undef) ⟨fun d=>@bnd (gif a true (aLoad prog H 44 d) undef) ⟨fun e=>@bnd (gif a true ((some p)) undef) ⟨fun f=>@bnd (gif a true
 ((some c)) undef) ⟨fun g=>@bnd (gif a true (aBin2 prog H .sub 3 (.tmp 28) (.const (.int .i64 1)) g (.int .i64 1)) undef) ⟨fun h=>@bnd (gif a true (aIndexAddr prog H 23 f h) undef)
 ⟨fun i=>@bnd (gif a true (aLoad prog H 44 i) undef) ⟨fun j=>@bndK true true H ⟨fun b H18=>gifp a true (callV prog t [e,j] H b H18) (b=undef∧H18=H)⟩ ⟨fun
 _ _=>True⟩ ⟨fun b H18=>@bnd (gif a true (aBin2 prog H18 .lss 3 (.tmp 32) (.const (.int .i64 0)) b (.int .i64 0)) undef) ⟨fun l=>@bnd (pickV a l (.bool false)) ⟨fun m=>@kifB m
 ⟨@bnd ((some p)) ⟨fun w=>@bnd ((some c)) ⟨fun x=>@bnd ((some p)) ⟨fun y=>@bnd ((some c)) ⟨fun n=>@bnd (aBin2 prog H18 .sub 3 (.tmp 40) (.const (.int .i64 1)) n (.int .i64 1)) ⟨fun
 o=>@bnd ((some p)) ⟨fun z=>@bnd ((some c)) ⟨fun A=>@bnd (aBin2 prog H18 .sub 3 (.tmp 43) (.const (.int .i64 1)) A (.int .i64 1)) ⟨fun B=>@bnd (aIndexAddr prog H18 23 z B)
 ⟨fun C=>@bnd (aLoad prog H18 44 C) ⟨fun D=>@bnd ((some p)) ⟨fun E=>@bnd ((some c)) ⟨fun F=>@bnd (aIndexAddr prog H18 23 E F) ⟨fun G=>@bnd (aLoad prog H18 44
 G) ⟨fun I=>@bnd (aIndexAddr prog H18 23 w x) ⟨fun J=>@bndK false true H18 ⟨fun x36 H37=>x36=undef∧aStore prog H18 44 J D=some H37⟩ ⟨fun _ H37=>aBin2 prog H37 .sub
 3 (.tmp 40) (.const (.int .i64 1)) n (.int .i64 1)=some o∧True⟩ ⟨fun _ H37=>@bnd (aIndexAddr prog H37 23 y o) ⟨fun K=>@bndK true true H37 ⟨fun x39 H40=>x39=undef∧aStore prog H37
 44 K I=some H40⟩ ⟨fun _ _=>True⟩ ⟨fun _ H40=>@bnd (aBin2 prog H40 .sub 3 (.tmp 35) (.const (.int .i64 1)) c (.int .i64 1)) ⟨fun L=>L47x1 n1 n0 k [p,T,s2,U,s4,s5,s6,s7,V,L,N,
 O,P,Q,R,W,X,S,q,r,s,a,t,u,v,d,e,f,g,h,i,j,b,l,m,c,L,w,x,y,n,o,z,
 A,B,C,D,E,F,G,I,J,K] H40⟩⟩⟩⟩⟩⟩⟩⟩⟩⟩⟩⟩⟩⟩⟩⟩⟩⟩⟩⟩ ⟨@bnd (aBin2 prog H18 .add 3 (.tmp 15) (.const (.int .i64 1)) V (.int .i64 1)) ⟨fun M=>L47x0 n0  k [p,T,
 s2,U,s4,s5,s6,s7,M,c,N,O,P,Q,R,V,M,S,q,r,s,a,t,u,v,d,e,f,g,h,i,j,b,l,m,Y,Z,aa,ab,
 ac,ad,ae,af,ag,ah,ai,aj,ak,al,am,an,ao,ap] H18⟩⟩⟩⟩⟩⟩⟩⟩⟩⟩⟩⟩⟩⟩⟩⟩⟩⟩⟩):=by kernel_rfl
-- tocsin/swap.First
theorem d8 (a0 a1:Value) (H:AHeap) (k:Value→AHeap→Prop):kbody prog Tryz.f8 [a0,a1] H k=(@bndE (aBuiltin prog H Builtin.max #[3,3] [a0,(.int .i64 1)]) ⟨fun v6x1 H2=>@bnd (aBin2 prog H2 .lss 3
 (.tmp 7) (.const (.int .i64 0)) a1 (.int .i64 0)) ⟨fun v8x3=>@kifB v8x3 ⟨k (.int .i64 0) H2⟩ ⟨@bnd (aBin2 prog H2 .rem 3 (.tmp 10) (.tmp 11) a1 v6x1) ⟨fun v12x4=>@bnd (aBin2 prog H2 .sub 3 (.tmp 9) (.tmp 12) a1
 v12x4) ⟨fun v13x5=>@bnd (aBin2 prog H2 .add 3 (.tmp 13) (.tmp 14) v13x5 v6x1) ⟨fun v15x6=>k v15x6 H2⟩⟩⟩⟩⟩⟩):=by kernel_rfl
-- tocsin/swap.rules
theorem d11 (a0:Value) (H:AHeap) (k:Value→AHeap→Prop):kbody prog Tryz.f11 [a0] H k=(@bndE (aNew H 29 a0) ⟨fun v1x1 H2=>@bnd (aFieldAddr prog H2 29 v1x1 0) ⟨fun v3x3=>@bnd (aLoad prog H2 26 v3x3)
 ⟨fun v4x4=>@bndC prog 26 [v4x4,(.func (.func 10) #[] #[])] H2 ⟨fun v5x5 H6=>k v5x5 H6⟩⟩⟩⟩):=by kernel_rfl
-- tocsin/swap.Alerts
def L6x0 (n:Nat) (k:Value→AHeap→Prop) (sl:List Value) (H:AHeap):Prop:=kit prog (cl (cl (cr (cl (cr (cr (cr (cb Tryz.f6)))))))) n (kblk 0 (kseq prog (cr (cr (cr (cr (cb Tryz.f6))))) (kfin prog
 Tryz.f6 k))) .normal sl H
def S6x0 (n0:Nat) (k:Value→AHeap→Prop) (sl:List Value) (H:AHeap):Prop:=kseq prog (cr (cr (cr (cl (cl (cr (cl (cr (cr (cr (cb Tryz.f6))))))))))) (kit prog (cl (cl (cr (cl (cr (cr (cr (cb Tryz.f6))))))))
 n0 (kblk 0 (kseq prog (cr (cr (cr (cr (cb Tryz.f6))))) (kfin prog Tryz.f6 k)))) .normal sl H
theorem d6 (a0 a1:Value) (H:AHeap) (k:Value→AHeap→Prop):kbody prog Tryz.f6 [a0,a1] H k=(@bndE (aNew H 29 a1) ⟨fun v3x1 H2=>@bnd (aLoad prog H2 29 v3x1) ⟨fun v11x3=>@bndC prog 11 [v11x3] H2 ⟨fun
 v12x4 H5=>@bnd (aLen prog H5 22 a0) ⟨fun v14x6=>∃ n,L6x0 n  k [a0,a1,undef,v3x1,(.slice none 0 0),v12x4,(.slice none 0 0),undef,undef,undef,undef,v11x3,v12x4,a0,v14x6,(.int .i64 0),undef,undef,undef,
 undef,undef,undef,undef,undef,undef,undef,undef,undef,undef,undef,undef,undef,undef] H5⟩⟩⟩⟩):=by kernel_rfl
theorem L6x0q (n0:Nat) (A B C D E q r F T U G s t o p j I J K L M N O P Q R S w x y z u v:Value) (H:AHeap) (k:Value→AHeap→Prop):L6x0 (n0+1) k [A,B,C,
 D,E,q,r,F,T,U,G,s,t,o,p,j,I,J,K,L,M,N,O,P,Q,R,S,w,x,y,z,u,v] H=(@bnd (aBin2 prog H .lss 3 (.tmp 15) (.tmp 14) j p) ⟨fun g=>@kifB
 g ⟨@bnd (aIndexAddr prog H 22 o j) ⟨fun h=>@bnd (aLoad prog H 46 h) ⟨fun i=>@bndE (aAlloc prog H 46) ⟨fun c H11=>@bndS (aStore prog H11 46 c i) ⟨fun _ H13=>@bnd
 (aFieldAddr prog H13 46 c 0) ⟨fun e=>@bnd (aLoad prog H13 41 e) ⟨fun f=>@bnd (aLookup prog H13 47 q f true) ⟨fun b=>@bnd (tupV b 0) ⟨fun d=>@bnd (tupV b 1)
 ⟨fun a=>@kifB a ⟨@bnd (aLoad prog H13 46 c) ⟨fun l=>@bndL prog H13 22 1 [(0,l)] ⟨fun m H21=>@bndE (aBuiltin prog H21 Builtin.append #[22,22] [r,m]) ⟨fun n H23 =>
 S6x0 n0 k [A,B,C,D,E,q,n,F,c,d,a,s,t,o,p,j,g,h,i,b,q,e,f,b,d,a,a,r,l,m,n,u,v] H23⟩⟩⟩⟩ ⟨S6x0
 n0 k [A,B,C,D,E,q,r,F,c,d,a,s,t,o,p,j,g,h,i,b,q,e,f,b,d,a,a,w,x,y,z,u,v] H13⟩⟩⟩⟩⟩⟩⟩⟩⟩⟩⟩ ⟨k r H⟩⟩) :=
 by kernel_rfl
theorem S6x0q (n0:Nat) (y z A B C D E F G I b c d e f g h i j l m n o p q r s t u v w J x:Value) (H:AHeap) (k:Value→AHeap→Prop):S6x0 n0 k [y,z,A,B,C,
 D,E,F,G,I,b,c,d,e,f,g,h,i,j,l,m,n,o,p,q,r,s,t,u,v,w,J,x] H=(@bnd (aBin2 prog H .add 3 (.tmp 15) (.const (.int .i64 1)) g (.int .i64 1)) ⟨fun
 a=>L6x0 n0  k [y,z,A,B,C,D,E,F,G,I,b,c,d,e,f,a,h,i,j,l,m,n,o,p,q,r,s,t,u,v,w,a,x] H⟩):=by kernel_rfl
-- tocsin/swap.Tasks
def L7x0 (n:Nat) (k:Value→AHeap→Prop) (sl:List Value) (H:AHeap):Prop:=kitN prog (drawStd prog) (cl (cl (cr (cl (cr (cr (cr (cb Tryz.f7)))))))) n (kblk 0 (kseqN prog (drawStd prog) (cr (cr (cr
 (cr (cb Tryz.f7))))) (kfin prog Tryz.f7 k))) .normal sl H
def S7x0 (n0:Nat) (k:Value→AHeap→Prop) (sl:List Value) (H:AHeap):Prop:=kseqN prog (drawStd prog) (cr (cr (cr (cl (cr (cr (cl (cl (cr (cl (cr (cr (cr (cb Tryz.f7)))))))))))))) (kblk 1 (kitN prog
 (drawStd prog) (cl (cl (cr (cl (cr (cr (cr (cb Tryz.f7)))))))) n0 (kblk 0 (kseqN prog (drawStd prog) (cr (cr (cr (cr (cb Tryz.f7))))) (kfin prog Tryz.f7 k))))) .normal sl H
theorem d7 (a0 a1 a2:Value) (H:AHeap) (k:Value→AHeap→Prop):kbodyN prog (drawStd prog) Tryz.f7 [a0,a1,a2] H k=(@bndE (aNew H 29 a1) ⟨fun v4x1 H2=>@bndC prog 12 [a0,(.func (.func 13) #[] #[])] H2
 ⟨fun v15x3 H4=>@bnd (aLoad prog H4 29 v4x1) ⟨fun v16x5=>@bndC prog 11 [v16x5] H4 ⟨fun v17x6 H7=>@bndE (aRange prog H7 47 v17x6) ⟨fun v18x8 H9=>∃ n,L7x0 n  k [a0,a1,a2,undef,v4x1,undef,(.slice none
 0 0),v15x3,(.slice none 0 0),undef,undef,undef,undef,undef,a0,v15x3,v16x5,v17x6,v18x8,undef,undef,undef,undef,undef,undef,undef,undef,undef,undef,undef,undef,undef,undef,undef,undef,undef,undef,
 undef,undef,undef,undef,undef,undef,undef,undef,undef,undef,undef,undef,undef,undef,undef] H9⟩⟩⟩⟩⟩):=by kernel_rfl
theorem L7x0q (n0:Nat) (w Q u R L S T v x s9 U V W X y A B C r Y Z aa ab ac ad ae af ag ah ai aj ak al am an ao ap aq ar au av M N O P D E F G I J K :
 Value) (H:AHeap) (k:Value→AHeap→Prop):L7x0 (n0+1) k [w,Q,u,R,L,S,T,v,x,s9,U,V,W,X,y,A,B,C,r,Y,Z,aa,ab,ac,ad,ae,af,ag,ah,ai,aj,ak,al,am,
 an,ao,ap,aq,ar,au,av,M,N,O,P,D,E,F,G,I,J,K] H=(@bndN r H ⟨fun h H11=>@bnd (tupV h 0) ⟨fun i=>@kifB i ⟨@bndE ((aEntry H11 r).map (fun z=>(z,H11)))
 ⟨fun f H14=>@bnd (tupV f 0) ⟨fun a=>@bnd (tupV f 1) ⟨fun b=>@bnd (aFieldAddr prog H14 29 L 0) ⟨fun j=>@bnd (aLoad prog H14 26 j) ⟨fun l=>@bnd (aIndexAddr prog
 H14 26 l b) ⟨fun m=>@bnd (aFieldAddr prog H14 40 m 4) ⟨fun n=>@bnd (aLoad prog H14 3 n) ⟨fun o=>@bndC prog 8 [o,u] H14 ⟨fun p H23=>@bnd (buildV prog 44
 [(0,a),(1,p)]) ⟨fun q=>@bndE (aAlloc prog H23 44) ⟨fun g H26=>@bndS (aStore prog H26 44 g q) ⟨fun _ H28=>@bnd (aLookup prog H28 47 v a true) ⟨fun d=>@bnd (tupV
 d 0) ⟨fun e=>@bnd (tupV d 1) ⟨fun c=>@kifB c ⟨@bnd (aIndexAddr prog H28 23 w e) ⟨fun s=>@bnd (aLoad prog H28 44 s) ⟨fun t=>@bndS (aStore prog H28 44 g
 t) ⟨fun _ H35=>S7x0 n0 k [w,Q,u,R,L,S,T,v,x,a,b,g,e,c,y,A,B,C,r,h,i,f,a,b,a,j,l,b,m,n,
 o,u,p,q,d,v,a,d,e,c,c,w,e,s,t,D,E,F,G,I,J,K] H35⟩⟩⟩⟩ ⟨S7x0 n0 k [w,Q,u,R,L,S,T,v,x,a,b,g,
 e,c,y,A,B,C,r,h,i,f,a,b,a,j,l,b,m,n,o,u,p,q,d,v,a,d,e,c,c,M,N,O,
 P,D,E,F,G,I,J,K] H28⟩⟩⟩⟩⟩⟩⟩⟩⟩⟩⟩⟩⟩⟩⟩⟩⟩ ⟨@bndC prog 14 [x,(.func (.func 15) #[] #[])] H11 ⟨fun _ H37=>k x H37⟩⟩⟩⟩):=by kernel_rfl
theorem S7x0q (n0:Nat) (S T U V W X Y Z R s9 e d f g h i j l m n o p q r s t u v w x y z A B C D E F G I J K L M N aa ab ac ad O P Q :
 Value) (H:AHeap) (k:Value→AHeap→Prop):S7x0 n0 k [S,T,U,V,W,X,Y,Z,R,s9,e,d,f,g,h,i,j,l,m,n,o,p,q,r,s,t,u,v,w,x,y,z,A,B,C,
 D,E,F,G,I,J,K,L,M,N,aa,ab,ac,ad,O,P,Q] H=(@bnd (aLoad prog H 44 d) ⟨fun a=>@bndL prog H 23 1 [(0,a)] ⟨fun b H40=>@bndE (aBuiltin prog H40
 Builtin.append #[23,23] [R,b]) ⟨fun c H42=>L7x0 n0  k [S,T,U,V,W,X,Y,Z,c,s9,e,d,f,g,h,i,j,l,m,n,o,p,q,r,s,t,u,v,w,x,y,z,
 A,B,C,D,E,F,G,I,J,K,L,M,N,R,a,b,c,O,P,Q] H42⟩⟩⟩):=by kernel_rfl
-- tocsin/swap.Tasks$1
theorem d13 (a0:Value) (H:AHeap) (k:Value→AHeap→Prop):kbody prog Tryz.f13 [a0] H k=(@bndE (aNew H 44 a0) ⟨fun v1x1 H2=>@bnd (aFieldAddr prog H2 44 v1x1 0) ⟨fun v3x3=>@bnd (aLoad prog H2 41 v3x3)
 ⟨fun v4x4=>k v4x4 H2⟩⟩⟩):=by kernel_rfl
-- math/bits.Len
theorem d29 (a0:Value) (H:AHeap) (k:Value→AHeap→Prop):kbody prog Tryz.f29 [a0] H k=(@kifB (.bool false) ⟨@bnd (convV prog H 76 41 a0) ⟨fun v4x1=>@bndC prog 55 [v4x1] H ⟨fun v5x2 H3=>k v5x2 H3⟩⟩⟩
 ⟨@bndC prog 56 [a0] H ⟨fun v7x4 H5=>k v7x4 H5⟩⟩):=by kernel_rfl
-- slices.pdqsortCmpFunc[tocsin/api.Task]
def L28x0 (n:Nat) (k:Value→AHeap→Prop) (sl:List Value) (H:AHeap):Prop:=kit prog (cl (cl (cr (cr (cb Tryz.f28))))) n (kblk 0 (kfin prog Tryz.f28 k)) .normal sl H
def S28x0 (n0:Nat) (k:Value→AHeap→Prop) (sl:List Value) (H:AHeap):Prop:=kseq prog (cr (cr (cr (cr (cl (cl (cl (cr (cr (cb Tryz.f28)))))))))) (kblk 1 (kit prog (cl (cl (cr (cr (cb Tryz.f28))))) n0 (kblk 0
 (kfin prog Tryz.f28 k)))) .normal sl H
theorem d28 (a0 a1 a2 a3 a4:Value) (H:AHeap) (k:Value→AHeap→Prop):kbody prog Tryz.f28 [a0,a1,a2,a3,a4] H k=(∃ n,L28x0 n  k [a0,a1,a2,a3,a4,undef,undef,undef,undef,undef,(.bool true),(.bool
 true),undef,undef,undef,undef,undef,undef,undef,undef,undef,undef,undef,undef,undef,undef,undef,undef,undef,undef,undef,undef,undef,undef,undef,undef,undef,undef,undef,undef,undef,undef,undef,
 undef,undef,undef,undef,undef,undef,undef,undef,undef,undef,undef,undef,undef,undef,undef,undef,undef,undef,undef,undef,undef,undef,undef,undef,undef,undef,undef,undef,undef,undef,undef,undef,
 undef,undef,undef,undef,undef,undef,undef,undef,undef,undef,undef,undef,undef,undef,undef,undef,undef,undef,undef,undef,undef,undef,undef,undef,undef,undef,undef,undef,undef,undef,undef,undef,
 undef,undef,undef,undef,undef,undef,undef,undef,undef,undef,undef,undef,undef,undef,undef,undef,undef,undef,undef,undef,undef,undef,undef,undef,undef,undef,undef,undef,undef,undef,undef,undef,
 undef,undef,undef,undef,undef,undef,undef,undef,undef] H):=by kernel_rfl
theorem L28x0q (n0:Nat) (i b c j l s5 s6 s7 s8 s9 d aj bE ak al am an ao ap aq ar bF bG bH bI bJ au av aw ax ay bK bL az aA aB aC aD bM bN bw bx bz bA bB bC bD aE aF aG aH aI aJ
 aK aL aM aN aO aP aQ aR aS aT aU aV aW aX aY aZ a0 a1 a2 a3 a4 a5 a6 a7 a8 a9 ba bb bc bd be bf bg bh bi bj bk bl bm bn bo bp bq br bs bt bu m n o p q r s t
 u v w x y z A B C D E F G I J K L M N O P Q R S T U V W X Y Z aa ab ac ad ae af ag ah ai:Value) (H:AHeap) (k :
 Value→AHeap→Prop):L28x0 (n0+1) k [i,b,c,j,l,s5,s6,s7,s8,s9,d,aj,bE,ak,al,am,an,ao,ap,aq,ar,bF,bG,bH,bI,bJ,au,av,aw,ax,ay,bK,bL,az,aA,aB,aC,aD,bM,
 bN,bw,bx,bz,bA,bB,bC,bD,aE,aF,aG,aH,aI,aJ,aK,aL,aM,aN,aO,aP,aQ,aR,aS,aT,aU,aV,aW,aX,aY,aZ,a0,a1,a2,a3,a4,a5,a6,a7,a8,a9,ba,bb,bc,bd,be,
 bf,bg,bh,bi,bj,bk,bl,bm,bn,bo,bp,bq,br,bs,bt,bu,m,n,o,p,q,r,s,t,u,v,w,x,y,z,A,B,C,D,E,F,G,I,J,K,
 L,M,N,O,P,Q,R,S,T,U,V,W,X,Y,Z,aa,ab,ac,ad,ae,af,ag,ah,ai] H=(@bnd (aBin2 prog H .sub 3 (.tmp 21) (.tmp 22) c b) ⟨fun a=>@bnd
 (aBin2 prog H .leq 3 (.tmp 24) (.const (.int .i64 12)) a (.int .i64 12)) ⟨fun e=>@kifB e ⟨@bndC prog 47 [i,b,c,l] H ⟨fun _ H4=>k (.tuple #[]) H4⟩⟩ ⟨@bnd (aBin2 prog H .eql 3 (.tmp 31)
 (.const (.int .i64 0)) j (.int .i64 0)) ⟨fun f=>@kifB f ⟨@bndC prog 48 [i,b,c,l] H ⟨fun _ H7=>k (.tuple #[]) H7⟩⟩ ⟨@bnd (unV prog .not d) ⟨fun g=>@kifB g ⟨@bndC prog 49 [i,b,
 c,l] H ⟨fun bv H10=>@bnd (aBin2 prog H10 .sub 3 (.tmp 45) (.const (.int .i64 1)) j (.int .i64 1)) ⟨fun h=>S28x0 n0 k [i,b,c,h,l,s5,s6,s7,s8,s9,d,aj,a,ak,al,am,an,ao,
 ap,aq,ar,c,b,a,a,e,au,av,aw,ax,ay,j,f,az,aA,aB,aC,aD,d,g,i,b,c,l,bv,j,h,aE,aF,aG,aH,aI,aJ,aK,aL,aM,aN,aO,aP,aQ,aR,aS,
 aT,aU,aV,aW,aX,aY,aZ,a0,a1,a2,a3,a4,a5,a6,a7,a8,a9,ba,bb,bc,bd,be,bf,bg,bh,bi,bj,bk,bl,bm,bn,bo,bp,bq,br,bs,bt,bu,m,n,o,p,q,r,
 s,t,u,v,w,x,y,z,A,B,C,D,E,F,G,I,J,K,L,M,N,O,P,Q,R,S,T,U,V,W,X,Y,Z,aa,ab,ac,ad,ae,
 af,ag,ah,ai] H10⟩⟩⟩ ⟨S28x0 n0 k [i,b,c,j,l,s5,s6,s7,s8,s9,d,aj,a,ak,al,am,an,ao,ap,aq,ar,c,b,a,a,e,au,av,aw,ax,ay,j,f,az,aA,aB,aC,
 aD,d,g,bw,bx,bz,bA,bB,bC,bD,aE,aF,aG,aH,aI,aJ,aK,aL,aM,aN,aO,aP,aQ,aR,aS,aT,aU,aV,aW,aX,aY,aZ,a0,a1,a2,a3,a4,a5,a6,a7,a8,a9,ba,bb,bc,
 bd,be,bf,bg,bh,bi,bj,bk,bl,bm,bn,bo,bp,bq,br,bs,bt,bu,m,n,o,p,q,r,s,t,u,v,w,x,y,z,A,B,C,D,E,F,G,I,J,
 K,L,M,N,O,P,Q,R,S,T,U,V,W,X,Y,Z,aa,ab,ac,ad,ae,af,ag,ah,ai] H⟩⟩⟩⟩⟩⟩⟩):=by kernel_rfl
theorem d14 (a0 a1:Value) (H:AHeap) (k:Value→AHeap→Prop):kbody prog Tryz.f14 [a0,a1] H k=(@bnd (aLen prog H 23 a0) ⟨fun v6x1=>@bnd (convV prog H 3 76 v6x1) ⟨fun v10x2=>@bndC prog 29 [v10x2]
 H ⟨fun v11x3 H4=>@bndC prog 28 [a0,(.int .i64 0),v6x1,v11x3,a1] H4 ⟨fun _ H6=>k (.tuple #[]) H6⟩⟩⟩⟩):=by kernel_rfl
end Go.Vi
namespace Go.Vi
open Go Go.Proofs Go.Proofs.Tryz
def plA:Nat→List Int→List (Value × Value)
 | _,[]=>[]
 | i,x :: r=>mput (.int .u32 x) (i64 i) (plA (i+1) r)
theorem mOk_put {d:TypeDesc} {es:List (Value × Value)} {k x:Value} (h:mOk d es=true) (hk:keyOk d k=true):mOk d (mput k x es)=true:=by
 unfold mOk at *
 rw [List.all_eq_true] at *
 unfold mput
 intro e he
 split at he
 · rcases List.mem_or_eq_of_mem_set he with h1 | rfl
   · exact h e h1
   · exact hk
 · rcases List.mem_append.1 he with h1 | h1
   · exact h e h1
   · simp at h1;subst h1;exact hk
theorem plA_ok:∀ (g:List Int) (i:Nat),mOk (.int .u32) (plA i g)=true
 | [],_=>rfl
 | _ :: r,i=>mOk_put (plA_ok r (i+1)) rfl
theorem st_all {P:Program} {K:AHeap} {T:TypeId} {z:Nat} {c d:List Value} (hz:tsize P T=some z) (hc:c.length=z) (hd:d.length=z) (h2:2≤z) (ho:∀ e∈c,e.oneCell'=true) :
  aStore P (K++[.cells d T]) T (.pointer (some ⟨K.length,0,some z⟩)) (.agg c.toArray)=some (K++[.cells c T]):=by
 have hsz:(Value.agg c.toArray).cells.size=z:=by simp [Value.cells,hc]
 have hst:storable (.agg c.toArray)=true:=by simpa [storable] using ho
 have hcl:(Value.agg c.toArray).cells.toList=c:=by simp [Value.cells]
 rw [aStore_ptr]
 simp only [List.getElem?_append_right (Nat.le_refl _),Nat.sub_self,List.getElem?_cons_zero,ownCells_cells,Option.bind_some,hsz,hz,hst,hcl,hd,Nat.zero_add,Nat.le_refl,and_self,if_true]
 rw [putCells_all (by rw [hc,hd]) (by rw [hc];exact h2)]
 simp
theorem get_setP {K:AHeap} {b:Nat} {x:AObj} {o:AObj} (h:K[b]?=some o):(K.set b x)[b]?=some x:=by
 rw [List.getElem?_set_self (List.getElem?_eq_some_iff.1 h).1]
noncomputable abbrev plAT:Code:=cl (cl (cr (cl (cr (cr (cb Tryz.f12))))))
noncomputable abbrev plBT:Code:=cr (cl (cr (cl (cr (cr (cb Tryz.f12))))))
def plSlT (H:AHeap) (v nf fv:Value):List Value:=[v,nf,undef,.pointer (some ⟨H.length,0,some 1⟩),.map none,.pointer (some ⟨H.length+2,0,some 1⟩),undef,undef,.map (some (H.length+1)),v,fv,undef,undef,undef,undef,undef,undef,undef,undef]
structure PlJT (H:AHeap) (v nf fv:Value) (g:List Int) (i:Nat) (K:AHeap):Prop where
 pre:Pre H K
 len:H.length+6≤K.length
 r0:K[H.length]?=some (.cells [nf] 51)
 r1:K[H.length+1]?=some (.map (plA i (g.drop i)))
 r2:K[H.length+2]?=some (.cells [.map (some (H.length+1))] 47)
 r3:K[H.length+3]?=some (.cells [v] 23)
 r4:K[H.length+4]?=some (.loop .blk)
 r5:K[H.length+5]?=some (.loop (.run (plSlT H v nf fv) #[11,12] plAT plBT .ready none))
def NumT (H:AHeap) (nf:Value) (cl:List (List Value)) (g:List Int):Prop:=cl.length=g.length∧nf.oneCell'=true∧∀ (i:Nat) c,cl[i]?=some c→∃ x,g[i]?=some x∧c.length=2∧(∀ e∈c,e.oneCell'=true)∧∀ K,Pre H K→callV prog nf [.agg c.toArray] K (.int .u32 x) K
theorem pl_yieldT {H:AHeap} {v nf fv:Value} {cl:List (List Value)} {g:List Int} {i:Nat} {c:List Value} {K:AHeap} (hn:NumT H nf cl g) (hc:cl[i]?=some c) (hJ:PlJT H v nf fv g (i+1) K) :
  ∃ K',AYields prog (H.length+5) [i64 i,.agg c.toArray] K (.bool true) K'∧PlJT H v nf fv g i K':=by
 have key:∃ u K',(u=.bool true∧PlJT H v nf fv g i K')∧AYields prog (H.length+5) [i64 i,.agg c.toArray] K u K':=by
  obtain ⟨hn1,hn2,hn3⟩:=hn
  obtain ⟨x,hx,hcl,hce,hcall⟩:=hn3 i c hc
  have hg:g.drop i=x :: g.drop (i+1):=by
   obtain ⟨hi,rfl⟩:=List.getElem?_eq_some_iff.1 hx
   exact (List.drop_eq_getElem_cons hi)
  refine ayields_ex MixT ?_
  unfold kround
  have h7:=hJ.r5
  rw [h7]
  refine ⟨rfl,?_⟩
  have hsl:yput (plSlT H v nf fv) (#[11,12]:Array Tmp).toList [i64 i,.agg c.toArray]=[v,nf,undef,.pointer (some ⟨H.length,0,some 1⟩),.map none,.pointer (some ⟨H.length+2,0,some 1⟩),undef,undef,.map (some (H.length+1)),v,fv,i64 i,.agg c.toArray,undef,undef,undef,undef,undef,undef]:=rfl
  rw [hsl,R12x0A]
  have hKl:=hJ.len
  have hal:aAlloc prog K 44=some (.pointer (some ⟨K.length,0,some 2⟩),K++[.cells [.int .u32 0,.int .i64 0] 44]):=tal44 ..
  have hst:aStore prog (K++[.cells [.int .u32 0,.int .i64 0] 44]) 44 (.pointer (some ⟨K.length,0,some 2⟩)) (.agg c.toArray)=some (K++[.cells c 44]):=st_all (by simp) hcl rfl (by decide) hce
  rw [hal]
  simp only [bndE_some]
  rw [hst]
  simp only [bndS_some]
  refine ⟨trivial,get_more h7,?_⟩
  rw [R12x0B]
  generalize hB:AObj.loop (.run (plSlT H v nf fv) #[11,12] plAT plBT .busy none)=bus
  generalize hK1:(K++[AObj.cells c 44]).set (H.length+5) bus=K1
  have hL1:K1.length=K.length+1:=by rw [← hK1];simp
  have hget:∀ (b:Nat) (o:AObj),b≠H.length+5→K[b]?=some o→K1[b]?=some o:=fun b o hb ho=>by rw [← hK1,List.getElem?_set_ne (by omega)];exact get_more ho
  have hxc:K1[K.length]?=some (.cells c 44):=by rw [← hK1,List.getElem?_set_ne (by omega)];simp
  have hbus:K1[H.length+5]?=some bus:=by rw [← hK1];rw [List.getElem?_set_self (by simp;omega)]
  have q0:=hget _ _ (by omega) hJ.r0
  have q1:=hget _ _ (by omega) hJ.r1
  have q2:=hget _ _ (by omega) hJ.r2
  have q3:=hget _ _ (by omega) hJ.r3
  have q4:=hget _ _ (by omega) hJ.r4
  have hp1:Pre H K1:=by rw [← hK1];exact (hJ.pre.more _).set (by omega)
  have c0:hcells K1 H.length=some [nf]:=by simp [hcells,q0]
  have c2:hcells K1 (H.length+2)=some [.map (some (H.length+1))]:=by simp [hcells,q2]
  have cx:hcells K1 K.length=some c:=by simp [hcells,hxc]
  refine bnd_of (v:=.map (some (H.length+1))) (by simp [c2]) ?_
  refine bnd_of (v:=nf) (by simp [c0]) ?_
  refine bnd_of (v:=.agg c.toArray) (by simp [cx,hcl,List.take_of_length_le]) ?_
  refine bndD_same (hcall K1 hp1) ?_
  refine bndD_of (v:=undef) (H':=K1.set (H.length+1) (.map (plA i (g.drop i)))) ⟨rfl,?_⟩ (.inl rfl) ?_
  · rw [aUpdate_map,q1]
    simp only [tm47,Option.bind_some,mapOf_map,keyOk,beq_self_eq_true,plA_ok,and_self,if_true]
    rw [hg]
    rfl
  have hne:∀ (b:Nat) (o:AObj),b≠H.length+1→K1[b]?=some o→(K1.set (H.length+1) (.map (plA i (g.drop i))))[b]?=some o:=fun b o h1 h2=>by rw [List.getElem?_set_ne (by omega)];exact h2
  refine ⟨hne _ _ (by omega) hbus,rfl,?_⟩
  have hj:jumpOf AExit.normal=none:=rfl
  simp only [hj,Option.isNone_none,if_true]
  have hfin:∀ (b:Nat) (o y:AObj),b≠H.length+1→b≠H.length+5→K1[b]?=some o→((K1.set (H.length+1) (.map (plA i (g.drop i)))).set (H.length+5) y)[b]?=some o:=fun b o y h1 h2 h3=>by
   rw [List.getElem?_set_ne (by omega)];exact hne b o h1 h3
  refine ⟨(hp1.set (by omega)).set (by omega),by simp;omega,hfin _ _ _ (by omega) (by omega) q0,?_,hfin _ _ _ (by omega) (by omega) q2,hfin _ _ _ (by omega) (by omega) q3,hfin _ _ _ (by omega) (by omega) q4,?_⟩
  · rw [List.getElem?_set_ne (by omega)];exact get_setP q1
  · exact get_setP (hne _ _ (by omega) hbus)
 obtain ⟨u,K',⟨rfl,h⟩,hy⟩:=key
 exact ⟨K',hy,h⟩
theorem bw_loopT {H:AHeap} {v nf fv:Value} {cl:List (List Value)} {g:List Int} {k:Value→AHeap→Prop} (hn:NumT H nf cl g) (ha:Arr H 2 v cl) (hl:cl.length < 2 ^ 62) (hk:∀ K,PlJT H v nf fv g 0 K→k (.tuple #[]) K) :
  ∀ (m : Nat) (K : AHeap) (l n o q r s t a b c d e f h i j : Value), m ≤ cl.length → PlJT H v nf fv g m K →
    L46x0 (m+1) k [yval (H.length+5),.pointer (some ⟨H.length+3,0,some 1⟩),l,i64 ((m:Int)-1),n,o,q,r,s,t,a,b,c,d,e,f,h,i,j] K:=by
 intro m
 induction m with
 | zero =>
   intro K l n o q r s t a b c d e f h i j hm hJ
   rw [L46x0q]
   refine bnd_of (v:=.bool false) (by simp) ?_
   dsimp only
   rw [kifB_false]
   exact hk K hJ
 | succ m ih =>
   intro K l n o q r s t a b c d e f h i j hm hJ
   rw [L46x0q]
   have hlt:m < cl.length:=by omega
   have e0:((m+1:Nat):Int)-1=m:=by omega
   rw [e0]
   refine bnd_of (v:=.bool true) (by simp) ?_
   dsimp only
   rw [kifB_true]
   dsimp only
   refine bnd_of (v:=v) (by simp [hcells,hJ.r3]) ?_
   obtain ⟨p,p1,p2⟩:=(ha.pre hJ.pre).load (P:=prog) (T:=23) (te:=44) (by simp) (by simp) (by simp) (List.getElem?_eq_getElem hlt)
   refine bnd_of p1 ?_
   refine bnd_of p2 ?_
   obtain ⟨K',y1,y2⟩:=pl_yieldT hn (List.getElem?_eq_getElem hlt) hJ
   refine bndV_yield ⟨_,hJ.r5⟩ y1 ?_
   refine bnd_of (v:=.bool false) (by simp) ?_
   dsimp only
   rw [kifB_false]
   dsimp only
   refine bnd_of (v:=i64 ((m:Int)-1)) (by rw [aBin_sub ..,wrap_i64 (by omega) (by omega)]) ?_
   exact ih K' _ _ _ _ _ _ _ _ _ _ _ _ _ _ _ _ (by omega) y2
theorem c_backwardT {H:AHeap} {v:Value} (o1:v.oneCell'=true):ACalls prog 27 [v] H (.func (.func 46) #[] #[.pointer (some ⟨H.length,0,some 1⟩)]) (H++[.cells [v] 23]):=by
 refine acalls_of MixT func27 (by decide) ?_
 rw [d27]
 rw [aNew_eq (stor_one o1),cells_one o1]
 simp
theorem c_placesT {H:AHeap} {v nf:Value} {cl:List (List Value)} {g:List Int} (hn:NumT H nf cl g) (ha:Arr H 2 v cl) (hl:cl.length < 2 ^ 62) :
  ∃ K,ACalls prog 12 [v,nf] H (.map (some (H.length+1))) K∧Pre H K∧K[H.length+1]?=some (.map (plA 0 g)):=by
 have key:∃ u K,(u=.map (some (H.length+1))∧Pre H K∧K[H.length+1]?=some (.map (plA 0 g)))∧ACalls prog 12 [v,nf] H u K:=by
  refine acallsG_ex MixT func12 (by decide) ?_
  rw [d12]
  have o1:=ha.one
  have o2:=hn.2.1
  have n1:aNew H 51 nf=some (.pointer (some ⟨H.length,0,some 1⟩),H++[.cells [nf] 51]):=by rw [aNew_eq (stor_one o2),cells_one o2];rfl
  rw [n1]
  simp only [bndE_some,tal47]
  have s1:aStore prog (H++[.cells [nf] 51]++[AObj.map []]++[.cells [.map none] 47]) 47 (.pointer (some ⟨(H++[AObj.cells [nf] 51]++[AObj.map []]).length,0,some 1⟩)) (.map (some (H++[AObj.cells [nf] 51]).length))=some (H++[.cells [nf] 51,AObj.map [],.cells [.map (some (H.length+1))] 47]):=by simp
  rw [s1]
  simp only [bndS_some]
  refine bndC_of (c_backwardT o1) ?_
  dsimp only
  generalize hfv:Value.func (Fn.func 46) #[] #[Value.pointer (some ⟨(H++[AObj.cells [nf] 51,AObj.map [],.cells [.map (some (H.length+1))] 47]).length,0,some 1⟩)]=fv
  rw [← hfv]
  simp only [krange]
  rw [hfv]
  refine ⟨by kernel_rfl,rfl,?_⟩
  simp only [List.length_append,List.length_cons,List.length_nil,Nat.zero_add,Nat.reduceAdd,Nat.add_assoc]
  generalize hK0:(H++_++_++_:AHeap)=K0
  have hJ:PlJT H v nf fv g cl.length K0:=by
   subst hK0
   refine ⟨by rw [List.append_assoc,List.append_assoc];exact .app _ _,by simp,?_,?_,?_,?_,?_,?_⟩<;>simp
   · rw [List.drop_of_length_le (by rw [hn.1];exact Nat.le_refl _)];rfl
   · rfl
  have key2:∃ u K',(u=.tuple #[]∧PlJT H v nf fv g 0 K')∧ACalls prog 46 ([yval (H.length+5)]++[.pointer (some ⟨H.length+3,0,some 1⟩)]) K0 u K':=by
   refine acalls_ex MixT func46 (by decide) ?_
   simp only [List.cons_append,List.nil_append]
   rw [d46]
   refine bnd_of (v:=v) (by simp [hcells,hJ.r3]) ?_
   have hln:aLen prog K0 23 v=some (i64 cl.length):=ha.len' (e:=44) (by simp)
   refine bnd_of hln ?_
   refine bnd_of (v:=i64 ((cl.length:Int)-1)) (by rw [aBin_sub ..,wrap_i64 (by omega) (by omega)]) ?_
   exact ⟨cl.length+1,bw_loopT (k:=fun u K'=>u=.tuple #[]∧PlJT H v nf fv g 0 K') hn ha hl (fun K h=>⟨rfl,h⟩) cl.length K0 _ _ _ _ _ _ _ _ _ _ _ _ _ _ _ _ (Nat.le_refl _) hJ⟩
  obtain ⟨u,K',⟨rfl,h⟩,hc⟩:=key2
  refine ⟨_,K',hc,?_⟩
  unfold rngEnd
  simp [h.r5,kjump]
  rw [show plSlT H v nf fv=[v,nf,undef,.pointer (some ⟨H.length,0,some 1⟩),.map none,.pointer (some ⟨H.length+2,0,some 1⟩),undef,undef,.map (some (H.length+1)),v,fv,undef,undef,undef,undef,undef,undef,undef,undef] from rfl,R12x0n]
  have hs:∀ (q:Nat) (y:AObj),q≠H.length+5→(K'.set (H.length+5) y)[q]?=K'[q]?:=fun q y hq=>List.getElem?_set_ne (Ne.symm hq)
  refine bnd_of (v:=.map (some (H.length+1))) (by simp [hcells,hs,h.r2]) ?_
  refine ⟨by rw [hs _ _ (by omega)];exact h.r4,rfl,(h.pre.set (by omega)).set (by omega),?_⟩
  rw [List.getElem?_set_ne (by omega),hs _ _ (by omega)]
  have:=h.r1
  rwa [List.drop_zero] at this
 obtain ⟨u,K,⟨rfl,h1,h2⟩,hc⟩:=key
 exact ⟨K,hc,h1,h2⟩
noncomputable abbrev plAR:Code:=cl (cl (cr (cl (cr (cr (cb Tryz.f26))))))
noncomputable abbrev plBR:Code:=cr (cl (cr (cl (cr (cr (cb Tryz.f26))))))
def plSlR (H:AHeap) (v nf fv:Value):List Value:=[v,nf,undef,.pointer (some ⟨H.length,0,some 1⟩),.map none,.pointer (some ⟨H.length+2,0,some 1⟩),undef,undef,.map (some (H.length+1)),v,fv,undef,undef,undef,undef,undef,undef,undef,undef]
structure PlJR (H:AHeap) (v nf fv:Value) (g:List Int) (i:Nat) (K:AHeap):Prop where
 pre:Pre H K
 len:H.length+6≤K.length
 r0:K[H.length]?=some (.cells [nf] 42)
 r1:K[H.length+1]?=some (.map (plA i (g.drop i)))
 r2:K[H.length+2]?=some (.cells [.map (some (H.length+1))] 47)
 r3:K[H.length+3]?=some (.cells [v] 26)
 r4:K[H.length+4]?=some (.loop .blk)
 r5:K[H.length+5]?=some (.loop (.run (plSlR H v nf fv) #[11,12] plAR plBR .ready none))
def NumR (H:AHeap) (nf:Value) (cl:List (List Value)) (g:List Int):Prop:=cl.length=g.length∧nf.oneCell'=true∧∀ (i:Nat) c,cl[i]?=some c→∃ x,g[i]?=some x∧c.length=8∧(∀ e∈c,e.oneCell'=true)∧∀ K,Pre H K→callV prog nf [.agg c.toArray] K (.int .u32 x) K
theorem pl_yieldR {H:AHeap} {v nf fv:Value} {cl:List (List Value)} {g:List Int} {i:Nat} {c:List Value} {K:AHeap} (hn:NumR H nf cl g) (hc:cl[i]?=some c) (hJ:PlJR H v nf fv g (i+1) K) :
  ∃ K',AYields prog (H.length+5) [i64 i,.agg c.toArray] K (.bool true) K'∧PlJR H v nf fv g i K':=by
 have key:∃ u K',(u=.bool true∧PlJR H v nf fv g i K')∧AYields prog (H.length+5) [i64 i,.agg c.toArray] K u K':=by
  obtain ⟨hn1,hn2,hn3⟩:=hn
  obtain ⟨x,hx,hcl,hce,hcall⟩:=hn3 i c hc
  have hg:g.drop i=x :: g.drop (i+1):=by
   obtain ⟨hi,rfl⟩:=List.getElem?_eq_some_iff.1 hx
   exact (List.drop_eq_getElem_cons hi)
  refine ayields_ex MixT ?_
  unfold kround
  have h7:=hJ.r5
  rw [h7]
  refine ⟨rfl,?_⟩
  have hsl:yput (plSlR H v nf fv) (#[11,12]:Array Tmp).toList [i64 i,.agg c.toArray]=[v,nf,undef,.pointer (some ⟨H.length,0,some 1⟩),.map none,.pointer (some ⟨H.length+2,0,some 1⟩),undef,undef,.map (some (H.length+1)),v,fv,i64 i,.agg c.toArray,undef,undef,undef,undef,undef,undef]:=rfl
  rw [hsl,R26x0A]
  have hKl:=hJ.len
  have hal:aAlloc prog K 40=some (.pointer (some ⟨K.length,0,some 8⟩),K++[.cells [.string ⟨#[]⟩,.string ⟨#[]⟩,.slice none 0 0,.int .i64 0,.int .i64 0,.int .i64 0,.slice none 0 0,.string ⟨#[]⟩] 40]):=tal40 ..
  have hst:aStore prog (K++[.cells [.string ⟨#[]⟩,.string ⟨#[]⟩,.slice none 0 0,.int .i64 0,.int .i64 0,.int .i64 0,.slice none 0 0,.string ⟨#[]⟩] 40]) 40 (.pointer (some ⟨K.length,0,some 8⟩)) (.agg c.toArray)=some (K++[.cells c 40]):=st_all (by simp) hcl rfl (by decide) hce
  rw [hal]
  simp only [bndE_some]
  rw [hst]
  simp only [bndS_some]
  refine ⟨trivial,get_more h7,?_⟩
  rw [R26x0B]
  generalize hB:AObj.loop (.run (plSlR H v nf fv) #[11,12] plAR plBR .busy none)=bus
  generalize hK1:(K++[AObj.cells c 40]).set (H.length+5) bus=K1
  have hL1:K1.length=K.length+1:=by rw [← hK1];simp
  have hget:∀ (b:Nat) (o:AObj),b≠H.length+5→K[b]?=some o→K1[b]?=some o:=fun b o hb ho=>by rw [← hK1,List.getElem?_set_ne (by omega)];exact get_more ho
  have hxc:K1[K.length]?=some (.cells c 40):=by rw [← hK1,List.getElem?_set_ne (by omega)];simp
  have hbus:K1[H.length+5]?=some bus:=by rw [← hK1];rw [List.getElem?_set_self (by simp;omega)]
  have q0:=hget _ _ (by omega) hJ.r0
  have q1:=hget _ _ (by omega) hJ.r1
  have q2:=hget _ _ (by omega) hJ.r2
  have q3:=hget _ _ (by omega) hJ.r3
  have q4:=hget _ _ (by omega) hJ.r4
  have hp1:Pre H K1:=by rw [← hK1];exact (hJ.pre.more _).set (by omega)
  have c0:hcells K1 H.length=some [nf]:=by simp [hcells,q0]
  have c2:hcells K1 (H.length+2)=some [.map (some (H.length+1))]:=by simp [hcells,q2]
  have cx:hcells K1 K.length=some c:=by simp [hcells,hxc]
  refine bnd_of (v:=.map (some (H.length+1))) (by simp [c2]) ?_
  refine bnd_of (v:=nf) (by simp [c0]) ?_
  refine bnd_of (v:=.agg c.toArray) (by simp [cx,hcl,List.take_of_length_le]) ?_
  refine bndD_same (hcall K1 hp1) ?_
  refine bndD_of (v:=undef) (H':=K1.set (H.length+1) (.map (plA i (g.drop i)))) ⟨rfl,?_⟩ (.inl rfl) ?_
  · rw [aUpdate_map,q1]
    simp only [tm47,Option.bind_some,mapOf_map,keyOk,beq_self_eq_true,plA_ok,and_self,if_true]
    rw [hg]
    rfl
  have hne:∀ (b:Nat) (o:AObj),b≠H.length+1→K1[b]?=some o→(K1.set (H.length+1) (.map (plA i (g.drop i))))[b]?=some o:=fun b o h1 h2=>by rw [List.getElem?_set_ne (by omega)];exact h2
  refine ⟨hne _ _ (by omega) hbus,rfl,?_⟩
  have hj:jumpOf AExit.normal=none:=rfl
  simp only [hj,Option.isNone_none,if_true]
  have hfin:∀ (b:Nat) (o y:AObj),b≠H.length+1→b≠H.length+5→K1[b]?=some o→((K1.set (H.length+1) (.map (plA i (g.drop i)))).set (H.length+5) y)[b]?=some o:=fun b o y h1 h2 h3=>by
   rw [List.getElem?_set_ne (by omega)];exact hne b o h1 h3
  refine ⟨(hp1.set (by omega)).set (by omega),by simp;omega,hfin _ _ _ (by omega) (by omega) q0,?_,hfin _ _ _ (by omega) (by omega) q2,hfin _ _ _ (by omega) (by omega) q3,hfin _ _ _ (by omega) (by omega) q4,?_⟩
  · rw [List.getElem?_set_ne (by omega)];exact get_setP q1
  · exact get_setP (hne _ _ (by omega) hbus)
 obtain ⟨u,K',⟨rfl,h⟩,hy⟩:=key
 exact ⟨K',hy,h⟩
theorem bw_loopR {H:AHeap} {v nf fv:Value} {cl:List (List Value)} {g:List Int} {k:Value→AHeap→Prop} (hn:NumR H nf cl g) (ha:Arr H 8 v cl) (hl:cl.length < 2 ^ 62) (hk:∀ K,PlJR H v nf fv g 0 K→k (.tuple #[]) K) :
  ∀ (m : Nat) (K : AHeap) (l n o q r s t a b c d e f h i j : Value), m ≤ cl.length → PlJR H v nf fv g m K →
    L76x0 (m+1) k [yval (H.length+5),.pointer (some ⟨H.length+3,0,some 1⟩),l,i64 ((m:Int)-1),n,o,q,r,s,t,a,b,c,d,e,f,h,i,j] K:=by
 intro m
 induction m with
 | zero =>
   intro K l n o q r s t a b c d e f h i j hm hJ
   rw [L76x0q]
   refine bnd_of (v:=.bool false) (by simp) ?_
   dsimp only
   rw [kifB_false]
   exact hk K hJ
 | succ m ih =>
   intro K l n o q r s t a b c d e f h i j hm hJ
   rw [L76x0q]
   have hlt:m < cl.length:=by omega
   have e0:((m+1:Nat):Int)-1=m:=by omega
   rw [e0]
   refine bnd_of (v:=.bool true) (by simp) ?_
   dsimp only
   rw [kifB_true]
   dsimp only
   refine bnd_of (v:=v) (by simp [hcells,hJ.r3]) ?_
   obtain ⟨p,p1,p2⟩:=(ha.pre hJ.pre).load (P:=prog) (T:=26) (te:=40) (by simp) (by simp) (by simp) (List.getElem?_eq_getElem hlt)
   refine bnd_of p1 ?_
   refine bnd_of p2 ?_
   obtain ⟨K',y1,y2⟩:=pl_yieldR hn (List.getElem?_eq_getElem hlt) hJ
   refine bndV_yield ⟨_,hJ.r5⟩ y1 ?_
   refine bnd_of (v:=.bool false) (by simp) ?_
   dsimp only
   rw [kifB_false]
   dsimp only
   refine bnd_of (v:=i64 ((m:Int)-1)) (by rw [aBin_sub ..,wrap_i64 (by omega) (by omega)]) ?_
   exact ih K' _ _ _ _ _ _ _ _ _ _ _ _ _ _ _ _ (by omega) y2
theorem c_backwardR {H:AHeap} {v:Value} (o1:v.oneCell'=true):ACalls prog 45 [v] H (.func (.func 76) #[] #[.pointer (some ⟨H.length,0,some 1⟩)]) (H++[.cells [v] 26]):=by
 refine acalls_of MixT func45 (by decide) ?_
 rw [d45]
 rw [aNew_eq (stor_one o1),cells_one o1]
 simp
theorem c_placesR {H:AHeap} {v nf:Value} {cl:List (List Value)} {g:List Int} (hn:NumR H nf cl g) (ha:Arr H 8 v cl) (hl:cl.length < 2 ^ 62) :
  ∃ K,ACalls prog 26 [v,nf] H (.map (some (H.length+1))) K∧Pre H K∧K[H.length+1]?=some (.map (plA 0 g)):=by
 have key:∃ u K,(u=.map (some (H.length+1))∧Pre H K∧K[H.length+1]?=some (.map (plA 0 g)))∧ACalls prog 26 [v,nf] H u K:=by
  refine acallsG_ex MixT func26 (by decide) ?_
  rw [d26]
  have o1:=ha.one
  have o2:=hn.2.1
  have n1:aNew H 42 nf=some (.pointer (some ⟨H.length,0,some 1⟩),H++[.cells [nf] 42]):=by rw [aNew_eq (stor_one o2),cells_one o2];rfl
  rw [n1]
  simp only [bndE_some,tal47]
  have s1:aStore prog (H++[.cells [nf] 42]++[AObj.map []]++[.cells [.map none] 47]) 47 (.pointer (some ⟨(H++[AObj.cells [nf] 42]++[AObj.map []]).length,0,some 1⟩)) (.map (some (H++[AObj.cells [nf] 42]).length))=some (H++[.cells [nf] 42,AObj.map [],.cells [.map (some (H.length+1))] 47]):=by simp
  rw [s1]
  simp only [bndS_some]
  refine bndC_of (c_backwardR o1) ?_
  dsimp only
  generalize hfv:Value.func (Fn.func 76) #[] #[Value.pointer (some ⟨(H++[AObj.cells [nf] 42,AObj.map [],.cells [.map (some (H.length+1))] 47]).length,0,some 1⟩)]=fv
  rw [← hfv]
  simp only [krange]
  rw [hfv]
  refine ⟨by kernel_rfl,rfl,?_⟩
  simp only [List.length_append,List.length_cons,List.length_nil,Nat.zero_add,Nat.reduceAdd,Nat.add_assoc]
  generalize hK0:(H++_++_++_:AHeap)=K0
  have hJ:PlJR H v nf fv g cl.length K0:=by
   subst hK0
   refine ⟨by rw [List.append_assoc,List.append_assoc];exact .app _ _,by simp,?_,?_,?_,?_,?_,?_⟩<;>simp
   · rw [List.drop_of_length_le (by rw [hn.1];exact Nat.le_refl _)];rfl
   · rfl
  have key2:∃ u K',(u=.tuple #[]∧PlJR H v nf fv g 0 K')∧ACalls prog 76 ([yval (H.length+5)]++[.pointer (some ⟨H.length+3,0,some 1⟩)]) K0 u K':=by
   refine acalls_ex MixT func76 (by decide) ?_
   simp only [List.cons_append,List.nil_append]
   rw [d76]
   refine bnd_of (v:=v) (by simp [hcells,hJ.r3]) ?_
   have hln:aLen prog K0 26 v=some (i64 cl.length):=ha.len' (e:=40) (by simp)
   refine bnd_of hln ?_
   refine bnd_of (v:=i64 ((cl.length:Int)-1)) (by rw [aBin_sub ..,wrap_i64 (by omega) (by omega)]) ?_
   exact ⟨cl.length+1,bw_loopR (k:=fun u K'=>u=.tuple #[]∧PlJR H v nf fv g 0 K') hn ha hl (fun K h=>⟨rfl,h⟩) cl.length K0 _ _ _ _ _ _ _ _ _ _ _ _ _ _ _ _ (Nat.le_refl _) hJ⟩
  obtain ⟨u,K',⟨rfl,h⟩,hc⟩:=key2
  refine ⟨_,K',hc,?_⟩
  unfold rngEnd
  simp [h.r5,kjump]
  rw [show plSlR H v nf fv=[v,nf,undef,.pointer (some ⟨H.length,0,some 1⟩),.map none,.pointer (some ⟨H.length+2,0,some 1⟩),undef,undef,.map (some (H.length+1)),v,fv,undef,undef,undef,undef,undef,undef,undef,undef] from rfl,R26x0n]
  have hs:∀ (q:Nat) (y:AObj),q≠H.length+5→(K'.set (H.length+5) y)[q]?=K'[q]?:=fun q y hq=>List.getElem?_set_ne (Ne.symm hq)
  refine bnd_of (v:=.map (some (H.length+1))) (by simp [hcells,hs,h.r2]) ?_
  refine ⟨by rw [hs _ _ (by omega)];exact h.r4,rfl,(h.pre.set (by omega)).set (by omega),?_⟩
  rw [List.getElem?_set_ne (by omega),hs _ _ (by omega)]
  have:=h.r1
  rwa [List.drop_zero] at this
 obtain ⟨u,K,⟨rfl,h1,h2⟩,hc⟩:=key
 exact ⟨K,hc,h1,h2⟩
end Go.Vi
namespace Go.Vi
open Go Go.Proofs Go.Proofs.Tryz
def cmpZ (a b:Int):Int:=if a < b then -1 else if b < a then 1 else 0
theorem c_nanI (H:AHeap) (a:Int):ACalls prog 30 [i64 a] H (.bool false) H:=by
 refine acalls_pure MixT func30 (by decide) rfl ?_
 rw [d30]
 simp
theorem c_nanU (H:AHeap) (a:Int):ACalls prog 31 [.int .u32 a] H (.bool false) H:=by
 refine acalls_pure MixT func31 (by decide) rfl ?_
 rw [d31]
 simp
theorem c_cmpI (H:AHeap) (a b:Int):ACalls prog 17 [i64 a,i64 b] H (i64 (cmpZ a b)) H:=by
 refine acalls_pure MixT func17 (by decide) rfl ?_
 rw [d17]
 refine bndC_of (c_nanI H a) ?_
 refine bndC_of (c_nanI H b) ?_
 unfold cmpZ
 by_cases h1:a < b
 · simp [h1]
 · by_cases h2:b < a
   · simp [h1,h2]
   · simp [h1,h2]
theorem c_cmpU (H:AHeap) (a b:Int):ACalls prog 18 [.int .u32 a,.int .u32 b] H (i64 (cmpZ a b)) H:=by
 refine acalls_pure MixT func18 (by decide) rfl ?_
 rw [d18]
 refine bndC_of (c_nanU H a) ?_
 refine bndC_of (c_nanU H b) ?_
 unfold cmpZ
 by_cases h1:a < b
 · simp [h1]
 · by_cases h2:b < a
   · simp [h1,h2]
   · simp [h1,h2]
theorem c_or2 {H:AHeap} {b:Nat} {x y:Int} (h:hcells H b=some [i64 x,i64 y]):ACalls prog 16 [.slice (some ⟨b,0,some 2⟩) 2 2] H (i64 (if x=0 then y else x)) H:=by
 refine acalls_pure MixT func16 (by decide) rfl ?_
 rw [d16]
 have hl:hlen H b=some 2:=by rw [hcells_len h];rfl
 refine bnd_of (v:=i64 2) (by simp) ?_
 refine ⟨3,?_⟩
 rw [L16x0q]
 have wr1:IntKind.i64.wrap 1=1:=by decide
 have wr2:IntKind.i64.wrap 2=2:=by decide
 by_cases h1:x=0
 · simp [aIndexAddr_sl,wr1,wr2,h,hl,h1]
   rw [L16x0q]
   by_cases h2:y=0
   · simp [aIndexAddr_sl,wr1,wr2,h,hl,h2]
     rw [L16x0q]
     simp
   · have h2':(y != 0)=true:=by simpa using h2
     simp [aIndexAddr_sl,wr1,wr2,h,hl,h2']
 · have h1':(x != 0)=true:=by simpa using h1
   simp [aIndexAddr_sl,wr1,wr2,h,hl,h1,h1']
def tkC (r t:Int):List Value:=[.int .u32 r,i64 t]
def cmpT (r t r' t':Int):Int:=if cmpZ t t'=0 then cmpZ r r' else cmpZ t t'
theorem c_less (H:AHeap) (r t r' t':Int):ACalls prog 15 [.agg (tkC r t).toArray,.agg (tkC r' t').toArray] H (i64 (cmpT r t r' t')) H:=by
 refine acalls_pure MixT func15 (by decide) rfl ?_
 rw [d15]
 simp [tkC,aNew_agg]
 refine bndD_same (c_cmpI _ t t') ?_
 simp
 refine bndD_same (c_cmpU _ r r') ?_
 obtain ⟨K,hK⟩:∃ K,K=H++[AObj.cells [.int .u32 r,i64 t] 44,AObj.cells [.int .u32 r',i64 t'] 44]:=⟨_,rfl⟩
 rw [← hK]
 have hlit:=sliceLit1 (H:=K) (T:=77) (e:=3) (n:=2) (l:=[i64 (cmpZ t t'),i64 (cmpZ r r')]) (tbs77 K 2 _) (by simp) rfl (by decide)
 refine bndD_of hlit (.inl rfl) ?_
 refine bndD_same (c_or2 (b:=K.length) (x:=cmpZ t t') (y:=cmpZ r r') (by simp)) ?_
 refine ⟨by unfold cmpT;rfl,?_⟩
 rw [hK]
 exact ⟨_,List.append_assoc _ _ _⟩
def lessV:Value:=.func (.func 15) #[] #[]
theorem less_call (H:AHeap) (r t r' t':Int):callV prog lessV [.agg (tkC r t).toArray,.agg (tkC r' t').toArray] H (i64 (cmpT r t r' t')) H:=by
 have:=c_less H r t r' t'
 simpa [callV,lessV] using this
theorem c_ins0 (H:AHeap) (f:Value):ACalls prog 47 [.slice none 0 0,i64 0,i64 0,f] H (.tuple #[]) H:=by
 refine acallsKo MixT func47 (by decide) ?_
 rw [d47]
 refine bnd_of (v:=i64 1) (by rw [aBin_add ..,wrap_i64 (by omega) (by omega)];rfl) ?_
 refine ⟨1,?_⟩
 rw [L47x0q]
 simp
set_option maxRecDepth 20000 in
theorem c_ins2 {K:AHeap} {b:Nat} {r t r' t':Int} (hb:K[b]?=some (.cells [.int .u32 r,i64 t,.int .u32 r',i64 t'] 44)) :
  ACalls prog 47 [.slice (some ⟨b,0,some 4⟩) 2 2,i64 0,i64 2,lessV] K (.tuple #[]) (if cmpT r' t' r t < 0 then K.set b (.cells [.int .u32 r',i64 t',.int .u32 r,i64 t] 44) else K):=by
 refine acallsKo MixT func47 (by decide) ?_
 generalize hk0:(fun u H2=>u=Value.tuple #[]∧H2=_)=k
 rw [d47]
 have hc:hcells K b=some [.int .u32 r,i64 t,.int .u32 r',i64 t']:=by simp [hcells,hb]
 have hl:hlen K b=some 4:=by rw [hcells_len hc];rfl
 refine bnd_of (v:=i64 1) (by rw [aBin_add ..,wrap_i64 (by omega) (by omega)];rfl) ?_
 refine ⟨2,?_⟩
 rw [L47x0q]
 refine bnd_of (v:=.bool true) (by simp) ?_
 dsimp only
 rw [kifB_true]
 refine ⟨2,?_⟩
 rw [L47x1q]
 have wr2:IntKind.i64.wrap 2=2:=by decide
 have wr0:IntKind.i64.wrap 0=0:=by decide
 simp [aIndexAddr_sl,hl,hc,wr0]
 refine bndK_bar (v:=i64 (cmpT r' t' r t)) (H':=K) (by simpa [gifp,tkC] using less_call K r' t' r t) ?_
 simp
 by_cases hlt:cmpT r' t' r t < 0
 · simp [hlt,aIndexAddr_sl,hl,hc,wr0]
   obtain ⟨K1,hK1⟩:∃ K1,K1=K.set b (.cells [.int .u32 r,i64 t,.int .u32 r,i64 t] 44):=⟨_,rfl⟩
   have hb1:K1[b]?=some (.cells [.int .u32 r,i64 t,.int .u32 r,i64 t] 44):=by rw [hK1];exact get_setP hb
   have hl1:hlen K1 b=some 4:=by simp [hlen,hb1,AObj.len]
   refine bndK_of (v:=undef) (H':=K1) ⟨rfl,by rw [hK1];simp [hb,putCells]⟩ (by simp [wr0]) ?_
   simp [aIndexAddr_sl,hl1]
   have hset:K1.set b (.cells [.int .u32 r',i64 t',.int .u32 r,i64 t] 44)=K.set b (.cells [.int .u32 r',i64 t',.int .u32 r,i64 t] 44):=by rw [hK1,List.set_set]
   refine bndK_bar (v:=undef) (H':=K.set b (.cells [.int .u32 r',i64 t',.int .u32 r,i64 t] 44)) ⟨rfl,by rw [← hset];simp [hb1,putCells]⟩ ?_
   simp [wr0]
   rw [L47x1q]
   simp
   refine bndK_bar (v:=undef) (H':=K.set b (.cells [.int .u32 r',i64 t',.int .u32 r,i64 t] 44)) ⟨rfl,rfl⟩ ?_
   simp
   rw [L47x0q]
   simp [wr2]
   rw [← hk0,if_pos hlt]
   exact ⟨rfl,rfl⟩
 · simp [hlt]
   rw [L47x0q]
   simp [wr2]
   rw [← hk0,if_neg hlt]
   exact ⟨rfl,rfl⟩
end Go.Vi
namespace Go.Vi
open Go Go.Proofs Go.Proofs.Tryz
def firF (e p:Int):Int:=if p < 0 then 0 else p-p % (max e 1)+max e 1
theorem c_first (H:AHeap) {e p:Int} (he:e≤2 ^ 61) (hp:p≤2 ^ 61):ACalls prog 8 [i64 e,i64 p] H (i64 (firF e p)) H:=by
 refine acalls_pure MixT func8 (by decide) rfl ?_
 rw [d8]
 obtain ⟨m,hm,hm1,hm2,hm3⟩:∃ m:Nat,(if (1:Int) > e then 1 else e)=(m:Int)∧0 < m∧max e 1=(m:Int)∧m≤2 ^ 61:=⟨(max e 1).toNat,by split<;>omega,by omega,by omega,by omega⟩
 rw [aMax_int]
 simp only [bndE_some,hm]
 unfold firF
 by_cases h:p < 0
 · simp [h]
 · obtain ⟨q,rfl⟩:∃ q:Nat,p=q:=⟨p.toNat,by omega⟩
   refine bnd_of (v:=.bool false) (by simp [h]) ?_
   dsimp only
   rw [kifB_false]
   dsimp only
   refine bnd_of (remL (a:=q) (n:=m) rfl hm1) ?_
   have h1:q % m < m:=Nat.mod_lt _ hm1
   have h2:q % m≤q:=Nat.mod_le _ _
   refine bnd_of (v:=i64 ((q:Int)-((q % m:Nat):Int))) (by rw [aBin_sub ..,wrap_i64 (by omega) (by omega)]) ?_
   refine bnd_of (v:=i64 ((q:Int)-((q % m:Nat):Int)+m)) (by rw [aBin_add ..,wrap_i64 (by omega) (by omega)]) ?_
   refine ⟨?_,[],by simp⟩
   rw [if_neg h,hm2]
   simp
def cfgV (rv mv:Value) (a b:Int):Value:=.agg #[rv,mv,i64 a,i64 b]
theorem num_rules {H:AHeap} {rv:Value} {rs:List Rul} {cl:List (List Value)} (hg:Pw H) (hl:cl.length=rs.length) (hc:∀ (i:Nat) r,rs[i]?=some r→∃ nv mv,cl[i]?=some (r.cells nv mv)∧RulAt H r nv mv) (hf:∀ r∈rs,r.byL.length≤2 ^ 20) :
  NumR H (.func (.func 10) #[] #[]) cl (rs.map fingF):=by
 refine ⟨by simp [hl],rfl,fun i c hi=>?_⟩
 have hlt:i < rs.length:=by rw [← hl];exact (List.getElem?_eq_some_iff.1 hi).1
 obtain ⟨nv,mv,h1,h2⟩:=hc i rs[i] (List.getElem?_eq_getElem hlt)
 rw [hi] at h1
 cases h1
 refine ⟨fingF rs[i],by simp [hlt],rfl,?_,fun K p=>?_⟩
 · have o1:=h2.o1
   have o2:=h2.o2
   simp [Rul.cells,o1,o2]
 · have:=c_finger (hg.trans p) (h2.pre p) (hf _ (List.getElem_mem hlt))
   simpa [callV] using this
theorem c_rules {H:AHeap} {rv mv:Value} {a b:Int} {rs:List Rul} (hg:Pw H) (hv:RulesAt H rv rs) (om:mv.oneCell'=true) (hl:rs.length≤2 ^ 20) (hf:∀ r∈rs,r.byL.length≤2 ^ 20) :
  ∃ mb K,ACalls prog 11 [cfgV rv mv a b] H (.map (some mb)) K∧Pre H K∧H.length≤mb∧K[mb]?=some (.map (plA 0 (rs.map fingF))):=by
 obtain ⟨cl,ha,hcl,hc⟩:=hv
 have or:=ha.one
 let X:AHeap:=[AObj.cells [rv,mv,i64 a,i64 b] 29]
 have hn:=num_rules (rv:=rv) (hg.trans (.app H X)) hcl (fun i r hi=>by
  obtain ⟨nv,mv,h1,h2⟩:=hc i r hi
  exact ⟨nv,mv,h1,h2.pre (.app H X)⟩) hf
 obtain ⟨K,k1,k2,k3⟩:=c_placesR hn (ha.pre (.app H X)) (by omega)
 refine ⟨(H++X).length+1,K,?_,(Pre.app H X).trans k2,(by simp;omega),k3⟩
 refine acalls_of MixT func11 (by decide) ?_
 rw [d11]
 have n1:aNew H 29 (cfgV rv mv a b)=some (.pointer (some ⟨H.length,0,some 4⟩),H++X):=by simp [cfgV,aNew_agg,or,om,X]
 rw [n1]
 simp only [bndE_some]
 refine bnd_of (v:=.pointer (some ⟨H.length,0,some 4⟩)) (by simp [X]) ?_
 refine bnd_of (v:=rv) (by simp [X]) ?_
 refine bndC_of k1 ?_
 exact ⟨rfl,rfl⟩
end Go.Vi
namespace Go.Vi
open Go Go.Proofs Go.Proofs.Tryz
def AlsAt (H:AHeap) (v:Value) (cl:List (List Value)):Prop:=Arr H 5 v cl∧∀ c∈cl,∃ (r:Int) (rest:List Value),c=.int .u32 r :: rest∧rest.length=4∧∀ e∈rest,e.oneCell'=true
def alK (es:List (Value × Value)) (c:List Value):Bool:=match c with
 | .int .u32 r :: _=>(mget (.int .u32 r) es).isSome
 | _=>false
theorem ael1:aElem prog 22=some (46,5,48):=by kernel_rfl
theorem ael2:isSeq prog 22=true:=by kernel_rfl
theorem kel1:aElem prog 23=some (44,2,16):=by kernel_rfl
theorem kel2:isSeq prog 23=true:=by kernel_rfl
theorem al_loop {H:AHeap} {v:Value} {cl:List (List Value)} {es:List (Value × Value)} {mb lo:Nat} {k:Value→AHeap→Prop} (ha:AlsAt H v cl) (hl:cl.length≤2 ^ 20) (hes:mOk (.int .u32) es=true) (hmb:mb < lo) (hlo:H.length≤lo)
  (hk:∀ K ov,Pre H K→Gro K lo 5 46 ov (cl.filter (alK es))→k ov K) :
  ∀ (n i : Nat) (K : AHeap) (ov : Value) (G I J L M N O Q a b d f g j l m o q s t u w z A C D E F : Value), n + i = cl.length → Pre H K → lo ≤ K.length → K[mb]? = some (.map es) → Gro K lo 5 46 ov ((cl.take i).filter (alK es)) →
    L6x0 (n+1) k [G,I,J,L,M,.map (some mb),ov,N,O,Q,a,b,d,v,i64 cl.length,i64 i,f,g,j,l,m,o,q,s,t,u,w,z,A,C,D,E,F] K:=by
 intro n
 induction n with
 | zero =>
   intro i K ov G I J L M N O Q a b d f g j l m o q s t u w z A C D E F hi hp hq hm ho
   rw [L6x0q]
   have:¬ i < cl.length:=by omega
   rw [List.take_of_length_le (by omega)] at ho
   simp [this]
   exact hk K ov hp ho
 | succ n ih =>
   intro i K ov G I J L M N O Q a b d f g j l m o q s t u w z A C D E F hi hp hq hm ho
   have hlt:i < cl.length:=by omega
   rw [L6x0q]
   obtain ⟨c,hc⟩:∃ c,cl[i]?=some c:=⟨_,List.getElem?_eq_getElem hlt⟩
   obtain ⟨p,p1,p2⟩:=(ha.1.pre hp).load (P:=prog) (T:=22) (te:=46) (by simp) (by simp) (by simp) hc
   obtain ⟨r,rest,hcr,hrl,hro⟩:=ha.2 c (List.mem_of_getElem? hc)
   have hcl:c.length=5:=by rw [hcr];simp [hrl]
   have hco:∀ e∈c,e.oneCell'=true:=by
    rw [hcr];intro e he
    rcases List.mem_cons.1 he with rfl | h
    · rfl
    · exact hro e h
   have w1:IntKind.i64.wrap ((i:Int)+1)=((i+1:Nat):Int):=by rw [wrap_i64 (by omega) (by omega)];omega
   refine bnd_of (v:=.bool true) (by simp [hlt]) ?_
   dsimp only
   rw [kifB_true]
   dsimp only
   refine bnd_of p1 ?_
   refine bnd_of p2 ?_
   dsimp only
   simp only [tal46,bndE_some]
   rw [st_all (by simp) hcl rfl (by decide) hco]
   simp only [bndS_some]
   have hK1:=hp.more [AObj.cells c 46]
   have hm1:(K++[AObj.cells c 46])[mb]?=some (.map es):=get_more hm
   have hx:hcells (K++[AObj.cells c 46]) K.length=some c:=by simp
   have hxl:hlen (K++[AObj.cells c 46]) K.length=some 5:=by rw [hcells_len hx,hcl]
   obtain ⟨B,hB⟩:∃ B,B=K++[AObj.cells c 46]:=⟨_,rfl⟩
   have hBl:K.length < B.length:=by rw [hB];simp
   have hoB:Gro B lo 5 46 ov ((cl.take i).filter (alK es)):=by rw [hB];exact ho.app
   rw [← hB] at hK1 hm1 hx hxl ⊢
   refine bnd_of (v:=.pointer (some ⟨K.length,0,some 5⟩)) (by simp [hxl]) ?_
   refine bnd_of (v:=.int .u32 r) (by simp [hx,hcr];omega) ?_
   dsimp only
   have hlook:∀ x,mget (.int .u32 r) es=x→aLookup prog B 47 (.map (some mb)) (.int .u32 r) true=some (match x with | some y=>.tuple #[y,.bool true] | none=>.tuple #[i64 0,.bool false]):=by
    rintro x rfl
    rw [aLookup_map,hm1]
    simp only [tm47,Option.bind_some,mapOf_map,keyOk,beq_self_eq_true,if_true,hes]
    cases mget (.int .u32 r) es with
    | some y=>simp
    | none=>simp [cok,isLit]
   have htk:(cl.take (i+1)).filter (alK es)=(cl.take i).filter (alK es)++(if (mget (.int .u32 r) es).isSome=true then [c] else []):=by
    rw [List.take_add_one,hc,List.filter_append]
    congr 1
    have:alK es c=(mget (.int .u32 r) es).isSome:=by rw [hcr];rfl
    simp only [Option.toList_some,List.filter_cons,this,List.filter_nil]
   cases hg:mget (.int .u32 r) es with
   | some y =>
     refine bnd_of (hlook _ hg) ?_
     refine bnd_of (v:=y) rfl ?_
     refine bnd_of (v:=.bool true) rfl ?_
     dsimp only
     rw [kifB_true]
     dsimp only
     refine bnd_of (v:=.agg c.toArray) (by simp [hx,hcl,List.take_of_length_le]) ?_
     have hlit:=sliceLitA (c:=c) (tbs22 B 1 _) (hcl.trans rfl) hco (by simp)
     rw [hcl] at hlit
     refine bndL_lit hlit ?_
     dsimp only
     obtain ⟨v',K',g1,g2,g3,g4,g5⟩:=Gro.push (P:=prog) (Ts:=22) (by_:=48) (x:=.slice (some ⟨B.length,0,some 5⟩) 1 1) (c:=c) (hoB.app (X:=[AObj.cells c 46])) ael1 ael2 hcl (by simp;omega) (by simp [aSrc,hcl,List.take_of_length_le]) (by have:=List.length_filter_le (alK es) (cl.take i);simp at this ⊢;omega) (by have:=List.length_filter_le (alK es) (cl.take i);simp at this ⊢;omega)
     rw [g1]
     simp only [bndE_some]
     rw [S6x0q]
     refine bnd_of (v:=i64 ((i+1:Nat):Int)) (by simp [w1]) ?_
     dsimp only
     refine ih (i+1) K' v' _ _ _ _ _ _ _ _ _ _ _ _ _ _ _ _ _ _ _ _ _ _ _ _ _ _ _ _ (by omega) (g5 H (hK1.more _) hlo) (by simp at g4;omega) (g3 _ _ hmb (get_more hm1)) ?_
     rw [htk,hg]
     simpa using g2
   | none =>
     refine bnd_of (hlook _ hg) ?_
     refine bnd_of (v:=i64 0) rfl ?_
     refine bnd_of (v:=.bool false) rfl ?_
     dsimp only
     rw [kifB_false]
     dsimp only
     rw [S6x0q]
     refine bnd_of (v:=i64 ((i+1:Nat):Int)) (by simp [w1]) ?_
     dsimp only
     refine ih (i+1) B ov _ _ _ _ _ _ _ _ _ _ _ _ _ _ _ _ _ _ _ _ _ _ _ _ _ _ _ _ (by omega) hK1 (by omega) hm1 ?_
     rw [htk,hg]
     simpa using hoB
theorem c_alerts {H:AHeap} {v rv mv:Value} {a b:Int} {cl:List (List Value)} {rs:List Rul} (hg:Pw H) (ha:AlsAt H v cl) (hl:cl.length≤2 ^ 20) (hv:RulesAt H rv rs) (om:mv.oneCell'=true) (hrl:rs.length≤2 ^ 20) (hf:∀ r∈rs,r.byL.length≤2 ^ 20) :
  ∃ ov K lo,ACalls prog 6 [v,cfgV rv mv a b] H ov K∧Pre H K∧Gro K lo 5 46 ov (cl.filter (alK (plA 0 (rs.map fingF)))):=by
 have or:rv.oneCell'=true:=by obtain ⟨_,h,_⟩:=hv;exact h.one
 let X:AHeap:=[AObj.cells [rv,mv,i64 a,i64 b] 29]
 obtain ⟨mb,K1,r1,r2,r3,r4⟩:=c_rules (a:=a) (b:=b) (hg.trans (.app H X)) (hv.pre (.app H X)) om hrl hf
 have key:∃ ov K,(Pre H K∧Gro K K1.length 5 46 ov (cl.filter (alK (plA 0 (rs.map fingF)))))∧ACalls prog 6 [v,cfgV rv mv a b] H ov K:=by
  refine acalls_ex MixT func6 (by decide) ?_
  rw [d6]
  have n1:aNew H 29 (cfgV rv mv a b)=some (.pointer (some ⟨H.length,0,some 4⟩),H++X):=by simp [cfgV,aNew_agg,or,om,X]
  rw [n1]
  simp only [bndE_some]
  refine bnd_of (v:=cfgV rv mv a b) (by simp [X,cfgV]) ?_
  refine bndC_of r1 ?_
  have p1:=(Pre.app H X).trans r2
  have hln:aLen prog K1 22 v=some (i64 cl.length):=ha.1.len' (e:=46) (by simp)
  refine bnd_of hln ?_
  refine ⟨cl.length+1,?_⟩
  exact al_loop (k:=fun ov K=>Pre H K∧Gro K K1.length 5 46 ov (cl.filter (alK (plA 0 (rs.map fingF))))) ha hl (plA_ok _ _) (List.getElem?_eq_some_iff.1 r4).1 (by obtain ⟨Y,hY⟩:=p1;rw [hY];simp) (fun K ov p g=>⟨p,g⟩) cl.length 0 K1 _ _ _ _ _ _ _ _ _ _ _ _ _ _ _ _ _ _ _ _ _ _ _ _ _ _ _ _ _ rfl p1 (Nat.le_refl _) r4 .nil
 obtain ⟨ov,K,⟨h1,h2⟩,h3⟩:=key
 exact ⟨ov,K,_,h3,h1,h2⟩
end Go.Vi
namespace Go.Vi
open Go Go.Proofs Go.Proofs.Tryz
structure TkE (H:AHeap) (cb hb mb ib lo:Nat) (rv mv:Value) (a b:Int) (hes es:List (Value × Value)) (seen:List Nat) (ov:Value) (out:List (List Value)) (K:AHeap):Prop where
 pre:Pre H K
 lo1:H.length≤lo
 lo2:lo≤K.length
 bc:cb < lo
 bh:hb < lo
 bm:mb < lo
 bi:ib < lo
 ic:cb≠ib
 hi:H.length≤ib
 cfg:K[cb]?=some (.cells [rv,mv,i64 a,i64 b] 29)
 had:K[hb]?=some (.map hes)
 map:K[mb]?=some (.map es)
 it:K[ib]?=some (.loop (.iter (.map (some mb)) es.length seen))
 gro:Gro K lo 2 44 ov out
def TkOf (H:AHeap) (old:Value) (hes:List (Value × Value)) (rs:List Rul) (at':Int) (fp:Int) (idx:Nat) (c:List Value):Prop:=∃ r,rs[idx]?=some r∧r.every≤2 ^ 61 ∧
 ((mget (.int .u32 fp) hes=none∧c=tkC fp (firF r.every at'))∨∃ (j:Nat) (r' t':Int) (cl:List (List Value)),mget (.int .u32 fp) hes=some (i64 j)∧Arr H 2 old cl∧cl[j]?=some c∧c=tkC r' t')
theorem tk_turn {H:AHeap} {cb hb mb ib lo:Nat} {old rv mv:Value} {a b at':Int} {hes es:List (Value × Value)} {rs:List Rul} {k:Value→AHeap→Prop} {seen:List Nat} {ov:Value} {out:List (List Value)} {K:AHeap} {n:Nat}
  (hat:es≠[]→at'≤2 ^ 61) (hv:RulesAt H rv rs) (hok:mOk (.int .u32) hes=true) (hout:out.length≤2 ^ 20)
  (he:TkE H cb hb mb ib lo rv mv a b hes es seen ov out K)
  (hin:∀ (j:Nat) (ky x:Value),es[j]?=some (ky,x)→j ∉ seen→∃ (fp:Int) (idx:Nat) (c:List Value),ky=.int .u32 fp∧x=i64 idx∧TkOf H old hes rs at' fp idx c ∧
   ∀ (K':AHeap) (ov':Value) (s1 s3 s5 s6 s9 g al h i l m s t u w A C D E F G I J L M N O Q R S U V W Y Z aa ab ac ad ae af ag ah ai aj ak:Value),TkE H cb hb mb ib lo rv mv a b hes es (seen++[j]) ov' (out++[c]) K'→L7x0 n k [old,s1,i64 at',s3,.pointer (some ⟨cb,0,some 4⟩),s5,s6,.map (some hb),ov',s9,g,al,h,i,l,m,s,t,iterV ib,u,w,A,C,D,E,F,G,I,J,L,M,N,O,Q,R,S,U,V,W,Y,Z,aa,ab,ac,ad,ae,af,ag,ah,ai,aj,ak] K')
  (hend:(∀ j,j < es.length→j∈seen)→∃ K',ACalls prog 14 [ov,lessV] K (.tuple #[]) K'∧k ov K')
  (s1 s3 s5 s6 s9 g al h i l m s t u w A C D E F G I J L M N O Q R S U V W Y Z aa ab ac ad ae af ag ah ai aj ak:Value) :
  L7x0 (n+1) k [old,s1,i64 at',s3,.pointer (some ⟨cb,0,some 4⟩),s5,s6,.map (some hb),ov,s9,g,al,h,i,l,m,s,t,iterV ib,u,w,A,C,D,E,F,G,I,J,L,M,N,O,Q,R,S,U,V,W,Y,Z,aa,ab,ac,ad,ae,af,ag,ah,ai,aj,ak] K:=by
 rw [L7x0q]
 unfold bndN nexts
 simp only [he.it,he.map]
 refine ⟨trivial,fun hall=>?_,fun j ky x hj hns=>?_⟩
 · obtain ⟨K',h1,h2⟩:=hend hall
   refine bnd_of (v:=.bool false) rfl ?_
   dsimp only
   rw [kifB_false]
   dsimp only
   refine bndC_of h1 ?_
   exact h2
 · obtain ⟨fp,idx,c,rfl,rfl,⟨r,hr,hev,htk⟩,hnext⟩:=hin j _ _ hj hns
   refine bnd_of (v:=.bool true) rfl ?_
   dsimp only
   rw [kifB_true]
   dsimp only
   obtain ⟨B,hB⟩:∃ B,B=K.set ib (.loop (.iter (.map (some mb)) es.length (seen++[j]))):=⟨_,rfl⟩
   have hne:∀ (q:Nat) (o:AObj),q≠ib→K[q]?=some o→B[q]?=some o:=fun q o h1 h2=>by rw [hB,List.getElem?_set_ne (Ne.symm h1)];exact h2
   have bl:B.length=K.length:=by rw [hB];simp
   have bit:B[ib]?=some (.loop (.iter (.map (some mb)) es.length (seen++[j]))):=by rw [hB];exact get_setP he.it
   have hhi:hb≠ib:=fun e=>by have h1:=he.had;rw [e,he.it] at h1;cases h1
   have hmi:mb≠ib:=fun e=>by have h1:=he.map;rw [e,he.it] at h1;cases h1
   have bcfg:=hne _ _ he.ic he.cfg
   have bhad:=hne _ _ hhi he.had
   have bmap:=hne _ _ hmi he.map
   have bpre:Pre H B:=by rw [hB];exact he.pre.set he.hi
   have bgro:Gro B lo 2 44 ov out:=by rw [hB];exact he.gro.set he.bi
   rw [← hB]
   have hent:aEntry B (iterV ib)=some (.tuple #[.int .u32 fp,i64 idx]):=by simp [aEntry,iterV,bit,bmap,hj]
   rw [hent]
   simp only [Option.map_some,bndE_some]
   refine bnd_of (v:=.int .u32 fp) rfl ?_
   refine bnd_of (v:=i64 idx) rfl ?_
   have hc4:hcells B cb=some [rv,mv,i64 a,i64 b]:=by simp [hcells,bcfg]
   have hl4:hlen B cb=some 4:=by rw [hcells_len hc4];rfl
   refine bnd_of (v:=.pointer (some ⟨cb,0,some 4⟩)) (by simp [hl4]) ?_
   refine bnd_of (v:=rv) (by simp [hc4]) ?_
   obtain ⟨cl,harr,hcl,hcs⟩:=hv.pre bpre
   obtain ⟨nv,mv',hci,hra⟩:=hcs idx r hr
   obtain ⟨p,q,p1,p2,p3⟩:=harr.field (P:=prog) (T:=26) (te:=40) (ft:=3) (f:=4) (d:=4) (x:=i64 r.every) (by simp) (by simp) (by simp) (by simp) (by simp) hci (by simp [Rul.cells])
   refine bnd_of p1 ?_
   refine bnd_of p2 ?_
   refine bnd_of p3 ?_
   refine bndC_of (c_first B hev (hat (by rintro rfl;simp at hj))) ?_
   refine bnd_of (v:=.agg (tkC fp (firF r.every at')).toArray) (by simp [tkC]) ?_
   dsimp only
   simp only [tal44,bndE_some]
   rw [st_all (z:=2) (by simp) rfl rfl (by decide) (by simp [tkC])]
   simp only [bndS_some]
   have fin:∀ (s1 s3 s5 s6 s9 g h i l m s t u w A C D E F G I J L M N O Q R S U V W Y Z aa ab ac ad ae af ag ah ai aj ak:Value) (c:List Value) (r' t':Int),c=tkC r' t'→(∀ (K':AHeap) (ov':Value) (s1 s3 s5 s6 s9 g al h i l m s t u w A C D E F G I J L M N O Q R S U V W Y Z aa ab ac ad ae af ag ah ai aj ak:Value),TkE H cb hb mb ib lo rv mv a b hes es (seen++[j]) ov' (out++[c]) K'→L7x0 n k [old,s1,i64 at',s3,.pointer (some ⟨cb,0,some 4⟩),s5,s6,.map (some hb),ov',s9,g,al,h,i,l,m,s,t,iterV ib,u,w,A,C,D,E,F,G,I,J,L,M,N,O,Q,R,S,U,V,W,Y,Z,aa,ab,ac,ad,ae,af,ag,ah,ai,aj,ak] K') →
     S7x0 n k [old,s1,i64 at',s3,.pointer (some ⟨cb,0,some 4⟩),s5,s6,.map (some hb),ov,s9,g,.pointer (some ⟨B.length,0,some 2⟩),h,i,l,m,s,t,iterV ib,u,w,A,C,D,E,F,G,I,J,L,M,N,O,Q,R,S,U,V,W,Y,Z,aa,ab,ac,ad,ae,af,ag,ah,ai,aj,ak] (B++[.cells c 44]):=by
    rintro s1 s3 s5 s6 s9 g h i l m s t u w A C D E F G I J L M N O Q R S U V W Y Z aa ab ac ad ae af ag ah ai aj ak c r' t' rfl hn
    rw [S7x0q]
    refine bnd_of (v:=.agg (tkC r' t').toArray) (by simp [tkC]) ?_
    have hlit:=sliceLitA (c:=tkC r' t') (tbs23 (B++[.cells (tkC r' t') 44]) 1 _) (by rfl) (by simp [tkC]) (by simp)
    refine bndL_lit hlit ?_
    dsimp only
    obtain ⟨v',K',g1,g2,g3,g4,g5⟩:=Gro.push (P:=prog) (Ts:=23) (by_:=16) (x:=.slice (some ⟨(B++[AObj.cells (tkC r' t') 44]).length,0,some (tkC r' t').length⟩) 1 1) (c:=tkC r' t') ((bgro.app (X:=[.cells (tkC r' t') 44])).app (X:=[AObj.cells (tkC r' t') 44])) kel1 kel2 rfl (by have:=he.lo2;simp;omega) (by simp [aSrc,tkC]) (by omega) (by omega)
    rw [g1]
    simp only [bndE_some]
    have hk:∀ (q:Nat) (o:AObj),q < lo→B[q]?=some o→K'[q]?=some o:=fun q o h1 h2=>g3 q o h1 (get_more (get_more h2))
    exact hn K' v' _ _ _ _ _ _ _ _ _ _ _ _ _ _ _ _ _ _ _ _ _ _ _ _ _ _ _ _ _ _ _ _ _ _ _ _ _ _ _ _ _ _ _ _ _ _ ⟨g5 H ((bpre.more _).more _) he.lo1,he.lo1,by have:=he.lo2;simp at g4;omega,he.bc,he.bh,he.bm,he.bi,he.ic,he.hi,hk _ _ he.bc bcfg,hk _ _ he.bh bhad,hk _ _ he.bm bmap,hk _ _ he.bi bit,g2⟩
   have hlook:∀ x,mget (.int .u32 fp) hes=x→aLookup prog (B++[.cells (tkC fp (firF r.every at')) 44]) 47 (.map (some hb)) (.int .u32 fp) true=some (match x with | some y=>.tuple #[y,.bool true] | none=>.tuple #[i64 0,.bool false]):=by
    rintro x rfl
    rw [aLookup_map,get_more bhad]
    simp only [tm47,Option.bind_some,mapOf_map,keyOk,beq_self_eq_true,if_true,hok]
    cases mget (.int .u32 fp) hes with
    | some y=>simp
    | none=>simp [cok,isLit]
   rcases htk with ⟨hg,rfl⟩ | ⟨j',r',t',cl',hg,harr',hcj,hct⟩
   · refine bnd_of (hlook _ hg) ?_
     refine bnd_of (v:=i64 0) rfl ?_
     refine bnd_of (v:=.bool false) rfl ?_
     dsimp only
     rw [kifB_false]
     dsimp only
     exact fin _ _ _ _ _ _ _ _ _ _ _ _ _ _ _ _ _ _ _ _ _ _ _ _ _ _ _ _ _ _ _ _ _ _ _ _ _ _ _ _ _ _ _ _ _ _ _ _ rfl hnext
   · refine bnd_of (hlook _ hg) ?_
     refine bnd_of (v:=i64 j') rfl ?_
     refine bnd_of (v:=.bool true) rfl ?_
     dsimp only
     rw [kifB_true]
     dsimp only
     obtain ⟨p,p1,p2⟩:=(harr'.pre (bpre.more [.cells (tkC fp (firF r.every at')) 44])).load (P:=prog) (T:=23) (te:=44) (by simp) (by simp) (by simp) hcj
     refine bnd_of p1 ?_
     refine bnd_of p2 ?_
     dsimp only
     rw [hct,st_all (z:=2) (by simp) rfl rfl (by decide) (by simp [tkC])]
     simp only [bndS_some]
     rw [hct] at hnext
     exact fin _ _ _ _ _ _ _ _ _ _ _ _ _ _ _ _ _ _ _ _ _ _ _ _ _ _ _ _ _ _ _ _ _ _ _ _ _ _ _ _ _ _ _ _ _ _ _ _ rfl hnext
end Go.Vi
namespace Go.Vi
open Go Go.Proofs Go.Proofs.Tryz
theorem c_task1 (H:AHeap) (r t:Int):ACalls prog 13 [.agg (tkC r t).toArray] H (.int .u32 r) H:=by
 refine acalls_pure MixT func13 (by decide) rfl ?_
 rw [d13]
 simp [tkC,aNew_agg]
def TksAt (H:AHeap) (v:Value) (l:List (Int × Int)):Prop:=Arr H 2 v (l.map fun p=>tkC p.1 p.2)
theorem num_tasks {H:AHeap} {l:List (Int × Int)}:NumT H (.func (.func 13) #[] #[]) (l.map fun p=>tkC p.1 p.2) (l.map (·.1)):=by
 refine ⟨by simp,rfl,fun i c hi=>?_⟩
 simp only [List.getElem?_map,Option.map_eq_some_iff] at hi
 obtain ⟨p,h1,rfl⟩:=hi
 refine ⟨p.1,by simp [h1],rfl,by simp [tkC],fun K _=>?_⟩
 have:=c_task1 K p.1 p.2
 simpa [callV] using this
theorem c_len (H:AHeap) {n:Nat} (hn:n < 2 ^ 63):∃ m:Int,ACalls prog 29 [u64 n] H (i64 m) H:=by
 refine ⟨len2 n,?_⟩
 refine acalls_pure MixT func29 (by decide) rfl ?_
 rw [d29]
 rw [kifB_false]
 refine bndC_of (c_len64 H (by omega)) ?_
 exact ⟨rfl,[],by simp⟩
theorem c_pdq {H K:AHeap} {v f:Value} {n:Nat} {lim:Int} (hn:n≤12) (h:ACalls prog 47 [v,i64 0,i64 n,f] H (.tuple #[]) K) :
  ACalls prog 28 [v,i64 0,i64 n,i64 lim,f] H (.tuple #[]) K:=by
 refine acalls_of MixT func28 (by decide) ?_
 rw [d28]
 refine ⟨1,?_⟩
 rw [L28x0q]
 refine bnd_of (v:=i64 n) (by rw [aBin_sub ..,wrap_i64 (by omega) (by omega)];simp) ?_
 refine bnd_of (v:=.bool true) (by simp;omega) ?_
 dsimp only
 rw [kifB_true]
 dsimp only
 refine bndC_of h ?_
 exact ⟨rfl,rfl⟩
theorem c_sortF {H K:AHeap} {v f:Value} {n:Nat} (hn:n≤12) (hl:aLen prog H 23 v=some (i64 n)) (h:ACalls prog 47 [v,i64 0,i64 n,f] H (.tuple #[]) K) :
  ACalls prog 14 [v,f] H (.tuple #[]) K:=by
 refine acalls_of MixT func14 (by decide) ?_
 rw [d14]
 obtain ⟨m,hm⟩:=c_len H (n:=n) (by omega)
 refine bnd_of hl ?_
 have hw:IntKind.u64.wrap (n:Int)=n:=by
  unfold IntKind.wrap
  simp only [show IntKind.u64.bits=64 from rfl,show IntKind.u64.signed=false from rfl]
  simp
  omega
 refine bnd_of (v:=u64 n) (by rw [convV_int (k:=.u64) (j:=.i64) (by simp) (by simp),hw]) ?_
 refine bndC_of hm ?_
 refine bndC_of (c_pdq hn h) ?_
 exact ⟨rfl,rfl⟩
section
variable {H:AHeap} {old rv mv:Value} {a b at':Int} {rs:List Rul} {l:List (Int × Int)}
theorem tk_start {k:Value→AHeap→Prop} (hg:Pw H) (ho:TksAt H old l) (hl:l.length < 2 ^ 62) (hv:RulesAt H rv rs) (om:mv.oneCell'=true) (hrl:rs.length≤2 ^ 20) (hf:∀ r∈rs,r.byL.length≤2 ^ 20)
  (hk:∀ (K:AHeap) (hb mb ib lo:Nat) (s1 s3 s5 s6 s9 c d g i j m n o p q s t u w x y z A B C D E F G I J L M N O P Q R S T U V W Z aa ab:Value),TkE H H.length hb mb ib lo rv mv a b (plA 0 (l.map (·.1))) (plA 0 (rs.map fingF)) [] (.slice none 0 0) [] K→L7x0 (rs.length+1) k [old,s1,i64 at',s3,.pointer (some ⟨H.length,0,some 4⟩),s5,s6,.map (some hb),.slice none 0 0,s9,c,d,g,i,j,m,n,o,iterV ib,p,q,s,t,u,w,x,y,z,A,B,C,D,E,F,G,I,J,L,M,N,O,P,Q,R,S,T,U,V,W,Z,aa,ab] K) :
  kbodyN prog (drawStd prog) Tryz.f7 [old,cfgV rv mv a b,i64 at'] H k:=by
 rw [d7]
 have or:rv.oneCell'=true:=by obtain ⟨_,h,_⟩:=hv;exact h.one
 let X:AHeap:=[AObj.cells [rv,mv,i64 a,i64 b] 29]
 have pX:=Pre.app H X
 have n1:aNew H 29 (cfgV rv mv a b)=some (.pointer (some ⟨H.length,0,some 4⟩),H++X):=by simp [cfgV,aNew_agg,or,om,X]
 rw [n1]
 simp only [bndE_some]
 obtain ⟨K1,k1,k2,k3⟩:=c_placesT (H:=H++X) (v:=old) (num_tasks (l:=l)) (Arr.pre ho pX) (by simpa using hl)
 refine bndC_of k1 ?_
 have c0:(H++X)[H.length]?=some (.cells [rv,mv,i64 a,i64 b] 29):=by simp [X]
 have c1:=k2.get c0
 refine bnd_of (v:=cfgV rv mv a b) (by simp [hcells,c1,cfgV]) ?_
 obtain ⟨mb,K2,r1,r2,r3,r4⟩:=c_rules (a:=a) (b:=b) (hg.trans (pX.trans k2)) (hv.pre (pX.trans k2)) om hrl hf
 refine bndC_of r1 ?_
 have hlen1:H.length+1≤K1.length:=by obtain ⟨Y,hY⟩:=k2;rw [hY];simp [X]
 have hlen2:K1.length≤K2.length:=by obtain ⟨Y,hY⟩:=r2;rw [hY];simp
 have hmb:=(List.getElem?_eq_some_iff.1 r4).1
 have hhb:=(List.getElem?_eq_some_iff.1 k3).1
 have hr:aRange prog K2 47 (.map (some mb))=some (iterV K2.length,K2++[.loop (.iter (.map (some mb)) (plA 0 (rs.map fingF)).length [])]):=by
  have hu:∃ e f,prog.underlying 47=some (.map e f):=⟨_,_,underlying47⟩
  obtain ⟨e,f,hu⟩:=hu
  simp [aRange,hu,r4]
 dsimp only
 rw [hr]
 simp only [bndE_some]
 refine ⟨rs.length+1,?_⟩
 refine hk _ ((H++X).length+1) mb K2.length (K2.length+1) _ _ _ _ _ _ _ _ _ _ _ _ _ _ _ _ _ _ _ _ _ _ _ _ _ _ _ _ _ _ _ _ _ _ _ _ _ _ _ _ _ _ _ _ _ _ ⟨((pX.trans k2).trans r2).more _,by omega,by simp,by omega,by omega,by omega,by omega,by omega,by omega,get_more (r2.get c1),get_more (r2.get k3),get_more r4,by simp,.nil⟩
theorem c_tasks0 (hg:Pw H) (ho:TksAt H old l) (hl:l.length < 2 ^ 62) (hv:RulesAt H rv []) (om:mv.oneCell'=true):ACalls prog 7 [old,cfgV rv mv a b,i64 at'] H (.slice none 0 0) H:=by
 refine acallsN_flat (fun c=>@drawStd_sound _ c MixT) func7 (by decide) rfl ?_
 refine tk_start hg ho hl hv om (by simp) (by simp) fun K hb mb ib lo s1 s3 s5 s6 s9 d f g i k m o p q r s t u v w y z A B C D E F G I J L M N O P Q R S T U V W X Y Z e=>?_
 refine tk_turn (fun h=>absurd rfl h) hv (plA_ok _ _) (by simp) e (fun j ky x hj=>by simp [plA] at hj) (fun _=>⟨K,?_,rfl,e.pre⟩) _ _ _ _ _ _ _ _ _ _ _ _ _ _ _ _ _ _ _ _ _ _ _ _ _ _ _ _ _ _ _ _ _ _ _ _ _ _ _ _ _ _ _ _ _ _
 exact c_sortF (n:=0) (by omega) (by simp [aLen_slice]) (c_ins0 K _)
theorem c_tasks2 {r1 r2:Rul} {rx tx ry ty:Int} (hg:Pw H) (ho:TksAt H old l) (hl:l.length < 2 ^ 62) (hv:RulesAt H rv [r1,r2]) (om:mv.oneCell'=true) (hat:at'≤2 ^ 61) (hf:∀ r∈[r1,r2],r.byL.length≤2 ^ 20) (hne:fingF r1≠fingF r2)
  (h1:TkOf H old (plA 0 (l.map (·.1))) [r1,r2] at' (fingF r1) 0 (tkC rx tx)) (h2:TkOf H old (plA 0 (l.map (·.1))) [r1,r2] at' (fingF r2) 1 (tkC ry ty)) (hlt:ty < tx) :
  ACalls prog 7 [old,cfgV rv mv a b,i64 at'] H (.slice (some ⟨H.length,0,some 4⟩) 2 2) (H++[.cells (tkC ry ty++tkC rx tx) 44]):=by
 refine acallsN_row (fun c=>@drawStd_sound _ c MixT) func7 (by decide) (by simp [tkC,isLit]) rfl ?_
 have hes:plA 0 ([r1,r2].map fingF)=[(.int .u32 (fingF r2),i64 1),(.int .u32 (fingF r1),i64 0)]:=by
  simp [plA,mput,mfind,keyEq,hne]
 refine tk_start hg ho hl hv om (by simp) hf fun K hb mb ib lo s1 s3 s5 s6 s9 d f i k m q s t u v w y z A B C D E F G I J L M N O P Q R S T U V W Y Z aa ab ac ad ae e=>?_
 rw [hes] at e
 have c12:cmpT ry ty rx tx < 0:=by unfold cmpT cmpZ;simp [hlt]
 have c21:¬ cmpT rx tx ry ty < 0:=by unfold cmpT cmpZ;simp [show ¬ tx < ty by omega,hlt]
 have sortA:∀ {ov K},TkE H H.length hb mb ib lo rv mv a b (plA 0 (l.map (·.1))) [(.int .u32 (fingF r2),i64 1),(.int .u32 (fingF r1),i64 0)] [0,1] ov [tkC ry ty,tkC rx tx] K →
   ∃ K',ACalls prog 14 [ov,lessV] K (.tuple #[]) K'∧∃ X p,ov=.slice (some ⟨p,0,some 4⟩) 2 2∧K'=H++X∧H.length≤p∧K'[p]?=some (.cells (tkC ry ty++tkC rx tx) 44):=by
  intro ov K e
  have g:=e.gro
  have hlo:=e.lo1
  obtain ⟨X,hX⟩:=e.pre
  cases g with
  | mk bb _ q1 q2 q3 q4 =>
    have:=c_ins2 q2
    rw [if_neg c21] at this
    exact ⟨K,c_sortF (n:=2) (by omega) (by simp [aLen_slice]) this,X,bb,rfl,hX,by omega,q2⟩
 have sortB:∀ {ov K},TkE H H.length hb mb ib lo rv mv a b (plA 0 (l.map (·.1))) [(.int .u32 (fingF r2),i64 1),(.int .u32 (fingF r1),i64 0)] [1,0] ov [tkC rx tx,tkC ry ty] K →
   ∃ K',ACalls prog 14 [ov,lessV] K (.tuple #[]) K'∧∃ X p,ov=.slice (some ⟨p,0,some 4⟩) 2 2∧K'=H++X∧H.length≤p∧K'[p]?=some (.cells (tkC ry ty++tkC rx tx) 44):=by
  intro ov K e
  have g:=e.gro
  have hlo:=e.lo1
  cases g with
  | mk bb _ q1 q2 q3 q4 =>
    have:=c_ins2 q2
    rw [if_pos c12] at this
    obtain ⟨X,hX⟩:=e.pre.set (b:=bb) (o:=.cells [.int .u32 ry,i64 ty,.int .u32 rx,i64 tx] 44) (by omega)
    exact ⟨_,c_sortF (n:=2) (by omega) (by simp [aLen_slice]) this,X,bb,rfl,hX,by omega,get_setP q2⟩
 refine tk_turn (fun _=>hat) hv (plA_ok _ _) (by simp) e (fun j ky x hj _=>?_) (fun h=>by simpa using h 0 (by simp)) _ _ _ _ _ _ _ _ _ _ _ _ _ _ _ _ _ _ _ _ _ _ _ _ _ _ _ _ _ _ _ _ _ _ _ _ _ _ _ _ _ _ _ _ _ _
 match j with
 | 0 =>
   simp at hj
   obtain ⟨rfl,rfl⟩:=hj
   refine ⟨fingF r2,1,_,rfl,rfl,h2,fun K1 ov1 s1 s3 s5 s6 s9 d f i k m q s t u v w y z A B C D E F G I J L M N O P Q R S T U V W Y Z aa ab ac ad ae e1=>?_⟩
   refine tk_turn (fun _=>hat) hv (plA_ok _ _) (by simp) e1 (fun j ky x hj hn=>?_) (fun h=>by have:=h 1 (by simp);simp at this) _ _ _ _ _ _ _ _ _ _ _ _ _ _ _ _ _ _ _ _ _ _ _ _ _ _ _ _ _ _ _ _ _ _ _ _ _ _ _ _ _ _ _ _ _ _
   match j with
   | 0=>simp at hn
   | 1 =>
     simp at hj
     obtain ⟨rfl,rfl⟩:=hj
     refine ⟨fingF r1,0,_,rfl,rfl,h1,fun K2 ov2 s1 s3 s5 s6 s9 d f i k m q s t u v w y z A B C D E F G I J L M N O P Q R S T U V W Y Z aa ab ac ad ae e2=>?_⟩
     refine tk_turn (fun _=>hat) hv (plA_ok _ _) (by simp) e2 (fun j ky x hj hn=>?_) (fun _=>sortA e2) _ _ _ _ _ _ _ _ _ _ _ _ _ _ _ _ _ _ _ _ _ _ _ _ _ _ _ _ _ _ _ _ _ _ _ _ _ _ _ _ _ _ _ _ _ _
     match j with
     | 0=>simp at hn
     | 1=>simp at hn
     | j+2=>simp at hj
   | j+2=>simp at hj
 | 1 =>
   simp at hj
   obtain ⟨rfl,rfl⟩:=hj
   refine ⟨fingF r1,0,_,rfl,rfl,h1,fun K1 ov1 s1 s3 s5 s6 s9 d f i k m q s t u v w y z A B C D E F G I J L M N O P Q R S T U V W Y Z aa ab ac ad ae e1=>?_⟩
   refine tk_turn (fun _=>hat) hv (plA_ok _ _) (by simp) e1 (fun j ky x hj hn=>?_) (fun h=>by have:=h 0 (by simp);simp at this) _ _ _ _ _ _ _ _ _ _ _ _ _ _ _ _ _ _ _ _ _ _ _ _ _ _ _ _ _ _ _ _ _ _ _ _ _ _ _ _ _ _ _ _ _ _
   match j with
   | 0 =>
     simp at hj
     obtain ⟨rfl,rfl⟩:=hj
     refine ⟨fingF r2,1,_,rfl,rfl,h2,fun K2 ov2 s1 s3 s5 s6 s9 d f i k m q s t u v w y z A B C D E F G I J L M N O P Q R S T U V W Y Z aa ab ac ad ae e2=>?_⟩
     refine tk_turn (fun _=>hat) hv (plA_ok _ _) (by simp) e2 (fun j ky x hj hn=>?_) (fun _=>sortB e2) _ _ _ _ _ _ _ _ _ _ _ _ _ _ _ _ _ _ _ _ _ _ _ _ _ _ _ _ _ _ _ _ _ _ _ _ _ _ _ _ _ _ _ _ _ _
     match j with
     | 0=>simp at hn
     | 1=>simp at hn
     | j+2=>simp at hj
   | 1=>simp at hn
   | j+2=>simp at hj
 | j+2=>simp at hj
end
end Go.Vi
namespace Go.Vi
open Go Go.Proofs Go.ChangeShapes Go.RowKit Go.Proofs.Tryz
theorem ce_task:prog.cellsOf 44=2:=by kernel_rfl
theorem ce_alert:prog.cellsOf 46=5:=by kernel_rfl
theorem ce_w32:prog.cellsOf 41=1:=by kernel_rfl
theorem ce_w8:prog.cellsOf 5=1:=by kernel_rfl
abbrev parts_task:List (TypeId × Nat):=[(41,0),(3,1)]
abbrev parts_alert:List (TypeId × Nat):=[(41,0),(9,1),(5,2),(3,3),(3,4)]
theorem lenTwo {α:Type} {l:List α} (h:l.length=2):∃ a b,l=[a,b]:=match l,h with
 | [a,b],_=>⟨a,b,rfl⟩
theorem lenFive {α:Type} {l:List α} (h:l.length=5):∃ a b c d e,l=[a,b,c,d,e]:=match l,h with
 | [a,b,c,d,e],_=>⟨a,b,c,d,e,rfl⟩
section
variable {H:AHeap} {f:Nat} {v:Value} {cs:List Value}
theorem rd_task (h:Rd prog H (f+6) 44 cs):∃ p:Int × Int,cs=tkC p.1 p.2:=by
 obtain ⟨hl,hp⟩:=h.parts (ps:=parts_task) (by kernel_rfl)
 rw [ce_task] at hl
 obtain ⟨x0,x1,rfl⟩:=lenTwo hl
 simp only [parts_task,List.forall_mem_cons,ce_w32,ce_int] at hp
 obtain ⟨h0,h1,_⟩:=hp
 obtain ⟨b0,e0,_⟩:=h0.int underlying41
 obtain ⟨b1,e1,_⟩:=h1.int underlying3
 simp at e0 e1
 exact ⟨(b0,b1),by simp [tkC,e0,e1]⟩
theorem rd_tasks (h:Rd prog H (f+7) 23 [v]):∃ l:List (Int × Int),TksAt H v l∧l.length < 2 ^ 63:=by
 obtain ⟨v',l,h1,h2,h3,h4⟩:=h.slice underlying23
 cases h1
 rw [ce_task] at h2
 obtain ⟨ms,rfl⟩:=map_ex (g:=fun p:Int × Int=>tkC p.1 p.2) fun x hx=>rd_task (h4 x hx)
 exact ⟨ms,h2,by simpa using max_lt h3⟩
theorem rd_alert (h:Rd prog H (f+6) 46 cs):∃ (r:Int) (rest:List Value),cs=.int .u32 r :: rest∧rest.length=4∧∀ e∈rest,e.oneCell'=true:=by
 obtain ⟨hl,hp⟩:=h.parts (ps:=parts_alert) (by kernel_rfl)
 rw [ce_alert] at hl
 obtain ⟨x0,x1,x2,x3,x4,rfl⟩:=lenFive hl
 simp only [parts_alert,List.forall_mem_cons,ce_w32,ce_w8,ce_int,ce_str] at hp
 obtain ⟨h0,h1,h2,h3,h4,_⟩:=hp
 obtain ⟨b0,e0,_⟩:=h0.int underlying41
 obtain ⟨b1,e1,_⟩:=h1.str underlying9
 obtain ⟨b2,e2,_⟩:=h2.int underlying5
 obtain ⟨b3,e3,_⟩:=h3.int underlying3
 obtain ⟨b4,e4,_⟩:=h4.int underlying3
 simp at e0 e1 e2 e3 e4
 refine ⟨b0,[x1,x2,x3,x4],by rw [e0],rfl,?_⟩
 simp [e1,e2,e3,e4]
theorem rd_alerts (h:Rd prog H (f+7) 22 [v]):∃ cl,AlsAt H v cl∧cl.length < 2 ^ 63:=by
 obtain ⟨v',l,h1,h2,h3,h4⟩:=h.slice underlying22
 cases h1
 rw [ce_alert] at h2
 exact ⟨l,⟨h2,fun c hc=>rd_alert (h4 c hc)⟩,max_lt h3⟩
end
end Go.Vi
namespace Go.Proofs.YtmajhiahjkjflaaGreatDoor
open Go Go.Vi Go.ChangeShapes Go.WideShapes Go.RowKit Go.Proofs Go.Proofs.Tryz
theorem own:ownKnob prog.godebug=none:=by kernel_rfl
theorem laidOut:laidOutB prog=true:=by kernel_rfl
end Go.Proofs.YtmajhiahjkjflaaGreatDoor
namespace Go.Vi
open Go Go.RowKit Go.ChangeShapes Go.WideShapes Go.Proofs Go.Proofs.Tryz
variable {P:Program}
theorem WRel.pushGl {w0 s H w} (h:WRel w0 s H w) (hn:NoOwn H) (cs:List Value) (g:Nat) (ho:One cs) (hg:g < w.heap.size)
  (hv:∀ (i:Nat) v,cs[i]?=some v→∃ v',w.cell? ⟨g,i,none⟩=some v'∧VRel s H v v') :
  WRel w0 (upd s H.length ⟨g,0,0⟩) (H++[.gl g cs]) w∧NoOwn (H++[.gl g cs]):=by
 have e:=Ext.push s H (.gl g cs) ⟨g,0,0⟩
 have hno:NoOwn (H++[.gl g cs]):=by
  intro b o hb
  rcases getElem_append_old hb with ⟨_,h1⟩ | ⟨_,rfl⟩
  · exact hn b o h1
  · rfl
 refine ⟨⟨⟨fun b x hx=>?_,fun b b' o o' hb hb' _ ho1 _=>?_⟩,h.b,h.o.push _ (by rintro _ ⟨rfl⟩;exact ho)⟩,hno⟩
 · rcases getElem_append_old hx with ⟨hb,hx'⟩ | ⟨rfl,rfl⟩
   · exact (h.h.obj b x hx').keep e (fun _=>upd_ne _ _ (by omega)) (fun _ _=>rfl)
   · refine ⟨by rw [upd_self],by rw [upd_self],hg,fun i v hi=>?_⟩
     obtain ⟨v',h1,h2⟩:=hv i v hi
     exact ⟨v',h1,h2.mono e⟩
 · rw [hno b o hb] at ho1;cases ho1
theorem var_cell {w:World} {n:String} {g:Nat} {cs:Array Value} (hg:P.globalNamed n=some g) (h:w.var? P n=some cs):∀ (i:Nat) v,cs[i]?=some v→g < w.heap.size∧w.cell? ⟨g,i,none⟩=some v:=by
 intro i v hi
 unfold World.var? at h
 rw [hg] at h
 simp only [Option.bind_some] at h
 split at h
 · rename_i q
   cases h
   refine ⟨(Array.getElem?_eq_some_iff.1 q).1,?_⟩
   unfold World.cell?
   simp [q,hi]
 · cases h
theorem trod_if {D:Type} {enc:TypeId × Value→D} {w:World} {sp:Nat→Bool} {held:Bool} {base fuel:Nat} {t:TypeId} {cs:List Value} {x} {ms} (ht:P.underlying t=some (.interface ms)) (h:DataW.trod enc P w base sp held fuel t cs=some x):∃ v,cs=[v]∧v.oneCell'=true:=by
 cases fuel with
 | zero=>simp [DataW.trod] at h
 | succ n =>
   unfold DataW.trod at h
   rw [ht] at h
   split at h
   all_goals first
    | exact ⟨_,rfl,rfl⟩
    | (exfalso;simp_all;done)
    | simp_all
theorem laid_find {w:World} {n:String} {d:DataW Unit}:∀ {l:List (String × DataW Unit)} {ps},DataW.LaidVars P w l ps→(n,d)∈l→∃ g t cs fuel p,P.globalNamed n=some g∧(P.globals[g]?).map (·.type)=some t∧w.var? P n=some cs∧DataW.trod (fun _=>()) P w 0 (fun _=>true) false fuel t cs.toList=some (d,p):=by
 intro l
 induction l with
 | nil=>intro ps _ h;simp at h
 | cons x r ih =>
   intro ps h hm
   obtain ⟨m,e⟩:=x
   obtain ⟨g,t,cs,fuel,p,q,h1,h2,h3,h4,h5,_⟩:=h
   rcases List.mem_cons.1 hm with hx | hm
   · cases hx
     exact ⟨g,t,cs,fuel,p,h1,h2,h3,h4⟩
   · exact ih h5 hm
theorem start_gs {w : World} {l : List (String × DataW Unit)} (h : laidMetH prog l w) (h1 : ∃ d, ("strconv.ErrSyntax", d) ∈ l.filter fun x => x.2.handleName?.isNone) (h2 : ∃ d, ("strconv.ErrRange", d) ∈ l.filter fun x => x.2.handleName?.isNone)
  (h3 : ("internal/strconv.uint64pow10", DataW.agg ((List.range 20).map fun i => .lit (.int .u64 (10 ^ i)))) ∈ l.filter fun x => x.2.handleName?.isNone) : ∃ s, Got prog w (fun _ => ⟨0, 0, 0⟩) [] s Gs := by
 obtain ⟨ps,hl,_,_⟩:laidMet prog (l.filter fun x=>x.2.handleName?.isNone) w:=(laidMetH_iff.1 h).1
 obtain ⟨d1,m1⟩:=h1
 obtain ⟨d2,m2⟩:=h2
 obtain ⟨g1,t1,c1,f1,p1,a1,b1,v1,r1⟩:=laid_find hl m1
 obtain ⟨g2,t2,c2,f2,p2,a2,b2,v2,r2⟩:=laid_find hl m2
 obtain ⟨g3,t3,c3,f3,p3,a3,b3,v3,r3⟩:=laid_find hl h3
 obtain rfl : 2 = g1 := Option.some.inj ((show prog.globalNamed "strconv.ErrSyntax" = some 2 by kernel_rfl).symm.trans a1)
 obtain rfl : 3 = g2 := Option.some.inj ((show prog.globalNamed "strconv.ErrRange" = some 3 by kernel_rfl).symm.trans a2)
 obtain rfl : 1 = g3 := Option.some.inj ((show prog.globalNamed "internal/strconv.uint64pow10" = some 1 by kernel_rfl).symm.trans a3)
 obtain rfl:96=t1:=Option.some.inj ((show (prog.globals[2]?).map (·.type)=some 96 by kernel_rfl).symm.trans b1)
 obtain rfl:96=t2:=Option.some.inj ((show (prog.globals[3]?).map (·.type)=some 96 by kernel_rfl).symm.trans b2)
 obtain rfl:191=t3:=Option.some.inj ((show (prog.globals[1]?).map (·.type)=some 191 by kernel_rfl).symm.trans b3)
 obtain ⟨x1,e1,o1⟩:=trod_if underlying96 r1
 obtain ⟨x2,e2,o2⟩:=trod_if underlying96 r2
 obtain ⟨xs,m,_,q1,q2,q3,q4⟩:=DataW.trod_array underlying191 r3
 have hc1:=var_cell a1 v1 0 x1 (by rw [← Array.getElem?_toList,e1];rfl)
 have hc2:=var_cell a2 v2 0 x2 (by rw [← Array.getElem?_toList,e2];rfl)
 have k3:∀ i:Nat,i < 20→c3[i]?=some (.int .u64 (10 ^ i)):=by
  intro i hi
  have h4:=q4 i hi
  rw [show prog.cellsOf 117=1 by kernel_rfl,Nat.mul_one] at h4
  rw [List.getElem?_eq_getElem (by omega)] at h4
  obtain ⟨n,z1,z2,_⟩:=DataW.trod_int underlying117 h4
  have hq:(List.range 20).map (fun i=>(DataW.lit (.int .u64 (10 ^ i)):DataW Unit))=xs.map (·.1):=by
   have:=congrArg Prod.fst q1
   simpa using this
  have hqi:=congrArg (fun l=>l[i]?) hq
  simp only [List.getElem?_map,List.getElem?_eq_getElem (show i < xs.length by omega),List.getElem?_range hi,Option.map_some,z2] at hqi
  injection hqi with e
  injection e with e
  injection e with _ e
  rw [← e] at z1
  have:(List.take 1 (List.drop i c3.toList))[0]?=some (Value.int .u64 (10 ^ i)):=by rw [z1];rfl
  rw [List.getElem?_take_of_lt (by omega),List.getElem?_drop,Nat.add_zero] at this
  rw [← Array.getElem?_toList]
  exact this
 have W0:WRel w (fun _=>⟨0,0,0⟩) [] w:=WRel.refl w _
 obtain ⟨W1,N1⟩:=W0.pushGl NoOwn.nil [unkV] 2 (fun v hv=>by simp at hv;subst hv;rfl) hc1.1 (fun i v hi=>by
  cases i with
  | zero=>simp at hi;subst hi;exact ⟨x1,hc1.2,.unk _ o1⟩
  | succ i=>simp at hi)
 obtain ⟨W2,N2⟩:=W1.pushGl N1 [unkV] 3 (fun v hv=>by simp at hv;subst hv;rfl) hc2.1 (fun i v hi=>by
  cases i with
  | zero=>simp at hi;subst hi;exact ⟨x2,hc2.2,.unk _ o2⟩
  | succ i=>simp at hi)
 have hc3:=fun (i:Nat) (hi:i < 20)=>var_cell a3 v3 i _ (k3 i hi)
 obtain ⟨W3,N3⟩:=W2.pushGl N2 pow10s 1 (fun v hv=>by
  simp only [pow10s,List.mem_map] at hv
  obtain ⟨i,_,rfl⟩:=hv
  rfl) (hc3 0 (by omega)).1 (fun i v hi=>by
  simp only [pow10s,List.getElem?_map,Option.map_eq_some_iff] at hi
  obtain ⟨j,hj,rfl⟩:=hi
  have hij:=List.getElem?_eq_some_iff.1 hj
  obtain ⟨hlt,rfl⟩:=hij
  simp only [List.length_range] at hlt
  simp only [List.getElem_range]
  exact ⟨_,(hc3 i hlt).2,.lit _ rfl⟩)
 exact ⟨_,W3,N3,((Ext.push _ _ _ _).trans (Ext.push _ _ _ _)).trans (Ext.push _ _ _ _),⟨Gs,rfl⟩⟩
end Go.Vi
namespace Go.Vi
open Go Go.Proofs Go.Proofs.Tryz
-- tocsin/tocsinlaw27.awake
theorem d5 (H:AHeap) (k:Value→AHeap→Prop):kbody prog Tryz.f5 [] H k=(@bndC prog 9 [(.string { data:=#[99,111,117,110,116,40,123,125,91,53,93,41,32,62,32,51] })] H ⟨fun x H2=>@bnd (tupV
 x 0) ⟨fun y=>@bnd (tupV x 1) ⟨fun aH=>@bnd (buildV prog 40 [(0,(.string { data:=#[97] })),(2,y),(4,(.int .i64 10))]) ⟨fun aI=>@bnd (buildV prog 40 [(0,(.string { data:=#[98] })),
 (2,y),(4,(.int .i64 7))]) ⟨fun aJ=>@bndL prog H2 26 2 [(0,aI),(1,aJ)] ⟨fun aK H8=>@bnd (buildV prog 29 [(0,aK)]) ⟨fun aL=>@bndE (aAlloc prog H8 29) ⟨fun g H11=>@bndS
 (aStore prog H11 29 g aL) ⟨fun _ H13=>@bnd (aFieldAddr prog H13 29 g 0) ⟨fun E=>@bnd (aLoad prog H13 26 E) ⟨fun F=>@bnd (aIndexAddr prog H13 26 F (.int .i64 0)) ⟨fun
 G=>@bnd (aLoad prog H13 40 G) ⟨fun I=>@bndD false H13 ⟨fun a H19=>ACalls prog 10 [I] H13 a H19⟩ ⟨fun a H19=>@bnd (aFieldAddr prog H13 29 g 0) ⟨fun J=>@bnd
 (aLoad prog H13 26 J) ⟨fun K=>@bnd (aIndexAddr prog H13 26 K (.int .i64 1)) ⟨fun L=>@bnd (aLoad prog H13 40 L) ⟨fun M=>@bndD true H19 ⟨fun b H25=>ACalls prog 10
 [M] H19 b H25⟩ ⟨fun b H25=>@bnd (aLoad prog H25 29 g) ⟨fun N=>@bndC prog 7 [(.slice none 0 0),N,(.int .i64 20)] H25 ⟨fun s H28=>@bnd (buildV prog 44 [(0,a),(1,
 (.int .i64 90))]) ⟨fun O=>@bnd (aBin2 prog H28 .xor 41 (.tmp 33) (.tmp 34) a b) ⟨fun P=>@bnd (buildV prog 44 [(0,P),(1,(.int .i64 1))]) ⟨fun Q=>@bndL prog H28 23 2 [(0,
 O),(1,Q)] ⟨fun R H33=>@bnd (aLoad prog H33 29 g) ⟨fun S=>@bndC prog 7 [R,S,(.int .i64 20)] H33 ⟨fun t H36=>@bnd (buildV prog 46 [(0,a),(1,(.string { data
:=#[107] }))]) ⟨fun T=>@bnd (aBin2 prog H36 .xor 41 (.tmp 42) (.tmp 43) a b) ⟨fun U=>@bnd (buildV prog 46 [(0,U)]) ⟨fun V=>@bnd (buildV prog 46 [(0,b)]) ⟨fun W =>
 @bndL prog H36 22 3 [(0,T),(1,V),(2,W)] ⟨fun X H42=>@bnd (aLoad prog H42 29 g) ⟨fun Y=>@bndC prog 6 [X,Y] H42 ⟨fun u H45=>@bnd (aBin2 prog H45 .eql 35
 (.tmp 51) (.const (.int .i64 0)) aH (.int .i64 0)) ⟨fun h=>@bnd (gif h true ((some a)) undef) ⟨fun Z=>@bnd (gif h true ((some b)) undef) ⟨fun aa=>@bnd (gif h true (aBin2 prog
 H45 .neq 41 (.tmp 54) (.tmp 55) Z aa) undef) ⟨fun ab=>@bnd (pickV h ab (.bool false)) ⟨fun i=>@bnd (gif i true ((some s)) undef) ⟨fun ac=>@bnd (gif i true (aLen prog H45
 23 ac) undef) ⟨fun ad=>@bnd (gif i true (aBin2 prog H45 .eql 3 (.tmp 60) (.const (.int .i64 2)) ad (.int .i64 2)) undef) ⟨fun ae=>@bnd (pickV i ae (.bool false)) ⟨fun c=>@bnd (gif
 c true ((some s)) undef) ⟨fun af=>@bnd (gif c true (aIndexAddr prog H45 23 af (.int .i64 0)) undef) ⟨fun ag=>@bnd (gif c true (aLoad prog H45 44 ag) undef) ⟨fun ah=>@bnd
 (gif c true ((some b)) undef) ⟨fun ai=>@bnd (gif c true (buildV prog 44 [(0,ai),(1,(.int .i64 21))]) undef) ⟨fun aj=>@bnd (gif c true (aBin2 prog H45 .eql 44 (.tmp 66) (.tmp 68)
 ah aj) undef) ⟨fun ak=>@bnd (pickV c ak (.bool false)) ⟨fun d=>@bnd (gif d true ((some s)) undef) ⟨fun al=>@bnd (gif d true (aIndexAddr prog H45 23 al (.int .i64 1))
 undef) ⟨fun am=>@bnd (gif d true (aLoad prog H45 44 am) undef) ⟨fun an=>@bnd (gif d true ((some a)) undef) ⟨fun ao=>@bnd (gif d true (buildV prog 44 [(0,ao),(1,(.int
 .i64 30))]) undef) ⟨fun ap=>@bnd (gif d true (aBin2 prog H45 .eql 44 (.tmp 74) (.tmp 76) an ap) undef) ⟨fun aq=>@bnd (pickV d aq (.bool false)) ⟨fun j=>@bnd (gif j true ((some
 t)) undef) ⟨fun ar=>@bnd (gif j true (aLen prog H45 23 ar) undef) ⟨fun au=>@bnd (gif j true (aBin2 prog H45 .eql 3 (.tmp 81) (.const (.int .i64 2)) au (.int .i64 2)) undef) ⟨fun
 av=>@bnd (pickV j av (.bool false)) ⟨fun e=>@bnd (gif e true ((some t)) undef) ⟨fun aw=>@bnd (gif e true (aIndexAddr prog H45 23 aw (.int .i64 1)) undef) ⟨fun ax=>@bnd
 (gif e true (aLoad prog H45 44 ax) undef) ⟨fun ay=>@bnd (gif e true ((some a)) undef) ⟨fun az=>@bnd (gif e true (buildV prog 44 [(0,az),(1,(.int .i64 90))]) undef) ⟨fun
 aA=>@bnd (gif e true (aBin2 prog H45 .eql 44 (.tmp 87) (.tmp 89) ay aA) undef) ⟨fun aB=>@bnd (pickV e aB (.bool false)) ⟨fun l=>@bnd (gif l true ((some u)) undef) ⟨fun
 aC=>@bnd (gif l true (aLen prog H45 22 aC) undef) ⟨fun aD=>@bnd (gif l true (aBin2 prog H45 .eql 3 (.tmp 94) (.const (.int .i64 2)) aD (.int .i64 2)) undef) ⟨fun aE=>@bnd (pickV
 l aE (.bool false)) ⟨fun f=>@bnd (gif f true ((some u)) undef) ⟨fun aF=>@bnd (gif f true (aIndexAddr prog H45 22 aF (.int .i64 0)) undef) ⟨fun aG=>@bnd (gif f true
 (aFieldAddr prog H45 46 aG 1) undef) ⟨fun z=>@bnd (gif f true (aLoad prog H45 9 z) undef) ⟨fun A=>@bnd (gif f true (aBin2 prog H45 .eql 9 (.tmp 101) (.const (.string { data :=
 #[107] })) A (.string { data:=#[107] })) undef) ⟨fun B=>@bnd (pickV f B (.bool false)) ⟨fun m=>@bndG m true H45 ⟨fun n H91=>ACalls prog 8 [(.int .i64 10),(.int .i64 10)]
 H45 n H91⟩ ⟨fun n H91=>@bnd (gif m true (aBin2 prog H91 .eql 3 (.tmp 105) (.const (.int .i64 20)) n (.int .i64 20)) undef) ⟨fun C=>@bnd (pickV m C (.bool false)) ⟨fun o
=>@bndG o true H91 ⟨fun p H95=>ACalls prog 8 [(.int .i64 0),(.int .i64 5)] H91 p H95⟩ ⟨fun p H95=>@bnd (gif o true (aBin2 prog H95 .eql 3 (.tmp 109) (.const (.int .i64 6)) p
 (.int .i64 6)) undef) ⟨fun D=>@bnd (pickV o D (.bool false)) ⟨fun q=>@bndG q true H95 ⟨fun r H99=>ACalls prog 8 [(.int .i64 10),(.int .i64 (-3))] H95 r H99⟩ ⟨fun r H99
=>@bnd (gif q true (aBin2 prog H99 .eql 3 (.tmp 113) (.const (.int .i64 0)) r (.int .i64 0)) undef) ⟨fun v=>@bnd (pickV q v (.bool false)) ⟨fun w=>k w
 H99⟩⟩⟩⟩⟩⟩⟩⟩⟩⟩⟩⟩⟩⟩⟩⟩⟩⟩⟩⟩⟩⟩⟩⟩⟩⟩⟩⟩⟩⟩⟩⟩⟩⟩⟩⟩⟩⟩⟩⟩⟩⟩⟩⟩⟩⟩⟩⟩⟩⟩⟩⟩⟩⟩⟩⟩⟩⟩⟩⟩⟩⟩⟩⟩⟩⟩⟩⟩⟩⟩⟩⟩⟩⟩⟩⟩⟩⟩⟩⟩⟩⟩⟩⟩⟩⟩⟩):=by kernel_rfl
end Go.Vi
namespace Go.Vi
open Go Go.Proofs Go.Proofs.Tryz
def A7:Rul:=⟨[97],[],[nA],0,10,0,[],[]⟩
def B7:Rul:=⟨[98],[],[nA],0,7,0,[],[]⟩
set_option maxRecDepth 100000 in
theorem fA7:fingF A7=1817483744:=by kernel_rfl
set_option maxRecDepth 100000 in
theorem fB7:fingF B7=3204443009:=by kernel_rfl
theorem xAB:xorI .u32 1817483744 3204443009=3534451297:=by kernel_rfl
theorem rlit7 (H:AHeap) {r r':Rul} {nv mv nv' mv':Value} (h1:nv.oneCell'=true) (h2:mv.oneCell'=true) (h3:nv'.oneCell'=true) (h4:mv'.oneCell'=true) :
  sliceLit prog H 26 2 [(0,.agg (r.cells nv mv).toArray),(1,.agg (r'.cells nv' mv').toArray)] (.slice (some ⟨H.length,0,some 16⟩) 2 2) (H++[.cells (r.cells nv mv++r'.cells nv' mv') 40]):=by
 refine ⟨by simp [Rul.cells,h1,h2,h3,h4],?_⟩
 rw [tbs26]
 simp [bslV,Rul.cells,repCells,h1,h2,h3,h4,show List.range 16=[0,1,2,3,4,5,6,7,8,9,10,11,12,13,14,15] from rfl]
theorem rat7 {K:AHeap} {b:Nat} {r r':Rul} {nv mv nv' mv':Value} (hc:hcells K b=some (r.cells nv mv++r'.cells nv' mv')) (h:RulAt K r nv mv) (h':RulAt K r' nv' mv'):RulesAt K (.slice (some ⟨b,0,some 16⟩) 2 2) [r,r']:=by
 refine ⟨[r.cells nv mv,r'.cells nv' mv'],.mk b 0 16 2 2 _ _ rfl hc rfl (by simp) fun i e hi=>?_,rfl,fun i x hi=>?_⟩
 · match i with
   | 0=>simp at hi;subst hi;rfl
   | 1=>simp at hi;subst hi;rfl
   | i+2=>simp at hi
 · match i with
   | 0=>simp at hi;subst hi;exact ⟨nv,mv,rfl,h⟩
   | 1=>simp at hi;subst hi;exact ⟨nv',mv',rfl,h'⟩
   | i+2=>simp at hi
theorem tklit7 (H:AHeap) (r t r' t':Int):sliceLit prog H 23 2 [(0,.agg (tkC r t).toArray),(1,.agg (tkC r' t').toArray)] (.slice (some ⟨H.length,0,some 4⟩) 2 2) (H++[.cells (tkC r t++tkC r' t') 44]):=by
 refine ⟨by simp [tkC],?_⟩
 rw [tbs23]
 simp [bslV,tkC,repCells,show List.range 4=[0,1,2,3] from rfl]
theorem tks7 {K:AHeap} {b:Nat} {r t r' t':Int} (hc:hcells K b=some (tkC r t++tkC r' t')):TksAt K (.slice (some ⟨b,0,some 4⟩) 2 2) [(r,t),(r',t')]:=by
 refine .mk b 0 4 2 2 _ _ rfl hc rfl (by simp) fun i e hi=>?_
 match i with
 | 0=>simp at hi;subst hi;rfl
 | 1=>simp at hi;subst hi;rfl
 | i+2=>simp at hi
def alC (r:Int) (s:List UInt8):List Value:=[.int .u32 r,str s,.int .u8 0,i64 0,i64 0]
theorem allit7 (H:AHeap) (a b c:Int) (s t u:List UInt8):sliceLit prog H 22 3 [(0,.agg (alC a s).toArray),(1,.agg (alC b t).toArray),(2,.agg (alC c u).toArray)] (.slice (some ⟨H.length,0,some 15⟩) 3 3) (H++[.cells (alC a s++alC b t++alC c u) 46]):=by
 refine ⟨by simp [alC],?_⟩
 rw [tbs22]
 simp [bslV,alC,repCells,show List.range 15=[0,1,2,3,4,5,6,7,8,9,10,11,12,13,14] from rfl]
theorem als7 {K:AHeap} {bb:Nat} {a b c:Int} {s t u:List UInt8} (hc:hcells K bb=some (alC a s++alC b t++alC c u)):AlsAt K (.slice (some ⟨bb,0,some 15⟩) 3 3) [alC a s,alC b t,alC c u]:=by
 refine ⟨.mk bb 0 15 3 3 _ _ rfl hc rfl (by simp) fun i e hi=>?_,fun c hc=>?_⟩
 · match i with
   | 0=>simp at hi;subst hi;rfl
   | 1=>simp at hi;subst hi;rfl
   | 2=>simp at hi;subst hi;rfl
   | i+3=>simp at hi
 · simp at hc
   rcases hc with rfl | rfl | rfl<;>exact ⟨_,_,rfl,rfl,by simp⟩
theorem tkeq (H:AHeap) (x y:Operand):aBin2 prog H .eql 44 x y (.agg #[.int .u32 3204443009,i64 21]) (.agg #[.int .u32 3204443009,i64 21])=some (.bool true)∧aBin2 prog H .eql 44 x y (.agg #[.int .u32 1817483744,i64 30]) (.agg #[.int .u32 1817483744,i64 30])=some (.bool true) ∧
  aBin2 prog H .eql 44 x y (.agg #[.int .u32 1817483744,i64 90]) (.agg #[.int .u32 1817483744,i64 90])=some (.bool true):=⟨by kernel_rfl,by kernel_rfl,by kernel_rfl⟩
set_option maxRecDepth 50000 in
set_option maxHeartbeats 1000000 in
theorem c_awake27 {H:AHeap} (hg:Pre Gs H):ACalls prog 5 [] H (.bool true) H:=by
 refine acalls_pure MixT func5 (by decide) rfl ?_
 generalize hk0:(fun u H2=>u=Value.bool true∧∃ X,H2=H++X)=k
 have hk:∀ M,Pre H M→k (.bool true) M:=fun M p=>by rw [← hk0];exact ⟨rfl,p⟩
 rw [d5]
 obtain ⟨v1,K1,a1,p1,n1⟩:=g_parse (s:=tA) hg
 rw [pA] at a1 n1
 refine bndC_of a1 ?_
 simp only [bnd_some,tupV,List.getElem?_toArray,List.getElem?_cons_zero,List.getElem?_cons_succ]
 have o1:v1.oneCell'=true:=by obtain ⟨cl1,hcl1,_⟩:=n1;exact hcl1.one
 refine bnd_of (v:=.agg (A7.cells v1 (.slice none 0 0)).toArray) (by simp [A7,Rul.cells,stor_one o1,cells_one o1]) ?_
 refine bnd_of (v:=.agg (B7.cells v1 (.slice none 0 0)).toArray) (by simp [B7,Rul.cells,stor_one o1,cells_one o1]) ?_
 refine bndL_lit (rlit7 K1 (r:=A7) (r':=B7) o1 rfl o1 rfl) ?_
 refine bnd_of (v:=cfgV (.slice (some ⟨K1.length,0,some 16⟩) 2 2) (.slice none 0 0) 0 0) (by simp [cfgV]) ?_
 dsimp only
 simp only [tal29,bndE_some]
 rw [show cfgV (.slice (some ⟨K1.length,0,some 16⟩) 2 2) (.slice none 0 0) 0 0=.agg ([.slice (some ⟨K1.length,0,some 16⟩) 2 2,.slice none 0 0,i64 0,i64 0]:List Value).toArray from rfl]
 rw [st_all (z:=4) (by simp) rfl rfl (by decide) (by simp)]
 simp only [bndS_some]
 obtain ⟨B,hB⟩:∃ B,B=K1++[AObj.cells (A7.cells v1 (.slice none 0 0)++B7.cells v1 (.slice none 0 0)) 40]++[AObj.cells [.slice (some ⟨K1.length,0,some 16⟩) 2 2,.slice none 0 0,i64 0,i64 0] 29]:=⟨_,rfl⟩
 have hcb:(K1++[AObj.cells (A7.cells v1 (.slice none 0 0)++B7.cells v1 (.slice none 0 0)) 40]).length=K1.length+1:=by simp
 rw [hcb,← hB]
 have pB:Pre K1 B:=by rw [hB,List.append_assoc];exact .app _ _
 have pHB:=p1.trans pB
 have hgB:=hg.trans pHB
 have c0:hcells B K1.length=some (A7.cells v1 (.slice none 0 0)++B7.cells v1 (.slice none 0 0)):=by rw [hB];simp
 have c1:hcells B (K1.length+1)=some [.slice (some ⟨K1.length,0,some 16⟩) 2 2,.slice none 0 0,i64 0,i64 0]:=by rw [hB];simp
 clear hB
 have nB:NodesAt B v1 [nA]:=n1.pre pB
 have qA:RulAt B A7 v1 (.slice none 0 0):=⟨nB,.nil,⟨by decide,by decide,by decide,by decide⟩,by decide⟩
 have qB:RulAt B B7 v1 (.slice none 0 0):=⟨nB,.nil,⟨by decide,by decide,by decide,by decide⟩,by decide⟩
 have hrs:=rat7 c0 qA qB
 have l1:hlen B (K1.length+1)=some 4:=by rw [hcells_len c1];rfl
 have l0:hlen B K1.length=some 16:=by rw [hcells_len c0];rfl
 have cfg:∀ K,Pre B K→aLoad prog K 29 (.pointer (some ⟨K1.length+1,0,some 4⟩))=some (cfgV (.slice (some ⟨K1.length,0,some 16⟩) 2 2) (.slice none 0 0) 0 0):=fun K p=>by
  have:=p.hcells c1
  simp [this,cfgV]
 refine bnd_of (v:=.pointer (some ⟨K1.length+1,0,some 4⟩)) (by simp [l1]) ?_
 refine bnd_of (v:=.slice (some ⟨K1.length,0,some 16⟩) 2 2) (by simp [c1]) ?_
 refine bnd_of (v:=.pointer (some ⟨K1.length,0,some 16⟩)) (by simp [aIndexAddr_sl,l0]) ?_
 refine bnd_of (v:=.agg (A7.cells v1 (.slice none 0 0)).toArray) (by simp [c0,Rul.cells,A7,B7]) ?_
 have FA:=c_finger (pw_gs hgB) qA (by decide)
 have FB:=c_finger (pw_gs hgB) qB (by decide)
 refine bndD_same FA ?_
 refine bnd_of (v:=.pointer (some ⟨K1.length+1,0,some 4⟩)) (by simp [l1]) ?_
 refine bnd_of (v:=.slice (some ⟨K1.length,0,some 16⟩) 2 2) (by simp [c1]) ?_
 refine bnd_of (v:=.pointer (some ⟨K1.length,8,some 16⟩)) (by simp [aIndexAddr_sl,l0]) ?_
 refine bnd_of (v:=.agg (B7.cells v1 (.slice none 0 0)).toArray) (by simp [c0,Rul.cells,A7,B7]) ?_
 refine bndD_same FB ?_
 rw [fA7,fB7]
 refine bnd_of (cfg B (.refl B)) ?_
 have hby:∀ r∈[A7,B7],r.byL.length≤2 ^ 20:=by decide
 have hne:fingF A7≠fingF B7:=by rw [fA7,fB7];decide
 have T1:=c_tasks2 (H:=B) (old:=.slice none 0 0) (l:=[]) (rv:=.slice (some ⟨K1.length,0,some 16⟩) 2 2) (mv:=.slice none 0 0) (a:=0) (b:=0) (at':=20) (r1:=A7) (r2:=B7) (rx:=1817483744) (tx:=30) (ry:=3204443009) (ty:=21) (pw_gs hgB) .nil (by decide) hrs rfl (by decide) hby hne
  ⟨A7,rfl,by decide,.inl ⟨rfl,by rw [fA7];rfl⟩⟩ ⟨B7,rfl,by decide,.inl ⟨rfl,by rw [fB7];rfl⟩⟩ (by decide)
 refine bndC_of T1 ?_
 obtain ⟨C,hC⟩:∃ C,C=B++[AObj.cells (tkC 3204443009 21++tkC 1817483744 30) 44]:=⟨_,rfl⟩
 have pC:Pre B C:=by rw [hC];exact .app _ _
 have d1:hcells C B.length=some (tkC 3204443009 21++tkC 1817483744 30):=by rw [hC];simp
 rw [← hC]
 clear hC
 refine bnd_of (v:=.agg (tkC 1817483744 90).toArray) (by simp [tkC]) ?_
 refine bnd_of (v:=.int .u32 3534451297) (by rw [aBin_xor,xAB]) ?_
 refine bnd_of (v:=.agg (tkC 3534451297 1).toArray) (by simp [tkC]) ?_
 refine bndL_lit (tklit7 C _ _ _ _) ?_
 obtain ⟨D,hD⟩:∃ D,D=C++[AObj.cells (tkC 1817483744 90++tkC 3534451297 1) 44]:=⟨_,rfl⟩
 have pD:Pre C D:=by rw [hD];exact .app _ _
 have e1:hcells D C.length=some (tkC 1817483744 90++tkC 3534451297 1):=by rw [hD];simp
 rw [← hD]
 clear hD
 refine bnd_of (cfg D (pC.trans pD)) ?_
 have T2:=c_tasks2 (H:=D) (old:=.slice (some ⟨C.length,0,some 4⟩) 2 2) (l:=[(1817483744,90),(3534451297,1)]) (rv:=.slice (some ⟨K1.length,0,some 16⟩) 2 2) (mv:=.slice none 0 0) (a:=0) (b:=0) (at':=20) (r1:=A7) (r2:=B7) (rx:=1817483744) (tx:=90) (ry:=3204443009) (ty:=21) (pw_gs (hgB.trans (pC.trans pD))) (tks7 e1) (by decide) (hrs.pre (pC.trans pD)) rfl (by decide) hby hne
  ⟨A7,rfl,by decide,.inr ⟨0,_,_,_,by rw [fA7];rfl,tks7 e1,rfl,rfl⟩⟩ ⟨B7,rfl,by decide,.inl ⟨by rw [fB7];rfl,by rw [fB7];rfl⟩⟩ (by decide)
 refine bndC_of T2 ?_
 obtain ⟨E,hE⟩:∃ E,E=D++[AObj.cells (tkC 3204443009 21++tkC 1817483744 90) 44]:=⟨_,rfl⟩
 have pE:Pre D E:=by rw [hE];exact .app _ _
 have g1:hcells E D.length=some (tkC 3204443009 21++tkC 1817483744 90):=by rw [hE];simp
 rw [← hE]
 clear hE
 refine bnd_of (v:=.agg (alC 1817483744 [107]).toArray) (by simp [alC]) ?_
 refine bnd_of (v:=.int .u32 3534451297) (by rw [aBin_xor,xAB]) ?_
 refine bnd_of (v:=.agg (alC 3534451297 []).toArray) (by simp [alC]) ?_
 refine bnd_of (v:=.agg (alC 3204443009 []).toArray) (by simp [alC]) ?_
 refine bndL_lit (allit7 E _ _ _ _ _ _) ?_
 obtain ⟨F,hF⟩:∃ F,F=E++[AObj.cells (alC 1817483744 [107]++alC 3534451297 []++alC 3204443009 []) 46]:=⟨_,rfl⟩
 have pF:Pre E F:=by rw [hF];exact .app _ _
 have f1:hcells F E.length=some (alC 1817483744 [107]++alC 3534451297 []++alC 3204443009 []):=by rw [hF];simp
 rw [← hF]
 clear hF
 have pBF:=pC.trans (pD.trans (pE.trans pF))
 refine bnd_of (cfg F pBF) ?_
 obtain ⟨ov,G,lo,A1,pG,gr⟩:=c_alerts (a:=0) (b:=0) (mv:=.slice none 0 0) (pw_gs (hgB.trans pBF)) (als7 f1) (by decide) (hrs.pre pBF) rfl (by decide) hby
 refine bndC_of A1 ?_
 have hfl:[alC 1817483744 [107],alC 3534451297 [],alC 3204443009 []].filter (alK (plA 0 ([A7,B7].map fingF)))=[alC 1817483744 [107],alC 3204443009 []]:=by
  simp only [List.map_cons,List.map_nil,fA7,fB7]
  rfl
 rw [hfl] at gr
 have m1:hcells G B.length=some (tkC 3204443009 21++tkC 1817483744 30):=(pD.trans (pE.trans (pF.trans pG))).hcells d1
 have m2:hcells G D.length=some (tkC 3204443009 21++tkC 1817483744 90):=(pF.trans pG).hcells g1
 have w1:hlen G B.length=some 4:=by rw [hcells_len m1];rfl
 have w2:hlen G D.length=some 4:=by rw [hcells_len m2];rfl
 have pHG:=pHB.trans (pBF.trans pG)
 clear T1 T2 A1 FA FB
 cases gr with
 | mk bb _ z1 z2 z3 z4 =>
   have m3:hcells G bb=some (alC 1817483744 [107]++alC 3204443009 []):=by simp [hcells,z2]
   have w3:hlen G bb=some 10:=by rw [hcells_len m3];rfl
   clear hfl hrs qA qB nB n1
   dsimp only
   have k1:=fun x y=>(tkeq G x y).1
   have k2:=fun x y=>(tkeq G x y).2.1
   have k3:=fun x y=>(tkeq G x y).2.2
   simp [aIndexAddr_sl,aLen_slice,m1,m2,m3,w1,w2,w3,tkC,alC,k1,k2,k3]
   have u1:=c_first G (e:=10) (p:=10) (by decide) (by decide)
   have u2:=c_first G (e:=0) (p:=5) (by decide) (by decide)
   have u3:=c_first G (e:=10) (p:=-3) (by decide) (by decide)
   rw [show firF 10 10=20 by decide] at u1
   rw [show firF 0 5=6 by decide] at u2
   rw [show firF 10 (-3)=0 by decide] at u3
   refine bndG_t _ _ u1 ?_
   simp
   refine bndG_t _ _ u2 ?_
   simp
   refine bndG_t _ _ u3 ?_
   simp
   exact hk _ pHG
end Go.Vi
namespace Go.Vi
open Go Go.Proofs Go.Proofs.Tryz
-- tocsin/tocsinlaw27.SwapNext
theorem d3 (a0 a1 a2:Value) (H:AHeap) (k:Value→AHeap→Prop):kbody prog Tryz.f3 [a0,a1,a2] H k=(@bndC prog 5 [] H ⟨fun s H2=>@bnd (unV prog .not s) ⟨fun t=>@kifB t ⟨k (.bool false) H2⟩
 ⟨@bnd (aLen prog H2 22 a0) ⟨fun n=>@bnd (aBin2 prog H2 .gtr 3 (.tmp 10) (.const (.int .i64 100)) n (.int .i64 100)) ⟨fun b=>@bnd (gif b false ((some a1)) undef) ⟨fun o=>@bnd (gif b false
 (aLen prog H2 23 o) undef) ⟨fun p=>@bnd (gif b false (aBin2 prog H2 .gtr 3 (.tmp 14) (.const (.int .i64 100)) p (.int .i64 100)) undef) ⟨fun q=>@bnd (pickV b (.bool true) q) ⟨fun r
=>@kifB r ⟨k (.bool true) H2⟩ ⟨@bnd (buildV prog 29 [(3,(.int .i64 1))]) ⟨fun d=>@bndC prog 6 [a0,d] H2 ⟨fun e H12=>@bnd (aLen prog H12 22 e) ⟨fun f=>@bnd (aBin2 prog
 H12 .eql 3 (.tmp 20) (.const (.int .i64 0)) f (.int .i64 0)) ⟨fun a=>@bnd (gif a true ((some a1)) undef) ⟨fun g=>@bnd (gif a true (buildV prog 29 [(3,(.int .i64 1))]) undef) ⟨fun h =>
 @bnd (gif a true ((some a2)) undef) ⟨fun i=>@bndG a true H12 ⟨fun c H19=>ACalls prog 7 [g,h,i] H12 c H19⟩ ⟨fun c H19=>@bnd (gif a true (aLen prog H19 23
 c) undef) ⟨fun j=>@bnd (gif a true (aBin2 prog H19 .eql 3 (.tmp 27) (.const (.int .i64 0)) j (.int .i64 0)) undef) ⟨fun l=>@bnd (pickV a l (.bool false)) ⟨fun m=>k m
 H19⟩⟩⟩⟩⟩⟩⟩⟩⟩⟩⟩⟩⟩⟩⟩⟩⟩⟩⟩⟩⟩):=by kernel_rfl
end Go.Vi
namespace Go.Vi
open Go Go.Proofs Go.Proofs.Tryz
theorem w_snone {H:AHeap} {v old:Value} {cl:List (List Value)} {l:List (Int × Int)} {p:Int} (hg:Pre Gs H) (ha:AlsAt H v cl) (ho:TksAt H old l):ACalls prog 3 [v,old,i64 p] H (.bool true) H:=by
 refine acalls_pure MixT func3 (by decide) rfl ?_
 generalize hk0:(fun u H2=>u=Value.bool true∧∃ X,H2=H++X)=k
 have hk:∀ M,Pre H M→k (.bool true) M:=fun M p=>by rw [← hk0];exact ⟨rfl,p⟩
 rw [d3]
 refine bndC_of (c_awake27 hg) ?_
 simp only [unV_not,bnd_some,Bool.not_true,kifB_false]
 have la:aLen prog H 22 v=some (i64 cl.length):=ha.1.len' (e:=46) (by simp)
 have lo:aLen prog H 23 old=some (i64 (l.map fun p=>tkC p.1 p.2).length):=Arr.len' (e:=44) ho (by simp)
 rw [List.length_map] at lo
 by_cases h1:100 < cl.length
 · have h1':((100:Int) < cl.length):=by omega
   simp [la,h1']
   exact hk H (.refl H)
 have h1':¬ ((100:Int) < cl.length):=by omega
 by_cases h2:100 < l.length
 · have h2':((100:Int) < l.length):=by omega
   simp [la,h1',lo,h2']
   exact hk H (.refl H)
 have h2':¬ ((100:Int) < l.length):=by omega
 have hv:RulesAt H (.slice none 0 0) []:=⟨[],.nil,rfl,fun i r hi=>by simp at hi⟩
 obtain ⟨ov,K,lw,A1,pK,gr⟩:=c_alerts (a:=0) (b:=1) (mv:=.slice none 0 0) (pw_gs hg) ha (by omega) hv rfl (by simp) (by simp)
 have hfl:cl.filter (alK (plA 0 (List.map fingF [])))=[]:=by
  rw [List.filter_eq_nil_iff]
  intro c hc
  obtain ⟨r,rest,rfl,_⟩:=ha.2 c hc
  simp [alK,plA,mget,mfind]
 rw [hfl] at gr
 have hov:ov=.slice none 0 0:=by
  generalize hl:([]:List (List Value))=e at gr
  cases gr with
  | nil=>rfl
  | mk _ _ _ _ h3 _=>exact absurd hl.symm h3
 subst hov
 simp [la,h1',lo,h2']
 refine bndC_of A1 ?_
 simp [aLen_slice]
 refine bndG_t _ _ (c_tasks0 (a:=0) (b:=1) (mv:=.slice none 0 0) (at':=p) (pw_gs (hg.trans pK)) (Arr.pre ho pK) (by omega) (hv.pre pK) rfl) ?_
 simp [aLen_slice]
 exact hk K pK
end Go.Vi
