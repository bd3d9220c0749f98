/- What code comes to, as a proposition: regions, drawn regions, code. Regions in which two new variables are laid in no order: both orders are told. What code comes to, as a proposition: code, functions, the printed form. The symbolic run's arithmetic: what each operation comes to on values of known shape. Functions that hold a range over a function, or regions in which two new variables are laid in no order; the rounds of a range over a function. From a proved run to a given statement: a law that reads its arguments and answers true. Functions without a body: what the machine stands in for them. For the functions' contracts: calls, guards, texts as rows of bytes. Arguments: what is read of the world lies in the abstract memory, read-only. Facts of the types. Regions whose calls change what operations in no order with them do not look at. Long texts that the code has. What the functions' bodies come to. What the functions' bodies come to. What the functions' bodies come to. -/
import Derived.Test.YtmajhiahjkjflaaGreatDoorJSwapNone1
import Derived.Deep.LoopGhost
import Derived.Scope
import Derived.Laws.Strings
import Derived.RangeFuncLeaves
import Derived.Test.YtmajhiahjkjflaaGreatDoorRows
import Derived.ProofKit
import Derived.LaidMore
import Derived.OpenShut
import Derived.Stop.Joined
import GoSem.Extern.Table
import Derived.Lib.Bytealg
import Derived.Lib.MakeNoZero
import Derived.Deep.Slices
import Derived.Test.YtmajhiahjkjflaaGreatDoorChecked
namespace Go.Vi
open Go.RowKit
variable {P:Program}
theorem gstep_of_R {ops sl sl' H} {o:Oper} (h:∀ t∈o.looksAt ops,sl[t]?=sl'[t]?) {v H'}:GStep P ops sl H o v H'↔GStep P ops sl' H o v H':=by
 have h1:∀ x∈o.op.operands,aev sl x=aev sl' x:=fun x hx=>aev_congr fun t ht=>h t (by
  unfold Oper.looksAt
  refine List.mem_append_left _ (List.mem_filterMap.2 ⟨.tmp t,?_,rfl⟩)
  subst ht;simpa using hx)
 have h2:awant ops sl o=awant ops sl' o:=by
  unfold awant
  cases hg:o.guard with
  | none=>rfl
  | some gw =>
    obtain ⟨g,want⟩:=gw
    simp only
    cases ht:(ops[g]?).bind (·.dst) with
    | none=>rfl
    | some t=>simp only;rw [h t (by simp [Oper.looksAt,hg,ht])]
 unfold GStep OpTo
 rw [h2,acallee_congr h1,aop_congr h1]
theorem gstepR_pure {ops sl H X v H'} {o:Oper} (hp:pureOp P o.op=true) (h:GStep P ops sl H o v H'):H'=H∧GStep P ops sl (H++X) o v (H++X):=by
 unfold GStep OpTo at *
 rw [pure_callee hp] at h ⊢
 split at h
 · exact aop_pure hp h
 · exact ⟨h.2,h.1,rfl⟩
 · cases h
theorem gstepR_free {ops sl H v H'} {o:Oper} (hp:freeOp o.op=true) (h:GStep P ops sl H o v H') (K:AHeap):GStep P ops sl K o v K:=by
 have hq:pureOp P o.op=true:=by unfold freeOp at hp;split at hp<;>first | (rename_i e;rw [e];rfl) | cases hp
 unfold GStep OpTo at *
 rw [pure_callee hq] at h ⊢
 split at h
 · exact aop_free hp h K
 · exact ⟨h.1,rfl⟩
 · cases h
theorem gstepR_wp [Ctx] {w0 s H w sl a v H' i K Q} {ops:Array Oper} {o:Oper} (ho:ops[i]?=some o) (h:WRel w0 s H w) (ha:ARel s H sl a) (hr:GStep P ops sl H o v H')
  (hn:∀ s' a' w',WRel w0 s' H' w'→Ext s H s' H'→ARel s' H' (aput sl o.dst v) a'→K a' w'):wpOpIn FF 0 P ops Q i K a w:=by
 unfold wpOpIn
 simp only [ho]
 unfold GStep at hr
 split at hr
 · rename_i hw
   rw [awant_sound ha hw]
   exact op_sound o h ha hr fun s' v' w' g1 g2 g3=>hn s' _ w' g1 g2 ((ha.mono g2).put o.dst g3)
 · rename_i hw
   obtain ⟨rfl,rfl⟩:=hr
   rw [awant_sound ha hw]
   simp only [Bool.false_eq_true,if_false]
   exact ⟨fun _ _=>trivial,hn s _ w h (Ext.refl _ _) (ha.put o.dst (undef_rel _ _))⟩
 · cases hr
def plainOp (o:Oper):Bool:=match o.guard,o.op with
 | none,.move _ | none,.assign _ | none,.makeFunc .. | none,.makeInterface ..=>true
 | _,_=>false
theorem plain_pure {o:Oper} (h:plainOp o=true):pureOp P o.op=true:=by
 unfold plainOp at h
 split at h<;>first | (rename_i h1;rw [h1];rfl) | (rename_i h1 h2;rw [h2];rfl) | cases h
structure RStep (P:Program) (ops:Array Oper) (f:Nat→List Value) (g:Nat→Value) (G:Nat→AHeap) (c:Nat→Nat) (p:Nat) (o:Oper) (r:DRow):Prop where
 put:f (p+1)=aput (f p) o.dst (g p)
 eff:r.eff=true→c (p+1)=c p+1∧GStep P ops (f p) (G (c p)) o (g p) (G (c p+1))∧(r.bar=true∨∃ X,G (c p+1)=G (c p)++X)
 pur:r.eff=false→c (p+1)=c p∧r.back≤c p∧GStep P ops (f p) (G (c p-r.back)) o (g p) (G (c p-r.back))
structure RStepK (P:Program) (ops:Array Oper) (f:Nat→List Value) (g:Nat→Value) (G:Nat→AHeap) (c:Nat→Nat) (p:Nat) (o:Oper) (r:DRow):Prop where
 put:f (p+1)=aput (f p) o.dst (g p)
 eff:r.eff=true→c (p+1)=c p+1∧GStep P ops (f p) (G (c p)) o (g p) (G (c p+1))∧(r.bar=true∨(∃ X,G (c p+1)=G (c p)++X) ∨
  r.late=true∧∀ (j:Nat) (o':Oper),j < p→ops[j]?=some o'→¬ deff P ops j=true→¬ freeOp o'.op=true→r.mask.testBit j=false→GStep P ops (f j) (G (c p+1)) o' (g j) (G (c p+1)))
 pur:r.eff=false→c (p+1)=c p∧r.back≤c p∧GStep P ops (f p) (G (c p-r.back)) o (g p) (G (c p-r.back))
theorem RStep.toK {ops f g G c p o r} (h:RStep P ops f g G c p o r):RStepK P ops f g G c p o r:=⟨h.put,fun q=>⟨(h.eff q).1,(h.eff q).2.1,(h.eff q).2.2.imp id .inl⟩,h.pur⟩
def kdraw (P:Program) (ops:Array Oper) (k:List Value→AHeap→Prop):List Oper→List DRow→List Value→AHeap→List AHeap→Prop
 | o :: os, r :: rs, sl, H, hs =>
   if r.eff=true then ∃ v H',geff P ops sl H o v H'∧(r.bar=true∨∃ X,H'=H++X)∧kdraw P ops k os rs (aput sl o.dst v) H' (H :: hs)
   else match (H :: hs)[r.back]? with
    | some K => if plainOp o = true then match gval P ops sl K o with
      | some v=>kdraw P ops k os rs (aput sl o.dst v) H hs
      | none=>False
      else if pureOp P o.op=true then ∃ v,gval P ops sl K o=some v∧kdraw P ops k os rs (aput sl o.dst v) H hs
      else False
    | none=>False
 | [],_,sl,H,_=>k sl H
 | _,[],_,_,_=>False
theorem kdraw_trace {ops} {k:List Value→AHeap→Prop}:∀ (os:List Oper) (rs:List DRow) (sl:List Value) (H:AHeap) (hs:List AHeap),kdraw P ops k os rs sl H hs →
  ∃ (f : Nat → List Value) (g : Nat → Value) (G : Nat → AHeap) (c : Nat → Nat), f 0 = sl ∧ c 0 = hs.length ∧ (∀ i X, (H :: hs)[i]? = some X → G (hs.length - i) = X) ∧ k (f os.length) (G (c os.length)) ∧
    ∀ p o r,os[p]?=some o→rs[p]?=some r→RStep P ops f g G c p o r:=by
 intro os
 induction os with
 | nil =>
   intro rs sl H hs h
   simp only [kdraw] at h
   have hk:∀ i X,(H :: hs)[i]?=some X→(fun i=>((H :: hs)[hs.length-i]?).getD []) (hs.length-i)=X:=by
    intro i X hX
    have:=(List.getElem?_eq_some_iff.1 hX).1
    simp only [List.length_cons] at this
    have e:hs.length-(hs.length-i)=i:=by omega
    show ((H :: hs)[hs.length-(hs.length-i)]?).getD []=X
    rw [e,hX];rfl
   exact ⟨fun _=>sl,fun _=>undef,fun i=>((H :: hs)[hs.length-i]?).getD [],fun _=>hs.length,rfl,rfl,hk,by simpa using h,by simp⟩
 | cons o os ih =>
   intro rs sl H hs h
   cases rs with
   | nil=>simp [kdraw] at h
   | cons r rs =>
     simp only [kdraw] at h
     split at h
     · rename_i he
       obtain ⟨v,H2,hg,hb,h⟩:=h
       obtain ⟨f,g,G,c,f0,c0,hG,fe,st⟩:=ih _ _ _ _ h
       have hGH:G hs.length=H:=by have:=hG 1 H rfl;simpa using this
       have hGH2:G (hs.length+1)=H2:=by have:=hG 0 H2 rfl;simpa using this
       refine ⟨fun p=>if p=0 then sl else f (p-1),fun p=>if p=0 then v else g (p-1),G,fun p=>if p=0 then hs.length else c (p-1),rfl,rfl,fun i X hX=>?_,by simpa using fe,fun p o' r' ho hr=>?_⟩
       · have:=hG (i+1) X (by simpa using hX)
         simpa using this
       · cases p with
         | zero =>
           simp at ho hr;subst ho hr
           refine ⟨by simp [f0],fun _=>⟨by simp [c0],?_,?_⟩,fun q=>by rw [he] at q;cases q⟩
           · simp only [if_true];rw [hGH,hGH2];exact geff_step hg
           · simp only [if_true];rw [hGH,hGH2];exact hb
         | succ p =>
           have k:=st p o' r' (by simpa using ho) (by simpa using hr)
           exact ⟨by simpa using k.put,fun q=>by simpa using k.eff q,fun q=>by simpa using k.pur q⟩
     · rename_i he
       obtain ⟨K,hk,hp,v,hg,h⟩:∃ K,(H :: hs)[r.back]?=some K∧pureOp P o.op=true∧∃ v,gval P ops sl K o=some v∧kdraw P ops k os rs (aput sl o.dst v) H hs:=by
        split at h
        · rename_i K hK
          split at h
          · rename_i hp
            split at h
            · rename_i v hv;exact ⟨K,hK,plain_pure hp,v,hv,h⟩
            · cases h
          · split at h
            · rename_i hp;obtain ⟨v,hv,h⟩:=h;exact ⟨K,hK,hp,v,hv,h⟩
            · cases h
        · cases h
       obtain ⟨f,g,G,c,f0,c0,hG,fe,st⟩:=ih _ _ _ _ h
       refine ⟨fun p=>if p=0 then sl else f (p-1),fun p=>if p=0 then v else g (p-1),G,fun p=>if p=0 then hs.length else c (p-1),rfl,rfl,hG,by simpa using fe,fun p o' r' ho hr=>?_⟩
       cases p with
       | zero =>
         simp at ho hr;subst ho hr
         refine ⟨by simp [f0],fun q=>absurd q he,fun _=>⟨by simp [c0],?_,?_⟩⟩
         · have:=(List.getElem?_eq_some_iff.1 hk).1
           simp only [List.length_cons] at this
           simp only [if_true];omega
         · simp only [if_true];rw [hG _ _ hk];exact gval_step hp hg
       | succ p =>
         have k:=st p o' r' (by simpa using ho) (by simpa using hr)
         exact ⟨by simpa using k.put,fun q=>by simpa using k.eff q,fun q=>by simpa using k.pur q⟩
structure RRun (P:Program) (ops:Array Oper) (T:DTab) (f:Nat→List Value) (g:Nat→Value) (G:Nat→AHeap):Prop where
 snd:Sound P ops T
 step:∀ p o,ops[p]?=some o→RStepK P ops f g G (fun p=>T.idx.getD p 0) p o (T.row P ops p)
section
variable {ops:Array Oper} {T:DTab} {f:Nat→List Value} {g:Nat→Value} {G:Nat→AHeap}
theorem RRun.text (h:RRun P ops T f g G):∀ p,p≤ops.size→(f p).length=(f 0).length ∧
  (∀ t:Nat,(∀ (i:Nat) (o:Oper),i < p→ops[i]?=some o→o.dst≠some t)→(f p)[t]?=(f 0)[t]?) ∧
  (∀ (i:Nat) (o:Oper) (t:Nat),i < p→ops[i]?=some o→o.dst=some t→t < (f 0).length→(f p)[t]?=some (g i)):=by
 intro p
 induction p with
 | zero=>intro _;exact ⟨rfl,fun t _=>rfl,fun i o t hi=>absurd hi (by omega)⟩
 | succ p ih =>
   intro hp
   obtain ⟨h1,h2,h3⟩:=ih (by omega)
   have ho:ops[p]?=some ops[p]:=Array.getElem?_eq_getElem (by omega)
   have hput:=(h.step p _ ho).put
   refine ⟨by rw [hput,aput_len,h1],fun t ht=>?_,fun i o t hi hoi hd htl=>?_⟩
   · rw [hput,aput_get_ne (ht p _ (by omega) ho)]
     exact h2 t fun i o hi hoi=>ht i o (by omega) hoi
   · by_cases hip:i=p
     · subst hip
       rw [ho] at hoi;cases hoi
       rw [hput,hd]
       exact aput_get_self rfl (by rw [h1];exact htl)
     · rw [hput,aput_get_ne (fun e=>h.snd.apart ho hoi hip e hd)]
       exact h3 i o t (by omega) hoi hd htl
theorem RRun.agree (h:RRun P ops T f g G) {l sl k} (hi:DInv ops T g (f 0) l sl k) {j:Nat} {o:Oper} (ho:ops[j]?=some o) (hnl:¬ isListed l j) (hb:∀ b∈obef o,isListed l b) :
  ∀ t∈o.looksAt ops,sl[t]?=(f j)[t]?:=by
 intro t ht
 have hj:j≤ops.size:=by have:=(Array.getElem?_eq_some_iff.1 ho).1;omega
 obtain ⟨t1,t2,t3⟩:=h.text j hj
 by_cases hw:∃ (i:Nat) (oi:Oper),ops[i]?=some oi∧oi.dst=some t
 · obtain ⟨i,oi,hoi,hd⟩:=hw
   rcases h.snd.look ho ht hoi hd with hm | hr
   case inr =>
    have hij:=h.snd.lt hr
    have uniq:∀ i' o',ops[i']?=some o'→o'.dst=some t→i'=i:=fun i' o' ho' hd'=>by
     by_cases e:i'=i
     · exact e
     · exact absurd hd' (h.snd.apart hoi ho' e hd)
    have q1:=hi.old t fun i' o' ho' hl' hd'=>by have:=uniq i' o' ho' hd';subst this;exact hnl (hi.reach hr hl')
    have q2:=t2 t fun i' o' hlt ho' hd'=>by have:=uniq i' o' ho' hd';omega
    rw [q1,q2]
   by_cases htl:t < (f 0).length
   · rw [hi.new i oi t hoi (hb i hm) hd htl,t3 i oi t (h.snd.before ho i hm) hoi hd htl]
   · have e1:sl.length≤t:=by rw [hi.len];exact Nat.le_of_not_lt htl
     have e2:(f j).length≤t:=by rw [t1];exact Nat.le_of_not_lt htl
     rw [List.getElem?_eq_none e1,List.getElem?_eq_none e2]
 · rw [hi.old t fun i oi hoi _ hd=>hw ⟨i,oi,hoi,hd⟩,t2 t fun i oi _ hoi hd=>hw ⟨i,oi,hoi,hd⟩]
theorem RRun.same (h:RRun P ops T f g G) {l sl k} (hi:DInv ops T g (f 0) l sl k) {j:Nat} {o:Oper} (ho:ops[j]?=some o) (he:¬ deff P ops j=true) (hjs:j < ops.size) (hj:¬ isListed l j) (hf:freeOp o.op=false) (hp:pureOp P o.op=true)
  (hg:GStep P ops (f j) (G (T.kmin.getD j 0)) o (g j) (G (T.kmin.getD j 0))) :
  ∀ m,T.kmin.getD j 0≤m→m≤k→GStep P ops (f j) (G m) o (g j) (G m):=by
 intro m
 induction m with
 | zero => intro h1 _; have : T.kmin.getD j 0 = 0 := by omega
           rw [this] at hg;exact hg
 | succ m ih =>
   intro h1 h2
   by_cases hm:T.kmin.getD j 0=m+1
   · rw [hm] at hg;exact hg
   · have hgm:=ih (by omega) (by omega)
     have hlt:m < T.effs.length:=by have:=hi.top;omega
     have hq:T.effs[m]?=some T.effs[m]:=List.getElem?_eq_getElem hlt
     generalize T.effs[m]=q at hq
     obtain ⟨e1,e2⟩:=h.snd.ends.2.2 m q hq
     obtain ⟨oq,hoq⟩:=deff_lt e2
     have st:=(h.step q oq hoq).eff (by simp [DTab.row,e2])
     simp only [e1] at st
     have hlq:isListed l q:=(hi.num m q hq).2 (by omega)
     rcases st.2.2 with hbar | ⟨Y,hY⟩ | ⟨hlate,hst⟩
     · exfalso
       simp only [DTab.row,e2,if_true] at hbar
       unfold DTab.bar at hbar
       rw [List.all_eq_true] at hbar
       have:=hbar j (List.mem_range.2 hjs)
       simp only [Bool.or_eq_true,decide_eq_true_eq] at this
       rcases this with ((q1 | q1) | q1) | q1
       · exact he q1
       · exact hj (hi.reach (h.snd.reach q hoq q1) hlq)
       · simp [ho,hf] at q1
       · omega
     · rw [hY]
       exact (gstepR_pure (X:=Y) hp hgm).2
     · simp only [DTab.row,e2,if_true] at hlate hst
       have hjq:j≠q:=fun e=>he (e ▸ e2)
       by_cases hlt2:j < q
       · refine hst j o hlt2 ho he (by simp [hf]) ?_
         cases hb:(T.ms.getD q 0).testBit j with
         | false=>rfl
         | true=>exact absurd (hi.reach (h.snd.reach q hoq hb) hlq) hj
       · exfalso
         unfold DTab.late at hlate
         rw [List.all_eq_true] at hlate
         have:=hlate j (List.mem_range.2 hjs)
         simp only [Bool.or_eq_true,decide_eq_true_eq] at this
         rcases this with ((q1 | q1) | q1) | q1
         · omega
         · exact he q1
         · simp [ho,hf] at q1
         · omega
theorem RRun.next (h:RRun P ops T f g G) {l sl k} (hi:DInv ops T g (f 0) l sl k) {j:Nat} {o:Oper} (ho:ops[j]?=some o) (hj:¬ isListed l j) (hb:∀ b∈obef o,isListed l b) :
  ∃ k',GStep P ops sl (G k) o (g j) (G k')∧DInv ops T g (f 0) (l.setIfInBounds j true) (aput sl o.dst (g j)) k':=by
 have hjs:j < ops.size:=(Array.getElem?_eq_some_iff.1 ho).1
 have ha:=h.agree hi ho hj hb
 simp only [gstep_of_R ha]
 by_cases he:deff P ops j=true
 · have st:=(h.step j o ho).eff (by simp [DTab.row,he])
   have e:=h.snd.effAt ho he
   have hk:k=T.idx.getD j 0:=by
    have n1:¬ T.idx.getD j 0 < k:=fun q=>hj ((hi.num _ _ e.1).2 q)
    by_cases hlt:k < T.idx.getD j 0
    · exfalso
      have hkl:k < T.effs.length:=by have:=(List.getElem?_eq_some_iff.1 e.1).1;omega
      have hq:T.effs[k]?=some T.effs[k]:=List.getElem?_eq_getElem hkl
      have r:=effs_reach h.snd _ _ hlt hq e.1
      have:=(hi.num _ _ hq).1 (r.run hi ho hb)
      omega
    · omega
   exact ⟨k+1,by rw [hk];exact st.2.1,hi.next h.snd ho hj hb (.inl ⟨he,hk,rfl⟩)⟩
 · have st:=(h.step j o ho).pur (by simp [DTab.row,he])
   have e:=h.snd.pureAt ho he
   obtain ⟨_,hle,hg⟩:=st
   simp only [DTab.row,he] at hg
   have hkk:T.idx.getD j 0-(T.idx.getD j 0-T.kmin.getD j 0)=T.kmin.getD j 0:=by have:=e.2.1;omega
   simp only [Bool.false_eq_true,if_false,hkk] at hg
   have hmin:T.kmin.getD j 0≤k:=by
    rcases e.2.2 with c | ⟨q,hq,r⟩
    · omega
    · have:=(hi.num _ _ hq).1 (r.run hi ho hb);omega
   by_cases hf:freeOp o.op=true
   · exact ⟨k,gstepR_free hf hg (G k),hi.next h.snd ho hj hb (.inr ⟨he,rfl⟩)⟩
   have hp:pureOp P o.op=true:=by
    unfold deff at he
    simpa [ho] using he
   exact ⟨k,h.same hi ho he hjs hj (by simpa using hf) hp hg k hmin (Nat.le_refl _),hi.next h.snd ho hj hb (.inr ⟨he,rfl⟩)⟩
theorem RRun.done (h:RRun P ops T f g G) {l sl k} (hi:DInv ops T g (f 0) l sl k) (hall:∀ j,j < ops.size→isListed l j):sl=f ops.size∧k=T.effs.length:=by
 obtain ⟨t1,t2,t3⟩:=h.text ops.size (Nat.le_refl _)
 constructor
 · apply List.ext_getElem?
   intro t
   by_cases hw:∃ (i:Nat) (oi:Oper),ops[i]?=some oi∧oi.dst=some t
   · obtain ⟨i,oi,hoi,hd⟩:=hw
     have his:=(Array.getElem?_eq_some_iff.1 hoi).1
     by_cases htl:t < (f 0).length
     · rw [hi.new i oi t hoi (hall i his) hd htl,t3 i oi t his hoi hd htl]
     · rw [List.getElem?_eq_none (by rw [hi.len];omega),List.getElem?_eq_none (by rw [t1];omega)]
   · rw [hi.old t fun i oi hoi _ hd=>hw ⟨i,oi,hoi,hd⟩,t2 t fun i oi _ hoi hd=>hw ⟨i,oi,hoi,hd⟩]
 · by_cases hk:k < T.effs.length
   · have hq:T.effs[k]?=some T.effs[k]:=List.getElem?_eq_getElem hk
     obtain ⟨_,e2⟩:=h.snd.ends.2.2 _ _ hq
     obtain ⟨o,ho⟩:=deff_lt e2
     have:=(hi.num _ _ hq).1 (hall _ (Array.getElem?_eq_some_iff.1 ho).1)
     omega
   · have:=hi.top;omega
theorem RRun.wp [Ctx] (h:RRun P ops T f g G) {w0 s0 Q} {H0:AHeap}:∀ (fuel:Nat) {l sl k s w a},DInv ops T g (f 0) l sl k→l.toList.count false=fuel →
  WRel w0 s (G k) w→ARel s (G k) sl a→Ext s0 H0 s (G k)→(∀ s' a' w',WRel w0 s' (G T.effs.length) w'→Ext s0 H0 s' (G T.effs.length)→ARel s' (G T.effs.length) (f ops.size) a'→Q .normal a' w') →
  wpAnyIn FF 0 P .any ops Q fuel l a w:=by
 intro fuel
 have fin:∀ {l sl k s w a},DInv ops T g (f 0) l sl k→WRel w0 s (G k) w→ARel s (G k) sl a→Ext s0 H0 s (G k) →
   (∀ s' a' w',WRel w0 s' (G T.effs.length) w'→Ext s0 H0 s' (G T.effs.length)→ARel s' (G T.effs.length) (f ops.size) a'→Q .normal a' w') →
   Region.ready .any ops l=[]→Q .normal a w:=by
  intro l sl k s w a hi hw ha he hq hr
  obtain ⟨rfl,rfl⟩:=h.done hi (all_done h.snd hi.size hr)
  exact hq s a w hw he ha
 induction fuel with
 | zero =>
   intro l sl k s w a hi hcnt hw ha he hq
   have hr:Region.ready .any ops l=[]:=by
    cases hr:Region.ready .any ops l with
    | nil=>rfl
    | cons j _ =>
      exfalso
      have hj:j∈Region.ready .any ops l:=by rw [hr];simp
      obtain ⟨h0,o,ho,_⟩:=mem_ready.1 hj
      have hjs:j < l.size:=by rw [hi.size];exact (Array.getElem?_eq_some_iff.1 ho).1
      have hlj:l[j]=false:=by simpa [Array.getD,hjs] using h0
      have:false∈l.toList:=by rw [← hlj];simp
      exact absurd hcnt (Nat.ne_of_gt (List.count_pos_iff.2 this))
   exact ⟨hr,fin hi hw ha he hq hr⟩
 | succ fuel ih =>
   intro l sl k s w a hi hcnt hw ha he hq
   refine ⟨fin hi hw ha he hq,fun j hj=>?_⟩
   obtain ⟨h0,o,ho,hall⟩:=mem_ready.1 hj
   have hjs:j < l.size:=by rw [hi.size];exact (Array.getElem?_eq_some_iff.1 ho).1
   have hlj:l[j]=false:=by simpa [Array.getD,hjs] using h0
   have hnl:¬ isListed l j:=by unfold isListed;rw [getD_size hjs false true,h0];simp
   obtain ⟨k',hg,hi'⟩:=h.next hi ho hnl (obef_listed hall)
   have hcnt':(l.setIfInBounds j true).toList.count false=fuel:=by
    have hjl:j < l.toList.length:=by simpa using hjs
    have e1:l.toList[j]=false:=by simpa using hlj
    have:=List.count_set (a:=true) (b:=false) (l:=l.toList) hjl
    rw [Array.toList_setIfInBounds,this,hcnt]
    simp [e1]
   exact gstepR_wp ho hw ha hg fun s' a' w' g1 g2 g3=>ih hi' hcnt' g1 g3 (he.trans g2) hq
end
theorem kdraw_any [Ctx] {w0 s H w sl a ops rs k Q} (hw:WRel w0 s H w) (ha:ARel s H sl a) (hr:drows P ops=some rs) (h:kdraw P ops k ops.toList rs sl H [])
  (hq:∀ sl' H',k sl' H'→APost w0 s H Q .normal (sl',H')):wpAnyIn FF 0 P .any ops Q ops.size (Array.replicate ops.size false) a { w with drawn:=w.drawn+1 }:=by
 obtain ⟨T,hok,rfl⟩:=drows_inv hr
 · clear hr
   obtain ⟨f,g,G,c,f0,c0,hG,fe,st⟩:=kdraw_trace _ _ _ _ _ h
   have hs:Sound P ops T:=⟨hok⟩
   have row:∀ p,p < ops.size→((List.range ops.size).map (T.row P ops))[p]?=some (T.row P ops p):=by
    intro p hp;simp [hp]
   have hc:∀ p,p≤ops.size→c p=T.idx.getD p 0:=by
    intro p
    induction p with
    | zero=>intro _;rw [c0,hs.ends.1];rfl
    | succ p ih =>
      intro hp
      have ho:ops[p]?=some ops[p]:=Array.getElem?_eq_getElem (by omega)
      have k:=st p ops[p] _ (by simp) (row p (by omega))
      by_cases he:deff P ops p=true
      · have:=(k.eff (by simp [DTab.row,he])).1
        rw [this,ih (by omega),(hs.effAt ho he).2.1]
      · have:=(k.pur (by simp [DTab.row,he])).1
        rw [this,ih (by omega),(hs.pureAt ho he).1]
   have hd:RRun P ops T f g G:=by
    refine ⟨hs,fun p o ho=>?_⟩
    have hp:=(Array.getElem?_eq_some_iff.1 ho).1
    have k:=(st p o _ (by simpa using ho) (row p hp)).toK
    refine ⟨k.put,fun q=>?_,fun q=>?_⟩
    · have:=k.eff q
      rw [hc p (by omega),hc (p+1) (by omega)] at this
      exact this
    · have:=k.pur q
      rw [hc p (by omega),hc (p+1) (by omega)] at this
      exact this
   have g0:G 0=H:=by simpa using hG 0 H rfl
   have he:c ops.toList.length=T.effs.length:=by simp only [Array.length_toList];rw [hc ops.size (Nat.le_refl _),hs.ends.2.1]
   rw [he] at fe
   simp only [Array.length_toList] at fe
   refine hd.wp (H0:=H) (s0:=s) ops.size (l:=Array.replicate ops.size false) (sl:=f 0) (k:=0) ?_ (by simp) (by rw [g0];exact hw.drew) (by rw [g0,f0];exact ha) (by rw [g0];exact Ext.refl _ _) (fun s' a' w' g1 g2 g3=>hq _ _ fe s' a' w' g1 g2 g3)
   have nol:∀ i,¬ isListed (Array.replicate ops.size false) i:=by
    intro i
    unfold isListed
    simp [Array.getD]
   exact ⟨by simp,fun j o _ h=>absurd h (nol j),rfl,fun t _=>rfl,fun i o t _ h=>absurd h (nol i),fun i q _=>⟨fun h=>absurd h (nol q),fun h=>by omega⟩,by omega⟩
theorem kdraw_sound [Ctx] (hm:P.follows .mixedOrders=true) {w0 s H w sl a id ops rs k Q} (hw:WRel w0 s H w) (ha:ARel s H sl a) (hr:drows P ops=some rs) (h:kdraw P ops k ops.toList rs sl H [])
  (hq:∀ sl' H',k sl' H'→APost w0 s H Q .normal (sl',H')):(Code.region id ops true).wpIn FF 0 P Q a w:=wpIn_region_any hm (kdraw_any hw ha hr h hq)
end Go.Vi
namespace Go.Vi
open Go.RowKit
variable {P:Program}
abbrev DrawK:=Array Oper→(List Value→AHeap→Prop)→List Value→AHeap→Prop
def SoundK [Ctx] (P:Program) (D:DrawK):Prop:=∀ {w0 s H w sl a id ops k Q},WRel w0 s H w→ARel s H sl a→D ops k sl H→(∀ sl' H',k sl' H'→APost w0 s H Q .normal (sl',H'))→(Code.region id ops true).wpIn FF 0 P Q a w
def drawStd (P:Program):DrawK:=fun ops k sl H=>match drows P ops with
 | some rs=>kdraw P ops k ops.toList rs sl H []
 | none=>False
theorem drawStd_sound [Ctx] (hm:P.follows .mixedOrders=true):SoundK P (drawStd P):=by
 intro w0 s H w sl a id ops k Q hw ha h hq
 unfold drawStd at h
 split at h
 · rename_i rs hr;exact kdraw_sound hm hw ha hr h hq
 · cases h
end Go.Vi
namespace Go.Vi
open Go.RowKit
variable {P:Program}
theorem stepR_scope {b:Frame} {a:Act} {k:List Item} {cs:List Frame} {w:World} {c:Code}:step P (lone (b.atR a (.code (.scope c) :: k)) cs w)=.next (lone (b.atR a (.code c :: .inScope c :: k)) cs w) :=
 step_lone_go (by simp [stepG,stepG.exec,Frame.atR])
theorem stepR_inScope {b:Frame} {a:Act} {k:List Item} {cs:List Frame} {w:World} {c:Code}:step P (lone (b.atR a (.inScope c :: k)) cs w)=.next (lone (b.atR a k) cs w) :=
 step_lone_go (by simp [stepG,stepG.exec,Frame.atR])
theorem wpIn_scope {F:Fence} {n:Nat} {Q:Exit→Act→World→Prop} {a:Act} {w:World} {c:Code} (h:c.wpIn F n P (Exit.noGoto Q) a w):(Code.scope c).wpIn F n P Q a w:=by
 intro b k cs hro hb hr
 have h0:(lone (b.atR a (.code (.scope c) :: k)) cs w).fenced P F:=fenced_calm hb hr rfl
 obtain ⟨e,a₁,w₁,hq,harr⟩:=h b (.inScope c :: k) cs hro hb hr
 cases e with
 | normal=>exact ⟨.normal,a₁,w₁,hq,.head h0 stepR_scope (StepsIn.trans harr (.one (fenced_calm hb hr rfl) stepR_inScope))⟩
 | exit id =>
   have hx:exitTo id (.inScope c :: k)=exitTo id k:=by simp [exitTo]
   exact ⟨.exit id,a₁,w₁,hq,fun k' hk=>.head h0 stepR_scope (harr.1 k' (by rw [hx];exact hk)),
    fun hr' hk=>let ⟨k₁,h1,h2⟩:=harr.2 hr' (by rw [hx];exact hk);⟨k₁,h1,.head h0 stepR_scope h2⟩⟩
 | goto l=>exact hq.elim
 | ret=>exact ⟨_,a₁,w₁,hq,.of_steps (.one h0 stepR_scope) harr⟩
 | panic ch=>exact ⟨_,a₁,w₁,hq,.of_steps (.one h0 stepR_scope) harr⟩
 | outgrown=>exact ⟨_,a₁,w₁,hq,.of_steps (.one h0 stepR_scope) harr⟩
theorem wpIn_loop_ghost {F:Fence} {n:Nat} {Q:Exit→Act→World→Prop} {a:Act} {w:World} {c:Code} (I:Nat→Act→World→Prop) (n₀:Nat) (h₀:I n₀ a w)
  (round:∀ m a w,I m a w→c.wpIn F n P (Exit.then (fun a' w'=>∃ m',m' < m∧I m' a' w') Q) a w):(Code.loop c).wpIn F n P Q a w:=by
 refine wpIn_loop (fun a w=>∃ m,I m a w) (fun a w=>leastOf (fun m=>I m a w)) ⟨n₀,h₀⟩ ?_
 intro a w hI
 refine wpIn_mono (round _ a w (leastOf_spec hI).1) ?_
 intro e a' w' hq
 cases e with
 | normal =>
   obtain ⟨m',hlt,hI'⟩:=hq
   exact show (∃ m,I m a' w')∧leastOf (fun m=>I m a' w') < leastOf (fun m=>I m a w) from ⟨⟨m',hI'⟩,Nat.lt_of_le_of_lt ((leastOf_spec ⟨m',hI'⟩).2 m' hI') hlt⟩
 | exit id=>exact hq
 | goto l=>exact hq
 | ret=>exact hq
 | panic ch=>exact hq
 | outgrown=>exact hq
def kops (P:Program) (ops:Array Oper):List Oper→List Value→AHeap→(List Value→AHeap→Prop)→Prop
 | [],sl,H,k=>k sl H
 | o :: r, sl, H, k =>
   if plainOp o=true then match gval P ops sl H o with
    | some v=>kops P ops r (aput sl o.dst v) H k
    | none=>False
   else if pureOp P o.op=true then ∃ v,gval P ops sl H o=some v∧kops P ops r (aput sl o.dst v) H k
   else ∃ v H',geff P ops sl H o v H'∧kops P ops r (aput sl o.dst v) H' k
theorem kops_sound [Ctx] {w0 ops Q} {k:List Value→AHeap→Prop}:∀ (os:List Oper) (n:Nat) {s H w sl a},(∀ (i:Nat) o,os[i]?=some o→ops[n+i]?=some o)→WRel w0 s H w→ARel s H sl a→kops P ops os sl H k →
  (∀ sl' H',k sl' H'→APost w0 s H Q .normal (sl',H'))→wpOpsIn FF 0 P ops Q ((List.range' n os.length)) a w:=by
 intro os
 induction os with
 | nil =>
   intro n s H w sl a ho h ha hr hq
   exact hq _ _ hr s a w h (Ext.refl _ _) ha
 | cons o r ih =>
   intro n s H w sl a ho h ha hr hq
   have ho0:ops[n]?=some o:=by simpa using ho 0 o rfl
   have hor:∀ (i:Nat) o,r[i]?=some o→ops[n+1+i]?=some o:=fun i o hi=>by
    have:=ho (i+1) o (by simpa using hi)
    rw [show n+1+i=n+(i+1) by omega];exact this
   rw [List.length_cons,List.range'_succ,wpOpsIn_cons]
   have key:∀ v H',GStep P ops sl H o v H'→kops P ops r (aput sl o.dst v) H' k→wpOpIn FF 0 P ops Q n (wpOpsIn FF 0 P ops Q (List.range' (n+1) r.length)) a w:=by
    intro v H' hg hk
    refine gstepR_wp ho0 h ha hg fun s' a' w' g1 g2 g3=>ih (n+1) hor g1 g3 hk ?_
    intro sl2 H2 h2 s2 a2 w2 k1 k2 k3
    exact hq sl2 H2 h2 s2 a2 w2 k1 (g2.trans k2) k3
   simp only [kops] at hr
   split at hr
   · rename_i hp
     split at hr
     · rename_i v hv;exact key v H (gval_step (plain_pure hp) hv) hr
     · cases hr
   · split at hr
     · rename_i hp
       obtain ⟨v,hv,hr⟩:=hr
       exact key v H (gval_step hp hv) hr
     · obtain ⟨v,H',hv,hr⟩:=hr
       exact key v H' (geff_step hv) hr
def kif (c:Value) (a b:Prop):Prop:=match c with
 | .bool t=>if t=true then a else b
 | _=>False
abbrev Kont:=AExit→List Value→AHeap→Prop
def kthen (f:List Value→AHeap→Prop) (k:Kont):Kont
 | .normal,sl,H=>f sl H
 | .exit i,sl,H=>k (.exit i) sl H
 | .ret,sl,H=>k .ret sl H
def kloop (f:List Value→AHeap→(AExit→List Value→AHeap→Prop)→Prop):Nat→List Value→AHeap→(AExit→List Value→AHeap→Prop)→Prop
 | 0,_,_,_=>False
 | n+1,sl,H,k=>f sl H (kthen (fun sl H=>kloop f n sl H k) k)
def kblk (id:Nat) (k:AExit→List Value→AHeap→Prop):AExit→List Value→AHeap→Prop
 | .exit i,sl,H=>if i=id then k .normal sl H else k (.exit i) sl H
 | .normal,sl,H=>k .normal sl H
 | .ret,sl,H=>k .ret sl H
def kx (P:Program):Code→List Value→AHeap→(AExit→List Value→AHeap→Prop)→Prop
 | .skip,sl,H,k | .label _,sl,H,k=>k .normal sl H
 | .region _ ops false,sl,H,k=>kops P ops ops.toList sl H (k .normal)
 | .region _ ops true, sl, H, k => match drows P ops with
   | some rs=>kdraw P ops (k .normal) ops.toList rs sl H []
   | none=>False
 | .seq x y,sl,H,k=>kx P x sl H (kthen (fun sl H=>kx P y sl H k) k)
 | .cond c x y, sl, H, k => match aev sl c with
   | some v=>kif v (kx P x sl H k) (kx P y sl H k)
   | none=>False
 | .block id c,sl,H,k=>kx P c sl H (kblk id k)
 | .scope c,sl,H,k=>kx P c sl H k
 | .exit id,sl,H,k=>k (.exit id) sl H
 | .ret,sl,H,k=>k .ret sl H
 | .loop c,sl,H,k=>∃ n,kthen (fun sl H=>kloop (kx P c) n sl H k) k .normal sl H
 | _,_,_,_=>False
theorem APost.later [Ctx] {w0 s H Q e st' s' H'} (h:APost w0 s H Q e st') (he:Ext s H s' H'):APost w0 s' H' Q e st':=fun s2 a2 w2 k1 k2 k3=>h s2 a2 w2 k1 (he.trans k2) k3
theorem kloop_sound [Ctx] {w0} {c:Code} {f:List Value→AHeap→(AExit→List Value→AHeap→Prop)→Prop}
  (hf:∀ {s H w sl a Q} {k:AExit→List Value→AHeap→Prop},WRel w0 s H w→ARel s H sl a→f sl H k→(∀ e sl' H',k e sl' H'→APost w0 s H Q e (sl',H'))→c.wpIn FF 0 P Q a w) (n:Nat)
  {s H w sl a Q} {k:AExit→List Value→AHeap→Prop} (h:WRel w0 s H w) (ha:ARel s H sl a) (hr:kloop f n sl H k) (hq:∀ e sl' H',k e sl' H'→APost w0 s H Q e (sl',H')):(Code.loop c).wpIn FF 0 P Q a w:=by
 refine wpIn_loop_ghost (fun n a w=>∃ s1 H1 sl1,WRel w0 s1 H1 w∧ARel s1 H1 sl1 a∧kloop f n sl1 H1 k∧Ext s H s1 H1) n ⟨s,H,sl,h,ha,hr,Ext.refl _ _⟩ ?_
 rintro n a w ⟨s1,H1,sl1,h1,ha1,hr1,he⟩
 cases n with
 | zero=>cases hr1
 | succ n =>
   simp only [kloop] at hr1
   refine hf h1 ha1 hr1 ?_
   intro e sl' H' hk s' a' w' g1 g2 g3
   cases e with
   | normal=>exact ⟨n,by omega,s',H',sl',g1,g3,hk,he.trans g2⟩
   | exit id=>exact hq _ _ _ hk s' a' w' g1 (he.trans g2) g3
   | ret=>exact hq _ _ _ hk s' a' w' g1 (he.trans g2) g3
theorem kx_sound [Ctx] (hm:P.follows .mixedOrders=true) {w0}:∀ (c:Code) {s H w sl a Q} {k:AExit→List Value→AHeap→Prop},WRel w0 s H w→ARel s H sl a→kx P c sl H k →
  (∀ e sl' H',k e sl' H'→APost w0 s H Q e (sl',H'))→c.wpIn FF 0 P Q a w:=by
 intro c
 induction c with
 | skip=>intro s H w sl a Q k h ha hr hq;exact wpIn_skip (hq _ _ _ hr s a w h (Ext.refl _ _) ha)
 | label l=>intro s H w sl a Q k h ha hr hq;exact wpIn_label (hq _ _ _ hr s a w h (Ext.refl _ _) ha)
 | region id ops draw =>
   intro s H w sl a Q k h ha hr hq
   cases draw with
   | false =>
     refine wpIn_region ?_
     have:=kops_sound (Q:=Q) ops.toList 0 (ops:=ops) (fun i o hi=>by simpa using hi) h ha hr (fun sl' H' hk=>hq .normal sl' H' hk)
     rw [List.range_eq_range']
     simpa using this
   | true =>
     simp only [kx] at hr
     split at hr
     · rename_i rs hrs;exact kdraw_sound hm h ha hrs hr (fun sl' H' hk=>hq .normal sl' H' hk)
     · cases hr
 | seq x y ihx ihy =>
   intro s H w sl a Q k h ha hr hq
   refine wpIn_seq (ihx h ha hr ?_)
   intro e sl' H' hk s' a' w' g1 g2 g3
   cases e with
   | normal=>exact ihy g1 g3 hk fun e2 sl2 H2 k2=>(hq e2 sl2 H2 k2).later g2
   | exit id=>exact hq _ _ _ hk s' a' w' g1 g2 g3
   | ret=>exact hq _ _ _ hk s' a' w' g1 g2 g3
 | cond c x y ihx ihy =>
   intro s H w sl a Q k h ha hr hq
   simp only [kx] at hr
   split at hr
   · rename_i v hv
     unfold kif at hr
     split at hr
     · rename_i t
       have hb':=(aev_rel ha hv).lit_inv rfl
       cases t with
       | true=>exact wpIn_cond_true hb' (ihx h ha (by simpa using hr) hq)
       | false=>exact wpIn_cond_false hb' (ihy h ha (by simpa using hr) hq)
     · cases hr
   · cases hr
 | block id c ih =>
   intro s H w sl a Q k h ha hr hq
   refine wpIn_block (ih h ha hr ?_)
   intro e sl' H' hk s' a' w' g1 g2 g3
   cases e with
   | normal=>exact hq _ _ _ hk s' a' w' g1 g2 g3
   | exit i =>
     simp only [kblk] at hk
     show Exit.inBlock id Q (.exit i) a' w'
     simp only [Exit.inBlock]
     split at hk
     · rename_i hid;rw [if_pos hid];exact hq _ _ _ hk s' a' w' g1 g2 g3
     · rename_i hid;rw [if_neg hid];exact hq _ _ _ hk s' a' w' g1 g2 g3
   | ret=>exact hq _ _ _ hk s' a' w' g1 g2 g3
 | scope c ih =>
   intro s H w sl a Q k h ha hr hq
   refine wpIn_scope (ih h ha hr ?_)
   intro e sl' H' hk s' a' w' g1 g2 g3
   have:=hq _ _ _ hk s' a' w' g1 g2 g3
   cases e with
   | normal=>exact this
   | exit id=>exact this
   | ret=>exact this
 | exit id=>intro s H w sl a Q k h ha hr hq;exact wpIn_exit (hq _ _ _ hr s a w h (Ext.refl _ _) ha)
 | ret=>intro s H w sl a Q k h ha hr hq;exact wpIn_ret (hq _ _ _ hr s a w h (Ext.refl _ _) ha)
 | loop c ih =>
   intro s H w sl a Q k h ha hr hq
   obtain ⟨n,hr⟩:=hr
   exact kloop_sound (f:=kx P c) (fun h ha hr hq=>ih h ha hr hq) n h ha hr hq
 | _=>intro s H w sl a Q k h ha hr hq;cases hr
def kres (P:Program) (sl:List Value) (H:AHeap):List ResultVar→(List Value→Prop)→Prop
 | [],k=>k []
 | .tmp t :: r, k => match sl[t]? with
   | some v=>kres P sl H r fun l=>k (v :: l)
   | none=>False
 | .cell a t :: r, k => match sl[a]? with
   | some p=>∃ v,aLoad P H t p=some v∧kres P sl H r fun l=>k (v :: l)
   | none=>False
def retV:List Value→Value
 | [v]=>v
 | l=>.tuple l.toArray
def kfin (P:Program) (fn:Func) (k:Value→AHeap→Prop):AExit→List Value→AHeap→Prop
 | .exit _,_,_=>False
 | .normal,sl,H=>kres P sl H fn.results.toList fun l=>k (retV l) H
 | .ret,sl,H=>kres P sl H fn.results.toList fun l=>k (retV l) H
def kbody (P:Program) (fn:Func) (args:List Value) (H:AHeap) (k:Value→AHeap→Prop):Prop:=match fn.body with
 | some c=>kx P c (args++List.replicate (fn.ntmps-args.length) undef) H (kfin P fn k)
 | none=>False
def kseq (P:Program) (y:Code) (k:Kont):Kont:=kthen (fun sl H=>kx P y sl H k) k
def kit (P:Program) (c:Code) (n:Nat) (k:Kont):Kont:=kthen (fun sl H=>kloop (kx P c) n sl H k) k
theorem kops_one {ops} {k:List Value→AHeap→Prop}:∀ (os:List Oper) {sl H},kops P ops os sl H k→∃ sl' H',k sl' H'∧kops P ops os sl H fun s2 h2=>s2=sl'∧h2=H':=by
 intro os
 induction os with
 | nil=>intro sl H h;exact ⟨sl,H,h,rfl,rfl⟩
 | cons o r ih =>
   intro sl H h
   simp only [kops] at h
   split at h
   · rename_i hp
     split at h
     · rename_i v hv
       obtain ⟨a,b,h1,h2⟩:=ih h
       refine ⟨a,b,h1,?_⟩
       simp only [kops,if_pos hp,hv];exact h2
     · cases h
   · rename_i hp
     split at h
     · rename_i hq
       obtain ⟨v,hv,h⟩:=h
       obtain ⟨a,b,h1,h2⟩:=ih h
       refine ⟨a,b,h1,?_⟩
       simp only [kops,if_neg hp,if_pos hq];exact ⟨v,hv,h2⟩
     · rename_i hq
       obtain ⟨v,H',hv,h⟩:=h
       obtain ⟨a,b,h1,h2⟩:=ih h
       refine ⟨a,b,h1,?_⟩
       simp only [kops,if_neg hp,if_neg hq];exact ⟨v,H',hv,h2⟩
theorem kdraw_one {ops} {k:List Value→AHeap→Prop}:∀ (os:List Oper) (rs:List DRow) {sl H hs},kdraw P ops k os rs sl H hs→∃ sl' H',k sl' H'∧kdraw P ops (fun s2 h2=>s2=sl'∧h2=H') os rs sl H hs:=by
 intro os
 induction os with
 | nil=>intro rs sl H hs h;simp only [kdraw] at h;exact ⟨sl,H,h,by simp only [kdraw];trivial⟩
 | cons o os ih =>
   intro rs sl H hs h
   cases rs with
   | nil=>simp [kdraw] at h
   | cons r rs =>
     simp only [kdraw] at h
     split at h
     · rename_i he
       obtain ⟨v,H2,hg,hb,h⟩:=h
       obtain ⟨a,b,h1,h2⟩:=ih rs h
       refine ⟨a,b,h1,?_⟩
       simp only [kdraw,if_pos he];exact ⟨v,H2,hg,hb,h2⟩
     · rename_i he
       split at h
       · rename_i K hK
         split at h
         · rename_i hp
           split at h
           · rename_i v hv
             obtain ⟨a,b,h1,h2⟩:=ih rs h
             refine ⟨a,b,h1,?_⟩
             simp only [kdraw,if_neg he,hK,if_pos hp,hv];exact h2
           · cases h
         · rename_i hp
           split at h
           · rename_i hq
             obtain ⟨v,hv,h⟩:=h
             obtain ⟨a,b,h1,h2⟩:=ih rs h
             refine ⟨a,b,h1,?_⟩
             simp only [kdraw,if_neg he,hK,if_neg hp,if_pos hq];exact ⟨v,hv,h2⟩
           · cases h
       · cases h
def kis (e:AExit) (sl:List Value) (H:AHeap):Kont:=fun e2 s2 h2=>e2=e∧s2=sl∧h2=H
theorem kloop_one {f:List Value→AHeap→Kont→Prop} (hf:∀ {sl H} {k:Kont},f sl H k→∃ e sl' H',k e sl' H'∧f sl H (kis e sl' H')) (hm:∀ {sl H} {k k':Kont},(∀ e sl H,k e sl H→k' e sl H)→f sl H k→f sl H k') :
  ∀ (n:Nat) {sl H} {k:Kont},kloop f n sl H k→∃ e sl' H',k e sl' H'∧kloop f n sl H (kis e sl' H'):=by
 intro n
 induction n with
 | zero=>intro sl H k h;cases h
 | succ n ih =>
   intro sl H k h
   simp only [kloop] at h
   obtain ⟨e,s1,h1,hk,hf1⟩:=hf h
   cases e with
   | normal =>
     obtain ⟨e2,s2,h2,hk2,hf2⟩:=ih hk
     refine ⟨e2,s2,h2,hk2,?_⟩
     simp only [kloop]
     refine hm ?_ hf1
     rintro e sl H ⟨rfl,rfl,rfl⟩
     exact hf2
   | exit i =>
     refine ⟨.exit i,s1,h1,hk,?_⟩
     simp only [kloop]
     refine hm ?_ hf1
     rintro e sl H ⟨rfl,rfl,rfl⟩
     exact ⟨rfl,rfl,rfl⟩
   | ret =>
     refine ⟨.ret,s1,h1,hk,?_⟩
     simp only [kloop]
     refine hm ?_ hf1
     rintro e sl H ⟨rfl,rfl,rfl⟩
     exact ⟨rfl,rfl,rfl⟩
theorem kops_mono {ops} {k k':List Value→AHeap→Prop} (hk:∀ sl H,k sl H→k' sl H):∀ (os:List Oper) {sl H},kops P ops os sl H k→kops P ops os sl H k':=by
 intro os
 induction os with
 | nil=>intro sl H h;exact hk _ _ h
 | cons o r ih =>
   intro sl H h
   simp only [kops] at h ⊢
   split at h
   · rename_i hp
     rw [if_pos hp]
     split at h
     · exact ih h
     · cases h
   · rename_i hp
     rw [if_neg hp]
     split at h
     · rename_i hq
       rw [if_pos hq]
       obtain ⟨v,hv,h⟩:=h
       exact ⟨v,hv,ih h⟩
     · rename_i hq
       rw [if_neg hq]
       obtain ⟨v,H',hv,h⟩:=h
       exact ⟨v,H',hv,ih h⟩
theorem kdraw_mono {ops} {k k':List Value→AHeap→Prop} (hk:∀ sl H,k sl H→k' sl H):∀ (os:List Oper) (rs:List DRow) {sl H hs},kdraw P ops k os rs sl H hs→kdraw P ops k' os rs sl H hs:=by
 intro os
 induction os with
 | nil=>intro rs sl H hs h;simp only [kdraw] at h ⊢;exact hk _ _ h
 | cons o os ih =>
   intro rs sl H hs h
   cases rs with
   | nil=>simp [kdraw] at h
   | cons r rs =>
     simp only [kdraw] at h ⊢
     split at h
     · rename_i he
       obtain ⟨v,H2,hg,hb,h⟩:=h
       rw [if_pos he];exact ⟨v,H2,hg,hb,ih rs h⟩
     · rename_i he
       rw [if_neg he]
       split at h
       · rename_i K hK
         split at h
         · rename_i hp
           simp only [if_pos hp]
           split at h
           · exact ih rs h
           · cases h
         · rename_i hp
           simp only [if_neg hp]
           split at h
           · rename_i hq
             obtain ⟨v,hv,h⟩:=h
             rw [if_pos hq];exact ⟨v,hv,ih rs h⟩
           · cases h
       · cases h
theorem kloop_mono {f:List Value→AHeap→Kont→Prop} (hm:∀ {sl H} {k k':Kont},(∀ e sl H,k e sl H→k' e sl H)→f sl H k→f sl H k'):∀ (n:Nat) {sl H} {k k':Kont},(∀ e sl H,k e sl H→k' e sl H)→kloop f n sl H k→kloop f n sl H k':=by
 intro n
 induction n with
 | zero=>intro sl H k k' _ h;cases h
 | succ n ih =>
   intro sl H k k' hk h
   simp only [kloop] at h ⊢
   refine hm ?_ h
   intro e sl H h
   cases e with
   | normal=>exact ih hk h
   | exit i=>exact hk _ _ _ h
   | ret=>exact hk _ _ _ h
theorem kx_mono:∀ (c:Code) {sl H} {k k':Kont},(∀ e sl H,k e sl H→k' e sl H)→kx P c sl H k→kx P c sl H k':=by
 intro c
 induction c with
 | skip=>intro sl H k k' hk h;exact hk _ _ _ h
 | label l=>intro sl H k k' hk h;exact hk _ _ _ h
 | region id ops draw =>
   intro sl H k k' hk h
   cases draw with
   | false=>exact kops_mono (hk .normal) _ h
   | true =>
     simp only [kx] at h ⊢
     split at h
     · exact kdraw_mono (hk .normal) _ _ h
     · cases h
 | seq x y ihx ihy =>
   intro sl H k k' hk h
   refine ihx ?_ h
   intro e sl H h
   cases e with
   | normal=>exact ihy hk h
   | exit i=>exact hk _ _ _ h
   | ret=>exact hk _ _ _ h
 | cond c x y ihx ihy =>
   intro sl H k k' hk h
   simp only [kx] at h ⊢
   split at h
   · unfold kif at h ⊢
     split at h
     · split at h
       · rename_i q;simp only [if_pos q];exact ihx hk h
       · rename_i q;simp only [if_neg q];exact ihy hk h
     · cases h
   · cases h
 | block id c ih =>
   intro sl H k k' hk h
   refine ih ?_ h
   intro e sl H h
   cases e with
   | normal=>exact hk _ _ _ h
   | exit i =>
     simp only [kblk] at h ⊢
     split at h
     · rename_i q;rw [if_pos q];exact hk _ _ _ h
     · rename_i q;rw [if_neg q];exact hk _ _ _ h
   | ret=>exact hk _ _ _ h
 | scope c ih=>intro sl H k k' hk h;exact ih hk h
 | exit id=>intro sl H k k' hk h;exact hk _ _ _ h
 | ret=>intro sl H k k' hk h;exact hk _ _ _ h
 | loop c ih =>
   intro sl H k k' hk h
   obtain ⟨n,h⟩:=h
   exact ⟨n,kloop_mono (f:=kx P c) (fun hk h=>ih hk h) n hk h⟩
 | _=>intro sl H k k' hk h;cases h
theorem kx_one:∀ (c:Code) {sl H} {k:Kont},kx P c sl H k→∃ e sl' H',k e sl' H'∧kx P c sl H (kis e sl' H'):=by
 intro c
 induction c with
 | skip=>intro sl H k h;exact ⟨_,_,_,h,rfl,rfl,rfl⟩
 | label l=>intro sl H k h;exact ⟨_,_,_,h,rfl,rfl,rfl⟩
 | region id ops draw =>
   intro sl H k h
   cases draw with
   | false =>
     obtain ⟨a,b,h1,h2⟩:=kops_one (k:=k .normal) _ h
     exact ⟨.normal,a,b,h1,kops_mono (fun _ _ q=>⟨rfl,q⟩) _ h2⟩
   | true =>
     simp only [kx] at h
     split at h
     · rename_i rs hr
       obtain ⟨a,b,h1,h2⟩:=kdraw_one _ _ h
       refine ⟨.normal,a,b,h1,?_⟩
       simp only [kx,hr]
       exact kdraw_mono (fun _ _ q=>⟨rfl,q⟩) _ _ h2
     · cases h
 | seq x y ihx ihy =>
   intro sl H k h
   obtain ⟨e,s1,h1,hk,hx⟩:=ihx h
   cases e with
   | normal =>
     obtain ⟨e2,s2,h2,hk2,hy⟩:=ihy hk
     refine ⟨e2,s2,h2,hk2,kx_mono x ?_ hx⟩
     rintro e sl H ⟨rfl,rfl,rfl⟩
     exact hy
   | exit i =>
     refine ⟨.exit i,s1,h1,hk,kx_mono x ?_ hx⟩
     rintro e sl H ⟨rfl,rfl,rfl⟩
     exact ⟨rfl,rfl,rfl⟩
   | ret =>
     refine ⟨.ret,s1,h1,hk,kx_mono x ?_ hx⟩
     rintro e sl H ⟨rfl,rfl,rfl⟩
     exact ⟨rfl,rfl,rfl⟩
 | cond c x y ihx ihy =>
   intro sl H k h
   simp only [kx] at h
   split at h
   · rename_i v hv
     unfold kif at h
     split at h
     · split at h
       · rename_i q
         obtain ⟨e,s1,h1,hk,hx⟩:=ihx h
         refine ⟨e,s1,h1,hk,?_⟩
         simp only [kx,hv,kif,if_pos q];exact hx
       · rename_i q
         obtain ⟨e,s1,h1,hk,hx⟩:=ihy h
         refine ⟨e,s1,h1,hk,?_⟩
         simp only [kx,hv,kif,if_neg q];exact hx
     · cases h
   · cases h
 | block id c ih =>
   intro sl H k h
   obtain ⟨e,s1,h1,hk,hx⟩:=ih h
   cases e with
   | normal =>
     refine ⟨.normal,s1,h1,hk,kx_mono c ?_ hx⟩
     rintro e sl H ⟨rfl,rfl,rfl⟩
     exact ⟨rfl,rfl,rfl⟩
   | exit i =>
     simp only [kblk] at hk
     split at hk
     · rename_i q
       refine ⟨.normal,s1,h1,hk,kx_mono c ?_ hx⟩
       rintro e sl H ⟨rfl,rfl,rfl⟩
       simp only [kblk,if_pos q]
       exact ⟨rfl,rfl,rfl⟩
     · rename_i q
       refine ⟨.exit i,s1,h1,hk,kx_mono c ?_ hx⟩
       rintro e sl H ⟨rfl,rfl,rfl⟩
       simp only [kblk,if_neg q]
       exact ⟨rfl,rfl,rfl⟩
   | ret =>
     refine ⟨.ret,s1,h1,hk,kx_mono c ?_ hx⟩
     rintro e sl H ⟨rfl,rfl,rfl⟩
     exact ⟨rfl,rfl,rfl⟩
 | scope c ih=>intro sl H k h;exact ih h
 | exit id=>intro sl H k h;exact ⟨_,_,_,h,rfl,rfl,rfl⟩
 | ret=>intro sl H k h;exact ⟨_,_,_,h,rfl,rfl,rfl⟩
 | loop c ih =>
   intro sl H k h
   obtain ⟨n,h⟩:=h
   obtain ⟨e,s1,h1,hk,hx⟩:=kloop_one (f:=kx P c) (fun h=>ih h) (fun hk h=>kx_mono c hk h) n h
   exact ⟨e,s1,h1,hk,n,hx⟩
 | _=>intro sl H k h;cases h
theorem kres_one {sl H}:∀ (rs:List ResultVar) {k:List Value→Prop},kres P sl H rs k→∃ l,k l∧kres P sl H rs fun l'=>l'=l:=by
 intro rs
 induction rs with
 | nil=>intro k h;exact ⟨[],h,rfl⟩
 | cons r rs ih =>
   intro k h
   cases r with
   | tmp t =>
     simp only [kres] at h
     split at h
     · rename_i v hv
       obtain ⟨l,h1,h2⟩:=ih h
       refine ⟨v :: l,h1,?_⟩
       simp only [kres,hv]
       obtain ⟨l2,h3,h4⟩:=ih h2
       subst h3
       simpa using h2
     · cases h
   | cell a t =>
     simp only [kres] at h
     split at h
     · rename_i p hp
       obtain ⟨v,hv,h⟩:=h
       obtain ⟨l,h1,h2⟩:=ih h
       refine ⟨v :: l,h1,?_⟩
       simp only [kres,hp]
       exact ⟨v,hv,by simpa using h2⟩
     · cases h
theorem kres_weak {sl H}:∀ (rs:List ResultVar) {k k':List Value→Prop},(∀ l,k l→k' l)→kres P sl H rs k→kres P sl H rs k':=by
 intro rs
 induction rs with
 | nil=>intro k k' hk h;exact hk _ h
 | cons r rs ih =>
   intro k k' hk h
   cases r with
   | tmp t =>
     simp only [kres] at h ⊢
     split at h
     · exact ih (fun l=>hk _) h
     · cases h
   | cell a t =>
     simp only [kres] at h ⊢
     split at h
     · obtain ⟨v,hv,h⟩:=h;exact ⟨v,hv,ih (fun l=>hk _) h⟩
     · cases h
theorem kbody_one {fn args H} {k:Value→AHeap→Prop} (h:kbody P fn args H k):∃ v H',k v H'∧kbody P fn args H fun u H2=>u=v∧H2=H':=by
 unfold kbody at h
 split at h
 · rename_i c hb
   obtain ⟨e,s1,h1,hk,hx⟩:=kx_one c h
   have fin:∀ {e},kx P c (args++List.replicate (fn.ntmps-args.length) undef) H (kis e s1 h1)→(e=.normal∨e=.ret)→kres P s1 h1 fn.results.toList (fun l=>k (retV l) h1) →
     ∃ v H',k v H'∧kbody P fn args H fun u H2=>u=v∧H2=H':=by
    intro e hx he hk
    obtain ⟨l,q1,q2⟩:=kres_one _ hk
    refine ⟨retV l,h1,q1,?_⟩
    unfold kbody
    rw [hb]
    refine kx_mono c ?_ hx
    rintro e2 sl H2 ⟨rfl,rfl,rfl⟩
    rcases he with rfl | rfl<;>exact kres_weak _ (fun l' h=>⟨by rw [h],rfl⟩) q2
   cases e with
   | normal=>exact fin hx (.inl rfl) hk
   | ret=>exact fin hx (.inr rfl) hk
   | exit i=>cases hk
 · cases h
theorem kres_sound {sl H}:∀ (rs:List ResultVar) {k:List Value→Prop},kres P sl H rs k→∃ l,aResults P sl H rs=some l∧k l:=by
 intro rs
 induction rs with
 | nil=>intro k h;exact ⟨[],rfl,h⟩
 | cons r rs ih =>
   intro k h
   cases r with
   | tmp t =>
     simp only [kres] at h
     split at h
     · rename_i v hv
       obtain ⟨l,h1,h2⟩:=ih h
       exact ⟨v :: l,by simp [aResults,aResult,hv,h1],h2⟩
     · cases h
   | cell a t =>
     simp only [kres] at h
     split at h
     · rename_i p hp
       obtain ⟨v,hv,h⟩:=h
       obtain ⟨l,h1,h2⟩:=ih h
       exact ⟨v :: l,by simp [aResults,aResult,hp,hv,h1],h2⟩
     · cases h
theorem aRet_of {fn:Func} {sl H l} (h:aResults P sl H fn.results.toList=some l):aRet P fn sl H=some (retV l):=by
 unfold aRet
 rw [h]
 match l with
 | []=>rfl
 | [v]=>rfl
 | _ :: _ :: _=>rfl
theorem acalls_of (hm:P.follows .mixedOrders=true) {f fn args H v H'} (hf:P.funcs[f]?=some fn) (hn:notNG fn=true) (hr:kbody P fn args H fun u H2=>u=v∧H2=H'):ACalls P f args H v H':=by
 intro w0 s w args' h hargs
 left
 unfold kbody at hr
 split at hr
 · rename_i c hb
   constructor
   · have hq : ¬ fn.name = "runtime.NumGoroutine" := by intro q; simp [notNG, q] at hn
     have hbn:¬ fn.body=none:=by rw [hb];simp
     simp [callFunc,hf,hq,hbn]
   · letI:Ctx:=⟨[],none⟩
     refine callsIn_wide.1 (callsIn_of_wp (F:=Fence.wide) (n:=0) hf hb trivial ?_ rfl)
     have hal:args.length=args'.size:=by have:=hargs.1;simpa using this
     have ha:ARel s H (args++List.replicate (fn.ntmps-args.length) undef) { tmps:=args'++Array.replicate (fn.ntmps-args'.size) undef,defers:=[] }:=by
      refine ⟨?_,rfl⟩
      simp only [Array.toList_append,Array.toList_replicate,hal]
      refine hargs.append ⟨by simp,fun i x y hx hy=>?_⟩
      rw [List.getElem?_replicate] at hx hy
      split at hx
      · rename_i hi
        rw [if_pos hi] at hy
        cases hx;cases hy
        exact undef_rel _ _
      · cases hx
     refine kx_sound hm c h ha hr ?_
     intro e sl' H2 hk s' a' w' g1 g2 g3
     cases e with
     | exit i=>cases hk
     | normal =>
       obtain ⟨l,h1,rfl,rfl⟩:=kres_sound _ hk
       obtain ⟨v',k1,k2⟩:=run_ret (P:=P) fn g1.h g3 (aRet_of h1)
       exact ⟨g3.d,v',k1,s',v',rfl,g1,g2,k2⟩
     | ret =>
       obtain ⟨l,h1,rfl,rfl⟩:=kres_sound _ hk
       obtain ⟨v',k1,k2⟩:=run_ret (P:=P) fn g1.h g3 (aRet_of h1)
       exact ⟨g3.d,v',k1,s',v',rfl,g1,g2,k2⟩
 · cases hr
theorem acalls_ex (hm:P.follows .mixedOrders=true) {f fn args H} {k:Value→AHeap→Prop} (hf:P.funcs[f]?=some fn) (hn:notNG fn=true) (hr:kbody P fn args H k):∃ v H',k v H'∧ACalls P f args H v H':=by
 obtain ⟨v,H',h1,h2⟩:=kbody_one hr
 exact ⟨v,H',h1,acalls_of hm hf hn h2⟩
theorem ACalls.trim {f args H v X} (h:ACalls P f args H v (H++X)) (hc:clos v=true):ACalls P f args H v H:=by
 intro w0 s w args' hw ha
 have key:∀ e w',AEnd w0 s H v (H++X) e w'→AEnd w0 s H v H e w':=by
  rintro e w' ⟨s',v',rfl,g1,g2,g3⟩
  exact ⟨s,v',rfl,hw.forget g1 g2,Ext.refl _ _,by rw [g3.clos_eq hc];exact clos_rel hc s H⟩
 rcases h w0 s w args' hw ha with ⟨h1,h2⟩ | ⟨v',w',h1,h2⟩
 · exact .inl ⟨h1,h2.mono key⟩
 · exact .inr ⟨v',w',h1,key _ _ h2⟩
theorem acalls_pure (hm:P.follows .mixedOrders=true) {f fn args H v} (hf:P.funcs[f]?=some fn) (hn:notNG fn=true) (hc:clos v=true) (hr:kbody P fn args H fun u H2=>u=v∧∃ X,H2=H++X):ACalls P f args H v H:=by
 obtain ⟨v',H',⟨rfl,X,rfl⟩,h⟩:=acalls_ex hm hf hn hr
 exact h.trim hc
def cl:Code→Code
 | .seq x _ | .cond _ x _ | .block _ x | .loop x | .scope x | .rangeFunc _ _ x _=>x
 | c=>c
def cr:Code→Code
 | .seq _ y | .cond _ _ y | .rangeFunc _ _ _ y=>y
 | c=>c
def cb (fn:Func):Code:=fn.body.getD .skip
def aAlloc (P:Program) (H:AHeap) (T:TypeId):Option (Value × AHeap):=match tzero P T with
 | some z=>if cok z=true then aNew H T z else none
 | none=>none
def sliceLit (P:Program) (H:AHeap) (T:TypeId) (n:Nat) (l:List (Nat × Value)) (v:Value) (H':AHeap):Prop:=allStor l=true∧aBuildSlice P H T n l=some (v,H')
class QV where
 f:Value→Prop
class QH where
 f:Value→AHeap→Prop
class QP where
 p:Prop
def bnd (E:Option Value) [q:QV]:Prop:=∃ v,E=some v∧q.f v
def bndE (E:Option (Value × AHeap)) [q:QH]:Prop:=∃ v H',E=some (v,H')∧q.f v H'
def bndS (E:Option AHeap) [q:QH]:Prop:=∃ v H',(v=undef∧E=some H')∧q.f v H'
def bndC (P:Program) (f:FuncId) (args:List Value) (H:AHeap) [q:QH]:Prop:=∃ v H',ACalls P f args H v H'∧q.f v H'
def bndV (P:Program) (f:Value) (args:List Value) (H:AHeap) [q:QH]:Prop:=∃ v H',callV P f args H v H'∧q.f v H'
def bndL (P:Program) (H:AHeap) (T:TypeId) (n:Nat) (ps:List (Nat × Value)) [q:QH]:Prop:=∃ v H',sliceLit P H T n ps v H'∧q.f v H'
def bndG (x:Value) (want:Bool) (H:AHeap) [e:QH] [q:QH]:Prop:=∃ v H',gifp x want (e.f v H') (v=undef∧H'=H)∧q.f v H'
def bndD (b:Bool) (H:AHeap) [e:QH] [q:QH]:Prop:=∃ v H',e.f v H'∧(b=true∨∃ X,H'=H++X)∧q.f v H'
def kifB (x:Value) [a:QP] [b:QP]:Prop:=kif x a.p b.p
@[simp] theorem bnd_some {a:Value} (q:QV):@bnd (some a) q=q.f a:=by simp [bnd]
@[simp] theorem bndE_some {a:Value} {H:AHeap} (q:QH):@bndE (some (a,H)) q=q.f a H:=by
 apply propext
 constructor
 · rintro ⟨v,H',h,q⟩;cases h;exact q
 · intro q;exact ⟨a,H,rfl,q⟩
@[simp] theorem bndS_some {H:AHeap} (q:QH):@bndS (some H) q=q.f undef H:=by
 apply propext
 constructor
 · rintro ⟨v,H',⟨rfl,h⟩,q⟩;cases h;exact q
 · intro q;exact ⟨undef,H,⟨rfl,rfl⟩,q⟩
theorem bndC_of {P f args H v H'} {q:QH} (h:ACalls P f args H v H') (k:q.f v H'):@bndC P f args H q:=⟨v,H',h,k⟩
theorem kifB_bool {t:Bool} {a b:QP} (h1:t=true→a.p) (h2:t=false→b.p):@kifB (.bool t) a b:=by
 cases t
 · exact h2 rfl
 · exact h1 rfl
@[simp] theorem kifB_true (a b:QP):@kifB (.bool true) a b=a.p:=by simp [kifB,kif]
@[simp] theorem kifB_false (a b:QP):@kifB (.bool false) a b=b.p:=by simp [kifB,kif]
def gsel (b want:Bool) (e d:Value):Value:=if b=want then e else d
@[simp] theorem gsel_tt {e d}:gsel true true e d=e:=Eq.trans rfl rfl
@[simp] theorem gsel_ff {e d}:gsel false false e d=e:=Eq.trans rfl rfl
@[simp] theorem gsel_tf {e d}:gsel true false e d=d:=Eq.trans rfl rfl
@[simp] theorem gsel_ft {e d}:gsel false true e d=d:=Eq.trans rfl rfl
@[congr] theorem gif_congr {b b' want:Bool} {E E':Option Value} {d:Value} (hb:b=b') (h:b'=want→E=E'):gif (.bool b) want E d=gif (.bool b') want E' d:=by
 subst hb
 unfold gif
 simp only
 split
 · rename_i hb;exact h (eq_of_beq hb)
 · rfl
@[simp] theorem gif_some {b want:Bool} {e d:Value}:gif (.bool b) want (some e) d=some (gsel b want e d):=by
 cases b<;>cases want<;>rfl
@[simp] theorem gif_tt {E:Option Value} {d:Value}:gif (.bool true) true E d=E:=Eq.trans rfl rfl
@[simp] theorem gif_ft {E:Option Value} {d:Value}:gif (.bool false) true E d=some d:=Eq.trans rfl rfl
@[simp] theorem gif_tf {E:Option Value} {d:Value}:gif (.bool true) false E d=some d:=Eq.trans rfl rfl
@[simp] theorem gif_ff {E:Option Value} {d:Value}:gif (.bool false) false E d=E:=Eq.trans rfl rfl
@[simp] theorem gif_undef {want:Bool} {E:Option Value} {d:Value}:gif undef want E d=some d:=Eq.trans rfl rfl
@[simp] theorem gifp_undef {want:Bool} {E d:Prop}:gifp undef want E d=d:=by simp [gifp,undef]
@[simp] theorem gif_gsel {b w c want:Bool} {E:Option Value} {d:Value}:gif (gsel b w (.bool c) undef) want E d=gif (.bool (b == w && c == want)) true E d:=by
 unfold gsel
 by_cases h:b=w<;>simp [h,gif,undef]
@[simp] theorem gifp_gsel {b w c want:Bool} {E d:Prop}:gifp (gsel b w (.bool c) undef) want E d=gifp (.bool (b == w && c == want)) true E d:=by
 unfold gsel
 by_cases h:b=w<;>simp [h,gifp,undef]
@[simp] theorem bndG_gsel {b w c want:Bool} {H:AHeap} {e q:QH}:@bndG (gsel b w (.bool c) undef) want H e q = @bndG (.bool (b == w && c == want)) true H e q:=by
 unfold bndG
 simp only [gifp_gsel]
@[simp] theorem pick_and {b c:Bool} {d:Value}:pickV (.bool b) (gsel b true (.bool c) d) (.bool false)=some (.bool (b && c)):=by cases b<;>rfl
@[simp] theorem pick_or {b c:Bool} {d:Value}:pickV (.bool b) (.bool true) (gsel b false (.bool c) d)=some (.bool (b || c)):=by cases b<;>rfl
end Go.Vi
namespace Go.Vi
open Go.RowKit
variable {P:Program}
theorem pv_pure {α:Type} (a:α):pv P (pure a)=some a:=rfl
theorem pv_bind {α β:Type} (s:Sem α) (f:α→Sem β):pv P (s >>= f)=(pv P s).bind fun a=>pv P (f a):=by
 induction s with
 | pure a=>rfl
 | program k ih=>exact ih P
 | _=>rfl
theorem pv_und {t d} (h:P.underlying t=some d):pv P (underlying t)=some d:=by
 unfold underlying
 rw [pv_bind]
 simp [program,pv,h,pv_pure]
section
variable (H:AHeap) (T:TypeId) (x y:Operand) (k:IntKind) (a b:Int)
@[simp] theorem aBin_add:aBin2 P H .add T x y (.int k a) (.int k b)=some (.int k (k.wrap (a+b))):=by
 apply aBin2_of
 simp [aBin,clos,isLit,eqGuard,binOp,Op.intArith,pv_pure]
@[simp] theorem aBin_sub:aBin2 P H .sub T x y (.int k a) (.int k b)=some (.int k (k.wrap (a-b))):=by
 apply aBin2_of
 simp [aBin,clos,isLit,eqGuard,binOp,Op.intArith,pv_pure]
@[simp] theorem aBin_mul:aBin2 P H .mul T x y (.int k a) (.int k b)=some (.int k (k.wrap (a*b))):=by
 apply aBin2_of
 simp [aBin,clos,isLit,eqGuard,binOp,Op.intArith,pv_pure]
@[simp] theorem aBin_eql:aBin2 P H .eql T x y (.int k a) (.int k b)=some (.bool (a == b)):=by
 apply aBin2_of
 simp [aBin,clos,isLit,eqGuard,binOp,Op.intCmp,pv_pure]
@[simp] theorem aBin_neq:aBin2 P H .neq T x y (.int k a) (.int k b)=some (.bool (a != b)):=by
 apply aBin2_of
 simp [aBin,clos,isLit,eqGuard,binOp,Op.intCmp,pv_pure]
@[simp] theorem aBin_lss:aBin2 P H .lss T x y (.int k a) (.int k b)=some (.bool (decide (a < b))):=by
 apply aBin2_of
 simp [aBin,clos,isLit,eqGuard,binOp,Op.intCmp,pv_pure]
@[simp] theorem aBin_leq:aBin2 P H .leq T x y (.int k a) (.int k b)=some (.bool (decide (a≤b))):=by
 apply aBin2_of
 simp [aBin,clos,isLit,eqGuard,binOp,Op.intCmp,pv_pure]
@[simp] theorem aBin_gtr:aBin2 P H .gtr T x y (.int k a) (.int k b)=some (.bool (decide (a > b))):=by
 apply aBin2_of
 simp [aBin,clos,isLit,eqGuard,binOp,Op.intCmp,pv_pure]
@[simp] theorem aBin_geq:aBin2 P H .geq T x y (.int k a) (.int k b)=some (.bool (decide (a ≥ b))):=by
 apply aBin2_of
 simp [aBin,clos,isLit,eqGuard,binOp,Op.intCmp,pv_pure]
theorem aBin_quo (h:b≠0):aBin2 P H .quo T x y (.int k a) (.int k b)=some (.int k (k.wrap (a.tdiv b))):=by
 apply aBin2_of
 simp [aBin,clos,isLit,eqGuard,binOp,Op.intDiv,pv_pure,h]
theorem aBin_rem (h:b≠0):aBin2 P H .rem T x y (.int k a) (.int k b)=some (.int k (a.tmod b)):=by
 apply aBin2_of
 simp [aBin,clos,isLit,eqGuard,binOp,Op.intDiv,pv_pure,h]
theorem aBin_shl {yk:IntKind} (h:0≤b):aBin2 P H .shl T x y (.int k a) (.int yk b)=some (.int k (k.wrap (a*2 ^ (min b.toNat k.bits)))):=by
 apply aBin2_of
 have:¬ b < 0:=by omega
 simp [aBin,clos,isLit,eqGuard,binOp,Op.shift,pv_pure,this]
theorem aBin_shr {yk:IntKind} (h:0≤b):aBin2 P H .shr T x y (.int k a) (.int yk b)=some (.int k (a.fdiv (2 ^ (min b.toNat k.bits)))):=by
 apply aBin2_of
 have:¬ b < 0:=by omega
 simp [aBin,clos,isLit,eqGuard,binOp,Op.shift,pv_pure,this]
end
section
variable (H:AHeap) (T:TypeId) (x y:Operand) (a b:ByteArray)
theorem aBin_cat (h:a.size+b.size < 2 ^ 63):aBin2 P H .add T x y (.string a) (.string b)=some (.string (a++b)):=by
 apply aBin2_of
 have h2:¬ (((a.size+b.size:Nat):Int) > IntKind.i64.max):=by
  have:IntKind.i64.max=2 ^ 63-1:=by decide
  omega
 simp only [aBin,clos,isLit,eqGuard,binOp,Op.stringOp]
 rw [if_neg h2]
 rfl
theorem toList_iff (a b:ByteArray):a.toList=b.toList↔a=b:=by
 rw [ByteArray.toList_eq,ByteArray.toList_eq]
 constructor
 · intro h
   obtain ⟨⟨a⟩⟩:=a
   obtain ⟨⟨b⟩⟩:=b
   simp at h
   rw [h]
 · intro h;rw [h]
@[simp] theorem aBin_seql:aBin2 P H .eql T x y (.string a) (.string b)=some (.bool (decide (a=b))):=by
 apply aBin2_of
 have:(a.toList == b.toList)=decide (a=b):=by
  rw [Bool.eq_iff_iff];simp [toList_iff]
 rw [← this];rfl
@[simp] theorem aBin_sneq:aBin2 P H .neq T x y (.string a) (.string b)=some (.bool (!decide (a=b))):=by
 apply aBin2_of
 have:(a.toList == b.toList)=decide (a=b):=by
  rw [Bool.eq_iff_iff];simp [toList_iff]
 rw [← this];rfl
end
@[simp] theorem unV_not {b}:unV P .not (.bool b)=some (.bool !b):=Eq.trans rfl rfl
@[simp] theorem unV_neg {k n}:unV P .neg (.int k n)=some (.int k (k.wrap (0-n))):=Eq.trans rfl rfl
@[simp] theorem pickV_true {a b}:pickV (.bool true) a b=some a:=Eq.trans rfl rfl
@[simp] theorem pickV_false {a b}:pickV (.bool false) a b=some b:=Eq.trans rfl rfl
@[simp] theorem gifp_tt {a d:Prop}:gifp (.bool true) true a d=a:=rfl
@[simp] theorem gifp_ft {a d:Prop}:gifp (.bool false) true a d=d:=rfl
@[simp] theorem gifp_tf {a d:Prop}:gifp (.bool true) false a d=d:=rfl
@[simp] theorem gifp_ff {a d:Prop}:gifp (.bool false) false a d=a:=rfl
@[simp] theorem tupV_get {vs:Array Value} {i:Nat}:tupV (.tuple vs) i=vs[i]?:=Eq.trans rfl rfl
@[simp] theorem hcells_app (H L:AHeap) (i:Nat):hcells (H++L) (H.length+i)=hcells L i:=by
 unfold hcells
 rw [List.getElem?_append_right (by omega)]
 simp
@[simp] theorem hcells_app0 (H L:AHeap):hcells (H++L) H.length=hcells L 0:=hcells_app H L 0
@[simp] theorem hlen_app (H L:AHeap) (i:Nat):hlen (H++L) (H.length+i)=hlen L i:=by
 unfold hlen
 rw [List.getElem?_append_right (by omega)]
 simp
@[simp] theorem hlen_app0 (H L:AHeap):hlen (H++L) H.length=hlen L 0:=hlen_app H L 0
@[simp] theorem hcells_zero (o:AObj) (L:AHeap):hcells (o :: L) 0=o.rcells:=by rw [hcells_eq];rfl
@[simp] theorem hcells_succ (o:AObj) (L:AHeap) (i:Nat):hcells (o :: L) (i+1)=hcells L i:=by simp [hcells]
@[simp] theorem hlen_zero (o:AObj) (L:AHeap):hlen (o :: L) 0=o.len:=by simp [hlen]
@[simp] theorem hlen_succ (o:AObj) (L:AHeap) (i:Nat):hlen (o :: L) (i+1)=hlen L i:=by simp [hlen]
@[simp] theorem rcells_cells (cs T):(AObj.cells cs T).rcells=some cs:=rfl
@[simp] theorem rcells_ro (cs):(AObj.ro cs).rcells=some cs:=rfl
@[simp] theorem len_cells (cs T):(AObj.cells cs T).len=some cs.length:=rfl
@[simp] theorem len_ro (cs):(AObj.ro cs).len=some cs.length:=rfl
@[simp] theorem rcells_sbO (e:TypeId) (st:ByteArray):(sbO e st).rcells=some (bytesL st):=by unfold sbO;split<;>rfl
@[simp] theorem len_sbO (e:TypeId) (st:ByteArray):(sbO e st).len=some st.size:=by unfold sbO;split<;>simp [AObj.len,bytesL]
theorem aNew_eq {H T v} (h:storable v=true):aNew H T v=some (.pointer (some ⟨H.length,0,some v.cells.size⟩),H++[.cells v.cells.toList T]):=if_pos h
theorem aNew_agg {H T} {cs:Array Value} (h:storable (.agg cs)=true):aNew H T (.agg cs)=some (.pointer (some ⟨H.length,0,some cs.size⟩),H++[.cells cs.toList T]):=if_pos h
@[simp] theorem aLoad_ptr {H T b o m}:aLoad P H T (.pointer (some ⟨b,o,some m⟩))=(hcells H b).bind fun cs=>if m=cs.length then (tagg P T).bind fun g=>if g=true then (tsize P T).bind fun n=>if o+n≤cs.length then some (.agg ((cs.drop o).take n).toArray) else none else cs[o]? else none:=by
 show aLoad0 P H T (.pointer (some ⟨b,o,some m⟩))=_
 unfold aLoad0
 simp only
 cases hcells H b with
 | none=>rfl
 | some cs =>
   simp only [Option.bind_some]
   split
   · cases tagg P T with
     | none=>rfl
     | some g=>cases g<;>simp only [Option.bind_some]<;>first | (cases tsize P T<;>rfl) | rfl
   · rfl
def faRes (n:Option Nat) (v:Value):Option Value:=match n with
 | some (_+1)=>some v
 | _=>none
@[simp] theorem faRes_some {n v}:faRes (some n) v=if n=0 then none else some v:=by cases n<;>rfl
@[simp] theorem aFieldAddr_ptr {H T b o m f}:aFieldAddr P H T (.pointer (some ⟨b,o,some m⟩)) f=if hlen H b=some m then (afield P T f).bind fun q=>faRes (tsize P q.2) (.pointer (some ⟨b,o+q.1,some m⟩)) else none:=by
 unfold aFieldAddr
 simp only
 split
 · cases afield P T f with
   | none=>rfl
   | some q =>
     obtain ⟨d,t⟩:=q
     simp only [Option.bind_some,faRes]
     split<;>split<;>simp_all
 · rfl
@[simp] theorem get_app (H L:AHeap) (i:Nat):(H++L)[H.length+i]?=L[i]?:=by rw [List.getElem?_append_right (by omega)];simp
@[simp] theorem get_app0 (H L:AHeap):(H++L)[H.length]?=L[0]?:=get_app H L 0
@[simp] theorem set_app (H L:AHeap) (i:Nat) (o:AObj):(H++L).set (H.length+i) o=H++L.set i o:=by
 rw [List.set_append_right _ _ (by omega)];simp
@[simp] theorem set_app0 (H L:AHeap) (o:AObj):(H++L).set H.length o=H++L.set 0 o:=set_app H L 0 o
def ownCells (o:Option AObj):Option (List Value × TypeId):=match o with
 | some (.cells cs T)=>some (cs,T)
 | _=>none
@[simp] theorem ownCells_cells {cs T}:ownCells (some (.cells cs T))=some (cs,T):=rfl
@[simp] theorem aStore_ptr {H T b o m v}:aStore P H T (.pointer (some ⟨b,o,some m⟩)) v =
  (ownCells (H[b]?)).bind fun q=>if m=q.1.length∧tsize P T=some v.cells.size∧o+v.cells.size≤q.1.length∧storable v=true then some (H.set b (.cells (putCells q.1 o v.cells.toList) q.2)) else none:=by
 unfold aStore ownCells
 simp only
 split<;>simp_all
attribute [simp] putCells_one
theorem putCells_all {cs vs:List Value} (h:vs.length=cs.length) (_h2:2≤vs.length):putCells cs 0 vs=vs:=by
 rw [putCells_eq _ _ _ (by omega)]
 simp [h]
def slElem (d:Option TypeDesc):Option TypeId:=match d with
 | some (.slice e)=>some e
 | _=>none
@[simp] theorem slElem_slice {e}:slElem (some (TypeDesc.slice e))=some e:=rfl
theorem aIndexAddr_sl {H T b o m k} {n c:Nat} {i:Int}:aIndexAddr P H T (.slice (some ⟨b,o,some m⟩) n c) (.int k i) =
  if hlen H b=some m∧0≤i∧i < n then ((slElem (P.underlying T)).bind (tsize P)).map fun z=>.pointer (some ⟨b,o+i.toNat*z,some m⟩) else none:=by
 show aIndexAddr0 P H T (.slice (some ⟨b,o,some m⟩) n c) (.int k i)=_
 unfold aIndexAddr0
 simp only
 split
 · unfold slElem;split<;>simp_all
 · rfl
theorem aIndexAddr_eq {H T b o m k e z} {n c:Nat} {i:Int} (hu:P.underlying T=some (.slice e)) (hs:tsize P e=some z) (hl:hlen H b=some m) (h0:0≤i) (h1:i < n) :
  aIndexAddr P H T (.slice (some ⟨b,o,some m⟩) n c) (.int k i)=some (.pointer (some ⟨b,o+i.toNat*z,some m⟩)):=by
 show aIndexAddr0 P H T (.slice (some ⟨b,o,some m⟩) n c) (.int k i)=_
 simp [aIndexAddr0,hl,h0,h1,hu,hs]
theorem aLen_slice {H T ad n c e} (hu:P.underlying T=some (.slice e)):aLen P H T (.slice ad n c)=some (.int .i64 n):=by simp [aLen,hu]
theorem aLen_string {H T s} (hu:P.underlying T=some .string):aLen P H T (.string s)=some (.int .i64 s.size):=by simp [aLen,hu]
theorem wrap_i64 {n:Int} (h1:-2 ^ 63≤n) (h2:n < 2 ^ 63):IntKind.i64.wrap n=n:=by
 unfold IntKind.wrap
 simp only [show IntKind.i64.bits=64 from rfl,show IntKind.i64.signed=true from rfl]
 simp only [Bool.true_and,decide_eq_true_eq]
 split<;>omega
theorem wrap_u8 {n:Int} (h1:0≤n) (h2:n < 256):IntKind.u8.wrap n=n:=by
 unfold IntKind.wrap
 simp only [show IntKind.u8.bits=8 from rfl,show IntKind.u8.signed=false from rfl]
 simp
 omega
end Go.Vi
namespace Go.Vi
open Go.RowKit
variable {P:Program}
abbrev yval (b:Nat):Value:=.func (.yield b) #[] #[]
def markOf (r:Nat):Deferred:={ target:=.collected r,args:=#[] }
def MarkRel (s:Ren) (H:AHeap) (m:List Nat) (ds:List Deferred):Prop:=∃ rs:List Nat,ds=rs.map markOf∧VRelL s H (m.map yval) (rs.map yval)
theorem MarkRel.mono {s H s' H' m ds} (h:MarkRel s H m ds) (e:Ext s H s' H'):MarkRel s' H' m ds:=by
 obtain ⟨rs,h1,h2⟩:=h;exact ⟨rs,h1,h2.mono e⟩
abbrev KontG:=AExit→List Value→AHeap→List Nat→Prop
def kthenG (f:List Value→AHeap→List Nat→Prop) (k:KontG):KontG
 | .normal,sl,H,m=>f sl H m
 | .exit i,sl,H,m=>k (.exit i) sl H m
 | .ret,sl,H,m=>k .ret sl H m
def kloopG (f:List Value→AHeap→List Nat→KontG→Prop):Nat→List Value→AHeap→List Nat→KontG→Prop
 | 0,_,_,_,_=>False
 | n+1,sl,H,m,k=>f sl H m (kthenG (fun sl H m=>kloopG f n sl H m k) k)
def kblkG (id:Nat) (k:KontG):KontG
 | .exit i,sl,H,m=>if i=id then k .normal sl H m else k (.exit i) sl H m
 | .normal,sl,H,m=>k .normal sl H m
 | .ret,sl,H,m=>k .ret sl H m
def kjump (k:KontG) (sl:List Value) (H:AHeap) (m:List Nat):Option Code→Prop
 | none=>k .normal sl H m
 | some .ret=>k .ret sl H m
 | some (.exit id)=>k (.exit id) sl H m
 | _=>False
def rngEnd (b:Nat) (H:AHeap) (f:Option Code→AHeap→Prop):Prop:=match H[b]? with
 | some (.loop (.run sl ps assign body st pe))=>st≠.busy∧f pe (H.set b (.loop (.run sl ps assign body .exhausted pe)))
 | _=>False
def enters (P:Program) (f:FuncId):Bool:=match P.funcs[f]? with
 | some fn=>fn.body.isSome && notNG fn
 | none=>false
def krange (P:Program) (g:Value) (sl:List Value) (ps:Array Tmp) (assign body:Code) (H:AHeap) (m:List Nat) (k:KontG):Prop:=match g with
 | .func (.func f) first cap=>enters P f=true∧first.size=0∧∃ v H',ACalls P f ([yval (H.length+1)]++cap.toList) (H++[.loop .blk,.loop (.run sl ps assign body .ready none)]) v H' ∧
   rngEnd (H.length+1) H' fun pe H2=>kjump k sl H2 (H.length :: m) pe
 | _=>False
def kxG (P:Program) (D:DrawK):Code→List Value→AHeap→List Nat→KontG→Prop
 | .skip,sl,H,m,k | .label _,sl,H,m,k=>k .normal sl H m
 | .region _ ops false,sl,H,m,k=>kops P ops ops.toList sl H (fun sl H=>k .normal sl H m)
 | .region _ ops true,sl,H,m,k=>D ops (fun sl H=>k .normal sl H m) sl H
 | .seq x y,sl,H,m,k=>kxG P D x sl H m (kthenG (fun sl H m=>kxG P D y sl H m k) k)
 | .cond c x y, sl, H, m, k => match aev sl c with
   | some v=>kif v (kxG P D x sl H m k) (kxG P D y sl H m k)
   | none=>False
 | .block id c,sl,H,m,k=>kxG P D c sl H m (kblkG id k)
 | .exit id,sl,H,m,k=>k (.exit id) sl H m
 | .ret,sl,H,m,k=>k .ret sl H m
 | .loop c,sl,H,m,k=>∃ n,kthenG (fun sl H m=>kloopG (kxG P D c) n sl H m k) k .normal sl H m
 | .rangeFunc g ps assign body, sl, H, m, k => match aev sl g with
   | some v=>krange P v sl ps assign body H m k
   | none=>False
 | _,_,_,_,_=>False
def kseqG (P:Program) (D:DrawK) (y:Code) (k:KontG):KontG:=kthenG (fun sl H m=>kxG P D y sl H m k) k
def kitG (P:Program) (D:DrawK) (c:Code) (n:Nat) (k:KontG):KontG:=kthenG (fun sl H m=>kloopG (kxG P D c) n sl H m k) k
def GPost (w0:World) (s:Ren) (H:AHeap) (Q:Exit→Act→World→Prop) (e:AExit) (sl':List Value) (H':AHeap) (m':List Nat):Prop :=
 ∀ s' a' w' ds',WRel w0 s' H' w'→Ext s H s' H'→@ARel ⟨ds',none⟩ s' H' sl' a'→MarkRel s' H' m' ds'→Q e.to a' w'
theorem GPost.later {w0 s H Q e sl' H' m' s1 H1} (h:GPost w0 s H Q e sl' H' m') (he:Ext s H s1 H1):GPost w0 s1 H1 Q e sl' H' m':=fun s' a' w' ds' k1 k2 k3 k4=>h s' a' w' ds' k1 (he.trans k2) k3 k4
theorem run_enters {f w} {args:Array Value} (h:enters P f=true):(callFunc f args).run P w=.ok (.enter f args) w:=by
 unfold enters at h
 split at h
 · rename_i fn hf
   simp only [Bool.and_eq_true] at h
   have hq : ¬ fn.name = "runtime.NumGoroutine" := by intro q; have := h.2; simp [notNG, q] at this
   have hbn:¬ fn.body=none:=by intro q;have:=h.1;simp [q] at this
   simp [callFunc,hf,hq,hbn]
 · cases h
theorem kloopG_sound {w0} {c:Code} {f:List Value→AHeap→List Nat→KontG→Prop}
  (hf:∀ {ds s H w sl a Q m} {k:KontG},WRel w0 s H w→@ARel ⟨ds,none⟩ s H sl a→MarkRel s H m ds→f sl H m k→(∀ e sl' H' m',k e sl' H' m'→GPost w0 s H Q e sl' H' m')→c.wpIn Fence.wide 0 P Q a w) (n:Nat)
  {ds s H w sl a Q m} {k:KontG} (h:WRel w0 s H w) (ha:@ARel ⟨ds,none⟩ s H sl a) (hm:MarkRel s H m ds) (hr:kloopG f n sl H m k) (hq:∀ e sl' H' m',k e sl' H' m'→GPost w0 s H Q e sl' H' m'):(Code.loop c).wpIn Fence.wide 0 P Q a w:=by
 refine wpIn_loop_ghost (fun n a w=>∃ ds1 s1 H1 sl1 m1,WRel w0 s1 H1 w∧@ARel ⟨ds1,none⟩ s1 H1 sl1 a∧MarkRel s1 H1 m1 ds1∧kloopG f n sl1 H1 m1 k∧Ext s H s1 H1) n ⟨ds,s,H,sl,m,h,ha,hm,hr,Ext.refl _ _⟩ ?_
 rintro n a w ⟨ds1,s1,H1,sl1,m1,h1,ha1,hm1,hr1,he⟩
 cases n with
 | zero=>cases hr1
 | succ n =>
   simp only [kloopG] at hr1
   refine hf h1 ha1 hm1 hr1 ?_
   intro e sl' H' m' hk s' a' w' ds' g1 g2 g3 g4
   cases e with
   | normal=>exact ⟨n,by omega,ds',s',H',sl',m',g1,g3,g4,hk,he.trans g2⟩
   | exit id=>exact hq _ _ _ _ hk s' a' w' ds' g1 (he.trans g2) g3 g4
   | ret=>exact hq _ _ _ _ hk s' a' w' ds' g1 (he.trans g2) g3 g4
theorem krange_sound {w0 ds s H w sl a Q m g v ps assign body} {k:KontG} (h:WRel w0 s H w) (ha:@ARel ⟨ds,none⟩ s H sl a) (hm:MarkRel s H m ds) (hv:aev sl g=some v) (hr:krange P v sl ps assign body H m k)
  (hq:∀ e sl' H' m',k e sl' H' m'→GPost w0 s H Q e sl' H' m'):(Code.rangeFunc g ps assign body).wpIn Fence.wide 0 P Q a w:=by
 letI:Ctx:=⟨ds,none⟩
 unfold krange at hr
 split at hr
 case h_2=>cases hr
 rename_i f first cap
 obtain ⟨hen,hfs,v0,H',hcall,hend⟩:=hr
 obtain rfl:first = #[]:=Array.eq_empty_of_size_eq_zero hfs
 have r1:=aev_rel ha hv
 generalize hq0:a.eval g=q at r1
 cases r1 with
 | lit _ h=>simp [isLit] at h
 | func _ _ _ first' cap' hy h1 h2 h3 h4 =>
   obtain rfl:first' = #[]:=Array.eq_empty_of_size_eq_zero (by simpa using h1.symm)
   refine wpIn_rangeFunc fun fn _=>?_
   have W1:=h.allocLoop .blk (.deferred (some [])) rfl
   have e1:=Ext.push s H (.loop .blk) ⟨w.heap.size,0,0⟩
   let ob:Obj:=.loop { state:=.ready,pending:=none,fn,tmps:=a.tmps,params:=ps,assign,body,defers:=w.heap.size }
   have W2:=W1.allocLoop (.run sl ps assign body .ready none) ob ⟨fn,a.tmps,w.heap.size,rfl,ha.r.mono e1⟩
   have e2:=Ext.push (upd s H.length ⟨w.heap.size,0,0⟩) (H++[.loop .blk]) (.loop (.run sl ps assign body .ready none)) ⟨(w.alloc (.deferred (some []))).heap.size,0,0⟩
   have hsz:(w.alloc (.deferred (some []))).heap.size=w.heap.size+1:=by simp
   rw [hsz] at W2 e2
   have hlen:(H++[AObj.loop .blk]).length=H.length+1:=by simp
   rw [hlen] at W2 e2
   have happ:H++[AObj.loop .blk]++[AObj.loop (.run sl ps assign body .ready none)]=H++[.loop .blk,.loop (.run sl ps assign body .ready none)]:=by simp
   rw [happ] at W2 e2
   have e12:=e1.trans e2
   refine ⟨w.heap.size+1,[markOf w.heap.size],(w.alloc (.deferred (some []))).alloc ob,{ target:=.fn (.func f) cap',args:=#[.func (.yield (w.heap.size+1)) #[] #[]] },(w.alloc (.deferred (some []))).alloc ob,f,
    #[.func (.yield (w.heap.size+1)) #[] #[]]++cap',(w.alloc (.deferred (some []))).alloc ob,run_enterLoop_outer fn a.tmps ps assign body,?_,fun _ _=>trivial,?_,fun h=>by simp [Fence.wide] at h,?_⟩
   · simp only [resolve,hq0]
     simp [go_sem]
   · simp [invoke,go_sem,run_enters hen]
   · refine callsIn_wide.2 ?_
     have hb:H.length+1 < (H++[AObj.loop .blk,AObj.loop (.run sl ps assign body .ready none)]).length:=by simp
     have hargs:VRelL (upd (upd s H.length ⟨w.heap.size,0,0⟩) (H.length+1) ⟨w.heap.size+1,0,0⟩) (H++[.loop .blk,.loop (.run sl ps assign body .ready none)]) ([yval (H.length+1)]++cap.toList) (#[yval (w.heap.size+1)]++cap').toList:=by
      simp only [Array.toList_append]
      refine VRelL.append (.cons (.yield _ _ hb fun r0 _=>by rw [upd_self]) (.nil _ _)) ?_
      exact VRelL.mono ⟨by simpa using h2,fun i x y hx hy=>h4 i x y (by simpa using hx) (by simpa using hy)⟩ e12
     rcases hcall w0 _ _ _ W2 hargs with ⟨_,hc⟩ | ⟨v',w',hc,_⟩
     case inr=>rw [run_enters hen] at hc;cases hc
     refine hc.mono fun e w3 he=>?_
     obtain ⟨s3,v3,rfl,g1,g2,g3⟩:=he
     unfold rngEnd at hend
     split at hend
     case h_2=>cases hend
     rename_i sl2 ps2 as2 b2 st pe hob
     obtain ⟨hst,hk⟩:=hend
     obtain ⟨_,ob3,hw3,fn3,tmps3,d3,rfl,hsl3⟩:=g1.h.obj _ _ hob
     obtain ⟨r0,hr0,hs3⟩:=(g2.2 _ hb).2.2.2 _ hob
     rw [hs3,upd_self] at hw3
     simp only at hw3
     have hE:=run_endLoop (P:=P) hw3 hst
     refine ⟨pe,_,hE,?_⟩
     have W4:=g1.putLoop (r':=.run sl2 ps2 as2 b2 .exhausted pe) hob (.loop { state:=.exhausted,pending:=pe,fn:=fn3,tmps:=tmps3,params:=ps2,assign:=as2,body:=b2,defers:=d3 }) ⟨fn3,tmps3,d3,rfl,hsl3⟩
     rw [hs3,upd_self] at W4
     simp only at W4
     have e4:=Ext.loop (s:=s3) (r':=.run sl2 ps2 as2 b2 .exhausted pe) hob
     have eAll:=(e12.trans g2).trans e4
     have hds:MarkRel s3 (H'.set (H.length+1) (.loop (.run sl2 ps2 as2 b2 .exhausted pe))) (H.length :: m) (markOf w.heap.size :: ds):=by
      obtain ⟨rs,hd,hrs⟩:=hm
      refine ⟨w.heap.size :: rs,by simp [hd],.cons ?_ (hrs.mono eAll)⟩
      refine VRel.mono (VRel.yield H.length w.heap.size ?_ fun r0 _=>?_) (g2.trans e4)
      · simp
      · rw [upd_ne _ _ (by omega),upd_self]
     have hact:@ARel ⟨markOf w.heap.size :: ds,none⟩ s3 (H'.set (H.length+1) (.loop (.run sl2 ps2 as2 b2 .exhausted pe))) sl { a with defers:=[markOf w.heap.size]++a.defers }:=by
      have hd:a.defers=ds:=ha.d
      refine @ARel.mk ⟨markOf w.heap.size :: ds,none⟩ _ _ _ _ (ha.r.mono eAll) ?_
      show markOf w.heap.size :: a.defers=markOf w.heap.size :: ds
      rw [hd]
     unfold kjump at hk
     split at hk
     · exact hq _ _ _ _ hk _ _ _ _ W4 eAll hact hds
     · exact wpIn_ret (hq _ _ _ _ hk _ _ _ _ W4 eAll hact hds)
     · exact wpIn_exit (hq _ _ _ _ hk _ _ _ _ W4 eAll hact hds)
     · cases hk
theorem kxG_sound {D:DrawK} (hD:∀ c:Ctx,@SoundK c P D) {w0}:∀ (c:Code) {ds s H w sl a Q m} {k:KontG},WRel w0 s H w→@ARel ⟨ds,none⟩ s H sl a→MarkRel s H m ds→kxG P D c sl H m k →
  (∀ e sl' H' m',k e sl' H' m'→GPost w0 s H Q e sl' H' m')→c.wpIn Fence.wide 0 P Q a w:=by
 intro c
 induction c with
 | skip=>intro ds s H w sl a Q m k h ha hm hr hq;exact wpIn_skip (hq _ _ _ _ hr s a w ds h (Ext.refl _ _) ha hm)
 | label l=>intro ds s H w sl a Q m k h ha hm hr hq;exact wpIn_label (hq _ _ _ _ hr s a w ds h (Ext.refl _ _) ha hm)
 | region id ops draw =>
   intro ds s H w sl a Q m k h ha hm hr hq
   cases draw with
   | false =>
     refine wpIn_region ?_
     have:=@kops_sound P ⟨ds,none⟩ w0 ops Q _ ops.toList 0 s H w sl a (fun i o hi=>by simpa using hi) h ha hr (fun sl' H' hk=>fun s' a' w' g1 g2 g3=>hq .normal sl' H' m hk s' a' w' ds g1 g2 g3 (hm.mono g2))
     rw [List.range_eq_range']
     simp only [Array.length_toList] at this
     exact this
   | true=>exact @hD ⟨ds,none⟩ w0 s H w sl a id ops _ Q h ha hr (fun sl' H' hk=>fun s' a' w' g1 g2 g3=>hq .normal sl' H' m hk s' a' w' ds g1 g2 g3 (hm.mono g2))
 | seq x y ihx ihy =>
   intro ds s H w sl a Q m k h ha hm hr hq
   refine wpIn_seq (ihx h ha hm hr ?_)
   intro e sl' H' m' hk s' a' w' ds' g1 g2 g3 g4
   cases e with
   | normal=>exact ihy g1 g3 g4 hk fun e2 sl2 H2 m2 k2=>(hq e2 sl2 H2 m2 k2).later g2
   | exit id=>exact hq _ _ _ _ hk s' a' w' ds' g1 g2 g3 g4
   | ret=>exact hq _ _ _ _ hk s' a' w' ds' g1 g2 g3 g4
 | cond c x y ihx ihy =>
   intro ds s H w sl a Q m k h ha hm hr hq
   simp only [kxG] at hr
   split at hr
   · rename_i v hv
     unfold kif at hr
     split at hr
     · rename_i t
       have hb':=(@aev_rel ⟨ds,none⟩ _ _ _ _ _ _ ha hv).lit_inv rfl
       cases t with
       | true=>exact wpIn_cond_true hb' (ihx h ha hm (by simpa using hr) hq)
       | false=>exact wpIn_cond_false hb' (ihy h ha hm (by simpa using hr) hq)
     · cases hr
   · cases hr
 | block id c ih =>
   intro ds s H w sl a Q m k h ha hm hr hq
   refine wpIn_block (ih h ha hm hr ?_)
   intro e sl' H' m' hk s' a' w' ds' g1 g2 g3 g4
   cases e with
   | normal=>exact hq _ _ _ _ hk s' a' w' ds' g1 g2 g3 g4
   | exit i =>
     simp only [kblkG] at hk
     show Exit.inBlock id Q (.exit i) a' w'
     simp only [Exit.inBlock]
     split at hk
     · rename_i hid;rw [if_pos hid];exact hq _ _ _ _ hk s' a' w' ds' g1 g2 g3 g4
     · rename_i hid;rw [if_neg hid];exact hq _ _ _ _ hk s' a' w' ds' g1 g2 g3 g4
   | ret=>exact hq _ _ _ _ hk s' a' w' ds' g1 g2 g3 g4
 | exit id=>intro ds s H w sl a Q m k h ha hm hr hq;exact wpIn_exit (hq _ _ _ _ hr s a w ds h (Ext.refl _ _) ha hm)
 | ret=>intro ds s H w sl a Q m k h ha hm hr hq;exact wpIn_ret (hq _ _ _ _ hr s a w ds h (Ext.refl _ _) ha hm)
 | loop c ih =>
   intro ds s H w sl a Q m k h ha hm hr hq
   obtain ⟨n,hr⟩:=hr
   exact kloopG_sound (f:=kxG P D c) (fun h ha hm hr hq=>ih h ha hm hr hq) n h ha hm hr hq
 | rangeFunc g ps assign body _ _ =>
   intro ds s H w sl a Q m k h ha hm hr hq
   simp only [kxG] at hr
   split at hr
   · rename_i v hv;exact krange_sound h ha hm hv hr hq
   · cases hr
 | _=>intro ds s H w sl a Q m k h ha hm hr hq;cases hr
def kmarks (k:AHeap→Prop):List Nat→AHeap→Prop
 | [],H=>k H
 | b :: r,H=>H[b]?=some (.loop .blk)∧kmarks k r (H.set b (.loop .gone))
def kfinG (P:Program) (fn:Func) (k:Value→AHeap→Prop):KontG
 | .exit _,_,_,_=>False
 | .normal,sl,H,m=>kmarks (fun H2=>kres P sl H2 fn.results.toList fun l=>k (retV l) H2) m H
 | .ret,sl,H,m=>kmarks (fun H2=>kres P sl H2 fn.results.toList fun l=>k (retV l) H2) m H
def kbodyG (P:Program) (D:DrawK) (fn:Func) (args:List Value) (H:AHeap) (k:Value→AHeap→Prop):Prop:=match fn.body with
 | some c=>kxG P D c (args++List.replicate (fn.ntmps-args.length) undef) H [] (kfinG P fn k)
 | none=>False
theorem kmarks_leave {w0 fn R sl} {k:AHeap→Prop} {tmps:Array Value}:∀ (m:List Nat) {s H w s0 H0 ds},WRel w0 s H w→Ext s0 H0 s H→VRelL s H sl tmps.toList→MarkRel s H m ds→kmarks k m H →
  (∀ s' H' w',WRel w0 s' H' w'→Ext s0 H0 s' H'→VRelL s' H' sl tmps.toList→k H'→∃ v,(results fn tmps).run P w'=.ok v w'∧R (.returned v) w')→LeavesInM Fence.wide 0 P fn tmps R ds .returning w:=by
 intro m
 induction m with
 | nil =>
   intro s H w s0 H0 ds h he ht hm hk hq
   obtain ⟨rs,rfl,hrs⟩:=hm
   have:rs=[]:=by have:=hrs.1;simpa using this.symm
   subst this
   exact hq s H w h he ht hk
 | cons b r ih =>
   intro s H w s0 H0 ds h he ht hm hk hq
   obtain ⟨rs,rfl,hrs⟩:=hm
   cases rs with
   | nil=>have:=hrs.1;simp at this
   | cons x rs =>
     obtain ⟨hb,hk⟩:=hk
     have hx:VRel s H (yval b) (yval x):=hrs.2 0 _ _ rfl rfl
     have hxb:x=(s b).blk:=by
      cases hx with
      | lit _ h=>simp [isLit] at h
      | func _ _ _ _ _ hy=>exact absurd rfl (hy _)
      | yield _ _ _ h=>exact h _ hb
     subst hxb
     obtain ⟨_,ob,hw,rfl⟩:=h.h.obj _ _ hb
     have e:=Ext.loop (s:=s) (r':=.gone) hb
     refine ⟨by simp,.inl ⟨(s b).blk,_,rfl,run_takeDeferred hw,?_⟩⟩
     refine ih (h.putLoop (r':=.gone) hb (.deferred none) trivial) (he.trans e) (ht.mono e) ⟨rs,rfl,?_⟩ hk hq
     refine VRelL.mono ⟨by have:=hrs.1;simpa using this,fun i p q hp hq=>hrs.2 (i+1) p q (by simpa using hp) (by simpa using hq)⟩ e
theorem acallsG_of {D:DrawK} (hD:∀ c:Ctx,@SoundK c P D) {f fn args H v H'} (hf:P.funcs[f]?=some fn) (hn:notNG fn=true) (hr:kbodyG P D fn args H fun u H2=>u=v∧H2=H'):ACalls P f args H v H':=by
 intro w0 s w args' h hargs
 left
 unfold kbodyG at hr
 split at hr
 · rename_i c hb
   constructor
   · have hq : ¬ fn.name = "runtime.NumGoroutine" := by intro q; simp [notNG, q] at hn
     have hbn:¬ fn.body=none:=by rw [hb];simp
     simp [callFunc,hf,hq,hbn]
   · letI:Ctx:=⟨[],none⟩
     refine callsIn_wide.1 (callsIn_of_wp_marks (F:=Fence.wide) (n:=0) hf hb trivial ?_ rfl)
     have hal:args.length=args'.size:=by have:=hargs.1;simpa using this
     have ha:ARel s H (args++List.replicate (fn.ntmps-args.length) undef) { tmps:=args'++Array.replicate (fn.ntmps-args'.size) undef,defers:=[] }:=by
      refine ⟨?_,rfl⟩
      simp only [Array.toList_append,Array.toList_replicate,hal]
      refine hargs.append ⟨by simp,fun i x y hx hy=>?_⟩
      rw [List.getElem?_replicate] at hx hy
      split at hx
      · rename_i hi
        rw [if_pos hi] at hy
        cases hx;cases hy
        exact undef_rel _ _
      · cases hx
     refine kxG_sound hD c h ha ⟨[],rfl,.nil _ _⟩ hr ?_
     have fin:∀ {sl' H2 m' s' a' w' ds'},WRel w0 s' H2 w'→Ext s H s' H2→@ARel ⟨ds',none⟩ s' H2 sl' a'→MarkRel s' H2 m' ds'→kmarks (fun H2=>kres P sl' H2 fn.results.toList fun l=>retV l=v∧H2=H') m' H2 →
       LeavesInM Fence.wide 0 P fn a'.tmps (AEnd w0 s H v H') a'.defers .returning w':=by
      intro sl' H2 m' s' a' w' ds' g1 g2 g3 g4 hk
      have hd:a'.defers=ds':=@ARel.d ⟨ds',none⟩ _ _ _ _ g3
      rw [hd]
      refine kmarks_leave m' g1 g2 (@ARel.r ⟨ds',none⟩ _ _ _ _ g3) g4 hk ?_
      intro s5 H5 w5 q1 q2 q3 q4
      obtain ⟨l,h1,rfl,rfl⟩:=kres_sound _ q4
      obtain ⟨v',k1,k2⟩:=run_ret (P:=P) (a:={ tmps:=a'.tmps,defers:=[] }) fn q1.h ⟨q3,rfl⟩ (aRet_of h1)
      exact ⟨v',k1,s5,v',rfl,q1,q2,k2⟩
     intro e sl' H2 m' hk s' a' w' ds' g1 g2 g3 g4
     cases e with
     | exit i=>cases hk
     | normal=>exact fin g1 g2 g3 g4 hk
     | ret=>exact fin g1 g2 g3 g4 hk
 · cases hr
def yput (sl:List Value):List Tmp→List Value→List Value
 | t :: ts,v :: vs=>yput (sl.set t v) ts vs
 | _,_=>sl
def jumpOf:AExit→Option Code
 | .normal=>none
 | .exit id=>some (.exit id)
 | .ret=>some .ret
def kround (P:Program) (b:Nat) (args:List Value) (H:AHeap) (k:Value→AHeap→Prop):Prop:=match H[b]? with
 | some (.loop (.run sl ps assign body .ready pe))=>args.length=ps.size∧kx P assign (yput sl ps.toList args) H fun e sl1 H1=>e=.normal∧H1[b]?=some (.loop (.run sl ps assign body .ready pe)) ∧
   kx P body sl1 (H1.set b (.loop (.run sl ps assign body .busy pe))) fun e _ H2=>H2[b]?=some (.loop (.run sl ps assign body .busy pe)) ∧
    k (.bool (jumpOf e).isNone) (H2.set b (.loop (.run sl ps assign body (if (jumpOf e).isNone then .ready else .done) (jumpOf e))))
 | _=>False
theorem yput_rel {s H}:∀ (ts:List Tmp) {sl:List Value} {tmps:Array Value} {vs:List Value} {ws:List Value},VRelL s H sl tmps.toList→VRelL s H vs ws →
  VRelL s H (yput sl ts vs) ((ts.zip ws).foldl (fun (t:Array Value) (p:Tmp × Value)=>t.setIfInBounds p.1 p.2) tmps).toList:=by
 intro ts
 induction ts with
 | nil=>intro sl tmps vs ws h _;cases vs<;>simpa [yput] using h
 | cons t ts ih =>
   intro sl tmps vs ws h hv
   cases vs with
   | nil =>
     have:ws=[]:=by have:=hv.1;simpa using this.symm
     subst this
     simpa [yput] using h
   | cons v vs =>
     cases ws with
     | nil=>have:=hv.1;simp at this
     | cons w ws =>
       simp only [yput,List.zip_cons_cons,List.foldl_cons]
       refine ih ?_ ⟨by have:=hv.1;simpa using this,fun i x y hx hy=>hv.2 (i+1) x y (by simpa using hx) (by simpa using hy)⟩
       simpa using h.set (hv.2 0 v w rfl rfl) t
theorem ayields_of (hm:P.follows .mixedOrders=true) {b args H v H'} (hr:kround P b args H fun u H2=>u=v∧H2=H'):AYields P b args H v H':=by
 intro w0 s w args' h hargs
 unfold kround at hr
 split at hr
 case h_2=>cases hr
 rename_i sl ps assign body pe hb
 obtain ⟨hlen,hr⟩:=hr
 obtain ⟨_,ob,hw,fn,tmps,d,rfl,hsl⟩:=h.h.obj _ _ hb
 have hal:args.length=args'.size:=by have:=hargs.1;simpa using this
 have hy:=run_yield (P:=P) (args:=args') hw (by rw [← hal];exact hlen)
 refine ⟨_,_,_,_,hy,roundIn_of_wpIn (F:=Fence.wide) trivial ?_⟩
 letI:Ctx:=⟨[],some (s b).blk⟩
 have ha:ARel s H (yput sl ps.toList args) { tmps:=(ps.zip args').foldl (fun t (p:Tmp × Value)=>t.setIfInBounds p.1 p.2) tmps,defers:=[] }:=by
  refine ⟨?_,rfl⟩
  have:=yput_rel (s:=s) (H:=H) ps.toList (sl:=sl) (tmps:=tmps) (vs:=args) (ws:=args'.toList) hsl hargs
  rw [← Array.foldl_toList,Array.toList_zip]
  exact this
 refine kx_sound hm assign h ha hr ?_
 rintro e sl1 H1 ⟨rfl,hb1,hr1⟩ s1 a1 w1 g1 g2 g3
 have hs1:s1 b=s b:=by
  obtain ⟨_,_,e⟩:=(g2.2 b (List.getElem?_eq_some_iff.1 hb).1).2.2.2 _ hb1
  exact e
 obtain ⟨_,ob1,hw1,fn1,tmps1,d1,rfl,hsl1⟩:=g1.h.obj _ _ hb1
 rw [hs1] at hw1
 refine ⟨_,run_beginRound hw1 rfl,?_⟩
 have W2:=g1.putLoop (r':=.run sl ps assign body .busy pe) hb1 (.loop { state:=.busy,pending:=pe,fn:=fn1,tmps:=tmps1,params:=ps,assign:=assign,body:=body,defers:=d1 }) ⟨fn1,tmps1,d1,rfl,hsl1⟩
 rw [hs1] at W2
 have e2:=Ext.loop (s:=s1) (r':=.run sl ps assign body .busy pe) hb1
 refine kx_sound hm body W2 (g3.mono e2) hr1 ?_
 rintro e sl2 H2 ⟨hb2,rfl,rfl⟩ s2 a2 w2 k1 k2 k3
 have e12:=(g2.trans e2).trans k2
 have hs2:s2 b=s b:=by
  obtain ⟨_,_,e⟩:=(e12.2 b (List.getElem?_eq_some_iff.1 hb).1).2.2.2 _ hb2
  exact e
 obtain ⟨_,ob2,hw2,fn2,tmps2,d2,rfl,hsl2⟩:=k1.h.obj _ _ hb2
 rw [hs2] at hw2
 have hE:=run_endRound (P:=P) (jumpOf e) hw2
 have W3:=k1.putLoop (r':=.run sl ps assign body (if (jumpOf e).isNone then .ready else .done) (jumpOf e)) hb2 (.loop { state:=if (jumpOf e).isNone then .ready else .done,pending:=jumpOf e,fn:=fn2,tmps:=tmps2,params:=ps,assign:=assign,body:=body,defers:=d2 }) ⟨fn2,tmps2,d2,rfl,hsl2⟩
 rw [hs2] at W3
 have e3:=Ext.loop (s:=s2) (r':=.run sl ps assign body (if (jumpOf e).isNone then .ready else .done) (jumpOf e)) hb2
 cases e with
 | normal=>exact ⟨_,_,hE,s2,_,rfl,W3,e12.trans e3,.lit _ rfl⟩
 | exit id=>exact ⟨_,_,hE,s2,_,rfl,W3,e12.trans e3,.lit _ rfl⟩
 | ret=>exact ⟨_,_,hE,s2,_,rfl,W3,e12.trans e3,.lit _ rfl⟩
end Go.Vi
namespace Go.Vi
open Go Go.Proofs Go.ChangeShapes Go.RowKit
theorem callsT_of {P:Program} {f:FuncId} {args:List Value} {args':Array Value} {H H':AHeap} {W:World} {s:Ren} (h:ACalls P f args H (.bool true) H') (hent:enters P f=true) (hw:WRel W s H W) (ha:VRelL s H args args'.toList) :
  Calls P f args' W (fun e W'=>e=.returned (.bool true)∧Below W.heap.size W W'):=by
 rcases h W s W args' hw ha with ⟨_,h⟩ | ⟨v',w',h,_⟩
 · refine h.mono fun e W' hq=>?_
   obtain ⟨s',v',rfl,h1,_,h3⟩:=hq
   have:=h3.lit_inv rfl
   subst this
   exact ⟨rfl,h1.b⟩
 · rw [run_enters hent] at h
   cases h
theorem trodAll_below {H:Type} {enc:TypeId × Value→H} {P:Program} (hl:laidOutB P=true) {W W':World} (hb:Below W.heap.size W W') :
  ∀ (ts : List TypeId) (vs : List Value) (ds : List (DataW H)) (ps : List MemPlace), (ts.all fun t => P.readableRec t && decide (t < P.types.size)) = true →
    DataW.TrodAll enc P W 0 (fun _=>true) true ts vs ds ps→(∀ x∈ps,x.block < W.heap.size)→DataW.TrodAll enc P W' 0 (fun b=>decide (b < W.heap.size)) true ts vs ds ps:=by
 intro ts
 induction ts with
 | nil =>
   intro vs ds ps _ h _
   cases vs<;>cases ds<;>exact h
 | cons t ts ih =>
   intro vs ds ps hr h hlt
   cases vs with
   | nil=>cases h
   | cons v vs => cases ds with
     | nil=>cases h
     | cons d ds =>
       obtain ⟨p,q,h1,h2,rfl⟩:=h
       simp only [List.all_cons,Bool.and_eq_true,decide_eq_true_eq] at hr
       exact ⟨p,q,Below.trod hl hr.1.1 hr.1.2 h1 hb (fun x hx=>hlt x (by simp [hx])),ih vs ds q (by simpa using hr.2) h2 (fun x hx=>hlt x (by simp [hx])),rfl⟩
theorem post_true {H:Type} {enc:TypeId × Value→H} {P:Program} {f:Func} {s:ChangeSpec} {tb:TypeId} {fresh handsOn:Bool} {W W':World} {args:Array Value} {ds:List (DataW H)} {ps:List MemPlace}
  (hW:DataW.Whole enc P f.params.toList s.vars false W args.toList ds [] ps) (hv:s.vars=[]) (hf:s.fn H (ds++[]) = { results:=[.lit (.bool true)],args:=ds }) (hr:f.resultTypes = #[tb]) (hu:P.underlying tb=some .bool)
  (hl:laidOutB P=true) (hp:(f.params.toList.all fun t=>P.readableRec t && decide (t < P.types.size))=true) (hb:Below W.heap.size W W'):s.post enc P f false fresh handsOn false W args (.bool true) W':=by
 have hlt:=hW.lt
 have hW':=hW
 obtain ⟨p,q,h1,h2,rfl,_,_⟩:=hW
 rw [hv] at h2
 obtain ⟨_,rfl⟩:=trodVars_none h2
 refine ⟨ds,[],p++[],[],p,[],hW',?_,?_,?_,Below.frame hb _,fun h=>by cases h⟩
 · rw [hf,hr]
   exact trodAll_mk1 (shut_bool hu true)
 · rw [hf]
   exact trodAll_below hl hb _ _ _ _ hp h1 (fun x hx=>hlt x (by simp [hx]))
 · rw [hf,hv]
   rfl
end Go.Vi
namespace Go.Vi
open Go.RowKit
variable {P:Program}
theorem acalls_native {f fn e args H v H'} (hf:P.funcs[f]?=some fn) (hb:fn.body.isNone=true) (hn:notNG fn=true) (hx:(Extern.findNext fn).isNone=true) (he:Extern.find fn=some e)
  (hrun:∀ (w0:World) (s:Ren) (w:World) (args':Array Value),WRel w0 s H w→VRelL s H args args'.toList→∃ v' w',(e args').run P w=.ok v' w'∧AEnd w0 s H v H' (.returned v') w'):ACalls P f args H v H':=by
 intro w0 s w args' h hargs
 right
 obtain ⟨v',w',h1,h2⟩:=hrun w0 s w args' h hargs
 refine ⟨v',w',?_,h2⟩
 have hq : ¬ fn.name = "runtime.NumGoroutine" := by intro q; simp [notNG, q] at hn
 have hb':fn.body=none:=by simpa using hb
 have hx':Extern.findNext fn=none:=by simpa using hx
 simp [callFunc,hf,hq,hb',hx',he,h1]
theorem acalls_noEscape {f fn v H} (hf:P.funcs[f]?=some fn) (hb:fn.body.isNone=true) (hn:notNG fn=true) (hx:(Extern.findNext fn).isNone=true) (he:Extern.find fn=some Extern.AbiNoEscape.same):ACalls P f [v] H v H:=by
 refine acalls_native hf hb hn hx he fun w0 s w args' h hargs=>?_
 match hm:args'.toList,hargs with
 | [v'], hargs =>
   have:args' = #[v']:=by rw [← Array.toArray_toList (xs:=args'),hm]
   subst this
   exact ⟨v',w,rfl,s,v',rfl,h,Ext.refl _ _,hargs.2 0 _ _ rfl rfl⟩
 | [],hargs=>have:=hargs.1;simp at this
 | _ :: _ :: _,hargs=>have:=hargs.1;simp at this
theorem acalls_indexByte {f fn H} {st:ByteArray} {c:Int} (hf:P.funcs[f]?=some fn) (hb:fn.body.isNone=true) (hn:notNG fn=true) (hx:(Extern.findNext fn).isNone=true) (he:Extern.find fn=some Extern.BytealgIndexByte.indexByte) :
  ACalls P f [.string st,.int .u8 c] H (.int .i64 (Lib.indexByte st.data.toList c.toNat.toUInt8)) H:=by
 refine acalls_native hf hb hn hx he fun w0 s w args' h hargs=>?_
 match hm:args'.toList,hargs with
 | [a', b'], hargs =>
   have e1:=(hargs.2 0 _ _ rfl rfl).lit_inv rfl
   have e2:=(hargs.2 1 _ _ rfl rfl).lit_inv rfl
   have:args' = #[a',b']:=by rw [← Array.toArray_toList (xs:=args'),hm]
   subst e1 e2 this
   exact ⟨_,w,Lib.run_indexByteString st c w,s,_,rfl,h,Ext.refl _ _,.lit _ rfl⟩
 | [],hargs=>have:=hargs.1;simp at this
 | [_],hargs=>have:=hargs.1;simp at this
 | _ :: _ :: _ :: _,hargs=>have:=hargs.1;simp at this
theorem digits_one:∀ (n t:Nat) (acc:Array Value),(∀ v∈acc,v.oneCell'=true)→∀ v∈Extern.BytealgMakeNoZero.digits n t acc,v.oneCell'=true
 | 0,_,_,h=>h
 | n + 1, t, acc, h => by
   rw [Extern.BytealgMakeNoZero.digits]
   refine digits_one n _ _ fun v hv=>?_
   rw [Array.mem_push] at hv
   rcases hv with hv | rfl
   · exact h v hv
   · rfl
theorem run_mnz (w:World) (ps:Array TypeId) (t e:TypeId) (ht:P.underlying t=some (.slice e)) (n:Nat) (hn:n≤281474976710656) :
  ∃ cs:Array Value,(Extern.BytealgMakeNoZero.makeNoZero ps #[t] #[.int .i64 n]).run P w=.ok (.slice (some ⟨w.heap.size,0,none⟩) n cs.size) (w.drew.drew.alloc (.cells cs e))∧n≤cs.size∧∀ v∈cs,v.oneCell'=true:=by
 have hdef:Extern.BytealgMakeNoZero.makeNoZero ps #[t] #[.int .i64 n] =
   (do
    let .slice elem ← underlying t | stuck "bytealg.MakeNoZero: slice type expected"
    if (n : Int) < 0 || (n : Int) > 2 ^ 48 then runtimePanic (.error "makeslice: len out of range")
    let cap ← choose (.appendCap (n:Int).toNat 0 elem)
    askRoom cap
    let bytes ← choose (.extern "internal/bytealg.MakeNoZero.bytes" 0)
    let a ← newRow elem (Extern.BytealgMakeNoZero.digits cap bytes #[])
    pure (.slice (some a) (n:Int).toNat cap)):=rfl
 refine ⟨Extern.BytealgMakeNoZero.digits (grownCap w n 0 e) ((Question.extern "internal/bytealg.MakeNoZero.bytes" 0).cut (w.tape (w.drawn + 1) (.extern "internal/bytealg.MakeNoZero.bytes" 0))) #[], ?_, ?_, ?_⟩
 · rw [hdef]
   have h1:¬ (n:Int) < 0:=by omega
   have h2:¬ (281474976710656:Int) < (n:Int):=by omega
   simp [run_underlying ht,h1,h2,Question.forced,newRow,Lib.size_digits,grownCap]
 · rw [Lib.size_digits]
   simpa using grownCap_ge w n 0 e
 · exact digits_one _ _ _ (by simp)
theorem acalls_makeNoZero {f fn t e H} {n:Int} (h0:0 < n) (hn48:n≤281474976710656) (hu:P.underlying t=some (.slice e)) (hf:P.funcs[f]?=some fn) (hb:fn.body.isNone=true) (hn:notNG fn=true) (hx:(Extern.findNext fn).isNone=true)
  (he:∃ ps,Extern.find fn=some (Extern.BytealgMakeNoZero.makeNoZero ps #[t])) :
  ACalls P f [.int .i64 n] H (.slice (some ⟨H.length,0,some n.toNat⟩) n.toNat n.toNat) (H++[.cells (List.replicate n.toNat unkV) e]):=by
 obtain ⟨ps,he⟩:=he
 refine acalls_native hf hb hn hx he fun w0 s w args' h hargs=>?_
 match hm:args'.toList,hargs with
 | [a'], hargs =>
   have e1:=(hargs.2 0 _ _ rfl rfl).lit_inv rfl
   have:args' = #[a']:=by rw [← Array.toArray_toList (xs:=args'),hm]
   subst e1 this
   obtain ⟨cs,hrun,hle,hone⟩:=run_mnz (P:=P) w ps t e hu n.toNat (by omega)
   have hn':((n.toNat:Nat):Int)=n:=by omega
   rw [hn'] at hrun
   have W:=h.drew.drew.allocBig (List.replicate n.toNat unkV) cs e (by simpa using hle) (fun j v hj=>by
    rw [List.getElem?_replicate] at hj
    split at hj
    · rename_i hlt
      cases hj
      have:j < cs.size:=by omega
      exact ⟨cs[j],Array.getElem?_eq_getElem this,.unk _ (hone _ (Array.getElem_mem _))⟩
    · cases hj) (by intro v hv;rw [List.mem_replicate] at hv;rw [hv.2];rfl)
   refine ⟨_,_,hrun,_,_,rfl,W,Ext.push _ _ _ _,?_⟩
   refine .slice _ _ _ _ _ _ _ (by simp) fun L hL=>?_
   have hL':L=n.toNat:=by simp [hlen,AObj.len] at hL;omega
   subst hL'
   refine ⟨Nat.le_refl _,fun _=>⟨fun _=>by rw [upd_self];rfl,Nat.le_refl _,hle,fun cs2 T hc=>⟨fun q=>by omega,fun sz hsz=>?_⟩⟩⟩
   rw [upd_self]
   have hsz':sz=1:=by
    have:n.toNat*sz=n.toNat*1:=by omega
    exact Nat.eq_of_mul_eq_mul_left (by omega) this
   subst hsz'
   simp
 | [],hargs=>have:=hargs.1;simp at this
 | _ :: _ :: _,hargs=>have:=hargs.1;simp at this
def bldV (z:Array Value) (pl:List (Nat × Nat)) (l:List (Nat × Value)):Option Value:=if allStor l=true then (Instr.fill (pl[·]?) z l).map .agg else none
def bslV (e:TypeId) (zs:Array Value) (H:AHeap) (n:Nat) (l:List (Nat × Value)):Option (Value × AHeap) :=
 if n*zs.size≤16777216 then match Instr.fill (fun i=>some (i*zs.size,zs.size)) (repCells zs (n*zs.size)) l with
  | some cs=>if cs.size=n*zs.size∧cs.toList.all (·.oneCell')=true then some (.slice (some ⟨H.length,0,some cs.size⟩) n n,H++[.cells cs.toList e]) else none
  | none=>none
 else none
@[simp] theorem put1 (v:Value) (off:Nat) (cells:Array Value):(#[v]:Array Value).zipIdx.foldl (fun (cs:Array Value) (p:Value × Nat)=>cs.setIfInBounds (off+p.2) p.1) cells=cells.setIfInBounds off v:=rfl
@[simp] theorem cells_bool (b:Bool):Value.cells (.bool b) = #[.bool b]:=rfl
@[simp] theorem one_bool (b:Bool):Value.oneCell' (.bool b)=true:=rfl
@[simp] theorem stor_bool (b:Bool):storable (.bool b)=true:=rfl
@[simp] theorem cells_int (k:IntKind) (n:Int):Value.cells (.int k n) = #[.int k n]:=rfl
@[simp] theorem one_int (k:IntKind) (n:Int):Value.oneCell' (.int k n)=true:=rfl
@[simp] theorem stor_int (k:IntKind) (n:Int):storable (.int k n)=true:=rfl
@[simp] theorem cells_string (s:ByteArray):Value.cells (.string s) = #[.string s]:=rfl
@[simp] theorem one_string (s:ByteArray):Value.oneCell' (.string s)=true:=rfl
@[simp] theorem stor_string (s:ByteArray):storable (.string s)=true:=rfl
@[simp] theorem cells_ptr (p:Option Addr):Value.cells (.pointer p) = #[.pointer p]:=rfl
@[simp] theorem one_ptr (p:Option Addr):Value.oneCell' (.pointer p)=true:=rfl
@[simp] theorem stor_ptr (p:Option Addr):storable (.pointer p)=true:=rfl
@[simp] theorem cells_slice (p:Option Addr) (n c:Nat):Value.cells (.slice p n c) = #[.slice p n c]:=rfl
@[simp] theorem one_slice (p:Option Addr) (n c:Nat):Value.oneCell' (.slice p n c)=true:=rfl
@[simp] theorem stor_slice (p:Option Addr) (n c:Nat):storable (.slice p n c)=true:=rfl
@[simp] theorem cells_map (p:Option Nat):Value.cells (.map p) = #[.map p]:=rfl
@[simp] theorem one_map (p:Option Nat):Value.oneCell' (.map p)=true:=rfl
@[simp] theorem stor_map (p:Option Nat):storable (.map p)=true:=rfl
@[simp] theorem cells_func (f:Fn) (a c:Array Value):Value.cells (.func f a c) = #[.func f a c]:=rfl
@[simp] theorem one_func (f:Fn) (a c:Array Value):Value.oneCell' (.func f a c)=true:=rfl
@[simp] theorem stor_func (f:Fn) (a c:Array Value):storable (.func f a c)=true:=rfl
@[simp] theorem cells_nilFunc :Value.cells (.nilFunc) = #[.nilFunc]:=rfl
@[simp] theorem one_nilFunc :Value.oneCell' (.nilFunc)=true:=rfl
@[simp] theorem stor_nilFunc :storable (.nilFunc)=true:=rfl
@[simp] theorem cells_nilIface :Value.cells (.nilIface) = #[.nilIface]:=rfl
@[simp] theorem one_nilIface :Value.oneCell' (.nilIface)=true:=rfl
@[simp] theorem stor_nilIface :storable (.nilIface)=true:=rfl
@[simp] theorem cells_iface (t:TypeId) (v:Value):Value.cells (.iface t v) = #[.iface t v]:=rfl
@[simp] theorem one_iface (t:TypeId) (v:Value):Value.oneCell' (.iface t v)=true:=rfl
@[simp] theorem stor_iface (t:TypeId) (v:Value):storable (.iface t v)=true:=rfl
@[simp] theorem cells_agg (a:Array Value):Value.cells (.agg a)=a:=rfl
@[simp] theorem stor_agg (a:Array Value):storable (.agg a)=a.toList.all (·.oneCell'):=rfl
theorem stor_one {v:Value} (h:v.oneCell'=true):storable v=true:=by cases v<;>simp_all [storable,Value.oneCell']
theorem cells_one {v:Value} (h:v.oneCell'=true):v.cells = #[v]:=by cases v<;>simp_all [Value.cells,Value.oneCell']
attribute [simp] Instr.fill allStor bldV
def mput (k x:Value) (es:List (Value × Value)):List (Value × Value):=match mfind k es with
 | some j=>es.set j (k,x)
 | none=>es++[(k,x)]
def mget (k:Value) (es:List (Value × Value)):Option Value:=(mfind k es).bind fun j=>(es[j]?).map (·.2)
def mapOf (o:Option AObj):Option (List (Value × Value)):=match o with
 | some (.map es)=>some es
 | _=>none
@[simp] theorem mapOf_map {es}:mapOf (some (.map es))=some es:=rfl
def mres (x:Option Value) (z:Value) (ok:Bool):Value:=match x with
 | some x=>if ok then .tuple #[x,.bool true] else x
 | none=>if ok then .tuple #[z,.bool false] else z
@[simp] theorem mres_some {x z ok}:mres (some x) z ok=if ok=true then .tuple #[x,.bool true] else x:=by cases ok<;>rfl
@[simp] theorem mres_none {z ok}:mres none z ok=if ok=true then .tuple #[z,.bool false] else z:=by cases ok<;>rfl
@[simp] theorem aUpdate_map {H t b k x}:aUpdate P H t (.map (some b)) k x=(mtype P t).bind fun q=>(mapOf (H[b]?)).bind fun es=>if keyOk q.1 k=true∧mOk q.1 es=true then some (H.set b (.map (mput k x es))) else none:=by
 unfold aUpdate mapOf mput
 cases mtype P t with
 | none=>rfl
 | some q =>
   obtain ⟨d,e⟩:=q
   simp only [Option.bind_some]
   cases hb:H[b]? with
   | none=>rfl
   | some o=>cases o<;>rfl
@[simp] theorem aLookup_map {H t b k ok}:aLookup P H t (.map (some b)) k ok=(mtype P t).bind fun q=>if keyOk q.1 k=true then (mapOf (H[b]?)).bind fun es=>if mOk q.1 es=true then
  (match mget k es with
   | some x=>some (mres (some x) undef ok)
   | none=>(tzero P q.2).bind fun z=>if cok z=true then some (mres none z ok) else none) else none else none:=by
 unfold aLookup mapOf mget
 cases mtype P t with
 | none=>rfl
 | some q =>
   obtain ⟨d,e⟩:=q
   simp only [Option.bind_some]
   split
   · cases hb:H[b]? with
     | none=>rfl
     | some o =>
       cases o with
       | map es =>
         simp only [Option.bind_some]
         split
         · cases hf:mfind k es with
           | none =>
             simp only [Option.bind_none]
             cases tzero P e with
             | none=>rfl
             | some z=>simp only [Option.bind_some,mres]
           | some j =>
             obtain ⟨k',y,h1,h2⟩:=mfind_lt hf
             simp [h1,mres]
         · rfl
       | _=>rfl
   · rfl
end Go.Vi
namespace Go.Vi
open Go.RowKit
variable {P:Program}
abbrev str (l:List UInt8):Value:=.string ⟨l.toArray⟩
abbrev byt (b:UInt8):Value:=.int .u8 (b.toNat:Int)
abbrev i64 (n:Int):Value:=.int .i64 n
attribute [simp] putCells_all aLen_slice aLen_string
@[simp] theorem putCells_single {cs:List Value} {o:Nat} {v:Value}:putCells cs o [v]=cs.set o v:=rfl
theorem set_same {α:Type} {l:List α} {i:Nat} {x:α} (h:l[i]?=some x):l.set i x=l:=by
 obtain ⟨h1,rfl⟩:=List.getElem?_eq_some_iff.1 h
 exact List.set_getElem_self h1
theorem bndG_call {b want:Bool} {H:AHeap} {e q:QH} (v:Value) (h:b=want→e.f v H) (k:q.f (gsel b want v undef) H):@bndG (.bool b) want H e q:=by
 refine ⟨gsel b want v undef,H,?_,k⟩
 unfold gifp gsel
 by_cases hb:b=want
 · simp only [hb,beq_self_eq_true,if_true];exact h hb
 · simp [hb]
theorem bndD_of {b:Bool} {H:AHeap} {e q:QH} {v:Value} {H':AHeap} (h:e.f v H') (hb:b=true∨∃ X,H'=H++X) (k:q.f v H'):@bndD b H e q:=⟨v,H',h,hb,k⟩
theorem bndD_same {b:Bool} {H:AHeap} {e q:QH} {v:Value} (h:e.f v H) (k:q.f v H):@bndD b H e q:=⟨v,H,h,.inr ⟨[],by simp⟩,k⟩
theorem bndV_func {f:FuncId} {first cap:Array Value} {args:List Value} {H:AHeap} {q:QH} {v:Value} {H':AHeap} (h:ACalls P f (first.toList++args++cap.toList) H v H') (k:q.f v H'):@bndV P (.func (.func f) first cap) args H q :=
 ⟨v,H',h,k⟩
theorem bndV_yield {b:Nat} {args:List Value} {H:AHeap} {q:QH} {v:Value} {H':AHeap} (hr:∃ r,H[b]?=some (.loop r)) (h:AYields P b args H v H') (k:q.f v H'):@bndV P (yval b) args H q :=
 ⟨v,H',⟨hr,by simpa using h⟩,k⟩
@[simp] theorem bndG_ft {H:AHeap} {e q:QH}:@bndG (.bool false) true H e q=q.f undef H:=by
 apply propext
 constructor
 · rintro ⟨v,H',h,k⟩
   simp only [gifp_ft] at h
   obtain ⟨rfl,rfl⟩:=h
   exact k
 · intro k;exact ⟨undef,H,by simp [gifp],k⟩
@[simp] theorem bndG_tf {H:AHeap} {e q:QH}:@bndG (.bool true) false H e q=q.f undef H:=by
 apply propext
 constructor
 · rintro ⟨v,H',h,k⟩
   simp only [gifp_tf] at h
   obtain ⟨rfl,rfl⟩:=h
   exact k
 · intro k;exact ⟨undef,H,by simp [gifp],k⟩
@[simp] theorem bndE_none {q:QH}:@bndE none q=False:=by simp [bndE]
@[simp] theorem size_mk (l:List UInt8):(⟨l.toArray⟩:ByteArray).size=l.length:=rfl
@[simp] theorem aLen_str {H T} {l:List UInt8} (hu:P.underlying T=some .string):aLen P H T (str l)=some (i64 l.length):=by simp [aLen,hu]
theorem aIndex_str {T k} {l:List UInt8} {i:Int} (hu:P.underlying T=some .string):aIndex P T (str l) (.int k i)=if 0≤i then (l[i.toNat]?).map byt else none:=by
 simp [aIndex,hu]
theorem aIndex_at {T k} {l:List UInt8} {i:Nat} {b:UInt8} (hu:P.underlying T=some .string) (h:l[i]?=some b):aIndex P T (str l) (.int k i)=some (byt b):=by
 rw [aIndex_str hu,if_pos (by omega),Int.toNat_natCast,h];rfl
theorem extract_str (l:List UInt8) (a b:Nat):(⟨l.toArray⟩:ByteArray).extract a b=⟨((l.take b).drop a).toArray⟩:=by
 apply ByteArray.ext
 rw [ByteArray.data_extract,List.extract_toArray]
 simp [List.drop_take]
theorem aSliceOp_str {H T} {l:List UInt8} {lo hi:Option Value} {a b:Int} (hu:P.underlying T=some .string) (ha:aLow lo=some a) (hb:aHigh l.length hi=some b) (h0:0≤a) (h1:a≤b) (h2:b≤l.length) :
  aSliceOp P H T (str l) lo hi=some (str ((l.take b.toNat).drop a.toNat)):=by
 have hs:(⟨l.toArray⟩:ByteArray).size=l.length:=rfl
 simp only [aSliceOp,hu,ha,hs,hb]
 rw [if_pos ⟨h0,h1,h2⟩,extract_str]
theorem str_append (a b:List UInt8):(⟨a.toArray⟩:ByteArray)++⟨b.toArray⟩=⟨(a++b).toArray⟩:=by
 apply ByteArray.ext
 simp [ByteArray.data_append]
theorem aBin_str {H T x y} {a b:List UInt8} (h:a.length+b.length < 2 ^ 63):aBin2 P H .add T x y (str a) (str b)=some (str (a++b)):=by
 apply aBin2_of
 have:=aBin_cat (P:=P) H T x y ⟨a.toArray⟩ ⟨b.toArray⟩ (by simpa using h)
 unfold aBin2 at this
 cases hq:aBin P .add T x y (str a) (str b) with
 | none =>
   rw [hq] at this
   simp [aPtrEq] at this
 | some r =>
   rw [hq] at this
   cases this
   rw [str_append]
@[simp] theorem str_eqd (a b:List UInt8):decide ((⟨a.toArray⟩:ByteArray)=⟨b.toArray⟩)=decide (a=b):=by simp
@[simp] theorem wrap_lit0:IntKind.i64.wrap 0=0:=rfl
@[simp] theorem wrap_succ {n:Nat} (h:n+1 < 2 ^ 63):IntKind.i64.wrap ((n:Int)+1)=((n+1:Nat):Int):=by
 rw [wrap_i64 (by omega) (by omega)];rfl
def Pre (H K:AHeap):Prop:=∃ X,K=H++X
theorem Pre.refl (H:AHeap):Pre H H:=⟨[],by simp⟩
theorem Pre.trans {H K L:AHeap} (h:Pre H K) (k:Pre K L):Pre H L:=by
 obtain ⟨X,rfl⟩:=h;obtain ⟨Y,rfl⟩:=k;exact ⟨X++Y,by simp⟩
theorem Pre.app (H X:AHeap):Pre H (H++X):=⟨X,rfl⟩
theorem Pre.more {H K:AHeap} (h:Pre H K) (X:AHeap):Pre H (K++X):=h.trans (.app K X)
theorem Pre.get {H K:AHeap} (h:Pre H K) {b:Nat} {o:AObj} (hb:H[b]?=some o):K[b]?=some o:=by obtain ⟨X,rfl⟩:=h;exact get_more hb
theorem Pre.hcells {H K:AHeap} (h:Pre H K) {b:Nat} {cs:List Value} (hb:hcells H b=some cs):Vi.hcells K b=some cs:=by obtain ⟨X,rfl⟩:=h;exact hcells_more hb
inductive Arr (H:AHeap) (z:Nat):Value→List (List Value)→Prop
 | nil:Arr H z (.slice none 0 0) []
 | mk (b o m n c:Nat) (cs:List Value) (l:List (List Value)) (hn:n=l.length) (hcs:hcells H b=some cs) (hm:cs.length=m) (hle:o+n*z≤m)
   (hel:∀ (i:Nat) e,l[i]?=some e→(cs.drop (o+i*z)).take z=e) (hnc:n≤c:=by first | exact Nat.le_refl _ | assumption | omega):Arr H z (.slice (some ⟨b,o,some m⟩) n c) l
theorem Arr.pre {H K z v l} (h:Arr H z v l) (p:Pre H K):Arr K z v l:=by
 cases h with
 | nil=>exact .nil
 | mk b o m n c cs l hn hcs hm hle hel=>exact .mk b o m n c cs l hn (p.hcells hcs) hm hle hel
theorem Arr.len {H z v l T e} (h:Arr H z v l) (hu:P.underlying T=some (.slice e)):aLen P H T v=some (i64 l.length):=by
 cases h with
 | nil=>simp [aLen,hu]
 | mk b o m n c cs l hn=>subst hn;simp [aLen,hu]
theorem Arr.len' {H K z v l T e} (h:Arr H z v l) (hu:P.underlying T=some (.slice e)):aLen P K T v=some (i64 l.length):=by
 cases h with
 | nil=>simp [aLen,hu]
 | mk b o m n c cs l hn=>subst hn;simp [aLen,hu]
theorem Arr.elen {H z v l} {i:Nat} {e:List Value} (h:Arr H z v l) (hi:l[i]?=some e):e.length=z:=by
 cases h with
 | nil=>cases hi
 | mk b o m n c cs l hn hcs hm hle hel =>
   have hlt:=(List.getElem?_eq_some_iff.1 hi).1
   rw [← hel i e hi]
   have:(i+1)*z≤n*z:=Nat.mul_le_mul_right _ (by omega)
   rw [Nat.add_mul,Nat.one_mul] at this
   simp;omega
theorem Arr.one {H z v l} (h:Arr H z v l):v.oneCell'=true:=by cases h<;>rfl
theorem Arr.at {H z v l T te} {i:Nat} {e:List Value} (h:Arr H z v l) (hu:P.underlying T=some (.slice te)) (hs:tsize P te=some z) (hi:l[i]?=some e) :
  ∃ b o m cs,aIndexAddr P H T v (i64 i)=some (.pointer (some ⟨b,o,some m⟩))∧hcells H b=some cs∧cs.length=m∧o+z≤m∧(cs.drop o).take z=e:=by
 cases h with
 | nil=>cases hi
 | mk b o m n c cs l hn hcs hm hle hel =>
   have hlt:=(List.getElem?_eq_some_iff.1 hi).1
   have:(i+1)*z≤n*z:=Nat.mul_le_mul_right _ (by omega)
   rw [Nat.add_mul,Nat.one_mul] at this
   have hl:hlen H b=some m:=by rw [← hm];exact hcells_len hcs
   refine ⟨b,o+i*z,m,cs,?_,hcs,hm,by omega,hel i e hi⟩
   exact aIndexAddr_eq hu hs hl (by omega) (by omega)
theorem Arr.load {H z v l T te} {i:Nat} {e:List Value} (h:Arr H z v l) (hu:P.underlying T=some (.slice te)) (hs:tsize P te=some z) (hg:tagg P te=some true) (hi:l[i]?=some e) :
  ∃ p,aIndexAddr P H T v (i64 i)=some p∧aLoad P H te p=some (.agg e.toArray):=by
 obtain ⟨b,o,m,cs,h1,h2,h3,h4,h5⟩:=h.at hu hs hi
 refine ⟨_,h1,?_⟩
 simp [h2,h3,hg,hs,h5]
 omega
theorem Arr.load1 {H v l T te} {i:Nat} {x:Value} (h:Arr H 1 v l) (hu:P.underlying T=some (.slice te)) (hs:tsize P te=some 1) (hg:tagg P te=some false) (hi:l[i]?=some [x]) :
  ∃ p,aIndexAddr P H T v (i64 i)=some p∧aLoad P H te p=some x:=by
 obtain ⟨b,o,m,cs,h1,h2,h3,h4,h5⟩:=h.at hu hs hi
 refine ⟨_,h1,?_⟩
 have:cs[o]?=some x:=by
  have:=congrArg (·[0]?) h5
  simpa using this
 simp [h2,h3,hg,this]
theorem Arr.field {H z v l T te ft d} {i f:Nat} {e:List Value} {x:Value} (h:Arr H z v l) (hu:P.underlying T=some (.slice te)) (hs:tsize P te=some z) (hf:afield P te f=some (d,ft)) (hfs:tsize P ft=some 1) (hg:tagg P ft=some false)
  (hi:l[i]?=some e) (hx:e[d]?=some x):∃ p q,aIndexAddr P H T v (i64 i)=some p∧aFieldAddr P H te p f=some q∧aLoad P H ft q=some x:=by
 obtain ⟨b,o,m,cs,h1,h2,h3,h4,h5⟩:=h.at hu hs hi
 have hl:hlen H b=some m:=by rw [← h3];exact hcells_len h2
 refine ⟨_,.pointer (some ⟨b,o+d,some m⟩),h1,by simp [hl,hf,hfs],?_⟩
 have hd:d < z:=by
  have:=h.elen hi
  have:=(List.getElem?_eq_some_iff.1 hx).1
  omega
 have:cs[o+d]?=some x:=by
  rw [← h5,List.getElem?_take,if_pos hd,List.getElem?_drop] at hx
  exact hx
 simp [h2,h3,hg,this]
abbrev Same (v:Value) (H:AHeap):Value→AHeap→Prop:=fun u K=>u=v∧∃ X,K=H++X
theorem bndD_gcall {bar c want:Bool} {H H0:AHeap} {q:QH} {F:Value→AHeap→Prop} (v:Value) (hH:H0=H) (h:c=want→F v H0) (k:q.f (gsel c want v undef) H0) :
  @bndD bar H ⟨fun v1 H1=>gifp (.bool c) want (F v1 H1) (v1=undef∧H1=H0)⟩ q:=by
 subst hH
 refine ⟨gsel c want v undef,H0,?_,.inr ⟨[],by simp⟩,k⟩
 show gifp (.bool c) want (F (gsel c want v undef) H0) (gsel c want v undef=undef∧H0=H0)
 unfold gifp gsel
 by_cases hb:c=want
 · simp only [hb,beq_self_eq_true,if_true];exact h hb
 · simp [hb]
@[simp] theorem bndD_ft {bar:Bool} {H H0:AHeap} {q:QH} {F:Value→AHeap→Prop} (hH:H0=H):@bndD bar H ⟨fun v1 H1=>gifp (.bool false) true (F v1 H1) (v1=undef∧H1=H0)⟩ q=q.f undef H:=by
 subst hH
 apply propext
 constructor
 · rintro ⟨v,H',h,_,k⟩
   simp only [gifp_ft] at h
   obtain ⟨rfl,rfl⟩:=h
   exact k
 · intro k;exact ⟨undef,H0,by simp [gifp],.inr ⟨[],by simp⟩,k⟩
@[simp] theorem bndD_tf {bar:Bool} {H H0:AHeap} {q:QH} {F:Value→AHeap→Prop} (hH:H0=H):@bndD bar H ⟨fun v1 H1=>gifp (.bool true) false (F v1 H1) (v1=undef∧H1=H0)⟩ q=q.f undef H:=by
 subst hH
 apply propext
 constructor
 · rintro ⟨v,H',h,_,k⟩
   simp only [gifp_tf] at h
   obtain ⟨rfl,rfl⟩:=h
   exact k
 · intro k;exact ⟨undef,H0,by simp [gifp],.inr ⟨[],by simp⟩,k⟩
theorem bndD_gcases {bar c:Bool} {H H0:AHeap} {q:QH} {F:Value→AHeap→Prop} (v:Value) (H':AHeap) (hH:H0=H) (hf:c=false→q.f undef H0) (ht:c=true→F v H') (hp:bar=true∨∃ X,H'=H++X) (k:c=true→q.f v H') :
  @bndD bar H ⟨fun v1 H1=>gifp (.bool c) true (F v1 H1) (v1=undef∧H1=H0)⟩ q:=by
 subst hH
 cases c with
 | false=>exact ⟨undef,H0,by simp [gifp],.inr ⟨[],by simp⟩,hf rfl⟩
 | true=>exact ⟨v,H',by simpa [gifp] using ht rfl,hp,k rfl⟩
@[simp] theorem bndD_gsel {bar b w c want:Bool} {H:AHeap} {q:QH} {H0:AHeap} {F:Value→AHeap→Prop}:@bndD bar H ⟨fun v1 H1=>gifp (gsel b w (.bool c) undef) want (F v1 H1) (v1=undef∧H1=H0)⟩ q = @bndD bar H ⟨fun v1 H1=>gifp (.bool (b == w && c == want)) true (F v1 H1) (v1=undef∧H1=H0)⟩ q:=by
 unfold bndD
 simp only [gifp_gsel]
theorem bndL_of {H T n ps q v H'} (ha:allStor ps=true) (h:aBuildSlice P H T n ps=some (v,H')) (k:q.f v H'):@bndL P H T n ps q:=⟨v,H',⟨ha,h⟩,k⟩
theorem bndL_lit {H T n ps q v H'} (h:sliceLit P H T n ps v H') (k:q.f v H'):@bndL P H T n ps q:=⟨v,H',h,k⟩
@[simp] theorem convV_int {H s d j k k'} {n:Int} (hs:P.underlying s=some (.int j)) (hd:P.underlying d=some (.int k)):convV P H s d (.int k' n)=some (.int k (k.wrap n)):=by
 simp [convV,aConv,hs,hd]
@[simp] theorem wrap_byt (b:UInt8):IntKind.i64.wrap (b.toNat:Int)=b.toNat:=wrap_i64 (by omega) (by have:=b.toNat_lt;omega)
@[simp] theorem aMax_int {H ats k} {a b:Int}:aBuiltin P H .max ats [.int k a,.int k b]=some (.int k (if b > a then b else a),H):=by simp [aBuiltin]
@[simp] theorem aMin_int {H ats k} {a b:Int}:aBuiltin P H .min ats [.int k a,.int k b]=some (.int k (if b < a then b else a),H):=by simp [aBuiltin]
def enumL:Nat→List Value→List (Nat × Value)
 | _,[]=>[]
 | k,v :: r=>(k,v) :: enumL (k+1) r
theorem fill_enum:∀ (l:List Value) (k:Nat) (cells:List Value),(∀ v∈l,v.oneCell'=true)→cells.length=k+l.length→Instr.fill (fun i=>some (i*1,1)) cells.toArray (enumL k l)=some (cells.take k++l).toArray:=by
 intro l
 induction l with
 | nil=>intro k cells _ h;simp at h;simp [enumL,← h]
 | cons v r ih =>
   intro k cells ho h
   have h1:=ho v (by simp)
   have hc:=cells_one h1
   simp only [List.length_cons] at h
   simp only [enumL,Instr.fill,hc]
   have:¬ (k*1+(#[v]:Array Value).size > cells.toArray.size):=by simp;omega
   have e1:¬ ((#[v]:Array Value).size≠1):=by simp
   rw [if_neg (by simp;omega),put1,Nat.mul_one,List.setIfInBounds_toArray]
   rw [ih (k+1) (cells.set k v) (fun u hu=>ho u (by simp [hu])) (by simp;omega)]
   congr 2
   rw [List.take_set,List.set_eq_take_append_cons_drop,if_pos (by simp;omega)]
   simp [List.take_take]
theorem sliceLit1 {H:AHeap} {T e:TypeId} {zv:Value} {l:List Value} {n:Nat} (hs:aBuildSlice P H T n (enumL 0 l)=bslV e #[zv] H n (enumL 0 l)) (hl:∀ v∈l,v.oneCell'=true) (hn:n=l.length) (hb:n≤16777216) :
  sliceLit P H T n (enumL 0 l) (.slice (some ⟨H.length,0,some n⟩) n n) (H++[.cells l e]):=by
 subst hn
 refine ⟨?_,?_⟩
 · have:∀ (l:List Value) (k:Nat),(∀ v∈l,v.oneCell'=true)→allStor (enumL k l)=true:=by
    intro l
    induction l with
    | nil=>intro k _;rfl
    | cons v r ih =>
      intro k h
      have:=ih (k+1) fun u hu=>h u (by simp [hu])
      simp only [allStor] at this
      simp [enumL,stor_one (h v (by simp)),this]
   exact this l 0 hl
 · rw [hs]
   unfold bslV
   have hr:repCells #[zv] (l.length*(#[zv]:Array Value).size)=(List.replicate l.length zv).toArray:=by
    apply Array.ext
    · simp [repCells]
    · intro i h1 h2
      simp [repCells,Nat.mod_one]
   have hf:=fill_enum l 0 (List.replicate l.length zv) hl (by simp)
   simp only [List.take_zero,List.nil_append] at hf
   rw [hr]
   simp only [List.size_toArray,List.length_cons,List.length_nil,Nat.zero_add,Nat.mul_one] at hf ⊢
   rw [if_pos hb,hf]
   simp only [List.size_toArray]
   rw [if_pos (by simpa using hl)]
def SMap (Q:List UInt8→Value→Prop):List (Value × Value)→List (List UInt8)→Prop
 | [],[]=>True
 | e :: es,k :: ks=>e.1=str k∧Q k e.2∧SMap Q es ks
 | _,_=>False
theorem keyEq_str (a b:List UInt8):keyEq (str a) (str b)=decide (a=b):=by
 show ((⟨a.toArray⟩:ByteArray) == ⟨b.toArray⟩)=decide (a=b)
 rw [Bool.eq_iff_iff,ba_beq]
 simp
theorem SMap.ok {Q}:∀ {es ks},SMap Q es ks→mOk .string es=true:=by
 intro es
 induction es with
 | nil=>intro ks _;rfl
 | cons e es ih => intro ks h; cases ks with
   | nil=>cases h
   | cons k ks =>
     have:=ih h.2.2
     unfold mOk at this ⊢
     rw [List.all_cons,this,h.1]
     rfl
theorem SMap.find {Q} {k:List UInt8}:∀ {es ks},SMap Q es ks→(k∈ks∧∃ j v,mfind (str k) es=some j∧es[j]?=some (str k,v)∧Q k v)∨(k ∉ ks∧mfind (str k) es=none):=by
 intro es
 induction es with
 | nil => intro ks h; cases ks with
   | nil=>exact .inr ⟨by simp,rfl⟩
   | cons=>cases h
 | cons e es ih => intro ks h; cases ks with
   | nil=>cases h
   | cons k' ks =>
     obtain ⟨e1,e2⟩:=e
     obtain ⟨h1,h2,h3⟩:=h
     simp only at h1 h2
     subst h1
     simp only [mfind,keyEq_str]
     by_cases hk:k=k'
     · subst hk
       exact .inl ⟨by simp,0,e2,by simp,rfl,h2⟩
     · rcases ih h3 with ⟨g1,j,v,g2,g3,g4⟩ | ⟨g1,g2⟩
       · exact .inl ⟨by simp [g1],j+1,v,by simp [hk,g2],by simpa using g3,g4⟩
       · exact .inr ⟨by simp [hk,g1],by simp [hk,g2]⟩
theorem SMap.get {Q} {k:List UInt8} {es ks} (h:SMap Q es ks):(k∈ks∧∃ v,mget (str k) es=some v∧Q k v)∨(k ∉ ks∧mget (str k) es=none):=by
 unfold mget
 rcases h.find (k:=k) with ⟨g1,j,v,g2,g3,g4⟩ | ⟨g1,g2⟩
 · exact .inl ⟨g1,v,by simp [g2,g3],g4⟩
 · exact .inr ⟨g1,by simp [g2]⟩
theorem Pre.set {H K:AHeap} (h:Pre H K) {b:Nat} {o:AObj} (hb:H.length≤b):Pre H (K.set b o):=by
 obtain ⟨X,rfl⟩:=h
 exact ⟨X.set (b-H.length) o,List.set_append_right _ _ hb⟩
theorem get_set {K:AHeap} {b:Nat} {o x:AObj} (h:K[b]?=some x):(K.set b o)[b]?=some o:=List.getElem?_set_self (List.getElem?_eq_some_iff.1 h).1
theorem bndG_t {H:AHeap} {e q:QH} (v:Value) (H':AHeap) (h:e.f v H') (k:q.f v H'):@bndG (.bool true) true H e q:=⟨v,H',by simpa [gifp] using h,k⟩
theorem callV_func {f:FuncId} {cap:Array Value} {args:List Value} {H:AHeap} {v:Value} {H':AHeap} (h:ACalls P f (args++cap.toList) H v H'):callV P (.func (.func f) #[] cap) args H v H':=by simpa [callV] using h
theorem pv_ptrs {T e} {p:Option Addr} (h:P.underlying T=some (.pointer e)):pv P (Op.equal T (.pointer none) (.pointer p))=some p.isNone:=by
 show pv P (Op.equalIn (9999+1) T (.pointer none) (.pointer p))=_
 unfold Op.equalIn
 rw [pv_bind,pv_und h]
 rfl
theorem aBin_nilptr {H T x y e} (h:P.underlying T=some (.pointer e)):aBin2 P H .eql T x y (.pointer none) (.pointer none)=some (.bool true):=by
 apply aBin2_of
 have:pv P (do eqGuard .eql T x y (.pointer none) (.pointer none);binOp .eql T (.pointer none) (.pointer none))=some (.bool true):=by
  show pv P (Op.equal T (.pointer none) (.pointer none) >>= fun r=>pure (Value.bool r))=_
  rw [pv_bind,pv_ptrs h];rfl
 unfold aBin
 rw [if_pos ⟨rfl,rfl⟩,this];rfl
theorem aBin_ptrnil {H T x y e} {a:Addr} (h:P.underlying T=some (.pointer e)):aBin2 P H .eql T x y (.pointer (some a)) (.pointer none)=some (.bool false):=by
 apply aBin2_of
 simp [aBin,clos,isLit,notNil,h]
theorem aBin_ptrne {H T x y e b o m z} (h:P.underlying T=some (.pointer e)) (hz:tsize P e=some (z+1)) (hl:hlen H b=some m):aBin2 P H .neq T x y (.pointer (some ⟨b,o,some m⟩)) (.pointer (some ⟨b,o,some m⟩))=some (.bool false):=by
 have:aBin P .neq T x y (.pointer (some ⟨b,o,some m⟩)) (.pointer (some ⟨b,o,some m⟩))=none:=by simp [aBin,clos,isLit,notNil]
 unfold aBin2
 rw [this]
 simp [aPtrEq,h,hz,hl]
theorem pv_ifs {T ms} (h:P.underlying T=some (.interface ms)):pv P (Op.equal T .nilIface .nilIface)=some true:=by
 show pv P (Op.equalIn (9999+1) T .nilIface .nilIface)=_
 unfold Op.equalIn
 rw [pv_bind,pv_und h]
 rfl
theorem aBin_nilif {H T x c ms} (h:P.underlying T=some (.interface ms)):aBin2 P H .eql T x (.const c) .nilIface .nilIface=some (.bool true):=by
 apply aBin2_of
 have:pv P (do eqGuard .eql T x (.const c) .nilIface .nilIface;binOp .eql T .nilIface .nilIface)=some (.bool true):=by
  have e:(do eqGuard .eql T x (.const c) .nilIface .nilIface;binOp .eql T .nilIface .nilIface:Sem Value)=(Op.equal T .nilIface .nilIface >>= fun r=>pure (Value.bool r)):=by cases x<;>rfl
  rw [e,pv_bind,pv_ifs h];rfl
 unfold aBin
 rw [if_pos ⟨rfl,rfl⟩,this];rfl
theorem aBin_nilifn {H T x c ms} (h:P.underlying T=some (.interface ms)):aBin2 P H .neq T x (.const c) .nilIface .nilIface=some (.bool false):=by
 apply aBin2_of
 have:pv P (do eqGuard .neq T x (.const c) .nilIface .nilIface;binOp .neq T .nilIface .nilIface)=some (.bool false):=by
  have e:(do eqGuard .neq T x (.const c) .nilIface .nilIface;binOp .neq T .nilIface .nilIface:Sem Value)=(Op.equal T .nilIface .nilIface >>= fun r=>pure (Value.bool !r)):=by cases x<;>rfl
  rw [e,pv_bind,pv_ifs h];rfl
 unfold aBin
 rw [if_pos ⟨rfl,rfl⟩,this];rfl
def flat:Value→Bool
 | .tuple cs=>cs.toList.all clos
 | v=>clos v
theorem VRel.flat_eq {s:Ren} {H:AHeap} {v v':Value} (h:VRel s H v v') (hv:flat v=true):v'=v:=by
 have h0:=h
 cases h with
 | tuple a a' hs h =>
   simp only [flat,List.all_eq_true] at hv
   congr 1
   apply Array.ext hs.symm
   intro i h1 h2
   exact (h i _ _ (Array.getElem?_eq_getElem h2) (Array.getElem?_eq_getElem h1)).clos_eq (hv _ (by simp))
 | lit v h=>rfl
 | _=>exact h0.clos_eq (by simpa [flat] using hv)
theorem flat_rel {v:Value} (h:flat v=true) (s:Ren) (H:AHeap):VRel s H v v:=by
 cases v with
 | tuple cs =>
   simp only [flat,List.all_eq_true] at h
   refine .tuple _ _ rfl fun i x y hx hy=>?_
   rw [hx] at hy;cases hy
   exact clos_rel (h x (by have:=Array.mem_of_getElem? hx;simpa using this)) s H
 | _=>exact clos_rel (by simpa [flat] using h) s H
theorem ACalls.trimF {f args H v X} (h:ACalls P f args H v (H++X)) (hc:flat v=true):ACalls P f args H v H:=by
 intro w0 s w args' hw ha
 have key:∀ e w',AEnd w0 s H v (H++X) e w'→AEnd w0 s H v H e w':=by
  rintro e w' ⟨s',v',rfl,g1,g2,g3⟩
  exact ⟨s,v',rfl,hw.forget g1 g2,Ext.refl _ _,by rw [g3.flat_eq hc];exact flat_rel hc s H⟩
 rcases h w0 s w args' hw ha with ⟨h1,h2⟩ | ⟨v',w',h1,h2⟩
 · exact .inl ⟨h1,h2.mono key⟩
 · exact .inr ⟨v',w',h1,key _ _ h2⟩
theorem acallsT_pure (hm:P.follows .mixedOrders=true) {f fn args H v} (hf:P.funcs[f]?=some fn) (hn:notNG fn=true) (hc:flat v=true) (hr:kbody P fn args H fun u H2=>u=v∧∃ X,H2=H++X):ACalls P f args H v H:=by
 obtain ⟨v',H',⟨rfl,X,rfl⟩,h⟩:=acalls_ex hm hf hn hr
 exact h.trimF hc
end Go.Vi
namespace Go.Vi
open Go Go.RowKit Go.ChangeShapes Go.WideShapes
variable {P:Program}
def partsOf (P:Program) (t:TypeId):Option (List (TypeId × Nat)):=match P.underlying t with
 | some (.struct fs)=>some (fs.toList.map fun x=>(x.type,x.offset))
 | some (.array n e)=>some ((List.range n).map fun i=>(e,i*P.cellsOf e))
 | _=>none
def tile (P:Program):List (TypeId × Nat)→Nat→Nat→Bool
 | [],p,L=>p == L
 | (t,o) :: r,p,L=>o == p && tile P r (p+P.cellsOf t) L
def simT (P:Program):Nat→TypeId→Bool
 | 0,_=>false
 | f + 1, t => match P.underlying t with
   | some .bool | some (.int _) | some .string=>true
   | some (.slice e)=>decide (0 < P.cellsOf e) && simT P f e
   | _ => match partsOf P t with
     | some ps=>tile P ps 0 (P.cellsOf t) && ps.all fun x=>simT P f x.1
     | none=>false
def Rd0 (P:Program) (H:AHeap):Nat→TypeId→List Value→Prop
 | 0,_,_=>False
 | f + 1, t, cs => match P.underlying t with
   | some .bool=>∃ b,cs=[.bool b]
   | some (.int k)=>∃ n,cs=[.int k n]∧(Lit.int k n).wf=true
   | some .string=>∃ s,cs=[.string s]∧s.size≤maxLen
   | some (.slice e)=>∃ v l,cs=[v]∧Arr H (P.cellsOf e) v l∧l.length≤maxLen∧∀ x∈l,Rd0 P H f e x
   | _=>∃ ps,partsOf P t=some ps∧cs.length=P.cellsOf t∧∀ x∈ps,Rd0 P H f x.1 ((cs.drop x.2).take (P.cellsOf x.1))
theorem Rd0.more {H X:AHeap}:∀ {f t cs},Rd0 P H f t cs→Rd0 P (H++X) f t cs:=by
 intro f
 induction f with
 | zero=>intro t cs h;exact h
 | succ f ih =>
   intro t cs h
   simp only [Rd0] at h ⊢
   cases hu:P.underlying t with
   | none=>simp only [hu] at h ⊢;obtain ⟨ps,h1,h2,h3⟩:=h;exact ⟨ps,h1,h2,fun x hx=>ih (h3 x hx)⟩
   | some d =>
     cases d with
     | slice e =>
       simp only [hu] at h ⊢
       obtain ⟨v,l,h1,h2,h3,h4⟩:=h
       exact ⟨v,l,h1,h2.pre (.app _ _),h3,fun x hx=>ih (h4 x hx)⟩
     | _=>simp only [hu] at h ⊢;first | exact h | (obtain ⟨ps,h1,h2,h3⟩:=h;exact ⟨ps,h1,h2,fun x hx=>ih (h3 x hx)⟩)
def NoOwn (H:AHeap):Prop:=∀ (b:Nat) o,H[b]?=some o→o.owned=false
theorem NoOwn.nil:NoOwn []:=fun b o h=>by simp at h
theorem WRel.pushRo {w0 s H w} (h:WRel w0 s H w) (hn:NoOwn H) (cs:List Value) (g j:Nat) (ho:One cs)
  (hv:∀ (i:Nat) v,cs[i]?=some v→∃ v',w.cell? ⟨g,j+i,none⟩=some v'∧VRel s H v v') :
  WRel w0 (upd s H.length ⟨g,j,0⟩) (H++[.ro cs]) w∧NoOwn (H++[.ro cs]):=by
 have e:=Ext.push s H (.ro cs) ⟨g,j,0⟩
 have hno:NoOwn (H++[.ro cs]):=by
  intro b o hb
  rcases getElem_append_old hb with ⟨_,h1⟩ | ⟨_,rfl⟩
  · exact hn b o h1
  · rfl
 refine ⟨⟨⟨fun b x hx=>?_,fun b b' o o' hb hb' _ ho1 _=>?_⟩,h.b,h.o.push _ (by rintro _ ⟨rfl⟩;exact ho)⟩,hno⟩
 · rcases getElem_append_old hx with ⟨hb,hx'⟩ | ⟨rfl,rfl⟩
   · exact (h.h.obj b x hx').keep e (fun _=>upd_ne _ _ (by omega)) (fun _ _=>rfl)
   · intro i v hi
     obtain ⟨v',h1,h2⟩:=hv i v hi
     exact ⟨v',by rw [upd_self];exact h1,h2.mono e⟩
 · rw [hno b o hb] at ho1;cases ho1
structure Got (P:Program) (w:World) (s:Ren) (H:AHeap) (s':Ren) (H':AHeap):Prop where
 rel:WRel w s' H' w
 no:NoOwn H'
 ext:Ext s H s' H'
 pre:Pre H H'
theorem Got.trans {w s H s1 H1 s2 H2} (h:Got P w s H s1 H1) (k:Got P w s1 H1 s2 H2):Got P w s H s2 H2:=⟨k.rel,k.no,h.ext.trans k.ext,h.pre.trans k.pre⟩
theorem Rd0.pre {H K:AHeap} (p:Pre H K) {f t cs} (h:Rd0 P H f t cs):Rd0 P K f t cs:=by obtain ⟨X,rfl⟩:=p;exact h.more
theorem tile_le:∀ {ps:List (TypeId × Nat)} {p L:Nat},tile P ps p L=true→p≤L:=by
 intro ps
 induction ps with
 | nil=>intro p L h;simp [tile] at h;omega
 | cons x r ih =>
   obtain ⟨t,o⟩:=x
   intro p L h
   simp only [tile,Bool.and_eq_true] at h
   have:=ih h.2
   omega
section
variable {D:Type} {enc:TypeId × Value→D} {w:World} {sp:Nat→Bool} {held:Bool}
def Reads (P:Program) (enc:TypeId × Value→D) (w:World) (sp:Nat→Bool) (held:Bool) (f:Nat) (t:TypeId):Prop :=
 ∀ (fuel : Nat) (cs : List Value) (x : DataW D × List MemPlace) (s : Ren) (H : AHeap), DataW.trod enc P w 0 sp held fuel t cs = some x → WRel w s H w → NoOwn H →
   ∃ s' H' acs,Got P w s H s' H'∧VRelL s' H' acs cs∧One acs∧Rd0 P H' f t acs
theorem reads_parts {f:Nat} {cs:List Value}:∀ (ps:List (TypeId × Nat)) (p:Nat) (s:Ren) (H:AHeap),tile P ps p cs.length=true→(∀ x∈ps,Reads P enc w sp held f x.1) →
  (∀ x∈ps,∃ n y,DataW.trod enc P w 0 sp held n x.1 ((cs.drop x.2).take (P.cellsOf x.1))=some y)→WRel w s H w→NoOwn H →
  ∃ s' H' acs,Got P w s H s' H'∧VRelL s' H' acs (cs.drop p)∧One acs∧∀ x∈ps,p≤x.2∧Rd0 P H' f x.1 ((acs.drop (x.2-p)).take (P.cellsOf x.1)):=by
 intro ps
 induction ps with
 | nil =>
   intro p s H ht _ _ hw hn
   simp [tile] at ht
   refine ⟨s,H,[],⟨hw,hn,Ext.refl _ _,Pre.refl _⟩,?_,fun v hv=>by simp at hv,fun x hx=>by simp at hx⟩
   rw [ht,List.drop_length];exact .nil _ _
 | cons q r ih =>
   obtain ⟨t,o⟩:=q
   intro p s H ht hr htr hw hn
   simp only [tile,Bool.and_eq_true,beq_iff_eq] at ht
   obtain ⟨rfl,ht⟩:=ht
   have hle:=tile_le ht
   obtain ⟨n,y,hy⟩:=htr (t,o) (by simp)
   obtain ⟨s1,H1,a1,g1,v1,o1,r1⟩:=hr (t,o) (by simp) n _ y s H hy hw hn
   obtain ⟨s2,H2,a2,g2,v2,o2,r2⟩:=ih _ s1 H1 ht (fun x hx=>hr x (by simp [hx])) (fun x hx=>htr x (by simp [hx])) g1.rel g1.no
   have l1:a1.length=P.cellsOf t:=by rw [v1.1];simp;omega
   refine ⟨s2,H2,a1++a2,g1.trans g2,?_,fun v hv=>?_,fun x hx=>?_⟩
   · have:cs.drop o=(cs.drop o).take (P.cellsOf t)++cs.drop (o+P.cellsOf t):=by rw [← List.drop_drop,List.take_append_drop]
     rw [this]
     exact (v1.mono g2.ext).append v2
   · rcases List.mem_append.1 hv with hv | hv
     · exact o1 v hv
     · exact o2 v hv
   · rcases List.mem_cons.1 hx with rfl | hx
     · refine ⟨Nat.le_refl _,?_⟩
       simp only [Nat.sub_self,List.drop_zero]
       rw [← l1,List.take_left']
       · exact r1.pre g2.pre
       · rfl
     · obtain ⟨q1,q2⟩:=r2 x hx
       refine ⟨by omega,?_⟩
       have e:x.2-o=a1.length+(x.2-(o+P.cellsOf t)):=by rw [l1];omega
       rw [e,List.drop_append]
       have:(a1.drop (a1.length+(x.2-(o+P.cellsOf t))))=[]:=by simp
       rw [this,List.nil_append]
       simpa using q2
theorem flat_len' {z:Nat}:∀ {l:List (List Value)},(∀ e∈l,e.length=z)→l.flatten.length=l.length*z:=by
 intro l
 induction l with
 | nil=>intro _;simp
 | cons x r ih=>intro h;rw [List.flatten_cons,List.length_append,ih (fun e he=>h e (by simp [he])),h x (by simp),List.length_cons,Nat.add_mul,Nat.one_mul,Nat.add_comm]
theorem flat_at' {z:Nat}:∀ {l:List (List Value)} {i:Nat} {e:List Value},(∀ e∈l,e.length=z)→l[i]?=some e→(l.flatten.drop (i*z)).take z=e:=by
 intro l
 induction l with
 | nil=>intro i e _ h;simp at h
 | cons x r ih =>
   intro i e h hi
   have hx:=h x (by simp)
   cases i with
   | zero=>simp at hi;subst hi;rw [Nat.zero_mul,List.drop_zero,List.flatten_cons,List.take_left' hx]
   | succ i =>
     rw [List.flatten_cons,Nat.add_mul,Nat.one_mul,Nat.add_comm,← hx,List.drop_append,hx]
     have:x.drop (z+i*z)=[]:=by simp;omega
     simp only [this,List.nil_append,Nat.add_sub_cancel_left]
     exact ih (fun e he=>h e (by simp [he])) (by simpa using hi)
theorem add_at (a:Addr) (i:Nat):(a.add i).block=a.block∧(a.add i).off=a.off+i:=by
 unfold Addr.add;split<;>simp_all
theorem reads_row {f:Nat} {t:TypeId} {z:Nat} {a:Addr} (hr:Reads P enc w sp held f t) (_hz:P.cellsOf t=z) (_hz0:0 < z) {m:Nat} (hm:∀ i,i < m→∃ n cs y,w.cells? 0 (a.add (i*z)) z=some cs∧DataW.trod enc P w 0 sp held n t cs=some y) :
  ∀ (k : Nat) (s : Ren) (H : AHeap), k ≤ m → WRel w s H w → NoOwn H → ∃ (s' : Ren) (H' : AHeap) (l : List (List Value)), Got P w s H s' H' ∧ l.length = k ∧ (∀ e ∈ l, e.length = z ∧ One e ∧ Rd0 P H' f t e) ∧
    ∀ (j:Nat) v,l.flatten[j]?=some v→∃ v',w.cell? ⟨a.block,a.off+j,none⟩=some v'∧VRel s' H' v v':=by
 intro k
 induction k with
 | zero=>intro s H _ hw hn;exact ⟨s,H,[],⟨hw,hn,Ext.refl _ _,Pre.refl _⟩,rfl,fun e he=>by simp at he,fun j v hj=>by simp at hj⟩
 | succ k ih =>
   intro s H hk hw hn
   obtain ⟨s1,H1,l,g1,hl,he,hc⟩:=ih s H (by omega) hw hn
   obtain ⟨n,cs,y,c1,c2⟩:=hm k (by omega)
   obtain ⟨s2,H2,e,g2,v2,o2,r2⟩:=hr n cs y s1 H1 c2 g1.rel g1.no
   obtain ⟨_,q2,q3⟩:=World.cells?_some c1
   have le:e.length=z:=by rw [v2.1,q2]
   have hfl:l.flatten.length=k*z:=by rw [flat_len' (fun e h=>(he e h).1),hl]
   refine ⟨s2,H2,l++[e],g1.trans g2,by simp [hl],fun x hx=>?_,fun j v hj=>?_⟩
   · rcases List.mem_append.1 hx with hx | hx
     · exact ⟨(he x hx).1,(he x hx).2.1,(he x hx).2.2.pre g2.pre⟩
     · rw [List.mem_singleton] at hx;subst hx;exact ⟨le,o2,r2⟩
   · rw [List.flatten_append,List.flatten_singleton] at hj
     rcases Nat.lt_or_ge j l.flatten.length with hlt | hge
     · rw [List.getElem?_append_left hlt] at hj
       obtain ⟨v',h1,h2⟩:=hc j v hj
       exact ⟨v',h1,h2.mono g2.ext⟩
     · rw [List.getElem?_append_right hge] at hj
       obtain ⟨y',h1,h2⟩:=v2.get hj
       have hjz:j-l.flatten.length < z:=by rw [← le];exact (List.getElem?_eq_some_iff.1 hj).1
       have hcell:=q3 _ hjz
       rw [h1] at hcell
       refine ⟨y',?_,h2⟩
       obtain ⟨b1,b2⟩:=add_at (a.add (k*z)) (j-l.flatten.length)
       obtain ⟨b3,b4⟩:=add_at a (k*z)
       unfold World.cell? at hcell ⊢
       rw [b1,b2,b3,b4] at hcell
       simp only
       have e1:a.off+k*z+(j-l.flatten.length)=a.off+j:=by omega
       rw [e1] at hcell
       split at hcell
       · rename_i hh
         simp only [Option.isSome_none,Bool.false_eq_true,if_false]
         split at hcell
         · cases hcell
         · exact hcell
       · cases hcell
theorem reads_of (hsp0:∀ b,sp b=true):∀ (f:Nat) (t:TypeId),simT P f t=true→Reads P enc w sp held f t:=by
 intro f
 induction f with
 | zero=>intro t h;simp [simT] at h
 | succ f ih =>
   intro t h fuel cs x s H htr hw hn
   have lit:∀ v:Value,cs=[v]→isLit v=true→v.oneCell'=true→(Rd0 P H (f+1) t cs)→∃ s' H' acs,Got P w s H s' H'∧VRelL s' H' acs cs∧One acs∧Rd0 P H' (f+1) t acs:=by
    intro v hv hl ho hr
    refine ⟨s,H,cs,⟨hw,hn,Ext.refl _ _,Pre.refl _⟩,by subst hv;exact .cons (.lit _ hl) (.nil _ _),?_,hr⟩
    intro u hu;rw [hv,List.mem_singleton] at hu;rw [hu];exact ho
   have parts:(∀ e,P.underlying t≠some (.slice e))→(P.underlying t≠some .bool)→(∀ k,P.underlying t≠some (.int k))→P.underlying t≠some .string →
     (∀ ps,partsOf P t=some ps→cs.length=P.cellsOf t∧∀ x∈ps,∃ n y,DataW.trod enc P w 0 sp held n x.1 ((cs.drop x.2).take (P.cellsOf x.1))=some y) →
     ∃ s' H' acs,Got P w s H s' H'∧VRelL s' H' acs cs∧One acs∧Rd0 P H' (f+1) t acs:=by
    intro n1 n2 n3 n4 hp
    have h2:(match partsOf P t with
     | some ps=>tile P ps 0 (P.cellsOf t) && ps.all fun x=>simT P f x.1
     | none=>false)=true:=by
     cases hu:P.underlying t with
     | none=>simpa only [simT,hu] using h
     | some d =>
       cases d with
       | bool=>exact absurd hu n2
       | int k=>exact absurd hu (n3 _)
       | string=>exact absurd hu n4
       | slice e=>exact absurd hu (n1 _)
       | _=>simpa only [simT,hu] using h
    · cases hps:partsOf P t with
      | none=>simp [hps] at h2
      | some ps =>
        simp only [hps,Bool.and_eq_true,List.all_eq_true] at h2
        obtain ⟨p1,p2⟩:=hp ps hps
        obtain ⟨s1,H1,a1,g1,v1,o1,r1⟩:=reads_parts (f:=f) (cs:=cs) ps 0 s H (by rw [p1];exact h2.1) (fun x hx=>ih _ (h2.2 x hx)) p2 hw hn
        simp only [List.drop_zero,Nat.sub_zero] at v1 r1
        refine ⟨s1,H1,a1,g1,v1,o1,?_⟩
        have hfin:∃ ps,partsOf P t=some ps∧a1.length=P.cellsOf t∧∀ x∈ps,Rd0 P H1 f x.1 ((a1.drop x.2).take (P.cellsOf x.1)):=⟨ps,hps,by rw [v1.1,p1],fun x hx=>(r1 x hx).2⟩
        cases hu:P.underlying t with
        | none=>simpa only [Rd0,hu] using hfin
        | some d =>
          cases d with
          | bool=>exact absurd hu n2
          | int k=>exact absurd hu (n3 _)
          | string=>exact absurd hu n4
          | slice e=>exact absurd hu (n1 _)
          | _=>simpa only [Rd0,hu] using hfin
   cases hu:P.underlying t with
   | none=>simp [simT,hu,partsOf] at h
   | some d =>
     cases d with
     | bool =>
       obtain ⟨b,h1,_⟩:=DataW.trod_bool hu htr
       exact lit _ h1 rfl rfl (by simp only [Rd0,hu];exact ⟨b,h1⟩)
     | int k =>
       obtain ⟨n,h1,_,h2⟩:=DataW.trod_int hu htr
       exact lit _ h1 rfl rfl (by simp only [Rd0,hu];exact ⟨n,h1,h2⟩)
     | string =>
       obtain ⟨q,h1,_,h2⟩:=DataW.trod_string hu htr
       exact lit _ h1 rfl rfl (by simp only [Rd0,hu];exact ⟨q,h1,h2⟩)
     | slice e =>
       have hs:=h
       simp only [simT,hu,Bool.and_eq_true,decide_eq_true_eq] at hs
       rcases Deep.open_slice hu htr with ⟨h1,_⟩ | ⟨a,len,cap,m,n,dd,pl,h1,hb,hlc,hcm,hmm,_,hall⟩
       · exact lit _ h1 rfl rfl (by simp only [Rd0,hu];exact ⟨_,[],h1,.nil,by simp,fun x hx=>by simp at hx⟩)
       · have hlm:len≤m:=by rw [hmm];split<;>omega
         obtain ⟨s1,H1,l,g1,hl,he,hc⟩:=reads_row (ih e hs.2) rfl hs.1 (m:=m) (fun i hi=>by obtain ⟨cs',c1,c2⟩:=hall i hi;exact ⟨n,cs',_,c1,c2⟩) len s H hlm hw hn
         have hone:One l.flatten:=by
          intro v hv
          obtain ⟨e',h2,h3⟩:=List.mem_flatten.1 hv
          exact (he e' h2).2.1 v h3
         have hfl:l.flatten.length=len*P.cellsOf e:=by rw [flat_len' (fun e h=>(he e h).1),hl]
         obtain ⟨hw2,hn2⟩:=g1.rel.pushRo g1.no l.flatten a.block a.off hone hc
         have hex:=Ext.push s1 H1 (.ro l.flatten) ⟨a.block,a.off,0⟩
         have hgot:Got P w s H (upd s1 H1.length ⟨a.block,a.off,0⟩) (H1++[.ro l.flatten]):=g1.trans ⟨hw2,hn2,hex,.app _ _⟩
         have harr:Arr (H1++[.ro l.flatten]) (P.cellsOf e) (.slice (some ⟨H1.length,0,some (len*P.cellsOf e)⟩) len len) l:=by
          refine .mk _ _ _ _ _ l.flatten _ hl.symm (by simp) hfl (by omega) fun i x hx=>?_
          rw [Nat.zero_add]
          exact flat_at' (fun e h=>(he e h).1) hx
         refine ⟨_,_,[.slice (some ⟨H1.length,0,some (len*P.cellsOf e)⟩) len len],hgot,?_,?_,?_⟩
         · rw [h1]
           refine .cons (.slice _ _ _ _ _ _ _ (by simp) fun L hL=>?_) (.nil _ _)
           have:L=len*P.cellsOf e:=by simp [hlen,AObj.len] at hL;rw [← hfl];simpa using hL.symm
           refine ⟨by omega,fun _=>⟨fun hc'=>?_,Nat.le_refl _,hlc,fun cs' T hc'=>by simp at hc'⟩⟩
           rw [upd_self,Nat.add_zero]
           have hsp:a.spot=none:=by
            rcases Nat.eq_zero_or_pos m with hm0 | hm0
            · rw [hmm,hsp0] at hm0;simp at hm0;omega
            · obtain ⟨cs',c1,c2⟩:=hall 0 hm0
              obtain ⟨_,q2,q3⟩:=World.cells?_some c1
              have:=q3 0 hs.1
              rw [Nat.zero_mul] at this
              have e0:(a.add 0).add 0=a:=rfl
              rw [e0,List.getElem?_eq_getElem (by rw [q2];exact hs.1)] at this
              unfold World.cell? at this
              split at this
              · split at this
                · cases this
                · rename_i q;cases hq:a.spot with
                  | none=>rfl
                  | some _=>simp [hq] at q
              · cases this
           obtain ⟨ab,ao,asp⟩:=a
           simp only at hsp;subst hsp;rfl
         · intro v hv;rw [List.mem_singleton] at hv;subst hv;rfl
         · simp only [Rd0,hu]
           exact ⟨_,l,rfl,harr,by omega,fun x hx=>(he x hx).2.2.more⟩
     | struct fs =>
       obtain ⟨xs,n,_,_,h1,h2,h3⟩:=DataW.trod_struct hu htr
       refine parts (by simp [hu]) (by simp [hu]) (by simp [hu]) (by simp [hu]) fun ps hps=>⟨h1,fun x hx=>?_⟩
       simp only [partsOf,hu,Option.some.injEq] at hps
       subst hps
       obtain ⟨fd,hfd,rfl⟩:=List.mem_map.1 hx
       obtain ⟨i,hi,hfi⟩:=List.getElem_of_mem hfd
       have:=h3 i fd (by rw [← hfi];exact Array.getElem?_eq_getElem (by simpa using hi))
       rw [List.getElem?_eq_getElem (by rw [h2];simpa using hi)] at this
       exact ⟨n,_,this⟩
     | array k e =>
       obtain ⟨xs,n,_,_,h1,h2,h3⟩:=DataW.trod_array hu htr
       refine parts (by simp [hu]) (by simp [hu]) (by simp [hu]) (by simp [hu]) fun ps hps=>⟨h1,fun x hx=>?_⟩
       simp only [partsOf,hu,Option.some.injEq] at hps
       subst hps
       obtain ⟨i,hi,rfl⟩:=List.mem_map.1 hx
       rw [List.mem_range] at hi
       have:=h3 i hi
       rw [List.getElem?_eq_getElem (by omega)] at this
       exact ⟨n,_,this⟩
     | _=>simp [simT,hu,partsOf] at h
structure Rd (P:Program) (H:AHeap) (f:Nat) (t:TypeId) (cs:List Value):Prop where
 h:Rd0 P H f t cs
theorem Rd.pre {H K:AHeap} (p:Pre H K) {f t cs} (h:Rd P H f t cs):Rd P K f t cs:=⟨h.h.pre p⟩
theorem arg_slice (hsp0:∀ b,sp b=true) {f:Nat} {t e:TypeId} {r:Go.Reach} {b0:Nat} {v:Value} {d:DataW D} {ps:List MemPlace} {s:Ren} {H:AHeap} (hu:P.underlying t=some (.slice e)) (hs:simT P f t=true)
  (hv:Value.okWide P w r b0 t v) (hd:DataW.Trod enc P w 0 sp held t v d ps) (hw:WRel w s H w) (hn:NoOwn H):∃ s' H' a,Got P w s H s' H'∧VRel s' H' a v∧Rd P H' f t [a]:=by
 obtain ⟨a,l,c,rfl⟩:=okWide_slice hu hv
 obtain ⟨fuel,hf⟩:=hd
 obtain ⟨s',H',acs,g,v1,_,r1⟩:=reads_of hsp0 f t hs fuel _ _ s H hf hw hn
 obtain ⟨hl,hr⟩:=v1
 match acs,hl with
 | [x],_=>exact ⟨s',H',x,g,hr 0 _ _ rfl rfl,⟨r1⟩⟩
end
section
variable {H:AHeap} {f:Nat} {t:TypeId} {cs:List Value}
theorem Rd.parts {ps} (hp:partsOf P t=some ps) (h:Rd P H (f+1) t cs):cs.length=P.cellsOf t∧∀ x∈ps,Rd P H f x.1 ((cs.drop x.2).take (P.cellsOf x.1)):=by
 obtain ⟨h⟩:=h
 refine And.imp_right (fun q x hx=>⟨q x hx⟩) (?_:cs.length=P.cellsOf t∧∀ x∈ps,Rd0 P H f x.1 ((cs.drop x.2).take (P.cellsOf x.1)))
 have hq:=hp
 unfold partsOf at hq
 split at hq
 · rename_i q;simp only [Rd0,q] at h;obtain ⟨ps',h1,h2⟩:=h;rw [hp] at h1;cases h1;exact h2
 · rename_i q;simp only [Rd0,q] at h;obtain ⟨ps',h1,h2⟩:=h;rw [hp] at h1;cases h1;exact h2
 · cases hq
theorem Rd.slice {e} (hu:P.underlying t=some (.slice e)) (h:Rd P H (f+1) t cs):∃ v l,cs=[v]∧Arr H (P.cellsOf e) v l∧l.length≤maxLen∧∀ x∈l,Rd P H f e x:=by
 have:=h.h
 simp only [Rd0,hu] at this
 obtain ⟨v,l,h1,h2,h3,h4⟩:=this
 exact ⟨v,l,h1,h2,h3,fun x hx=>⟨h4 x hx⟩⟩
theorem Rd.int {k} (hu:P.underlying t=some (.int k)) (h:Rd P H (f+1) t cs):∃ n,cs=[.int k n]∧(Lit.int k n).wf=true:=by simpa only [Rd0,hu] using h.h
theorem Rd.str (hu:P.underlying t=some .string) (h:Rd P H (f+1) t cs):∃ l:List UInt8,cs=[Vi.str l]∧l.length≤maxLen:=by
 replace h:=h.h
 simp only [Rd0,hu] at h
 obtain ⟨s,h1,h2⟩:=h
 exact ⟨s.data.toList,h1,by simpa using h2⟩
end
end Go.Vi
namespace Go.Vi
open Go Go.Proofs Go.Proofs.Tryz
@[simp] theorem tg2:tagg prog 2=some false:=by kernel_rfl
@[simp] theorem ts2:tsize prog 2=some 1:=by kernel_rfl
@[simp] theorem tg3:tagg prog 3=some false:=by kernel_rfl
@[simp] theorem ts3:tsize prog 3=some 1:=by kernel_rfl
@[simp] theorem tal3 (H:AHeap):aAlloc prog H 3=some (.pointer (some ⟨H.length,0,some 1⟩),H++[.cells [.int IntKind.i64 0] 3]):=by kernel_rfl
@[simp] theorem tg4:tagg prog 4=some false:=by kernel_rfl
@[simp] theorem ts4:tsize prog 4=some 1:=by kernel_rfl
@[simp] theorem tg5:tagg prog 5=some false:=by kernel_rfl
@[simp] theorem ts5:tsize prog 5=some 1:=by kernel_rfl
@[simp] theorem tu5:prog.underlying 5=some (TypeDesc.int IntKind.u8):=by kernel_rfl
@[simp] theorem tg9:tagg prog 9=some false:=by kernel_rfl
@[simp] theorem ts9:tsize prog 9=some 1:=by kernel_rfl
@[simp] theorem tbs22 (H:AHeap) (n:Nat) (l:List (Nat × Value)):aBuildSlice prog H 22 n l=bslV 46 #[.int IntKind.u32 0,.string ⟨#[]⟩,.int IntKind.u8 0,.int IntKind.i64 0,.int IntKind.i64 0] H n l:=by kernel_rfl
@[simp] theorem tg23:tagg prog 23=some false:=by kernel_rfl
@[simp] theorem ts23:tsize prog 23=some 1:=by kernel_rfl
@[simp] theorem tbs23 (H:AHeap) (n:Nat) (l:List (Nat × Value)):aBuildSlice prog H 23 n l=bslV 44 #[.int IntKind.u32 0,.int IntKind.i64 0] H n l:=by kernel_rfl
@[simp] theorem tg26:tagg prog 26=some false:=by kernel_rfl
@[simp] theorem ts26:tsize prog 26=some 1:=by kernel_rfl
@[simp] theorem tbs26 (H:AHeap) (n:Nat) (l:List (Nat × Value)):aBuildSlice prog H 26 n l=bslV 40 #[.string ⟨#[]⟩,.string ⟨#[]⟩,.slice none 0 0,.int IntKind.i64 0,.int IntKind.i64 0,.int IntKind.i64 0,.slice none 0 0,.string ⟨#[]⟩] H n l:=by kernel_rfl
@[simp] theorem tg29:tagg prog 29=some true:=by kernel_rfl
@[simp] theorem ts29:tsize prog 29=some 4:=by kernel_rfl
@[simp] theorem tf29x0:afield prog 29 0=some (0,26):=by kernel_rfl
@[simp] theorem tal29 (H:AHeap):aAlloc prog H 29=some (.pointer (some ⟨H.length,0,some 4⟩),H++[.cells [.slice none 0 0,.slice none 0 0,.int IntKind.i64 0,.int IntKind.i64 0] 29]):=by kernel_rfl
@[simp] theorem tbv29 (l:List (Nat × Value)):buildV prog 29 l=bldV #[.slice none 0 0,.slice none 0 0,.int IntKind.i64 0,.int IntKind.i64 0] [(0,1),(1,1),(2,1),(3,1)] l:=by kernel_rfl
@[simp] theorem tg34:tagg prog 34=some false:=by kernel_rfl
@[simp] theorem ts34:tsize prog 34=some 1:=by kernel_rfl
@[simp] theorem tal34 (H:AHeap):aAlloc prog H 34=some (.pointer (some ⟨H.length,0,some 1⟩),H++[.cells [.slice none 0 0] 34]):=by kernel_rfl
@[simp] theorem tbs34 (H:AHeap) (n:Nat) (l:List (Nat × Value)):aBuildSlice prog H 34 n l=bslV 89 #[.int IntKind.u8 0,.int IntKind.u8 0,.slice none 0 0,.int IntKind.i64 0,.int IntKind.u8 0,.int IntKind.i64 0,.int IntKind.i64 0,.int IntKind.i64 0] H n l:=by kernel_rfl
@[simp] theorem tel34:aElem prog 34=some (89,8,72):=by kernel_rfl
@[simp] theorem tg35:tagg prog 35=some false:=by kernel_rfl
@[simp] theorem ts35:tsize prog 35=some 1:=by kernel_rfl
@[simp] theorem tal35 (H:AHeap):aAlloc prog H 35=some (.pointer (some ⟨H.length,0,some 1⟩),H++[.cells [.int IntKind.i64 0] 35]):=by kernel_rfl
@[simp] theorem tbs38 (H:AHeap) (n:Nat) (l:List (Nat × Value)):aBuildSlice prog H 38 n l=bslV 9 #[.string ⟨#[]⟩] H n l:=by kernel_rfl
@[simp] theorem tg40:tagg prog 40=some true:=by kernel_rfl
@[simp] theorem ts40:tsize prog 40=some 8:=by kernel_rfl
@[simp] theorem tf40x1:afield prog 40 1=some (1,9):=by kernel_rfl
@[simp] theorem tf40x2:afield prog 40 2=some (2,34):=by kernel_rfl
@[simp] theorem tf40x3:afield prog 40 3=some (3,3):=by kernel_rfl
@[simp] theorem tf40x4:afield prog 40 4=some (4,3):=by kernel_rfl
@[simp] theorem tal40 (H:AHeap):aAlloc prog H 40=some (.pointer (some ⟨H.length,0,some 8⟩),H++[.cells [.string ⟨#[]⟩,.string ⟨#[]⟩,.slice none 0 0,.int IntKind.i64 0,.int IntKind.i64 0,.int IntKind.i64 0,.slice none 0 0,.string ⟨#[]⟩] 40]):=by kernel_rfl
@[simp] theorem tbv40 (l:List (Nat × Value)):buildV prog 40 l=bldV #[.string ⟨#[]⟩,.string ⟨#[]⟩,.slice none 0 0,.int IntKind.i64 0,.int IntKind.i64 0,.int IntKind.i64 0,.slice none 0 0,.string ⟨#[]⟩] [(0,1),(1,1),(2,1),(3,1),(4,1),(5,1),(6,1),(7,1)] l:=by kernel_rfl
@[simp] theorem tg41:tagg prog 41=some false:=by kernel_rfl
@[simp] theorem ts41:tsize prog 41=some 1:=by kernel_rfl
@[simp] theorem tu41:prog.underlying 41=some (TypeDesc.int IntKind.u32):=by kernel_rfl
@[simp] theorem tg42:tagg prog 42=some false:=by kernel_rfl
@[simp] theorem ts42:tsize prog 42=some 1:=by kernel_rfl
@[simp] theorem tg44:tagg prog 44=some true:=by kernel_rfl
@[simp] theorem ts44:tsize prog 44=some 2:=by kernel_rfl
@[simp] theorem tf44x0:afield prog 44 0=some (0,41):=by kernel_rfl
@[simp] theorem tf44x1:afield prog 44 1=some (1,3):=by kernel_rfl
@[simp] theorem tal44 (H:AHeap):aAlloc prog H 44=some (.pointer (some ⟨H.length,0,some 2⟩),H++[.cells [.int IntKind.u32 0,.int IntKind.i64 0] 44]):=by kernel_rfl
@[simp] theorem tbv44 (l:List (Nat × Value)):buildV prog 44 l=bldV #[.int IntKind.u32 0,.int IntKind.i64 0] [(0,1),(1,1)] l:=by kernel_rfl
@[simp] theorem tg46:tagg prog 46=some true:=by kernel_rfl
@[simp] theorem ts46:tsize prog 46=some 5:=by kernel_rfl
@[simp] theorem tf46x0:afield prog 46 0=some (0,41):=by kernel_rfl
@[simp] theorem tf46x1:afield prog 46 1=some (1,9):=by kernel_rfl
@[simp] theorem tal46 (H:AHeap):aAlloc prog H 46=some (.pointer (some ⟨H.length,0,some 5⟩),H++[.cells [.int IntKind.u32 0,.string ⟨#[]⟩,.int IntKind.u8 0,.int IntKind.i64 0,.int IntKind.i64 0] 46]):=by kernel_rfl
@[simp] theorem tbv46 (l:List (Nat × Value)):buildV prog 46 l=bldV #[.int IntKind.u32 0,.string ⟨#[]⟩,.int IntKind.u8 0,.int IntKind.i64 0,.int IntKind.i64 0] [(0,1),(1,1),(2,1),(3,1),(4,1)] l:=by kernel_rfl
@[simp] theorem tg47:tagg prog 47=some false:=by kernel_rfl
@[simp] theorem ts47:tsize prog 47=some 1:=by kernel_rfl
@[simp] theorem tal47 (H:AHeap):aAlloc prog H 47=some (.pointer (some ⟨H.length,0,some 1⟩),H++[.cells [.map none] 47]):=by kernel_rfl
@[simp] theorem tm47:mtype prog 47=some ((TypeDesc.int IntKind.u32),3):=by kernel_rfl
@[simp] theorem tz47:tzero prog 3=some (.int IntKind.i64 0):=by kernel_rfl
@[simp] theorem tg51:tagg prog 51=some false:=by kernel_rfl
@[simp] theorem ts51:tsize prog 51=some 1:=by kernel_rfl
@[simp] theorem tg56:tagg prog 56=some false:=by kernel_rfl
@[simp] theorem ts56:tsize prog 56=some 1:=by kernel_rfl
@[simp] theorem tal56 (H:AHeap):aAlloc prog H 56=some (.pointer (some ⟨H.length,0,some 1⟩),H++[.cells [.slice none 0 0] 56]):=by kernel_rfl
@[simp] theorem tbs56 (H:AHeap) (n:Nat) (l:List (Nat × Value)):aBuildSlice prog H 56 n l=bslV 84 #[.int IntKind.u8 0,.string ⟨#[]⟩,.int IntKind.i64 0] H n l:=by kernel_rfl
@[simp] theorem tg61:tagg prog 61=some false:=by kernel_rfl
@[simp] theorem ts61:tsize prog 61=some 1:=by kernel_rfl
@[simp] theorem tf63x0:afield prog 63 0=some (0,56):=by kernel_rfl
@[simp] theorem tf63x1:afield prog 63 1=some (1,3):=by kernel_rfl
@[simp] theorem tf63x2:afield prog 63 2=some (2,4):=by kernel_rfl
@[simp] theorem tbv63 (l:List (Nat × Value)):buildV prog 63 l=bldV #[.slice none 0 0,.int IntKind.i64 0,.bool false] [(0,1),(1,1),(2,1)] l:=by kernel_rfl
@[simp] theorem tg69:tagg prog 69=some false:=by kernel_rfl
@[simp] theorem ts69:tsize prog 69=some 1:=by kernel_rfl
@[simp] theorem tbs69 (H:AHeap) (n:Nat) (l:List (Nat × Value)):aBuildSlice prog H 69 n l=bslV 5 #[.int IntKind.u8 0] H n l:=by kernel_rfl
@[simp] theorem tel69:aElem prog 69=some (5,1,1):=by kernel_rfl
@[simp] theorem tbs77 (H:AHeap) (n:Nat) (l:List (Nat × Value)):aBuildSlice prog H 77 n l=bslV 3 #[.int IntKind.i64 0] H n l:=by kernel_rfl
@[simp] theorem tg84:tagg prog 84=some true:=by kernel_rfl
@[simp] theorem ts84:tsize prog 84=some 3:=by kernel_rfl
@[simp] theorem tf84x0:afield prog 84 0=some (0,5):=by kernel_rfl
@[simp] theorem tf84x1:afield prog 84 1=some (1,9):=by kernel_rfl
@[simp] theorem tf84x2:afield prog 84 2=some (2,3):=by kernel_rfl
@[simp] theorem tal84 (H:AHeap):aAlloc prog H 84=some (.pointer (some ⟨H.length,0,some 3⟩),H++[.cells [.int IntKind.u8 0,.string ⟨#[]⟩,.int IntKind.i64 0] 84]):=by kernel_rfl
@[simp] theorem tbv84 (l:List (Nat × Value)):buildV prog 84 l=bldV #[.int IntKind.u8 0,.string ⟨#[]⟩,.int IntKind.i64 0] [(0,1),(1,1),(2,1)] l:=by kernel_rfl
@[simp] theorem tg85:tagg prog 85=some false:=by kernel_rfl
@[simp] theorem ts85:tsize prog 85=some 1:=by kernel_rfl
@[simp] theorem tal85 (H:AHeap):aAlloc prog H 85=some (.pointer (some ⟨H.length,0,some 1⟩),H++[.cells [.nilFunc] 85]):=by kernel_rfl
@[simp] theorem tg87:tagg prog 87=some false:=by kernel_rfl
@[simp] theorem ts87:tsize prog 87=some 1:=by kernel_rfl
@[simp] theorem tbs87 (H:AHeap) (n:Nat) (l:List (Nat × Value)):aBuildSlice prog H 87 n l=bslV 153 #[.string ⟨#[]⟩,.int IntKind.u8 0,.string ⟨#[]⟩] H n l:=by kernel_rfl
@[simp] theorem tg89:tagg prog 89=some true:=by kernel_rfl
@[simp] theorem ts89:tsize prog 89=some 8:=by kernel_rfl
@[simp] theorem tf89x0:afield prog 89 0=some (0,5):=by kernel_rfl
@[simp] theorem tf89x1:afield prog 89 1=some (1,5):=by kernel_rfl
@[simp] theorem tf89x2:afield prog 89 2=some (2,87):=by kernel_rfl
@[simp] theorem tf89x3:afield prog 89 3=some (3,3):=by kernel_rfl
@[simp] theorem tf89x4:afield prog 89 4=some (4,5):=by kernel_rfl
@[simp] theorem tf89x5:afield prog 89 5=some (5,2):=by kernel_rfl
@[simp] theorem tf89x6:afield prog 89 6=some (6,3):=by kernel_rfl
@[simp] theorem tf89x7:afield prog 89 7=some (7,3):=by kernel_rfl
@[simp] theorem tal89 (H:AHeap):aAlloc prog H 89=some (.pointer (some ⟨H.length,0,some 8⟩),H++[.cells [.int IntKind.u8 0,.int IntKind.u8 0,.slice none 0 0,.int IntKind.i64 0,.int IntKind.u8 0,.int IntKind.i64 0,.int IntKind.i64 0,.int IntKind.i64 0] 89]):=by kernel_rfl
@[simp] theorem tbv89 (l:List (Nat × Value)):buildV prog 89 l=bldV #[.int IntKind.u8 0,.int IntKind.u8 0,.slice none 0 0,.int IntKind.i64 0,.int IntKind.u8 0,.int IntKind.i64 0,.int IntKind.i64 0,.int IntKind.i64 0] [(0,1),(1,1),(2,1),(3,1),(4,1),(5,1),(6,1),(7,1)] l:=by kernel_rfl
@[simp] theorem tg92:tagg prog 92=some false:=by kernel_rfl
@[simp] theorem ts92:tsize prog 92=some 1:=by kernel_rfl
@[simp] theorem ts94:tsize prog 94=some 2:=by kernel_rfl
@[simp] theorem tf94x0:afield prog 94 0=some (0,92):=by kernel_rfl
@[simp] theorem tf94x1:afield prog 94 1=some (1,69):=by kernel_rfl
@[simp] theorem tal94 (H:AHeap):aAlloc prog H 94=some (.pointer (some ⟨H.length,0,some 2⟩),H++[.cells [.pointer none,.slice none 0 0] 94]):=by kernel_rfl
@[simp] theorem tg96:tagg prog 96=some false:=by kernel_rfl
@[simp] theorem ts96:tsize prog 96=some 1:=by kernel_rfl
@[simp] theorem tu96 : prog.underlying 96 = some (TypeDesc.interface #[("Error", 99)]) := by kernel_rfl
@[simp] theorem tg117:tagg prog 117=some false:=by kernel_rfl
@[simp] theorem ts117:tsize prog 117=some 1:=by kernel_rfl
@[simp] theorem tu117:prog.underlying 117=some (TypeDesc.int IntKind.u64):=by kernel_rfl
@[simp] theorem tbs133 (H:AHeap) (n:Nat) (l:List (Nat × Value)):aBuildSlice prog H 133 n l=bslV 69 #[.slice none 0 0] H n l:=by kernel_rfl
@[simp] theorem tm149:mtype prog 149=some (TypeDesc.string,3):=by kernel_rfl
@[simp] theorem tz149:tzero prog 3=some (.int IntKind.i64 0):=by kernel_rfl
@[simp] theorem tg153:tagg prog 153=some true:=by kernel_rfl
@[simp] theorem ts153:tsize prog 153=some 3:=by kernel_rfl
@[simp] theorem tf153x0:afield prog 153 0=some (0,9):=by kernel_rfl
@[simp] theorem tf153x1:afield prog 153 1=some (1,5):=by kernel_rfl
@[simp] theorem tf153x2:afield prog 153 2=some (2,9):=by kernel_rfl
@[simp] theorem tal153 (H:AHeap):aAlloc prog H 153=some (.pointer (some ⟨H.length,0,some 3⟩),H++[.cells [.string ⟨#[]⟩,.int IntKind.u8 0,.string ⟨#[]⟩] 153]):=by kernel_rfl
@[simp] theorem tbv153 (l:List (Nat × Value)):buildV prog 153 l=bldV #[.string ⟨#[]⟩,.int IntKind.u8 0,.string ⟨#[]⟩] [(0,1),(1,1),(2,1)] l:=by kernel_rfl
@[simp] theorem tal160 (H:AHeap):aAlloc prog H 160=some (.pointer (some ⟨H.length,0,some 24⟩),H++[.cells [.int IntKind.u8 0,.int IntKind.u8 0,.int IntKind.u8 0,.int IntKind.u8 0,.int IntKind.u8 0,.int IntKind.u8 0,.int IntKind.u8 0,.int IntKind.u8 0,.int IntKind.u8 0,.int IntKind.u8 0,.int IntKind.u8 0,.int IntKind.u8 0,.int IntKind.u8 0,.int IntKind.u8 0,.int IntKind.u8 0,.int IntKind.u8 0,.int IntKind.u8 0,.int IntKind.u8 0,.int IntKind.u8 0,.int IntKind.u8 0,.int IntKind.u8 0,.int IntKind.u8 0,.int IntKind.u8 0,.int IntKind.u8 0] 160]):=by kernel_rfl
@[simp] theorem tm165:mtype prog 165=some ((TypeDesc.int IntKind.u8),169):=by kernel_rfl
@[simp] theorem tz165:tzero prog 169=some (.agg #[.string ⟨#[]⟩,.nilFunc]):=by kernel_rfl
@[simp] theorem ts169:tsize prog 169=some 2:=by kernel_rfl
@[simp] theorem tf169x0:afield prog 169 0=some (0,9):=by kernel_rfl
@[simp] theorem tal169 (H:AHeap):aAlloc prog H 169=some (.pointer (some ⟨H.length,0,some 2⟩),H++[.cells [.string ⟨#[]⟩,.nilFunc] 169]):=by kernel_rfl
@[simp] theorem tbv169 (l:List (Nat × Value)):buildV prog 169 l=bldV #[.string ⟨#[]⟩,.nilFunc] [(0,1),(1,1)] l:=by kernel_rfl
@[simp] theorem tm175:mtype prog 175=some ((TypeDesc.int IntKind.u8),3):=by kernel_rfl
@[simp] theorem tbv215 (l:List (Nat × Value)):buildV prog 215 l=bldV #[.string ⟨#[]⟩,.string ⟨#[]⟩,.nilIface] [(0,1),(1,1),(2,1)] l:=by kernel_rfl
end Go.Vi
namespace Go.Vi
open Go.RowKit
variable {P:Program}
def keepP (P:Program) (ops:Array Oper) (mask:Nat) (H:AHeap):List (Nat × Oper × List Value × Value)→Prop
 | []=>True
 | (j,o,sl,v) :: r=>if mask.testBit j=true then keepP P ops mask H r else gval P ops sl H o=some v∧keepP P ops mask H r
theorem keepP_get {ops mask H}:∀ {ps:List (Nat × Oper × List Value × Value)},keepP P ops mask H ps→∀ {j o sl v},(j,o,sl,v)∈ps→mask.testBit j=false→gval P ops sl H o=some v:=by
 intro ps
 induction ps with
 | nil=>intro _ j o sl v hm;cases hm
 | cons e r ih =>
   obtain ⟨j0,o0,sl0,v0⟩:=e
   intro h j o sl v hm hb
   unfold keepP at h
   rcases List.mem_cons.1 hm with he | hm
   · cases he
     rw [if_neg (by simp [hb])] at h
     exact h.1
   · split at h
     · exact ih h hm hb
     · exact ih h.2 hm hb
def kdrawK (P:Program) (ops:Array Oper) (k:List Value→AHeap→Prop):List Oper→List DRow→Nat→List (Nat × Oper × List Value × Value)→List Value→AHeap→List AHeap→Prop
 | o :: os, r :: rs, p, ps, sl, H, hs =>
   if r.eff=true then ∃ v H',geff P ops sl H o v H'∧(r.bar=true∨(∃ X,H'=H++X)∨r.late=true∧keepP P ops r.mask H' ps)∧kdrawK P ops k os rs (p+1) ps (aput sl o.dst v) H' (H :: hs)
   else match (H :: hs)[r.back]? with
    | some K => if freeOp o.op = true then ∃ v, gval P ops sl K o = some v ∧ kdrawK P ops k os rs (p + 1) ps (aput sl o.dst v) H hs
      else if pureOp P o.op=true then ∃ v,gval P ops sl K o=some v∧kdrawK P ops k os rs (p+1) ((p,o,sl,v) :: ps) (aput sl o.dst v) H hs
      else False
    | none=>False
 | [],_,_,_,sl,H,_=>k sl H
 | _,[],_,_,_,_,_=>False
theorem free_pure {o:Oper} (h:freeOp o.op=true):pureOp P o.op=true:=by
 unfold freeOp at h
 split at h<;>first | (rename_i e;rw [e];rfl) | cases h
theorem kdrawK_trace {ops} {k:List Value→AHeap→Prop}:∀ (os:List Oper) (rs:List DRow) (p0:Nat) (ps:List (Nat × Oper × List Value × Value)) (sl:List Value) (H:AHeap) (hs:List AHeap) (f0:Nat→List Value) (g0:Nat→Value),
  kdrawK P ops k os rs p0 ps sl H hs →
  (∀ (j:Nat) (o:Oper),j < p0→ops[j]?=some o→¬ deff P ops j=true→¬ freeOp o.op=true→(j,o,f0 j,g0 j)∈ps) →
  (∀ i,os[i]?=ops[p0+i]?)→(∀ (i:Nat) (r:DRow),rs[i]?=some r→r.eff=true→deff P ops (p0+i)=true) →
  ∃ (f : Nat → List Value) (g : Nat → Value) (G : Nat → AHeap) (c : Nat → Nat), (∀ j, j < p0 → f j = f0 j ∧ g j = g0 j) ∧ f p0 = sl ∧ c p0 = hs.length ∧ (∀ i X, (H :: hs)[i]? = some X → G (hs.length - i) = X) ∧
    k (f (p0+os.length)) (G (c (p0+os.length)))∧∀ p o r,os[p]?=some o→rs[p]?=some r→RStepK P ops f g G c (p0+p) o r:=by
 intro os
 induction os with
 | nil =>
   intro rs p0 ps sl H hs f0 g0 h _ _ _
   simp only [kdrawK] at h
   have hk:∀ i X,(H :: hs)[i]?=some X→(fun i=>((H :: hs)[hs.length-i]?).getD []) (hs.length-i)=X:=by
    intro i X hX
    have:=(List.getElem?_eq_some_iff.1 hX).1
    simp only [List.length_cons] at this
    have e:hs.length-(hs.length-i)=i:=by omega
    show ((H :: hs)[hs.length-(hs.length-i)]?).getD []=X
    rw [e,hX];rfl
   refine ⟨fun j=>if j < p0 then f0 j else sl,g0,fun i=>((H :: hs)[hs.length-i]?).getD [],fun _=>hs.length,fun j hj=>⟨by simp [hj],rfl⟩,by simp,rfl,hk,by simpa using h,by simp⟩
 | cons o os ih =>
   intro rs p0 ps sl H hs f0 g0 h hps hos hrs
   cases rs with
   | nil=>simp [kdrawK] at h
   | cons r rs =>
     have ho0:ops[p0]?=some o:=by have:=hos 0;simpa using this.symm
     have hos':∀ i,os[i]?=ops[p0+1+i]?:=fun i=>by have:=hos (i+1);simp only [List.getElem?_cons_succ] at this;rw [this];congr 1;omega
     have hrs':∀ (i:Nat) (r:DRow),rs[i]?=some r→r.eff=true→deff P ops (p0+1+i)=true:=fun i r hr he=>by
      have:=hrs (i+1) r (by simpa using hr) he
      rwa [show p0+(i+1)=p0+1+i by omega] at this
     simp only [kdrawK] at h
     split at h
     · rename_i he
       obtain ⟨v,H2,hg,hb,h⟩:=h
       obtain ⟨f,g,G,c,hfg,fp,cp,hG,fe,st⟩:=ih rs (p0+1) ps _ _ _ (fun j=>if j < p0 then f0 j else sl) (fun j=>if j < p0 then g0 j else v) h
        (fun j oj hj hoj hd hf=>by
         have hne:j≠p0:=fun e=>hd (by rw [e];exact hrs 0 r rfl he)
         have hlt:j < p0:=by omega
         simp only [if_pos hlt];exact hps j oj hlt hoj hd hf) hos' hrs'
       have hGH:G hs.length=H:=by have:=hG 1 H rfl;simpa using this
       have hGH2:G (hs.length+1)=H2:=by have:=hG 0 H2 rfl;simpa using this
       have hf0:f p0=sl:=by rw [(hfg p0 (by omega)).1];simp
       have hg0:g p0=v:=by rw [(hfg p0 (by omega)).2];simp
       refine ⟨f,g,G,fun p=>if p=p0 then hs.length else c p,fun j hj=>?_,hf0,by simp,fun i X hX=>?_,?_,fun p o' r' ho hr=>?_⟩
       · have:=hfg j (by omega);simpa [hj] using this
       · have:=hG (i+1) X (by simpa using hX)
         simpa using this
       · have e1:¬ p0+(os.length+1)=p0:=by omega
         simp only [List.length_cons,e1,if_false]
         rw [show p0+(os.length+1)=p0+1+os.length by omega];exact fe
       · cases p with
         | zero =>
           simp at ho hr;subst ho hr
           have e1:¬ p0+1=p0:=by omega
           show RStepK P ops f g G _ p0 o r
           refine ⟨by rw [fp,hf0,hg0],fun _=>⟨by simp [cp],?_,?_⟩,fun q=>by rw [he] at q;cases q⟩
           · simp only [eq_self,if_true];rw [hGH,hGH2,hf0,hg0];exact geff_step hg
           · simp only [eq_self,if_true];rw [hGH,hGH2]
             refine hb.imp id (Or.imp id fun q=>⟨q.1,fun j o' hj hoj hd hf hm=>?_⟩)
             have hin:=hps j o' hj hoj hd hf
             have h1:=hfg j (by omega)
             simp only [if_pos hj] at h1
             rw [h1.1,h1.2]
             have hpure:pureOp P o'.op=true:=by
              unfold deff at hd
              simpa [hoj] using hd
             exact gval_step hpure (keepP_get q.2 hin hm)
         | succ p =>
           have k:=st p o' r' (by simpa using ho) (by simpa using hr)
           have e0:p0+1+p=p0+(p+1):=by omega
           rw [e0] at k
           have e1:¬ p0+(p+1)=p0:=by omega
           have e2:¬ p0+(p+1)+1=p0:=by omega
           exact ⟨k.put,fun q=>by simp only [e1,e2,if_false];exact k.eff q,fun q=>by simp only [e1,e2,if_false];exact k.pur q⟩
     · rename_i he
       obtain ⟨K,hk,hp,v,ps',hg,hps',h⟩:∃ K,(H :: hs)[r.back]?=some K∧pureOp P o.op=true∧∃ v ps',gval P ops sl K o=some v∧(freeOp o.op=true∧ps'=ps∨ps'=(p0,o,sl,v) :: ps)∧kdrawK P ops k os rs (p0+1) ps' (aput sl o.dst v) H hs:=by
        split at h
        · rename_i K hK
          split at h
          · rename_i hp
            obtain ⟨v,hv,h⟩:=h
            exact ⟨K,hK,free_pure hp,v,ps,hv,.inl ⟨hp,rfl⟩,h⟩
          · split at h
            · rename_i hp;obtain ⟨v,hv,h⟩:=h;exact ⟨K,hK,hp,v,_,hv,.inr rfl,h⟩
            · cases h
        · cases h
       obtain ⟨f,g,G,c,hfg,fp,cp,hG,fe,st⟩:=ih rs (p0+1) ps' _ _ _ (fun j=>if j < p0 then f0 j else sl) (fun j=>if j < p0 then g0 j else v) h
        (fun j oj hj hoj hd hf=>by
         by_cases hlt:j < p0
         · simp only [if_pos hlt]
           have:=hps j oj hlt hoj hd hf
           rcases hps' with ⟨_,e⟩ | e
           · rw [e];exact this
           · rw [e];exact List.mem_cons_of_mem _ this
         · have hje:j=p0:=by omega
           subst hje
           rw [ho0] at hoj;cases hoj
           simp only [Nat.lt_irrefl,if_false]
           rcases hps' with ⟨q,_⟩ | e
           · exact absurd q hf
           · rw [e];exact List.mem_cons_self ..) hos' hrs'
       have hf0:f p0=sl:=by rw [(hfg p0 (by omega)).1];simp
       have hg0:g p0=v:=by rw [(hfg p0 (by omega)).2];simp
       refine ⟨f,g,G,fun p=>if p=p0 then hs.length else c p,fun j hj=>?_,hf0,by simp,hG,?_,fun p o' r' ho hr=>?_⟩
       · have:=hfg j (by omega);simpa [hj] using this
       · have e1:¬ p0+(os.length+1)=p0:=by omega
         simp only [List.length_cons,e1,if_false]
         rw [show p0+(os.length+1)=p0+1+os.length by omega];exact fe
       cases p with
       | zero =>
         simp at ho hr;subst ho hr
         have e1:¬ p0+1=p0:=by omega
         have hbk:=(List.getElem?_eq_some_iff.1 hk).1
         simp only [List.length_cons] at hbk
         show RStepK P ops f g G _ p0 o r
         refine ⟨by rw [fp,hf0,hg0],fun q=>absurd q he,fun _=>⟨by simp [cp],?_,?_⟩⟩
         · simp only [eq_self,if_true];omega
         · simp only [eq_self,if_true];rw [hG _ _ hk,hf0,hg0];exact gval_step hp hg
       | succ p =>
         have k:=st p o' r' (by simpa using ho) (by simpa using hr)
         have e0:p0+1+p=p0+(p+1):=by omega
         rw [e0] at k
         have e1:¬ p0+(p+1)=p0:=by omega
         have e2:¬ p0+(p+1)+1=p0:=by omega
         exact ⟨k.put,fun q=>by simp only [e1,e2,if_false];exact k.eff q,fun q=>by simp only [e1,e2,if_false];exact k.pur q⟩
theorem kdrawK_any [Ctx] {w0 s H w sl a ops rs k Q} (hw:WRel w0 s H w) (ha:ARel s H sl a) (hr:drows P ops=some rs) (h:kdrawK P ops k ops.toList rs 0 [] sl H [])
  (hq:∀ sl' H',k sl' H'→APost w0 s H Q .normal (sl',H')):wpAnyIn FF 0 P .any ops Q ops.size (Array.replicate ops.size false) a { w with drawn:=w.drawn+1 }:=by
 obtain ⟨T,hok,rfl⟩:=drows_inv hr
 clear hr
 have hs:Sound P ops T:=⟨hok⟩
 have row:∀ p,p < ops.size→((List.range ops.size).map (T.row P ops))[p]?=some (T.row P ops p):=by
  intro p hp;simp [hp]
 obtain ⟨f,g,G,c,_,f0,c0,hG,fe,st⟩:=kdrawK_trace _ _ 0 [] _ _ _ (fun _=>sl) (fun _=>undef) h (fun j _ hj=>absurd hj (by omega)) (fun i=>by simp) (fun i r hr he=>by
  have hi:i < ops.size:=by have:=(List.getElem?_eq_some_iff.1 hr).1;simpa using this
  rw [row i hi] at hr
  cases hr
  rw [Nat.zero_add]
  cases hd:deff P ops i with
  | true=>rfl
  | false=>simp [DTab.row,hd] at he)
 simp only [Nat.zero_add] at fe st
 have hc:∀ p,p≤ops.size→c p=T.idx.getD p 0:=by
  intro p
  induction p with
  | zero=>intro _;rw [c0,hs.ends.1];rfl
  | succ p ih =>
    intro hp
    have ho:ops[p]?=some ops[p]:=Array.getElem?_eq_getElem (by omega)
    have k:=st p ops[p] _ (by simp) (row p (by omega))
    by_cases he:deff P ops p=true
    · have:=(k.eff (by simp [DTab.row,he])).1
      rw [this,ih (by omega),(hs.effAt ho he).2.1]
    · have:=(k.pur (by simp [DTab.row,he])).1
      rw [this,ih (by omega),(hs.pureAt ho he).1]
 have hd:RRun P ops T f g G:=by
  refine ⟨hs,fun p o ho=>?_⟩
  have hp:=(Array.getElem?_eq_some_iff.1 ho).1
  have k:=st p o _ (by simpa using ho) (row p hp)
  refine ⟨k.put,fun q=>?_,fun q=>?_⟩
  · have:=k.eff q
    rw [hc p (by omega),hc (p+1) (by omega)] at this
    exact this
  · have:=k.pur q
    rw [hc p (by omega),hc (p+1) (by omega)] at this
    exact this
 have g0:G 0=H:=by simpa using hG 0 H rfl
 have he:c ops.toList.length=T.effs.length:=by simp only [Array.length_toList];rw [hc ops.size (Nat.le_refl _),hs.ends.2.1]
 rw [he] at fe
 simp only [Array.length_toList] at fe
 refine hd.wp (H0:=H) (s0:=s) ops.size (l:=Array.replicate ops.size false) (sl:=f 0) (k:=0) ?_ (by simp) (by rw [g0];exact hw.drew) (by rw [g0,f0];exact ha) (by rw [g0];exact Ext.refl _ _) (fun s' a' w' g1 g2 g3=>hq _ _ fe s' a' w' g1 g2 g3)
 have nol:∀ i,¬ isListed (Array.replicate ops.size false) i:=by
  intro i
  unfold isListed
  simp [Array.getD]
 exact ⟨by simp,fun j o _ h=>absurd h (nol j),rfl,fun t _=>rfl,fun i o t _ h=>absurd h (nol i),fun i q _=>⟨fun h=>absurd h (nol q),fun h=>by omega⟩,by omega⟩
def drawKeep (P:Program):DrawK:=fun ops k sl H=>match drows P ops with
 | some rs=>kdrawK P ops k ops.toList rs 0 [] sl H []
 | none=>False
theorem drawKeep_sound [Ctx] (hm:P.follows .mixedOrders=true):SoundK P (drawKeep P):=by
 intro w0 s H w sl a id ops k Q hw ha h hq
 unfold drawKeep at h
 split at h
 · rename_i rs hr;exact wpIn_region_any hm (kdrawK_any hw ha hr h hq)
 · cases h
theorem kdrawK_mono {ops} {k k':List Value→AHeap→Prop} (hk:∀ sl H,k sl H→k' sl H):∀ (os:List Oper) (rs:List DRow) {p ps sl H hs},kdrawK P ops k os rs p ps sl H hs→kdrawK P ops k' os rs p ps sl H hs:=by
 intro os
 induction os with
 | nil=>intro rs p ps sl H hs h;simp only [kdrawK] at h ⊢;exact hk _ _ h
 | cons o os ih =>
   intro rs p ps sl H hs h
   cases rs with
   | nil=>simp [kdrawK] at h
   | cons r rs =>
     simp only [kdrawK] at h ⊢
     split at h
     · rename_i he
       obtain ⟨v,H2,hg,hb,h⟩:=h
       rw [if_pos he];exact ⟨v,H2,hg,hb,ih rs h⟩
     · rename_i he
       rw [if_neg he]
       split at h
       · rename_i K hK
         split at h
         · rename_i hp
           obtain ⟨v,hv,h⟩:=h
           rw [if_pos hp];exact ⟨v,hv,ih rs h⟩
         · rename_i hp
           rw [if_neg hp]
           split at h
           · rename_i hq
             obtain ⟨v,hv,h⟩:=h
             rw [if_pos hq];exact ⟨v,hv,ih rs h⟩
           · cases h
       · cases h
theorem kdrawK_one {ops} {k:List Value→AHeap→Prop}:∀ (os:List Oper) (rs:List DRow) {p ps sl H hs},kdrawK P ops k os rs p ps sl H hs→∃ sl' H',k sl' H'∧kdrawK P ops (fun s2 h2=>s2=sl'∧h2=H') os rs p ps sl H hs:=by
 intro os
 induction os with
 | nil=>intro rs p ps sl H hs h;simp only [kdrawK] at h;exact ⟨sl,H,h,by simp only [kdrawK];trivial⟩
 | cons o os ih =>
   intro rs p ps sl H hs h
   cases rs with
   | nil=>simp [kdrawK] at h
   | cons r rs =>
     simp only [kdrawK] at h
     split at h
     · rename_i he
       obtain ⟨v,H2,hg,hb,h⟩:=h
       obtain ⟨a,b,h1,h2⟩:=ih rs h
       refine ⟨a,b,h1,?_⟩
       simp only [kdrawK,if_pos he];exact ⟨v,H2,hg,hb,h2⟩
     · rename_i he
       split at h
       · rename_i K hK
         split at h
         · rename_i hp
           obtain ⟨v,hv,h⟩:=h
           obtain ⟨a,b,h1,h2⟩:=ih rs h
           refine ⟨a,b,h1,?_⟩
           simp only [kdrawK,if_neg he,hK,if_pos hp];exact ⟨v,hv,h2⟩
         · rename_i hp
           split at h
           · rename_i hq
             obtain ⟨v,hv,h⟩:=h
             obtain ⟨a,b,h1,h2⟩:=ih rs h
             refine ⟨a,b,h1,?_⟩
             simp only [kdrawK,if_neg he,hK,if_neg hp,if_pos hq];exact ⟨v,hv,h2⟩
           · cases h
       · cases h
class QK where
 f:Value→AHeap→Prop
def bndK (b l:Bool) (H:AHeap) [e:QH] [s:QK] [q:QH]:Prop:=∃ v H',e.f v H'∧(b=true∨(∃ X,H'=H++X)∨l=true∧s.f v H')∧q.f v H'
theorem bndK_of {b:Bool} {H:AHeap} {e q:QH} {s:QK} {v:Value} {H':AHeap} (h:e.f v H') (hs:s.f v H') (k:q.f v H'):@bndK b true H e s q:=⟨v,H',h,.inr (.inr ⟨rfl,hs⟩),k⟩
theorem bndK_ext {b l:Bool} {H:AHeap} {e q:QH} {s:QK} {v:Value} {H':AHeap} (h:e.f v H') (hs:∃ X,H'=H++X) (k:q.f v H'):@bndK b l H e s q:=⟨v,H',h,.inr (.inl hs),k⟩
theorem bndK_bar {l:Bool} {H:AHeap} {e q:QH} {s:QK} {v:Value} {H':AHeap} (h:e.f v H') (k:q.f v H'):@bndK true l H e s q:=⟨v,H',h,.inl rfl,k⟩
end Go.Vi
namespace Go.Vi
open Go
def smS:ByteArray:=⟨#[48,48,48,49,48,50,48,51,48,52,48,53,48,54,48,55,48,56,48,57,49,48,49,49,49,50,49,51,49,52,49,53,49,54,49,55,49,56,49,57,50,48,50,49,50,50,50,51,50,52,50,53,50,54,50,55,50,56,50,57,51,48,51,49,51,50,51,51,51,52,51,53,51,54,51,55,51,56,51,57,52,48,52,49,52,50,52,51,52,52,52,53,52,54,52,55,52,56,52,57,53,48,53,49,53,50,53,51,53,52,53,53,53,54,53,55,53,56,53,57,54,48,54,49,54,50,54,51,54,52,54,53,54,54,54,55,54,56,54,57,55,48,55,49,55,50,55,51,55,52,55,53,55,54,55,55,55,56,55,57,56,48,56,49,56,50,56,51,56,52,56,53,56,54,56,55,56,56,56,57,57,48,57,49,57,50,57,51,57,52,57,53,57,54,57,55,57,56,57,57]⟩
def dgS:ByteArray:=⟨#[48,49,50,51,52,53,54,55,56,57,97,98,99,100,101,102,103,104,105,106,107,108,109,110,111,112,113,114,115,116,117,118,119,120,121,122]⟩
def l8S:ByteArray:=⟨#[0,1,2,2,3,3,3,3,4,4,4,4,4,4,4,4,5,5,5,5,5,5,5,5,5,5,5,5,5,5,5,5,6,6,6,6,6,6,6,6,6,6,6,6,6,6,6,6,6,6,6,6,6,6,6,6,6,6,6,6,6,6,6,6,7,7,7,7,7,7,7,7,7,7,7,7,7,7,7,7,7,7,7,7,7,7,7,7,7,7,7,7,7,7,7,7,7,7,7,7,7,7,7,7,7,7,7,7,7,7,7,7,7,7,7,7,7,7,7,7,7,7,7,7,7,7,7,7,8,8,8,8,8,8,8,8,8,8,8,8,8,8,8,8,8,8,8,8,8,8,8,8,8,8,8,8,8,8,8,8,8,8,8,8,8,8,8,8,8,8,8,8,8,8,8,8,8,8,8,8,8,8,8,8,8,8,8,8,8,8,8,8,8,8,8,8,8,8,8,8,8,8,8,8,8,8,8,8,8,8,8,8,8,8,8,8,8,8,8,8,8,8,8,8,8,8,8,8,8,8,8,8,8,8,8,8,8,8,8,8,8,8,8,8,8,8,8,8,8,8,8,8,8,8,8,8]⟩
end Go.Vi
namespace Go.Vi
open Go Go.Proofs Go.Proofs.Tryz
-- tocsin/expr.Parse
def S9x0 (k:Value→AHeap→Prop) (sl:List Value) (H:AHeap):Prop:=kseq prog (cr (cr (cr (cr (cr (cr (cb Tryz.f9))))))) (kfin prog Tryz.f9 k) .normal sl H
theorem d9 (a0:Value) (H:AHeap) (k:Value→AHeap→Prop):kbody prog Tryz.f9 [a0] H k=(@bndC prog 19 [a0] H ⟨fun d H2=>@bnd (tupV d 0) ⟨fun b=>@bnd (tupV d 1) ⟨fun g=>@bnd (tupV d
 2) ⟨fun f=>@bnd (aBin2 prog H2 .neq 35 (.tmp 16) (.const (.int .i64 0)) f (.int .i64 0)) ⟨fun m=>@kifB m ⟨k (.tuple #[(.slice none 0 0),f]) H2⟩ ⟨@bndC prog 20 [b,(.int .i64 0)] H2 ⟨fun
 e H8=>@bnd (tupV e 0) ⟨fun h=>@bnd (tupV e 1) ⟨fun i=>@bnd (tupV e 2) ⟨fun a=>@bnd (aBin2 prog H8 .eql 35 (.tmp 25) (.const (.int .i64 100)) a (.int .i64 100)) ⟨fun j =>
 @kifB j ⟨k (.tuple #[(.slice none 0 0),a]) H8⟩ ⟨@bnd (aBin2 prog H8 .eql 35 (.tmp 28) (.const (.int .i64 4)) a (.int .i64 4)) ⟨fun l=>@kifB l ⟨@bnd (buildV prog 63 [(0,b),(2,(.bool
 true))]) ⟨fun n=>@bndE (aNew H8 63 n) ⟨fun c H16=>@bndC prog 21 [c] H16 ⟨fun r H18=>@bnd (nilV c) ⟨fun o=>@bnd (aFieldAddr prog H18 63 o 1) ⟨fun p=>@bnd (aLoad
 prog H18 3 p) ⟨fun q=>S9x0  k [a0,undef,(.slice none 0 0),(.int .i64 0),b,g,a,h,q,c,d,a0,d,b,g,f,f,m,undef,e,b,e,h,
 i,a,a,j,undef,a,l,b,n,c,c,r,c,o,p,q,undef,undef,undef,undef,undef,undef] H18⟩⟩⟩⟩⟩⟩⟩ ⟨S9x0  k [a0,undef,(.slice none 0 0),(.int
 .i64 0),b,g,a,h,i,undef,d,a0,d,b,g,f,f,m,undef,e,b,e,h,i,a,a,j,undef,a,l,undef,undef,undef,undef,
 undef,undef,undef,undef,undef,undef,undef,undef,undef,undef,undef] H8⟩⟩⟩⟩⟩⟩⟩⟩⟩⟩⟩⟩⟩⟩):=by kernel_rfl
theorem S9x0q (R S T U c V d e f W g h i j l m n o p q r s t u v w x y z A B C D E F G I J K L M N O P Q:Value) (H:AHeap) (k:Value→AHeap →
 Prop):S9x0 k [R,S,T,U,c,V,d,e,f,W,g,h,i,j,l,m,n,o,p,q,r,s,t,u,v,w,x,y,z,A,B,C,D,E,F,G,I,J,K,L,M,N,O,P,
 Q] H=(@bnd (aLen prog H 56 c) ⟨fun a=>@bnd (aBin2 prog H .neq 3 (.tmp 39) (.tmp 41) f a) ⟨fun b=>@kifB b ⟨k (.tuple #[(.slice none 0 0),(.int .i64 100)]) H⟩ ⟨k (.tuple #[e,d]) H⟩⟩⟩)
:=by kernel_rfl
-- tocsin/finger.Of
theorem d10 (a0:Value) (H:AHeap) (k:Value→AHeap→Prop):kbody prog Tryz.f10 [a0] H k=(@bndE (aNew H 40 a0) ⟨fun e H2=>@bnd (aFieldAddr prog H2 40 e 1) ⟨fun n=>@bnd (aLoad prog H2 9 n)
 ⟨fun o=>@bnd (aFieldAddr prog H2 40 e 3) ⟨fun p=>@bnd (aLoad prog H2 3 p) ⟨fun q=>@bndD false H2 ⟨fun f H8=>ACalls prog 23 [q] H2 f H8⟩ ⟨fun f H8=>@bnd (aFieldAddr prog
 H2 40 e 4) ⟨fun r=>@bnd (aLoad prog H2 3 r) ⟨fun g=>@bndD false H8 ⟨fun a H12=>ACalls prog 23 [g] H8 a H12⟩ ⟨fun a H12=>@bnd (aFieldAddr prog H2 40 e 2) ⟨fun h =>
 @bnd (aLoad prog H2 34 h) ⟨fun i=>@bndD false H12 ⟨fun b H16=>ACalls prog 24 [i] H12 b H16⟩ ⟨fun b H16=>@bndD true H16 ⟨fun c H18=>sliceLit prog H16 38 4 [(0,o),(1,
 f),(2,a),(3,b)] c H18⟩ ⟨fun c H18=>@bndD true H18 ⟨fun d H20=>ACalls prog 22 [c,(.string { data:=#[32] })] H18 d H20⟩ ⟨fun d H20=>@bndE (aConv prog H20 9 69
 d) ⟨fun j H22=>@bndC prog 25 [j] H22 ⟨fun l H24=>@bndE (aBuiltin prog H24 Builtin.max #[41,41] [l,(.int .u32 1)]) ⟨fun m H26=>k m H26⟩⟩⟩⟩⟩⟩⟩⟩⟩⟩⟩⟩⟩⟩⟩⟩⟩):=by kernel_rfl
-- tocsin/lex.All
def R19x0 (k:Value→AHeap→Prop):KontG:=(kblkG 0 (kseqG prog (drawStd prog) (cr (cr (cr (cb Tryz.f19)))) (kfinG prog Tryz.f19 k)))
theorem d19 (a0:Value) (H:AHeap) (k:Value→AHeap→Prop):kbodyG prog (drawStd prog) Tryz.f19 [a0] H k=(@bndE (aAlloc prog H 56) ⟨fun v2x1 H2=>@bndE (aAlloc prog H2 3) ⟨fun v3x3 H4=>@bndE (aAlloc
 prog H4 35) ⟨fun v4x5 H6=>@bndE (aAlloc prog H6 56) ⟨fun v5x7 H8=>@bndC prog 32 [a0] H8 ⟨fun v9x9 H10=>krange prog v9x9 [a0,undef,v2x1,v3x3,v4x5,v5x7,undef,undef,a0,v9x9,undef,undef,undef,
 undef,undef,undef,undef,undef,undef,undef,undef,undef] #[10,11] (cl (cl (cr (cl (cr (cr (cb Tryz.f19))))))) (cr (cl (cr (cl (cr (cr (cb Tryz.f19))))))) H10 [] (R19x0 k)⟩⟩⟩⟩⟩):=by kernel_rfl
theorem R19x0n (t u c d e f v w x y g h i j l m n o p q r s:Value) (H:AHeap) (b:Nat) (k:Value→AHeap→Prop):R19x0 k .normal [t,u,c,d,e,f,v,w,x,y,g,h,i,
 j,l,m,n,o,p,q,r,s] H [b]=(@bnd (aLoad prog H 56 f) ⟨fun a=>@bndS (aStore prog H 56 c a) ⟨fun _ H13=>@bndS (aStore prog H13 3 d (.int .i64 0)) ⟨fun _ H15=>@bndS
 (aStore prog H15 35 e (.int .i64 0)) ⟨fun _ H17=>H17[b]?=some (AObj.loop LRec.blk)∧∃ r18,aLoad prog (H17.set b (AObj.loop LRec.gone)) 56 c=some r18∧∃ r19,aLoad prog (H17.set b (AObj.loop LRec.gone))
 3 d=some r19∧∃ r20,aLoad prog (H17.set b (AObj.loop LRec.gone)) 35 e=some r20∧k (.tuple #[r18,r19,r20]) (H17.set b (AObj.loop LRec.gone))⟩⟩⟩⟩):=by kernel_rfl
theorem R19x0r (r s a c d t u v w x e f g h i j l m n o p q:Value) (H:AHeap) (b:Nat) (k:Value→AHeap→Prop):R19x0 k .ret [r,s,a,c,d,t,u,v,w,x,e,f,g,h,
 i,j,l,m,n,o,p,q] H [b]=(H[b]?=some (AObj.loop LRec.blk)∧∃ r21,aLoad prog (H.set b (AObj.loop LRec.gone)) 56 a=some r21∧∃ r22,aLoad prog (H.set b (AObj.loop LRec.gone)) 3 c=some
 r22∧∃ r23,aLoad prog (H.set b (AObj.loop LRec.gone)) 35 d=some r23∧k (.tuple #[r21,r22,r23]) (H.set b (AObj.loop LRec.gone))):=by kernel_rfl
theorem R19x0A (n o p q r s v w t u b c d e f g h i j k l m:Value) (H:AHeap) (kk:Kont):kx prog (cl (cl (cr (cl (cr (cr (cb Tryz.f19))))))) [n,o,p,q,r,s,v,w,t,u,
 b,c,d,e,f,g,h,i,j,k,l,m] H kk=(@bndE (aAlloc prog H 84) ⟨fun a H25=>@bndS (aStore prog H25 84 a b) ⟨fun _ H27=>kk AExit.normal [n,o,p,q,r,s,a,c,
 t,u,b,c,d,e,f,g,h,i,j,k,l,m] H27⟩⟩):=by kernel_rfl
theorem R19x0B (x y n o p i j b z A k l B C q r s t u v w m:Value) (H:AHeap) (kk:Kont):kx prog (cr (cl (cr (cl (cr (cr (cb Tryz.f19))))))) [x,y,n,o,p,i,j,b,z,A,
 k,l,B,C,q,r,s,t,u,v,w,m] H kk=(@bnd (aBin2 prog H .neq 35 (.tmp 12) (.const (.int .i64 0)) b (.int .i64 0)) ⟨fun a=>@kifB a ⟨@bnd (aFieldAddr prog H 84 j 2) ⟨fun
 c=>@bnd (aLoad prog H 3 c) ⟨fun d=>@bndD false H ⟨fun x31 H32=>x31=undef∧aStore prog H 56 n (.slice none 0 0)=some H32⟩ ⟨fun _ H32=>@bndD true H32 ⟨fun x33 H34=>x33=undef∧aStore
 prog H32 3 o d=some H34⟩ ⟨fun _ H34=>@bndD true H34 ⟨fun x35 H36=>x35=undef∧aStore prog H34 35 p b=some H36⟩ ⟨fun _ H36=>kk AExit.ret [x,y,n,o,p,i,j,b,z,A,k,l,b,
 a,c,d,b,t,u,v,w,m] H36⟩⟩⟩⟩⟩⟩ ⟨@bnd (aLoad prog H 56 i) ⟨fun e=>@bnd (aLoad prog H 84 j) ⟨fun f=>@bndL prog H 56 1 [(0,f)] ⟨fun g H40=>@bndE (aBuiltin
 prog H40 Builtin.append #[56,56] [e,g]) ⟨fun h H42=>@bndS (aStore prog H42 56 i h) ⟨fun _ H44=>kk AExit.normal [x,y,n,o,p,i,j,b,z,A,k,l,b,a,q,r,s,
 e,f,g,h,m] H44⟩⟩⟩⟩⟩⟩⟩):=by kernel_rfl
-- tocsin/expr.Read
theorem d20 (a0 a1:Value) (H:AHeap) (k:Value→AHeap→Prop):kbody prog Tryz.f20 [a0,a1] H k=(@bnd (aBin2 prog H .lss 3 (.tmp 9) (.const (.int .i64 0)) a1 (.int .i64 0)) ⟨fun a=>@bnd (gif a false
 ((some a1)) undef) ⟨fun n=>@bnd (gif a false ((some a0)) undef) ⟨fun o=>@bnd (gif a false (aLen prog H 56 o) undef) ⟨fun p=>@bnd (gif a false (aBin2 prog H .geq 3 (.tmp 12) (.tmp 14)
 n p) undef) ⟨fun q=>@bnd (pickV a (.bool true) q) ⟨fun r=>@kifB r ⟨k (.tuple #[(.slice none 0 0),(.int .i64 0),(.int .i64 100)]) H⟩ ⟨@bnd (buildV prog 63 [(0,a0),(1,a1),(2,(.bool
 true))]) ⟨fun s=>@bndE (aNew H 63 s) ⟨fun b H9=>@bndC prog 21 [b] H9 ⟨fun c H11=>@bnd (nilV b) ⟨fun d=>@bnd (aFieldAddr prog H11 63 d 2) ⟨fun e=>@bnd (aLoad prog
 H11 4 e) ⟨fun f=>@bnd (unV prog .not f) ⟨fun g=>@kifB g ⟨k (.tuple #[(.slice none 0 0),(.int .i64 0),(.int .i64 100)]) H11⟩ ⟨@bnd (aLen prog H11 34 c) ⟨fun h=>@bnd (aBin2
 prog H11 .gtr 3 (.tmp 31) (.const (.int .i64 31)) h (.int .i64 31)) ⟨fun i=>@kifB i ⟨k (.tuple #[(.slice none 0 0),(.int .i64 0),(.int .i64 4)]) H11⟩ ⟨@bnd (nilV b) ⟨fun j=>@bnd (aFieldAddr
 prog H11 63 j 1) ⟨fun l=>@bnd (aLoad prog H11 3 l) ⟨fun m=>k (.tuple #[c,m,(.int .i64 0)]) H11⟩⟩⟩⟩⟩⟩⟩⟩⟩⟩⟩⟩⟩⟩⟩⟩⟩⟩⟩⟩⟩):=by kernel_rfl
-- (*tocsin/expr.reader).condition
theorem d21 (a0:Value) (H:AHeap) (k:Value→AHeap→Prop):kbody prog Tryz.f21 [a0] H k=(@bndE (aNew H 61 a0) ⟨fun v1x1 H2=>@bndE (aAlloc prog H2 34) ⟨fun v3x3 H4=>@bndE (aAlloc prog H4 85) ⟨fun v4x5
 H6=>@bndS (aStore prog H6 85 v4x5 (.func (Fn.func 33) #[] #[v1x1,v4x5,v3x3])) ⟨fun _ H8=>@bnd (aLoad prog H8 85 v4x5) ⟨fun v6x9=>@bndV prog v6x9 [(.int .i64 0)] H8 ⟨fun _ H11=>@bnd (aLoad prog H11
 34 v3x3) ⟨fun v8x12=>k v8x12 H11⟩⟩⟩⟩⟩⟩⟩):=by kernel_rfl
-- strings.Join
def S22x0 (k:Value→AHeap→Prop) (sl:List Value) (H:AHeap):Prop:=kseq prog (cr (cl (cr (cl (cr (cr (cr (cb Tryz.f22)))))))) (kseq prog (cr (cr (cr (cr (cb Tryz.f22))))) (kfin prog Tryz.f22 k)) .normal
 sl H
def S22x1 (k:Value→AHeap→Prop) (sl:List Value) (H:AHeap):Prop:=kseq prog (cr (cr (cr (cr (cb Tryz.f22))))) (kfin prog Tryz.f22 k) .normal sl H
def L22x0 (n:Nat) (k:Value→AHeap→Prop) (sl:List Value) (H:AHeap):Prop:=kit prog (cl (cl (cr (cl (cr (cr (cr (cr (cb Tryz.f22))))))))) n (kblk 1 (kseq prog (cr (cr (cr (cr (cr (cb Tryz.f22)))))) (kfin
 prog Tryz.f22 k))) .normal sl H
def S22x2 (n0:Nat) (k:Value→AHeap→Prop) (sl:List Value) (H:AHeap):Prop:=kseq prog (cr (cr (cl (cl (cr (cr (cl (cl (cr (cl (cr (cr (cr (cr (cb Tryz.f22))))))))))))))) (kblk 2 (kseq prog (cr (cr (cr (cl
 (cl (cr (cl (cr (cr (cr (cr (cb Tryz.f22)))))))))))) (kit prog (cl (cl (cr (cl (cr (cr (cr (cr (cb Tryz.f22))))))))) n0 (kblk 1 (kseq prog (cr (cr (cr (cr (cr (cb Tryz.f22)))))) (kfin prog Tryz.f22 k))))))
 .normal sl H
def L22x1 (n:Nat) (k:Value→AHeap→Prop) (sl:List Value) (H:AHeap):Prop:=kit prog (cl (cl (cr (cl (cr (cr (cr (cr (cr (cr (cr (cr (cb Tryz.f22))))))))))))) n (kblk 3 (kseq prog (cr (cr (cr (cr (cr (cr (cr
 (cr (cr (cb Tryz.f22)))))))))) (kfin prog Tryz.f22 k))) .normal sl H
theorem d22 (a0 a1:Value) (H:AHeap) (k:Value→AHeap→Prop):kbody prog Tryz.f22 [a0,a1] H k=(@bnd (aLen prog H 38 a0) ⟨fun c=>@bnd (aBin2 prog H .eql 3 (.tmp 12) (.const (.int .i64 0)) c (.int
 .i64 0)) ⟨fun a=>@kifB a ⟨k (.string { data:=#[] }) H⟩ ⟨@bnd (aBin2 prog H .eql 3 (.tmp 12) (.const (.int .i64 1)) c (.int .i64 1)) ⟨fun b=>@kifB b ⟨@bnd (aIndexAddr prog H 38 a0 (.int .i64
 0)) ⟨fun l=>@bnd (aLoad prog H 9 l) ⟨fun m=>k m H⟩⟩⟩ ⟨@bnd (aLen prog H 9 a1) ⟨fun d=>@bnd (aBin2 prog H .gtr 3 (.tmp 21) (.const (.int .i64 0)) d (.int .i64 0)) ⟨fun e=>@kifB
 e ⟨@bnd (aLen prog H 9 a1) ⟨fun i=>@bnd (aLen prog H 38 a0) ⟨fun j=>@bnd (aBin2 prog H .sub 3 (.tmp 26) (.const (.int .i64 1)) j (.int .i64 1)) ⟨fun f=>@bnd (aBin2 prog H .quo 3
 (.const (.int .i64 9223372036854775807)) (.tmp 27) (.int .i64 9223372036854775807) f) ⟨fun g=>@bnd (aBin2 prog H .geq 3 (.tmp 24) (.tmp 28) i g) ⟨fun h=>@kifB h ⟨@bndE (none) ⟨fun _ H14 =>
 S22x0  k [a0,a1,undef,undef,(.string { data:=#[] }),(.int .i64 0),undef,undef,undef,undef,undef,a0,c,a,a,b,b,undef,undef,undef,a1,d,e,a1,i,a0,j,f,g,
 h,(.iface 9 (.string { data:=#[115,116,114,105,110,103,115,58,32,74,111,105,110,32,111,117,116,112,117,116,32,108,101,110,103,116,104,32,111,118,101,114,102,108,111,119] })),undef,
 undef,undef,undef,undef,undef,undef,undef,undef,undef,undef,undef,undef,undef,undef,undef,undef,undef,undef,undef,undef,undef,undef,undef,undef,undef,undef,undef,undef,undef,undef,undef,undef,
 undef,undef,undef,undef,undef,undef,undef,undef,undef,undef,undef] H14⟩⟩ ⟨S22x0  k [a0,a1,undef,undef,(.string { data:=#[] }),(.int .i64 0),undef,undef,undef,undef,undef,a0,c,a,a,b,
 b,undef,undef,undef,a1,d,e,a1,i,a0,j,f,g,h,undef,undef,undef,undef,undef,undef,undef,undef,undef,undef,undef,undef,undef,undef,undef,undef,undef,undef,undef,
 undef,undef,undef,undef,undef,undef,undef,undef,undef,undef,undef,undef,undef,undef,undef,undef,undef,undef,undef,undef,undef,undef,undef,undef,undef,undef] H⟩⟩⟩⟩⟩⟩⟩ ⟨S22x1  k [a0,a1,undef,undef,
 (.string { data:=#[] }),(.int .i64 0),undef,undef,undef,undef,undef,a0,c,a,a,b,b,undef,undef,undef,a1,d,e,undef,undef,undef,undef,undef,undef,undef,undef,undef,undef,
 undef,undef,undef,undef,undef,undef,undef,undef,undef,undef,undef,undef,undef,undef,undef,undef,undef,undef,undef,undef,undef,undef,undef,undef,undef,undef,undef,undef,undef,undef,undef,undef,
 undef,undef,undef,undef,undef,undef,undef,undef,undef,undef] H⟩⟩⟩⟩⟩⟩⟩⟩):=by kernel_rfl
theorem S22x0q (f g s2 s3 s4 s5 s6 s7 s8 s9 h i j l m n o p q r s t u v w x y z A B C ao ap aq ar au av aw ax D E F G I J K L M N O P Q R S T U
 V W X Y Z aa ab ac ad ae af ag ah ai aj ak al am an:Value) (H:AHeap) (k:Value→AHeap→Prop):S22x0 k [f,g,s2,s3,s4,s5,s6,s7,s8,s9,h,i,j,l,m,n,o,p,q,r,
 s,t,u,v,w,x,y,z,A,B,C,ao,ap,aq,ar,au,av,aw,ax,D,E,F,G,I,J,K,L,M,N,O,P,Q,R,S,T,U,V,W,X,Y,Z,aa,ab,ac,ad,
 ae,af,ag,ah,ai,aj,ak,al,am,an] H=(@bnd (aLen prog H 9 g) ⟨fun a=>@bnd (aLen prog H 38 f) ⟨fun b=>@bnd (aBin2 prog H .sub 3 (.tmp 35) (.const (.int .i64 1)) b (.int .i64
 1)) ⟨fun c=>@bnd (aBin2 prog H .mul 3 (.tmp 33) (.tmp 36) a c) ⟨fun d=>@bnd (aBin2 prog H .add 3 (.tmp 31) (.tmp 37) s5 d) ⟨fun e=>S22x1  k [f,g,s2,s3,s4,e,s6,s7,s8,
 s9,h,i,j,l,m,n,o,p,q,r,s,t,u,v,w,x,y,z,A,B,C,s5,g,a,f,b,c,d,e,D,E,F,G,I,J,K,L,M,N,O,P,Q,
 R,S,T,U,V,W,X,Y,Z,aa,ab,ac,ad,ae,af,ag,ah,ai,aj,ak,al,am,an] H⟩⟩⟩⟩⟩):=by kernel_rfl
theorem S22x1q (b s1 s2 s3 s4 s5 s6 s7 s8 s9 c d e f g h i j l m o p q r s t u v w x y z A B C D E F G ap aq ar I J K L M N O P Q R S T U V
 W X Y Z aa ab ac ad ae af ag ah ai aj ak al am an ao:Value) (H:AHeap) (k:Value→AHeap→Prop):S22x1 k [b,s1,s2,s3,s4,s5,s6,s7,s8,s9,c,d,e,f,g,h,i,j,l,m,
 o,p,q,r,s,t,u,v,w,x,y,z,A,B,C,D,E,F,G,ap,aq,ar,I,J,K,L,M,N,O,P,Q,R,S,T,U,V,W,X,Y,Z,aa,ab,ac,ad,ae,
 af,ag,ah,ai,aj,ak,al,am,an,ao] H=(@bnd (aLen prog H 38 b) ⟨fun a=>∃ n,L22x0 n  k [b,s1,s2,s3,s4,s5,s6,s7,s8,s9,c,d,e,f,g,h,i,j,l,m,o,p,q,r,
 s,t,u,v,w,x,y,z,A,B,C,D,E,F,G,b,a,(.int .i64 0),I,J,K,L,M,N,O,P,Q,R,S,T,U,V,W,X,Y,Z,aa,ab,ac,ad,ae,af,ag,
 ah,ai,aj,ak,al,am,an,ao] H⟩):=by kernel_rfl
theorem L22x0q (n0:Nat) (j s1 s2 s3 s4 h s6 s7 s8 s9 r s t u v w x y z A B C D E F G I J K L M N O P Q R S T U l m g aG az aA aB aC aD aE aF aj V W
 X Y Z ak al am an ao ap aq ar au av aa ab ac ad ae af ag ah ai:Value) (H:AHeap) (k:Value→AHeap→Prop):L22x0 (n0+1) k [j,s1,s2,s3,s4,h,s6,s7,s8,s9,r,s,t,u,v,w,
 x,y,z,A,B,C,D,E,F,G,I,J,K,L,M,N,O,P,Q,R,S,T,U,l,m,g,aG,az,aA,aB,aC,aD,aE,aF,aj,V,W,X,Y,Z,ak,al,am,an,ao,
 ap,aq,ar,au,av,aa,ab,ac,ad,ae,af,ag,ah,ai] H=(@bnd (aBin2 prog H .lss 3 (.tmp 41) (.tmp 40) g m) ⟨fun b=>@kifB b ⟨@bnd (aIndexAddr prog H 38 l g) ⟨fun c=>@bnd
 (aLoad prog H 9 c) ⟨fun a=>@bnd (aLen prog H 9 a) ⟨fun d=>@bnd (aBin2 prog H .sub 3 (.const (.int .i64 9223372036854775807)) (.tmp 47) (.int .i64 9223372036854775807) h) ⟨fun e =>
 @bnd (aBin2 prog H .gtr 3 (.tmp 46) (.tmp 48) d e) ⟨fun f=>@kifB f ⟨@bndE (none) ⟨fun _ H28=>S22x2 n0 k [j,s1,s2,s3,s4,h,s6,a,s8,s9,r,s,t,u,v,w,x,y,z,A,
 B,C,D,E,F,G,I,J,K,L,M,N,O,P,Q,R,S,T,U,l,m,g,b,c,a,a,d,h,e,f,(.iface 9 (.string { data:=#[115,116,114,105,110,
 103,115,58,32,74,111,105,110,32,111,117,116,112,117,116,32,108,101,110,103,116,104,32,111,118,101,114,102,108,111,119] })),V,W,X,Y,Z,ak,al,am,an,ao,ap,aq,ar,au,
 av,aa,ab,ac,ad,ae,af,ag,ah,ai] H28⟩⟩ ⟨S22x2 n0 k [j,s1,s2,s3,s4,h,s6,a,s8,s9,r,s,t,u,v,w,x,y,z,A,B,C,D,E,F,G,I,J,K,L,M,N,O,
 P,Q,R,S,T,U,l,m,g,b,c,a,a,d,h,e,f,aj,V,W,X,Y,Z,ak,al,am,an,ao,ap,aq,ar,au,av,aa,ab,ac,ad,ae,af,ag,ah,
 ai] H⟩⟩⟩⟩⟩⟩⟩ ⟨@bndE (aAlloc prog H 94) ⟨fun i H30=>@bndC prog 37 [i,h] H30 ⟨fun aw H32=>@bnd (aIndexAddr prog H32 38 j (.int .i64 0)) ⟨fun o=>@bnd (aLoad prog H32 9 o) ⟨fun
 p=>@bndC prog 38 [i,p] H32 ⟨fun ax H36=>@bnd (aSliceOp prog H36 38 j (some (.int .i64 1)) none) ⟨fun q=>@bnd (aLen prog H36 38 q) ⟨fun ay=>∃ n,L22x1 n  k [j,s1,s2,
 s3,s4,h,s6,s7,i,s9,r,s,t,u,v,w,x,y,z,A,B,C,D,E,F,G,I,J,K,L,M,N,O,P,Q,R,S,T,U,l,m,g,b,az,aA,aB,aC,aD,
 aE,aF,aj,V,W,X,Y,Z,h,aw,j,o,p,ax,j,q,ay,(.int .i64 0),aa,ab,ac,ad,ae,af,ag,ah,ai] H36⟩⟩⟩⟩⟩⟩⟩⟩⟩):=by kernel_rfl
theorem S22x2q (n0:Nat) (s0 s1 s2 s3 s4 s5 s6 d s8 s9 e f g h i j l m n o p q r s t u v w x y z A B C D E F G I J K L M N O P Q R S T U ao ap
 aq ar au V W X Y Z aa ab ac ad ae af ag ah ai aj ak al am an:Value) (H:AHeap) (k:Value→AHeap→Prop):S22x2 n0 k [s0,s1,s2,s3,s4,s5,s6,d,s8,s9,e,f,g,h,i,j,l,
 m,n,o,p,q,r,s,t,u,v,w,x,y,z,A,B,C,D,E,F,G,I,J,K,L,M,N,O,P,Q,R,S,T,U,ao,ap,aq,ar,au,V,W,X,Y,Z,aa,
 ab,ac,ad,ae,af,ag,ah,ai,aj,ak,al,am,an] H=(@bnd (aLen prog H 9 d) ⟨fun a=>@bnd (aBin2 prog H .add 3 (.tmp 51) (.tmp 53) s5 a) ⟨fun b=>@bnd (aBin2 prog H .add 3 (.tmp
 41) (.const (.int .i64 1)) L (.int .i64 1)) ⟨fun c=>L22x0 n0  k [s0,s1,s2,s3,s4,b,s6,d,s8,s9,e,f,g,h,i,j,l,m,n,o,p,q,r,s,t,u,v,w,x,y,z,A,
 B,C,D,E,F,G,I,J,K,c,M,N,O,P,Q,R,S,T,U,s5,d,a,b,c,V,W,X,Y,Z,aa,ab,ac,ad,ae,af,ag,ah,ai,aj,ak,al,am,an]
 H⟩⟩⟩):=by kernel_rfl
theorem L22x1q (n1:Nat) (s0 m s2 s3 s4 s5 s6 s7 f s9 ap n o p q r s t u v w x y z A B C D E F G I J K L M N O P Q R S T U V W X Y Z aa ab ac ad
 ae af ag ah ai aj ak al am an g h e aq ar au av aw ax ay az ao:Value) (H:AHeap) (k:Value→AHeap→Prop):L22x1 (n1+1) k [s0,m,s2,s3,s4,s5,s6,s7,f,s9,ap,n,o,p,q,r,
 s,t,u,v,w,x,y,z,A,B,C,D,E,F,G,I,J,K,L,M,N,O,P,Q,R,S,T,U,V,W,X,Y,Z,aa,ab,ac,ad,ae,af,ag,ah,ai,aj,ak,al,
 am,an,g,h,e,aq,ar,au,av,aw,ax,ay,az,ao] H=(@bnd (aBin2 prog H .lss 3 (.tmp 65) (.tmp 64) e h) ⟨fun b=>@kifB b ⟨@bnd (aIndexAddr prog H 38 g e) ⟨fun c=>@bnd
 (aLoad prog H 9 c) ⟨fun a=>@bndC prog 38 [f,m] H ⟨fun i H46=>@bndC prog 38 [f,a] H46 ⟨fun j H48=>@bnd (aBin2 prog H48 .add 3 (.tmp 65) (.const (.int .i64 1)) e (.int
 .i64 1)) ⟨fun d=>L22x1 n1  k [s0,m,s2,s3,s4,s5,s6,s7,f,s9,a,n,o,p,q,r,s,t,u,v,w,x,y,z,A,B,C,D,E,F,G,I,J,K,L,M,N,O,P,
 Q,R,S,T,U,V,W,X,Y,Z,aa,ab,ac,ad,ae,af,ag,ah,ai,aj,ak,al,am,an,g,h,d,b,c,a,m,i,a,j,d,ao] H48⟩⟩⟩⟩⟩⟩ ⟨@bndC
 prog 39 [f] H ⟨fun l H51=>k l H51⟩⟩⟩):=by kernel_rfl
-- strconv.Itoa
theorem d23 (a0:Value) (H:AHeap) (k:Value→AHeap→Prop):kbody prog Tryz.f23 [a0] H k=(@bndC prog 40 [a0] H ⟨fun v4x1 H2=>k v4x1 H2⟩):=by kernel_rfl
-- tocsin/expr.Print
theorem d24 (a0:Value) (H:AHeap) (k:Value→AHeap→Prop):kbody prog Tryz.f24 [a0] H k=(@bndC prog 41 [a0] H ⟨fun e H2=>@bnd (unV prog .not e) ⟨fun f=>@kifB f ⟨k (.string { data:=#[] })
 H2⟩ ⟨@bndC prog 42 [a0] H2 ⟨fun a H5=>@bnd (aLen prog H5 34 a) ⟨fun b=>@bnd (aBin2 prog H5 .sub 3 (.tmp 11) (.const (.int .i64 1)) b (.int .i64 1)) ⟨fun c=>@bndC prog 43 [a,c,
 (.int .i64 0)] H5 ⟨fun d H9=>k d H9⟩⟩⟩⟩⟩⟩⟩):=by kernel_rfl
-- tocsin/crc.Sum
theorem d25 (a0:Value) (H:AHeap) (k:Value→AHeap→Prop):kbody prog Tryz.f25 [a0] H k=(@bndL prog H 133 1 [(0,a0)] ⟨fun v4x1 H2=>@bndC prog 44 [v4x1] H2 ⟨fun v5x3 H4=>k v5x3 H4⟩⟩):=by kernel_rfl
-- tocsin/lex.Tell
theorem d32 (a0:Value) (H:AHeap) (k:Value→AHeap→Prop):kbody prog Tryz.f32 [a0] H k=(@bndE (aNew H 9 a0) ⟨fun v1x1 H2=>k (.func (Fn.func 57) #[] #[v1x1]) H2⟩):=by kernel_rfl
-- (*tocsin/expr.reader).takes
def S34x0 (k:Value→AHeap→Prop) (sl:List Value) (H:AHeap):Prop:=kseq prog (cr (cr (cr (cb Tryz.f34)))) (kfin prog Tryz.f34 k) .normal sl H
theorem d34 (a0 a1 a2:Value) (H:AHeap) (k:Value→AHeap→Prop):kbody prog Tryz.f34 [a0,a1,a2] H k=(@bndC prog 60 [a0,a1,a2] H ⟨fun a H2=>@kifB a ⟨@bnd (nilV a0) ⟨fun b=>@bnd (aFieldAddr
 prog H2 63 b 1) ⟨fun c=>@bnd (aLoad prog H2 3 c) ⟨fun d=>@bnd (aBin2 prog H2 .add 3 (.tmp 16) (.const (.int .i64 1)) d (.int .i64 1)) ⟨fun e=>@bnd (nilV a0) ⟨fun f=>@bnd
 (aFieldAddr prog H2 63 f 1) ⟨fun g=>@bndS (aStore prog H2 3 g e) ⟨fun _ H10=>S34x0  k [a0,a1,a2,undef,undef,undef,(.bool false),a,a0,a1,a2,a,a,a0,b,c,d,
 e,f,g,undef] H10⟩⟩⟩⟩⟩⟩⟩⟩ ⟨S34x0  k [a0,a1,a2,undef,undef,undef,(.bool false),a,a0,a1,a2,a,a,undef,undef,undef,undef,undef,undef,undef,undef] H2⟩⟩):=by kernel_rfl
theorem S34x0q (n o p q r s t a u v b c d e f g h i j l m:Value) (H:AHeap) (k:Value→AHeap→Prop):S34x0 k [n,o,p,q,r,s,t,a,u,v,b,c,d,e,f,g,h,i,
 j,l,m] H=(k a H):=by kernel_rfl
-- (*tocsin/expr.reader).sign
theorem d35 (a0 a1:Value) (H:AHeap) (k:Value→AHeap→Prop):kbody prog Tryz.f35 [a0,a1] H k=(@bndC prog 34 [a0,(.int .u8 4),a1] H ⟨fun v7x1 H2=>@bnd (nilV a0) ⟨fun v8x3=>@bnd (aFieldAddr prog H2
 63 v8x3 2) ⟨fun v9x4=>@bndS (aStore prog H2 4 v9x4 v7x1) ⟨fun _ H6=>k (.tuple #[]) H6⟩⟩⟩⟩):=by kernel_rfl
-- (*tocsin/expr.reader).comparison
theorem d36 (a0:Value) (H:AHeap) (k:Value→AHeap→Prop):kbody prog Tryz.f36 [a0] H k=(@bndE (aAlloc prog H 89) ⟨fun b H2=>@bndC prog 62 [] H2 ⟨fun n H4=>@bndC prog 61 [a0,(.int .u8 1),
 n] H4 ⟨fun o H6=>@bnd (buildV prog 89 [(0,(.int .u8 0)),(1,o)]) ⟨fun p=>@bndE (aAlloc prog H6 89) ⟨fun a H9=>@bndS (aStore prog H9 89 a p) ⟨fun _ H11=>@bndC prog 35 [a0,
 (.string { data:=#[40] })] H11 ⟨fun _ H13=>@bndC prog 63 [a0] H13 ⟨fun c H15=>@bnd (aFieldAddr prog H15 89 a 2) ⟨fun d=>@bndS (aStore prog H15 87 d c) ⟨fun _ H18=>@bndC prog
 35 [a0,(.string { data:=#[91] })] H18 ⟨fun _ H20=>@bndC prog 64 [a0] H20 ⟨fun e H22=>@bnd (aFieldAddr prog H22 89 a 3) ⟨fun f=>@bndS (aStore prog H22 3 f e) ⟨fun _ H25=>@bndC
 prog 35 [a0,(.string { data:=#[93] })] H25 ⟨fun _ H27=>@bndC prog 35 [a0,(.string { data:=#[41] })] H27 ⟨fun _ H29=>@bndC prog 65 [] H29 ⟨fun g H31=>@bndC prog 61 [a0,(.int .u8 4),g]
 H31 ⟨fun h H33=>@bnd (aFieldAddr prog H33 89 a 4) ⟨fun i=>@bndS (aStore prog H33 5 i h) ⟨fun _ H36=>@bndC prog 66 [a0] H36 ⟨fun j H38=>@bnd (aFieldAddr prog H38 89 a 5)
 ⟨fun l=>@bndS (aStore prog H38 2 l j) ⟨fun _ H41=>@bnd (aLoad prog H41 89 a) ⟨fun m=>@bndS (aStore prog H41 89 b m) ⟨fun _ H44=>∃ r45,aLoad prog H44 89 b=some r45
∧k r45 H44⟩⟩⟩⟩⟩⟩⟩⟩⟩⟩⟩⟩⟩⟩⟩⟩⟩⟩⟩⟩⟩⟩⟩⟩⟩):=by kernel_rfl
-- (*strings.Builder).Grow
def S37x0 (k:Value→AHeap→Prop) (sl:List Value) (H:AHeap):Prop:=kseq prog (cr (cr (cb Tryz.f37))) (kfin prog Tryz.f37 k) .normal sl H
theorem d37 (a0 a1:Value) (H:AHeap) (k:Value→AHeap→Prop):kbody prog Tryz.f37 [a0,a1] H k=(@bndC prog 67 [a0] H ⟨fun v5x1 H2=>@bnd (aBin2 prog H2 .lss 3 (.tmp 6) (.const (.int .i64 0)) a1 (.int .i64
 0)) ⟨fun v7x3=>@kifB v7x3 ⟨@bndE (none) ⟨fun _ H5=>S37x0  k [a0,a1,undef,undef,a0,v5x1,a1,v7x3,(.iface 9 (.string { data:=#[115,116,114,105,110,103,115,46,66,117,105,108,100,101,114,46,71,114,
 111,119,58,32,110,101,103,97,116,105,118,101,32,99,111,117,110,116] })),undef,undef,undef,undef,undef,undef,undef,undef,undef,undef,undef,undef,undef,undef,undef,undef] H5⟩⟩ ⟨S37x0  k [a0,a1,
 undef,undef,a0,v5x1,a1,v7x3,undef,undef,undef,undef,undef,undef,undef,undef,undef,undef,undef,undef,undef,undef,undef,undef,undef] H2⟩⟩⟩):=by kernel_rfl
theorem S37x0q (h m C D E F G I J K n o p q r s t u v w x y z A B:Value) (H:AHeap) (k:Value→AHeap→Prop):S37x0 k [h,m,C,D,E,F,G,I,J,K,n,o,p,q,r,
 s,t,u,v,w,x,y,z,A,B] H=(@bnd (nilV h) ⟨fun i=>@bnd (aFieldAddr prog H 94 i 1) ⟨fun j=>@bnd (aLoad prog H 69 j) ⟨fun l=>@bndD false H ⟨fun a H10=>aBuiltin
 prog H Builtin.cap #[69] [l]=some (a,H10)⟩ ⟨fun a H10=>@bnd (nilV h) ⟨fun b=>@bnd (aFieldAddr prog H 94 b 1) ⟨fun c=>@bnd (aLoad prog H 69 c) ⟨fun d=>@bnd (aLen
 prog H 69 d) ⟨fun e=>@bnd (aBin2 prog H10 .sub 3 (.tmp 13) (.tmp 18) a e) ⟨fun f=>@bnd (aBin2 prog H10 .lss 3 (.tmp 19) (.tmp 20) f m) ⟨fun g=>@kifB g ⟨@bndC
 prog 68 [h,m] H10 ⟨fun _ H18=>k (.tuple #[]) H18⟩⟩ ⟨k (.tuple #[]) H10⟩⟩⟩⟩⟩⟩⟩⟩⟩⟩⟩):=by kernel_rfl
-- (*strings.Builder).WriteString
theorem d38 (a0 a1:Value) (H:AHeap) (k:Value→AHeap→Prop):kbody prog Tryz.f38 [a0,a1] H k=(@bndC prog 67 [a0] H ⟨fun _ H2=>@bnd (nilV a0) ⟨fun b=>@bnd (aFieldAddr prog H2 94 b 1) ⟨fun
 c=>@bnd (aLoad prog H2 69 c) ⟨fun d=>@bndE (aBuiltin prog H2 Builtin.append #[69,9] [d,a1]) ⟨fun e H7=>@bnd (nilV a0) ⟨fun f=>@bnd (aFieldAddr prog H7 94 f 1) ⟨fun g =>
 @bndS (aStore prog H7 69 g e) ⟨fun _ H11=>@bnd (aLen prog H11 9 a1) ⟨fun a=>k (.tuple #[a,.nilIface]) H11⟩⟩⟩⟩⟩⟩⟩⟩⟩):=by kernel_rfl
-- (*strings.Builder).String
theorem d39 (a0:Value) (H:AHeap) (k:Value→AHeap→Prop):kbody prog Tryz.f39 [a0] H k=(@bnd (nilV a0) ⟨fun f=>@bnd (aFieldAddr prog H 94 f 1) ⟨fun g=>@bnd (aLoad prog H 69 g) ⟨fun h =>
 @bndD false H ⟨fun b H5=>aBuiltin prog H Builtin.unsafeSliceData #[69] [h]=some (b,H5)⟩ ⟨fun b H5=>@bnd (nilV a0) ⟨fun i=>@bnd (aFieldAddr prog H 94 i 1) ⟨fun c=>@bnd (aLoad prog
 H 69 c) ⟨fun d=>@bnd (aLen prog H 69 d) ⟨fun e=>@bndD true H5 ⟨fun a H11=>aBuiltin prog H5 Builtin.unsafeString #[127,3] [b,e]=some (a,H11)⟩ ⟨fun a H11=>k a
 H11⟩⟩⟩⟩⟩⟩⟩⟩⟩):=by kernel_rfl
end Go.Vi
namespace Go.Vi
open Go Go.Proofs Go.Proofs.Tryz
-- internal/strconv.Itoa
theorem d40 (a0:Value) (H:AHeap) (k:Value→AHeap→Prop):kbody prog Tryz.f40 [a0] H k=(@bndC prog 69 [a0,(.int .i64 10)] H ⟨fun v4x1 H2=>k v4x1 H2⟩):=by kernel_rfl
-- tocsin/expr.Right
theorem d41 (a0:Value) (H:AHeap) (k:Value→AHeap→Prop):kbody prog Tryz.f41 [a0] H k=(@bnd (aLen prog H 34 a0) ⟨fun j=>@bnd (aBin2 prog H .geq 3 (.tmp 4) (.const (.int .i64 1)) j (.int .i64 1))
 ⟨fun c=>@bnd (gif c true ((some a0)) undef) ⟨fun l=>@bnd (gif c true (aLen prog H 34 l) undef) ⟨fun m=>@bnd (gif c true (aBin2 prog H .leq 3 (.tmp 8) (.const (.int .i64 31)) m (.int .i64
 31)) undef) ⟨fun n=>@bnd (pickV c n (.bool false)) ⟨fun a=>@bnd (gif a true ((some a0)) undef) ⟨fun g=>@bnd (gif a true ((some a0)) undef) ⟨fun h=>@bnd (gif a true (aLen prog H 34
 h) undef) ⟨fun i=>@bnd (gif a true (aBin2 prog H .sub 3 (.tmp 14) (.const (.int .i64 1)) i (.int .i64 1)) undef) ⟨fun d=>@bndG a true H ⟨fun b H12=>ACalls prog 70 [g,d] H
 b H12⟩ ⟨fun b H12=>@bnd (gif a true (aBin2 prog H12 .eql 3 (.tmp 16) (.const (.int .i64 0)) b (.int .i64 0)) undef) ⟨fun e=>@bnd (pickV a e (.bool false)) ⟨fun f=>k f
 H12⟩⟩⟩⟩⟩⟩⟩⟩⟩⟩⟩⟩⟩):=by kernel_rfl
-- slices.Clone[[]tocsin/api.Node,tocsin/api.Node]
theorem d42 (a0:Value) (H:AHeap) (k:Value→AHeap→Prop):kbody prog Tryz.f42 [a0] H k=(@bnd (aBin2 prog H .eql 34 (.tmp 3) (.const (.slice none 0 0)) a0 (.slice none 0 0)) ⟨fun v4x1=>@kifB v4x1 ⟨k (.slice
 none 0 0) H⟩ ⟨@bndL prog H 34 0 [] ⟨fun v5x2 H3=>@bndE (aBuiltin prog H3 Builtin.append #[34,34] [v5x2,a0]) ⟨fun v7x4 H5=>k v7x4 H5⟩⟩⟩⟩):=by kernel_rfl
-- tocsin/expr.text
def S43x0 (k:Value→AHeap→Prop) (sl:List Value) (H:AHeap):Prop:=kseq prog (cr (cr (cr (cr (cb Tryz.f43))))) (kfin prog Tryz.f43 k) .normal sl H
theorem d43 (a0 a1 a2:Value) (H:AHeap) (k:Value→AHeap→Prop):kbody prog Tryz.f43 [a0,a1,a2] H k=(@bnd (aIndexAddr prog H 34 a0 a1) ⟨fun g=>@bnd (aLoad prog H 89 g) ⟨fun h=>@bndE
 (aAlloc prog H 89) ⟨fun a H4=>@bndS (aStore prog H4 89 a h) ⟨fun _ H6=>@bnd (aFieldAddr prog H6 89 a 0) ⟨fun i=>@bnd (aLoad prog H6 5 i) ⟨fun d=>@bnd (aBin2 prog H6 .eql
 5 (.tmp 14) (.const (.int .u8 0)) d (.int .u8 0)) ⟨fun b=>@kifB b ⟨@bndD false H6 ⟨fun j H11=>ACalls prog 62 [] H6 j H11⟩ ⟨fun j H11=>@bnd (aFieldAddr prog H6 89 a 1) ⟨fun t =>
 @bnd (aLoad prog H6 5 t) ⟨fun u=>@bnd (aIndexAddr prog H11 38 j u) ⟨fun v=>@bnd (aLoad prog H11 9 v) ⟨fun w=>@bnd (aBin2 prog H11 .add 9 (.tmp 21) (.const (.string {
 data:=#[40] })) w (.string { data:=#[40] })) ⟨fun x=>@bnd (aFieldAddr prog H6 89 a 2) ⟨fun y=>@bnd (aLoad prog H6 87 y) ⟨fun z=>@bndD false H11 ⟨fun l H20=>ACalls prog
 71 [z] H11 l H20⟩ ⟨fun l H20=>@bnd (aBin2 prog H20 .add 9 (.tmp 22) (.tmp 25) x l) ⟨fun A=>@bnd (aBin2 prog H20 .add 9 (.tmp 26) (.const (.string { data:=#[91] })) A (.string {
 data:=#[91] })) ⟨fun B=>@bnd (aFieldAddr prog H6 89 a 3) ⟨fun C=>@bnd (aLoad prog H6 3 C) ⟨fun D=>@bndD false H20 ⟨fun m H26=>ACalls prog 23 [D] H20 m H26⟩ ⟨fun
 m H26=>@bnd (aBin2 prog H26 .add 9 (.tmp 27) (.tmp 30) B m) ⟨fun E=>@bnd (aBin2 prog H26 .add 9 (.tmp 31) (.const (.string { data:=#[93,41,32] })) E (.string { data:=#[93,41,32]
 })) ⟨fun F=>@bndD false H26 ⟨fun n H30=>ACalls prog 65 [] H26 n H30⟩ ⟨fun n H30=>@bnd (aFieldAddr prog H6 89 a 4) ⟨fun G=>@bnd (aLoad prog H6 5 G) ⟨fun I=>@bnd
 (aIndexAddr prog H30 38 n I) ⟨fun J=>@bnd (aLoad prog H30 9 J) ⟨fun K=>@bnd (aBin2 prog H30 .add 9 (.tmp 32) (.tmp 37) F K) ⟨fun L=>@bnd (aBin2 prog H30 .add 9
 (.tmp 38) (.const (.string { data:=#[32] })) L (.string { data:=#[32] })) ⟨fun M=>@bnd (aFieldAddr prog H6 89 a 5) ⟨fun N=>@bnd (aLoad prog H6 2 N) ⟨fun O=>@bndD false H30 ⟨fun
 o H40=>ACalls prog 72 [O] H30 o H40⟩ ⟨fun o H40=>@bnd (aBin2 prog H40 .add 9 (.tmp 39) (.tmp 42) M o) ⟨fun P=>S43x0  k [a0,a1,a2,undef,undef,undef,(.string { data:=#[]
 }),a,P,a0,a1,g,h,i,d,b,b,j,t,u,v,w,x,y,z,l,A,B,C,D,m,E,F,n,G,I,J,
 K,L,M,N,O,o,P,undef,undef,undef,undef,undef,undef,undef,undef,undef,undef,undef,undef,undef,undef,undef,undef,undef,undef,undef,undef,undef,undef,undef,undef,
 undef,undef,undef,undef,undef,undef,undef,undef,undef,undef,undef,undef,undef,undef,undef] H40⟩⟩⟩⟩⟩⟩⟩⟩⟩⟩⟩⟩⟩⟩⟩⟩⟩⟩⟩⟩⟩⟩⟩⟩⟩⟩⟩⟩ ⟨@bnd (aBin2 prog H6 .eql 5 (.tmp 14) (.const (.int .u8 3)) d (.int .u8 3)) ⟨fun
 c=>@kifB c ⟨@bnd (aFieldAddr prog H6 89 a 6) ⟨fun Q=>@bnd (aLoad prog H6 3 Q) ⟨fun R=>@bndC prog 43 [a0,R,(.int .i64 2)] H6 ⟨fun S H46=>@bnd (aBin2 prog H46
 .add 9 (.const (.string { data:=#[110,111,116,32] })) (.tmp 49) (.string { data:=#[110,111,116,32] }) S) ⟨fun T=>S43x0  k [a0,a1,a2,undef,undef,undef,(.string { data:=#[] }),a,T,a0,a1,
 g,h,i,d,b,b,undef,undef,undef,undef,undef,undef,undef,undef,undef,undef,undef,undef,undef,undef,undef,undef,undef,undef,undef,undef,undef,undef,undef,undef,undef,undef,
 undef,c,c,a0,Q,R,S,T,undef,undef,undef,undef,undef,undef,undef,undef,undef,undef,undef,undef,undef,undef,undef,undef,undef,undef,undef,undef,undef,undef,undef,undef,
 undef,undef,undef,undef,undef,undef,undef,undef] H46⟩⟩⟩⟩⟩ ⟨@bnd (aBin2 prog H6 .eql 5 (.tmp 14) (.const (.int .u8 1)) d (.int .u8 1)) ⟨fun e=>@kifB e ⟨@bnd (aFieldAddr prog H6 89 a 6) ⟨fun
 U=>@bnd (aLoad prog H6 3 U) ⟨fun V=>@bndD false H6 ⟨fun p H52=>ACalls prog 43 [a0,V,(.int .i64 1)] H6 p H52⟩ ⟨fun p H52=>@bnd (aBin2 prog H52 .add 9 (.tmp 56) (.const
 (.string { data:=#[32,97,110,100,32] })) p (.string { data:=#[32,97,110,100,32] })) ⟨fun W=>@bnd (aFieldAddr prog H6 89 a 7) ⟨fun X=>@bnd (aLoad prog H6 3 X) ⟨fun Y=>@bndD
 false H52 ⟨fun q H57=>ACalls prog 43 [a0,Y,(.int .i64 2)] H52 q H57⟩ ⟨fun q H57=>@bnd (aBin2 prog H57 .add 9 (.tmp 57) (.tmp 61) W q) ⟨fun Z=>S43x0  k [a0,a1,a2,undef,
 undef,undef,(.string { data:=#[] }),a,Z,a0,a1,g,h,i,d,b,b,undef,undef,undef,undef,undef,undef,undef,undef,undef,undef,undef,undef,undef,undef,undef,undef,undef,
 undef,undef,undef,undef,undef,undef,undef,undef,undef,undef,c,c,undef,undef,undef,undef,undef,e,e,a0,U,V,p,W,a0,X,Y,q,Z,undef,undef,
 undef,undef,undef,undef,undef,undef,undef,undef,undef,undef,undef,undef,undef,undef,undef,undef,undef,undef] H57⟩⟩⟩⟩⟩⟩⟩⟩⟩ ⟨@bnd (aBin2 prog H6 .eql 5 (.tmp 14) (.const (.int .u8 2)) d (.int .u8 2))
 ⟨fun f=>@kifB f ⟨@bnd (aFieldAddr prog H6 89 a 6) ⟨fun aa=>@bnd (aLoad prog H6 3 aa) ⟨fun ab=>@bndD false H6 ⟨fun r H63=>ACalls prog 43 [a0,ab,(.int .i64 0)] H6 r
 H63⟩ ⟨fun r H63=>@bnd (aBin2 prog H63 .add 9 (.tmp 68) (.const (.string { data:=#[32,111,114,32] })) r (.string { data:=#[32,111,114,32] })) ⟨fun ac=>@bnd (aFieldAddr prog H6 89 a 7)
 ⟨fun ad=>@bnd (aLoad prog H6 3 ad) ⟨fun ae=>@bndD false H63 ⟨fun s H68=>ACalls prog 43 [a0,ae,(.int .i64 1)] H63 s H68⟩ ⟨fun s H68=>@bnd (aBin2 prog H68 .add 9 (.tmp 69)
 (.tmp 73) ac s) ⟨fun af=>S43x0  k [a0,a1,a2,undef,undef,undef,(.string { data:=#[] }),a,af,a0,a1,g,h,i,d,b,b,undef,undef,undef,undef,undef,undef,undef,
 undef,undef,undef,undef,undef,undef,undef,undef,undef,undef,undef,undef,undef,undef,undef,undef,undef,undef,undef,undef,c,c,undef,undef,undef,undef,undef,e,e,undef,undef,undef,
 undef,undef,undef,undef,undef,undef,undef,f,f,a0,aa,ab,r,ac,a0,ad,ae,s,af,undef,undef,undef,undef,undef,undef,undef,undef] H68⟩⟩⟩⟩⟩⟩⟩⟩⟩ ⟨S43x0  k [a0,a1,
 a2,undef,undef,undef,(.string { data:=#[] }),a,(.string { data:=#[] }),a0,a1,g,h,i,d,b,b,undef,undef,undef,undef,undef,undef,undef,undef,undef,undef,undef,undef,undef,
 undef,undef,undef,undef,undef,undef,undef,undef,undef,undef,undef,undef,undef,undef,c,c,undef,undef,undef,undef,undef,e,e,undef,undef,undef,undef,undef,undef,undef,undef,undef,
 undef,f,f,undef,undef,undef,undef,undef,undef,undef,undef,undef,undef,undef,undef,undef,undef,undef,undef,undef,undef] H6⟩⟩⟩⟩⟩⟩⟩⟩⟩⟩⟩⟩⟩⟩):=by kernel_rfl
theorem S43x0q (s0 s1 g s3 s4 s5 s6 h f s9 i j l m n o p q r s t u v w x y z A B C D E F G I J K L M N O P Q R S T U V W X Y Z aa ab ac ad
 ae af ag ah ai aj ak al am an ao ap aq ar au av aw ax ay az aA aB aC aD aE aF aG:Value) (H:AHeap) (k:Value→AHeap→Prop):S43x0 k [s0,s1,g,s3,s4,s5,s6,h,f,s9,i,j,l,m,
 n,o,p,q,r,s,t,u,v,w,x,y,z,A,B,C,D,E,F,G,I,J,K,L,M,N,O,P,Q,R,S,T,U,V,W,X,Y,Z,aa,ab,ac,ad,ae,af,ag,
 ah,ai,aj,ak,al,am,an,ao,ap,aq,ar,au,av,aw,ax,ay,az,aA,aB,aC,aD,aE,aF,aG] H=(@bnd (aLoad prog H 89 h) ⟨fun a=>@bndC prog 73 [a] H ⟨fun b H72=>@bnd
 (aBin2 prog H72 .lss 3 (.tmp 76) (.tmp 77) b g) ⟨fun c=>@kifB c ⟨@bnd (aBin2 prog H72 .add 9 (.const (.string { data:=#[40] })) (.tmp 79) (.string { data:=#[40] }) f) ⟨fun d=>@bnd (aBin2
 prog H72 .add 9 (.tmp 80) (.const (.string { data:=#[41] })) d (.string { data:=#[41] })) ⟨fun e=>k e H72⟩⟩⟩ ⟨k f H72⟩⟩⟩⟩):=by kernel_rfl
-- tocsin/crc.Of
def L44x0 (n:Nat) (k:Value→AHeap→Prop) (sl:List Value) (H:AHeap):Prop:=kit prog (cl (cl (cr (cl (cr (cr (cb Tryz.f44))))))) n (kblk 0 (kseq prog (cr (cr (cr (cb Tryz.f44)))) (kfin prog Tryz.f44 k)))
 .normal sl H
theorem d44 (a0:Value) (H:AHeap) (k:Value→AHeap→Prop):kbody prog Tryz.f44 [a0] H k=(@bndC prog 74 [] H ⟨fun v7x1 H2=>@bnd (aLen prog H2 133 a0) ⟨fun v9x3=>∃ n,L44x0 n  k [a0,undef,(.int .u32
 0),(.int .u32 4294967295),v7x1,undef,undef,v7x1,a0,v9x3,(.int .i64 0),undef,undef,undef,undef,undef,undef,undef,undef,undef,undef] H2⟩⟩):=by kernel_rfl
theorem L44x0q (n0:Nat) (o p q h i r B s m n b t u v w x y z A j l:Value) (H:AHeap) (k:Value→AHeap→Prop):L44x0 (n0+1) k [o,p,q,h,i,r,B,s,m,n,b,t,u,v,
 w,x,y,z,A,j,l] H=(@bnd (aBin2 prog H .lss 3 (.tmp 10) (.tmp 9) b n) ⟨fun c=>@kifB c ⟨@bnd (aIndexAddr prog H 133 m b) ⟨fun d=>@bnd (aLoad prog H 69 d) ⟨fun a =>
 @bndC prog 75 [h,i,a] H ⟨fun e H8=>@bnd (aBin2 prog H8 .add 3 (.tmp 10) (.const (.int .i64 1)) b (.int .i64 1)) ⟨fun f=>L44x0 n0  k [o,p,q,e,i,r,a,s,m,n,f,c,
 d,a,h,i,a,e,f,j,l] H8⟩⟩⟩⟩⟩ ⟨@bnd (unV prog .xor h) ⟨fun g=>k g H⟩⟩⟩):=by kernel_rfl
-- math/bits.Len64
def S56x0 (k:Value→AHeap→Prop) (sl:List Value) (H:AHeap):Prop:=kseq prog (cr (cr (cb Tryz.f56))) (kfin prog Tryz.f56 k) .normal sl H
def S56x1 (k:Value→AHeap→Prop) (sl:List Value) (H:AHeap):Prop:=kseq prog (cr (cr (cr (cb Tryz.f56)))) (kfin prog Tryz.f56 k) .normal sl H
def S56x2 (k:Value→AHeap→Prop) (sl:List Value) (H:AHeap):Prop:=kseq prog (cr (cr (cr (cr (cb Tryz.f56))))) (kfin prog Tryz.f56 k) .normal sl H
theorem d56 (a0:Value) (H:AHeap) (k:Value→AHeap→Prop):kbody prog Tryz.f56 [a0] H k=(@bnd (aBin2 prog H .geq 117 (.tmp 3) (.const (.int .u64 4294967296)) a0 (.int .u64 4294967296)) ⟨fun v4x1=>@kifB v4x1
 ⟨@bnd (aBin2 prog H .shr 117 (.tmp 5) (.const (.int .u64 32)) a0 (.int .u64 32)) ⟨fun v6x2=>S56x0  k [v6x2,undef,(.int .i64 32),a0,v4x1,a0,v6x2,undef,undef,undef,undef,undef,undef,undef,undef,undef,undef,
 undef,undef,undef,undef,undef,undef,undef,undef] H⟩⟩ ⟨S56x0  k [a0,undef,(.int .i64 0),a0,v4x1,undef,undef,undef,undef,undef,undef,undef,undef,undef,undef,undef,undef,undef,undef,undef,undef,undef,
 undef,undef,undef] H⟩⟩):=by kernel_rfl
theorem S56x0q (a v r w x y z B C A s t u e f g h i j l m n o p q:Value) (H:AHeap) (k:Value→AHeap→Prop):S56x0 k [a,v,r,w,x,y,z,B,C,A,s,t,u,e,f,
 g,h,i,j,l,m,n,o,p,q] H=(@bnd (aBin2 prog H .geq 117 (.tmp 7) (.const (.int .u64 65536)) a (.int .u64 65536)) ⟨fun b=>@kifB b ⟨@bnd (aBin2 prog H .shr 117 (.tmp 9) (.const (.int
 .u64 16)) a (.int .u64 16)) ⟨fun c=>@bnd (aBin2 prog H .add 3 (.tmp 11) (.const (.int .i64 16)) r (.int .i64 16)) ⟨fun d=>S56x1  k [c,v,d,w,x,y,z,a,b,a,c,r,d,e,f,
 g,h,i,j,l,m,n,o,p,q] H⟩⟩⟩ ⟨S56x1  k [a,v,r,w,x,y,z,a,b,A,s,t,u,e,f,g,h,i,j,l,m,n,o,p,q] H⟩⟩):=by kernel_rfl
theorem S56x1q (b t o u v w x y z A e f g B C p q r s h i j l m n:Value) (H:AHeap) (k:Value→AHeap→Prop):S56x1 k [b,t,o,u,v,w,x,y,z,A,e,f,g,B,C,
 p,q,r,s,h,i,j,l,m,n] H=(@bnd (aBin2 prog H .geq 117 (.tmp 13) (.const (.int .u64 256)) b (.int .u64 256)) ⟨fun a=>@kifB a ⟨@bnd (aBin2 prog H .shr 117 (.tmp 15) (.const (.int
 .u64 8)) b (.int .u64 8)) ⟨fun c=>@bnd (aBin2 prog H .add 3 (.tmp 17) (.const (.int .i64 8)) o (.int .i64 8)) ⟨fun d=>S56x2  k [c,t,d,u,v,w,x,y,z,A,e,f,g,b,a,b,
 c,o,d,h,i,j,l,m,n] H⟩⟩⟩ ⟨S56x2  k [b,t,o,u,v,w,x,y,z,A,e,f,g,b,a,p,q,r,s,h,i,j,l,m,n] H⟩⟩):=by kernel_rfl
theorem S56x2q (e w f x y z A B C D g h i j l m n o p q r s t u v:Value) (H:AHeap) (k:Value→AHeap→Prop):S56x2 k [e,w,f,x,y,z,A,B,C,D,g,h,i,j,l,
 m,n,o,p,q,r,s,t,u,v] H=(@bnd (convV prog H 117 5 e) ⟨fun d=>@bnd (aIndex prog 9 (.string l8S) d) ⟨fun a=>@bnd (convV prog H 5 3 a) ⟨fun b=>@bnd (aBin2
 prog H .add 3 (.tmp 19) (.tmp 23) f b) ⟨fun c=>k c H⟩⟩⟩⟩):=by kernel_rfl
-- tocsin/lex.Tell$1
def L57x0 (n:Nat) (k:Value→AHeap→Prop) (sl:List Value) (H:AHeap):Prop:=kit prog (cl (cl (cr (cr (cb Tryz.f57))))) n (kblk 0 (kfin prog Tryz.f57 k)) .normal sl H
theorem d57 (a0 a1:Value) (H:AHeap) (k:Value→AHeap→Prop):kbody prog Tryz.f57 [a0,a1] H k=(@bnd (aLoad prog H 9 a1) ⟨fun c=>@bnd (aLen prog H 9 c) ⟨fun d=>@bnd (aBin2 prog H .gtr 3
 (.tmp 7) (.const (.int .i64 4096)) d (.int .i64 4096)) ⟨fun e=>@kifB e ⟨@bnd (buildV prog 84 []) ⟨fun f=>@bndV prog a0 [f,(.int .i64 3)] H ⟨fun _ H6=>k (.tuple #[]) H6⟩⟩⟩ ⟨@bnd (aLoad prog
 H 9 a1) ⟨fun a=>@bndC prog 58 [a,(.int .i64 0)] H ⟨fun b H9=>∃ n,L57x0 n  k [a0,a1,undef,b,undef,undef,c,d,e,undef,undef,undef,a,b,undef,undef,undef,undef,undef,
 undef,undef,undef,undef,undef,undef,undef,undef,undef,undef,undef,undef,undef,undef,undef,undef,undef,undef,undef,undef,undef] H9⟩⟩⟩⟩⟩⟩):=by kernel_rfl
theorem L57x0q (n0:Nat) (r s C e s4 s5 D E F G u v w x I J K L M N O P Q R S T U V W y z A B X Y Z aa ab ac ad:Value) (H:AHeap) (k:Value→AHeap→Prop) :
 L57x0 (n0+1) k [r,s,C,e,s4,s5,D,E,F,G,u,v,w,x,I,J,K,L,M,N,O,P,Q,R,S,T,U,V,W,y,z,A,B,X,Y,Z,aa,ab,ac,ad] H=(@bnd (aLoad
 prog H 9 s) ⟨fun f=>@bnd (aLen prog H 9 f) ⟨fun g=>@bnd (aBin2 prog H .lss 3 (.tmp 14) (.tmp 16) e g) ⟨fun h=>@kifB h ⟨@bnd (aLoad prog H 9 s) ⟨fun i=>@bndC
 prog 59 [i,e] H ⟨fun b H15=>@bnd (tupV b 0) ⟨fun j=>@bnd (tupV b 1) ⟨fun a=>@bndE (aAlloc prog H15 84) ⟨fun d H19=>@bndS (aStore prog H19 84 d j) ⟨fun _ H21 =>
 @bnd (aBin2 prog H21 .eql 3 (.tmp 27) (.const (.int .i64 0)) a (.int .i64 0)) ⟨fun l=>@kifB l ⟨@bnd (buildV prog 84 [(2,e)]) ⟨fun t=>@bndV prog r [t,(.int .i64 90)] H21 ⟨fun _ H25
=>k (.tuple #[]) H25⟩⟩⟩ ⟨@bnd (aLoad prog H21 84 d) ⟨fun m=>@bndV prog r [m,(.int .i64 0)] H21 ⟨fun n H28=>@bnd (unV prog .not n) ⟨fun o=>@kifB o ⟨k (.tuple #[]) H28⟩
 ⟨@bnd (aBin2 prog H28 .add 3 (.tmp 37) (.tmp 38) e a) ⟨fun c=>@bnd (aLoad prog H28 9 s) ⟨fun p=>@bndC prog 58 [p,c] H28 ⟨fun q H33=>L57x0 n0  k [r,s,C,q,d,
 a,D,E,F,G,u,v,w,x,e,f,g,h,p,c,q,b,i,e,b,j,a,a,l,y,z,A,B,r,m,n,o,e,a,c]
 H33⟩⟩⟩⟩⟩⟩⟩⟩⟩⟩⟩⟩⟩⟩⟩⟩ ⟨k (.tuple #[]) H⟩⟩⟩⟩):=by kernel_rfl
-- tocsin/lex.skip
def L58x0 (n:Nat) (k:Value→AHeap→Prop) (sl:List Value) (H:AHeap):Prop:=kit prog (cl (cl (cl (cr (cb Tryz.f58))))) n (kblk 0 (kseq prog (cr (cr (cb Tryz.f58))) (kfin prog Tryz.f58 k))) .normal sl H
theorem d58 (a0 a1:Value) (H:AHeap) (k:Value→AHeap→Prop):kbody prog Tryz.f58 [a0,a1] H k=(∃ n,L58x0 n  k [a0,a1,undef,undef,(.int .i64 0),undef,undef,undef,undef,undef,undef,undef,undef,undef,
 undef,undef,undef,undef,undef,undef,undef,undef,undef,undef,undef,undef,undef,undef,undef] H):=by kernel_rfl
theorem L58x0q (n0:Nat) (c a A B C L M N O D E F G I J K o p q r s t u v w x y z n:Value) (H:AHeap) (k:Value→AHeap→Prop):L58x0 (n0+1) k [c,a,A,B,C,L,M,
 N,O,D,E,F,G,I,J,K,o,p,q,r,s,t,u,v,w,x,y,z,n] H=(@bnd (aLen prog H 9 c) ⟨fun i=>@bnd (aBin2 prog H .lss 3 (.tmp 5) (.tmp 7) a i) ⟨fun j =>
 @kifB j ⟨@bnd (aIndex prog 9 c a) ⟨fun d=>@bndC prog 82 [(.string { data:=#[32,9,10,13] }),d] H ⟨fun e H5=>@bnd (aBin2 prog H5 .geq 3 (.tmp 14) (.const (.int .i64 0)) e (.int .i64
 0)) ⟨fun b=>@kifB b ⟨@bnd (aBin2 prog H5 .add 3 (.tmp 16) (.const (.int .i64 1)) a (.int .i64 1)) ⟨fun l=>L58x0 n0  k [c,l,A,B,C,a,c,i,j,D,b,c,a,d,e,b,a,
 l,q,r,s,t,u,v,w,x,y,z,n] H5⟩⟩ ⟨@bnd (aIndex prog 9 c a) ⟨fun m=>@bnd (aBin2 prog H5 .eql 5 (.tmp 21) (.const (.int .u8 35)) m (.int .u8 35)) ⟨fun f=>@kifB f
 ⟨@bndC prog 83 [c,a,(.func (.func 84) #[] #[])] H5 ⟨fun g H11=>@bnd (aBin2 prog H11 .add 3 (.tmp 23) (.tmp 26) a g) ⟨fun h=>L58x0 n0  k [c,h,A,B,C,a,c,i,j,D,b,
 c,a,d,e,b,o,p,f,c,a,m,f,a,c,a,g,h,n] H11⟩⟩⟩ ⟨k a H5⟩⟩⟩⟩⟩⟩⟩⟩ ⟨k a H⟩⟩⟩):=by kernel_rfl
-- tocsin/lex.one
def S59x0 (k:Value→AHeap→Prop) (sl:List Value) (H:AHeap):Prop:=kseq prog (cr (cr (cr (cr (cb Tryz.f59))))) (kfin prog Tryz.f59 k) .normal sl H
theorem d59 (a0 a1:Value) (H:AHeap) (k:Value→AHeap→Prop):kbody prog Tryz.f59 [a0,a1] H k=(@bndE (aAlloc prog H 84) ⟨fun l H2=>@bnd (buildV prog 84 [(2,a1)]) ⟨fun h=>@bndE (aAlloc
 prog H2 84) ⟨fun d H5=>@bndS (aStore prog H5 84 d h) ⟨fun _ H7=>@bnd (aIndex prog 9 a0 a1) ⟨fun i=>@bndC prog 85 [i] H7 ⟨fun c H10=>@kifB c ⟨@bndC prog 83 [a0,a1,
 (.func (.func 86) #[] #[])] H10 ⟨fun B H12=>@bnd (aFieldAddr prog H12 84 d 0) ⟨fun C=>@bndS (aStore prog H12 5 C (.int .u8 1)) ⟨fun _ H15=>S59x0  k [a0,a1,undef,undef,l,(.int .i64 0),
 d,B,undef,a1,h,undef,undef,undef,undef,c,a0,a1,i,c,a0,a1,B,C,undef,undef,undef,undef,undef,undef,undef,undef,undef,undef,undef,undef,undef,undef,undef,undef,
 undef,undef,undef,undef,undef,undef,undef,undef,undef,undef,undef,undef,undef,undef,undef,undef,undef,undef,undef,undef,undef,undef,undef,undef,undef,undef,undef,undef,undef,undef,undef,undef,
 undef,undef,undef,undef,undef,undef,undef,undef,undef,undef,undef,undef,undef] H15⟩⟩⟩⟩ ⟨@bnd (aIndex prog 9 a0 a1) ⟨fun j=>@bndC prog 87 [j] H10 ⟨fun e H18=>@kifB e ⟨@bndC prog
 83 [a0,a1,(.func (.func 87) #[] #[])] H18 ⟨fun a H20=>@bnd (aFieldAddr prog H20 84 d 0) ⟨fun m=>@bndS (aStore prog H20 5 m (.int .u8 2)) ⟨fun _ H23=>@bnd (aBin2 prog H23 .add 3 (.tmp 34)
 (.tmp 35) a1 a) ⟨fun n=>@bnd (aBin2 prog H23 .add 3 (.tmp 36) (.const (.int .i64 1)) n (.int .i64 1)) ⟨fun o=>@bndC prog 83 [a0,o,(.func (.func 87) #[] #[])] H23 ⟨fun f H27=>@bnd
 (aBin2 prog H27 .add 3 (.tmp 39) (.tmp 40) a1 a) ⟨fun p=>@bnd (aLen prog H27 9 a0) ⟨fun q=>@bnd (aBin2 prog H27 .lss 3 (.tmp 41) (.tmp 43) p q) ⟨fun b=>@bnd (gif b true
 ((some a0)) undef) ⟨fun r=>@bnd (gif b true ((some a1)) undef) ⟨fun s=>@bnd (gif b true ((some a)) undef) ⟨fun t=>@bnd (gif b true (aBin2 prog H27 .add 3 (.tmp 47) (.tmp 48) s
 t) undef) ⟨fun u=>@bnd (gif b true (aIndex prog 9 r u) undef) ⟨fun v=>@bnd (gif b true (aBin2 prog H27 .eql 5 (.tmp 50) (.const (.int .u8 46)) v (.int .u8 46)) undef) ⟨fun
 w=>@bnd (pickV b w (.bool false)) ⟨fun g=>@bnd (gif g true ((some f)) undef) ⟨fun x=>@bnd (gif g true (aBin2 prog H27 .gtr 3 (.tmp 54) (.const (.int .i64 0)) x (.int .i64
 0)) undef) ⟨fun y=>@bnd (pickV g y (.bool false)) ⟨fun z=>@kifB z ⟨@bnd (aBin2 prog H27 .add 3 (.const (.int .i64 1)) (.tmp 58) (.int .i64 1) f) ⟨fun D=>@bnd (aBin2 prog H27
 .add 3 (.tmp 57) (.tmp 59) a D) ⟨fun E=>S59x0  k [a0,a1,undef,undef,l,(.int .i64 0),d,E,f,a1,h,undef,undef,undef,undef,c,a0,a1,i,c,undef,undef,undef,undef,
 e,a0,a1,j,e,a0,a1,a,m,a0,a1,a,n,o,f,a1,a,p,a0,q,b,b,r,s,t,u,v,w,g,g,x,y,
 z,a,f,D,E,undef,undef,undef,undef,undef,undef,undef,undef,undef,undef,undef,undef,undef,undef,undef,undef,undef,undef,undef,undef,undef,undef,undef,undef] H27⟩⟩⟩ ⟨S59x0  k
 [a0,a1,undef,undef,l,(.int .i64 0),d,a,f,a1,h,undef,undef,undef,undef,c,a0,a1,i,c,undef,undef,undef,undef,e,a0,a1,j,e,a0,a1,a,m,a0,a1,
 a,n,o,f,a1,a,p,a0,q,b,b,r,s,t,u,v,w,g,g,x,y,z,undef,undef,undef,undef,undef,undef,undef,undef,
 undef,undef,undef,undef,undef,undef,undef,undef,undef,undef,undef,undef,undef,undef,undef,undef,undef,undef,undef,undef] H27⟩⟩⟩⟩⟩⟩⟩⟩⟩⟩⟩⟩⟩⟩⟩⟩⟩⟩⟩⟩⟩ ⟨@bnd (aIndex prog 9 a0 a1) ⟨fun F=>@bnd (aBin2
 prog H18 .eql 5 (.tmp 64) (.const (.int .u8 34)) F (.int .u8 34)) ⟨fun A=>@kifB A ⟨@bnd (aFieldAddr prog H18 84 d 0) ⟨fun K=>@bndS (aStore prog H18 5 K (.int .u8 3)) ⟨fun _ H47 =>
 @bndC prog 88 [a0,a1] H47 ⟨fun G H49=>@bnd (tupV G 0) ⟨fun L=>@bnd (tupV G 1) ⟨fun M=>@bnd (aFieldAddr prog H49 84 d 1) ⟨fun N=>@bndS (aStore prog H49 9 N L)
 ⟨fun _ H54=>@bnd (aLoad prog H54 84 d) ⟨fun O=>@bndS (aStore prog H54 84 l O) ⟨fun _ H57=>∃ r58,aLoad prog H57 84 l=some r58∧k (.tuple #[r58,M]) H57⟩⟩⟩⟩⟩⟩⟩⟩⟩⟩ ⟨@bndC prog
 89 [a0,a1] H18 ⟨fun I H60=>@bnd (aFieldAddr prog H60 84 d 0) ⟨fun J=>@bndS (aStore prog H60 5 J (.int .u8 4)) ⟨fun _ H63=>S59x0  k [a0,a1,undef,undef,l,(.int .i64 0),d,I,
 undef,a1,h,a0,a1,I,J,c,a0,a1,i,c,undef,undef,undef,undef,e,a0,a1,j,e,undef,undef,undef,undef,undef,undef,undef,undef,undef,undef,undef,undef,undef,
 undef,undef,undef,undef,undef,undef,undef,undef,undef,undef,undef,undef,undef,undef,undef,undef,undef,undef,undef,A,a0,a1,F,A,undef,undef,undef,undef,undef,undef,undef,undef,undef,
 undef,undef,undef,undef,undef,undef,undef,undef,undef,undef] H63⟩⟩⟩⟩⟩⟩⟩⟩⟩⟩⟩⟩⟩⟩⟩⟩):=by kernel_rfl
theorem S59x0q (i e s2 s3 f s5 g h s8 s9 j l m n o p q r s t u v w x y z A B C D E F G I J K L M N O P Q R S T U V W X Y Z aa ab ac ad ae
 af ag ah ai aj ak al am an ao ap aq ar au av aw ax ay az aA aB aC aD aE aF aG aH aI aJ:Value) (H:AHeap) (k:Value→AHeap→Prop):S59x0 k [i,e,s2,s3,f,s5,g,h,s8,s9,j,l,
 m,n,o,p,q,r,s,t,u,v,w,x,y,z,A,B,C,D,E,F,G,I,J,K,L,M,N,O,P,Q,R,S,T,U,V,W,X,Y,Z,aa,ab,ac,ad,ae,af,
 ag,ah,ai,aj,ak,al,am,an,ao,ap,aq,ar,au,av,aw,ax,ay,az,aA,aB,aC,aD,aE,aF,aG,aH,aI,aJ] H=(@bnd (aBin2 prog H .add 3 (.tmp 78) (.tmp 79) e h) ⟨fun a=>@bnd
 (aSliceOp prog H 9 i (some e) (some a)) ⟨fun b=>@bnd (aFieldAddr prog H 84 g 1) ⟨fun c=>@bndS (aStore prog H 9 c b) ⟨fun _ H68=>@bnd (aLoad prog H68 84 g) ⟨fun d =>
 @bndS (aStore prog H68 84 f d) ⟨fun _ H71=>∃ r72,aLoad prog H71 84 f=some r72∧k (.tuple #[r72,h]) H71⟩⟩⟩⟩⟩⟩):=by kernel_rfl
-- (*tocsin/expr.reader).is
theorem d60 (a0 a1 a2:Value) (H:AHeap) (k:Value→AHeap→Prop):kbody prog Tryz.f60 [a0,a1,a2] H k=(@bnd (nilV a0) ⟨fun Q=>@bnd (aFieldAddr prog H 63 Q 2) ⟨fun R=>@bnd (aLoad prog H 4 R)
 ⟨fun c=>@bnd (gif c true ((some a0)) undef) ⟨fun K=>@bnd (gif c true (nilV K) undef) ⟨fun L=>@bnd (gif c true (aFieldAddr prog H 63 L 1) undef) ⟨fun M=>@bnd (gif c true
 (aLoad prog H 3 M) undef) ⟨fun N=>@bnd (gif c true ((some a0)) undef) ⟨fun O=>@bnd (gif c true (nilV O) undef) ⟨fun P=>@bnd (gif c true (aFieldAddr prog H 63 P 0) undef) ⟨fun
 d=>@bnd (gif c true (aLoad prog H 56 d) undef) ⟨fun e=>@bnd (gif c true (aLen prog H 56 e) undef) ⟨fun f=>@bnd (gif c true (aBin2 prog H .lss 3 (.tmp 15) (.tmp 20) N
 f) undef) ⟨fun g=>@bnd (pickV c g (.bool false)) ⟨fun a=>@bnd (gif a true ((some a0)) undef) ⟨fun h=>@bnd (gif a true (nilV h) undef) ⟨fun i=>@bnd (gif a true
 (aFieldAddr prog H 63 i 0) undef) ⟨fun j=>@bnd (gif a true (aLoad prog H 56 j) undef) ⟨fun l=>@bnd (gif a true ((some a0)) undef) ⟨fun m=>@bnd (gif a true (nilV m)
 undef) ⟨fun n=>@bnd (gif a true (aFieldAddr prog H 63 n 1) undef) ⟨fun o=>@bnd (gif a true (aLoad prog H 3 o) undef) ⟨fun p=>@bnd (gif a true (aIndexAddr prog H 56
 l p) undef) ⟨fun q=>@bnd (gif a true (aFieldAddr prog H 84 q 0) undef) ⟨fun r=>@bnd (gif a true (aLoad prog H 5 r) undef) ⟨fun s=>@bnd (gif a true ((some a1))
 undef) ⟨fun t=>@bnd (gif a true (aBin2 prog H .eql 5 (.tmp 34) (.tmp 35) s t) undef) ⟨fun u=>@bnd (pickV a u (.bool false)) ⟨fun b=>@bnd (gif b true ((some a0)) undef)
 ⟨fun v=>@bnd (gif b true (nilV v) undef) ⟨fun w=>@bnd (gif b true (aFieldAddr prog H 63 w 0) undef) ⟨fun x=>@bnd (gif b true (aLoad prog H 56 x) undef) ⟨fun y =>
 @bnd (gif b true ((some a0)) undef) ⟨fun z=>@bnd (gif b true (nilV z) undef) ⟨fun A=>@bnd (gif b true (aFieldAddr prog H 63 A 1) undef) ⟨fun B=>@bnd (gif b true (aLoad
 prog H 3 B) undef) ⟨fun C=>@bnd (gif b true (aIndexAddr prog H 56 y C) undef) ⟨fun D=>@bnd (gif b true (aFieldAddr prog H 84 D 1) undef) ⟨fun E=>@bnd (gif b
 true (aLoad prog H 9 E) undef) ⟨fun F=>@bnd (gif b true ((some a2)) undef) ⟨fun G=>@bnd (gif b true (aBin2 prog H .eql 9 (.tmp 49) (.tmp 50) F G) undef) ⟨fun I=>@bnd
 (pickV b I (.bool false)) ⟨fun J=>k J H⟩⟩⟩⟩⟩⟩⟩⟩⟩⟩⟩⟩⟩⟩⟩⟩⟩⟩⟩⟩⟩⟩⟩⟩⟩⟩⟩⟩⟩⟩⟩⟩⟩⟩⟩⟩⟩⟩⟩⟩⟩⟩):=by kernel_rfl
end Go.Vi
namespace Go.Vi
open Go Go.Proofs Go.Proofs.Tryz
-- (*tocsin/expr.reader).one
theorem d61 (a0 a1 a2:Value) (H:AHeap) (k:Value→AHeap→Prop):kbody prog Tryz.f61 [a0,a1,a2] H k=(@bndC prog 90 [a2] H ⟨fun h H2=>@bndC prog 91 [a0,a1] H2 ⟨fun i H4=>@bnd (aLookup
 prog H4 149 h i true) ⟨fun b=>@bnd (tupV b 0) ⟨fun j=>@bnd (tupV b 1) ⟨fun l=>@bnd (nilV a0) ⟨fun m=>@bnd (aFieldAddr prog H4 63 m 2) ⟨fun n=>@bnd (aLoad prog H4
 4 n) ⟨fun a=>@bnd (gif a true ((some l)) undef) ⟨fun c=>@bnd (pickV a c (.bool false)) ⟨fun d=>@bnd (nilV a0) ⟨fun e=>@bnd (aFieldAddr prog H4 63 e 2) ⟨fun f =>
 @bndS (aStore prog H4 4 f d) ⟨fun _ H16=>@bnd (convV prog H16 3 5 j) ⟨fun g=>k g H16⟩⟩⟩⟩⟩⟩⟩⟩⟩⟩⟩⟩⟩⟩):=by kernel_rfl
-- tocsin/expr.aggregates
theorem d62 (H:AHeap) (k:Value→AHeap→Prop):kbody prog Tryz.f62 [] H k=(@bndL prog H 38 6 [(0,(.string { data:=#[99,111,117,110,116] })),(1,(.string { data:=#[115,117,109] })),(2,(.string {
 data:=#[109,105,110] })),(3,(.string { data:=#[109,97,120] })),(4,(.string { data:=#[109,101,97,110] })),(5,(.string { data:=#[108,97,115,116] }))] ⟨fun v1x1 H2=>k v1x1 H2⟩):=by kernel_rfl
-- (*tocsin/expr.reader).selects
def L63x0 (n:Nat) (k:Value→AHeap→Prop) (sl:List Value) (H:AHeap):Prop:=kit prog (cl (cl (cr (cl (cr (cr (cr (cr (cb Tryz.f63))))))))) n (kblk 0 (kseq prog (cr (cr (cr (cr (cr (cb Tryz.f63)))))) (kfin
 prog Tryz.f63 k))) .normal sl H
theorem d63 (a0:Value) (H:AHeap) (k:Value→AHeap→Prop):kbody prog Tryz.f63 [a0] H k=(@bndC prog 35 [a0,(.string { data:=#[123] })] H ⟨fun v6x1 H2=>@bndC prog 34 [a0,(.int .u8 4),(.string { data
:=#[125] })] H2 ⟨fun v8x3 H4=>@kifB v8x3 ⟨k (.slice none 0 0) H4⟩ ⟨∃ n,L63x0 n  k [a0,undef,(.slice none 0 0),(.slice none 0 0),(.bool true),a0,v6x1,a0,v8x3,undef,undef,undef,undef,undef,undef,undef,undef,
 undef,undef,undef,undef,undef,undef,undef,undef,undef,undef,undef,undef,undef,undef,undef,undef,undef,undef,undef,undef,undef,undef,undef,undef,undef,undef] H4⟩⟩⟩):=by kernel_rfl
theorem L63x0q (n0:Nat) (a O P s d Q R S T s9 U V W X Y Z aa ab ac ad ae af ag ah ai aj ak al am z A B C D E F G I J K L M N:Value) (H:AHeap) (k:Value→AHeap
→Prop):L63x0 (n0+1) k [a,O,P,s,d,Q,R,S,T,s9,U,V,W,X,Y,Z,aa,ab,ac,ad,ae,af,ag,ah,ai,aj,ak,al,am,z,A,B,C,D,E,F,G,I,J,K,L,M,
 N] H=(@bnd (gif d true ((some a)) undef) ⟨fun n=>@bnd (gif d true (nilV n) undef) ⟨fun o=>@bnd (gif d true (aFieldAddr prog H 63 o 2) undef) ⟨fun p=>@bnd (gif d true (aLoad prog H 4
 p) undef) ⟨fun q=>@bnd (pickV d q (.bool false)) ⟨fun r=>@kifB r ⟨@bndC prog 91 [a,(.int .u8 1)] H ⟨fun e H11=>@bndC prog 92 [] H11 ⟨fun f H13=>@bndC prog 61 [a,(.int
 .u8 4),f] H13 ⟨fun g H15=>@bndC prog 91 [a,(.int .u8 3)] H15 ⟨fun h H17=>@bnd (buildV prog 153 [(0,e),(1,g),(2,h)]) ⟨fun i=>@bndL prog H17 87 1 [(0,i)] ⟨fun
 j H20=>@bndE (aBuiltin prog H20 Builtin.append #[87,87] [s,j]) ⟨fun l H22=>@bndC prog 34 [a,(.int .u8 4),(.string { data:=#[44] })] H22 ⟨fun m H24=>L63x0 n0  k [a,O,P,l,
 m,Q,R,S,T,d,d,n,o,p,q,r,a,m,s,a,e,a,f,g,a,h,i,j,l,z,A,B,C,D,E,F,G,I,J,K,L,M,N]
 H24⟩⟩⟩⟩⟩⟩⟩⟩⟩ ⟨@bndC prog 35 [a,(.string { data:=#[125] })] H ⟨fun _ H26=>@bnd (nilV a) ⟨fun t=>@bnd (aFieldAddr prog H26 63 t 2) ⟨fun u=>@bnd (aLoad prog H26 4 u) ⟨fun b =>
 @bnd (gif b true ((some s)) undef) ⟨fun v=>@bndG b true H26 ⟨fun c H32=>ACalls prog 93 [v] H26 c H32⟩ ⟨fun c H32=>@bnd (pickV b c (.bool false)) ⟨fun w=>@bnd (nilV
 a) ⟨fun x=>@bnd (aFieldAddr prog H32 63 x 2) ⟨fun y=>@bndS (aStore prog H32 4 y w) ⟨fun _ H37=>k s H37⟩⟩⟩⟩⟩⟩⟩⟩⟩⟩⟩⟩⟩⟩⟩⟩):=by kernel_rfl
-- (*tocsin/expr.reader).window
theorem d64 (a0:Value) (H:AHeap) (k:Value→AHeap→Prop):kbody prog Tryz.f64 [a0] H k=(@bndC prog 91 [a0,(.int .u8 2)] H ⟨fun s H2=>@bndC prog 94 [s] H2 ⟨fun e H4=>@bnd (tupV e 0) ⟨fun
 d=>@bnd (tupV e 1) ⟨fun p=>@bnd (nilV a0) ⟨fun q=>@bnd (aFieldAddr prog H4 63 q 2) ⟨fun r=>@bnd (aLoad prog H4 4 r) ⟨fun c=>@bnd (gif c true ((some p)) undef) ⟨fun
 f=>@bnd (gif c true (aBin2 prog H4 .eql 96 (.tmp 17) (.const .nilIface) f .nilIface) undef) ⟨fun g=>@bnd (pickV c g (.bool false)) ⟨fun a=>@bnd (gif a true ((some d)) undef)
 ⟨fun h=>@bnd (gif a true (aBin2 prog H4 .geq 3 (.tmp 21) (.const (.int .i64 1)) h (.int .i64 1)) undef) ⟨fun i=>@bnd (pickV a i (.bool false)) ⟨fun b=>@bnd (gif b true ((some
 d)) undef) ⟨fun j=>@bnd (gif b true (aBin2 prog H4 .leq 3 (.tmp 25) (.const (.int .i64 1000)) j (.int .i64 1000)) undef) ⟨fun l=>@bnd (pickV b l (.bool false)) ⟨fun m=>@bnd (nilV
 a0) ⟨fun n=>@bnd (aFieldAddr prog H4 63 n 2) ⟨fun o=>@bndS (aStore prog H4 4 o m) ⟨fun _ H22=>k d H22⟩⟩⟩⟩⟩⟩⟩⟩⟩⟩⟩⟩⟩⟩⟩⟩⟩⟩⟩):=by kernel_rfl
-- tocsin/expr.compares
theorem d65 (H:AHeap) (k:Value→AHeap→Prop):kbody prog Tryz.f65 [] H k=(@bndL prog H 38 6 [(0,(.string { data:=#[60] })),(1,(.string { data:=#[60,61] })),(2,(.string { data:=#[62] })),(3,
 (.string { data:=#[62,61] })),(4,(.string { data:=#[61,61] })),(5,(.string { data:=#[33,61] }))] ⟨fun v1x1 H2=>k v1x1 H2⟩):=by kernel_rfl
-- (*tocsin/expr.reader).value
def S66x0 (k:Value→AHeap→Prop) (sl:List Value) (H:AHeap):Prop:=kseq prog (cr (cr (cr (cb Tryz.f66)))) (kfin prog Tryz.f66 k) .normal sl H
theorem d66 (a0:Value) (H:AHeap) (k:Value→AHeap→Prop):kbody prog Tryz.f66 [a0] H k=(@bndC prog 34 [a0,(.int .u8 4),(.string { data:=#[45] })] H ⟨fun v7x1 H2=>@kifB v7x1 ⟨S66x0  k [a0,undef,(.int
 .i64 0),(.string { data:=#[45] }),undef,undef,a0,v7x1,undef,undef,undef,undef,undef,undef,undef,undef,undef,undef,undef,undef,undef,undef,undef,undef,undef,undef,undef,undef] H2⟩ ⟨S66x0  k [a0,undef,
 (.int .i64 0),(.string { data:=#[] }),undef,undef,a0,v7x1,undef,undef,undef,undef,undef,undef,undef,undef,undef,undef,undef,undef,undef,undef,undef,undef,undef,undef,undef,undef] H2⟩⟩):=by kernel_rfl
theorem S66x0q (j J K p L M N O P Q q r s t u v w x y z A B C D E F G I:Value) (H:AHeap) (k:Value→AHeap→Prop):S66x0 k [j,J,K,p,L,M,N,O,P,Q,q,r,
 s,t,u,v,w,x,y,z,A,B,C,D,E,F,G,I] H=(@bndC prog 91 [j,(.int .u8 2)] H ⟨fun l H4=>@bnd (aBin2 prog H4 .add 9 (.tmp 9) (.tmp 11) p l) ⟨fun m=>@bndC
 prog 95 [m] H4 ⟨fun b H7=>@bnd (tupV b 0) ⟨fun n=>@bnd (tupV b 1) ⟨fun o=>@bnd (nilV j) ⟨fun c=>@bnd (aFieldAddr prog H7 63 c 2) ⟨fun d=>@bnd (aLoad prog H7 4
 d) ⟨fun a=>@bnd (gif a true ((some o)) undef) ⟨fun e=>@bnd (gif a true (aBin2 prog H7 .eql 35 (.tmp 22) (.const (.int .i64 0)) e (.int .i64 0)) undef) ⟨fun f=>@bnd (pickV a
 f (.bool false)) ⟨fun g=>@bnd (nilV j) ⟨fun h=>@bnd (aFieldAddr prog H7 63 h 2) ⟨fun i=>@bndS (aStore prog H7 4 i g) ⟨fun _ H19=>k n H19⟩⟩⟩⟩⟩⟩⟩⟩⟩⟩⟩⟩⟩⟩):=by kernel_rfl
-- (*strings.Builder).copyCheck
theorem d67 (a0:Value) (H:AHeap) (k:Value→AHeap→Prop):kbody prog Tryz.f67 [a0] H k=(@bnd (nilV a0) ⟨fun i=>@bnd (aFieldAddr prog H 94 i 0) ⟨fun j=>@bnd (aLoad prog H 92 j) ⟨fun l =>
 @bnd (aBin2 prog H .eql 92 (.tmp 5) (.const (.pointer none)) l (.pointer none)) ⟨fun m=>@kifB m ⟨@bnd (convV prog H 92 157 a0) ⟨fun n=>@bndC prog 96 [n] H ⟨fun f H7=>@bnd (convV prog
 H7 157 92 f) ⟨fun g=>@bnd (nilV a0) ⟨fun h=>@bnd (aFieldAddr prog H7 94 h 0) ⟨fun a=>@bndS (aStore prog H7 92 a g) ⟨fun _ H12=>k (.tuple #[]) H12⟩⟩⟩⟩⟩⟩⟩ ⟨@bnd (nilV a0) ⟨fun
 b=>@bnd (aFieldAddr prog H 94 b 0) ⟨fun c=>@bnd (aLoad prog H 92 c) ⟨fun d=>@bnd (aBin2 prog H .neq 92 (.tmp 17) (.tmp 18) d a0) ⟨fun e=>@kifB e ⟨False⟩ ⟨k (.tuple
 #[]) H⟩⟩⟩⟩⟩⟩⟩⟩⟩⟩):=by kernel_rfl
-- (*strings.Builder).grow
theorem d68 (a0 a1:Value) (H:AHeap) (k:Value→AHeap→Prop):kbody prog Tryz.f68 [a0,a1] H k=(@bnd (nilV a0) ⟨fun p=>@bnd (aFieldAddr prog H 94 p 1) ⟨fun q=>@bnd (aLoad prog H 69 q) ⟨fun
 r=>@bndD false H ⟨fun c H5=>aBuiltin prog H Builtin.cap #[69] [r]=some (c,H5)⟩ ⟨fun c H5=>@bnd (aBin2 prog H5 .mul 3 (.const (.int .i64 2)) (.tmp 9) (.int .i64 2) c) ⟨fun n=>@bnd
 (aBin2 prog H5 .add 3 (.tmp 10) (.tmp 11) n a1) ⟨fun o=>@bndD false H5 ⟨fun a H9=>ACalls prog 97 [o] H5 a H9⟩ ⟨fun a H9=>@bnd (nilV a0) ⟨fun d=>@bnd (aFieldAddr prog H 94
 d 1) ⟨fun e=>@bnd (aLoad prog H 69 e) ⟨fun f=>@bnd (aLen prog H 69 f) ⟨fun g=>@bnd (aSliceOp prog H9 69 a none (some g)) ⟨fun b=>@bnd (nilV a0) ⟨fun h =>
 @bnd (aFieldAddr prog H9 94 h 1) ⟨fun i=>@bnd (aLoad prog H9 69 i) ⟨fun j=>@bndE (aBuiltin prog H9 Builtin.copy #[69,69] [b,j]) ⟨fun _ H19=>@bnd (nilV a0) ⟨fun l=>@bnd
 (aFieldAddr prog H19 94 l 1) ⟨fun m=>@bndS (aStore prog H19 69 m b) ⟨fun _ H23=>k (.tuple #[]) H23⟩⟩⟩⟩⟩⟩⟩⟩⟩⟩⟩⟩⟩⟩⟩⟩⟩⟩⟩):=by kernel_rfl
-- internal/strconv.FormatInt
def S69x0 (k:Value→AHeap→Prop) (sl:List Value) (H:AHeap):Prop:=kseq prog (cr (cr (cr (cr (cl (cr (cl (cr (cb Tryz.f69))))))))) (kseq prog (cr (cr (cb Tryz.f69))) (kfin prog Tryz.f69 k)) .normal sl H
theorem d69 (a0 a1:Value) (H:AHeap) (k:Value→AHeap→Prop):kbody prog Tryz.f69 [a0,a1] H k=(@bnd (aBin2 prog H .eql 3 (.tmp 10) (.const (.int .i64 10)) a1 (.int .i64 10)) ⟨fun c=>@kifB c ⟨@bnd
 (aBin2 prog H .leq 2 (.const (.int .i64 0)) (.tmp 12) (.int .i64 0) a0) ⟨fun a=>@bnd (gif a true ((some a0)) undef) ⟨fun e=>@bnd (gif a true (aBin2 prog H .lss 2 (.tmp 15) (.const (.int .i64 100))
 e (.int .i64 100)) undef) ⟨fun f=>@bnd (pickV a f (.bool false)) ⟨fun g=>@kifB g ⟨@bndC prog 98 [a0] H ⟨fun j H7=>k j H7⟩⟩ ⟨@bndE (aAlloc prog H 160) ⟨fun i H9=>@bnd (convV
 prog H9 2 117 a0) ⟨fun b=>@bnd (aBin2 prog H9 .lss 2 (.tmp 22) (.const (.int .i64 0)) a0 (.int .i64 0)) ⟨fun d=>@kifB d ⟨@bnd (unV prog .neg b) ⟨fun h=>S69x0  k [a0,a1,undef,
 undef,(.string { data:=#[] }),i,h,undef,undef,undef,a1,c,a0,a,a,e,f,g,undef,undef,a0,b,a0,d,b,h,undef,undef,undef,undef,undef,undef,undef,
 undef,undef,undef,undef,undef,undef,undef,undef,undef,undef,undef,undef,undef,undef,undef,undef,undef,undef,undef,undef,undef] H9⟩⟩ ⟨S69x0  k [a0,a1,undef,undef,(.string { data:=#[] }),i,b,
 undef,undef,undef,a1,c,a0,a,a,e,f,g,undef,undef,a0,b,a0,d,undef,undef,undef,undef,undef,undef,undef,undef,undef,undef,undef,undef,undef,undef,undef,undef,undef,
 undef,undef,undef,undef,undef,undef,undef,undef,undef,undef,undef,undef,undef] H9⟩⟩⟩⟩⟩⟩⟩⟩⟩⟩ ⟨kx prog (cr (cr (cl (cr (cb Tryz.f69))))) [a0,a1,undef,undef,(.string { data:=#[] }),undef,undef,undef,
 undef,undef,a1,c,undef,undef,undef,undef,undef,undef,undef,undef,undef,undef,undef,undef,undef,undef,undef,undef,undef,undef,undef,undef,undef,undef,undef,undef,undef,undef,undef,undef,undef,
 undef,undef,undef,undef,undef,undef,undef,undef,undef,undef,undef,undef,undef] H (kseq prog (cr (cr (cb Tryz.f69))) (kfin prog Tryz.f69 k))⟩⟩):=by kernel_rfl
theorem S69x0q (o s1 s2 s3 s4 b n s7 s8 s9 p q r s t u v w x y z A B C D E F G I J K L M N O P Q R S T U V W X Y Z aa ab ac ad ae af ag ah :
 Value) (H:AHeap) (k:Value→AHeap→Prop):S69x0 k [o,s1,s2,s3,s4,b,n,s7,s8,s9,p,q,r,s,t,u,v,w,x,y,z,A,B,C,D,E,F,G,I,J,K,L,M,N,O,P,
 Q,R,S,T,U,V,W,X,Y,Z,aa,ab,ac,ad,ae,af,ag,ah] H=(@bndC prog 99 [n] H ⟨fun a H14=>@bnd (aBin2 prog H14 .add 3 (.const (.int .i64 1)) (.tmp 28) (.int .i64 1) a)
 ⟨fun c=>@bnd (aSliceOp prog H14 160 b (some (.int .i64 1)) (some c)) ⟨fun d=>@bndC prog 100 [d,n] H14 ⟨fun _ H18=>@bnd (aBin2 prog H18 .lss 2 (.tmp 33) (.const (.int .i64 0)) o (.int
 .i64 0)) ⟨fun e=>@kifB e ⟨@bnd (aIndexAddr prog H18 160 b (.int .i64 0)) ⟨fun f=>@bndS (aStore prog H18 5 f (.int .u8 45)) ⟨fun _ H22=>@bnd (aBin2 prog H22 .add 3 (.const (.int .i64 1))
 (.tmp 36) (.int .i64 1) a) ⟨fun g=>@bnd (aSliceOp prog H22 160 b none (some g)) ⟨fun h=>@bnd (convV prog H22 69 9 h) ⟨fun i=>k i H22⟩⟩⟩⟩⟩⟩ ⟨@bnd (aBin2 prog H18 .add 3
 (.const (.int .i64 1)) (.tmp 40) (.int .i64 1) a) ⟨fun j=>@bnd (aSliceOp prog H18 160 b (some (.int .i64 1)) (some j)) ⟨fun l=>@bnd (convV prog H18 69 9 l) ⟨fun m=>k m
 H18⟩⟩⟩⟩⟩⟩⟩⟩⟩):=by kernel_rfl
-- tocsin/expr.begin
def S70x0 (k:Value→AHeap→Prop) (sl:List Value) (H:AHeap):Prop:=kseq prog (cr (cr (cr (cr (cb Tryz.f70))))) (kfin prog Tryz.f70 k) .normal sl H
def S70x1 (k:Value→AHeap→Prop) (sl:List Value) (H:AHeap):Prop:=kseq prog (cr (cr (cr (cr (cr (cl (cr (cl (cr (cr (cr (cb Tryz.f70)))))))))))) (kblk 0 (kseq prog (cr (cr (cr (cr (cb Tryz.f70))))) (kfin
 prog Tryz.f70 k))) .normal sl H
theorem d70 (a0 a1:Value) (H:AHeap) (k:Value→AHeap→Prop):kbody prog Tryz.f70 [a0,a1] H k=(@bnd (aBin2 prog H .lss 3 (.tmp 7) (.const (.int .i64 0)) a1 (.int .i64 0)) ⟨fun l=>@kifB l ⟨k (.int .i64
 (-1)) H⟩ ⟨@bnd (aIndexAddr prog H 34 a0 a1) ⟨fun g=>@bnd (aLoad prog H 89 g) ⟨fun h=>@bndE (aAlloc prog H 89) ⟨fun e H5=>@bndS (aStore prog H5 89 e h) ⟨fun _ H7=>@bnd
 (aFieldAddr prog H7 89 e 0) ⟨fun i=>@bnd (aLoad prog H7 5 i) ⟨fun d=>@bnd (aBin2 prog H7 .eql 5 (.tmp 14) (.const (.int .u8 0)) d (.int .u8 0)) ⟨fun a=>@kifB a ⟨@bnd (aLoad
 prog H7 89 e) ⟨fun m=>@bndC prog 102 [m] H7 ⟨fun n H13=>@kifB n ⟨k a1 H13⟩ ⟨S70x0  k [a0,a1,undef,undef,(.int .i64 0),e,undef,a1,l,a0,a1,g,h,i,d,a,
 a,m,n,undef,undef,undef,undef,undef,undef,undef,undef,undef,undef,undef,undef,undef,undef,undef,undef,undef,undef,undef,undef,undef,undef,undef,undef,undef,undef,undef,undef,undef,
 undef,undef,undef,undef,undef,undef,undef,undef,undef,undef,undef,undef,undef,undef,undef,undef,undef,undef,undef,undef,undef,undef,undef] H13⟩⟩⟩⟩ ⟨@bnd (aBin2 prog H7 .eql 5 (.tmp 14) (.const (.int
 .u8 3)) d (.int .u8 3)) ⟨fun c=>@kifB c ⟨@bnd (aLoad prog H7 89 e) ⟨fun o=>@bndC prog 103 [o] H7 ⟨fun b H17=>@bnd (gif b true (aFieldAddr prog H17 89 e 6) undef) ⟨fun
 p=>@bnd (gif b true (aLoad prog H17 3 p) undef) ⟨fun q=>@bnd (gif b true ((some a1)) undef) ⟨fun r=>@bnd (gif b true (aBin2 prog H17 .sub 3 (.tmp 27) (.const (.int .i64 1))
 r (.int .i64 1)) undef) ⟨fun s=>@bnd (gif b true (aBin2 prog H17 .eql 3 (.tmp 26) (.tmp 28) q s) undef) ⟨fun t=>@bnd (pickV b t (.bool false)) ⟨fun f=>@bnd (gif f
 true (aFieldAddr prog H17 89 e 7) undef) ⟨fun u=>@bnd (gif f true (aLoad prog H17 3 u) undef) ⟨fun v=>@bnd (gif f true (aBin2 prog H17 .eql 3 (.tmp 33) (.const (.int .i64 0))
 v (.int .i64 0)) undef) ⟨fun w=>@bnd (pickV f w (.bool false)) ⟨fun x=>@kifB x ⟨@bnd (aBin2 prog H17 .sub 3 (.tmp 37) (.const (.int .i64 1)) a1 (.int .i64 1)) ⟨fun z=>@bndC
 prog 70 [a0,z] H17 ⟨fun A H30=>k A H30⟩⟩⟩ ⟨S70x0  k [a0,a1,undef,undef,(.int .i64 0),e,undef,a1,l,a0,a1,g,h,i,d,a,a,undef,undef,undef,c,c,
 o,b,b,p,q,r,s,t,f,f,u,v,w,x,undef,undef,undef,undef,undef,undef,undef,undef,undef,undef,undef,undef,undef,undef,undef,undef,
 undef,undef,undef,undef,undef,undef,undef,undef,undef,undef,undef,undef,undef,undef,undef,undef,undef,undef,undef] H17⟩⟩⟩⟩⟩⟩⟩⟩⟩⟩⟩⟩⟩⟩ ⟨@bnd (aBin2 prog H7 .eql 5 (.tmp 14) (.const (.int .u8 1)) d (.int
 .u8 1)) ⟨fun j=>@kifB j ⟨S70x1  k [a0,a1,undef,undef,(.int .i64 0),e,undef,a1,l,a0,a1,g,h,i,d,a,a,undef,undef,undef,c,c,undef,undef,undef,undef,
 undef,undef,undef,undef,undef,undef,undef,undef,undef,undef,undef,undef,undef,undef,j,j,undef,undef,undef,undef,undef,undef,undef,undef,undef,undef,undef,undef,undef,undef,undef,undef,
 undef,undef,undef,undef,undef,undef,undef,undef,undef,undef,undef,undef,undef] H7⟩ ⟨@bnd (aBin2 prog H7 .eql 5 (.tmp 14) (.const (.int .u8 2)) d (.int .u8 2)) ⟨fun y=>S70x1  k [a0,a1,undef,undef,
 (.int .i64 0),e,undef,a1,l,a0,a1,g,h,i,d,a,a,undef,undef,undef,c,c,undef,undef,undef,undef,undef,undef,undef,undef,undef,undef,undef,undef,undef,undef,
 undef,undef,undef,undef,y,j,y,undef,undef,undef,undef,undef,undef,undef,undef,undef,undef,undef,undef,undef,undef,undef,undef,undef,undef,undef,undef,undef,undef,undef,undef,undef,
 undef,undef,undef] H7⟩⟩⟩⟩⟩⟩⟩⟩⟩⟩⟩⟩⟩⟩⟩):=by kernel_rfl
theorem S70x0q (s0 s1 s2 s3 s4 s5 s6 s7 s8 s9 a b c d e f g h i j l m n o p q r s t u v w x y z A B C D E F G I J K L M N O P Q R S T U V
 W X Y Z aa ab ac ad ae af ag ah ai aj ak:Value) (H:AHeap) (k:Value→AHeap→Prop):S70x0 k [s0,s1,s2,s3,s4,s5,s6,s7,s8,s9,a,b,c,d,e,f,g,h,i,j,l,m,n,
 o,p,q,r,s,t,u,v,w,x,y,z,A,B,C,D,E,F,G,I,J,K,L,M,N,O,P,Q,R,S,T,U,V,W,X,Y,Z,aa,ab,ac,ad,ae,af,ag,ah,
 ai,aj,ak] H=(k (.int .i64 (-1)) H):=by kernel_rfl
theorem S70x1q (v w s2 s3 s4 x s6 s7 s8 s9 y z A B C D E F G I J K L M N O P Q R S T U V W X Y Z aa ab ac u ad ae al am an ao ap aq ar au av aw ax ay az
 aA aB aC aD aE aF aG aH aI aJ aK af ag ah ai:Value) (H:AHeap) (k:Value→AHeap→Prop):S70x1 k [v,w,s2,s3,s4,x,s6,s7,s8,s9,y,z,A,B,C,D,E,F,G,I,J,K,L,
 M,N,O,P,Q,R,S,T,U,V,W,X,Y,Z,aa,ab,ac,u,ad,ae,al,am,an,ao,ap,aq,ar,au,av,aw,ax,ay,az,aA,aB,aC,aD,aE,aF,aG,aH,aI,aJ,aK,af,
 ag,ah,ai] H=(@kifB u ⟨@bnd (aBin2 prog H .sub 3 (.tmp 44) (.const (.int .i64 1)) w (.int .i64 1)) ⟨fun e=>@bndC prog 70 [v,e] H ⟨fun c H35=>@bnd (aLoad prog H35 89 x) ⟨fun f
=>@bndC prog 103 [f] H35 ⟨fun a H38=>@bnd (gif a true (aFieldAddr prog H38 89 x 7) undef) ⟨fun g=>@bnd (gif a true (aLoad prog H38 3 g) undef) ⟨fun h=>@bnd (gif a
 true ((some w)) undef) ⟨fun i=>@bnd (gif a true (aBin2 prog H38 .sub 3 (.tmp 52) (.const (.int .i64 1)) i (.int .i64 1)) undef) ⟨fun j=>@bnd (gif a true (aBin2 prog H38 .eql 3 (.tmp 51)
 (.tmp 53) h j) undef) ⟨fun l=>@bnd (pickV a l (.bool false)) ⟨fun d=>@bnd (gif d true ((some c)) undef) ⟨fun m=>@bnd (gif d true (aBin2 prog H38 .gtr 3 (.tmp 57)
 (.const (.int .i64 0)) m (.int .i64 0)) undef) ⟨fun n=>@bnd (pickV d n (.bool false)) ⟨fun b=>@bnd (gif b true (aFieldAddr prog H38 89 x 6) undef) ⟨fun o=>@bnd (gif b true
 (aLoad prog H38 3 o) undef) ⟨fun p=>@bnd (gif b true ((some c)) undef) ⟨fun q=>@bnd (gif b true (aBin2 prog H38 .sub 3 (.tmp 63) (.const (.int .i64 1)) q (.int .i64 1)) undef)
 ⟨fun r=>@bnd (gif b true (aBin2 prog H38 .eql 3 (.tmp 62) (.tmp 64) p r) undef) ⟨fun s=>@bnd (pickV b s (.bool false)) ⟨fun t=>@kifB t ⟨@bnd (aBin2 prog H38 .sub 3
 (.tmp 68) (.const (.int .i64 1)) c (.int .i64 1)) ⟨fun aj=>@bndC prog 70 [v,aj] H38 ⟨fun ak H56=>k ak H56⟩⟩⟩ ⟨S70x0  k [v,w,s2,s3,s4,x,c,s7,s8,s9,y,z,A,B,C,D,
 E,F,G,I,J,K,L,M,N,O,P,Q,R,S,T,U,V,W,X,Y,Z,aa,ab,ac,u,ad,ae,v,w,e,c,f,a,a,g,h,i,j,l,
 d,d,m,n,b,b,o,p,q,r,s,t,af,ag,ah,ai] H38⟩⟩⟩⟩⟩⟩⟩⟩⟩⟩⟩⟩⟩⟩⟩⟩⟩⟩⟩⟩⟩ ⟨S70x0  k [v,w,s2,s3,s4,x,s6,s7,s8,s9,y,z,A,B,C,D,E,
 F,G,I,J,K,L,M,N,O,P,Q,R,S,T,U,V,W,X,Y,Z,aa,ab,ac,u,ad,ae,al,am,an,ao,ap,aq,ar,au,av,aw,ax,ay,az,aA,aB,aC,aD,aE,aF,
 aG,aH,aI,aJ,aK,af,ag,ah,ai] H⟩):=by kernel_rfl
-- tocsin/match.Print
def L71x0 (n:Nat) (k:Value→AHeap→Prop) (sl:List Value) (H:AHeap):Prop:=kit prog (cl (cl (cr (cl (cr (cr (cr (cb Tryz.f71)))))))) n (kblk 0 (kseq prog (cr (cr (cr (cr (cb Tryz.f71))))) (kfin prog
 Tryz.f71 k))) .normal sl H
def S71x0 (n0:Nat) (k:Value→AHeap→Prop) (sl:List Value) (H:AHeap):Prop:=kseq prog (cr (cr (cr (cl (cl (cr (cr (cl (cl (cr (cl (cr (cr (cr (cb Tryz.f71))))))))))))))) (kblk 1 (kseq prog (cr (cr (cr (cl
 (cl (cr (cl (cr (cr (cr (cb Tryz.f71))))))))))) (kit prog (cl (cl (cr (cl (cr (cr (cr (cb Tryz.f71)))))))) n0 (kblk 0 (kseq prog (cr (cr (cr (cr (cb Tryz.f71))))) (kfin prog Tryz.f71 k)))))) .normal sl H
theorem d71 (a0:Value) (H:AHeap) (k:Value→AHeap→Prop):kbody prog Tryz.f71 [a0] H k=(@bndC prog 104 [] H ⟨fun v9x1 H2=>@bnd (aLen prog H2 87 a0) ⟨fun v11x3=>∃ n,L71x0 n  k [a0,undef,(.string {
 data:=#[] }),v9x1,(.slice none 0 0),undef,undef,undef,undef,v9x1,a0,v11x3,(.int .i64 0),undef,undef,undef,undef,undef,undef,undef,undef,undef,undef,undef,undef,undef,undef,undef,undef,undef,undef,
 undef,undef,undef,undef,undef,undef,undef,undef,undef,undef,undef,undef,undef] H2⟩⟩):=by kernel_rfl
theorem L71x0q (n0:Nat) (P Q R m M S s6 s7 s8 T p q n U V W X Y Z aa ab ac ad ae af N O r s t u v w x y z A B C D E F G I:Value) (H:AHeap) (k:Value →
 AHeap→Prop):L71x0 (n0+1) k [P,Q,R,m,M,S,s6,s7,s8,T,p,q,n,U,V,W,X,Y,Z,aa,ab,ac,ad,ae,af,N,O,r,s,t,u,v,w,x,y,z,A,B,C,D,
 E,F,G,I] H=(@bnd (aBin2 prog H .lss 3 (.tmp 12) (.tmp 11) n q) ⟨fun h=>@kifB h ⟨@bnd (aIndexAddr prog H 87 p n) ⟨fun i=>@bnd (aLoad prog H 153 i) ⟨fun j=>@bndE
 (aAlloc prog H 153) ⟨fun l H8=>@bndS (aStore prog H8 153 l j) ⟨fun _ H10=>@bnd (aFieldAddr prog H10 153 l 1) ⟨fun d=>@bnd (aLoad prog H10 5 d) ⟨fun e=>@bnd (aLookup
 prog H10 165 m e true) ⟨fun b=>@bnd (tupV b 0) ⟨fun f=>@bnd (tupV b 1) ⟨fun a=>@bndE (aAlloc prog H10 169) ⟨fun c H17=>@bndS (aStore prog H17 169 c f) ⟨fun _
 H19=>@bnd (unV prog .not a) ⟨fun g=>@kifB g ⟨@bnd (aLookup prog H19 165 m (.int .u8 0) false) ⟨fun o=>@bndS (aStore prog H19 169 c o) ⟨fun _ H23=>S71x0 n0 k [P,Q,R,m,
 M,S,l,c,a,T,p,q,n,h,i,j,b,m,d,e,b,f,a,a,g,m,o,r,s,t,u,v,w,x,y,z,A,B,C,D,E,F,
 G,I] H23⟩⟩⟩ ⟨S71x0 n0 k [P,Q,R,m,M,S,l,c,a,T,p,q,n,h,i,j,b,m,d,e,b,f,a,a,g,N,O,r,s,t,u,v,w,x,
 y,z,A,B,C,D,E,F,G,I] H19⟩⟩⟩⟩⟩⟩⟩⟩⟩⟩⟩⟩⟩⟩ ⟨@bndC prog 22 [M,(.string { data:=#[44] })] H ⟨fun J H25=>@bndL prog H25 38 3 [(0,(.string { data:=#[123] })),(1,J),(2,
 (.string { data:=#[125] }))] ⟨fun K H27=>@bndC prog 105 [K] H27 ⟨fun L H29=>k L H29⟩⟩⟩⟩⟩):=by kernel_rfl
theorem S71x0q (n0:Nat) (M N O P K Q n L R S o p q r s t u v w x y z A B C D E T U V W X Y Z aa ab ac ad ae af F G I J:Value) (H:AHeap) (k:Value →
 AHeap→Prop):S71x0 n0 k [M,N,O,P,K,Q,n,L,R,S,o,p,q,r,s,t,u,v,w,x,y,z,A,B,C,D,E,T,U,V,W,X,Y,Z,aa,ab,ac,ad,ae,af,F,G,
 I,J] H=(@bnd (aFieldAddr prog H 153 n 0) ⟨fun f=>@bnd (aLoad prog H 9 f) ⟨fun g=>@bnd (aFieldAddr prog H 169 L 0) ⟨fun h=>@bnd (aLoad prog H 9 h) ⟨fun i=>@bnd
 (aFieldAddr prog H 153 n 2) ⟨fun j=>@bnd (aLoad prog H 9 j) ⟨fun l=>@bndD false H ⟨fun a H37=>ACalls prog 106 [l] H a H37⟩ ⟨fun a H37=>@bndD true H37 ⟨fun b H39 =>
 sliceLit prog H37 38 3 [(0,g),(1,i),(2,a)] b H39⟩ ⟨fun b H39=>@bndD true H39 ⟨fun c H41=>ACalls prog 105 [b] H39 c H41⟩ ⟨fun c H41=>@bndD true H41 ⟨fun d
 H43=>sliceLit prog H41 38 1 [(0,c)] d H43⟩ ⟨fun d H43=>@bndD true H43 ⟨fun e H45=>aBuiltin prog H43 Builtin.append #[38,38] [K,d]=some (e,H45)⟩ ⟨fun e H45=>@bnd (aBin2
 prog H45 .add 3 (.tmp 12) (.const (.int .i64 1)) q (.int .i64 1)) ⟨fun m=>L71x0 n0  k [M,N,O,P,e,Q,n,L,R,S,o,p,m,r,s,t,u,v,w,x,y,z,A,B,C,D,
 E,K,f,g,h,i,j,l,a,b,c,d,e,m,F,G,I,J] H45⟩⟩⟩⟩⟩⟩⟩⟩⟩⟩⟩⟩):=by kernel_rfl
end Go.Vi
