/- What code comes to, as a proposition: regions, drawn regions, code. Regions in which two new variables are laid in no order: both orders are told. What code comes to, as a proposition: code, functions, the printed form. The symbolic run's arithmetic: what each operation comes to on values of known shape. Functions that hold a range over a function, or regions in which two new variables are laid in no order; the rounds of a range over a function. From a proved run to a given statement: a law that reads its arguments and answers true. What a plain row asks of the program. Functions without a body: what the machine stands in for them. For the functions' contracts: calls, guards, texts as rows of bytes. Arguments: what is read of the world lies in the abstract memory, read-only. Facts of the types. Regions whose calls change what operations in no order with them do not look at. What the functions' bodies come to. -/
import Derived.Test.YtgekefehilgkeaaJCheckConfigs1
import Derived.Deep.LoopGhost
import Derived.Scope
import Derived.Laws.Strings
import Derived.RangeFuncLeaves
import Derived.Test.YtgekefehilgkeaaRows
import Derived.ProofKit
import Derived.LaidMore
import Derived.OpenShut
import Derived.Stop.Joined
import Derived.SizedLaws
import Derived.ChangeOld
import GoSem.Extern.Table
import Derived.Lib.Bytealg
import Derived.Lib.MakeNoZero
import Derived.Deep.Slices
import Derived.Test.YtgekefehilgkeaaChecked
namespace Go.Vi
open Go.RowKit
variable {P : Program}
theorem gstep_of_R {ops sl sl' H} {o : Oper} (h : ∀ t ∈ o.looksAt ops,sl[t]? = sl'[t]?) {v H'} : GStep P ops sl H o v H' ↔ GStep P ops sl' H o v H' := by
 have h1 : ∀ x ∈ o.op.operands,aev sl x = aev sl' x := fun x hx => aev_congr fun t ht => h t (by
  unfold Oper.looksAt
  refine List.mem_append_left _ (List.mem_filterMap.2 ⟨.tmp t,?_,rfl⟩)
  subst ht; simpa using hx)
 have h2 : awant ops sl o = awant ops sl' o := by
  unfold awant
  cases hg : o.guard with
  | none => rfl
  | some gw =>
    obtain ⟨g,want⟩ := gw
    simp only
    cases ht : (ops[g]?).bind (·.dst) with
    | none => rfl
    | some t => simp only; rw [h t (by simp [Oper.looksAt,hg,ht])]
 unfold GStep OpTo
 rw [h2,acallee_congr h1,aop_congr h1]
theorem gstepR_pure {ops sl H X v H'} {o : Oper} (hp : pureOp P o.op = true) (h : GStep P ops sl H o v H') : H' = H ∧ GStep P ops sl (H ++ X) o v (H ++ X) := by
 unfold GStep OpTo at *
 rw [pure_callee hp] at h ⊢
 split at h
 · exact aop_pure hp h
 · exact ⟨h.2,h.1,rfl⟩
 · cases h
theorem gstepR_free {ops sl H v H'} {o : Oper} (hp : freeOp o.op = true) (h : GStep P ops sl H o v H') (K : AHeap) : GStep P ops sl K o v K := by
 have hq : pureOp P o.op = true := by unfold freeOp at hp; split at hp <;> first | (rename_i e; rw [e]; rfl) | cases hp
 unfold GStep OpTo at *
 rw [pure_callee hq] at h ⊢
 split at h
 · exact aop_free hp h K
 · exact ⟨h.1,rfl⟩
 · cases h
theorem gstepR_wp [Ctx] {w0 s H w sl a v H' i K Q} {ops : Array Oper} {o : Oper} (ho : ops[i]? = some o) (h : WRel w0 s H w) (ha : ARel s H sl a) (hr : GStep P ops sl H o v H')
  (hn : ∀ s' a' w',WRel w0 s' H' w' → Ext s H s' H' → ARel s' H' (aput sl o.dst v) a' → K a' w') : wpOpIn FF 0 P ops Q i K a w := by
 unfold wpOpIn
 simp only [ho]
 unfold GStep at hr
 split at hr
 · rename_i hw
   rw [awant_sound ha hw]
   exact op_sound o h ha hr fun s' v' w' g1 g2 g3 => hn s' _ w' g1 g2 ((ha.mono g2).put o.dst g3)
 · rename_i hw
   obtain ⟨rfl,rfl⟩ := hr
   rw [awant_sound ha hw]
   simp only [Bool.false_eq_true,if_false]
   exact ⟨fun _ _ => trivial,hn s _ w h (Ext.refl _ _) (ha.put o.dst (undef_rel _ _))⟩
 · cases hr
def plainOp (o : Oper) : Bool := match o.guard,o.op with
 | none,.move _ | none,.assign _ | none,.makeFunc .. | none,.makeInterface .. => true
 | _,_ => false
theorem plain_pure {o : Oper} (h : plainOp o = true) : pureOp P o.op = true := by
 unfold plainOp at h
 split at h <;> first | (rename_i h1; rw [h1]; rfl) | (rename_i h1 h2; rw [h2]; rfl) | cases h
structure RStep (P : Program) (ops : Array Oper) (f : Nat → List Value) (g : Nat → Value) (G : Nat → AHeap) (c : Nat → Nat) (p : Nat) (o : Oper) (r : DRow) : Prop where
 put : f (p + 1) = aput (f p) o.dst (g p)
 eff : r.eff = true → c (p + 1) = c p + 1 ∧ GStep P ops (f p) (G (c p)) o (g p) (G (c p + 1)) ∧ (r.bar = true ∨ ∃ X,G (c p + 1) = G (c p) ++ X)
 pur : r.eff = false → c (p + 1) = c p ∧ r.back ≤ c p ∧ GStep P ops (f p) (G (c p - r.back)) o (g p) (G (c p - r.back))
structure RStepK (P : Program) (ops : Array Oper) (f : Nat → List Value) (g : Nat → Value) (G : Nat → AHeap) (c : Nat → Nat) (p : Nat) (o : Oper) (r : DRow) : Prop where
 put : f (p + 1) = aput (f p) o.dst (g p)
 eff : r.eff = true → c (p + 1) = c p + 1 ∧ GStep P ops (f p) (G (c p)) o (g p) (G (c p + 1)) ∧ (r.bar = true ∨ (∃ X,G (c p + 1) = G (c p) ++ X) ∨
  r.late = true ∧ ∀ (j : Nat) (o' : Oper),j < p → ops[j]? = some o' → ¬ deff P ops j = true → ¬ freeOp o'.op = true → r.mask.testBit j = false → GStep P ops (f j) (G (c p + 1)) o' (g j) (G (c p + 1)))
 pur : r.eff = false → c (p + 1) = c p ∧ r.back ≤ c p ∧ GStep P ops (f p) (G (c p - r.back)) o (g p) (G (c p - r.back))
theorem RStep.toK {ops f g G c p o r} (h : RStep P ops f g G c p o r) : RStepK P ops f g G c p o r := ⟨h.put,fun q => ⟨(h.eff q).1,(h.eff q).2.1,(h.eff q).2.2.imp id .inl⟩,h.pur⟩
def kdraw (P : Program) (ops : Array Oper) (k : List Value → AHeap → Prop) : List Oper → List DRow → List Value → AHeap → List AHeap → Prop
 | o :: os, r :: rs, sl, H, hs =>
   if r.eff = true then ∃ v H',geff P ops sl H o v H' ∧ (r.bar = true ∨ ∃ X,H' = H ++ X) ∧ kdraw P ops k os rs (aput sl o.dst v) H' (H :: hs)
   else match (H :: hs)[r.back]? with
    | some K => if plainOp o = true then match gval P ops sl K o with
      | some v => kdraw P ops k os rs (aput sl o.dst v) H hs
      | none => False
      else if pureOp P o.op = true then ∃ v,gval P ops sl K o = some v ∧ kdraw P ops k os rs (aput sl o.dst v) H hs
      else False
    | none => False
 | [],_,sl,H,_ => k sl H
 | _,[],_,_,_ => False
theorem kdraw_trace {ops} {k : List Value → AHeap → Prop} : ∀ (os : List Oper) (rs : List DRow) (sl : List Value) (H : AHeap) (hs : List AHeap),kdraw P ops k os rs sl H hs →
  ∃ (f : Nat → List Value) (g : Nat → Value) (G : Nat → AHeap) (c : Nat → Nat), f 0 = sl ∧ c 0 = hs.length ∧ (∀ i X, (H :: hs)[i]? = some X → G (hs.length - i) = X) ∧ k (f os.length) (G (c os.length)) ∧
    ∀ p o r,os[p]? = some o → rs[p]? = some r → RStep P ops f g G c p o r := by
 intro os
 induction os with
 | nil =>
   intro rs sl H hs h
   simp only [kdraw] at h
   have hk : ∀ i X,(H :: hs)[i]? = some X → (fun i => ((H :: hs)[hs.length - i]?).getD []) (hs.length - i) = X := by
    intro i X hX
    have := (List.getElem?_eq_some_iff.1 hX).1
    simp only [List.length_cons] at this
    have e : hs.length - (hs.length - i) = i := by omega
    show ((H :: hs)[hs.length - (hs.length - i)]?).getD [] = X
    rw [e,hX]; rfl
   exact ⟨fun _ => sl,fun _ => undef,fun i => ((H :: hs)[hs.length - i]?).getD [],fun _ => hs.length,rfl,rfl,hk,by simpa using h,by simp⟩
 | cons o os ih =>
   intro rs sl H hs h
   cases rs with
   | nil => simp [kdraw] at h
   | cons r rs =>
     simp only [kdraw] at h
     split at h
     · rename_i he
       obtain ⟨v,H2,hg,hb,h⟩ := h
       obtain ⟨f,g,G,c,f0,c0,hG,fe,st⟩ := ih _ _ _ _ h
       have hGH : G hs.length = H := by have := hG 1 H rfl; simpa using this
       have hGH2 : G (hs.length + 1) = H2 := by have := hG 0 H2 rfl; simpa using this
       refine ⟨fun p => if p = 0 then sl else f (p - 1),fun p => if p = 0 then v else g (p - 1),G,fun p => if p = 0 then hs.length else c (p - 1),rfl,rfl,fun i X hX => ?_,by simpa using fe,fun p o' r' ho hr => ?_⟩
       · have := hG (i + 1) X (by simpa using hX)
         simpa using this
       · cases p with
         | zero =>
           simp at ho hr; subst ho hr
           refine ⟨by simp [f0],fun _ => ⟨by simp [c0],?_,?_⟩,fun q => by rw [he] at q; cases q⟩
           · simp only [if_true]; rw [hGH,hGH2]; exact geff_step hg
           · simp only [if_true]; rw [hGH,hGH2]; exact hb
         | succ p =>
           have k := st p o' r' (by simpa using ho) (by simpa using hr)
           exact ⟨by simpa using k.put,fun q => by simpa using k.eff q,fun q => by simpa using k.pur q⟩
     · rename_i he
       obtain ⟨K,hk,hp,v,hg,h⟩ : ∃ K,(H :: hs)[r.back]? = some K ∧ pureOp P o.op = true ∧ ∃ v,gval P ops sl K o = some v ∧ kdraw P ops k os rs (aput sl o.dst v) H hs := by
        split at h
        · rename_i K hK
          split at h
          · rename_i hp
            split at h
            · rename_i v hv; exact ⟨K,hK,plain_pure hp,v,hv,h⟩
            · cases h
          · split at h
            · rename_i hp; obtain ⟨v,hv,h⟩ := h; exact ⟨K,hK,hp,v,hv,h⟩
            · cases h
        · cases h
       obtain ⟨f,g,G,c,f0,c0,hG,fe,st⟩ := ih _ _ _ _ h
       refine ⟨fun p => if p = 0 then sl else f (p - 1),fun p => if p = 0 then v else g (p - 1),G,fun p => if p = 0 then hs.length else c (p - 1),rfl,rfl,hG,by simpa using fe,fun p o' r' ho hr => ?_⟩
       cases p with
       | zero =>
         simp at ho hr; subst ho hr
         refine ⟨by simp [f0],fun q => absurd q he,fun _ => ⟨by simp [c0],?_,?_⟩⟩
         · have := (List.getElem?_eq_some_iff.1 hk).1
           simp only [List.length_cons] at this
           simp only [if_true]; omega
         · simp only [if_true]; rw [hG _ _ hk]; exact gval_step hp hg
       | succ p =>
         have k := st p o' r' (by simpa using ho) (by simpa using hr)
         exact ⟨by simpa using k.put,fun q => by simpa using k.eff q,fun q => by simpa using k.pur q⟩
structure RRun (P : Program) (ops : Array Oper) (T : DTab) (f : Nat → List Value) (g : Nat → Value) (G : Nat → AHeap) : Prop where
 snd : Sound P ops T
 step : ∀ p o,ops[p]? = some o → RStepK P ops f g G (fun p => T.idx.getD p 0) p o (T.row P ops p)
section
variable {ops : Array Oper} {T : DTab} {f : Nat → List Value} {g : Nat → Value} {G : Nat → AHeap}
theorem RRun.text (h : RRun P ops T f g G) : ∀ p,p ≤ ops.size → (f p).length = (f 0).length ∧
  (∀ t : Nat,(∀ (i : Nat) (o : Oper),i < p → ops[i]? = some o → o.dst ≠ some t) → (f p)[t]? = (f 0)[t]?) ∧
  (∀ (i : Nat) (o : Oper) (t : Nat),i < p → ops[i]? = some o → o.dst = some t → t < (f 0).length → (f p)[t]? = some (g i)) := by
 intro p
 induction p with
 | zero => intro _; exact ⟨rfl,fun t _ => rfl,fun i o t hi => absurd hi (by omega)⟩
 | succ p ih =>
   intro hp
   obtain ⟨h1,h2,h3⟩ := ih (by omega)
   have ho : ops[p]? = some ops[p] := Array.getElem?_eq_getElem (by omega)
   have hput := (h.step p _ ho).put
   refine ⟨by rw [hput,aput_len,h1],fun t ht => ?_,fun i o t hi hoi hd htl => ?_⟩
   · rw [hput,aput_get_ne (ht p _ (by omega) ho)]
     exact h2 t fun i o hi hoi => ht i o (by omega) hoi
   · by_cases hip : i = p
     · subst hip
       rw [ho] at hoi; cases hoi
       rw [hput,hd]
       exact aput_get_self rfl (by rw [h1]; exact htl)
     · rw [hput,aput_get_ne (fun e => h.snd.apart ho hoi hip e hd)]
       exact h3 i o t (by omega) hoi hd htl
theorem RRun.agree (h : RRun P ops T f g G) {l sl k} (hi : DInv ops T g (f 0) l sl k) {j : Nat} {o : Oper} (ho : ops[j]? = some o) (hnl : ¬ isListed l j) (hb : ∀ b ∈ obef o,isListed l b) :
  ∀ t ∈ o.looksAt ops,sl[t]? = (f j)[t]? := by
 intro t ht
 have hj : j ≤ ops.size := by have := (Array.getElem?_eq_some_iff.1 ho).1; omega
 obtain ⟨t1,t2,t3⟩ := h.text j hj
 by_cases hw : ∃ (i : Nat) (oi : Oper),ops[i]? = some oi ∧ oi.dst = some t
 · obtain ⟨i,oi,hoi,hd⟩ := hw
   rcases h.snd.look ho ht hoi hd with hm | hr
   case inr =>
    have hij := h.snd.lt hr
    have uniq : ∀ i' o',ops[i']? = some o' → o'.dst = some t → i' = i := fun i' o' ho' hd' => by
     by_cases e : i' = i
     · exact e
     · exact absurd hd' (h.snd.apart hoi ho' e hd)
    have q1 := hi.old t fun i' o' ho' hl' hd' => by have := uniq i' o' ho' hd'; subst this; exact hnl (hi.reach hr hl')
    have q2 := t2 t fun i' o' hlt ho' hd' => by have := uniq i' o' ho' hd'; omega
    rw [q1,q2]
   by_cases htl : t < (f 0).length
   · rw [hi.new i oi t hoi (hb i hm) hd htl,t3 i oi t (h.snd.before ho i hm) hoi hd htl]
   · have e1 : sl.length ≤ t := by rw [hi.len]; exact Nat.le_of_not_lt htl
     have e2 : (f j).length ≤ t := by rw [t1]; exact Nat.le_of_not_lt htl
     rw [List.getElem?_eq_none e1,List.getElem?_eq_none e2]
 · rw [hi.old t fun i oi hoi _ hd => hw ⟨i,oi,hoi,hd⟩,t2 t fun i oi _ hoi hd => hw ⟨i,oi,hoi,hd⟩]
theorem RRun.same (h : RRun P ops T f g G) {l sl k} (hi : DInv ops T g (f 0) l sl k) {j : Nat} {o : Oper} (ho : ops[j]? = some o) (he : ¬ deff P ops j = true) (hjs : j < ops.size) (hj : ¬ isListed l j) (hf : freeOp o.op = false) (hp : pureOp P o.op = true)
  (hg : GStep P ops (f j) (G (T.kmin.getD j 0)) o (g j) (G (T.kmin.getD j 0))) :
  ∀ m,T.kmin.getD j 0 ≤ m → m ≤ k → GStep P ops (f j) (G m) o (g j) (G m) := by
 intro m
 induction m with
 | zero => intro h1 _; have : T.kmin.getD j 0 = 0 := by omega
           rw [this] at hg; exact hg
 | succ m ih =>
   intro h1 h2
   by_cases hm : T.kmin.getD j 0 = m + 1
   · rw [hm] at hg; exact hg
   · have hgm := ih (by omega) (by omega)
     have hlt : m < T.effs.length := by have := hi.top; omega
     have hq : T.effs[m]? = some T.effs[m] := List.getElem?_eq_getElem hlt
     generalize T.effs[m] = q at hq
     obtain ⟨e1,e2⟩ := h.snd.ends.2.2 m q hq
     obtain ⟨oq,hoq⟩ := deff_lt e2
     have st := (h.step q oq hoq).eff (by simp [DTab.row,e2])
     simp only [e1] at st
     have hlq : isListed l q := (hi.num m q hq).2 (by omega)
     rcases st.2.2 with hbar | ⟨Y,hY⟩ | ⟨hlate,hst⟩
     · exfalso
       simp only [DTab.row,e2,if_true] at hbar
       unfold DTab.bar at hbar
       rw [List.all_eq_true] at hbar
       have := hbar j (List.mem_range.2 hjs)
       simp only [Bool.or_eq_true,decide_eq_true_eq] at this
       rcases this with ((q1 | q1) | q1) | q1
       · exact he q1
       · exact hj (hi.reach (h.snd.reach q hoq q1) hlq)
       · simp [ho,hf] at q1
       · omega
     · rw [hY]
       exact (gstepR_pure (X := Y) hp hgm).2
     · simp only [DTab.row,e2,if_true] at hlate hst
       have hjq : j ≠ q := fun e => he (e ▸ e2)
       by_cases hlt2 : j < q
       · refine hst j o hlt2 ho he (by simp [hf]) ?_
         cases hb : (T.ms.getD q 0).testBit j with
         | false => rfl
         | true => exact absurd (hi.reach (h.snd.reach q hoq hb) hlq) hj
       · exfalso
         unfold DTab.late at hlate
         rw [List.all_eq_true] at hlate
         have := hlate j (List.mem_range.2 hjs)
         simp only [Bool.or_eq_true,decide_eq_true_eq] at this
         rcases this with ((q1 | q1) | q1) | q1
         · omega
         · exact he q1
         · simp [ho,hf] at q1
         · omega
theorem RRun.next (h : RRun P ops T f g G) {l sl k} (hi : DInv ops T g (f 0) l sl k) {j : Nat} {o : Oper} (ho : ops[j]? = some o) (hj : ¬ isListed l j) (hb : ∀ b ∈ obef o,isListed l b) :
  ∃ k',GStep P ops sl (G k) o (g j) (G k') ∧ DInv ops T g (f 0) (l.setIfInBounds j true) (aput sl o.dst (g j)) k' := by
 have hjs : j < ops.size := (Array.getElem?_eq_some_iff.1 ho).1
 have ha := h.agree hi ho hj hb
 simp only [gstep_of_R ha]
 by_cases he : deff P ops j = true
 · have st := (h.step j o ho).eff (by simp [DTab.row,he])
   have e := h.snd.effAt ho he
   have hk : k = T.idx.getD j 0 := by
    have n1 : ¬ T.idx.getD j 0 < k := fun q => hj ((hi.num _ _ e.1).2 q)
    by_cases hlt : k < T.idx.getD j 0
    · exfalso
      have hkl : k < T.effs.length := by have := (List.getElem?_eq_some_iff.1 e.1).1; omega
      have hq : T.effs[k]? = some T.effs[k] := List.getElem?_eq_getElem hkl
      have r := effs_reach h.snd _ _ hlt hq e.1
      have := (hi.num _ _ hq).1 (r.run hi ho hb)
      omega
    · omega
   exact ⟨k + 1,by rw [hk]; exact st.2.1,hi.next h.snd ho hj hb (.inl ⟨he,hk,rfl⟩)⟩
 · have st := (h.step j o ho).pur (by simp [DTab.row,he])
   have e := h.snd.pureAt ho he
   obtain ⟨_,hle,hg⟩ := st
   simp only [DTab.row,he] at hg
   have hkk : T.idx.getD j 0 - (T.idx.getD j 0 - T.kmin.getD j 0) = T.kmin.getD j 0 := by have := e.2.1; omega
   simp only [Bool.false_eq_true,if_false,hkk] at hg
   have hmin : T.kmin.getD j 0 ≤ k := by
    rcases e.2.2 with c | ⟨q,hq,r⟩
    · omega
    · have := (hi.num _ _ hq).1 (r.run hi ho hb); omega
   by_cases hf : freeOp o.op = true
   · exact ⟨k,gstepR_free hf hg (G k),hi.next h.snd ho hj hb (.inr ⟨he,rfl⟩)⟩
   have hp : pureOp P o.op = true := by
    unfold deff at he
    simpa [ho] using he
   exact ⟨k,h.same hi ho he hjs hj (by simpa using hf) hp hg k hmin (Nat.le_refl _),hi.next h.snd ho hj hb (.inr ⟨he,rfl⟩)⟩
theorem RRun.done (h : RRun P ops T f g G) {l sl k} (hi : DInv ops T g (f 0) l sl k) (hall : ∀ j,j < ops.size → isListed l j) : sl = f ops.size ∧ k = T.effs.length := by
 obtain ⟨t1,t2,t3⟩ := h.text ops.size (Nat.le_refl _)
 constructor
 · apply List.ext_getElem?
   intro t
   by_cases hw : ∃ (i : Nat) (oi : Oper),ops[i]? = some oi ∧ oi.dst = some t
   · obtain ⟨i,oi,hoi,hd⟩ := hw
     have his := (Array.getElem?_eq_some_iff.1 hoi).1
     by_cases htl : t < (f 0).length
     · rw [hi.new i oi t hoi (hall i his) hd htl,t3 i oi t his hoi hd htl]
     · rw [List.getElem?_eq_none (by rw [hi.len]; omega),List.getElem?_eq_none (by rw [t1]; omega)]
   · rw [hi.old t fun i oi hoi _ hd => hw ⟨i,oi,hoi,hd⟩,t2 t fun i oi _ hoi hd => hw ⟨i,oi,hoi,hd⟩]
 · by_cases hk : k < T.effs.length
   · have hq : T.effs[k]? = some T.effs[k] := List.getElem?_eq_getElem hk
     obtain ⟨_,e2⟩ := h.snd.ends.2.2 _ _ hq
     obtain ⟨o,ho⟩ := deff_lt e2
     have := (hi.num _ _ hq).1 (hall _ (Array.getElem?_eq_some_iff.1 ho).1)
     omega
   · have := hi.top; omega
theorem RRun.wp [Ctx] (h : RRun P ops T f g G) {w0 s0 Q} {H0 : AHeap} : ∀ (fuel : Nat) {l sl k s w a},DInv ops T g (f 0) l sl k → l.toList.count false = fuel →
  WRel w0 s (G k) w → ARel s (G k) sl a → Ext s0 H0 s (G k) → (∀ s' a' w',WRel w0 s' (G T.effs.length) w' → Ext s0 H0 s' (G T.effs.length) → ARel s' (G T.effs.length) (f ops.size) a' → Q .normal a' w') →
  wpAnyIn FF 0 P .any ops Q fuel l a w := by
 intro fuel
 have fin : ∀ {l sl k s w a},DInv ops T g (f 0) l sl k → WRel w0 s (G k) w → ARel s (G k) sl a → Ext s0 H0 s (G k) →
   (∀ s' a' w',WRel w0 s' (G T.effs.length) w' → Ext s0 H0 s' (G T.effs.length) → ARel s' (G T.effs.length) (f ops.size) a' → Q .normal a' w') →
   Region.ready .any ops l = [] → Q .normal a w := by
  intro l sl k s w a hi hw ha he hq hr
  obtain ⟨rfl,rfl⟩ := h.done hi (all_done h.snd hi.size hr)
  exact hq s a w hw he ha
 induction fuel with
 | zero =>
   intro l sl k s w a hi hcnt hw ha he hq
   have hr : Region.ready .any ops l = [] := by
    cases hr : Region.ready .any ops l with
    | nil => rfl
    | cons j _ =>
      exfalso
      have hj : j ∈ Region.ready .any ops l := by rw [hr]; simp
      obtain ⟨h0,o,ho,_⟩ := mem_ready.1 hj
      have hjs : j < l.size := by rw [hi.size]; exact (Array.getElem?_eq_some_iff.1 ho).1
      have hlj : l[j] = false := by simpa [Array.getD,hjs] using h0
      have : false ∈ l.toList := by rw [← hlj]; simp
      exact absurd hcnt (Nat.ne_of_gt (List.count_pos_iff.2 this))
   exact ⟨hr,fin hi hw ha he hq hr⟩
 | succ fuel ih =>
   intro l sl k s w a hi hcnt hw ha he hq
   refine ⟨fin hi hw ha he hq,fun j hj => ?_⟩
   obtain ⟨h0,o,ho,hall⟩ := mem_ready.1 hj
   have hjs : j < l.size := by rw [hi.size]; exact (Array.getElem?_eq_some_iff.1 ho).1
   have hlj : l[j] = false := by simpa [Array.getD,hjs] using h0
   have hnl : ¬ isListed l j := by unfold isListed; rw [getD_size hjs false true,h0]; simp
   obtain ⟨k',hg,hi'⟩ := h.next hi ho hnl (obef_listed hall)
   have hcnt' : (l.setIfInBounds j true).toList.count false = fuel := by
    have hjl : j < l.toList.length := by simpa using hjs
    have e1 : l.toList[j] = false := by simpa using hlj
    have := List.count_set (a := true) (b := false) (l := l.toList) hjl
    rw [Array.toList_setIfInBounds,this,hcnt]
    simp [e1]
   exact gstepR_wp ho hw ha hg fun s' a' w' g1 g2 g3 => ih hi' hcnt' g1 g3 (he.trans g2) hq
end
theorem kdraw_any [Ctx] {w0 s H w sl a ops rs k Q} (hw : WRel w0 s H w) (ha : ARel s H sl a) (hr : drows P ops = some rs) (h : kdraw P ops k ops.toList rs sl H [])
  (hq : ∀ sl' H',k sl' H' → APost w0 s H Q .normal (sl',H')) : wpAnyIn FF 0 P .any ops Q ops.size (Array.replicate ops.size false) a { w with drawn := w.drawn + 1 } := by
 obtain ⟨T,hok,rfl⟩ := drows_inv hr
 · clear hr
   obtain ⟨f,g,G,c,f0,c0,hG,fe,st⟩ := kdraw_trace _ _ _ _ _ h
   have hs : Sound P ops T := ⟨hok⟩
   have row : ∀ p,p < ops.size → ((List.range ops.size).map (T.row P ops))[p]? = some (T.row P ops p) := by
    intro p hp; simp [hp]
   have hc : ∀ p,p ≤ ops.size → c p = T.idx.getD p 0 := by
    intro p
    induction p with
    | zero => intro _; rw [c0,hs.ends.1]; rfl
    | succ p ih =>
      intro hp
      have ho : ops[p]? = some ops[p] := Array.getElem?_eq_getElem (by omega)
      have k := st p ops[p] _ (by simp) (row p (by omega))
      by_cases he : deff P ops p = true
      · have := (k.eff (by simp [DTab.row,he])).1
        rw [this,ih (by omega),(hs.effAt ho he).2.1]
      · have := (k.pur (by simp [DTab.row,he])).1
        rw [this,ih (by omega),(hs.pureAt ho he).1]
   have hd : RRun P ops T f g G := by
    refine ⟨hs,fun p o ho => ?_⟩
    have hp := (Array.getElem?_eq_some_iff.1 ho).1
    have k := (st p o _ (by simpa using ho) (row p hp)).toK
    refine ⟨k.put,fun q => ?_,fun q => ?_⟩
    · have := k.eff q
      rw [hc p (by omega),hc (p + 1) (by omega)] at this
      exact this
    · have := k.pur q
      rw [hc p (by omega),hc (p + 1) (by omega)] at this
      exact this
   have g0 : G 0 = H := by simpa using hG 0 H rfl
   have he : c ops.toList.length = T.effs.length := by simp only [Array.length_toList]; rw [hc ops.size (Nat.le_refl _),hs.ends.2.1]
   rw [he] at fe
   simp only [Array.length_toList] at fe
   refine hd.wp (H0 := H) (s0 := s) ops.size (l := Array.replicate ops.size false) (sl := f 0) (k := 0) ?_ (by simp) (by rw [g0]; exact hw.drew) (by rw [g0,f0]; exact ha) (by rw [g0]; exact Ext.refl _ _) (fun s' a' w' g1 g2 g3 => hq _ _ fe s' a' w' g1 g2 g3)
   have nol : ∀ i,¬ isListed (Array.replicate ops.size false) i := by
    intro i
    unfold isListed
    simp [Array.getD]
   exact ⟨by simp,fun j o _ h => absurd h (nol j),rfl,fun t _ => rfl,fun i o t _ h => absurd h (nol i),fun i q _ => ⟨fun h => absurd h (nol q),fun h => by omega⟩,by omega⟩
theorem kdraw_sound [Ctx] (hm : P.follows .mixedOrders = true) {w0 s H w sl a id ops rs k Q} (hw : WRel w0 s H w) (ha : ARel s H sl a) (hr : drows P ops = some rs) (h : kdraw P ops k ops.toList rs sl H [])
  (hq : ∀ sl' H',k sl' H' → APost w0 s H Q .normal (sl',H')) : (Code.region id ops true).wpIn FF 0 P Q a w := wpIn_region_any hm (kdraw_any hw ha hr h hq)
end Go.Vi
namespace Go.Vi
open Go.RowKit
variable {P : Program}
abbrev DrawK := Array Oper → (List Value → AHeap → Prop) → List Value → AHeap → Prop
def SoundK [Ctx] (P : Program) (D : DrawK) : Prop := ∀ {w0 s H w sl a id ops k Q},WRel w0 s H w → ARel s H sl a → D ops k sl H → (∀ sl' H',k sl' H' → APost w0 s H Q .normal (sl',H')) → (Code.region id ops true).wpIn FF 0 P Q a w
inductive Valid (ops : Array Oper) : Array Bool → List Nat → Prop
 | nil {l} : Region.ready .any ops l = [] → Valid ops l []
 | cons {l i r} : i ∈ Region.ready .any ops l → Valid ops (l.setIfInBounds i true) r → Valid ops l (i :: r)
theorem count_set_false {l : Array Bool} {i : Nat} (hi : l.getD i true = false) : (l.setIfInBounds i true).toList.count false + 1 = l.toList.count false := by
 have hlt : i < l.size := by
  rcases Nat.lt_or_ge i l.size with h | h
  · exact h
  · simp [Array.getD,Nat.not_lt.2 h] at hi
 have e1 : l.toList[i]'(by simpa using hlt) = false := by simpa [Array.getD,hlt] using hi
 have hpos : 0 < l.toList.count false := List.count_pos_iff.2 (e1 ▸ List.getElem_mem _)
 have := List.count_set (a := true) (b := false) (l := l.toList) (i := i) (by simpa using hlt)
 have e2 : (l.toList[i]'(by simpa using hlt) == false) = true := by rw [e1]; rfl
 have e3 : ((true == false) = true) = False := by simp
 rw [Array.toList_setIfInBounds,this,if_pos e2]
 simp only [e3,if_false]
 omega
theorem lin_valid (ops : Array Oper) : ∀ (fuel t : Nat) (l : Array Bool),l.toList.count false ≤ fuel → Valid ops l (Region.linearise.go .any ops fuel t l []) := by
 intro fuel
 induction fuel with
 | zero =>
   intro t l hc
   simp only [Region.linearise.go,List.reverse_nil]
   refine .nil ?_
   cases hr : Region.ready .any ops l with
   | nil => rfl
   | cons j r =>
     exfalso
     have hj : j ∈ Region.ready .any ops l := by rw [hr]; simp
     have := count_set_false (mem_ready.1 hj).1
     omega
 | succ fuel ih =>
   intro t l hc
   simp only [Region.linearise.go]
   change Valid ops l (match (Region.ready .any ops l)[t % (Region.ready .any ops l).length]? with
    | some i => Region.linearise.go .any ops fuel (t / (Region.ready .any ops l).length) (l.setIfInBounds i true) [i]
    | none => [].reverse)
   cases hi : (Region.ready .any ops l)[t % (Region.ready .any ops l).length]? with
   | none =>
     simp only
     refine .nil ?_
     cases hr : Region.ready .any ops l with
     | nil => rfl
     | cons x xs =>
       rw [hr] at hi
       have hlt : t % (x :: xs).length < (x :: xs).length := Nat.mod_lt _ (by simp)
       simp at hi
       simp at hlt
       omega
   | some i =>
     simp only []
     rw [linearise_go_acc,List.reverse_singleton,List.singleton_append]
     have hm := List.mem_of_getElem? hi
     refine .cons hm (ih _ _ ?_)
     have := count_set_false (mem_ready.1 hm).1
     omega
theorem wpOps_of_any [Ctx] {ops Q} : ∀ (L : List Nat) {fuel l a w},Valid ops l L → wpAnyIn FF 0 P .any ops Q fuel l a w → wpOpsIn FF 0 P ops Q L a w := by
 intro L
 induction L with
 | nil =>
   intro fuel l a w hv h
   cases hv with
   | nil hr => cases fuel with
     | zero => exact h.2
     | succ n => exact h.1 hr
 | cons i r ih =>
   intro fuel l a w hv h
   cases hv with
   | cons hm hv => cases fuel with
     | zero => rw [h.1] at hm; cases hm
     | succ n =>
       rw [wpOpsIn_cons]
       exact wpOpIn_mono (fun a w => ih hv) (h.2 i hm)
theorem wp_region_valid [Ctx] {ops Q} {id : Nat} {a : Act} {w : World} (hm : P.follows .mixedOrders = true)
  (h : ∀ L,Valid ops (Array.replicate ops.size false) L → wpOpsIn FF 0 P ops Q L a { w with drawn := w.drawn + 1 }) : (Code.region id ops true).wpIn FF 0 P Q a w :=
 wpIn_region_draw fun t => by
  simp only [Region.schedule,hm,Bool.true_or,if_true]
  exact h _ (lin_valid ops ops.size t _ (by simp))
def addEdge (ops : Array Oper) (i j : Nat) : Array Oper := ops.modify j fun o => { o with after := o.after.push ⟨i,.data⟩ }
theorem addEdge_get {ops : Array Oper} {i j p : Nat} {o : Oper} (h : ops[p]? = some o) : (addEdge ops i j)[p]? = some (if p = j then { o with after := o.after.push ⟨i,.data⟩ } else o) := by
 unfold addEdge
 rw [Array.getElem?_modify]
 split <;> rename_i hp
 · subst hp; simp [h]
 · have : ¬ p = j := fun e => hp e.symm
   simp [h,this]
theorem addEdge_none {ops : Array Oper} {i j p : Nat} (h : ops[p]? = none) : (addEdge ops i j)[p]? = none := by
 unfold addEdge
 rw [Array.getElem?_modify]
 split <;> simp [h]
theorem addEdge_ready {ops : Array Oper} {i j x : Nat} {l : Array Bool} : x ∈ Region.ready .any (addEdge ops i j) l ↔ x ∈ Region.ready .any ops l ∧ (x = j → isListed l i) := by
 rw [mem_ready,mem_ready]
 constructor
 · rintro ⟨h0,o,ho,hall⟩
   cases hx : ops[x]? with
   | none => rw [addEdge_none hx] at ho; cases ho
   | some o' =>
     rw [addEdge_get hx] at ho
     cases ho
     refine ⟨⟨h0,o',rfl,fun e he hb => hall e ?_ hb⟩,fun hxj => ?_⟩
     · split
       · exact Array.mem_push_of_mem _ he
       · exact he
     · rw [if_pos hxj] at hall
       exact hall ⟨i,.data⟩ (by simp) rfl
 · rintro ⟨⟨h0,o,ho,hall⟩,hj⟩
   refine ⟨h0,_,addEdge_get ho,fun e he hb => ?_⟩
   split at he
   · rename_i hxj
     simp only [Array.mem_push] at he
     rcases he with he | rfl
     · exact hall e he hb
     · exact hj hxj
   · exact hall e he hb
theorem addEdge_valid {ops : Array Oper} {i j : Nat} (hij : i ≠ j) : ∀ (L : List Nat) {l : Array Bool},Valid ops l L → (j ∈ L → isListed l i ∨ ∃ r s,L = r ++ i :: s ∧ j ∉ r) → Valid (addEdge ops i j) l L := by
 intro L
 induction L with
 | nil =>
   intro l hv _
   cases hv with
   | nil h =>
     refine .nil ?_
     cases hr : Region.ready .any (addEdge ops i j) l with
     | nil => rfl
     | cons y _ =>
       have : y ∈ Region.ready .any (addEdge ops i j) l := by rw [hr]; simp
       rw [addEdge_ready,h] at this
       cases this.1
 | cons x r ih =>
   intro l hv hc
   cases hv with
   | cons hm hv =>
     have hx : x < l.size := by
      have := (mem_ready.1 hm).1
      rcases Nat.lt_or_ge x l.size with h | h
      · exact h
      · simp [Array.getD,Nat.not_lt.2 h] at this
     refine .cons (addEdge_ready.2 ⟨hm,fun hxj => ?_⟩) (ih hv fun hj => ?_)
     · rcases hc (by simp [hxj]) with h | ⟨r',s,he,hn⟩
       · exact h
       · exfalso
         cases r' with
         | nil => simp at he; exact hij (he.1.symm.trans hxj)
         | cons y r' => simp at he; rw [← he.1,hxj] at hn; simp at hn
     · rcases hc (by simp [hj]) with h | ⟨r',s,he,hn⟩
       · exact .inl ((isListed_set hx).2 (.inr h))
       · cases r' with
         | nil => simp at he; exact .inl ((isListed_set hx).2 (.inl he.1.symm))
         | cons y r' => simp at he; exact .inr ⟨r',s,he.2,fun q => hn (by simp [q])⟩
structure Alike (ops ops' : Array Oper) (τ : Nat → Nat) : Prop where
 none : ∀ x,ops[x]? = none → ops'[τ x]? = none
 some : ∀ x o,ops[x]? = some o → ∃ o',ops'[τ x]? = some o' ∧ o'.dst = o.dst ∧ o'.op = o.op ∧ o'.type = o.type ∧ o'.pos = o.pos ∧ o'.guard = o.guard.map fun g => (τ g.1,g.2)
theorem Alike.dst {ops ops' τ} (h : Alike ops ops' τ) (g : Nat) : (ops'[τ g]?).bind (·.dst) = (ops[g]?).bind (·.dst) := by
 cases hg : ops[g]? with
 | none => rw [h.none g hg]
 | some o => obtain ⟨o',h1,h2,_⟩ := h.some g o hg; rw [h1]; exact h2
theorem Alike.op [Ctx] {ops ops' τ} (h : Alike ops ops' τ) {Q} (x : Nat) {K : Act → World → Prop} {a w} : wpOpIn FF 0 P ops' Q (τ x) K a w ↔ wpOpIn FF 0 P ops Q x K a w := by
 unfold wpOpIn
 cases hx : ops[x]? with
 | none => rw [h.none x hx]
 | some o =>
   obtain ⟨o',h1,h2,h3,h4,h5,h6⟩ := h.some x o hx
   rw [h1]
   simp only
   have hw : Region.wanted o' (yielded ops' a.tmps) = Region.wanted o (yielded ops a.tmps) := by
    unfold Region.wanted
    rw [h6]
    cases hg : o.guard with
    | none => rfl
    | some g =>
      simp only [Option.map_some]
      unfold yielded
      rw [h.dst]
   rw [hw,h2]
   have hs : ∀ ρ,o'.semAt FF.round ρ = o.semAt FF.round ρ := by
    intro ρ
    obtain ⟨d,op,t,p,af,g⟩ := o
    obtain ⟨d',op',t',p',af',g'⟩ := o'
    simp only at h2 h3 h4 h5
    subst h2 h3 h4 h5
    rfl
   have hb : ∀ w ρ,o'.about P w ρ = o.about P w ρ := by
    intro w ρ
    obtain ⟨d,op,t,p,af,g⟩ := o
    obtain ⟨d',op',t',p',af',g'⟩ := o'
    simp only at h2 h3 h4 h5
    subst h2 h3 h4 h5
    rfl
   have hu : o'.uponIn FF 0 P a K Q = o.uponIn FF 0 P a K Q := by funext r; unfold Oper.uponIn; rw [h2]
   unfold Oper.wpIn
   rw [hs,hb,hu]
theorem Alike.ops [Ctx] {ops ops' τ} (h : Alike ops ops' τ) {Q} : ∀ (L : List Nat) {a w},wpOpsIn FF 0 P ops' Q (L.map τ) a w ↔ wpOpsIn FF 0 P ops Q L a w := by
 intro L
 induction L with
 | nil => intro a w; simp [wpOpsIn]
 | cons x r ih =>
   intro a w
   rw [List.map_cons,wpOpsIn_cons,wpOpsIn_cons,h.op]
   exact ⟨wpOpIn_mono fun a w => ih.1,wpOpIn_mono fun a w => ih.2⟩
theorem addEdge_alike (ops : Array Oper) (i j : Nat) : Alike ops (addEdge ops i j) id := by
 refine ⟨fun x h => addEdge_none h,fun x o h => ⟨_,addEdge_get h,?_⟩⟩
 split <;> simp
def swapAt (i j x : Nat) : Nat := if x = i then j else if x = j then i else x
theorem swapAt_swap {i j x : Nat} : swapAt i j (swapAt i j x) = x := by
 unfold swapAt
 repeat (split <;> try omega)
theorem swapAt_lt {i j x n : Nat} (hi : i < n) (hj : j < n) : swapAt i j x < n ↔ x < n := by
 unfold swapAt
 repeat (split <;> try omega)
theorem swapAt_inj {i j x y : Nat} (h : swapAt i j x = swapAt i j y) : x = y := by rw [← swapAt_swap (i := i) (j := j) (x := x),h,swapAt_swap]
def ren (i j : Nat) (o : Oper) : Oper := { o with after := o.after.map (fun e => { e with on := swapAt i j e.on }),guard := o.guard.map fun g => (swapAt i j g.1,g.2) }
def swapOps (ops : Array Oper) (i j : Nat) : Array Oper := ((List.range ops.size).map fun q => ren i j ((ops[swapAt i j q]?).getD default)).toArray
theorem swapOps_size {ops i j} : (swapOps ops i j).size = ops.size := by simp [swapOps]
theorem swapOps_get {ops : Array Oper} {i j : Nat} (hi : i < ops.size) (hj : j < ops.size) (x : Nat) : (swapOps ops i j)[swapAt i j x]? = (ops[x]?).map (ren i j) := by
 cases hx : ops[x]? with
 | none =>
   have hge : ops.size ≤ x := Array.getElem?_eq_none_iff.1 hx
   have : ¬ swapAt i j x < ops.size := by rw [swapAt_lt hi hj]; omega
   rw [Option.map_none]
   exact Array.getElem?_eq_none_iff.2 (by rw [swapOps_size]; omega)
 | some o =>
   have hlt := (swapAt_lt (x := x) hi hj).2 (Array.getElem?_eq_some_iff.1 hx).1
   unfold swapOps
   simp [hlt,swapAt_swap,hx]
theorem swapOps_alike {ops : Array Oper} {i j : Nat} (hi : i < ops.size) (hj : j < ops.size) : Alike ops (swapOps ops i j) (swapAt i j) :=
 ⟨fun x h => by rw [swapOps_get hi hj,h]; rfl,fun x o h => ⟨ren i j o,by rw [swapOps_get hi hj,h]; rfl,rfl,rfl,rfl,rfl,rfl⟩⟩
structure Shadow (n : Nat) (i j : Nat) (l l' : Array Bool) : Prop where
 s1 : l.size = n
 s2 : l'.size = n
 eqv : ∀ x,l'.getD (swapAt i j x) false = l.getD x false
theorem Shadow.tt {n i j l l'} (h : Shadow n i j l l') (hi : i < n) (hj : j < n) (x : Nat) : l'.getD (swapAt i j x) true = l.getD x true := by
 by_cases hx : x < n
 · rw [getD_size (by rw [h.s2]; exact (swapAt_lt hi hj).2 hx) true false,getD_size (by rw [h.s1]; exact hx) true false,h.eqv]
 · have h2 : ¬ swapAt i j x < n := by rw [swapAt_lt hi hj]; exact hx
   have a1 : ¬ x < l.size := by rw [h.s1]; exact hx
   have a2 : ¬ swapAt i j x < l'.size := by rw [h.s2]; exact h2
   simp [Array.getD,a1,a2]
theorem Shadow.set {n i j l l'} (h : Shadow n i j l l') (hi : i < n) (hj : j < n) (x : Nat) (hx : x < n) : Shadow n i j (l.setIfInBounds x true) (l'.setIfInBounds (swapAt i j x) true) := by
 refine ⟨by simp [h.s1],by simp [h.s2],fun y => ?_⟩
 by_cases hxy : x = y
 · subst hxy
   have a1 : x < l.size := by rw [h.s1]; exact hx
   have a2 : swapAt i j x < l'.size := by rw [h.s2]; exact (swapAt_lt hi hj).2 hx
   simp [a1,a2]
 · rw [getD_set_ne false hxy,getD_set_ne false fun e => hxy (swapAt_inj e),h.eqv]
theorem Shadow.ready {ops : Array Oper} {i j : Nat} {l l'} (h : Shadow ops.size i j l l') (hi : i < ops.size) (hj : j < ops.size) (x : Nat) : swapAt i j x ∈ Region.ready .any (swapOps ops i j) l' ↔ x ∈ Region.ready .any ops l := by
 rw [mem_ready,mem_ready,h.tt hi hj,swapOps_get hi hj]
 constructor
 · rintro ⟨h0,o',ho,hall⟩
   cases hx : ops[x]? with
   | none => rw [hx] at ho; cases ho
   | some o =>
     rw [hx] at ho
     cases ho
     refine ⟨h0,o,rfl,fun e he hb => ?_⟩
     have := hall { e with on := swapAt i j e.on } (by simp only [ren]; exact Array.mem_map.2 ⟨e,he,rfl⟩) (by simpa [Region.binds] using hb)
     rw [h.eqv] at this
     exact this
 · rintro ⟨h0,o,ho,hall⟩
   refine ⟨h0,ren i j o,by rw [ho]; rfl,fun e he hb => ?_⟩
   simp only [ren] at he
   obtain ⟨e',he',rfl⟩ := Array.mem_map.1 he
   simp only
   rw [h.eqv]
   exact hall e' he' (by simpa [Region.binds] using hb)
theorem Shadow.valid {ops : Array Oper} {i j : Nat} (hi : i < ops.size) (hj : j < ops.size) : ∀ (L : List Nat) {l l'},Shadow ops.size i j l l' → Valid ops l L → Valid (swapOps ops i j) l' (L.map (swapAt i j)) := by
 intro L
 induction L with
 | nil =>
   intro l l' h hv
   cases hv with
   | nil hr =>
     refine .nil ?_
     cases hr' : Region.ready .any (swapOps ops i j) l' with
     | nil => rfl
     | cons y _ =>
       have : y ∈ Region.ready .any (swapOps ops i j) l' := by rw [hr']; simp
       rw [← swapAt_swap (i := i) (j := j) (x := y),h.ready hi hj,hr] at this
       cases this
 | cons x r ih =>
   intro l l' h hv
   cases hv with
   | cons hm hv =>
     obtain ⟨_,o,ho,_⟩ := mem_ready.1 hm
     exact .cons ((h.ready hi hj x).2 hm) (ih (h.set hi hj x (Array.getElem?_eq_some_iff.1 ho).1) hv)
theorem first_of (i j : Nat) : ∀ L : List Nat,(j ∈ L → ∃ r s,L = r ++ i :: s ∧ j ∉ r) ∨ (i ∈ L → ∃ r s,L = r ++ j :: s ∧ i ∉ r) := by
 intro L
 induction L with
 | nil => exact .inl (by simp)
 | cons x r ih =>
   by_cases hi : x = i
   · exact .inl fun _ => ⟨[],r,by simp [hi],by simp⟩
   · by_cases hj : x = j
     · exact .inr fun _ => ⟨[],r,by simp [hj],by simp⟩
     · rcases ih with h | h
       · refine .inl fun hm => ?_
         obtain ⟨a,b,h1,h2⟩ := h (by simpa [Ne.symm hj,eq_comm,hj] using hm)
         exact ⟨x :: a,b,by simp [h1],by simp [h2]; exact fun e => hj e.symm⟩
       · refine .inr fun hm => ?_
         obtain ⟨a,b,h1,h2⟩ := h (by simpa [Ne.symm hi,eq_comm,hi] using hm)
         exact ⟨x :: a,b,by simp [h1],by simp [h2]; exact fun e => hi e.symm⟩
def isAlloc (o : Oper) : Bool := match o.op,o.guard with
 | .alloc _,none => true
 | _,_ => false
def pairOf (ops : Array Oper) : Option Nat :=
 (List.range ops.size).find? fun i => (ops[i]?).any isAlloc && (ops[i + 1]?).any fun o => isAlloc o && !(obef o).contains i
end Go.Vi
namespace Go.Vi
open Go.RowKit
variable {P : Program}
theorem stepR_scope {b : Frame} {a : Act} {k : List Item} {cs : List Frame} {w : World} {c : Code} : step P (lone (b.atR a (.code (.scope c) :: k)) cs w) = .next (lone (b.atR a (.code c :: .inScope c :: k)) cs w) :=
 step_lone_go (by simp [stepG,stepG.exec,Frame.atR])
theorem stepR_inScope {b : Frame} {a : Act} {k : List Item} {cs : List Frame} {w : World} {c : Code} : step P (lone (b.atR a (.inScope c :: k)) cs w) = .next (lone (b.atR a k) cs w) :=
 step_lone_go (by simp [stepG,stepG.exec,Frame.atR])
theorem wpIn_scope {F : Fence} {n : Nat} {Q : Exit → Act → World → Prop} {a : Act} {w : World} {c : Code} (h : c.wpIn F n P (Exit.noGoto Q) a w) : (Code.scope c).wpIn F n P Q a w := by
 intro b k cs hro hb hr
 have h0 : (lone (b.atR a (.code (.scope c) :: k)) cs w).fenced P F := fenced_calm hb hr rfl
 obtain ⟨e,a₁,w₁,hq,harr⟩ := h b (.inScope c :: k) cs hro hb hr
 cases e with
 | normal => exact ⟨.normal,a₁,w₁,hq,.head h0 stepR_scope (StepsIn.trans harr (.one (fenced_calm hb hr rfl) stepR_inScope))⟩
 | exit id =>
   have hx : exitTo id (.inScope c :: k) = exitTo id k := by simp [exitTo]
   exact ⟨.exit id,a₁,w₁,hq,fun k' hk => .head h0 stepR_scope (harr.1 k' (by rw [hx]; exact hk)),
    fun hr' hk => let ⟨k₁,h1,h2⟩ := harr.2 hr' (by rw [hx]; exact hk); ⟨k₁,h1,.head h0 stepR_scope h2⟩⟩
 | goto l => exact hq.elim
 | ret => exact ⟨_,a₁,w₁,hq,.of_steps (.one h0 stepR_scope) harr⟩
 | panic ch => exact ⟨_,a₁,w₁,hq,.of_steps (.one h0 stepR_scope) harr⟩
 | outgrown => exact ⟨_,a₁,w₁,hq,.of_steps (.one h0 stepR_scope) harr⟩
theorem wpIn_loop_ghost {F : Fence} {n : Nat} {Q : Exit → Act → World → Prop} {a : Act} {w : World} {c : Code} (I : Nat → Act → World → Prop) (n₀ : Nat) (h₀ : I n₀ a w)
  (round : ∀ m a w,I m a w → c.wpIn F n P (Exit.then (fun a' w' => ∃ m',m' < m ∧ I m' a' w') Q) a w) : (Code.loop c).wpIn F n P Q a w := by
 refine wpIn_loop (fun a w => ∃ m,I m a w) (fun a w => leastOf (fun m => I m a w)) ⟨n₀,h₀⟩ ?_
 intro a w hI
 refine wpIn_mono (round _ a w (leastOf_spec hI).1) ?_
 intro e a' w' hq
 cases e with
 | normal =>
   obtain ⟨m',hlt,hI'⟩ := hq
   exact show (∃ m,I m a' w') ∧ leastOf (fun m => I m a' w') < leastOf (fun m => I m a w) from ⟨⟨m',hI'⟩,Nat.lt_of_le_of_lt ((leastOf_spec ⟨m',hI'⟩).2 m' hI') hlt⟩
 | exit id => exact hq
 | goto l => exact hq
 | ret => exact hq
 | panic ch => exact hq
 | outgrown => exact hq
def kops (P : Program) (ops : Array Oper) : List Oper → List Value → AHeap → (List Value → AHeap → Prop) → Prop
 | [],sl,H,k => k sl H
 | o :: r, sl, H, k =>
   if plainOp o = true then match gval P ops sl H o with
    | some v => kops P ops r (aput sl o.dst v) H k
    | none => False
   else if pureOp P o.op = true then ∃ v,gval P ops sl H o = some v ∧ kops P ops r (aput sl o.dst v) H k
   else ∃ v H',geff P ops sl H o v H' ∧ kops P ops r (aput sl o.dst v) H' k
theorem kops_sound [Ctx] {w0 ops Q} {k : List Value → AHeap → Prop} : ∀ (os : List Oper) (n : Nat) {s H w sl a},(∀ (i : Nat) o,os[i]? = some o → ops[n + i]? = some o) → WRel w0 s H w → ARel s H sl a → kops P ops os sl H k →
  (∀ sl' H',k sl' H' → APost w0 s H Q .normal (sl',H')) → wpOpsIn FF 0 P ops Q ((List.range' n os.length)) a w := by
 intro os
 induction os with
 | nil =>
   intro n s H w sl a ho h ha hr hq
   exact hq _ _ hr s a w h (Ext.refl _ _) ha
 | cons o r ih =>
   intro n s H w sl a ho h ha hr hq
   have ho0 : ops[n]? = some o := by simpa using ho 0 o rfl
   have hor : ∀ (i : Nat) o,r[i]? = some o → ops[n + 1 + i]? = some o := fun i o hi => by
    have := ho (i + 1) o (by simpa using hi)
    rw [show n + 1 + i = n + (i + 1) by omega]; exact this
   rw [List.length_cons,List.range'_succ,wpOpsIn_cons]
   have key : ∀ v H',GStep P ops sl H o v H' → kops P ops r (aput sl o.dst v) H' k → wpOpIn FF 0 P ops Q n (wpOpsIn FF 0 P ops Q (List.range' (n + 1) r.length)) a w := by
    intro v H' hg hk
    refine gstepR_wp ho0 h ha hg fun s' a' w' g1 g2 g3 => ih (n + 1) hor g1 g3 hk ?_
    intro sl2 H2 h2 s2 a2 w2 k1 k2 k3
    exact hq sl2 H2 h2 s2 a2 w2 k1 (g2.trans k2) k3
   simp only [kops] at hr
   split at hr
   · rename_i hp
     split at hr
     · rename_i v hv; exact key v H (gval_step (plain_pure hp) hv) hr
     · cases hr
   · split at hr
     · rename_i hp
       obtain ⟨v,hv,hr⟩ := hr
       exact key v H (gval_step hp hv) hr
     · obtain ⟨v,H',hv,hr⟩ := hr
       exact key v H' (geff_step hv) hr
def kif (c : Value) (a b : Prop) : Prop := match c with
 | .bool t => if t = true then a else b
 | _ => False
abbrev Kont := AExit → List Value → AHeap → Prop
def kthen (f : List Value → AHeap → Prop) (k : Kont) : Kont
 | .normal,sl,H => f sl H
 | .exit i,sl,H => k (.exit i) sl H
 | .ret,sl,H => k .ret sl H
def kloop (f : List Value → AHeap → (AExit → List Value → AHeap → Prop) → Prop) : Nat → List Value → AHeap → (AExit → List Value → AHeap → Prop) → Prop
 | 0,_,_,_ => False
 | n + 1,sl,H,k => f sl H (kthen (fun sl H => kloop f n sl H k) k)
def kblk (id : Nat) (k : AExit → List Value → AHeap → Prop) : AExit → List Value → AHeap → Prop
 | .exit i,sl,H => if i = id then k .normal sl H else k (.exit i) sl H
 | .normal,sl,H => k .normal sl H
 | .ret,sl,H => k .ret sl H
def kx (P : Program) : Code → List Value → AHeap → (AExit → List Value → AHeap → Prop) → Prop
 | .skip,sl,H,k | .label _,sl,H,k => k .normal sl H
 | .region _ ops false,sl,H,k => kops P ops ops.toList sl H (k .normal)
 | .region _ ops true, sl, H, k => match drows P ops with
   | some rs => kdraw P ops (k .normal) ops.toList rs sl H []
   | none => False
 | .seq x y,sl,H,k => kx P x sl H (kthen (fun sl H => kx P y sl H k) k)
 | .cond c x y, sl, H, k => match aev sl c with
   | some v => kif v (kx P x sl H k) (kx P y sl H k)
   | none => False
 | .block id c,sl,H,k => kx P c sl H (kblk id k)
 | .scope c,sl,H,k => kx P c sl H k
 | .exit id,sl,H,k => k (.exit id) sl H
 | .ret,sl,H,k => k .ret sl H
 | .loop c,sl,H,k => ∃ n,kthen (fun sl H => kloop (kx P c) n sl H k) k .normal sl H
 | _,_,_,_ => False
theorem APost.later [Ctx] {w0 s H Q e st' s' H'} (h : APost w0 s H Q e st') (he : Ext s H s' H') : APost w0 s' H' Q e st' := fun s2 a2 w2 k1 k2 k3 => h s2 a2 w2 k1 (he.trans k2) k3
theorem kloop_sound [Ctx] {w0} {c : Code} {f : List Value → AHeap → (AExit → List Value → AHeap → Prop) → Prop}
  (hf : ∀ {s H w sl a Q} {k : AExit → List Value → AHeap → Prop},WRel w0 s H w → ARel s H sl a → f sl H k → (∀ e sl' H',k e sl' H' → APost w0 s H Q e (sl',H')) → c.wpIn FF 0 P Q a w) (n : Nat)
  {s H w sl a Q} {k : AExit → List Value → AHeap → Prop} (h : WRel w0 s H w) (ha : ARel s H sl a) (hr : kloop f n sl H k) (hq : ∀ e sl' H',k e sl' H' → APost w0 s H Q e (sl',H')) : (Code.loop c).wpIn FF 0 P Q a w := by
 refine wpIn_loop_ghost (fun n a w => ∃ s1 H1 sl1,WRel w0 s1 H1 w ∧ ARel s1 H1 sl1 a ∧ kloop f n sl1 H1 k ∧ Ext s H s1 H1) n ⟨s,H,sl,h,ha,hr,Ext.refl _ _⟩ ?_
 rintro n a w ⟨s1,H1,sl1,h1,ha1,hr1,he⟩
 cases n with
 | zero => cases hr1
 | succ n =>
   simp only [kloop] at hr1
   refine hf h1 ha1 hr1 ?_
   intro e sl' H' hk s' a' w' g1 g2 g3
   cases e with
   | normal => exact ⟨n,by omega,s',H',sl',g1,g3,hk,he.trans g2⟩
   | exit id => exact hq _ _ _ hk s' a' w' g1 (he.trans g2) g3
   | ret => exact hq _ _ _ hk s' a' w' g1 (he.trans g2) g3
theorem kx_sound [Ctx] (hm : P.follows .mixedOrders = true) {w0} : ∀ (c : Code) {s H w sl a Q} {k : AExit → List Value → AHeap → Prop},WRel w0 s H w → ARel s H sl a → kx P c sl H k →
  (∀ e sl' H',k e sl' H' → APost w0 s H Q e (sl',H')) → c.wpIn FF 0 P Q a w := by
 intro c
 induction c with
 | skip => intro s H w sl a Q k h ha hr hq; exact wpIn_skip (hq _ _ _ hr s a w h (Ext.refl _ _) ha)
 | label l => intro s H w sl a Q k h ha hr hq; exact wpIn_label (hq _ _ _ hr s a w h (Ext.refl _ _) ha)
 | region id ops draw =>
   intro s H w sl a Q k h ha hr hq
   cases draw with
   | false =>
     refine wpIn_region ?_
     have := kops_sound (Q := Q) ops.toList 0 (ops := ops) (fun i o hi => by simpa using hi) h ha hr (fun sl' H' hk => hq .normal sl' H' hk)
     rw [List.range_eq_range']
     simpa using this
   | true =>
     simp only [kx] at hr
     split at hr
     · rename_i rs hrs; exact kdraw_sound hm h ha hrs hr (fun sl' H' hk => hq .normal sl' H' hk)
     · cases hr
 | seq x y ihx ihy =>
   intro s H w sl a Q k h ha hr hq
   refine wpIn_seq (ihx h ha hr ?_)
   intro e sl' H' hk s' a' w' g1 g2 g3
   cases e with
   | normal => exact ihy g1 g3 hk fun e2 sl2 H2 k2 => (hq e2 sl2 H2 k2).later g2
   | exit id => exact hq _ _ _ hk s' a' w' g1 g2 g3
   | ret => exact hq _ _ _ hk s' a' w' g1 g2 g3
 | cond c x y ihx ihy =>
   intro s H w sl a Q k h ha hr hq
   simp only [kx] at hr
   split at hr
   · rename_i v hv
     unfold kif at hr
     split at hr
     · rename_i t
       have hb' := (aev_rel ha hv).lit_inv rfl
       cases t with
       | true => exact wpIn_cond_true hb' (ihx h ha (by simpa using hr) hq)
       | false => exact wpIn_cond_false hb' (ihy h ha (by simpa using hr) hq)
     · cases hr
   · cases hr
 | block id c ih =>
   intro s H w sl a Q k h ha hr hq
   refine wpIn_block (ih h ha hr ?_)
   intro e sl' H' hk s' a' w' g1 g2 g3
   cases e with
   | normal => exact hq _ _ _ hk s' a' w' g1 g2 g3
   | exit i =>
     simp only [kblk] at hk
     show Exit.inBlock id Q (.exit i) a' w'
     simp only [Exit.inBlock]
     split at hk
     · rename_i hid; rw [if_pos hid]; exact hq _ _ _ hk s' a' w' g1 g2 g3
     · rename_i hid; rw [if_neg hid]; exact hq _ _ _ hk s' a' w' g1 g2 g3
   | ret => exact hq _ _ _ hk s' a' w' g1 g2 g3
 | scope c ih =>
   intro s H w sl a Q k h ha hr hq
   refine wpIn_scope (ih h ha hr ?_)
   intro e sl' H' hk s' a' w' g1 g2 g3
   have := hq _ _ _ hk s' a' w' g1 g2 g3
   cases e with
   | normal => exact this
   | exit id => exact this
   | ret => exact this
 | exit id => intro s H w sl a Q k h ha hr hq; exact wpIn_exit (hq _ _ _ hr s a w h (Ext.refl _ _) ha)
 | ret => intro s H w sl a Q k h ha hr hq; exact wpIn_ret (hq _ _ _ hr s a w h (Ext.refl _ _) ha)
 | loop c ih =>
   intro s H w sl a Q k h ha hr hq
   obtain ⟨n,hr⟩ := hr
   exact kloop_sound (f := kx P c) (fun h ha hr hq => ih h ha hr hq) n h ha hr hq
 | _ => intro s H w sl a Q k h ha hr hq; cases hr
def kres (P : Program) (sl : List Value) (H : AHeap) : List ResultVar → (List Value → Prop) → Prop
 | [],k => k []
 | .tmp t :: r, k => match sl[t]? with
   | some v => kres P sl H r fun l => k (v :: l)
   | none => False
 | .cell a t :: r, k => match sl[a]? with
   | some p => ∃ v,aLoad P H t p = some v ∧ kres P sl H r fun l => k (v :: l)
   | none => False
def retV : List Value → Value
 | [v] => v
 | l => .tuple l.toArray
def kfin (P : Program) (fn : Func) (k : Value → AHeap → Prop) : AExit → List Value → AHeap → Prop
 | .exit _,_,_ => False
 | .normal,sl,H => kres P sl H fn.results.toList fun l => k (retV l) H
 | .ret,sl,H => kres P sl H fn.results.toList fun l => k (retV l) H
def kbody (P : Program) (fn : Func) (args : List Value) (H : AHeap) (k : Value → AHeap → Prop) : Prop := match fn.body with
 | some c => kx P c (args ++ List.replicate (fn.ntmps - args.length) undef) H (kfin P fn k)
 | none => False
def kseq (P : Program) (y : Code) (k : Kont) : Kont := kthen (fun sl H => kx P y sl H k) k
def kit (P : Program) (c : Code) (n : Nat) (k : Kont) : Kont := kthen (fun sl H => kloop (kx P c) n sl H k) k
theorem kops_one {ops} {k : List Value → AHeap → Prop} : ∀ (os : List Oper) {sl H},kops P ops os sl H k → ∃ sl' H',k sl' H' ∧ kops P ops os sl H fun s2 h2 => s2 = sl' ∧ h2 = H' := by
 intro os
 induction os with
 | nil => intro sl H h; exact ⟨sl,H,h,rfl,rfl⟩
 | cons o r ih =>
   intro sl H h
   simp only [kops] at h
   split at h
   · rename_i hp
     split at h
     · rename_i v hv
       obtain ⟨a,b,h1,h2⟩ := ih h
       refine ⟨a,b,h1,?_⟩
       simp only [kops,if_pos hp,hv]; exact h2
     · cases h
   · rename_i hp
     split at h
     · rename_i hq
       obtain ⟨v,hv,h⟩ := h
       obtain ⟨a,b,h1,h2⟩ := ih h
       refine ⟨a,b,h1,?_⟩
       simp only [kops,if_neg hp,if_pos hq]; exact ⟨v,hv,h2⟩
     · rename_i hq
       obtain ⟨v,H',hv,h⟩ := h
       obtain ⟨a,b,h1,h2⟩ := ih h
       refine ⟨a,b,h1,?_⟩
       simp only [kops,if_neg hp,if_neg hq]; exact ⟨v,H',hv,h2⟩
theorem kdraw_one {ops} {k : List Value → AHeap → Prop} : ∀ (os : List Oper) (rs : List DRow) {sl H hs},kdraw P ops k os rs sl H hs → ∃ sl' H',k sl' H' ∧ kdraw P ops (fun s2 h2 => s2 = sl' ∧ h2 = H') os rs sl H hs := by
 intro os
 induction os with
 | nil => intro rs sl H hs h; simp only [kdraw] at h; exact ⟨sl,H,h,by simp only [kdraw]; trivial⟩
 | cons o os ih =>
   intro rs sl H hs h
   cases rs with
   | nil => simp [kdraw] at h
   | cons r rs =>
     simp only [kdraw] at h
     split at h
     · rename_i he
       obtain ⟨v,H2,hg,hb,h⟩ := h
       obtain ⟨a,b,h1,h2⟩ := ih rs h
       refine ⟨a,b,h1,?_⟩
       simp only [kdraw,if_pos he]; exact ⟨v,H2,hg,hb,h2⟩
     · rename_i he
       split at h
       · rename_i K hK
         split at h
         · rename_i hp
           split at h
           · rename_i v hv
             obtain ⟨a,b,h1,h2⟩ := ih rs h
             refine ⟨a,b,h1,?_⟩
             simp only [kdraw,if_neg he,hK,if_pos hp,hv]; exact h2
           · cases h
         · rename_i hp
           split at h
           · rename_i hq
             obtain ⟨v,hv,h⟩ := h
             obtain ⟨a,b,h1,h2⟩ := ih rs h
             refine ⟨a,b,h1,?_⟩
             simp only [kdraw,if_neg he,hK,if_neg hp,if_pos hq]; exact ⟨v,hv,h2⟩
           · cases h
       · cases h
def kis (e : AExit) (sl : List Value) (H : AHeap) : Kont := fun e2 s2 h2 => e2 = e ∧ s2 = sl ∧ h2 = H
theorem kloop_one {f : List Value → AHeap → Kont → Prop} (hf : ∀ {sl H} {k : Kont},f sl H k → ∃ e sl' H',k e sl' H' ∧ f sl H (kis e sl' H')) (hm : ∀ {sl H} {k k' : Kont},(∀ e sl H,k e sl H → k' e sl H) → f sl H k → f sl H k') :
  ∀ (n : Nat) {sl H} {k : Kont},kloop f n sl H k → ∃ e sl' H',k e sl' H' ∧ kloop f n sl H (kis e sl' H') := by
 intro n
 induction n with
 | zero => intro sl H k h; cases h
 | succ n ih =>
   intro sl H k h
   simp only [kloop] at h
   obtain ⟨e,s1,h1,hk,hf1⟩ := hf h
   cases e with
   | normal =>
     obtain ⟨e2,s2,h2,hk2,hf2⟩ := ih hk
     refine ⟨e2,s2,h2,hk2,?_⟩
     simp only [kloop]
     refine hm ?_ hf1
     rintro e sl H ⟨rfl,rfl,rfl⟩
     exact hf2
   | exit i =>
     refine ⟨.exit i,s1,h1,hk,?_⟩
     simp only [kloop]
     refine hm ?_ hf1
     rintro e sl H ⟨rfl,rfl,rfl⟩
     exact ⟨rfl,rfl,rfl⟩
   | ret =>
     refine ⟨.ret,s1,h1,hk,?_⟩
     simp only [kloop]
     refine hm ?_ hf1
     rintro e sl H ⟨rfl,rfl,rfl⟩
     exact ⟨rfl,rfl,rfl⟩
theorem kops_mono {ops} {k k' : List Value → AHeap → Prop} (hk : ∀ sl H,k sl H → k' sl H) : ∀ (os : List Oper) {sl H},kops P ops os sl H k → kops P ops os sl H k' := by
 intro os
 induction os with
 | nil => intro sl H h; exact hk _ _ h
 | cons o r ih =>
   intro sl H h
   simp only [kops] at h ⊢
   split at h
   · rename_i hp
     rw [if_pos hp]
     split at h
     · exact ih h
     · cases h
   · rename_i hp
     rw [if_neg hp]
     split at h
     · rename_i hq
       rw [if_pos hq]
       obtain ⟨v,hv,h⟩ := h
       exact ⟨v,hv,ih h⟩
     · rename_i hq
       rw [if_neg hq]
       obtain ⟨v,H',hv,h⟩ := h
       exact ⟨v,H',hv,ih h⟩
theorem kdraw_mono {ops} {k k' : List Value → AHeap → Prop} (hk : ∀ sl H,k sl H → k' sl H) : ∀ (os : List Oper) (rs : List DRow) {sl H hs},kdraw P ops k os rs sl H hs → kdraw P ops k' os rs sl H hs := by
 intro os
 induction os with
 | nil => intro rs sl H hs h; simp only [kdraw] at h ⊢; exact hk _ _ h
 | cons o os ih =>
   intro rs sl H hs h
   cases rs with
   | nil => simp [kdraw] at h
   | cons r rs =>
     simp only [kdraw] at h ⊢
     split at h
     · rename_i he
       obtain ⟨v,H2,hg,hb,h⟩ := h
       rw [if_pos he]; exact ⟨v,H2,hg,hb,ih rs h⟩
     · rename_i he
       rw [if_neg he]
       split at h
       · rename_i K hK
         split at h
         · rename_i hp
           simp only [if_pos hp]
           split at h
           · exact ih rs h
           · cases h
         · rename_i hp
           simp only [if_neg hp]
           split at h
           · rename_i hq
             obtain ⟨v,hv,h⟩ := h
             rw [if_pos hq]; exact ⟨v,hv,ih rs h⟩
           · cases h
       · cases h
theorem kloop_mono {f : List Value → AHeap → Kont → Prop} (hm : ∀ {sl H} {k k' : Kont},(∀ e sl H,k e sl H → k' e sl H) → f sl H k → f sl H k') : ∀ (n : Nat) {sl H} {k k' : Kont},(∀ e sl H,k e sl H → k' e sl H) → kloop f n sl H k → kloop f n sl H k' := by
 intro n
 induction n with
 | zero => intro sl H k k' _ h; cases h
 | succ n ih =>
   intro sl H k k' hk h
   simp only [kloop] at h ⊢
   refine hm ?_ h
   intro e sl H h
   cases e with
   | normal => exact ih hk h
   | exit i => exact hk _ _ _ h
   | ret => exact hk _ _ _ h
theorem kx_mono : ∀ (c : Code) {sl H} {k k' : Kont},(∀ e sl H,k e sl H → k' e sl H) → kx P c sl H k → kx P c sl H k' := by
 intro c
 induction c with
 | skip => intro sl H k k' hk h; exact hk _ _ _ h
 | label l => intro sl H k k' hk h; exact hk _ _ _ h
 | region id ops draw =>
   intro sl H k k' hk h
   cases draw with
   | false => exact kops_mono (hk .normal) _ h
   | true =>
     simp only [kx] at h ⊢
     split at h
     · exact kdraw_mono (hk .normal) _ _ h
     · cases h
 | seq x y ihx ihy =>
   intro sl H k k' hk h
   refine ihx ?_ h
   intro e sl H h
   cases e with
   | normal => exact ihy hk h
   | exit i => exact hk _ _ _ h
   | ret => exact hk _ _ _ h
 | cond c x y ihx ihy =>
   intro sl H k k' hk h
   simp only [kx] at h ⊢
   split at h
   · unfold kif at h ⊢
     split at h
     · split at h
       · rename_i q; simp only [if_pos q]; exact ihx hk h
       · rename_i q; simp only [if_neg q]; exact ihy hk h
     · cases h
   · cases h
 | block id c ih =>
   intro sl H k k' hk h
   refine ih ?_ h
   intro e sl H h
   cases e with
   | normal => exact hk _ _ _ h
   | exit i =>
     simp only [kblk] at h ⊢
     split at h
     · rename_i q; rw [if_pos q]; exact hk _ _ _ h
     · rename_i q; rw [if_neg q]; exact hk _ _ _ h
   | ret => exact hk _ _ _ h
 | scope c ih => intro sl H k k' hk h; exact ih hk h
 | exit id => intro sl H k k' hk h; exact hk _ _ _ h
 | ret => intro sl H k k' hk h; exact hk _ _ _ h
 | loop c ih =>
   intro sl H k k' hk h
   obtain ⟨n,h⟩ := h
   exact ⟨n,kloop_mono (f := kx P c) (fun hk h => ih hk h) n hk h⟩
 | _ => intro sl H k k' hk h; cases h
theorem kx_one : ∀ (c : Code) {sl H} {k : Kont},kx P c sl H k → ∃ e sl' H',k e sl' H' ∧ kx P c sl H (kis e sl' H') := by
 intro c
 induction c with
 | skip => intro sl H k h; exact ⟨_,_,_,h,rfl,rfl,rfl⟩
 | label l => intro sl H k h; exact ⟨_,_,_,h,rfl,rfl,rfl⟩
 | region id ops draw =>
   intro sl H k h
   cases draw with
   | false =>
     obtain ⟨a,b,h1,h2⟩ := kops_one (k := k .normal) _ h
     exact ⟨.normal,a,b,h1,kops_mono (fun _ _ q => ⟨rfl,q⟩) _ h2⟩
   | true =>
     simp only [kx] at h
     split at h
     · rename_i rs hr
       obtain ⟨a,b,h1,h2⟩ := kdraw_one _ _ h
       refine ⟨.normal,a,b,h1,?_⟩
       simp only [kx,hr]
       exact kdraw_mono (fun _ _ q => ⟨rfl,q⟩) _ _ h2
     · cases h
 | seq x y ihx ihy =>
   intro sl H k h
   obtain ⟨e,s1,h1,hk,hx⟩ := ihx h
   cases e with
   | normal =>
     obtain ⟨e2,s2,h2,hk2,hy⟩ := ihy hk
     refine ⟨e2,s2,h2,hk2,kx_mono x ?_ hx⟩
     rintro e sl H ⟨rfl,rfl,rfl⟩
     exact hy
   | exit i =>
     refine ⟨.exit i,s1,h1,hk,kx_mono x ?_ hx⟩
     rintro e sl H ⟨rfl,rfl,rfl⟩
     exact ⟨rfl,rfl,rfl⟩
   | ret =>
     refine ⟨.ret,s1,h1,hk,kx_mono x ?_ hx⟩
     rintro e sl H ⟨rfl,rfl,rfl⟩
     exact ⟨rfl,rfl,rfl⟩
 | cond c x y ihx ihy =>
   intro sl H k h
   simp only [kx] at h
   split at h
   · rename_i v hv
     unfold kif at h
     split at h
     · split at h
       · rename_i q
         obtain ⟨e,s1,h1,hk,hx⟩ := ihx h
         refine ⟨e,s1,h1,hk,?_⟩
         simp only [kx,hv,kif,if_pos q]; exact hx
       · rename_i q
         obtain ⟨e,s1,h1,hk,hx⟩ := ihy h
         refine ⟨e,s1,h1,hk,?_⟩
         simp only [kx,hv,kif,if_neg q]; exact hx
     · cases h
   · cases h
 | block id c ih =>
   intro sl H k h
   obtain ⟨e,s1,h1,hk,hx⟩ := ih h
   cases e with
   | normal =>
     refine ⟨.normal,s1,h1,hk,kx_mono c ?_ hx⟩
     rintro e sl H ⟨rfl,rfl,rfl⟩
     exact ⟨rfl,rfl,rfl⟩
   | exit i =>
     simp only [kblk] at hk
     split at hk
     · rename_i q
       refine ⟨.normal,s1,h1,hk,kx_mono c ?_ hx⟩
       rintro e sl H ⟨rfl,rfl,rfl⟩
       simp only [kblk,if_pos q]
       exact ⟨rfl,rfl,rfl⟩
     · rename_i q
       refine ⟨.exit i,s1,h1,hk,kx_mono c ?_ hx⟩
       rintro e sl H ⟨rfl,rfl,rfl⟩
       simp only [kblk,if_neg q]
       exact ⟨rfl,rfl,rfl⟩
   | ret =>
     refine ⟨.ret,s1,h1,hk,kx_mono c ?_ hx⟩
     rintro e sl H ⟨rfl,rfl,rfl⟩
     exact ⟨rfl,rfl,rfl⟩
 | scope c ih => intro sl H k h; exact ih h
 | exit id => intro sl H k h; exact ⟨_,_,_,h,rfl,rfl,rfl⟩
 | ret => intro sl H k h; exact ⟨_,_,_,h,rfl,rfl,rfl⟩
 | loop c ih =>
   intro sl H k h
   obtain ⟨n,h⟩ := h
   obtain ⟨e,s1,h1,hk,hx⟩ := kloop_one (f := kx P c) (fun h => ih h) (fun hk h => kx_mono c hk h) n h
   exact ⟨e,s1,h1,hk,n,hx⟩
 | _ => intro sl H k h; cases h
theorem kres_one {sl H} : ∀ (rs : List ResultVar) {k : List Value → Prop},kres P sl H rs k → ∃ l,k l ∧ kres P sl H rs fun l' => l' = l := by
 intro rs
 induction rs with
 | nil => intro k h; exact ⟨[],h,rfl⟩
 | cons r rs ih =>
   intro k h
   cases r with
   | tmp t =>
     simp only [kres] at h
     split at h
     · rename_i v hv
       obtain ⟨l,h1,h2⟩ := ih h
       refine ⟨v :: l,h1,?_⟩
       simp only [kres,hv]
       obtain ⟨l2,h3,h4⟩ := ih h2
       subst h3
       simpa using h2
     · cases h
   | cell a t =>
     simp only [kres] at h
     split at h
     · rename_i p hp
       obtain ⟨v,hv,h⟩ := h
       obtain ⟨l,h1,h2⟩ := ih h
       refine ⟨v :: l,h1,?_⟩
       simp only [kres,hp]
       exact ⟨v,hv,by simpa using h2⟩
     · cases h
theorem kres_weak {sl H} : ∀ (rs : List ResultVar) {k k' : List Value → Prop},(∀ l,k l → k' l) → kres P sl H rs k → kres P sl H rs k' := by
 intro rs
 induction rs with
 | nil => intro k k' hk h; exact hk _ h
 | cons r rs ih =>
   intro k k' hk h
   cases r with
   | tmp t =>
     simp only [kres] at h ⊢
     split at h
     · exact ih (fun l => hk _) h
     · cases h
   | cell a t =>
     simp only [kres] at h ⊢
     split at h
     · obtain ⟨v,hv,h⟩ := h; exact ⟨v,hv,ih (fun l => hk _) h⟩
     · cases h
theorem kbody_one {fn args H} {k : Value → AHeap → Prop} (h : kbody P fn args H k) : ∃ v H',k v H' ∧ kbody P fn args H fun u H2 => u = v ∧ H2 = H' := by
 unfold kbody at h
 split at h
 · rename_i c hb
   obtain ⟨e,s1,h1,hk,hx⟩ := kx_one c h
   have fin : ∀ {e},kx P c (args ++ List.replicate (fn.ntmps - args.length) undef) H (kis e s1 h1) → (e = .normal ∨ e = .ret) → kres P s1 h1 fn.results.toList (fun l => k (retV l) h1) →
     ∃ v H',k v H' ∧ kbody P fn args H fun u H2 => u = v ∧ H2 = H' := by
    intro e hx he hk
    obtain ⟨l,q1,q2⟩ := kres_one _ hk
    refine ⟨retV l,h1,q1,?_⟩
    unfold kbody
    rw [hb]
    refine kx_mono c ?_ hx
    rintro e2 sl H2 ⟨rfl,rfl,rfl⟩
    rcases he with rfl | rfl <;> exact kres_weak _ (fun l' h => ⟨by rw [h],rfl⟩) q2
   cases e with
   | normal => exact fin hx (.inl rfl) hk
   | ret => exact fin hx (.inr rfl) hk
   | exit i => cases hk
 · cases h
theorem kres_sound {sl H} : ∀ (rs : List ResultVar) {k : List Value → Prop},kres P sl H rs k → ∃ l,aResults P sl H rs = some l ∧ k l := by
 intro rs
 induction rs with
 | nil => intro k h; exact ⟨[],rfl,h⟩
 | cons r rs ih =>
   intro k h
   cases r with
   | tmp t =>
     simp only [kres] at h
     split at h
     · rename_i v hv
       obtain ⟨l,h1,h2⟩ := ih h
       exact ⟨v :: l,by simp [aResults,aResult,hv,h1],h2⟩
     · cases h
   | cell a t =>
     simp only [kres] at h
     split at h
     · rename_i p hp
       obtain ⟨v,hv,h⟩ := h
       obtain ⟨l,h1,h2⟩ := ih h
       exact ⟨v :: l,by simp [aResults,aResult,hp,hv,h1],h2⟩
     · cases h
theorem aRet_of {fn : Func} {sl H l} (h : aResults P sl H fn.results.toList = some l) : aRet P fn sl H = some (retV l) := by
 unfold aRet
 rw [h]
 match l with
 | [] => rfl
 | [v] => rfl
 | _ :: _ :: _ => rfl
theorem acalls_of (hm : P.follows .mixedOrders = true) {f fn args H v H'} (hf : P.funcs[f]? = some fn) (hn : notNG fn = true) (hr : kbody P fn args H fun u H2 => u = v ∧ H2 = H') : ACalls P f args H v H' := by
 intro w0 s w args' h hargs
 left
 unfold kbody at hr
 split at hr
 · rename_i c hb
   constructor
   · have hq : ¬ fn.name = "runtime.NumGoroutine" := by intro q; simp [notNG, q] at hn
     have hbn : ¬ fn.body = none := by rw [hb]; simp
     simp [callFunc,hf,hq,hbn]
   · letI : Ctx := ⟨[],none⟩
     refine callsIn_wide.1 (callsIn_of_wp (F := Fence.wide) (n := 0) hf hb trivial ?_ rfl)
     have hal : args.length = args'.size := by have := hargs.1; simpa using this
     have ha : ARel s H (args ++ List.replicate (fn.ntmps - args.length) undef) { tmps := args' ++ Array.replicate (fn.ntmps - args'.size) undef,defers := [] } := by
      refine ⟨?_,rfl⟩
      simp only [Array.toList_append,Array.toList_replicate,hal]
      refine hargs.append ⟨by simp,fun i x y hx hy => ?_⟩
      rw [List.getElem?_replicate] at hx hy
      split at hx
      · rename_i hi
        rw [if_pos hi] at hy
        cases hx; cases hy
        exact undef_rel _ _
      · cases hx
     refine kx_sound hm c h ha hr ?_
     intro e sl' H2 hk s' a' w' g1 g2 g3
     cases e with
     | exit i => cases hk
     | normal =>
       obtain ⟨l,h1,rfl,rfl⟩ := kres_sound _ hk
       obtain ⟨v',k1,k2⟩ := run_ret (P := P) fn g1.h g3 (aRet_of h1)
       exact ⟨g3.d,v',k1,s',v',rfl,g1,g2,k2⟩
     | ret =>
       obtain ⟨l,h1,rfl,rfl⟩ := kres_sound _ hk
       obtain ⟨v',k1,k2⟩ := run_ret (P := P) fn g1.h g3 (aRet_of h1)
       exact ⟨g3.d,v',k1,s',v',rfl,g1,g2,k2⟩
 · cases hr
theorem acalls_ex (hm : P.follows .mixedOrders = true) {f fn args H} {k : Value → AHeap → Prop} (hf : P.funcs[f]? = some fn) (hn : notNG fn = true) (hr : kbody P fn args H k) : ∃ v H',k v H' ∧ ACalls P f args H v H' := by
 obtain ⟨v,H',h1,h2⟩ := kbody_one hr
 exact ⟨v,H',h1,acalls_of hm hf hn h2⟩
theorem ACalls.trim {f args H v X} (h : ACalls P f args H v (H ++ X)) (hc : clos v = true) : ACalls P f args H v H := by
 intro w0 s w args' hw ha
 have key : ∀ e w',AEnd w0 s H v (H ++ X) e w' → AEnd w0 s H v H e w' := by
  rintro e w' ⟨s',v',rfl,g1,g2,g3⟩
  exact ⟨s,v',rfl,hw.forget g1 g2,Ext.refl _ _,by rw [g3.clos_eq hc]; exact clos_rel hc s H⟩
 rcases h w0 s w args' hw ha with ⟨h1,h2⟩ | ⟨v',w',h1,h2⟩
 · exact .inl ⟨h1,h2.mono key⟩
 · exact .inr ⟨v',w',h1,key _ _ h2⟩
theorem acalls_pure (hm : P.follows .mixedOrders = true) {f fn args H v} (hf : P.funcs[f]? = some fn) (hn : notNG fn = true) (hc : clos v = true) (hr : kbody P fn args H fun u H2 => u = v ∧ ∃ X,H2 = H ++ X) : ACalls P f args H v H := by
 obtain ⟨v',H',⟨rfl,X,rfl⟩,h⟩ := acalls_ex hm hf hn hr
 exact h.trim hc
def cl : Code → Code
 | .seq x _ | .cond _ x _ | .block _ x | .loop x | .scope x | .rangeFunc _ _ x _ => x
 | c => c
def cr : Code → Code
 | .seq _ y | .cond _ _ y | .rangeFunc _ _ _ y => y
 | c => c
def cb (fn : Func) : Code := fn.body.getD .skip
def aAlloc (P : Program) (H : AHeap) (T : TypeId) : Option (Value × AHeap) := match tzero P T with
 | some z => if cok z = true then aNew H T z else none
 | none => none
def sliceLit (P : Program) (H : AHeap) (T : TypeId) (n : Nat) (l : List (Nat × Value)) (v : Value) (H' : AHeap) : Prop := allStor l = true ∧ aBuildSlice P H T n l = some (v,H')
class QV where
 f : Value → Prop
class QH where
 f : Value → AHeap → Prop
class QP where
 p : Prop
def bnd (E : Option Value) [q : QV] : Prop := ∃ v,E = some v ∧ q.f v
def bndE (E : Option (Value × AHeap)) [q : QH] : Prop := ∃ v H',E = some (v,H') ∧ q.f v H'
def bndS (E : Option AHeap) [q : QH] : Prop := ∃ v H',(v = undef ∧ E = some H') ∧ q.f v H'
def bndC (P : Program) (f : FuncId) (args : List Value) (H : AHeap) [q : QH] : Prop := ∃ v H',ACalls P f args H v H' ∧ q.f v H'
def bndV (P : Program) (f : Value) (args : List Value) (H : AHeap) [q : QH] : Prop := ∃ v H',callV P f args H v H' ∧ q.f v H'
def bndL (P : Program) (H : AHeap) (T : TypeId) (n : Nat) (ps : List (Nat × Value)) [q : QH] : Prop := ∃ v H',sliceLit P H T n ps v H' ∧ q.f v H'
def bndG (x : Value) (want : Bool) (H : AHeap) [e : QH] [q : QH] : Prop := ∃ v H',gifp x want (e.f v H') (v = undef ∧ H' = H) ∧ q.f v H'
def bndD (b : Bool) (H : AHeap) [e : QH] [q : QH] : Prop := ∃ v H',e.f v H' ∧ (b = true ∨ ∃ X,H' = H ++ X) ∧ q.f v H'
def kifB (x : Value) [a : QP] [b : QP] : Prop := kif x a.p b.p
@[simp] theorem bnd_some {a : Value} (q : QV) : @bnd (some a) q = q.f a := by simp [bnd]
@[simp] theorem bndE_some {a : Value} {H : AHeap} (q : QH) : @bndE (some (a,H)) q = q.f a H := by
 apply propext
 constructor
 · rintro ⟨v,H',h,q⟩; cases h; exact q
 · intro q; exact ⟨a,H,rfl,q⟩
@[simp] theorem bndS_some {H : AHeap} (q : QH) : @bndS (some H) q = q.f undef H := by
 apply propext
 constructor
 · rintro ⟨v,H',⟨rfl,h⟩,q⟩; cases h; exact q
 · intro q; exact ⟨undef,H,⟨rfl,rfl⟩,q⟩
theorem bndC_of {P f args H v H'} {q : QH} (h : ACalls P f args H v H') (k : q.f v H') : @bndC P f args H q := ⟨v,H',h,k⟩
theorem kifB_bool {t : Bool} {a b : QP} (h1 : t = true → a.p) (h2 : t = false → b.p) : @kifB (.bool t) a b := by
 cases t
 · exact h2 rfl
 · exact h1 rfl
@[simp] theorem kifB_true (a b : QP) : @kifB (.bool true) a b = a.p := by simp [kifB,kif]
@[simp] theorem kifB_false (a b : QP) : @kifB (.bool false) a b = b.p := by simp [kifB,kif]
def gsel (b want : Bool) (e d : Value) : Value := if b = want then e else d
@[simp] theorem gsel_tt {e d} : gsel true true e d = e := Eq.trans rfl rfl
@[simp] theorem gsel_ff {e d} : gsel false false e d = e := Eq.trans rfl rfl
@[simp] theorem gsel_tf {e d} : gsel true false e d = d := Eq.trans rfl rfl
@[simp] theorem gsel_ft {e d} : gsel false true e d = d := Eq.trans rfl rfl
@[congr] theorem gif_congr {b b' want : Bool} {E E' : Option Value} {d : Value} (hb : b = b') (h : b' = want → E = E') : gif (.bool b) want E d = gif (.bool b') want E' d := by
 subst hb
 unfold gif
 simp only
 split
 · rename_i hb; exact h (eq_of_beq hb)
 · rfl
@[simp] theorem gif_some {b want : Bool} {e d : Value} : gif (.bool b) want (some e) d = some (gsel b want e d) := by
 cases b <;> cases want <;> rfl
@[simp] theorem gif_tt {E : Option Value} {d : Value} : gif (.bool true) true E d = E := Eq.trans rfl rfl
@[simp] theorem gif_ft {E : Option Value} {d : Value} : gif (.bool false) true E d = some d := Eq.trans rfl rfl
@[simp] theorem gif_tf {E : Option Value} {d : Value} : gif (.bool true) false E d = some d := Eq.trans rfl rfl
@[simp] theorem gif_ff {E : Option Value} {d : Value} : gif (.bool false) false E d = E := Eq.trans rfl rfl
@[simp] theorem gif_undef {want : Bool} {E : Option Value} {d : Value} : gif undef want E d = some d := Eq.trans rfl rfl
@[simp] theorem gifp_undef {want : Bool} {E d : Prop} : gifp undef want E d = d := by simp [gifp,undef]
@[simp] theorem gif_gsel {b w c want : Bool} {E : Option Value} {d : Value} : gif (gsel b w (.bool c) undef) want E d = gif (.bool (b == w && c == want)) true E d := by
 unfold gsel
 by_cases h : b = w <;> simp [h,gif,undef]
@[simp] theorem gifp_gsel {b w c want : Bool} {E d : Prop} : gifp (gsel b w (.bool c) undef) want E d = gifp (.bool (b == w && c == want)) true E d := by
 unfold gsel
 by_cases h : b = w <;> simp [h,gifp,undef]
@[simp] theorem bndG_gsel {b w c want : Bool} {H : AHeap} {e q : QH} : @bndG (gsel b w (.bool c) undef) want H e q = @bndG (.bool (b == w && c == want)) true H e q := by
 unfold bndG
 simp only [gifp_gsel]
@[simp] theorem pick_and {b c : Bool} {d : Value} : pickV (.bool b) (gsel b true (.bool c) d) (.bool false) = some (.bool (b && c)) := by cases b <;> rfl
@[simp] theorem pick_or {b c : Bool} {d : Value} : pickV (.bool b) (.bool true) (gsel b false (.bool c) d) = some (.bool (b || c)) := by cases b <;> rfl
end Go.Vi
namespace Go.Vi
open Go.RowKit
variable {P : Program}
theorem pv_pure {α : Type} (a : α) : pv P (pure a) = some a := rfl
theorem pv_bind {α β : Type} (s : Sem α) (f : α → Sem β) : pv P (s >>= f) = (pv P s).bind fun a => pv P (f a) := by
 induction s with
 | pure a => rfl
 | program k ih => exact ih P
 | _ => rfl
theorem pv_und {t d} (h : P.underlying t = some d) : pv P (underlying t) = some d := by
 unfold underlying
 rw [pv_bind]
 simp [program,pv,h,pv_pure]
theorem pv_equal {T a b} (h : P.underlying T = some TypeDesc.bool) : pv P (Op.equal T (.bool a) (.bool b)) = some (a == b) := by
 show pv P (Op.equalIn (9999 + 1) T (.bool a) (.bool b)) = _
 unfold Op.equalIn
 rw [pv_bind,pv_und h]
 rfl
section
variable (H : AHeap) (T : TypeId) (x y : Operand) (k : IntKind) (a b : Int)
@[simp] theorem aBin_add : aBin2 P H .add T x y (.int k a) (.int k b) = some (.int k (k.wrap (a + b))) := by
 apply aBin2_of
 simp [aBin,clos,isLit,eqGuard,binOp,Op.intArith,pv_pure]
@[simp] theorem aBin_sub : aBin2 P H .sub T x y (.int k a) (.int k b) = some (.int k (k.wrap (a - b))) := by
 apply aBin2_of
 simp [aBin,clos,isLit,eqGuard,binOp,Op.intArith,pv_pure]
@[simp] theorem aBin_mul : aBin2 P H .mul T x y (.int k a) (.int k b) = some (.int k (k.wrap (a * b))) := by
 apply aBin2_of
 simp [aBin,clos,isLit,eqGuard,binOp,Op.intArith,pv_pure]
@[simp] theorem aBin_eql : aBin2 P H .eql T x y (.int k a) (.int k b) = some (.bool (a == b)) := by
 apply aBin2_of
 simp [aBin,clos,isLit,eqGuard,binOp,Op.intCmp,pv_pure]
@[simp] theorem aBin_neq : aBin2 P H .neq T x y (.int k a) (.int k b) = some (.bool (a != b)) := by
 apply aBin2_of
 simp [aBin,clos,isLit,eqGuard,binOp,Op.intCmp,pv_pure]
@[simp] theorem aBin_lss : aBin2 P H .lss T x y (.int k a) (.int k b) = some (.bool (decide (a < b))) := by
 apply aBin2_of
 simp [aBin,clos,isLit,eqGuard,binOp,Op.intCmp,pv_pure]
@[simp] theorem aBin_leq : aBin2 P H .leq T x y (.int k a) (.int k b) = some (.bool (decide (a ≤ b))) := by
 apply aBin2_of
 simp [aBin,clos,isLit,eqGuard,binOp,Op.intCmp,pv_pure]
@[simp] theorem aBin_gtr : aBin2 P H .gtr T x y (.int k a) (.int k b) = some (.bool (decide (a > b))) := by
 apply aBin2_of
 simp [aBin,clos,isLit,eqGuard,binOp,Op.intCmp,pv_pure]
@[simp] theorem aBin_geq : aBin2 P H .geq T x y (.int k a) (.int k b) = some (.bool (decide (a ≥ b))) := by
 apply aBin2_of
 simp [aBin,clos,isLit,eqGuard,binOp,Op.intCmp,pv_pure]
theorem aBin_quo (h : b ≠ 0) : aBin2 P H .quo T x y (.int k a) (.int k b) = some (.int k (k.wrap (a.tdiv b))) := by
 apply aBin2_of
 simp [aBin,clos,isLit,eqGuard,binOp,Op.intDiv,pv_pure,h]
theorem aBin_rem (h : b ≠ 0) : aBin2 P H .rem T x y (.int k a) (.int k b) = some (.int k (a.tmod b)) := by
 apply aBin2_of
 simp [aBin,clos,isLit,eqGuard,binOp,Op.intDiv,pv_pure,h]
end
section
variable (H : AHeap) (T : TypeId) (x y : Operand) (a b : ByteArray)
theorem aBin_cat (h : a.size + b.size < 2 ^ 63) : aBin2 P H .add T x y (.string a) (.string b) = some (.string (a ++ b)) := by
 apply aBin2_of
 have h2 : ¬ (((a.size + b.size : Nat) : Int) > IntKind.i64.max) := by
  have : IntKind.i64.max = 2 ^ 63 - 1 := by decide
  omega
 simp only [aBin,clos,isLit,eqGuard,binOp,Op.stringOp]
 rw [if_neg h2]
 rfl
theorem toList_iff (a b : ByteArray) : a.toList = b.toList ↔ a = b := by
 rw [ByteArray.toList_eq,ByteArray.toList_eq]
 constructor
 · intro h
   obtain ⟨⟨a⟩⟩ := a
   obtain ⟨⟨b⟩⟩ := b
   simp at h
   rw [h]
 · intro h; rw [h]
@[simp] theorem aBin_seql : aBin2 P H .eql T x y (.string a) (.string b) = some (.bool (decide (a = b))) := by
 apply aBin2_of
 have : (a.toList == b.toList) = decide (a = b) := by
  rw [Bool.eq_iff_iff]; simp [toList_iff]
 rw [← this]; rfl
@[simp] theorem aBin_sneq : aBin2 P H .neq T x y (.string a) (.string b) = some (.bool (!decide (a = b))) := by
 apply aBin2_of
 have : (a.toList == b.toList) = decide (a = b) := by
  rw [Bool.eq_iff_iff]; simp [toList_iff]
 rw [← this]; rfl
end
theorem aBin_beql {H T x y a b} (h : P.underlying T = some TypeDesc.bool) : aBin2 P H .eql T x y (.bool a) (.bool b) = some (.bool (a == b)) := by
 apply aBin2_of
 have : pv P (do eqGuard .eql T x y (.bool a) (.bool b); binOp .eql T (.bool a) (.bool b)) = some (.bool (a == b)) := by
  show pv P (Op.equal T (.bool a) (.bool b) >>= fun r => pure (Value.bool r)) = _
  rw [pv_bind,pv_equal h]; rfl
 unfold aBin
 rw [if_pos ⟨rfl,rfl⟩,this]; rfl
@[simp] theorem unV_not {b} : unV P .not (.bool b) = some (.bool !b) := Eq.trans rfl rfl
@[simp] theorem unV_neg {k n} : unV P .neg (.int k n) = some (.int k (k.wrap (0 - n))) := Eq.trans rfl rfl
@[simp] theorem pickV_true {a b} : pickV (.bool true) a b = some a := Eq.trans rfl rfl
@[simp] theorem pickV_false {a b} : pickV (.bool false) a b = some b := Eq.trans rfl rfl
@[simp] theorem gifp_tt {a d : Prop} : gifp (.bool true) true a d = a := rfl
@[simp] theorem gifp_ft {a d : Prop} : gifp (.bool false) true a d = d := rfl
@[simp] theorem gifp_tf {a d : Prop} : gifp (.bool true) false a d = d := rfl
@[simp] theorem gifp_ff {a d : Prop} : gifp (.bool false) false a d = a := rfl
@[simp] theorem tupV_get {vs : Array Value} {i : Nat} : tupV (.tuple vs) i = vs[i]? := Eq.trans rfl rfl
@[simp] theorem hcells_app (H L : AHeap) (i : Nat) : hcells (H ++ L) (H.length + i) = hcells L i := by
 unfold hcells
 rw [List.getElem?_append_right (by omega)]
 simp
@[simp] theorem hcells_app0 (H L : AHeap) : hcells (H ++ L) H.length = hcells L 0 := hcells_app H L 0
@[simp] theorem hlen_app (H L : AHeap) (i : Nat) : hlen (H ++ L) (H.length + i) = hlen L i := by
 unfold hlen
 rw [List.getElem?_append_right (by omega)]
 simp
@[simp] theorem hlen_app0 (H L : AHeap) : hlen (H ++ L) H.length = hlen L 0 := hlen_app H L 0
@[simp] theorem hcells_zero (o : AObj) (L : AHeap) : hcells (o :: L) 0 = o.rcells := by rw [hcells_eq]; rfl
@[simp] theorem hcells_succ (o : AObj) (L : AHeap) (i : Nat) : hcells (o :: L) (i + 1) = hcells L i := by simp [hcells]
@[simp] theorem hlen_zero (o : AObj) (L : AHeap) : hlen (o :: L) 0 = o.len := by simp [hlen]
@[simp] theorem hlen_succ (o : AObj) (L : AHeap) (i : Nat) : hlen (o :: L) (i + 1) = hlen L i := by simp [hlen]
@[simp] theorem rcells_cells (cs T) : (AObj.cells cs T).rcells = some cs := rfl
@[simp] theorem rcells_ro (cs) : (AObj.ro cs).rcells = some cs := rfl
@[simp] theorem len_cells (cs T) : (AObj.cells cs T).len = some cs.length := rfl
@[simp] theorem len_ro (cs) : (AObj.ro cs).len = some cs.length := rfl
theorem aNew_agg {H T} {cs : Array Value} (h : storable (.agg cs) = true) : aNew H T (.agg cs) = some (.pointer (some ⟨H.length,0,some cs.size⟩),H ++ [.cells cs.toList T]) := if_pos h
@[simp] theorem aLoad_ptr {H T b o m} : aLoad P H T (.pointer (some ⟨b,o,some m⟩)) = (hcells H b).bind fun cs => if m = cs.length then (tagg P T).bind fun g => if g = true then (tsize P T).bind fun n => if o + n ≤ cs.length then some (.agg ((cs.drop o).take n).toArray) else none else cs[o]? else none := by
 show aLoad0 P H T (.pointer (some ⟨b,o,some m⟩)) = _
 unfold aLoad0
 simp only
 cases hcells H b with
 | none => rfl
 | some cs =>
   simp only [Option.bind_some]
   split
   · cases tagg P T with
     | none => rfl
     | some g => cases g <;> simp only [Option.bind_some] <;> first | (cases tsize P T <;> rfl) | rfl
   · rfl
def faRes (n : Option Nat) (v : Value) : Option Value := match n with
 | some (_ + 1) => some v
 | _ => none
@[simp] theorem faRes_some {n v} : faRes (some n) v = if n = 0 then none else some v := by cases n <;> rfl
@[simp] theorem aFieldAddr_ptr {H T b o m f} : aFieldAddr P H T (.pointer (some ⟨b,o,some m⟩)) f = if hlen H b = some m then (afield P T f).bind fun q => faRes (tsize P q.2) (.pointer (some ⟨b,o + q.1,some m⟩)) else none := by
 unfold aFieldAddr
 simp only
 split
 · cases afield P T f with
   | none => rfl
   | some q =>
     obtain ⟨d,t⟩ := q
     simp only [Option.bind_some,faRes]
     split <;> split <;> simp_all
 · rfl
@[simp] theorem get_app (H L : AHeap) (i : Nat) : (H ++ L)[H.length + i]? = L[i]? := by rw [List.getElem?_append_right (by omega)]; simp
@[simp] theorem get_app0 (H L : AHeap) : (H ++ L)[H.length]? = L[0]? := get_app H L 0
@[simp] theorem set_app (H L : AHeap) (i : Nat) (o : AObj) : (H ++ L).set (H.length + i) o = H ++ L.set i o := by
 rw [List.set_append_right _ _ (by omega)]; simp
@[simp] theorem set_app0 (H L : AHeap) (o : AObj) : (H ++ L).set H.length o = H ++ L.set 0 o := set_app H L 0 o
def ownCells (o : Option AObj) : Option (List Value × TypeId) := match o with
 | some (.cells cs T) => some (cs,T)
 | _ => none
@[simp] theorem ownCells_cells {cs T} : ownCells (some (.cells cs T)) = some (cs,T) := rfl
@[simp] theorem aStore_ptr {H T b o m v} : aStore P H T (.pointer (some ⟨b,o,some m⟩)) v =
  (ownCells (H[b]?)).bind fun q => if m = q.1.length ∧ tsize P T = some v.cells.size ∧ o + v.cells.size ≤ q.1.length ∧ storable v = true then some (H.set b (.cells (putCells q.1 o v.cells.toList) q.2)) else none := by
 unfold aStore ownCells
 simp only
 split <;> simp_all
attribute [simp] putCells_one
theorem putCells_all {cs vs : List Value} (h : vs.length = cs.length) (_h2 : 2 ≤ vs.length) : putCells cs 0 vs = vs := by
 rw [putCells_eq _ _ _ (by omega)]
 simp [h]
def slElem (d : Option TypeDesc) : Option TypeId := match d with
 | some (.slice e) => some e
 | _ => none
@[simp] theorem slElem_slice {e} : slElem (some (TypeDesc.slice e)) = some e := rfl
theorem aIndexAddr_sl {H T b o m k} {n c : Nat} {i : Int} : aIndexAddr P H T (.slice (some ⟨b,o,some m⟩) n c) (.int k i) =
  if hlen H b = some m ∧ 0 ≤ i ∧ i < n then ((slElem (P.underlying T)).bind (tsize P)).map fun z => .pointer (some ⟨b,o + i.toNat * z,some m⟩) else none := by
 show aIndexAddr0 P H T (.slice (some ⟨b,o,some m⟩) n c) (.int k i) = _
 unfold aIndexAddr0
 simp only
 split
 · unfold slElem; split <;> simp_all
 · rfl
theorem aIndexAddr_eq {H T b o m k e z} {n c : Nat} {i : Int} (hu : P.underlying T = some (.slice e)) (hs : tsize P e = some z) (hl : hlen H b = some m) (h0 : 0 ≤ i) (h1 : i < n) :
  aIndexAddr P H T (.slice (some ⟨b,o,some m⟩) n c) (.int k i) = some (.pointer (some ⟨b,o + i.toNat * z,some m⟩)) := by
 show aIndexAddr0 P H T (.slice (some ⟨b,o,some m⟩) n c) (.int k i) = _
 simp [aIndexAddr0,hl,h0,h1,hu,hs]
theorem aLen_slice {H T ad n c e} (hu : P.underlying T = some (.slice e)) : aLen P H T (.slice ad n c) = some (.int .i64 n) := by simp [aLen,hu]
theorem aLen_string {H T s} (hu : P.underlying T = some .string) : aLen P H T (.string s) = some (.int .i64 s.size) := by simp [aLen,hu]
theorem wrap_i64 {n : Int} (h1 : -2 ^ 63 ≤ n) (h2 : n < 2 ^ 63) : IntKind.i64.wrap n = n := by
 unfold IntKind.wrap
 simp only [show IntKind.i64.bits = 64 from rfl,show IntKind.i64.signed = true from rfl]
 simp only [Bool.true_and,decide_eq_true_eq]
 split <;> omega
end Go.Vi
namespace Go.Vi
open Go.RowKit
variable {P : Program}
abbrev yval (b : Nat) : Value := .func (.yield b) #[] #[]
def markOf (r : Nat) : Deferred := { target := .collected r,args := #[] }
def MarkRel (s : Ren) (H : AHeap) (m : List Nat) (ds : List Deferred) : Prop := ∃ rs : List Nat,ds = rs.map markOf ∧ VRelL s H (m.map yval) (rs.map yval)
theorem MarkRel.mono {s H s' H' m ds} (h : MarkRel s H m ds) (e : Ext s H s' H') : MarkRel s' H' m ds := by
 obtain ⟨rs,h1,h2⟩ := h; exact ⟨rs,h1,h2.mono e⟩
abbrev KontG := AExit → List Value → AHeap → List Nat → Prop
def kthenG (f : List Value → AHeap → List Nat → Prop) (k : KontG) : KontG
 | .normal,sl,H,m => f sl H m
 | .exit i,sl,H,m => k (.exit i) sl H m
 | .ret,sl,H,m => k .ret sl H m
def kloopG (f : List Value → AHeap → List Nat → KontG → Prop) : Nat → List Value → AHeap → List Nat → KontG → Prop
 | 0,_,_,_,_ => False
 | n + 1,sl,H,m,k => f sl H m (kthenG (fun sl H m => kloopG f n sl H m k) k)
def kblkG (id : Nat) (k : KontG) : KontG
 | .exit i,sl,H,m => if i = id then k .normal sl H m else k (.exit i) sl H m
 | .normal,sl,H,m => k .normal sl H m
 | .ret,sl,H,m => k .ret sl H m
def kjump (k : KontG) (sl : List Value) (H : AHeap) (m : List Nat) : Option Code → Prop
 | none => k .normal sl H m
 | some .ret => k .ret sl H m
 | some (.exit id) => k (.exit id) sl H m
 | _ => False
def rngEnd (b : Nat) (H : AHeap) (f : Option Code → AHeap → Prop) : Prop := match H[b]? with
 | some (.loop (.run sl ps assign body st pe)) => st ≠ .busy ∧ f pe (H.set b (.loop (.run sl ps assign body .exhausted pe)))
 | _ => False
def enters (P : Program) (f : FuncId) : Bool := match P.funcs[f]? with
 | some fn => fn.body.isSome && notNG fn
 | none => false
def krange (P : Program) (g : Value) (sl : List Value) (ps : Array Tmp) (assign body : Code) (H : AHeap) (m : List Nat) (k : KontG) : Prop := match g with
 | .func (.func f) first cap => enters P f = true ∧ first.size = 0 ∧ ∃ v H',ACalls P f ([yval (H.length + 1)] ++ cap.toList) (H ++ [.loop .blk,.loop (.run sl ps assign body .ready none)]) v H' ∧
   rngEnd (H.length + 1) H' fun pe H2 => kjump k sl H2 (H.length :: m) pe
 | _ => False
def kxG (P : Program) (D : DrawK) : Code → List Value → AHeap → List Nat → KontG → Prop
 | .skip,sl,H,m,k | .label _,sl,H,m,k => k .normal sl H m
 | .region _ ops false,sl,H,m,k => kops P ops ops.toList sl H (fun sl H => k .normal sl H m)
 | .region _ ops true,sl,H,m,k => D ops (fun sl H => k .normal sl H m) sl H
 | .seq x y,sl,H,m,k => kxG P D x sl H m (kthenG (fun sl H m => kxG P D y sl H m k) k)
 | .cond c x y, sl, H, m, k => match aev sl c with
   | some v => kif v (kxG P D x sl H m k) (kxG P D y sl H m k)
   | none => False
 | .block id c,sl,H,m,k => kxG P D c sl H m (kblkG id k)
 | .exit id,sl,H,m,k => k (.exit id) sl H m
 | .ret,sl,H,m,k => k .ret sl H m
 | .loop c,sl,H,m,k => ∃ n,kthenG (fun sl H m => kloopG (kxG P D c) n sl H m k) k .normal sl H m
 | .rangeFunc g ps assign body, sl, H, m, k => match aev sl g with
   | some v => krange P v sl ps assign body H m k
   | none => False
 | _,_,_,_,_ => False
def kseqG (P : Program) (D : DrawK) (y : Code) (k : KontG) : KontG := kthenG (fun sl H m => kxG P D y sl H m k) k
def kitG (P : Program) (D : DrawK) (c : Code) (n : Nat) (k : KontG) : KontG := kthenG (fun sl H m => kloopG (kxG P D c) n sl H m k) k
def GPost (w0 : World) (s : Ren) (H : AHeap) (Q : Exit → Act → World → Prop) (e : AExit) (sl' : List Value) (H' : AHeap) (m' : List Nat) : Prop :=
 ∀ s' a' w' ds',WRel w0 s' H' w' → Ext s H s' H' → @ARel ⟨ds',none⟩ s' H' sl' a' → MarkRel s' H' m' ds' → Q e.to a' w'
theorem GPost.later {w0 s H Q e sl' H' m' s1 H1} (h : GPost w0 s H Q e sl' H' m') (he : Ext s H s1 H1) : GPost w0 s1 H1 Q e sl' H' m' := fun s' a' w' ds' k1 k2 k3 k4 => h s' a' w' ds' k1 (he.trans k2) k3 k4
theorem run_enters {f w} {args : Array Value} (h : enters P f = true) : (callFunc f args).run P w = .ok (.enter f args) w := by
 unfold enters at h
 split at h
 · rename_i fn hf
   simp only [Bool.and_eq_true] at h
   have hq : ¬ fn.name = "runtime.NumGoroutine" := by intro q; have := h.2; simp [notNG, q] at this
   have hbn : ¬ fn.body = none := by intro q; have := h.1; simp [q] at this
   simp [callFunc,hf,hq,hbn]
 · cases h
theorem kloopG_sound {w0} {c : Code} {f : List Value → AHeap → List Nat → KontG → Prop}
  (hf : ∀ {ds s H w sl a Q m} {k : KontG},WRel w0 s H w → @ARel ⟨ds,none⟩ s H sl a → MarkRel s H m ds → f sl H m k → (∀ e sl' H' m',k e sl' H' m' → GPost w0 s H Q e sl' H' m') → c.wpIn Fence.wide 0 P Q a w) (n : Nat)
  {ds s H w sl a Q m} {k : KontG} (h : WRel w0 s H w) (ha : @ARel ⟨ds,none⟩ s H sl a) (hm : MarkRel s H m ds) (hr : kloopG f n sl H m k) (hq : ∀ e sl' H' m',k e sl' H' m' → GPost w0 s H Q e sl' H' m') : (Code.loop c).wpIn Fence.wide 0 P Q a w := by
 refine wpIn_loop_ghost (fun n a w => ∃ ds1 s1 H1 sl1 m1,WRel w0 s1 H1 w ∧ @ARel ⟨ds1,none⟩ s1 H1 sl1 a ∧ MarkRel s1 H1 m1 ds1 ∧ kloopG f n sl1 H1 m1 k ∧ Ext s H s1 H1) n ⟨ds,s,H,sl,m,h,ha,hm,hr,Ext.refl _ _⟩ ?_
 rintro n a w ⟨ds1,s1,H1,sl1,m1,h1,ha1,hm1,hr1,he⟩
 cases n with
 | zero => cases hr1
 | succ n =>
   simp only [kloopG] at hr1
   refine hf h1 ha1 hm1 hr1 ?_
   intro e sl' H' m' hk s' a' w' ds' g1 g2 g3 g4
   cases e with
   | normal => exact ⟨n,by omega,ds',s',H',sl',m',g1,g3,g4,hk,he.trans g2⟩
   | exit id => exact hq _ _ _ _ hk s' a' w' ds' g1 (he.trans g2) g3 g4
   | ret => exact hq _ _ _ _ hk s' a' w' ds' g1 (he.trans g2) g3 g4
theorem krange_sound {w0 ds s H w sl a Q m g v ps assign body} {k : KontG} (h : WRel w0 s H w) (ha : @ARel ⟨ds,none⟩ s H sl a) (hm : MarkRel s H m ds) (hv : aev sl g = some v) (hr : krange P v sl ps assign body H m k)
  (hq : ∀ e sl' H' m',k e sl' H' m' → GPost w0 s H Q e sl' H' m') : (Code.rangeFunc g ps assign body).wpIn Fence.wide 0 P Q a w := by
 letI : Ctx := ⟨ds,none⟩
 unfold krange at hr
 split at hr
 case h_2 => cases hr
 rename_i f first cap
 obtain ⟨hen,hfs,v0,H',hcall,hend⟩ := hr
 obtain rfl : first = #[] := Array.eq_empty_of_size_eq_zero hfs
 have r1 := aev_rel ha hv
 generalize hq0 : a.eval g = q at r1
 cases r1 with
 | lit _ h => simp [isLit] at h
 | func _ _ _ first' cap' hy h1 h2 h3 h4 =>
   obtain rfl : first' = #[] := Array.eq_empty_of_size_eq_zero (by simpa using h1.symm)
   refine wpIn_rangeFunc fun fn _ => ?_
   have W1 := h.allocLoop .blk (.deferred (some [])) rfl
   have e1 := Ext.push s H (.loop .blk) ⟨w.heap.size,0,0⟩
   let ob : Obj := .loop { state := .ready,pending := none,fn,tmps := a.tmps,params := ps,assign,body,defers := w.heap.size }
   have W2 := W1.allocLoop (.run sl ps assign body .ready none) ob ⟨fn,a.tmps,w.heap.size,rfl,ha.r.mono e1⟩
   have e2 := Ext.push (upd s H.length ⟨w.heap.size,0,0⟩) (H ++ [.loop .blk]) (.loop (.run sl ps assign body .ready none)) ⟨(w.alloc (.deferred (some []))).heap.size,0,0⟩
   have hsz : (w.alloc (.deferred (some []))).heap.size = w.heap.size + 1 := by simp
   rw [hsz] at W2 e2
   have hlen : (H ++ [AObj.loop .blk]).length = H.length + 1 := by simp
   rw [hlen] at W2 e2
   have happ : H ++ [AObj.loop .blk] ++ [AObj.loop (.run sl ps assign body .ready none)] = H ++ [.loop .blk,.loop (.run sl ps assign body .ready none)] := by simp
   rw [happ] at W2 e2
   have e12 := e1.trans e2
   refine ⟨w.heap.size + 1,[markOf w.heap.size],(w.alloc (.deferred (some []))).alloc ob,{ target := .fn (.func f) cap',args := #[.func (.yield (w.heap.size + 1)) #[] #[]] },(w.alloc (.deferred (some []))).alloc ob,f,
    #[.func (.yield (w.heap.size + 1)) #[] #[]] ++ cap',(w.alloc (.deferred (some []))).alloc ob,run_enterLoop_outer fn a.tmps ps assign body,?_,fun _ _ => trivial,?_,fun h => by simp [Fence.wide] at h,?_⟩
   · simp only [resolve,hq0]
     simp [go_sem]
   · simp [invoke,go_sem,run_enters hen]
   · refine callsIn_wide.2 ?_
     have hb : H.length + 1 < (H ++ [AObj.loop .blk,AObj.loop (.run sl ps assign body .ready none)]).length := by simp
     have hargs : VRelL (upd (upd s H.length ⟨w.heap.size,0,0⟩) (H.length + 1) ⟨w.heap.size + 1,0,0⟩) (H ++ [.loop .blk,.loop (.run sl ps assign body .ready none)]) ([yval (H.length + 1)] ++ cap.toList) (#[yval (w.heap.size + 1)] ++ cap').toList := by
      simp only [Array.toList_append]
      refine VRelL.append (.cons (.yield _ _ hb fun r0 _ => by rw [upd_self]) (.nil _ _)) ?_
      exact VRelL.mono ⟨by simpa using h2,fun i x y hx hy => h4 i x y (by simpa using hx) (by simpa using hy)⟩ e12
     rcases hcall w0 _ _ _ W2 hargs with ⟨_,hc⟩ | ⟨v',w',hc,_⟩
     case inr => rw [run_enters hen] at hc; cases hc
     refine hc.mono fun e w3 he => ?_
     obtain ⟨s3,v3,rfl,g1,g2,g3⟩ := he
     unfold rngEnd at hend
     split at hend
     case h_2 => cases hend
     rename_i sl2 ps2 as2 b2 st pe hob
     obtain ⟨hst,hk⟩ := hend
     obtain ⟨_,ob3,hw3,fn3,tmps3,d3,rfl,hsl3⟩ := g1.h.obj _ _ hob
     obtain ⟨r0,hr0,hs3⟩ := (g2.2 _ hb).2.2.2 _ hob
     rw [hs3,upd_self] at hw3
     simp only at hw3
     have hE := run_endLoop (P := P) hw3 hst
     refine ⟨pe,_,hE,?_⟩
     have W4 := g1.putLoop (r' := .run sl2 ps2 as2 b2 .exhausted pe) hob (.loop { state := .exhausted,pending := pe,fn := fn3,tmps := tmps3,params := ps2,assign := as2,body := b2,defers := d3 }) ⟨fn3,tmps3,d3,rfl,hsl3⟩
     rw [hs3,upd_self] at W4
     simp only at W4
     have e4 := Ext.loop (s := s3) (r' := .run sl2 ps2 as2 b2 .exhausted pe) hob
     have eAll := (e12.trans g2).trans e4
     have hds : MarkRel s3 (H'.set (H.length + 1) (.loop (.run sl2 ps2 as2 b2 .exhausted pe))) (H.length :: m) (markOf w.heap.size :: ds) := by
      obtain ⟨rs,hd,hrs⟩ := hm
      refine ⟨w.heap.size :: rs,by simp [hd],.cons ?_ (hrs.mono eAll)⟩
      refine VRel.mono (VRel.yield H.length w.heap.size ?_ fun r0 _ => ?_) (g2.trans e4)
      · simp
      · rw [upd_ne _ _ (by omega),upd_self]
     have hact : @ARel ⟨markOf w.heap.size :: ds,none⟩ s3 (H'.set (H.length + 1) (.loop (.run sl2 ps2 as2 b2 .exhausted pe))) sl { a with defers := [markOf w.heap.size] ++ a.defers } := by
      have hd : a.defers = ds := ha.d
      refine @ARel.mk ⟨markOf w.heap.size :: ds,none⟩ _ _ _ _ (ha.r.mono eAll) ?_
      show markOf w.heap.size :: a.defers = markOf w.heap.size :: ds
      rw [hd]
     unfold kjump at hk
     split at hk
     · exact hq _ _ _ _ hk _ _ _ _ W4 eAll hact hds
     · exact wpIn_ret (hq _ _ _ _ hk _ _ _ _ W4 eAll hact hds)
     · exact wpIn_exit (hq _ _ _ _ hk _ _ _ _ W4 eAll hact hds)
     · cases hk
theorem kxG_sound {D : DrawK} (hD : ∀ c : Ctx,@SoundK c P D) {w0} : ∀ (c : Code) {ds s H w sl a Q m} {k : KontG},WRel w0 s H w → @ARel ⟨ds,none⟩ s H sl a → MarkRel s H m ds → kxG P D c sl H m k →
  (∀ e sl' H' m',k e sl' H' m' → GPost w0 s H Q e sl' H' m') → c.wpIn Fence.wide 0 P Q a w := by
 intro c
 induction c with
 | skip => intro ds s H w sl a Q m k h ha hm hr hq; exact wpIn_skip (hq _ _ _ _ hr s a w ds h (Ext.refl _ _) ha hm)
 | label l => intro ds s H w sl a Q m k h ha hm hr hq; exact wpIn_label (hq _ _ _ _ hr s a w ds h (Ext.refl _ _) ha hm)
 | region id ops draw =>
   intro ds s H w sl a Q m k h ha hm hr hq
   cases draw with
   | false =>
     refine wpIn_region ?_
     have := @kops_sound P ⟨ds,none⟩ w0 ops Q _ ops.toList 0 s H w sl a (fun i o hi => by simpa using hi) h ha hr (fun sl' H' hk => fun s' a' w' g1 g2 g3 => hq .normal sl' H' m hk s' a' w' ds g1 g2 g3 (hm.mono g2))
     rw [List.range_eq_range']
     simp only [Array.length_toList] at this
     exact this
   | true => exact @hD ⟨ds,none⟩ w0 s H w sl a id ops _ Q h ha hr (fun sl' H' hk => fun s' a' w' g1 g2 g3 => hq .normal sl' H' m hk s' a' w' ds g1 g2 g3 (hm.mono g2))
 | seq x y ihx ihy =>
   intro ds s H w sl a Q m k h ha hm hr hq
   refine wpIn_seq (ihx h ha hm hr ?_)
   intro e sl' H' m' hk s' a' w' ds' g1 g2 g3 g4
   cases e with
   | normal => exact ihy g1 g3 g4 hk fun e2 sl2 H2 m2 k2 => (hq e2 sl2 H2 m2 k2).later g2
   | exit id => exact hq _ _ _ _ hk s' a' w' ds' g1 g2 g3 g4
   | ret => exact hq _ _ _ _ hk s' a' w' ds' g1 g2 g3 g4
 | cond c x y ihx ihy =>
   intro ds s H w sl a Q m k h ha hm hr hq
   simp only [kxG] at hr
   split at hr
   · rename_i v hv
     unfold kif at hr
     split at hr
     · rename_i t
       have hb' := (@aev_rel ⟨ds,none⟩ _ _ _ _ _ _ ha hv).lit_inv rfl
       cases t with
       | true => exact wpIn_cond_true hb' (ihx h ha hm (by simpa using hr) hq)
       | false => exact wpIn_cond_false hb' (ihy h ha hm (by simpa using hr) hq)
     · cases hr
   · cases hr
 | block id c ih =>
   intro ds s H w sl a Q m k h ha hm hr hq
   refine wpIn_block (ih h ha hm hr ?_)
   intro e sl' H' m' hk s' a' w' ds' g1 g2 g3 g4
   cases e with
   | normal => exact hq _ _ _ _ hk s' a' w' ds' g1 g2 g3 g4
   | exit i =>
     simp only [kblkG] at hk
     show Exit.inBlock id Q (.exit i) a' w'
     simp only [Exit.inBlock]
     split at hk
     · rename_i hid; rw [if_pos hid]; exact hq _ _ _ _ hk s' a' w' ds' g1 g2 g3 g4
     · rename_i hid; rw [if_neg hid]; exact hq _ _ _ _ hk s' a' w' ds' g1 g2 g3 g4
   | ret => exact hq _ _ _ _ hk s' a' w' ds' g1 g2 g3 g4
 | exit id => intro ds s H w sl a Q m k h ha hm hr hq; exact wpIn_exit (hq _ _ _ _ hr s a w ds h (Ext.refl _ _) ha hm)
 | ret => intro ds s H w sl a Q m k h ha hm hr hq; exact wpIn_ret (hq _ _ _ _ hr s a w ds h (Ext.refl _ _) ha hm)
 | loop c ih =>
   intro ds s H w sl a Q m k h ha hm hr hq
   obtain ⟨n,hr⟩ := hr
   exact kloopG_sound (f := kxG P D c) (fun h ha hm hr hq => ih h ha hm hr hq) n h ha hm hr hq
 | rangeFunc g ps assign body _ _ =>
   intro ds s H w sl a Q m k h ha hm hr hq
   simp only [kxG] at hr
   split at hr
   · rename_i v hv; exact krange_sound h ha hm hv hr hq
   · cases hr
 | _ => intro ds s H w sl a Q m k h ha hm hr hq; cases hr
def kmarks (k : AHeap → Prop) : List Nat → AHeap → Prop
 | [],H => k H
 | b :: r,H => H[b]? = some (.loop .blk) ∧ kmarks k r (H.set b (.loop .gone))
def kfinG (P : Program) (fn : Func) (k : Value → AHeap → Prop) : KontG
 | .exit _,_,_,_ => False
 | .normal,sl,H,m => kmarks (fun H2 => kres P sl H2 fn.results.toList fun l => k (retV l) H2) m H
 | .ret,sl,H,m => kmarks (fun H2 => kres P sl H2 fn.results.toList fun l => k (retV l) H2) m H
def kbodyG (P : Program) (D : DrawK) (fn : Func) (args : List Value) (H : AHeap) (k : Value → AHeap → Prop) : Prop := match fn.body with
 | some c => kxG P D c (args ++ List.replicate (fn.ntmps - args.length) undef) H [] (kfinG P fn k)
 | none => False
theorem kmarks_leave {w0 fn R sl} {k : AHeap → Prop} {tmps : Array Value} : ∀ (m : List Nat) {s H w s0 H0 ds},WRel w0 s H w → Ext s0 H0 s H → VRelL s H sl tmps.toList → MarkRel s H m ds → kmarks k m H →
  (∀ s' H' w',WRel w0 s' H' w' → Ext s0 H0 s' H' → VRelL s' H' sl tmps.toList → k H' → ∃ v,(results fn tmps).run P w' = .ok v w' ∧ R (.returned v) w') → LeavesInM Fence.wide 0 P fn tmps R ds .returning w := by
 intro m
 induction m with
 | nil =>
   intro s H w s0 H0 ds h he ht hm hk hq
   obtain ⟨rs,rfl,hrs⟩ := hm
   have : rs = [] := by have := hrs.1; simpa using this.symm
   subst this
   exact hq s H w h he ht hk
 | cons b r ih =>
   intro s H w s0 H0 ds h he ht hm hk hq
   obtain ⟨rs,rfl,hrs⟩ := hm
   cases rs with
   | nil => have := hrs.1; simp at this
   | cons x rs =>
     obtain ⟨hb,hk⟩ := hk
     have hx : VRel s H (yval b) (yval x) := hrs.2 0 _ _ rfl rfl
     have hxb : x = (s b).blk := by
      cases hx with
      | lit _ h => simp [isLit] at h
      | func _ _ _ _ _ hy => exact absurd rfl (hy _)
      | yield _ _ _ h => exact h _ hb
     subst hxb
     obtain ⟨_,ob,hw,rfl⟩ := h.h.obj _ _ hb
     have e := Ext.loop (s := s) (r' := .gone) hb
     refine ⟨by simp,.inl ⟨(s b).blk,_,rfl,run_takeDeferred hw,?_⟩⟩
     refine ih (h.putLoop (r' := .gone) hb (.deferred none) trivial) (he.trans e) (ht.mono e) ⟨rs,rfl,?_⟩ hk hq
     refine VRelL.mono ⟨by have := hrs.1; simpa using this,fun i p q hp hq => hrs.2 (i + 1) p q (by simpa using hp) (by simpa using hq)⟩ e
end Go.Vi
namespace Go.Vi
open Go Go.Proofs Go.ChangeShapes Go.RowKit
theorem callsT_of {P : Program} {f : FuncId} {args : List Value} {args' : Array Value} {H H' : AHeap} {W : World} {s : Ren} (h : ACalls P f args H (.bool true) H') (hent : enters P f = true) (hw : WRel W s H W) (ha : VRelL s H args args'.toList) :
  Calls P f args' W (fun e W' => e = .returned (.bool true) ∧ Below W.heap.size W W') := by
 rcases h W s W args' hw ha with ⟨_,h⟩ | ⟨v',w',h,_⟩
 · refine h.mono fun e W' hq => ?_
   obtain ⟨s',v',rfl,h1,_,h3⟩ := hq
   have := h3.lit_inv rfl
   subst this
   exact ⟨rfl,h1.b⟩
 · rw [run_enters hent] at h
   cases h
theorem trodAll_below {H : Type} {enc : TypeId × Value → H} {P : Program} (hl : laidOutB P = true) {W W' : World} (hb : Below W.heap.size W W') :
  ∀ (ts : List TypeId) (vs : List Value) (ds : List (DataW H)) (ps : List MemPlace), (ts.all fun t => P.readableRec t && decide (t < P.types.size)) = true →
    DataW.TrodAll enc P W 0 (fun _ => true) true ts vs ds ps → (∀ x ∈ ps,x.block < W.heap.size) → DataW.TrodAll enc P W' 0 (fun b => decide (b < W.heap.size)) true ts vs ds ps := by
 intro ts
 induction ts with
 | nil =>
   intro vs ds ps _ h _
   cases vs <;> cases ds <;> exact h
 | cons t ts ih =>
   intro vs ds ps hr h hlt
   cases vs with
   | nil => cases h
   | cons v vs => cases ds with
     | nil => cases h
     | cons d ds =>
       obtain ⟨p,q,h1,h2,rfl⟩ := h
       simp only [List.all_cons,Bool.and_eq_true,decide_eq_true_eq] at hr
       exact ⟨p,q,Below.trod hl hr.1.1 hr.1.2 h1 hb (fun x hx => hlt x (by simp [hx])),ih vs ds q (by simpa using hr.2) h2 (fun x hx => hlt x (by simp [hx])),rfl⟩
theorem post_true {H : Type} {enc : TypeId × Value → H} {P : Program} {f : Func} {s : ChangeSpec} {tb : TypeId} {fresh handsOn : Bool} {W W' : World} {args : Array Value} {ds : List (DataW H)} {ps : List MemPlace}
  (hW : DataW.Whole enc P f.params.toList s.vars false W args.toList ds [] ps) (hv : s.vars = []) (hf : s.fn H (ds ++ []) = { results := [.lit (.bool true)],args := ds }) (hr : f.resultTypes = #[tb]) (hu : P.underlying tb = some .bool)
  (hl : laidOutB P = true) (hp : (f.params.toList.all fun t => P.readableRec t && decide (t < P.types.size)) = true) (hb : Below W.heap.size W W') : s.post enc P f false fresh handsOn false W args (.bool true) W' := by
 have hlt := hW.lt
 have hW' := hW
 obtain ⟨p,q,h1,h2,rfl,_,_⟩ := hW
 rw [hv] at h2
 obtain ⟨_,rfl⟩ := trodVars_none h2
 refine ⟨ds,[],p ++ [],[],p,[],hW',?_,?_,?_,Below.frame hb _,fun h => by cases h⟩
 · rw [hf,hr]
   exact trodAll_mk1 (shut_bool hu true)
 · rw [hf]
   exact trodAll_below hl hb _ _ _ _ hp h1 (fun x hx => hlt x (by simp [hx]))
 · rw [hf,hv]
   rfl
end Go.Vi
namespace Go.Proofs.Ytgekefehilgkeaa
open Go Go.Vi Go.ChangeShapes Go.WideShapes Go.RowKit Go.Proofs Go.Proofs.Try
theorem own : ownKnob prog.godebug = none := by kernel_rfl
theorem laidOut : laidOutB prog = true := by kernel_rfl
end Go.Proofs.Ytgekefehilgkeaa
namespace Go.Vi
open Go.RowKit
variable {P : Program}
def bldV (z : Array Value) (pl : List (Nat × Nat)) (l : List (Nat × Value)) : Option Value := if allStor l = true then (Instr.fill (pl[·]?) z l).map .agg else none
def bslV (e : TypeId) (zs : Array Value) (H : AHeap) (n : Nat) (l : List (Nat × Value)) : Option (Value × AHeap) :=
 if n * zs.size ≤ 16777216 then match Instr.fill (fun i => some (i * zs.size,zs.size)) (repCells zs (n * zs.size)) l with
  | some cs => if cs.size = n * zs.size ∧ cs.toList.all (·.oneCell') = true then some (.slice (some ⟨H.length,0,some cs.size⟩) n n,H ++ [.cells cs.toList e]) else none
  | none => none
 else none
@[simp] theorem put1 (v : Value) (off : Nat) (cells : Array Value) : (#[v] : Array Value).zipIdx.foldl (fun (cs : Array Value) (p : Value × Nat) => cs.setIfInBounds (off + p.2) p.1) cells = cells.setIfInBounds off v := rfl
@[simp] theorem cells_bool (b : Bool) : Value.cells (.bool b) = #[.bool b] := rfl
@[simp] theorem one_bool (b : Bool) : Value.oneCell' (.bool b) = true := rfl
@[simp] theorem stor_bool (b : Bool) : storable (.bool b) = true := rfl
@[simp] theorem cells_int (k : IntKind) (n : Int) : Value.cells (.int k n) = #[.int k n] := rfl
@[simp] theorem one_int (k : IntKind) (n : Int) : Value.oneCell' (.int k n) = true := rfl
@[simp] theorem stor_int (k : IntKind) (n : Int) : storable (.int k n) = true := rfl
@[simp] theorem cells_string (s : ByteArray) : Value.cells (.string s) = #[.string s] := rfl
@[simp] theorem one_string (s : ByteArray) : Value.oneCell' (.string s) = true := rfl
@[simp] theorem stor_string (s : ByteArray) : storable (.string s) = true := rfl
@[simp] theorem cells_ptr (p : Option Addr) : Value.cells (.pointer p) = #[.pointer p] := rfl
@[simp] theorem one_ptr (p : Option Addr) : Value.oneCell' (.pointer p) = true := rfl
@[simp] theorem stor_ptr (p : Option Addr) : storable (.pointer p) = true := rfl
@[simp] theorem cells_slice (p : Option Addr) (n c : Nat) : Value.cells (.slice p n c) = #[.slice p n c] := rfl
@[simp] theorem one_slice (p : Option Addr) (n c : Nat) : Value.oneCell' (.slice p n c) = true := rfl
@[simp] theorem stor_slice (p : Option Addr) (n c : Nat) : storable (.slice p n c) = true := rfl
@[simp] theorem cells_map (p : Option Nat) : Value.cells (.map p) = #[.map p] := rfl
@[simp] theorem one_map (p : Option Nat) : Value.oneCell' (.map p) = true := rfl
@[simp] theorem stor_map (p : Option Nat) : storable (.map p) = true := rfl
@[simp] theorem cells_func (f : Fn) (a c : Array Value) : Value.cells (.func f a c) = #[.func f a c] := rfl
@[simp] theorem one_func (f : Fn) (a c : Array Value) : Value.oneCell' (.func f a c) = true := rfl
@[simp] theorem stor_func (f : Fn) (a c : Array Value) : storable (.func f a c) = true := rfl
@[simp] theorem cells_nilFunc  : Value.cells (.nilFunc) = #[.nilFunc] := rfl
@[simp] theorem one_nilFunc  : Value.oneCell' (.nilFunc) = true := rfl
@[simp] theorem stor_nilFunc  : storable (.nilFunc) = true := rfl
@[simp] theorem cells_nilIface  : Value.cells (.nilIface) = #[.nilIface] := rfl
@[simp] theorem one_nilIface  : Value.oneCell' (.nilIface) = true := rfl
@[simp] theorem stor_nilIface  : storable (.nilIface) = true := rfl
@[simp] theorem cells_iface (t : TypeId) (v : Value) : Value.cells (.iface t v) = #[.iface t v] := rfl
@[simp] theorem one_iface (t : TypeId) (v : Value) : Value.oneCell' (.iface t v) = true := rfl
@[simp] theorem stor_iface (t : TypeId) (v : Value) : storable (.iface t v) = true := rfl
@[simp] theorem cells_agg (a : Array Value) : Value.cells (.agg a) = a := rfl
@[simp] theorem stor_agg (a : Array Value) : storable (.agg a) = a.toList.all (·.oneCell') := rfl
theorem stor_one {v : Value} (h : v.oneCell' = true) : storable v = true := by cases v <;> simp_all [storable,Value.oneCell']
theorem cells_one {v : Value} (h : v.oneCell' = true) : v.cells = #[v] := by cases v <;> simp_all [Value.cells,Value.oneCell']
attribute [simp] Instr.fill allStor bldV
def mput (k x : Value) (es : List (Value × Value)) : List (Value × Value) := match mfind k es with
 | some j => es.set j (k,x)
 | none => es ++ [(k,x)]
def mget (k : Value) (es : List (Value × Value)) : Option Value := (mfind k es).bind fun j => (es[j]?).map (·.2)
def mapOf (o : Option AObj) : Option (List (Value × Value)) := match o with
 | some (.map es) => some es
 | _ => none
@[simp] theorem mapOf_map {es} : mapOf (some (.map es)) = some es := rfl
def mres (x : Option Value) (z : Value) (ok : Bool) : Value := match x with
 | some x => if ok then .tuple #[x,.bool true] else x
 | none => if ok then .tuple #[z,.bool false] else z
@[simp] theorem mres_some {x z ok} : mres (some x) z ok = if ok = true then .tuple #[x,.bool true] else x := by cases ok <;> rfl
@[simp] theorem mres_none {z ok} : mres none z ok = if ok = true then .tuple #[z,.bool false] else z := by cases ok <;> rfl
@[simp] theorem aUpdate_map {H t b k x} : aUpdate P H t (.map (some b)) k x = (mtype P t).bind fun q => (mapOf (H[b]?)).bind fun es => if keyOk q.1 k = true ∧ mOk q.1 es = true then some (H.set b (.map (mput k x es))) else none := by
 unfold aUpdate mapOf mput
 cases mtype P t with
 | none => rfl
 | some q =>
   obtain ⟨d,e⟩ := q
   simp only [Option.bind_some]
   cases hb : H[b]? with
   | none => rfl
   | some o => cases o <;> rfl
@[simp] theorem aLookup_map {H t b k ok} : aLookup P H t (.map (some b)) k ok = (mtype P t).bind fun q => if keyOk q.1 k = true then (mapOf (H[b]?)).bind fun es => if mOk q.1 es = true then
  (match mget k es with
   | some x => some (mres (some x) undef ok)
   | none => (tzero P q.2).bind fun z => if cok z = true then some (mres none z ok) else none) else none else none := by
 unfold aLookup mapOf mget
 cases mtype P t with
 | none => rfl
 | some q =>
   obtain ⟨d,e⟩ := q
   simp only [Option.bind_some]
   split
   · cases hb : H[b]? with
     | none => rfl
     | some o =>
       cases o with
       | map es =>
         simp only [Option.bind_some]
         split
         · cases hf : mfind k es with
           | none =>
             simp only [Option.bind_none]
             cases tzero P e with
             | none => rfl
             | some z => simp only [Option.bind_some,mres]
           | some j =>
             obtain ⟨k',y,h1,h2⟩ := mfind_lt hf
             simp [h1,mres]
         · rfl
       | _ => rfl
   · rfl
end Go.Vi
namespace Go.Vi
open Go.RowKit
variable {P : Program}
abbrev str (l : List UInt8) : Value := .string ⟨l.toArray⟩
abbrev byt (b : UInt8) : Value := .int .u8 (b.toNat : Int)
abbrev i64 (n : Int) : Value := .int .i64 n
attribute [simp] putCells_all aLen_slice aLen_string
@[simp] theorem putCells_single {cs : List Value} {o : Nat} {v : Value} : putCells cs o [v] = cs.set o v := rfl
theorem set_same {α : Type} {l : List α} {i : Nat} {x : α} (h : l[i]? = some x) : l.set i x = l := by
 obtain ⟨h1,rfl⟩ := List.getElem?_eq_some_iff.1 h
 exact List.set_getElem_self h1
theorem bndG_call {b want : Bool} {H : AHeap} {e q : QH} (v : Value) (h : b = want → e.f v H) (k : q.f (gsel b want v undef) H) : @bndG (.bool b) want H e q := by
 refine ⟨gsel b want v undef,H,?_,k⟩
 unfold gifp gsel
 by_cases hb : b = want
 · simp only [hb,beq_self_eq_true,if_true]; exact h hb
 · simp [hb]
theorem bndD_of {b : Bool} {H : AHeap} {e q : QH} {v : Value} {H' : AHeap} (h : e.f v H') (hb : b = true ∨ ∃ X,H' = H ++ X) (k : q.f v H') : @bndD b H e q := ⟨v,H',h,hb,k⟩
theorem bndD_same {b : Bool} {H : AHeap} {e q : QH} {v : Value} (h : e.f v H) (k : q.f v H) : @bndD b H e q := ⟨v,H,h,.inr ⟨[],by simp⟩,k⟩
theorem bndV_func {f : FuncId} {first cap : Array Value} {args : List Value} {H : AHeap} {q : QH} {v : Value} {H' : AHeap} (h : ACalls P f (first.toList ++ args ++ cap.toList) H v H') (k : q.f v H') : @bndV P (.func (.func f) first cap) args H q :=
 ⟨v,H',h,k⟩
@[simp] theorem bndG_ft {H : AHeap} {e q : QH} : @bndG (.bool false) true H e q = q.f undef H := by
 apply propext
 constructor
 · rintro ⟨v,H',h,k⟩
   simp only [gifp_ft] at h
   obtain ⟨rfl,rfl⟩ := h
   exact k
 · intro k; exact ⟨undef,H,by simp [gifp],k⟩
@[simp] theorem bndG_tf {H : AHeap} {e q : QH} : @bndG (.bool true) false H e q = q.f undef H := by
 apply propext
 constructor
 · rintro ⟨v,H',h,k⟩
   simp only [gifp_tf] at h
   obtain ⟨rfl,rfl⟩ := h
   exact k
 · intro k; exact ⟨undef,H,by simp [gifp],k⟩
@[simp] theorem bndE_none {q : QH} : @bndE none q = False := by simp [bndE]
@[simp] theorem size_mk (l : List UInt8) : (⟨l.toArray⟩ : ByteArray).size = l.length := rfl
@[simp] theorem aLen_str {H T} {l : List UInt8} (hu : P.underlying T = some .string) : aLen P H T (str l) = some (i64 l.length) := by simp [aLen,hu]
theorem aIndex_str {T k} {l : List UInt8} {i : Int} (hu : P.underlying T = some .string) : aIndex P T (str l) (.int k i) = if 0 ≤ i then (l[i.toNat]?).map byt else none := by
 simp [aIndex,hu]
theorem aIndex_at {T k} {l : List UInt8} {i : Nat} {b : UInt8} (hu : P.underlying T = some .string) (h : l[i]? = some b) : aIndex P T (str l) (.int k i) = some (byt b) := by
 rw [aIndex_str hu,if_pos (by omega),Int.toNat_natCast,h]; rfl
theorem extract_str (l : List UInt8) (a b : Nat) : (⟨l.toArray⟩ : ByteArray).extract a b = ⟨((l.take b).drop a).toArray⟩ := by
 apply ByteArray.ext
 rw [ByteArray.data_extract,List.extract_toArray]
 simp [List.drop_take]
theorem aSliceOp_str {H T} {l : List UInt8} {lo hi : Option Value} {a b : Int} (hu : P.underlying T = some .string) (ha : aLow lo = some a) (hb : aHigh l.length hi = some b) (h0 : 0 ≤ a) (h1 : a ≤ b) (h2 : b ≤ l.length) :
  aSliceOp P H T (str l) lo hi = some (str ((l.take b.toNat).drop a.toNat)) := by
 have hs : (⟨l.toArray⟩ : ByteArray).size = l.length := rfl
 simp only [aSliceOp,hu,ha,hs,hb]
 rw [if_pos ⟨h0,h1,h2⟩,extract_str]
theorem str_append (a b : List UInt8) : (⟨a.toArray⟩ : ByteArray) ++ ⟨b.toArray⟩ = ⟨(a ++ b).toArray⟩ := by
 apply ByteArray.ext
 simp [ByteArray.data_append]
theorem aBin_str {H T x y} {a b : List UInt8} (h : a.length + b.length < 2 ^ 63) : aBin2 P H .add T x y (str a) (str b) = some (str (a ++ b)) := by
 apply aBin2_of
 have := aBin_cat (P := P) H T x y ⟨a.toArray⟩ ⟨b.toArray⟩ (by simpa using h)
 unfold aBin2 at this
 cases hq : aBin P .add T x y (str a) (str b) with
 | none =>
   rw [hq] at this
   simp [aPtrEq] at this
 | some r =>
   rw [hq] at this
   cases this
   rw [str_append]
theorem str_eq (a b : List UInt8) : ((⟨a.toArray⟩ : ByteArray) = ⟨b.toArray⟩) ↔ a = b := by
 constructor
 · intro h
   have := congrArg ByteArray.data h
   simpa using this
 · rintro rfl; rfl
@[simp] theorem str_eqd (a b : List UInt8) : decide ((⟨a.toArray⟩ : ByteArray) = ⟨b.toArray⟩) = decide (a = b) := by simp
@[simp] theorem wrap_lit0 : IntKind.i64.wrap 0 = 0 := rfl
@[simp] theorem wrap_succ {n : Nat} (h : n + 1 < 2 ^ 63) : IntKind.i64.wrap ((n : Int) + 1) = ((n + 1 : Nat) : Int) := by
 rw [wrap_i64 (by omega) (by omega)]; rfl
def Pre (H K : AHeap) : Prop := ∃ X,K = H ++ X
theorem Pre.refl (H : AHeap) : Pre H H := ⟨[],by simp⟩
theorem Pre.trans {H K L : AHeap} (h : Pre H K) (k : Pre K L) : Pre H L := by
 obtain ⟨X,rfl⟩ := h; obtain ⟨Y,rfl⟩ := k; exact ⟨X ++ Y,by simp⟩
theorem Pre.app (H X : AHeap) : Pre H (H ++ X) := ⟨X,rfl⟩
theorem Pre.more {H K : AHeap} (h : Pre H K) (X : AHeap) : Pre H (K ++ X) := h.trans (.app K X)
theorem Pre.get {H K : AHeap} (h : Pre H K) {b : Nat} {o : AObj} (hb : H[b]? = some o) : K[b]? = some o := by obtain ⟨X,rfl⟩ := h; exact get_more hb
theorem Pre.hcells {H K : AHeap} (h : Pre H K) {b : Nat} {cs : List Value} (hb : hcells H b = some cs) : Vi.hcells K b = some cs := by obtain ⟨X,rfl⟩ := h; exact hcells_more hb
inductive Arr (H : AHeap) (z : Nat) : Value → List (List Value) → Prop
 | nil : Arr H z (.slice none 0 0) []
 | mk (b o m n c : Nat) (cs : List Value) (l : List (List Value)) (hn : n = l.length) (hcs : hcells H b = some cs) (hm : cs.length = m) (hle : o + n * z ≤ m)
   (hel : ∀ (i : Nat) e,l[i]? = some e → (cs.drop (o + i * z)).take z = e) (hnc : n ≤ c := by first | exact Nat.le_refl _ | assumption | omega) : Arr H z (.slice (some ⟨b,o,some m⟩) n c) l
theorem Arr.pre {H K z v l} (h : Arr H z v l) (p : Pre H K) : Arr K z v l := by
 cases h with
 | nil => exact .nil
 | mk b o m n c cs l hn hcs hm hle hel => exact .mk b o m n c cs l hn (p.hcells hcs) hm hle hel
theorem Arr.len {H z v l T e} (h : Arr H z v l) (hu : P.underlying T = some (.slice e)) : aLen P H T v = some (i64 l.length) := by
 cases h with
 | nil => simp [aLen,hu]
 | mk b o m n c cs l hn => subst hn; simp [aLen,hu]
theorem Arr.len' {H K z v l T e} (h : Arr H z v l) (hu : P.underlying T = some (.slice e)) : aLen P K T v = some (i64 l.length) := by
 cases h with
 | nil => simp [aLen,hu]
 | mk b o m n c cs l hn => subst hn; simp [aLen,hu]
theorem Arr.elen {H z v l} {i : Nat} {e : List Value} (h : Arr H z v l) (hi : l[i]? = some e) : e.length = z := by
 cases h with
 | nil => cases hi
 | mk b o m n c cs l hn hcs hm hle hel =>
   have hlt := (List.getElem?_eq_some_iff.1 hi).1
   rw [← hel i e hi]
   have : (i + 1) * z ≤ n * z := Nat.mul_le_mul_right _ (by omega)
   rw [Nat.add_mul,Nat.one_mul] at this
   simp; omega
theorem Arr.one {H z v l} (h : Arr H z v l) : v.oneCell' = true := by cases h <;> rfl
theorem Arr.at {H z v l T te} {i : Nat} {e : List Value} (h : Arr H z v l) (hu : P.underlying T = some (.slice te)) (hs : tsize P te = some z) (hi : l[i]? = some e) :
  ∃ b o m cs,aIndexAddr P H T v (i64 i) = some (.pointer (some ⟨b,o,some m⟩)) ∧ hcells H b = some cs ∧ cs.length = m ∧ o + z ≤ m ∧ (cs.drop o).take z = e := by
 cases h with
 | nil => cases hi
 | mk b o m n c cs l hn hcs hm hle hel =>
   have hlt := (List.getElem?_eq_some_iff.1 hi).1
   have : (i + 1) * z ≤ n * z := Nat.mul_le_mul_right _ (by omega)
   rw [Nat.add_mul,Nat.one_mul] at this
   have hl : hlen H b = some m := by rw [← hm]; exact hcells_len hcs
   refine ⟨b,o + i * z,m,cs,?_,hcs,hm,by omega,hel i e hi⟩
   exact aIndexAddr_eq hu hs hl (by omega) (by omega)
theorem Arr.load {H z v l T te} {i : Nat} {e : List Value} (h : Arr H z v l) (hu : P.underlying T = some (.slice te)) (hs : tsize P te = some z) (hg : tagg P te = some true) (hi : l[i]? = some e) :
  ∃ p,aIndexAddr P H T v (i64 i) = some p ∧ aLoad P H te p = some (.agg e.toArray) := by
 obtain ⟨b,o,m,cs,h1,h2,h3,h4,h5⟩ := h.at hu hs hi
 refine ⟨_,h1,?_⟩
 simp [h2,h3,hg,hs,h5]
 omega
theorem Arr.load1 {H v l T te} {i : Nat} {x : Value} (h : Arr H 1 v l) (hu : P.underlying T = some (.slice te)) (hs : tsize P te = some 1) (hg : tagg P te = some false) (hi : l[i]? = some [x]) :
  ∃ p,aIndexAddr P H T v (i64 i) = some p ∧ aLoad P H te p = some x := by
 obtain ⟨b,o,m,cs,h1,h2,h3,h4,h5⟩ := h.at hu hs hi
 refine ⟨_,h1,?_⟩
 have : cs[o]? = some x := by
  have := congrArg (·[0]?) h5
  simpa using this
 simp [h2,h3,hg,this]
theorem Arr.field {H z v l T te ft d} {i f : Nat} {e : List Value} {x : Value} (h : Arr H z v l) (hu : P.underlying T = some (.slice te)) (hs : tsize P te = some z) (hf : afield P te f = some (d,ft)) (hfs : tsize P ft = some 1) (hg : tagg P ft = some false)
  (hi : l[i]? = some e) (hx : e[d]? = some x) : ∃ p q,aIndexAddr P H T v (i64 i) = some p ∧ aFieldAddr P H te p f = some q ∧ aLoad P H ft q = some x := by
 obtain ⟨b,o,m,cs,h1,h2,h3,h4,h5⟩ := h.at hu hs hi
 have hl : hlen H b = some m := by rw [← h3]; exact hcells_len h2
 refine ⟨_,.pointer (some ⟨b,o + d,some m⟩),h1,by simp [hl,hf,hfs],?_⟩
 have hd : d < z := by
  have := h.elen hi
  have := (List.getElem?_eq_some_iff.1 hx).1
  omega
 have : cs[o + d]? = some x := by
  rw [← h5,List.getElem?_take,if_pos hd,List.getElem?_drop] at hx
  exact hx
 simp [h2,h3,hg,this]
abbrev Same (v : Value) (H : AHeap) : Value → AHeap → Prop := fun u K => u = v ∧ ∃ X,K = H ++ X
theorem bndD_gcall {bar c want : Bool} {H H0 : AHeap} {q : QH} {F : Value → AHeap → Prop} (v : Value) (hH : H0 = H) (h : c = want → F v H0) (k : q.f (gsel c want v undef) H0) :
  @bndD bar H ⟨fun v1 H1 => gifp (.bool c) want (F v1 H1) (v1 = undef ∧ H1 = H0)⟩ q := by
 subst hH
 refine ⟨gsel c want v undef,H0,?_,.inr ⟨[],by simp⟩,k⟩
 show gifp (.bool c) want (F (gsel c want v undef) H0) (gsel c want v undef = undef ∧ H0 = H0)
 unfold gifp gsel
 by_cases hb : c = want
 · simp only [hb,beq_self_eq_true,if_true]; exact h hb
 · simp [hb]
@[simp] theorem bndD_ft {bar : Bool} {H H0 : AHeap} {q : QH} {F : Value → AHeap → Prop} (hH : H0 = H) : @bndD bar H ⟨fun v1 H1 => gifp (.bool false) true (F v1 H1) (v1 = undef ∧ H1 = H0)⟩ q = q.f undef H := by
 subst hH
 apply propext
 constructor
 · rintro ⟨v,H',h,_,k⟩
   simp only [gifp_ft] at h
   obtain ⟨rfl,rfl⟩ := h
   exact k
 · intro k; exact ⟨undef,H0,by simp [gifp],.inr ⟨[],by simp⟩,k⟩
@[simp] theorem bndD_tf {bar : Bool} {H H0 : AHeap} {q : QH} {F : Value → AHeap → Prop} (hH : H0 = H) : @bndD bar H ⟨fun v1 H1 => gifp (.bool true) false (F v1 H1) (v1 = undef ∧ H1 = H0)⟩ q = q.f undef H := by
 subst hH
 apply propext
 constructor
 · rintro ⟨v,H',h,_,k⟩
   simp only [gifp_tf] at h
   obtain ⟨rfl,rfl⟩ := h
   exact k
 · intro k; exact ⟨undef,H0,by simp [gifp],.inr ⟨[],by simp⟩,k⟩
theorem bndD_gcases {bar c : Bool} {H H0 : AHeap} {q : QH} {F : Value → AHeap → Prop} (v : Value) (H' : AHeap) (hH : H0 = H) (hf : c = false → q.f undef H0) (ht : c = true → F v H') (hp : bar = true ∨ ∃ X,H' = H ++ X) (k : c = true → q.f v H') :
  @bndD bar H ⟨fun v1 H1 => gifp (.bool c) true (F v1 H1) (v1 = undef ∧ H1 = H0)⟩ q := by
 subst hH
 cases c with
 | false => exact ⟨undef,H0,by simp [gifp],.inr ⟨[],by simp⟩,hf rfl⟩
 | true => exact ⟨v,H',by simpa [gifp] using ht rfl,hp,k rfl⟩
@[simp] theorem bndD_gsel {bar b w c want : Bool} {H : AHeap} {q : QH} {H0 : AHeap} {F : Value → AHeap → Prop} : @bndD bar H ⟨fun v1 H1 => gifp (gsel b w (.bool c) undef) want (F v1 H1) (v1 = undef ∧ H1 = H0)⟩ q = @bndD bar H ⟨fun v1 H1 => gifp (.bool (b == w && c == want)) true (F v1 H1) (v1 = undef ∧ H1 = H0)⟩ q := by
 unfold bndD
 simp only [gifp_gsel]
theorem bndL_of {H T n ps q v H'} (ha : allStor ps = true) (h : aBuildSlice P H T n ps = some (v,H')) (k : q.f v H') : @bndL P H T n ps q := ⟨v,H',⟨ha,h⟩,k⟩
theorem bndL_lit {H T n ps q v H'} (h : sliceLit P H T n ps v H') (k : q.f v H') : @bndL P H T n ps q := ⟨v,H',h,k⟩
@[simp] theorem convV_int {H s d j k k'} {n : Int} (hs : P.underlying s = some (.int j)) (hd : P.underlying d = some (.int k)) : convV P H s d (.int k' n) = some (.int k (k.wrap n)) := by
 simp [convV,aConv,hs,hd]
@[simp] theorem wrap_byt (b : UInt8) : IntKind.i64.wrap (b.toNat : Int) = b.toNat := wrap_i64 (by omega) (by have := b.toNat_lt; omega)
@[simp] theorem aMax_int {H ats k} {a b : Int} : aBuiltin P H .max ats [.int k a,.int k b] = some (.int k (if b > a then b else a),H) := by simp [aBuiltin]
@[simp] theorem aMin_int {H ats k} {a b : Int} : aBuiltin P H .min ats [.int k a,.int k b] = some (.int k (if b < a then b else a),H) := by simp [aBuiltin]
theorem aBin_beq2 {H T x y} {a b : Bool} (h : P.underlying T = some TypeDesc.bool) : aBin2 P H .eql T x y (.bool a) (.bool b) = some (.bool (a == b)) := aBin_beql h
def enumL : Nat → List Value → List (Nat × Value)
 | _,[] => []
 | k,v :: r => (k,v) :: enumL (k + 1) r
theorem fill_enum : ∀ (l : List Value) (k : Nat) (cells : List Value),(∀ v ∈ l,v.oneCell' = true) → cells.length = k + l.length → Instr.fill (fun i => some (i * 1,1)) cells.toArray (enumL k l) = some (cells.take k ++ l).toArray := by
 intro l
 induction l with
 | nil => intro k cells _ h; simp at h; simp [enumL,← h]
 | cons v r ih =>
   intro k cells ho h
   have h1 := ho v (by simp)
   have hc := cells_one h1
   simp only [List.length_cons] at h
   simp only [enumL,Instr.fill,hc]
   have : ¬ (k * 1 + (#[v] : Array Value).size > cells.toArray.size) := by simp; omega
   have e1 : ¬ ((#[v] : Array Value).size ≠ 1) := by simp
   rw [if_neg (by simp; omega),put1,Nat.mul_one,List.setIfInBounds_toArray]
   rw [ih (k + 1) (cells.set k v) (fun u hu => ho u (by simp [hu])) (by simp; omega)]
   congr 2
   rw [List.take_set,List.set_eq_take_append_cons_drop,if_pos (by simp; omega)]
   simp [List.take_take]
theorem sliceLit1 {H : AHeap} {T e : TypeId} {zv : Value} {l : List Value} {n : Nat} (hs : aBuildSlice P H T n (enumL 0 l) = bslV e #[zv] H n (enumL 0 l)) (hl : ∀ v ∈ l,v.oneCell' = true) (hn : n = l.length) (hb : n ≤ 16777216) :
  sliceLit P H T n (enumL 0 l) (.slice (some ⟨H.length,0,some n⟩) n n) (H ++ [.cells l e]) := by
 subst hn
 refine ⟨?_,?_⟩
 · have : ∀ (l : List Value) (k : Nat),(∀ v ∈ l,v.oneCell' = true) → allStor (enumL k l) = true := by
    intro l
    induction l with
    | nil => intro k _; rfl
    | cons v r ih =>
      intro k h
      have := ih (k + 1) fun u hu => h u (by simp [hu])
      simp only [allStor] at this
      simp [enumL,stor_one (h v (by simp)),this]
   exact this l 0 hl
 · rw [hs]
   unfold bslV
   have hr : repCells #[zv] (l.length * (#[zv] : Array Value).size) = (List.replicate l.length zv).toArray := by
    apply Array.ext
    · simp [repCells]
    · intro i h1 h2
      simp [repCells,Nat.mod_one]
   have hf := fill_enum l 0 (List.replicate l.length zv) hl (by simp)
   simp only [List.take_zero,List.nil_append] at hf
   rw [hr]
   simp only [List.size_toArray,List.length_cons,List.length_nil,Nat.zero_add,Nat.mul_one] at hf ⊢
   rw [if_pos hb,hf]
   simp only [List.size_toArray]
   rw [if_pos (by simpa using hl)]
def idxF {α : Type} (p : α → Bool) : List α → Int
 | [] => -1
 | x :: r => if p x = true then 0 else if idxF p r = -1 then -1 else idxF p r + 1
def offI (i : Nat) (n : Int) : Int := if n = -1 then -1 else i + n
theorem idxF_ge {α : Type} (p : α → Bool) (l : List α) : -1 ≤ idxF p l := by
 induction l with
 | nil => exact Int.le_refl _
 | cons x r ih => simp only [idxF]; split <;> (try split) <;> omega
theorem idxF_iff {α : Type} (p : α → Bool) (l : List α) : 0 ≤ idxF p l ↔ l.any p = true := by
 induction l with
 | nil => simp [idxF]
 | cons x r ih =>
   have := idxF_ge p r
   rw [List.any_cons,Bool.or_eq_true,← ih]
   simp only [idxF]
   by_cases hp : p x = true
   · simp [hp]
   · rw [if_neg hp]
     simp only [hp,false_or,Bool.false_eq_true]
     split <;> omega
theorem idxF_any {α : Type} (p : α → Bool) (l : List α) : decide (idxF p l ≥ 0) = l.any p := by
 have := idxF_iff p l
 cases h : l.any p with
 | true => rw [h] at this; exact decide_eq_true (this.2 rfl)
 | false => rw [h] at this; exact decide_eq_false fun q => by simpa using this.1 q
theorem offI_cons {α : Type} (p : α → Bool) (x : α) (r : List α) (i : Nat) : offI i (idxF p (x :: r)) = if p x = true then (i : Int) else offI (i + 1) (idxF p r) := by
 have := idxF_ge p r
 unfold offI
 simp only [idxF]
 by_cases hp : p x = true
 · simp [hp]
 · simp only [if_neg hp]
   by_cases h : idxF p r = -1
   · simp [h]
   · have : ¬ idxF p r + 1 = -1 := by omega
     simp only [h,this,if_false]
     omega
def SMap (Q : List UInt8 → Value → Prop) : List (Value × Value) → List (List UInt8) → Prop
 | [],[] => True
 | e :: es,k :: ks => e.1 = str k ∧ Q k e.2 ∧ SMap Q es ks
 | _,_ => False
theorem keyEq_str (a b : List UInt8) : keyEq (str a) (str b) = decide (a = b) := by
 show ((⟨a.toArray⟩ : ByteArray) == ⟨b.toArray⟩) = decide (a = b)
 rw [Bool.eq_iff_iff,ba_beq]
 simp
theorem SMap.len {Q} : ∀ {es ks},SMap Q es ks → es.length = ks.length := by
 intro es
 induction es with
 | nil => intro ks h; cases ks with
   | nil => rfl
   | cons => cases h
 | cons e es ih => intro ks h; cases ks with
   | nil => cases h
   | cons k ks => simp [ih h.2.2]
theorem SMap.ok {Q} : ∀ {es ks},SMap Q es ks → mOk .string es = true := by
 intro es
 induction es with
 | nil => intro ks _; rfl
 | cons e es ih => intro ks h; cases ks with
   | nil => cases h
   | cons k ks =>
     have := ih h.2.2
     unfold mOk at this ⊢
     rw [List.all_cons,this,h.1]
     rfl
theorem SMap.find {Q} {k : List UInt8} : ∀ {es ks},SMap Q es ks → (k ∈ ks ∧ ∃ j v,mfind (str k) es = some j ∧ es[j]? = some (str k,v) ∧ Q k v) ∨ (k ∉ ks ∧ mfind (str k) es = none) := by
 intro es
 induction es with
 | nil => intro ks h; cases ks with
   | nil => exact .inr ⟨by simp,rfl⟩
   | cons => cases h
 | cons e es ih => intro ks h; cases ks with
   | nil => cases h
   | cons k' ks =>
     obtain ⟨e1,e2⟩ := e
     obtain ⟨h1,h2,h3⟩ := h
     simp only at h1 h2
     subst h1
     simp only [mfind,keyEq_str]
     by_cases hk : k = k'
     · subst hk
       exact .inl ⟨by simp,0,e2,by simp,rfl,h2⟩
     · rcases ih h3 with ⟨g1,j,v,g2,g3,g4⟩ | ⟨g1,g2⟩
       · exact .inl ⟨by simp [g1],j + 1,v,by simp [hk,g2],by simpa using g3,g4⟩
       · exact .inr ⟨by simp [hk,g1],by simp [hk,g2]⟩
theorem SMap.get {Q} {k : List UInt8} {es ks} (h : SMap Q es ks) : (k ∈ ks ∧ ∃ v,mget (str k) es = some v ∧ Q k v) ∨ (k ∉ ks ∧ mget (str k) es = none) := by
 unfold mget
 rcases h.find (k := k) with ⟨g1,j,v,g2,g3,g4⟩ | ⟨g1,g2⟩
 · exact .inl ⟨g1,v,by simp [g2,g3],g4⟩
 · exact .inr ⟨g1,by simp [g2]⟩
def addKey {α : Type} [DecidableEq α] (ks : List α) (k : α) : List α := if k ∈ ks then ks else ks ++ [k]
theorem SMap.app {Q} {k : List UInt8} {x : Value} (hx : Q k x) : ∀ {es ks},SMap Q es ks → SMap Q (es ++ [(str k,x)]) (ks ++ [k]) := by
 intro es
 induction es with
 | nil => intro ks h; cases ks with
   | nil => exact ⟨rfl,hx,trivial⟩
   | cons => cases h
 | cons e es ih => intro ks h; cases ks with
   | nil => cases h
   | cons k' ks => exact ⟨h.1,h.2.1,ih h.2.2⟩
theorem SMap.set {Q} {k : List UInt8} {x : Value} (hx : Q k x) : ∀ {es ks} {j : Nat} {v : Value},SMap Q es ks → es[j]? = some (str k,v) → SMap Q (es.set j (str k,x)) ks := by
 intro es
 induction es with
 | nil => intro ks j v h hj; simp at hj
 | cons e es ih => intro ks j v h hj; cases ks with
   | nil => cases h
   | cons k' ks =>
     cases j with
     | zero =>
       simp at hj
       subst hj
       have : k = k' := by
        have := h.1
        simp only [Value.string.injEq] at this
        exact (str_eq _ _).1 this
       subst this
       exact ⟨rfl,hx,h.2.2⟩
     | succ j => exact ⟨h.1,h.2.1,ih h.2.2 (by simpa using hj)⟩
theorem SMap.put {Q} {k : List UInt8} {x : Value} {es ks} (h : SMap Q es ks) (hx : Q k x) : SMap Q (mput (str k) x es) (addKey ks k) := by
 unfold mput addKey
 rcases h.find (k := k) with ⟨g1,j,v,g2,g3,g4⟩ | ⟨g1,g2⟩
 · rw [g2,if_pos g1]; exact h.set hx g3
 · rw [g2,if_neg g1]; exact h.app hx
theorem Pre.set {H K : AHeap} (h : Pre H K) {b : Nat} {o : AObj} (hb : H.length ≤ b) : Pre H (K.set b o) := by
 obtain ⟨X,rfl⟩ := h
 exact ⟨X.set (b - H.length) o,List.set_append_right _ _ hb⟩
theorem hcells_set {K : AHeap} {b b' : Nat} {o : AObj} (h : b ≠ b') : hcells (K.set b o) b' = hcells K b' := by unfold hcells; rw [List.getElem?_set_ne h]
theorem Arr.set {K z v l} (h : Arr K z v l) {b : Nat} {o : AObj} (hm : hcells K b = none) : Arr (K.set b o) z v l := by
 cases h with
 | nil => exact .nil
 | mk b' o' m n c cs l hn hcs hm' hle hel =>
   refine .mk b' o' m n c cs l hn ?_ hm' hle hel
   rw [hcells_set]
   · exact hcs
   · rintro rfl; rw [hm] at hcs; cases hcs
theorem hcells_map {K : AHeap} {b : Nat} {es} (h : K[b]? = some (.map es)) : hcells K b = none := by simp [hcells,h]
theorem get_set {K : AHeap} {b : Nat} {o x : AObj} (h : K[b]? = some x) : (K.set b o)[b]? = some o := List.getElem?_set_self (List.getElem?_eq_some_iff.1 h).1
theorem arr1_new {H : AHeap} {T : TypeId} (l : List Value) (X : AHeap) : Arr (H ++ .cells l T :: X) 1 (.slice (some ⟨H.length,0,some l.length⟩) l.length l.length) (l.map fun v => [v]) := by
 refine .mk _ _ _ _ _ l _ (by simp) (by simp) rfl (by omega) fun i e he => ?_
 rw [List.getElem?_map] at he
 cases hi : l[i]? with
 | none => simp [hi] at he
 | some x =>
   simp [hi] at he
   subst he
   obtain ⟨h1,h2⟩ := List.getElem?_eq_some_iff.1 hi
   rw [Nat.mul_one,Nat.zero_add,List.drop_eq_getElem_cons h1,h2]
   rfl
theorem bndG_t {H : AHeap} {e q : QH} (v : Value) (H' : AHeap) (h : e.f v H') (k : q.f v H') : @bndG (.bool true) true H e q := ⟨v,H',by simpa [gifp] using h,k⟩
def flat : Value → Bool
 | .tuple cs => cs.toList.all clos
 | v => clos v
theorem VRel.flat_eq {s : Ren} {H : AHeap} {v v' : Value} (h : VRel s H v v') (hv : flat v = true) : v' = v := by
 have h0 := h
 cases h with
 | tuple a a' hs h =>
   simp only [flat,List.all_eq_true] at hv
   congr 1
   apply Array.ext hs.symm
   intro i h1 h2
   exact (h i _ _ (Array.getElem?_eq_getElem h2) (Array.getElem?_eq_getElem h1)).clos_eq (hv _ (by simp))
 | lit v h => rfl
 | _ => exact h0.clos_eq (by simpa [flat] using hv)
theorem flat_rel {v : Value} (h : flat v = true) (s : Ren) (H : AHeap) : VRel s H v v := by
 cases v with
 | tuple cs =>
   simp only [flat,List.all_eq_true] at h
   refine .tuple _ _ rfl fun i x y hx hy => ?_
   rw [hx] at hy; cases hy
   exact clos_rel (h x (by have := Array.mem_of_getElem? hx; simpa using this)) s H
 | _ => exact clos_rel (by simpa [flat] using h) s H
theorem ACalls.trimF {f args H v X} (h : ACalls P f args H v (H ++ X)) (hc : flat v = true) : ACalls P f args H v H := by
 intro w0 s w args' hw ha
 have key : ∀ e w',AEnd w0 s H v (H ++ X) e w' → AEnd w0 s H v H e w' := by
  rintro e w' ⟨s',v',rfl,g1,g2,g3⟩
  exact ⟨s,v',rfl,hw.forget g1 g2,Ext.refl _ _,by rw [g3.flat_eq hc]; exact flat_rel hc s H⟩
 rcases h w0 s w args' hw ha with ⟨h1,h2⟩ | ⟨v',w',h1,h2⟩
 · exact .inl ⟨h1,h2.mono key⟩
 · exact .inr ⟨v',w',h1,key _ _ h2⟩
theorem acallsT_pure (hm : P.follows .mixedOrders = true) {f fn args H v} (hf : P.funcs[f]? = some fn) (hn : notNG fn = true) (hc : flat v = true) (hr : kbody P fn args H fun u H2 => u = v ∧ ∃ X,H2 = H ++ X) : ACalls P f args H v H := by
 obtain ⟨v',H',⟨rfl,X,rfl⟩,h⟩ := acalls_ex hm hf hn hr
 exact h.trimF hc
end Go.Vi
namespace Go.Vi
open Go Go.RowKit Go.ChangeShapes Go.WideShapes
variable {P : Program}
def partsOf (P : Program) (t : TypeId) : Option (List (TypeId × Nat)) := match P.underlying t with
 | some (.struct fs) => some (fs.toList.map fun x => (x.type,x.offset))
 | some (.array n e) => some ((List.range n).map fun i => (e,i * P.cellsOf e))
 | _ => none
def tile (P : Program) : List (TypeId × Nat) → Nat → Nat → Bool
 | [],p,L => p == L
 | (t,o) :: r,p,L => o == p && tile P r (p + P.cellsOf t) L
def simT (P : Program) : Nat → TypeId → Bool
 | 0,_ => false
 | f + 1, t => match P.underlying t with
   | some .bool | some (.int _) | some .string => true
   | some (.slice e) => decide (0 < P.cellsOf e) && simT P f e
   | _ => match partsOf P t with
     | some ps => tile P ps 0 (P.cellsOf t) && ps.all fun x => simT P f x.1
     | none => false
def Rd0 (P : Program) (H : AHeap) : Nat → TypeId → List Value → Prop
 | 0,_,_ => False
 | f + 1, t, cs => match P.underlying t with
   | some .bool => ∃ b,cs = [.bool b]
   | some (.int k) => ∃ n,cs = [.int k n] ∧ (Lit.int k n).wf = true
   | some .string => ∃ s,cs = [.string s] ∧ s.size ≤ maxLen
   | some (.slice e) => ∃ v l,cs = [v] ∧ Arr H (P.cellsOf e) v l ∧ l.length ≤ maxLen ∧ ∀ x ∈ l,Rd0 P H f e x
   | _ => ∃ ps,partsOf P t = some ps ∧ cs.length = P.cellsOf t ∧ ∀ x ∈ ps,Rd0 P H f x.1 ((cs.drop x.2).take (P.cellsOf x.1))
theorem Rd0.more {H X : AHeap} : ∀ {f t cs},Rd0 P H f t cs → Rd0 P (H ++ X) f t cs := by
 intro f
 induction f with
 | zero => intro t cs h; exact h
 | succ f ih =>
   intro t cs h
   simp only [Rd0] at h ⊢
   cases hu : P.underlying t with
   | none => simp only [hu] at h ⊢; obtain ⟨ps,h1,h2,h3⟩ := h; exact ⟨ps,h1,h2,fun x hx => ih (h3 x hx)⟩
   | some d =>
     cases d with
     | slice e =>
       simp only [hu] at h ⊢
       obtain ⟨v,l,h1,h2,h3,h4⟩ := h
       exact ⟨v,l,h1,h2.pre (.app _ _),h3,fun x hx => ih (h4 x hx)⟩
     | _ => simp only [hu] at h ⊢; first | exact h | (obtain ⟨ps,h1,h2,h3⟩ := h; exact ⟨ps,h1,h2,fun x hx => ih (h3 x hx)⟩)
def NoOwn (H : AHeap) : Prop := ∀ (b : Nat) o,H[b]? = some o → o.owned = false
theorem NoOwn.nil : NoOwn [] := fun b o h => by simp at h
theorem WRel.pushRo {w0 s H w} (h : WRel w0 s H w) (hn : NoOwn H) (cs : List Value) (g j : Nat) (ho : One cs)
  (hv : ∀ (i : Nat) v,cs[i]? = some v → ∃ v',w.cell? ⟨g,j + i,none⟩ = some v' ∧ VRel s H v v') :
  WRel w0 (upd s H.length ⟨g,j,0⟩) (H ++ [.ro cs]) w ∧ NoOwn (H ++ [.ro cs]) := by
 have e := Ext.push s H (.ro cs) ⟨g,j,0⟩
 have hno : NoOwn (H ++ [.ro cs]) := by
  intro b o hb
  rcases getElem_append_old hb with ⟨_,h1⟩ | ⟨_,rfl⟩
  · exact hn b o h1
  · rfl
 refine ⟨⟨⟨fun b x hx => ?_,fun b b' o o' hb hb' _ ho1 _ => ?_⟩,h.b,h.o.push _ (by rintro _ ⟨rfl⟩; exact ho)⟩,hno⟩
 · rcases getElem_append_old hx with ⟨hb,hx'⟩ | ⟨rfl,rfl⟩
   · exact (h.h.obj b x hx').keep e (fun _ => upd_ne _ _ (by omega)) (fun _ _ => rfl)
   · intro i v hi
     obtain ⟨v',h1,h2⟩ := hv i v hi
     exact ⟨v',by rw [upd_self]; exact h1,h2.mono e⟩
 · rw [hno b o hb] at ho1; cases ho1
structure Got (P : Program) (w : World) (s : Ren) (H : AHeap) (s' : Ren) (H' : AHeap) : Prop where
 rel : WRel w s' H' w
 no : NoOwn H'
 ext : Ext s H s' H'
 pre : Pre H H'
theorem Got.trans {w s H s1 H1 s2 H2} (h : Got P w s H s1 H1) (k : Got P w s1 H1 s2 H2) : Got P w s H s2 H2 := ⟨k.rel,k.no,h.ext.trans k.ext,h.pre.trans k.pre⟩
theorem Rd0.pre {H K : AHeap} (p : Pre H K) {f t cs} (h : Rd0 P H f t cs) : Rd0 P K f t cs := by obtain ⟨X,rfl⟩ := p; exact h.more
theorem tile_le : ∀ {ps : List (TypeId × Nat)} {p L : Nat},tile P ps p L = true → p ≤ L := by
 intro ps
 induction ps with
 | nil => intro p L h; simp [tile] at h; omega
 | cons x r ih =>
   obtain ⟨t,o⟩ := x
   intro p L h
   simp only [tile,Bool.and_eq_true] at h
   have := ih h.2
   omega
section
variable {D : Type} {enc : TypeId × Value → D} {w : World} {sp : Nat → Bool} {held : Bool}
def Reads (P : Program) (enc : TypeId × Value → D) (w : World) (sp : Nat → Bool) (held : Bool) (f : Nat) (t : TypeId) : Prop :=
 ∀ (fuel : Nat) (cs : List Value) (x : DataW D × List MemPlace) (s : Ren) (H : AHeap), DataW.trod enc P w 0 sp held fuel t cs = some x → WRel w s H w → NoOwn H →
   ∃ s' H' acs,Got P w s H s' H' ∧ VRelL s' H' acs cs ∧ One acs ∧ Rd0 P H' f t acs
theorem reads_parts {f : Nat} {cs : List Value} : ∀ (ps : List (TypeId × Nat)) (p : Nat) (s : Ren) (H : AHeap),tile P ps p cs.length = true → (∀ x ∈ ps,Reads P enc w sp held f x.1) →
  (∀ x ∈ ps,∃ n y,DataW.trod enc P w 0 sp held n x.1 ((cs.drop x.2).take (P.cellsOf x.1)) = some y) → WRel w s H w → NoOwn H →
  ∃ s' H' acs,Got P w s H s' H' ∧ VRelL s' H' acs (cs.drop p) ∧ One acs ∧ ∀ x ∈ ps,p ≤ x.2 ∧ Rd0 P H' f x.1 ((acs.drop (x.2 - p)).take (P.cellsOf x.1)) := by
 intro ps
 induction ps with
 | nil =>
   intro p s H ht _ _ hw hn
   simp [tile] at ht
   refine ⟨s,H,[],⟨hw,hn,Ext.refl _ _,Pre.refl _⟩,?_,fun v hv => by simp at hv,fun x hx => by simp at hx⟩
   rw [ht,List.drop_length]; exact .nil _ _
 | cons q r ih =>
   obtain ⟨t,o⟩ := q
   intro p s H ht hr htr hw hn
   simp only [tile,Bool.and_eq_true,beq_iff_eq] at ht
   obtain ⟨rfl,ht⟩ := ht
   have hle := tile_le ht
   obtain ⟨n,y,hy⟩ := htr (t,o) (by simp)
   obtain ⟨s1,H1,a1,g1,v1,o1,r1⟩ := hr (t,o) (by simp) n _ y s H hy hw hn
   obtain ⟨s2,H2,a2,g2,v2,o2,r2⟩ := ih _ s1 H1 ht (fun x hx => hr x (by simp [hx])) (fun x hx => htr x (by simp [hx])) g1.rel g1.no
   have l1 : a1.length = P.cellsOf t := by rw [v1.1]; simp; omega
   refine ⟨s2,H2,a1 ++ a2,g1.trans g2,?_,fun v hv => ?_,fun x hx => ?_⟩
   · have : cs.drop o = (cs.drop o).take (P.cellsOf t) ++ cs.drop (o + P.cellsOf t) := by rw [← List.drop_drop,List.take_append_drop]
     rw [this]
     exact (v1.mono g2.ext).append v2
   · rcases List.mem_append.1 hv with hv | hv
     · exact o1 v hv
     · exact o2 v hv
   · rcases List.mem_cons.1 hx with rfl | hx
     · refine ⟨Nat.le_refl _,?_⟩
       simp only [Nat.sub_self,List.drop_zero]
       rw [← l1,List.take_left']
       · exact r1.pre g2.pre
       · rfl
     · obtain ⟨q1,q2⟩ := r2 x hx
       refine ⟨by omega,?_⟩
       have e : x.2 - o = a1.length + (x.2 - (o + P.cellsOf t)) := by rw [l1]; omega
       rw [e,List.drop_append]
       have : (a1.drop (a1.length + (x.2 - (o + P.cellsOf t)))) = [] := by simp
       rw [this,List.nil_append]
       simpa using q2
theorem flat_len' {z : Nat} : ∀ {l : List (List Value)},(∀ e ∈ l,e.length = z) → l.flatten.length = l.length * z := by
 intro l
 induction l with
 | nil => intro _; simp
 | cons x r ih => intro h; rw [List.flatten_cons,List.length_append,ih (fun e he => h e (by simp [he])),h x (by simp),List.length_cons,Nat.add_mul,Nat.one_mul,Nat.add_comm]
theorem flat_at' {z : Nat} : ∀ {l : List (List Value)} {i : Nat} {e : List Value},(∀ e ∈ l,e.length = z) → l[i]? = some e → (l.flatten.drop (i * z)).take z = e := by
 intro l
 induction l with
 | nil => intro i e _ h; simp at h
 | cons x r ih =>
   intro i e h hi
   have hx := h x (by simp)
   cases i with
   | zero => simp at hi; subst hi; rw [Nat.zero_mul,List.drop_zero,List.flatten_cons,List.take_left' hx]
   | succ i =>
     rw [List.flatten_cons,Nat.add_mul,Nat.one_mul,Nat.add_comm,← hx,List.drop_append,hx]
     have : x.drop (z + i * z) = [] := by simp; omega
     simp only [this,List.nil_append,Nat.add_sub_cancel_left]
     exact ih (fun e he => h e (by simp [he])) (by simpa using hi)
theorem add_at (a : Addr) (i : Nat) : (a.add i).block = a.block ∧ (a.add i).off = a.off + i := by
 unfold Addr.add; split <;> simp_all
theorem reads_row {f : Nat} {t : TypeId} {z : Nat} {a : Addr} (hr : Reads P enc w sp held f t) (_hz : P.cellsOf t = z) (_hz0 : 0 < z) {m : Nat} (hm : ∀ i,i < m → ∃ n cs y,w.cells? 0 (a.add (i * z)) z = some cs ∧ DataW.trod enc P w 0 sp held n t cs = some y) :
  ∀ (k : Nat) (s : Ren) (H : AHeap), k ≤ m → WRel w s H w → NoOwn H → ∃ (s' : Ren) (H' : AHeap) (l : List (List Value)), Got P w s H s' H' ∧ l.length = k ∧ (∀ e ∈ l, e.length = z ∧ One e ∧ Rd0 P H' f t e) ∧
    ∀ (j : Nat) v,l.flatten[j]? = some v → ∃ v',w.cell? ⟨a.block,a.off + j,none⟩ = some v' ∧ VRel s' H' v v' := by
 intro k
 induction k with
 | zero => intro s H _ hw hn; exact ⟨s,H,[],⟨hw,hn,Ext.refl _ _,Pre.refl _⟩,rfl,fun e he => by simp at he,fun j v hj => by simp at hj⟩
 | succ k ih =>
   intro s H hk hw hn
   obtain ⟨s1,H1,l,g1,hl,he,hc⟩ := ih s H (by omega) hw hn
   obtain ⟨n,cs,y,c1,c2⟩ := hm k (by omega)
   obtain ⟨s2,H2,e,g2,v2,o2,r2⟩ := hr n cs y s1 H1 c2 g1.rel g1.no
   obtain ⟨_,q2,q3⟩ := World.cells?_some c1
   have le : e.length = z := by rw [v2.1,q2]
   have hfl : l.flatten.length = k * z := by rw [flat_len' (fun e h => (he e h).1),hl]
   refine ⟨s2,H2,l ++ [e],g1.trans g2,by simp [hl],fun x hx => ?_,fun j v hj => ?_⟩
   · rcases List.mem_append.1 hx with hx | hx
     · exact ⟨(he x hx).1,(he x hx).2.1,(he x hx).2.2.pre g2.pre⟩
     · rw [List.mem_singleton] at hx; subst hx; exact ⟨le,o2,r2⟩
   · rw [List.flatten_append,List.flatten_singleton] at hj
     rcases Nat.lt_or_ge j l.flatten.length with hlt | hge
     · rw [List.getElem?_append_left hlt] at hj
       obtain ⟨v',h1,h2⟩ := hc j v hj
       exact ⟨v',h1,h2.mono g2.ext⟩
     · rw [List.getElem?_append_right hge] at hj
       obtain ⟨y',h1,h2⟩ := v2.get hj
       have hjz : j - l.flatten.length < z := by rw [← le]; exact (List.getElem?_eq_some_iff.1 hj).1
       have hcell := q3 _ hjz
       rw [h1] at hcell
       refine ⟨y',?_,h2⟩
       obtain ⟨b1,b2⟩ := add_at (a.add (k * z)) (j - l.flatten.length)
       obtain ⟨b3,b4⟩ := add_at a (k * z)
       unfold World.cell? at hcell ⊢
       rw [b1,b2,b3,b4] at hcell
       simp only
       have e1 : a.off + k * z + (j - l.flatten.length) = a.off + j := by omega
       rw [e1] at hcell
       split at hcell
       · rename_i hh
         simp only [Option.isSome_none,Bool.false_eq_true,if_false]
         split at hcell
         · cases hcell
         · exact hcell
       · cases hcell
theorem reads_of (hsp0 : ∀ b,sp b = true) : ∀ (f : Nat) (t : TypeId),simT P f t = true → Reads P enc w sp held f t := by
 intro f
 induction f with
 | zero => intro t h; simp [simT] at h
 | succ f ih =>
   intro t h fuel cs x s H htr hw hn
   have lit : ∀ v : Value,cs = [v] → isLit v = true → v.oneCell' = true → (Rd0 P H (f + 1) t cs) → ∃ s' H' acs,Got P w s H s' H' ∧ VRelL s' H' acs cs ∧ One acs ∧ Rd0 P H' (f + 1) t acs := by
    intro v hv hl ho hr
    refine ⟨s,H,cs,⟨hw,hn,Ext.refl _ _,Pre.refl _⟩,by subst hv; exact .cons (.lit _ hl) (.nil _ _),?_,hr⟩
    intro u hu; rw [hv,List.mem_singleton] at hu; rw [hu]; exact ho
   have parts : (∀ e,P.underlying t ≠ some (.slice e)) → (P.underlying t ≠ some .bool) → (∀ k,P.underlying t ≠ some (.int k)) → P.underlying t ≠ some .string →
     (∀ ps,partsOf P t = some ps → cs.length = P.cellsOf t ∧ ∀ x ∈ ps,∃ n y,DataW.trod enc P w 0 sp held n x.1 ((cs.drop x.2).take (P.cellsOf x.1)) = some y) →
     ∃ s' H' acs,Got P w s H s' H' ∧ VRelL s' H' acs cs ∧ One acs ∧ Rd0 P H' (f + 1) t acs := by
    intro n1 n2 n3 n4 hp
    have h2 : (match partsOf P t with
     | some ps => tile P ps 0 (P.cellsOf t) && ps.all fun x => simT P f x.1
     | none => false) = true := by
     cases hu : P.underlying t with
     | none => simpa only [simT,hu] using h
     | some d =>
       cases d with
       | bool => exact absurd hu n2
       | int k => exact absurd hu (n3 _)
       | string => exact absurd hu n4
       | slice e => exact absurd hu (n1 _)
       | _ => simpa only [simT,hu] using h
    · cases hps : partsOf P t with
      | none => simp [hps] at h2
      | some ps =>
        simp only [hps,Bool.and_eq_true,List.all_eq_true] at h2
        obtain ⟨p1,p2⟩ := hp ps hps
        obtain ⟨s1,H1,a1,g1,v1,o1,r1⟩ := reads_parts (f := f) (cs := cs) ps 0 s H (by rw [p1]; exact h2.1) (fun x hx => ih _ (h2.2 x hx)) p2 hw hn
        simp only [List.drop_zero,Nat.sub_zero] at v1 r1
        refine ⟨s1,H1,a1,g1,v1,o1,?_⟩
        have hfin : ∃ ps,partsOf P t = some ps ∧ a1.length = P.cellsOf t ∧ ∀ x ∈ ps,Rd0 P H1 f x.1 ((a1.drop x.2).take (P.cellsOf x.1)) := ⟨ps,hps,by rw [v1.1,p1],fun x hx => (r1 x hx).2⟩
        cases hu : P.underlying t with
        | none => simpa only [Rd0,hu] using hfin
        | some d =>
          cases d with
          | bool => exact absurd hu n2
          | int k => exact absurd hu (n3 _)
          | string => exact absurd hu n4
          | slice e => exact absurd hu (n1 _)
          | _ => simpa only [Rd0,hu] using hfin
   cases hu : P.underlying t with
   | none => simp [simT,hu,partsOf] at h
   | some d =>
     cases d with
     | bool =>
       obtain ⟨b,h1,_⟩ := DataW.trod_bool hu htr
       exact lit _ h1 rfl rfl (by simp only [Rd0,hu]; exact ⟨b,h1⟩)
     | int k =>
       obtain ⟨n,h1,_,h2⟩ := DataW.trod_int hu htr
       exact lit _ h1 rfl rfl (by simp only [Rd0,hu]; exact ⟨n,h1,h2⟩)
     | string =>
       obtain ⟨q,h1,_,h2⟩ := DataW.trod_string hu htr
       exact lit _ h1 rfl rfl (by simp only [Rd0,hu]; exact ⟨q,h1,h2⟩)
     | slice e =>
       have hs := h
       simp only [simT,hu,Bool.and_eq_true,decide_eq_true_eq] at hs
       rcases Deep.open_slice hu htr with ⟨h1,_⟩ | ⟨a,len,cap,m,n,dd,pl,h1,hb,hlc,hcm,hmm,_,hall⟩
       · exact lit _ h1 rfl rfl (by simp only [Rd0,hu]; exact ⟨_,[],h1,.nil,by simp,fun x hx => by simp at hx⟩)
       · have hlm : len ≤ m := by rw [hmm]; split <;> omega
         obtain ⟨s1,H1,l,g1,hl,he,hc⟩ := reads_row (ih e hs.2) rfl hs.1 (m := m) (fun i hi => by obtain ⟨cs',c1,c2⟩ := hall i hi; exact ⟨n,cs',_,c1,c2⟩) len s H hlm hw hn
         have hone : One l.flatten := by
          intro v hv
          obtain ⟨e',h2,h3⟩ := List.mem_flatten.1 hv
          exact (he e' h2).2.1 v h3
         have hfl : l.flatten.length = len * P.cellsOf e := by rw [flat_len' (fun e h => (he e h).1),hl]
         obtain ⟨hw2,hn2⟩ := g1.rel.pushRo g1.no l.flatten a.block a.off hone hc
         have hex := Ext.push s1 H1 (.ro l.flatten) ⟨a.block,a.off,0⟩
         have hgot : Got P w s H (upd s1 H1.length ⟨a.block,a.off,0⟩) (H1 ++ [.ro l.flatten]) := g1.trans ⟨hw2,hn2,hex,.app _ _⟩
         have harr : Arr (H1 ++ [.ro l.flatten]) (P.cellsOf e) (.slice (some ⟨H1.length,0,some (len * P.cellsOf e)⟩) len len) l := by
          refine .mk _ _ _ _ _ l.flatten _ hl.symm (by simp) hfl (by omega) fun i x hx => ?_
          rw [Nat.zero_add]
          exact flat_at' (fun e h => (he e h).1) hx
         refine ⟨_,_,[.slice (some ⟨H1.length,0,some (len * P.cellsOf e)⟩) len len],hgot,?_,?_,?_⟩
         · rw [h1]
           refine .cons (.slice _ _ _ _ _ _ _ (by simp) fun L hL => ?_) (.nil _ _)
           have : L = len * P.cellsOf e := by simp [hlen,AObj.len] at hL; rw [← hfl]; simpa using hL.symm
           refine ⟨by omega,fun _ => ⟨fun hc' => ?_,Nat.le_refl _,hlc,fun cs' T hc' => by simp at hc'⟩⟩
           rw [upd_self,Nat.add_zero]
           have hsp : a.spot = none := by
            rcases Nat.eq_zero_or_pos m with hm0 | hm0
            · rw [hmm,hsp0] at hm0; simp at hm0; omega
            · obtain ⟨cs',c1,c2⟩ := hall 0 hm0
              obtain ⟨_,q2,q3⟩ := World.cells?_some c1
              have := q3 0 hs.1
              rw [Nat.zero_mul] at this
              have e0 : (a.add 0).add 0 = a := rfl
              rw [e0,List.getElem?_eq_getElem (by rw [q2]; exact hs.1)] at this
              unfold World.cell? at this
              split at this
              · split at this
                · cases this
                · rename_i q; cases hq : a.spot with
                  | none => rfl
                  | some _ => simp [hq] at q
              · cases this
           obtain ⟨ab,ao,asp⟩ := a
           simp only at hsp; subst hsp; rfl
         · intro v hv; rw [List.mem_singleton] at hv; subst hv; rfl
         · simp only [Rd0,hu]
           exact ⟨_,l,rfl,harr,by omega,fun x hx => (he x hx).2.2.more⟩
     | struct fs =>
       obtain ⟨xs,n,_,_,h1,h2,h3⟩ := DataW.trod_struct hu htr
       refine parts (by simp [hu]) (by simp [hu]) (by simp [hu]) (by simp [hu]) fun ps hps => ⟨h1,fun x hx => ?_⟩
       simp only [partsOf,hu,Option.some.injEq] at hps
       subst hps
       obtain ⟨fd,hfd,rfl⟩ := List.mem_map.1 hx
       obtain ⟨i,hi,hfi⟩ := List.getElem_of_mem hfd
       have := h3 i fd (by rw [← hfi]; exact Array.getElem?_eq_getElem (by simpa using hi))
       rw [List.getElem?_eq_getElem (by rw [h2]; simpa using hi)] at this
       exact ⟨n,_,this⟩
     | array k e =>
       obtain ⟨xs,n,_,_,h1,h2,h3⟩ := DataW.trod_array hu htr
       refine parts (by simp [hu]) (by simp [hu]) (by simp [hu]) (by simp [hu]) fun ps hps => ⟨h1,fun x hx => ?_⟩
       simp only [partsOf,hu,Option.some.injEq] at hps
       subst hps
       obtain ⟨i,hi,rfl⟩ := List.mem_map.1 hx
       rw [List.mem_range] at hi
       have := h3 i hi
       rw [List.getElem?_eq_getElem (by omega)] at this
       exact ⟨n,_,this⟩
     | _ => simp [simT,hu,partsOf] at h
structure Rd (P : Program) (H : AHeap) (f : Nat) (t : TypeId) (cs : List Value) : Prop where
 h : Rd0 P H f t cs
theorem arg_agg (hsp0 : ∀ b,sp b = true) {f : Nat} {t : TypeId} {r : Go.Reach} {b0 : Nat} {v : Value} {d : DataW D} {ps : List MemPlace} {s : Ren} {H : AHeap} {q} (hu : partsOf P t = some q) (hs : simT P f t = true)
  (hv : Value.okWide P w r b0 t v) (hd : DataW.Trod enc P w 0 sp held t v d ps) (hw : WRel w s H w) (hn : NoOwn H) : ∃ s' H' acs,Got P w s H s' H' ∧ VRel s' H' (.agg acs.toArray) v ∧ One acs ∧ Rd P H' f t acs := by
 obtain ⟨cs,rfl⟩ : ∃ cs,v = .agg cs := by
  unfold partsOf at hu
  unfold Value.okWide at hv
  split at hu
  · rename_i q1; rw [q1] at hv; obtain ⟨cs,h,_⟩ := hv; exact ⟨cs,h⟩
  · rename_i q1; rw [q1] at hv; obtain ⟨cs,h,_⟩ := hv; exact ⟨cs,h⟩
  · cases hu
 obtain ⟨fuel,hf⟩ := hd
 obtain ⟨s',H',acs,g,v1,o1,r1⟩ := reads_of hsp0 f t hs fuel _ _ s H hf hw hn
 refine ⟨s',H',acs,g,.agg _ _ (by simpa using v1.1) fun i x y hx hy => v1.2 i x y (by simpa using hx) (by simpa [Value.cells] using hy),o1,⟨r1⟩⟩
end
section
variable {H : AHeap} {f : Nat} {t : TypeId} {cs : List Value}
theorem Rd.parts {ps} (hp : partsOf P t = some ps) (h : Rd P H (f + 1) t cs) : cs.length = P.cellsOf t ∧ ∀ x ∈ ps,Rd P H f x.1 ((cs.drop x.2).take (P.cellsOf x.1)) := by
 obtain ⟨h⟩ := h
 refine And.imp_right (fun q x hx => ⟨q x hx⟩) (?_ : cs.length = P.cellsOf t ∧ ∀ x ∈ ps,Rd0 P H f x.1 ((cs.drop x.2).take (P.cellsOf x.1)))
 have hq := hp
 unfold partsOf at hq
 split at hq
 · rename_i q; simp only [Rd0,q] at h; obtain ⟨ps',h1,h2⟩ := h; rw [hp] at h1; cases h1; exact h2
 · rename_i q; simp only [Rd0,q] at h; obtain ⟨ps',h1,h2⟩ := h; rw [hp] at h1; cases h1; exact h2
 · cases hq
theorem Rd.slice {e} (hu : P.underlying t = some (.slice e)) (h : Rd P H (f + 1) t cs) : ∃ v l,cs = [v] ∧ Arr H (P.cellsOf e) v l ∧ l.length ≤ maxLen ∧ ∀ x ∈ l,Rd P H f e x := by
 have := h.h
 simp only [Rd0,hu] at this
 obtain ⟨v,l,h1,h2,h3,h4⟩ := this
 exact ⟨v,l,h1,h2,h3,fun x hx => ⟨h4 x hx⟩⟩
theorem Rd.int {k} (hu : P.underlying t = some (.int k)) (h : Rd P H (f + 1) t cs) : ∃ n,cs = [.int k n] ∧ (Lit.int k n).wf = true := by simpa only [Rd0,hu] using h.h
theorem Rd.bool (hu : P.underlying t = some .bool) (h : Rd P H (f + 1) t cs) : ∃ b,cs = [.bool b] := by simpa only [Rd0,hu] using h.h
theorem Rd.str (hu : P.underlying t = some .string) (h : Rd P H (f + 1) t cs) : ∃ l : List UInt8,cs = [Vi.str l] ∧ l.length ≤ maxLen := by
 replace h := h.h
 simp only [Rd0,hu] at h
 obtain ⟨s,h1,h2⟩ := h
 exact ⟨s.data.toList,h1,by simpa using h2⟩
theorem Rd.byte (hu : P.underlying t = some (.int .u8)) (h : Rd P H (f + 1) t cs) : ∃ b : UInt8,cs = [byt b] := by
 obtain ⟨n,h1,h2⟩ := h.int hu
 obtain ⟨q1,q2⟩ := bounds_u8 h2
 refine ⟨UInt8.ofNat n.toNat,?_⟩
 rw [h1]
 congr 2
 simp only [UInt8.toNat_ofNat']
 omega
end
end Go.Vi
namespace Go.Vi
open Go Go.Proofs Go.Proofs.Try
@[simp] theorem tg2 : tagg prog 2 = some false := by kernel_rfl
@[simp] theorem ts2 : tsize prog 2 = some 1 := by kernel_rfl
@[simp] theorem tg3 : tagg prog 3 = some false := by kernel_rfl
@[simp] theorem ts3 : tsize prog 3 = some 1 := by kernel_rfl
@[simp] theorem tg4 : tagg prog 4 = some false := by kernel_rfl
@[simp] theorem ts4 : tsize prog 4 = some 1 := by kernel_rfl
@[simp] theorem tg5 : tagg prog 5 = some false := by kernel_rfl
@[simp] theorem ts5 : tsize prog 5 = some 1 := by kernel_rfl
@[simp] theorem tg9 : tagg prog 9 = some false := by kernel_rfl
@[simp] theorem ts9 : tsize prog 9 = some 1 := by kernel_rfl
@[simp] theorem tal9 (H : AHeap) : aAlloc prog H 9 = some (.pointer (some ⟨H.length,0,some 1⟩),H ++ [.cells [.string ⟨#[]⟩] 9]) := by kernel_rfl
@[simp] theorem tg22 : tagg prog 22 = some false := by kernel_rfl
@[simp] theorem ts22 : tsize prog 22 = some 1 := by kernel_rfl
@[simp] theorem tbs22 (H : AHeap) (n : Nat) (l : List (Nat × Value)) : aBuildSlice prog H 22 n l = bslV 50 #[.int IntKind.u8 0,.int IntKind.u8 0,.slice none 0 0,.int IntKind.i64 0,.int IntKind.u8 0,.int IntKind.i64 0,.int IntKind.i64 0,.int IntKind.i64 0] H n l := by kernel_rfl
@[simp] theorem tg23 : tagg prog 23 = some false := by kernel_rfl
@[simp] theorem ts23 : tsize prog 23 = some 1 := by kernel_rfl
@[simp] theorem tg25 : tagg prog 25 = some true := by kernel_rfl
@[simp] theorem ts25 : tsize prog 25 = some 8 := by kernel_rfl
@[simp] theorem tf25x0 : afield prog 25 0 = some (0,9) := by kernel_rfl
@[simp] theorem tf25x1 : afield prog 25 1 = some (1,9) := by kernel_rfl
@[simp] theorem tf25x2 : afield prog 25 2 = some (2,22) := by kernel_rfl
@[simp] theorem tf25x3 : afield prog 25 3 = some (3,3) := by kernel_rfl
@[simp] theorem tf25x4 : afield prog 25 4 = some (4,3) := by kernel_rfl
@[simp] theorem tf25x5 : afield prog 25 5 = some (5,3) := by kernel_rfl
@[simp] theorem tf25x6 : afield prog 25 6 = some (6,23) := by kernel_rfl
@[simp] theorem tf25x7 : afield prog 25 7 = some (7,9) := by kernel_rfl
@[simp] theorem tal25 (H : AHeap) : aAlloc prog H 25 = some (.pointer (some ⟨H.length,0,some 8⟩),H ++ [.cells [.string ⟨#[]⟩,.string ⟨#[]⟩,.slice none 0 0,.int IntKind.i64 0,.int IntKind.i64 0,.int IntKind.i64 0,.slice none 0 0,.string ⟨#[]⟩] 25]) := by kernel_rfl
@[simp] theorem ts26 : tsize prog 26 = some 7 := by kernel_rfl
@[simp] theorem tg28 : tagg prog 28 = some true := by kernel_rfl
@[simp] theorem ts28 : tsize prog 28 = some 10 := by kernel_rfl
@[simp] theorem tf28x0 : afield prog 28 0 = some (0,9) := by kernel_rfl
@[simp] theorem tf28x1 : afield prog 28 1 = some (1,26) := by kernel_rfl
@[simp] theorem tf28x2 : afield prog 28 2 = some (8,3) := by kernel_rfl
@[simp] theorem tf28x3 : afield prog 28 3 = some (9,3) := by kernel_rfl
@[simp] theorem tal28 (H : AHeap) : aAlloc prog H 28 = some (.pointer (some ⟨H.length,0,some 10⟩),H ++ [.cells [.string ⟨#[]⟩,.bool false,.bool false,.bool false,.bool false,.bool false,.bool false,.bool false,.int IntKind.i64 0,.int IntKind.i64 0] 28]) := by kernel_rfl
@[simp] theorem tg39 : tagg prog 39 = some false := by kernel_rfl
@[simp] theorem ts39 : tsize prog 39 = some 1 := by kernel_rfl
@[simp] theorem tbs39 (H : AHeap) (n : Nat) (l : List (Nat × Value)) : aBuildSlice prog H 39 n l = bslV 25 #[.string ⟨#[]⟩,.string ⟨#[]⟩,.slice none 0 0,.int IntKind.i64 0,.int IntKind.i64 0,.int IntKind.i64 0,.slice none 0 0,.string ⟨#[]⟩] H n l := by kernel_rfl
@[simp] theorem tg40 : tagg prog 40 = some false := by kernel_rfl
@[simp] theorem ts40 : tsize prog 40 = some 1 := by kernel_rfl
@[simp] theorem tg42 : tagg prog 42 = some true := by kernel_rfl
@[simp] theorem ts42 : tsize prog 42 = some 4 := by kernel_rfl
@[simp] theorem tf42x0 : afield prog 42 0 = some (0,39) := by kernel_rfl
@[simp] theorem tf42x1 : afield prog 42 1 = some (1,40) := by kernel_rfl
@[simp] theorem tf42x2 : afield prog 42 2 = some (2,3) := by kernel_rfl
@[simp] theorem tf42x3 : afield prog 42 3 = some (3,3) := by kernel_rfl
@[simp] theorem tal42 (H : AHeap) : aAlloc prog H 42 = some (.pointer (some ⟨H.length,0,some 4⟩),H ++ [.cells [.slice none 0 0,.slice none 0 0,.int IntKind.i64 0,.int IntKind.i64 0] 42]) := by kernel_rfl
@[simp] theorem tbv42 (l : List (Nat × Value)) : buildV prog 42 l = bldV #[.slice none 0 0,.slice none 0 0,.int IntKind.i64 0,.int IntKind.i64 0] [(0,1),(1,1),(2,1),(3,1)] l := by kernel_rfl
@[simp] theorem tg48 : tagg prog 48 = some false := by kernel_rfl
@[simp] theorem ts48 : tsize prog 48 = some 1 := by kernel_rfl
@[simp] theorem tbs48 (H : AHeap) (n : Nat) (l : List (Nat × Value)) : aBuildSlice prog H 48 n l = bslV 52 #[.string ⟨#[]⟩,.int IntKind.u8 0,.string ⟨#[]⟩] H n l := by kernel_rfl
@[simp] theorem tg50 : tagg prog 50 = some true := by kernel_rfl
@[simp] theorem ts50 : tsize prog 50 = some 8 := by kernel_rfl
@[simp] theorem tf50x0 : afield prog 50 0 = some (0,5) := by kernel_rfl
@[simp] theorem tf50x1 : afield prog 50 1 = some (1,5) := by kernel_rfl
@[simp] theorem tf50x2 : afield prog 50 2 = some (2,48) := by kernel_rfl
@[simp] theorem tf50x3 : afield prog 50 3 = some (3,3) := by kernel_rfl
@[simp] theorem tf50x4 : afield prog 50 4 = some (4,5) := by kernel_rfl
@[simp] theorem tf50x5 : afield prog 50 5 = some (5,2) := by kernel_rfl
@[simp] theorem tf50x6 : afield prog 50 6 = some (6,3) := by kernel_rfl
@[simp] theorem tf50x7 : afield prog 50 7 = some (7,3) := by kernel_rfl
@[simp] theorem tal50 (H : AHeap) : aAlloc prog H 50 = some (.pointer (some ⟨H.length,0,some 8⟩),H ++ [.cells [.int IntKind.u8 0,.int IntKind.u8 0,.slice none 0 0,.int IntKind.i64 0,.int IntKind.u8 0,.int IntKind.i64 0,.int IntKind.i64 0,.int IntKind.i64 0] 50]) := by kernel_rfl
@[simp] theorem tbv50 (l : List (Nat × Value)) : buildV prog 50 l = bldV #[.int IntKind.u8 0,.int IntKind.u8 0,.slice none 0 0,.int IntKind.i64 0,.int IntKind.u8 0,.int IntKind.i64 0,.int IntKind.i64 0,.int IntKind.i64 0] [(0,1),(1,1),(2,1),(3,1),(4,1),(5,1),(6,1),(7,1)] l := by kernel_rfl
@[simp] theorem tg52 : tagg prog 52 = some true := by kernel_rfl
@[simp] theorem ts52 : tsize prog 52 = some 3 := by kernel_rfl
@[simp] theorem tf52x0 : afield prog 52 0 = some (0,9) := by kernel_rfl
@[simp] theorem tf52x1 : afield prog 52 1 = some (1,5) := by kernel_rfl
@[simp] theorem tf52x2 : afield prog 52 2 = some (2,9) := by kernel_rfl
@[simp] theorem tal52 (H : AHeap) : aAlloc prog H 52 = some (.pointer (some ⟨H.length,0,some 3⟩),H ++ [.cells [.string ⟨#[]⟩,.int IntKind.u8 0,.string ⟨#[]⟩] 52]) := by kernel_rfl
@[simp] theorem tbv52 (l : List (Nat × Value)) : buildV prog 52 l = bldV #[.string ⟨#[]⟩,.int IntKind.u8 0,.string ⟨#[]⟩] [(0,1),(1,1),(2,1)] l := by kernel_rfl
@[simp] theorem tbs63 (H : AHeap) (n : Nat) (l : List (Nat × Value)) : aBuildSlice prog H 63 n l = bslV 4 #[.bool false] H n l := by kernel_rfl
@[simp] theorem tm75 : mtype prog 75 = some (TypeDesc.string,3) := by kernel_rfl
@[simp] theorem tz75 : tzero prog 3 = some (.int IntKind.i64 0) := by kernel_rfl
@[simp] theorem tbs90 (H : AHeap) (n : Nat) (l : List (Nat × Value)) : aBuildSlice prog H 90 n l = bslV 105 #[.int IntKind.u8 0,.string ⟨#[]⟩,.int IntKind.i64 0,.int IntKind.i64 0] H n l := by kernel_rfl
@[simp] theorem tm95 : mtype prog 95 = some ((TypeDesc.int IntKind.u8),99) := by kernel_rfl
@[simp] theorem tz95 : tzero prog 99 = some (.agg #[.string ⟨#[]⟩,.nilFunc]) := by kernel_rfl
@[simp] theorem ts99 : tsize prog 99 = some 2 := by kernel_rfl
@[simp] theorem tal99 (H : AHeap) : aAlloc prog H 99 = some (.pointer (some ⟨H.length,0,some 2⟩),H ++ [.cells [.string ⟨#[]⟩,.nilFunc] 99]) := by kernel_rfl
@[simp] theorem tbv99 (l : List (Nat × Value)) : buildV prog 99 l = bldV #[.string ⟨#[]⟩,.nilFunc] [(0,1),(1,1)] l := by kernel_rfl
@[simp] theorem tbs102 (H : AHeap) (n : Nat) (l : List (Nat × Value)) : aBuildSlice prog H 102 n l = bslV 5 #[.int IntKind.u8 0] H n l := by kernel_rfl
@[simp] theorem tg105 : tagg prog 105 = some true := by kernel_rfl
@[simp] theorem ts105 : tsize prog 105 = some 4 := by kernel_rfl
@[simp] theorem tf105x0 : afield prog 105 0 = some (0,5) := by kernel_rfl
@[simp] theorem tf105x1 : afield prog 105 1 = some (1,9) := by kernel_rfl
@[simp] theorem tf105x3 : afield prog 105 3 = some (3,3) := by kernel_rfl
@[simp] theorem tal105 (H : AHeap) : aAlloc prog H 105 = some (.pointer (some ⟨H.length,0,some 4⟩),H ++ [.cells [.int IntKind.u8 0,.string ⟨#[]⟩,.int IntKind.i64 0,.int IntKind.i64 0] 105]) := by kernel_rfl
@[simp] theorem tbv105 (l : List (Nat × Value)) : buildV prog 105 l = bldV #[.int IntKind.u8 0,.string ⟨#[]⟩,.int IntKind.i64 0,.int IntKind.i64 0] [(0,1),(1,1),(2,1),(3,1)] l := by kernel_rfl
end Go.Vi
namespace Go.Vi
open Go.RowKit
variable {P : Program}
def keepP (P : Program) (ops : Array Oper) (mask : Nat) (H : AHeap) : List (Nat × Oper × List Value × Value) → Prop
 | [] => True
 | (j,o,sl,v) :: r => if mask.testBit j = true then keepP P ops mask H r else gval P ops sl H o = some v ∧ keepP P ops mask H r
theorem keepP_get {ops mask H} : ∀ {ps : List (Nat × Oper × List Value × Value)},keepP P ops mask H ps → ∀ {j o sl v},(j,o,sl,v) ∈ ps → mask.testBit j = false → gval P ops sl H o = some v := by
 intro ps
 induction ps with
 | nil => intro _ j o sl v hm; cases hm
 | cons e r ih =>
   obtain ⟨j0,o0,sl0,v0⟩ := e
   intro h j o sl v hm hb
   unfold keepP at h
   rcases List.mem_cons.1 hm with he | hm
   · cases he
     rw [if_neg (by simp [hb])] at h
     exact h.1
   · split at h
     · exact ih h hm hb
     · exact ih h.2 hm hb
def kdrawK (P : Program) (ops : Array Oper) (k : List Value → AHeap → Prop) : List Oper → List DRow → Nat → List (Nat × Oper × List Value × Value) → List Value → AHeap → List AHeap → Prop
 | o :: os, r :: rs, p, ps, sl, H, hs =>
   if r.eff = true then ∃ v H',geff P ops sl H o v H' ∧ (r.bar = true ∨ (∃ X,H' = H ++ X) ∨ r.late = true ∧ keepP P ops r.mask H' ps) ∧ kdrawK P ops k os rs (p + 1) ps (aput sl o.dst v) H' (H :: hs)
   else match (H :: hs)[r.back]? with
    | some K => if freeOp o.op = true then ∃ v, gval P ops sl K o = some v ∧ kdrawK P ops k os rs (p + 1) ps (aput sl o.dst v) H hs
      else if pureOp P o.op = true then ∃ v,gval P ops sl K o = some v ∧ kdrawK P ops k os rs (p + 1) ((p,o,sl,v) :: ps) (aput sl o.dst v) H hs
      else False
    | none => False
 | [],_,_,_,sl,H,_ => k sl H
 | _,[],_,_,_,_,_ => False
theorem free_pure {o : Oper} (h : freeOp o.op = true) : pureOp P o.op = true := by
 unfold freeOp at h
 split at h <;> first | (rename_i e; rw [e]; rfl) | cases h
theorem kdrawK_trace {ops} {k : List Value → AHeap → Prop} : ∀ (os : List Oper) (rs : List DRow) (p0 : Nat) (ps : List (Nat × Oper × List Value × Value)) (sl : List Value) (H : AHeap) (hs : List AHeap) (f0 : Nat → List Value) (g0 : Nat → Value),
  kdrawK P ops k os rs p0 ps sl H hs →
  (∀ (j : Nat) (o : Oper),j < p0 → ops[j]? = some o → ¬ deff P ops j = true → ¬ freeOp o.op = true → (j,o,f0 j,g0 j) ∈ ps) →
  (∀ i,os[i]? = ops[p0 + i]?) → (∀ (i : Nat) (r : DRow),rs[i]? = some r → r.eff = true → deff P ops (p0 + i) = true) →
  ∃ (f : Nat → List Value) (g : Nat → Value) (G : Nat → AHeap) (c : Nat → Nat), (∀ j, j < p0 → f j = f0 j ∧ g j = g0 j) ∧ f p0 = sl ∧ c p0 = hs.length ∧ (∀ i X, (H :: hs)[i]? = some X → G (hs.length - i) = X) ∧
    k (f (p0 + os.length)) (G (c (p0 + os.length))) ∧ ∀ p o r,os[p]? = some o → rs[p]? = some r → RStepK P ops f g G c (p0 + p) o r := by
 intro os
 induction os with
 | nil =>
   intro rs p0 ps sl H hs f0 g0 h _ _ _
   simp only [kdrawK] at h
   have hk : ∀ i X,(H :: hs)[i]? = some X → (fun i => ((H :: hs)[hs.length - i]?).getD []) (hs.length - i) = X := by
    intro i X hX
    have := (List.getElem?_eq_some_iff.1 hX).1
    simp only [List.length_cons] at this
    have e : hs.length - (hs.length - i) = i := by omega
    show ((H :: hs)[hs.length - (hs.length - i)]?).getD [] = X
    rw [e,hX]; rfl
   refine ⟨fun j => if j < p0 then f0 j else sl,g0,fun i => ((H :: hs)[hs.length - i]?).getD [],fun _ => hs.length,fun j hj => ⟨by simp [hj],rfl⟩,by simp,rfl,hk,by simpa using h,by simp⟩
 | cons o os ih =>
   intro rs p0 ps sl H hs f0 g0 h hps hos hrs
   cases rs with
   | nil => simp [kdrawK] at h
   | cons r rs =>
     have ho0 : ops[p0]? = some o := by have := hos 0; simpa using this.symm
     have hos' : ∀ i,os[i]? = ops[p0 + 1 + i]? := fun i => by have := hos (i + 1); simp only [List.getElem?_cons_succ] at this; rw [this]; congr 1; omega
     have hrs' : ∀ (i : Nat) (r : DRow),rs[i]? = some r → r.eff = true → deff P ops (p0 + 1 + i) = true := fun i r hr he => by
      have := hrs (i + 1) r (by simpa using hr) he
      rwa [show p0 + (i + 1) = p0 + 1 + i by omega] at this
     simp only [kdrawK] at h
     split at h
     · rename_i he
       obtain ⟨v,H2,hg,hb,h⟩ := h
       obtain ⟨f,g,G,c,hfg,fp,cp,hG,fe,st⟩ := ih rs (p0 + 1) ps _ _ _ (fun j => if j < p0 then f0 j else sl) (fun j => if j < p0 then g0 j else v) h
        (fun j oj hj hoj hd hf => by
         have hne : j ≠ p0 := fun e => hd (by rw [e]; exact hrs 0 r rfl he)
         have hlt : j < p0 := by omega
         simp only [if_pos hlt]; exact hps j oj hlt hoj hd hf) hos' hrs'
       have hGH : G hs.length = H := by have := hG 1 H rfl; simpa using this
       have hGH2 : G (hs.length + 1) = H2 := by have := hG 0 H2 rfl; simpa using this
       have hf0 : f p0 = sl := by rw [(hfg p0 (by omega)).1]; simp
       have hg0 : g p0 = v := by rw [(hfg p0 (by omega)).2]; simp
       refine ⟨f,g,G,fun p => if p = p0 then hs.length else c p,fun j hj => ?_,hf0,by simp,fun i X hX => ?_,?_,fun p o' r' ho hr => ?_⟩
       · have := hfg j (by omega); simpa [hj] using this
       · have := hG (i + 1) X (by simpa using hX)
         simpa using this
       · have e1 : ¬ p0 + (os.length + 1) = p0 := by omega
         simp only [List.length_cons,e1,if_false]
         rw [show p0 + (os.length + 1) = p0 + 1 + os.length by omega]; exact fe
       · cases p with
         | zero =>
           simp at ho hr; subst ho hr
           have e1 : ¬ p0 + 1 = p0 := by omega
           show RStepK P ops f g G _ p0 o r
           refine ⟨by rw [fp,hf0,hg0],fun _ => ⟨by simp [cp],?_,?_⟩,fun q => by rw [he] at q; cases q⟩
           · simp only [eq_self,if_true]; rw [hGH,hGH2,hf0,hg0]; exact geff_step hg
           · simp only [eq_self,if_true]; rw [hGH,hGH2]
             refine hb.imp id (Or.imp id fun q => ⟨q.1,fun j o' hj hoj hd hf hm => ?_⟩)
             have hin := hps j o' hj hoj hd hf
             have h1 := hfg j (by omega)
             simp only [if_pos hj] at h1
             rw [h1.1,h1.2]
             have hpure : pureOp P o'.op = true := by
              unfold deff at hd
              simpa [hoj] using hd
             exact gval_step hpure (keepP_get q.2 hin hm)
         | succ p =>
           have k := st p o' r' (by simpa using ho) (by simpa using hr)
           have e0 : p0 + 1 + p = p0 + (p + 1) := by omega
           rw [e0] at k
           have e1 : ¬ p0 + (p + 1) = p0 := by omega
           have e2 : ¬ p0 + (p + 1) + 1 = p0 := by omega
           exact ⟨k.put,fun q => by simp only [e1,e2,if_false]; exact k.eff q,fun q => by simp only [e1,e2,if_false]; exact k.pur q⟩
     · rename_i he
       obtain ⟨K,hk,hp,v,ps',hg,hps',h⟩ : ∃ K,(H :: hs)[r.back]? = some K ∧ pureOp P o.op = true ∧ ∃ v ps',gval P ops sl K o = some v ∧ (freeOp o.op = true ∧ ps' = ps ∨ ps' = (p0,o,sl,v) :: ps) ∧ kdrawK P ops k os rs (p0 + 1) ps' (aput sl o.dst v) H hs := by
        split at h
        · rename_i K hK
          split at h
          · rename_i hp
            obtain ⟨v,hv,h⟩ := h
            exact ⟨K,hK,free_pure hp,v,ps,hv,.inl ⟨hp,rfl⟩,h⟩
          · split at h
            · rename_i hp; obtain ⟨v,hv,h⟩ := h; exact ⟨K,hK,hp,v,_,hv,.inr rfl,h⟩
            · cases h
        · cases h
       obtain ⟨f,g,G,c,hfg,fp,cp,hG,fe,st⟩ := ih rs (p0 + 1) ps' _ _ _ (fun j => if j < p0 then f0 j else sl) (fun j => if j < p0 then g0 j else v) h
        (fun j oj hj hoj hd hf => by
         by_cases hlt : j < p0
         · simp only [if_pos hlt]
           have := hps j oj hlt hoj hd hf
           rcases hps' with ⟨_,e⟩ | e
           · rw [e]; exact this
           · rw [e]; exact List.mem_cons_of_mem _ this
         · have hje : j = p0 := by omega
           subst hje
           rw [ho0] at hoj; cases hoj
           simp only [Nat.lt_irrefl,if_false]
           rcases hps' with ⟨q,_⟩ | e
           · exact absurd q hf
           · rw [e]; exact List.mem_cons_self ..) hos' hrs'
       have hf0 : f p0 = sl := by rw [(hfg p0 (by omega)).1]; simp
       have hg0 : g p0 = v := by rw [(hfg p0 (by omega)).2]; simp
       refine ⟨f,g,G,fun p => if p = p0 then hs.length else c p,fun j hj => ?_,hf0,by simp,hG,?_,fun p o' r' ho hr => ?_⟩
       · have := hfg j (by omega); simpa [hj] using this
       · have e1 : ¬ p0 + (os.length + 1) = p0 := by omega
         simp only [List.length_cons,e1,if_false]
         rw [show p0 + (os.length + 1) = p0 + 1 + os.length by omega]; exact fe
       cases p with
       | zero =>
         simp at ho hr; subst ho hr
         have e1 : ¬ p0 + 1 = p0 := by omega
         have hbk := (List.getElem?_eq_some_iff.1 hk).1
         simp only [List.length_cons] at hbk
         show RStepK P ops f g G _ p0 o r
         refine ⟨by rw [fp,hf0,hg0],fun q => absurd q he,fun _ => ⟨by simp [cp],?_,?_⟩⟩
         · simp only [eq_self,if_true]; omega
         · simp only [eq_self,if_true]; rw [hG _ _ hk,hf0,hg0]; exact gval_step hp hg
       | succ p =>
         have k := st p o' r' (by simpa using ho) (by simpa using hr)
         have e0 : p0 + 1 + p = p0 + (p + 1) := by omega
         rw [e0] at k
         have e1 : ¬ p0 + (p + 1) = p0 := by omega
         have e2 : ¬ p0 + (p + 1) + 1 = p0 := by omega
         exact ⟨k.put,fun q => by simp only [e1,e2,if_false]; exact k.eff q,fun q => by simp only [e1,e2,if_false]; exact k.pur q⟩
theorem kdrawK_any [Ctx] {w0 s H w sl a ops rs k Q} (hw : WRel w0 s H w) (ha : ARel s H sl a) (hr : drows P ops = some rs) (h : kdrawK P ops k ops.toList rs 0 [] sl H [])
  (hq : ∀ sl' H',k sl' H' → APost w0 s H Q .normal (sl',H')) : wpAnyIn FF 0 P .any ops Q ops.size (Array.replicate ops.size false) a { w with drawn := w.drawn + 1 } := by
 obtain ⟨T,hok,rfl⟩ := drows_inv hr
 clear hr
 have hs : Sound P ops T := ⟨hok⟩
 have row : ∀ p,p < ops.size → ((List.range ops.size).map (T.row P ops))[p]? = some (T.row P ops p) := by
  intro p hp; simp [hp]
 obtain ⟨f,g,G,c,_,f0,c0,hG,fe,st⟩ := kdrawK_trace _ _ 0 [] _ _ _ (fun _ => sl) (fun _ => undef) h (fun j _ hj => absurd hj (by omega)) (fun i => by simp) (fun i r hr he => by
  have hi : i < ops.size := by have := (List.getElem?_eq_some_iff.1 hr).1; simpa using this
  rw [row i hi] at hr
  cases hr
  rw [Nat.zero_add]
  cases hd : deff P ops i with
  | true => rfl
  | false => simp [DTab.row,hd] at he)
 simp only [Nat.zero_add] at fe st
 have hc : ∀ p,p ≤ ops.size → c p = T.idx.getD p 0 := by
  intro p
  induction p with
  | zero => intro _; rw [c0,hs.ends.1]; rfl
  | succ p ih =>
    intro hp
    have ho : ops[p]? = some ops[p] := Array.getElem?_eq_getElem (by omega)
    have k := st p ops[p] _ (by simp) (row p (by omega))
    by_cases he : deff P ops p = true
    · have := (k.eff (by simp [DTab.row,he])).1
      rw [this,ih (by omega),(hs.effAt ho he).2.1]
    · have := (k.pur (by simp [DTab.row,he])).1
      rw [this,ih (by omega),(hs.pureAt ho he).1]
 have hd : RRun P ops T f g G := by
  refine ⟨hs,fun p o ho => ?_⟩
  have hp := (Array.getElem?_eq_some_iff.1 ho).1
  have k := st p o _ (by simpa using ho) (row p hp)
  refine ⟨k.put,fun q => ?_,fun q => ?_⟩
  · have := k.eff q
    rw [hc p (by omega),hc (p + 1) (by omega)] at this
    exact this
  · have := k.pur q
    rw [hc p (by omega),hc (p + 1) (by omega)] at this
    exact this
 have g0 : G 0 = H := by simpa using hG 0 H rfl
 have he : c ops.toList.length = T.effs.length := by simp only [Array.length_toList]; rw [hc ops.size (Nat.le_refl _),hs.ends.2.1]
 rw [he] at fe
 simp only [Array.length_toList] at fe
 refine hd.wp (H0 := H) (s0 := s) ops.size (l := Array.replicate ops.size false) (sl := f 0) (k := 0) ?_ (by simp) (by rw [g0]; exact hw.drew) (by rw [g0,f0]; exact ha) (by rw [g0]; exact Ext.refl _ _) (fun s' a' w' g1 g2 g3 => hq _ _ fe s' a' w' g1 g2 g3)
 have nol : ∀ i,¬ isListed (Array.replicate ops.size false) i := by
  intro i
  unfold isListed
  simp [Array.getD]
 exact ⟨by simp,fun j o _ h => absurd h (nol j),rfl,fun t _ => rfl,fun i o t _ h => absurd h (nol i),fun i q _ => ⟨fun h => absurd h (nol q),fun h => by omega⟩,by omega⟩
def drawKeep (P : Program) : DrawK := fun ops k sl H => match drows P ops with
 | some rs => kdrawK P ops k ops.toList rs 0 [] sl H []
 | none => False
theorem drawKeep_sound [Ctx] (hm : P.follows .mixedOrders = true) : SoundK P (drawKeep P) := by
 intro w0 s H w sl a id ops k Q hw ha h hq
 unfold drawKeep at h
 split at h
 · rename_i rs hr; exact wpIn_region_any hm (kdrawK_any hw ha hr h hq)
 · cases h
def drawPairK (P : Program) : DrawK := fun ops k sl H => match pairOf ops with
 | some i => drawKeep P (addEdge ops i (i + 1)) k sl H ∧ drawKeep P (addEdge (swapOps ops i (i + 1)) i (i + 1)) k sl H
 | none => drawKeep P ops k sl H
theorem drawPairK_sound [Ctx] (hm : P.follows .mixedOrders = true) : SoundK P (drawPairK P) := by
 intro w0 s H w sl a id ops k Q hw ha h hq
 unfold drawPairK at h
 split at h
 · rename_i i hp
   have hp' := List.find?_some hp
   simp only [Bool.and_eq_true,Option.any_eq_true] at hp'
   obtain ⟨⟨o1,ho1,_⟩,o2,ho2,_⟩ := hp'
   have hi := (Array.getElem?_eq_some_iff.1 ho1).1
   have hj := (Array.getElem?_eq_some_iff.1 ho2).1
   have any : ∀ ops' : Array Oper,ops'.size = ops.size → drawKeep P ops' k sl H → wpAnyIn FF 0 P .any ops' Q ops.size (Array.replicate ops.size false) a { w with drawn := w.drawn + 1 } := by
    intro ops' hs hd
    unfold drawKeep at hd
    split at hd
    · rename_i rs hr
      have := kdrawK_any hw ha hr hd hq
      rwa [hs] at this
    · cases hd
   refine wp_region_valid hm fun L hv => ?_
   rcases first_of i (i + 1) L with hf | hf
   · have := wpOps_of_any L (addEdge_valid (by omega) L hv fun hm => .inr (hf hm)) (any (addEdge ops i (i + 1)) (by simp [addEdge]) h.1)
     have q := ((addEdge_alike ops i (i + 1)).ops (P := P) (Q := Q) L (a := a) (w := { w with drawn := w.drawn + 1 })).1
     rw [List.map_id] at q
     exact q this
   · have sh : Shadow ops.size i (i + 1) (Array.replicate ops.size false) (Array.replicate ops.size false) := by
      refine ⟨by simp,by simp,fun x => ?_⟩
      simp [Array.getD]
     have hv2 := sh.valid hi hj L hv
     have hv3 := addEdge_valid (i := i) (j := i + 1) (by omega) _ hv2 fun hm => by
      obtain ⟨y,hy,he⟩ := List.mem_map.1 hm
      have hyi : y = i := by
       have := swapAt_inj (i := i) (j := i + 1) (x := y) (y := i) (by rw [he]; simp [swapAt])
       exact this
      subst hyi
      obtain ⟨r,s,h1,h2⟩ := hf hy
      refine .inr ⟨r.map (swapAt y (y + 1)),s.map (swapAt y (y + 1)),by rw [h1]; simp [swapAt],fun hq => ?_⟩
      obtain ⟨z,hz,hez⟩ := List.mem_map.1 hq
      have : z = y := swapAt_inj (i := y) (j := y + 1) (by rw [hez]; simp [swapAt])
      exact h2 (this ▸ hz)
     have := wpOps_of_any _ hv3 (any _ (by simp [addEdge,swapOps_size]) h.2)
     have q := ((addEdge_alike (swapOps ops i (i + 1)) i (i + 1)).ops (P := P) (Q := Q) (L.map (swapAt i (i + 1))) (a := a) (w := { w with drawn := w.drawn + 1 })).1
     rw [List.map_id] at q
     exact ((swapOps_alike hi hj).ops L).1 (q this)
 · exact drawKeep_sound hm hw ha h hq
class QK where
 f : Value → AHeap → Prop
def bndK (b l : Bool) (H : AHeap) [e : QH] [s : QK] [q : QH] : Prop := ∃ v H',e.f v H' ∧ (b = true ∨ (∃ X,H' = H ++ X) ∨ l = true ∧ s.f v H') ∧ q.f v H'
theorem bndK_of {b : Bool} {H : AHeap} {e q : QH} {s : QK} {v : Value} {H' : AHeap} (h : e.f v H') (hs : s.f v H') (k : q.f v H') : @bndK b true H e s q := ⟨v,H',h,.inr (.inr ⟨rfl,hs⟩),k⟩
theorem bndK_ext {b l : Bool} {H : AHeap} {e q : QH} {s : QK} {v : Value} {H' : AHeap} (h : e.f v H') (hs : ∃ X,H' = H ++ X) (k : q.f v H') : @bndK b l H e s q := ⟨v,H',h,.inr (.inl hs),k⟩
theorem bndK_bar {l : Bool} {H : AHeap} {e q : QH} {s : QK} {v : Value} {H' : AHeap} (h : e.f v H') (k : q.f v H') : @bndK true l H e s q := ⟨v,H',h,.inl rfl,k⟩
end Go.Vi
namespace Go.Vi
open Go Go.Proofs Go.Proofs.Try
-- tocsin/tocsinlaw11.CheckRules
theorem d3 (a0 a1 : Value) (H : AHeap) (k : Value → AHeap → Prop) : kbody prog Try.f3 [a0,a1] H k = (@bndE (aNew H 25 a0) ⟨fun v2x1 H2 => @bndE (aNew H2 28 a1) ⟨fun v3x3 H4 => @bnd (aLoad prog H4 25 v2x1) ⟨fun v6x5 =>
 @bndC prog 5 [v6x5] H4 ⟨fun v7x6 H7 => @bnd (gif v7x6 false (aFieldAddr prog H7 28 v3x3 0) undef) ⟨fun v9x8 => @bnd (gif v7x6 false (aLoad prog H7 9 v9x8) undef) ⟨fun v10x9 => @bnd (gif v7x6 false (aLen prog H7
 9 v10x9) undef) ⟨fun v11x10 => @bnd (gif v7x6 false (aBin2 prog H7 .gtr 3 (.tmp 11) (.const (.int .i64 1000)) v11x10 (.int .i64 1000)) undef) ⟨fun v12x11 => @bnd (pickV v7x6 (.bool true) v12x11) ⟨fun v13x12 => @kifB v13x12
 ⟨k (.bool true) H7⟩ ⟨@bnd (aLoad prog H7 25 v2x1) ⟨fun v14x13 => @bndC prog 6 [v14x13] H7 ⟨fun v15x14 H15 => @bndE (aAlloc prog H15 25) ⟨fun v5x16 H17 => @bndS (aStore prog H17 25 v5x16 v15x14) ⟨fun _ H19 =>
 @bnd (aLoad prog H19 25 v5x16) ⟨fun v16x20 => @bndD false H19 ⟨fun v17x21 H22 => ACalls prog 7 [v16x20] H19 v17x21 H22⟩ ⟨fun v17x21 H22 => @bnd (aLoad prog H19 25 v2x1) ⟨fun v18x23 => @bndD true H22 ⟨fun v19x24 H25
 => ACalls prog 8 [v18x23] H22 v19x24 H25⟩ ⟨fun v19x24 H25 => @bnd (aBin2 prog H25 .neq 3 (.tmp 17) (.tmp 19) v17x21 v19x24) ⟨fun v20x26 => @bnd (gif v20x26 false (aLoad prog H25 28 v3x3) undef) ⟨fun v22x27 => @bndD
 false H25 ⟨fun v23x28 H29 => gifp v20x26 false (ACalls prog 9 [v22x27] H25 v23x28 H29) (v23x28 = undef ∧ H29 = H25)⟩ ⟨fun v23x28 H29 => @bnd (gif v20x26 false (aLoad prog H25 28 v3x3) undef) ⟨fun v24x30 => @bndD true
 H29 ⟨fun v25x31 H32 => gifp v20x26 false (ACalls prog 10 [v24x30] H29 v25x31 H32) (v25x31 = undef ∧ H32 = H29)⟩ ⟨fun v25x31 H32 => @bnd (gif v20x26 false (aBin2 prog H32 .neq 3 (.tmp 23) (.tmp 25) v23x28 v25x31) undef)
 ⟨fun v26x33 => @bnd (pickV v20x26 (.bool true) v26x33) ⟨fun v27x34 => @kifB v27x34 ⟨k (.bool false) H32⟩ ⟨@bnd (aFieldAddr prog H32 25 v5x16 2) ⟨fun v28x35 => @bnd (aLoad prog H32 22 v28x35) ⟨fun v29x36 => @bndD false
 H32 ⟨fun v30x37 H38 => ACalls prog 11 [v29x36] H32 v30x37 H38⟩ ⟨fun v30x37 H38 => @bnd (aFieldAddr prog H32 25 v2x1 2) ⟨fun v31x39 => @bnd (aLoad prog H32 22 v31x39) ⟨fun v32x40 => @bndD true H38 ⟨fun v33x41 H42 =>
 ACalls prog 12 [v32x40] H38 v33x41 H42⟩ ⟨fun v33x41 H42 => @bnd (aBin2 prog H42 .eql 3 (.tmp 30) (.tmp 33) v30x37 v33x41) ⟨fun v34x43 => @bnd (gif v34x43 true (aLoad prog H42 25 v5x16) undef) ⟨fun v36x44 => @bnd
 (gif v34x43 true (aLoad prog H42 25 v2x1) undef) ⟨fun v37x45 => @bndD true H42 ⟨fun v38x46 H47 => gifp v34x43 true (ACalls prog 13 [v36x44,v37x45] H42 v38x46 H47) (v38x46 = undef ∧ H47 = H42)⟩ ⟨fun v38x46 H47 => @bnd
 (pickV v34x43 v38x46 (.bool false)) ⟨fun v39x48 => k v39x48 H47⟩⟩⟩⟩⟩⟩⟩⟩⟩⟩⟩⟩⟩⟩⟩⟩⟩⟩⟩⟩⟩⟩⟩⟩⟩⟩⟩⟩⟩⟩⟩⟩⟩⟩⟩⟩⟩) := by kernel_rfl
-- tocsin/tocsinlaw11.CheckConfigs
theorem d4 (a0 : Value) (H : AHeap) (k : Value → AHeap → Prop) : kbody prog Try.f4 [a0] H k = (@bndE (aNew H 42 a0) ⟨fun v1x1 H2 => @bnd (aLoad prog H2 42 v1x1) ⟨fun v4x3 => @bndC prog 14 [v4x3] H2 ⟨fun v5x4 H5 =>
 @kifB v5x4 ⟨k (.bool true) H5⟩ ⟨@bnd (aLoad prog H5 42 v1x1) ⟨fun v6x6 => @bndC prog 15 [v6x6] H5 ⟨fun v7x7 H8 => @bndE (aAlloc prog H8 42) ⟨fun v3x9 H10 => @bndS (aStore prog H10 42 v3x9 v7x7) ⟨fun _ H12 =>
 @bnd (aLoad prog H12 42 v3x9) ⟨fun v8x13 => @bndD false H12 ⟨fun v9x14 H15 => ACalls prog 16 [v8x13] H12 v9x14 H15⟩ ⟨fun v9x14 H15 => @bnd (aLoad prog H12 42 v1x1) ⟨fun v10x16 => @bndD true H15 ⟨fun v11x17 H18 =>
 ACalls prog 17 [v10x16] H15 v11x17 H18⟩ ⟨fun v11x17 H18 => @bnd (aBin2 prog H18 .eql 3 (.tmp 9) (.tmp 11) v9x14 v11x17) ⟨fun v12x19 => @bnd (gif v12x19 true (aLoad prog H18 42 v3x9) undef) ⟨fun v14x20 => @bnd (gif
 v12x19 true (aLoad prog H18 42 v1x1) undef) ⟨fun v15x21 => @bndD true H18 ⟨fun v16x22 H23 => gifp v12x19 true (ACalls prog 18 [v14x20,v15x21] H18 v16x22 H23) (v16x22 = undef ∧ H23 = H18)⟩ ⟨fun v16x22 H23 => @bnd (pickV
 v12x19 v16x22 (.bool false)) ⟨fun v17x24 => k v17x24 H23⟩⟩⟩⟩⟩⟩⟩⟩⟩⟩⟩⟩⟩⟩⟩⟩⟩) := by kernel_rfl
-- tocsin/tocsinlaw11.big
def L5x0 (n : Nat) (k : Value → AHeap → Prop) (sl : List Value) (H : AHeap) : Prop := kit prog (cl (cl (cr (cl (cr (cr (cr (cb Try.f5)))))))) n (kblk 0 (kseq prog (cr (cr (cr (cr (cb Try.f5))))) (kfin prog Try.f5 k)))
 .normal sl H
def L5x1 (n : Nat) (k : Value → AHeap → Prop) (sl : List Value) (H : AHeap) : Prop := kit prog (cl (cl (cr (cl (cr (cr (cr (cr (cb Try.f5))))))))) n (kblk 2 (kseq prog (cr (cr (cr (cr (cr (cb Try.f5)))))) (kfin prog
 Try.f5 k))) .normal sl H
def L5x2 (n : Nat) (n1 : Nat) (k : Value → AHeap → Prop) (sl : List Value) (H : AHeap) : Prop := kit prog (cl (cl (cr (cr (cl (cl (cr (cl (cl (cr (cl (cr (cr (cr (cr (cb Try.f5)))))))))))))))) n (kblk 4 (kblk 3 (kseq prog
 (cr (cr (cl (cl (cr (cl (cr (cr (cr (cr (cb Try.f5))))))))))) (kit prog (cl (cl (cr (cl (cr (cr (cr (cr (cb Try.f5))))))))) n1 (kblk 2 (kseq prog (cr (cr (cr (cr (cr (cb Try.f5)))))) (kfin prog Try.f5 k)))))))
 .normal sl H
theorem d5 (a0 : Value) (H : AHeap) (k : Value → AHeap → Prop) : kbody prog Try.f5 [a0] H k = (@bndE (aNew H 25 a0) ⟨fun v1x1 H2 => @bnd (aFieldAddr prog H2 25 v1x1 6) ⟨fun v8x3 => @bnd (aLoad prog H2 23 v8x3) ⟨fun
 v9x4 => @bnd (aLen prog H2 23 v9x4) ⟨fun v10x5 => @bnd (aBin2 prog H2 .gtr 3 (.tmp 10) (.const (.int .i64 100)) v10x5 (.int .i64 100)) ⟨fun v11x6 => @bnd (gif v11x6 false (aFieldAddr prog H2 25 v1x1 2) undef) ⟨fun
 v13x7 => @bnd (gif v11x6 false (aLoad prog H2 22 v13x7) undef) ⟨fun v14x8 => @bnd (gif v11x6 false (aLen prog H2 22 v14x8) undef) ⟨fun v15x9 => @bnd (gif v11x6 false (aBin2 prog H2 .gtr 3 (.tmp 15) (.const (.int
 .i64 100)) v15x9 (.int .i64 100)) undef) ⟨fun v16x10 => @bnd (pickV v11x6 (.bool true) v16x10) ⟨fun v17x11 => @bnd (gif v17x11 false (aFieldAddr prog H2 25 v1x1 0) undef) ⟨fun v19x12 => @bnd (gif v17x11 false (aLoad
 prog H2 9 v19x12) undef) ⟨fun v20x13 => @bnd (gif v17x11 false (aLen prog H2 9 v20x13) undef) ⟨fun v21x14 => @bnd (gif v17x11 false (aBin2 prog H2 .gtr 3 (.tmp 21) (.const (.int .i64 1000)) v21x14 (.int .i64 1000))
 undef) ⟨fun v22x15 => @bnd (pickV v17x11 (.bool true) v22x15) ⟨fun v23x16 => @bnd (gif v23x16 false (aFieldAddr prog H2 25 v1x1 1) undef) ⟨fun v25x17 => @bnd (gif v23x16 false (aLoad prog H2 9 v25x17) undef) ⟨fun v26x18
 => @bnd (gif v23x16 false (aLen prog H2 9 v26x18) undef) ⟨fun v27x19 => @bnd (gif v23x16 false (aBin2 prog H2 .gtr 3 (.tmp 27) (.const (.int .i64 1000)) v27x19 (.int .i64 1000)) undef) ⟨fun v28x20 => @bnd (pickV v23x16
 (.bool true) v28x20) ⟨fun v29x21 => @bnd (gif v29x21 false (aFieldAddr prog H2 25 v1x1 7) undef) ⟨fun v31x22 => @bnd (gif v29x21 false (aLoad prog H2 9 v31x22) undef) ⟨fun v32x23 => @bnd (gif v29x21 false (aLen prog
 H2 9 v32x23) undef) ⟨fun v33x24 => @bnd (gif v29x21 false (aBin2 prog H2 .gtr 3 (.tmp 33) (.const (.int .i64 1000)) v33x24 (.int .i64 1000)) undef) ⟨fun v34x25 => @bnd (pickV v29x21 (.bool true) v34x25) ⟨fun v35x26 => @kifB
 v35x26 ⟨k (.bool true) H2⟩ ⟨@bnd (aFieldAddr prog H2 25 v1x1 0) ⟨fun v36x27 => @bnd (aLoad prog H2 9 v36x27) ⟨fun v37x28 => @bnd (aLen prog H2 9 v37x28) ⟨fun v38x29 => @bnd (aBin2 prog H2 .sub 3 (.const (.int
 .i64 5000)) (.tmp 38) (.int .i64 5000) v38x29) ⟨fun v39x30 => @bnd (aFieldAddr prog H2 25 v1x1 1) ⟨fun v40x31 => @bnd (aLoad prog H2 9 v40x31) ⟨fun v41x32 => @bnd (aLen prog H2 9 v41x32) ⟨fun v42x33 => @bnd (aBin2
 prog H2 .sub 3 (.tmp 39) (.tmp 42) v39x30 v42x33) ⟨fun v43x34 => @bnd (aFieldAddr prog H2 25 v1x1 7) ⟨fun v44x35 => @bnd (aLoad prog H2 9 v44x35) ⟨fun v45x36 => @bnd (aLen prog H2 9 v45x36) ⟨fun v46x37 => @bnd
 (aBin2 prog H2 .sub 3 (.tmp 43) (.tmp 46) v43x34 v46x37) ⟨fun v47x38 => ∃ n,L5x0 n  k [a0,v1x1,(.bool false),v47x38,(.int .i64 0),undef,undef,undef,v8x3,v9x4,v10x5,v11x6,v11x6,v13x7,v14x8,v15x9,v16x10,
 v17x11,v17x11,v19x12,v20x13,v21x14,v22x15,v23x16,v23x16,v25x17,v26x18,v27x19,v28x20,v29x21,v29x21,v31x22,v32x23,v33x24,v34x25,v35x26,v36x27,v37x28,v38x29,v39x30,v40x31,v41x32,v42x33,v43x34,v44x35,
 v45x36,v46x37,v47x38,undef,undef,undef,undef,undef,undef,undef,undef,undef,undef,undef,undef,undef,undef,undef,undef,undef,undef,undef,undef,undef,undef,undef,undef,undef,undef,undef,undef,undef,
 undef,undef,undef,undef,undef,undef,undef,undef,undef,undef,undef,undef,undef,undef,undef,undef,undef,undef,undef,undef,undef,undef,undef,undef,undef,undef,undef,undef,undef,undef,undef,undef,
 undef,undef,undef,undef,undef,undef,undef,undef,undef,undef,undef,undef,undef,undef,undef,undef,undef,undef,undef,undef,undef,undef] H2⟩⟩⟩⟩⟩⟩⟩⟩⟩⟩⟩⟩⟩⟩⟩⟩⟩⟩⟩⟩⟩⟩⟩⟩⟩⟩⟩⟩⟩⟩⟩⟩⟩⟩⟩⟩⟩⟩) := by kernel_rfl
theorem L5x0q (n0 : Nat) (s0 s1 s2 s3 s4 s5 s6 s7 s8 s9 s10 s11 s12 s13 s14 s15 s16 s17 s18 s19 s20 s21 s22 s23 s24 s25 s26 s27 s28 s29 s30 s31 s32 s33 s34 s35 s36 s37 s38 s39 s40 s41 s42 s43 s44 s45 s46 s47 s48 s49 s50 s51 s52
 s53 s54 s55 s56 s57 s58 s59 s60 s61 s62 s63 s64 s65 s66 s67 s68 s69 s70 s71 s72 s73 s74 s75 s76 s77 s78 s79 s80 s81 s82 s83 s84 s85 s86 s87 s88 s89 s90 s91 s92 s93 s94 s95 s96 s97 s98 s99 s100 s101 s102 s103 s104 s105 s106 s107
 s108 s109 s110 s111 s112 s113 s114 s115 s116 s117 s118 s119 s120 s121 s122 s123 s124 s125 s126 s127 s128 s129 s130 : Value) (H : AHeap) (k : Value → AHeap → Prop) : L5x0 (n0 + 1) k [s0,s1,s2,s3,s4,s5,s6,s7,s8,s9,s10,
 s11,s12,s13,s14,s15,s16,s17,s18,s19,s20,s21,s22,s23,s24,s25,s26,s27,s28,s29,s30,s31,s32,s33,s34,s35,s36,s37,s38,s39,s40,s41,s42,s43,s44,s45,s46,s47,s48,s49,s50,s51,s52,s53,s54,s55,
 s56,s57,s58,s59,s60,s61,s62,s63,s64,s65,s66,s67,s68,s69,s70,s71,s72,s73,s74,s75,s76,s77,s78,s79,s80,s81,s82,s83,s84,s85,s86,s87,s88,s89,s90,s91,s92,s93,s94,s95,s96,s97,s98,s99,s100,
 s101,s102,s103,s104,s105,s106,s107,s108,s109,s110,s111,s112,s113,s114,s115,s116,s117,s118,s119,s120,s121,s122,s123,s124,s125,s126,s127,s128,s129,s130] H = (@bnd (aFieldAddr prog H 25 s1 6) ⟨fun
 v49x39 => @bnd (aLoad prog H 23 v49x39) ⟨fun v50x40 => @bnd (aLen prog H 23 v50x40) ⟨fun v51x41 => @bnd (aBin2 prog H .lss 3 (.tmp 48) (.tmp 51) s4 v51x41) ⟨fun v52x42 => @kifB v52x42 ⟨@bnd (aFieldAddr prog H 25
 s1 6) ⟨fun v55x43 => @bnd (aLoad prog H 23 v55x43) ⟨fun v56x44 => @bnd (aIndexAddr prog H 23 v56x44 s4) ⟨fun v58x45 => @bnd (aLoad prog H 9 v58x45) ⟨fun v59x46 => @bnd (aLen prog H 9 v59x46) ⟨fun v60x47 => @bnd
 (aBin2 prog H .gtr 3 (.tmp 60) (.tmp 61) v60x47 s3) ⟨fun v62x48 => @kifB v62x48 ⟨k (.bool true) H⟩ ⟨@bnd (aFieldAddr prog H 25 s1 6) ⟨fun v64x49 => @bnd (aLoad prog H 23 v64x49) ⟨fun v65x50 => @bnd (aIndexAddr
 prog H 23 v65x50 s4) ⟨fun v67x51 => @bnd (aLoad prog H 9 v67x51) ⟨fun v68x52 => @bnd (aLen prog H 9 v68x52) ⟨fun v69x53 => @bnd (aBin2 prog H .sub 3 (.tmp 63) (.tmp 69) s3 v69x53) ⟨fun v70x54 => @bnd (aBin2
 prog H .add 3 (.tmp 53) (.const (.int .i64 1)) s4 (.int .i64 1)) ⟨fun v54x55 => L5x0 n0  k [s0,s1,s2,v70x54,v54x55,s5,s6,s7,s8,s9,s10,s11,s12,s13,s14,s15,s16,s17,s18,s19,s20,s21,s22,s23,s24,s25,
 s26,s27,s28,s29,s30,s31,s32,s33,s34,s35,s36,s37,s38,s39,s40,s41,s42,s43,s44,s45,s46,s47,s4,v49x39,v50x40,v51x41,v52x42,s4,v54x55,v55x43,v56x44,s4,v58x45,v59x46,v60x47,s3,v62x48,s3,v64x49,
 v65x50,s4,v67x51,v68x52,v69x53,v70x54,s71,s72,s73,s74,s75,s76,s77,s78,s79,s80,s81,s82,s83,s84,s85,s86,s87,s88,s89,s90,s91,s92,s93,s94,s95,s96,s97,s98,s99,s100,s101,s102,s103,s104,s105,
 s106,s107,s108,s109,s110,s111,s112,s113,s114,s115,s116,s117,s118,s119,s120,s121,s122,s123,s124,s125,s126,s127,s128,s129,s130] H⟩⟩⟩⟩⟩⟩⟩⟩⟩⟩⟩⟩⟩⟩⟩ ⟨∃ n,L5x1 n  k [s0,s1,s2,s3,s4,(.int .i64 0),s6,s7,
 s8,s9,s10,s11,s12,s13,s14,s15,s16,s17,s18,s19,s20,s21,s22,s23,s24,s25,s26,s27,s28,s29,s30,s31,s32,s33,s34,s35,s36,s37,s38,s39,s40,s41,s42,s43,s44,s45,s46,s47,s4,v49x39,v50x40,v51x41,
 v52x42,s53,s54,s55,s56,s57,s58,s59,s60,s61,s62,s63,s64,s65,s66,s67,s68,s69,s70,s71,s72,s73,s74,s75,s76,s77,s78,s79,s80,s81,s82,s83,s84,s85,s86,s87,s88,s89,s90,s91,s92,s93,s94,s95,s96,
 s97,s98,s99,s100,s101,s102,s103,s104,s105,s106,s107,s108,s109,s110,s111,s112,s113,s114,s115,s116,s117,s118,s119,s120,s121,s122,s123,s124,s125,s126,s127,s128,s129,s130] H⟩⟩⟩⟩⟩) := by kernel_rfl
theorem L5x1q (n1 : Nat) (s0 s1 s2 s3 s4 s5 s6 s7 s8 s9 s10 s11 s12 s13 s14 s15 s16 s17 s18 s19 s20 s21 s22 s23 s24 s25 s26 s27 s28 s29 s30 s31 s32 s33 s34 s35 s36 s37 s38 s39 s40 s41 s42 s43 s44 s45 s46 s47 s48 s49 s50 s51 s52
 s53 s54 s55 s56 s57 s58 s59 s60 s61 s62 s63 s64 s65 s66 s67 s68 s69 s70 s71 s72 s73 s74 s75 s76 s77 s78 s79 s80 s81 s82 s83 s84 s85 s86 s87 s88 s89 s90 s91 s92 s93 s94 s95 s96 s97 s98 s99 s100 s101 s102 s103 s104 s105 s106 s107
 s108 s109 s110 s111 s112 s113 s114 s115 s116 s117 s118 s119 s120 s121 s122 s123 s124 s125 s126 s127 s128 s129 s130 : Value) (H : AHeap) (k : Value → AHeap → Prop) : L5x1 (n1 + 1) k [s0,s1,s2,s3,s4,s5,s6,s7,s8,s9,s10,
 s11,s12,s13,s14,s15,s16,s17,s18,s19,s20,s21,s22,s23,s24,s25,s26,s27,s28,s29,s30,s31,s32,s33,s34,s35,s36,s37,s38,s39,s40,s41,s42,s43,s44,s45,s46,s47,s48,s49,s50,s51,s52,s53,s54,s55,
 s56,s57,s58,s59,s60,s61,s62,s63,s64,s65,s66,s67,s68,s69,s70,s71,s72,s73,s74,s75,s76,s77,s78,s79,s80,s81,s82,s83,s84,s85,s86,s87,s88,s89,s90,s91,s92,s93,s94,s95,s96,s97,s98,s99,s100,
 s101,s102,s103,s104,s105,s106,s107,s108,s109,s110,s111,s112,s113,s114,s115,s116,s117,s118,s119,s120,s121,s122,s123,s124,s125,s126,s127,s128,s129,s130] H = (@bnd (aFieldAddr prog H 25 s1 2) ⟨fun
 v72x56 => @bnd (aLoad prog H 22 v72x56) ⟨fun v73x57 => @bnd (aLen prog H 22 v73x57) ⟨fun v74x58 => @bnd (aBin2 prog H .lss 3 (.tmp 71) (.tmp 74) s5 v74x58) ⟨fun v75x59 => @kifB v75x59 ⟨@bnd (aFieldAddr prog H 25
 s1 2) ⟨fun v78x60 => @bnd (aLoad prog H 22 v78x60) ⟨fun v79x61 => @bnd (aIndexAddr prog H 22 v79x61 s5) ⟨fun v81x62 => @bnd (aFieldAddr prog H 50 v81x62 2) ⟨fun v82x63 => @bnd (aLoad prog H 48 v82x63) ⟨fun
 v83x64 => @bnd (aLen prog H 48 v83x64) ⟨fun v84x65 => @bnd (aBin2 prog H .gtr 3 (.tmp 84) (.const (.int .i64 50)) v84x65 (.int .i64 50)) ⟨fun v85x66 => @kifB v85x66 ⟨k (.bool true) H⟩ ⟨∃ n,L5x2 n n1 k [s0,s1,s2,s3,
 s4,s5,(.int .i64 0),s7,s8,s9,s10,s11,s12,s13,s14,s15,s16,s17,s18,s19,s20,s21,s22,s23,s24,s25,s26,s27,s28,s29,s30,s31,s32,s33,s34,s35,s36,s37,s38,s39,s40,s41,s42,s43,s44,s45,s46,s47,
 s48,s49,s50,s51,s52,s53,s54,s55,s56,s57,s58,s59,s60,s61,s62,s63,s64,s65,s66,s67,s68,s69,s70,s5,v72x56,v73x57,v74x58,v75x59,s76,s77,v78x60,v79x61,s5,v81x62,v82x63,v83x64,v84x65,v85x66,s86,
 s87,s88,s89,s90,s91,s92,s93,s94,s95,s96,s97,s98,s99,s100,s101,s102,s103,s104,s105,s106,s107,s108,s109,s110,s111,s112,s113,s114,s115,s116,s117,s118,s119,s120,s121,s122,s123,s124,s125,s126,
 s127,s128,s129,s130] H⟩⟩⟩⟩⟩⟩⟩⟩⟩ ⟨k (.bool false) H⟩⟩⟩⟩⟩) := by kernel_rfl
theorem L5x2q (n2 : Nat) (n1 : Nat) (s0 s1 s2 s3 s4 s5 s6 s7 s8 s9 s10 s11 s12 s13 s14 s15 s16 s17 s18 s19 s20 s21 s22 s23 s24 s25 s26 s27 s28 s29 s30 s31 s32 s33 s34 s35 s36 s37 s38 s39 s40 s41 s42 s43 s44 s45 s46 s47 s48 s49
 s50 s51 s52 s53 s54 s55 s56 s57 s58 s59 s60 s61 s62 s63 s64 s65 s66 s67 s68 s69 s70 s71 s72 s73 s74 s75 s76 s77 s78 s79 s80 s81 s82 s83 s84 s85 s86 s87 s88 s89 s90 s91 s92 s93 s94 s95 s96 s97 s98 s99 s100 s101 s102 s103 s104
 s105 s106 s107 s108 s109 s110 s111 s112 s113 s114 s115 s116 s117 s118 s119 s120 s121 s122 s123 s124 s125 s126 s127 s128 s129 s130 : Value) (H : AHeap) (k : Value → AHeap → Prop) : L5x2 (n2 + 1) n1 k [s0,s1,s2,s3,s4,s5,s6,
 s7,s8,s9,s10,s11,s12,s13,s14,s15,s16,s17,s18,s19,s20,s21,s22,s23,s24,s25,s26,s27,s28,s29,s30,s31,s32,s33,s34,s35,s36,s37,s38,s39,s40,s41,s42,s43,s44,s45,s46,s47,s48,s49,s50,s51,s52,
 s53,s54,s55,s56,s57,s58,s59,s60,s61,s62,s63,s64,s65,s66,s67,s68,s69,s70,s71,s72,s73,s74,s75,s76,s77,s78,s79,s80,s81,s82,s83,s84,s85,s86,s87,s88,s89,s90,s91,s92,s93,s94,s95,s96,s97,
 s98,s99,s100,s101,s102,s103,s104,s105,s106,s107,s108,s109,s110,s111,s112,s113,s114,s115,s116,s117,s118,s119,s120,s121,s122,s123,s124,s125,s126,s127,s128,s129,s130] H = (@bnd (aFieldAddr prog
 H 25 s1 2) ⟨fun v87x67 => @bnd (aLoad prog H 22 v87x67) ⟨fun v88x68 => @bnd (aIndexAddr prog H 22 v88x68 s5) ⟨fun v90x69 => @bnd (aFieldAddr prog H 50 v90x69 2) ⟨fun v91x70 => @bnd (aLoad prog H 48 v91x70) ⟨fun
 v92x71 => @bnd (aLen prog H 48 v92x71) ⟨fun v93x72 => @bnd (aBin2 prog H .lss 3 (.tmp 86) (.tmp 93) s6 v93x72) ⟨fun v94x73 => @kifB v94x73 ⟨@bnd (aFieldAddr prog H 25 s1 2) ⟨fun v97x74 => @bnd (aLoad prog H 22
 v97x74) ⟨fun v98x75 => @bnd (aIndexAddr prog H 22 v98x75 s5) ⟨fun v100x76 => @bnd (aFieldAddr prog H 50 v100x76 2) ⟨fun v101x77 => @bnd (aLoad prog H 48 v101x77) ⟨fun v102x78 => @bnd (aIndexAddr prog H 48
 v102x78 s6) ⟨fun v104x79 => @bnd (aLoad prog H 52 v104x79) ⟨fun v105x80 => @bndE (aAlloc prog H 52) ⟨fun v7x81 H82 => @bndS (aStore prog H82 52 v7x81 v105x80) ⟨fun _ H84 => @bnd (aFieldAddr prog H84 52 v7x81 0)
 ⟨fun v106x85 => @bnd (aLoad prog H84 9 v106x85) ⟨fun v107x86 => @bnd (aLen prog H84 9 v107x86) ⟨fun v108x87 => @bnd (aBin2 prog H84 .gtr 3 (.tmp 108) (.tmp 109) v108x87 s3) ⟨fun v110x88 => @bnd (gif v110x88 false
 (aFieldAddr prog H84 52 v7x81 2) undef) ⟨fun v112x89 => @bnd (gif v110x88 false (aLoad prog H84 9 v112x89) undef) ⟨fun v113x90 => @bnd (gif v110x88 false (aLen prog H84 9 v113x90) undef) ⟨fun v114x91 => @bnd (gif
 v110x88 false ((some s3)) undef) ⟨fun v115x92 => @bnd (gif v110x88 false (aFieldAddr prog H84 52 v7x81 0) undef) ⟨fun v116x93 => @bnd (gif v110x88 false (aLoad prog H84 9 v116x93) undef) ⟨fun v117x94 => @bnd (gif
 v110x88 false (aLen prog H84 9 v117x94) undef) ⟨fun v118x95 => @bnd (gif v110x88 false (aBin2 prog H84 .sub 3 (.tmp 115) (.tmp 118) v115x92 v118x95) undef) ⟨fun v119x96 => @bnd (gif v110x88 false (aBin2 prog H84
 .gtr 3 (.tmp 114) (.tmp 119) v114x91 v119x96) undef) ⟨fun v120x97 => @bnd (pickV v110x88 (.bool true) v120x97) ⟨fun v121x98 => @kifB v121x98 ⟨k (.bool true) H84⟩ ⟨@bnd (aFieldAddr prog H84 52 v7x81 0) ⟨fun v123x99 => @bnd
 (aLoad prog H84 9 v123x99) ⟨fun v124x100 => @bnd (aLen prog H84 9 v124x100) ⟨fun v125x101 => @bnd (aBin2 prog H84 .sub 3 (.tmp 122) (.tmp 125) s3 v125x101) ⟨fun v126x102 => @bnd (aFieldAddr prog H84 52 v7x81 2)
 ⟨fun v127x103 => @bnd (aLoad prog H84 9 v127x103) ⟨fun v128x104 => @bnd (aLen prog H84 9 v128x104) ⟨fun v129x105 => @bnd (aBin2 prog H84 .sub 3 (.tmp 126) (.tmp 129) v126x102 v129x105) ⟨fun v130x106 => @bnd (aBin2
 prog H84 .add 3 (.tmp 95) (.const (.int .i64 1)) s6 (.int .i64 1)) ⟨fun v96x107 => L5x2 n2 n1 k [s0,s1,s2,v130x106,s4,s5,v96x107,v7x81,s8,s9,s10,s11,s12,s13,s14,s15,s16,s17,s18,s19,s20,s21,s22,s23,
 s24,s25,s26,s27,s28,s29,s30,s31,s32,s33,s34,s35,s36,s37,s38,s39,s40,s41,s42,s43,s44,s45,s46,s47,s48,s49,s50,s51,s52,s53,s54,s55,s56,s57,s58,s59,s60,s61,s62,s63,s64,s65,s66,s67,s68,
 s69,s70,s71,s72,s73,s74,s75,s76,s77,s78,s79,s80,s81,s82,s83,s84,s85,s6,v87x67,v88x68,s5,v90x69,v91x70,v92x71,v93x72,v94x73,s6,v96x107,v97x74,v98x75,s5,v100x76,v101x77,v102x78,s6,v104x79,
 v105x80,v106x85,v107x86,v108x87,s3,v110x88,v110x88,v112x89,v113x90,v114x91,v115x92,v116x93,v117x94,v118x95,v119x96,v120x97,v121x98,s3,v123x99,v124x100,v125x101,v126x102,v127x103,v128x104,v129x105,
 v130x106] H84⟩⟩⟩⟩⟩⟩⟩⟩⟩⟩⟩⟩⟩⟩⟩⟩⟩⟩⟩⟩⟩⟩⟩⟩⟩⟩⟩⟩⟩⟩⟩⟩⟩⟩ ⟨@bnd (aBin2 prog H .add 3 (.tmp 76) (.const (.int .i64 1)) s5 (.int .i64 1)) ⟨fun v77x108 => L5x1 n1  k [s0,s1,s2,s3,s4,v77x108,s6,s7,s8,s9,s10,s11,s12,s13,s14,
 s15,s16,s17,s18,s19,s20,s21,s22,s23,s24,s25,s26,s27,s28,s29,s30,s31,s32,s33,s34,s35,s36,s37,s38,s39,s40,s41,s42,s43,s44,s45,s46,s47,s48,s49,s50,s51,s52,s53,s54,s55,s56,s57,s58,s59,
 s60,s61,s62,s63,s64,s65,s66,s67,s68,s69,s70,s71,s72,s73,s74,s75,s5,v77x108,s78,s79,s80,s81,s82,s83,s84,s85,s6,v87x67,v88x68,s5,v90x69,v91x70,v92x71,v93x72,v94x73,s95,s96,s97,s98,s99,s100,
 s101,s102,s103,s104,s105,s106,s107,s108,s109,s110,s111,s112,s113,s114,s115,s116,s117,s118,s119,s120,s121,s122,s123,s124,s125,s126,s127,s128,s129,s130] H⟩⟩⟩⟩⟩⟩⟩⟩⟩) := by kernel_rfl
-- tocsin/tocsinref11.CopyRule
theorem d6 (a0 : Value) (H : AHeap) (k : Value → AHeap → Prop) : kbody prog Try.f6 [a0] H k = (@bndE (aNew H 25 a0) ⟨fun v1x1 H2 => @bndE (aAlloc prog H2 25) ⟨fun v2x3 H4 => @bnd (aFieldAddr prog H4 25 v1x1 2) ⟨fun
 v4x5 => @bnd (aLoad prog H4 22 v4x5) ⟨fun v5x6 => @bndC prog 19 [v5x6] H4 ⟨fun v6x7 H8 => @bnd (aFieldAddr prog H8 25 v1x1 2) ⟨fun v7x9 => @bndS (aStore prog H8 22 v7x9 v6x7) ⟨fun _ H11 => @bnd (aFieldAddr
 prog H11 25 v1x1 6) ⟨fun v9x12 => @bnd (aLoad prog H11 23 v9x12) ⟨fun v10x13 => @bndE (aBuiltin prog H11 Builtin.append #[23,23] [(.slice none 0 0),v10x13]) ⟨fun v11x14 H15 => @bnd (aFieldAddr prog H15 25 v1x1
 6) ⟨fun v13x16 => @bndS (aStore prog H15 23 v13x16 v11x14) ⟨fun _ H18 => @bnd (aLoad prog H18 25 v1x1) ⟨fun v14x19 => @bndS (aStore prog H18 25 v2x3 v14x19) ⟨fun _ H21 => ∃ r22,aLoad prog H21 25 v2x3 = some r22
 ∧ k r22 H21⟩⟩⟩⟩⟩⟩⟩⟩⟩⟩⟩⟩⟩⟩) := by kernel_rfl
-- tocsin/check.Rule
theorem d7 (a0 : Value) (H : AHeap) (k : Value → AHeap → Prop) : kbody prog Try.f7 [a0] H k = (@bndE (aNew H 25 a0) ⟨fun v1x1 H2 => @bnd (aFieldAddr prog H2 25 v1x1 0) ⟨fun v3x3 => @bnd (aLoad prog H2 9 v3x3) ⟨fun
 v4x4 => @bndD false H2 ⟨fun v5x5 H6 => ACalls prog 21 [v4x4] H2 v5x5 H6⟩ ⟨fun v5x5 H6 => @bnd (aFieldAddr prog H2 25 v1x1 1) ⟨fun v6x7 => @bnd (aLoad prog H2 9 v6x7) ⟨fun v7x8 => @bnd (aBin2 prog H2 .eql 9 (.tmp
 7) (.const (.string { data := #[] })) v7x8 (.string { data := #[] })) ⟨fun v8x9 => @bnd (gif v8x9 false (aFieldAddr prog H6 25 v1x1 1) undef) ⟨fun v10x10 => @bnd (gif v8x9 false (aLoad prog H6 9 v10x10) undef) ⟨fun
 v11x11 => @bndD false H6 ⟨fun v12x12 H13 => gifp v8x9 false (ACalls prog 21 [v11x11] H6 v12x12 H13) (v12x12 = undef ∧ H13 = H6)⟩ ⟨fun v12x12 H13 => @bnd (pickV v8x9 (.bool true) v12x12) ⟨fun v13x14 => @bnd (aFieldAddr
 prog H2 25 v1x1 7) ⟨fun v14x15 => @bnd (aLoad prog H2 9 v14x15) ⟨fun v15x16 => @bndD false H13 ⟨fun v16x17 H18 => ACalls prog 21 [v15x16] H13 v16x17 H18⟩ ⟨fun v16x17 H18 => @bnd (aFieldAddr prog H2 25 v1x1 7)
 ⟨fun v17x19 => @bnd (aLoad prog H2 9 v17x19) ⟨fun v18x20 => @bnd (aBin2 prog H2 .neq 9 (.tmp 18) (.const (.string { data := #[109,101,116,97] })) v18x20 (.string { data := #[109,101,116,97] })) ⟨fun v19x21 => @bnd
 (aFieldAddr prog H2 25 v1x1 3) ⟨fun v20x22 => @bnd (aLoad prog H2 3 v20x22) ⟨fun v21x23 => @bndD false H18 ⟨fun v22x24 H25 => ACalls prog 22 [v21x23,(.int .i64 0),(.int .i64 1000)] H18 v22x24 H25⟩ ⟨fun v22x24 H25
 => @bnd (aFieldAddr prog H2 25 v1x1 4) ⟨fun v23x26 => @bnd (aLoad prog H2 3 v23x26) ⟨fun v24x27 => @bndD false H25 ⟨fun v25x28 H29 => ACalls prog 22 [v24x27,(.int .i64 1),(.int .i64 100)] H25 v25x28 H29⟩ ⟨fun
 v25x28 H29 => @bnd (aFieldAddr prog H2 25 v1x1 5) ⟨fun v26x30 => @bnd (aLoad prog H2 3 v26x30) ⟨fun v27x31 => @bndD false H29 ⟨fun v28x32 H33 => ACalls prog 22 [v27x31,(.int .i64 1),(.int .i64 10000)] H29 v28x32
 H33⟩ ⟨fun v28x32 H33 => @bnd (aFieldAddr prog H2 25 v1x1 6) ⟨fun v29x34 => @bnd (aLoad prog H2 23 v29x34) ⟨fun v30x35 => @bnd (aLen prog H2 23 v30x35) ⟨fun v31x36 => @bnd (aBin2 prog H2 .leq 3 (.tmp 31) (.const
 (.int .i64 4)) v31x36 (.int .i64 4)) ⟨fun v32x37 => @bnd (aFieldAddr prog H2 25 v1x1 6) ⟨fun v33x38 => @bnd (aLoad prog H2 23 v33x38) ⟨fun v34x39 => @bndD false H33 ⟨fun v35x40 H41 => ACalls prog 23 [v34x39,(.func
 (.func 24) #[] #[])] H33 v35x40 H41⟩ ⟨fun v35x40 H41 => @bnd (unV prog .not v35x40) ⟨fun v36x42 => @bnd (aFieldAddr prog H2 25 v1x1 6) ⟨fun v37x43 => @bnd (aLoad prog H2 23 v37x43) ⟨fun v38x44 => @bndD false H41
 ⟨fun v39x45 H46 => ACalls prog 25 [v38x44,(.func (.func 26) #[] #[])] H41 v39x45 H46⟩ ⟨fun v39x45 H46 => @bnd (aFieldAddr prog H2 25 v1x1 2) ⟨fun v40x47 => @bnd (aLoad prog H2 22 v40x47) ⟨fun v41x48 => @bndD false
 H46 ⟨fun v42x49 H50 => ACalls prog 27 [v41x48] H46 v42x49 H50⟩ ⟨fun v42x49 H50 => @bndD true H50 ⟨fun v43x51 H52 => sliceLit prog H50 63 11 [(0,v5x5),(1,v13x14),(2,v16x17),(3,v19x21),(4,v22x24),(5,v25x28),
 (6,v28x32),(7,v32x37),(8,v36x42),(9,v39x45),(10,v42x49)] v43x51 H52⟩ ⟨fun v43x51 H52 => @bndD true H52 ⟨fun v44x53 H54 => ACalls prog 20 [v43x51] H52 v44x53 H54⟩ ⟨fun v44x53 H54 => k v44x53
 H54⟩⟩⟩⟩⟩⟩⟩⟩⟩⟩⟩⟩⟩⟩⟩⟩⟩⟩⟩⟩⟩⟩⟩⟩⟩⟩⟩⟩⟩⟩⟩⟩⟩⟩⟩⟩⟩⟩⟩⟩⟩⟩) := by kernel_rfl
-- tocsin/tocsinref11.Rule
theorem d9 (a0 : Value) (H : AHeap) (k : Value → AHeap → Prop) : kbody prog Try.f9 [a0] H k = (@bndE (aNew H 28 a0) ⟨fun v1x1 H2 => @bnd (aFieldAddr prog H2 28 v1x1 0) ⟨fun v3x3 => @bnd (aLoad prog H2 9 v3x3) ⟨fun
 v4x4 => @bndD false H2 ⟨fun v5x5 H6 => ACalls prog 21 [v4x4] H2 v5x5 H6⟩ ⟨fun v5x5 H6 => @bnd (aFieldAddr prog H2 28 v1x1 1) ⟨fun v6x7 => @bnd (aSliceOp prog H2 26 v6x7 none none) ⟨fun v7x8 => @bndD false H6 ⟨fun
 v8x9 H10 => ACalls prog 30 [v7x8,(.bool true)] H6 v8x9 H10⟩ ⟨fun v8x9 H10 => @bnd (aFieldAddr prog H2 28 v1x1 2) ⟨fun v9x11 => @bnd (aLoad prog H2 3 v9x11) ⟨fun v10x12 => @bndD false H10 ⟨fun v11x13 H14 => ACalls
 prog 22 [v10x12,(.int .i64 0),(.int .i64 1439)] H10 v11x13 H14⟩ ⟨fun v11x13 H14 => @bnd (aFieldAddr prog H2 28 v1x1 3) ⟨fun v12x15 => @bnd (aLoad prog H2 3 v12x15) ⟨fun v13x16 => @bndD false H14 ⟨fun v14x17 H18 =>
 ACalls prog 22 [v13x16,(.int .i64 1),(.int .i64 1440)] H14 v14x17 H18⟩ ⟨fun v14x17 H18 => @bnd (aFieldAddr prog H2 28 v1x1 2) ⟨fun v15x19 => @bnd (aLoad prog H2 3 v15x19) ⟨fun v16x20 => @bnd (aFieldAddr prog
 H2 28 v1x1 3) ⟨fun v17x21 => @bnd (aLoad prog H2 3 v17x21) ⟨fun v18x22 => @bnd (aBin2 prog H2 .neq 3 (.tmp 16) (.tmp 18) v16x20 v18x22) ⟨fun v19x23 => @bndD true H18 ⟨fun v20x24 H25 => sliceLit prog H18 63 5 [(0,
 v5x5),(1,v8x9),(2,v11x13),(3,v14x17),(4,v19x23)] v20x24 H25⟩ ⟨fun v20x24 H25 => @bndD true H25 ⟨fun v21x26 H27 => ACalls prog 20 [v20x24] H25 v21x26 H27⟩ ⟨fun v21x26 H27 => k v21x26 H27⟩⟩⟩⟩⟩⟩⟩⟩⟩⟩⟩⟩⟩⟩⟩⟩⟩⟩⟩⟩) := by
 kernel_rfl
-- tocsin/tocsinref11.Mute
def L13x0 (n : Nat) (k : Value → AHeap → Prop) (sl : List Value) (H : AHeap) : Prop := kit prog (cl (cl (cr (cl (cr (cr (cb Try.f13))))))) n (kblk 0 (kseq prog (cr (cr (cr (cb Try.f13)))) (kfin prog Try.f13 k)))
 .normal sl H
theorem d13 (a0 a1 : Value) (H : AHeap) (k : Value → AHeap → Prop) : kbody prog Try.f13 [a0,a1] H k = (@bndE (aNew H 25 a0) ⟨fun v2x1 H2 => @bndE (aNew H2 25 a1) ⟨fun v3x3 H4 => @bnd (aFieldAddr prog H4 25 v2x1 6) ⟨fun
 v6x5 => @bnd (aLoad prog H4 23 v6x5) ⟨fun v7x6 => @bnd (aLen prog H4 23 v7x6) ⟨fun v8x7 => @bnd (aFieldAddr prog H4 25 v3x3 6) ⟨fun v9x8 => @bnd (aLoad prog H4 23 v9x8) ⟨fun v10x9 => @bnd (aLen prog H4 23
 v10x9) ⟨fun v11x10 => @bnd (aBin2 prog H4 .neq 3 (.tmp 8) (.tmp 11) v8x7 v11x10) ⟨fun v12x11 => @kifB v12x11 ⟨k (.bool false) H4⟩ ⟨∃ n,L13x0 n  k [a0,a1,v2x1,v3x3,(.bool false),(.int .i64 0),v6x5,v7x6,v8x7,v9x8,
 v10x9,v11x10,v12x11,undef,undef,undef,undef,undef,undef,undef,undef,undef,undef,undef,undef,undef,undef,undef,undef,undef,undef,undef,undef,undef,undef,undef,undef,undef,undef,undef,undef,undef,
 undef,undef,undef,undef,undef,undef,undef,undef,undef,undef,undef,undef,undef,undef,undef,undef,undef,undef,undef,undef,undef,undef,undef,undef,undef,undef,undef,undef,undef,undef,undef,undef,
 undef,undef,undef,undef] H4⟩⟩⟩⟩⟩⟩⟩⟩⟩⟩) := by kernel_rfl
theorem L13x0q (n0 : Nat) (s0 s1 s2 s3 s4 s5 s6 s7 s8 s9 s10 s11 s12 s13 s14 s15 s16 s17 s18 s19 s20 s21 s22 s23 s24 s25 s26 s27 s28 s29 s30 s31 s32 s33 s34 s35 s36 s37 s38 s39 s40 s41 s42 s43 s44 s45 s46 s47 s48 s49 s50 s51 s52
 s53 s54 s55 s56 s57 s58 s59 s60 s61 s62 s63 s64 s65 s66 s67 s68 s69 s70 s71 s72 s73 s74 s75 s76 s77 : Value) (H : AHeap) (k : Value → AHeap → Prop) : L13x0 (n0 + 1) k [s0,s1,s2,s3,s4,s5,s6,s7,s8,s9,s10,s11,s12,s13,
 s14,s15,s16,s17,s18,s19,s20,s21,s22,s23,s24,s25,s26,s27,s28,s29,s30,s31,s32,s33,s34,s35,s36,s37,s38,s39,s40,s41,s42,s43,s44,s45,s46,s47,s48,s49,s50,s51,s52,s53,s54,s55,s56,s57,s58,
 s59,s60,s61,s62,s63,s64,s65,s66,s67,s68,s69,s70,s71,s72,s73,s74,s75,s76,s77] H = (@bnd (aFieldAddr prog H 25 s2 6) ⟨fun v14x12 => @bnd (aLoad prog H 23 v14x12) ⟨fun v15x13 => @bnd (aLen prog H 23
 v15x13) ⟨fun v16x14 => @bnd (aBin2 prog H .lss 3 (.tmp 13) (.tmp 16) s5 v16x14) ⟨fun v17x15 => @kifB v17x15 ⟨@bnd (aFieldAddr prog H 25 s2 6) ⟨fun v20x16 => @bnd (aLoad prog H 23 v20x16) ⟨fun v21x17 => @bnd
 (aIndexAddr prog H 23 v21x17 s5) ⟨fun v23x18 => @bnd (aLoad prog H 9 v23x18) ⟨fun v24x19 => @bnd (aFieldAddr prog H 25 s3 6) ⟨fun v25x20 => @bnd (aLoad prog H 23 v25x20) ⟨fun v26x21 => @bnd (aIndexAddr prog
 H 23 v26x21 s5) ⟨fun v28x22 => @bnd (aLoad prog H 9 v28x22) ⟨fun v29x23 => @bnd (aBin2 prog H .neq 9 (.tmp 24) (.tmp 29) v24x19 v29x23) ⟨fun v30x24 => @kifB v30x24 ⟨k (.bool false) H⟩ ⟨@bnd (aBin2 prog H .add 3
 (.tmp 18) (.const (.int .i64 1)) s5 (.int .i64 1)) ⟨fun v19x25 => L13x0 n0  k [s0,s1,s2,s3,s4,v19x25,s6,s7,s8,s9,s10,s11,s12,s5,v14x12,v15x13,v16x14,v17x15,s5,v19x25,v20x16,v21x17,s5,v23x18,v24x19,
 v25x20,v26x21,s5,v28x22,v29x23,v30x24,s31,s32,s33,s34,s35,s36,s37,s38,s39,s40,s41,s42,s43,s44,s45,s46,s47,s48,s49,s50,s51,s52,s53,s54,s55,s56,s57,s58,s59,s60,s61,s62,s63,s64,s65,s66,
 s67,s68,s69,s70,s71,s72,s73,s74,s75,s76,s77] H⟩⟩⟩⟩⟩⟩⟩⟩⟩⟩⟩⟩ ⟨@bnd (aFieldAddr prog H 25 s2 0) ⟨fun v31x26 => @bnd (aLoad prog H 9 v31x26) ⟨fun v32x27 => @bnd (aFieldAddr prog H 25 s3 0) ⟨fun v33x28 => @bnd
 (aLoad prog H 9 v33x28) ⟨fun v34x29 => @bnd (aBin2 prog H .eql 9 (.tmp 32) (.tmp 34) v32x27 v34x29) ⟨fun v35x30 => @bnd (gif v35x30 true (aFieldAddr prog H 25 s2 1) undef) ⟨fun v37x31 => @bnd (gif v35x30 true (aLoad
 prog H 9 v37x31) undef) ⟨fun v38x32 => @bnd (gif v35x30 true (aFieldAddr prog H 25 s3 1) undef) ⟨fun v39x33 => @bnd (gif v35x30 true (aLoad prog H 9 v39x33) undef) ⟨fun v40x34 => @bnd (gif v35x30 true (aBin2
 prog H .eql 9 (.tmp 38) (.tmp 40) v38x32 v40x34) undef) ⟨fun v41x35 => @bnd (pickV v35x30 v41x35 (.bool false)) ⟨fun v42x36 => @bnd (gif v42x36 true (aFieldAddr prog H 25 s2 2) undef) ⟨fun v44x37 => @bnd (gif v42x36
 true (aLoad prog H 22 v44x37) undef) ⟨fun v45x38 => @bnd (gif v42x36 true (aFieldAddr prog H 25 s3 2) undef) ⟨fun v46x39 => @bnd (gif v42x36 true (aLoad prog H 22 v46x39) undef) ⟨fun v47x40 => @bndG v42x36 true H
 ⟨fun v48x41 H42 => ACalls prog 32 [v45x38,v47x40] H v48x41 H42⟩ ⟨fun v48x41 H42 => @bnd (pickV v42x36 v48x41 (.bool false)) ⟨fun v49x43 => @bnd (gif v49x43 true (aFieldAddr prog H42 25 s2 3) undef) ⟨fun v51x44 => @bnd
 (gif v49x43 true (aLoad prog H42 3 v51x44) undef) ⟨fun v52x45 => @bnd (gif v49x43 true (aFieldAddr prog H42 25 s3 3) undef) ⟨fun v53x46 => @bnd (gif v49x43 true (aLoad prog H42 3 v53x46) undef) ⟨fun v54x47 => @bnd
 (gif v49x43 true (aBin2 prog H42 .eql 3 (.tmp 52) (.tmp 54) v52x45 v54x47) undef) ⟨fun v55x48 => @bnd (pickV v49x43 v55x48 (.bool false)) ⟨fun v56x49 => @bnd (gif v56x49 true (aFieldAddr prog H42 25 s2 4) undef) ⟨fun
 v58x50 => @bnd (gif v56x49 true (aLoad prog H42 3 v58x50) undef) ⟨fun v59x51 => @bnd (gif v56x49 true (aFieldAddr prog H42 25 s3 4) undef) ⟨fun v60x52 => @bnd (gif v56x49 true (aLoad prog H42 3 v60x52) undef) ⟨fun
 v61x53 => @bnd (gif v56x49 true (aBin2 prog H42 .eql 3 (.tmp 59) (.tmp 61) v59x51 v61x53) undef) ⟨fun v62x54 => @bnd (pickV v56x49 v62x54 (.bool false)) ⟨fun v63x55 => @bnd (gif v63x55 true (aFieldAddr prog H42 25 s2 5)
 undef) ⟨fun v65x56 => @bnd (gif v63x55 true (aLoad prog H42 3 v65x56) undef) ⟨fun v66x57 => @bnd (gif v63x55 true (aFieldAddr prog H42 25 s3 5) undef) ⟨fun v67x58 => @bnd (gif v63x55 true (aLoad prog H42 3 v67x58)
 undef) ⟨fun v68x59 => @bnd (gif v63x55 true (aBin2 prog H42 .eql 3 (.tmp 66) (.tmp 68) v66x57 v68x59) undef) ⟨fun v69x60 => @bnd (pickV v63x55 v69x60 (.bool false)) ⟨fun v70x61 => @bnd (gif v70x61 true (aFieldAddr prog
 H42 25 s2 7) undef) ⟨fun v72x62 => @bnd (gif v70x61 true (aLoad prog H42 9 v72x62) undef) ⟨fun v73x63 => @bnd (gif v70x61 true (aFieldAddr prog H42 25 s3 7) undef) ⟨fun v74x64 => @bnd (gif v70x61 true (aLoad prog
 H42 9 v74x64) undef) ⟨fun v75x65 => @bnd (gif v70x61 true (aBin2 prog H42 .eql 9 (.tmp 73) (.tmp 75) v73x63 v75x65) undef) ⟨fun v76x66 => @bnd (pickV v70x61 v76x66 (.bool false)) ⟨fun v77x67 => k v77x67
 H42⟩⟩⟩⟩⟩⟩⟩⟩⟩⟩⟩⟩⟩⟩⟩⟩⟩⟩⟩⟩⟩⟩⟩⟩⟩⟩⟩⟩⟩⟩⟩⟩⟩⟩⟩⟩⟩⟩⟩⟩⟩⟩⟩⟩⟩⟩) := by kernel_rfl
end Go.Vi
