/- Whether a configuration is more than is gone through: what is known of one that isn't; the mute of a name. The document's own answer of chapter 11: whether a configuration may be. CheckConfigs: the walk. -/
import Derived.Test.YtgekefehilgkeaaJCheckConfigs6
namespace Go.Vi
open Go Go.Proofs Go.Proofs.Try
structure Cfg.tame (c : Cfg) : Prop where
 small : c.small
 rules : ∀ r ∈ c.rules,r.tame
 names : ∀ m ∈ c.mutes,m.name.length ≤ 5000
section
variable {c : Cfg} {H : AHeap} {rv mv : Value} {b : Nat} {k : Value → AHeap → Prop}
theorem bcfg_x1 (hm : MutesAt H mv c.mutes) (hml : c.mutes.length ≤ 50) (hT : ∀ K,Pre H K → k (.bool true) K) (hk : (∀ m ∈ c.mutes,m.name.length ≤ 5000) → ∀ K,Pre H K → k (.bool false) K) :
  ∀ (l : List Mut) (i : Nat) (K : AHeap) (s0 s2 s3 s5 s6 s7 s8 s9 s10 s11 s12 s13 s14 s15 s16 s17 s18 s19 s20 s21 s22 s23 s24 s25 s26 s27 s28 s29 s30 s31 s32 s33 s34 s35 s36 s37 s38 s39 s40 s41 s42 : Value), c.mutes.drop i = l → i ≤ c.mutes.length → (∀ m ∈ c.mutes.take i, m.name.length ≤ 5000) → Pre H K → hcells K b = some (c.cells rv mv) →
    L14x1 (l.length + 1) k [s0,.pointer (some ⟨b,0,some 4⟩),s2,s3,i64 i,s5,s6,s7,s8,s9,s10,s11,s12,s13,s14,s15,s16,s17,s18,s19,s20,s21,s22,s23,s24,s25,s26,s27,s28,s29,s30,s31,s32,s33,s34,s35,s36,s37,s38,s39,s40,s41,s42] K := by
 intro l
 induction l with
 | nil =>
   intro i K s0 s2 s3 s5 s6 s7 s8 s9 s10 s11 s12 s13 s14 s15 s16 s17 s18 s19 s20 s21 s22 s23 s24 s25 s26 s27 s28 s29 s30 s31 s32 s33 s34 s35 s36 s37 s38 s39 s40 s41 s42 hd hi hs hp hc
   have hle : c.mutes.length ≤ i := by simpa using hd
   have hl := (hm.pre hp).lenM K
   have hl4 : Vi.hlen K b = some 4 := by rw [hcells_len hc]; rfl
   rw [List.length_nil,L14x1q]
   have : ¬ i < c.mutes.length := by omega
   rw [List.take_of_length_le hle] at hs
   simp [hc,hl4,Cfg.cells,hl,this]
   exact hk hs K hp
 | cons x l ih =>
   intro i K s0 s2 s3 s5 s6 s7 s8 s9 s10 s11 s12 s13 s14 s15 s16 s17 s18 s19 s20 s21 s22 s23 s24 s25 s26 s27 s28 s29 s30 s31 s32 s33 s34 s35 s36 s37 s38 s39 s40 s41 s42 hd hi hs hp hc
   have hb : c.mutes[i]? = some x := by rw [← List.head?_drop,hd]; rfl
   have hlt : i < c.mutes.length := (List.getElem?_eq_some_iff.1 hb).1
   have hl := (hm.pre hp).lenM K
   have hl4 : Vi.hlen K b = some 4 := by rw [hcells_len hc]; rfl
   obtain ⟨p,q,f1,f2,f3⟩ := (hm.pre hp).1.field (P := prog) (T := 40) (te := 28) (ft := 9) (f := 0) (d := 0) (i := i) (e := x.cells) (x := str x.name) (by simp) (by simp) (by simp) (by simp) (by simp) (by simp [hb]) x.hd
   rw [List.length_cons,L14x1q]
   by_cases t1 : (1000 : Int) < x.name.length
   · simp [hc,hl4,Cfg.cells,hl,hlt,f1,f2,f3,t1]
     exact hT K hp
   · simp [hc,hl4,Cfg.cells,hl,hlt,f1,f2,f3,t1,show i + 1 < 2 ^ 63 by omega]
     refine ih (i + 1) K _ _ _ _ _ _ _ _ _ _ _ _ _ _ _ _ _ _ _ _ _ _ _ _ _ _ _ _ _ _ _ _ _ _ _ _ _ _ _ _ _ (by rw [← List.drop_drop,hd]; rfl) hlt ?_ hp hc
     intro m hm'
     rw [List.take_add_one,hb] at hm'
     simp at hm'
     rcases hm' with hm' | rfl
     · exact hs m hm'
     · omega
theorem bcfg_x0 (hr : RulesAt H rv c.rules) (hw : ∀ r ∈ c.rules,∀ n ∈ r.nodes,n.window < 2 ^ 63) (hm : MutesAt H mv c.mutes) (hrl : c.rules.length ≤ 20) (hml : c.mutes.length ≤ 50) (hT : ∀ K,Pre H K → k (.bool true) K) (hk : c.tame → ∀ K,Pre H K → k (.bool false) K) :
  ∀ (l : List Rul) (i : Nat) (K : AHeap) (s0 s2 s4 s5 s6 s7 s8 s9 s10 s11 s12 s13 s14 s15 s16 s17 s18 s19 s20 s21 s22 s23 s24 s25 s26 s27 s28 s29 s30 s31 s32 s33 s34 s35 s36 s37 s38 s39 s40 s41 s42 : Value), c.rules.drop i = l → i ≤ c.rules.length → (∀ r ∈ c.rules.take i, r.small ∧ r.tame) → Pre H K → hcells K b = some (c.cells rv mv) →
    L14x0 (l.length + 1) k [s0,.pointer (some ⟨b,0,some 4⟩),s2,i64 i,s4,s5,s6,s7,s8,s9,s10,s11,s12,s13,s14,s15,s16,s17,s18,s19,s20,s21,s22,s23,s24,s25,s26,s27,s28,s29,s30,s31,s32,s33,s34,s35,s36,s37,s38,s39,s40,s41,s42] K := by
 intro l
 induction l with
 | nil =>
   intro i K s0 s2 s4 s5 s6 s7 s8 s9 s10 s11 s12 s13 s14 s15 s16 s17 s18 s19 s20 s21 s22 s23 s24 s25 s26 s27 s28 s29 s30 s31 s32 s33 s34 s35 s36 s37 s38 s39 s40 s41 s42 hd hi hs hp hc
   have hle : c.rules.length ≤ i := by simpa using hd
   have hl := (hr.pre hp).lenR K
   have hl4 : Vi.hlen K b = some 4 := by rw [hcells_len hc]; rfl
   rw [List.length_nil,L14x0q]
   have : ¬ i < c.rules.length := by omega
   rw [List.take_of_length_le hle] at hs
   simp [hc,hl4,Cfg.cells,hl,this]
   exact ⟨c.mutes.length + 1,bcfg_x1 (H := H) (c := c) (rv := rv) (mv := mv) (b := b) hm hml hT (fun hnm => hk ⟨⟨hrl,hml,fun r hr => (hs r hr).1⟩,fun r hr => (hs r hr).2,hnm⟩) c.mutes 0 K _ _ _ _ _ _ _ _ _ _ _ _ _ _ _ _ _ _ _ _ _ _ _ _ _ _ _ _ _ _ _ _ _ _ _ _ _ _ _ _ _ rfl (by omega) (by simp) hp hc⟩
 | cons x l ih =>
   intro i K s0 s2 s4 s5 s6 s7 s8 s9 s10 s11 s12 s13 s14 s15 s16 s17 s18 s19 s20 s21 s22 s23 s24 s25 s26 s27 s28 s29 s30 s31 s32 s33 s34 s35 s36 s37 s38 s39 s40 s41 s42 hd hi hs hp hc
   have hb : c.rules[i]? = some x := by rw [← List.head?_drop,hd]; rfl
   have hlt : i < c.rules.length := (List.getElem?_eq_some_iff.1 hb).1
   have hl := (hr.pre hp).lenR K
   have hl4 : Vi.hlen K b = some 4 := by rw [hcells_len hc]; rfl
   obtain ⟨cl,ha,hcl,hcc⟩ := hr.pre hp
   obtain ⟨nv,xv,hx,hn,hxm,hxl⟩ := hcc _ _ hb
   obtain ⟨q,hp1,hp2⟩ := ha.load (P := prog) (T := 39) (te := 25) (i := i) (e := x.cells nv xv) (by simp) (by simp) (by simp) hx
   rw [List.length_cons,L14x0q]
   simp [hc,hl4,Cfg.cells,hl,hlt,hp1,hp2]
   obtain ⟨t,ht,hcall⟩ := c_bbig (r := x) hn hxm (hw x (List.mem_of_getElem? hb))
   refine bndC_of hcall ?_
   cases t with
   | true =>
     simp
     exact hT K hp
   | false =>
     simp [show i + 1 < 2 ^ 63 by omega]
     refine ih (i + 1) K _ _ _ _ _ _ _ _ _ _ _ _ _ _ _ _ _ _ _ _ _ _ _ _ _ _ _ _ _ _ _ _ _ _ _ _ _ _ _ _ _ (by rw [← List.drop_drop,hd]; rfl) hlt ?_ hp hc
     intro r hrm
     rw [List.take_add_one,hb] at hrm
     simp at hrm
     rcases hrm with hrm | rfl
     · exact hs r hrm
     · exact ht rfl
theorem c_BBig (hr : RulesAt H rv c.rules) (hw : ∀ r ∈ c.rules,∀ n ∈ r.nodes,n.window < 2 ^ 63) (hm : MutesAt H mv c.mutes) : ∃ b,(b = false → c.tame) ∧ ACalls prog 14 [.agg (c.cells rv mv).toArray] H (.bool b) H := by
 refine acalls_bool MixT func14 (by decide) fun k hT hk => ?_
 rw [d14]
 have h1 := hr.one
 have h2 := hm.one
 have hlr := fun X : AHeap => hr.lenR (H ++ X)
 have hlm := fun X : AHeap => hm.lenM (H ++ X)
 simp +contextual [aNew_agg,Cfg.cells,h1,h2,hlr,hlm]
 refine kifB_bool (fun h => ?_) (fun h => ?_)
 · exact hT _ (.app _ _)
 · simp at h
   refine ⟨c.rules.length + 1,?_⟩
   exact bcfg_x0 (H := H) (c := c) (rv := rv) (mv := mv) (b := H.length) hr hw hm (by omega) (by omega) hT hk c.rules 0 _ _ _ _ _ _ _ _ _ _ _ _ _ _ _ _ _ _ _ _ _ _ _ _ _ _ _ _ _ _ _ _ _ _ _ _ _ _ _ _ _ _ rfl (by omega) (by simp) (.app _ _) (by simp [Cfg.cells])
end
def findM : List Mut → Nat → List UInt8 → Int
 | [],_,_ => -1
 | m :: r,i,s => if m.name = s then i else findM r (i + 1) s
theorem findM_ge : ∀ (l : List Mut) (i : Nat) (s : List UInt8),0 ≤ findM l i s ↔ ∃ m ∈ l,m.name = s := by
 intro l
 induction l with
 | nil => intro i s; simp [findM]
 | cons m r ih =>
   intro i s
   rw [findM]
   by_cases h : m.name = s
   · rw [if_pos h]; exact ⟨fun _ => ⟨m,by simp,h⟩,fun _ => by omega⟩
   · rw [if_neg h,ih]
     constructor
     · rintro ⟨x,hx,e⟩; exact ⟨x,by simp [hx],e⟩
     · rintro ⟨x,hx,e⟩
       rcases List.mem_cons.1 hx with rfl | hx
       · exact absurd e h
       · exact ⟨x,hx,e⟩
theorem findM_at : ∀ (l : List Mut) (i o : Nat) (m : Mut),l[i]? = some m → (findM l o m.name = ((o + i : Nat) : Int) ↔ ∀ (j : Nat) x,j < i → l[j]? = some x → x.name ≠ m.name) := by
 intro l
 induction l with
 | nil => intro i o m h; simp at h
 | cons a r ih =>
   intro i o m h
   rw [findM]
   cases i with
   | zero =>
     simp at h
     subst h
     rw [if_pos rfl]
     exact ⟨fun _ j x hj => by omega,fun _ => rfl⟩
   | succ i =>
     have h' : r[i]? = some m := by simpa using h
     by_cases he : a.name = m.name
     · rw [if_pos he]
       exact ⟨fun q => by omega,fun q => absurd he (q 0 a (by omega) rfl)⟩
     · rw [if_neg he,show ((o + (i + 1) : Nat) : Int) = ((o + 1 + i : Nat) : Int) by omega,ih i (o + 1) m h']
       constructor
       · intro q j x hj hx
         cases j with
         | zero => simp at hx; subst hx; exact he
         | succ j => exact q j x (by omega) (by simpa using hx)
       · intro q j x hj hx
         exact q (j + 1) x (by omega) (by simpa using hx)
theorem find_loop {H : AHeap} {v : Value} {ms : List Mut} {s : List UInt8} {k : Value → AHeap → Prop} (hm : MutesAt H v ms) (hl : ms.length < 2 ^ 62) (w : Int) (hk : k (i64 w) H) :
  ∀ (r : List Mut) (i : Nat) (s2 s3 s4 s6 s7 s8 s9 s10 s11 s12 s13 s14 s15 s16 s17 s18 s19 : Value),ms.drop i = r → i ≤ ms.length → findM r i s = w → L51x0 (r.length + 1) k [v,str s,s2,s3,s4,i64 i,s6,s7,s8,s9,s10,s11,s12,s13,s14,s15,s16,s17,s18,s19] H := by
 have hlen := hm.lenM H
 intro r
 induction r with
 | nil =>
   intro i s2 s3 s4 s6 s7 s8 s9 s10 s11 s12 s13 s14 s15 s16 s17 s18 s19 hd hi hw
   have hle : ms.length ≤ i := by simpa using hd
   have : ¬ i < ms.length := by omega
   rw [List.length_nil,L51x0q]
   rw [findM] at hw
   subst hw
   simp [hlen,this]
   exact hk
 | cons m r ih =>
   intro i s2 s3 s4 s6 s7 s8 s9 s10 s11 s12 s13 s14 s15 s16 s17 s18 s19 hd hi hw
   have hb : ms[i]? = some m := by rw [← List.head?_drop,hd]; rfl
   have hlt : i < ms.length := (List.getElem?_eq_some_iff.1 hb).1
   obtain ⟨p,q,f1,f2,f3⟩ := hm.1.field (P := prog) (T := 40) (te := 28) (ft := 9) (f := 0) (d := 0) (i := i) (e := m.cells) (x := str m.name) (by simp) (by simp) (by simp) (by simp) (by simp) (by simp [hb]) m.hd
   rw [List.length_cons,L51x0q]
   rw [findM] at hw
   by_cases he : m.name = s
   · rw [if_pos he] at hw
     subst hw
     simp [hlen,hlt,f1,f2,f3,he]
     exact hk
   · rw [if_neg he] at hw
     simp [hlen,hlt,f1,f2,f3,he,show i + 1 < 2 ^ 63 by omega]
     exact ih (i + 1) _ _ _ _ _ _ _ _ _ _ _ _ _ _ _ _ _ (by rw [← List.drop_drop,hd]; rfl) hlt hw
theorem r_find {H : AHeap} {v : Value} {ms : List Mut} (s : List UInt8) (hm : MutesAt H v ms) (hl : ms.length < 2 ^ 62) : ACalls prog 51 [v,str s] H (i64 (findM ms 0 s)) H := by
 refine acalls_pure MixT func51 (by decide) rfl ?_
 rw [d51]
 exact ⟨ms.length + 1,find_loop hm hl (findM ms 0 s) ⟨rfl,[],by simp⟩ ms 0 _ _ _ _ _ _ _ _ _ _ _ _ _ _ _ _ _ rfl (by omega) rfl⟩
end Go.Vi
namespace Go.Vi
open Go Go.Proofs Go.Proofs.Try
section
variable {c : Cfg} {H : AHeap} {rv mv : Value} {b : Nat} {k : Value → AHeap → Prop}
theorem rule_at (hr : RulesAt H rv c.rules) {i : Nat} {r : Rul} (hi : c.rules[i]? = some r) : ∃ nv xv,NodesAt H nv r.nodes ∧ Arr H 1 xv (strCells r.mutes) ∧ r.mutes.length < 2 ^ 63 ∧ ∃ p q6,aIndexAddr prog H 39 rv (i64 i) = some p ∧ aLoad prog H 25 p = some (.agg (r.cells nv xv).toArray) ∧
  (∃ q0,aFieldAddr prog H 25 p 0 = some q0 ∧ aLoad prog H 9 q0 = some (str r.name)) ∧ aFieldAddr prog H 25 p 6 = some q6 ∧ aLoad prog H 23 q6 = some xv := by
 obtain ⟨cl,ha,hcl,hcc⟩ := hr
 obtain ⟨nv,xv,hx,hn,hxm,hxl⟩ := hcc _ _ hi
 obtain ⟨p,hp1,hp2⟩ := ha.load (P := prog) (T := 39) (te := 25) (i := i) (e := r.cells nv xv) (by simp) (by simp) (by simp) hx
 obtain ⟨p0,q0,a1,a2,a3⟩ := ha.field (P := prog) (T := 39) (te := 25) (ft := 9) (f := 0) (d := 0) (x := str r.name) (by simp) (by simp) (by simp) (by simp) (by simp) hx rfl
 obtain ⟨p6,q6,b1,b2,b3⟩ := ha.field (P := prog) (T := 39) (te := 25) (ft := 23) (f := 6) (d := 6) (x := xv) (by simp) (by simp) (by simp) (by simp) (by simp) hx rfl
 rw [hp1] at a1 b1
 cases a1
 cases b1
 exact ⟨nv,xv,hn,hxm,hxl,p,q6,hp1,hp2,⟨q0,a2,a3⟩,b2,b3⟩
theorem mayc_x3 (hr : RulesAt H rv c.rules) (hm : MutesAt H mv c.mutes) (hml : c.mutes.length ≤ 4) {i n1 : Nat} {r : Rul} (hi : c.rules[i]? = some r) (hi2 : i + 1 < 2 ^ 63) (hrl : r.mutes.length < 2 ^ 62) (hc : hcells H b = some (c.cells rv mv)) (bad : ¬ c.mayB = true → k (.bool false) H)
  (hk : (∀ s ∈ r.mutes,∃ m ∈ c.mutes,m.name = s) → ∀ (s0 s2 s3 s5 s6 s7 s8 s9 s10 s11 s12 s13 s14 s15 s16 s17 s18 s19 s20 s21 s22 s23 s24 s25 s26 s27 s28 s29 s30 s31 s32 s33 s34 s35 s36 s37 s38 s39 s40 s41 s42 s43 s44 s45 s46 s47 s48 s49 s50 s51 s52 s53 s54 s55 s56 s57 s58 s59 s60 s61 s62 s63 s64 s65 s66 s67 s68 s69 s70 s71 s72 s73 s74 s75 s76 s77 s78 s79 s80 s81 s82 s83 s84 s85 s86 s87 s88 s89 s90 s91 s92 s93 s94 s95 s96 s97 s98 s99 s100 s101 s102 s103 s104 s105 s106 s107 s108 s109 s110 s111 s112 s113 s114 s115 s116 s117 s118 s119 : Value),L39x1 n1 k [s0,.pointer (some ⟨b,0,some 4⟩),s2,s3,i64 ((i + 1 : Nat) : Int),s5,s6,s7,s8,s9,s10,s11,s12,s13,s14,s15,s16,s17,s18,s19,s20,s21,s22,s23,s24,s25,s26,s27,s28,s29,s30,s31,s32,s33,s34,s35,s36,s37,s38,s39,s40,s41,s42,s43,s44,s45,s46,s47,s48,s49,s50,s51,s52,s53,s54,s55,s56,s57,s58,s59,s60,s61,s62,s63,s64,s65,s66,s67,s68,s69,s70,s71,s72,s73,s74,s75,s76,s77,s78,s79,s80,s81,s82,s83,s84,s85,s86,s87,s88,s89,s90,s91,s92,s93,s94,s95,s96,s97,s98,s99,s100,s101,s102,s103,s104,s105,s106,s107,s108,s109,s110,s111,s112,s113,s114,s115,s116,s117,s118,s119] H) :
  ∀ (d j : Nat) (s0 s2 s3 s5 s7 s8 s9 s10 s11 s12 s13 s14 s15 s16 s17 s18 s19 s20 s21 s22 s23 s24 s25 s26 s27 s28 s29 s30 s31 s32 s33 s34 s35 s36 s37 s38 s39 s40 s41 s42 s43 s44 s45 s46 s47 s48 s49 s50 s51 s52 s53 s54 s55 s56 s57 s58 s59 s60 s61 s62 s63 s64 s65 s66 s67 s68 s69 s70 s71 s72 s73 s74 s75 s76 s77 s78 s79 s80 s81 s82 s83 s84 s85 s86 s87 s88 s89 s90 s91 s92 s93 s94 s95 s96 s97 s98 s99 s100 s101 s102 s103 s104 s105 s106 s107 s108 s109 s110 s111 s112 s113 s114 s115 s116 s117 s118 s119 : Value),d + j = r.mutes.length → (∀ (l : Nat) s,l < j → r.mutes[l]? = some s → ∃ m ∈ c.mutes,m.name = s) → L39x3 (d + 1) n1 k [s0,.pointer (some ⟨b,0,some 4⟩),s2,s3,i64 i,s5,i64 j,s7,s8,s9,s10,s11,s12,s13,s14,s15,s16,s17,s18,s19,s20,s21,s22,s23,s24,s25,s26,s27,s28,s29,s30,s31,s32,s33,s34,s35,s36,s37,s38,s39,s40,s41,s42,s43,s44,s45,s46,s47,s48,s49,s50,s51,s52,s53,s54,s55,s56,s57,s58,s59,s60,s61,s62,s63,s64,s65,s66,s67,s68,s69,s70,s71,s72,s73,s74,s75,s76,s77,s78,s79,s80,s81,s82,s83,s84,s85,s86,s87,s88,s89,s90,s91,s92,s93,s94,s95,s96,s97,s98,s99,s100,s101,s102,s103,s104,s105,s106,s107,s108,s109,s110,s111,s112,s113,s114,s115,s116,s117,s118,s119] H := by
 have hl4 : Vi.hlen H b = some 4 := by rw [hcells_len hc]; rfl
 simp only [Cfg.cells] at hc
 obtain ⟨nv,xv,hn,hxm,hxl,p,q6,p1,p2,_,p3,p4⟩ := rule_at hr hi
 have hlen := Arr.len (P := prog) (T := 23) (e := 9) hxm (by simp)
 simp [strCells] at hlen
 intro d
 induction d with
 | zero =>
   intro j s0 s2 s3 s5 s7 s8 s9 s10 s11 s12 s13 s14 s15 s16 s17 s18 s19 s20 s21 s22 s23 s24 s25 s26 s27 s28 s29 s30 s31 s32 s33 s34 s35 s36 s37 s38 s39 s40 s41 s42 s43 s44 s45 s46 s47 s48 s49 s50 s51 s52 s53 s54 s55 s56 s57 s58 s59 s60 s61 s62 s63 s64 s65 s66 s67 s68 s69 s70 s71 s72 s73 s74 s75 s76 s77 s78 s79 s80 s81 s82 s83 s84 s85 s86 s87 s88 s89 s90 s91 s92 s93 s94 s95 s96 s97 s98 s99 s100 s101 s102 s103 s104 s105 s106 s107 s108 s109 s110 s111 s112 s113 s114 s115 s116 s117 s118 s119 hj hac
   have : ¬ j < r.mutes.length := by omega
   rw [L39x3q]
   simp [hc,hl4,p1,p3,p4,hlen,this,hi2]
   refine hk (fun s hs => ?_) _ _ _ _ _ _ _ _ _ _ _ _ _ _ _ _ _ _ _ _ _ _ _ _ _ _ _ _ _ _ _ _ _ _ _ _ _ _ _ _ _ _ _ _ _ _ _ _ _ _ _ _ _ _ _ _ _ _ _ _ _ _ _ _ _ _ _ _ _ _ _ _ _ _ _ _ _ _ _ _ _ _ _ _ _ _ _ _ _ _ _ _ _ _ _ _ _ _ _ _ _ _ _ _ _ _ _ _ _ _ _ _ _ _ _ _ _ _
   obtain ⟨l,hl⟩ := List.getElem?_of_mem hs
   exact hac l s (by have := (List.getElem?_eq_some_iff.1 hl).1; omega) hl
 | succ d ih =>
   intro j s0 s2 s3 s5 s7 s8 s9 s10 s11 s12 s13 s14 s15 s16 s17 s18 s19 s20 s21 s22 s23 s24 s25 s26 s27 s28 s29 s30 s31 s32 s33 s34 s35 s36 s37 s38 s39 s40 s41 s42 s43 s44 s45 s46 s47 s48 s49 s50 s51 s52 s53 s54 s55 s56 s57 s58 s59 s60 s61 s62 s63 s64 s65 s66 s67 s68 s69 s70 s71 s72 s73 s74 s75 s76 s77 s78 s79 s80 s81 s82 s83 s84 s85 s86 s87 s88 s89 s90 s91 s92 s93 s94 s95 s96 s97 s98 s99 s100 s101 s102 s103 s104 s105 s106 s107 s108 s109 s110 s111 s112 s113 s114 s115 s116 s117 s118 s119 hj hac
   have hlt : j < r.mutes.length := by omega
   obtain ⟨s,hs⟩ : ∃ s,r.mutes[j]? = some s := ⟨_,List.getElem?_eq_getElem hlt⟩
   obtain ⟨z,z1,z2⟩ := strs_get hxm hs
   rw [L39x3q]
   simp [hc,hl4,p1,p3,p4,hlen,hlt,z1,z2]
   refine bndD_same (r_find s hm (by omega)) ?_
   by_cases hf : findM c.mutes 0 s < 0
   · simp [hf]
     refine bad (fun h => ?_)
     have := ((Cfg.mayB_iff c).1 h).2.2.2.2.2.2.2 r (List.mem_of_getElem? hi)
     have := this.2 s (List.mem_of_getElem? hs)
     rw [← findM_ge c.mutes 0 s] at this
     omega
   · simp [hf,show j + 1 < 2 ^ 63 by omega]
     refine ih (j + 1) _ _ _ _ _ _ _ _ _ _ _ _ _ _ _ _ _ _ _ _ _ _ _ _ _ _ _ _ _ _ _ _ _ _ _ _ _ _ _ _ _ _ _ _ _ _ _ _ _ _ _ _ _ _ _ _ _ _ _ _ _ _ _ _ _ _ _ _ _ _ _ _ _ _ _ _ _ _ _ _ _ _ _ _ _ _ _ _ _ _ _ _ _ _ _ _ _ _ _ _ _ _ _ _ _ _ _ _ _ _ _ _ _ _ _ _ _ (by omega) (fun l t hl ht => ?_)
     by_cases e : l = j
     · subst e; rw [hs] at ht; cases ht; exact (findM_ge c.mutes 0 s).1 (by omega)
     · exact hac l t (by omega) ht
theorem mayc_x2 (hr : RulesAt H rv c.rules) (hm : MutesAt H mv c.mutes) (hml : c.mutes.length ≤ 4) (hrl0 : c.rules.length ≤ 8) {i n1 : Nat} {r : Rul} (hi : c.rules[i]? = some r) (hrl : r.mutes.length < 2 ^ 62) (hc : hcells H b = some (c.cells rv mv)) (bad : ¬ c.mayB = true → k (.bool false) H)
  (hk : (∀ (j : Nat) x,j < i → c.rules[j]? = some x → r.name ≠ x.name) → (∀ s ∈ r.mutes,∃ m ∈ c.mutes,m.name = s) → ∀ (s0 s2 s3 s5 s6 s7 s8 s9 s10 s11 s12 s13 s14 s15 s16 s17 s18 s19 s20 s21 s22 s23 s24 s25 s26 s27 s28 s29 s30 s31 s32 s33 s34 s35 s36 s37 s38 s39 s40 s41 s42 s43 s44 s45 s46 s47 s48 s49 s50 s51 s52 s53 s54 s55 s56 s57 s58 s59 s60 s61 s62 s63 s64 s65 s66 s67 s68 s69 s70 s71 s72 s73 s74 s75 s76 s77 s78 s79 s80 s81 s82 s83 s84 s85 s86 s87 s88 s89 s90 s91 s92 s93 s94 s95 s96 s97 s98 s99 s100 s101 s102 s103 s104 s105 s106 s107 s108 s109 s110 s111 s112 s113 s114 s115 s116 s117 s118 s119 : Value),L39x1 n1 k [s0,.pointer (some ⟨b,0,some 4⟩),s2,s3,i64 ((i + 1 : Nat) : Int),s5,s6,s7,s8,s9,s10,s11,s12,s13,s14,s15,s16,s17,s18,s19,s20,s21,s22,s23,s24,s25,s26,s27,s28,s29,s30,s31,s32,s33,s34,s35,s36,s37,s38,s39,s40,s41,s42,s43,s44,s45,s46,s47,s48,s49,s50,s51,s52,s53,s54,s55,s56,s57,s58,s59,s60,s61,s62,s63,s64,s65,s66,s67,s68,s69,s70,s71,s72,s73,s74,s75,s76,s77,s78,s79,s80,s81,s82,s83,s84,s85,s86,s87,s88,s89,s90,s91,s92,s93,s94,s95,s96,s97,s98,s99,s100,s101,s102,s103,s104,s105,s106,s107,s108,s109,s110,s111,s112,s113,s114,s115,s116,s117,s118,s119] H) :
  ∀ (d j : Nat) (s0 s2 s3 s6 s7 s8 s9 s10 s11 s12 s13 s14 s15 s16 s17 s18 s19 s20 s21 s22 s23 s24 s25 s26 s27 s28 s29 s30 s31 s32 s33 s34 s35 s36 s37 s38 s39 s40 s41 s42 s43 s44 s45 s46 s47 s48 s49 s50 s51 s52 s53 s54 s55 s56 s57 s58 s59 s60 s61 s62 s63 s64 s65 s66 s67 s68 s69 s70 s71 s72 s73 s74 s75 s76 s77 s78 s79 s80 s81 s82 s83 s84 s85 s86 s87 s88 s89 s90 s91 s92 s93 s94 s95 s96 s97 s98 s99 s100 s101 s102 s103 s104 s105 s106 s107 s108 s109 s110 s111 s112 s113 s114 s115 s116 s117 s118 s119 : Value),d + j = i → (∀ (l : Nat) x,l < j → c.rules[l]? = some x → r.name ≠ x.name) → L39x2 (d + 1) n1 k [s0,.pointer (some ⟨b,0,some 4⟩),s2,s3,i64 i,i64 j,s6,s7,s8,s9,s10,s11,s12,s13,s14,s15,s16,s17,s18,s19,s20,s21,s22,s23,s24,s25,s26,s27,s28,s29,s30,s31,s32,s33,s34,s35,s36,s37,s38,s39,s40,s41,s42,s43,s44,s45,s46,s47,s48,s49,s50,s51,s52,s53,s54,s55,s56,s57,s58,s59,s60,s61,s62,s63,s64,s65,s66,s67,s68,s69,s70,s71,s72,s73,s74,s75,s76,s77,s78,s79,s80,s81,s82,s83,s84,s85,s86,s87,s88,s89,s90,s91,s92,s93,s94,s95,s96,s97,s98,s99,s100,s101,s102,s103,s104,s105,s106,s107,s108,s109,s110,s111,s112,s113,s114,s115,s116,s117,s118,s119] H := by
 have hl4 : Vi.hlen H b = some 4 := by rw [hcells_len hc]; rfl
 have hc0 := hc
 simp only [Cfg.cells] at hc
 have hil := (List.getElem?_eq_some_iff.1 hi).1
 obtain ⟨nv,xv,hn,hxm,hxl,p,q6,p1,p2,⟨q0,p3,p4⟩,_⟩ := rule_at hr hi
 intro d
 induction d with
 | zero =>
   intro j s0 s2 s3 s6 s7 s8 s9 s10 s11 s12 s13 s14 s15 s16 s17 s18 s19 s20 s21 s22 s23 s24 s25 s26 s27 s28 s29 s30 s31 s32 s33 s34 s35 s36 s37 s38 s39 s40 s41 s42 s43 s44 s45 s46 s47 s48 s49 s50 s51 s52 s53 s54 s55 s56 s57 s58 s59 s60 s61 s62 s63 s64 s65 s66 s67 s68 s69 s70 s71 s72 s73 s74 s75 s76 s77 s78 s79 s80 s81 s82 s83 s84 s85 s86 s87 s88 s89 s90 s91 s92 s93 s94 s95 s96 s97 s98 s99 s100 s101 s102 s103 s104 s105 s106 s107 s108 s109 s110 s111 s112 s113 s114 s115 s116 s117 s118 s119 hj hac
   have hji : j = i := by omega
   subst hji
   rw [L39x2q]
   simp
   exact ⟨r.mutes.length + 1,mayc_x3 hr hm hml hi (by omega) hrl hc0 bad (fun q s0 s2 s3 s5 s6 s7 s8 s9 s10 s11 s12 s13 s14 s15 s16 s17 s18 s19 s20 s21 s22 s23 s24 s25 s26 s27 s28 s29 s30 s31 s32 s33 s34 s35 s36 s37 s38 s39 s40 s41 s42 s43 s44 s45 s46 s47 s48 s49 s50 s51 s52 s53 s54 s55 s56 s57 s58 s59 s60 s61 s62 s63 s64 s65 s66 s67 s68 s69 s70 s71 s72 s73 s74 s75 s76 s77 s78 s79 s80 s81 s82 s83 s84 s85 s86 s87 s88 s89 s90 s91 s92 s93 s94 s95 s96 s97 s98 s99 s100 s101 s102 s103 s104 s105 s106 s107 s108 s109 s110 s111 s112 s113 s114 s115 s116 s117 s118 s119 => hk hac q _ _ _ _ _ _ _ _ _ _ _ _ _ _ _ _ _ _ _ _ _ _ _ _ _ _ _ _ _ _ _ _ _ _ _ _ _ _ _ _ _ _ _ _ _ _ _ _ _ _ _ _ _ _ _ _ _ _ _ _ _ _ _ _ _ _ _ _ _ _ _ _ _ _ _ _ _ _ _ _ _ _ _ _ _ _ _ _ _ _ _ _ _ _ _ _ _ _ _ _ _ _ _ _ _ _ _ _ _ _ _ _ _ _ _ _ _ _) r.mutes.length 0 _ _ _ _ _ _ _ _ _ _ _ _ _ _ _ _ _ _ _ _ _ _ _ _ _ _ _ _ _ _ _ _ _ _ _ _ _ _ _ _ _ _ _ _ _ _ _ _ _ _ _ _ _ _ _ _ _ _ _ _ _ _ _ _ _ _ _ _ _ _ _ _ _ _ _ _ _ _ _ _ _ _ _ _ _ _ _ _ _ _ _ _ _ _ _ _ _ _ _ _ _ _ _ _ _ _ _ _ _ _ _ _ _ _ _ _ _ (by omega) (fun l s hl => by omega)⟩
 | succ d ih =>
   intro j s0 s2 s3 s6 s7 s8 s9 s10 s11 s12 s13 s14 s15 s16 s17 s18 s19 s20 s21 s22 s23 s24 s25 s26 s27 s28 s29 s30 s31 s32 s33 s34 s35 s36 s37 s38 s39 s40 s41 s42 s43 s44 s45 s46 s47 s48 s49 s50 s51 s52 s53 s54 s55 s56 s57 s58 s59 s60 s61 s62 s63 s64 s65 s66 s67 s68 s69 s70 s71 s72 s73 s74 s75 s76 s77 s78 s79 s80 s81 s82 s83 s84 s85 s86 s87 s88 s89 s90 s91 s92 s93 s94 s95 s96 s97 s98 s99 s100 s101 s102 s103 s104 s105 s106 s107 s108 s109 s110 s111 s112 s113 s114 s115 s116 s117 s118 s119 hj hac
   have hlt : j < i := by omega
   obtain ⟨x,hx⟩ : ∃ s,c.rules[j]? = some s := ⟨_,List.getElem?_eq_getElem (by omega)⟩
   obtain ⟨nv',xv',_,_,_,p',q6',p1',p2',⟨q0',p3',p4'⟩,_⟩ := rule_at hr hx
   rw [L39x2q]
   by_cases he : r.name = x.name
   · simp [hc,hl4,hlt,p1,p3,p4,p1',p3',p4',he]
     refine bad (fun h => ?_)
     have hnd := ((Cfg.mayB_iff c).1 h).2.2.2.2.1
     obtain ⟨i1,e1⟩ := List.getElem?_eq_some_iff.1 hi
     obtain ⟨j1,e2⟩ := List.getElem?_eq_some_iff.1 hx
     have := List.pairwise_iff_getElem.1 hnd j i (by simpa using j1) (by simpa using i1) hlt
     simp [e1,e2,he] at this
   · simp [hc,hl4,hlt,p1,p3,p4,p1',p3',p4',he,show j + 1 < 2 ^ 63 by omega]
     refine ih (j + 1) _ _ _ _ _ _ _ _ _ _ _ _ _ _ _ _ _ _ _ _ _ _ _ _ _ _ _ _ _ _ _ _ _ _ _ _ _ _ _ _ _ _ _ _ _ _ _ _ _ _ _ _ _ _ _ _ _ _ _ _ _ _ _ _ _ _ _ _ _ _ _ _ _ _ _ _ _ _ _ _ _ _ _ _ _ _ _ _ _ _ _ _ _ _ _ _ _ _ _ _ _ _ _ _ _ _ _ _ _ _ _ _ _ _ _ _ _ (by omega) (fun l y hl hy => ?_)
     by_cases e : l = j
     · subst e; rw [hx] at hy; cases hy; exact he
     · exact hac l y (by omega) hy
theorem mayc_x1 (hr : RulesAt H rv c.rules) (hm : MutesAt H mv c.mutes) (ht : c.tame) (hml : c.mutes.length ≤ 4) (hrl : c.rules.length ≤ 8) (hc : hcells H b = some (c.cells rv mv)) (bad : ¬ c.mayB = true → k (.bool false) H)
  (hk : (c.rules.map (·.name)).Nodup → (∀ r ∈ c.rules,r.mayB = true ∧ ∀ s ∈ r.mutes,∃ m ∈ c.mutes,m.name = s) → k (.bool true) H) :
  ∀ (d i : Nat) (s0 s2 s3 s5 s6 s7 s8 s9 s10 s11 s12 s13 s14 s15 s16 s17 s18 s19 s20 s21 s22 s23 s24 s25 s26 s27 s28 s29 s30 s31 s32 s33 s34 s35 s36 s37 s38 s39 s40 s41 s42 s43 s44 s45 s46 s47 s48 s49 s50 s51 s52 s53 s54 s55 s56 s57 s58 s59 s60 s61 s62 s63 s64 s65 s66 s67 s68 s69 s70 s71 s72 s73 s74 s75 s76 s77 s78 s79 s80 s81 s82 s83 s84 s85 s86 s87 s88 s89 s90 s91 s92 s93 s94 s95 s96 s97 s98 s99 s100 s101 s102 s103 s104 s105 s106 s107 s108 s109 s110 s111 s112 s113 s114 s115 s116 s117 s118 s119 : Value), d + i = c.rules.length → (∀ (j : Nat) r, j < i → c.rules[j]? = some r → r.mayB = true ∧ ∀ s ∈ r.mutes, ∃ m ∈ c.mutes, m.name = s) → (∀ (j l : Nat) x y, j < i → l < j → c.rules[j]? = some x → c.rules[l]? = some y → x.name ≠ y.name) →
    L39x1 (d + 1) k [s0,.pointer (some ⟨b,0,some 4⟩),s2,s3,i64 i,s5,s6,s7,s8,s9,s10,s11,s12,s13,s14,s15,s16,s17,s18,s19,s20,s21,s22,s23,s24,s25,s26,s27,s28,s29,s30,s31,s32,s33,s34,s35,s36,s37,s38,s39,s40,s41,s42,s43,s44,s45,s46,s47,s48,s49,s50,s51,s52,s53,s54,s55,s56,s57,s58,s59,s60,s61,s62,s63,s64,s65,s66,s67,s68,s69,s70,s71,s72,s73,s74,s75,s76,s77,s78,s79,s80,s81,s82,s83,s84,s85,s86,s87,s88,s89,s90,s91,s92,s93,s94,s95,s96,s97,s98,s99,s100,s101,s102,s103,s104,s105,s106,s107,s108,s109,s110,s111,s112,s113,s114,s115,s116,s117,s118,s119] H := by
 have hl4 : Vi.hlen H b = some 4 := by rw [hcells_len hc]; rfl
 have hc0 := hc
 simp only [Cfg.cells] at hc
 have hlen := hr.lenR H
 intro d
 induction d with
 | zero =>
   intro i s0 s2 s3 s5 s6 s7 s8 s9 s10 s11 s12 s13 s14 s15 s16 s17 s18 s19 s20 s21 s22 s23 s24 s25 s26 s27 s28 s29 s30 s31 s32 s33 s34 s35 s36 s37 s38 s39 s40 s41 s42 s43 s44 s45 s46 s47 s48 s49 s50 s51 s52 s53 s54 s55 s56 s57 s58 s59 s60 s61 s62 s63 s64 s65 s66 s67 s68 s69 s70 s71 s72 s73 s74 s75 s76 s77 s78 s79 s80 s81 s82 s83 s84 s85 s86 s87 s88 s89 s90 s91 s92 s93 s94 s95 s96 s97 s98 s99 s100 s101 s102 s103 s104 s105 s106 s107 s108 s109 s110 s111 s112 s113 s114 s115 s116 s117 s118 s119 hi h1 h2
   have hic : i = c.rules.length := by omega
   subst hic
   rw [L39x1q]
   simp [hc,hl4,hlen]
   refine hk ?_ (fun r hr => ?_)
   · rw [List.Nodup,List.pairwise_iff_getElem]
     intro l j hl hj hlj he
     simp only [List.length_map] at hl hj
     simp only [List.getElem_map] at he
     exact h2 j l _ _ hj hlj (List.getElem?_eq_getElem hj) (List.getElem?_eq_getElem hl) he.symm
   · obtain ⟨j,hj⟩ := List.getElem?_of_mem hr
     exact h1 j r (List.getElem?_eq_some_iff.1 hj).1 hj
 | succ d ih =>
   intro i s0 s2 s3 s5 s6 s7 s8 s9 s10 s11 s12 s13 s14 s15 s16 s17 s18 s19 s20 s21 s22 s23 s24 s25 s26 s27 s28 s29 s30 s31 s32 s33 s34 s35 s36 s37 s38 s39 s40 s41 s42 s43 s44 s45 s46 s47 s48 s49 s50 s51 s52 s53 s54 s55 s56 s57 s58 s59 s60 s61 s62 s63 s64 s65 s66 s67 s68 s69 s70 s71 s72 s73 s74 s75 s76 s77 s78 s79 s80 s81 s82 s83 s84 s85 s86 s87 s88 s89 s90 s91 s92 s93 s94 s95 s96 s97 s98 s99 s100 s101 s102 s103 s104 s105 s106 s107 s108 s109 s110 s111 s112 s113 s114 s115 s116 s117 s118 s119 hi h1 h2
   have hlt : i < c.rules.length := by omega
   obtain ⟨r,hr'⟩ : ∃ s,c.rules[i]? = some s := ⟨_,List.getElem?_eq_getElem hlt⟩
   have hmem := List.mem_of_getElem? hr'
   have htr := ht.rules r hmem
   obtain ⟨nv,xv,hn,hxm,hxl,p,q6,p1,p2,_,_⟩ := rule_at hr hr'
   rw [L39x1q]
   simp [hc,hl4,hlen,hlt,p1,p2]
   refine bndC_of (r_mayRule hn hxm htr) ?_
   cases hb : r.mayB with
   | false =>
     simp
     refine bad (fun h => ?_)
     have := (((Cfg.mayB_iff c).1 h).2.2.2.2.2.2.2 r hmem).1
     rw [hb] at this; cases this
   | true =>
     simp
     refine ⟨i + 1,mayc_x2 hr hm hml hrl hr' (by have := htr.mlen; omega) hc0 bad (fun q1 q2 s0 s2 s3 s5 s6 s7 s8 s9 s10 s11 s12 s13 s14 s15 s16 s17 s18 s19 s20 s21 s22 s23 s24 s25 s26 s27 s28 s29 s30 s31 s32 s33 s34 s35 s36 s37 s38 s39 s40 s41 s42 s43 s44 s45 s46 s47 s48 s49 s50 s51 s52 s53 s54 s55 s56 s57 s58 s59 s60 s61 s62 s63 s64 s65 s66 s67 s68 s69 s70 s71 s72 s73 s74 s75 s76 s77 s78 s79 s80 s81 s82 s83 s84 s85 s86 s87 s88 s89 s90 s91 s92 s93 s94 s95 s96 s97 s98 s99 s100 s101 s102 s103 s104 s105 s106 s107 s108 s109 s110 s111 s112 s113 s114 s115 s116 s117 s118 s119 => ?_) i 0 _ _ _ _ _ _ _ _ _ _ _ _ _ _ _ _ _ _ _ _ _ _ _ _ _ _ _ _ _ _ _ _ _ _ _ _ _ _ _ _ _ _ _ _ _ _ _ _ _ _ _ _ _ _ _ _ _ _ _ _ _ _ _ _ _ _ _ _ _ _ _ _ _ _ _ _ _ _ _ _ _ _ _ _ _ _ _ _ _ _ _ _ _ _ _ _ _ _ _ _ _ _ _ _ _ _ _ _ _ _ _ _ _ _ _ _ _ (by omega) (fun l s hl => by omega)⟩
     refine ih (i + 1) _ _ _ _ _ _ _ _ _ _ _ _ _ _ _ _ _ _ _ _ _ _ _ _ _ _ _ _ _ _ _ _ _ _ _ _ _ _ _ _ _ _ _ _ _ _ _ _ _ _ _ _ _ _ _ _ _ _ _ _ _ _ _ _ _ _ _ _ _ _ _ _ _ _ _ _ _ _ _ _ _ _ _ _ _ _ _ _ _ _ _ _ _ _ _ _ _ _ _ _ _ _ _ _ _ _ _ _ _ _ _ _ _ _ _ _ _ _ (by omega) (fun j x hj hx => ?_) (fun j l x y hj hlj hx hy => ?_)
     · by_cases e : j = i
       · subst e; rw [hr'] at hx; cases hx; exact ⟨hb,q2⟩
       · exact h1 j x (by omega) hx
     · by_cases e : j = i
       · subst e; rw [hr'] at hx; cases hx; exact q1 l y hlj hy
       · exact h2 j l x y (by omega) hlj hx hy
theorem mute_at (hm : MutesAt H mv c.mutes) {i : Nat} {m : Mut} (hi : c.mutes[i]? = some m) : ∃ p q0,aIndexAddr prog H 40 mv (i64 i) = some p ∧ aLoad prog H 28 p = some (.agg m.cells.toArray) ∧ aFieldAddr prog H 28 p 0 = some q0 ∧ aLoad prog H 9 q0 = some (str m.name) := by
 obtain ⟨p,hp1,hp2⟩ := hm.1.load (P := prog) (T := 40) (te := 28) (i := i) (e := m.cells) (by simp) (by simp) (by simp) (by simp [hi])
 obtain ⟨p0,q0,a1,a2,a3⟩ := hm.1.field (P := prog) (T := 40) (te := 28) (ft := 9) (f := 0) (d := 0) (i := i) (e := m.cells) (x := str m.name) (by simp) (by simp) (by simp) (by simp) (by simp) (by simp [hi]) m.hd
 rw [hp1] at a1
 cases a1
 exact ⟨p,q0,hp1,hp2,a2,a3⟩
theorem mayc_x0 (hr : RulesAt H rv c.rules) (hm : MutesAt H mv c.mutes) (ht : c.tame) (hml : c.mutes.length ≤ 4) (hrl : c.rules.length ≤ 8) (hc : hcells H b = some (c.cells rv mv)) (bad : ¬ c.mayB = true → k (.bool false) H)
  (hk : (c.mutes.map (·.name)).Nodup → (∀ m ∈ c.mutes,m.mayB = true) → (c.rules.map (·.name)).Nodup → (∀ r ∈ c.rules,r.mayB = true ∧ ∀ s ∈ r.mutes,∃ m ∈ c.mutes,m.name = s) → k (.bool true) H) :
  ∀ (d i : Nat) (s0 s2 s4 s5 s6 s7 s8 s9 s10 s11 s12 s13 s14 s15 s16 s17 s18 s19 s20 s21 s22 s23 s24 s25 s26 s27 s28 s29 s30 s31 s32 s33 s34 s35 s36 s37 s38 s39 s40 s41 s42 s43 s44 s45 s46 s47 s48 s49 s50 s51 s52 s53 s54 s55 s56 s57 s58 s59 s60 s61 s62 s63 s64 s65 s66 s67 s68 s69 s70 s71 s72 s73 s74 s75 s76 s77 s78 s79 s80 s81 s82 s83 s84 s85 s86 s87 s88 s89 s90 s91 s92 s93 s94 s95 s96 s97 s98 s99 s100 s101 s102 s103 s104 s105 s106 s107 s108 s109 s110 s111 s112 s113 s114 s115 s116 s117 s118 s119 : Value), d + i = c.mutes.length → (∀ (j : Nat) m, j < i → c.mutes[j]? = some m → m.mayB = true) → (∀ (j l : Nat) x y, j < i → l < j → c.mutes[j]? = some x → c.mutes[l]? = some y → y.name ≠ x.name) →
    L39x0 (d + 1) k [s0,.pointer (some ⟨b,0,some 4⟩),s2,i64 i,s4,s5,s6,s7,s8,s9,s10,s11,s12,s13,s14,s15,s16,s17,s18,s19,s20,s21,s22,s23,s24,s25,s26,s27,s28,s29,s30,s31,s32,s33,s34,s35,s36,s37,s38,s39,s40,s41,s42,s43,s44,s45,s46,s47,s48,s49,s50,s51,s52,s53,s54,s55,s56,s57,s58,s59,s60,s61,s62,s63,s64,s65,s66,s67,s68,s69,s70,s71,s72,s73,s74,s75,s76,s77,s78,s79,s80,s81,s82,s83,s84,s85,s86,s87,s88,s89,s90,s91,s92,s93,s94,s95,s96,s97,s98,s99,s100,s101,s102,s103,s104,s105,s106,s107,s108,s109,s110,s111,s112,s113,s114,s115,s116,s117,s118,s119] H := by
 have hl4 : Vi.hlen H b = some 4 := by rw [hcells_len hc]; rfl
 have hc0 := hc
 simp only [Cfg.cells] at hc
 have hlen := hm.lenM H
 intro d
 induction d with
 | zero =>
   intro i s0 s2 s4 s5 s6 s7 s8 s9 s10 s11 s12 s13 s14 s15 s16 s17 s18 s19 s20 s21 s22 s23 s24 s25 s26 s27 s28 s29 s30 s31 s32 s33 s34 s35 s36 s37 s38 s39 s40 s41 s42 s43 s44 s45 s46 s47 s48 s49 s50 s51 s52 s53 s54 s55 s56 s57 s58 s59 s60 s61 s62 s63 s64 s65 s66 s67 s68 s69 s70 s71 s72 s73 s74 s75 s76 s77 s78 s79 s80 s81 s82 s83 s84 s85 s86 s87 s88 s89 s90 s91 s92 s93 s94 s95 s96 s97 s98 s99 s100 s101 s102 s103 s104 s105 s106 s107 s108 s109 s110 s111 s112 s113 s114 s115 s116 s117 s118 s119 hi h1 h2
   have hic : i = c.mutes.length := by omega
   subst hic
   rw [L39x0q]
   simp [hc,hl4,hlen]
   refine ⟨c.rules.length + 1,mayc_x1 hr hm ht hml hrl hc0 bad (hk ?_ (fun m hm => ?_)) c.rules.length 0 _ _ _ _ _ _ _ _ _ _ _ _ _ _ _ _ _ _ _ _ _ _ _ _ _ _ _ _ _ _ _ _ _ _ _ _ _ _ _ _ _ _ _ _ _ _ _ _ _ _ _ _ _ _ _ _ _ _ _ _ _ _ _ _ _ _ _ _ _ _ _ _ _ _ _ _ _ _ _ _ _ _ _ _ _ _ _ _ _ _ _ _ _ _ _ _ _ _ _ _ _ _ _ _ _ _ _ _ _ _ _ _ _ _ _ _ _ _ (by omega) (fun j r hj => by omega) (fun j l x y hj => by omega)⟩
   · rw [List.Nodup,List.pairwise_iff_getElem]
     intro l j hl hj hlj he
     simp only [List.length_map] at hl hj
     simp only [List.getElem_map] at he
     exact h2 j l _ _ hj hlj (List.getElem?_eq_getElem hj) (List.getElem?_eq_getElem hl) he
   · obtain ⟨j,hj⟩ := List.getElem?_of_mem hm
     exact h1 j m (List.getElem?_eq_some_iff.1 hj).1 hj
 | succ d ih =>
   intro i s0 s2 s4 s5 s6 s7 s8 s9 s10 s11 s12 s13 s14 s15 s16 s17 s18 s19 s20 s21 s22 s23 s24 s25 s26 s27 s28 s29 s30 s31 s32 s33 s34 s35 s36 s37 s38 s39 s40 s41 s42 s43 s44 s45 s46 s47 s48 s49 s50 s51 s52 s53 s54 s55 s56 s57 s58 s59 s60 s61 s62 s63 s64 s65 s66 s67 s68 s69 s70 s71 s72 s73 s74 s75 s76 s77 s78 s79 s80 s81 s82 s83 s84 s85 s86 s87 s88 s89 s90 s91 s92 s93 s94 s95 s96 s97 s98 s99 s100 s101 s102 s103 s104 s105 s106 s107 s108 s109 s110 s111 s112 s113 s114 s115 s116 s117 s118 s119 hi h1 h2
   have hlt : i < c.mutes.length := by omega
   obtain ⟨m,hm'⟩ : ∃ s,c.mutes[i]? = some s := ⟨_,List.getElem?_eq_getElem hlt⟩
   have hmem := List.mem_of_getElem? hm'
   obtain ⟨p,q0,p1,p2,p3,p4⟩ := mute_at hm hm'
   have hat := findM_at c.mutes i 0 m hm'
   rw [Nat.zero_add] at hat
   rw [L39x0q]
   simp [hc,hl4,hlen,hlt,p1,p2]
   refine bndD_same (r_mayMute (hm.2 m hmem) (ht.names m hmem)) ?_
   cases hb : m.mayB with
   | false =>
     simp
     refine bad (fun h => ?_)
     have := ((Cfg.mayB_iff c).1 h).2.2.2.2.2.2.1 m hmem
     rw [hb] at this; cases this
   | true =>
     simp [hc,hl4,p1,p3,p4]
     refine bndD_gcall _ rfl (fun _ => r_find m.name hm (by omega)) ?_
     by_cases hf : findM c.mutes 0 m.name = i
     · have hfb : (findM c.mutes 0 m.name != (i : Int)) = false := by simpa using hf
       simp [hfb,show i + 1 < 2 ^ 63 by omega]
       refine ih (i + 1) _ _ _ _ _ _ _ _ _ _ _ _ _ _ _ _ _ _ _ _ _ _ _ _ _ _ _ _ _ _ _ _ _ _ _ _ _ _ _ _ _ _ _ _ _ _ _ _ _ _ _ _ _ _ _ _ _ _ _ _ _ _ _ _ _ _ _ _ _ _ _ _ _ _ _ _ _ _ _ _ _ _ _ _ _ _ _ _ _ _ _ _ _ _ _ _ _ _ _ _ _ _ _ _ _ _ _ _ _ _ _ _ _ _ _ _ _ _ (by omega) (fun j x hj hx => ?_) (fun j l x y hj hlj hx hy => ?_)
       · by_cases e : j = i
         · subst e; rw [hm'] at hx; cases hx; exact hb
         · exact h1 j x (by omega) hx
       · by_cases e : j = i
         · subst e; rw [hm'] at hx; cases hx; exact hat.1 hf l y hlj hy
         · exact h2 j l x y (by omega) hlj hx hy
     · have hfb : (findM c.mutes 0 m.name != (i : Int)) = true := by simpa using hf
       simp [hfb]
       refine bad (fun h => hf (hat.2 (fun j x hj hx he => ?_)))
       have hnd := ((Cfg.mayB_iff c).1 h).2.2.2.2.2.1
       obtain ⟨i1,e1⟩ := List.getElem?_eq_some_iff.1 hm'
       obtain ⟨j1,e2⟩ := List.getElem?_eq_some_iff.1 hx
       have := List.pairwise_iff_getElem.1 hnd j i (by simpa using j1) (by simpa using i1) hj
       simp [e1,e2,he] at this
set_option maxHeartbeats 1000000 in
set_option maxRecDepth 20000 in
theorem r_mayConfig (hr : RulesAt H rv c.rules) (hm : MutesAt H mv c.mutes) (ht : c.tame) : ACalls prog 39 [.agg (c.cells rv mv).toArray] H (.bool c.mayB) H := by
 refine acalls_pure MixT func39 (by decide) rfl ?_
 obtain ⟨k,hk0⟩ : ∃ k : Value → AHeap → Prop,k = fun u H2 => u = .bool c.mayB ∧ ∃ X,H2 = H ++ X := ⟨_,rfl⟩
 rw [← hk0]
 have hk : ∀ M,Pre H M → k (.bool c.mayB) M := fun M p => by rw [hk0]; exact ⟨rfl,p⟩
 clear hk0
 have o1 := hr.one
 have o2 := hm.one
 have hnew : aNew H 42 (.agg (c.cells rv mv).toArray) = some (.pointer (some ⟨H.length,0,some 4⟩),H ++ [.cells (c.cells rv mv) 42]) := by simp [aNew_agg,Cfg.cells,o1,o2]
 rw [d39,hnew]
 simp only [bndE_some]
 obtain ⟨K,hK⟩ : ∃ K,K = H ++ [.cells (c.cells rv mv) 42] := ⟨_,rfl⟩
 have hp : Pre H K := by rw [hK]; exact .app _ _
 have hc0 : hcells K H.length = some (c.cells rv mv) := by rw [hK]; simp
 have hl4 : Vi.hlen K H.length = some 4 := by rw [hK]; simp [Cfg.cells]
 have hc := hc0
 simp only [Cfg.cells] at hc
 rw [← hK]
 clear hnew hK
 have iff := Cfg.mayB_iff c
 have b' : ¬ c.mayB = true → k (.bool false) K := fun h => by have := hk K hp; rwa [show c.mayB = false by simpa using h] at this
 have l1 := (hr.pre hp).lenR K
 have l2 := (hm.pre hp).lenM K
 by_cases c1 : (8 : Int) < c.rules.length
 · simp [hc,hl4,l1,c1]
   exact b' (fun h => by have := (iff.1 h).1; omega)
 by_cases c2 : (4 : Int) < c.mutes.length
 · simp [hc,hl4,l1,l2,c1,c2]
   exact b' (fun h => by have := (iff.1 h).2.1; omega)
 by_cases c3 : c.late < 0
 · simp [hc,hl4,l1,l2,c1,c2,c3]
   exact b' (fun h => by have := (iff.1 h).2.2.1; omega)
 by_cases c4 : (100 : Int) < c.late
 · simp [hc,hl4,l1,l2,c1,c2,c3,c4]
   exact b' (fun h => by have := (iff.1 h).2.2.1; omega)
 by_cases c5 : c.limit < 1
 · simp [hc,hl4,l1,l2,c1,c2,c3,c4,c5]
   exact b' (fun h => by have := (iff.1 h).2.2.2.1; omega)
 by_cases c6 : (1000 : Int) < c.limit
 · simp [hc,hl4,l1,l2,c1,c2,c3,c4,c5,c6]
   exact b' (fun h => by have := (iff.1 h).2.2.2.1; omega)
 simp [hc,hl4,l1,l2,c1,c2,c3,c4,c5,c6]
 refine ⟨c.mutes.length + 1,mayc_x0 (hr.pre hp) (hm.pre hp) ht (by omega) (by omega) hc0 b' (fun q1 q2 q3 q4 => ?_) c.mutes.length 0 _ _ _ _ _ _ _ _ _ _ _ _ _ _ _ _ _ _ _ _ _ _ _ _ _ _ _ _ _ _ _ _ _ _ _ _ _ _ _ _ _ _ _ _ _ _ _ _ _ _ _ _ _ _ _ _ _ _ _ _ _ _ _ _ _ _ _ _ _ _ _ _ _ _ _ _ _ _ _ _ _ _ _ _ _ _ _ _ _ _ _ _ _ _ _ _ _ _ _ _ _ _ _ _ _ _ _ _ _ _ _ _ _ _ _ _ _ _ (by omega) (fun j m hj => by omega) (fun j l x y hj => by omega)⟩
 have : c.mayB = true := iff.2 ⟨by omega,by omega,⟨by omega,by omega⟩,⟨by omega,by omega⟩,q3,q1,q2,q4⟩
 have := hk K hp
 rwa [‹c.mayB = true›] at this
end
end Go.Vi
namespace Go.Vi
open Go Go.Proofs Go.Proofs.Try
theorem pv_strR {P : Program} {T : TypeId} {d : Nat} {a : ByteArray} (h : P.underlying T = some .string) : pv P (Op.equalIn (d + 1) T (.string a) (.string a)) = some true := by
 have e : (a == a) = true := by
  obtain ⟨⟨x⟩⟩ := a
  show ((⟨x⟩ : Array UInt8) == ⟨x⟩) = true
  simp
 unfold Op.equalIn
 rw [pv_bind,pv_und h]
 simp [pv_pure,e]
theorem pv_intR {P : Program} {T : TypeId} {d : Nat} {k k' : IntKind} {n : Int} (h : P.underlying T = some (.int k')) : pv P (Op.equalIn (d + 1) T (.int k n) (.int k n)) = some true := by
 unfold Op.equalIn
 rw [pv_bind,pv_und h]
 simp [pv_pure]
theorem days_eq (d0 d1 d2 d3 d4 d5 d6 : Bool) : pv prog (Op.equalIn 9999 26 (.agg #[.bool d0,.bool d1,.bool d2,.bool d3,.bool d4,.bool d5,.bool d6]) (.agg #[.bool d0,.bool d1,.bool d2,.bool d3,.bool d4,.bool d5,.bool d6])) = some true := by
 cases d0 <;> cases d1 <;> cases d2 <;> cases d3 <;> cases d4 <;> cases d5 <;> cases d6 <;> kernel_rfl
theorem mute_eq (nm : List UInt8) (d0 d1 d2 d3 d4 d5 d6 : Bool) (a b : Int) : pv prog (Op.equal 28 (.agg #[str nm,.bool d0,.bool d1,.bool d2,.bool d3,.bool d4,.bool d5,.bool d6,i64 a,i64 b]) (.agg #[str nm,.bool d0,.bool d1,.bool d2,.bool d3,.bool d4,.bool d5,.bool d6,i64 a,i64 b])) = some true := by
 show pv prog (Op.equalIn (9998 + 1 + 1) 28 _ _) = _
 have hs : prog.stoodInHeld 28 = false := by kernel_rfl
 have p0 : pv prog (part 9 #[str nm,.bool d0,.bool d1,.bool d2,.bool d3,.bool d4,.bool d5,.bool d6,i64 a,i64 b] 0) = some (str nm) := by kernel_rfl
 have p1 : pv prog (part 26 #[str nm,.bool d0,.bool d1,.bool d2,.bool d3,.bool d4,.bool d5,.bool d6,i64 a,i64 b] 1) = some (.agg #[.bool d0,.bool d1,.bool d2,.bool d3,.bool d4,.bool d5,.bool d6]) := by kernel_rfl
 have p2 : pv prog (part 3 #[str nm,.bool d0,.bool d1,.bool d2,.bool d3,.bool d4,.bool d5,.bool d6,i64 a,i64 b] 8) = some (i64 a) := by kernel_rfl
 have p3 : pv prog (part 3 #[str nm,.bool d0,.bool d1,.bool d2,.bool d3,.bool d4,.bool d5,.bool d6,i64 a,i64 b] 9) = some (i64 b) := by kernel_rfl
 have e0 : pv prog (Op.equalIn (9998 + 1) 9 (str nm) (str nm)) = some true := pv_strR (by simp)
 have e1 : pv prog (Op.equalIn (9998 + 1) 26 (.agg #[.bool d0,.bool d1,.bool d2,.bool d3,.bool d4,.bool d5,.bool d6]) (.agg #[.bool d0,.bool d1,.bool d2,.bool d3,.bool d4,.bool d5,.bool d6])) = some true := days_eq d0 d1 d2 d3 d4 d5 d6
 have e2 : ∀ n : Int,pv prog (Op.equalIn (9998 + 1) 3 (i64 n) (i64 n)) = some true := fun n => pv_intR (k' := .i64) (by simp)
 rw [Op.equalIn]
 rw [pv_bind,pv_und (by simp; rfl)]
 simp only [Option.bind_some]
 simp [pv_bind,pv_prog,hs,p0,p1,p2,p3,e0,e1,e2,pv_pure]
theorem aBin_mute {H : AHeap} {x y : Operand} {m : Mut} (hd : m.days.length = 7) : aBin2 prog H .neq 28 x y (.agg m.cells.toArray) (.agg m.cells.toArray) = some (.bool false) := by
 obtain ⟨d0,d1,d2,d3,d4,d5,d6,hce⟩ := mut_cells hd
 rw [hce]
 apply aBin2_of
 have hg : pv prog (eqGuard .neq 28 x y (.agg [str m.name,.bool d0,.bool d1,.bool d2,.bool d3,.bool d4,.bool d5,.bool d6,i64 m.fromM,i64 m.toM].toArray) (.agg [str m.name,.bool d0,.bool d1,.bool d2,.bool d3,.bool d4,.bool d5,.bool d6,i64 m.fromM,i64 m.toM].toArray)) = some () := by kernel_rfl
 have : pv prog (do eqGuard .neq 28 x y (.agg [str m.name,.bool d0,.bool d1,.bool d2,.bool d3,.bool d4,.bool d5,.bool d6,i64 m.fromM,i64 m.toM].toArray) (.agg [str m.name,.bool d0,.bool d1,.bool d2,.bool d3,.bool d4,.bool d5,.bool d6,i64 m.fromM,i64 m.toM].toArray); binOp .neq 28 (.agg [str m.name,.bool d0,.bool d1,.bool d2,.bool d3,.bool d4,.bool d5,.bool d6,i64 m.fromM,i64 m.toM].toArray) (.agg [str m.name,.bool d0,.bool d1,.bool d2,.bool d3,.bool d4,.bool d5,.bool d6,i64 m.fromM,i64 m.toM].toArray)) = some (.bool false) := by
  rw [pv_bind,hg,Option.bind_some]
  show pv prog (Op.equal 28 (.agg #[str m.name,.bool d0,.bool d1,.bool d2,.bool d3,.bool d4,.bool d5,.bool d6,i64 m.fromM,i64 m.toM]) (.agg #[str m.name,.bool d0,.bool d1,.bool d2,.bool d3,.bool d4,.bool d5,.bool d6,i64 m.fromM,i64 m.toM]) >>= fun r => pure (Value.bool !r)) = _
  rw [pv_bind,mute_eq]; rfl
 unfold aBin
 rw [if_pos ⟨rfl,rfl⟩,this]; rfl
section
variable {c : Cfg} {H : AHeap} {rv mv rv' mv' : Value} {a b : Nat} {k : Value → AHeap → Prop}
theorem sameC_x1 (hm : MutesAt H mv c.mutes) (hm' : MutesAt H mv' c.mutes) (hml : c.mutes.length < 2 ^ 62) (ha : hcells H a = some (c.cells rv mv)) (hb : hcells H b = some (c.cells rv' mv')) (hk : k (.bool true) H) :
  ∀ (d i : Nat) (s0 s1 s4 s5 s7 s8 s9 s10 s11 s12 s13 s14 s15 s16 s17 s18 s19 s20 s21 s22 s23 s24 s25 s26 s27 s28 s29 s30 s31 s32 s33 s34 s35 s36 s37 s38 s39 s40 s41 s42 s43 s44 s45 s46 s47 s48 s49 s50 s51 s52 s53 s54 s55 s56 s57 s58 s59 s60 s61 s62 s63 s64 s65 s66 s67 s68 s69 s70 s71 s72 s73 : Value),d + i = c.mutes.length → L18x1 (d + 1) k [s0,s1,.pointer (some ⟨a,0,some 4⟩),.pointer (some ⟨b,0,some 4⟩),s4,s5,i64 i,s7,s8,s9,s10,s11,s12,s13,s14,s15,s16,s17,s18,s19,s20,s21,s22,s23,s24,s25,s26,s27,s28,s29,s30,s31,s32,s33,s34,s35,s36,s37,s38,s39,s40,s41,s42,s43,s44,s45,s46,s47,s48,s49,s50,s51,s52,s53,s54,s55,s56,s57,s58,s59,s60,s61,s62,s63,s64,s65,s66,s67,s68,s69,s70,s71,s72,s73] H := by
 have la : Vi.hlen H a = some 4 := by rw [hcells_len ha]; rfl
 have lb : Vi.hlen H b = some 4 := by rw [hcells_len hb]; rfl
 simp only [Cfg.cells] at ha hb
 have hlen := hm.lenM H
 intro d
 induction d with
 | zero =>
   intro i s0 s1 s4 s5 s7 s8 s9 s10 s11 s12 s13 s14 s15 s16 s17 s18 s19 s20 s21 s22 s23 s24 s25 s26 s27 s28 s29 s30 s31 s32 s33 s34 s35 s36 s37 s38 s39 s40 s41 s42 s43 s44 s45 s46 s47 s48 s49 s50 s51 s52 s53 s54 s55 s56 s57 s58 s59 s60 s61 s62 s63 s64 s65 s66 s67 s68 s69 s70 s71 s72 s73 hi
   have : ¬ i < c.mutes.length := by omega
   rw [L18x1q]
   simp [ha,la,hlen,this]
   exact hk
 | succ d ih =>
   intro i s0 s1 s4 s5 s7 s8 s9 s10 s11 s12 s13 s14 s15 s16 s17 s18 s19 s20 s21 s22 s23 s24 s25 s26 s27 s28 s29 s30 s31 s32 s33 s34 s35 s36 s37 s38 s39 s40 s41 s42 s43 s44 s45 s46 s47 s48 s49 s50 s51 s52 s53 s54 s55 s56 s57 s58 s59 s60 s61 s62 s63 s64 s65 s66 s67 s68 s69 s70 s71 s72 s73 hi
   have hlt : i < c.mutes.length := by omega
   obtain ⟨m,hx⟩ : ∃ s,c.mutes[i]? = some s := ⟨_,List.getElem?_eq_getElem hlt⟩
   obtain ⟨p,_,p1,p2,_⟩ := mute_at hm hx
   obtain ⟨q,_,q1,q2,_⟩ := mute_at hm' hx
   rw [L18x1q]
   simp [ha,hb,la,lb,hlen,hlt,p1,p2,q1,q2,aBin_mute (hm.2 m (List.mem_of_getElem? hx)),show i + 1 < 2 ^ 63 by omega]
   exact ih (i + 1) _ _ _ _ _ _ _ _ _ _ _ _ _ _ _ _ _ _ _ _ _ _ _ _ _ _ _ _ _ _ _ _ _ _ _ _ _ _ _ _ _ _ _ _ _ _ _ _ _ _ _ _ _ _ _ _ _ _ _ _ _ _ _ _ _ _ _ _ _ _ _ (by omega)
theorem sameC_x0 (hr : RulesAt H rv c.rules) (hr' : RulesAt H rv' c.rules) (hm : MutesAt H mv c.mutes) (hm' : MutesAt H mv' c.mutes) (hml : c.mutes.length < 2 ^ 62) (ht : ∀ r ∈ c.rules,r.tame) (hrl : c.rules.length < 2 ^ 62)
  (ha : hcells H a = some (c.cells rv mv)) (hb : hcells H b = some (c.cells rv' mv')) (hk : k (.bool true) H) :
  ∀ (d i : Nat) (s0 s1 s4 s6 s7 s8 s9 s10 s11 s12 s13 s14 s15 s16 s17 s18 s19 s20 s21 s22 s23 s24 s25 s26 s27 s28 s29 s30 s31 s32 s33 s34 s35 s36 s37 s38 s39 s40 s41 s42 s43 s44 s45 s46 s47 s48 s49 s50 s51 s52 s53 s54 s55 s56 s57 s58 s59 s60 s61 s62 s63 s64 s65 s66 s67 s68 s69 s70 s71 s72 s73 : Value),d + i = c.rules.length → L18x0 (d + 1) k [s0,s1,.pointer (some ⟨a,0,some 4⟩),.pointer (some ⟨b,0,some 4⟩),s4,i64 i,s6,s7,s8,s9,s10,s11,s12,s13,s14,s15,s16,s17,s18,s19,s20,s21,s22,s23,s24,s25,s26,s27,s28,s29,s30,s31,s32,s33,s34,s35,s36,s37,s38,s39,s40,s41,s42,s43,s44,s45,s46,s47,s48,s49,s50,s51,s52,s53,s54,s55,s56,s57,s58,s59,s60,s61,s62,s63,s64,s65,s66,s67,s68,s69,s70,s71,s72,s73] H := by
 have la : Vi.hlen H a = some 4 := by rw [hcells_len ha]; rfl
 have lb : Vi.hlen H b = some 4 := by rw [hcells_len hb]; rfl
 have ha0 := ha
 have hb0 := hb
 simp only [Cfg.cells] at ha hb
 have hlen := hr.lenR H
 intro d
 induction d with
 | zero =>
   intro i s0 s1 s4 s6 s7 s8 s9 s10 s11 s12 s13 s14 s15 s16 s17 s18 s19 s20 s21 s22 s23 s24 s25 s26 s27 s28 s29 s30 s31 s32 s33 s34 s35 s36 s37 s38 s39 s40 s41 s42 s43 s44 s45 s46 s47 s48 s49 s50 s51 s52 s53 s54 s55 s56 s57 s58 s59 s60 s61 s62 s63 s64 s65 s66 s67 s68 s69 s70 s71 s72 s73 hi
   have : ¬ i < c.rules.length := by omega
   rw [L18x0q]
   simp [ha,la,hlen,this]
   exact ⟨c.mutes.length + 1,sameC_x1 hm hm' hml ha0 hb0 hk c.mutes.length 0 _ _ _ _ _ _ _ _ _ _ _ _ _ _ _ _ _ _ _ _ _ _ _ _ _ _ _ _ _ _ _ _ _ _ _ _ _ _ _ _ _ _ _ _ _ _ _ _ _ _ _ _ _ _ _ _ _ _ _ _ _ _ _ _ _ _ _ _ _ _ _ (by omega)⟩
 | succ d ih =>
   intro i s0 s1 s4 s6 s7 s8 s9 s10 s11 s12 s13 s14 s15 s16 s17 s18 s19 s20 s21 s22 s23 s24 s25 s26 s27 s28 s29 s30 s31 s32 s33 s34 s35 s36 s37 s38 s39 s40 s41 s42 s43 s44 s45 s46 s47 s48 s49 s50 s51 s52 s53 s54 s55 s56 s57 s58 s59 s60 s61 s62 s63 s64 s65 s66 s67 s68 s69 s70 s71 s72 s73 hi
   have hlt : i < c.rules.length := by omega
   obtain ⟨r,hx⟩ : ∃ s,c.rules[i]? = some s := ⟨_,List.getElem?_eq_getElem hlt⟩
   obtain ⟨nv,xv,n1,x1,_,p,_,p1,p2,_⟩ := rule_at hr hx
   obtain ⟨nv',xv',n2,x2,_,q,_,q1,q2,_⟩ := rule_at hr' hx
   have htr := ht r (List.mem_of_getElem? hx)
   rw [L18x0q]
   simp [ha,hb,la,lb,hlen,hlt,p1,p2,q1,q2]
   refine bndD_same (r_sameRule n1 n2 x1 x2 (by have := htr.mlen; omega) (by have := htr.nlen; omega) (fun n hn => by have := (htr.nods n hn).1; omega)) ?_
   simp [show i + 1 < 2 ^ 63 by omega]
   exact ih (i + 1) _ _ _ _ _ _ _ _ _ _ _ _ _ _ _ _ _ _ _ _ _ _ _ _ _ _ _ _ _ _ _ _ _ _ _ _ _ _ _ _ _ _ _ _ _ _ _ _ _ _ _ _ _ _ _ _ _ _ _ _ _ _ _ _ _ _ _ _ _ _ _ (by omega)
theorem cfg_new {H : AHeap} (h1 : rv.oneCell' = true) (h2 : mv.oneCell' = true) : aNew H 42 (.agg (c.cells rv mv).toArray) = some (.pointer (some ⟨H.length,0,some 4⟩),H ++ [.cells (c.cells rv mv) 42]) := by simp [aNew_agg,Cfg.cells,h1,h2]
theorem cfg_get {K : AHeap} {b : Nat} (h : hcells K b = some (c.cells rv mv)) : aLoad prog K 42 (.pointer (some ⟨b,0,some 4⟩)) = some (.agg (c.cells rv mv).toArray) := by simp [h,Cfg.cells]
theorem r_sameCfg (hr : RulesAt H rv c.rules) (hr' : RulesAt H rv' c.rules) (hm : MutesAt H mv c.mutes) (hm' : MutesAt H mv' c.mutes) (ht : c.tame) : ACalls prog 18 [.agg (c.cells rv mv).toArray,.agg (c.cells rv' mv').toArray] H (.bool true) H := by
 refine acalls_pure MixT func18 (by decide) rfl ?_
 have hnew2 : aNew (H ++ [.cells (c.cells rv mv) 42]) 42 (.agg (c.cells rv' mv').toArray) = some (.pointer (some ⟨H.length + 1,0,some 4⟩),H ++ [.cells (c.cells rv mv) 42,.cells (c.cells rv' mv') 42]) := by simp [aNew_agg,Cfg.cells,hr'.one,hm'.one]
 rw [d18,cfg_new hr.one hm.one]
 simp only [bndE_some]
 rw [hnew2]
 simp only [bndE_some]
 obtain ⟨K,hK⟩ : ∃ K,K = H ++ [AObj.cells (c.cells rv mv) 42,.cells (c.cells rv' mv') 42] := ⟨_,rfl⟩
 have hp : Pre H K := by rw [hK]; exact .app _ _
 have ha0 : hcells K H.length = some (c.cells rv mv) := by rw [hK]; simp
 have hb0 : hcells K (H.length + 1) = some (c.cells rv' mv') := by rw [hK]; simp
 rw [← hK]
 have la : Vi.hlen K H.length = some 4 := by rw [hcells_len ha0]; rfl
 have lb : Vi.hlen K (H.length + 1) = some 4 := by rw [hcells_len hb0]; rfl
 have ha := ha0
 have hb := hb0
 simp only [Cfg.cells] at ha hb
 have e1 := (hr.pre hp).lenR K
 have e2 := (hr'.pre hp).lenR K
 have e3 := (hm.pre hp).lenM K
 have e4 := (hm'.pre hp).lenM K
 obtain ⟨s1,s2,_⟩ := ht.small
 simp [ha,hb,la,lb,e1,e2,e3,e4]
 exact ⟨c.rules.length + 1,sameC_x0 (hr.pre hp) (hr'.pre hp) (hm.pre hp) (hm'.pre hp) (by omega) ht.rules (by omega) ha0 hb0 ⟨rfl,hp⟩ c.rules.length 0 _ _ _ _ _ _ _ _ _ _ _ _ _ _ _ _ _ _ _ _ _ _ _ _ _ _ _ _ _ _ _ _ _ _ _ _ _ _ _ _ _ _ _ _ _ _ _ _ _ _ _ _ _ _ _ _ _ _ _ _ _ _ _ _ _ _ _ _ _ _ _ (by omega)⟩
theorem r_config (hr : RulesAt H rv c.rules) (hm : MutesAt H mv c.mutes) (ht : c.tame) : ACalls prog 17 [.agg (c.cells rv mv).toArray] H (i64 (errno c.mayB)) H := by
 refine acalls_pure MixT func17 (by decide) rfl ?_
 rw [d17,cfg_new hr.one hm.one]
 simp only [bndE_some]
 refine bnd_of (cfg_get (c := c) (rv := rv) (mv := mv) (by simp)) ?_
 refine bndC_of (r_mayConfig (hr.pre (.app _ _)) (hm.pre (.app _ _)) ht) ?_
 refine bndC_of (r_errno _ _) ?_
 exact ⟨rfl,_,rfl⟩
set_option maxHeartbeats 1000000 in
theorem w_configs (hr : RulesAt H rv c.rules) (hm : MutesAt H mv c.mutes) (hw : ∀ r ∈ c.rules,∀ n ∈ r.nodes,n.window < 2 ^ 63) : ACalls prog 4 [.agg (c.cells rv mv).toArray] H (.bool true) H := by
 refine acalls_pure MixT func4 (by decide) rfl ?_
 obtain ⟨k,hk0⟩ : ∃ k : Value → AHeap → Prop,k = fun u H2 => u = Value.bool true ∧ ∃ X,H2 = H ++ X := ⟨_,rfl⟩
 rw [← hk0]
 have hk : ∀ M,Pre H M → k (.bool true) M := fun M p => by rw [hk0]; exact ⟨rfl,p⟩
 clear hk0
 rw [d4,cfg_new hr.one hm.one]
 simp only [bndE_some]
 obtain ⟨K,hK⟩ : ∃ K,K = H ++ [AObj.cells (c.cells rv mv) 42] := ⟨_,rfl⟩
 have hp : Pre H K := by rw [hK]; exact .app _ _
 have hc0 : hcells K H.length = some (c.cells rv mv) := by rw [hK]; simp
 rw [← hK]
 refine bnd_of (cfg_get hc0) ?_
 obtain ⟨t,htm,hcall⟩ := c_BBig (hr.pre hp) hw (hm.pre hp)
 refine bndC_of hcall ?_
 cases t with
 | true =>
   simp
   exact hk K hp
 | false =>
   have ht := htm rfl
   obtain ⟨s1,s2,_⟩ := id ht.small
   simp only [kifB_false]
   refine bnd_of (cfg_get hc0) ?_
   obtain ⟨rv',mv',K2,g1,g2,g3,g4⟩ := c_copyCfg (hr.pre hp) (hm.pre hp) ht.small
   refine bndC_of g1 ?_
   simp only [tal42,bndE_some]
   have p3 := g3.one
   have p4 := g4.one
   have hst : aStore prog (K2 ++ [.cells [.slice none 0 0,.slice none 0 0,.int .i64 0,.int .i64 0] 42]) 42 (.pointer (some ⟨K2.length,0,some 4⟩)) (.agg (c.cells rv' mv').toArray) = some (K2 ++ [.cells (c.cells rv' mv') 42]) := by
    simp [Cfg.cells,p3,p4]
   refine ⟨undef,_,⟨rfl,hst⟩,?_⟩
   dsimp only
   obtain ⟨M,hM⟩ : ∃ M,M = K2 ++ [AObj.cells (c.cells rv' mv') 42] := ⟨_,rfl⟩
   have pM2 : Pre K2 M := by rw [hM]; exact .app _ _
   have pM := g2.trans pM2
   have pHM := hp.trans pM
   have hc1 := pM.hcells hc0
   have hc2 : hcells M K2.length = some (c.cells rv' mv') := by rw [hM]; simp
   have rM := hr.pre pHM
   have mM := hm.pre pHM
   have rM' := g3.at.pre pM2
   have mM' : MutesAt M mv' c.mutes := ⟨g4.arr.pre pM2,hm.2⟩
   rw [← hM]
   clear hM hst
   refine bnd_of (cfg_get hc2) ?_
   refine bndD_same (c_config (by omega) (by omega) rM' mM') ?_
   refine bnd_of (cfg_get hc1) ?_
   refine bndD_same (r_config rM mM ht) ?_
   have z1 : ∀ n m,(c.cells n m).length = 4 := fun _ _ => rfl
   have z2 : ∀ n m,(c.cells n m).take 4 = c.cells n m := fun _ _ => rfl
   simp [hc1,hc2,z1,z2]
   refine bndD_gcall _ rfl (fun _ => r_sameCfg rM' rM mM' mM ht) ?_
   simp
   exact hk M pHM
end
end Go.Vi
