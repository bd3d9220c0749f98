/- CheckTwice: the walk. -/
import Derived.Test.YtamjmjfppmnlcaaGreatDoorJ6
namespace Go.Vi
open Go Go.Proofs

theorem mut_lit {K : AHeap} (m : Mut) (hd : m.cells.length = 10) : sliceLit Tryz.prog K 23 1 [(0, .agg m.cells.toArray)] (.slice (some ⟨K.length, 0, some 10⟩) 1 1) (K ++ [.cells m.cells 38]) := by
  have := sliceLitA (c := m.cells) (tbs23 K 1 _) (by rw [hd]; rfl) m.one (by decide)
  rwa [hd] at this
theorem mut_len {m : Mut} (h : m.days.length = 7) : m.cells.length = 10 := by simp [Mut.cells, h]
theorem Gro.setT {T' : TypeId} {K lo z T v cl} {b : Nat} {cs : List Value} {o : AObj} (h : Gro K lo z T v cl) (hb : K[b]? = some (.cells cs T')) (hT : T ≠ T') : Gro (K.set b o) lo z T v cl := by
  cases h with
  | nil => exact .nil
  | mk bb cl h1 h2 h3 h4 =>
    refine .mk bb cl h1 ?_ h3 h4
    rw [List.getElem?_set_ne]
    · exact h2
    · rintro rfl; rw [hb] at h2; cases h2; exact hT rfl
theorem RRow.kt {T' : TypeId} {K K' lo v rs} (h : RRow K lo v rs) (hk : KT T' K K') (h1 : 34 ≠ T') (h2 : 75 ≠ T') (h3 : 92 ≠ T') (h4 : 9 ≠ T') : RRow K' lo v rs := by
  obtain ⟨cl, q1, q2, q3⟩ := h
  refine ⟨cl, q1.kt hk h1, q2, fun i n hi => ?_⟩
  obtain ⟨nv, mv, e1, e2, e3, e4⟩ := q3 i n hi
  exact ⟨nv, mv, e1, e2.kt hk h2 h3, e3.kt hk h4, e4⟩
def RRowX (K : AHeap) (lo : Nat) (v : Value) (rs : List Rul) (r : Rul) (nv0 mv0 : Value) : Prop := ∃ cl, Gro K lo 8 34 v (cl ++ [r.cells nv0 mv0]) ∧ cl.length = rs.length ∧ ∀ (i : Nat) r, rs[i]? = some r → ∃ nv mv, cl[i]? = some (r.cells nv mv) ∧ NRow K lo nv r.nodes ∧ Gro K lo 1 9 mv (strCells r.mutes) ∧ r.mutes.length < 2 ^ 63
theorem NRow.setT {T' : TypeId} {K lo v ns} {b : Nat} {cs : List Value} {o : AObj} (h : NRow K lo v ns) (hb : K[b]? = some (.cells cs T')) (h1 : 75 ≠ T') (h2 : 92 ≠ T') : NRow (K.set b o) lo v ns := by
  obtain ⟨cl, q1, q2, h3⟩ := h
  refine ⟨cl, q1.setT hb h1, q2, fun i n hi => ?_⟩
  obtain ⟨sv, q1, q2, q3⟩ := h3 i n hi
  exact ⟨sv, q1, q2.setT hb h2, q3⟩
theorem RRowX.setT {T' : TypeId} {K lo v rs r nv0 mv0} {b : Nat} {cs : List Value} {o : AObj} (h : RRowX K lo v rs r nv0 mv0) (hb : K[b]? = some (.cells cs T')) (h1 : 34 ≠ T') (h2 : 75 ≠ T') (h3 : 92 ≠ T') (h4 : 9 ≠ T') : RRowX (K.set b o) lo v rs r nv0 mv0 := by
  obtain ⟨cl, q1, q2, q3⟩ := h
  refine ⟨cl, q1.setT hb h1, q2, fun i n hi => ?_⟩
  obtain ⟨nv, mv, e1, e2, e3, e4⟩ := q3 i n hi
  exact ⟨nv, mv, e1, e2.setT hb h2 h3, e3.setT hb h4, e4⟩
theorem RRowX.at {K lo v rs r nv0 mv0} (h : RRowX K lo v rs r nv0 mv0) (h1 : NodesAt K nv0 r.nodes) (h2 : Arr K 1 mv0 (strCells r.mutes)) (h3 : r.mutes.length < 2 ^ 63) : RulesAt K v (rs ++ [r]) := by
  obtain ⟨cl, q1, q2, q3⟩ := h
  refine ⟨_, q1.arr, by simp [q2], fun i m hi => ?_⟩
  rcases get_snoc hi with ⟨hlt, hi⟩ | ⟨rfl, rfl⟩
  · obtain ⟨nv', mv', e1, e2, e3, e4⟩ := q3 i m hi
    exact ⟨nv', mv', by rw [List.getElem?_append_left (by omega)]; exact e1, e2.at, e3.arr, e4⟩
  · exact ⟨nv0, mv0, by rw [List.getElem?_append_right (by omega), q2]; simp, h1, h2, h3⟩
theorem RRow.pushX {K lo v rs} (h : RRow K lo v rs) (r : Rul) (nv mv : Value) (hrs : rs.length + 1 ≤ 2 ^ 30) (hlo : lo ≤ K.length) :
    ∃ v' K2, aBuiltin Tryz.prog (K ++ [AObj.cells (r.cells nv mv) 34]) .append #[22, 22] [v, .slice (some ⟨K.length, 0, some 8⟩) 1 1] = some (v', K2) ∧
      v'.cells = #[v'] ∧ v'.oneCell' = true ∧ storable v' = true ∧ RRowX K2 lo v' rs r nv mv ∧ (∀ H, Pre H K → H.length ≤ lo → Pre H K2) ∧ KT 34 K K2 := by
  obtain ⟨cl, hg, hcl, hall⟩ := h
  obtain ⟨v', K2, q1, q2, q3, q4, q5, q6⟩ := Gro.pushK (P := Tryz.prog) (Ts := 22) (by_ := 120) (x := .slice (some ⟨K.length, 0, some 8⟩) 1 1) (c := r.cells nv mv) (hg.app (X := [AObj.cells (r.cells nv mv) 34])) rel1 rel2 (by rfl) (by simp; omega) (by simp [aSrc, Rul.cells]) (by omega) (by omega)
  refine ⟨v', K2, q1, q2.cells, q2.one, q2.stor, ⟨cl, q2, hcl, fun i m hi => ?_⟩, fun H p hH => q5 H (p.more _) hH, fun b o hb hne => q6 b o (get_more hb) hne⟩
  obtain ⟨nv', mv', e1, e2, e3, e4⟩ := hall i m hi
  exact ⟨nv', mv', e1, (e2.fr fun b o _ ho => get_more (X := [AObj.cells (r.cells nv mv) 34]) ho).kt q6 (by decide) (by decide), e3.app.kt q6 (by decide), e4⟩
theorem mutesAt_gro {K : AHeap} {lo : Nat} {v : Value} {ms : List Mut} (h : Gro K lo 10 38 v (ms.map Mut.cells)) (hd : ∀ m ∈ ms, m.days.length = 7) : MutesAt K v ms := ⟨h.arr, hd⟩
section
variable {c : Cfg} {H : AHeap} {rv mv : Value} {b : Nat} {k : Value → AHeap → Prop}
theorem two_x1 (hr0 : RulesAt H rv c.rules) (hm0 : MutesAt H mv c.mutes) (hs : c.small) (hk : ∀ K, Pre H K → k (.bool true) K) :
    ∀ (l : List Mut) (i : Nat) (K : AHeap) (s0 s2 s3 s4 s5 s7 s8 s9 s10 s11 s12 s13 s14 s15 s16 s17 s18 s19 s20 s21 s22 s23 s24 s25 s26 s27 s28 s29 s30 s31 s32 s33 s34 s35 s36 s37 s38 s39 s40 s41 s42 s43 s44 s45 s46 s47 s48 s49 s50 s51 s52 s53 s54 s55 s56 s57 s58 s59 s60 s61 s62 s63 s64 s65 s66 s67 s68 s69 s70 s71 s72 s73 s74 s75 s76 s77 : Value), c.mutes.drop i = l → i ≤ c.mutes.length → Pre H K → hcells K b = some (c.cells rv mv) →
      L4x1 (l.length + 1) k [s0, .pointer (some ⟨b, 0, some 4⟩), s2, s3, s4, s5, i64 i, s7, s8, s9, s10, s11, s12, s13, s14, s15, s16, s17, s18, s19, s20, s21, s22, s23, s24, s25, s26, s27, s28, s29, s30, s31, s32, s33, s34, s35, s36, s37, s38, s39, s40, s41, s42, s43, s44, s45, s46, s47, s48, s49, s50, s51, s52, s53, s54, s55, s56, s57, s58, s59, s60, s61, s62, s63, s64, s65, s66, s67, s68, s69, s70, s71, s72, s73, s74, s75, s76, s77] K := by
  intro l
  induction l with
  | nil =>
    intro i K s0 s2 s3 s4 s5 s7 s8 s9 s10 s11 s12 s13 s14 s15 s16 s17 s18 s19 s20 s21 s22 s23 s24 s25 s26 s27 s28 s29 s30 s31 s32 s33 s34 s35 s36 s37 s38 s39 s40 s41 s42 s43 s44 s45 s46 s47 s48 s49 s50 s51 s52 s53 s54 s55 s56 s57 s58 s59 s60 s61 s62 s63 s64 s65 s66 s67 s68 s69 s70 s71 s72 s73 s74 s75 s76 s77 hd hi hp hc
    have hle : c.mutes.length ≤ i := by simpa using hd
    have hl := (hm0.pre hp).lenM K
    have hl4 : hlen K b = some 4 := by rw [hcells_len hc]; rfl
    rw [List.length_nil, L4x1q]
    have : ¬ i < c.mutes.length := by omega
    simp [hc, hl4, Cfg.cells, hl, this]
    exact hk K hp
  | cons x l ih =>
    intro i K s0 s2 s3 s4 s5 s7 s8 s9 s10 s11 s12 s13 s14 s15 s16 s17 s18 s19 s20 s21 s22 s23 s24 s25 s26 s27 s28 s29 s30 s31 s32 s33 s34 s35 s36 s37 s38 s39 s40 s41 s42 s43 s44 s45 s46 s47 s48 s49 s50 s51 s52 s53 s54 s55 s56 s57 s58 s59 s60 s61 s62 s63 s64 s65 s66 s67 s68 s69 s70 s71 s72 s73 s74 s75 s76 s77 hd hi hp hc
    have hb : c.mutes[i]? = some x := by rw [← List.head?_drop, hd]; rfl
    have hlt : i < c.mutes.length := (List.getElem?_eq_some_iff.1 hb).1
    have hl := (hm0.pre hp).lenM K
    have hl4 : hlen K b = some 4 := by rw [hcells_len hc]; rfl
    have hrv := hr0.one
    have hmv := hm0.one
    have h10 := mut_len (hm0.2 x (List.mem_of_getElem? hb))
    rw [List.length_cons, L4x1q]
    simp [hc, hl4, Cfg.cells, hl, hlt]
    obtain ⟨rv', mv', K1, g1, g2, g3, g4⟩ := c_copyCfg (hr0.pre hp) (hm0.pre hp) hs
    refine bndC_of g1 ?_
    have w1 := g3.one
    have w2 := g4.one
    have hpl : H.length ≤ K.length := by obtain ⟨X, rfl⟩ := hp; simp
    have hc1 : hcells (K1 ++ [.cells [rv', mv', i64 c.late, i64 c.limit] 25]) b = some (c.cells rv mv) := hcells_more (g2.hcells hc)
    have hl41 : hlen (K1 ++ [.cells [rv', mv', i64 c.late, i64 c.limit] 25]) b = some 4 := by rw [hcells_len hc1]; rfl
    obtain ⟨p, hp1, hp2⟩ := (hm0.pre ((hp.trans g2).more [.cells [rv', mv', i64 c.late, i64 c.limit] 25])).1.load (P := Tryz.prog) (T := 23) (te := 38) (i := i) (e := x.cells) (by simp) (by simp) (by simp) (by simp [hb])
    simp [Cfg.cells, w1, w2, hc1, hl41, hp1, hp2]
    refine bndD_of (mut_lit x h10) (.inr ⟨_, rfl⟩) ?_
    dsimp only
    have hsm := hs.2.1
    obtain ⟨v', K2, q1, q2, q3, q4, q5, q6⟩ := Gro.pushK (P := Tryz.prog) (Ts := 23) (by_ := 40) (lo := K.length) (K := K1 ++ [.cells [rv', mv', i64 c.late, i64 c.limit] 25] ++ [.cells x.cells 38]) (x := .slice (some ⟨(K1 ++ [AObj.cells [rv', mv', i64 c.late, i64 c.limit] 25]).length, 0, some 10⟩) 1 1) (c := x.cells) g4.app.app mel1 mel2 h10 (by obtain ⟨X, rfl⟩ := g2; simp) (by simp [aSrc, h10]; exact List.take_of_length_le (by omega)) (by simp; omega) (by simp; omega)
    refine bndD_of q1 (.inl rfl) ?_
    have ec := q6 K1.length (.cells [rv', mv', i64 c.late, i64 c.limit] 25) (get_more (by simp)) (by intro cs e; cases e)
    have hK1 : K1.length < K2.length := (List.getElem?_eq_some_iff.1 ec).1
    obtain ⟨ec1, ec2⟩ := cellF ec
    have hKl : K.length ≤ K1.length := by obtain ⟨X, rfl⟩ := g2; simp
    have hp2 : Pre K K2 := q5 K ((g2.more _).more _) (Nat.le_refl _)
    simp [ec2]
    refine bndD_of (v := undef) (H' := K2.set K1.length (.cells [rv', v', i64 c.late, i64 c.limit] 25)) ⟨rfl, by simp [ec, q2.cells, q2.stor]⟩ (.inl rfl) ?_
    have hp3 : Pre K (K2.set K1.length (.cells [rv', v', i64 c.late, i64 c.limit] 25)) := hp2.set hKl
    have ed : (K2.set K1.length (.cells [rv', v', i64 c.late, i64 c.limit] 25))[K1.length]? = some (.cells [rv', v', i64 c.late, i64 c.limit] 25) := List.getElem?_set_self hK1
    have hrr : RRow (K2.set K1.length (.cells [rv', v', i64 c.late, i64 c.limit] 25)) K.length rv' c.rules := by
      refine g3.kt (T' := 38) (fun b o hb hne => ?_) (by decide) (by decide) (by decide) (by decide)
      have hbl : b < K1.length := (List.getElem?_eq_some_iff.1 hb).1
      rw [List.getElem?_set_ne (by omega)]
      exact q6 b o (get_more (get_more hb)) hne
    have hmm : Gro (K2.set K1.length (.cells [rv', v', i64 c.late, i64 c.limit] 25)) K.length 10 38 v' (c.mutes.map Mut.cells ++ [x.cells]) := q2.setT ec (by decide)
    dsimp only
    generalize K2.set K1.length (.cells [rv', v', i64 c.late, i64 c.limit] 25) = K3 at hp3 ed hrr hmm ⊢
    obtain ⟨ed1, ed2⟩ := cellF ed
    have hrs := hs.1
    have hx := List.mem_of_getElem? hb
    simp [ed1]
    refine bndC_of (c_config (c := ⟨c.rules, c.mutes ++ [x], c.late, c.limit⟩) (rv := rv') (mv := v') (by simp; omega) (by simp; omega) hrr.at (mutesAt_gro (lo := K.length) (by simpa using hmm) fun m hm => ?_)) ?_
    · rcases List.mem_append.1 hm with hm | hm
      · exact hm0.2 m hm
      · simp at hm; subst hm; exact hm0.2 m hx
    rw [twice_mute hx]
    simp [errno, show i + 1 < 2 ^ 63 by omega]
    exact ih (i + 1) K3 _ _ _ _ _ _ _ _ _ _ _ _ _ _ _ _ _ _ _ _ _ _ _ _ _ _ _ _ _ _ _ _ _ _ _ _ _ _ _ _ _ _ _ _ _ _ _ _ _ _ _ _ _ _ _ _ _ _ _ _ _ _ _ _ _ _ _ _ _ _ _ _ _ _ _ _ (by rw [← List.drop_drop, hd]; rfl) hlt (hp.trans hp3) (hp3.hcells hc)
theorem two_x0 (hr0 : RulesAt H rv c.rules) (hm0 : MutesAt H mv c.mutes) (hs : c.small) (hk : ∀ K, Pre H K → k (.bool true) K) :
    ∀ (l : List Rul) (i : Nat) (K : AHeap) (s0 s2 s4 s5 s6 s7 s8 s9 s10 s11 s12 s13 s14 s15 s16 s17 s18 s19 s20 s21 s22 s23 s24 s25 s26 s27 s28 s29 s30 s31 s32 s33 s34 s35 s36 s37 s38 s39 s40 s41 s42 s43 s44 s45 s46 s47 s48 s49 s50 s51 s52 s53 s54 s55 s56 s57 s58 s59 s60 s61 s62 s63 s64 s65 s66 s67 s68 s69 s70 s71 s72 s73 s74 s75 s76 s77 : Value), c.rules.drop i = l → i ≤ c.rules.length → Pre H K → hcells K b = some (c.cells rv mv) →
      L4x0 (l.length + 1) k [s0, .pointer (some ⟨b, 0, some 4⟩), s2, i64 i, s4, s5, s6, s7, s8, s9, s10, s11, s12, s13, s14, s15, s16, s17, s18, s19, s20, s21, s22, s23, s24, s25, s26, s27, s28, s29, s30, s31, s32, s33, s34, s35, s36, s37, s38, s39, s40, s41, s42, s43, s44, s45, s46, s47, s48, s49, s50, s51, s52, s53, s54, s55, s56, s57, s58, s59, s60, s61, s62, s63, s64, s65, s66, s67, s68, s69, s70, s71, s72, s73, s74, s75, s76, s77] K := by
  intro l
  induction l with
  | nil =>
    intro i K s0 s2 s4 s5 s6 s7 s8 s9 s10 s11 s12 s13 s14 s15 s16 s17 s18 s19 s20 s21 s22 s23 s24 s25 s26 s27 s28 s29 s30 s31 s32 s33 s34 s35 s36 s37 s38 s39 s40 s41 s42 s43 s44 s45 s46 s47 s48 s49 s50 s51 s52 s53 s54 s55 s56 s57 s58 s59 s60 s61 s62 s63 s64 s65 s66 s67 s68 s69 s70 s71 s72 s73 s74 s75 s76 s77 hd hi hp hc
    have hle : c.rules.length ≤ i := by simpa using hd
    have hl := (hr0.pre hp).lenR K
    have hl4 : hlen K b = some 4 := by rw [hcells_len hc]; rfl
    rw [List.length_nil, L4x0q]
    have : ¬ i < c.rules.length := by omega
    simp [hc, hl4, Cfg.cells, hl, this]
    exact ⟨c.mutes.length + 1, two_x1 (H := H) (c := c) (rv := rv) (mv := mv) (b := b) hr0 hm0 hs hk c.mutes 0 K _ _ _ _ _ _ _ _ _ _ _ _ _ _ _ _ _ _ _ _ _ _ _ _ _ _ _ _ _ _ _ _ _ _ _ _ _ _ _ _ _ _ _ _ _ _ _ _ _ _ _ _ _ _ _ _ _ _ _ _ _ _ _ _ _ _ _ _ _ _ _ _ _ _ _ _ rfl (by omega) hp hc⟩
  | cons x l ih =>
    intro i K s0 s2 s4 s5 s6 s7 s8 s9 s10 s11 s12 s13 s14 s15 s16 s17 s18 s19 s20 s21 s22 s23 s24 s25 s26 s27 s28 s29 s30 s31 s32 s33 s34 s35 s36 s37 s38 s39 s40 s41 s42 s43 s44 s45 s46 s47 s48 s49 s50 s51 s52 s53 s54 s55 s56 s57 s58 s59 s60 s61 s62 s63 s64 s65 s66 s67 s68 s69 s70 s71 s72 s73 s74 s75 s76 s77 hd hi hp hc
    have hb : c.rules[i]? = some x := by rw [← List.head?_drop, hd]; rfl
    have hlt : i < c.rules.length := (List.getElem?_eq_some_iff.1 hb).1
    have hl := (hr0.pre hp).lenR K
    have hl4 : hlen K b = some 4 := by rw [hcells_len hc]; rfl
    have hrv := hr0.one
    have hmv := hm0.one
    rw [List.length_cons, L4x0q]
    simp [hc, hl4, Cfg.cells, hl, hlt]
    obtain ⟨rv', mv', K1, g1, g2, g3, g4⟩ := c_copyCfg (hr0.pre hp) (hm0.pre hp) hs
    refine bndC_of g1 ?_
    have w1 := g3.one
    have w2 := g4.one
    have hpl : H.length ≤ K.length := by obtain ⟨X, rfl⟩ := hp; simp
    have hKl : K.length ≤ K1.length := by obtain ⟨X, rfl⟩ := g2; simp
    have hc1 : hcells (K1 ++ [.cells [rv', mv', i64 c.late, i64 c.limit] 25]) b = some (c.cells rv mv) := hcells_more (g2.hcells hc)
    have hl41 : hlen (K1 ++ [.cells [rv', mv', i64 c.late, i64 c.limit] 25]) b = some 4 := by rw [hcells_len hc1]; rfl
    have hpK : Pre H (K1 ++ [.cells [rv', mv', i64 c.late, i64 c.limit] 25]) := (hp.trans g2).more _
    obtain ⟨cl, ha, hcl, hcc⟩ := id hr0
    obtain ⟨nv, xv, hx, hn, hxm, hxl⟩ := hcc _ _ hb
    obtain ⟨q, hp1, hp2⟩ := (ha.pre hpK).load (P := Tryz.prog) (T := 22) (te := 34) (i := i) (e := x.cells nv xv) (by simp) (by simp) (by simp) hx
    have hn1 : nv.oneCell' = true := by obtain ⟨_, h, _⟩ := hn; exact h.one
    have hx1 := hxm.one
    simp [Cfg.cells, w1, w2, hc1, hl41, hp1, hp2]
    clear hp1 hp2
    refine bndD_of (rul_lit x hn1 hx1) (.inr ⟨_, rfl⟩) ?_
    dsimp only
    have hrs := hs.1
    have hms := hs.2.1
    obtain ⟨v', K2, q1, u1, u2, u3, hX, q7, q6⟩ := (g3.fr (K' := K1 ++ [AObj.cells [rv', mv', i64 c.late, i64 c.limit] 25]) fun b o _ ho => get_more ho).pushX x nv xv (by omega) (by simp; omega)
    refine bndD_of q1 (.inl rfl) ?_
    have hp2 : Pre K K2 := q7 K (g2.more _) (Nat.le_refl _)
    have ec := q6 K1.length (.cells [rv', mv', i64 c.late, i64 c.limit] 25) (by simp) (by intro cs e; cases e)
    have hK1 : K1.length < K2.length := (List.getElem?_eq_some_iff.1 ec).1
    obtain ⟨ec1, ec2⟩ := cellF ec
    simp [ec2]
    refine bndD_of (v := undef) (H' := K2.set K1.length (.cells [v', mv', i64 c.late, i64 c.limit] 25)) ⟨rfl, by simp [ec, u1, u3]⟩ (.inl rfl) ?_
    have hp3 : Pre K (K2.set K1.length (.cells [v', mv', i64 c.late, i64 c.limit] 25)) := hp2.set hKl
    have ed : (K2.set K1.length (.cells [v', mv', i64 c.late, i64 c.limit] 25))[K1.length]? = some (.cells [v', mv', i64 c.late, i64 c.limit] 25) := List.getElem?_set_self hK1
    have hrr := hX.setT (o := .cells [v', mv', i64 c.late, i64 c.limit] 25) ec (by decide) (by decide) (by decide) (by decide)
    have hmm : Gro (K2.set K1.length (.cells [v', mv', i64 c.late, i64 c.limit] 25)) K.length 10 38 mv' (c.mutes.map Mut.cells) := (g4.kt (K' := K2) (T' := 34) (fun b o hb hne => q6 b o (get_more hb) hne) (by decide)).setT ec (by decide)
    dsimp only
    generalize K2.set K1.length (.cells [v', mv', i64 c.late, i64 c.limit] 25) = K3 at hp3 ed hrr hmm ⊢
    obtain ⟨ed1, ed2⟩ := cellF ed
    have hxi := List.mem_of_getElem? hb
    have hp03 := hp.trans hp3
    simp [ed1]
    refine bndC_of (c_config (c := ⟨c.rules ++ [x], c.mutes, c.late, c.limit⟩) (rv := v') (mv := mv') (by simp; omega) (by simp; omega) (hrr.at (hn.pre hp03) (hxm.pre hp03) hxl) (mutesAt_gro (lo := K.length) (by simpa using hmm) hm0.2)) ?_
    rw [twice_rule hxi]
    have hc3 := hp3.hcells hc
    have hl43 : hlen K3 b = some 4 := by rw [hcells_len hc3]; rfl
    obtain ⟨p, q, f1, f2, f3⟩ := (ha.pre hp03).field (P := Tryz.prog) (T := 22) (te := 34) (ft := 31) (f := 2) (d := 2) (i := i) (x := nv) (by simp) (by simp) (by simp) (by simp) (by simp) hx rfl
    simp [errno, hc3, hl43, Cfg.cells, f1, f2, f3]
    obtain ⟨sm1, sm2, sm3⟩ := hs.2.2 x hxi
    refine bndC_of (c_window (hn.pre hp03) (by omega)) ?_
    obtain ⟨p', g1', g2'⟩ := (ha.pre hp03).load (P := Tryz.prog) (T := 22) (te := 34) (i := i) (e := x.cells nv xv) (by simp) (by simp) (by simp) hx
    simp [hc3, hl43, Cfg.cells, g1', g2']
    refine bndC_of (c_rule (r := x) (hn.pre hp03) (hxm.pre hp03) hxl) ?_
    have hi1 : i + 1 < 2 ^ 63 := by omega
    have hgo : ∀ (s0 s2 s4 s5 s6 s7 s8 s9 s10 s11 s12 s13 s14 s15 s16 s17 s18 s19 s20 s21 s22 s23 s24 s25 s26 s27 s28 s29 s30 s31 s32 s33 s34 s35 s36 s37 s38 s39 s40 s41 s42 s43 s44 s45 s46 s47 s48 s49 s50 s51 s52 s53 s54 s55 s56 s57 s58 s59 s60 s61 s62 s63 s64 s65 s66 s67 s68 s69 s70 s71 s72 s73 s74 s75 s76 s77 : Value), L4x0 (l.length + 1) k [s0, .pointer (some ⟨b, 0, some 4⟩), s2, i64 ((i + 1 : Nat) : Int), s4, s5, s6, s7, s8, s9, s10, s11, s12, s13, s14, s15, s16, s17, s18, s19, s20, s21, s22, s23, s24, s25, s26, s27, s28, s29, s30, s31, s32, s33, s34, s35, s36, s37, s38, s39, s40, s41, s42, s43, s44, s45, s46, s47, s48, s49, s50, s51, s52, s53, s54, s55, s56, s57, s58, s59, s60, s61, s62, s63, s64, s65, s66, s67, s68, s69, s70, s71, s72, s73, s74, s75, s76, s77] K3 := fun s0 s2 s4 s5 s6 s7 s8 s9 s10 s11 s12 s13 s14 s15 s16 s17 s18 s19 s20 s21 s22 s23 s24 s25 s26 s27 s28 s29 s30 s31 s32 s33 s34 s35 s36 s37 s38 s39 s40 s41 s42 s43 s44 s45 s46 s47 s48 s49 s50 s51 s52 s53 s54 s55 s56 s57 s58 s59 s60 s61 s62 s63 s64 s65 s66 s67 s68 s69 s70 s71 s72 s73 s74 s75 s76 s77 => ih (i + 1) K3 _ _ _ _ _ _ _ _ _ _ _ _ _ _ _ _ _ _ _ _ _ _ _ _ _ _ _ _ _ _ _ _ _ _ _ _ _ _ _ _ _ _ _ _ _ _ _ _ _ _ _ _ _ _ _ _ _ _ _ _ _ _ _ _ _ _ _ _ _ _ _ _ _ _ _ _ (by rw [← List.drop_drop, hd]; rfl) hlt hp03 hc3
    clear ih
    cases hmb : x.mayB with
    | false =>
      simp [errno, hi1]
      exact hgo _ _ _ _ _ _ _ _ _ _ _ _ _ _ _ _ _ _ _ _ _ _ _ _ _ _ _ _ _ _ _ _ _ _ _ _ _ _ _ _ _ _ _ _ _ _ _ _ _ _ _ _ _ _ _ _ _ _ _ _ _ _ _ _ _ _ _ _ _ _ _ _ _ _ _ _
    | true =>
      obtain ⟨r1, r2⟩ := right_widest (mayB_right hmb)
      have r1' : ¬ widest 0 x.nodes < 1 := by omega
      have r2' : ¬ 1000 < widest 0 x.nodes := by omega
      simp [errno, hi1, r1', r2']
      exact hgo _ _ _ _ _ _ _ _ _ _ _ _ _ _ _ _ _ _ _ _ _ _ _ _ _ _ _ _ _ _ _ _ _ _ _ _ _ _ _ _ _ _ _ _ _ _ _ _ _ _ _ _ _ _ _ _ _ _ _ _ _ _ _ _ _ _ _ _ _ _ _ _ _ _ _ _
theorem w_twice {H : AHeap} {c : Cfg} {rv mv : Value} (hr : RulesAt H rv c.rules) (hm : MutesAt H mv c.mutes) : ACalls Tryz.prog 4 [.agg (c.cells rv mv).toArray] H (.bool true) H := by
  refine acalls_pure MixT Tryz.func4 (by decide) rfl ?_
  rw [d4]
  have h1 := hr.one
  have h2 := hm.one
  have e0 : ∀ v ∈ c.cells rv mv, v.oneCell' = true := by simp [Cfg.cells, h1, h2]
  rw [aNew_agg (by simpa [storable] using e0)]
  simp only [bndE_some]
  refine bndC_of (c_awake _) ?_
  have hc : hcells (H ++ [AObj.cells (c.cells rv mv) 25]) H.length = some (c.cells rv mv) := by simp
  have hp : Pre H (H ++ [AObj.cells (c.cells rv mv) 25]) := .app _ _
  simp [Cfg.cells]
  simp only [Cfg.cells] at hc hp
  obtain ⟨t, ht, hcall⟩ := c_Big (hr.pre hp) (hm.pre hp)
  refine bndC_of hcall ?_
  simp
  refine kifB_bool (fun h => ⟨rfl, hp⟩) (fun h => ?_)
  have hl := two_x0 (H := H) (c := c) (rv := rv) (mv := mv) (b := H.length) (k := fun u H2 => u = .bool true ∧ Pre H H2) hr hm (ht h) (fun K p => ⟨rfl, p⟩) c.rules 0
  exact ⟨c.rules.length + 1, hl _ _ _ _ _ _ _ _ _ _ _ _ _ _ _ _ _ _ _ _ _ _ _ _ _ _ _ _ _ _ _ _ _ _ _ _ _ _ _ _ _ _ _ _ _ _ _ _ _ _ _ _ _ _ _ _ _ _ _ _ _ _ _ _ _ _ _ _ _ _ _ _ _ _ _ _ _ rfl (by omega) hp hc⟩
end
end Go.Vi
