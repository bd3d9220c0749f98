/- ExprFrom: the walk. What is read lies in memory of its own. Texts in parentheses: what Parse tells of them. ExprReads: the walk. -/
import Derived.Test.YtpkdgmcfojjfjaaGreatDoorJExprReads6
namespace Go.Vi
open Go Go.Proofs

theorem nodes_sel {H : AHeap} {v : Value} {ns : List Nod} (h : NodesAt H v ns) : ∀ n ∈ ns, n.sel.length < 2 ^ 63 := by
  intro n hn
  obtain ⟨cl, _, _, h3⟩ := h
  obtain ⟨i, hi⟩ := List.getElem?_of_mem hn
  obtain ⟨sv, _, _, h4⟩ := h3 i n hi
  omega
section
variable {H : AHeap} {lv mv nv wv : Value} {ts : List Tok} {T : List RTk} {ns : List Nod} {k : Value → AHeap → Prop}
end
end Go.Vi
namespace Go.Vi
open Go Go.Proofs

theorem g_readN {H lv ts} {at' : Int} (hg : Pre Gs H) (hn : NumTok ts) (htl : ts.length ≤ 2 ^ 20) (hts : ToksAt H lv ts) :
    ∃ v K', ACalls Tryz.prog 18 [lv, i64 at'] H (.tuple #[v, i64 (readF ts at').2.1, i64 (readF ts at').2.2]) K' ∧ Pre H K' ∧ NL K' H.length v (readF ts at').1 ∧ ((readF ts at').2.2 ≠ 0 → v = .slice none 0 0) := by
  have key : ∃ v K', (∃ u, v = .tuple #[u, i64 (readF ts at').2.1, i64 (readF ts at').2.2] ∧ Pre H K' ∧ NL K' H.length u (readF ts at').1 ∧ ((readF ts at').2.2 ≠ 0 → u = .slice none 0 0)) ∧ ACalls Tryz.prog 18 [lv, i64 at'] H v K' := by
    refine acalls_ex MixT Tryz.func18 (by decide) ?_
    rw [d18]
    have hl0 := hts.len (P := Tryz.prog) (T := 23) (e := 70) (by simp)
    simp at hl0
    by_cases h0 : at' < 0
    · simp [h0, readF]
      exact ⟨.refl _, NL.nil⟩
    by_cases h1 : at' ≥ ts.length
    · have h1' : (ts.length : Int) ≤ at' := h1
      simp [h0, hl0, h1', readF]
      exact ⟨.refl _, NL.nil⟩
    have h1' : ¬ (ts.length : Int) ≤ at' := h1
    have hat : ((at'.toNat : Nat) : Int) = at' := by omega
    have hrd : RdA H (H ++ [rdo lv at'.toNat true]) H.length lv ts at'.toNat true := ⟨hts, .app _ _, Nat.le_refl _, by simp, by omega, by omega⟩
    obtain ⟨v, K1, g1, g2, ns, g3, g4, g5⟩ := g_condition hg hn htl (a := at'.toNat) hrd
    have hb1 := Arr.one hts
    obtain ⟨hb2, hb3⟩ := arr_cell hts
    simp only [rdo, hat] at g1
    simp [h0, hl0, h1', aNew, hb1, hb2, hb3]
    refine bndC_of g1 ?_
    have hpre := g2.pre
    obtain ⟨a1, c1, c2, c3, _⟩ := RdS.cells g2
    have hcc : hcells K1 H.length = some [lv, i64 a1, .bool ((conO ts at'.toNat).map (·.2)).isSome] := by rw [hcells_eq, c1]; rfl
    have hll : Vi.hlen K1 H.length = some 3 := by unfold Vi.hlen; rw [c1]; rfl
    have hnl := g3.len K1
    have hcond : ¬ (at' < 0 ∨ at' ≥ ts.length) := by omega
    unfold readF
    rw [if_neg hcond]
    cases hc : conO ts at'.toNat with
    | none =>
      rw [hc] at hcc
      simp [hcc, hll]
      exact ⟨hpre, NL.nil⟩
    | some p =>
      rw [hc] at hcc c3
      have e := g5 p hc
      subst e
      have ea := c3 p.2 rfl
      subst ea
      by_cases h31 : (p.1.length : Int) > 31
      · have h31' : (31 : Int) < p.1.length := by omega
        simp [hcc, hll, hnl, h31']
        exact ⟨hpre, NL.nil⟩
      · have h31' : ¬ (31 : Int) < p.1.length := by omega
        simp [hcc, hll, hnl, h31']
        exact ⟨hpre, g3.weak (by simp; omega)⟩
  obtain ⟨v, K', ⟨u, rfl, h1, h2⟩, hy⟩ := key
  exact ⟨u, K', hy, h1, h2⟩
theorem g_parseN {H : AHeap} {s : List UInt8} (hg : Pre Gs H) :
    ∃ v K', ACalls Tryz.prog 17 [str s] H (.tuple #[v, i64 (parseF s).2]) K' ∧ Pre H K' ∧ NL K' H.length v (parseF s).1 := by
  have key : ∃ v K', (∃ u, v = .tuple #[u, i64 (parseF s).2] ∧ Pre H K' ∧ NL K' H.length u (parseF s).1) ∧ ACalls Tryz.prog 17 [str s] H v K' := by
    refine acalls_ex MixT Tryz.func17 (by decide) ?_
    rw [d17]
    obtain ⟨v, K1, ⟨lv, rfl, g1, g2⟩, g3⟩ := c_lexAll H s
    refine bndC_of g3 ?_
    obtain ⟨hn, hlen⟩ := allTok_ok (l := s)
    by_cases he : (allTok s).2.2 = 0
    · have hp : parseF s = match conO (allTok s).1 0 with
          | none => ([], 100)
          | some p => if p.2 ≠ (allTok s).1.length then ([], 100) else if (p.1.length : Int) > 31 then ([], 4) else (p.1, 0) := by unfold parseF; (rw [if_neg (by simpa using he)] <;> rfl)
      obtain ⟨u, K2, q1, q2, q3, q4⟩ := g_readN (at' := 0) (hg.trans g1) hn (by omega) g2
      have hl0 := fun J => g2.len' (K := J) (P := Tryz.prog) (T := 23) (e := 70) (by simp)
      simp at hl0
      simp [he]
      rw [hp]
      have hr : readF (allTok s).1 0 = match conO (allTok s).1 0 with
          | none => ([], 0, 100)
          | some p => if (p.1.length : Int) > 31 then ([], 0, 4) else (p.1, p.2, 0) := by
        unfold readF
        by_cases hts : (0 : Int) ≥ (allTok s).1.length
        · have : (allTok s).1 = [] := List.eq_nil_of_length_eq_zero (by omega)
          rw [if_pos (.inr hts), this, conO_nil]
        · rw [if_neg (by omega)]; rfl
      cases hc : conO (allTok s).1 0 with
      | none =>
        rw [hc] at hr
        rw [hr] at q1 q3 q4
        refine bndC_of q1 ?_
        simp
        exact ⟨g1.trans q2, NL.nil⟩
      | some p =>
        rw [hc] at hr
        simp only at hr ⊢
        by_cases h31 : (p.1.length : Int) > 31
        · rw [if_pos h31] at hr
          rw [hr] at q1 q3 q4
          have h31' : (31 : Int) < p.1.length := h31
          refine bndC_of q1 ?_
          simp
          have hrd : RdA K1 (K2 ++ [rdo lv 0 true]) K2.length lv (allTok s).1 0 true := ⟨g2, q2.more _, by obtain ⟨X, hX⟩ := q2; rw [hX]; simp, by simp, by omega, by omega⟩
          obtain ⟨v3, K3, r1, r2, ns, r3, _, _⟩ := g_condition (hg.trans g1) hn (by omega) (a := 0) hrd
          obtain ⟨hb2, hb3⟩ := arr_cell g2
          have hb1 := Arr.one g2
          simp only [rdo, show ((0 : Nat) : Int) = 0 from rfl] at r1
          simp [aNew, hb1, hb2, hb3]
          refine bndC_of r1 ?_
          rw [hc] at r2
          have hr2 : RdA K1 K3 K2.length lv (allTok s).1 p.2 true := r2
          have hcc : hcells K3 K2.length = some [lv, i64 p.2, .bool true] := by rw [hcells_eq, hr2.cell]; rfl
          have hll : Vi.hlen K3 K2.length = some 3 := by unfold Vi.hlen; rw [hr2.cell]; rfl
          simp [hcc, hll]
          rw [S17x0q]
          simp [hl0]
          by_cases hb : p.2 = (allTok s).1.length
          · simp [hb, h31', q4 (by simp)]; exact ⟨g1.trans hr2.pre, NL.nil⟩
          · have hb' : ((p.2 : Int) != (allTok s).1.length) = true := by simp; omega
            simp [hb, hb']; exact ⟨g1.trans hr2.pre, NL.nil⟩
        · rw [if_neg h31] at hr
          rw [hr] at q1 q3 q4
          have h31' : ¬ (31 : Int) < p.1.length := h31
          refine bndC_of q1 ?_
          simp [h31']
          rw [S17x0q]
          simp [hl0]
          by_cases hb : p.2 = (allTok s).1.length
          · simp [hb]; exact ⟨g1.trans q2, q3.weak (by obtain ⟨X, rfl⟩ := g1; simp)⟩
          · have hb' : ((p.2 : Int) != (allTok s).1.length) = true := by simp; omega
            simp [hb, hb']; exact ⟨g1.trans q2, NL.nil⟩
    · have hp : parseF s = ([], (allTok s).2.2) := by unfold parseF; rw [if_pos he]
      rw [hp]
      have he' : ((allTok s).2.2 != 0) = true := by simpa using he
      simp [he']
      exact ⟨g1, NL.nil⟩
  obtain ⟨v, K', ⟨u, rfl, h1, h2⟩, hy⟩ := key
  exact ⟨u, K', hy, h1, h2⟩
end Go.Vi
namespace Go.Vi
open Go Go.Proofs

theorem parseF_ok {s : List UInt8} (h : (parseF s).2 = 0) : (allTok s).2.2 = 0 ∧ conO (allTok s).1 0 = some ((parseF s).1, (allTok s).1.length) ∧ (parseF s).1.length ≤ 31 := by
  unfold parseF at h ⊢
  by_cases h1 : (allTok s).2.2 ≠ 0
  · rw [if_pos h1] at h; exact absurd h h1
  · rw [if_neg h1] at h ⊢
    refine ⟨by simpa using h1, ?_⟩
    cases h2 : conO (allTok s).1 0 with
    | none => rw [h2] at h; simp at h
    | some p =>
      rw [h2] at h
      simp only at h ⊢
      by_cases h3 : p.2 ≠ (allTok s).1.length
      · rw [if_pos h3] at h; simp at h
      · rw [if_neg h3] at h ⊢
        by_cases h4 : (p.1.length : Int) > 31
        · rw [if_pos h4] at h; simp at h
        · rw [if_neg h4]
          have h3' : p.2 = (allTok s).1.length := by simpa using h3
          exact ⟨by simp only; rw [← h3'], by simp only; omega⟩
def kindB (or' : Bool) : UInt8 := if or' = true then 2 else 1
def two (a b : List Nod) (or' : Bool) : List Nod := a ++ b.map (shN a.length) ++ [opN (kindB or') ((a.length : Int) - 1) (((a ++ b.map (shN a.length)).length : Int) - 1)]
end Go.Vi
namespace Go.Vi
open Go Go.Proofs

theorem parseF_bad {s : List UInt8} (he : (parseF s).2 ≠ 0) : (parseF s).1 = [] := by
  unfold parseF at he ⊢
  split at he <;> rename_i h1
  · rw [if_pos h1]
  · rw [if_neg h1]
    split at he
    · rfl
    · split at he
      · rename_i h2; rw [if_pos h2]
      · rename_i h2
        rw [if_neg h2]
        split at he
        · rename_i h3; rw [if_pos h3]
        · exact absurd rfl he
def SvOk (K : AHeap) (lo : Nat) (sv : Value) : Prop := sv = .slice none 0 0 ∨ ∃ bm m : Nat, ∃ cm, m < 2 ^ 50 ∧ lo ≤ bm ∧ sv = .slice (some ⟨bm, 0, some (m * 3)⟩) m m ∧ K[bm]? = some (.cells cm 75) ∧ cm.length = m * 3
def ShB (K : AHeap) (lo bb n : Nat) (cs : List Value) : Prop := lo ≤ bb ∧ K[bb]? = some (.cells cs 37) ∧ cs.length = n * 8 ∧ ∀ i, i < n → ∃ sv, cs[i * 8 + 2]? = some sv ∧ SvOk K lo sv
def Sh (K : AHeap) (lo : Nat) (v : Value) (n : Nat) : Prop := (v = .slice none 0 0 ∧ n = 0) ∨ ∃ bb cs, v = .slice (some ⟨bb, 0, some (n * 8)⟩) n n ∧ ShB K lo bb n cs
theorem Gro.svOk {K lo sv cl} (h : Gro K lo 3 75 sv cl) (hl : cl.length < 2 ^ 50) : SvOk K lo sv := by
  cases h with
  | nil => exact .inl rfl
  | mk bb cl h1 h2 h3 h4 => exact .inr ⟨bb, cl.length, cl.flatten, hl, h1, rfl, h2, flat_len h4⟩
theorem NL.sh {K lo v ns} (h : NL K lo v ns) : Sh K lo v ns.length := by
  obtain ⟨cl, h1, h2, h3⟩ := h
  cases h1 with
  | nil => left; exact ⟨rfl, by simpa using h2.symm⟩
  | mk bb cl g1 g2 g3 g4 =>
    right
    refine ⟨bb, cl.flatten, by rw [← h2], g1, g2, by rw [flat_len g4, h2], fun i hi => ?_⟩
    obtain ⟨sv, q1, q2, q3⟩ := h3 i _ (List.getElem?_eq_getElem hi)
    have := flat_at g4 q1
    refine ⟨sv, ?_, q2.svOk (by simp; omega)⟩
    have e : ((cl.flatten.drop (i * 8)).take 8)[2]? = some sv := by rw [this]; rfl
    rw [List.getElem?_take_of_lt (by omega), List.getElem?_drop] at e
    exact e
theorem SvOk.node {K lo sv bb cs cs'} (h : SvOk K lo sv) (hb : K[bb]? = some (.cells cs 37)) : SvOk (K.set bb (.cells cs' 37)) lo sv := by
  rcases h with h | ⟨bm, m, cm, h1, h2, h3, h4, h5⟩
  · exact .inl h
  · refine .inr ⟨bm, m, cm, h1, h2, h3, ?_, h5⟩
    rw [List.getElem?_set_ne (by rintro rfl; rw [hb] at h4; cases h4)]
    exact h4
theorem SvOk.mat {K lo sv bm cm cm'} (h : SvOk K lo sv) (hb : K[bm]? = some (.cells cm 75)) (hl : cm'.length = cm.length) : SvOk (K.set bm (.cells cm' 75)) lo sv := by
  rcases h with h | ⟨b, m, c, h1, h2, h3, h4, h5⟩
  · exact .inl h
  · by_cases e : bm = b
    · subst e
      rw [hb] at h4
      cases h4
      have hlt := (List.getElem?_eq_some_iff.1 hb).1
      exact .inr ⟨bm, m, cm', h1, h2, h3, by rw [List.getElem?_set_self hlt], by omega⟩
    · exact .inr ⟨b, m, c, h1, h2, h3, by rw [List.getElem?_set_ne e]; exact h4, h5⟩
section
variable {K0 : AHeap} {s : List UInt8} {wv : Value} {y : Int} {k : Value → AHeap → Prop} {lo bb n : Nat}
set_option maxHeartbeats 1000000 in
theorem spoil2 {n0 n1 t i : Nat} {v : Value} {cs : List Value} {sv : Value} (hv : v = .slice (some ⟨bb, 0, some (n * 8)⟩) n n) (hlo : K0.length ≤ lo) (hi : i < n) (hn : n < 2 ^ 50) {m : Nat}
    (hk : ∀ (K : AHeap) (s1 s2 s7 s9 s10 s11 s12 s13 s14 s15 s16 s17 s18 s19 s20 s21 s22 s23 s24 s25 s26 s27 s28 s29 s30 s31 s32 s33 s34 s35 s36 s37 s38 s39 s40 s41 s42 s43 s44 s45 s46 s47 s48 s49 s50 s51 s52 s53 s54 s55 s56 s57 s58 s59 s60 s61 s62 s63 : Value), Pre K0 K → ShB K lo bb n cs → L14x1 n1 n0 k [str s, s1, s2, wv, i64 y, i64 t, v, s7, i64 ((i + 1 : Nat) : Int), s9, s10, s11, s12, s13, s14, s15, s16, s17, s18, s19, s20, s21, s22, s23, s24, s25, s26, s27, s28, s29, s30, s31, s32, s33, s34, s35, s36, s37, s38, s39, s40, s41, s42, s43, s44, s45, s46, s47, s48, s49, s50, s51, s52, s53, s54, s55, s56, s57, s58, s59, s60, s61, s62, s63] K) (hsv : cs[i * 8 + 2]? = some sv) (hm : ∀ J, aLen Tryz.prog J 35 sv = some (i64 m)) (hm2 : m < 2 ^ 50) :
    ∀ (d j : Nat) (K : AHeap) (s1 s2 s7 s10 s11 s12 s13 s14 s15 s16 s17 s18 s19 s20 s21 s22 s23 s24 s25 s26 s27 s28 s29 s30 s31 s32 s33 s34 s35 s36 s37 s38 s39 s40 s41 s42 s43 s44 s45 s46 s47 s48 s49 s50 s51 s52 s53 s54 s55 s56 s57 s58 s59 s60 s61 s62 s63 : Value), j + d = m → Pre K0 K → ShB K lo bb n cs → L14x2 (d + 1) n1 n0 k [str s, s1, s2, wv, i64 y, i64 t, v, s7, i64 i, i64 j, s10, s11, s12, s13, s14, s15, s16, s17, s18, s19, s20, s21, s22, s23, s24, s25, s26, s27, s28, s29, s30, s31, s32, s33, s34, s35, s36, s37, s38, s39, s40, s41, s42, s43, s44, s45, s46, s47, s48, s49, s50, s51, s52, s53, s54, s55, s56, s57, s58, s59, s60, s61, s62, s63] K := by
  intro d
  subst hv
  induction d with
  | zero =>
    intro j K s1 s2 s7 s10 s11 s12 s13 s14 s15 s16 s17 s18 s19 s20 s21 s22 s23 s24 s25 s26 s27 s28 s29 s30 s31 s32 s33 s34 s35 s36 s37 s38 s39 s40 s41 s42 s43 s44 s45 s46 s47 s48 s49 s50 s51 s52 s53 s54 s55 s56 s57 s58 s59 s60 s61 s62 s63 hj hp hsh
    obtain ⟨g1, g2, g3, g4⟩ := hsh
    have hl : hlen K bb = some (n * 8) := by simp [hlen, g2, g3]
    have hc : hcells K bb = some cs := by simp [hcells, g2]
    have hia := aIndexAddr_eq (P := Tryz.prog) (H := K) (T := 27) (b := bb) (o := 0) (m := n * 8) (k := .i64) (e := 37) (z := 8) (n := n) (c := n) (i := (i : Int)) (by simp) (by simp) hl (by omega) (by omega)
    simp only [Int.toNat_natCast, Nat.zero_add] at hia
    rw [L14x2q]
    have : ¬ j < m := by omega
    simp [hia, hl, hc, g3, hsv, hm, this, show i + 1 < 2 ^ 63 by omega]
    exact hk K _ _ _ _ _ _ _ _ _ _ _ _ _ _ _ _ _ _ _ _ _ _ _ _ _ _ _ _ _ _ _ _ _ _ _ _ _ _ _ _ _ _ _ _ _ _ _ _ _ _ _ _ _ _ _ _ _ _ hp ⟨g1, g2, g3, g4⟩
  | succ d ih =>
    intro j K s1 s2 s7 s10 s11 s12 s13 s14 s15 s16 s17 s18 s19 s20 s21 s22 s23 s24 s25 s26 s27 s28 s29 s30 s31 s32 s33 s34 s35 s36 s37 s38 s39 s40 s41 s42 s43 s44 s45 s46 s47 s48 s49 s50 s51 s52 s53 s54 s55 s56 s57 s58 s59 s60 s61 s62 s63 hj hp hsh
    obtain ⟨g1, g2, g3, g4⟩ := hsh
    have hl : hlen K bb = some (n * 8) := by simp [hlen, g2, g3]
    have hc : hcells K bb = some cs := by simp [hcells, g2]
    have hia := aIndexAddr_eq (P := Tryz.prog) (H := K) (T := 27) (b := bb) (o := 0) (m := n * 8) (k := .i64) (e := 37) (z := 8) (n := n) (c := n) (i := (i : Int)) (by simp) (by simp) hl (by omega) (by omega)
    simp only [Int.toNat_natCast, Nat.zero_add] at hia
    obtain ⟨sv', e1, e2⟩ := g4 i hi
    rw [hsv] at e1
    cases e1
    have hjm : j < m := by omega
    rcases e2 with rfl | ⟨bm, m', cm, h1, h2, rfl, h4, h5⟩
    · have := hm K
      simp [aLen] at this
      omega
    · have hmm : m' = m := by
        have := hm K
        simp [aLen] at this
        omega
      subst hmm
      have hl2 : hlen K bm = some (m' * 3) := by simp [hlen, h4, h5]
      have hib := aIndexAddr_eq (P := Tryz.prog) (H := K) (T := 35) (b := bm) (o := 0) (m := m' * 3) (k := .i64) (e := 75) (z := 3) (n := m') (c := m') (i := (j : Int)) (by simp) (by simp) hl2 (by omega) (by omega)
      simp only [Int.toNat_natCast, Nat.zero_add] at hib
      rw [L14x2q]
      simp [hia, hl, hc, g3, hsv, hm, hjm, hib, hl2, h4, h5]
      have hj3 : j * 3 + 1 ≤ m' * 3 := by omega
      simp [hj3, show j + 1 < 2 ^ 63 by omega]
      have hK0 : K0.length ≤ bm := by omega
      refine ih (j + 1) (K.set bm (.cells (cm.set (j * 3) (.string ⟨#[115, 112, 111, 105, 108, 116]⟩)) 75)) _ _ _ _ _ _ _ _ _ _ _ _ _ _ _ _ _ _ _ _ _ _ _ _ _ _ _ _ _ _ _ _ _ _ _ _ _ _ _ _ _ _ _ _ _ _ _ _ _ _ _ _ _ _ _ _ _ (by omega) (hp.set hK0) ⟨g1, ?_, g3, fun i' hi' => ?_⟩
      · rw [List.getElem?_set_ne (by rintro rfl; rw [g2] at h4; cases h4)]
        exact g2
      · obtain ⟨sv, q1, q2⟩ := g4 i' hi'
        exact ⟨sv, q1, q2.mat h4 (by simp)⟩
set_option maxHeartbeats 1000000 in
theorem spoil1 {n0 t : Nat} {v : Value} (hlo : K0.length ≤ lo) (hn : n < 2 ^ 50)
    (hk : ∀ (K : AHeap) (s1 s2 s6 s7 s8 s9 s10 s11 s12 s13 s14 s15 s16 s17 s18 s19 s20 s21 s22 s23 s24 s25 s26 s27 s28 s29 s30 s31 s32 s33 s34 s35 s36 s37 s38 s39 s40 s41 s42 s43 s44 s45 s46 s47 s48 s49 s50 s51 s52 s53 s54 s55 s56 s57 s58 s59 s60 s61 s62 s63 : Value), Pre K0 K → L14x0 n0 k [str s, s1, s2, wv, i64 y, i64 ((t + 1 : Nat) : Int), s6, s7, s8, s9, s10, s11, s12, s13, s14, s15, s16, s17, s18, s19, s20, s21, s22, s23, s24, s25, s26, s27, s28, s29, s30, s31, s32, s33, s34, s35, s36, s37, s38, s39, s40, s41, s42, s43, s44, s45, s46, s47, s48, s49, s50, s51, s52, s53, s54, s55, s56, s57, s58, s59, s60, s61, s62, s63] K) (ht : t < 2) :
    ∀ (d i : Nat) (K : AHeap) (s1 s2 s7 s9 s10 s11 s12 s13 s14 s15 s16 s17 s18 s19 s20 s21 s22 s23 s24 s25 s26 s27 s28 s29 s30 s31 s32 s33 s34 s35 s36 s37 s38 s39 s40 s41 s42 s43 s44 s45 s46 s47 s48 s49 s50 s51 s52 s53 s54 s55 s56 s57 s58 s59 s60 s61 s62 s63 : Value), i + d = n → Pre K0 K → Sh K lo v n → L14x1 (d + 1) n0 k [str s, s1, s2, wv, i64 y, i64 t, v, s7, i64 i, s9, s10, s11, s12, s13, s14, s15, s16, s17, s18, s19, s20, s21, s22, s23, s24, s25, s26, s27, s28, s29, s30, s31, s32, s33, s34, s35, s36, s37, s38, s39, s40, s41, s42, s43, s44, s45, s46, s47, s48, s49, s50, s51, s52, s53, s54, s55, s56, s57, s58, s59, s60, s61, s62, s63] K := by
  intro d
  have hlv : ∀ {K}, Sh K lo v n → ∀ J, aLen Tryz.prog J 27 v = some (i64 n) := by
    rintro K (⟨rfl, rfl⟩ | ⟨bb, cs, rfl, _⟩) J <;> simp [aLen]
  have wt : IntKind.i64.wrap ((t : Int) + 1) = ((t + 1 : Nat) : Int) := by rw [wrap_i64 (by omega) (by omega)]; omega
  induction d with
  | zero =>
    intro i K s1 s2 s7 s9 s10 s11 s12 s13 s14 s15 s16 s17 s18 s19 s20 s21 s22 s23 s24 s25 s26 s27 s28 s29 s30 s31 s32 s33 s34 s35 s36 s37 s38 s39 s40 s41 s42 s43 s44 s45 s46 s47 s48 s49 s50 s51 s52 s53 s54 s55 s56 s57 s58 s59 s60 s61 s62 s63 hi hp hsh
    have hl := hlv hsh
    rw [L14x1q]
    have : ¬ i < n := by omega
    simp [hl, this, wt]
    exact hk K _ _ _ _ _ _ _ _ _ _ _ _ _ _ _ _ _ _ _ _ _ _ _ _ _ _ _ _ _ _ _ _ _ _ _ _ _ _ _ _ _ _ _ _ _ _ _ _ _ _ _ _ _ _ _ _ _ _ _ _ hp
  | succ d ih =>
    intro i K s1 s2 s7 s9 s10 s11 s12 s13 s14 s15 s16 s17 s18 s19 s20 s21 s22 s23 s24 s25 s26 s27 s28 s29 s30 s31 s32 s33 s34 s35 s36 s37 s38 s39 s40 s41 s42 s43 s44 s45 s46 s47 s48 s49 s50 s51 s52 s53 s54 s55 s56 s57 s58 s59 s60 s61 s62 s63 hi hp hsh
    have hl := hlv hsh
    have hin : i < n := by omega
    rcases hsh with ⟨rfl, rfl⟩ | ⟨bb, cs, rfl, g1, g2, g3, g4⟩
    · omega
    · have hlb : hlen K bb = some (n * 8) := by simp [hlen, g2, g3]
      have hia := aIndexAddr_eq (P := Tryz.prog) (H := K) (T := 27) (b := bb) (o := 0) (m := n * 8) (k := .i64) (e := 37) (z := 8) (n := n) (c := n) (i := (i : Int)) (by simp) (by simp) hlb (by omega) (by omega)
      simp only [Int.toNat_natCast, Nat.zero_add] at hia
      rw [L14x1q]
      have hi6 : i * 8 + 6 + 1 ≤ n * 8 := by omega
      simp [hl, hin, hia, hlb, g2, g3, hi6]
      have hlt := (List.getElem?_eq_some_iff.1 g2).1
      have hsh' : ShB (K.set bb (.cells (cs.set (i * 8 + 6) (i64 (-5))) 37)) lo bb n (cs.set (i * 8 + 6) (i64 (-5))) := by
        refine ⟨g1, by rw [List.getElem?_set_self hlt], by simpa using g3, fun j hj => ?_⟩
        obtain ⟨sv, q1, q2⟩ := g4 j hj
        exact ⟨sv, by rw [List.getElem?_set_ne (by omega)]; exact q1, q2.node g2⟩
      obtain ⟨sv, q1, q2⟩ := hsh'.2.2.2 i hin
      obtain ⟨m, hm, hm2⟩ : ∃ m : Nat, (∀ J, aLen Tryz.prog J 35 sv = some (i64 m)) ∧ m < 2 ^ 50 := by
        rcases q2 with rfl | ⟨bm, m, cm, a1, a2, rfl, a4, a5⟩
        · exact ⟨0, fun J => by simp [aLen], by omega⟩
        · exact ⟨m, fun J => by simp [aLen], a1⟩
      refine ⟨m + 1, spoil2 (K0 := K0) (lo := lo) rfl hlo hin hn ?_ q1 hm hm2 m 0 _ _ _ _ _ _ _ _ _ _ _ _ _ _ _ _ _ _ _ _ _ _ _ _ _ _ _ _ _ _ _ _ _ _ _ _ _ _ _ _ _ _ _ _ _ _ _ _ _ _ _ _ _ _ _ _ _ _ (by omega) (hp.set (by omega)) hsh'⟩
      intro K2 s1 s2 s7 s9 s10 s11 s12 s13 s14 s15 s16 s17 s18 s19 s20 s21 s22 s23 s24 s25 s26 s27 s28 s29 s30 s31 s32 s33 s34 s35 s36 s37 s38 s39 s40 s41 s42 s43 s44 s45 s46 s47 s48 s49 s50 s51 s52 s53 s54 s55 s56 s57 s58 s59 s60 s61 s62 s63 hp2 hsh2
      exact ih (i + 1) K2 _ _ _ _ _ _ _ _ _ _ _ _ _ _ _ _ _ _ _ _ _ _ _ _ _ _ _ _ _ _ _ _ _ _ _ _ _ _ _ _ _ _ _ _ _ _ _ _ _ _ _ _ _ _ _ _ _ _ (by omega) hp2 (.inr ⟨bb, _, rfl, hsh2⟩)
theorem reads_top (hg : Pre Gs K0) (hw : NodesAt K0 wv (parseF s).1) (hy : y = (parseF s).2) (hk : ∀ K, Pre K0 K → k (.bool true) K) :
    ∀ (d t : Nat) (K : AHeap) (s1 s2 s6 s7 s8 s9 s10 s11 s12 s13 s14 s15 s16 s17 s18 s19 s20 s21 s22 s23 s24 s25 s26 s27 s28 s29 s30 s31 s32 s33 s34 s35 s36 s37 s38 s39 s40 s41 s42 s43 s44 s45 s46 s47 s48 s49 s50 s51 s52 s53 s54 s55 s56 s57 s58 s59 s60 s61 s62 s63 : Value), t + d = 2 → Pre K0 K → L14x0 (d + 1) k [str s, s1, s2, wv, i64 y, i64 t, s6, s7, s8, s9, s10, s11, s12, s13, s14, s15, s16, s17, s18, s19, s20, s21, s22, s23, s24, s25, s26, s27, s28, s29, s30, s31, s32, s33, s34, s35, s36, s37, s38, s39, s40, s41, s42, s43, s44, s45, s46, s47, s48, s49, s50, s51, s52, s53, s54, s55, s56, s57, s58, s59, s60, s61, s62, s63] K := by
  intro d
  induction d with
  | zero =>
    intro t K s1 s2 s6 s7 s8 s9 s10 s11 s12 s13 s14 s15 s16 s17 s18 s19 s20 s21 s22 s23 s24 s25 s26 s27 s28 s29 s30 s31 s32 s33 s34 s35 s36 s37 s38 s39 s40 s41 s42 s43 s44 s45 s46 s47 s48 s49 s50 s51 s52 s53 s54 s55 s56 s57 s58 s59 s60 s61 s62 s63 ht hp
    obtain rfl : t = 2 := by omega
    rw [L14x0q]
    simp
    exact hk K hp
  | succ d ih =>
    intro t K s1 s2 s6 s7 s8 s9 s10 s11 s12 s13 s14 s15 s16 s17 s18 s19 s20 s21 s22 s23 s24 s25 s26 s27 s28 s29 s30 s31 s32 s33 s34 s35 s36 s37 s38 s39 s40 s41 s42 s43 s44 s45 s46 s47 s48 s49 s50 s51 s52 s53 s54 s55 s56 s57 s58 s59 s60 s61 s62 s63 ht hp
    have ht2 : (t : Int) < 2 := by omega
    rw [L14x0q]
    obtain ⟨v, K1, a1, p1, n1⟩ := g_parseN (s := s) (hg.trans hp)
    have hns : (parseF s).1.length ≤ 31 := by
      by_cases he : (parseF s).2 = 0
      · exact (parseF_ok he).2.2
      · rw [parseF_bad he]; simp
    subst hy
    simp [ht2]
    refine bndC_of a1 ?_
    simp
    refine bndC_of (c_sameN n1.nodes (hw.pre (hp.trans p1)) (by omega) (nodes_sel n1.nodes)) ?_
    simp
    refine ⟨(parseF s).1.length + 1, spoil1 (K0 := K0) (lo := K.length) (n := (parseF s).1.length) (by obtain ⟨X, rfl⟩ := hp; simp) (by omega) ?_ (by omega) (parseF s).1.length 0 K1 _ _ _ _ _ _ _ _ _ _ _ _ _ _ _ _ _ _ _ _ _ _ _ _ _ _ _ _ _ _ _ _ _ _ _ _ _ _ _ _ _ _ _ _ _ _ _ _ _ _ _ _ _ _ _ _ _ _ (by omega) (hp.trans p1) n1.sh⟩
    intro K2 s1 s2 s6 s7 s8 s9 s10 s11 s12 s13 s14 s15 s16 s17 s18 s19 s20 s21 s22 s23 s24 s25 s26 s27 s28 s29 s30 s31 s32 s33 s34 s35 s36 s37 s38 s39 s40 s41 s42 s43 s44 s45 s46 s47 s48 s49 s50 s51 s52 s53 s54 s55 s56 s57 s58 s59 s60 s61 s62 s63 hp2
    exact ih (t + 1) K2 _ _ _ _ _ _ _ _ _ _ _ _ _ _ _ _ _ _ _ _ _ _ _ _ _ _ _ _ _ _ _ _ _ _ _ _ _ _ _ _ _ _ _ _ _ _ _ _ _ _ _ _ _ _ _ _ _ _ _ _ (by omega) hp2
end
theorem r_refparse {K : AHeap} {s : List UInt8} : ∃ v K', ACalls Tryz.prog 38 [str s] K (.tuple #[v, i64 (parseF s).2]) K' ∧ Pre K K' ∧ NodesAt K' v (parseF s).1 := by
  have key : ∃ u K', (∃ v, u = .tuple #[v, i64 (parseF s).2] ∧ Pre K K' ∧ NodesAt K' v (parseF s).1) ∧ ACalls Tryz.prog 38 [str s] K u K' := by
    refine acalls_ex MixT Tryz.func38 (by decide) ?_
    rw [d38]
    obtain ⟨mv, K2, T, r1, r2, r3, r4⟩ := r_all K s
    obtain ⟨hnt, hnl⟩ := allTok_ok (l := s)
    have hTl : T.length = (allTok s).1.length := by rw [← r4]; simp
    have hTA : RTA K2 mv T := ⟨r3.arr, by omega⟩
    have htx2 : ∀ p ∈ T, p.1.text.length < 2 ^ 50 := fun p hp => by
      obtain ⟨i, hi⟩ := List.getElem?_of_mem (show p.1 ∈ (allTok s).1 by rw [← r4]; exact List.mem_map_of_mem hp)
      have := (hnt i p.1 hi).1
      omega
    have hml : ∀ J, aLen Tryz.prog J 64 mv = some (i64 T.length) := fun J => by
      have := r3.arr.len' (K := J) (P := Tryz.prog) (T := 64) (e := 72) (by simp)
      simpa using this
    refine bndC_of r1 ?_
    by_cases he : (allTok s).2.2 = 0
    · have hp : parseF s = match conO (allTok s).1 0 with
          | none => ([], 100)
          | some p => if p.2 ≠ (allTok s).1.length then ([], 100) else if (p.1.length : Int) > 31 then ([], 4) else (p.1, 0) := by unfold parseF; (rw [if_neg (by simpa using he)] <;> rfl)
      obtain ⟨u, K4, ⟨wv, next, out, rfl, c1, c2, c3, c4⟩, hc⟩ := r_condition (K := K2) (a := 0) hTA (by omega) htx2 (by omega)
      have hlw := c2.len
      simp [he]
      refine bndC_of hc ?_
      rw [r4] at c4
      rw [hp]
      cases hco : conO (allTok s).1 0 with
      | none =>
        rw [hco] at c4
        simp only at c4
        subst c4
        have hne : ((-1 : Int) != T.length) = true := by rw [bne_iff_ne]; omega
        simp [hml, hne]
        exact ⟨r2.trans c1, .nil⟩
      | some p =>
        rw [hco] at c4
        simp only at c4
        obtain ⟨q1, rfl⟩ := c4
        rw [List.nil_append] at q1
        by_cases hb : p.2 = (allTok s).1.length
        · have hb' : ((p.2 : Int) != T.length) = false := by rw [bne_eq_false_iff_eq]; omega
          have hb2 : (((allTok s).1.length : Int) != T.length) = false := by rw [bne_eq_false_iff_eq]; omega
          by_cases h31 : (31 : Int) < out.length
          · simp [hml, hlw, h31, hb, hb2, q1]
            exact ⟨r2.trans c1, .nil⟩
          · simp [hml, hlw, h31, hb, hb2, q1]
            exact ⟨r2.trans c1, c2.nodes⟩
        · have hb' : ((p.2 : Int) != T.length) = true := by rw [bne_iff_ne]; omega
          simp [hml, hb', hb]
          exact ⟨r2.trans c1, .nil⟩
    · have hp : parseF s = ([], (allTok s).2.2) := by unfold parseF; rw [if_pos he]
      have he2 : ((allTok s).2.2 != 0) = true := by simpa using he
      rw [hp]
      simp [he2]
      exact ⟨r2, .nil⟩
  obtain ⟨u, K', ⟨v, rfl, h1, h2⟩, h3⟩ := key
  exact ⟨v, K', h3, h1, h2⟩
theorem w_reads {H : AHeap} {s : List UInt8} (hg : Pre Gs H) : ACalls Tryz.prog 14 [str s] H (.bool true) H := by
  refine acalls_pure MixT Tryz.func14 (by decide) rfl ?_
  rw [d14]
  by_cases h5 : (5000 : Int) < s.length
  · simp [h5]
  · obtain ⟨wv, K1, a1, p1, n1⟩ := r_refparse (K := H) (s := s)
    simp [h5]
    refine bndC_of a1 ?_
    simp
    exact ⟨2 + 1, reads_top (hg.trans p1) n1 rfl (fun K hp => ⟨rfl, p1.trans hp⟩) 2 0 K1 _ _ _ _ _ _ _ _ _ _ _ _ _ _ _ _ _ _ _ _ _ _ _ _ _ _ _ _ _ _ _ _ _ _ _ _ _ _ _ _ _ _ _ _ _ _ _ _ _ _ _ _ _ _ _ _ _ _ _ _ rfl (.refl _)⟩
end Go.Vi
