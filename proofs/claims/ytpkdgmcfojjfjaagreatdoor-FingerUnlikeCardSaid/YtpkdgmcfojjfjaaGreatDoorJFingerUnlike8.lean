/- FingerSame: the walk. FingerUnlike: the walk. -/
import Derived.Test.YtpkdgmcfojjfjaaGreatDoorJ7
namespace Go.Vi
open Go Go.Proofs

theorem unl_pair {x y : Int} : unlF [x, y] = !(x == y) := by
  rw [Bool.eq_iff_iff, unlF_iff]
  simp
theorem cfg_val {v : Value} (h : v.oneCell' = true) : buildV Tryz.prog 49 [(0, v)] = some (.agg (cfgC v).toArray) := by
  simp [cfgC, stor_one h, cells_one h]
end Go.Vi
namespace Go.Vi
open Go Go.Proofs

theorem rel1 : aElem Tryz.prog 46 = some (44, 8, 120) := by kernel_rfl
theorem rel2 : isSeq Tryz.prog 46 = true := by kernel_rfl
/-- Is the rule at a place unlike those ahead of it? -/
def rowU (l : List Int) (i j : Nat) : Bool := (l.take j).all fun x => !(l.getD i 0 == x)
def allU (l : List Int) (i : Nat) : Bool := (List.range i).all fun a => rowU l a a
theorem rowU_succ {l : List Int} {i j : Nat} {x : Int} (h : l[j]? = some x) : rowU l i (j + 1) = (rowU l i j && !(l.getD i 0 == x)) := by
  unfold rowU
  rw [List.take_add_one, h]
  simp
theorem allU_succ (l : List Int) (i : Nat) : allU l (i + 1) = (allU l i && rowU l i i) := by
  unfold allU
  rw [List.range_succ]
  simp
theorem take_nodup {l : List Int} : ∀ i, i ≤ l.length → (allU l i = true ↔ (l.take i).Nodup) := by
  intro i
  induction i with
  | zero => intro _; simp [allU]
  | succ i ih =>
    intro hi
    have hx : l[i]? = some l[i] := List.getElem?_eq_getElem (by omega)
    rw [allU_succ, Bool.and_eq_true, ih (by omega), List.take_add_one, hx, Option.toList_some, List.nodup_append]
    have hg : l.getD i 0 = l[i] := by simp [List.getD, hx]
    have : rowU l i i = true ↔ ∀ a ∈ l.take i, a ≠ l[i] := by
      unfold rowU
      rw [hg, List.all_eq_true]
      constructor
      · intro h a ha e
        have := h a ha
        simp [e] at this
      · intro h a ha
        have := h a ha
        simp only [Bool.not_eq_true', beq_eq_false_iff_ne]
        exact fun e => this e.symm
    rw [this]
    simp
theorem allU_unl (l : List Int) : allU l l.length = unlF l := by
  rw [Bool.eq_iff_iff, take_nodup l.length (Nat.le_refl _), List.take_length, unlF_iff]
theorem unl_rev (l : List Int) : unlF l.reverse = unlF l := by
  rw [Bool.eq_iff_iff, unlF_iff, unlF_iff]
  unfold List.Nodup
  rw [List.pairwise_reverse]
  exact ⟨fun h => h.imp fun h => h.symm, fun h => h.imp fun h => h.symm⟩
theorem unl_in {H : AHeap} {v : Value} {rs : List Rul} {i : Nat} {r : Rul} {tv : Value} {n0 : Nat} {k : Value → AHeap → Prop} (hg : Pre Gs H) (hv : RulesAt H v rs) (hf : fine rs) (hl : rs.length ≤ 20) (hr : rs[i]? = some r) (cl : List (List Value)) (lo : Nat) (_hlo : H.length ≤ lo)
    (hk : ∀ K (s1 s2 s6 s7 s8 s9 s10 s11 s12 s13 s14 s15 s16 s17 s18 s19 s20 s21 s22 s23 s24 s25 s26 s27 s28 s29 s30 s31 s32 s33 s34 s35 s36 s37 s38 s39 s40 s41 s42 s43 s44 s45 s46 s47 s48 s49 s50 s51 s52 s53 s54 s55 s56 : Value), Pre H K → lo ≤ K.length → Gro K lo 8 44 tv cl → L8x0 n0 k [v, s1, s2, .bool (allU (rs.map fingF) (i + 1)), tv, i64 ((i + 1 : Nat) : Int), s6, s7, s8, s9, s10, s11, s12, s13, s14, s15, s16, s17, s18, s19, s20, s21, s22, s23, s24, s25, s26, s27, s28, s29, s30, s31, s32, s33, s34, s35, s36, s37, s38, s39, s40, s41, s42, s43, s44, s45, s46, s47, s48, s49, s50, s51, s52, s53, s54, s55, s56] K) :
    ∀ (n j : Nat) (p : Bool) (K : AHeap) (s1 s2 s7 s8 s9 s10 s11 s12 s13 s14 s15 s16 s17 s18 s19 s20 s21 s22 s23 s24 s25 s26 s27 s28 s29 s30 s31 s32 s33 s34 s35 s36 s37 s38 s39 s40 s41 s42 s43 s44 s45 s46 s47 s48 s49 s50 s51 s52 s53 s54 s55 s56 : Value), n + j = i → p = (allU (rs.map fingF) i && rowU (rs.map fingF) i j) → Pre H K → lo ≤ K.length → Gro K lo 8 44 tv cl →
      L8x1 (n + 1) n0 k [v, s1, s2, .bool p, tv, i64 i, i64 j, s7, s8, s9, s10, s11, s12, s13, s14, s15, s16, s17, s18, s19, s20, s21, s22, s23, s24, s25, s26, s27, s28, s29, s30, s31, s32, s33, s34, s35, s36, s37, s38, s39, s40, s41, s42, s43, s44, s45, s46, s47, s48, s49, s50, s51, s52, s53, s54, s55, s56] K := by
  have hil : i < rs.length := (List.getElem?_eq_some_iff.1 hr).1
  intro n
  induction n with
  | zero =>
    intro j p K s1 s2 s7 s8 s9 s10 s11 s12 s13 s14 s15 s16 s17 s18 s19 s20 s21 s22 s23 s24 s25 s26 s27 s28 s29 s30 s31 s32 s33 s34 s35 s36 s37 s38 s39 s40 s41 s42 s43 s44 s45 s46 s47 s48 s49 s50 s51 s52 s53 s54 s55 s56 hj hp pK hloK gK
    rw [L8x1q]
    have : ¬ j < i := by omega
    have w1 : IntKind.i64.wrap ((i : Int) + 1) = ((i + 1 : Nat) : Int) := by rw [wrap_i64 (by omega) (by omega)]; omega
    obtain rfl : j = i := by omega
    rw [← allU_succ] at hp
    subst hp
    simp [w1]
    rw [show ((j : Int) + 1) = ((j + 1 : Nat) : Int) by omega]
    exact hk K _ _ _ _ _ _ _ _ _ _ _ _ _ _ _ _ _ _ _ _ _ _ _ _ _ _ _ _ _ _ _ _ _ _ _ _ _ _ _ _ _ _ _ _ _ _ _ _ _ _ _ _ _ pK hloK gK
  | succ n ih =>
    intro j p K s1 s2 s7 s8 s9 s10 s11 s12 s13 s14 s15 s16 s17 s18 s19 s20 s21 s22 s23 s24 s25 s26 s27 s28 s29 s30 s31 s32 s33 s34 s35 s36 s37 s38 s39 s40 s41 s42 s43 s44 s45 s46 s47 s48 s49 s50 s51 s52 s53 s54 s55 s56 hj hp pK hloK gK
    have hlt : j < i := by omega
    rw [L8x1q]
    have w1 : IntKind.i64.wrap ((j : Int) + 1) = ((j + 1 : Nat) : Int) := by rw [wrap_i64 (by omega) (by omega)]; omega
    obtain ⟨q, hq⟩ : ∃ q, rs[j]? = some q := ⟨_, List.getElem?_eq_getElem (by omega)⟩
    have hj2 : (rs.map fingF)[j]? = some (fingF q) := by rw [List.getElem?_map, hq]; rfl
    have hi2 : (rs.map fingF).getD i 0 = fingF r := by simp [List.getD, List.getElem?_map, hr]
    have hnext := rowU_succ (i := i) hj2
    rw [hi2] at hnext
    cases p with
    | false =>
      have hp2 : false = (allU (rs.map fingF) i && rowU (rs.map fingF) i (j + 1)) := by
        rw [hnext, ← Bool.and_assoc, ← hp]; rfl
      simp [hlt, w1]
      rw [show ((j : Int) + 1) = ((j + 1 : Nat) : Int) by omega]
      exact ih (j + 1) false K _ _ _ _ _ _ _ _ _ _ _ _ _ _ _ _ _ _ _ _ _ _ _ _ _ _ _ _ _ _ _ _ _ _ _ _ _ _ _ _ _ _ _ _ _ _ _ _ _ _ _ _ (by omega) hp2 pK hloK gK
    | true =>
      have hp2 : (!(fingF r == fingF q)) = (allU (rs.map fingF) i && rowU (rs.map fingF) i (j + 1)) := by
        rw [hnext, ← Bool.and_assoc, ← hp]; simp
      obtain ⟨nv, mv, ra, p, p1, p2⟩ := (hv.pre pK).at hr
      obtain ⟨nv', mv', rb, p', p1', p2'⟩ := (hv.pre pK).at hq
      simp [hlt, p1, p2, p1', p2']
      refine bndD_of (v := _) (H' := _) (rlit2 K ra.o1 ra.o2 rb.o1 rb.o2 (r := r) (r' := q)) (.inl rfl) ?_
      have hu := c_unlike (hg.trans (pK.more _)) (rat2 (K := K ++ [.cells (r.cells nv mv ++ q.cells nv' mv') 44]) (b := K.length) (by simp) (ra.pre (.app K _)) (rb.pre (.app K _))) (by simp) (fun x hx => by
        simp at hx
        rcases hx with rfl | rfl
        · exact hf _ (List.mem_of_getElem? hr)
        · exact hf _ (List.mem_of_getElem? hq))
      rw [show unlF ([r, q].map fingF) = !(fingF r == fingF q) by simp [unl_pair]] at hu
      refine bndD_same hu ?_
      simp [w1]
      rw [show ((j : Int) + 1) = ((j + 1 : Nat) : Int) by omega]
      exact ih (j + 1) _ _ _ _ _ _ _ _ _ _ _ _ _ _ _ _ _ _ _ _ _ _ _ _ _ _ _ _ _ _ _ _ _ _ _ _ _ _ _ _ _ _ _ _ _ _ _ _ _ _ _ _ _ _ (by omega) hp2 (pK.more _) (by simp; omega) gK.app
theorem unl_out {H : AHeap} {v : Value} {rs : List Rul} {k : Value → AHeap → Prop} (hg : Pre Gs H) (hv : RulesAt H v rs) (hf : fine rs) (hl : rs.length ≤ 20) (cr : List (List Value)) (hva : Arr H 8 v cr) (hcr : cr.length = rs.length) (hat : ∀ (i : Nat) r, rs[i]? = some r → ∃ nv mv, cr[i]? = some (r.cells nv mv) ∧ RulAt H r nv mv)
    (hk : ∀ K, Pre H K → k (.bool true) K) :
    ∀ (n i : Nat) (K : AHeap) (tv : Value) (s1 s2 s6 s7 s8 s9 s10 s11 s12 s13 s14 s15 s16 s17 s18 s19 s20 s21 s22 s23 s24 s25 s26 s27 s28 s29 s30 s31 s32 s33 s34 s35 s36 s37 s38 s39 s40 s41 s42 s43 s44 s45 s46 s47 s48 s49 s50 s51 s52 s53 s54 s55 s56 : Value), n + i = rs.length → Pre H K → Gro K H.length 8 44 tv ((cr.drop (rs.length - i)).reverse) →
      L8x0 (n + 1) k [v, s1, s2, .bool (allU (rs.map fingF) i), tv, i64 i, s6, s7, s8, s9, s10, s11, s12, s13, s14, s15, s16, s17, s18, s19, s20, s21, s22, s23, s24, s25, s26, s27, s28, s29, s30, s31, s32, s33, s34, s35, s36, s37, s38, s39, s40, s41, s42, s43, s44, s45, s46, s47, s48, s49, s50, s51, s52, s53, s54, s55, s56] K := by
  intro n
  have lv := hv.lenR
  induction n with
  | zero =>
    intro i K tv s1 s2 s6 s7 s8 s9 s10 s11 s12 s13 s14 s15 s16 s17 s18 s19 s20 s21 s22 s23 s24 s25 s26 s27 s28 s29 s30 s31 s32 s33 s34 s35 s36 s37 s38 s39 s40 s41 s42 s43 s44 s45 s46 s47 s48 s49 s50 s51 s52 s53 s54 s55 s56 hi pK gK
    obtain rfl : i = rs.length := by omega
    rw [L8x0q]
    have ht : RulesAt K tv rs.reverse := by
      refine ⟨_, gK.arr, by simp [hcr], fun i r hi => ?_⟩
      have hlt : i < rs.length := by have := (List.getElem?_eq_some_iff.1 hi).1; simpa using this
      rw [List.getElem?_reverse hlt] at hi
      obtain ⟨nv, mv, q1, q2⟩ := hat _ r hi
      refine ⟨nv, mv, ?_, q2.pre pK⟩
      rw [Nat.sub_self, List.drop_zero, List.getElem?_reverse (by omega), hcr]
      exact q1
    have u1 := c_unlike (hg.trans pK) (hv.pre pK) (by omega) hf
    have u2 := c_unlike (hg.trans pK) ht (by simp; omega) (fun r hr => hf r (by simpa using hr))
    have e1 : allU (rs.map fingF) rs.length = unlF (rs.map fingF) := by have := allU_unl (rs.map fingF); rwa [List.length_map] at this
    have e2 : unlF (rs.reverse.map fingF) = unlF (rs.map fingF) := by rw [List.map_reverse, unl_rev]
    rw [e2] at u2
    simp [lv]
    refine bndC_of u1 ?_
    simp [aBin_beql, e1]
    refine bndG_t _ _ u2 ?_
    simp [aBin_beql, e1]
    exact hk K pK
  | succ n ih =>
    intro i K tv s1 s2 s6 s7 s8 s9 s10 s11 s12 s13 s14 s15 s16 s17 s18 s19 s20 s21 s22 s23 s24 s25 s26 s27 s28 s29 s30 s31 s32 s33 s34 s35 s36 s37 s38 s39 s40 s41 s42 s43 s44 s45 s46 s47 s48 s49 s50 s51 s52 s53 s54 s55 s56 hi pK gK
    have hlt : i < rs.length := by omega
    have hltI : (i : Int) < rs.length := by omega
    rw [L8x0q]
    obtain ⟨r, hr⟩ : ∃ r, rs[i]? = some r := ⟨_, List.getElem?_eq_getElem hlt⟩
    obtain ⟨q, hq⟩ : ∃ q, rs[rs.length - 1 - i]? = some q := ⟨_, List.getElem?_eq_getElem (by omega)⟩
    obtain ⟨nv, mv, c1, ra⟩ := hat _ q hq
    obtain ⟨p, p1, p2⟩ : ∃ p, aIndexAddr Tryz.prog K 46 v (i64 ((rs.length - 1 - i : Nat) : Int)) = some p ∧ aLoad Tryz.prog K 44 p = some (.agg (q.cells nv mv).toArray) := by
      exact (hva.pre pK).load (P := Tryz.prog) (T := 46) (te := 44) (by simp) (by simp) (by simp) c1
    have w0 : IntKind.i64.wrap ((rs.length : Int) - 1) = (rs.length : Int) - 1 := wrap_i64 (by omega) (by omega)
    have w1 : IntKind.i64.wrap ((rs.length : Int) - 1 - i) = ((rs.length - 1 - i : Nat) : Int) := by rw [wrap_i64 (by omega) (by omega)]; omega
    refine bnd_of (lv _) ?_
    refine bnd_of (v := .bool true) (by simp [hlt]) ?_
    dsimp only
    rw [kifB_true]
    dsimp only
    refine bnd_of (lv _) ?_
    refine bnd_of (v := i64 ((rs.length : Int) - 1)) (by simp [w0]) ?_
    refine bnd_of (v := i64 ((rs.length - 1 - i : Nat) : Int)) (by simp only [aBin_sub, w1]) ?_
    refine bnd_of p1 ?_
    refine bnd_of p2 ?_
    dsimp only
    refine bndL_lit (rlit1 K ra.o1 ra.o2) ?_
    dsimp only
    obtain ⟨tv', K', b1, b2, b3, b4, b5⟩ := Gro.push (P := Tryz.prog) (K := K ++ [.cells (q.cells nv mv) 44]) (lo := H.length) (Ts := 46) (by_ := 120) (x := .slice (some ⟨K.length, 0, some 8⟩) 1 1) (c := q.cells nv mv) gK.app rel1 rel2 rfl (by obtain ⟨X, rfl⟩ := pK; simp) (by simp [aSrc, Rul.cells]) (by simp; omega) (by simp; omega)
    rw [b1]
    simp only [bndE_some]
    have hrev : (cr.drop (rs.length - (i + 1))).reverse = (cr.drop (rs.length - i)).reverse ++ [q.cells nv mv] := by
      have hd : cr.drop (rs.length - (i + 1)) = q.cells nv mv :: cr.drop (rs.length - i) := by
        rw [show rs.length - (i + 1) = rs.length - 1 - i by omega, List.drop_eq_getElem_cons (List.getElem?_eq_some_iff.1 c1).1, (List.getElem?_eq_some_iff.1 c1).2, show rs.length - 1 - i + 1 = rs.length - i by omega]
      rw [hd, List.reverse_cons]
    rw [← hrev] at b2
    have pK' : Pre H K' := b5 H (pK.more _) (Nat.le_refl _)
    exact ⟨_, unl_in hg hv hf hl hr _ H.length (Nat.le_refl _) (fun K2 s1 s2 s6 s7 s8 s9 s10 s11 s12 s13 s14 s15 s16 s17 s18 s19 s20 s21 s22 s23 s24 s25 s26 s27 s28 s29 s30 s31 s32 s33 s34 s35 s36 s37 s38 s39 s40 s41 s42 s43 s44 s45 s46 s47 s48 s49 s50 s51 s52 s53 s54 s55 s56 p2 _ g2 => ih (i + 1) K2 tv' _ _ _ _ _ _ _ _ _ _ _ _ _ _ _ _ _ _ _ _ _ _ _ _ _ _ _ _ _ _ _ _ _ _ _ _ _ _ _ _ _ _ _ _ _ _ _ _ _ _ _ _ _ (by omega) p2 g2) i 0 _ K' _ _ _ _ _ _ _ _ _ _ _ _ _ _ _ _ _ _ _ _ _ _ _ _ _ _ _ _ _ _ _ _ _ _ _ _ _ _ _ _ _ _ _ _ _ _ _ _ _ _ _ _ (by omega) (by simp [rowU]) pK' (by obtain ⟨X, hX⟩ := pK'; rw [hX]; simp) b2⟩
theorem w_funl {H : AHeap} {v : Value} {rs : List Rul} (hg : Pre Gs H) (hv : RulesAt H v rs) : ACalls Tryz.prog 8 [v] H (.bool true) H := by
  refine acallsT_pure MixT Tryz.func8 (by decide) rfl ?_
  generalize hk0 : (fun u H2 => u = Value.bool true ∧ ∃ X, H2 = H ++ X) = k
  have hk : ∀ M, Pre H M → k (.bool true) M := fun M p => by rw [← hk0]; exact ⟨rfl, p⟩
  rw [d8]
  refine bndC_of (c_awake14 hg) ?_
  simp only [unV_not, bnd_some, Bool.not_true, kifB_false, cfg_val hv.one]
  obtain ⟨b, hb, hcall⟩ := c_BigR hv
  refine bndC_of hcall ?_
  cases b with
  | true => simp; exact hk _ (.refl H)
  | false =>
    obtain ⟨hl, hf⟩ := hb rfl
    obtain ⟨cl, a1, n1, e1⟩ := id hv
    simp
    exact ⟨_, unl_out hg hv (fine_of hf) hl cl a1 n1 e1 hk rs.length 0 H _ _ _ _ _ _ _ _ _ _ _ _ _ _ _ _ _ _ _ _ _ _ _ _ _ _ _ _ _ _ _ _ _ _ _ _ _ _ _ _ _ _ _ _ _ _ _ _ _ _ _ _ _ _ (by omega) (.refl H) (by simp [← n1]; exact .nil)⟩
end Go.Vi
