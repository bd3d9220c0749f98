/- strings.Builder grows ahead; strings.Join. Matchers are written. Matchers are written: the loop. Conditions are written. Right nodes are written: Print. The reader of conditions, whatever it reads: tokens. The reader of conditions, whatever it reads: windows, values, matchers. The reader of conditions, whatever it reads: matchers. The reader of conditions, whatever it reads: comparisons. Conditions, whatever is read. Read and Parse, whatever they read. Statements of chapter 10: what they share. Statements of chapter 10: the examples. Nodes held against the same nodes elsewhere. -/
import Derived.Test.YtpkdgmcfojjfjaaGreatDoorJ5
import Derived.Test.YtpkdgmcfojjfjaaGreatDoorJ4
namespace Go.Vi
open Go Go.Proofs

theorem c_mnz {H : AHeap} {n : Nat} (h0 : 0 < n) (h1 : n ≤ 2 ^ 47) : ACalls Tryz.prog 141 [i64 n] H (.slice (some ⟨H.length, 0, some n⟩) n n) (H ++ [.cells (List.replicate n unkV) 5]) :=
  acalls_makeNoZero (n := (n : Int)) (t := 55) (by omega) (by omega) (by simp) Tryz.func141 (by kernel_rfl) (by decide) (by kernel_rfl) ⟨#[3], by kernel_rfl⟩
theorem c_grow1 {K : AHeap} {pb n : Nat} (h : K[pb]? = some (.cells [selfP pb, .slice none 0 0] 116)) (h0 : 0 < n) (h1 : n ≤ 2 ^ 46) :
    ∃ K', ACalls Tryz.prog 117 [selfP pb, i64 n] K (.tuple #[]) K' ∧ Bld true K' pb [] ∧ Keeps pb K K' := by
  obtain ⟨v, K', ⟨rfl, q1, q2⟩, q3⟩ : ∃ v K', (v = .tuple #[] ∧ Bld true K' pb [] ∧ Keeps pb K K') ∧ ACalls Tryz.prog 117 [selfP pb, i64 n] K v K' := by
    refine acalls_ex MixT Tryz.func117 (by decide) ?_
    rw [d117]
    obtain ⟨c1, c2⟩ := cellFx h
    simp [nilV, aIsPtr, c1, c2]
    refine bndD_same (v := i64 0) (by simp [aBuiltin]) ?_
    have w0 : IntKind.i64.wrap (n : Int) = n := wrap_i64 (by omega) (by omega)
    simp [w0]
    refine bndD_of (c_mnz h0 (by omega)) (.inr ⟨_, rfl⟩) ?_
    have c3 : hcells (K ++ [.cells (List.replicate n unkV) 5]) pb = some [selfP pb, .slice none 0 0] := hcells_more c1
    have c4 : hlen (K ++ [.cells (List.replicate n unkV) 5]) pb = some 2 := by rw [hcells_len c3]; rfl
    have e1 : (K ++ [.cells (List.replicate n unkV) 5])[K.length]? = some (.cells (List.replicate n unkV) 5) := by simp
    have e2 := get_more (X := [.cells (List.replicate n unkV) 5]) h
    have hlt : pb < K.length := (List.getElem?_eq_some_iff.1 h).1
    obtain ⟨d1, d2⟩ := cellFx e1
    rw [List.length_replicate] at d2
    have hs : aSliceOp Tryz.prog (K ++ [.cells (List.replicate n unkV) 5]) 55 (.slice (some ⟨K.length, 0, some n⟩) n n) none (some (i64 0)) = some (.slice (some ⟨K.length, 0, some n⟩) 0 n) := by
      simp [aSliceOp, aLow, aHigh, d2]
    simp [nilV, aIsPtr, c1, c2, c3, c4, hs]
    have hcp : aBuiltin Tryz.prog (K ++ [.cells (List.replicate n unkV) 5]) .copy #[55, 55] [.slice (some ⟨K.length, 0, some n⟩) 0 n, .slice none 0 0] = some (i64 0, K ++ [.cells (List.replicate n unkV) 5]) := by
      simp [aBuiltin, aCopy, aSrc]
    rw [hcp]
    simp [nilV, aIsPtr, c4, e2]
    refine ⟨⟨selfP pb, .slice (some ⟨K.length, 0, some n⟩) 0 n, by rw [List.getElem?_set_self (by simp; omega)], .inr rfl, .mk K.length 0 n (List.replicate n unkV) [] hlt ?_ (by simp) rfl (by omega) rfl (by simp) h0⟩, ?_⟩
    · rw [List.getElem?_set_ne (by omega)]; exact e1
    · exact Keeps.app.trans (.set (Nat.le_refl _))
  exact ⟨K', q3, q1, q2⟩
theorem c_grow {K : AHeap} {pb n : Nat} (h : K[pb]? = some (.cells [.pointer none, .slice none 0 0] 116)) (h1 : n ≤ 2 ^ 46) :
    ∃ K', ACalls Tryz.prog 78 [selfP pb, i64 n] K (.tuple #[]) K' ∧ Bld (decide (0 < n)) K' pb [] ∧ Keeps pb K K' := by
  obtain ⟨v, K', ⟨rfl, q1, q2⟩, q3⟩ : ∃ v K', (v = .tuple #[] ∧ Bld (decide (0 < n)) K' pb [] ∧ Keeps pb K K') ∧ ACalls Tryz.prog 78 [selfP pb, i64 n] K v K' := by
    refine acalls_ex MixT Tryz.func78 (by decide) ?_
    rw [d78]
    refine bndC_of (c_copyCheck h (.inl rfl) rfl) ?_
    have hlt : pb < K.length := (List.getElem?_eq_some_iff.1 h).1
    have hM : (K.set pb (.cells [selfP pb, .slice none 0 0] 116))[pb]? = some (.cells [selfP pb, .slice none 0 0] 116) := List.getElem?_set_self hlt
    have hk1 : Keeps pb K (K.set pb (.cells [selfP pb, .slice none 0 0] 116)) := .set (Nat.le_refl _)
    generalize K.set pb (.cells [selfP pb, .slice none 0 0] 116) = M at hM hk1 ⊢
    obtain ⟨c1, c2⟩ := cellFx hM
    have hn0 : ¬ (n : Int) < 0 := by omega
    simp [hn0, S78x0q, nilV, aIsPtr, c1, c2]
    refine bndD_same (v := i64 0) (by simp [aBuiltin]) ?_
    simp [nilV, aIsPtr, c1, c2]
    by_cases h0 : 0 < n
    · simp [h0]
      obtain ⟨K', g1, g2, g3⟩ := c_grow1 hM h0 h1
      refine bndC_of g1 ⟨rfl, by simpa [h0] using g2, hk1.trans g3⟩
    · simp [h0]
      exact ⟨⟨selfP pb, .slice none 0 0, hM, .inr rfl, .nil⟩, hk1⟩
  exact ⟨K', q3, q1, q2⟩
inductive Parts (K : AHeap) : Value → List (List UInt8) → Prop
  | nil : Parts K (.slice none 0 0) []
  | mk (b : Nat) (l : List (List UInt8)) (hb : hcells K b = some (l.map str)) : Parts K (.slice (some ⟨b, 0, some l.length⟩) l.length l.length) l
theorem Parts.pre {H K v l} (h : Parts H v l) (p : Pre H K) : Parts K v l := by
  cases h with
  | nil => exact .nil
  | mk b l hb => exact .mk b l (p.hcells hb)
theorem Parts.len {H v l} (h : Parts H v l) (K : AHeap) : aLen Tryz.prog K 42 v = some (i64 l.length) := by
  cases h <;> simp
theorem Parts.load {H v l} (h : Parts H v l) {i : Nat} {s : List UInt8} (hi : l[i]? = some s) : ∃ p, aIndexAddr Tryz.prog H 42 v (i64 i) = some p ∧ aLoad Tryz.prog H 9 p = some (str s) := by
  have ha : Arr H 1 v (strCells l) := by
    cases h with
    | nil => exact .nil
    | mk b l hb =>
      refine .mk b 0 _ _ _ (l.map str) _ (by simp [strCells]) hb (by simp) (by omega) fun i e hi => ?_
      simp only [strCells, List.getElem?_map, Option.map_eq_some_iff] at hi
      obtain ⟨s, h1, rfl⟩ := hi
      rw [Nat.zero_add, Nat.mul_one, ← List.map_drop, List.drop_eq_getElem_cons (List.getElem?_eq_some_iff.1 h1).1, List.map_cons, List.take_succ_cons, List.take_zero, (List.getElem?_eq_some_iff.1 h1).2]
  exact ha.load1 (by simp) (by simp) (by simp) (by simp [strCells, hi])
theorem Parts.tail {H v a l} (h : Parts H v (a :: l)) (hl : 0 < l.length) : ∃ t, aSliceOp Tryz.prog H 42 v (some (i64 1)) none = some t ∧ (∀ K, aLen Tryz.prog K 42 t = some (i64 l.length)) ∧
    ∀ K, Pre H K → ∀ (i : Nat) s, l[i]? = some s → ∃ p, aIndexAddr Tryz.prog K 42 t (i64 i) = some p ∧ aLoad Tryz.prog K 9 p = some (str s) := by
  cases h with
  | mk b _ hb =>
    have hhl : hlen H b = some (l.length + 1) := by rw [hcells_len hb]; simp
    refine ⟨.slice (some ⟨b, 1, some (l.length + 1)⟩) l.length l.length, ?_, fun K => by simp, fun K p i s hi => ?_⟩
    · simp [aSliceOp, aLow, aHigh, hhl]
      omega
    · have ha : Arr K 1 (.slice (some ⟨b, 1, some (l.length + 1)⟩) l.length l.length) (strCells l) := by
        refine .mk b 1 _ _ _ ((a :: l).map str) _ (by simp [strCells]) (p.hcells hb) (by simp) (by omega) fun i e hi => ?_
        simp only [strCells, List.getElem?_map, Option.map_eq_some_iff] at hi
        obtain ⟨s, h1, rfl⟩ := hi
        rw [Nat.mul_one, Nat.add_comm, List.map_cons, List.drop_succ_cons, ← List.map_drop, List.drop_eq_getElem_cons (List.getElem?_eq_some_iff.1 h1).1, List.map_cons, List.take_succ_cons, List.take_zero, (List.getElem?_eq_some_iff.1 h1).2]
      exact ha.load1 (by simp) (by simp) (by simp) (by simp [strCells, hi])
def joinS (sep : List UInt8) : List (List UInt8) → List UInt8
  | [] => []
  | a :: r => a ++ (r.map (sep ++ ·)).flatten
theorem join_w {H : AHeap} {t : Value} {sep : List UInt8} {l : List (List UInt8)} {pb : Nat} {k : Value → AHeap → Prop} (hpb : H.length ≤ pb) (_hlen : ∀ K, aLen Tryz.prog K 42 t = some (i64 l.length)) (hll : l.length < 2 ^ 62)
    (hat : ∀ K, Pre H K → ∀ (i : Nat) s, l[i]? = some s → ∃ p, aIndexAddr Tryz.prog K 42 t (i64 i) = some p ∧ aLoad Tryz.prog K 9 p = some (str s)) (w : List UInt8) (hw46 : w.length ≤ 2 ^ 46) (hne : w ≠ []) (hk : ∀ K, Pre H K → k (str w) K) :
    ∀ (r : List (List UInt8)) (i : Nat) (acc : List UInt8) (g : Bool) (K : AHeap) (s0 s2 s3 s4 s5 s6 s7 s9 s10 s11 s12 s13 s14 s15 s16 s17 s18 s19 s20 s21 s22 s23 s24 s25 s26 s27 s28 s29 s30 s31 s32 s33 s34 s35 s36 s37 s38 s39 s40 s41 s42 s43 s44 s45 s46 s47 s48 s49 s50 s51 s52 s53 s54 s55 s56 s57 s58 s59 s60 s61 s62 s66 s67 s68 s69 s70 s71 s72 s73 s74 : Value), l.drop i = r → i ≤ l.length → Pre H K → Bld g K pb acc → (g = true → acc = []) → w = acc ++ (r.map (sep ++ ·)).flatten →
      L46x1 (r.length + 1) k [s0, str sep, s2, s3, s4, s5, s6, s7, selfP pb, s9, s10, s11, s12, s13, s14, s15, s16, s17, s18, s19, s20, s21, s22, s23, s24, s25, s26, s27, s28, s29, s30, s31, s32, s33, s34, s35, s36, s37, s38, s39, s40, s41, s42, s43, s44, s45, s46, s47, s48, s49, s50, s51, s52, s53, s54, s55, s56, s57, s58, s59, s60, s61, s62, t, i64 l.length, i64 i, s66, s67, s68, s69, s70, s71, s72, s73, s74] K := by
  intro r
  induction r with
  | nil =>
    intro i acc g K s0 s2 s3 s4 s5 s6 s7 s9 s10 s11 s12 s13 s14 s15 s16 s17 s18 s19 s20 s21 s22 s23 s24 s25 s26 s27 s28 s29 s30 s31 s32 s33 s34 s35 s36 s37 s38 s39 s40 s41 s42 s43 s44 s45 s46 s47 s48 s49 s50 s51 s52 s53 s54 s55 s56 s57 s58 s59 s60 s61 s62 s66 s67 s68 s69 s70 s71 s72 s73 s74 hd hi hp hb hg hw
    have hle : l.length ≤ i := by simpa using hd
    simp at hw
    subst hw
    have hgf : g = false := by
      cases g with
      | false => rfl
      | true => exact absurd (hg rfl) hne
    subst hgf
    rw [List.length_nil, L46x1q]
    have : ¬ i < l.length := by omega
    simp [this]
    obtain ⟨v, K', ⟨rfl, h1⟩, h2⟩ := c_bstring hb (by omega)
    exact bndC_of h2 (hk _ (h1 H hp hpb))
  | cons s r ih =>
    intro i acc g K s0 s2 s3 s4 s5 s6 s7 s9 s10 s11 s12 s13 s14 s15 s16 s17 s18 s19 s20 s21 s22 s23 s24 s25 s26 s27 s28 s29 s30 s31 s32 s33 s34 s35 s36 s37 s38 s39 s40 s41 s42 s43 s44 s45 s46 s47 s48 s49 s50 s51 s52 s53 s54 s55 s56 s57 s58 s59 s60 s61 s62 s66 s67 s68 s69 s70 s71 s72 s73 s74 hd hi hp hb hg hw
    have hbi : l[i]? = some s := by rw [← List.head?_drop, hd]; rfl
    have hlt : i < l.length := (List.getElem?_eq_some_iff.1 hbi).1
    have hwl := congrArg List.length hw
    simp at hwl
    rw [List.length_cons, L46x1q]
    obtain ⟨p, e1, e2⟩ := hat K hp i s hbi
    simp [hlt, e1, e2]
    obtain ⟨v1, K1, ⟨rfl, h1, h2⟩, h3⟩ := c_writeString (ys := sep) hb (by omega)
    refine bndC_of h3 ?_
    have hp1 := h2 H hp hpb
    obtain ⟨v2, K2, ⟨rfl, h4, h5⟩, h6⟩ := c_writeString (ys := s) h1 (by simp; omega)
    refine bndC_of h6 ?_
    have hp2 := h5 H hp1 hpb
    simp [show i + 1 < 2 ^ 63 by omega]
    refine ih (i + 1) (acc ++ sep ++ s) _ K2 _ _ _ _ _ _ _ _ _ _ _ _ _ _ _ _ _ _ _ _ _ _ _ _ _ _ _ _ _ _ _ _ _ _ _ _ _ _ _ _ _ _ _ _ _ _ _ _ _ _ _ _ _ _ _ _ _ _ _ _ _ _ _ _ _ _ _ _ _ _ (by rw [← List.drop_drop, hd]; rfl) hlt hp2 h4 (fun h => ?_) (by rw [hw]; simp)
    simp at h
    rw [hg h.1.1, h.1.2, h.2]; rfl
def sumL : List (List UInt8) → Nat
  | [] => 0
  | a :: r => a.length + sumL r
theorem join_len (sep a : List UInt8) : ∀ r : List (List UInt8), (joinS sep (a :: r)).length = sep.length * r.length + sumL (a :: r) := by
  intro r
  have h : ∀ r : List (List UInt8), ((r.map (sep ++ ·)).flatten).length = sep.length * r.length + sumL r := by
    intro r
    induction r with
    | nil => simp [sumL]
    | cons x r ih => rw [List.map_cons, List.flatten_cons, List.length_append, ih, List.length_append, sumL, List.length_cons, Nat.mul_add, Nat.mul_one]; omega
  rw [joinS, List.length_append, h, sumL]
  omega
theorem join_n {H : AHeap} {v : Value} {sep : List UInt8} {a : List UInt8} {l : List (List UInt8)} {k : Value → AHeap → Prop} (hv : Parts H v (a :: l)) (hl : 0 < l.length) (hj : (joinS sep (a :: l)).length ≤ 2 ^ 46) (hne : joinS sep (a :: l) ≠ []) (hll : l.length < 2 ^ 61)
    (hk : ∀ K, Pre H K → k (str (joinS sep (a :: l))) K) :
    ∀ (r : List (List UInt8)) (i n : Nat) (s2 s3 s4 s6 s7 s8 s9 s10 s11 s12 s13 s14 s15 s16 s17 s18 s19 s20 s21 s22 s23 s24 s25 s26 s27 s28 s29 s30 s31 s32 s33 s34 s35 s36 s37 s38 s42 s43 s44 s45 s46 s47 s48 s49 s50 s51 s52 s53 s54 s55 s56 s57 s58 s59 s60 s61 s62 s63 s64 s65 s66 s67 s68 s69 s70 s71 s72 s73 s74 : Value), (a :: l).drop i = r → i ≤ l.length + 1 → n + sumL r = (joinS sep (a :: l)).length →
      L46x0 (r.length + 1) k [v, str sep, s2, s3, s4, i64 n, s6, s7, s8, s9, s10, s11, s12, s13, s14, s15, s16, s17, s18, s19, s20, s21, s22, s23, s24, s25, s26, s27, s28, s29, s30, s31, s32, s33, s34, s35, s36, s37, s38, v, i64 ((l.length + 1 : Nat) : Int), i64 i, s42, s43, s44, s45, s46, s47, s48, s49, s50, s51, s52, s53, s54, s55, s56, s57, s58, s59, s60, s61, s62, s63, s64, s65, s66, s67, s68, s69, s70, s71, s72, s73, s74] H := by
  intro r
  induction r with
  | nil =>
    intro i n s2 s3 s4 s6 s7 s8 s9 s10 s11 s12 s13 s14 s15 s16 s17 s18 s19 s20 s21 s22 s23 s24 s25 s26 s27 s28 s29 s30 s31 s32 s33 s34 s35 s36 s37 s38 s42 s43 s44 s45 s46 s47 s48 s49 s50 s51 s52 s53 s54 s55 s56 s57 s58 s59 s60 s61 s62 s63 s64 s65 s66 s67 s68 s69 s70 s71 s72 s73 s74 hd hi hn
    have hle : l.length + 1 ≤ i := by have := congrArg List.length hd; simp at this; omega
    simp only [sumL, Nat.add_zero] at hn
    subst hn
    rw [List.length_nil, L46x0q]
    have : ¬ (i : Int) < ((l.length + 1 : Nat) : Int) := by omega
    simp only [aBin_lss, bnd_some, this, decide_false, kifB_false]
    simp
    obtain ⟨K1, g1, g2, g3⟩ := c_grow (K := H ++ [.cells [.pointer none, .slice none 0 0] 116]) (pb := H.length) (by simp) hj
    have hp1 : Pre H K1 := g3 H (.app _ _) (Nat.le_refl _)
    refine bndC_of g1 ?_
    obtain ⟨p, e1, e2⟩ := (hv.pre hp1).load (i := 0) (s := a) rfl
    simp at e1
    simp [e1, e2]
    obtain ⟨v2, K2, ⟨rfl, h1, h2⟩, h3⟩ := c_writeString (ys := a) g2 (by simp; have := join_len sep a l; simp only [sumL] at this; omega)
    refine bndC_of h3 ?_
    have hp2 := h2 H hp1 (Nat.le_refl _)
    obtain ⟨t, t0, t2, t3⟩ := hv.tail hl
    have t1 : aSliceOp Tryz.prog K2 42 v (some (i64 1)) none = some t := by
      obtain ⟨X, rfl⟩ := hp2
      exact aSliceOp_more t0
    simp [t1, t2]
    exact ⟨l.length + 1, join_w (H := H) (l := l) (sep := sep) (pb := H.length) (Nat.le_refl _) t2 (by omega) t3 (joinS sep (a :: l)) hj hne hk l 0 a _ K2 _ _ _ _ _ _ _ _ _ _ _ _ _ _ _ _ _ _ _ _ _ _ _ _ _ _ _ _ _ _ _ _ _ _ _ _ _ _ _ _ _ _ _ _ _ _ _ _ _ _ _ _ _ _ _ _ _ _ _ _ _ _ _ _ _ _ _ _ _ _ rfl (by omega) hp2 (by simpa using h1) (fun h => by simp at h; exact h.2) rfl⟩
  | cons s r ih =>
    intro i n s2 s3 s4 s6 s7 s8 s9 s10 s11 s12 s13 s14 s15 s16 s17 s18 s19 s20 s21 s22 s23 s24 s25 s26 s27 s28 s29 s30 s31 s32 s33 s34 s35 s36 s37 s38 s42 s43 s44 s45 s46 s47 s48 s49 s50 s51 s52 s53 s54 s55 s56 s57 s58 s59 s60 s61 s62 s63 s64 s65 s66 s67 s68 s69 s70 s71 s72 s73 s74 hd hi hn
    have hbi : (a :: l)[i]? = some s := by rw [← List.head?_drop, hd]; rfl
    have hlt : i < l.length + 1 := by simpa using (List.getElem?_eq_some_iff.1 hbi).1
    obtain ⟨p, e1, e2⟩ := hv.load hbi
    rw [sumL] at hn
    have w1 : IntKind.i64.wrap (9223372036854775807 - (n : Int)) = 9223372036854775807 - (n : Int) := wrap_i64 (by omega) (by omega)
    have w2 : ¬ (9223372036854775807 - (n : Int) < s.length) := by omega
    have w3 : IntKind.i64.wrap ((n : Int) + s.length) = ((n + s.length : Nat) : Int) := by rw [wrap_i64 (by omega) (by omega)]; omega
    have hltI : (i : Int) < ((l.length + 1 : Nat) : Int) := by omega
    rw [List.length_cons, L46x0q]
    simp only [aBin_lss, bnd_some, hltI, decide_true, kifB_true]
    simp [e1, e2, w1, w2, S46x2q, w3, show i + 1 < 2 ^ 63 by omega]
    exact ih (i + 1) (n + s.length) _ _ _ _ _ _ _ _ _ _ _ _ _ _ _ _ _ _ _ _ _ _ _ _ _ _ _ _ _ _ _ _ _ _ _ _ _ _ _ _ _ _ _ _ _ _ _ _ _ _ _ _ _ _ _ _ _ _ _ _ _ _ _ _ _ _ _ _ _ (by rw [← List.drop_drop, hd]; rfl) hlt (by omega)
theorem c_join {H : AHeap} {v : Value} {sep : List UInt8} {l : List (List UInt8)} (hv : Parts H v l) (hj : (joinS sep l).length ≤ 2 ^ 46) (hll : l.length < 2 ^ 40) (hsl : sep.length < 2 ^ 20) (hne : 2 ≤ l.length → joinS sep l ≠ []) :
    ACalls Tryz.prog 46 [v, str sep] H (str (joinS sep l)) H := by
  refine acalls_pure MixT Tryz.func46 (by decide) rfl ?_
  rw [d46]
  have hlen := fun K => hv.len K
  match l, hv with
  | [], hv => simp [hlen]; rfl
  | [a], hv =>
    obtain ⟨p, e1, e2⟩ := hv.load (i := 0) (s := a) rfl
    simp at e1
    simp [hlen, e1, e2, joinS]
  | a :: b :: r, hv =>
    have hl2 : (a :: b :: r).length = r.length + 2 := rfl
    rw [hl2] at hll
    simp only [hl2] at hlen
    have w0 : IntKind.i64.wrap (((r.length + 2 : Nat) : Int) - 1) = ((r.length + 1 : Nat) : Int) := by rw [wrap_i64 (by omega) (by omega)]; omega
    have f0 : ((r.length : Int) + 2 == 0) = false := by rw [beq_eq_false_iff_ne]; omega
    have f1 : ((r.length : Int) + 2 == 1) = false := by rw [beq_eq_false_iff_ne]; omega
    have hjl := join_len sep a (b :: r)
    have go := fun (n : Nat) (hn : n + sumL (a :: b :: r) = (joinS sep (a :: b :: r)).length) (s2 s3 s4 s6 s7 s8 s9 s10 s11 s12 s13 s14 s15 s16 s17 s18 s19 s20 s21 s22 s23 s24 s25 s26 s27 s28 s29 s30 s31 s32 s33 s34 s35 s36 s37 s38 s42 s43 s44 s45 s46 s47 s48 s49 s50 s51 s52 s53 s54 s55 s56 s57 s58 s59 s60 s61 s62 s63 s64 s65 s66 s67 s68 s69 s70 s71 s72 s73 s74 : Value) => join_n (H := H) (v := v) (sep := sep) (k := fun u H2 => u = str (joinS sep (a :: b :: r)) ∧ ∃ X, H2 = H ++ X) hv (by simp) hj (hne (by simp)) (by simp; omega) (fun K p => ⟨rfl, p⟩) (a :: b :: r) 0 n s2 s3 s4 s6 s7 s8 s9 s10 s11 s12 s13 s14 s15 s16 s17 s18 s19 s20 s21 s22 s23 s24 s25 s26 s27 s28 s29 s30 s31 s32 s33 s34 s35 s36 s37 s38 s42 s43 s44 s45 s46 s47 s48 s49 s50 s51 s52 s53 s54 s55 s56 s57 s58 s59 s60 s61 s62 s63 s64 s65 s66 s67 s68 s69 s70 s71 s72 s73 s74 rfl (by omega) hn
    simp at w0
    simp [hlen, f0, f1]
    by_cases hs0 : sep.length = 0
    · simp [hs0, S46x1q, hlen]
      refine ⟨r.length + 2 + 1, ?_⟩
      exact go 0 (by rw [hjl, hs0]; simp) _ _ _ _ _ _ _ _ _ _ _ _ _ _ _ _ _ _ _ _ _ _ _ _ _ _ _ _ _ _ _ _ _ _ _ _ _ _ _ _ _ _ _ _ _ _ _ _ _ _ _ _ _ _ _ _ _ _ _ _ _ _ _ _ _ _ _ _ _
    · have hs0' : 0 < sep.length := by omega
      have hq := fun X Y => quoL (P := Tryz.prog) (H := H) (T := 3) (x := X) (y := Y) (k := .i64) (a := 9223372036854775807) (c := (r.length : Int) + 1) (n := r.length + 1) (by simp) (by omega) (by
        have : 9223372036854775807 / (r.length + 1) ≤ 9223372036854775807 := Nat.div_le_self _ _
        generalize 9223372036854775807 / (r.length + 1) = X at this ⊢
        exact wrap_i64 (by omega) (by omega))
      have hD : sep.length + 1 ≤ 9223372036854775807 / (r.length + 1) := by
        rw [Nat.le_div_iff_mul_le (by omega)]
        have h1 : (sep.length + 1) * (r.length + 1) ≤ 2 ^ 20 * 2 ^ 40 := Nat.mul_le_mul (by omega) (by omega)
        omega
      generalize 9223372036854775807 / (r.length + 1) = D at hq hD
      have hg : ¬ ((D : Int) ≤ sep.length) := by omega
      have hq' : ∀ X Y, aBin2 Tryz.prog H .quo 3 X Y (.int .i64 9223372036854775807) (.int .i64 ((r.length : Int) + 1)) = some (i64 (D : Int)) := fun X Y => hq X Y
      simp [hs0', w0, hlen, hq', hg]
      have hN : (joinS sep (a :: b :: r)).length = sep.length * (r.length + 1) + sumL (a :: b :: r) := hjl
      have hm : IntKind.i64.wrap ((sep.length : Int) * ((r.length : Int) + 1)) = ((sep.length * (r.length + 1) : Nat) : Int) := by
        have e : (sep.length : Int) * ((r.length : Int) + 1) = ((sep.length * (r.length + 1) : Nat) : Int) := by simp
        rw [e]
        generalize sep.length * (r.length + 1) = N at hN ⊢
        exact wrap_i64 (by omega) (by omega)
      have hm2 : IntKind.i64.wrap ((sep.length * (r.length + 1) : Nat) : Int) = ((sep.length * (r.length + 1) : Nat) : Int) := by
        generalize sep.length * (r.length + 1) = N at hN ⊢
        exact wrap_i64 (by omega) (by omega)
      have hgo := go (sep.length * (r.length + 1)) hN.symm
      clear go hq hq' hN hjl
      generalize sep.length * (r.length + 1) = N at hm hm2 hgo
      simp [S46x0q, hlen, w0, hm, hm2, S46x1q]
      exact ⟨r.length + 2 + 1, hgo _ _ _ _ _ _ _ _ _ _ _ _ _ _ _ _ _ _ _ _ _ _ _ _ _ _ _ _ _ _ _ _ _ _ _ _ _ _ _ _ _ _ _ _ _ _ _ _ _ _ _ _ _ _ _ _ _ _ _ _ _ _ _ _ _ _ _ _ _⟩
end Go.Vi
namespace Go.Vi
open Go Go.Proofs

def escB (b : UInt8) : List UInt8 := if (b = 34 ∨ b = 92) then [92, b] else [b]
def quoteS (v : List UInt8) : List UInt8 := 34 :: (v.flatMap escB) ++ [34]
theorem escB_len (b : UInt8) : (escB b).length ≤ 2 := by unfold escB; split <;> simp
theorem esc_len : ∀ v : List UInt8, (v.flatMap escB).length ≤ 2 * v.length := by
  intro v
  induction v with
  | nil => simp
  | cons b r ih => rw [List.flatMap_cons, List.length_append, List.length_cons]; have := escB_len b; omega
theorem quote_loop {H : AHeap} {l : List UInt8} {pb : Nat} {k : Value → AHeap → Prop} (hpb : H.length ≤ pb) (hl : l.length < 2 ^ 40) (hk : ∀ K, Pre H K → k (str (quoteS l)) K) :
    ∀ (r : List UInt8) (i : Nat) (acc : List UInt8) (K : AHeap) (s1 s2 s4 s5 s6 s9 s10 s11 s12 s13 s14 s15 s16 s17 s18 s19 s20 s21 s22 s23 s24 s25 s26 s27 s28 : Value), l.drop i = r → i ≤ l.length → Pre H K → Bld false K pb acc → acc.length ≤ 1 + 2 * i → 34 :: l.flatMap escB = acc ++ r.flatMap escB →
      L111x0 (r.length + 1) k [str l, s1, s2, selfP pb, s4, s5, s6, i64 l.length, i64 i, s9, s10, s11, s12, s13, s14, s15, s16, s17, s18, s19, s20, s21, s22, s23, s24, s25, s26, s27, s28] K := by
  intro r
  induction r with
  | nil =>
    intro i acc K s1 s2 s4 s5 s6 s9 s10 s11 s12 s13 s14 s15 s16 s17 s18 s19 s20 s21 s22 s23 s24 s25 s26 s27 s28 hd hi hp hb ha hw
    have hle : l.length ≤ i := by simpa using hd
    rw [List.length_nil, L111x0q]
    have : ¬ i < l.length := by omega
    simp [this]
    obtain ⟨v1, K1, ⟨rfl, h1, h2⟩, h3⟩ := c_writeByte (b := 34) hb (by omega)
    refine bndC_of h3 ?_
    obtain ⟨v2, K2, ⟨rfl, h4⟩, h5⟩ := c_bstring h1 (by simp; omega)
    refine bndC_of h5 ?_
    have e : quoteS l = acc ++ [34] := by
      unfold quoteS
      rw [show (34 :: List.flatMap escB l) = acc by simpa using hw]
    rw [← e]
    exact hk _ (h4 H (h2 H hp hpb) hpb)
  | cons b r ih =>
    intro i acc K s1 s2 s4 s5 s6 s9 s10 s11 s12 s13 s14 s15 s16 s17 s18 s19 s20 s21 s22 s23 s24 s25 s26 s27 s28 hd hi hp hb ha hw
    have hbi : l[i]? = some b := by rw [← List.head?_drop, hd]; rfl
    have hlt : i < l.length := (List.getElem?_eq_some_iff.1 hbi).1
    have hix := aIndex_at (P := Tryz.prog) (T := 9) (k := .i64) (by simp) hbi
    have step : ∀ (acc' : List UInt8) (K' : AHeap) (s1 s2 s5 s6 s9 s10 s11 s12 s13 s14 s15 s16 s17 s18 s19 s20 s21 s22 s23 s24 s25 s26 s27 s28 : Value), Pre H K' → Bld false K' pb acc' → acc'.length ≤ 2 + 2 * i → 34 :: l.flatMap escB = acc' ++ [b] ++ r.flatMap escB →
        S111x0 (r.length + 1) k [str l, s1, s2, selfP pb, i64 i, s5, s6, i64 l.length, i64 i, s9, s10, s11, s12, s13, s14, s15, s16, s17, s18, s19, s20, s21, s22, s23, s24, s25, s26, s27, s28] K' := by
      intro acc' K' s1 s2 s5 s6 s9 s10 s11 s12 s13 s14 s15 s16 s17 s18 s19 s20 s21 s22 s23 s24 s25 s26 s27 s28 hp' hb' ha' hw'
      rw [S111x0q]
      simp only [hix, bnd_some]
      obtain ⟨v1, K1, ⟨rfl, h1, h2⟩, h3⟩ := c_writeByte (b := b) hb' (by omega)
      refine bndC_of h3 ?_
      simp [show i + 1 < 2 ^ 63 by omega]
      exact ih (i + 1) (acc' ++ [b]) K1 _ _ _ _ _ _ _ _ _ _ _ _ _ _ _ _ _ _ _ _ _ _ _ _ _ (by rw [← List.drop_drop, hd]; rfl) hlt (h2 H hp' hpb) h1 (by simp; omega) hw'
    rw [List.flatMap_cons] at hw
    rw [List.length_cons, L111x0q]
    have e34 : ((b.toNat : Int) == 34) = decide (b = 34) := by
      rw [Bool.eq_iff_iff]; simp
      exact ⟨fun e => UInt8.toNat_inj.1 (by simp; omega), fun e => by subst e; rfl⟩
    have e92 : ((b.toNat : Int) == 92) = decide (b = 92) := by
      rw [Bool.eq_iff_iff]; simp
      exact ⟨fun e => UInt8.toNat_inj.1 (by simp; omega), fun e => by subst e; rfl⟩
    by_cases hq : b = 34 ∨ b = 92
    · have he : escB b = [92, b] := by unfold escB; rw [if_pos hq]
      rw [he] at hw
      have hq' : (decide (b = 34) || decide (b = 92)) = true := by simpa using hq
      simp +contextual [hlt, hix, e34, e92]
      refine kifB_bool (fun _ => ?_) (fun h => ?_)
      · obtain ⟨v1, K1, ⟨rfl, h1, h2⟩, h3⟩ := c_writeByte (b := 92) hb (by omega)
        refine bndC_of h3 ?_
        exact step (acc ++ [92]) K1 _ _ _ _ _ _ _ _ _ _ _ _ _ _ _ _ _ _ _ _ _ _ _ _ (h2 H hp hpb) h1 (by simp; omega) (by rw [hw]; simp)
      · simp at h
        exact absurd hq (by simp [h])
    · have he : escB b = [b] := by unfold escB; rw [if_neg hq]
      rw [he] at hw
      simp +contextual [hlt, hix, e34, e92]
      refine kifB_bool (fun h => ?_) (fun h => ?_)
      · exact absurd (by simpa using h) hq
      · exact step acc K _ _ _ _ _ _ _ _ _ _ _ _ _ _ _ _ _ _ _ _ _ _ _ _ hp hb (by omega) (by rw [hw]; simp)
theorem c_quote {H : AHeap} {l : List UInt8} (hl : l.length < 2 ^ 40) : ACalls Tryz.prog 111 [str l] H (str (quoteS l)) H := by
  refine acalls_pure MixT Tryz.func111 (by decide) rfl ?_
  rw [d111]
  simp
  have hb0 : Bld false (H ++ [.cells [.pointer none, .slice none 0 0] 116]) H.length [] := ⟨.pointer none, .slice none 0 0, by simp, .inl rfl, .nil⟩
  obtain ⟨v1, K1, ⟨rfl, h1, h2⟩, h3⟩ := c_writeByte (b := 34) hb0 (by simp)
  refine bndC_of h3 ?_
  simp
  exact ⟨l.length + 1, quote_loop (H := H) (k := fun u H2 => u = str (quoteS l) ∧ ∃ X, H2 = H ++ X) (Nat.le_refl _) hl (fun K p => ⟨rfl, p⟩) l 0 [34] K1 _ _ _ _ _ _ _ _ _ _ _ _ _ _ _ _ _ _ _ _ _ _ _ _ _ rfl (by omega) (h2 H (.app _ _) (Nat.le_refl _)) h1 (by simp) rfl⟩
theorem c_joined {H : AHeap} {v : Value} {l : List (List UInt8)} (hv : Parts H v l) (hj : (joinS [] l).length ≤ 2 ^ 46) (hll : l.length < 2 ^ 40) (hne : 2 ≤ l.length → joinS [] l ≠ []) : ACalls Tryz.prog 110 [v] H (str (joinS [] l)) H := by
  refine acalls_pure MixT Tryz.func110 (by decide) rfl ?_
  rw [d110]
  exact bndC_of (c_join (sep := []) hv hj hll (by simp) hne) ⟨rfl, [], by simp⟩
def sgnS (n : Int) : List UInt8 := if isOp n = true then opS n else [61]
def matS (m : Mat) : List UInt8 := m.name ++ sgnS m.op ++ quoteS m.value
def selS (ms : List Mat) : List UInt8 := 123 :: joinS [44] (ms.map matS) ++ [125]
def Mat.tame (m : Mat) : Prop := m.name.length ≤ 2 ^ 20 ∧ m.value.length ≤ 2 ^ 20
theorem sgnS_len (n : Int) : (sgnS n).length ≤ 2 := by
  unfold sgnS opS
  split
  · split
    · simp
    · split
      · simp
      · split <;> simp
  · simp
theorem quoteS_len (v : List UInt8) : (quoteS v).length ≤ 2 * v.length + 2 := by
  have := esc_len v
  rw [quoteS, List.length_append, List.length_cons]
  simp only [List.length_cons, List.length_nil]
  omega
theorem matS_len {m : Mat} (h : m.tame) : (matS m).length ≤ 2 ^ 22 - 2 ∧ 2 ≤ (matS m).length := by
  have h1 := sgnS_len m.op
  have h2 := quoteS_len m.value
  obtain ⟨a, b⟩ := h
  have h3 : 2 ≤ (quoteS m.value).length := by simp [quoteS]
  simp only [matS, List.length_append]
  omega
theorem sumL_le {c : Nat} : ∀ l : List (List UInt8), (∀ x ∈ l, x.length ≤ c) → sumL l ≤ c * l.length := by
  intro l
  induction l with
  | nil => intro _; simp [sumL]
  | cons a r ih =>
    intro h
    rw [sumL, List.length_cons, Nat.mul_add]
    have := ih fun x hx => h x (by simp [hx])
    have := h a (by simp)
    omega
theorem sel_len {ms : List Mat} (hm : ∀ m ∈ ms, m.tame) (hl : ms.length ≤ 2 ^ 20) : (joinS [44] (ms.map matS)).length ≤ 2 ^ 43 := by
  cases h : ms.map matS with
  | nil => simp [joinS]
  | cons a r =>
    rw [join_len]
    have hall : ∀ x ∈ a :: r, x.length ≤ 2 ^ 22 - 2 := by
      rw [← h]
      intro x hx
      obtain ⟨m, hm1, rfl⟩ := List.mem_map.1 hx
      exact (matS_len (hm m hm1)).1
    have h2 := sumL_le _ hall
    have h3 : (a :: r).length ≤ 2 ^ 20 := by rw [← h]; simpa using hl
    have h4 : (2 ^ 22 - 2) * (a :: r).length ≤ (2 ^ 22 - 2) * 2 ^ 20 := Nat.mul_le_mul_left _ h3
    simp at h3 ⊢
    omega
theorem join_ne {sep a b : List UInt8} {r : List (List UInt8)} (h : sep ≠ [] ∨ a ≠ []) : joinS sep (a :: b :: r) ≠ [] := by
  intro e
  simp [joinS] at e
  rcases h with h | h
  · exact h e.2.1
  · exact h e.1
theorem strs_lit {P : Program} {H : AHeap} {T e : TypeId} {l : List (List UInt8)} {n : Nat} (hs : aBuildSlice P H T n (enumL 0 (l.map str)) = bslV e #[.string ⟨#[]⟩] H n (enumL 0 (l.map str))) (hn : n = l.length) (hb : n ≤ 16777216) :
    sliceLit P H T n (enumL 0 (l.map str)) (.slice (some ⟨H.length, 0, some n⟩) n n) (H ++ [.cells (l.map str) e]) :=
  sliceLit1 hs (fun v hv => by obtain ⟨s, _, rfl⟩ := List.mem_map.1 hv; rfl) (by simpa using hn) hb
theorem Gro.parts {K lo v l} (h : Gro K lo 1 9 v (strCells l)) : Parts K v l := by
  have hf : ∀ l : List (List UInt8), (strCells l).flatten = l.map str := by
    intro l
    induction l with
    | nil => rfl
    | cons a r ih => simp [strCells] at ih ⊢; exact ih
  generalize hc : strCells l = cl at h
  cases h with
  | nil =>
    have : l = [] := by simpa [strCells] using hc
    subst this; exact .nil
  | mk bb cl h1 h2 h3 h4 =>
    subst hc
    have hl : (strCells l).length = l.length := by simp [strCells]
    rw [hl, Nat.mul_one]
    exact .mk bb l (by rw [hcells_eq, h2, hf]; rfl)
theorem strel1 : aElem Tryz.prog 42 = some (9, 1, 16) := by kernel_rfl
theorem strel2 : isSeq Tryz.prog 42 = true := by kernel_rfl
theorem mp_tail {H : AHeap} {ms : List Mat} {mb lo n0 i b6 b7 : Nat} {m : Mat} {fv : Value} {k : Value → AHeap → Prop} (hm : m.tame) (hi : i + 1 < 2 ^ 40) {v : Value} {acc : List (List UInt8)} {pv : Value} {K : AHeap} (hp : Pre H K) (hH : H.length ≤ lo) (hmap : K[mb]? = some (.map opsMap)) (hmb : mb < lo) (hlo : lo ≤ K.length)
    (h6 : K[b6]? = some (.cells m.cells 75)) (h7 : K[b7]? = some (.cells [str (sgnS m.op), fv] 150)) (hg : Gro K lo 1 9 pv (strCells acc)) (hal : acc.length ≤ 2 ^ 20)
    (hk : ∀ (K : AHeap) (pv : Value) (s1 s2 s5 s6 s7 s8 s9 s13 s14 s15 s16 s17 s18 s19 s20 s21 s22 s23 s24 s25 s26 s27 s28 s29 s30 s31 s32 s33 s34 s35 s36 s37 s38 s39 s40 s41 s42 s43 : Value), Pre H K → K[mb]? = some (.map opsMap) → lo ≤ K.length → Gro K lo 1 9 pv (strCells (acc ++ [matS m])) → L72x0 n0 k [v, s1, s2, .map (some mb), pv, s5, s6, s7, s8, s9, v, i64 ms.length, i64 ((i + 1 : Nat) : Int), s13, s14, s15, s16, s17, s18, s19, s20, s21, s22, s23, s24, s25, s26, s27, s28, s29, s30, s31, s32, s33, s34, s35, s36, s37, s38, s39, s40, s41, s42, s43] K) (s1 s2 s5 s8 s9 s13 s14 s15 s16 s17 s18 s19 s20 s21 s22 s23 s24 s25 s26 s27 s28 s29 s30 s31 s32 s33 s34 s35 s36 s37 s38 s39 s40 s41 s42 s43 : Value) :
    S72x0 n0 k [v, s1, s2, .map (some mb), pv, s5, .pointer (some ⟨b6, 0, some 3⟩), .pointer (some ⟨b7, 0, some 2⟩), s8, s9, v, i64 ms.length, i64 i, s13, s14, s15, s16, s17, s18, s19, s20, s21, s22, s23, s24, s25, s26, s27, s28, s29, s30, s31, s32, s33, s34, s35, s36, s37, s38, s39, s40, s41, s42, s43] K := by
  obtain ⟨c6, l6⟩ := cellFx h6
  obtain ⟨c7, l7⟩ := cellFx h7
  simp only [Mat.cells] at c6 l6
  obtain ⟨t1, t2⟩ := hm
  rw [S72x0q]
  simp [c6, l6, c7, l7]
  refine bndD_same (c_quote (by omega)) ?_
  dsimp only
  refine bndD_of (strs_lit (l := [m.name, sgnS m.op, quoteS m.value]) (tbs42 K 3 _) rfl (by decide)) (.inl rfl) ?_
  dsimp only
  have hj : joinS [] [m.name, sgnS m.op, quoteS m.value] = matS m := by simp [joinS, matS]
  have hml := matS_len (m := m) ⟨t1, t2⟩
  refine bndD_of (c_joined (v := .slice (some ⟨K.length, 0, some 3⟩) 3 3) (l := [m.name, sgnS m.op, quoteS m.value]) (.mk _ [m.name, sgnS m.op, quoteS m.value] (by simp)) (by rw [hj]; omega) (by simp) (fun _ e => by rw [hj] at e; rw [e] at hml; simp at hml)) (.inl rfl) ?_
  dsimp only
  rw [hj]
  generalize hK1 : K ++ [AObj.cells (List.map str [m.name, sgnS m.op, quoteS m.value]) 9] = K1
  have hg1 : Gro K1 lo 1 9 pv (strCells acc) := by rw [← hK1]; exact hg.app
  have hp1 : Pre H K1 := by rw [← hK1]; exact hp.more _
  have hm1 : K1[mb]? = some (.map opsMap) := by rw [← hK1]; exact get_more hmap
  have hl1 : lo ≤ K1.length := by rw [← hK1]; simp; omega
  clear hK1
  refine bndD_of (strs_lit (l := [matS m]) (tbs42 K1 1 _) rfl (by decide)) (.inl rfl) ?_
  dsimp only
  obtain ⟨v', K2, q1, q2, q3, q4, q5⟩ := Gro.push (P := Tryz.prog) (Ts := 42) (by_ := 16) (x := .slice (some ⟨K1.length, 0, some 1⟩) 1 1) (c := [str (matS m)]) (hg1.app (X := [AObj.cells (List.map str [matS m]) 9])) strel1 strel2 (by rfl) (by simp; omega) (by simp [aSrc]) (by simp [strCells]; omega) (by simp [strCells]; omega)
  refine bndD_of q1 (.inl rfl) ?_
  simp [show i + 1 < 2 ^ 63 by omega]
  refine hk K2 v' _ _ _ _ _ _ _ _ _ _ _ _ _ _ _ _ _ _ _ _ _ _ _ _ _ _ _ _ _ _ _ _ _ _ _ _ _ _ (q5 H (hp1.more _) hH) (q3 _ _ hmb (get_more hm1)) (by simp at q4; omega) ?_
  have : strCells (acc ++ [matS m]) = strCells acc ++ [[str (matS m)]] := by simp [strCells]
  rw [this]; exact q2
end Go.Vi
namespace Go.Vi
open Go Go.Proofs

theorem opsLookE {K : AHeap} {mb : Nat} (h : K[mb]? = some (.map opsMap)) : aLookup Tryz.prog K 146 (.map (some mb)) (.int .u8 0) false = some (.agg #[str [61], opF 0]) := by
  rw [aLookup_map, h]
  simp only [tm146, Option.bind_some, mapOf_map, opsOk, keyOk, beq_self_eq_true, if_true]
  unfold mget opsMap opF
  simp [mfind, keyEq]
theorem mp_loop {H : AHeap} {ms : List Mat} {v : Value} {mb lo : Nat} {k : Value → AHeap → Prop} (hm0 : MatsAt H v ms) (htm : ∀ m ∈ ms, m.tame) (hml : ms.length ≤ 2 ^ 20) (hH : H.length ≤ lo) (hmb : mb < lo) (hk : ∀ K, Pre H K → k (str (selS ms)) K) :
    ∀ (r : List Mat) (i : Nat) (K : AHeap) (pv : Value) (s1 s2 s5 s6 s7 s8 s9 s13 s14 s15 s16 s17 s18 s19 s20 s21 s22 s23 s24 s25 s26 s27 s28 s29 s30 s31 s32 s33 s34 s35 s36 s37 s38 s39 s40 s41 s42 s43 : Value), ms.drop i = r → i ≤ ms.length → Pre H K → K[mb]? = some (.map opsMap) → lo ≤ K.length → Gro K lo 1 9 pv (strCells ((ms.take i).map matS)) →
      L72x0 (r.length + 1) k [v, s1, s2, .map (some mb), pv, s5, s6, s7, s8, s9, v, i64 ms.length, i64 i, s13, s14, s15, s16, s17, s18, s19, s20, s21, s22, s23, s24, s25, s26, s27, s28, s29, s30, s31, s32, s33, s34, s35, s36, s37, s38, s39, s40, s41, s42, s43] K := by
  intro r
  induction r with
  | nil =>
    intro i K pv s1 s2 s5 s6 s7 s8 s9 s13 s14 s15 s16 s17 s18 s19 s20 s21 s22 s23 s24 s25 s26 s27 s28 s29 s30 s31 s32 s33 s34 s35 s36 s37 s38 s39 s40 s41 s42 s43 hd hi hp hmap hlo hg
    have hle : ms.length ≤ i := by simpa using hd
    rw [List.take_of_length_le hle] at hg
    rw [List.length_nil, L72x0q]
    have : ¬ i < ms.length := by omega
    simp [this]
    have hsl := sel_len htm hml
    refine bndC_of (c_join (sep := [44]) hg.parts (by omega) (by simp; omega) (by simp) ?_) ?_
    · intro h2
      cases hms : ms.map matS with
      | nil => rw [hms] at h2; simp at h2
      | cons a t =>
        cases t with
        | nil => rw [hms] at h2; simp at h2
        | cons b t => exact join_ne (.inl (by simp))
    refine bndL_lit (strs_lit (l := [[123], joinS [44] (ms.map matS), [125]]) (tbs42 K 3 _) rfl (by decide)) ?_
    dsimp only
    have hj : joinS [] [[123], joinS [44] (ms.map matS), [125]] = selS ms := by simp [joinS, selS]
    have hsl2 : (selS ms).length ≤ 2 ^ 46 := by simp [selS]; omega
    refine bndC_of (c_joined (v := .slice (some ⟨K.length, 0, some 3⟩) 3 3) (l := [[123], joinS [44] (ms.map matS), [125]]) (.mk _ [[123], joinS [44] (ms.map matS), [125]] (by simp)) (by rw [hj]; exact hsl2) (by simp) (fun _ e => by rw [hj] at e; simp [selS] at e)) ?_
    rw [hj]
    exact hk _ (hp.more _)
  | cons m r ih =>
    intro i K pv s1 s2 s5 s6 s7 s8 s9 s13 s14 s15 s16 s17 s18 s19 s20 s21 s22 s23 s24 s25 s26 s27 s28 s29 s30 s31 s32 s33 s34 s35 s36 s37 s38 s39 s40 s41 s42 s43 hd hi hp hmap hlo hg
    have hb : ms[i]? = some m := by rw [← List.head?_drop, hd]; rfl
    have hlt : i < ms.length := (List.getElem?_eq_some_iff.1 hb).1
    obtain ⟨p, hp1, hp2⟩ := (hm0.pre hp).load (P := Tryz.prog) (T := 35) (te := 75) (i := i) (e := m.cells) (by simp) (by simp) (by simp) (by simp [hb])
    have hmK : mb < K.length := (List.getElem?_eq_some_iff.1 hmap).1
    have hlook : aLookup Tryz.prog (K ++ [.cells m.cells 75]) 146 (.map (some mb)) (.int .u8 m.op) true = some (.tuple #[.agg #[str (opS m.op), opF m.op], .bool (isOp m.op)]) := opsLook _ (get_more hmap)
    have hgo : ∀ (fv : Value) (s1 s2 s5 s8 s9 s13 s14 s15 s16 s17 s18 s19 s20 s21 s22 s23 s24 s25 s26 s27 s28 s29 s30 s31 s32 s33 s34 s35 s36 s37 s38 s39 s40 s41 s42 s43 : Value), S72x0 (r.length + 1) k [v, s1, s2, .map (some mb), pv, s5, .pointer (some ⟨K.length, 0, some 3⟩), .pointer (some ⟨K.length + 1, 0, some 2⟩), s8, s9, v, i64 ms.length, i64 i, s13, s14, s15, s16, s17, s18, s19, s20, s21, s22, s23, s24, s25, s26, s27, s28, s29, s30, s31, s32, s33, s34, s35, s36, s37, s38, s39, s40, s41, s42, s43] (K ++ [.cells m.cells 75, .cells [str (sgnS m.op), fv] 150]) := by
      intro fv s1 s2 s5 s8 s9 s13 s14 s15 s16 s17 s18 s19 s20 s21 s22 s23 s24 s25 s26 s27 s28 s29 s30 s31 s32 s33 s34 s35 s36 s37 s38 s39 s40 s41 s42 s43
      refine mp_tail (H := H) (ms := ms) (mb := mb) (lo := lo) (i := i) (m := m) (fv := fv) (htm m (List.mem_of_getElem? hb)) (by omega) (acc := (ms.take i).map matS) (hp.more _) hH (get_more hmap) hmb (by simp; omega) (by simp) (by simp) hg.app (by simp; omega) (fun K' pv' s1 s2 s5 s6 s7 s8 s9 s13 s14 s15 s16 s17 s18 s19 s20 s21 s22 s23 s24 s25 s26 s27 s28 s29 s30 s31 s32 s33 s34 s35 s36 s37 s38 s39 s40 s41 s42 s43 a1 a2 a3 a4 => ?_) _ _ _ _ _ _ _ _ _ _ _ _ _ _ _ _ _ _ _ _ _ _ _ _ _ _ _ _ _ _ _ _ _ _ _ _
      refine ih (i + 1) K' pv' _ _ _ _ _ _ _ _ _ _ _ _ _ _ _ _ _ _ _ _ _ _ _ _ _ _ _ _ _ _ _ _ _ _ _ _ _ _ (by rw [← List.drop_drop, hd]; rfl) hlt a1 a2 a3 ?_
      rw [List.take_add_one, hb]
      simpa using a4
    rw [List.length_cons, L72x0q]
    simp only [Mat.cells] at hlook hgo
    simp [hlt, hp1, hp2, Mat.cells, -aLookup_map, hlook, opF_one]
    refine kifB_bool (fun h => ?_) (fun h => ?_)
    · have hno : isOp m.op = false := by simpa using h
      have hlook2 := opsLookE (K := K ++ [.cells [str m.name, .int .u8 m.op, str m.value] 75, .cells [str (opS m.op), opF m.op] 150]) (mb := mb) (get_more hmap)
      simp [-aLookup_map, hlook2, opF_one]
      have := hgo (opF 0)
      simp only [sgnS, hno, Bool.false_eq_true, if_false] at this
      exact this _ _ _ _ _ _ _ _ _ _ _ _ _ _ _ _ _ _ _ _ _ _ _ _ _ _ _ _ _ _ _ _ _ _ _ _
    · have hyes : isOp m.op = true := by simpa using h
      have := hgo (opF m.op)
      simp only [sgnS, hyes, if_true] at this
      exact this _ _ _ _ _ _ _ _ _ _ _ _ _ _ _ _ _ _ _ _ _ _ _ _ _ _ _ _ _ _ _ _ _ _ _ _
theorem c_matPrint {H : AHeap} {v : Value} {ms : List Mat} (hm : MatsAt H v ms) (htm : ∀ m ∈ ms, m.tame) (hml : ms.length ≤ 2 ^ 20) : ACalls Tryz.prog 72 [v] H (str (selS ms)) H := by
  refine acalls_pure MixT Tryz.func72 (by decide) rfl ?_
  rw [d72]
  refine bndC_of (c_matOps H) ?_
  have hlen := (hm.pre (.app H [.map opsMap])).len (P := Tryz.prog) (T := 35) (e := 75) (by simp)
  simp at hlen
  simp [hlen]
  exact ⟨ms.length + 1, mp_loop (H := H) (ms := ms) (mb := H.length) (lo := H.length + 1) hm htm hml (by omega) (by omega) (fun K p => ⟨rfl, p⟩) ms 0 _ (.slice none 0 0) _ _ _ _ _ _ _ _ _ _ _ _ _ _ _ _ _ _ _ _ _ _ _ _ _ _ _ _ _ _ _ _ _ _ _ _ _ _ rfl (by omega) (.app _ _) (by simp) (by simp) .nil⟩
end Go.Vi
namespace Go.Vi
open Go Go.Proofs

def strongI (k : UInt8) : Int := if k = 2 then 0 else if k = 1 then 1 else if k = 3 then 2 else if k = 0 then 3 else 0
def leafS (n : Nod) : List UInt8 := aggs.getD n.agg.toNat [] ++ [40] ++ selS n.sel ++ [91] ++ fmtS n.window ++ [93, 41, 32] ++ cmps.getD n.cmp.toNat [] ++ [32] ++ fixS n.value
def txtF (ns : List Nod) : Nat → Nat → Int → List UInt8
  | 0, _, _ => []
  | f + 1, e, least => match ns[e]? with
    | none => []
    | some n =>
      let s := if n.kind = 0 then leafS n
        else if n.kind = 3 then [110, 111, 116, 32] ++ txtF ns f n.left.toNat 2
        else if n.kind = 1 then txtF ns f n.left.toNat 1 ++ [32, 97, 110, 100, 32] ++ txtF ns f n.right.toNat 2
        else if n.kind = 2 then txtF ns f n.left.toNat 0 ++ [32, 111, 114, 32] ++ txtF ns f n.right.toNat 1
        else []
      if strongI n.kind < least then [40] ++ s ++ [41] else s
theorem c_strong {H : AHeap} {n : Nod} {sv : Value} (hs : sv.oneCell' = true) : ACalls Tryz.prog 75 [.agg (n.cells sv).toArray] H (i64 (strongI n.kind)) H := by
  refine acalls_pure MixT Tryz.func75 (by decide) rfl ?_
  rw [d75]
  simp [aNew_agg, Nod.cells, hs, keyOk, mOk, mput, mfind, keyEq]
  generalize n.kind = q
  by_cases h2 : q = 2
  · subst h2; simp [mget, mfind, keyEq, strongI]
  by_cases h1 : q = 1
  · subst h1; simp [mget, mfind, keyEq, strongI]
  by_cases h3 : q = 3
  · subst h3; simp [mget, mfind, keyEq, strongI]
  by_cases h0 : q = 0
  · subst h0; simp [mget, mfind, keyEq, strongI]
  have e : ∀ m : UInt8, q ≠ m → ¬ (q.toNat : Int) = m.toNat := fun m hm e => hm (UInt8.toNat_inj.1 (by omega))
  have e2 := e 2 h2
  have e1 := e 1 h1
  have e3 := e 3 h3
  have e0 := e 0 h0
  simp at e2 e1 e3 e0
  simp [mget, mfind, keyEq, strongI, e2, e1, e3, e0, h2, h1, h3, h0, cok, isLit]
theorem aggs_at {i : Nat} (h : i < 6) : aggs[i]? = some (aggs.getD i []) := by
  simp only [List.getD]
  rw [List.getElem?_eq_getElem (by simpa [aggs] using h)]; rfl
theorem cmps_at {i : Nat} (h : i < 6) : cmps[i]? = some (cmps.getD i []) := by
  simp only [List.getD]
  rw [List.getElem?_eq_getElem (by simpa [cmps] using h)]; rfl
def WF (ns : List Nod) : Nat → Nat → Prop
  | 0, _ => False
  | f + 1, e => ∃ n, ns[e]? = some n ∧ (n.kind = 0 → n.agg.toNat < 6 ∧ n.cmp.toNat < 6 ∧ -9223372036854775808 ≤ n.window ∧ n.window < 9223372036854775808 ∧ (∀ m ∈ n.sel, m.tame) ∧ n.sel.length ≤ 2 ^ 20 ∧ (leafS n).length ≤ 2 ^ 10) ∧
      (n.kind = 3 → ∃ a : Nat, n.left = a ∧ WF ns f a) ∧ (n.kind = 1 ∨ n.kind = 2 → (∃ a : Nat, n.left = a ∧ WF ns f a) ∧ ∃ b : Nat, n.right = b ∧ WF ns f b)
theorem txt_len (ns : List Nod) : ∀ (f e : Nat) (least : Int), WF ns f e → (txtF ns f e least).length + 8 ≤ 2 ^ (f + 10) := by
  intro f
  induction f with
  | zero => intro e least h; exact h.elim
  | succ f ih =>
    intro e least h
    obtain ⟨n, h1, h2, h3, h4⟩ := h
    have hp : 2 ^ (f + 1 + 10) = 2 * 2 ^ (f + 10) := by rw [show f + 1 + 10 = (f + 10) + 1 by omega, Nat.pow_succ]; omega
    have hq : 2 ^ 10 ≤ 2 ^ (f + 10) := Nat.pow_le_pow_right (by omega) (by omega)
    have key : ∀ s : List UInt8, s.length + 10 ≤ 2 ^ (f + 1 + 10) → (if strongI n.kind < least then [40] ++ s ++ [41] else s).length + 8 ≤ 2 ^ (f + 1 + 10) := by
      intro s hs
      split
      · simp; omega
      · omega
    rw [txtF, h1]
    refine key _ ?_
    split
    · rename_i k; have := (h2 k).2.2.2.2.2.2; omega
    · split
      · rename_i k
        obtain ⟨a, e1, e2⟩ := h3 k
        have := ih _ 2 e2
        rw [e1]
        simp
        omega
      · split
        · rename_i k
          obtain ⟨⟨a, e1, e2⟩, b, e3, e4⟩ := h4 (.inl k)
          have a1 := ih _ 1 e2
          have a2 := ih _ 2 e4
          rw [e1, e3]
          simp
          omega
        · split
          · rename_i k
            obtain ⟨⟨a, e1, e2⟩, b, e3, e4⟩ := h4 (.inr k)
            have a1 := ih _ 0 e2
            have a2 := ih _ 1 e4
            rw [e1, e3]
            simp
            omega
          · simp; omega
theorem row_str {K : AHeap} {b i : Nat} {l : List (List UInt8)} {s : List UInt8} {k : IntKind} (hb : hcells K b = some (l.map str)) (hi : l[i]? = some s) :
    ∃ p, aIndexAddr Tryz.prog K 42 (.slice (some ⟨b, 0, some l.length⟩) l.length l.length) (.int k i) = some p ∧ aLoad Tryz.prog K 9 p = some (str s) := by
  have hl : hlen K b = some l.length := by rw [hcells_len hb]; simp
  have hlt := (List.getElem?_eq_some_iff.1 hi).1
  refine ⟨.pointer (some ⟨b, i, some l.length⟩), ?_, ?_⟩
  · rw [aIndexAddr_sl]
    simp [hl, slElem]
    omega
  · simp [hb, hi]
theorem c_exprText {ns : List Nod} {H : AHeap} {v : Value} (hg : Pre Gs H) (hn : NodesAt H v ns) : ∀ (f e : Nat) (least : Int), f ≤ 40 → WF ns f e → ∀ K : AHeap, Pre H K → ACalls Tryz.prog 43 [v, i64 e, i64 least] K (str (txtF ns f e least)) K := by
  intro f
  induction f with
  | zero => intro e least _ h; exact h.elim
  | succ f ih =>
    intro e least hf hw K hpK
    have htl := txt_len ns (f + 1) e
    obtain ⟨n, h1, h2, h3, h4⟩ := id hw
    obtain ⟨cl, ha, hcl, hc⟩ := hn.pre hpK
    obtain ⟨sv, hsv, hm, hml⟩ := hc _ _ h1
    obtain ⟨p, hp1, hp2⟩ := ha.load (P := Tryz.prog) (T := 27) (te := 37) (i := e) (e := n.cells sv) (by simp) (by simp) (by simp) hsv
    have hone := hm.one
    refine acalls_pure MixT Tryz.func43 (by decide) rfl ?_
    generalize hk0 : (fun u H2 => u = str (txtF ns (f + 1) e least) ∧ ∃ Y, H2 = K ++ Y) = k
    have hk : ∀ M, Pre K M → k (str (txtF ns (f + 1) e least)) M := fun M p => by rw [← hk0]; exact ⟨rfl, p⟩
    rw [d43]
    have hpow : 2 ^ (f + 1 + 10) ≤ 2 ^ 52 := Nat.pow_le_pow_right (by omega) (by omega)
    have hpow2 : 2 ^ (f + 10) ≤ 2 ^ 51 := Nat.pow_le_pow_right (by omega) (by omega)
    have hpM : Pre K (K ++ [.cells (n.cells sv) 37]) := .app _ _
    have hcM : hcells (K ++ [.cells (n.cells sv) 37]) K.length = some (n.cells sv) := by simp
    have hfin : ∀ (N : AHeap) (s : List UInt8) (s0 s1 s3 s4 s5 s6 s9 s10 s11 s12 s13 s14 s15 s16 s17 s18 s19 s20 s21 s22 s23 s24 s25 s26 s27 s28 s29 s30 s31 s32 s33 s34 s35 s36 s37 s38 s39 s40 s41 s42 s43 s44 s45 s46 s47 s48 s49 s50 s51 s52 s53 s54 s55 s56 s57 s58 s59 s60 s61 s62 s63 s64 s65 s66 s67 s68 s69 s70 s71 s72 s73 s74 s75 s76 s77 s78 s79 s80 s81 s82 : Value), Pre (K ++ [.cells (n.cells sv) 37]) N → s.length ≤ 2 ^ 60 → txtF ns (f + 1) e least = (if strongI n.kind < least then [40] ++ s ++ [41] else s) →
        S43x0 k [s0, s1, i64 least, s3, s4, s5, s6, .pointer (some ⟨K.length, 0, some 8⟩), str s, s9, s10, s11, s12, s13, s14, s15, s16, s17, s18, s19, s20, s21, s22, s23, s24, s25, s26, s27, s28, s29, s30, s31, s32, s33, s34, s35, s36, s37, s38, s39, s40, s41, s42, s43, s44, s45, s46, s47, s48, s49, s50, s51, s52, s53, s54, s55, s56, s57, s58, s59, s60, s61, s62, s63, s64, s65, s66, s67, s68, s69, s70, s71, s72, s73, s74, s75, s76, s77, s78, s79, s80, s81, s82] N := by
      intro N s s0 s1 s3 s4 s5 s6 s9 s10 s11 s12 s13 s14 s15 s16 s17 s18 s19 s20 s21 s22 s23 s24 s25 s26 s27 s28 s29 s30 s31 s32 s33 s34 s35 s36 s37 s38 s39 s40 s41 s42 s43 s44 s45 s46 s47 s48 s49 s50 s51 s52 s53 s54 s55 s56 s57 s58 s59 s60 s61 s62 s63 s64 s65 s66 s67 s68 s69 s70 s71 s72 s73 s74 s75 s76 s77 s78 s79 s80 s81 s82 hN hs ht
      rw [S43x0q]
      rw [ht] at hk
      clear ht hw h2 h3 h4 ih hsv hp2 hk0 htl
      replace hcM := hN.hcells hcM
      replace hpM := hpM.trans hN
      clear hN
      generalize N = M at hcM hpM ⊢
      simp only [Nod.cells] at hcM
      simp [hcM]
      have hst := c_strong (H := M) (n := n) (sv := sv) hone
      simp only [Nod.cells] at hst
      refine bndC_of hst ?_
      simp
      refine kifB_bool (fun h => ?_) (fun h => ?_)
      · have hl : strongI n.kind < least := by simpa using h
        rw [if_pos hl] at hk
        have c1 : ∀ X Y, aBin2 Tryz.prog M .add 9 X Y (.string ⟨#[40]⟩) (str s) = some (str (40 :: s)) := fun X Y => aBin_str (a := [40]) (b := s) (by simp; omega)
        have c2 : ∀ X Y, aBin2 Tryz.prog M .add 9 X Y (str (40 :: s)) (.string ⟨#[41]⟩) = some (str (40 :: s ++ [41])) := fun X Y => aBin_str (a := 40 :: s) (b := [41]) (by simp; omega)
        simp [c1, c2]
        exact hk M hpM
      · have hl : ¬ strongI n.kind < least := by simpa using h
        rw [if_neg hl] at hk
        exact hk M hpM
    generalize hM : K ++ [AObj.cells (n.cells sv) 37] = M at hcM hpM hfin
    have hpHM := hpK.trans hpM
    simp only [Nod.cells] at hcM hM
    have hlM : hlen M K.length = some 8 := by rw [hcells_len hcM]; rfl
    simp [hp1, hp2, Nod.cells, hone, hM, hcM, hlM]
    by_cases k0 : n.kind = 0
    · obtain ⟨g1, g2, g3, g4, g5, g6, g7⟩ := h2 k0
      have e0 : (n.kind.toNat : Int) = 0 := by rw [k0]; rfl
      have hts : txtF ns (f + 1) e least = if strongI n.kind < least then [40] ++ leafS n ++ [41] else leafS n := by rw [txtF, h1]; simp only [k0, if_true]
      have hgo : ∀ (N : AHeap) (s : List UInt8) (s0 s1 s3 s4 s5 s6 s9 s10 s11 s12 s13 s14 s15 s16 s17 s18 s19 s20 s21 s22 s23 s24 s25 s26 s27 s28 s29 s30 s31 s32 s33 s34 s35 s36 s37 s38 s39 s40 s41 s42 s43 s44 s45 s46 s47 s48 s49 s50 s51 s52 s53 s54 s55 s56 s57 s58 s59 s60 s61 s62 s63 s64 s65 s66 s67 s68 s69 s70 s71 s72 s73 s74 s75 s76 s77 s78 s79 s80 s81 s82 : Value), Pre M N → s = leafS n → S43x0 k [s0, s1, i64 least, s3, s4, s5, s6, .pointer (some ⟨K.length, 0, some 8⟩), str s, s9, s10, s11, s12, s13, s14, s15, s16, s17, s18, s19, s20, s21, s22, s23, s24, s25, s26, s27, s28, s29, s30, s31, s32, s33, s34, s35, s36, s37, s38, s39, s40, s41, s42, s43, s44, s45, s46, s47, s48, s49, s50, s51, s52, s53, s54, s55, s56, s57, s58, s59, s60, s61, s62, s63, s64, s65, s66, s67, s68, s69, s70, s71, s72, s73, s74, s75, s76, s77, s78, s79, s80, s81, s82] N := fun N s s0 s1 s3 s4 s5 s6 s9 s10 s11 s12 s13 s14 s15 s16 s17 s18 s19 s20 s21 s22 s23 s24 s25 s26 s27 s28 s29 s30 s31 s32 s33 s34 s35 s36 s37 s38 s39 s40 s41 s42 s43 s44 s45 s46 s47 s48 s49 s50 s51 s52 s53 s54 s55 s56 s57 s58 s59 s60 s61 s62 s63 s64 s65 s66 s67 s68 s69 s70 s71 s72 s73 s74 s75 s76 s77 s78 s79 s80 s81 s82 a b => hfin N s _ _ _ _ _ _ _ _ _ _ _ _ _ _ _ _ _ _ _ _ _ _ _ _ _ _ _ _ _ _ _ _ _ _ _ _ _ _ _ _ _ _ _ _ _ _ _ _ _ _ _ _ _ _ _ _ _ _ _ _ _ _ _ _ _ _ _ _ _ _ _ _ _ _ _ _ _ _ _ _ a (by subst b; omega) (by rw [hts, b])
      simp only [leafS, List.length_append, List.length_cons, List.length_nil] at g7
      simp only [leafS] at hgo
      clear hfin ih h3 h4 htl hw
      generalize hA : aggs.getD n.agg.toNat [] = A at g7 hgo
      generalize hC : cmps.getD n.cmp.toNat [] = C at g7 hgo
      have hA' : aggs[n.agg.toNat]? = some A := by rw [← hA]; exact aggs_at g1
      have hC' : cmps[n.cmp.toNat]? = some C := by rw [← hC]; exact cmps_at g2
      simp [e0]
      refine bndD_of (c_aggregates M) (.inr ⟨_, rfl⟩) ?_
      obtain ⟨p1, a1, a2⟩ := row_str (K := M ++ [.cells (aggs.map str) 9]) (b := M.length) (l := aggs) (k := .u8) (by simp) hA'
      simp only [show aggs.length = 6 from rfl] at a1
      simp [hlM, hcM, a1, a2]
      generalize hM1 : M ++ [AObj.cells (aggs.map str) 9] = M1
      have hpM1 : Pre M M1 := by rw [← hM1]; exact .app _ _
      clear hM1 a1 a2 hA' hA hC
      have hmp := c_matPrint ((hm.pre hpM).pre hpM1) g5 g6
      have hit := c_itoa (H := M1) ((hg.trans hpHM).trans hpM1) g3 g4
      generalize selS n.sel = S at g7 hgo hmp
      generalize fmtS n.window = W at g7 hgo hit
      refine bnd_of (aBin_str (b := [40]) (by simp; omega)) ?_
      simp [hlM, hcM]
      refine bndD_same hmp ?_
      dsimp only
      refine bnd_of (aBin_str (b := S) (by simp; omega)) ?_
      dsimp only
      refine bnd_of (aBin_str (b := [91]) (by simp; omega)) ?_
      simp [hlM, hcM]
      refine bndD_same hit ?_
      dsimp only
      refine bnd_of (aBin_str (b := W) (by simp; omega)) ?_
      dsimp only
      refine bnd_of (aBin_str (b := [93, 41, 32]) (by simp; omega)) ?_
      dsimp only
      refine bndD_of (c_compares M1) (.inr ⟨_, rfl⟩) ?_
      obtain ⟨p2, b1, b2⟩ := row_str (K := M1 ++ [.cells (cmps.map str) 9]) (b := M1.length) (l := cmps) (k := .u8) (by simp) hC'
      simp only [show cmps.length = 6 from rfl] at b1
      simp [hlM, hcM, b1, b2]
      have hfx := c_fixPrint (H := M1 ++ [.cells (cmps.map str) 9]) (((hg.trans hpHM).trans hpM1).more _) (x := n.value)
      have hpM2 : Pre M (M1 ++ [.cells (cmps.map str) 9]) := hpM1.more _
      clear b1 b2 hmp hit
      generalize M1 ++ [AObj.cells (cmps.map str) 9] = M2 at hfx hpM2 ⊢
      generalize fixS n.value = X at g7 hgo hfx
      refine bnd_of (aBin_str (b := C) (by simp; omega)) ?_
      dsimp only
      refine bnd_of (aBin_str (b := [32]) (by simp; omega)) ?_
      simp [hlM, hcM]
      refine bndD_same hfx ?_
      dsimp only
      refine bnd_of (aBin_str (b := X) (by simp; omega)) ?_
      dsimp only
      exact hgo M2 _ _ _ _ _ _ _ _ _ _ _ _ _ _ _ _ _ _ _ _ _ _ _ _ _ _ _ _ _ _ _ _ _ _ _ _ _ _ _ _ _ _ _ _ _ _ _ _ _ _ _ _ _ _ _ _ _ _ _ _ _ _ _ _ _ _ _ _ _ _ _ _ _ _ _ _ _ _ _ _ _ hpM2 (by simp)
    · have hkn : ∀ m : UInt8, n.kind ≠ m → ¬ (n.kind.toNat : Int) = m.toNat := fun m hm e => hm (UInt8.toNat_inj.1 (by omega))
      have e0 : ¬ (n.kind.toNat : Int) = 0 := by simpa using hkn 0 k0
      have e0b : ((n.kind.toNat : Int) == 0) = false := by simpa using e0
      have hgo : ∀ (N : AHeap) (s : List UInt8) (s0 s1 s3 s4 s5 s6 s9 s10 s11 s12 s13 s14 s15 s16 s17 s18 s19 s20 s21 s22 s23 s24 s25 s26 s27 s28 s29 s30 s31 s32 s33 s34 s35 s36 s37 s38 s39 s40 s41 s42 s43 s44 s45 s46 s47 s48 s49 s50 s51 s52 s53 s54 s55 s56 s57 s58 s59 s60 s61 s62 s63 s64 s65 s66 s67 s68 s69 s70 s71 s72 s73 s74 s75 s76 s77 s78 s79 s80 s81 s82 : Value), Pre M N → s.length ≤ 2 ^ 60 → (txtF ns (f + 1) e least = if strongI n.kind < least then [40] ++ s ++ [41] else s) → S43x0 k [s0, s1, i64 least, s3, s4, s5, s6, .pointer (some ⟨K.length, 0, some 8⟩), str s, s9, s10, s11, s12, s13, s14, s15, s16, s17, s18, s19, s20, s21, s22, s23, s24, s25, s26, s27, s28, s29, s30, s31, s32, s33, s34, s35, s36, s37, s38, s39, s40, s41, s42, s43, s44, s45, s46, s47, s48, s49, s50, s51, s52, s53, s54, s55, s56, s57, s58, s59, s60, s61, s62, s63, s64, s65, s66, s67, s68, s69, s70, s71, s72, s73, s74, s75, s76, s77, s78, s79, s80, s81, s82] N := fun N s s0 s1 s3 s4 s5 s6 s9 s10 s11 s12 s13 s14 s15 s16 s17 s18 s19 s20 s21 s22 s23 s24 s25 s26 s27 s28 s29 s30 s31 s32 s33 s34 s35 s36 s37 s38 s39 s40 s41 s42 s43 s44 s45 s46 s47 s48 s49 s50 s51 s52 s53 s54 s55 s56 s57 s58 s59 s60 s61 s62 s63 s64 s65 s66 s67 s68 s69 s70 s71 s72 s73 s74 s75 s76 s77 s78 s79 s80 s81 s82 a b c => hfin N s _ _ _ _ _ _ _ _ _ _ _ _ _ _ _ _ _ _ _ _ _ _ _ _ _ _ _ _ _ _ _ _ _ _ _ _ _ _ _ _ _ _ _ _ _ _ _ _ _ _ _ _ _ _ _ _ _ _ _ _ _ _ _ _ _ _ _ _ _ _ _ _ _ _ _ _ _ _ _ _ a b c
      have htx : txtF ns (f + 1) e least = (let s := (if n.kind = 3 then [110, 111, 116, 32] ++ txtF ns f n.left.toNat 2 else if n.kind = 1 then txtF ns f n.left.toNat 1 ++ [32, 97, 110, 100, 32] ++ txtF ns f n.right.toNat 2 else if n.kind = 2 then txtF ns f n.left.toNat 0 ++ [32, 111, 114, 32] ++ txtF ns f n.right.toNat 1 else []); (if strongI n.kind < least then [40] ++ s ++ [41] else s)) := by rw [txtF, h1]; simp only [k0, if_false]
      dsimp only at htx
      by_cases k3 : n.kind = 3
      · obtain ⟨a, l1, l2⟩ := h3 k3
        have e3 : (n.kind.toNat : Int) = 3 := by rw [k3]; rfl
        rw [if_pos k3, l1, Int.toNat_natCast] at htx
        have hl := txt_len ns f a 2 l2
        have hcall := ih a 2 (by omega) l2 M hpHM
        generalize txtF ns f a 2 = T at htx hl hcall
        simp [e3, hlM, hcM, l1]
        refine bndC_of hcall ?_
        refine bnd_of (v := str ([110, 111, 116, 32] ++ T)) (aBin_str (a := [110, 111, 116, 32]) (b := T) (by simp; omega)) ?_
        dsimp only
        exact hgo M _ _ _ _ _ _ _ _ _ _ _ _ _ _ _ _ _ _ _ _ _ _ _ _ _ _ _ _ _ _ _ _ _ _ _ _ _ _ _ _ _ _ _ _ _ _ _ _ _ _ _ _ _ _ _ _ _ _ _ _ _ _ _ _ _ _ _ _ _ _ _ _ _ _ _ _ _ _ _ _ _ (.refl _) (by simp; omega) htx
      · have e3 : ¬ (n.kind.toNat : Int) = 3 := by simpa using hkn 3 k3
        have e3b : ((n.kind.toNat : Int) == 3) = false := by simpa using e3
        rw [if_neg k3] at htx
        by_cases k1 : n.kind = 1
        · obtain ⟨⟨a, l1, l2⟩, b, r1, r2⟩ := h4 (.inl k1)
          have e1 : (n.kind.toNat : Int) = 1 := by rw [k1]; rfl
          rw [if_pos k1, l1, r1, Int.toNat_natCast, Int.toNat_natCast] at htx
          have hl := txt_len ns f a 1 l2
          have hr := txt_len ns f b 2 r2
          have hcl1 := ih a 1 (by omega) l2 M hpHM
          have hcl2 := ih b 2 (by omega) r2 M hpHM
          generalize txtF ns f a 1 = T at htx hl hcl1
          generalize txtF ns f b 2 = U at htx hr hcl2
          simp [e1, hlM, hcM, l1]
          refine bndD_same hcl1 ?_
          dsimp only
          refine bnd_of (aBin_str (b := [32, 97, 110, 100, 32]) (by simp; omega)) ?_
          simp [hlM, hcM, r1]
          refine bndD_same hcl2 ?_
          dsimp only
          refine bnd_of (aBin_str (b := U) (by simp; omega)) ?_
          dsimp only
          exact hgo M _ _ _ _ _ _ _ _ _ _ _ _ _ _ _ _ _ _ _ _ _ _ _ _ _ _ _ _ _ _ _ _ _ _ _ _ _ _ _ _ _ _ _ _ _ _ _ _ _ _ _ _ _ _ _ _ _ _ _ _ _ _ _ _ _ _ _ _ _ _ _ _ _ _ _ _ _ _ _ _ _ (.refl _) (by simp; omega) (by rw [htx])
        · have e1 : ¬ (n.kind.toNat : Int) = 1 := by simpa using hkn 1 k1
          have e1b : ((n.kind.toNat : Int) == 1) = false := by simpa using e1
          rw [if_neg k1] at htx
          by_cases k2 : n.kind = 2
          · obtain ⟨⟨a, l1, l2⟩, b, r1, r2⟩ := h4 (.inr k2)
            have e2 : (n.kind.toNat : Int) = 2 := by rw [k2]; rfl
            rw [if_pos k2, l1, r1, Int.toNat_natCast, Int.toNat_natCast] at htx
            have hl := txt_len ns f a 0 l2
            have hr := txt_len ns f b 1 r2
            have hcl1 := ih a 0 (by omega) l2 M hpHM
            have hcl2 := ih b 1 (by omega) r2 M hpHM
            generalize txtF ns f a 0 = T at htx hl hcl1
            generalize txtF ns f b 1 = U at htx hr hcl2
            simp [e2, hlM, hcM, l1]
            refine bndD_same hcl1 ?_
            dsimp only
            refine bnd_of (aBin_str (b := [32, 111, 114, 32]) (by simp; omega)) ?_
            simp [hlM, hcM, r1]
            refine bndD_same hcl2 ?_
            dsimp only
            refine bnd_of (aBin_str (b := U) (by simp; omega)) ?_
            dsimp only
            exact hgo M _ _ _ _ _ _ _ _ _ _ _ _ _ _ _ _ _ _ _ _ _ _ _ _ _ _ _ _ _ _ _ _ _ _ _ _ _ _ _ _ _ _ _ _ _ _ _ _ _ _ _ _ _ _ _ _ _ _ _ _ _ _ _ _ _ _ _ _ _ _ _ _ _ _ _ _ _ _ _ _ _ (.refl _) (by simp; omega) (by rw [htx])
          · have e2 : ¬ (n.kind.toNat : Int) = 2 := by simpa using hkn 2 k2
            have e2b : ((n.kind.toNat : Int) == 2) = false := by simpa using e2
            rw [if_neg k2] at htx
            simp [e0b, e1b, e2b, e3b]
            exact hgo M [] _ _ _ _ _ _ _ _ _ _ _ _ _ _ _ _ _ _ _ _ _ _ _ _ _ _ _ _ _ _ _ _ _ _ _ _ _ _ _ _ _ _ _ _ _ _ _ _ _ _ _ _ _ _ _ _ _ _ _ _ _ _ _ _ _ _ _ _ _ _ _ _ _ _ _ _ _ _ _ _ (.refl _) (by simp) htx
end Go.Vi
namespace Go.Vi
open Go Go.Proofs

theorem ok_len {m : Mat} (h : m.ok = true) : m.tame ∧ (matS m).length ≤ 84 := by
  unfold Mat.ok mayName mayM mayValue at h
  simp only [Bool.and_eq_true, Bool.or_eq_true, decide_eq_true_eq] at h
  obtain ⟨⟨_, ⟨⟨_, h1⟩, _⟩, _⟩, h2⟩ := h
  have h3 : m.value.length ≤ 32 := by
    rcases h2 with h2 | h2
    · rw [h2]; simp
    · exact h2.1.2
  have h4 := sgnS_len m.op
  have h5 := quoteS_len m.value
  refine ⟨⟨by omega, by omega⟩, ?_⟩
  simp only [matS, List.length_append]
  omega
theorem sel_small {ms : List Mat} (h : mayMats ms = true) : (∀ m ∈ ms, m.tame) ∧ ms.length ≤ 6 ∧ (selS ms).length ≤ 512 := by
  unfold mayMats at h
  simp only [Bool.and_eq_true, List.all_eq_true, decide_eq_true_eq] at h
  obtain ⟨h1, h2⟩ := h
  refine ⟨fun m hm => (ok_len (h1 m hm)).1, h2, ?_⟩
  have h3 : (joinS [44] (ms.map matS)).length ≤ 510 := by
    cases h : ms.map matS with
    | nil => simp [joinS]
    | cons a r =>
      rw [join_len]
      have hall : ∀ x ∈ a :: r, x.length ≤ 84 := by
        rw [← h]
        intro x hx
        obtain ⟨m, hm1, rfl⟩ := List.mem_map.1 hx
        exact (ok_len (h1 m hm1)).2
      have h4 := sumL_le _ hall
      have h5 : (a :: r).length ≤ 6 := by rw [← h]; simpa using h2
      simp at h5 h4 ⊢
      omega
  simp [selS]
  omega
theorem fixS_len (x : Int) : (fixS x).length ≤ 42 := by
  have hb : -4611686018427387903 ≤ sat x ∧ sat x ≤ 4611686018427387903 := by unfold sat maxFix; omega
  unfold fixS
  rw [fmtS_nat, fmtS_nat]
  have l1 := natS_len (n := (sat x).natAbs / 1000) (by omega)
  have l2 := natS_len (n := 1000 + (sat x).natAbs % 1000) (by omega)
  have l3 := trimR_len 48 ((natS (1000 + (sat x).natAbs % 1000)).drop 1)
  simp only [List.length_drop] at l3
  have l4 : (if sat x < 0 then [45] else ([] : List UInt8)).length ≤ 1 := by split <;> simp
  have l5 : (if (sat x).natAbs % 1000 = 0 then [] else 46 :: trimR 48 ((natS (1000 + (sat x).natAbs % 1000)).drop 1)).length ≤ 21 := by
    split
    · simp
    · simp only [List.length_cons]; omega
  rw [List.length_append, List.length_append]
  omega
theorem getD_len {l : List (List UInt8)} {i c : Nat} (h : ∀ x ∈ l, x.length ≤ c) : (l.getD i []).length ≤ c := by
  simp only [List.getD]
  cases hi : l[i]? with
  | none => simp
  | some s => exact h s (List.mem_of_getElem? hi)
theorem plain_leaf {n : Nod} (h : n.plain = true) : n.agg.toNat < 6 ∧ n.cmp.toNat < 6 ∧ -9223372036854775808 ≤ n.window ∧ n.window < 9223372036854775808 ∧ (∀ m ∈ n.sel, m.tame) ∧ n.sel.length ≤ 2 ^ 20 ∧ (leafS n).length ≤ 2 ^ 10 := by
  unfold Nod.plain at h
  simp only [Bool.and_eq_true, decide_eq_true_eq] at h
  obtain ⟨⟨⟨⟨⟨⟨⟨h1, h2⟩, h3⟩, h4⟩, h5⟩, _⟩, _⟩, _⟩ := h
  obtain ⟨s1, s2, s3⟩ := sel_small h2
  refine ⟨by omega, by omega, by omega, by omega, s1, by omega, ?_⟩
  have a1 : (aggs.getD n.agg.toNat []).length ≤ 5 := getD_len (by decide)
  have a2 : (cmps.getD n.cmp.toNat []).length ≤ 2 := getD_len (by decide)
  have a3 := fixS_len n.value
  have a4 : (fmtS n.window).length ≤ 20 := by
    obtain ⟨w, hw⟩ : ∃ w : Nat, n.window = w := ⟨n.window.toNat, by omega⟩
    rw [hw, fmtS_nat]
    exact natS_len (by omega)
  simp only [leafS, List.length_append, List.length_cons, List.length_nil]
  omega
theorem beg_WF (ns : List Nod) : ∀ (f : Nat) (e : Int), 0 ≤ beg ns f e → ∃ a : Nat, e = a ∧ WF ns f a := by
  intro f
  induction f with
  | zero => intro e h; simp [beg] at h
  | succ f ih =>
    intro e h
    rw [beg] at h
    by_cases he : e < 0
    · rw [if_pos he] at h; omega
    rw [if_neg he] at h
    obtain ⟨a, rfl⟩ : ∃ a : Nat, e = a := ⟨e.toNat, by omega⟩
    refine ⟨a, rfl, ?_⟩
    rw [Int.toNat_natCast] at h
    cases hn : ns[a]? with
    | none => rw [hn] at h; simp at h
    | some n =>
      rw [hn] at h
      simp only at h
      have kk : ∀ m : UInt8, n.kind = m → (n.kind.toNat : Int) = m.toNat := fun m hm => by rw [hm]
      refine ⟨n, hn, fun k => ?_, fun k => ?_, fun k => ?_⟩
      · have e0 : ((n.kind.toNat : Int) == 0) = true := by rw [kk 0 k]; rfl
        rw [if_pos e0] at h
        split at h
        · rename_i hp; exact plain_leaf hp
        · omega
      · have e0 : ¬ ((n.kind.toNat : Int) == 0) = true := by rw [kk 3 k]; decide
        have e3 : ((n.kind.toNat : Int) == 3) = true := by rw [kk 3 k]; rfl
        rw [if_neg e0, if_pos e3] at h
        split at h
        · rename_i hc
          simp only [Bool.and_eq_true, beq_iff_eq] at hc
          obtain ⟨b, hb1, hb2⟩ := ih _ h
          exact ⟨b, by omega, hb2⟩
        · omega
      · have e0 : ¬ ((n.kind.toNat : Int) == 0) = true := by rcases k with k | k <;> rw [kk _ k] <;> decide
        have e3 : ¬ ((n.kind.toNat : Int) == 3) = true := by rcases k with k | k <;> rw [kk _ k] <;> decide
        have e4 : (isAnd n || isOr n) = true := by
          unfold isAnd isOr
          rcases k with k | k <;> rw [kk _ k] <;> rfl
        rw [if_neg e0, if_neg e3, if_pos e4] at h
        split at h
        · rename_i hc
          simp only [Bool.and_eq_true, beq_iff_eq, decide_eq_true_eq] at hc
          obtain ⟨⟨⟨_, c1⟩, c2⟩, c3⟩ := hc
          obtain ⟨b, hb1, hb2⟩ := ih _ (show 0 ≤ beg ns f ((a : Int) - 1) by omega)
          obtain ⟨d, hd1, hd2⟩ := ih _ h
          exact ⟨⟨d, by omega, hd2⟩, b, by omega, hb2⟩
        · omega
def printS (ns : List Nod) : List UInt8 := if right ns = true then txtF ns ns.length (ns.length - 1) 0 else []
theorem right_WF {ns : List Nod} (h : right ns = true) : 1 ≤ ns.length ∧ ns.length ≤ 31 ∧ WF ns ns.length (ns.length - 1) := by
  unfold right at h
  simp only [Bool.and_eq_true, decide_eq_true_eq, beq_iff_eq] at h
  obtain ⟨⟨h1, h2⟩, h3⟩ := h
  obtain ⟨a, ha, hw⟩ := beg_WF ns _ _ (show 0 ≤ beg ns ns.length ((ns.length : Int) - 1) by omega)
  have : a = ns.length - 1 := by omega
  subst this
  exact ⟨by omega, by omega, hw⟩
theorem src_flat2 {z : Nat} {cs : List Value} : ∀ (l : List (List Value)) (o : Nat), (∀ (i : Nat) e, l[i]? = some e → (cs.drop (o + i * z)).take z = e) → (cs.drop o).take (l.length * z) = l.flatten := by
  intro l
  induction l with
  | nil => intro o _; simp
  | cons c r ih =>
    intro o h
    have h0 := h 0 c rfl
    have hr := ih (o + z) fun i e hi => by
      have := h (i + 1) e (by simpa using hi)
      rw [← this, Nat.add_mul, Nat.one_mul]; congr 2; omega
    rw [List.length_cons, Nat.add_mul, Nat.one_mul, Nat.add_comm, List.take_add, List.drop_drop, hr, List.flatten_cons]
    simpa using congrArg (· ++ r.flatten) h0
theorem Arr.srcOf {H z v l} (h : Arr H z v l) : aSrc H z v = some (l.length, l.flatten) := by
  cases h with
  | nil => rfl
  | mk b o m n c cs l hn hcs hm hle hel =>
    subst hn
    simp only [aSrc, hcs]
    rw [if_pos ⟨hm.symm, by omega⟩, src_flat2 l o hel]
theorem aBin_slnil {H : AHeap} {T e : TypeId} {x : Operand} {c : Value} {a : Addr} {n m : Nat} (h : Tryz.prog.underlying T = some (.slice e)) : aBin2 Tryz.prog H .eql T x (.const c) (.slice (some a) n m) (.slice none 0 0) = some (.bool false) := by
  apply aBin2_of
  simp [aBin, clos, isLit, notNil, h]
theorem nbl2 : isSeq Tryz.prog 27 = true := by kernel_rfl
theorem c_cloneNodes {H : AHeap} {v : Value} {ns : List Nod} (hn : NodesAt H v ns) (h1 : 1 ≤ ns.length) (h2 : ns.length ≤ 2 ^ 20) : ∃ v' K', ACalls Tryz.prog 42 [v] H v' K' ∧ Pre H K' ∧ NodesAt K' v' ns := by
  obtain ⟨v', K', ⟨q1, q2⟩, q3⟩ : ∃ v' K', (Pre H K' ∧ NodesAt K' v' ns) ∧ ACalls Tryz.prog 42 [v] H v' K' := by
    refine acalls_ex MixT Tryz.func42 (by decide) ?_
    rw [d42]
    obtain ⟨cl, ha, hcl, hc⟩ := hn
    have hsrc := Arr.srcOf (ha.pre (.app H [.cells [] 37]))
    have hv : ∃ a n c, v = .slice (some a) n c := by
      cases ha with
      | nil => simp at hcl; omega
      | mk b o m n c cs l => exact ⟨_, _, _, rfl⟩
    obtain ⟨a, n, c, rfl⟩ := hv
    rw [aBin_slnil (e := 37) (by simp)]
    simp
    have hlit : sliceLit Tryz.prog H 27 0 [] (.slice (some ⟨H.length, 0, some 0⟩) 0 0) (H ++ [.cells [] 37]) := by
      refine ⟨rfl, (tbs27 H 0 []).trans ?_⟩
      simp [bslV, Instr.fill, repCells]
    refine bndL_lit hlit ?_
    have hel : ∀ x ∈ cl, x.length = 8 := by
      intro x hx
      obtain ⟨i, hi⟩ := List.getElem?_of_mem hx
      exact ha.elen hi
    have hne : cl ≠ [] := by rintro rfl; simp at hcl; omega
    have happ : aBuiltin Tryz.prog (H ++ [.cells [] 37]) .append #[27, 27] [.slice (some ⟨H.length, 0, some 0⟩) 0 0, .slice (some a) n c] = some (.slice (some ⟨H.length, 0, some (cl.length * 8)⟩) cl.length cl.length, H ++ [.cells cl.flatten 37]) := by
      have hl1 : 1 ≤ cl.length := by omega
      have e1 : cl.length * 72 ≤ 140737488355328 := by omega
      have e2 : cl.length ≤ 9223372036854775807 := by omega
      have e3 : ¬ cl.length = 0 := by omega
      simp [aBuiltin, aAppend, nbl2, hsrc, hne, e1, e2]
    dsimp only
    rw [happ]
    simp
    refine ⟨.app _ _, cl, (Gro.mk (K := H ++ [.cells cl.flatten 37]) (lo := 0) (z := 8) (T := 37) H.length cl (by omega) (by simp) hne hel).arr, hcl, fun i n hi => ?_⟩
    obtain ⟨sv, r1, r2, r3⟩ := hc i n hi
    exact ⟨sv, r1, r2.pre (.app _ _), r3⟩
  exact ⟨v', K', q3, q1, q2⟩
theorem c_exprPrint {H : AHeap} {v : Value} {ns : List Nod} (hg : Pre Gs H) (hn : NodesAt H v ns) : ACalls Tryz.prog 21 [v] H (str (printS ns)) H := by
  refine acalls_pure MixT Tryz.func21 (by decide) rfl ?_
  rw [d21]
  refine bndC_of (c_right hn) ?_
  cases hr : right ns with
  | false =>
    have : printS ns = [] := by unfold printS; rw [hr]; rfl
    rw [this]
    simp
  | true =>
    have hp : printS ns = txtF ns ns.length (ns.length - 1) 0 := by unfold printS; rw [if_pos hr]
    obtain ⟨h1, h2, h3⟩ := right_WF hr
    obtain ⟨v', K', g1, g2, g3⟩ := c_cloneNodes hn h1 (by omega)
    simp
    refine bndC_of g1 ?_
    have hl := g3.len K'
    have hw : IntKind.i64.wrap ((ns.length : Int) - 1) = ((ns.length - 1 : Nat) : Int) := by rw [wrap_i64 (by omega) (by omega)]; omega
    simp [hl, hw]
    refine bndC_of (c_exprText (hg.trans g2) g3 ns.length (ns.length - 1) 0 (by omega) h3 K' (.refl _)) ?_
    rw [hp]
    exact ⟨rfl, g2⟩
end Go.Vi
namespace Go.Vi
open Go Go.Proofs

theorem Gro.frm {K K' lo z T v cl} (h : Gro K lo z T v cl) (hf : ∀ (b : Nat) o, lo ≤ b → K[b]? = some o → K'[b]? = some o) : Gro K' lo z T v cl := by
  cases h with
  | nil => exact .nil
  | mk bb cl h1 h2 h3 h4 => exact .mk bb cl h1 (hf _ _ h1 h2) h3 h4
theorem Gro.weak {K lo lo' z T v cl} (h : Gro K lo z T v cl) (hl : lo' ≤ lo) : Gro K lo' z T v cl := by
  cases h with
  | nil => exact .nil
  | mk bb cl h1 h2 h3 h4 => exact .mk bb cl (by omega) h2 h3 h4
abbrev rP (rb : Nat) : Value := .pointer (some ⟨rb, 0, some 3⟩)
def RdS (H K : AHeap) (rb : Nat) (lv : Value) (ts : List Tok) : Option Nat → Prop
  | some a => RdA H K rb lv ts a true
  | none => ∃ a, RdA H K rb lv ts a false
theorem RdS.any {H K rb lv ts st} (h : RdS H K rb lv ts st) : ∃ a ok, RdA H K rb lv ts a ok := by
  cases st with
  | some a => exact ⟨a, true, h⟩
  | none => obtain ⟨a, h⟩ := h; exact ⟨a, false, h⟩
theorem RdS.lt {H K rb lv ts st} (h : RdS H K rb lv ts st) : rb < K.length := by obtain ⟨a, ok, h⟩ := h.any; exact h.lt
theorem RdS.app {H K rb lv ts st} (h : RdS H K rb lv ts st) (X : AHeap) : RdS H (K ++ X) rb lv ts st := by
  cases st with
  | some a => exact RdA.app h X
  | none => obtain ⟨a, h⟩ := h; exact ⟨a, h.app X⟩
theorem RdS.le {H K rb lv ts a} (h : RdS H K rb lv ts (some a)) : a ≤ ts.length := RdA.le h
theorem RdS.len {H K rb lv ts st} (h : RdS H K rb lv ts st) : ts.length < 2 ^ 40 := by obtain ⟨a, ok, h⟩ := h.any; exact h.len
theorem RdS.pre {H K rb lv ts st} (h : RdS H K rb lv ts st) : Pre H K := by obtain ⟨a, ok, h⟩ := h.any; exact h.pre
theorem RdS.frame {H K K' rb lv ts st} (h : RdS H K rb lv ts st) (hp : Pre H K') (hc : ∀ o, K[rb]? = some o → K'[rb]? = some o) : RdS H K' rb lv ts st := by
  cases st with
  | some a => have h : RdA H K rb lv ts a true := h; exact ⟨h.toks, hp, h.hb, hc _ h.cell, h.len, h.le⟩
  | none => obtain ⟨a, h⟩ := h; exact ⟨a, h.toks, hp, h.hb, hc _ h.cell, h.len, h.le⟩
structure Adv (H K K' : AHeap) (rb : Nat) (lv : Value) (ts : List Tok) (st : Option Nat) : Prop where
  rd : RdS H K' rb lv ts st
  fr : ∀ (b : Nat) o, b ≠ rb → K[b]? = some o → K'[b]? = some o
  len : K.length ≤ K'.length
theorem Adv.trans {H K K' K2 rb lv ts st st'} (h : Adv H K K' rb lv ts st) (k : Adv H K' K2 rb lv ts st') : Adv H K K2 rb lv ts st' := ⟨k.rd, fun b o hb ho => k.fr b o hb (h.fr b o hb ho), Nat.le_trans h.len k.len⟩
theorem Adv.refl {H K rb lv ts st} (h : RdS H K rb lv ts st) : Adv H K K rb lv ts st := ⟨h, fun _ _ _ h => h, Nat.le_refl _⟩
theorem Adv.app {H K K' rb lv ts st} (h : Adv H K K' rb lv ts st) (X : AHeap) : Adv H K (K' ++ X) rb lv ts st := ⟨h.rd.app X, fun b o hb ho => get_more (h.fr b o hb ho), by have := h.len; simp; omega⟩
theorem Adv.set {H K rb lv ts a ok st} (_h : RdA H K rb lv ts a ok) (a' : Nat) (ok' : Bool) (_ha : a' ≤ ts.length) (hs : RdS H (K.set rb (rdo lv a' ok')) rb lv ts st) : Adv H K (K.set rb (rdo lv a' ok')) rb lv ts st :=
  ⟨hs, fun b o hb ho => by rw [List.getElem?_set_ne (fun e => hb e.symm)]; exact ho, by simp⟩
theorem Adv.setT {H K rb lv ts a ok} (h : RdA H K rb lv ts a ok) (a' : Nat) (ha : a' ≤ ts.length) : Adv H K (K.set rb (rdo lv a' true)) rb lv ts (some a') := .set h a' true ha (h.put a' true ha)
theorem Adv.setF {H K rb lv ts a ok} (h : RdA H K rb lv ts a ok) (a' : Nat) (ha : a' ≤ ts.length) : Adv H K (K.set rb (rdo lv a' false)) rb lv ts none := .set h a' false ha ⟨a', h.put a' false ha⟩

def takO (ts : List Tok) (k : Int) (s : List UInt8) (a : Nat) : Nat := if isT ts a k s = true then a + 1 else a
theorem g_takes {H K rb lv ts st} (h : RdS H K rb lv ts st) (k : Int) (s : List UInt8) :
    ∃ K', ACalls Tryz.prog 68 [rP rb, .int .u8 k, str s] K (.bool (st.any fun a => isT ts a k s)) K' ∧ Adv H K K' rb lv ts (st.map (takO ts k s)) := by
  cases st with
  | none => obtain ⟨a, h⟩ := h; exact ⟨K, c_takes_n h rfl, .refl ⟨a, h⟩⟩
  | some a =>
    have h : RdA H K rb lv ts a true := h
    simp only [Option.any_some, Option.map_some, takO]
    cases ht : isT ts a k s with
    | true => exact ⟨_, c_takes_y h ht, .setT h _ (by have := isT_lt ht; omega)⟩
    | false => exact ⟨K, c_takes_n h (by simp [ht]), .refl h⟩
def signO (ts : List Tok) (s : List UInt8) (a : Nat) : Option Nat := if isT ts a 4 s = true then some (a + 1) else none
theorem c_sign_n {H K rb lv ts a ok} (h : RdA H K rb lv ts a ok) {s : List UInt8} (ht : (ok && isT ts a 4 s) = false) :
    ACalls Tryz.prog 69 [rP rb, str s] K (.tuple #[]) (K.set rb (rdo lv a false)) := by
  refine acalls_of MixT Tryz.func69 (by decide) ?_
  rw [d69]
  refine bndC_of (c_takes_n h ht) ?_
  have hc := h.cell
  have hll : hlen K rb = some 3 := by simp [hlen, hc, rdo]
  simp [hll, hc, rdo]
theorem g_sign {H K rb lv ts st} (h : RdS H K rb lv ts st) (s : List UInt8) :
    ∃ K', ACalls Tryz.prog 69 [rP rb, str s] K (.tuple #[]) K' ∧ Adv H K K' rb lv ts (st.bind (signO ts s)) := by
  cases st with
  | none => obtain ⟨a, h⟩ := h; exact ⟨_, c_sign_n h rfl, .setF h a h.le⟩
  | some a =>
    have h : RdA H K rb lv ts a true := h
    simp only [Option.bind_some, signO]
    cases ht : isT ts a 4 s with
    | true => exact ⟨_, c_sign_y h ht, .setT h _ (by have := isT_lt ht; omega)⟩
    | false => exact ⟨_, c_sign_n h (by simp [ht]), .setF h a h.le⟩
def tokK (ts : List Tok) (k : Int) (a : Nat) : Option (List UInt8) := (ts[a]?).bind fun t => if t.kind = k then some t.text else none
theorem c_take_n {H K rb lv ts a ok} (h : RdA H K rb lv ts a ok) {k : Int} (ht : ok = true → tokK ts k a = none) :
    ACalls Tryz.prog 127 [rP rb, .int .u8 k] K (str []) (K.set rb (rdo lv a false)) := by
  refine acalls_of MixT Tryz.func127 (by decide) ?_
  rw [d127]
  have hc := h.cell
  have hcc : hcells K rb = some [lv, i64 a, .bool ok] := by simp [hcells_eq, hc, rdo]
  have hll : hlen K rb = some 3 := by simp [hlen, hc, rdo]
  have hl := (h.toks.pre h.pre).len (P := Tryz.prog) (T := 23) (e := 70) (by simp)
  simp at hl
  simp only [rdo] at hc
  cases ok with
  | false => simp [hcc, hll, hc, rdo]
  | true =>
    have ht := ht rfl
    by_cases ha : ts.length ≤ a
    · simp [hcc, hll, hl, ha, hc, rdo]
    · obtain ⟨t, htt⟩ : ∃ t, ts[a]? = some t := ⟨_, List.getElem?_eq_getElem (by omega)⟩
      obtain ⟨p, q, r, e1, e2, e3, e4, e5⟩ := toksAt_at (h.toks.pre h.pre) htt
      have hk : ¬ t.kind = k := by
        intro e
        simp [tokK, htt, e] at ht
      have hk' : (t.kind != k) = true := by simpa using hk
      simp [hcc, hll, hl, ha, e1, e2, e3, hc, hk', rdo]
def takeO (ts : List Tok) (k : Int) (a : Nat) : Option Nat := (tokK ts k a).map fun _ => a + 1
theorem g_take {H K rb lv ts st} (h : RdS H K rb lv ts st) (k : Int) :
    ∃ K', ACalls Tryz.prog 127 [rP rb, .int .u8 k] K (str ((st.bind (tokK ts k)).getD [])) K' ∧ Adv H K K' rb lv ts (st.bind (takeO ts k)) := by
  cases st with
  | none => obtain ⟨a, h⟩ := h; exact ⟨_, c_take_n h (by simp), .setF h a h.le⟩
  | some a =>
    have h : RdA H K rb lv ts a true := h
    simp only [Option.bind_some, takeO]
    cases ht : tokK ts k a with
    | none => exact ⟨_, c_take_n h fun _ => ht, .setF h a h.le⟩
    | some s =>
      unfold tokK at ht
      cases htt : ts[a]? with
      | none => simp [htt] at ht
      | some t =>
        simp only [htt, Option.bind_some] at ht
        split at ht
        · rename_i hk
          cases ht
          have := c_take_y h htt
          rw [hk] at this
          exact ⟨_, this, .setT h _ (by have := (List.getElem?_eq_some_iff.1 htt).1; omega)⟩
        · cases ht
def idxS (l : List (List UInt8)) (s : List UInt8) : Nat := if s ∈ l then l.idxOf s else 0
def oneO (ts : List Tok) (k : Int) (l : List (List UInt8)) (a : Nat) : Option Nat := (tokK ts k a).bind fun s => if s ∈ l then some (a + 1) else none
theorem nmap_any {l : List (List UInt8)} {s : List UInt8} (hn : l.Nodup) : mget (str s) (nmapK 0 l) = if s ∈ l then some (i64 (l.idxOf s)) else none := by
  by_cases hs : s ∈ l
  · rw [if_pos hs]
    have hlt := List.idxOf_lt_length_of_mem hs
    exact nmap_get hn (by rw [List.getElem?_eq_getElem hlt, List.getElem_idxOf hlt])
  · rw [if_neg hs]
    rcases (nmapK_smap l 0).get (k := s) with ⟨h, _⟩ | ⟨_, h⟩
    · exact absurd h hs
    · exact h
theorem g_one {H K rb lv ts st} (h : RdS H K rb lv ts st) (k : Int) {l : List (List UInt8)} {v : Value} (ha : Arr K 1 v (strCells l)) (hl : l.length ≤ 200) (hn : l.Nodup) (_h0 : [] ∉ l) :
    ∃ K', ACalls Tryz.prog 105 [rP rb, .int .u8 k, v] K (.int .u8 (idxS l ((st.bind (tokK ts k)).getD []))) K' ∧ Adv H K K' rb lv ts (st.bind (oneO ts k l)) := by
  have key : ∃ u K', (u = .int .u8 (idxS l ((st.bind (tokK ts k)).getD [])) ∧ Adv H K K' rb lv ts (st.bind (oneO ts k l))) ∧ ACalls Tryz.prog 105 [rP rb, .int .u8 k, v] K u K' := by
    refine acalls_ex MixT Tryz.func105 (by decide) ?_
    rw [d105]
    refine bndC_of (c_named (by omega) hn ha) ?_
    obtain ⟨K1, g1, g2⟩ := g_take (h.app [AObj.map (nmapK 0 l)]) k
    refine bndC_of g1 ?_
    have hrb := h.lt
    have hm : K1[K.length]? = some (.map (nmapK 0 l)) := g2.fr _ _ (by omega) (by simp)
    have hok := (nmapK_smap l 0).ok
    generalize hs : (st.bind (tokK ts k)).getD [] = s
    have hlk : aLookup Tryz.prog K1 163 (.map (some K.length)) (str s) true = some (mres (some (i64 (idxS l s))) undef true) ∧ s ∈ l ∨ aLookup Tryz.prog K1 163 (.map (some K.length)) (str s) true = some (mres none (i64 0) true) ∧ s ∉ l := by
      by_cases hs : s ∈ l
      · left
        refine ⟨?_, hs⟩
        rw [aLookup_map, hm]
        simp only [tm163, Option.bind_some, mapOf_map, keyOk, if_true, hok, nmap_any hn, if_pos hs, idxS]
      · right
        refine ⟨?_, hs⟩
        rw [aLookup_map, hm]
        simp only [tm163, tz163, Option.bind_some, mapOf_map, keyOk, if_true, hok, nmap_any hn, if_neg hs]
        rfl
    have hfr : ∀ (a' : Nat) (ok' : Bool) (b : Nat) (o : AObj), b ≠ rb → K[b]? = some o → (K1.set rb (rdo lv a' ok'))[b]? = some o := fun a' ok' b o hb ho => by
      rw [List.getElem?_set_ne (fun e => hb e.symm)]; exact g2.fr b o hb (get_more ho)
    have hlen : K.length ≤ K1.length := by have := g2.len; simp at this; omega
    obtain ⟨a1, ok1, hr1⟩ := g2.rd.any
    have hc := hr1.cell
    have hcc : hcells K1 rb = some [lv, i64 a1, .bool ok1] := by rw [hcells_eq, hc]; rfl
    have hll : Vi.hlen K1 rb = some 3 := by unfold Vi.hlen; rw [hc]; rfl
    have hidx : idxS l s < 256 := by
      unfold idxS
      split
      · rename_i hs; have := List.idxOf_lt_length_of_mem hs; omega
      · omega
    have hw : IntKind.u8.wrap (idxS l s : Int) = idxS l s := wrap_u8 (by omega) (by omega)
    have fin : ∀ is : Bool, (is = true ↔ s ∈ l) → Adv H K (K1.set rb (rdo lv a1 (ok1 && is))) rb lv ts (st.bind (oneO ts k l)) := by
      intro is his
      refine ⟨?_, hfr _ _, by simpa using hlen⟩
      cases st with
      | none =>
        obtain ⟨a2, hr2⟩ := g2.rd
        have e := hr1.cell.symm.trans hr2.cell
        simp only [rdo, Option.some.injEq, AObj.cells.injEq, List.cons.injEq, Value.bool.injEq] at e
        obtain ⟨⟨_, _, rfl, _⟩, _⟩ := e
        exact ⟨a1, hr1.put a1 false hr1.le⟩
      | some a =>
        simp only [Option.bind_some, takeO, oneO] at hs g2 ⊢
        cases hk : tokK ts k a with
        | none =>
          simp only [hk, Option.map_none] at g2
          obtain ⟨a2, hr2⟩ := g2.rd
          have e := hr1.cell.symm.trans hr2.cell
          simp only [rdo, Option.some.injEq, AObj.cells.injEq, List.cons.injEq, Value.bool.injEq] at e
          obtain ⟨⟨_, _, rfl, _⟩, _⟩ := e
          exact ⟨a1, hr1.put a1 false hr1.le⟩
        | some s' =>
          simp only [hk, Option.map_some, Option.getD_some] at g2 hs
          subst hs
          have hr2 : RdA H K1 rb lv ts (a + 1) true := g2.rd
          have e := hr1.cell.symm.trans hr2.cell
          simp only [rdo, Option.some.injEq, AObj.cells.injEq, List.cons.injEq, Value.bool.injEq, Value.int.injEq] at e
          obtain ⟨⟨_, ⟨_, e2⟩, rfl, _⟩, _⟩ := e
          obtain rfl : a1 = a + 1 := by omega
          simp only [Option.bind_some]
          by_cases hsl : s' ∈ l
          · rw [if_pos hsl, his.2 hsl]; exact hr2.put (a + 1) true hr2.le
          · rw [if_neg hsl, show is = false by simpa [hsl] using his]; exact ⟨a + 1, hr2.put (a + 1) false hr2.le⟩
    dsimp only
    rcases hlk with ⟨hlk, hsl⟩ | ⟨hlk, hsl⟩
    · rw [hlk]
      have := fin true (by simp [hsl])
      simp only [rdo] at hc this
      simp [mres, hcc, hll, hc, hw]
      simpa using this
    · rw [hlk]
      have := fin false (by simp [hsl])
      simp only [rdo] at hc this
      simp [mres, hcc, hll, hc]
      exact ⟨by rw [show idxS l s = 0 from if_neg hsl]; decide, by simpa using this⟩
  obtain ⟨u, K', ⟨rfl, h⟩, hy⟩ := key
  exact ⟨K', hy, h⟩
theorem RdS.cells {H K rb lv ts st} (h : RdS H K rb lv ts st) : ∃ a, K[rb]? = some (.cells [lv, i64 (a : Nat), .bool st.isSome] 81) ∧ a ≤ ts.length ∧ (∀ a', st = some a' → a = a') ∧ ∀ ok', Adv H K (K.set rb (.cells [lv, i64 a, .bool ok'] 81)) rb lv ts (if ok' = true then some a else none) := by
  cases st with
  | some a =>
    have h : RdA H K rb lv ts a true := h
    refine ⟨a, h.cell, h.le, fun a' e => by cases e; rfl, fun ok' => ?_⟩
    cases ok' with
    | true => exact .setT h a h.le
    | false => exact .setF h a h.le
  | none =>
    obtain ⟨a, h⟩ := h
    refine ⟨a, h.cell, h.le, fun a' e => (by cases e), fun ok' => ?_⟩
    cases ok' with
    | true => exact .setT h a h.le
    | false => exact .setF h a h.le
end Go.Vi
namespace Go.Vi
open Go Go.Proofs

def NumTok (ts : List Tok) : Prop := ∀ (a : Nat) t, ts[a]? = some t → t.text.length < 2 ^ 20 ∧ (t.kind = 2 → (∀ b ∈ t.text, isDig b = true ∨ b = 46) ∧ ∀ b r, t.text = b :: r → isDig b = true)
def winO (ts : List Tok) (a : Nat) : Option (Int × Nat) := (tokK ts 2 a).bind fun s => (atoF s).bind fun n => if 1 ≤ n ∧ n ≤ 1000 then some (n, a + 1) else none
theorem tokK_ok {ts : List Tok} {k : Int} {a : Nat} {s : List UInt8} (h : tokK ts k a = some s) : ∃ t, ts[a]? = some t ∧ t.kind = k ∧ t.text = s := by
  unfold tokK at h
  cases ht : ts[a]? with
  | none => simp [ht] at h
  | some t =>
    simp only [ht, Option.bind_some] at h
    split at h
    · cases h; exact ⟨t, rfl, ‹_›, rfl⟩
    · cases h
theorem aBin_ifnil {P : Program} {H : AHeap} {T t : TypeId} {x y : Operand} {p : Addr} {ms} (h : P.underlying T = some (.interface ms)) : aBin2 P H .eql T x y (.iface t (.pointer (some p))) .nilIface = some (.bool false) := by
  apply aBin2_of
  simp [aBin, clos, isLit, notNil, h]
theorem g_window {H K rb lv ts st} (hg : Pre Gs H) (hn : NumTok ts) (h : RdS H K rb lv ts st) :
    ∃ n K', ACalls Tryz.prog 107 [rP rb] K (i64 n) K' ∧ Adv H K K' rb lv ts ((st.bind (winO ts)).map (·.2)) ∧ ∀ p, st.bind (winO ts) = some p → p.1 = n := by
  have key : ∃ u K', (∃ n, u = i64 n ∧ Adv H K K' rb lv ts ((st.bind (winO ts)).map (·.2)) ∧ ∀ p, st.bind (winO ts) = some p → p.1 = n) ∧ ACalls Tryz.prog 107 [rP rb] K u K' := by
    refine acalls_ex MixT Tryz.func107 (by decide) ?_
    rw [d107]
    obtain ⟨K1, g1, g2⟩ := g_take h 2
    refine bndC_of g1 ?_
    have hu := tu118
    have hsx : ((st.bind (tokK ts 2)).getD []).length < 2 ^ 20 ∧ (∀ b ∈ (st.bind (tokK ts 2)).getD [], isDig b = true ∨ b = 46) ∧ ∀ b r, (st.bind (tokK ts 2)).getD [] = b :: r → isDig b = true := by
      cases hq : st.bind (tokK ts 2) with
      | none => simp
      | some s =>
        obtain ⟨a, _, ha⟩ := Option.bind_eq_some_iff.1 hq
        obtain ⟨t, t1, t2, rfl⟩ := tokK_ok ha
        have := hn a t t1
        exact ⟨this.1, (this.2 t2).1, (this.2 t2).2⟩
    obtain ⟨x, e, K2, hx, hp, hcall⟩ := c_atoiG (hg.trans g2.rd.pre) (by have := hsx.1; omega) hsx.2.2 hsx.2.1
    refine bndC_of hcall ?_
    have hadv : Adv H K K2 rb lv ts (st.bind (takeO ts 2)) := by obtain ⟨X, rfl⟩ := hp; exact g2.app X
    obtain ⟨a1, c1, c2, c3, c4⟩ := RdS.cells hadv.rd
    have hcc : hcells K2 rb = some [lv, i64 a1, .bool (st.bind (takeO ts 2)).isSome] := by rw [hcells_eq, c1]; rfl
    have hll : Vi.hlen K2 rb = some 3 := by unfold Vi.hlen; rw [c1]; rfl
    have hfin : ∀ (is : Bool), ((st.bind (takeO ts 2)).isSome && is) = (st.bind (winO ts)).isSome → Adv H K (K2.set rb (.cells [lv, i64 a1, .bool ((st.bind (takeO ts 2)).isSome && is)] 81)) rb lv ts ((st.bind (winO ts)).map (·.2)) := by
      intro is his
      have := hadv.trans (c4 ((st.bind (takeO ts 2)).isSome && is))
      rw [his] at this ⊢
      cases hw : st.bind (winO ts) with
      | none => simpa [hw] using this
      | some p =>
        simp only [hw, Option.isSome_some, if_true, Option.map_some] at this ⊢
        obtain ⟨a, rfl, ha⟩ := Option.bind_eq_some_iff.1 hw
        have : a1 = p.2 := by
          unfold winO at ha
          obtain ⟨s, h1, h2⟩ := Option.bind_eq_some_iff.1 ha
          obtain ⟨n, h3, h4⟩ := Option.bind_eq_some_iff.1 h2
          split at h4
          · cases h4
            exact c3 _ (by simp [takeO, h1])
          · cases h4
        rwa [← this]
    have hwin : ∀ p, st.bind (winO ts) = some p → (st.bind (takeO ts 2)).isSome = true ∧ atoF ((st.bind (tokK ts 2)).getD []) = some p.1 ∧ 1 ≤ p.1 ∧ p.1 ≤ 1000 := by
      intro p hp
      obtain ⟨a, rfl, ha⟩ := Option.bind_eq_some_iff.1 hp
      unfold winO at ha
      obtain ⟨s, h1, h2⟩ := Option.bind_eq_some_iff.1 ha
      obtain ⟨n, h3, h4⟩ := Option.bind_eq_some_iff.1 h2
      split at h4
      · rename_i hc; cases h4; exact ⟨by simp [takeO, h1], by simp [h1, h3], hc.1, hc.2⟩
      · cases h4
    have hback : ∀ n, (st.bind (takeO ts 2)).isSome = true → atoF ((st.bind (tokK ts 2)).getD []) = some n → 1 ≤ n → n ≤ 1000 → (st.bind (winO ts)).isSome = true := by
      intro n h1 h2 h3 h4
      obtain ⟨b, hb⟩ := Option.isSome_iff_exists.1 h1
      obtain ⟨a, rfl, ha⟩ := Option.bind_eq_some_iff.1 hb
      unfold takeO at ha
      obtain ⟨s, hs, _⟩ := Option.map_eq_some_iff.1 ha
      simp only [Option.bind_some, hs, Option.getD_some] at h2
      simp [winO, hs, h2, h3, h4]
    have hpn : ∀ n, (∀ p, st.bind (winO ts) = some p → p.1 = n) ↔ (∀ p, st.bind (winO ts) = some p → p.1 = n) := fun _ => Iff.rfl
    generalize hb0 : (st.bind (takeO ts 2)).isSome = b0 at hcc c1 hfin hwin hback
    cases b0 with
    | false =>
      have hno : (st.bind (winO ts)).isSome = false := by
        cases hq : st.bind (winO ts) with
        | none => rfl
        | some p => exact absurd (hwin p hq).1 (by simp)
      have hf := hfin false (by simp [hno])
      have hq : ∀ p, st.bind (winO ts) = some p → p.1 = x := fun p hp => absurd (hwin p hp).1 (by simp)
      simp [hcc, hll, c1]
      exact ⟨by simpa using hf, by simpa using hq⟩
    | true =>
      rcases hx with ⟨n, h1, rfl, rfl⟩ | ⟨h1, t, p, rfl⟩
      · have hf := hfin (decide (1 ≤ x) && decide (x ≤ 1000)) (by
          cases hq : st.bind (winO ts) with
          | none =>
            cases hd : (decide (1 ≤ x) && decide (x ≤ 1000)) with
            | false => rfl
            | true =>
              simp only [Bool.and_eq_true, decide_eq_true_eq] at hd
              have := hback x rfl h1 hd.1 hd.2
              rw [hq] at this; cases this
          | some p =>
            have := hwin p hq
            rw [h1] at this
            obtain ⟨_, e, h3, h4⟩ := this
            cases e
            simp [h3, h4])
        have hq : ∀ p, st.bind (winO ts) = some p → p.1 = x := fun p hp => by
          have := (hwin p hp).2.1
          rw [h1] at this; cases this; rfl
        simp +contextual [hcc, hll, c1, aBin_nilif hu]
        exact ⟨by simpa using hf, by simpa using hq⟩
      · have hno : (st.bind (winO ts)).isSome = false := by
          cases hq : st.bind (winO ts) with
          | none => rfl
          | some p => have := (hwin p hq).2.1; rw [h1] at this; cases this
        have hf := hfin false (by simp [hno])
        have hq : ∀ p, st.bind (winO ts) = some p → p.1 = x := fun p hp => by
          rw [hp] at hno; cases hno
        simp [hcc, hll, c1, aBin_ifnil hu]
        exact ⟨by simpa using hf, by simpa using hq⟩
  obtain ⟨u, K', ⟨n, rfl, h⟩, hy⟩ := key
  exact ⟨n, K', hy, h⟩
theorem Adv.fin {H K K2 rb lv ts stT} (h : Adv H K K2 rb lv ts stT) : ∃ a1 : Nat, K2[rb]? = some (.cells [lv, i64 a1, .bool stT.isSome] 81) ∧ hcells K2 rb = some [lv, i64 a1, .bool stT.isSome] ∧ hlen K2 rb = some 3 ∧
    ∀ (stW : Option Nat) (is : Bool), (stT.isSome && is) = stW.isSome → (∀ a', stW = some a' → stT = some a') → Adv H K (K2.set rb (.cells [lv, i64 a1, .bool (stT.isSome && is)] 81)) rb lv ts stW := by
  obtain ⟨a1, c1, c2, c3, c4⟩ := RdS.cells h.rd
  refine ⟨a1, c1, by rw [hcells_eq, c1]; rfl, by unfold Vi.hlen; rw [c1]; rfl, fun stW is his hw => ?_⟩
  have := h.trans (c4 (stT.isSome && is))
  rw [his] at this ⊢
  cases stW with
  | none => simpa using this
  | some a' =>
    have e := c3 a' (hw a' rfl)
    subst e
    simpa using this
def valP (ts : List Tok) (a : Nat) : List UInt8 := if isT ts a 4 [45] = true then [45] else []
def valO (ts : List Tok) (a : Nat) : Option (Int × Nat) := (tokK ts 2 (takO ts 4 [45] a)).bind fun s => if (parF (valP ts a ++ s)).2 = 0 then some ((parF (valP ts a ++ s)).1, takO ts 4 [45] a + 1) else none
theorem g_value {H K rb lv ts st} (hn : NumTok ts) (h : RdS H K rb lv ts st) :
    ∃ n K', ACalls Tryz.prog 108 [rP rb] K (i64 n) K' ∧ Adv H K K' rb lv ts ((st.bind (valO ts)).map (·.2)) ∧ ∀ p, st.bind (valO ts) = some p → p.1 = n := by
  have key : ∃ u K', (∃ n, u = i64 n ∧ Adv H K K' rb lv ts ((st.bind (valO ts)).map (·.2)) ∧ ∀ p, st.bind (valO ts) = some p → p.1 = n) ∧ ACalls Tryz.prog 108 [rP rb] K u K' := by
    refine acalls_ex MixT Tryz.func108 (by decide) ?_
    rw [d108]
    obtain ⟨K1, g1, g2⟩ := g_takes h 4 [45]
    refine bndC_of g1 ?_
    have tail : ∀ (pre : List UInt8), pre.length ≤ 1 → (∀ a, st = some a → pre = valP ts a) → ∀ (s1 s2 s4 s5 s6 s7 s8 s9 s10 s11 s12 s13 s14 s15 s16 s17 s18 s19 s20 s21 s22 s23 s24 s25 s26 s27 : Value),
        S108x0 (fun u K' => ∃ n, u = i64 n ∧ Adv H K K' rb lv ts ((st.bind (valO ts)).map (·.2)) ∧ ∀ p, st.bind (valO ts) = some p → p.1 = n) [rP rb, s1, s2, str pre, s4, s5, s6, s7, s8, s9, s10, s11, s12, s13, s14, s15, s16, s17, s18, s19, s20, s21, s22, s23, s24, s25, s26, s27] K1 := by
      intro pre hp1 hpre s1 s2 s4 s5 s6 s7 s8 s9 s10 s11 s12 s13 s14 s15 s16 s17 s18 s19 s20 s21 s22 s23 s24 s25 s26 s27
      rw [S108x0q]
      obtain ⟨K2, q1, q2⟩ := g_take g2.rd 2
      refine bndC_of q1 ?_
      have hlen : (((st.map (takO ts 4 [45])).bind (tokK ts 2)).getD []).length < 2 ^ 20 := by
        cases hq : (st.map (takO ts 4 [45])).bind (tokK ts 2) with
        | none => simp
        | some s =>
          obtain ⟨a, _, ha⟩ := Option.bind_eq_some_iff.1 hq
          obtain ⟨t, t1, t2, rfl⟩ := tokK_ok ha
          exact (hn a t t1).1
      have e1 := fun H X Y => aBin_str (P := Tryz.prog) (H := H) (T := 9) (x := X) (y := Y) (a := pre) (b := ((st.map (takO ts 4 [45])).bind (tokK ts 2)).getD []) (by omega)
      simp only [e1, bnd_some]
      refine bndC_of (c_fixParse (by simp; omega)) ?_
      obtain ⟨a1, c1, hcc, hll, hfin⟩ := (g2.trans q2).fin
      generalize hs : ((st.map (takO ts 4 [45])).bind (tokK ts 2)).getD [] = s at *
      have hval : ∀ p, st.bind (valO ts) = some p → p.1 = (parF (pre ++ s)).1 ∧ (parF (pre ++ s)).2 = 0 ∧ (st.map (takO ts 4 [45])).bind (takeO ts 2) = some p.2 := by
        intro p hp
        obtain ⟨a, rfl, ha⟩ := Option.bind_eq_some_iff.1 hp
        unfold valO at ha
        obtain ⟨s', h1, h2⟩ := Option.bind_eq_some_iff.1 ha
        rw [hpre a rfl]
        simp only [Option.map_some, Option.bind_some, h1, Option.getD_some] at hs
        subst hs
        split at h2
        · rename_i h0; cases h2; exact ⟨rfl, h0, by simp [takeO, h1]⟩
        · cases h2
      have hback : ((st.map (takO ts 4 [45])).bind (takeO ts 2)).isSome = true → (parF (pre ++ s)).2 = 0 → (st.bind (valO ts)).isSome = true := by
        intro h1 h2
        obtain ⟨b, hb⟩ := Option.isSome_iff_exists.1 h1
        obtain ⟨a', ha', hb'⟩ := Option.bind_eq_some_iff.1 hb
        obtain ⟨a, rfl, rfl⟩ := Option.map_eq_some_iff.1 ha'
        unfold takeO at hb'
        obtain ⟨s', hs', _⟩ := Option.map_eq_some_iff.1 hb'
        simp only [Option.map_some, Option.bind_some, hs', Option.getD_some] at hs
        subst hs
        rw [hpre a rfl] at h2
        simp [valO, hs', h2]
      have hq : ∀ p, st.bind (valO ts) = some p → p.1 = (parF (pre ++ s)).1 := fun p hp => (hval p hp).1
      have hf := hfin ((st.bind (valO ts)).map (·.2)) ((parF (pre ++ s)).2 == 0) (by
        cases hv : st.bind (valO ts) with
        | some p => obtain ⟨_, e2, e3⟩ := hval p hv; simp [e2, e3]
        | none =>
          cases h1 : ((st.map (takO ts 4 [45])).bind (takeO ts 2)).isSome with
          | false => rfl
          | true =>
            by_cases h2 : (parF (pre ++ s)).2 = 0
            · have := hback h1 h2; rw [hv] at this; cases this
            · simp [h2]) (by
        intro a' ha'
        obtain ⟨p, hp, rfl⟩ := Option.map_eq_some_iff.1 ha'
        exact (hval p hp).2.2)
      generalize ((st.map (takO ts 4 [45])).bind (takeO ts 2)).isSome = b0 at *
      cases b0 with
      | false =>
        simp [hcc, hll, c1]
        exact ⟨by simpa using hf, by simpa using hq⟩
      | true =>
        simp [hcc, hll, c1]
        exact ⟨by simpa using hf, by simpa using hq⟩
    refine kifB_bool (fun hb => ?_) (fun hb => ?_)
    · refine tail [45] (by simp) (fun a ha => ?_) _ _ _ _ _ _ _ _ _ _ _ _ _ _ _ _ _ _ _ _ _ _ _ _ _ _
      rw [ha] at hb
      simp at hb
      simp [valP, hb]
    · refine tail [] (by simp) (fun a ha => ?_) _ _ _ _ _ _ _ _ _ _ _ _ _ _ _ _ _ _ _ _ _ _ _ _ _ _
      rw [ha] at hb
      simp at hb
      simp [valP, hb]
  obtain ⟨u, K', ⟨n, rfl, h⟩, hy⟩ := key
  exact ⟨n, K', hy, h⟩
end Go.Vi
namespace Go.Vi
open Go Go.Proofs

def opsL : List (List UInt8) := [[61], [33, 61], [94, 61]]
theorem c_ops (H : AHeap) : ACalls Tryz.prog 128 [] H (.slice (some ⟨H.length, 0, some 3⟩) 3 3) (H ++ [.cells (opsL.map str) 9]) := by
  refine acalls_of MixT Tryz.func128 (by decide) ?_
  rw [d128]
  exact bndL_of (by decide) (by kernel_rfl) ⟨rfl, rfl⟩
theorem mael1 : aElem Tryz.prog 35 = some (75, 3, 40) := by kernel_rfl
theorem mael2 : isSeq Tryz.prog 35 = true := by kernel_rfl
theorem mat_lit {K : AHeap} (m : Mat) : sliceLit Tryz.prog K 35 1 [(0, .agg m.cells.toArray)] (.slice (some ⟨K.length, 0, some 3⟩) 1 1) (K ++ [.cells m.cells 75]) :=
  sliceLitA (c := m.cells) (tbs35 K 1 _) (by rfl) (by simp [Mat.cells]) (by simp)
def matO (ts : List Tok) (a : Nat) : Option (Mat × Nat) := (tokK ts 1 a).bind fun n => (tokK ts 4 (a + 1)).bind fun o => if o ∈ opsL then (tokK ts 3 (a + 2)).bind fun v => some (⟨n, idxS opsL o, v⟩, a + 3) else none
def selL (ts : List Tok) : Nat → Nat → List Mat → Option (List Mat × Nat)
  | 0, _, _ => none
  | f + 1, a, acc => (matO ts a).bind fun p => if isT ts p.2 4 [44] = true then selL ts f (p.2 + 1) (acc ++ [p.1]) else some (acc ++ [p.1], p.2)
def selE (ts : List Tok) (ms : List Mat) (a : Nat) : Option Nat := (signO ts [125] a).bind fun c => if mayMats ms = true then some c else none
def selO (ts : List Tok) (a : Nat) : Option (List Mat × Nat) := (signO ts [123] a).bind fun a1 =>
  if isT ts a1 4 [125] = true then some ([], a1 + 1) else (selL ts (ts.length + 1) a1 []).bind fun p => (selE ts p.1 p.2).map fun c => (p.1, c)
theorem sel_end {H K0 K rb lv ts st lo} {mv : Value} {ms : List Mat} {more : Bool} {k : Value → AHeap → Prop} (h : Adv H K0 K rb lv ts st) (hg : Gro K lo 3 75 mv (ms.map Mat.cells)) (hrb : rb < lo) (hml : ms.length < 2 ^ 62) (hm : (more && st.isSome) = false)
    (hk : ∀ K', Adv H K0 K' rb lv ts (st.bind (selE ts ms)) → Gro K' lo 3 75 mv (ms.map Mat.cells) → k mv K') (n : Nat) (s1 s2 s5 s6 s7 s8 s9 s10 s11 s12 s13 s14 s15 s16 s17 s18 s19 s20 s21 s22 s23 s24 s25 s26 s27 s28 s29 s30 s31 s32 s33 s34 s35 s36 s37 s38 s39 s40 s41 s42 : Value) :
    L106x0 (n + 1) k [rP rb, s1, s2, mv, .bool more, s5, s6, s7, s8, s9, s10, s11, s12, s13, s14, s15, s16, s17, s18, s19, s20, s21, s22, s23, s24, s25, s26, s27, s28, s29, s30, s31, s32, s33, s34, s35, s36, s37, s38, s39, s40, s41, s42] K := by
  rw [L106x0q]
  obtain ⟨a0, c0, hcc0, hll0, _⟩ := h.fin
  obtain ⟨K1, g1, g2⟩ := g_sign h.rd [125]
  have h2 := h.trans g2
  have hg1 : Gro K1 lo 3 75 mv (ms.map Mat.cells) := hg.frm fun b o hb ho => g2.fr b o (by omega) ho
  obtain ⟨a1, c1, hcc, hll, hfin⟩ := h2.fin
  have rest : bndC Tryz.prog 69 [rP rb, str [125]] K (q := ⟨fun _ _ => True⟩) := bndC_of g1 trivial
  have hmm : MatsAt K1 mv ms := hg1.arr
  have hf := hfin (st.bind (selE ts ms)) (mayMats ms) (by
    cases st with
    | none => rfl
    | some a =>
      simp only [Option.bind_some, selE]
      cases signO ts [125] a with
      | none => rfl
      | some c => cases mayMats ms <;> simp) (by
    intro a' ha'
    cases st with
    | none => cases ha'
    | some a =>
      simp only [Option.bind_some, selE] at ha' ⊢
      cases hs : signO ts [125] a with
      | none => simp [hs] at ha'
      | some c =>
        simp only [hs, Option.bind_some] at ha'
        split at ha'
        · exact ha'
        · cases ha')
  have hfg : ∀ ok', Gro (K1.set rb (.cells [lv, i64 a1, .bool ok'] 81)) lo 3 75 mv (ms.map Mat.cells) := fun ok' => hg1.set (by omega)
  clear rest
  generalize (st.bind (signO ts [125])).isSome = b0 at *
  have go : ∀ (q : QH), (∀ v, q.f v K1) → @bndC Tryz.prog 69 [rP rb, str [125]] K q := fun q hq => bndC_of g1 (hq _)
  have tail : ∀ (kk : Value → AHeap → Prop), kk = k → (kk mv (K1.set rb (.cells [lv, i64 a1, .bool (b0 && mayMats ms)] 81))) := fun kk e => by rw [e]; exact hk _ hf (hfg _)
  cases more with
  | false =>
    simp
    refine bndC_of g1 ?_
    cases b0 with
    | false => simp [hcc, hll, c1]; simpa using tail k rfl
    | true =>
      simp [hcc, hll]
      refine bndG_call (.bool (mayMats ms)) (fun _ => c_matchMay hmm (by omega)) ?_
      simp [hll, c1]
      simpa using tail k rfl
  | true =>
    have hst : st.isSome = false := by simpa using hm
    rw [hst] at hcc0 c0
    simp [hcc0, hll0]
    refine bndC_of g1 ?_
    cases b0 with
    | false => simp [hcc, hll, c1]; simpa using tail k rfl
    | true =>
      simp [hcc, hll]
      refine bndG_call (.bool (mayMats ms)) (fun _ => c_matchMay hmm (by omega)) ?_
      simp [hll, c1]
      simpa using tail k rfl
theorem sel_loop {H K0 rb lv ts lo} {k : Value → AHeap → Prop} (hrb : rb < lo) (hK0 : K0.length ≤ lo) (hH : H.length ≤ lo) : ∀ (f : Nat) (a : Nat) (acc : List Mat) (K : AHeap) (mv : Value), Adv H K0 K rb lv ts (some a) → lo ≤ K.length → Gro K lo 3 75 mv (acc.map Mat.cells) → ts.length < f + a → acc.length + f ≤ 2 ^ 41 →
    (∀ sv ms K', Adv H K0 K' rb lv ts ((selL ts f a acc).bind fun p => selE ts p.1 p.2) → Gro K' lo 3 75 sv (ms.map Mat.cells) → (∀ p, selL ts f a acc = some p → p.1 = ms) → ms.length ≤ 2 ^ 41 → k sv K') →
    ∃ n, ∀ (s1 s2 s5 s6 s7 s8 s9 s10 s11 s12 s13 s14 s15 s16 s17 s18 s19 s20 s21 s22 s23 s24 s25 s26 s27 s28 s29 s30 s31 s32 s33 s34 s35 s36 s37 s38 s39 s40 s41 s42 : Value), L106x0 n k [rP rb, s1, s2, mv, .bool true, s5, s6, s7, s8, s9, s10, s11, s12, s13, s14, s15, s16, s17, s18, s19, s20, s21, s22, s23, s24, s25, s26, s27, s28, s29, s30, s31, s32, s33, s34, s35, s36, s37, s38, s39, s40, s41, s42] K := by
  intro f
  induction f with
  | zero => intro a acc K mv h _ _ hf _ _; have := h.rd.le; omega
  | succ f ih =>
    intro a acc K mv h hlo hg hf hacc hk
    obtain ⟨a0, c0, hcc0, hll0, _⟩ := h.fin
    obtain ⟨K1, g1, g2⟩ := g_take h.rd 1
    have hops := c_ops K1
    have v2 := g2.app [.cells (opsL.map str) 9]
    have harr : Arr (K1 ++ [.cells (opsL.map str) 9]) 1 (.slice (some ⟨K1.length, 0, some 3⟩) 3 3) (strCells opsL) := arr_strs opsL 9 3 rfl
    obtain ⟨K3, p1, p2⟩ := g_one v2.rd 4 harr (by decide) (by decide) (by decide)
    obtain ⟨K4, q1, q2⟩ := g_take p2.rd 3
    have adv4 := ((v2.trans p2).trans q2)
    have hst : (((some a).bind (takeO ts 1)).bind (oneO ts 4 opsL)).bind (takeO ts 3) = (matO ts a).map (·.2) ∧ (∀ p, matO ts a = some p → p.1 = ⟨((some a).bind (tokK ts 1)).getD [], idxS opsL ((((some a).bind (takeO ts 1)).bind (tokK ts 4)).getD []), ((((some a).bind (takeO ts 1)).bind (oneO ts 4 opsL)).bind (tokK ts 3)).getD []⟩) := by
      unfold matO takeO oneO
      simp only [Option.bind_some]
      cases tokK ts 1 a with
      | none => simp
      | some n =>
        simp only [Option.map_some, Option.bind_some]
        cases tokK ts 4 (a + 1) with
        | none => simp
        | some o =>
          simp only [Option.bind_some]
          by_cases ho : o ∈ opsL
          · simp only [if_pos ho, Option.bind_some]
            cases tokK ts 3 (a + 1 + 1) with
            | none => simp
            | some v => simp
          · simp [if_neg ho]
    generalize ((some a).bind (tokK ts 1)).getD [] = t1 at *
    generalize (((some a).bind (takeO ts 1)).bind (tokK ts 4)).getD [] = t2 at *
    generalize ((((some a).bind (takeO ts 1)).bind (oneO ts 4 opsL)).bind (tokK ts 3)).getD [] = t3 at *
    rw [hst.1] at q2 adv4
    have hm := hst.2
    obtain ⟨v', K5, r1, r2, r3, r4, r5⟩ := Gro.push (P := Tryz.prog) (Ts := 35) (by_ := 40) (x := .slice (some ⟨K4.length, 0, some 3⟩) 1 1) (c := Mat.cells ⟨t1, idxS opsL t2, t3⟩)
      ((hg.frm fun b o hb ho => adv4.fr b o (by omega) ho).app (X := [.cells (Mat.cells ⟨t1, idxS opsL t2, t3⟩) 75])) mael1 mael2 rfl (by have := adv4.len; simp; omega) (by simp [aSrc, Mat.cells]) (by simp; omega) (by simp; omega)
    have a0' := (h.trans adv4).app [.cells (Mat.cells ⟨t1, idxS opsL t2, t3⟩) 75]
    have adv5 : Adv H K0 K5 rb lv ts ((matO ts a).map (·.2)) :=
      ⟨a0'.rd.frame (r5 H a0'.rd.pre hH) fun o ho => r3 rb o hrb ho, fun b o hb ho => r3 b o (by have := (List.getElem?_eq_some_iff.1 ho).1; omega) (a0'.fr b o hb ho), by have := a0'.len; omega⟩
    obtain ⟨K6, u1, u2⟩ := g_takes adv5.rd 4 [44]
    have adv6 := adv5.trans u2
    have r6 := r2.frm (K' := K6) fun b o hb ho => u2.fr b o (by omega) ho
    have hlo6 : lo ≤ K6.length := by have := u2.len; have := adv4.len; simp at r4; omega
    rw [show acc.map Mat.cells ++ [Mat.cells ⟨t1, idxS opsL t2, t3⟩] = (acc ++ [(⟨t1, idxS opsL t2, t3⟩ : Mat)]).map Mat.cells by simp] at r2 r6
    have next : ∃ n, ∀ (s1 s2 s5 s6 s7 s8 s9 s10 s11 s12 s13 s14 s15 s16 s17 s18 s19 s20 s21 s22 s23 s24 s25 s26 s27 s28 s29 s30 s31 s32 s33 s34 s35 s36 s37 s38 s39 s40 s41 s42 : Value), L106x0 n k [rP rb, s1, s2, v', .bool (((matO ts a).map (·.2)).any fun a => isT ts a 4 [44]), s5, s6, s7, s8, s9, s10, s11, s12, s13, s14, s15, s16, s17, s18, s19, s20, s21, s22, s23, s24, s25, s26, s27, s28, s29, s30, s31, s32, s33, s34, s35, s36, s37, s38, s39, s40, s41, s42] K6 := by
      cases hmo : matO ts a with
      | none =>
        simp only [hmo, Option.map_none, Option.any_none] at adv6 ⊢
        refine ⟨1, fun s1 s2 s5 s6 s7 s8 s9 s10 s11 s12 s13 s14 s15 s16 s17 s18 s19 s20 s21 s22 s23 s24 s25 s26 s27 s28 s29 s30 s31 s32 s33 s34 s35 s36 s37 s38 s39 s40 s41 s42 => sel_end adv6 r6 hrb (by simp; omega) rfl (fun K' e1 e2 => ?_) 0 _ _ _ _ _ _ _ _ _ _ _ _ _ _ _ _ _ _ _ _ _ _ _ _ _ _ _ _ _ _ _ _ _ _ _ _ _ _ _ _⟩
        refine hk _ _ K' ?_ e2 ?_ (by simp; omega)
        · simpa [selL, hmo] using e1
        · intro p hp; simp [selL, hmo] at hp
      | some mc =>
        obtain ⟨m, c⟩ := mc
        obtain rfl := hm _ hmo
        simp only [hmo, Option.map_some, Option.any_some, takO] at adv6 ⊢
        cases hcm : isT ts c 4 [44] with
        | true =>
          simp only [hcm, if_true] at adv6
          have hca : a + 3 = c := by
            unfold matO at hmo
            obtain ⟨_, _, h2⟩ := Option.bind_eq_some_iff.1 hmo
            obtain ⟨_, _, h3⟩ := Option.bind_eq_some_iff.1 h2
            split at h3
            · obtain ⟨_, _, h4⟩ := Option.bind_eq_some_iff.1 h3; exact congrArg Prod.snd (Option.some.inj h4)
            · cases h3
          refine ih (c + 1) _ K6 v' adv6 hlo6 r6 (by omega) (by simp; omega) fun sv ms K' e1 e2 e3 e4 => hk sv ms K' ?_ e2 ?_ e4
          · simpa [selL, hmo, hcm] using e1
          · intro p hp; exact e3 p (by simpa [selL, hmo, hcm] using hp)
        | false =>
          simp only [hcm, Bool.false_eq_true, if_false] at adv6
          refine ⟨1, fun s1 s2 s5 s6 s7 s8 s9 s10 s11 s12 s13 s14 s15 s16 s17 s18 s19 s20 s21 s22 s23 s24 s25 s26 s27 s28 s29 s30 s31 s32 s33 s34 s35 s36 s37 s38 s39 s40 s41 s42 => sel_end adv6 r6 hrb (by simp; omega) rfl (fun K' e1 e2 => ?_) 0 _ _ _ _ _ _ _ _ _ _ _ _ _ _ _ _ _ _ _ _ _ _ _ _ _ _ _ _ _ _ _ _ _ _ _ _ _ _ _ _⟩
          refine hk _ _ K' ?_ e2 ?_ (by simp; omega)
          · simpa [selL, hmo, hcm] using e1
          · intro p hp
            simp [selL, hmo, hcm] at hp
            rw [← hp]
    obtain ⟨n, hn⟩ := next
    refine ⟨n + 1, fun s1 s2 s5 s6 s7 s8 s9 s10 s11 s12 s13 s14 s15 s16 s17 s18 s19 s20 s21 s22 s23 s24 s25 s26 s27 s28 s29 s30 s31 s32 s33 s34 s35 s36 s37 s38 s39 s40 s41 s42 => ?_⟩
    rw [L106x0q]
    simp [hcc0, hll0]
    refine bndC_of g1 ?_
    refine bndC_of hops ?_
    refine bndC_of p1 ?_
    refine bndC_of q1 ?_
    have hlit := mat_lit (K := K4) ⟨t1, idxS opsL t2, t3⟩
    simp only [Mat.cells] at hlit r1
    simp
    refine bndL_lit hlit ?_
    dsimp only
    rw [r1]
    simp only [bndE_some]
    refine bndC_of u1 ?_
    exact hn _ _ _ _ _ _ _ _ _ _ _ _ _ _ _ _ _ _ _ _ _ _ _ _ _ _ _ _ _ _ _ _ _ _ _ _ _ _ _ _
theorem g_selects {H K rb lv ts st} (h : RdS H K rb lv ts st) :
    ∃ sv ms K', ACalls Tryz.prog 106 [rP rb] K sv K' ∧ Adv H K K' rb lv ts ((st.bind (selO ts)).map (·.2)) ∧ Gro K' K.length 3 75 sv (ms.map Mat.cells) ∧ (∀ p, st.bind (selO ts) = some p → p.1 = ms) ∧ ms.length ≤ 2 ^ 41 := by
  have key : ∃ sv K', (∃ ms, Adv H K K' rb lv ts ((st.bind (selO ts)).map (·.2)) ∧ Gro K' K.length 3 75 sv (ms.map Mat.cells) ∧ (∀ p, st.bind (selO ts) = some p → p.1 = ms) ∧ ms.length ≤ 2 ^ 41) ∧ ACalls Tryz.prog 106 [rP rb] K sv K' := by
    refine acalls_ex MixT Tryz.func106 (by decide) ?_
    rw [d106]
    obtain ⟨K1, g1, g2⟩ := g_sign h [123]
    refine bndC_of g1 ?_
    obtain ⟨K2, p1, p2⟩ := g_takes g2.rd 4 [125]
    refine bndC_of p1 ?_
    have adv := g2.trans p2
    have hrb := h.lt
    have hlen := h.len
    have hH : H.length ≤ K.length := by obtain ⟨X, hX⟩ := h.pre; rw [hX]; simp
    refine kifB_bool (fun hb => ?_) (fun hb => ?_)
    · cases st with
      | none => cases hb
      | some a =>
        simp only [Option.bind_some] at hb adv ⊢
        cases hs : signO ts [123] a with
        | none => simp [hs] at hb
        | some a1 =>
          simp only [hs, Option.any_some, Option.map_some, takO] at hb adv
          rw [hb, if_pos rfl] at adv
          exact ⟨[], by simpa [selO, hs, hb] using adv, .nil, by simp [selO, hs, hb], by simp⟩
    · cases hs : st.bind (signO ts [123]) with
      | none =>
        rw [hs] at adv
        have hno : st.bind (selO ts) = none := by
          cases st with
          | none => rfl
          | some a => simp only [Option.bind_some] at hs ⊢; simp [selO, hs]
        refine ⟨1, sel_end (ms := []) (lo := K.length) adv .nil hrb (by simp) (by simp) (fun K' e1 e2 => ?_) 0 _ _ _ _ _ _ _ _ _ _ _ _ _ _ _ _ _ _ _ _ _ _ _ _ _ _ _ _ _ _ _ _ _ _ _ _ _ _ _ _⟩
        exact ⟨[], by simpa [hno] using e1, e2, by simp [hno], by simp⟩
      | some a1 =>
        rw [hs] at adv hb
        simp only [Option.any_some] at hb
        simp only [Option.map_some, takO, hb, Bool.false_eq_true, if_false] at adv
        obtain ⟨a, rfl, ha⟩ := Option.bind_eq_some_iff.1 hs
        have hso : selO ts a = (selL ts (ts.length + 1) a1 []).bind fun p => (selE ts p.1 p.2).map fun c => (p.1, c) := by
          simp [selO, ha, hb]
        obtain ⟨n, hn⟩ := sel_loop (lo := K.length) (k := fun sv K' => ∃ ms, Adv H K K' rb lv ts (((some a).bind (selO ts)).map (·.2)) ∧ Gro K' K.length 3 75 sv (ms.map Mat.cells) ∧ (∀ p, (some a).bind (selO ts) = some p → p.1 = ms) ∧ ms.length ≤ 2 ^ 41) hrb (Nat.le_refl _) hH (ts.length + 1) a1 [] K2 (.slice none 0 0) adv adv.len .nil (by omega) (by simp; omega) (by
          intro sv ms K' e1 e2 e3 e4
          refine ⟨ms, ?_, e2, ?_, e4⟩
          · simp only [Option.bind_some, hso]
            cases hl : selL ts (ts.length + 1) a1 [] with
            | none => simpa [hl] using e1
            | some p =>
              simp only [hl, Option.bind_some] at e1 ⊢
              cases he : selE ts p.1 p.2 with
              | none => simpa [he] using e1
              | some c => simpa [he] using e1
          · intro p hp
            simp only [Option.bind_some, hso] at hp
            obtain ⟨q, h1, h2⟩ := Option.bind_eq_some_iff.1 hp
            obtain ⟨c, _, rfl⟩ := Option.map_eq_some_iff.1 h2
            exact e3 q h1)
        exact ⟨n, hn _ _ _ _ _ _ _ _ _ _ _ _ _ _ _ _ _ _ _ _ _ _ _ _ _ _ _ _ _ _ _ _ _ _ _ _ _ _ _ _⟩
  obtain ⟨sv, K', ⟨ms, h⟩, hy⟩ := key
  exact ⟨sv, ms, K', hy, h⟩
end Go.Vi
namespace Go.Vi
open Go Go.Proofs

structure CmpG (H K L : AHeap) (rb : Nat) (lv : Value) (ts : List Tok) (st : Option Nat) (b0 b1 : Nat) (n : List Value) : Prop where
  rd : RdS H L rb lv ts st
  f0 : L[b0]? = some (.cells nodZ 37)
  f1 : L[b1]? = some (.cells n 37)
  fr : ∀ (b : Nat) o, b ≠ rb → K[b]? = some o → L[b]? = some o
  len : K.length ≤ L.length
  hH : H.length ≤ K.length
  k0 : rb < K.length
  k1 : K.length ≤ b0
  k2 : K.length ≤ b1
  k3 : b0 ≠ b1
theorem CmpG.adv {H K L L' rb lv ts st st' b0 b1 n} (h : CmpG H K L rb lv ts st b0 b1 n) (a : Adv H L L' rb lv ts st') : CmpG H K L' rb lv ts st' b0 b1 n :=
  ⟨a.rd, a.fr _ _ (by have := h.k0; have := h.k1; omega) h.f0, a.fr _ _ (by have := h.k0; have := h.k2; omega) h.f1, fun b o hb ho => a.fr b o hb (h.fr b o hb ho), Nat.le_trans h.len a.len, h.hH, h.k0, h.k1, h.k2, h.k3⟩
theorem CmpG.app {H K L rb lv ts st b0 b1 n} (h : CmpG H K L rb lv ts st b0 b1 n) (X : AHeap) : CmpG H K (L ++ X) rb lv ts st b0 b1 n := h.adv ((Adv.refl h.rd).app X)
theorem CmpG.sto {H K L rb lv ts st b0 b1 n} (h : CmpG H K L rb lv ts st b0 b1 n) (n' : List Value) : CmpG H K (L.set b1 (.cells n' 37)) rb lv ts st b0 b1 n' := by
  have h0 := h.hH; have h1 := h.k0; have h2 := h.k1; have h3 := h.k2
  have hb1 := (List.getElem?_eq_some_iff.1 h.f1).1
  refine ⟨h.rd.frame (h.rd.pre.set (by omega)) fun o ho => by rw [List.getElem?_set_ne (by omega)]; exact ho, by rw [List.getElem?_set_ne (Ne.symm h.k3)]; exact h.f0, by rw [List.getElem?_set_self hb1], fun b o hb ho => ?_, by simpa using h.len, h.hH, h.k0, h.k1, h.k2, h.k3⟩
  have hbk := (List.getElem?_eq_some_iff.1 ho).1
  rw [List.getElem?_set_ne (by omega)]
  exact h.fr b o hb ho
theorem CmpG.fin {H K L rb lv ts st b0 b1 n} (h : CmpG H K L rb lv ts st b0 b1 n) (n' : List Value) : Adv H K (L.set b0 (.cells n' 37)) rb lv ts st := by
  have h0 := h.hH; have h1 := h.k0; have h2 := h.k1; have h3 := h.k2
  refine ⟨h.rd.frame (h.rd.pre.set (by omega)) fun o ho => by rw [List.getElem?_set_ne (by omega)]; exact ho, fun b o hb ho => ?_, by simpa using h.len⟩
  have hbk := (List.getElem?_eq_some_iff.1 ho).1
  rw [List.getElem?_set_ne (by omega)]
  exact h.fr b o hb ho
theorem CmpG.hl {H K L rb lv ts st b0 b1 n} (h : CmpG H K L rb lv ts st b0 b1 n) : hlen L b1 = some n.length := by unfold hlen; rw [h.f1]; rfl
theorem CmpG.hc {H K L rb lv ts st b0 b1 n} (h : CmpG H K L rb lv ts st b0 b1 n) : hcells L b1 = some n := by rw [hcells_eq, h.f1]; rfl
def txtK (ts : List Tok) (k : Int) (a : Nat) : List UInt8 := (tokK ts k a).getD []
def cmpO (ts : List Tok) (a : Nat) : Option (Nod × Nat) := (oneO ts 1 aggs a).bind fun b1 => (signO ts [40] b1).bind fun b2 => (selO ts b2).bind fun p => (signO ts [91] p.2).bind fun b3 => (winO ts b3).bind fun w =>
  (signO ts [93] w.2).bind fun b4 => (signO ts [41] b4).bind fun b5 => (oneO ts 4 cmps b5).bind fun b6 => (valO ts b6).bind fun v =>
    some (⟨0, UInt8.ofNat (idxS aggs (txtK ts 1 a)), p.1, w.1, UInt8.ofNat (idxS cmps (txtK ts 4 b5)), v.1, 0, 0⟩, v.2)
theorem cmp_chain {ts : List Tok} {st s2 s3 s4 s5 s7 s8 : Option Nat} {ms : List Mat} {w x : Int} (e2 : s2 = (st.bind (oneO ts 1 aggs)).bind (signO ts [40])) (e3 : s3 = (s2.bind (selO ts)).map (·.2)) (e4 : s4 = s3.bind (signO ts [91])) (e5 : s5 = (s4.bind (winO ts)).map (·.2))
    (e7 : s7 = (s5.bind (signO ts [93])).bind (signO ts [41])) (e8 : s8 = s7.bind (oneO ts 4 cmps)) (hm : ∀ p, s2.bind (selO ts) = some p → p.1 = ms) (hw : ∀ p, s4.bind (winO ts) = some p → p.1 = w) (hx : ∀ p, s8.bind (valO ts) = some p → p.1 = x) :
    (s8.bind (valO ts)).map (·.2) = (st.bind (cmpO ts)).map (·.2) ∧ ∀ p, st.bind (cmpO ts) = some p → p.1 = ⟨0, UInt8.ofNat (idxS aggs ((st.bind (tokK ts 1)).getD [])), ms, w, UInt8.ofNat (idxS cmps ((s7.bind (tokK ts 4)).getD [])), x, 0, 0⟩ := by
  cases st with
  | none => subst e2 e3 e4 e5 e7 e8; simp
  | some a =>
    simp only [Option.bind_some] at e2 ⊢
    unfold cmpO
    cases h1 : oneO ts 1 aggs a with
    | none => simp only [h1] at e2; subst e2 e3 e4 e5 e7 e8; simp
    | some b1 =>
      simp only [h1, Option.bind_some] at e2 ⊢
      cases h2 : signO ts [40] b1 with
      | none => rw [h2] at e2; subst e2 e3 e4 e5 e7 e8; simp
      | some b2 =>
        rw [h2] at e2
        subst e2
        simp only [Option.bind_some] at e3 hm ⊢
        cases h3 : selO ts b2 with
        | none => rw [h3] at e3; subst e3 e4 e5 e7 e8; simp
        | some p =>
          rw [h3] at e3
          have hm := hm _ h3
          subst e3
          simp only [Option.map_some, Option.bind_some] at e4 ⊢
          cases h4 : signO ts [91] p.2 with
          | none => rw [h4] at e4; subst e4 e5 e7 e8; simp
          | some b3 =>
            rw [h4] at e4
            subst e4
            simp only [Option.bind_some] at e5 hw ⊢
            cases h5 : winO ts b3 with
            | none => rw [h5] at e5; subst e5 e7 e8; simp
            | some ww =>
              rw [h5] at e5
              have hw := hw _ h5
              subst e5
              simp only [Option.map_some, Option.bind_some] at e7 ⊢
              cases h6 : signO ts [93] ww.2 with
              | none => rw [h6] at e7; subst e7 e8; simp
              | some b4 =>
                simp only [h6, Option.bind_some] at e7 ⊢
                cases h7 : signO ts [41] b4 with
                | none => rw [h7] at e7; subst e7 e8; simp
                | some b5 =>
                  rw [h7] at e7
                  subst e7
                  simp only [Option.bind_some] at e8 ⊢
                  cases h8 : oneO ts 4 cmps b5 with
                  | none => rw [h8] at e8; subst e8; simp
                  | some b6 =>
                    rw [h8] at e8
                    subst e8
                    simp only [Option.bind_some] at hx ⊢
                    cases h9 : valO ts b6 with
                    | none => simp
                    | some v =>
                      have hx := hx _ h9
                      simp [txtK, hm, hw, hx]
theorem u8_of {n : Nat} (h : n < 256) : ((UInt8.ofNat n).toNat : Int) = n := by simp only [UInt8.toNat_ofNat']; omega
theorem g_comparison {H K rb lv ts st} (hg : Pre Gs H) (hn : NumTok ts) (h : RdS H K rb lv ts st) :
    ∃ n sv K', ACalls Tryz.prog 70 [rP rb] K (.agg ((n : Nod).cells sv).toArray) K' ∧ Adv H K K' rb lv ts ((st.bind (cmpO ts)).map (·.2)) ∧ Gro K' K.length 3 75 sv (n.sel.map Mat.cells) ∧ (∀ p, st.bind (cmpO ts) = some p → p.1 = n) ∧ n.sel.length ≤ 2 ^ 41 := by
  have key : ∃ v K', (∃ (n : Nod) (sv : Value), v = .agg (n.cells sv).toArray ∧ Adv H K K' rb lv ts ((st.bind (cmpO ts)).map (·.2)) ∧ Gro K' K.length 3 75 sv (n.sel.map Mat.cells) ∧ (∀ p, st.bind (cmpO ts) = some p → p.1 = n) ∧ n.sel.length ≤ 2 ^ 41) ∧ ACalls Tryz.prog 70 [rP rb] K v K' := by
    refine acalls_ex MixT Tryz.func70 (by decide) ?_
    rw [d70]
    simp
    refine bndC_of (c_aggregates _) ?_
    have hrb := h.lt
    have hH : H.length ≤ K.length := by obtain ⟨X, hX⟩ := h.pre; rw [hX]; simp
    have v0 := (Adv.refl h).app [AObj.cells nodZ 37]
    have v1 := v0.app [AObj.cells (aggs.map str) 9]
    obtain ⟨K1, a1, a2⟩ := g_one v1.rd 1 (arr_strs aggs 9 6 rfl) (by decide) (by decide) (by decide)
    refine bndC_of a1 ?_
    have hz : K1[K.length]? = some (.cells nodZ 37) := a2.fr _ _ (by omega) (by simp)
    have hi1 : idxS aggs ((st.bind (tokK ts 1)).getD []) < 6 := by
      unfold idxS; split
      · rename_i q; exact List.idxOf_lt_length_of_mem q
      · omega
    generalize hi : idxS aggs ((st.bind (tokK ts 1)).getD []) = i at hi1 ⊢
    have v2 := v1.trans a2
    have c0 : CmpG H K (K1 ++ [AObj.cells [.int .u8 0, .int .u8 i, .slice none 0 0, i64 0, .int .u8 0, i64 0, i64 0, i64 0] 37]) rb lv ts (st.bind (oneO ts 1 aggs)) K.length K1.length [.int .u8 0, .int .u8 i, .slice none 0 0, i64 0, .int .u8 0, i64 0, i64 0, i64 0] :=
      ⟨v2.rd.app _, get_more hz, by simp, fun b o hb ho => get_more (v2.fr b o hb ho), by have := v2.len; simp; omega, hH, hrb, Nat.le_refl _, v2.len, by have := a2.len; simp at this; omega⟩
    simp
    generalize K1 ++ [AObj.cells [.int .u8 0, .int .u8 i, .slice none 0 0, i64 0, .int .u8 0, i64 0, i64 0, i64 0] 37] = L1 at c0 ⊢
    obtain ⟨L2, g1, g2⟩ := g_sign c0.rd [40]
    refine bndC_of g1 ?_
    have c1 := c0.adv g2
    generalize hs2 : (st.bind (oneO ts 1 aggs)).bind (signO ts [40]) = s2 at c1
    obtain ⟨sv, ms, L3, g3, g4, gs, gm, gml⟩ := g_selects c1.rd
    refine bndC_of g3 ?_
    have c2 := c1.adv g4
    generalize hs3 : (s2.bind (selO ts)).map (·.2) = s3 at c2
    have hlo : K1.length < L2.length := (List.getElem?_eq_some_iff.1 c1.f1).1
    have hlo0 : K.length < L2.length := (List.getElem?_eq_some_iff.1 c1.f0).1
    have e1 := c2.hl
    have e2 := c2.f1
    have hsv1 := gs.one
    have hsv2 := gs.cells
    have hsv3 := gs.stor
    simp [e1, e2, hsv2, hsv3]
    have c3 := c2.sto [.int .u8 0, .int .u8 i, sv, i64 0, .int .u8 0, i64 0, i64 0, i64 0]
    have gs3 := gs.set (b := K1.length) (o := .cells [.int .u8 0, .int .u8 i, sv, i64 0, .int .u8 0, i64 0, i64 0, i64 0] 37) hlo
    generalize L3.set K1.length (AObj.cells [.int .u8 0, .int .u8 i, sv, i64 0, .int .u8 0, i64 0, i64 0, i64 0] 37) = L4 at c3 gs3 ⊢
    obtain ⟨L5, g5, g6⟩ := g_sign c3.rd [91]
    refine bndC_of g5 ?_
    have c4 := c3.adv g6
    have grb : rb < L2.length := by omega
    have gs5 := gs3.frm (K' := L5) fun b o hb ho => g6.fr b o (by omega) ho
    generalize hs4 : s3.bind (signO ts [91]) = s4 at c4
    obtain ⟨w, L6, g7, g8, gw⟩ := g_window hg hn c4.rd
    refine bndC_of g7 ?_
    have c5 := c4.adv g8
    have gs6 := gs5.frm (K' := L6) fun b o hb ho => g8.fr b o (by omega) ho
    generalize hs5 : (s4.bind (winO ts)).map (·.2) = s5 at c5
    have e1 := c5.hl
    have e2 := c5.f1
    simp [e1, e2]
    have c6 := c5.sto [.int .u8 0, .int .u8 i, sv, i64 w, .int .u8 0, i64 0, i64 0, i64 0]
    have gs7 := gs6.set (b := K1.length) (o := .cells [.int .u8 0, .int .u8 i, sv, i64 w, .int .u8 0, i64 0, i64 0, i64 0] 37) hlo
    generalize L6.set K1.length (AObj.cells [.int .u8 0, .int .u8 i, sv, i64 w, .int .u8 0, i64 0, i64 0, i64 0] 37) = L7 at c6 gs7 ⊢
    obtain ⟨L8, g9, ga⟩ := g_sign c6.rd [93]
    refine bndC_of g9 ?_
    have c7 := c6.adv ga
    have gs8 := gs7.frm (K' := L8) fun b o hb ho => ga.fr b o (by omega) ho
    obtain ⟨L9, gb, gc⟩ := g_sign c7.rd [41]
    refine bndC_of gb ?_
    have c8 := c7.adv gc
    have gs9 := gs8.frm (K' := L9) fun b o hb ho => gc.fr b o (by omega) ho
    generalize hs7 : (s5.bind (signO ts [93])).bind (signO ts [41]) = s7 at c8
    refine bndC_of (c_compares _) ?_
    have c9 := c8.app [AObj.cells (cmps.map str) 9]
    obtain ⟨La, gd, ge⟩ := g_one c9.rd 4 (arr_strs cmps 9 6 rfl) (by decide) (by decide) (by decide)
    refine bndC_of gd ?_
    have ca := c9.adv ge
    have gsa := (gs9.app (X := [AObj.cells (cmps.map str) 9])).frm (K' := La) fun b o hb ho => ge.fr b o (by omega) ho
    have hj1 : idxS cmps ((s7.bind (tokK ts 4)).getD []) < 6 := by
      unfold idxS; split
      · rename_i q; exact List.idxOf_lt_length_of_mem q
      · omega
    generalize hj : idxS cmps ((s7.bind (tokK ts 4)).getD []) = j at hj1 ⊢
    generalize hs8 : s7.bind (oneO ts 4 cmps) = s8 at ca
    have e1 := ca.hl
    have e2 := ca.f1
    simp [e1, e2]
    have cb := ca.sto [.int .u8 0, .int .u8 i, sv, i64 w, .int .u8 j, i64 0, i64 0, i64 0]
    have gsb := gsa.set (b := K1.length) (o := .cells [.int .u8 0, .int .u8 i, sv, i64 w, .int .u8 j, i64 0, i64 0, i64 0] 37) hlo
    generalize La.set K1.length (AObj.cells [.int .u8 0, .int .u8 i, sv, i64 w, .int .u8 j, i64 0, i64 0, i64 0] 37) = Lb at cb gsb ⊢
    obtain ⟨x, Lc, gf, gg, gx⟩ := g_value hn cb.rd
    refine bndC_of gf ?_
    have cc := cb.adv gg
    have gsc := gsb.frm (K' := Lc) fun b o hb ho => gg.fr b o (by omega) ho
    obtain ⟨ch1, ch2⟩ := cmp_chain hs2.symm hs3.symm hs4.symm hs5.symm hs7.symm hs8.symm gm gw gx
    rw [hi, hj] at ch2
    rw [ch1] at cc
    have e1 := cc.hl
    have e2 := cc.f1
    simp [e1, e2]
    have cd := cc.sto [.int .u8 0, .int .u8 i, sv, i64 w, .int .u8 j, i64 x, i64 0, i64 0]
    have gsd := gsc.set (b := K1.length) (o := .cells [.int .u8 0, .int .u8 i, sv, i64 w, .int .u8 j, i64 x, i64 0, i64 0] 37) hlo
    generalize Lc.set K1.length (AObj.cells [.int .u8 0, .int .u8 i, sv, i64 w, .int .u8 j, i64 x, i64 0, i64 0] 37) = Ld at cd gsd ⊢
    have e1 := cd.hc
    have e2 := cd.f0
    have q1 := cd.fin [.int .u8 0, .int .u8 i, sv, i64 w, .int .u8 j, i64 x, i64 0, i64 0]
    have gse := gsd.set (b := K.length) (o := .cells [.int .u8 0, .int .u8 i, sv, i64 w, .int .u8 j, i64 x, i64 0, i64 0] 37) hlo0
    have hself : hcells (Ld.set K.length (AObj.cells [.int .u8 0, .int .u8 i, sv, i64 w, .int .u8 j, i64 x, i64 0, i64 0] 37)) K.length = some [.int .u8 0, .int .u8 i, sv, i64 w, .int .u8 j, i64 x, i64 0, i64 0] := by
      rw [hcells_eq, List.getElem?_set_self (List.getElem?_eq_some_iff.1 cd.f0).1]; rfl
    simp [e1, e2, nodZ, hself, hsv1]
    refine ⟨⟨0, UInt8.ofNat i, ms, w, UInt8.ofNat j, x, 0, 0⟩, sv, ?_, by simpa using q1, ?_, ?_, gml⟩
    · have h1 := u8_of (n := i) (by omega)
      have h2 := u8_of (n := j) (by omega)
      simp only [Nod.cells, byt, h1, h2]
      rfl
    · exact gse.weak (by omega)
    · intro a b hp; exact ch2 (a, b) (by simpa using hp)
  obtain ⟨v, K', ⟨n, sv, rfl, h⟩, hy⟩ := key
  exact ⟨n, sv, K', hy, h⟩
end Go.Vi
namespace Go.Vi
open Go Go.Proofs

theorem drawKeepOne {P : Program} : OneD (drawKeep P) := by
  constructor
  · intro ops k k' sl H hk h
    unfold drawKeep at h ⊢
    split at h
    · exact kdrawK_mono hk _ _ h
    · cases h
  · intro ops k sl H h
    unfold drawKeep at h ⊢
    split at h
    · exact kdrawK_one _ _ h
    · cases h
theorem acallsKex {P : Program} (hm : P.follows .mixedOrders = true) {f fn args H} {k : Value → AHeap → Prop} (hf : P.funcs[f]? = some fn) (hn : notNG fn = true) (hr : kbodyG P (drawKeep P) fn args H k) : ∃ v H', k v H' ∧ ACalls P f args H v H' := by
  obtain ⟨v, H', h1, h2⟩ := kbodyG_one drawKeepOne hr
  exact ⟨v, H', h1, acallsG_of (fun c => @drawKeep_sound P c hm) hf hn h2⟩
def wordO (k : Nat) : List UInt8 := if k = 1 then [97, 110, 100] else [111, 114]
def notS : List UInt8 := [110, 111, 116]
def opN (k : UInt8) (l r : Int) : Nod := ⟨k, 0, [], 0, 0, 0, l, r⟩
def kindK (k : Nat) : UInt8 := if k = 1 then 1 else 2
def strO (ts : List Tok) : Nat → Nat → Nat → List Nod → Option (Option (List Nod × Nat))
  | 0, _, _, _ => none
  | f + 1, m, a, l =>
    if m = 2 then
      if isT ts a 1 notS = true then (strO ts f 2 (a + 1) l).map fun r => r.map fun p => (p.1 ++ [opN 3 ((p.1.length : Int) - 1) 0], p.2)
      else if isT ts a 4 [40] = true then (strO ts f 0 (a + 1) l).map fun r => r.bind fun p => (signO ts [41] p.2).map fun c => (p.1, c)
      else some ((cmpO ts a).map fun p => (l ++ [p.1], p.2))
    else if m < 2 then (strO ts f (m + 1) a l).bind fun r => match r with
      | none => some none
      | some p => strO ts f (m + 10) p.2 p.1
    else if isT ts a 1 (wordO (m - 10)) = true then (strO ts f (m - 10 + 1) (a + 1) l).bind fun r => match r with
      | none => some none
      | some p => strO ts f m p.2 (p.1 ++ [opN (kindK (m - 10)) ((l.length : Int) - 1) ((p.1.length : Int) - 1)])
    else some (some (l, a))
theorem cmpO_lt {ts : List Tok} {a : Nat} {p : Nod × Nat} (h : cmpO ts a = some p) : a < p.2 := by
  have hone : ∀ {k l a b}, oneO ts k l a = some b → b = a + 1 := by
    intro k l a b h
    unfold oneO at h
    obtain ⟨_, _, h2⟩ := Option.bind_eq_some_iff.1 h
    split at h2 <;> simp_all
  have hsign : ∀ {s a b}, signO ts s a = some b → b = a + 1 := by
    intro s a b h
    unfold signO at h
    split at h <;> simp_all
  have hmat : ∀ {a p}, matO ts a = some p → p.2 = a + 3 := by
    intro a p h
    unfold matO at h
    obtain ⟨_, _, h2⟩ := Option.bind_eq_some_iff.1 h
    obtain ⟨_, _, h3⟩ := Option.bind_eq_some_iff.1 h2
    split at h3
    · obtain ⟨_, _, h4⟩ := Option.bind_eq_some_iff.1 h3
      rw [← Option.some.inj h4]
    · cases h3
  have hselL : ∀ (f : Nat) {a acc p}, selL ts f a acc = some p → a ≤ p.2 := by
    intro f
    induction f with
    | zero => intro a acc p h; cases h
    | succ f ih =>
      intro a acc p h
      simp only [selL] at h
      obtain ⟨q, h1, h2⟩ := Option.bind_eq_some_iff.1 h
      have := hmat h1
      split at h2
      · have := ih h2; omega
      · rw [← Option.some.inj h2]; simp only; omega
  have hsel : ∀ {a p}, selO ts a = some p → a ≤ p.2 := by
    intro a p h
    unfold selO at h
    obtain ⟨b, h1, h2⟩ := Option.bind_eq_some_iff.1 h
    have := hsign h1
    split at h2
    · rw [← Option.some.inj h2]; simp only; omega
    · obtain ⟨q, h3, h4⟩ := Option.bind_eq_some_iff.1 h2
      have := hselL _ h3
      obtain ⟨c, h5, h6⟩ := Option.map_eq_some_iff.1 h4
      rw [← h6]
      unfold selE at h5
      obtain ⟨d, h7, h8⟩ := Option.bind_eq_some_iff.1 h5
      have := hsign h7
      split at h8
      · rw [← Option.some.inj h8]; simp only; omega
      · cases h8
  have hwin : ∀ {a p}, winO ts a = some p → p.2 = a + 1 := by
    intro a p h
    unfold winO at h
    obtain ⟨_, _, h2⟩ := Option.bind_eq_some_iff.1 h
    obtain ⟨_, _, h3⟩ := Option.bind_eq_some_iff.1 h2
    split at h3
    · rw [← Option.some.inj h3]
    · cases h3
  have hval : ∀ {a p}, valO ts a = some p → a ≤ p.2 := by
    intro a p h
    unfold valO at h
    obtain ⟨_, _, h2⟩ := Option.bind_eq_some_iff.1 h
    split at h2
    · rw [← Option.some.inj h2]; simp only [takO]; split <;> omega
    · cases h2
  unfold cmpO at h
  obtain ⟨b1, h1, h⟩ := Option.bind_eq_some_iff.1 h
  obtain ⟨b2, h2, h⟩ := Option.bind_eq_some_iff.1 h
  obtain ⟨q, h3, h⟩ := Option.bind_eq_some_iff.1 h
  obtain ⟨b3, h4, h⟩ := Option.bind_eq_some_iff.1 h
  obtain ⟨w, h5, h⟩ := Option.bind_eq_some_iff.1 h
  obtain ⟨b4, h6, h⟩ := Option.bind_eq_some_iff.1 h
  obtain ⟨b5, h7, h⟩ := Option.bind_eq_some_iff.1 h
  obtain ⟨b6, h8, h⟩ := Option.bind_eq_some_iff.1 h
  obtain ⟨v, h9, h⟩ := Option.bind_eq_some_iff.1 h
  have := hone h1; have := hsign h2; have := hsel h3; have := hsign h4; have := hwin h5; have := hsign h6; have := hsign h7; have := hone h8; have := hval h9
  rw [← Option.some.inj h]
  simp only
  omega
theorem strO_len {ts : List Tok} : ∀ (f : Nat) {m a l l' b}, strO ts f m a l = some (some (l', b)) → a ≤ b ∧ l.length ≤ l'.length ∧ l'.length + a ≤ l.length + b := by
  intro f
  induction f with
  | zero => intro m a l l' b h; cases h
  | succ f ih =>
    intro m a l l' b h
    simp only [strO] at h
    split at h
    · split at h
      · obtain ⟨r, h1, h2⟩ := Option.map_eq_some_iff.1 h
        obtain ⟨p, rfl, h3⟩ := Option.map_eq_some_iff.1 h2
        have := ih h1
        simp only [Prod.mk.injEq] at h3
        obtain ⟨rfl, rfl⟩ := h3
        simp only [List.length_append, List.length_cons, List.length_nil]
        omega
      · split at h
        · obtain ⟨r, h1, h2⟩ := Option.map_eq_some_iff.1 h
          obtain ⟨p, rfl, h3⟩ := Option.bind_eq_some_iff.1 h2
          obtain ⟨c, h4, h5⟩ := Option.map_eq_some_iff.1 h3
          have := ih h1
          unfold signO at h4
          split at h4
          · simp only [Option.some.injEq] at h4
            simp only [Prod.mk.injEq] at h5
            obtain ⟨rfl, rfl⟩ := h5
            omega
          · cases h4
        · obtain ⟨p, h1, h2⟩ := Option.map_eq_some_iff.1 (Option.some.inj h)
          have := cmpO_lt h1
          simp only [Prod.mk.injEq] at h2
          obtain ⟨rfl, rfl⟩ := h2
          simp only [List.length_append, List.length_cons, List.length_nil]
          omega
    · split at h
      · obtain ⟨r, h1, h2⟩ := Option.bind_eq_some_iff.1 h
        cases r with
        | none => cases h2
        | some p =>
          have := ih h1
          have := ih h2
          omega
      · split at h
        · obtain ⟨r, h1, h2⟩ := Option.bind_eq_some_iff.1 h
          cases r with
          | none => cases h2
          | some p =>
            have := ih h1
            have := ih h2
            simp only [List.length_append, List.length_cons, List.length_nil] at this
            omega
        · simp only [Option.some.injEq, Prod.mk.injEq] at h
          obtain ⟨rfl, rfl⟩ := h
          omega
theorem nael1 : aElem Tryz.prog 27 = some (37, 8, 72) := by kernel_rfl
theorem nael2 : isSeq Tryz.prog 27 = true := by kernel_rfl
theorem Gro.pushT {P : Program} {K : AHeap} {lo z by_ : Nat} {T Ts : TypeId} {v x : Value} {cl : List (List Value)} {c : List Value} (h : Gro K lo z T v cl) (hT : aElem P Ts = some (T, z, by_)) (hsq : isSeq P Ts = true) (hc : c.length = z) (hlo : lo ≤ K.length)
    (hx : aSrc K z x = some (1, c)) (hb : (cl.length + 1) * by_ ≤ 140737488355328) (hn : cl.length + 1 ≤ 9223372036854775807) :
    ∃ v' K', aBuiltin P K .append #[Ts, Ts] [v, x] = some (v', K') ∧ Gro K' lo z T v' (cl ++ [c]) ∧ (∀ b o, b < lo → K[b]? = some o → K'[b]? = some o) ∧ K.length ≤ K'.length ∧ (∀ H, Pre H K → H.length ≤ lo → Pre H K') ∧ (∀ (b : Nat) o, K[b]? = some o → (∀ cs, o ≠ .cells cs T) → K'[b]? = some o) := by
  obtain ⟨v', K', h1, h2, h3, h4, h5⟩ := h.push hT hsq hc hlo hx hb hn
  refine ⟨v', K', h1, h2, h3, h4, h5, fun b o hbo hne => ?_⟩
  cases h with
  | nil =>
    have hb' : by_ ≤ 140737488355328 := by simpa using hb
    simp [aBuiltin, aAppend, hT, hx, hsq, hb', hc] at h1
    rw [← h1.2]; exact get_more hbo
  | mk bb cl g1 g2 g3 g4 =>
    have hfl := flat_len g4
    have e2 : ¬ cl.length + 1 ≤ cl.length := by omega
    simp only [aBuiltin, aAppend, hT, hx, hsq, if_true, g2, hfl, Nat.zero_add, Nat.le_refl, and_self, e2, if_false, hb, hn, Option.some.injEq, Prod.mk.injEq] at h1
    rw [← h1.2, List.getElem?_set_ne (by rintro rfl; rw [hbo] at g2; cases g2; exact hne _ rfl)]
    exact hbo
def NL (K : AHeap) (lo : Nat) (v : Value) (ns : List Nod) : Prop := ∃ cl, Gro K lo 8 37 v cl ∧ cl.length = ns.length ∧ ∀ (i : Nat) n, ns[i]? = some n → ∃ sv, cl[i]? = some ((n : Nod).cells sv) ∧ Gro K lo 3 75 sv (n.sel.map Mat.cells) ∧ n.sel.length ≤ 2 ^ 41
theorem NL.frm {K K' lo v ns} (h : NL K lo v ns) (hf : ∀ (b : Nat) o, lo ≤ b → K[b]? = some o → K'[b]? = some o) : NL K' lo v ns := by
  obtain ⟨cl, h1, h2, h3⟩ := h
  refine ⟨cl, h1.frm hf, h2, fun i n hi => ?_⟩
  obtain ⟨sv, q1, q2, q3⟩ := h3 i n hi
  exact ⟨sv, q1, q2.frm hf, q3⟩
theorem NL.nodes {K lo v ns} (h : NL K lo v ns) : NodesAt K v ns := by
  obtain ⟨cl, h1, h2, h3⟩ := h
  refine ⟨cl, h1.arr, h2, fun i n hi => ?_⟩
  obtain ⟨sv, q1, q2, q3⟩ := h3 i n hi
  exact ⟨sv, q1, q2.arr, by omega⟩
theorem NL.one {K lo v ns} (h : NL K lo v ns) : v.oneCell' = true := by obtain ⟨cl, h1, _⟩ := h; exact h1.one
theorem NL.len {K lo v ns} (h : NL K lo v ns) (J : AHeap) : aLen Tryz.prog J 27 v = some (i64 ns.length) := by
  obtain ⟨cl, h1, h2, _⟩ := h
  rw [← h2]; exact h1.arr.len' (e := 37) (by simp)
abbrev sP (b : Nat) : Value := .pointer (some ⟨b, 0, some 1⟩)
abbrev cndF (rv sb lb : Nat) : Value := .func (.func 67) #[] #[sP rv, sP sb, sP lb]
structure CndS (H K : AHeap) (rb : Nat) (lv : Value) (ts : List Tok) (st : Option Nat) (rv sb lb lo : Nat) (ns : List Nod) : Prop where
  rd : RdS H K rb lv ts st
  cr : K[rv]? = some (.cells [rP rb] 79)
  cs : K[sb]? = some (.cells [cndF rv sb lb] 107)
  cl : ∃ v, K[lb]? = some (.cells [v] 27) ∧ NL K lo v ns
  b0 : rb < rv
  b1 : rv < lb
  b2 : lb < sb
  b3 : sb < lo
  b4 : lo ≤ K.length
  hH : H.length ≤ rb
theorem CndS.adv {H K K1 rb lv ts st st' rv sb lb lo ns} (h : CndS H K rb lv ts st rv sb lb lo ns) (g : Adv H K K1 rb lv ts st') : CndS H K1 rb lv ts st' rv sb lb lo ns := by
  obtain ⟨v, hv1, hv2⟩ := h.cl
  have hb0 := h.b0; have hb1 := h.b1; have hb2 := h.b2; have hb3 := h.b3; have hb4 := h.b4
  exact ⟨g.rd, g.fr _ _ (by omega) h.cr, g.fr _ _ (by omega) h.cs, ⟨v, g.fr _ _ (by omega) hv1, hv2.frm fun b o hb ho => g.fr b o (by omega) ho⟩, hb0, hb1, hb2, hb3, Nat.le_trans hb4 g.len, h.hH⟩
theorem CndS.push {H K rb lv ts st rv sb lb lo ns} (h : CndS H K rb lv ts st rv sb lb lo ns) (n : Nod) (sv : Value) (hsv : Gro K lo 3 75 sv (n.sel.map Mat.cells)) (hsl : n.sel.length ≤ 2 ^ 41) (hns : ns.length + 1 ≤ 2 ^ 30) {v : Value} (hv : K[lb]? = some (.cells [v] 27)) :
    ∃ v' K2, aBuiltin Tryz.prog (K ++ [AObj.cells (n.cells sv) 37]) .append #[27, 27] [v, .slice (some ⟨K.length, 0, some 8⟩) 1 1] = some (v', K2) ∧
      aStore Tryz.prog K2 27 (sP lb) v' = some (K2.set lb (.cells [v'] 27)) ∧ CndS H (K2.set lb (.cells [v'] 27)) rb lv ts st rv sb lb lo (ns ++ [n]) := by
  obtain ⟨v0, hv1, hv2⟩ := h.cl
  rw [hv] at hv1
  cases hv1
  obtain ⟨cl, hg, hcl, hall⟩ := hv2
  have hb0 := h.b0; have hb1 := h.b1; have hb2 := h.b2; have hb3 := h.b3; have hb4 := h.b4; have hH := h.hH
  obtain ⟨v', K2, q1, q2, q3, q4, q5, q6⟩ := Gro.pushT (P := Tryz.prog) (Ts := 27) (by_ := 72) (x := .slice (some ⟨K.length, 0, some 8⟩) 1 1) (c := n.cells sv) (hg.app (X := [AObj.cells (n.cells sv) 37])) nael1 nael2 (by rfl) (by simp; omega) (by simp [aSrc, Nod.cells]) (by omega) (by omega)
  have hcl2 := q3 lb _ (by omega) (get_more hv)
  have hget : ∀ (b : Nat) o, b < lo → b ≠ lb → K[b]? = some o → (K2.set lb (.cells [v'] 27))[b]? = some o := fun b o h1 h2 ho => by
    rw [List.getElem?_set_ne (fun e => h2 e.symm)]; exact q3 _ _ h1 (get_more ho)
  have hmat : ∀ {sv ms}, Gro K lo 3 75 sv ms → Gro (K2.set lb (.cells [v'] 27)) lo 3 75 sv ms := by
    intro sv ms hg
    cases hg with
    | nil => exact .nil
    | mk bb ms h1 h2 h3 h4 => exact .mk bb ms h1 (by rw [List.getElem?_set_ne (by omega)]; exact q6 _ _ (get_more h2) (by simp)) h3 h4
  refine ⟨v', K2, q1, by simp [hcl2, q2.cells, q2.stor], ⟨h.rd.frame ((q5 H (h.rd.pre.more _) (by omega)).set (by omega)) fun o ho => hget _ _ (by omega) (by omega) ho, hget _ _ (by omega) (by omega) h.cr, hget _ _ (by omega) (by omega) h.cs, ⟨v', ?_, cl ++ [n.cells sv], q2.set (by omega), by simp [hcl], ?_⟩, hb0, hb1, hb2, hb3, ?_, hH⟩⟩
  · rw [List.getElem?_set_self (by simp at q4; omega)]
  · intro i m hi
    rcases Nat.lt_or_ge i ns.length with hlt | hge
    · rw [List.getElem?_append_left hlt] at hi
      obtain ⟨sv', e1, e2, e3⟩ := hall i m hi
      exact ⟨sv', by rw [List.getElem?_append_left (by omega)]; exact e1, hmat e2, e3⟩
    · rw [List.getElem?_append_right hge] at hi
      have hi0 : i - ns.length = 0 := by
        have := (List.getElem?_eq_some_iff.1 hi).1; simp at this; omega
      rw [hi0] at hi
      simp at hi
      subst hi
      exact ⟨sv, by rw [List.getElem?_append_right (by omega), hcl, hi0]; rfl, hmat hsv, hsl⟩
  · simp at q4 ⊢; omega
theorem nodLit {K : AHeap} (n : Nod) {sv : Value} (hs : sv.oneCell' = true) : sliceLit Tryz.prog K 27 1 [(0, .agg (n.cells sv).toArray)] (.slice (some ⟨K.length, 0, some 8⟩) 1 1) (K ++ [.cells (n.cells sv) 37]) :=
  sliceLitA (c := n.cells sv) (tbs27 K 1 _) (by rfl) (by simp [Nod.cells, hs]) (by simp)
def OutS (H K' : AHeap) (rb : Nat) (lv : Value) (ts : List Tok) (rv sb lb lo B : Nat) : Option (List Nod × Nat) → Prop
  | some p => CndS H K' rb lv ts (some p.2) rv sb lb lo p.1
  | none => ∃ l', CndS H K' rb lv ts none rv sb lb lo l' ∧ l'.length ≤ B
abbrev CndC (H K : AHeap) (rb : Nat) (lv : Value) (ts : List Tok) (rv sb lb lo B : Nat) (r : Option (List Nod × Nat)) (m : Nat) : Prop :=
  ∃ K', ACalls Tryz.prog 67 [i64 m, sP rv, sP sb, sP lb] K (.tuple #[]) K' ∧ OutS H K' rb lv ts rv sb lb lo B r
abbrev CndL (H K : AHeap) (rb : Nat) (lv : Value) (ts : List Tok) (rv sb lb lo B : Nat) (r : Option (List Nod × Nat)) (k : Nat) : Prop :=
  ∃ K', OutS H K' rb lv ts rv sb lb lo B r ∧ ∀ (kk : Value → AHeap → Prop), kk (.tuple #[]) K' → ∃ n, ∀ (s4 s7 s8 s9 s10 s11 s12 s13 s14 s15 s16 s17 s18 s19 s20 s21 s22 s23 s24 s25 s26 s27 s28 s29 s30 s31 s32 s33 s34 s35 s36 s37 s38 s39 s40 s41 s42 s43 s44 s45 s46 s47 s48 s49 s50 s51 s52 s53 s54 s55 s56 s57 s58 : Value),
    L67x0 n kk [i64 k, sP rv, sP sb, sP lb, s4, str (wordO k), byt (kindK k), s7, s8, s9, s10, s11, s12, s13, s14, s15, s16, s17, s18, s19, s20, s21, s22, s23, s24, s25, s26, s27, s28, s29, s30, s31, s32, s33, s34, s35, s36, s37, s38, s39, s40, s41, s42, s43, s44, s45, s46, s47, s48, s49, s50, s51, s52, s53, s54, s55, s56, s57, s58] K
theorem cndC_of {H K rb lv ts rv sb lb lo B r} {m : Nat} (h : ∃ v K', (v = .tuple #[] ∧ OutS H K' rb lv ts rv sb lb lo B r) ∧ ACalls Tryz.prog 67 [i64 m, sP rv, sP sb, sP lb] K v K') : CndC H K rb lv ts rv sb lb lo B r m := by
  obtain ⟨v, K', ⟨rfl, h⟩, hy⟩ := h
  exact ⟨K', hy, h⟩
theorem str_cmp {H K rb lv ts a rv sb lb lo ns} (hg : Pre Gs H) (hn : NumTok ts) (h : CndS H K rb lv ts (some a) rv sb lb lo ns) (hns : ns.length + 1 ≤ 2 ^ 30) (h1 : isT ts a 1 notS = false) (h2 : isT ts a 4 [40] = false) :
    CndC H K rb lv ts rv sb lb lo (ns.length + (ts.length - a) + 1) ((cmpO ts a).map fun p => (ns ++ [p.1], p.2)) 2 := by
  refine cndC_of ?_
  refine acallsKex MixT Tryz.func67 (by decide) ?_
  rw [d67]
  obtain ⟨v, hv1, hv2⟩ := h.cl
  have hcr : hcells K rv = some [rP rb] := by rw [hcells_eq, h.cr]; rfl
  have hcl : hcells K lb = some [v] := by rw [hcells_eq, hv1]; rfl
  have hrd : RdA H K rb lv ts a true := h.rd
  simp [hcr]
  refine bndC_of (c_takes_n hrd (k := 1) (s := notS) (by simp [h1])) ?_
  simp [hcr]
  refine bndC_of (c_takes_n hrd (k := 4) (s := [40]) (by simp [h2])) ?_
  simp [hcr, hcl]
  obtain ⟨n, sv, K1, g1, g2, g3, g4, g5⟩ := g_comparison hg hn h.rd
  have c1 := h.adv g2
  have hb0 := h.b0; have hb1 := h.b1; have hb4 := h.b4
  have hcl1 : K1[lb]? = some (.cells [v] 27) := g2.fr _ _ (by omega) hv1
  have hcc1 : hcells K1 lb = some [v] := by rw [hcells_eq, hcl1]; rfl
  refine bndK_of g1 ⟨by simp [hcc1], trivial⟩ ?_
  obtain ⟨v', K2, q1, q2, q3⟩ := c1.push n sv (g3.weak hb4) g5 hns hcl1
  refine bndK_ext (nodLit n g3.one) ⟨_, rfl⟩ ?_
  refine bndK_bar q1 ?_
  refine bndK_bar ⟨rfl, q2⟩ ?_
  refine ⟨rfl, ?_⟩
  simp only [Option.bind_some] at q3 g4
  cases hc : cmpO ts a with
  | none => rw [hc] at q3; exact ⟨ns ++ [n], q3, by simp only [List.length_append, List.length_cons, List.length_nil]; omega⟩
  | some p =>
    have e := g4 p hc
    rw [hc] at q3
    subst e
    exact q3
theorem str_neg {H K rb lv ts a rv sb lb lo} {l : List Nod} {r : Option (List Nod × Nat)} (h1 : isT ts a 1 notS = true) (ih : ∀ {K}, CndS H K rb lv ts (some (a + 1)) rv sb lb lo l → CndC H K rb lv ts rv sb lb lo (l.length + (ts.length - (a + 1)) + 1) r 2)
    (h : CndS H K rb lv ts (some a) rv sb lb lo l) (hl : l.length + ts.length ≤ 2 ^ 29 + a) (hr : ∀ p, r = some p → p.1.length + (a + 1) ≤ l.length + p.2) :
    CndC H K rb lv ts rv sb lb lo (l.length + (ts.length - a) + 1) (r.map fun p => (p.1 ++ [opN 3 ((p.1.length : Int) - 1) 0], p.2)) 2 := by
  refine cndC_of ?_
  refine acallsKex MixT Tryz.func67 (by decide) ?_
  rw [d67]
  have hcr : hcells K rv = some [rP rb] := by rw [hcells_eq, h.cr]; rfl
  have hrd : RdA H K rb lv ts a true := h.rd
  simp [hcr]
  refine bndC_of (c_takes_y hrd (k := 1) (s := notS) h1) ?_
  have hlt := isT_lt h1
  have hst := h.adv (.setT hrd (a + 1) (by omega))
  generalize K.set rb (rdo lv (a + 1) true) = K1 at hst ⊢
  have hcs : hcells K1 sb = some [cndF rv sb lb] := by rw [hcells_eq, hst.cs]; rfl
  simp [hcs]
  obtain ⟨K2, g1, g2⟩ := ih hst
  refine bndV_func (by simpa using g1) ?_
  have go : ∀ {st : Option Nat} {l' : List Nod}, CndS H K2 rb lv ts st rv sb lb lo l' → l'.length + 1 ≤ 2 ^ 30 → (∀ K3, CndS H K3 rb lv ts st rv sb lb lo (l' ++ [opN 3 ((l'.length : Int) - 1) 0]) → OutS H K3 rb lv ts rv sb lb lo (l.length + (ts.length - a) + 1) (r.map fun p => (p.1 ++ [opN 3 ((p.1.length : Int) - 1) 0], p.2))) →
      ∀ (q : QH), q = q → True := fun _ _ _ _ _ => trivial
  clear go
  obtain ⟨st, l', hcs2, hlen', hout⟩ : ∃ (st : Option Nat) (l' : List Nod), CndS H K2 rb lv ts st rv sb lb lo l' ∧ l'.length + 1 ≤ 2 ^ 30 ∧ ∀ K3, CndS H K3 rb lv ts st rv sb lb lo (l' ++ [opN 3 ((l'.length : Int) - 1) 0]) → OutS H K3 rb lv ts rv sb lb lo (l.length + (ts.length - a) + 1) (r.map fun p => (p.1 ++ [opN 3 ((p.1.length : Int) - 1) 0], p.2)) := by
    cases r with
    | none =>
      obtain ⟨l', e1, e2⟩ := g2
      exact ⟨none, l', e1, by omega, fun K3 h3 => ⟨_, h3, by simp; omega⟩⟩
    | some p =>
      have g2' : CndS H K2 rb lv ts (some p.2) rv sb lb lo p.1 := g2
      have := hr p rfl
      have := g2'.rd.le
      exact ⟨some p.2, p.1, g2', by omega, fun K3 h3 => h3⟩
  obtain ⟨v, hv1, hv2⟩ := hcs2.cl
  have hcl : hcells K2 lb = some [v] := by rw [hcells_eq, hv1]; rfl
  have hlen := fun J => hv2.len J
  have hw : IntKind.i64.wrap ((l'.length : Int) - 1) = (l'.length : Int) - 1 := wrap_i64 (by omega) (by omega)
  simp [hcl, hlen, hw]
  obtain ⟨v', K3, q1, q2, q3⟩ := hcs2.push (opN 3 ((l'.length : Int) - 1) 0) (.slice none 0 0) .nil (by simp [opN]) hlen' hv1
  refine bndL_lit (nodLit (opN 3 ((l'.length : Int) - 1) 0) rfl) ?_
  dsimp only
  rw [q1]
  simp only [bndE_some, q2, bndS_some]
  exact ⟨by trivial, hout _ q3⟩
theorem str_par {H K rb lv ts a rv sb lb lo} {l : List Nod} {r : Option (List Nod × Nat)} (h0 : isT ts a 1 notS = false) (h1 : isT ts a 4 [40] = true) (ih : ∀ {K}, CndS H K rb lv ts (some (a + 1)) rv sb lb lo l → CndC H K rb lv ts rv sb lb lo (l.length + (ts.length - (a + 1)) + 1) r 0)
    (h : CndS H K rb lv ts (some a) rv sb lb lo l) (hr : ∀ p, r = some p → p.1.length + (a + 1) ≤ l.length + p.2) :
    CndC H K rb lv ts rv sb lb lo (l.length + (ts.length - a) + 1) (r.bind fun p => (signO ts [41] p.2).map fun c => (p.1, c)) 2 := by
  refine cndC_of ?_
  refine acallsKex MixT Tryz.func67 (by decide) ?_
  rw [d67]
  have hcr : hcells K rv = some [rP rb] := by rw [hcells_eq, h.cr]; rfl
  have hrd : RdA H K rb lv ts a true := h.rd
  simp [hcr]
  refine bndC_of (c_takes_n hrd (k := 1) (s := notS) (by simp [h0])) ?_
  simp [hcr]
  refine bndC_of (c_takes_y hrd (k := 4) (s := [40]) h1) ?_
  have hlt := isT_lt h1
  have hst := h.adv (.setT hrd (a + 1) (by omega))
  generalize K.set rb (rdo lv (a + 1) true) = K1 at hst ⊢
  have hcs : hcells K1 sb = some [cndF rv sb lb] := by rw [hcells_eq, hst.cs]; rfl
  simp [hcs]
  obtain ⟨K2, g1, g2⟩ := ih hst
  refine bndV_func (by simpa using g1) ?_
  cases r with
  | none =>
    obtain ⟨l', e1, e2⟩ := g2
    have hcr2 : hcells K2 rv = some [rP rb] := by rw [hcells_eq, e1.cr]; rfl
    simp [hcr2]
    obtain ⟨K3, s1, s2⟩ := g_sign e1.rd [41]
    exact bndC_of s1 ⟨rfl, l', e1.adv s2, by omega⟩
  | some p =>
    have g2' : CndS H K2 rb lv ts (some p.2) rv sb lb lo p.1 := g2
    have hcr2 : hcells K2 rv = some [rP rb] := by rw [hcells_eq, g2'.cr]; rfl
    simp [hcr2]
    obtain ⟨K3, s1, s2⟩ := g_sign g2'.rd [41]
    have c3 := g2'.adv s2
    have := hr p rfl
    have := g2'.rd.le
    refine bndC_of s1 ⟨rfl, ?_⟩
    simp only [Option.bind_some] at c3 ⊢
    cases hs : signO ts [41] p.2 with
    | none => rw [hs] at c3; exact ⟨p.1, c3, by omega⟩
    | some c => rw [hs] at c3; exact c3
theorem str_done {H K rb lv ts st rv sb lb lo B} {l : List Nod} {k : Nat} {r : Option (List Nod × Nat)} (h1 : (st.any fun b => isT ts b 1 (wordO k)) = false) (h : CndS H K rb lv ts st rv sb lb lo l) (hout : OutS H K rb lv ts rv sb lb lo B r) : CndL H K rb lv ts rv sb lb lo B r k := by
  refine ⟨K, hout, fun kk hk => ⟨1, ?_⟩⟩
  intro s4 s7 s8 s9 s10 s11 s12 s13 s14 s15 s16 s17 s18 s19 s20 s21 s22 s23 s24 s25 s26 s27 s28 s29 s30 s31 s32 s33 s34 s35 s36 s37 s38 s39 s40 s41 s42 s43 s44 s45 s46 s47 s48 s49 s50 s51 s52 s53 s54 s55 s56 s57 s58
  rw [L67x0q]
  have hcr : hcells K rv = some [rP rb] := by rw [hcells_eq, h.cr]; rfl
  simp [hcr]
  have hcall : ACalls Tryz.prog 68 [rP rb, .int .u8 1, str (wordO k)] K (.bool false) K := by
    have hrd := h.rd
    cases st with
    | none => obtain ⟨a, hrd⟩ := hrd; exact c_takes_n hrd rfl
    | some b => exact c_takes_n (ok := true) hrd (by simpa using h1)
  refine bndC_of hcall ?_
  simp
  exact hk
theorem str_more {H K rb lv ts b rv sb lb lo} {l : List Nod} {r r' : Option (List Nod × Nat)} {k : Nat} (hk2 : k < 2) (h1 : isT ts b 1 (wordO k) = true)
    (ih1 : ∀ {K}, CndS H K rb lv ts (some (b + 1)) rv sb lb lo l → CndC H K rb lv ts rv sb lb lo (l.length + (ts.length - (b + 1)) + 1) r (k + 1)) (hl : l.length + ts.length ≤ 2 ^ 29 + b) (hr : ∀ p, r = some p → p.1.length + (b + 1) ≤ l.length + p.2)
    (hr0 : r = none → r' = none)
    (ih2 : ∀ p, r = some p → ∀ {K}, CndS H K rb lv ts (some p.2) rv sb lb lo (p.1 ++ [opN (kindK k) ((l.length : Int) - 1) ((p.1.length : Int) - 1)]) → CndL H K rb lv ts rv sb lb lo (l.length + (ts.length - b) + 1) r' k)
    (h : CndS H K rb lv ts (some b) rv sb lb lo l) : CndL H K rb lv ts rv sb lb lo (l.length + (ts.length - b) + 1) r' k := by
  have hlt := isT_lt h1
  have hrd : RdA H K rb lv ts b true := h.rd
  have hst := h.adv (.setT hrd (b + 1) (by omega))
  generalize hK1 : K.set rb (rdo lv (b + 1) true) = K1 at hst
  obtain ⟨K2, g1, g2⟩ := ih1 hst
  obtain ⟨st, l', hcs2, hlen', hnext⟩ : ∃ (st : Option Nat) (l' : List Nod), CndS H K2 rb lv ts st rv sb lb lo l' ∧ l'.length + 1 ≤ 2 ^ 30 ∧ ∀ K3, CndS H K3 rb lv ts st rv sb lb lo (l' ++ [opN (kindK k) ((l.length : Int) - 1) ((l'.length : Int) - 1)]) → CndL H K3 rb lv ts rv sb lb lo (l.length + (ts.length - b) + 1) r' k := by
    cases r with
    | none =>
      obtain ⟨l', e1, e2⟩ := g2
      refine ⟨none, l', e1, by omega, fun K3 h3 => str_done rfl h3 ?_⟩
      rw [hr0 rfl]
      exact ⟨_, h3, by simp only [List.length_append, List.length_cons, List.length_nil]; omega⟩
    | some p =>
      have g2' : CndS H K2 rb lv ts (some p.2) rv sb lb lo p.1 := g2
      have := hr p rfl
      have := g2'.rd.le
      exact ⟨some p.2, p.1, g2', by omega, fun K3 h3 => ih2 p rfl h3⟩
  obtain ⟨v, hv1, hv2⟩ := hcs2.cl
  obtain ⟨v', K3, q1, q2, q3⟩ := hcs2.push (opN (kindK k) ((l.length : Int) - 1) ((l'.length : Int) - 1)) (.slice none 0 0) .nil (by simp [opN]) hlen' hv1
  obtain ⟨K4, r1, r2⟩ := hnext _ q3
  refine ⟨K4, r1, fun kk hk => ?_⟩
  obtain ⟨n, hn⟩ := r2 kk hk
  refine ⟨n + 1, ?_⟩
  intro s4 s7 s8 s9 s10 s11 s12 s13 s14 s15 s16 s17 s18 s19 s20 s21 s22 s23 s24 s25 s26 s27 s28 s29 s30 s31 s32 s33 s34 s35 s36 s37 s38 s39 s40 s41 s42 s43 s44 s45 s46 s47 s48 s49 s50 s51 s52 s53 s54 s55 s56 s57 s58
  rw [L67x0q]
  have hcr : hcells K rv = some [rP rb] := by rw [hcells_eq, h.cr]; rfl
  simp [hcr]
  refine bndC_of (c_takes_y hrd h1) ?_
  rw [hK1]
  obtain ⟨v0, hu1, hu2⟩ := hst.cl
  have hcl0 : hcells K1 lb = some [v0] := by rw [hcells_eq, hu1]; rfl
  have hlen0 := fun J => hu2.len J
  have hcs : hcells K1 sb = some [cndF rv sb lb] := by rw [hcells_eq, hst.cs]; rfl
  have hw0 : IntKind.i64.wrap ((l.length : Int) - 1) = (l.length : Int) - 1 := wrap_i64 (by omega) (by omega)
  have hwk : IntKind.i64.wrap ((k : Int) + 1) = (k : Int) + 1 := wrap_i64 (by omega) (by omega)
  simp [hcl0, hlen0, hw0, hcs, hwk]
  refine bndV_func (by simpa using g1) ?_
  have hcl : hcells K2 lb = some [v] := by rw [hcells_eq, hv1]; rfl
  have hlen := fun J => hv2.len J
  have hw : IntKind.i64.wrap ((l'.length : Int) - 1) = (l'.length : Int) - 1 := wrap_i64 (by omega) (by omega)
  simp [hcl, hlen, hw]
  have hlit := nodLit (K := K2) (opN (kindK k) ((l.length : Int) - 1) ((l'.length : Int) - 1)) (sv := .slice none 0 0) rfl
  have hnod : (opN (kindK k) ((l.length : Int) - 1) ((l'.length : Int) - 1)).cells (.slice none 0 0) = [byt (kindK k), .int .u8 0, .slice none 0 0, i64 0, .int .u8 0, i64 0, i64 ((l.length : Int) - 1), i64 ((l'.length : Int) - 1)] := rfl
  rw [hnod] at hlit q1
  refine bndL_lit hlit ?_
  dsimp only
  rw [q1]
  simp only [bndE_some, q2, bndS_some]
  exact hn _ _ _ _ _ _ _ _ _ _ _ _ _ _ _ _ _ _ _ _ _ _ _ _ _ _ _ _ _ _ _ _ _ _ _ _ _ _ _ _ _ _ _ _ _ _ _ _ _ _ _ _ _
theorem g_str {H rb lv ts rv sb lb lo} (hg : Pre Gs H) (hnt : NumTok ts) : ∀ (f m a : Nat) (l : List Nod) (r : Option (List Nod × Nat)), strO ts f m a l = some r → l.length + ts.length ≤ 2 ^ 29 + a → ∀ {K}, CndS H K rb lv ts (some a) rv sb lb lo l →
    (m ≤ 2 → CndC H K rb lv ts rv sb lb lo (l.length + (ts.length - a) + 1) r m) ∧ (∀ k, m = k + 10 → k < 2 → CndL H K rb lv ts rv sb lb lo (l.length + (ts.length - a) + 1) r k) := by
  intro f
  induction f with
  | zero => intro m a l r h; cases h
  | succ f ih =>
    intro m a l r hs hl K h
    have hale := h.rd.le
    have hbnd : ∀ {m a l r}, strO ts f m a l = some r → ∀ p, r = some p → p.1.length + a ≤ l.length + p.2 := fun h p hp => by subst hp; have := strO_len f h; omega
    have hmon : ∀ {m a l r}, strO ts f m a l = some r → ∀ p, r = some p → a ≤ p.2 ∧ l.length ≤ p.1.length := fun h p hp => by subst hp; have := strO_len f h; omega
    simp only [strO] at hs
    split at hs
    · rename_i hm2
      subst hm2
      refine ⟨fun _ => ?_, fun k hk => by omega⟩
      split at hs
      · rename_i hnot
        obtain ⟨r1, e1, rfl⟩ := Option.map_eq_some_iff.1 hs
        exact str_neg hnot (fun {K} hK => (ih _ _ _ _ e1 (by omega) hK).1 (by omega)) h hl (hbnd e1)
      · rename_i hnot
        have hnot : isT ts a 1 notS = false := by simpa using hnot
        split at hs
        · rename_i hpar
          obtain ⟨r1, e1, rfl⟩ := Option.map_eq_some_iff.1 hs
          exact str_par hnot hpar (fun {K} hK => (ih _ _ _ _ e1 (by omega) hK).1 (by omega)) h (hbnd e1)
        · rename_i hpar
          rw [← Option.some.inj hs]
          exact str_cmp hg hnt h (by omega) hnot (by simpa using hpar)
    · rename_i hm2
      split at hs
      · rename_i hm
        refine ⟨fun _ => ?_, fun k hk => by omega⟩
        obtain ⟨r1, e1, e2⟩ := Option.bind_eq_some_iff.1 hs
        obtain ⟨K1, g1, g2⟩ := (ih _ _ _ _ e1 hl h).1 (by omega)
        have hloop : CndL H K1 rb lv ts rv sb lb lo (l.length + (ts.length - a) + 1) r m := by
          cases r1 with
          | none =>
            obtain ⟨l', c1, c2⟩ := g2
            rw [← Option.some.inj e2]
            exact str_done rfl c1 ⟨l', c1, c2⟩
          | some p =>
            have g2' : CndS H K1 rb lv ts (some p.2) rv sb lb lo p.1 := g2
            have b1 := hbnd e1 p rfl
            have b2 := hmon e1 p rfl
            have hp2 := g2'.rd.le
            obtain ⟨K2, c1, c2⟩ := (ih _ _ _ _ e2 (by omega) g2').2 m rfl hm
            refine ⟨K2, ?_, c2⟩
            cases r with
            | none => obtain ⟨l', d1, d2⟩ := c1; exact ⟨l', d1, by omega⟩
            | some q => exact c1
        refine cndC_of ?_
        refine acallsKex MixT Tryz.func67 (by decide) ?_
        rw [d67]
        have hcs : hcells K sb = some [cndF rv sb lb] := by rw [hcells_eq, h.cs]; rfl
        have hwk : IntKind.i64.wrap ((m : Int) + 1) = (m : Int) + 1 := wrap_i64 (by omega) (by omega)
        obtain ⟨K2, r1', r2⟩ := hloop
        obtain ⟨n, hn⟩ := r2 (fun v K' => v = .tuple #[] ∧ OutS H K' rb lv ts rv sb lb lo (l.length + (ts.length - a) + 1) r) ⟨rfl, r1'⟩
        have h2 : ((m : Int) == 2) = false := by simp; omega
        simp [h2]
        have fin : ∀ (s4 s7 s8 s9 s10 s11 s12 s13 s14 s15 s16 s17 s18 s19 s20 s21 s22 s23 s24 s25 s26 s27 s28 s29 s30 s31 s32 s33 s34 s35 s36 s37 s38 s39 s40 s41 s42 s43 s44 s45 s46 s47 s48 s49 s50 s51 s52 s53 s54 s55 s56 s57 s58 : Value), S67x0 (fun v K' => v = .tuple #[] ∧ OutS H K' rb lv ts rv sb lb lo (l.length + (ts.length - a) + 1) r) [i64 m, sP rv, sP sb, sP lb, s4, str (wordO m), byt (kindK m), s7, s8, s9, s10, s11, s12, s13, s14, s15, s16, s17, s18, s19, s20, s21, s22, s23, s24, s25, s26, s27, s28, s29, s30, s31, s32, s33, s34, s35, s36, s37, s38, s39, s40, s41, s42, s43, s44, s45, s46, s47, s48, s49, s50, s51, s52, s53, s54, s55, s56, s57, s58] K := by
          intro s4 s7 s8 s9 s10 s11 s12 s13 s14 s15 s16 s17 s18 s19 s20 s21 s22 s23 s24 s25 s26 s27 s28 s29 s30 s31 s32 s33 s34 s35 s36 s37 s38 s39 s40 s41 s42 s43 s44 s45 s46 s47 s48 s49 s50 s51 s52 s53 s54 s55 s56 s57 s58
          rw [S67x0q]
          simp [hcs, hwk]
          refine bndV_func (by simpa using g1) ?_
          exact ⟨n, hn _ _ _ _ _ _ _ _ _ _ _ _ _ _ _ _ _ _ _ _ _ _ _ _ _ _ _ _ _ _ _ _ _ _ _ _ _ _ _ _ _ _ _ _ _ _ _ _ _ _ _ _ _⟩
        refine kifB_bool (fun hq => ?_) (fun hq => ?_)
        · obtain rfl : m = 1 := by simp at hq; omega
          exact fin _ _ _ _ _ _ _ _ _ _ _ _ _ _ _ _ _ _ _ _ _ _ _ _ _ _ _ _ _ _ _ _ _ _ _ _ _ _ _ _ _ _ _ _ _ _ _ _ _ _ _ _ _
        · obtain rfl : m = 0 := by simp at hq; omega
          exact fin _ _ _ _ _ _ _ _ _ _ _ _ _ _ _ _ _ _ _ _ _ _ _ _ _ _ _ _ _ _ _ _ _ _ _ _ _ _ _ _ _ _ _ _ _ _ _ _ _ _ _ _ _
      · rename_i hm
        refine ⟨fun _ => by omega, fun k hk hk2 => ?_⟩
        subst hk
        rw [Nat.add_sub_cancel] at hs
        split at hs
        · rename_i hw
          obtain ⟨r1, e1, e2⟩ := Option.bind_eq_some_iff.1 hs
          have hlt := isT_lt hw
          refine str_more hk2 hw (fun {K} hK => (ih _ _ _ _ e1 (by omega) hK).1 (by omega)) hl (hbnd e1) (fun e => by subst e; exact (Option.some.inj e2).symm) (fun p hp {K'} hK' => ?_) h
          subst hp
          have b1 := hbnd e1 p rfl
          have b2 := hmon e1 p rfl
          have hp2 := hK'.rd.le
          obtain ⟨K2, c1, c2⟩ := (ih _ _ _ _ e2 (by simp only [List.length_append, List.length_cons, List.length_nil]; omega) hK').2 k rfl hk2
          refine ⟨K2, ?_, c2⟩
          cases r with
          | none => obtain ⟨l', d1, d2⟩ := c1; exact ⟨l', d1, by simp only [List.length_append, List.length_cons, List.length_nil] at d2; omega⟩
          | some q => exact c1
        · rename_i hw
          rw [← Option.some.inj hs]
          exact str_done (by simpa using hw) h h
end Go.Vi
namespace Go.Vi
open Go Go.Proofs

theorem strO_tot {ts : List Tok} : ∀ (f m a : Nat) (l : List Nod), (m ≤ 2 ∨ m = 10 ∨ m = 11) → 4 * (ts.length - a) + (if m ≤ 2 then 3 - m else 1) ≤ f → ∃ r, strO ts f m a l = some r := by
  intro f
  induction f with
  | zero => intro m a l hm h; split at h <;> omega
  | succ f ih =>
    intro m a l hm h
    simp only [strO]
    split
    · rename_i h2
      subst h2
      rw [if_pos (by omega)] at h
      split
      · rename_i hT
        have := isT_lt hT
        obtain ⟨r, hr⟩ := ih 2 (a + 1) l (by omega) (by simp; omega)
        exact ⟨_, by rw [hr]; rfl⟩
      · split
        · rename_i hT
          have := isT_lt hT
          obtain ⟨r, hr⟩ := ih 0 (a + 1) l (by omega) (by simp; omega)
          exact ⟨_, by rw [hr]; rfl⟩
        · exact ⟨_, rfl⟩
    · split
      · rename_i hm2
        rw [if_pos (by omega)] at h
        obtain ⟨r, hr⟩ := ih (m + 1) a l (by omega) (by rw [if_pos (by omega)]; omega)
        rw [hr]
        cases r with
        | none => exact ⟨none, rfl⟩
        | some p =>
          have := strO_len f hr
          exact ih (m + 10) p.2 p.1 (by omega) (by rw [if_neg (by omega)]; omega)
      · split
        · rename_i hT
          have := isT_lt hT
          rw [if_neg (by omega)] at h
          obtain ⟨r, hr⟩ := ih (m - 10 + 1) (a + 1) l (by omega) (by rw [if_pos (by omega)]; omega)
          rw [hr]
          cases r with
          | none => exact ⟨none, rfl⟩
          | some p =>
            have := strO_len f hr
            exact ih m p.2 _ hm (by rw [if_neg (by omega)]; omega)
        · exact ⟨_, rfl⟩
def conO (ts : List Tok) (a : Nat) : Option (List Nod × Nat) := (strO ts (4 * ts.length + 3) 0 a []).getD none
theorem conO_str (ts : List Tok) (a : Nat) : strO ts (4 * ts.length + 3) 0 a [] = some (conO ts a) := by
  obtain ⟨r, hr⟩ := strO_tot (ts := ts) (4 * ts.length + 3) 0 a [] (by omega) (by simp; omega)
  unfold conO
  rw [hr]; rfl
theorem g_condition {H K rb lv ts a} (hg : Pre Gs H) (hn : NumTok ts) (htl : ts.length ≤ 2 ^ 20) (h : RdS H K rb lv ts (some a)) :
    ∃ v K', ACalls Tryz.prog 40 [rP rb] K v K' ∧ RdS H K' rb lv ts ((conO ts a).map (·.2)) ∧ ∃ ns, NL K' (K.length + 3) v ns ∧ ns.length ≤ 2 ^ 21 ∧ ∀ p, conO ts a = some p → p.1 = ns := by
  have key : ∃ v K', (RdS H K' rb lv ts ((conO ts a).map (·.2)) ∧ ∃ ns, NL K' (K.length + 3) v ns ∧ ns.length ≤ 2 ^ 21 ∧ ∀ p, conO ts a = some p → p.1 = ns) ∧ ACalls Tryz.prog 40 [rP rb] K v K' := by
    refine acalls_ex MixT Tryz.func40 (by decide) ?_
    rw [d40]
    have hrb := h.lt
    have hrd : RdA H K rb lv ts a true := h
    have st : CndS H (K ++ [AObj.cells [rP rb] 79, AObj.cells [.slice none 0 0] 27, AObj.cells [cndF K.length (K.length + 2) (K.length + 1)] 107]) rb lv ts (some a) K.length (K.length + 2) (K.length + 1) (K.length + 3) [] :=
      ⟨h.app _, by simp, by simp, ⟨.slice none 0 0, by simp, [], .nil, rfl, by simp⟩, hrb, by omega, by omega, by omega, by simp, hrd.hb⟩
    obtain ⟨K1, g1, g2⟩ := (g_str hg hn _ 0 a [] _ (conO_str ts a) (by simp; omega) st).1 (by omega)
    simp [aNew]
    refine bndV_func (by simpa using g1) ?_
    have hle := h.le
    obtain ⟨st', ns, c1, c2, c3, c4⟩ : ∃ (st' : Option Nat) (ns : List Nod), CndS H K1 rb lv ts st' K.length (K.length + 2) (K.length + 1) (K.length + 3) ns ∧ st' = (conO ts a).map (·.2) ∧ ns.length ≤ 2 ^ 21 ∧ ∀ p, conO ts a = some p → p.1 = ns := by
      have hlen := fun l' b (hq : conO ts a = some (l', b)) => strO_len (ts := ts) (4 * ts.length + 3) (m := 0) (a := a) (l := []) (l' := l') (b := b) (by rw [conO_str, hq])
      cases hc : conO ts a with
      | none => rw [hc] at g2; obtain ⟨l', e1, e2⟩ := g2; exact ⟨none, l', e1, rfl, by simp at e2; omega, by simp⟩
      | some p =>
        rw [hc] at g2
        have g2' : CndS H K1 rb lv ts (some p.2) K.length (K.length + 2) (K.length + 1) (K.length + 3) p.1 := g2
        have q1 := hlen p.1 p.2 hc
        have q2 := g2'.rd.le
        simp only [List.length_nil] at q1
        exact ⟨some p.2, p.1, g2', rfl, by omega, fun q hq => by cases hq; rfl⟩
    obtain ⟨v, hv1, hv2⟩ := c1.cl
    have hcl : hcells K1 (K.length + 1) = some [v] := by rw [hcells_eq, hv1]; rfl
    simp [hcl]
    refine ⟨by rw [← c2]; exact c1.rd, ns, hv2, c3, fun l b hq => c4 (l, b) hq⟩
  obtain ⟨v, K', h, hy⟩ := key
  exact ⟨v, K', hy, h⟩
theorem arr_cell {H z v l} (h : Arr H z v l) : v.cells = #[v] ∧ storable v = true := by cases h <;> exact ⟨rfl, rfl⟩
def readF (ts : List Tok) (at' : Int) : List Nod × Int × Int := if at' < 0 ∨ at' ≥ ts.length then ([], 0, 100) else match conO ts at'.toNat with
  | none => ([], 0, 100)
  | some p => if (p.1.length : Int) > 31 then ([], 0, 4) else (p.1, p.2, 0)
theorem NodesAt.nil {H : AHeap} : NodesAt H (.slice none 0 0) [] := ⟨[], .nil, rfl, fun i n h => by simp at h⟩
theorem g_read {H lv ts} {at' : Int} (hg : Pre Gs H) (hn : NumTok ts) (htl : ts.length ≤ 2 ^ 20) (hts : ToksAt H lv ts) :
    ∃ v K', ACalls Tryz.prog 18 [lv, i64 at'] H (.tuple #[v, i64 (readF ts at').2.1, i64 (readF ts at').2.2]) K' ∧ Pre H K' ∧ NodesAt K' v (readF ts at').1 ∧ ((readF ts at').2.2 ≠ 0 → v = .slice none 0 0) := by
  have key : ∃ v K', (∃ u, v = .tuple #[u, i64 (readF ts at').2.1, i64 (readF ts at').2.2] ∧ Pre H K' ∧ NodesAt K' u (readF ts at').1 ∧ ((readF ts at').2.2 ≠ 0 → u = .slice none 0 0)) ∧ ACalls Tryz.prog 18 [lv, i64 at'] H v K' := by
    refine acalls_ex MixT Tryz.func18 (by decide) ?_
    rw [d18]
    have hl0 := hts.len (P := Tryz.prog) (T := 23) (e := 70) (by simp)
    simp at hl0
    by_cases h0 : at' < 0
    · simp [h0, readF]
      exact ⟨.refl _, .nil⟩
    by_cases h1 : at' ≥ ts.length
    · have h1' : (ts.length : Int) ≤ at' := h1
      simp [h0, hl0, h1', readF]
      exact ⟨.refl _, .nil⟩
    have h1' : ¬ (ts.length : Int) ≤ at' := h1
    have hat : ((at'.toNat : Nat) : Int) = at' := by omega
    have hrd : RdA H (H ++ [rdo lv at'.toNat true]) H.length lv ts at'.toNat true := ⟨hts, .app _ _, Nat.le_refl _, by simp, by omega, by omega⟩
    obtain ⟨v, K1, g1, g2, ns, g3, g4, g5⟩ := g_condition hg hn htl (a := at'.toNat) hrd
    have hb1 := Arr.one hts
    obtain ⟨hb2, hb3⟩ := arr_cell hts
    simp only [rdo, hat] at g1
    simp [h0, hl0, h1', aNew, hb1, hb2, hb3]
    refine bndC_of g1 ?_
    have hpre := g2.pre
    obtain ⟨a1, c1, c2, c3, _⟩ := RdS.cells g2
    have hcc : hcells K1 H.length = some [lv, i64 a1, .bool ((conO ts at'.toNat).map (·.2)).isSome] := by rw [hcells_eq, c1]; rfl
    have hll : Vi.hlen K1 H.length = some 3 := by unfold Vi.hlen; rw [c1]; rfl
    have hnl := g3.len K1
    have hcond : ¬ (at' < 0 ∨ at' ≥ ts.length) := by omega
    unfold readF
    rw [if_neg hcond]
    cases hc : conO ts at'.toNat with
    | none =>
      rw [hc] at hcc
      simp [hcc, hll]
      exact ⟨hpre, .nil⟩
    | some p =>
      rw [hc] at hcc c3
      have e := g5 p hc
      subst e
      have ea := c3 p.2 rfl
      subst ea
      by_cases h31 : (p.1.length : Int) > 31
      · have h31' : (31 : Int) < p.1.length := by omega
        simp [hcc, hll, hnl, h31']
        exact ⟨hpre, .nil⟩
      · have h31' : ¬ (31 : Int) < p.1.length := by omega
        simp [hcc, hll, hnl, h31']
        exact ⟨hpre, g3.nodes⟩
  obtain ⟨v, K', ⟨u, rfl, h1, h2⟩, hy⟩ := key
  exact ⟨u, K', hy, h1, h2⟩
theorem textF_acc : ∀ (f : Nat) (r acc : List UInt8) (c : Nat), r.length ≤ f → (textF r acc c).1.length ≤ acc.length + r.length := by
  intro f
  induction f with
  | zero => intro r acc c h; have : r = [] := List.eq_nil_of_length_eq_zero (by omega); subst this; simp [textF]
  | succ f ih =>
    intro r acc c h
    cases r with
    | nil => simp [textF]
    | cons b r =>
      rw [textF_cons]
      simp at h
      split
      · split
        · simp
        · split
          · cases r with
            | nil => simp
            | cons e r =>
              simp only
              split
              · have := ih r (acc ++ [e]) (c + 2) (by simp at h; omega); simp at this ⊢; omega
              · simp
          · have := ih r (acc ++ [b]) (c + 1) (by omega); simp at this ⊢; omega
      · simp
theorem mem_takeWhile {p : UInt8 → Bool} : ∀ {s : List UInt8} {b : UInt8}, b ∈ s.takeWhile p → p b = true := by
  intro s
  induction s with
  | nil => intro b h; simp at h
  | cons x r ih =>
    intro b h
    rw [List.takeWhile_cons] at h
    split at h
    · rcases List.mem_cons.1 h with rfl | h
      · assumption
      · exact ih h
    · simp at h
theorem runF_take (p : UInt8 → Bool) (s : List UInt8) : s.take (runF p s) = s.takeWhile p := by
  unfold runF
  exact (List.prefix_iff_eq_take.1 (List.takeWhile_prefix p)).symm
theorem numLen_mem (s : List UInt8) : ∀ b ∈ s.take (numLen s), isDig b = true ∨ b = 46 := by
  intro b hb
  unfold numLen at hb
  split at hb
  · rename_i h
    simp only [Bool.and_eq_true, Option.any_eq_true, beq_iff_eq] at h
    obtain ⟨⟨e, he, h46⟩, _⟩ := h
    rw [List.take_add] at hb
    rcases List.mem_append.1 hb with hb | hb
    · rw [runF_take] at hb; exact .inl (mem_takeWhile hb)
    · have hd : s.drop (runF isDig s) = e :: s.drop (runF isDig s + 1) := by
        have hlt := (List.getElem?_eq_some_iff.1 he).1
        rw [List.drop_eq_getElem_cons hlt, (List.getElem?_eq_some_iff.1 he).2]
      rw [hd, Nat.add_comm 1, List.take_succ_cons, runF_take] at hb
      rcases List.mem_cons.1 hb with rfl | hb
      · right
        have : b.toNat = (46 : UInt8).toNat := by have : (46 : UInt8).toNat = 46 := rfl; omega
        exact UInt8.toNat_inj.1 this
      · exact .inl (mem_takeWhile hb)
  · rw [runF_take] at hb; exact .inl (mem_takeWhile hb)
theorem oneF_num {s : List UInt8} {a : Nat} (hs : s.length ≤ 4096) : (oneF s a).1.text.length < 2 ^ 20 ∧ ((oneF s a).1.kind = 2 → (∀ b ∈ (oneF s a).1.text, isDig b = true ∨ b = 46) ∧ ∀ b r, (oneF s a).1.text = b :: r → isDig b = true) := by
  cases s with
  | nil => simp [oneF]
  | cons b r =>
    simp only [oneF]
    simp only [List.length_cons] at hs
    split
    · exact ⟨by simp only [List.length_take, List.length_cons]; omega, fun h => by cases h⟩
    · split
      · rename_i hd
        refine ⟨by simp only [List.length_take, List.length_cons]; omega, fun _ => ⟨numLen_mem _, fun c q hq => ?_⟩⟩
        cases hn : numLen (b :: r) with
        | zero => rw [hn] at hq; simp at hq
        | succ n => rw [hn, List.take_succ_cons] at hq; cases hq; exact hd
      · split
        · have := textF_acc r.length r [] 1 (Nat.le_refl _)
          exact ⟨by simp at this ⊢; omega, fun h => by cases h⟩
        · exact ⟨by simp only [List.length_take, List.length_cons]; omega, fun h => by cases h⟩
theorem lexF_mem (l : List UInt8) (hl : l.length ≤ 4096) : ∀ (f a : Nat), ∀ t ∈ (lexF l f a).1, t.text.length < 2 ^ 20 ∧ (t.kind = 2 → (∀ b ∈ t.text, isDig b = true ∨ b = 46) ∧ ∀ b r, t.text = b :: r → isDig b = true) := by
  intro f
  induction f with
  | zero => intro a t h; simp [lexF] at h
  | succ f ih =>
    intro a t h
    simp only [lexF] at h
    split at h
    · split at h
      · simp at h
      · rcases List.mem_cons.1 h with rfl | h
        · exact oneF_num (by simp; omega)
        · exact ih _ t h
    · simp at h
theorem lexF_len (l : List UInt8) : ∀ (f a : Nat), (lexF l f a).1.length ≤ f := by
  intro f
  induction f with
  | zero => intro a; simp [lexF]
  | succ f ih =>
    intro a
    simp only [lexF]
    split
    · split
      · simp
      · have := ih (skipN l (a + (oneF (l.drop a) a).2)); simp; omega
    · simp
theorem allTok_ok {l : List UInt8} : NumTok (allTok l).1 ∧ (allTok l).1.length ≤ 4097 := by
  unfold allTok
  split
  · exact ⟨fun a t h => by simp at h, by simp⟩
  · split
    · refine ⟨fun a t h => ?_, ?_⟩
      · exact lexF_mem l (by omega) _ _ t (List.mem_of_getElem? h)
      · have := lexF_len l (l.length + 1) (skipN l 0); simp only; omega
    · exact ⟨fun a t h => by simp at h, by simp⟩
def parseF (s : List UInt8) : List Nod × Int := if (allTok s).2.2 ≠ 0 then ([], (allTok s).2.2) else match conO (allTok s).1 0 with
  | none => ([], 100)
  | some p => if p.2 ≠ (allTok s).1.length then ([], 100) else if (p.1.length : Int) > 31 then ([], 4) else (p.1, 0)
theorem conO_nil : conO [] 0 = none := by kernel_rfl
theorem g_parse {H : AHeap} {s : List UInt8} (hg : Pre Gs H) :
    ∃ v K', ACalls Tryz.prog 17 [str s] H (.tuple #[v, i64 (parseF s).2]) K' ∧ Pre H K' ∧ NodesAt K' v (parseF s).1 := by
  have key : ∃ v K', (∃ u, v = .tuple #[u, i64 (parseF s).2] ∧ Pre H K' ∧ NodesAt K' u (parseF s).1) ∧ ACalls Tryz.prog 17 [str s] H v K' := by
    refine acalls_ex MixT Tryz.func17 (by decide) ?_
    rw [d17]
    obtain ⟨v, K1, ⟨lv, rfl, g1, g2⟩, g3⟩ := c_lexAll H s
    refine bndC_of g3 ?_
    obtain ⟨hn, hlen⟩ := allTok_ok (l := s)
    by_cases he : (allTok s).2.2 = 0
    · have hp : parseF s = match conO (allTok s).1 0 with
          | none => ([], 100)
          | some p => if p.2 ≠ (allTok s).1.length then ([], 100) else if (p.1.length : Int) > 31 then ([], 4) else (p.1, 0) := by unfold parseF; rw [if_neg (by simpa using he)]
      obtain ⟨u, K2, q1, q2, q3, q4⟩ := g_read (at' := 0) (hg.trans g1) hn (by omega) g2
      have hl0 := fun J => g2.len' (K := J) (P := Tryz.prog) (T := 23) (e := 70) (by simp)
      simp at hl0
      simp [he]
      rw [hp]
      have hr : readF (allTok s).1 0 = match conO (allTok s).1 0 with
          | none => ([], 0, 100)
          | some p => if (p.1.length : Int) > 31 then ([], 0, 4) else (p.1, p.2, 0) := by
        unfold readF
        by_cases hts : (0 : Int) ≥ (allTok s).1.length
        · have : (allTok s).1 = [] := List.eq_nil_of_length_eq_zero (by omega)
          rw [if_pos (.inr hts), this, conO_nil]
        · rw [if_neg (by omega)]; rfl
      cases hc : conO (allTok s).1 0 with
      | none =>
        rw [hc] at hr
        rw [hr] at q1 q3 q4
        refine bndC_of q1 ?_
        simp
        exact ⟨g1.trans q2, .nil⟩
      | some p =>
        rw [hc] at hr
        simp only at hr ⊢
        by_cases h31 : (p.1.length : Int) > 31
        · rw [if_pos h31] at hr
          rw [hr] at q1 q3 q4
          have h31' : (31 : Int) < p.1.length := h31
          refine bndC_of q1 ?_
          simp
          have hrd : RdA K1 (K2 ++ [rdo lv 0 true]) K2.length lv (allTok s).1 0 true := ⟨g2, q2.more _, by obtain ⟨X, hX⟩ := q2; rw [hX]; simp, by simp, by omega, by omega⟩
          obtain ⟨v3, K3, r1, r2, ns, r3, _, _⟩ := g_condition (hg.trans g1) hn (by omega) (a := 0) hrd
          obtain ⟨hb2, hb3⟩ := arr_cell g2
          have hb1 := Arr.one g2
          simp only [rdo, show ((0 : Nat) : Int) = 0 from rfl] at r1
          simp [aNew, hb1, hb2, hb3]
          refine bndC_of r1 ?_
          rw [hc] at r2
          have hr2 : RdA K1 K3 K2.length lv (allTok s).1 p.2 true := r2
          have hcc : hcells K3 K2.length = some [lv, i64 p.2, .bool true] := by rw [hcells_eq, hr2.cell]; rfl
          have hll : Vi.hlen K3 K2.length = some 3 := by unfold Vi.hlen; rw [hr2.cell]; rfl
          simp [hcc, hll]
          rw [S17x0q]
          simp [hl0]
          by_cases hb : p.2 = (allTok s).1.length
          · simp [hb, h31', q4 (by simp)]; exact ⟨g1.trans hr2.pre, .nil⟩
          · have hb' : ((p.2 : Int) != (allTok s).1.length) = true := by simp; omega
            simp [hb, hb']; exact ⟨g1.trans hr2.pre, .nil⟩
        · rw [if_neg h31] at hr
          rw [hr] at q1 q3 q4
          have h31' : ¬ (31 : Int) < p.1.length := h31
          refine bndC_of q1 ?_
          simp [h31']
          rw [S17x0q]
          simp [hl0]
          by_cases hb : p.2 = (allTok s).1.length
          · simp [hb]; exact ⟨g1.trans q2, q3⟩
          · have hb' : ((p.2 : Int) != (allTok s).1.length) = true := by simp; omega
            simp [hb, hb']; exact ⟨g1.trans q2, .nil⟩
    · have hp : parseF s = ([], (allTok s).2.2) := by unfold parseF; rw [if_pos he]
      rw [hp]
      have he' : ((allTok s).2.2 != 0) = true := by simpa using he
      simp [he']
      exact ⟨g1, .nil⟩
  obtain ⟨v, K', ⟨u, rfl, h1, h2⟩, hy⟩ := key
  exact ⟨u, K', hy, h1, h2⟩
end Go.Vi
namespace Go.Vi
open Go Go.Proofs

theorem NodesAt.take {H : AHeap} {v : Value} {ns : List Nod} {j : Nat} (h : NodesAt H v ns) (hj : j ≤ ns.length) : ∃ t, aSliceOp Tryz.prog H 27 v none (some (i64 j)) = some t ∧ NodesAt H t (ns.take j) := by
  obtain ⟨cl, ha, hcl, hc⟩ := h
  have hres : ∀ (i : Nat) n, (ns.take j)[i]? = some n → ∃ sv, (cl.take j)[i]? = some (n.cells sv) ∧ MatsAt H sv n.sel ∧ n.sel.length < 2 ^ 63 := by
    intro i n hi
    have hij : i < j := by have := (List.getElem?_eq_some_iff.1 hi).1; simp at this; omega
    rw [List.getElem?_take_of_lt hij] at hi
    obtain ⟨sv, q1, q2⟩ := hc i n hi
    exact ⟨sv, by rw [List.getElem?_take_of_lt hij]; exact q1, q2⟩
  have hu : Tryz.prog.underlying 27 = some (.slice 37) := by simp
  have hz : tsize Tryz.prog 37 = some 8 := by simp
  cases ha with
  | nil =>
    simp at hcl
    have : j = 0 := by omega
    subst this
    refine ⟨.slice none 0 0, ?_, [], .nil, by simp, fun i n hi => by simp at hi⟩
    simp [aSliceOp, aLow, aHigh, hu, hz]
  | mk b o m n c cs l hn hcs hm hle hel hnc =>
    have hl : hlen H b = some m := by rw [← hm]; exact hcells_len hcs
    have h8 : o + j * 8 ≤ m := by have : j * 8 ≤ n * 8 := by omega
                                  omega
    have harr : Arr H 8 (.slice (some ⟨b, o, some m⟩) j c) (cl.take j) := by
      refine .mk b o m j c cs _ (by simp; omega) hcs hm h8 (fun i e hi => ?_) (by omega)
      have hij : i < j := by have := (List.getElem?_eq_some_iff.1 hi).1; simp at this; omega
      rw [List.getElem?_take_of_lt hij] at hi
      exact hel i e hi
    refine ⟨.slice (some ⟨b, o, some m⟩) j c, ?_, cl.take j, harr, by simp; omega, hres⟩
    simp only [aSliceOp, hu, hz, aLow, aHigh]
    rw [if_pos ⟨hl, by omega, by omega, by omega, .inl trivial⟩]
    simp
theorem acallsBool {P : Program} (hm : P.follows .mixedOrders = true) {f fn args H} {Q : Prop} (hf : P.funcs[f]? = some fn) (hn : notNG fn = true)
    (hr : ∀ k : Value → AHeap → Prop, (∀ K, Pre H K → k (.bool true) K) → (Q → ∀ K, Pre H K → k (.bool false) K) → kbody P fn args H k) : ∃ b, (b = false → Q) ∧ ACalls P f args H (.bool b) H := by
  obtain ⟨v, H', ⟨b, rfl, hq, X, rfl⟩, h⟩ := acalls_ex hm hf hn (hr (fun u H2 => ∃ b, u = .bool b ∧ (b = false → Q) ∧ Pre H H2) (fun K p => ⟨true, rfl, by simp, p⟩) fun q K p => ⟨false, rfl, fun _ => q, p⟩)
  exact ⟨b, hq, h.trim rfl⟩
section
variable {H : AHeap} {ns : List Nod} {v : Value} {k : Value → AHeap → Prop}
theorem great_x1 {n0 i : Nat} (hn0 : NodesAt H v ns) {nd : Nod} (hi : ns[i]? = some nd) (hsel : nd.sel.length ≤ 100) (hi2 : i + 1 < 2 ^ 63) (hT : ∀ K, Pre H K → k (.bool true) K)
    (hk : ∀ (K : AHeap) (left : Int) (s1 s2 s5 s6 s7 s8 s9 s10 s11 s12 s13 s14 s15 s16 s17 s18 s19 s20 s21 s22 s23 s24 s25 s26 s27 s28 s29 s30 s31 s32 s33 s34 s35 s36 s37 s38 s39 s40 s41 s42 s43 s44 s45 s46 s47 s48 s49 s50 s51 s52 s53 s54 s55 s56 s57 s58 s59 s60 s61 s62 s63 s64 s65 : Value), Pre H K → L20x0 n0 k [v, s1, s2, i64 left, i64 ((i + 1 : Nat) : Int), s5, s6, s7, s8, s9, s10, s11, s12, s13, s14, s15, s16, s17, s18, s19, s20, s21, s22, s23, s24, s25, s26, s27, s28, s29, s30, s31, s32, s33, s34, s35, s36, s37, s38, s39, s40, s41, s42, s43, s44, s45, s46, s47, s48, s49, s50, s51, s52, s53, s54, s55, s56, s57, s58, s59, s60, s61, s62, s63, s64, s65] K) :
    ∀ (m : List Mat) (j : Nat) (left : Int) (K : AHeap) (s1 s2 s6 s7 s8 s9 s10 s11 s12 s13 s14 s15 s16 s17 s18 s19 s20 s21 s22 s23 s24 s25 s26 s27 s28 s29 s30 s31 s32 s33 s34 s35 s36 s37 s38 s39 s40 s41 s42 s43 s44 s45 s46 s47 s48 s49 s50 s51 s52 s53 s54 s55 s56 s57 s58 s59 s60 s61 s62 s63 s64 s65 : Value), nd.sel.drop j = m → j ≤ nd.sel.length → Pre H K →
      L20x1 (m.length + 1) n0 k [v, s1, s2, i64 left, i64 i, i64 j, s6, s7, s8, s9, s10, s11, s12, s13, s14, s15, s16, s17, s18, s19, s20, s21, s22, s23, s24, s25, s26, s27, s28, s29, s30, s31, s32, s33, s34, s35, s36, s37, s38, s39, s40, s41, s42, s43, s44, s45, s46, s47, s48, s49, s50, s51, s52, s53, s54, s55, s56, s57, s58, s59, s60, s61, s62, s63, s64, s65] K := by
  intro m
  induction m with
  | nil =>
    intro j left K s1 s2 s6 s7 s8 s9 s10 s11 s12 s13 s14 s15 s16 s17 s18 s19 s20 s21 s22 s23 s24 s25 s26 s27 s28 s29 s30 s31 s32 s33 s34 s35 s36 s37 s38 s39 s40 s41 s42 s43 s44 s45 s46 s47 s48 s49 s50 s51 s52 s53 s54 s55 s56 s57 s58 s59 s60 s61 s62 s63 s64 s65 hd hj hp
    have hle : nd.sel.length ≤ j := by simpa using hd
    obtain ⟨cl, ha, hcl, hcc⟩ := hn0.pre hp
    obtain ⟨sv, h1, h2, h3⟩ := hcc _ _ hi
    obtain ⟨p, q, f1, f2, f3⟩ := ha.field (P := Tryz.prog) (T := 27) (te := 37) (ft := 35) (f := 2) (d := 2) (x := sv) (by simp) (by simp) (by simp) (by simp) (by simp) h1 rfl
    have hl := h2.len (P := Tryz.prog) (T := 35) (e := 75) (by simp)
    simp only [List.length_map] at hl
    rw [List.length_nil, L20x1q]
    have : ¬ j < nd.sel.length := by omega
    simp [f1, f2, f3, hl, this, hi2]
    exact hk K left _ _ _ _ _ _ _ _ _ _ _ _ _ _ _ _ _ _ _ _ _ _ _ _ _ _ _ _ _ _ _ _ _ _ _ _ _ _ _ _ _ _ _ _ _ _ _ _ _ _ _ _ _ _ _ _ _ _ _ _ _ _ _ hp
  | cons x m ih =>
    intro j left K s1 s2 s6 s7 s8 s9 s10 s11 s12 s13 s14 s15 s16 s17 s18 s19 s20 s21 s22 s23 s24 s25 s26 s27 s28 s29 s30 s31 s32 s33 s34 s35 s36 s37 s38 s39 s40 s41 s42 s43 s44 s45 s46 s47 s48 s49 s50 s51 s52 s53 s54 s55 s56 s57 s58 s59 s60 s61 s62 s63 s64 s65 hd hj hp
    have hb : nd.sel[j]? = some x := by rw [← List.head?_drop, hd]; rfl
    have hlt : j < nd.sel.length := (List.getElem?_eq_some_iff.1 hb).1
    obtain ⟨cl, ha, hcl, hcc⟩ := hn0.pre hp
    obtain ⟨sv, h1, h2, h3⟩ := hcc _ _ hi
    obtain ⟨p, q, f1, f2, f3⟩ := ha.field (P := Tryz.prog) (T := 27) (te := 37) (ft := 35) (f := 2) (d := 2) (x := sv) (by simp) (by simp) (by simp) (by simp) (by simp) h1 rfl
    have hl := h2.len (P := Tryz.prog) (T := 35) (e := 75) (by simp)
    simp only [List.length_map] at hl
    obtain ⟨p2, g1, g2⟩ := h2.load (P := Tryz.prog) (T := 35) (te := 75) (i := j) (e := x.cells) (by simp) (by simp) (by simp) (by simp [hb])
    rw [List.length_cons, L20x1q]
    simp +contextual [f1, f2, f3, hl, hlt, g1, g2, Mat.cells]
    refine kifB_bool (fun h => ?_) (fun h => ?_)
    · exact hT _ (hp.more _)
    · simp [show j + 1 < 2 ^ 63 by omega]
      exact ih (j + 1) _ _ _ _ _ _ _ _ _ _ _ _ _ _ _ _ _ _ _ _ _ _ _ _ _ _ _ _ _ _ _ _ _ _ _ _ _ _ _ _ _ _ _ _ _ _ _ _ _ _ _ _ _ _ _ _ _ _ _ _ _ _ _ _ (by rw [← List.drop_drop, hd]; rfl) hlt (hp.more _)
theorem great_x0 (hn0 : NodesAt H v ns) (hnl : ns.length ≤ 100) (hT : ∀ K, Pre H K → k (.bool true) K) (hk : ∀ K, Pre H K → k (.bool false) K) :
    ∀ (l : List Nod) (i : Nat) (left : Int) (K : AHeap) (s1 s2 s5 s6 s7 s8 s9 s10 s11 s12 s13 s14 s15 s16 s17 s18 s19 s20 s21 s22 s23 s24 s25 s26 s27 s28 s29 s30 s31 s32 s33 s34 s35 s36 s37 s38 s39 s40 s41 s42 s43 s44 s45 s46 s47 s48 s49 s50 s51 s52 s53 s54 s55 s56 s57 s58 s59 s60 s61 s62 s63 s64 s65 : Value), ns.drop i = l → i ≤ ns.length → Pre H K →
      L20x0 (l.length + 1) k [v, s1, s2, i64 left, i64 i, s5, s6, s7, s8, s9, s10, s11, s12, s13, s14, s15, s16, s17, s18, s19, s20, s21, s22, s23, s24, s25, s26, s27, s28, s29, s30, s31, s32, s33, s34, s35, s36, s37, s38, s39, s40, s41, s42, s43, s44, s45, s46, s47, s48, s49, s50, s51, s52, s53, s54, s55, s56, s57, s58, s59, s60, s61, s62, s63, s64, s65] K := by
  intro l
  induction l with
  | nil =>
    intro i left K s1 s2 s5 s6 s7 s8 s9 s10 s11 s12 s13 s14 s15 s16 s17 s18 s19 s20 s21 s22 s23 s24 s25 s26 s27 s28 s29 s30 s31 s32 s33 s34 s35 s36 s37 s38 s39 s40 s41 s42 s43 s44 s45 s46 s47 s48 s49 s50 s51 s52 s53 s54 s55 s56 s57 s58 s59 s60 s61 s62 s63 s64 s65 hd hi hp
    have hle : ns.length ≤ i := by simpa using hd
    have hl := (hn0.pre hp).len K
    rw [List.length_nil, L20x0q]
    have : ¬ i < ns.length := by omega
    simp [hl, this]
    exact hk K hp
  | cons x l ih =>
    intro i left K s1 s2 s5 s6 s7 s8 s9 s10 s11 s12 s13 s14 s15 s16 s17 s18 s19 s20 s21 s22 s23 s24 s25 s26 s27 s28 s29 s30 s31 s32 s33 s34 s35 s36 s37 s38 s39 s40 s41 s42 s43 s44 s45 s46 s47 s48 s49 s50 s51 s52 s53 s54 s55 s56 s57 s58 s59 s60 s61 s62 s63 s64 s65 hd hi hp
    have hb : ns[i]? = some x := by rw [← List.head?_drop, hd]; rfl
    have hlt : i < ns.length := (List.getElem?_eq_some_iff.1 hb).1
    obtain ⟨cl, ha, hcl, hcc⟩ := hn0.pre hp
    obtain ⟨sv, h1, h2, h3⟩ := hcc _ _ hb
    obtain ⟨p, q, f1, f2, f3⟩ := ha.field (P := Tryz.prog) (T := 27) (te := 37) (ft := 35) (f := 2) (d := 2) (x := sv) (by simp) (by simp) (by simp) (by simp) (by simp) h1 rfl
    have hl := h2.len (P := Tryz.prog) (T := 35) (e := 75) (by simp)
    simp only [List.length_map] at hl
    have hln := (hn0.pre hp).len K
    rw [List.length_cons, L20x0q]
    simp [hln, hlt, f1, f2, f3, hl]
    by_cases h50 : 100 < x.sel.length
    · have h50I : (100 : Int) < x.sel.length := by omega
      simp [h50I]
      exact hT K hp
    · have h50I : ¬ (100 : Int) < x.sel.length := by omega
      simp [h50I]
      refine ⟨x.sel.length + 1, great_x1 (H := H) (ns := ns) (v := v) hn0 hb (by omega) (by omega) hT ?_ x.sel 0 left K _ _ _ _ _ _ _ _ _ _ _ _ _ _ _ _ _ _ _ _ _ _ _ _ _ _ _ _ _ _ _ _ _ _ _ _ _ _ _ _ _ _ _ _ _ _ _ _ _ _ _ _ _ _ _ _ _ _ _ _ _ _ rfl (by omega) hp⟩
      intro K2 left2 s1 s2 s5 s6 s7 s8 s9 s10 s11 s12 s13 s14 s15 s16 s17 s18 s19 s20 s21 s22 s23 s24 s25 s26 s27 s28 s29 s30 s31 s32 s33 s34 s35 s36 s37 s38 s39 s40 s41 s42 s43 s44 s45 s46 s47 s48 s49 s50 s51 s52 s53 s54 s55 s56 s57 s58 s59 s60 s61 s62 s63 s64 s65 hp2
      exact ih (i + 1) left2 K2 _ _ _ _ _ _ _ _ _ _ _ _ _ _ _ _ _ _ _ _ _ _ _ _ _ _ _ _ _ _ _ _ _ _ _ _ _ _ _ _ _ _ _ _ _ _ _ _ _ _ _ _ _ _ _ _ _ _ _ _ _ _ _ (by rw [← List.drop_drop, hd]; rfl) hlt hp2
theorem c_great (hn0 : NodesAt H v ns) : ∃ b, (b = false → ns.length ≤ 100) ∧ ACalls Tryz.prog 20 [v] H (.bool b) H := by
  refine acallsBool MixT Tryz.func20 (by decide) fun k hT hk => ?_
  rw [d20]
  have hl := hn0.len H
  by_cases h1 : 100 < ns.length
  · have h1I : (100 : Int) < ns.length := by omega
    simp [hl, h1I]
    exact hT H (.refl _)
  · have h1I : ¬ (100 : Int) < ns.length := by omega
    simp [hl, h1I]
    exact ⟨ns.length + 1, great_x0 (H := H) (ns := ns) (v := v) hn0 (by omega) hT (hk (by omega)) ns 0 5000 H _ _ _ _ _ _ _ _ _ _ _ _ _ _ _ _ _ _ _ _ _ _ _ _ _ _ _ _ _ _ _ _ _ _ _ _ _ _ _ _ _ _ _ _ _ _ _ _ _ _ _ _ _ _ _ _ _ _ _ _ _ _ _ rfl (by omega) (.refl _)⟩
end
end Go.Vi
namespace Go.Vi
open Go Go.Proofs

def tA : List UInt8 := [99, 111, 117, 110, 116, 40, 123, 125, 91, 53, 93, 41, 32, 62, 32, 51]
def tZ : List UInt8 := [99, 111, 117, 110, 116, 40, 123, 125, 91, 48, 93, 41, 32, 62, 32, 49]
def tB : List UInt8 := tA ++ [32, 97, 110, 100]
def tS : List UInt8 := [110, 111, 116, 32, 40] ++ tA ++ [32, 111, 114, 32] ++ tA ++ [41, 32, 97, 110, 100, 32] ++ tA
def nA : Nod := cmpNod 0 5 2 3000
def nS : List Nod := [nA, nA, ⟨2, 0, [], 0, 0, 0, 0, 1⟩, ⟨3, 0, [], 0, 0, 0, 2, 0⟩, nA, ⟨1, 0, [], 0, 0, 0, 3, 4⟩]
theorem pA : parseF tA = ([nA], 0) := by kernel_rfl
theorem pS : parseF tS = (nS, 0) := by kernel_rfl
theorem pB : (parseF tB).2 = 100 ∧ (parseF tZ).2 = 100 := ⟨by kernel_rfl, by kernel_rfl⟩
theorem prS : printS nS = tS := by kernel_rfl
theorem riS : right nS = true ∧ right (nS.take 2) = false := ⟨by kernel_rfl, by kernel_rfl⟩
theorem node_at {H : AHeap} {v : Value} {ns : List Nod} {i : Nat} {n : Nod} (h : NodesAt H v ns) (hi : ns[i]? = some n) : ∃ p, aIndexAddr Tryz.prog H 27 v (i64 i) = some p ∧
    ∀ (f d : Nat) (ft : TypeId) (x : Value), afield Tryz.prog 37 f = some (d, ft) → tsize Tryz.prog ft = some 1 → tagg Tryz.prog ft = some false → (∀ sv, (n.cells sv)[d]? = some x) → ∃ q, aFieldAddr Tryz.prog H 37 p f = some q ∧ aLoad Tryz.prog H ft q = some x := by
  obtain ⟨cl, ha, hcl, hc⟩ := h
  obtain ⟨sv, h1, h2, h3⟩ := hc _ _ hi
  obtain ⟨p, hp, _⟩ := ha.load (P := Tryz.prog) (T := 27) (te := 37) (i := i) (e := n.cells sv) (by simp) (by simp) (by simp) h1
  refine ⟨p, hp, fun f d ft x a1 a2 a3 a4 => ?_⟩
  obtain ⟨p', q, e1, e2, e3⟩ := ha.field (P := Tryz.prog) (T := 27) (te := 37) (ft := ft) (f := f) (d := d) (i := i) (x := x) (by simp) (by simp) a1 a2 a3 h1 (a4 sv)
  rw [hp] at e1
  cases e1
  exact ⟨q, e2, e3⟩
set_option maxRecDepth 20000 in
theorem c_awake {H : AHeap} (hg : Pre Gs H) : ACalls Tryz.prog 15 [] H (.bool true) H := by
  refine acalls_pure MixT Tryz.func15 (by decide) rfl ?_
  rw [d15]
  obtain ⟨v1, K1, a1, p1, n1⟩ := g_parse (s := tA) hg
  rw [pA] at a1 n1
  refine bndC_of a1 ?_
  simp only [bnd_some, tupV, List.getElem?_toArray, List.getElem?_cons_zero, List.getElem?_cons_succ]
  refine bnd_of (v := str ([110, 111, 116, 32, 40] ++ tA)) (aBin_str (a := [110, 111, 116, 32, 40]) (b := tA) (by decide)) ?_
  dsimp only
  refine bnd_of (aBin_str (b := [32, 111, 114, 32]) (by decide)) ?_
  dsimp only
  refine bnd_of (aBin_str (b := tA) (by decide)) ?_
  dsimp only
  refine bnd_of (aBin_str (b := [41, 32, 97, 110, 100, 32]) (by decide)) ?_
  dsimp only
  refine bnd_of (aBin_str (b := tA) (by decide)) ?_
  dsimp only
  obtain ⟨v2, K2, a2, p2, n2⟩ := g_parse (s := tS) (hg.trans p1)
  rw [pS] at a2 n2
  refine bndC_of a2 ?_
  simp only [bnd_some, tupV, List.getElem?_toArray, List.getElem?_cons_zero, List.getElem?_cons_succ]
  refine bnd_of (v := str tB) (aBin_str (a := tA) (b := [32, 97, 110, 100]) (by decide)) ?_
  dsimp only
  obtain ⟨v3, K3, a3, p3, n3⟩ := g_parse (s := tB) ((hg.trans p1).trans p2)
  rw [pB.1] at a3
  refine bndC_of a3 ?_
  simp only [bnd_some, tupV, List.getElem?_toArray, List.getElem?_cons_zero, List.getElem?_cons_succ]
  obtain ⟨v4, K4, a4, p4, n4⟩ := g_parse (s := tZ) (((hg.trans p1).trans p2).trans p3)
  rw [pB.2] at a4
  refine bndC_of a4 ?_
  have m1 := n1.pre (p2.trans (p3.trans p4))
  have m2 := n2.pre (p3.trans p4)
  have hgK := (((hg.trans p1).trans p2).trans p3).trans p4
  have hpK := ((p1.trans p2).trans p3).trans p4
  clear n1 n2 n3 n4 a1 a2 a3 a4
  have l1 := m1.len K4
  have l2 := m2.len K4
  obtain ⟨q1, b1, b2⟩ := node_at m1 (i := 0) (n := nA) rfl
  obtain ⟨x3, c3, d3⟩ := b2 3 3 3 (i64 5) (by simp) (by simp) (by simp) (fun _ => rfl)
  obtain ⟨x4, c4, d4⟩ := b2 4 4 5 (.int .u8 2) (by simp) (by simp) (by simp) (fun _ => rfl)
  obtain ⟨x5, c5, d5⟩ := b2 5 5 2 (i64 3000) (by simp) (by simp) (by simp) (fun _ => rfl)
  obtain ⟨q2, e1, e2⟩ := node_at m2 (i := 2) rfl
  obtain ⟨y0, f0, g0⟩ := e2 0 0 5 (.int .u8 2) (by simp) (by simp) (by simp) (fun _ => rfl)
  obtain ⟨y7, f7, g7⟩ := e2 7 7 3 (i64 1) (by simp) (by simp) (by simp) (fun _ => rfl)
  obtain ⟨q3, h1, h2⟩ := node_at m2 (i := 3) rfl
  obtain ⟨z0, i0, j0⟩ := h2 0 0 5 (.int .u8 3) (by simp) (by simp) (by simp) (fun _ => rfl)
  obtain ⟨z6, i6, j6⟩ := h2 6 6 3 (i64 2) (by simp) (by simp) (by simp) (fun _ => rfl)
  obtain ⟨q5, k1, k2⟩ := node_at m2 (i := 5) rfl
  obtain ⟨w0, r0, s0⟩ := k2 0 0 5 (.int .u8 1) (by simp) (by simp) (by simp) (fun _ => rfl)
  obtain ⟨w6, r6, s6⟩ := k2 6 6 3 (i64 3) (by simp) (by simp) (by simp) (fun _ => rfl)
  obtain ⟨w7, r7, s7⟩ := k2 7 7 3 (i64 4) (by simp) (by simp) (by simp) (fun _ => rfl)
  simp only [show ((0 : Nat) : Int) = 0 from rfl, show ((2 : Nat) : Int) = 2 from rfl, show ((3 : Nat) : Int) = 3 from rfl, show ((5 : Nat) : Int) = 5 from rfl] at b1 e1 h1 k1
  simp [l1, l2, nS, b1, c3, d3, c4, d4, c5, d5, e1, f0, g0, f7, g7, h1, i0, j0, i6, j6, k1, r0, s0, r6, s6, r7, s7]
  have hpr := c_exprPrint hgK m2
  rw [show printS (nS, (0 : Int)).1 = tS from prS] at hpr
  refine bndG_t (str tS) K4 hpr ?_
  clear b1 e1 h1 k1 b2 e2 h2 k2 c3 d3 c4 d4 c5 d5 f0 g0 f7 g7 i0 j0 i6 j6 r0 s0 r6 s6 r7 s7
  simp only [gif_tt, bnd_some]
  refine bnd_of (v := str ([110, 111, 116, 32, 40] ++ tA)) (aBin_str (a := [110, 111, 116, 32, 40]) (b := tA) (by decide)) ?_
  simp only [gif_tt]
  refine bnd_of (aBin_str (b := [32, 111, 114, 32]) (by decide)) ?_
  simp only [gif_tt, bnd_some]
  refine bnd_of (aBin_str (b := tA) (by decide)) ?_
  simp only [gif_tt]
  refine bnd_of (aBin_str (b := [41, 32, 97, 110, 100, 32]) (by decide)) ?_
  simp only [gif_tt, bnd_some]
  refine bnd_of (aBin_str (b := tA) (by decide)) ?_
  simp only [gif_tt]
  refine bnd_of (v := .bool true) (by rw [aBin_seql]; exact congrArg some (congrArg Value.bool (decide_eq_true rfl))) ?_
  simp
  have hr1 := c_right m2
  rw [show right (nS, (0 : Int)).1 = true from riS.1] at hr1
  refine bndG_t (.bool true) K4 hr1 ?_
  obtain ⟨t, t1, t2⟩ := m2.take (j := 2) (by decide)
  simp at t1
  simp [t1]
  have hr2 := c_right t2
  rw [show right ((nS, (0 : Int)).1.take 2) = false from riS.2] at hr2
  refine bndG_t (.bool false) K4 hr2 ?_
  simp
  exact hpK
end Go.Vi
namespace Go.Vi
open Go Go.Proofs

theorem acallsG_flat {P : Program} {D : DrawK} (hD : ∀ c : Ctx, @SoundK c P D) {f fn args H v} (hf : P.funcs[f]? = some fn) (hn : notNG fn = true) (hc : flat v = true) (hr : kbodyG P D fn args H fun u H2 => u = v ∧ ∃ X, H2 = H ++ X) : ACalls P f args H v H := by
  intro w0 s w args' h hargs
  left
  unfold kbodyG at hr
  split at hr
  · rename_i c hb
    constructor
    · have hq : ¬ fn.name = "runtime.NumGoroutine" := by intro q; simp [notNG, q] at hn
      have hbn : ¬ fn.body = none := by rw [hb]; simp
      simp [callFunc, hf, hq, hbn]
    · letI : Ctx := ⟨[], none⟩
      refine callsIn_wide.1 (callsIn_of_wp_marks (F := Fence.wide) (n := 0) hf hb trivial ?_ rfl)
      have hal : args.length = args'.size := by have := hargs.1; simpa using this
      have ha : ARel s H (args ++ List.replicate (fn.ntmps - args.length) undef) { tmps := args' ++ Array.replicate (fn.ntmps - args'.size) undef, defers := [] } := by
        refine ⟨?_, rfl⟩
        simp only [Array.toList_append, Array.toList_replicate, hal]
        refine hargs.append ⟨by simp, fun i x y hx hy => ?_⟩
        rw [List.getElem?_replicate] at hx hy
        split at hx
        · rename_i hi
          rw [if_pos hi] at hy
          cases hx; cases hy
          exact undef_rel _ _
        · cases hx
      refine kxG_sound hD c h ha ⟨[], rfl, .nil _ _⟩ hr ?_
      have fin : ∀ {sl' H2 m' s' a' w' ds'}, WRel w0 s' H2 w' → Ext s H s' H2 → @ARel ⟨ds', none⟩ s' H2 sl' a' → MarkRel s' H2 m' ds' → kmarks (fun H2 => kres P sl' H2 fn.results.toList fun l => retV l = v ∧ ∃ X, H2 = H ++ X) m' H2 →
          LeavesInM Fence.wide 0 P fn a'.tmps (AEnd w0 s H v H) a'.defers .returning w' := by
        intro sl' H2 m' s' a' w' ds' g1 g2 g3 g4 hk
        have hd : a'.defers = ds' := @ARel.d ⟨ds', none⟩ _ _ _ _ g3
        rw [hd]
        refine kmarks_leave m' g1 g2 (@ARel.r ⟨ds', none⟩ _ _ _ _ g3) g4 hk ?_
        intro s5 H5 w5 q1 q2 q3 q4
        obtain ⟨l, h1, rfl, X, rfl⟩ := kres_sound _ q4
        obtain ⟨v', k1, k2⟩ := run_ret (P := P) (a := { tmps := a'.tmps, defers := [] }) fn q1.h ⟨q3, rfl⟩ (aRet_of h1)
        exact ⟨v', k1, s, v', rfl, h.forget q1 q2, Ext.refl _ _, by rw [k2.flat_eq hc]; exact flat_rel hc s H⟩
      intro e sl' H2 m' hk s' a' w' ds' g1 g2 g3 g4
      cases e with
      | exit i => cases hk
      | normal => exact fin g1 g2 g3 g4 hk
      | ret => exact fin g1 g2 g3 g4 hk
  · cases hr
theorem mat_guard (m : Mat) (x y : Operand) : pv Tryz.prog (eqGuard .neq 75 x y (.agg m.cells.toArray) (.agg m.cells.toArray)) = some () := by kernel_rfl
theorem pv_str {P : Program} {T : TypeId} {d : Nat} {a : ByteArray} (h : P.underlying T = some .string) : pv P (Op.equalIn (d + 1) T (.string a) (.string a)) = some true := by
  have e : (a == a) = true := by
    obtain ⟨⟨x⟩⟩ := a
    show ((⟨x⟩ : Array UInt8) == ⟨x⟩) = true
    simp
  unfold Op.equalIn
  rw [pv_bind, pv_und h]
  simp [pv_pure, e]
theorem pv_int {P : Program} {T : TypeId} {d : Nat} {k k' : IntKind} {n : Int} (h : P.underlying T = some (.int k')) : pv P (Op.equalIn (d + 1) T (.int k n) (.int k n)) = some true := by
  unfold Op.equalIn
  rw [pv_bind, pv_und h]
  simp [pv_pure]
theorem pv_prog {P : Program} : pv P program = some P := rfl
theorem mat_eq (m : Mat) : pv Tryz.prog (Op.equal 75 (.agg m.cells.toArray) (.agg m.cells.toArray)) = some true := by
  show pv Tryz.prog (Op.equalIn (9998 + 1 + 1) 75 _ _) = _
  have hs : Tryz.prog.stoodInHeld 75 = false := by kernel_rfl
  have p0 : pv Tryz.prog (part 9 m.cells.toArray 0) = some (str m.name) := by kernel_rfl
  have p1 : pv Tryz.prog (part 5 m.cells.toArray 1) = some (.int .u8 m.op) := by kernel_rfl
  have p2 : pv Tryz.prog (part 9 m.cells.toArray 2) = some (str m.value) := by kernel_rfl
  have e0 : ∀ s : List UInt8, pv Tryz.prog (Op.equalIn (9998 + 1) 9 (str s) (str s)) = some true := fun s => pv_str (by simp)
  have e1 : pv Tryz.prog (Op.equalIn (9998 + 1) 5 (.int .u8 m.op) (.int .u8 m.op)) = some true := pv_int (k' := .u8) (by simp)
  rw [Op.equalIn]
  rw [pv_bind, pv_und (by simp; rfl)]
  simp only [Option.bind_some]
  simp [pv_bind, pv_prog, hs, p0, p1, p2, e0, e1, pv_pure]
theorem aBin_mat {H : AHeap} {x y : Operand} (m : Mat) : aBin2 Tryz.prog H .neq 75 x y (.agg m.cells.toArray) (.agg m.cells.toArray) = some (.bool false) := by
  apply aBin2_of
  have : pv Tryz.prog (do eqGuard .neq 75 x y (.agg m.cells.toArray) (.agg m.cells.toArray); binOp .neq 75 (.agg m.cells.toArray) (.agg m.cells.toArray)) = some (.bool false) := by
    rw [pv_bind, mat_guard, Option.bind_some]
    show pv Tryz.prog (Op.equal 75 (.agg m.cells.toArray) (.agg m.cells.toArray) >>= fun r => pure (Value.bool !r)) = _
    rw [pv_bind, mat_eq]; rfl
  unfold aBin
  rw [if_pos ⟨rfl, rfl⟩, this]; rfl
theorem sameM_loop {H : AHeap} {v1 v2 : Value} {ms : List Mat} {k : Value → AHeap → Prop} (h1 : MatsAt H v1 ms) (h2 : MatsAt H v2 ms) (hl : ms.length < 2 ^ 63) (hk : k (.bool true) H) :
    ∀ (n i : Nat) (s2 s3 s4 s6 s7 s8 s9 s10 s11 s12 s13 s14 s15 s16 s17 s18 s19 s20 s21 s22 s23 s24 s25 : Value), n + i = ms.length → L41x0 (n + 1) k [v1, v2, s2, s3, s4, i64 i, s6, s7, s8, s9, s10, s11, s12, s13, s14, s15, s16, s17, s18, s19, s20, s21, s22, s23, s24, s25] H := by
  intro n
  have hlen := Arr.len (P := Tryz.prog) (T := 35) (e := 75) h1 (by simp)
  simp at hlen
  induction n with
  | zero =>
    intro i s2 s3 s4 s6 s7 s8 s9 s10 s11 s12 s13 s14 s15 s16 s17 s18 s19 s20 s21 s22 s23 s24 s25 hi
    rw [L41x0q]
    have : ¬ i < ms.length := by omega
    simp [hlen, this]
    exact hk
  | succ n ih =>
    intro i s2 s3 s4 s6 s7 s8 s9 s10 s11 s12 s13 s14 s15 s16 s17 s18 s19 s20 s21 s22 s23 s24 s25 hi
    have hlt : i < ms.length := by omega
    rw [L41x0q]
    obtain ⟨m, hm⟩ : ∃ m, ms[i]? = some m := ⟨_, List.getElem?_eq_getElem hlt⟩
    have hc : (ms.map Mat.cells)[i]? = some m.cells := by rw [List.getElem?_map, hm]; rfl
    obtain ⟨p, hp1, hp2⟩ := Arr.load (P := Tryz.prog) (T := 35) (te := 75) h1 (i := i) (e := m.cells) (by simp) (by simp) (by simp) hc
    obtain ⟨q, hq1, hq2⟩ := Arr.load (P := Tryz.prog) (T := 35) (te := 75) h2 (i := i) (e := m.cells) (by simp) (by simp) (by simp) hc
    have w1 : IntKind.i64.wrap ((i : Int) + 1) = ((i + 1 : Nat) : Int) := by rw [wrap_i64 (by omega) (by omega)]; omega
    simp [hlen, hlt, hp1, hp2, hq1, hq2, aBin_mat, w1]
    rw [show ((i : Int) + 1) = ((i + 1 : Nat) : Int) by omega]
    exact ih (i + 1) _ _ _ _ _ _ _ _ _ _ _ _ _ _ _ _ _ _ _ _ _ _ _ (by omega)
theorem c_sameM {H : AHeap} {v1 v2 : Value} {ms : List Mat} (h1 : MatsAt H v1 ms) (h2 : MatsAt H v2 ms) (hl : ms.length < 2 ^ 63) : ACalls Tryz.prog 41 [v1, v2] H (.bool true) H := by
  refine acalls_pure MixT Tryz.func41 (by decide) rfl ?_
  rw [d41]
  have hl1 := Arr.len (P := Tryz.prog) (T := 35) (e := 75) h1 (by simp)
  have hl2 := Arr.len (P := Tryz.prog) (T := 35) (e := 75) h2 (by simp)
  simp at hl1 hl2
  simp [hl1, hl2]
  exact ⟨_, sameM_loop h1 h2 hl ⟨rfl, [], by simp⟩ ms.length 0 _ _ _ _ _ _ _ _ _ _ _ _ _ _ _ _ _ _ _ _ _ _ _ (by omega)⟩
set_option maxHeartbeats 1000000 in
theorem sameN_loop {H : AHeap} {v1 v2 : Value} {ns : List Nod} {k : Value → AHeap → Prop} (h1 : NodesAt H v1 ns) (h2 : NodesAt H v2 ns) (hl : ns.length < 2 ^ 63) (hs : ∀ n ∈ ns, n.sel.length < 2 ^ 63) (hk : ∀ X, k (.bool true) (H ++ X)) :
    ∀ (n i : Nat) (X : AHeap) (s2 s3 s4 s6 s7 s8 s9 s10 s11 s12 s13 s14 s15 s16 s17 s18 s19 s20 s21 s22 s23 s24 s25 s26 s27 s28 s29 s30 s31 s32 s33 s34 s35 s36 s37 s38 s39 s40 s41 s42 s43 s44 s45 s46 s47 s48 s49 s50 s51 s52 s53 s54 s55 s56 s57 s58 s59 s60 s61 s62 s63 s64 s65 s66 s67 s68 s69 s70 s71 s72 s73 s74 s75 s76 s77 s78 s79 s80 s81 : Value), n + i = ns.length → L19x0 (n + 1) k [v1, v2, s2, s3, s4, i64 i, s6, s7, s8, s9, s10, s11, s12, s13, s14, s15, s16, s17, s18, s19, s20, s21, s22, s23, s24, s25, s26, s27, s28, s29, s30, s31, s32, s33, s34, s35, s36, s37, s38, s39, s40, s41, s42, s43, s44, s45, s46, s47, s48, s49, s50, s51, s52, s53, s54, s55, s56, s57, s58, s59, s60, s61, s62, s63, s64, s65, s66, s67, s68, s69, s70, s71, s72, s73, s74, s75, s76, s77, s78, s79, s80, s81] (H ++ X) := by
  intro n
  have hlen := h1.len
  induction n with
  | zero =>
    intro i X s2 s3 s4 s6 s7 s8 s9 s10 s11 s12 s13 s14 s15 s16 s17 s18 s19 s20 s21 s22 s23 s24 s25 s26 s27 s28 s29 s30 s31 s32 s33 s34 s35 s36 s37 s38 s39 s40 s41 s42 s43 s44 s45 s46 s47 s48 s49 s50 s51 s52 s53 s54 s55 s56 s57 s58 s59 s60 s61 s62 s63 s64 s65 s66 s67 s68 s69 s70 s71 s72 s73 s74 s75 s76 s77 s78 s79 s80 s81 hi
    rw [L19x0q]
    have : ¬ i < ns.length := by omega
    simp [hlen, this]
    exact hk X
  | succ n ih =>
    intro i X s2 s3 s4 s6 s7 s8 s9 s10 s11 s12 s13 s14 s15 s16 s17 s18 s19 s20 s21 s22 s23 s24 s25 s26 s27 s28 s29 s30 s31 s32 s33 s34 s35 s36 s37 s38 s39 s40 s41 s42 s43 s44 s45 s46 s47 s48 s49 s50 s51 s52 s53 s54 s55 s56 s57 s58 s59 s60 s61 s62 s63 s64 s65 s66 s67 s68 s69 s70 s71 s72 s73 s74 s75 s76 s77 s78 s79 s80 s81 hi
    have hlt : i < ns.length := by omega
    rw [L19x0q]
    obtain ⟨m, hm⟩ : ∃ m, ns[i]? = some m := ⟨_, List.getElem?_eq_getElem hlt⟩
    have w1 : IntKind.i64.wrap ((i : Int) + 1) = ((i + 1 : Nat) : Int) := by rw [wrap_i64 (by omega) (by omega)]; omega
    have ld : ∀ {v}, NodesAt H v ns → ∃ sv, MatsAt H sv m.sel ∧ ∀ Y, ∃ p, aIndexAddr Tryz.prog (H ++ Y) 27 v (i64 i) = some p ∧ aLoad Tryz.prog (H ++ Y) 37 p = some (.agg (m.cells sv).toArray) := by
      intro v h
      obtain ⟨cl, ha, hcl, hc⟩ := h
      obtain ⟨sv, q1, q2, q3⟩ := hc _ _ hm
      exact ⟨sv, q2, fun Y => (ha.pre (.app H Y)).load (P := Tryz.prog) (T := 27) (te := 37) (by simp) (by simp) (by simp) q1⟩
    obtain ⟨s1, m1, l1⟩ := ld h1
    obtain ⟨s2', m2, l2⟩ := ld h2
    obtain ⟨p, p1, p2⟩ := l1 X
    obtain ⟨q, q1, q2⟩ := l2 X
    have a1 := m1.one
    have a2 := m2.one
    refine bnd_of (hlen _) ?_
    refine bnd_of (v := .bool true) (by simp [hlt]) ?_
    dsimp only
    rw [kifB_true]
    dsimp only
    have hsl := hs m (List.mem_of_getElem? hm)
    refine ⟨?_, ?_⟩
    · simp only [bnd_some, p1, p2, q1, q2]
      refine bndK_ext (tal37 _) ⟨_, rfl⟩ ?_
      dsimp only
      refine bndK_ext (tal37 _) ⟨_, rfl⟩ ?_
      dsimp only
      refine bndK_of (v := undef) (H' := H ++ X ++ [.cells (m.cells s1) 37] ++ [.cells [.int .u8 0, .int .u8 0, .slice none 0 0, .int .i64 0, .int .u8 0, .int .i64 0, .int .i64 0, .int .i64 0] 37]) ⟨rfl, by simp [Nod.cells, a1]⟩ ?_ ?_
      · dsimp only
        rw [List.append_assoc (H ++ X)]
        exact ⟨aLoad_more q2, aIndexAddr_more q1, trivial⟩
      · dsimp only
        refine bndK_bar (v := undef) (H' := H ++ X ++ [.cells (m.cells s1) 37] ++ [.cells (m.cells s2') 37]) ⟨rfl, by simp [Nod.cells, a2]⟩ ?_
        dsimp only
        obtain ⟨K, hK⟩ : ∃ K, K = H ++ X ++ [.cells (m.cells s1) 37] ++ [.cells (m.cells s2') 37] := ⟨_, rfl⟩
        have hKX : K = H ++ (X ++ [.cells (m.cells s1) 37] ++ [.cells (m.cells s2') 37]) := by rw [hK]; simp
        have e1 : H.length + (X.length + 1) = (H ++ X ++ [AObj.cells (m.cells s1) 37]).length := by simp
        have f1 : hcells K (H.length + X.length) = some (m.cells s1) := by rw [hK, ← List.length_append]; simp
        have f2 : Vi.hlen K (H.length + X.length) = some 8 := by rw [hK, ← List.length_append]; simp [Nod.cells]
        have f3 : hcells K (H.length + (X.length + 1)) = some (m.cells s2') := by rw [hK, e1]; simp
        have f4 : Vi.hlen K (H.length + (X.length + 1)) = some 8 := by rw [hK, e1]; simp [Nod.cells]
        rw [← hK]
        clear hK p1 p2 q1 q2 l1 l2 ld
        simp only [Nod.cells] at f1 f3
        simp [f1, f2, f3, f4]
        refine bndG_call (.bool true) (fun _ => by rw [hKX]; exact c_sameM (m1.pre (.app H _)) (m2.pre (.app H _)) hsl) ?_
        simp [f1, f2, f3, f4, w1]
        rw [hKX, show ((i : Int) + 1) = ((i + 1 : Nat) : Int) by omega]
        exact ih (i + 1) _ _ _ _ _ _ _ _ _ _ _ _ _ _ _ _ _ _ _ _ _ _ _ _ _ _ _ _ _ _ _ _ _ _ _ _ _ _ _ _ _ _ _ _ _ _ _ _ _ _ _ _ _ _ _ _ _ _ _ _ _ _ _ _ _ _ _ _ _ _ _ _ _ _ _ _ _ _ _ _ (by omega)
    · simp only [bnd_some, p1, p2, q1, q2]
      refine bndK_ext (tal37 _) ⟨_, rfl⟩ ?_
      dsimp only
      refine bndK_ext (tal37 _) ⟨_, rfl⟩ ?_
      dsimp only
      refine bndK_of (v := undef) (H' := H ++ X ++ [.cells [.int .u8 0, .int .u8 0, .slice none 0 0, .int .i64 0, .int .u8 0, .int .i64 0, .int .i64 0, .int .i64 0] 37] ++ [.cells (m.cells s1) 37]) ⟨rfl, by simp [Nod.cells, a1]⟩ ?_ ?_
      · dsimp only
        rw [List.append_assoc (H ++ X)]
        exact ⟨aLoad_more q2, aIndexAddr_more q1, trivial⟩
      · dsimp only
        refine bndK_bar (v := undef) (H' := H ++ X ++ [.cells (m.cells s2') 37] ++ [.cells (m.cells s1) 37]) ⟨rfl, by simp [Nod.cells, a2]⟩ ?_
        dsimp only
        obtain ⟨K, hK⟩ : ∃ K, K = H ++ X ++ [.cells (m.cells s2') 37] ++ [.cells (m.cells s1) 37] := ⟨_, rfl⟩
        have hKX : K = H ++ (X ++ [.cells (m.cells s2') 37] ++ [.cells (m.cells s1) 37]) := by rw [hK]; simp
        have e1 : H.length + (X.length + 1) = (H ++ X ++ [AObj.cells (m.cells s2') 37]).length := by simp
        have f3 : hcells K (H.length + X.length) = some (m.cells s2') := by rw [hK, ← List.length_append]; simp
        have f4 : Vi.hlen K (H.length + X.length) = some 8 := by rw [hK, ← List.length_append]; simp [Nod.cells]
        have f1 : hcells K (H.length + (X.length + 1)) = some (m.cells s1) := by rw [hK, e1]; simp
        have f2 : Vi.hlen K (H.length + (X.length + 1)) = some 8 := by rw [hK, e1]; simp [Nod.cells]
        rw [← hK]
        clear hK p1 p2 q1 q2 l1 l2 ld
        simp only [Nod.cells] at f1 f3
        simp [f1, f2, f3, f4]
        refine bndG_call (.bool true) (fun _ => by rw [hKX]; exact c_sameM (m1.pre (.app H _)) (m2.pre (.app H _)) hsl) ?_
        simp [f1, f2, f3, f4, w1]
        rw [hKX, show ((i : Int) + 1) = ((i + 1 : Nat) : Int) by omega]
        exact ih (i + 1) _ _ _ _ _ _ _ _ _ _ _ _ _ _ _ _ _ _ _ _ _ _ _ _ _ _ _ _ _ _ _ _ _ _ _ _ _ _ _ _ _ _ _ _ _ _ _ _ _ _ _ _ _ _ _ _ _ _ _ _ _ _ _ _ _ _ _ _ _ _ _ _ _ _ _ _ _ _ _ _ (by omega)
theorem c_sameN {H : AHeap} {v1 v2 : Value} {ns : List Nod} (h1 : NodesAt H v1 ns) (h2 : NodesAt H v2 ns) (hl : ns.length < 2 ^ 63) (hs : ∀ n ∈ ns, n.sel.length < 2 ^ 63) : ACalls Tryz.prog 19 [v1, v2] H (.bool true) H := by
  refine acallsG_flat (fun c => @drawPairK_sound _ c MixT) Tryz.func19 (by decide) rfl ?_
  rw [d19]
  have hl1 := h1.len
  have hl2 := h2.len
  simp [hl1, hl2]
  have := sameN_loop (k := fun u H2 => u = .bool true ∧ ∃ X, H2 = H ++ X) h1 h2 hl hs (fun X => ⟨rfl, X, rfl⟩) ns.length 0 []
  simp only [List.append_nil] at this
  exact ⟨_, this _ _ _ _ _ _ _ _ _ _ _ _ _ _ _ _ _ _ _ _ _ _ _ _ _ _ _ _ _ _ _ _ _ _ _ _ _ _ _ _ _ _ _ _ _ _ _ _ _ _ _ _ _ _ _ _ _ _ _ _ _ _ _ _ _ _ _ _ _ _ _ _ _ _ _ _ _ _ _ (by omega)⟩
end Go.Vi
