/- The document's own answer: sorts of texts. The document's own answer: the longest token. The document's own answer: the longest token, by trial. A condition within a longer text: what the parser tells there. The document's own answer: the longest token is the one that is read. The tokens of a text within a longer one. The document's own answer: all tokens. The document's own answer: tokens, matchers, windows. The document's own answer: numbers with a point. The document's own answer: a comparison. The document's own answer: a comparison from its beginning. Rows of nodes that grow. The document's own answer: conditions. -/
import Derived.Test.YtpkdgmcfojjfjaaGreatDoorJ5
namespace Go.Vi
open Go Go.Proofs

theorem isLow_iff (b : UInt8) : isLow b = true ↔ 97 ≤ (b.toNat : Int) ∧ (b.toNat : Int) ≤ 122 := by simp [isLow]
theorem isDig_iff (b : UInt8) : isDig b = true ↔ 48 ≤ (b.toNat : Int) ∧ (b.toNat : Int) ≤ 57 := by simp [isDig]
theorem isSign_iff (b : UInt8) : isSign b = true ↔ 32 ≤ (b.toNat : Int) ∧ (b.toNat : Int) ≤ 126 := by simp [isSign]
theorem rPlain_loop {H : AHeap} {s : List UInt8} {k : Value → AHeap → Prop} {w : Bool} (hs : s.length < 2 ^ 62) (hk : k (.bool w) H) :
    ∀ (r : List UInt8) (i : Nat) (s1 s2 s4 s5 s6 s7 s8 s9 s10 s11 s12 s13 s14 s15 s16 s17 s18 s19 : Value), s.drop i = r → i ≤ s.length → w = r.all isSign → L92x0 (r.length + 1) k [str s, s1, s2, i64 i, s4, s5, s6, s7, s8, s9, s10, s11, s12, s13, s14, s15, s16, s17, s18, s19] H := by
  intro r
  induction r with
  | nil =>
    intro i s1 s2 s4 s5 s6 s7 s8 s9 s10 s11 s12 s13 s14 s15 s16 s17 s18 s19 hd hi hw
    have hle : s.length ≤ i := by simpa using hd
    have : ¬ i < s.length := by omega
    rw [List.length_nil, L92x0q]
    simp at hw
    subst hw
    simp [this]
    exact hk
  | cons b r ih =>
    intro i s1 s2 s4 s5 s6 s7 s8 s9 s10 s11 s12 s13 s14 s15 s16 s17 s18 s19 hd hi hw
    have hb : s[i]? = some b := by rw [← List.head?_drop, hd]; rfl
    have hlt : i < s.length := (List.getElem?_eq_some_iff.1 hb).1
    have hix := aIndex_at (P := Tryz.prog) (T := 9) (k := .i64) (by simp) hb
    have hdr : s.drop (i + 1) = r := by rw [← List.drop_drop, hd]; rfl
    rw [List.length_cons, L92x0q]
    have hq := isSign_iff b
    rw [List.all_cons] at hw
    by_cases h1 : (b.toNat : Int) < 32
    · have : isSign b = false := by rw [← Bool.not_eq_true]; rw [hq]; omega
      rw [this] at hw
      simp at hw
      subst hw
      simp [hlt, hix, h1]
      exact hk
    · by_cases h2 : 126 < (b.toNat : Int)
      · have : isSign b = false := by rw [← Bool.not_eq_true]; rw [hq]; omega
        rw [this] at hw
        simp at hw
        subst hw
        simp [hlt, hix, h1, h2]
        exact hk
      · have : isSign b = true := by rw [hq]; omega
        rw [this, Bool.true_and] at hw
        simp [hlt, hix, h1, h2, show i + 1 < 2 ^ 63 by omega]
        exact ih (i + 1) _ _ _ _ _ _ _ _ _ _ _ _ _ _ _ _ _ _ hdr hlt hw
theorem r_plain (H : AHeap) {s : List UInt8} (hs : s.length < 2 ^ 62) : ACalls Tryz.prog 92 [str s] H (.bool (s.all isSign)) H := by
  refine acalls_pure MixT Tryz.func92 (by decide) rfl ?_
  rw [d92]
  exact ⟨s.length + 1, rPlain_loop (k := fun u H2 => u = .bool (s.all isSign) ∧ ∃ X, H2 = H ++ X) hs ⟨rfl, [], by simp⟩ s 0 _ _ _ _ _ _ _ _ _ _ _ _ _ _ _ _ _ _ rfl (by omega) rfl⟩
theorem rName_loop {H : AHeap} {s : List UInt8} {k : Value → AHeap → Prop} {w : Bool} (hs : s.length < 2 ^ 62) (hk : k (.bool w) H) :
    ∀ (r : List UInt8) (i : Nat) (s1 s2 s4 s5 s6 s7 s8 s9 s10 s11 s12 s13 s14 s15 s16 s17 s18 s19 s20 s21 s22 s23 s24 s25 s26 s27 s28 s29 s30 s31 s32 s33 s34 s35 s36 s37 s38 s39 s40 s41 s42 s43 s44 s45 s46 s47 s48 s49 s50 s51 s52 s53 s54 s55 s56 : Value), s.drop i = r → i ≤ s.length → w = r.all isMark → L146x0 (r.length + 1) k [str s, s1, s2, i64 i, s4, s5, s6, s7, s8, s9, s10, s11, s12, s13, s14, s15, s16, s17, s18, s19, s20, s21, s22, s23, s24, s25, s26, s27, s28, s29, s30, s31, s32, s33, s34, s35, s36, s37, s38, s39, s40, s41, s42, s43, s44, s45, s46, s47, s48, s49, s50, s51, s52, s53, s54, s55, s56] H := by
  intro r
  induction r with
  | nil =>
    intro i s1 s2 s4 s5 s6 s7 s8 s9 s10 s11 s12 s13 s14 s15 s16 s17 s18 s19 s20 s21 s22 s23 s24 s25 s26 s27 s28 s29 s30 s31 s32 s33 s34 s35 s36 s37 s38 s39 s40 s41 s42 s43 s44 s45 s46 s47 s48 s49 s50 s51 s52 s53 s54 s55 s56 hd hi hw
    have hle : s.length ≤ i := by simpa using hd
    have : ¬ i < s.length := by omega
    rw [List.length_nil, L146x0q]
    simp at hw
    subst hw
    simp [this]
    exact hk
  | cons b r ih =>
    intro i s1 s2 s4 s5 s6 s7 s8 s9 s10 s11 s12 s13 s14 s15 s16 s17 s18 s19 s20 s21 s22 s23 s24 s25 s26 s27 s28 s29 s30 s31 s32 s33 s34 s35 s36 s37 s38 s39 s40 s41 s42 s43 s44 s45 s46 s47 s48 s49 s50 s51 s52 s53 s54 s55 s56 hd hi hw
    have hb : s[i]? = some b := by rw [← List.head?_drop, hd]; rfl
    have hlt : i < s.length := (List.getElem?_eq_some_iff.1 hb).1
    have hix := aIndex_at (P := Tryz.prog) (T := 9) (k := .i64) (by simp) hb
    have hdr : s.drop (i + 1) = r := by rw [← List.drop_drop, hd]; rfl
    rw [List.length_cons, L146x0q]
    have hql := isLow_iff b
    have hqd := isDig_iff b
    rw [List.all_cons] at hw
    have go : isMark b = true → ∀ (s1 s2 s4 s5 s6 s7 s8 s9 s10 s11 s12 s13 s14 s15 s16 s17 s18 s19 s20 s21 s22 s23 s24 s25 s26 s27 s28 s29 s30 s31 s32 s33 s34 s35 s36 s37 s38 s39 s40 s41 s42 s43 s44 s45 s46 s47 s48 s49 s50 s51 s52 s53 s54 s55 s56 : Value), L146x0 (r.length + 1) k [str s, s1, s2, i64 ((i : Int) + 1), s4, s5, s6, s7, s8, s9, s10, s11, s12, s13, s14, s15, s16, s17, s18, s19, s20, s21, s22, s23, s24, s25, s26, s27, s28, s29, s30, s31, s32, s33, s34, s35, s36, s37, s38, s39, s40, s41, s42, s43, s44, s45, s46, s47, s48, s49, s50, s51, s52, s53, s54, s55, s56] H := by
      intro hm s1 s2 s4 s5 s6 s7 s8 s9 s10 s11 s12 s13 s14 s15 s16 s17 s18 s19 s20 s21 s22 s23 s24 s25 s26 s27 s28 s29 s30 s31 s32 s33 s34 s35 s36 s37 s38 s39 s40 s41 s42 s43 s44 s45 s46 s47 s48 s49 s50 s51 s52 s53 s54 s55 s56
      rw [hm, Bool.true_and] at hw
      exact ih (i + 1) _ _ _ _ _ _ _ _ _ _ _ _ _ _ _ _ _ _ _ _ _ _ _ _ _ _ _ _ _ _ _ _ _ _ _ _ _ _ _ _ _ _ _ _ _ _ _ _ _ _ _ _ _ _ _ hdr hlt hw
    have no : isMark b = false → k (.bool false) H := by
      intro hm
      rw [hm, Bool.false_and] at hw
      rw [← hw]
      exact hk
    have hi63 : i + 1 < 2 ^ 63 := by omega
    by_cases l1 : 97 ≤ (b.toNat : Int)
    · by_cases l2 : (b.toNat : Int) ≤ 122
      · simp [hlt, hix, l1, l2, hi63]
        exact go (by simp [isMark, hql.2 ⟨l1, l2⟩]) _ _ _ _ _ _ _ _ _ _ _ _ _ _ _ _ _ _ _ _ _ _ _ _ _ _ _ _ _ _ _ _ _ _ _ _ _ _ _ _ _ _ _ _ _ _ _ _ _ _ _ _ _ _ _
      · have d2 : ¬ (b.toNat : Int) ≤ 57 := by omega
        have d1 : (48 : Int) ≤ (b.toNat : Int) := by omega
        have u : ((b.toNat : Int) == 95) = false := by rw [beq_eq_false_iff_ne]; omega
        simp [hlt, hix, l1, l2, d1, d2, u]
        exact no (by simp [isMark, isLow, isDig, l2, d2, u])
    · by_cases d1 : (48 : Int) ≤ (b.toNat : Int)
      · by_cases d2 : (b.toNat : Int) ≤ 57
        · simp [hlt, hix, l1, d1, d2, hi63]
          exact go (by simp [isMark, hqd.2 ⟨d1, d2⟩]) _ _ _ _ _ _ _ _ _ _ _ _ _ _ _ _ _ _ _ _ _ _ _ _ _ _ _ _ _ _ _ _ _ _ _ _ _ _ _ _ _ _ _ _ _ _ _ _ _ _ _ _ _ _ _
        · by_cases u : ((b.toNat : Int) == 95) = true
          · simp [hlt, hix, l1, d1, d2, u, hi63]
            exact go (by simp [isMark, u]) _ _ _ _ _ _ _ _ _ _ _ _ _ _ _ _ _ _ _ _ _ _ _ _ _ _ _ _ _ _ _ _ _ _ _ _ _ _ _ _ _ _ _ _ _ _ _ _ _ _ _ _ _ _ _
          · have u' : ((b.toNat : Int) == 95) = false := by simpa using u
            simp [hlt, hix, l1, d1, d2, u']
            exact no (by simp [isMark, isLow, isDig, l1, d2, u'])
      · have u' : ((b.toNat : Int) == 95) = false := by rw [beq_eq_false_iff_ne]; omega
        simp [hlt, hix, l1, d1, u']
        exact no (by simp [isMark, isLow, isDig, l1, d1, u'])
theorem r_mayName (H : AHeap) {s : List UInt8} (hs : s.length < 2 ^ 62) : ACalls Tryz.prog 146 [str s] H (.bool (mayName s)) H := by
  refine acalls_pure MixT Tryz.func146 (by decide) rfl ?_
  rw [d146]
  cases s with
  | nil => simp [mayName]
  | cons b r =>
    have h0 := aIndex_at (P := Tryz.prog) (T := 9) (k := .i64) (l := b :: r) (i := 0) (b := b) (by simp) rfl
    simp at h0
    by_cases h16 : (16 : Int) < ((b :: r).length : Nat)
    · have : mayName (b :: r) = false := by simp [mayName]; intro h; simp at h16; omega
      rw [this]
      have h16' : (15 : Int) < r.length := by simp at h16; omega
      have h16'' : (16 : Int) < r.length + 1 := by omega
      have h1 : ¬ (r.length : Int) + 1 < 1 := by omega
      simp [h1, h16'']
    · have h16'' : ¬ (16 : Int) < r.length + 1 := by simp at h16; omega
      have h1 : ¬ (r.length : Int) + 1 < 1 := by omega
      have hl : r.length + 1 ≤ 16 := by omega
      have hql := isLow_iff b
      by_cases l1 : (b.toNat : Int) < 97
      · have : mayName (b :: r) = false := by simp [mayName, isLow]; intros; omega
        rw [this]
        simp [h1, h16'', h0, l1]
      · by_cases l2 : 122 < (b.toNat : Int)
        · have : mayName (b :: r) = false := by simp [mayName, isLow]; intros; omega
          rw [this]
          simp [h1, h16'', h0, l1, l2]
        · have hlow : isLow b = true := hql.2 (by omega)
          simp [h1, h16'', h0, l1, l2]
          have hm : mayName (b :: r) = (b :: r).all isMark := by simp [mayName, hlow, hl]
          exact ⟨(b :: r).length + 1, rName_loop (k := fun u H2 => u = .bool (mayName (b :: r)) ∧ ∃ X, H2 = H ++ X) (by simp at hs ⊢; omega) ⟨rfl, [], by simp⟩ (b :: r) 0 _ _ _ _ _ _ _ _ _ _ _ _ _ _ _ _ _ _ _ _ _ _ _ _ _ _ _ _ _ _ _ _ _ _ _ _ _ _ _ _ _ _ _ _ _ _ _ _ _ _ _ _ _ _ _ rfl (by omega) hm⟩
theorem rDigs_loop {H : AHeap} {s : List UInt8} {k : Value → AHeap → Prop} {w : Bool} (hs : s.length < 2 ^ 62) (hk : k (.bool w) H) :
    ∀ (r : List UInt8) (i : Nat) (s1 s2 s4 s5 s6 s7 s8 s9 s10 s11 s12 s13 s14 s15 s16 s17 s18 s19 s20 s21 : Value), s.drop i = r → i ≤ s.length → w = (r.all isDig && !decide (s = [])) → L147x0 (r.length + 1) k [str s, s1, s2, i64 i, s4, s5, s6, s7, s8, s9, s10, s11, s12, s13, s14, s15, s16, s17, s18, s19, s20, s21] H := by
  intro r
  induction r with
  | nil =>
    intro i s1 s2 s4 s5 s6 s7 s8 s9 s10 s11 s12 s13 s14 s15 s16 s17 s18 s19 s20 s21 hd hi hw
    have hle : s.length ≤ i := by simpa using hd
    have : ¬ i < s.length := by omega
    rw [List.length_nil, L147x0q]
    rw [List.all_nil, Bool.true_and] at hw
    subst hw
    simp [this]
    simpa using hk
  | cons b r ih =>
    intro i s1 s2 s4 s5 s6 s7 s8 s9 s10 s11 s12 s13 s14 s15 s16 s17 s18 s19 s20 s21 hd hi hw
    have hb : s[i]? = some b := by rw [← List.head?_drop, hd]; rfl
    have hlt : i < s.length := (List.getElem?_eq_some_iff.1 hb).1
    have hix := aIndex_at (P := Tryz.prog) (T := 9) (k := .i64) (by simp) hb
    have hdr : s.drop (i + 1) = r := by rw [← List.drop_drop, hd]; rfl
    rw [List.length_cons, L147x0q]
    have hq := isDig_iff b
    rw [List.all_cons] at hw
    by_cases h1 : (b.toNat : Int) < 48
    · have : isDig b = false := by rw [← Bool.not_eq_true]; rw [hq]; omega
      rw [this] at hw
      simp at hw
      subst hw
      simp [hlt, hix, h1]
      exact hk
    · by_cases h2 : 57 < (b.toNat : Int)
      · have : isDig b = false := by rw [← Bool.not_eq_true]; rw [hq]; omega
        rw [this] at hw
        simp at hw
        subst hw
        simp [hlt, hix, h1, h2]
        exact hk
      · have : isDig b = true := by rw [hq]; omega
        rw [this, Bool.true_and] at hw
        simp [hlt, hix, h1, h2, show i + 1 < 2 ^ 63 by omega]
        exact ih (i + 1) _ _ _ _ _ _ _ _ _ _ _ _ _ _ _ _ _ _ _ _ hdr hlt hw
def digsR (s : List UInt8) : Bool := s.all isDig && !decide (s = [])
theorem r_digits (H : AHeap) {s : List UInt8} (hs : s.length < 2 ^ 62) : ACalls Tryz.prog 147 [str s] H (.bool (digsR s)) H := by
  refine acalls_pure MixT Tryz.func147 (by decide) rfl ?_
  rw [d147]
  exact ⟨s.length + 1, rDigs_loop (k := fun u H2 => u = .bool (digsR s) ∧ ∃ X, H2 = H ++ X) hs ⟨rfl, [], by simp⟩ s 0 _ _ _ _ _ _ _ _ _ _ _ _ _ _ _ _ _ _ _ _ rfl (by omega) rfl⟩
theorem byte_all {p : UInt8 → Prop} (h : ∀ n, n < 256 → p (UInt8.ofNat n)) (b : UInt8) : p b := by
  have := h b.toNat b.toNat_lt
  simpa using this
theorem blanks_eq : ∀ b : UInt8, hasB blanks b = ((b.toNat : Int) == 32 || (b.toNat : Int) == 9 || (b.toNat : Int) == 10 || (b.toNat : Int) == 13) :=
  byte_all (by decide +kernel)
theorem r_blank (H : AHeap) (b : UInt8) : ACalls Tryz.prog 61 [byt b] H (.bool (hasB blanks b)) H := by
  refine acalls_pure MixT Tryz.func61 (by decide) rfl ?_
  rw [d61, blanks_eq]
  simp +contextual
theorem mayName_a : ∀ b : UInt8, mayName [97, b] = isMark b := byte_all (by decide +kernel)
def wordR (s : List UInt8) : Bool := s.all isMark && (s[0]?).any isLow
theorem rWord_loop {H : AHeap} {s : List UInt8} {k : Value → AHeap → Prop} {w : Bool} (hs : s.length < 2 ^ 60) (hk : k (.bool w) H) :
    ∀ (r : List UInt8) (i : Nat) (s1 s2 s4 s5 s6 s7 s8 s9 s10 s11 s12 s13 s14 s15 s16 s17 s18 s19 s20 s21 s22 s23 s24 s25 s26 s27 s28 s29 : Value), s.drop i = r → i ≤ s.length → w = (r.all isMark && (s[0]?).any isLow) → L120x0 (r.length + 1) k [str s, s1, s2, i64 i, s4, s5, s6, s7, s8, s9, s10, s11, s12, s13, s14, s15, s16, s17, s18, s19, s20, s21, s22, s23, s24, s25, s26, s27, s28, s29] H := by
  intro r
  induction r with
  | nil =>
    intro i s1 s2 s4 s5 s6 s7 s8 s9 s10 s11 s12 s13 s14 s15 s16 s17 s18 s19 s20 s21 s22 s23 s24 s25 s26 s27 s28 s29 hd hi hw
    have hle : s.length ≤ i := by simpa using hd
    have : ¬ i < s.length := by omega
    rw [List.length_nil, L120x0q]
    rw [List.all_nil, Bool.true_and] at hw
    cases s with
    | nil =>
      simp at hw
      subst hw
      have : ¬ (i : Int) < 0 := by omega
      simp [this]
      exact hk
    | cons b t =>
      have h0 := aIndex_at (P := Tryz.prog) (T := 9) (k := .i64) (l := b :: t) (i := 0) (b := b) (by simp) rfl
      simp at h0
      simp at hw
      have hq := isLow_iff b
      have hn : ¬ (i : Int) < (t.length : Int) + 1 := by simp at hle; omega
      by_cases l1 : 97 ≤ (b.toNat : Int)
      · by_cases l2 : (b.toNat : Int) ≤ 122
        · rw [hq.2 ⟨l1, l2⟩] at hw
          subst hw
          simp [hn, h0, l1, l2]
          exact hk
        · have : isLow b = false := by rw [← Bool.not_eq_true]; rw [hq]; omega
          rw [this] at hw
          subst hw
          simp [hn, h0, l1, l2]
          exact hk
      · have : isLow b = false := by rw [← Bool.not_eq_true]; rw [hq]; omega
        rw [this] at hw
        subst hw
        simp [hn, h0, l1]
        exact hk
  | cons b r ih =>
    intro i s1 s2 s4 s5 s6 s7 s8 s9 s10 s11 s12 s13 s14 s15 s16 s17 s18 s19 s20 s21 s22 s23 s24 s25 s26 s27 s28 s29 hd hi hw
    have hb : s[i]? = some b := by rw [← List.head?_drop, hd]; rfl
    have hlt : i < s.length := (List.getElem?_eq_some_iff.1 hb).1
    have hdr : s.drop (i + 1) = r := by rw [← List.drop_drop, hd]; rfl
    have hsl := aSliceOp_str (P := Tryz.prog) (H := H) (T := 9) (l := s) (lo := some (i64 i)) (hi := some (i64 ((i : Int) + 1))) (a := i) (b := ((i + 1 : Nat) : Int)) (by simp) rfl rfl (by omega) (by omega) (by omega)
    have he : (s.take (i + 1)).drop i = [b] := by
      rw [List.drop_take, hd]; simp
    simp only [Int.toNat_natCast, he] at hsl
    have hcat := fun (H : AHeap) x y => aBin_str (P := Tryz.prog) (H := H) (T := 9) (x := x) (y := y) (a := [97]) (b := [b]) (by simp)
    rw [List.length_cons, L120x0q]
    rw [List.all_cons] at hw
    have hw1 : IntKind.i64.wrap ((i : Int) + 1) = (i : Int) + 1 := wrap_i64 (by omega) (by omega)
    simp [hlt, hw1, hsl]
    refine bnd_of (hcat _ _ _) ?_
    simp
    have hc := r_mayName H (s := [97, b]) (by simp)
    rw [mayName_a] at hc
    refine bndC_of hc ?_
    simp
    cases hm : isMark b with
    | true =>
      rw [hm, Bool.true_and] at hw
      simp [hw1]
      exact ih (i + 1) _ _ _ _ _ _ _ _ _ _ _ _ _ _ _ _ _ _ _ _ _ _ _ _ _ _ _ _ hdr hlt hw
    | false =>
      rw [hm] at hw
      simp at hw
      subst hw
      simp
      exact hk
theorem r_word (H : AHeap) {s : List UInt8} (hs : s.length < 2 ^ 60) : ACalls Tryz.prog 120 [str s] H (.bool (wordR s)) H := by
  refine acalls_pure MixT Tryz.func120 (by decide) rfl ?_
  rw [d120]
  exact ⟨s.length + 1, rWord_loop (k := fun u H2 => u = .bool (wordR s) ∧ ∃ X, H2 = H ++ X) hs ⟨rfl, [], by simp⟩ s 0 _ _ _ _ _ _ _ _ _ _ _ _ _ _ _ _ _ _ _ _ _ _ _ _ _ _ _ _ rfl (by omega) rfl⟩
def numG : List UInt8 → List UInt8 → Bool
  | p, [] => digsR p
  | p, b :: r => if ((b.toNat : Int) == 46) = true then digsR p && digsR r else numG (p ++ [b]) r
def numR (s : List UInt8) : Bool := numG [] s
theorem rNum_loop {H : AHeap} {s : List UInt8} {k : Value → AHeap → Prop} {w : Bool} (hs : s.length < 2 ^ 60) (hk : k (.bool w) H) :
    ∀ (r : List UInt8) (i : Nat) (s1 s2 s4 s5 s6 s7 s8 s9 s10 s11 s12 s13 s14 s15 s16 s17 s18 s19 s20 s21 s22 s23 s24 s25 s26 : Value), s.drop i = r → i ≤ s.length → w = numG (s.take i) r → L121x0 (r.length + 1) k [str s, s1, s2, i64 i, s4, s5, s6, s7, s8, s9, s10, s11, s12, s13, s14, s15, s16, s17, s18, s19, s20, s21, s22, s23, s24, s25, s26] H := by
  intro r
  induction r with
  | nil =>
    intro i s1 s2 s4 s5 s6 s7 s8 s9 s10 s11 s12 s13 s14 s15 s16 s17 s18 s19 s20 s21 s22 s23 s24 s25 s26 hd hi hw
    have hle : s.length ≤ i := by simpa using hd
    have : ¬ i < s.length := by omega
    rw [List.length_nil, L121x0q]
    simp only [numG, List.take_of_length_le hle] at hw
    subst hw
    simp [this]
    exact bndC_of (r_digits H (by omega)) hk
  | cons b r ih =>
    intro i s1 s2 s4 s5 s6 s7 s8 s9 s10 s11 s12 s13 s14 s15 s16 s17 s18 s19 s20 s21 s22 s23 s24 s25 s26 hd hi hw
    have hb : s[i]? = some b := by rw [← List.head?_drop, hd]; rfl
    have hlt : i < s.length := (List.getElem?_eq_some_iff.1 hb).1
    have hix := aIndex_at (P := Tryz.prog) (T := 9) (k := .i64) (by simp) hb
    have hdr : s.drop (i + 1) = r := by rw [← List.drop_drop, hd]; rfl
    have hw1 : IntKind.i64.wrap ((i : Int) + 1) = (i : Int) + 1 := wrap_i64 (by omega) (by omega)
    have h1 := aSliceOp_str (P := Tryz.prog) (H := H) (T := 9) (l := s) (lo := none) (hi := some (i64 i)) (a := 0) (b := i) (by simp) rfl rfl (by omega) (by omega) (by omega)
    have h2 := aSliceOp_str (P := Tryz.prog) (H := H) (T := 9) (l := s) (lo := some (i64 ((i : Int) + 1))) (hi := none) (a := ((i + 1 : Nat) : Int)) (b := s.length) (by simp) rfl rfl (by omega) (by omega) (by omega)
    simp only [Int.toNat_natCast, List.take_length, hdr] at h1 h2
    simp at h1
    rw [List.length_cons, L121x0q]
    rw [numG] at hw
    by_cases h46 : ((b.toNat : Int) == 46) = true
    · rw [if_pos h46] at hw
      subst hw
      simp [hlt, hix, h46, h1]
      refine bndC_of (r_digits H (by simp; omega)) ?_
      have hrl : r.length < 2 ^ 62 := by rw [← hdr, List.length_drop]; omega
      cases hp : digsR (s.take i) with
      | true =>
        rw [hp] at hk
        simp [hw1, h2]
        refine bndG_t (.bool (digsR r)) H (r_digits H hrl) ?_
        simpa using hk
      | false =>
        rw [hp] at hk
        simpa using hk
    · rw [if_neg h46] at hw
      have h46' : ((b.toNat : Int) == 46) = false := by simpa using h46
      simp [hlt, hix, h46', hw1]
      refine ih (i + 1) _ _ _ _ _ _ _ _ _ _ _ _ _ _ _ _ _ _ _ _ _ _ _ _ _ hdr hlt ?_
      rw [hw, List.take_add_one, hb]; rfl
theorem r_number (H : AHeap) {s : List UInt8} (hs : s.length < 2 ^ 60) : ACalls Tryz.prog 121 [str s] H (.bool (numR s)) H := by
  refine acalls_pure MixT Tryz.func121 (by decide) rfl ?_
  rw [d121]
  exact ⟨s.length + 1, rNum_loop (k := fun u H2 => u = .bool (numR s) ∧ ∃ X, H2 = H ++ X) hs ⟨rfl, [], by simp⟩ s 0 _ _ _ _ _ _ _ _ _ _ _ _ _ _ _ _ _ _ _ _ _ _ _ _ _ rfl (by omega) (by simp [numR])⟩
def signsR : List (List UInt8) := [[60, 61], [62, 61], [61, 61], [33, 61], [94, 61], [123], [125], [40], [41], [91], [93], [44], [58], [59], [61], [60], [62], [45]]
theorem rSign_loop {K : AHeap} {v : Value} {s : List UInt8} {k : Value → AHeap → Prop} {w : Bool} (ha : Arr K 1 v (strCells signsR)) (hk : k (.bool w) K) :
    ∀ (r : List (List UInt8)) (i : Nat) (s1 s2 s5 s6 s7 s8 s9 s10 s11 s12 s13 s14 s15 s16 s17 : Value), signsR.drop i = r → i ≤ signsR.length → w = decide (s ∈ r) → L122x0 (r.length + 1) k [str s, s1, s2, v, i64 i, s5, s6, s7, s8, s9, s10, s11, s12, s13, s14, s15, s16, s17] K := by
  have hlen := ha.len (P := Tryz.prog) (T := 42) (e := 9) (by simp)
  have hl18 : signsR.length = 18 := rfl
  simp [strCells] at hlen
  intro r
  induction r with
  | nil =>
    intro i s1 s2 s5 s6 s7 s8 s9 s10 s11 s12 s13 s14 s15 s16 s17 hd hi hw
    have hle : signsR.length ≤ i := by simpa using hd
    have : ¬ i < signsR.length := by omega
    rw [List.length_nil, L122x0q]
    simp at hw
    subst hw
    simp [hlen, this]
    exact hk
  | cons x r ih =>
    intro i s1 s2 s5 s6 s7 s8 s9 s10 s11 s12 s13 s14 s15 s16 s17 hd hi hw
    have hb : signsR[i]? = some x := by rw [← List.head?_drop, hd]; rfl
    have hlt : i < signsR.length := (List.getElem?_eq_some_iff.1 hb).1
    have hdr : signsR.drop (i + 1) = r := by rw [← List.drop_drop, hd]; rfl
    obtain ⟨q, hp1, hp2⟩ := ha.load1 (P := Tryz.prog) (T := 42) (te := 9) (i := i) (x := str x) (by simp) (by simp) (by simp) (by simp [strCells, hb])
    rw [List.length_cons, L122x0q]
    by_cases he : x = s
    · have : w = true := by rw [hw]; simp [he]
      subst this
      simp [hlen, hlt, hp1, hp2, he]
      exact hk
    · have he' : ¬ s = x := fun e => he e.symm
      simp [hlen, hlt, hp1, hp2, he, show i + 1 < 2 ^ 63 by omega]
      exact ih (i + 1) _ _ _ _ _ _ _ _ _ _ _ _ _ _ _ hdr hlt (by rw [hw]; simp [he'])
set_option maxRecDepth 20000 in
theorem r_sign (H : AHeap) (s : List UInt8) : ACalls Tryz.prog 122 [str s] H (.bool (decide (s ∈ signsR))) H := by
  refine acalls_pure MixT Tryz.func122 (by decide) rfl ?_
  rw [d122]
  have hs := sliceLit1 (H := H) (P := Tryz.prog) (T := 42) (e := 9) (zv := .string ByteArray.empty) (l := signsR.map str) (n := 18) (by kernel_rfl) (by decide) rfl (by decide)
  refine bndL_lit hs ?_
  have ha := arr_strs (H := H) signsR 9 18 rfl
  exact ⟨signsR.length + 1, rSign_loop (k := fun u H2 => u = .bool (decide (s ∈ signsR)) ∧ ∃ X, H2 = H ++ X) ha ⟨rfl, _, rfl⟩ signsR 0 _ _ _ _ _ _ _ _ _ _ _ _ _ _ _ rfl (by decide) rfl⟩
def kindR (s : List UInt8) : Int × List UInt8 := if wordR s = true then (1, s) else if numR s = true then (2, s) else if s ∈ signsR then (4, s) else (0, [])
theorem r_kind (H : AHeap) {s : List UInt8} (hs : s.length < 2 ^ 60) : ACalls Tryz.prog 93 [str s] H (.tuple #[.int .u8 (kindR s).1, str (kindR s).2]) H := by
  refine acallsT_pure MixT Tryz.func93 (by decide) rfl ?_
  rw [d93]
  refine bndC_of (r_word H hs) ?_
  unfold kindR
  cases h1 : wordR s with
  | true => simp
  | false =>
    simp
    refine bndC_of (r_number H hs) ?_
    cases h2 : numR s with
    | true => simp
    | false =>
      simp
      refine bndC_of (r_sign H s) ?_
      by_cases h3 : s ∈ signsR
      · simp [h3]
      · simp [h3]
end Go.Vi
namespace Go.Vi
open Go Go.Proofs

def quoR : List UInt8 → List UInt8 → Nat → List UInt8 × Nat
  | [], _, _ => ([], 0)
  | b :: r, acc, c => if ((b.toNat : Int) == 34) = true then (acc, c + 1)
      else if ((b.toNat : Int) == 92) = true then match r with
        | e :: r' => if ((e.toNat : Int) == 34 || (e.toNat : Int) == 92) = true then quoR r' (acc ++ [e]) (c + 2) else ([], 0)
        | [] => ([], 0)
      else quoR r (acc ++ [b]) (c + 1)
theorem quoR_cons (b : UInt8) (r acc : List UInt8) (c : Nat) : quoR (b :: r) acc c = if ((b.toNat : Int) == 34) = true then (acc, c + 1)
      else if ((b.toNat : Int) == 92) = true then match r with
        | e :: r' => if ((e.toNat : Int) == 34 || (e.toNat : Int) == 92) = true then quoR r' (acc ++ [e]) (c + 2) else ([], 0)
        | [] => ([], 0)
      else quoR r (acc ++ [b]) (c + 1) := by
  cases r <;> (rw [quoR] <;> rfl)
theorem rQuo_loop {H : AHeap} {s : List UInt8} {k : Value → AHeap → Prop} {w : List UInt8 × Nat} (hs : s.length < 2 ^ 60) (hk : k (.tuple #[str w.1, i64 w.2]) H) :
    ∀ (n : Nat) (r acc : List UInt8) (i : Nat) (s1 s2 s3 s6 s7 s8 s9 s10 s11 s12 s13 s14 s15 s16 s17 s18 s19 s20 s21 s22 s23 s24 s25 s26 s27 s28 s29 s30 s31 s32 s33 s34 s35 s36 s37 s38 s39 s40 s41 s42 s43 s44 s45 s46 s47 s48 s49 s50 s51 s52 s53 s54 : Value), r.length ≤ n → s.drop i = r → i ≤ s.length → acc.length ≤ i → w = quoR r acc i → L91x0 (n + 1) k [str s, s1, s2, s3, str acc, i64 i, s6, s7, s8, s9, s10, s11, s12, s13, s14, s15, s16, s17, s18, s19, s20, s21, s22, s23, s24, s25, s26, s27, s28, s29, s30, s31, s32, s33, s34, s35, s36, s37, s38, s39, s40, s41, s42, s43, s44, s45, s46, s47, s48, s49, s50, s51, s52, s53, s54] H := by
  intro n
  induction n with
  | zero =>
    intro r acc i s1 s2 s3 s6 s7 s8 s9 s10 s11 s12 s13 s14 s15 s16 s17 s18 s19 s20 s21 s22 s23 s24 s25 s26 s27 s28 s29 s30 s31 s32 s33 s34 s35 s36 s37 s38 s39 s40 s41 s42 s43 s44 s45 s46 s47 s48 s49 s50 s51 s52 s53 s54 hn hd hi hac hw
    have : r = [] := List.eq_nil_of_length_eq_zero (by omega)
    subst this
    have hle : s.length ≤ i := by simpa using hd
    have : ¬ i < s.length := by omega
    rw [L91x0q]
    rw [quoR] at hw
    subst hw
    simp [this]
    exact hk
  | succ n ih =>
    intro r acc i s1 s2 s3 s6 s7 s8 s9 s10 s11 s12 s13 s14 s15 s16 s17 s18 s19 s20 s21 s22 s23 s24 s25 s26 s27 s28 s29 s30 s31 s32 s33 s34 s35 s36 s37 s38 s39 s40 s41 s42 s43 s44 s45 s46 s47 s48 s49 s50 s51 s52 s53 s54 hn hd hi hac hw
    cases r with
    | nil =>
      have hle : s.length ≤ i := by simpa using hd
      have : ¬ i < s.length := by omega
      rw [L91x0q]
      rw [quoR] at hw
      subst hw
      simp [this]
      exact hk
    | cons b r =>
      have hb : s[i]? = some b := by rw [← List.head?_drop, hd]; rfl
      have hlt : i < s.length := (List.getElem?_eq_some_iff.1 hb).1
      have hix := aIndex_at (P := Tryz.prog) (T := 9) (k := .i64) (by simp) hb
      have hdr : s.drop (i + 1) = r := by rw [← List.drop_drop, hd]; rfl
      have step : ∀ (j : Nat) (e : UInt8) (r' : List UInt8) (s1 s2 s3 s6 s7 s8 s9 s10 s11 s12 s13 s14 s15 s16 s17 s18 s19 s20 s21 s22 s23 s24 s25 s26 s27 s28 s29 s30 s31 s32 s33 s34 s35 s36 s37 s38 s39 s40 s41 s42 s43 s44 s45 s46 s47 s48 s49 s50 s51 s52 s53 s54 : Value), s.drop j = e :: r' → i ≤ j → r'.length ≤ n → w = quoR r' (acc ++ [e]) (j + 1) → S91x0 (n + 1) k [str s, s1, s2, s3, str acc, i64 j, s6, s7, s8, s9, s10, s11, s12, s13, s14, s15, s16, s17, s18, s19, s20, s21, s22, s23, s24, s25, s26, s27, s28, s29, s30, s31, s32, s33, s34, s35, s36, s37, s38, s39, s40, s41, s42, s43, s44, s45, s46, s47, s48, s49, s50, s51, s52, s53, s54] H := by
        intro j e r' s1 s2 s3 s6 s7 s8 s9 s10 s11 s12 s13 s14 s15 s16 s17 s18 s19 s20 s21 s22 s23 s24 s25 s26 s27 s28 s29 s30 s31 s32 s33 s34 s35 s36 s37 s38 s39 s40 s41 s42 s43 s44 s45 s46 s47 s48 s49 s50 s51 s52 s53 s54 hdj hij hrl hw2
        have hjl : j < s.length := by
          have := congrArg List.length hdj
          simp at this
          omega
        have hdr' : s.drop (j + 1) = r' := by rw [← List.drop_drop, hdj]; rfl
        have hw1 : IntKind.i64.wrap ((j : Int) + 1) = (j : Int) + 1 := wrap_i64 (by omega) (by omega)
        have hsl := aSliceOp_str (P := Tryz.prog) (H := H) (T := 9) (l := s) (lo := some (i64 j)) (hi := some (i64 ((j : Int) + 1))) (a := j) (b := ((j + 1 : Nat) : Int)) (by simp) rfl rfl (by omega) (by omega) (by omega)
        have he : (s.take (j + 1)).drop j = [e] := by rw [List.drop_take, hdj]; simp
        simp only [Int.toNat_natCast, he] at hsl
        have hcat := fun x y => aBin_str (P := Tryz.prog) (H := H) (T := 9) (x := x) (y := y) (a := acc) (b := [e]) (by simp; omega)
        rw [S91x0q]
        simp [hw1, hsl, hcat]
        exact ih r' (acc ++ [e]) (j + 1) _ _ _ _ _ _ _ _ _ _ _ _ _ _ _ _ _ _ _ _ _ _ _ _ _ _ _ _ _ _ _ _ _ _ _ _ _ _ _ _ _ _ _ _ _ _ _ _ _ _ _ _ hrl hdr' hjl (by simp; omega) hw2
      rw [L91x0q]
      rw [quoR_cons] at hw
      simp only [List.length_cons] at hn
      have hw1 : IntKind.i64.wrap ((i : Int) + 1) = (i : Int) + 1 := wrap_i64 (by omega) (by omega)
      by_cases h34 : ((b.toNat : Int) == 34) = true
      · rw [if_pos h34] at hw
        subst hw
        simp [hlt, hix, h34, hw1]
        exact hk
      · have h34' : ((b.toNat : Int) == 34) = false := by simpa using h34
        rw [if_neg h34] at hw
        by_cases h92 : ((b.toNat : Int) == 92) = true
        · rw [if_pos h92] at hw
          cases r with
          | nil =>
            have hle : s.length ≤ i + 1 := by simpa using hdr
            have hn1 : ((i : Int) + 1 == s.length) = true := by rw [beq_iff_eq]; omega
            simp only at hw
            subst hw
            simp [hlt, hix, h34', h92, hw1, hn1]
            exact hk
          | cons e r' =>
            have he : s[i + 1]? = some e := by rw [← List.head?_drop, hdr]; rfl
            have hlt1 : i + 1 < s.length := (List.getElem?_eq_some_iff.1 he).1
            have hie := aIndex_at (P := Tryz.prog) (T := 9) (k := .i64) (by simp) he
            have hne : ¬ (i : Int) + 1 = s.length := by omega
            have hneb : ((i : Int) + 1 == s.length) = false := by simpa using hne
            simp only [Int.natCast_add, Int.cast_ofNat_Int] at hie
            simp only at hw
            simp only [List.length_cons] at hn
            by_cases q1 : ((e.toNat : Int) == 34) = true
            · rw [if_pos (by simp [q1])] at hw
              have q1' : ((e.toNat : Int) != 34) = false := by simpa using q1
              simp [hlt, hix, h34', h92, hw1, hneb, hie, q1']
              exact step (i + 1) e r' _ _ _ _ _ _ _ _ _ _ _ _ _ _ _ _ _ _ _ _ _ _ _ _ _ _ _ _ _ _ _ _ _ _ _ _ _ _ _ _ _ _ _ _ _ _ _ _ _ _ _ _ hdr (by omega) (by omega) hw
            · have q1' : ((e.toNat : Int) != 34) = true := by simpa using q1
              by_cases q2 : ((e.toNat : Int) == 92) = true
              · rw [if_pos (by simp [q2])] at hw
                have q2' : ((e.toNat : Int) != 92) = false := by simpa using q2
                simp [hlt, hix, h34', h92, hw1, hneb, hie, q1', q2']
                exact step (i + 1) e r' _ _ _ _ _ _ _ _ _ _ _ _ _ _ _ _ _ _ _ _ _ _ _ _ _ _ _ _ _ _ _ _ _ _ _ _ _ _ _ _ _ _ _ _ _ _ _ _ _ _ _ _ hdr (by omega) (by omega) hw
              · rw [if_neg (by simp only [Bool.or_eq_true, not_or]; exact ⟨q1, q2⟩)] at hw
                have q2' : ((e.toNat : Int) != 92) = true := by simpa using q2
                subst hw
                simp [hlt, hix, h34', h92, hw1, hneb, hie, q1', q2']
                exact hk
        · have h92' : ((b.toNat : Int) == 92) = false := by simpa using h92
          rw [if_neg h92] at hw
          simp [hlt, hix, h34', h92']
          exact step i b r _ _ _ _ _ _ _ _ _ _ _ _ _ _ _ _ _ _ _ _ _ _ _ _ _ _ _ _ _ _ _ _ _ _ _ _ _ _ _ _ _ _ _ _ _ _ _ _ _ _ _ _ hd (by omega) (by omega) hw
def quotR : List UInt8 → List UInt8 × Nat
  | [] => ([], 0)
  | b :: r => if ((b.toNat : Int) == 34) = true then quoR r [] 1 else ([], 0)
theorem r_quoted (H : AHeap) {s : List UInt8} (hs : s.length < 2 ^ 60) : ACalls Tryz.prog 91 [str s] H (.tuple #[str (quotR s).1, i64 (quotR s).2]) H := by
  refine acallsT_pure MixT Tryz.func91 (by decide) rfl ?_
  rw [d91]
  cases s with
  | nil => simp [quotR]
  | cons b r =>
    have h0 := aIndex_at (P := Tryz.prog) (T := 9) (k := .i64) (l := b :: r) (i := 0) (b := b) (by simp) rfl
    simp at h0
    rw [quotR]
    by_cases h34 : ((b.toNat : Int) == 34) = true
    · have h34' : ((b.toNat : Int) != 34) = false := by simpa using h34
      rw [if_pos h34]
      simp [h0, h34']
      exact ⟨r.length + 1, rQuo_loop (k := fun u H2 => u = .tuple #[str (quoR r [] 1).1, i64 (quoR r [] 1).2] ∧ ∃ X, H2 = H ++ X) hs ⟨rfl, [], by simp⟩ r.length r [] 1 _ _ _ _ _ _ _ _ _ _ _ _ _ _ _ _ _ _ _ _ _ _ _ _ _ _ _ _ _ _ _ _ _ _ _ _ _ _ _ _ _ _ _ _ _ _ _ _ _ _ _ _ (Nat.le_refl _) rfl (by simp) (by simp) rfl⟩
    · have h34' : ((b.toNat : Int) != 34) = true := by simpa using h34
      rw [if_neg h34]
      simp [h0, h34']
end Go.Vi
namespace Go.Vi
open Go Go.Proofs

abbrev RT := Option (Int × List UInt8 × Nat)
def rcl (a : Nat) : RT → List Value
  | none => [.int .u8 0, str [], i64 0, i64 0]
  | some (k, x, n) => [.int .u8 k, str x, i64 a, i64 ((a + n : Nat) : Int)]
def brk (n : Nat) : RT → Bool
  | none => decide (2 < n)
  | some (_, _, m) => decide (m + 1 < n)
def upR (t : List UInt8) (n : Nat) (o : RT) : RT := if 0 < (kindR (t.take n)).1 then some ((kindR (t.take n)).1, (kindR (t.take n)).2, n) else o
def loR (t : List UInt8) : Nat → Nat → RT → RT
  | 0, _, o => o
  | f + 1, n, o => if n ≤ t.length then (if brk n (upR t n o) = true then upR t n o else loR t f (n + 1) (upR t n o)) else o
def okR : RT → Prop
  | none => True
  | some (k, _, m) => 0 < k ∧ m ≤ 2 ^ 60
set_option maxRecDepth 20000 in
set_option maxHeartbeats 1600000 in
theorem long_loop {H : AHeap} {s t : List UInt8} {a : Nat} {z0 z1 z2 z3 : Value} {k : Value → AHeap → Prop} {w : RT} (hs : s.length < 2 ^ 60) (ht : s.drop a = t) (ha : a ≤ s.length) (hk : k (.agg (rcl a w).toArray) (H ++ [.cells (rcl a w) 72, .cells (rcl a w) 72])) :
    ∀ (f n : Nat) (o : RT) (s2 s3 s6 s7 s9 s10 s11 s12 s13 s14 s15 s16 s17 s18 s19 s20 s21 s22 s23 s24 s25 s26 s27 s28 s29 s30 s31 s32 s33 s34 s35 s36 s37 s38 s39 s40 s41 s42 s43 s44 s45 s46 s47 s48 s49 s50 s51 s52 s53 s54 s55 s56 s57 s58 s59 s60 s61 s62 s63 s64 s65 s66 s67 s68 s69 s70 s71 s72 s73 s74 s75 s76 s77 s78 s79 s80 s81 s82 s83 s84 : Value), t.length + 1 ≤ f + n → 1 ≤ n → n ≤ t.length + 1 → okR o → w = loR t f n o →
      L62x0 (f + 1) k [str s, i64 a, s2, s3, .pointer (some ⟨H.length, 0, some 4⟩), .pointer (some ⟨H.length + 1, 0, some 4⟩), s6, s7, i64 ((a + n : Nat) : Int), s9, s10, s11, s12, s13, s14, s15, s16, s17, s18, s19, s20, s21, s22, s23, s24, s25, s26, s27, s28, s29, s30, s31, s32, s33, s34, s35, s36, s37, s38, s39, s40, s41, s42, s43, s44, s45, s46, s47, s48, s49, s50, s51, s52, s53, s54, s55, s56, s57, s58, s59, s60, s61, s62, s63, s64, s65, s66, s67, s68, s69, s70, s71, s72, s73, s74, s75, s76, s77, s78, s79, s80, s81, s82, s83, s84] (H ++ [.cells [z0, z1, z2, z3] 72, .cells (rcl a o) 72]) := by
  have htl : t.length = s.length - a := by rw [← ht, List.length_drop]
  have done : ∀ (o : RT) (s0 s1 s2 s3 s6 s7 s8 s9 s10 s11 s12 s13 s14 s15 s16 s17 s18 s19 s20 s21 s22 s23 s24 s25 s26 s27 s28 s29 s30 s31 s32 s33 s34 s35 s36 s37 s38 s39 s40 s41 s42 s43 s44 s45 s46 s47 s48 s49 s50 s51 s52 s53 s54 s55 s56 s57 s58 s59 s60 s61 s62 s63 s64 s65 s66 s67 s68 s69 s70 s71 s72 s73 s74 s75 s76 s77 s78 s79 s80 s81 s82 s83 s84 : Value), w = o → S62x2 k [s0, s1, s2, s3, .pointer (some ⟨H.length, 0, some 4⟩), .pointer (some ⟨H.length + 1, 0, some 4⟩), s6, s7, s8, s9, s10, s11, s12, s13, s14, s15, s16, s17, s18, s19, s20, s21, s22, s23, s24, s25, s26, s27, s28, s29, s30, s31, s32, s33, s34, s35, s36, s37, s38, s39, s40, s41, s42, s43, s44, s45, s46, s47, s48, s49, s50, s51, s52, s53, s54, s55, s56, s57, s58, s59, s60, s61, s62, s63, s64, s65, s66, s67, s68, s69, s70, s71, s72, s73, s74, s75, s76, s77, s78, s79, s80, s81, s82, s83, s84] (H ++ [.cells [z0, z1, z2, z3] 72, .cells (rcl a o) 72]) := by
    intro o s0 s1 s2 s3 s6 s7 s8 s9 s10 s11 s12 s13 s14 s15 s16 s17 s18 s19 s20 s21 s22 s23 s24 s25 s26 s27 s28 s29 s30 s31 s32 s33 s34 s35 s36 s37 s38 s39 s40 s41 s42 s43 s44 s45 s46 s47 s48 s49 s50 s51 s52 s53 s54 s55 s56 s57 s58 s59 s60 s61 s62 s63 s64 s65 s66 s67 s68 s69 s70 s71 s72 s73 s74 s75 s76 s77 s78 s79 s80 s81 s82 s83 s84 hw
    subst hw
    rw [S62x2q]
    have hr : ∃ c0 c1 c2 c3, rcl a w = [c0, c1, c2, c3] ∧ c0.oneCell' = true ∧ c1.oneCell' = true ∧ c2.oneCell' = true ∧ c3.oneCell' = true := by
      cases w with
      | none => exact ⟨_, _, _, _, rfl, rfl, rfl, rfl, rfl⟩
      | some p => exact ⟨_, _, _, _, rfl, rfl, rfl, rfl, rfl⟩
    obtain ⟨c0, c1, c2, c3, e, o0, o1, o2, o3⟩ := hr
    rw [e] at hk ⊢
    simp [o0, o1, o2, o3]
    exact hk
  intro f
  induction f with
  | zero =>
    intro n o s2 s3 s6 s7 s9 s10 s11 s12 s13 s14 s15 s16 s17 s18 s19 s20 s21 s22 s23 s24 s25 s26 s27 s28 s29 s30 s31 s32 s33 s34 s35 s36 s37 s38 s39 s40 s41 s42 s43 s44 s45 s46 s47 s48 s49 s50 s51 s52 s53 s54 s55 s56 s57 s58 s59 s60 s61 s62 s63 s64 s65 s66 s67 s68 s69 s70 s71 s72 s73 s74 s75 s76 s77 s78 s79 s80 s81 s82 s83 s84 hf h1 hn ho hw
    rw [L62x0q]
    have : ¬ ((a + n : Nat) : Int) ≤ s.length := by omega
    simp only [Int.natCast_add] at this
    simp [this]
    rw [B62x0q]
    exact done o _ _ _ _ _ _ _ _ _ _ _ _ _ _ _ _ _ _ _ _ _ _ _ _ _ _ _ _ _ _ _ _ _ _ _ _ _ _ _ _ _ _ _ _ _ _ _ _ _ _ _ _ _ _ _ _ _ _ _ _ _ _ _ _ _ _ _ _ _ _ _ _ _ _ _ _ _ _ _ _ _ _ _ hw
  | succ f ih =>
    intro n o s2 s3 s6 s7 s9 s10 s11 s12 s13 s14 s15 s16 s17 s18 s19 s20 s21 s22 s23 s24 s25 s26 s27 s28 s29 s30 s31 s32 s33 s34 s35 s36 s37 s38 s39 s40 s41 s42 s43 s44 s45 s46 s47 s48 s49 s50 s51 s52 s53 s54 s55 s56 s57 s58 s59 s60 s61 s62 s63 s64 s65 s66 s67 s68 s69 s70 s71 s72 s73 s74 s75 s76 s77 s78 s79 s80 s81 s82 s83 s84 hf h1 hn ho hw
    rw [L62x0q]
    rw [loR] at hw
    by_cases hle : n ≤ t.length
    · rw [if_pos hle] at hw
      have hle' : ((a + n : Nat) : Int) ≤ s.length := by omega
      have hsl := fun (H : AHeap) => aSliceOp_str (P := Tryz.prog) (H := H) (T := 9) (l := s) (lo := some (i64 a)) (hi := some (i64 ((a + n : Nat) : Int))) (a := a) (b := ((a + n : Nat) : Int)) (by simp) rfl rfl (by omega) (by omega) (by omega)
      have he : (s.take (a + n)).drop a = t.take n := by rw [List.drop_take, ht]; congr 1; omega
      simp only [Int.toNat_natCast, he] at hsl
      have hkd := r_kind (H ++ [.cells [z0, z1, z2, z3] 72, .cells (rcl a o) 72]) (s := t.take n) (by simp; omega)
      simp only [Int.natCast_add] at hle' hsl
      simp [hle', hsl]
      refine bndC_of hkd ?_
      simp
      have tail : ∀ (o' : RT) (s2 s3 s6 s7 s9 s10 s11 s12 s13 s14 s15 s16 s17 s18 s19 s20 s21 s22 s23 s24 s25 s26 s27 s28 s29 s30 s31 s32 s33 s34 s35 s36 s37 s38 s39 s40 s41 s42 s43 s44 s45 s46 s47 s48 s49 s50 s51 s52 s53 s54 s55 s56 s57 s58 s59 s60 s61 s62 s63 s64 s65 s66 s67 s68 s69 s70 s71 s72 s73 s74 s75 s76 s77 s78 s79 s80 s81 s82 s83 s84 : Value), okR o' → w = (if brk n o' = true then o' else loR t f (n + 1) o') →
          S62x1 (f + 1) k [str s, i64 a, s2, s3, .pointer (some ⟨H.length, 0, some 4⟩), .pointer (some ⟨H.length + 1, 0, some 4⟩), s6, s7, i64 ((a : Int) + n), s9, s10, s11, s12, s13, s14, s15, s16, s17, s18, s19, s20, s21, s22, s23, s24, s25, s26, s27, s28, s29, s30, s31, s32, s33, s34, s35, s36, s37, s38, s39, s40, s41, s42, s43, s44, s45, s46, s47, s48, s49, s50, s51, s52, s53, s54, s55, s56, s57, s58, s59, s60, s61, s62, s63, s64, s65, s66, s67, s68, s69, s70, s71, s72, s73, s74, s75, s76, s77, s78, s79, s80, s81, s82, s83, s84] (H ++ [.cells [z0, z1, z2, z3] 72, .cells (rcl a o') 72]) := by
        intro o' s2 s3 s6 s7 s9 s10 s11 s12 s13 s14 s15 s16 s17 s18 s19 s20 s21 s22 s23 s24 s25 s26 s27 s28 s29 s30 s31 s32 s33 s34 s35 s36 s37 s38 s39 s40 s41 s42 s43 s44 s45 s46 s47 s48 s49 s50 s51 s52 s53 s54 s55 s56 s57 s58 s59 s60 s61 s62 s63 s64 s65 s66 s67 s68 s69 s70 s71 s72 s73 s74 s75 s76 s77 s78 s79 s80 s81 s82 s83 s84 ho' hw'
        rw [S62x1q]
        have wn : IntKind.i64.wrap ((a : Int) + n + 1) = ((a + (n + 1) : Nat) : Int) := by rw [wrap_i64 (by omega) (by omega)]; omega
        have wa : IntKind.i64.wrap ((a : Int) + 2) = (a : Int) + 2 := wrap_i64 (by omega) (by omega)
        cases o' with
        | none =>
          by_cases hb : 2 < n
          · have hbI : (a : Int) + 2 < (a : Int) + n := by omega
            simp only [brk, hb, decide_true, if_true] at hw'
            simp [rcl, wa, hbI]
            rw [B62x1q]
            exact done none _ _ _ _ _ _ _ _ _ _ _ _ _ _ _ _ _ _ _ _ _ _ _ _ _ _ _ _ _ _ _ _ _ _ _ _ _ _ _ _ _ _ _ _ _ _ _ _ _ _ _ _ _ _ _ _ _ _ _ _ _ _ _ _ _ _ _ _ _ _ _ _ _ _ _ _ _ _ _ _ _ _ _ hw'
          · have hbI : ¬ (a : Int) + 2 < (a : Int) + n := by omega
            simp only [brk, hb, decide_false, if_false, Bool.false_eq_true] at hw'
            simp [rcl, wa, hbI, wn]
            exact ih (n + 1) none _ _ _ _ _ _ _ _ _ _ _ _ _ _ _ _ _ _ _ _ _ _ _ _ _ _ _ _ _ _ _ _ _ _ _ _ _ _ _ _ _ _ _ _ _ _ _ _ _ _ _ _ _ _ _ _ _ _ _ _ _ _ _ _ _ _ _ _ _ _ _ _ _ _ _ _ _ _ _ _ (by omega) (by omega) (by omega) trivial hw'
        | some q =>
          obtain ⟨kk, x, m⟩ := q
          obtain ⟨hkk, hm60⟩ : 0 < kk ∧ m ≤ 2 ^ 60 := ho'
          have hk0 : (kk == 0) = false := by rw [beq_eq_false_iff_ne]; omega
          have wm : IntKind.i64.wrap ((a : Int) + m + 1) = (a : Int) + m + 1 := wrap_i64 (by omega) (by omega)
          by_cases hb : m + 1 < n
          · have hbI : (a : Int) + m + 1 < (a : Int) + n := by omega
            simp only [brk, hb, decide_true, if_true] at hw'
            simp [rcl, hkk, wm, hbI]
            rw [B62x1q]
            exact done (some (kk, x, m)) _ _ _ _ _ _ _ _ _ _ _ _ _ _ _ _ _ _ _ _ _ _ _ _ _ _ _ _ _ _ _ _ _ _ _ _ _ _ _ _ _ _ _ _ _ _ _ _ _ _ _ _ _ _ _ _ _ _ _ _ _ _ _ _ _ _ _ _ _ _ _ _ _ _ _ _ _ _ _ _ _ _ _ hw'
          · have hbI : ¬ (a : Int) + m + 1 < (a : Int) + n := by omega
            simp only [brk, hb, decide_false, if_false, Bool.false_eq_true] at hw'
            simp [rcl, hkk, wm, hbI, hk0, wn]
            exact ih (n + 1) (some (kk, x, m)) _ _ _ _ _ _ _ _ _ _ _ _ _ _ _ _ _ _ _ _ _ _ _ _ _ _ _ _ _ _ _ _ _ _ _ _ _ _ _ _ _ _ _ _ _ _ _ _ _ _ _ _ _ _ _ _ _ _ _ _ _ _ _ _ _ _ _ _ _ _ _ _ _ _ _ _ _ _ _ _ (by omega) (by omega) (by omega) ⟨hkk, hm60⟩ hw'
      by_cases hkk : 0 < (kindR (t.take n)).1
      · have hu : upR t n o = some ((kindR (t.take n)).1, (kindR (t.take n)).2, n) := by unfold upR; rw [if_pos hkk]
        rw [hu] at hw
        obtain ⟨c0, c1, c2, c3, e⟩ : ∃ c0 c1 c2 c3, rcl a o = [c0, c1, c2, c3] := by
          cases o with
          | none => exact ⟨_, _, _, _, rfl⟩
          | some p => exact ⟨_, _, _, _, rfl⟩
        simp [hkk, e]
        exact tail (some ((kindR (t.take n)).1, (kindR (t.take n)).2, n)) _ _ _ _ _ _ _ _ _ _ _ _ _ _ _ _ _ _ _ _ _ _ _ _ _ _ _ _ _ _ _ _ _ _ _ _ _ _ _ _ _ _ _ _ _ _ _ _ _ _ _ _ _ _ _ _ _ _ _ _ _ _ _ _ _ _ _ _ _ _ _ _ _ _ _ _ _ _ _ _ ⟨hkk, by omega⟩ hw
      · have hu : upR t n o = o := by unfold upR; rw [if_neg hkk]
        rw [hu] at hw
        simp [hkk]
        exact tail o _ _ _ _ _ _ _ _ _ _ _ _ _ _ _ _ _ _ _ _ _ _ _ _ _ _ _ _ _ _ _ _ _ _ _ _ _ _ _ _ _ _ _ _ _ _ _ _ _ _ _ _ _ _ _ _ _ _ _ _ _ _ _ _ _ _ _ _ _ _ _ _ _ _ _ _ _ _ _ _ ho hw
    · rw [if_neg hle] at hw
      have : ¬ ((a + n : Nat) : Int) ≤ s.length := by omega
      simp only [Int.natCast_add] at this
      simp [this]
      rw [B62x0q]
      exact done o _ _ _ _ _ _ _ _ _ _ _ _ _ _ _ _ _ _ _ _ _ _ _ _ _ _ _ _ _ _ _ _ _ _ _ _ _ _ _ _ _ _ _ _ _ _ _ _ _ _ _ _ _ _ _ _ _ _ _ _ _ _ _ _ _ _ _ _ _ _ _ _ _ _ _ _ _ _ _ _ _ _ _ hw
def longR (t : List UInt8) : RT := match t with
  | [] => none
  | b :: r => if ((b.toNat : Int) == 34) = true then (if 0 < (quoR r [] 1).2 ∧ (t.take (quoR r [] 1).2).all isSign = true then some (3, (quoR r [] 1).1, (quoR r [] 1).2) else none) else loR t (t.length) 1 none
theorem quoR_le : ∀ (n : Nat) (r acc : List UInt8) (c : Nat), r.length ≤ n → (quoR r acc c).2 ≤ c + r.length := by
  intro n
  induction n with
  | zero =>
    intro r acc c h
    have : r = [] := List.eq_nil_of_length_eq_zero (by omega)
    subst this
    rw [quoR]; simp
  | succ n ih =>
    intro r acc c h
    cases r with
    | nil => rw [quoR]; simp
    | cons b r =>
      simp only [List.length_cons] at h ⊢
      rw [quoR_cons]
      split
      · simp only; omega
      · split
        · cases r with
          | nil => simp
          | cons e r' =>
            simp only [List.length_cons] at h ⊢
            split
            · have := ih r' (acc ++ [e]) (c + 2) (by omega); omega
            · simp
        · have := ih r (acc ++ [b]) (c + 1) (by omega); omega
set_option maxRecDepth 20000 in
set_option maxHeartbeats 1600000 in
theorem r_longest (H : AHeap) {s : List UInt8} {a : Nat} (hs : s.length < 2 ^ 60) (ha : a < s.length) : ACalls Tryz.prog 62 [str s, i64 a] H (.agg (rcl a (longR (s.drop a))).toArray) H := by
  have hfl : ∀ o : RT, flat (.agg (rcl a o).toArray) = true := by
    intro o
    cases o with
    | none => rfl
    | some p => rfl
  refine acallsT_pure MixT Tryz.func62 (by decide) (hfl _) ?_
  rw [d62]
  obtain ⟨b, r, hbr⟩ : ∃ b r, s.drop a = b :: r := by
    cases h : s.drop a with
    | nil => simp at h; omega
    | cons b r => exact ⟨b, r, rfl⟩
  have hb : s[a]? = some b := by rw [← List.head?_drop, hbr]; rfl
  have hix := aIndex_at (P := Tryz.prog) (T := 9) (k := .i64) (by simp) hb
  have hl : (b :: r).length = s.length - a := by rw [← hbr, List.length_drop]
  have hw1 : IntKind.i64.wrap ((a : Int) + 1) = ((a + 1 : Nat) : Int) := by rw [wrap_i64 (by omega) (by omega)]; omega
  rw [hbr, longR]
  by_cases h34 : ((b.toNat : Int) == 34) = true
  · rw [if_pos h34]
    have hq : quotR (b :: r) = quoR r [] 1 := by rw [quotR, if_pos h34]
    have hqle := quoR_le r.length r [] 1 (Nat.le_refl _)
    generalize hQ : quoR r [] 1 = Q at hq hqle
    obtain ⟨x, u⟩ := Q
    simp only at hqle
    simp only [List.length_cons] at hl
    have h1 := fun (H : AHeap) => aSliceOp_str (P := Tryz.prog) (H := H) (T := 9) (l := s) (lo := some (i64 a)) (hi := none) (a := a) (b := s.length) (by simp) rfl rfl (by omega) (by omega) (by omega)
    simp only [Int.toNat_natCast, List.take_length, hbr] at h1
    have h2 := fun (H : AHeap) => aSliceOp_str (P := Tryz.prog) (H := H) (T := 9) (l := s) (lo := some (i64 a)) (hi := some (i64 ((a : Int) + u))) (a := a) (b := ((a + u : Nat) : Int)) (by simp) rfl rfl (by omega) (by omega) (by omega)
    have he : (s.take (a + u)).drop a = (b :: r).take u := by rw [List.drop_take, hbr]; congr 1; omega
    simp only [Int.toNat_natCast, he] at h2
    have hq2 := fun (H : AHeap) => r_quoted H (s := b :: r) (by simp; omega)
    rw [hq] at hq2
    have hwu : IntKind.i64.wrap ((a : Int) + u) = (a : Int) + u := wrap_i64 (by omega) (by omega)
    have done : ∀ (o : RT) (s0 s1 s2 s3 s6 s7 s8 s9 s10 s11 s12 s13 s14 s15 s16 s17 s18 s19 s20 s21 s22 s23 s24 s25 s26 s27 s28 s29 s30 s31 s32 s33 s34 s35 s36 s37 s38 s39 s40 s41 s42 s43 s44 s45 s46 s47 s48 s49 s50 s51 s52 s53 s54 s55 s56 s57 s58 s59 s60 s61 s62 s63 s64 s65 s66 s67 s68 s69 s70 s71 s72 s73 s74 s75 s76 s77 s78 s79 s80 s81 s82 s83 s84 : Value), S62x0 (fun v H2 => v = .agg (rcl a o).toArray ∧ ∃ X, H2 = H ++ X) [s0, s1, s2, s3, .pointer (some ⟨H.length, 0, some 4⟩), .pointer (some ⟨H.length + 1, 0, some 4⟩), s6, s7, s8, s9, s10, s11, s12, s13, s14, s15, s16, s17, s18, s19, s20, s21, s22, s23, s24, s25, s26, s27, s28, s29, s30, s31, s32, s33, s34, s35, s36, s37, s38, s39, s40, s41, s42, s43, s44, s45, s46, s47, s48, s49, s50, s51, s52, s53, s54, s55, s56, s57, s58, s59, s60, s61, s62, s63, s64, s65, s66, s67, s68, s69, s70, s71, s72, s73, s74, s75, s76, s77, s78, s79, s80, s81, s82, s83, s84] (H ++ [.cells [.int .u8 0, str [], i64 0, i64 0] 72, .cells (rcl a o) 72]) := by
      intro o s0 s1 s2 s3 s6 s7 s8 s9 s10 s11 s12 s13 s14 s15 s16 s17 s18 s19 s20 s21 s22 s23 s24 s25 s26 s27 s28 s29 s30 s31 s32 s33 s34 s35 s36 s37 s38 s39 s40 s41 s42 s43 s44 s45 s46 s47 s48 s49 s50 s51 s52 s53 s54 s55 s56 s57 s58 s59 s60 s61 s62 s63 s64 s65 s66 s67 s68 s69 s70 s71 s72 s73 s74 s75 s76 s77 s78 s79 s80 s81 s82 s83 s84
      rw [S62x0q]
      have hr : ∃ c0 c1 c2 c3, rcl a o = [c0, c1, c2, c3] ∧ c0.oneCell' = true ∧ c1.oneCell' = true ∧ c2.oneCell' = true ∧ c3.oneCell' = true := by
        cases o with
        | none => exact ⟨_, _, _, _, rfl, rfl, rfl, rfl, rfl⟩
        | some p => exact ⟨_, _, _, _, rfl, rfl, rfl, rfl, rfl⟩
      obtain ⟨c0, c1, c2, c3, e, o0, o1, o2, o3⟩ := hr
      rw [e]
      simp [o0, o1, o2, o3]
    simp [hix, h34, h1]
    refine bndC_of (hq2 _) ?_
    by_cases hu : 0 < u
    · cases hp : ((b :: r).take u).all isSign with
      | true =>
        have hpl := fun (H : AHeap) => r_plain H (s := (b :: r).take u) (by simp; omega)
        rw [hp] at hpl
        simp [hu, hwu, h2]
        refine bndG_t (.bool true) _ (hpl _) ?_
        simp [hu, hwu]
        exact done (some (3, x, u)) _ _ _ _ _ _ _ _ _ _ _ _ _ _ _ _ _ _ _ _ _ _ _ _ _ _ _ _ _ _ _ _ _ _ _ _ _ _ _ _ _ _ _ _ _ _ _ _ _ _ _ _ _ _ _ _ _ _ _ _ _ _ _ _ _ _ _ _ _ _ _ _ _ _ _ _ _ _ _ _ _ _ _
      | false =>
        have hpl := fun (H : AHeap) => r_plain H (s := (b :: r).take u) (by simp; omega)
        rw [hp] at hpl
        simp [hu, hwu, h2]
        refine bndG_t (.bool false) _ (hpl _) ?_
        simp
        exact done none _ _ _ _ _ _ _ _ _ _ _ _ _ _ _ _ _ _ _ _ _ _ _ _ _ _ _ _ _ _ _ _ _ _ _ _ _ _ _ _ _ _ _ _ _ _ _ _ _ _ _ _ _ _ _ _ _ _ _ _ _ _ _ _ _ _ _ _ _ _ _ _ _ _ _ _ _ _ _ _ _ _ _
    · have hu' : u = 0 := by omega
      subst hu'
      simp
      exact done none _ _ _ _ _ _ _ _ _ _ _ _ _ _ _ _ _ _ _ _ _ _ _ _ _ _ _ _ _ _ _ _ _ _ _ _ _ _ _ _ _ _ _ _ _ _ _ _ _ _ _ _ _ _ _ _ _ _ _ _ _ _ _ _ _ _ _ _ _ _ _ _ _ _ _ _ _ _ _ _ _ _ _
  · rw [if_neg h34]
    have h34' : ((b.toNat : Int) == 34) = false := by simpa using h34
    simp [hix, h34', hw1]
    exact ⟨(b :: r).length + 1, long_loop (H := H) (k := fun u H2 => u = .agg (rcl a (loR (b :: r) (b :: r).length 1 none)).toArray ∧ ∃ X, H2 = H ++ X) hs hbr (by omega) ⟨rfl, _, rfl⟩ (b :: r).length 1 none _ _ _ _ _ _ _ _ _ _ _ _ _ _ _ _ _ _ _ _ _ _ _ _ _ _ _ _ _ _ _ _ _ _ _ _ _ _ _ _ _ _ _ _ _ _ _ _ _ _ _ _ _ _ _ _ _ _ _ _ _ _ _ _ _ _ _ _ _ _ _ _ _ _ _ _ _ _ _ _ (by omega) (by omega) (by simp) trivial rfl⟩
end Go.Vi
namespace Go.Vi
open Go Go.Proofs

structure Emb (T ts : List Tok) (n : Nat) : Prop where
  inn : ∀ (a : Nat) t, T[a]? = some t → ∃ u, ts[a + n]? = some u ∧ u.kind = t.kind ∧ u.text = t.text
  off : ∀ u, ts[T.length + n]? = some u → u.kind = 4 ∧ u.text = [41]
theorem Emb.le {T ts n} (h : Emb T ts n) (h0 : 0 < T.length) : T.length + n ≤ ts.length := by
  obtain ⟨u, h1, _⟩ := h.inn (T.length - 1) _ (List.getElem?_eq_getElem (by omega))
  have := (List.getElem?_eq_some_iff.1 h1).1
  omega
theorem Emb.isT {T ts n} (h : Emb T ts n) {a : Nat} (ha : a < T.length) (k : Int) (s : List UInt8) : isT ts (a + n) k s = isT T a k s := by
  obtain ⟨u, h1, h2, h3⟩ := h.inn a _ (List.getElem?_eq_getElem ha)
  unfold Vi.isT
  rw [h1, List.getElem?_eq_getElem ha]
  simp only [Option.any_some, h2, h3]
theorem tokK_lt {T : List Tok} {a : Nat} {k : Int} {s : List UInt8} (h : tokK T k a = some s) : a < T.length := by
  obtain ⟨t, h1, _⟩ := tokK_ok h
  exact (List.getElem?_eq_some_iff.1 h1).1
theorem Emb.isTt {T ts n} (h : Emb T ts n) {a : Nat} {k : Int} {s : List UInt8} (ht : Vi.isT T a k s = true) : Vi.isT ts (a + n) k s = true := by
  rw [h.isT (isT_lt ht)]; exact ht
theorem Emb.tokK {T ts n} (h : Emb T ts n) {a : Nat} {k : Int} {s : List UInt8} (ht : tokK T k a = some s) : tokK ts k (a + n) = some s := by
  obtain ⟨t, h1, h2, h3⟩ := tokK_ok ht
  obtain ⟨u, e1, e2, e3⟩ := h.inn a t h1
  unfold Vi.tokK
  rw [e1]
  simp [e2, e3, h2, h3]
theorem Emb.word {T ts n} (h : Emb T ts n) {a : Nat} (ha : a ≤ T.length) {k : Nat} (hf : Vi.isT T a 1 (wordO k) = false) : Vi.isT ts (a + n) 1 (wordO k) = false := by
  by_cases hl : a < T.length
  · rw [h.isT hl]; exact hf
  · obtain rfl : a = T.length := by omega
    unfold Vi.isT
    cases hu : ts[T.length + n]? with
    | none => rfl
    | some u => obtain ⟨e1, e2⟩ := h.off u hu; simp [e1]
theorem Emb.sign {T ts n} (h : Emb T ts n) {a b : Nat} {s : List UInt8} (hs : signO T s a = some b) : a < T.length ∧ b = a + 1 ∧ signO ts s (a + n) = some (b + n) := by
  unfold signO at *
  split at hs
  · rename_i q; cases hs; exact ⟨isT_lt q, rfl, by rw [if_pos (h.isTt q)]; congr 1; omega⟩
  · cases hs
theorem Emb.one {T ts n} (h : Emb T ts n) {a b : Nat} {k : Int} {l : List (List UInt8)} (hs : oneO T k l a = some b) : oneO ts k l (a + n) = some (b + n) ∧ b = a + 1 ∧ txtK ts k (a + n) = txtK T k a := by
  unfold oneO at *
  obtain ⟨s, h1, h2⟩ := Option.bind_eq_some_iff.1 hs
  rw [h.tokK h1]
  split at h2
  · rename_i q; cases h2
    exact ⟨by simp [q]; omega, rfl, by unfold txtK; rw [h.tokK h1, h1]⟩
  · cases h2
theorem Emb.mat {T ts n} (h : Emb T ts n) {a : Nat} {p : Mat × Nat} (hm : matO T a = some p) : matO ts (a + n) = some (p.1, p.2 + n) := by
  unfold matO at *
  obtain ⟨s, h1, hm⟩ := Option.bind_eq_some_iff.1 hm
  obtain ⟨o, h2, hm⟩ := Option.bind_eq_some_iff.1 hm
  split at hm
  · rename_i q
    obtain ⟨v, h3, hm⟩ := Option.bind_eq_some_iff.1 hm
    cases hm
    rw [h.tokK h1, show a + n + 1 = a + 1 + n by omega, show a + n + 2 = a + 2 + n by omega, h.tokK h2, Option.bind_some, Option.bind_some, if_pos q, h.tokK h3]
    simp; omega
  · cases hm
theorem Emb.selL {T ts n} (h : Emb T ts n) : ∀ (f f' a : Nat) (acc : List Mat) (p : List Mat × Nat), f ≤ f' → selL T f a acc = some p → p.2 < T.length → selL ts f' (a + n) acc = some (p.1, p.2 + n) := by
  intro f
  induction f with
  | zero => intro f' a acc p _ hs; cases hs
  | succ f ih =>
    intro f' a acc p hf hs hp
    obtain ⟨f', rfl⟩ : ∃ g, f' = g + 1 := ⟨f' - 1, by omega⟩
    unfold Vi.selL at hs ⊢
    obtain ⟨m, h1, hs⟩ := Option.bind_eq_some_iff.1 hs
    rw [h.mat h1, Option.bind_some]
    simp only
    by_cases q : Vi.isT T m.2 4 [44] = true
    · rw [if_pos q] at hs
      rw [if_pos (h.isTt q), show m.2 + n + 1 = m.2 + 1 + n by omega]
      exact ih f' _ _ p (by omega) hs hp
    · rw [if_neg q] at hs
      cases hs
      rw [if_neg (by rw [h.isT hp]; exact q)]
theorem Emb.sel {T ts n} (h : Emb T ts n) {a : Nat} {p : List Mat × Nat} (hs : selO T a = some p) : selO ts (a + n) = some (p.1, p.2 + n) := by
  unfold selO at *
  obtain ⟨b, h1, hs⟩ := Option.bind_eq_some_iff.1 hs
  obtain ⟨_, _, e1⟩ := h.sign h1
  rw [e1, Option.bind_some]
  by_cases q : Vi.isT T b 4 [125] = true
  · rw [if_pos q] at hs
    cases hs
    rw [if_pos (h.isTt q)]; simp; omega
  · rw [if_neg q] at hs
    obtain ⟨r, h2, hs⟩ := Option.bind_eq_some_iff.1 hs
    obtain ⟨c, h3, hs⟩ := Option.map_eq_some_iff.1 hs
    unfold selE at h3
    obtain ⟨d, h4, h5⟩ := Option.bind_eq_some_iff.1 h3
    obtain ⟨g1, g2, g3⟩ := h.sign h4
    have hbl : b < T.length := by
      cases hm : matO T b with
      | none => unfold Vi.selL at h2; simp [hm] at h2
      | some m =>
        unfold matO at hm
        obtain ⟨s, k1, _⟩ := Option.bind_eq_some_iff.1 hm
        exact tokK_lt k1
    have hT := h.le (by omega)
    rw [if_neg (by rw [h.isT hbl]; exact q), h.selL _ (ts.length + 1) b [] r (by omega) h2 g1, Option.bind_some]
    simp only [selE]
    rw [g3, Option.bind_some]
    split at h5
    · rename_i q2; cases h5; cases hs
      rw [if_pos q2]; rfl
    · cases h5
theorem Emb.win {T ts n} (h : Emb T ts n) {a : Nat} {p : Int × Nat} (hw : winO T a = some p) : winO ts (a + n) = some (p.1, p.2 + n) := by
  unfold winO at *
  obtain ⟨s, h1, hw⟩ := Option.bind_eq_some_iff.1 hw
  obtain ⟨m, h2, hw⟩ := Option.bind_eq_some_iff.1 hw
  rw [h.tokK h1, Option.bind_some, h2, Option.bind_some]
  split at hw
  · rename_i q; cases hw; rw [if_pos q]; simp; omega
  · cases hw
theorem Emb.val {T ts n} (h : Emb T ts n) {a : Nat} {p : Int × Nat} (hv : valO T a = some p) : p.2 ≤ T.length ∧ valO ts (a + n) = some (p.1, p.2 + n) := by
  unfold valO at *
  obtain ⟨s, h1, hv⟩ := Option.bind_eq_some_iff.1 hv
  have hl := tokK_lt h1
  have ha : a < T.length := by unfold takO at hl; split at hl <;> omega
  have e1 : valP ts (a + n) = valP T a := by unfold valP; rw [h.isT ha]
  have e2 : takO ts 4 [45] (a + n) = takO T 4 [45] a + n := by unfold takO; rw [h.isT ha]; split <;> omega
  rw [e1, e2, h.tokK h1, Option.bind_some]
  split at hv
  · rename_i q; cases hv
    exact ⟨by simp only; omega, by rw [if_pos q]; simp; omega⟩
  · cases hv
theorem Emb.cmp {T ts n} (h : Emb T ts n) {a : Nat} {p : Nod × Nat} (hc : cmpO T a = some p) : a < T.length ∧ p.2 ≤ T.length ∧ cmpO ts (a + n) = some (p.1, p.2 + n) := by
  unfold cmpO at *
  obtain ⟨b1, h1, hc⟩ := Option.bind_eq_some_iff.1 hc
  obtain ⟨b2, h2, hc⟩ := Option.bind_eq_some_iff.1 hc
  obtain ⟨q, h3, hc⟩ := Option.bind_eq_some_iff.1 hc
  obtain ⟨b3, h4, hc⟩ := Option.bind_eq_some_iff.1 hc
  obtain ⟨w, h5, hc⟩ := Option.bind_eq_some_iff.1 hc
  obtain ⟨b4, h6, hc⟩ := Option.bind_eq_some_iff.1 hc
  obtain ⟨b5, h7, hc⟩ := Option.bind_eq_some_iff.1 hc
  obtain ⟨b6, h8, hc⟩ := Option.bind_eq_some_iff.1 hc
  obtain ⟨v, h9, hc⟩ := Option.bind_eq_some_iff.1 hc
  cases hc
  have ha : a < T.length := by
    unfold oneO at h1
    obtain ⟨s, k1, _⟩ := Option.bind_eq_some_iff.1 h1
    exact tokK_lt k1
  obtain ⟨r1, _, r2⟩ := h.one h1
  obtain ⟨s1, _, s2⟩ := h.one h8
  obtain ⟨t1, t2⟩ := h.val h9
  refine ⟨ha, t1, ?_⟩
  rw [r1, Option.bind_some, (h.sign h2).2.2, Option.bind_some, h.sel h3, Option.bind_some]
  simp only
  rw [(h.sign h4).2.2, Option.bind_some, h.win h5, Option.bind_some]
  simp only
  rw [(h.sign h6).2.2, Option.bind_some, (h.sign h7).2.2, Option.bind_some, s1, Option.bind_some, t2, Option.bind_some, r2, s2]
theorem cmpO_kind {ts : List Tok} {a : Nat} {p : Nod × Nat} (hc : cmpO ts a = some p) : p.1.kind = 0 := by
  unfold cmpO at hc
  obtain ⟨b1, h1, hc⟩ := Option.bind_eq_some_iff.1 hc
  obtain ⟨b2, h2, hc⟩ := Option.bind_eq_some_iff.1 hc
  obtain ⟨q, h3, hc⟩ := Option.bind_eq_some_iff.1 hc
  obtain ⟨b3, h4, hc⟩ := Option.bind_eq_some_iff.1 hc
  obtain ⟨w, h5, hc⟩ := Option.bind_eq_some_iff.1 hc
  obtain ⟨b4, h6, hc⟩ := Option.bind_eq_some_iff.1 hc
  obtain ⟨b5, h7, hc⟩ := Option.bind_eq_some_iff.1 hc
  obtain ⟨b6, h8, hc⟩ := Option.bind_eq_some_iff.1 hc
  obtain ⟨v, h9, hc⟩ := Option.bind_eq_some_iff.1 hc
  cases hc
  rfl
def shN (k : Nat) (n : Nod) : Nod := if n.kind = 0 then n else if n.kind = 3 then { n with left := n.left + k } else { n with left := n.left + k, right := n.right + k }
theorem shN_not (k : Nat) (x : Int) : shN k (opN 3 x 0) = opN 3 (x + k) 0 := rfl
theorem shN_two (k j : Nat) (x y : Int) : shN k (opN (kindK j) x y) = opN (kindK j) (x + k) (y + k) := by unfold kindK; split <;> rfl
theorem shN_cmp {k : Nat} {n : Nod} (h : n.kind = 0) : shN k n = n := by unfold shN; rw [if_pos h]
theorem Emb.str {T ts n} (h : Emb T ts n) (base : List Nod) : ∀ (f m a : Nat) (l l' : List Nod) (b : Nat), a ≤ T.length → strO T f m a l = some (some (l', b)) →
    b ≤ T.length ∧ strO ts f m (a + n) (base ++ l.map (shN base.length)) = some (some (base ++ l'.map (shN base.length), b + n)) := by
  intro f
  induction f with
  | zero => intro m a l l' b _ hs; cases hs
  | succ f ih =>
    intro m a l l' b ha hs
    unfold strO at hs ⊢
    by_cases hm : m = 2
    · rw [if_pos hm] at hs ⊢
      by_cases h1 : Vi.isT T a 1 notS = true
      · rw [if_pos h1] at hs
        rw [if_pos (h.isTt h1)]
        obtain ⟨r, e1, e2⟩ := Option.map_eq_some_iff.1 hs
        cases r with
        | none => cases e2
        | some p =>
          obtain ⟨l2, b2⟩ := p
          simp only [Option.map_some, Option.some.injEq, Prod.mk.injEq] at e2
          obtain ⟨rfl, rfl⟩ := e2
          obtain ⟨g1, g2⟩ := ih _ _ _ _ _ (by have := isT_lt h1; omega) e1
          refine ⟨g1, ?_⟩
          rw [show a + n + 1 = a + 1 + n by omega, g2]
          simp only [Option.map_some, List.map_append, List.map_cons, List.map_nil, shN_not, List.append_assoc, List.length_append, List.length_map]
          congr 6
          simp only [opN]; congr 1; omega
      · rw [if_neg h1] at hs
        by_cases h2 : Vi.isT T a 4 [40] = true
        · rw [if_pos h2] at hs
          have hal := isT_lt h2
          rw [if_neg (by rw [h.isT hal]; exact h1), if_pos (h.isTt h2)]
          obtain ⟨r, e1, e2⟩ := Option.map_eq_some_iff.1 hs
          cases r with
          | none => cases e2
          | some p =>
            obtain ⟨l2, b2⟩ := p
            simp only [Option.bind_some] at e2
            obtain ⟨c, e3, e4⟩ := Option.map_eq_some_iff.1 e2
            cases e4
            obtain ⟨g1, g2⟩ := ih _ _ _ _ _ (by omega) e1
            obtain ⟨g3, g4, g5⟩ := h.sign e3
            refine ⟨by omega, ?_⟩
            rw [show a + n + 1 = a + 1 + n by omega, g2]
            simp only [Option.map_some, Option.bind_some, g5]
        · rw [if_neg h2] at hs
          simp only [Option.some.injEq] at hs
          obtain ⟨p, e1, e2⟩ := Option.map_eq_some_iff.1 hs
          cases e2
          obtain ⟨hal, g1, g2⟩ := h.cmp e1
          rw [if_neg (by rw [h.isT hal]; exact h1), if_neg (by rw [h.isT hal]; exact h2), g2]
          refine ⟨g1, ?_⟩
          simp [shN_cmp (cmpO_kind e1)]
    · rw [if_neg hm] at hs ⊢
      by_cases hm2 : m < 2
      · rw [if_pos hm2] at hs ⊢
        obtain ⟨r, e1, e2⟩ := Option.bind_eq_some_iff.1 hs
        cases r with
        | none => cases e2
        | some p =>
          obtain ⟨l2, b2⟩ := p
          obtain ⟨g1, g2⟩ := ih _ _ _ _ _ ha e1
          rw [g2]
          exact ih _ _ _ _ _ g1 e2
      · rw [if_neg hm2] at hs ⊢
        by_cases hw : Vi.isT T a 1 (wordO (m - 10)) = true
        · rw [if_pos hw] at hs
          rw [if_pos (h.isTt hw)]
          obtain ⟨r, e1, e2⟩ := Option.bind_eq_some_iff.1 hs
          cases r with
          | none => cases e2
          | some p =>
            obtain ⟨l2, b2⟩ := p
            obtain ⟨g1, g2⟩ := ih _ _ _ _ _ (by have := isT_lt hw; omega) e1
            rw [show a + n + 1 = a + 1 + n by omega, g2]
            have := ih _ _ _ _ _ g1 e2
            refine ⟨this.1, Eq.trans ?_ this.2⟩
            simp only [Option.bind_some, List.map_append, List.map_cons, List.map_nil, shN_two, List.append_assoc, List.length_append, List.length_map]
            congr 5
            all_goals first | omega | (congr 1 <;> omega)
        · rw [if_neg hw] at hs
          simp only [Option.some.injEq, Prod.mk.injEq] at hs
          obtain ⟨rfl, rfl⟩ := hs
          exact ⟨ha, by rw [if_neg (by rw [h.word ha (by simpa using hw)]; simp)]⟩
end Go.Vi
namespace Go.Vi
open Go Go.Proofs

theorem runF_cons (p : UInt8 → Bool) (b : UInt8) (t : List UInt8) : runF p (b :: t) = if p b = true then runF p t + 1 else 0 := by
  unfold runF
  rw [List.takeWhile_cons]
  split <;> simp_all
theorem all_take {p : UInt8 → Bool} : ∀ (t : List UInt8) (n : Nat), n ≤ t.length → ((t.take n).all p = true ↔ n ≤ runF p t) := by
  intro t
  induction t with
  | nil => intro n h; simp at h; subst h; simp
  | cons b t ih =>
    intro n h
    cases n with
    | zero => simp
    | succ n =>
      simp only [List.length_cons] at h
      rw [List.take_succ_cons, List.all_cons, runF_cons]
      cases hb : p b with
      | false => simp
      | true =>
        have := ih n (by omega)
        simp only [Bool.true_and, if_true]
        rw [this]
        omega
theorem digs_take {t : List UInt8} {n : Nat} (h : n ≤ t.length) : digsR (t.take n) = true ↔ 1 ≤ n ∧ n ≤ runF isDig t := by
  unfold digsR
  rw [Bool.and_eq_true, all_take t n h]
  have : (!decide (t.take n = [])) = true ↔ 1 ≤ n := by
    cases n with
    | zero => simp
    | succ n => cases t with
      | nil => simp at h
      | cons b t => simp
  rw [this]
  exact and_comm
theorem digs_mem {p : List UInt8} {c : UInt8} (hc : isDig c = false) (h : c ∈ p) : digsR p = false := by
  unfold digsR
  have : p.all isDig = false := by rw [List.all_eq_false]; exact ⟨c, h, by simp [hc]⟩
  rw [this]; rfl
theorem numG_mem {c : UInt8} (hc : isDig c = false) : ∀ (v p : List UInt8), c ∈ p → numG p v = false := by
  intro v
  induction v with
  | nil => intro p h; rw [numG]; exact digs_mem hc h
  | cons b v ih =>
    intro p h
    rw [numG]
    split
    · rw [digs_mem hc h]; rfl
    · exact ih _ (by simp [h])
theorem numG_bad {c : UInt8} {p v : List UInt8} (hc : isDig c = false) (h46 : ¬ ((c.toNat : Int) == 46) = true) : numG p (c :: v) = false := by
  rw [numG, if_neg h46]
  exact numG_mem hc v _ (by simp)
theorem dig_no46 {b : UInt8} (h : isDig b = true) : ¬ ((b.toNat : Int) == 46) = true := by
  rw [isDig_iff] at h
  rw [beq_iff_eq]
  omega
theorem numG_digs : ∀ (u p : List UInt8) (v : List UInt8), u.all isDig = true → numG p (u ++ v) = numG (p ++ u) v := by
  intro u
  induction u with
  | nil => intro p v _; simp
  | cons b u ih =>
    intro p v h
    rw [List.all_cons, Bool.and_eq_true] at h
    rw [List.cons_append, numG, if_neg (dig_no46 h.1), ih _ _ h.2]
    simp
theorem signs_ok : ∀ s ∈ signsR, ∀ b, s[0]? = some b → isLow b = false ∧ isDig b = false := by
  intro s hs b hb
  simp only [signsR, List.mem_cons, List.not_mem_nil, or_false] at hs
  rcases hs with rfl | rfl | rfl | rfl | rfl | rfl | rfl | rfl | rfl | rfl | rfl | rfl | rfl | rfl | rfl | rfl | rfl | rfl <;> (cases hb; decide)
theorem signs_len : ∀ s ∈ signsR, s.length ≤ 2 := by decide
theorem lo_run {t : List UInt8} {m : Nat} (hm : m ≤ t.length) : ∀ (d n f : Nat) (o : RT), n + d = m → d < f → (∀ j, n ≤ j → j ≤ m → 0 < (kindR (t.take j)).1) →
    loR t f n o = loR t (f - (d + 1)) (m + 1) (some ((kindR (t.take m)).1, (kindR (t.take m)).2, m)) := by
  intro d
  induction d with
  | zero =>
    intro n f o hd hf h
    obtain ⟨f, rfl⟩ : ∃ g, f = g + 1 := ⟨f - 1, by omega⟩
    obtain rfl : n = m := by omega
    rw [loR, if_pos hm]
    have : upR t n o = some ((kindR (t.take n)).1, (kindR (t.take n)).2, n) := by unfold upR; rw [if_pos (h n (Nat.le_refl _) (Nat.le_refl _))]
    rw [this, if_neg (by simp [brk])]
    rfl
  | succ d ih =>
    intro n f o hd hf h
    obtain ⟨f, rfl⟩ : ∃ g, f = g + 1 := ⟨f - 1, by omega⟩
    rw [loR, if_pos (by omega)]
    have : upR t n o = some ((kindR (t.take n)).1, (kindR (t.take n)).2, n) := by unfold upR; rw [if_pos (h n (Nat.le_refl _) (by omega))]
    rw [this, if_neg (by simp [brk])]
    rw [ih (n + 1) f _ (by omega) (by omega) (fun j h1 h2 => h j (by omega) h2)]
    congr 1
    omega
theorem lo_end {t : List UInt8} {m : Nat} {k : Int} {x : List UInt8} (h : ∀ j, m < j → j ≤ t.length → ¬ 0 < (kindR (t.take j)).1) (f : Nat) : loR t f (m + 1) (some (k, x, m)) = some (k, x, m) := by
  have hu : ∀ j, m < j → j ≤ t.length → upR t j (some (k, x, m)) = some (k, x, m) := fun j h1 h2 => by unfold upR; rw [if_neg (h j h1 h2)]
  cases f with
  | zero => rfl
  | succ f =>
    rw [loR]
    by_cases h1 : m + 1 ≤ t.length
    · rw [if_pos h1, hu _ (by omega) h1, if_neg (by simp [brk])]
      cases f with
      | zero => rfl
      | succ f =>
        rw [loR]
        by_cases h2 : m + 1 + 1 ≤ t.length
        · rw [if_pos h2, hu _ (by omega) h2, if_pos (by simp [brk])]
        · rw [if_neg h2]
    · rw [if_neg h1]
theorem lo_none {t : List UInt8} (h : ∀ j, 1 ≤ j → j ≤ t.length → ¬ 0 < (kindR (t.take j)).1) : ∀ (f n : Nat), 1 ≤ n → loR t f n none = none := by
  intro f
  induction f with
  | zero => intro n _; rfl
  | succ f ih =>
    intro n hn
    rw [loR]
    by_cases h1 : n ≤ t.length
    · have : upR t n none = none := by unfold upR; rw [if_neg (h n hn h1)]
      rw [if_pos h1, this, ih (n + 1) (by omega)]
      split <;> rfl
    · rw [if_neg h1]
theorem take_head {b : UInt8} {r : List UInt8} {j : Nat} (h : 1 ≤ j) : ∃ v, (b :: r).take j = b :: v := by
  obtain ⟨j, rfl⟩ : ∃ i, j = i + 1 := ⟨j - 1, by omega⟩
  exact ⟨r.take j, rfl⟩
theorem kind_low {b : UInt8} {r : List UInt8} {j : Nat} (hb : isLow b = true) (h1 : 1 ≤ j) (hj : j ≤ (b :: r).length) :
    kindR ((b :: r).take j) = if j ≤ runF isMark (b :: r) then (1, (b :: r).take j) else (0, []) := by
  obtain ⟨v, hv⟩ := take_head (b := b) (r := r) h1
  have hw : wordR ((b :: r).take j) = decide (j ≤ runF isMark (b :: r)) := by
    unfold wordR
    have h0 : (((b :: r).take j)[0]?).any isLow = true := by rw [hv]; simpa using hb
    rw [h0, Bool.and_true]
    have := all_take (p := isMark) (b :: r) j hj
    by_cases hq : j ≤ runF isMark (b :: r)
    · rw [this.2 hq]; simp [hq]
    · simp only [hq, decide_false]
      cases h2 : ((b :: r).take j).all isMark with
      | true => exact absurd (this.1 h2) hq
      | false => rfl
  have hnd : isDig b = false := by
    rw [isLow_iff] at hb
    rw [← Bool.not_eq_true, isDig_iff]
    omega
  have h46 : ¬ ((b.toNat : Int) == 46) = true := by
    rw [isLow_iff] at hb
    rw [beq_iff_eq]
    omega
  have hn : numR ((b :: r).take j) = false := by rw [hv]; exact numG_bad hnd h46
  have hs : ¬ (b :: r).take j ∈ signsR := by
    intro hm
    have := (signs_ok _ hm b (by rw [hv]; rfl)).1
    rw [this] at hb
    cases hb
  unfold kindR
  rw [hw, hn]
  by_cases hq : j ≤ runF isMark (b :: r)
  · simp [hq]
  · simp [hq, hs]
theorem kind_dig {b : UInt8} {r : List UInt8} {j : Nat} (hb : isDig b = true) (h1 : 1 ≤ j) :
    kindR ((b :: r).take j) = if numR ((b :: r).take j) = true then (2, (b :: r).take j) else (0, []) := by
  obtain ⟨v, hv⟩ := take_head (b := b) (r := r) h1
  have hnl : isLow b = false := by
    rw [isDig_iff] at hb
    rw [← Bool.not_eq_true, isLow_iff]
    omega
  have hw : wordR ((b :: r).take j) = false := by
    unfold wordR
    rw [hv]
    simp [hnl]
  have hs : ¬ (b :: r).take j ∈ signsR := by
    intro hm
    have := (signs_ok _ hm b (by rw [hv]; rfl)).2
    rw [this] at hb
    cases hb
  unfold kindR
  rw [hw]
  simp [hs]
theorem kind_sig {b : UInt8} {r : List UInt8} {j : Nat} (hl : isLow b = false) (hd : isDig b = false) (h1 : 1 ≤ j) :
    kindR ((b :: r).take j) = if (b :: r).take j ∈ signsR then (4, (b :: r).take j) else (0, []) := by
  obtain ⟨v, hv⟩ := take_head (b := b) (r := r) h1
  have hw : wordR ((b :: r).take j) = false := by
    unfold wordR
    rw [hv]
    simp [hl]
  have hn : numR ((b :: r).take j) = false := by
    rw [hv]
    by_cases h46 : ((b.toNat : Int) == 46) = true
    · unfold numR
      rw [numG, if_pos h46]
      rfl
    · exact numG_bad hd h46
  unfold kindR
  rw [hw, hn]
  simp
theorem num_take {t : List UInt8} {j : Nat} (hj : j ≤ t.length) (h1 : 1 ≤ runF isDig t) : numR (t.take j) = true ↔ (1 ≤ j ∧ j ≤ runF isDig t) ∨ ((t[runF isDig t]?).any (fun e => (e.toNat : Int) == 46) = true ∧ runF isDig t + 2 ≤ j ∧ j ≤ runF isDig t + 1 + runF isDig (t.drop (runF isDig t + 1))) := by
  have hle := runF_le isDig t
  generalize hm : runF isDig t = m at *
  have hD : (t.take m).all isDig = true := (all_take t m hle).2 (by omega)
  by_cases hjm : j ≤ m
  · have : (t.take j).all isDig = true := (all_take t j hj).2 (by omega)
    have h2 := numG_digs (t.take j) [] [] this
    rw [List.append_nil, List.nil_append, numG] at h2
    unfold numR
    rw [h2, digs_take hj, hm]
    constructor
    · intro h; exact .inl h
    · rintro (h | ⟨_, h, _⟩)
      · exact h
      · omega
  · have hml : m < t.length := by omega
    obtain ⟨c, hc⟩ : ∃ c, t[m]? = some c := ⟨_, List.getElem?_eq_getElem hml⟩
    have hdm : t.drop m = c :: t.drop (m + 1) := by
      rw [List.drop_eq_getElem_cons hml]
      rw [List.getElem?_eq_getElem hml] at hc
      cases hc
      rfl
    have hcd : isDig c = false := by
      cases hq : isDig c with
      | false => rfl
      | true =>
        exfalso
        have h3 := (all_take (p := isDig) t (m + 1) (by omega)).1 (by
          rw [List.take_add_one, hc, List.all_append, hD]
          simp [hq])
        omega
    have hsp : t.take j = t.take m ++ c :: (t.drop (m + 1)).take (j - m - 1) := by
      have : t = t.take m ++ t.drop m := (List.take_append_drop m t).symm
      conv => lhs; rw [this]
      rw [List.take_append, hdm]
      have e1 : (t.take m).length = m := by simp; omega
      rw [e1, List.take_of_length_le (by rw [e1]; omega)]
      obtain ⟨i, hi⟩ : ∃ i, j - m = i + 1 := ⟨j - m - 1, by omega⟩
      rw [hi, List.take_succ_cons]
      rfl
    unfold numR
    rw [hsp, numG_digs _ _ _ hD, List.nil_append, hc]
    by_cases h46 : ((c.toNat : Int) == 46) = true
    · rw [numG, if_pos h46, Bool.and_eq_true, digs_take hle, digs_take (by rw [List.length_drop]; omega), hm]
      have e : (some c).any (fun e => (e.toNat : Int) == 46) = true := h46
      constructor
      · rintro ⟨_, h2, h3⟩
        exact .inr ⟨e, by omega, by omega⟩
      · rintro (h | ⟨_, h2, h3⟩)
        · omega
        · exact ⟨by omega, by omega, by omega⟩
    · rw [numG_bad hcd h46]
      have : ((c.toNat : Int) == 46) = false := by simpa using h46
      simp only [Option.any_some, this]
      simp
      omega
theorem sigs_two : ∀ b e : UInt8, [b, e] ∈ signsR ↔ ((e.toNat : Int) == 61 && hasB sigs1 b) = true := by
  intro b e
  have h1 : hasB sigs1 b = decide (b = 60 ∨ b = 62 ∨ b = 61 ∨ b = 33 ∨ b = 94) := byte_all (p := fun b => hasB sigs1 b = decide (b = 60 ∨ b = 62 ∨ b = 61 ∨ b = 33 ∨ b = 94)) (by decide +kernel) b
  have h2 : ((e.toNat : Int) == 61) = decide (e = 61) := byte_all (p := fun e => ((e.toNat : Int) == 61) = decide (e = 61)) (by decide +kernel) e
  rw [h1, h2]
  simp [signsR]
  constructor
  · rintro (⟨rfl, rfl⟩ | ⟨rfl, rfl⟩ | ⟨rfl, rfl⟩ | ⟨rfl, rfl⟩ | ⟨rfl, rfl⟩) <;> simp
  · rintro ⟨rfl, h⟩
    rcases h with rfl | rfl | rfl | rfl | rfl <;> simp
theorem sigs_one : ∀ b : UInt8, ([b] ∈ signsR) ↔ hasB sigs2 b = true := by
  intro b
  have h1 : hasB sigs2 b = decide (b ∈ sigs2) := byte_all (p := fun b => hasB sigs2 b = decide (b ∈ sigs2)) (by decide +kernel) b
  rw [h1]
  simp [signsR, sigs2]
theorem quoR_gt : ∀ (n : Nat) (r acc : List UInt8) (c : Nat), r.length ≤ n → 0 < (quoR r acc c).2 → c < (quoR r acc c).2 := by
  intro n
  induction n with
  | zero =>
    intro r acc c h
    have : r = [] := List.eq_nil_of_length_eq_zero (by omega)
    subst this
    rw [quoR]; simp
  | succ n ih =>
    intro r acc c h
    cases r with
    | nil => rw [quoR]; simp
    | cons b r =>
      simp only [List.length_cons] at h
      rw [quoR_cons]
      split
      · simp
      · split
        · cases r with
          | nil => simp
          | cons e r' =>
            simp only [List.length_cons] at h ⊢
            split
            · intro h0; have := ih r' (acc ++ [e]) (c + 2) (by omega) h0; omega
            · simp
        · intro h0; have := ih r (acc ++ [b]) (c + 1) (by omega) h0; omega
theorem text_quo : ∀ (n : Nat) (r acc : List UInt8) (c : Nat), r.length ≤ n → 0 < c + 1 → textF r acc c = if 0 < (quoR r acc c).2 ∧ (r.take ((quoR r acc c).2 - c)).all isSign = true then quoR r acc c else ([], 0) := by
  intro n
  induction n with
  | zero =>
    intro r acc c h _
    have : r = [] := List.eq_nil_of_length_eq_zero (by omega)
    subst this
    rw [quoR, textF]; simp
  | succ n ih =>
    intro r acc c h _
    cases r with
    | nil => rw [quoR, textF]; simp
    | cons b r =>
      simp only [List.length_cons] at h
      rw [quoR_cons, textF_cons]
      by_cases h34 : ((b.toNat : Int) == 34) = true
      · have hsg : isSign b = true := by rw [isSign_iff]; rw [beq_iff_eq] at h34; omega
        rw [if_pos hsg, if_pos h34, if_pos h34]
        have e : c + 1 - c = 1 := by omega
        simp [e, hsg]
      · rw [if_neg h34, if_neg h34]
        by_cases h92 : ((b.toNat : Int) == 92) = true
        · have hsg : isSign b = true := by rw [isSign_iff]; rw [beq_iff_eq] at h92; omega
          rw [if_pos hsg, if_pos h92, if_pos h92]
          cases r with
          | nil => simp
          | cons e r' =>
            simp only [List.length_cons] at h ⊢
            by_cases he : ((e.toNat : Int) == 34 || (e.toNat : Int) == 92) = true
            · have hse : isSign e = true := by
                rw [isSign_iff]
                simp only [Bool.or_eq_true, beq_iff_eq] at he
                omega
              rw [if_pos he, if_pos he, ih r' (acc ++ [e]) (c + 2) (by omega) (by omega)]
              have hgt := quoR_gt r'.length r' (acc ++ [e]) (c + 2) (Nat.le_refl _)
              generalize quoR r' (acc ++ [e]) (c + 2) = q at *
              by_cases h0 : 0 < q.2
              · have e1 : q.2 - c = q.2 - (c + 2) + 1 + 1 := by have := hgt h0; omega
                rw [e1, List.take_succ_cons, List.take_succ_cons, List.all_cons, List.all_cons, hsg, hse, Bool.true_and, Bool.true_and]
              · rw [if_neg (fun h => h0 h.1), if_neg (fun h => h0 h.1)]
            · rw [if_neg he, if_neg he]
              simp
        · rw [if_neg h92, if_neg h92]
          have hgt := quoR_gt r.length r (acc ++ [b]) (c + 1) (Nat.le_refl _)
          have hih := ih r (acc ++ [b]) (c + 1) (by omega) (by omega)
          rw [hih]
          generalize quoR r (acc ++ [b]) (c + 1) = q at *
          by_cases h0 : 0 < q.2
          · have e1 : q.2 - c = q.2 - (c + 1) + 1 := by have := hgt h0; omega
            rw [e1, List.take_succ_cons, List.all_cons]
            cases hsg : isSign b with
            | true => simp
            | false => simp
          · have h0' : q.2 = 0 := by omega
            simp [h0']
theorem long_one {t : List UInt8} (h : t ≠ []) : longR t = if (oneF t 0).2 = 0 then none else some ((oneF t 0).1.kind, (oneF t 0).1.text, (oneF t 0).2) := by
  cases t with
  | nil => exact absurd rfl h
  | cons b r =>
    rw [longR]
    have hlen : 1 ≤ (b :: r).length := by simp
    by_cases hl : isLow b = true
    · have h34 : ¬ ((b.toNat : Int) == 34) = true := by
        rw [isLow_iff] at hl; rw [beq_iff_eq]; omega
      rw [if_neg h34]
      have ho : oneF (b :: r) 0 = (⟨1, (b :: r).take (runF isMark (b :: r)), 0⟩, runF isMark (b :: r)) := by (simp [oneF, hl] <;> rfl)
      rw [ho]
      have hm1 : 1 ≤ runF isMark (b :: r) := by rw [runF_cons, if_pos (by simp [isMark, hl])]; omega
      have hle := runF_le isMark (b :: r)
      have hk := fun j (h1 : 1 ≤ j) (h2 : j ≤ (b :: r).length) => kind_low (r := r) hl h1 h2
      generalize runF isMark (b :: r) = m at *
      rw [if_neg (by simp only; omega), lo_run hle (m - 1) 1 _ none (by omega) (by omega) (fun j h1 h2 => by rw [hk j h1 (by omega), if_pos h2]; simp), hk m hm1 hle, if_pos (Nat.le_refl _)]
      exact lo_end (fun j h1 h2 => by rw [hk j (by omega) h2, if_neg (by omega)]; decide) _
    · have hl' : isLow b = false := by simpa using hl
      by_cases hd : isDig b = true
      · have h34 : ¬ ((b.toNat : Int) == 34) = true := by
          rw [isDig_iff] at hd; rw [beq_iff_eq]; omega
        rw [if_neg h34]
        have ho : oneF (b :: r) 0 = (⟨2, (b :: r).take (numLen (b :: r)), 0⟩, numLen (b :: r)) := by (simp [oneF, hl', hd] <;> rfl)
        rw [ho]
        have hm1 : 1 ≤ runF isDig (b :: r) := by rw [runF_cons, if_pos hd]; omega
        have hle := runF_le isDig (b :: r)
        have hk := fun j (h1 : 1 ≤ j) => kind_dig (r := r) (j := j) hd h1
        have hn := fun j (h2 : j ≤ (b :: r).length) => num_take (t := b :: r) h2 hm1
        have hnl := numLen_le (b :: r)
        have hN : numLen (b :: r) = if ((((b :: r)[runF isDig (b :: r)]?).any (fun e => (e.toNat : Int) == 46)) && decide (runF isDig ((b :: r).drop (runF isDig (b :: r) + 1)) > 0)) = true then runF isDig (b :: r) + (1 + runF isDig ((b :: r).drop (runF isDig (b :: r) + 1))) else runF isDig (b :: r) := rfl
        generalize numLen (b :: r) = M at *
        generalize runF isDig (b :: r) = m at *
        generalize runF isDig ((b :: r).drop (m + 1)) = m2 at *
        have pos : ∀ j, 1 ≤ j → j ≤ (b :: r).length → numR ((b :: r).take j) = true → kindR ((b :: r).take j) = (2, (b :: r).take j) := fun j h1 h2 h3 => by rw [hk j h1, if_pos h3]
        have neg : ∀ j, 1 ≤ j → ¬ numR ((b :: r).take j) = true → kindR ((b :: r).take j) = (0, []) := fun j h1 h3 => by rw [hk j h1, if_neg h3]
        by_cases hp : (((b :: r)[m]?).any (fun e => (e.toNat : Int) == 46)) = true
        · by_cases h2 : m2 > 0
          · have hM : M = m + (1 + m2) := by rw [hN, if_pos (by simp only [hp, Bool.true_and, decide_eq_true_eq]; exact h2)]
            have hml : m + 1 + m2 ≤ (b :: r).length := by omega
            rw [if_neg (by simp only; omega), lo_run hle (m - 1) 1 _ none (by omega) (by omega) (fun j h1 h3 => by rw [pos j h1 (by omega) ((hn j (by omega)).2 (.inl ⟨h1, h3⟩))]; simp)]
            obtain ⟨f, hf⟩ : ∃ f, (b :: r).length - (m - 1 + 1) = f + 1 := ⟨(b :: r).length - (m - 1 + 1) - 1, by omega⟩
            have hgap : ¬ numR ((b :: r).take (m + 1)) = true := by rw [hn (m + 1) (by omega)]; omega
            have hu : upR (b :: r) (m + 1) (some ((kindR ((b :: r).take m)).1, (kindR ((b :: r).take m)).2, m)) = some ((kindR ((b :: r).take m)).1, (kindR ((b :: r).take m)).2, m) := by
              unfold upR; rw [neg (m + 1) (by omega) hgap, if_neg (by simp)]
            rw [hf, loR, if_pos (by omega), hu, if_neg (by simp [brk])]
            rw [lo_run (m := M) (by omega) (M - (m + 2)) (m + 1 + 1) _ _ (by omega) (by omega) (fun j h1 h3 => by rw [pos j (by omega) (by omega) ((hn j (by omega)).2 (.inr ⟨hp, by omega, by omega⟩))]; simp)]
            rw [pos M (by omega) (by omega) ((hn M (by omega)).2 (.inr ⟨hp, by omega, by omega⟩))]
            exact lo_end (fun j h1 h3 => by rw [neg j (by omega) (by rw [hn j h3]; omega)]; decide) _
          · have hM : M = m := by rw [hN, if_neg (by simp only [hp, Bool.true_and, decide_eq_true_eq]; exact h2)]
            subst hM
            rw [if_neg (by simp only; omega), lo_run hle (M - 1) 1 _ none (by omega) (by omega) (fun j h1 h3 => by rw [pos j h1 (by omega) ((hn j (by omega)).2 (.inl ⟨h1, h3⟩))]; simp)]
            rw [pos M (by omega) (by omega) ((hn M (by omega)).2 (.inl ⟨by omega, Nat.le_refl _⟩))]
            exact lo_end (fun j h1 h3 => by rw [neg j (by omega) (by rw [hn j h3]; omega)]; decide) _
        · have hM : M = m := by rw [hN, if_neg (by simp [hp])]
          subst hM
          rw [if_neg (by simp only; omega), lo_run hle (M - 1) 1 _ none (by omega) (by omega) (fun j h1 h3 => by rw [pos j h1 (by omega) ((hn j (by omega)).2 (.inl ⟨h1, h3⟩))]; simp)]
          rw [pos M (by omega) (by omega) ((hn M (by omega)).2 (.inl ⟨by omega, Nat.le_refl _⟩))]
          exact lo_end (fun j h1 h3 => by rw [neg j (by omega) (by rw [hn j h3]; exact fun h => h.elim (fun h => by omega) (fun h => hp h.1))]; decide) _
      · have hd' : isDig b = false := by simpa using hd
        by_cases h34 : ((b.toNat : Int) == 34) = true
        · rw [if_pos h34]
          have ho : oneF (b :: r) 0 = (⟨3, (textF r [] 1).1, 0⟩, (textF r [] 1).2) := by (simp [oneF, hl', hd', h34] <;> rfl)
          rw [ho, text_quo r.length r [] 1 (Nat.le_refl _) (by omega)]
          have hsg : isSign b = true := by rw [isSign_iff]; rw [beq_iff_eq] at h34; omega
          have hgt := quoR_gt r.length r [] 1 (Nat.le_refl _)
          generalize quoR r [] 1 = q at *
          by_cases h0 : 0 < q.2
          · have ht : ((b :: r).take q.2).all isSign = (r.take (q.2 - 1)).all isSign := by
              obtain ⟨i, hi⟩ : ∃ i, q.2 = i + 1 := ⟨q.2 - 1, by omega⟩
              rw [hi, List.take_succ_cons, List.all_cons, hsg]
              rfl
            rw [ht]
            by_cases ha : (r.take (q.2 - 1)).all isSign = true
            · have e : (if 0 < q.2 ∧ (r.take (q.2 - 1)).all isSign = true then q else ([], 0)) = q := if_pos ⟨h0, ha⟩
              rw [e, if_pos ⟨h0, ha⟩, if_neg (by simp only; omega)]
            · have e : (if 0 < q.2 ∧ (r.take (q.2 - 1)).all isSign = true then q else ([], 0)) = ([], 0) := if_neg (fun h => ha h.2)
              rw [e, if_neg (fun h => ha h.2)]
              rfl
          · have e : (if 0 < q.2 ∧ (r.take (q.2 - 1)).all isSign = true then q else ([], 0)) = ([], 0) := if_neg (fun h => h0 h.1)
            rw [e, if_neg (fun h => h0 h.1)]
            rfl
        · rw [if_neg h34]
          have h34' : ((b.toNat : Int) == 34) = false := by simpa using h34
          have ho : oneF (b :: r) 0 = (⟨4, (b :: r).take (signF (b :: r)), 0⟩, signF (b :: r)) := by (simp [oneF, hl', hd', h34'] <;> rfl)
          rw [ho]
          have hk := fun j (h1 : 1 ≤ j) => kind_sig (r := r) (j := j) hl' hd' h1
          have hk3 : ∀ j, 2 < j → j ≤ (b :: r).length → ¬ 0 < (kindR ((b :: r).take j)).1 := by
            intro j h1 h2
            have : ¬ (b :: r).take j ∈ signsR := by
              intro hm
              have := signs_len _ hm
              rw [List.length_take] at this
              omega
            rw [hk j (by omega), if_neg this]
            decide
          have hk1 : ¬ hasB sigs2 b = true → ¬ 0 < (kindR ((b :: r).take 1)).1 := by
            intro h
            have e : (b :: r).take 1 = [b] := by simp
            rw [hk 1 (by omega), e, if_neg (fun q => h ((sigs_one b).1 q))]
            decide
          have hk1' : hasB sigs2 b = true → kindR ((b :: r).take 1) = (4, [b]) := by
            intro h
            have e : (b :: r).take 1 = [b] := by simp
            rw [hk 1 (by omega), e, if_pos ((sigs_one b).2 h)]
          cases r with
          | nil =>
            have hs : signF [b] = if hasB sigs2 b = true then 1 else 0 := by simp only [signF, List.getElem?_nil, Option.any_none]; simp
            rw [hs]
            by_cases h2 : hasB sigs2 b = true
            · rw [if_pos h2, if_neg (by simp)]
              have e1 : ([b] : List UInt8).length = 1 := rfl
              rw [e1, lo_run (m := 1) (by simp) 0 1 1 none rfl (by omega) (fun j h1 h3 => by
                obtain rfl : j = 1 := by omega
                rw [hk1' h2]; simp), hk1' h2]
              exact lo_end (fun j h1 h3 => by simp at h3; omega) _
            · rw [if_neg h2, if_pos rfl]
              exact lo_none (fun j h1 h3 => by
                obtain rfl : j = 1 := by simp at h3; omega
                exact hk1 h2) _ _ (Nat.le_refl _)
          | cons e r =>
            have t2 : (b :: e :: r).take 2 = [b, e] := by simp
            have hs : signF (b :: e :: r) = if ((e.toNat : Int) == 61 && hasB sigs1 b) = true then 2 else if hasB sigs2 b = true then 1 else 0 := by simp only [signF, List.getElem?_cons_zero, Option.any_some]
            rw [hs]
            by_cases h2 : ((e.toNat : Int) == 61 && hasB sigs1 b) = true
            · rw [if_pos h2, if_neg (by simp)]
              have k2 : kindR ((b :: e :: r).take 2) = (4, [b, e]) := by rw [hk 2 (by omega), t2, if_pos ((sigs_two b e).2 h2)]
              have e1 : (b :: e :: r).length = r.length + 1 + 1 := rfl
              rw [e1, loR, if_pos (by simp)]
              have hb1 : ¬ brk 1 (upR (b :: e :: r) 1 none) = true := by unfold upR; split <;> simp [brk]
              rw [if_neg hb1, lo_run (m := 2) (by simp) 0 2 (r.length + 1) _ rfl (by omega) (fun j h1 h3 => by
                obtain rfl : j = 2 := by omega
                rw [k2]; simp), k2]
              exact lo_end (fun j h1 h3 => hk3 j h1 h3) _
            · have k2 : ¬ 0 < (kindR ((b :: e :: r).take 2)).1 := by
                rw [hk 2 (by omega), t2, if_neg (fun q => h2 ((sigs_two b e).1 q))]
                decide
              rw [if_neg h2]
              have hk2 : ∀ j, 1 < j → j ≤ (b :: e :: r).length → ¬ 0 < (kindR ((b :: e :: r).take j)).1 := fun j h1 h3 => by
                by_cases hj : j = 2
                · rw [hj]; exact k2
                · exact hk3 j (by omega) h3
              by_cases h3 : hasB sigs2 b = true
              · rw [if_pos h3, if_neg (by simp), lo_run (m := 1) (by simp) 0 1 _ none rfl (by simp) (fun j h1 h4 => by
                  obtain rfl : j = 1 := by omega
                  rw [hk1' h3]; simp), hk1' h3]
                exact lo_end hk2 _
              · rw [if_neg h3, if_pos rfl]
                exact lo_none (fun j h1 h4 => by
                  by_cases hj : j = 1
                  · rw [hj]; exact hk1 h3
                  · exact hk2 j (by omega) h4) _ _ (Nat.le_refl _)
end Go.Vi
namespace Go.Vi
open Go Go.Proofs

theorem skip_fuel : ∀ (f : Nat) (s : List UInt8), s.length ≤ f → skipF f s = skipF s.length s := by
  intro f
  induction f using Nat.strongRecOn with
  | ind f ih =>
    intro s hs
    cases s with
    | nil => cases f <;> rfl
    | cons b r =>
      obtain ⟨f, rfl⟩ : ∃ g, f = g + 1 := ⟨f - 1, by simp at hs; omega⟩
      have hr : r.length ≤ f := by simpa using hs
      simp only [List.length_cons, skipF]
      split
      · rw [ih f (by omega) r hr]
      · split
        · rename_i hb
          have h10 : notNl b = true := by simp only [beq_iff_eq] at hb; simp [notNl, hb]
          have h0 : 0 < runF notNl (b :: r) := by simp [runF, h10]
          have hl : ((b :: r).drop (runF notNl (b :: r))).length ≤ r.length := by simp; omega
          by_cases hf : f = r.length
          · rw [hf]
          · have e1 := ih f (by omega) ((b :: r).drop (runF notNl (b :: r))) (by omega)
            rw [e1]
            by_cases hlt : r.length < f + 1
            · rw [ih r.length (by omega) _ hl]
            · omega
        · rfl
def skp (s : List UInt8) : Nat := skipF s.length s
theorem skp_nil : skp [] = 0 := rfl
theorem skp_cons (b : UInt8) (r : List UInt8) : skp (b :: r) = if hasB blanks b = true then 1 + skp r else if ((b.toNat : Int) == 35) = true then runF notNl (b :: r) + skp ((b :: r).drop (runF notNl (b :: r))) else 0 := by
  unfold skp
  simp only [List.length_cons, skipF]
  split
  · rfl
  · split
    · rename_i hb
      have h10 : notNl b = true := by simp only [beq_iff_eq] at hb; simp [notNl, hb]
      have h0 : 0 < runF notNl (b :: r) := by simp [runF, h10]
      rw [skip_fuel r.length _ (by simp; omega)]
    · rfl
theorem skipN_eq (l : List UInt8) (a : Nat) : skipN l a = a + skp (l.drop a) := by unfold skipN skp; rw [List.length_drop]
theorem skp_le (s : List UInt8) : skp s ≤ s.length := skipF_le _ _
theorem runF_app {p : UInt8 → Bool} {x : UInt8} (hx : p x = false) : ∀ (u w : List UInt8), runF p (u ++ x :: w) = runF p u := by
  intro u w
  induction u with
  | nil => simp [runF, hx]
  | cons b r ih =>
    unfold runF at ih ⊢
    simp only [List.cons_append, List.takeWhile_cons]
    split
    · simp [ih]
    · rfl
theorem skp_app (w : List UInt8) : ∀ (n : Nat) (u : List UInt8), u.length ≤ n → skp (u ++ 10 :: w) = if skp u < u.length then skp u else u.length + skp (10 :: w) := by
  intro n
  induction n with
  | zero => intro u hu; have : u = [] := List.eq_nil_of_length_eq_zero (by omega); subst this; simp [skp_nil]
  | succ n ih =>
    intro u hu
    cases u with
    | nil => simp [skp_nil]
    | cons b r =>
      simp only [List.length_cons] at hu
      rw [List.cons_append, skp_cons, skp_cons]
      by_cases h1 : hasB blanks b = true
      · rw [if_pos h1, if_pos h1, ih r (by omega)]
        simp only [List.length_cons]
        by_cases hc : skp r < r.length
        · rw [if_pos hc, if_pos (by omega)]
        · rw [if_neg hc, if_neg (by omega)]; omega
      · rw [if_neg h1, if_neg h1]
        by_cases h2 : ((b.toNat : Int) == 35) = true
        · rw [if_pos h2, if_pos h2]
          have e : runF notNl (b :: (r ++ 10 :: w)) = runF notNl (b :: r) := runF_app (p := notNl) (x := 10) (by decide) (b :: r) w
          have h10 : notNl b = true := by simp only [beq_iff_eq] at h2; simp [notNl, h2]
          have h0 : 0 < runF notNl (b :: r) := by simp [runF, h10]
          have hle := runF_le notNl (b :: r)
          have ed : (b :: (r ++ 10 :: w)).drop (runF notNl (b :: r)) = (b :: r).drop (runF notNl (b :: r)) ++ 10 :: w := by
            rw [← List.cons_append, List.drop_append_of_le_length hle]
          rw [e, ed, ih _ (by simp at hle ⊢; omega)]
          have hdl : ((b :: r).drop (runF notNl (b :: r))).length = r.length + 1 - runF notNl (b :: r) := by simp
          simp only [List.length_cons] at hle ⊢
          rw [hdl]
          by_cases hc : skp ((b :: r).drop (runF notNl (b :: r))) < r.length + 1 - runF notNl (b :: r)
          · rw [if_pos hc, if_pos (by omega)]
          · rw [if_neg hc, if_neg (by omega)]; omega
        · rw [if_neg h2, if_neg h2, if_pos (by simp)]
theorem textF_app (w : List UInt8) : ∀ (f : Nat) (r acc : List UInt8) (c : Nat), r.length ≤ f → (textF r acc c).2 ≠ 0 → textF (r ++ w) acc c = textF r acc c := by
  intro f
  induction f with
  | zero => intro r acc c h h0; have : r = [] := List.eq_nil_of_length_eq_zero (by omega); subst this; simp [textF] at h0
  | succ f ih =>
    intro r acc c h h0
    cases r with
    | nil => simp [textF] at h0
    | cons b r =>
      simp only [List.length_cons] at h
      rw [List.cons_append, textF_cons, textF_cons]
      rw [textF_cons] at h0
      by_cases h1 : isSign b = true
      · rw [if_pos h1] at h0
        rw [if_pos h1, if_pos h1]
        by_cases h2 : ((b.toNat : Int) == 34) = true
        · rw [if_pos h2, if_pos h2]
        · rw [if_neg h2] at h0
          rw [if_neg h2, if_neg h2]
          by_cases h3 : ((b.toNat : Int) == 92) = true
          · rw [if_pos h3] at h0
            rw [if_pos h3, if_pos h3]
            cases r with
            | nil => simp at h0
            | cons e r' =>
              simp only [List.cons_append, List.length_cons] at h0 h ⊢
              by_cases h4 : ((e.toNat : Int) == 34 || (e.toNat : Int) == 92) = true
              · rw [if_pos h4] at h0
                rw [if_pos h4, if_pos h4]
                exact ih _ _ _ (by omega) h0
              · rw [if_neg h4] at h0; simp at h0
          · rw [if_neg h3] at h0
            rw [if_neg h3, if_neg h3]
            exact ih _ _ _ (by omega) h0
      · rw [if_neg h1] at h0; simp at h0
theorem numLen_app (u w : List UInt8) : numLen (u ++ 10 :: w) = numLen u := by
  unfold numLen
  have e1 : runF isDig (u ++ 10 :: w) = runF isDig u := runF_app (by decide) u w
  have hle := runF_le isDig u
  rw [e1]
  by_cases hlt : runF isDig u < u.length
  · have e2 : (u ++ 10 :: w)[runF isDig u]? = u[runF isDig u]? := List.getElem?_append_left hlt
    have e3 : (u ++ 10 :: w).drop (runF isDig u + 1) = u.drop (runF isDig u + 1) ++ 10 :: w := List.drop_append_of_le_length (by omega)
    rw [e2, e3, runF_app (p := isDig) (by decide)]
  · have hl : runF isDig u = u.length := by omega
    rw [hl]
    simp
theorem signF_app {u w : List UInt8} (h : signF u ≠ 0) : signF (u ++ 10 :: w) = signF u := by
  cases u with
  | nil => simp [signF] at h
  | cons b r =>
    cases r with
    | nil => simp [signF]
    | cons e r => simp [signF]
theorem oneF_app {u w : List UInt8} {a a' : Nat} (h : (oneF u a).2 ≠ 0) : oneF (u ++ 10 :: w) a' = (⟨(oneF u a).1.kind, (oneF u a).1.text, a'⟩, (oneF u a).2) := by
  cases u with
  | nil => simp [oneF] at h
  | cons b r =>
    unfold oneF at h ⊢
    simp only [List.cons_append] at h ⊢
    by_cases h1 : isLow b = true
    · rw [if_pos h1] at h
      rw [if_pos h1, if_pos h1]
      have e : runF isMark (b :: (r ++ 10 :: w)) = runF isMark (b :: r) := runF_app (p := isMark) (x := 10) (by decide) (b :: r) w
      rw [e, ← List.cons_append, List.take_append_of_le_length (runF_le _ _)]
    · rw [if_neg h1] at h
      rw [if_neg h1, if_neg h1]
      by_cases h2 : isDig b = true
      · rw [if_pos h2, if_pos h2]
        have e : numLen (b :: (r ++ 10 :: w)) = numLen (b :: r) := numLen_app (b :: r) w
        rw [e, ← List.cons_append, List.take_append_of_le_length (numLen_le _)]
      · rw [if_neg h2] at h
        rw [if_neg h2, if_neg h2]
        by_cases h3 : ((b.toNat : Int) == 34) = true
        · rw [if_pos h3] at h
          rw [if_pos h3, if_pos h3, textF_app _ r.length r [] 1 (Nat.le_refl _) h]
        · rw [if_neg h3] at h
          rw [if_neg h3, if_neg h3]
          have e : signF (b :: (r ++ 10 :: w)) = signF (b :: r) := signF_app (u := b :: r) h
          rw [e, ← List.cons_append, List.take_append_of_le_length (signF_le _)]
inductive Lx (l : List UInt8) : Nat → List Tok → Prop
  | nil (a : Nat) : l.length ≤ a → Lx l a []
  | cons (a : Nat) (T : List Tok) : a < l.length → (oneF (l.drop a) a).2 ≠ 0 → Lx l (skipN l (a + (oneF (l.drop a) a).2)) T → Lx l a ((oneF (l.drop a) a).1 :: T)
theorem Lx.run {l : List UInt8} {a : Nat} {T : List Tok} (h : Lx l a T) : ∀ f, l.length < f + a → lexF l f a = (T, none) := by
  induction h with
  | nil a h =>
    intro f hf
    cases f with
    | zero => rfl
    | succ f => unfold lexF; rw [if_neg (by omega)]
  | cons a T h h0 _ ih =>
    intro f hf
    cases f with
    | zero => omega
    | succ f =>
      unfold lexF
      have := skipN_ge l (a + (oneF (l.drop a) a).2)
      rw [if_pos h, if_neg h0, ih f (by omega)]
theorem Lx.of {l : List UInt8} : ∀ (f a : Nat) (T : List Tok), l.length < f + a → lexF l f a = (T, none) → Lx l a T := by
  intro f
  induction f with
  | zero => intro a T hf h; cases h; exact .nil a (by omega)
  | succ f ih =>
    intro a T hf h
    unfold lexF at h
    by_cases h1 : a < l.length
    · rw [if_pos h1] at h
      by_cases h2 : (oneF (l.drop a) a).2 = 0
      · rw [if_pos h2] at h; cases h
      · rw [if_neg h2] at h
        simp only [Prod.mk.injEq] at h
        obtain ⟨rfl, hn⟩ := h
        have := skipN_ge l (a + (oneF (l.drop a) a).2)
        exact .cons a _ h1 h2 (ih _ _ (by omega) (Prod.ext rfl hn))
    · rw [if_neg h1] at h; cases h; exact .nil a (by omega)
def kt (t : Tok) : Int × List UInt8 := (t.kind, t.text)
def endAt (pre s w : List UInt8) : Nat := pre.length + s.length + skp (10 :: w)
theorem skip_in {pre s w : List UInt8} {x : Nat} (hx : x ≤ s.length) : skipN (pre ++ (s ++ 10 :: w)) (pre.length + x) = if skipN s x < s.length then pre.length + skipN s x else endAt pre s w := by
  have hd : (pre ++ (s ++ 10 :: w)).drop (pre.length + x) = s.drop x ++ 10 :: w := by
    rw [← List.drop_drop, List.drop_left, List.drop_append_of_le_length hx]
  rw [skipN_eq, skipN_eq, hd, skp_app w _ _ (Nat.le_refl _)]
  have := skp_le (s.drop x)
  rw [List.length_drop] at this ⊢
  unfold endAt
  by_cases hc : skp (s.drop x) < s.length - x
  · rw [if_pos hc, if_pos (by omega)]; omega
  · rw [if_neg hc, if_neg (by omega)]; omega
theorem Lx.inn {s : List UInt8} {a : Nat} {T : List Tok} (h : Lx s a T) (pre w : List UInt8) {R : List Tok} (hR : Lx (pre ++ (s ++ 10 :: w)) (endAt pre s w) R) : a ≤ s.length →
    ∃ T', Lx (pre ++ (s ++ 10 :: w)) (if a < s.length then pre.length + a else endAt pre s w) (T' ++ R) ∧ T'.map kt = T.map kt := by
  induction h with
  | nil a h => intro _; exact ⟨[], by rw [if_neg (by omega)]; exact hR, rfl⟩
  | cons a T h h0 _ ih =>
    intro _
    have hle : a + (oneF (s.drop a) a).2 ≤ s.length := by have := oneF_le (s.drop a) a; rw [List.length_drop] at this; omega
    obtain ⟨T', q1, q2⟩ := ih (skipN_le hle)
    have hd : (pre ++ (s ++ 10 :: w)).drop (pre.length + a) = s.drop a ++ 10 :: w := by
      rw [← List.drop_drop, List.drop_left, List.drop_append_of_le_length (by omega)]
    have ho := oneF_app (w := w) (a' := pre.length + a) h0
    rw [← skip_in hle, ← Nat.add_assoc] at q1
    refine ⟨⟨(oneF (s.drop a) a).1.kind, (oneF (s.drop a) a).1.text, ↑(pre.length + a)⟩ :: T', ?_, by simp [q2, kt]⟩
    rw [if_pos h]
    have := Lx.cons (l := pre ++ (s ++ 10 :: w)) (pre.length + a) (T' ++ R) (by simp; omega) (by rw [hd, ho]; exact h0) (by rw [hd, ho]; exact q1)
    rw [hd, ho] at this
    exact this
end Go.Vi
namespace Go.Vi
open Go Go.Proofs

theorem Gro.pushB {P : Program} {K0 X : AHeap} {lo z by_ : Nat} {T Ts : TypeId} {v x : Value} {cl : List (List Value)} {c : List Value} (h : Gro K0 lo z T v cl) (hT : aElem P Ts = some (T, z, by_)) (hsq : isSeq P Ts = true) (hc : c.length = z) (hlo : lo ≤ K0.length)
    (hx : aSrc (K0 ++ X) z x = some (1, c)) (hb : (cl.length + 1) * by_ ≤ 140737488355328) (hn : cl.length + 1 ≤ 9223372036854775807) :
    ∃ v' K', aBuiltin P (K0 ++ X) .append #[Ts, Ts] [v, x] = some (v', K') ∧ Gro K' lo z T v' (cl ++ [c]) ∧ (∀ H, Pre H (K0 ++ X) → H.length ≤ lo → Pre H K') ∧ (∀ (b : Nat) o, K0.length ≤ b → (K0 ++ X)[b]? = some o → K'[b]? = some o) := by
  have h' := h.app (X := X)
  obtain ⟨v', K', h1, h2, h3, h4, h5⟩ := h'.push hT hsq hc (by simp; omega) hx hb hn
  refine ⟨v', K', h1, h2, h5, fun b o hbo ho => ?_⟩
  cases h with
  | nil =>
    have hb' : by_ ≤ 140737488355328 := by simpa using hb
    simp [aBuiltin, aAppend, hT, hx, hsq, hb', hc] at h1
    rw [← h1.2, ← List.append_assoc]; exact get_more ho
  | mk bb cl g1 g2 g3 g4 =>
    have hfl := flat_len g4
    have hlt := (List.getElem?_eq_some_iff.1 g2).1
    have g2' : (K0 ++ X)[bb]? = some (.cells cl.flatten T) := get_more g2
    have e2 : ¬ cl.length + 1 ≤ cl.length := by omega
    simp only [aBuiltin, aAppend, hT, hx, hsq, if_true, g2', hfl, Nat.zero_add, Nat.le_refl, and_self, e2, if_false, hb, hn, Option.some.injEq, Prod.mk.injEq] at h1
    rw [← h1.2, List.getElem?_set_ne (by omega)]
    exact ho
theorem one_at (s : List UInt8) (a : Nat) : oneF s a = (⟨(oneF s 0).1.kind, (oneF s 0).1.text, a⟩, (oneF s 0).2) := by
  cases s with
  | nil => rfl
  | cons b r => unfold oneF; simp only; split <;> (try split) <;> (try split) <;> rfl
theorem one_kind (s : List UInt8) : (oneF s 0).2 ≠ 0 → ((oneF s 0).1.kind == 0) = false := by
  cases s with
  | nil => intro h; exact absurd rfl h
  | cons b r => intro _; unfold oneF; simp only; split <;> (try split) <;> (try split) <;> rfl
abbrev RTk := Tok × Int
def rt (p : RTk) : List Value := p.1.cells ++ [i64 p.2]
theorem rtel1 : aElem Tryz.prog 64 = some (72, 4, 40) := by kernel_rfl
theorem rtel2 : isSeq Tryz.prog 64 = true := by kernel_rfl
theorem hash_loop {s : List UInt8} {k : Value → AHeap → Prop} {K : AHeap} {n0 : Nat} {v : Value} (hs : s.length < 2 ^ 60) (a' : Nat) (hk : ∀ (s1 s2 s3 s4 s7 s8 s9 s10 s11 s12 s13 s14 s15 s16 s17 s18 s19 s20 s21 s22 s23 s24 s25 s26 s27 s28 s29 s30 s31 s32 s33 s34 s35 s36 s37 s38 s39 s40 s41 s42 s43 s44 s45 s46 s47 s48 s49 s50 : Value), L36x0 n0 k [str s, s1, s2, s3, s4, v, i64 a', s7, s8, s9, s10, s11, s12, s13, s14, s15, s16, s17, s18, s19, s20, s21, s22, s23, s24, s25, s26, s27, s28, s29, s30, s31, s32, s33, s34, s35, s36, s37, s38, s39, s40, s41, s42, s43, s44, s45, s46, s47, s48, s49, s50] K) :
    ∀ (r : List UInt8) (a : Nat) (s1 s2 s3 s4 s7 s8 s9 s10 s11 s12 s13 s14 s15 s16 s17 s18 s19 s20 s21 s22 s23 s24 s25 s26 s27 s28 s29 s30 s31 s32 s33 s34 s35 s36 s37 s38 s39 s40 s41 s42 s43 s44 s45 s46 s47 s48 s49 s50 : Value), s.drop a = r → a ≤ s.length → a' = a + runF notNl r → L36x1 (r.length + 1) n0 k [str s, s1, s2, s3, s4, v, i64 a, s7, s8, s9, s10, s11, s12, s13, s14, s15, s16, s17, s18, s19, s20, s21, s22, s23, s24, s25, s26, s27, s28, s29, s30, s31, s32, s33, s34, s35, s36, s37, s38, s39, s40, s41, s42, s43, s44, s45, s46, s47, s48, s49, s50] K := by
  intro r
  induction r with
  | nil =>
    intro a s1 s2 s3 s4 s7 s8 s9 s10 s11 s12 s13 s14 s15 s16 s17 s18 s19 s20 s21 s22 s23 s24 s25 s26 s27 s28 s29 s30 s31 s32 s33 s34 s35 s36 s37 s38 s39 s40 s41 s42 s43 s44 s45 s46 s47 s48 s49 s50 hd ha he
    have hle : s.length ≤ a := by simpa using hd
    have : ¬ a < s.length := by omega
    rw [List.length_nil, L36x1q]
    have e0 : a' = a := by rw [he]; rfl
    subst e0
    simp [this]
    exact hk _ _ _ _ _ _ _ _ _ _ _ _ _ _ _ _ _ _ _ _ _ _ _ _ _ _ _ _ _ _ _ _ _ _ _ _ _ _ _ _ _ _ _ _ _ _ _ _
  | cons b r ih =>
    intro a s1 s2 s3 s4 s7 s8 s9 s10 s11 s12 s13 s14 s15 s16 s17 s18 s19 s20 s21 s22 s23 s24 s25 s26 s27 s28 s29 s30 s31 s32 s33 s34 s35 s36 s37 s38 s39 s40 s41 s42 s43 s44 s45 s46 s47 s48 s49 s50 hd ha he
    have hb : s[a]? = some b := by rw [← List.head?_drop, hd]; rfl
    have hlt : a < s.length := (List.getElem?_eq_some_iff.1 hb).1
    have hix := aIndex_at (P := Tryz.prog) (T := 9) (k := .i64) (by simp) hb
    have hdr : s.drop (a + 1) = r := by rw [← List.drop_drop, hd]; rfl
    rw [List.length_cons, L36x1q]
    rw [runF_cons] at he
    by_cases h10 : ((b.toNat : Int) != 10) = true
    · rw [if_pos (by exact h10)] at he
      simp [hlt, hix, h10, show a + 1 < 2 ^ 63 by omega]
      exact ih (a + 1) _ _ _ _ _ _ _ _ _ _ _ _ _ _ _ _ _ _ _ _ _ _ _ _ _ _ _ _ _ _ _ _ _ _ _ _ _ _ _ _ _ _ _ _ _ _ _ _ hdr hlt (by omega)
    · have h10' : ((b.toNat : Int) != 10) = false := by simpa using h10
      rw [if_neg (by exact h10)] at he
      have e0 : a' = a := by omega
      subst e0
      simp [hlt, hix, h10']
      exact hk _ _ _ _ _ _ _ _ _ _ _ _ _ _ _ _ _ _ _ _ _ _ _ _ _ _ _ _ _ _ _ _ _ _ _ _ _ _ _ _ _ _ _ _ _ _ _ _
set_option maxRecDepth 20000 in
set_option maxHeartbeats 1600000 in
theorem rAll_loop {H : AHeap} {s : List UInt8} {k : Value → AHeap → Prop} (hs : s.length ≤ 4096) :
    ∀ (n a f : Nat) (acc : List RTk) (v : Value) (K : AHeap) (s1 s2 s3 s4 s7 s8 s9 s10 s11 s12 s13 s14 s15 s16 s17 s18 s19 s20 s21 s22 s23 s24 s25 s26 s27 s28 s29 s30 s31 s32 s33 s34 s35 s36 s37 s38 s39 s40 s41 s42 s43 s44 s45 s46 s47 s48 s49 s50 : Value), s.length - a < n → a ≤ s.length → s.length < f + a → acc.length ≤ a → Pre H K → Gro K H.length 4 72 v (acc.map rt) →
      ((lexF s f (skipN s a)).2 = none → ∀ K v (T : List RTk), Pre H K → Gro K H.length 4 72 v (T.map rt) → T.map Prod.fst = acc.map Prod.fst ++ (lexF s f (skipN s a)).1 → k (.tuple #[v, i64 0, i64 0]) K) →
      (∀ p, (lexF s f (skipN s a)).2 = some p → ∀ K, Pre H K → k (.tuple #[.slice none 0 0, i64 p, i64 90]) K) →
      L36x0 n k [str s, s1, s2, s3, s4, v, i64 a, s7, s8, s9, s10, s11, s12, s13, s14, s15, s16, s17, s18, s19, s20, s21, s22, s23, s24, s25, s26, s27, s28, s29, s30, s31, s32, s33, s34, s35, s36, s37, s38, s39, s40, s41, s42, s43, s44, s45, s46, s47, s48, s49, s50] K := by
  intro n
  induction n with
  | zero => intro a f acc v K s1 s2 s3 s4 s7 s8 s9 s10 s11 s12 s13 s14 s15 s16 s17 s18 s19 s20 s21 s22 s23 s24 s25 s26 s27 s28 s29 s30 s31 s32 s33 s34 s35 s36 s37 s38 s39 s40 s41 s42 s43 s44 s45 s46 s47 s48 s49 s50 hn; omega
  | succ n ih =>
    intro a f acc v K s1 s2 s3 s4 s7 s8 s9 s10 s11 s12 s13 s14 s15 s16 s17 s18 s19 s20 s21 s22 s23 s24 s25 s26 s27 s28 s29 s30 s31 s32 s33 s34 s35 s36 s37 s38 s39 s40 s41 s42 s43 s44 s45 s46 s47 s48 s49 s50 hn ha hf hac hp hg h1 h2
    rw [L36x0q]
    by_cases hlt : a < s.length
    · obtain ⟨b, hb⟩ : ∃ b, s[a]? = some b := ⟨_, List.getElem?_eq_getElem hlt⟩
      have hd : s.drop a = b :: s.drop (a + 1) := by
        rw [List.drop_eq_getElem_cons hlt]
        rw [List.getElem?_eq_getElem hlt] at hb
        cases hb
        rfl
      have hix := aIndex_at (P := Tryz.prog) (T := 9) (k := .i64) (by simp) hb
      have hsk : skipN s a = a + skp (b :: s.drop (a + 1)) := by rw [skipN_eq, hd]
      have ha63 : a + 1 < 2 ^ 63 := by omega
      simp [hlt, hix]
      refine bndC_of (r_blank K b) ?_
      rw [skp_cons] at hsk
      cases hbl : hasB blanks b with
      | true =>
        rw [if_pos hbl] at hsk
        have e : skipN s a = skipN s (a + 1) := by rw [hsk, skipN_eq]; omega
        rw [e] at h1 h2
        simp [ha63]
        exact ih (a + 1) f acc v K _ _ _ _ _ _ _ _ _ _ _ _ _ _ _ _ _ _ _ _ _ _ _ _ _ _ _ _ _ _ _ _ _ _ _ _ _ _ _ _ _ _ _ _ _ _ _ _ (by omega) (by omega) (by omega) (by omega) hp hg h1 h2
      | false =>
        rw [if_neg (by simp [hbl])] at hsk
        by_cases h35 : ((b.toNat : Int) == 35) = true
        · rw [if_pos h35] at hsk
          have hb10 : notNl b = true := by rw [beq_iff_eq] at h35; simp [notNl, h35]
          have hr1 : runF notNl (b :: s.drop (a + 1)) = runF notNl (s.drop (a + 1)) + 1 := by rw [runF_cons, if_pos hb10]
          have hrl := runF_le notNl (b :: s.drop (a + 1))
          rw [← hd, List.length_drop] at hrl
          have e : skipN s a = skipN s (a + runF notNl (s.drop a)) := by rw [hsk, skipN_eq s (a + runF notNl (s.drop a)), ← hd, List.drop_drop]; omega
          rw [e] at h1 h2
          simp [h35, hix]
          have hdl : (s.drop a).length = s.length - a := List.length_drop
          refine ⟨(s.drop a).length + 1, hash_loop (s := s) (v := v) (K := K) (by omega) (a + runF notNl (s.drop a)) ?_ (s.drop a) a _ _ _ _ _ _ _ _ _ _ _ _ _ _ _ _ _ _ _ _ _ _ _ _ _ _ _ _ _ _ _ _ _ _ _ _ _ _ _ _ _ _ _ _ _ _ _ _ rfl (by omega) rfl⟩
          rw [← hd] at hr1
          intro s1 s2 s3 s4 s7 s8 s9 s10 s11 s12 s13 s14 s15 s16 s17 s18 s19 s20 s21 s22 s23 s24 s25 s26 s27 s28 s29 s30 s31 s32 s33 s34 s35 s36 s37 s38 s39 s40 s41 s42 s43 s44 s45 s46 s47 s48 s49 s50
          exact ih (a + runF notNl (s.drop a)) f acc v K _ _ _ _ _ _ _ _ _ _ _ _ _ _ _ _ _ _ _ _ _ _ _ _ _ _ _ _ _ _ _ _ _ _ _ _ _ _ _ _ _ _ _ _ _ _ _ _ (by omega) (by omega) (by omega) (by omega) hp hg h1 h2
        · have h35' : ((b.toNat : Int) == 35) = false := by simpa using h35
          rw [if_neg h35, Nat.add_zero] at hsk
          rw [hsk] at h1 h2
          obtain ⟨f, rfl⟩ : ∃ g, f = g + 1 := ⟨f - 1, by omega⟩
          rw [lexF, if_pos hlt, one_at] at h1 h2
          have hlo := long_one (t := s.drop a) (by rw [hd]; simp)
          have hole := oneF_le (s.drop a) 0
          rw [List.length_drop] at hole
          simp [h35', hix]
          refine bndC_of (r_longest K (by omega) hlt) ?_
          rw [hlo]
          have hqk := one_kind (s.drop a)
          generalize oneF (s.drop a) 0 = Q at *
          obtain ⟨⟨qk, qx, qa⟩, qn⟩ := Q
          simp only at h1 h2 hole hqk ⊢
          have hKl : H.length ≤ K.length := by obtain ⟨X, rfl⟩ := hp; simp
          by_cases hq0 : qn = 0
          · rw [if_pos hq0] at h1 h2 ⊢
            simp [rcl]
            exact h2 a rfl _ (hp.more _)
          · rw [if_neg hq0] at h1 h2 ⊢
            have hqk := hqk hq0
            simp [rcl, hqk]
            have hlit := sliceLitA (c := rt (⟨qk, qx, a⟩, (a : Int) + qn)) (tbs64 (K ++ [.cells (rt (⟨qk, qx, a⟩, (a : Int) + qn)) 72]) 1 _) (by rfl) (by simp [rt, Tok.cells]) (by simp)
            refine bndL_lit hlit ?_
            obtain ⟨v', K', b1, b2, b3, b4⟩ := hg.pushB (P := Tryz.prog) (X := [.cells (rt (⟨qk, qx, a⟩, (a : Int) + qn)) 72] ++ [.cells (rt (⟨qk, qx, a⟩, (a : Int) + qn)) 72]) (Ts := 64) (by_ := 40) (x := .slice (some ⟨K.length + 1, 0, some 4⟩) 1 1) (c := rt (⟨qk, qx, a⟩, (a : Int) + qn)) rtel1 rtel2 rfl hKl (by simp [aSrc, rt, Tok.cells]) (by simp; omega) (by simp; omega)
            have hb5 := b4 K.length (.cells (rt (⟨qk, qx, a⟩, (a : Int) + qn)) 72) (Nat.le_refl _) (by simp)
            have hc5 : hcells K' K.length = some (rt (⟨qk, qx, a⟩, (a : Int) + qn)) := by simp [hcells, hb5]
            have hl5 : hlen K' K.length = some 4 := by simp [hlen, hb5, rt, Tok.cells]
            simp only [rt, Tok.cells, List.cons_append, List.nil_append] at hc5
            have b1' : aBuiltin Tryz.prog (K ++ [.cells (rt (⟨qk, qx, a⟩, (a : Int) + qn)) 72] ++ [.cells (rt (⟨qk, qx, a⟩, (a : Int) + qn)) 72]) .append #[64, 64] [v, .slice (some ⟨(K ++ [AObj.cells (rt (⟨qk, qx, a⟩, (a : Int) + qn)) 72]).length, 0, some (rt (⟨qk, qx, a⟩, (a : Int) + qn)).length⟩) 1 1] = some (v', K') := by
              rw [← b1]; simp [rt, Tok.cells]
            dsimp only
            rw [b1']
            simp [hc5, hl5]
            have eq : (a : Int) + qn = ((a + qn : Nat) : Int) := by omega
            rw [eq] at b2 ⊢
            refine ih (a + qn) f (acc ++ [(⟨qk, qx, a⟩, ((a + qn : Nat) : Int))]) v' K' _ _ _ _ _ _ _ _ _ _ _ _ _ _ _ _ _ _ _ _ _ _ _ _ _ _ _ _ _ _ _ _ _ _ _ _ _ _ _ _ _ _ _ _ _ _ _ _ (by omega) (by omega) (by omega) (by simp; omega) (b3 H (hp.more _) (Nat.le_refl _)) (by simpa using b2) ?_ ?_
            · intro h0 K3 v3 T g1 g2 g3
              exact h1 h0 K3 v3 T g1 g2 (by rw [g3]; simp)
            · intro p hp0 K3 g1
              exact h2 p hp0 K3 g1
    · have hsk : skipN s a = s.length := by
        rw [skipN_eq, List.drop_eq_nil_of_le (by omega), skp_nil]; omega
      have hl0 : lexF s f (skipN s a) = ([], none) := by
        rw [hsk]
        cases f with
        | zero => rfl
        | succ f => rw [lexF, if_neg (by omega)]
      simp [hlt]
      refine h1 (by rw [hl0]) K v acc hp hg (by rw [hl0]; simp)
def AllP (H : AHeap) (s : List UInt8) (u : Value) (K : AHeap) : Prop := ∃ v, ∃ T : List RTk, u = .tuple #[v, i64 (allTok s).2.1, i64 (allTok s).2.2] ∧ Pre H K ∧ Gro K H.length 4 72 v (T.map rt) ∧ T.map Prod.fst = (allTok s).1
theorem r_all (H : AHeap) (s : List UInt8) : ∃ v K, ∃ T : List RTk, ACalls Tryz.prog 36 [str s] H (.tuple #[v, i64 (allTok s).2.1, i64 (allTok s).2.2]) K ∧ Pre H K ∧ Gro K H.length 4 72 v (T.map rt) ∧ T.map Prod.fst = (allTok s).1 := by
  have key : ∃ u K, AllP H s u K ∧ ACalls Tryz.prog 36 [str s] H u K := by
    refine acalls_ex MixT Tryz.func36 (by decide) ?_
    rw [d36]
    by_cases h4 : 4096 < s.length
    · have h4I : (4096 : Int) < s.length := by omega
      have ht : allTok s = ([], 0, 3) := by unfold allTok; rw [if_pos h4]
      simp [h4I]
      exact ⟨.slice none 0 0, [], by rw [ht]; rfl, .refl _, .nil, by rw [ht]; rfl⟩
    · have h4I : ¬ (4096 : Int) < s.length := by omega
      have ht : allTok s = match (lexF s (s.length + 1) (skipN s 0)).2 with
        | none => ((lexF s (s.length + 1) (skipN s 0)).1, 0, 0)
        | some a => ([], a, 90) := by unfold allTok; (rw [if_neg h4] <;> rfl)
      simp [h4I]
      refine ⟨s.length + 1, rAll_loop (H := H) (by omega) (s.length + 1) 0 (s.length + 1) [] (.slice none 0 0) H _ _ _ _ _ _ _ _ _ _ _ _ _ _ _ _ _ _ _ _ _ _ _ _ _ _ _ _ _ _ _ _ _ _ _ _ _ _ _ _ _ _ _ _ _ _ _ _ (by omega) (by omega) (by omega) (by simp) (.refl _) .nil ?_ ?_⟩
      · intro h0 K v T g1 g2 g3
        rw [h0] at ht
        exact ⟨v, T, by rw [ht]; rfl, g1, g2, by rw [ht]; simpa using g3⟩
      · intro p h0 K g1
        rw [h0] at ht
        exact ⟨.slice none 0 0, [], by rw [ht], g1, .nil, by rw [ht]; rfl⟩
  obtain ⟨u, K, ⟨v, T, rfl, g1, g2, g3⟩, g4⟩ := key
  exact ⟨v, K, T, g4, g1, g2, g3⟩
end Go.Vi
namespace Go.Vi
open Go Go.Proofs

structure RTA (K : AHeap) (v : Value) (T : List RTk) : Prop where
  arr : Arr K 4 v (T.map rt)
  len : T.length < 2 ^ 40
theorem RTA.pre {K K' v T} (h : RTA K v T) (p : Pre K K') : RTA K' v T := ⟨h.arr.pre p, h.len⟩
def isR (ts : List Tok) (a : Nat) (k : Int) (s : List UInt8) : Bool := (ts[a]?).any fun t => t.kind == k && (t.text == s || s == [42])
theorem RTA.at {K v T} (h : RTA K v T) {a : Nat} {p : RTk} (hp : T[a]? = some p) :
    ∃ q q0 q1, aIndexAddr Tryz.prog K 64 v (i64 a) = some q ∧ aFieldAddr Tryz.prog K 72 q 0 = some q0 ∧ aLoad Tryz.prog K 5 q0 = some (.int .u8 p.1.kind) ∧ aFieldAddr Tryz.prog K 72 q 1 = some q1 ∧ aLoad Tryz.prog K 9 q1 = some (str p.1.text) := by
  have hi : (T.map rt)[a]? = some (rt p) := by simp [hp]
  obtain ⟨p1, q1, h1, h2, h3⟩ := h.arr.field (P := Tryz.prog) (T := 64) (te := 72) (f := 0) (d := 0) (ft := 5) (by simp) (by simp) (by simp) (by simp) (by simp) hi rfl
  obtain ⟨p2, q2, h4, h5, h6⟩ := h.arr.field (P := Tryz.prog) (T := 64) (te := 72) (f := 1) (d := 1) (ft := 9) (by simp) (by simp) (by simp) (by simp) (by simp) hi rfl
  rw [h1] at h4
  cases h4
  exact ⟨p1, q1, q2, h1, h2, h3, h5, h6⟩
theorem r_is {K v T} (h : RTA K v T) (a : Nat) (k : Int) (s : List UInt8) : ACalls Tryz.prog 95 [v, i64 a, .int .u8 k, str s] K (.bool (isR (T.map Prod.fst) a k s)) K := by
  refine acalls_pure MixT Tryz.func95 (by decide) rfl ?_
  rw [d95]
  have hl := h.arr.len (P := Tryz.prog) (T := 64) (e := 72) (by simp)
  simp at hl
  by_cases ha : a < T.length
  · obtain ⟨p, hp⟩ : ∃ p, T[a]? = some p := ⟨_, List.getElem?_eq_getElem ha⟩
    obtain ⟨q, q0, q1, h1, h2, h3, h4, h5⟩ := h.at hp
    have hr : isR (T.map Prod.fst) a k s = (p.1.kind == k && (p.1.text == s || s == [42])) := by simp [isR, hp]
    rw [hr]
    cases hk : p.1.kind == k with
    | false => simp [hl, ha, h1, h2, h3, hk]
    | true =>
      by_cases ht : p.1.text = s
      · simp [hl, ha, h1, h2, h3, hk, h4, h5, ht]
      · have ht' : (p.1.text == s) = false := by simpa using ht
        by_cases hs : s = [42]
        · subst hs
          simp [hl, ha, h1, h2, h3, hk, h4, h5, ht]
        · simp [hl, ha, h1, h2, h3, hk, h4, h5, ht, hs]
  · have hr : isR (T.map Prod.fst) a k s = false := by simp [isR, List.getElem?_eq_none (Nat.le_of_not_lt ha)]
    rw [hr]
    simp [hl, ha]
theorem isR_star (ts : List Tok) (a : Nat) (k : Int) : isR ts a k [42] = (tokK ts k a).isSome := by
  unfold isR tokK
  cases ts[a]? with
  | none => rfl
  | some t =>
    by_cases h : t.kind = k
    · simp [h]
    · simp [h]
theorem isR_txt {ts : List Tok} {a : Nat} {k : Int} {s : List UInt8} (h : s ≠ [42]) : isR ts a k s = isT ts a k s := by
  unfold isR isT
  have : (s == [42]) = false := by simpa using h
  simp [this]
theorem isT_tok (ts : List Tok) (a : Nat) (k : Int) (s : List UInt8) : isT ts a k s = true ↔ tokK ts k a = some s := by
  unfold isT tokK
  cases ts[a]? with
  | none => simp
  | some t =>
    by_cases h : t.kind = k
    · simp [h]
    · simp [h]
theorem strs_at {H : AHeap} (l : List (List UInt8)) {n i : Nat} (hn : n = l.length) {s : List UInt8} (hi : l[i]? = some s) : ∃ p, aIndexAddr Tryz.prog (H ++ [.cells (l.map str) 9]) 42 (.slice (some ⟨H.length, 0, some n⟩) n n) (i64 i) = some p ∧ aLoad Tryz.prog (H ++ [.cells (l.map str) 9]) 9 p = some (str s) :=
  (arr_strs l 9 n hn).load1 (P := Tryz.prog) (T := 42) (te := 9) (i := i) (x := str s) (by simp) (by simp) (by simp) (by simp [strCells, hi])
theorem r_aggregate (H : AHeap) {i : Nat} (hi : i < 6) : ACalls Tryz.prog 50 [i64 i] H (str (aggs.getD i [])) H := by
  refine acalls_pure MixT Tryz.func50 (by decide) rfl ?_
  rw [d50]
  have hs := sliceLit1 (H := H) (P := Tryz.prog) (T := 42) (e := 9) (zv := .string ByteArray.empty) (l := aggs.map str) (n := 6) (by kernel_rfl) (by decide) rfl (by decide)
  obtain ⟨s, hs2⟩ : ∃ s, aggs[i]? = some s := ⟨_, List.getElem?_eq_getElem hi⟩
  obtain ⟨p, p1, p2⟩ := strs_at (H := H) aggs (n := 6) rfl hs2
  have hg : aggs.getD i [] = s := by rw [List.getD_eq_getElem?_getD, hs2]; rfl
  rw [hg]
  refine bndL_lit hs ?_
  simp [p1, p2]
theorem r_compare (H : AHeap) {i : Nat} (hi : i < 6) : ACalls Tryz.prog 53 [i64 i] H (str (cmps.getD i [])) H := by
  refine acalls_pure MixT Tryz.func53 (by decide) rfl ?_
  rw [d53]
  have hs := sliceLit1 (H := H) (P := Tryz.prog) (T := 42) (e := 9) (zv := .string ByteArray.empty) (l := cmps.map str) (n := 6) (by kernel_rfl) (by decide) rfl (by decide)
  obtain ⟨s, hs2⟩ : ∃ s, cmps[i]? = some s := ⟨_, List.getElem?_eq_getElem hi⟩
  obtain ⟨p, p1, p2⟩ := strs_at (H := H) cmps (n := 6) rfl hs2
  have hg : cmps.getD i [] = s := by rw [List.getD_eq_getElem?_getD, hs2]; rfl
  rw [hg]
  refine bndL_lit hs ?_
  simp [p1, p2]
theorem r_op (H : AHeap) {i : Nat} (hi : i < 3) : ACalls Tryz.prog 171 [i64 i] H (str (opsL.getD i [])) H := by
  refine acalls_pure MixT Tryz.func171 (by decide) rfl ?_
  rw [d171]
  have hs := sliceLit1 (H := H) (P := Tryz.prog) (T := 42) (e := 9) (zv := .string ByteArray.empty) (l := opsL.map str) (n := 3) (by kernel_rfl) (by decide) rfl (by decide)
  obtain ⟨s, hs2⟩ : ∃ s, opsL[i]? = some s := ⟨_, List.getElem?_eq_getElem hi⟩
  obtain ⟨p, p1, p2⟩ := strs_at (H := H) opsL (n := 3) rfl hs2
  have hg : opsL.getD i [] = s := by rw [List.getD_eq_getElem?_getD, hs2]; rfl
  rw [hg]
  refine bndL_lit hs ?_
  simp [p1, p2]
def winF (n : Int) : List UInt8 → Int
  | [] => if n > 1000 then 0 else n
  | d :: r => if isDig d = false ∨ n > 1000 then 0 else winF (10 * n + ((d.toNat : Int) - 48)) r
theorem win_loop {H : AHeap} {s : List UInt8} {k : Value → AHeap → Prop} {w : Int} (hs : s.length < 2 ^ 62) (hk : k (i64 w) H) :
    ∀ (r : List UInt8) (i : Nat) (n : Int) (s1 s2 s5 s6 s7 s8 s9 s10 s11 s12 s13 s14 s15 s16 s17 s18 s19 s20 s21 s22 s23 s24 s25 s26 s27 s28 s29 s30 s31 s32 s33 s34 s35 : Value), s.drop i = r → i ≤ s.length → 0 ≤ n → n ≤ 20000 → w = winF n r → L150x0 (r.length + 1) k [str s, s1, s2, i64 n, i64 i, s5, s6, s7, s8, s9, s10, s11, s12, s13, s14, s15, s16, s17, s18, s19, s20, s21, s22, s23, s24, s25, s26, s27, s28, s29, s30, s31, s32, s33, s34, s35] H := by
  intro r
  induction r with
  | nil =>
    intro i n s1 s2 s5 s6 s7 s8 s9 s10 s11 s12 s13 s14 s15 s16 s17 s18 s19 s20 s21 s22 s23 s24 s25 s26 s27 s28 s29 s30 s31 s32 s33 s34 s35 hd hi h0 hn hw
    have hle : s.length ≤ i := by simpa using hd
    have : ¬ i < s.length := by omega
    rw [List.length_nil, L150x0q]
    rw [winF] at hw
    by_cases h1 : n > 1000
    · rw [if_pos h1] at hw
      subst hw
      simp [this, h1]
      exact hk
    · rw [if_neg h1] at hw
      subst hw
      simp [this, h1]
      exact hk
  | cons b r ih =>
    intro i n s1 s2 s5 s6 s7 s8 s9 s10 s11 s12 s13 s14 s15 s16 s17 s18 s19 s20 s21 s22 s23 s24 s25 s26 s27 s28 s29 s30 s31 s32 s33 s34 s35 hd hi h0 hn hw
    have hb : s[i]? = some b := by rw [← List.head?_drop, hd]; rfl
    have hlt : i < s.length := (List.getElem?_eq_some_iff.1 hb).1
    have hix := aIndex_at (P := Tryz.prog) (T := 9) (k := .i64) (by simp) hb
    have hdr : s.drop (i + 1) = r := by rw [← List.drop_drop, hd]; rfl
    rw [List.length_cons, L150x0q]
    have hq := isDig_iff b
    rw [winF] at hw
    by_cases h1 : (b.toNat : Int) < 48
    · have : isDig b = false := by rw [← Bool.not_eq_true]; rw [hq]; omega
      rw [if_pos (.inl this)] at hw
      subst hw
      simp [hlt, hix, h1]
      exact hk
    · by_cases h2 : 57 < (b.toNat : Int)
      · have : isDig b = false := by rw [← Bool.not_eq_true]; rw [hq]; omega
        rw [if_pos (.inl this)] at hw
        subst hw
        simp [hlt, hix, h1, h2]
        exact hk
      · have hdg : isDig b = true := by rw [hq]; omega
        by_cases h3 : n > 1000
        · rw [if_pos (.inr h3)] at hw
          subst hw
          simp [hlt, hix, h1, h2, h3]
          exact hk
        · rw [if_neg (by simp [hdg, h3])] at hw
          have w1 : IntKind.i64.wrap (10 * n) = 10 * n := wrap_i64 (by omega) (by omega)
          have w2 : IntKind.u8.wrap ((b.toNat : Int) - 48) = (b.toNat : Int) - 48 := by unfold IntKind.wrap; simp [IntKind.bits, IntKind.signed]; omega
          have w3 : IntKind.i64.wrap ((b.toNat : Int) - 48) = (b.toNat : Int) - 48 := wrap_i64 (by omega) (by omega)
          have w4 : IntKind.i64.wrap (10 * n + ((b.toNat : Int) - 48)) = 10 * n + ((b.toNat : Int) - 48) := wrap_i64 (by omega) (by omega)
          simp [hlt, hix, h1, h2, h3, w1, w2, w3, w4, show i + 1 < 2 ^ 63 by omega]
          exact ih (i + 1) _ _ _ _ _ _ _ _ _ _ _ _ _ _ _ _ _ _ _ _ _ _ _ _ _ _ _ _ _ _ _ _ _ _ hdr hlt (by omega) (by omega) hw
theorem r_window (H : AHeap) {s : List UInt8} (hs : s.length < 2 ^ 62) : ACalls Tryz.prog 150 [str s] H (i64 (winF 0 s)) H := by
  refine acalls_pure MixT Tryz.func150 (by decide) rfl ?_
  rw [d150]
  exact ⟨s.length + 1, win_loop (k := fun u H2 => u = i64 (winF 0 s) ∧ ∃ X, H2 = H ++ X) hs ⟨rfl, [], by simp⟩ s 0 0 _ _ _ _ _ _ _ _ _ _ _ _ _ _ _ _ _ _ _ _ _ _ _ _ _ _ _ _ _ _ _ _ _ rfl (by omega) (by omega) (by omega) rfl⟩
theorem natF_mono : ∀ (l : List UInt8) (n : Int), 0 ≤ n → l.all isDig = true → n ≤ natF n l := by
  intro l
  induction l with
  | nil => intro n h _; exact Int.le_refl _
  | cons d r ih =>
    intro n h hd
    rw [List.all_cons, Bool.and_eq_true] at hd
    have h2 := (isDig_iff d).1 hd.1
    rw [natF]
    have := ih (10 * n + ((d.toNat : Int) - 48)) (by omega) hd.2
    omega
theorem winF_nat : ∀ (l : List UInt8) (n : Int), 0 ≤ n → winF n l = if l.all isDig = true ∧ natF n l ≤ 1000 then natF n l else 0 := by
  intro l
  induction l with
  | nil =>
    intro n h
    rw [winF, natF]
    by_cases h1 : n > 1000
    · rw [if_pos h1, if_neg (by simp; omega)]
    · rw [if_neg h1, if_pos (by simp; omega)]
  | cons d r ih =>
    intro n h
    rw [winF, natF]
    by_cases h1 : isDig d = true
    · have h2 := (isDig_iff d).1 h1
      by_cases h3 : n > 1000
      · rw [if_pos (.inr h3), if_neg]
        rintro ⟨q1, q2⟩
        rw [List.all_cons, Bool.and_eq_true] at q1
        have := natF_mono r (10 * n + ((d.toNat : Int) - 48)) (by omega) q1.2
        omega
      · rw [if_neg (by simp [h1, h3]), ih _ (by omega)]
        simp [h1]
    · have h1' : isDig d = false := by simpa using h1
      rw [if_pos (.inl h1'), if_neg (by simp [h1'])]
theorem win_ato (s : List UInt8) : (winF 0 s ≠ 0 ∧ ∃ n, atoF s = some n ∧ 1 ≤ n ∧ n ≤ 1000 ∧ winF 0 s = n) ∨ (winF 0 s = 0 ∧ ∀ n, atoF s = some n → ¬ (1 ≤ n ∧ n ≤ 1000)) := by
  rw [winF_nat s 0 (Int.le_refl _)]
  unfold atoF
  by_cases h1 : s.all isDig = true ∧ natF 0 s ≤ 1000
  · rw [if_pos h1]
    by_cases h0 : natF 0 s = 0
    · right
      refine ⟨h0, fun n hn => ?_⟩
      split at hn
      · cases hn; omega
      · cases hn
    · left
      have hge := natF_ge s 0 (Int.le_refl _) h1.1
      have hne : s ≠ [] := by rintro rfl; exact h0 rfl
      exact ⟨h0, natF 0 s, by rw [if_pos ⟨hne, h1.1, by omega⟩], by omega, h1.2, rfl⟩
  · rw [if_neg h1]
    right
    refine ⟨rfl, fun n hn => ?_⟩
    split at hn
    · rename_i h2
      cases hn
      intro h3
      exact h1 ⟨h2.2.1, h3.2⟩
    · cases hn
def matV : Option (Mat × Nat) → Value
  | none => .tuple #[.agg (Mat.cells ⟨[], 0, []⟩).toArray, i64 (-1)]
  | some p => .tuple #[.agg p.1.cells.toArray, i64 p.2]
def mcond (ts : List Tok) (a i : Nat) : Prop := (tokK ts 1 a).isSome = true ∧ tokK ts 4 (a + 1) = opsL[i]? ∧ (tokK ts 3 (a + 2)).isSome = true
theorem opsL_at : ∀ i < 3, ∀ j < 3, opsL[i]? = opsL[j]? → i = j := by decide
theorem matO_none {ts : List Tok} {a : Nat} (h : ∀ i, i < 3 → ¬ mcond ts a i) : matO ts a = none := by
  unfold matO
  cases h1 : tokK ts 1 a with
  | none => rfl
  | some x =>
    cases h2 : tokK ts 4 (a + 1) with
    | none => rfl
    | some o =>
      simp only [Option.bind_some]
      by_cases ho : o ∈ opsL
      · rw [if_pos ho]
        obtain ⟨i, hi⟩ := List.getElem?_of_mem ho
        have hi3 : i < 3 := (List.getElem?_eq_some_iff.1 hi).1
        cases h3 : tokK ts 3 (a + 2) with
        | none => rfl
        | some y => exact absurd ⟨by rw [h1]; rfl, by rw [h2, hi], by rw [h3]; rfl⟩ (h i hi3)
      · rw [if_neg ho]
theorem matO_some {ts : List Tok} {a i : Nat} (hi : i < 3) (h : mcond ts a i) : ∃ x y, tokK ts 1 a = some x ∧ tokK ts 3 (a + 2) = some y ∧ matO ts a = some (⟨x, i, y⟩, a + 3) := by
  obtain ⟨h1, h2, h3⟩ := h
  obtain ⟨x, h1⟩ := Option.isSome_iff_exists.1 h1
  obtain ⟨y, h3⟩ := Option.isSome_iff_exists.1 h3
  refine ⟨x, y, h1, h3, ?_⟩
  obtain ⟨o, ho⟩ : ∃ o, opsL[i]? = some o := ⟨_, List.getElem?_eq_getElem hi⟩
  rw [ho] at h2
  have hm : o ∈ opsL := List.mem_of_getElem? ho
  have hx : idxS opsL o = i := by
    unfold idxS
    rw [if_pos hm]
    have hlt := List.idxOf_lt_length_of_mem hm
    exact opsL_at _ hlt _ hi (by rw [ho, List.getElem?_eq_getElem hlt, List.getElem_idxOf hlt])
  unfold matO
  simp only [h1, h2, h3, Option.bind_some, if_pos hm, hx]
theorem opsL_star : ∀ i, i < 3 → opsL.getD i [] ≠ [42] := by decide
theorem tok_at {T : List RTk} {k : Int} {a : Nat} {x : List UInt8} (h : tokK (T.map Prod.fst) k a = some x) : ∃ p, T[a]? = some p ∧ p.1.kind = k ∧ p.1.text = x := by
  unfold tokK at h
  cases hp : T[a]? with
  | none => simp [hp] at h
  | some p =>
    simp only [List.getElem?_map, hp, Option.map_some, Option.bind_some] at h
    split at h
    · rename_i hk
      cases h
      exact ⟨p, rfl, hk, rfl⟩
    · cases h
set_option maxHeartbeats 1000000 in
theorem mat_loop {K : AHeap} {v : Value} {T : List RTk} {a : Nat} {k : Value → AHeap → Prop} (h : RTA K v T) (ha : a < 2 ^ 50) (hk : ∀ u, u = matV (matO (T.map Prod.fst) a) → ∀ X, k u (K ++ X)) :
    ∀ (d j : Nat) (s2 s3 s5 s7 s8 s9 s10 s11 s12 s13 s14 s15 s16 s17 s18 s19 s20 s21 s22 s23 s24 s25 s26 s27 s28 s29 s30 s31 s32 s33 s34 s35 s36 s37 s38 s39 s40 s41 s42 s43 s44 : Value), d + j = 3 → (∀ i, i < j → ¬ mcond (T.map Prod.fst) a i) → L148x0 (d + 1) k [v, i64 a, s2, s3, .pointer (some ⟨K.length, 0, some 3⟩), s5, i64 j, s7, s8, s9, s10, s11, s12, s13, s14, s15, s16, s17, s18, s19, s20, s21, s22, s23, s24, s25, s26, s27, s28, s29, s30, s31, s32, s33, s34, s35, s36, s37, s38, s39, s40, s41, s42, s43, s44] (K ++ [.cells [str [], .int .u8 0, str []] 75]) := by
  intro d
  have hK := h.pre (.app K [.cells [str [], .int .u8 0, str []] 75])
  have w1 : IntKind.i64.wrap ((a : Int) + 1) = ((a + 1 : Nat) : Int) := by rw [wrap_i64 (by omega) (by omega)]; omega
  have w2 : IntKind.i64.wrap ((a : Int) + 2) = ((a + 2 : Nat) : Int) := by rw [wrap_i64 (by omega) (by omega)]; omega
  have w3 : IntKind.i64.wrap ((a : Int) + 3) = ((a + 3 : Nat) : Int) := by rw [wrap_i64 (by omega) (by omega)]; omega
  induction d with
  | zero =>
    intro j s2 s3 s5 s7 s8 s9 s10 s11 s12 s13 s14 s15 s16 s17 s18 s19 s20 s21 s22 s23 s24 s25 s26 s27 s28 s29 s30 s31 s32 s33 s34 s35 s36 s37 s38 s39 s40 s41 s42 s43 s44 hd hn
    obtain rfl : j = 3 := by omega
    rw [L148x0q]
    simp
    exact hk _ (by rw [matO_none hn]; rfl) _
  | succ d ih =>
    intro j s2 s3 s5 s7 s8 s9 s10 s11 s12 s13 s14 s15 s16 s17 s18 s19 s20 s21 s22 s23 s24 s25 s26 s27 s28 s29 s30 s31 s32 s33 s34 s35 s36 s37 s38 s39 s40 s41 s42 s43 s44 hd hn
    have hj : j < 3 := by omega
    rw [L148x0q]
    have hjI : (j : Int) < 3 := by omega
    simp [hjI]
    have wj : IntKind.i64.wrap ((j : Int) + 1) = ((j + 1 : Nat) : Int) := by rw [wrap_i64 (by omega) (by omega)]; omega
    have i1 := r_is hK a 1 [42]
    rw [isR_star] at i1
    have i2 := r_is hK (a + 1) 4 (opsL.getD j [])
    rw [isR_txt (opsL_star j hj)] at i2
    have i3 := r_is hK (a + 2) 3 [42]
    rw [isR_star] at i3
    have next : ¬ mcond (T.map Prod.fst) a j → ∀ (s2 s3 s5 s7 s8 s9 s10 s11 s12 s13 s14 s15 s16 s17 s18 s19 s20 s21 s22 s23 s24 s25 s26 s27 s28 s29 s30 s31 s32 s33 s34 s35 s36 s37 s38 s39 s40 s41 s42 s43 s44 : Value), L148x0 (d + 1) k [v, i64 a, s2, s3, .pointer (some ⟨K.length, 0, some 3⟩), s5, i64 ((j + 1 : Nat) : Int), s7, s8, s9, s10, s11, s12, s13, s14, s15, s16, s17, s18, s19, s20, s21, s22, s23, s24, s25, s26, s27, s28, s29, s30, s31, s32, s33, s34, s35, s36, s37, s38, s39, s40, s41, s42, s43, s44] (K ++ [.cells [str [], .int .u8 0, str []] 75]) := by
      intro hnm s2 s3 s5 s7 s8 s9 s10 s11 s12 s13 s14 s15 s16 s17 s18 s19 s20 s21 s22 s23 s24 s25 s26 s27 s28 s29 s30 s31 s32 s33 s34 s35 s36 s37 s38 s39 s40 s41 s42 s43 s44
      exact ih (j + 1) _ _ _ _ _ _ _ _ _ _ _ _ _ _ _ _ _ _ _ _ _ _ _ _ _ _ _ _ _ _ _ _ _ _ _ _ _ _ _ _ _ (by omega) (fun i hi => by
        by_cases e : i = j
        · rw [e]; exact hnm
        · exact hn i (by omega))
    refine bndC_of i1 ?_
    cases t1 : (tokK (T.map Prod.fst) 1 a).isSome with
    | false =>
      simp [wj]
      exact next (fun hm => by have := hm.1; rw [t1] at this; cases this) _ _ _ _ _ _ _ _ _ _ _ _ _ _ _ _ _ _ _ _ _ _ _ _ _ _ _ _ _ _ _ _ _ _ _ _ _ _ _ _ _
    | true =>
      simp [w1]
      refine bndG_t _ _ (r_op _ hj) ?_
      refine bndG_t _ _ i2 ?_
      obtain ⟨o, ho⟩ : ∃ o, opsL[j]? = some o := ⟨_, List.getElem?_eq_getElem hj⟩
      have hgo : opsL.getD j [] = o := by rw [List.getD_eq_getElem?_getD, ho]; rfl
      cases t2 : isT (T.map Prod.fst) (a + 1) 4 (opsL.getD j []) with
      | false =>
        simp [wj]
        exact next (fun hm => by
          have := hm.2.1
          rw [ho] at this
          rw [hgo] at t2
          rw [(isT_tok _ _ _ _).2 this] at t2
          cases t2) _ _ _ _ _ _ _ _ _ _ _ _ _ _ _ _ _ _ _ _ _ _ _ _ _ _ _ _ _ _ _ _ _ _ _ _ _ _ _ _ _
      | true =>
        simp [w2]
        refine bndG_t _ _ i3 ?_
        cases t3 : (tokK (T.map Prod.fst) 3 (a + 2)).isSome with
        | false =>
          simp [wj]
          exact next (fun hm => by have := hm.2.2; rw [t3] at this; cases this) _ _ _ _ _ _ _ _ _ _ _ _ _ _ _ _ _ _ _ _ _ _ _ _ _ _ _ _ _ _ _ _ _ _ _ _ _ _ _ _ _
        | true =>
          have hm : mcond (T.map Prod.fst) a j := ⟨t1, by rw [ho, ← hgo]; exact (isT_tok _ _ _ _).1 t2, t3⟩
          obtain ⟨x, y, g1, g2, g3⟩ := matO_some hj hm
          obtain ⟨p, p1, p2, p3⟩ := tok_at g1
          obtain ⟨q, q1, q2, q3⟩ := tok_at g2
          obtain ⟨e1, e2, e3, f1, f2, f3, f4, f5⟩ := hK.at p1
          obtain ⟨e4, e5, e6, f6, f7, f8, f9, f10⟩ := hK.at q1
          rw [p3] at f5
          rw [q3] at f10
          simp only [Int.natCast_add, Int.cast_ofNat_Int] at f6
          have wju : IntKind.u8.wrap (j : Int) = (j : Int) := by unfold IntKind.wrap; simp [IntKind.bits, IntKind.signed]; omega
          simp [f1, f4, f5, w2, f6, f9, f10, w3, wju]
          refine bndK_of (v := undef) (H' := K ++ [AObj.cells [str x, .int .u8 j, str y] 75]) ⟨rfl, by simp⟩ (by simp [w3]) ?_
          simp
          exact hk _ (by rw [g3]; rfl) _
theorem r_matcher {K v T} (h : RTA K v T) {a : Nat} (ha : a < 2 ^ 50) : ACalls Tryz.prog 148 [v, i64 a] K (matV (matO (T.map Prod.fst) a)) K := by
  have hfl : ∀ o, flat (matV o) = true := by
    intro o
    cases o with
    | none => rfl
    | some p => rfl
  refine acallsG_flat (fun c => @drawKeep_sound _ c MixT) Tryz.func148 (by decide) (hfl _) ?_
  rw [d148]
  simp
  exact ⟨3 + 1, mat_loop h ha (fun u hu X => ⟨hu, X, rfl⟩) 3 0 _ _ _ _ _ _ _ _ _ _ _ _ _ _ _ _ _ _ _ _ _ _ _ _ _ _ _ _ _ _ _ _ _ _ _ _ _ _ _ _ _ rfl (fun i hi => by omega)⟩
end Go.Vi
namespace Go.Vi
open Go Go.Proofs

theorem r_fsat (H : AHeap) (x : Int) : ACalls Tryz.prog 86 [i64 x] H (i64 (sat x)) H := by
  refine acalls_pure MixT Tryz.func86 (by decide) rfl ?_
  rw [d86]
  have hm : maxFix = 4611686018427387903 := rfl
  by_cases h1 : 4611686018427387903 < x
  · have : sat x = 4611686018427387903 := by unfold sat; omega
    rw [this]
    simp [h1]
  · by_cases h2 : x < -4611686018427387903
    · have : sat x = -4611686018427387903 := by unfold sat; omega
      rw [this]
      simp [h1, h2]
    · have : sat x = x := by unfold sat; omega
      rw [this]
      simp [h1, h2]
theorem r_digit (H : AHeap) (b : UInt8) : ACalls Tryz.prog 172 [byt b] H (.bool (isDig b)) H := by
  refine acalls_pure MixT Tryz.func172 (by decide) rfl ?_
  rw [d172]
  simp +contextual [isDig]
def moreF (x : Int) (d : UInt8) : Int := if x > 461168601842738790 then maxFix else sat (10 * x + ((d.toNat : Int) - 48))
theorem moreF_rng {x : Int} {d : UInt8} (h0 : 0 ≤ x) (hd : isDig d = true) : 0 ≤ moreF x d ∧ moreF x d ≤ maxFix := by
  have hm : maxFix = 4611686018427387903 := rfl
  have := (isDig_iff d).1 hd
  unfold moreF sat
  split <;> omega
theorem r_more (H : AHeap) {x : Int} {d : UInt8} (h0 : 0 ≤ x) (hd : isDig d = true) : ACalls Tryz.prog 173 [i64 x, byt d] H (i64 (moreF x d)) H := by
  refine acalls_pure MixT Tryz.func173 (by decide) rfl ?_
  rw [d173]
  have hb := (isDig_iff d).1 hd
  unfold moreF
  by_cases h1 : x > 461168601842738790
  · rw [if_pos h1]
    simp [h1, maxFix]
  · rw [if_neg h1]
    have w1 : IntKind.i64.wrap (10 * x) = 10 * x := wrap_i64 (by omega) (by omega)
    have w2 : IntKind.u8.wrap ((d.toNat : Int) - 48) = (d.toNat : Int) - 48 := by unfold IntKind.wrap; simp [IntKind.bits, IntKind.signed]; omega
    have w3 : IntKind.i64.wrap ((d.toNat : Int) - 48) = (d.toNat : Int) - 48 := wrap_i64 (by omega) (by omega)
    have w4 : IntKind.i64.wrap (10 * x + ((d.toNat : Int) - 48)) = 10 * x + ((d.toNat : Int) - 48) := wrap_i64 (by omega) (by omega)
    simp [h1, w1, w2, w3, w4]
    exact bndC_of (r_fsat _ _) ⟨rfl, [], by simp⟩
def foldM (x : Int) (l : List UInt8) : Int := l.foldl moreF x
theorem foldM_max : ∀ (l : List UInt8), foldM maxFix l = maxFix := by
  intro l
  induction l with
  | nil => rfl
  | cons d r ih =>
    have : moreF maxFix d = maxFix := by unfold moreF; rw [if_pos (by decide)]
    show foldM (moreF maxFix d) r = _
    rw [this, ih]
theorem digF_fold : ∀ (l : List UInt8) (x : Int), 0 ≤ x → x ≤ maxFix → l.all isDig = true → digF x l = foldM x l := by
  intro l
  induction l with
  | nil => intro x _ _ _; rfl
  | cons d r ih =>
    intro x h0 h1 h
    rw [List.all_cons, Bool.and_eq_true] at h
    have hb := (isDig_iff d).1 h.1
    have hm : maxFix = 4611686018427387903 := rfl
    rw [digF]
    show _ = foldM (moreF x d) r
    by_cases hc : x > (maxFix - ((d.toNat : Int) - 48)).tdiv 10
    · rw [if_pos hc]
      have : moreF x d = maxFix := by
        unfold moreF sat
        rw [Int.tdiv_eq_ediv_of_nonneg (by omega)] at hc
        split <;> omega
      rw [this, foldM_max]
    · rw [if_neg hc]
      have : moreF x d = 10 * x + ((d.toNat : Int) - 48) := by
        unfold moreF sat
        rw [Int.tdiv_eq_ediv_of_nonneg (by omega)] at hc
        split <;> omega
      rw [this]
      rw [Int.tdiv_eq_ediv_of_nonneg (by omega)] at hc
      exact ih _ (by omega) (by omega) h.2
def finR (less : Bool) (x : Int) (w p : Nat) (ok : Bool) : Int × Int :=
  if w = 0 ∨ p > 3 ∨ ok = false then (0, 10) else (if less = true then -foldM x (List.replicate (3 - p) 48) else foldM x (List.replicate (3 - p) 48), 0)
def parV (q : Int × Int) : Value := .tuple #[i64 q.1, i64 q.2]
theorem pad_loop {H : AHeap} {less : Bool} {k : Value → AHeap → Prop} (q : Int) (hk : k (parV (if less = true then -q else q, 0)) H) :
    ∀ (d p : Nat) (x : Int) (s0 s1 s2 s3 s4 s7 s9 s10 s11 s12 s13 s14 s15 s16 s17 s18 s19 s20 s21 s22 s23 s24 s25 s26 s27 s28 s29 s30 s31 s32 s33 s34 s35 s36 s37 s38 s39 s40 s41 s42 s43 s44 s45 s46 s47 s48 s49 s50 s51 s52 s53 s54 s55 s56 s57 s58 s59 s60 s61 s62 s63 s64 s65 s66 s67 s68 s69 s70 s71 s72 s73 s74 s75 s76 s77 s78 s79 s80 s81 s82 s83 s84 s85 s86 s87 s88 s89 s90 s91 : Value), d + p = 3 → 0 ≤ x → x ≤ maxFix → q = foldM x (List.replicate d 48) → L151x2 (d + 1) k [s0, s1, s2, s3, s4, .bool less, i64 x, s7, i64 p, s9, s10, s11, s12, s13, s14, s15, s16, s17, s18, s19, s20, s21, s22, s23, s24, s25, s26, s27, s28, s29, s30, s31, s32, s33, s34, s35, s36, s37, s38, s39, s40, s41, s42, s43, s44, s45, s46, s47, s48, s49, s50, s51, s52, s53, s54, s55, s56, s57, s58, s59, s60, s61, s62, s63, s64, s65, s66, s67, s68, s69, s70, s71, s72, s73, s74, s75, s76, s77, s78, s79, s80, s81, s82, s83, s84, s85, s86, s87, s88, s89, s90, s91] H := by
  intro d
  have hm : maxFix = 4611686018427387903 := rfl
  induction d with
  | zero =>
    intro p x s0 s1 s2 s3 s4 s7 s9 s10 s11 s12 s13 s14 s15 s16 s17 s18 s19 s20 s21 s22 s23 s24 s25 s26 s27 s28 s29 s30 s31 s32 s33 s34 s35 s36 s37 s38 s39 s40 s41 s42 s43 s44 s45 s46 s47 s48 s49 s50 s51 s52 s53 s54 s55 s56 s57 s58 s59 s60 s61 s62 s63 s64 s65 s66 s67 s68 s69 s70 s71 s72 s73 s74 s75 s76 s77 s78 s79 s80 s81 s82 s83 s84 s85 s86 s87 s88 s89 s90 s91 hd h0 h1 hq
    obtain rfl : p = 3 := by omega
    rw [L151x2q]
    have hqx : q = x := hq
    subst hqx
    have wn : IntKind.i64.wrap (-q) = -q := wrap_i64 (by omega) (by omega)
    cases less with
    | true => simp [wn]; exact hk
    | false => simp; exact hk
  | succ d ih =>
    intro p x s0 s1 s2 s3 s4 s7 s9 s10 s11 s12 s13 s14 s15 s16 s17 s18 s19 s20 s21 s22 s23 s24 s25 s26 s27 s28 s29 s30 s31 s32 s33 s34 s35 s36 s37 s38 s39 s40 s41 s42 s43 s44 s45 s46 s47 s48 s49 s50 s51 s52 s53 s54 s55 s56 s57 s58 s59 s60 s61 s62 s63 s64 s65 s66 s67 s68 s69 s70 s71 s72 s73 s74 s75 s76 s77 s78 s79 s80 s81 s82 s83 s84 s85 s86 s87 s88 s89 s90 s91 hd h0 h1 hq
    rw [L151x2q]
    have hp : (p : Int) < 3 := by omega
    have wp : IntKind.i64.wrap ((p : Int) + 1) = ((p + 1 : Nat) : Int) := by rw [wrap_i64 (by omega) (by omega)]; omega
    simp [hp]
    refine bndC_of (r_more H (d := 48) h0 (by decide)) ?_
    simp [wp]
    have := moreF_rng (x := x) (d := 48) h0 (by decide)
    exact ih (p + 1) _ _ _ _ _ _ _ _ _ _ _ _ _ _ _ _ _ _ _ _ _ _ _ _ _ _ _ _ _ _ _ _ _ _ _ _ _ _ _ _ _ _ _ _ _ _ _ _ _ _ _ _ _ _ _ _ _ _ _ _ _ _ _ _ _ _ _ _ _ _ _ _ _ _ _ _ _ _ _ _ _ _ _ _ _ _ _ _ _ _ (by omega) this.1 this.2 (by rw [hq, List.replicate_succ]; rfl)
theorem fin_walk {H : AHeap} {s : List UInt8} {less : Bool} {k : Value → AHeap → Prop} {x : Int} {w p i : Nat} (h0 : 0 ≤ x) (h1 : x ≤ maxFix) (hk : k (parV (finR less x w p (decide (i = s.length)))) H) (s1 s2 s3 s9 s10 s11 s12 s13 s14 s15 s16 s17 s18 s19 s20 s21 s22 s23 s24 s25 s26 s27 s28 s29 s30 s31 s32 s33 s34 s35 s36 s37 s38 s39 s40 s41 s42 s43 s44 s45 s46 s47 s48 s49 s50 s51 s52 s53 s54 s55 s56 s57 s58 s59 s60 s61 s62 s63 s64 s65 s66 s67 s68 s69 s70 s71 s72 s73 s74 s75 s76 s77 s78 s79 s80 s81 s82 s83 s84 s85 s86 s87 s88 s89 s90 s91 : Value) :
    S151x1 k [str s, s1, s2, s3, i64 i, .bool less, i64 x, i64 w, i64 p, s9, s10, s11, s12, s13, s14, s15, s16, s17, s18, s19, s20, s21, s22, s23, s24, s25, s26, s27, s28, s29, s30, s31, s32, s33, s34, s35, s36, s37, s38, s39, s40, s41, s42, s43, s44, s45, s46, s47, s48, s49, s50, s51, s52, s53, s54, s55, s56, s57, s58, s59, s60, s61, s62, s63, s64, s65, s66, s67, s68, s69, s70, s71, s72, s73, s74, s75, s76, s77, s78, s79, s80, s81, s82, s83, s84, s85, s86, s87, s88, s89, s90, s91] H := by
  rw [S151x1q]
  unfold finR at hk
  by_cases hw : w = 0
  · subst hw
    rw [if_pos (.inl rfl)] at hk
    simp
    exact hk
  · have hw' : ((w : Int) == 0) = false := by rw [beq_eq_false_iff_ne]; omega
    by_cases hp : p > 3
    · rw [if_pos (.inr (.inl hp))] at hk
      have hp' : (3 : Int) < p := by omega
      simp [hw', hp']
      exact hk
    · have hp' : ¬ (3 : Int) < p := by omega
      by_cases hi : i = s.length
      · rw [if_neg (by simp [hw, hp, hi])] at hk
        subst hi
        simp [hw', hp']
        exact ⟨3 - p + 1, pad_loop _ hk (3 - p) p x _ _ _ _ _ _ _ _ _ _ _ _ _ _ _ _ _ _ _ _ _ _ _ _ _ _ _ _ _ _ _ _ _ _ _ _ _ _ _ _ _ _ _ _ _ _ _ _ _ _ _ _ _ _ _ _ _ _ _ _ _ _ _ _ _ _ _ _ _ _ _ _ _ _ _ _ _ _ _ _ _ _ _ _ _ _ _ _ _ (by omega) h0 h1 rfl⟩
      · rw [if_pos (.inr (.inr (by simp [hi])))] at hk
        have hi' : ((i : Int) != s.length) = true := by rw [bne_iff_ne]; omega
        simp [hw', hp', hi']
        exact hk
theorem part_loop {H : AHeap} {s : List UInt8} {less : Bool} {k : Value → AHeap → Prop} {w : Nat} (hs : s.length < 2 ^ 60) (q : Int × Int) (hk : k (parV q) H) :
    ∀ (r : List UInt8) (i p : Nat) (x : Int) (s1 s2 s3 s9 s10 s11 s12 s13 s14 s15 s16 s17 s18 s19 s20 s21 s22 s23 s24 s25 s26 s27 s28 s29 s30 s31 s32 s33 s34 s35 s36 s37 s38 s39 s40 s41 s42 s43 s44 s45 s46 s47 s48 s49 s50 s51 s52 s53 s54 s55 s56 s57 s58 s59 s60 s61 s62 s63 s64 s65 s66 s67 s68 s69 s70 s71 s72 s73 s74 s75 s76 s77 s78 s79 s80 s81 s82 s83 s84 s85 s86 s87 s88 s89 s90 s91 : Value), s.drop i = r → i ≤ s.length → p ≤ i → 0 ≤ x → x ≤ maxFix →
      q = (if p + runF isDig r = 0 then (0, 10) else finR less (foldM x (r.take (runF isDig r))) w (p + runF isDig r) (decide (i + runF isDig r = s.length))) →
      L151x1 (r.length + 1) k [str s, s1, s2, s3, i64 i, .bool less, i64 x, i64 w, i64 p, s9, s10, s11, s12, s13, s14, s15, s16, s17, s18, s19, s20, s21, s22, s23, s24, s25, s26, s27, s28, s29, s30, s31, s32, s33, s34, s35, s36, s37, s38, s39, s40, s41, s42, s43, s44, s45, s46, s47, s48, s49, s50, s51, s52, s53, s54, s55, s56, s57, s58, s59, s60, s61, s62, s63, s64, s65, s66, s67, s68, s69, s70, s71, s72, s73, s74, s75, s76, s77, s78, s79, s80, s81, s82, s83, s84, s85, s86, s87, s88, s89, s90, s91] H := by
  intro r
  induction r with
  | nil =>
    intro i p x s1 s2 s3 s9 s10 s11 s12 s13 s14 s15 s16 s17 s18 s19 s20 s21 s22 s23 s24 s25 s26 s27 s28 s29 s30 s31 s32 s33 s34 s35 s36 s37 s38 s39 s40 s41 s42 s43 s44 s45 s46 s47 s48 s49 s50 s51 s52 s53 s54 s55 s56 s57 s58 s59 s60 s61 s62 s63 s64 s65 s66 s67 s68 s69 s70 s71 s72 s73 s74 s75 s76 s77 s78 s79 s80 s81 s82 s83 s84 s85 s86 s87 s88 s89 s90 s91 hd hi hpi h0 h1 hq
    have hle : s.length ≤ i := by simpa using hd
    have : ¬ i < s.length := by omega
    rw [List.length_nil, L151x1q]
    have hr : runF isDig [] = 0 := rfl
    rw [hr] at hq
    simp only [Nat.add_zero] at hq
    by_cases hp0 : p = 0
    · subst hp0
      rw [if_pos rfl] at hq
      rw [hq] at hk
      simp [this]
      exact hk
    · rw [if_neg hp0] at hq
      rw [hq] at hk
      have hpb : ((p : Int) == 0) = false := by rw [beq_eq_false_iff_ne]; omega
      simp [this, hpb]
      exact fin_walk h0 h1 hk _ _ _ _ _ _ _ _ _ _ _ _ _ _ _ _ _ _ _ _ _ _ _ _ _ _ _ _ _ _ _ _ _ _ _ _ _ _ _ _ _ _ _ _ _ _ _ _ _ _ _ _ _ _ _ _ _ _ _ _ _ _ _ _ _ _ _ _ _ _ _ _ _ _ _ _ _ _ _ _ _ _ _ _ _ _
  | cons b r ih =>
    intro i p x s1 s2 s3 s9 s10 s11 s12 s13 s14 s15 s16 s17 s18 s19 s20 s21 s22 s23 s24 s25 s26 s27 s28 s29 s30 s31 s32 s33 s34 s35 s36 s37 s38 s39 s40 s41 s42 s43 s44 s45 s46 s47 s48 s49 s50 s51 s52 s53 s54 s55 s56 s57 s58 s59 s60 s61 s62 s63 s64 s65 s66 s67 s68 s69 s70 s71 s72 s73 s74 s75 s76 s77 s78 s79 s80 s81 s82 s83 s84 s85 s86 s87 s88 s89 s90 s91 hd hi hpi h0 h1 hq
    have hb : s[i]? = some b := by rw [← List.head?_drop, hd]; rfl
    have hlt : i < s.length := (List.getElem?_eq_some_iff.1 hb).1
    have hix := aIndex_at (P := Tryz.prog) (T := 9) (k := .i64) (by simp) hb
    have hdr : s.drop (i + 1) = r := by rw [← List.drop_drop, hd]; rfl
    rw [List.length_cons, L151x1q]
    rw [runF_cons] at hq
    have hdig := r_digit H b
    cases hbd : isDig b with
    | true =>
      rw [if_pos hbd] at hq
      rw [hbd] at hdig
      have wp : IntKind.i64.wrap ((p : Int) + 1) = ((p + 1 : Nat) : Int) := by rw [wrap_i64 (by omega) (by omega)]; omega
      simp [hlt, hix]
      refine bndG_t _ _ hdig ?_
      simp [hix]
      refine bndC_of (r_more H h0 hbd) ?_
      simp [wp, show i + 1 < 2 ^ 63 by omega]
      have hr := moreF_rng (x := x) h0 hbd
      refine ih (i + 1) (p + 1) _ _ _ _ _ _ _ _ _ _ _ _ _ _ _ _ _ _ _ _ _ _ _ _ _ _ _ _ _ _ _ _ _ _ _ _ _ _ _ _ _ _ _ _ _ _ _ _ _ _ _ _ _ _ _ _ _ _ _ _ _ _ _ _ _ _ _ _ _ _ _ _ _ _ _ _ _ _ _ _ _ _ _ _ _ _ _ hdr hlt (by omega) hr.1 hr.2 ?_
      have e1 : p + (runF isDig r + 1) = p + 1 + runF isDig r := by omega
      have e2 : i + (runF isDig r + 1) = i + 1 + runF isDig r := by omega
      rw [hq, List.take_succ_cons, e1, e2]
      rfl
    | false =>
      have hz : (if isDig b = true then runF isDig r + 1 else 0) = 0 := if_neg (by simp [hbd])
      rw [hz] at hq
      rw [hbd] at hdig
      simp only [Nat.add_zero, List.take_zero] at hq
      have hf0 : foldM x [] = x := rfl
      rw [hf0] at hq
      simp [hlt, hix]
      refine bndG_t _ _ hdig ?_
      by_cases hp0 : p = 0
      · subst hp0
        rw [if_pos rfl] at hq
        rw [hq] at hk
        simp
        exact hk
      · rw [if_neg hp0] at hq
        rw [hq] at hk
        have hpb : ((p : Int) == 0) = false := by rw [beq_eq_false_iff_ne]; omega
        simp [hpb]
        exact fin_walk h0 h1 hk _ _ _ _ _ _ _ _ _ _ _ _ _ _ _ _ _ _ _ _ _ _ _ _ _ _ _ _ _ _ _ _ _ _ _ _ _ _ _ _ _ _ _ _ _ _ _ _ _ _ _ _ _ _ _ _ _ _ _ _ _ _ _ _ _ _ _ _ _ _ _ _ _ _ _ _ _ _ _ _ _ _ _ _ _ _
def wholeR (less : Bool) (s : List UInt8) (i w : Nat) (x : Int) (r : List UInt8) : Int × Int :=
  let m := runF isDig r
  let x' := foldM x (r.take m)
  match r.drop m with
  | [] => finR less x' (w + m) 0 true
  | c :: v => if ((c.toNat : Int) == 46) = true then
      (if runF isDig v = 0 then (0, 10) else finR less (foldM x' (v.take (runF isDig v))) (w + m) (runF isDig v) (decide (i + m + 1 + runF isDig v = s.length)))
    else finR less x' (w + m) 0 (decide (i + m = s.length))
theorem whole_loop {H : AHeap} {s : List UInt8} {less : Bool} {k : Value → AHeap → Prop} (hs : s.length < 2 ^ 60) (q : Int × Int) (hk : k (parV q) H) :
    ∀ (r : List UInt8) (i w : Nat) (x : Int) (s1 s2 s3 s8 s9 s10 s11 s12 s13 s14 s15 s16 s17 s18 s19 s20 s21 s22 s23 s24 s25 s26 s27 s28 s29 s30 s31 s32 s33 s34 s35 s36 s37 s38 s39 s40 s41 s42 s43 s44 s45 s46 s47 s48 s49 s50 s51 s52 s53 s54 s55 s56 s57 s58 s59 s60 s61 s62 s63 s64 s65 s66 s67 s68 s69 s70 s71 s72 s73 s74 s75 s76 s77 s78 s79 s80 s81 s82 s83 s84 s85 s86 s87 s88 s89 s90 s91 : Value), s.drop i = r → i ≤ s.length → w ≤ i → 0 ≤ x → x ≤ maxFix → q = wholeR less s i w x r →
      L151x0 (r.length + 1) k [str s, s1, s2, s3, i64 i, .bool less, i64 x, i64 w, s8, s9, s10, s11, s12, s13, s14, s15, s16, s17, s18, s19, s20, s21, s22, s23, s24, s25, s26, s27, s28, s29, s30, s31, s32, s33, s34, s35, s36, s37, s38, s39, s40, s41, s42, s43, s44, s45, s46, s47, s48, s49, s50, s51, s52, s53, s54, s55, s56, s57, s58, s59, s60, s61, s62, s63, s64, s65, s66, s67, s68, s69, s70, s71, s72, s73, s74, s75, s76, s77, s78, s79, s80, s81, s82, s83, s84, s85, s86, s87, s88, s89, s90, s91] H := by
  intro r
  induction r with
  | nil =>
    intro i w x s1 s2 s3 s8 s9 s10 s11 s12 s13 s14 s15 s16 s17 s18 s19 s20 s21 s22 s23 s24 s25 s26 s27 s28 s29 s30 s31 s32 s33 s34 s35 s36 s37 s38 s39 s40 s41 s42 s43 s44 s45 s46 s47 s48 s49 s50 s51 s52 s53 s54 s55 s56 s57 s58 s59 s60 s61 s62 s63 s64 s65 s66 s67 s68 s69 s70 s71 s72 s73 s74 s75 s76 s77 s78 s79 s80 s81 s82 s83 s84 s85 s86 s87 s88 s89 s90 s91 hd hi hwi h0 h1 hq
    have hle : s.length ≤ i := by simpa using hd
    have : ¬ i < s.length := by omega
    rw [List.length_nil, L151x0q]
    have hq' : q = finR less x w 0 (decide (i = s.length)) := by
      rw [hq]
      have : decide (i = s.length) = true := by simp; omega
      rw [this]
      rfl
    rw [hq'] at hk
    simp [this]
    exact fin_walk (p := 0) h0 h1 hk _ _ _ _ _ _ _ _ _ _ _ _ _ _ _ _ _ _ _ _ _ _ _ _ _ _ _ _ _ _ _ _ _ _ _ _ _ _ _ _ _ _ _ _ _ _ _ _ _ _ _ _ _ _ _ _ _ _ _ _ _ _ _ _ _ _ _ _ _ _ _ _ _ _ _ _ _ _ _ _ _ _ _ _ _ _
  | cons b r ih =>
    intro i w x s1 s2 s3 s8 s9 s10 s11 s12 s13 s14 s15 s16 s17 s18 s19 s20 s21 s22 s23 s24 s25 s26 s27 s28 s29 s30 s31 s32 s33 s34 s35 s36 s37 s38 s39 s40 s41 s42 s43 s44 s45 s46 s47 s48 s49 s50 s51 s52 s53 s54 s55 s56 s57 s58 s59 s60 s61 s62 s63 s64 s65 s66 s67 s68 s69 s70 s71 s72 s73 s74 s75 s76 s77 s78 s79 s80 s81 s82 s83 s84 s85 s86 s87 s88 s89 s90 s91 hd hi hwi h0 h1 hq
    have hb : s[i]? = some b := by rw [← List.head?_drop, hd]; rfl
    have hlt : i < s.length := (List.getElem?_eq_some_iff.1 hb).1
    have hix := aIndex_at (P := Tryz.prog) (T := 9) (k := .i64) (by simp) hb
    have hdr : s.drop (i + 1) = r := by rw [← List.drop_drop, hd]; rfl
    rw [List.length_cons, L151x0q]
    have hdig := r_digit H b
    cases hbd : isDig b with
    | true =>
      rw [hbd] at hdig
      have ww : IntKind.i64.wrap ((w : Int) + 1) = ((w + 1 : Nat) : Int) := by rw [wrap_i64 (by omega) (by omega)]; omega
      simp [hlt, hix]
      refine bndG_t _ _ hdig ?_
      simp [hix]
      refine bndC_of (r_more H h0 hbd) ?_
      simp [ww, show i + 1 < 2 ^ 63 by omega]
      have hr := moreF_rng (x := x) h0 hbd
      refine ih (i + 1) (w + 1) _ _ _ _ _ _ _ _ _ _ _ _ _ _ _ _ _ _ _ _ _ _ _ _ _ _ _ _ _ _ _ _ _ _ _ _ _ _ _ _ _ _ _ _ _ _ _ _ _ _ _ _ _ _ _ _ _ _ _ _ _ _ _ _ _ _ _ _ _ _ _ _ _ _ _ _ _ _ _ _ _ _ _ _ _ _ _ _ hdr hlt (by omega) hr.1 hr.2 ?_
      rw [hq]
      unfold wholeR
      rw [runF_cons, if_pos hbd]
      simp only [List.take_succ_cons, List.drop_succ_cons]
      have e1 : w + (runF isDig r + 1) = w + 1 + runF isDig r := by omega
      have e2 : i + (runF isDig r + 1) = i + 1 + runF isDig r := by omega
      rw [e1, e2]
      rfl
    | false =>
      rw [hbd] at hdig
      have hm0 : runF isDig (b :: r) = 0 := by rw [runF_cons, if_neg (by simp [hbd])]
      unfold wholeR at hq
      rw [hm0] at hq
      simp only [List.drop_zero, List.take_zero, Nat.add_zero] at hq
      have hf0 : foldM x [] = x := rfl
      rw [hf0] at hq
      simp [hlt, hix]
      refine bndG_t _ _ hdig ?_
      by_cases h46 : ((b.toNat : Int) == 46) = true
      · rw [if_pos h46] at hq
        simp [hlt, hix, h46, show i + 1 < 2 ^ 63 by omega]
        exact ⟨r.length + 1, part_loop hs q hk r (i + 1) 0 x _ _ _ _ _ _ _ _ _ _ _ _ _ _ _ _ _ _ _ _ _ _ _ _ _ _ _ _ _ _ _ _ _ _ _ _ _ _ _ _ _ _ _ _ _ _ _ _ _ _ _ _ _ _ _ _ _ _ _ _ _ _ _ _ _ _ _ _ _ _ _ _ _ _ _ _ _ _ _ _ _ _ _ _ _ _ hdr hlt (by omega) h0 h1 (by rw [hq]; simp)⟩
      · have h46' : ((b.toNat : Int) == 46) = false := by simpa using h46
        rw [if_neg h46] at hq
        rw [hq] at hk
        simp [hlt, hix, h46']
        exact fin_walk (p := 0) h0 h1 hk _ _ _ _ _ _ _ _ _ _ _ _ _ _ _ _ _ _ _ _ _ _ _ _ _ _ _ _ _ _ _ _ _ _ _ _ _ _ _ _ _ _ _ _ _ _ _ _ _ _ _ _ _ _ _ _ _ _ _ _ _ _ _ _ _ _ _ _ _ _ _ _ _ _ _ _ _ _ _ _ _ _ _ _ _ _
def parR (s : List UInt8) : Int × Int := if hasPre s [45] = true then wholeR true s 1 0 0 (s.drop 1) else wholeR false s 0 0 0 s
theorem r_fparse (H : AHeap) {s : List UInt8} (hs : s.length < 2 ^ 60) : ACalls Tryz.prog 151 [str s] H (parV (parR s)) H := by
  refine acallsT_pure MixT Tryz.func151 (by decide) rfl ?_
  rw [d151]
  cases s with
  | nil =>
    simp
    rw [S151x0q]
    exact ⟨0 + 1, whole_loop (s := []) (less := false) (k := fun u H2 => u = parV (parR []) ∧ ∃ X, H2 = H ++ X) hs (parR []) ⟨rfl, [], by simp⟩ [] 0 0 0 _ _ _ _ _ _ _ _ _ _ _ _ _ _ _ _ _ _ _ _ _ _ _ _ _ _ _ _ _ _ _ _ _ _ _ _ _ _ _ _ _ _ _ _ _ _ _ _ _ _ _ _ _ _ _ _ _ _ _ _ _ _ _ _ _ _ _ _ _ _ _ _ _ _ _ _ _ _ _ _ _ _ _ _ _ _ _ rfl (by omega) (by omega) (by omega) (by decide) rfl⟩
  | cons b r =>
    have h0 := aIndex_at (P := Tryz.prog) (T := 9) (k := .i64) (l := b :: r) (i := 0) (b := b) (by simp) rfl
    simp at h0
    have hp : hasPre (b :: r) [45] = ((b.toNat : Int) == 45) := by
      have : ((b.toNat : Int) == 45) = decide (b = 45) := byte_all (p := fun b => ((b.toNat : Int) == 45) = decide (b = 45)) (by decide +kernel) b
      rw [this]
      simp [hasPre]
    have hpos : (0 : Int) < (r.length : Int) + 1 := by omega
    by_cases h45 : ((b.toNat : Int) == 45) = true
    · have hpr : parR (b :: r) = wholeR true (b :: r) 1 0 0 r := by unfold parR; rw [hp, if_pos h45]; rfl
      simp [h0, h45, hpos]
      rw [S151x0q]
      exact ⟨r.length + 1, whole_loop (s := b :: r) (less := true) (k := fun u H2 => u = parV (parR (b :: r)) ∧ ∃ X, H2 = H ++ X) hs (parR (b :: r)) ⟨rfl, [], by simp⟩ r 1 0 0 _ _ _ _ _ _ _ _ _ _ _ _ _ _ _ _ _ _ _ _ _ _ _ _ _ _ _ _ _ _ _ _ _ _ _ _ _ _ _ _ _ _ _ _ _ _ _ _ _ _ _ _ _ _ _ _ _ _ _ _ _ _ _ _ _ _ _ _ _ _ _ _ _ _ _ _ _ _ _ _ _ _ _ _ _ _ _ rfl (by simp) (by omega) (by omega) (by decide) hpr⟩
    · have h45' : ((b.toNat : Int) == 45) = false := by simpa using h45
      have hpr : parR (b :: r) = wholeR false (b :: r) 0 0 0 (b :: r) := by unfold parR; rw [hp, if_neg h45]
      simp [h0, h45', hpos]
      rw [S151x0q]
      exact ⟨(b :: r).length + 1, whole_loop (s := b :: r) (less := false) (k := fun u H2 => u = parV (parR (b :: r)) ∧ ∃ X, H2 = H ++ X) hs (parR (b :: r)) ⟨rfl, [], by simp⟩ (b :: r) 0 0 0 _ _ _ _ _ _ _ _ _ _ _ _ _ _ _ _ _ _ _ _ _ _ _ _ _ _ _ _ _ _ _ _ _ _ _ _ _ _ _ _ _ _ _ _ _ _ _ _ _ _ _ _ _ _ _ _ _ _ _ _ _ _ _ _ _ _ _ _ _ _ _ _ _ _ _ _ _ _ _ _ _ _ _ _ _ _ _ rfl (by simp) (by omega) (by omega) (by decide) hpr⟩
theorem scan_digs : ∀ (D v : List UInt8) (i : Nat) (pt : Int), D.all isDig = true → scanF (D ++ v) i pt = scanF v (i + D.length) pt := by
  intro D
  induction D with
  | nil => intro v i pt _; simp
  | cons d D ih =>
    intro v i pt h
    rw [List.all_cons, Bool.and_eq_true] at h
    rw [List.cons_append, scanF, if_pos h.1, ih v (i + 1) pt h.2]
    simp only [List.length_cons]
    congr 1
    omega
theorem split_run (p : UInt8 → Bool) (r : List UInt8) : (r.take (runF p r)).all p = true ∧ (∀ c v, r.drop (runF p r) = c :: v → p c = false) := by
  induction r with
  | nil => exact ⟨rfl, fun c v h => by cases h⟩
  | cons b r ih =>
    rw [runF_cons]
    cases hb : p b with
    | true => exact ⟨by simp only [if_true, List.take_succ_cons, List.all_cons, hb, Bool.true_and]; exact ih.1, fun c v h => ih.2 c v (by simpa using h)⟩
    | false => exact ⟨by simp, fun c v h => by simp at h; rw [← h.1]; exact hb⟩
theorem par_eq (s : List UInt8) : parR s = parF s := by
  have key : ∀ (less : Bool) (i : Nat) (u : List UInt8), s.drop i = u → i ≤ s.length → wholeR less s i 0 0 u = (if (cutF u).2.2 = true then (if less = true then -(digF 0 ((cutF u).1 ++ (cutF u).2.1 ++ List.replicate (3 - (cutF u).2.1.length) 48)) else digF 0 ((cutF u).1 ++ (cutF u).2.1 ++ List.replicate (3 - (cutF u).2.1.length) 48), 0) else (0, 10)) := by
    intro less i u hu hi
    have hul : u.length = s.length - i := by rw [← hu, List.length_drop]
    obtain ⟨s1, s2⟩ := split_run isDig u
    have hmle := runF_le isDig u
    unfold wholeR
    dsimp only
    generalize hm : runF isDig u = m at *
    have hsp : u = u.take m ++ u.drop m := (List.take_append_drop m u).symm
    have htl : (u.take m).length = m := by simp; omega
    cases hr : u.drop m with
    | nil =>
      dsimp only
      have hum : u.length = m := by
        have := congrArg List.length hr
        simp at this
        omega
      have hut : u.take m = u := List.take_of_length_le (by omega)
      rw [hut] at s1 ⊢
      have hsc : scanF u 0 (-1) = (-1, true) := by
        have := scan_digs u [] 0 (-1) s1
        rw [List.append_nil] at this
        rw [this]; rfl
      have hcut : cutF u = (u, [], !u.isEmpty) := by unfold cutF cutT; rw [hsc]; simp
      rw [hcut]
      simp only
      unfold finR
      by_cases hm0 : m = 0
      · have : u = [] := List.eq_nil_of_length_eq_zero (by omega)
        subst this
        rw [if_pos (.inl (by omega))]
        rfl
      · have hne : u.isEmpty = false := by cases u with | nil => simp at hum; omega | cons => rfl
        rw [if_neg (by simp; omega), hne]
        simp only [Bool.not_false, if_true, List.append_nil, List.length_nil]
        rw [digF_fold _ 0 (Int.le_refl _) (by decide) (by rw [List.all_append, s1]; decide)]
        unfold foldM
        rw [List.foldl_append]
    | cons c v =>
      dsimp only
      have hcd := s2 c v hr
      have hum : u.length = m + 1 + v.length := by
        have := congrArg List.length hr
        simp at this
        omega
      have hsc : scanF u 0 (-1) = scanF (c :: v) m (-1) := by
        conv => lhs; rw [hsp, hr]
        rw [scan_digs _ _ _ _ s1, htl, Nat.zero_add]
      rw [scanF, if_neg (by simp [hcd])] at hsc
      by_cases h46 : ((c.toNat : Int) == 46) = true
      · rw [if_pos h46]
        rw [if_pos (by simp [h46])] at hsc
        obtain ⟨t1, t2⟩ := split_run isDig v
        have hvle := runF_le isDig v
        generalize hp : runF isDig v = p at *
        have hvsp : v = v.take p ++ v.drop p := (List.take_append_drop p v).symm
        have hvtl : (v.take p).length = p := by simp; omega
        have hsc2 : scanF v (m + 1) (m : Int) = ((m : Int), decide (p = v.length)) := by
          have e1 : scanF v (m + 1) (m : Int) = scanF (v.drop p) (m + 1 + p) (m : Int) := by
            conv => lhs; rw [hvsp]
            rw [scan_digs _ _ _ _ t1, hvtl]
          rw [e1]
          cases hv : v.drop p with
          | nil =>
            have : p = v.length := by
              have := congrArg List.length hv
              simp at this
              omega
            rw [scanF]
            simp [this]
          | cons c2 v2 =>
            have : ¬ p = v.length := by
              have := congrArg List.length hv
              simp at this
              omega
            rw [scanF, if_neg (by simp [t2 c2 v2 hv]), if_neg (by simp)]
            simp [this]
        rw [hsc2] at hsc
        have hdv : u.drop (m + 1) = v := by rw [← List.drop_drop, hr]; rfl
        have hcut : cutF u = (u.take m, v, decide (p = v.length) && !u.isEmpty && !decide (u.take m = []) && !decide (v = []) && decide (v.length ≤ 3)) := by
          unfold cutF cutT
          rw [hsc]
          simp only
          rw [if_neg (by omega)]
          simp only [Int.toNat_natCast, hdv]
        have hne : u.isEmpty = false := by cases u with | nil => simp at hum; omega | cons => rfl
        rw [hcut, hne]
        simp only [Bool.not_false, Bool.and_true]
        have htm : (u.take m = []) ↔ m = 0 := by
          rw [← List.length_eq_zero_iff, htl]
        have hvm : (v = []) ↔ v.length = 0 := List.length_eq_zero_iff.symm
        by_cases hall : p = v.length ∧ m ≠ 0 ∧ v.length ≠ 0 ∧ v.length ≤ 3
        · obtain ⟨a1, a2, a3, a4⟩ := hall
          have hvt : v.take p = v := List.take_of_length_le (by omega)
          rw [if_neg (by omega), if_pos (by simp [a1, htm, hvm, a2, a3, a4])]
          unfold finR
          rw [if_neg (by simp; omega), hvt]
          rw [hvt] at t1
          rw [digF_fold _ 0 (Int.le_refl _) (by decide) (by
            rw [List.all_append, List.all_append, s1, t1]
            simp only [Bool.true_and, List.all_eq_true]
            intro x hx
            rw [(List.mem_replicate.1 hx).2]
            decide)]
          unfold foldM
          rw [List.foldl_append, List.foldl_append, a1]
        · have hbad : (decide (p = v.length) && !decide (u.take m = []) && !decide (v = []) && decide (v.length ≤ 3)) = false := by
            rw [← Bool.not_eq_true]
            intro h
            simp only [Bool.and_eq_true, decide_eq_true_eq, Bool.not_eq_true', decide_eq_false_iff_not, htm, hvm] at h
            exact hall ⟨h.1.1.1, h.1.1.2, h.1.2, h.2⟩
          rw [hbad, if_neg (show ¬ (false = true) by decide)]
          by_cases hp0 : p = 0
          · rw [if_pos hp0]
          · rw [if_neg hp0]
            unfold finR
            rw [if_pos]
            by_cases q1 : m = 0
            · exact .inl (by omega)
            · by_cases q2 : p > 3
              · exact .inr (.inl q2)
              · refine .inr (.inr ?_)
                rw [decide_eq_false_iff_not]
                intro q3
                exact hall ⟨by omega, q1, by omega, by omega⟩
      · rw [if_neg h46]
        rw [if_neg (by simp [h46])] at hsc
        have hcut : (cutF u).2.2 = false := by unfold cutF cutT; rw [hsc]; simp
        rw [hcut]
        unfold finR
        rw [if_pos (.inr (.inr (by rw [decide_eq_false_iff_not]; omega)))]
        rfl
  unfold parR parF
  by_cases h : hasPre s [45] = true
  · have h1 : 1 ≤ s.length := by
      unfold hasPre at h
      simp only [Bool.and_eq_true, decide_eq_true_eq] at h
      exact h.1
    have hc : cutPre s [45] = s.drop 1 := by unfold cutPre; rw [if_pos h]; rfl
    rw [if_pos h, key true 1 (s.drop 1) rfl h1]
    simp only [hc, h, if_true]
  · have hc : cutPre s [45] = s := by unfold cutPre; rw [if_neg h]
    rw [if_neg h, key false 0 s rfl (Nat.zero_le _)]
    simp only [hc, h, if_false, Bool.false_eq_true]
end Go.Vi
namespace Go.Vi
open Go Go.Proofs

theorem bndG_f {H : AHeap} {e q : QH} (v : Value) (H' : AHeap) (h : e.f v H') (k : q.f v H') : @bndG (.bool false) false H e q := ⟨v, H', by simpa [gifp] using h, k⟩
theorem matR_ok (m : Mat) (h0 : 0 ≤ m.op) : m.ok = (decide (m.op ≤ 2) && mayName m.name && decide (m.value.length ≤ 32) && m.value.all isSign) := by
  have e : (m.op == 0 || m.op == 1 || m.op == 2) = decide (m.op ≤ 2) := by
    rw [Bool.eq_iff_iff]
    simp only [Bool.or_eq_true, beq_iff_eq, decide_eq_true_eq]
    omega
  unfold Mat.ok mayM mayValue
  rw [e]
  cases m.value with
  | nil => simp
  | cons b r => simp [Bool.and_assoc]
theorem rMay_loop {H : AHeap} {v : Value} {ms : List Mat} {k : Value → AHeap → Prop} {w : Bool} (hm : MatsAt H v ms) (hl : ms.length < 2 ^ 62) (h0 : ∀ m ∈ ms, 0 ≤ m.op ∧ m.name.length < 2 ^ 60 ∧ m.value.length < 2 ^ 60) (hk : k (.bool w) H) :
    ∀ (r : List Mat) (i : Nat) (s1 s2 s4 s5 s6 s7 s8 s9 s10 s11 s12 s13 s14 s15 s16 s17 s18 s19 s20 s21 s22 s23 s24 s25 s26 s27 s28 s29 s30 s31 s32 s33 s34 s35 s36 s37 s38 s39 s40 s41 s42 s43 s44 s45 : Value), ms.drop i = r → i ≤ ms.length → w = (r.all Mat.ok && decide (ms.length ≤ 6)) → L149x0 (r.length + 1) k [v, s1, s2, i64 i, s4, s5, s6, s7, s8, s9, s10, s11, s12, s13, s14, s15, s16, s17, s18, s19, s20, s21, s22, s23, s24, s25, s26, s27, s28, s29, s30, s31, s32, s33, s34, s35, s36, s37, s38, s39, s40, s41, s42, s43, s44, s45] H := by
  have hlen := Arr.len (P := Tryz.prog) (T := 35) (e := 75) hm (by simp)
  simp at hlen
  intro r
  induction r with
  | nil =>
    intro i s1 s2 s4 s5 s6 s7 s8 s9 s10 s11 s12 s13 s14 s15 s16 s17 s18 s19 s20 s21 s22 s23 s24 s25 s26 s27 s28 s29 s30 s31 s32 s33 s34 s35 s36 s37 s38 s39 s40 s41 s42 s43 s44 s45 hd hi hw
    have hle : ms.length ≤ i := by simpa using hd
    have : ¬ i < ms.length := by omega
    rw [List.length_nil, L149x0q]
    rw [List.all_nil, Bool.true_and] at hw
    have e : decide ((ms.length : Int) ≤ 6) = w := by rw [hw, decide_eq_decide]; omega
    simp [hlen, this]
    rw [e]
    exact hk
  | cons m r ih =>
    intro i s1 s2 s4 s5 s6 s7 s8 s9 s10 s11 s12 s13 s14 s15 s16 s17 s18 s19 s20 s21 s22 s23 s24 s25 s26 s27 s28 s29 s30 s31 s32 s33 s34 s35 s36 s37 s38 s39 s40 s41 s42 s43 s44 s45 hd hi hw
    have hb : ms[i]? = some m := by rw [← List.head?_drop, hd]; rfl
    have hlt : i < ms.length := (List.getElem?_eq_some_iff.1 hb).1
    have hdr : ms.drop (i + 1) = r := by rw [← List.drop_drop, hd]; rfl
    obtain ⟨g1, g2, g3⟩ := h0 m (List.mem_of_getElem? hb)
    have hcell : (ms.map Mat.cells)[i]? = some m.cells := by simp [hb]
    obtain ⟨p1, q1, a1, a2, a3⟩ := Arr.field (P := Tryz.prog) (T := 35) (te := 75) (f := 1) (d := 1) (ft := 5) hm (by simp) (by simp) (by simp) (by simp) (by simp) hcell rfl
    obtain ⟨p2, q2, b1, b2, b3⟩ := Arr.field (P := Tryz.prog) (T := 35) (te := 75) (f := 0) (d := 0) (ft := 9) hm (by simp) (by simp) (by simp) (by simp) (by simp) hcell rfl
    obtain ⟨p3, q3, c1, c2, c3⟩ := Arr.field (P := Tryz.prog) (T := 35) (te := 75) (f := 2) (d := 2) (ft := 9) hm (by simp) (by simp) (by simp) (by simp) (by simp) hcell rfl
    rw [a1] at b1 c1
    cases b1
    cases c1
    have hok := matR_ok m g1
    rw [List.all_cons] at hw
    rw [List.length_cons, L149x0q]
    have no : m.ok = false → k (.bool false) H := by
      intro h
      rw [h, Bool.false_and, Bool.false_and] at hw
      rw [← hw]
      exact hk
    by_cases t1 : (2 : Int) < m.op
    · simp [hlen, hlt, a1, a2, a3, t1]
      exact no (by rw [hok]; simp; intro h; omega)
    · simp [hlen, hlt, a1, a2, a3, t1, b2, b3]
      refine bndG_f _ _ (r_mayName H (by omega)) ?_
      cases t2 : mayName m.name with
      | false =>
        simp
        exact no (by rw [hok, t2]; simp)
      | true =>
        by_cases t3 : (32 : Int) < m.value.length
        · simp [a1, c2, c3, t3]
          exact no (by rw [hok]; simp; intros; omega)
        · simp [a1, c2, c3, t3]
          refine bndG_f _ _ (r_plain H (by omega)) ?_
          cases t4 : m.value.all isSign with
          | false =>
            simp
            exact no (by rw [hok, t4]; simp)
          | true =>
            have hy : m.ok = true := by rw [hok, t2, t4]; simp; omega
            rw [hy, Bool.true_and] at hw
            simp [show i + 1 < 2 ^ 63 by omega]
            exact ih (i + 1) _ _ _ _ _ _ _ _ _ _ _ _ _ _ _ _ _ _ _ _ _ _ _ _ _ _ _ _ _ _ _ _ _ _ _ _ _ _ _ _ _ _ _ _ hdr hlt hw
theorem r_mats {H : AHeap} {v : Value} {ms : List Mat} (hm : MatsAt H v ms) (hl : ms.length < 2 ^ 62) (h0 : ∀ m ∈ ms, 0 ≤ m.op ∧ m.name.length < 2 ^ 60 ∧ m.value.length < 2 ^ 60) : ACalls Tryz.prog 149 [v] H (.bool (mayMats ms)) H := by
  refine acalls_pure MixT Tryz.func149 (by decide) rfl ?_
  rw [d149]
  exact ⟨ms.length + 1, rMay_loop (k := fun u H2 => u = .bool (mayMats ms) ∧ ∃ X, H2 = H ++ X) hm hl h0 ⟨rfl, [], by simp⟩ ms 0 _ _ _ _ _ _ _ _ _ _ _ _ _ _ _ _ _ _ _ _ _ _ _ _ _ _ _ _ _ _ _ _ _ _ _ _ _ _ _ _ _ _ _ _ rfl (by omega) rfl⟩
def nodB (g w c x : Int) (sv : Value) : List Value := [.int .u8 0, .int .u8 g, sv, i64 w, .int .u8 c, i64 x, i64 0, i64 0]
structure CM (K M : AHeap) (g w c x : Int) (sv : Value) (ms : List Mat) : Prop where
  pre : Pre K M
  blk : M[K.length]? = some (.cells (nodB g w c x sv) 37)
  sel : Gro M (K.length + 1) 3 75 sv (ms.map Mat.cells)
def CmpP (K : AHeap) (r : Option (Nod × Nat)) (u : Value) (K' : AHeap) : Prop := ∃ v, ∃ next : Int, ∃ out : List Nod, u = .tuple #[v, i64 next] ∧ Pre K K' ∧ NL K' K.length v out ∧ (match r with | none => out = [] ∧ next = -1 | some p => out = [p.1] ∧ next = p.2)
theorem NL.nil {K lo} : NL K lo (.slice none 0 0) [] := ⟨[], .nil, rfl, fun i n h => by simp at h⟩
theorem CmpP.none {K K' : AHeap} (h : Pre K K') : CmpP K none (.tuple #[.slice none 0 0, i64 (-1)]) K' := ⟨_, _, [], rfl, h, .nil, rfl, rfl⟩
theorem cmps_star : ∀ i, i < 6 → cmps.getD i [] ≠ [42] := by decide
theorem aggs_star : ∀ i, i < 6 → aggs.getD i [] ≠ [42] := by decide
def valE (ts : List Tok) (g : UInt8) (ms : List Mat) (w : Int) (c : UInt8) (b : Nat) : Option (Nod × Nat) := (valO ts b).bind fun v => some (⟨0, g, ms, w, c, v.1, 0, 0⟩, v.2)
def cmpE (ts : List Tok) (g : UInt8) (ms : List Mat) (c : Nat) : Option (Nod × Nat) := (signO ts [91] c).bind fun b3 => (winO ts b3).bind fun w =>
  (signO ts [93] w.2).bind fun b4 => (signO ts [41] b4).bind fun b5 => (oneO ts 4 cmps b5).bind fun b6 => valE ts g ms w.1 (UInt8.ofNat (idxS cmps (txtK ts 4 b5))) b6
theorem cmpO_split (ts : List Tok) (a : Nat) : cmpO ts a = (oneO ts 1 aggs a).bind fun b1 => (signO ts [40] b1).bind fun b2 => (selO ts b2).bind fun p => cmpE ts (UInt8.ofNat (idxS aggs (txtK ts 1 a))) p.1 p.2 := rfl
section
variable {K : AHeap} {v : Value} {T : List RTk} {k : Value → AHeap → Prop} {R : Option (Nod × Nat)}
theorem CM.hc {M g w c x sv ms} (h : CM K M g w c x sv ms) : hcells M K.length = some (nodB g w c x sv) := by simp [hcells, h.blk]
theorem CM.hl {M g w c x sv ms} (h : CM K M g w c x sv ms) : hlen M K.length = some 8 := by simp [hlen, h.blk, nodB]
theorem CM.put {M g w c x sv ms} (h : CM K M g w c x sv ms) (g' w' c' x' : Int) : CM K (M.set K.length (.cells (nodB g' w' c' x' sv) 37)) g' w' c' x' sv ms := by
  have hlt := (List.getElem?_eq_some_iff.1 h.blk).1
  exact ⟨h.pre.set (Nat.le_refl _), by rw [List.getElem?_set_self hlt], h.sel.set (by omega)⟩
theorem cmp_end {M : AHeap} {g c : UInt8} {w : Int} {sv : Value} {ms : List Mat} {b : Nat} {less : List UInt8} (hT : RTA K v T) (hM : CM K M g.toNat w c.toNat 0 sv ms) (hml : ms.length ≤ 2 ^ 41) (htx : ∀ p ∈ T, p.1.text.length < 2 ^ 50)
    (hb : b < 2 ^ 50) (hless : less.length ≤ 1) (hR : R = match tokK (T.map Prod.fst) 2 b with | none => none | some s => if (parF (less ++ s)).2 = 0 then some (⟨0, g, ms, w, c, (parF (less ++ s)).1, 0, 0⟩, b + 1) else none)
    (hk : ∀ u K', CmpP K R u K' → k u K') (s2 s3 s4 s5 s7 s8 s9 s11 s12 s13 s14 s15 s16 s17 s18 s19 s20 s21 s22 s23 s24 s25 s26 s27 s28 s29 s30 s31 s32 s33 s34 s35 s36 s37 s38 s39 s40 s41 s42 s43 s44 s45 s46 s47 s48 s49 s50 s51 s52 s53 s54 s55 s56 s57 s58 s59 s60 s61 s62 s63 s64 s65 s66 s67 s68 s69 s70 s71 s72 s73 s74 s75 s76 s77 s78 s79 s80 s81 s82 s83 s84 s85 s86 s87 s88 s89 s90 s91 s92 s93 s94 s95 s96 s97 s98 s99 s100 s101 s102 s103 s104 s105 s106 s107 s108 s109 s110 s111 s112 s113 s114 s115 s116 s117 s118 s119 s120 s121 s122 s123 s124 s125 s126 s127 s128 s129 s130 s131 s132 s133 s134 s135 s136 s137 s138 s139 s140 s141 s142 s143 s144 s145 s146 s147 s148 s149 s150 s151 s152 s153 s154 s155 s156 s157 s158 s159 s160 s161 s162 s163 s164 s165 s166 s167 : Value) : S123x1 k [v, i64 b, s2, s3, s4, s5, .pointer (some ⟨K.length, 0, some 8⟩), s7, s8, s9, str less, s11, s12, s13, s14, s15, s16, s17, s18, s19, s20, s21, s22, s23, s24, s25, s26, s27, s28, s29, s30, s31, s32, s33, s34, s35, s36, s37, s38, s39, s40, s41, s42, s43, s44, s45, s46, s47, s48, s49, s50, s51, s52, s53, s54, s55, s56, s57, s58, s59, s60, s61, s62, s63, s64, s65, s66, s67, s68, s69, s70, s71, s72, s73, s74, s75, s76, s77, s78, s79, s80, s81, s82, s83, s84, s85, s86, s87, s88, s89, s90, s91, s92, s93, s94, s95, s96, s97, s98, s99, s100, s101, s102, s103, s104, s105, s106, s107, s108, s109, s110, s111, s112, s113, s114, s115, s116, s117, s118, s119, s120, s121, s122, s123, s124, s125, s126, s127, s128, s129, s130, s131, s132, s133, s134, s135, s136, s137, s138, s139, s140, s141, s142, s143, s144, s145, s146, s147, s148, s149, s150, s151, s152, s153, s154, s155, s156, s157, s158, s159, s160, s161, s162, s163, s164, s165, s166, s167] M := by
  rw [S123x1q]
  have i1 := r_is (hT.pre hM.pre) b 2 [42]
  rw [isR_star] at i1
  refine bndC_of i1 ?_
  cases ht : tokK (T.map Prod.fst) 2 b with
  | none =>
    rw [ht] at hR
    subst hR
    simp
    exact hk _ _ (.none hM.pre)
  | some s =>
    rw [ht] at hR
    simp only at hR
    obtain ⟨p, p1, p2, p3⟩ := tok_at ht
    obtain ⟨e1, e2, e3, f1, f2, f3, f4, f5⟩ := (hT.pre hM.pre).at p1
    rw [p3] at f5
    have hsl : s.length < 2 ^ 50 := by rw [← p3]; exact htx p (List.mem_of_getElem? p1)
    have hcat := fun x y => aBin_str (P := Tryz.prog) (H := M) (T := 9) (x := x) (y := y) (a := less) (b := s) (by omega)
    simp [f1, f4, f5]
    refine bnd_of (hcat _ _) ?_
    have hpr := r_fparse M (s := less ++ s) (by simp; omega)
    rw [par_eq] at hpr
    refine bndC_of hpr ?_
    by_cases h0 : (parF (less ++ s)).2 = 0
    · rw [if_pos h0] at hR
      have hM2 := hM.put g.toNat w c.toNat (parF (less ++ s)).1
      have w1 : IntKind.i64.wrap ((b : Int) + 1) = ((b + 1 : Nat) : Int) := by rw [wrap_i64 (by omega) (by omega)]; omega
      have hbk := hM.blk
      have hll := hM.hl
      have hcc := hM.hc
      have ho := hM.sel.one
      have hc2 := hM2.hc
      have hnc : Nod.cells ⟨0, g, ms, w, c, (parF (less ++ s)).1, 0, 0⟩ sv = nodB g.toNat w c.toNat (parF (less ++ s)).1 sv := rfl
      generalize hM2e : M.set K.length (.cells (nodB g.toNat w c.toNat (parF (less ++ s)).1 sv) 37) = M2 at *
      simp only [nodB] at hc2 hM2e
      simp [parV, h0, hll, hbk, nodB, hM2e, hc2]
      have hlit := sliceLitA (c := nodB g.toNat w c.toNat (parF (less ++ s)).1 sv) (tbs27 M2 1 _) (by rfl) (by simp [nodB, ho]) (by simp)
      refine bndL_lit hlit ?_
      simp [w1]
      refine hk _ _ ⟨_, _, [⟨0, g, ms, w, c, (parF (less ++ s)).1, 0, 0⟩], rfl, hM2.pre.more _, ⟨[nodB g.toNat w c.toNat (parF (less ++ s)).1 sv], ?_, rfl, ?_⟩, by rw [hR]; exact ⟨rfl, by omega⟩⟩
      · have := Gro.mk (K := M2 ++ [.cells (nodB g.toNat w c.toNat (parF (less ++ s)).1 sv) 37]) (lo := K.length) (z := 8) (T := 37) M2.length [nodB g.toNat w c.toNat (parF (less ++ s)).1 sv] (by obtain ⟨X, rfl⟩ := hM2.pre; simp) (by simp) (by simp) (by simp [nodB])
        simp at this
        exact this
      · intro i n hi
        cases i with
        | zero =>
          simp at hi
          subst hi
          exact ⟨sv, by rw [hnc]; rfl, (hM2.sel.weak (by omega)).app, hml⟩
        | succ i => simp at hi
    · rw [if_neg h0] at hR
      subst hR
      have h0' : ((parF (less ++ s)).2 != 0) = true := by simpa using h0
      simp [parV, h0']
      exact hk _ _ (.none hM.pre)
theorem one_some {ts : List Tok} {kk : Int} {l : List (List UInt8)} {a j : Nat} (hn : l.Nodup) (hj : j < l.length) (h : tokK ts kk a = some (l.getD j [])) : oneO ts kk l a = some (a + 1) ∧ idxS l (txtK ts kk a) = j := by
  have hg : l.getD j [] = l[j] := by rw [List.getD_eq_getElem?_getD, List.getElem?_eq_getElem hj]; rfl
  have hm : l.getD j [] ∈ l := by rw [hg]; exact List.getElem_mem hj
  unfold oneO txtK idxS
  rw [h]
  simp only [Option.bind_some, Option.getD_some]
  rw [if_pos hm, if_pos hm, hg]
  exact ⟨rfl, List.Nodup.idxOf_getElem hn j hj⟩
theorem one_none {ts : List Tok} {kk : Int} {l : List (List UInt8)} {a : Nat} (h : ∀ i, i < l.length → tokK ts kk a ≠ some (l.getD i [])) : oneO ts kk l a = none := by
  unfold oneO
  cases ht : tokK ts kk a with
  | none => rfl
  | some s =>
    simp only [Option.bind_some]
    rw [if_neg]
    intro hm
    obtain ⟨i, hi⟩ := List.getElem?_of_mem hm
    have hlt := (List.getElem?_eq_some_iff.1 hi).1
    exact h i hlt (by rw [ht, List.getD_eq_getElem?_getD, hi]; rfl)
theorem cmps_nd : cmps.Nodup := by decide
theorem aggs_nd : aggs.Nodup := by decide
set_option maxHeartbeats 1000000 in
theorem cmp_find {M : AHeap} {g : UInt8} {w : Int} {sv : Value} {ms : List Mat} {b : Nat} (hT : RTA K v T) (hM : CM K M g.toNat w 0 0 sv ms) (hml : ms.length ≤ 2 ^ 41) (htx : ∀ p ∈ T, p.1.text.length < 2 ^ 50) (hb : b < 2 ^ 49)
    (hR : R = if w = 0 then none else (oneO (T.map Prod.fst) 4 cmps b).bind fun b6 => valE (T.map Prod.fst) g ms w (UInt8.ofNat (idxS cmps (txtK (T.map Prod.fst) 4 b))) b6) (hk : ∀ u K', CmpP K R u K' → k u K') :
    ∀ (d j : Nat) (s2 s3 s4 s5 s8 s9 s10 s11 s12 s13 s14 s15 s16 s17 s18 s19 s20 s21 s22 s23 s24 s25 s26 s27 s28 s29 s30 s31 s32 s33 s34 s35 s36 s37 s38 s39 s40 s41 s42 s43 s44 s45 s46 s47 s48 s49 s50 s51 s52 s53 s54 s55 s56 s57 s58 s59 s60 s61 s62 s63 s64 s65 s66 s67 s68 s69 s70 s71 s72 s73 s74 s75 s76 s77 s78 s79 s80 s81 s82 s83 s84 s85 s86 s87 s88 s89 s90 s91 s92 s93 s94 s95 s96 s97 s98 s99 s100 s101 s102 s103 s104 s105 s106 s107 s108 s109 s110 s111 s112 s113 s114 s115 s116 s117 s118 s119 s120 s121 s122 s123 s124 s125 s126 s127 s128 s129 s130 s131 s132 s133 s134 s135 s136 s137 s138 s139 s140 s141 s142 s143 s144 s145 s146 s147 s148 s149 s150 s151 s152 s153 s154 s155 s156 s157 s158 s159 s160 s161 s162 s163 s164 s165 s166 s167 : Value), d + j = 6 → (∀ i, i < j → tokK (T.map Prod.fst) 4 b ≠ some (cmps.getD i [])) → L123x2 (d + 1) k [v, i64 b, s2, s3, s4, s5, .pointer (some ⟨K.length, 0, some 8⟩), i64 j, s8, s9, s10, s11, s12, s13, s14, s15, s16, s17, s18, s19, s20, s21, s22, s23, s24, s25, s26, s27, s28, s29, s30, s31, s32, s33, s34, s35, s36, s37, s38, s39, s40, s41, s42, s43, s44, s45, s46, s47, s48, s49, s50, s51, s52, s53, s54, s55, s56, s57, s58, s59, s60, s61, s62, s63, s64, s65, s66, s67, s68, s69, s70, s71, s72, s73, s74, s75, s76, s77, s78, s79, s80, s81, s82, s83, s84, s85, s86, s87, s88, s89, s90, s91, s92, s93, s94, s95, s96, s97, s98, s99, s100, s101, s102, s103, s104, s105, s106, s107, s108, s109, s110, s111, s112, s113, s114, s115, s116, s117, s118, s119, s120, s121, s122, s123, s124, s125, s126, s127, s128, s129, s130, s131, s132, s133, s134, s135, s136, s137, s138, s139, s140, s141, s142, s143, s144, s145, s146, s147, s148, s149, s150, s151, s152, s153, s154, s155, s156, s157, s158, s159, s160, s161, s162, s163, s164, s165, s166, s167] M := by
  have hTM := hT.pre hM.pre
  have hll := hM.hl
  have hcc := hM.hc
  intro d
  induction d with
  | zero =>
    intro j s2 s3 s4 s5 s8 s9 s10 s11 s12 s13 s14 s15 s16 s17 s18 s19 s20 s21 s22 s23 s24 s25 s26 s27 s28 s29 s30 s31 s32 s33 s34 s35 s36 s37 s38 s39 s40 s41 s42 s43 s44 s45 s46 s47 s48 s49 s50 s51 s52 s53 s54 s55 s56 s57 s58 s59 s60 s61 s62 s63 s64 s65 s66 s67 s68 s69 s70 s71 s72 s73 s74 s75 s76 s77 s78 s79 s80 s81 s82 s83 s84 s85 s86 s87 s88 s89 s90 s91 s92 s93 s94 s95 s96 s97 s98 s99 s100 s101 s102 s103 s104 s105 s106 s107 s108 s109 s110 s111 s112 s113 s114 s115 s116 s117 s118 s119 s120 s121 s122 s123 s124 s125 s126 s127 s128 s129 s130 s131 s132 s133 s134 s135 s136 s137 s138 s139 s140 s141 s142 s143 s144 s145 s146 s147 s148 s149 s150 s151 s152 s153 s154 s155 s156 s157 s158 s159 s160 s161 s162 s163 s164 s165 s166 s167 hd hn
    obtain rfl : j = 6 := by omega
    have : R = none := by
      rw [hR, one_none (l := cmps) hn]
      split <;> rfl
    subst this
    rw [L123x2q]
    simp
    exact hk _ _ (.none hM.pre)
  | succ d ih =>
    intro j s2 s3 s4 s5 s8 s9 s10 s11 s12 s13 s14 s15 s16 s17 s18 s19 s20 s21 s22 s23 s24 s25 s26 s27 s28 s29 s30 s31 s32 s33 s34 s35 s36 s37 s38 s39 s40 s41 s42 s43 s44 s45 s46 s47 s48 s49 s50 s51 s52 s53 s54 s55 s56 s57 s58 s59 s60 s61 s62 s63 s64 s65 s66 s67 s68 s69 s70 s71 s72 s73 s74 s75 s76 s77 s78 s79 s80 s81 s82 s83 s84 s85 s86 s87 s88 s89 s90 s91 s92 s93 s94 s95 s96 s97 s98 s99 s100 s101 s102 s103 s104 s105 s106 s107 s108 s109 s110 s111 s112 s113 s114 s115 s116 s117 s118 s119 s120 s121 s122 s123 s124 s125 s126 s127 s128 s129 s130 s131 s132 s133 s134 s135 s136 s137 s138 s139 s140 s141 s142 s143 s144 s145 s146 s147 s148 s149 s150 s151 s152 s153 s154 s155 s156 s157 s158 s159 s160 s161 s162 s163 s164 s165 s166 s167 hd hn
    have hj : j < 6 := by omega
    have hjI : (j : Int) < 6 := by omega
    have hj6 : ((j : Int) == 6) = false := by rw [beq_eq_false_iff_ne]; omega
    have wj : IntKind.i64.wrap ((j : Int) + 1) = ((j + 1 : Nat) : Int) := by rw [wrap_i64 (by omega) (by omega)]; omega
    have wju : IntKind.u8.wrap (j : Int) = (j : Int) := by unfold IntKind.wrap; simp [IntKind.bits, IntKind.signed]; omega
    have w1 : IntKind.i64.wrap ((b : Int) + 1) = ((b + 1 : Nat) : Int) := by rw [wrap_i64 (by omega) (by omega)]; omega
    have w2 : IntKind.i64.wrap ((b : Int) + 1 + 1) = ((b + 2 : Nat) : Int) := by rw [wrap_i64 (by omega) (by omega)]; omega
    rw [L123x2q]
    have i1 := r_is hTM b 4 (cmps.getD j [])
    rw [isR_txt (cmps_star j hj)] at i1
    simp [hjI]
    refine bndG_t _ _ (r_compare _ hj) ?_
    refine bndG_t _ _ i1 ?_
    cases t1 : isT (T.map Prod.fst) b 4 (cmps.getD j []) with
    | false =>
      simp [wj]
      refine ih (j + 1) _ _ _ _ _ _ _ _ _ _ _ _ _ _ _ _ _ _ _ _ _ _ _ _ _ _ _ _ _ _ _ _ _ _ _ _ _ _ _ _ _ _ _ _ _ _ _ _ _ _ _ _ _ _ _ _ _ _ _ _ _ _ _ _ _ _ _ _ _ _ _ _ _ _ _ _ _ _ _ _ _ _ _ _ _ _ _ _ _ _ _ _ _ _ _ _ _ _ _ _ _ _ _ _ _ _ _ _ _ _ _ _ _ _ _ _ _ _ _ _ _ _ _ _ _ _ _ _ _ _ _ _ _ _ _ _ _ _ _ _ _ _ _ _ _ _ _ _ _ _ _ _ _ _ _ _ _ _ _ _ _ _ _ _ (by omega) (fun i hi => ?_)
      by_cases e : i = j
      · rw [e]; intro h; rw [(isT_tok _ _ _ _).2 h] at t1; cases t1
      · exact hn i (by omega)
    | true =>
      obtain ⟨o1, o2⟩ := one_some cmps_nd hj ((isT_tok _ _ _ _).1 t1)
      rw [o1, o2] at hR
      simp only [Option.bind_some] at hR
      have hcu : ((UInt8.ofNat j).toNat : Int) = j := by rw [UInt8.toNat_ofNat_of_lt' (by show j < 256; omega)]
      by_cases hw : w = 0
      · rw [if_pos hw] at hR
        subst hR
        subst hw
        simp [hj6, hll, hcc, nodB]
        exact hk _ _ (.none hM.pre)
      · rw [if_neg hw] at hR
        have hw' : (w == 0) = false := by simpa using hw
        have hM2 := hM.put g.toNat w (j : Int) 0
        generalize hM2e : M.set K.length (.cells (nodB g.toNat w j 0 sv) 37) = M2 at *
        simp only [nodB] at hM2e
        have i2 := r_is (hT.pre hM2.pre) (b + 1) 4 [45]
        rw [isR_txt (by decide)] at i2
        have hbk := hM.blk
        simp [hj6, hll, hcc, nodB, hw', hbk, wju, w1, hM2e]
        refine bndC_of i2 ?_
        rw [← hcu] at hM2
        cases t2 : isT (T.map Prod.fst) (b + 1) 4 [45] with
        | true =>
          simp only [kifB_true]
          simp [w2]
          refine cmp_end (b := b + 2) (less := [45]) hT hM2 hml htx (by omega) (by simp) ?_ hk _ _ _ _ _ _ _ _ _ _ _ _ _ _ _ _ _ _ _ _ _ _ _ _ _ _ _ _ _ _ _ _ _ _ _ _ _ _ _ _ _ _ _ _ _ _ _ _ _ _ _ _ _ _ _ _ _ _ _ _ _ _ _ _ _ _ _ _ _ _ _ _ _ _ _ _ _ _ _ _ _ _ _ _ _ _ _ _ _ _ _ _ _ _ _ _ _ _ _ _ _ _ _ _ _ _ _ _ _ _ _ _ _ _ _ _ _ _ _ _ _ _ _ _ _ _ _ _ _ _ _ _ _ _ _ _ _ _ _ _ _ _ _ _ _ _ _ _ _ _ _ _ _ _ _ _ _ _ _ _ _ _ _ _
          rw [hR]
          unfold valE valO valP takO
          rw [t2]
          simp only [if_true]
          cases tokK (T.map Prod.fst) 2 (b + 1 + 1) with
          | none => rfl
          | some s =>
            simp only [Option.bind_some]
            split <;> rfl
        | false =>
          simp only [kifB_false]
          refine cmp_end (b := b + 1) (less := []) hT hM2 hml htx (by omega) (by simp) ?_ hk _ _ _ _ _ _ _ _ _ _ _ _ _ _ _ _ _ _ _ _ _ _ _ _ _ _ _ _ _ _ _ _ _ _ _ _ _ _ _ _ _ _ _ _ _ _ _ _ _ _ _ _ _ _ _ _ _ _ _ _ _ _ _ _ _ _ _ _ _ _ _ _ _ _ _ _ _ _ _ _ _ _ _ _ _ _ _ _ _ _ _ _ _ _ _ _ _ _ _ _ _ _ _ _ _ _ _ _ _ _ _ _ _ _ _ _ _ _ _ _ _ _ _ _ _ _ _ _ _ _ _ _ _ _ _ _ _ _ _ _ _ _ _ _ _ _ _ _ _ _ _ _ _ _ _ _ _ _ _ _ _ _ _ _
          rw [hR]
          unfold valE valO valP takO
          rw [t2]
          simp only [Bool.false_eq_true, if_false]
          cases tokK (T.map Prod.fst) 2 (b + 1) with
          | none => rfl
          | some s =>
            simp only [Option.bind_some]
            split <;> rfl
set_option maxHeartbeats 1000000 in
theorem cmp_mid {M : AHeap} {g : UInt8} {sv : Value} {ms : List Mat} {b : Nat} (hT : RTA K v T) (hM : CM K M g.toNat 0 0 0 sv ms) (hml : ms.length ≤ 2 ^ 41) (hm0 : ∀ m ∈ ms, 0 ≤ m.op ∧ m.name.length < 2 ^ 60 ∧ m.value.length < 2 ^ 60) (htx : ∀ p ∈ T, p.1.text.length < 2 ^ 50) (hb : b < 2 ^ 48)
    (hR : R = if mayMats ms = true then cmpE (T.map Prod.fst) g ms b else none) (hk : ∀ u K', CmpP K R u K' → k u K') (s2 s3 s4 s5 s7 s8 s9 s10 s11 s12 s13 s14 s15 s16 s17 s18 s19 s20 s21 s22 s23 s24 s25 s26 s27 s28 s29 s30 s31 s32 s33 s34 s35 s36 s37 s38 s39 s40 s41 s42 s43 s44 s45 s46 s47 s48 s49 s50 s51 s52 s53 s54 s55 s56 s57 s58 s59 s60 s61 s62 s63 s64 s65 s66 s67 s68 s69 s70 s71 s72 s73 s74 s75 s76 s77 s78 s79 s80 s81 s82 s83 s84 s85 s86 s87 s88 s89 s90 s91 s92 s93 s94 s95 s96 s97 s98 s99 s100 s101 s102 s103 s104 s105 s106 s107 s108 s109 s110 s111 s112 s113 s114 s115 s116 s117 s118 s119 s120 s121 s122 s123 s124 s125 s126 s127 s128 s129 s130 s131 s132 s133 s134 s135 s136 s137 s138 s139 s140 s141 s142 s143 s144 s145 s146 s147 s148 s149 s150 s151 s152 s153 s154 s155 s156 s157 s158 s159 s160 s161 s162 s163 s164 s165 s166 s167 : Value) :
    S123x0 k [v, i64 b, s2, s3, s4, s5, .pointer (some ⟨K.length, 0, some 8⟩), s7, s8, s9, s10, s11, s12, s13, s14, s15, s16, s17, s18, s19, s20, s21, s22, s23, s24, s25, s26, s27, s28, s29, s30, s31, s32, s33, s34, s35, s36, s37, s38, s39, s40, s41, s42, s43, s44, s45, s46, s47, s48, s49, s50, s51, s52, s53, s54, s55, s56, s57, s58, s59, s60, s61, s62, s63, s64, s65, s66, s67, s68, s69, s70, s71, s72, s73, s74, s75, s76, s77, s78, s79, s80, s81, s82, s83, s84, s85, s86, s87, s88, s89, s90, s91, s92, s93, s94, s95, s96, s97, s98, s99, s100, s101, s102, s103, s104, s105, s106, s107, s108, s109, s110, s111, s112, s113, s114, s115, s116, s117, s118, s119, s120, s121, s122, s123, s124, s125, s126, s127, s128, s129, s130, s131, s132, s133, s134, s135, s136, s137, s138, s139, s140, s141, s142, s143, s144, s145, s146, s147, s148, s149, s150, s151, s152, s153, s154, s155, s156, s157, s158, s159, s160, s161, s162, s163, s164, s165, s166, s167] M := by
  have hTM := hT.pre hM.pre
  have hll := hM.hl
  have hcc := hM.hc
  have w1 : IntKind.i64.wrap ((b : Int) + 1) = ((b + 1 : Nat) : Int) := by rw [wrap_i64 (by omega) (by omega)]; omega
  have w2 : IntKind.i64.wrap ((b : Int) + 2) = ((b + 2 : Nat) : Int) := by rw [wrap_i64 (by omega) (by omega)]; omega
  have w3 : IntKind.i64.wrap ((b : Int) + 3) = ((b + 3 : Nat) : Int) := by rw [wrap_i64 (by omega) (by omega)]; omega
  have w4 : IntKind.i64.wrap ((b : Int) + 4) = ((b + 4 : Nat) : Int) := by rw [wrap_i64 (by omega) (by omega)]; omega
  have i1 := r_is hTM b 4 [91]
  have i2 := r_is hTM (b + 1) 2 [42]
  have i3 := r_is hTM (b + 2) 4 [93]
  have i4 := r_is hTM (b + 3) 4 [41]
  rw [isR_txt (by decide)] at i1 i3 i4
  rw [isR_star] at i2
  rw [S123x0q]
  have fail : R = none → k (.tuple #[.slice none 0 0, i64 (-1)]) M := fun h => hk _ _ (by rw [h]; exact .none hM.pre)
  simp [hll, hcc, nodB]
  refine bndC_of (r_mats hM.sel.arr (by omega) hm0) ?_
  cases t0 : mayMats ms with
  | false =>
    rw [t0] at hR
    simp
    exact fail hR
  | true =>
    rw [t0, if_pos rfl] at hR
    simp
    refine bndG_f _ _ i1 ?_
    cases t1 : isT (T.map Prod.fst) b 4 [91] with
    | false =>
      simp
      exact fail (by rw [hR]; unfold cmpE signO; rw [t1]; rfl)
    | true =>
      simp [w1]
      refine bndG_f _ _ i2 ?_
      cases t2 : tokK (T.map Prod.fst) 2 (b + 1) with
      | none =>
        simp
        exact fail (by rw [hR]; unfold cmpE signO winO; rw [t1]; simp [t2])
      | some s =>
        simp [w2]
        refine bndG_f _ _ i3 ?_
        cases t3 : isT (T.map Prod.fst) (b + 2) 4 [93] with
        | false =>
          simp
          refine fail ?_
          rw [hR]
          unfold cmpE signO winO
          rw [t1]
          simp only [if_true, Option.bind_some, t2]
          cases atoF s with
          | none => rfl
          | some n =>
            simp only [Option.bind_some]
            split
            · simp [t3]
            · rfl
        | true =>
          simp [w3]
          refine bndG_f _ _ i4 ?_
          cases t4 : isT (T.map Prod.fst) (b + 3) 4 [41] with
          | false =>
            simp
            refine fail ?_
            rw [hR]
            unfold cmpE signO winO
            rw [t1]
            simp only [if_true, Option.bind_some, t2]
            cases atoF s with
            | none => rfl
            | some n =>
              simp only [Option.bind_some]
              split
              · simp [t3, t4]
              · rfl
          | true =>
            obtain ⟨p, p1, p2, p3⟩ := tok_at t2
            obtain ⟨e1, e2, e3, f1, f2, f3, f4, f5⟩ := hTM.at p1
            rw [p3] at f5
            have hsl : s.length < 2 ^ 50 := by rw [← p3]; exact htx p (List.mem_of_getElem? p1)
            simp only [Int.natCast_add, Int.cast_ofNat_Int] at f1
            have hM2 := hM.put g.toNat (winF 0 s) 0 0
            generalize hM2e : M.set K.length (.cells (nodB g.toNat (winF 0 s) 0 0 sv) 37) = M2 at *
            simp only [nodB] at hM2e
            have hbk := hM.blk
            simp [w1, f1, f4, f5]
            refine bndC_of (r_window M (by omega)) ?_
            simp [hll, hbk, nodB, hM2e, w4]
            refine ⟨6 + 1, cmp_find (b := b + 4) hT hM2 hml htx (by omega) ?_ hk 6 0 _ _ _ _ _ _ _ _ _ _ _ _ _ _ _ _ _ _ _ _ _ _ _ _ _ _ _ _ _ _ _ _ _ _ _ _ _ _ _ _ _ _ _ _ _ _ _ _ _ _ _ _ _ _ _ _ _ _ _ _ _ _ _ _ _ _ _ _ _ _ _ _ _ _ _ _ _ _ _ _ _ _ _ _ _ _ _ _ _ _ _ _ _ _ _ _ _ _ _ _ _ _ _ _ _ _ _ _ _ _ _ _ _ _ _ _ _ _ _ _ _ _ _ _ _ _ _ _ _ _ _ _ _ _ _ _ _ _ _ _ _ _ _ _ _ _ _ _ _ _ _ _ _ _ _ _ _ _ _ _ _ _ _ _ rfl (fun i hi => by omega)⟩
            rw [hR]
            unfold cmpE signO winO
            rw [t1]
            simp only [if_true, Option.bind_some, t2]
            rcases win_ato s with ⟨q0, n, q1, q2, q3, q4⟩ | ⟨q0, q1⟩
            · rw [q1, if_neg q0, q4]
              simp only [Option.bind_some]
              rw [if_pos ⟨q2, q3⟩]
              simp [t3, t4]
            · rw [if_pos q0]
              cases hat : atoF s with
              | none => rfl
              | some n =>
                simp only [Option.bind_some]
                rw [if_neg (q1 n hat)]
                rfl
end
end Go.Vi
namespace Go.Vi
open Go Go.Proofs

theorem matO_bd {T : List RTk} {a : Nat} {p : Mat × Nat} (htx : ∀ p ∈ T, p.1.text.length < 2 ^ 50) (h : matO (T.map Prod.fst) a = some p) : p.2 = a + 3 ∧ a + 3 ≤ T.length ∧ 0 ≤ p.1.op ∧ p.1.name.length < 2 ^ 60 ∧ p.1.value.length < 2 ^ 60 := by
  unfold matO at h
  obtain ⟨x, h1, h⟩ := Option.bind_eq_some_iff.1 h
  obtain ⟨o, h2, h⟩ := Option.bind_eq_some_iff.1 h
  split at h
  · obtain ⟨y, h3, h⟩ := Option.bind_eq_some_iff.1 h
    cases h
    obtain ⟨q, q1, q2, q3⟩ := tok_at h1
    obtain ⟨r, r1, r2, r3⟩ := tok_at h3
    have b1 := htx q (List.mem_of_getElem? q1)
    have b2 := htx r (List.mem_of_getElem? r1)
    have b3 := (List.getElem?_eq_some_iff.1 r1).1
    rw [q3] at b1
    rw [r3] at b2
    exact ⟨rfl, by omega, by simp only; omega, by simp only; omega, by simp only; omega⟩
  · cases h
section
variable {K : AHeap} {v : Value} {T : List RTk} {k : Value → AHeap → Prop} {R : Option (Nod × Nat)}
set_option maxHeartbeats 2000000 in
theorem cmp_mats {g : UInt8} (hT : RTA K v T) (htx : ∀ p ∈ T, p.1.text.length < 2 ^ 50) (hk : ∀ u K', CmpP K R u K' → k u K') :
    ∀ (f a : Nat) (acc : List Mat) (M : AHeap) (sv : Value) (s2 s3 s4 s5 s7 s8 s9 s10 s11 s12 s13 s14 s15 s16 s17 s18 s19 s20 s21 s22 s23 s24 s25 s26 s27 s28 s29 s30 s31 s32 s33 s34 s35 s36 s37 s38 s39 s40 s41 s42 s43 s44 s45 s46 s47 s48 s49 s50 s51 s52 s53 s54 s55 s56 s57 s58 s59 s60 s61 s62 s63 s64 s65 s66 s67 s68 s69 s70 s71 s72 s73 s74 s75 s76 s77 s78 s79 s80 s81 s82 s83 s84 s85 s86 s87 s88 s89 s90 s91 s92 s93 s94 s95 s96 s97 s98 s99 s100 s101 s102 s103 s104 s105 s106 s107 s108 s109 s110 s111 s112 s113 s114 s115 s116 s117 s118 s119 s120 s121 s122 s123 s124 s125 s126 s127 s128 s129 s130 s131 s132 s133 s134 s135 s136 s137 s138 s139 s140 s141 s142 s143 s144 s145 s146 s147 s148 s149 s150 s151 s152 s153 s154 s155 s156 s157 s158 s159 s160 s161 s162 s163 s164 s165 s166 s167 : Value), T.length < f + a → a ≤ 2 ^ 45 → acc.length ≤ a → (∀ m ∈ acc, 0 ≤ m.op ∧ m.name.length < 2 ^ 60 ∧ m.value.length < 2 ^ 60) → CM K M g.toNat 0 0 0 sv acc →
      R = (selL (T.map Prod.fst) f a acc).bind (fun p => (selE (T.map Prod.fst) p.1 p.2).bind fun c => cmpE (T.map Prod.fst) g p.1 c) →
      L123x1 (f + 1) k [v, i64 a, s2, s3, s4, s5, .pointer (some ⟨K.length, 0, some 8⟩), s7, s8, s9, s10, s11, s12, s13, s14, s15, s16, s17, s18, s19, s20, s21, s22, s23, s24, s25, s26, s27, s28, s29, s30, s31, s32, s33, s34, s35, s36, s37, s38, s39, s40, s41, s42, s43, s44, s45, s46, s47, s48, s49, s50, s51, s52, s53, s54, s55, s56, s57, s58, s59, s60, s61, s62, s63, s64, s65, s66, s67, s68, s69, s70, s71, s72, s73, s74, s75, s76, s77, s78, s79, s80, s81, s82, s83, s84, s85, s86, s87, s88, s89, s90, s91, s92, s93, s94, s95, s96, s97, s98, s99, s100, s101, s102, s103, s104, s105, s106, s107, s108, s109, s110, s111, s112, s113, s114, s115, s116, s117, s118, s119, s120, s121, s122, s123, s124, s125, s126, s127, s128, s129, s130, s131, s132, s133, s134, s135, s136, s137, s138, s139, s140, s141, s142, s143, s144, s145, s146, s147, s148, s149, s150, s151, s152, s153, s154, s155, s156, s157, s158, s159, s160, s161, s162, s163, s164, s165, s166, s167] M := by
  have htl := hT.len
  intro f
  induction f with
  | zero =>
    intro a acc M sv s2 s3 s4 s5 s7 s8 s9 s10 s11 s12 s13 s14 s15 s16 s17 s18 s19 s20 s21 s22 s23 s24 s25 s26 s27 s28 s29 s30 s31 s32 s33 s34 s35 s36 s37 s38 s39 s40 s41 s42 s43 s44 s45 s46 s47 s48 s49 s50 s51 s52 s53 s54 s55 s56 s57 s58 s59 s60 s61 s62 s63 s64 s65 s66 s67 s68 s69 s70 s71 s72 s73 s74 s75 s76 s77 s78 s79 s80 s81 s82 s83 s84 s85 s86 s87 s88 s89 s90 s91 s92 s93 s94 s95 s96 s97 s98 s99 s100 s101 s102 s103 s104 s105 s106 s107 s108 s109 s110 s111 s112 s113 s114 s115 s116 s117 s118 s119 s120 s121 s122 s123 s124 s125 s126 s127 s128 s129 s130 s131 s132 s133 s134 s135 s136 s137 s138 s139 s140 s141 s142 s143 s144 s145 s146 s147 s148 s149 s150 s151 s152 s153 s154 s155 s156 s157 s158 s159 s160 s161 s162 s163 s164 s165 s166 s167 hf ha hac hm0 hM hR
    have hnone : matO (T.map Prod.fst) a = none := by
      cases h : matO (T.map Prod.fst) a with
      | none => rfl
      | some p => have := (matO_bd htx h).2.1; omega
    rw [L123x1q]
    have h1 := r_matcher (hT.pre hM.pre) (a := a) (by omega)
    rw [hnone] at h1
    refine bndC_of h1 ?_
    have hRn : R = none := hR
    subst hRn
    simp [matV, Mat.cells]
    exact hk _ _ (.none (hM.pre.more _))
  | succ f ih =>
    intro a acc M sv s2 s3 s4 s5 s7 s8 s9 s10 s11 s12 s13 s14 s15 s16 s17 s18 s19 s20 s21 s22 s23 s24 s25 s26 s27 s28 s29 s30 s31 s32 s33 s34 s35 s36 s37 s38 s39 s40 s41 s42 s43 s44 s45 s46 s47 s48 s49 s50 s51 s52 s53 s54 s55 s56 s57 s58 s59 s60 s61 s62 s63 s64 s65 s66 s67 s68 s69 s70 s71 s72 s73 s74 s75 s76 s77 s78 s79 s80 s81 s82 s83 s84 s85 s86 s87 s88 s89 s90 s91 s92 s93 s94 s95 s96 s97 s98 s99 s100 s101 s102 s103 s104 s105 s106 s107 s108 s109 s110 s111 s112 s113 s114 s115 s116 s117 s118 s119 s120 s121 s122 s123 s124 s125 s126 s127 s128 s129 s130 s131 s132 s133 s134 s135 s136 s137 s138 s139 s140 s141 s142 s143 s144 s145 s146 s147 s148 s149 s150 s151 s152 s153 s154 s155 s156 s157 s158 s159 s160 s161 s162 s163 s164 s165 s166 s167 hf ha hac hm0 hM hR
    rw [L123x1q]
    have h1 := r_matcher (hT.pre hM.pre) (a := a) (by omega)
    refine bndC_of h1 ?_
    rw [selL] at hR
    cases hmo : matO (T.map Prod.fst) a with
    | none =>
      have hRn : R = none := by rw [hR, hmo]; rfl
      subst hRn
      simp [matV, Mat.cells]
      exact hk _ _ (.none (hM.pre.more _))
    | some p =>
      obtain ⟨m, nx⟩ := p
      obtain ⟨b1, b2, b3, b4, b5⟩ := matO_bd htx hmo
      simp only at b1 b3 b4 b5
      subst b1
      rw [hmo] at hR
      simp only [Option.bind_some] at hR
      have hKM : K.length < M.length := (List.getElem?_eq_some_iff.1 hM.blk).1
      have c1 : hcells (M ++ [.cells m.cells 75]) K.length = some (nodB g.toNat 0 0 0 sv) := hcells_more hM.hc
      have l1 : hlen (M ++ [.cells m.cells 75]) K.length = some 8 := hlen_more hM.hl
      have hneg : ¬ ((a : Int) + 3 < 0) := by omega
      have wa : IntKind.i64.wrap ((a : Int) + 3 + 1) = ((a + 4 : Nat) : Int) := by rw [wrap_i64 (by omega) (by omega)]; omega
      simp only [nodB, Mat.cells] at c1 l1
      simp [matV, Mat.cells, hneg, l1, c1]
      have hlit := sliceLitA (c := m.cells) (tbs35 (M ++ [.cells m.cells 75]) 1 _) (by rfl) (by simp [Mat.cells]) (by simp)
      refine bndL_lit hlit ?_
      obtain ⟨sv', M3, q1, q2, q3, q4, q5⟩ := Gro.push (P := Tryz.prog) (K := M ++ [.cells m.cells 75] ++ [.cells m.cells 75]) (lo := K.length + 1) (Ts := 35) (by_ := 40) (x := .slice (some ⟨(M ++ [AObj.cells m.cells 75]).length, 0, some m.cells.length⟩) 1 1) (c := m.cells) hM.sel.app.app mael1 mael2 rfl (by simp; omega) (by simp [aSrc, Mat.cells]) (by simp; omega) (by simp; omega)
      dsimp only
      rw [q1]
      have hb3 := q3 K.length _ (by omega) (get_more (get_more hM.blk))
      have hl3 : hlen M3 K.length = some 8 := by simp [hlen, hb3, nodB]
      simp only [nodB] at hb3
      have ho := q2.one
      have hM4 : CM K (M3.set K.length (.cells (nodB g.toNat 0 0 0 sv') 37)) g.toNat 0 0 0 sv' (acc ++ [m]) := by
        have hlt := (List.getElem?_eq_some_iff.1 hb3).1
        exact ⟨(q5 K ((hM.pre.more _).more _) (by omega)).set (Nat.le_refl _), by rw [List.getElem?_set_self hlt], by rw [List.map_append]; exact q2.set (by omega)⟩
      generalize hM4e : M3.set K.length (.cells (nodB g.toNat 0 0 0 sv') 37) = M4 at *
      simp only [nodB] at hM4e
      simp [hl3, hb3, q2.stor, q2.cells, hM4e, wa]
      have i1 := r_is (hT.pre hM4.pre) (a + 3) 4 [125]
      have i2 := r_is (hT.pre hM4.pre) (a + 3) 4 [44]
      rw [isR_txt (by decide)] at i1 i2
      refine bndC_of i1 ?_
      have hm1 : ∀ x ∈ acc ++ [m], 0 ≤ x.op ∧ x.name.length < 2 ^ 60 ∧ x.value.length < 2 ^ 60 := by
        intro x hx
        rcases List.mem_append.1 hx with hx | hx
        · exact hm0 x hx
        · rw [List.mem_singleton.1 hx]; exact ⟨b3, b4, b5⟩
      cases t1 : isT (T.map Prod.fst) (a + 3) 4 [125] with
      | true =>
        have t2 : isT (T.map Prod.fst) (a + 3) 4 [44] = false := by
          cases h : isT (T.map Prod.fst) (a + 3) 4 [44] with
          | false => rfl
          | true =>
            have e1 := (isT_tok _ _ _ _).1 t1
            have e2 := (isT_tok _ _ _ _).1 h
            rw [e1] at e2
            cases e2
        rw [t2] at hR
        simp only [Bool.false_eq_true, if_false, Option.bind_some] at hR
        simp
        rw [B123x0q]
        refine cmp_mid (b := a + 4) hT hM4 (by simp; omega) hm1 htx (by omega) ?_ hk _ _ _ _ _ _ _ _ _ _ _ _ _ _ _ _ _ _ _ _ _ _ _ _ _ _ _ _ _ _ _ _ _ _ _ _ _ _ _ _ _ _ _ _ _ _ _ _ _ _ _ _ _ _ _ _ _ _ _ _ _ _ _ _ _ _ _ _ _ _ _ _ _ _ _ _ _ _ _ _ _ _ _ _ _ _ _ _ _ _ _ _ _ _ _ _ _ _ _ _ _ _ _ _ _ _ _ _ _ _ _ _ _ _ _ _ _ _ _ _ _ _ _ _ _ _ _ _ _ _ _ _ _ _ _ _ _ _ _ _ _ _ _ _ _ _ _ _ _ _ _ _ _ _ _ _ _ _ _ _ _ _ _ _ _
        rw [hR]
        unfold selE signO
        rw [t1]
        simp only [if_true, Option.bind_some]
        split <;> rfl
      | false =>
        simp
        refine bndC_of i2 ?_
        cases t2 : isT (T.map Prod.fst) (a + 3) 4 [44] with
        | false =>
          rw [t2] at hR
          simp only [Bool.false_eq_true, if_false, Option.bind_some] at hR
          have hRn : R = none := by rw [hR]; unfold selE signO; rw [t1]; rfl
          subst hRn
          simp
          exact hk _ _ (.none hM4.pre)
        | true =>
          rw [t2] at hR
          simp only [if_true] at hR
          simp
          exact ih (a + 4) (acc ++ [m]) M4 sv' _ _ _ _ _ _ _ _ _ _ _ _ _ _ _ _ _ _ _ _ _ _ _ _ _ _ _ _ _ _ _ _ _ _ _ _ _ _ _ _ _ _ _ _ _ _ _ _ _ _ _ _ _ _ _ _ _ _ _ _ _ _ _ _ _ _ _ _ _ _ _ _ _ _ _ _ _ _ _ _ _ _ _ _ _ _ _ _ _ _ _ _ _ _ _ _ _ _ _ _ _ _ _ _ _ _ _ _ _ _ _ _ _ _ _ _ _ _ _ _ _ _ _ _ _ _ _ _ _ _ _ _ _ _ _ _ _ _ _ _ _ _ _ _ _ _ _ _ _ _ _ _ _ _ _ _ _ _ _ _ _ _ _ _ _ (by omega) (by omega) (by simp; omega) hm1 hM4 hR
set_option maxHeartbeats 2000000 in
theorem cmp_aggs {M : AHeap} {a : Nat} (hT : RTA K v T) (htx : ∀ p ∈ T, p.1.text.length < 2 ^ 50) (ha : a ≤ 2 ^ 44) (hM : CM K M 0 0 0 0 (.slice none 0 0) []) (hR : R = cmpO (T.map Prod.fst) a) (hk : ∀ u K', CmpP K R u K' → k u K') :
    ∀ (d j : Nat) (s2 s3 s4 s5 s8 s9 s10 s11 s12 s13 s14 s15 s16 s17 s18 s19 s20 s21 s22 s23 s24 s25 s26 s27 s28 s29 s30 s31 s32 s33 s34 s35 s36 s37 s38 s39 s40 s41 s42 s43 s44 s45 s46 s47 s48 s49 s50 s51 s52 s53 s54 s55 s56 s57 s58 s59 s60 s61 s62 s63 s64 s65 s66 s67 s68 s69 s70 s71 s72 s73 s74 s75 s76 s77 s78 s79 s80 s81 s82 s83 s84 s85 s86 s87 s88 s89 s90 s91 s92 s93 s94 s95 s96 s97 s98 s99 s100 s101 s102 s103 s104 s105 s106 s107 s108 s109 s110 s111 s112 s113 s114 s115 s116 s117 s118 s119 s120 s121 s122 s123 s124 s125 s126 s127 s128 s129 s130 s131 s132 s133 s134 s135 s136 s137 s138 s139 s140 s141 s142 s143 s144 s145 s146 s147 s148 s149 s150 s151 s152 s153 s154 s155 s156 s157 s158 s159 s160 s161 s162 s163 s164 s165 s166 s167 : Value), d + j = 6 → (∀ i, i < j → tokK (T.map Prod.fst) 1 a ≠ some (aggs.getD i [])) → L123x0 (d + 1) k [v, i64 a, s2, s3, s4, s5, .pointer (some ⟨K.length, 0, some 8⟩), i64 j, s8, s9, s10, s11, s12, s13, s14, s15, s16, s17, s18, s19, s20, s21, s22, s23, s24, s25, s26, s27, s28, s29, s30, s31, s32, s33, s34, s35, s36, s37, s38, s39, s40, s41, s42, s43, s44, s45, s46, s47, s48, s49, s50, s51, s52, s53, s54, s55, s56, s57, s58, s59, s60, s61, s62, s63, s64, s65, s66, s67, s68, s69, s70, s71, s72, s73, s74, s75, s76, s77, s78, s79, s80, s81, s82, s83, s84, s85, s86, s87, s88, s89, s90, s91, s92, s93, s94, s95, s96, s97, s98, s99, s100, s101, s102, s103, s104, s105, s106, s107, s108, s109, s110, s111, s112, s113, s114, s115, s116, s117, s118, s119, s120, s121, s122, s123, s124, s125, s126, s127, s128, s129, s130, s131, s132, s133, s134, s135, s136, s137, s138, s139, s140, s141, s142, s143, s144, s145, s146, s147, s148, s149, s150, s151, s152, s153, s154, s155, s156, s157, s158, s159, s160, s161, s162, s163, s164, s165, s166, s167] M := by
  have htl := hT.len
  have hTM := hT.pre hM.pre
  have hll := hM.hl
  have hbk := hM.blk
  rw [cmpO_split] at hR
  intro d
  induction d with
  | zero =>
    intro j s2 s3 s4 s5 s8 s9 s10 s11 s12 s13 s14 s15 s16 s17 s18 s19 s20 s21 s22 s23 s24 s25 s26 s27 s28 s29 s30 s31 s32 s33 s34 s35 s36 s37 s38 s39 s40 s41 s42 s43 s44 s45 s46 s47 s48 s49 s50 s51 s52 s53 s54 s55 s56 s57 s58 s59 s60 s61 s62 s63 s64 s65 s66 s67 s68 s69 s70 s71 s72 s73 s74 s75 s76 s77 s78 s79 s80 s81 s82 s83 s84 s85 s86 s87 s88 s89 s90 s91 s92 s93 s94 s95 s96 s97 s98 s99 s100 s101 s102 s103 s104 s105 s106 s107 s108 s109 s110 s111 s112 s113 s114 s115 s116 s117 s118 s119 s120 s121 s122 s123 s124 s125 s126 s127 s128 s129 s130 s131 s132 s133 s134 s135 s136 s137 s138 s139 s140 s141 s142 s143 s144 s145 s146 s147 s148 s149 s150 s151 s152 s153 s154 s155 s156 s157 s158 s159 s160 s161 s162 s163 s164 s165 s166 s167 hd hn
    obtain rfl : j = 6 := by omega
    have : R = none := by rw [hR, one_none (l := aggs) hn]; rfl
    subst this
    rw [L123x0q]
    simp
    exact hk _ _ (.none hM.pre)
  | succ d ih =>
    intro j s2 s3 s4 s5 s8 s9 s10 s11 s12 s13 s14 s15 s16 s17 s18 s19 s20 s21 s22 s23 s24 s25 s26 s27 s28 s29 s30 s31 s32 s33 s34 s35 s36 s37 s38 s39 s40 s41 s42 s43 s44 s45 s46 s47 s48 s49 s50 s51 s52 s53 s54 s55 s56 s57 s58 s59 s60 s61 s62 s63 s64 s65 s66 s67 s68 s69 s70 s71 s72 s73 s74 s75 s76 s77 s78 s79 s80 s81 s82 s83 s84 s85 s86 s87 s88 s89 s90 s91 s92 s93 s94 s95 s96 s97 s98 s99 s100 s101 s102 s103 s104 s105 s106 s107 s108 s109 s110 s111 s112 s113 s114 s115 s116 s117 s118 s119 s120 s121 s122 s123 s124 s125 s126 s127 s128 s129 s130 s131 s132 s133 s134 s135 s136 s137 s138 s139 s140 s141 s142 s143 s144 s145 s146 s147 s148 s149 s150 s151 s152 s153 s154 s155 s156 s157 s158 s159 s160 s161 s162 s163 s164 s165 s166 s167 hd hn
    have hj : j < 6 := by omega
    have hjI : (j : Int) < 6 := by omega
    have hj6 : ((j : Int) == 6) = false := by rw [beq_eq_false_iff_ne]; omega
    have wj : IntKind.i64.wrap ((j : Int) + 1) = ((j + 1 : Nat) : Int) := by rw [wrap_i64 (by omega) (by omega)]; omega
    have wju : IntKind.u8.wrap (j : Int) = (j : Int) := by unfold IntKind.wrap; simp [IntKind.bits, IntKind.signed]; omega
    have w1 : IntKind.i64.wrap ((a : Int) + 1) = ((a + 1 : Nat) : Int) := by rw [wrap_i64 (by omega) (by omega)]; omega
    have w2 : IntKind.i64.wrap ((a : Int) + 2) = ((a + 2 : Nat) : Int) := by rw [wrap_i64 (by omega) (by omega)]; omega
    have w3 : IntKind.i64.wrap ((a : Int) + 3) = ((a + 3 : Nat) : Int) := by rw [wrap_i64 (by omega) (by omega)]; omega
    have w4 : IntKind.i64.wrap ((a : Int) + 3 + 1) = ((a + 4 : Nat) : Int) := by rw [wrap_i64 (by omega) (by omega)]; omega
    rw [L123x0q]
    have i1 := r_is hTM a 1 (aggs.getD j [])
    rw [isR_txt (aggs_star j hj)] at i1
    simp [hjI]
    refine bndG_t _ _ (r_aggregate _ hj) ?_
    refine bndG_t _ _ i1 ?_
    cases t1 : isT (T.map Prod.fst) a 1 (aggs.getD j []) with
    | false =>
      simp [wj]
      refine ih (j + 1) _ _ _ _ _ _ _ _ _ _ _ _ _ _ _ _ _ _ _ _ _ _ _ _ _ _ _ _ _ _ _ _ _ _ _ _ _ _ _ _ _ _ _ _ _ _ _ _ _ _ _ _ _ _ _ _ _ _ _ _ _ _ _ _ _ _ _ _ _ _ _ _ _ _ _ _ _ _ _ _ _ _ _ _ _ _ _ _ _ _ _ _ _ _ _ _ _ _ _ _ _ _ _ _ _ _ _ _ _ _ _ _ _ _ _ _ _ _ _ _ _ _ _ _ _ _ _ _ _ _ _ _ _ _ _ _ _ _ _ _ _ _ _ _ _ _ _ _ _ _ _ _ _ _ _ _ _ _ _ _ _ _ _ _ (by omega) (fun i hi => ?_)
      by_cases e : i = j
      · rw [e]; intro h; rw [(isT_tok _ _ _ _).2 h] at t1; cases t1
      · exact hn i (by omega)
    | true =>
      obtain ⟨o1, o2⟩ := one_some aggs_nd hj ((isT_tok _ _ _ _).1 t1)
      rw [o1, o2] at hR
      simp only [Option.bind_some] at hR
      have hcu : ((UInt8.ofNat j).toNat : Int) = j := by rw [UInt8.toNat_ofNat_of_lt' (by show j < 256; omega)]
      have i2 := r_is hTM (a + 1) 4 [40]
      have i3 := r_is hTM (a + 2) 4 [123]
      rw [isR_txt (by decide)] at i2 i3
      simp [hj6, w1]
      refine bndG_f _ _ i2 ?_
      cases t2 : isT (T.map Prod.fst) (a + 1) 4 [40] with
      | false =>
        have hRn : R = none := by rw [hR]; unfold signO; rw [t2]; rfl
        subst hRn
        simp
        exact hk _ _ (.none hM.pre)
      | true =>
        have e2 : signO (T.map Prod.fst) [40] (a + 1) = some (a + 2) := by unfold signO; rw [t2]; rfl
        rw [e2] at hR
        simp only [Option.bind_some] at hR
        simp [w2]
        refine bndG_f _ _ i3 ?_
        cases t3 : isT (T.map Prod.fst) (a + 2) 4 [123] with
        | false =>
          have hRn : R = none := by rw [hR]; unfold selO signO; rw [t3]; rfl
          subst hRn
          simp
          exact hk _ _ (.none hM.pre)
        | true =>
          have e3 : selO (T.map Prod.fst) (a + 2) = if isT (T.map Prod.fst) (a + 3) 4 [125] = true then some ([], a + 4) else (selL (T.map Prod.fst) ((T.map Prod.fst).length + 1) (a + 3) []).bind fun p => (selE (T.map Prod.fst) p.1 p.2).map fun c => (p.1, c) := by
            unfold selO signO
            rw [t3]
            rfl
          rw [e3] at hR
          have hM2 := hM.put (j : Int) 0 0 0
          generalize hM2e : M.set K.length (.cells (nodB j 0 0 0 (.slice none 0 0)) 37) = M2 at *
          simp only [nodB] at hM2e hbk
          have i4 := r_is (hT.pre hM2.pre) (a + 3) 4 [125]
          rw [isR_txt (by decide)] at i4
          simp [hll, hbk, wju, hM2e, w3]
          refine bndC_of i4 ?_
          rw [← hcu] at hM2
          cases t4 : isT (T.map Prod.fst) (a + 3) 4 [125] with
          | true =>
            rw [t4, if_pos rfl] at hR
            simp only [Option.bind_some] at hR
            simp only [kifB_true]
            simp [w4]
            exact cmp_mid (b := a + 4) hT hM2 (by simp) (by simp) htx (by omega) (by rw [hR]; rfl) hk _ _ _ _ _ _ _ _ _ _ _ _ _ _ _ _ _ _ _ _ _ _ _ _ _ _ _ _ _ _ _ _ _ _ _ _ _ _ _ _ _ _ _ _ _ _ _ _ _ _ _ _ _ _ _ _ _ _ _ _ _ _ _ _ _ _ _ _ _ _ _ _ _ _ _ _ _ _ _ _ _ _ _ _ _ _ _ _ _ _ _ _ _ _ _ _ _ _ _ _ _ _ _ _ _ _ _ _ _ _ _ _ _ _ _ _ _ _ _ _ _ _ _ _ _ _ _ _ _ _ _ _ _ _ _ _ _ _ _ _ _ _ _ _ _ _ _ _ _ _ _ _ _ _ _ _ _ _ _ _ _ _ _ _ _
          | false =>
            rw [t4, if_neg (by decide)] at hR
            simp only [kifB_false]
            refine ⟨(T.map Prod.fst).length + 1 + 1, cmp_mats hT htx hk ((T.map Prod.fst).length + 1) (a + 3) [] M2 (.slice none 0 0) _ _ _ _ _ _ _ _ _ _ _ _ _ _ _ _ _ _ _ _ _ _ _ _ _ _ _ _ _ _ _ _ _ _ _ _ _ _ _ _ _ _ _ _ _ _ _ _ _ _ _ _ _ _ _ _ _ _ _ _ _ _ _ _ _ _ _ _ _ _ _ _ _ _ _ _ _ _ _ _ _ _ _ _ _ _ _ _ _ _ _ _ _ _ _ _ _ _ _ _ _ _ _ _ _ _ _ _ _ _ _ _ _ _ _ _ _ _ _ _ _ _ _ _ _ _ _ _ _ _ _ _ _ _ _ _ _ _ _ _ _ _ _ _ _ _ _ _ _ _ _ _ _ _ _ _ _ _ _ _ _ _ _ _ _ (by simp; omega) (by omega) (by simp) (by simp) hM2 ?_⟩
            rw [hR]
            cases selL (T.map Prod.fst) ((T.map Prod.fst).length + 1) (a + 3) [] with
            | none => rfl
            | some p =>
              simp only [Option.bind_some]
              cases selE (T.map Prod.fst) p.1 p.2 with
              | none => rfl
              | some c => rfl
theorem r_comparison {a : Nat} (hT : RTA K v T) (htx : ∀ p ∈ T, p.1.text.length < 2 ^ 50) (ha : a ≤ 2 ^ 44) : ∃ u K', CmpP K (cmpO (T.map Prod.fst) a) u K' ∧ ACalls Tryz.prog 123 [v, i64 a] K u K' := by
  refine acalls_ex MixT Tryz.func123 (by decide) ?_
  rw [d123]
  have hM : CM K (K ++ [.cells (nodB 0 0 0 0 (.slice none 0 0)) 37]) 0 0 0 0 (.slice none 0 0) [] := ⟨.app _ _, by simp, .nil⟩
  have := cmp_aggs (k := CmpP K (cmpO (T.map Prod.fst) a)) hT htx ha hM rfl (fun u K' h => h) 6 0
  generalize CmpP K (cmpO (T.map Prod.fst) a) = k at *
  simp
  exact ⟨6 + 1, this _ _ _ _ _ _ _ _ _ _ _ _ _ _ _ _ _ _ _ _ _ _ _ _ _ _ _ _ _ _ _ _ _ _ _ _ _ _ _ _ _ _ _ _ _ _ _ _ _ _ _ _ _ _ _ _ _ _ _ _ _ _ _ _ _ _ _ _ _ _ _ _ _ _ _ _ _ _ _ _ _ _ _ _ _ _ _ _ _ _ _ _ _ _ _ _ _ _ _ _ _ _ _ _ _ _ _ _ _ _ _ _ _ _ _ _ _ _ _ _ _ _ _ _ _ _ _ _ _ _ _ _ _ _ _ _ _ _ _ _ _ _ _ _ _ _ _ _ _ _ _ _ _ _ _ _ _ _ _ _ _ _ _ _ rfl (fun i hi => by omega)⟩
end
end Go.Vi
namespace Go.Vi
open Go Go.Proofs

theorem Gro.src {K lo z T v cl} (h : Gro K lo z T v cl) : aSrc K z v = some (cl.length, cl.flatten) := by
  cases h with
  | nil => rfl
  | mk bb cl h1 h2 h3 h4 =>
    have hfl := flat_len h4
    simp only [aSrc, hcells, h2]
    rw [if_pos ⟨by omega, by omega⟩, List.drop_zero, List.take_of_length_le (by omega)]
theorem Gro.pushNT {P : Program} {K : AHeap} {lo z by_ : Nat} {T Ts : TypeId} {v x : Value} {cl ds : List (List Value)} (h : Gro K lo z T v cl) (hT : aElem P Ts = some (T, z, by_)) (hsq : isSeq P Ts = true) (hc : ∀ c ∈ ds, c.length = z) (hlo : lo ≤ K.length)
    (hx : aSrc K z x = some (ds.length, ds.flatten)) (hb : (cl.length + ds.length) * by_ ≤ 140737488355328) (hn : cl.length + ds.length ≤ 9223372036854775807) :
    ∃ v' K', aBuiltin P K .append #[Ts, Ts] [v, x] = some (v', K') ∧ Gro K' lo z T v' (cl ++ ds) ∧ K.length ≤ K'.length ∧ (∀ H, Pre H K → H.length ≤ lo → Pre H K') ∧ (∀ (b : Nat) o, K[b]? = some o → (∀ cs, o ≠ .cells cs T) → K'[b]? = some o) := by
  by_cases hd : ds = []
  · subst hd
    refine ⟨v, K, ?_, by simpa using h, Nat.le_refl _, fun H p _ => p, fun b o h _ => h⟩
    cases h with
    | nil => simp at hx; simp [aBuiltin, aAppend, hT, hx, hsq]
    | mk bb cl h1 h2 h3 h4 =>
      have hfl := flat_len h4
      simp at hx
      simp [aBuiltin, aAppend, hT, hx, hsq, h2, hfl]
      rw [putCells_eq _ _ _ (by rw [hfl]; simp)]
      simp
      exact set_same h2
  have hdl : 0 < ds.length := List.length_pos_iff.2 hd
  have hfd := flat_len hc
  cases h with
  | nil =>
    refine ⟨.slice (some ⟨K.length, 0, some (ds.length * z)⟩) ds.length ds.length, K ++ [.cells ds.flatten T], ?_, ?_, by simp, fun H p _ => p.more _, fun b o ho _ => get_more ho⟩
    · have hb' : ds.length * by_ ≤ 140737488355328 := by simpa using hb
      have hn' : ds.length ≤ 9223372036854775807 := by simpa using hn
      have hne : ¬ ds.length = 0 := by omega
      simp only [aBuiltin, aAppend, hT, hx, hsq, if_true, hne, if_false, hb', hn', and_self, hfd]
    · have := Gro.mk (K := K ++ [.cells ds.flatten T]) (lo := lo) (z := z) (T := T) K.length ds hlo (by simp) hd hc
      simpa using this
  | mk bb cl h1 h2 h3 h4 =>
    have hfl := flat_len h4
    have hlt := (List.getElem?_eq_some_iff.1 h2).1
    refine ⟨.slice (some ⟨bb, 0, some ((cl.length + ds.length) * z)⟩) (cl.length + ds.length) (cl.length + ds.length), K.set bb (.cells (cl ++ ds).flatten T), ?_, ?_, by simp, fun H p hH => p.set (by omega), fun b o ho hne => by
      rw [List.getElem?_set_ne (by rintro rfl; rw [ho] at h2; cases h2; exact hne _ rfl)]; exact ho⟩
    · have e1 : cl.length * z = cl.flatten.length := hfl.symm
      have e2 : ¬ cl.length + ds.length ≤ cl.length := by omega
      simp only [aBuiltin, aAppend, hT, hx, hsq, if_true, h2, hfl, Nat.zero_add, Nat.le_refl, and_self, e2, if_false, hb, hn]
      have e3 : (cl.flatten.take (cl.length * z)) = cl.flatten := List.take_of_length_le (by omega)
      rw [e3]
      simp
    · have := Gro.mk (K := K.set bb (.cells (cl ++ ds).flatten T)) (lo := lo) (z := z) (T := T) bb (cl ++ ds) h1 (List.getElem?_set_self hlt) (by simp [h3]) (by
        intro x hx
        rw [List.mem_append] at hx
        rcases hx with hx | hx
        · exact h4 x hx
        · exact hc x hx)
      simpa using this
theorem Gro.keep {K K' lo z T T' v cl} (h : Gro K lo z T v cl) (hne : T ≠ T') (hf : ∀ (b : Nat) o, K[b]? = some o → (∀ cs, o ≠ .cells cs T') → K'[b]? = some o) : Gro K' lo z T v cl := by
  cases h with
  | nil => exact .nil
  | mk bb cl h1 h2 h3 h4 => exact .mk bb cl h1 (hf bb _ h2 (fun cs e => by cases e; exact hne rfl)) h3 h4
theorem Gro.pre {K K' lo z T v cl} (h : Gro K lo z T v cl) (p : Pre K K') : Gro K' lo z T v cl := by
  obtain ⟨X, rfl⟩ := p
  exact h.app
theorem NL.pre {K K' lo v ns} (h : NL K lo v ns) (p : Pre K K') : NL K' lo v ns := by
  obtain ⟨cl, h1, h2, h3⟩ := h
  refine ⟨cl, h1.pre p, h2, fun i n hi => ?_⟩
  obtain ⟨sv, q1, q2, q3⟩ := h3 i n hi
  exact ⟨sv, q1, q2.pre p, q3⟩
theorem NL.weak {K lo lo' v ns} (h : NL K lo v ns) (hl : lo' ≤ lo) : NL K lo' v ns := by
  obtain ⟨cl, h1, h2, h3⟩ := h
  refine ⟨cl, h1.weak hl, h2, fun i n hi => ?_⟩
  obtain ⟨sv, q1, q2, q3⟩ := h3 i n hi
  exact ⟨sv, q1, q2.weak hl, q3⟩
theorem node_ne : 75 ≠ 37 := by decide
theorem NL.appL {M : AHeap} {lo lo' : Nat} {vo vm : Value} {ns ms : List Nod} (h : NL M lo vo ns) (hm : NL M lo' vm ms) (hl : lo ≤ lo') (hlo : lo ≤ M.length) (hn : ns.length + ms.length ≤ 2 ^ 38) :
    ∃ v' M', aBuiltin Tryz.prog M .append #[27, 27] [vo, vm] = some (v', M') ∧ NL M' lo v' (ns ++ ms) ∧ M.length ≤ M'.length ∧ (∀ H, Pre H M → H.length ≤ lo → Pre H M') := by
  obtain ⟨ca, a1, a2, a3⟩ := h
  obtain ⟨cb, b1, b2, b3⟩ := hm
  have hc : ∀ c ∈ cb, c.length = 8 := by
    intro c hc
    obtain ⟨i, hi⟩ := List.getElem?_of_mem hc
    have hlt := (List.getElem?_eq_some_iff.1 hi).1
    obtain ⟨n, hn⟩ : ∃ n, ms[i]? = some n := ⟨_, List.getElem?_eq_getElem (by omega)⟩
    obtain ⟨sv, q1, _⟩ := b3 i n hn
    rw [hi] at q1
    cases q1
    rfl
  obtain ⟨v', M', g1, g2, g3, g4, g5⟩ := a1.pushNT (P := Tryz.prog) (Ts := 27) (by_ := 72) (x := vm) (ds := cb) nael1 nael2 hc hlo b1.src (by omega) (by omega)
  refine ⟨v', M', g1, ⟨ca ++ cb, g2, by simp [a2, b2], fun i n hi => ?_⟩, g3, g4⟩
  by_cases hi2 : i < ns.length
  · rw [List.getElem?_append_left hi2] at hi
    obtain ⟨sv, q1, q2, q3⟩ := a3 i n hi
    exact ⟨sv, by rw [List.getElem?_append_left (by omega)]; exact q1, q2.keep node_ne g5, q3⟩
  · rw [List.getElem?_append_right (by omega)] at hi
    obtain ⟨sv, q1, q2, q3⟩ := b3 _ n hi
    exact ⟨sv, by rw [List.getElem?_append_right (by omega), a2]; exact q1, (q2.weak hl).keep node_ne g5, q3⟩
theorem NL.app1 {M : AHeap} {lo : Nat} {vo sv x : Value} {ns : List Nod} {n : Nod} (h : NL M lo vo ns) (hsv : Gro M lo 3 75 sv (n.sel.map Mat.cells)) (hsl : n.sel.length ≤ 2 ^ 41) (hx : aSrc M 8 x = some (1, n.cells sv)) (hlo : lo ≤ M.length) (hn : ns.length + 1 ≤ 2 ^ 38) :
    ∃ v' M', aBuiltin Tryz.prog M .append #[27, 27] [vo, x] = some (v', M') ∧ NL M' lo v' (ns ++ [n]) ∧ M.length ≤ M'.length ∧ (∀ H, Pre H M → H.length ≤ lo → Pre H M') := by
  obtain ⟨ca, a1, a2, a3⟩ := h
  obtain ⟨v', M', g1, g2, g3, g4, g5⟩ := a1.pushNT (P := Tryz.prog) (Ts := 27) (by_ := 72) (x := x) (ds := [n.cells sv]) nael1 nael2 (by simp [Nod.cells]) hlo (by simpa using hx) (by simp; omega) (by simp; omega)
  refine ⟨v', M', g1, ⟨ca ++ [n.cells sv], g2, by simp [a2], fun i m hi => ?_⟩, g3, g4⟩
  by_cases hi2 : i < ns.length
  · rw [List.getElem?_append_left hi2] at hi
    obtain ⟨sv, q1, q2, q3⟩ := a3 i m hi
    exact ⟨sv, by rw [List.getElem?_append_left (by omega)]; exact q1, q2.keep node_ne g5, q3⟩
  · rw [List.getElem?_append_right (by omega)] at hi
    have h0 : i - ns.length = 0 := by
      have := (List.getElem?_eq_some_iff.1 hi).1
      simp at this
      omega
    rw [h0] at hi
    simp at hi
    subst hi
    exact ⟨sv, by rw [List.getElem?_append_right (by omega), a2, h0]; rfl, hsv.keep node_ne g5, hsl⟩
end Go.Vi
namespace Go.Vi
open Go Go.Proofs

theorem tokK_lt2 {ts : List Tok} {k : Int} {a : Nat} {s : List UInt8} (h : tokK ts k a = some s) : a < ts.length := by
  unfold tokK at h
  cases ht : ts[a]? with
  | none => simp [ht] at h
  | some t => exact (List.getElem?_eq_some_iff.1 ht).1
theorem isT_lt2 {ts : List Tok} {k : Int} {a : Nat} {s : List UInt8} (h : isT ts a k s = true) : a < ts.length := tokK_lt2 ((isT_tok _ _ _ _).1 h)
theorem cmpO_bd {ts : List Tok} {a : Nat} {p : Nod × Nat} (h : cmpO ts a = some p) : a < ts.length ∧ p.2 ≤ ts.length := by
  rw [cmpO_split] at h
  obtain ⟨b1, h1, h⟩ := Option.bind_eq_some_iff.1 h
  obtain ⟨b2, h2, h⟩ := Option.bind_eq_some_iff.1 h
  obtain ⟨q, h3, h⟩ := Option.bind_eq_some_iff.1 h
  unfold cmpE at h
  obtain ⟨b3, h4, h⟩ := Option.bind_eq_some_iff.1 h
  obtain ⟨w, h5, h⟩ := Option.bind_eq_some_iff.1 h
  obtain ⟨b4, h6, h⟩ := Option.bind_eq_some_iff.1 h
  obtain ⟨b5, h7, h⟩ := Option.bind_eq_some_iff.1 h
  obtain ⟨b6, h8, h⟩ := Option.bind_eq_some_iff.1 h
  unfold valE at h
  obtain ⟨x, h9, h⟩ := Option.bind_eq_some_iff.1 h
  cases h
  unfold oneO at h1
  obtain ⟨s, h1, _⟩ := Option.bind_eq_some_iff.1 h1
  unfold valO at h9
  obtain ⟨s9, h9, h10⟩ := Option.bind_eq_some_iff.1 h9
  have := tokK_lt2 h9
  split at h10
  · cases h10
    exact ⟨tokK_lt2 h1, this⟩
  · cases h10
theorem strO_bd {ts : List Tok} : ∀ (f : Nat) {m a l l' b}, strO ts f m a l = some (some (l', b)) → a ≤ ts.length → b ≤ ts.length := by
  intro f
  induction f with
  | zero => intro m a l l' b h; cases h
  | succ f ih =>
    intro m a l l' b h ha
    unfold strO at h
    by_cases hm : m = 2
    · rw [if_pos hm] at h
      by_cases h1 : isT ts a 1 notS = true
      · rw [if_pos h1] at h
        obtain ⟨q, e1, e2⟩ := Option.map_eq_some_iff.1 h
        obtain ⟨p, rfl, e3⟩ := Option.map_eq_some_iff.1 e2
        simp only [Prod.mk.injEq] at e3
        rw [← e3.2]
        exact ih e1 (isT_lt2 h1)
      · rw [if_neg h1] at h
        by_cases h2 : isT ts a 4 [40] = true
        · rw [if_pos h2] at h
          obtain ⟨q, e1, e2⟩ := Option.map_eq_some_iff.1 h
          obtain ⟨p, rfl, e3⟩ := Option.bind_eq_some_iff.1 e2
          obtain ⟨c, e4, e5⟩ := Option.map_eq_some_iff.1 e3
          cases e5
          unfold signO at e4
          split at e4
          · rename_i h3
            cases e4
            exact isT_lt2 h3
          · cases e4
        · rw [if_neg h2] at h
          simp only [Option.some.injEq] at h
          obtain ⟨p, e1, e2⟩ := Option.map_eq_some_iff.1 h
          cases e2
          exact (cmpO_bd e1).2
    · rw [if_neg hm] at h
      by_cases hm2 : m < 2
      · rw [if_pos hm2] at h
        obtain ⟨q, e1, e2⟩ := Option.bind_eq_some_iff.1 h
        cases q with
        | none => cases e2
        | some p => exact ih e2 (ih e1 ha)
      · rw [if_neg hm2] at h
        by_cases hw : isT ts a 1 (wordO (m - 10)) = true
        · rw [if_pos hw] at h
          obtain ⟨q, e1, e2⟩ := Option.bind_eq_some_iff.1 h
          cases q with
          | none => cases e2
          | some p => exact ih e2 (ih e1 (isT_lt2 hw))
        · rw [if_neg hw] at h
          simp only [Option.some.injEq, Prod.mk.injEq] at h
          obtain ⟨_, rfl⟩ := h
          exact ha
def RowP (K : AHeap) (N a : Nat) (l : List Nod) (r : Option (List Nod × Nat)) (u : Value) (K' : AHeap) : Prop := ∃ v, ∃ next : Int, ∃ out : List Nod, u = .tuple #[v, i64 next] ∧ Pre K K' ∧ NL K' K.length v out ∧ out.length + a ≤ N ∧ (match r with | none => next = -1 | some p => p.1 = l ++ out ∧ next = p.2)
theorem RowP.none {K K' : AHeap} {N a : Nat} {l : List Nod} (h : Pre K K') (ha : a ≤ N) : RowP K N a l none (.tuple #[.slice none 0 0, i64 (-1)]) K' := ⟨_, _, [], rfl, h, .nil, by simpa using ha, rfl⟩
theorem wordO_ne : ∀ kx, kx < 2 → wordO kx ≠ [42] := by decide
section
variable (v : Value) (T : List RTk)
def PartC (f kx : Nat) : Prop := ∀ (K : AHeap) (a : Nat) (l : List Nod) r, RTA K v T → a ≤ T.length → l.length ≤ a → strO (T.map Prod.fst) f (kx + 1) a l = some r →
  ∃ u K', RowP K T.length a l r u K' ∧ ACalls Tryz.prog 94 [v, i64 a, i64 l.length, str (wordO kx)] K u K'
def RowC (f kx : Nat) : Prop := ∀ (K : AHeap) (a : Nat) (l : List Nod) r, RTA K v T → a ≤ T.length → l.length ≤ a → strO (T.map Prod.fst) f kx a l = some r →
  ∃ u K', RowP K T.length a l r u K' ∧ ACalls Tryz.prog 63 [v, i64 a, i64 l.length, str (wordO kx)] K u K'
def LoopC (f kx : Nat) : Prop := ∀ (K M : AHeap) (a b : Nat) (l out : List Nod) (vo : Value) r (k : Value → AHeap → Prop) (s1 s4 s5 s6 s7 s8 s9 s12 s13 s14 s15 s16 s17 s18 s19 s20 s21 s22 s23 s24 s25 s26 s27 s28 s29 s30 s31 s32 s33 s34 s35 s36 s37 s38 s39 s40 s41 s42 s43 s44 s45 s46 s47 s48 s49 s50 s51 s52 s53 s54 s55 s56 s57 s58 s59 s60 s61 s62 s63 s64 s65 s66 s67 s68 : Value), RTA K v T → Pre K M → NL M K.length vo out → out.length + a ≤ b → b ≤ T.length → l.length ≤ a → strO (T.map Prod.fst) f (kx + 10) b (l ++ out) = some r →
  (∀ u K', RowP K T.length a l r u K' → k u K') → L63x0 f k [v, s1, i64 l.length, str (wordO kx), s4, s5, s6, s7, s8, s9, vo, i64 b, s12, s13, s14, s15, s16, s17, s18, s19, s20, s21, s22, s23, s24, s25, s26, s27, s28, s29, s30, s31, s32, s33, s34, s35, s36, s37, s38, s39, s40, s41, s42, s43, s44, s45, s46, s47, s48, s49, s50, s51, s52, s53, s54, s55, s56, s57, s58, s59, s60, s61, s62, s63, s64, s65, s66, s67, s68] M
end
theorem row_neg {v vo w x : Value} {k : Value → AHeap → Prop} {M : AHeap} {n : Nat} (hk : k (.tuple #[vo, i64 (-1)]) M) (s1 s4 s5 s6 s7 s8 s9 s12 s13 s14 s15 s16 s17 s18 s19 s20 s21 s22 s23 s24 s25 s26 s27 s28 s29 s30 s31 s32 s33 s34 s35 s36 s37 s38 s39 s40 s41 s42 s43 s44 s45 s46 s47 s48 s49 s50 s51 s52 s53 s54 s55 s56 s57 s58 s59 s60 s61 s62 s63 s64 s65 s66 s67 s68 : Value) : L63x0 (n + 1) k [v, s1, w, x, s4, s5, s6, s7, s8, s9, vo, i64 (-1), s12, s13, s14, s15, s16, s17, s18, s19, s20, s21, s22, s23, s24, s25, s26, s27, s28, s29, s30, s31, s32, s33, s34, s35, s36, s37, s38, s39, s40, s41, s42, s43, s44, s45, s46, s47, s48, s49, s50, s51, s52, s53, s54, s55, s56, s57, s58, s59, s60, s61, s62, s63, s64, s65, s66, s67, s68] M := by
  rw [L63x0q]
  simp
  exact hk
section
variable {v : Value} {T : List RTk}
theorem row_of {f kx : Nat} (hp : PartC v T f kx) (hl : LoopC v T f kx) (hkx : kx < 2) : RowC v T (f + 1) kx := by
  intro K a l r hT ha hla hr
  refine acalls_ex MixT Tryz.func63 (by decide) ?_
  rw [d63]
  unfold strO at hr
  rw [if_neg (by omega), if_pos hkx] at hr
  obtain ⟨r1, e1, e2⟩ := Option.bind_eq_some_iff.1 hr
  obtain ⟨u, K', ⟨vo, next, out, rfl, p1, p2, p3, p4⟩, hc⟩ := hp K a l r1 hT ha hla e1
  refine bndC_of hc ?_
  cases r1 with
  | none =>
    simp only at e2 p4
    cases e2
    subst p4
    simp
    exact ⟨0 + 1, row_neg ⟨_, _, out, rfl, p1, p2, p3, rfl⟩ _ _ _ _ _ _ _ _ _ _ _ _ _ _ _ _ _ _ _ _ _ _ _ _ _ _ _ _ _ _ _ _ _ _ _ _ _ _ _ _ _ _ _ _ _ _ _ _ _ _ _ _ _ _ _ _ _ _ _ _ _ _ _ _⟩
  | some p =>
    simp only at e2 p4
    obtain ⟨q1, rfl⟩ := p4
    obtain ⟨l1, b⟩ := p
    simp only at q1 e2 ⊢
    subst q1
    have hsl := strO_len _ e1
    simp only [List.length_append] at hsl
    simp
    exact ⟨f, hl K K' a b l out vo r _ _ _ _ _ _ _ _ _ _ _ _ _ _ _ _ _ _ _ _ _ _ _ _ _ _ _ _ _ _ _ _ _ _ _ _ _ _ _ _ _ _ _ _ _ _ _ _ _ _ _ _ _ _ _ _ _ _ _ _ _ _ _ _ _ hT p1 p2 (by omega) (by have := strO_bd _ e1 (by simpa using ha); simpa using this) hla e2 (fun u K' h => h)⟩
theorem part_or {f : Nat} (h : RowC v T f 1) : PartC v T f 0 := by
  intro K a l r hT ha hla hr
  refine acalls_ex MixT Tryz.func94 (by decide) ?_
  rw [d94]
  obtain ⟨u, K', hR, hc⟩ := h K a l r hT ha hla hr
  have e1 : (str (wordO 0)) = Value.string ⟨#[111, 114]⟩ := rfl
  rw [e1]
  simp
  refine bndC_of hc ?_
  obtain ⟨vo, next, out, rfl, p1, p2, p3, p4⟩ := hR
  simp
  exact ⟨vo, next, out, rfl, p1, p2, p3, p4⟩
theorem cond_or {f : Nat} (h : RowC v T f 0) (K : AHeap) (a : Nat) (l : List Nod) (r : Option (List Nod × Nat)) (hT : RTA K v T) (ha : a ≤ T.length) (hla : l.length ≤ a) (hr : strO (T.map Prod.fst) f 0 a l = some r) :
    ∃ u K', RowP K T.length a l r u K' ∧ ACalls Tryz.prog 37 [v, i64 a, i64 l.length] K u K' := by
  refine acalls_ex MixT Tryz.func37 (by decide) ?_
  rw [d37]
  obtain ⟨u, K', hR, hc⟩ := h K a l r hT ha hla hr
  refine bndC_of hc ?_
  obtain ⟨vo, next, out, rfl, p1, p2, p3, p4⟩ := hR
  simp
  exact ⟨vo, next, out, rfl, p1, p2, p3, p4⟩
theorem loop_zero (kx : Nat) : LoopC v T 0 kx := by
  intro K M a b l out vo r k s1 s4 s5 s6 s7 s8 s9 s12 s13 s14 s15 s16 s17 s18 s19 s20 s21 s22 s23 s24 s25 s26 s27 s28 s29 s30 s31 s32 s33 s34 s35 s36 s37 s38 s39 s40 s41 s42 s43 s44 s45 s46 s47 s48 s49 s50 s51 s52 s53 s54 s55 s56 s57 s58 s59 s60 s61 s62 s63 s64 s65 s66 s67 s68 hT hp hn hb hbT hla hr
  cases hr
set_option maxHeartbeats 2000000 in
theorem loop_of {f kx : Nat} (hTl : T.length ≤ 2 ^ 36) (hp : PartC v T f kx) (hl : LoopC v T f kx) (hkx : kx < 2) : LoopC v T (f + 1) kx := by
  intro K M a b l out vo r k s1 s4 s5 s6 s7 s8 s9 s12 s13 s14 s15 s16 s17 s18 s19 s20 s21 s22 s23 s24 s25 s26 s27 s28 s29 s30 s31 s32 s33 s34 s35 s36 s37 s38 s39 s40 s41 s42 s43 s44 s45 s46 s47 s48 s49 s50 s51 s52 s53 s54 s55 s56 s57 s58 s59 s60 s61 s62 s63 s64 s65 s66 s67 s68 hT hpre hn hb hbT hla hr hk
  unfold strO at hr
  have e10 : kx + 10 - 10 = kx := by omega
  rw [if_neg (by omega), if_neg (by omega), e10] at hr
  have hTM := hT.pre hpre
  have i1 := r_is hTM b 1 (wordO kx)
  rw [isR_txt (wordO_ne kx hkx)] at i1
  rw [L63x0q]
  simp
  refine bndG_t _ _ i1 ?_
  cases t1 : isT (T.map Prod.fst) b 1 (wordO kx) with
  | false =>
    rw [t1, if_neg (by decide)] at hr
    cases hr
    simp
    exact hk _ _ ⟨vo, b, out, rfl, hpre, hn, by omega, rfl, rfl⟩
  | true =>
    rw [t1, if_pos rfl] at hr
    obtain ⟨r1, e1, e2⟩ := Option.bind_eq_some_iff.1 hr
    have hbl := isT_lt2 t1
    simp only [List.length_map] at hbl
    obtain ⟨u, K1, ⟨v1, next, out1, rfl, p1, p2, p3, p4⟩, hc⟩ := hp M (b + 1) (l ++ out) r1 hTM (by omega) (by simp; omega) e1
    have hKM : K.length ≤ M.length := by obtain ⟨X, rfl⟩ := hpre; simp
    have hKM1 : M.length ≤ K1.length := by obtain ⟨X, rfl⟩ := p1; simp
    have hlo := hn.len
    have w1 : IntKind.i64.wrap ((l.length : Int) + out.length) = (l.length : Int) + out.length := wrap_i64 (by omega) (by omega)
    have w2 : IntKind.i64.wrap ((l.length : Int) + out.length - 1) = (l.length : Int) + out.length - 1 := wrap_i64 (by omega) (by omega)
    have w3 : IntKind.i64.wrap ((b : Int) + 1) = ((b + 1 : Nat) : Int) := by rw [wrap_i64 (by omega) (by omega)]; omega
    obtain ⟨v2, M2, a1, a2, a3, a4⟩ := NL.appL (hn.pre p1) p2 hKM (by omega) (by omega)
    have hl2 := a2.len
    have w4 : IntKind.i64.wrap ((l.length : Int) + ((out.length : Int) + out1.length)) = (l.length : Int) + ((out.length : Int) + out1.length) := wrap_i64 (by omega) (by omega)
    have w5 : IntKind.i64.wrap ((l.length : Int) + ((out.length : Int) + out1.length) - 1) = (l.length : Int) + ((out.length : Int) + out1.length) - 1 := wrap_i64 (by omega) (by omega)
    simp [hlo, w1, w2, w3]
    have hc' := hc
    simp only [List.length_append] at hc'
    refine bndC_of hc' ?_
    simp [a1, hl2, w4, w5]
    have hM2p : Pre K M2 := a4 K (hpre.trans p1) (Nat.le_refl _)
    have tail : ∀ (op : Nod) (s1 s4 s5 s6 s7 s8 s9 s11 s12 s13 s16 s17 s18 s19 s20 s21 s22 s23 s24 s25 s26 s27 s28 s29 s30 s31 s32 s33 s34 s35 s36 s37 s38 s39 s40 s41 s42 s43 s44 s45 s46 s47 s48 s49 s50 s51 s52 s53 s54 s55 s56 s57 s58 s59 s60 s61 s62 s63 s64 s65 s66 s67 s68 : Value), op = opN (kindK kx) (((l ++ out).length : Int) - 1) (((l ++ out ++ out1).length : Int) - 1) → S63x0 f k [v, s1, i64 l.length, str (wordO kx), s4, s5, s6, s7, s8, s9, v2, s11, s12, s13, i64 next, .pointer (some ⟨M2.length, 0, some 8⟩), s16, s17, s18, s19, s20, s21, s22, s23, s24, s25, s26, s27, s28, s29, s30, s31, s32, s33, s34, s35, s36, s37, s38, s39, s40, s41, s42, s43, s44, s45, s46, s47, s48, s49, s50, s51, s52, s53, s54, s55, s56, s57, s58, s59, s60, s61, s62, s63, s64, s65, s66, s67, s68] (M2 ++ [.cells (op.cells (.slice none 0 0)) 37]) := by
      intro op s1 s4 s5 s6 s7 s8 s9 s11 s12 s13 s16 s17 s18 s19 s20 s21 s22 s23 s24 s25 s26 s27 s28 s29 s30 s31 s32 s33 s34 s35 s36 s37 s38 s39 s40 s41 s42 s43 s44 s45 s46 s47 s48 s49 s50 s51 s52 s53 s54 s55 s56 s57 s58 s59 s60 s61 s62 s63 s64 s65 s66 s67 s68 hop
      rw [S63x0q]
      have hlit := sliceLitA (c := op.cells (.slice none 0 0)) (tbs27 (M2 ++ [.cells (op.cells (.slice none 0 0)) 37]) 1 _) (by rfl) (by simp [Nod.cells]) (by simp)
      have hop3 : op.sel = [] := by rw [hop]; rfl
      obtain ⟨v3, M3, b1, b2, b3, b4⟩ := NL.app1 (M := M2 ++ [.cells (op.cells (.slice none 0 0)) 37] ++ [.cells (op.cells (.slice none 0 0)) 37]) (sv := .slice none 0 0) (n := op) (x := .slice (some ⟨(M2 ++ [AObj.cells (op.cells (.slice none 0 0)) 37]).length, 0, some (op.cells (.slice none 0 0)).length⟩) 1 1) ((a2.pre (.app _ _)).pre (.app _ _)) (by rw [hop3]; exact .nil) (by rw [hop3]; simp) (by simp [aSrc, Nod.cells]) (by simp; omega) (by simp; omega)
      simp [Nod.cells]
      refine bndL_lit hlit ?_
      dsimp only
      rw [b1]
      simp
      have hM3p : Pre K M3 := b4 K ((hM2p.more _).more _) (Nat.le_refl _)
      cases r1 with
      | none =>
        simp only at e2 p4
        cases e2
        subst p4
        obtain ⟨f', rfl⟩ : ∃ g, f = g + 1 := by
          cases f with
          | zero => cases e1
          | succ g => exact ⟨g, rfl⟩
        exact row_neg (hk _ _ ⟨v3, -1, out ++ out1 ++ [op], rfl, hM3p, b2, by simp; omega, rfl⟩) _ _ _ _ _ _ _ _ _ _ _ _ _ _ _ _ _ _ _ _ _ _ _ _ _ _ _ _ _ _ _ _ _ _ _ _ _ _ _ _ _ _ _ _ _ _ _ _ _ _ _ _ _ _ _ _ _ _ _ _ _ _ _ _
      | some p =>
        simp only at e2 p4
        obtain ⟨q1, rfl⟩ := p4
        obtain ⟨l1, b'⟩ := p
        simp only at q1 e2 ⊢
        subst q1
        have hsl := strO_len _ e1
        simp only [List.length_append] at hsl
        have hbd := strO_bd _ e1 (by simp; omega)
        simp only [List.length_map] at hbd
        refine hl K M3 a b' l (out ++ out1 ++ [op]) v3 r k _ _ _ _ _ _ _ _ _ _ _ _ _ _ _ _ _ _ _ _ _ _ _ _ _ _ _ _ _ _ _ _ _ _ _ _ _ _ _ _ _ _ _ _ _ _ _ _ _ _ _ _ _ _ _ _ _ _ _ _ _ _ _ _ hT hM3p b2 (by simp; omega) hbd hla ?_ hk
        rw [← e2, hop]
        simp
    rcases (show kx = 0 ∨ kx = 1 by omega) with rfl | rfl
    · simp [wordO]
      refine tail ⟨2, 0, [], 0, 0, 0, (l.length : Int) + out.length - 1, (l.length : Int) + ((out.length : Int) + out1.length) - 1⟩ _ _ _ _ _ _ _ _ _ _ _ _ _ _ _ _ _ _ _ _ _ _ _ _ _ _ _ _ _ _ _ _ _ _ _ _ _ _ _ _ _ _ _ _ _ _ _ _ _ _ _ _ _ _ _ _ _ _ _ _ _ _ _ (by simp [opN, kindK])
    · simp [wordO]
      refine tail ⟨1, 0, [], 0, 0, 0, (l.length : Int) + out.length - 1, (l.length : Int) + ((out.length : Int) + out1.length) - 1⟩ _ _ _ _ _ _ _ _ _ _ _ _ _ _ _ _ _ _ _ _ _ _ _ _ _ _ _ _ _ _ _ _ _ _ _ _ _ _ _ _ _ _ _ _ _ _ _ _ _ _ _ _ _ _ _ _ _ _ _ _ _ _ _ (by simp [opN, kindK])
set_option maxHeartbeats 2000000 in
theorem part_and {f : Nat} (hTl : T.length ≤ 2 ^ 36) (htx : ∀ p ∈ T, p.1.text.length < 2 ^ 50) (hp : PartC v T f 1) (hc : RowC v T f 0) : PartC v T (f + 1) 1 := by
  intro K a l r hT ha hla hr
  refine acalls_ex MixT Tryz.func94 (by decide) ?_
  rw [d94]
  unfold strO at hr
  rw [if_pos rfl] at hr
  have w1 : IntKind.i64.wrap ((a : Int) + 1) = ((a + 1 : Nat) : Int) := by rw [wrap_i64 (by omega) (by omega)]; omega
  have i1 := r_is hT a 1 notS
  have i2 := r_is hT a 4 [40]
  rw [isR_txt (by decide)] at i1 i2
  have fail : ∀ K', Pre K K' → r = none → RowP K T.length a l r (.tuple #[.slice none 0 0, i64 (-1)]) K' := fun K' h e => by rw [e]; exact .none h ha
  simp [wordO]
  refine bndC_of i1 ?_
  cases t1 : isT (T.map Prod.fst) a 1 notS with
  | true =>
    rw [t1, if_pos rfl] at hr
    obtain ⟨r1, e1, e2⟩ := Option.map_eq_some_iff.1 hr
    have hal := isT_lt2 t1
    simp only [List.length_map] at hal
    obtain ⟨u, K1, ⟨v1, next, out1, rfl, p1, p2, p3, p4⟩, hcl⟩ := hp K (a + 1) l r1 hT (by omega) (by omega) e1
    simp [w1]
    refine bndC_of hcl ?_
    have hl1 := p2.len
    have hKM1 : K.length ≤ K1.length := by obtain ⟨X, rfl⟩ := p1; simp
    cases r1 with
    | none =>
      simp only [Option.map_none] at e2
      simp only at p4
      subst p4
      simp
      exact fail _ p1 e2.symm
    | some p =>
      simp only [Option.map_some] at e2
      simp only at p4
      obtain ⟨q1, rfl⟩ := p4
      have hneg : ¬ ((p.2 : Int) < 0) := by omega
      have w2 : IntKind.i64.wrap ((l.length : Int) + out1.length) = (l.length : Int) + out1.length := wrap_i64 (by omega) (by omega)
      have w3 : IntKind.i64.wrap ((l.length : Int) + out1.length - 1) = (l.length : Int) + out1.length - 1 := wrap_i64 (by omega) (by omega)
      have hlit := sliceLitA (c := (opN 3 ((l.length : Int) + out1.length - 1) 0).cells (.slice none 0 0)) (tbs27 K1 1 _) (by rfl) (by simp [Nod.cells]) (by simp)
      obtain ⟨v3, M3, b1, b2, b3, b4⟩ := NL.app1 (M := K1 ++ [.cells ((opN 3 ((l.length : Int) + out1.length - 1) 0).cells (.slice none 0 0)) 37]) (sv := .slice none 0 0) (n := opN 3 ((l.length : Int) + out1.length - 1) 0) (x := .slice (some ⟨K1.length, 0, some ((opN 3 ((l.length : Int) + out1.length - 1) 0).cells (.slice none 0 0)).length⟩) 1 1) (p2.pre (.app _ _)) .nil (by simp [opN]) (by simp [aSrc, Nod.cells]) (by simp; omega) (by omega)
      simp [hneg, hl1, w2, w3]
      refine bndL_lit hlit ?_
      dsimp only
      rw [b1]
      simp
      have hsl := strO_len _ e1
      have hbd := strO_bd _ e1 (by simp; omega)
      simp only [List.length_map] at hbd
      rw [q1] at hsl
      simp only [List.length_append] at hsl
      refine ⟨v3, p.2, out1 ++ [opN 3 ((l.length : Int) + out1.length - 1) 0], rfl, b4 K (p1.more _) (Nat.le_refl _), b2, by simp; omega, ?_⟩
      rw [← e2]
      exact ⟨by simp [q1], rfl⟩
  | false =>
    rw [t1, if_neg (by decide)] at hr
    simp
    refine bndC_of i2 ?_
    cases t2 : isT (T.map Prod.fst) a 4 [40] with
    | true =>
      rw [t2, if_pos rfl] at hr
      obtain ⟨r1, e1, e2⟩ := Option.map_eq_some_iff.1 hr
      have hal := isT_lt2 t2
      simp only [List.length_map] at hal
      obtain ⟨u, K1, ⟨v1, next, out1, rfl, p1, p2, p3, p4⟩, hcl⟩ := cond_or hc K (a + 1) l r1 hT (by omega) (by omega) e1
      simp [w1]
      refine bndC_of hcl ?_
      cases r1 with
      | none =>
        simp only [Option.bind_none] at e2
        simp only at p4
        subst p4
        simp
        exact fail _ p1 e2.symm
      | some p =>
        simp only [Option.bind_some] at e2
        simp only at p4
        obtain ⟨q1, rfl⟩ := p4
        have hneg : ¬ ((p.2 : Int) < 0) := by omega
        have i3 := r_is (hT.pre p1) p.2 4 [41]
        rw [isR_txt (by decide)] at i3
        simp [hneg]
        refine bndG_f _ _ i3 ?_
        cases t3 : isT (T.map Prod.fst) p.2 4 [41] with
        | false =>
          have : r = none := by rw [← e2]; unfold signO; rw [t3]; rfl
          simp
          exact fail _ p1 this
        | true =>
          have hpl := isT_lt2 t3
          simp only [List.length_map] at hpl
          have e3 : r = some (p.1, p.2 + 1) := by rw [← e2]; unfold signO; rw [t3]; rfl
          have w2 : IntKind.i64.wrap ((p.2 : Int) + 1) = ((p.2 + 1 : Nat) : Int) := by rw [wrap_i64 (by omega) (by omega)]; omega
          simp [w2]
          refine ⟨v1, ((p.2 + 1 : Nat) : Int), out1, by simp, p1, p2, by omega, ?_⟩
          rw [e3]
          exact ⟨q1, rfl⟩
    | false =>
      rw [t2, if_neg (by decide)] at hr
      simp only [Option.some.injEq] at hr
      obtain ⟨u, K1, ⟨v1, next, out1, rfl, p1, p2, p3⟩, hcl⟩ := r_comparison (a := a) hT htx (by omega)
      simp
      refine bndC_of hcl ?_
      simp
      cases hco : cmpO (T.map Prod.fst) a with
      | none =>
        rw [hco] at hr p3
        simp only at p3
        have : r = none := by rw [← hr]; rfl
        obtain ⟨rfl, rfl⟩ := p3
        rw [this]
        exact ⟨v1, -1, [], rfl, p1, p2, by simpa using ha, rfl⟩
      | some p =>
        rw [hco] at hr p3
        simp only at p3
        obtain ⟨rfl, rfl⟩ := p3
        have hbd := cmpO_bd hco
        simp only [List.length_map] at hbd
        rw [← hr]
        exact ⟨v1, p.2, [p.1], rfl, p1, p2, by simp; omega, rfl, rfl⟩
theorem r_all_f (hTl : T.length ≤ 2 ^ 36) (htx : ∀ p ∈ T, p.1.text.length < 2 ^ 50) : ∀ f, PartC v T f 1 ∧ RowC v T f 1 ∧ PartC v T f 0 ∧ RowC v T f 0 ∧ LoopC v T f 0 ∧ LoopC v T f 1 := by
  intro f
  induction f with
  | zero =>
    have hr : ∀ kx, RowC v T 0 kx := fun kx K a l r _ _ _ h => by cases h
    have hp : ∀ kx, PartC v T 0 kx := fun kx K a l r _ _ _ h => by cases h
    exact ⟨hp 1, hr 1, hp 0, hr 0, loop_zero 0, loop_zero 1⟩
  | succ f ih =>
    obtain ⟨a1, a2, a3, a4, a5, a6⟩ := ih
    have b1 := part_and hTl htx a1 a4
    have b2 := row_of a1 a6 (by omega)
    have b3 := part_or b2
    have b4 := row_of a3 a5 (by omega)
    exact ⟨b1, b2, b3, b4, loop_of hTl a3 a5 (by omega), loop_of hTl a1 a6 (by omega)⟩
theorem r_condition {K : AHeap} {a : Nat} (hT : RTA K v T) (hTl : T.length ≤ 2 ^ 36) (htx : ∀ p ∈ T, p.1.text.length < 2 ^ 50) (ha : a ≤ T.length) :
    ∃ u K', RowP K T.length a [] (conO (T.map Prod.fst) a) u K' ∧ ACalls Tryz.prog 37 [v, i64 a, i64 0] K u K' :=
  cond_or (r_all_f hTl htx _).2.2.2.1 K a [] _ hT ha (by simp) (conO_str _ a)
end
end Go.Vi
