/- One token. All tokens. All tokens: the iterator, and the range over it. The reader of conditions: tokens. Numbers' texts. Reading a condition. Numbers' texts that are refused. Numbers are written: how many digits there are. What the functions' bodies come to. -/
import Derived.Test.YtpkdgmcfojjfjaaGreatDoorJ4
import Derived.Test.YtpkdgmcfojjfjaaGreatDoorJ3
import Derived.Test.YtpkdgmcfojjfjaaGreatDoorChecked
namespace Go.Vi
open Go Go.Proofs

structure Tok where
  kind : Int
  text : List UInt8
  at' : Int
def Tok.cells (t : Tok) : List Value := [.int .u8 t.kind, str t.text, i64 t.at']
def runF (p : UInt8 → Bool) (s : List UInt8) : Nat := (s.takeWhile p).length
def numLen (s : List UInt8) : Nat :=
  if ((s[runF isDig s]?).any (fun e => (e.toNat : Int) == 46) && decide (runF isDig (s.drop (runF isDig s + 1)) > 0)) = true then runF isDig s + (1 + runF isDig (s.drop (runF isDig s + 1))) else runF isDig s
/-- The token at the head of a text that begins at a place, and how many bytes it has. -/
def oneF (s : List UInt8) (a : Nat) : Tok × Nat := match s with
  | [] => (⟨0, [], a⟩, 0)
  | b :: r => if isLow b = true then (⟨1, s.take (runF isMark s), a⟩, runF isMark s)
    else if isDig b = true then (⟨2, s.take (numLen s), a⟩, numLen s)
    else if ((b.toNat : Int) == 34) = true then (⟨3, (textF r [] 1).1, a⟩, (textF r [] 1).2)
    else (⟨4, s.take (signF s), a⟩, signF s)
theorem runN_eq (p : UInt8 → Bool) (l : List UInt8) (a : Nat) : runN p l a = runF p (l.drop a) := rfl
theorem runF_le (p : UInt8 → Bool) (s : List UInt8) : runF p s ≤ s.length := by
  unfold runF; exact List.IsPrefix.length_le (List.takeWhile_prefix p)
theorem numLen_le (s : List UInt8) : numLen s ≤ s.length := by
  unfold numLen
  have h1 := runF_le isDig s
  have h2 := runF_le isDig (s.drop (runF isDig s + 1))
  rw [List.length_drop] at h2
  split
  · rename_i h
    simp only [Bool.and_eq_true, Option.any_eq_true] at h
    obtain ⟨⟨e, he, _⟩, _⟩ := h
    have := (List.getElem?_eq_some_iff.1 he).1
    omega
  · exact h1
theorem signF_le (s : List UInt8) : signF s ≤ s.length := by
  cases s with
  | nil => simp [signF]
  | cons b r =>
    simp only [signF]
    split
    · rename_i h
      simp only [Bool.and_eq_true, Option.any_eq_true] at h
      obtain ⟨⟨e, he, _⟩, _⟩ := h
      have := (List.getElem?_eq_some_iff.1 he).1
      simp; omega
    · split <;> simp
theorem one_tail {H : AHeap} {l : List UInt8} {a n : Nat} {kd : Int} {old : Value} {k : Value → AHeap → Prop} (hl : l.length < 2 ^ 40) (ha : a + n ≤ l.length) (_ho : old.oneCell' = true)
    (hk : ∀ K, Pre H K → k (.tuple #[.agg (⟨kd, (l.drop a).take n, a⟩ : Tok).cells.toArray, i64 n]) K) (X : AHeap) (c0 c1 c2 : Value) (s2 s3 s5 s8 s9 s10 s11 s12 s13 s14 s15 s16 s17 s18 s19 s20 s21 s22 s23 s24 s25 s26 s27 s28 s29 s30 s31 s32 s33 s34 s35 s36 s37 s38 s39 s40 s41 s42 s43 s44 s45 s46 s47 s48 s49 s50 s51 s52 s53 s54 s55 s56 s57 s58 s59 s60 s61 s62 s63 s64 s65 s66 s67 s68 s69 s70 s71 s72 s73 s74 s75 s76 s77 s78 s79 s80 s81 s82 s83 s84 : Value) :
    S66x0 k [str l, i64 a, s2, s3, .pointer (some ⟨H.length, 0, some 3⟩), s5, .pointer (some ⟨H.length + 1, 0, some 3⟩), i64 n, s8, s9, s10, s11, s12, s13, s14, s15, s16, s17, s18, s19, s20, s21, s22, s23, s24, s25, s26, s27, s28, s29, s30, s31, s32, s33, s34, s35, s36, s37, s38, s39, s40, s41, s42, s43, s44, s45, s46, s47, s48, s49, s50, s51, s52, s53, s54, s55, s56, s57, s58, s59, s60, s61, s62, s63, s64, s65, s66, s67, s68, s69, s70, s71, s72, s73, s74, s75, s76, s77, s78, s79, s80, s81, s82, s83, s84] (H ++ .cells [c0, c1, c2] 70 :: .cells [.int .u8 kd, old, i64 a] 70 :: X) := by
  rw [S66x0q]
  have hwr : IntKind.i64.wrap ((a : Int) + n) = ((a + n : Nat) : Int) := by rw [wrap_i64 (by omega) (by omega)]; simp
  have hs : aSliceOp Tryz.prog (H ++ .cells [c0, c1, c2] 70 :: .cells [.int .u8 kd, old, i64 a] 70 :: X) 9 (str l) (some (i64 a)) (some (i64 ((a + n : Nat) : Int))) = some (str ((l.drop a).take n)) := by
    rw [aSliceOp_str (a := a) (b := ((a + n : Nat) : Int)) (by simp) rfl rfl (by omega) (by omega) (by omega)]
    simp only [Int.toNat_natCast, List.drop_take, Nat.add_sub_cancel_left]
  simp only [aBin_add, hwr, bnd_some, hs]
  simp [Tok.cells] at hk ⊢
  exact hk _ (.app _ _)
theorem c_one {H : AHeap} {l : List UInt8} {a : Nat} (hl : l.length < 2 ^ 40) (ha : a < l.length) :
    ACalls Tryz.prog 66 [str l, i64 a] H (.tuple #[.agg (oneF (l.drop a) a).1.cells.toArray, i64 (oneF (l.drop a) a).2]) H := by
  refine acallsT_pure MixT Tryz.func66 (by decide) (by simp [flat, clos, Tok.cells, isLit]) ?_
  rw [d66]
  obtain ⟨b, r, hbr⟩ : ∃ b r, l.drop a = b :: r := by
    cases h : l.drop a with
    | nil => simp at h; omega
    | cons b r => exact ⟨b, r, rfl⟩
  have hb : l[a]? = some b := by rw [← List.head?_drop, hbr]; rfl
  have hix := aIndex_at (P := Tryz.prog) (T := 9) (k := .i64) (by simp) hb
  have hd1 : l.drop (a + 1) = r := by rw [← List.drop_drop, hbr]; rfl
  have hdl : (l.drop a).length = l.length - a := by simp
  generalize hw : oneF (l.drop a) a = w
  rw [hbr] at hw
  simp only [oneF] at hw
  simp [hix]
  refine bndC_of (c_lex_letter _ _) ?_
  refine kifB_bool (fun h1 => ?_) (fun h1 => ?_)
  · rw [if_pos h1] at hw
    refine bndC_of (c_run (c_lex_mark _) (by omega) (by omega)) ?_
    simp
    have hle := runF_le isMark (l.drop a)
    refine one_tail (n := runN isMark l a) hl (by rw [runN_eq]; omega) rfl ?_ [] _ _ _ _ _ _ _ _ _ _ _ _ _ _ _ _ _ _ _ _ _ _ _ _ _ _ _ _ _ _ _ _ _ _ _ _ _ _ _ _ _ _ _ _ _ _ _ _ _ _ _ _ _ _ _ _ _ _ _ _ _ _ _ _ _ _ _ _ _ _ _ _ _ _ _ _ _ _ _ _ _ _ _
    intro K hp
    refine ⟨?_, hp⟩
    rw [← hw, runN_eq, hbr]
  rw [if_neg (by simp [h1])] at hw
  simp [hix]
  refine bndC_of (c_lex_digit _ _) ?_
  refine kifB_bool (fun h2 => ?_) (fun h2 => ?_)
  · rw [if_pos h2] at hw
    refine bndC_of (c_run (c_lex_digit _) (by omega) (by omega)) ?_
    simp
    have hle := runF_le isDig (l.drop a)
    rw [runN_eq]
    generalize hn : runF isDig (l.drop a) = n at hle
    have hwr : IntKind.i64.wrap ((a : Int) + n) = ((a + n : Nat) : Int) := by rw [wrap_i64 (by omega) (by omega)]; simp
    have hwr2 : IntKind.i64.wrap (((a + n : Nat) : Int) + 1) = ((a + n + 1 : Nat) : Int) := wrap_succ (by omega)
    simp only [hwr, hwr2]
    have hcr := fun K : AHeap => c_run (H := K) (l := l) (a := a + n + 1) (c_lex_digit K) (by omega) (by omega)
    refine bndC_of (hcr _) ?_
    rw [runN_eq]
    have hpt : runF isDig (l.drop (a + n + 1)) = runF isDig ((l.drop a).drop (n + 1)) := by rw [List.drop_drop, Nat.add_assoc]
    have hnl : numLen (l.drop a) = if (((l.drop a)[n]?).any (fun e => (e.toNat : Int) == 46) && decide (runF isDig (l.drop (a + n + 1)) > 0)) = true then n + (1 + runF isDig (l.drop (a + n + 1))) else n := by
      unfold numLen
      rw [hn, hpt]
    have hnle := numLen_le (l.drop a)
    rw [← hbr] at hw
    have hpl := runF_le isDig (l.drop (a + n + 1))
    rw [List.length_drop] at hpl
    generalize runF isDig (l.drop (a + n + 1)) = part at hnl hpl
    have fin : ∀ (m : Nat) (X : AHeap) (c0 c1 c2 : Value) (s2 s3 s5 s8 s9 s10 s11 s12 s13 s14 s15 s16 s17 s18 s19 s20 s21 s22 s23 s24 s25 s26 s27 s28 s29 s30 s31 s32 s33 s34 s35 s36 s37 s38 s39 s40 s41 s42 s43 s44 s45 s46 s47 s48 s49 s50 s51 s52 s53 s54 s55 s56 s57 s58 s59 s60 s61 s62 s63 s64 s65 s66 s67 s68 s69 s70 s71 s72 s73 s74 s75 s76 s77 s78 s79 s80 s81 s82 s83 s84 : Value), numLen (l.drop a) = m →
        S66x0 (Same (.tuple #[.agg w.1.cells.toArray, i64 w.2]) H) [str l, i64 a, s2, s3, .pointer (some ⟨H.length, 0, some 3⟩), s5, .pointer (some ⟨H.length + 1, 0, some 3⟩), i64 m, s8, s9, s10, s11, s12, s13, s14, s15, s16, s17, s18, s19, s20, s21, s22, s23, s24, s25, s26, s27, s28, s29, s30, s31, s32, s33, s34, s35, s36, s37, s38, s39, s40, s41, s42, s43, s44, s45, s46, s47, s48, s49, s50, s51, s52, s53, s54, s55, s56, s57, s58, s59, s60, s61, s62, s63, s64, s65, s66, s67, s68, s69, s70, s71, s72, s73, s74, s75, s76, s77, s78, s79, s80, s81, s82, s83, s84] (H ++ .cells [c0, c1, c2] 70 :: .cells [.int .u8 2, str [], i64 a] 70 :: X) := by
      intro m X c0 c1 c2 s2 s3 s5 s8 s9 s10 s11 s12 s13 s14 s15 s16 s17 s18 s19 s20 s21 s22 s23 s24 s25 s26 s27 s28 s29 s30 s31 s32 s33 s34 s35 s36 s37 s38 s39 s40 s41 s42 s43 s44 s45 s46 s47 s48 s49 s50 s51 s52 s53 s54 s55 s56 s57 s58 s59 s60 s61 s62 s63 s64 s65 s66 s67 s68 s69 s70 s71 s72 s73 s74 s75 s76 s77 s78 s79 s80 s81 s82 s83 s84 hm
      refine one_tail (n := m) hl (by omega) rfl ?_ X _ _ _ _ _ _ _ _ _ _ _ _ _ _ _ _ _ _ _ _ _ _ _ _ _ _ _ _ _ _ _ _ _ _ _ _ _ _ _ _ _ _ _ _ _ _ _ _ _ _ _ _ _ _ _ _ _ _ _ _ _ _ _ _ _ _ _ _ _ _ _ _ _ _ _ _ _ _ _ _ _ _ _
      intro K hp
      refine ⟨?_, hp⟩
      rw [← hw, hm]
    rw [List.getElem?_drop] at hnl
    by_cases hlt : a + n < l.length
    · have hlI : (a : Int) + n < l.length := by omega
      obtain ⟨e, he⟩ : ∃ e, l[a + n]? = some e := ⟨_, List.getElem?_eq_getElem hlt⟩
      have hie := aIndex_at (P := Tryz.prog) (T := 9) (k := .i64) (by simp) he
      rw [he] at hnl
      simp only [Int.natCast_add] at hwr hie
      simp +contextual [hwr, hlI, hie]
      refine kifB_bool (fun h => ?_) (fun h => ?_)
      · rw [if_pos (by simpa using h)] at hnl
        have w1 : IntKind.i64.wrap (1 + (part : Int)) = ((1 + part : Nat) : Int) := by rw [wrap_i64 (by omega) (by omega)]; simp
        have w2 : IntKind.i64.wrap ((n : Int) + ((1 + part : Nat) : Int)) = ((n + (1 + part) : Nat) : Int) := by rw [wrap_i64 (by omega) (by omega)]; simp
        simp only [aBin_add, w1, w2, bnd_some]
        exact fin _ [] _ _ _ _ _ _ _ _ _ _ _ _ _ _ _ _ _ _ _ _ _ _ _ _ _ _ _ _ _ _ _ _ _ _ _ _ _ _ _ _ _ _ _ _ _ _ _ _ _ _ _ _ _ _ _ _ _ _ _ _ _ _ _ _ _ _ _ _ _ _ _ _ _ _ _ _ _ _ _ _ _ _ _ hnl
      · rw [if_neg (by simpa using h)] at hnl
        exact fin _ [] _ _ _ _ _ _ _ _ _ _ _ _ _ _ _ _ _ _ _ _ _ _ _ _ _ _ _ _ _ _ _ _ _ _ _ _ _ _ _ _ _ _ _ _ _ _ _ _ _ _ _ _ _ _ _ _ _ _ _ _ _ _ _ _ _ _ _ _ _ _ _ _ _ _ _ _ _ _ _ _ _ _ _ hnl
    · have hlI : ¬ ((a : Int) + n < l.length) := by omega
      have : l[a + n]? = none := List.getElem?_eq_none (by omega)
      rw [this] at hnl
      simp at hnl
      simp only [Int.natCast_add] at hwr
      simp [hwr, hlI]
      exact fin _ [] _ _ _ _ _ _ _ _ _ _ _ _ _ _ _ _ _ _ _ _ _ _ _ _ _ _ _ _ _ _ _ _ _ _ _ _ _ _ _ _ _ _ _ _ _ _ _ _ _ _ _ _ _ _ _ _ _ _ _ _ _ _ _ _ _ _ _ _ _ _ _ _ _ _ _ _ _ _ _ _ _ _ _ hnl
  rw [if_neg (by simp [h2])] at hw
  simp [hix]
  refine kifB_bool (fun h3 => ?_) (fun h3 => ?_)
  · rw [if_pos h3] at hw
    simp
    have ht := fun K : AHeap => c_text (H := K) (l := l) (a := a) hl ha
    rw [hd1] at ht
    refine bndC_of (ht _) ?_
    simp [Tok.cells]
    rw [← hw]
    exact ⟨⟨rfl, rfl, rfl⟩, rfl⟩
  · rw [if_neg (by simp [h3])] at hw
    simp
    refine bndC_of (c_sign hl ha) ?_
    simp
    have hle := signF_le (l.drop a)
    refine one_tail (n := signF (l.drop a)) hl (by omega) rfl ?_ [] _ _ _ _ _ _ _ _ _ _ _ _ _ _ _ _ _ _ _ _ _ _ _ _ _ _ _ _ _ _ _ _ _ _ _ _ _ _ _ _ _ _ _ _ _ _ _ _ _ _ _ _ _ _ _ _ _ _ _ _ _ _ _ _ _ _ _ _ _ _ _ _ _ _ _ _ _ _ _ _ _ _ _
    intro K hp
    refine ⟨?_, hp⟩
    rw [← hw, ← hbr]
end Go.Vi
namespace Go.Vi
open Go Go.Proofs

def blanks : List UInt8 := [32, 9, 10, 13]
def notNl (b : UInt8) : Bool := (b.toNat : Int) != 10
/-- How many bytes lie ahead of the next token. -/
def skipF : Nat → List UInt8 → Nat
  | 0, _ => 0
  | _ + 1, [] => 0
  | f + 1, b :: r => if hasB blanks b = true then 1 + skipF f r
    else if ((b.toNat : Int) == 35) = true then runF notNl (b :: r) + skipF f ((b :: r).drop (runF notNl (b :: r)))
    else 0
theorem skipF_le : ∀ (f : Nat) (s : List UInt8), skipF f s ≤ s.length := by
  intro f
  induction f with
  | zero => intro s; simp [skipF]
  | succ f ih =>
    intro s
    cases s with
    | nil => simp [skipF]
    | cons b r =>
      simp only [skipF]
      split
      · have := ih r; simp; omega
      · split
        · have h1 := ih ((b :: r).drop (runF notNl (b :: r)))
          have h2 := runF_le notNl (b :: r)
          rw [List.length_drop] at h1
          omega
        · simp
theorem skip_loop {l : List UInt8} {H : AHeap} {k : Value → AHeap → Prop} (hl : l.length < 2 ^ 40) (w : Nat) (hk : k (i64 w) H) :
    ∀ (f : Nat) (a : Nat) (s2 s3 s4 s5 s6 s7 s8 s9 s10 s11 s12 s13 s14 s15 s16 s17 s18 s19 s20 s21 s22 s23 s24 s25 s26 s27 s28 : Value), (l.drop a).length ≤ f → a ≤ l.length → w = a + skipF f (l.drop a) →
      L65x0 (f + 1) k [str l, i64 a, s2, s3, s4, s5, s6, s7, s8, s9, s10, s11, s12, s13, s14, s15, s16, s17, s18, s19, s20, s21, s22, s23, s24, s25, s26, s27, s28] H := by
  intro f
  induction f with
  | zero =>
    intro a s2 s3 s4 s5 s6 s7 s8 s9 s10 s11 s12 s13 s14 s15 s16 s17 s18 s19 s20 s21 s22 s23 s24 s25 s26 s27 s28 hf ha hw
    rw [List.length_drop] at hf
    rw [L65x0q]
    have : ¬ a < l.length := by omega
    simp [this]
    simp [skipF] at hw
    rw [← hw]; exact hk
  | succ f ih =>
    intro a s2 s3 s4 s5 s6 s7 s8 s9 s10 s11 s12 s13 s14 s15 s16 s17 s18 s19 s20 s21 s22 s23 s24 s25 s26 s27 s28 hf ha hw
    rw [L65x0q]
    by_cases hlt : a < l.length
    · obtain ⟨b, r, hbr⟩ : ∃ b r, l.drop a = b :: r := by
        cases h : l.drop a with
        | nil => simp at h; omega
        | cons b r => exact ⟨b, r, rfl⟩
      have hb : l[a]? = some b := by rw [← List.head?_drop, hbr]; rfl
      have hix := aIndex_at (P := Tryz.prog) (T := 9) (k := .i64) (by simp) hb
      have hd1 : l.drop (a + 1) = r := by rw [← List.drop_drop, hbr]; rfl
      rw [hbr, skipF] at hw
      simp [hlt, hix]
      refine bndC_of (c_indexByte _ _ _) ?_
      simp
      refine kifB_bool (fun h => ?_) (fun h => ?_)
      · rw [if_pos (by simpa [hasB, blanks] using h)] at hw
        simp [show a + 1 < 2 ^ 63 by omega]
        exact ih (a + 1) _ _ _ _ _ _ _ _ _ _ _ _ _ _ _ _ _ _ _ _ _ _ _ _ _ _ _ (by rw [hbr] at hf; rw [hd1]; simp at hf; exact hf) hlt (by rw [hw, hd1]; omega)
      rw [if_neg (by simpa [hasB, blanks] using h)] at hw
      simp [hix]
      refine kifB_bool (fun h => ?_) (fun h => ?_)
      · rw [if_pos h] at hw
        refine bndC_of (c_run (p := notNl) (c_skip1 _) (by omega) (by omega)) ?_
        have hrl := runF_le notNl (l.drop a)
        rw [List.length_drop] at hrl
        have hpos : 1 ≤ runF notNl (l.drop a) := by
          rw [hbr]
          have : notNl b = true := by
            have : (b.toNat : Int) = 35 := by simpa using h
            simp [notNl, this]
          simp [runF, this]
        rw [runN_eq]
        rw [← hbr] at hw
        generalize hm : runF notNl (l.drop a) = m at hw hrl hpos
        have hwr : IntKind.i64.wrap ((a : Int) + m) = ((a + m : Nat) : Int) := by rw [wrap_i64 (by omega) (by omega)]; simp
        simp only [aBin_add, hwr, bnd_some]
        rw [List.drop_drop] at hw
        exact ih (a + m) _ _ _ _ _ _ _ _ _ _ _ _ _ _ _ _ _ _ _ _ _ _ _ _ _ _ _ (by rw [List.length_drop] at hf ⊢; omega) (by omega) (by rw [hw]; omega)
      · rw [if_neg (by simp [h])] at hw
        simp at hw
        simp
        rw [← hw]; exact hk
    · have : l.drop a = [] := by simp; omega
      rw [this, skipF] at hw
      simp [hlt]
      simp at hw
      rw [← hw]; exact hk
/-- Where the next token begins. -/
def skipN (l : List UInt8) (a : Nat) : Nat := a + skipF (l.length - a) (l.drop a)
theorem skipN_le {l : List UInt8} {a : Nat} (h : a ≤ l.length) : skipN l a ≤ l.length := by
  have := skipF_le (l.length - a) (l.drop a)
  rw [List.length_drop] at this
  unfold skipN; omega
theorem c_skip {H : AHeap} {l : List UInt8} {a : Nat} (hl : l.length < 2 ^ 40) (ha : a ≤ l.length) : ACalls Tryz.prog 65 [str l, i64 a] H (i64 (skipN l a)) H := by
  refine acalls_pure MixT Tryz.func65 (by decide) rfl ?_
  rw [d65]
  exact ⟨_, skip_loop (k := Same (i64 (skipN l a)) H) hl (skipN l a) ⟨rfl, [], by simp⟩ (l.length - a) a _ _ _ _ _ _ _ _ _ _ _ _ _ _ _ _ _ _ _ _ _ _ _ _ _ _ _ (by simp) ha rfl⟩

/-! ### A round, whatever it comes to -/
theorem kround_one {P : Program} {b args H} {k : Value → AHeap → Prop} (h : kround P b args H k) : ∃ v H', k v H' ∧ kround P b args H fun u H2 => u = v ∧ H2 = H' := by
  unfold kround at h
  split at h
  case h_2 => cases h
  rename_i sl ps assign body pe hb
  obtain ⟨hl, hx⟩ := h
  obtain ⟨e1, s1, H1, ⟨rfl, hb1, hx1⟩, hy⟩ := kx_one _ hx
  obtain ⟨e2, s2, H2, ⟨hb2, hk⟩, hz⟩ := kx_one _ hx1
  refine ⟨_, _, hk, ?_⟩
  unfold kround
  rw [hb]
  refine ⟨hl, kx_mono _ ?_ hy⟩
  rintro e sl H ⟨rfl, rfl, rfl⟩
  refine ⟨rfl, hb1, kx_mono _ ?_ hz⟩
  rintro e sl H ⟨rfl, rfl, rfl⟩
  exact ⟨hb2, rfl, rfl⟩
theorem ayields_ex {P : Program} (hm : P.follows .mixedOrders = true) {b args H} {k : Value → AHeap → Prop} (h : kround P b args H k) : ∃ v H', k v H' ∧ AYields P b args H v H' := by
  obtain ⟨v, H', h1, h2⟩ := kround_one h
  exact ⟨v, H', h1, ayields_of hm h2⟩

/-! ### One outcome, where the drawn regions have one -/
structure OneD (D : DrawK) : Prop where
  mono : ∀ {ops} {k k' : List Value → AHeap → Prop} {sl H}, (∀ s h, k s h → k' s h) → D ops k sl H → D ops k' sl H
  one : ∀ {ops} {k : List Value → AHeap → Prop} {sl H}, D ops k sl H → ∃ sl' H', k sl' H' ∧ D ops (fun s h => s = sl' ∧ h = H') sl H
section
variable {P : Program}
theorem drawStd_one : OneD (drawStd P) := by
  constructor
  · intro ops k k' sl H hk h
    unfold drawStd at h ⊢
    split at h
    · exact kdraw_mono hk _ _ h
    · cases h
  · intro ops k sl H h
    unfold drawStd at h ⊢
    split at h
    · exact kdraw_one _ _ h
    · cases h
variable {D : DrawK}
theorem kloopG_mono {f : List Value → AHeap → List Nat → KontG → Prop} (hm : ∀ {sl H m} {k k' : KontG}, (∀ e sl H m, k e sl H m → k' e sl H m) → f sl H m k → f sl H m k') :
    ∀ (n : Nat) {sl H m} {k k' : KontG}, (∀ e sl H m, k e sl H m → k' e sl H m) → kloopG f n sl H m k → kloopG f n sl H m k' := by
  intro n
  induction n with
  | zero => intro sl H m k k' _ h; cases h
  | succ n ih =>
    intro sl H m k k' hk h
    simp only [kloopG] at h ⊢
    refine hm ?_ h
    intro e sl H m h
    cases e with
    | normal => exact ih hk h
    | exit i => exact hk _ _ _ _ h
    | ret => exact hk _ _ _ _ h
theorem kjump_mono {k k' : KontG} (hk : ∀ e sl H m, k e sl H m → k' e sl H m) {sl H m pe} (h : kjump k sl H m pe) : kjump k' sl H m pe := by
  unfold kjump at h ⊢
  split at h
  · exact hk _ _ _ _ h
  · exact hk _ _ _ _ h
  · exact hk _ _ _ _ h
  · cases h
theorem kxG_mono (hD : OneD D) : ∀ (c : Code) {sl H m} {k k' : KontG}, (∀ e sl H m, k e sl H m → k' e sl H m) → kxG P D c sl H m k → kxG P D c sl H m k' := by
  intro c
  induction c with
  | skip => intro sl H m k k' hk h; exact hk _ _ _ _ h
  | label l => intro sl H m k k' hk h; exact hk _ _ _ _ h
  | region id ops draw =>
    intro sl H m k k' hk h
    cases draw with
    | false => exact kops_mono (fun s h => hk .normal s h m) _ h
    | true => exact hD.mono (fun s h => hk .normal s h m) h
  | seq x y ihx ihy =>
    intro sl H m k k' hk h
    refine ihx ?_ h
    intro e sl H m h
    cases e with
    | normal => exact ihy hk h
    | exit i => exact hk _ _ _ _ h
    | ret => exact hk _ _ _ _ h
  | cond c x y ihx ihy =>
    intro sl H m k k' hk h
    simp only [kxG] at h ⊢
    split at h
    · unfold kif at h ⊢
      split at h
      · split at h
        · rename_i q; simp only [if_pos q]; exact ihx hk h
        · rename_i q; simp only [if_neg q]; exact ihy hk h
      · cases h
    · cases h
  | block id c ih =>
    intro sl H m k k' hk h
    refine ih ?_ h
    intro e sl H m h
    cases e with
    | normal => exact hk _ _ _ _ h
    | exit i =>
      simp only [kblkG] at h ⊢
      split at h
      · rename_i q; rw [if_pos q]; exact hk _ _ _ _ h
      · rename_i q; rw [if_neg q]; exact hk _ _ _ _ h
    | ret => exact hk _ _ _ _ h
  | exit id => intro sl H m k k' hk h; exact hk _ _ _ _ h
  | ret => intro sl H m k k' hk h; exact hk _ _ _ _ h
  | loop c ih =>
    intro sl H m k k' hk h
    obtain ⟨n, h⟩ := h
    exact ⟨n, kloopG_mono (f := kxG P D c) (fun hk h => ih hk h) n hk h⟩
  | rangeFunc g ps assign body _ _ =>
    intro sl H m k k' hk h
    simp only [kxG] at h ⊢
    split at h
    · unfold krange at h ⊢
      split at h
      · obtain ⟨h1, h2, v, H', h3, h4⟩ := h
        refine ⟨h1, h2, v, H', h3, ?_⟩
        unfold rngEnd at h4 ⊢
        split at h4
        · exact ⟨h4.1, kjump_mono hk h4.2⟩
        · cases h4
      · cases h
    · cases h
  | _ => intro sl H m k k' hk h; cases h
def kisG (e : AExit) (sl : List Value) (H : AHeap) (m : List Nat) : KontG := fun e2 s2 h2 m2 => e2 = e ∧ s2 = sl ∧ h2 = H ∧ m2 = m
theorem kloopG_one {f : List Value → AHeap → List Nat → KontG → Prop} (hf : ∀ {sl H m} {k : KontG}, f sl H m k → ∃ e sl' H' m', k e sl' H' m' ∧ f sl H m (kisG e sl' H' m'))
    (hm : ∀ {sl H m} {k k' : KontG}, (∀ e sl H m, k e sl H m → k' e sl H m) → f sl H m k → f sl H m k') :
    ∀ (n : Nat) {sl H m} {k : KontG}, kloopG f n sl H m k → ∃ e sl' H' m', k e sl' H' m' ∧ kloopG f n sl H m (kisG e sl' H' m') := by
  intro n
  induction n with
  | zero => intro sl H m k h; cases h
  | succ n ih =>
    intro sl H m k h
    simp only [kloopG] at h
    obtain ⟨e, s1, h1, m1, hk, hf1⟩ := hf h
    cases e with
    | normal =>
      obtain ⟨e2, s2, h2, m2, hk2, hf2⟩ := ih hk
      refine ⟨e2, s2, h2, m2, hk2, ?_⟩
      simp only [kloopG]
      refine hm ?_ hf1
      rintro e sl H m ⟨rfl, rfl, rfl, rfl⟩
      exact hf2
    | exit i =>
      refine ⟨.exit i, s1, h1, m1, hk, ?_⟩
      simp only [kloopG]
      refine hm ?_ hf1
      rintro e sl H m ⟨rfl, rfl, rfl, rfl⟩
      exact ⟨rfl, rfl, rfl, rfl⟩
    | ret =>
      refine ⟨.ret, s1, h1, m1, hk, ?_⟩
      simp only [kloopG]
      refine hm ?_ hf1
      rintro e sl H m ⟨rfl, rfl, rfl, rfl⟩
      exact ⟨rfl, rfl, rfl, rfl⟩
theorem kxG_one (hD : OneD D) : ∀ (c : Code) {sl H m} {k : KontG}, kxG P D c sl H m k → ∃ e sl' H' m', k e sl' H' m' ∧ kxG P D c sl H m (kisG e sl' H' m') := by
  intro c
  induction c with
  | skip => intro sl H m k h; exact ⟨_, _, _, _, h, rfl, rfl, rfl, rfl⟩
  | label l => intro sl H m k h; exact ⟨_, _, _, _, h, rfl, rfl, rfl, rfl⟩
  | region id ops draw =>
    intro sl H m k h
    cases draw with
    | false =>
      obtain ⟨a, b, h1, h2⟩ := kops_one (k := fun s h => k .normal s h m) _ h
      exact ⟨.normal, a, b, m, h1, kops_mono (fun _ _ q => ⟨rfl, q.1, q.2, rfl⟩) _ h2⟩
    | true =>
      obtain ⟨a, b, h1, h2⟩ := hD.one h
      exact ⟨.normal, a, b, m, h1, hD.mono (fun _ _ q => ⟨rfl, q.1, q.2, rfl⟩) h2⟩
  | seq x y ihx ihy =>
    intro sl H m k h
    obtain ⟨e, s1, h1, m1, hk, hx⟩ := ihx h
    cases e with
    | normal =>
      obtain ⟨e2, s2, h2, m2, hk2, hy⟩ := ihy hk
      refine ⟨e2, s2, h2, m2, hk2, kxG_mono hD x ?_ hx⟩
      rintro e sl H m ⟨rfl, rfl, rfl, rfl⟩
      exact hy
    | exit i =>
      refine ⟨.exit i, s1, h1, m1, hk, kxG_mono hD x ?_ hx⟩
      rintro e sl H m ⟨rfl, rfl, rfl, rfl⟩
      exact ⟨rfl, rfl, rfl, rfl⟩
    | ret =>
      refine ⟨.ret, s1, h1, m1, hk, kxG_mono hD x ?_ hx⟩
      rintro e sl H m ⟨rfl, rfl, rfl, rfl⟩
      exact ⟨rfl, rfl, rfl, rfl⟩
  | cond c x y ihx ihy =>
    intro sl H m k h
    simp only [kxG] at h
    split at h
    · rename_i v hv
      unfold kif at h
      split at h
      · split at h
        · rename_i q
          obtain ⟨e, s1, h1, m1, hk, hx⟩ := ihx h
          refine ⟨e, s1, h1, m1, hk, ?_⟩
          simp only [kxG, hv, kif, if_pos q]; exact hx
        · rename_i q
          obtain ⟨e, s1, h1, m1, hk, hx⟩ := ihy h
          refine ⟨e, s1, h1, m1, hk, ?_⟩
          simp only [kxG, hv, kif, if_neg q]; exact hx
      · cases h
    · cases h
  | block id c ih =>
    intro sl H m k h
    obtain ⟨e, s1, h1, m1, hk, hx⟩ := ih h
    cases e with
    | normal =>
      refine ⟨.normal, s1, h1, m1, hk, kxG_mono hD c ?_ hx⟩
      rintro e sl H m ⟨rfl, rfl, rfl, rfl⟩
      exact ⟨rfl, rfl, rfl, rfl⟩
    | exit i =>
      simp only [kblkG] at hk
      split at hk
      · rename_i q
        refine ⟨.normal, s1, h1, m1, hk, kxG_mono hD c ?_ hx⟩
        rintro e sl H m ⟨rfl, rfl, rfl, rfl⟩
        simp only [kblkG, if_pos q]
        exact ⟨rfl, rfl, rfl, rfl⟩
      · rename_i q
        refine ⟨.exit i, s1, h1, m1, hk, kxG_mono hD c ?_ hx⟩
        rintro e sl H m ⟨rfl, rfl, rfl, rfl⟩
        simp only [kblkG, if_neg q]
        exact ⟨rfl, rfl, rfl, rfl⟩
    | ret =>
      refine ⟨.ret, s1, h1, m1, hk, kxG_mono hD c ?_ hx⟩
      rintro e sl H m ⟨rfl, rfl, rfl, rfl⟩
      exact ⟨rfl, rfl, rfl, rfl⟩
  | exit id => intro sl H m k h; exact ⟨_, _, _, _, h, rfl, rfl, rfl, rfl⟩
  | ret => intro sl H m k h; exact ⟨_, _, _, _, h, rfl, rfl, rfl, rfl⟩
  | loop c ih =>
    intro sl H m k h
    obtain ⟨n, h⟩ := h
    obtain ⟨e, s1, h1, m1, hk, hx⟩ := kloopG_one (f := kxG P D c) (fun h => ih h) (fun hk h => kxG_mono hD c hk h) n h
    exact ⟨e, s1, h1, m1, hk, n, hx⟩
  | rangeFunc g ps assign body _ _ =>
    intro sl H m k h
    simp only [kxG] at h
    split at h
    · rename_i gv hg
      unfold krange at h
      split at h
      · obtain ⟨h1, h2, v, H', h3, h4⟩ := h
        unfold rngEnd at h4
        split at h4
        · rename_i hob
          obtain ⟨hst, hj⟩ := h4
          unfold kjump at hj
          have mk : ∀ (e : AExit), (∀ (k : KontG) sl H m, kjump k sl H m (jumpOf e) = k e sl H m) → True := fun _ _ => trivial
          split at hj
          · refine ⟨_, _, _, _, hj, ?_⟩
            simp only [kxG, hg, krange]
            refine ⟨h1, h2, v, H', h3, ?_⟩
            unfold rngEnd
            rw [hob]
            exact ⟨hst, rfl, rfl, rfl, rfl⟩
          · refine ⟨_, _, _, _, hj, ?_⟩
            simp only [kxG, hg, krange]
            refine ⟨h1, h2, v, H', h3, ?_⟩
            unfold rngEnd
            rw [hob]
            exact ⟨hst, rfl, rfl, rfl, rfl⟩
          · refine ⟨_, _, _, _, hj, ?_⟩
            simp only [kxG, hg, krange]
            refine ⟨h1, h2, v, H', h3, ?_⟩
            unfold rngEnd
            rw [hob]
            exact ⟨hst, rfl, rfl, rfl, rfl⟩
          · cases hj
        · cases h4
      · cases h
    · cases h
  | _ => intro sl H m k h; cases h
theorem kmarks_one {k : AHeap → Prop} : ∀ (m : List Nat) {H}, kmarks k m H → ∃ H', k H' ∧ kmarks (fun h => h = H') m H := by
  intro m
  induction m with
  | nil => intro H h; exact ⟨H, h, rfl⟩
  | cons b r ih =>
    intro H h
    obtain ⟨h1, h2⟩ := h
    obtain ⟨H', q1, q2⟩ := ih h2
    exact ⟨H', q1, h1, q2⟩
theorem kmarks_mono {k k' : AHeap → Prop} (hk : ∀ h, k h → k' h) : ∀ (m : List Nat) {H}, kmarks k m H → kmarks k' m H := by
  intro m
  induction m with
  | nil => intro H h; exact hk _ h
  | cons b r ih => intro H h; exact ⟨h.1, ih h.2⟩
theorem kbodyG_one (hD : OneD D) {fn args H} {k : Value → AHeap → Prop} (h : kbodyG P D fn args H k) : ∃ v H', k v H' ∧ kbodyG P D fn args H fun u H2 => u = v ∧ H2 = H' := by
  unfold kbodyG at h
  split at h
  · rename_i c hb
    obtain ⟨e, s1, h1, m1, hk, hx⟩ := kxG_one hD c h
    have fin : ∀ {e}, kxG P D c (args ++ List.replicate (fn.ntmps - args.length) undef) H [] (kisG e s1 h1 m1) → (e = .normal ∨ e = .ret) → kmarks (fun H2 => kres P s1 H2 fn.results.toList fun l => k (retV l) H2) m1 h1 →
        ∃ v H', k v H' ∧ kbodyG P D fn args H fun u H2 => u = v ∧ H2 = H' := by
      intro e hx he hk
      obtain ⟨H2, q1, q2⟩ := kmarks_one _ hk
      obtain ⟨l, q3, q4⟩ := kres_one _ q1
      refine ⟨retV l, H2, q3, ?_⟩
      unfold kbodyG
      rw [hb]
      refine kxG_mono hD c ?_ hx
      rintro e2 sl H3 m3 ⟨rfl, rfl, rfl, rfl⟩
      have key : kmarks (fun H2 => kres P sl H2 fn.results.toList fun l' => retV l' = retV l ∧ H2 = H2) m3 H3 → True := fun _ => trivial
      rcases he with rfl | rfl <;> exact kmarks_mono (fun h hh => by subst hh; exact kres_weak _ (fun l' h => ⟨by rw [h], rfl⟩) q4) _ q2
    cases e with
    | normal => exact fin hx (.inl rfl) hk
    | ret => exact fin hx (.inr rfl) hk
    | exit i => cases hk
  · cases h
theorem acallsG_ex (hm : P.follows .mixedOrders = true) {f fn args H} {k : Value → AHeap → Prop} (hf : P.funcs[f]? = some fn) (hn : notNG fn = true) (hr : kbodyG P (drawStd P) fn args H k) : ∃ v H', k v H' ∧ ACalls P f args H v H' := by
  obtain ⟨v, H', h1, h2⟩ := kbodyG_one drawStd_one hr
  exact ⟨v, H', h1, acallsG_of (fun c => @drawStd_sound P c hm) hf hn h2⟩
end

/-! ### A slice of one thing -/
theorem foldl_put : ∀ (c : List Value) (k : Nat) (cells : List Value), k + c.length ≤ cells.length →
    (c.zipIdx k).foldl (fun (cs : Array Value) (p : Value × Nat) => cs.setIfInBounds p.2 p.1) cells.toArray = (cells.take k ++ c ++ cells.drop (k + c.length)).toArray := by
  intro c
  induction c with
  | nil => intro k cells _; simp
  | cons v r ih =>
    intro k cells h
    simp only [List.length_cons] at h
    simp only [List.zipIdx_cons, List.foldl_cons, List.setIfInBounds_toArray]
    have := ih (k + 1) (cells.set k v) (by simp; omega)
    rw [this]
    congr 1
    rw [List.take_set, List.set_eq_take_append_cons_drop, if_pos (by rw [List.length_take]; omega), List.drop_set_of_lt (by omega)]
    simp [List.take_take, Nat.add_assoc, Nat.add_comm 1]
theorem sliceLitA {P : Program} {H : AHeap} {T e : TypeId} {zs : Array Value} {c : List Value} (hs : aBuildSlice P H T 1 [(0, .agg c.toArray)] = bslV e zs H 1 [(0, .agg c.toArray)]) (hz : c.length = zs.size) (ho : ∀ v ∈ c, v.oneCell' = true) (hb : zs.size ≤ 16777216) :
    sliceLit P H T 1 [(0, .agg c.toArray)] (.slice (some ⟨H.length, 0, some c.length⟩) 1 1) (H ++ [.cells c e]) := by
  refine ⟨?_, ?_⟩
  · simpa [storable] using ho
  · rw [hs]
    unfold bslV
    have hr : (repCells zs (1 * zs.size)).size = zs.size := by simp [repCells]
    have hf : Instr.fill (fun i => some (i * zs.size, zs.size)) (repCells zs (1 * zs.size)) [(0, .agg c.toArray)] = some c.toArray := by
      generalize hR : repCells zs (1 * zs.size) = R at hr
      obtain ⟨R⟩ := R
      simp only [List.size_toArray] at hr
      simp only [Instr.fill, cells_agg, List.size_toArray, hz, Nat.zero_mul]
      rw [if_neg (by simp; omega)]
      have := foldl_put c 0 R (by omega)
      rw [List.take_zero, List.nil_append, Nat.zero_add, List.drop_eq_nil_of_le (by omega), List.append_nil] at this
      refine congrArg some (Eq.trans ?_ this)
      rw [← Array.foldl_toList]
      simp
    rw [hf, if_pos (by omega)]
    simp only [List.size_toArray]
    rw [if_pos ⟨by omega, by simpa using ho⟩]

/-! ### A slice that grows by one thing at a time -/
inductive Gro (K : AHeap) (lo z : Nat) (T : TypeId) : Value → List (List Value) → Prop
  | nil : Gro K lo z T (.slice none 0 0) []
  | mk (bb : Nat) (cl : List (List Value)) (h1 : lo ≤ bb) (h2 : K[bb]? = some (.cells cl.flatten T)) (h3 : cl ≠ []) (h4 : ∀ c ∈ cl, c.length = z) : Gro K lo z T (.slice (some ⟨bb, 0, some (cl.length * z)⟩) cl.length cl.length) cl
theorem Gro.one {K lo z T v cl} (h : Gro K lo z T v cl) : v.oneCell' = true := by cases h <;> rfl
theorem Gro.cells {K lo z T v cl} (h : Gro K lo z T v cl) : v.cells = #[v] := by cases h <;> rfl
theorem Gro.stor {K lo z T v cl} (h : Gro K lo z T v cl) : storable v = true := by cases h <;> rfl
theorem Gro.app {K lo z T v cl} {X : AHeap} (h : Gro K lo z T v cl) : Gro (K ++ X) lo z T v cl := by
  cases h with
  | nil => exact .nil
  | mk bb cl h1 h2 h3 h4 => exact .mk bb cl h1 (get_more h2) h3 h4
theorem Gro.set {K lo z T v cl} {b : Nat} {o : AObj} (h : Gro K lo z T v cl) (hb : b < lo) : Gro (K.set b o) lo z T v cl := by
  cases h with
  | nil => exact .nil
  | mk bb cl h1 h2 h3 h4 => exact .mk bb cl h1 (by rw [List.getElem?_set_ne (by omega)]; exact h2) h3 h4
theorem flat_len {z : Nat} : ∀ {cl : List (List Value)}, (∀ c ∈ cl, c.length = z) → cl.flatten.length = cl.length * z := by
  intro cl
  induction cl with
  | nil => intro _; simp
  | cons c r ih =>
    intro h
    rw [List.flatten_cons, List.length_append, ih fun x hx => h x (by simp [hx]), h c (by simp), List.length_cons, Nat.add_mul]
    omega
theorem flat_at {z : Nat} : ∀ {cl : List (List Value)} {i : Nat} {e : List Value}, (∀ c ∈ cl, c.length = z) → cl[i]? = some e → (cl.flatten.drop (i * z)).take z = e := by
  intro cl
  induction cl with
  | nil => intro i e _ h; simp at h
  | cons c r ih =>
    intro i e h hi
    have hc := h c (by simp)
    cases i with
    | zero =>
      simp at hi
      subst hi
      rw [Nat.zero_mul, List.drop_zero, List.flatten_cons, List.take_append_of_le_length (by omega), List.take_of_length_le (by omega)]
    | succ i =>
      have := ih (fun x hx => h x (by simp [hx])) (by simpa using hi : r[i]? = some e)
      rw [List.flatten_cons, Nat.add_mul, Nat.one_mul, Nat.add_comm, ← List.drop_drop, List.drop_append_of_le_length (by omega)]
      rw [show c.drop z = [] by simp; omega, List.nil_append]
      exact this
theorem Gro.arr {K lo z T v cl} (h : Gro K lo z T v cl) : Arr K z v cl := by
  cases h with
  | nil => exact .nil
  | mk bb cl h1 h2 h3 h4 =>
    refine .mk bb 0 _ _ _ cl.flatten cl rfl (by simp [hcells, h2]) (flat_len h4) (by omega) fun i e hi => ?_
    rw [Nat.zero_add]
    exact flat_at h4 hi
/-- One thing more. -/
theorem Gro.push {P : Program} {K : AHeap} {lo z by_ : Nat} {T Ts : TypeId} {v x : Value} {cl : List (List Value)} {c : List Value} (h : Gro K lo z T v cl) (hT : aElem P Ts = some (T, z, by_)) (hsq : isSeq P Ts = true) (hc : c.length = z) (hlo : lo ≤ K.length)
    (hx : aSrc K z x = some (1, c)) (hb : (cl.length + 1) * by_ ≤ 140737488355328) (hn : cl.length + 1 ≤ 9223372036854775807) :
    ∃ v' K', aBuiltin P K .append #[Ts, Ts] [v, x] = some (v', K') ∧ Gro K' lo z T v' (cl ++ [c]) ∧ (∀ b o, b < lo → K[b]? = some o → K'[b]? = some o) ∧ K.length ≤ K'.length ∧ (∀ H, Pre H K → H.length ≤ lo → Pre H K') := by
  cases h with
  | nil =>
    refine ⟨.slice (some ⟨K.length, 0, some z⟩) 1 1, K ++ [.cells c T], ?_, ?_, fun b o hb ho => get_more ho, by simp, fun H p _ => p.more _⟩
    · have hb' : by_ ≤ 140737488355328 := by simpa using hb
      simp [aBuiltin, aAppend, hT, hx, hsq, hb', hc]
    · have := Gro.mk (K := K ++ [.cells c T]) (lo := lo) (z := z) (T := T) K.length [c] hlo (by simp) (by simp) (by simpa using hc)
      simpa using this
  | mk bb cl h1 h2 h3 h4 =>
    have hfl := flat_len h4
    have hlt := (List.getElem?_eq_some_iff.1 h2).1
    refine ⟨.slice (some ⟨bb, 0, some ((cl.length + 1) * z)⟩) (cl.length + 1) (cl.length + 1), K.set bb (.cells (cl ++ [c]).flatten T), ?_, ?_, fun b o hb ho => by rw [List.getElem?_set_ne (by omega)]; exact ho, by simp, fun H p hH => p.set (by omega)⟩
    · have e1 : cl.length * z = cl.flatten.length := hfl.symm
      have e2 : ¬ cl.length + 1 ≤ cl.length := by omega
      simp only [aBuiltin, aAppend, hT, hx, hsq, if_true, h2, hfl, Nat.zero_add, Nat.le_refl, and_self, e2, if_false, hb, hn]
      have e3 : (cl.flatten.take (cl.length * z)) = cl.flatten := List.take_of_length_le (by omega)
      rw [e3]
      simp
    · have := Gro.mk (K := K.set bb (.cells (cl ++ [c]).flatten T)) (lo := lo) (z := z) (T := T) bb (cl ++ [c]) h1 (List.getElem?_set_self hlt) (by simp) (by
        intro x hx
        rw [List.mem_append] at hx
        rcases hx with hx | hx
        · exact h4 x hx
        · simp at hx; rw [hx]; exact hc)
      simpa using this
end Go.Vi
namespace Go.Vi
open Go Go.Proofs

/-- The tokens from a place on at which one begins; where there is none. -/
def lexF (l : List UInt8) : Nat → Nat → List Tok × Option Nat
  | 0, _ => ([], none)
  | f + 1, a => if a < l.length then
      (if (oneF (l.drop a) a).2 = 0 then ([], some a)
       else ((oneF (l.drop a) a).1 :: (lexF l f (skipN l (a + (oneF (l.drop a) a).2))).1, (lexF l f (skipN l (a + (oneF (l.drop a) a).2))).2))
    else ([], none)
theorem oneF_le (s : List UInt8) (a : Nat) : (oneF s a).2 ≤ s.length := by
  unfold oneF
  cases s with
  | nil => simp
  | cons b r =>
    simp only
    split
    · exact runF_le _ _
    · split
      · exact numLen_le _
      · split
        · have := textF_len r.length r [] 1 (Nat.le_refl _); simp; omega
        · exact signF_le (b :: r)
theorem skipN_ge (l : List UInt8) (a : Nat) : a ≤ skipN l a := by unfold skipN; omega
theorem tell_loop {l : List UInt8} {sp : Nat} {rb : Nat} {J : List Tok → AHeap → Prop} {Jx : Nat → AHeap → Prop} {k : Value → AHeap → Prop} (hl : l.length ≤ 4096)
    (hJs : ∀ ts K, J ts K → hcells K sp = some [str l]) (hJr : ∀ ts K, J ts K → ∃ r, K[rb]? = some (.loop r)) (hJa : ∀ ts K X, J ts K → J ts (K ++ X))
    (hy : ∀ ts t K, J ts K → ts.length < 4096 → ∃ K', AYields Tryz.prog rb [.agg (Tok.cells t).toArray, i64 0] K (.bool true) K' ∧ J (ts ++ [t]) K')
    (hx : ∀ ts (a : Nat) K, J ts K → ∃ K', AYields Tryz.prog rb [.agg (Tok.cells ⟨0, [], a⟩).toArray, i64 90] K (.bool false) K' ∧ Jx a K')
    (w : List Tok × Option Nat) (hk1 : ∀ K, w.2 = none → J w.1 K → k (.tuple #[]) K) (hk2 : ∀ K a, w.2 = some a → Jx a K → k (.tuple #[]) K) :
    ∀ (f : Nat) (a : Nat) (ts : List Tok) (K : AHeap) (s2 s4 s5 s6 s7 s8 s9 s10 s11 s12 s13 s14 s15 s16 s17 s18 s19 s20 s21 s22 s23 s24 s25 s26 s27 s28 s29 s30 s31 s32 s33 s34 s35 s36 s37 s38 s39 : Value), l.length - a ≤ f → a ≤ l.length → ts.length ≤ a → J ts K → w = (ts ++ (lexF l f a).1, (lexF l f a).2) →
      L64x0 (f + 1) k [yval rb, .pointer (some ⟨sp, 0, some 1⟩), s2, i64 a, s4, s5, s6, s7, s8, s9, s10, s11, s12, s13, s14, s15, s16, s17, s18, s19, s20, s21, s22, s23, s24, s25, s26, s27, s28, s29, s30, s31, s32, s33, s34, s35, s36, s37, s38, s39] K := by
  intro f
  induction f with
  | zero =>
    intro a ts K s2 s4 s5 s6 s7 s8 s9 s10 s11 s12 s13 s14 s15 s16 s17 s18 s19 s20 s21 s22 s23 s24 s25 s26 s27 s28 s29 s30 s31 s32 s33 s34 s35 s36 s37 s38 s39 hf ha hts hJ hw
    have hc := hJs ts K hJ
    rw [L64x0q]
    have : ¬ a < l.length := by omega
    simp [hc, this]
    refine hk1 K ?_ ?_
    · rw [hw]; rfl
    · rw [hw]; simpa [lexF] using hJ
  | succ f ih =>
    intro a ts K s2 s4 s5 s6 s7 s8 s9 s10 s11 s12 s13 s14 s15 s16 s17 s18 s19 s20 s21 s22 s23 s24 s25 s26 s27 s28 s29 s30 s31 s32 s33 s34 s35 s36 s37 s38 s39 hf ha hts hJ hw
    have hc := hJs ts K hJ
    rw [L64x0q]
    by_cases hlt : a < l.length
    · simp [hc, hlt]
      refine bndC_of (c_one (by omega) hlt) ?_
      have hle := oneF_le (l.drop a) a
      rw [List.length_drop] at hle
      rw [lexF, if_pos hlt] at hw
      generalize oneF (l.drop a) a = o at hw hle ⊢
      obtain ⟨t, n⟩ := o
      simp only at hw hle
      simp [Tok.cells]
      refine kifB_bool (fun h => ?_) (fun h => ?_)
      · have hn : n = 0 := by simpa using h
        rw [if_pos hn] at hw
        obtain ⟨K', q1, q2⟩ := hx ts a _ (hJa ts K [.cells t.cells 70] hJ)
        simp
        refine bndV_yield (hJr ts _ (hJa ts K _ hJ)) (by simpa [Tok.cells] using q1) ?_
        exact hk2 K' a (by rw [hw]) q2
      · have hn : n ≠ 0 := by simpa using h
        rw [if_neg hn] at hw
        obtain ⟨K', q1, q2⟩ := hy ts t _ (hJa ts K [.cells t.cells 70] hJ) (by omega)
        simp
        refine bndV_yield (hJr ts _ (hJa ts K _ hJ)) (by simpa [Tok.cells] using q1) ?_
        have hc' := hJs _ K' q2
        have hwr : IntKind.i64.wrap ((a : Int) + n) = ((a + n : Nat) : Int) := by rw [wrap_i64 (by omega) (by omega)]; simp
        simp only [unV_not, bnd_some, Bool.not_true, kifB_false, aBin_add, hwr]
        simp [hc']
        refine bndC_of (c_skip (by omega) (by omega)) ?_
        have h1 := skipN_le (l := l) (a := a + n) (by omega)
        have h2 := skipN_ge l (a + n)
        exact ih (skipN l (a + n)) (ts ++ [t]) K' _ _ _ _ _ _ _ _ _ _ _ _ _ _ _ _ _ _ _ _ _ _ _ _ _ _ _ _ _ _ _ _ _ _ _ _ _ (by omega) h1 (by simp; omega) q2 (by rw [hw]; simp)
    · rw [lexF, if_neg hlt] at hw
      simp [hc, hlt]
      refine hk1 K ?_ ?_
      · rw [hw]
      · rw [hw]; simpa using hJ

theorem c_tell (H : AHeap) (l : List UInt8) : ACalls Tryz.prog 39 [str l] H (.func (.func 64) #[] #[.pointer (some ⟨H.length, 0, some 1⟩)]) (H ++ [.cells [str l] 9]) := by
  refine acalls_of MixT Tryz.func39 (by decide) ?_
  rw [d39]
  simp [aNew]
/-- All tokens, where there is none, an error. -/
def allTok (l : List UInt8) : List Tok × Nat × Int :=
  if 4096 < l.length then ([], 0, 3) else match (lexF l (l.length + 1) (skipN l 0)).2 with
    | none => ((lexF l (l.length + 1) (skipN l 0)).1, 0, 0)
    | some a => ([], a, 90)
theorem c_tell1 {l : List UInt8} {sp : Nat} {rb : Nat} {J : List Tok → AHeap → Prop} {Jx : Nat → Int → AHeap → Prop} {K : AHeap} 
    (hJs : ∀ ts K, J ts K → hcells K sp = some [str l]) (hJr : ∀ ts K, J ts K → ∃ r, K[rb]? = some (.loop r)) (hJa : ∀ ts K X, J ts K → J ts (K ++ X))
    (hy : ∀ ts t K, J ts K → ts.length < 4096 → ∃ K', AYields Tryz.prog rb [.agg (Tok.cells t).toArray, i64 0] K (.bool true) K' ∧ J (ts ++ [t]) K')
    (hx : ∀ ts (a : Nat) (e : Int) K, e ≠ 0 → J ts K → ∃ K', AYields Tryz.prog rb [.agg (Tok.cells ⟨0, [], a⟩).toArray, i64 e] K (.bool false) K' ∧ Jx a e K') (hJ : J [] K) :
    ∃ v K', (((allTok l).2.2 = 0 ∧ J (allTok l).1 K') ∨ ((allTok l).1 = [] ∧ (allTok l).2.2 ≠ 0 ∧ Jx (allTok l).2.1 (allTok l).2.2 K')) ∧ ACalls Tryz.prog 64 [yval rb, .pointer (some ⟨sp, 0, some 1⟩)] K v K' := by
  refine acalls_ex MixT Tryz.func64 (by decide) ?_
  rw [d64]
  have hc := hJs [] K hJ
  by_cases h4 : 4096 < l.length
  · have h4I : (4096 : Int) < l.length := by omega
    simp [hc, h4I]
    obtain ⟨K', q1, q2⟩ := hx [] 0 3 K (by simp) hJ
    refine bndV_yield (hJr [] K hJ) (by simpa [Tok.cells] using q1) ?_
    right
    simp [allTok, h4]
    exact q2
  · have h4I : ¬ (4096 : Int) < l.length := by omega
    simp [hc, h4I]
    have hs := c_skip (H := K) (l := l) (a := 0) (by omega) (by omega)
    rw [show ((0 : Nat) : Int) = 0 from rfl] at hs
    refine bndC_of hs ?_
    have h1 := skipN_le (l := l) (a := 0) (by omega)
    refine ⟨l.length + 1 + 1, tell_loop (J := J) (Jx := fun a K => Jx a 90 K) (by omega) hJs hJr hJa hy (fun ts a K h => hx ts a 90 K (by simp) h) (lexF l (l.length + 1) (skipN l 0)) ?_ ?_ (l.length + 1) (skipN l 0) [] K _ _ _ _ _ _ _ _ _ _ _ _ _ _ _ _ _ _ _ _ _ _ _ _ _ _ _ _ _ _ _ _ _ _ _ _ _ (by omega) h1 (by simp) hJ (by simp)⟩
    · intro K' e1 e2
      left
      simp [allTok, h4, e1]
      exact e2
    · intro K' a e1 e2
      right
      simp [allTok, h4, e1]
      exact e2

/-- Tokens in memory. -/
def ToksAt (H : AHeap) (v : Value) (ts : List Tok) : Prop := Arr H 3 v (ts.map Tok.cells)
structure AllJ (H : AHeap) (l : List UInt8) (sl : List Value) (ps : Array Tmp) (assign body : Code) (ts : List Tok) (K : AHeap) : Prop where
  pre : Pre H K
  len : H.length + 7 ≤ K.length
  r1 : K[H.length]? = some (.cells [.slice none 0 0] 23)
  r2 : K[H.length + 1]? = some (.cells [i64 0] 3)
  r3 : K[H.length + 2]? = some (.cells [i64 0] 24)
  r4 : ∃ lv, K[H.length + 3]? = some (.cells [lv] 23) ∧ Gro K (H.length + 7) 3 70 lv (ts.map Tok.cells)
  r5 : K[H.length + 4]? = some (.cells [str l] 9)
  r6 : K[H.length + 5]? = some (.loop .blk)
  r7 : K[H.length + 6]? = some (.loop (.run sl ps assign body .ready none))
theorem AllJ.app {H l sl ps assign body ts K} (h : AllJ H l sl ps assign body ts K) (X : AHeap) : AllJ H l sl ps assign body ts (K ++ X) := by
  obtain ⟨lv, g1, g2⟩ := h.r4
  exact ⟨h.pre.more X, by have := h.len; simp; omega, get_more h.r1, get_more h.r2, get_more h.r3, ⟨lv, get_more g1, g2.app⟩, get_more h.r5, get_more h.r6, get_more h.r7⟩
structure AllX (H : AHeap) (sl : List Value) (ps : Array Tmp) (assign body : Code) (a : Nat) (e : Int) (K : AHeap) : Prop where
  pre : Pre H K
  r1 : K[H.length]? = some (.cells [.slice none 0 0] 23)
  r2 : K[H.length + 1]? = some (.cells [i64 a] 3)
  r3 : K[H.length + 2]? = some (.cells [i64 e] 24)
  r6 : K[H.length + 5]? = some (.loop .blk)
  r7 : K[H.length + 6]? = some (.loop (.run sl ps assign body .done (some .ret)))
noncomputable abbrev allA : Code := cl (cl (cr (cl (cr (cr (cb Tryz.f16))))))
noncomputable abbrev allB : Code := cr (cl (cr (cl (cr (cr (cb Tryz.f16))))))
def allSl (H : AHeap) (l : List UInt8) (fv : Value) : List Value := [str l, undef, .pointer (some ⟨H.length, 0, some 1⟩), .pointer (some ⟨H.length + 1, 0, some 1⟩), .pointer (some ⟨H.length + 2, 0, some 1⟩), .pointer (some ⟨H.length + 3, 0, some 1⟩), undef, undef, str l, fv, undef, undef, undef, undef, undef, undef, undef, undef, undef, undef, undef, undef]
theorem tel1 : aElem Tryz.prog 23 = some (70, 3, 32) := by kernel_rfl
theorem tel2 : isSeq Tryz.prog 23 = true := by kernel_rfl
theorem all_yield {H : AHeap} {l : List UInt8} {fv : Value} {ts : List Tok} {t : Tok} {K : AHeap} (hJ : AllJ H l (allSl H l fv) #[10, 11] allA allB ts K) (hts : ts.length < 4096) :
    ∃ K', AYields Tryz.prog (H.length + 6) [.agg t.cells.toArray, i64 0] K (.bool true) K' ∧ AllJ H l (allSl H l fv) #[10, 11] allA allB (ts ++ [t]) K' := by
  have key : ∃ v K', (v = .bool true ∧ AllJ H l (allSl H l fv) #[10, 11] allA allB (ts ++ [t]) K') ∧ AYields Tryz.prog (H.length + 6) [.agg t.cells.toArray, i64 0] K v K' := by
    refine ayields_ex MixT ?_
    unfold kround
    have h7 := hJ.r7
    rw [h7]
    refine ⟨rfl, ?_⟩
    have hsl : yput (allSl H l fv) (#[10, 11] : Array Tmp).toList [.agg t.cells.toArray, i64 0] = [str l, undef, .pointer (some ⟨H.length, 0, some 1⟩), .pointer (some ⟨H.length + 1, 0, some 1⟩), .pointer (some ⟨H.length + 2, 0, some 1⟩), .pointer (some ⟨H.length + 3, 0, some 1⟩), undef, undef, str l, fv, .agg t.cells.toArray, i64 0, undef, undef, undef, undef, undef, undef, undef, undef, undef, undef] := rfl
    rw [hsl, R16x0A]
    simp [Tok.cells]
    refine ⟨get_more h7, ?_⟩
    rw [R16x0B]
    have hKl := hJ.len
    generalize hB : AObj.loop (.run (allSl H l fv) #[10, 11] allA allB .busy none) = bus
    generalize hK1 : (K ++ [AObj.cells [.int .u8 t.kind, str t.text, i64 t.at'] 70]).set (H.length + 6) bus = K1
    have hL1 : K1.length = K.length + 1 := by rw [← hK1]; simp
    have hget : ∀ (b : Nat) (o : AObj), b ≠ H.length + 6 → K[b]? = some o → K1[b]? = some o := fun b o hb ho => by rw [← hK1, List.getElem?_set_ne (by omega)]; exact get_more ho
    have hx : K1[K.length]? = some (.cells [.int .u8 t.kind, str t.text, i64 t.at'] 70) := by rw [← hK1, List.getElem?_set_ne (by omega)]; simp
    have hbus : K1[H.length + 6]? = some bus := by rw [← hK1]; rw [List.getElem?_set_self (by simp; omega)]
    obtain ⟨lv, g1, g2⟩ := hJ.r4
    have g1' := hget _ _ (by omega) g1
    have g2' : Gro K1 (H.length + 7) 3 70 lv (ts.map Tok.cells) := by rw [← hK1]; exact g2.app.set (by omega)
    have hc1 : hcells K1 (H.length + 3) = some [lv] := by simp [hcells, g1']
    have hc2 : hcells K1 K.length = some [.int .u8 t.kind, str t.text, i64 t.at'] := by simp [hcells, hx]
    simp [hc1, hc2]
    have hlit := sliceLitA (c := t.cells) (tbs23 K1 1 _) (by rfl) (by simp [Tok.cells]) (by simp)
    simp only [Tok.cells, List.length_cons, List.length_nil] at hlit
    refine bndL_lit hlit ?_
    have hp1 : Pre H K1 := by rw [← hK1]; exact (hJ.pre.more _).set (by omega)
    have g2'' := g2'.app (X := [AObj.cells [.int .u8 t.kind, str t.text, i64 t.at'] 70])
    obtain ⟨v', K2, p1, p2, p3, p4, p5⟩ := Gro.push (P := Tryz.prog) (Ts := 23) (by_ := 32) (x := .slice (some ⟨K1.length, 0, some 3⟩) 1 1) (c := t.cells) g2'' tel1 tel2 (by rfl) (by simp; omega) (by simp [aSrc, Tok.cells]) (by simp; omega) (by simp; omega)
    have p6 := p3 (H.length + 3) _ (by omega) (get_more g1')
    have hv1 : v'.oneCell' = true := p2.one
    simp [p1, p6, Gro.cells p2, Gro.stor p2]
    have hj : jumpOf AExit.normal = none := rfl
    have hL2 : K1.length < K2.length := by have := p4; simp at this; omega
    refine ⟨p3 _ _ (by omega) (get_more hbus), hj, ?_⟩
    simp only [hj, if_true]
    have hg : ∀ (b : Nat) (o : AObj) (x y : AObj), b < H.length + 7 → b ≠ H.length + 6 → b ≠ H.length + 3 → K[b]? = some o → ((K2.set (H.length + 3) x).set (H.length + 6) y)[b]? = some o := fun b o x y h1 h2 h3 h4 => by
      rw [List.getElem?_set_ne (by omega), List.getElem?_set_ne (by omega)]
      exact p3 _ _ h1 (get_more (hget _ _ h2 h4))
    refine ⟨((p5 H (hp1.more _) (by omega)).set (by omega)).set (by omega), by simp; omega, hg _ _ _ _ (by omega) (by omega) (by omega) hJ.r1, hg _ _ _ _ (by omega) (by omega) (by omega) hJ.r2, hg _ _ _ _ (by omega) (by omega) (by omega) hJ.r3, ⟨v', ?_, ?_⟩, hg _ _ _ _ (by omega) (by omega) (by omega) hJ.r5, hg _ _ _ _ (by omega) (by omega) (by omega) hJ.r6, ?_⟩
    · rw [List.getElem?_set_ne (by omega), List.getElem?_set_self (by omega)]
    · rw [List.map_append]
      exact (p2.set (by omega)).set (by omega)
    · rw [List.getElem?_set_self (by simp; omega)]
  obtain ⟨v, K', ⟨rfl, h⟩, hy⟩ := key
  exact ⟨K', hy, h⟩

theorem all_err {H : AHeap} {l : List UInt8} {fv : Value} {ts : List Tok} {a : Nat} {e : Int} {K : AHeap} (he : e ≠ 0) (hJ : AllJ H l (allSl H l fv) #[10, 11] allA allB ts K) :
    ∃ K', AYields Tryz.prog (H.length + 6) [.agg (Tok.cells ⟨0, [], a⟩).toArray, i64 e] K (.bool false) K' ∧ AllX H (allSl H l fv) #[10, 11] allA allB a e K' := by
  have key : ∃ v K', (v = .bool false ∧ AllX H (allSl H l fv) #[10, 11] allA allB a e K') ∧ AYields Tryz.prog (H.length + 6) [.agg (Tok.cells ⟨0, [], a⟩).toArray, i64 e] K v K' := by
    refine ayields_ex MixT ?_
    unfold kround
    have h7 := hJ.r7
    rw [h7]
    refine ⟨rfl, ?_⟩
    have hsl : yput (allSl H l fv) (#[10, 11] : Array Tmp).toList [.agg (Tok.cells ⟨0, [], a⟩).toArray, i64 e] = [str l, undef, .pointer (some ⟨H.length, 0, some 1⟩), .pointer (some ⟨H.length + 1, 0, some 1⟩), .pointer (some ⟨H.length + 2, 0, some 1⟩), .pointer (some ⟨H.length + 3, 0, some 1⟩), undef, undef, str l, fv, .agg (Tok.cells ⟨0, [], a⟩).toArray, i64 e, undef, undef, undef, undef, undef, undef, undef, undef, undef, undef] := rfl
    rw [hsl, R16x0A]
    simp [Tok.cells]
    refine ⟨get_more h7, ?_⟩
    rw [R16x0B]
    have hKl := hJ.len
    have heb : (e != 0) = true := by simpa using he
    simp
    generalize hB : AObj.loop (.run (allSl H l fv) #[10, 11] allA allB .busy none) = bus
    generalize hK1 : (K ++ [AObj.cells [.int .u8 0, str [], i64 a] 70]).set (H.length + 6) bus = K1
    have hL1 : K1.length = K.length + 1 := by rw [← hK1]; simp
    have hget : ∀ (b : Nat) (o : AObj), b ≠ H.length + 6 → K[b]? = some o → K1[b]? = some o := fun b o hb ho => by rw [← hK1, List.getElem?_set_ne (by omega)]; exact get_more ho
    have hx : K1[K.length]? = some (.cells [.int .u8 0, str [], i64 a] 70) := by rw [← hK1, List.getElem?_set_ne (by omega)]; simp
    have hc2 : hcells K1 K.length = some [.int .u8 0, str [], i64 a] := by simp [hcells, hx]
    have q1 := hget _ _ (by omega) hJ.r1
    have q2 := hget _ _ (by omega) hJ.r2
    have q3 := hget _ _ (by omega) hJ.r3
    have q6 := hget _ _ (by omega) hJ.r6
    have hl2 : hlen K1 K.length = some 3 := by simp [hlen, hx]
    rw [heb]
    simp [hc2, hl2]
    have hs1 : aStore Tryz.prog K1 23 (.pointer (some ⟨H.length, 0, some 1⟩)) (.slice none 0 0) = some K1 := by
      simp [q1]
      exact set_same q1
    refine bndD_of ⟨rfl, hs1⟩ (.inr ⟨[], by simp⟩) ?_
    refine bndD_of (v := undef) (H' := K1.set (H.length + 1) (.cells [i64 a] 3)) ⟨rfl, by simp [q2]⟩ (.inl rfl) ?_
    have hne : ∀ (b c : Nat) (x : AObj), b ≠ c → (K1.set b x)[c]? = K1[c]? := fun b c x h => List.getElem?_set_ne h
    refine bndD_of (v := undef) (H' := (K1.set (H.length + 1) (.cells [i64 a] 3)).set (H.length + 2) (.cells [i64 e] 24)) ⟨rfl, by simp [q3, hne]⟩ (.inl rfl) ?_
    simp
    have hj : jumpOf AExit.ret = some .ret := rfl
    have hbus : K1[H.length + 6]? = some bus := by rw [← hK1]; rw [List.getElem?_set_self (by simp; omega)]
    have hp1 : Pre H K1 := by rw [← hK1]; exact (hJ.pre.more _).set (by omega)
    refine ⟨hbus, by rw [hj]; rfl, ?_⟩
    simp only [hj, reduceCtorEq, if_false]
    refine ⟨((hp1.set (by omega)).set (by omega)).set (by omega), ?_, ?_, ?_, ?_, ?_⟩
    · simp [q1]
    · rw [List.getElem?_set_ne (by omega), List.getElem?_set_ne (by omega), List.getElem?_set_self (by omega)]
    · rw [List.getElem?_set_ne (by omega), List.getElem?_set_self (by simp; omega)]
    · simp [q6]
    · rw [List.getElem?_set_self (by simp; omega)]
  obtain ⟨v, K', ⟨rfl, h⟩, hy⟩ := key
  exact ⟨K', hy, h⟩
theorem allTok_zero {l : List UInt8} (h : (allTok l).2.2 = 0) : (allTok l).2.1 = 0 := by
  unfold allTok at *
  by_cases h4 : 4096 < l.length
  · simp [h4] at h
  · rw [if_neg h4] at h ⊢
    split at h <;> first | rfl | simp at h
theorem c_lexAll (H : AHeap) (l : List UInt8) : ∃ v K', (∃ lv, v = .tuple #[lv, i64 (allTok l).2.1, i64 (allTok l).2.2] ∧ Pre H K' ∧ ToksAt K' lv (allTok l).1) ∧ ACalls Tryz.prog 16 [str l] H v K' := by
  refine acallsG_ex MixT Tryz.func16 (by decide) ?_
  rw [d16]
  simp
  refine bndC_of (c_tell _ _) ?_
  simp [krange]
  refine ⟨by kernel_rfl, ?_⟩
  rw [show H.length + 5 + 1 = H.length + 6 from rfl]
  generalize hfv : Value.func (Fn.func 64) #[] #[Value.pointer (some { block := H.length + 4, off := 0, spot := some 1 })] = fv
  generalize hK0 : (H ++ _ : AHeap) = K0
  have hJ : AllJ H l (allSl H l fv) #[10, 11] allA allB [] K0 := by
    subst hK0
    refine ⟨.app _ _, by simp, ?_, ?_, ?_, ⟨_, ?_, .nil⟩, ?_, ?_, ?_⟩ <;> simp <;> rfl
  obtain ⟨v, K', hd, hc⟩ := c_tell1 (l := l) (sp := H.length + 4) (rb := H.length + 6) (J := fun ts K => AllJ H l (allSl H l fv) #[10, 11] allA allB ts K) (Jx := fun a e K => AllX H (allSl H l fv) #[10, 11] allA allB a e K)
    (fun ts K h => by simp [hcells, h.r5]) (fun ts K h => ⟨_, h.r7⟩) (fun ts K X h => h.app X) (fun ts t K h ht => all_yield h ht) (fun ts a e K he h => all_err he h) hJ
  refine ⟨v, K', hc, ?_⟩
  rcases hd with ⟨e0, h⟩ | ⟨e1, e0, h⟩
  · obtain ⟨lv, g1, g2⟩ := h.r4
    have hL := h.len
    have hne : ∀ (b c : Nat) (x : AObj) (K : AHeap), b ≠ c → (K.set b x)[c]? = K[c]? := fun b c x K h => List.getElem?_set_ne h
    have hnc : ∀ (b c : Nat) (x : AObj) (K : AHeap), b ≠ c → hcells (K.set b x) c = hcells K c := fun b c x K h => by rw [hcells_eq, hcells_eq, hne _ _ _ _ h]
    have c1 : hcells K' (H.length + 3) = some [lv] := by simp [hcells_eq, g1]
    have hst := g2.stor
    unfold rngEnd
    simp [h.r7, kjump, allSl]
    rw [R16x0n]
    have hself0 : ∀ X (cs : List Value) (T : TypeId), hcells ((K'.set (H.length + 6) X).set H.length (.cells cs T)) H.length = some cs := fun X cs T => by
      rw [hcells_eq, List.getElem?_set_self (by simp; omega)]; rfl
    have hself1 : ∀ X Y (cs : List Value) (T : TypeId), hcells (((K'.set (H.length + 6) X).set H.length Y).set (H.length + 1) (.cells cs T)) (H.length + 1) = some cs := fun X Y cs T => by
      rw [hcells_eq, List.getElem?_set_self (by simp; omega)]; rfl
    have hself2 : ∀ X Y Z (cs : List Value) (T : TypeId), hcells ((((K'.set (H.length + 6) X).set H.length Y).set (H.length + 1) Z).set (H.length + 2) (.cells cs T)) (H.length + 2) = some cs := fun X Y Z cs T => by
      rw [hcells_eq, List.getElem?_set_self (by simp; omega)]; rfl
    simp [hne, hnc, hself0, hself1, hself2, c1, h.r1, h.r2, h.r3, h.r6, g2.cells, hst]
    exact ⟨lv, ⟨rfl, by rw [allTok_zero e0]; rfl, e0.symm⟩, ((((h.pre.set (by omega)).set (by omega)).set (by omega)).set (by omega)).set (by omega), (((((g2.set (by omega)).set (by omega)).set (by omega)).set (by omega)).set (by omega)).arr⟩
  · have hne : ∀ (b c : Nat) (x : AObj) (K : AHeap), b ≠ c → (K.set b x)[c]? = K[c]? := fun b c x K h => List.getElem?_set_ne h
    have hnc : ∀ (b c : Nat) (x : AObj) (K : AHeap), b ≠ c → hcells (K.set b x) c = hcells K c := fun b c x K h => by rw [hcells_eq, hcells_eq, hne _ _ _ _ h]
    have c1 : hcells K' (H.length) = some [.slice none 0 0] := by simp [hcells_eq, h.r1]
    have c2 : hcells K' (H.length + 1) = some [i64 (allTok l).2.1] := by simp [hcells_eq, h.r2]
    have c3 : hcells K' (H.length + 2) = some [i64 (allTok l).2.2] := by simp [hcells_eq, h.r3]
    unfold rngEnd
    simp [h.r7, kjump, allSl]
    rw [R16x0r]
    simp [hne, hnc, c1, c2, c3, h.r6, e1]
    exact ⟨(h.pre.set (by omega)).set (by omega), .nil⟩
end Go.Vi
namespace Go.Vi
open Go Go.Proofs

@[simp] theorem nilV_ptr (b o m : Nat) : nilV (.pointer (some ⟨b, o, some m⟩)) = some (.pointer (some ⟨b, o, some m⟩)) := rfl
def rdo (lv : Value) (a : Nat) (ok : Bool) : AObj := .cells [lv, i64 a, .bool ok] 81
/-- A reader of tokens that lie in memory `H`. -/
structure RdA (H K : AHeap) (rb : Nat) (lv : Value) (ts : List Tok) (a : Nat) (ok : Bool) : Prop where
  toks : ToksAt H lv ts
  pre : Pre H K
  hb : H.length ≤ rb
  cell : K[rb]? = some (rdo lv a ok)
  len : ts.length < 2 ^ 40
  le : a ≤ ts.length
def isT (ts : List Tok) (a : Nat) (k : Int) (s : List UInt8) : Bool := (ts[a]?).any fun t => t.kind == k && t.text == s
theorem RdA.lt {H K rb lv ts a ok} (h : RdA H K rb lv ts a ok) : rb < K.length := (List.getElem?_eq_some_iff.1 h.cell).1
theorem RdA.app {H K rb lv ts a ok} (h : RdA H K rb lv ts a ok) (X : AHeap) : RdA H (K ++ X) rb lv ts a ok := ⟨h.toks, h.pre.more X, h.hb, get_more h.cell, h.len, h.le⟩
theorem RdA.put {H K rb lv ts a ok} (h : RdA H K rb lv ts a ok) (a' : Nat) (ok' : Bool) (ha : a' ≤ ts.length) : RdA H (K.set rb (rdo lv a' ok')) rb lv ts a' ok' :=
  ⟨h.toks, h.pre.set h.hb, h.hb, by rw [List.getElem?_set_self h.lt], h.len, ha⟩
/-- A token's place, kind and text. -/
theorem toksAt_at {K : AHeap} {lv : Value} {ts : List Tok} {a : Nat} {t : Tok} (h : ToksAt K lv ts) (ht : ts[a]? = some t) :
    ∃ p q r, aIndexAddr Tryz.prog K 23 lv (i64 a) = some p ∧ aFieldAddr Tryz.prog K 70 p 0 = some q ∧ aLoad Tryz.prog K 5 q = some (.int .u8 t.kind) ∧ aFieldAddr Tryz.prog K 70 p 1 = some r ∧ aLoad Tryz.prog K 9 r = some (str t.text) := by
  have hi : (ts.map Tok.cells)[a]? = some t.cells := by simp [ht]
  obtain ⟨p, q, h1, h2, h3⟩ := h.field (P := Tryz.prog) (T := 23) (te := 70) (f := 0) (d := 0) (ft := 5) (by simp) (by simp) (by simp) (by simp) (by simp) hi rfl
  obtain ⟨p', r, h4, h5, h6⟩ := h.field (P := Tryz.prog) (T := 23) (te := 70) (f := 1) (d := 1) (ft := 9) (by simp) (by simp) (by simp) (by simp) (by simp) hi rfl
  rw [h1] at h4
  cases h4
  exact ⟨p, q, r, h1, h2, h3, h5, h6⟩
theorem c_is {H K rb lv ts a ok} (h : RdA H K rb lv ts a ok) (k : Int) (s : List UInt8) :
    ACalls Tryz.prog 104 [(Value.pointer (some ⟨rb, 0, some 3⟩)), .int .u8 k, str s] K (.bool (ok && isT ts a k s)) K := by
  refine acalls_pure MixT Tryz.func104 (by decide) rfl ?_
  rw [d104]
  have hc := h.cell
  have hcc : hcells K rb = some [lv, i64 a, .bool ok] := by simp [hcells_eq, hc, rdo]
  have hll : hlen K rb = some 3 := by simp [hlen, hc, rdo]
  have hl := (h.toks.pre h.pre).len (P := Tryz.prog) (T := 23) (e := 70) (by simp)
  simp at hl
  cases ok with
  | false => simp [hcc, hll]
  | true =>
    simp [hcc, hll, hl]
    by_cases ha : a < ts.length
    · obtain ⟨t, ht⟩ : ∃ t, ts[a]? = some t := ⟨_, List.getElem?_eq_getElem ha⟩
      obtain ⟨p, q, r, e1, e2, e3, e4, e5⟩ := toksAt_at (h.toks.pre h.pre) ht
      have hT : isT ts a k s = (t.kind == k && t.text == s) := by simp [isT, ht]
      rw [hT]
      simp [ha, hcc, hll, e1, e2, e3]
      by_cases hk : (t.kind == k) = true
      · simp [hk, hcc, hll, e1, e4, e5]
        exact Bool.eq_iff_iff.2 (by simp)
      · simp only [Bool.not_eq_true] at hk
        simp [hk]
    · simp [ha, isT]
theorem isT_lt {ts a k s} (h : isT ts a k s = true) : a < ts.length := by
  unfold isT at h
  by_cases ha : a < ts.length
  · exact ha
  · rw [List.getElem?_eq_none (by omega)] at h; cases h
theorem c_takes_y {H K rb lv ts a} (h : RdA H K rb lv ts a true) {k : Int} {s : List UInt8} (ht : isT ts a k s = true) :
    ACalls Tryz.prog 68 [(Value.pointer (some ⟨rb, 0, some 3⟩)), .int .u8 k, str s] K (.bool true) (K.set rb (rdo lv (a + 1) true)) := by
  refine acalls_of MixT Tryz.func68 (by decide) ?_
  rw [d68]
  refine bndC_of (c_is h k s) ?_
  have hlt := isT_lt ht
  have hc := h.cell
  have hcc : hcells K rb = some [lv, i64 a, .bool true] := by simp [hcells_eq, hc, rdo]
  have hll : hlen K rb = some 3 := by simp [hlen, hc, rdo]
  have hw : IntKind.i64.wrap ((a : Int) + 1) = (a : Int) + 1 := wrap_i64 (by omega) (by have := h.len; omega)
  simp only [rdo] at hc
  simp only [ht, Bool.true_and]
  simp [hcc, hll, hc, rdo, hw, ht, S68x0q]
theorem c_takes_n {H K rb lv ts a ok} (h : RdA H K rb lv ts a ok) {k : Int} {s : List UInt8} (ht : (ok && isT ts a k s) = false) :
    ACalls Tryz.prog 68 [(Value.pointer (some ⟨rb, 0, some 3⟩)), .int .u8 k, str s] K (.bool false) K := by
  refine acalls_of MixT Tryz.func68 (by decide) ?_
  rw [d68]
  refine bndC_of (c_is h k s) ?_
  simp [ht, S68x0q]
theorem c_sign_y {H K rb lv ts a} (h : RdA H K rb lv ts a true) {s : List UInt8} (ht : isT ts a 4 s = true) :
    ACalls Tryz.prog 69 [(Value.pointer (some ⟨rb, 0, some 3⟩)), str s] K (.tuple #[]) (K.set rb (rdo lv (a + 1) true)) := by
  refine acalls_of MixT Tryz.func69 (by decide) ?_
  rw [d69]
  refine bndC_of (c_takes_y h ht) ?_
  have hlt := h.lt
  have hc : (K.set rb (rdo lv (a + 1) true))[rb]? = some (rdo lv (a + 1) true) := List.getElem?_set_self hlt
  generalize K.set rb (rdo lv (a + 1) true) = L at hc
  have hll : hlen L rb = some 3 := by simp [hlen, hc, rdo]
  simp [hll, hc, rdo]
  exact set_same hc
theorem c_take_y {H K rb lv ts a} (h : RdA H K rb lv ts a true) {t : Tok} (ht : ts[a]? = some t) :
    ACalls Tryz.prog 127 [(Value.pointer (some ⟨rb, 0, some 3⟩)), .int .u8 t.kind] K (str t.text) (K.set rb (rdo lv (a + 1) true)) := by
  refine acalls_of MixT Tryz.func127 (by decide) ?_
  rw [d127]
  have hlt := (List.getElem?_eq_some_iff.1 ht).1
  have hc := h.cell
  have hcc : hcells K rb = some [lv, i64 a, .bool true] := by simp [hcells_eq, hc, rdo]
  have hll : hlen K rb = some 3 := by simp [hlen, hc, rdo]
  have hl := (h.toks.pre h.pre).len (P := Tryz.prog) (T := 23) (e := 70) (by simp)
  simp at hl
  obtain ⟨p, q, r, e1, e2, e3, e4, e5⟩ := toksAt_at (h.toks.pre h.pre) ht
  have hw : IntKind.i64.wrap ((a : Int) + 1) = (a : Int) + 1 := wrap_i64 (by omega) (by have := h.len; omega)
  have hlt2 : ¬ (ts.length ≤ a) := by omega
  simp only [rdo] at hc
  simp [hcc, hll, hl, hlt2, e1, e2, e3, hc, hw]
  have hL := (h.put (a + 1) true (by omega)).cell
  have hpL := (h.put (a + 1) true (by omega)).pre
  simp only [rdo, Int.natCast_add, Int.natCast_one] at hL hpL
  generalize hLd : K.set rb (AObj.cells [lv, i64 (a + 1), .bool true] 81) = L at hL hpL ⊢
  have hcL : hcells L rb = some [lv, i64 (a + 1), .bool true] := by simp [hcells_eq, hL]
  have hlL : hlen L rb = some 3 := by simp [hlen, hL]
  have hw2 : IntKind.i64.wrap (a : Int) = a := wrap_i64 (by omega) (by have := h.len; omega)
  obtain ⟨p, q, r, e1, e2, e3, e4, e5⟩ := toksAt_at (h.toks.pre hpL) ht
  simp [hcL, hlL, hw2, e1, e4, e5]
  rw [← hLd]
  simp [rdo]

/-! ### What texts stand for -/
def nmapK : Nat → List (List UInt8) → List (Value × Value)
  | _, [] => []
  | k, s :: r => (str s, i64 k) :: nmapK (k + 1) r
theorem nmapK_app (s : List UInt8) : ∀ (l : List (List UInt8)) (k : Nat), nmapK k (l ++ [s]) = nmapK k l ++ [(str s, i64 ((k + l.length : Nat) : Int))] := by
  intro l
  induction l with
  | nil => intro k; rfl
  | cons t r ih =>
    intro k
    rw [List.cons_append, nmapK, ih, nmapK, List.length_cons, show k + 1 + r.length = k + (r.length + 1) by omega]
    rfl
theorem SMap.mono {Q R : List UInt8 → Value → Prop} (h : ∀ k v, Q k v → R k v) : ∀ {es ks}, SMap Q es ks → SMap R es ks := by
  intro es
  induction es with
  | nil => intro ks h; cases ks <;> exact h
  | cons e es ih => intro ks h; cases ks with
    | nil => exact h
    | cons k ks => exact ⟨h.1, ‹∀ k v, Q k v → R k v› _ _ h.2.1, ih h.2.2⟩
theorem nmapK_smap : ∀ (l : List (List UInt8)) (k : Nat), SMap (fun s v => ∃ i : Nat, v = i64 ((k + i : Nat) : Int) ∧ l[i]? = some s) (nmapK k l) l := by
  intro l
  induction l with
  | nil => intro k; trivial
  | cons t r ih =>
    intro k
    refine ⟨rfl, ⟨0, rfl, rfl⟩, (ih (k + 1)).mono ?_⟩
    rintro s v ⟨i, rfl, h⟩
    exact ⟨i + 1, by rw [show k + 1 + i = k + (i + 1) by omega], by simpa using h⟩
theorem nmap_put {l : List (List UInt8)} {i : Nat} {s : List UInt8} (hn : l.Nodup) (hi : l[i]? = some s) : mput (str s) (i64 i) (nmapK 0 (l.take i)) = nmapK 0 (l.take (i + 1)) := by
  have hlt := (List.getElem?_eq_some_iff.1 hi).1
  have hns : s ∉ l.take i := by
    intro hm
    obtain ⟨j, hj, hjs⟩ := List.getElem_of_mem hm
    have hj' : j < i := by simp at hj; omega
    have e1 : l[j] = s := by simpa using hjs
    have e2 : l[i] = s := (List.getElem?_eq_some_iff.1 hi).2
    exact List.pairwise_iff_getElem.1 hn j i (by omega) hlt hj' (e1.trans e2.symm)
  have htk : l.take (i + 1) = l.take i ++ [s] := by rw [List.take_add_one, hi]; rfl
  unfold mput
  rcases (nmapK_smap (l.take i) 0).find (k := s) with ⟨g1, _⟩ | ⟨_, g2⟩
  · exact absurd g1 hns
  · rw [g2, htk, nmapK_app]
    simp [Nat.min_eq_left (Nat.le_of_lt hlt)]
theorem named_loop {l : List (List UInt8)} {H : AHeap} {v : Value} {k : Value → AHeap → Prop} (hl : l.length < 2 ^ 40) (hn : l.Nodup) (ha : Arr H 1 v (strCells l)) (hk : k (.map (some H.length)) (H ++ [.map (nmapK 0 l)])) :
    ∀ (r : List (List UInt8)) (i : Nat) (s1 s2 s4 s5 s6 s10 s11 s12 s13 s14 s15 s16 s17 s18 : Value), l.drop i = r → i ≤ l.length →
      L126x0 (r.length + 1) k [v, s1, s2, .map (some H.length), s4, s5, s6, v, i64 l.length, i64 i, s10, s11, s12, s13, s14, s15, s16, s17, s18] (H ++ [.map (nmapK 0 (l.take i))]) := by
  intro r
  induction r with
  | nil =>
    intro i s1 s2 s4 s5 s6 s10 s11 s12 s13 s14 s15 s16 s17 s18 hd hi
    have hle : l.length ≤ i := by simpa using hd
    rw [List.length_nil, L126x0q, List.take_of_length_le hle]
    have : ¬ i < l.length := by omega
    simp [this]
    exact hk
  | cons s r ih =>
    intro i s1 s2 s4 s5 s6 s10 s11 s12 s13 s14 s15 s16 s17 s18 hd hi
    have hb : l[i]? = some s := by rw [← List.head?_drop, hd]; rfl
    have hlt : i < l.length := (List.getElem?_eq_some_iff.1 hb).1
    obtain ⟨q, hp1, hp2⟩ := (ha.pre (.app H [.map (nmapK 0 (l.take i))])).load1 (P := Tryz.prog) (T := 42) (te := 9) (i := i) (x := str s) (by simp) (by simp) (by simp) (by simp [strCells, hb])
    rw [List.length_cons, L126x0q]
    have hm : (H ++ [AObj.map (nmapK 0 (l.take i))])[H.length]? = some (.map (nmapK 0 (l.take i))) := by simp
    have hok := (nmapK_smap (l.take i) 0).ok
    have hset : (H ++ [AObj.map (nmapK 0 (l.take i))]).set H.length (.map (nmapK 0 (l.take (i + 1)))) = H ++ [.map (nmapK 0 (l.take (i + 1)))] := by simp
    simp only [aBin_lss, bnd_some, Int.ofNat_lt, hlt, decide_true, kifB_true, hp1, hp2]
    simp only [aUpdate_map, hm, tm163, Option.bind_some, mapOf_map, keyOk, hok, and_self, if_true, bndS_some, bnd_some, aBin_add, wrap_succ (show i + 1 < 2 ^ 63 by omega), nmap_put hn hb, hset]
    exact ih (i + 1) _ _ _ _ _ _ _ _ _ _ _ _ _ _ (by rw [← List.drop_drop, hd]; rfl) hlt
theorem c_named {l : List (List UInt8)} {H : AHeap} {v : Value} (hl : l.length < 2 ^ 40) (hn : l.Nodup) (ha : Arr H 1 v (strCells l)) :
    ACalls Tryz.prog 126 [v] H (.map (some H.length)) (H ++ [.map (nmapK 0 l)]) := by
  refine acalls_of MixT Tryz.func126 (by decide) ?_
  rw [d126]
  have hlen := (ha.pre (.app H [.map []])).len (P := Tryz.prog) (T := 42) (e := 9) (by simp)
  simp [strCells] at hlen
  simp [hlen]
  exact ⟨l.length + 1, named_loop hl hn ha ⟨rfl, rfl⟩ l 0 _ _ _ _ _ _ _ _ _ _ _ _ _ _ rfl (by omega)⟩
theorem nmap_get {l : List (List UInt8)} {i : Nat} {s : List UInt8} (hn : l.Nodup) (hi : l[i]? = some s) : mget (str s) (nmapK 0 l) = some (i64 i) := by
  rcases (nmapK_smap l 0).get (k := s) with ⟨_, v, g1, j, rfl, g2⟩ | ⟨g1, _⟩
  · have h1 := (List.getElem?_eq_some_iff.1 hi)
    have h2 := (List.getElem?_eq_some_iff.1 g2)
    obtain ⟨a1, a2⟩ := h1
    obtain ⟨b1, b2⟩ := h2
    have : i = j := by
      rcases Nat.lt_trichotomy i j with q | q | q
      · exact absurd (a2.trans b2.symm) (List.pairwise_iff_getElem.1 hn i j a1 b1 q)
      · exact q
      · exact absurd (b2.trans a2.symm) (List.pairwise_iff_getElem.1 hn j i b1 a1 q)
    subst this
    rw [g1, Nat.zero_add]
  · exact absurd (List.mem_of_getElem? hi) g1
end Go.Vi
namespace Go.Vi
open Go Go.Proofs

theorem bnd_of {x : Option Value} {v : Value} {q : QV} (h : x = some v) (k : q.f v) : @bnd x q := by rw [h, bnd_some]; exact k
def hasPre (l p : List UInt8) : Bool := decide (p.length ≤ l.length) && decide (l.take p.length = p)
theorem c_hasPrefix0 (H : AHeap) (l p : List UInt8) : ACalls Tryz.prog 158 [str l, str p] H (.bool (hasPre l p)) H := by
  refine acalls_pure MixT Tryz.func158 (by decide) rfl ?_
  rw [d158]
  by_cases h : p.length ≤ l.length
  · have hs := aSliceOp_str (P := Tryz.prog) (H := H) (T := 9) (l := l) (lo := none) (hi := some (i64 p.length)) (a := 0) (b := p.length) (by simp) rfl rfl (by omega) (by omega) (by omega)
    simp at hs
    simp [h, hs, hasPre]
  · simp [h, hasPre]
theorem c_hasPrefix (H : AHeap) (l p : List UInt8) : ACalls Tryz.prog 133 [str l, str p] H (.bool (hasPre l p)) H := by
  refine acalls_pure MixT Tryz.func133 (by decide) rfl ?_
  rw [d133]
  exact bndC_of (c_hasPrefix0 _ _ _) (by simp)
def cutPre (l p : List UInt8) : List UInt8 := if hasPre l p = true then l.drop p.length else l
theorem c_cutPrefix0 (H : AHeap) (l p : List UInt8) : ACalls Tryz.prog 179 [str l, str p] H (.tuple #[str (cutPre l p), .bool (hasPre l p)]) H := by
  refine acallsT_pure MixT Tryz.func179 (by decide) rfl ?_
  rw [d179]
  refine bndC_of (c_hasPrefix0 _ _ _) ?_
  by_cases h : hasPre l p = true
  · have hle : p.length ≤ l.length := by unfold hasPre at h; simp at h; exact h.1
    have hs := aSliceOp_str (P := Tryz.prog) (H := H) (T := 9) (l := l) (lo := some (i64 p.length)) (hi := none) (a := p.length) (b := l.length) (by simp) rfl rfl (by omega) (by omega) (by omega)
    simp at hs
    simp [h, hs, cutPre]
  · simp only [Bool.not_eq_true] at h
    simp [h, cutPre]
theorem c_cutPrefix (H : AHeap) (l p : List UInt8) : ACalls Tryz.prog 155 [str l, str p] H (.tuple #[str (cutPre l p), .bool (hasPre l p)]) H := by
  refine acallsT_pure MixT Tryz.func155 (by decide) rfl ?_
  rw [d155]
  exact bndC_of (c_cutPrefix0 _ _ _) (by simp)
theorem and_lo (H : AHeap) (x y : Operand) : aBin2 Tryz.prog H .and 178 x y (.int .u64 1) (.int .u64 4294967295) = some (.int .u64 1) := by kernel_rfl
theorem and_lo2 (H : AHeap) (x y : Operand) : aBin2 Tryz.prog H .and 178 x y (.int .u64 2) (.int .u64 4294967295) = some (.int .u64 2) := by kernel_rfl
theorem and_lo3 (H : AHeap) (x y : Operand) : aBin2 Tryz.prog H .and 178 x y (.int .u64 3) (.int .u64 4294967295) = some (.int .u64 3) := by kernel_rfl
theorem and_lo0 (H : AHeap) (x y : Operand) : aBin2 Tryz.prog H .and 178 x y (.int .u64 0) (.int .u64 4294967295) = some (.int .u64 0) := by kernel_rfl
theorem c_hasZero (H : AHeap) : ACalls Tryz.prog 133 [str (List.replicate 64 48), str [48]] H (.bool true) H := by
  have := c_hasPrefix H (List.replicate 64 48) [48]
  rwa [show hasPre (List.replicate 64 48) [48] = true by decide] at this
theorem c_mul64 (H : AHeap) (n : Int) (hn : n = 2 ∨ n = 3) : ACalls Tryz.prog 192 [.int .u64 1, .int .u64 n] H (.tuple #[.int .u64 0, .int .u64 n]) H := by
  refine acallsT_pure MixT Tryz.func192 (by decide) rfl ?_
  rw [d192]
  have f1 : Int.fdiv 1 (2 ^ min 32 IntKind.u64.bits) = 0 := by decide
  have f2 : Int.fdiv 2 (2 ^ min 32 IntKind.u64.bits) = 0 := by decide
  have f3 : Int.fdiv 3 (2 ^ min 32 IntKind.u64.bits) = 0 := by decide
  have f0 : Int.fdiv 0 (2 ^ min 32 IntKind.u64.bits) = 0 := by decide
  have w0 : IntKind.u64.wrap 0 = 0 := by decide
  have w2 : IntKind.u64.wrap 2 = 2 := by decide
  have w3 : IntKind.u64.wrap 3 = 3 := by decide
  rcases hn with rfl | rfl <;> simp [and_lo, and_lo2, and_lo3, and_lo0, aBin_shr, f0, f1, f2, f3, w0, w2, w3]
theorem c_mul (H : AHeap) (n : Int) (hn : n = 2 ∨ n = 3) : ACalls Tryz.prog 180 [.int .u64 1, .int .u64 n] H (.tuple #[.int .u64 0, .int .u64 n]) H := by
  refine acallsT_pure MixT Tryz.func180 (by decide) rfl ?_
  rw [d180]
  simp
  refine bndC_of (c_mul64 _ _ hn) (by simp)
set_option maxRecDepth 4000 in
theorem c_repeat0 (H : AHeap) (n : Nat) (hn : n ≤ 3) : ACalls Tryz.prog 157 [str [48], i64 n] H (str (List.replicate n 48)) H := by
  refine acalls_pure MixT Tryz.func157 (by decide) rfl ?_
  rw [d157]
  have i2 : IntKind.i64.wrap 2 = 2 := by decide
  have i3 : IntKind.i64.wrap 3 = 3 := by decide
  have w1 : IntKind.u64.wrap 1 = 1 := by decide
  have w2 : IntKind.u64.wrap 2 = 2 := by decide
  have w3 : IntKind.u64.wrap 3 = 3 := by decide
  rcases n with _ | _ | _ | _ | n
  · simp
  · simp
  · simp
    rw [S157x0q]
    simp [convV_int, w1, w2]
    refine bndC_of (c_mul _ _ (.inl rfl)) ?_
    simp
    rw [S157x1q]
    have q0 := aIndex_at (P := Tryz.prog) (T := 9) (k := .i64) (l := [48]) (i := 0) (by simp) rfl
    simp at q0
    simp [convV_int, q0]
    rw [S157x2q]
    simp [i2]
    refine bndG_t (.bool false) _ (c_hasPrefix H (List.replicate 128 32) [48]) ?_
    simp [i2]
    refine bndG_t (.bool false) _ (c_hasPrefix H (List.replicate 128 45) [48]) ?_
    simp [i2]
    refine bndG_t (.bool true) _ (c_hasZero H) ?_
    have hs := aSliceOp_str (P := Tryz.prog) (H := H) (T := 9) (l := List.replicate 64 48) (lo := none) (hi := some (i64 2)) (a := 0) (b := 2) (by simp) rfl rfl (by omega) (by omega) (by simp)
    refine bnd_of (v := .bool true) (by simp) ?_
    simp only [kifB_true]
    refine bnd_of hs ?_
    exact ⟨rfl, [], by simp⟩
  · simp
    rw [S157x0q]
    simp [convV_int, w1, w3]
    refine bndC_of (c_mul _ _ (.inr rfl)) ?_
    simp
    rw [S157x1q]
    have q0 := aIndex_at (P := Tryz.prog) (T := 9) (k := .i64) (l := [48]) (i := 0) (by simp) rfl
    simp at q0
    simp [convV_int, q0]
    rw [S157x2q]
    simp [i3]
    refine bndG_t (.bool false) _ (c_hasPrefix H (List.replicate 128 32) [48]) ?_
    simp [i3]
    refine bndG_t (.bool false) _ (c_hasPrefix H (List.replicate 128 45) [48]) ?_
    simp [i3]
    refine bndG_t (.bool true) _ (c_hasZero H) ?_
    have hs := aSliceOp_str (P := Tryz.prog) (H := H) (T := 9) (l := List.replicate 64 48) (lo := none) (hi := some (i64 3)) (a := 0) (b := 3) (by simp) rfl rfl (by omega) (by omega) (by simp)
    refine bnd_of (v := .bool true) (by simp) ?_
    simp only [kifB_true]
    refine bnd_of hs ?_
    exact ⟨rfl, [], by simp⟩
  · omega

/-- Where a number's point stands, and whether all before the end may stand there. -/
def scanF : List UInt8 → Nat → Int → Int × Bool
  | [], _, pt => (pt, true)
  | b :: r, i, pt => if isDig b = true then scanF r (i + 1) pt else if ((b.toNat : Int) == 46 && decide (pt < 0)) = true then scanF r (i + 1) i else (pt, false)
def cutT (s : List UInt8) (pt : Int) (ok : Bool) : List UInt8 × List UInt8 × Bool :=
  if pt < 0 then (s, [], ok) else (s.take pt.toNat, s.drop (pt.toNat + 1), ok && !decide (s.take pt.toNat = []) && !decide (s.drop (pt.toNat + 1) = []) && decide ((s.drop (pt.toNat + 1)).length ≤ 3))
def cutF (s : List UInt8) : List UInt8 × List UInt8 × Bool := cutT s (scanF s 0 (-1)).1 ((scanF s 0 (-1)).2 && !s.isEmpty)
def cutV (x : List UInt8 × List UInt8 × Bool) : Value := .tuple #[str x.1, str x.2.1, .bool x.2.2]
theorem cut_tail {s : List UInt8} {pt : Int} {ok : Bool} {H : AHeap} {k : Value → AHeap → Prop} (hs : s.length < 2 ^ 60) (hpt : pt < s.length) (hp1 : -1 ≤ pt) (hk : k (cutV (cutT s pt ok)) H) (s1 s2 s3 s6 s7 s8 s9 s10 s11 s12 s13 s14 s15 s16 s17 s18 s19 s20 s21 s22 s23 s24 s25 s26 s27 s28 s29 s30 s31 s32 s33 s34 s35 s36 s37 s38 s39 s40 s41 s42 s43 s44 s45 s46 s47 s48 s49 s50 s51 s52 s53 s54 s55 s56 s57 s58 s59 s60 s61 s62 s63 s64 s65 : Value) :
    S156x1 k [str s, s1, s2, s3, .bool ok, i64 pt, s6, s7, s8, s9, s10, s11, s12, s13, s14, s15, s16, s17, s18, s19, s20, s21, s22, s23, s24, s25, s26, s27, s28, s29, s30, s31, s32, s33, s34, s35, s36, s37, s38, s39, s40, s41, s42, s43, s44, s45, s46, s47, s48, s49, s50, s51, s52, s53, s54, s55, s56, s57, s58, s59, s60, s61, s62, s63, s64, s65] H := by
  rw [S156x1q]
  by_cases h : pt < 0
  · simp [h]
    simpa [cutT, h, cutV] using hk
  · obtain ⟨n, rfl⟩ : ∃ n : Nat, pt = n := ⟨pt.toNat, by omega⟩
    have h1 := aSliceOp_str (P := Tryz.prog) (H := H) (T := 9) (l := s) (lo := none) (hi := some (i64 n)) (a := 0) (b := n) (by simp) rfl rfl (by omega) (by omega) (by omega)
    have h2 := aSliceOp_str (P := Tryz.prog) (H := H) (T := 9) (l := s) (lo := some (i64 ((n + 1 : Nat) : Int))) (hi := none) (a := (n + 1 : Nat)) (b := s.length) (by simp) rfl rfl (by omega) (by omega) (by omega)
    simp only [cutT, if_neg h, cutV] at hk
    simp at h1 h2 hk
    simp +contextual [h, h1, h2, show n + 1 < 2 ^ 63 by omega]
    have e3 : decide (((s.length - (n + 1) : Nat) : Int) ≤ 3) = decide (s.length ≤ 3 + (n + 1)) := by rw [decide_eq_decide]; omega
    rw [e3]
    exact hk
theorem cut_loop {s : List UInt8} {H : AHeap} {k : Value → AHeap → Prop} (hs : s.length < 2 ^ 60) (w : List UInt8 × List UInt8 × Bool) (hk : k (cutV w) H) :
    ∀ (r : List UInt8) (i : Nat) (pt : Int) (ok : Bool) (s1 s2 s3 s6 s7 s10 s11 s12 s13 s14 s15 s16 s17 s18 s19 s20 s21 s22 s23 s24 s25 s26 s27 s28 s29 s30 s31 s32 s33 s34 s35 s36 s37 s38 s39 s40 s41 s42 s43 s44 s45 s46 s47 s48 s49 s50 s51 s52 s53 s54 s55 s56 s57 s58 s59 s60 s61 s62 s63 s64 s65 : Value), s.drop i = r → i ≤ s.length → -1 ≤ pt → pt < i → ok = (r.isEmpty && !s.isEmpty) → w = cutT s (scanF r i pt).1 ((scanF r i pt).2 && !s.isEmpty) →
      L156x0 (r.length + 1) k [str s, s1, s2, s3, .bool ok, i64 pt, s6, s7, i64 s.length, i64 i, s10, s11, s12, s13, s14, s15, s16, s17, s18, s19, s20, s21, s22, s23, s24, s25, s26, s27, s28, s29, s30, s31, s32, s33, s34, s35, s36, s37, s38, s39, s40, s41, s42, s43, s44, s45, s46, s47, s48, s49, s50, s51, s52, s53, s54, s55, s56, s57, s58, s59, s60, s61, s62, s63, s64, s65] H := by
  intro r
  induction r with
  | nil =>
    intro i pt ok s1 s2 s3 s6 s7 s10 s11 s12 s13 s14 s15 s16 s17 s18 s19 s20 s21 s22 s23 s24 s25 s26 s27 s28 s29 s30 s31 s32 s33 s34 s35 s36 s37 s38 s39 s40 s41 s42 s43 s44 s45 s46 s47 s48 s49 s50 s51 s52 s53 s54 s55 s56 s57 s58 s59 s60 s61 s62 s63 s64 s65 hd hi hp1 hp2 hok hw
    have hle : s.length ≤ i := by simpa using hd
    rw [List.length_nil, L156x0q]
    have : ¬ i < s.length := by omega
    simp [this]
    rw [B156x1q]
    simp only [List.isEmpty_nil, Bool.true_and] at hok
    rw [hok]
    refine cut_tail hs (by omega) hp1 ?_ _ _ _ _ _ _ _ _ _ _ _ _ _ _ _ _ _ _ _ _ _ _ _ _ _ _ _ _ _ _ _ _ _ _ _ _ _ _ _ _ _ _ _ _ _ _ _ _ _ _ _ _ _ _ _ _ _ _ _ _ _ _ _
    rw [hw] at hk
    simpa [scanF] using hk
  | cons b r ih =>
    intro i pt ok s1 s2 s3 s6 s7 s10 s11 s12 s13 s14 s15 s16 s17 s18 s19 s20 s21 s22 s23 s24 s25 s26 s27 s28 s29 s30 s31 s32 s33 s34 s35 s36 s37 s38 s39 s40 s41 s42 s43 s44 s45 s46 s47 s48 s49 s50 s51 s52 s53 s54 s55 s56 s57 s58 s59 s60 s61 s62 s63 s64 s65 hd hi hp1 hp2 hok hw
    have hb : s[i]? = some b := by rw [← List.head?_drop, hd]; rfl
    have hlt : i < s.length := (List.getElem?_eq_some_iff.1 hb).1
    have hix := aIndex_at (P := Tryz.prog) (T := 9) (k := .i64) (by simp) hb
    have hne : s.isEmpty = false := by cases s with | nil => simp at hlt | cons => rfl
    have hdr : s.drop (i + 1) = r := by rw [← List.drop_drop, hd]; rfl
    have hlast : (i : Int) = (s.length : Int) - 1 ↔ r.isEmpty = true := by
      have := congrArg List.length hd
      simp at this
      cases r with
      | nil => simp at this ⊢; omega
      | cons => simp at this ⊢; omega
    simp only [List.isEmpty_cons, Bool.false_and] at hok
    subst hok
    have hwr : IntKind.i64.wrap ((s.length : Int) - 1) = (s.length : Int) - 1 := wrap_i64 (by omega) (by omega)
    have step : ∀ (pt' : Int) (s1 s2 s3 s7 s10 s11 s12 s13 s14 s15 s16 s17 s18 s19 s20 s21 s22 s23 s24 s25 s26 s27 s28 s29 s30 s31 s32 s33 s34 s35 s36 s37 s38 s39 s40 s41 s42 s43 s44 s45 s46 s47 s48 s49 s50 s51 s52 s53 s54 s55 s56 s57 s58 s59 s60 s61 s62 s63 s64 s65 : Value), -1 ≤ pt' → pt' < (i + 1 : Nat) → w = cutT s (scanF r (i + 1) pt').1 ((scanF r (i + 1) pt').2 && !s.isEmpty) →
        S156x0 (r.length + 1) k [str s, s1, s2, s3, .bool false, i64 pt', i64 i, s7, i64 s.length, i64 i, s10, s11, s12, s13, s14, s15, s16, s17, s18, s19, s20, s21, s22, s23, s24, s25, s26, s27, s28, s29, s30, s31, s32, s33, s34, s35, s36, s37, s38, s39, s40, s41, s42, s43, s44, s45, s46, s47, s48, s49, s50, s51, s52, s53, s54, s55, s56, s57, s58, s59, s60, s61, s62, s63, s64, s65] H := by
      intro pt' s1 s2 s3 s7 s10 s11 s12 s13 s14 s15 s16 s17 s18 s19 s20 s21 s22 s23 s24 s25 s26 s27 s28 s29 s30 s31 s32 s33 s34 s35 s36 s37 s38 s39 s40 s41 s42 s43 s44 s45 s46 s47 s48 s49 s50 s51 s52 s53 s54 s55 s56 s57 s58 s59 s60 s61 s62 s63 s64 s65 q1 q2 q3
      rw [S156x0q]
      simp [hwr]
      refine kifB_bool (fun h => ?_) (fun h => ?_)
      · have hre := hlast.1 (by simpa using h)
        rw [S156x2q]
        simp [show i + 1 < 2 ^ 63 by omega]
        exact ih (i + 1) pt' true _ _ _ _ _ _ _ _ _ _ _ _ _ _ _ _ _ _ _ _ _ _ _ _ _ _ _ _ _ _ _ _ _ _ _ _ _ _ _ _ _ _ _ _ _ _ _ _ _ _ _ _ _ _ _ _ _ _ _ _ _ hdr (by omega) q1 q2 (by simp [hre, hne]) q3
      · have hre : r.isEmpty = false := by
          cases hr : r.isEmpty with
          | false => rfl
          | true => have := hlast.2 hr; simp [this] at h
        rw [S156x2q]
        simp [show i + 1 < 2 ^ 63 by omega]
        exact ih (i + 1) pt' false _ _ _ _ _ _ _ _ _ _ _ _ _ _ _ _ _ _ _ _ _ _ _ _ _ _ _ _ _ _ _ _ _ _ _ _ _ _ _ _ _ _ _ _ _ _ _ _ _ _ _ _ _ _ _ _ _ _ _ _ _ hdr (by omega) q1 q2 (by simp [hre]) q3
    rw [List.length_cons, L156x0q]
    by_cases hdg : isDig b = true
    · have hdg' := hdg
      simp only [isDig, Bool.and_eq_true, decide_eq_true_eq] at hdg'
      simp [hlt, hix, hdg'.1, hdg'.2]
      exact step pt _ _ _ _ _ _ _ _ _ _ _ _ _ _ _ _ _ _ _ _ _ _ _ _ _ _ _ _ _ _ _ _ _ _ _ _ _ _ _ _ _ _ _ _ _ _ _ _ _ _ _ _ _ _ _ _ _ _ _ _ hp1 (by omega) (by simpa only [scanF, if_pos hdg] using hw)
    · have hndg : ¬ (48 ≤ (b.toNat : Int) ∧ (b.toNat : Int) ≤ 57) := by simpa [isDig] using hdg
      simp only [scanF, if_neg hdg] at hw
      by_cases h48 : 48 ≤ (b.toNat : Int)
      · have h57 : ¬ (b.toNat : Int) ≤ 57 := fun q => hndg ⟨h48, q⟩
        have h46 : ¬ (b.toNat : Int) = 46 := by omega
        have h46b : ((b.toNat : Int) == 46) = false := by simpa using h46
        simp [hlt, hix, h48, h57, h46b]
        rw [B156x0q]
        refine cut_tail hs (by omega) hp1 ?_ _ _ _ _ _ _ _ _ _ _ _ _ _ _ _ _ _ _ _ _ _ _ _ _ _ _ _ _ _ _ _ _ _ _ _ _ _ _ _ _ _ _ _ _ _ _ _ _ _ _ _ _ _ _ _ _ _ _ _ _ _ _ _
        rw [hw] at hk
        simpa [h46] using hk
      · by_cases h46 : (b.toNat : Int) = 46
        · by_cases hpt : pt < 0
          · simp [hlt, hix, h46, hpt]
            exact step i _ _ _ _ _ _ _ _ _ _ _ _ _ _ _ _ _ _ _ _ _ _ _ _ _ _ _ _ _ _ _ _ _ _ _ _ _ _ _ _ _ _ _ _ _ _ _ _ _ _ _ _ _ _ _ _ _ _ _ _ (by omega) (by omega) (by simpa [h46, hpt] using hw)
          · simp [hlt, hix, h46, hpt]
            rw [B156x0q]
            refine cut_tail hs (by omega) hp1 ?_ _ _ _ _ _ _ _ _ _ _ _ _ _ _ _ _ _ _ _ _ _ _ _ _ _ _ _ _ _ _ _ _ _ _ _ _ _ _ _ _ _ _ _ _ _ _ _ _ _ _ _ _ _ _ _ _ _ _ _ _ _ _ _
            rw [hw] at hk
            simpa [h46, hpt] using hk
        · have h46b : ((b.toNat : Int) == 46) = false := by simpa using h46
          simp [hlt, hix, h48, h46b]
          rw [B156x0q]
          refine cut_tail hs (by omega) hp1 ?_ _ _ _ _ _ _ _ _ _ _ _ _ _ _ _ _ _ _ _ _ _ _ _ _ _ _ _ _ _ _ _ _ _ _ _ _ _ _ _ _ _ _ _ _ _ _ _ _ _ _ _ _ _ _ _ _ _ _ _ _ _ _ _
          rw [hw] at hk
          simpa [h46] using hk
theorem c_cut {s : List UInt8} {H : AHeap} (hs : s.length < 2 ^ 60) : ACalls Tryz.prog 156 [str s] H (cutV (cutF s)) H := by
  refine acallsT_pure MixT Tryz.func156 (by decide) rfl ?_
  rw [d156]
  simp
  refine ⟨s.length + 1, ?_⟩
  have e : false = (s.isEmpty && !s.isEmpty) := by cases s.isEmpty <;> rfl
  have := cut_loop (H := H) (k := fun u H2 => u = cutV (cutF s) ∧ ∃ X, H2 = H ++ X) hs (cutF s) ⟨rfl, [], by simp⟩ s 0 (-1) false
  exact this _ _ _ _ _ _ _ _ _ _ _ _ _ _ _ _ _ _ _ _ _ _ _ _ _ _ _ _ _ _ _ _ _ _ _ _ _ _ _ _ _ _ _ _ _ _ _ _ _ _ _ _ _ _ _ _ _ _ _ _ _ rfl (by omega) (by omega) (by omega) e rfl

/-! ### A number -/
def digF (x : Int) : List UInt8 → Int
  | [] => x
  | d :: r => if x > (maxFix - ((d.toNat : Int) - 48)).tdiv 10 then maxFix else digF (10 * x + ((d.toNat : Int) - 48)) r
def parF (s : List UInt8) : Int × Int :=
  let c := cutF (cutPre s [45])
  if c.2.2 = true then
    let x := digF 0 (c.1 ++ c.2.1 ++ List.replicate (3 - c.2.1.length) 48)
    (if hasPre s [45] = true then -x else x, 0)
  else (0, 10)
theorem scanF_pt : ∀ (r : List UInt8) (i : Nat) (pt : Int), 0 ≤ pt → (scanF r i pt).2 = true → (scanF r i pt).1 = pt ∧ ∀ b ∈ r, isDig b = true := by
  intro r
  induction r with
  | nil => intro i pt _ _; simp [scanF]
  | cons b r ih =>
    intro i pt hp h
    have hp' : ¬ pt < 0 := by omega
    rw [scanF] at h ⊢
    by_cases hd : isDig b = true
    · rw [if_pos hd] at h ⊢
      obtain ⟨h1, h2⟩ := ih _ _ hp h
      refine ⟨h1, fun c hc => ?_⟩
      rcases List.mem_cons.1 hc with rfl | hc
      · exact hd
      · exact h2 c hc
    · rw [if_neg hd] at h
      simp [hp'] at h
theorem scanF_none : ∀ (r : List UInt8) (i : Nat), (scanF r i (-1)).2 = true → ((scanF r i (-1)).1 = -1 ∧ ∀ b ∈ r, isDig b = true) ∨
    ∃ j : Nat, (scanF r i (-1)).1 = ((i + j : Nat) : Int) ∧ j < r.length ∧ (∀ b ∈ r.take j, isDig b = true) ∧ ∀ b ∈ r.drop (j + 1), isDig b = true := by
  intro r
  induction r with
  | nil => intro i _; left; simp [scanF]
  | cons b r ih =>
    intro i h
    rw [scanF] at h ⊢
    by_cases hd : isDig b = true
    · rw [if_pos hd] at h ⊢
      rcases ih _ h with ⟨h1, h2⟩ | ⟨j, h1, h2, h3, h4⟩
      · left
        refine ⟨h1, fun c hc => ?_⟩
        rcases List.mem_cons.1 hc with rfl | hc
        · exact hd
        · exact h2 c hc
      · right
        refine ⟨j + 1, by rw [h1]; congr 1; omega, by simp; omega, fun c hc => ?_, by simpa using h4⟩
        rw [List.take_succ_cons] at hc
        rcases List.mem_cons.1 hc with rfl | hc
        · exact hd
        · exact h3 c hc
    · rw [if_neg hd] at h ⊢
      split at h
      · rename_i hq
        rw [if_pos hq]
        obtain ⟨h1, h2⟩ := scanF_pt r (i + 1) i (by omega) h
        exact .inr ⟨0, by rw [h1]; rfl, by simp, by simp, by simpa using h2⟩
      · cases h
theorem cutF_ok {s : List UInt8} (h : (cutF s).2.2 = true) : (∀ b ∈ (cutF s).1 ++ (cutF s).2.1, isDig b = true) ∧ (cutF s).2.1.length ≤ 3 ∧ (cutF s).1.length + (cutF s).2.1.length ≤ s.length := by
  unfold cutF cutT at *
  by_cases hp : (scanF s 0 (-1)).1 < 0
  · simp only [if_pos hp] at h ⊢
    simp only [Bool.and_eq_true] at h
    rcases scanF_none s 0 h.1 with ⟨h1, h2⟩ | ⟨j, h1, _⟩
    · simp; exact h2
    · rw [h1] at hp; omega
  · simp only [if_neg hp] at h ⊢
    simp only [Bool.and_eq_true, decide_eq_true_eq] at h
    rcases scanF_none s 0 h.1.1.1.1 with ⟨h1, h2⟩ | ⟨j, h1, h2, h3, h4⟩
    · rw [h1] at hp; omega
    · rw [h1] at h ⊢
      simp only [Nat.zero_add, Int.toNat_natCast] at h ⊢
      refine ⟨fun b hb => ?_, h.2, ?_⟩
      · rcases List.mem_append.1 hb with hb | hb
        · exact h3 b hb
        · exact h4 b hb
      · simp; omega
theorem arr_bytes {H : AHeap} (l : List UInt8) : Arr (H ++ [AObj.ro (bytesL ⟨l.toArray⟩)]) 1 (.slice (some ⟨H.length, 0, some l.length⟩) l.length l.length) (l.map fun b => [byt b]) := by
  refine .mk H.length 0 _ _ _ (l.map byt) _ (by simp) (by simp [hcells_eq, bytesL, AObj.rcells]) (by simp) (by simp) fun i e hi => ?_
  simp at hi
  obtain ⟨b, hb, rfl⟩ := hi
  rw [Nat.zero_add, Nat.mul_one, ← List.map_drop, ← List.map_take]
  have : (l.drop i).take 1 = [b] := by
    have hlt := (List.getElem?_eq_some_iff.1 hb).1
    rw [List.drop_eq_getElem_cons hlt, (List.getElem?_eq_some_iff.1 hb).2]; rfl
  rw [this]; rfl
theorem dig_loop {H : AHeap} {v : Value} {l : List UInt8} {less : Bool} {k : Value → AHeap → Prop} (ha : Arr H 1 v (l.map fun b => [byt b])) (hl : l.length < 2 ^ 61) (hd : ∀ b ∈ l, isDig b = true) (w : Int)
    (hk : k (.tuple #[i64 (if less = true then -w else w), i64 0]) H) :
    ∀ (r : List UInt8) (i : Nat) (x : Int) (s0 s1 s2 s3 s4 s6 s7 s8 s10 s11 s12 s13 s14 s15 s16 s17 s18 s19 s20 s21 s22 s23 s24 s25 s26 s27 s28 s29 s30 s31 s32 s36 s37 s38 s39 s40 s41 s42 s43 s44 s45 s46 s47 s48 s49 s50 s51 s52 s53 s54 s55 s56 : Value), l.drop i = r → i ≤ l.length → 0 ≤ x → x ≤ maxFix → w = digF x r →
      L130x0 (r.length + 1) k [s0, s1, s2, s3, s4, .bool less, s6, s7, s8, i64 x, s10, s11, s12, s13, s14, s15, s16, s17, s18, s19, s20, s21, s22, s23, s24, s25, s26, s27, s28, s29, s30, s31, s32, v, i64 l.length, i64 i, s36, s37, s38, s39, s40, s41, s42, s43, s44, s45, s46, s47, s48, s49, s50, s51, s52, s53, s54, s55, s56] H := by
  have tail : ∀ (s0 s1 s2 s3 s4 s6 s7 s8 s10 s11 s12 s13 s14 s15 s16 s17 s18 s19 s20 s21 s22 s23 s24 s25 s26 s27 s28 s29 s30 s31 s32 s33 s34 s35 s36 s37 s38 s39 s40 s41 s42 s43 s44 s45 s46 s47 s48 s49 s50 s51 s52 s53 s54 s55 s56 : Value), 0 ≤ w → w ≤ maxFix → S130x0 k [s0, s1, s2, s3, s4, .bool less, s6, s7, s8, i64 w, s10, s11, s12, s13, s14, s15, s16, s17, s18, s19, s20, s21, s22, s23, s24, s25, s26, s27, s28, s29, s30, s31, s32, s33, s34, s35, s36, s37, s38, s39, s40, s41, s42, s43, s44, s45, s46, s47, s48, s49, s50, s51, s52, s53, s54, s55, s56] H := by
    intro s0 s1 s2 s3 s4 s6 s7 s8 s10 s11 s12 s13 s14 s15 s16 s17 s18 s19 s20 s21 s22 s23 s24 s25 s26 s27 s28 s29 s30 s31 s32 s33 s34 s35 s36 s37 s38 s39 s40 s41 s42 s43 s44 s45 s46 s47 s48 s49 s50 s51 s52 s53 s54 s55 s56 h1 h2
    rw [S130x0q]
    simp only [maxFix] at h2
    cases less with
    | true =>
      have hw : IntKind.i64.wrap (-w) = -w := wrap_i64 (by omega) (by omega)
      simp [unV_neg, hw]
      rw [S130x1q]
      simpa using hk
    | false =>
      simp
      rw [S130x1q]
      simpa using hk
  intro r
  induction r with
  | nil =>
    intro i x s0 s1 s2 s3 s4 s6 s7 s8 s10 s11 s12 s13 s14 s15 s16 s17 s18 s19 s20 s21 s22 s23 s24 s25 s26 s27 s28 s29 s30 s31 s32 s36 s37 s38 s39 s40 s41 s42 s43 s44 s45 s46 s47 s48 s49 s50 s51 s52 s53 s54 s55 s56 hdr hi hx1 hx2 hw
    have hle : l.length ≤ i := by simpa using hdr
    rw [List.length_nil, L130x0q]
    have : ¬ i < l.length := by omega
    simp [this]
    rw [B130x1q]
    simp only [digF] at hw
    subst hw
    exact tail _ _ _ _ _ _ _ _ _ _ _ _ _ _ _ _ _ _ _ _ _ _ _ _ _ _ _ _ _ _ _ _ _ _ _ _ _ _ _ _ _ _ _ _ _ _ _ _ _ _ _ _ _ _ _ hx1 hx2
  | cons d r ih =>
    intro i x s0 s1 s2 s3 s4 s6 s7 s8 s10 s11 s12 s13 s14 s15 s16 s17 s18 s19 s20 s21 s22 s23 s24 s25 s26 s27 s28 s29 s30 s31 s32 s36 s37 s38 s39 s40 s41 s42 s43 s44 s45 s46 s47 s48 s49 s50 s51 s52 s53 s54 s55 s56 hdr hi hx1 hx2 hw
    have hb : l[i]? = some d := by rw [← List.head?_drop, hdr]; rfl
    have hlt : i < l.length := (List.getElem?_eq_some_iff.1 hb).1
    have hdd := hd d (List.mem_of_getElem? hb)
    have hd' : (∀ b ∈ r, isDig b = true) := fun b hb' => hd b (List.mem_of_mem_drop (by rw [hdr]; simp [hb']))
    simp only [isDig, Bool.and_eq_true, decide_eq_true_eq] at hdd
    obtain ⟨q, hp1, hp2⟩ := ha.load1 (P := Tryz.prog) (T := 55) (te := 5) (i := i) (x := byt d) (by simp) (by simp) (by simp) (by rw [List.getElem?_map, hb]; rfl)
    have w1 : IntKind.u8.wrap ((d.toNat : Int) - 48) = (d.toNat : Int) - 48 := wrap_u8 (by omega) (by omega)
    have w2 : IntKind.i64.wrap ((d.toNat : Int) - 48) = (d.toNat : Int) - 48 := wrap_i64 (by omega) (by omega)
    have w3 : IntKind.i64.wrap (4611686018427387903 - ((d.toNat : Int) - 48)) = 4611686018427387903 - ((d.toNat : Int) - 48) := wrap_i64 (by omega) (by omega)
    have htd : (4611686018427387903 - ((d.toNat : Int) - 48)).tdiv 10 = (4611686018427387903 - ((d.toNat : Int) - 48)) / 10 := Int.tdiv_eq_ediv_of_nonneg (by omega)
    have w4 : IntKind.i64.wrap ((4611686018427387903 - ((d.toNat : Int) - 48)).tdiv 10) = (4611686018427387903 - ((d.toNat : Int) - 48)).tdiv 10 := by rw [htd]; exact wrap_i64 (by omega) (by omega)
    rw [List.length_cons, L130x0q]
    rw [digF] at hw
    simp only [maxFix] at hx2
    simp [hlt, hp1, hp2, w1, w2, w3, aBin_quo, w4, convV_int]
    refine kifB_bool (fun h => ?_) (fun h => ?_)
    · simp only [decide_eq_true_eq] at h
      rw [if_pos (show x > (maxFix - ((d.toNat : Int) - 48)).tdiv 10 from h)] at hw
      subst hw
      simp
      rw [B130x0q]
      exact tail _ _ _ _ _ _ _ _ _ _ _ _ _ _ _ _ _ _ _ _ _ _ _ _ _ _ _ _ _ _ _ _ _ _ _ _ _ _ _ _ _ _ _ _ _ _ _ _ _ _ _ _ _ _ _ (by simp [maxFix]) (by simp [maxFix])
    · simp only [decide_eq_false_iff_not] at h
      rw [if_neg (show ¬ x > (maxFix - ((d.toNat : Int) - 48)).tdiv 10 from h)] at hw
      rw [htd] at h
      have hx10 : x ≤ (4611686018427387903 - ((d.toNat : Int) - 48)) / 10 := by omega
      have h10 : 10 * x + ((d.toNat : Int) - 48) ≤ 4611686018427387903 := by omega
      have w5 : IntKind.i64.wrap (10 * x) = 10 * x := wrap_i64 (by omega) (by omega)
      have w6 : IntKind.i64.wrap (10 * x + ((d.toNat : Int) - 48)) = 10 * x + ((d.toNat : Int) - 48) := wrap_i64 (by omega) (by omega)
      simp [w1, w2, w5, w6, convV_int, show i + 1 < 2 ^ 63 by omega]
      exact ih (i + 1) _ _ _ _ _ _ _ _ _ _ _ _ _ _ _ _ _ _ _ _ _ _ _ _ _ _ _ _ _ _ _ _ _ _ _ _ _ _ _ _ _ _ _ _ _ _ _ _ _ _ _ _ _ (by rw [← List.drop_drop, hdr]; rfl) hlt (by omega) (by simp only [maxFix]; omega) hw
theorem c_fixParse {s : List UInt8} {H : AHeap} (hs : s.length < 2 ^ 59) : ACalls Tryz.prog 130 [str s] H (.tuple #[i64 (parF s).1, i64 (parF s).2]) H := by
  refine acallsT_pure MixT Tryz.func130 (by decide) rfl ?_
  rw [d130]
  refine bndC_of (c_cutPrefix _ _ [45]) ?_
  simp
  have hcl : (cutPre s [45]).length ≤ s.length := by unfold cutPre; split <;> simp
  refine bndC_of (c_cut (by omega)) ?_
  generalize hc : cutF (cutPre s [45]) = c
  obtain ⟨wh, pa, ok⟩ := c
  simp [cutV]
  have hpar : parF s = if ok = true then (if hasPre s [45] = true then -(digF 0 (wh ++ pa ++ List.replicate (3 - pa.length) 48)) else digF 0 (wh ++ pa ++ List.replicate (3 - pa.length) 48), 0) else (0, 10) := by
    unfold parF; simp only [hc]
  generalize parF s = res at hpar ⊢
  cases ok with
  | false => simp [hpar]
  | true =>
    obtain ⟨k1, k2, k3⟩ := cutF_ok (s := cutPre s [45]) (by rw [hc])
    rw [hc] at k1 k2 k3
    dsimp only at k1 k2 k3
    simp only [if_true] at hpar
    have hw : IntKind.i64.wrap (3 - (pa.length : Int)) = ((3 - pa.length : Nat) : Int) := by rw [wrap_i64 (by omega) (by omega)]; omega
    have e1 := fun X Y => aBin_str (P := Tryz.prog) (H := H) (T := 9) (x := X) (y := Y) (a := wh) (b := pa) (by omega)
    simp [hw, e1]
    refine bndC_of (c_repeat0 _ _ (by omega)) ?_
    have e2 := fun X Y => aBin_str (P := Tryz.prog) (H := H) (T := 9) (x := X) (y := Y) (a := wh ++ pa) (b := List.replicate (3 - pa.length) 48) (by simp; omega)
    simp only [e2, bnd_some]
    generalize hD : wh ++ pa ++ List.replicate (3 - pa.length) 48 = D at hpar
    have hDl : D.length < 2 ^ 61 := by rw [← hD]; simp; omega
    have hDd : ∀ b ∈ D, isDig b = true := by
      intro b hb
      rw [← hD] at hb
      rcases List.mem_append.1 hb with hb | hb
      · exact k1 b hb
      · rw [(List.mem_replicate.1 hb).2]; decide
    have hcv : aConv Tryz.prog H 9 55 (str D) = some (.slice (some ⟨H.length, 0, some D.length⟩) D.length D.length, H ++ [.ro (bytesL ⟨D.toArray⟩)]) := by
      have hu : isU8 Tryz.prog 5 = true := by kernel_rfl
      simp [aConv, hu]
    simp [hcv]
    refine ⟨D.length + 1, dig_loop (less := hasPre s [45]) (arr_bytes D) hDl hDd (digF 0 D) ?_ D 0 0 _ _ _ _ _ _ _ _ _ _ _ _ _ _ _ _ _ _ _ _ _ _ _ _ _ _ _ _ _ _ _ _ _ _ _ _ _ _ _ _ _ _ _ _ _ _ _ _ _ _ _ _ rfl (by omega) (by omega) (by simp [maxFix]) rfl⟩
    rw [hpar]
    exact ⟨by split <;> rfl, [_], rfl⟩
end Go.Vi
namespace Go.Vi
open Go Go.Proofs

def natF (n : Int) : List UInt8 → Int
  | [] => n
  | d :: r => natF (10 * n + ((d.toNat : Int) - 48)) r
theorem atoi_loop {H : AHeap} {v : Value} {l : List UInt8} {k : Value → AHeap → Prop} (ha : Arr H 1 v (l.map fun b => [byt b])) (hl : l.length ≤ 18) (h1 : 1 ≤ l.length) (hd : ∀ b ∈ l, isDig b = true) (w : Int)
    (hk : k (.tuple #[i64 w, .nilIface]) H) :
    ∀ (r : List UInt8) (i : Nat) (n : Int) (s0 s1 s2 s3 s4 s7 s8 s9 s10 s11 s12 s13 s14 s15 s16 s17 s18 s19 s20 s21 s22 s23 s24 s25 s26 s27 s28 s29 s30 s31 s32 s33 s34 s35 s36 s37 s38 s39 s40 s41 s42 s43 s44 s45 s46 s50 s51 s52 s53 s54 s55 s56 s57 s58 s59 s60 s61 s62 s63 s64 s65 s66 s67 s68 s69 s70 s71 s72 s73 s74 s75 s76 : Value), l.drop i = r → i ≤ l.length → 0 ≤ n → n < 10 ^ i → w = natF n r →
      L153x0 (r.length + 1) k [s0, s1, s2, s3, s4, str l, i64 n, s7, s8, s9, s10, s11, s12, s13, s14, s15, s16, s17, s18, s19, s20, s21, s22, s23, s24, s25, s26, s27, s28, s29, s30, s31, s32, s33, s34, s35, s36, s37, s38, s39, s40, s41, s42, s43, s44, s45, s46, v, i64 l.length, i64 i, s50, s51, s52, s53, s54, s55, s56, s57, s58, s59, s60, s61, s62, s63, s64, s65, s66, s67, s68, s69, s70, s71, s72, s73, s74, s75, s76] H := by
  intro r
  induction r with
  | nil =>
    intro i n s0 s1 s2 s3 s4 s7 s8 s9 s10 s11 s12 s13 s14 s15 s16 s17 s18 s19 s20 s21 s22 s23 s24 s25 s26 s27 s28 s29 s30 s31 s32 s33 s34 s35 s36 s37 s38 s39 s40 s41 s42 s43 s44 s45 s46 s50 s51 s52 s53 s54 s55 s56 s57 s58 s59 s60 s61 s62 s63 s64 s65 s66 s67 s68 s69 s70 s71 s72 s73 s74 s75 s76 hdr hi hn1 hn2 hw
    have hle : l.length ≤ i := by simpa using hdr
    rw [List.length_nil, L153x0q]
    have : ¬ i < l.length := by omega
    obtain ⟨b0, hb0⟩ : ∃ b, l[0]? = some b := ⟨_, List.getElem?_eq_getElem (by omega)⟩
    have hix := aIndex_at (P := Tryz.prog) (T := 9) (k := .i64) (i := 0) (by simp) hb0
    have hdd := hd b0 (List.mem_of_getElem? hb0)
    simp only [isDig, Bool.and_eq_true, decide_eq_true_eq] at hdd
    have h45 : ((b0.toNat : Int) == 45) = false := by simp; omega
    simp only [natF] at hw
    subst hw
    simp at hix
    simp [this, hix, h45]
    rw [S153x1q]
    exact hk
  | cons d r ih =>
    intro i n s0 s1 s2 s3 s4 s7 s8 s9 s10 s11 s12 s13 s14 s15 s16 s17 s18 s19 s20 s21 s22 s23 s24 s25 s26 s27 s28 s29 s30 s31 s32 s33 s34 s35 s36 s37 s38 s39 s40 s41 s42 s43 s44 s45 s46 s50 s51 s52 s53 s54 s55 s56 s57 s58 s59 s60 s61 s62 s63 s64 s65 s66 s67 s68 s69 s70 s71 s72 s73 s74 s75 s76 hdr hi hn1 hn2 hw
    have hb : l[i]? = some d := by rw [← List.head?_drop, hdr]; rfl
    have hlt : i < l.length := (List.getElem?_eq_some_iff.1 hb).1
    have hdd := hd d (List.mem_of_getElem? hb)
    simp only [isDig, Bool.and_eq_true, decide_eq_true_eq] at hdd
    obtain ⟨q, hp1, hp2⟩ := ha.load1 (P := Tryz.prog) (T := 55) (te := 5) (i := i) (x := byt d) (by simp) (by simp) (by simp) (by rw [List.getElem?_map, hb]; rfl)
    have w1 : IntKind.u8.wrap ((d.toNat : Int) - 48) = (d.toNat : Int) - 48 := wrap_u8 (by omega) (by omega)
    have w2 : IntKind.i64.wrap ((d.toNat : Int) - 48) = (d.toNat : Int) - 48 := wrap_i64 (by omega) (by omega)
    have hp : (10 : Int) ^ (i + 1) ≤ 10 ^ 18 := by exact_mod_cast Nat.pow_le_pow_right (by omega : 0 < 10) (by omega : i + 1 ≤ 18)
    have hpe : (10 : Int) ^ (i + 1) = 10 ^ i * 10 := Int.pow_succ ..
    have w3 : IntKind.i64.wrap (n * 10) = n * 10 := wrap_i64 (by omega) (by omega)
    have w4 : IntKind.i64.wrap (n * 10 + ((d.toNat : Int) - 48)) = n * 10 + ((d.toNat : Int) - 48) := wrap_i64 (by omega) (by omega)
    have h9 : ¬ (9 < (d.toNat : Int) - 48) := by omega
    rw [List.length_cons, L153x0q]
    simp [hlt, hp1, hp2, w1, w2, w3, w4, h9, convV_int, show i + 1 < 2 ^ 63 by omega]
    exact ih (i + 1) _ _ _ _ _ _ _ _ _ _ _ _ _ _ _ _ _ _ _ _ _ _ _ _ _ _ _ _ _ _ _ _ _ _ _ _ _ _ _ _ _ _ _ _ _ _ _ _ _ _ _ _ _ _ _ _ _ _ _ _ _ _ _ _ _ _ _ _ _ _ _ _ _ (by rw [← List.drop_drop, hdr]; rfl) hlt (by omega) (by omega) (by rw [hw, natF]; congr 1; omega)
theorem c_atoi0 {H : AHeap} {l : List UInt8} (hl : l.length ≤ 18) (h1 : 1 ≤ l.length) (hd : ∀ b ∈ l, isDig b = true) : ACalls Tryz.prog 153 [str l] H (.tuple #[i64 (natF 0 l), .nilIface]) H := by
  refine acallsT_pure MixT Tryz.func153 (by decide) rfl ?_
  rw [d153]
  obtain ⟨b0, hb0⟩ : ∃ b, l[0]? = some b := ⟨_, List.getElem?_eq_getElem (by omega)⟩
  have hix := aIndex_at (P := Tryz.prog) (T := 9) (k := .i64) (i := 0) (by simp) hb0
  have hdd := hd b0 (List.mem_of_getElem? hb0)
  simp only [isDig, Bool.and_eq_true, decide_eq_true_eq] at hdd
  have h45 : ((b0.toNat : Int) == 45) = false := by simp; omega
  have h43 : ((b0.toNat : Int) == 43) = false := by simp; omega
  have q1 : (0 : Int) < l.length := by omega
  have q2 : (l.length : Int) < 19 := by omega
  have q3 : 0 < l.length := by omega
  simp at hix
  simp [q2, q3, hix, h45, h43]
  rw [S153x0q]
  have hcv : aConv Tryz.prog H 9 55 (str l) = some (.slice (some ⟨H.length, 0, some l.length⟩) l.length l.length, H ++ [.ro (bytesL ⟨l.toArray⟩)]) := by
    have hu : isU8 Tryz.prog 5 = true := by kernel_rfl
    simp [aConv, hu]
  simp [hcv]
  exact ⟨l.length + 1, atoi_loop (arr_bytes l) hl h1 hd (natF 0 l) ⟨rfl, [_], rfl⟩ l 0 0 _ _ _ _ _ _ _ _ _ _ _ _ _ _ _ _ _ _ _ _ _ _ _ _ _ _ _ _ _ _ _ _ _ _ _ _ _ _ _ _ _ _ _ _ _ _ _ _ _ _ _ _ _ _ _ _ _ _ _ _ _ _ _ _ _ _ _ _ _ _ _ _ rfl (by omega) (by omega) (by omega) rfl⟩
/-! ### A comparison without matchers -/
structure CmpAt (ts : List Tok) (a i : Nat) (w : Int) (j : Nat) (x : Int) : Prop where
  t0 : ∃ t, ts[a]? = some t ∧ t.kind = 1 ∧ aggs[i]? = some t.text
  s1 : isT ts (a + 1) 4 [40] = true
  s2 : isT ts (a + 2) 4 [123] = true
  s3 : isT ts (a + 3) 4 [125] = true
  s4 : isT ts (a + 4) 4 [91] = true
  t5 : ∃ t, ts[a + 5]? = some t ∧ t.kind = 2 ∧ t.text.length ≤ 18 ∧ 1 ≤ t.text.length ∧ (∀ b ∈ t.text, isDig b = true) ∧ natF 0 t.text = w ∧ 1 ≤ w ∧ w ≤ 1000
  s6 : isT ts (a + 6) 4 [93] = true
  s7 : isT ts (a + 7) 4 [41] = true
  t8 : ∃ t, ts[a + 8]? = some t ∧ t.kind = 4 ∧ cmps[j]? = some t.text
  n9 : isT ts (a + 9) 4 [45] = false
  t9 : ∃ t, ts[a + 9]? = some t ∧ t.kind = 2 ∧ t.text.length < 2 ^ 49 ∧ parF t.text = (x, 0)
def cmpNod (i : Nat) (w : Int) (j : Nat) (x : Int) : Nod := ⟨0, UInt8.ofNat i, [], w, UInt8.ofNat j, x, 0, 0⟩
def nodZ : List Value := [.int .u8 0, .int .u8 0, .slice none 0 0, i64 0, .int .u8 0, i64 0, i64 0, i64 0]
structure CmpSt (H K L : AHeap) (rb : Nat) (lv : Value) (ts : List Tok) (a b0 b1 : Nat) (n : List Value) : Prop where
  rd : RdA H L rb lv ts a true
  f0 : L[b0]? = some (.cells nodZ 37)
  f1 : L[b1]? = some (.cells n 37)
  fr : ∀ (b : Nat) o, b ≠ rb → K[b]? = some o → L[b]? = some o
  len : K.length ≤ L.length
  k0 : rb < K.length
  k1 : K.length ≤ b0
  k2 : K.length ≤ b1
  k3 : b0 ≠ b1
theorem CmpSt.app {H K L rb lv ts a b0 b1 n} (h : CmpSt H K L rb lv ts a b0 b1 n) (X : AHeap) : CmpSt H K (L ++ X) rb lv ts a b0 b1 n :=
  ⟨h.rd.app X, get_more h.f0, get_more h.f1, fun b o hb ho => get_more (h.fr b o hb ho), by have := h.len; simp; omega, h.k0, h.k1, h.k2, h.k3⟩
theorem CmpSt.sto {H K L rb lv ts a b0 b1 n} (h : CmpSt H K L rb lv ts a b0 b1 n) (n' : List Value) : CmpSt H K (L.set b1 (.cells n' 37)) rb lv ts a b0 b1 n' := by
  have h1 := h.k0; have h2 := h.k1; have h3 := h.k2
  have hb1 := (List.getElem?_eq_some_iff.1 h.f1).1
  have hrd := h.rd
  refine ⟨⟨hrd.toks, hrd.pre.set (by have := hrd.pre; have := hrd.hb; omega), hrd.hb, by rw [List.getElem?_set_ne (by omega)]; exact hrd.cell, hrd.len, hrd.le⟩, by rw [List.getElem?_set_ne (Ne.symm h.k3)]; exact h.f0, by rw [List.getElem?_set_self hb1], fun b o hb ho => ?_, by simpa using h.len, h.k0, h.k1, h.k2, h.k3⟩
  have hbk := (List.getElem?_eq_some_iff.1 ho).1
  rw [List.getElem?_set_ne (by omega)]
  exact h.fr b o hb ho
theorem CmpSt.fin {H K L rb lv ts a b0 b1 n} (h : CmpSt H K L rb lv ts a b0 b1 n) (n' : List Value) : RdA H (L.set b0 (.cells n' 37)) rb lv ts a true ∧ (∀ (b : Nat) o, b ≠ rb → K[b]? = some o → (L.set b0 (.cells n' 37))[b]? = some o) ∧ K.length ≤ (L.set b0 (.cells n' 37)).length := by
  have h1 := h.k0; have h2 := h.k1; have h3 := h.k2
  have hrd := h.rd
  refine ⟨⟨hrd.toks, hrd.pre.set (by have := hrd.hb; omega), hrd.hb, by rw [List.getElem?_set_ne (by omega)]; exact hrd.cell, hrd.len, hrd.le⟩, fun b o hb ho => ?_, by simpa using h.len⟩
  have hbk := (List.getElem?_eq_some_iff.1 ho).1
  rw [List.getElem?_set_ne (by omega)]
  exact h.fr b o hb ho
theorem CmpSt.hl {H K L rb lv ts a b0 b1 n} (h : CmpSt H K L rb lv ts a b0 b1 n) : hlen L b1 = some n.length := by unfold hlen; rw [h.f1]; rfl
theorem CmpSt.hc {H K L rb lv ts a b0 b1 n} (h : CmpSt H K L rb lv ts a b0 b1 n) : hcells L b1 = some n := by rw [hcells_eq, h.f1]; rfl
theorem arr_strs {H : AHeap} (l : List (List UInt8)) (T : TypeId) (n : Nat) (hn : n = l.length) : Arr (H ++ [AObj.cells (l.map str) T]) 1 (.slice (some ⟨H.length, 0, some n⟩) n n) (strCells l) := by
  subst hn
  refine .mk H.length 0 _ _ _ (l.map str) _ (by simp [strCells]) (by simp [hcells_eq, AObj.rcells]) (by simp) (by simp) fun i e hi => ?_
  simp [strCells] at hi
  obtain ⟨b, hb, rfl⟩ := hi
  rw [Nat.zero_add, Nat.mul_one, ← List.map_drop, ← List.map_take]
  have : (l.drop i).take 1 = [b] := by
    have hlt := (List.getElem?_eq_some_iff.1 hb).1
    rw [List.drop_eq_getElem_cons hlt, (List.getElem?_eq_some_iff.1 hb).2]; rfl
  rw [this]; rfl
end Go.Vi
namespace Go.Vi
open Go Go.Proofs

/-- A package variable that lies in the memory. -/
theorem aLoad_gl {P : Program} {H : AHeap} {T : TypeId} {g o b n : Nat} (h : gFind H g 0 = some (b, n)) : aLoad P H T (.pointer (some ⟨g, o, none⟩)) = aLoad P H T (.pointer (some ⟨b, o, some n⟩)) := by
  unfold aLoad deG; simp only [h]
theorem aIndexAddr_gl {P : Program} {H : AHeap} {T : TypeId} {g o b n : Nat} {x : Value} (h : gFind H g 0 = some (b, n)) : aIndexAddr P H T (.pointer (some ⟨g, o, none⟩)) x = aIndexAddr P H T (.pointer (some ⟨b, o, some n⟩)) x := by
  unfold aIndexAddr deG; simp only [h]
/-- The package variables that are read: the errors of numbers, the powers of ten. -/
def pow10s : List Value := (List.range 20).map fun i => .int .u64 (10 ^ i)
def Gs : AHeap := [.gl 2 [unkV], .gl 3 [unkV], .gl 1 pow10s]
theorem gs_syn {H : AHeap} (h : Pre Gs H) : gFind H 2 0 = some (0, 1) ∧ hcells H 0 = some [unkV] := by
  obtain ⟨X, rfl⟩ := h; exact ⟨gFind_app (by rfl), hcells_more (by rfl)⟩
theorem gs_ran {H : AHeap} (h : Pre Gs H) : gFind H 3 0 = some (1, 1) ∧ hcells H 1 = some [unkV] := by
  obtain ⟨X, rfl⟩ := h; exact ⟨gFind_app (by rfl), hcells_more (by rfl)⟩
theorem gs_pow {H : AHeap} (h : Pre Gs H) : gFind H 1 0 = some (2, 20) ∧ hcells H 2 = some pow10s := by
  obtain ⟨X, rfl⟩ := h; exact ⟨gFind_app (by rfl), hcells_more (by rfl)⟩
theorem unk_sto : storable unkV = true := rfl
theorem unk_cel : unkV.cells = #[unkV] := rfl
theorem c_clone (H : AHeap) {s : List UInt8} (hs : s.length < 2 ^ 40) : ACalls Tryz.prog 189 [str s] H (str s) H := by
  refine acalls_pure MixT Tryz.func189 (by decide) rfl ?_
  rw [d189]
  cases s with
  | nil => simp
  | cons b r =>
    simp only [List.length_cons] at hs
    have hz : zcells Tryz.prog 5 = some #[.int .u8 0] := by kernel_rfl
    have h1 : ¬ ((r.length : Int) + 1 = 0) := by omega
    have h2 : (r.length : Int) + 1 ≤ 9223372036854775807 := by omega
    have h3 : (r.length : Int) + 1 ≤ 140737488355328 := by omega
    have hmk : aMake Tryz.prog H 55 (i64 ((r.length : Int) + 1)) (i64 ((r.length : Int) + 1)) = some (.slice (some ⟨H.length, 0, some (r.length + 1)⟩) (r.length + 1) (r.length + 1), H ++ [.cells (repCells #[.int .u8 0] (r.length + 1)).toList 5]) := by
      have e : ((r.length : Int) + 1).toNat = r.length + 1 := by omega
      simp [aMake, hz, h2, h3, e]
      omega
    have hrl : (repCells #[.int .u8 0] (r.length + 1)).toList.length = r.length + 1 := by simp [repCells]
    have h1' : ((r.length : Int) + 1 == 0) = false := by simpa using h1
    have hce : Tryz.prog.cellsOf 5 = 1 := by kernel_rfl
    have hu : u8l (bcells (b :: r)) = some (b :: r) := u8l_bcells _
    have hcp : aBuiltin Tryz.prog (H ++ [.cells (repCells #[.int .u8 0] (r.length + 1)).toList 5]) .copy #[55, 9] [.slice (some ⟨H.length, 0, some (r.length + 1)⟩) (r.length + 1) (r.length + 1), str (b :: r)] =
        some (i64 ((r.length : Int) + 1), H ++ [.cells (bcells (b :: r)) 5]) := by
      simp [aBuiltin, aCopy, aSrc, hrl, bytesL, bcells]
    have hbl : (bcells (b :: r)).length = r.length + 1 := by simp [bcells]
    have htk : (bcells (b :: r)).take (r.length + 1) = bcells (b :: r) := by rw [← hbl, List.take_length]
    have e2 : ((r.length : Int) + 1).toNat = r.length + 1 := by omega
    have hus : aBuiltin Tryz.prog (H ++ [.cells (bcells (b :: r)) 5]) .unsafeString #[157, 3] [.pointer (some ⟨H.length, 0, some (r.length + 1)⟩), i64 ((r.length : Int) + 1)] = some (str (b :: r), H ++ [.ro (bcells (b :: r))]) := by
      simp [aBuiltin, aUnsafeString, hce, hbl, h2, e2, htk, hu]
    have hia : aIndexAddr Tryz.prog (H ++ [.cells (bcells (b :: r)) 5]) 55 (.slice (some ⟨H.length, 0, some (r.length + 1)⟩) (r.length + 1) (r.length + 1)) (.int .i64 0) = some (.pointer (some ⟨H.length, 0, some (r.length + 1)⟩)) := by
      rw [aIndexAddr_eq (e := 5) (z := 1) (by simp) (by simp) (by simp [hbl]) (by omega) (by omega)]; rfl
    simp [h1', hmk, hcp, hia, hus]
theorem c_synErr {H : AHeap} (hg : Pre Gs H) {s f : List UInt8} (hs : s.length < 2 ^ 40) :
    ∃ v K', (∃ p, v = .pointer (some p)) ∧ Pre H K' ∧ ACalls Tryz.prog 175 [str f, str s] H v K' := by
  suffices h : ∃ v K', ((∃ p, v = .pointer (some p)) ∧ Pre H K') ∧ ACalls Tryz.prog 175 [str f, str s] H v K' by
    obtain ⟨v, K', ⟨h1, h2⟩, h3⟩ := h; exact ⟨v, K', h1, h2, h3⟩
  refine acalls_ex MixT Tryz.func175 (by decide) ?_
  rw [d175]
  obtain ⟨g1, g2⟩ := gs_syn hg
  refine bndD_same (c_clone H hs) ?_
  simp [aLoad_gl g1, g2, unk_sto, unk_cel]
  refine bndD_of (v := _) (H' := _) (aNew_agg rfl) (.inl rfl) ?_
  exact ⟨⟨_, rfl⟩, .app _ _⟩
theorem c_ranErr {H : AHeap} (hg : Pre Gs H) {s f : List UInt8} (hs : s.length < 2 ^ 40) :
    ∃ v K', (∃ p, v = .pointer (some p)) ∧ Pre H K' ∧ ACalls Tryz.prog 176 [str f, str s] H v K' := by
  suffices h : ∃ v K', ((∃ p, v = .pointer (some p)) ∧ Pre H K') ∧ ACalls Tryz.prog 176 [str f, str s] H v K' by
    obtain ⟨v, K', ⟨h1, h2⟩, h3⟩ := h; exact ⟨v, K', h1, h2, h3⟩
  refine acalls_ex MixT Tryz.func176 (by decide) ?_
  rw [d176]
  obtain ⟨g1, g2⟩ := gs_ran hg
  refine bndD_same (c_clone H hs) ?_
  simp [aLoad_gl g1, g2, unk_sto, unk_cel]
  refine bndD_of (v := _) (H' := _) (aNew_agg rfl) (.inl rfl) ?_
  exact ⟨⟨_, rfl⟩, .app _ _⟩
abbrev nerr (n : Int) : Value := .iface 205 (i64 n)
theorem nerr_eql (H : AHeap) (x y : Operand) : aBin2 Tryz.prog H .eql 118 x y (nerr 2) (nerr 2) = some (.bool true) ∧ aBin2 Tryz.prog H .eql 118 x y (nerr 1) (nerr 2) = some (.bool false) ∧ aBin2 Tryz.prog H .eql 118 x y (nerr 1) (nerr 1) = some (.bool true) := ⟨by kernel_rfl, by kernel_rfl, by kernel_rfl⟩
theorem nerr_neq (H : AHeap) (x y : Operand) : aBin2 Tryz.prog H .neq 118 x y (nerr 1) (nerr 1) = some (.bool false) ∧ aBin2 Tryz.prog H .neq 118 x y (nerr 2) (nerr 1) = some (.bool true) := ⟨by kernel_rfl, by kernel_rfl⟩
theorem nerr_nil (H : AHeap) (x : Operand) (c : Value) (n : Int) : aBin2 Tryz.prog H .neq 118 x (.const c) (nerr n) .nilIface = some (.bool true) := by kernel_rfl
theorem c_toError {H : AHeap} (hg : Pre Gs H) {s f : List UInt8} {n a b : Int} (hn : n = 1 ∨ n = 2) (hs : s.length < 2 ^ 40) :
    ∃ v K', (∃ p, v = .iface 208 (.pointer (some p))) ∧ Pre H K' ∧ ACalls Tryz.prog 154 [str f, str s, i64 a, i64 b, nerr n] H v K' := by
  suffices h : ∃ v K', ((∃ p, v = .iface 208 (.pointer (some p))) ∧ Pre H K') ∧ ACalls Tryz.prog 154 [str f, str s, i64 a, i64 b, nerr n] H v K' by
    obtain ⟨v, K', ⟨h1, h2⟩, h3⟩ := h; exact ⟨v, K', h1, h2, h3⟩
  refine acalls_ex MixT Tryz.func154 (by decide) ?_
  rw [d154]
  rcases hn with rfl | rfl
  · obtain ⟨v, K', ⟨p, rfl⟩, h2, h3⟩ := c_ranErr (f := f) hg hs
    simp [nerr_eql]
    exact bndC_of h3 ⟨⟨_, rfl⟩, h2⟩
  · obtain ⟨v, K', ⟨p, rfl⟩, h2, h3⟩ := c_synErr (f := f) hg hs
    simp [nerr_eql]
    exact bndC_of h3 ⟨⟨_, rfl⟩, h2⟩
/-! ### Unsigned numbers -/
def maxU : Int := 18446744073709551615
theorem c_lower46 (H : AHeap) : ACalls Tryz.prog 197 [.int .u8 46] H (.int .u8 46) H := by
  refine acalls_pure MixT Tryz.func197 (by decide) rfl ?_
  rw [d197]
  refine bnd_of (v := .int .u8 46) (by kernel_rfl) ?_
  exact ⟨rfl, [], by simp⟩
/-- The number that is read, or what is told against it (1: too great, 2: no number). -/
def puF (n : Int) : List UInt8 → Int × Int
  | [] => (n, 0)
  | d :: r => if isDig d = false then (0, 2) else if n ≥ 1844674407370955162 then (maxU, 1) else if n * 10 + ((d.toNat : Int) - 48) > maxU then (maxU, 1) else puF (n * 10 + ((d.toNat : Int) - 48)) r
def perr (c : Int) : Value := if c = 0 then .nilIface else nerr c
theorem perr_clos (c : Int) : clos (perr c) = true := by unfold perr; split <;> rfl
theorem pu_loop {H : AHeap} {v : Value} {l : List UInt8} {k : Value → AHeap → Prop} (ha : Arr H 1 v (l.map fun b => [byt b])) (hl : l.length < 2 ^ 62) (hd : ∀ b ∈ l, isDig b = true ∨ b = 46) (w : Int × Int)
    (hk : k (.tuple #[.int .u64 w.1, perr w.2]) H) :
    ∀ (r : List UInt8) (i : Nat) (n : Int) (s0 s2 s3 s4 s5 s6 s7 s9 s14 s15 s16 s17 s18 s19 s20 s21 s22 s23 s24 s25 s26 s27 s28 s29 s30 s31 s32 s33 s34 s35 s36 s37 s38 s39 s40 s41 s42 s43 s44 s45 s46 s47 s48 s49 s50 s51 s52 s53 s54 s55 s56 s57 s58 s59 s60 s61 s62 s63 s64 s65 s66 s67 s68 s69 s70 s71 s72 s73 s74 s75 s76 s77 s78 s79 s80 s81 s82 s83 s84 s85 s86 s87 s88 s89 s90 s91 s92 s93 s94 s95 s96 s97 s98 s102 s103 s104 s105 s106 s107 s108 s109 s110 s111 s112 s113 s114 s115 s116 s117 s118 s119 s120 s121 s122 s123 s124 s125 s126 s127 s128 s129 s130 s131 s132 s133 s134 s135 s136 s137 s138 s139 s140 s141 s142 s143 s144 s145 s146 s147 s148 s149 s150 s151 s152 s153 s154 s155 s156 s157 s158 s159 s160 s161 s162 s163 s164 s165 s166 s167 s168 s169 s170 s171 : Value), l.drop i = r → i ≤ l.length → 0 ≤ n → n ≤ maxU → w = puF n r →
      L188x0 (r.length + 1) k [s0, i64 10, s2, s3, s4, s5, s6, s7, .bool false, s9, .int .u64 1844674407370955162, .int .u64 18446744073709551615, .bool false, .int .u64 n, s14, s15, s16, s17, s18, s19, s20, s21, s22, s23, s24, s25, s26, s27, s28, s29, s30, s31, s32, s33, s34, s35, s36, s37, s38, s39, s40, s41, s42, s43, s44, s45, s46, s47, s48, s49, s50, s51, s52, s53, s54, s55, s56, s57, s58, s59, s60, s61, s62, s63, s64, s65, s66, s67, s68, s69, s70, s71, s72, s73, s74, s75, s76, s77, s78, s79, s80, s81, s82, s83, s84, s85, s86, s87, s88, s89, s90, s91, s92, s93, s94, s95, s96, s97, s98, v, i64 l.length, i64 i, s102, s103, s104, s105, s106, s107, s108, s109, s110, s111, s112, s113, s114, s115, s116, s117, s118, s119, s120, s121, s122, s123, s124, s125, s126, s127, s128, s129, s130, s131, s132, s133, s134, s135, s136, s137, s138, s139, s140, s141, s142, s143, s144, s145, s146, s147, s148, s149, s150, s151, s152, s153, s154, s155, s156, s157, s158, s159, s160, s161, s162, s163, s164, s165, s166, s167, s168, s169, s170, s171] H := by
  intro r
  induction r with
  | nil =>
    intro i n s0 s2 s3 s4 s5 s6 s7 s9 s14 s15 s16 s17 s18 s19 s20 s21 s22 s23 s24 s25 s26 s27 s28 s29 s30 s31 s32 s33 s34 s35 s36 s37 s38 s39 s40 s41 s42 s43 s44 s45 s46 s47 s48 s49 s50 s51 s52 s53 s54 s55 s56 s57 s58 s59 s60 s61 s62 s63 s64 s65 s66 s67 s68 s69 s70 s71 s72 s73 s74 s75 s76 s77 s78 s79 s80 s81 s82 s83 s84 s85 s86 s87 s88 s89 s90 s91 s92 s93 s94 s95 s96 s97 s98 s102 s103 s104 s105 s106 s107 s108 s109 s110 s111 s112 s113 s114 s115 s116 s117 s118 s119 s120 s121 s122 s123 s124 s125 s126 s127 s128 s129 s130 s131 s132 s133 s134 s135 s136 s137 s138 s139 s140 s141 s142 s143 s144 s145 s146 s147 s148 s149 s150 s151 s152 s153 s154 s155 s156 s157 s158 s159 s160 s161 s162 s163 s164 s165 s166 s167 s168 s169 s170 s171 hdr hi hn1 hn2 hw
    have hle : l.length ≤ i := by simpa using hdr
    rw [List.length_nil, L188x0q]
    have : ¬ i < l.length := by omega
    simp only [puF] at hw
    subst hw
    simp [this]
    exact hk
  | cons d r ih =>
    intro i n s0 s2 s3 s4 s5 s6 s7 s9 s14 s15 s16 s17 s18 s19 s20 s21 s22 s23 s24 s25 s26 s27 s28 s29 s30 s31 s32 s33 s34 s35 s36 s37 s38 s39 s40 s41 s42 s43 s44 s45 s46 s47 s48 s49 s50 s51 s52 s53 s54 s55 s56 s57 s58 s59 s60 s61 s62 s63 s64 s65 s66 s67 s68 s69 s70 s71 s72 s73 s74 s75 s76 s77 s78 s79 s80 s81 s82 s83 s84 s85 s86 s87 s88 s89 s90 s91 s92 s93 s94 s95 s96 s97 s98 s102 s103 s104 s105 s106 s107 s108 s109 s110 s111 s112 s113 s114 s115 s116 s117 s118 s119 s120 s121 s122 s123 s124 s125 s126 s127 s128 s129 s130 s131 s132 s133 s134 s135 s136 s137 s138 s139 s140 s141 s142 s143 s144 s145 s146 s147 s148 s149 s150 s151 s152 s153 s154 s155 s156 s157 s158 s159 s160 s161 s162 s163 s164 s165 s166 s167 s168 s169 s170 s171 hdr hi hn1 hn2 hw
    have hb : l[i]? = some d := by rw [← List.head?_drop, hdr]; rfl
    have hlt : i < l.length := (List.getElem?_eq_some_iff.1 hb).1
    obtain ⟨q, hp1, hp2⟩ := ha.load1 (P := Tryz.prog) (T := 55) (te := 5) (i := i) (x := byt d) (by simp) (by simp) (by simp) (by rw [List.getElem?_map, hb]; rfl)
    rw [List.length_cons, L188x0q]
    rcases hd d (List.mem_of_getElem? hb) with hdd | rfl
    · have hdd2 := hdd
      simp only [isDig, Bool.and_eq_true, decide_eq_true_eq] at hdd
      have w1 : IntKind.u8.wrap ((d.toNat : Int) - 48) = (d.toNat : Int) - 48 := wrap_u8 (by omega) (by omega)
      have h95 : ((d.toNat : Int) == 95) = false := by simp; omega
      have w10 : IntKind.u8.wrap 10 = 10 := by decide
      have v10 : IntKind.u64.wrap 10 = 10 := by decide
      have wu : ∀ x : Int, 0 ≤ x → x ≤ maxU → IntKind.u64.wrap x = x := by
        intro x h1 h2
        unfold maxU at h2
        unfold IntKind.wrap
        simp only [show IntKind.u64.bits = 64 from rfl, show IntKind.u64.signed = false from rfl]
        simp
        omega
      have w2 : IntKind.u64.wrap ((d.toNat : Int) - 48) = (d.toNat : Int) - 48 := wu _ (by omega) (by unfold maxU; omega)
      have h10 : ¬ ((d.toNat : Int) - 48 ≥ 10) := by omega
      simp only [puF, hdd2, Bool.true_eq_false, if_false] at hw
      simp [hlt, hp1, hp2, h95, hdd.1, hdd.2, w1]
      rw [S188x3q]
      have h10' : ¬ (10 ≤ (d.toNat : Int) - 48) := by omega
      simp [convV_int, w10, h10']
      refine kifB_bool (fun hc => ?_) (fun hc => ?_)
      · have hc' : n ≥ 1844674407370955162 := by simpa using hc
        rw [if_pos hc'] at hw
        subst hw
        exact hk
      · have hc' : ¬ n ≥ 1844674407370955162 := by simpa using hc
        rw [if_neg hc'] at hw
        have w3 : IntKind.u64.wrap (n * 10) = n * 10 := wu _ (by omega) (by unfold maxU; omega)
        by_cases hs : n * 10 + ((d.toNat : Int) - 48) > maxU
        · rw [if_pos hs] at hw
          subst hw
          have w4 : IntKind.u64.wrap (n * 10 + ((d.toNat : Int) - 48)) = n * 10 + ((d.toNat : Int) - 48) - 18446744073709551616 := by
            unfold maxU at hs
            unfold IntKind.wrap
            simp only [show IntKind.u64.bits = 64 from rfl, show IntKind.u64.signed = false from rfl]
            simp
            omega
          have h5 : n * 10 + ((d.toNat : Int) - 48) - 18446744073709551616 < n * 10 := by omega
          simp [v10, w2, w3, w4, h5]
          exact hk
        · rw [if_neg hs] at hw
          have w4 : IntKind.u64.wrap (n * 10 + ((d.toNat : Int) - 48)) = n * 10 + ((d.toNat : Int) - 48) := wu _ (by omega) (by omega)
          have h5 : ¬ n * 10 + ((d.toNat : Int) - 48) < n * 10 := by omega
          have h6 : ¬ (18446744073709551615 < n * 10 + ((d.toNat : Int) - 48)) := by unfold maxU at hs; omega
          simp [v10, w2, w3, w4, h5, h6]
          rw [S188x4q]
          simp [show i + 1 < 2 ^ 63 by omega]
          exact ih (i + 1) _ _ _ _ _ _ _ _ _ _ _ _ _ _ _ _ _ _ _ _ _ _ _ _ _ _ _ _ _ _ _ _ _ _ _ _ _ _ _ _ _ _ _ _ _ _ _ _ _ _ _ _ _ _ _ _ _ _ _ _ _ _ _ _ _ _ _ _ _ _ _ _ _ _ _ _ _ _ _ _ _ _ _ _ _ _ _ _ _ _ _ _ _ _ _ _ _ _ _ _ _ _ _ _ _ _ _ _ _ _ _ _ _ _ _ _ _ _ _ _ _ _ _ _ _ _ _ _ _ _ _ _ _ _ _ _ _ _ _ _ _ _ _ _ _ _ _ _ _ _ _ _ _ _ _ _ _ _ _ _ _ _ _ _ (by rw [← List.drop_drop, hdr]; rfl) hlt (by omega) (by omega) hw
    · simp only [puF, show isDig 46 = false by decide, if_true] at hw
      subst hw
      have e46 : ((46 : UInt8).toNat : Int) = 46 := rfl
      have hp2' : aLoad Tryz.prog H 5 q = some (.int .u8 46) := hp2
      simp [hlt, hp1, hp2']
      refine bndC_of (c_lower46 H) ?_
      simp
      exact hk
theorem c_parseUint {H : AHeap} {l : List UInt8} (hl : l.length < 2 ^ 40) (hne : l ≠ []) (hd : ∀ b ∈ l, isDig b = true ∨ b = 46) :
    ACalls Tryz.prog 188 [str l, i64 10, i64 0] H (.tuple #[.int .u64 (puF 0 l).1, perr (puF 0 l).2]) H := by
  refine acallsT_pure MixT Tryz.func188 (by decide) (by simp [flat, perr_clos]; rfl) ?_
  rw [d188]
  simp [hne]
  rw [S188x0q]
  simp
  rw [S188x1q]
  simp
  rw [S188x2q]
  have hcv : aConv Tryz.prog H 9 55 (str l) = some (.slice (some ⟨H.length, 0, some l.length⟩) l.length l.length, H ++ [.ro (bytesL ⟨l.toArray⟩)]) := by
    have hu : isU8 Tryz.prog 5 = true := by kernel_rfl
    simp [aConv, hu]
  have w1 : IntKind.u64.wrap 64 = 64 := by decide
  have w2 : ∀ (x y : Operand), aBin2 Tryz.prog H .shl 178 x y (.int .u64 1) (.int .u64 64) = some (.int .u64 0) := fun x y => by
    rw [aBin_shl _ _ _ _ _ _ _ (by omega)]; rfl
  have w3 : IntKind.u64.wrap (0 - 1) = 18446744073709551615 := by decide
  have w4 : IntKind.u64.wrap (-1) = 18446744073709551615 := by decide
  simp [convV_int, hcv, w1, w2, w4]
  exact ⟨l.length + 1, pu_loop (arr_bytes l) (by omega) hd (puF 0 l) ⟨rfl, [_], rfl⟩ l 0 0 _ _ _ _ _ _ _ _ _ _ _ _ _ _ _ _ _ _ _ _ _ _ _ _ _ _ _ _ _ _ _ _ _ _ _ _ _ _ _ _ _ _ _ _ _ _ _ _ _ _ _ _ _ _ _ _ _ _ _ _ _ _ _ _ _ _ _ _ _ _ _ _ _ _ _ _ _ _ _ _ _ _ _ _ _ _ _ _ _ _ _ _ _ _ _ _ _ _ _ _ _ _ _ _ _ _ _ _ _ _ _ _ _ _ _ _ _ _ _ _ _ _ _ _ _ _ _ _ _ _ _ _ _ _ _ _ _ _ _ _ _ _ _ _ _ _ _ _ _ _ _ _ _ _ _ _ _ _ _ _ _ _ _ rfl (by omega) (by omega) (by unfold maxU; omega) rfl⟩
/-! ### Numbers -/
/-- Of a text of digits and points: what is told against it as a number (0: nothing). -/
def piF (l : List UInt8) : Int × Int := if (puF 0 l).2 = 2 then (0, 2) else if (puF 0 l).1 ≥ 9223372036854775808 then (9223372036854775807, 1) else ((puF 0 l).1, 0)
theorem puF_cases : ∀ (l : List UInt8) (n : Int), 0 ≤ n → n ≤ maxU → ((puF n l).2 = 0 ∧ l.all isDig = true ∧ (puF n l).1 = natF n l ∧ 0 ≤ natF n l ∧ natF n l ≤ maxU) ∨ ((puF n l).2 = 1 ∧ (puF n l).1 = maxU ∧ (l.all isDig = true → maxU < natF n l)) ∨ ((puF n l).2 = 2 ∧ (puF n l).1 = 0 ∧ l.all isDig = false) := by
  intro l
  induction l with
  | nil => intro n h1 h2; exact .inl ⟨rfl, rfl, rfl, h1, h2⟩
  | cons d r ih =>
    intro n h1 h2
    have mono : ∀ (r : List UInt8) (m : Int), r.all isDig = true → maxU < m → maxU < natF m r := by
      intro r
      induction r with
      | nil => intro m _ h; exact h
      | cons e r ih2 =>
        intro m h hm
        simp only [List.all_cons, Bool.and_eq_true, isDig, decide_eq_true_eq] at h
        simp only [natF]
        refine ih2 _ (by simpa [isDig] using h.2) ?_
        unfold maxU at hm ⊢
        omega
    by_cases hd : isDig d = true
    · have hdd := hd
      simp only [isDig, Bool.and_eq_true, decide_eq_true_eq] at hdd
      have e : n * 10 + ((d.toNat : Int) - 48) = 10 * n + ((d.toNat : Int) - 48) := by omega
      simp only [puF, hd, Bool.true_eq_false, if_false, natF, List.all_cons, Bool.true_and, e]
      by_cases hc : n ≥ 1844674407370955162
      · rw [if_pos hc]
        exact .inr (.inl ⟨rfl, rfl, fun h => mono r _ h (by unfold maxU; omega)⟩)
      · rw [if_neg hc]
        by_cases hs : 10 * n + ((d.toNat : Int) - 48) > maxU
        · rw [if_pos hs]
          exact .inr (.inl ⟨rfl, rfl, fun h => mono r _ h hs⟩)
        · rw [if_neg hs]
          exact ih _ (by omega) (by omega)
    · have hd' : isDig d = false := by simpa using hd
      simp only [puF, hd', if_true, List.all_cons, Bool.false_and]
      exact .inr (.inr ⟨by simp, by simp, by simp⟩)
theorem c_parseInt0 (H : AHeap) : ACalls Tryz.prog 174 [str [], i64 10, i64 0] H (.tuple #[i64 0, nerr 2]) H := by
  refine acallsT_pure MixT Tryz.func174 (by decide) rfl ?_
  rw [d174]
  simp
theorem c_parseInt {H : AHeap} {l : List UInt8} {d0 : UInt8} {r : List UInt8} (hl : l.length < 2 ^ 40) (hlr : l = d0 :: r) (h0 : isDig d0 = true) (hd : ∀ b ∈ l, isDig b = true ∨ b = 46) :
    ACalls Tryz.prog 174 [str l, i64 10, i64 0] H (.tuple #[i64 (piF l).1, perr (piF l).2]) H := by
  refine acallsT_pure MixT Tryz.func174 (by decide) (by simp [flat, perr_clos]; rfl) ?_
  rw [d174]
  have hne : l ≠ [] := by rw [hlr]; simp
  have hb : l[0]? = some d0 := by rw [hlr]; rfl
  have hix := aIndex_at (P := Tryz.prog) (T := 9) (k := .i64) (i := 0) (by simp) hb
  have hdd := h0
  simp only [isDig, Bool.and_eq_true, decide_eq_true_eq] at hdd
  have h45 : ((d0.toNat : Int) == 45) = false := by simp; omega
  have h43 : ((d0.toNat : Int) == 43) = false := by simp; omega
  simp at hix
  simp [hne, hix, h45, h43]
  rw [S174x0q]
  refine bndC_of (c_parseUint hl hne hd) ?_
  have hu := tu118
  have w63 : ∀ (x y : Operand), aBin2 Tryz.prog H .shl 178 x y (.int .u64 1) (.int .u64 63) = some (.int .u64 9223372036854775808) := fun x y => by
    rw [aBin_shl _ _ _ _ _ _ _ (by omega)]; rfl
  have v1 : IntKind.i64.wrap 63 = 63 := by decide
  have v2 : IntKind.u64.wrap 63 = 63 := by decide
  have v3 : IntKind.u64.wrap 9223372036854775807 = 9223372036854775807 := by decide
  have v4 : IntKind.i64.wrap 9223372036854775807 = 9223372036854775807 := by decide
  have v0 : IntKind.i64.wrap (64 - 1) = 63 := by decide
  have v5 : IntKind.u64.wrap (9223372036854775808 - 1) = 9223372036854775807 := by decide
  have hif : ifaceV Tryz.prog 205 (.int .i64 1) = some (nerr 1) := by kernel_rfl
  rcases puF_cases l 0 (by omega) (by unfold maxU; omega) with ⟨q1, q2, q3, q4, q5⟩ | ⟨q1, q2, q3⟩ | ⟨q1, q2, q3⟩
  · simp [q1, perr, aBin_nilifn hu]
    rw [S174x1q]
    simp [v1, v2, w63, convV_int]
    refine kifB_bool (fun hc => ?_) (fun hc => ?_)
    · have hc' : (puF 0 l).1 ≥ 9223372036854775808 := by simpa using hc
      simp [v3, v4, convV_int, piF, q1, hc']
    · have hc' : ¬ 9223372036854775808 ≤ (puF 0 l).1 := by simpa using hc
      have v6 : IntKind.i64.wrap (puF 0 l).1 = (puF 0 l).1 := wrap_i64 (by omega) (by omega)
      simp [convV_int, v6]
      rw [S174x2q]
      simp [piF, q1, hc']
  · simp [q1, perr, nerr_nil, nerr_neq, hif]
    rw [S174x1q]
    simp [v1, v2, v3, v4, w63, convV_int, q2, maxU, piF, q1]
  · simp [q1, perr, nerr_nil, nerr_neq, piF, hif]
/-- Of a text of digits and points: the number that is read; what is told against it. -/
def atoF (l : List UInt8) : Option Int := if l ≠ [] ∧ l.all isDig = true ∧ natF 0 l ≤ 9223372036854775807 then some (natF 0 l) else none
theorem piF_ato {l : List UInt8} (hne : l ≠ []) : (∃ n, atoF l = some n ∧ piF l = (n, 0)) ∨ (atoF l = none ∧ ((piF l).2 = 1 ∨ (piF l).2 = 2)) := by
  unfold atoF piF
  rcases puF_cases l 0 (by omega) (by unfold maxU; omega) with ⟨q1, q2, q3, q4, q5⟩ | ⟨q1, q2, q3⟩ | ⟨q1, q2, q3⟩
  · rw [q3]
    by_cases hc : natF 0 l ≤ 9223372036854775807
    · exact .inl ⟨natF 0 l, by simp [hne, q2, hc], by simp [q1]; omega⟩
    · exact .inr ⟨by simp [hne, q2]; omega, .inl (by rw [q1, if_neg (by omega), if_pos (by omega)])⟩
  · right
    refine ⟨?_, .inl (by simp [q1, q2, maxU])⟩
    by_cases hd : l.all isDig = true
    · have := q3 hd
      simp [hne, hd]
      unfold maxU at this
      omega
    · simp [hne]
      intro h
      exact absurd (by simpa using h) hd
  · right
    refine ⟨?_, .inr (by simp [q1])⟩
    simp [q3]
theorem atoi_slow {H : AHeap} {l : List UInt8} (hl : l.length < 2 ^ 40) (h19 : l = [] ∨ 19 ≤ l.length) {x : Int} {e : Value} (hc : clos e = true) (hp : ACalls Tryz.prog 174 [str l, i64 10, i64 0] H (.tuple #[i64 x, e]) H) :
    ACalls Tryz.prog 153 [str l] H (.tuple #[i64 x, e]) H := by
  refine acallsT_pure MixT Tryz.func153 (by decide) (by simp [flat, hc]; rfl) ?_
  rw [d153]
  rcases h19 with rfl | h19
  · simp
    exact bndC_of hp (by simp)
  · have h1 : ¬ ((l.length : Int) < 19) := by omega
    have h2 : (0 : Int) < l.length := by omega
    have h3 : 0 < l.length := by omega
    simp [h1, h3]
    exact bndC_of hp (by simp)
theorem atoi_loop2 {H : AHeap} {v : Value} {l : List UInt8} {k : Value → AHeap → Prop} (ha : Arr H 1 v (l.map fun b => [byt b])) (hl : l.length ≤ 18) (hd : ∀ b ∈ l, isDig b = true ∨ b = 46)
    (hk : k (.tuple #[i64 0, nerr 2]) H) :
    ∀ (r : List UInt8) (i : Nat) (n : Int) (s0 s1 s2 s3 s4 s7 s8 s9 s10 s11 s12 s13 s14 s15 s16 s17 s18 s19 s20 s21 s22 s23 s24 s25 s26 s27 s28 s29 s30 s31 s32 s33 s34 s35 s36 s37 s38 s39 s40 s41 s42 s43 s44 s45 s46 s50 s51 s52 s53 s54 s55 s56 s57 s58 s59 s60 s61 s62 s63 s64 s65 s66 s67 s68 s69 s70 s71 s72 s73 s74 s75 s76 : Value), l.drop i = r → i ≤ l.length → 0 ≤ n → n < 10 ^ i → r.all isDig = false →
      L153x0 (r.length + 1) k [s0, s1, s2, s3, s4, str l, i64 n, s7, s8, s9, s10, s11, s12, s13, s14, s15, s16, s17, s18, s19, s20, s21, s22, s23, s24, s25, s26, s27, s28, s29, s30, s31, s32, s33, s34, s35, s36, s37, s38, s39, s40, s41, s42, s43, s44, s45, s46, v, i64 l.length, i64 i, s50, s51, s52, s53, s54, s55, s56, s57, s58, s59, s60, s61, s62, s63, s64, s65, s66, s67, s68, s69, s70, s71, s72, s73, s74, s75, s76] H := by
  intro r
  induction r with
  | nil => intro i n s0 s1 s2 s3 s4 s7 s8 s9 s10 s11 s12 s13 s14 s15 s16 s17 s18 s19 s20 s21 s22 s23 s24 s25 s26 s27 s28 s29 s30 s31 s32 s33 s34 s35 s36 s37 s38 s39 s40 s41 s42 s43 s44 s45 s46 s50 s51 s52 s53 s54 s55 s56 s57 s58 s59 s60 s61 s62 s63 s64 s65 s66 s67 s68 s69 s70 s71 s72 s73 s74 s75 s76 _ _ _ _ h; simp at h
  | cons d r ih =>
    intro i n s0 s1 s2 s3 s4 s7 s8 s9 s10 s11 s12 s13 s14 s15 s16 s17 s18 s19 s20 s21 s22 s23 s24 s25 s26 s27 s28 s29 s30 s31 s32 s33 s34 s35 s36 s37 s38 s39 s40 s41 s42 s43 s44 s45 s46 s50 s51 s52 s53 s54 s55 s56 s57 s58 s59 s60 s61 s62 s63 s64 s65 s66 s67 s68 s69 s70 s71 s72 s73 s74 s75 s76 hdr hi hn1 hn2 hw
    have hb : l[i]? = some d := by rw [← List.head?_drop, hdr]; rfl
    have hlt : i < l.length := (List.getElem?_eq_some_iff.1 hb).1
    obtain ⟨q, hp1, hp2⟩ := ha.load1 (P := Tryz.prog) (T := 55) (te := 5) (i := i) (x := byt d) (by simp) (by simp) (by simp) (by rw [List.getElem?_map, hb]; rfl)
    rw [List.length_cons, L153x0q]
    rcases hd d (List.mem_of_getElem? hb) with hdd | rfl
    · have hall : r.all isDig = false := by simpa [hdd] using hw
      simp only [isDig, Bool.and_eq_true, decide_eq_true_eq] at hdd
      have w1 : IntKind.u8.wrap ((d.toNat : Int) - 48) = (d.toNat : Int) - 48 := wrap_u8 (by omega) (by omega)
      have w2 : IntKind.i64.wrap ((d.toNat : Int) - 48) = (d.toNat : Int) - 48 := wrap_i64 (by omega) (by omega)
      have hp : (10 : Int) ^ (i + 1) ≤ 10 ^ 18 := by exact_mod_cast Nat.pow_le_pow_right (by omega : 0 < 10) (by omega : i + 1 ≤ 18)
      have hpe : (10 : Int) ^ (i + 1) = 10 ^ i * 10 := Int.pow_succ ..
      have w3 : IntKind.i64.wrap (n * 10) = n * 10 := wrap_i64 (by omega) (by omega)
      have w4 : IntKind.i64.wrap (n * 10 + ((d.toNat : Int) - 48)) = n * 10 + ((d.toNat : Int) - 48) := wrap_i64 (by omega) (by omega)
      have h9 : ¬ (9 < (d.toNat : Int) - 48) := by omega
      simp [hlt, hp1, hp2, w1, w2, w3, w4, h9, convV_int, show i + 1 < 2 ^ 63 by omega]
      exact ih (i + 1) _ _ _ _ _ _ _ _ _ _ _ _ _ _ _ _ _ _ _ _ _ _ _ _ _ _ _ _ _ _ _ _ _ _ _ _ _ _ _ _ _ _ _ _ _ _ _ _ _ _ _ _ _ _ _ _ _ _ _ _ _ _ _ _ _ _ _ _ _ _ _ _ _ (by rw [← List.drop_drop, hdr]; rfl) hlt (by omega) (by omega) hall
    · have hp2' : aLoad Tryz.prog H 5 q = some (.int .u8 46) := hp2
      have w1 : IntKind.u8.wrap (46 - 48) = 254 := by decide
      simp [hlt, hp1, hp2']
      exact hk
theorem natF_lt : ∀ (l : List UInt8) (n : Int), 0 ≤ n → l.all isDig = true → natF n l < (n + 1) * 10 ^ l.length := by
  intro l
  induction l with
  | nil => intro n h _; simp [natF]; omega
  | cons d r ih =>
    intro n h hd
    simp only [List.all_cons, Bool.and_eq_true] at hd
    have hdd := hd.1
    simp only [isDig, Bool.and_eq_true, decide_eq_true_eq] at hdd
    have h1 := ih (10 * n + ((d.toNat : Int) - 48)) (by omega) hd.2
    simp only [natF, List.length_cons, Int.pow_succ]
    have h2 : (10 * n + ((d.toNat : Int) - 48) + 1) * 10 ^ r.length ≤ ((n + 1) * 10) * 10 ^ r.length := Int.mul_le_mul_of_nonneg_right (by omega) (Int.le_of_lt (Int.pow_pos (by omega)))
    have e : (n + 1) * (10 ^ r.length * 10) = ((n + 1) * 10) * 10 ^ r.length := by rw [Int.mul_assoc, Int.mul_comm (10 ^ r.length) 10]
    omega
theorem c_atoi0bad {H : AHeap} {l : List UInt8} {b0 : UInt8} (hb0 : l[0]? = some b0) (hdd0 : isDig b0 = true) (hl : l.length ≤ 18) (hd : ∀ b ∈ l, isDig b = true ∨ b = 46) (hbad : l.all isDig = false) : ACalls Tryz.prog 153 [str l] H (.tuple #[i64 0, nerr 2]) H := by
  refine acallsT_pure MixT Tryz.func153 (by decide) rfl ?_
  rw [d153]
  have hix := aIndex_at (P := Tryz.prog) (T := 9) (k := .i64) (i := 0) (by simp) hb0
  have hdd := hdd0
  simp only [isDig, Bool.and_eq_true, decide_eq_true_eq] at hdd
  have h45 : ((b0.toNat : Int) == 45) = false := by simp; omega
  have h43 : ((b0.toNat : Int) == 43) = false := by simp; omega
  have hlt := (List.getElem?_eq_some_iff.1 hb0).1
  have q2 : (l.length : Int) < 19 := by omega
  have q3 : 0 < l.length := by omega
  simp at hix
  simp [q2, q3, hix, h45, h43]
  rw [S153x0q]
  have hcv : aConv Tryz.prog H 9 55 (str l) = some (.slice (some ⟨H.length, 0, some l.length⟩) l.length l.length, H ++ [.ro (bytesL ⟨l.toArray⟩)]) := by
    have hu : isU8 Tryz.prog 5 = true := by kernel_rfl
    simp [aConv, hu]
  simp [hcv]
  exact ⟨l.length + 1, atoi_loop2 (arr_bytes l) hl hd ⟨rfl, [_], rfl⟩ l 0 0 _ _ _ _ _ _ _ _ _ _ _ _ _ _ _ _ _ _ _ _ _ _ _ _ _ _ _ _ _ _ _ _ _ _ _ _ _ _ _ _ _ _ _ _ _ _ _ _ _ _ _ _ _ _ _ _ _ _ _ _ _ _ _ _ _ _ _ _ _ _ _ _ rfl (by omega) (by omega) (by omega) hbad⟩
/-- Of a text of digits and points (or none). -/
theorem c_atoiG {H : AHeap} (hg : Pre Gs H) {l : List UInt8} (hl : l.length < 2 ^ 40) (h0 : ∀ b r, l = b :: r → isDig b = true) (hd : ∀ b ∈ l, isDig b = true ∨ b = 46) :
    ∃ x e K', ((∃ n, atoF l = some n ∧ x = n ∧ e = .nilIface) ∨ (atoF l = none ∧ ∃ t p, e = .iface t (.pointer (some p)))) ∧ Pre H K' ∧ ACalls Tryz.prog 129 [str l] H (.tuple #[i64 x, e]) K' := by
  have hu := tu118
  have key : ∀ {x : Int} {c : Int}, ACalls Tryz.prog 153 [str l] H (.tuple #[i64 x, perr c]) H → ((∃ n, atoF l = some n ∧ x = n ∧ c = 0) ∨ (atoF l = none ∧ (c = 1 ∨ c = 2))) →
      ∃ x e K', ((∃ n, atoF l = some n ∧ x = n ∧ e = .nilIface) ∨ (atoF l = none ∧ ∃ t p, e = .iface t (.pointer (some p)))) ∧ Pre H K' ∧ ACalls Tryz.prog 129 [str l] H (.tuple #[i64 x, e]) K' := by
    intro x c hcall hcase
    rcases hcase with ⟨n, h1, rfl, rfl⟩ | ⟨h1, h2⟩
    · refine ⟨x, .nilIface, H, .inl ⟨_, h1, rfl, rfl⟩, .refl _, ?_⟩
      refine acallsT_pure MixT Tryz.func129 (by decide) rfl ?_
      rw [d129]
      refine bndC_of hcall ?_
      simp [perr, aBin_nilifn hu]
    · obtain ⟨v, K', ⟨p, rfl⟩, h4, h5⟩ := c_toError (f := [65, 116, 111, 105]) (n := c) (a := 0) (b := 0) hg h2 hl
      refine ⟨x, .iface 208 (.pointer (some p)), K', .inr ⟨h1, _, _, rfl⟩, h4, ?_⟩
      refine acalls_of MixT Tryz.func129 (by decide) ?_
      rw [d129]
      refine bndC_of hcall ?_
      have hc0 : c ≠ 0 := by omega
      simp [perr, hc0, nerr_nil]
      exact bndC_of h5 ⟨rfl, rfl⟩
  by_cases hs : l = [] ∨ 19 ≤ l.length
  · rcases hs with rfl | hs
    · exact key (c := 2) (atoi_slow hl (.inl rfl) rfl (c_parseInt0 H)) (.inr ⟨by simp [atoF], .inr rfl⟩)
    · obtain ⟨d0, r, hlr⟩ := List.exists_cons_of_length_pos (show 0 < l.length by omega)
      refine key (atoi_slow hl (.inr hs) (perr_clos _) (c_parseInt hl hlr (h0 _ _ hlr) hd)) ?_
      rcases piF_ato (l := l) (by rw [hlr]; simp) with ⟨n, h1, h2⟩ | ⟨h1, h2⟩
      · exact .inl ⟨n, h1, by rw [h2], by rw [h2]⟩
      · exact .inr ⟨h1, h2⟩
  · simp only [not_or] at hs
    have h18 : l.length ≤ 18 := by omega
    have h1 : 1 ≤ l.length := List.length_pos_iff.2 hs.1
    by_cases hall : l.all isDig = true
    · have hall' : ∀ b ∈ l, isDig b = true := by simpa using hall
      have h2 := natF_lt l 0 (by omega) hall
      have h3 : (10 : Int) ^ l.length ≤ 10 ^ 18 := by exact_mod_cast Nat.pow_le_pow_right (by omega : 0 < 10) h18
      refine key (x := natF 0 l) (c := 0) (by simpa [perr] using c_atoi0 (H := H) h18 h1 hall') (.inl ⟨natF 0 l, ?_, rfl, rfl⟩)
      unfold atoF
      rw [if_pos ⟨hs.1, hall, by omega⟩]
    · have hbad : l.all isDig = false := by simpa using hall
      obtain ⟨d0, r, hlr⟩ := List.exists_cons_of_length_pos (show 0 < l.length by omega)
      have hb0 : l[0]? = some d0 := by rw [hlr]; rfl
      have hd0 : isDig d0 = true := h0 _ _ hlr
      refine key (x := 0) (c := 2) (by simpa [perr] using c_atoi0bad hb0 hd0 h18 hd hbad) (.inr ⟨?_, .inr rfl⟩)
      simp [atoF, hbad]
end Go.Vi
namespace Go.Vi
open Go Go.Proofs

def len2 (n : Nat) : Nat := if n = 0 then 0 else Nat.log2 n + 1
theorem len2_half {n : Nat} (h : 2 ≤ n) : len2 n = len2 (n / 2) + 1 := by
  unfold len2
  rw [if_neg (by omega), if_neg (by omega), Nat.log2_def n, if_pos h]
theorem len2_shift : ∀ (k n : Nat), 2 ^ k ≤ n → len2 n = len2 (n / 2 ^ k) + k := by
  intro k
  induction k with
  | zero => intro n _; simp
  | succ k ih =>
    intro n h
    have h2 : 2 ≤ n := by
      have := Nat.one_le_two_pow (n := k)
      rw [Nat.pow_succ] at h; omega
    rw [len2_half h2, ih (n / 2) (by rw [Nat.pow_succ] at h; omega), Nat.div_div_eq_div_mul, Nat.pow_succ, Nat.mul_comm 2]
    omega
theorem len2_bd {n : Nat} (h : 0 < n) : 2 ^ (len2 n - 1) ≤ n ∧ n < 2 ^ len2 n ∧ 1 ≤ len2 n := by
  unfold len2
  rw [if_neg (by omega)]
  exact ⟨by simpa using Nat.log2_self_le (by omega), Nat.lt_log2_self, by omega⟩
abbrev u64 (n : Int) : Value := .int .u64 n
theorem wrapU {x : Int} (h1 : 0 ≤ x) (h2 : x ≤ 18446744073709551615) : IntKind.u64.wrap x = x := by
  unfold IntKind.wrap
  simp only [show IntKind.u64.bits = 64 from rfl, show IntKind.u64.signed = false from rfl]
  simp
  omega
theorem shrN {P : Program} {H : AHeap} {T : TypeId} {x y : Operand} {n k : Nat} (hk : k ≤ 64) : aBin2 P H .shr T x y (u64 n) (u64 k) = some (u64 ((n / 2 ^ k : Nat) : Int)) := by
  rw [aBin_shr _ _ _ _ _ _ _ (by omega)]
  congr 2
  rw [show min ((k : Int)).toNat IntKind.u64.bits = k by simp only [Int.toNat_natCast]; exact Nat.min_eq_left hk]
  rw [Int.fdiv_eq_ediv_of_nonneg _ (Int.le_of_lt (Int.pow_pos (by omega)))]
  norm_cast
theorem len8_at : ∀ b : Nat, b < 256 → l8S.data[b]? = some (UInt8.ofNat (len2 b)) ∧ len2 b ≤ 8 := by decide +kernel
set_option maxRecDepth 20000 in
theorem c_len64 (H : AHeap) {n : Nat} (hn : n < 2 ^ 64) : ACalls Tryz.prog 167 [u64 n] H (i64 (len2 n)) H := by
  refine acalls_pure MixT Tryz.func167 (by decide) rfl ?_
  rw [d167]
  have tail : ∀ (x c : Nat) (s1 s3 s4 s5 s6 s7 s8 s9 s10 s11 s12 s13 s14 s15 s16 s17 s18 s19 s20 s21 s22 s23 s24 : Value), x < 256 → c ≤ 56 → len2 n = len2 x + c → S167x2 (fun u H2 => u = i64 (len2 n) ∧ ∃ X, H2 = H ++ X) [u64 x, s1, i64 c, s3, s4, s5, s6, s7, s8, s9, s10, s11, s12, s13, s14, s15, s16, s17, s18, s19, s20, s21, s22, s23, s24] H := by
    intro x c s1 s3 s4 s5 s6 s7 s8 s9 s10 s11 s12 s13 s14 s15 s16 s17 s18 s19 s20 s21 s22 s23 s24 hx hc hl
    rw [S167x2q]
    obtain ⟨q1, q2⟩ := len8_at x hx
    have w1 : IntKind.u8.wrap (x : Int) = x := wrap_u8 (by omega) (by omega)
    have hq : l8S.data.toList[x]? = some (UInt8.ofNat (len2 x)) := by simpa using q1
    have hi := aIndex_at (P := Tryz.prog) (T := 9) (k := .u8) (l := l8S.data.toList) (i := x) (by simp) hq
    have e : str l8S.data.toList = .string l8S := rfl
    rw [e] at hi
    have w2 : IntKind.i64.wrap ((len2 x : Int) % 256) = (len2 x : Int) := by
      rw [wrap_i64 (by omega) (by omega)]; omega
    have w3 : IntKind.i64.wrap ((c : Int) + len2 x) = len2 n := by rw [hl, wrap_i64 (by omega) (by omega)]; omega
    simp [convV_int, w1, hi, w2, w3]
  have mid : ∀ (x c : Nat) (s1 s3 s4 s5 s6 s7 s8 s9 s10 s11 s12 s13 s14 s15 s16 s17 s18 s19 s20 s21 s22 s23 s24 : Value), x < 2 ^ 16 → c ≤ 48 → len2 n = len2 x + c → S167x1 (fun u H2 => u = i64 (len2 n) ∧ ∃ X, H2 = H ++ X) [u64 x, s1, i64 c, s3, s4, s5, s6, s7, s8, s9, s10, s11, s12, s13, s14, s15, s16, s17, s18, s19, s20, s21, s22, s23, s24] H := by
    intro x c s1 s3 s4 s5 s6 s7 s8 s9 s10 s11 s12 s13 s14 s15 s16 s17 s18 s19 s20 s21 s22 s23 s24 hx hc hl
    rw [S167x1q]
    simp
    refine kifB_bool (fun hq => ?_) (fun hq => ?_)
    · have hq : 2 ^ 8 ≤ x := by simp at hq; omega
      have w1 : IntKind.i64.wrap ((c : Int) + 8) = ((c + 8 : Nat) : Int) := by rw [wrap_i64 (by omega) (by omega)]; omega
      have hs' : ∀ X Y, aBin2 Tryz.prog H .shr 178 X Y (.int .u64 x) (.int .u64 8) = some (u64 ((x / 2 ^ 8 : Nat) : Int)) := fun X Y => shrN (k := 8) (by omega)
      simp only [hs', bnd_some, aBin_add, w1]
      exact tail (x / 2 ^ 8) (c + 8) _ _ _ _ _ _ _ _ _ _ _ _ _ _ _ _ _ _ _ _ _ _ _ (by omega) (by omega) (by rw [hl, len2_shift 8 x hq]; omega)
    · dsimp only
      exact tail x c _ _ _ _ _ _ _ _ _ _ _ _ _ _ _ _ _ _ _ _ _ _ _ (by simp at hq; omega) (by omega) hl
  have top : ∀ (x c : Nat) (s1 s3 s4 s5 s6 s7 s8 s9 s10 s11 s12 s13 s14 s15 s16 s17 s18 s19 s20 s21 s22 s23 s24 : Value), x < 2 ^ 32 → c ≤ 32 → len2 n = len2 x + c → S167x0 (fun u H2 => u = i64 (len2 n) ∧ ∃ X, H2 = H ++ X) [u64 x, s1, i64 c, s3, s4, s5, s6, s7, s8, s9, s10, s11, s12, s13, s14, s15, s16, s17, s18, s19, s20, s21, s22, s23, s24] H := by
    intro x c s1 s3 s4 s5 s6 s7 s8 s9 s10 s11 s12 s13 s14 s15 s16 s17 s18 s19 s20 s21 s22 s23 s24 hx hc hl
    rw [S167x0q]
    simp
    refine kifB_bool (fun hq => ?_) (fun hq => ?_)
    · have hq : 2 ^ 16 ≤ x := by simp at hq; omega
      have w1 : IntKind.i64.wrap ((c : Int) + 16) = ((c + 16 : Nat) : Int) := by rw [wrap_i64 (by omega) (by omega)]; omega
      have hs' : ∀ X Y, aBin2 Tryz.prog H .shr 178 X Y (.int .u64 x) (.int .u64 16) = some (u64 ((x / 2 ^ 16 : Nat) : Int)) := fun X Y => shrN (k := 16) (by omega)
      simp only [hs', bnd_some, aBin_add, w1]
      exact mid (x / 2 ^ 16) (c + 16) _ _ _ _ _ _ _ _ _ _ _ _ _ _ _ _ _ _ _ _ _ _ _ (by omega) (by omega) (by rw [hl, len2_shift 16 x hq]; omega)
    · dsimp only
      exact mid x c _ _ _ _ _ _ _ _ _ _ _ _ _ _ _ _ _ _ _ _ _ _ _ (by simp at hq; omega) (by omega) hl
  simp
  refine kifB_bool (fun hq => ?_) (fun hq => ?_)
  · have hq : 2 ^ 32 ≤ n := by simp at hq; omega
    have hs' : ∀ X Y, aBin2 Tryz.prog H .shr 178 X Y (.int .u64 n) (.int .u64 32) = some (u64 ((n / 2 ^ 32 : Nat) : Int)) := fun X Y => shrN (k := 32) (by omega)
    simp only [hs', bnd_some]
    have t := fun a0 a1 a2 a3 a4 a5 a6 a7 a8 a9 b0 b1 b2 b3 b4 b5 b6 b7 b8 b9 c0 c1 c2 => top (n / 2 ^ 32) 32 a0 a1 a2 a3 a4 a5 a6 a7 a8 a9 b0 b1 b2 b3 b4 b5 b6 b7 b8 b9 c0 c1 c2 (by omega) (by omega) (len2_shift 32 n hq)
    rw [show ((32 : Nat) : Int) = 32 from rfl] at t
    exact t _ _ _ _ _ _ _ _ _ _ _ _ _ _ _ _ _ _ _ _ _ _ _
  · dsimp only
    exact top n 0 _ _ _ _ _ _ _ _ _ _ _ _ _ _ _ _ _ _ _ _ _ _ _ (by simp at hq; omega) (by omega) (by omega)
theorem aIndexAddr_arr {P : Program} {H : AHeap} {T e : TypeId} {b o m z n : Nat} {k : IntKind} {i : Int} (hu : P.underlying T = some (.array n e)) (hs : tsize P e = some z) (hl : hlen H b = some m) (h0 : 0 ≤ i) (h1 : i < n) :
    aIndexAddr P H T (.pointer (some ⟨b, o, some m⟩)) (.int k i) = some (.pointer (some ⟨b, o + i.toNat * z, some m⟩)) := by
  show aIndexAddr0 P H T (.pointer (some ⟨b, o, some m⟩)) (.int k i) = _
  simp [aIndexAddr0, hl, h0, h1, hu, hs]
def nlog (L : Nat) : Nat := L * 78913 / 2 ^ 18
theorem nlog_ok : ∀ L : Nat, L < 65 → 1 ≤ L → nlog L < 20 ∧ 2 ^ L ≤ 10 ^ (nlog L + 1) ∧ 10 ^ (nlog L - 1) ≤ 2 ^ (L - 1) ∧ (nlog L = 0 → L ≤ 3) := by decide +kernel
/-- How many digits a number has. -/
def ndig (n : Nat) : Nat := nlog (len2 n) + if 10 ^ nlog (len2 n) ≤ n then 1 else 0
theorem ndig_ok {n : Nat} (h0 : 0 < n) (hn : n < 2 ^ 64) : 1 ≤ ndig n ∧ ndig n ≤ 20 ∧ n < 10 ^ ndig n ∧ 10 ^ (ndig n - 1) ≤ n := by
  obtain ⟨h1, h2, h3⟩ := len2_bd h0
  have hL : len2 n < 65 := by
    rcases Nat.lt_or_ge (len2 n) 65 with h | h
    · exact h
    · have := Nat.pow_le_pow_right (by omega : 0 < 2) (show 64 ≤ len2 n - 1 by omega)
      omega
  obtain ⟨q1, q2, q3, q4⟩ := nlog_ok _ hL h3
  unfold ndig
  by_cases hc : 10 ^ nlog (len2 n) ≤ n
  · rw [if_pos hc]
    exact ⟨by omega, by omega, by omega, by simpa using hc⟩
  · rw [if_neg hc, Nat.add_zero]
    refine ⟨?_, by omega, by omega, by omega⟩
    rcases Nat.eq_zero_or_pos (nlog (len2 n)) with hz | hz
    · rw [hz] at hc; simp at hc; omega
    · exact hz
set_option maxRecDepth 20000 in
theorem c_numDigits {H : AHeap} (hg : Pre Gs H) {n : Nat} (h0 : 0 < n) (hn : n < 2 ^ 64) : ACalls Tryz.prog 143 [u64 n] H (i64 (ndig n)) H := by
  refine acalls_pure MixT Tryz.func143 (by decide) rfl ?_
  rw [d143]
  refine bndC_of (c_len64 H hn) ?_
  obtain ⟨h1, h2, h3⟩ := len2_bd h0
  have hL : len2 n < 65 := by
    rcases Nat.lt_or_ge (len2 n) 65 with h | h
    · exact h
    · have := Nat.pow_le_pow_right (by omega : 0 < 2) (show 64 ≤ len2 n - 1 by omega)
      omega
  obtain ⟨q1, q2, q3, q4⟩ := nlog_ok _ hL h3
  have hlog : ACalls Tryz.prog 166 [i64 (len2 n)] H (i64 (nlog (len2 n))) H := by
    refine acalls_pure MixT Tryz.func166 (by decide) rfl ?_
    rw [d166]
    have w1 : IntKind.i64.wrap ((len2 n : Int) * 78913) = ((len2 n * 78913 : Nat) : Int) := by rw [wrap_i64 (by omega) (by omega)]; omega
    have hs : ∀ X Y, aBin2 Tryz.prog H .shr 3 X Y (.int .i64 ((len2 n * 78913 : Nat) : Int)) (.int .u64 18) = some (i64 (nlog (len2 n))) := fun X Y => by
      rw [aBin_shr _ _ _ _ _ _ _ (by omega)]
      congr 2
      rw [show min ((18 : Int)).toNat IntKind.i64.bits = 18 from rfl, Int.fdiv_eq_ediv_of_nonneg _ (Int.le_of_lt (Int.pow_pos (by omega)))]
      unfold nlog
      norm_cast
    simp only [Int.natCast_mul, show ((78913 : Nat) : Int) = 78913 from rfl] at w1 hs
    simp [w1, hs]
  refine bndC_of hlog ?_
  obtain ⟨g1, g2⟩ := gs_pow hg
  have hll : hlen H 2 = some 20 := by rw [hcells_len g2]; rfl
  have hia := aIndexAddr_arr (P := Tryz.prog) (T := 200) (e := 178) (z := 1) (n := 20) (k := .i64) (o := 0) (i := (nlog (len2 n) : Int)) (by simp) (by simp) hll (by omega) (by omega)
  have hp : pow10s[nlog (len2 n)]? = some (u64 ((10 ^ nlog (len2 n) : Nat) : Int)) := by
    have : ∀ i : Nat, i < 20 → pow10s[i]? = some (u64 ((10 ^ i : Nat) : Int)) := by
      intro i hi
      simp [pow10s, hi]
    exact this _ q1
  have hb : ∀ c : Bool, ACalls Tryz.prog 168 [.bool c] H (i64 (if c = true then 1 else 0)) H := by
    intro c
    refine acalls_pure MixT Tryz.func168 (by decide) rfl ?_
    rw [d168]
    cases c <;> simp
  simp only [aIndexAddr_gl g1, hia, bnd_some]
  have h20 : pow10s.length = 20 := rfl
  simp only [Int.natCast_pow, show ((10 : Nat) : Int) = 10 from rfl] at hp
  simp [g2, hp, h20]
  refine bndC_of (hb _) ?_
  have hd : decide ((10 : Int) ^ nlog (len2 n) ≤ n) = decide (10 ^ nlog (len2 n) ≤ n) := by
    rw [decide_eq_decide]; norm_cast
  have hnd : IntKind.i64.wrap ((nlog (len2 n) : Int) + (if 10 ^ nlog (len2 n) ≤ n then 1 else 0)) = (ndig n : Int) := by
    rw [wrap_i64 (by split <;> omega) (by split <;> omega)]
    unfold ndig
    split <;> simp
  simp [hd, hnd]
end Go.Vi
namespace Go.Vi
open Go Go.Proofs
-- (*tocsin/expr.reader).condition$1
def S67x0 (k : Value → AHeap → Prop) (sl : List Value) (H : AHeap) : Prop := kseqG Tryz.prog (drawKeep Tryz.prog) (cr (cr (cr (cb Tryz.f67)))) (kfinG Tryz.prog Tryz.f67 k) .normal sl H []
def L67x0 (n : Nat) (k : Value → AHeap → Prop) (sl : List Value) (H : AHeap) : Prop := kitG Tryz.prog (drawKeep Tryz.prog) (cl (cl (cr (cr (cr (cr (cb Tryz.f67))))))) n (kblkG 1 (kfinG Tryz.prog Tryz.f67 k)) .normal sl H []
theorem d67 (a0 a1 a2 a3 : Value) (H : AHeap) (k : Value → AHeap → Prop) : kbodyG Tryz.prog (drawKeep Tryz.prog) Tryz.f67 [a0, a1, a2, a3] H k = (@bnd (aBin2 Tryz.prog H .eql 3 (.tmp 8) (.const (.int .i64 2)) a0 (.int .i64 2))
  ⟨fun v9x1 => @kifB v9x1 ⟨@bnd (aLoad Tryz.prog H 79 a1) ⟨fun v16x2 => @bndC Tryz.prog 68 [v16x2, (.int .u8 1), (.string { data := #[110, 111, 116] })] H ⟨fun v17x3 H4 => @kifB v17x3 ⟨@bnd (aLoad Tryz.prog H4 107 a2) ⟨fun v18x5
  => @bndV Tryz.prog v18x5 [(.int .i64 2)] H4 ⟨fun _ H7 => @bnd (aLoad Tryz.prog H7 27 a3) ⟨fun v20x8 => @bnd (aLoad Tryz.prog H7 27 a3) ⟨fun v21x9 => @bnd (aLen Tryz.prog H7 27 v21x9) ⟨fun v22x10 => @bnd (aBin2 Tryz.prog H7 .sub
  3 (.tmp 22) (.const (.int .i64 1)) v22x10 (.int .i64 1)) ⟨fun v23x11 => @bnd (buildV Tryz.prog 37 [(0, (.int .u8 3)), (6, v23x11)]) ⟨fun v24x12 => @bndL Tryz.prog H7 27 1 [(0, v24x12)] ⟨fun v25x13 H14 => @bndE (aBuiltin
  Tryz.prog H14 Builtin.append #[27, 27] [v20x8, v25x13]) ⟨fun v26x15 H16 => @bndS (aStore Tryz.prog H16 27 a3 v26x15) ⟨fun _ H18 => k (.tuple #[]) H18⟩⟩⟩⟩⟩⟩⟩⟩⟩⟩⟩ ⟨@bnd (aLoad Tryz.prog H4 79 a1) ⟨fun v28x19 => @bndC Tryz.prog 68
  [v28x19, (.int .u8 4), (.string { data := #[40] })] H4 ⟨fun v29x20 H21 => @kifB v29x20 ⟨@bnd (aLoad Tryz.prog H21 107 a2) ⟨fun v30x22 => @bndV Tryz.prog v30x22 [(.int .i64 0)] H21 ⟨fun _ H24 => @bnd (aLoad Tryz.prog H24 79 a1)
  ⟨fun v32x25 => @bndC Tryz.prog 69 [v32x25, (.string { data := #[41] })] H24 ⟨fun _ H27 => k (.tuple #[]) H27⟩⟩⟩⟩⟩ ⟨@bnd (aLoad Tryz.prog H21 27 a3) ⟨fun v10x28 => @bnd (aLoad Tryz.prog H21 79 a1) ⟨fun v11x29 => @bndK false true
  H21 ⟨fun v12x30 H31 => ACalls Tryz.prog 70 [v11x29] H21 v12x30 H31⟩ ⟨fun _ H31 => aLoad Tryz.prog H31 27 a3 = some v10x28 ∧ True⟩ ⟨fun v12x30 H31 => @bndK false true H31 ⟨fun v13x32 H33 => sliceLit Tryz.prog H31 27 1 [(0,
  v12x30)] v13x32 H33⟩ ⟨fun _ H33 => aLoad Tryz.prog H33 27 a3 = some v10x28 ∧ True⟩ ⟨fun v13x32 H33 => @bndK true true H33 ⟨fun v14x34 H35 => aBuiltin Tryz.prog H33 Builtin.append #[27, 27] [v10x28, v13x32] = some (v14x34, H35)⟩
  ⟨fun _ _ => True⟩ ⟨fun v14x34 H35 => @bndK true true H35 ⟨fun x36 H37 => x36 = undef ∧ aStore Tryz.prog H35 27 a3 v14x34 = some H37⟩ ⟨fun _ _ => True⟩ ⟨fun _ H37 => k (.tuple #[]) H37⟩⟩⟩⟩⟩⟩⟩⟩⟩⟩⟩⟩⟩ ⟨@bnd (aBin2 Tryz.prog H .eql
  3 (.tmp 34) (.const (.int .i64 1)) a0 (.int .i64 1)) ⟨fun v35x38 => @kifB v35x38 ⟨S67x0  k [a0, a1, a2, a3, undef, (.string { data := #[97, 110, 100] }), (.int .u8 1), undef, a0, v9x1, undef, undef, undef, undef, undef, undef,
  undef, undef, undef, undef, undef, undef, undef, undef, undef, undef, undef, undef, undef, undef, undef, undef, undef, undef, a0, v35x38, undef, undef, undef, undef, undef, undef, undef, undef, undef, undef, undef, undef,
  undef, undef, undef, undef, undef, undef, undef, undef, undef, undef, undef] H⟩ ⟨S67x0  k [a0, a1, a2, a3, undef, (.string { data := #[111, 114] }), (.int .u8 2), undef, a0, v9x1, undef, undef, undef, undef, undef, undef,
  undef, undef, undef, undef, undef, undef, undef, undef, undef, undef, undef, undef, undef, undef, undef, undef, undef, undef, a0, v35x38, undef, undef, undef, undef, undef, undef, undef, undef, undef, undef, undef, undef,
  undef, undef, undef, undef, undef, undef, undef, undef, undef, undef, undef] H⟩⟩⟩⟩) := by kernel_rfl
theorem S67x0q (s0 s1 s2 s3 s4 s5 s6 s7 s8 s9 s10 s11 s12 s13 s14 s15 s16 s17 s18 s19 s20 s21 s22 s23 s24 s25 s26 s27 s28 s29 s30 s31 s32 s33 s34 s35 s36 s37 s38 s39 s40 s41 s42 s43 s44 s45 s46 s47 s48 s49 s50 s51 s52 s53 s54 s55
  s56 s57 s58 : Value) (H : AHeap) (k : Value → AHeap → Prop) : S67x0 k [s0, s1, s2, s3, s4, s5, s6, s7, s8, s9, s10, s11, s12, s13, s14, s15, s16, s17, s18, s19, s20, s21, s22, s23, s24, s25, s26, s27, s28, s29, s30, s31, s32,
  s33, s34, s35, s36, s37, s38, s39, s40, s41, s42, s43, s44, s45, s46, s47, s48, s49, s50, s51, s52, s53, s54, s55, s56, s57, s58] H = (@bnd (aLoad Tryz.prog H 107 s2) ⟨fun v36x39 => @bnd (aBin2 Tryz.prog H .add 3 (.tmp 37)
  (.const (.int .i64 1)) s0 (.int .i64 1)) ⟨fun v38x40 => @bndV Tryz.prog v36x39 [v38x40] H ⟨fun v39x41 H42 => ∃ n, L67x0 n  k [s0, s1, s2, s3, s4, s5, s6, s7, s8, s9, s10, s11, s12, s13, s14, s15, s16, s17, s18, s19, s20, s21,
  s22, s23, s24, s25, s26, s27, s28, s29, s30, s31, s32, s33, s34, s35, v36x39, s0, v38x40, v39x41, s40, s41, s42, s43, s44, s45, s46, s47, s48, s49, s50, s51, s52, s53, s54, s55, s56, s57, s58] H42⟩⟩⟩) := by kernel_rfl
theorem L67x0q (n0 : Nat) (s0 s1 s2 s3 s4 s5 s6 s7 s8 s9 s10 s11 s12 s13 s14 s15 s16 s17 s18 s19 s20 s21 s22 s23 s24 s25 s26 s27 s28 s29 s30 s31 s32 s33 s34 s35 s36 s37 s38 s39 s40 s41 s42 s43 s44 s45 s46 s47 s48 s49 s50 s51 s52
  s53 s54 s55 s56 s57 s58 : Value) (H : AHeap) (k : Value → AHeap → Prop) : L67x0 (n0 + 1) k [s0, s1, s2, s3, s4, s5, s6, s7, s8, s9, s10, s11, s12, s13, s14, s15, s16, s17, s18, s19, s20, s21, s22, s23, s24, s25, s26, s27, s28,
  s29, s30, s31, s32, s33, s34, s35, s36, s37, s38, s39, s40, s41, s42, s43, s44, s45, s46, s47, s48, s49, s50, s51, s52, s53, s54, s55, s56, s57, s58] H = (@bnd (aLoad Tryz.prog H 79 s1) ⟨fun v40x43 => @bndC Tryz.prog 68
  [v40x43, (.int .u8 1), s5] H ⟨fun v42x44 H45 => @kifB v42x44 ⟨@bnd (aLoad Tryz.prog H45 27 s3) ⟨fun v43x46 => @bnd (aLen Tryz.prog H45 27 v43x46) ⟨fun v44x47 => @bnd (aBin2 Tryz.prog H45 .sub 3 (.tmp 44) (.const (.int .i64 1))
  v44x47 (.int .i64 1)) ⟨fun v45x48 => @bnd (aLoad Tryz.prog H45 107 s2) ⟨fun v46x49 => @bnd (aBin2 Tryz.prog H45 .add 3 (.tmp 47) (.const (.int .i64 1)) s0 (.int .i64 1)) ⟨fun v48x50 => @bndV Tryz.prog v46x49 [v48x50] H45 ⟨fun
  v49x51 H52 => @bnd (aLoad Tryz.prog H52 27 s3) ⟨fun v50x53 => @bnd (aLoad Tryz.prog H52 27 s3) ⟨fun v53x54 => @bnd (aLen Tryz.prog H52 27 v53x54) ⟨fun v54x55 => @bnd (aBin2 Tryz.prog H52 .sub 3 (.tmp 54) (.const (.int .i64 1))
  v54x55 (.int .i64 1)) ⟨fun v55x56 => @bnd (buildV Tryz.prog 37 [(0, s6), (6, v45x48), (7, v55x56)]) ⟨fun v56x57 => @bndL Tryz.prog H52 27 1 [(0, v56x57)] ⟨fun v57x58 H59 => @bndE (aBuiltin Tryz.prog H59 Builtin.append #[27, 27]
  [v50x53, v57x58]) ⟨fun v58x60 H61 => @bndS (aStore Tryz.prog H61 27 s3 v58x60) ⟨fun _ H63 => L67x0 n0  k [s0, s1, s2, s3, s4, s5, s6, v45x48, s8, s9, s10, s11, s12, s13, s14, s15, s16, s17, s18, s19, s20, s21, s22, s23, s24,
  s25, s26, s27, s28, s29, s30, s31, s32, s33, s34, s35, s36, s37, s38, s39, v40x43, s5, v42x44, v43x46, v44x47, v45x48, v46x49, s0, v48x50, v49x51, v50x53, s6, v45x48, v53x54, v54x55, v55x56, v56x57, v57x58, v58x60]
  H63⟩⟩⟩⟩⟩⟩⟩⟩⟩⟩⟩⟩⟩⟩⟩ ⟨k (.tuple #[]) H45⟩⟩⟩) := by kernel_rfl
-- internal/strconv.formatBase10
def L144x0 (n : Nat) (k : Value → AHeap → Prop) (sl : List Value) (H : AHeap) : Prop := kitG Tryz.prog (drawKeep Tryz.prog) (cl (cl (cl (cr (cb Tryz.f144))))) n (kblkG 0 (kseqG Tryz.prog (drawKeep Tryz.prog) (cr (cr (cb
  Tryz.f144))) (kfinG Tryz.prog Tryz.f144 k))) .normal sl H []
def S144x0 (k : Value → AHeap → Prop) (sl : List Value) (H : AHeap) : Prop := kseqG Tryz.prog (drawKeep Tryz.prog) (cr (cr (cr (cr (cb Tryz.f144))))) (kfinG Tryz.prog Tryz.f144 k) .normal sl H []
def S144x1 (k : Value → AHeap → Prop) (sl : List Value) (H : AHeap) : Prop := kseqG Tryz.prog (drawKeep Tryz.prog) (cr (cr (cr (cr (cr (cb Tryz.f144)))))) (kfinG Tryz.prog Tryz.f144 k) .normal sl H []
theorem d144 (a0 a1 : Value) (H : AHeap) (k : Value → AHeap → Prop) : kbodyG Tryz.prog (drawKeep Tryz.prog) Tryz.f144 [a0, a1] H k = (@bnd (aLen Tryz.prog H 55 a0) ⟨fun v18x1 => ∃ n, L144x0 n  k [a0, a1, undef, undef, v18x1,
  undef, undef, undef, undef, undef, undef, undef, undef, undef, undef, undef, undef, a0, v18x1, undef, undef, undef, undef, undef, undef, undef, undef, undef, undef, undef, undef, undef, undef, undef, undef, undef, undef, undef,
  undef, undef, undef, undef, undef, undef, undef, undef, undef, undef, undef, undef, undef, undef, undef, undef, undef, undef, undef, undef, undef, undef, undef, undef, undef, undef, undef, undef, undef, undef, undef, undef,
  undef, undef, undef, undef, undef, undef, undef, undef, undef, undef, undef, undef, undef, undef, undef, undef, undef, undef, undef, undef, undef, undef, undef, undef, undef, undef, undef, undef, undef, undef, undef, undef,
  undef, undef, undef, undef, undef, undef, undef, undef, undef, undef, undef, undef, undef, undef, undef, undef, undef, undef, undef, undef, undef, undef, undef, undef, undef, undef, undef, undef, undef, undef, undef, undef,
  undef, undef, undef, undef, undef, undef, undef, undef, undef, undef, undef, undef, undef, undef, undef, undef, undef, undef, undef, undef, undef, undef, undef, undef, undef, undef, undef, undef, undef, undef, undef, undef,
  undef] H⟩) := by kernel_rfl
theorem L144x0q (n0 : Nat) (s0 s1 s2 s3 s4 s5 s6 s7 s8 s9 s10 s11 s12 s13 s14 s15 s16 s17 s18 s19 s20 s21 s22 s23 s24 s25 s26 s27 s28 s29 s30 s31 s32 s33 s34 s35 s36 s37 s38 s39 s40 s41 s42 s43 s44 s45 s46 s47 s48 s49 s50 s51 s52
  s53 s54 s55 s56 s57 s58 s59 s60 s61 s62 s63 s64 s65 s66 s67 s68 s69 s70 s71 s72 s73 s74 s75 s76 s77 s78 s79 s80 s81 s82 s83 s84 s85 s86 s87 s88 s89 s90 s91 s92 s93 s94 s95 s96 s97 s98 s99 s100 s101 s102 s103 s104 s105 s106 s107
  s108 s109 s110 s111 s112 s113 s114 s115 s116 s117 s118 s119 s120 s121 s122 s123 s124 s125 s126 s127 s128 s129 s130 s131 s132 s133 s134 s135 s136 s137 s138 s139 s140 s141 s142 s143 s144 s145 s146 s147 s148 s149 s150 s151 s152
  s153 s154 s155 s156 s157 s158 s159 s160 s161 s162 s163 s164 s165 s166 : Value) (H : AHeap) (k : Value → AHeap → Prop) : L144x0 (n0 + 1) k [s0, s1, s2, s3, s4, s5, s6, s7, s8, s9, s10, s11, s12, s13, s14, s15, s16, s17, s18,
  s19, s20, s21, s22, s23, s24, s25, s26, s27, s28, s29, s30, s31, s32, s33, s34, s35, s36, s37, s38, s39, s40, s41, s42, s43, s44, s45, s46, s47, s48, s49, s50, s51, s52, s53, s54, s55, s56, s57, s58, s59, s60, s61, s62, s63,
  s64, s65, s66, s67, s68, s69, s70, s71, s72, s73, s74, s75, s76, s77, s78, s79, s80, s81, s82, s83, s84, s85, s86, s87, s88, s89, s90, s91, s92, s93, s94, s95, s96, s97, s98, s99, s100, s101, s102, s103, s104, s105, s106, s107,
  s108, s109, s110, s111, s112, s113, s114, s115, s116, s117, s118, s119, s120, s121, s122, s123, s124, s125, s126, s127, s128, s129, s130, s131, s132, s133, s134, s135, s136, s137, s138, s139, s140, s141, s142, s143, s144, s145,
  s146, s147, s148, s149, s150, s151, s152, s153, s154, s155, s156, s157, s158, s159, s160, s161, s162, s163, s164, s165, s166] H = (@bnd (aBin2 Tryz.prog H .geq 3 (.tmp 19) (.const (.int .i64 8)) s4 (.int .i64 8)) ⟨fun v20x2 =>
  @kifB v20x2 ⟨@bnd (aBin2 Tryz.prog H .rem 178 (.tmp 21) (.const (.int .u64 100000000)) s1 (.int .u64 100000000)) ⟨fun v22x3 => @bnd (convV Tryz.prog H 178 50 v22x3) ⟨fun v23x4 => @bnd (aBin2 Tryz.prog H .quo 178 (.tmp 24)
  (.const (.int .u64 100000000)) s1 (.int .u64 100000000)) ⟨fun v25x5 => @bnd (aBin2 Tryz.prog H .quo 50 (.tmp 26) (.const (.int .u32 10000)) v23x4 (.int .u32 10000)) ⟨fun v27x6 => @bnd (aBin2 Tryz.prog H .rem 50 (.tmp 28)
  (.const (.int .u32 10000)) v23x4 (.int .u32 10000)) ⟨fun v29x7 => @bnd (aBin2 Tryz.prog H .quo 50 (.tmp 30) (.const (.int .u32 100)) v29x7 (.int .u32 100)) ⟨fun v31x8 => @bnd (aBin2 Tryz.prog H .mul 50 (.tmp 31) (.const (.int
  .u32 2)) v31x8 (.int .u32 2)) ⟨fun v32x9 => @bnd (aBin2 Tryz.prog H .rem 50 (.tmp 33) (.const (.int .u32 100)) v29x7 (.int .u32 100)) ⟨fun v34x10 => @bnd (aBin2 Tryz.prog H .mul 50 (.tmp 34) (.const (.int .u32 2)) v34x10 (.int
  .u32 2)) ⟨fun v35x11 => @bnd (aBin2 Tryz.prog H .quo 50 (.tmp 36) (.const (.int .u32 100)) v27x6 (.int .u32 100)) ⟨fun v37x12 => @bnd (aBin2 Tryz.prog H .mul 50 (.tmp 37) (.const (.int .u32 2)) v37x12 (.int .u32 2)) ⟨fun v38x13
  => @bnd (aBin2 Tryz.prog H .rem 50 (.tmp 39) (.const (.int .u32 100)) v27x6 (.int .u32 100)) ⟨fun v40x14 => @bnd (aBin2 Tryz.prog H .mul 50 (.tmp 40) (.const (.int .u32 2)) v40x14 (.int .u32 2)) ⟨fun v41x15 => @bnd ((some s0))
  ⟨fun v42x16 => @bnd ((some s4)) ⟨fun v43x17 => @bnd (aBin2 Tryz.prog H .sub 3 (.tmp 43) (.const (.int .i64 1)) v43x17 (.int .i64 1)) ⟨fun v44x18 => @bnd ((some s0)) ⟨fun v45x19 => @bnd ((some s4)) ⟨fun v46x20 => @bnd (aBin2
  Tryz.prog H .sub 3 (.tmp 46) (.const (.int .i64 2)) v46x20 (.int .i64 2)) ⟨fun v47x21 => @bnd ((some v35x11)) ⟨fun v48x22 => @bnd (aBin2 Tryz.prog H .add 50 (.tmp 48) (.const (.int .u32 1)) v48x22 (.int .u32 1)) ⟨fun v49x23 =>
  @bnd (aIndex Tryz.prog 9 (.string smS) v49x23) ⟨fun v50x24 => @bnd ((some v35x11)) ⟨fun v51x25 => @bnd (aIndex Tryz.prog 9 (.string smS) v51x25) ⟨fun v52x26 => @bnd (aIndexAddr Tryz.prog H 55 v42x16 v44x18) ⟨fun v53x27 => @bndK
  false true H ⟨fun x28 H29 => x28 = undef ∧ aStore Tryz.prog H 5 v53x27 v50x24 = some H29⟩ ⟨fun _ H29 => aIndex Tryz.prog 9 (.string smS) v51x25 = some v52x26 ∧ aBin2 Tryz.prog H29 .sub 3 (.tmp 46) (.const (.int .i64 2)) v46x20
  (.int .i64 2) = some v47x21 ∧ True⟩ ⟨fun _ H29 => @bnd (aIndexAddr Tryz.prog H29 55 v45x19 v47x21) ⟨fun v54x30 => @bndK true true H29 ⟨fun x31 H32 => x31 = undef ∧ aStore Tryz.prog H29 5 v54x30 v52x26 = some H32⟩ ⟨fun _ _ =>
  True⟩ ⟨fun _ H32 => @bnd ((some s0)) ⟨fun v55x33 => @bnd ((some s4)) ⟨fun v56x34 => @bnd (aBin2 Tryz.prog H32 .sub 3 (.tmp 56) (.const (.int .i64 3)) v56x34 (.int .i64 3)) ⟨fun v57x35 => @bnd ((some s0)) ⟨fun v58x36 => @bnd
  ((some s4)) ⟨fun v59x37 => @bnd (aBin2 Tryz.prog H32 .sub 3 (.tmp 59) (.const (.int .i64 4)) v59x37 (.int .i64 4)) ⟨fun v60x38 => @bnd ((some v32x9)) ⟨fun v61x39 => @bnd (aBin2 Tryz.prog H32 .add 50 (.tmp 61) (.const (.int .u32
  1)) v61x39 (.int .u32 1)) ⟨fun v62x40 => @bnd (aIndex Tryz.prog 9 (.string smS) v62x40) ⟨fun v63x41 => @bnd ((some v32x9)) ⟨fun v64x42 => @bnd (aIndex Tryz.prog 9 (.string smS) v64x42) ⟨fun v65x43 => @bnd (aIndexAddr Tryz.prog
  H32 55 v55x33 v57x35) ⟨fun v66x44 => @bndK false true H32 ⟨fun x45 H46 => x45 = undef ∧ aStore Tryz.prog H32 5 v66x44 v63x41 = some H46⟩ ⟨fun _ H46 => aIndex Tryz.prog 9 (.string smS) v64x42 = some v65x43 ∧ aBin2 Tryz.prog H46
  .sub 3 (.tmp 59) (.const (.int .i64 4)) v59x37 (.int .i64 4) = some v60x38 ∧ True⟩ ⟨fun _ H46 => @bnd (aIndexAddr Tryz.prog H46 55 v58x36 v60x38) ⟨fun v67x47 => @bndK true true H46 ⟨fun x48 H49 => x48 = undef ∧ aStore Tryz.prog
  H46 5 v67x47 v65x43 = some H49⟩ ⟨fun _ _ => True⟩ ⟨fun _ H49 => @bnd ((some s0)) ⟨fun v68x50 => @bnd ((some s4)) ⟨fun v69x51 => @bnd (aBin2 Tryz.prog H49 .sub 3 (.tmp 69) (.const (.int .i64 5)) v69x51 (.int .i64 5)) ⟨fun v70x52
  => @bnd ((some s0)) ⟨fun v71x53 => @bnd ((some s4)) ⟨fun v72x54 => @bnd (aBin2 Tryz.prog H49 .sub 3 (.tmp 72) (.const (.int .i64 6)) v72x54 (.int .i64 6)) ⟨fun v73x55 => @bnd ((some v41x15)) ⟨fun v74x56 => @bnd (aBin2 Tryz.prog
  H49 .add 50 (.tmp 74) (.const (.int .u32 1)) v74x56 (.int .u32 1)) ⟨fun v75x57 => @bnd (aIndex Tryz.prog 9 (.string smS) v75x57) ⟨fun v76x58 => @bnd ((some v41x15)) ⟨fun v77x59 => @bnd (aIndex Tryz.prog 9 (.string smS) v77x59)
  ⟨fun v78x60 => @bnd (aIndexAddr Tryz.prog H49 55 v68x50 v70x52) ⟨fun v79x61 => @bndK false true H49 ⟨fun x62 H63 => x62 = undef ∧ aStore Tryz.prog H49 5 v79x61 v76x58 = some H63⟩ ⟨fun _ H63 => aIndex Tryz.prog 9 (.string smS)
  v77x59 = some v78x60 ∧ aBin2 Tryz.prog H63 .sub 3 (.tmp 72) (.const (.int .i64 6)) v72x54 (.int .i64 6) = some v73x55 ∧ True⟩ ⟨fun _ H63 => @bnd (aIndexAddr Tryz.prog H63 55 v71x53 v73x55) ⟨fun v80x64 => @bndK true true H63
  ⟨fun x65 H66 => x65 = undef ∧ aStore Tryz.prog H63 5 v80x64 v78x60 = some H66⟩ ⟨fun _ _ => True⟩ ⟨fun _ H66 => @bnd ((some s0)) ⟨fun v81x67 => @bnd ((some s4)) ⟨fun v82x68 => @bnd (aBin2 Tryz.prog H66 .sub 3 (.tmp 82) (.const
  (.int .i64 7)) v82x68 (.int .i64 7)) ⟨fun v83x69 => @bnd ((some s0)) ⟨fun v84x70 => @bnd ((some s4)) ⟨fun v85x71 => @bnd (aBin2 Tryz.prog H66 .sub 3 (.tmp 85) (.const (.int .i64 8)) v85x71 (.int .i64 8)) ⟨fun v86x72 => @bnd
  ((some v38x13)) ⟨fun v87x73 => @bnd (aBin2 Tryz.prog H66 .add 50 (.tmp 87) (.const (.int .u32 1)) v87x73 (.int .u32 1)) ⟨fun v88x74 => @bnd (aIndex Tryz.prog 9 (.string smS) v88x74) ⟨fun v89x75 => @bnd ((some v38x13)) ⟨fun
  v90x76 => @bnd (aIndex Tryz.prog 9 (.string smS) v90x76) ⟨fun v91x77 => @bnd (aIndexAddr Tryz.prog H66 55 v81x67 v83x69) ⟨fun v92x78 => @bndK false true H66 ⟨fun x79 H80 => x79 = undef ∧ aStore Tryz.prog H66 5 v92x78 v89x75 =
  some H80⟩ ⟨fun _ H80 => aIndex Tryz.prog 9 (.string smS) v90x76 = some v91x77 ∧ aBin2 Tryz.prog H80 .sub 3 (.tmp 85) (.const (.int .i64 8)) v85x71 (.int .i64 8) = some v86x72 ∧ True⟩ ⟨fun _ H80 => @bnd (aIndexAddr Tryz.prog H80
  55 v84x70 v86x72) ⟨fun v93x81 => @bndK true true H80 ⟨fun x82 H83 => x82 = undef ∧ aStore Tryz.prog H80 5 v93x81 v91x77 = some H83⟩ ⟨fun _ _ => True⟩ ⟨fun _ H83 => @bnd (aBin2 Tryz.prog H83 .sub 3 (.tmp 94) (.const (.int .i64
  8)) s4 (.int .i64 8)) ⟨fun v95x84 => L144x0 n0  k [s0, v25x5, s2, s3, v95x84, v23x4, v27x6, v29x7, v32x9, v35x11, v38x13, v41x15, s12, s13, s14, s15, s16, s17, s18, s4, v20x2, s1, v22x3, v23x4, s1, v25x5, v23x4, v27x6, v23x4,
  v29x7, v29x7, v31x8, v32x9, v29x7, v34x10, v35x11, v27x6, v37x12, v38x13, v27x6, v40x14, v41x15, v42x16, v43x17, v44x18, v45x19, v46x20, v47x21, v48x22, v49x23, v50x24, v51x25, v52x26, v53x27, v54x30, v55x33, v56x34, v57x35,
  v58x36, v59x37, v60x38, v61x39, v62x40, v63x41, v64x42, v65x43, v66x44, v67x47, v68x50, v69x51, v70x52, v71x53, v72x54, v73x55, v74x56, v75x57, v76x58, v77x59, v78x60, v79x61, v80x64, v81x67, v82x68, v83x69, v84x70, v85x71,
  v86x72, v87x73, v88x74, v89x75, v90x76, v91x77, v92x78, v93x81, s4, v95x84, s96, s97, s98, s99, s100, s101, s102, s103, s104, s105, s106, s107, s108, s109, s110, s111, s112, s113, s114, s115, s116, s117, s118, s119, s120, s121,
  s122, s123, s124, s125, s126, s127, s128, s129, s130, s131, s132, s133, s134, s135, s136, s137, s138, s139, s140, s141, s142, s143, s144, s145, s146, s147, s148, s149, s150, s151, s152, s153, s154, s155, s156, s157, s158, s159,
  s160, s161, s162, s163, s164, s165, s166] H83⟩⟩⟩⟩⟩⟩⟩⟩⟩⟩⟩⟩⟩⟩⟩⟩⟩⟩⟩⟩⟩⟩⟩⟩⟩⟩⟩⟩⟩⟩⟩⟩⟩⟩⟩⟩⟩⟩⟩⟩⟩⟩⟩⟩⟩⟩⟩⟩⟩⟩⟩⟩⟩⟩⟩⟩⟩⟩⟩⟩⟩⟩⟩⟩⟩⟩⟩⟩⟩⟩⟩⟩⟩⟩⟩ ⟨@bnd (convV Tryz.prog H 178 50 s1) ⟨fun v97x85 => @bnd (aBin2 Tryz.prog H .geq 3 (.tmp 98) (.const (.int
  .i64 4)) s4 (.int .i64 4)) ⟨fun v99x86 => @kifB v99x86 ⟨@bnd (aBin2 Tryz.prog H .rem 50 (.tmp 100) (.const (.int .u32 10000)) v97x85 (.int .u32 10000)) ⟨fun v101x87 => @bnd (aBin2 Tryz.prog H .quo 50 (.tmp 102) (.const (.int
  .u32 10000)) v97x85 (.int .u32 10000)) ⟨fun v103x88 => @bnd (aBin2 Tryz.prog H .quo 50 (.tmp 104) (.const (.int .u32 100)) v101x87 (.int .u32 100)) ⟨fun v105x89 => @bnd (aBin2 Tryz.prog H .mul 50 (.tmp 105) (.const (.int .u32
  2)) v105x89 (.int .u32 2)) ⟨fun v106x90 => @bnd (aBin2 Tryz.prog H .rem 50 (.tmp 107) (.const (.int .u32 100)) v101x87 (.int .u32 100)) ⟨fun v108x91 => @bnd (aBin2 Tryz.prog H .mul 50 (.tmp 108) (.const (.int .u32 2)) v108x91
  (.int .u32 2)) ⟨fun v109x92 => @bnd ((some s0)) ⟨fun v110x93 => @bnd ((some s4)) ⟨fun v111x94 => @bnd (aBin2 Tryz.prog H .sub 3 (.tmp 111) (.const (.int .i64 1)) v111x94 (.int .i64 1)) ⟨fun v112x95 => @bnd ((some s0)) ⟨fun
  v113x96 => @bnd ((some s4)) ⟨fun v114x97 => @bnd (aBin2 Tryz.prog H .sub 3 (.tmp 114) (.const (.int .i64 2)) v114x97 (.int .i64 2)) ⟨fun v115x98 => @bnd ((some v109x92)) ⟨fun v116x99 => @bnd (aBin2 Tryz.prog H .add 50 (.tmp
  116) (.const (.int .u32 1)) v116x99 (.int .u32 1)) ⟨fun v117x100 => @bnd (aIndex Tryz.prog 9 (.string smS) v117x100) ⟨fun v118x101 => @bnd ((some v109x92)) ⟨fun v119x102 => @bnd (aIndex Tryz.prog 9 (.string smS) v119x102) ⟨fun
  v120x103 => @bnd (aIndexAddr Tryz.prog H 55 v110x93 v112x95) ⟨fun v121x104 => @bndK false true H ⟨fun x105 H106 => x105 = undef ∧ aStore Tryz.prog H 5 v121x104 v118x101 = some H106⟩ ⟨fun _ H106 => aIndex Tryz.prog 9 (.string
  smS) v119x102 = some v120x103 ∧ aBin2 Tryz.prog H106 .sub 3 (.tmp 114) (.const (.int .i64 2)) v114x97 (.int .i64 2) = some v115x98 ∧ True⟩ ⟨fun _ H106 => @bnd (aIndexAddr Tryz.prog H106 55 v113x96 v115x98) ⟨fun v122x107 =>
  @bndK true true H106 ⟨fun x108 H109 => x108 = undef ∧ aStore Tryz.prog H106 5 v122x107 v120x103 = some H109⟩ ⟨fun _ _ => True⟩ ⟨fun _ H109 => @bnd ((some s0)) ⟨fun v123x110 => @bnd ((some s4)) ⟨fun v124x111 => @bnd (aBin2
  Tryz.prog H109 .sub 3 (.tmp 124) (.const (.int .i64 3)) v124x111 (.int .i64 3)) ⟨fun v125x112 => @bnd ((some s0)) ⟨fun v126x113 => @bnd ((some s4)) ⟨fun v127x114 => @bnd (aBin2 Tryz.prog H109 .sub 3 (.tmp 127) (.const (.int
  .i64 4)) v127x114 (.int .i64 4)) ⟨fun v128x115 => @bnd ((some v106x90)) ⟨fun v129x116 => @bnd (aBin2 Tryz.prog H109 .add 50 (.tmp 129) (.const (.int .u32 1)) v129x116 (.int .u32 1)) ⟨fun v130x117 => @bnd (aIndex Tryz.prog 9
  (.string smS) v130x117) ⟨fun v131x118 => @bnd ((some v106x90)) ⟨fun v132x119 => @bnd (aIndex Tryz.prog 9 (.string smS) v132x119) ⟨fun v133x120 => @bnd (aIndexAddr Tryz.prog H109 55 v123x110 v125x112) ⟨fun v134x121 => @bndK
  false true H109 ⟨fun x122 H123 => x122 = undef ∧ aStore Tryz.prog H109 5 v134x121 v131x118 = some H123⟩ ⟨fun _ H123 => aIndex Tryz.prog 9 (.string smS) v132x119 = some v133x120 ∧ aBin2 Tryz.prog H123 .sub 3 (.tmp 127) (.const
  (.int .i64 4)) v127x114 (.int .i64 4) = some v128x115 ∧ True⟩ ⟨fun _ H123 => @bnd (aIndexAddr Tryz.prog H123 55 v126x113 v128x115) ⟨fun v135x124 => @bndK true true H123 ⟨fun x125 H126 => x125 = undef ∧ aStore Tryz.prog H123 5
  v135x124 v133x120 = some H126⟩ ⟨fun _ _ => True⟩ ⟨fun _ H126 => @bnd (aBin2 Tryz.prog H126 .sub 3 (.tmp 136) (.const (.int .i64 4)) s4 (.int .i64 4)) ⟨fun v137x127 => S144x0  k [s0, s1, s2, s3, v137x127, s5, s6, s7, s8, s9,
  s10, s11, v103x88, v101x87, v106x90, v109x92, s16, s17, s18, s4, v20x2, s21, s22, s23, s24, s25, s26, s27, s28, s29, s30, s31, s32, s33, s34, s35, s36, s37, s38, s39, s40, s41, s42, s43, s44, s45, s46, s47, s48, s49, s50, s51,
  s52, s53, s54, s55, s56, s57, s58, s59, s60, s61, s62, s63, s64, s65, s66, s67, s68, s69, s70, s71, s72, s73, s74, s75, s76, s77, s78, s79, s80, s81, s82, s83, s84, s85, s86, s87, s88, s89, s90, s91, s92, s93, s94, s95, s1,
  v97x85, s4, v99x86, v97x85, v101x87, v97x85, v103x88, v101x87, v105x89, v106x90, v101x87, v108x91, v109x92, v110x93, v111x94, v112x95, v113x96, v114x97, v115x98, v116x99, v117x100, v118x101, v119x102, v120x103, v121x104,
  v122x107, v123x110, v124x111, v125x112, v126x113, v127x114, v128x115, v129x116, v130x117, v131x118, v132x119, v133x120, v134x121, v135x124, s4, v137x127, s138, s139, s140, s141, s142, s143, s144, s145, s146, s147, s148, s149,
  s150, s151, s152, s153, s154, s155, s156, s157, s158, s159, s160, s161, s162, s163, s164, s165, s166] H126⟩⟩⟩⟩⟩⟩⟩⟩⟩⟩⟩⟩⟩⟩⟩⟩⟩⟩⟩⟩⟩⟩⟩⟩⟩⟩⟩⟩⟩⟩⟩⟩⟩⟩⟩⟩⟩⟩ ⟨S144x0  k [s0, s1, s2, s3, s4, s5, s6, s7, s8, s9, s10, s11, v97x85, s13, s14,
  s15, s16, s17, s18, s4, v20x2, s21, s22, s23, s24, s25, s26, s27, s28, s29, s30, s31, s32, s33, s34, s35, s36, s37, s38, s39, s40, s41, s42, s43, s44, s45, s46, s47, s48, s49, s50, s51, s52, s53, s54, s55, s56, s57, s58, s59,
  s60, s61, s62, s63, s64, s65, s66, s67, s68, s69, s70, s71, s72, s73, s74, s75, s76, s77, s78, s79, s80, s81, s82, s83, s84, s85, s86, s87, s88, s89, s90, s91, s92, s93, s94, s95, s1, v97x85, s4, v99x86, s100, s101, s102, s103,
  s104, s105, s106, s107, s108, s109, s110, s111, s112, s113, s114, s115, s116, s117, s118, s119, s120, s121, s122, s123, s124, s125, s126, s127, s128, s129, s130, s131, s132, s133, s134, s135, s136, s137, s138, s139, s140, s141,
  s142, s143, s144, s145, s146, s147, s148, s149, s150, s151, s152, s153, s154, s155, s156, s157, s158, s159, s160, s161, s162, s163, s164, s165, s166] H⟩⟩⟩⟩⟩) := by kernel_rfl
theorem S144x0q (s0 s1 s2 s3 s4 s5 s6 s7 s8 s9 s10 s11 s12 s13 s14 s15 s16 s17 s18 s19 s20 s21 s22 s23 s24 s25 s26 s27 s28 s29 s30 s31 s32 s33 s34 s35 s36 s37 s38 s39 s40 s41 s42 s43 s44 s45 s46 s47 s48 s49 s50 s51 s52 s53 s54
  s55 s56 s57 s58 s59 s60 s61 s62 s63 s64 s65 s66 s67 s68 s69 s70 s71 s72 s73 s74 s75 s76 s77 s78 s79 s80 s81 s82 s83 s84 s85 s86 s87 s88 s89 s90 s91 s92 s93 s94 s95 s96 s97 s98 s99 s100 s101 s102 s103 s104 s105 s106 s107 s108
  s109 s110 s111 s112 s113 s114 s115 s116 s117 s118 s119 s120 s121 s122 s123 s124 s125 s126 s127 s128 s129 s130 s131 s132 s133 s134 s135 s136 s137 s138 s139 s140 s141 s142 s143 s144 s145 s146 s147 s148 s149 s150 s151 s152 s153
  s154 s155 s156 s157 s158 s159 s160 s161 s162 s163 s164 s165 s166 : Value) (H : AHeap) (k : Value → AHeap → Prop) : S144x0 k [s0, s1, s2, s3, s4, s5, s6, s7, s8, s9, s10, s11, s12, s13, s14, s15, s16, s17, s18, s19, s20, s21,
  s22, s23, s24, s25, s26, s27, s28, s29, s30, s31, s32, s33, s34, s35, s36, s37, s38, s39, s40, s41, s42, s43, s44, s45, s46, s47, s48, s49, s50, s51, s52, s53, s54, s55, s56, s57, s58, s59, s60, s61, s62, s63, s64, s65, s66,
  s67, s68, s69, s70, s71, s72, s73, s74, s75, s76, s77, s78, s79, s80, s81, s82, s83, s84, s85, s86, s87, s88, s89, s90, s91, s92, s93, s94, s95, s96, s97, s98, s99, s100, s101, s102, s103, s104, s105, s106, s107, s108, s109,
  s110, s111, s112, s113, s114, s115, s116, s117, s118, s119, s120, s121, s122, s123, s124, s125, s126, s127, s128, s129, s130, s131, s132, s133, s134, s135, s136, s137, s138, s139, s140, s141, s142, s143, s144, s145, s146, s147,
  s148, s149, s150, s151, s152, s153, s154, s155, s156, s157, s158, s159, s160, s161, s162, s163, s164, s165, s166] H = (@bnd (aBin2 Tryz.prog H .geq 3 (.tmp 138) (.const (.int .i64 2)) s4 (.int .i64 2)) ⟨fun v139x128 => @kifB
  v139x128 ⟨@bnd (aBin2 Tryz.prog H .rem 50 (.tmp 140) (.const (.int .u32 100)) s12 (.int .u32 100)) ⟨fun v141x129 => @bnd (aBin2 Tryz.prog H .mul 50 (.tmp 141) (.const (.int .u32 2)) v141x129 (.int .u32 2)) ⟨fun v142x130 => @bnd
  (aBin2 Tryz.prog H .quo 50 (.tmp 143) (.const (.int .u32 100)) s12 (.int .u32 100)) ⟨fun v144x131 => @bnd ((some s0)) ⟨fun v145x132 => @bnd ((some s4)) ⟨fun v146x133 => @bnd (aBin2 Tryz.prog H .sub 3 (.tmp 146) (.const (.int
  .i64 1)) v146x133 (.int .i64 1)) ⟨fun v147x134 => @bnd ((some s0)) ⟨fun v148x135 => @bnd ((some s4)) ⟨fun v149x136 => @bnd (aBin2 Tryz.prog H .sub 3 (.tmp 149) (.const (.int .i64 2)) v149x136 (.int .i64 2)) ⟨fun v150x137 =>
  @bnd ((some v142x130)) ⟨fun v151x138 => @bnd (aBin2 Tryz.prog H .add 50 (.tmp 151) (.const (.int .u32 1)) v151x138 (.int .u32 1)) ⟨fun v152x139 => @bnd (aIndex Tryz.prog 9 (.string smS) v152x139) ⟨fun v153x140 => @bnd ((some
  v142x130)) ⟨fun v154x141 => @bnd (aIndex Tryz.prog 9 (.string smS) v154x141) ⟨fun v155x142 => @bnd (aIndexAddr Tryz.prog H 55 v145x132 v147x134) ⟨fun v156x143 => @bndK false true H ⟨fun x144 H145 => x144 = undef ∧ aStore
  Tryz.prog H 5 v156x143 v153x140 = some H145⟩ ⟨fun _ H145 => aIndex Tryz.prog 9 (.string smS) v154x141 = some v155x142 ∧ aBin2 Tryz.prog H145 .sub 3 (.tmp 149) (.const (.int .i64 2)) v149x136 (.int .i64 2) = some v150x137 ∧
  True⟩ ⟨fun _ H145 => @bnd (aIndexAddr Tryz.prog H145 55 v148x135 v150x137) ⟨fun v157x146 => @bndK true true H145 ⟨fun x147 H148 => x147 = undef ∧ aStore Tryz.prog H145 5 v157x146 v155x142 = some H148⟩ ⟨fun _ _ => True⟩ ⟨fun _
  H148 => @bnd (aBin2 Tryz.prog H148 .sub 3 (.tmp 158) (.const (.int .i64 2)) s4 (.int .i64 2)) ⟨fun v159x149 => S144x1  k [s0, s1, s2, s3, v159x149, s5, s6, s7, s8, s9, s10, s11, v144x131, s13, s14, s15, v142x130, s17, s18, s19,
  s20, s21, s22, s23, s24, s25, s26, s27, s28, s29, s30, s31, s32, s33, s34, s35, s36, s37, s38, s39, s40, s41, s42, s43, s44, s45, s46, s47, s48, s49, s50, s51, s52, s53, s54, s55, s56, s57, s58, s59, s60, s61, s62, s63, s64,
  s65, s66, s67, s68, s69, s70, s71, s72, s73, s74, s75, s76, s77, s78, s79, s80, s81, s82, s83, s84, s85, s86, s87, s88, s89, s90, s91, s92, s93, s94, s95, s96, s97, s98, s99, s100, s101, s102, s103, s104, s105, s106, s107,
  s108, s109, s110, s111, s112, s113, s114, s115, s116, s117, s118, s119, s120, s121, s122, s123, s124, s125, s126, s127, s128, s129, s130, s131, s132, s133, s134, s135, s136, s137, s4, v139x128, s12, v141x129, v142x130, s12,
  v144x131, v145x132, v146x133, v147x134, v148x135, v149x136, v150x137, v151x138, v152x139, v153x140, v154x141, v155x142, v156x143, v157x146, s4, v159x149, s160, s161, s162, s163, s164, s165, s166] H148⟩⟩⟩⟩⟩⟩⟩⟩⟩⟩⟩⟩⟩⟩⟩⟩⟩⟩⟩⟩
  ⟨S144x1  k [s0, s1, s2, s3, s4, s5, s6, s7, s8, s9, s10, s11, s12, s13, s14, s15, s16, s17, s18, s19, s20, s21, s22, s23, s24, s25, s26, s27, s28, s29, s30, s31, s32, s33, s34, s35, s36, s37, s38, s39, s40, s41, s42, s43, s44,
  s45, s46, s47, s48, s49, s50, s51, s52, s53, s54, s55, s56, s57, s58, s59, s60, s61, s62, s63, s64, s65, s66, s67, s68, s69, s70, s71, s72, s73, s74, s75, s76, s77, s78, s79, s80, s81, s82, s83, s84, s85, s86, s87, s88, s89,
  s90, s91, s92, s93, s94, s95, s96, s97, s98, s99, s100, s101, s102, s103, s104, s105, s106, s107, s108, s109, s110, s111, s112, s113, s114, s115, s116, s117, s118, s119, s120, s121, s122, s123, s124, s125, s126, s127, s128,
  s129, s130, s131, s132, s133, s134, s135, s136, s137, s4, v139x128, s140, s141, s142, s143, s144, s145, s146, s147, s148, s149, s150, s151, s152, s153, s154, s155, s156, s157, s158, s159, s160, s161, s162, s163, s164, s165,
  s166] H⟩⟩) := by kernel_rfl
theorem S144x1q (s0 s1 s2 s3 s4 s5 s6 s7 s8 s9 s10 s11 s12 s13 s14 s15 s16 s17 s18 s19 s20 s21 s22 s23 s24 s25 s26 s27 s28 s29 s30 s31 s32 s33 s34 s35 s36 s37 s38 s39 s40 s41 s42 s43 s44 s45 s46 s47 s48 s49 s50 s51 s52 s53 s54
  s55 s56 s57 s58 s59 s60 s61 s62 s63 s64 s65 s66 s67 s68 s69 s70 s71 s72 s73 s74 s75 s76 s77 s78 s79 s80 s81 s82 s83 s84 s85 s86 s87 s88 s89 s90 s91 s92 s93 s94 s95 s96 s97 s98 s99 s100 s101 s102 s103 s104 s105 s106 s107 s108
  s109 s110 s111 s112 s113 s114 s115 s116 s117 s118 s119 s120 s121 s122 s123 s124 s125 s126 s127 s128 s129 s130 s131 s132 s133 s134 s135 s136 s137 s138 s139 s140 s141 s142 s143 s144 s145 s146 s147 s148 s149 s150 s151 s152 s153
  s154 s155 s156 s157 s158 s159 s160 s161 s162 s163 s164 s165 s166 : Value) (H : AHeap) (k : Value → AHeap → Prop) : S144x1 k [s0, s1, s2, s3, s4, s5, s6, s7, s8, s9, s10, s11, s12, s13, s14, s15, s16, s17, s18, s19, s20, s21,
  s22, s23, s24, s25, s26, s27, s28, s29, s30, s31, s32, s33, s34, s35, s36, s37, s38, s39, s40, s41, s42, s43, s44, s45, s46, s47, s48, s49, s50, s51, s52, s53, s54, s55, s56, s57, s58, s59, s60, s61, s62, s63, s64, s65, s66,
  s67, s68, s69, s70, s71, s72, s73, s74, s75, s76, s77, s78, s79, s80, s81, s82, s83, s84, s85, s86, s87, s88, s89, s90, s91, s92, s93, s94, s95, s96, s97, s98, s99, s100, s101, s102, s103, s104, s105, s106, s107, s108, s109,
  s110, s111, s112, s113, s114, s115, s116, s117, s118, s119, s120, s121, s122, s123, s124, s125, s126, s127, s128, s129, s130, s131, s132, s133, s134, s135, s136, s137, s138, s139, s140, s141, s142, s143, s144, s145, s146, s147,
  s148, s149, s150, s151, s152, s153, s154, s155, s156, s157, s158, s159, s160, s161, s162, s163, s164, s165, s166] H = (@bnd (aBin2 Tryz.prog H .gtr 3 (.tmp 160) (.const (.int .i64 0)) s4 (.int .i64 0)) ⟨fun v161x150 => @kifB
  v161x150 ⟨@bnd (aBin2 Tryz.prog H .add 50 (.const (.int .u32 48)) (.tmp 163) (.int .u32 48) s12) ⟨fun v164x151 => @bnd (convV Tryz.prog H 50 5 v164x151) ⟨fun v165x152 => @bnd (aIndexAddr Tryz.prog H 55 s0 (.int .i64 0)) ⟨fun
  v166x153 => @bndS (aStore Tryz.prog H 5 v166x153 v165x152) ⟨fun _ H155 => k (.tuple #[]) H155⟩⟩⟩⟩⟩ ⟨k (.tuple #[]) H⟩⟩) := by kernel_rfl
-- tocsin/tocsinref10.Same
def PL23 : Plan := (.split 4 6 (.split 19 20 .std (.swap 19 20 (.split 20 21 .std (.swap 20 21 .std)))) (.swap 4 5 (.swap 5 6 (.split 19 20 .std (.swap 19 20 (.split 20 21 .std (.swap 20 21 .std)))))))
theorem d23 (H : AHeap) (k : Value → AHeap → Prop) : kbodyG Tryz.prog (drawPlan Tryz.prog 41 PL23) Tryz.f23 [] H k = (@bndC Tryz.prog 17 [(.string { data := #[99, 111, 117, 110, 116, 40, 123, 125, 91, 53, 93, 41, 32, 62, 32, 51]
  })] H ⟨fun v8x1 H2 => @bnd (tupV v8x1 0) ⟨fun v9x3 => @bnd (tupV v8x1 1) ⟨fun v10x4 => @bnd (buildV Tryz.prog 44 [(0, (.string { data := #[110] })), (1, (.string { data := #[97] })), (2, v9x3), (3, (.int .i64 5)), (4, (.int
  .i64 10))]) ⟨fun v12x5 => @bndE (aAlloc Tryz.prog H2 44) ⟨fun v3x6 H7 => @bndS (aStore Tryz.prog H7 44 v3x6 v12x5) ⟨fun _ H9 => @bnd (aLoad Tryz.prog H9 44 v3x6) ⟨fun v13x10 => @bndE (aAlloc Tryz.prog H9 44) ⟨fun v4x11 H12 =>
  @bndS (aStore Tryz.prog H12 44 v4x11 v13x10) ⟨fun _ H14 => @bndL Tryz.prog H14 42 1 [(0, (.string { data := #[113] }))] ⟨fun v14x15 H16 => @bnd (aFieldAddr Tryz.prog H16 44 v4x11 0) ⟨fun v15x17 => @bndS (aStore Tryz.prog H16 9
  v15x17 (.string { data := #[109] })) ⟨fun _ H19 => @bnd (aFieldAddr Tryz.prog H19 44 v4x11 5) ⟨fun v16x20 => @bndS (aStore Tryz.prog H19 3 v16x20 (.int .i64 7)) ⟨fun _ H22 => @bnd (aFieldAddr Tryz.prog H22 44 v4x11 6) ⟨fun
  v17x23 => @bndS (aStore Tryz.prog H22 42 v17x23 v14x15) ⟨fun _ H25 => @bnd (aFieldAddr Tryz.prog H25 44 v4x11 7) ⟨fun v18x26 => @bndS (aStore Tryz.prog H25 9 v18x26 (.string { data := #[111, 112, 115] })) ⟨fun _ H28 => @bnd
  (aLoad Tryz.prog H28 44 v3x6) ⟨fun v19x29 => @bndE (aAlloc Tryz.prog H28 44) ⟨fun v5x30 H31 => @bndS (aStore Tryz.prog H31 44 v5x30 v19x29) ⟨fun _ H33 => @bnd (aFieldAddr Tryz.prog H33 44 v5x30 3) ⟨fun v20x34 => @bndS (aStore
  Tryz.prog H33 3 v20x34 (.int .i64 6)) ⟨fun _ H36 => ((@bnd ((some v10x4)) ⟨fun v21x37 => @bnd (aBin2 Tryz.prog H36 .eql 24 (.tmp 21) (.const (.int .i64 0)) v21x37 (.int .i64 0)) ⟨fun v22x38 => @bnd ((some v22x38)) ⟨fun v23x39
  => @bnd (gif v23x39 true (aLoad Tryz.prog H36 44 v3x6) undef) ⟨fun v24x40 => @bndK true true H36 ⟨fun v25x41 H42 => gifp v23x39 true (ACalls Tryz.prog 25 [v24x40] H36 v25x41 H42) (v25x41 = undef ∧ H42 = H36)⟩ ⟨fun _ _ => True⟩
  ⟨fun v25x41 H42 => @bnd (gif v23x39 true ((some (.string { data := #[97, 32, 53, 32, 49, 48, 32, 99, 111, 117, 110, 116, 40, 123, 125, 91, 53, 93, 41, 32, 62, 32, 51] }))) undef) ⟨fun v26x43 => @bndK true true H42 ⟨fun v27x44
  H45 => gifp v23x39 true (aConv Tryz.prog H42 9 55 v26x43 = some (v27x44, H45)) (v27x44 = undef ∧ H45 = H42)⟩ ⟨fun _ _ => True⟩ ⟨fun v27x44 H45 => @bndK true true H45 ⟨fun v28x46 H47 => gifp v23x39 true (ACalls Tryz.prog 27
  [v27x44] H45 v28x46 H47) (v28x46 = undef ∧ H47 = H45)⟩ ⟨fun _ _ => True⟩ ⟨fun v28x46 H47 => @bnd (gif v23x39 true (aBin2 Tryz.prog H47 .eql 50 (.tmp 25) (.tmp 28) v25x41 v28x46) undef) ⟨fun v29x48 => @bnd (pickV v23x39 v29x48
  (.bool false)) ⟨fun v30x49 => @bnd ((some v30x49)) ⟨fun v31x50 => @bnd (gif v31x50 true (aLoad Tryz.prog H47 44 v4x11) undef) ⟨fun v32x51 => @bndK false false H47 ⟨fun v33x52 H53 => gifp v31x50 true (ACalls Tryz.prog 25
  [v32x51] H47 v33x52 H53) (v33x52 = undef ∧ H53 = H47)⟩ ⟨fun _ _ => True⟩ ⟨fun v33x52 H53 => @bnd (gif v31x50 true (aLoad Tryz.prog H47 44 v3x6) undef) ⟨fun v34x54 => @bndK true true H53 ⟨fun v35x55 H56 => gifp v31x50 true
  (ACalls Tryz.prog 25 [v34x54] H53 v35x55 H56) (v35x55 = undef ∧ H56 = H53)⟩ ⟨fun _ _ => True⟩ ⟨fun v35x55 H56 => @bnd (gif v31x50 true (aBin2 Tryz.prog H56 .eql 50 (.tmp 33) (.tmp 35) v33x52 v35x55) undef) ⟨fun v36x57 => @bnd
  (pickV v31x50 v36x57 (.bool false)) ⟨fun v37x58 => @bnd ((some v37x58)) ⟨fun v38x59 => @bnd (gif v38x59 true (aLoad Tryz.prog H56 44 v5x30) undef) ⟨fun v39x60 => @bndK true true H56 ⟨fun v40x61 H62 => gifp v38x59 true (ACalls
  Tryz.prog 25 [v39x60] H56 v40x61 H62) (v40x61 = undef ∧ H62 = H56)⟩ ⟨fun _ _ => True⟩ ⟨fun v40x61 H62 => @bndK true true H62 ⟨fun v41x63 H64 => gifp v38x59 true (sliceLit Tryz.prog H62 55 23 [(0, (.int .u8 97)), (1, (.int .u8
  32)), (2, (.int .u8 54)), (3, (.int .u8 32)), (4, (.int .u8 49)), (5, (.int .u8 48)), (6, (.int .u8 32)), (7, (.int .u8 99)), (8, (.int .u8 111)), (9, (.int .u8 117)), (10, (.int .u8 110)), (11, (.int .u8 116)), (12, (.int .u8
  40)), (13, (.int .u8 123)), (14, (.int .u8 125)), (15, (.int .u8 91)), (16, (.int .u8 53)), (17, (.int .u8 93)), (18, (.int .u8 41)), (19, (.int .u8 32)), (20, (.int .u8 62)), (21, (.int .u8 32)), (22, (.int .u8 51))] v41x63
  H64) (v41x63 = undef ∧ H64 = H62)⟩ ⟨fun _ _ => True⟩ ⟨fun v41x63 H64 => @bndK true true H64 ⟨fun v42x65 H66 => gifp v38x59 true (aConv Tryz.prog H64 55 55 v41x63 = some (v42x65, H66)) (v42x65 = undef ∧ H66 = H64)⟩ ⟨fun _ _ =>
  True⟩ ⟨fun v42x65 H66 => @bndK true true H66 ⟨fun v43x67 H68 => gifp v38x59 true (ACalls Tryz.prog 27 [v42x65] H66 v43x67 H68) (v43x67 = undef ∧ H68 = H66)⟩ ⟨fun _ _ => True⟩ ⟨fun v43x67 H68 => @bnd (gif v38x59 true (aBin2
  Tryz.prog H68 .eql 50 (.tmp 40) (.tmp 43) v40x61 v43x67) undef) ⟨fun v44x69 => @bnd (pickV v38x59 v44x69 (.bool false)) ⟨fun v45x70 => @bnd ((some v45x70)) ⟨fun v46x71 => @bndK true true H68 ⟨fun v47x72 H73 => gifp v46x71 true
  (ACalls Tryz.prog 26 [(.slice none 0 0)] H68 v47x72 H73) (v47x72 = undef ∧ H73 = H68)⟩ ⟨fun _ _ => True⟩ ⟨fun v47x72 H73 => @bnd (pickV v46x71 v47x72 (.bool false)) ⟨fun v48x74 => @bnd ((some v48x74)) ⟨fun v49x75 => @bnd (gif
  v49x75 true (aLoad Tryz.prog H73 44 v3x6) undef) ⟨fun v50x76 => @bndK true true H73 ⟨fun v51x77 H78 => gifp v49x75 true (sliceLit Tryz.prog H73 46 1 [(0, v50x76)] v51x77 H78) (v51x77 = undef ∧ H78 = H73)⟩ ⟨fun _ _ => True⟩ ⟨fun
  v51x77 H78 => @bndK true true H78 ⟨fun v52x79 H80 => gifp v49x75 true (ACalls Tryz.prog 26 [v51x77] H78 v52x79 H80) (v52x79 = undef ∧ H80 = H78)⟩ ⟨fun _ _ => True⟩ ⟨fun v52x79 H80 => @bnd (pickV v49x75 v52x79 (.bool false))
  ⟨fun v53x81 => @bnd ((some v53x81)) ⟨fun v54x82 => @bnd (gif v54x82 true (aLoad Tryz.prog H80 44 v3x6) undef) ⟨fun v55x83 => @bnd (gif v54x82 true (aLoad Tryz.prog H80 44 v4x11) undef) ⟨fun v56x84 => @bndK true true H80 ⟨fun
  v57x85 H86 => gifp v54x82 true (sliceLit Tryz.prog H80 46 2 [(0, v55x83), (1, v56x84)] v57x85 H86) (v57x85 = undef ∧ H86 = H80)⟩ ⟨fun _ _ => True⟩ ⟨fun v57x85 H86 => @bndK true true H86 ⟨fun v58x87 H88 => gifp v54x82 true
  (ACalls Tryz.prog 26 [v57x85] H86 v58x87 H88) (v58x87 = undef ∧ H88 = H86)⟩ ⟨fun _ _ => True⟩ ⟨fun v58x87 H88 => @bnd (gif v54x82 true (unV Tryz.prog .not v58x87) undef) ⟨fun v59x89 => @bnd (pickV v54x82 v59x89 (.bool false))
  ⟨fun v60x90 => @bnd ((some v60x90)) ⟨fun v0x91 => k v0x91 H88⟩⟩⟩⟩⟩⟩⟩⟩⟩⟩⟩⟩⟩⟩⟩⟩⟩⟩⟩⟩⟩⟩⟩⟩⟩⟩⟩⟩⟩⟩⟩⟩⟩⟩⟩⟩⟩⟩⟩⟩⟩ ∧ (@bnd ((some v10x4)) ⟨fun v21x92 => @bnd (aBin2 Tryz.prog H36 .eql 24 (.tmp 21) (.const (.int .i64 0)) v21x92 (.int .i64
  0)) ⟨fun v22x93 => @bnd ((some v22x93)) ⟨fun v23x94 => @bnd (gif v23x94 true (aLoad Tryz.prog H36 44 v3x6) undef) ⟨fun v24x95 => @bndK true true H36 ⟨fun v25x96 H97 => gifp v23x94 true (ACalls Tryz.prog 25 [v24x95] H36 v25x96
  H97) (v25x96 = undef ∧ H97 = H36)⟩ ⟨fun _ _ => True⟩ ⟨fun v25x96 H97 => @bnd (gif v23x94 true ((some (.string { data := #[97, 32, 53, 32, 49, 48, 32, 99, 111, 117, 110, 116, 40, 123, 125, 91, 53, 93, 41, 32, 62, 32, 51] })))
  undef) ⟨fun v26x98 => @bndK true true H97 ⟨fun v27x99 H100 => gifp v23x94 true (aConv Tryz.prog H97 9 55 v26x98 = some (v27x99, H100)) (v27x99 = undef ∧ H100 = H97)⟩ ⟨fun _ _ => True⟩ ⟨fun v27x99 H100 => @bndK true true H100
  ⟨fun v28x101 H102 => gifp v23x94 true (ACalls Tryz.prog 27 [v27x99] H100 v28x101 H102) (v28x101 = undef ∧ H102 = H100)⟩ ⟨fun _ _ => True⟩ ⟨fun v28x101 H102 => @bnd (gif v23x94 true (aBin2 Tryz.prog H102 .eql 50 (.tmp 25) (.tmp
  28) v25x96 v28x101) undef) ⟨fun v29x103 => @bnd (pickV v23x94 v29x103 (.bool false)) ⟨fun v30x104 => @bnd ((some v30x104)) ⟨fun v31x105 => @bnd (gif v31x105 true (aLoad Tryz.prog H102 44 v4x11) undef) ⟨fun v32x106 => @bndK
  false false H102 ⟨fun v33x107 H108 => gifp v31x105 true (ACalls Tryz.prog 25 [v32x106] H102 v33x107 H108) (v33x107 = undef ∧ H108 = H102)⟩ ⟨fun _ _ => True⟩ ⟨fun v33x107 H108 => @bnd (gif v31x105 true (aLoad Tryz.prog H102 44
  v3x6) undef) ⟨fun v34x109 => @bndK true true H108 ⟨fun v35x110 H111 => gifp v31x105 true (ACalls Tryz.prog 25 [v34x109] H108 v35x110 H111) (v35x110 = undef ∧ H111 = H108)⟩ ⟨fun _ _ => True⟩ ⟨fun v35x110 H111 => @bnd (gif
  v31x105 true (aBin2 Tryz.prog H111 .eql 50 (.tmp 33) (.tmp 35) v33x107 v35x110) undef) ⟨fun v36x112 => @bnd (pickV v31x105 v36x112 (.bool false)) ⟨fun v37x113 => @bnd ((some v37x113)) ⟨fun v38x114 => @bnd (gif v38x114 true
  (aLoad Tryz.prog H111 44 v5x30) undef) ⟨fun v39x115 => @bndK false true H111 ⟨fun v41x116 H117 => gifp v38x114 true (sliceLit Tryz.prog H111 55 23 [(0, (.int .u8 97)), (1, (.int .u8 32)), (2, (.int .u8 54)), (3, (.int .u8 32)),
  (4, (.int .u8 49)), (5, (.int .u8 48)), (6, (.int .u8 32)), (7, (.int .u8 99)), (8, (.int .u8 111)), (9, (.int .u8 117)), (10, (.int .u8 110)), (11, (.int .u8 116)), (12, (.int .u8 40)), (13, (.int .u8 123)), (14, (.int .u8
  125)), (15, (.int .u8 91)), (16, (.int .u8 53)), (17, (.int .u8 93)), (18, (.int .u8 41)), (19, (.int .u8 32)), (20, (.int .u8 62)), (21, (.int .u8 32)), (22, (.int .u8 51))] v41x116 H117) (v41x116 = undef ∧ H117 = H111)⟩ ⟨fun
  _ H117 => gif v38x114 true (aLoad Tryz.prog H117 44 v5x30) undef = some v39x115 ∧ True⟩ ⟨fun v41x116 H117 => @bndK true true H117 ⟨fun v40x118 H119 => gifp v38x114 true (ACalls Tryz.prog 25 [v39x115] H117 v40x118 H119) (v40x118
  = undef ∧ H119 = H117)⟩ ⟨fun _ _ => True⟩ ⟨fun v40x118 H119 => @bndK true true H119 ⟨fun v42x120 H121 => gifp v38x114 true (aConv Tryz.prog H119 55 55 v41x116 = some (v42x120, H121)) (v42x120 = undef ∧ H121 = H119)⟩ ⟨fun _ _ =>
  True⟩ ⟨fun v42x120 H121 => @bndK true true H121 ⟨fun v43x122 H123 => gifp v38x114 true (ACalls Tryz.prog 27 [v42x120] H121 v43x122 H123) (v43x122 = undef ∧ H123 = H121)⟩ ⟨fun _ _ => True⟩ ⟨fun v43x122 H123 => @bnd (gif v38x114
  true (aBin2 Tryz.prog H123 .eql 50 (.tmp 40) (.tmp 43) v40x118 v43x122) undef) ⟨fun v44x124 => @bnd (pickV v38x114 v44x124 (.bool false)) ⟨fun v45x125 => @bnd ((some v45x125)) ⟨fun v46x126 => @bndK true true H123 ⟨fun v47x127
  H128 => gifp v46x126 true (ACalls Tryz.prog 26 [(.slice none 0 0)] H123 v47x127 H128) (v47x127 = undef ∧ H128 = H123)⟩ ⟨fun _ _ => True⟩ ⟨fun v47x127 H128 => @bnd (pickV v46x126 v47x127 (.bool false)) ⟨fun v48x129 => @bnd
  ((some v48x129)) ⟨fun v49x130 => @bnd (gif v49x130 true (aLoad Tryz.prog H128 44 v3x6) undef) ⟨fun v50x131 => @bndK true true H128 ⟨fun v51x132 H133 => gifp v49x130 true (sliceLit Tryz.prog H128 46 1 [(0, v50x131)] v51x132
  H133) (v51x132 = undef ∧ H133 = H128)⟩ ⟨fun _ _ => True⟩ ⟨fun v51x132 H133 => @bndK true true H133 ⟨fun v52x134 H135 => gifp v49x130 true (ACalls Tryz.prog 26 [v51x132] H133 v52x134 H135) (v52x134 = undef ∧ H135 = H133)⟩ ⟨fun _
  _ => True⟩ ⟨fun v52x134 H135 => @bnd (pickV v49x130 v52x134 (.bool false)) ⟨fun v53x136 => @bnd ((some v53x136)) ⟨fun v54x137 => @bnd (gif v54x137 true (aLoad Tryz.prog H135 44 v3x6) undef) ⟨fun v55x138 => @bnd (gif v54x137
  true (aLoad Tryz.prog H135 44 v4x11) undef) ⟨fun v56x139 => @bndK true true H135 ⟨fun v57x140 H141 => gifp v54x137 true (sliceLit Tryz.prog H135 46 2 [(0, v55x138), (1, v56x139)] v57x140 H141) (v57x140 = undef ∧ H141 = H135)⟩
  ⟨fun _ _ => True⟩ ⟨fun v57x140 H141 => @bndK true true H141 ⟨fun v58x142 H143 => gifp v54x137 true (ACalls Tryz.prog 26 [v57x140] H141 v58x142 H143) (v58x142 = undef ∧ H143 = H141)⟩ ⟨fun _ _ => True⟩ ⟨fun v58x142 H143 => @bnd
  (gif v54x137 true (unV Tryz.prog .not v58x142) undef) ⟨fun v59x144 => @bnd (pickV v54x137 v59x144 (.bool false)) ⟨fun v60x145 => @bnd ((some v60x145)) ⟨fun v0x146 => k v0x146 H143⟩⟩⟩⟩⟩⟩⟩⟩⟩⟩⟩⟩⟩⟩⟩⟩⟩⟩⟩⟩⟩⟩⟩⟩⟩⟩⟩⟩⟩⟩⟩⟩⟩⟩⟩⟩⟩⟩⟩⟩⟩ ∧ @bnd
  ((some v10x4)) ⟨fun v21x147 => @bnd (aBin2 Tryz.prog H36 .eql 24 (.tmp 21) (.const (.int .i64 0)) v21x147 (.int .i64 0)) ⟨fun v22x148 => @bnd ((some v22x148)) ⟨fun v23x149 => @bnd (gif v23x149 true (aLoad Tryz.prog H36 44 v3x6)
  undef) ⟨fun v24x150 => @bndK true true H36 ⟨fun v25x151 H152 => gifp v23x149 true (ACalls Tryz.prog 25 [v24x150] H36 v25x151 H152) (v25x151 = undef ∧ H152 = H36)⟩ ⟨fun _ _ => True⟩ ⟨fun v25x151 H152 => @bnd (gif v23x149 true
  ((some (.string { data := #[97, 32, 53, 32, 49, 48, 32, 99, 111, 117, 110, 116, 40, 123, 125, 91, 53, 93, 41, 32, 62, 32, 51] }))) undef) ⟨fun v26x153 => @bndK true true H152 ⟨fun v27x154 H155 => gifp v23x149 true (aConv
  Tryz.prog H152 9 55 v26x153 = some (v27x154, H155)) (v27x154 = undef ∧ H155 = H152)⟩ ⟨fun _ _ => True⟩ ⟨fun v27x154 H155 => @bndK true true H155 ⟨fun v28x156 H157 => gifp v23x149 true (ACalls Tryz.prog 27 [v27x154] H155 v28x156
  H157) (v28x156 = undef ∧ H157 = H155)⟩ ⟨fun _ _ => True⟩ ⟨fun v28x156 H157 => @bnd (gif v23x149 true (aBin2 Tryz.prog H157 .eql 50 (.tmp 25) (.tmp 28) v25x151 v28x156) undef) ⟨fun v29x158 => @bnd (pickV v23x149 v29x158 (.bool
  false)) ⟨fun v30x159 => @bnd ((some v30x159)) ⟨fun v31x160 => @bnd (gif v31x160 true (aLoad Tryz.prog H157 44 v4x11) undef) ⟨fun v32x161 => @bndK false false H157 ⟨fun v33x162 H163 => gifp v31x160 true (ACalls Tryz.prog 25
  [v32x161] H157 v33x162 H163) (v33x162 = undef ∧ H163 = H157)⟩ ⟨fun _ _ => True⟩ ⟨fun v33x162 H163 => @bnd (gif v31x160 true (aLoad Tryz.prog H157 44 v3x6) undef) ⟨fun v34x164 => @bndK true true H163 ⟨fun v35x165 H166 => gifp
  v31x160 true (ACalls Tryz.prog 25 [v34x164] H163 v35x165 H166) (v35x165 = undef ∧ H166 = H163)⟩ ⟨fun _ _ => True⟩ ⟨fun v35x165 H166 => @bnd (gif v31x160 true (aBin2 Tryz.prog H166 .eql 50 (.tmp 33) (.tmp 35) v33x162 v35x165)
  undef) ⟨fun v36x167 => @bnd (pickV v31x160 v36x167 (.bool false)) ⟨fun v37x168 => @bnd ((some v37x168)) ⟨fun v38x169 => @bnd (gif v38x169 true (aLoad Tryz.prog H166 44 v5x30) undef) ⟨fun v39x170 => @bndK false true H166 ⟨fun
  v41x171 H172 => gifp v38x169 true (sliceLit Tryz.prog H166 55 23 [(0, (.int .u8 97)), (1, (.int .u8 32)), (2, (.int .u8 54)), (3, (.int .u8 32)), (4, (.int .u8 49)), (5, (.int .u8 48)), (6, (.int .u8 32)), (7, (.int .u8 99)),
  (8, (.int .u8 111)), (9, (.int .u8 117)), (10, (.int .u8 110)), (11, (.int .u8 116)), (12, (.int .u8 40)), (13, (.int .u8 123)), (14, (.int .u8 125)), (15, (.int .u8 91)), (16, (.int .u8 53)), (17, (.int .u8 93)), (18, (.int
  .u8 41)), (19, (.int .u8 32)), (20, (.int .u8 62)), (21, (.int .u8 32)), (22, (.int .u8 51))] v41x171 H172) (v41x171 = undef ∧ H172 = H166)⟩ ⟨fun _ H172 => gif v38x169 true (aLoad Tryz.prog H172 44 v5x30) undef = some v39x170 ∧
  True⟩ ⟨fun v41x171 H172 => @bndK false true H172 ⟨fun v42x173 H174 => gifp v38x169 true (aConv Tryz.prog H172 55 55 v41x171 = some (v42x173, H174)) (v42x173 = undef ∧ H174 = H172)⟩ ⟨fun _ H174 => gif v38x169 true (aLoad
  Tryz.prog H174 44 v5x30) undef = some v39x170 ∧ True⟩ ⟨fun v42x173 H174 => @bndK true true H174 ⟨fun v40x175 H176 => gifp v38x169 true (ACalls Tryz.prog 25 [v39x170] H174 v40x175 H176) (v40x175 = undef ∧ H176 = H174)⟩ ⟨fun _ _
  => True⟩ ⟨fun v40x175 H176 => @bndK true true H176 ⟨fun v43x177 H178 => gifp v38x169 true (ACalls Tryz.prog 27 [v42x173] H176 v43x177 H178) (v43x177 = undef ∧ H178 = H176)⟩ ⟨fun _ _ => True⟩ ⟨fun v43x177 H178 => @bnd (gif
  v38x169 true (aBin2 Tryz.prog H178 .eql 50 (.tmp 40) (.tmp 43) v40x175 v43x177) undef) ⟨fun v44x179 => @bnd (pickV v38x169 v44x179 (.bool false)) ⟨fun v45x180 => @bnd ((some v45x180)) ⟨fun v46x181 => @bndK true true H178 ⟨fun
  v47x182 H183 => gifp v46x181 true (ACalls Tryz.prog 26 [(.slice none 0 0)] H178 v47x182 H183) (v47x182 = undef ∧ H183 = H178)⟩ ⟨fun _ _ => True⟩ ⟨fun v47x182 H183 => @bnd (pickV v46x181 v47x182 (.bool false)) ⟨fun v48x184 =>
  @bnd ((some v48x184)) ⟨fun v49x185 => @bnd (gif v49x185 true (aLoad Tryz.prog H183 44 v3x6) undef) ⟨fun v50x186 => @bndK true true H183 ⟨fun v51x187 H188 => gifp v49x185 true (sliceLit Tryz.prog H183 46 1 [(0, v50x186)] v51x187
  H188) (v51x187 = undef ∧ H188 = H183)⟩ ⟨fun _ _ => True⟩ ⟨fun v51x187 H188 => @bndK true true H188 ⟨fun v52x189 H190 => gifp v49x185 true (ACalls Tryz.prog 26 [v51x187] H188 v52x189 H190) (v52x189 = undef ∧ H190 = H188)⟩ ⟨fun _
  _ => True⟩ ⟨fun v52x189 H190 => @bnd (pickV v49x185 v52x189 (.bool false)) ⟨fun v53x191 => @bnd ((some v53x191)) ⟨fun v54x192 => @bnd (gif v54x192 true (aLoad Tryz.prog H190 44 v3x6) undef) ⟨fun v55x193 => @bnd (gif v54x192
  true (aLoad Tryz.prog H190 44 v4x11) undef) ⟨fun v56x194 => @bndK true true H190 ⟨fun v57x195 H196 => gifp v54x192 true (sliceLit Tryz.prog H190 46 2 [(0, v55x193), (1, v56x194)] v57x195 H196) (v57x195 = undef ∧ H196 = H190)⟩
  ⟨fun _ _ => True⟩ ⟨fun v57x195 H196 => @bndK true true H196 ⟨fun v58x197 H198 => gifp v54x192 true (ACalls Tryz.prog 26 [v57x195] H196 v58x197 H198) (v58x197 = undef ∧ H198 = H196)⟩ ⟨fun _ _ => True⟩ ⟨fun v58x197 H198 => @bnd
  (gif v54x192 true (unV Tryz.prog .not v58x197) undef) ⟨fun v59x199 => @bnd (pickV v54x192 v59x199 (.bool false)) ⟨fun v60x200 => @bnd ((some v60x200)) ⟨fun v0x201 => k v0x201 H198⟩⟩⟩⟩⟩⟩⟩⟩⟩⟩⟩⟩⟩⟩⟩⟩⟩⟩⟩⟩⟩⟩⟩⟩⟩⟩⟩⟩⟩⟩⟩⟩⟩⟩⟩⟩⟩⟩⟩⟩⟩)) ∧
  (@bnd ((some v10x4)) ⟨fun v21x202 => @bnd (aBin2 Tryz.prog H36 .eql 24 (.tmp 21) (.const (.int .i64 0)) v21x202 (.int .i64 0)) ⟨fun v22x203 => @bnd ((some v22x203)) ⟨fun v23x204 => @bnd (gif v23x204 true (aLoad Tryz.prog H36 44
  v3x6) undef) ⟨fun v24x205 => @bnd (gif v23x204 true ((some (.string { data := #[97, 32, 53, 32, 49, 48, 32, 99, 111, 117, 110, 116, 40, 123, 125, 91, 53, 93, 41, 32, 62, 32, 51] }))) undef) ⟨fun v26x206 => @bndK false true H36
  ⟨fun v27x207 H208 => gifp v23x204 true (aConv Tryz.prog H36 9 55 v26x206 = some (v27x207, H208)) (v27x207 = undef ∧ H208 = H36)⟩ ⟨fun _ H208 => gif v23x204 true (aLoad Tryz.prog H208 44 v3x6) undef = some v24x205 ∧ True⟩ ⟨fun
  v27x207 H208 => @bndK true true H208 ⟨fun v25x209 H210 => gifp v23x204 true (ACalls Tryz.prog 25 [v24x205] H208 v25x209 H210) (v25x209 = undef ∧ H210 = H208)⟩ ⟨fun _ _ => True⟩ ⟨fun v25x209 H210 => @bndK true true H210 ⟨fun
  v28x211 H212 => gifp v23x204 true (ACalls Tryz.prog 27 [v27x207] H210 v28x211 H212) (v28x211 = undef ∧ H212 = H210)⟩ ⟨fun _ _ => True⟩ ⟨fun v28x211 H212 => @bnd (gif v23x204 true (aBin2 Tryz.prog H212 .eql 50 (.tmp 25) (.tmp
  28) v25x209 v28x211) undef) ⟨fun v29x213 => @bnd (pickV v23x204 v29x213 (.bool false)) ⟨fun v30x214 => @bnd ((some v30x214)) ⟨fun v31x215 => @bnd (gif v31x215 true (aLoad Tryz.prog H212 44 v4x11) undef) ⟨fun v32x216 => @bndK
  false false H212 ⟨fun v33x217 H218 => gifp v31x215 true (ACalls Tryz.prog 25 [v32x216] H212 v33x217 H218) (v33x217 = undef ∧ H218 = H212)⟩ ⟨fun _ _ => True⟩ ⟨fun v33x217 H218 => @bnd (gif v31x215 true (aLoad Tryz.prog H212 44
  v3x6) undef) ⟨fun v34x219 => @bndK true true H218 ⟨fun v35x220 H221 => gifp v31x215 true (ACalls Tryz.prog 25 [v34x219] H218 v35x220 H221) (v35x220 = undef ∧ H221 = H218)⟩ ⟨fun _ _ => True⟩ ⟨fun v35x220 H221 => @bnd (gif
  v31x215 true (aBin2 Tryz.prog H221 .eql 50 (.tmp 33) (.tmp 35) v33x217 v35x220) undef) ⟨fun v36x222 => @bnd (pickV v31x215 v36x222 (.bool false)) ⟨fun v37x223 => @bnd ((some v37x223)) ⟨fun v38x224 => @bnd (gif v38x224 true
  (aLoad Tryz.prog H221 44 v5x30) undef) ⟨fun v39x225 => @bndK true true H221 ⟨fun v40x226 H227 => gifp v38x224 true (ACalls Tryz.prog 25 [v39x225] H221 v40x226 H227) (v40x226 = undef ∧ H227 = H221)⟩ ⟨fun _ _ => True⟩ ⟨fun
  v40x226 H227 => @bndK true true H227 ⟨fun v41x228 H229 => gifp v38x224 true (sliceLit Tryz.prog H227 55 23 [(0, (.int .u8 97)), (1, (.int .u8 32)), (2, (.int .u8 54)), (3, (.int .u8 32)), (4, (.int .u8 49)), (5, (.int .u8 48)),
  (6, (.int .u8 32)), (7, (.int .u8 99)), (8, (.int .u8 111)), (9, (.int .u8 117)), (10, (.int .u8 110)), (11, (.int .u8 116)), (12, (.int .u8 40)), (13, (.int .u8 123)), (14, (.int .u8 125)), (15, (.int .u8 91)), (16, (.int .u8
  53)), (17, (.int .u8 93)), (18, (.int .u8 41)), (19, (.int .u8 32)), (20, (.int .u8 62)), (21, (.int .u8 32)), (22, (.int .u8 51))] v41x228 H229) (v41x228 = undef ∧ H229 = H227)⟩ ⟨fun _ _ => True⟩ ⟨fun v41x228 H229 => @bndK
  true true H229 ⟨fun v42x230 H231 => gifp v38x224 true (aConv Tryz.prog H229 55 55 v41x228 = some (v42x230, H231)) (v42x230 = undef ∧ H231 = H229)⟩ ⟨fun _ _ => True⟩ ⟨fun v42x230 H231 => @bndK true true H231 ⟨fun v43x232 H233 =>
  gifp v38x224 true (ACalls Tryz.prog 27 [v42x230] H231 v43x232 H233) (v43x232 = undef ∧ H233 = H231)⟩ ⟨fun _ _ => True⟩ ⟨fun v43x232 H233 => @bnd (gif v38x224 true (aBin2 Tryz.prog H233 .eql 50 (.tmp 40) (.tmp 43) v40x226
  v43x232) undef) ⟨fun v44x234 => @bnd (pickV v38x224 v44x234 (.bool false)) ⟨fun v45x235 => @bnd ((some v45x235)) ⟨fun v46x236 => @bndK true true H233 ⟨fun v47x237 H238 => gifp v46x236 true (ACalls Tryz.prog 26 [(.slice none 0
  0)] H233 v47x237 H238) (v47x237 = undef ∧ H238 = H233)⟩ ⟨fun _ _ => True⟩ ⟨fun v47x237 H238 => @bnd (pickV v46x236 v47x237 (.bool false)) ⟨fun v48x239 => @bnd ((some v48x239)) ⟨fun v49x240 => @bnd (gif v49x240 true (aLoad
  Tryz.prog H238 44 v3x6) undef) ⟨fun v50x241 => @bndK true true H238 ⟨fun v51x242 H243 => gifp v49x240 true (sliceLit Tryz.prog H238 46 1 [(0, v50x241)] v51x242 H243) (v51x242 = undef ∧ H243 = H238)⟩ ⟨fun _ _ => True⟩ ⟨fun
  v51x242 H243 => @bndK true true H243 ⟨fun v52x244 H245 => gifp v49x240 true (ACalls Tryz.prog 26 [v51x242] H243 v52x244 H245) (v52x244 = undef ∧ H245 = H243)⟩ ⟨fun _ _ => True⟩ ⟨fun v52x244 H245 => @bnd (pickV v49x240 v52x244
  (.bool false)) ⟨fun v53x246 => @bnd ((some v53x246)) ⟨fun v54x247 => @bnd (gif v54x247 true (aLoad Tryz.prog H245 44 v3x6) undef) ⟨fun v55x248 => @bnd (gif v54x247 true (aLoad Tryz.prog H245 44 v4x11) undef) ⟨fun v56x249 =>
  @bndK true true H245 ⟨fun v57x250 H251 => gifp v54x247 true (sliceLit Tryz.prog H245 46 2 [(0, v55x248), (1, v56x249)] v57x250 H251) (v57x250 = undef ∧ H251 = H245)⟩ ⟨fun _ _ => True⟩ ⟨fun v57x250 H251 => @bndK true true H251
  ⟨fun v58x252 H253 => gifp v54x247 true (ACalls Tryz.prog 26 [v57x250] H251 v58x252 H253) (v58x252 = undef ∧ H253 = H251)⟩ ⟨fun _ _ => True⟩ ⟨fun v58x252 H253 => @bnd (gif v54x247 true (unV Tryz.prog .not v58x252) undef) ⟨fun
  v59x254 => @bnd (pickV v54x247 v59x254 (.bool false)) ⟨fun v60x255 => @bnd ((some v60x255)) ⟨fun v0x256 => k v0x256 H253⟩⟩⟩⟩⟩⟩⟩⟩⟩⟩⟩⟩⟩⟩⟩⟩⟩⟩⟩⟩⟩⟩⟩⟩⟩⟩⟩⟩⟩⟩⟩⟩⟩⟩⟩⟩⟩⟩⟩⟩⟩ ∧ (@bnd ((some v10x4)) ⟨fun v21x257 => @bnd (aBin2 Tryz.prog H36
  .eql 24 (.tmp 21) (.const (.int .i64 0)) v21x257 (.int .i64 0)) ⟨fun v22x258 => @bnd ((some v22x258)) ⟨fun v23x259 => @bnd (gif v23x259 true (aLoad Tryz.prog H36 44 v3x6) undef) ⟨fun v24x260 => @bnd (gif v23x259 true ((some
  (.string { data := #[97, 32, 53, 32, 49, 48, 32, 99, 111, 117, 110, 116, 40, 123, 125, 91, 53, 93, 41, 32, 62, 32, 51] }))) undef) ⟨fun v26x261 => @bndK false true H36 ⟨fun v27x262 H263 => gifp v23x259 true (aConv Tryz.prog H36
  9 55 v26x261 = some (v27x262, H263)) (v27x262 = undef ∧ H263 = H36)⟩ ⟨fun _ H263 => gif v23x259 true (aLoad Tryz.prog H263 44 v3x6) undef = some v24x260 ∧ True⟩ ⟨fun v27x262 H263 => @bndK true true H263 ⟨fun v25x264 H265 =>
  gifp v23x259 true (ACalls Tryz.prog 25 [v24x260] H263 v25x264 H265) (v25x264 = undef ∧ H265 = H263)⟩ ⟨fun _ _ => True⟩ ⟨fun v25x264 H265 => @bndK true true H265 ⟨fun v28x266 H267 => gifp v23x259 true (ACalls Tryz.prog 27
  [v27x262] H265 v28x266 H267) (v28x266 = undef ∧ H267 = H265)⟩ ⟨fun _ _ => True⟩ ⟨fun v28x266 H267 => @bnd (gif v23x259 true (aBin2 Tryz.prog H267 .eql 50 (.tmp 25) (.tmp 28) v25x264 v28x266) undef) ⟨fun v29x268 => @bnd (pickV
  v23x259 v29x268 (.bool false)) ⟨fun v30x269 => @bnd ((some v30x269)) ⟨fun v31x270 => @bnd (gif v31x270 true (aLoad Tryz.prog H267 44 v4x11) undef) ⟨fun v32x271 => @bndK false false H267 ⟨fun v33x272 H273 => gifp v31x270 true
  (ACalls Tryz.prog 25 [v32x271] H267 v33x272 H273) (v33x272 = undef ∧ H273 = H267)⟩ ⟨fun _ _ => True⟩ ⟨fun v33x272 H273 => @bnd (gif v31x270 true (aLoad Tryz.prog H267 44 v3x6) undef) ⟨fun v34x274 => @bndK true true H273 ⟨fun
  v35x275 H276 => gifp v31x270 true (ACalls Tryz.prog 25 [v34x274] H273 v35x275 H276) (v35x275 = undef ∧ H276 = H273)⟩ ⟨fun _ _ => True⟩ ⟨fun v35x275 H276 => @bnd (gif v31x270 true (aBin2 Tryz.prog H276 .eql 50 (.tmp 33) (.tmp
  35) v33x272 v35x275) undef) ⟨fun v36x277 => @bnd (pickV v31x270 v36x277 (.bool false)) ⟨fun v37x278 => @bnd ((some v37x278)) ⟨fun v38x279 => @bnd (gif v38x279 true (aLoad Tryz.prog H276 44 v5x30) undef) ⟨fun v39x280 => @bndK
  false true H276 ⟨fun v41x281 H282 => gifp v38x279 true (sliceLit Tryz.prog H276 55 23 [(0, (.int .u8 97)), (1, (.int .u8 32)), (2, (.int .u8 54)), (3, (.int .u8 32)), (4, (.int .u8 49)), (5, (.int .u8 48)), (6, (.int .u8 32)),
  (7, (.int .u8 99)), (8, (.int .u8 111)), (9, (.int .u8 117)), (10, (.int .u8 110)), (11, (.int .u8 116)), (12, (.int .u8 40)), (13, (.int .u8 123)), (14, (.int .u8 125)), (15, (.int .u8 91)), (16, (.int .u8 53)), (17, (.int .u8
  93)), (18, (.int .u8 41)), (19, (.int .u8 32)), (20, (.int .u8 62)), (21, (.int .u8 32)), (22, (.int .u8 51))] v41x281 H282) (v41x281 = undef ∧ H282 = H276)⟩ ⟨fun _ H282 => gif v38x279 true (aLoad Tryz.prog H282 44 v5x30) undef
  = some v39x280 ∧ True⟩ ⟨fun v41x281 H282 => @bndK true true H282 ⟨fun v40x283 H284 => gifp v38x279 true (ACalls Tryz.prog 25 [v39x280] H282 v40x283 H284) (v40x283 = undef ∧ H284 = H282)⟩ ⟨fun _ _ => True⟩ ⟨fun v40x283 H284 =>
  @bndK true true H284 ⟨fun v42x285 H286 => gifp v38x279 true (aConv Tryz.prog H284 55 55 v41x281 = some (v42x285, H286)) (v42x285 = undef ∧ H286 = H284)⟩ ⟨fun _ _ => True⟩ ⟨fun v42x285 H286 => @bndK true true H286 ⟨fun v43x287
  H288 => gifp v38x279 true (ACalls Tryz.prog 27 [v42x285] H286 v43x287 H288) (v43x287 = undef ∧ H288 = H286)⟩ ⟨fun _ _ => True⟩ ⟨fun v43x287 H288 => @bnd (gif v38x279 true (aBin2 Tryz.prog H288 .eql 50 (.tmp 40) (.tmp 43)
  v40x283 v43x287) undef) ⟨fun v44x289 => @bnd (pickV v38x279 v44x289 (.bool false)) ⟨fun v45x290 => @bnd ((some v45x290)) ⟨fun v46x291 => @bndK true true H288 ⟨fun v47x292 H293 => gifp v46x291 true (ACalls Tryz.prog 26 [(.slice
  none 0 0)] H288 v47x292 H293) (v47x292 = undef ∧ H293 = H288)⟩ ⟨fun _ _ => True⟩ ⟨fun v47x292 H293 => @bnd (pickV v46x291 v47x292 (.bool false)) ⟨fun v48x294 => @bnd ((some v48x294)) ⟨fun v49x295 => @bnd (gif v49x295 true
  (aLoad Tryz.prog H293 44 v3x6) undef) ⟨fun v50x296 => @bndK true true H293 ⟨fun v51x297 H298 => gifp v49x295 true (sliceLit Tryz.prog H293 46 1 [(0, v50x296)] v51x297 H298) (v51x297 = undef ∧ H298 = H293)⟩ ⟨fun _ _ => True⟩
  ⟨fun v51x297 H298 => @bndK true true H298 ⟨fun v52x299 H300 => gifp v49x295 true (ACalls Tryz.prog 26 [v51x297] H298 v52x299 H300) (v52x299 = undef ∧ H300 = H298)⟩ ⟨fun _ _ => True⟩ ⟨fun v52x299 H300 => @bnd (pickV v49x295
  v52x299 (.bool false)) ⟨fun v53x301 => @bnd ((some v53x301)) ⟨fun v54x302 => @bnd (gif v54x302 true (aLoad Tryz.prog H300 44 v3x6) undef) ⟨fun v55x303 => @bnd (gif v54x302 true (aLoad Tryz.prog H300 44 v4x11) undef) ⟨fun
  v56x304 => @bndK true true H300 ⟨fun v57x305 H306 => gifp v54x302 true (sliceLit Tryz.prog H300 46 2 [(0, v55x303), (1, v56x304)] v57x305 H306) (v57x305 = undef ∧ H306 = H300)⟩ ⟨fun _ _ => True⟩ ⟨fun v57x305 H306 => @bndK true
  true H306 ⟨fun v58x307 H308 => gifp v54x302 true (ACalls Tryz.prog 26 [v57x305] H306 v58x307 H308) (v58x307 = undef ∧ H308 = H306)⟩ ⟨fun _ _ => True⟩ ⟨fun v58x307 H308 => @bnd (gif v54x302 true (unV Tryz.prog .not v58x307)
  undef) ⟨fun v59x309 => @bnd (pickV v54x302 v59x309 (.bool false)) ⟨fun v60x310 => @bnd ((some v60x310)) ⟨fun v0x311 => k v0x311 H308⟩⟩⟩⟩⟩⟩⟩⟩⟩⟩⟩⟩⟩⟩⟩⟩⟩⟩⟩⟩⟩⟩⟩⟩⟩⟩⟩⟩⟩⟩⟩⟩⟩⟩⟩⟩⟩⟩⟩⟩⟩ ∧ @bnd ((some v10x4)) ⟨fun v21x312 => @bnd (aBin2
  Tryz.prog H36 .eql 24 (.tmp 21) (.const (.int .i64 0)) v21x312 (.int .i64 0)) ⟨fun v22x313 => @bnd ((some v22x313)) ⟨fun v23x314 => @bnd (gif v23x314 true (aLoad Tryz.prog H36 44 v3x6) undef) ⟨fun v24x315 => @bnd (gif v23x314
  true ((some (.string { data := #[97, 32, 53, 32, 49, 48, 32, 99, 111, 117, 110, 116, 40, 123, 125, 91, 53, 93, 41, 32, 62, 32, 51] }))) undef) ⟨fun v26x316 => @bndK false true H36 ⟨fun v27x317 H318 => gifp v23x314 true (aConv
  Tryz.prog H36 9 55 v26x316 = some (v27x317, H318)) (v27x317 = undef ∧ H318 = H36)⟩ ⟨fun _ H318 => gif v23x314 true (aLoad Tryz.prog H318 44 v3x6) undef = some v24x315 ∧ True⟩ ⟨fun v27x317 H318 => @bndK true true H318 ⟨fun
  v25x319 H320 => gifp v23x314 true (ACalls Tryz.prog 25 [v24x315] H318 v25x319 H320) (v25x319 = undef ∧ H320 = H318)⟩ ⟨fun _ _ => True⟩ ⟨fun v25x319 H320 => @bndK true true H320 ⟨fun v28x321 H322 => gifp v23x314 true (ACalls
  Tryz.prog 27 [v27x317] H320 v28x321 H322) (v28x321 = undef ∧ H322 = H320)⟩ ⟨fun _ _ => True⟩ ⟨fun v28x321 H322 => @bnd (gif v23x314 true (aBin2 Tryz.prog H322 .eql 50 (.tmp 25) (.tmp 28) v25x319 v28x321) undef) ⟨fun v29x323 =>
  @bnd (pickV v23x314 v29x323 (.bool false)) ⟨fun v30x324 => @bnd ((some v30x324)) ⟨fun v31x325 => @bnd (gif v31x325 true (aLoad Tryz.prog H322 44 v4x11) undef) ⟨fun v32x326 => @bndK false false H322 ⟨fun v33x327 H328 => gifp
  v31x325 true (ACalls Tryz.prog 25 [v32x326] H322 v33x327 H328) (v33x327 = undef ∧ H328 = H322)⟩ ⟨fun _ _ => True⟩ ⟨fun v33x327 H328 => @bnd (gif v31x325 true (aLoad Tryz.prog H322 44 v3x6) undef) ⟨fun v34x329 => @bndK true true
  H328 ⟨fun v35x330 H331 => gifp v31x325 true (ACalls Tryz.prog 25 [v34x329] H328 v35x330 H331) (v35x330 = undef ∧ H331 = H328)⟩ ⟨fun _ _ => True⟩ ⟨fun v35x330 H331 => @bnd (gif v31x325 true (aBin2 Tryz.prog H331 .eql 50 (.tmp
  33) (.tmp 35) v33x327 v35x330) undef) ⟨fun v36x332 => @bnd (pickV v31x325 v36x332 (.bool false)) ⟨fun v37x333 => @bnd ((some v37x333)) ⟨fun v38x334 => @bnd (gif v38x334 true (aLoad Tryz.prog H331 44 v5x30) undef) ⟨fun v39x335
  => @bndK false true H331 ⟨fun v41x336 H337 => gifp v38x334 true (sliceLit Tryz.prog H331 55 23 [(0, (.int .u8 97)), (1, (.int .u8 32)), (2, (.int .u8 54)), (3, (.int .u8 32)), (4, (.int .u8 49)), (5, (.int .u8 48)), (6, (.int
  .u8 32)), (7, (.int .u8 99)), (8, (.int .u8 111)), (9, (.int .u8 117)), (10, (.int .u8 110)), (11, (.int .u8 116)), (12, (.int .u8 40)), (13, (.int .u8 123)), (14, (.int .u8 125)), (15, (.int .u8 91)), (16, (.int .u8 53)), (17,
  (.int .u8 93)), (18, (.int .u8 41)), (19, (.int .u8 32)), (20, (.int .u8 62)), (21, (.int .u8 32)), (22, (.int .u8 51))] v41x336 H337) (v41x336 = undef ∧ H337 = H331)⟩ ⟨fun _ H337 => gif v38x334 true (aLoad Tryz.prog H337 44
  v5x30) undef = some v39x335 ∧ True⟩ ⟨fun v41x336 H337 => @bndK false true H337 ⟨fun v42x338 H339 => gifp v38x334 true (aConv Tryz.prog H337 55 55 v41x336 = some (v42x338, H339)) (v42x338 = undef ∧ H339 = H337)⟩ ⟨fun _ H339 =>
  gif v38x334 true (aLoad Tryz.prog H339 44 v5x30) undef = some v39x335 ∧ True⟩ ⟨fun v42x338 H339 => @bndK true true H339 ⟨fun v40x340 H341 => gifp v38x334 true (ACalls Tryz.prog 25 [v39x335] H339 v40x340 H341) (v40x340 = undef ∧
  H341 = H339)⟩ ⟨fun _ _ => True⟩ ⟨fun v40x340 H341 => @bndK true true H341 ⟨fun v43x342 H343 => gifp v38x334 true (ACalls Tryz.prog 27 [v42x338] H341 v43x342 H343) (v43x342 = undef ∧ H343 = H341)⟩ ⟨fun _ _ => True⟩ ⟨fun v43x342
  H343 => @bnd (gif v38x334 true (aBin2 Tryz.prog H343 .eql 50 (.tmp 40) (.tmp 43) v40x340 v43x342) undef) ⟨fun v44x344 => @bnd (pickV v38x334 v44x344 (.bool false)) ⟨fun v45x345 => @bnd ((some v45x345)) ⟨fun v46x346 => @bndK
  true true H343 ⟨fun v47x347 H348 => gifp v46x346 true (ACalls Tryz.prog 26 [(.slice none 0 0)] H343 v47x347 H348) (v47x347 = undef ∧ H348 = H343)⟩ ⟨fun _ _ => True⟩ ⟨fun v47x347 H348 => @bnd (pickV v46x346 v47x347 (.bool
  false)) ⟨fun v48x349 => @bnd ((some v48x349)) ⟨fun v49x350 => @bnd (gif v49x350 true (aLoad Tryz.prog H348 44 v3x6) undef) ⟨fun v50x351 => @bndK true true H348 ⟨fun v51x352 H353 => gifp v49x350 true (sliceLit Tryz.prog H348 46
  1 [(0, v50x351)] v51x352 H353) (v51x352 = undef ∧ H353 = H348)⟩ ⟨fun _ _ => True⟩ ⟨fun v51x352 H353 => @bndK true true H353 ⟨fun v52x354 H355 => gifp v49x350 true (ACalls Tryz.prog 26 [v51x352] H353 v52x354 H355) (v52x354 =
  undef ∧ H355 = H353)⟩ ⟨fun _ _ => True⟩ ⟨fun v52x354 H355 => @bnd (pickV v49x350 v52x354 (.bool false)) ⟨fun v53x356 => @bnd ((some v53x356)) ⟨fun v54x357 => @bnd (gif v54x357 true (aLoad Tryz.prog H355 44 v3x6) undef) ⟨fun
  v55x358 => @bnd (gif v54x357 true (aLoad Tryz.prog H355 44 v4x11) undef) ⟨fun v56x359 => @bndK true true H355 ⟨fun v57x360 H361 => gifp v54x357 true (sliceLit Tryz.prog H355 46 2 [(0, v55x358), (1, v56x359)] v57x360 H361)
  (v57x360 = undef ∧ H361 = H355)⟩ ⟨fun _ _ => True⟩ ⟨fun v57x360 H361 => @bndK true true H361 ⟨fun v58x362 H363 => gifp v54x357 true (ACalls Tryz.prog 26 [v57x360] H361 v58x362 H363) (v58x362 = undef ∧ H363 = H361)⟩ ⟨fun _ _ =>
  True⟩ ⟨fun v58x362 H363 => @bnd (gif v54x357 true (unV Tryz.prog .not v58x362) undef) ⟨fun v59x364 => @bnd (pickV v54x357 v59x364 (.bool false)) ⟨fun v60x365 => @bnd ((some v60x365)) ⟨fun v0x366 => k v0x366
  H363⟩⟩⟩⟩⟩⟩⟩⟩⟩⟩⟩⟩⟩⟩⟩⟩⟩⟩⟩⟩⟩⟩⟩⟩⟩⟩⟩⟩⟩⟩⟩⟩⟩⟩⟩⟩⟩⟩⟩⟩⟩)))⟩⟩⟩⟩⟩⟩⟩⟩⟩⟩⟩⟩⟩⟩⟩⟩⟩⟩⟩⟩⟩⟩⟩) := by kernel_rfl
-- tocsin/tocsinlaw14.FingerSame
end Go.Vi
