/- All tokens: the iterator, and the range over it. The reader of conditions: tokens. Numbers' texts. Reading a condition. Numbers' texts that are refused. Package variables, as the world lays them, in the abstract memory. Numbers are written: how many digits there are. What the functions' bodies come to. Numbers are written: digits. Numbers are written: their texts. Numbers are written: Itoa, TrimRight, fixed.Print. -/
import Derived.Test.YtpkdgmcfojjfjaaGreatDoorJ4
import Derived.Test.YtpkdgmcfojjfjaaGreatDoorJ3
import Derived.Test.YtpkdgmcfojjfjaaGreatDoorJ2
import Derived.LaidSub
import Derived.Lay
import Derived.MakeChecks
import Derived.ChangeMaps5
import Derived.Test.YtpkdgmcfojjfjaaGreatDoorChecked
namespace Go.Vi
open Go Go.Proofs

def lexF (l : List UInt8) : Nat → Nat → List Tok × Option Nat
  | 0, _ => ([], none)
  | f + 1, a => if a < l.length then
      (if (oneF (l.drop a) a).2 = 0 then ([], some a)
       else ((oneF (l.drop a) a).1 :: (lexF l f (skipN l (a + (oneF (l.drop a) a).2))).1, (lexF l f (skipN l (a + (oneF (l.drop a) a).2))).2))
    else ([], none)
theorem oneF_le (s : List UInt8) (a : Nat) : (oneF s a).2 ≤ s.length := by
  unfold oneF
  cases s with
  | nil => simp
  | cons b r =>
    simp only
    split
    · exact runF_le _ _
    · split
      · exact numLen_le _
      · split
        · have := textF_len r.length r [] 1 (Nat.le_refl _); simp; omega
        · exact signF_le (b :: r)
theorem skipN_ge (l : List UInt8) (a : Nat) : a ≤ skipN l a := by unfold skipN; omega
theorem tell_loop {l : List UInt8} {sp : Nat} {rb : Nat} {J : List Tok → AHeap → Prop} {Jx : Nat → AHeap → Prop} {k : Value → AHeap → Prop} (hl : l.length ≤ 4096)
    (hJs : ∀ ts K, J ts K → hcells K sp = some [str l]) (hJr : ∀ ts K, J ts K → ∃ r, K[rb]? = some (.loop r)) (hJa : ∀ ts K X, J ts K → J ts (K ++ X))
    (hy : ∀ ts t K, J ts K → ts.length < 4096 → ∃ K', AYields Tryz.prog rb [.agg (Tok.cells t).toArray, i64 0] K (.bool true) K' ∧ J (ts ++ [t]) K')
    (hx : ∀ ts (a : Nat) K, J ts K → ∃ K', AYields Tryz.prog rb [.agg (Tok.cells ⟨0, [], a⟩).toArray, i64 90] K (.bool false) K' ∧ Jx a K')
    (w : List Tok × Option Nat) (hk1 : ∀ K, w.2 = none → J w.1 K → k (.tuple #[]) K) (hk2 : ∀ K a, w.2 = some a → Jx a K → k (.tuple #[]) K) :
    ∀ (f : Nat) (a : Nat) (ts : List Tok) (K : AHeap) (s2 s4 s5 s6 s7 s8 s9 s10 s11 s12 s13 s14 s15 s16 s17 s18 s19 s20 s21 s22 s23 s24 s25 s26 s27 s28 s29 s30 s31 s32 s33 s34 s35 s36 s37 s38 s39 : Value), l.length - a ≤ f → a ≤ l.length → ts.length ≤ a → J ts K → w = (ts ++ (lexF l f a).1, (lexF l f a).2) →
      L64x0 (f + 1) k [yval rb, .pointer (some ⟨sp, 0, some 1⟩), s2, i64 a, s4, s5, s6, s7, s8, s9, s10, s11, s12, s13, s14, s15, s16, s17, s18, s19, s20, s21, s22, s23, s24, s25, s26, s27, s28, s29, s30, s31, s32, s33, s34, s35, s36, s37, s38, s39] K := by
  intro f
  induction f with
  | zero =>
    intro a ts K s2 s4 s5 s6 s7 s8 s9 s10 s11 s12 s13 s14 s15 s16 s17 s18 s19 s20 s21 s22 s23 s24 s25 s26 s27 s28 s29 s30 s31 s32 s33 s34 s35 s36 s37 s38 s39 hf ha hts hJ hw
    have hc := hJs ts K hJ
    rw [L64x0q]
    have : ¬ a < l.length := by omega
    simp [hc, this]
    refine hk1 K ?_ ?_
    · rw [hw]; rfl
    · rw [hw]; simpa [lexF] using hJ
  | succ f ih =>
    intro a ts K s2 s4 s5 s6 s7 s8 s9 s10 s11 s12 s13 s14 s15 s16 s17 s18 s19 s20 s21 s22 s23 s24 s25 s26 s27 s28 s29 s30 s31 s32 s33 s34 s35 s36 s37 s38 s39 hf ha hts hJ hw
    have hc := hJs ts K hJ
    rw [L64x0q]
    by_cases hlt : a < l.length
    · simp [hc, hlt]
      refine bndC_of (c_one (by omega) hlt) ?_
      have hle := oneF_le (l.drop a) a
      rw [List.length_drop] at hle
      rw [lexF, if_pos hlt] at hw
      generalize oneF (l.drop a) a = o at hw hle ⊢
      obtain ⟨t, n⟩ := o
      simp only at hw hle
      simp [Tok.cells]
      refine kifB_bool (fun h => ?_) (fun h => ?_)
      · have hn : n = 0 := by simpa using h
        rw [if_pos hn] at hw
        obtain ⟨K', q1, q2⟩ := hx ts a _ (hJa ts K [.cells t.cells 70] hJ)
        simp
        refine bndV_yield (hJr ts _ (hJa ts K _ hJ)) (by simpa [Tok.cells] using q1) ?_
        exact hk2 K' a (by rw [hw]) q2
      · have hn : n ≠ 0 := by simpa using h
        rw [if_neg hn] at hw
        obtain ⟨K', q1, q2⟩ := hy ts t _ (hJa ts K [.cells t.cells 70] hJ) (by omega)
        simp
        refine bndV_yield (hJr ts _ (hJa ts K _ hJ)) (by simpa [Tok.cells] using q1) ?_
        have hc' := hJs _ K' q2
        have hwr : IntKind.i64.wrap ((a : Int) + n) = ((a + n : Nat) : Int) := by rw [wrap_i64 (by omega) (by omega)]; simp
        simp only [unV_not, bnd_some, Bool.not_true, kifB_false, aBin_add, hwr]
        simp [hc']
        refine bndC_of (c_skip (by omega) (by omega)) ?_
        have h1 := skipN_le (l := l) (a := a + n) (by omega)
        have h2 := skipN_ge l (a + n)
        exact ih (skipN l (a + n)) (ts ++ [t]) K' _ _ _ _ _ _ _ _ _ _ _ _ _ _ _ _ _ _ _ _ _ _ _ _ _ _ _ _ _ _ _ _ _ _ _ _ _ (by omega) h1 (by simp; omega) q2 (by rw [hw]; simp)
    · rw [lexF, if_neg hlt] at hw
      simp [hc, hlt]
      refine hk1 K ?_ ?_
      · rw [hw]
      · rw [hw]; simpa using hJ

theorem c_tell (H : AHeap) (l : List UInt8) : ACalls Tryz.prog 39 [str l] H (.func (.func 64) #[] #[.pointer (some ⟨H.length, 0, some 1⟩)]) (H ++ [.cells [str l] 9]) := by
  refine acalls_of MixT Tryz.func39 (by decide) ?_
  rw [d39]
  simp [aNew]
def allTok (l : List UInt8) : List Tok × Nat × Int :=
  if 4096 < l.length then ([], 0, 3) else match (lexF l (l.length + 1) (skipN l 0)).2 with
    | none => ((lexF l (l.length + 1) (skipN l 0)).1, 0, 0)
    | some a => ([], a, 90)
theorem c_tell1 {l : List UInt8} {sp : Nat} {rb : Nat} {J : List Tok → AHeap → Prop} {Jx : Nat → Int → AHeap → Prop} {K : AHeap} 
    (hJs : ∀ ts K, J ts K → hcells K sp = some [str l]) (hJr : ∀ ts K, J ts K → ∃ r, K[rb]? = some (.loop r)) (hJa : ∀ ts K X, J ts K → J ts (K ++ X))
    (hy : ∀ ts t K, J ts K → ts.length < 4096 → ∃ K', AYields Tryz.prog rb [.agg (Tok.cells t).toArray, i64 0] K (.bool true) K' ∧ J (ts ++ [t]) K')
    (hx : ∀ ts (a : Nat) (e : Int) K, e ≠ 0 → J ts K → ∃ K', AYields Tryz.prog rb [.agg (Tok.cells ⟨0, [], a⟩).toArray, i64 e] K (.bool false) K' ∧ Jx a e K') (hJ : J [] K) :
    ∃ v K', (((allTok l).2.2 = 0 ∧ J (allTok l).1 K') ∨ ((allTok l).1 = [] ∧ (allTok l).2.2 ≠ 0 ∧ Jx (allTok l).2.1 (allTok l).2.2 K')) ∧ ACalls Tryz.prog 64 [yval rb, .pointer (some ⟨sp, 0, some 1⟩)] K v K' := by
  refine acalls_ex MixT Tryz.func64 (by decide) ?_
  rw [d64]
  have hc := hJs [] K hJ
  by_cases h4 : 4096 < l.length
  · have h4I : (4096 : Int) < l.length := by omega
    simp [hc, h4I]
    obtain ⟨K', q1, q2⟩ := hx [] 0 3 K (by simp) hJ
    refine bndV_yield (hJr [] K hJ) (by simpa [Tok.cells] using q1) ?_
    right
    simp [allTok, h4]
    exact q2
  · have h4I : ¬ (4096 : Int) < l.length := by omega
    simp [hc, h4I]
    have hs := c_skip (H := K) (l := l) (a := 0) (by omega) (by omega)
    rw [show ((0 : Nat) : Int) = 0 from rfl] at hs
    refine bndC_of hs ?_
    have h1 := skipN_le (l := l) (a := 0) (by omega)
    refine ⟨l.length + 1 + 1, tell_loop (J := J) (Jx := fun a K => Jx a 90 K) (by omega) hJs hJr hJa hy (fun ts a K h => hx ts a 90 K (by simp) h) (lexF l (l.length + 1) (skipN l 0)) ?_ ?_ (l.length + 1) (skipN l 0) [] K _ _ _ _ _ _ _ _ _ _ _ _ _ _ _ _ _ _ _ _ _ _ _ _ _ _ _ _ _ _ _ _ _ _ _ _ _ (by omega) h1 (by simp) hJ (by simp)⟩
    · intro K' e1 e2
      left
      simp [allTok, h4, e1]
      exact e2
    · intro K' a e1 e2
      right
      simp [allTok, h4, e1]
      exact e2

def ToksAt (H : AHeap) (v : Value) (ts : List Tok) : Prop := Arr H 3 v (ts.map Tok.cells)
structure AllJ (H : AHeap) (l : List UInt8) (sl : List Value) (ps : Array Tmp) (assign body : Code) (ts : List Tok) (K : AHeap) : Prop where
  pre : Pre H K
  len : H.length + 7 ≤ K.length
  r1 : K[H.length]? = some (.cells [.slice none 0 0] 23)
  r2 : K[H.length + 1]? = some (.cells [i64 0] 3)
  r3 : K[H.length + 2]? = some (.cells [i64 0] 24)
  r4 : ∃ lv, K[H.length + 3]? = some (.cells [lv] 23) ∧ Gro K (H.length + 7) 3 70 lv (ts.map Tok.cells)
  r5 : K[H.length + 4]? = some (.cells [str l] 9)
  r6 : K[H.length + 5]? = some (.loop .blk)
  r7 : K[H.length + 6]? = some (.loop (.run sl ps assign body .ready none))
theorem AllJ.app {H l sl ps assign body ts K} (h : AllJ H l sl ps assign body ts K) (X : AHeap) : AllJ H l sl ps assign body ts (K ++ X) := by
  obtain ⟨lv, g1, g2⟩ := h.r4
  exact ⟨h.pre.more X, by have := h.len; simp; omega, get_more h.r1, get_more h.r2, get_more h.r3, ⟨lv, get_more g1, g2.app⟩, get_more h.r5, get_more h.r6, get_more h.r7⟩
structure AllX (H : AHeap) (sl : List Value) (ps : Array Tmp) (assign body : Code) (a : Nat) (e : Int) (K : AHeap) : Prop where
  pre : Pre H K
  r1 : K[H.length]? = some (.cells [.slice none 0 0] 23)
  r2 : K[H.length + 1]? = some (.cells [i64 a] 3)
  r3 : K[H.length + 2]? = some (.cells [i64 e] 24)
  r6 : K[H.length + 5]? = some (.loop .blk)
  r7 : K[H.length + 6]? = some (.loop (.run sl ps assign body .done (some .ret)))
noncomputable abbrev allA : Code := cl (cl (cr (cl (cr (cr (cb Tryz.f16))))))
noncomputable abbrev allB : Code := cr (cl (cr (cl (cr (cr (cb Tryz.f16))))))
def allSl (H : AHeap) (l : List UInt8) (fv : Value) : List Value := [str l, undef, .pointer (some ⟨H.length, 0, some 1⟩), .pointer (some ⟨H.length + 1, 0, some 1⟩), .pointer (some ⟨H.length + 2, 0, some 1⟩), .pointer (some ⟨H.length + 3, 0, some 1⟩), undef, undef, str l, fv, undef, undef, undef, undef, undef, undef, undef, undef, undef, undef, undef, undef]
theorem tel1 : aElem Tryz.prog 23 = some (70, 3, 32) := by kernel_rfl
theorem tel2 : isSeq Tryz.prog 23 = true := by kernel_rfl
theorem all_yield {H : AHeap} {l : List UInt8} {fv : Value} {ts : List Tok} {t : Tok} {K : AHeap} (hJ : AllJ H l (allSl H l fv) #[10, 11] allA allB ts K) (hts : ts.length < 4096) :
    ∃ K', AYields Tryz.prog (H.length + 6) [.agg t.cells.toArray, i64 0] K (.bool true) K' ∧ AllJ H l (allSl H l fv) #[10, 11] allA allB (ts ++ [t]) K' := by
  have key : ∃ v K', (v = .bool true ∧ AllJ H l (allSl H l fv) #[10, 11] allA allB (ts ++ [t]) K') ∧ AYields Tryz.prog (H.length + 6) [.agg t.cells.toArray, i64 0] K v K' := by
    refine ayields_ex MixT ?_
    unfold kround
    have h7 := hJ.r7
    rw [h7]
    refine ⟨rfl, ?_⟩
    have hsl : yput (allSl H l fv) (#[10, 11] : Array Tmp).toList [.agg t.cells.toArray, i64 0] = [str l, undef, .pointer (some ⟨H.length, 0, some 1⟩), .pointer (some ⟨H.length + 1, 0, some 1⟩), .pointer (some ⟨H.length + 2, 0, some 1⟩), .pointer (some ⟨H.length + 3, 0, some 1⟩), undef, undef, str l, fv, .agg t.cells.toArray, i64 0, undef, undef, undef, undef, undef, undef, undef, undef, undef, undef] := rfl
    rw [hsl, R16x0A]
    simp [Tok.cells]
    refine ⟨get_more h7, ?_⟩
    rw [R16x0B]
    have hKl := hJ.len
    generalize hB : AObj.loop (.run (allSl H l fv) #[10, 11] allA allB .busy none) = bus
    generalize hK1 : (K ++ [AObj.cells [.int .u8 t.kind, str t.text, i64 t.at'] 70]).set (H.length + 6) bus = K1
    have hL1 : K1.length = K.length + 1 := by rw [← hK1]; simp
    have hget : ∀ (b : Nat) (o : AObj), b ≠ H.length + 6 → K[b]? = some o → K1[b]? = some o := fun b o hb ho => by rw [← hK1, List.getElem?_set_ne (by omega)]; exact get_more ho
    have hx : K1[K.length]? = some (.cells [.int .u8 t.kind, str t.text, i64 t.at'] 70) := by rw [← hK1, List.getElem?_set_ne (by omega)]; simp
    have hbus : K1[H.length + 6]? = some bus := by rw [← hK1]; rw [List.getElem?_set_self (by simp; omega)]
    obtain ⟨lv, g1, g2⟩ := hJ.r4
    have g1' := hget _ _ (by omega) g1
    have g2' : Gro K1 (H.length + 7) 3 70 lv (ts.map Tok.cells) := by rw [← hK1]; exact g2.app.set (by omega)
    have hc1 : hcells K1 (H.length + 3) = some [lv] := by simp [hcells, g1']
    have hc2 : hcells K1 K.length = some [.int .u8 t.kind, str t.text, i64 t.at'] := by simp [hcells, hx]
    simp [hc1, hc2]
    have hlit := sliceLitA (c := t.cells) (tbs23 K1 1 _) (by rfl) (by simp [Tok.cells]) (by simp)
    simp only [Tok.cells, List.length_cons, List.length_nil] at hlit
    refine bndL_lit hlit ?_
    have hp1 : Pre H K1 := by rw [← hK1]; exact (hJ.pre.more _).set (by omega)
    have g2'' := g2'.app (X := [AObj.cells [.int .u8 t.kind, str t.text, i64 t.at'] 70])
    obtain ⟨v', K2, p1, p2, p3, p4, p5⟩ := Gro.push (P := Tryz.prog) (Ts := 23) (by_ := 32) (x := .slice (some ⟨K1.length, 0, some 3⟩) 1 1) (c := t.cells) g2'' tel1 tel2 (by rfl) (by simp; omega) (by simp [aSrc, Tok.cells]) (by simp; omega) (by simp; omega)
    have p6 := p3 (H.length + 3) _ (by omega) (get_more g1')
    have hv1 : v'.oneCell' = true := p2.one
    simp [p1, p6, Gro.cells p2, Gro.stor p2]
    have hj : jumpOf AExit.normal = none := rfl
    have hL2 : K1.length < K2.length := by have := p4; simp at this; omega
    refine ⟨p3 _ _ (by omega) (get_more hbus), hj, ?_⟩
    simp only [hj, if_true]
    have hg : ∀ (b : Nat) (o : AObj) (x y : AObj), b < H.length + 7 → b ≠ H.length + 6 → b ≠ H.length + 3 → K[b]? = some o → ((K2.set (H.length + 3) x).set (H.length + 6) y)[b]? = some o := fun b o x y h1 h2 h3 h4 => by
      rw [List.getElem?_set_ne (by omega), List.getElem?_set_ne (by omega)]
      exact p3 _ _ h1 (get_more (hget _ _ h2 h4))
    refine ⟨((p5 H (hp1.more _) (by omega)).set (by omega)).set (by omega), by simp; omega, hg _ _ _ _ (by omega) (by omega) (by omega) hJ.r1, hg _ _ _ _ (by omega) (by omega) (by omega) hJ.r2, hg _ _ _ _ (by omega) (by omega) (by omega) hJ.r3, ⟨v', ?_, ?_⟩, hg _ _ _ _ (by omega) (by omega) (by omega) hJ.r5, hg _ _ _ _ (by omega) (by omega) (by omega) hJ.r6, ?_⟩
    · rw [List.getElem?_set_ne (by omega), List.getElem?_set_self (by omega)]
    · rw [List.map_append]
      exact (p2.set (by omega)).set (by omega)
    · rw [List.getElem?_set_self (by simp; omega)]
  obtain ⟨v, K', ⟨rfl, h⟩, hy⟩ := key
  exact ⟨K', hy, h⟩

theorem all_err {H : AHeap} {l : List UInt8} {fv : Value} {ts : List Tok} {a : Nat} {e : Int} {K : AHeap} (he : e ≠ 0) (hJ : AllJ H l (allSl H l fv) #[10, 11] allA allB ts K) :
    ∃ K', AYields Tryz.prog (H.length + 6) [.agg (Tok.cells ⟨0, [], a⟩).toArray, i64 e] K (.bool false) K' ∧ AllX H (allSl H l fv) #[10, 11] allA allB a e K' := by
  have key : ∃ v K', (v = .bool false ∧ AllX H (allSl H l fv) #[10, 11] allA allB a e K') ∧ AYields Tryz.prog (H.length + 6) [.agg (Tok.cells ⟨0, [], a⟩).toArray, i64 e] K v K' := by
    refine ayields_ex MixT ?_
    unfold kround
    have h7 := hJ.r7
    rw [h7]
    refine ⟨rfl, ?_⟩
    have hsl : yput (allSl H l fv) (#[10, 11] : Array Tmp).toList [.agg (Tok.cells ⟨0, [], a⟩).toArray, i64 e] = [str l, undef, .pointer (some ⟨H.length, 0, some 1⟩), .pointer (some ⟨H.length + 1, 0, some 1⟩), .pointer (some ⟨H.length + 2, 0, some 1⟩), .pointer (some ⟨H.length + 3, 0, some 1⟩), undef, undef, str l, fv, .agg (Tok.cells ⟨0, [], a⟩).toArray, i64 e, undef, undef, undef, undef, undef, undef, undef, undef, undef, undef] := rfl
    rw [hsl, R16x0A]
    simp [Tok.cells]
    refine ⟨get_more h7, ?_⟩
    rw [R16x0B]
    have hKl := hJ.len
    have heb : (e != 0) = true := by simpa using he
    simp
    generalize hB : AObj.loop (.run (allSl H l fv) #[10, 11] allA allB .busy none) = bus
    generalize hK1 : (K ++ [AObj.cells [.int .u8 0, str [], i64 a] 70]).set (H.length + 6) bus = K1
    have hL1 : K1.length = K.length + 1 := by rw [← hK1]; simp
    have hget : ∀ (b : Nat) (o : AObj), b ≠ H.length + 6 → K[b]? = some o → K1[b]? = some o := fun b o hb ho => by rw [← hK1, List.getElem?_set_ne (by omega)]; exact get_more ho
    have hx : K1[K.length]? = some (.cells [.int .u8 0, str [], i64 a] 70) := by rw [← hK1, List.getElem?_set_ne (by omega)]; simp
    have hc2 : hcells K1 K.length = some [.int .u8 0, str [], i64 a] := by simp [hcells, hx]
    have q1 := hget _ _ (by omega) hJ.r1
    have q2 := hget _ _ (by omega) hJ.r2
    have q3 := hget _ _ (by omega) hJ.r3
    have q6 := hget _ _ (by omega) hJ.r6
    have hl2 : hlen K1 K.length = some 3 := by simp [hlen, hx]
    rw [heb]
    simp [hc2, hl2]
    have hs1 : aStore Tryz.prog K1 23 (.pointer (some ⟨H.length, 0, some 1⟩)) (.slice none 0 0) = some K1 := by
      simp [q1]
      exact set_same q1
    refine bndD_of ⟨rfl, hs1⟩ (.inr ⟨[], by simp⟩) ?_
    refine bndD_of (v := undef) (H' := K1.set (H.length + 1) (.cells [i64 a] 3)) ⟨rfl, by simp [q2]⟩ (.inl rfl) ?_
    have hne : ∀ (b c : Nat) (x : AObj), b ≠ c → (K1.set b x)[c]? = K1[c]? := fun b c x h => List.getElem?_set_ne h
    refine bndD_of (v := undef) (H' := (K1.set (H.length + 1) (.cells [i64 a] 3)).set (H.length + 2) (.cells [i64 e] 24)) ⟨rfl, by simp [q3, hne]⟩ (.inl rfl) ?_
    simp
    have hj : jumpOf AExit.ret = some .ret := rfl
    have hbus : K1[H.length + 6]? = some bus := by rw [← hK1]; rw [List.getElem?_set_self (by simp; omega)]
    have hp1 : Pre H K1 := by rw [← hK1]; exact (hJ.pre.more _).set (by omega)
    refine ⟨hbus, by rw [hj]; rfl, ?_⟩
    simp only [hj, reduceCtorEq, if_false]
    refine ⟨((hp1.set (by omega)).set (by omega)).set (by omega), ?_, ?_, ?_, ?_, ?_⟩
    · simp [q1]
    · rw [List.getElem?_set_ne (by omega), List.getElem?_set_ne (by omega), List.getElem?_set_self (by omega)]
    · rw [List.getElem?_set_ne (by omega), List.getElem?_set_self (by simp; omega)]
    · simp [q6]
    · rw [List.getElem?_set_self (by simp; omega)]
  obtain ⟨v, K', ⟨rfl, h⟩, hy⟩ := key
  exact ⟨K', hy, h⟩
theorem allTok_zero {l : List UInt8} (h : (allTok l).2.2 = 0) : (allTok l).2.1 = 0 := by
  unfold allTok at *
  by_cases h4 : 4096 < l.length
  · simp [h4] at h
  · rw [if_neg h4] at h ⊢
    split at h <;> first | rfl | simp at h
theorem c_lexAll (H : AHeap) (l : List UInt8) : ∃ v K', (∃ lv, v = .tuple #[lv, i64 (allTok l).2.1, i64 (allTok l).2.2] ∧ Pre H K' ∧ ToksAt K' lv (allTok l).1) ∧ ACalls Tryz.prog 16 [str l] H v K' := by
  refine acallsG_ex MixT Tryz.func16 (by decide) ?_
  rw [d16]
  simp
  refine bndC_of (c_tell _ _) ?_
  simp [krange]
  refine ⟨by kernel_rfl, ?_⟩
  rw [show H.length + 5 + 1 = H.length + 6 from rfl]
  generalize hfv : Value.func (Fn.func 64) #[] #[Value.pointer (some { block := H.length + 4, off := 0, spot := some 1 })] = fv
  generalize hK0 : (H ++ _ : AHeap) = K0
  have hJ : AllJ H l (allSl H l fv) #[10, 11] allA allB [] K0 := by
    subst hK0
    refine ⟨.app _ _, by simp, ?_, ?_, ?_, ⟨_, ?_, .nil⟩, ?_, ?_, ?_⟩ <;> simp <;> rfl
  obtain ⟨v, K', hd, hc⟩ := c_tell1 (l := l) (sp := H.length + 4) (rb := H.length + 6) (J := fun ts K => AllJ H l (allSl H l fv) #[10, 11] allA allB ts K) (Jx := fun a e K => AllX H (allSl H l fv) #[10, 11] allA allB a e K)
    (fun ts K h => by simp [hcells, h.r5]) (fun ts K h => ⟨_, h.r7⟩) (fun ts K X h => h.app X) (fun ts t K h ht => all_yield h ht) (fun ts a e K he h => all_err he h) hJ
  refine ⟨v, K', hc, ?_⟩
  rcases hd with ⟨e0, h⟩ | ⟨e1, e0, h⟩
  · obtain ⟨lv, g1, g2⟩ := h.r4
    have hL := h.len
    have hne : ∀ (b c : Nat) (x : AObj) (K : AHeap), b ≠ c → (K.set b x)[c]? = K[c]? := fun b c x K h => List.getElem?_set_ne h
    have hnc : ∀ (b c : Nat) (x : AObj) (K : AHeap), b ≠ c → hcells (K.set b x) c = hcells K c := fun b c x K h => by rw [hcells_eq, hcells_eq, hne _ _ _ _ h]
    have c1 : hcells K' (H.length + 3) = some [lv] := by simp [hcells_eq, g1]
    have hst := g2.stor
    unfold rngEnd
    simp [h.r7, kjump, allSl]
    rw [R16x0n]
    have hself0 : ∀ X (cs : List Value) (T : TypeId), hcells ((K'.set (H.length + 6) X).set H.length (.cells cs T)) H.length = some cs := fun X cs T => by
      rw [hcells_eq, List.getElem?_set_self (by simp; omega)]; rfl
    have hself1 : ∀ X Y (cs : List Value) (T : TypeId), hcells (((K'.set (H.length + 6) X).set H.length Y).set (H.length + 1) (.cells cs T)) (H.length + 1) = some cs := fun X Y cs T => by
      rw [hcells_eq, List.getElem?_set_self (by simp; omega)]; rfl
    have hself2 : ∀ X Y Z (cs : List Value) (T : TypeId), hcells ((((K'.set (H.length + 6) X).set H.length Y).set (H.length + 1) Z).set (H.length + 2) (.cells cs T)) (H.length + 2) = some cs := fun X Y Z cs T => by
      rw [hcells_eq, List.getElem?_set_self (by simp; omega)]; rfl
    simp [hne, hnc, hself0, hself1, hself2, c1, h.r1, h.r2, h.r3, h.r6, g2.cells, hst]
    exact ⟨lv, ⟨rfl, by rw [allTok_zero e0]; rfl, e0.symm⟩, ((((h.pre.set (by omega)).set (by omega)).set (by omega)).set (by omega)).set (by omega), (((((g2.set (by omega)).set (by omega)).set (by omega)).set (by omega)).set (by omega)).arr⟩
  · have hne : ∀ (b c : Nat) (x : AObj) (K : AHeap), b ≠ c → (K.set b x)[c]? = K[c]? := fun b c x K h => List.getElem?_set_ne h
    have hnc : ∀ (b c : Nat) (x : AObj) (K : AHeap), b ≠ c → hcells (K.set b x) c = hcells K c := fun b c x K h => by rw [hcells_eq, hcells_eq, hne _ _ _ _ h]
    have c1 : hcells K' (H.length) = some [.slice none 0 0] := by simp [hcells_eq, h.r1]
    have c2 : hcells K' (H.length + 1) = some [i64 (allTok l).2.1] := by simp [hcells_eq, h.r2]
    have c3 : hcells K' (H.length + 2) = some [i64 (allTok l).2.2] := by simp [hcells_eq, h.r3]
    unfold rngEnd
    simp [h.r7, kjump, allSl]
    rw [R16x0r]
    simp [hne, hnc, c1, c2, c3, h.r6, e1]
    exact ⟨(h.pre.set (by omega)).set (by omega), .nil⟩
end Go.Vi
namespace Go.Vi
open Go Go.Proofs

@[simp] theorem nilV_ptr (b o m : Nat) : nilV (.pointer (some ⟨b, o, some m⟩)) = some (.pointer (some ⟨b, o, some m⟩)) := rfl
def rdo (lv : Value) (a : Nat) (ok : Bool) : AObj := .cells [lv, i64 a, .bool ok] 81
structure RdA (H K : AHeap) (rb : Nat) (lv : Value) (ts : List Tok) (a : Nat) (ok : Bool) : Prop where
  toks : ToksAt H lv ts
  pre : Pre H K
  hb : H.length ≤ rb
  cell : K[rb]? = some (rdo lv a ok)
  len : ts.length < 2 ^ 40
  le : a ≤ ts.length
def isT (ts : List Tok) (a : Nat) (k : Int) (s : List UInt8) : Bool := (ts[a]?).any fun t => t.kind == k && t.text == s
theorem RdA.lt {H K rb lv ts a ok} (h : RdA H K rb lv ts a ok) : rb < K.length := (List.getElem?_eq_some_iff.1 h.cell).1
theorem RdA.app {H K rb lv ts a ok} (h : RdA H K rb lv ts a ok) (X : AHeap) : RdA H (K ++ X) rb lv ts a ok := ⟨h.toks, h.pre.more X, h.hb, get_more h.cell, h.len, h.le⟩
theorem RdA.put {H K rb lv ts a ok} (h : RdA H K rb lv ts a ok) (a' : Nat) (ok' : Bool) (ha : a' ≤ ts.length) : RdA H (K.set rb (rdo lv a' ok')) rb lv ts a' ok' :=
  ⟨h.toks, h.pre.set h.hb, h.hb, by rw [List.getElem?_set_self h.lt], h.len, ha⟩
theorem toksAt_at {K : AHeap} {lv : Value} {ts : List Tok} {a : Nat} {t : Tok} (h : ToksAt K lv ts) (ht : ts[a]? = some t) :
    ∃ p q r, aIndexAddr Tryz.prog K 23 lv (i64 a) = some p ∧ aFieldAddr Tryz.prog K 70 p 0 = some q ∧ aLoad Tryz.prog K 5 q = some (.int .u8 t.kind) ∧ aFieldAddr Tryz.prog K 70 p 1 = some r ∧ aLoad Tryz.prog K 9 r = some (str t.text) := by
  have hi : (ts.map Tok.cells)[a]? = some t.cells := by simp [ht]
  obtain ⟨p, q, h1, h2, h3⟩ := h.field (P := Tryz.prog) (T := 23) (te := 70) (f := 0) (d := 0) (ft := 5) (by simp) (by simp) (by simp) (by simp) (by simp) hi rfl
  obtain ⟨p', r, h4, h5, h6⟩ := h.field (P := Tryz.prog) (T := 23) (te := 70) (f := 1) (d := 1) (ft := 9) (by simp) (by simp) (by simp) (by simp) (by simp) hi rfl
  rw [h1] at h4
  cases h4
  exact ⟨p, q, r, h1, h2, h3, h5, h6⟩
theorem c_is {H K rb lv ts a ok} (h : RdA H K rb lv ts a ok) (k : Int) (s : List UInt8) :
    ACalls Tryz.prog 104 [(Value.pointer (some ⟨rb, 0, some 3⟩)), .int .u8 k, str s] K (.bool (ok && isT ts a k s)) K := by
  refine acalls_pure MixT Tryz.func104 (by decide) rfl ?_
  rw [d104]
  have hc := h.cell
  have hcc : hcells K rb = some [lv, i64 a, .bool ok] := by simp [hcells_eq, hc, rdo]
  have hll : hlen K rb = some 3 := by simp [hlen, hc, rdo]
  have hl := (h.toks.pre h.pre).len (P := Tryz.prog) (T := 23) (e := 70) (by simp)
  simp at hl
  cases ok with
  | false => simp [hcc, hll]
  | true =>
    simp [hcc, hll, hl]
    by_cases ha : a < ts.length
    · obtain ⟨t, ht⟩ : ∃ t, ts[a]? = some t := ⟨_, List.getElem?_eq_getElem ha⟩
      obtain ⟨p, q, r, e1, e2, e3, e4, e5⟩ := toksAt_at (h.toks.pre h.pre) ht
      have hT : isT ts a k s = (t.kind == k && t.text == s) := by simp [isT, ht]
      rw [hT]
      simp [ha, hcc, hll, e1, e2, e3]
      by_cases hk : (t.kind == k) = true
      · simp [hk, hcc, hll, e1, e4, e5]
        exact Bool.eq_iff_iff.2 (by simp)
      · simp only [Bool.not_eq_true] at hk
        simp [hk]
    · simp [ha, isT]
theorem isT_lt {ts a k s} (h : isT ts a k s = true) : a < ts.length := by
  unfold isT at h
  by_cases ha : a < ts.length
  · exact ha
  · rw [List.getElem?_eq_none (by omega)] at h; cases h
theorem c_takes_y {H K rb lv ts a} (h : RdA H K rb lv ts a true) {k : Int} {s : List UInt8} (ht : isT ts a k s = true) :
    ACalls Tryz.prog 68 [(Value.pointer (some ⟨rb, 0, some 3⟩)), .int .u8 k, str s] K (.bool true) (K.set rb (rdo lv (a + 1) true)) := by
  refine acalls_of MixT Tryz.func68 (by decide) ?_
  rw [d68]
  refine bndC_of (c_is h k s) ?_
  have hlt := isT_lt ht
  have hc := h.cell
  have hcc : hcells K rb = some [lv, i64 a, .bool true] := by simp [hcells_eq, hc, rdo]
  have hll : hlen K rb = some 3 := by simp [hlen, hc, rdo]
  have hw : IntKind.i64.wrap ((a : Int) + 1) = (a : Int) + 1 := wrap_i64 (by omega) (by have := h.len; omega)
  simp only [rdo] at hc
  simp only [ht, Bool.true_and]
  simp [hcc, hll, hc, rdo, hw, ht, S68x0q]
theorem c_takes_n {H K rb lv ts a ok} (h : RdA H K rb lv ts a ok) {k : Int} {s : List UInt8} (ht : (ok && isT ts a k s) = false) :
    ACalls Tryz.prog 68 [(Value.pointer (some ⟨rb, 0, some 3⟩)), .int .u8 k, str s] K (.bool false) K := by
  refine acalls_of MixT Tryz.func68 (by decide) ?_
  rw [d68]
  refine bndC_of (c_is h k s) ?_
  simp [ht, S68x0q]
theorem c_sign_y {H K rb lv ts a} (h : RdA H K rb lv ts a true) {s : List UInt8} (ht : isT ts a 4 s = true) :
    ACalls Tryz.prog 69 [(Value.pointer (some ⟨rb, 0, some 3⟩)), str s] K (.tuple #[]) (K.set rb (rdo lv (a + 1) true)) := by
  refine acalls_of MixT Tryz.func69 (by decide) ?_
  rw [d69]
  refine bndC_of (c_takes_y h ht) ?_
  have hlt := h.lt
  have hc : (K.set rb (rdo lv (a + 1) true))[rb]? = some (rdo lv (a + 1) true) := List.getElem?_set_self hlt
  generalize K.set rb (rdo lv (a + 1) true) = L at hc
  have hll : hlen L rb = some 3 := by simp [hlen, hc, rdo]
  simp [hll, hc, rdo]
  exact set_same hc
theorem c_take_y {H K rb lv ts a} (h : RdA H K rb lv ts a true) {t : Tok} (ht : ts[a]? = some t) :
    ACalls Tryz.prog 127 [(Value.pointer (some ⟨rb, 0, some 3⟩)), .int .u8 t.kind] K (str t.text) (K.set rb (rdo lv (a + 1) true)) := by
  refine acalls_of MixT Tryz.func127 (by decide) ?_
  rw [d127]
  have hlt := (List.getElem?_eq_some_iff.1 ht).1
  have hc := h.cell
  have hcc : hcells K rb = some [lv, i64 a, .bool true] := by simp [hcells_eq, hc, rdo]
  have hll : hlen K rb = some 3 := by simp [hlen, hc, rdo]
  have hl := (h.toks.pre h.pre).len (P := Tryz.prog) (T := 23) (e := 70) (by simp)
  simp at hl
  obtain ⟨p, q, r, e1, e2, e3, e4, e5⟩ := toksAt_at (h.toks.pre h.pre) ht
  have hw : IntKind.i64.wrap ((a : Int) + 1) = (a : Int) + 1 := wrap_i64 (by omega) (by have := h.len; omega)
  have hlt2 : ¬ (ts.length ≤ a) := by omega
  simp only [rdo] at hc
  simp [hcc, hll, hl, hlt2, e1, e2, e3, hc, hw]
  have hL := (h.put (a + 1) true (by omega)).cell
  have hpL := (h.put (a + 1) true (by omega)).pre
  simp only [rdo, Int.natCast_add, Int.natCast_one] at hL hpL
  generalize hLd : K.set rb (AObj.cells [lv, i64 (a + 1), .bool true] 81) = L at hL hpL ⊢
  have hcL : hcells L rb = some [lv, i64 (a + 1), .bool true] := by simp [hcells_eq, hL]
  have hlL : hlen L rb = some 3 := by simp [hlen, hL]
  have hw2 : IntKind.i64.wrap (a : Int) = a := wrap_i64 (by omega) (by have := h.len; omega)
  obtain ⟨p, q, r, e1, e2, e3, e4, e5⟩ := toksAt_at (h.toks.pre hpL) ht
  simp [hcL, hlL, hw2, e1, e4, e5]
  rw [← hLd]
  simp [rdo]

def nmapK : Nat → List (List UInt8) → List (Value × Value)
  | _, [] => []
  | k, s :: r => (str s, i64 k) :: nmapK (k + 1) r
theorem nmapK_app (s : List UInt8) : ∀ (l : List (List UInt8)) (k : Nat), nmapK k (l ++ [s]) = nmapK k l ++ [(str s, i64 ((k + l.length : Nat) : Int))] := by
  intro l
  induction l with
  | nil => intro k; rfl
  | cons t r ih =>
    intro k
    rw [List.cons_append, nmapK, ih, nmapK, List.length_cons, show k + 1 + r.length = k + (r.length + 1) by omega]
    rfl
theorem SMap.mono {Q R : List UInt8 → Value → Prop} (h : ∀ k v, Q k v → R k v) : ∀ {es ks}, SMap Q es ks → SMap R es ks := by
  intro es
  induction es with
  | nil => intro ks h; cases ks <;> exact h
  | cons e es ih => intro ks h; cases ks with
    | nil => exact h
    | cons k ks => exact ⟨h.1, ‹∀ k v, Q k v → R k v› _ _ h.2.1, ih h.2.2⟩
theorem nmapK_smap : ∀ (l : List (List UInt8)) (k : Nat), SMap (fun s v => ∃ i : Nat, v = i64 ((k + i : Nat) : Int) ∧ l[i]? = some s) (nmapK k l) l := by
  intro l
  induction l with
  | nil => intro k; trivial
  | cons t r ih =>
    intro k
    refine ⟨rfl, ⟨0, rfl, rfl⟩, (ih (k + 1)).mono ?_⟩
    rintro s v ⟨i, rfl, h⟩
    exact ⟨i + 1, by rw [show k + 1 + i = k + (i + 1) by omega], by simpa using h⟩
theorem nmap_put {l : List (List UInt8)} {i : Nat} {s : List UInt8} (hn : l.Nodup) (hi : l[i]? = some s) : mput (str s) (i64 i) (nmapK 0 (l.take i)) = nmapK 0 (l.take (i + 1)) := by
  have hlt := (List.getElem?_eq_some_iff.1 hi).1
  have hns : s ∉ l.take i := by
    intro hm
    obtain ⟨j, hj, hjs⟩ := List.getElem_of_mem hm
    have hj' : j < i := by simp at hj; omega
    have e1 : l[j] = s := by simpa using hjs
    have e2 : l[i] = s := (List.getElem?_eq_some_iff.1 hi).2
    exact List.pairwise_iff_getElem.1 hn j i (by omega) hlt hj' (e1.trans e2.symm)
  have htk : l.take (i + 1) = l.take i ++ [s] := by rw [List.take_add_one, hi]; rfl
  unfold mput
  rcases (nmapK_smap (l.take i) 0).find (k := s) with ⟨g1, _⟩ | ⟨_, g2⟩
  · exact absurd g1 hns
  · rw [g2, htk, nmapK_app]
    simp [Nat.min_eq_left (Nat.le_of_lt hlt)]
theorem named_loop {l : List (List UInt8)} {H : AHeap} {v : Value} {k : Value → AHeap → Prop} (hl : l.length < 2 ^ 40) (hn : l.Nodup) (ha : Arr H 1 v (strCells l)) (hk : k (.map (some H.length)) (H ++ [.map (nmapK 0 l)])) :
    ∀ (r : List (List UInt8)) (i : Nat) (s1 s2 s4 s5 s6 s10 s11 s12 s13 s14 s15 s16 s17 s18 : Value), l.drop i = r → i ≤ l.length →
      L126x0 (r.length + 1) k [v, s1, s2, .map (some H.length), s4, s5, s6, v, i64 l.length, i64 i, s10, s11, s12, s13, s14, s15, s16, s17, s18] (H ++ [.map (nmapK 0 (l.take i))]) := by
  intro r
  induction r with
  | nil =>
    intro i s1 s2 s4 s5 s6 s10 s11 s12 s13 s14 s15 s16 s17 s18 hd hi
    have hle : l.length ≤ i := by simpa using hd
    rw [List.length_nil, L126x0q, List.take_of_length_le hle]
    have : ¬ i < l.length := by omega
    simp [this]
    exact hk
  | cons s r ih =>
    intro i s1 s2 s4 s5 s6 s10 s11 s12 s13 s14 s15 s16 s17 s18 hd hi
    have hb : l[i]? = some s := by rw [← List.head?_drop, hd]; rfl
    have hlt : i < l.length := (List.getElem?_eq_some_iff.1 hb).1
    obtain ⟨q, hp1, hp2⟩ := (ha.pre (.app H [.map (nmapK 0 (l.take i))])).load1 (P := Tryz.prog) (T := 42) (te := 9) (i := i) (x := str s) (by simp) (by simp) (by simp) (by simp [strCells, hb])
    rw [List.length_cons, L126x0q]
    have hm : (H ++ [AObj.map (nmapK 0 (l.take i))])[H.length]? = some (.map (nmapK 0 (l.take i))) := by simp
    have hok := (nmapK_smap (l.take i) 0).ok
    have hset : (H ++ [AObj.map (nmapK 0 (l.take i))]).set H.length (.map (nmapK 0 (l.take (i + 1)))) = H ++ [.map (nmapK 0 (l.take (i + 1)))] := by simp
    simp only [aBin_lss, bnd_some, Int.ofNat_lt, hlt, decide_true, kifB_true, hp1, hp2]
    simp only [aUpdate_map, hm, tm163, Option.bind_some, mapOf_map, keyOk, hok, and_self, if_true, bndS_some, bnd_some, aBin_add, wrap_succ (show i + 1 < 2 ^ 63 by omega), nmap_put hn hb, hset]
    exact ih (i + 1) _ _ _ _ _ _ _ _ _ _ _ _ _ _ (by rw [← List.drop_drop, hd]; rfl) hlt
theorem c_named {l : List (List UInt8)} {H : AHeap} {v : Value} (hl : l.length < 2 ^ 40) (hn : l.Nodup) (ha : Arr H 1 v (strCells l)) :
    ACalls Tryz.prog 126 [v] H (.map (some H.length)) (H ++ [.map (nmapK 0 l)]) := by
  refine acalls_of MixT Tryz.func126 (by decide) ?_
  rw [d126]
  have hlen := (ha.pre (.app H [.map []])).len (P := Tryz.prog) (T := 42) (e := 9) (by simp)
  simp [strCells] at hlen
  simp [hlen]
  exact ⟨l.length + 1, named_loop hl hn ha ⟨rfl, rfl⟩ l 0 _ _ _ _ _ _ _ _ _ _ _ _ _ _ rfl (by omega)⟩
theorem nmap_get {l : List (List UInt8)} {i : Nat} {s : List UInt8} (hn : l.Nodup) (hi : l[i]? = some s) : mget (str s) (nmapK 0 l) = some (i64 i) := by
  rcases (nmapK_smap l 0).get (k := s) with ⟨_, v, g1, j, rfl, g2⟩ | ⟨g1, _⟩
  · have h1 := (List.getElem?_eq_some_iff.1 hi)
    have h2 := (List.getElem?_eq_some_iff.1 g2)
    obtain ⟨a1, a2⟩ := h1
    obtain ⟨b1, b2⟩ := h2
    have : i = j := by
      rcases Nat.lt_trichotomy i j with q | q | q
      · exact absurd (a2.trans b2.symm) (List.pairwise_iff_getElem.1 hn i j a1 b1 q)
      · exact q
      · exact absurd (b2.trans a2.symm) (List.pairwise_iff_getElem.1 hn j i b1 a1 q)
    subst this
    rw [g1, Nat.zero_add]
  · exact absurd (List.mem_of_getElem? hi) g1
end Go.Vi
namespace Go.Vi
open Go Go.Proofs

theorem bnd_of {x : Option Value} {v : Value} {q : QV} (h : x = some v) (k : q.f v) : @bnd x q := by rw [h, bnd_some]; exact k
def hasPre (l p : List UInt8) : Bool := decide (p.length ≤ l.length) && decide (l.take p.length = p)
theorem c_hasPrefix0 (H : AHeap) (l p : List UInt8) : ACalls Tryz.prog 158 [str l, str p] H (.bool (hasPre l p)) H := by
  refine acalls_pure MixT Tryz.func158 (by decide) rfl ?_
  rw [d158]
  by_cases h : p.length ≤ l.length
  · have hs := aSliceOp_str (P := Tryz.prog) (H := H) (T := 9) (l := l) (lo := none) (hi := some (i64 p.length)) (a := 0) (b := p.length) (by simp) rfl rfl (by omega) (by omega) (by omega)
    simp at hs
    simp [h, hs, hasPre]
  · simp [h, hasPre]
theorem c_hasPrefix (H : AHeap) (l p : List UInt8) : ACalls Tryz.prog 133 [str l, str p] H (.bool (hasPre l p)) H := by
  refine acalls_pure MixT Tryz.func133 (by decide) rfl ?_
  rw [d133]
  exact bndC_of (c_hasPrefix0 _ _ _) (by simp)
def cutPre (l p : List UInt8) : List UInt8 := if hasPre l p = true then l.drop p.length else l
theorem c_cutPrefix0 (H : AHeap) (l p : List UInt8) : ACalls Tryz.prog 179 [str l, str p] H (.tuple #[str (cutPre l p), .bool (hasPre l p)]) H := by
  refine acallsT_pure MixT Tryz.func179 (by decide) rfl ?_
  rw [d179]
  refine bndC_of (c_hasPrefix0 _ _ _) ?_
  by_cases h : hasPre l p = true
  · have hle : p.length ≤ l.length := by unfold hasPre at h; simp at h; exact h.1
    have hs := aSliceOp_str (P := Tryz.prog) (H := H) (T := 9) (l := l) (lo := some (i64 p.length)) (hi := none) (a := p.length) (b := l.length) (by simp) rfl rfl (by omega) (by omega) (by omega)
    simp at hs
    simp [h, hs, cutPre]
  · simp only [Bool.not_eq_true] at h
    simp [h, cutPre]
theorem c_cutPrefix (H : AHeap) (l p : List UInt8) : ACalls Tryz.prog 155 [str l, str p] H (.tuple #[str (cutPre l p), .bool (hasPre l p)]) H := by
  refine acallsT_pure MixT Tryz.func155 (by decide) rfl ?_
  rw [d155]
  exact bndC_of (c_cutPrefix0 _ _ _) (by simp)
theorem and_lo (H : AHeap) (x y : Operand) : aBin2 Tryz.prog H .and 178 x y (.int .u64 1) (.int .u64 4294967295) = some (.int .u64 1) := by kernel_rfl
theorem and_lo2 (H : AHeap) (x y : Operand) : aBin2 Tryz.prog H .and 178 x y (.int .u64 2) (.int .u64 4294967295) = some (.int .u64 2) := by kernel_rfl
theorem and_lo3 (H : AHeap) (x y : Operand) : aBin2 Tryz.prog H .and 178 x y (.int .u64 3) (.int .u64 4294967295) = some (.int .u64 3) := by kernel_rfl
theorem and_lo0 (H : AHeap) (x y : Operand) : aBin2 Tryz.prog H .and 178 x y (.int .u64 0) (.int .u64 4294967295) = some (.int .u64 0) := by kernel_rfl
theorem c_hasZero (H : AHeap) : ACalls Tryz.prog 133 [str (List.replicate 64 48), str [48]] H (.bool true) H := by
  have := c_hasPrefix H (List.replicate 64 48) [48]
  rwa [show hasPre (List.replicate 64 48) [48] = true by decide] at this
theorem c_mul64 (H : AHeap) (n : Int) (hn : n = 2 ∨ n = 3) : ACalls Tryz.prog 192 [.int .u64 1, .int .u64 n] H (.tuple #[.int .u64 0, .int .u64 n]) H := by
  refine acallsT_pure MixT Tryz.func192 (by decide) rfl ?_
  rw [d192]
  have f1 : Int.fdiv 1 (2 ^ min 32 IntKind.u64.bits) = 0 := by decide
  have f2 : Int.fdiv 2 (2 ^ min 32 IntKind.u64.bits) = 0 := by decide
  have f3 : Int.fdiv 3 (2 ^ min 32 IntKind.u64.bits) = 0 := by decide
  have f0 : Int.fdiv 0 (2 ^ min 32 IntKind.u64.bits) = 0 := by decide
  have w0 : IntKind.u64.wrap 0 = 0 := by decide
  have w2 : IntKind.u64.wrap 2 = 2 := by decide
  have w3 : IntKind.u64.wrap 3 = 3 := by decide
  rcases hn with rfl | rfl <;> simp [and_lo, and_lo2, and_lo3, and_lo0, aBin_shr, f0, f1, f2, f3, w0, w2, w3]
theorem c_mul (H : AHeap) (n : Int) (hn : n = 2 ∨ n = 3) : ACalls Tryz.prog 180 [.int .u64 1, .int .u64 n] H (.tuple #[.int .u64 0, .int .u64 n]) H := by
  refine acallsT_pure MixT Tryz.func180 (by decide) rfl ?_
  rw [d180]
  simp
  refine bndC_of (c_mul64 _ _ hn) (by simp)
set_option maxRecDepth 4000 in
theorem c_repeat0 (H : AHeap) (n : Nat) (hn : n ≤ 3) : ACalls Tryz.prog 157 [str [48], i64 n] H (str (List.replicate n 48)) H := by
  refine acalls_pure MixT Tryz.func157 (by decide) rfl ?_
  rw [d157]
  have i2 : IntKind.i64.wrap 2 = 2 := by decide
  have i3 : IntKind.i64.wrap 3 = 3 := by decide
  have w1 : IntKind.u64.wrap 1 = 1 := by decide
  have w2 : IntKind.u64.wrap 2 = 2 := by decide
  have w3 : IntKind.u64.wrap 3 = 3 := by decide
  rcases n with _ | _ | _ | _ | n
  · simp
  · simp
  · simp
    rw [S157x0q]
    simp [convV_int, w1, w2]
    refine bndC_of (c_mul _ _ (.inl rfl)) ?_
    simp
    rw [S157x1q]
    have q0 := aIndex_at (P := Tryz.prog) (T := 9) (k := .i64) (l := [48]) (i := 0) (by simp) rfl
    simp at q0
    simp [convV_int, q0]
    rw [S157x2q]
    simp [i2]
    refine bndG_t (.bool false) _ (c_hasPrefix H (List.replicate 128 32) [48]) ?_
    simp [i2]
    refine bndG_t (.bool false) _ (c_hasPrefix H (List.replicate 128 45) [48]) ?_
    simp [i2]
    refine bndG_t (.bool true) _ (c_hasZero H) ?_
    have hs := aSliceOp_str (P := Tryz.prog) (H := H) (T := 9) (l := List.replicate 64 48) (lo := none) (hi := some (i64 2)) (a := 0) (b := 2) (by simp) rfl rfl (by omega) (by omega) (by simp)
    refine bnd_of (v := .bool true) (by simp) ?_
    simp only [kifB_true]
    refine bnd_of hs ?_
    exact ⟨rfl, [], by simp⟩
  · simp
    rw [S157x0q]
    simp [convV_int, w1, w3]
    refine bndC_of (c_mul _ _ (.inr rfl)) ?_
    simp
    rw [S157x1q]
    have q0 := aIndex_at (P := Tryz.prog) (T := 9) (k := .i64) (l := [48]) (i := 0) (by simp) rfl
    simp at q0
    simp [convV_int, q0]
    rw [S157x2q]
    simp [i3]
    refine bndG_t (.bool false) _ (c_hasPrefix H (List.replicate 128 32) [48]) ?_
    simp [i3]
    refine bndG_t (.bool false) _ (c_hasPrefix H (List.replicate 128 45) [48]) ?_
    simp [i3]
    refine bndG_t (.bool true) _ (c_hasZero H) ?_
    have hs := aSliceOp_str (P := Tryz.prog) (H := H) (T := 9) (l := List.replicate 64 48) (lo := none) (hi := some (i64 3)) (a := 0) (b := 3) (by simp) rfl rfl (by omega) (by omega) (by simp)
    refine bnd_of (v := .bool true) (by simp) ?_
    simp only [kifB_true]
    refine bnd_of hs ?_
    exact ⟨rfl, [], by simp⟩
  · omega

def scanF : List UInt8 → Nat → Int → Int × Bool
  | [], _, pt => (pt, true)
  | b :: r, i, pt => if isDig b = true then scanF r (i + 1) pt else if ((b.toNat : Int) == 46 && decide (pt < 0)) = true then scanF r (i + 1) i else (pt, false)
def cutT (s : List UInt8) (pt : Int) (ok : Bool) : List UInt8 × List UInt8 × Bool :=
  if pt < 0 then (s, [], ok) else (s.take pt.toNat, s.drop (pt.toNat + 1), ok && !decide (s.take pt.toNat = []) && !decide (s.drop (pt.toNat + 1) = []) && decide ((s.drop (pt.toNat + 1)).length ≤ 3))
def cutF (s : List UInt8) : List UInt8 × List UInt8 × Bool := cutT s (scanF s 0 (-1)).1 ((scanF s 0 (-1)).2 && !s.isEmpty)
def cutV (x : List UInt8 × List UInt8 × Bool) : Value := .tuple #[str x.1, str x.2.1, .bool x.2.2]
theorem cut_tail {s : List UInt8} {pt : Int} {ok : Bool} {H : AHeap} {k : Value → AHeap → Prop} (hs : s.length < 2 ^ 60) (hpt : pt < s.length) (hp1 : -1 ≤ pt) (hk : k (cutV (cutT s pt ok)) H) (s1 s2 s3 s6 s7 s8 s9 s10 s11 s12 s13 s14 s15 s16 s17 s18 s19 s20 s21 s22 s23 s24 s25 s26 s27 s28 s29 s30 s31 s32 s33 s34 s35 s36 s37 s38 s39 s40 s41 s42 s43 s44 s45 s46 s47 s48 s49 s50 s51 s52 s53 s54 s55 s56 s57 s58 s59 s60 s61 s62 s63 s64 s65 : Value) :
    S156x1 k [str s, s1, s2, s3, .bool ok, i64 pt, s6, s7, s8, s9, s10, s11, s12, s13, s14, s15, s16, s17, s18, s19, s20, s21, s22, s23, s24, s25, s26, s27, s28, s29, s30, s31, s32, s33, s34, s35, s36, s37, s38, s39, s40, s41, s42, s43, s44, s45, s46, s47, s48, s49, s50, s51, s52, s53, s54, s55, s56, s57, s58, s59, s60, s61, s62, s63, s64, s65] H := by
  rw [S156x1q]
  by_cases h : pt < 0
  · simp [h]
    simpa [cutT, h, cutV] using hk
  · obtain ⟨n, rfl⟩ : ∃ n : Nat, pt = n := ⟨pt.toNat, by omega⟩
    have h1 := aSliceOp_str (P := Tryz.prog) (H := H) (T := 9) (l := s) (lo := none) (hi := some (i64 n)) (a := 0) (b := n) (by simp) rfl rfl (by omega) (by omega) (by omega)
    have h2 := aSliceOp_str (P := Tryz.prog) (H := H) (T := 9) (l := s) (lo := some (i64 ((n + 1 : Nat) : Int))) (hi := none) (a := (n + 1 : Nat)) (b := s.length) (by simp) rfl rfl (by omega) (by omega) (by omega)
    simp only [cutT, if_neg h, cutV] at hk
    simp at h1 h2 hk
    simp +contextual [h, h1, h2, show n + 1 < 2 ^ 63 by omega]
    have e3 : decide (((s.length - (n + 1) : Nat) : Int) ≤ 3) = decide (s.length ≤ 3 + (n + 1)) := by rw [decide_eq_decide]; omega
    rw [e3]
    exact hk
theorem cut_loop {s : List UInt8} {H : AHeap} {k : Value → AHeap → Prop} (hs : s.length < 2 ^ 60) (w : List UInt8 × List UInt8 × Bool) (hk : k (cutV w) H) :
    ∀ (r : List UInt8) (i : Nat) (pt : Int) (ok : Bool) (s1 s2 s3 s6 s7 s10 s11 s12 s13 s14 s15 s16 s17 s18 s19 s20 s21 s22 s23 s24 s25 s26 s27 s28 s29 s30 s31 s32 s33 s34 s35 s36 s37 s38 s39 s40 s41 s42 s43 s44 s45 s46 s47 s48 s49 s50 s51 s52 s53 s54 s55 s56 s57 s58 s59 s60 s61 s62 s63 s64 s65 : Value), s.drop i = r → i ≤ s.length → -1 ≤ pt → pt < i → ok = (r.isEmpty && !s.isEmpty) → w = cutT s (scanF r i pt).1 ((scanF r i pt).2 && !s.isEmpty) →
      L156x0 (r.length + 1) k [str s, s1, s2, s3, .bool ok, i64 pt, s6, s7, i64 s.length, i64 i, s10, s11, s12, s13, s14, s15, s16, s17, s18, s19, s20, s21, s22, s23, s24, s25, s26, s27, s28, s29, s30, s31, s32, s33, s34, s35, s36, s37, s38, s39, s40, s41, s42, s43, s44, s45, s46, s47, s48, s49, s50, s51, s52, s53, s54, s55, s56, s57, s58, s59, s60, s61, s62, s63, s64, s65] H := by
  intro r
  induction r with
  | nil =>
    intro i pt ok s1 s2 s3 s6 s7 s10 s11 s12 s13 s14 s15 s16 s17 s18 s19 s20 s21 s22 s23 s24 s25 s26 s27 s28 s29 s30 s31 s32 s33 s34 s35 s36 s37 s38 s39 s40 s41 s42 s43 s44 s45 s46 s47 s48 s49 s50 s51 s52 s53 s54 s55 s56 s57 s58 s59 s60 s61 s62 s63 s64 s65 hd hi hp1 hp2 hok hw
    have hle : s.length ≤ i := by simpa using hd
    rw [List.length_nil, L156x0q]
    have : ¬ i < s.length := by omega
    simp [this]
    rw [B156x1q]
    simp only [List.isEmpty_nil, Bool.true_and] at hok
    rw [hok]
    refine cut_tail hs (by omega) hp1 ?_ _ _ _ _ _ _ _ _ _ _ _ _ _ _ _ _ _ _ _ _ _ _ _ _ _ _ _ _ _ _ _ _ _ _ _ _ _ _ _ _ _ _ _ _ _ _ _ _ _ _ _ _ _ _ _ _ _ _ _ _ _ _ _
    rw [hw] at hk
    simpa [scanF] using hk
  | cons b r ih =>
    intro i pt ok s1 s2 s3 s6 s7 s10 s11 s12 s13 s14 s15 s16 s17 s18 s19 s20 s21 s22 s23 s24 s25 s26 s27 s28 s29 s30 s31 s32 s33 s34 s35 s36 s37 s38 s39 s40 s41 s42 s43 s44 s45 s46 s47 s48 s49 s50 s51 s52 s53 s54 s55 s56 s57 s58 s59 s60 s61 s62 s63 s64 s65 hd hi hp1 hp2 hok hw
    have hb : s[i]? = some b := by rw [← List.head?_drop, hd]; rfl
    have hlt : i < s.length := (List.getElem?_eq_some_iff.1 hb).1
    have hix := aIndex_at (P := Tryz.prog) (T := 9) (k := .i64) (by simp) hb
    have hne : s.isEmpty = false := by cases s with | nil => simp at hlt | cons => rfl
    have hdr : s.drop (i + 1) = r := by rw [← List.drop_drop, hd]; rfl
    have hlast : (i : Int) = (s.length : Int) - 1 ↔ r.isEmpty = true := by
      have := congrArg List.length hd
      simp at this
      cases r with
      | nil => simp at this ⊢; omega
      | cons => simp at this ⊢; omega
    simp only [List.isEmpty_cons, Bool.false_and] at hok
    subst hok
    have hwr : IntKind.i64.wrap ((s.length : Int) - 1) = (s.length : Int) - 1 := wrap_i64 (by omega) (by omega)
    have step : ∀ (pt' : Int) (s1 s2 s3 s7 s10 s11 s12 s13 s14 s15 s16 s17 s18 s19 s20 s21 s22 s23 s24 s25 s26 s27 s28 s29 s30 s31 s32 s33 s34 s35 s36 s37 s38 s39 s40 s41 s42 s43 s44 s45 s46 s47 s48 s49 s50 s51 s52 s53 s54 s55 s56 s57 s58 s59 s60 s61 s62 s63 s64 s65 : Value), -1 ≤ pt' → pt' < (i + 1 : Nat) → w = cutT s (scanF r (i + 1) pt').1 ((scanF r (i + 1) pt').2 && !s.isEmpty) →
        S156x0 (r.length + 1) k [str s, s1, s2, s3, .bool false, i64 pt', i64 i, s7, i64 s.length, i64 i, s10, s11, s12, s13, s14, s15, s16, s17, s18, s19, s20, s21, s22, s23, s24, s25, s26, s27, s28, s29, s30, s31, s32, s33, s34, s35, s36, s37, s38, s39, s40, s41, s42, s43, s44, s45, s46, s47, s48, s49, s50, s51, s52, s53, s54, s55, s56, s57, s58, s59, s60, s61, s62, s63, s64, s65] H := by
      intro pt' s1 s2 s3 s7 s10 s11 s12 s13 s14 s15 s16 s17 s18 s19 s20 s21 s22 s23 s24 s25 s26 s27 s28 s29 s30 s31 s32 s33 s34 s35 s36 s37 s38 s39 s40 s41 s42 s43 s44 s45 s46 s47 s48 s49 s50 s51 s52 s53 s54 s55 s56 s57 s58 s59 s60 s61 s62 s63 s64 s65 q1 q2 q3
      rw [S156x0q]
      simp [hwr]
      refine kifB_bool (fun h => ?_) (fun h => ?_)
      · have hre := hlast.1 (by simpa using h)
        rw [S156x2q]
        simp [show i + 1 < 2 ^ 63 by omega]
        exact ih (i + 1) pt' true _ _ _ _ _ _ _ _ _ _ _ _ _ _ _ _ _ _ _ _ _ _ _ _ _ _ _ _ _ _ _ _ _ _ _ _ _ _ _ _ _ _ _ _ _ _ _ _ _ _ _ _ _ _ _ _ _ _ _ _ _ hdr (by omega) q1 q2 (by simp [hre, hne]) q3
      · have hre : r.isEmpty = false := by
          cases hr : r.isEmpty with
          | false => rfl
          | true => have := hlast.2 hr; simp [this] at h
        rw [S156x2q]
        simp [show i + 1 < 2 ^ 63 by omega]
        exact ih (i + 1) pt' false _ _ _ _ _ _ _ _ _ _ _ _ _ _ _ _ _ _ _ _ _ _ _ _ _ _ _ _ _ _ _ _ _ _ _ _ _ _ _ _ _ _ _ _ _ _ _ _ _ _ _ _ _ _ _ _ _ _ _ _ _ hdr (by omega) q1 q2 (by simp [hre]) q3
    rw [List.length_cons, L156x0q]
    by_cases hdg : isDig b = true
    · have hdg' := hdg
      simp only [isDig, Bool.and_eq_true, decide_eq_true_eq] at hdg'
      simp [hlt, hix, hdg'.1, hdg'.2]
      exact step pt _ _ _ _ _ _ _ _ _ _ _ _ _ _ _ _ _ _ _ _ _ _ _ _ _ _ _ _ _ _ _ _ _ _ _ _ _ _ _ _ _ _ _ _ _ _ _ _ _ _ _ _ _ _ _ _ _ _ _ _ hp1 (by omega) (by simpa only [scanF, if_pos hdg] using hw)
    · have hndg : ¬ (48 ≤ (b.toNat : Int) ∧ (b.toNat : Int) ≤ 57) := by simpa [isDig] using hdg
      simp only [scanF, if_neg hdg] at hw
      by_cases h48 : 48 ≤ (b.toNat : Int)
      · have h57 : ¬ (b.toNat : Int) ≤ 57 := fun q => hndg ⟨h48, q⟩
        have h46 : ¬ (b.toNat : Int) = 46 := by omega
        have h46b : ((b.toNat : Int) == 46) = false := by simpa using h46
        simp [hlt, hix, h48, h57, h46b]
        rw [B156x0q]
        refine cut_tail hs (by omega) hp1 ?_ _ _ _ _ _ _ _ _ _ _ _ _ _ _ _ _ _ _ _ _ _ _ _ _ _ _ _ _ _ _ _ _ _ _ _ _ _ _ _ _ _ _ _ _ _ _ _ _ _ _ _ _ _ _ _ _ _ _ _ _ _ _ _
        rw [hw] at hk
        simpa [h46] using hk
      · by_cases h46 : (b.toNat : Int) = 46
        · by_cases hpt : pt < 0
          · simp [hlt, hix, h46, hpt]
            exact step i _ _ _ _ _ _ _ _ _ _ _ _ _ _ _ _ _ _ _ _ _ _ _ _ _ _ _ _ _ _ _ _ _ _ _ _ _ _ _ _ _ _ _ _ _ _ _ _ _ _ _ _ _ _ _ _ _ _ _ _ (by omega) (by omega) (by simpa [h46, hpt] using hw)
          · simp [hlt, hix, h46, hpt]
            rw [B156x0q]
            refine cut_tail hs (by omega) hp1 ?_ _ _ _ _ _ _ _ _ _ _ _ _ _ _ _ _ _ _ _ _ _ _ _ _ _ _ _ _ _ _ _ _ _ _ _ _ _ _ _ _ _ _ _ _ _ _ _ _ _ _ _ _ _ _ _ _ _ _ _ _ _ _ _
            rw [hw] at hk
            simpa [h46, hpt] using hk
        · have h46b : ((b.toNat : Int) == 46) = false := by simpa using h46
          simp [hlt, hix, h48, h46b]
          rw [B156x0q]
          refine cut_tail hs (by omega) hp1 ?_ _ _ _ _ _ _ _ _ _ _ _ _ _ _ _ _ _ _ _ _ _ _ _ _ _ _ _ _ _ _ _ _ _ _ _ _ _ _ _ _ _ _ _ _ _ _ _ _ _ _ _ _ _ _ _ _ _ _ _ _ _ _ _
          rw [hw] at hk
          simpa [h46] using hk
theorem c_cut {s : List UInt8} {H : AHeap} (hs : s.length < 2 ^ 60) : ACalls Tryz.prog 156 [str s] H (cutV (cutF s)) H := by
  refine acallsT_pure MixT Tryz.func156 (by decide) rfl ?_
  rw [d156]
  simp
  refine ⟨s.length + 1, ?_⟩
  have e : false = (s.isEmpty && !s.isEmpty) := by cases s.isEmpty <;> rfl
  have := cut_loop (H := H) (k := fun u H2 => u = cutV (cutF s) ∧ ∃ X, H2 = H ++ X) hs (cutF s) ⟨rfl, [], by simp⟩ s 0 (-1) false
  exact this _ _ _ _ _ _ _ _ _ _ _ _ _ _ _ _ _ _ _ _ _ _ _ _ _ _ _ _ _ _ _ _ _ _ _ _ _ _ _ _ _ _ _ _ _ _ _ _ _ _ _ _ _ _ _ _ _ _ _ _ _ rfl (by omega) (by omega) (by omega) e rfl

def digF (x : Int) : List UInt8 → Int
  | [] => x
  | d :: r => if x > (maxFix - ((d.toNat : Int) - 48)).tdiv 10 then maxFix else digF (10 * x + ((d.toNat : Int) - 48)) r
def parF (s : List UInt8) : Int × Int :=
  let c := cutF (cutPre s [45])
  if c.2.2 = true then
    let x := digF 0 (c.1 ++ c.2.1 ++ List.replicate (3 - c.2.1.length) 48)
    (if hasPre s [45] = true then -x else x, 0)
  else (0, 10)
theorem scanF_pt : ∀ (r : List UInt8) (i : Nat) (pt : Int), 0 ≤ pt → (scanF r i pt).2 = true → (scanF r i pt).1 = pt ∧ ∀ b ∈ r, isDig b = true := by
  intro r
  induction r with
  | nil => intro i pt _ _; simp [scanF]
  | cons b r ih =>
    intro i pt hp h
    have hp' : ¬ pt < 0 := by omega
    rw [scanF] at h ⊢
    by_cases hd : isDig b = true
    · rw [if_pos hd] at h ⊢
      obtain ⟨h1, h2⟩ := ih _ _ hp h
      refine ⟨h1, fun c hc => ?_⟩
      rcases List.mem_cons.1 hc with rfl | hc
      · exact hd
      · exact h2 c hc
    · rw [if_neg hd] at h
      simp [hp'] at h
theorem scanF_none : ∀ (r : List UInt8) (i : Nat), (scanF r i (-1)).2 = true → ((scanF r i (-1)).1 = -1 ∧ ∀ b ∈ r, isDig b = true) ∨
    ∃ j : Nat, (scanF r i (-1)).1 = ((i + j : Nat) : Int) ∧ j < r.length ∧ (∀ b ∈ r.take j, isDig b = true) ∧ ∀ b ∈ r.drop (j + 1), isDig b = true := by
  intro r
  induction r with
  | nil => intro i _; left; simp [scanF]
  | cons b r ih =>
    intro i h
    rw [scanF] at h ⊢
    by_cases hd : isDig b = true
    · rw [if_pos hd] at h ⊢
      rcases ih _ h with ⟨h1, h2⟩ | ⟨j, h1, h2, h3, h4⟩
      · left
        refine ⟨h1, fun c hc => ?_⟩
        rcases List.mem_cons.1 hc with rfl | hc
        · exact hd
        · exact h2 c hc
      · right
        refine ⟨j + 1, by rw [h1]; congr 1; omega, by simp; omega, fun c hc => ?_, by simpa using h4⟩
        rw [List.take_succ_cons] at hc
        rcases List.mem_cons.1 hc with rfl | hc
        · exact hd
        · exact h3 c hc
    · rw [if_neg hd] at h ⊢
      split at h
      · rename_i hq
        rw [if_pos hq]
        obtain ⟨h1, h2⟩ := scanF_pt r (i + 1) i (by omega) h
        exact .inr ⟨0, by rw [h1]; rfl, by simp, by simp, by simpa using h2⟩
      · cases h
theorem cutF_ok {s : List UInt8} (h : (cutF s).2.2 = true) : (∀ b ∈ (cutF s).1 ++ (cutF s).2.1, isDig b = true) ∧ (cutF s).2.1.length ≤ 3 ∧ (cutF s).1.length + (cutF s).2.1.length ≤ s.length := by
  unfold cutF cutT at *
  by_cases hp : (scanF s 0 (-1)).1 < 0
  · simp only [if_pos hp] at h ⊢
    simp only [Bool.and_eq_true] at h
    rcases scanF_none s 0 h.1 with ⟨h1, h2⟩ | ⟨j, h1, _⟩
    · simp; exact h2
    · rw [h1] at hp; omega
  · simp only [if_neg hp] at h ⊢
    simp only [Bool.and_eq_true, decide_eq_true_eq] at h
    rcases scanF_none s 0 h.1.1.1.1 with ⟨h1, h2⟩ | ⟨j, h1, h2, h3, h4⟩
    · rw [h1] at hp; omega
    · rw [h1] at h ⊢
      simp only [Nat.zero_add, Int.toNat_natCast] at h ⊢
      refine ⟨fun b hb => ?_, h.2, ?_⟩
      · rcases List.mem_append.1 hb with hb | hb
        · exact h3 b hb
        · exact h4 b hb
      · simp; omega
theorem arr_bytes {H : AHeap} (l : List UInt8) : Arr (H ++ [AObj.ro (bytesL ⟨l.toArray⟩)]) 1 (.slice (some ⟨H.length, 0, some l.length⟩) l.length l.length) (l.map fun b => [byt b]) := by
  refine .mk H.length 0 _ _ _ (l.map byt) _ (by simp) (by simp [hcells_eq, bytesL, AObj.rcells]) (by simp) (by simp) fun i e hi => ?_
  simp at hi
  obtain ⟨b, hb, rfl⟩ := hi
  rw [Nat.zero_add, Nat.mul_one, ← List.map_drop, ← List.map_take]
  have : (l.drop i).take 1 = [b] := by
    have hlt := (List.getElem?_eq_some_iff.1 hb).1
    rw [List.drop_eq_getElem_cons hlt, (List.getElem?_eq_some_iff.1 hb).2]; rfl
  rw [this]; rfl
theorem digF_range : ∀ (l : List UInt8) (x : Int), (∀ b ∈ l, isDig b = true) → 0 ≤ x → x ≤ maxFix → 0 ≤ digF x l ∧ digF x l ≤ maxFix := by
  intro l
  induction l with
  | nil => intro x _ h1 h2; exact ⟨h1, h2⟩
  | cons d r ih =>
    intro x hd h1 h2
    have h := hd d (by simp)
    simp only [isDig, Bool.and_eq_true, decide_eq_true_eq] at h
    rw [digF]
    split
    · simp [maxFix]
    · rename_i hx
      have : x ≤ (maxFix - ((d.toNat : Int) - 48)).tdiv 10 := by omega
      have h3 : (maxFix - ((d.toNat : Int) - 48)).tdiv 10 * 10 ≤ maxFix - ((d.toNat : Int) - 48) := by
        rw [Int.tdiv_eq_ediv_of_nonneg (by simp [maxFix]; omega)]; omega
      exact ih _ (fun b hb => hd b (by simp [hb])) (by omega) (by omega)
theorem dig_loop {H : AHeap} {v : Value} {l : List UInt8} {less : Bool} {k : Value → AHeap → Prop} (ha : Arr H 1 v (l.map fun b => [byt b])) (hl : l.length < 2 ^ 61) (hd : ∀ b ∈ l, isDig b = true) (w : Int)
    (hk : k (.tuple #[i64 (if less = true then -w else w), i64 0]) H) :
    ∀ (r : List UInt8) (i : Nat) (x : Int) (s0 s1 s2 s3 s4 s6 s7 s8 s10 s11 s12 s13 s14 s15 s16 s17 s18 s19 s20 s21 s22 s23 s24 s25 s26 s27 s28 s29 s30 s31 s32 s36 s37 s38 s39 s40 s41 s42 s43 s44 s45 s46 s47 s48 s49 s50 s51 s52 s53 s54 s55 s56 : Value), l.drop i = r → i ≤ l.length → 0 ≤ x → x ≤ maxFix → w = digF x r →
      L130x0 (r.length + 1) k [s0, s1, s2, s3, s4, .bool less, s6, s7, s8, i64 x, s10, s11, s12, s13, s14, s15, s16, s17, s18, s19, s20, s21, s22, s23, s24, s25, s26, s27, s28, s29, s30, s31, s32, v, i64 l.length, i64 i, s36, s37, s38, s39, s40, s41, s42, s43, s44, s45, s46, s47, s48, s49, s50, s51, s52, s53, s54, s55, s56] H := by
  have tail : ∀ (s0 s1 s2 s3 s4 s6 s7 s8 s10 s11 s12 s13 s14 s15 s16 s17 s18 s19 s20 s21 s22 s23 s24 s25 s26 s27 s28 s29 s30 s31 s32 s33 s34 s35 s36 s37 s38 s39 s40 s41 s42 s43 s44 s45 s46 s47 s48 s49 s50 s51 s52 s53 s54 s55 s56 : Value), 0 ≤ w → w ≤ maxFix → S130x0 k [s0, s1, s2, s3, s4, .bool less, s6, s7, s8, i64 w, s10, s11, s12, s13, s14, s15, s16, s17, s18, s19, s20, s21, s22, s23, s24, s25, s26, s27, s28, s29, s30, s31, s32, s33, s34, s35, s36, s37, s38, s39, s40, s41, s42, s43, s44, s45, s46, s47, s48, s49, s50, s51, s52, s53, s54, s55, s56] H := by
    intro s0 s1 s2 s3 s4 s6 s7 s8 s10 s11 s12 s13 s14 s15 s16 s17 s18 s19 s20 s21 s22 s23 s24 s25 s26 s27 s28 s29 s30 s31 s32 s33 s34 s35 s36 s37 s38 s39 s40 s41 s42 s43 s44 s45 s46 s47 s48 s49 s50 s51 s52 s53 s54 s55 s56 h1 h2
    rw [S130x0q]
    simp only [maxFix] at h2
    cases less with
    | true =>
      have hw : IntKind.i64.wrap (-w) = -w := wrap_i64 (by omega) (by omega)
      simp [unV_neg, hw]
      rw [S130x1q]
      simpa using hk
    | false =>
      simp
      rw [S130x1q]
      simpa using hk
  intro r
  induction r with
  | nil =>
    intro i x s0 s1 s2 s3 s4 s6 s7 s8 s10 s11 s12 s13 s14 s15 s16 s17 s18 s19 s20 s21 s22 s23 s24 s25 s26 s27 s28 s29 s30 s31 s32 s36 s37 s38 s39 s40 s41 s42 s43 s44 s45 s46 s47 s48 s49 s50 s51 s52 s53 s54 s55 s56 hdr hi hx1 hx2 hw
    have hle : l.length ≤ i := by simpa using hdr
    rw [List.length_nil, L130x0q]
    have : ¬ i < l.length := by omega
    simp [this]
    rw [B130x1q]
    simp only [digF] at hw
    subst hw
    exact tail _ _ _ _ _ _ _ _ _ _ _ _ _ _ _ _ _ _ _ _ _ _ _ _ _ _ _ _ _ _ _ _ _ _ _ _ _ _ _ _ _ _ _ _ _ _ _ _ _ _ _ _ _ _ _ hx1 hx2
  | cons d r ih =>
    intro i x s0 s1 s2 s3 s4 s6 s7 s8 s10 s11 s12 s13 s14 s15 s16 s17 s18 s19 s20 s21 s22 s23 s24 s25 s26 s27 s28 s29 s30 s31 s32 s36 s37 s38 s39 s40 s41 s42 s43 s44 s45 s46 s47 s48 s49 s50 s51 s52 s53 s54 s55 s56 hdr hi hx1 hx2 hw
    have hb : l[i]? = some d := by rw [← List.head?_drop, hdr]; rfl
    have hlt : i < l.length := (List.getElem?_eq_some_iff.1 hb).1
    have hdd := hd d (List.mem_of_getElem? hb)
    have hd' : (∀ b ∈ r, isDig b = true) := fun b hb' => hd b (List.mem_of_mem_drop (by rw [hdr]; simp [hb']))
    simp only [isDig, Bool.and_eq_true, decide_eq_true_eq] at hdd
    obtain ⟨q, hp1, hp2⟩ := ha.load1 (P := Tryz.prog) (T := 55) (te := 5) (i := i) (x := byt d) (by simp) (by simp) (by simp) (by rw [List.getElem?_map, hb]; rfl)
    have w1 : IntKind.u8.wrap ((d.toNat : Int) - 48) = (d.toNat : Int) - 48 := wrap_u8 (by omega) (by omega)
    have w2 : IntKind.i64.wrap ((d.toNat : Int) - 48) = (d.toNat : Int) - 48 := wrap_i64 (by omega) (by omega)
    have w3 : IntKind.i64.wrap (4611686018427387903 - ((d.toNat : Int) - 48)) = 4611686018427387903 - ((d.toNat : Int) - 48) := wrap_i64 (by omega) (by omega)
    have htd : (4611686018427387903 - ((d.toNat : Int) - 48)).tdiv 10 = (4611686018427387903 - ((d.toNat : Int) - 48)) / 10 := Int.tdiv_eq_ediv_of_nonneg (by omega)
    have w4 : IntKind.i64.wrap ((4611686018427387903 - ((d.toNat : Int) - 48)).tdiv 10) = (4611686018427387903 - ((d.toNat : Int) - 48)).tdiv 10 := by rw [htd]; exact wrap_i64 (by omega) (by omega)
    rw [List.length_cons, L130x0q]
    rw [digF] at hw
    simp only [maxFix] at hx2
    simp [hlt, hp1, hp2, w1, w2, w3, aBin_quo, w4, convV_int]
    refine kifB_bool (fun h => ?_) (fun h => ?_)
    · simp only [decide_eq_true_eq] at h
      rw [if_pos (show x > (maxFix - ((d.toNat : Int) - 48)).tdiv 10 from h)] at hw
      subst hw
      simp
      rw [B130x0q]
      exact tail _ _ _ _ _ _ _ _ _ _ _ _ _ _ _ _ _ _ _ _ _ _ _ _ _ _ _ _ _ _ _ _ _ _ _ _ _ _ _ _ _ _ _ _ _ _ _ _ _ _ _ _ _ _ _ (by simp [maxFix]) (by simp [maxFix])
    · simp only [decide_eq_false_iff_not] at h
      rw [if_neg (show ¬ x > (maxFix - ((d.toNat : Int) - 48)).tdiv 10 from h)] at hw
      rw [htd] at h
      have hx10 : x ≤ (4611686018427387903 - ((d.toNat : Int) - 48)) / 10 := by omega
      have h10 : 10 * x + ((d.toNat : Int) - 48) ≤ 4611686018427387903 := by omega
      have w5 : IntKind.i64.wrap (10 * x) = 10 * x := wrap_i64 (by omega) (by omega)
      have w6 : IntKind.i64.wrap (10 * x + ((d.toNat : Int) - 48)) = 10 * x + ((d.toNat : Int) - 48) := wrap_i64 (by omega) (by omega)
      simp [w1, w2, w5, w6, convV_int, show i + 1 < 2 ^ 63 by omega]
      exact ih (i + 1) _ _ _ _ _ _ _ _ _ _ _ _ _ _ _ _ _ _ _ _ _ _ _ _ _ _ _ _ _ _ _ _ _ _ _ _ _ _ _ _ _ _ _ _ _ _ _ _ _ _ _ _ _ (by rw [← List.drop_drop, hdr]; rfl) hlt (by omega) (by simp only [maxFix]; omega) hw
theorem c_fixParse {s : List UInt8} {H : AHeap} (hs : s.length < 2 ^ 59) : ACalls Tryz.prog 130 [str s] H (.tuple #[i64 (parF s).1, i64 (parF s).2]) H := by
  refine acallsT_pure MixT Tryz.func130 (by decide) rfl ?_
  rw [d130]
  refine bndC_of (c_cutPrefix _ _ [45]) ?_
  simp
  have hcl : (cutPre s [45]).length ≤ s.length := by unfold cutPre; split <;> simp
  refine bndC_of (c_cut (by omega)) ?_
  generalize hc : cutF (cutPre s [45]) = c
  obtain ⟨wh, pa, ok⟩ := c
  simp [cutV]
  have hpar : parF s = if ok = true then (if hasPre s [45] = true then -(digF 0 (wh ++ pa ++ List.replicate (3 - pa.length) 48)) else digF 0 (wh ++ pa ++ List.replicate (3 - pa.length) 48), 0) else (0, 10) := by
    unfold parF; simp only [hc]
  generalize parF s = res at hpar ⊢
  cases ok with
  | false => simp [hpar]
  | true =>
    obtain ⟨k1, k2, k3⟩ := cutF_ok (s := cutPre s [45]) (by rw [hc])
    rw [hc] at k1 k2 k3
    dsimp only at k1 k2 k3
    simp only [if_true] at hpar
    have hw : IntKind.i64.wrap (3 - (pa.length : Int)) = ((3 - pa.length : Nat) : Int) := by rw [wrap_i64 (by omega) (by omega)]; omega
    have e1 := fun X Y => aBin_str (P := Tryz.prog) (H := H) (T := 9) (x := X) (y := Y) (a := wh) (b := pa) (by omega)
    simp [hw, e1]
    refine bndC_of (c_repeat0 _ _ (by omega)) ?_
    have e2 := fun X Y => aBin_str (P := Tryz.prog) (H := H) (T := 9) (x := X) (y := Y) (a := wh ++ pa) (b := List.replicate (3 - pa.length) 48) (by simp; omega)
    simp only [e2, bnd_some]
    generalize hD : wh ++ pa ++ List.replicate (3 - pa.length) 48 = D at hpar
    have hDl : D.length < 2 ^ 61 := by rw [← hD]; simp; omega
    have hDd : ∀ b ∈ D, isDig b = true := by
      intro b hb
      rw [← hD] at hb
      rcases List.mem_append.1 hb with hb | hb
      · exact k1 b hb
      · rw [(List.mem_replicate.1 hb).2]; decide
    have hcv : aConv Tryz.prog H 9 55 (str D) = some (.slice (some ⟨H.length, 0, some D.length⟩) D.length D.length, H ++ [.ro (bytesL ⟨D.toArray⟩)]) := by
      have hu : isU8 Tryz.prog 5 = true := by kernel_rfl
      simp [aConv, hu]
    simp [hcv]
    refine ⟨D.length + 1, dig_loop (less := hasPre s [45]) (arr_bytes D) hDl hDd (digF 0 D) ?_ D 0 0 _ _ _ _ _ _ _ _ _ _ _ _ _ _ _ _ _ _ _ _ _ _ _ _ _ _ _ _ _ _ _ _ _ _ _ _ _ _ _ _ _ _ _ _ _ _ _ _ _ _ _ _ rfl (by omega) (by omega) (by simp [maxFix]) rfl⟩
    rw [hpar]
    exact ⟨by split <;> rfl, [_], rfl⟩
end Go.Vi
namespace Go.Vi
open Go Go.Proofs

def natF (n : Int) : List UInt8 → Int
  | [] => n
  | d :: r => natF (10 * n + ((d.toNat : Int) - 48)) r
theorem atoi_loop {H : AHeap} {v : Value} {l : List UInt8} {k : Value → AHeap → Prop} (ha : Arr H 1 v (l.map fun b => [byt b])) (hl : l.length ≤ 18) (h1 : 1 ≤ l.length) (hd : ∀ b ∈ l, isDig b = true) (w : Int)
    (hk : k (.tuple #[i64 w, .nilIface]) H) :
    ∀ (r : List UInt8) (i : Nat) (n : Int) (s0 s1 s2 s3 s4 s7 s8 s9 s10 s11 s12 s13 s14 s15 s16 s17 s18 s19 s20 s21 s22 s23 s24 s25 s26 s27 s28 s29 s30 s31 s32 s33 s34 s35 s36 s37 s38 s39 s40 s41 s42 s43 s44 s45 s46 s50 s51 s52 s53 s54 s55 s56 s57 s58 s59 s60 s61 s62 s63 s64 s65 s66 s67 s68 s69 s70 s71 s72 s73 s74 s75 s76 : Value), l.drop i = r → i ≤ l.length → 0 ≤ n → n < 10 ^ i → w = natF n r →
      L153x0 (r.length + 1) k [s0, s1, s2, s3, s4, str l, i64 n, s7, s8, s9, s10, s11, s12, s13, s14, s15, s16, s17, s18, s19, s20, s21, s22, s23, s24, s25, s26, s27, s28, s29, s30, s31, s32, s33, s34, s35, s36, s37, s38, s39, s40, s41, s42, s43, s44, s45, s46, v, i64 l.length, i64 i, s50, s51, s52, s53, s54, s55, s56, s57, s58, s59, s60, s61, s62, s63, s64, s65, s66, s67, s68, s69, s70, s71, s72, s73, s74, s75, s76] H := by
  intro r
  induction r with
  | nil =>
    intro i n s0 s1 s2 s3 s4 s7 s8 s9 s10 s11 s12 s13 s14 s15 s16 s17 s18 s19 s20 s21 s22 s23 s24 s25 s26 s27 s28 s29 s30 s31 s32 s33 s34 s35 s36 s37 s38 s39 s40 s41 s42 s43 s44 s45 s46 s50 s51 s52 s53 s54 s55 s56 s57 s58 s59 s60 s61 s62 s63 s64 s65 s66 s67 s68 s69 s70 s71 s72 s73 s74 s75 s76 hdr hi hn1 hn2 hw
    have hle : l.length ≤ i := by simpa using hdr
    rw [List.length_nil, L153x0q]
    have : ¬ i < l.length := by omega
    obtain ⟨b0, hb0⟩ : ∃ b, l[0]? = some b := ⟨_, List.getElem?_eq_getElem (by omega)⟩
    have hix := aIndex_at (P := Tryz.prog) (T := 9) (k := .i64) (i := 0) (by simp) hb0
    have hdd := hd b0 (List.mem_of_getElem? hb0)
    simp only [isDig, Bool.and_eq_true, decide_eq_true_eq] at hdd
    have h45 : ((b0.toNat : Int) == 45) = false := by simp; omega
    simp only [natF] at hw
    subst hw
    simp at hix
    simp [this, hix, h45]
    rw [S153x1q]
    exact hk
  | cons d r ih =>
    intro i n s0 s1 s2 s3 s4 s7 s8 s9 s10 s11 s12 s13 s14 s15 s16 s17 s18 s19 s20 s21 s22 s23 s24 s25 s26 s27 s28 s29 s30 s31 s32 s33 s34 s35 s36 s37 s38 s39 s40 s41 s42 s43 s44 s45 s46 s50 s51 s52 s53 s54 s55 s56 s57 s58 s59 s60 s61 s62 s63 s64 s65 s66 s67 s68 s69 s70 s71 s72 s73 s74 s75 s76 hdr hi hn1 hn2 hw
    have hb : l[i]? = some d := by rw [← List.head?_drop, hdr]; rfl
    have hlt : i < l.length := (List.getElem?_eq_some_iff.1 hb).1
    have hdd := hd d (List.mem_of_getElem? hb)
    simp only [isDig, Bool.and_eq_true, decide_eq_true_eq] at hdd
    obtain ⟨q, hp1, hp2⟩ := ha.load1 (P := Tryz.prog) (T := 55) (te := 5) (i := i) (x := byt d) (by simp) (by simp) (by simp) (by rw [List.getElem?_map, hb]; rfl)
    have w1 : IntKind.u8.wrap ((d.toNat : Int) - 48) = (d.toNat : Int) - 48 := wrap_u8 (by omega) (by omega)
    have w2 : IntKind.i64.wrap ((d.toNat : Int) - 48) = (d.toNat : Int) - 48 := wrap_i64 (by omega) (by omega)
    have hp : (10 : Int) ^ (i + 1) ≤ 10 ^ 18 := by exact_mod_cast Nat.pow_le_pow_right (by omega : 0 < 10) (by omega : i + 1 ≤ 18)
    have hpe : (10 : Int) ^ (i + 1) = 10 ^ i * 10 := Int.pow_succ ..
    have w3 : IntKind.i64.wrap (n * 10) = n * 10 := wrap_i64 (by omega) (by omega)
    have w4 : IntKind.i64.wrap (n * 10 + ((d.toNat : Int) - 48)) = n * 10 + ((d.toNat : Int) - 48) := wrap_i64 (by omega) (by omega)
    have h9 : ¬ (9 < (d.toNat : Int) - 48) := by omega
    rw [List.length_cons, L153x0q]
    simp [hlt, hp1, hp2, w1, w2, w3, w4, h9, convV_int, show i + 1 < 2 ^ 63 by omega]
    exact ih (i + 1) _ _ _ _ _ _ _ _ _ _ _ _ _ _ _ _ _ _ _ _ _ _ _ _ _ _ _ _ _ _ _ _ _ _ _ _ _ _ _ _ _ _ _ _ _ _ _ _ _ _ _ _ _ _ _ _ _ _ _ _ _ _ _ _ _ _ _ _ _ _ _ _ _ (by rw [← List.drop_drop, hdr]; rfl) hlt (by omega) (by omega) (by rw [hw, natF]; congr 1; omega)
theorem c_atoi0 {H : AHeap} {l : List UInt8} (hl : l.length ≤ 18) (h1 : 1 ≤ l.length) (hd : ∀ b ∈ l, isDig b = true) : ACalls Tryz.prog 153 [str l] H (.tuple #[i64 (natF 0 l), .nilIface]) H := by
  refine acallsT_pure MixT Tryz.func153 (by decide) rfl ?_
  rw [d153]
  obtain ⟨b0, hb0⟩ : ∃ b, l[0]? = some b := ⟨_, List.getElem?_eq_getElem (by omega)⟩
  have hix := aIndex_at (P := Tryz.prog) (T := 9) (k := .i64) (i := 0) (by simp) hb0
  have hdd := hd b0 (List.mem_of_getElem? hb0)
  simp only [isDig, Bool.and_eq_true, decide_eq_true_eq] at hdd
  have h45 : ((b0.toNat : Int) == 45) = false := by simp; omega
  have h43 : ((b0.toNat : Int) == 43) = false := by simp; omega
  have q1 : (0 : Int) < l.length := by omega
  have q2 : (l.length : Int) < 19 := by omega
  have q3 : 0 < l.length := by omega
  simp at hix
  simp [q2, q3, hix, h45, h43]
  rw [S153x0q]
  have hcv : aConv Tryz.prog H 9 55 (str l) = some (.slice (some ⟨H.length, 0, some l.length⟩) l.length l.length, H ++ [.ro (bytesL ⟨l.toArray⟩)]) := by
    have hu : isU8 Tryz.prog 5 = true := by kernel_rfl
    simp [aConv, hu]
  simp [hcv]
  exact ⟨l.length + 1, atoi_loop (arr_bytes l) hl h1 hd (natF 0 l) ⟨rfl, [_], rfl⟩ l 0 0 _ _ _ _ _ _ _ _ _ _ _ _ _ _ _ _ _ _ _ _ _ _ _ _ _ _ _ _ _ _ _ _ _ _ _ _ _ _ _ _ _ _ _ _ _ _ _ _ _ _ _ _ _ _ _ _ _ _ _ _ _ _ _ _ _ _ _ _ _ _ _ _ rfl (by omega) (by omega) (by omega) rfl⟩
structure CmpAt (ts : List Tok) (a i : Nat) (w : Int) (j : Nat) (x : Int) : Prop where
  t0 : ∃ t, ts[a]? = some t ∧ t.kind = 1 ∧ aggs[i]? = some t.text
  s1 : isT ts (a + 1) 4 [40] = true
  s2 : isT ts (a + 2) 4 [123] = true
  s3 : isT ts (a + 3) 4 [125] = true
  s4 : isT ts (a + 4) 4 [91] = true
  t5 : ∃ t, ts[a + 5]? = some t ∧ t.kind = 2 ∧ t.text.length ≤ 18 ∧ 1 ≤ t.text.length ∧ (∀ b ∈ t.text, isDig b = true) ∧ natF 0 t.text = w ∧ 1 ≤ w ∧ w ≤ 1000
  s6 : isT ts (a + 6) 4 [93] = true
  s7 : isT ts (a + 7) 4 [41] = true
  t8 : ∃ t, ts[a + 8]? = some t ∧ t.kind = 4 ∧ cmps[j]? = some t.text
  n9 : isT ts (a + 9) 4 [45] = false
  t9 : ∃ t, ts[a + 9]? = some t ∧ t.kind = 2 ∧ t.text.length < 2 ^ 49 ∧ parF t.text = (x, 0)
def cmpNod (i : Nat) (w : Int) (j : Nat) (x : Int) : Nod := ⟨0, UInt8.ofNat i, [], w, UInt8.ofNat j, x, 0, 0⟩
def nodZ : List Value := [.int .u8 0, .int .u8 0, .slice none 0 0, i64 0, .int .u8 0, i64 0, i64 0, i64 0]
structure CmpSt (H K L : AHeap) (rb : Nat) (lv : Value) (ts : List Tok) (a b0 b1 : Nat) (n : List Value) : Prop where
  rd : RdA H L rb lv ts a true
  f0 : L[b0]? = some (.cells nodZ 37)
  f1 : L[b1]? = some (.cells n 37)
  fr : ∀ (b : Nat) o, b ≠ rb → K[b]? = some o → L[b]? = some o
  len : K.length ≤ L.length
  k0 : rb < K.length
  k1 : K.length ≤ b0
  k2 : K.length ≤ b1
  k3 : b0 ≠ b1
theorem CmpSt.app {H K L rb lv ts a b0 b1 n} (h : CmpSt H K L rb lv ts a b0 b1 n) (X : AHeap) : CmpSt H K (L ++ X) rb lv ts a b0 b1 n :=
  ⟨h.rd.app X, get_more h.f0, get_more h.f1, fun b o hb ho => get_more (h.fr b o hb ho), by have := h.len; simp; omega, h.k0, h.k1, h.k2, h.k3⟩
theorem CmpSt.sto {H K L rb lv ts a b0 b1 n} (h : CmpSt H K L rb lv ts a b0 b1 n) (n' : List Value) : CmpSt H K (L.set b1 (.cells n' 37)) rb lv ts a b0 b1 n' := by
  have h1 := h.k0; have h2 := h.k1; have h3 := h.k2
  have hb1 := (List.getElem?_eq_some_iff.1 h.f1).1
  have hrd := h.rd
  refine ⟨⟨hrd.toks, hrd.pre.set (by have := hrd.pre; have := hrd.hb; omega), hrd.hb, by rw [List.getElem?_set_ne (by omega)]; exact hrd.cell, hrd.len, hrd.le⟩, by rw [List.getElem?_set_ne (Ne.symm h.k3)]; exact h.f0, by rw [List.getElem?_set_self hb1], fun b o hb ho => ?_, by simpa using h.len, h.k0, h.k1, h.k2, h.k3⟩
  have hbk := (List.getElem?_eq_some_iff.1 ho).1
  rw [List.getElem?_set_ne (by omega)]
  exact h.fr b o hb ho
theorem CmpSt.fin {H K L rb lv ts a b0 b1 n} (h : CmpSt H K L rb lv ts a b0 b1 n) (n' : List Value) : RdA H (L.set b0 (.cells n' 37)) rb lv ts a true ∧ (∀ (b : Nat) o, b ≠ rb → K[b]? = some o → (L.set b0 (.cells n' 37))[b]? = some o) ∧ K.length ≤ (L.set b0 (.cells n' 37)).length := by
  have h1 := h.k0; have h2 := h.k1; have h3 := h.k2
  have hrd := h.rd
  refine ⟨⟨hrd.toks, hrd.pre.set (by have := hrd.hb; omega), hrd.hb, by rw [List.getElem?_set_ne (by omega)]; exact hrd.cell, hrd.len, hrd.le⟩, fun b o hb ho => ?_, by simpa using h.len⟩
  have hbk := (List.getElem?_eq_some_iff.1 ho).1
  rw [List.getElem?_set_ne (by omega)]
  exact h.fr b o hb ho
theorem CmpSt.hl {H K L rb lv ts a b0 b1 n} (h : CmpSt H K L rb lv ts a b0 b1 n) : hlen L b1 = some n.length := by unfold hlen; rw [h.f1]; rfl
theorem CmpSt.hc {H K L rb lv ts a b0 b1 n} (h : CmpSt H K L rb lv ts a b0 b1 n) : hcells L b1 = some n := by rw [hcells_eq, h.f1]; rfl
theorem arr_strs {H : AHeap} (l : List (List UInt8)) (T : TypeId) (n : Nat) (hn : n = l.length) : Arr (H ++ [AObj.cells (l.map str) T]) 1 (.slice (some ⟨H.length, 0, some n⟩) n n) (strCells l) := by
  subst hn
  refine .mk H.length 0 _ _ _ (l.map str) _ (by simp [strCells]) (by simp [hcells_eq, AObj.rcells]) (by simp) (by simp) fun i e hi => ?_
  simp [strCells] at hi
  obtain ⟨b, hb, rfl⟩ := hi
  rw [Nat.zero_add, Nat.mul_one, ← List.map_drop, ← List.map_take]
  have : (l.drop i).take 1 = [b] := by
    have hlt := (List.getElem?_eq_some_iff.1 hb).1
    rw [List.drop_eq_getElem_cons hlt, (List.getElem?_eq_some_iff.1 hb).2]; rfl
  rw [this]; rfl
end Go.Vi
namespace Go.Vi
open Go Go.Proofs

theorem aLoad_gl {P : Program} {H : AHeap} {T : TypeId} {g o b n : Nat} (h : gFind H g 0 = some (b, n)) : aLoad P H T (.pointer (some ⟨g, o, none⟩)) = aLoad P H T (.pointer (some ⟨b, o, some n⟩)) := by
  unfold aLoad deG; simp only [h]
theorem aIndexAddr_gl {P : Program} {H : AHeap} {T : TypeId} {g o b n : Nat} {x : Value} (h : gFind H g 0 = some (b, n)) : aIndexAddr P H T (.pointer (some ⟨g, o, none⟩)) x = aIndexAddr P H T (.pointer (some ⟨b, o, some n⟩)) x := by
  unfold aIndexAddr deG; simp only [h]
def pow10s : List Value := (List.range 20).map fun i => .int .u64 (10 ^ i)
def Gs : AHeap := [.gl 2 [unkV], .gl 3 [unkV], .gl 1 pow10s]
theorem gs_syn {H : AHeap} (h : Pre Gs H) : gFind H 2 0 = some (0, 1) ∧ hcells H 0 = some [unkV] := by
  obtain ⟨X, rfl⟩ := h; exact ⟨gFind_app (by rfl), hcells_more (by rfl)⟩
theorem gs_ran {H : AHeap} (h : Pre Gs H) : gFind H 3 0 = some (1, 1) ∧ hcells H 1 = some [unkV] := by
  obtain ⟨X, rfl⟩ := h; exact ⟨gFind_app (by rfl), hcells_more (by rfl)⟩
theorem gs_pow {H : AHeap} (h : Pre Gs H) : gFind H 1 0 = some (2, 20) ∧ hcells H 2 = some pow10s := by
  obtain ⟨X, rfl⟩ := h; exact ⟨gFind_app (by rfl), hcells_more (by rfl)⟩
theorem unk_sto : storable unkV = true := rfl
theorem unk_cel : unkV.cells = #[unkV] := rfl
theorem c_clone (H : AHeap) {s : List UInt8} (hs : s.length < 2 ^ 40) : ACalls Tryz.prog 189 [str s] H (str s) H := by
  refine acalls_pure MixT Tryz.func189 (by decide) rfl ?_
  rw [d189]
  cases s with
  | nil => simp
  | cons b r =>
    simp only [List.length_cons] at hs
    have hz : zcells Tryz.prog 5 = some #[.int .u8 0] := by kernel_rfl
    have h1 : ¬ ((r.length : Int) + 1 = 0) := by omega
    have h2 : (r.length : Int) + 1 ≤ 9223372036854775807 := by omega
    have h3 : (r.length : Int) + 1 ≤ 140737488355328 := by omega
    have hmk : aMake Tryz.prog H 55 (i64 ((r.length : Int) + 1)) (i64 ((r.length : Int) + 1)) = some (.slice (some ⟨H.length, 0, some (r.length + 1)⟩) (r.length + 1) (r.length + 1), H ++ [.cells (repCells #[.int .u8 0] (r.length + 1)).toList 5]) := by
      have e : ((r.length : Int) + 1).toNat = r.length + 1 := by omega
      simp [aMake, hz, h2, h3, e]
      omega
    have hrl : (repCells #[.int .u8 0] (r.length + 1)).toList.length = r.length + 1 := by simp [repCells]
    have h1' : ((r.length : Int) + 1 == 0) = false := by simpa using h1
    have hce : Tryz.prog.cellsOf 5 = 1 := by kernel_rfl
    have hu : u8l (bcells (b :: r)) = some (b :: r) := u8l_bcells _
    have hcp : aBuiltin Tryz.prog (H ++ [.cells (repCells #[.int .u8 0] (r.length + 1)).toList 5]) .copy #[55, 9] [.slice (some ⟨H.length, 0, some (r.length + 1)⟩) (r.length + 1) (r.length + 1), str (b :: r)] =
        some (i64 ((r.length : Int) + 1), H ++ [.cells (bcells (b :: r)) 5]) := by
      simp [aBuiltin, aCopy, aSrc, hrl, bytesL, bcells]
    have hbl : (bcells (b :: r)).length = r.length + 1 := by simp [bcells]
    have htk : (bcells (b :: r)).take (r.length + 1) = bcells (b :: r) := by rw [← hbl, List.take_length]
    have e2 : ((r.length : Int) + 1).toNat = r.length + 1 := by omega
    have hus : aBuiltin Tryz.prog (H ++ [.cells (bcells (b :: r)) 5]) .unsafeString #[157, 3] [.pointer (some ⟨H.length, 0, some (r.length + 1)⟩), i64 ((r.length : Int) + 1)] = some (str (b :: r), H ++ [.ro (bcells (b :: r))]) := by
      simp [aBuiltin, aUnsafeString, hce, hbl, h2, e2, htk, hu]
    have hia : aIndexAddr Tryz.prog (H ++ [.cells (bcells (b :: r)) 5]) 55 (.slice (some ⟨H.length, 0, some (r.length + 1)⟩) (r.length + 1) (r.length + 1)) (.int .i64 0) = some (.pointer (some ⟨H.length, 0, some (r.length + 1)⟩)) := by
      rw [aIndexAddr_eq (e := 5) (z := 1) (by simp) (by simp) (by simp [hbl]) (by omega) (by omega)]; rfl
    simp [h1', hmk, hcp, hia, hus]
theorem c_synErr {H : AHeap} (hg : Pre Gs H) {s f : List UInt8} (hs : s.length < 2 ^ 40) :
    ∃ v K', (∃ p, v = .pointer (some p)) ∧ Pre H K' ∧ ACalls Tryz.prog 175 [str f, str s] H v K' := by
  suffices h : ∃ v K', ((∃ p, v = .pointer (some p)) ∧ Pre H K') ∧ ACalls Tryz.prog 175 [str f, str s] H v K' by
    obtain ⟨v, K', ⟨h1, h2⟩, h3⟩ := h; exact ⟨v, K', h1, h2, h3⟩
  refine acalls_ex MixT Tryz.func175 (by decide) ?_
  rw [d175]
  obtain ⟨g1, g2⟩ := gs_syn hg
  refine bndD_same (c_clone H hs) ?_
  simp [aLoad_gl g1, g2, unk_sto, unk_cel]
  refine bndD_of (v := _) (H' := _) (aNew_agg rfl) (.inl rfl) ?_
  exact ⟨⟨_, rfl⟩, .app _ _⟩
theorem c_ranErr {H : AHeap} (hg : Pre Gs H) {s f : List UInt8} (hs : s.length < 2 ^ 40) :
    ∃ v K', (∃ p, v = .pointer (some p)) ∧ Pre H K' ∧ ACalls Tryz.prog 176 [str f, str s] H v K' := by
  suffices h : ∃ v K', ((∃ p, v = .pointer (some p)) ∧ Pre H K') ∧ ACalls Tryz.prog 176 [str f, str s] H v K' by
    obtain ⟨v, K', ⟨h1, h2⟩, h3⟩ := h; exact ⟨v, K', h1, h2, h3⟩
  refine acalls_ex MixT Tryz.func176 (by decide) ?_
  rw [d176]
  obtain ⟨g1, g2⟩ := gs_ran hg
  refine bndD_same (c_clone H hs) ?_
  simp [aLoad_gl g1, g2, unk_sto, unk_cel]
  refine bndD_of (v := _) (H' := _) (aNew_agg rfl) (.inl rfl) ?_
  exact ⟨⟨_, rfl⟩, .app _ _⟩
abbrev nerr (n : Int) : Value := .iface 205 (i64 n)
theorem nerr_eql (H : AHeap) (x y : Operand) : aBin2 Tryz.prog H .eql 118 x y (nerr 2) (nerr 2) = some (.bool true) ∧ aBin2 Tryz.prog H .eql 118 x y (nerr 1) (nerr 2) = some (.bool false) ∧ aBin2 Tryz.prog H .eql 118 x y (nerr 1) (nerr 1) = some (.bool true) := ⟨by kernel_rfl, by kernel_rfl, by kernel_rfl⟩
theorem nerr_neq (H : AHeap) (x y : Operand) : aBin2 Tryz.prog H .neq 118 x y (nerr 1) (nerr 1) = some (.bool false) ∧ aBin2 Tryz.prog H .neq 118 x y (nerr 2) (nerr 1) = some (.bool true) := ⟨by kernel_rfl, by kernel_rfl⟩
theorem nerr_nil (H : AHeap) (x : Operand) (c : Value) (n : Int) : aBin2 Tryz.prog H .neq 118 x (.const c) (nerr n) .nilIface = some (.bool true) := by kernel_rfl
theorem c_toError {H : AHeap} (hg : Pre Gs H) {s f : List UInt8} {n a b : Int} (hn : n = 1 ∨ n = 2) (hs : s.length < 2 ^ 40) :
    ∃ v K', (∃ p, v = .iface 208 (.pointer (some p))) ∧ Pre H K' ∧ ACalls Tryz.prog 154 [str f, str s, i64 a, i64 b, nerr n] H v K' := by
  suffices h : ∃ v K', ((∃ p, v = .iface 208 (.pointer (some p))) ∧ Pre H K') ∧ ACalls Tryz.prog 154 [str f, str s, i64 a, i64 b, nerr n] H v K' by
    obtain ⟨v, K', ⟨h1, h2⟩, h3⟩ := h; exact ⟨v, K', h1, h2, h3⟩
  refine acalls_ex MixT Tryz.func154 (by decide) ?_
  rw [d154]
  rcases hn with rfl | rfl
  · obtain ⟨v, K', ⟨p, rfl⟩, h2, h3⟩ := c_ranErr (f := f) hg hs
    simp [nerr_eql]
    exact bndC_of h3 ⟨⟨_, rfl⟩, h2⟩
  · obtain ⟨v, K', ⟨p, rfl⟩, h2, h3⟩ := c_synErr (f := f) hg hs
    simp [nerr_eql]
    exact bndC_of h3 ⟨⟨_, rfl⟩, h2⟩
def maxU : Int := 18446744073709551615
theorem c_lower46 (H : AHeap) : ACalls Tryz.prog 197 [.int .u8 46] H (.int .u8 46) H := by
  refine acalls_pure MixT Tryz.func197 (by decide) rfl ?_
  rw [d197]
  refine bnd_of (v := .int .u8 46) (by kernel_rfl) ?_
  exact ⟨rfl, [], by simp⟩
def puF (n : Int) : List UInt8 → Int × Int
  | [] => (n, 0)
  | d :: r => if isDig d = false then (0, 2) else if n ≥ 1844674407370955162 then (maxU, 1) else if n * 10 + ((d.toNat : Int) - 48) > maxU then (maxU, 1) else puF (n * 10 + ((d.toNat : Int) - 48)) r
def perr (c : Int) : Value := if c = 0 then .nilIface else nerr c
theorem perr_clos (c : Int) : clos (perr c) = true := by unfold perr; split <;> rfl
theorem pu_loop {H : AHeap} {v : Value} {l : List UInt8} {k : Value → AHeap → Prop} (ha : Arr H 1 v (l.map fun b => [byt b])) (hl : l.length < 2 ^ 62) (hd : ∀ b ∈ l, isDig b = true ∨ b = 46) (w : Int × Int)
    (hk : k (.tuple #[.int .u64 w.1, perr w.2]) H) :
    ∀ (r : List UInt8) (i : Nat) (n : Int) (s0 s2 s3 s4 s5 s6 s7 s9 s14 s15 s16 s17 s18 s19 s20 s21 s22 s23 s24 s25 s26 s27 s28 s29 s30 s31 s32 s33 s34 s35 s36 s37 s38 s39 s40 s41 s42 s43 s44 s45 s46 s47 s48 s49 s50 s51 s52 s53 s54 s55 s56 s57 s58 s59 s60 s61 s62 s63 s64 s65 s66 s67 s68 s69 s70 s71 s72 s73 s74 s75 s76 s77 s78 s79 s80 s81 s82 s83 s84 s85 s86 s87 s88 s89 s90 s91 s92 s93 s94 s95 s96 s97 s98 s102 s103 s104 s105 s106 s107 s108 s109 s110 s111 s112 s113 s114 s115 s116 s117 s118 s119 s120 s121 s122 s123 s124 s125 s126 s127 s128 s129 s130 s131 s132 s133 s134 s135 s136 s137 s138 s139 s140 s141 s142 s143 s144 s145 s146 s147 s148 s149 s150 s151 s152 s153 s154 s155 s156 s157 s158 s159 s160 s161 s162 s163 s164 s165 s166 s167 s168 s169 s170 s171 : Value), l.drop i = r → i ≤ l.length → 0 ≤ n → n ≤ maxU → w = puF n r →
      L188x0 (r.length + 1) k [s0, i64 10, s2, s3, s4, s5, s6, s7, .bool false, s9, .int .u64 1844674407370955162, .int .u64 18446744073709551615, .bool false, .int .u64 n, s14, s15, s16, s17, s18, s19, s20, s21, s22, s23, s24, s25, s26, s27, s28, s29, s30, s31, s32, s33, s34, s35, s36, s37, s38, s39, s40, s41, s42, s43, s44, s45, s46, s47, s48, s49, s50, s51, s52, s53, s54, s55, s56, s57, s58, s59, s60, s61, s62, s63, s64, s65, s66, s67, s68, s69, s70, s71, s72, s73, s74, s75, s76, s77, s78, s79, s80, s81, s82, s83, s84, s85, s86, s87, s88, s89, s90, s91, s92, s93, s94, s95, s96, s97, s98, v, i64 l.length, i64 i, s102, s103, s104, s105, s106, s107, s108, s109, s110, s111, s112, s113, s114, s115, s116, s117, s118, s119, s120, s121, s122, s123, s124, s125, s126, s127, s128, s129, s130, s131, s132, s133, s134, s135, s136, s137, s138, s139, s140, s141, s142, s143, s144, s145, s146, s147, s148, s149, s150, s151, s152, s153, s154, s155, s156, s157, s158, s159, s160, s161, s162, s163, s164, s165, s166, s167, s168, s169, s170, s171] H := by
  intro r
  induction r with
  | nil =>
    intro i n s0 s2 s3 s4 s5 s6 s7 s9 s14 s15 s16 s17 s18 s19 s20 s21 s22 s23 s24 s25 s26 s27 s28 s29 s30 s31 s32 s33 s34 s35 s36 s37 s38 s39 s40 s41 s42 s43 s44 s45 s46 s47 s48 s49 s50 s51 s52 s53 s54 s55 s56 s57 s58 s59 s60 s61 s62 s63 s64 s65 s66 s67 s68 s69 s70 s71 s72 s73 s74 s75 s76 s77 s78 s79 s80 s81 s82 s83 s84 s85 s86 s87 s88 s89 s90 s91 s92 s93 s94 s95 s96 s97 s98 s102 s103 s104 s105 s106 s107 s108 s109 s110 s111 s112 s113 s114 s115 s116 s117 s118 s119 s120 s121 s122 s123 s124 s125 s126 s127 s128 s129 s130 s131 s132 s133 s134 s135 s136 s137 s138 s139 s140 s141 s142 s143 s144 s145 s146 s147 s148 s149 s150 s151 s152 s153 s154 s155 s156 s157 s158 s159 s160 s161 s162 s163 s164 s165 s166 s167 s168 s169 s170 s171 hdr hi hn1 hn2 hw
    have hle : l.length ≤ i := by simpa using hdr
    rw [List.length_nil, L188x0q]
    have : ¬ i < l.length := by omega
    simp only [puF] at hw
    subst hw
    simp [this]
    exact hk
  | cons d r ih =>
    intro i n s0 s2 s3 s4 s5 s6 s7 s9 s14 s15 s16 s17 s18 s19 s20 s21 s22 s23 s24 s25 s26 s27 s28 s29 s30 s31 s32 s33 s34 s35 s36 s37 s38 s39 s40 s41 s42 s43 s44 s45 s46 s47 s48 s49 s50 s51 s52 s53 s54 s55 s56 s57 s58 s59 s60 s61 s62 s63 s64 s65 s66 s67 s68 s69 s70 s71 s72 s73 s74 s75 s76 s77 s78 s79 s80 s81 s82 s83 s84 s85 s86 s87 s88 s89 s90 s91 s92 s93 s94 s95 s96 s97 s98 s102 s103 s104 s105 s106 s107 s108 s109 s110 s111 s112 s113 s114 s115 s116 s117 s118 s119 s120 s121 s122 s123 s124 s125 s126 s127 s128 s129 s130 s131 s132 s133 s134 s135 s136 s137 s138 s139 s140 s141 s142 s143 s144 s145 s146 s147 s148 s149 s150 s151 s152 s153 s154 s155 s156 s157 s158 s159 s160 s161 s162 s163 s164 s165 s166 s167 s168 s169 s170 s171 hdr hi hn1 hn2 hw
    have hb : l[i]? = some d := by rw [← List.head?_drop, hdr]; rfl
    have hlt : i < l.length := (List.getElem?_eq_some_iff.1 hb).1
    obtain ⟨q, hp1, hp2⟩ := ha.load1 (P := Tryz.prog) (T := 55) (te := 5) (i := i) (x := byt d) (by simp) (by simp) (by simp) (by rw [List.getElem?_map, hb]; rfl)
    rw [List.length_cons, L188x0q]
    rcases hd d (List.mem_of_getElem? hb) with hdd | rfl
    · have hdd2 := hdd
      simp only [isDig, Bool.and_eq_true, decide_eq_true_eq] at hdd
      have w1 : IntKind.u8.wrap ((d.toNat : Int) - 48) = (d.toNat : Int) - 48 := wrap_u8 (by omega) (by omega)
      have h95 : ((d.toNat : Int) == 95) = false := by simp; omega
      have w10 : IntKind.u8.wrap 10 = 10 := by decide
      have v10 : IntKind.u64.wrap 10 = 10 := by decide
      have wu : ∀ x : Int, 0 ≤ x → x ≤ maxU → IntKind.u64.wrap x = x := by
        intro x h1 h2
        unfold maxU at h2
        unfold IntKind.wrap
        simp only [show IntKind.u64.bits = 64 from rfl, show IntKind.u64.signed = false from rfl]
        simp
        omega
      have w2 : IntKind.u64.wrap ((d.toNat : Int) - 48) = (d.toNat : Int) - 48 := wu _ (by omega) (by unfold maxU; omega)
      have h10 : ¬ ((d.toNat : Int) - 48 ≥ 10) := by omega
      simp only [puF, hdd2, Bool.true_eq_false, if_false] at hw
      simp [hlt, hp1, hp2, h95, hdd.1, hdd.2, w1]
      rw [S188x3q]
      have h10' : ¬ (10 ≤ (d.toNat : Int) - 48) := by omega
      simp [convV_int, w10, h10']
      refine kifB_bool (fun hc => ?_) (fun hc => ?_)
      · have hc' : n ≥ 1844674407370955162 := by simpa using hc
        rw [if_pos hc'] at hw
        subst hw
        exact hk
      · have hc' : ¬ n ≥ 1844674407370955162 := by simpa using hc
        rw [if_neg hc'] at hw
        have w3 : IntKind.u64.wrap (n * 10) = n * 10 := wu _ (by omega) (by unfold maxU; omega)
        by_cases hs : n * 10 + ((d.toNat : Int) - 48) > maxU
        · rw [if_pos hs] at hw
          subst hw
          have w4 : IntKind.u64.wrap (n * 10 + ((d.toNat : Int) - 48)) = n * 10 + ((d.toNat : Int) - 48) - 18446744073709551616 := by
            unfold maxU at hs
            unfold IntKind.wrap
            simp only [show IntKind.u64.bits = 64 from rfl, show IntKind.u64.signed = false from rfl]
            simp
            omega
          have h5 : n * 10 + ((d.toNat : Int) - 48) - 18446744073709551616 < n * 10 := by omega
          simp [v10, w2, w3, w4, h5]
          exact hk
        · rw [if_neg hs] at hw
          have w4 : IntKind.u64.wrap (n * 10 + ((d.toNat : Int) - 48)) = n * 10 + ((d.toNat : Int) - 48) := wu _ (by omega) (by omega)
          have h5 : ¬ n * 10 + ((d.toNat : Int) - 48) < n * 10 := by omega
          have h6 : ¬ (18446744073709551615 < n * 10 + ((d.toNat : Int) - 48)) := by unfold maxU at hs; omega
          simp [v10, w2, w3, w4, h5, h6]
          rw [S188x4q]
          simp [show i + 1 < 2 ^ 63 by omega]
          exact ih (i + 1) _ _ _ _ _ _ _ _ _ _ _ _ _ _ _ _ _ _ _ _ _ _ _ _ _ _ _ _ _ _ _ _ _ _ _ _ _ _ _ _ _ _ _ _ _ _ _ _ _ _ _ _ _ _ _ _ _ _ _ _ _ _ _ _ _ _ _ _ _ _ _ _ _ _ _ _ _ _ _ _ _ _ _ _ _ _ _ _ _ _ _ _ _ _ _ _ _ _ _ _ _ _ _ _ _ _ _ _ _ _ _ _ _ _ _ _ _ _ _ _ _ _ _ _ _ _ _ _ _ _ _ _ _ _ _ _ _ _ _ _ _ _ _ _ _ _ _ _ _ _ _ _ _ _ _ _ _ _ _ _ _ _ _ _ (by rw [← List.drop_drop, hdr]; rfl) hlt (by omega) (by omega) hw
    · simp only [puF, show isDig 46 = false by decide, if_true] at hw
      subst hw
      have e46 : ((46 : UInt8).toNat : Int) = 46 := rfl
      have hp2' : aLoad Tryz.prog H 5 q = some (.int .u8 46) := hp2
      simp [hlt, hp1, hp2']
      refine bndC_of (c_lower46 H) ?_
      simp
      exact hk
theorem c_parseUint {H : AHeap} {l : List UInt8} (hl : l.length < 2 ^ 40) (hne : l ≠ []) (hd : ∀ b ∈ l, isDig b = true ∨ b = 46) :
    ACalls Tryz.prog 188 [str l, i64 10, i64 0] H (.tuple #[.int .u64 (puF 0 l).1, perr (puF 0 l).2]) H := by
  refine acallsT_pure MixT Tryz.func188 (by decide) (by simp [flat, perr_clos]; rfl) ?_
  rw [d188]
  simp [hne]
  rw [S188x0q]
  simp
  rw [S188x1q]
  simp
  rw [S188x2q]
  have hcv : aConv Tryz.prog H 9 55 (str l) = some (.slice (some ⟨H.length, 0, some l.length⟩) l.length l.length, H ++ [.ro (bytesL ⟨l.toArray⟩)]) := by
    have hu : isU8 Tryz.prog 5 = true := by kernel_rfl
    simp [aConv, hu]
  have w1 : IntKind.u64.wrap 64 = 64 := by decide
  have w2 : ∀ (x y : Operand), aBin2 Tryz.prog H .shl 178 x y (.int .u64 1) (.int .u64 64) = some (.int .u64 0) := fun x y => by
    rw [aBin_shl _ _ _ _ _ _ _ (by omega)]; rfl
  have w3 : IntKind.u64.wrap (0 - 1) = 18446744073709551615 := by decide
  have w4 : IntKind.u64.wrap (-1) = 18446744073709551615 := by decide
  simp [convV_int, hcv, w1, w2, w4]
  exact ⟨l.length + 1, pu_loop (arr_bytes l) (by omega) hd (puF 0 l) ⟨rfl, [_], rfl⟩ l 0 0 _ _ _ _ _ _ _ _ _ _ _ _ _ _ _ _ _ _ _ _ _ _ _ _ _ _ _ _ _ _ _ _ _ _ _ _ _ _ _ _ _ _ _ _ _ _ _ _ _ _ _ _ _ _ _ _ _ _ _ _ _ _ _ _ _ _ _ _ _ _ _ _ _ _ _ _ _ _ _ _ _ _ _ _ _ _ _ _ _ _ _ _ _ _ _ _ _ _ _ _ _ _ _ _ _ _ _ _ _ _ _ _ _ _ _ _ _ _ _ _ _ _ _ _ _ _ _ _ _ _ _ _ _ _ _ _ _ _ _ _ _ _ _ _ _ _ _ _ _ _ _ _ _ _ _ _ _ _ _ _ _ _ _ rfl (by omega) (by omega) (by unfold maxU; omega) rfl⟩
def piF (l : List UInt8) : Int × Int := if (puF 0 l).2 = 2 then (0, 2) else if (puF 0 l).1 ≥ 9223372036854775808 then (9223372036854775807, 1) else ((puF 0 l).1, 0)
theorem puF_cases : ∀ (l : List UInt8) (n : Int), 0 ≤ n → n ≤ maxU → ((puF n l).2 = 0 ∧ l.all isDig = true ∧ (puF n l).1 = natF n l ∧ 0 ≤ natF n l ∧ natF n l ≤ maxU) ∨ ((puF n l).2 = 1 ∧ (puF n l).1 = maxU ∧ (l.all isDig = true → maxU < natF n l)) ∨ ((puF n l).2 = 2 ∧ (puF n l).1 = 0 ∧ l.all isDig = false) := by
  intro l
  induction l with
  | nil => intro n h1 h2; exact .inl ⟨rfl, rfl, rfl, h1, h2⟩
  | cons d r ih =>
    intro n h1 h2
    have mono : ∀ (r : List UInt8) (m : Int), r.all isDig = true → maxU < m → maxU < natF m r := by
      intro r
      induction r with
      | nil => intro m _ h; exact h
      | cons e r ih2 =>
        intro m h hm
        simp only [List.all_cons, Bool.and_eq_true, isDig, decide_eq_true_eq] at h
        simp only [natF]
        refine ih2 _ (by simpa [isDig] using h.2) ?_
        unfold maxU at hm ⊢
        omega
    by_cases hd : isDig d = true
    · have hdd := hd
      simp only [isDig, Bool.and_eq_true, decide_eq_true_eq] at hdd
      have e : n * 10 + ((d.toNat : Int) - 48) = 10 * n + ((d.toNat : Int) - 48) := by omega
      simp only [puF, hd, Bool.true_eq_false, if_false, natF, List.all_cons, Bool.true_and, e]
      by_cases hc : n ≥ 1844674407370955162
      · rw [if_pos hc]
        exact .inr (.inl ⟨rfl, rfl, fun h => mono r _ h (by unfold maxU; omega)⟩)
      · rw [if_neg hc]
        by_cases hs : 10 * n + ((d.toNat : Int) - 48) > maxU
        · rw [if_pos hs]
          exact .inr (.inl ⟨rfl, rfl, fun h => mono r _ h hs⟩)
        · rw [if_neg hs]
          exact ih _ (by omega) (by omega)
    · have hd' : isDig d = false := by simpa using hd
      simp only [puF, hd', if_true, List.all_cons, Bool.false_and]
      exact .inr (.inr ⟨by simp, by simp, by simp⟩)
theorem c_parseInt0 (H : AHeap) : ACalls Tryz.prog 174 [str [], i64 10, i64 0] H (.tuple #[i64 0, nerr 2]) H := by
  refine acallsT_pure MixT Tryz.func174 (by decide) rfl ?_
  rw [d174]
  simp
theorem c_parseInt {H : AHeap} {l : List UInt8} {d0 : UInt8} {r : List UInt8} (hl : l.length < 2 ^ 40) (hlr : l = d0 :: r) (h0 : isDig d0 = true) (hd : ∀ b ∈ l, isDig b = true ∨ b = 46) :
    ACalls Tryz.prog 174 [str l, i64 10, i64 0] H (.tuple #[i64 (piF l).1, perr (piF l).2]) H := by
  refine acallsT_pure MixT Tryz.func174 (by decide) (by simp [flat, perr_clos]; rfl) ?_
  rw [d174]
  have hne : l ≠ [] := by rw [hlr]; simp
  have hb : l[0]? = some d0 := by rw [hlr]; rfl
  have hix := aIndex_at (P := Tryz.prog) (T := 9) (k := .i64) (i := 0) (by simp) hb
  have hdd := h0
  simp only [isDig, Bool.and_eq_true, decide_eq_true_eq] at hdd
  have h45 : ((d0.toNat : Int) == 45) = false := by simp; omega
  have h43 : ((d0.toNat : Int) == 43) = false := by simp; omega
  simp at hix
  simp [hne, hix, h45, h43]
  rw [S174x0q]
  refine bndC_of (c_parseUint hl hne hd) ?_
  have hu := tu118
  have w63 : ∀ (x y : Operand), aBin2 Tryz.prog H .shl 178 x y (.int .u64 1) (.int .u64 63) = some (.int .u64 9223372036854775808) := fun x y => by
    rw [aBin_shl _ _ _ _ _ _ _ (by omega)]; rfl
  have v1 : IntKind.i64.wrap 63 = 63 := by decide
  have v2 : IntKind.u64.wrap 63 = 63 := by decide
  have v3 : IntKind.u64.wrap 9223372036854775807 = 9223372036854775807 := by decide
  have v4 : IntKind.i64.wrap 9223372036854775807 = 9223372036854775807 := by decide
  have v0 : IntKind.i64.wrap (64 - 1) = 63 := by decide
  have v5 : IntKind.u64.wrap (9223372036854775808 - 1) = 9223372036854775807 := by decide
  have hif : ifaceV Tryz.prog 205 (.int .i64 1) = some (nerr 1) := by kernel_rfl
  rcases puF_cases l 0 (by omega) (by unfold maxU; omega) with ⟨q1, q2, q3, q4, q5⟩ | ⟨q1, q2, q3⟩ | ⟨q1, q2, q3⟩
  · simp [q1, perr, aBin_nilifn hu]
    rw [S174x1q]
    simp [v1, v2, w63, convV_int]
    refine kifB_bool (fun hc => ?_) (fun hc => ?_)
    · have hc' : (puF 0 l).1 ≥ 9223372036854775808 := by simpa using hc
      simp [v3, v4, convV_int, piF, q1, hc']
    · have hc' : ¬ 9223372036854775808 ≤ (puF 0 l).1 := by simpa using hc
      have v6 : IntKind.i64.wrap (puF 0 l).1 = (puF 0 l).1 := wrap_i64 (by omega) (by omega)
      simp [convV_int, v6]
      rw [S174x2q]
      simp [piF, q1, hc']
  · simp [q1, perr, nerr_nil, nerr_neq, hif]
    rw [S174x1q]
    simp [v1, v2, v3, v4, w63, convV_int, q2, maxU, piF, q1]
  · simp [q1, perr, nerr_nil, nerr_neq, piF, hif]
def atoF (l : List UInt8) : Option Int := if l ≠ [] ∧ l.all isDig = true ∧ natF 0 l ≤ 9223372036854775807 then some (natF 0 l) else none
theorem piF_ato {l : List UInt8} (hne : l ≠ []) : (∃ n, atoF l = some n ∧ piF l = (n, 0)) ∨ (atoF l = none ∧ ((piF l).2 = 1 ∨ (piF l).2 = 2)) := by
  unfold atoF piF
  rcases puF_cases l 0 (by omega) (by unfold maxU; omega) with ⟨q1, q2, q3, q4, q5⟩ | ⟨q1, q2, q3⟩ | ⟨q1, q2, q3⟩
  · rw [q3]
    by_cases hc : natF 0 l ≤ 9223372036854775807
    · exact .inl ⟨natF 0 l, by simp [hne, q2, hc], by simp [q1]; omega⟩
    · exact .inr ⟨by simp [hne, q2]; omega, .inl (by rw [q1, if_neg (by omega), if_pos (by omega)])⟩
  · right
    refine ⟨?_, .inl (by simp [q1, q2, maxU])⟩
    by_cases hd : l.all isDig = true
    · have := q3 hd
      simp [hne, hd]
      unfold maxU at this
      omega
    · simp [hne]
      intro h
      exact absurd (by simpa using h) hd
  · right
    refine ⟨?_, .inr (by simp [q1])⟩
    simp [q3]
theorem atoi_slow {H : AHeap} {l : List UInt8} (hl : l.length < 2 ^ 40) (h19 : l = [] ∨ 19 ≤ l.length) {x : Int} {e : Value} (hc : clos e = true) (hp : ACalls Tryz.prog 174 [str l, i64 10, i64 0] H (.tuple #[i64 x, e]) H) :
    ACalls Tryz.prog 153 [str l] H (.tuple #[i64 x, e]) H := by
  refine acallsT_pure MixT Tryz.func153 (by decide) (by simp [flat, hc]; rfl) ?_
  rw [d153]
  rcases h19 with rfl | h19
  · simp
    exact bndC_of hp (by simp)
  · have h1 : ¬ ((l.length : Int) < 19) := by omega
    have h2 : (0 : Int) < l.length := by omega
    have h3 : 0 < l.length := by omega
    simp [h1, h3]
    exact bndC_of hp (by simp)
theorem atoi_loop2 {H : AHeap} {v : Value} {l : List UInt8} {k : Value → AHeap → Prop} (ha : Arr H 1 v (l.map fun b => [byt b])) (hl : l.length ≤ 18) (hd : ∀ b ∈ l, isDig b = true ∨ b = 46)
    (hk : k (.tuple #[i64 0, nerr 2]) H) :
    ∀ (r : List UInt8) (i : Nat) (n : Int) (s0 s1 s2 s3 s4 s7 s8 s9 s10 s11 s12 s13 s14 s15 s16 s17 s18 s19 s20 s21 s22 s23 s24 s25 s26 s27 s28 s29 s30 s31 s32 s33 s34 s35 s36 s37 s38 s39 s40 s41 s42 s43 s44 s45 s46 s50 s51 s52 s53 s54 s55 s56 s57 s58 s59 s60 s61 s62 s63 s64 s65 s66 s67 s68 s69 s70 s71 s72 s73 s74 s75 s76 : Value), l.drop i = r → i ≤ l.length → 0 ≤ n → n < 10 ^ i → r.all isDig = false →
      L153x0 (r.length + 1) k [s0, s1, s2, s3, s4, str l, i64 n, s7, s8, s9, s10, s11, s12, s13, s14, s15, s16, s17, s18, s19, s20, s21, s22, s23, s24, s25, s26, s27, s28, s29, s30, s31, s32, s33, s34, s35, s36, s37, s38, s39, s40, s41, s42, s43, s44, s45, s46, v, i64 l.length, i64 i, s50, s51, s52, s53, s54, s55, s56, s57, s58, s59, s60, s61, s62, s63, s64, s65, s66, s67, s68, s69, s70, s71, s72, s73, s74, s75, s76] H := by
  intro r
  induction r with
  | nil => intro i n s0 s1 s2 s3 s4 s7 s8 s9 s10 s11 s12 s13 s14 s15 s16 s17 s18 s19 s20 s21 s22 s23 s24 s25 s26 s27 s28 s29 s30 s31 s32 s33 s34 s35 s36 s37 s38 s39 s40 s41 s42 s43 s44 s45 s46 s50 s51 s52 s53 s54 s55 s56 s57 s58 s59 s60 s61 s62 s63 s64 s65 s66 s67 s68 s69 s70 s71 s72 s73 s74 s75 s76 _ _ _ _ h; simp at h
  | cons d r ih =>
    intro i n s0 s1 s2 s3 s4 s7 s8 s9 s10 s11 s12 s13 s14 s15 s16 s17 s18 s19 s20 s21 s22 s23 s24 s25 s26 s27 s28 s29 s30 s31 s32 s33 s34 s35 s36 s37 s38 s39 s40 s41 s42 s43 s44 s45 s46 s50 s51 s52 s53 s54 s55 s56 s57 s58 s59 s60 s61 s62 s63 s64 s65 s66 s67 s68 s69 s70 s71 s72 s73 s74 s75 s76 hdr hi hn1 hn2 hw
    have hb : l[i]? = some d := by rw [← List.head?_drop, hdr]; rfl
    have hlt : i < l.length := (List.getElem?_eq_some_iff.1 hb).1
    obtain ⟨q, hp1, hp2⟩ := ha.load1 (P := Tryz.prog) (T := 55) (te := 5) (i := i) (x := byt d) (by simp) (by simp) (by simp) (by rw [List.getElem?_map, hb]; rfl)
    rw [List.length_cons, L153x0q]
    rcases hd d (List.mem_of_getElem? hb) with hdd | rfl
    · have hall : r.all isDig = false := by simpa [hdd] using hw
      simp only [isDig, Bool.and_eq_true, decide_eq_true_eq] at hdd
      have w1 : IntKind.u8.wrap ((d.toNat : Int) - 48) = (d.toNat : Int) - 48 := wrap_u8 (by omega) (by omega)
      have w2 : IntKind.i64.wrap ((d.toNat : Int) - 48) = (d.toNat : Int) - 48 := wrap_i64 (by omega) (by omega)
      have hp : (10 : Int) ^ (i + 1) ≤ 10 ^ 18 := by exact_mod_cast Nat.pow_le_pow_right (by omega : 0 < 10) (by omega : i + 1 ≤ 18)
      have hpe : (10 : Int) ^ (i + 1) = 10 ^ i * 10 := Int.pow_succ ..
      have w3 : IntKind.i64.wrap (n * 10) = n * 10 := wrap_i64 (by omega) (by omega)
      have w4 : IntKind.i64.wrap (n * 10 + ((d.toNat : Int) - 48)) = n * 10 + ((d.toNat : Int) - 48) := wrap_i64 (by omega) (by omega)
      have h9 : ¬ (9 < (d.toNat : Int) - 48) := by omega
      simp [hlt, hp1, hp2, w1, w2, w3, w4, h9, convV_int, show i + 1 < 2 ^ 63 by omega]
      exact ih (i + 1) _ _ _ _ _ _ _ _ _ _ _ _ _ _ _ _ _ _ _ _ _ _ _ _ _ _ _ _ _ _ _ _ _ _ _ _ _ _ _ _ _ _ _ _ _ _ _ _ _ _ _ _ _ _ _ _ _ _ _ _ _ _ _ _ _ _ _ _ _ _ _ _ _ (by rw [← List.drop_drop, hdr]; rfl) hlt (by omega) (by omega) hall
    · have hp2' : aLoad Tryz.prog H 5 q = some (.int .u8 46) := hp2
      have w1 : IntKind.u8.wrap (46 - 48) = 254 := by decide
      simp [hlt, hp1, hp2']
      exact hk
theorem natF_lt : ∀ (l : List UInt8) (n : Int), 0 ≤ n → l.all isDig = true → natF n l < (n + 1) * 10 ^ l.length := by
  intro l
  induction l with
  | nil => intro n h _; simp [natF]; omega
  | cons d r ih =>
    intro n h hd
    simp only [List.all_cons, Bool.and_eq_true] at hd
    have hdd := hd.1
    simp only [isDig, Bool.and_eq_true, decide_eq_true_eq] at hdd
    have h1 := ih (10 * n + ((d.toNat : Int) - 48)) (by omega) hd.2
    simp only [natF, List.length_cons, Int.pow_succ]
    have h2 : (10 * n + ((d.toNat : Int) - 48) + 1) * 10 ^ r.length ≤ ((n + 1) * 10) * 10 ^ r.length := Int.mul_le_mul_of_nonneg_right (by omega) (Int.le_of_lt (Int.pow_pos (by omega)))
    have e : (n + 1) * (10 ^ r.length * 10) = ((n + 1) * 10) * 10 ^ r.length := by rw [Int.mul_assoc, Int.mul_comm (10 ^ r.length) 10]
    omega
theorem c_atoi0bad {H : AHeap} {l : List UInt8} {b0 : UInt8} (hb0 : l[0]? = some b0) (hdd0 : isDig b0 = true) (hl : l.length ≤ 18) (hd : ∀ b ∈ l, isDig b = true ∨ b = 46) (hbad : l.all isDig = false) : ACalls Tryz.prog 153 [str l] H (.tuple #[i64 0, nerr 2]) H := by
  refine acallsT_pure MixT Tryz.func153 (by decide) rfl ?_
  rw [d153]
  have hix := aIndex_at (P := Tryz.prog) (T := 9) (k := .i64) (i := 0) (by simp) hb0
  have hdd := hdd0
  simp only [isDig, Bool.and_eq_true, decide_eq_true_eq] at hdd
  have h45 : ((b0.toNat : Int) == 45) = false := by simp; omega
  have h43 : ((b0.toNat : Int) == 43) = false := by simp; omega
  have hlt := (List.getElem?_eq_some_iff.1 hb0).1
  have q2 : (l.length : Int) < 19 := by omega
  have q3 : 0 < l.length := by omega
  simp at hix
  simp [q2, q3, hix, h45, h43]
  rw [S153x0q]
  have hcv : aConv Tryz.prog H 9 55 (str l) = some (.slice (some ⟨H.length, 0, some l.length⟩) l.length l.length, H ++ [.ro (bytesL ⟨l.toArray⟩)]) := by
    have hu : isU8 Tryz.prog 5 = true := by kernel_rfl
    simp [aConv, hu]
  simp [hcv]
  exact ⟨l.length + 1, atoi_loop2 (arr_bytes l) hl hd ⟨rfl, [_], rfl⟩ l 0 0 _ _ _ _ _ _ _ _ _ _ _ _ _ _ _ _ _ _ _ _ _ _ _ _ _ _ _ _ _ _ _ _ _ _ _ _ _ _ _ _ _ _ _ _ _ _ _ _ _ _ _ _ _ _ _ _ _ _ _ _ _ _ _ _ _ _ _ _ _ _ _ _ rfl (by omega) (by omega) (by omega) hbad⟩
theorem c_atoiG {H : AHeap} (hg : Pre Gs H) {l : List UInt8} (hl : l.length < 2 ^ 40) (h0 : ∀ b r, l = b :: r → isDig b = true) (hd : ∀ b ∈ l, isDig b = true ∨ b = 46) :
    ∃ x e K', ((∃ n, atoF l = some n ∧ x = n ∧ e = .nilIface) ∨ (atoF l = none ∧ ∃ t p, e = .iface t (.pointer (some p)))) ∧ Pre H K' ∧ ACalls Tryz.prog 129 [str l] H (.tuple #[i64 x, e]) K' := by
  have hu := tu118
  have key : ∀ {x : Int} {c : Int}, ACalls Tryz.prog 153 [str l] H (.tuple #[i64 x, perr c]) H → ((∃ n, atoF l = some n ∧ x = n ∧ c = 0) ∨ (atoF l = none ∧ (c = 1 ∨ c = 2))) →
      ∃ x e K', ((∃ n, atoF l = some n ∧ x = n ∧ e = .nilIface) ∨ (atoF l = none ∧ ∃ t p, e = .iface t (.pointer (some p)))) ∧ Pre H K' ∧ ACalls Tryz.prog 129 [str l] H (.tuple #[i64 x, e]) K' := by
    intro x c hcall hcase
    rcases hcase with ⟨n, h1, rfl, rfl⟩ | ⟨h1, h2⟩
    · refine ⟨x, .nilIface, H, .inl ⟨_, h1, rfl, rfl⟩, .refl _, ?_⟩
      refine acallsT_pure MixT Tryz.func129 (by decide) rfl ?_
      rw [d129]
      refine bndC_of hcall ?_
      simp [perr, aBin_nilifn hu]
    · obtain ⟨v, K', ⟨p, rfl⟩, h4, h5⟩ := c_toError (f := [65, 116, 111, 105]) (n := c) (a := 0) (b := 0) hg h2 hl
      refine ⟨x, .iface 208 (.pointer (some p)), K', .inr ⟨h1, _, _, rfl⟩, h4, ?_⟩
      refine acalls_of MixT Tryz.func129 (by decide) ?_
      rw [d129]
      refine bndC_of hcall ?_
      have hc0 : c ≠ 0 := by omega
      simp [perr, hc0, nerr_nil]
      exact bndC_of h5 ⟨rfl, rfl⟩
  by_cases hs : l = [] ∨ 19 ≤ l.length
  · rcases hs with rfl | hs
    · exact key (c := 2) (atoi_slow hl (.inl rfl) rfl (c_parseInt0 H)) (.inr ⟨by simp [atoF], .inr rfl⟩)
    · obtain ⟨d0, r, hlr⟩ := List.exists_cons_of_length_pos (show 0 < l.length by omega)
      refine key (atoi_slow hl (.inr hs) (perr_clos _) (c_parseInt hl hlr (h0 _ _ hlr) hd)) ?_
      rcases piF_ato (l := l) (by rw [hlr]; simp) with ⟨n, h1, h2⟩ | ⟨h1, h2⟩
      · exact .inl ⟨n, h1, by rw [h2], by rw [h2]⟩
      · exact .inr ⟨h1, h2⟩
  · simp only [not_or] at hs
    have h18 : l.length ≤ 18 := by omega
    have h1 : 1 ≤ l.length := List.length_pos_iff.2 hs.1
    by_cases hall : l.all isDig = true
    · have hall' : ∀ b ∈ l, isDig b = true := by simpa using hall
      have h2 := natF_lt l 0 (by omega) hall
      have h3 : (10 : Int) ^ l.length ≤ 10 ^ 18 := by exact_mod_cast Nat.pow_le_pow_right (by omega : 0 < 10) h18
      refine key (x := natF 0 l) (c := 0) (by simpa [perr] using c_atoi0 (H := H) h18 h1 hall') (.inl ⟨natF 0 l, ?_, rfl, rfl⟩)
      unfold atoF
      rw [if_pos ⟨hs.1, hall, by omega⟩]
    · have hbad : l.all isDig = false := by simpa using hall
      obtain ⟨d0, r, hlr⟩ := List.exists_cons_of_length_pos (show 0 < l.length by omega)
      have hb0 : l[0]? = some d0 := by rw [hlr]; rfl
      have hd0 : isDig d0 = true := h0 _ _ hlr
      refine key (x := 0) (c := 2) (by simpa [perr] using c_atoi0bad hb0 hd0 h18 hd hbad) (.inr ⟨?_, .inr rfl⟩)
      simp [atoF, hbad]
end Go.Vi
namespace Go.Vi
open Go Go.RowKit Go.ChangeShapes Go.WideShapes Go.Proofs
variable {P : Program}

theorem WRel.pushGl {w0 s H w} (h : WRel w0 s H w) (hn : NoOwn H) (cs : List Value) (g : Nat) (ho : One cs) (hg : g < w.heap.size)
    (hv : ∀ (i : Nat) v, cs[i]? = some v → ∃ v', w.cell? ⟨g, i, none⟩ = some v' ∧ VRel s H v v') :
    WRel w0 (upd s H.length ⟨g, 0, 0⟩) (H ++ [.gl g cs]) w ∧ NoOwn (H ++ [.gl g cs]) := by
  have e := Ext.push s H (.gl g cs) ⟨g, 0, 0⟩
  have hno : NoOwn (H ++ [.gl g cs]) := by
    intro b o hb
    rcases getElem_append_old hb with ⟨_, h1⟩ | ⟨_, rfl⟩
    · exact hn b o h1
    · rfl
  refine ⟨⟨⟨fun b x hx => ?_, fun b b' o o' hb hb' _ ho1 _ => ?_⟩, h.b, h.o.push _ (by rintro _ ⟨rfl⟩; exact ho)⟩, hno⟩
  · rcases getElem_append_old hx with ⟨hb, hx'⟩ | ⟨rfl, rfl⟩
    · exact (h.h.obj b x hx').keep e (fun _ => upd_ne _ _ (by omega)) (fun _ _ => rfl)
    · refine ⟨by rw [upd_self], by rw [upd_self], hg, fun i v hi => ?_⟩
      obtain ⟨v', h1, h2⟩ := hv i v hi
      exact ⟨v', h1, h2.mono e⟩
  · rw [hno b o hb] at ho1; cases ho1
theorem var_cell {w : World} {n : String} {g : Nat} {cs : Array Value} (hg : P.globalNamed n = some g) (h : w.var? P n = some cs) : ∀ (i : Nat) v, cs[i]? = some v → g < w.heap.size ∧ w.cell? ⟨g, i, none⟩ = some v := by
  intro i v hi
  unfold World.var? at h
  rw [hg] at h
  simp only [Option.bind_some] at h
  split at h
  · rename_i q
    cases h
    refine ⟨(Array.getElem?_eq_some_iff.1 q).1, ?_⟩
    unfold World.cell?
    simp [q, hi]
  · cases h
theorem trod_if {D : Type} {enc : TypeId × Value → D} {w : World} {sp : Nat → Bool} {held : Bool} {base fuel : Nat} {t : TypeId} {cs : List Value} {x} {ms} (ht : P.underlying t = some (.interface ms)) (h : DataW.trod enc P w base sp held fuel t cs = some x) : ∃ v, cs = [v] ∧ v.oneCell' = true := by
  cases fuel with
  | zero => simp [DataW.trod] at h
  | succ n =>
    unfold DataW.trod at h
    rw [ht] at h
    split at h
    all_goals first
      | exact ⟨_, rfl, rfl⟩
      | (exfalso; simp_all; done)
      | simp_all
theorem laid_find {w : World} {n : String} {d : DataW Unit} : ∀ {l : List (String × DataW Unit)} {ps}, DataW.LaidVars P w l ps → (n, d) ∈ l → ∃ g t cs fuel p, P.globalNamed n = some g ∧ (P.globals[g]?).map (·.type) = some t ∧ w.var? P n = some cs ∧ DataW.trod (fun _ => ()) P w 0 (fun _ => true) false fuel t cs.toList = some (d, p) := by
  intro l
  induction l with
  | nil => intro ps _ h; simp at h
  | cons x r ih =>
    intro ps h hm
    obtain ⟨m, e⟩ := x
    obtain ⟨g, t, cs, fuel, p, q, h1, h2, h3, h4, h5, _⟩ := h
    rcases List.mem_cons.1 hm with hx | hm
    · cases hx
      exact ⟨g, t, cs, fuel, p, h1, h2, h3, h4⟩
    · exact ih h5 hm
theorem start_gs {w : World} {l : List (String × DataW Unit)} (h : laidMetH Tryz.prog l w) (h1 : ∃ d, ("strconv.ErrSyntax", d) ∈ l.filter fun x => x.2.handleName?.isNone) (h2 : ∃ d, ("strconv.ErrRange", d) ∈ l.filter fun x => x.2.handleName?.isNone)
    (h3 : ("internal/strconv.uint64pow10", DataW.agg ((List.range 20).map fun i => .lit (.int .u64 (10 ^ i)))) ∈ l.filter fun x => x.2.handleName?.isNone) : ∃ s, Got Tryz.prog w (fun _ => ⟨0, 0, 0⟩) [] s Gs := by
  obtain ⟨ps, hl, _, _⟩ : laidMet Tryz.prog (l.filter fun x => x.2.handleName?.isNone) w := (laidMetH_iff.1 h).1
  obtain ⟨d1, m1⟩ := h1
  obtain ⟨d2, m2⟩ := h2
  obtain ⟨g1, t1, c1, f1, p1, a1, b1, v1, r1⟩ := laid_find hl m1
  obtain ⟨g2, t2, c2, f2, p2, a2, b2, v2, r2⟩ := laid_find hl m2
  obtain ⟨g3, t3, c3, f3, p3, a3, b3, v3, r3⟩ := laid_find hl h3
  obtain rfl : 2 = g1 := Option.some.inj ((show Tryz.prog.globalNamed "strconv.ErrSyntax" = some 2 by kernel_rfl).symm.trans a1)
  obtain rfl : 3 = g2 := Option.some.inj ((show Tryz.prog.globalNamed "strconv.ErrRange" = some 3 by kernel_rfl).symm.trans a2)
  obtain rfl : 1 = g3 := Option.some.inj ((show Tryz.prog.globalNamed "internal/strconv.uint64pow10" = some 1 by kernel_rfl).symm.trans a3)
  obtain rfl : 118 = t1 := Option.some.inj ((show (Tryz.prog.globals[2]?).map (·.type) = some 118 by kernel_rfl).symm.trans b1)
  obtain rfl : 118 = t2 := Option.some.inj ((show (Tryz.prog.globals[3]?).map (·.type) = some 118 by kernel_rfl).symm.trans b2)
  obtain rfl : 200 = t3 := Option.some.inj ((show (Tryz.prog.globals[1]?).map (·.type) = some 200 by kernel_rfl).symm.trans b3)
  obtain ⟨x1, e1, o1⟩ := trod_if Tryz.underlying118 r1
  obtain ⟨x2, e2, o2⟩ := trod_if Tryz.underlying118 r2
  obtain ⟨xs, m, _, q1, q2, q3, q4⟩ := DataW.trod_array Tryz.underlying200 r3
  have hc1 := var_cell a1 v1 0 x1 (by rw [← Array.getElem?_toList, e1]; rfl)
  have hc2 := var_cell a2 v2 0 x2 (by rw [← Array.getElem?_toList, e2]; rfl)
  have k3 : ∀ i : Nat, i < 20 → c3[i]? = some (.int .u64 (10 ^ i)) := by
    intro i hi
    have h4 := q4 i hi
    rw [show Tryz.prog.cellsOf 178 = 1 by kernel_rfl, Nat.mul_one] at h4
    rw [List.getElem?_eq_getElem (by omega)] at h4
    obtain ⟨n, z1, z2, _⟩ := DataW.trod_int Tryz.underlying178 h4
    have hq : (List.range 20).map (fun i => (DataW.lit (.int .u64 (10 ^ i)) : DataW Unit)) = xs.map (·.1) := by
      have := congrArg Prod.fst q1
      simpa using this
    have hqi := congrArg (fun l => l[i]?) hq
    simp only [List.getElem?_map, List.getElem?_eq_getElem (show i < xs.length by omega), List.getElem?_range hi, Option.map_some, z2] at hqi
    injection hqi with e
    injection e with e
    injection e with _ e
    rw [← e] at z1
    have : (List.take 1 (List.drop i c3.toList))[0]? = some (Value.int .u64 (10 ^ i)) := by rw [z1]; rfl
    rw [List.getElem?_take_of_lt (by omega), List.getElem?_drop, Nat.add_zero] at this
    rw [← Array.getElem?_toList]
    exact this
  have W0 : WRel w (fun _ => ⟨0, 0, 0⟩) [] w := WRel.refl w _
  obtain ⟨W1, N1⟩ := W0.pushGl NoOwn.nil [unkV] 2 (fun v hv => by simp at hv; subst hv; rfl) hc1.1 (fun i v hi => by
    cases i with
    | zero => simp at hi; subst hi; exact ⟨x1, hc1.2, .unk _ o1⟩
    | succ i => simp at hi)
  obtain ⟨W2, N2⟩ := W1.pushGl N1 [unkV] 3 (fun v hv => by simp at hv; subst hv; rfl) hc2.1 (fun i v hi => by
    cases i with
    | zero => simp at hi; subst hi; exact ⟨x2, hc2.2, .unk _ o2⟩
    | succ i => simp at hi)
  have hc3 := fun (i : Nat) (hi : i < 20) => var_cell a3 v3 i _ (k3 i hi)
  obtain ⟨W3, N3⟩ := W2.pushGl N2 pow10s 1 (fun v hv => by
    simp only [pow10s, List.mem_map] at hv
    obtain ⟨i, _, rfl⟩ := hv
    rfl) (hc3 0 (by omega)).1 (fun i v hi => by
    simp only [pow10s, List.getElem?_map, Option.map_eq_some_iff] at hi
    obtain ⟨j, hj, rfl⟩ := hi
    have hij := List.getElem?_eq_some_iff.1 hj
    obtain ⟨hlt, rfl⟩ := hij
    simp only [List.length_range] at hlt
    simp only [List.getElem_range]
    exact ⟨_, (hc3 i hlt).2, .lit _ rfl⟩)
  exact ⟨_, W3, N3, ((Ext.push _ _ _ _).trans (Ext.push _ _ _ _)).trans (Ext.push _ _ _ _), ⟨Gs, rfl⟩⟩
theorem open_str {D : Type} {enc : TypeId × Value → D} {P : Program} {w : World} {base : Nat} {sp : Nat → Bool} {held : Bool} {r : Go.Reach} {b0 : Nat} {t : TypeId} {v : Value} {d : DataW D} {ps : List MemPlace} (ht : P.underlying t = some .string) (hval : Value.okWide P w r b0 t v) (hd : DataW.Trod enc P w base sp held t v d ps) :
    ∃ l : List UInt8, v = str l ∧ d = .lit (.string l) ∧ ps = [] ∧ l.length ≤ maxLen := by
  obtain ⟨⟨⟨l⟩⟩, rfl, h2, h3, h4⟩ := Go.ChangeMaps.open_string ht hval hd
  exact ⟨l, rfl, h2, h3, h4⟩
end Go.Vi
namespace Go.Vi
open Go Go.Proofs

def len2 (n : Nat) : Nat := if n = 0 then 0 else Nat.log2 n + 1
theorem len2_half {n : Nat} (h : 2 ≤ n) : len2 n = len2 (n / 2) + 1 := by
  unfold len2
  rw [if_neg (by omega), if_neg (by omega), Nat.log2_def n, if_pos h]
theorem len2_shift : ∀ (k n : Nat), 2 ^ k ≤ n → len2 n = len2 (n / 2 ^ k) + k := by
  intro k
  induction k with
  | zero => intro n _; simp
  | succ k ih =>
    intro n h
    have h2 : 2 ≤ n := by
      have := Nat.one_le_two_pow (n := k)
      rw [Nat.pow_succ] at h; omega
    rw [len2_half h2, ih (n / 2) (by rw [Nat.pow_succ] at h; omega), Nat.div_div_eq_div_mul, Nat.pow_succ, Nat.mul_comm 2]
    omega
theorem len2_bd {n : Nat} (h : 0 < n) : 2 ^ (len2 n - 1) ≤ n ∧ n < 2 ^ len2 n ∧ 1 ≤ len2 n := by
  unfold len2
  rw [if_neg (by omega)]
  exact ⟨by simpa using Nat.log2_self_le (by omega), Nat.lt_log2_self, by omega⟩
abbrev u64 (n : Int) : Value := .int .u64 n
theorem wrapU {x : Int} (h1 : 0 ≤ x) (h2 : x ≤ 18446744073709551615) : IntKind.u64.wrap x = x := by
  unfold IntKind.wrap
  simp only [show IntKind.u64.bits = 64 from rfl, show IntKind.u64.signed = false from rfl]
  simp
  omega
theorem shrN {P : Program} {H : AHeap} {T : TypeId} {x y : Operand} {n k : Nat} (hk : k ≤ 64) : aBin2 P H .shr T x y (u64 n) (u64 k) = some (u64 ((n / 2 ^ k : Nat) : Int)) := by
  rw [aBin_shr _ _ _ _ _ _ _ (by omega)]
  congr 2
  rw [show min ((k : Int)).toNat IntKind.u64.bits = k by simp only [Int.toNat_natCast]; exact Nat.min_eq_left hk]
  rw [Int.fdiv_eq_ediv_of_nonneg _ (Int.le_of_lt (Int.pow_pos (by omega)))]
  norm_cast
theorem len8_at : ∀ b : Nat, b < 256 → l8S.data[b]? = some (UInt8.ofNat (len2 b)) ∧ len2 b ≤ 8 := by decide +kernel
set_option maxRecDepth 20000 in
theorem c_len64 (H : AHeap) {n : Nat} (hn : n < 2 ^ 64) : ACalls Tryz.prog 167 [u64 n] H (i64 (len2 n)) H := by
  refine acalls_pure MixT Tryz.func167 (by decide) rfl ?_
  rw [d167]
  have tail : ∀ (x c : Nat) (s1 s3 s4 s5 s6 s7 s8 s9 s10 s11 s12 s13 s14 s15 s16 s17 s18 s19 s20 s21 s22 s23 s24 : Value), x < 256 → c ≤ 56 → len2 n = len2 x + c → S167x2 (fun u H2 => u = i64 (len2 n) ∧ ∃ X, H2 = H ++ X) [u64 x, s1, i64 c, s3, s4, s5, s6, s7, s8, s9, s10, s11, s12, s13, s14, s15, s16, s17, s18, s19, s20, s21, s22, s23, s24] H := by
    intro x c s1 s3 s4 s5 s6 s7 s8 s9 s10 s11 s12 s13 s14 s15 s16 s17 s18 s19 s20 s21 s22 s23 s24 hx hc hl
    rw [S167x2q]
    obtain ⟨q1, q2⟩ := len8_at x hx
    have w1 : IntKind.u8.wrap (x : Int) = x := wrap_u8 (by omega) (by omega)
    have hq : l8S.data.toList[x]? = some (UInt8.ofNat (len2 x)) := by simpa using q1
    have hi := aIndex_at (P := Tryz.prog) (T := 9) (k := .u8) (l := l8S.data.toList) (i := x) (by simp) hq
    have e : str l8S.data.toList = .string l8S := rfl
    rw [e] at hi
    have w2 : IntKind.i64.wrap ((len2 x : Int) % 256) = (len2 x : Int) := by
      rw [wrap_i64 (by omega) (by omega)]; omega
    have w3 : IntKind.i64.wrap ((c : Int) + len2 x) = len2 n := by rw [hl, wrap_i64 (by omega) (by omega)]; omega
    simp [convV_int, w1, hi, w2, w3]
  have mid : ∀ (x c : Nat) (s1 s3 s4 s5 s6 s7 s8 s9 s10 s11 s12 s13 s14 s15 s16 s17 s18 s19 s20 s21 s22 s23 s24 : Value), x < 2 ^ 16 → c ≤ 48 → len2 n = len2 x + c → S167x1 (fun u H2 => u = i64 (len2 n) ∧ ∃ X, H2 = H ++ X) [u64 x, s1, i64 c, s3, s4, s5, s6, s7, s8, s9, s10, s11, s12, s13, s14, s15, s16, s17, s18, s19, s20, s21, s22, s23, s24] H := by
    intro x c s1 s3 s4 s5 s6 s7 s8 s9 s10 s11 s12 s13 s14 s15 s16 s17 s18 s19 s20 s21 s22 s23 s24 hx hc hl
    rw [S167x1q]
    simp
    refine kifB_bool (fun hq => ?_) (fun hq => ?_)
    · have hq : 2 ^ 8 ≤ x := by simp at hq; omega
      have w1 : IntKind.i64.wrap ((c : Int) + 8) = ((c + 8 : Nat) : Int) := by rw [wrap_i64 (by omega) (by omega)]; omega
      have hs' : ∀ X Y, aBin2 Tryz.prog H .shr 178 X Y (.int .u64 x) (.int .u64 8) = some (u64 ((x / 2 ^ 8 : Nat) : Int)) := fun X Y => shrN (k := 8) (by omega)
      simp only [hs', bnd_some, aBin_add, w1]
      exact tail (x / 2 ^ 8) (c + 8) _ _ _ _ _ _ _ _ _ _ _ _ _ _ _ _ _ _ _ _ _ _ _ (by omega) (by omega) (by rw [hl, len2_shift 8 x hq]; omega)
    · dsimp only
      exact tail x c _ _ _ _ _ _ _ _ _ _ _ _ _ _ _ _ _ _ _ _ _ _ _ (by simp at hq; omega) (by omega) hl
  have top : ∀ (x c : Nat) (s1 s3 s4 s5 s6 s7 s8 s9 s10 s11 s12 s13 s14 s15 s16 s17 s18 s19 s20 s21 s22 s23 s24 : Value), x < 2 ^ 32 → c ≤ 32 → len2 n = len2 x + c → S167x0 (fun u H2 => u = i64 (len2 n) ∧ ∃ X, H2 = H ++ X) [u64 x, s1, i64 c, s3, s4, s5, s6, s7, s8, s9, s10, s11, s12, s13, s14, s15, s16, s17, s18, s19, s20, s21, s22, s23, s24] H := by
    intro x c s1 s3 s4 s5 s6 s7 s8 s9 s10 s11 s12 s13 s14 s15 s16 s17 s18 s19 s20 s21 s22 s23 s24 hx hc hl
    rw [S167x0q]
    simp
    refine kifB_bool (fun hq => ?_) (fun hq => ?_)
    · have hq : 2 ^ 16 ≤ x := by simp at hq; omega
      have w1 : IntKind.i64.wrap ((c : Int) + 16) = ((c + 16 : Nat) : Int) := by rw [wrap_i64 (by omega) (by omega)]; omega
      have hs' : ∀ X Y, aBin2 Tryz.prog H .shr 178 X Y (.int .u64 x) (.int .u64 16) = some (u64 ((x / 2 ^ 16 : Nat) : Int)) := fun X Y => shrN (k := 16) (by omega)
      simp only [hs', bnd_some, aBin_add, w1]
      exact mid (x / 2 ^ 16) (c + 16) _ _ _ _ _ _ _ _ _ _ _ _ _ _ _ _ _ _ _ _ _ _ _ (by omega) (by omega) (by rw [hl, len2_shift 16 x hq]; omega)
    · dsimp only
      exact mid x c _ _ _ _ _ _ _ _ _ _ _ _ _ _ _ _ _ _ _ _ _ _ _ (by simp at hq; omega) (by omega) hl
  simp
  refine kifB_bool (fun hq => ?_) (fun hq => ?_)
  · have hq : 2 ^ 32 ≤ n := by simp at hq; omega
    have hs' : ∀ X Y, aBin2 Tryz.prog H .shr 178 X Y (.int .u64 n) (.int .u64 32) = some (u64 ((n / 2 ^ 32 : Nat) : Int)) := fun X Y => shrN (k := 32) (by omega)
    simp only [hs', bnd_some]
    have t := fun a0 a1 a2 a3 a4 a5 a6 a7 a8 a9 b0 b1 b2 b3 b4 b5 b6 b7 b8 b9 c0 c1 c2 => top (n / 2 ^ 32) 32 a0 a1 a2 a3 a4 a5 a6 a7 a8 a9 b0 b1 b2 b3 b4 b5 b6 b7 b8 b9 c0 c1 c2 (by omega) (by omega) (len2_shift 32 n hq)
    rw [show ((32 : Nat) : Int) = 32 from rfl] at t
    exact t _ _ _ _ _ _ _ _ _ _ _ _ _ _ _ _ _ _ _ _ _ _ _
  · dsimp only
    exact top n 0 _ _ _ _ _ _ _ _ _ _ _ _ _ _ _ _ _ _ _ _ _ _ _ (by simp at hq; omega) (by omega) (by omega)
theorem aIndexAddr_arr {P : Program} {H : AHeap} {T e : TypeId} {b o m z n : Nat} {k : IntKind} {i : Int} (hu : P.underlying T = some (.array n e)) (hs : tsize P e = some z) (hl : hlen H b = some m) (h0 : 0 ≤ i) (h1 : i < n) :
    aIndexAddr P H T (.pointer (some ⟨b, o, some m⟩)) (.int k i) = some (.pointer (some ⟨b, o + i.toNat * z, some m⟩)) := by
  show aIndexAddr0 P H T (.pointer (some ⟨b, o, some m⟩)) (.int k i) = _
  simp [aIndexAddr0, hl, h0, h1, hu, hs]
def nlog (L : Nat) : Nat := L * 78913 / 2 ^ 18
theorem nlog_ok : ∀ L : Nat, L < 65 → 1 ≤ L → nlog L < 20 ∧ 2 ^ L ≤ 10 ^ (nlog L + 1) ∧ 10 ^ (nlog L - 1) ≤ 2 ^ (L - 1) ∧ (nlog L = 0 → L ≤ 3) := by decide +kernel
def ndig (n : Nat) : Nat := nlog (len2 n) + if 10 ^ nlog (len2 n) ≤ n then 1 else 0
theorem ndig_ok {n : Nat} (h0 : 0 < n) (hn : n < 2 ^ 64) : 1 ≤ ndig n ∧ ndig n ≤ 20 ∧ n < 10 ^ ndig n ∧ 10 ^ (ndig n - 1) ≤ n := by
  obtain ⟨h1, h2, h3⟩ := len2_bd h0
  have hL : len2 n < 65 := by
    rcases Nat.lt_or_ge (len2 n) 65 with h | h
    · exact h
    · have := Nat.pow_le_pow_right (by omega : 0 < 2) (show 64 ≤ len2 n - 1 by omega)
      omega
  obtain ⟨q1, q2, q3, q4⟩ := nlog_ok _ hL h3
  unfold ndig
  by_cases hc : 10 ^ nlog (len2 n) ≤ n
  · rw [if_pos hc]
    exact ⟨by omega, by omega, by omega, by simpa using hc⟩
  · rw [if_neg hc, Nat.add_zero]
    refine ⟨?_, by omega, by omega, by omega⟩
    rcases Nat.eq_zero_or_pos (nlog (len2 n)) with hz | hz
    · rw [hz] at hc; simp at hc; omega
    · exact hz
set_option maxRecDepth 20000 in
theorem c_numDigits {H : AHeap} (hg : Pre Gs H) {n : Nat} (h0 : 0 < n) (hn : n < 2 ^ 64) : ACalls Tryz.prog 143 [u64 n] H (i64 (ndig n)) H := by
  refine acalls_pure MixT Tryz.func143 (by decide) rfl ?_
  rw [d143]
  refine bndC_of (c_len64 H hn) ?_
  obtain ⟨h1, h2, h3⟩ := len2_bd h0
  have hL : len2 n < 65 := by
    rcases Nat.lt_or_ge (len2 n) 65 with h | h
    · exact h
    · have := Nat.pow_le_pow_right (by omega : 0 < 2) (show 64 ≤ len2 n - 1 by omega)
      omega
  obtain ⟨q1, q2, q3, q4⟩ := nlog_ok _ hL h3
  have hlog : ACalls Tryz.prog 166 [i64 (len2 n)] H (i64 (nlog (len2 n))) H := by
    refine acalls_pure MixT Tryz.func166 (by decide) rfl ?_
    rw [d166]
    have w1 : IntKind.i64.wrap ((len2 n : Int) * 78913) = ((len2 n * 78913 : Nat) : Int) := by rw [wrap_i64 (by omega) (by omega)]; omega
    have hs : ∀ X Y, aBin2 Tryz.prog H .shr 3 X Y (.int .i64 ((len2 n * 78913 : Nat) : Int)) (.int .u64 18) = some (i64 (nlog (len2 n))) := fun X Y => by
      rw [aBin_shr _ _ _ _ _ _ _ (by omega)]
      congr 2
      rw [show min ((18 : Int)).toNat IntKind.i64.bits = 18 from rfl, Int.fdiv_eq_ediv_of_nonneg _ (Int.le_of_lt (Int.pow_pos (by omega)))]
      unfold nlog
      norm_cast
    simp only [Int.natCast_mul, show ((78913 : Nat) : Int) = 78913 from rfl] at w1 hs
    simp [w1, hs]
  refine bndC_of hlog ?_
  obtain ⟨g1, g2⟩ := gs_pow hg
  have hll : hlen H 2 = some 20 := by rw [hcells_len g2]; rfl
  have hia := aIndexAddr_arr (P := Tryz.prog) (T := 200) (e := 178) (z := 1) (n := 20) (k := .i64) (o := 0) (i := (nlog (len2 n) : Int)) (by simp) (by simp) hll (by omega) (by omega)
  have hp : pow10s[nlog (len2 n)]? = some (u64 ((10 ^ nlog (len2 n) : Nat) : Int)) := by
    have : ∀ i : Nat, i < 20 → pow10s[i]? = some (u64 ((10 ^ i : Nat) : Int)) := by
      intro i hi
      simp [pow10s, hi]
    exact this _ q1
  have hb : ∀ c : Bool, ACalls Tryz.prog 168 [.bool c] H (i64 (if c = true then 1 else 0)) H := by
    intro c
    refine acalls_pure MixT Tryz.func168 (by decide) rfl ?_
    rw [d168]
    cases c <;> simp
  simp only [aIndexAddr_gl g1, hia, bnd_some]
  have h20 : pow10s.length = 20 := rfl
  simp only [Int.natCast_pow, show ((10 : Nat) : Int) = 10 from rfl] at hp
  simp [g2, hp, h20]
  refine bndC_of (hb _) ?_
  have hd : decide ((10 : Int) ^ nlog (len2 n) ≤ n) = decide (10 ^ nlog (len2 n) ≤ n) := by
    rw [decide_eq_decide]; norm_cast
  have hnd : IntKind.i64.wrap ((nlog (len2 n) : Int) + (if 10 ^ nlog (len2 n) ≤ n then 1 else 0)) = (ndig n : Int) := by
    rw [wrap_i64 (by split <;> omega) (by split <;> omega)]
    unfold ndig
    split <;> simp
  simp [hd, hnd]
end Go.Vi
namespace Go.Vi
open Go Go.Proofs
-- (*tocsin/expr.reader).condition$1
def S67x0 (k : Value → AHeap → Prop) (sl : List Value) (H : AHeap) : Prop := kseqG Tryz.prog (drawKeep Tryz.prog) (cr (cr (cr (cb Tryz.f67)))) (kfinG Tryz.prog Tryz.f67 k) .normal sl H []
def L67x0 (n : Nat) (k : Value → AHeap → Prop) (sl : List Value) (H : AHeap) : Prop := kitG Tryz.prog (drawKeep Tryz.prog) (cl (cl (cr (cr (cr (cr (cb Tryz.f67))))))) n (kblkG 1 (kfinG Tryz.prog Tryz.f67 k)) .normal sl H []
theorem d67 (a0 a1 a2 a3 : Value) (H : AHeap) (k : Value → AHeap → Prop) : kbodyG Tryz.prog (drawKeep Tryz.prog) Tryz.f67 [a0, a1, a2, a3] H k = (@bnd (aBin2 Tryz.prog H .eql 3 (.tmp 8) (.const (.int .i64 2)) a0 (.int .i64 2))
  ⟨fun v9x1 => @kifB v9x1 ⟨@bnd (aLoad Tryz.prog H 79 a1) ⟨fun v16x2 => @bndC Tryz.prog 68 [v16x2, (.int .u8 1), (.string { data := #[110, 111, 116] })] H ⟨fun v17x3 H4 => @kifB v17x3 ⟨@bnd (aLoad Tryz.prog H4 107 a2) ⟨fun v18x5
  => @bndV Tryz.prog v18x5 [(.int .i64 2)] H4 ⟨fun _ H7 => @bnd (aLoad Tryz.prog H7 27 a3) ⟨fun v20x8 => @bnd (aLoad Tryz.prog H7 27 a3) ⟨fun v21x9 => @bnd (aLen Tryz.prog H7 27 v21x9) ⟨fun v22x10 => @bnd (aBin2 Tryz.prog H7 .sub
  3 (.tmp 22) (.const (.int .i64 1)) v22x10 (.int .i64 1)) ⟨fun v23x11 => @bnd (buildV Tryz.prog 37 [(0, (.int .u8 3)), (6, v23x11)]) ⟨fun v24x12 => @bndL Tryz.prog H7 27 1 [(0, v24x12)] ⟨fun v25x13 H14 => @bndE (aBuiltin
  Tryz.prog H14 Builtin.append #[27, 27] [v20x8, v25x13]) ⟨fun v26x15 H16 => @bndS (aStore Tryz.prog H16 27 a3 v26x15) ⟨fun _ H18 => k (.tuple #[]) H18⟩⟩⟩⟩⟩⟩⟩⟩⟩⟩⟩ ⟨@bnd (aLoad Tryz.prog H4 79 a1) ⟨fun v28x19 => @bndC Tryz.prog 68
  [v28x19, (.int .u8 4), (.string { data := #[40] })] H4 ⟨fun v29x20 H21 => @kifB v29x20 ⟨@bnd (aLoad Tryz.prog H21 107 a2) ⟨fun v30x22 => @bndV Tryz.prog v30x22 [(.int .i64 0)] H21 ⟨fun _ H24 => @bnd (aLoad Tryz.prog H24 79 a1)
  ⟨fun v32x25 => @bndC Tryz.prog 69 [v32x25, (.string { data := #[41] })] H24 ⟨fun _ H27 => k (.tuple #[]) H27⟩⟩⟩⟩⟩ ⟨@bnd (aLoad Tryz.prog H21 27 a3) ⟨fun v10x28 => @bnd (aLoad Tryz.prog H21 79 a1) ⟨fun v11x29 => @bndK false true
  H21 ⟨fun v12x30 H31 => ACalls Tryz.prog 70 [v11x29] H21 v12x30 H31⟩ ⟨fun _ H31 => aLoad Tryz.prog H31 27 a3 = some v10x28 ∧ True⟩ ⟨fun v12x30 H31 => @bndK false true H31 ⟨fun v13x32 H33 => sliceLit Tryz.prog H31 27 1 [(0,
  v12x30)] v13x32 H33⟩ ⟨fun _ H33 => aLoad Tryz.prog H33 27 a3 = some v10x28 ∧ True⟩ ⟨fun v13x32 H33 => @bndK true true H33 ⟨fun v14x34 H35 => aBuiltin Tryz.prog H33 Builtin.append #[27, 27] [v10x28, v13x32] = some (v14x34, H35)⟩
  ⟨fun _ _ => True⟩ ⟨fun v14x34 H35 => @bndK true true H35 ⟨fun x36 H37 => x36 = undef ∧ aStore Tryz.prog H35 27 a3 v14x34 = some H37⟩ ⟨fun _ _ => True⟩ ⟨fun _ H37 => k (.tuple #[]) H37⟩⟩⟩⟩⟩⟩⟩⟩⟩⟩⟩⟩⟩ ⟨@bnd (aBin2 Tryz.prog H .eql
  3 (.tmp 34) (.const (.int .i64 1)) a0 (.int .i64 1)) ⟨fun v35x38 => @kifB v35x38 ⟨S67x0  k [a0, a1, a2, a3, undef, (.string { data := #[97, 110, 100] }), (.int .u8 1), undef, a0, v9x1, undef, undef, undef, undef, undef, undef,
  undef, undef, undef, undef, undef, undef, undef, undef, undef, undef, undef, undef, undef, undef, undef, undef, undef, undef, a0, v35x38, undef, undef, undef, undef, undef, undef, undef, undef, undef, undef, undef, undef,
  undef, undef, undef, undef, undef, undef, undef, undef, undef, undef, undef] H⟩ ⟨S67x0  k [a0, a1, a2, a3, undef, (.string { data := #[111, 114] }), (.int .u8 2), undef, a0, v9x1, undef, undef, undef, undef, undef, undef,
  undef, undef, undef, undef, undef, undef, undef, undef, undef, undef, undef, undef, undef, undef, undef, undef, undef, undef, a0, v35x38, undef, undef, undef, undef, undef, undef, undef, undef, undef, undef, undef, undef,
  undef, undef, undef, undef, undef, undef, undef, undef, undef, undef, undef] H⟩⟩⟩⟩) := by kernel_rfl
theorem S67x0q (s0 s1 s2 s3 s4 s5 s6 s7 s8 s9 s10 s11 s12 s13 s14 s15 s16 s17 s18 s19 s20 s21 s22 s23 s24 s25 s26 s27 s28 s29 s30 s31 s32 s33 s34 s35 s36 s37 s38 s39 s40 s41 s42 s43 s44 s45 s46 s47 s48 s49 s50 s51 s52 s53 s54 s55
  s56 s57 s58 : Value) (H : AHeap) (k : Value → AHeap → Prop) : S67x0 k [s0, s1, s2, s3, s4, s5, s6, s7, s8, s9, s10, s11, s12, s13, s14, s15, s16, s17, s18, s19, s20, s21, s22, s23, s24, s25, s26, s27, s28, s29, s30, s31, s32,
  s33, s34, s35, s36, s37, s38, s39, s40, s41, s42, s43, s44, s45, s46, s47, s48, s49, s50, s51, s52, s53, s54, s55, s56, s57, s58] H = (@bnd (aLoad Tryz.prog H 107 s2) ⟨fun v36x39 => @bnd (aBin2 Tryz.prog H .add 3 (.tmp 37)
  (.const (.int .i64 1)) s0 (.int .i64 1)) ⟨fun v38x40 => @bndV Tryz.prog v36x39 [v38x40] H ⟨fun v39x41 H42 => ∃ n, L67x0 n  k [s0, s1, s2, s3, s4, s5, s6, s7, s8, s9, s10, s11, s12, s13, s14, s15, s16, s17, s18, s19, s20, s21,
  s22, s23, s24, s25, s26, s27, s28, s29, s30, s31, s32, s33, s34, s35, v36x39, s0, v38x40, v39x41, s40, s41, s42, s43, s44, s45, s46, s47, s48, s49, s50, s51, s52, s53, s54, s55, s56, s57, s58] H42⟩⟩⟩) := by kernel_rfl
theorem L67x0q (n0 : Nat) (s0 s1 s2 s3 s4 s5 s6 s7 s8 s9 s10 s11 s12 s13 s14 s15 s16 s17 s18 s19 s20 s21 s22 s23 s24 s25 s26 s27 s28 s29 s30 s31 s32 s33 s34 s35 s36 s37 s38 s39 s40 s41 s42 s43 s44 s45 s46 s47 s48 s49 s50 s51 s52
  s53 s54 s55 s56 s57 s58 : Value) (H : AHeap) (k : Value → AHeap → Prop) : L67x0 (n0 + 1) k [s0, s1, s2, s3, s4, s5, s6, s7, s8, s9, s10, s11, s12, s13, s14, s15, s16, s17, s18, s19, s20, s21, s22, s23, s24, s25, s26, s27, s28,
  s29, s30, s31, s32, s33, s34, s35, s36, s37, s38, s39, s40, s41, s42, s43, s44, s45, s46, s47, s48, s49, s50, s51, s52, s53, s54, s55, s56, s57, s58] H = (@bnd (aLoad Tryz.prog H 79 s1) ⟨fun v40x43 => @bndC Tryz.prog 68
  [v40x43, (.int .u8 1), s5] H ⟨fun v42x44 H45 => @kifB v42x44 ⟨@bnd (aLoad Tryz.prog H45 27 s3) ⟨fun v43x46 => @bnd (aLen Tryz.prog H45 27 v43x46) ⟨fun v44x47 => @bnd (aBin2 Tryz.prog H45 .sub 3 (.tmp 44) (.const (.int .i64 1))
  v44x47 (.int .i64 1)) ⟨fun v45x48 => @bnd (aLoad Tryz.prog H45 107 s2) ⟨fun v46x49 => @bnd (aBin2 Tryz.prog H45 .add 3 (.tmp 47) (.const (.int .i64 1)) s0 (.int .i64 1)) ⟨fun v48x50 => @bndV Tryz.prog v46x49 [v48x50] H45 ⟨fun
  v49x51 H52 => @bnd (aLoad Tryz.prog H52 27 s3) ⟨fun v50x53 => @bnd (aLoad Tryz.prog H52 27 s3) ⟨fun v53x54 => @bnd (aLen Tryz.prog H52 27 v53x54) ⟨fun v54x55 => @bnd (aBin2 Tryz.prog H52 .sub 3 (.tmp 54) (.const (.int .i64 1))
  v54x55 (.int .i64 1)) ⟨fun v55x56 => @bnd (buildV Tryz.prog 37 [(0, s6), (6, v45x48), (7, v55x56)]) ⟨fun v56x57 => @bndL Tryz.prog H52 27 1 [(0, v56x57)] ⟨fun v57x58 H59 => @bndE (aBuiltin Tryz.prog H59 Builtin.append #[27, 27]
  [v50x53, v57x58]) ⟨fun v58x60 H61 => @bndS (aStore Tryz.prog H61 27 s3 v58x60) ⟨fun _ H63 => L67x0 n0  k [s0, s1, s2, s3, s4, s5, s6, v45x48, s8, s9, s10, s11, s12, s13, s14, s15, s16, s17, s18, s19, s20, s21, s22, s23, s24,
  s25, s26, s27, s28, s29, s30, s31, s32, s33, s34, s35, s36, s37, s38, s39, v40x43, s5, v42x44, v43x46, v44x47, v45x48, v46x49, s0, v48x50, v49x51, v50x53, s6, v45x48, v53x54, v54x55, v55x56, v56x57, v57x58, v58x60]
  H63⟩⟩⟩⟩⟩⟩⟩⟩⟩⟩⟩⟩⟩⟩⟩ ⟨k (.tuple #[]) H45⟩⟩⟩) := by kernel_rfl
-- internal/strconv.formatBase10
def L144x0 (n : Nat) (k : Value → AHeap → Prop) (sl : List Value) (H : AHeap) : Prop := kitG Tryz.prog (drawKeep Tryz.prog) (cl (cl (cl (cr (cb Tryz.f144))))) n (kblkG 0 (kseqG Tryz.prog (drawKeep Tryz.prog) (cr (cr (cb
  Tryz.f144))) (kfinG Tryz.prog Tryz.f144 k))) .normal sl H []
def S144x0 (k : Value → AHeap → Prop) (sl : List Value) (H : AHeap) : Prop := kseqG Tryz.prog (drawKeep Tryz.prog) (cr (cr (cr (cr (cb Tryz.f144))))) (kfinG Tryz.prog Tryz.f144 k) .normal sl H []
def S144x1 (k : Value → AHeap → Prop) (sl : List Value) (H : AHeap) : Prop := kseqG Tryz.prog (drawKeep Tryz.prog) (cr (cr (cr (cr (cr (cb Tryz.f144)))))) (kfinG Tryz.prog Tryz.f144 k) .normal sl H []
theorem d144 (a0 a1 : Value) (H : AHeap) (k : Value → AHeap → Prop) : kbodyG Tryz.prog (drawKeep Tryz.prog) Tryz.f144 [a0, a1] H k = (@bnd (aLen Tryz.prog H 55 a0) ⟨fun v18x1 => ∃ n, L144x0 n  k [a0, a1, undef, undef, v18x1,
  undef, undef, undef, undef, undef, undef, undef, undef, undef, undef, undef, undef, a0, v18x1, undef, undef, undef, undef, undef, undef, undef, undef, undef, undef, undef, undef, undef, undef, undef, undef, undef, undef, undef,
  undef, undef, undef, undef, undef, undef, undef, undef, undef, undef, undef, undef, undef, undef, undef, undef, undef, undef, undef, undef, undef, undef, undef, undef, undef, undef, undef, undef, undef, undef, undef, undef,
  undef, undef, undef, undef, undef, undef, undef, undef, undef, undef, undef, undef, undef, undef, undef, undef, undef, undef, undef, undef, undef, undef, undef, undef, undef, undef, undef, undef, undef, undef, undef, undef,
  undef, undef, undef, undef, undef, undef, undef, undef, undef, undef, undef, undef, undef, undef, undef, undef, undef, undef, undef, undef, undef, undef, undef, undef, undef, undef, undef, undef, undef, undef, undef, undef,
  undef, undef, undef, undef, undef, undef, undef, undef, undef, undef, undef, undef, undef, undef, undef, undef, undef, undef, undef, undef, undef, undef, undef, undef, undef, undef, undef, undef, undef, undef, undef, undef,
  undef] H⟩) := by kernel_rfl
theorem L144x0q (n0 : Nat) (s0 s1 s2 s3 s4 s5 s6 s7 s8 s9 s10 s11 s12 s13 s14 s15 s16 s17 s18 s19 s20 s21 s22 s23 s24 s25 s26 s27 s28 s29 s30 s31 s32 s33 s34 s35 s36 s37 s38 s39 s40 s41 s42 s43 s44 s45 s46 s47 s48 s49 s50 s51 s52
  s53 s54 s55 s56 s57 s58 s59 s60 s61 s62 s63 s64 s65 s66 s67 s68 s69 s70 s71 s72 s73 s74 s75 s76 s77 s78 s79 s80 s81 s82 s83 s84 s85 s86 s87 s88 s89 s90 s91 s92 s93 s94 s95 s96 s97 s98 s99 s100 s101 s102 s103 s104 s105 s106 s107
  s108 s109 s110 s111 s112 s113 s114 s115 s116 s117 s118 s119 s120 s121 s122 s123 s124 s125 s126 s127 s128 s129 s130 s131 s132 s133 s134 s135 s136 s137 s138 s139 s140 s141 s142 s143 s144 s145 s146 s147 s148 s149 s150 s151 s152
  s153 s154 s155 s156 s157 s158 s159 s160 s161 s162 s163 s164 s165 s166 : Value) (H : AHeap) (k : Value → AHeap → Prop) : L144x0 (n0 + 1) k [s0, s1, s2, s3, s4, s5, s6, s7, s8, s9, s10, s11, s12, s13, s14, s15, s16, s17, s18,
  s19, s20, s21, s22, s23, s24, s25, s26, s27, s28, s29, s30, s31, s32, s33, s34, s35, s36, s37, s38, s39, s40, s41, s42, s43, s44, s45, s46, s47, s48, s49, s50, s51, s52, s53, s54, s55, s56, s57, s58, s59, s60, s61, s62, s63,
  s64, s65, s66, s67, s68, s69, s70, s71, s72, s73, s74, s75, s76, s77, s78, s79, s80, s81, s82, s83, s84, s85, s86, s87, s88, s89, s90, s91, s92, s93, s94, s95, s96, s97, s98, s99, s100, s101, s102, s103, s104, s105, s106, s107,
  s108, s109, s110, s111, s112, s113, s114, s115, s116, s117, s118, s119, s120, s121, s122, s123, s124, s125, s126, s127, s128, s129, s130, s131, s132, s133, s134, s135, s136, s137, s138, s139, s140, s141, s142, s143, s144, s145,
  s146, s147, s148, s149, s150, s151, s152, s153, s154, s155, s156, s157, s158, s159, s160, s161, s162, s163, s164, s165, s166] H = (@bnd (aBin2 Tryz.prog H .geq 3 (.tmp 19) (.const (.int .i64 8)) s4 (.int .i64 8)) ⟨fun v20x2 =>
  @kifB v20x2 ⟨@bnd (aBin2 Tryz.prog H .rem 178 (.tmp 21) (.const (.int .u64 100000000)) s1 (.int .u64 100000000)) ⟨fun v22x3 => @bnd (convV Tryz.prog H 178 50 v22x3) ⟨fun v23x4 => @bnd (aBin2 Tryz.prog H .quo 178 (.tmp 24)
  (.const (.int .u64 100000000)) s1 (.int .u64 100000000)) ⟨fun v25x5 => @bnd (aBin2 Tryz.prog H .quo 50 (.tmp 26) (.const (.int .u32 10000)) v23x4 (.int .u32 10000)) ⟨fun v27x6 => @bnd (aBin2 Tryz.prog H .rem 50 (.tmp 28)
  (.const (.int .u32 10000)) v23x4 (.int .u32 10000)) ⟨fun v29x7 => @bnd (aBin2 Tryz.prog H .quo 50 (.tmp 30) (.const (.int .u32 100)) v29x7 (.int .u32 100)) ⟨fun v31x8 => @bnd (aBin2 Tryz.prog H .mul 50 (.tmp 31) (.const (.int
  .u32 2)) v31x8 (.int .u32 2)) ⟨fun v32x9 => @bnd (aBin2 Tryz.prog H .rem 50 (.tmp 33) (.const (.int .u32 100)) v29x7 (.int .u32 100)) ⟨fun v34x10 => @bnd (aBin2 Tryz.prog H .mul 50 (.tmp 34) (.const (.int .u32 2)) v34x10 (.int
  .u32 2)) ⟨fun v35x11 => @bnd (aBin2 Tryz.prog H .quo 50 (.tmp 36) (.const (.int .u32 100)) v27x6 (.int .u32 100)) ⟨fun v37x12 => @bnd (aBin2 Tryz.prog H .mul 50 (.tmp 37) (.const (.int .u32 2)) v37x12 (.int .u32 2)) ⟨fun v38x13
  => @bnd (aBin2 Tryz.prog H .rem 50 (.tmp 39) (.const (.int .u32 100)) v27x6 (.int .u32 100)) ⟨fun v40x14 => @bnd (aBin2 Tryz.prog H .mul 50 (.tmp 40) (.const (.int .u32 2)) v40x14 (.int .u32 2)) ⟨fun v41x15 => @bnd ((some s0))
  ⟨fun v42x16 => @bnd ((some s4)) ⟨fun v43x17 => @bnd (aBin2 Tryz.prog H .sub 3 (.tmp 43) (.const (.int .i64 1)) v43x17 (.int .i64 1)) ⟨fun v44x18 => @bnd ((some s0)) ⟨fun v45x19 => @bnd ((some s4)) ⟨fun v46x20 => @bnd (aBin2
  Tryz.prog H .sub 3 (.tmp 46) (.const (.int .i64 2)) v46x20 (.int .i64 2)) ⟨fun v47x21 => @bnd ((some v35x11)) ⟨fun v48x22 => @bnd (aBin2 Tryz.prog H .add 50 (.tmp 48) (.const (.int .u32 1)) v48x22 (.int .u32 1)) ⟨fun v49x23 =>
  @bnd (aIndex Tryz.prog 9 (.string smS) v49x23) ⟨fun v50x24 => @bnd ((some v35x11)) ⟨fun v51x25 => @bnd (aIndex Tryz.prog 9 (.string smS) v51x25) ⟨fun v52x26 => @bnd (aIndexAddr Tryz.prog H 55 v42x16 v44x18) ⟨fun v53x27 => @bndK
  false true H ⟨fun x28 H29 => x28 = undef ∧ aStore Tryz.prog H 5 v53x27 v50x24 = some H29⟩ ⟨fun _ H29 => aIndex Tryz.prog 9 (.string smS) v51x25 = some v52x26 ∧ aBin2 Tryz.prog H29 .sub 3 (.tmp 46) (.const (.int .i64 2)) v46x20
  (.int .i64 2) = some v47x21 ∧ True⟩ ⟨fun _ H29 => @bnd (aIndexAddr Tryz.prog H29 55 v45x19 v47x21) ⟨fun v54x30 => @bndK true true H29 ⟨fun x31 H32 => x31 = undef ∧ aStore Tryz.prog H29 5 v54x30 v52x26 = some H32⟩ ⟨fun _ _ =>
  True⟩ ⟨fun _ H32 => @bnd ((some s0)) ⟨fun v55x33 => @bnd ((some s4)) ⟨fun v56x34 => @bnd (aBin2 Tryz.prog H32 .sub 3 (.tmp 56) (.const (.int .i64 3)) v56x34 (.int .i64 3)) ⟨fun v57x35 => @bnd ((some s0)) ⟨fun v58x36 => @bnd
  ((some s4)) ⟨fun v59x37 => @bnd (aBin2 Tryz.prog H32 .sub 3 (.tmp 59) (.const (.int .i64 4)) v59x37 (.int .i64 4)) ⟨fun v60x38 => @bnd ((some v32x9)) ⟨fun v61x39 => @bnd (aBin2 Tryz.prog H32 .add 50 (.tmp 61) (.const (.int .u32
  1)) v61x39 (.int .u32 1)) ⟨fun v62x40 => @bnd (aIndex Tryz.prog 9 (.string smS) v62x40) ⟨fun v63x41 => @bnd ((some v32x9)) ⟨fun v64x42 => @bnd (aIndex Tryz.prog 9 (.string smS) v64x42) ⟨fun v65x43 => @bnd (aIndexAddr Tryz.prog
  H32 55 v55x33 v57x35) ⟨fun v66x44 => @bndK false true H32 ⟨fun x45 H46 => x45 = undef ∧ aStore Tryz.prog H32 5 v66x44 v63x41 = some H46⟩ ⟨fun _ H46 => aIndex Tryz.prog 9 (.string smS) v64x42 = some v65x43 ∧ aBin2 Tryz.prog H46
  .sub 3 (.tmp 59) (.const (.int .i64 4)) v59x37 (.int .i64 4) = some v60x38 ∧ True⟩ ⟨fun _ H46 => @bnd (aIndexAddr Tryz.prog H46 55 v58x36 v60x38) ⟨fun v67x47 => @bndK true true H46 ⟨fun x48 H49 => x48 = undef ∧ aStore Tryz.prog
  H46 5 v67x47 v65x43 = some H49⟩ ⟨fun _ _ => True⟩ ⟨fun _ H49 => @bnd ((some s0)) ⟨fun v68x50 => @bnd ((some s4)) ⟨fun v69x51 => @bnd (aBin2 Tryz.prog H49 .sub 3 (.tmp 69) (.const (.int .i64 5)) v69x51 (.int .i64 5)) ⟨fun v70x52
  => @bnd ((some s0)) ⟨fun v71x53 => @bnd ((some s4)) ⟨fun v72x54 => @bnd (aBin2 Tryz.prog H49 .sub 3 (.tmp 72) (.const (.int .i64 6)) v72x54 (.int .i64 6)) ⟨fun v73x55 => @bnd ((some v41x15)) ⟨fun v74x56 => @bnd (aBin2 Tryz.prog
  H49 .add 50 (.tmp 74) (.const (.int .u32 1)) v74x56 (.int .u32 1)) ⟨fun v75x57 => @bnd (aIndex Tryz.prog 9 (.string smS) v75x57) ⟨fun v76x58 => @bnd ((some v41x15)) ⟨fun v77x59 => @bnd (aIndex Tryz.prog 9 (.string smS) v77x59)
  ⟨fun v78x60 => @bnd (aIndexAddr Tryz.prog H49 55 v68x50 v70x52) ⟨fun v79x61 => @bndK false true H49 ⟨fun x62 H63 => x62 = undef ∧ aStore Tryz.prog H49 5 v79x61 v76x58 = some H63⟩ ⟨fun _ H63 => aIndex Tryz.prog 9 (.string smS)
  v77x59 = some v78x60 ∧ aBin2 Tryz.prog H63 .sub 3 (.tmp 72) (.const (.int .i64 6)) v72x54 (.int .i64 6) = some v73x55 ∧ True⟩ ⟨fun _ H63 => @bnd (aIndexAddr Tryz.prog H63 55 v71x53 v73x55) ⟨fun v80x64 => @bndK true true H63
  ⟨fun x65 H66 => x65 = undef ∧ aStore Tryz.prog H63 5 v80x64 v78x60 = some H66⟩ ⟨fun _ _ => True⟩ ⟨fun _ H66 => @bnd ((some s0)) ⟨fun v81x67 => @bnd ((some s4)) ⟨fun v82x68 => @bnd (aBin2 Tryz.prog H66 .sub 3 (.tmp 82) (.const
  (.int .i64 7)) v82x68 (.int .i64 7)) ⟨fun v83x69 => @bnd ((some s0)) ⟨fun v84x70 => @bnd ((some s4)) ⟨fun v85x71 => @bnd (aBin2 Tryz.prog H66 .sub 3 (.tmp 85) (.const (.int .i64 8)) v85x71 (.int .i64 8)) ⟨fun v86x72 => @bnd
  ((some v38x13)) ⟨fun v87x73 => @bnd (aBin2 Tryz.prog H66 .add 50 (.tmp 87) (.const (.int .u32 1)) v87x73 (.int .u32 1)) ⟨fun v88x74 => @bnd (aIndex Tryz.prog 9 (.string smS) v88x74) ⟨fun v89x75 => @bnd ((some v38x13)) ⟨fun
  v90x76 => @bnd (aIndex Tryz.prog 9 (.string smS) v90x76) ⟨fun v91x77 => @bnd (aIndexAddr Tryz.prog H66 55 v81x67 v83x69) ⟨fun v92x78 => @bndK false true H66 ⟨fun x79 H80 => x79 = undef ∧ aStore Tryz.prog H66 5 v92x78 v89x75 =
  some H80⟩ ⟨fun _ H80 => aIndex Tryz.prog 9 (.string smS) v90x76 = some v91x77 ∧ aBin2 Tryz.prog H80 .sub 3 (.tmp 85) (.const (.int .i64 8)) v85x71 (.int .i64 8) = some v86x72 ∧ True⟩ ⟨fun _ H80 => @bnd (aIndexAddr Tryz.prog H80
  55 v84x70 v86x72) ⟨fun v93x81 => @bndK true true H80 ⟨fun x82 H83 => x82 = undef ∧ aStore Tryz.prog H80 5 v93x81 v91x77 = some H83⟩ ⟨fun _ _ => True⟩ ⟨fun _ H83 => @bnd (aBin2 Tryz.prog H83 .sub 3 (.tmp 94) (.const (.int .i64
  8)) s4 (.int .i64 8)) ⟨fun v95x84 => L144x0 n0  k [s0, v25x5, s2, s3, v95x84, v23x4, v27x6, v29x7, v32x9, v35x11, v38x13, v41x15, s12, s13, s14, s15, s16, s17, s18, s4, v20x2, s1, v22x3, v23x4, s1, v25x5, v23x4, v27x6, v23x4,
  v29x7, v29x7, v31x8, v32x9, v29x7, v34x10, v35x11, v27x6, v37x12, v38x13, v27x6, v40x14, v41x15, v42x16, v43x17, v44x18, v45x19, v46x20, v47x21, v48x22, v49x23, v50x24, v51x25, v52x26, v53x27, v54x30, v55x33, v56x34, v57x35,
  v58x36, v59x37, v60x38, v61x39, v62x40, v63x41, v64x42, v65x43, v66x44, v67x47, v68x50, v69x51, v70x52, v71x53, v72x54, v73x55, v74x56, v75x57, v76x58, v77x59, v78x60, v79x61, v80x64, v81x67, v82x68, v83x69, v84x70, v85x71,
  v86x72, v87x73, v88x74, v89x75, v90x76, v91x77, v92x78, v93x81, s4, v95x84, s96, s97, s98, s99, s100, s101, s102, s103, s104, s105, s106, s107, s108, s109, s110, s111, s112, s113, s114, s115, s116, s117, s118, s119, s120, s121,
  s122, s123, s124, s125, s126, s127, s128, s129, s130, s131, s132, s133, s134, s135, s136, s137, s138, s139, s140, s141, s142, s143, s144, s145, s146, s147, s148, s149, s150, s151, s152, s153, s154, s155, s156, s157, s158, s159,
  s160, s161, s162, s163, s164, s165, s166] H83⟩⟩⟩⟩⟩⟩⟩⟩⟩⟩⟩⟩⟩⟩⟩⟩⟩⟩⟩⟩⟩⟩⟩⟩⟩⟩⟩⟩⟩⟩⟩⟩⟩⟩⟩⟩⟩⟩⟩⟩⟩⟩⟩⟩⟩⟩⟩⟩⟩⟩⟩⟩⟩⟩⟩⟩⟩⟩⟩⟩⟩⟩⟩⟩⟩⟩⟩⟩⟩⟩⟩⟩⟩⟩⟩ ⟨@bnd (convV Tryz.prog H 178 50 s1) ⟨fun v97x85 => @bnd (aBin2 Tryz.prog H .geq 3 (.tmp 98) (.const (.int
  .i64 4)) s4 (.int .i64 4)) ⟨fun v99x86 => @kifB v99x86 ⟨@bnd (aBin2 Tryz.prog H .rem 50 (.tmp 100) (.const (.int .u32 10000)) v97x85 (.int .u32 10000)) ⟨fun v101x87 => @bnd (aBin2 Tryz.prog H .quo 50 (.tmp 102) (.const (.int
  .u32 10000)) v97x85 (.int .u32 10000)) ⟨fun v103x88 => @bnd (aBin2 Tryz.prog H .quo 50 (.tmp 104) (.const (.int .u32 100)) v101x87 (.int .u32 100)) ⟨fun v105x89 => @bnd (aBin2 Tryz.prog H .mul 50 (.tmp 105) (.const (.int .u32
  2)) v105x89 (.int .u32 2)) ⟨fun v106x90 => @bnd (aBin2 Tryz.prog H .rem 50 (.tmp 107) (.const (.int .u32 100)) v101x87 (.int .u32 100)) ⟨fun v108x91 => @bnd (aBin2 Tryz.prog H .mul 50 (.tmp 108) (.const (.int .u32 2)) v108x91
  (.int .u32 2)) ⟨fun v109x92 => @bnd ((some s0)) ⟨fun v110x93 => @bnd ((some s4)) ⟨fun v111x94 => @bnd (aBin2 Tryz.prog H .sub 3 (.tmp 111) (.const (.int .i64 1)) v111x94 (.int .i64 1)) ⟨fun v112x95 => @bnd ((some s0)) ⟨fun
  v113x96 => @bnd ((some s4)) ⟨fun v114x97 => @bnd (aBin2 Tryz.prog H .sub 3 (.tmp 114) (.const (.int .i64 2)) v114x97 (.int .i64 2)) ⟨fun v115x98 => @bnd ((some v109x92)) ⟨fun v116x99 => @bnd (aBin2 Tryz.prog H .add 50 (.tmp
  116) (.const (.int .u32 1)) v116x99 (.int .u32 1)) ⟨fun v117x100 => @bnd (aIndex Tryz.prog 9 (.string smS) v117x100) ⟨fun v118x101 => @bnd ((some v109x92)) ⟨fun v119x102 => @bnd (aIndex Tryz.prog 9 (.string smS) v119x102) ⟨fun
  v120x103 => @bnd (aIndexAddr Tryz.prog H 55 v110x93 v112x95) ⟨fun v121x104 => @bndK false true H ⟨fun x105 H106 => x105 = undef ∧ aStore Tryz.prog H 5 v121x104 v118x101 = some H106⟩ ⟨fun _ H106 => aIndex Tryz.prog 9 (.string
  smS) v119x102 = some v120x103 ∧ aBin2 Tryz.prog H106 .sub 3 (.tmp 114) (.const (.int .i64 2)) v114x97 (.int .i64 2) = some v115x98 ∧ True⟩ ⟨fun _ H106 => @bnd (aIndexAddr Tryz.prog H106 55 v113x96 v115x98) ⟨fun v122x107 =>
  @bndK true true H106 ⟨fun x108 H109 => x108 = undef ∧ aStore Tryz.prog H106 5 v122x107 v120x103 = some H109⟩ ⟨fun _ _ => True⟩ ⟨fun _ H109 => @bnd ((some s0)) ⟨fun v123x110 => @bnd ((some s4)) ⟨fun v124x111 => @bnd (aBin2
  Tryz.prog H109 .sub 3 (.tmp 124) (.const (.int .i64 3)) v124x111 (.int .i64 3)) ⟨fun v125x112 => @bnd ((some s0)) ⟨fun v126x113 => @bnd ((some s4)) ⟨fun v127x114 => @bnd (aBin2 Tryz.prog H109 .sub 3 (.tmp 127) (.const (.int
  .i64 4)) v127x114 (.int .i64 4)) ⟨fun v128x115 => @bnd ((some v106x90)) ⟨fun v129x116 => @bnd (aBin2 Tryz.prog H109 .add 50 (.tmp 129) (.const (.int .u32 1)) v129x116 (.int .u32 1)) ⟨fun v130x117 => @bnd (aIndex Tryz.prog 9
  (.string smS) v130x117) ⟨fun v131x118 => @bnd ((some v106x90)) ⟨fun v132x119 => @bnd (aIndex Tryz.prog 9 (.string smS) v132x119) ⟨fun v133x120 => @bnd (aIndexAddr Tryz.prog H109 55 v123x110 v125x112) ⟨fun v134x121 => @bndK
  false true H109 ⟨fun x122 H123 => x122 = undef ∧ aStore Tryz.prog H109 5 v134x121 v131x118 = some H123⟩ ⟨fun _ H123 => aIndex Tryz.prog 9 (.string smS) v132x119 = some v133x120 ∧ aBin2 Tryz.prog H123 .sub 3 (.tmp 127) (.const
  (.int .i64 4)) v127x114 (.int .i64 4) = some v128x115 ∧ True⟩ ⟨fun _ H123 => @bnd (aIndexAddr Tryz.prog H123 55 v126x113 v128x115) ⟨fun v135x124 => @bndK true true H123 ⟨fun x125 H126 => x125 = undef ∧ aStore Tryz.prog H123 5
  v135x124 v133x120 = some H126⟩ ⟨fun _ _ => True⟩ ⟨fun _ H126 => @bnd (aBin2 Tryz.prog H126 .sub 3 (.tmp 136) (.const (.int .i64 4)) s4 (.int .i64 4)) ⟨fun v137x127 => S144x0  k [s0, s1, s2, s3, v137x127, s5, s6, s7, s8, s9,
  s10, s11, v103x88, v101x87, v106x90, v109x92, s16, s17, s18, s4, v20x2, s21, s22, s23, s24, s25, s26, s27, s28, s29, s30, s31, s32, s33, s34, s35, s36, s37, s38, s39, s40, s41, s42, s43, s44, s45, s46, s47, s48, s49, s50, s51,
  s52, s53, s54, s55, s56, s57, s58, s59, s60, s61, s62, s63, s64, s65, s66, s67, s68, s69, s70, s71, s72, s73, s74, s75, s76, s77, s78, s79, s80, s81, s82, s83, s84, s85, s86, s87, s88, s89, s90, s91, s92, s93, s94, s95, s1,
  v97x85, s4, v99x86, v97x85, v101x87, v97x85, v103x88, v101x87, v105x89, v106x90, v101x87, v108x91, v109x92, v110x93, v111x94, v112x95, v113x96, v114x97, v115x98, v116x99, v117x100, v118x101, v119x102, v120x103, v121x104,
  v122x107, v123x110, v124x111, v125x112, v126x113, v127x114, v128x115, v129x116, v130x117, v131x118, v132x119, v133x120, v134x121, v135x124, s4, v137x127, s138, s139, s140, s141, s142, s143, s144, s145, s146, s147, s148, s149,
  s150, s151, s152, s153, s154, s155, s156, s157, s158, s159, s160, s161, s162, s163, s164, s165, s166] H126⟩⟩⟩⟩⟩⟩⟩⟩⟩⟩⟩⟩⟩⟩⟩⟩⟩⟩⟩⟩⟩⟩⟩⟩⟩⟩⟩⟩⟩⟩⟩⟩⟩⟩⟩⟩⟩⟩ ⟨S144x0  k [s0, s1, s2, s3, s4, s5, s6, s7, s8, s9, s10, s11, v97x85, s13, s14,
  s15, s16, s17, s18, s4, v20x2, s21, s22, s23, s24, s25, s26, s27, s28, s29, s30, s31, s32, s33, s34, s35, s36, s37, s38, s39, s40, s41, s42, s43, s44, s45, s46, s47, s48, s49, s50, s51, s52, s53, s54, s55, s56, s57, s58, s59,
  s60, s61, s62, s63, s64, s65, s66, s67, s68, s69, s70, s71, s72, s73, s74, s75, s76, s77, s78, s79, s80, s81, s82, s83, s84, s85, s86, s87, s88, s89, s90, s91, s92, s93, s94, s95, s1, v97x85, s4, v99x86, s100, s101, s102, s103,
  s104, s105, s106, s107, s108, s109, s110, s111, s112, s113, s114, s115, s116, s117, s118, s119, s120, s121, s122, s123, s124, s125, s126, s127, s128, s129, s130, s131, s132, s133, s134, s135, s136, s137, s138, s139, s140, s141,
  s142, s143, s144, s145, s146, s147, s148, s149, s150, s151, s152, s153, s154, s155, s156, s157, s158, s159, s160, s161, s162, s163, s164, s165, s166] H⟩⟩⟩⟩⟩) := by kernel_rfl
theorem S144x0q (s0 s1 s2 s3 s4 s5 s6 s7 s8 s9 s10 s11 s12 s13 s14 s15 s16 s17 s18 s19 s20 s21 s22 s23 s24 s25 s26 s27 s28 s29 s30 s31 s32 s33 s34 s35 s36 s37 s38 s39 s40 s41 s42 s43 s44 s45 s46 s47 s48 s49 s50 s51 s52 s53 s54
  s55 s56 s57 s58 s59 s60 s61 s62 s63 s64 s65 s66 s67 s68 s69 s70 s71 s72 s73 s74 s75 s76 s77 s78 s79 s80 s81 s82 s83 s84 s85 s86 s87 s88 s89 s90 s91 s92 s93 s94 s95 s96 s97 s98 s99 s100 s101 s102 s103 s104 s105 s106 s107 s108
  s109 s110 s111 s112 s113 s114 s115 s116 s117 s118 s119 s120 s121 s122 s123 s124 s125 s126 s127 s128 s129 s130 s131 s132 s133 s134 s135 s136 s137 s138 s139 s140 s141 s142 s143 s144 s145 s146 s147 s148 s149 s150 s151 s152 s153
  s154 s155 s156 s157 s158 s159 s160 s161 s162 s163 s164 s165 s166 : Value) (H : AHeap) (k : Value → AHeap → Prop) : S144x0 k [s0, s1, s2, s3, s4, s5, s6, s7, s8, s9, s10, s11, s12, s13, s14, s15, s16, s17, s18, s19, s20, s21,
  s22, s23, s24, s25, s26, s27, s28, s29, s30, s31, s32, s33, s34, s35, s36, s37, s38, s39, s40, s41, s42, s43, s44, s45, s46, s47, s48, s49, s50, s51, s52, s53, s54, s55, s56, s57, s58, s59, s60, s61, s62, s63, s64, s65, s66,
  s67, s68, s69, s70, s71, s72, s73, s74, s75, s76, s77, s78, s79, s80, s81, s82, s83, s84, s85, s86, s87, s88, s89, s90, s91, s92, s93, s94, s95, s96, s97, s98, s99, s100, s101, s102, s103, s104, s105, s106, s107, s108, s109,
  s110, s111, s112, s113, s114, s115, s116, s117, s118, s119, s120, s121, s122, s123, s124, s125, s126, s127, s128, s129, s130, s131, s132, s133, s134, s135, s136, s137, s138, s139, s140, s141, s142, s143, s144, s145, s146, s147,
  s148, s149, s150, s151, s152, s153, s154, s155, s156, s157, s158, s159, s160, s161, s162, s163, s164, s165, s166] H = (@bnd (aBin2 Tryz.prog H .geq 3 (.tmp 138) (.const (.int .i64 2)) s4 (.int .i64 2)) ⟨fun v139x128 => @kifB
  v139x128 ⟨@bnd (aBin2 Tryz.prog H .rem 50 (.tmp 140) (.const (.int .u32 100)) s12 (.int .u32 100)) ⟨fun v141x129 => @bnd (aBin2 Tryz.prog H .mul 50 (.tmp 141) (.const (.int .u32 2)) v141x129 (.int .u32 2)) ⟨fun v142x130 => @bnd
  (aBin2 Tryz.prog H .quo 50 (.tmp 143) (.const (.int .u32 100)) s12 (.int .u32 100)) ⟨fun v144x131 => @bnd ((some s0)) ⟨fun v145x132 => @bnd ((some s4)) ⟨fun v146x133 => @bnd (aBin2 Tryz.prog H .sub 3 (.tmp 146) (.const (.int
  .i64 1)) v146x133 (.int .i64 1)) ⟨fun v147x134 => @bnd ((some s0)) ⟨fun v148x135 => @bnd ((some s4)) ⟨fun v149x136 => @bnd (aBin2 Tryz.prog H .sub 3 (.tmp 149) (.const (.int .i64 2)) v149x136 (.int .i64 2)) ⟨fun v150x137 =>
  @bnd ((some v142x130)) ⟨fun v151x138 => @bnd (aBin2 Tryz.prog H .add 50 (.tmp 151) (.const (.int .u32 1)) v151x138 (.int .u32 1)) ⟨fun v152x139 => @bnd (aIndex Tryz.prog 9 (.string smS) v152x139) ⟨fun v153x140 => @bnd ((some
  v142x130)) ⟨fun v154x141 => @bnd (aIndex Tryz.prog 9 (.string smS) v154x141) ⟨fun v155x142 => @bnd (aIndexAddr Tryz.prog H 55 v145x132 v147x134) ⟨fun v156x143 => @bndK false true H ⟨fun x144 H145 => x144 = undef ∧ aStore
  Tryz.prog H 5 v156x143 v153x140 = some H145⟩ ⟨fun _ H145 => aIndex Tryz.prog 9 (.string smS) v154x141 = some v155x142 ∧ aBin2 Tryz.prog H145 .sub 3 (.tmp 149) (.const (.int .i64 2)) v149x136 (.int .i64 2) = some v150x137 ∧
  True⟩ ⟨fun _ H145 => @bnd (aIndexAddr Tryz.prog H145 55 v148x135 v150x137) ⟨fun v157x146 => @bndK true true H145 ⟨fun x147 H148 => x147 = undef ∧ aStore Tryz.prog H145 5 v157x146 v155x142 = some H148⟩ ⟨fun _ _ => True⟩ ⟨fun _
  H148 => @bnd (aBin2 Tryz.prog H148 .sub 3 (.tmp 158) (.const (.int .i64 2)) s4 (.int .i64 2)) ⟨fun v159x149 => S144x1  k [s0, s1, s2, s3, v159x149, s5, s6, s7, s8, s9, s10, s11, v144x131, s13, s14, s15, v142x130, s17, s18, s19,
  s20, s21, s22, s23, s24, s25, s26, s27, s28, s29, s30, s31, s32, s33, s34, s35, s36, s37, s38, s39, s40, s41, s42, s43, s44, s45, s46, s47, s48, s49, s50, s51, s52, s53, s54, s55, s56, s57, s58, s59, s60, s61, s62, s63, s64,
  s65, s66, s67, s68, s69, s70, s71, s72, s73, s74, s75, s76, s77, s78, s79, s80, s81, s82, s83, s84, s85, s86, s87, s88, s89, s90, s91, s92, s93, s94, s95, s96, s97, s98, s99, s100, s101, s102, s103, s104, s105, s106, s107,
  s108, s109, s110, s111, s112, s113, s114, s115, s116, s117, s118, s119, s120, s121, s122, s123, s124, s125, s126, s127, s128, s129, s130, s131, s132, s133, s134, s135, s136, s137, s4, v139x128, s12, v141x129, v142x130, s12,
  v144x131, v145x132, v146x133, v147x134, v148x135, v149x136, v150x137, v151x138, v152x139, v153x140, v154x141, v155x142, v156x143, v157x146, s4, v159x149, s160, s161, s162, s163, s164, s165, s166] H148⟩⟩⟩⟩⟩⟩⟩⟩⟩⟩⟩⟩⟩⟩⟩⟩⟩⟩⟩⟩
  ⟨S144x1  k [s0, s1, s2, s3, s4, s5, s6, s7, s8, s9, s10, s11, s12, s13, s14, s15, s16, s17, s18, s19, s20, s21, s22, s23, s24, s25, s26, s27, s28, s29, s30, s31, s32, s33, s34, s35, s36, s37, s38, s39, s40, s41, s42, s43, s44,
  s45, s46, s47, s48, s49, s50, s51, s52, s53, s54, s55, s56, s57, s58, s59, s60, s61, s62, s63, s64, s65, s66, s67, s68, s69, s70, s71, s72, s73, s74, s75, s76, s77, s78, s79, s80, s81, s82, s83, s84, s85, s86, s87, s88, s89,
  s90, s91, s92, s93, s94, s95, s96, s97, s98, s99, s100, s101, s102, s103, s104, s105, s106, s107, s108, s109, s110, s111, s112, s113, s114, s115, s116, s117, s118, s119, s120, s121, s122, s123, s124, s125, s126, s127, s128,
  s129, s130, s131, s132, s133, s134, s135, s136, s137, s4, v139x128, s140, s141, s142, s143, s144, s145, s146, s147, s148, s149, s150, s151, s152, s153, s154, s155, s156, s157, s158, s159, s160, s161, s162, s163, s164, s165,
  s166] H⟩⟩) := by kernel_rfl
theorem S144x1q (s0 s1 s2 s3 s4 s5 s6 s7 s8 s9 s10 s11 s12 s13 s14 s15 s16 s17 s18 s19 s20 s21 s22 s23 s24 s25 s26 s27 s28 s29 s30 s31 s32 s33 s34 s35 s36 s37 s38 s39 s40 s41 s42 s43 s44 s45 s46 s47 s48 s49 s50 s51 s52 s53 s54
  s55 s56 s57 s58 s59 s60 s61 s62 s63 s64 s65 s66 s67 s68 s69 s70 s71 s72 s73 s74 s75 s76 s77 s78 s79 s80 s81 s82 s83 s84 s85 s86 s87 s88 s89 s90 s91 s92 s93 s94 s95 s96 s97 s98 s99 s100 s101 s102 s103 s104 s105 s106 s107 s108
  s109 s110 s111 s112 s113 s114 s115 s116 s117 s118 s119 s120 s121 s122 s123 s124 s125 s126 s127 s128 s129 s130 s131 s132 s133 s134 s135 s136 s137 s138 s139 s140 s141 s142 s143 s144 s145 s146 s147 s148 s149 s150 s151 s152 s153
  s154 s155 s156 s157 s158 s159 s160 s161 s162 s163 s164 s165 s166 : Value) (H : AHeap) (k : Value → AHeap → Prop) : S144x1 k [s0, s1, s2, s3, s4, s5, s6, s7, s8, s9, s10, s11, s12, s13, s14, s15, s16, s17, s18, s19, s20, s21,
  s22, s23, s24, s25, s26, s27, s28, s29, s30, s31, s32, s33, s34, s35, s36, s37, s38, s39, s40, s41, s42, s43, s44, s45, s46, s47, s48, s49, s50, s51, s52, s53, s54, s55, s56, s57, s58, s59, s60, s61, s62, s63, s64, s65, s66,
  s67, s68, s69, s70, s71, s72, s73, s74, s75, s76, s77, s78, s79, s80, s81, s82, s83, s84, s85, s86, s87, s88, s89, s90, s91, s92, s93, s94, s95, s96, s97, s98, s99, s100, s101, s102, s103, s104, s105, s106, s107, s108, s109,
  s110, s111, s112, s113, s114, s115, s116, s117, s118, s119, s120, s121, s122, s123, s124, s125, s126, s127, s128, s129, s130, s131, s132, s133, s134, s135, s136, s137, s138, s139, s140, s141, s142, s143, s144, s145, s146, s147,
  s148, s149, s150, s151, s152, s153, s154, s155, s156, s157, s158, s159, s160, s161, s162, s163, s164, s165, s166] H = (@bnd (aBin2 Tryz.prog H .gtr 3 (.tmp 160) (.const (.int .i64 0)) s4 (.int .i64 0)) ⟨fun v161x150 => @kifB
  v161x150 ⟨@bnd (aBin2 Tryz.prog H .add 50 (.const (.int .u32 48)) (.tmp 163) (.int .u32 48) s12) ⟨fun v164x151 => @bnd (convV Tryz.prog H 50 5 v164x151) ⟨fun v165x152 => @bnd (aIndexAddr Tryz.prog H 55 s0 (.int .i64 0)) ⟨fun
  v166x153 => @bndS (aStore Tryz.prog H 5 v166x153 v165x152) ⟨fun _ H155 => k (.tuple #[]) H155⟩⟩⟩⟩⟩ ⟨k (.tuple #[]) H⟩⟩) := by kernel_rfl
-- tocsin/tocsinref10.Same
def L19x0 (n : Nat) (k : Value → AHeap → Prop) (sl : List Value) (H : AHeap) : Prop := kitG Tryz.prog (drawPairK Tryz.prog) (cl (cl (cr (cl (cr (cr (cb Tryz.f19))))))) n (kblkG 0 (kseqG Tryz.prog (drawPairK Tryz.prog) (cr (cr (cr
  (cb Tryz.f19)))) (kfinG Tryz.prog Tryz.f19 k))) .normal sl H []
theorem d19 (a0 a1 : Value) (H : AHeap) (k : Value → AHeap → Prop) : kbodyG Tryz.prog (drawPairK Tryz.prog) Tryz.f19 [a0, a1] H k = (@bnd (aLen Tryz.prog H 27 a0) ⟨fun v9x1 => @bnd (aLen Tryz.prog H 27 a1) ⟨fun v11x2 => @bnd
  (aBin2 Tryz.prog H .neq 3 (.tmp 9) (.tmp 11) v9x1 v11x2) ⟨fun v12x3 => @kifB v12x3 ⟨k (.bool false) H⟩ ⟨∃ n, L19x0 n  k [a0, a1, undef, undef, (.bool false), (.int .i64 0), undef, undef, a0, v9x1, a1, v11x2, v12x3, undef,
  undef, undef, undef, undef, undef, undef, undef, undef, undef, undef, undef, undef, undef, undef, undef, undef, undef, undef, undef, undef, undef, undef, undef, undef, undef, undef, undef, undef, undef, undef, undef, undef,
  undef, undef, undef, undef, undef, undef, undef, undef, undef, undef, undef, undef, undef, undef, undef, undef, undef, undef, undef, undef, undef, undef, undef, undef, undef, undef, undef, undef, undef, undef, undef, undef,
  undef, undef, undef, undef] H⟩⟩⟩⟩) := by kernel_rfl
theorem L19x0q (n0 : Nat) (s0 s1 s2 s3 s4 s5 s6 s7 s8 s9 s10 s11 s12 s13 s14 s15 s16 s17 s18 s19 s20 s21 s22 s23 s24 s25 s26 s27 s28 s29 s30 s31 s32 s33 s34 s35 s36 s37 s38 s39 s40 s41 s42 s43 s44 s45 s46 s47 s48 s49 s50 s51 s52
  s53 s54 s55 s56 s57 s58 s59 s60 s61 s62 s63 s64 s65 s66 s67 s68 s69 s70 s71 s72 s73 s74 s75 s76 s77 s78 s79 s80 s81 : Value) (H : AHeap) (k : Value → AHeap → Prop) : L19x0 (n0 + 1) k [s0, s1, s2, s3, s4, s5, s6, s7, s8, s9,
  s10, s11, s12, s13, s14, s15, s16, s17, s18, s19, s20, s21, s22, s23, s24, s25, s26, s27, s28, s29, s30, s31, s32, s33, s34, s35, s36, s37, s38, s39, s40, s41, s42, s43, s44, s45, s46, s47, s48, s49, s50, s51, s52, s53, s54,
  s55, s56, s57, s58, s59, s60, s61, s62, s63, s64, s65, s66, s67, s68, s69, s70, s71, s72, s73, s74, s75, s76, s77, s78, s79, s80, s81] H = (@bnd (aLen Tryz.prog H 27 s0) ⟨fun v15x4 => @bnd (aBin2 Tryz.prog H .lss 3 (.tmp 13)
  (.tmp 15) s5 v15x4) ⟨fun v16x5 => @kifB v16x5 ⟨(@bnd ((some s0)) ⟨fun v19x6 => @bnd ((some s5)) ⟨fun v20x7 => @bnd (aIndexAddr Tryz.prog H 27 v19x6 v20x7) ⟨fun v21x8 => @bnd (aLoad Tryz.prog H 37 v21x8) ⟨fun v22x9 => @bnd
  ((some s1)) ⟨fun v23x10 => @bnd ((some s5)) ⟨fun v24x11 => @bnd (aIndexAddr Tryz.prog H 27 v23x10 v24x11) ⟨fun v25x12 => @bnd (aLoad Tryz.prog H 37 v25x12) ⟨fun v26x13 => @bndK false true H ⟨fun v6x14 H15 => aAlloc Tryz.prog H
  37 = some (v6x14, H15)⟩ ⟨fun _ H15 => aLoad Tryz.prog H15 37 v25x12 = some v26x13 ∧ aIndexAddr Tryz.prog H15 27 v23x10 v24x11 = some v25x12 ∧ aLoad Tryz.prog H15 37 v21x8 = some v22x9 ∧ aIndexAddr Tryz.prog H15 27 v19x6 v20x7 =
  some v21x8 ∧ True⟩ ⟨fun v6x14 H15 => @bndK false true H15 ⟨fun v7x16 H17 => aAlloc Tryz.prog H15 37 = some (v7x16, H17)⟩ ⟨fun _ H17 => aLoad Tryz.prog H17 37 v25x12 = some v26x13 ∧ aIndexAddr Tryz.prog H17 27 v23x10 v24x11 =
  some v25x12 ∧ aLoad Tryz.prog H17 37 v21x8 = some v22x9 ∧ aIndexAddr Tryz.prog H17 27 v19x6 v20x7 = some v21x8 ∧ True⟩ ⟨fun v7x16 H17 => @bndK false true H17 ⟨fun x18 H19 => x18 = undef ∧ aStore Tryz.prog H17 37 v6x14 v22x9 =
  some H19⟩ ⟨fun _ H19 => aLoad Tryz.prog H19 37 v25x12 = some v26x13 ∧ aIndexAddr Tryz.prog H19 27 v23x10 v24x11 = some v25x12 ∧ True⟩ ⟨fun _ H19 => @bndK true true H19 ⟨fun x20 H21 => x20 = undef ∧ aStore Tryz.prog H19 37 v7x16
  v26x13 = some H21⟩ ⟨fun _ _ => True⟩ ⟨fun _ H21 => @bnd (aFieldAddr Tryz.prog H21 37 v6x14 0) ⟨fun v27x22 => @bnd (aLoad Tryz.prog H21 5 v27x22) ⟨fun v28x23 => @bnd (aFieldAddr Tryz.prog H21 37 v7x16 0) ⟨fun v29x24 => @bnd
  (aLoad Tryz.prog H21 5 v29x24) ⟨fun v30x25 => @bnd (aBin2 Tryz.prog H21 .neq 5 (.tmp 28) (.tmp 30) v28x23 v30x25) ⟨fun v31x26 => @bnd (gif v31x26 false (aFieldAddr Tryz.prog H21 37 v6x14 1) undef) ⟨fun v33x27 => @bnd (gif
  v31x26 false (aLoad Tryz.prog H21 5 v33x27) undef) ⟨fun v34x28 => @bnd (gif v31x26 false (aFieldAddr Tryz.prog H21 37 v7x16 1) undef) ⟨fun v35x29 => @bnd (gif v31x26 false (aLoad Tryz.prog H21 5 v35x29) undef) ⟨fun v36x30 =>
  @bnd (gif v31x26 false (aBin2 Tryz.prog H21 .neq 5 (.tmp 34) (.tmp 36) v34x28 v36x30) undef) ⟨fun v37x31 => @bnd (pickV v31x26 (.bool true) v37x31) ⟨fun v38x32 => @bnd (gif v38x32 false (aFieldAddr Tryz.prog H21 37 v6x14 2)
  undef) ⟨fun v40x33 => @bnd (gif v38x32 false (aLoad Tryz.prog H21 35 v40x33) undef) ⟨fun v41x34 => @bnd (gif v38x32 false (aFieldAddr Tryz.prog H21 37 v7x16 2) undef) ⟨fun v42x35 => @bnd (gif v38x32 false (aLoad Tryz.prog H21
  35 v42x35) undef) ⟨fun v43x36 => @bndG v38x32 false H21 ⟨fun v44x37 H38 => ACalls Tryz.prog 41 [v41x34, v43x36] H21 v44x37 H38⟩ ⟨fun v44x37 H38 => @bnd (gif v38x32 false (unV Tryz.prog .not v44x37) undef) ⟨fun v45x39 => @bnd
  (pickV v38x32 (.bool true) v45x39) ⟨fun v46x40 => @bnd (gif v46x40 false (aFieldAddr Tryz.prog H38 37 v6x14 3) undef) ⟨fun v48x41 => @bnd (gif v46x40 false (aLoad Tryz.prog H38 3 v48x41) undef) ⟨fun v49x42 => @bnd (gif v46x40
  false (aFieldAddr Tryz.prog H38 37 v7x16 3) undef) ⟨fun v50x43 => @bnd (gif v46x40 false (aLoad Tryz.prog H38 3 v50x43) undef) ⟨fun v51x44 => @bnd (gif v46x40 false (aBin2 Tryz.prog H38 .neq 3 (.tmp 49) (.tmp 51) v49x42 v51x44)
  undef) ⟨fun v52x45 => @bnd (pickV v46x40 (.bool true) v52x45) ⟨fun v53x46 => @bnd (gif v53x46 false (aFieldAddr Tryz.prog H38 37 v6x14 4) undef) ⟨fun v55x47 => @bnd (gif v53x46 false (aLoad Tryz.prog H38 5 v55x47) undef) ⟨fun
  v56x48 => @bnd (gif v53x46 false (aFieldAddr Tryz.prog H38 37 v7x16 4) undef) ⟨fun v57x49 => @bnd (gif v53x46 false (aLoad Tryz.prog H38 5 v57x49) undef) ⟨fun v58x50 => @bnd (gif v53x46 false (aBin2 Tryz.prog H38 .neq 5 (.tmp
  56) (.tmp 58) v56x48 v58x50) undef) ⟨fun v59x51 => @bnd (pickV v53x46 (.bool true) v59x51) ⟨fun v60x52 => @bnd (gif v60x52 false (aFieldAddr Tryz.prog H38 37 v6x14 5) undef) ⟨fun v62x53 => @bnd (gif v60x52 false (aLoad
  Tryz.prog H38 2 v62x53) undef) ⟨fun v63x54 => @bnd (gif v60x52 false (aFieldAddr Tryz.prog H38 37 v7x16 5) undef) ⟨fun v64x55 => @bnd (gif v60x52 false (aLoad Tryz.prog H38 2 v64x55) undef) ⟨fun v65x56 => @bnd (gif v60x52 false
  (aBin2 Tryz.prog H38 .neq 2 (.tmp 63) (.tmp 65) v63x54 v65x56) undef) ⟨fun v66x57 => @bnd (pickV v60x52 (.bool true) v66x57) ⟨fun v67x58 => @bnd (gif v67x58 false (aFieldAddr Tryz.prog H38 37 v6x14 6) undef) ⟨fun v69x59 => @bnd
  (gif v67x58 false (aLoad Tryz.prog H38 3 v69x59) undef) ⟨fun v70x60 => @bnd (gif v67x58 false (aFieldAddr Tryz.prog H38 37 v7x16 6) undef) ⟨fun v71x61 => @bnd (gif v67x58 false (aLoad Tryz.prog H38 3 v71x61) undef) ⟨fun v72x62
  => @bnd (gif v67x58 false (aBin2 Tryz.prog H38 .neq 3 (.tmp 70) (.tmp 72) v70x60 v72x62) undef) ⟨fun v73x63 => @bnd (pickV v67x58 (.bool true) v73x63) ⟨fun v74x64 => @bnd (gif v74x64 false (aFieldAddr Tryz.prog H38 37 v6x14 7)
  undef) ⟨fun v76x65 => @bnd (gif v74x64 false (aLoad Tryz.prog H38 3 v76x65) undef) ⟨fun v77x66 => @bnd (gif v74x64 false (aFieldAddr Tryz.prog H38 37 v7x16 7) undef) ⟨fun v78x67 => @bnd (gif v74x64 false (aLoad Tryz.prog H38 3
  v78x67) undef) ⟨fun v79x68 => @bnd (gif v74x64 false (aBin2 Tryz.prog H38 .neq 3 (.tmp 77) (.tmp 79) v77x66 v79x68) undef) ⟨fun v80x69 => @bnd (pickV v74x64 (.bool true) v80x69) ⟨fun v81x70 => @kifB v81x70 ⟨k (.bool false) H38⟩
  ⟨@bnd (aBin2 Tryz.prog H38 .add 3 (.tmp 17) (.const (.int .i64 1)) s5 (.int .i64 1)) ⟨fun v18x71 => L19x0 n0  k [s0, s1, s2, s3, s4, v18x71, v6x14, v7x16, s8, s9, s10, s11, s12, s5, s0, v15x4, v16x5, s5, v18x71, v19x6, v20x7,
  v21x8, v22x9, v23x10, v24x11, v25x12, v26x13, v27x22, v28x23, v29x24, v30x25, v31x26, v31x26, v33x27, v34x28, v35x29, v36x30, v37x31, v38x32, v38x32, v40x33, v41x34, v42x35, v43x36, v44x37, v45x39, v46x40, v46x40, v48x41,
  v49x42, v50x43, v51x44, v52x45, v53x46, v53x46, v55x47, v56x48, v57x49, v58x50, v59x51, v60x52, v60x52, v62x53, v63x54, v64x55, v65x56, v66x57, v67x58, v67x58, v69x59, v70x60, v71x61, v72x62, v73x63, v74x64, v74x64, v76x65,
  v77x66, v78x67, v79x68, v80x69, v81x70] H38⟩⟩⟩⟩⟩⟩⟩⟩⟩⟩⟩⟩⟩⟩⟩⟩⟩⟩⟩⟩⟩⟩⟩⟩⟩⟩⟩⟩⟩⟩⟩⟩⟩⟩⟩⟩⟩⟩⟩⟩⟩⟩⟩⟩⟩⟩⟩⟩⟩⟩⟩⟩⟩⟩⟩⟩⟩⟩⟩⟩⟩⟩ ∧ @bnd ((some s0)) ⟨fun v19x72 => @bnd ((some s5)) ⟨fun v20x73 => @bnd (aIndexAddr Tryz.prog H 27 v19x72 v20x73) ⟨fun
  v21x74 => @bnd (aLoad Tryz.prog H 37 v21x74) ⟨fun v22x75 => @bnd ((some s1)) ⟨fun v23x76 => @bnd ((some s5)) ⟨fun v24x77 => @bnd (aIndexAddr Tryz.prog H 27 v23x76 v24x77) ⟨fun v25x78 => @bnd (aLoad Tryz.prog H 37 v25x78) ⟨fun
  v26x79 => @bndK false true H ⟨fun v7x80 H81 => aAlloc Tryz.prog H 37 = some (v7x80, H81)⟩ ⟨fun _ H81 => aLoad Tryz.prog H81 37 v25x78 = some v26x79 ∧ aIndexAddr Tryz.prog H81 27 v23x76 v24x77 = some v25x78 ∧ aLoad Tryz.prog H81
  37 v21x74 = some v22x75 ∧ aIndexAddr Tryz.prog H81 27 v19x72 v20x73 = some v21x74 ∧ True⟩ ⟨fun v7x80 H81 => @bndK false true H81 ⟨fun v6x82 H83 => aAlloc Tryz.prog H81 37 = some (v6x82, H83)⟩ ⟨fun _ H83 => aLoad Tryz.prog H83
  37 v25x78 = some v26x79 ∧ aIndexAddr Tryz.prog H83 27 v23x76 v24x77 = some v25x78 ∧ aLoad Tryz.prog H83 37 v21x74 = some v22x75 ∧ aIndexAddr Tryz.prog H83 27 v19x72 v20x73 = some v21x74 ∧ True⟩ ⟨fun v6x82 H83 => @bndK false
  true H83 ⟨fun x84 H85 => x84 = undef ∧ aStore Tryz.prog H83 37 v6x82 v22x75 = some H85⟩ ⟨fun _ H85 => aLoad Tryz.prog H85 37 v25x78 = some v26x79 ∧ aIndexAddr Tryz.prog H85 27 v23x76 v24x77 = some v25x78 ∧ True⟩ ⟨fun _ H85 =>
  @bndK true true H85 ⟨fun x86 H87 => x86 = undef ∧ aStore Tryz.prog H85 37 v7x80 v26x79 = some H87⟩ ⟨fun _ _ => True⟩ ⟨fun _ H87 => @bnd (aFieldAddr Tryz.prog H87 37 v6x82 0) ⟨fun v27x88 => @bnd (aLoad Tryz.prog H87 5 v27x88)
  ⟨fun v28x89 => @bnd (aFieldAddr Tryz.prog H87 37 v7x80 0) ⟨fun v29x90 => @bnd (aLoad Tryz.prog H87 5 v29x90) ⟨fun v30x91 => @bnd (aBin2 Tryz.prog H87 .neq 5 (.tmp 28) (.tmp 30) v28x89 v30x91) ⟨fun v31x92 => @bnd (gif v31x92
  false (aFieldAddr Tryz.prog H87 37 v6x82 1) undef) ⟨fun v33x93 => @bnd (gif v31x92 false (aLoad Tryz.prog H87 5 v33x93) undef) ⟨fun v34x94 => @bnd (gif v31x92 false (aFieldAddr Tryz.prog H87 37 v7x80 1) undef) ⟨fun v35x95 =>
  @bnd (gif v31x92 false (aLoad Tryz.prog H87 5 v35x95) undef) ⟨fun v36x96 => @bnd (gif v31x92 false (aBin2 Tryz.prog H87 .neq 5 (.tmp 34) (.tmp 36) v34x94 v36x96) undef) ⟨fun v37x97 => @bnd (pickV v31x92 (.bool true) v37x97)
  ⟨fun v38x98 => @bnd (gif v38x98 false (aFieldAddr Tryz.prog H87 37 v6x82 2) undef) ⟨fun v40x99 => @bnd (gif v38x98 false (aLoad Tryz.prog H87 35 v40x99) undef) ⟨fun v41x100 => @bnd (gif v38x98 false (aFieldAddr Tryz.prog H87 37
  v7x80 2) undef) ⟨fun v42x101 => @bnd (gif v38x98 false (aLoad Tryz.prog H87 35 v42x101) undef) ⟨fun v43x102 => @bndG v38x98 false H87 ⟨fun v44x103 H104 => ACalls Tryz.prog 41 [v41x100, v43x102] H87 v44x103 H104⟩ ⟨fun v44x103
  H104 => @bnd (gif v38x98 false (unV Tryz.prog .not v44x103) undef) ⟨fun v45x105 => @bnd (pickV v38x98 (.bool true) v45x105) ⟨fun v46x106 => @bnd (gif v46x106 false (aFieldAddr Tryz.prog H104 37 v6x82 3) undef) ⟨fun v48x107 =>
  @bnd (gif v46x106 false (aLoad Tryz.prog H104 3 v48x107) undef) ⟨fun v49x108 => @bnd (gif v46x106 false (aFieldAddr Tryz.prog H104 37 v7x80 3) undef) ⟨fun v50x109 => @bnd (gif v46x106 false (aLoad Tryz.prog H104 3 v50x109)
  undef) ⟨fun v51x110 => @bnd (gif v46x106 false (aBin2 Tryz.prog H104 .neq 3 (.tmp 49) (.tmp 51) v49x108 v51x110) undef) ⟨fun v52x111 => @bnd (pickV v46x106 (.bool true) v52x111) ⟨fun v53x112 => @bnd (gif v53x112 false
  (aFieldAddr Tryz.prog H104 37 v6x82 4) undef) ⟨fun v55x113 => @bnd (gif v53x112 false (aLoad Tryz.prog H104 5 v55x113) undef) ⟨fun v56x114 => @bnd (gif v53x112 false (aFieldAddr Tryz.prog H104 37 v7x80 4) undef) ⟨fun v57x115 =>
  @bnd (gif v53x112 false (aLoad Tryz.prog H104 5 v57x115) undef) ⟨fun v58x116 => @bnd (gif v53x112 false (aBin2 Tryz.prog H104 .neq 5 (.tmp 56) (.tmp 58) v56x114 v58x116) undef) ⟨fun v59x117 => @bnd (pickV v53x112 (.bool true)
  v59x117) ⟨fun v60x118 => @bnd (gif v60x118 false (aFieldAddr Tryz.prog H104 37 v6x82 5) undef) ⟨fun v62x119 => @bnd (gif v60x118 false (aLoad Tryz.prog H104 2 v62x119) undef) ⟨fun v63x120 => @bnd (gif v60x118 false (aFieldAddr
  Tryz.prog H104 37 v7x80 5) undef) ⟨fun v64x121 => @bnd (gif v60x118 false (aLoad Tryz.prog H104 2 v64x121) undef) ⟨fun v65x122 => @bnd (gif v60x118 false (aBin2 Tryz.prog H104 .neq 2 (.tmp 63) (.tmp 65) v63x120 v65x122) undef)
  ⟨fun v66x123 => @bnd (pickV v60x118 (.bool true) v66x123) ⟨fun v67x124 => @bnd (gif v67x124 false (aFieldAddr Tryz.prog H104 37 v6x82 6) undef) ⟨fun v69x125 => @bnd (gif v67x124 false (aLoad Tryz.prog H104 3 v69x125) undef)
  ⟨fun v70x126 => @bnd (gif v67x124 false (aFieldAddr Tryz.prog H104 37 v7x80 6) undef) ⟨fun v71x127 => @bnd (gif v67x124 false (aLoad Tryz.prog H104 3 v71x127) undef) ⟨fun v72x128 => @bnd (gif v67x124 false (aBin2 Tryz.prog H104
  .neq 3 (.tmp 70) (.tmp 72) v70x126 v72x128) undef) ⟨fun v73x129 => @bnd (pickV v67x124 (.bool true) v73x129) ⟨fun v74x130 => @bnd (gif v74x130 false (aFieldAddr Tryz.prog H104 37 v6x82 7) undef) ⟨fun v76x131 => @bnd (gif
  v74x130 false (aLoad Tryz.prog H104 3 v76x131) undef) ⟨fun v77x132 => @bnd (gif v74x130 false (aFieldAddr Tryz.prog H104 37 v7x80 7) undef) ⟨fun v78x133 => @bnd (gif v74x130 false (aLoad Tryz.prog H104 3 v78x133) undef) ⟨fun
  v79x134 => @bnd (gif v74x130 false (aBin2 Tryz.prog H104 .neq 3 (.tmp 77) (.tmp 79) v77x132 v79x134) undef) ⟨fun v80x135 => @bnd (pickV v74x130 (.bool true) v80x135) ⟨fun v81x136 => @kifB v81x136 ⟨k (.bool false) H104⟩ ⟨@bnd
  (aBin2 Tryz.prog H104 .add 3 (.tmp 17) (.const (.int .i64 1)) s5 (.int .i64 1)) ⟨fun v18x137 => L19x0 n0  k [s0, s1, s2, s3, s4, v18x137, v6x82, v7x80, s8, s9, s10, s11, s12, s5, s0, v15x4, v16x5, s5, v18x137, v19x72, v20x73,
  v21x74, v22x75, v23x76, v24x77, v25x78, v26x79, v27x88, v28x89, v29x90, v30x91, v31x92, v31x92, v33x93, v34x94, v35x95, v36x96, v37x97, v38x98, v38x98, v40x99, v41x100, v42x101, v43x102, v44x103, v45x105, v46x106, v46x106,
  v48x107, v49x108, v50x109, v51x110, v52x111, v53x112, v53x112, v55x113, v56x114, v57x115, v58x116, v59x117, v60x118, v60x118, v62x119, v63x120, v64x121, v65x122, v66x123, v67x124, v67x124, v69x125, v70x126, v71x127, v72x128,
  v73x129, v74x130, v74x130, v76x131, v77x132, v78x133, v79x134, v80x135, v81x136] H104⟩⟩⟩⟩⟩⟩⟩⟩⟩⟩⟩⟩⟩⟩⟩⟩⟩⟩⟩⟩⟩⟩⟩⟩⟩⟩⟩⟩⟩⟩⟩⟩⟩⟩⟩⟩⟩⟩⟩⟩⟩⟩⟩⟩⟩⟩⟩⟩⟩⟩⟩⟩⟩⟩⟩⟩⟩⟩⟩⟩⟩⟩)⟩ ⟨k (.bool true) H⟩⟩⟩) := by kernel_rfl
-- tocsin/tocsinlaw14.awake
end Go.Vi
namespace Go.Vi
open Go Go.Proofs

theorem acallsKo {P : Program} (hm : P.follows .mixedOrders = true) {f fn args H v K'} (hf : P.funcs[f]? = some fn) (hn : notNG fn = true) (hr : kbodyG P (drawKeep P) fn args H fun u H2 => u = v ∧ H2 = K') : ACalls P f args H v K' :=
  acallsG_of (fun c => @drawKeep_sound P c hm) hf hn hr
abbrev u32 (n : Int) : Value := .int .u32 n
def dgt (d : Nat) : Value := byt (UInt8.ofNat (48 + d))
def putD (o : Nat) : Nat → Nat → List Value → List Value
  | 0, _, cs => cs
  | n + 1, u, cs => putD o n (u / 10) (cs.set (o + n) (dgt (u % 10)))
theorem sm_at : ∀ p : Nat, p < 100 → smS.data[2 * p]? = some (UInt8.ofNat (48 + p / 10)) ∧ smS.data[2 * p + 1]? = some (UInt8.ofNat (48 + p % 10)) := by decide +kernel
theorem sm_ix (_H : Nat) {p : Nat} (hp : p < 100) : aIndex Tryz.prog 9 (.string smS) (u32 ((2 * p : Nat) : Int)) = some (dgt (p / 10)) ∧ aIndex Tryz.prog 9 (.string smS) (u32 ((2 * p + 1 : Nat) : Int)) = some (dgt (p % 10)) := by
  obtain ⟨h1, h2⟩ := sm_at p hp
  have e : str smS.data.toList = .string smS := rfl
  have i1 := aIndex_at (P := Tryz.prog) (T := 9) (k := .u32) (l := smS.data.toList) (i := 2 * p) (by simp) (by rw [Array.getElem?_toList]; exact h1)
  have i2 := aIndex_at (P := Tryz.prog) (T := 9) (k := .u32) (l := smS.data.toList) (i := 2 * p + 1) (by simp) (by rw [Array.getElem?_toList]; exact h2)
  rw [e] at i1 i2
  exact ⟨i1, i2⟩
section
variable {P : Program} {H : AHeap} {T : TypeId} {x y : Operand} {k : IntKind} {a : Nat}
theorem remL {c : Int} {n : Nat} (hc : c = n) (h0 : 0 < n) : aBin2 P H .rem T x y (.int k (a : Int)) (.int k c) = some (.int k ((a % n : Nat) : Int)) := by
  subst hc; rw [aBin_rem _ _ _ _ _ _ _ (by omega)]; rfl
theorem quoL {c : Int} {n : Nat} (hc : c = n) (h0 : 0 < n) (hw : k.wrap ((a / n : Nat) : Int) = ((a / n : Nat) : Int)) : aBin2 P H .quo T x y (.int k (a : Int)) (.int k c) = some (.int k ((a / n : Nat) : Int)) := by
  subst hc; rw [aBin_quo _ _ _ _ _ _ _ (by omega), ← hw]; rfl
theorem wrap32 {n : Int} (h1 : 0 ≤ n) (h2 : n < 4294967296) : IntKind.u32.wrap n = n := by
  unfold IntKind.wrap
  simp only [show IntKind.u32.bits = 32 from rfl, show IntKind.u32.signed = false from rfl]
  simp
  omega
theorem rem32 {n : Nat} {c : Int} (hc : c = n) (h0 : 0 < n) : aBin2 P H .rem T x y (u32 (a : Int)) (u32 c) = some (u32 ((a % n : Nat) : Int)) := remL hc h0
theorem quo32 {n : Nat} {c : Int} (hc : c = n) (h0 : 0 < n) (ha : a < 4294967296) : aBin2 P H .quo T x y (u32 (a : Int)) (u32 c) = some (u32 ((a / n : Nat) : Int)) :=
  quoL hc h0 (by have h := Nat.div_le_self a n; generalize a / n = q at *; exact wrap32 (by omega) (by omega))
theorem mul32 (ha : a < 1000) : aBin2 P H .mul T x y (u32 (a : Int)) (u32 2) = some (u32 ((2 * a : Nat) : Int)) := by
  rw [aBin_mul, wrap32 (by omega) (by omega)]; congr 2; omega
theorem add32 (ha : a < 1000) : aBin2 P H .add T x y (u32 ((2 * a : Nat) : Int)) (u32 1) = some (u32 ((2 * a + 1 : Nat) : Int)) := by
  rw [aBin_add, wrap32 (by omega) (by omega)]; rfl
theorem subN {j : Nat} {c : Int} (hc : c = j) (hj : j ≤ a) (ha : a < 1000) : aBin2 P H .sub T x y (i64 (a : Int)) (i64 c) = some (i64 ((a - j : Nat) : Int)) := by
  subst hc; rw [aBin_sub, wrap_i64 (by omega) (by omega)]; congr 2; omega
end
theorem row_at {H : AHeap} {b o nd c i : Nat} {cs : List Value} {T : TypeId} (hb : H[b]? = some (.cells cs T)) (hc : cs.length = 24) (hi : i < nd) :
    aIndexAddr Tryz.prog H 55 (.slice (some ⟨b, o, some 24⟩) nd c) (i64 (i : Int)) = some (.pointer (some ⟨b, o + i, some 24⟩)) := by
  rw [aIndexAddr_eq (e := 5) (z := 1) (by simp) (by simp) (by simp [hlen, hb, AObj.len, hc]) (by omega) (by omega)]
  simp
theorem row_sto {H : AHeap} {b i d : Nat} {cs : List Value} {T : TypeId} (hb : H[b]? = some (.cells cs T)) (hc : cs.length = 24) (hi : i < 24) :
    aStore Tryz.prog H 5 (.pointer (some ⟨b, i, some 24⟩)) (dgt d) = some (H.set b (.cells (cs.set i (dgt d)) T)) := by
  have h1 : (dgt d).cells = #[dgt d] := rfl
  have h2 : storable (dgt d) = true := rfl
  simp [hb, hc, h1, h2]
  omega
theorem set_get {H : AHeap} {b : Nat} {x y : AObj} (hb : H[b]? = some x) : (H.set b y)[b]? = some y := List.getElem?_set_self (List.getElem?_eq_some_iff.1 hb).1
theorem putD_two {o n u : Nat} {cs : List Value} : putD o (n + 2) u cs = putD o n (u / 100) ((cs.set (o + (n + 1)) (dgt (u % 100 % 10))).set (o + n) (dgt (u % 100 / 10))) := by
  show putD o n (u / 10 / 10) ((cs.set (o + (n + 1)) (dgt (u % 10))).set (o + n) (dgt (u / 10 % 10))) = _
  rw [show u / 10 / 10 = u / 100 by omega, show u % 100 % 10 = u % 10 by omega, show u % 100 / 10 = u / 10 % 10 by omega]
theorem putD_len : ∀ (n o u : Nat) (cs : List Value), (putD o n u cs).length = cs.length := by
  intro n
  induction n with
  | zero => intro o u cs; rfl
  | succ n ih => intro o u cs; rw [putD, ih]; simp
theorem fb_last {H : AHeap} {b o nd m0 c u : Nat} {cs : List Value} {T : TypeId} {k : Value → AHeap → Prop} (hb : H[b]? = some (.cells cs T)) (hc : cs.length = 24) (ho : o + nd ≤ 24) (hnd : nd < 2) (hu : u < 10 ^ nd) (hndc : nd ≤ m0)
    (hk : k (.tuple #[]) (H.set b (.cells (putD o nd u cs) T))) (s1 s2 s3 s5 s6 s7 s8 s9 s10 s11 s13 s14 s15 s16 s17 s18 s19 s20 s21 s22 s23 s24 s25 s26 s27 s28 s29 s30 s31 s32 s33 s34 s35 s36 s37 s38 s39 s40 s41 s42 s43 s44 s45 s46 s47 s48 s49 s50 s51 s52 s53 s54 s55 s56 s57 s58 s59 s60 s61 s62 s63 s64 s65 s66 s67 s68 s69 s70 s71 s72 s73 s74 s75 s76 s77 s78 s79 s80 s81 s82 s83 s84 s85 s86 s87 s88 s89 s90 s91 s92 s93 s94 s95 s96 s97 s98 s99 s100 s101 s102 s103 s104 s105 s106 s107 s108 s109 s110 s111 s112 s113 s114 s115 s116 s117 s118 s119 s120 s121 s122 s123 s124 s125 s126 s127 s128 s129 s130 s131 s132 s133 s134 s135 s136 s137 s138 s139 s140 s141 s142 s143 s144 s145 s146 s147 s148 s149 s150 s151 s152 s153 s154 s155 s156 s157 s158 s159 s160 s161 s162 s163 s164 s165 s166 : Value) : S144x1 k [.slice (some ⟨b, o, some 24⟩) m0 c, s1, s2, s3, i64 (nd : Int), s5, s6, s7, s8, s9, s10, s11, u32 (u : Int), s13, s14, s15, s16, s17, s18, s19, s20, s21, s22, s23, s24, s25, s26, s27, s28, s29, s30, s31, s32, s33, s34, s35, s36, s37, s38, s39, s40, s41, s42, s43, s44, s45, s46, s47, s48, s49, s50, s51, s52, s53, s54, s55, s56, s57, s58, s59, s60, s61, s62, s63, s64, s65, s66, s67, s68, s69, s70, s71, s72, s73, s74, s75, s76, s77, s78, s79, s80, s81, s82, s83, s84, s85, s86, s87, s88, s89, s90, s91, s92, s93, s94, s95, s96, s97, s98, s99, s100, s101, s102, s103, s104, s105, s106, s107, s108, s109, s110, s111, s112, s113, s114, s115, s116, s117, s118, s119, s120, s121, s122, s123, s124, s125, s126, s127, s128, s129, s130, s131, s132, s133, s134, s135, s136, s137, s138, s139, s140, s141, s142, s143, s144, s145, s146, s147, s148, s149, s150, s151, s152, s153, s154, s155, s156, s157, s158, s159, s160, s161, s162, s163, s164, s165, s166] H := by
  rw [S144x1q]
  match nd, hnd, hu, hk with
  | 0, _, hu, hk =>
    simp
    rw [show H.set b (.cells (putD o 0 u cs) T) = H from set_same hb] at hk
    exact hk
  | 1, _, hu, hk =>
    have hu' : u < 10 := by simpa using hu
    have w1 : IntKind.u32.wrap (48 + (u : Int)) = ((48 + u : Nat) : Int) := by rw [wrap32 (by omega) (by omega)]; omega
    have w2 : IntKind.u8.wrap (((48 + u : Nat) : Int)) = (((UInt8.ofNat (48 + u)).toNat : Nat) : Int) := by
      rw [wrap_u8 (by omega) (by omega)]; simp only [UInt8.toNat_ofNat']; omega
    have hix := row_at (o := o) (nd := m0) (c := c) (i := 0) hb hc (by omega)
    have hst := row_sto (i := o) (d := u) hb hc (by omega)
    simp only [show ((0 : Nat) : Int) = 0 from rfl, Nat.add_zero] at hix
    have e : putD o 1 u cs = cs.set o (dgt u) := by
      show cs.set (o + 0) (dgt (u % 10)) = _
      rw [Nat.add_zero, Nat.mod_eq_of_lt hu']
    rw [e] at hk
    simp only [show ((1 : Nat) : Int) = 1 from rfl, aBin_gtr, show decide ((1 : Int) > 0) = true from rfl, bnd_some, kifB_true, aBin_add, w1, convV_int tu50 tu5, w2, hix]
    rw [show (Value.int .u8 (((UInt8.ofNat (48 + u)).toNat : Nat) : Int)) = dgt u from rfl, hst]
    simp only [bndS_some]
    exact hk
theorem set_len {cs : List Value} {i : Nat} {v : Value} (h : cs.length = 24) : (cs.set i v).length = 24 := by simpa using h
theorem fb_two {H : AHeap} {b o nd m0 c u : Nat} {cs : List Value} {T : TypeId} {k : Value → AHeap → Prop} (hb : H[b]? = some (.cells cs T)) (hc : cs.length = 24) (ho : o + nd ≤ 24) (hnd : nd < 4) (hu : u < 10 ^ nd) (hndc : nd ≤ m0)
    (hk : k (.tuple #[]) (H.set b (.cells (putD o nd u cs) T))) (s1 s2 s3 s5 s6 s7 s8 s9 s10 s11 s13 s14 s15 s16 s17 s18 s19 s20 s21 s22 s23 s24 s25 s26 s27 s28 s29 s30 s31 s32 s33 s34 s35 s36 s37 s38 s39 s40 s41 s42 s43 s44 s45 s46 s47 s48 s49 s50 s51 s52 s53 s54 s55 s56 s57 s58 s59 s60 s61 s62 s63 s64 s65 s66 s67 s68 s69 s70 s71 s72 s73 s74 s75 s76 s77 s78 s79 s80 s81 s82 s83 s84 s85 s86 s87 s88 s89 s90 s91 s92 s93 s94 s95 s96 s97 s98 s99 s100 s101 s102 s103 s104 s105 s106 s107 s108 s109 s110 s111 s112 s113 s114 s115 s116 s117 s118 s119 s120 s121 s122 s123 s124 s125 s126 s127 s128 s129 s130 s131 s132 s133 s134 s135 s136 s137 s138 s139 s140 s141 s142 s143 s144 s145 s146 s147 s148 s149 s150 s151 s152 s153 s154 s155 s156 s157 s158 s159 s160 s161 s162 s163 s164 s165 s166 : Value) : S144x0 k [.slice (some ⟨b, o, some 24⟩) m0 c, s1, s2, s3, i64 (nd : Int), s5, s6, s7, s8, s9, s10, s11, u32 (u : Int), s13, s14, s15, s16, s17, s18, s19, s20, s21, s22, s23, s24, s25, s26, s27, s28, s29, s30, s31, s32, s33, s34, s35, s36, s37, s38, s39, s40, s41, s42, s43, s44, s45, s46, s47, s48, s49, s50, s51, s52, s53, s54, s55, s56, s57, s58, s59, s60, s61, s62, s63, s64, s65, s66, s67, s68, s69, s70, s71, s72, s73, s74, s75, s76, s77, s78, s79, s80, s81, s82, s83, s84, s85, s86, s87, s88, s89, s90, s91, s92, s93, s94, s95, s96, s97, s98, s99, s100, s101, s102, s103, s104, s105, s106, s107, s108, s109, s110, s111, s112, s113, s114, s115, s116, s117, s118, s119, s120, s121, s122, s123, s124, s125, s126, s127, s128, s129, s130, s131, s132, s133, s134, s135, s136, s137, s138, s139, s140, s141, s142, s143, s144, s145, s146, s147, s148, s149, s150, s151, s152, s153, s154, s155, s156, s157, s158, s159, s160, s161, s162, s163, s164, s165, s166] H := by
  rw [S144x0q]
  simp only [aBin_geq, bnd_some]
  have hu4 : u < 10000 := Nat.lt_of_lt_of_le hu (Nat.pow_le_pow_right (by omega) (by omega : nd ≤ 4))
  refine kifB_bool (fun hq => ?_) (fun hq => ?_)
  · obtain ⟨n, rfl⟩ : ∃ n, nd = n + 2 := ⟨nd - 2, by simp at hq; omega⟩
    have hp : u % 100 < 100 := Nat.mod_lt _ (by omega)
    have b1 := fun (H : AHeap) (X Y : Operand) => rem32 (P := Tryz.prog) (H := H) (T := 50) (x := X) (y := Y) (a := u) (n := 100) (c := 100) rfl (by omega)
    have b2 := fun (H : AHeap) (X Y : Operand) => mul32 (P := Tryz.prog) (H := H) (T := 50) (x := X) (y := Y) (a := u % 100) (by omega)
    have b3 := fun (H : AHeap) (X Y : Operand) => quo32 (P := Tryz.prog) (H := H) (T := 50) (x := X) (y := Y) (a := u) (n := 100) (c := 100) rfl (by omega) (by omega)
    have s1 := fun (H : AHeap) (X Y : Operand) => subN (P := Tryz.prog) (H := H) (T := 3) (x := X) (y := Y) (a := n + 2) (j := 1) (c := 1) rfl (by omega) (by omega)
    replace s1 : ∀ (H : AHeap) (X Y : Operand), aBin2 Tryz.prog H .sub 3 X Y (i64 ((n + 2 : Nat) : Int)) (i64 1) = some (i64 ((n + 1 : Nat) : Int)) := s1
    have s2 := fun (H : AHeap) (X Y : Operand) => subN (P := Tryz.prog) (H := H) (T := 3) (x := X) (y := Y) (a := n + 2) (j := 2) (c := 2) rfl (by omega) (by omega)
    replace s2 : ∀ (H : AHeap) (X Y : Operand), aBin2 Tryz.prog H .sub 3 X Y (i64 ((n + 2 : Nat) : Int)) (i64 2) = some (i64 ((n + 0 : Nat) : Int)) := s2
    have r0a := row_at (o := o) (nd := m0) (c := c) (i := n + 1) hb hc (by omega)
    have t0a := row_sto (i := o + (n + 1)) (d := (u % 100) % 10) hb hc (by omega)
    have g0a := set_get (y := .cells (cs.set (o + (n + 1)) (dgt ((u % 100) % 10))) T) hb
    have l0a := set_len (i := o + (n + 1)) (v := dgt ((u % 100) % 10)) hc
    have r0b := row_at (o := o) (nd := m0) (c := c) (i := n + 0) g0a l0a (by omega)
    have t0b := row_sto (i := o + (n + 0)) (d := (u % 100) / 10) g0a l0a (by omega)
    have g0b := set_get (y := .cells ((cs.set (o + (n + 1)) (dgt ((u % 100) % 10))).set (o + (n + 0)) (dgt ((u % 100) / 10))) T) g0a
    have l0b := set_len (i := o + (n + 0)) (v := dgt ((u % 100) / 10)) l0a
    have x0 := sm_ix 0 hp
    have a0 := fun (H : AHeap) (X Y : Operand) => add32 (P := Tryz.prog) (H := H) (T := 50) (x := X) (y := Y) (a := u % 100) (by omega)
    simp only [b1, b2, b3, bnd_some]
    simp only [bnd_some, s1, s2, a0, x0.1, x0.2, r0a]
    refine bndK_of ⟨rfl, t0a⟩ ⟨x0.1, s2 _ _ _, trivial⟩ ?_
    simp only [r0b, bnd_some]
    refine bndK_bar ⟨rfl, t0b⟩ ?_
    simp only [s2, bnd_some]
    have hu' : u / 100 < 10 ^ n := by rw [Nat.div_lt_iff_lt_mul (by omega)]; rw [Nat.pow_add] at hu; exact hu
    refine fb_last (nd := n) g0b l0b (by omega) (by omega) hu' (by omega) ?_ _ _ _ _ _ _ _ _ _ _ _ _ _ _ _ _ _ _ _ _ _ _ _ _ _ _ _ _ _ _ _ _ _ _ _ _ _ _ _ _ _ _ _ _ _ _ _ _ _ _ _ _ _ _ _ _ _ _ _ _ _ _ _ _ _ _ _ _ _ _ _ _ _ _ _ _ _ _ _ _ _ _ _ _ _ _ _ _ _ _ _ _ _ _ _ _ _ _ _ _ _ _ _ _ _ _ _ _ _ _ _ _ _ _ _ _ _ _ _ _ _ _ _ _ _ _ _ _ _ _ _ _ _ _ _ _ _ _ _ _ _ _ _ _ _ _ _ _ _ _ _ _ _ _ _ _ _ _ _ _ _ _ _ _
    rw [List.set_set, List.set_set]
    rw [putD_two] at hk
    exact hk
  · dsimp only
    exact fb_last hb hc (by omega) (by simp at hq; omega) hu (by omega) hk _ _ _ _ _ _ _ _ _ _ _ _ _ _ _ _ _ _ _ _ _ _ _ _ _ _ _ _ _ _ _ _ _ _ _ _ _ _ _ _ _ _ _ _ _ _ _ _ _ _ _ _ _ _ _ _ _ _ _ _ _ _ _ _ _ _ _ _ _ _ _ _ _ _ _ _ _ _ _ _ _ _ _ _ _ _ _ _ _ _ _ _ _ _ _ _ _ _ _ _ _ _ _ _ _ _ _ _ _ _ _ _ _ _ _ _ _ _ _ _ _ _ _ _ _ _ _ _ _ _ _ _ _ _ _ _ _ _ _ _ _ _ _ _ _ _ _ _ _ _ _ _ _ _ _ _ _ _ _ _ _ _ _ _
theorem putD_four {o n u : Nat} {cs : List Value} : putD o (n + 4) u cs = putD o n (u / 10000) ((((cs.set (o + (n + 3)) (dgt ((u % 10000 % 100) % 10))).set (o + (n + 2)) (dgt ((u % 10000 % 100) / 10))).set (o + (n + 1)) (dgt ((u % 10000 / 100) % 10))).set (o + (n + 0)) (dgt ((u % 10000 / 100) / 10))) := by
  rw [show n + 4 = (n + 2) + 2 from rfl, putD_two, putD_two, Nat.div_div_eq_div_mul, show u / 100 % 100 = u % 10000 / 100 by omega, show u % 10000 % 100 = u % 100 by omega]
  rfl
set_option maxRecDepth 20000 in
theorem fb_four {H : AHeap} {b o nd m0 c u : Nat} {cs : List Value} {T : TypeId} {k : Value → AHeap → Prop} (hb : H[b]? = some (.cells cs T)) (hc : cs.length = 24) (ho : o + nd ≤ 24) (hnd : nd < 8) (hu : u < 10 ^ nd) (hndc : nd ≤ m0)
    (hk : k (.tuple #[]) (H.set b (.cells (putD o nd u cs) T))) (n1 : Nat) (s2 s3 s5 s6 s7 s8 s9 s10 s11 s12 s13 s14 s15 s16 s17 s18 s19 s20 s21 s22 s23 s24 s25 s26 s27 s28 s29 s30 s31 s32 s33 s34 s35 s36 s37 s38 s39 s40 s41 s42 s43 s44 s45 s46 s47 s48 s49 s50 s51 s52 s53 s54 s55 s56 s57 s58 s59 s60 s61 s62 s63 s64 s65 s66 s67 s68 s69 s70 s71 s72 s73 s74 s75 s76 s77 s78 s79 s80 s81 s82 s83 s84 s85 s86 s87 s88 s89 s90 s91 s92 s93 s94 s95 s96 s97 s98 s99 s100 s101 s102 s103 s104 s105 s106 s107 s108 s109 s110 s111 s112 s113 s114 s115 s116 s117 s118 s119 s120 s121 s122 s123 s124 s125 s126 s127 s128 s129 s130 s131 s132 s133 s134 s135 s136 s137 s138 s139 s140 s141 s142 s143 s144 s145 s146 s147 s148 s149 s150 s151 s152 s153 s154 s155 s156 s157 s158 s159 s160 s161 s162 s163 s164 s165 s166 : Value) : L144x0 (n1 + 1) k [.slice (some ⟨b, o, some 24⟩) m0 c, u64 (u : Int), s2, s3, i64 (nd : Int), s5, s6, s7, s8, s9, s10, s11, s12, s13, s14, s15, s16, s17, s18, s19, s20, s21, s22, s23, s24, s25, s26, s27, s28, s29, s30, s31, s32, s33, s34, s35, s36, s37, s38, s39, s40, s41, s42, s43, s44, s45, s46, s47, s48, s49, s50, s51, s52, s53, s54, s55, s56, s57, s58, s59, s60, s61, s62, s63, s64, s65, s66, s67, s68, s69, s70, s71, s72, s73, s74, s75, s76, s77, s78, s79, s80, s81, s82, s83, s84, s85, s86, s87, s88, s89, s90, s91, s92, s93, s94, s95, s96, s97, s98, s99, s100, s101, s102, s103, s104, s105, s106, s107, s108, s109, s110, s111, s112, s113, s114, s115, s116, s117, s118, s119, s120, s121, s122, s123, s124, s125, s126, s127, s128, s129, s130, s131, s132, s133, s134, s135, s136, s137, s138, s139, s140, s141, s142, s143, s144, s145, s146, s147, s148, s149, s150, s151, s152, s153, s154, s155, s156, s157, s158, s159, s160, s161, s162, s163, s164, s165, s166] H := by
  rw [L144x0q]
  have hu8 : u < 100000000 := Nat.lt_of_lt_of_le hu (Nat.pow_le_pow_right (by omega) (by omega : nd ≤ 8))
  have h8 : decide ((nd : Int) ≥ 8) = false := by simp; omega
  have w0 : IntKind.u32.wrap (u : Int) = u := wrap32 (by omega) (by omega)
  simp only [aBin_geq, bnd_some, h8, kifB_false, convV_int tu178 tu50, w0]
  refine kifB_bool (fun hq => ?_) (fun hq => ?_)
  · obtain ⟨n, rfl⟩ : ∃ n, nd = n + 4 := ⟨nd - 4, by simp at hq; omega⟩
    have hp : u % 10000 % 100 < 100 := Nat.mod_lt _ (by omega)
    have hp2 : u % 10000 / 100 < 100 := by omega
    have b1 := fun (H : AHeap) (X Y : Operand) => rem32 (P := Tryz.prog) (H := H) (T := 50) (x := X) (y := Y) (a := u) (n := 10000) (c := 10000) rfl (by omega)
    have b2 := fun (H : AHeap) (X Y : Operand) => quo32 (P := Tryz.prog) (H := H) (T := 50) (x := X) (y := Y) (a := u) (n := 10000) (c := 10000) rfl (by omega) (by omega)
    have b3 := fun (H : AHeap) (X Y : Operand) => quo32 (P := Tryz.prog) (H := H) (T := 50) (x := X) (y := Y) (a := u % 10000) (n := 100) (c := 100) rfl (by omega) (by omega)
    have b4 := fun (H : AHeap) (X Y : Operand) => mul32 (P := Tryz.prog) (H := H) (T := 50) (x := X) (y := Y) (a := u % 10000 / 100) (by omega)
    have b5 := fun (H : AHeap) (X Y : Operand) => rem32 (P := Tryz.prog) (H := H) (T := 50) (x := X) (y := Y) (a := u % 10000) (n := 100) (c := 100) rfl (by omega)
    have b6 := fun (H : AHeap) (X Y : Operand) => mul32 (P := Tryz.prog) (H := H) (T := 50) (x := X) (y := Y) (a := u % 10000 % 100) (by omega)
    have s1 := fun (H : AHeap) (X Y : Operand) => subN (P := Tryz.prog) (H := H) (T := 3) (x := X) (y := Y) (a := n + 4) (j := 1) (c := 1) rfl (by omega) (by omega)
    replace s1 : ∀ (H : AHeap) (X Y : Operand), aBin2 Tryz.prog H .sub 3 X Y (i64 ((n + 4 : Nat) : Int)) (i64 1) = some (i64 ((n + 3 : Nat) : Int)) := s1
    have s2 := fun (H : AHeap) (X Y : Operand) => subN (P := Tryz.prog) (H := H) (T := 3) (x := X) (y := Y) (a := n + 4) (j := 2) (c := 2) rfl (by omega) (by omega)
    replace s2 : ∀ (H : AHeap) (X Y : Operand), aBin2 Tryz.prog H .sub 3 X Y (i64 ((n + 4 : Nat) : Int)) (i64 2) = some (i64 ((n + 2 : Nat) : Int)) := s2
    have s3 := fun (H : AHeap) (X Y : Operand) => subN (P := Tryz.prog) (H := H) (T := 3) (x := X) (y := Y) (a := n + 4) (j := 3) (c := 3) rfl (by omega) (by omega)
    replace s3 : ∀ (H : AHeap) (X Y : Operand), aBin2 Tryz.prog H .sub 3 X Y (i64 ((n + 4 : Nat) : Int)) (i64 3) = some (i64 ((n + 1 : Nat) : Int)) := s3
    have s4 := fun (H : AHeap) (X Y : Operand) => subN (P := Tryz.prog) (H := H) (T := 3) (x := X) (y := Y) (a := n + 4) (j := 4) (c := 4) rfl (by omega) (by omega)
    replace s4 : ∀ (H : AHeap) (X Y : Operand), aBin2 Tryz.prog H .sub 3 X Y (i64 ((n + 4 : Nat) : Int)) (i64 4) = some (i64 ((n + 0 : Nat) : Int)) := s4
    have r0a := row_at (o := o) (nd := m0) (c := c) (i := n + 3) hb hc (by omega)
    have t0a := row_sto (i := o + (n + 3)) (d := (u % 10000 % 100) % 10) hb hc (by omega)
    have g0a := set_get (y := .cells (cs.set (o + (n + 3)) (dgt ((u % 10000 % 100) % 10))) T) hb
    have l0a := set_len (i := o + (n + 3)) (v := dgt ((u % 10000 % 100) % 10)) hc
    have r0b := row_at (o := o) (nd := m0) (c := c) (i := n + 2) g0a l0a (by omega)
    have t0b := row_sto (i := o + (n + 2)) (d := (u % 10000 % 100) / 10) g0a l0a (by omega)
    have g0b := set_get (y := .cells ((cs.set (o + (n + 3)) (dgt ((u % 10000 % 100) % 10))).set (o + (n + 2)) (dgt ((u % 10000 % 100) / 10))) T) g0a
    have l0b := set_len (i := o + (n + 2)) (v := dgt ((u % 10000 % 100) / 10)) l0a
    have x0 := sm_ix 0 hp
    have a0 := fun (H : AHeap) (X Y : Operand) => add32 (P := Tryz.prog) (H := H) (T := 50) (x := X) (y := Y) (a := u % 10000 % 100) (by omega)
    have r1a := row_at (o := o) (nd := m0) (c := c) (i := n + 1) g0b l0b (by omega)
    have t1a := row_sto (i := o + (n + 1)) (d := (u % 10000 / 100) % 10) g0b l0b (by omega)
    have g1a := set_get (y := .cells (((cs.set (o + (n + 3)) (dgt ((u % 10000 % 100) % 10))).set (o + (n + 2)) (dgt ((u % 10000 % 100) / 10))).set (o + (n + 1)) (dgt ((u % 10000 / 100) % 10))) T) g0b
    have l1a := set_len (i := o + (n + 1)) (v := dgt ((u % 10000 / 100) % 10)) l0b
    have r1b := row_at (o := o) (nd := m0) (c := c) (i := n + 0) g1a l1a (by omega)
    have t1b := row_sto (i := o + (n + 0)) (d := (u % 10000 / 100) / 10) g1a l1a (by omega)
    have g1b := set_get (y := .cells ((((cs.set (o + (n + 3)) (dgt ((u % 10000 % 100) % 10))).set (o + (n + 2)) (dgt ((u % 10000 % 100) / 10))).set (o + (n + 1)) (dgt ((u % 10000 / 100) % 10))).set (o + (n + 0)) (dgt ((u % 10000 / 100) / 10))) T) g1a
    have l1b := set_len (i := o + (n + 0)) (v := dgt ((u % 10000 / 100) / 10)) l1a
    have x1 := sm_ix 0 hp2
    have a1 := fun (H : AHeap) (X Y : Operand) => add32 (P := Tryz.prog) (H := H) (T := 50) (x := X) (y := Y) (a := u % 10000 / 100) (by omega)
    simp only [b1, b2, b3, b4, b5, b6, bnd_some]
    simp only [bnd_some, s1, s2, a0, x0.1, x0.2, r0a]
    refine bndK_of ⟨rfl, t0a⟩ ⟨x0.1, s2 _ _ _, trivial⟩ ?_
    simp only [r0b, bnd_some]
    refine bndK_bar ⟨rfl, t0b⟩ ?_
    simp only [bnd_some, s3, s4, a1, x1.1, x1.2, r1a]
    refine bndK_of ⟨rfl, t1a⟩ ⟨x1.1, s4 _ _ _, trivial⟩ ?_
    simp only [r1b, bnd_some]
    refine bndK_bar ⟨rfl, t1b⟩ ?_
    simp only [s4, bnd_some]
    have hu' : u / 10000 < 10 ^ n := by rw [Nat.div_lt_iff_lt_mul (by omega)]; rw [Nat.pow_add] at hu; exact hu
    refine fb_two (nd := n) g1b l1b (by omega) (by omega) hu' (by omega) ?_ _ _ _ _ _ _ _ _ _ _ _ _ _ _ _ _ _ _ _ _ _ _ _ _ _ _ _ _ _ _ _ _ _ _ _ _ _ _ _ _ _ _ _ _ _ _ _ _ _ _ _ _ _ _ _ _ _ _ _ _ _ _ _ _ _ _ _ _ _ _ _ _ _ _ _ _ _ _ _ _ _ _ _ _ _ _ _ _ _ _ _ _ _ _ _ _ _ _ _ _ _ _ _ _ _ _ _ _ _ _ _ _ _ _ _ _ _ _ _ _ _ _ _ _ _ _ _ _ _ _ _ _ _ _ _ _ _ _ _ _ _ _ _ _ _ _ _ _ _ _ _ _ _ _ _ _ _ _ _ _ _ _ _ _
    rw [List.set_set, List.set_set, List.set_set, List.set_set]
    rw [putD_four] at hk
    exact hk
  · dsimp only
    exact fb_two hb hc (by omega) (by simp at hq; omega) hu (by omega) hk _ _ _ _ _ _ _ _ _ _ _ _ _ _ _ _ _ _ _ _ _ _ _ _ _ _ _ _ _ _ _ _ _ _ _ _ _ _ _ _ _ _ _ _ _ _ _ _ _ _ _ _ _ _ _ _ _ _ _ _ _ _ _ _ _ _ _ _ _ _ _ _ _ _ _ _ _ _ _ _ _ _ _ _ _ _ _ _ _ _ _ _ _ _ _ _ _ _ _ _ _ _ _ _ _ _ _ _ _ _ _ _ _ _ _ _ _ _ _ _ _ _ _ _ _ _ _ _ _ _ _ _ _ _ _ _ _ _ _ _ _ _ _ _ _ _ _ _ _ _ _ _ _ _ _ _ _ _ _ _ _ _ _ _
theorem putD_eight {o n u : Nat} {cs : List Value} : putD o (n + 8) u cs = putD o n (u / 100000000) ((((((((cs.set (o + (n + 7)) (dgt ((u % 100000000 % 10000 % 100) % 10))).set (o + (n + 6)) (dgt ((u % 100000000 % 10000 % 100) / 10))).set (o + (n + 5)) (dgt ((u % 100000000 % 10000 / 100) % 10))).set (o + (n + 4)) (dgt ((u % 100000000 % 10000 / 100) / 10))).set (o + (n + 3)) (dgt ((u % 100000000 / 10000 % 100) % 10))).set (o + (n + 2)) (dgt ((u % 100000000 / 10000 % 100) / 10))).set (o + (n + 1)) (dgt ((u % 100000000 / 10000 / 100) % 10))).set (o + (n + 0)) (dgt ((u % 100000000 / 10000 / 100) / 10))) := by
  rw [show n + 8 = (n + 4) + 4 from rfl, putD_four, putD_four, Nat.div_div_eq_div_mul, show u % 100000000 % 10000 = u % 10000 by omega, show u % 100000000 / 10000 = u / 10000 % 10000 by omega]
set_option maxRecDepth 20000 in
theorem fb_loop {b o m0 c : Nat} {T : TypeId} {k : Value → AHeap → Prop} : ∀ (f nd u : Nat) (H : AHeap) (cs : List Value), nd < 8 * f + 8 → H[b]? = some (.cells cs T) → cs.length = 24 → o + nd ≤ 24 → u < 10 ^ nd → u < 2 ^ 64 → nd ≤ m0 → k (.tuple #[]) (H.set b (.cells (putD o nd u cs) T)) →
    ∀ (s2 s3 s5 s6 s7 s8 s9 s10 s11 s12 s13 s14 s15 s16 s17 s18 s19 s20 s21 s22 s23 s24 s25 s26 s27 s28 s29 s30 s31 s32 s33 s34 s35 s36 s37 s38 s39 s40 s41 s42 s43 s44 s45 s46 s47 s48 s49 s50 s51 s52 s53 s54 s55 s56 s57 s58 s59 s60 s61 s62 s63 s64 s65 s66 s67 s68 s69 s70 s71 s72 s73 s74 s75 s76 s77 s78 s79 s80 s81 s82 s83 s84 s85 s86 s87 s88 s89 s90 s91 s92 s93 s94 s95 s96 s97 s98 s99 s100 s101 s102 s103 s104 s105 s106 s107 s108 s109 s110 s111 s112 s113 s114 s115 s116 s117 s118 s119 s120 s121 s122 s123 s124 s125 s126 s127 s128 s129 s130 s131 s132 s133 s134 s135 s136 s137 s138 s139 s140 s141 s142 s143 s144 s145 s146 s147 s148 s149 s150 s151 s152 s153 s154 s155 s156 s157 s158 s159 s160 s161 s162 s163 s164 s165 s166 : Value), L144x0 (f + 1) k [.slice (some ⟨b, o, some 24⟩) m0 c, u64 (u : Int), s2, s3, i64 (nd : Int), s5, s6, s7, s8, s9, s10, s11, s12, s13, s14, s15, s16, s17, s18, s19, s20, s21, s22, s23, s24, s25, s26, s27, s28, s29, s30, s31, s32, s33, s34, s35, s36, s37, s38, s39, s40, s41, s42, s43, s44, s45, s46, s47, s48, s49, s50, s51, s52, s53, s54, s55, s56, s57, s58, s59, s60, s61, s62, s63, s64, s65, s66, s67, s68, s69, s70, s71, s72, s73, s74, s75, s76, s77, s78, s79, s80, s81, s82, s83, s84, s85, s86, s87, s88, s89, s90, s91, s92, s93, s94, s95, s96, s97, s98, s99, s100, s101, s102, s103, s104, s105, s106, s107, s108, s109, s110, s111, s112, s113, s114, s115, s116, s117, s118, s119, s120, s121, s122, s123, s124, s125, s126, s127, s128, s129, s130, s131, s132, s133, s134, s135, s136, s137, s138, s139, s140, s141, s142, s143, s144, s145, s146, s147, s148, s149, s150, s151, s152, s153, s154, s155, s156, s157, s158, s159, s160, s161, s162, s163, s164, s165, s166] H := by
  intro f
  induction f with
  | zero => intro nd u H cs hnd hb hc ho hu _ hm hk; exact fb_four hb hc ho (by omega) hu hm hk 0
  | succ f ih =>
    intro nd u H cs hnd hb hc ho hu hu64 hm hk
    by_cases h8 : nd < 8
    · exact fb_four hb hc ho h8 hu hm hk (f + 1)
    intro s2 s3 s5 s6 s7 s8 s9 s10 s11 s12 s13 s14 s15 s16 s17 s18 s19 s20 s21 s22 s23 s24 s25 s26 s27 s28 s29 s30 s31 s32 s33 s34 s35 s36 s37 s38 s39 s40 s41 s42 s43 s44 s45 s46 s47 s48 s49 s50 s51 s52 s53 s54 s55 s56 s57 s58 s59 s60 s61 s62 s63 s64 s65 s66 s67 s68 s69 s70 s71 s72 s73 s74 s75 s76 s77 s78 s79 s80 s81 s82 s83 s84 s85 s86 s87 s88 s89 s90 s91 s92 s93 s94 s95 s96 s97 s98 s99 s100 s101 s102 s103 s104 s105 s106 s107 s108 s109 s110 s111 s112 s113 s114 s115 s116 s117 s118 s119 s120 s121 s122 s123 s124 s125 s126 s127 s128 s129 s130 s131 s132 s133 s134 s135 s136 s137 s138 s139 s140 s141 s142 s143 s144 s145 s146 s147 s148 s149 s150 s151 s152 s153 s154 s155 s156 s157 s158 s159 s160 s161 s162 s163 s164 s165 s166
    rw [L144x0q]
    obtain ⟨n, rfl⟩ : ∃ n, nd = n + 8 := ⟨nd - 8, by omega⟩
    have h8' : decide ((((n + 8 : Nat) : Int)) ≥ 8) = true := by simp; omega
    have w0 : IntKind.u32.wrap ((u % 100000000 : Nat) : Int) = ((u % 100000000 : Nat) : Int) := wrap32 (by omega) (by omega)
    have c1 := fun (H : AHeap) (X Y : Operand) => remL (P := Tryz.prog) (H := H) (T := 178) (x := X) (y := Y) (k := .u64) (a := u) (n := 100000000) (c := 100000000) rfl (by omega)
    have c2 := fun (H : AHeap) (X Y : Operand) => quoL (P := Tryz.prog) (H := H) (T := 178) (x := X) (y := Y) (k := .u64) (a := u) (n := 100000000) (c := 100000000) rfl (by omega) (wrapU (by omega) (by omega))
    simp only [aBin_geq, bnd_some, h8', kifB_true, c1, c2, convV_int tu178 tu50, w0]
    have p0 : u % 100000000 % 10000 % 100 < 100 := Nat.mod_lt _ (by omega)
    have p1 : u % 100000000 % 10000 / 100 < 100 := by omega
    have p2 : u % 100000000 / 10000 % 100 < 100 := Nat.mod_lt _ (by omega)
    have p3 : u % 100000000 / 10000 / 100 < 100 := by omega
    have b1 := fun (H : AHeap) (X Y : Operand) => quo32 (P := Tryz.prog) (H := H) (T := 50) (x := X) (y := Y) (a := u % 100000000) (n := 10000) (c := 10000) rfl (by omega) (by omega)
    have b2 := fun (H : AHeap) (X Y : Operand) => rem32 (P := Tryz.prog) (H := H) (T := 50) (x := X) (y := Y) (a := u % 100000000) (n := 10000) (c := 10000) rfl (by omega)
    have b3 := fun (H : AHeap) (X Y : Operand) => quo32 (P := Tryz.prog) (H := H) (T := 50) (x := X) (y := Y) (a := u % 100000000 % 10000) (n := 100) (c := 100) rfl (by omega) (by omega)
    have b4 := fun (H : AHeap) (X Y : Operand) => mul32 (P := Tryz.prog) (H := H) (T := 50) (x := X) (y := Y) (a := u % 100000000 % 10000 / 100) (by omega)
    have b5 := fun (H : AHeap) (X Y : Operand) => rem32 (P := Tryz.prog) (H := H) (T := 50) (x := X) (y := Y) (a := u % 100000000 % 10000) (n := 100) (c := 100) rfl (by omega)
    have b6 := fun (H : AHeap) (X Y : Operand) => mul32 (P := Tryz.prog) (H := H) (T := 50) (x := X) (y := Y) (a := u % 100000000 % 10000 % 100) (by omega)
    have b7 := fun (H : AHeap) (X Y : Operand) => quo32 (P := Tryz.prog) (H := H) (T := 50) (x := X) (y := Y) (a := u % 100000000 / 10000) (n := 100) (c := 100) rfl (by omega) (by omega)
    have b8 := fun (H : AHeap) (X Y : Operand) => mul32 (P := Tryz.prog) (H := H) (T := 50) (x := X) (y := Y) (a := u % 100000000 / 10000 / 100) (by omega)
    have b9 := fun (H : AHeap) (X Y : Operand) => rem32 (P := Tryz.prog) (H := H) (T := 50) (x := X) (y := Y) (a := u % 100000000 / 10000) (n := 100) (c := 100) rfl (by omega)
    have ba := fun (H : AHeap) (X Y : Operand) => mul32 (P := Tryz.prog) (H := H) (T := 50) (x := X) (y := Y) (a := u % 100000000 / 10000 % 100) (by omega)
    have s1 := fun (H : AHeap) (X Y : Operand) => subN (P := Tryz.prog) (H := H) (T := 3) (x := X) (y := Y) (a := n + 8) (j := 1) (c := 1) rfl (by omega) (by omega)
    replace s1 : ∀ (H : AHeap) (X Y : Operand), aBin2 Tryz.prog H .sub 3 X Y (i64 ((n + 8 : Nat) : Int)) (i64 1) = some (i64 ((n + 7 : Nat) : Int)) := s1
    have s2 := fun (H : AHeap) (X Y : Operand) => subN (P := Tryz.prog) (H := H) (T := 3) (x := X) (y := Y) (a := n + 8) (j := 2) (c := 2) rfl (by omega) (by omega)
    replace s2 : ∀ (H : AHeap) (X Y : Operand), aBin2 Tryz.prog H .sub 3 X Y (i64 ((n + 8 : Nat) : Int)) (i64 2) = some (i64 ((n + 6 : Nat) : Int)) := s2
    have s3 := fun (H : AHeap) (X Y : Operand) => subN (P := Tryz.prog) (H := H) (T := 3) (x := X) (y := Y) (a := n + 8) (j := 3) (c := 3) rfl (by omega) (by omega)
    replace s3 : ∀ (H : AHeap) (X Y : Operand), aBin2 Tryz.prog H .sub 3 X Y (i64 ((n + 8 : Nat) : Int)) (i64 3) = some (i64 ((n + 5 : Nat) : Int)) := s3
    have s4 := fun (H : AHeap) (X Y : Operand) => subN (P := Tryz.prog) (H := H) (T := 3) (x := X) (y := Y) (a := n + 8) (j := 4) (c := 4) rfl (by omega) (by omega)
    replace s4 : ∀ (H : AHeap) (X Y : Operand), aBin2 Tryz.prog H .sub 3 X Y (i64 ((n + 8 : Nat) : Int)) (i64 4) = some (i64 ((n + 4 : Nat) : Int)) := s4
    have s5 := fun (H : AHeap) (X Y : Operand) => subN (P := Tryz.prog) (H := H) (T := 3) (x := X) (y := Y) (a := n + 8) (j := 5) (c := 5) rfl (by omega) (by omega)
    replace s5 : ∀ (H : AHeap) (X Y : Operand), aBin2 Tryz.prog H .sub 3 X Y (i64 ((n + 8 : Nat) : Int)) (i64 5) = some (i64 ((n + 3 : Nat) : Int)) := s5
    have s6 := fun (H : AHeap) (X Y : Operand) => subN (P := Tryz.prog) (H := H) (T := 3) (x := X) (y := Y) (a := n + 8) (j := 6) (c := 6) rfl (by omega) (by omega)
    replace s6 : ∀ (H : AHeap) (X Y : Operand), aBin2 Tryz.prog H .sub 3 X Y (i64 ((n + 8 : Nat) : Int)) (i64 6) = some (i64 ((n + 2 : Nat) : Int)) := s6
    have s7 := fun (H : AHeap) (X Y : Operand) => subN (P := Tryz.prog) (H := H) (T := 3) (x := X) (y := Y) (a := n + 8) (j := 7) (c := 7) rfl (by omega) (by omega)
    replace s7 : ∀ (H : AHeap) (X Y : Operand), aBin2 Tryz.prog H .sub 3 X Y (i64 ((n + 8 : Nat) : Int)) (i64 7) = some (i64 ((n + 1 : Nat) : Int)) := s7
    have s8 := fun (H : AHeap) (X Y : Operand) => subN (P := Tryz.prog) (H := H) (T := 3) (x := X) (y := Y) (a := n + 8) (j := 8) (c := 8) rfl (by omega) (by omega)
    replace s8 : ∀ (H : AHeap) (X Y : Operand), aBin2 Tryz.prog H .sub 3 X Y (i64 ((n + 8 : Nat) : Int)) (i64 8) = some (i64 ((n + 0 : Nat) : Int)) := s8
    have r0a := row_at (o := o) (nd := m0) (c := c) (i := n + 7) hb hc (by omega)
    have t0a := row_sto (i := o + (n + 7)) (d := (u % 100000000 % 10000 % 100) % 10) hb hc (by omega)
    have g0a := set_get (y := .cells (cs.set (o + (n + 7)) (dgt ((u % 100000000 % 10000 % 100) % 10))) T) hb
    have l0a := set_len (i := o + (n + 7)) (v := dgt ((u % 100000000 % 10000 % 100) % 10)) hc
    have r0b := row_at (o := o) (nd := m0) (c := c) (i := n + 6) g0a l0a (by omega)
    have t0b := row_sto (i := o + (n + 6)) (d := (u % 100000000 % 10000 % 100) / 10) g0a l0a (by omega)
    have g0b := set_get (y := .cells ((cs.set (o + (n + 7)) (dgt ((u % 100000000 % 10000 % 100) % 10))).set (o + (n + 6)) (dgt ((u % 100000000 % 10000 % 100) / 10))) T) g0a
    have l0b := set_len (i := o + (n + 6)) (v := dgt ((u % 100000000 % 10000 % 100) / 10)) l0a
    have x0 := sm_ix 0 p0
    have a0 := fun (H : AHeap) (X Y : Operand) => add32 (P := Tryz.prog) (H := H) (T := 50) (x := X) (y := Y) (a := u % 100000000 % 10000 % 100) (by omega)
    have r1a := row_at (o := o) (nd := m0) (c := c) (i := n + 5) g0b l0b (by omega)
    have t1a := row_sto (i := o + (n + 5)) (d := (u % 100000000 % 10000 / 100) % 10) g0b l0b (by omega)
    have g1a := set_get (y := .cells (((cs.set (o + (n + 7)) (dgt ((u % 100000000 % 10000 % 100) % 10))).set (o + (n + 6)) (dgt ((u % 100000000 % 10000 % 100) / 10))).set (o + (n + 5)) (dgt ((u % 100000000 % 10000 / 100) % 10))) T) g0b
    have l1a := set_len (i := o + (n + 5)) (v := dgt ((u % 100000000 % 10000 / 100) % 10)) l0b
    have r1b := row_at (o := o) (nd := m0) (c := c) (i := n + 4) g1a l1a (by omega)
    have t1b := row_sto (i := o + (n + 4)) (d := (u % 100000000 % 10000 / 100) / 10) g1a l1a (by omega)
    have g1b := set_get (y := .cells ((((cs.set (o + (n + 7)) (dgt ((u % 100000000 % 10000 % 100) % 10))).set (o + (n + 6)) (dgt ((u % 100000000 % 10000 % 100) / 10))).set (o + (n + 5)) (dgt ((u % 100000000 % 10000 / 100) % 10))).set (o + (n + 4)) (dgt ((u % 100000000 % 10000 / 100) / 10))) T) g1a
    have l1b := set_len (i := o + (n + 4)) (v := dgt ((u % 100000000 % 10000 / 100) / 10)) l1a
    have x1 := sm_ix 0 p1
    have a1 := fun (H : AHeap) (X Y : Operand) => add32 (P := Tryz.prog) (H := H) (T := 50) (x := X) (y := Y) (a := u % 100000000 % 10000 / 100) (by omega)
    have r2a := row_at (o := o) (nd := m0) (c := c) (i := n + 3) g1b l1b (by omega)
    have t2a := row_sto (i := o + (n + 3)) (d := (u % 100000000 / 10000 % 100) % 10) g1b l1b (by omega)
    have g2a := set_get (y := .cells (((((cs.set (o + (n + 7)) (dgt ((u % 100000000 % 10000 % 100) % 10))).set (o + (n + 6)) (dgt ((u % 100000000 % 10000 % 100) / 10))).set (o + (n + 5)) (dgt ((u % 100000000 % 10000 / 100) % 10))).set (o + (n + 4)) (dgt ((u % 100000000 % 10000 / 100) / 10))).set (o + (n + 3)) (dgt ((u % 100000000 / 10000 % 100) % 10))) T) g1b
    have l2a := set_len (i := o + (n + 3)) (v := dgt ((u % 100000000 / 10000 % 100) % 10)) l1b
    have r2b := row_at (o := o) (nd := m0) (c := c) (i := n + 2) g2a l2a (by omega)
    have t2b := row_sto (i := o + (n + 2)) (d := (u % 100000000 / 10000 % 100) / 10) g2a l2a (by omega)
    have g2b := set_get (y := .cells ((((((cs.set (o + (n + 7)) (dgt ((u % 100000000 % 10000 % 100) % 10))).set (o + (n + 6)) (dgt ((u % 100000000 % 10000 % 100) / 10))).set (o + (n + 5)) (dgt ((u % 100000000 % 10000 / 100) % 10))).set (o + (n + 4)) (dgt ((u % 100000000 % 10000 / 100) / 10))).set (o + (n + 3)) (dgt ((u % 100000000 / 10000 % 100) % 10))).set (o + (n + 2)) (dgt ((u % 100000000 / 10000 % 100) / 10))) T) g2a
    have l2b := set_len (i := o + (n + 2)) (v := dgt ((u % 100000000 / 10000 % 100) / 10)) l2a
    have x2 := sm_ix 0 p2
    have a2 := fun (H : AHeap) (X Y : Operand) => add32 (P := Tryz.prog) (H := H) (T := 50) (x := X) (y := Y) (a := u % 100000000 / 10000 % 100) (by omega)
    have r3a := row_at (o := o) (nd := m0) (c := c) (i := n + 1) g2b l2b (by omega)
    have t3a := row_sto (i := o + (n + 1)) (d := (u % 100000000 / 10000 / 100) % 10) g2b l2b (by omega)
    have g3a := set_get (y := .cells (((((((cs.set (o + (n + 7)) (dgt ((u % 100000000 % 10000 % 100) % 10))).set (o + (n + 6)) (dgt ((u % 100000000 % 10000 % 100) / 10))).set (o + (n + 5)) (dgt ((u % 100000000 % 10000 / 100) % 10))).set (o + (n + 4)) (dgt ((u % 100000000 % 10000 / 100) / 10))).set (o + (n + 3)) (dgt ((u % 100000000 / 10000 % 100) % 10))).set (o + (n + 2)) (dgt ((u % 100000000 / 10000 % 100) / 10))).set (o + (n + 1)) (dgt ((u % 100000000 / 10000 / 100) % 10))) T) g2b
    have l3a := set_len (i := o + (n + 1)) (v := dgt ((u % 100000000 / 10000 / 100) % 10)) l2b
    have r3b := row_at (o := o) (nd := m0) (c := c) (i := n + 0) g3a l3a (by omega)
    have t3b := row_sto (i := o + (n + 0)) (d := (u % 100000000 / 10000 / 100) / 10) g3a l3a (by omega)
    have g3b := set_get (y := .cells ((((((((cs.set (o + (n + 7)) (dgt ((u % 100000000 % 10000 % 100) % 10))).set (o + (n + 6)) (dgt ((u % 100000000 % 10000 % 100) / 10))).set (o + (n + 5)) (dgt ((u % 100000000 % 10000 / 100) % 10))).set (o + (n + 4)) (dgt ((u % 100000000 % 10000 / 100) / 10))).set (o + (n + 3)) (dgt ((u % 100000000 / 10000 % 100) % 10))).set (o + (n + 2)) (dgt ((u % 100000000 / 10000 % 100) / 10))).set (o + (n + 1)) (dgt ((u % 100000000 / 10000 / 100) % 10))).set (o + (n + 0)) (dgt ((u % 100000000 / 10000 / 100) / 10))) T) g3a
    have l3b := set_len (i := o + (n + 0)) (v := dgt ((u % 100000000 / 10000 / 100) / 10)) l3a
    have x3 := sm_ix 0 p3
    have a3 := fun (H : AHeap) (X Y : Operand) => add32 (P := Tryz.prog) (H := H) (T := 50) (x := X) (y := Y) (a := u % 100000000 / 10000 / 100) (by omega)
    simp only [b1, b2, b3, b4, b5, b6, b7, b8, b9, ba, bnd_some]
    simp only [bnd_some, s1, s2, a0, x0.1, x0.2, r0a]
    refine bndK_of ⟨rfl, t0a⟩ ⟨x0.1, s2 _ _ _, trivial⟩ ?_
    simp only [r0b, bnd_some]
    refine bndK_bar ⟨rfl, t0b⟩ ?_
    simp only [bnd_some, s3, s4, a1, x1.1, x1.2, r1a]
    refine bndK_of ⟨rfl, t1a⟩ ⟨x1.1, s4 _ _ _, trivial⟩ ?_
    simp only [r1b, bnd_some]
    refine bndK_bar ⟨rfl, t1b⟩ ?_
    simp only [bnd_some, s5, s6, a2, x2.1, x2.2, r2a]
    refine bndK_of ⟨rfl, t2a⟩ ⟨x2.1, s6 _ _ _, trivial⟩ ?_
    simp only [r2b, bnd_some]
    refine bndK_bar ⟨rfl, t2b⟩ ?_
    simp only [bnd_some, s7, s8, a3, x3.1, x3.2, r3a]
    refine bndK_of ⟨rfl, t3a⟩ ⟨x3.1, s8 _ _ _, trivial⟩ ?_
    simp only [r3b, bnd_some]
    refine bndK_bar ⟨rfl, t3b⟩ ?_
    simp only [s8, bnd_some]
    have hu' : u / 100000000 < 10 ^ n := by rw [Nat.div_lt_iff_lt_mul (by omega)]; rw [Nat.pow_add] at hu; exact hu
    refine ih n (u / 100000000) _ _ (by omega) g3b l3b (by omega) hu' (by omega) (by omega) ?_ _ _ _ _ _ _ _ _ _ _ _ _ _ _ _ _ _ _ _ _ _ _ _ _ _ _ _ _ _ _ _ _ _ _ _ _ _ _ _ _ _ _ _ _ _ _ _ _ _ _ _ _ _ _ _ _ _ _ _ _ _ _ _ _ _ _ _ _ _ _ _ _ _ _ _ _ _ _ _ _ _ _ _ _ _ _ _ _ _ _ _ _ _ _ _ _ _ _ _ _ _ _ _ _ _ _ _ _ _ _ _ _ _ _ _ _ _ _ _ _ _ _ _ _ _ _ _ _ _ _ _ _ _ _ _ _ _ _ _ _ _ _ _ _ _ _ _ _ _ _ _ _ _ _ _ _ _ _ _ _ _ _ _ _
    rw [List.set_set, List.set_set, List.set_set, List.set_set, List.set_set, List.set_set, List.set_set, List.set_set]
    rw [putD_eight] at hk
    exact hk
theorem c_formatBase10 {H : AHeap} {b o nd c u : Nat} {cs : List Value} {T : TypeId} (hb : H[b]? = some (.cells cs T)) (hc : cs.length = 24) (ho : o + nd ≤ 24) (hu : u < 10 ^ nd) (hu64 : u < 2 ^ 64) :
    ACalls Tryz.prog 144 [.slice (some ⟨b, o, some 24⟩) nd c, u64 (u : Int)] H (.tuple #[]) (H.set b (.cells (putD o nd u cs) T)) := by
  refine acallsKo MixT Tryz.func144 (by decide) ?_
  rw [d144]
  simp
  exact ⟨3 + 1, fb_loop 3 nd u H cs (by omega) hb hc ho hu hu64 (Nat.le_refl _) ⟨rfl, rfl⟩ _ _ _ _ _ _ _ _ _ _ _ _ _ _ _ _ _ _ _ _ _ _ _ _ _ _ _ _ _ _ _ _ _ _ _ _ _ _ _ _ _ _ _ _ _ _ _ _ _ _ _ _ _ _ _ _ _ _ _ _ _ _ _ _ _ _ _ _ _ _ _ _ _ _ _ _ _ _ _ _ _ _ _ _ _ _ _ _ _ _ _ _ _ _ _ _ _ _ _ _ _ _ _ _ _ _ _ _ _ _ _ _ _ _ _ _ _ _ _ _ _ _ _ _ _ _ _ _ _ _ _ _ _ _ _ _ _ _ _ _ _ _ _ _ _ _ _ _ _ _ _ _ _ _ _ _ _ _ _ _ _ _ _ _⟩
end Go.Vi
namespace Go.Vi
open Go Go.Proofs

def digs : Nat → Nat → List UInt8
  | 0, _ => []
  | n + 1, u => digs n (u / 10) ++ [UInt8.ofNat (48 + u % 10)]
theorem digs_len : ∀ (n u : Nat), (digs n u).length = n := by
  intro n
  induction n with
  | zero => intro u; rfl
  | succ n ih => intro u; rw [digs]; simp [ih]
theorem putD_eq : ∀ (n o u : Nat) (cs : List Value), o + n ≤ cs.length → putD o n u cs = cs.take o ++ bcells (digs n u) ++ cs.drop (o + n) := by
  intro n
  induction n with
  | zero => intro o u cs _; simp [putD, digs, bcells]
  | succ n ih =>
    intro o u cs h
    rw [putD, ih _ _ _ (by simp; omega), digs]
    have e1 : (cs.set (o + n) (dgt (u % 10))).take o = cs.take o := by
      rw [List.take_set_of_le (by omega)]
    have e2 : (cs.set (o + n) (dgt (u % 10))).drop (o + n) = dgt (u % 10) :: cs.drop (o + (n + 1)) := by
      rw [List.drop_eq_getElem_cons (by simp; omega), List.getElem_set_self, List.drop_set_of_lt (by omega)]
      rfl
    rw [e1, e2]
    simp [bcells, dgt]
def natS (n : Nat) : List UInt8 := if n = 0 then [48] else digs (ndig n) n
def fmtS (x : Int) : List UInt8 := if x < 0 then 45 :: natS x.natAbs else natS x.natAbs
theorem small_txt : (∀ n : Nat, n < 10 → dgS.extract n (n + 1) = ⟨(natS n).toArray⟩) ∧ (∀ n : Nat, n < 100 → 10 ≤ n → smS.extract (2 * n) (2 * n + 2) = ⟨(natS n).toArray⟩) := by
  constructor <;> decide +kernel
theorem convBytes {H : AHeap} {b o n c : Nat} {cs : List Value} {l : List UInt8} (hb : hcells H b = some cs) (hcs : (cs.drop o).take n = bcells l) (_hn : n = l.length) (hle : o + n ≤ cs.length) :
    convV Tryz.prog H 55 9 (.slice (some ⟨b, o, some cs.length⟩) n c) = some (str l) := by
  have hu : ∀ l : List UInt8, u8s (bcells l) = some (l.map fun b => (b.toNat : Int)) := by
    intro l
    induction l with
    | nil => rfl
    | cons x r ih => simp only [bcells, List.map_cons, u8s]; simp only [bcells] at ih; rw [ih]; rfl
  have hs : ∀ l : List UInt8, strOfNums (l.map fun b => (b.toNat : Int)) = ⟨l.toArray⟩ := by
    intro l
    unfold strOfNums
    simp
    exact (List.map_congr_left fun b _ => by simp).trans (List.map_id _)
  simp [convV, aConv, hb, hle, hcs, hu, hs, isU8]
theorem wrapN {x : Int} (h1 : -9223372036854775808 ≤ x) (h2 : x < 0) : IntKind.u64.wrap (0 - IntKind.u64.wrap x) = x.natAbs := by
  have : IntKind.u64.wrap x = x + 18446744073709551616 := by
    unfold IntKind.wrap
    simp [IntKind.bits, IntKind.signed]
    omega
  rw [this]
  unfold IntKind.wrap
  simp [IntKind.bits, IntKind.signed]
  omega
theorem cellFx {M : AHeap} {b : Nat} {cs : List Value} {T : TypeId} (h : M[b]? = some (.cells cs T)) : hcells M b = some cs ∧ hlen M b = some cs.length := by
  have : hcells M b = some cs := by rw [hcells_eq, h]; rfl
  exact ⟨this, hcells_len this⟩
set_option maxRecDepth 20000 in
theorem c_small {H : AHeap} {n : Nat} (hn : n < 100) : ACalls Tryz.prog 142 [i64 n] H (str (natS n)) H := by
  refine acalls_pure MixT Tryz.func142 (by decide) rfl ?_
  rw [d142]
  have w1 : IntKind.i64.wrap ((n : Int) * 2) = 2 * (n : Int) := by rw [wrap_i64 (by omega) (by omega)]; omega
  have w2 : IntKind.i64.wrap (2 * (n : Int) + 2) = 2 * (n : Int) + 2 := wrap_i64 (by omega) (by omega)
  have hu : Tryz.prog.underlying 9 = some .string := by simp
  have z1 : 10 ≤ dgS.size := by decide +kernel
  have z2 : smS.size = 200 := by decide +kernel
  by_cases h : n < 10
  · have hI : (n : Int) < 10 := by omega
    have hs : aSliceOp Tryz.prog H 9 (.string dgS) (some (i64 n)) (some (i64 ((n : Int) + 1))) = some (str (natS n)) := by
      simp only [aSliceOp, hu, aLow, aHigh]
      rw [if_pos ⟨by omega, by omega, by omega⟩]
      have e1 : ((n : Int) + 1).toNat = n + 1 := by omega
      simp only [Int.toNat_natCast, e1, small_txt.1 n h]
    simp [hI, show n + 1 < 2 ^ 63 by omega, hs]
  · have hI : ¬ (n : Int) < 10 := by omega
    have hs : aSliceOp Tryz.prog H 9 (.string smS) (some (i64 (2 * (n : Int)))) (some (i64 (2 * (n : Int) + 2))) = some (str (natS n)) := by
      simp only [aSliceOp, hu, aLow, aHigh, z2]
      rw [if_pos ⟨by omega, by omega, by omega⟩]
      have e1 : (2 * (n : Int) + 2).toNat = 2 * n + 2 := by omega
      have e2 : (2 * (n : Int)).toNat = 2 * n := by omega
      simp only [e1, e2, small_txt.2 n hn (by omega)]
    simp [hI, w1, w2, hs]
theorem slice_arr {H : AHeap} {b m n : Nat} {e : TypeId} {T : TypeId} {lo hi : Option Value} {l h : Nat} (hu : Tryz.prog.underlying T = some (.array n e)) (hs : tsize Tryz.prog e = some 1) (hb : hlen H b = some m) (h1 : aLow lo = some (l : Int)) (h2 : aHigh n hi = some (h : Int)) (h3 : l ≤ h) (h4 : h ≤ n) :
    aSliceOp Tryz.prog H T (.pointer (some ⟨b, 0, some m⟩)) lo hi = some (.slice (some ⟨b, l, some m⟩) (h - l) (n - l)) := by
  simp only [aSliceOp, hu, h1, h2, hs, hb]
  rw [if_pos ⟨trivial, by omega, by omega, by omega⟩]
  have e1 : ((h : Int) - l).toNat = h - l := by omega
  simp [e1]
theorem take_neg {D r : List Value} {z v : Value} {n : Nat} (h : D.length = n) : ((((z :: D) ++ r).set 0 v).drop 0).take (1 + n) = v :: D := by
  subst h
  simp [Nat.add_comm 1]
theorem take_pos {D r : List Value} {z : Value} {n : Nat} (h : D.length = n) : (((z :: D) ++ r).drop 1).take n = D := by
  subst h
  simp
theorem fi_tail {H K : AHeap} {b : Nat} {x : Int} {k : Value → AHeap → Prop} (hg : Pre Gs K) (hb : K[b]? = some (.cells (List.replicate 24 (.int .u8 0)) 177)) (hbH : H.length ≤ b) (hp : Pre H K) (h0 : x ≠ 0) (h1 : -9223372036854775808 ≤ x) (h2 : x < 9223372036854775808)
    (hk : ∀ K, Pre H K → k (str (fmtS x)) K) (s1 s2 s3 s4 s7 s8 s9 s10 s11 s12 s13 s14 s15 s16 s17 s18 s19 s20 s21 s22 s23 s24 s25 s26 s27 s28 s29 s30 s31 s32 s33 s34 s35 s36 s37 s38 s39 s40 s41 s42 s43 s44 s45 s46 s47 s48 s49 s50 s51 s52 s53 : Value) : S118x0 k [i64 x, s1, s2, s3, s4, .pointer (some ⟨b, 0, some 24⟩), u64 (x.natAbs : Int), s7, s8, s9, s10, s11, s12, s13, s14, s15, s16, s17, s18, s19, s20, s21, s22, s23, s24, s25, s26, s27, s28, s29, s30, s31, s32, s33, s34, s35, s36, s37, s38, s39, s40, s41, s42, s43, s44, s45, s46, s47, s48, s49, s50, s51, s52, s53] K := by
  have hu0 : 0 < x.natAbs := by omega
  have hu1 : x.natAbs < 2 ^ 64 := by omega
  obtain ⟨n1, n2, n3, n4⟩ := ndig_ok hu0 hu1
  generalize hnd : ndig x.natAbs = nd at n1 n2 n3 n4
  rw [S118x0q]
  refine bndC_of (c_numDigits hg hu0 hu1) ?_
  rw [hnd]
  have hl : hlen K b = some 24 := (cellFx hb).2.trans (by simp)
  have s1 : ∀ K, hlen K b = some 24 → aSliceOp Tryz.prog K 177 (.pointer (some ⟨b, 0, some 24⟩)) (some (i64 1)) (some (i64 (1 + (nd : Int)))) = some (.slice (some ⟨b, 1, some 24⟩) nd 23) := fun K hl => by
    have := slice_arr (H := K) (T := 177) (n := 24) (e := 5) (lo := some (i64 1)) (hi := some (i64 (1 + (nd : Int)))) (l := 1) (h := 1 + nd) (by simp) (by simp) hl rfl (by simp [aHigh]) (by omega) (by omega)
    simpa using this
  have w1 : IntKind.i64.wrap (1 + (nd : Int)) = 1 + (nd : Int) := wrap_i64 (by omega) (by omega)
  simp [w1, s1 K hl]
  have hfb := c_formatBase10 (H := K) (b := b) (o := 1) (nd := nd) (c := 23) (u := x.natAbs) hb (by simp) (by omega) n3 hu1
  refine bndC_of hfb ?_
  have hput := putD_eq nd 1 x.natAbs (List.replicate 24 (.int .u8 0)) (by simp; omega)
  have hlen := putD_len nd 1 x.natAbs (List.replicate 24 (.int .u8 0))
  rw [List.length_replicate] at hlen
  have hfm : natS x.natAbs = digs nd x.natAbs := by unfold natS; rw [if_neg (by omega), hnd]
  have hdl := digs_len nd x.natAbs
  have hput' : putD 1 nd x.natAbs (List.replicate 24 (.int .u8 0)) = (Value.int .u8 0 :: bcells (digs nd x.natAbs)) ++ (List.replicate 24 (.int .u8 0)).drop (1 + nd) := by rw [hput]; rfl
  clear hput
  have hbl : b < K.length := (List.getElem?_eq_some_iff.1 hb).1
  generalize putD 1 nd x.natAbs (List.replicate 24 (.int .u8 0)) = cs at hput' hlen
  have hM : (K.set b (.cells cs 177))[b]? = some (.cells cs 177) := List.getElem?_set_self hbl
  have hpM : Pre H (K.set b (.cells cs 177)) := hp.set hbH
  dsimp only
  generalize K.set b (.cells cs 177) = M at hM hpM ⊢
  obtain ⟨m1, m2⟩ := cellFx hM
  rw [hlen] at m2
  by_cases hx : x < 0
  · have hf : fmtS x = 45 :: digs nd x.natAbs := by unfold fmtS; rw [if_pos hx, hfm]
    have ha := aIndexAddr_arr (P := Tryz.prog) (H := M) (T := 177) (n := 24) (e := 5) (b := b) (o := 0) (m := 24) (z := 1) (k := .i64) (i := 0) (by simp) (by simp) m2 (by omega) (by omega)
    simp at ha
    simp [hx, ha, hM, hlen]
    have hN : (M.set b (.cells (cs.set 0 (.int .u8 45)) 177))[b]? = some (.cells (cs.set 0 (.int .u8 45)) 177) := List.getElem?_set_self (List.getElem?_eq_some_iff.1 hM).1
    have hpN : Pre H (M.set b (.cells (cs.set 0 (.int .u8 45)) 177)) := hpM.set hbH
    generalize M.set b (.cells (cs.set 0 (.int .u8 45)) 177) = N at hN hpN ⊢
    obtain ⟨m3, m4⟩ := cellFx hN
    rw [List.length_set, hlen] at m4
    have s2 := slice_arr (H := N) (T := 177) (n := 24) (e := 5) (lo := none) (hi := some (i64 (1 + (nd : Int)))) (l := 0) (h := 1 + nd) (by simp) (by simp) m4 rfl (by simp [aHigh]) (by omega) (by omega)
    have c2 := convBytes (c := 24) m3 (o := 0) (n := 1 + nd) (l := fmtS x) (by rw [hf, hput']; exact take_neg (by simp [bcells, hdl])) (by rw [hf]; simp [hdl]; omega) (by simp [hlen]; omega)
    simp [hlen] at s2 c2
    simp [w1, s2, c2]
    exact hk N hpN
  · have hf : fmtS x = digs nd x.natAbs := by unfold fmtS; rw [if_neg hx, hfm]
    have c2 := convBytes (c := 23) m1 (o := 1) (n := nd) (l := fmtS x) (by rw [hf, hput']; exact take_pos (by simp [bcells, hdl])) (by rw [hf, hdl]) (by omega)
    rw [hlen] at c2
    simp [hx, w1, s1 M m2, c2]
    exact hk M hpM
theorem c_formatInt0 {H : AHeap} (hg : Pre Gs H) {x : Int} (h1 : -9223372036854775808 ≤ x) (h2 : x < 9223372036854775808) : ACalls Tryz.prog 118 [i64 x, i64 10] H (str (fmtS x)) H := by
  refine acalls_pure MixT Tryz.func118 (by decide) rfl ?_
  rw [d118]
  by_cases hs : 0 ≤ x ∧ x < 100
  · obtain ⟨n, rfl⟩ : ∃ n : Nat, x = n := ⟨x.toNat, by omega⟩
    have hf : fmtS (n : Int) = natS n := by unfold fmtS; rw [if_neg (by omega)]; rfl
    simp [hs]
    refine bndC_of (c_small (by omega)) ?_
    rw [hf]
    exact ⟨rfl, [], by simp⟩
  · have h0 : x ≠ 0 := by omega
    have hb : (H ++ [AObj.cells (List.replicate 24 (.int .u8 0)) 177])[H.length]? = some (.cells (List.replicate 24 (.int .u8 0)) 177) := by simp
    by_cases hx : x < 0
    · have hx0 : ¬ 0 ≤ x := by omega
      have hw := wrapN h1 hx
      simp [hx, hx0] at hw ⊢
      simp only [hw]
      exact fi_tail (H := H) (b := H.length) (x := x) (k := fun u H2 => u = str (fmtS x) ∧ ∃ X, H2 = H ++ X) (hg.more _) hb (Nat.le_refl _) (.app _ _) h0 h1 h2 (fun K p => ⟨rfl, p⟩) _ _ _ _ _ _ _ _ _ _ _ _ _ _ _ _ _ _ _ _ _ _ _ _ _ _ _ _ _ _ _ _ _ _ _ _ _ _ _ _ _ _ _ _ _ _ _ _ _ _ _
    · have hx0 : 0 ≤ x := by omega
      have hx1 : ¬ x < 100 := by omega
      have hw : IntKind.u64.wrap x = x.natAbs := by rw [wrapU hx0 (by omega)]; omega
      simp [hx, hx0, hx1, hw]
      exact fi_tail (H := H) (b := H.length) (x := x) (k := fun u H2 => u = str (fmtS x) ∧ ∃ X, H2 = H ++ X) (hg.more _) hb (Nat.le_refl _) (.app _ _) h0 h1 h2 (fun K p => ⟨rfl, p⟩) _ _ _ _ _ _ _ _ _ _ _ _ _ _ _ _ _ _ _ _ _ _ _ _ _ _ _ _ _ _ _ _ _ _ _ _ _ _ _ _ _ _ _ _ _ _ _ _ _ _ _
theorem c_formatInt {H : AHeap} (hg : Pre Gs H) {x : Int} (h1 : -9223372036854775808 ≤ x) (h2 : x < 9223372036854775808) : ACalls Tryz.prog 113 [i64 x, i64 10] H (str (fmtS x)) H := by
  refine acalls_pure MixT Tryz.func113 (by decide) rfl ?_
  rw [d113]
  exact bndC_of (c_formatInt0 hg h1 h2) ⟨rfl, [], by simp⟩
end Go.Vi
namespace Go.Vi
open Go Go.Proofs

theorem c_itoa0 {H : AHeap} (hg : Pre Gs H) {x : Int} (h1 : -9223372036854775808 ≤ x) (h2 : x < 9223372036854775808) : ACalls Tryz.prog 81 [i64 x] H (str (fmtS x)) H := by
  refine acalls_pure MixT Tryz.func81 (by decide) rfl ?_
  rw [d81]
  exact bndC_of (c_formatInt0 hg h1 h2) ⟨rfl, [], by simp⟩
theorem c_itoa {H : AHeap} (hg : Pre Gs H) {x : Int} (h1 : -9223372036854775808 ≤ x) (h2 : x < 9223372036854775808) : ACalls Tryz.prog 47 [i64 x] H (str (fmtS x)) H := by
  refine acalls_pure MixT Tryz.func47 (by decide) rfl ?_
  rw [d47]
  exact bndC_of (c_itoa0 hg h1 h2) ⟨rfl, [], by simp⟩
def trimR (b : UInt8) : List UInt8 → List UInt8
  | [] => []
  | x :: r => match trimR b r with
    | [] => if x = b then [] else [x]
    | y :: s => x :: y :: s
theorem trimR_snoc (b x : UInt8) : ∀ l, trimR b (l ++ [x]) = if x = b then trimR b l else l ++ [x] := by
  intro l
  induction l with
  | nil => simp [trimR]
  | cons y r ih =>
    rw [List.cons_append, trimR, ih]
    by_cases h : x = b
    · simp [h, trimR]
    · simp only [h, if_false]
      cases hr : r ++ [x] with
      | nil => simp at hr
      | cons z s => simp
theorem trim_loop {H : AHeap} {b : UInt8} {k : Value → AHeap → Prop} (w : List UInt8) (hk : k (str w) H) : ∀ (n : Nat) (l : List UInt8) (s2 s3 s4 s5 s6 s7 s8 s9 s10 s11 s12 s13 s14 s15 s16 s17 s18 s19 s20 s21 s22 : Value), l.length = n → l.length < 2 ^ 62 → trimR b l = w →
    L134x0 (n + 1) k [str l, byt b, s2, s3, s4, s5, s6, s7, s8, s9, s10, s11, s12, s13, s14, s15, s16, s17, s18, s19, s20, s21, s22] H := by
  intro n
  induction n with
  | zero =>
    intro l s2 s3 s4 s5 s6 s7 s8 s9 s10 s11 s12 s13 s14 s15 s16 s17 s18 s19 s20 s21 s22 hn hl hw
    have : l = [] := List.length_eq_zero_iff.1 hn
    subst this
    rw [L134x0q]
    simp
    rw [← hw] at hk
    exact hk
  | succ n ih =>
    intro l s2 s3 s4 s5 s6 s7 s8 s9 s10 s11 s12 s13 s14 s15 s16 s17 s18 s19 s20 s21 s22 hn hl hw
    obtain ⟨r, x, rfl⟩ : ∃ r x, l = r ++ [x] := by
      rcases List.eq_nil_or_concat l with rfl | ⟨r, x, h⟩
      · simp at hn
      · exact ⟨r, x, by simpa using h⟩
    have hr : r.length = n := by simpa using hn
    have hix := aIndex_at (P := Tryz.prog) (T := 9) (k := .i64) (l := r ++ [x]) (i := r.length) (b := x) (by simp) (by simp)
    have hs := aSliceOp_str (P := Tryz.prog) (H := H) (T := 9) (l := r ++ [x]) (lo := none) (hi := some (i64 r.length)) (a := 0) (b := r.length) (by simp) rfl rfl (by omega) (by omega) (by simp; omega)
    simp at hs
    have hw0 : IntKind.i64.wrap (r.length : Int) = r.length := wrap_i64 (by omega) (by simp at hl; omega)
    rw [trimR_snoc] at hw
    rw [L134x0q]
    by_cases hx : x = b
    · rw [if_pos hx] at hw
      subst hx
      simp [hix, hs, hw0]
      exact ih r _ _ _ _ _ _ _ _ _ _ _ _ _ _ _ _ _ _ _ _ _ hr (by simp at hl; omega) hw
    · rw [if_neg hx] at hw
      have hx' : ((x.toNat : Int) == (b.toNat : Int)) = false := by
        rw [beq_eq_false_iff_ne]
        exact fun e => hx (UInt8.toNat_inj.1 (by omega))
      simp [hix, hx', hw0]
      rw [← hw] at hk
      exact hk
theorem c_trimByte {H : AHeap} {b : UInt8} {l : List UInt8} (hl : l.length < 2 ^ 62) : ACalls Tryz.prog 134 [str l, byt b] H (str (trimR b l)) H := by
  refine acalls_pure MixT Tryz.func134 (by decide) rfl ?_
  rw [d134]
  exact ⟨l.length + 1, trim_loop (trimR b l) ⟨rfl, [], by simp⟩ l.length l _ _ _ _ _ _ _ _ _ _ _ _ _ _ _ _ _ _ _ _ _ rfl hl rfl⟩
theorem c_trimRight {H : AHeap} {l : List UInt8} (hl : l.length < 2 ^ 62) : ACalls Tryz.prog 114 [str l, str [48]] H (str (trimR 48 l)) H := by
  refine acalls_pure MixT Tryz.func114 (by decide) rfl ?_
  rw [d114]
  have hix := aIndex_at (P := Tryz.prog) (T := 9) (k := .i64) (l := [48]) (i := 0) (b := 48) (by simp) rfl
  simp at hix
  by_cases h0 : l = []
  · subst h0
    simp
    rfl
  · have h0' : ¬ (⟨l.toArray⟩ : ByteArray) = ⟨#[]⟩ := fun e => h0 (by simpa using e)
    simp [h0', hix]
    refine bndC_of (c_trimByte hl) ⟨rfl, [], by simp⟩
def fixS (x : Int) : List UInt8 :=
  (if sat x < 0 then [45] else []) ++ fmtS (((sat x).natAbs / 1000 : Nat) : Int) ++ if (sat x).natAbs % 1000 = 0 then [] else 46 :: trimR 48 ((fmtS ((1000 + (sat x).natAbs % 1000 : Nat) : Int)).drop 1)
theorem natS_len {n : Nat} (h : n < 2 ^ 64) : (natS n).length ≤ 20 := by
  unfold natS
  split
  · simp
  · rw [digs_len]; exact (ndig_ok (by omega) h).2.1
theorem fmtS_nat (n : Nat) : fmtS (n : Int) = natS n := by
  unfold fmtS; rw [if_neg (by omega)]; rfl
theorem trimR_len (b : UInt8) : ∀ l : List UInt8, (trimR b l).length ≤ l.length := by
  intro l
  induction l with
  | nil => exact Nat.le_refl _
  | cons x r ih =>
    rw [trimR]
    split
    · split <;> simp
    · rename_i h; rw [h] at ih; simpa using ih
theorem fix_tail {H : AHeap} (hg : Pre Gs H) {n : Nat} {sg : List UInt8} {k : Value → AHeap → Prop} (hn : n < 2 ^ 63) (hs : sg.length ≤ 1)
    (hk : k (str (sg ++ fmtS ((n / 1000 : Nat) : Int) ++ if n % 1000 = 0 then [] else 46 :: trimR 48 ((fmtS ((1000 + n % 1000 : Nat) : Int)).drop 1))) H) (s1 s2 s4 s5 s6 s7 s8 s9 s10 s11 s12 s13 s14 s15 s16 s17 s18 s19 s20 s21 s22 s23 s24 s25 s26 s27 s28 s29 : Value) :
    S74x0 k [i64 n, s1, s2, str sg, s4, s5, s6, s7, s8, s9, s10, s11, s12, s13, s14, s15, s16, s17, s18, s19, s20, s21, s22, s23, s24, s25, s26, s27, s28, s29] H := by
  simp only [fmtS_nat] at hk
  have l1 := natS_len (n := n / 1000) (by omega)
  have l2 := natS_len (n := 1000 + n % 1000) (by omega)
  have l3 := trimR_len 48 ((natS (1000 + n % 1000)).drop 1)
  simp only [List.length_drop] at l3
  have q1 := fun X Y => quoL (P := Tryz.prog) (H := H) (T := 2) (x := X) (y := Y) (k := .i64) (a := n) (c := 1000) (n := 1000) rfl (by omega) (wrap_i64 (by omega) (by omega))
  have q2 := fun X Y => remL (P := Tryz.prog) (H := H) (T := 2) (x := X) (y := Y) (k := .i64) (a := n) (c := 1000) (n := 1000) rfl (by omega)
  rw [S74x0q]
  simp only [q1, bnd_some]
  refine bndC_of (c_formatInt hg (by omega) (by omega)) ?_
  rw [fmtS_nat]
  have c1 := fun X Y => aBin_str (P := Tryz.prog) (H := H) (T := 9) (x := X) (y := Y) (a := sg) (b := natS (n / 1000)) (by omega)
  simp only [c1, bnd_some, q2]
  by_cases h0 : n % 1000 = 0
  · simp [h0, S74x1q]
    simpa [h0] using hk
  · have hp : (0 : Int) < ((n % 1000 : Nat) : Int) := by omega
    have hw : IntKind.i64.wrap (1000 + ((n % 1000 : Nat) : Int)) = ((1000 + n % 1000 : Nat) : Int) := by rw [wrap_i64 (by omega) (by omega)]; omega
    rw [if_neg h0] at hk
    have hm : n % 1000 < 1000 := Nat.mod_lt _ (by omega)
    clear q1 q2 c1
    generalize n % 1000 = m at hk h0 hp hw l2 l3 hm ⊢
    have hs2 := aSliceOp_str (P := Tryz.prog) (H := H) (T := 9) (l := natS (1000 + m)) (lo := some (i64 1)) (hi := none) (a := 1) (b := (natS (1000 + m)).length) (by simp) rfl rfl (by omega) (by
      have : natS (1000 + m) ≠ [] := by
        unfold natS; rw [if_neg (by omega)]
        intro e
        have := congrArg List.length e
        rw [digs_len] at this
        have := (ndig_ok (n := 1000 + m) (by omega) (by omega)).1
        simp at *; omega
      have := List.length_pos_iff.2 this
      omega) (by omega)
    have e1 : (List.take (((natS (1000 + m)).length : Int).toNat) (natS (1000 + m))).drop ((1 : Int).toNat) = (natS (1000 + m)).drop 1 := by simp
    rw [e1] at hs2
    have hp' : ((m : Int) > 0) := hp
    simp only [aBin_gtr, bnd_some, hp', decide_true, kifB_true, aBin_add, hw]
    refine bndC_of (c_formatInt hg (by omega) (by omega)) ?_
    rw [fmtS_nat]
    simp only [hs2, bnd_some]
    refine bndC_of (c_trimRight (by simp; omega)) ?_
    generalize trimR 48 ((natS (1000 + m)).drop 1) = T at l3 hk ⊢
    have c2 : ∀ X Y, aBin2 Tryz.prog H .add 9 X Y (.string ⟨#[46]⟩) (str T) = some (str (46 :: T)) := fun X Y => aBin_str (a := [46]) (b := T) (by simp only [List.length_cons, List.length_nil]; omega)
    have c3 := fun X Y => aBin_str (P := Tryz.prog) (H := H) (T := 9) (x := X) (y := Y) (a := sg ++ natS (n / 1000)) (b := 46 :: T) (by simp only [List.length_cons, List.length_append]; omega)
    simp only [c2, c3, bnd_some, S74x1q]
    exact hk
theorem c_fixPrint {H : AHeap} (hg : Pre Gs H) {x : Int} : ACalls Tryz.prog 74 [i64 x] H (str (fixS x)) H := by
  refine acalls_pure MixT Tryz.func74 (by decide) rfl ?_
  rw [d74]
  refine bndC_of (c_sat H x) ?_
  have hb : -4611686018427387903 ≤ sat x ∧ sat x ≤ 4611686018427387903 := by unfold sat maxFix; omega
  by_cases h : sat x < 0
  · have hw : IntKind.i64.wrap (0 - sat x) = ((sat x).natAbs : Int) := by rw [wrap_i64 (by omega) (by omega)]; omega
    simp [h] at hw ⊢
    rw [hw]
    refine fix_tail hg (sg := [45]) (by omega) (by simp) ?_ _ _ _ _ _ _ _ _ _ _ _ _ _ _ _ _ _ _ _ _ _ _ _ _ _ _ _ _
    exact ⟨by unfold fixS; rw [if_pos h], [], by simp⟩
  · have hw : sat x = ((sat x).natAbs : Int) := by omega
    have hf : fixS x = [] ++ fmtS (((sat x).natAbs / 1000 : Nat) : Int) ++ if (sat x).natAbs % 1000 = 0 then [] else 46 :: trimR 48 ((fmtS ((1000 + (sat x).natAbs % 1000 : Nat) : Int)).drop 1) := by unfold fixS; rw [if_neg h]
    simp [h]
    rw [hf]
    generalize (sat x).natAbs = m at hw hf ⊢
    rw [hw]
    refine fix_tail hg (sg := []) (by omega) (by simp) ?_ _ _ _ _ _ _ _ _ _ _ _ _ _ _ _ _ _ _ _ _ _ _ _ _ _ _ _ _
    exact ⟨rfl, [], by simp⟩
end Go.Vi
