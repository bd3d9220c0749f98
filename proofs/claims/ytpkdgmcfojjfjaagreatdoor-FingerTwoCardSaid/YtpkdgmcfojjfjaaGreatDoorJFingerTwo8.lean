/- FingerSame: the walk. FingerTwo: the walk. -/
import Derived.Test.YtpkdgmcfojjfjaaGreatDoorJ7
namespace Go.Vi
open Go Go.Proofs

theorem fing_pos (r : Rul) : 1 ≤ fingF r := by unfold fingF; split <;> omega
theorem cfg_val {v : Value} (h : v.oneCell' = true) : buildV Tryz.prog 49 [(0, v)] = some (.agg (cfgC v).toArray) := by
  simp [cfgC, stor_one h, cells_one h]
end Go.Vi
namespace Go.Vi
open Go Go.Proofs

theorem Arr.all_len {H z v l} (h : Arr H z v l) : ∀ c ∈ l, c.length = z := by
  intro c hc
  obtain ⟨i, hi⟩ := List.getElem?_of_mem hc
  exact h.elen hi
theorem Gro.pushX {P : Program} {K0 K : AHeap} {lo z by_ : Nat} {T Ts : TypeId} {v x : Value} {cl ds : List (List Value)} (h0 : Gro K0 lo z T v cl) (p : Pre K0 K) (hT : aElem P Ts = some (T, z, by_)) (hsq : isSeq P Ts = true) (hc : ∀ c ∈ ds, c.length = z) (hlo : lo ≤ K.length)
    (hx : aSrc K z x = some (ds.length, ds.flatten)) (hb : (cl.length + ds.length) * by_ ≤ 140737488355328) (hn : cl.length + ds.length ≤ 9223372036854775807) :
    ∃ v' K', aBuiltin P K .append #[Ts, Ts] [v, x] = some (v', K') ∧ Gro K' lo z T v' (cl ++ ds) ∧ (∀ b o, b < lo ∨ K0.length ≤ b → K[b]? = some o → K'[b]? = some o) ∧ K.length ≤ K'.length ∧ (∀ H, Pre H K → H.length ≤ lo → Pre H K') := by
  have h : Gro K lo z T v cl := by obtain ⟨X, rfl⟩ := p; exact h0.app
  by_cases hd : ds = []
  · subst hd
    refine ⟨v, K, ?_, by simpa using h, fun b o _ h => h, Nat.le_refl _, fun H p _ => p⟩
    cases h with
    | nil => simp at hx; simp [aBuiltin, aAppend, hT, hx, hsq]
    | mk bb cl h1 h2 h3 h4 =>
      have hfl := flat_len h4
      simp at hx
      simp [aBuiltin, aAppend, hT, hx, hsq, h2, hfl]
      rw [putCells_eq _ _ _ (by rw [hfl]; simp)]
      simp
      exact set_same h2
  have hdl : 0 < ds.length := List.length_pos_iff.2 hd
  have hfd := flat_len hc
  cases h0 with
  | nil =>
    refine ⟨.slice (some ⟨K.length, 0, some (ds.length * z)⟩) ds.length ds.length, K ++ [.cells ds.flatten T], ?_, ?_, fun b o hb ho => get_more ho, by simp, fun H p _ => p.more _⟩
    · have hb' : ds.length * by_ ≤ 140737488355328 := by simpa using hb
      have hn' : ds.length ≤ 9223372036854775807 := by simpa using hn
      have hne : ¬ ds.length = 0 := by omega
      simp only [aBuiltin, aAppend, hT, hx, hsq, if_true, hne, if_false, hb', hn', and_self, hfd]
    · have := Gro.mk (K := K ++ [.cells ds.flatten T]) (lo := lo) (z := z) (T := T) K.length ds hlo (by simp) hd hc
      simpa using this
  | mk bb cl h1 h2 h3 h4 =>
    have hfl := flat_len h4
    have hlt0 := (List.getElem?_eq_some_iff.1 h2).1
    have h2 := p.get h2
    have hlt := (List.getElem?_eq_some_iff.1 h2).1
    refine ⟨.slice (some ⟨bb, 0, some ((cl.length + ds.length) * z)⟩) (cl.length + ds.length) (cl.length + ds.length), K.set bb (.cells (cl ++ ds).flatten T), ?_, ?_, fun b o hb ho => by rw [List.getElem?_set_ne (by omega)]; exact ho, by simp, fun H p hH => p.set (by omega)⟩
    · have e1 : cl.length * z = cl.flatten.length := hfl.symm
      have e2 : ¬ cl.length + ds.length ≤ cl.length := by omega
      simp only [aBuiltin, aAppend, hT, hx, hsq, if_true, h2, hfl, Nat.zero_add, Nat.le_refl, and_self, e2, if_false, hb, hn]
      have e3 : (cl.flatten.take (cl.length * z)) = cl.flatten := List.take_of_length_le (by omega)
      rw [e3]
      simp
    · have := Gro.mk (K := K.set bb (.cells (cl ++ ds).flatten T)) (lo := lo) (z := z) (T := T) bb (cl ++ ds) h1 (List.getElem?_set_self hlt) (by simp [h3]) (by
        intro x hx
        rw [List.mem_append] at hx
        rcases hx with hx | hx
        · exact h4 x hx
        · exact hc x hx)
      simpa using this
theorem rel1 : aElem Tryz.prog 46 = some (44, 8, 120) := by kernel_rfl
theorem rel2 : isSeq Tryz.prog 46 = true := by kernel_rfl
theorem unl_app {x y : List Int} (h : unlF (x ++ y) = true) : unlF x = true ∧ unlF y = true := by
  rw [unlF_iff, List.nodup_append] at h
  exact ⟨(unlF_iff _).2 h.1, (unlF_iff _).2 h.2.1⟩
theorem two_loop {H : AHeap} {va vc v1 v2 vb : Value} {l : List Int} {b0 b1 b2 : Bool} {k : Value → AHeap → Prop} (ha : Arr H 1 va (nCells l)) (hc : Arr H 1 vc (nCells l)) (hl : l.length ≤ 2 ^ 20) (hpos : ∀ x ∈ l, 1 ≤ x)
    (u0 : ACalls Tryz.prog 26 [vb] H (.bool b0) H) (u1 : ACalls Tryz.prog 26 [v1] H (.bool b1) H) (u2 : ACalls Tryz.prog 26 [v2] H (.bool b2) H) (hu : b0 = true → b1 = true ∧ b2 = true) (hk : k (.bool true) H) :
    ∀ (n i : Nat) (s2 s3 s4 s7 s10 s11 s12 s13 s14 s15 s16 s17 s18 s19 s20 s21 s22 s23 s24 s25 s26 s27 s28 s29 s30 s31 s32 s33 s34 s35 s36 s37 s38 s39 s40 s41 s42 s43 s44 s45 s46 s47 s48 s49 s50 s51 s52 s53 s54 s55 s56 s57 s58 s59 s60 s61 s62 s63 s64 s65 s66 s67 s68 s69 s70 s71 s72 s73 s74 s75 s76 s77 s78 s79 s80 s81 s82 : Value), n + i = l.length → L10x0 (n + 1) k [v1, v2, s2, s3, s4, vb, va, s7, vc, i64 i, s10, s11, s12, s13, s14, s15, s16, s17, s18, s19, s20, s21, s22, s23, s24, s25, s26, s27, s28, s29, s30, s31, s32, s33, s34, s35, s36, s37, s38, s39, s40, s41, s42, s43, s44, s45, s46, s47, s48, s49, s50, s51, s52, s53, s54, s55, s56, s57, s58, s59, s60, s61, s62, s63, s64, s65, s66, s67, s68, s69, s70, s71, s72, s73, s74, s75, s76, s77, s78, s79, s80, s81, s82] H := by
  intro n
  have hlen := hc.len (P := Tryz.prog) (T := 58) (e := 50) (by simp)
  simp [nCells] at hlen
  induction n with
  | zero =>
    intro i s2 s3 s4 s7 s10 s11 s12 s13 s14 s15 s16 s17 s18 s19 s20 s21 s22 s23 s24 s25 s26 s27 s28 s29 s30 s31 s32 s33 s34 s35 s36 s37 s38 s39 s40 s41 s42 s43 s44 s45 s46 s47 s48 s49 s50 s51 s52 s53 s54 s55 s56 s57 s58 s59 s60 s61 s62 s63 s64 s65 s66 s67 s68 s69 s70 s71 s72 s73 s74 s75 s76 s77 s78 s79 s80 s81 s82 hi
    rw [L10x0q]
    have : ¬ i < l.length := by omega
    simp [hlen, this]
    refine bndC_of u0 ?_
    cases b0 with
    | false => simp; exact ⟨undef, _, ⟨rfl, rfl⟩, by simp; exact hk⟩
    | true =>
      obtain ⟨rfl, rfl⟩ := hu rfl
      simp
      refine bndG_t _ _ u1 ?_
      simp
      refine bndG_t _ _ u2 ?_
      simp
      exact hk
  | succ n ih =>
    intro i s2 s3 s4 s7 s10 s11 s12 s13 s14 s15 s16 s17 s18 s19 s20 s21 s22 s23 s24 s25 s26 s27 s28 s29 s30 s31 s32 s33 s34 s35 s36 s37 s38 s39 s40 s41 s42 s43 s44 s45 s46 s47 s48 s49 s50 s51 s52 s53 s54 s55 s56 s57 s58 s59 s60 s61 s62 s63 s64 s65 s66 s67 s68 s69 s70 s71 s72 s73 s74 s75 s76 s77 s78 s79 s80 s81 s82 hi
    have hlt : i < l.length := by omega
    rw [L10x0q]
    obtain ⟨x, hx⟩ : ∃ x, l[i]? = some x := ⟨_, List.getElem?_eq_getElem hlt⟩
    obtain ⟨p, p1, p2⟩ := ha.load1 (P := Tryz.prog) (T := 58) (te := 50) (i := i) (x := .int .u32 x) (by simp) (by simp) (by simp) (by simp [nCells, hx])
    obtain ⟨q, q1, q2⟩ := hc.load1 (P := Tryz.prog) (T := 58) (te := 50) (i := i) (x := .int .u32 x) (by simp) (by simp) (by simp) (by simp [nCells, hx])
    have hne : (x == 0) = false := by have := hpos x (List.mem_of_getElem? hx); simp; omega
    have w1 : IntKind.i64.wrap ((i : Int) + 1) = ((i + 1 : Nat) : Int) := by rw [wrap_i64 (by omega) (by omega)]; omega
    simp [hlen, hlt, p1, p2, q1, q2, hne, w1]
    rw [show ((i : Int) + 1) = ((i + 1 : Nat) : Int) by omega]
    exact ih (i + 1) _ _ _ _ _ _ _ _ _ _ _ _ _ _ _ _ _ _ _ _ _ _ _ _ _ _ _ _ _ _ _ _ _ _ _ _ _ _ _ _ _ _ _ _ _ _ _ _ _ _ _ _ _ _ _ _ _ _ _ _ _ _ _ _ _ _ _ _ _ _ _ _ _ _ _ _ _ (by omega)
set_option maxRecDepth 20000 in
theorem w_ftwo {H : AHeap} {v1 v2 : Value} {l m : List Rul} (hg : Pre Gs H) (h1 : RulesAt H v1 l) (h2 : RulesAt H v2 m) : ACalls Tryz.prog 10 [v1, v2] H (.bool true) H := by
  refine acallsT_pure MixT Tryz.func10 (by decide) rfl ?_
  generalize hk0 : (fun u H2 => u = Value.bool true ∧ ∃ X, H2 = H ++ X) = k
  have hk : ∀ M, Pre H M → k (.bool true) M := fun M p => by rw [← hk0]; exact ⟨rfl, p⟩
  rw [d10]
  refine bndC_of (c_awake14 hg) ?_
  have ll := h1.lenR
  have lm := h2.lenR
  simp only [unV_not, bnd_some, Bool.not_true, kifB_false, ll]
  by_cases g1 : l.length ≤ 10
  · have g1' : ¬ ((10 : Int) < l.length) := by omega
    by_cases g2 : m.length ≤ 10
    · have g2' : ¬ ((10 : Int) < m.length) := by omega
      simp [g1', g2', lm, cfg_val h1.one]
      obtain ⟨b, hb, hcall⟩ := c_BigR h1
      refine bndG_call (.bool b) (fun _ => hcall) ?_
      cases b with
      | true => simp; exact hk _ (.refl H)
      | false =>
        obtain ⟨_, hf1⟩ := hb rfl
        simp [cfg_val h2.one]
        obtain ⟨b', hb', hcall'⟩ := c_BigR h2
        refine bndG_call (.bool b') (fun _ => hcall') ?_
        cases b' with
        | true => simp; exact hk _ (.refl H)
        | false =>
          obtain ⟨_, hf2⟩ := hb' rfl
          simp
          obtain ⟨cl1, a1, n1, e1⟩ := id h1
          obtain ⟨cl2, a2, n2, e2⟩ := id h2
          obtain ⟨vb1, K1, b1, b2, b3, b4, b5⟩ := Gro.pushX (P := Tryz.prog) (K0 := H) (K := H) (lo := H.length) (Ts := 46) (T := 44) (z := 8) (by_ := 120) (v := .slice none 0 0) (cl := []) (ds := cl1) .nil (.refl H) rel1 rel2 a1.all_len (Nat.le_refl _) a1.srcOf (by simp; omega) (by simp; omega)
          rw [b1]
          simp only [bndE_some]
          have p1 : Pre H K1 := b5 H (.refl H) (Nat.le_refl _)
          obtain ⟨vb, K2, d1, d2, d3, d4, d5⟩ := Gro.pushX (P := Tryz.prog) (K0 := K1) (K := K1) (lo := H.length) (Ts := 46) (by_ := 120) (ds := cl2) b2 (.refl K1) rel1 rel2 a2.all_len b4 (a2.pre p1).srcOf (by simp; omega) (by simp; omega)
          rw [d1]
          simp only [bndE_some]
          have p2 : Pre H K2 := d5 H p1 (Nat.le_refl _)
          have hbo : RulesAt K2 vb (l ++ m) := by
            refine ⟨_, d2.arr, by simp; omega, fun i r hi => ?_⟩
            by_cases hlt : i < l.length
            · rw [List.getElem?_append_left hlt] at hi
              obtain ⟨nv, mv, q1, q2⟩ := e1 i r hi
              exact ⟨nv, mv, by simp only [List.nil_append]; rw [List.getElem?_append_left (by omega)]; exact q1, q2.pre p2⟩
            · rw [List.getElem?_append_right (by omega)] at hi
              obtain ⟨nv, mv, q1, q2⟩ := e2 _ r hi
              exact ⟨nv, mv, by simp only [List.nil_append]; rw [List.getElem?_append_right (by omega), n1]; exact q1, q2.pre p2⟩
          have f1 := fine_of hf1
          have f2 := fine_of hf2
          have f3 : fine (l ++ m) := fun r hr => (List.mem_append.1 hr).elim (f1 r) (f2 r)
          obtain ⟨va, K3, x1, x2, x3⟩ := c_all (hg.trans p2) (h1.pre p2) (by omega) f1
          obtain ⟨vB, K4, y1, y2, y3⟩ := c_all ((hg.trans p2).trans x2) (h2.pre (p2.trans x2)) (by omega) f2
          obtain ⟨vc, K5, z1, z2, z3⟩ := c_all (((hg.trans p2).trans x2).trans y2) (hbo.pre (x2.trans y2)) (by simp; omega) f3
          refine bndC_of x1 ?_
          refine bndC_of y1 ?_
          refine bndC_of z1 ?_
          dsimp only
          obtain ⟨va', K6, w1, w2, w3, w4, w5⟩ := Gro.pushX (P := Tryz.prog) (K0 := K3) (K := K5) (lo := K2.length) (Ts := 58) (by_ := 4) (ds := nCells (m.map fingF)) x3 (y2.trans z2) uel1 uel2 (by intro c hc; simp only [nCells, List.mem_map] at hc; obtain ⟨x, _, rfl⟩ := hc; rfl)
            (by obtain ⟨X, hX⟩ := (x2.trans y2).trans z2; rw [hX]; simp) (y3.arr.pre z2).srcOf (by simp [nCells]; omega) (by simp [nCells]; omega)
          rw [w1]
          simp only [bndE_some]
          have p6 : Pre K2 K6 := w5 K2 ((x2.trans y2).trans z2) (Nat.le_refl _)
          have hK34 : K3.length ≤ K4.length := by obtain ⟨X, hX⟩ := y2; rw [hX]; simp
          have z4 := z3.frm (K' := K6) fun b o hb ho => w3 b o (.inr (by omega)) ho
          have hw : nCells (l.map fingF) ++ nCells (m.map fingF) = nCells ((l ++ m).map fingF) := by simp [nCells]
          rw [hw] at w2
          have la := w2.arr.len (P := Tryz.prog) (T := 58) (e := 50) (by simp)
          have lc := z4.arr.len (P := Tryz.prog) (T := 58) (e := 50) (by simp)
          simp [nCells] at la lc
          simp [la, lc]
          have hg6 := (hg.trans p2).trans p6
          have u0 := c_unlike hg6 (hbo.pre p6) (by simp; omega) f3
          have u1 := c_unlike hg6 (h1.pre (p2.trans p6)) (by omega) f1
          have u2 := c_unlike hg6 (h2.pre (p2.trans p6)) (by omega) f2
          exact ⟨_, two_loop w2.arr z4.arr (by simp; omega) (fun x hx => by simp only [List.mem_map] at hx; obtain ⟨r, _, rfl⟩ := hx; exact fing_pos r) u0 u1 u2 (fun h => by rw [List.map_append] at h; exact unl_app h) (hk _ (p2.trans p6)) ((l ++ m).map fingF).length 0 _ _ _ _ _ _ _ _ _ _ _ _ _ _ _ _ _ _ _ _ _ _ _ _ _ _ _ _ _ _ _ _ _ _ _ _ _ _ _ _ _ _ _ _ _ _ _ _ _ _ _ _ _ _ _ _ _ _ _ _ _ _ _ _ _ _ _ _ _ _ _ _ _ _ _ _ _ (by omega)⟩
    · have g2' : ((10 : Int) < m.length) := by omega
      simp [g1', g2', lm]
      exact hk _ (.refl H)
  · have g1' : ((10 : Int) < l.length) := by omega
    simp [g1']
    exact hk _ (.refl H)
end Go.Vi
