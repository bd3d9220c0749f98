/- ExprWhole: the walk. ExprRound: the walk. -/
import Derived.Test.YtpkdgmcfojjfjaaGreatDoorJ6
namespace Go.Vi
open Go Go.Proofs

theorem NodesAt.sel {H : AHeap} {v : Value} {ns : List Nod} (h : NodesAt H v ns) : ∀ n ∈ ns, n.sel.length < 2 ^ 63 := by
  intro n hn
  obtain ⟨cl, _, _, h3⟩ := h
  obtain ⟨i, hi⟩ := List.getElem?_of_mem hn
  obtain ⟨sv, _, _, h4⟩ := h3 i n hi
  omega
theorem conO_le {T : List Tok} {p : List Nod × Nat} (h : conO T 0 = some p) : p.2 ≤ T.length := by
  have he : Emb T T 0 := ⟨fun a t ht => ⟨t, by simpa using ht, rfl, rfl⟩, fun u hu => by simp at hu⟩
  exact (he.str [] _ _ _ _ _ _ (Nat.zero_le _) ((conO_str T 0).trans (congrArg some h))).1
theorem readF_zero (T : List Tok) : readF T 0 = match conO T 0 with
    | none => ([], 0, 100)
    | some p => if (p.1.length : Int) > 31 then ([], 0, 4) else (p.1, p.2, 0) := by
  unfold readF
  by_cases hts : (0 : Int) ≥ T.length
  · have : T = [] := List.eq_nil_of_length_eq_zero (by omega)
    rw [if_pos (.inr hts), this, conO_nil]
  · (rw [if_neg (by omega)] <;> rfl)
theorem w_whole {H : AHeap} {s : List UInt8} (hg : Pre Gs H) : ACalls Tryz.prog 3 [str s] H (.bool true) H := by
  refine acalls_pure MixT Tryz.func3 (by decide) rfl ?_
  rw [d3]
  refine bndC_of (c_awake hg) ?_
  simp
  refine kifB_bool (fun _ => ?_) (fun hc => ?_)
  · simp
  · obtain ⟨v, K1, ⟨lv, rfl, g1, g2⟩, g3⟩ := c_lexAll H s
    refine bndC_of g3 ?_
    simp
    obtain ⟨v2, K2, a2, p2, n2⟩ := g_parse (s := s) (hg.trans g1)
    obtain ⟨hnt, hnl⟩ := allTok_ok (l := s)
    by_cases he : (allTok s).2.2 = 0
    · obtain ⟨v3, K3, a3, p3, n3, _⟩ := g_read (at' := 0) (ts := (allTok s).1) ((hg.trans g1).trans p2) hnt (by omega) (g2.pre p2)
      have hX : ∃ X, K3 = H ++ X := (g1.trans p2).trans p3
      have hlv : ∀ J, aLen Tryz.prog J 23 lv = some (i64 (allTok s).1.length) := fun J => by
        have := g2.len' (K := J) (P := Tryz.prog) (T := 23) (e := 70) (by simp)
        simpa using this
      have hr := readF_zero (allTok s).1
      have hp : parseF s = match conO (allTok s).1 0 with
          | none => ([], 100)
          | some p => if p.2 ≠ (allTok s).1.length then ([], 100) else if (p.1.length : Int) > 31 then ([], 4) else (p.1, 0) := by unfold parseF; (rw [if_neg (by simpa using he)] <;> rfl)
      cases hc : conO (allTok s).1 0 with
      | none =>
        rw [hc] at hr hp
        simp only at hr hp
        rw [hr] at a3
        rw [hp] at a2
        refine bndC_of a2 ?_
        simp [he]
        refine bndC_of a3 ?_
        simp; exact hX
      | some p =>
        have hle := conO_le hc
        rw [hc] at hr hp
        simp only at hr hp
        by_cases h31 : (p.1.length : Int) > 31
        · rw [if_pos h31] at hr hp
          rw [hr] at a3
          have hp2 : (parseF s).2 = 100 ∨ (parseF s).2 = 4 := by rw [hp]; split <;> simp
          rcases hp2 with hp2 | hp2 <;> rw [hp2] at a2 <;> refine bndC_of a2 ?_ <;> simp [he] <;> refine bndC_of a3 ?_ <;> simp <;> exact hX
        · rw [if_neg h31] at hr hp
          rw [hr] at a3 n3
          by_cases hl : p.2 ≠ (allTok s).1.length
          · rw [if_pos hl] at hp
            rw [hp] at a2
            have : p.2 < (allTok s).1.length := by omega
            refine bndC_of a2 ?_
            simp [he]
            refine bndC_of a3 ?_
            simp [hlv, this]; exact hX
          · rw [if_neg hl] at hp
            rw [hp] at a2 n2
            have hl' : p.2 = (allTok s).1.length := by omega
            have hn2 := n2.pre p3
            refine bndC_of a2 ?_
            simp [he]
            refine bndC_of a3 ?_
            simp [hlv, hl']
            refine bndG_t (.bool true) K3 (c_sameN hn2 n3 (by simp only; omega) hn2.sel) ?_
            simp
            exact hX
    · have hp : parseF s = ([], (allTok s).2.2) := by unfold parseF; rw [if_pos he]
      rw [hp] at a2 n2
      have hl2 := n2.len K2
      simp at hl2
      have he2 : ((allTok s).2.2 != 0) = true := by simpa using he
      refine bndC_of a2 ?_
      simp [he2, hl2]
      exact g1.trans p2
end Go.Vi
namespace Go.Vi
open Go Go.Proofs

theorem parseF_one (s : List UInt8) : (parseF s).1.length ≤ 31 := by
  unfold parseF
  by_cases h1 : (allTok s).2.2 ≠ 0
  · rw [if_pos h1]; simp
  · rw [if_neg h1]
    cases conO (allTok s).1 0 with
    | none => simp
    | some p =>
      simp only
      split
      · simp
      · split
        · simp
        · simp only; omega
theorem c_sameP {H : AHeap} {v1 v2 : Value} {s : List UInt8} (h1 : NodesAt H v1 (parseF s).1) (h2 : NodesAt H v2 (parseF s).1) : ACalls Tryz.prog 19 [v1, v2] H (.bool true) H :=
  c_sameN h1 h2 (by have := parseF_one s; omega) h1.sel
theorem round_loop {H : AHeap} {s : List UInt8} {v : Value} {k : Value → AHeap → Prop} (hg : Pre Gs H) (hp : (parseF s).2 = 0) (hs : s.length ≤ 1500) {m : Nat} (hm : m ≤ 1000) (hv : NodesAt H v (parseF s).1) (hk : ∀ X, k (.bool true) (H ++ X)) :
    ∀ (n i : Nat) (s2 s3 s4 s6 s10 s11 s12 s13 s14 s15 s16 s17 s18 s19 s20 s21 s22 s23 s24 s25 s26 s27 s28 s29 s30 s31 s32 s33 s34 s35 s36 s37 s38 s39 s40 s41 s42 s43 s44 s45 s46 s47 s48 s49 s50 s51 s52 s53 s54 s55 s56 s57 : Value), n + i = m → L4x0 (n + 1) k [str s, i64 m, s2, s3, s4, v, s6, str (List.replicate i 40), str (List.replicate i 41), i64 i, s10, s11, s12, s13, s14, s15, s16, s17, s18, s19, s20, s21, s22, s23, s24, s25, s26, s27, s28, s29, s30, s31, s32, s33, s34, s35, s36, s37, s38, s39, s40, s41, s42, s43, s44, s45, s46, s47, s48, s49, s50, s51, s52, s53, s54, s55, s56, s57] H := by
  intro n
  induction n with
  | zero =>
    intro i s2 s3 s4 s6 s10 s11 s12 s13 s14 s15 s16 s17 s18 s19 s20 s21 s22 s23 s24 s25 s26 s27 s28 s29 s30 s31 s32 s33 s34 s35 s36 s37 s38 s39 s40 s41 s42 s43 s44 s45 s46 s47 s48 s49 s50 s51 s52 s53 s54 s55 s56 s57 hi
    obtain rfl : i = m := by omega
    rw [L4x0q]
    have : ¬ ((i : Int) < i) := by omega
    simp
    refine bnd_of (aBin_str (a := List.replicate i 40) (b := s) (by simp; omega)) ?_
    dsimp only
    refine bnd_of (aBin_str (b := [10]) (by simp; omega)) ?_
    dsimp only
    refine bnd_of (aBin_str (b := List.replicate i 41) (by simp; omega)) ?_
    dsimp only
    obtain ⟨v2, K2, a2, p2, n2⟩ := g_parse (s := List.replicate i 40 ++ s ++ [10] ++ List.replicate i 41) hg
    have e : List.replicate i 40 ++ s ++ [10] ++ List.replicate i 41 = List.replicate i 40 ++ (s ++ 10 :: List.replicate i 41) := by simp
    have hr := round_plain hs hm hp
    rw [← e] at hr
    rw [hr] at a2 n2
    rw [hp] at a2
    obtain ⟨X, rfl⟩ := p2
    refine bndC_of a2 ?_
    simp
    refine bndG_t (.bool true) _ (c_sameP (hv.pre (.app H X)) n2) ?_
    simp
    exact hk X
  | succ n ih =>
    intro i s2 s3 s4 s6 s10 s11 s12 s13 s14 s15 s16 s17 s18 s19 s20 s21 s22 s23 s24 s25 s26 s27 s28 s29 s30 s31 s32 s33 s34 s35 s36 s37 s38 s39 s40 s41 s42 s43 s44 s45 s46 s47 s48 s49 s50 s51 s52 s53 s54 s55 s56 s57 hi
    have hlt : i < m := by omega
    have w1 : IntKind.i64.wrap ((i : Int) + 1) = ((i + 1 : Nat) : Int) := by rw [wrap_i64 (by omega) (by omega)]; omega
    rw [L4x0q]
    simp [hlt]
    refine bnd_of (aBin_str (a := List.replicate i 40) (b := [40]) (by simp; omega)) ?_
    dsimp only
    refine bnd_of (aBin_str (a := List.replicate i 41) (b := [41]) (by simp; omega)) ?_
    dsimp only
    simp [w1]
    rw [show ((i : Int) + 1) = ((i + 1 : Nat) : Int) by omega, ← List.replicate_succ', ← List.replicate_succ']
    exact ih (i + 1) _ _ _ _ _ _ _ _ _ _ _ _ _ _ _ _ _ _ _ _ _ _ _ _ _ _ _ _ _ _ _ _ _ _ _ _ _ _ _ _ _ _ _ _ _ _ _ _ _ _ _ _ (by omega)
theorem w_round {H : AHeap} {s : List UInt8} {n : Int} (hg : Pre Gs H) : ACalls Tryz.prog 4 [str s, i64 n] H (.bool true) H := by
  refine acalls_pure MixT Tryz.func4 (by decide) rfl ?_
  rw [d4]
  refine bndC_of (c_awake hg) ?_
  simp
  by_cases h1 : s.length ≤ 1500
  · have h1' : ¬ ((1500 : Int) < s.length) := by omega
    by_cases h2 : n < 0
    · simp [h1', h2]
    · by_cases h3 : (1000 : Int) < n
      · simp [h1', h2, h3]
      · simp [h1', h2, h3]
        obtain ⟨v2, K2, a2, ⟨X, rfl⟩, n2⟩ := g_parse (s := s) hg
        refine bndC_of a2 ?_
        simp
        by_cases hp : (parseF s).2 = 0
        · obtain ⟨m, rfl⟩ : ∃ m : Nat, n = m := ⟨n.toNat, by omega⟩
          simp [hp]
          have := round_loop (k := fun u H2 => u = .bool true ∧ ∃ X, H2 = H ++ X) (m := m) (hg.trans (.app H X)) hp h1 (by omega) n2 (fun Y => ⟨rfl, X ++ Y, by simp⟩) m 0
          exact ⟨_, this _ _ _ _ _ _ _ _ _ _ _ _ _ _ _ _ _ _ _ _ _ _ _ _ _ _ _ _ _ _ _ _ _ _ _ _ _ _ _ _ _ _ _ _ _ _ _ _ _ _ _ _ (by omega)⟩
        · have hp2 : ((parseF s).2 != 0) = true := by simpa using hp
          simp [hp2]
  · have h1' : (1500 : Int) < s.length := by omega
    simp [h1']
end Go.Vi
