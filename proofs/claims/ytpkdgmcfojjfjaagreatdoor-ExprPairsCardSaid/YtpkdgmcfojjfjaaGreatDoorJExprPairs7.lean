/- ExprWhole: the walk. ExprRound: the walk. ExprPairs: the walk. -/
import Derived.Test.YtpkdgmcfojjfjaaGreatDoorJ6
namespace Go.Vi
open Go Go.Proofs

theorem NodesAt.sel {H : AHeap} {v : Value} {ns : List Nod} (h : NodesAt H v ns) : ∀ n ∈ ns, n.sel.length < 2 ^ 63 := by
  intro n hn
  obtain ⟨cl, _, _, h3⟩ := h
  obtain ⟨i, hi⟩ := List.getElem?_of_mem hn
  obtain ⟨sv, _, _, h4⟩ := h3 i n hi
  omega
theorem conO_le {T : List Tok} {p : List Nod × Nat} (h : conO T 0 = some p) : p.2 ≤ T.length := by
  have he : Emb T T 0 := ⟨fun a t ht => ⟨t, by simpa using ht, rfl, rfl⟩, fun u hu => by simp at hu⟩
  exact (he.str [] _ _ _ _ _ _ (Nat.zero_le _) ((conO_str T 0).trans (congrArg some h))).1
theorem readF_zero (T : List Tok) : readF T 0 = match conO T 0 with
    | none => ([], 0, 100)
    | some p => if (p.1.length : Int) > 31 then ([], 0, 4) else (p.1, p.2, 0) := by
  unfold readF
  by_cases hts : (0 : Int) ≥ T.length
  · have : T = [] := List.eq_nil_of_length_eq_zero (by omega)
    rw [if_pos (.inr hts), this, conO_nil]
  · (rw [if_neg (by omega)] <;> rfl)
theorem w_whole {H : AHeap} {s : List UInt8} (hg : Pre Gs H) : ACalls Tryz.prog 3 [str s] H (.bool true) H := by
  refine acalls_pure MixT Tryz.func3 (by decide) rfl ?_
  rw [d3]
  refine bndC_of (c_awake hg) ?_
  simp
  refine kifB_bool (fun _ => ?_) (fun hc => ?_)
  · simp
  · obtain ⟨v, K1, ⟨lv, rfl, g1, g2⟩, g3⟩ := c_lexAll H s
    refine bndC_of g3 ?_
    simp
    obtain ⟨v2, K2, a2, p2, n2⟩ := g_parse (s := s) (hg.trans g1)
    obtain ⟨hnt, hnl⟩ := allTok_ok (l := s)
    by_cases he : (allTok s).2.2 = 0
    · obtain ⟨v3, K3, a3, p3, n3, _⟩ := g_read (at' := 0) (ts := (allTok s).1) ((hg.trans g1).trans p2) hnt (by omega) (g2.pre p2)
      have hX : ∃ X, K3 = H ++ X := (g1.trans p2).trans p3
      have hlv : ∀ J, aLen Tryz.prog J 23 lv = some (i64 (allTok s).1.length) := fun J => by
        have := g2.len' (K := J) (P := Tryz.prog) (T := 23) (e := 70) (by simp)
        simpa using this
      have hr := readF_zero (allTok s).1
      have hp : parseF s = match conO (allTok s).1 0 with
          | none => ([], 100)
          | some p => if p.2 ≠ (allTok s).1.length then ([], 100) else if (p.1.length : Int) > 31 then ([], 4) else (p.1, 0) := by unfold parseF; (rw [if_neg (by simpa using he)] <;> rfl)
      cases hc : conO (allTok s).1 0 with
      | none =>
        rw [hc] at hr hp
        simp only at hr hp
        rw [hr] at a3
        rw [hp] at a2
        refine bndC_of a2 ?_
        simp [he]
        refine bndC_of a3 ?_
        simp; exact hX
      | some p =>
        have hle := conO_le hc
        rw [hc] at hr hp
        simp only at hr hp
        by_cases h31 : (p.1.length : Int) > 31
        · rw [if_pos h31] at hr hp
          rw [hr] at a3
          have hp2 : (parseF s).2 = 100 ∨ (parseF s).2 = 4 := by rw [hp]; split <;> simp
          rcases hp2 with hp2 | hp2 <;> rw [hp2] at a2 <;> refine bndC_of a2 ?_ <;> simp [he] <;> refine bndC_of a3 ?_ <;> simp <;> exact hX
        · rw [if_neg h31] at hr hp
          rw [hr] at a3 n3
          by_cases hl : p.2 ≠ (allTok s).1.length
          · rw [if_pos hl] at hp
            rw [hp] at a2
            have : p.2 < (allTok s).1.length := by omega
            refine bndC_of a2 ?_
            simp [he]
            refine bndC_of a3 ?_
            simp [hlv, this]; exact hX
          · rw [if_neg hl] at hp
            rw [hp] at a2 n2
            have hl' : p.2 = (allTok s).1.length := by omega
            have hn2 := n2.pre p3
            refine bndC_of a2 ?_
            simp [he]
            refine bndC_of a3 ?_
            simp [hlv, hl']
            refine bndG_t (.bool true) K3 (c_sameN hn2 n3 (by simp only; omega) hn2.sel) ?_
            simp
            exact hX
    · have hp : parseF s = ([], (allTok s).2.2) := by unfold parseF; rw [if_pos he]
      rw [hp] at a2 n2
      have hl2 := n2.len K2
      simp at hl2
      have he2 : ((allTok s).2.2 != 0) = true := by simpa using he
      refine bndC_of a2 ?_
      simp [he2, hl2]
      exact g1.trans p2
end Go.Vi
namespace Go.Vi
open Go Go.Proofs

theorem parseF_one (s : List UInt8) : (parseF s).1.length ≤ 31 := by
  unfold parseF
  by_cases h1 : (allTok s).2.2 ≠ 0
  · rw [if_pos h1]; simp
  · rw [if_neg h1]
    cases conO (allTok s).1 0 with
    | none => simp
    | some p =>
      simp only
      split
      · simp
      · split
        · simp
        · simp only; omega
theorem c_sameP {H : AHeap} {v1 v2 : Value} {s : List UInt8} (h1 : NodesAt H v1 (parseF s).1) (h2 : NodesAt H v2 (parseF s).1) : ACalls Tryz.prog 19 [v1, v2] H (.bool true) H :=
  c_sameN h1 h2 (by have := parseF_one s; omega) h1.sel
theorem round_loop {H : AHeap} {s : List UInt8} {v : Value} {k : Value → AHeap → Prop} (hg : Pre Gs H) (hp : (parseF s).2 = 0) (hs : s.length ≤ 1500) {m : Nat} (hm : m ≤ 1000) (hv : NodesAt H v (parseF s).1) (hk : ∀ X, k (.bool true) (H ++ X)) :
    ∀ (n i : Nat) (s2 s3 s4 s6 s10 s11 s12 s13 s14 s15 s16 s17 s18 s19 s20 s21 s22 s23 s24 s25 s26 s27 s28 s29 s30 s31 s32 s33 s34 s35 s36 s37 s38 s39 s40 s41 s42 s43 s44 s45 s46 s47 s48 s49 s50 s51 s52 s53 s54 s55 s56 s57 : Value), n + i = m → L4x0 (n + 1) k [str s, i64 m, s2, s3, s4, v, s6, str (List.replicate i 40), str (List.replicate i 41), i64 i, s10, s11, s12, s13, s14, s15, s16, s17, s18, s19, s20, s21, s22, s23, s24, s25, s26, s27, s28, s29, s30, s31, s32, s33, s34, s35, s36, s37, s38, s39, s40, s41, s42, s43, s44, s45, s46, s47, s48, s49, s50, s51, s52, s53, s54, s55, s56, s57] H := by
  intro n
  induction n with
  | zero =>
    intro i s2 s3 s4 s6 s10 s11 s12 s13 s14 s15 s16 s17 s18 s19 s20 s21 s22 s23 s24 s25 s26 s27 s28 s29 s30 s31 s32 s33 s34 s35 s36 s37 s38 s39 s40 s41 s42 s43 s44 s45 s46 s47 s48 s49 s50 s51 s52 s53 s54 s55 s56 s57 hi
    obtain rfl : i = m := by omega
    rw [L4x0q]
    have : ¬ ((i : Int) < i) := by omega
    simp
    refine bnd_of (aBin_str (a := List.replicate i 40) (b := s) (by simp; omega)) ?_
    dsimp only
    refine bnd_of (aBin_str (b := [10]) (by simp; omega)) ?_
    dsimp only
    refine bnd_of (aBin_str (b := List.replicate i 41) (by simp; omega)) ?_
    dsimp only
    obtain ⟨v2, K2, a2, p2, n2⟩ := g_parse (s := List.replicate i 40 ++ s ++ [10] ++ List.replicate i 41) hg
    have e : List.replicate i 40 ++ s ++ [10] ++ List.replicate i 41 = List.replicate i 40 ++ (s ++ 10 :: List.replicate i 41) := by simp
    have hr := round_plain hs hm hp
    rw [← e] at hr
    rw [hr] at a2 n2
    rw [hp] at a2
    obtain ⟨X, rfl⟩ := p2
    refine bndC_of a2 ?_
    simp
    refine bndG_t (.bool true) _ (c_sameP (hv.pre (.app H X)) n2) ?_
    simp
    exact hk X
  | succ n ih =>
    intro i s2 s3 s4 s6 s10 s11 s12 s13 s14 s15 s16 s17 s18 s19 s20 s21 s22 s23 s24 s25 s26 s27 s28 s29 s30 s31 s32 s33 s34 s35 s36 s37 s38 s39 s40 s41 s42 s43 s44 s45 s46 s47 s48 s49 s50 s51 s52 s53 s54 s55 s56 s57 hi
    have hlt : i < m := by omega
    have w1 : IntKind.i64.wrap ((i : Int) + 1) = ((i + 1 : Nat) : Int) := by rw [wrap_i64 (by omega) (by omega)]; omega
    rw [L4x0q]
    simp [hlt]
    refine bnd_of (aBin_str (a := List.replicate i 40) (b := [40]) (by simp; omega)) ?_
    dsimp only
    refine bnd_of (aBin_str (a := List.replicate i 41) (b := [41]) (by simp; omega)) ?_
    dsimp only
    simp [w1]
    rw [show ((i : Int) + 1) = ((i + 1 : Nat) : Int) by omega, ← List.replicate_succ', ← List.replicate_succ']
    exact ih (i + 1) _ _ _ _ _ _ _ _ _ _ _ _ _ _ _ _ _ _ _ _ _ _ _ _ _ _ _ _ _ _ _ _ _ _ _ _ _ _ _ _ _ _ _ _ _ _ _ _ _ _ _ _ (by omega)
theorem w_round {H : AHeap} {s : List UInt8} {n : Int} (hg : Pre Gs H) : ACalls Tryz.prog 4 [str s, i64 n] H (.bool true) H := by
  refine acalls_pure MixT Tryz.func4 (by decide) rfl ?_
  rw [d4]
  refine bndC_of (c_awake hg) ?_
  simp
  by_cases h1 : s.length ≤ 1500
  · have h1' : ¬ ((1500 : Int) < s.length) := by omega
    by_cases h2 : n < 0
    · simp [h1', h2]
    · by_cases h3 : (1000 : Int) < n
      · simp [h1', h2, h3]
      · simp [h1', h2, h3]
        obtain ⟨v2, K2, a2, ⟨X, rfl⟩, n2⟩ := g_parse (s := s) hg
        refine bndC_of a2 ?_
        simp
        by_cases hp : (parseF s).2 = 0
        · obtain ⟨m, rfl⟩ : ∃ m : Nat, n = m := ⟨n.toNat, by omega⟩
          simp [hp]
          have := round_loop (k := fun u H2 => u = .bool true ∧ ∃ X, H2 = H ++ X) (m := m) (hg.trans (.app H X)) hp h1 (by omega) n2 (fun Y => ⟨rfl, X ++ Y, by simp⟩) m 0
          exact ⟨_, this _ _ _ _ _ _ _ _ _ _ _ _ _ _ _ _ _ _ _ _ _ _ _ _ _ _ _ _ _ _ _ _ _ _ _ _ _ _ _ _ _ _ _ _ _ _ _ _ _ _ _ _ (by omega)⟩
        · have hp2 : ((parseF s).2 != 0) = true := by simpa using hp
          simp [hp2]
  · have h1' : (1500 : Int) < s.length := by omega
    simp [h1']
end Go.Vi
namespace Go.Vi
open Go Go.Proofs

/-- Where a node's sides may lie. -/
def sideN (k : Nat) (n : Nod) : Prop := -1 ≤ n.left ∧ n.left ≤ k ∧ -1 ≤ n.right ∧ n.right ≤ k
theorem cmpO_side {ts : List Tok} {a : Nat} {p : Nod × Nat} (hc : cmpO ts a = some p) (k : Nat) : sideN k p.1 := by
  unfold cmpO at hc
  obtain ⟨b1, h1, hc⟩ := Option.bind_eq_some_iff.1 hc
  obtain ⟨b2, h2, hc⟩ := Option.bind_eq_some_iff.1 hc
  obtain ⟨q, h3, hc⟩ := Option.bind_eq_some_iff.1 hc
  obtain ⟨b3, h4, hc⟩ := Option.bind_eq_some_iff.1 hc
  obtain ⟨w, h5, hc⟩ := Option.bind_eq_some_iff.1 hc
  obtain ⟨b4, h6, hc⟩ := Option.bind_eq_some_iff.1 hc
  obtain ⟨b5, h7, hc⟩ := Option.bind_eq_some_iff.1 hc
  obtain ⟨b6, h8, hc⟩ := Option.bind_eq_some_iff.1 hc
  obtain ⟨v, h9, hc⟩ := Option.bind_eq_some_iff.1 hc
  cases hc
  unfold sideN
  simp only
  omega
theorem strO_side {ts : List Tok} {k : Nat} : ∀ (f : Nat) {m a l l' b}, strO ts f m a l = some (some (l', b)) → l'.length ≤ k → (∀ n ∈ l, sideN k n) → ∀ n ∈ l', sideN k n := by
  intro f
  induction f with
  | zero => intro m a l l' b h; cases h
  | succ f ih =>
    intro m a l l' b h hk hl
    unfold strO at h
    by_cases hm : m = 2
    · rw [if_pos hm] at h
      by_cases h1 : isT ts a 1 notS = true
      · rw [if_pos h1] at h
        obtain ⟨q, e1, e2⟩ := Option.map_eq_some_iff.1 h
        obtain ⟨p, rfl, e3⟩ := Option.map_eq_some_iff.1 e2
        simp only [Prod.mk.injEq] at e3
        obtain ⟨rfl, rfl⟩ := e3
        simp only [List.length_append, List.length_cons, List.length_nil] at hk
        have := ih e1 (by omega) hl
        intro n hn
        rcases List.mem_append.1 hn with hn | hn
        · exact this n hn
        · simp only [List.mem_singleton] at hn
          subst hn
          unfold sideN opN
          simp only
          omega
      · rw [if_neg h1] at h
        by_cases h2 : isT ts a 4 [40] = true
        · rw [if_pos h2] at h
          obtain ⟨q, e1, e2⟩ := Option.map_eq_some_iff.1 h
          obtain ⟨p, rfl, e3⟩ := Option.bind_eq_some_iff.1 e2
          obtain ⟨c, e4, e5⟩ := Option.map_eq_some_iff.1 e3
          cases e5
          exact ih e1 hk hl
        · rw [if_neg h2] at h
          simp only [Option.some.injEq] at h
          obtain ⟨p, e1, e2⟩ := Option.map_eq_some_iff.1 h
          cases e2
          intro n hn
          rcases List.mem_append.1 hn with hn | hn
          · exact hl n hn
          · simp only [List.mem_singleton] at hn
            subst hn
            exact cmpO_side e1 k
    · rw [if_neg hm] at h
      by_cases hm2 : m < 2
      · rw [if_pos hm2] at h
        obtain ⟨q, e1, e2⟩ := Option.bind_eq_some_iff.1 h
        cases q with
        | none => cases e2
        | some p => exact ih e2 hk (ih e1 (Nat.le_trans (strO_len _ e2).2.1 hk) hl)
      · rw [if_neg hm2] at h
        by_cases hw : isT ts a 1 (wordO (m - 10)) = true
        · rw [if_pos hw] at h
          obtain ⟨q, e1, e2⟩ := Option.bind_eq_some_iff.1 h
          cases q with
          | none => cases e2
          | some p =>
            have hlen := (strO_len _ e2).2.1
            simp only [List.length_append, List.length_cons, List.length_nil] at hlen
            have h0 := (strO_len _ e1).2.1
            refine ih e2 hk fun n hn => ?_
            rcases List.mem_append.1 hn with hn | hn
            · exact ih e1 (by omega) hl n hn
            · simp only [List.mem_singleton] at hn
              subst hn
              unfold sideN opN
              simp only
              omega
        · rw [if_neg hw] at h
          simp only [Option.some.injEq, Prod.mk.injEq] at h
          obtain ⟨rfl, rfl⟩ := h
          exact hl
theorem parseF_side {s : List UInt8} (h : (parseF s).2 = 0) : ∀ n ∈ (parseF s).1, sideN 31 n := by
  obtain ⟨h1, h2, h3⟩ := parseF_ok h
  exact strO_side _ ((conO_str _ 0).trans (congrArg some h2)) h3 (fun n hn => by cases hn)
theorem node_ld {H : AHeap} {v : Value} {ns : List Nod} {i : Nat} {n : Nod} (h : NodesAt H v ns) (hi : ns[i]? = some n) : ∃ sv, sv.oneCell' = true ∧ ∃ p, aIndexAddr Tryz.prog H 27 v (i64 i) = some p ∧ aLoad Tryz.prog H 37 p = some (.agg (n.cells sv).toArray) := by
  obtain ⟨cl, ha, hcl, hc⟩ := h
  obtain ⟨sv, q1, q2, q3⟩ := hc _ _ hi
  exact ⟨sv, q2.one, ha.load (P := Tryz.prog) (T := 27) (te := 37) (by simp) (by simp) (by simp) q1⟩
theorem shN_kind (k : Nat) (n : Nod) : (shN k n).kind = n.kind := by unfold shN; split <;> (try split) <;> rfl
theorem shN_left {k : Nat} {n : Nod} (h : n.kind ≠ 0) : (shN k n).left = n.left + k := by unfold shN; rw [if_neg h]; split <;> rfl
theorem shN_right {k : Nat} {n : Nod} (h : n.kind ≠ 0) (h3 : n.kind ≠ 3) : (shN k n).right = n.right + k := by unfold shN; rw [if_neg h, if_neg h3]
set_option maxRecDepth 20000 in
set_option maxHeartbeats 1000000 in
theorem pairs_loop {H : AHeap} {va vb vw : Value} {A B W : List Nod} {k : Value → AHeap → Prop} (ha : NodesAt H va A) (hb : NodesAt H vb B) (hw : NodesAt H vw W) (hAl : A.length ≤ 31) (hBl : B.length ≤ 31) (hWB : ∀ (i : Nat) n, B[i]? = some n → W[A.length + i]? = some (shN A.length n)) (hs : ∀ n ∈ B, sideN 31 n) (hk : ∀ X, k (.bool true) (H ++ X)) :
    ∀ (n i : Nat) (X : AHeap) (s0 s1 s2 s3 s4 s5 s6 s8 s10 s11 s12 s14 s15 s16 s17 s19 s20 s21 s22 s23 s24 s25 s26 s27 s28 s29 s30 s31 s32 s33 s34 s35 s36 s37 s38 s39 s40 s41 s42 s43 s44 s45 s46 s47 s48 s49 s50 s51 s52 s53 s54 s55 s56 s57 s58 s59 s60 s61 s62 s63 s64 s65 s66 s67 s68 s69 s70 s71 s72 s73 s74 s75 s76 s77 s78 s79 s80 s81 s82 s83 s84 s85 s86 s87 s88 s89 s90 s91 s92 s93 s94 s95 s96 s97 s98 s99 s100 s101 s102 s103 s104 s105 s106 s107 s108 s109 s110 s111 s112 s113 s114 s115 s116 s117 s118 s119 s120 s121 s122 s123 s124 s125 s126 s127 s128 s129 s130 s131 s132 s133 s134 s135 s136 s137 s138 s139 s140 s141 s142 s143 s144 s145 s146 s147 s148 s149 s150 s151 s152 s153 s154 s155 s156 s157 s158 s159 s160 s161 s162 s163 s164 s165 s166 s167 s168 s169 s170 s171 s172 s173 s174 s175 s176 s177 s178 s179 s180 s181 s182 s183 s184 s185 s186 s187 s188 s189 s190 s191 s192 s193 s194 s195 s196 s197 s198 s199 s200 s201 s202 s203 s204 s205 s206 s207 s208 s209 s210 s211 s212 s213 s214 s215 s216 s217 s218 s219 s220 s221 s222 s223 s224 s225 s226 s227 s228 s229 s230 s231 s232 s233 s234 s235 : Value), n + i = B.length → L5x0 (n + 1) k [s0, s1, s2, s3, s4, s5, s6, va, s8, vb, s10, s11, s12, vw, s14, s15, s16, s17, i64 i, s19, s20, s21, s22, s23, s24, s25, s26, s27, s28, s29, s30, s31, s32, s33, s34, s35, s36, s37, s38, s39, s40, s41, s42, s43, s44, s45, s46, s47, s48, s49, s50, s51, s52, s53, s54, s55, s56, s57, s58, s59, s60, s61, s62, s63, s64, s65, s66, s67, s68, s69, s70, s71, s72, s73, s74, s75, s76, s77, s78, s79, s80, s81, s82, s83, s84, s85, s86, s87, s88, s89, s90, s91, s92, s93, s94, s95, s96, s97, s98, s99, s100, s101, s102, s103, s104, s105, s106, s107, s108, s109, s110, s111, s112, s113, s114, s115, s116, s117, s118, s119, s120, s121, s122, s123, s124, s125, s126, s127, s128, s129, s130, s131, s132, s133, s134, s135, s136, s137, s138, s139, s140, s141, s142, s143, s144, s145, s146, s147, s148, s149, s150, s151, s152, s153, s154, s155, s156, s157, s158, s159, s160, s161, s162, s163, s164, s165, s166, s167, s168, s169, s170, s171, s172, s173, s174, s175, s176, s177, s178, s179, s180, s181, s182, s183, s184, s185, s186, s187, s188, s189, s190, s191, s192, s193, s194, s195, s196, s197, s198, s199, s200, s201, s202, s203, s204, s205, s206, s207, s208, s209, s210, s211, s212, s213, s214, s215, s216, s217, s218, s219, s220, s221, s222, s223, s224, s225, s226, s227, s228, s229, s230, s231, s232, s233, s234, s235] (H ++ X) := by
  intro n
  have la := ha.len
  have lb := hb.len
  induction n with
  | zero =>
    intro i X s0 s1 s2 s3 s4 s5 s6 s8 s10 s11 s12 s14 s15 s16 s17 s19 s20 s21 s22 s23 s24 s25 s26 s27 s28 s29 s30 s31 s32 s33 s34 s35 s36 s37 s38 s39 s40 s41 s42 s43 s44 s45 s46 s47 s48 s49 s50 s51 s52 s53 s54 s55 s56 s57 s58 s59 s60 s61 s62 s63 s64 s65 s66 s67 s68 s69 s70 s71 s72 s73 s74 s75 s76 s77 s78 s79 s80 s81 s82 s83 s84 s85 s86 s87 s88 s89 s90 s91 s92 s93 s94 s95 s96 s97 s98 s99 s100 s101 s102 s103 s104 s105 s106 s107 s108 s109 s110 s111 s112 s113 s114 s115 s116 s117 s118 s119 s120 s121 s122 s123 s124 s125 s126 s127 s128 s129 s130 s131 s132 s133 s134 s135 s136 s137 s138 s139 s140 s141 s142 s143 s144 s145 s146 s147 s148 s149 s150 s151 s152 s153 s154 s155 s156 s157 s158 s159 s160 s161 s162 s163 s164 s165 s166 s167 s168 s169 s170 s171 s172 s173 s174 s175 s176 s177 s178 s179 s180 s181 s182 s183 s184 s185 s186 s187 s188 s189 s190 s191 s192 s193 s194 s195 s196 s197 s198 s199 s200 s201 s202 s203 s204 s205 s206 s207 s208 s209 s210 s211 s212 s213 s214 s215 s216 s217 s218 s219 s220 s221 s222 s223 s224 s225 s226 s227 s228 s229 s230 s231 s232 s233 s234 s235 hi
    rw [L5x0q]
    have : ¬ i < B.length := by omega
    simp [lb, this]
    exact hk X
  | succ n ih =>
    intro i X s0 s1 s2 s3 s4 s5 s6 s8 s10 s11 s12 s14 s15 s16 s17 s19 s20 s21 s22 s23 s24 s25 s26 s27 s28 s29 s30 s31 s32 s33 s34 s35 s36 s37 s38 s39 s40 s41 s42 s43 s44 s45 s46 s47 s48 s49 s50 s51 s52 s53 s54 s55 s56 s57 s58 s59 s60 s61 s62 s63 s64 s65 s66 s67 s68 s69 s70 s71 s72 s73 s74 s75 s76 s77 s78 s79 s80 s81 s82 s83 s84 s85 s86 s87 s88 s89 s90 s91 s92 s93 s94 s95 s96 s97 s98 s99 s100 s101 s102 s103 s104 s105 s106 s107 s108 s109 s110 s111 s112 s113 s114 s115 s116 s117 s118 s119 s120 s121 s122 s123 s124 s125 s126 s127 s128 s129 s130 s131 s132 s133 s134 s135 s136 s137 s138 s139 s140 s141 s142 s143 s144 s145 s146 s147 s148 s149 s150 s151 s152 s153 s154 s155 s156 s157 s158 s159 s160 s161 s162 s163 s164 s165 s166 s167 s168 s169 s170 s171 s172 s173 s174 s175 s176 s177 s178 s179 s180 s181 s182 s183 s184 s185 s186 s187 s188 s189 s190 s191 s192 s193 s194 s195 s196 s197 s198 s199 s200 s201 s202 s203 s204 s205 s206 s207 s208 s209 s210 s211 s212 s213 s214 s215 s216 s217 s218 s219 s220 s221 s222 s223 s224 s225 s226 s227 s228 s229 s230 s231 s232 s233 s234 s235 hi
    have hlt : i < B.length := by omega
    rw [L5x0q]
    obtain ⟨m, hm⟩ : ∃ m, B[i]? = some m := ⟨_, List.getElem?_eq_getElem hlt⟩
    have hW := hWB i m hm
    have w1 : IntKind.i64.wrap ((i : Int) + 1) = ((i + 1 : Nat) : Int) := by rw [wrap_i64 (by omega) (by omega)]; omega
    have w2 : IntKind.i64.wrap ((A.length : Int) + i) = ((A.length + i : Nat) : Int) := by rw [wrap_i64 (by omega) (by omega)]; omega
    obtain ⟨sv, o1, p, p1, p2⟩ := node_ld (hw.pre (.app H X)) hW
    have hsd := hs m (List.mem_of_getElem? hm)
    unfold sideN at hsd
    have w3 : IntKind.i64.wrap (m.left + A.length) = m.left + A.length := wrap_i64 (by omega) (by omega)
    have w4 : IntKind.i64.wrap (m.right + A.length) = m.right + A.length := wrap_i64 (by omega) (by omega)
    refine bnd_of (lb _) ?_
    refine bnd_of (v := .bool true) (by simp [hlt]) ?_
    dsimp only
    rw [kifB_true]
    dsimp only
    refine bnd_of (la _) ?_
    refine bnd_of (v := i64 ((A.length + i : Nat) : Int)) (by simp [w2]) ?_
    refine bnd_of p1 ?_
    refine bnd_of p2 ?_
    dsimp only
    simp only [tal37, bndE_some]
    have hst : aStore Tryz.prog (H ++ X ++ [AObj.cells [.int .u8 0, .int .u8 0, .slice none 0 0, .int .i64 0, .int .u8 0, .int .i64 0, .int .i64 0, .int .i64 0] 37]) 37 (.pointer (some ⟨(H ++ X).length, 0, some 8⟩)) (.agg ((shN A.length m).cells sv).toArray) = some (H ++ X ++ [AObj.cells ((shN A.length m).cells sv) 37]) := by simp [Nod.cells, o1]
    rw [hst]
    simp only [bndS_some]
    obtain ⟨K, hK⟩ : ∃ K, K = H ++ X ++ [.cells ((shN A.length m).cells sv) 37] := ⟨_, rfl⟩
    have hKX : K = H ++ (X ++ [.cells ((shN A.length m).cells sv) 37]) := by rw [hK]; simp
    have f1 : hcells K (H.length + X.length) = some ((shN A.length m).cells sv) := by rw [hK, ← List.length_append]; simp
    have f2 : Vi.hlen K (H.length + X.length) = some 8 := by rw [hK, ← List.length_append]; simp [Nod.cells]
    have hbK : NodesAt K vb B := by rw [hKX]; exact hb.pre (.app H _)
    obtain ⟨q, q1, q2⟩ := node_at hbK hm
    obtain ⟨x0, c0, d0⟩ := q2 0 0 5 (byt m.kind) (by simp) (by simp) (by simp) (fun _ => rfl)
    obtain ⟨x6, c6, d6⟩ := q2 6 6 3 (i64 m.left) (by simp) (by simp) (by simp) (fun _ => rfl)
    obtain ⟨x7, c7, d7⟩ := q2 7 7 3 (i64 m.right) (by simp) (by simp) (by simp) (fun _ => rfl)
    rw [← hK, List.length_append]
    clear hst hK p1 p2 hbK q2
    have ej : ((i : Int) + 1) = ((i + 1 : Nat) : Int) := by omega
    simp only [Nod.cells, shN_kind] at f1
    by_cases k0 : m.kind = 0
    · have e0 : (m.kind.toNat : Int) = 0 := by rw [k0]; rfl
      simp only [byt, e0] at f1 d0
      simp [f1, f2, q1, c0, d0, w1]
      rw [hKX, ej]
      exact ih (i + 1) _ _ _ _ _ _ _ _ _ _ _ _ _ _ _ _ _ _ _ _ _ _ _ _ _ _ _ _ _ _ _ _ _ _ _ _ _ _ _ _ _ _ _ _ _ _ _ _ _ _ _ _ _ _ _ _ _ _ _ _ _ _ _ _ _ _ _ _ _ _ _ _ _ _ _ _ _ _ _ _ _ _ _ _ _ _ _ _ _ _ _ _ _ _ _ _ _ _ _ _ _ _ _ _ _ _ _ _ _ _ _ _ _ _ _ _ _ _ _ _ _ _ _ _ _ _ _ _ _ _ _ _ _ _ _ _ _ _ _ _ _ _ _ _ _ _ _ _ _ _ _ _ _ _ _ _ _ _ _ _ _ _ _ _ _ _ _ _ _ _ _ _ _ _ _ _ _ _ _ _ _ _ _ _ _ _ _ _ _ _ _ _ _ _ _ _ _ _ _ _ _ _ _ _ _ _ _ _ _ _ _ _ _ _ _ _ _ _ _ _ _ _ _ _ _ _ _ _ _ _ _ _ _ (by omega)
    · have eL := shN_left (k := A.length) k0
      have e0 : ¬ ((m.kind.toNat : Int) = 0) := fun e => k0 (UInt8.toNat_inj.1 (by simpa using e))
      by_cases k3 : m.kind = 3
      · have e3 : (m.kind.toNat : Int) = 3 := by rw [k3]; rfl
        rw [eL] at f1
        simp only [byt, e3] at f1 d0
        simp [f1, f2, q1, c0, d0, c6, d6, la, w1, w3]
        rw [hKX, ej]
        exact ih (i + 1) _ _ _ _ _ _ _ _ _ _ _ _ _ _ _ _ _ _ _ _ _ _ _ _ _ _ _ _ _ _ _ _ _ _ _ _ _ _ _ _ _ _ _ _ _ _ _ _ _ _ _ _ _ _ _ _ _ _ _ _ _ _ _ _ _ _ _ _ _ _ _ _ _ _ _ _ _ _ _ _ _ _ _ _ _ _ _ _ _ _ _ _ _ _ _ _ _ _ _ _ _ _ _ _ _ _ _ _ _ _ _ _ _ _ _ _ _ _ _ _ _ _ _ _ _ _ _ _ _ _ _ _ _ _ _ _ _ _ _ _ _ _ _ _ _ _ _ _ _ _ _ _ _ _ _ _ _ _ _ _ _ _ _ _ _ _ _ _ _ _ _ _ _ _ _ _ _ _ _ _ _ _ _ _ _ _ _ _ _ _ _ _ _ _ _ _ _ _ _ _ _ _ _ _ _ _ _ _ _ _ _ _ _ _ _ _ _ _ _ _ _ _ _ _ _ _ _ _ _ _ _ _ _ (by omega)
      · have eR := shN_right (k := A.length) k0 k3
        rw [eL, eR] at f1
        by_cases k1 : (m.kind.toNat : Int) = 1
        · simp only [byt, k1] at f1 d0
          simp [f1, f2, q1, c0, d0, c6, d6, c7, d7, la, w1, w3, w4]
          rw [hKX, ej]
          exact ih (i + 1) _ _ _ _ _ _ _ _ _ _ _ _ _ _ _ _ _ _ _ _ _ _ _ _ _ _ _ _ _ _ _ _ _ _ _ _ _ _ _ _ _ _ _ _ _ _ _ _ _ _ _ _ _ _ _ _ _ _ _ _ _ _ _ _ _ _ _ _ _ _ _ _ _ _ _ _ _ _ _ _ _ _ _ _ _ _ _ _ _ _ _ _ _ _ _ _ _ _ _ _ _ _ _ _ _ _ _ _ _ _ _ _ _ _ _ _ _ _ _ _ _ _ _ _ _ _ _ _ _ _ _ _ _ _ _ _ _ _ _ _ _ _ _ _ _ _ _ _ _ _ _ _ _ _ _ _ _ _ _ _ _ _ _ _ _ _ _ _ _ _ _ _ _ _ _ _ _ _ _ _ _ _ _ _ _ _ _ _ _ _ _ _ _ _ _ _ _ _ _ _ _ _ _ _ _ _ _ _ _ _ _ _ _ _ _ _ _ _ _ _ _ _ _ _ _ _ _ _ _ _ _ _ _ (by omega)
        · by_cases k2 : (m.kind.toNat : Int) = 2
          · simp only [byt, k2] at f1 d0
            simp [f1, f2, q1, c0, d0, c6, d6, c7, d7, la, w1, w3, w4]
            rw [hKX, ej]
            exact ih (i + 1) _ _ _ _ _ _ _ _ _ _ _ _ _ _ _ _ _ _ _ _ _ _ _ _ _ _ _ _ _ _ _ _ _ _ _ _ _ _ _ _ _ _ _ _ _ _ _ _ _ _ _ _ _ _ _ _ _ _ _ _ _ _ _ _ _ _ _ _ _ _ _ _ _ _ _ _ _ _ _ _ _ _ _ _ _ _ _ _ _ _ _ _ _ _ _ _ _ _ _ _ _ _ _ _ _ _ _ _ _ _ _ _ _ _ _ _ _ _ _ _ _ _ _ _ _ _ _ _ _ _ _ _ _ _ _ _ _ _ _ _ _ _ _ _ _ _ _ _ _ _ _ _ _ _ _ _ _ _ _ _ _ _ _ _ _ _ _ _ _ _ _ _ _ _ _ _ _ _ _ _ _ _ _ _ _ _ _ _ _ _ _ _ _ _ _ _ _ _ _ _ _ _ _ _ _ _ _ _ _ _ _ _ _ _ _ _ _ _ _ _ _ _ _ _ _ _ _ _ _ _ _ _ _ (by omega)
          · have b0 : ((m.kind.toNat : Int) != 0) = true := by simpa using e0
            have b1 : ((m.kind.toNat : Int) == 1) = false := by simpa using k1
            have b2 : ((m.kind.toNat : Int) == 2) = false := by simpa using k2
            simp only [byt] at f1 d0
            simp [f1, f2, q1, c0, d0, c6, d6, la, w1, w3, b0, b1, b2]
            rw [hKX, ej]
            exact ih (i + 1) _ _ _ _ _ _ _ _ _ _ _ _ _ _ _ _ _ _ _ _ _ _ _ _ _ _ _ _ _ _ _ _ _ _ _ _ _ _ _ _ _ _ _ _ _ _ _ _ _ _ _ _ _ _ _ _ _ _ _ _ _ _ _ _ _ _ _ _ _ _ _ _ _ _ _ _ _ _ _ _ _ _ _ _ _ _ _ _ _ _ _ _ _ _ _ _ _ _ _ _ _ _ _ _ _ _ _ _ _ _ _ _ _ _ _ _ _ _ _ _ _ _ _ _ _ _ _ _ _ _ _ _ _ _ _ _ _ _ _ _ _ _ _ _ _ _ _ _ _ _ _ _ _ _ _ _ _ _ _ _ _ _ _ _ _ _ _ _ _ _ _ _ _ _ _ _ _ _ _ _ _ _ _ _ _ _ _ _ _ _ _ _ _ _ _ _ _ _ _ _ _ _ _ _ _ _ _ _ _ _ _ _ _ _ _ _ _ _ _ _ _ _ _ _ _ _ _ _ _ _ _ _ _ (by omega)
theorem pairs_loopJ {H J X : AHeap} {va vb vw : Value} {A B W : List Nod} {k : Value → AHeap → Prop} (ha : NodesAt H va A) (hb : NodesAt H vb B) (hw : NodesAt H vw W) (hAl : A.length ≤ 31) (hBl : B.length ≤ 31) (hWB : ∀ (i : Nat) n, B[i]? = some n → W[A.length + i]? = some (shN A.length n)) (hs : ∀ n ∈ B, sideN 31 n) (hk : ∀ X, k (.bool true) (H ++ X)) (hJ : J = H ++ X)
    (n i : Nat) (s0 s1 s2 s3 s4 s5 s6 s8 s10 s11 s12 s14 s15 s16 s17 s19 s20 s21 s22 s23 s24 s25 s26 s27 s28 s29 s30 s31 s32 s33 s34 s35 s36 s37 s38 s39 s40 s41 s42 s43 s44 s45 s46 s47 s48 s49 s50 s51 s52 s53 s54 s55 s56 s57 s58 s59 s60 s61 s62 s63 s64 s65 s66 s67 s68 s69 s70 s71 s72 s73 s74 s75 s76 s77 s78 s79 s80 s81 s82 s83 s84 s85 s86 s87 s88 s89 s90 s91 s92 s93 s94 s95 s96 s97 s98 s99 s100 s101 s102 s103 s104 s105 s106 s107 s108 s109 s110 s111 s112 s113 s114 s115 s116 s117 s118 s119 s120 s121 s122 s123 s124 s125 s126 s127 s128 s129 s130 s131 s132 s133 s134 s135 s136 s137 s138 s139 s140 s141 s142 s143 s144 s145 s146 s147 s148 s149 s150 s151 s152 s153 s154 s155 s156 s157 s158 s159 s160 s161 s162 s163 s164 s165 s166 s167 s168 s169 s170 s171 s172 s173 s174 s175 s176 s177 s178 s179 s180 s181 s182 s183 s184 s185 s186 s187 s188 s189 s190 s191 s192 s193 s194 s195 s196 s197 s198 s199 s200 s201 s202 s203 s204 s205 s206 s207 s208 s209 s210 s211 s212 s213 s214 s215 s216 s217 s218 s219 s220 s221 s222 s223 s224 s225 s226 s227 s228 s229 s230 s231 s232 s233 s234 s235 : Value) (h : n + i = B.length) : L5x0 (n + 1) k [s0, s1, s2, s3, s4, s5, s6, va, s8, vb, s10, s11, s12, vw, s14, s15, s16, s17, i64 i, s19, s20, s21, s22, s23, s24, s25, s26, s27, s28, s29, s30, s31, s32, s33, s34, s35, s36, s37, s38, s39, s40, s41, s42, s43, s44, s45, s46, s47, s48, s49, s50, s51, s52, s53, s54, s55, s56, s57, s58, s59, s60, s61, s62, s63, s64, s65, s66, s67, s68, s69, s70, s71, s72, s73, s74, s75, s76, s77, s78, s79, s80, s81, s82, s83, s84, s85, s86, s87, s88, s89, s90, s91, s92, s93, s94, s95, s96, s97, s98, s99, s100, s101, s102, s103, s104, s105, s106, s107, s108, s109, s110, s111, s112, s113, s114, s115, s116, s117, s118, s119, s120, s121, s122, s123, s124, s125, s126, s127, s128, s129, s130, s131, s132, s133, s134, s135, s136, s137, s138, s139, s140, s141, s142, s143, s144, s145, s146, s147, s148, s149, s150, s151, s152, s153, s154, s155, s156, s157, s158, s159, s160, s161, s162, s163, s164, s165, s166, s167, s168, s169, s170, s171, s172, s173, s174, s175, s176, s177, s178, s179, s180, s181, s182, s183, s184, s185, s186, s187, s188, s189, s190, s191, s192, s193, s194, s195, s196, s197, s198, s199, s200, s201, s202, s203, s204, s205, s206, s207, s208, s209, s210, s211, s212, s213, s214, s215, s216, s217, s218, s219, s220, s221, s222, s223, s224, s225, s226, s227, s228, s229, s230, s231, s232, s233, s234, s235] J := by
  subst hJ
  exact pairs_loop ha hb hw hAl hBl hWB hs hk n i X _ _ _ _ _ _ _ _ _ _ _ _ _ _ _ _ _ _ _ _ _ _ _ _ _ _ _ _ _ _ _ _ _ _ _ _ _ _ _ _ _ _ _ _ _ _ _ _ _ _ _ _ _ _ _ _ _ _ _ _ _ _ _ _ _ _ _ _ _ _ _ _ _ _ _ _ _ _ _ _ _ _ _ _ _ _ _ _ _ _ _ _ _ _ _ _ _ _ _ _ _ _ _ _ _ _ _ _ _ _ _ _ _ _ _ _ _ _ _ _ _ _ _ _ _ _ _ _ _ _ _ _ _ _ _ _ _ _ _ _ _ _ _ _ _ _ _ _ _ _ _ _ _ _ _ _ _ _ _ _ _ _ _ _ _ _ _ _ _ _ _ _ _ _ _ _ _ _ _ _ _ _ _ _ _ _ _ _ _ _ _ _ _ _ _ _ _ _ _ _ _ _ _ _ _ _ _ _ _ _ _ _ _ _ _ _ _ _ _ _ _ _ _ _ _ _ _ _ _ _ _ _ h
set_option maxRecDepth 20000 in
set_option maxHeartbeats 2000000 in
theorem pairs_tail {H : AHeap} {va vb : Value} {s t : List UInt8} {or' : Bool} {k : Value → AHeap → Prop} (hg : Pre Gs H) (hs : s.length ≤ 1500) (ht : t.length ≤ 1500) (h1 : (parseF s).2 = 0) (h2 : (parseF t).2 = 0)
    (ha : NodesAt H va (parseF s).1) (hb : NodesAt H vb (parseF t).1) (hk : ∀ X, k (.bool true) (H ++ X)) (s2 s3 s4 s5 s6 s8 s10 s13 s14 s15 s16 s17 s18 s19 s20 s21 s22 s23 s24 s25 s26 s27 s28 s29 s30 s31 s32 s33 s34 s35 s36 s37 s38 s39 s40 s41 s42 s43 s44 s45 s46 s47 s48 s49 s50 s51 s52 s53 s54 s55 s56 s57 s58 s59 s60 s61 s62 s63 s64 s65 s66 s67 s68 s69 s70 s71 s72 s73 s74 s75 s76 s77 s78 s79 s80 s81 s82 s83 s84 s85 s86 s87 s88 s89 s90 s91 s92 s93 s94 s95 s96 s97 s98 s99 s100 s101 s102 s103 s104 s105 s106 s107 s108 s109 s110 s111 s112 s113 s114 s115 s116 s117 s118 s119 s120 s121 s122 s123 s124 s125 s126 s127 s128 s129 s130 s131 s132 s133 s134 s135 s136 s137 s138 s139 s140 s141 s142 s143 s144 s145 s146 s147 s148 s149 s150 s151 s152 s153 s154 s155 s156 s157 s158 s159 s160 s161 s162 s163 s164 s165 s166 s167 s168 s169 s170 s171 s172 s173 s174 s175 s176 s177 s178 s179 s180 s181 s182 s183 s184 s185 s186 s187 s188 s189 s190 s191 s192 s193 s194 s195 s196 s197 s198 s199 s200 s201 s202 s203 s204 s205 s206 s207 s208 s209 s210 s211 s212 s213 s214 s215 s216 s217 s218 s219 s220 s221 s222 s223 s224 s225 s226 s227 s228 s229 s230 s231 s232 s233 s234 s235 : Value) :
    S5x0 k [str s, str t, s2, s3, s4, s5, s6, va, s8, vb, s10, str (wordB or'), byt (kindB or'), s13, s14, s15, s16, s17, s18, s19, s20, s21, s22, s23, s24, s25, s26, s27, s28, s29, s30, s31, s32, s33, s34, s35, s36, s37, s38, s39, s40, s41, s42, s43, s44, s45, s46, s47, s48, s49, s50, s51, s52, s53, s54, s55, s56, s57, s58, s59, s60, s61, s62, s63, s64, s65, s66, s67, s68, s69, s70, s71, s72, s73, s74, s75, s76, s77, s78, s79, s80, s81, s82, s83, s84, s85, s86, s87, s88, s89, s90, s91, s92, s93, s94, s95, s96, s97, s98, s99, s100, s101, s102, s103, s104, s105, s106, s107, s108, s109, s110, s111, s112, s113, s114, s115, s116, s117, s118, s119, s120, s121, s122, s123, s124, s125, s126, s127, s128, s129, s130, s131, s132, s133, s134, s135, s136, s137, s138, s139, s140, s141, s142, s143, s144, s145, s146, s147, s148, s149, s150, s151, s152, s153, s154, s155, s156, s157, s158, s159, s160, s161, s162, s163, s164, s165, s166, s167, s168, s169, s170, s171, s172, s173, s174, s175, s176, s177, s178, s179, s180, s181, s182, s183, s184, s185, s186, s187, s188, s189, s190, s191, s192, s193, s194, s195, s196, s197, s198, s199, s200, s201, s202, s203, s204, s205, s206, s207, s208, s209, s210, s211, s212, s213, s214, s215, s216, s217, s218, s219, s220, s221, s222, s223, s224, s225, s226, s227, s228, s229, s230, s231, s232, s233, s234, s235] H := by
  have hwb : (wordB or').length ≤ 5 := by cases or' <;> decide
  rw [S5x0q]
  refine bnd_of (aBin_str (a := [40]) (b := s) (by simp; omega)) ?_
  dsimp only
  refine bnd_of (aBin_str (b := [10, 41]) (by simp; omega)) ?_
  dsimp only
  refine bnd_of (aBin_str (b := wordB or') (by simp; omega)) ?_
  dsimp only
  refine bnd_of (aBin_str (b := [40]) (by simp; omega)) ?_
  dsimp only
  refine bnd_of (aBin_str (b := t) (by simp; omega)) ?_
  dsimp only
  refine bnd_of (aBin_str (b := [10, 41]) (by simp; omega)) ?_
  dsimp only
  obtain ⟨v1, K1, a1, p1, n1⟩ := g_parse (s := [40] ++ s ++ [10, 41] ++ wordB or' ++ [40] ++ t ++ [10, 41]) hg
  have e1 : [40] ++ s ++ [10, 41] ++ wordB or' ++ [40] ++ t ++ [10, 41] = [40] ++ (s ++ 10 :: 41 :: (wordB or' ++ 40 :: (t ++ [10, 41]))) := by simp
  have r1 := pairs_plain or' hs ht h1 h2
  rw [← e1] at r1
  rw [r1] at a1 n1
  clear r1 e1
  obtain ⟨v2, K2, a2, p2, n2⟩ := g_parse (s := [110, 111, 116, 32, 40] ++ s ++ [10, 41]) (hg.trans p1)
  have e2 : [110, 111, 116, 32, 40] ++ s ++ [10, 41] = [110, 111, 116, 32, 40] ++ (s ++ [10, 41]) := by simp
  have r2 := not_plain hs h1
  rw [← e2] at r2
  rw [r2] at a2 n2
  clear r2 e2
  have n1' := n1.pre p2
  have hA := parseF_one s
  have hB := parseF_one t
  have hsB := parseF_side h2
  generalize (parseF s).1 = A at *
  generalize (parseF t).1 = B at *
  have l2 : (two A B or').length = A.length + B.length + 1 := by simp [two]; omega
  have l1 : (neg1 A).length = A.length + 1 := by simp [neg1]
  rw [l2] at a1 n1 n1'
  rw [l1] at a2 n2
  obtain ⟨X, hX⟩ : ∃ X, K2 = H ++ X := p1.trans p2
  have la := ha.len
  have lb := hb.len
  have w1 : IntKind.i64.wrap ((A.length : Int) + B.length) = ((A.length + B.length : Nat) : Int) := by rw [wrap_i64 (by omega) (by omega)]; omega
  have w2 : IntKind.i64.wrap (((A.length + B.length : Nat) : Int) + 1) = ((A.length + B.length + 1 : Nat) : Int) := by rw [wrap_i64 (by omega) (by omega)]; omega
  have w3 : IntKind.i64.wrap ((A.length : Int) + 1) = ((A.length + 1 : Nat) : Int) := by rw [wrap_i64 (by omega) (by omega)]; omega
  have w4 : IntKind.i64.wrap ((A.length : Int) - 1) = (A.length : Int) - 1 := wrap_i64 (by omega) (by omega)
  have haK : NodesAt K2 va A := by rw [hX]; exact ha.pre (.app H X)
  by_cases c1 : A.length < 31
  · have d1 : ¬ (((A.length + 1 : Nat) : Int) > 31) := by omega
    rw [if_neg d1] at a2 n2
    simp only at a2 n2
    have ln := n2.len
    obtain ⟨tv, t1, t2⟩ := n2.take (j := A.length) (by simp [neg1])
    rw [show (neg1 A).take A.length = A by simp [neg1]] at t2
    obtain ⟨qq, q1, b2⟩ := node_at n2 (i := A.length) (n := opN 3 ((A.length : Int) - 1) 0) (by simp [neg1])
    obtain ⟨x0, c0, d0⟩ := b2 0 0 5 (.int .u8 3) (by simp) (by simp) (by simp) (fun _ => rfl)
    obtain ⟨x6, c6, d6⟩ := b2 6 6 3 (i64 ((A.length : Int) - 1)) (by simp) (by simp) (by simp) (fun _ => rfl)
    have hsm : ACalls Tryz.prog 19 [tv, va] K2 (.bool true) K2 := c_sameN t2 haK (by omega) haK.sel
    rw [l1] at ln
    have c1' : (A.length : Int) < 31 := by omega
    by_cases c2 : A.length + B.length < 31
    · have d2 : ¬ (((A.length + B.length + 1 : Nat) : Int) > 31) := by omega
      rw [if_neg d2] at a1 n1 n1'
      simp only at a1 n1 n1'
      refine bndC_of a1 ?_
      simp only [bnd_some, tupV, List.getElem?_toArray, List.getElem?_cons_zero, List.getElem?_cons_succ]
      refine bnd_of (v := str ([110, 111, 116, 32, 40] ++ s)) (aBin_str (a := [110, 111, 116, 32, 40]) (b := s) (by simp; omega)) ?_
      dsimp only
      refine bnd_of (aBin_str (b := [10, 41]) (by simp; omega)) ?_
      dsimp only
      refine bndC_of a2 ?_
      have c2' : ((A.length : Int) + B.length < 31) := by omega
      simp [la, lb, w1, c1', c2', ln, w3, aBin_bneq, t1]
      refine bndG_call (.bool true) (fun _ => hsm) ?_
      simp only [gsel_ff, gif_ff, bnd_some, unV_not, pickV_false, Bool.not_true]
      have ln1 := n1'.len
      rw [l2] at ln1
      have w5 : IntKind.i64.wrap (((A.length + B.length + 1 : Nat) : Int) - 1) = ((A.length + B.length : Nat) : Int) := by rw [wrap_i64 (by omega) (by omega)]; omega
      have w6 : IntKind.i64.wrap (((A.length + B.length + 1 : Nat) : Int) - 2) = (A.length : Int) + B.length - 1 := by rw [wrap_i64 (by omega) (by omega)]; omega
      have hlast : (two A B or')[A.length + B.length]? = some (opN (kindB or') ((A.length : Int) - 1) ((A.length : Int) + B.length - 1)) := by
        unfold two
        rw [List.getElem?_append_right (by simp), List.length_append, List.length_map, Nat.sub_self, List.getElem?_cons_zero]
        simp
      obtain ⟨sv, o1, p, z1, z2⟩ := node_ld n1' hlast
      rw [Int.natCast_add] at z1 w1
      obtain ⟨K, hK⟩ : ∃ K, K = K2 ++ [.cells ((opN (kindB or') ((A.length : Int) - 1) ((A.length : Int) + B.length - 1)).cells sv) 37] := ⟨_, rfl⟩
      have hKH : K = H ++ (X ++ [.cells ((opN (kindB or') ((A.length : Int) - 1) ((A.length : Int) + B.length - 1)).cells sv) 37]) := by rw [hK, hX]; simp
      have f1 : hcells K K2.length = some ((opN (kindB or') ((A.length : Int) - 1) ((A.length : Int) + B.length - 1)).cells sv) := by rw [hK]; simp
      have f2 : hlen K K2.length = some 8 := by rw [hK]; simp [Nod.cells]
      have n1K : NodesAt K v1 (two A B or') := by rw [hK]; exact n1'.pre (.app K2 _)
      have haK2 : NodesAt K va A := by rw [hK]; exact haK.pre (.app K2 _)
      obtain ⟨u, u1, u2⟩ := n1K.take (j := A.length) (by rw [l2]; omega)
      rw [show (two A B or').take A.length = A by simp [two]] at u2
      have hsm2 : ACalls Tryz.prog 19 [u, va] K (.bool true) K := c_sameN u2 haK2 (by omega) haK2.sel
      simp only [Nod.cells, opN] at hK f1
      simp [la, q1, c0, d0, c6, d6, w4, ln1, lb, w1, z1, z2, Nod.cells, opN, o1]
      rw [← hK]
      have w2' : IntKind.i64.wrap ((A.length : Int) + B.length + 1) = (A.length : Int) + B.length + 1 := wrap_i64 (by omega) (by omega)
      have w6' : IntKind.i64.wrap ((A.length : Int) + B.length + 1 - 2) = (A.length : Int) + B.length - 1 := by rw [wrap_i64 (by omega) (by omega)]; omega
      rw [w2']
      simp [la, u1]
      refine bndG_call (.bool true) (fun _ => hsm2) ?_
      simp [f1, f2, la, ln1, w4, w6']
      have hkK : ∀ Y, k (.bool true) (K ++ Y) := fun Y => by rw [hKH, List.append_assoc]; exact hk _
      have hbK2 : NodesAt K vb B := by rw [hKH]; exact hb.pre (.app H _)
      have hWB : ∀ (i : Nat) n, B[i]? = some n → (two A B or')[A.length + i]? = some (shN A.length n) := by
        intro i n hi
        have hlt := (List.getElem?_eq_some_iff.1 hi).1
        unfold two
        rw [List.append_assoc, List.getElem?_append_right (by omega), Nat.add_sub_cancel_left, List.getElem?_append_left (by simpa using hlt), List.getElem?_map, hi]
        rfl
      have hl := pairs_loopJ (k := k) (J := K) (X := []) haK2 hbK2 n1K hA hB hWB hsB hkK (by simp) B.length 0
      exact ⟨_, hl _ _ _ _ _ _ _ _ _ _ _ _ _ _ _ _ _ _ _ _ _ _ _ _ _ _ _ _ _ _ _ _ _ _ _ _ _ _ _ _ _ _ _ _ _ _ _ _ _ _ _ _ _ _ _ _ _ _ _ _ _ _ _ _ _ _ _ _ _ _ _ _ _ _ _ _ _ _ _ _ _ _ _ _ _ _ _ _ _ _ _ _ _ _ _ _ _ _ _ _ _ _ _ _ _ _ _ _ _ _ _ _ _ _ _ _ _ _ _ _ _ _ _ _ _ _ _ _ _ _ _ _ _ _ _ _ _ _ _ _ _ _ _ _ _ _ _ _ _ _ _ _ _ _ _ _ _ _ _ _ _ _ _ _ _ _ _ _ _ _ _ _ _ _ _ _ _ _ _ _ _ _ _ _ _ _ _ _ _ _ _ _ _ _ _ _ _ _ _ _ _ _ _ _ _ _ _ _ _ _ _ _ _ _ _ _ _ _ _ _ _ _ _ _ _ _ _ _ _ _ _ _ (by omega)⟩
    · have d2 : ((A.length + B.length + 1 : Nat) : Int) > 31 := by omega
      rw [if_pos d2] at a1 n1 n1'
      simp only at a1 n1 n1'
      refine bndC_of a1 ?_
      simp only [bnd_some, tupV, List.getElem?_toArray, List.getElem?_cons_zero, List.getElem?_cons_succ]
      refine bnd_of (v := str ([110, 111, 116, 32, 40] ++ s)) (aBin_str (a := [110, 111, 116, 32, 40]) (b := s) (by simp; omega)) ?_
      dsimp only
      refine bnd_of (aBin_str (b := [10, 41]) (by simp; omega)) ?_
      dsimp only
      refine bndC_of a2 ?_
      have c2' : ¬ ((A.length : Int) + B.length < 31) := by omega
      simp [la, lb, w1, c1', c2', ln, w3, aBin_bneq, t1]
      refine bndG_call (.bool true) (fun _ => hsm) ?_
      simp [la, q1, c0, d0, c6, d6, w4]
      rw [hX]
      exact hk X
  · have d1 : ((A.length + 1 : Nat) : Int) > 31 := by omega
    rw [if_pos d1] at a2 n2
    have d2 : ((A.length + B.length + 1 : Nat) : Int) > 31 := by omega
    rw [if_pos d2] at a1 n1 n1'
    simp only at a1 n1 n1' a2 n2
    have c1' : ¬ ((A.length : Int) < 31) := by omega
    have c2' : ¬ ((A.length : Int) + B.length < 31) := by omega
    refine bndC_of a1 ?_
    simp only [bnd_some, tupV, List.getElem?_toArray, List.getElem?_cons_zero, List.getElem?_cons_succ]
    refine bnd_of (v := str ([110, 111, 116, 32, 40] ++ s)) (aBin_str (a := [110, 111, 116, 32, 40]) (b := s) (by simp; omega)) ?_
    dsimp only
    refine bnd_of (aBin_str (b := [10, 41]) (by simp; omega)) ?_
    dsimp only
    refine bndC_of a2 ?_
    simp [la, lb, w1, c1', c2', aBin_bneq]
    refine ⟨undef, _, ⟨rfl, rfl⟩, ?_⟩
    simp
    rw [hX]
    exact hk X
set_option maxRecDepth 20000 in
theorem w_pairs {H : AHeap} {s t : List UInt8} {or' : Bool} (hg : Pre Gs H) : ACalls Tryz.prog 5 [str s, str t, .bool or'] H (.bool true) H := by
  refine acalls_pure MixT Tryz.func5 (by decide) rfl ?_
  rw [d5]
  refine bndC_of (c_awake hg) ?_
  simp
  by_cases h1 : s.length ≤ 1500
  · have h1' : ¬ ((1500 : Int) < s.length) := by omega
    by_cases h2 : t.length ≤ 1500
    · have h2' : ¬ ((1500 : Int) < t.length) := by omega
      simp [h1', h2']
      obtain ⟨v1, K1, a1, p1, n1⟩ := g_parse (s := s) hg
      refine bndC_of a1 ?_
      simp
      obtain ⟨v2, K2, a2, p2, n2⟩ := g_parse (s := t) (hg.trans p1)
      refine bndC_of a2 ?_
      obtain ⟨X, hX⟩ : ∃ X, K2 = H ++ X := p1.trans p2
      by_cases e1 : (parseF s).2 = 0
      · by_cases e2 : (parseF t).2 = 0
        · have hk : ∀ Y, (fun u H2 => u = Value.bool true ∧ ∃ Z, H2 = H ++ Z) (Value.bool true) (K2 ++ Y) := fun Y => ⟨rfl, X ++ Y, by rw [hX]; simp⟩
          simp [e1, e2]
          cases or' with
          | true =>
            simp only [kifB_true]
            exact pairs_tail (or' := true) ((hg.trans p1).trans p2) h1 h2 e1 e2 (n1.pre p2) n2 hk _ _ _ _ _ _ _ _ _ _ _ _ _ _ _ _ _ _ _ _ _ _ _ _ _ _ _ _ _ _ _ _ _ _ _ _ _ _ _ _ _ _ _ _ _ _ _ _ _ _ _ _ _ _ _ _ _ _ _ _ _ _ _ _ _ _ _ _ _ _ _ _ _ _ _ _ _ _ _ _ _ _ _ _ _ _ _ _ _ _ _ _ _ _ _ _ _ _ _ _ _ _ _ _ _ _ _ _ _ _ _ _ _ _ _ _ _ _ _ _ _ _ _ _ _ _ _ _ _ _ _ _ _ _ _ _ _ _ _ _ _ _ _ _ _ _ _ _ _ _ _ _ _ _ _ _ _ _ _ _ _ _ _ _ _ _ _ _ _ _ _ _ _ _ _ _ _ _ _ _ _ _ _ _ _ _ _ _ _ _ _ _ _ _ _ _ _ _ _ _ _ _ _ _ _ _ _ _ _ _ _ _ _ _ _ _ _ _ _ _ _ _ _ _ _ _ _ _ _ _
          | false =>
            simp only [kifB_false]
            exact pairs_tail (or' := false) ((hg.trans p1).trans p2) h1 h2 e1 e2 (n1.pre p2) n2 hk _ _ _ _ _ _ _ _ _ _ _ _ _ _ _ _ _ _ _ _ _ _ _ _ _ _ _ _ _ _ _ _ _ _ _ _ _ _ _ _ _ _ _ _ _ _ _ _ _ _ _ _ _ _ _ _ _ _ _ _ _ _ _ _ _ _ _ _ _ _ _ _ _ _ _ _ _ _ _ _ _ _ _ _ _ _ _ _ _ _ _ _ _ _ _ _ _ _ _ _ _ _ _ _ _ _ _ _ _ _ _ _ _ _ _ _ _ _ _ _ _ _ _ _ _ _ _ _ _ _ _ _ _ _ _ _ _ _ _ _ _ _ _ _ _ _ _ _ _ _ _ _ _ _ _ _ _ _ _ _ _ _ _ _ _ _ _ _ _ _ _ _ _ _ _ _ _ _ _ _ _ _ _ _ _ _ _ _ _ _ _ _ _ _ _ _ _ _ _ _ _ _ _ _ _ _ _ _ _ _ _ _ _ _ _ _ _ _ _ _ _ _ _ _ _ _ _ _ _ _
        · have e2' : ((parseF t).2 != 0) = true := by simpa using e2
          simp [e1, e2']
          exact ⟨X, hX⟩
      · have e1' : ((parseF s).2 != 0) = true := by simpa using e1
        simp [e1']
        exact ⟨X, hX⟩
    · have h2' : (1500 : Int) < t.length := by omega
      simp [h1', h2']
  · have h1' : (1500 : Int) < s.length := by omega
    simp [h1']
end Go.Vi
