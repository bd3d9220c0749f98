/- ExprFrom: the walk. -/
import Derived.Test.YtpkdgmcfojjfjaaGreatDoorJExprFrom6
namespace Go.Vi
open Go Go.Proofs

theorem nodes_sel {H : AHeap} {v : Value} {ns : List Nod} (h : NodesAt H v ns) : ∀ n ∈ ns, n.sel.length < 2 ^ 63 := by
  intro n hn
  obtain ⟨cl, _, _, h3⟩ := h
  obtain ⟨i, hi⟩ := List.getElem?_of_mem hn
  obtain ⟨sv, _, _, h4⟩ := h3 i n hi
  omega
section
variable {H : AHeap} {lv mv nv wv : Value} {ts : List Tok} {T : List RTk} {ns : List Nod} {k : Value → AHeap → Prop}
theorem from_loop (hl : ToksAt H lv ts) (hT : RTA H mv T) (hts : T.map Prod.fst = ts) (hn : NodesAt H nv ns) (hw : NodesAt H wv ns) (hnl : ns.length < 2 ^ 62) (hns : ∀ n ∈ ns, n.sel.length < 2 ^ 63) {x y : Int} (hk : k (.bool true) H) :
    ∀ (r : List Tok) (i : Nat) (s0 s1 s2 s3 s4 s6 s7 s9 s10 s18 s19 s20 s21 s22 s23 s24 s25 s26 s27 s28 s29 s30 s31 s32 s33 s34 s35 s36 s37 s38 s39 s40 s41 s42 s43 s44 s45 s46 s47 s48 s49 s50 s51 s52 s53 s54 s55 s56 s57 s58 s59 s60 s61 s62 s63 s64 s65 s66 s67 s68 s69 s70 s71 s72 s73 s74 s75 s76 s77 s78 s79 s80 s81 s82 s83 s84 s85 s86 s87 s88 s89 s90 s91 s92 s93 : Value), ts.drop i = r → i ≤ ts.length → L13x0 (r.length + 1) k [s0, s1, s2, s3, s4, lv, s6, s7, mv, s9, s10, nv, i64 x, i64 y, wv, i64 x, i64 y, i64 i, s18, s19, s20, s21, s22, s23, s24, s25, s26, s27, s28, s29, s30, s31, s32, s33, s34, s35, s36, s37, s38, s39, s40, s41, s42, s43, s44, s45, s46, s47, s48, s49, s50, s51, s52, s53, s54, s55, s56, s57, s58, s59, s60, s61, s62, s63, s64, s65, s66, s67, s68, s69, s70, s71, s72, s73, s74, s75, s76, s77, s78, s79, s80, s81, s82, s83, s84, s85, s86, s87, s88, s89, s90, s91, s92, s93] H := by
  have hlen := hl.len (P := Tryz.prog) (T := 23) (e := 70) (by simp)
  simp at hlen
  have htl : ts.length < 2 ^ 40 := by rw [← hts]; simpa using hT.len
  intro r
  induction r with
  | nil =>
    intro i s0 s1 s2 s3 s4 s6 s7 s9 s10 s18 s19 s20 s21 s22 s23 s24 s25 s26 s27 s28 s29 s30 s31 s32 s33 s34 s35 s36 s37 s38 s39 s40 s41 s42 s43 s44 s45 s46 s47 s48 s49 s50 s51 s52 s53 s54 s55 s56 s57 s58 s59 s60 s61 s62 s63 s64 s65 s66 s67 s68 s69 s70 s71 s72 s73 s74 s75 s76 s77 s78 s79 s80 s81 s82 s83 s84 s85 s86 s87 s88 s89 s90 s91 s92 s93 hd hi
    have hle : ts.length ≤ i := by simpa using hd
    have : ¬ i < ts.length := by omega
    rw [List.length_nil, L13x0q]
    simp [hlen, this]
    refine bndC_of (c_sameN hn hw (by omega) hns) ?_
    simp
    exact hk
  | cons t r ih =>
    intro i s0 s1 s2 s3 s4 s6 s7 s9 s10 s18 s19 s20 s21 s22 s23 s24 s25 s26 s27 s28 s29 s30 s31 s32 s33 s34 s35 s36 s37 s38 s39 s40 s41 s42 s43 s44 s45 s46 s47 s48 s49 s50 s51 s52 s53 s54 s55 s56 s57 s58 s59 s60 s61 s62 s63 s64 s65 s66 s67 s68 s69 s70 s71 s72 s73 s74 s75 s76 s77 s78 s79 s80 s81 s82 s83 s84 s85 s86 s87 s88 s89 s90 s91 s92 s93 hd hi
    have hb : ts[i]? = some t := by rw [← List.head?_drop, hd]; rfl
    have hlt : i < ts.length := (List.getElem?_eq_some_iff.1 hb).1
    have hdr : ts.drop (i + 1) = r := by rw [← List.drop_drop, hd]; rfl
    obtain ⟨p, q, r', h1, h2, h3, h4, h5⟩ := toksAt_at hl hb
    obtain ⟨p2, hp2, hpt⟩ : ∃ p, T[i]? = some p ∧ p.1 = t := by
      rw [← hts, List.getElem?_map] at hb
      exact Option.map_eq_some_iff.1 hb
    obtain ⟨e1, e2, e3, f1, f2, f3, f4, f5⟩ := hT.at hp2
    rw [hpt] at f5
    rw [List.length_cons, L13x0q]
    simp [hlen, hlt, h1, h4, h5, f1, f4, f5, show i + 1 < 2 ^ 63 by omega]
    exact ih (i + 1) _ _ _ _ _ _ _ _ _ _ _ _ _ _ _ _ _ _ _ _ _ _ _ _ _ _ _ _ _ _ _ _ _ _ _ _ _ _ _ _ _ _ _ _ _ _ _ _ _ _ _ _ _ _ _ _ _ _ _ _ _ _ _ _ _ _ _ _ _ _ _ _ _ _ _ _ _ _ _ _ _ _ _ _ _ hdr hlt
end
theorem w_from {H : AHeap} {s : List UInt8} {at' : Int} (hg : Pre Gs H) : ACalls Tryz.prog 13 [str s, i64 at'] H (.bool true) H := by
  refine acalls_pure MixT Tryz.func13 (by decide) rfl ?_
  rw [d13]
  by_cases h2 : (2000 : Int) < s.length
  · simp [h2]
  · obtain ⟨v, K1, ⟨lv, rfl, g1, g2⟩, g3⟩ := c_lexAll H s
    obtain ⟨mv, K2, T, r1, r2, r3, r4⟩ := r_all K1 s
    obtain ⟨hnt, hnl⟩ := allTok_ok (l := s)
    have hTA : RTA K2 mv T := ⟨r3.arr, by have := congrArg List.length r4; simp at this; omega⟩
    have hTl : T.length = (allTok s).1.length := by rw [← r4]; simp
    have htx2 : ∀ p ∈ T, p.1.text.length < 2 ^ 50 := fun p hp => by
      obtain ⟨i, hi⟩ := List.getElem?_of_mem (show p.1 ∈ (allTok s).1 by rw [← r4]; exact List.mem_map_of_mem hp)
      have := (hnt i p.1 hi).1
      omega
    simp [h2]
    refine bndC_of g3 ?_
    simp
    refine bndC_of r1 ?_
    simp
    generalize hts : (allTok s).1 = ts at *
    obtain ⟨v3, K3, a3, p3, n3, z3⟩ := g_read (at' := at') (ts := ts) ((hg.trans g1).trans r2) hnt (by omega) (g2.pre r2)
    refine bndC_of a3 ?_
    have hml : ∀ J, aLen Tryz.prog J 64 mv = some (i64 T.length) := fun J => by
      have := r3.arr.len' (K := J) (P := Tryz.prog) (T := 64) (e := 72) (by simp)
      simpa using this
    have fin : ∀ (K4 : AHeap) (wv : Value) (ns : List Nod) (x y : Int) (s0 s1 s2 s3 s4 s6 s7 s9 s10 s17 s18 s19 s20 s21 s22 s23 s24 s25 s26 s27 s28 s29 s30 s31 s32 s33 s34 s35 s36 s37 s38 s39 s40 s41 s42 s43 s44 s45 s46 s47 s48 s49 s50 s51 s52 s53 s54 s55 s56 s57 s58 s59 s60 s61 s62 s63 s64 s65 s66 s67 s68 s69 s70 s71 s72 s73 s74 s75 s76 s77 s78 s79 s80 s81 s82 s83 s84 s85 s86 s87 s88 s89 s90 s91 s92 s93 : Value), Pre K3 K4 → NodesAt K4 wv ns → ns.length ≤ 31 → readF ts at' = (ns, x, y) →
        S13x0 (fun u H2 => u = .bool true ∧ ∃ X, H2 = H ++ X) [s0, s1, s2, s3, s4, lv, s6, s7, mv, s9, s10, v3, i64 x, i64 y, wv, i64 x, i64 y, s17, s18, s19, s20, s21, s22, s23, s24, s25, s26, s27, s28, s29, s30, s31, s32, s33, s34, s35, s36, s37, s38, s39, s40, s41, s42, s43, s44, s45, s46, s47, s48, s49, s50, s51, s52, s53, s54, s55, s56, s57, s58, s59, s60, s61, s62, s63, s64, s65, s66, s67, s68, s69, s70, s71, s72, s73, s74, s75, s76, s77, s78, s79, s80, s81, s82, s83, s84, s85, s86, s87, s88, s89, s90, s91, s92, s93] K4 := by
      intro K4 wv ns x y s0 s1 s2 s3 s4 s6 s7 s9 s10 s17 s18 s19 s20 s21 s22 s23 s24 s25 s26 s27 s28 s29 s30 s31 s32 s33 s34 s35 s36 s37 s38 s39 s40 s41 s42 s43 s44 s45 s46 s47 s48 s49 s50 s51 s52 s53 s54 s55 s56 s57 s58 s59 s60 s61 s62 s63 s64 s65 s66 s67 s68 s69 s70 s71 s72 s73 s74 s75 s76 s77 s78 s79 s80 s81 s82 s83 s84 s85 s86 s87 s88 s89 s90 s91 s92 s93 hp hw hns hr
      rw [hr] at n3
      simp only at n3
      rw [S13x0q]
      exact ⟨ts.length + 1, from_loop ((g2.pre (r2.trans p3)).pre hp) (hTA.pre (p3.trans hp)) r4 (n3.pre hp) hw (by omega) (nodes_sel n3) ⟨rfl, ((g1.trans r2).trans p3).trans hp⟩ ts 0 _ _ _ _ _ _ _ _ _ _ _ _ _ _ _ _ _ _ _ _ _ _ _ _ _ _ _ _ _ _ _ _ _ _ _ _ _ _ _ _ _ _ _ _ _ _ _ _ _ _ _ _ _ _ _ _ _ _ _ _ _ _ _ _ _ _ _ _ _ _ _ _ _ _ _ _ _ _ _ _ _ _ _ _ _ rfl (by omega)⟩
    by_cases h0 : at' < 0
    · have hr : readF ts at' = ([], 0, 100) := by unfold readF; rw [if_pos (.inl h0)]
      have h0' : ¬ 0 ≤ at' := by omega
      rw [hr]
      simp [h0']
      exact fin K3 _ [] 0 100 _ _ _ _ _ _ _ _ _ _ _ _ _ _ _ _ _ _ _ _ _ _ _ _ _ _ _ _ _ _ _ _ _ _ _ _ _ _ _ _ _ _ _ _ _ _ _ _ _ _ _ _ _ _ _ _ _ _ _ _ _ _ _ _ _ _ _ _ _ _ _ _ _ _ _ _ _ _ _ _ _ _ _ _ _ _ (.refl _) .nil (by simp) hr
    · have h0' : 0 ≤ at' := by omega
      by_cases hge : at' ≥ ts.length
      · have hr : readF ts at' = ([], 0, 100) := by unfold readF; rw [if_pos (.inr hge)]
        have hge' : ¬ at' < T.length := by omega
        rw [hr]
        simp [h0', hml, hge']
        exact fin K3 _ [] 0 100 _ _ _ _ _ _ _ _ _ _ _ _ _ _ _ _ _ _ _ _ _ _ _ _ _ _ _ _ _ _ _ _ _ _ _ _ _ _ _ _ _ _ _ _ _ _ _ _ _ _ _ _ _ _ _ _ _ _ _ _ _ _ _ _ _ _ _ _ _ _ _ _ _ _ _ _ _ _ _ _ _ _ _ _ _ _ (.refl _) .nil (by simp) hr
      · obtain ⟨a, rfl⟩ : ∃ a : Nat, at' = a := ⟨at'.toNat, by omega⟩
        have hlt : a < T.length := by omega
        obtain ⟨u, K4, ⟨wv, next, out, rfl, c1, c2, c3, c4⟩, hc⟩ := r_condition (K := K3) (a := a) (hTA.pre p3) (by omega) htx2 (by omega)
        have hlw := c2.len
        simp [h0', hml, hlt]
        refine bndC_of hc ?_
        have hr : readF ts a = match conO ts a with | none => ([], 0, 100) | some p => if (p.1.length : Int) > 31 then ([], 0, 4) else (p.1, p.2, 0) := by
          unfold readF; rw [if_neg (by omega)]; rfl
        rw [r4] at c4
        cases hco : conO ts a with
        | none =>
          rw [hco] at hr c4
          simp only at hr c4
          subst c4
          rw [hr]
          simp
          exact fin K4 _ [] 0 100 _ _ _ _ _ _ _ _ _ _ _ _ _ _ _ _ _ _ _ _ _ _ _ _ _ _ _ _ _ _ _ _ _ _ _ _ _ _ _ _ _ _ _ _ _ _ _ _ _ _ _ _ _ _ _ _ _ _ _ _ _ _ _ _ _ _ _ _ _ _ _ _ _ _ _ _ _ _ _ _ _ _ _ _ _ _ c1 .nil (by simp) hr
        | some p =>
          rw [hco] at hr c4
          simp only at hr c4
          obtain ⟨q1, rfl⟩ := c4
          rw [List.nil_append] at q1
          rw [q1] at hr
          have hneg : ¬ ((p.2 : Int) < 0) := by omega
          by_cases h31 : (out.length : Int) > 31
          · rw [if_pos h31] at hr
            rw [hr]
            simp [hneg, hlw, h31]
            exact fin K4 _ [] 0 4 _ _ _ _ _ _ _ _ _ _ _ _ _ _ _ _ _ _ _ _ _ _ _ _ _ _ _ _ _ _ _ _ _ _ _ _ _ _ _ _ _ _ _ _ _ _ _ _ _ _ _ _ _ _ _ _ _ _ _ _ _ _ _ _ _ _ _ _ _ _ _ _ _ _ _ _ _ _ _ _ _ _ _ _ _ _ c1 .nil (by simp) hr
          · rw [if_neg h31] at hr
            rw [hr]
            simp [hneg, hlw, h31]
            exact fin K4 _ out p.2 0 _ _ _ _ _ _ _ _ _ _ _ _ _ _ _ _ _ _ _ _ _ _ _ _ _ _ _ _ _ _ _ _ _ _ _ _ _ _ _ _ _ _ _ _ _ _ _ _ _ _ _ _ _ _ _ _ _ _ _ _ _ _ _ _ _ _ _ _ _ _ _ _ _ _ _ _ _ _ _ _ _ _ _ _ _ _ c1 c2.nodes (by omega) hr
end Go.Vi
