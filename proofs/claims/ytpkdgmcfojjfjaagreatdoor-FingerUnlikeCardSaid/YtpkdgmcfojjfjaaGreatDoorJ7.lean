/- Whether rules are more than is gone through. Statements of chapter 14: the examples. -/
import Derived.Test.YtpkdgmcfojjfjaaGreatDoorJ6
import Derived.Test.YtpkdgmcfojjfjaaGreatDoorJ5
namespace Go.Vi
open Go Go.Proofs

theorem acalls_bool {P : Program} (hm : P.follows .mixedOrders = true) {f fn args H} {Q : Prop} (hf : P.funcs[f]? = some fn) (hn : notNG fn = true)
    (hr : ∀ k : Value → AHeap → Prop, (∀ K, Pre H K → k (.bool true) K) → (Q → ∀ K, Pre H K → k (.bool false) K) → kbody P fn args H k) : ∃ b, (b = false → Q) ∧ ACalls P f args H (.bool b) H := by
  obtain ⟨v, H', ⟨b, rfl, hq, X, rfl⟩, h⟩ := acalls_ex hm hf hn (hr (fun u H2 => ∃ b, u = .bool b ∧ (b = false → Q) ∧ Pre H H2) (fun K p => ⟨true, rfl, by simp, p⟩) fun q K p => ⟨false, rfl, fun _ => q, p⟩)
  exact ⟨b, hq, h.trim rfl⟩
/-- What is left of a rule that is not too big. -/
def Rul.small (r : Rul) : Prop := r.byL.length ≤ 1000 ∧ r.mutes.length ≤ 100 ∧ r.nodes.length ≤ 100 ∧ ∀ n ∈ r.nodes, n.sel.length ≤ 50
section
variable {r : Rul} {H : AHeap} {nv mv : Value} {b : Nat} {k : Value → AHeap → Prop}
theorem big_x2 {n1 : Nat} (hn0 : NodesAt H nv r.nodes) {i : Nat} {nd : Nod} (hi : r.nodes[i]? = some nd) (hsel : nd.sel.length ≤ 50) (hi2 : i + 1 < 2 ^ 63) (hT : ∀ K, Pre H K → k (.bool true) K)
    (hk : ∀ (K : AHeap) (left : Int) (s0 s2 s4 s6 s7 s8 s9 s10 s11 s12 s13 s14 s15 s16 s17 s18 s19 s20 s21 s22 s23 s24 s25 s26 s27 s28 s29 s30 s31 s32 s33 s34 s35 s36 s37 s38 s39 s40 s41 s42 s43 s44 s45 s46 s47 s48 s49 s50 s51 s52 s53 s54 s55 s56 s57 s58 s59 s60 s61 s62 s63 s64 s65 s66 s67 s68 s69 s70 s71 s72 s73 s74 s75 s76 s77 s78 s79 s80 s81 s82 s83 s84 s85 s86 s87 s88 s89 s90 s91 s92 s93 s94 s95 s96 s97 s98 s99 s100 s101 s102 s103 s104 s105 s106 s107 s108 s109 s110 s111 s112 s113 s114 s115 s116 s117 s118 s119 s120 s121 s122 s123 s124 s125 s126 s127 s128 s129 s130 : Value), Pre H K → hcells K b = some (r.cells nv mv) → L45x1 n1 k [s0, .pointer (some ⟨b, 0, some 8⟩), s2, i64 left, s4, i64 ((i + 1 : Nat) : Int), s6, s7, s8, s9, s10, s11, s12, s13, s14, s15, s16, s17, s18, s19, s20, s21, s22, s23, s24, s25, s26, s27, s28, s29, s30, s31, s32, s33, s34, s35, s36, s37, s38, s39, s40, s41, s42, s43, s44, s45, s46, s47, s48, s49, s50, s51, s52, s53, s54, s55, s56, s57, s58, s59, s60, s61, s62, s63, s64, s65, s66, s67, s68, s69, s70, s71, s72, s73, s74, s75, s76, s77, s78, s79, s80, s81, s82, s83, s84, s85, s86, s87, s88, s89, s90, s91, s92, s93, s94, s95, s96, s97, s98, s99, s100, s101, s102, s103, s104, s105, s106, s107, s108, s109, s110, s111, s112, s113, s114, s115, s116, s117, s118, s119, s120, s121, s122, s123, s124, s125, s126, s127, s128, s129, s130] K) :
    ∀ (m : List Mat) (j : Nat) (left : Int) (K : AHeap) (s0 s2 s4 s7 s8 s9 s10 s11 s12 s13 s14 s15 s16 s17 s18 s19 s20 s21 s22 s23 s24 s25 s26 s27 s28 s29 s30 s31 s32 s33 s34 s35 s36 s37 s38 s39 s40 s41 s42 s43 s44 s45 s46 s47 s48 s49 s50 s51 s52 s53 s54 s55 s56 s57 s58 s59 s60 s61 s62 s63 s64 s65 s66 s67 s68 s69 s70 s71 s72 s73 s74 s75 s76 s77 s78 s79 s80 s81 s82 s83 s84 s85 s86 s87 s88 s89 s90 s91 s92 s93 s94 s95 s96 s97 s98 s99 s100 s101 s102 s103 s104 s105 s106 s107 s108 s109 s110 s111 s112 s113 s114 s115 s116 s117 s118 s119 s120 s121 s122 s123 s124 s125 s126 s127 s128 s129 s130 : Value), nd.sel.drop j = m → j ≤ nd.sel.length → Pre H K → hcells K b = some (r.cells nv mv) →
      L45x2 (m.length + 1) n1 k [s0, .pointer (some ⟨b, 0, some 8⟩), s2, i64 left, s4, i64 i, i64 j, s7, s8, s9, s10, s11, s12, s13, s14, s15, s16, s17, s18, s19, s20, s21, s22, s23, s24, s25, s26, s27, s28, s29, s30, s31, s32, s33, s34, s35, s36, s37, s38, s39, s40, s41, s42, s43, s44, s45, s46, s47, s48, s49, s50, s51, s52, s53, s54, s55, s56, s57, s58, s59, s60, s61, s62, s63, s64, s65, s66, s67, s68, s69, s70, s71, s72, s73, s74, s75, s76, s77, s78, s79, s80, s81, s82, s83, s84, s85, s86, s87, s88, s89, s90, s91, s92, s93, s94, s95, s96, s97, s98, s99, s100, s101, s102, s103, s104, s105, s106, s107, s108, s109, s110, s111, s112, s113, s114, s115, s116, s117, s118, s119, s120, s121, s122, s123, s124, s125, s126, s127, s128, s129, s130] K := by
  intro m
  induction m with
  | nil =>
    intro j left K s0 s2 s4 s7 s8 s9 s10 s11 s12 s13 s14 s15 s16 s17 s18 s19 s20 s21 s22 s23 s24 s25 s26 s27 s28 s29 s30 s31 s32 s33 s34 s35 s36 s37 s38 s39 s40 s41 s42 s43 s44 s45 s46 s47 s48 s49 s50 s51 s52 s53 s54 s55 s56 s57 s58 s59 s60 s61 s62 s63 s64 s65 s66 s67 s68 s69 s70 s71 s72 s73 s74 s75 s76 s77 s78 s79 s80 s81 s82 s83 s84 s85 s86 s87 s88 s89 s90 s91 s92 s93 s94 s95 s96 s97 s98 s99 s100 s101 s102 s103 s104 s105 s106 s107 s108 s109 s110 s111 s112 s113 s114 s115 s116 s117 s118 s119 s120 s121 s122 s123 s124 s125 s126 s127 s128 s129 s130 hd hj hp hc
    have hle : nd.sel.length ≤ j := by simpa using hd
    obtain ⟨cl, ha, hcl, hcc⟩ := hn0.pre hp
    obtain ⟨sv, h1, h2, h3⟩ := hcc _ _ hi
    obtain ⟨p, q, f1, f2, f3⟩ := ha.field (P := Tryz.prog) (T := 27) (te := 37) (ft := 35) (f := 2) (d := 2) (x := sv) (by simp) (by simp) (by simp) (by simp) (by simp) h1 rfl
    have hl := h2.len (P := Tryz.prog) (T := 35) (e := 75) (by simp)
    simp only [List.length_map] at hl
    have hl8 : hlen K b = some 8 := by rw [hcells_len hc]; rfl
    rw [List.length_nil, L45x2q]
    have : ¬ j < nd.sel.length := by omega
    simp [hc, hl8, Rul.cells, f1, f2, f3, hl, this, hi2]
    exact hk K left _ _ _ _ _ _ _ _ _ _ _ _ _ _ _ _ _ _ _ _ _ _ _ _ _ _ _ _ _ _ _ _ _ _ _ _ _ _ _ _ _ _ _ _ _ _ _ _ _ _ _ _ _ _ _ _ _ _ _ _ _ _ _ _ _ _ _ _ _ _ _ _ _ _ _ _ _ _ _ _ _ _ _ _ _ _ _ _ _ _ _ _ _ _ _ _ _ _ _ _ _ _ _ _ _ _ _ _ _ _ _ _ _ _ _ _ _ _ _ _ _ _ _ _ _ _ _ _ hp hc
  | cons x m ih =>
    intro j left K s0 s2 s4 s7 s8 s9 s10 s11 s12 s13 s14 s15 s16 s17 s18 s19 s20 s21 s22 s23 s24 s25 s26 s27 s28 s29 s30 s31 s32 s33 s34 s35 s36 s37 s38 s39 s40 s41 s42 s43 s44 s45 s46 s47 s48 s49 s50 s51 s52 s53 s54 s55 s56 s57 s58 s59 s60 s61 s62 s63 s64 s65 s66 s67 s68 s69 s70 s71 s72 s73 s74 s75 s76 s77 s78 s79 s80 s81 s82 s83 s84 s85 s86 s87 s88 s89 s90 s91 s92 s93 s94 s95 s96 s97 s98 s99 s100 s101 s102 s103 s104 s105 s106 s107 s108 s109 s110 s111 s112 s113 s114 s115 s116 s117 s118 s119 s120 s121 s122 s123 s124 s125 s126 s127 s128 s129 s130 hd hj hp hc
    have hb : nd.sel[j]? = some x := by rw [← List.head?_drop, hd]; rfl
    have hlt : j < nd.sel.length := (List.getElem?_eq_some_iff.1 hb).1
    obtain ⟨cl, ha, hcl, hcc⟩ := hn0.pre hp
    obtain ⟨sv, h1, h2, h3⟩ := hcc _ _ hi
    obtain ⟨p, q, f1, f2, f3⟩ := ha.field (P := Tryz.prog) (T := 27) (te := 37) (ft := 35) (f := 2) (d := 2) (x := sv) (by simp) (by simp) (by simp) (by simp) (by simp) h1 rfl
    have hl := h2.len (P := Tryz.prog) (T := 35) (e := 75) (by simp)
    simp only [List.length_map] at hl
    obtain ⟨p2, g1, g2⟩ := h2.load (P := Tryz.prog) (T := 35) (te := 75) (i := j) (e := x.cells) (by simp) (by simp) (by simp) (by simp [hb])
    have hl8 : hlen K b = some 8 := by rw [hcells_len hc]; rfl
    have hX := fun X : AHeap => hcells_more (X := X) hc
    rw [List.length_cons, L45x2q]
    simp +contextual [hc, hl8, Rul.cells, f1, f2, f3, hl, hlt, g1, g2, Mat.cells]
    refine kifB_bool (fun h => ?_) (fun h => ?_)
    · exact hT _ (hp.more _)
    · simp [show j + 1 < 2 ^ 63 by omega]
      exact ih (j + 1) _ _ _ _ _ _ _ _ _ _ _ _ _ _ _ _ _ _ _ _ _ _ _ _ _ _ _ _ _ _ _ _ _ _ _ _ _ _ _ _ _ _ _ _ _ _ _ _ _ _ _ _ _ _ _ _ _ _ _ _ _ _ _ _ _ _ _ _ _ _ _ _ _ _ _ _ _ _ _ _ _ _ _ _ _ _ _ _ _ _ _ _ _ _ _ _ _ _ _ _ _ _ _ _ _ _ _ _ _ _ _ _ _ _ _ _ _ _ _ _ _ _ _ _ _ _ _ _ _ (by rw [← List.drop_drop, hd]; rfl) hlt (hp.more _) (hX _)
theorem big_x1 (hn0 : NodesAt H nv r.nodes) (hnl : r.nodes.length ≤ 100) (hT : ∀ K, Pre H K → k (.bool true) K) (hk : (∀ n ∈ r.nodes, n.sel.length ≤ 50) → ∀ K, Pre H K → k (.bool false) K) :
    ∀ (ns : List Nod) (i : Nat) (left : Int) (K : AHeap) (s0 s2 s4 s6 s7 s8 s9 s10 s11 s12 s13 s14 s15 s16 s17 s18 s19 s20 s21 s22 s23 s24 s25 s26 s27 s28 s29 s30 s31 s32 s33 s34 s35 s36 s37 s38 s39 s40 s41 s42 s43 s44 s45 s46 s47 s48 s49 s50 s51 s52 s53 s54 s55 s56 s57 s58 s59 s60 s61 s62 s63 s64 s65 s66 s67 s68 s69 s70 s71 s72 s73 s74 s75 s76 s77 s78 s79 s80 s81 s82 s83 s84 s85 s86 s87 s88 s89 s90 s91 s92 s93 s94 s95 s96 s97 s98 s99 s100 s101 s102 s103 s104 s105 s106 s107 s108 s109 s110 s111 s112 s113 s114 s115 s116 s117 s118 s119 s120 s121 s122 s123 s124 s125 s126 s127 s128 s129 s130 : Value), r.nodes.drop i = ns → i ≤ r.nodes.length → (∀ n ∈ r.nodes.take i, n.sel.length ≤ 50) → Pre H K → hcells K b = some (r.cells nv mv) →
      L45x1 (ns.length + 1) k [s0, .pointer (some ⟨b, 0, some 8⟩), s2, i64 left, s4, i64 i, s6, s7, s8, s9, s10, s11, s12, s13, s14, s15, s16, s17, s18, s19, s20, s21, s22, s23, s24, s25, s26, s27, s28, s29, s30, s31, s32, s33, s34, s35, s36, s37, s38, s39, s40, s41, s42, s43, s44, s45, s46, s47, s48, s49, s50, s51, s52, s53, s54, s55, s56, s57, s58, s59, s60, s61, s62, s63, s64, s65, s66, s67, s68, s69, s70, s71, s72, s73, s74, s75, s76, s77, s78, s79, s80, s81, s82, s83, s84, s85, s86, s87, s88, s89, s90, s91, s92, s93, s94, s95, s96, s97, s98, s99, s100, s101, s102, s103, s104, s105, s106, s107, s108, s109, s110, s111, s112, s113, s114, s115, s116, s117, s118, s119, s120, s121, s122, s123, s124, s125, s126, s127, s128, s129, s130] K := by
  intro ns
  induction ns with
  | nil =>
    intro i left K s0 s2 s4 s6 s7 s8 s9 s10 s11 s12 s13 s14 s15 s16 s17 s18 s19 s20 s21 s22 s23 s24 s25 s26 s27 s28 s29 s30 s31 s32 s33 s34 s35 s36 s37 s38 s39 s40 s41 s42 s43 s44 s45 s46 s47 s48 s49 s50 s51 s52 s53 s54 s55 s56 s57 s58 s59 s60 s61 s62 s63 s64 s65 s66 s67 s68 s69 s70 s71 s72 s73 s74 s75 s76 s77 s78 s79 s80 s81 s82 s83 s84 s85 s86 s87 s88 s89 s90 s91 s92 s93 s94 s95 s96 s97 s98 s99 s100 s101 s102 s103 s104 s105 s106 s107 s108 s109 s110 s111 s112 s113 s114 s115 s116 s117 s118 s119 s120 s121 s122 s123 s124 s125 s126 s127 s128 s129 s130 hd hi hs hp hc
    have hle : r.nodes.length ≤ i := by simpa using hd
    have hl := (hn0.pre hp).len K
    have hl8 : hlen K b = some 8 := by rw [hcells_len hc]; rfl
    rw [List.length_nil, L45x1q]
    have : ¬ i < r.nodes.length := by omega
    simp [hc, hl8, Rul.cells, hl, this]
    exact hk (by rw [List.take_of_length_le hle] at hs; exact hs) K hp
  | cons x ns ih =>
    intro i left K s0 s2 s4 s6 s7 s8 s9 s10 s11 s12 s13 s14 s15 s16 s17 s18 s19 s20 s21 s22 s23 s24 s25 s26 s27 s28 s29 s30 s31 s32 s33 s34 s35 s36 s37 s38 s39 s40 s41 s42 s43 s44 s45 s46 s47 s48 s49 s50 s51 s52 s53 s54 s55 s56 s57 s58 s59 s60 s61 s62 s63 s64 s65 s66 s67 s68 s69 s70 s71 s72 s73 s74 s75 s76 s77 s78 s79 s80 s81 s82 s83 s84 s85 s86 s87 s88 s89 s90 s91 s92 s93 s94 s95 s96 s97 s98 s99 s100 s101 s102 s103 s104 s105 s106 s107 s108 s109 s110 s111 s112 s113 s114 s115 s116 s117 s118 s119 s120 s121 s122 s123 s124 s125 s126 s127 s128 s129 s130 hd hi hs hp hc
    have hb : r.nodes[i]? = some x := by rw [← List.head?_drop, hd]; rfl
    have hlt : i < r.nodes.length := (List.getElem?_eq_some_iff.1 hb).1
    obtain ⟨cl, ha, hcl, hcc⟩ := hn0.pre hp
    obtain ⟨sv, h1, h2, h3⟩ := hcc _ _ hb
    obtain ⟨p, q, f1, f2, f3⟩ := ha.field (P := Tryz.prog) (T := 27) (te := 37) (ft := 35) (f := 2) (d := 2) (x := sv) (by simp) (by simp) (by simp) (by simp) (by simp) h1 rfl
    have hl := h2.len (P := Tryz.prog) (T := 35) (e := 75) (by simp)
    simp only [List.length_map] at hl
    have hln := (hn0.pre hp).len K
    have hl8 : hlen K b = some 8 := by rw [hcells_len hc]; rfl
    rw [List.length_cons, L45x1q]
    simp [hc, hl8, Rul.cells, hln, hlt, f1, f2, f3, hl]
    by_cases h50 : 50 < x.sel.length
    · have h50I : (50 : Int) < x.sel.length := by omega
      simp [h50I]
      exact hT K hp
    · have h50I : ¬ (50 : Int) < x.sel.length := by omega
      simp [h50I]
      refine ⟨x.sel.length + 1, big_x2 (H := H) (r := r) (nv := nv) (mv := mv) (b := b) hn0 hb (by omega) (by omega) hT ?_ x.sel 0 left K _ _ _ _ _ _ _ _ _ _ _ _ _ _ _ _ _ _ _ _ _ _ _ _ _ _ _ _ _ _ _ _ _ _ _ _ _ _ _ _ _ _ _ _ _ _ _ _ _ _ _ _ _ _ _ _ _ _ _ _ _ _ _ _ _ _ _ _ _ _ _ _ _ _ _ _ _ _ _ _ _ _ _ _ _ _ _ _ _ _ _ _ _ _ _ _ _ _ _ _ _ _ _ _ _ _ _ _ _ _ _ _ _ _ _ _ _ _ _ _ _ _ _ _ _ _ _ rfl (by omega) hp hc⟩
      intro K2 left2 s0 s2 s4 s6 s7 s8 s9 s10 s11 s12 s13 s14 s15 s16 s17 s18 s19 s20 s21 s22 s23 s24 s25 s26 s27 s28 s29 s30 s31 s32 s33 s34 s35 s36 s37 s38 s39 s40 s41 s42 s43 s44 s45 s46 s47 s48 s49 s50 s51 s52 s53 s54 s55 s56 s57 s58 s59 s60 s61 s62 s63 s64 s65 s66 s67 s68 s69 s70 s71 s72 s73 s74 s75 s76 s77 s78 s79 s80 s81 s82 s83 s84 s85 s86 s87 s88 s89 s90 s91 s92 s93 s94 s95 s96 s97 s98 s99 s100 s101 s102 s103 s104 s105 s106 s107 s108 s109 s110 s111 s112 s113 s114 s115 s116 s117 s118 s119 s120 s121 s122 s123 s124 s125 s126 s127 s128 s129 s130 hp2 hc2
      refine ih (i + 1) left2 K2 _ _ _ _ _ _ _ _ _ _ _ _ _ _ _ _ _ _ _ _ _ _ _ _ _ _ _ _ _ _ _ _ _ _ _ _ _ _ _ _ _ _ _ _ _ _ _ _ _ _ _ _ _ _ _ _ _ _ _ _ _ _ _ _ _ _ _ _ _ _ _ _ _ _ _ _ _ _ _ _ _ _ _ _ _ _ _ _ _ _ _ _ _ _ _ _ _ _ _ _ _ _ _ _ _ _ _ _ _ _ _ _ _ _ _ _ _ _ _ _ _ _ _ _ _ _ _ _ (by rw [← List.drop_drop, hd]; rfl) hlt ?_ hp2 hc2
      intro n hn
      rw [List.take_add_one, hb] at hn
      simp at hn
      rcases hn with hn | rfl
      · exact hs n hn
      · omega
set_option maxRecDepth 20000 in
theorem big_x0 (hn0 : NodesAt H nv r.nodes) (hm0 : Arr H 1 mv (strCells r.mutes)) (hnl : r.nodes.length ≤ 100) (hml : r.mutes.length ≤ 100) (hT : ∀ K, Pre H K → k (.bool true) K) (hk : (∀ n ∈ r.nodes, n.sel.length ≤ 50) → ∀ K, Pre H K → k (.bool false) K) :
    ∀ (l : List (List UInt8)) (i : Nat) (left : Int) (K : AHeap) (s0 s2 s5 s6 s7 s8 s9 s10 s11 s12 s13 s14 s15 s16 s17 s18 s19 s20 s21 s22 s23 s24 s25 s26 s27 s28 s29 s30 s31 s32 s33 s34 s35 s36 s37 s38 s39 s40 s41 s42 s43 s44 s45 s46 s47 s48 s49 s50 s51 s52 s53 s54 s55 s56 s57 s58 s59 s60 s61 s62 s63 s64 s65 s66 s67 s68 s69 s70 s71 s72 s73 s74 s75 s76 s77 s78 s79 s80 s81 s82 s83 s84 s85 s86 s87 s88 s89 s90 s91 s92 s93 s94 s95 s96 s97 s98 s99 s100 s101 s102 s103 s104 s105 s106 s107 s108 s109 s110 s111 s112 s113 s114 s115 s116 s117 s118 s119 s120 s121 s122 s123 s124 s125 s126 s127 s128 s129 s130 : Value), r.mutes.drop i = l → i ≤ r.mutes.length → Pre H K → hcells K b = some (r.cells nv mv) →
      L45x0 (l.length + 1) k [s0, .pointer (some ⟨b, 0, some 8⟩), s2, i64 left, i64 i, s5, s6, s7, s8, s9, s10, s11, s12, s13, s14, s15, s16, s17, s18, s19, s20, s21, s22, s23, s24, s25, s26, s27, s28, s29, s30, s31, s32, s33, s34, s35, s36, s37, s38, s39, s40, s41, s42, s43, s44, s45, s46, s47, s48, s49, s50, s51, s52, s53, s54, s55, s56, s57, s58, s59, s60, s61, s62, s63, s64, s65, s66, s67, s68, s69, s70, s71, s72, s73, s74, s75, s76, s77, s78, s79, s80, s81, s82, s83, s84, s85, s86, s87, s88, s89, s90, s91, s92, s93, s94, s95, s96, s97, s98, s99, s100, s101, s102, s103, s104, s105, s106, s107, s108, s109, s110, s111, s112, s113, s114, s115, s116, s117, s118, s119, s120, s121, s122, s123, s124, s125, s126, s127, s128, s129, s130] K := by
  intro l
  induction l with
  | nil =>
    intro i left K s0 s2 s5 s6 s7 s8 s9 s10 s11 s12 s13 s14 s15 s16 s17 s18 s19 s20 s21 s22 s23 s24 s25 s26 s27 s28 s29 s30 s31 s32 s33 s34 s35 s36 s37 s38 s39 s40 s41 s42 s43 s44 s45 s46 s47 s48 s49 s50 s51 s52 s53 s54 s55 s56 s57 s58 s59 s60 s61 s62 s63 s64 s65 s66 s67 s68 s69 s70 s71 s72 s73 s74 s75 s76 s77 s78 s79 s80 s81 s82 s83 s84 s85 s86 s87 s88 s89 s90 s91 s92 s93 s94 s95 s96 s97 s98 s99 s100 s101 s102 s103 s104 s105 s106 s107 s108 s109 s110 s111 s112 s113 s114 s115 s116 s117 s118 s119 s120 s121 s122 s123 s124 s125 s126 s127 s128 s129 s130 hd hi hp hc
    have hle : r.mutes.length ≤ i := by simpa using hd
    have hl := (hm0.pre hp).len (P := Tryz.prog) (T := 42) (e := 9) (by simp)
    simp [strCells] at hl
    have hl8 : hlen K b = some 8 := by rw [hcells_len hc]; rfl
    rw [List.length_nil, L45x0q]
    have : ¬ i < r.mutes.length := by omega
    simp [hc, hl8, Rul.cells, hl, this]
    exact ⟨r.nodes.length + 1, big_x1 (H := H) (r := r) (nv := nv) (mv := mv) (b := b) hn0 hnl hT hk r.nodes 0 left K _ _ _ _ _ _ _ _ _ _ _ _ _ _ _ _ _ _ _ _ _ _ _ _ _ _ _ _ _ _ _ _ _ _ _ _ _ _ _ _ _ _ _ _ _ _ _ _ _ _ _ _ _ _ _ _ _ _ _ _ _ _ _ _ _ _ _ _ _ _ _ _ _ _ _ _ _ _ _ _ _ _ _ _ _ _ _ _ _ _ _ _ _ _ _ _ _ _ _ _ _ _ _ _ _ _ _ _ _ _ _ _ _ _ _ _ _ _ _ _ _ _ _ _ _ _ _ _ rfl (by omega) (by simp) hp hc⟩
  | cons x l ih =>
    intro i left K s0 s2 s5 s6 s7 s8 s9 s10 s11 s12 s13 s14 s15 s16 s17 s18 s19 s20 s21 s22 s23 s24 s25 s26 s27 s28 s29 s30 s31 s32 s33 s34 s35 s36 s37 s38 s39 s40 s41 s42 s43 s44 s45 s46 s47 s48 s49 s50 s51 s52 s53 s54 s55 s56 s57 s58 s59 s60 s61 s62 s63 s64 s65 s66 s67 s68 s69 s70 s71 s72 s73 s74 s75 s76 s77 s78 s79 s80 s81 s82 s83 s84 s85 s86 s87 s88 s89 s90 s91 s92 s93 s94 s95 s96 s97 s98 s99 s100 s101 s102 s103 s104 s105 s106 s107 s108 s109 s110 s111 s112 s113 s114 s115 s116 s117 s118 s119 s120 s121 s122 s123 s124 s125 s126 s127 s128 s129 s130 hd hi hp hc
    have hb : r.mutes[i]? = some x := by rw [← List.head?_drop, hd]; rfl
    have hlt : i < r.mutes.length := (List.getElem?_eq_some_iff.1 hb).1
    have hl := (hm0.pre hp).len (P := Tryz.prog) (T := 42) (e := 9) (by simp)
    simp [strCells] at hl
    obtain ⟨q, hp1, hp2⟩ := (hm0.pre hp).load1 (P := Tryz.prog) (T := 42) (te := 9) (i := i) (x := str x) (by simp) (by simp) (by simp) (by simp [strCells, hb])
    have hl8 : hlen K b = some 8 := by rw [hcells_len hc]; rfl
    rw [List.length_cons, L45x0q]
    simp [hc, hl8, Rul.cells, hl, hlt, hp1, hp2]
    refine kifB_bool (fun h => ?_) (fun h => ?_)
    · exact hT K hp
    · simp [hc, hl8, Rul.cells, hp1, hp2, show i + 1 < 2 ^ 63 by omega]
      exact ih (i + 1) _ K _ _ _ _ _ _ _ _ _ _ _ _ _ _ _ _ _ _ _ _ _ _ _ _ _ _ _ _ _ _ _ _ _ _ _ _ _ _ _ _ _ _ _ _ _ _ _ _ _ _ _ _ _ _ _ _ _ _ _ _ _ _ _ _ _ _ _ _ _ _ _ _ _ _ _ _ _ _ _ _ _ _ _ _ _ _ _ _ _ _ _ _ _ _ _ _ _ _ _ _ _ _ _ _ _ _ _ _ _ _ _ _ _ _ _ _ _ _ _ _ _ _ _ _ _ _ _ _ (by rw [← List.drop_drop, hd]; rfl) hlt hp hc
theorem c_big (hn0 : NodesAt H nv r.nodes) (hm0 : Arr H 1 mv (strCells r.mutes)) : ∃ b, (b = false → r.small) ∧ ACalls Tryz.prog 45 [.agg (r.cells nv mv).toArray] H (.bool b) H := by
  refine acalls_bool MixT Tryz.func45 (by decide) fun k hT hk => ?_
  rw [d45]
  have h1 : nv.oneCell' = true := by obtain ⟨_, h, _⟩ := hn0; exact h.one
  have h2 := hm0.one
  have hl : ∀ X : AHeap, aLen Tryz.prog (H ++ X) 42 mv = some (i64 r.mutes.length) := fun X => by
    have := (hm0.pre (.app H X)).len (P := Tryz.prog) (T := 42) (e := 9) (by simp)
    simpa [strCells] using this
  have hln := fun X : AHeap => (hn0.pre (.app H X)).len (H ++ X)
  simp +contextual [aNew_agg, Rul.cells, h1, h2, hl, hln]
  refine kifB_bool (fun h => ?_) (fun h => ?_)
  · exact hT _ (.app _ _)
  · simp at h
    simp
    refine ⟨r.mutes.length + 1, ?_⟩
    exact big_x0 (H := H) (r := r) (nv := nv) (mv := mv) (b := H.length) hn0 hm0 (by omega) (by omega) hT (fun h2 K p => hk ⟨by omega, by omega, by omega, h2⟩ K p) r.mutes 0 _ _ _ _ _ _ _ _ _ _ _ _ _ _ _ _ _ _ _ _ _ _ _ _ _ _ _ _ _ _ _ _ _ _ _ _ _ _ _ _ _ _ _ _ _ _ _ _ _ _ _ _ _ _ _ _ _ _ _ _ _ _ _ _ _ _ _ _ _ _ _ _ _ _ _ _ _ _ _ _ _ _ _ _ _ _ _ _ _ _ _ _ _ _ _ _ _ _ _ _ _ _ _ _ _ _ _ _ _ _ _ _ _ _ _ _ _ _ _ _ _ _ _ _ _ _ _ _ _ _ rfl (by omega) (.app _ _) (by simp [Rul.cells])
end
section
variable {rs : List Rul} {H : AHeap} {rv : Value} {b : Nat} {k : Value → AHeap → Prop}
def cfgC (rv : Value) : List Value := [rv, .slice none 0 0, .int .i64 0, .int .i64 0]
theorem cbig_x0 (hr : RulesAt H rv rs) (hrl : rs.length ≤ 20) (hT : ∀ K, Pre H K → k (.bool true) K) (hk : (∀ r ∈ rs, r.small) → ∀ K, Pre H K → k (.bool false) K) :
    ∀ (l : List Rul) (i : Nat) (K : AHeap) (s0 s2 s4 s5 s6 s7 s8 s9 s10 s11 s12 s13 s14 s15 s16 s17 s18 s19 s20 s21 s22 s23 s24 s25 s26 s27 s28 s29 s30 s31 s32 s33 s34 s35 s36 s37 s38 s39 s40 s41 s42 : Value), rs.drop i = l → i ≤ rs.length → (∀ r ∈ rs.take i, r.small) → Pre H K → hcells K b = some (cfgC rv) →
      L24x0 (l.length + 1) k [s0, .pointer (some ⟨b, 0, some 4⟩), s2, i64 i, s4, s5, s6, s7, s8, s9, s10, s11, s12, s13, s14, s15, s16, s17, s18, s19, s20, s21, s22, s23, s24, s25, s26, s27, s28, s29, s30, s31, s32, s33, s34, s35, s36, s37, s38, s39, s40, s41, s42] K := by
  intro l
  induction l with
  | nil =>
    intro i K s0 s2 s4 s5 s6 s7 s8 s9 s10 s11 s12 s13 s14 s15 s16 s17 s18 s19 s20 s21 s22 s23 s24 s25 s26 s27 s28 s29 s30 s31 s32 s33 s34 s35 s36 s37 s38 s39 s40 s41 s42 hd hi hs hp hc
    have hle : rs.length ≤ i := by simpa using hd
    have hl := (hr.pre hp).lenR K
    have hl4 : hlen K b = some 4 := by rw [hcells_len hc]; rfl
    rw [List.length_nil, L24x0q]
    have : ¬ i < rs.length := by omega
    rw [List.take_of_length_le hle] at hs
    simp [hc, hl4, cfgC, hl, this]
    refine ⟨1, ?_⟩
    rw [L24x1q]
    simp [hc, hl4, cfgC]
    exact hk hs K hp
  | cons x l ih =>
    intro i K s0 s2 s4 s5 s6 s7 s8 s9 s10 s11 s12 s13 s14 s15 s16 s17 s18 s19 s20 s21 s22 s23 s24 s25 s26 s27 s28 s29 s30 s31 s32 s33 s34 s35 s36 s37 s38 s39 s40 s41 s42 hd hi hs hp hc
    have hb : rs[i]? = some x := by rw [← List.head?_drop, hd]; rfl
    have hlt : i < rs.length := (List.getElem?_eq_some_iff.1 hb).1
    have hl := (hr.pre hp).lenR K
    have hl4 : hlen K b = some 4 := by rw [hcells_len hc]; rfl
    obtain ⟨nv, xv, hra, q, hp1, hp2⟩ := (hr.pre hp).at hb
    rw [List.length_cons, L24x0q]
    simp [hc, hl4, cfgC, hl, hlt, hp1, hp2]
    obtain ⟨t, ht, hcall⟩ := c_big (r := x) hra.nodes hra.mutes
    refine bndC_of hcall ?_
    simp
    refine kifB_bool (fun h => ?_) (fun h => ?_)
    · exact hT K hp
    · simp [show i + 1 < 2 ^ 63 by omega]
      refine ih (i + 1) K _ _ _ _ _ _ _ _ _ _ _ _ _ _ _ _ _ _ _ _ _ _ _ _ _ _ _ _ _ _ _ _ _ _ _ _ _ _ _ _ _ (by rw [← List.drop_drop, hd]; rfl) hlt ?_ hp hc
      intro r hrm
      rw [List.take_add_one, hb] at hrm
      simp at hrm
      rcases hrm with hrm | rfl
      · exact hs r hrm
      · exact ht h
theorem c_BigR (hr : RulesAt H rv rs) : ∃ b, (b = false → rs.length ≤ 20 ∧ ∀ r ∈ rs, r.small) ∧ ACalls Tryz.prog 24 [.agg (cfgC rv).toArray] H (.bool b) H := by
  refine acalls_bool MixT Tryz.func24 (by decide) fun k hT hk => ?_
  rw [d24]
  have h1 := hr.one
  have hlr := fun X : AHeap => hr.lenR (H ++ X)
  simp +contextual [aNew_agg, cfgC, h1, hlr]
  refine kifB_bool (fun h => ?_) (fun h => ?_)
  · exact hT _ (.app _ _)
  · simp at h
    refine ⟨rs.length + 1, ?_⟩
    exact cbig_x0 (H := H) (rs := rs) (rv := rv) (b := H.length) hr (by omega) hT (fun h2 K p => hk ⟨by omega, h2⟩ K p) rs 0 _ _ _ _ _ _ _ _ _ _ _ _ _ _ _ _ _ _ _ _ _ _ _ _ _ _ _ _ _ _ _ _ _ _ _ _ _ _ _ _ _ _ rfl (by omega) (by simp) (.app _ _) (by simp [cfgC])
end
theorem fine_of {rs : List Rul} (h : ∀ r ∈ rs, r.small) : fine rs := fun r hr => by have := (h r hr).1; omega
end Go.Vi
namespace Go.Vi
open Go Go.Proofs

theorem acallsG_flat {P : Program} {D : DrawK} (hD : ∀ c : Ctx, @SoundK c P D) {f fn args H v} (hf : P.funcs[f]? = some fn) (hn : notNG fn = true) (hc : flat v = true) (hr : kbodyG P D fn args H fun u H2 => u = v ∧ ∃ X, H2 = H ++ X) : ACalls P f args H v H := by
  intro w0 s w args' h hargs
  left
  unfold kbodyG at hr
  split at hr
  · rename_i c hb
    constructor
    · have hq : ¬ fn.name = "runtime.NumGoroutine" := by intro q; simp [notNG, q] at hn
      have hbn : ¬ fn.body = none := by rw [hb]; simp
      simp [callFunc, hf, hq, hbn]
    · letI : Ctx := ⟨[], none⟩
      refine callsIn_wide.1 (callsIn_of_wp_marks (F := Fence.wide) (n := 0) hf hb trivial ?_ rfl)
      have hal : args.length = args'.size := by have := hargs.1; simpa using this
      have ha : ARel s H (args ++ List.replicate (fn.ntmps - args.length) undef) { tmps := args' ++ Array.replicate (fn.ntmps - args'.size) undef, defers := [] } := by
        refine ⟨?_, rfl⟩
        simp only [Array.toList_append, Array.toList_replicate, hal]
        refine hargs.append ⟨by simp, fun i x y hx hy => ?_⟩
        rw [List.getElem?_replicate] at hx hy
        split at hx
        · rename_i hi
          rw [if_pos hi] at hy
          cases hx; cases hy
          exact undef_rel _ _
        · cases hx
      refine kxG_sound hD c h ha ⟨[], rfl, .nil _ _⟩ hr ?_
      have fin : ∀ {sl' H2 m' s' a' w' ds'}, WRel w0 s' H2 w' → Ext s H s' H2 → @ARel ⟨ds', none⟩ s' H2 sl' a' → MarkRel s' H2 m' ds' → kmarks (fun H2 => kres P sl' H2 fn.results.toList fun l => retV l = v ∧ ∃ X, H2 = H ++ X) m' H2 →
          LeavesInM Fence.wide 0 P fn a'.tmps (AEnd w0 s H v H) a'.defers .returning w' := by
        intro sl' H2 m' s' a' w' ds' g1 g2 g3 g4 hk
        have hd : a'.defers = ds' := @ARel.d ⟨ds', none⟩ _ _ _ _ g3
        rw [hd]
        refine kmarks_leave m' g1 g2 (@ARel.r ⟨ds', none⟩ _ _ _ _ g3) g4 hk ?_
        intro s5 H5 w5 q1 q2 q3 q4
        obtain ⟨l, h1, rfl, X, rfl⟩ := kres_sound _ q4
        obtain ⟨v', k1, k2⟩ := run_ret (P := P) (a := { tmps := a'.tmps, defers := [] }) fn q1.h ⟨q3, rfl⟩ (aRet_of h1)
        exact ⟨v', k1, s, v', rfl, h.forget q1 q2, Ext.refl _ _, by rw [k2.flat_eq hc]; exact flat_rel hc s H⟩
      intro e sl' H2 m' hk s' a' w' ds' g1 g2 g3 g4
      cases e with
      | exit i => cases hk
      | normal => exact fin g1 g2 g3 g4 hk
      | ret => exact fin g1 g2 g3 g4 hk
  · cases hr
def tx5 : List UInt8 := [97, 32, 53, 32, 49, 48, 32] ++ tA
def tx6 : List UInt8 := [97, 32, 54, 32, 49, 48, 32] ++ tA
def R1 : Rul := ⟨[110], [97], [nA], 5, 10, 0, [], []⟩
def R2 : Rul := ⟨[109], [97], [nA], 5, 10, 7, [[113]], [111, 112, 115]⟩
def R3 : Rul := ⟨[110], [97], [nA], 6, 10, 0, [], []⟩
set_option maxRecDepth 100000 in
theorem fing1 : fingF R1 = crcF tx5 := by kernel_rfl
set_option maxRecDepth 100000 in
theorem fing3 : fingF R3 = crcF tx6 := by kernel_rfl
theorem fing2 : fingF R2 = fingF R1 := rfl
theorem bndK_same {b l : Bool} {H : AHeap} {e q : QH} {s : QK} {v : Value} (h : e.f v H) (k : q.f v H) : @bndK b l H e s q := ⟨v, H, h, .inr (.inl ⟨[], by simp⟩), k⟩
theorem rlit1 (H : AHeap) {r : Rul} {nv mv : Value} (h1 : nv.oneCell' = true) (h2 : mv.oneCell' = true) : sliceLit Tryz.prog H 46 1 [(0, .agg (r.cells nv mv).toArray)] (.slice (some ⟨H.length, 0, some 8⟩) 1 1) (H ++ [.cells (r.cells nv mv) 44]) := by
  refine ⟨by simp [Rul.cells, h1, h2], ?_⟩
  rw [tbs46]
  simp [bslV, Rul.cells, repCells, h1, h2, show List.range 8 = [0, 1, 2, 3, 4, 5, 6, 7] from rfl]
theorem rlit2 (H : AHeap) {r r' : Rul} {nv mv nv' mv' : Value} (h1 : nv.oneCell' = true) (h2 : mv.oneCell' = true) (h3 : nv'.oneCell' = true) (h4 : mv'.oneCell' = true) :
    sliceLit Tryz.prog H 46 2 [(0, .agg (r.cells nv mv).toArray), (1, .agg (r'.cells nv' mv').toArray)] (.slice (some ⟨H.length, 0, some 16⟩) 2 2) (H ++ [.cells (r.cells nv mv ++ r'.cells nv' mv') 44]) := by
  refine ⟨by simp [Rul.cells, h1, h2, h3, h4], ?_⟩
  rw [tbs46]
  simp [bslV, Rul.cells, repCells, h1, h2, h3, h4, show List.range 16 = [0, 1, 2, 3, 4, 5, 6, 7, 8, 9, 10, 11, 12, 13, 14, 15] from rfl]
theorem rat1 {K : AHeap} {b : Nat} {r : Rul} {nv mv : Value} (hc : hcells K b = some (r.cells nv mv)) (h : RulAt K r nv mv) : RulesAt K (.slice (some ⟨b, 0, some 8⟩) 1 1) [r] := by
  refine ⟨[r.cells nv mv], .mk b 0 8 1 1 _ _ rfl hc rfl (by simp) fun i e hi => ?_, rfl, fun i x hi => ?_⟩
  · cases i with
    | zero => simp at hi; subst hi; rfl
    | succ i => simp at hi
  · cases i with
    | zero => simp at hi; subst hi; exact ⟨nv, mv, rfl, h⟩
    | succ i => simp at hi
theorem rat2 {K : AHeap} {b : Nat} {r r' : Rul} {nv mv nv' mv' : Value} (hc : hcells K b = some (r.cells nv mv ++ r'.cells nv' mv')) (h : RulAt K r nv mv) (h' : RulAt K r' nv' mv') : RulesAt K (.slice (some ⟨b, 0, some 16⟩) 2 2) [r, r'] := by
  refine ⟨[r.cells nv mv, r'.cells nv' mv'], .mk b 0 16 2 2 _ _ rfl hc rfl (by simp) fun i e hi => ?_, rfl, fun i x hi => ?_⟩
  · match i with
    | 0 => simp at hi; subst hi; rfl
    | 1 => simp at hi; subst hi; rfl
    | i + 2 => simp at hi
  · match i with
    | 0 => simp at hi; subst hi; exact ⟨nv, mv, rfl, h⟩
    | 1 => simp at hi; subst hi; exact ⟨nv', mv', rfl, h'⟩
    | i + 2 => simp at hi
theorem aConv_id (H : AHeap) (_X : AHeap) (l : List UInt8) (h : 0 < l.length) : aConv Tryz.prog (H ++ [.cells (bcells l) 5]) 55 55 (.slice (some ⟨H.length, 0, some l.length⟩) l.length l.length) = some (.slice (some ⟨H.length, 0, some l.length⟩) l.length l.length, H ++ [.ro (bcells l)]) := by
  have hu : isU8 Tryz.prog 5 = true := by kernel_rfl
  simp [aConv, hu, bcells, h]
theorem rowArr {K : AHeap} {b : Nat} {l : List UInt8} (h : hcells K b = some (bcells l)) : Arr K 1 (.slice (some ⟨b, 0, some l.length⟩) l.length l.length) (l.map fun b => [byt b]) := by
  refine .mk b 0 _ _ _ (bcells l) _ (by simp) h (by simp [bcells]) (by simp) fun i e hi => ?_
  simp only [List.getElem?_map, Option.map_eq_some_iff] at hi
  obtain ⟨b, h1, rfl⟩ := hi
  have hlt := (List.getElem?_eq_some_iff.1 h1).1
  rw [Nat.zero_add, Nat.mul_one, bcells, ← List.map_drop, List.drop_eq_getElem_cons hlt, List.map_cons, List.take_succ_cons, List.take_zero, (List.getElem?_eq_some_iff.1 h1).2]
set_option maxRecDepth 50000 in
set_option maxHeartbeats 2000000 in
theorem c_awake14 {H : AHeap} (hg : Pre Gs H) : ACalls Tryz.prog 23 [] H (.bool true) H := by
  refine acallsG_flat (fun c => @drawPlan_sound _ c MixT 41 PL23) Tryz.func23 (by decide) rfl ?_
  generalize hk0 : (fun u H2 => u = Value.bool true ∧ ∃ X, H2 = H ++ X) = k
  have hk : ∀ M, Pre H M → k (.bool true) M := fun M p => by rw [← hk0]; exact ⟨rfl, p⟩
  rw [d23]
  obtain ⟨v1, K1, a1, p1, n1⟩ := g_parse (s := tA) hg
  rw [pA] at a1 n1
  refine bndC_of a1 ?_
  simp only [bnd_some, tupV, List.getElem?_toArray, List.getElem?_cons_zero, List.getElem?_cons_succ]
  have o1 : v1.oneCell' = true := by obtain ⟨cl1, hcl1, _⟩ := n1; exact hcl1.one
  have hb : buildV Tryz.prog 44 [(0, str [110]), (1, str [97]), (2, v1), (3, .int .i64 5), (4, .int .i64 10)] = some (.agg (R1.cells v1 (.slice none 0 0)).toArray) := by
    simp [R1, Rul.cells, stor_one o1, cells_one o1]
  refine bnd_of hb ?_
  dsimp only
  simp only [tal44, bndE_some]
  rw [rule_new o1 rfl]
  simp only [bndS_some]
  refine bnd_of (rule_get (cs := R1.cells v1 (.slice none 0 0)) (by simp) rfl) ?_
  simp only [tal44, bndE_some]
  rw [rule_new o1 rfl]
  simp only [bndS_some]
  refine bndL_lit (strs_lit (l := [[113]]) (tbs42 _ 1 _) rfl (by decide)) ?_
  simp [Rul.cells, R1, o1]
  obtain ⟨B, hB⟩ : ∃ B, B = K1 ++ [AObj.cells (R1.cells v1 (.slice none 0 0)) 44, AObj.cells (R2.cells v1 (.slice (some ⟨K1.length + 2, 0, some 1⟩) 1 1)) 44, AObj.cells [str [113]] 9, AObj.cells (R3.cells v1 (.slice none 0 0)) 44] := ⟨_, rfl⟩
  have pB : Pre K1 B := by rw [hB]; exact .app _ _
  have pHB : Pre H B := p1.trans pB
  have hgB : Pre Gs B := hg.trans pHB
  have hl : B.length = K1.length + 4 := by rw [hB]; simp
  have c1 : hcells B K1.length = some (R1.cells v1 (.slice none 0 0)) := by rw [hB]; simp
  have c2 : hcells B (K1.length + 1) = some (R2.cells v1 (.slice (some ⟨K1.length + 2, 0, some 1⟩) 1 1)) := by rw [hB]; simp
  have c3 : hcells B (K1.length + 2) = some [str [113]] := by rw [hB]; simp
  have c4 : hcells B (K1.length + 3) = some (R3.cells v1 (.slice none 0 0)) := by rw [hB]; simp
  simp only [Rul.cells, R1, R2, R3] at hB
  rw [← hB]
  clear hB
  have nB : NodesAt B v1 [nA] := n1.pre pB
  have q1 : RulAt B R1 v1 (.slice none 0 0) := ⟨nB, .nil, ⟨by decide, by decide, by decide, by decide⟩, by decide⟩
  have q3 : RulAt B R3 v1 (.slice none 0 0) := ⟨nB, .nil, ⟨by decide, by decide, by decide, by decide⟩, by decide⟩
  have q2 : RulAt B R2 v1 (.slice (some ⟨K1.length + 2, 0, some 1⟩) 1 1) := ⟨nB, .mk _ 0 1 1 1 _ _ rfl c3 rfl (by simp) (fun i e hi => by
    cases i with
    | zero => simp [strCells, R2] at hi; subst hi; rfl
    | succ i => simp [strCells, R2] at hi), ⟨by decide, by decide, by decide, by decide⟩, by decide⟩
  have L1 := rule_get c1 rfl
  have L2 := rule_get c2 rfl
  have L3 := rule_get c4 rfl
  have L1X := fun X : AHeap => rule_get (hcells_more (X := X) c1) rfl
  have L2X := fun X : AHeap => rule_get (hcells_more (X := X) c2) rfl
  have L3X := fun X : AHeap => rule_get (hcells_more (X := X) c4) rfl
  have F1 : ∀ K, Pre B K → ACalls Tryz.prog 25 [.agg (R1.cells v1 (.slice none 0 0)).toArray] K (.int .u32 (crcF tx5)) K := fun K p => by
    rw [← fing1]; exact c_finger (hgB.trans p) (q1.pre p) (by decide)
  have F2 : ∀ K, Pre B K → ACalls Tryz.prog 25 [.agg (R2.cells v1 (.slice (some ⟨K1.length + 2, 0, some 1⟩) 1 1)).toArray] K (.int .u32 (crcF tx5)) K := fun K p => by
    rw [← fing1, ← fing2]; exact c_finger (hgB.trans p) (q2.pre p) (by decide)
  have F3 : ∀ K, Pre B K → ACalls Tryz.prog 25 [.agg (R3.cells v1 (.slice none 0 0)).toArray] K (.int .u32 (crcF tx6)) K := fun K p => by
    rw [← fing3]; exact c_finger (hgB.trans p) (q3.pre p) (by decide)
  have C5 : ∀ K, Pre (B ++ [AObj.ro (bcells tx5)]) K → ACalls Tryz.prog 27 [.slice (some ⟨B.length, 0, some 23⟩) 23 23] K (.int .u32 (crcF tx5)) K := fun K p => c_sum (rowArr (l := tx5) (p.hcells (by simp))) (by decide)
  have C6 : ∀ K, Pre (B ++ [AObj.ro (bcells tx5), .ro (bcells tx6)]) K → ACalls Tryz.prog 27 [.slice (some ⟨B.length + 1, 0, some 23⟩) 23 23] K (.int .u32 (crcF tx6)) K := fun K p => c_sum (rowArr (l := tx6) (p.hcells (by simp))) (by decide)
  have U0 : ∀ K, Pre B K → ACalls Tryz.prog 26 [.slice none 0 0] K (.bool true) K := fun K p =>
    c_unlike (rs := []) (hgB.trans p) ⟨[], .nil, rfl, fun i r hi => by simp at hi⟩ (by simp) (fun r hr => by cases hr)
  have U1 : ACalls Tryz.prog 26 [.slice (some ⟨B.length + 2, 0, some 8⟩) 1 1] (B ++ [AObj.ro (bcells tx5), .ro (bcells tx6), .cells (R1.cells v1 (.slice none 0 0)) 44]) (.bool true) (B ++ [AObj.ro (bcells tx5), .ro (bcells tx6), .cells (R1.cells v1 (.slice none 0 0)) 44]) := by
    have := c_unlike (rs := [R1]) (hgB.trans (.app B _)) (rat1 (K := B ++ [.ro (bcells tx5), .ro (bcells tx6), .cells (R1.cells v1 (.slice none 0 0)) 44]) (b := B.length + 2) (by simp) (q1.pre (.app B _))) (by simp) (fun r hr => by simp at hr; subst hr; decide)
    rwa [show unlF ([R1].map fingF) = true from (unlF_iff _).2 (by simp)] at this
  have U2 : ACalls Tryz.prog 26 [.slice (some ⟨B.length + 3, 0, some 16⟩) 2 2] (B ++ [AObj.ro (bcells tx5), .ro (bcells tx6), .cells (R1.cells v1 (.slice none 0 0)) 44, .cells (R1.cells v1 (.slice none 0 0) ++ R2.cells v1 (.slice (some ⟨K1.length + 2, 0, some 1⟩) 1 1)) 44]) (.bool false) (B ++ [AObj.ro (bcells tx5), .ro (bcells tx6), .cells (R1.cells v1 (.slice none 0 0)) 44, .cells (R1.cells v1 (.slice none 0 0) ++ R2.cells v1 (.slice (some ⟨K1.length + 2, 0, some 1⟩) 1 1)) 44]) := by
    have := c_unlike (rs := [R1, R2]) (hgB.trans (.app B _)) (rat2 (K := B ++ [.ro (bcells tx5), .ro (bcells tx6), .cells (R1.cells v1 (.slice none 0 0)) 44, .cells (R1.cells v1 (.slice none 0 0) ++ R2.cells v1 (.slice (some ⟨K1.length + 2, 0, some 1⟩) 1 1)) 44]) (b := B.length + 3) (by simp) (q1.pre (.app B _)) (q2.pre (.app B _))) (by simp) (fun r hr => by simp at hr; rcases hr with rfl | rfl <;> decide)
    rwa [show unlF ([R1, R2].map fingF) = false from Bool.eq_false_iff.2 fun h => by have := (unlF_iff _).1 h; simp [fing2] at this] at this
  have V5 : aConv Tryz.prog B 9 55 (str tx5) = some (.slice (some ⟨B.length, 0, some 23⟩) 23 23, B ++ [AObj.ro (bcells tx5)]) := aConv_sb B tx5
  have G6 : sliceLit Tryz.prog (B ++ [AObj.ro (bcells tx5)]) 55 23 (enumL 0 (bcells tx6)) (.slice (some ⟨(B ++ [AObj.ro (bcells tx5)]).length, 0, some 23⟩) 23 23) (B ++ [AObj.ro (bcells tx5)] ++ [.cells (bcells tx6) 5]) := sliceLit1 (l := bcells tx6) (tbs55 _ 23 _) (fun v hv => by simp only [bcells, List.mem_map] at hv; obtain ⟨b, _, rfl⟩ := hv; rfl) rfl (by decide)
  have V6 := aConv_id (B ++ [AObj.ro (bcells tx5)]) [] tx6 (by decide)
  have G1 := rlit1 (B ++ [AObj.ro (bcells tx5), .ro (bcells tx6)]) (r := R1) (nv := v1) (mv := .slice none 0 0) o1 rfl
  have G2 := rlit2 (B ++ [AObj.ro (bcells tx5), .ro (bcells tx6), .cells (R1.cells v1 (.slice none 0 0)) 44]) (r := R1) (nv := v1) (mv := .slice none 0 0) (r' := R2) (nv' := v1) (mv' := .slice (some ⟨K1.length + 2, 0, some 1⟩) 1 1) o1 rfl o1 rfl
  simp only [List.append_assoc, List.cons_append, List.nil_append, List.length_append, List.length_cons, List.length_nil, Nat.zero_add, Nat.reduceAdd] at V6 G6 G1 G2
  refine ⟨⟨?_, ?_, ?_⟩, ?_, ?_, ?_⟩ <;> repeat (first
    | (refine bndK_same (F1 _ (by first | exact .refl _ | exact .app _ _)) ?_; simp [L3X])
    | (refine bndK_same (F2 _ (by first | exact .refl _ | exact .app _ _)) ?_; simp [L1X])
    | (refine bndK_same (F3 _ (by first | exact .refl _ | exact .app _ _)) ?_; simp)
    | (refine bndK_same (C5 _ (.refl _)) ?_; simp [L2X])
    | (refine bndK_same (C6 _ (.refl _)) ?_; simp)
    | (refine bndK_same (U0 _ (by first | exact .refl _ | exact .app _ _)) ?_; simp [L1X])
    | (refine bndK_ext V5 ⟨_, rfl⟩ ?_; simp)
    | (refine bndK_ext G6 ⟨[.cells (bcells tx6) 5], by simp⟩ ?_; simp)
    | (refine bndK_of V6 (by simp [L3X]) ?_; simp)
    | (refine bndK_same U1 ?_; simp [L1X, L2X])
    | (refine bndK_ext G1 ⟨[.cells (R1.cells v1 (.slice none 0 0)) 44], by simp⟩ ?_; simp)
    | (refine bndK_bar G2 ?_; simp)
    | (refine bndK_same U2 ?_; simp))
  all_goals exact hk _ (pHB.more _)
end Go.Vi
