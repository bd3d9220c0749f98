/- Statements of chapter 10: what they share. Statements of chapter 10: the examples. -/
import Derived.Test.YtbkmkolaagepjaaGreatDoorJ6
namespace Go.Vi
open Go Go.Proofs

theorem NodesAt.take {H : AHeap} {v : Value} {ns : List Nod} {j : Nat} (h : NodesAt H v ns) (hj : j ≤ ns.length) : ∃ t, aSliceOp Tryz.prog H 27 v none (some (i64 j)) = some t ∧ NodesAt H t (ns.take j) := by
  obtain ⟨cl, ha, hcl, hc⟩ := h
  have hres : ∀ (i : Nat) n, (ns.take j)[i]? = some n → ∃ sv, (cl.take j)[i]? = some (n.cells sv) ∧ MatsAt H sv n.sel ∧ n.sel.length < 2 ^ 63 := by
    intro i n hi
    have hij : i < j := by have := (List.getElem?_eq_some_iff.1 hi).1; simp at this; omega
    rw [List.getElem?_take_of_lt hij] at hi
    obtain ⟨sv, q1, q2⟩ := hc i n hi
    exact ⟨sv, by rw [List.getElem?_take_of_lt hij]; exact q1, q2⟩
  have hu : Tryz.prog.underlying 27 = some (.slice 37) := by simp
  have hz : tsize Tryz.prog 37 = some 8 := by simp
  cases ha with
  | nil =>
    simp at hcl
    have : j = 0 := by omega
    subst this
    refine ⟨.slice none 0 0, ?_, [], .nil, by simp, fun i n hi => by simp at hi⟩
    simp [aSliceOp, aLow, aHigh, hu, hz]
  | mk b o m n c cs l hn hcs hm hle hel hnc =>
    have hl : hlen H b = some m := by rw [← hm]; exact hcells_len hcs
    have h8 : o + j * 8 ≤ m := by have : j * 8 ≤ n * 8 := by omega
                                  omega
    have harr : Arr H 8 (.slice (some ⟨b, o, some m⟩) j c) (cl.take j) := by
      refine .mk b o m j c cs _ (by simp; omega) hcs hm h8 (fun i e hi => ?_) (by omega)
      have hij : i < j := by have := (List.getElem?_eq_some_iff.1 hi).1; simp at this; omega
      rw [List.getElem?_take_of_lt hij] at hi
      exact hel i e hi
    refine ⟨.slice (some ⟨b, o, some m⟩) j c, ?_, cl.take j, harr, by simp; omega, hres⟩
    simp only [aSliceOp, hu, hz, aLow, aHigh]
    rw [if_pos ⟨hl, by omega, by omega, by omega, .inl trivial⟩]
    simp
theorem acallsBool {P : Program} (hm : P.follows .mixedOrders = true) {f fn args H} {Q : Prop} (hf : P.funcs[f]? = some fn) (hn : notNG fn = true)
    (hr : ∀ k : Value → AHeap → Prop, (∀ K, Pre H K → k (.bool true) K) → (Q → ∀ K, Pre H K → k (.bool false) K) → kbody P fn args H k) : ∃ b, (b = false → Q) ∧ ACalls P f args H (.bool b) H := by
  obtain ⟨v, H', ⟨b, rfl, hq, X, rfl⟩, h⟩ := acalls_ex hm hf hn (hr (fun u H2 => ∃ b, u = .bool b ∧ (b = false → Q) ∧ Pre H H2) (fun K p => ⟨true, rfl, by simp, p⟩) fun q K p => ⟨false, rfl, fun _ => q, p⟩)
  exact ⟨b, hq, h.trim rfl⟩
section
variable {H : AHeap} {ns : List Nod} {v : Value} {k : Value → AHeap → Prop}
theorem great_x1 {n0 i : Nat} (hn0 : NodesAt H v ns) {nd : Nod} (hi : ns[i]? = some nd) (hsel : nd.sel.length ≤ 100) (hi2 : i + 1 < 2 ^ 63) (hT : ∀ K, Pre H K → k (.bool true) K)
    (hk : ∀ (K : AHeap) (left : Int) (s1 s2 s5 s6 s7 s8 s9 s10 s11 s12 s13 s14 s15 s16 s17 s18 s19 s20 s21 s22 s23 s24 s25 s26 s27 s28 s29 s30 s31 s32 s33 s34 s35 s36 s37 s38 s39 s40 s41 s42 s43 s44 s45 s46 s47 s48 s49 s50 s51 s52 s53 s54 s55 s56 s57 s58 s59 s60 s61 s62 s63 s64 s65 : Value), Pre H K → L14x0 n0 k [v, s1, s2, i64 left, i64 ((i + 1 : Nat) : Int), s5, s6, s7, s8, s9, s10, s11, s12, s13, s14, s15, s16, s17, s18, s19, s20, s21, s22, s23, s24, s25, s26, s27, s28, s29, s30, s31, s32, s33, s34, s35, s36, s37, s38, s39, s40, s41, s42, s43, s44, s45, s46, s47, s48, s49, s50, s51, s52, s53, s54, s55, s56, s57, s58, s59, s60, s61, s62, s63, s64, s65] K) :
    ∀ (m : List Mat) (j : Nat) (left : Int) (K : AHeap) (s1 s2 s6 s7 s8 s9 s10 s11 s12 s13 s14 s15 s16 s17 s18 s19 s20 s21 s22 s23 s24 s25 s26 s27 s28 s29 s30 s31 s32 s33 s34 s35 s36 s37 s38 s39 s40 s41 s42 s43 s44 s45 s46 s47 s48 s49 s50 s51 s52 s53 s54 s55 s56 s57 s58 s59 s60 s61 s62 s63 s64 s65 : Value), nd.sel.drop j = m → j ≤ nd.sel.length → Pre H K →
      L14x1 (m.length + 1) n0 k [v, s1, s2, i64 left, i64 i, i64 j, s6, s7, s8, s9, s10, s11, s12, s13, s14, s15, s16, s17, s18, s19, s20, s21, s22, s23, s24, s25, s26, s27, s28, s29, s30, s31, s32, s33, s34, s35, s36, s37, s38, s39, s40, s41, s42, s43, s44, s45, s46, s47, s48, s49, s50, s51, s52, s53, s54, s55, s56, s57, s58, s59, s60, s61, s62, s63, s64, s65] K := by
  intro m
  induction m with
  | nil =>
    intro j left K s1 s2 s6 s7 s8 s9 s10 s11 s12 s13 s14 s15 s16 s17 s18 s19 s20 s21 s22 s23 s24 s25 s26 s27 s28 s29 s30 s31 s32 s33 s34 s35 s36 s37 s38 s39 s40 s41 s42 s43 s44 s45 s46 s47 s48 s49 s50 s51 s52 s53 s54 s55 s56 s57 s58 s59 s60 s61 s62 s63 s64 s65 hd hj hp
    have hle : nd.sel.length ≤ j := by simpa using hd
    obtain ⟨cl, ha, hcl, hcc⟩ := hn0.pre hp
    obtain ⟨sv, h1, h2, h3⟩ := hcc _ _ hi
    obtain ⟨p, q, f1, f2, f3⟩ := ha.field (P := Tryz.prog) (T := 27) (te := 37) (ft := 35) (f := 2) (d := 2) (x := sv) (by simp) (by simp) (by simp) (by simp) (by simp) h1 rfl
    have hl := h2.len (P := Tryz.prog) (T := 35) (e := 53) (by simp)
    simp only [List.length_map] at hl
    rw [List.length_nil, L14x1q]
    have : ¬ j < nd.sel.length := by omega
    simp [f1, f2, f3, hl, this, hi2]
    exact hk K left _ _ _ _ _ _ _ _ _ _ _ _ _ _ _ _ _ _ _ _ _ _ _ _ _ _ _ _ _ _ _ _ _ _ _ _ _ _ _ _ _ _ _ _ _ _ _ _ _ _ _ _ _ _ _ _ _ _ _ _ _ _ _ hp
  | cons x m ih =>
    intro j left K s1 s2 s6 s7 s8 s9 s10 s11 s12 s13 s14 s15 s16 s17 s18 s19 s20 s21 s22 s23 s24 s25 s26 s27 s28 s29 s30 s31 s32 s33 s34 s35 s36 s37 s38 s39 s40 s41 s42 s43 s44 s45 s46 s47 s48 s49 s50 s51 s52 s53 s54 s55 s56 s57 s58 s59 s60 s61 s62 s63 s64 s65 hd hj hp
    have hb : nd.sel[j]? = some x := by rw [← List.head?_drop, hd]; rfl
    have hlt : j < nd.sel.length := (List.getElem?_eq_some_iff.1 hb).1
    obtain ⟨cl, ha, hcl, hcc⟩ := hn0.pre hp
    obtain ⟨sv, h1, h2, h3⟩ := hcc _ _ hi
    obtain ⟨p, q, f1, f2, f3⟩ := ha.field (P := Tryz.prog) (T := 27) (te := 37) (ft := 35) (f := 2) (d := 2) (x := sv) (by simp) (by simp) (by simp) (by simp) (by simp) h1 rfl
    have hl := h2.len (P := Tryz.prog) (T := 35) (e := 53) (by simp)
    simp only [List.length_map] at hl
    obtain ⟨p2, g1, g2⟩ := h2.load (P := Tryz.prog) (T := 35) (te := 53) (i := j) (e := x.cells) (by simp) (by simp) (by simp) (by simp [hb])
    rw [List.length_cons, L14x1q]
    simp +contextual [f1, f2, f3, hl, hlt, g1, g2, Mat.cells]
    refine kifB_bool (fun h => ?_) (fun h => ?_)
    · exact hT _ (hp.more _)
    · simp [show j + 1 < 2 ^ 63 by omega]
      exact ih (j + 1) _ _ _ _ _ _ _ _ _ _ _ _ _ _ _ _ _ _ _ _ _ _ _ _ _ _ _ _ _ _ _ _ _ _ _ _ _ _ _ _ _ _ _ _ _ _ _ _ _ _ _ _ _ _ _ _ _ _ _ _ _ _ _ _ (by rw [← List.drop_drop, hd]; rfl) hlt (hp.more _)
theorem great_x0 (hn0 : NodesAt H v ns) (hnl : ns.length ≤ 100) (hT : ∀ K, Pre H K → k (.bool true) K) (hk : ∀ K, Pre H K → k (.bool false) K) :
    ∀ (l : List Nod) (i : Nat) (left : Int) (K : AHeap) (s1 s2 s5 s6 s7 s8 s9 s10 s11 s12 s13 s14 s15 s16 s17 s18 s19 s20 s21 s22 s23 s24 s25 s26 s27 s28 s29 s30 s31 s32 s33 s34 s35 s36 s37 s38 s39 s40 s41 s42 s43 s44 s45 s46 s47 s48 s49 s50 s51 s52 s53 s54 s55 s56 s57 s58 s59 s60 s61 s62 s63 s64 s65 : Value), ns.drop i = l → i ≤ ns.length → Pre H K →
      L14x0 (l.length + 1) k [v, s1, s2, i64 left, i64 i, s5, s6, s7, s8, s9, s10, s11, s12, s13, s14, s15, s16, s17, s18, s19, s20, s21, s22, s23, s24, s25, s26, s27, s28, s29, s30, s31, s32, s33, s34, s35, s36, s37, s38, s39, s40, s41, s42, s43, s44, s45, s46, s47, s48, s49, s50, s51, s52, s53, s54, s55, s56, s57, s58, s59, s60, s61, s62, s63, s64, s65] K := by
  intro l
  induction l with
  | nil =>
    intro i left K s1 s2 s5 s6 s7 s8 s9 s10 s11 s12 s13 s14 s15 s16 s17 s18 s19 s20 s21 s22 s23 s24 s25 s26 s27 s28 s29 s30 s31 s32 s33 s34 s35 s36 s37 s38 s39 s40 s41 s42 s43 s44 s45 s46 s47 s48 s49 s50 s51 s52 s53 s54 s55 s56 s57 s58 s59 s60 s61 s62 s63 s64 s65 hd hi hp
    have hle : ns.length ≤ i := by simpa using hd
    have hl := (hn0.pre hp).len K
    rw [List.length_nil, L14x0q]
    have : ¬ i < ns.length := by omega
    simp [hl, this]
    exact hk K hp
  | cons x l ih =>
    intro i left K s1 s2 s5 s6 s7 s8 s9 s10 s11 s12 s13 s14 s15 s16 s17 s18 s19 s20 s21 s22 s23 s24 s25 s26 s27 s28 s29 s30 s31 s32 s33 s34 s35 s36 s37 s38 s39 s40 s41 s42 s43 s44 s45 s46 s47 s48 s49 s50 s51 s52 s53 s54 s55 s56 s57 s58 s59 s60 s61 s62 s63 s64 s65 hd hi hp
    have hb : ns[i]? = some x := by rw [← List.head?_drop, hd]; rfl
    have hlt : i < ns.length := (List.getElem?_eq_some_iff.1 hb).1
    obtain ⟨cl, ha, hcl, hcc⟩ := hn0.pre hp
    obtain ⟨sv, h1, h2, h3⟩ := hcc _ _ hb
    obtain ⟨p, q, f1, f2, f3⟩ := ha.field (P := Tryz.prog) (T := 27) (te := 37) (ft := 35) (f := 2) (d := 2) (x := sv) (by simp) (by simp) (by simp) (by simp) (by simp) h1 rfl
    have hl := h2.len (P := Tryz.prog) (T := 35) (e := 53) (by simp)
    simp only [List.length_map] at hl
    have hln := (hn0.pre hp).len K
    rw [List.length_cons, L14x0q]
    simp [hln, hlt, f1, f2, f3, hl]
    by_cases h50 : 100 < x.sel.length
    · have h50I : (100 : Int) < x.sel.length := by omega
      simp [h50I]
      exact hT K hp
    · have h50I : ¬ (100 : Int) < x.sel.length := by omega
      simp [h50I]
      refine ⟨x.sel.length + 1, great_x1 (H := H) (ns := ns) (v := v) hn0 hb (by omega) (by omega) hT ?_ x.sel 0 left K _ _ _ _ _ _ _ _ _ _ _ _ _ _ _ _ _ _ _ _ _ _ _ _ _ _ _ _ _ _ _ _ _ _ _ _ _ _ _ _ _ _ _ _ _ _ _ _ _ _ _ _ _ _ _ _ _ _ _ _ _ _ rfl (by omega) hp⟩
      intro K2 left2 s1 s2 s5 s6 s7 s8 s9 s10 s11 s12 s13 s14 s15 s16 s17 s18 s19 s20 s21 s22 s23 s24 s25 s26 s27 s28 s29 s30 s31 s32 s33 s34 s35 s36 s37 s38 s39 s40 s41 s42 s43 s44 s45 s46 s47 s48 s49 s50 s51 s52 s53 s54 s55 s56 s57 s58 s59 s60 s61 s62 s63 s64 s65 hp2
      exact ih (i + 1) left2 K2 _ _ _ _ _ _ _ _ _ _ _ _ _ _ _ _ _ _ _ _ _ _ _ _ _ _ _ _ _ _ _ _ _ _ _ _ _ _ _ _ _ _ _ _ _ _ _ _ _ _ _ _ _ _ _ _ _ _ _ _ _ _ _ (by rw [← List.drop_drop, hd]; rfl) hlt hp2
theorem c_great (hn0 : NodesAt H v ns) : ∃ b, (b = false → ns.length ≤ 100) ∧ ACalls Tryz.prog 14 [v] H (.bool b) H := by
  refine acallsBool MixT Tryz.func14 (by decide) fun k hT hk => ?_
  rw [d14]
  have hl := hn0.len H
  by_cases h1 : 100 < ns.length
  · have h1I : (100 : Int) < ns.length := by omega
    simp [hl, h1I]
    exact hT H (.refl _)
  · have h1I : ¬ (100 : Int) < ns.length := by omega
    simp [hl, h1I]
    exact ⟨ns.length + 1, great_x0 (H := H) (ns := ns) (v := v) hn0 (by omega) hT (hk (by omega)) ns 0 5000 H _ _ _ _ _ _ _ _ _ _ _ _ _ _ _ _ _ _ _ _ _ _ _ _ _ _ _ _ _ _ _ _ _ _ _ _ _ _ _ _ _ _ _ _ _ _ _ _ _ _ _ _ _ _ _ _ _ _ _ _ _ _ _ rfl (by omega) (.refl _)⟩
end
end Go.Vi
namespace Go.Vi
open Go Go.Proofs

def tA : List UInt8 := [99, 111, 117, 110, 116, 40, 123, 125, 91, 53, 93, 41, 32, 62, 32, 51]
def tZ : List UInt8 := [99, 111, 117, 110, 116, 40, 123, 125, 91, 48, 93, 41, 32, 62, 32, 49]
def tB : List UInt8 := tA ++ [32, 97, 110, 100]
def tS : List UInt8 := [110, 111, 116, 32, 40] ++ tA ++ [32, 111, 114, 32] ++ tA ++ [41, 32, 97, 110, 100, 32] ++ tA
def nA : Nod := cmpNod 0 5 2 3000
def nS : List Nod := [nA, nA, ⟨2, 0, [], 0, 0, 0, 0, 1⟩, ⟨3, 0, [], 0, 0, 0, 2, 0⟩, nA, ⟨1, 0, [], 0, 0, 0, 3, 4⟩]
theorem pA : parseF tA = ([nA], 0) := by kernel_rfl
theorem pS : parseF tS = (nS, 0) := by kernel_rfl
theorem pB : (parseF tB).2 = 100 ∧ (parseF tZ).2 = 100 := ⟨by kernel_rfl, by kernel_rfl⟩
theorem prS : printS nS = tS := by kernel_rfl
theorem riS : right nS = true ∧ right (nS.take 2) = false := ⟨by kernel_rfl, by kernel_rfl⟩
theorem node_at {H : AHeap} {v : Value} {ns : List Nod} {i : Nat} {n : Nod} (h : NodesAt H v ns) (hi : ns[i]? = some n) : ∃ p, aIndexAddr Tryz.prog H 27 v (i64 i) = some p ∧
    ∀ (f d : Nat) (ft : TypeId) (x : Value), afield Tryz.prog 37 f = some (d, ft) → tsize Tryz.prog ft = some 1 → tagg Tryz.prog ft = some false → (∀ sv, (n.cells sv)[d]? = some x) → ∃ q, aFieldAddr Tryz.prog H 37 p f = some q ∧ aLoad Tryz.prog H ft q = some x := by
  obtain ⟨cl, ha, hcl, hc⟩ := h
  obtain ⟨sv, h1, h2, h3⟩ := hc _ _ hi
  obtain ⟨p, hp, _⟩ := ha.load (P := Tryz.prog) (T := 27) (te := 37) (i := i) (e := n.cells sv) (by simp) (by simp) (by simp) h1
  refine ⟨p, hp, fun f d ft x a1 a2 a3 a4 => ?_⟩
  obtain ⟨p', q, e1, e2, e3⟩ := ha.field (P := Tryz.prog) (T := 27) (te := 37) (ft := ft) (f := f) (d := d) (i := i) (x := x) (by simp) (by simp) a1 a2 a3 h1 (a4 sv)
  rw [hp] at e1
  cases e1
  exact ⟨q, e2, e3⟩
set_option maxRecDepth 20000 in
theorem c_awake {H : AHeap} (hg : Pre Gs H) : ACalls Tryz.prog 9 [] H (.bool true) H := by
  refine acalls_pure MixT Tryz.func9 (by decide) rfl ?_
  rw [d9]
  obtain ⟨v1, K1, a1, p1, n1⟩ := g_parse (s := tA) hg
  rw [pA] at a1 n1
  refine bndC_of a1 ?_
  simp only [bnd_some, tupV, List.getElem?_toArray, List.getElem?_cons_zero, List.getElem?_cons_succ]
  refine bnd_of (v := str ([110, 111, 116, 32, 40] ++ tA)) (aBin_str (a := [110, 111, 116, 32, 40]) (b := tA) (by decide)) ?_
  dsimp only
  refine bnd_of (aBin_str (b := [32, 111, 114, 32]) (by decide)) ?_
  dsimp only
  refine bnd_of (aBin_str (b := tA) (by decide)) ?_
  dsimp only
  refine bnd_of (aBin_str (b := [41, 32, 97, 110, 100, 32]) (by decide)) ?_
  dsimp only
  refine bnd_of (aBin_str (b := tA) (by decide)) ?_
  dsimp only
  obtain ⟨v2, K2, a2, p2, n2⟩ := g_parse (s := tS) (hg.trans p1)
  rw [pS] at a2 n2
  refine bndC_of a2 ?_
  simp only [bnd_some, tupV, List.getElem?_toArray, List.getElem?_cons_zero, List.getElem?_cons_succ]
  refine bnd_of (v := str tB) (aBin_str (a := tA) (b := [32, 97, 110, 100]) (by decide)) ?_
  dsimp only
  obtain ⟨v3, K3, a3, p3, n3⟩ := g_parse (s := tB) ((hg.trans p1).trans p2)
  rw [pB.1] at a3
  refine bndC_of a3 ?_
  simp only [bnd_some, tupV, List.getElem?_toArray, List.getElem?_cons_zero, List.getElem?_cons_succ]
  obtain ⟨v4, K4, a4, p4, n4⟩ := g_parse (s := tZ) (((hg.trans p1).trans p2).trans p3)
  rw [pB.2] at a4
  refine bndC_of a4 ?_
  have m1 := n1.pre (p2.trans (p3.trans p4))
  have m2 := n2.pre (p3.trans p4)
  have hgK := (((hg.trans p1).trans p2).trans p3).trans p4
  have hpK := ((p1.trans p2).trans p3).trans p4
  clear n1 n2 n3 n4 a1 a2 a3 a4
  have l1 := m1.len K4
  have l2 := m2.len K4
  obtain ⟨q1, b1, b2⟩ := node_at m1 (i := 0) (n := nA) rfl
  obtain ⟨x3, c3, d3⟩ := b2 3 3 3 (i64 5) (by simp) (by simp) (by simp) (fun _ => rfl)
  obtain ⟨x4, c4, d4⟩ := b2 4 4 5 (.int .u8 2) (by simp) (by simp) (by simp) (fun _ => rfl)
  obtain ⟨x5, c5, d5⟩ := b2 5 5 2 (i64 3000) (by simp) (by simp) (by simp) (fun _ => rfl)
  obtain ⟨q2, e1, e2⟩ := node_at m2 (i := 2) rfl
  obtain ⟨y0, f0, g0⟩ := e2 0 0 5 (.int .u8 2) (by simp) (by simp) (by simp) (fun _ => rfl)
  obtain ⟨y7, f7, g7⟩ := e2 7 7 3 (i64 1) (by simp) (by simp) (by simp) (fun _ => rfl)
  obtain ⟨q3, h1, h2⟩ := node_at m2 (i := 3) rfl
  obtain ⟨z0, i0, j0⟩ := h2 0 0 5 (.int .u8 3) (by simp) (by simp) (by simp) (fun _ => rfl)
  obtain ⟨z6, i6, j6⟩ := h2 6 6 3 (i64 2) (by simp) (by simp) (by simp) (fun _ => rfl)
  obtain ⟨q5, k1, k2⟩ := node_at m2 (i := 5) rfl
  obtain ⟨w0, r0, s0⟩ := k2 0 0 5 (.int .u8 1) (by simp) (by simp) (by simp) (fun _ => rfl)
  obtain ⟨w6, r6, s6⟩ := k2 6 6 3 (i64 3) (by simp) (by simp) (by simp) (fun _ => rfl)
  obtain ⟨w7, r7, s7⟩ := k2 7 7 3 (i64 4) (by simp) (by simp) (by simp) (fun _ => rfl)
  simp only [show ((0 : Nat) : Int) = 0 from rfl, show ((2 : Nat) : Int) = 2 from rfl, show ((3 : Nat) : Int) = 3 from rfl, show ((5 : Nat) : Int) = 5 from rfl] at b1 e1 h1 k1
  simp [l1, l2, nS, b1, c3, d3, c4, d4, c5, d5, e1, f0, g0, f7, g7, h1, i0, j0, i6, j6, k1, r0, s0, r6, s6, r7, s7]
  have hpr := c_exprPrint hgK m2
  rw [show printS (nS, (0 : Int)).1 = tS from prS] at hpr
  refine bndG_t (str tS) K4 hpr ?_
  clear b1 e1 h1 k1 b2 e2 h2 k2 c3 d3 c4 d4 c5 d5 f0 g0 f7 g7 i0 j0 i6 j6 r0 s0 r6 s6 r7 s7
  simp only [gif_tt, bnd_some]
  refine bnd_of (v := str ([110, 111, 116, 32, 40] ++ tA)) (aBin_str (a := [110, 111, 116, 32, 40]) (b := tA) (by decide)) ?_
  simp only [gif_tt]
  refine bnd_of (aBin_str (b := [32, 111, 114, 32]) (by decide)) ?_
  simp only [gif_tt, bnd_some]
  refine bnd_of (aBin_str (b := tA) (by decide)) ?_
  simp only [gif_tt]
  refine bnd_of (aBin_str (b := [41, 32, 97, 110, 100, 32]) (by decide)) ?_
  simp only [gif_tt, bnd_some]
  refine bnd_of (aBin_str (b := tA) (by decide)) ?_
  simp only [gif_tt]
  refine bnd_of (v := .bool true) (by rw [aBin_seql]; exact congrArg some (congrArg Value.bool (decide_eq_true rfl))) ?_
  simp
  have hr1 := c_right m2
  rw [show right (nS, (0 : Int)).1 = true from riS.1] at hr1
  refine bndG_t (.bool true) K4 hr1 ?_
  obtain ⟨t, t1, t2⟩ := m2.take (j := 2) (by decide)
  simp at t1
  simp [t1]
  have hr2 := c_right t2
  rw [show right ((nS, (0 : Int)).1.take 2) = false from riS.2] at hr2
  refine bndG_t (.bool false) K4 hr2 ?_
  simp
  exact hpK
end Go.Vi
