/- ExprCounts: the walk. -/
import Derived.Test.YtbkmkolaagepjaaGreatDoorJ7
namespace Go.Vi
open Go Go.Proofs

def isC (n : Nod) : Bool := (n.kind.toNat : Int) == 0
def isB (n : Nod) : Bool := isAnd n || isOr n
def okK (n : Nod) : Bool := isC n || isB n || ((n.kind.toNat : Int) == 3)
def seg (ns : List Nod) (a c : Nat) : List Nod := (ns.take c).drop a
theorem seg_app (ns : List Nod) {a b c : Nat} (h1 : a ≤ b) (h2 : b ≤ c) : seg ns a c = seg ns a b ++ seg ns b c := by
  unfold seg
  have h : ns.take c = ns.take b ++ (ns.take c).drop b := by
    have := (List.take_append_drop b (ns.take c)).symm
    rwa [List.take_take, Nat.min_eq_left h2] at this
  by_cases hb : b ≤ ns.length
  · conv => lhs; rw [h]
    rw [List.drop_append_of_le_length (by simp; omega)]
  · have e1 : ns.take c = ns := List.take_of_length_le (by omega)
    have e2 : ns.take b = ns := List.take_of_length_le (by omega)
    rw [e1, e2, List.drop_of_length_le (by omega : ns.length ≤ b), List.append_nil]
theorem seg_one {ns : List Nod} {e : Nat} {n : Nod} (h : ns[e]? = some n) : seg ns e (e + 1) = [n] := by
  obtain ⟨hl, he⟩ := List.getElem?_eq_some_iff.1 h
  unfold seg
  rw [List.take_add_one, h, List.drop_append_of_le_length (by simp; omega), List.drop_of_length_le (by simp; omega)]
  rfl
def Bal (l : List Nod) (d : Nat) : Prop := (∀ n ∈ l, okK n = true) ∧ l.countP isC = l.countP isB + d
theorem beg_cnt (ns : List Nod) : ∀ (f e : Nat), 0 ≤ beg ns f (e : Int) → ∃ b : Nat, beg ns f (e : Int) = b ∧ b ≤ e ∧ Bal (seg ns b (e + 1)) 1 := by
  intro f
  induction f with
  | zero => intro e h; simp [beg] at h
  | succ f ih =>
    intro e h
    rw [beg, if_neg (by omega), Int.toNat_natCast] at h ⊢
    cases hn : ns[e]? with
    | none => rw [hn] at h; simp at h
    | some n =>
      rw [hn] at h
      simp only at h ⊢
      by_cases k0 : ((n.kind.toNat : Int) == 0) = true
      · rw [if_pos k0] at h ⊢
        split at h
        · rename_i hp
          rw [if_pos hp]
          refine ⟨e, rfl, Nat.le_refl _, ?_⟩
          rw [seg_one hn]
          have hB : isB n = false := by
            rw [beq_iff_eq] at k0
            simp [isB, isAnd, isOr, k0]
          refine ⟨fun m hm => ?_, by simp [isC, k0, hB]⟩
          simp at hm; subst hm
          simp [okK, isC, k0]
        · omega
      · rw [if_neg k0] at h ⊢
        have hC : isC n = false := by simpa [isC] using k0
        by_cases k3 : ((n.kind.toNat : Int) == 3) = true
        · rw [if_pos k3] at h ⊢
          split at h
          · rename_i hc
            rw [if_pos hc]
            have he : 1 ≤ e := by
              rcases Nat.eq_zero_or_pos e with rfl | h0
              · have hr := beg_range ns f (((0 : Nat) : Int) - 1) (by omega)
                omega
              · exact h0
            have e1 : ((e : Int) - 1) = ((e - 1 : Nat) : Int) := by omega
            rw [e1] at h ⊢
            obtain ⟨b, q1, q2, q3, q4⟩ := ih (e - 1) h
            have hB : isB n = false := by
              rw [beq_iff_eq] at k3
              simp [isB, isAnd, isOr, k3]
            refine ⟨b, q1, by omega, ?_⟩
            rw [show e - 1 + 1 = e by omega] at q3 q4
            rw [seg_app ns (by omega : b ≤ e) (by omega : e ≤ e + 1), seg_one hn]
            refine ⟨fun m hm => ?_, by simp [List.countP_append, hC, hB, q4]⟩
            rcases List.mem_append.1 hm with hm | hm
            · exact q3 m hm
            · simp at hm; subst hm; simp [okK, k3]
          · omega
        · rw [if_neg k3] at h ⊢
          by_cases kb : (isAnd n || isOr n) = true
          · rw [if_pos kb] at h ⊢
            split at h
            · rename_i hc
              rw [if_pos hc]
              simp only [Bool.and_eq_true, beq_iff_eq, decide_eq_true_eq] at hc
              have hpos := hc.1.2
              have hr := beg_range ns f ((e : Int) - 1) (by omega)
              have e1 : ((e : Int) - 1) = ((e - 1 : Nat) : Int) := by omega
              rw [e1] at h hpos hr ⊢
              obtain ⟨m, m1, m2, m3, m4⟩ := ih (e - 1) (by omega)
              rw [m1] at h hpos ⊢
              have e2 : ((m : Int) - 1) = ((m - 1 : Nat) : Int) := by omega
              rw [e2] at h ⊢
              obtain ⟨b, q1, q2, q3, q4⟩ := ih (m - 1) h
              refine ⟨b, q1, by omega, ?_⟩
              rw [show e - 1 + 1 = e by omega] at m3 m4
              rw [show m - 1 + 1 = m by omega] at q3 q4
              rw [seg_app ns (by omega : b ≤ e) (by omega : e ≤ e + 1), seg_app ns (by omega : b ≤ m) (by omega : m ≤ e), seg_one hn]
              have hB : isB n = true := kb
              refine ⟨fun x hx => ?_, by simp [List.countP_append, hC, hB, q4, m4]; omega⟩
              rcases List.mem_append.1 hx with hx | hx
              · rcases List.mem_append.1 hx with hx | hx
                · exact q3 x hx
                · exact m3 x hx
              · simp at hx; subst hx; simp [okK, hB]
            · omega
          · rw [if_neg kb] at h; omega
theorem counts {ns : List Nod} (h : right ns = true) : Bal ns 1 ∧ 1 ≤ ns.length ∧ ns.length ≤ 31 := by
  unfold right at h
  simp only [Bool.and_eq_true, decide_eq_true_eq, beq_iff_eq] at h
  obtain ⟨⟨h1, h2⟩, h3⟩ := h
  have e1 : ((ns.length : Int) - 1) = ((ns.length - 1 : Nat) : Int) := by omega
  rw [e1] at h3
  obtain ⟨b, q1, q2, q3⟩ := beg_cnt ns ns.length (ns.length - 1) (by omega)
  have hb : b = 0 := by omega
  subst hb
  rw [show ns.length - 1 + 1 = ns.length by omega] at q3
  have : seg ns 0 ns.length = ns := by simp [seg]
  rw [this] at q3
  exact ⟨q3, by omega, by omega⟩
theorem cnt_loop {H : AHeap} {v : Value} {ns : List Nod} {k : Value → AHeap → Prop} (hn : NodesAt H v ns) (hb : Bal ns 1) (hl31 : ns.length ≤ 31) (hk : k (.bool true) H) :
    ∀ (l : List Nod) (i : Nat) (s1 s2 s6 s7 s8 s9 s10 s11 s12 s13 s14 s15 s16 s17 s18 s19 s20 s21 s22 s23 s24 s25 s26 s27 s28 s29 s30 s31 s32 s33 s34 s35 s36 s37 s38 s39 s40 s41 s42 s43 s44 s45 : Value), ns.drop i = l → i ≤ ns.length →
      L4x0 (l.length + 1) k [v, s1, s2, i64 ((ns.take i).countP isC), i64 ((ns.take i).countP isB), i64 i, s6, s7, s8, s9, s10, s11, s12, s13, s14, s15, s16, s17, s18, s19, s20, s21, s22, s23, s24, s25, s26, s27, s28, s29, s30, s31, s32, s33, s34, s35, s36, s37, s38, s39, s40, s41, s42, s43, s44, s45] H := by
  have hl := hn.len H
  intro l
  induction l with
  | nil =>
    intro i s1 s2 s6 s7 s8 s9 s10 s11 s12 s13 s14 s15 s16 s17 s18 s19 s20 s21 s22 s23 s24 s25 s26 s27 s28 s29 s30 s31 s32 s33 s34 s35 s36 s37 s38 s39 s40 s41 s42 s43 s44 s45 hd hi
    have hle : ns.length ≤ i := by simpa using hd
    rw [List.take_of_length_le hle]
    have hcp := hb.2
    have hB : ns.countP isB ≤ ns.length := List.countP_le_length
    rw [hcp]
    have : ¬ i < ns.length := by omega
    have hw : IntKind.i64.wrap (((ns.countP isB : Nat) : Int) + 1) = ((ns.countP isB : Nat) : Int) + 1 := wrap_i64 (by omega) (by omega)
    have h31 : (ns.length : Int) ≤ 31 := by omega
    rw [List.length_nil, L4x0q]
    simp [hl, this, hw, h31]
    exact hk
  | cons n l ih =>
    intro i s1 s2 s6 s7 s8 s9 s10 s11 s12 s13 s14 s15 s16 s17 s18 s19 s20 s21 s22 s23 s24 s25 s26 s27 s28 s29 s30 s31 s32 s33 s34 s35 s36 s37 s38 s39 s40 s41 s42 s43 s44 s45 hd hi
    have hbi : ns[i]? = some n := by rw [← List.head?_drop, hd]; rfl
    have hlt : i < ns.length := (List.getElem?_eq_some_iff.1 hbi).1
    obtain ⟨q1, b1, b2⟩ := node_at hn hbi
    obtain ⟨x0, c0, d0⟩ := b2 0 0 5 (byt n.kind) (by simp) (by simp) (by simp) (fun _ => rfl)
    have hok := hb.1 n (List.mem_of_getElem? hbi)
    have hdr : ns.drop (i + 1) = l := by rw [← List.drop_drop, hd]; rfl
    have hca : (ns.take i).countP isC ≤ 31 := Nat.le_trans List.countP_le_length (by simp; omega)
    have hcb : (ns.take i).countP isB ≤ 31 := Nat.le_trans List.countP_le_length (by simp; omega)
    have hnext := fun (a b : Nat) (ha : a = (ns.take i).countP isC + (if isC n = true then 1 else 0)) (hb' : b = (ns.take i).countP isB + (if isB n = true then 1 else 0)) (s1 s2 s6 s7 s8 s9 s10 s11 s12 s13 s14 s15 s16 s17 s18 s19 s20 s21 s22 s23 s24 s25 s26 s27 s28 s29 s30 s31 s32 s33 s34 s35 s36 s37 s38 s39 s40 s41 s42 s43 s44 s45 : Value) => (by
      have := ih (i + 1) s1 s2 s6 s7 s8 s9 s10 s11 s12 s13 s14 s15 s16 s17 s18 s19 s20 s21 s22 s23 s24 s25 s26 s27 s28 s29 s30 s31 s32 s33 s34 s35 s36 s37 s38 s39 s40 s41 s42 s43 s44 s45 hdr hlt
      rw [List.take_add_one, hbi] at this
      simp only [Option.toList_some, List.countP_append, List.countP_cons, List.countP_nil, Nat.zero_add] at this
      rw [← ha, ← hb'] at this
      exact this : L4x0 (l.length + 1) k [v, s1, s2, i64 (a : Nat), i64 (b : Nat), i64 ((i + 1 : Nat) : Int), s6, s7, s8, s9, s10, s11, s12, s13, s14, s15, s16, s17, s18, s19, s20, s21, s22, s23, s24, s25, s26, s27, s28, s29, s30, s31, s32, s33, s34, s35, s36, s37, s38, s39, s40, s41, s42, s43, s44, s45] H)
    generalize (ns.take i).countP isC = a at hca hnext ⊢
    generalize (ns.take i).countP isB = b at hcb hnext ⊢
    clear ih
    rw [List.length_cons, L4x0q]
    simp [hl, hlt, b1, c0, d0]
    cases hC : isC n with
    | true =>
      have hB : isB n = false := by
        unfold isC at hC; rw [beq_iff_eq] at hC
        simp [isB, isAnd, isOr, hC]
      have e0 : (n.kind.toNat : Int) = 0 := by unfold isC at hC; simpa using hC
      simp [e0, S4x0q, show a + 1 < 2 ^ 63 by omega, show i + 1 < 2 ^ 63 by omega]
      exact hnext (a + 1) b (by simp [hC]) (by simp [hB]) _ _ _ _ _ _ _ _ _ _ _ _ _ _ _ _ _ _ _ _ _ _ _ _ _ _ _ _ _ _ _ _ _ _ _ _ _ _ _ _ _ _
    | false =>
      have e0 : ((n.kind.toNat : Int) == 0) = false := hC
      cases hB : isB n with
      | true =>
        have hgo := hnext a (b + 1) (by simp [hC]) (by simp [hB])
        have hk12 : (n.kind.toNat : Int) = 1 ∨ (n.kind.toNat : Int) = 2 := by
          unfold isB isAnd isOr at hB
          simpa using hB
        rcases hk12 with e1 | e1
        · simp [e1, S4x1q, S4x0q, show b + 1 < 2 ^ 63 by omega, show i + 1 < 2 ^ 63 by omega]
          exact hgo _ _ _ _ _ _ _ _ _ _ _ _ _ _ _ _ _ _ _ _ _ _ _ _ _ _ _ _ _ _ _ _ _ _ _ _ _ _ _ _ _ _
        · simp [e1, S4x1q, S4x0q, show b + 1 < 2 ^ 63 by omega, show i + 1 < 2 ^ 63 by omega]
          exact hgo _ _ _ _ _ _ _ _ _ _ _ _ _ _ _ _ _ _ _ _ _ _ _ _ _ _ _ _ _ _ _ _ _ _ _ _ _ _ _ _ _ _
      | false =>
        have e3 : (n.kind.toNat : Int) = 3 := by
          unfold okK at hok; rw [hC, hB] at hok; simpa using hok
        have hgo := hnext a b (by simp [hC]) (by simp [hB])
        simp [e3, S4x1q, S4x0q, show i + 1 < 2 ^ 63 by omega]
        exact hgo _ _ _ _ _ _ _ _ _ _ _ _ _ _ _ _ _ _ _ _ _ _ _ _ _ _ _ _ _ _ _ _ _ _ _ _ _ _ _ _ _ _
theorem w_counts {H : AHeap} {v : Value} {ns : List Nod} (hg : Pre Gs H) (hn : NodesAt H v ns) : ACalls Tryz.prog 4 [v] H (.bool true) H := by
  refine acalls_pure MixT Tryz.func4 (by decide) rfl ?_
  rw [d4]
  refine bndC_of (c_awake hg) ?_
  obtain ⟨b, hb, hcall⟩ := c_great hn
  simp
  refine bndC_of hcall ?_
  cases b with
  | true => simp
  | false =>
    simp
    refine bndG_call (.bool (right ns)) (fun _ => c_right hn) ?_
    simp
    cases hr : right ns with
    | false => simp
    | true =>
      obtain ⟨h1, h2, h3⟩ := counts hr
      simp
      have := cnt_loop (H := H) (v := v) (ns := ns) (k := fun u H2 => u = .bool true ∧ ∃ X, H2 = H ++ X) hn h1 h3 ⟨rfl, [], by simp⟩ ns 0
      exact ⟨ns.length + 1, this _ _ _ _ _ _ _ _ _ _ _ _ _ _ _ _ _ _ _ _ _ _ _ _ _ _ _ _ _ _ _ _ _ _ _ _ _ _ _ _ _ _ rfl (by omega)⟩
end Go.Vi
