/- ExprBegins: the walk. -/
import Derived.Test.YtbkmkolaagepjaaGreatDoorJ7
namespace Go.Vi
open Go Go.Proofs

theorem beg_take (ns : List Nod) (j : Nat) : ∀ (f : Nat) (e : Int), e < j → beg (ns.take j) f e = beg ns f e := by
  intro f
  induction f with
  | zero => intro e _; rfl
  | succ f ih =>
    intro e he
    rw [beg, beg]
    by_cases h0 : e < 0
    · rw [if_pos h0, if_pos h0]
    rw [if_neg h0, if_neg h0, List.getElem?_take_of_lt (by omega)]
    cases hn : ns[e.toNat]? with
    | none => rfl
    | some n =>
      simp only
      have h1 := ih (e - 1) (by omega)
      have hr := beg_range ns f (e - 1) (by omega)
      have h2 := ih (beg ns f (e - 1) - 1) (by omega)
      rw [h1, h2]
theorem begins {ns : List Nod} (h : right ns = true) {n : Nod} (hn : ns[ns.length - 1]? = some n) : right (ns.take (ns.length - 1)) = ((n.kind.toNat : Int) == 3) := by
  have h' := h
  unfold right at h
  simp only [Bool.and_eq_true, decide_eq_true_eq, beq_iff_eq] at h
  obtain ⟨⟨h1, h2⟩, h3⟩ := h
  have hl : (ns.take (ns.length - 1)).length = ns.length - 1 := by simp
  obtain ⟨m, hm⟩ : ∃ m, ns.length = m + 1 := ⟨ns.length - 1, by omega⟩
  unfold right
  rw [hl]
  rw [hm] at h3 hn ⊢
  simp only [Nat.add_sub_cancel] at hn ⊢
  have e1 : (((m + 1 : Nat) : Int) - 1) = (m : Int) := by omega
  rw [e1, beg, if_neg (by omega)] at h3
  rw [Int.toNat_natCast, hn] at h3
  simp only at h3
  rw [beg_take ns m m ((m : Int) - 1) (by omega)]
  have kk : ∀ m : UInt8, n.kind = m → (n.kind.toNat : Int) = m.toNat := fun m hm => by rw [hm]
  by_cases k0 : ((n.kind.toNat : Int) == 0) = true
  · have k3 : ((n.kind.toNat : Int) == 3) = false := by
      rw [beq_iff_eq] at k0; rw [k0]; rfl
    rw [if_pos k0] at h3
    rw [k3]
    split at h3
    · have : m = 0 := by omega
      subst this
      rfl
    · omega
  · rw [if_neg k0] at h3
    by_cases k3 : ((n.kind.toNat : Int) == 3) = true
    · rw [if_pos k3] at h3
      rw [k3]
      split at h3
      · have hr := beg_range ns m ((m : Int) - 1) (by omega)
        have hm1 : 1 ≤ m := by omega
        rw [h3]
        simp
        omega
      · omega
    · rw [if_neg k3] at h3
      have k3' : ((n.kind.toNat : Int) == 3) = false := by simpa using k3
      rw [k3']
      split at h3
      · split at h3
        · rename_i hc
          simp only [Bool.and_eq_true, beq_iff_eq, decide_eq_true_eq] at hc
          have hpos := hc.1.2
          have : (beg ns m ((m : Int) - 1) == 0) = false := by rw [beq_eq_false_iff_ne]; omega
          rw [this, Bool.and_false]
        · omega
      · omega
theorem w_begins {H : AHeap} {v : Value} {ns : List Nod} (hg : Pre Gs H) (hn : NodesAt H v ns) : ACalls Tryz.prog 5 [v] H (.bool true) H := by
  refine acalls_pure MixT Tryz.func5 (by decide) rfl ?_
  rw [d5]
  refine bndC_of (c_awake hg) ?_
  obtain ⟨b, hb, hcall⟩ := c_great hn
  simp
  refine bndC_of hcall ?_
  cases b with
  | true => simp
  | false =>
    have hl100 := hb rfl
    simp
    refine bndG_call (.bool (right ns)) (fun _ => c_right hn) ?_
    simp
    cases hr : right ns with
    | false => simp
    | true =>
      obtain ⟨h1, h2, _⟩ := right_WF hr
      have hl := hn.len H
      have hw : IntKind.i64.wrap ((ns.length : Int) - 1) = ((ns.length - 1 : Nat) : Int) := by rw [wrap_i64 (by omega) (by omega)]; omega
      obtain ⟨t, t1, t2⟩ := hn.take (j := ns.length - 1) (by omega)
      have hlast : ns[ns.length - 1]? = some (ns[ns.length - 1]) := List.getElem?_eq_getElem _
      generalize ns[ns.length - 1] = n at hlast
      obtain ⟨q1, b1, b2⟩ := node_at hn hlast
      obtain ⟨x0, c0, d0⟩ := b2 0 0 5 (byt n.kind) (by simp) (by simp) (by simp) (fun _ => rfl)
      simp [hl, hw, t1]
      have hr2 := c_right t2
      rw [begins hr hlast] at hr2
      refine bndD_same hr2 ?_
      have hbq := fun (H : AHeap) X Y a b => aBin_beq2 (P := Tryz.prog) (H := H) (T := 4) (x := X) (y := Y) (a := a) (b := b) (by simp)
      simp [b1, c0, d0, hbq]
end Go.Vi
