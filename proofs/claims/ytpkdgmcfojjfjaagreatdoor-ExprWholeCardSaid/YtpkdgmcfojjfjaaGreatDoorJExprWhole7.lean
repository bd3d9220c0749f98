/- ExprWhole: the walk. -/
import Derived.Test.YtpkdgmcfojjfjaaGreatDoorJ6
namespace Go.Vi
open Go Go.Proofs

theorem NodesAt.sel {H : AHeap} {v : Value} {ns : List Nod} (h : NodesAt H v ns) : ∀ n ∈ ns, n.sel.length < 2 ^ 63 := by
  intro n hn
  obtain ⟨cl, _, _, h3⟩ := h
  obtain ⟨i, hi⟩ := List.getElem?_of_mem hn
  obtain ⟨sv, _, _, h4⟩ := h3 i n hi
  omega
theorem conO_le {T : List Tok} {p : List Nod × Nat} (h : conO T 0 = some p) : p.2 ≤ T.length := by
  have he : Emb T T 0 := ⟨fun a t ht => ⟨t, by simpa using ht, rfl, rfl⟩, fun u hu => by simp at hu⟩
  exact (he.str [] _ _ _ _ _ _ (Nat.zero_le _) ((conO_str T 0).trans (congrArg some h))).1
theorem readF_zero (T : List Tok) : readF T 0 = match conO T 0 with
    | none => ([], 0, 100)
    | some p => if (p.1.length : Int) > 31 then ([], 0, 4) else (p.1, p.2, 0) := by
  unfold readF
  by_cases hts : (0 : Int) ≥ T.length
  · have : T = [] := List.eq_nil_of_length_eq_zero (by omega)
    rw [if_pos (.inr hts), this, conO_nil]
  · (rw [if_neg (by omega)] <;> rfl)
theorem w_whole {H : AHeap} {s : List UInt8} (hg : Pre Gs H) : ACalls Tryz.prog 3 [str s] H (.bool true) H := by
  refine acalls_pure MixT Tryz.func3 (by decide) rfl ?_
  rw [d3]
  refine bndC_of (c_awake hg) ?_
  simp
  refine kifB_bool (fun _ => ?_) (fun hc => ?_)
  · simp
  · obtain ⟨v, K1, ⟨lv, rfl, g1, g2⟩, g3⟩ := c_lexAll H s
    refine bndC_of g3 ?_
    simp
    obtain ⟨v2, K2, a2, p2, n2⟩ := g_parse (s := s) (hg.trans g1)
    obtain ⟨hnt, hnl⟩ := allTok_ok (l := s)
    by_cases he : (allTok s).2.2 = 0
    · obtain ⟨v3, K3, a3, p3, n3, _⟩ := g_read (at' := 0) (ts := (allTok s).1) ((hg.trans g1).trans p2) hnt (by omega) (g2.pre p2)
      have hX : ∃ X, K3 = H ++ X := (g1.trans p2).trans p3
      have hlv : ∀ J, aLen Tryz.prog J 23 lv = some (i64 (allTok s).1.length) := fun J => by
        have := g2.len' (K := J) (P := Tryz.prog) (T := 23) (e := 70) (by simp)
        simpa using this
      have hr := readF_zero (allTok s).1
      have hp : parseF s = match conO (allTok s).1 0 with
          | none => ([], 100)
          | some p => if p.2 ≠ (allTok s).1.length then ([], 100) else if (p.1.length : Int) > 31 then ([], 4) else (p.1, 0) := by unfold parseF; (rw [if_neg (by simpa using he)] <;> rfl)
      cases hc : conO (allTok s).1 0 with
      | none =>
        rw [hc] at hr hp
        simp only at hr hp
        rw [hr] at a3
        rw [hp] at a2
        refine bndC_of a2 ?_
        simp [he]
        refine bndC_of a3 ?_
        simp; exact hX
      | some p =>
        have hle := conO_le hc
        rw [hc] at hr hp
        simp only at hr hp
        by_cases h31 : (p.1.length : Int) > 31
        · rw [if_pos h31] at hr hp
          rw [hr] at a3
          have hp2 : (parseF s).2 = 100 ∨ (parseF s).2 = 4 := by rw [hp]; split <;> simp
          rcases hp2 with hp2 | hp2 <;> rw [hp2] at a2 <;> refine bndC_of a2 ?_ <;> simp [he] <;> refine bndC_of a3 ?_ <;> simp <;> exact hX
        · rw [if_neg h31] at hr hp
          rw [hr] at a3 n3
          by_cases hl : p.2 ≠ (allTok s).1.length
          · rw [if_pos hl] at hp
            rw [hp] at a2
            have : p.2 < (allTok s).1.length := by omega
            refine bndC_of a2 ?_
            simp [he]
            refine bndC_of a3 ?_
            simp [hlv, this]; exact hX
          · rw [if_neg hl] at hp
            rw [hp] at a2 n2
            have hl' : p.2 = (allTok s).1.length := by omega
            have hn2 := n2.pre p3
            refine bndC_of a2 ?_
            simp [he]
            refine bndC_of a3 ?_
            simp [hlv, hl']
            refine bndG_t (.bool true) K3 (c_sameN hn2 n3 (by simp only; omega) hn2.sel) ?_
            simp
            exact hX
    · have hp : parseF s = ([], (allTok s).2.2) := by unfold parseF; rw [if_pos he]
      rw [hp] at a2 n2
      have hl2 := n2.len K2
      simp at hl2
      have he2 : ((allTok s).2.2 != 0) = true := by simpa using he
      refine bndC_of a2 ?_
      simp [he2, hl2]
      exact g1.trans p2
end Go.Vi
