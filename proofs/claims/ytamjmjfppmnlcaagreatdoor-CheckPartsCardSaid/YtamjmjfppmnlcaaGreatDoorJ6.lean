/- Copies in memory of their own: matchers, nodes. Copies in memory of their own: rules, configurations. Copies in memory of their own: configurations. Configurations with a thing twice, without one, turned about; the windows of right nodes. -/
import Derived.Test.YtamjmjfppmnlcaaGreatDoorJ5
namespace Go.Vi
open Go Go.Proofs

theorem xel1 : aElem Tryz.prog 73 = some (92, 3, 40) := by kernel_rfl
theorem xel2 : isSeq Tryz.prog 73 = true := by kernel_rfl
theorem sel1 : aElem Tryz.prog 32 = some (9, 1, 16) := by kernel_rfl
theorem sel2 : isSeq Tryz.prog 32 = true := by kernel_rfl
theorem rel1 : aElem Tryz.prog 22 = some (34, 8, 120) := by kernel_rfl
theorem rel2 : isSeq Tryz.prog 22 = true := by kernel_rfl
theorem Gro.wk {K lo lo' z T v cl} (h : Gro K lo z T v cl) (hl : lo' ≤ lo) : Gro K lo' z T v cl := by
  cases h with
  | nil => exact .nil
  | mk bb cl h1 h2 h3 h4 => exact .mk bb cl (Nat.le_trans hl h1) h2 h3 h4
/-- What is not a row of the type stays. -/
def KT (T : TypeId) (K K' : AHeap) : Prop := ∀ (b : Nat) o, K[b]? = some o → (∀ cs, o ≠ .cells cs T) → K'[b]? = some o
theorem Gro.kt {T' : TypeId} {K K' lo z T v cl} (h : Gro K lo z T v cl) (hk : KT T' K K') (hT : T ≠ T') : Gro K' lo z T v cl := by
  cases h with
  | nil => exact .nil
  | mk bb cl h1 h2 h3 h4 => exact .mk bb cl h1 (hk _ _ h2 fun cs e => hT (by cases e; rfl)) h3 h4
theorem Gro.pushK {P : Program} {K : AHeap} {lo z by_ : Nat} {T Ts : TypeId} {v x : Value} {cl : List (List Value)} {c : List Value} (h : Gro K lo z T v cl) (hT : aElem P Ts = some (T, z, by_)) (hsq : isSeq P Ts = true) (hc : c.length = z) (hlo : lo ≤ K.length)
    (hx : aSrc K z x = some (1, c)) (hb : (cl.length + 1) * by_ ≤ 140737488355328) (hn : cl.length + 1 ≤ 9223372036854775807) :
    ∃ v' K', aBuiltin P K .append #[Ts, Ts] [v, x] = some (v', K') ∧ Gro K' lo z T v' (cl ++ [c]) ∧ (∀ b o, b < lo → K[b]? = some o → K'[b]? = some o) ∧ K.length ≤ K'.length ∧ (∀ H, Pre H K → H.length ≤ lo → Pre H K') ∧ KT T K K' := by
  obtain ⟨v', K', h1, h2, h3, h4, h5⟩ := h.push hT hsq hc hlo hx hb hn
  refine ⟨v', K', h1, h2, h3, h4, h5, fun b o hbo hne => ?_⟩
  cases h with
  | nil =>
    have hb' : by_ ≤ 140737488355328 := by simpa using hb
    simp [aBuiltin, aAppend, hT, hx, hsq, hb', hc] at h1
    rw [← h1.2]; exact get_more hbo
  | mk bb cl g1 g2 g3 g4 =>
    have hfl := flat_len g4
    have e2 : ¬ cl.length + 1 ≤ cl.length := by omega
    simp only [aBuiltin, aAppend, hT, hx, hsq, if_true, g2, hfl, Nat.zero_add, Nat.le_refl, and_self, e2, if_false, hb, hn, Option.some.injEq, Prod.mk.injEq] at h1
    rw [← h1.2, List.getElem?_set_ne (by rintro rfl; rw [hbo] at g2; cases g2; exact hne _ rfl)]
    exact hbo
/-- Nodes in a row of their own. -/
def NRow (K : AHeap) (lo : Nat) (v : Value) (ns : List Nod) : Prop := ∃ cl, Gro K lo 8 75 v cl ∧ cl.length = ns.length ∧ ∀ (i : Nat) n, ns[i]? = some n → ∃ sv, cl[i]? = some (n.cells sv) ∧ Gro K lo 3 92 sv (n.sel.map Mat.cells) ∧ n.sel.length < 2 ^ 63
theorem NRow.fr {K K' lo v ns} (h : NRow K lo v ns) (hf : ∀ (b : Nat) o, lo ≤ b → K[b]? = some o → K'[b]? = some o) : NRow K' lo v ns := by
  obtain ⟨cl, h1, h2, h3⟩ := h
  refine ⟨cl, h1.fr hf, h2, fun i n hi => ?_⟩
  obtain ⟨sv, q1, q2, q3⟩ := h3 i n hi
  exact ⟨sv, q1, q2.fr hf, q3⟩
theorem NRow.wk {K lo lo' v ns} (h : NRow K lo v ns) (hl : lo' ≤ lo) : NRow K lo' v ns := by
  obtain ⟨cl, h1, h2, h3⟩ := h
  refine ⟨cl, h1.wk hl, h2, fun i n hi => ?_⟩
  obtain ⟨sv, q1, q2, q3⟩ := h3 i n hi
  exact ⟨sv, q1, q2.wk hl, q3⟩
theorem NRow.kt {T' : TypeId} {K K' lo v ns} (h : NRow K lo v ns) (hk : KT T' K K') (h1 : 75 ≠ T') (h2 : 92 ≠ T') : NRow K' lo v ns := by
  obtain ⟨cl, q1, q2, h3⟩ := h
  refine ⟨cl, q1.kt hk h1, q2, fun i n hi => ?_⟩
  obtain ⟨sv, q1, q2, q3⟩ := h3 i n hi
  exact ⟨sv, q1, q2.kt hk h2, q3⟩
theorem NRow.at {K lo v ns} (h : NRow K lo v ns) : NodesAt K v ns := by
  obtain ⟨cl, h1, h2, h3⟩ := h
  refine ⟨cl, h1.arr, h2, fun i n hi => ?_⟩
  obtain ⟨sv, q1, q2, q3⟩ := h3 i n hi
  exact ⟨sv, q1, q2.arr, q3⟩
theorem NRow.one {K lo v ns} (h : NRow K lo v ns) : v.oneCell' = true := by obtain ⟨cl, h1, _⟩ := h; exact h1.one
theorem NRow.cells {K lo v ns} (h : NRow K lo v ns) : v.cells = #[v] := by obtain ⟨cl, h1, _⟩ := h; exact h1.cells
theorem NRow.stor {K lo v ns} (h : NRow K lo v ns) : storable v = true := by obtain ⟨cl, h1, _⟩ := h; exact h1.stor
theorem get_snoc {α : Type} {l : List α} {a b : α} {i : Nat} (h : (l ++ [a])[i]? = some b) : (i < l.length ∧ l[i]? = some b) ∨ (i = l.length ∧ b = a) := by
  rcases Nat.lt_or_ge i l.length with hlt | hge
  · rw [List.getElem?_append_left hlt] at h; exact .inl ⟨hlt, h⟩
  · rw [List.getElem?_append_right hge] at h
    have h0 : i - l.length = 0 := by
      have := (List.getElem?_eq_some_iff.1 h).1; simp at this; omega
    rw [h0] at h
    simp at h
    exact .inr ⟨by omega, h.symm⟩
theorem NRow.push {K lo v ns} (h : NRow K lo v ns) (n : Nod) (sv : Value) (hsv : Gro K lo 3 92 sv (n.sel.map Mat.cells)) (hsl : n.sel.length < 2 ^ 63) (hns : ns.length + 1 ≤ 2 ^ 30) (hlo : lo ≤ K.length) :
    ∃ v' K2, aBuiltin Tryz.prog (K ++ [AObj.cells (n.cells sv) 75]) .append #[31, 31] [v, .slice (some ⟨K.length, 0, some 8⟩) 1 1] = some (v', K2) ∧
      NRow K2 lo v' (ns ++ [n]) ∧ (∀ H, Pre H K → H.length ≤ lo → Pre H K2) ∧ K.length ≤ K2.length := by
  obtain ⟨cl, hg, hcl, hall⟩ := h
  obtain ⟨v', K2, q1, q2, q3, q4, q5, q6⟩ := Gro.pushK (P := Tryz.prog) (Ts := 31) (by_ := 72) (x := .slice (some ⟨K.length, 0, some 8⟩) 1 1) (c := n.cells sv) (hg.app (X := [AObj.cells (n.cells sv) 75])) nel1 nel2 (by rfl) (by simp; omega) (by simp [aSrc, Nod.cells]) (by omega) (by omega)
  have hmat : ∀ {sv ms}, Gro K lo 3 92 sv ms → Gro K2 lo 3 92 sv ms := fun hg => hg.app.kt q6 (by decide)
  refine ⟨v', K2, q1, ⟨cl ++ [n.cells sv], q2, by simp [hcl], fun i m hi => ?_⟩, fun H p hH => q5 H (p.more _) hH, by simp at q4; omega⟩
  rcases get_snoc hi with ⟨hlt, hi⟩ | ⟨rfl, rfl⟩
  · obtain ⟨sv', e1, e2, e3⟩ := hall i m hi
    exact ⟨sv', by rw [List.getElem?_append_left (by omega)]; exact e1, hmat e2, e3⟩
  · exact ⟨sv, by rw [List.getElem?_append_right (by omega), hcl]; simp, hmat hsv, hsl⟩
theorem nod_lit8 {K : AHeap} (n : Nod) {sv : Value} (hs : sv.oneCell' = true) : sliceLit Tryz.prog K 31 1 [(0, .agg (n.cells sv).toArray)] (.slice (some ⟨K.length, 0, some 8⟩) 1 1) (K ++ [.cells (n.cells sv) 75]) :=
  sliceLitA (c := n.cells sv) (tbs31 K 1 _) (by rfl) (by simp [Nod.cells, hs]) (by simp)
theorem c_copyMats {H : AHeap} {v : Value} {ms : List Mat} (h : MatsAt H v ms) (hl : ms.length ≤ 50) : ∃ v' K', ACalls Tryz.prog 74 [v] H v' K' ∧ Pre H K' ∧ Gro K' H.length 3 92 v' (ms.map Mat.cells) := by
  obtain ⟨v1, K1, p1, p2, p3, p4, p5⟩ := Gro.pushN (P := Tryz.prog) (K := H) (lo := H.length) (v := .slice none 0 0) (cl := []) (ds := ms.map Mat.cells) (by_ := 40) .nil xel1 xel2 (Arr.all_len h) (Nat.le_refl _) (Arr.src h) (by simp; omega) (by simp; omega)
  refine ⟨v1, K1, acalls_of MixT Tryz.func74 (by decide) ?_, p5 H (Pre.refl _) (Nat.le_refl _), by simpa using p2⟩
  rw [d74, p1]
  simp
theorem copyN_loop {ns : List Nod} {H : AHeap} {v : Value} {k : Value → AHeap → Prop} (hn0 : NodesAt H v ns) (hnl : ns.length ≤ 100) (hs : ∀ n ∈ ns, n.sel.length ≤ 50) (hk : ∀ u K, Pre H K → NRow K H.length u ns → k u K) :
    ∀ (l : List Nod) (i : Nat) (K : AHeap) (out : Value) (s1 s2 s5 s6 s7 s8 s9 s10 s11 s12 s13 s14 s15 s16 s17 s18 s19 s20 s21 s22 s23 s24 s25 s26 s27 : Value), ns.drop i = l → i ≤ ns.length → Pre H K → NRow K H.length out (ns.take i) →
      L55x0 (l.length + 1) k [v, s1, s2, out, i64 i, s5, s6, s7, s8, s9, s10, s11, s12, s13, s14, s15, s16, s17, s18, s19, s20, s21, s22, s23, s24, s25, s26, s27] K := by
  intro l
  induction l with
  | nil =>
    intro i K out s1 s2 s5 s6 s7 s8 s9 s10 s11 s12 s13 s14 s15 s16 s17 s18 s19 s20 s21 s22 s23 s24 s25 s26 s27 hd hi hp hr
    have hle : ns.length ≤ i := by simpa using hd
    have hl := (hn0.pre hp).len K
    rw [List.length_nil, L55x0q]
    have : ¬ i < ns.length := by omega
    rw [List.take_of_length_le hle] at hr
    simp [hl, this]
    exact hk _ _ hp hr
  | cons n l ih =>
    intro i K out s1 s2 s5 s6 s7 s8 s9 s10 s11 s12 s13 s14 s15 s16 s17 s18 s19 s20 s21 s22 s23 s24 s25 s26 s27 hd hi hp hr
    have hb : ns[i]? = some n := by rw [← List.head?_drop, hd]; rfl
    have hlt : i < ns.length := (List.getElem?_eq_some_iff.1 hb).1
    have hl := (hn0.pre hp).len K
    obtain ⟨cl, ha, hcl, hc⟩ := hn0.pre hp
    obtain ⟨sv, hsv, hm, hml⟩ := hc _ _ hb
    obtain ⟨p, hp1, hp2⟩ := ha.load (P := Tryz.prog) (T := 31) (te := 75) (i := i) (e := n.cells sv) (by simp) (by simp) (by simp) hsv
    have hone := hm.one
    have hpl : H.length ≤ K.length := by obtain ⟨X, rfl⟩ := hp; simp
    rw [List.length_cons, L55x0q]
    have hhl := fun X : AHeap => (ha.pre (.app K X)).field (P := Tryz.prog) (T := 31) (te := 75) (ft := 73) (f := 2) (d := 2) (i := i) (x := sv) (by simp) (by simp) (by simp) (by simp) (by simp) hsv rfl
    obtain ⟨q1, q2, f1, f2, f3⟩ := hhl [.cells (n.cells sv) 75]
    simp only [Nod.cells] at f1 f2 f3
    simp [hl, hlt, hp1, hp2, Nod.cells, hone, f1, f2, f3]
    obtain ⟨v', K', g1, g2, g3⟩ := c_copyMats (hm.pre (.app K [.cells (n.cells sv) 75])) (hs n (List.mem_of_getElem? hb))
    simp only [Nod.cells] at g1 g2 g3
    refine bndC_of g1 ?_
    have hcc : hcells K' K.length = some (n.cells sv) := g2.hcells (by simp [Nod.cells])
    have hkk := g2.get (b := K.length) (o := .cells (n.cells sv) 75) (by simp [Nod.cells])
    have hl8 : hlen K' K.length = some 8 := by rw [hcells_len hcc]; rfl
    have hKl : K.length < K'.length := (List.getElem?_eq_some_iff.1 hkk).1
    have v1 := g3.one
    have v2 := g3.cells
    have v3 := g3.stor
    simp [hl8, hkk, v2, v3, Nod.cells]
    generalize hM : K'.set K.length (.cells [byt n.kind, byt n.agg, v', i64 n.window, byt n.cmp, i64 n.value, i64 n.left, i64 n.right] 75) = M
    have hMc : hcells M K.length = some (n.cells v') := by
      rw [← hM, hcells_eq, List.getElem?_set_self hKl]; rfl
    have hMp : Pre H M := by
      rw [← hM]; exact ((hp.more _).trans g2).set hpl
    have hMl : K.length < M.length := by rw [← hM]; simpa using hKl
    have hkeep : ∀ (b : Nat) o, K[b]? = some o → M[b]? = some o := fun b o ho => by
      have hbl : b < K.length := (List.getElem?_eq_some_iff.1 ho).1
      rw [← hM, List.getElem?_set_ne (by omega)]
      exact g2.get (get_more ho)
    simp [hMc, Nod.cells]
    refine bndL_lit (nod_lit8 n v1) ?_
    have hg3 : Gro M H.length 3 92 v' (n.sel.map Mat.cells) := by
      refine (g3.fr fun b o hb ho => ?_).wk (by simp; omega)
      simp at hb
      rw [← hM, List.getElem?_set_ne (by omega)]
      exact ho
    obtain ⟨v2, K2, r1, r2, r3, r4⟩ := NRow.push (hr.fr fun b o _ ho => hkeep b o ho) n v' hg3 hml (by simp; omega) (by omega)
    dsimp only
    rw [r1]
    simp [show i + 1 < 2 ^ 63 by omega]
    refine ih (i + 1) K2 v2 _ _ _ _ _ _ _ _ _ _ _ _ _ _ _ _ _ _ _ _ _ _ _ _ _ (by rw [← List.drop_drop, hd]; rfl) hlt (r3 H hMp (Nat.le_refl _)) ?_
    rw [List.take_add_one, hb]
    exact r2
theorem c_copyNodes {H : AHeap} {v : Value} {ns : List Nod} (h : NodesAt H v ns) (hnl : ns.length ≤ 100) (hs : ∀ n ∈ ns, n.sel.length ≤ 50) : ∃ v' K', ACalls Tryz.prog 55 [v] H v' K' ∧ Pre H K' ∧ NRow K' H.length v' ns := by
  obtain ⟨v', K', ⟨h1, h2⟩, h3⟩ : ∃ v' K', (Pre H K' ∧ NRow K' H.length v' ns) ∧ ACalls Tryz.prog 55 [v] H v' K' := by
    refine acalls_ex MixT Tryz.func55 (by decide) ?_
    rw [d55]
    exact ⟨ns.length + 1, copyN_loop h hnl hs (fun u K p q => ⟨p, q⟩) ns 0 H (.slice none 0 0) _ _ _ _ _ _ _ _ _ _ _ _ _ _ _ _ _ _ _ _ _ _ _ _ _ rfl (by omega) (.refl _) ⟨[], .nil, by simp, fun i n hi => by simp at hi⟩⟩
  exact ⟨v', K', h3, h1, h2⟩
end Go.Vi
namespace Go.Vi
open Go Go.Proofs

theorem cellF {M : AHeap} {b : Nat} {cs : List Value} {T : TypeId} (h : M[b]? = some (.cells cs T)) : hcells M b = some cs ∧ hlen M b = some cs.length := by
  have : hcells M b = some cs := by rw [hcells_eq, h]; rfl
  exact ⟨this, hcells_len this⟩
theorem c_copyRule {H : AHeap} {r : Rul} {nv mv : Value} (hn : NodesAt H nv r.nodes) (hm : Arr H 1 mv (strCells r.mutes)) (hs : r.small) :
    ∃ nv' mv' K', ACalls Tryz.prog 39 [.agg (r.cells nv mv).toArray] H (.agg (r.cells nv' mv').toArray) K' ∧ Pre H K' ∧ NRow K' H.length nv' r.nodes ∧ Gro K' H.length 1 9 mv' (strCells r.mutes) := by
  obtain ⟨v, K', ⟨nv', mv', rfl, h1, h2, h3⟩, h4⟩ : ∃ v K', (∃ nv' mv', v = .agg (r.cells nv' mv').toArray ∧ Pre H K' ∧ NRow K' H.length nv' r.nodes ∧ Gro K' H.length 1 9 mv' (strCells r.mutes)) ∧ ACalls Tryz.prog 39 [.agg (r.cells nv mv).toArray] H v K' := by
    refine acalls_ex MixT Tryz.func39 (by decide) ?_
    generalize hk : (fun (v : Value) (K' : AHeap) => ∃ nv' mv', v = .agg (r.cells nv' mv').toArray ∧ Pre H K' ∧ NRow K' H.length nv' r.nodes ∧ Gro K' H.length 1 9 mv' (strCells r.mutes)) = k
    rw [d39]
    obtain ⟨s1, s2, s3⟩ := hs
    have h1 : nv.oneCell' = true := by obtain ⟨_, h, _⟩ := hn; exact h.one
    have h2 := hm.one
    simp [aNew_agg, Rul.cells, h1, h2]
    generalize hC0 : [str r.name, str r.byL, nv, i64 r.forM, i64 r.every, i64 r.repeatM, mv, str r.route] = C0
    generalize hC1 : [Value.string { data := #[] }, Value.string { data := #[] }, Value.slice none 0 0, Value.int IntKind.i64 0, Value.int IntKind.i64 0, Value.int IntKind.i64 0, Value.slice none 0 0, Value.string { data := #[] }] = C1
    obtain ⟨v6, K1, g1, g2, g3⟩ := c_copyNodes (hn.pre (.app H [.cells C0 34, .cells C1 34])) s2 s3
    refine bndC_of g1 ?_
    have e0 : K1[H.length]? = some (.cells C0 34) := g2.get (by simp)
    have e1 : K1[H.length + 1]? = some (.cells C1 34) := g2.get (by simp)
    have l0 : hlen K1 H.length = some 8 := by rw [(cellF e0).2, ← hC0]; rfl
    have hp1 : Pre H K1 := (Pre.app _ _).trans g2
    have hl1 : H.length + 1 < K1.length := (List.getElem?_eq_some_iff.1 e1).1
    have v1 := g3.one
    have v2 := g3.cells
    have v3 := g3.stor
    simp [l0, e0, v2, v3]
    subst hC0
    dsimp only [List.set_cons_succ, List.set_cons_zero]
    have hp2 : Pre H (K1.set H.length (.cells [str r.name, str r.byL, v6, i64 r.forM, i64 r.every, i64 r.repeatM, mv, str r.route] 34)) := hp1.set (Nat.le_refl _)
    have e2 : (K1.set H.length (.cells [str r.name, str r.byL, v6, i64 r.forM, i64 r.every, i64 r.repeatM, mv, str r.route] 34))[H.length]? = some (.cells [str r.name, str r.byL, v6, i64 r.forM, i64 r.every, i64 r.repeatM, mv, str r.route] 34) := List.getElem?_set_self (by omega)
    have e3 : (K1.set H.length (.cells [str r.name, str r.byL, v6, i64 r.forM, i64 r.every, i64 r.repeatM, mv, str r.route] 34))[H.length + 1]? = some (.cells C1 34) := by rw [List.getElem?_set_ne (by omega)]; exact e1
    have g4 : NRow (K1.set H.length (.cells [str r.name, str r.byL, v6, i64 r.forM, i64 r.every, i64 r.repeatM, mv, str r.route] 34)) (H.length + 2) v6 r.nodes := by
      refine (g3.fr fun b o hb ho => ?_).wk (by simp)
      simp at hb
      rw [List.getElem?_set_ne (by omega)]; exact ho
    generalize K1.set H.length (.cells [str r.name, str r.byL, v6, i64 r.forM, i64 r.every, i64 r.repeatM, mv, str r.route] 34) = K2 at hp2 e2 e3 g4 ⊢
    obtain ⟨c2, l2⟩ := cellF e2
    have hm2 := hm.pre hp2
    have hl2 : H.length + 1 < K2.length := (List.getElem?_eq_some_iff.1 e3).1
    simp [c2, l2]
    obtain ⟨v11, K3, p1, p2, p3, p4, p5⟩ := Gro.pushN (P := Tryz.prog) (K := K2) (lo := K2.length) (v := .slice none 0 0) (cl := []) (ds := strCells r.mutes) (by_ := 16) .nil sel1 sel2 hm2.all_len (Nat.le_refl _) hm2.src (by simp [strCells]; omega) (by simp [strCells]; omega)
    rw [p1]
    simp only [bndE_some]
    have hp3 : Pre H K3 := hp2.trans (p5 K2 (Pre.refl _) (Nat.le_refl _))
    have e4 := p3 _ _ (by omega) e2
    have e5 := p3 _ _ (by omega) e3
    obtain ⟨c4, l4⟩ := cellF e4
    have w1 := p2.one
    have w2 := p2.cells
    have w3 := p2.stor
    simp [l4, e4, w2, w3]
    have hp4 : Pre H (K3.set H.length (.cells [str r.name, str r.byL, v6, i64 r.forM, i64 r.every, i64 r.repeatM, v11, str r.route] 34)) := hp3.set (Nat.le_refl _)
    have e6 : (K3.set H.length (.cells [str r.name, str r.byL, v6, i64 r.forM, i64 r.every, i64 r.repeatM, v11, str r.route] 34))[H.length]? = some (.cells [str r.name, str r.byL, v6, i64 r.forM, i64 r.every, i64 r.repeatM, v11, str r.route] 34) := List.getElem?_set_self (by omega)
    have e7 : (K3.set H.length (.cells [str r.name, str r.byL, v6, i64 r.forM, i64 r.every, i64 r.repeatM, v11, str r.route] 34))[H.length + 1]? = some (.cells C1 34) := by rw [List.getElem?_set_ne (by omega)]; exact e5
    have hl3 : H.length + 1 < (K3.set H.length (.cells [str r.name, str r.byL, v6, i64 r.forM, i64 r.every, i64 r.repeatM, v11, str r.route] 34)).length := by simp; omega
    have g5 : NRow (K3.set H.length (.cells [str r.name, str r.byL, v6, i64 r.forM, i64 r.every, i64 r.repeatM, v11, str r.route] 34)) (H.length + 2) v6 r.nodes := by
      refine g4.fr fun b o hb ho => ?_
      rw [List.getElem?_set_ne (by omega)]; exact p3 _ _ (List.getElem?_eq_some_iff.1 ho).1 ho
    have p6 : Gro (K3.set H.length (.cells [str r.name, str r.byL, v6, i64 r.forM, i64 r.every, i64 r.repeatM, v11, str r.route] 34)) (H.length + 2) 1 9 v11 (strCells r.mutes) := (p2.wk (by omega)).set (by omega)
    generalize K3.set H.length (.cells [str r.name, str r.byL, v6, i64 r.forM, i64 r.every, i64 r.repeatM, v11, str r.route] 34) = K4 at hp4 e6 e7 hl3 g5 p6 ⊢
    obtain ⟨c6, l6⟩ := cellF e6
    have l1 : C1.length = 8 := by rw [← hC1]; rfl
    simp [c6, e7, l1, w1, v1]
    have hp5 : Pre H (K4.set (H.length + 1) (.cells [str r.name, str r.byL, v6, i64 r.forM, i64 r.every, i64 r.repeatM, v11, str r.route] 34)) := hp4.set (by omega)
    have e8 : (K4.set (H.length + 1) (.cells [str r.name, str r.byL, v6, i64 r.forM, i64 r.every, i64 r.repeatM, v11, str r.route] 34))[H.length + 1]? = some (.cells [str r.name, str r.byL, v6, i64 r.forM, i64 r.every, i64 r.repeatM, v11, str r.route] 34) := List.getElem?_set_self hl3
    obtain ⟨c8, l8⟩ := cellF e8
    simp [c8]
    rw [← hk]
    exact ⟨v6, v11, rfl, hp5, (g5.fr fun b o hb ho => by rw [List.getElem?_set_ne (by omega)]; exact ho).wk (by omega), (p6.set (by omega)).wk (by omega)⟩
  exact ⟨nv', mv', K', h4, h1, h2, h3⟩
end Go.Vi
namespace Go.Vi
open Go Go.Proofs

/-- Rules in a row of their own. -/
def RRow (K : AHeap) (lo : Nat) (v : Value) (rs : List Rul) : Prop := ∃ cl, Gro K lo 8 34 v cl ∧ cl.length = rs.length ∧ ∀ (i : Nat) r, rs[i]? = some r → ∃ nv mv, cl[i]? = some (r.cells nv mv) ∧ NRow K lo nv r.nodes ∧ Gro K lo 1 9 mv (strCells r.mutes) ∧ r.mutes.length < 2 ^ 63
theorem RRow.fr {K K' lo v rs} (h : RRow K lo v rs) (hf : ∀ (b : Nat) o, lo ≤ b → K[b]? = some o → K'[b]? = some o) : RRow K' lo v rs := by
  obtain ⟨cl, h1, h2, h3⟩ := h
  refine ⟨cl, h1.fr hf, h2, fun i n hi => ?_⟩
  obtain ⟨nv, mv, q1, q2, q3, q4⟩ := h3 i n hi
  exact ⟨nv, mv, q1, q2.fr hf, q3.fr hf, q4⟩
theorem RRow.wk {K lo lo' v rs} (h : RRow K lo v rs) (hl : lo' ≤ lo) : RRow K lo' v rs := by
  obtain ⟨cl, h1, h2, h3⟩ := h
  refine ⟨cl, h1.wk hl, h2, fun i n hi => ?_⟩
  obtain ⟨nv, mv, q1, q2, q3, q4⟩ := h3 i n hi
  exact ⟨nv, mv, q1, q2.wk hl, q3.wk hl, q4⟩
theorem RRow.at {K lo v rs} (h : RRow K lo v rs) : RulesAt K v rs := by
  obtain ⟨cl, h1, h2, h3⟩ := h
  refine ⟨cl, h1.arr, h2, fun i n hi => ?_⟩
  obtain ⟨nv, mv, q1, q2, q3, q4⟩ := h3 i n hi
  exact ⟨nv, mv, q1, q2.at, q3.arr, q4⟩
theorem RRow.one {K lo v rs} (h : RRow K lo v rs) : v.oneCell' = true := by obtain ⟨cl, h1, _⟩ := h; exact h1.one
theorem RRow.cells {K lo v rs} (h : RRow K lo v rs) : v.cells = #[v] := by obtain ⟨cl, h1, _⟩ := h; exact h1.cells
theorem RRow.stor {K lo v rs} (h : RRow K lo v rs) : storable v = true := by obtain ⟨cl, h1, _⟩ := h; exact h1.stor
theorem rul_lit {K : AHeap} (r : Rul) {nv mv : Value} (h1 : nv.oneCell' = true) (h2 : mv.oneCell' = true) : sliceLit Tryz.prog K 22 1 [(0, .agg (r.cells nv mv).toArray)] (.slice (some ⟨K.length, 0, some 8⟩) 1 1) (K ++ [.cells (r.cells nv mv) 34]) :=
  sliceLitA (c := r.cells nv mv) (tbs22 K 1 _) (by rfl) (by simp [Rul.cells, h1, h2]) (by simp)
theorem RRow.push {K lo v rs} (h : RRow K lo v rs) (r : Rul) (nv mv : Value) (hrs : rs.length + 1 ≤ 2 ^ 30) (hlo : lo ≤ K.length) :
    ∃ v' K2, aBuiltin Tryz.prog (K ++ [AObj.cells (r.cells nv mv) 34]) .append #[22, 22] [v, .slice (some ⟨K.length, 0, some 8⟩) 1 1] = some (v', K2) ∧
      v'.cells = #[v'] ∧ v'.oneCell' = true ∧ storable v' = true ∧
      (NRow K lo nv r.nodes → Gro K lo 1 9 mv (strCells r.mutes) → r.mutes.length < 2 ^ 63 → RRow K2 lo v' (rs ++ [r])) ∧
      (∀ H, Pre H K → H.length ≤ lo → NodesAt H nv r.nodes → Arr H 1 mv (strCells r.mutes) → r.mutes.length < 2 ^ 63 → RulesAt K2 v' (rs ++ [r])) ∧
      (∀ b o, b < lo → K[b]? = some o → K2[b]? = some o) ∧ (∀ H, Pre H K → H.length ≤ lo → Pre H K2) ∧ K.length ≤ K2.length := by
  obtain ⟨cl, hg, hcl, hall⟩ := h
  obtain ⟨v', K2, q1, q2, q3, q4, q5, q6⟩ := Gro.pushK (P := Tryz.prog) (Ts := 22) (by_ := 120) (x := .slice (some ⟨K.length, 0, some 8⟩) 1 1) (c := r.cells nv mv) (hg.app (X := [AObj.cells (r.cells nv mv) 34])) rel1 rel2 (by rfl) (by simp; omega) (by simp [aSrc, Rul.cells]) (by omega) (by omega)
  have hnr : ∀ {nv ns}, NRow K lo nv ns → NRow K2 lo nv ns := fun h => (h.fr fun b o _ ho => get_more (X := [AObj.cells (r.cells nv mv) 34]) ho).kt q6 (by decide) (by decide)
  have hst : ∀ {sv ms}, Gro K lo 1 9 sv ms → Gro K2 lo 1 9 sv ms := fun hg => hg.app.kt q6 (by decide)
  refine ⟨v', K2, q1, q2.cells, q2.one, q2.stor, fun a1 a2 a3 => ⟨cl ++ [r.cells nv mv], q2, by simp [hcl], fun i m hi => ?_⟩, fun H p hH a1 a2 a3 => ⟨cl ++ [r.cells nv mv], q2.arr, by simp [hcl], fun i m hi => ?_⟩, fun b o hb ho => q3 b o hb (get_more ho), fun H p hH => q5 H (p.more _) hH, by simp at q4; omega⟩
  · rcases get_snoc hi with ⟨hlt, hi⟩ | ⟨rfl, rfl⟩
    · obtain ⟨nv', mv', e1, e2, e3, e4⟩ := hall i m hi
      exact ⟨nv', mv', by rw [List.getElem?_append_left (by omega)]; exact e1, hnr e2, hst e3, e4⟩
    · exact ⟨nv, mv, by rw [List.getElem?_append_right (by omega), hcl]; simp, hnr a1, hst a2, a3⟩
  · rcases get_snoc hi with ⟨hlt, hi⟩ | ⟨rfl, rfl⟩
    · obtain ⟨nv', mv', e1, e2, e3, e4⟩ := hall i m hi
      exact ⟨nv', mv', by rw [List.getElem?_append_left (by omega)]; exact e1, (hnr e2).at, (hst e3).arr, e4⟩
    · have hp := q5 H (p.more _) hH
      exact ⟨nv, mv, by rw [List.getElem?_append_right (by omega), hcl]; simp, a1.pre hp, a2.pre hp, a3⟩
/-- Where a copy stands. -/
structure CopS (H K : AHeap) (c : Cfg) (rv mv : Value) (a b d lo : Nat) (out : Value) (rs : List Rul) : Prop where
  pre : Pre H K
  ca : K[a]? = some (.cells (c.cells rv mv) 25)
  cb : K[b]? = some (.cells [.slice none 0 0, .slice none 0 0, i64 0, i64 0] 25)
  cd : K[d]? = some (.cells [out, .slice none 0 0, i64 c.late, i64 c.limit] 25)
  row : RRow K lo out rs
  h1 : H.length ≤ a
  h2 : H.length ≤ b
  h3 : H.length ≤ d
  h4 : a < lo
  h5 : b < lo
  h6 : d < lo
  h7 : a ≠ d
  h8 : b ≠ d
  h9 : a ≠ b
  hl : lo ≤ K.length
theorem cop_loop {c : Cfg} {H : AHeap} {rv mv : Value} {a b d lo : Nat} {k : Value → AHeap → Prop} (hr0 : RulesAt H rv c.rules) (hm0 : MutesAt H mv c.mutes) (hs : c.small)
    (hk : ∀ rv' mv' K, Pre H K → RRow K H.length rv' c.rules → Gro K H.length 10 38 mv' (c.mutes.map Mut.cells) → k (.agg (c.cells rv' mv').toArray) K) :
    ∀ (l : List Rul) (i : Nat) (K : AHeap) (out : Value) (s0 s5 s6 s7 s8 s9 s10 s11 s12 s13 s14 s15 s16 s17 s18 s19 s20 s21 s22 s23 s24 s25 s26 s27 s28 s29 s30 s31 s32 s33 s34 : Value), c.rules.drop i = l → i ≤ c.rules.length → CopS H K c rv mv a b d lo out (c.rules.take i) →
      L14x0 (l.length + 1) k [s0, .pointer (some ⟨a, 0, some 4⟩), .pointer (some ⟨b, 0, some 4⟩), .pointer (some ⟨d, 0, some 4⟩), i64 i, s5, s6, s7, s8, s9, s10, s11, s12, s13, s14, s15, s16, s17, s18, s19, s20, s21, s22, s23, s24, s25, s26, s27, s28, s29, s30, s31, s32, s33, s34] K := by
  intro l
  induction l with
  | nil =>
    intro i K out s0 s5 s6 s7 s8 s9 s10 s11 s12 s13 s14 s15 s16 s17 s18 s19 s20 s21 s22 s23 s24 s25 s26 s27 s28 s29 s30 s31 s32 s33 s34 hd hi hq
    have hle : c.rules.length ≤ i := by simpa using hd
    rw [List.take_of_length_le hle] at hq
    obtain ⟨pre, ca, cb, cd, row, q1, q2, q3, q4, q5, q6, q7, q8, q9, hll⟩ := hq
    have hl := (hr0.pre pre).lenR K
    obtain ⟨ca1, ca2⟩ := cellF ca
    obtain ⟨cd1, cd2⟩ := cellF cd
    simp only [Cfg.cells] at ca1 ca2
    have hm := hm0.pre pre
    have : ¬ i < c.rules.length := by omega
    obtain ⟨v2, K2, p1, p2, p3, p4, p5⟩ := Gro.pushN (P := Tryz.prog) (K := K) (lo := K.length) (v := .slice none 0 0) (cl := []) (ds := c.mutes.map Mut.cells) (by_ := 40) .nil mel1 mel2 hm.1.all_len (Nat.le_refl _) hm.1.src (by have := hs.2.1; simp; omega) (by have := hs.2.1; simp; omega)
    rw [List.length_nil, L14x0q]
    simp [ca1, ca2, cd1, cd2, hl, this]
    rw [p1]
    simp only [bndE_some]
    have p2 : Gro K2 K.length 10 38 v2 (c.mutes.map Mut.cells) := by simpa using p2
    have cd' := p3 _ _ (by omega) cd
    have cb' := p3 _ _ (by omega) cb
    obtain ⟨dd1, dd2⟩ := cellF cd'
    have r1 := row.one
    have w1 := p2.one
    have w2 := p2.cells
    have w3 := p2.stor
    have hp2 : Pre H K2 := pre.trans (p5 K (Pre.refl _) (Nat.le_refl _))
    simp [dd2, cd', w2, w3]
    have hp3 : Pre H (K2.set d (.cells [out, v2, i64 c.late, i64 c.limit] 25)) := hp2.set q3
    have cd3 : (K2.set d (.cells [out, v2, i64 c.late, i64 c.limit] 25))[d]? = some (.cells [out, v2, i64 c.late, i64 c.limit] 25) := List.getElem?_set_self (by omega)
    have cb3 : (K2.set d (.cells [out, v2, i64 c.late, i64 c.limit] 25))[b]? = some (.cells [.slice none 0 0, .slice none 0 0, i64 0, i64 0] 25) := by rw [List.getElem?_set_ne (by omega)]; exact cb'
    have row3 : RRow (K2.set d (.cells [out, v2, i64 c.late, i64 c.limit] 25)) lo out c.rules := row.fr fun b o hb ho => by
      rw [List.getElem?_set_ne (by omega)]; exact p3 _ _ (List.getElem?_eq_some_iff.1 ho).1 ho
    have mu3 : Gro (K2.set d (.cells [out, v2, i64 c.late, i64 c.limit] 25)) lo 10 38 v2 (c.mutes.map Mut.cells) := (p2.wk hll).set q6
    have hl3 : b < (K2.set d (.cells [out, v2, i64 c.late, i64 c.limit] 25)).length := by simp; omega
    generalize K2.set d (.cells [out, v2, i64 c.late, i64 c.limit] 25) = K3 at hp3 cd3 cb3 row3 mu3 hl3 ⊢
    obtain ⟨dd3, dd4⟩ := cellF cd3
    simp [dd3, cb3, r1, w1]
    have cb4 : (K3.set b (.cells [out, v2, i64 c.late, i64 c.limit] 25))[b]? = some (.cells [out, v2, i64 c.late, i64 c.limit] 25) := List.getElem?_set_self hl3
    obtain ⟨bb1, bb2⟩ := cellF cb4
    simp [bb1]
    refine hk out v2 _ (hp3.set q2) ((row3.fr fun b' o hb ho => ?_).wk (by omega)) ((mu3.set q5).wk (by omega))
    rw [List.getElem?_set_ne (by omega)]; exact ho
  | cons x l ih =>
    intro i K out s0 s5 s6 s7 s8 s9 s10 s11 s12 s13 s14 s15 s16 s17 s18 s19 s20 s21 s22 s23 s24 s25 s26 s27 s28 s29 s30 s31 s32 s33 s34 hd hi hq
    have hb : c.rules[i]? = some x := by rw [← List.head?_drop, hd]; rfl
    have hlt : i < c.rules.length := (List.getElem?_eq_some_iff.1 hb).1
    obtain ⟨pre, ca, cb, cd, row, q1, q2, q3, q4, q5, q6, q7, q8, q9, hll⟩ := hq
    have hl := (hr0.pre pre).lenR K
    obtain ⟨ca1, ca2⟩ := cellF ca
    obtain ⟨cd1, cd2⟩ := cellF cd
    simp only [Cfg.cells] at ca1 ca2
    obtain ⟨cl, ha, hcl, hcc⟩ := hr0.pre pre
    obtain ⟨nv, xv, hx, hn, hxm, hxl⟩ := hcc _ _ hb
    obtain ⟨q, hp1, hp2⟩ := ha.load (P := Tryz.prog) (T := 22) (te := 34) (i := i) (e := x.cells nv xv) (by simp) (by simp) (by simp) hx
    rw [List.length_cons, L14x0q]
    simp [ca1, ca2, cd1, cd2, hl, hlt, hp1, hp2]
    obtain ⟨nv', mv', K1, g1, ⟨X, rfl⟩, g3, g4⟩ := c_copyRule (r := x) hn hxm (hs.2.2 x (List.mem_of_getElem? hb))
    refine bndD_of g1 (.inr ⟨X, rfl⟩) ?_
    dsimp only
    refine bndD_of (rul_lit x g3.one g4.one) (.inr ⟨_, rfl⟩) ?_
    dsimp only
    obtain ⟨v2, K2, r1, r2, r3, r4, r5, r6, r7, r8, r9⟩ := (row.fr (K' := K ++ X) fun b o _ ho => get_more ho).push x nv' mv' (by have := hs.1; simp; omega) (by simp; omega)
    refine bndD_of r1 (.inl rfl) ?_
    have row2 := r5 (g3.wk hll) (g4.wk hll) hxl
    have ca' := r7 _ _ q4 (get_more ca)
    have cb' := r7 _ _ q5 (get_more cb)
    have cd' := r7 _ _ q6 (get_more cd)
    obtain ⟨dd1, dd2⟩ := cellF cd'
    have hp2 : Pre H K2 := r8 H (pre.more _) (by omega)
    have hl2 : d < K2.length := (List.getElem?_eq_some_iff.1 cd').1
    simp [dd2]
    refine bndD_of (v := undef) (H' := K2.set d (.cells [v2, .slice none 0 0, i64 c.late, i64 c.limit] 25)) ⟨rfl, by simp [cd', r2, r4]⟩ (.inl rfl) ?_
    simp [show i + 1 < 2 ^ 63 by have := hs.1; omega]
    refine ih (i + 1) _ v2 _ _ _ _ _ _ _ _ _ _ _ _ _ _ _ _ _ _ _ _ _ _ _ _ _ _ _ _ _ _ _ (by rw [← List.drop_drop, hd]; rfl) hlt ⟨hp2.set q3, ?_, ?_, List.getElem?_set_self hl2, ?_, q1, q2, q3, q4, q5, q6, q7, q8, q9, ?_⟩
    · rw [List.getElem?_set_ne (by omega)]; exact ca'
    · rw [List.getElem?_set_ne (by omega)]; exact cb'
    · rw [List.take_add_one, hb]
      exact row2.fr fun b o hb ho => by rw [List.getElem?_set_ne (by omega)]; exact ho
    · simp at r9 ⊢; omega
theorem c_copyCfg {c : Cfg} {H : AHeap} {rv mv : Value} (hr : RulesAt H rv c.rules) (hm : MutesAt H mv c.mutes) (hs : c.small) :
    ∃ rv' mv' K', ACalls Tryz.prog 14 [.agg (c.cells rv mv).toArray] H (.agg (c.cells rv' mv').toArray) K' ∧ Pre H K' ∧ RRow K' H.length rv' c.rules ∧ Gro K' H.length 10 38 mv' (c.mutes.map Mut.cells) := by
  obtain ⟨v, K', ⟨rv', mv', rfl, h1, h2, h3⟩, h4⟩ : ∃ v K', (∃ rv' mv', v = .agg (c.cells rv' mv').toArray ∧ Pre H K' ∧ RRow K' H.length rv' c.rules ∧ Gro K' H.length 10 38 mv' (c.mutes.map Mut.cells)) ∧ ACalls Tryz.prog 14 [.agg (c.cells rv mv).toArray] H v K' := by
    refine acalls_ex MixT Tryz.func14 (by decide) ?_
    generalize hk : (fun (v : Value) (K' : AHeap) => ∃ rv' mv', v = .agg (c.cells rv' mv').toArray ∧ Pre H K' ∧ RRow K' H.length rv' c.rules ∧ Gro K' H.length 10 38 mv' (c.mutes.map Mut.cells)) = k
    rw [d14]
    have h1 := hr.one
    have h2 := hm.one
    simp [aNew_agg, Cfg.cells, h1, h2]
    refine ⟨c.rules.length + 1, ?_⟩
    refine cop_loop (H := H) (a := H.length) (b := H.length + 1) (d := H.length + 2) (lo := H.length + 3) hr hm hs (fun rv' mv' K p q1 q2 => ?_) c.rules 0 _ (.slice none 0 0) _ _ _ _ _ _ _ _ _ _ _ _ _ _ _ _ _ _ _ _ _ _ _ _ _ _ _ _ _ _ _ rfl (by omega) ⟨.app _ _, ?_, ?_, ?_, ⟨[], .nil, by simp, fun i r hi => by simp at hi⟩, by omega, by omega, by omega, by omega, by omega, by omega, by omega, by omega, by omega, by simp⟩
    · rw [← hk]
      exact ⟨rv', mv', rfl, p, q1, q2⟩
    · simp [Cfg.cells]
    · simp
    · simp
  exact ⟨rv', mv', K', h4, h1, h2, h3⟩
end Go.Vi
namespace Go.Vi
open Go Go.Proofs

theorem once_fold {α : Type} [DecidableEq α] : ∀ (l ks : List α), ks.Nodup → (l.foldl addKey ks).length ≤ ks.length + l.length ∧ ((l.foldl addKey ks).length = ks.length + l.length ↔ (ks ++ l).Nodup) := by
  intro l
  induction l with
  | nil => intro ks h; simpa using h
  | cons x l ih =>
    intro ks h
    rw [List.foldl_cons]
    by_cases hx : x ∈ ks
    · have he : addKey ks x = ks := by simp [addKey, hx]
      rw [he]
      obtain ⟨h1, h2⟩ := ih ks h
      refine ⟨by simp; omega, ⟨fun q => by simp at q; omega, fun q => ?_⟩⟩
      rw [List.nodup_append] at q
      exact absurd rfl (q.2.2 x hx x (by simp))
    · have he : addKey ks x = ks ++ [x] := by simp [addKey, hx]
      rw [he]
      have hn : (ks ++ [x]).Nodup := by
        rw [List.nodup_append]
        exact ⟨h, by simp, fun a ha b hb => by simp at hb; subst hb; rintro rfl; exact hx ha⟩
      obtain ⟨h1, h2⟩ := ih _ hn
      simp at h1 h2 ⊢
      refine ⟨by omega, ?_⟩
      rw [← h2]
      constructor <;> intro q <;> omega
theorem onceB_iff {α : Type} [DecidableEq α] (l : List α) : onceB l = true ↔ l.Nodup := by
  obtain ⟨h1, h2⟩ := once_fold l [] (by simp)
  simp at h1 h2
  unfold onceB keysOf
  rw [← h2]
  simp
  omega
theorem once_twice {α : Type} [DecidableEq α] {l : List α} {x : α} (h : x ∈ l) : onceB (l ++ [x]) = false := by
  rw [Bool.eq_false_iff, Ne, onceB_iff, List.nodup_append]
  intro q
  exact absurd rfl (q.2.2 x h x (by simp))
theorem twice_rule {c : Cfg} {r : Rul} (h : r ∈ c.rules) : Cfg.mayB ⟨c.rules ++ [r], c.mutes, c.late, c.limit⟩ = false := by
  have := once_twice (List.mem_map_of_mem (f := Rul.name) h)
  simp [Cfg.mayB, Cfg.head, this]
theorem twice_mute {c : Cfg} {m : Mut} (h : m ∈ c.mutes) : Cfg.mayB ⟨c.rules, c.mutes ++ [m], c.late, c.limit⟩ = false := by
  have := once_twice (List.mem_map_of_mem (f := Mut.name) h)
  simp [Cfg.mayB, Cfg.head, this]
theorem Cfg.mayB_iff (c : Cfg) : c.mayB = true ↔ c.rules.length ≤ 8 ∧ c.mutes.length ≤ 4 ∧ (0 ≤ c.late ∧ c.late ≤ 100) ∧ (1 ≤ c.limit ∧ c.limit ≤ 1000) ∧ (c.rules.map (·.name)).Nodup ∧ (c.mutes.map (·.name)).Nodup ∧ (∀ m ∈ c.mutes, m.mayB = true) ∧ ∀ r ∈ c.rules, r.mayB = true ∧ ∀ s ∈ r.mutes, ∃ m ∈ c.mutes, m.name = s := by
  unfold Cfg.mayB Cfg.head
  by_cases h : (decide ((c.rules.length : Int) > 8) || decide ((c.mutes.length : Int) > 4)) = true
  · rw [if_pos h]
    simp at h
    constructor
    · intro q; cases q
    · rintro ⟨h1, h2, _⟩; omega
  · rw [if_neg h]
    simp at h
    simp only [Bool.and_eq_true, List.all_cons, List.all_nil, id, Bool.and_true, onceB_iff, List.all_eq_true, decide_eq_true_eq, Cfg.ruleOk, List.any_eq_true]
    constructor
    · rintro ⟨⟨⟨h1, h2, h3, h4⟩, h5⟩, h6⟩
      exact ⟨by omega, by omega, h1, h2, h3, h4, h5, h6⟩
    · rintro ⟨_, _, h1, h2, h3, h4, h5, h6⟩
      exact ⟨⟨⟨h1, h2, h3, h4⟩, h5⟩, h6⟩
/-- Without the one that stands at a place. -/
def lessL (which : Int) : Nat → List Rul → List Rul
  | _, [] => []
  | i, x :: r => if (i : Int) = which then lessL which (i + 1) r else x :: lessL which (i + 1) r
theorem lessL_sub (which : Int) : ∀ (l : List Rul) (i : Nat), (lessL which i l).Sublist l := by
  intro l
  induction l with
  | nil => intro i; exact .slnil
  | cons x r ih =>
    intro i
    rw [lessL]
    split
    · exact (ih _).cons x
    · exact (ih _).cons_cons x
theorem parts_less {c : Cfg} (h : c.mayB = true) (which : Int) : Cfg.mayB ⟨lessL which 0 c.rules, c.mutes, c.late, c.limit⟩ = true := by
  rw [Cfg.mayB_iff] at h ⊢
  obtain ⟨h1, h2, h3, h4, h5, h6, h7, h8⟩ := h
  have hs := lessL_sub which c.rules 0
  exact ⟨Nat.le_trans hs.length_le h1, h2, h3, h4, (hs.map _).nodup h5, h6, h7, fun r hr => h8 r (hs.subset hr)⟩
theorem parts_turned {c : Cfg} (h : c.mayB = true) : Cfg.mayB ⟨c.rules.reverse, c.mutes.reverse, c.late, c.limit⟩ = true := by
  rw [Cfg.mayB_iff] at h ⊢
  obtain ⟨h1, h2, h3, h4, h5, h6, h7, h8⟩ := h
  refine ⟨by simpa using h1, by simpa using h2, h3, h4, by rw [List.map_reverse]; exact (List.reverse_perm _).nodup_iff.2 h5, by rw [List.map_reverse]; exact (List.reverse_perm _).nodup_iff.2 h6, fun m hm => h7 m (by simpa using hm), fun r hr => ?_⟩
  obtain ⟨q1, q2⟩ := h8 r (by simpa using hr)
  refine ⟨q1, fun s hs => ?_⟩
  obtain ⟨m, hm, e⟩ := q2 s hs
  exact ⟨m, by simpa using hm, e⟩
/-! ### The windows of right nodes -/
theorem beg_all (ns : List Nod) : ∀ (f : Nat) (e : Int), 0 ≤ beg ns f e → (∀ (i : Nat) n, beg ns f e ≤ i → (i : Int) ≤ e → ns[i]? = some n → ((n.kind.toNat : Int) == 0) = true → n.plain = true) ∧ ∃ (i : Nat) (n : Nod), ns[i]? = some n ∧ ((n.kind.toNat : Int) == 0) = true ∧ n.plain = true := by
  intro f
  induction f with
  | zero => intro e h; simp [beg] at h
  | succ f ih =>
    intro e h
    rw [beg] at h ⊢
    by_cases he : e < 0
    · rw [if_pos he] at h; omega
    rw [if_neg he] at h ⊢
    cases hn : ns[e.toNat]? with
    | none => rw [hn] at h; simp at h
    | some n =>
      rw [hn] at h
      simp only at h ⊢
      by_cases h0 : ((n.kind.toNat : Int) == 0) = true
      · rw [if_pos h0] at h ⊢
        by_cases hp : n.plain = true
        · rw [if_pos hp] at h ⊢
          refine ⟨fun i m h1 h2 h3 h4 => ?_, e.toNat, n, hn, h0, hp⟩
          have : i = e.toNat := by omega
          subst this
          rw [hn] at h3; cases h3; exact hp
        · rw [if_neg hp] at h; omega
      · rw [if_neg h0] at h ⊢
        have hlast : ∀ (i : Nat) m, (i : Int) ≤ e → ns[i]? = some m → ((m.kind.toNat : Int) == 0) = true → (i : Int) ≤ e - 1 := by
          intro i m h1 h2 h3
          rcases Int.lt_or_eq_of_le h1 with hlt | heq
          · omega
          · have : i = e.toNat := by omega
            subst this
            rw [hn] at h2; cases h2; exact absurd h3 h0
        by_cases h3 : ((n.kind.toNat : Int) == 3) = true
        · rw [if_pos h3] at h ⊢
          split at h
          · rename_i hc
            rw [if_pos hc]
            obtain ⟨q1, q2⟩ := ih _ h
            exact ⟨fun i m a1 a2 a3 a4 => q1 i m a1 (hlast i m a2 a3 a4) a3 a4, q2⟩
          · omega
        · rw [if_neg h3] at h ⊢
          by_cases h4 : (isAnd n || isOr n) = true
          · rw [if_pos h4] at h ⊢
            split at h
            · rename_i hc
              rw [if_pos hc]
              have hpos : 0 ≤ beg ns f (e - 1) := by simp at hc; omega
              obtain ⟨q1, q2⟩ := ih _ hpos
              obtain ⟨r1, r2⟩ := ih _ h
              refine ⟨fun i m a1 a2 a3 a4 => ?_, q2⟩
              have a5 := hlast i m a2 a3 a4
              rcases Int.lt_or_le i (beg ns f (e - 1)) with hlt | hge
              · exact r1 i m a1 (by omega) a3 a4
              · exact q1 i m hge a5 a3 a4
            · omega
          · rw [if_neg h4] at h; omega
theorem widest_le : ∀ (l : List Nod) (m : Int), m ≤ 1000 → (∀ n ∈ l, ((n.kind.toNat : Int) == 0) = true → n.window ≤ 1000) → widest m l ≤ 1000 := by
  intro l
  induction l with
  | nil => intro m h _; exact h
  | cons n r ih =>
    intro m h hl
    rw [widest]
    refine ih _ ?_ fun x hx => hl x (by simp [hx])
    split
    · rename_i h0
      have := hl n (by simp) h0
      split <;> omega
    · exact h
theorem widest_mem : ∀ (l : List Nod) (m : Int) (n : Nod), n ∈ l → ((n.kind.toNat : Int) == 0) = true → n.window ≤ widest m l := by
  intro l
  induction l with
  | nil => intro m n h _; simp at h
  | cons x r ih =>
    intro m n h h0
    rw [widest]
    rcases List.mem_cons.1 h with rfl | h
    · rw [if_pos h0]
      refine Int.le_trans ?_ (widest_ge r _)
      split <;> omega
    · exact ih _ n h h0
theorem right_widest {ns : List Nod} (h : right ns = true) : 1 ≤ widest 0 ns ∧ widest 0 ns ≤ 1000 := by
  unfold right at h
  simp only [Bool.and_eq_true, decide_eq_true_eq, beq_iff_eq] at h
  obtain ⟨⟨h1, h2⟩, h3⟩ := h
  obtain ⟨q1, i, n, q2, q3, q4⟩ := beg_all ns ns.length ((ns.length : Int) - 1) (by omega)
  rw [h3] at q1
  have hw : ∀ n : Nod, n.plain = true → 1 ≤ n.window ∧ n.window ≤ 1000 := by
    intro n hp
    unfold Nod.plain at hp
    simp only [Bool.and_eq_true, decide_eq_true_eq] at hp
    exact ⟨hp.1.1.1.1.1.2, hp.1.1.1.1.2⟩
  refine ⟨Int.le_trans (hw n q4).1 (widest_mem ns 0 n (List.mem_of_getElem? q2) q3), widest_le ns 0 (by omega) fun m hm h0 => ?_⟩
  obtain ⟨j, hj, rfl⟩ := List.getElem_of_mem hm
  exact (hw _ (q1 j _ (by omega) (by omega) (List.getElem?_eq_getElem hj) h0)).2
theorem mayB_right {r : Rul} (h : r.mayB = true) : right r.nodes = true := by
  unfold Rul.mayB at h
  simp only [List.all_cons, List.all_nil, id, Bool.and_eq_true, Bool.and_true] at h
  simp [h]
end Go.Vi
