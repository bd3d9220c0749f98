/- CheckParts: rows that grow side by side. CheckParts: the walk. -/
import Derived.Test.YtamjmjfppmnlcaaGreatDoorJ6
namespace Go.Vi
open Go Go.Proofs

def blkOf : Value → Option Nat
  | .slice (some a) _ _ => some a.block
  | _ => none
def Apart (v w : Value) : Prop := ∀ b, blkOf v = some b → blkOf w ≠ some b
theorem Apart.symm {v w} (h : Apart v w) : Apart w v := fun b h1 h2 => h b h2 h1
theorem Gro.lt {K lo z T v cl b} (h : Gro K lo z T v cl) (hb : blkOf v = some b) : b < K.length ∧ lo ≤ b := by
  cases h with
  | nil => cases hb
  | mk bb cl h1 h2 h3 h4 =>
    simp [blkOf] at hb; subst hb
    exact ⟨(List.getElem?_eq_some_iff.1 h2).1, h1⟩
theorem Gro.keep {K K' lo z T v cl} (h : Gro K lo z T v cl) (hk : ∀ b o, blkOf v = some b → K[b]? = some o → K'[b]? = some o) : Gro K' lo z T v cl := by
  cases h with
  | nil => exact .nil
  | mk bb cl h1 h2 h3 h4 => exact .mk bb cl h1 (hk bb _ rfl h2) h3 h4
theorem Gro.apartT {K lo z z' T T' v w cl cl'} (h : Gro K lo z T v cl) (k : Gro K lo z' T' w cl') (hT : T ≠ T') : Apart v w := by
  intro b h1 h2
  cases h with
  | nil => cases h1
  | mk bb cl q1 q2 q3 q4 =>
    cases k with
    | nil => cases h2
    | mk bb' cl' r1 r2 r3 r4 =>
      simp [blkOf] at h1 h2
      subst h1; subst h2
      rw [q2] at r2
      injection r2 with e
      injection e with _ e2
      exact hT e2
theorem Gro.pushF {P : Program} {K : AHeap} {lo z by_ : Nat} {T Ts : TypeId} {v x : Value} {cl : List (List Value)} {c : List Value} (h : Gro K lo z T v cl) (hT : aElem P Ts = some (T, z, by_)) (hsq : isSeq P Ts = true) (hc : c.length = z) (hlo : lo ≤ K.length)
    (hx : aSrc K z x = some (1, c)) (hb : (cl.length + 1) * by_ ≤ 140737488355328) (hn : cl.length + 1 ≤ 9223372036854775807) :
    ∃ v' K', aBuiltin P K .append #[Ts, Ts] [v, x] = some (v', K') ∧ Gro K' lo z T v' (cl ++ [c]) ∧ (∀ (b : Nat) o, blkOf v ≠ some b → K[b]? = some o → K'[b]? = some o) ∧ K.length ≤ K'.length ∧ (∀ H, Pre H K → H.length ≤ lo → Pre H K') ∧ ∀ b, blkOf v' = some b → blkOf v = some b ∨ b = K.length := by
  obtain ⟨v', K', h1, h2, h3, h4, h5⟩ := h.push hT hsq hc hlo hx hb hn
  cases h with
  | nil =>
    have hb' : by_ ≤ 140737488355328 := by simpa using hb
    have h1' := h1
    simp [aBuiltin, aAppend, hT, hx, hsq, hb', hc] at h1'
    refine ⟨v', K', h1, h2, fun b o _ ho => by rw [← h1'.2]; exact get_more ho, h4, h5, fun b hb => .inr ?_⟩
    rw [← h1'.1] at hb
    simpa [blkOf] using hb.symm
  | mk bb cl g1 g2 g3 g4 =>
    have hfl := flat_len g4
    have e2 : ¬ cl.length + 1 ≤ cl.length := by omega
    have h1' := h1
    simp only [aBuiltin, aAppend, hT, hx, hsq, if_true, g2, hfl, Nat.zero_add, Nat.le_refl, and_self, e2, if_false, hb, hn, Option.some.injEq, Prod.mk.injEq] at h1'
    refine ⟨v', K', h1, h2, fun b o hne ho => ?_, h4, h5, fun b hb => .inl ?_⟩
    · rw [← h1'.2, List.getElem?_set_ne (by rintro rfl; exact hne rfl)]
      exact ho
    · rw [← h1'.1] at hb
      exact hb
/-- A rule and its cells. -/
def RC (H : AHeap) (x : Rul × List Value) : Prop := ∃ nv mv, x.2 = x.1.cells nv mv ∧ NodesAt H nv x.1.nodes ∧ Arr H 1 mv (strCells x.1.mutes) ∧ x.1.mutes.length < 2 ^ 63
theorem rules_pairs {H : AHeap} {v : Value} {rs : List Rul} (h : RulesAt H v rs) : ∃ q : List (Rul × List Value), q.map (·.1) = rs ∧ Arr H 8 v (q.map (·.2)) ∧ ∀ x ∈ q, RC H x := by
  obtain ⟨cl, h1, h2, h3⟩ := h
  refine ⟨rs.zip cl, by simp [List.map_fst_zip, h2], by rw [show List.map (fun x : Rul × List Value => x.2) (rs.zip cl) = cl by simp [List.map_snd_zip, h2]]; exact h1, fun x hx => ?_⟩
  obtain ⟨i, hi⟩ := List.getElem?_of_mem hx
  rw [List.getElem?_zip_eq_some] at hi
  obtain ⟨nv, mv, e1, e2, e3, e4⟩ := h3 i x.1 hi.1
  rw [hi.2] at e1
  exact ⟨nv, mv, Option.some.inj e1, e2, e3, e4⟩
theorem pairs_rules {H K : AHeap} {v : Value} {q : List (Rul × List Value)} (hp : Pre H K) (h : Arr K 8 v (q.map (·.2))) (hq : ∀ x ∈ q, RC H x) : RulesAt K v (q.map (·.1)) := by
  refine ⟨_, h, by simp, fun i r hi => ?_⟩
  rw [List.getElem?_map] at hi ⊢
  cases hqi : q[i]? with
  | none => rw [hqi] at hi; cases hi
  | some x =>
    rw [hqi] at hi
    cases hi
    obtain ⟨nv, mv, e1, e2, e3, e4⟩ := hq x (List.mem_of_getElem? hqi)
    exact ⟨nv, mv, by rw [Option.map_some, e1], e2.pre hp, e3.pre hp, e4⟩
theorem RC.len {H x} (h : RC H x) : x.2.length = 8 := by obtain ⟨nv, mv, e, _⟩ := h; rw [e]; rfl
theorem RC.ones {H x} (h : RC H x) : ∀ v ∈ x.2, v.oneCell' = true := by
  obtain ⟨nv, mv, e, e2, e3, _⟩ := h
  have h1 : nv.oneCell' = true := by obtain ⟨_, h, _⟩ := e2; exact h.one
  rw [e]
  simp [Rul.cells, h1, e3.one]
structure PtS (H K : AHeap) (c : Cfg) (rv mv : Value) (p a d lo : Nat) (lv lm tv tm : Value) (Q1 Q2 : List (Rul × List Value)) (M1 M2 : List Mut) : Prop where
  pre : Pre H K
  cp : K[p]? = some (.cells (c.cells rv mv) 25)
  ca : K[a]? = some (.cells [lv, lm, i64 c.late, i64 c.limit] 25)
  cd : K[d]? = some (.cells [tv, tm, i64 c.late, i64 c.limit] 25)
  g1 : Gro K lo 8 34 lv (Q1.map (·.2))
  g2 : Gro K lo 8 34 tv (Q2.map (·.2))
  g3 : Gro K lo 10 38 lm (M1.map Mut.cells)
  g4 : Gro K lo 10 38 tm (M2.map Mut.cells)
  ap1 : Apart lv tv
  ap2 : Apart lm tm
  h1 : H.length ≤ p
  h2 : H.length ≤ a
  h3 : H.length ≤ d
  h4 : p < lo
  h5 : a < lo
  h6 : d < lo
  n1 : p ≠ a
  n2 : p ≠ d
  n3 : a ≠ d
  hl : lo ≤ K.length
section
variable {H K : AHeap} {c : Cfg} {rv mv : Value} {p a d lo : Nat} {lv lm tv tm : Value} {Q1 Q2 : List (Rul × List Value)} {M1 M2 : List Mut}
theorem PtS.swap (h : PtS H K c rv mv p a d lo lv lm tv tm Q1 Q2 M1 M2) : PtS H K c rv mv p d a lo tv tm lv lm Q2 Q1 M2 M1 :=
  ⟨h.pre, h.cp, h.cd, h.ca, h.g2, h.g1, h.g4, h.g3, h.ap1.symm, h.ap2.symm, h.h1, h.h3, h.h2, h.h4, h.h6, h.h5, h.n2, h.n1, h.n3.symm, h.hl⟩
theorem PtS.app (h : PtS H K c rv mv p a d lo lv lm tv tm Q1 Q2 M1 M2) (X : AHeap) : PtS H (K ++ X) c rv mv p a d lo lv lm tv tm Q1 Q2 M1 M2 :=
  ⟨h.pre.more X, get_more h.cp, get_more h.ca, get_more h.cd, h.g1.app, h.g2.app, h.g3.app, h.g4.app, h.ap1, h.ap2, h.h1, h.h2, h.h3, h.h4, h.h5, h.h6, h.n1, h.n2, h.n3, by have := h.hl; simp; omega⟩
theorem PtS.rule (h : PtS H K c rv mv p a d lo lv lm tv tm Q1 Q2 M1 M2) (x : Rul × List Value) (hx : x.2.length = 8) (hQ : Q1.length + 1 ≤ 2 ^ 30) :
    ∃ v' K2, aBuiltin Tryz.prog (K ++ [AObj.cells x.2 34]) .append #[22, 22] [lv, .slice (some ⟨K.length, 0, some 8⟩) 1 1] = some (v', K2) ∧
      v'.cells = #[v'] ∧ v'.oneCell' = true ∧ storable v' = true ∧ K2[a]? = some (.cells [lv, lm, i64 c.late, i64 c.limit] 25) ∧
      PtS H (K2.set a (.cells [v', lm, i64 c.late, i64 c.limit] 25)) c rv mv p a d lo v' lm tv tm (Q1 ++ [x]) Q2 M1 M2 := by
  obtain ⟨pre, cp, ca, cd, g1, g2, g3, g4, ap1, ap2, h1, h2, h3, h4, h5, h6, n1, n2, n3, hl⟩ := h
  obtain ⟨v', K2, q1, q2, q3, q4, q5, q6⟩ := Gro.pushF (P := Tryz.prog) (Ts := 22) (by_ := 120) (x := .slice (some ⟨K.length, 0, some 8⟩) 1 1) (c := x.2) (g1.app (X := [AObj.cells x.2 34])) rel1 rel2 hx (by simp; omega) (by simp [aSrc, hx]; exact List.take_of_length_le (by omega)) (by simp; omega) (by simp; omega)
  have hlow : ∀ (b : Nat) o, b < lo → K[b]? = some o → K2[b]? = some o := fun b o hb ho => q3 b o (fun e => by have := (g1.lt e).2; omega) (get_more ho)
  have ap3 : Apart lv lm := g1.apartT g3 (by decide)
  have ap4 : Apart lv tm := g1.apartT g4 (by decide)
  have hK2 : K.length < K2.length := by simp at q4; omega
  have keep : ∀ {z T w cl}, Gro K lo z T w cl → Apart lv w → Gro (K2.set a (.cells [v', lm, i64 c.late, i64 c.limit] 25)) lo z T w cl := fun g hap =>
    (g.keep fun b o hb ho => q3 b o (fun e => hap b e hb) (get_more ho)).set h5
  have apart : ∀ {z T w cl}, Gro K lo z T w cl → Apart lv w → Apart v' w := fun g hap b e1 e2 => by
    rcases q6 b e1 with e | e
    · exact hap b e e2
    · have := (g.lt e2).1; simp at e; omega
  refine ⟨v', K2, q1, q2.cells, q2.one, q2.stor, hlow _ _ h5 ca, ⟨(q5 H (pre.more _) (by omega)).set h2, ?_, ?_, ?_, ?_, keep g2 ap1, keep g3 ap3, keep g4 ap4, apart g2 ap1, ap2, h1, h2, h3, h4, h5, h6, n1, n2, n3, by simp; omega⟩⟩
  · rw [List.getElem?_set_ne (by omega)]; exact hlow _ _ h4 cp
  · exact List.getElem?_set_self (by omega)
  · rw [List.getElem?_set_ne (by omega)]; exact hlow _ _ h6 cd
  · rw [List.map_append]; exact q2.set h5
theorem PtS.mute (h : PtS H K c rv mv p a d lo lv lm tv tm Q1 Q2 M1 M2) (x : Mut) (hx : x.cells.length = 10) (hQ : M1.length + 1 ≤ 2 ^ 30) :
    ∃ v' K2, aBuiltin Tryz.prog (K ++ [AObj.cells x.cells 38]) .append #[23, 23] [lm, .slice (some ⟨K.length, 0, some 10⟩) 1 1] = some (v', K2) ∧
      v'.cells = #[v'] ∧ v'.oneCell' = true ∧ storable v' = true ∧ K2[a]? = some (.cells [lv, lm, i64 c.late, i64 c.limit] 25) ∧
      PtS H (K2.set a (.cells [lv, v', i64 c.late, i64 c.limit] 25)) c rv mv p a d lo lv v' tv tm Q1 Q2 (M1 ++ [x]) M2 := by
  obtain ⟨pre, cp, ca, cd, g1, g2, g3, g4, ap1, ap2, h1, h2, h3, h4, h5, h6, n1, n2, n3, hl⟩ := h
  obtain ⟨v', K2, q1, q2, q3, q4, q5, q6⟩ := Gro.pushF (P := Tryz.prog) (Ts := 23) (by_ := 40) (x := .slice (some ⟨K.length, 0, some 10⟩) 1 1) (c := x.cells) (g3.app (X := [AObj.cells x.cells 38])) mel1 mel2 hx (by simp; omega) (by simp [aSrc, hx]; exact List.take_of_length_le (by omega)) (by simp; omega) (by simp; omega)
  have hlow : ∀ (b : Nat) o, b < lo → K[b]? = some o → K2[b]? = some o := fun b o hb ho => q3 b o (fun e => by have := (g3.lt e).2; omega) (get_more ho)
  have ap3 : Apart lm lv := g3.apartT g1 (by decide)
  have ap4 : Apart lm tv := g3.apartT g2 (by decide)
  have hK2 : K.length < K2.length := by simp at q4; omega
  have keep : ∀ {z T w cl}, Gro K lo z T w cl → Apart lm w → Gro (K2.set a (.cells [lv, v', i64 c.late, i64 c.limit] 25)) lo z T w cl := fun g hap =>
    (g.keep fun b o hb ho => q3 b o (fun e => hap b e hb) (get_more ho)).set h5
  have apart : ∀ {z T w cl}, Gro K lo z T w cl → Apart lm w → Apart v' w := fun g hap b e1 e2 => by
    rcases q6 b e1 with e | e
    · exact hap b e e2
    · have := (g.lt e2).1; simp at e; omega
  refine ⟨v', K2, q1, q2.cells, q2.one, q2.stor, hlow _ _ h5 ca, ⟨(q5 H (pre.more _) (by omega)).set h2, ?_, ?_, ?_, keep g1 ap3, keep g2 ap4, ?_, keep g4 ap2, ap1, apart g4 ap2, h1, h2, h3, h4, h5, h6, n1, n2, n3, by simp; omega⟩⟩
  · rw [List.getElem?_set_ne (by omega)]; exact hlow _ _ h4 cp
  · exact List.getElem?_set_self (by omega)
  · rw [List.getElem?_set_ne (by omega)]; exact hlow _ _ h6 cd
  · rw [List.map_append]; exact q2.set h5
end
/-- Without the one that stands at a place. -/
def lessP {α : Type} (which : Int) : Nat → List α → List α
  | _, [] => []
  | i, x :: r => if (i : Int) = which then lessP which (i + 1) r else x :: lessP which (i + 1) r
theorem lessP_rules {which : Int} : ∀ (l : List (Rul × List Value)) (i : Nat), (lessP which i l).map (·.1) = lessL which i (l.map (·.1)) := by
  intro l
  induction l with
  | nil => intro i; rfl
  | cons x r ih =>
    intro i
    rw [lessP, List.map_cons, lessL]
    split <;> simp [ih]
theorem lessP_mem {α : Type} {which : Int} : ∀ (l : List α) (i : Nat) (x : α), x ∈ lessP which i l → x ∈ l := by
  intro l
  induction l with
  | nil => intro i x h; exact h
  | cons y r ih =>
    intro i x h
    rw [lessP] at h
    split at h
    · exact .tail _ (ih _ _ h)
    · rcases List.mem_cons.1 h with rfl | h
      · exact .head _
      · exact .tail _ (ih _ _ h)
theorem lessP_len {α : Type} {which : Int} : ∀ (l : List α) (i : Nat), (lessP which i l).length ≤ l.length := by
  intro l
  induction l with
  | nil => intro i; exact Nat.le_refl _
  | cons y r ih =>
    intro i
    have := ih (i + 1)
    rw [lessP]
    split <;> simp <;> omega
end Go.Vi
namespace Go.Vi
open Go Go.Proofs

theorem mut_lit2 {K : AHeap} (m : Mut) (hd : m.cells.length = 10) : sliceLit Tryz.prog K 23 1 [(0, .agg m.cells.toArray)] (.slice (some ⟨K.length, 0, some 10⟩) 1 1) (K ++ [.cells m.cells 38]) := by
  have := sliceLitA (c := m.cells) (tbs23 K 1 _) (by rw [hd]; rfl) m.one (by decide)
  rwa [hd] at this
theorem mut_len' {m : Mut} (h : m.days.length = 7) : m.cells.length = 10 := by simp [Mut.cells, h]
theorem rul_lit2 {K : AHeap} {cs : List Value} (hd : cs.length = 8) (h1 : ∀ v ∈ cs, v.oneCell' = true) : sliceLit Tryz.prog K 22 1 [(0, .agg cs.toArray)] (.slice (some ⟨K.length, 0, some 8⟩) 1 1) (K ++ [.cells cs 34]) := by
  have := sliceLitA (c := cs) (tbs22 K 1 _) (by rw [hd]; rfl) h1 (by decide)
  rwa [hd] at this
section
variable {H : AHeap} {c : Cfg} {rv mv : Value} {p a d lo : Nat} {q : List (Rul × List Value)} {which : Int} {k : Value → AHeap → Prop}
theorem pt_s0 {n0 : Nat} (ha : Arr H 8 rv (q.map (·.2))) (hq : ∀ x ∈ q, RC H x) (hql : q.length ≤ 20) {K : AHeap} {lv lm tv tm : Value} {Q1 : List (Rul × List Value)} {M1 M2 : List Mut} {i : Nat} (hi : i < q.length) (h : PtS H K c rv mv p a d lo lv lm tv tm Q1 (q.reverse.take i) M1 M2)
    (hk : ∀ (K : AHeap) (tv : Value) (s0 s3 s4 s8 s9 s10 s11 s12 s13 s14 s15 s16 s17 s18 s19 s20 s21 s22 s23 s24 s25 s26 s27 s28 s29 s30 s31 s32 s33 s34 s35 s36 s37 s38 s39 s40 s41 s42 s43 s44 s45 s46 s47 s48 s49 s50 s51 s52 s53 s54 s55 s56 s57 s58 s59 s60 s61 s62 s63 s64 s65 s66 s67 s68 s69 s70 s71 s72 s73 s74 s75 s76 s77 s78 s79 s80 s81 s82 s83 s84 s85 s86 s87 s88 s89 s90 s91 s92 s93 s94 s95 s96 s97 s98 s99 s100 s101 s102 s103 s104 s105 s106 s107 s108 s109 s110 s111 s112 s113 s114 s115 s116 : Value), PtS H K c rv mv p a d lo lv lm tv tm Q1 (q.reverse.take (i + 1)) M1 M2 → L3x0 n0 k [s0, i64 which, .pointer (some ⟨p, 0, some 4⟩), s3, s4, .pointer (some ⟨a, 0, some 4⟩), .pointer (some ⟨d, 0, some 4⟩), i64 ((i + 1 : Nat) : Int), s8, s9, s10, s11, s12, s13, s14, s15, s16, s17, s18, s19, s20, s21, s22, s23, s24, s25, s26, s27, s28, s29, s30, s31, s32, s33, s34, s35, s36, s37, s38, s39, s40, s41, s42, s43, s44, s45, s46, s47, s48, s49, s50, s51, s52, s53, s54, s55, s56, s57, s58, s59, s60, s61, s62, s63, s64, s65, s66, s67, s68, s69, s70, s71, s72, s73, s74, s75, s76, s77, s78, s79, s80, s81, s82, s83, s84, s85, s86, s87, s88, s89, s90, s91, s92, s93, s94, s95, s96, s97, s98, s99, s100, s101, s102, s103, s104, s105, s106, s107, s108, s109, s110, s111, s112, s113, s114, s115, s116] K) (s0 s3 s4 s8 s9 s10 s11 s12 s13 s14 s15 s16 s17 s18 s19 s20 s21 s22 s23 s24 s25 s26 s27 s28 s29 s30 s31 s32 s33 s34 s35 s36 s37 s38 s39 s40 s41 s42 s43 s44 s45 s46 s47 s48 s49 s50 s51 s52 s53 s54 s55 s56 s57 s58 s59 s60 s61 s62 s63 s64 s65 s66 s67 s68 s69 s70 s71 s72 s73 s74 s75 s76 s77 s78 s79 s80 s81 s82 s83 s84 s85 s86 s87 s88 s89 s90 s91 s92 s93 s94 s95 s96 s97 s98 s99 s100 s101 s102 s103 s104 s105 s106 s107 s108 s109 s110 s111 s112 s113 s114 s115 s116 : Value) :
    S3x0 n0 k [s0, i64 which, .pointer (some ⟨p, 0, some 4⟩), s3, s4, .pointer (some ⟨a, 0, some 4⟩), .pointer (some ⟨d, 0, some 4⟩), i64 i, s8, s9, s10, s11, s12, s13, s14, s15, s16, s17, s18, s19, s20, s21, s22, s23, s24, s25, s26, s27, s28, s29, s30, s31, s32, s33, s34, s35, s36, s37, s38, s39, s40, s41, s42, s43, s44, s45, s46, s47, s48, s49, s50, s51, s52, s53, s54, s55, s56, s57, s58, s59, s60, s61, s62, s63, s64, s65, s66, s67, s68, s69, s70, s71, s72, s73, s74, s75, s76, s77, s78, s79, s80, s81, s82, s83, s84, s85, s86, s87, s88, s89, s90, s91, s92, s93, s94, s95, s96, s97, s98, s99, s100, s101, s102, s103, s104, s105, s106, s107, s108, s109, s110, s111, s112, s113, s114, s115, s116] K := by
  obtain ⟨cp1, cp2⟩ := cellF h.cp
  obtain ⟨cd1, cd2⟩ := cellF h.cd
  simp only [Cfg.cells] at cp1 cp2
  have hb : q.reverse[i]? = some (q[q.length - 1 - i]) := by
    rw [List.getElem?_reverse hi, List.getElem?_eq_getElem]
  have hx : q[q.length - 1 - i]? = some (q[q.length - 1 - i]) := List.getElem?_eq_getElem _
  generalize q[q.length - 1 - i] = x at hb hx
  have hxm := List.mem_of_getElem? hx
  have hxc := hq x hxm
  have hl := (ha.pre h.pre).len (P := Tryz.prog) (T := 22) (e := 34) (by simp)
  simp at hl
  obtain ⟨r, hp1, hp2⟩ := (ha.pre h.pre).load (P := Tryz.prog) (T := 22) (te := 34) (i := q.length - 1 - i) (e := x.2) (by simp) (by simp) (by simp) (by simp [hx])
  have hw1 : IntKind.i64.wrap ((q.length : Int) - 1) = ((q.length - 1 : Nat) : Int) := by rw [wrap_i64 (by omega) (by omega)]; omega
  have hw2 : IntKind.i64.wrap (((q.length - 1 : Nat) : Int) - i) = ((q.length - 1 - i : Nat) : Int) := by rw [wrap_i64 (by omega) (by omega)]; omega
  rw [S3x0q]
  simp [cp1, cp2, cd1, cd2, hl, hw1, hw2, hp1, hp2]
  refine bndD_of (rul_lit2 hxc.len hxc.ones) (.inr ⟨_, rfl⟩) ?_
  dsimp only
  obtain ⟨v', K2, q1, u1, u2, u3, u4, u5⟩ := h.swap.rule x hxc.len (by simp; omega)
  refine bndD_of q1 (.inl rfl) ?_
  obtain ⟨w1, w2⟩ := cellF u4
  simp [w2]
  refine bndD_of (v := undef) (H' := K2.set d (.cells [v', tm, i64 c.late, i64 c.limit] 25)) ⟨rfl, by simp [u4, u1, u3]⟩ (.inl rfl) ?_
  simp [show i + 1 < 2 ^ 63 by omega]
  refine hk _ v' _ _ _ _ _ _ _ _ _ _ _ _ _ _ _ _ _ _ _ _ _ _ _ _ _ _ _ _ _ _ _ _ _ _ _ _ _ _ _ _ _ _ _ _ _ _ _ _ _ _ _ _ _ _ _ _ _ _ _ _ _ _ _ _ _ _ _ _ _ _ _ _ _ _ _ _ _ _ _ _ _ _ _ _ _ _ _ _ _ _ _ _ _ _ _ _ _ _ _ _ _ _ _ _ _ _ _ _ _ _ _ _ ?_
  rw [List.take_add_one, hb]
  exact u5.swap
theorem pt_x1 (hm0 : MutesAt H mv c.mutes) (hmay : ∀ m ∈ c.mutes, m.mayB = true) (hml : c.mutes.length ≤ 50) {lv tv : Value} {Q1 Q2 : List (Rul × List Value)} (hQ1 : ∀ x ∈ Q1, RC H x) (hQ2 : ∀ x ∈ Q2, RC H x) (hl1 : Q1.length ≤ 20) (hl2 : Q2.length ≤ 20)
    (hf1 : Cfg.mayB ⟨Q1.map (·.1), c.mutes, c.late, c.limit⟩ = true) (hf2 : Cfg.mayB ⟨Q2.map (·.1), c.mutes.reverse, c.late, c.limit⟩ = true) (hk : ∀ K, Pre H K → k (.bool true) K) :
    ∀ (l : List Mut) (i : Nat) (K : AHeap) (lm tm : Value) (s0 s1 s3 s4 s7 s9 s10 s11 s12 s13 s14 s15 s16 s17 s18 s19 s20 s21 s22 s23 s24 s25 s26 s27 s28 s29 s30 s31 s32 s33 s34 s35 s36 s37 s38 s39 s40 s41 s42 s43 s44 s45 s46 s47 s48 s49 s50 s51 s52 s53 s54 s55 s56 s57 s58 s59 s60 s61 s62 s63 s64 s65 s66 s67 s68 s69 s70 s71 s72 s73 s74 s75 s76 s77 s78 s79 s80 s81 s82 s83 s84 s85 s86 s87 s88 s89 s90 s91 s92 s93 s94 s95 s96 s97 s98 s99 s100 s101 s102 s103 s104 s105 s106 s107 s108 s109 s110 s111 s112 s113 s114 s115 s116 : Value), c.mutes.drop i = l → i ≤ c.mutes.length → PtS H K c rv mv p a d lo lv lm tv tm Q1 Q2 (c.mutes.take i) (c.mutes.reverse.take i) →
      L3x1 (l.length + 1) k [s0, s1, .pointer (some ⟨p, 0, some 4⟩), s3, s4, .pointer (some ⟨a, 0, some 4⟩), .pointer (some ⟨d, 0, some 4⟩), s7, i64 i, s9, s10, s11, s12, s13, s14, s15, s16, s17, s18, s19, s20, s21, s22, s23, s24, s25, s26, s27, s28, s29, s30, s31, s32, s33, s34, s35, s36, s37, s38, s39, s40, s41, s42, s43, s44, s45, s46, s47, s48, s49, s50, s51, s52, s53, s54, s55, s56, s57, s58, s59, s60, s61, s62, s63, s64, s65, s66, s67, s68, s69, s70, s71, s72, s73, s74, s75, s76, s77, s78, s79, s80, s81, s82, s83, s84, s85, s86, s87, s88, s89, s90, s91, s92, s93, s94, s95, s96, s97, s98, s99, s100, s101, s102, s103, s104, s105, s106, s107, s108, s109, s110, s111, s112, s113, s114, s115, s116] K := by
  intro l
  induction l with
  | nil =>
    intro i K lm tm s0 s1 s3 s4 s7 s9 s10 s11 s12 s13 s14 s15 s16 s17 s18 s19 s20 s21 s22 s23 s24 s25 s26 s27 s28 s29 s30 s31 s32 s33 s34 s35 s36 s37 s38 s39 s40 s41 s42 s43 s44 s45 s46 s47 s48 s49 s50 s51 s52 s53 s54 s55 s56 s57 s58 s59 s60 s61 s62 s63 s64 s65 s66 s67 s68 s69 s70 s71 s72 s73 s74 s75 s76 s77 s78 s79 s80 s81 s82 s83 s84 s85 s86 s87 s88 s89 s90 s91 s92 s93 s94 s95 s96 s97 s98 s99 s100 s101 s102 s103 s104 s105 s106 s107 s108 s109 s110 s111 s112 s113 s114 s115 s116 hd hi h
    have hle : c.mutes.length ≤ i := by simpa using hd
    have hl := (hm0.pre h.pre).lenM K
    obtain ⟨cp1, cp2⟩ := cellF h.cp
    obtain ⟨cd1, cd2⟩ := cellF h.cd
    obtain ⟨ca1, ca2⟩ := cellF h.ca
    simp only [Cfg.cells] at cp1 cp2
    rw [List.length_nil, L3x1q]
    have : ¬ i < c.mutes.length := by omega
    have h3 := h.g3
    have h4 := h.g4
    rw [List.take_of_length_le hle] at h3
    rw [List.take_of_length_le (by simpa using hle)] at h4
    simp [cp1, cp2, ca1, hl, this]
    refine bndC_of (c_config (c := ⟨Q1.map (·.1), c.mutes, c.late, c.limit⟩) (rv := lv) (mv := lm) (by simp; omega) (by simp; omega) (pairs_rules h.pre h.g1.arr hQ1) ⟨h3.arr, hm0.2⟩) ?_
    rw [hf1]
    simp [errno, cd1]
    refine bndG_t (i64 0) K ?_ ?_
    · have := c_config (H := K) (c := ⟨Q2.map (·.1), c.mutes.reverse, c.late, c.limit⟩) (rv := tv) (mv := tm) (by simp; omega) (by simp; omega) (pairs_rules h.pre h.g2.arr hQ2) ⟨h4.arr, fun m hm => hm0.2 m (by simpa using hm)⟩
      rw [hf2] at this
      simpa [errno, Cfg.cells] using this
    · simp
      exact hk K h.pre
  | cons x l ih =>
    intro i K lm tm s0 s1 s3 s4 s7 s9 s10 s11 s12 s13 s14 s15 s16 s17 s18 s19 s20 s21 s22 s23 s24 s25 s26 s27 s28 s29 s30 s31 s32 s33 s34 s35 s36 s37 s38 s39 s40 s41 s42 s43 s44 s45 s46 s47 s48 s49 s50 s51 s52 s53 s54 s55 s56 s57 s58 s59 s60 s61 s62 s63 s64 s65 s66 s67 s68 s69 s70 s71 s72 s73 s74 s75 s76 s77 s78 s79 s80 s81 s82 s83 s84 s85 s86 s87 s88 s89 s90 s91 s92 s93 s94 s95 s96 s97 s98 s99 s100 s101 s102 s103 s104 s105 s106 s107 s108 s109 s110 s111 s112 s113 s114 s115 s116 hd hi h
    have hb : c.mutes[i]? = some x := by rw [← List.head?_drop, hd]; rfl
    have hlt : i < c.mutes.length := (List.getElem?_eq_some_iff.1 hb).1
    have hl := (hm0.pre h.pre).lenM K
    obtain ⟨cp1, cp2⟩ := cellF h.cp
    obtain ⟨cd1, cd2⟩ := cellF h.cd
    obtain ⟨ca1, ca2⟩ := cellF h.ca
    simp only [Cfg.cells] at cp1 cp2
    have hxm := List.mem_of_getElem? hb
    have h10 := mut_len' (hm0.2 x hxm)
    obtain ⟨r, hp1, hp2⟩ := (hm0.pre h.pre).1.load (P := Tryz.prog) (T := 23) (te := 38) (i := i) (e := x.cells) (by simp) (by simp) (by simp) (by simp [hb])
    rw [List.length_cons, L3x1q]
    simp [cp1, cp2, hl, hlt, hp1, hp2]
    refine bndC_of (c_mute (m := x) (hm0.2 x hxm)) ?_
    rw [hmay x hxm]
    simp [errno, ca1, ca2, cp1, cp2, hp1, hp2]
    refine bndD_of (mut_lit2 x h10) (.inr ⟨_, rfl⟩) ?_
    dsimp only
    obtain ⟨v', K2, q1, u1, u2, u3, u4, u5⟩ := h.mute x h10 (by simp; omega)
    refine bndD_of q1 (.inl rfl) ?_
    obtain ⟨w1, w2⟩ := cellF u4
    simp [w2]
    refine bndD_of (v := undef) (H' := K2.set a (.cells [lv, v', i64 c.late, i64 c.limit] 25)) ⟨rfl, by simp [u4, u1, u3]⟩ (.inl rfl) ?_
    dsimp only
    generalize K2.set a (.cells [lv, v', i64 c.late, i64 c.limit] 25) = K3 at u5 ⊢
    obtain ⟨cp3, cp4⟩ := cellF u5.cp
    obtain ⟨cd3, cd4⟩ := cellF u5.cd
    simp only [Cfg.cells] at cp3 cp4
    have hl3 := (hm0.pre u5.pre).lenM K3
    have hb2 : c.mutes.reverse[i]? = some (c.mutes[c.mutes.length - 1 - i]) := by
      rw [List.getElem?_reverse hlt, List.getElem?_eq_getElem]
    have hx2 : c.mutes[c.mutes.length - 1 - i]? = some (c.mutes[c.mutes.length - 1 - i]) := List.getElem?_eq_getElem _
    generalize c.mutes[c.mutes.length - 1 - i] = y at hb2 hx2
    have hy10 := mut_len' (hm0.2 y (List.mem_of_getElem? hx2))
    obtain ⟨r2, hp3, hp4⟩ := (hm0.pre u5.pre).1.load (P := Tryz.prog) (T := 23) (te := 38) (i := c.mutes.length - 1 - i) (e := y.cells) (by simp) (by simp) (by simp) (by simp [hx2])
    have hw1 : IntKind.i64.wrap ((c.mutes.length : Int) - 1) = ((c.mutes.length - 1 : Nat) : Int) := by rw [wrap_i64 (by omega) (by omega)]; omega
    have hw2 : IntKind.i64.wrap (((c.mutes.length - 1 : Nat) : Int) - i) = ((c.mutes.length - 1 - i : Nat) : Int) := by rw [wrap_i64 (by omega) (by omega)]; omega
    simp [cp3, cp4, cd3, cd4, hl3, hw1, hw2, hp3, hp4]
    refine bndD_of (mut_lit2 y hy10) (.inr ⟨_, rfl⟩) ?_
    dsimp only
    obtain ⟨v2, K4, r1, t1, t2, t3, t4, t5⟩ := u5.swap.mute y hy10 (by simp; omega)
    refine bndD_of r1 (.inl rfl) ?_
    obtain ⟨w3, w4⟩ := cellF t4
    simp [w4]
    refine bndD_of (v := undef) (H' := K4.set d (.cells [tv, v2, i64 c.late, i64 c.limit] 25)) ⟨rfl, by simp [t4, t1, t3]⟩ (.inl rfl) ?_
    simp [show i + 1 < 2 ^ 63 by omega]
    refine ih (i + 1) _ v' v2 _ _ _ _ _ _ _ _ _ _ _ _ _ _ _ _ _ _ _ _ _ _ _ _ _ _ _ _ _ _ _ _ _ _ _ _ _ _ _ _ _ _ _ _ _ _ _ _ _ _ _ _ _ _ _ _ _ _ _ _ _ _ _ _ _ _ _ _ _ _ _ _ _ _ _ _ _ _ _ _ _ _ _ _ _ _ _ _ _ _ _ _ _ _ _ _ _ _ _ _ _ _ _ _ _ _ _ _ _ _ _ _ _ (by rw [← List.drop_drop, hd]; rfl) hlt ?_
    rw [List.take_add_one, hb, List.take_add_one, hb2]
    exact t5.swap
theorem pt_x0 (hm0 : MutesAt H mv c.mutes) (ha : Arr H 8 rv (q.map (·.2))) (hq : ∀ x ∈ q, RC H x) (hqr : q.map (·.1) = c.rules) (hmay : c.mayB = true) (hk : ∀ K, Pre H K → k (.bool true) K) {lm tm : Value} :
    ∀ (l : List (Rul × List Value)) (i : Nat) (K : AHeap) (lv tv : Value) (Q1 : List (Rul × List Value)) (s0 s3 s4 s8 s9 s10 s11 s12 s13 s14 s15 s16 s17 s18 s19 s20 s21 s22 s23 s24 s25 s26 s27 s28 s29 s30 s31 s32 s33 s34 s35 s36 s37 s38 s39 s40 s41 s42 s43 s44 s45 s46 s47 s48 s49 s50 s51 s52 s53 s54 s55 s56 s57 s58 s59 s60 s61 s62 s63 s64 s65 s66 s67 s68 s69 s70 s71 s72 s73 s74 s75 s76 s77 s78 s79 s80 s81 s82 s83 s84 s85 s86 s87 s88 s89 s90 s91 s92 s93 s94 s95 s96 s97 s98 s99 s100 s101 s102 s103 s104 s105 s106 s107 s108 s109 s110 s111 s112 s113 s114 s115 s116 : Value), q.drop i = l → i ≤ q.length → Q1 ++ lessP which i l = lessP which 0 q → PtS H K c rv mv p a d lo lv lm tv tm Q1 (q.reverse.take i) [] [] →
      L3x0 (l.length + 1) k [s0, i64 which, .pointer (some ⟨p, 0, some 4⟩), s3, s4, .pointer (some ⟨a, 0, some 4⟩), .pointer (some ⟨d, 0, some 4⟩), i64 i, s8, s9, s10, s11, s12, s13, s14, s15, s16, s17, s18, s19, s20, s21, s22, s23, s24, s25, s26, s27, s28, s29, s30, s31, s32, s33, s34, s35, s36, s37, s38, s39, s40, s41, s42, s43, s44, s45, s46, s47, s48, s49, s50, s51, s52, s53, s54, s55, s56, s57, s58, s59, s60, s61, s62, s63, s64, s65, s66, s67, s68, s69, s70, s71, s72, s73, s74, s75, s76, s77, s78, s79, s80, s81, s82, s83, s84, s85, s86, s87, s88, s89, s90, s91, s92, s93, s94, s95, s96, s97, s98, s99, s100, s101, s102, s103, s104, s105, s106, s107, s108, s109, s110, s111, s112, s113, s114, s115, s116] K := by
  have hmay2 := (Cfg.mayB_iff c).1 hmay
  have hql : q.length = c.rules.length := by rw [← hqr]; simp
  have hlp := lessP_len (which := which) q 0
  intro l
  induction l with
  | nil =>
    intro i K lv tv Q1 s0 s3 s4 s8 s9 s10 s11 s12 s13 s14 s15 s16 s17 s18 s19 s20 s21 s22 s23 s24 s25 s26 s27 s28 s29 s30 s31 s32 s33 s34 s35 s36 s37 s38 s39 s40 s41 s42 s43 s44 s45 s46 s47 s48 s49 s50 s51 s52 s53 s54 s55 s56 s57 s58 s59 s60 s61 s62 s63 s64 s65 s66 s67 s68 s69 s70 s71 s72 s73 s74 s75 s76 s77 s78 s79 s80 s81 s82 s83 s84 s85 s86 s87 s88 s89 s90 s91 s92 s93 s94 s95 s96 s97 s98 s99 s100 s101 s102 s103 s104 s105 s106 s107 s108 s109 s110 s111 s112 s113 s114 s115 s116 hd hi hQ h
    have hle : q.length ≤ i := by simpa using hd
    have hl := (ha.pre h.pre).len (P := Tryz.prog) (T := 22) (e := 34) (by simp)
    simp at hl
    obtain ⟨cp1, cp2⟩ := cellF h.cp
    simp only [Cfg.cells] at cp1 cp2
    rw [List.length_nil, L3x0q]
    have : ¬ i < q.length := by omega
    simp [lessP] at hQ
    subst hQ
    rw [List.take_of_length_le (by simpa using hle)] at h
    simp [cp1, cp2, hl, this]
    have l1 : (lessP which 0 q).length ≤ 20 := by omega
    have l2 : q.reverse.length ≤ 20 := by simp; omega
    refine ⟨c.mutes.length + 1, pt_x1 (H := H) (lv := lv) (tv := tv) (Q1 := lessP which 0 q) (Q2 := q.reverse) (c := c) (rv := rv) (mv := mv) (p := p) (a := a) (d := d) (lo := lo) hm0 hmay2.2.2.2.2.2.2.1 (by omega) (fun x hx => hq x (lessP_mem _ _ _ hx)) (fun x hx => hq x (by simpa using hx)) l1 l2 ?_ ?_ hk c.mutes 0 K lm tm _ _ _ _ _ _ _ _ _ _ _ _ _ _ _ _ _ _ _ _ _ _ _ _ _ _ _ _ _ _ _ _ _ _ _ _ _ _ _ _ _ _ _ _ _ _ _ _ _ _ _ _ _ _ _ _ _ _ _ _ _ _ _ _ _ _ _ _ _ _ _ _ _ _ _ _ _ _ _ _ _ _ _ _ _ _ _ _ _ _ _ _ _ _ _ _ _ _ _ _ _ _ _ _ _ _ _ _ _ _ _ _ _ rfl (by omega) ?_⟩
    · rw [lessP_rules, hqr]; exact parts_less hmay which
    · rw [List.map_reverse, hqr]; exact parts_turned hmay
    · simpa using h
  | cons x l ih =>
    intro i K lv tv Q1 s0 s3 s4 s8 s9 s10 s11 s12 s13 s14 s15 s16 s17 s18 s19 s20 s21 s22 s23 s24 s25 s26 s27 s28 s29 s30 s31 s32 s33 s34 s35 s36 s37 s38 s39 s40 s41 s42 s43 s44 s45 s46 s47 s48 s49 s50 s51 s52 s53 s54 s55 s56 s57 s58 s59 s60 s61 s62 s63 s64 s65 s66 s67 s68 s69 s70 s71 s72 s73 s74 s75 s76 s77 s78 s79 s80 s81 s82 s83 s84 s85 s86 s87 s88 s89 s90 s91 s92 s93 s94 s95 s96 s97 s98 s99 s100 s101 s102 s103 s104 s105 s106 s107 s108 s109 s110 s111 s112 s113 s114 s115 s116 hd hi hQ h
    have hb : q[i]? = some x := by rw [← List.head?_drop, hd]; rfl
    have hlt : i < q.length := (List.getElem?_eq_some_iff.1 hb).1
    have hl := (ha.pre h.pre).len (P := Tryz.prog) (T := 22) (e := 34) (by simp)
    simp at hl
    obtain ⟨cp1, cp2⟩ := cellF h.cp
    obtain ⟨ca1, ca2⟩ := cellF h.ca
    simp only [Cfg.cells] at cp1 cp2
    have hxm := List.mem_of_getElem? hb
    have hxc := hq x hxm
    obtain ⟨r, hp1, hp2⟩ := (ha.pre h.pre).load (P := Tryz.prog) (T := 22) (te := 34) (i := i) (e := x.2) (by simp) (by simp) (by simp) (by simp [hb])
    have hxr : x.1.mayB = true := (hmay2.2.2.2.2.2.2.2 x.1 (by rw [← hqr]; exact List.mem_map_of_mem hxm)).1
    have hcall : ACalls Tryz.prog 12 [.agg x.2.toArray] K (i64 0) K := by
      obtain ⟨nv, xv, e1, e2, e3, e4⟩ := hxc
      have := c_rule (H := K) (r := x.1) (e2.pre h.pre) (e3.pre h.pre) e4
      rw [hxr, ← e1] at this
      exact this
    have hdr : q.drop (i + 1) = l := by rw [← List.drop_drop, hd]; rfl
    have hQl : Q1.length ≤ q.length := by have := congrArg List.length hQ; simp at this; omega
    rw [List.length_cons, L3x0q]
    simp [cp1, cp2, hl, hlt, hp1, hp2]
    refine bndC_of hcall ?_
    simp
    rw [lessP] at hQ
    refine kifB_bool (fun hw => ?_) (fun hw => ?_)
    · have hne : ¬ (i : Int) = which := by simpa using hw
      rw [if_neg hne] at hQ
      simp [ca1, ca2, cp1, cp2, hp1, hp2]
      refine bndD_of (rul_lit2 hxc.len hxc.ones) (.inr ⟨_, rfl⟩) ?_
      dsimp only
      obtain ⟨v', K2, q1, u1, u2, u3, u4, u5⟩ := h.rule x hxc.len (by omega)
      refine bndD_of q1 (.inl rfl) ?_
      obtain ⟨w1, w2⟩ := cellF u4
      simp [w2]
      refine bndD_of (v := undef) (H' := K2.set a (.cells [v', lm, i64 c.late, i64 c.limit] 25)) ⟨rfl, by simp [u4, u1, u3]⟩ (.inl rfl) ?_
      dsimp only
      refine pt_s0 ha hq (by omega) hlt u5 (fun K tv s0 s3 s4 s8 s9 s10 s11 s12 s13 s14 s15 s16 s17 s18 s19 s20 s21 s22 s23 s24 s25 s26 s27 s28 s29 s30 s31 s32 s33 s34 s35 s36 s37 s38 s39 s40 s41 s42 s43 s44 s45 s46 s47 s48 s49 s50 s51 s52 s53 s54 s55 s56 s57 s58 s59 s60 s61 s62 s63 s64 s65 s66 s67 s68 s69 s70 s71 s72 s73 s74 s75 s76 s77 s78 s79 s80 s81 s82 s83 s84 s85 s86 s87 s88 s89 s90 s91 s92 s93 s94 s95 s96 s97 s98 s99 s100 s101 s102 s103 s104 s105 s106 s107 s108 s109 s110 s111 s112 s113 s114 s115 s116 h' => ih (i + 1) K v' tv (Q1 ++ [x]) _ _ _ _ _ _ _ _ _ _ _ _ _ _ _ _ _ _ _ _ _ _ _ _ _ _ _ _ _ _ _ _ _ _ _ _ _ _ _ _ _ _ _ _ _ _ _ _ _ _ _ _ _ _ _ _ _ _ _ _ _ _ _ _ _ _ _ _ _ _ _ _ _ _ _ _ _ _ _ _ _ _ _ _ _ _ _ _ _ _ _ _ _ _ _ _ _ _ _ _ _ _ _ _ _ _ _ _ _ _ _ _ hdr hlt (by rw [← hQ]; simp) h') _ _ _ _ _ _ _ _ _ _ _ _ _ _ _ _ _ _ _ _ _ _ _ _ _ _ _ _ _ _ _ _ _ _ _ _ _ _ _ _ _ _ _ _ _ _ _ _ _ _ _ _ _ _ _ _ _ _ _ _ _ _ _ _ _ _ _ _ _ _ _ _ _ _ _ _ _ _ _ _ _ _ _ _ _ _ _ _ _ _ _ _ _ _ _ _ _ _ _ _ _ _ _ _ _ _ _ _ _ _ _ _
    · have hne : (i : Int) = which := by simpa using hw
      rw [if_pos hne] at hQ
      dsimp only
      refine pt_s0 ha hq (by omega) hlt h (fun K tv s0 s3 s4 s8 s9 s10 s11 s12 s13 s14 s15 s16 s17 s18 s19 s20 s21 s22 s23 s24 s25 s26 s27 s28 s29 s30 s31 s32 s33 s34 s35 s36 s37 s38 s39 s40 s41 s42 s43 s44 s45 s46 s47 s48 s49 s50 s51 s52 s53 s54 s55 s56 s57 s58 s59 s60 s61 s62 s63 s64 s65 s66 s67 s68 s69 s70 s71 s72 s73 s74 s75 s76 s77 s78 s79 s80 s81 s82 s83 s84 s85 s86 s87 s88 s89 s90 s91 s92 s93 s94 s95 s96 s97 s98 s99 s100 s101 s102 s103 s104 s105 s106 s107 s108 s109 s110 s111 s112 s113 s114 s115 s116 h' => ih (i + 1) K lv tv Q1 _ _ _ _ _ _ _ _ _ _ _ _ _ _ _ _ _ _ _ _ _ _ _ _ _ _ _ _ _ _ _ _ _ _ _ _ _ _ _ _ _ _ _ _ _ _ _ _ _ _ _ _ _ _ _ _ _ _ _ _ _ _ _ _ _ _ _ _ _ _ _ _ _ _ _ _ _ _ _ _ _ _ _ _ _ _ _ _ _ _ _ _ _ _ _ _ _ _ _ _ _ _ _ _ _ _ _ _ _ _ _ _ hdr hlt hQ h') _ _ _ _ _ _ _ _ _ _ _ _ _ _ _ _ _ _ _ _ _ _ _ _ _ _ _ _ _ _ _ _ _ _ _ _ _ _ _ _ _ _ _ _ _ _ _ _ _ _ _ _ _ _ _ _ _ _ _ _ _ _ _ _ _ _ _ _ _ _ _ _ _ _ _ _ _ _ _ _ _ _ _ _ _ _ _ _ _ _ _ _ _ _ _ _ _ _ _ _ _ _ _ _ _ _ _ _ _ _ _ _
theorem w_parts {H : AHeap} {c : Cfg} {rv mv : Value} (which : Int) (hr : RulesAt H rv c.rules) (hm : MutesAt H mv c.mutes) : ACalls Tryz.prog 3 [.agg (c.cells rv mv).toArray, i64 which] H (.bool true) H := by
  refine acalls_pure MixT Tryz.func3 (by decide) rfl ?_
  rw [d3]
  have h1 := hr.one
  have h2 := hm.one
  have e0 : ∀ v ∈ c.cells rv mv, v.oneCell' = true := by simp [Cfg.cells, h1, h2]
  rw [aNew_agg (by simpa [storable] using e0)]
  simp only [bndE_some]
  refine bndC_of (c_awake _) ?_
  have hc : hcells (H ++ [AObj.cells (c.cells rv mv) 25]) H.length = some (c.cells rv mv) := by simp
  have hp : Pre H (H ++ [AObj.cells (c.cells rv mv) 25]) := .app _ _
  simp [Cfg.cells]
  simp only [Cfg.cells] at hc hp
  obtain ⟨t, ht, hcall⟩ := c_Big (hr.pre hp) (hm.pre hp)
  refine bndC_of hcall ?_
  cases t with
  | true =>
    simp
  | false =>
    obtain ⟨s1, s2, s3⟩ := ht rfl
    simp [Cfg.cells]
    refine bndG_call (i64 (errno c.mayB)) (fun _ => c_config (c := c) (by omega) (by omega) (hr.pre hp) (hm.pre hp)) ?_
    cases hmb : c.mayB with
    | false =>
      simp [errno]
    | true =>
      simp [errno, Cfg.cells]
      obtain ⟨q, hq1, hq2, hq3⟩ := rules_pairs hr
      refine ⟨q.length + 1, pt_x0 (H := H) (c := c) (rv := rv) (mv := mv) (p := H.length) (a := H.length + 1) (d := H.length + 2) (lo := H.length + 3) (q := q) (which := which) (k := fun u H2 => u = .bool true ∧ ∃ X, H2 = H ++ X) (lm := .slice none 0 0) (tm := .slice none 0 0) hm hq2 hq3 hq1 hmb (fun K p => ⟨rfl, p⟩) q 0 _ (.slice none 0 0) (.slice none 0 0) [] _ _ _ _ _ _ _ _ _ _ _ _ _ _ _ _ _ _ _ _ _ _ _ _ _ _ _ _ _ _ _ _ _ _ _ _ _ _ _ _ _ _ _ _ _ _ _ _ _ _ _ _ _ _ _ _ _ _ _ _ _ _ _ _ _ _ _ _ _ _ _ _ _ _ _ _ _ _ _ _ _ _ _ _ _ _ _ _ _ _ _ _ _ _ _ _ _ _ _ _ _ _ _ _ _ _ _ _ _ _ _ _ rfl (by omega) rfl ⟨.app _ _, ?_, ?_, ?_, .nil, .nil, .nil, .nil, (fun b h => by cases h), (fun b h => by cases h), by omega, by omega, by omega, by omega, by omega, by omega, by omega, by omega, by omega, by simp⟩⟩
      · simp [Cfg.cells]
      · simp
      · simp
end
end Go.Vi
