/- Arguments: rules, mutes, configurations. Tokens. strings.Builder. One token. One token. All tokens. All tokens: the iterator, and the range over it. The reader of conditions: tokens. Numbers' texts. Reading a condition. What the functions' bodies come to. Conditions read. The examples of chapter 11. Lists copied and joined; whether a configuration is more than is gone through. Whether a configuration is more than is gone through. -/
import Derived.Test.YtamjmjfppmnlcaaGreatDoorJ4
import Derived.Test.YtamjmjfppmnlcaaGreatDoorJ3
import Derived.Test.YtamjmjfppmnlcaaGreatDoorChecked
namespace Go.Vi
open Go Go.Proofs

theorem len10 {α : Type} {l : List α} (h : l.length = 10) : ∃ a d b c, l = a :: (d ++ [b, c]) ∧ d.length = 7 := match l, h with
  | [a, d0, d1, d2, d3, d4, d5, d6, b, c], _ => ⟨a, [d0, d1, d2, d3, d4, d5, d6], b, c, rfl, rfl⟩
theorem len4 {α : Type} {l : List α} (h : l.length = 4) : ∃ a b c d, l = [a, b, c, d] := match l, h with
  | [a, b, c, d], _ => ⟨a, b, c, d, rfl⟩
theorem ce_strs : Tryz.prog.cellsOf 32 = 1 := by kernel_rfl
theorem ce_nodes : Tryz.prog.cellsOf 31 = 1 := by kernel_rfl
theorem ce_rules : Tryz.prog.cellsOf 22 = 1 := by kernel_rfl
theorem ce_mutes : Tryz.prog.cellsOf 23 = 1 := by kernel_rfl
theorem ce_rule : Tryz.prog.cellsOf 34 = 8 := by kernel_rfl
theorem ce_mute : Tryz.prog.cellsOf 38 = 10 := by kernel_rfl
theorem ce_cfg : Tryz.prog.cellsOf 25 = 4 := by kernel_rfl
abbrev parts_cfg : List (TypeId × Nat) := [(22, 0), (23, 1), (3, 2), (3, 3)]
abbrev parts_rule : List (TypeId × Nat) := [(9, 0), (9, 1), (31, 2), (3, 3), (3, 4), (3, 5), (32, 6), (9, 7)]
abbrev parts_mute : List (TypeId × Nat) := [(9, 0), (36, 1), (3, 8), (3, 9)]
section
variable {H : AHeap} {f : Nat} {v : Value} {cs : List Value}
theorem rd_strs (h : Rd Tryz.prog H (f + 2) 32 [v]) : ∃ l, Arr H 1 v (strCells l) ∧ l.length < 2 ^ 63 := by
  obtain ⟨v', l, h1, h2, h3, h4⟩ := h.slice Tryz.underlying32
  cases h1
  rw [ce_str] at h2
  obtain ⟨ms, rfl⟩ := map_ex (g := fun s : List UInt8 => [Vi.str s]) fun x hx => by
    obtain ⟨s, e, _⟩ := (h4 x hx).str Tryz.underlying9
    exact ⟨s, e⟩
  exact ⟨ms, h2, by simpa using max_lt h3⟩
theorem rd_rule (h : Rd Tryz.prog H (f + 6) 34 cs) : ∃ (r : Rul) (nv mv : Value), cs = r.cells nv mv ∧ NodesAt H nv r.nodes ∧ Arr H 1 mv (strCells r.mutes) ∧ r.mutes.length < 2 ^ 63 := by
  obtain ⟨hl, hp⟩ := h.parts (ps := parts_rule) (by kernel_rfl)
  rw [ce_rule] at hl
  obtain ⟨x0, x1, x2, x3, x4, x5, x6, x7, rfl⟩ := len8 hl
  simp only [parts_rule, List.forall_mem_cons, ce_str, ce_int, ce_nodes, ce_strs] at hp
  obtain ⟨h0, h1, h2, h3, h4, h5, h6, h7, _⟩ := hp
  obtain ⟨b0, e0, _⟩ := h0.str Tryz.underlying9
  obtain ⟨b1, e1, _⟩ := h1.str Tryz.underlying9
  obtain ⟨ns, e2, _⟩ := rd_nodes h2
  obtain ⟨b3, e3, _⟩ := h3.int Tryz.underlying3
  obtain ⟨b4, e4, _⟩ := h4.int Tryz.underlying3
  obtain ⟨b5, e5, _⟩ := h5.int Tryz.underlying3
  obtain ⟨ms, e6, e6'⟩ := rd_strs h6
  obtain ⟨b7, e7, _⟩ := h7.str Tryz.underlying9
  simp at e0 e1 e3 e4 e5 e7
  exact ⟨⟨b0, b1, ns, b3, b4, b5, ms, b7⟩, x2, x6, by simp [Rul.cells, e0, e1, e3, e4, e5, e7], e2, e6, e6'⟩
theorem rd_rules (h : Rd Tryz.prog H (f + 7) 22 [v]) : ∃ rs, RulesAt H v rs ∧ rs.length < 2 ^ 63 := by
  obtain ⟨v', l, h1, h2, h3, h4⟩ := h.slice Tryz.underlying22
  cases h1
  rw [ce_rule] at h2
  obtain ⟨rs, q1, q2⟩ := rd_list (R := fun cs (r : Rul) => ∃ nv mv, cs = r.cells nv mv ∧ NodesAt H nv r.nodes ∧ Arr H 1 mv (strCells r.mutes) ∧ r.mutes.length < 2 ^ 63) fun x hx => rd_rule (h4 x hx)
  refine ⟨rs, ⟨l, h2, q1, fun i n hi => ?_⟩, by rw [← q1]; exact max_lt h3⟩
  obtain ⟨c, c1, nv, mv, rfl, c2⟩ := q2 i n hi
  exact ⟨nv, mv, c1, c2⟩
theorem rd_mute (h : Rd Tryz.prog H (f + 3) 38 cs) : ∃ m : Mut, cs = m.cells ∧ m.days.length = 7 := by
  obtain ⟨hl, hp⟩ := h.parts (ps := parts_mute) (by kernel_rfl)
  rw [ce_mute] at hl
  obtain ⟨x0, d, x2, x3, rfl, hd⟩ := len10 hl
  simp only [parts_mute, List.forall_mem_cons, ce_str, ce_int, ce_days] at hp
  obtain ⟨h0, h1, h2, h3, _⟩ := hp
  obtain ⟨b0, e0, _⟩ := h0.str Tryz.underlying9
  have e1 : ((x0 :: (d ++ [x2, x3])).drop 1).take 7 = d := by simp [hd]
  rw [e1] at h1
  obtain ⟨ds, rfl, e1'⟩ := rd_days h1
  obtain ⟨b2, e2, _⟩ := h2.int Tryz.underlying3
  obtain ⟨b3, e3, _⟩ := h3.int Tryz.underlying3
  have e2' : ((x0 :: (ds.map Value.bool ++ [x2, x3])).drop 8).take 1 = [x2] := by simp at hd; simp [hd]
  have e3' : ((x0 :: (ds.map Value.bool ++ [x2, x3])).drop 9).take 1 = [x3] := by
    obtain ⟨d0, d1, d2, d3, d4, d5, d6, rfl⟩ := len7 e1'
    rfl
  rw [e2'] at e2
  rw [e3'] at e3
  simp at e0 e2 e3
  exact ⟨⟨b0, ds, b2, b3⟩, by simp [Mut.cells, e0, e2, e3], e1'⟩
theorem rd_mutes (h : Rd Tryz.prog H (f + 4) 23 [v]) : ∃ ms, MutesAt H v ms ∧ ms.length < 2 ^ 63 := by
  obtain ⟨v', l, h1, h2, h3, h4⟩ := h.slice Tryz.underlying23
  cases h1
  rw [ce_mute] at h2
  obtain ⟨ms, q1, q2⟩ := rd_list (R := fun cs (m : Mut) => cs = m.cells ∧ m.days.length = 7) fun x hx => rd_mute (h4 x hx)
  have hl : l = ms.map Mut.cells := by
    refine List.ext_getElem? fun i => ?_
    rw [List.getElem?_map]
    cases hi : ms[i]? with
    | none => rw [List.getElem?_eq_none_iff] at hi; simp; omega
    | some m => obtain ⟨c, c1, c2, _⟩ := q2 i m hi; rw [c1, c2]; rfl
  subst hl
  refine ⟨ms, ⟨h2, fun m hm => ?_⟩, by simpa using max_lt h3⟩
  obtain ⟨i, hi⟩ := List.getElem?_of_mem hm
  obtain ⟨c, _, _, c3⟩ := q2 i m hi
  exact c3
theorem rd_cfg (h : Rd Tryz.prog H (f + 8) 25 cs) : ∃ (c : Cfg) (rv mv : Value), cs = c.cells rv mv ∧ RulesAt H rv c.rules ∧ MutesAt H mv c.mutes := by
  obtain ⟨hl, hp⟩ := h.parts (ps := parts_cfg) (by kernel_rfl)
  rw [ce_cfg] at hl
  obtain ⟨x0, x1, x2, x3, rfl⟩ := len4 hl
  simp only [parts_cfg, List.forall_mem_cons, ce_int, ce_rules, ce_mutes] at hp
  obtain ⟨h0, h1, h2, h3, _⟩ := hp
  obtain ⟨rs, e0, _⟩ := rd_rules h0
  obtain ⟨ms, e1, _⟩ := rd_mutes h1
  obtain ⟨b2, e2, _⟩ := h2.int Tryz.underlying3
  obtain ⟨b3, e3, _⟩ := h3.int Tryz.underlying3
  simp at e2 e3
  exact ⟨⟨rs, ms, b2, b3⟩, x0, x1, by simp [Cfg.cells, e2, e3], e0, e1⟩
theorem rd_cfg1 (h : Rd Tryz.prog H (f + 8) 25 cs) : ∃ x : Cfg × Value × Value, cs = x.1.cells x.2.1 x.2.2 ∧ RulesAt H x.2.1 x.1.rules ∧ MutesAt H x.2.2 x.1.mutes := by
  obtain ⟨c, rv, mv, h1, h2, h3⟩ := rd_cfg h
  exact ⟨⟨c, rv, mv⟩, h1, h2, h3⟩
end
abbrev parts_cfg1 := parts_cfg
end Go.Vi
namespace Go.Vi
open Go Go.Proofs

theorem c_indexByteN (H : AHeap) (l : List UInt8) (b : UInt8) : ACalls Tryz.prog 143 [str l, byt b] H (i64 (Lib.indexByte l b)) H := by
  have := acalls_indexByte (P := Tryz.prog) (H := H) (st := ⟨l.toArray⟩) (c := b.toNat) (f := 143) Tryz.func143 (by decide) (by decide) (by kernel_rfl) (by kernel_rfl)
  simpa using this
theorem c_indexByte (H : AHeap) (l : List UInt8) (b : UInt8) : ACalls Tryz.prog 108 [str l, byt b] H (i64 (Lib.indexByte l b)) H := by
  refine acalls_pure MixT Tryz.func108 (by decide) rfl ?_
  rw [d108]
  refine bndC_of (v := i64 (Lib.indexByte l b)) (H' := H) ?_ ⟨rfl, [], by simp⟩
  refine acalls_pure MixT Tryz.func131 (by decide) rfl ?_
  rw [d131]
  exact bndC_of (c_indexByteN H l b) ⟨rfl, [], by simp⟩
theorem c_lex_letter (H : AHeap) (b : UInt8) : ACalls Tryz.prog 111 [byt b] H (.bool (isLow b)) H := by
  refine acalls_pure MixT Tryz.func111 (by decide) rfl ?_
  rw [d111]
  simp +contextual [isLow]
theorem c_lex_digit (H : AHeap) (b : UInt8) : ACalls Tryz.prog 113 [byt b] H (.bool (isDig b)) H := by
  refine acalls_pure MixT Tryz.func113 (by decide) rfl ?_
  rw [d113]
  simp +contextual [isDig]
theorem c_lex_mark (H : AHeap) (b : UInt8) : ACalls Tryz.prog 112 [byt b] H (.bool (isMark b)) H := by
  refine acalls_pure MixT Tryz.func112 (by decide) rfl ?_
  rw [d112]
  refine bndC_of (c_lex_letter _ _) ?_
  simp
  refine bndG_call (.bool (isDig b)) (fun h => ?_) ?_
  · simp only [h, gsel_ff]; exact c_lex_digit _ _
  simp +contextual [isMark]
theorem c_skip1 (H : AHeap) (b : UInt8) : ACalls Tryz.prog 110 [byt b] H (.bool ((b.toNat : Int) != 10)) H := by
  refine acalls_pure MixT Tryz.func110 (by decide) rfl ?_
  rw [d110]
  simp
/-- How many bytes from a place on are of a sort. -/
def runN (p : UInt8 → Bool) (l : List UInt8) (at' : Nat) : Nat := ((l.drop at').takeWhile p).length
theorem run_loop {l : List UInt8} {g : FuncId} {p : UInt8 → Bool} {H : AHeap} {k : Value → AHeap → Prop} (hp : ∀ b, ACalls Tryz.prog g [byt b] H (.bool (p b)) H) (hl : l.length < 2 ^ 61) (a : Nat) (ha : a ≤ l.length + 1) (w : Nat) (hk : k (i64 w) H) :
    ∀ (r : List UInt8) (n : Nat) (s3 s4 s5 s6 s8 s9 s10 s11 s12 s13 s14 s15 s16 s17 s18 s19 s20 s21 s22 s23 s24 s25 : Value), (l.drop a).drop n = r → a + n ≤ l.length + 1 → w = n + (r.takeWhile p).length →
      L109x0 (r.length + 1) k [str l, i64 a, .func (.func g) #[] #[], s3, s4, s5, s6, i64 n, s8, s9, s10, s11, s12, s13, s14, s15, s16, s17, s18, s19, s20, s21, s22, s23, s24, s25] H := by
  intro r
  induction r with
  | nil =>
    intro n s3 s4 s5 s6 s8 s9 s10 s11 s12 s13 s14 s15 s16 s17 s18 s19 s20 s21 s22 s23 s24 s25 hd hn hw
    have hle : l.length ≤ a + n := by rw [List.drop_drop] at hd; simpa using hd
    rw [List.length_nil, L109x0q]
    have hwr : IntKind.i64.wrap ((a : Int) + n) = ((a + n : Nat) : Int) := by rw [wrap_i64 (by omega) (by omega)]; simp
    have : ¬ ((a : Int) + n < l.length) := by omega
    simp only [aBin_add, hwr, bnd_some]
    simp [this]
    simp at hw
    rw [← hw]; exact hk
  | cons b r ih =>
    intro n s3 s4 s5 s6 s8 s9 s10 s11 s12 s13 s14 s15 s16 s17 s18 s19 s20 s21 s22 s23 s24 s25 hd hn hw
    have hb : l[a + n]? = some b := by rw [List.drop_drop] at hd; rw [← List.head?_drop, hd]; rfl
    have hlt : a + n < l.length := (List.getElem?_eq_some_iff.1 hb).1
    have hwr : IntKind.i64.wrap ((a : Int) + n) = ((a + n : Nat) : Int) := by rw [wrap_i64 (by omega) (by omega)]; simp
    have hix := aIndex_at (P := Tryz.prog) (T := 9) (k := .i64) (by simp) hb
    rw [List.length_cons, L109x0q]
    have hlen : aLen Tryz.prog H 9 (str l) = some (i64 l.length) := by simp
    simp only [aBin_add, hwr, bnd_some, hlen, aBin_lss, Int.ofNat_lt, hlt, decide_true, gif_tt, hix]
    refine bndG_t _ _ (callV_func (by simpa using hp b)) ?_
    simp
    rw [List.takeWhile_cons] at hw
    refine kifB_bool (fun h => ?_) (fun h => ?_)
    · rw [if_pos h] at hw
      simp [show n + 1 < 2 ^ 63 by omega]
      exact ih (n + 1) _ _ _ _ _ _ _ _ _ _ _ _ _ _ _ _ _ _ _ _ _ _ (by rw [← List.drop_drop, hd]; rfl) (by omega) (by simp at hw; omega)
    · rw [if_neg (by simp [h])] at hw
      simp at hw
      rw [← hw]; exact hk
theorem c_run {l : List UInt8} {g : FuncId} {p : UInt8 → Bool} {H : AHeap} {a : Nat} (hp : ∀ b, ACalls Tryz.prog g [byt b] H (.bool (p b)) H) (hl : l.length < 2 ^ 61) (ha : a ≤ l.length + 1) :
    ACalls Tryz.prog 109 [str l, i64 a, .func (.func g) #[] #[]] H (i64 (runN p l a)) H := by
  refine acalls_pure MixT Tryz.func109 (by decide) rfl ?_
  rw [d109]
  exact ⟨_, run_loop (k := Same (i64 (runN p l a)) H) hp hl a ha (runN p l a) ⟨rfl, [], by simp⟩ (l.drop a) 0 _ _ _ _ _ _ _ _ _ _ _ _ _ _ _ _ _ _ _ _ _ _ rfl (by omega) (by simp [runN])⟩
end Go.Vi
namespace Go.Vi
open Go Go.Proofs

def bcells (s : List UInt8) : List Value := s.map byt
abbrev selfP (pb : Nat) : Value := .pointer (some ⟨pb, 0, some 2⟩)
/-- The bytes of a builder (g: it may have room that nothing was written to). -/
inductive Buf (g : Bool) (K : AHeap) (pb : Nat) : Value → List UInt8 → Prop
  | nil : Buf g K pb (.slice none 0 0) []
  | mk (bb n c : Nat) (cs : List Value) (s : List UInt8) (h1 : pb < bb) (h2 : K[bb]? = some (.cells cs 5)) (h3 : cs.length = c) (h4 : n = s.length) (h5 : n ≤ c) (h6 : cs.take n = bcells s) (h7 : g = false → s ≠ []) (h8 : 0 < c) : Buf g K pb (.slice (some ⟨bb, 0, some c⟩) n c) s
def Bld (g : Bool) (K : AHeap) (pb : Nat) (s : List UInt8) : Prop := ∃ ad bv, K[pb]? = some (.cells [ad, bv] 102) ∧ (ad = .pointer none ∨ ad = selfP pb) ∧ Buf g K pb bv s
/-- What lies ahead of the builder stays. -/
def Keeps (pb : Nat) (K K' : AHeap) : Prop := ∀ H, Pre H K → H.length ≤ pb → Pre H K'
theorem Keeps.refl (pb : Nat) (K : AHeap) : Keeps pb K K := fun _ h _ => h
theorem Keeps.trans {pb K K' K''} (h : Keeps pb K K') (k : Keeps pb K' K'') : Keeps pb K K'' := fun H p q => k H (h H p q) q
theorem Keeps.set {pb b : Nat} {K : AHeap} {o : AObj} (h : pb ≤ b) : Keeps pb K (K.set b o) := fun _ p q => p.set (by omega)
theorem Keeps.app {pb : Nat} {K X : AHeap} : Keeps pb K (K ++ X) := fun _ p _ => p.more _
theorem Buf.one {g K pb v s} (h : Buf g K pb v s) : v.oneCell' = true := by cases h <;> rfl
theorem Buf.setPb {g K pb v s} {o : AObj} (h : Buf g K pb v s) : Buf g (K.set pb o) pb v s := by
  cases h with
  | nil => exact .nil
  | mk bb n c cs s h1 h2 h3 h4 h5 h6 h7 h8 => exact .mk bb n c cs s h1 (by rw [List.getElem?_set_ne (by omega)]; exact h2) h3 h4 h5 h6 h7 h8
theorem Buf.app {g K pb v s} {X : AHeap} (h : Buf g K pb v s) : Buf g (K ++ X) pb v s := by
  cases h with
  | nil => exact .nil
  | mk bb n c cs s h1 h2 h3 h4 h5 h6 h7 h8 => exact .mk bb n c cs s h1 (get_more h2) h3 h4 h5 h6 h7 h8
theorem c_noEscape (H : AHeap) (v : Value) : ACalls Tryz.prog 94 [v] H v H :=
  acalls_noEscape Tryz.func94 (by decide) (by decide) (by kernel_rfl) (by kernel_rfl)
theorem c_copyCheck {K : AHeap} {pb : Nat} {ad bv : Value} (h1 : K[pb]? = some (.cells [ad, bv] 102)) (h2 : ad = .pointer none ∨ ad = selfP pb) (_hone : bv.oneCell' = true) :
    ACalls Tryz.prog 75 [selfP pb] K (.tuple #[]) (K.set pb (.cells [selfP pb, bv] 102)) := by
  refine acalls_of MixT Tryz.func75 (by decide) ?_
  rw [d75]
  have hh : hcells K pb = some [ad, bv] := by simp [hcells, h1]
  have hl : hlen K pb = some 2 := by rw [hcells_len hh]; rfl
  have hlt : pb < K.length := (List.getElem?_eq_some_iff.1 h1).1
  rcases h2 with rfl | rfl
  · simp [nilV, aIsPtr, hh, hl, aBin_nilptr (P := Tryz.prog) (T := 100) (e := 102) (by simp)]
    have hcv : convV Tryz.prog K 100 151 (selfP pb) = some (selfP pb) := by simp [convV, aConv, aPtrConv, h1]
    have hcv2 : convV Tryz.prog K 151 100 (selfP pb) = some (selfP pb) := by
      have : Tryz.prog.cellsOf 102 = 2 := by kernel_rfl
      simp [convV, aConv, aPtrConv, h1, this]
    simp only [hcv, bnd_some]
    refine bndC_of (c_noEscape _ _) ?_
    simp only [hcv2, bnd_some]
    simp [nilV, aIsPtr, hl, h1]
  · simp [nilV, aIsPtr, hh, hl, aBin_ptrnil (P := Tryz.prog) (T := 100) (e := 102) (by simp)]
    have := aBin_ptrne (P := Tryz.prog) (H := K) (T := 100) (x := Operand.tmp 17) (y := Operand.tmp 18) (e := 102) (b := pb) (o := 0) (m := 2) (z := 1) (by simp) (by simp) hl
    simp [this]
    exact (set_same h1).symm

theorem Buf.len {g K pb v s} (h : Buf g K pb v s) (J : AHeap) : aLen Tryz.prog J 47 v = some (i64 s.length) := by
  cases h with
  | nil => simp
  | mk bb n c cs s h1 h2 h3 h4 => subst h4; simp
/-- A buffer that bytes are added to. -/
theorem Buf.add {g : Bool} {K : AHeap} {pb : Nat} {v : Value} {s ys : List UInt8} {t2 : TypeId} {x : Value} (h : Buf g K pb v s) (hpb : pb < K.length) (hx : aSrc K 1 x = some (ys.length, bcells ys)) (ht : isSeq Tryz.prog t2 = true) (hne : ys ≠ []) (hlen : s.length + ys.length ≤ 2 ^ 46) :
    ∃ v' K', aBuiltin Tryz.prog K .append #[47, t2] [v, x] = some (v', K') ∧ Buf false K' pb v' (s ++ ys) ∧ Keeps pb K K' ∧ K'[pb]? = K[pb]? := by
  have hy : ys.length ≠ 0 := by simpa using hne
  cases h with
  | nil =>
    refine ⟨.slice (some ⟨K.length, 0, some ys.length⟩) ys.length ys.length, K ++ [.cells (bcells ys) 5], ?_, ?_, .app, by rw [List.getElem?_append_left hpb]⟩
    · have : ys.length ≤ 140737488355328 := by simp at hlen; omega
      have h2 : ys.length ≤ 9223372036854775807 := by omega
      simp [aBuiltin, aAppend, hx, ht, hne, this, h2, bcells]
    · refine .mk K.length ys.length ys.length (bcells ys) ys hpb (by simp) (by simp [bcells]) rfl (Nat.le_refl _) (by rw [List.take_of_length_le (by simp [bcells])]) (fun _ => hne) (by omega)
  | mk bb n c cs s h1 h2 h3 h4 h5 h6 h7 h8 =>
    subst h4
    by_cases hfit : s.length + ys.length ≤ c
    · refine ⟨.slice (some ⟨bb, 0, some c⟩) (s.length + ys.length) c, K.set bb (.cells (putCells cs (0 + s.length * 1) (bcells ys)) 5), ?_, ?_, .set (by omega), by rw [List.getElem?_set_ne (by omega)]⟩
      · simp [aBuiltin, aAppend, hx, ht, h2, h3, h5, hfit]
      · have hlt := (List.getElem?_eq_some_iff.1 h2).1
        have e : putCells cs (0 + s.length * 1) (bcells ys) = cs.take s.length ++ bcells ys ++ cs.drop (s.length + ys.length) := by
          rw [putCells_eq _ _ _ (by simp [bcells]; omega)]
          simp [bcells]
        rw [e]
        refine .mk bb (s.length + ys.length) c _ (s ++ ys) h1 (List.getElem?_set_self hlt) (by simp [bcells]; omega) (by simp) hfit ?_ (fun _ => by simp [hne]) h8
        rw [h6, List.take_append_of_le_length (by simp [bcells]), List.take_of_length_le (by simp [bcells])]
        simp [bcells]
    · refine ⟨.slice (some ⟨bb, 0, some ((s.length + ys.length) * 1)⟩) (s.length + ys.length) (s.length + ys.length), K.set bb (.cells (cs.take (s.length * 1) ++ bcells ys) 5), ?_, ?_, .set (by omega), by rw [List.getElem?_set_ne (by omega)]⟩
      · have q : (s.length + ys.length) * 1 ≤ 140737488355328 := by simp at hlen; omega
        have q2 : s.length + ys.length ≤ 9223372036854775807 := by omega
        simp at q
        simp [aBuiltin, aAppend, hx, ht, h2, h3, h5, hfit, q, q2]
      · have hlt := (List.getElem?_eq_some_iff.1 h2).1
        simp only [Nat.mul_one]
        refine .mk bb (s.length + ys.length) _ _ (s ++ ys) h1 (List.getElem?_set_self hlt) (by simp [bcells]; omega) (by simp) (Nat.le_refl _) ?_ (fun _ => by simp [hne]) (by omega)
        rw [List.take_of_length_le (by simp [bcells]; omega), h6]
        simp [bcells]
theorem c_writeByte {g : Bool} {K : AHeap} {pb : Nat} {s : List UInt8} {b : UInt8} (hb : Bld g K pb s) (hsl : s.length < 2 ^ 46) :
    ∃ v K', (v = .nilIface ∧ Bld false K' pb (s ++ [b]) ∧ Keeps pb K K') ∧ ACalls Tryz.prog 103 [selfP pb, byt b] K v K' := by
  refine acalls_ex MixT Tryz.func103 (by decide) ?_
  rw [d103]
  obtain ⟨ad, bv, h1, h2, h3⟩ := hb
  refine bndC_of (c_copyCheck h1 h2 h3.one) ?_
  have hlt : pb < K.length := (List.getElem?_eq_some_iff.1 h1).1
  generalize hK : K.set pb (.cells [selfP pb, bv] 102) = K1
  have g1 : K1[pb]? = some (.cells [selfP pb, bv] 102) := by rw [← hK]; exact get_set h1
  have g3 : Buf g K1 pb bv s := by rw [← hK]; exact h3.setPb
  have hk1 : Keeps pb K K1 := by rw [← hK]; exact .set (Nat.le_refl _)
  have hlt1 : pb < K1.length := (List.getElem?_eq_some_iff.1 g1).1
  have hh : hcells K1 pb = some [selfP pb, bv] := by simp [hcells, g1]
  have hl : hlen K1 pb = some 2 := by rw [hcells_len hh]; rfl
  simp [nilV, aIsPtr, hh, hl]
  have hlit := sliceLit1 (P := Tryz.prog) (H := K1) (T := 47) (e := 5) (zv := .int .u8 0) (n := 1) (l := [byt b]) (by simp) (by simp) rfl (by simp)
  refine bndL_lit hlit ?_
  obtain ⟨v', K', q1, q2, q3, q4⟩ := (g3.app (X := [.cells [byt b] 5])).add (t2 := 47) (x := .slice (some ⟨K1.length, 0, some 1⟩) 1 1) (ys := [b]) (by simp; omega) (by simp [aSrc, bcells]) (by simp [isSeq]) (by simp) (by simp; omega)
  simp only [q1, bndE_some]
  have g4 : K'[pb]? = some (.cells [selfP pb, bv] 102) := by rw [q4]; exact get_more g1
  have hl2 : hlen K' pb = some 2 := by simp [hlen, g4]
  simp [nilV, aIsPtr, hl2, g4, q2.one, cells_one, stor_one]
  refine ⟨⟨selfP pb, v', by rw [List.getElem?_set_self (List.getElem?_eq_some_iff.1 g4).1], .inr rfl, q2.setPb⟩, ?_⟩
  exact hk1.trans (Keeps.app.trans (q3.trans (.set (Nat.le_refl _))))

theorem u8l_bcells (s : List UInt8) : u8l (bcells s) = some s := u8l_map s
theorem c_bstring {K : AHeap} {pb : Nat} {s : List UInt8} (hb : Bld false K pb s) (hsl : s.length < 2 ^ 47) :
    ∃ v K', (v = str s ∧ Keeps pb K K') ∧ ACalls Tryz.prog 58 [selfP pb] K v K' := by
  refine acalls_ex MixT Tryz.func58 (by decide) ?_
  rw [d58]
  obtain ⟨ad, bv, h1, h2, h3⟩ := hb
  have hh : hcells K pb = some [ad, bv] := by simp [hcells, h1]
  have hl : hlen K pb = some 2 := by rw [hcells_len hh]; rfl
  simp [nilV, aIsPtr, hh, hl]
  cases h3 with
  | nil =>
    refine bndD_same (v := .pointer none) (by simp [aBuiltin, aSliceData]) ?_
    simp [nilV, aIsPtr, hh, hl]
    refine bndD_of (v := .string .empty) (H' := K) (by simp [aBuiltin, aUnsafeString]) (.inl rfl) ?_
    exact ⟨rfl, .refl _ _⟩
  | mk bb n c cs s q1 q2 q3 q4 q5 q6 q7 q8 =>
    have hl2 : hlen K bb = some c := by simp [hlen, q2, AObj.len, q3]
    refine bndD_same (v := .pointer (some ⟨bb, 0, some c⟩)) (by simp [aBuiltin, aSliceData, q8, hl2]) ?_
    simp [nilV, aIsPtr, hh, hl]
    have hne := q7 rfl
    have hn : 0 < n := by rw [q4]; exact List.length_pos_iff.2 hne
    have hce : Tryz.prog.cellsOf 5 = 1 := by kernel_rfl
    have hu : u8l (cs.take n) = some s := by rw [q6]; exact u8l_bcells s
    refine bndD_of (v := str s) (H' := K.set bb (.ro cs)) ?_ (.inl rfl) ?_
    · have e1 : (n : Int) ≤ (c : Int) := by omega
      have e2 : (n : Int) ≤ 9223372036854775807 := by omega
      simp [aBuiltin, aUnsafeString, q2, q3, hce, hn, e1, e2, hu]
    · exact ⟨rfl, .set (by omega)⟩
theorem c_writeString {g : Bool} {K : AHeap} {pb : Nat} {s ys : List UInt8} (hb : Bld g K pb s) (hlm : s.length + ys.length ≤ 2 ^ 46) :
    ∃ v K', (v = .tuple #[i64 ys.length, .nilIface] ∧ Bld (g && decide (ys = [])) K' pb (s ++ ys) ∧ Keeps pb K K') ∧ ACalls Tryz.prog 57 [selfP pb, str ys] K v K' := by
  refine acalls_ex MixT Tryz.func57 (by decide) ?_
  rw [d57]
  obtain ⟨ad, bv, h1, h2, h3⟩ := hb
  refine bndC_of (c_copyCheck h1 h2 h3.one) ?_
  have hlt : pb < K.length := (List.getElem?_eq_some_iff.1 h1).1
  generalize hK : K.set pb (.cells [selfP pb, bv] 102) = K1
  have g1 : K1[pb]? = some (.cells [selfP pb, bv] 102) := by rw [← hK]; exact get_set h1
  have g3 : Buf g K1 pb bv s := by rw [← hK]; exact h3.setPb
  have hk1 : Keeps pb K K1 := by rw [← hK]; exact .set (Nat.le_refl _)
  have hlt1 : pb < K1.length := (List.getElem?_eq_some_iff.1 g1).1
  have hh : hcells K1 pb = some [selfP pb, bv] := by simp [hcells, g1]
  have hl : hlen K1 pb = some 2 := by rw [hcells_len hh]; rfl
  simp [nilV, aIsPtr, hh, hl]
  by_cases hne : ys = []
  · subst hne
    have happ : aBuiltin Tryz.prog K1 .append #[47, 9] [bv, str []] = some (bv, K1) := by
      cases g3 with
      | nil => simp [aBuiltin, aAppend, aSrc, isSeq, bytesL]
      | mk bb n c cs s p1 p2 p3 p4 p5 p6 p7 p8 =>
        simp [aBuiltin, aAppend, aSrc, isSeq, bytesL, p2, p3, p5]
        rw [putCells_eq _ _ _ (by simp; omega)]
        simp
        exact set_same p2
    simp only [happ, bndE_some]
    simp [nilV, aIsPtr, hl, g1, g3.one, cells_one, stor_one]
    exact ⟨⟨selfP pb, bv, by rw [List.getElem?_set_self hlt1], .inr rfl, g3.setPb⟩, hk1.trans (.set (Nat.le_refl _))⟩
  · obtain ⟨v', K', q1, q2, q3, q4⟩ := g3.add (t2 := 9) (x := str ys) (ys := ys) hlt1 (by simp [aSrc, bcells, bytesL]) (by simp [isSeq]) hne hlm
    simp only [q1, bndE_some]
    have g4 : K'[pb]? = some (.cells [selfP pb, bv] 102) := by rw [q4]; exact g1
    have hl2 : hlen K' pb = some 2 := by simp [hlen, g4]
    simp [nilV, aIsPtr, hl2, g4, q2.one, cells_one, stor_one, hne]
    exact ⟨⟨selfP pb, v', by rw [List.getElem?_set_self (List.getElem?_eq_some_iff.1 g4).1], .inr rfl, q2.setPb⟩, hk1.trans (q3.trans (.set (Nat.le_refl _)))⟩
end Go.Vi
namespace Go.Vi
open Go Go.Proofs

/-- What stands in quotes behind the first quote, and how many bytes it has with them (0: it is none). -/
def textF : List UInt8 → List UInt8 → Nat → List UInt8 × Nat
  | [], _, _ => ([], 0)
  | b :: r, acc, c => if isSign b = true then
      (if ((b.toNat : Int) == 34) = true then (acc, c + 1)
       else if ((b.toNat : Int) == 92) = true then match r with
        | e :: r' => if ((e.toNat : Int) == 34 || (e.toNat : Int) == 92) = true then textF r' (acc ++ [e]) (c + 2) else ([], 0)
        | [] => ([], 0)
       else textF r (acc ++ [b]) (c + 1))
    else ([], 0)
theorem textF_cons (b : UInt8) (r acc : List UInt8) (c : Nat) : textF (b :: r) acc c = if isSign b = true then
      (if ((b.toNat : Int) == 34) = true then (acc, c + 1)
       else if ((b.toNat : Int) == 92) = true then match r with
        | e :: r' => if ((e.toNat : Int) == 34 || (e.toNat : Int) == 92) = true then textF r' (acc ++ [e]) (c + 2) else ([], 0)
        | [] => ([], 0)
       else textF r (acc ++ [b]) (c + 1))
    else ([], 0) := by rw [textF.eq_def]
theorem text_loop {l : List UInt8} {H : AHeap} {a : Nat} {k : Value → AHeap → Prop} (hl : l.length < 2 ^ 40) (w : List UInt8 × Nat) (hk : ∀ K, Pre H K → k (.tuple #[str w.1, i64 w.2]) K) :
    ∀ (f : Nat) (r : List UInt8) (i c : Nat) (acc : List UInt8) (K : AHeap) (s2 s3 s4 s5 s8 s9 s10 s11 s12 s13 s14 s15 s16 s17 s18 s19 s20 s21 s22 s23 s24 s25 s26 s27 s28 s29 s30 s31 s32 s33 s34 s35 s36 s37 s38 s39 s40 s41 s42 s43 s44 s45 s46 s47 s48 s49 s50 s51 s52 s53 s54 s55 s56 s57 s58 s59 s60 s61 s62 s63 s64 s65 s66 s67 s68 s69 s70 s71 s72 s73 s74 : Value), r.length ≤ f → l.drop i = r → i = a + c → i ≤ l.length → acc.length ≤ i → Pre H K → Bld false K H.length acc → w = textF r acc c →
      L114x0 (f + 1) k [str l, i64 a, s2, s3, s4, s5, selfP H.length, i64 i, s8, s9, s10, s11, s12, s13, s14, s15, s16, s17, s18, s19, s20, s21, s22, s23, s24, s25, s26, s27, s28, s29, s30, s31, s32, s33, s34, s35, s36, s37, s38, s39, s40, s41, s42, s43, s44, s45, s46, s47, s48, s49, s50, s51, s52, s53, s54, s55, s56, s57, s58, s59, s60, s61, s62, s63, s64, s65, s66, s67, s68, s69, s70, s71, s72, s73, s74] K := by
  intro f
  induction f with
  | zero =>
    intro r i c acc K s2 s3 s4 s5 s8 s9 s10 s11 s12 s13 s14 s15 s16 s17 s18 s19 s20 s21 s22 s23 s24 s25 s26 s27 s28 s29 s30 s31 s32 s33 s34 s35 s36 s37 s38 s39 s40 s41 s42 s43 s44 s45 s46 s47 s48 s49 s50 s51 s52 s53 s54 s55 s56 s57 s58 s59 s60 s61 s62 s63 s64 s65 s66 s67 s68 s69 s70 s71 s72 s73 s74 hf hd hi hle hac hp hb hw
    have hr : r = [] := List.eq_nil_of_length_eq_zero (by omega)
    subst hr
    have hle : l.length ≤ i := by simpa using hd
    rw [L114x0q]
    have : ¬ (i < l.length) := by omega
    simp [this]
    rw [hw] at hk
    exact hk K hp
  | succ f ih =>
    intro r i c acc K s2 s3 s4 s5 s8 s9 s10 s11 s12 s13 s14 s15 s16 s17 s18 s19 s20 s21 s22 s23 s24 s25 s26 s27 s28 s29 s30 s31 s32 s33 s34 s35 s36 s37 s38 s39 s40 s41 s42 s43 s44 s45 s46 s47 s48 s49 s50 s51 s52 s53 s54 s55 s56 s57 s58 s59 s60 s61 s62 s63 s64 s65 s66 s67 s68 s69 s70 s71 s72 s73 s74 hf hd hi hle hac hp hb hw
    cases r with
    | nil =>
      have hle : l.length ≤ i := by simpa using hd
      rw [L114x0q]
      have : ¬ (i < l.length) := by omega
      simp [this]
      rw [hw] at hk
      exact hk K hp
    | cons b r =>
      have hbx : l[i]? = some b := by rw [← List.head?_drop, hd]; rfl
      have hlt : i < l.length := (List.getElem?_eq_some_iff.1 hbx).1
      have hix := aIndex_at (P := Tryz.prog) (T := 9) (k := .i64) (by simp) hbx
      have hwr : IntKind.i64.wrap ((i : Int) + 1) = ((i + 1 : Nat) : Int) := wrap_succ (by omega)
      have hd1 : l.drop (i + 1) = r := by rw [← List.drop_drop, hd]; rfl
      have tail : ∀ (i2 c2 : Nat) (ch : UInt8) (r2 : List UInt8) (s2 s3 s4 s5 s8 s9 s10 s11 s12 s13 s14 s15 s16 s17 s18 s19 s20 s21 s22 s23 s24 s25 s26 s27 s28 s29 s30 s31 s32 s33 s34 s35 s36 s37 s38 s39 s40 s41 s42 s43 s44 s45 s46 s47 s48 s49 s50 s51 s52 s53 s54 s55 s56 s57 s58 s59 s60 s61 s62 s63 s64 s65 s66 s67 s68 s69 s70 s71 s72 s73 s74 : Value), l[i2]? = some ch → l.drop (i2 + 1) = r2 → i2 + 1 = a + c2 → r2.length ≤ f → i ≤ i2 → w = textF r2 (acc ++ [ch]) c2 →
          S114x0 (f + 1) k [str l, i64 a, s2, s3, s4, s5, selfP H.length, i64 i2, s8, s9, s10, s11, s12, s13, s14, s15, s16, s17, s18, s19, s20, s21, s22, s23, s24, s25, s26, s27, s28, s29, s30, s31, s32, s33, s34, s35, s36, s37, s38, s39, s40, s41, s42, s43, s44, s45, s46, s47, s48, s49, s50, s51, s52, s53, s54, s55, s56, s57, s58, s59, s60, s61, s62, s63, s64, s65, s66, s67, s68, s69, s70, s71, s72, s73, s74] K := by
        intro i2 c2 ch r2 s2 s3 s4 s5 s8 s9 s10 s11 s12 s13 s14 s15 s16 s17 s18 s19 s20 s21 s22 s23 s24 s25 s26 s27 s28 s29 s30 s31 s32 s33 s34 s35 s36 s37 s38 s39 s40 s41 s42 s43 s44 s45 s46 s47 s48 s49 s50 s51 s52 s53 s54 s55 s56 s57 s58 s59 s60 s61 s62 s63 s64 s65 s66 s67 s68 s69 s70 s71 s72 s73 s74 e1 e2 e3 e4 e5 e6
        have hlt2 : i2 < l.length := (List.getElem?_eq_some_iff.1 e1).1
        have hix2 := aIndex_at (P := Tryz.prog) (T := 9) (k := .i64) (by simp) e1
        rw [S114x0q]
        obtain ⟨_, K', ⟨rfl, hb', hkp⟩, hc⟩ := c_writeByte (b := ch) hb (by omega)
        simp only [hix2, bnd_some]
        refine bndC_of hc ?_
        simp only [aBin_add, wrap_succ (show i2 + 1 < 2 ^ 63 by omega), bnd_some]
        exact ih r2 (i2 + 1) c2 (acc ++ [ch]) K' _ _ _ _ _ _ _ _ _ _ _ _ _ _ _ _ _ _ _ _ _ _ _ _ _ _ _ _ _ _ _ _ _ _ _ _ _ _ _ _ _ _ _ _ _ _ _ _ _ _ _ _ _ _ _ _ _ _ _ _ _ _ _ _ _ _ _ _ _ _ _ e4 e2 e3 hlt2 (by simp; omega) (hkp H hp (Nat.le_refl _)) hb' e6
      rw [L114x0q]
      rw [textF_cons] at hw
      simp +contextual [hlt, hix]
      refine kifB_bool (fun hs => ?_) (fun hs => ?_)
      case refine_2 =>
        rw [if_neg (by simpa [isSign] using hs)] at hw
        rw [hw] at hk
        simp
        exact hk K hp
      rw [if_pos (show isSign b = true by simpa [isSign] using hs)] at hw
      simp [hix]
      refine kifB_bool (fun hq => ?_) (fun hq => ?_)
      · rw [if_pos hq] at hw
        obtain ⟨_, K', ⟨rfl, hkp⟩, hc⟩ := c_bstring hb (by omega)
        refine bndC_of hc ?_
        have hsub : IntKind.i64.wrap (((i + 1 : Nat) : Int) - a) = ((c + 1 : Nat) : Int) := by rw [wrap_i64 (by omega) (by omega)]; omega
        simp only [aBin_add, hwr, bnd_some, aBin_sub, hsub]
        rw [hw] at hk
        exact hk K' (hkp H hp (Nat.le_refl _))
      rw [if_neg (by simp [hq])] at hw
      cases r with
      | nil =>
        have hle1 : ¬ (i + 1 < l.length) := by have : l.length ≤ i + 1 := by simpa using hd1
                                               omega
        have hle1I : ¬ ((i : Int) + 1 < l.length) := by omega
        cases h9 : ((b.toNat : Int) == 92) with
        | true =>
          rw [h9, if_pos rfl] at hw
          rw [hw] at hk
          simp [hix, h9, hwr, hle1I]
          exact hk K hp
        | false =>
          rw [h9, if_neg (by simp)] at hw
          simp [hix, h9]
          exact tail i (c + 1) b [] _ _ _ _ _ _ _ _ _ _ _ _ _ _ _ _ _ _ _ _ _ _ _ _ _ _ _ _ _ _ _ _ _ _ _ _ _ _ _ _ _ _ _ _ _ _ _ _ _ _ _ _ _ _ _ _ _ _ _ _ _ _ _ _ _ _ _ _ _ _ _ hbx hd1 (by omega) (by simp) (Nat.le_refl _) hw
      | cons e r =>
        have hex : l[i + 1]? = some e := by rw [← List.head?_drop, hd1]; rfl
        have hlt1 : i + 1 < l.length := (List.getElem?_eq_some_iff.1 hex).1
        have hlt1I : (i : Int) + 1 < l.length := by omega
        have hie := aIndex_at (P := Tryz.prog) (T := 9) (k := .i64) (by simp) hex
        simp only [Int.natCast_add, Int.cast_ofNat_Int] at hie hwr
        cases h9 : ((b.toNat : Int) == 92) with
        | true =>
          rw [h9, if_pos rfl] at hw
          dsimp only at hw
          simp +contextual [hix, h9, hwr, hlt1I, hie]
          refine kifB_bool (fun he => ?_) (fun he => ?_)
          · rw [if_pos (by simpa using he)] at hw
            simp [hwr]
            have hcast : (i : Int) + 1 = ((i + 1 : Nat) : Int) := by omega
            rw [hcast]
            exact tail (i + 1) (c + 2) e r _ _ _ _ _ _ _ _ _ _ _ _ _ _ _ _ _ _ _ _ _ _ _ _ _ _ _ _ _ _ _ _ _ _ _ _ _ _ _ _ _ _ _ _ _ _ _ _ _ _ _ _ _ _ _ _ _ _ _ _ _ _ _ _ _ _ _ _ _ _ _ hex (by rw [← List.drop_drop, hd1]; rfl) (by omega) (by simp at hf; omega) (by omega) hw
          · rw [if_neg (by simpa using he)] at hw
            rw [hw] at hk
            simp [hix, h9]
            exact hk K hp
        | false =>
          rw [h9, if_neg (by simp)] at hw
          simp [hix, h9]
          exact tail i (c + 1) b (e :: r) _ _ _ _ _ _ _ _ _ _ _ _ _ _ _ _ _ _ _ _ _ _ _ _ _ _ _ _ _ _ _ _ _ _ _ _ _ _ _ _ _ _ _ _ _ _ _ _ _ _ _ _ _ _ _ _ _ _ _ _ _ _ _ _ _ _ _ _ _ _ _ hbx hd1 (by omega) (by simp at hf ⊢; omega) (Nat.le_refl _) hw

theorem textF_len : ∀ (f : Nat) (r acc : List UInt8) (c : Nat), r.length ≤ f → (textF r acc c).2 ≤ c + r.length := by
  intro f
  induction f with
  | zero => intro r acc c h; have : r = [] := List.eq_nil_of_length_eq_zero (by omega); subst this; simp [textF]
  | succ f ih =>
    intro r acc c h
    cases r with
    | nil => simp [textF]
    | cons b r =>
      rw [textF_cons]
      simp at h
      split
      · split
        · simp <;> omega
        · split
          · cases r with
            | nil => simp
            | cons e r =>
              simp only
              split
              · have := ih r (acc ++ [e]) (c + 2) (by simp at h; omega); simp; omega
              · simp
          · have := ih r (acc ++ [b]) (c + 1) (by omega); simp; omega
      · simp
theorem c_text {H : AHeap} {l : List UInt8} {a : Nat} (hl : l.length < 2 ^ 40) (ha : a < l.length) :
    ACalls Tryz.prog 114 [str l, i64 a] H (.tuple #[str (textF (l.drop (a + 1)) [] 1).1, i64 (textF (l.drop (a + 1)) [] 1).2]) H := by
  refine acallsT_pure MixT Tryz.func114 (by decide) rfl ?_
  rw [d114]
  simp [show a + 1 < 2 ^ 63 by omega]
  have hcast : (a : Int) + 1 = ((a + 1 : Nat) : Int) := by omega
  rw [hcast]
  refine ⟨l.length + 1, text_loop hl _ (fun K p => ⟨rfl, p⟩) l.length (l.drop (a + 1)) (a + 1) 1 [] _ _ _ _ _ _ _ _ _ _ _ _ _ _ _ _ _ _ _ _ _ _ _ _ _ _ _ _ _ _ _ _ _ _ _ _ _ _ _ _ _ _ _ _ _ _ _ _ _ _ _ _ _ _ _ _ _ _ _ _ _ _ _ _ _ _ _ _ _ _ _ _ (by simp) rfl rfl (by omega) (by simp) (.app _ _) ⟨.pointer none, .slice none 0 0, by simp, .inl rfl, .nil⟩ rfl⟩
def sigs1 : List UInt8 := [60, 62, 61, 33, 94]
def sigs2 : List UInt8 := [123, 125, 40, 41, 91, 93, 44, 58, 59, 61, 60, 62, 45]
def hasB (l : List UInt8) (b : UInt8) : Bool := decide (Lib.indexByte l b ≥ 0)
/-- How many bytes a sign has. -/
def signF : List UInt8 → Nat
  | [] => 0
  | b :: r => if ((r[0]?).any (fun e => (e.toNat : Int) == 61) && hasB sigs1 b) = true then 2 else if hasB sigs2 b = true then 1 else 0
theorem c_sign {H : AHeap} {l : List UInt8} {a : Nat} (hl : l.length < 2 ^ 40) (ha : a < l.length) : ACalls Tryz.prog 115 [str l, i64 a] H (i64 (signF (l.drop a))) H := by
  refine acalls_pure MixT Tryz.func115 (by decide) rfl ?_
  rw [d115]
  obtain ⟨b, r, hbr⟩ : ∃ b r, l.drop a = b :: r := by
    cases h : l.drop a with
    | nil => simp at h; omega
    | cons b r => exact ⟨b, r, rfl⟩
  have hb : l[a]? = some b := by rw [← List.head?_drop, hbr]; rfl
  have hix := aIndex_at (P := Tryz.prog) (T := 9) (k := .i64) (by simp) hb
  have hd1 : l.drop (a + 1) = r := by rw [← List.drop_drop, hbr]; rfl
  have hwr : IntKind.i64.wrap ((a : Int) + 1) = (a : Int) + 1 := wrap_i64 (by omega) (by omega)
  rw [hbr]
  cases r with
  | nil =>
    have hle : l.length ≤ a + 1 := by simpa using hd1
    have : ¬ ((a : Int) + 1 < l.length) := by omega
    simp [hwr, this, hix]
    refine bndC_of (c_indexByte _ _ _) ?_
    simp
    refine kifB_bool (fun h => ?_) (fun h => ?_)
    · have h3 : hasB sigs2 b = true := by simpa [hasB, sigs2] using h
      have : signF [b] = 1 := by simp only [signF, List.getElem?_nil, Option.any_none, h3]; simp
      simp [this]
    · have h3 : hasB sigs2 b = false := by simpa [hasB, sigs2] using h
      have : signF [b] = 0 := by simp only [signF, List.getElem?_nil, Option.any_none, h3]; simp
      simp [this]
  | cons e r =>
    have he : l[a + 1]? = some e := by rw [← List.head?_drop, hd1]; rfl
    have hie := aIndex_at (P := Tryz.prog) (T := 9) (k := .i64) (by simp) he
    have hlt : a + 1 < l.length := (List.getElem?_eq_some_iff.1 he).1
    have hltI : (a : Int) + 1 < l.length := by omega
    simp only [Int.natCast_add, Int.cast_ofNat_Int] at hie
    simp +contextual [hwr, hltI, hix, hie]
    refine bndG_call (i64 (Lib.indexByte [60, 62, 61, 33, 94] b)) (fun h => ?_) ?_
    · simp only [h, gsel_tt]; exact c_indexByte _ _ _
    simp +contextual
    refine kifB_bool (fun h => ?_) (fun h => ?_)
    · have h' : ((e.toNat : Int) == 61 && hasB sigs1 b) = true := by simpa [hasB, sigs1] using h
      have : signF (b :: e :: r) = 2 := by simp only [signF, List.getElem?_cons_zero, Option.any_some, h']; simp
      simp [this]
    · simp [hix]
      refine bndC_of (c_indexByte _ _ _) ?_
      simp
      have h' : ((e.toNat : Int) == 61 && hasB sigs1 b) = false := by simpa [hasB, sigs1] using h
      refine kifB_bool (fun h2 => ?_) (fun h2 => ?_)
      · have : signF (b :: e :: r) = 1 := by
          have h3 : hasB sigs2 b = true := by simpa [hasB, sigs2] using h2
          simp only [signF, List.getElem?_cons_zero, Option.any_some, h', h3]; simp
        simp [this]
      · have : signF (b :: e :: r) = 0 := by
          have h3 : hasB sigs2 b = false := by simpa [hasB, sigs2] using h2
          simp only [signF, List.getElem?_cons_zero, Option.any_some, h', h3]; simp
        simp [this]
end Go.Vi
namespace Go.Vi
open Go Go.Proofs

structure Tok where
  kind : Int
  text : List UInt8
  at' : Int
def Tok.cells (t : Tok) : List Value := [.int .u8 t.kind, str t.text, i64 t.at']
def runF (p : UInt8 → Bool) (s : List UInt8) : Nat := (s.takeWhile p).length
def numLen (s : List UInt8) : Nat :=
  if ((s[runF isDig s]?).any (fun e => (e.toNat : Int) == 46) && decide (runF isDig (s.drop (runF isDig s + 1)) > 0)) = true then runF isDig s + (1 + runF isDig (s.drop (runF isDig s + 1))) else runF isDig s
/-- The token at the head of a text that begins at a place, and how many bytes it has. -/
def oneF (s : List UInt8) (a : Nat) : Tok × Nat := match s with
  | [] => (⟨0, [], a⟩, 0)
  | b :: r => if isLow b = true then (⟨1, s.take (runF isMark s), a⟩, runF isMark s)
    else if isDig b = true then (⟨2, s.take (numLen s), a⟩, numLen s)
    else if ((b.toNat : Int) == 34) = true then (⟨3, (textF r [] 1).1, a⟩, (textF r [] 1).2)
    else (⟨4, s.take (signF s), a⟩, signF s)
theorem runN_eq (p : UInt8 → Bool) (l : List UInt8) (a : Nat) : runN p l a = runF p (l.drop a) := rfl
theorem runF_le (p : UInt8 → Bool) (s : List UInt8) : runF p s ≤ s.length := by
  unfold runF; exact List.IsPrefix.length_le (List.takeWhile_prefix p)
theorem numLen_le (s : List UInt8) : numLen s ≤ s.length := by
  unfold numLen
  have h1 := runF_le isDig s
  have h2 := runF_le isDig (s.drop (runF isDig s + 1))
  rw [List.length_drop] at h2
  split
  · rename_i h
    simp only [Bool.and_eq_true, Option.any_eq_true] at h
    obtain ⟨⟨e, he, _⟩, _⟩ := h
    have := (List.getElem?_eq_some_iff.1 he).1
    omega
  · exact h1
theorem signF_le (s : List UInt8) : signF s ≤ s.length := by
  cases s with
  | nil => simp [signF]
  | cons b r =>
    simp only [signF]
    split
    · rename_i h
      simp only [Bool.and_eq_true, Option.any_eq_true] at h
      obtain ⟨⟨e, he, _⟩, _⟩ := h
      have := (List.getElem?_eq_some_iff.1 he).1
      simp; omega
    · split <;> simp
theorem one_tail {H : AHeap} {l : List UInt8} {a n : Nat} {kd : Int} {old : Value} {k : Value → AHeap → Prop} (hl : l.length < 2 ^ 40) (ha : a + n ≤ l.length) (_ho : old.oneCell' = true)
    (hk : ∀ K, Pre H K → k (.tuple #[.agg (⟨kd, (l.drop a).take n, a⟩ : Tok).cells.toArray, i64 n]) K) (X : AHeap) (c0 c1 c2 : Value) (s2 s3 s5 s8 s9 s10 s11 s12 s13 s14 s15 s16 s17 s18 s19 s20 s21 s22 s23 s24 s25 s26 s27 s28 s29 s30 s31 s32 s33 s34 s35 s36 s37 s38 s39 s40 s41 s42 s43 s44 s45 s46 s47 s48 s49 s50 s51 s52 s53 s54 s55 s56 s57 s58 s59 s60 s61 s62 s63 s64 s65 s66 s67 s68 s69 s70 s71 s72 s73 s74 s75 s76 s77 s78 s79 s80 s81 s82 s83 s84 : Value) :
    S87x0 k [str l, i64 a, s2, s3, .pointer (some ⟨H.length, 0, some 3⟩), s5, .pointer (some ⟨H.length + 1, 0, some 3⟩), i64 n, s8, s9, s10, s11, s12, s13, s14, s15, s16, s17, s18, s19, s20, s21, s22, s23, s24, s25, s26, s27, s28, s29, s30, s31, s32, s33, s34, s35, s36, s37, s38, s39, s40, s41, s42, s43, s44, s45, s46, s47, s48, s49, s50, s51, s52, s53, s54, s55, s56, s57, s58, s59, s60, s61, s62, s63, s64, s65, s66, s67, s68, s69, s70, s71, s72, s73, s74, s75, s76, s77, s78, s79, s80, s81, s82, s83, s84] (H ++ .cells [c0, c1, c2] 121 :: .cells [.int .u8 kd, old, i64 a] 121 :: X) := by
  rw [S87x0q]
  have hwr : IntKind.i64.wrap ((a : Int) + n) = ((a + n : Nat) : Int) := by rw [wrap_i64 (by omega) (by omega)]; simp
  have hs : aSliceOp Tryz.prog (H ++ .cells [c0, c1, c2] 121 :: .cells [.int .u8 kd, old, i64 a] 121 :: X) 9 (str l) (some (i64 a)) (some (i64 ((a + n : Nat) : Int))) = some (str ((l.drop a).take n)) := by
    rw [aSliceOp_str (a := a) (b := ((a + n : Nat) : Int)) (by simp) rfl rfl (by omega) (by omega) (by omega)]
    simp only [Int.toNat_natCast, List.drop_take, Nat.add_sub_cancel_left]
  simp only [aBin_add, hwr, bnd_some, hs]
  simp [Tok.cells] at hk ⊢
  exact hk _ (.app _ _)
theorem c_one {H : AHeap} {l : List UInt8} {a : Nat} (hl : l.length < 2 ^ 40) (ha : a < l.length) :
    ACalls Tryz.prog 87 [str l, i64 a] H (.tuple #[.agg (oneF (l.drop a) a).1.cells.toArray, i64 (oneF (l.drop a) a).2]) H := by
  refine acallsT_pure MixT Tryz.func87 (by decide) (by simp [flat, clos, Tok.cells, isLit]) ?_
  rw [d87]
  obtain ⟨b, r, hbr⟩ : ∃ b r, l.drop a = b :: r := by
    cases h : l.drop a with
    | nil => simp at h; omega
    | cons b r => exact ⟨b, r, rfl⟩
  have hb : l[a]? = some b := by rw [← List.head?_drop, hbr]; rfl
  have hix := aIndex_at (P := Tryz.prog) (T := 9) (k := .i64) (by simp) hb
  have hd1 : l.drop (a + 1) = r := by rw [← List.drop_drop, hbr]; rfl
  have hdl : (l.drop a).length = l.length - a := by simp
  generalize hw : oneF (l.drop a) a = w
  rw [hbr] at hw
  simp only [oneF] at hw
  simp [hix]
  refine bndC_of (c_lex_letter _ _) ?_
  refine kifB_bool (fun h1 => ?_) (fun h1 => ?_)
  · rw [if_pos h1] at hw
    refine bndC_of (c_run (c_lex_mark _) (by omega) (by omega)) ?_
    simp
    have hle := runF_le isMark (l.drop a)
    refine one_tail (n := runN isMark l a) hl (by rw [runN_eq]; omega) rfl ?_ [] _ _ _ _ _ _ _ _ _ _ _ _ _ _ _ _ _ _ _ _ _ _ _ _ _ _ _ _ _ _ _ _ _ _ _ _ _ _ _ _ _ _ _ _ _ _ _ _ _ _ _ _ _ _ _ _ _ _ _ _ _ _ _ _ _ _ _ _ _ _ _ _ _ _ _ _ _ _ _ _ _ _ _
    intro K hp
    refine ⟨?_, hp⟩
    rw [← hw, runN_eq, hbr]
  rw [if_neg (by simp [h1])] at hw
  simp [hix]
  refine bndC_of (c_lex_digit _ _) ?_
  refine kifB_bool (fun h2 => ?_) (fun h2 => ?_)
  · rw [if_pos h2] at hw
    refine bndC_of (c_run (c_lex_digit _) (by omega) (by omega)) ?_
    simp
    have hle := runF_le isDig (l.drop a)
    rw [runN_eq]
    generalize hn : runF isDig (l.drop a) = n at hle
    have hwr : IntKind.i64.wrap ((a : Int) + n) = ((a + n : Nat) : Int) := by rw [wrap_i64 (by omega) (by omega)]; simp
    have hwr2 : IntKind.i64.wrap (((a + n : Nat) : Int) + 1) = ((a + n + 1 : Nat) : Int) := wrap_succ (by omega)
    simp only [hwr, hwr2]
    have hcr := fun K : AHeap => c_run (H := K) (l := l) (a := a + n + 1) (c_lex_digit K) (by omega) (by omega)
    refine bndC_of (hcr _) ?_
    rw [runN_eq]
    have hpt : runF isDig (l.drop (a + n + 1)) = runF isDig ((l.drop a).drop (n + 1)) := by rw [List.drop_drop, Nat.add_assoc]
    have hnl : numLen (l.drop a) = if (((l.drop a)[n]?).any (fun e => (e.toNat : Int) == 46) && decide (runF isDig (l.drop (a + n + 1)) > 0)) = true then n + (1 + runF isDig (l.drop (a + n + 1))) else n := by
      unfold numLen
      rw [hn, hpt]
    have hnle := numLen_le (l.drop a)
    rw [← hbr] at hw
    have hpl := runF_le isDig (l.drop (a + n + 1))
    rw [List.length_drop] at hpl
    generalize runF isDig (l.drop (a + n + 1)) = part at hnl hpl
    have fin : ∀ (m : Nat) (X : AHeap) (c0 c1 c2 : Value) (s2 s3 s5 s8 s9 s10 s11 s12 s13 s14 s15 s16 s17 s18 s19 s20 s21 s22 s23 s24 s25 s26 s27 s28 s29 s30 s31 s32 s33 s34 s35 s36 s37 s38 s39 s40 s41 s42 s43 s44 s45 s46 s47 s48 s49 s50 s51 s52 s53 s54 s55 s56 s57 s58 s59 s60 s61 s62 s63 s64 s65 s66 s67 s68 s69 s70 s71 s72 s73 s74 s75 s76 s77 s78 s79 s80 s81 s82 s83 s84 : Value), numLen (l.drop a) = m →
        S87x0 (Same (.tuple #[.agg w.1.cells.toArray, i64 w.2]) H) [str l, i64 a, s2, s3, .pointer (some ⟨H.length, 0, some 3⟩), s5, .pointer (some ⟨H.length + 1, 0, some 3⟩), i64 m, s8, s9, s10, s11, s12, s13, s14, s15, s16, s17, s18, s19, s20, s21, s22, s23, s24, s25, s26, s27, s28, s29, s30, s31, s32, s33, s34, s35, s36, s37, s38, s39, s40, s41, s42, s43, s44, s45, s46, s47, s48, s49, s50, s51, s52, s53, s54, s55, s56, s57, s58, s59, s60, s61, s62, s63, s64, s65, s66, s67, s68, s69, s70, s71, s72, s73, s74, s75, s76, s77, s78, s79, s80, s81, s82, s83, s84] (H ++ .cells [c0, c1, c2] 121 :: .cells [.int .u8 2, str [], i64 a] 121 :: X) := by
      intro m X c0 c1 c2 s2 s3 s5 s8 s9 s10 s11 s12 s13 s14 s15 s16 s17 s18 s19 s20 s21 s22 s23 s24 s25 s26 s27 s28 s29 s30 s31 s32 s33 s34 s35 s36 s37 s38 s39 s40 s41 s42 s43 s44 s45 s46 s47 s48 s49 s50 s51 s52 s53 s54 s55 s56 s57 s58 s59 s60 s61 s62 s63 s64 s65 s66 s67 s68 s69 s70 s71 s72 s73 s74 s75 s76 s77 s78 s79 s80 s81 s82 s83 s84 hm
      refine one_tail (n := m) hl (by omega) rfl ?_ X _ _ _ _ _ _ _ _ _ _ _ _ _ _ _ _ _ _ _ _ _ _ _ _ _ _ _ _ _ _ _ _ _ _ _ _ _ _ _ _ _ _ _ _ _ _ _ _ _ _ _ _ _ _ _ _ _ _ _ _ _ _ _ _ _ _ _ _ _ _ _ _ _ _ _ _ _ _ _ _ _ _ _
      intro K hp
      refine ⟨?_, hp⟩
      rw [← hw, hm]
    rw [List.getElem?_drop] at hnl
    by_cases hlt : a + n < l.length
    · have hlI : (a : Int) + n < l.length := by omega
      obtain ⟨e, he⟩ : ∃ e, l[a + n]? = some e := ⟨_, List.getElem?_eq_getElem hlt⟩
      have hie := aIndex_at (P := Tryz.prog) (T := 9) (k := .i64) (by simp) he
      rw [he] at hnl
      simp only [Int.natCast_add] at hwr hie
      simp +contextual [hwr, hlI, hie]
      refine kifB_bool (fun h => ?_) (fun h => ?_)
      · rw [if_pos (by simpa using h)] at hnl
        have w1 : IntKind.i64.wrap (1 + (part : Int)) = ((1 + part : Nat) : Int) := by rw [wrap_i64 (by omega) (by omega)]; simp
        have w2 : IntKind.i64.wrap ((n : Int) + ((1 + part : Nat) : Int)) = ((n + (1 + part) : Nat) : Int) := by rw [wrap_i64 (by omega) (by omega)]; simp
        simp only [aBin_add, w1, w2, bnd_some]
        exact fin _ [] _ _ _ _ _ _ _ _ _ _ _ _ _ _ _ _ _ _ _ _ _ _ _ _ _ _ _ _ _ _ _ _ _ _ _ _ _ _ _ _ _ _ _ _ _ _ _ _ _ _ _ _ _ _ _ _ _ _ _ _ _ _ _ _ _ _ _ _ _ _ _ _ _ _ _ _ _ _ _ _ _ _ _ hnl
      · rw [if_neg (by simpa using h)] at hnl
        exact fin _ [] _ _ _ _ _ _ _ _ _ _ _ _ _ _ _ _ _ _ _ _ _ _ _ _ _ _ _ _ _ _ _ _ _ _ _ _ _ _ _ _ _ _ _ _ _ _ _ _ _ _ _ _ _ _ _ _ _ _ _ _ _ _ _ _ _ _ _ _ _ _ _ _ _ _ _ _ _ _ _ _ _ _ _ hnl
    · have hlI : ¬ ((a : Int) + n < l.length) := by omega
      have : l[a + n]? = none := List.getElem?_eq_none (by omega)
      rw [this] at hnl
      simp at hnl
      simp only [Int.natCast_add] at hwr
      simp [hwr, hlI]
      exact fin _ [] _ _ _ _ _ _ _ _ _ _ _ _ _ _ _ _ _ _ _ _ _ _ _ _ _ _ _ _ _ _ _ _ _ _ _ _ _ _ _ _ _ _ _ _ _ _ _ _ _ _ _ _ _ _ _ _ _ _ _ _ _ _ _ _ _ _ _ _ _ _ _ _ _ _ _ _ _ _ _ _ _ _ _ hnl
  rw [if_neg (by simp [h2])] at hw
  simp [hix]
  refine kifB_bool (fun h3 => ?_) (fun h3 => ?_)
  · rw [if_pos h3] at hw
    simp
    have ht := fun K : AHeap => c_text (H := K) (l := l) (a := a) hl ha
    rw [hd1] at ht
    refine bndC_of (ht _) ?_
    simp [Tok.cells]
    rw [← hw]
    exact ⟨⟨rfl, rfl, rfl⟩, rfl⟩
  · rw [if_neg (by simp [h3])] at hw
    simp
    refine bndC_of (c_sign hl ha) ?_
    simp
    have hle := signF_le (l.drop a)
    refine one_tail (n := signF (l.drop a)) hl (by omega) rfl ?_ [] _ _ _ _ _ _ _ _ _ _ _ _ _ _ _ _ _ _ _ _ _ _ _ _ _ _ _ _ _ _ _ _ _ _ _ _ _ _ _ _ _ _ _ _ _ _ _ _ _ _ _ _ _ _ _ _ _ _ _ _ _ _ _ _ _ _ _ _ _ _ _ _ _ _ _ _ _ _ _ _ _ _ _
    intro K hp
    refine ⟨?_, hp⟩
    rw [← hw, ← hbr]
end Go.Vi
namespace Go.Vi
open Go Go.Proofs

def blanks : List UInt8 := [32, 9, 10, 13]
def notNl (b : UInt8) : Bool := (b.toNat : Int) != 10
/-- How many bytes lie ahead of the next token. -/
def skipF : Nat → List UInt8 → Nat
  | 0, _ => 0
  | _ + 1, [] => 0
  | f + 1, b :: r => if hasB blanks b = true then 1 + skipF f r
    else if ((b.toNat : Int) == 35) = true then runF notNl (b :: r) + skipF f ((b :: r).drop (runF notNl (b :: r)))
    else 0
theorem skipF_le : ∀ (f : Nat) (s : List UInt8), skipF f s ≤ s.length := by
  intro f
  induction f with
  | zero => intro s; simp [skipF]
  | succ f ih =>
    intro s
    cases s with
    | nil => simp [skipF]
    | cons b r =>
      simp only [skipF]
      split
      · have := ih r; simp; omega
      · split
        · have h1 := ih ((b :: r).drop (runF notNl (b :: r)))
          have h2 := runF_le notNl (b :: r)
          rw [List.length_drop] at h1
          omega
        · simp
theorem skip_loop {l : List UInt8} {H : AHeap} {k : Value → AHeap → Prop} (hl : l.length < 2 ^ 40) (w : Nat) (hk : k (i64 w) H) :
    ∀ (f : Nat) (a : Nat) (s2 s3 s4 s5 s6 s7 s8 s9 s10 s11 s12 s13 s14 s15 s16 s17 s18 s19 s20 s21 s22 s23 s24 s25 s26 s27 s28 : Value), (l.drop a).length ≤ f → a ≤ l.length → w = a + skipF f (l.drop a) →
      L86x0 (f + 1) k [str l, i64 a, s2, s3, s4, s5, s6, s7, s8, s9, s10, s11, s12, s13, s14, s15, s16, s17, s18, s19, s20, s21, s22, s23, s24, s25, s26, s27, s28] H := by
  intro f
  induction f with
  | zero =>
    intro a s2 s3 s4 s5 s6 s7 s8 s9 s10 s11 s12 s13 s14 s15 s16 s17 s18 s19 s20 s21 s22 s23 s24 s25 s26 s27 s28 hf ha hw
    rw [List.length_drop] at hf
    rw [L86x0q]
    have : ¬ a < l.length := by omega
    simp [this]
    simp [skipF] at hw
    rw [← hw]; exact hk
  | succ f ih =>
    intro a s2 s3 s4 s5 s6 s7 s8 s9 s10 s11 s12 s13 s14 s15 s16 s17 s18 s19 s20 s21 s22 s23 s24 s25 s26 s27 s28 hf ha hw
    rw [L86x0q]
    by_cases hlt : a < l.length
    · obtain ⟨b, r, hbr⟩ : ∃ b r, l.drop a = b :: r := by
        cases h : l.drop a with
        | nil => simp at h; omega
        | cons b r => exact ⟨b, r, rfl⟩
      have hb : l[a]? = some b := by rw [← List.head?_drop, hbr]; rfl
      have hix := aIndex_at (P := Tryz.prog) (T := 9) (k := .i64) (by simp) hb
      have hd1 : l.drop (a + 1) = r := by rw [← List.drop_drop, hbr]; rfl
      rw [hbr, skipF] at hw
      simp [hlt, hix]
      refine bndC_of (c_indexByte _ _ _) ?_
      simp
      refine kifB_bool (fun h => ?_) (fun h => ?_)
      · rw [if_pos (by simpa [hasB, blanks] using h)] at hw
        simp [show a + 1 < 2 ^ 63 by omega]
        exact ih (a + 1) _ _ _ _ _ _ _ _ _ _ _ _ _ _ _ _ _ _ _ _ _ _ _ _ _ _ _ (by rw [hbr] at hf; rw [hd1]; simp at hf; exact hf) hlt (by rw [hw, hd1]; omega)
      rw [if_neg (by simpa [hasB, blanks] using h)] at hw
      simp [hix]
      refine kifB_bool (fun h => ?_) (fun h => ?_)
      · rw [if_pos h] at hw
        refine bndC_of (c_run (p := notNl) (c_skip1 _) (by omega) (by omega)) ?_
        have hrl := runF_le notNl (l.drop a)
        rw [List.length_drop] at hrl
        have hpos : 1 ≤ runF notNl (l.drop a) := by
          rw [hbr]
          have : notNl b = true := by
            have : (b.toNat : Int) = 35 := by simpa using h
            simp [notNl, this]
          simp [runF, this]
        rw [runN_eq]
        rw [← hbr] at hw
        generalize hm : runF notNl (l.drop a) = m at hw hrl hpos
        have hwr : IntKind.i64.wrap ((a : Int) + m) = ((a + m : Nat) : Int) := by rw [wrap_i64 (by omega) (by omega)]; simp
        simp only [aBin_add, hwr, bnd_some]
        rw [List.drop_drop] at hw
        exact ih (a + m) _ _ _ _ _ _ _ _ _ _ _ _ _ _ _ _ _ _ _ _ _ _ _ _ _ _ _ (by rw [List.length_drop] at hf ⊢; omega) (by omega) (by rw [hw]; omega)
      · rw [if_neg (by simp [h])] at hw
        simp at hw
        simp
        rw [← hw]; exact hk
    · have : l.drop a = [] := by simp; omega
      rw [this, skipF] at hw
      simp [hlt]
      simp at hw
      rw [← hw]; exact hk
/-- Where the next token begins. -/
def skipN (l : List UInt8) (a : Nat) : Nat := a + skipF (l.length - a) (l.drop a)
theorem skipN_le {l : List UInt8} {a : Nat} (h : a ≤ l.length) : skipN l a ≤ l.length := by
  have := skipF_le (l.length - a) (l.drop a)
  rw [List.length_drop] at this
  unfold skipN; omega
theorem c_skip {H : AHeap} {l : List UInt8} {a : Nat} (hl : l.length < 2 ^ 40) (ha : a ≤ l.length) : ACalls Tryz.prog 86 [str l, i64 a] H (i64 (skipN l a)) H := by
  refine acalls_pure MixT Tryz.func86 (by decide) rfl ?_
  rw [d86]
  exact ⟨_, skip_loop (k := Same (i64 (skipN l a)) H) hl (skipN l a) ⟨rfl, [], by simp⟩ (l.length - a) a _ _ _ _ _ _ _ _ _ _ _ _ _ _ _ _ _ _ _ _ _ _ _ _ _ _ _ (by simp) ha rfl⟩

/-! ### A round, whatever it comes to -/
theorem kround_one {P : Program} {b args H} {k : Value → AHeap → Prop} (h : kround P b args H k) : ∃ v H', k v H' ∧ kround P b args H fun u H2 => u = v ∧ H2 = H' := by
  unfold kround at h
  split at h
  case h_2 => cases h
  rename_i sl ps assign body pe hb
  obtain ⟨hl, hx⟩ := h
  obtain ⟨e1, s1, H1, ⟨rfl, hb1, hx1⟩, hy⟩ := kx_one _ hx
  obtain ⟨e2, s2, H2, ⟨hb2, hk⟩, hz⟩ := kx_one _ hx1
  refine ⟨_, _, hk, ?_⟩
  unfold kround
  rw [hb]
  refine ⟨hl, kx_mono _ ?_ hy⟩
  rintro e sl H ⟨rfl, rfl, rfl⟩
  refine ⟨rfl, hb1, kx_mono _ ?_ hz⟩
  rintro e sl H ⟨rfl, rfl, rfl⟩
  exact ⟨hb2, rfl, rfl⟩
theorem ayields_ex {P : Program} (hm : P.follows .mixedOrders = true) {b args H} {k : Value → AHeap → Prop} (h : kround P b args H k) : ∃ v H', k v H' ∧ AYields P b args H v H' := by
  obtain ⟨v, H', h1, h2⟩ := kround_one h
  exact ⟨v, H', h1, ayields_of hm h2⟩

/-! ### One outcome, where the drawn regions have one -/
structure OneD (D : DrawK) : Prop where
  mono : ∀ {ops} {k k' : List Value → AHeap → Prop} {sl H}, (∀ s h, k s h → k' s h) → D ops k sl H → D ops k' sl H
  one : ∀ {ops} {k : List Value → AHeap → Prop} {sl H}, D ops k sl H → ∃ sl' H', k sl' H' ∧ D ops (fun s h => s = sl' ∧ h = H') sl H
section
variable {P : Program}
theorem drawStd_one : OneD (drawStd P) := by
  constructor
  · intro ops k k' sl H hk h
    unfold drawStd at h ⊢
    split at h
    · exact kdraw_mono hk _ _ h
    · cases h
  · intro ops k sl H h
    unfold drawStd at h ⊢
    split at h
    · exact kdraw_one _ _ h
    · cases h
variable {D : DrawK}
theorem kloopG_mono {f : List Value → AHeap → List Nat → KontG → Prop} (hm : ∀ {sl H m} {k k' : KontG}, (∀ e sl H m, k e sl H m → k' e sl H m) → f sl H m k → f sl H m k') :
    ∀ (n : Nat) {sl H m} {k k' : KontG}, (∀ e sl H m, k e sl H m → k' e sl H m) → kloopG f n sl H m k → kloopG f n sl H m k' := by
  intro n
  induction n with
  | zero => intro sl H m k k' _ h; cases h
  | succ n ih =>
    intro sl H m k k' hk h
    simp only [kloopG] at h ⊢
    refine hm ?_ h
    intro e sl H m h
    cases e with
    | normal => exact ih hk h
    | exit i => exact hk _ _ _ _ h
    | ret => exact hk _ _ _ _ h
theorem kjump_mono {k k' : KontG} (hk : ∀ e sl H m, k e sl H m → k' e sl H m) {sl H m pe} (h : kjump k sl H m pe) : kjump k' sl H m pe := by
  unfold kjump at h ⊢
  split at h
  · exact hk _ _ _ _ h
  · exact hk _ _ _ _ h
  · exact hk _ _ _ _ h
  · cases h
theorem kxG_mono (hD : OneD D) : ∀ (c : Code) {sl H m} {k k' : KontG}, (∀ e sl H m, k e sl H m → k' e sl H m) → kxG P D c sl H m k → kxG P D c sl H m k' := by
  intro c
  induction c with
  | skip => intro sl H m k k' hk h; exact hk _ _ _ _ h
  | label l => intro sl H m k k' hk h; exact hk _ _ _ _ h
  | region id ops draw =>
    intro sl H m k k' hk h
    cases draw with
    | false => exact kops_mono (fun s h => hk .normal s h m) _ h
    | true => exact hD.mono (fun s h => hk .normal s h m) h
  | seq x y ihx ihy =>
    intro sl H m k k' hk h
    refine ihx ?_ h
    intro e sl H m h
    cases e with
    | normal => exact ihy hk h
    | exit i => exact hk _ _ _ _ h
    | ret => exact hk _ _ _ _ h
  | cond c x y ihx ihy =>
    intro sl H m k k' hk h
    simp only [kxG] at h ⊢
    split at h
    · unfold kif at h ⊢
      split at h
      · split at h
        · rename_i q; simp only [if_pos q]; exact ihx hk h
        · rename_i q; simp only [if_neg q]; exact ihy hk h
      · cases h
    · cases h
  | block id c ih =>
    intro sl H m k k' hk h
    refine ih ?_ h
    intro e sl H m h
    cases e with
    | normal => exact hk _ _ _ _ h
    | exit i =>
      simp only [kblkG] at h ⊢
      split at h
      · rename_i q; rw [if_pos q]; exact hk _ _ _ _ h
      · rename_i q; rw [if_neg q]; exact hk _ _ _ _ h
    | ret => exact hk _ _ _ _ h
  | exit id => intro sl H m k k' hk h; exact hk _ _ _ _ h
  | ret => intro sl H m k k' hk h; exact hk _ _ _ _ h
  | loop c ih =>
    intro sl H m k k' hk h
    obtain ⟨n, h⟩ := h
    exact ⟨n, kloopG_mono (f := kxG P D c) (fun hk h => ih hk h) n hk h⟩
  | rangeFunc g ps assign body _ _ =>
    intro sl H m k k' hk h
    simp only [kxG] at h ⊢
    split at h
    · unfold krange at h ⊢
      split at h
      · obtain ⟨h1, h2, v, H', h3, h4⟩ := h
        refine ⟨h1, h2, v, H', h3, ?_⟩
        unfold rngEnd at h4 ⊢
        split at h4
        · exact ⟨h4.1, kjump_mono hk h4.2⟩
        · cases h4
      · cases h
    · cases h
  | _ => intro sl H m k k' hk h; cases h
def kisG (e : AExit) (sl : List Value) (H : AHeap) (m : List Nat) : KontG := fun e2 s2 h2 m2 => e2 = e ∧ s2 = sl ∧ h2 = H ∧ m2 = m
theorem kloopG_one {f : List Value → AHeap → List Nat → KontG → Prop} (hf : ∀ {sl H m} {k : KontG}, f sl H m k → ∃ e sl' H' m', k e sl' H' m' ∧ f sl H m (kisG e sl' H' m'))
    (hm : ∀ {sl H m} {k k' : KontG}, (∀ e sl H m, k e sl H m → k' e sl H m) → f sl H m k → f sl H m k') :
    ∀ (n : Nat) {sl H m} {k : KontG}, kloopG f n sl H m k → ∃ e sl' H' m', k e sl' H' m' ∧ kloopG f n sl H m (kisG e sl' H' m') := by
  intro n
  induction n with
  | zero => intro sl H m k h; cases h
  | succ n ih =>
    intro sl H m k h
    simp only [kloopG] at h
    obtain ⟨e, s1, h1, m1, hk, hf1⟩ := hf h
    cases e with
    | normal =>
      obtain ⟨e2, s2, h2, m2, hk2, hf2⟩ := ih hk
      refine ⟨e2, s2, h2, m2, hk2, ?_⟩
      simp only [kloopG]
      refine hm ?_ hf1
      rintro e sl H m ⟨rfl, rfl, rfl, rfl⟩
      exact hf2
    | exit i =>
      refine ⟨.exit i, s1, h1, m1, hk, ?_⟩
      simp only [kloopG]
      refine hm ?_ hf1
      rintro e sl H m ⟨rfl, rfl, rfl, rfl⟩
      exact ⟨rfl, rfl, rfl, rfl⟩
    | ret =>
      refine ⟨.ret, s1, h1, m1, hk, ?_⟩
      simp only [kloopG]
      refine hm ?_ hf1
      rintro e sl H m ⟨rfl, rfl, rfl, rfl⟩
      exact ⟨rfl, rfl, rfl, rfl⟩
theorem kxG_one (hD : OneD D) : ∀ (c : Code) {sl H m} {k : KontG}, kxG P D c sl H m k → ∃ e sl' H' m', k e sl' H' m' ∧ kxG P D c sl H m (kisG e sl' H' m') := by
  intro c
  induction c with
  | skip => intro sl H m k h; exact ⟨_, _, _, _, h, rfl, rfl, rfl, rfl⟩
  | label l => intro sl H m k h; exact ⟨_, _, _, _, h, rfl, rfl, rfl, rfl⟩
  | region id ops draw =>
    intro sl H m k h
    cases draw with
    | false =>
      obtain ⟨a, b, h1, h2⟩ := kops_one (k := fun s h => k .normal s h m) _ h
      exact ⟨.normal, a, b, m, h1, kops_mono (fun _ _ q => ⟨rfl, q.1, q.2, rfl⟩) _ h2⟩
    | true =>
      obtain ⟨a, b, h1, h2⟩ := hD.one h
      exact ⟨.normal, a, b, m, h1, hD.mono (fun _ _ q => ⟨rfl, q.1, q.2, rfl⟩) h2⟩
  | seq x y ihx ihy =>
    intro sl H m k h
    obtain ⟨e, s1, h1, m1, hk, hx⟩ := ihx h
    cases e with
    | normal =>
      obtain ⟨e2, s2, h2, m2, hk2, hy⟩ := ihy hk
      refine ⟨e2, s2, h2, m2, hk2, kxG_mono hD x ?_ hx⟩
      rintro e sl H m ⟨rfl, rfl, rfl, rfl⟩
      exact hy
    | exit i =>
      refine ⟨.exit i, s1, h1, m1, hk, kxG_mono hD x ?_ hx⟩
      rintro e sl H m ⟨rfl, rfl, rfl, rfl⟩
      exact ⟨rfl, rfl, rfl, rfl⟩
    | ret =>
      refine ⟨.ret, s1, h1, m1, hk, kxG_mono hD x ?_ hx⟩
      rintro e sl H m ⟨rfl, rfl, rfl, rfl⟩
      exact ⟨rfl, rfl, rfl, rfl⟩
  | cond c x y ihx ihy =>
    intro sl H m k h
    simp only [kxG] at h
    split at h
    · rename_i v hv
      unfold kif at h
      split at h
      · split at h
        · rename_i q
          obtain ⟨e, s1, h1, m1, hk, hx⟩ := ihx h
          refine ⟨e, s1, h1, m1, hk, ?_⟩
          simp only [kxG, hv, kif, if_pos q]; exact hx
        · rename_i q
          obtain ⟨e, s1, h1, m1, hk, hx⟩ := ihy h
          refine ⟨e, s1, h1, m1, hk, ?_⟩
          simp only [kxG, hv, kif, if_neg q]; exact hx
      · cases h
    · cases h
  | block id c ih =>
    intro sl H m k h
    obtain ⟨e, s1, h1, m1, hk, hx⟩ := ih h
    cases e with
    | normal =>
      refine ⟨.normal, s1, h1, m1, hk, kxG_mono hD c ?_ hx⟩
      rintro e sl H m ⟨rfl, rfl, rfl, rfl⟩
      exact ⟨rfl, rfl, rfl, rfl⟩
    | exit i =>
      simp only [kblkG] at hk
      split at hk
      · rename_i q
        refine ⟨.normal, s1, h1, m1, hk, kxG_mono hD c ?_ hx⟩
        rintro e sl H m ⟨rfl, rfl, rfl, rfl⟩
        simp only [kblkG, if_pos q]
        exact ⟨rfl, rfl, rfl, rfl⟩
      · rename_i q
        refine ⟨.exit i, s1, h1, m1, hk, kxG_mono hD c ?_ hx⟩
        rintro e sl H m ⟨rfl, rfl, rfl, rfl⟩
        simp only [kblkG, if_neg q]
        exact ⟨rfl, rfl, rfl, rfl⟩
    | ret =>
      refine ⟨.ret, s1, h1, m1, hk, kxG_mono hD c ?_ hx⟩
      rintro e sl H m ⟨rfl, rfl, rfl, rfl⟩
      exact ⟨rfl, rfl, rfl, rfl⟩
  | exit id => intro sl H m k h; exact ⟨_, _, _, _, h, rfl, rfl, rfl, rfl⟩
  | ret => intro sl H m k h; exact ⟨_, _, _, _, h, rfl, rfl, rfl, rfl⟩
  | loop c ih =>
    intro sl H m k h
    obtain ⟨n, h⟩ := h
    obtain ⟨e, s1, h1, m1, hk, hx⟩ := kloopG_one (f := kxG P D c) (fun h => ih h) (fun hk h => kxG_mono hD c hk h) n h
    exact ⟨e, s1, h1, m1, hk, n, hx⟩
  | rangeFunc g ps assign body _ _ =>
    intro sl H m k h
    simp only [kxG] at h
    split at h
    · rename_i gv hg
      unfold krange at h
      split at h
      · obtain ⟨h1, h2, v, H', h3, h4⟩ := h
        unfold rngEnd at h4
        split at h4
        · rename_i hob
          obtain ⟨hst, hj⟩ := h4
          unfold kjump at hj
          have mk : ∀ (e : AExit), (∀ (k : KontG) sl H m, kjump k sl H m (jumpOf e) = k e sl H m) → True := fun _ _ => trivial
          split at hj
          · refine ⟨_, _, _, _, hj, ?_⟩
            simp only [kxG, hg, krange]
            refine ⟨h1, h2, v, H', h3, ?_⟩
            unfold rngEnd
            rw [hob]
            exact ⟨hst, rfl, rfl, rfl, rfl⟩
          · refine ⟨_, _, _, _, hj, ?_⟩
            simp only [kxG, hg, krange]
            refine ⟨h1, h2, v, H', h3, ?_⟩
            unfold rngEnd
            rw [hob]
            exact ⟨hst, rfl, rfl, rfl, rfl⟩
          · refine ⟨_, _, _, _, hj, ?_⟩
            simp only [kxG, hg, krange]
            refine ⟨h1, h2, v, H', h3, ?_⟩
            unfold rngEnd
            rw [hob]
            exact ⟨hst, rfl, rfl, rfl, rfl⟩
          · cases hj
        · cases h4
      · cases h
    · cases h
  | _ => intro sl H m k h; cases h
theorem kmarks_one {k : AHeap → Prop} : ∀ (m : List Nat) {H}, kmarks k m H → ∃ H', k H' ∧ kmarks (fun h => h = H') m H := by
  intro m
  induction m with
  | nil => intro H h; exact ⟨H, h, rfl⟩
  | cons b r ih =>
    intro H h
    obtain ⟨h1, h2⟩ := h
    obtain ⟨H', q1, q2⟩ := ih h2
    exact ⟨H', q1, h1, q2⟩
theorem kmarks_mono {k k' : AHeap → Prop} (hk : ∀ h, k h → k' h) : ∀ (m : List Nat) {H}, kmarks k m H → kmarks k' m H := by
  intro m
  induction m with
  | nil => intro H h; exact hk _ h
  | cons b r ih => intro H h; exact ⟨h.1, ih h.2⟩
theorem kbodyG_one (hD : OneD D) {fn args H} {k : Value → AHeap → Prop} (h : kbodyG P D fn args H k) : ∃ v H', k v H' ∧ kbodyG P D fn args H fun u H2 => u = v ∧ H2 = H' := by
  unfold kbodyG at h
  split at h
  · rename_i c hb
    obtain ⟨e, s1, h1, m1, hk, hx⟩ := kxG_one hD c h
    have fin : ∀ {e}, kxG P D c (args ++ List.replicate (fn.ntmps - args.length) undef) H [] (kisG e s1 h1 m1) → (e = .normal ∨ e = .ret) → kmarks (fun H2 => kres P s1 H2 fn.results.toList fun l => k (retV l) H2) m1 h1 →
        ∃ v H', k v H' ∧ kbodyG P D fn args H fun u H2 => u = v ∧ H2 = H' := by
      intro e hx he hk
      obtain ⟨H2, q1, q2⟩ := kmarks_one _ hk
      obtain ⟨l, q3, q4⟩ := kres_one _ q1
      refine ⟨retV l, H2, q3, ?_⟩
      unfold kbodyG
      rw [hb]
      refine kxG_mono hD c ?_ hx
      rintro e2 sl H3 m3 ⟨rfl, rfl, rfl, rfl⟩
      have key : kmarks (fun H2 => kres P sl H2 fn.results.toList fun l' => retV l' = retV l ∧ H2 = H2) m3 H3 → True := fun _ => trivial
      rcases he with rfl | rfl <;> exact kmarks_mono (fun h hh => by subst hh; exact kres_weak _ (fun l' h => ⟨by rw [h], rfl⟩) q4) _ q2
    cases e with
    | normal => exact fin hx (.inl rfl) hk
    | ret => exact fin hx (.inr rfl) hk
    | exit i => cases hk
  · cases h
theorem acallsG_ex (hm : P.follows .mixedOrders = true) {f fn args H} {k : Value → AHeap → Prop} (hf : P.funcs[f]? = some fn) (hn : notNG fn = true) (hr : kbodyG P (drawStd P) fn args H k) : ∃ v H', k v H' ∧ ACalls P f args H v H' := by
  obtain ⟨v, H', h1, h2⟩ := kbodyG_one drawStd_one hr
  exact ⟨v, H', h1, acallsG_of (fun c => @drawStd_sound P c hm) hf hn h2⟩
end

/-! ### A slice of one thing -/
theorem foldl_put : ∀ (c : List Value) (k : Nat) (cells : List Value), k + c.length ≤ cells.length →
    (c.zipIdx k).foldl (fun (cs : Array Value) (p : Value × Nat) => cs.setIfInBounds p.2 p.1) cells.toArray = (cells.take k ++ c ++ cells.drop (k + c.length)).toArray := by
  intro c
  induction c with
  | nil => intro k cells _; simp
  | cons v r ih =>
    intro k cells h
    simp only [List.length_cons] at h
    simp only [List.zipIdx_cons, List.foldl_cons, List.setIfInBounds_toArray]
    have := ih (k + 1) (cells.set k v) (by simp; omega)
    rw [this]
    congr 1
    rw [List.take_set, List.set_eq_take_append_cons_drop, if_pos (by rw [List.length_take]; omega), List.drop_set_of_lt (by omega)]
    simp [List.take_take, Nat.add_assoc, Nat.add_comm 1]
theorem sliceLitA {P : Program} {H : AHeap} {T e : TypeId} {zs : Array Value} {c : List Value} (hs : aBuildSlice P H T 1 [(0, .agg c.toArray)] = bslV e zs H 1 [(0, .agg c.toArray)]) (hz : c.length = zs.size) (ho : ∀ v ∈ c, v.oneCell' = true) (hb : zs.size ≤ 16777216) :
    sliceLit P H T 1 [(0, .agg c.toArray)] (.slice (some ⟨H.length, 0, some c.length⟩) 1 1) (H ++ [.cells c e]) := by
  refine ⟨?_, ?_⟩
  · simpa [storable] using ho
  · rw [hs]
    unfold bslV
    have hr : (repCells zs (1 * zs.size)).size = zs.size := by simp [repCells]
    have hf : Instr.fill (fun i => some (i * zs.size, zs.size)) (repCells zs (1 * zs.size)) [(0, .agg c.toArray)] = some c.toArray := by
      generalize hR : repCells zs (1 * zs.size) = R at hr
      obtain ⟨R⟩ := R
      simp only [List.size_toArray] at hr
      simp only [Instr.fill, cells_agg, List.size_toArray, hz, Nat.zero_mul]
      rw [if_neg (by simp; omega)]
      have := foldl_put c 0 R (by omega)
      rw [List.take_zero, List.nil_append, Nat.zero_add, List.drop_eq_nil_of_le (by omega), List.append_nil] at this
      refine congrArg some (Eq.trans ?_ this)
      rw [← Array.foldl_toList]
      simp
    rw [hf, if_pos (by omega)]
    simp only [List.size_toArray]
    rw [if_pos ⟨by omega, by simpa using ho⟩]

/-! ### A slice that grows by one thing at a time -/
inductive Gro (K : AHeap) (lo z : Nat) (T : TypeId) : Value → List (List Value) → Prop
  | nil : Gro K lo z T (.slice none 0 0) []
  | mk (bb : Nat) (cl : List (List Value)) (h1 : lo ≤ bb) (h2 : K[bb]? = some (.cells cl.flatten T)) (h3 : cl ≠ []) (h4 : ∀ c ∈ cl, c.length = z) : Gro K lo z T (.slice (some ⟨bb, 0, some (cl.length * z)⟩) cl.length cl.length) cl
theorem Gro.one {K lo z T v cl} (h : Gro K lo z T v cl) : v.oneCell' = true := by cases h <;> rfl
theorem Gro.cells {K lo z T v cl} (h : Gro K lo z T v cl) : v.cells = #[v] := by cases h <;> rfl
theorem Gro.stor {K lo z T v cl} (h : Gro K lo z T v cl) : storable v = true := by cases h <;> rfl
theorem Gro.app {K lo z T v cl} {X : AHeap} (h : Gro K lo z T v cl) : Gro (K ++ X) lo z T v cl := by
  cases h with
  | nil => exact .nil
  | mk bb cl h1 h2 h3 h4 => exact .mk bb cl h1 (get_more h2) h3 h4
theorem Gro.set {K lo z T v cl} {b : Nat} {o : AObj} (h : Gro K lo z T v cl) (hb : b < lo) : Gro (K.set b o) lo z T v cl := by
  cases h with
  | nil => exact .nil
  | mk bb cl h1 h2 h3 h4 => exact .mk bb cl h1 (by rw [List.getElem?_set_ne (by omega)]; exact h2) h3 h4
theorem flat_len {z : Nat} : ∀ {cl : List (List Value)}, (∀ c ∈ cl, c.length = z) → cl.flatten.length = cl.length * z := by
  intro cl
  induction cl with
  | nil => intro _; simp
  | cons c r ih =>
    intro h
    rw [List.flatten_cons, List.length_append, ih fun x hx => h x (by simp [hx]), h c (by simp), List.length_cons, Nat.add_mul]
    omega
theorem flat_at {z : Nat} : ∀ {cl : List (List Value)} {i : Nat} {e : List Value}, (∀ c ∈ cl, c.length = z) → cl[i]? = some e → (cl.flatten.drop (i * z)).take z = e := by
  intro cl
  induction cl with
  | nil => intro i e _ h; simp at h
  | cons c r ih =>
    intro i e h hi
    have hc := h c (by simp)
    cases i with
    | zero =>
      simp at hi
      subst hi
      rw [Nat.zero_mul, List.drop_zero, List.flatten_cons, List.take_append_of_le_length (by omega), List.take_of_length_le (by omega)]
    | succ i =>
      have := ih (fun x hx => h x (by simp [hx])) (by simpa using hi : r[i]? = some e)
      rw [List.flatten_cons, Nat.add_mul, Nat.one_mul, Nat.add_comm, ← List.drop_drop, List.drop_append_of_le_length (by omega)]
      rw [show c.drop z = [] by simp; omega, List.nil_append]
      exact this
theorem Gro.arr {K lo z T v cl} (h : Gro K lo z T v cl) : Arr K z v cl := by
  cases h with
  | nil => exact .nil
  | mk bb cl h1 h2 h3 h4 =>
    refine .mk bb 0 _ _ _ cl.flatten cl rfl (by simp [hcells, h2]) (flat_len h4) (by omega) fun i e hi => ?_
    rw [Nat.zero_add]
    exact flat_at h4 hi
/-- One thing more. -/
theorem Gro.push {P : Program} {K : AHeap} {lo z by_ : Nat} {T Ts : TypeId} {v x : Value} {cl : List (List Value)} {c : List Value} (h : Gro K lo z T v cl) (hT : aElem P Ts = some (T, z, by_)) (hsq : isSeq P Ts = true) (hc : c.length = z) (hlo : lo ≤ K.length)
    (hx : aSrc K z x = some (1, c)) (hb : (cl.length + 1) * by_ ≤ 140737488355328) (hn : cl.length + 1 ≤ 9223372036854775807) :
    ∃ v' K', aBuiltin P K .append #[Ts, Ts] [v, x] = some (v', K') ∧ Gro K' lo z T v' (cl ++ [c]) ∧ (∀ b o, b < lo → K[b]? = some o → K'[b]? = some o) ∧ K.length ≤ K'.length ∧ (∀ H, Pre H K → H.length ≤ lo → Pre H K') := by
  cases h with
  | nil =>
    refine ⟨.slice (some ⟨K.length, 0, some z⟩) 1 1, K ++ [.cells c T], ?_, ?_, fun b o hb ho => get_more ho, by simp, fun H p _ => p.more _⟩
    · have hb' : by_ ≤ 140737488355328 := by simpa using hb
      simp [aBuiltin, aAppend, hT, hx, hsq, hb', hc]
    · have := Gro.mk (K := K ++ [.cells c T]) (lo := lo) (z := z) (T := T) K.length [c] hlo (by simp) (by simp) (by simpa using hc)
      simpa using this
  | mk bb cl h1 h2 h3 h4 =>
    have hfl := flat_len h4
    have hlt := (List.getElem?_eq_some_iff.1 h2).1
    refine ⟨.slice (some ⟨bb, 0, some ((cl.length + 1) * z)⟩) (cl.length + 1) (cl.length + 1), K.set bb (.cells (cl ++ [c]).flatten T), ?_, ?_, fun b o hb ho => by rw [List.getElem?_set_ne (by omega)]; exact ho, by simp, fun H p hH => p.set (by omega)⟩
    · have e1 : cl.length * z = cl.flatten.length := hfl.symm
      have e2 : ¬ cl.length + 1 ≤ cl.length := by omega
      simp only [aBuiltin, aAppend, hT, hx, hsq, if_true, h2, hfl, Nat.zero_add, Nat.le_refl, and_self, e2, if_false, hb, hn]
      have e3 : (cl.flatten.take (cl.length * z)) = cl.flatten := List.take_of_length_le (by omega)
      rw [e3]
      simp
    · have := Gro.mk (K := K.set bb (.cells (cl ++ [c]).flatten T)) (lo := lo) (z := z) (T := T) bb (cl ++ [c]) h1 (List.getElem?_set_self hlt) (by simp) (by
        intro x hx
        rw [List.mem_append] at hx
        rcases hx with hx | hx
        · exact h4 x hx
        · simp at hx; rw [hx]; exact hc)
      simpa using this
end Go.Vi
namespace Go.Vi
open Go Go.Proofs

/-- The tokens from a place on at which one begins; where there is none. -/
def lexF (l : List UInt8) : Nat → Nat → List Tok × Option Nat
  | 0, _ => ([], none)
  | f + 1, a => if a < l.length then
      (if (oneF (l.drop a) a).2 = 0 then ([], some a)
       else ((oneF (l.drop a) a).1 :: (lexF l f (skipN l (a + (oneF (l.drop a) a).2))).1, (lexF l f (skipN l (a + (oneF (l.drop a) a).2))).2))
    else ([], none)
theorem oneF_le (s : List UInt8) (a : Nat) : (oneF s a).2 ≤ s.length := by
  unfold oneF
  cases s with
  | nil => simp
  | cons b r =>
    simp only
    split
    · exact runF_le _ _
    · split
      · exact numLen_le _
      · split
        · have := textF_len r.length r [] 1 (Nat.le_refl _); simp; omega
        · exact signF_le (b :: r)
theorem skipN_ge (l : List UInt8) (a : Nat) : a ≤ skipN l a := by unfold skipN; omega
theorem tell_loop {l : List UInt8} {sp : Nat} {rb : Nat} {J : List Tok → AHeap → Prop} {Jx : Nat → AHeap → Prop} {k : Value → AHeap → Prop} (hl : l.length ≤ 4096)
    (hJs : ∀ ts K, J ts K → hcells K sp = some [str l]) (hJr : ∀ ts K, J ts K → ∃ r, K[rb]? = some (.loop r)) (hJa : ∀ ts K X, J ts K → J ts (K ++ X))
    (hy : ∀ ts t K, J ts K → ts.length < 4096 → ∃ K', AYields Tryz.prog rb [.agg (Tok.cells t).toArray, i64 0] K (.bool true) K' ∧ J (ts ++ [t]) K')
    (hx : ∀ ts (a : Nat) K, J ts K → ∃ K', AYields Tryz.prog rb [.agg (Tok.cells ⟨0, [], a⟩).toArray, i64 90] K (.bool false) K' ∧ Jx a K')
    (w : List Tok × Option Nat) (hk1 : ∀ K, w.2 = none → J w.1 K → k (.tuple #[]) K) (hk2 : ∀ K a, w.2 = some a → Jx a K → k (.tuple #[]) K) :
    ∀ (f : Nat) (a : Nat) (ts : List Tok) (K : AHeap) (s2 s4 s5 s6 s7 s8 s9 s10 s11 s12 s13 s14 s15 s16 s17 s18 s19 s20 s21 s22 s23 s24 s25 s26 s27 s28 s29 s30 s31 s32 s33 s34 s35 s36 s37 s38 s39 : Value), l.length - a ≤ f → a ≤ l.length → ts.length ≤ a → J ts K → w = (ts ++ (lexF l f a).1, (lexF l f a).2) →
      L85x0 (f + 1) k [yval rb, .pointer (some ⟨sp, 0, some 1⟩), s2, i64 a, s4, s5, s6, s7, s8, s9, s10, s11, s12, s13, s14, s15, s16, s17, s18, s19, s20, s21, s22, s23, s24, s25, s26, s27, s28, s29, s30, s31, s32, s33, s34, s35, s36, s37, s38, s39] K := by
  intro f
  induction f with
  | zero =>
    intro a ts K s2 s4 s5 s6 s7 s8 s9 s10 s11 s12 s13 s14 s15 s16 s17 s18 s19 s20 s21 s22 s23 s24 s25 s26 s27 s28 s29 s30 s31 s32 s33 s34 s35 s36 s37 s38 s39 hf ha hts hJ hw
    have hc := hJs ts K hJ
    rw [L85x0q]
    have : ¬ a < l.length := by omega
    simp [hc, this]
    refine hk1 K ?_ ?_
    · rw [hw]; rfl
    · rw [hw]; simpa [lexF] using hJ
  | succ f ih =>
    intro a ts K s2 s4 s5 s6 s7 s8 s9 s10 s11 s12 s13 s14 s15 s16 s17 s18 s19 s20 s21 s22 s23 s24 s25 s26 s27 s28 s29 s30 s31 s32 s33 s34 s35 s36 s37 s38 s39 hf ha hts hJ hw
    have hc := hJs ts K hJ
    rw [L85x0q]
    by_cases hlt : a < l.length
    · simp [hc, hlt]
      refine bndC_of (c_one (by omega) hlt) ?_
      have hle := oneF_le (l.drop a) a
      rw [List.length_drop] at hle
      rw [lexF, if_pos hlt] at hw
      generalize oneF (l.drop a) a = o at hw hle ⊢
      obtain ⟨t, n⟩ := o
      simp only at hw hle
      simp [Tok.cells]
      refine kifB_bool (fun h => ?_) (fun h => ?_)
      · have hn : n = 0 := by simpa using h
        rw [if_pos hn] at hw
        obtain ⟨K', q1, q2⟩ := hx ts a _ (hJa ts K [.cells t.cells 121] hJ)
        simp
        refine bndV_yield (hJr ts _ (hJa ts K _ hJ)) (by simpa [Tok.cells] using q1) ?_
        exact hk2 K' a (by rw [hw]) q2
      · have hn : n ≠ 0 := by simpa using h
        rw [if_neg hn] at hw
        obtain ⟨K', q1, q2⟩ := hy ts t _ (hJa ts K [.cells t.cells 121] hJ) (by omega)
        simp
        refine bndV_yield (hJr ts _ (hJa ts K _ hJ)) (by simpa [Tok.cells] using q1) ?_
        have hc' := hJs _ K' q2
        have hwr : IntKind.i64.wrap ((a : Int) + n) = ((a + n : Nat) : Int) := by rw [wrap_i64 (by omega) (by omega)]; simp
        simp only [unV_not, bnd_some, Bool.not_true, kifB_false, aBin_add, hwr]
        simp [hc']
        refine bndC_of (c_skip (by omega) (by omega)) ?_
        have h1 := skipN_le (l := l) (a := a + n) (by omega)
        have h2 := skipN_ge l (a + n)
        exact ih (skipN l (a + n)) (ts ++ [t]) K' _ _ _ _ _ _ _ _ _ _ _ _ _ _ _ _ _ _ _ _ _ _ _ _ _ _ _ _ _ _ _ _ _ _ _ _ _ (by omega) h1 (by simp; omega) q2 (by rw [hw]; simp)
    · rw [lexF, if_neg hlt] at hw
      simp [hc, hlt]
      refine hk1 K ?_ ?_
      · rw [hw]
      · rw [hw]; simpa using hJ

theorem c_tell (H : AHeap) (l : List UInt8) : ACalls Tryz.prog 67 [str l] H (.func (.func 85) #[] #[.pointer (some ⟨H.length, 0, some 1⟩)]) (H ++ [.cells [str l] 9]) := by
  refine acalls_of MixT Tryz.func67 (by decide) ?_
  rw [d67]
  simp [aNew]
/-- All tokens, where there is none, an error. -/
def allTok (l : List UInt8) : List Tok × Nat × Int :=
  if 4096 < l.length then ([], 0, 3) else match (lexF l (l.length + 1) (skipN l 0)).2 with
    | none => ((lexF l (l.length + 1) (skipN l 0)).1, 0, 0)
    | some a => ([], a, 90)
theorem c_tell1 {l : List UInt8} {sp : Nat} {rb : Nat} {J : List Tok → AHeap → Prop} {Jx : Nat → Int → AHeap → Prop} {K : AHeap} 
    (hJs : ∀ ts K, J ts K → hcells K sp = some [str l]) (hJr : ∀ ts K, J ts K → ∃ r, K[rb]? = some (.loop r)) (hJa : ∀ ts K X, J ts K → J ts (K ++ X))
    (hy : ∀ ts t K, J ts K → ts.length < 4096 → ∃ K', AYields Tryz.prog rb [.agg (Tok.cells t).toArray, i64 0] K (.bool true) K' ∧ J (ts ++ [t]) K')
    (hx : ∀ ts (a : Nat) (e : Int) K, e ≠ 0 → J ts K → ∃ K', AYields Tryz.prog rb [.agg (Tok.cells ⟨0, [], a⟩).toArray, i64 e] K (.bool false) K' ∧ Jx a e K') (hJ : J [] K) :
    ∃ v K', (((allTok l).2.2 = 0 ∧ J (allTok l).1 K') ∨ ((allTok l).1 = [] ∧ (allTok l).2.2 ≠ 0 ∧ Jx (allTok l).2.1 (allTok l).2.2 K')) ∧ ACalls Tryz.prog 85 [yval rb, .pointer (some ⟨sp, 0, some 1⟩)] K v K' := by
  refine acalls_ex MixT Tryz.func85 (by decide) ?_
  rw [d85]
  have hc := hJs [] K hJ
  by_cases h4 : 4096 < l.length
  · have h4I : (4096 : Int) < l.length := by omega
    simp [hc, h4I]
    obtain ⟨K', q1, q2⟩ := hx [] 0 3 K (by simp) hJ
    refine bndV_yield (hJr [] K hJ) (by simpa [Tok.cells] using q1) ?_
    right
    simp [allTok, h4]
    exact q2
  · have h4I : ¬ (4096 : Int) < l.length := by omega
    simp [hc, h4I]
    have hs := c_skip (H := K) (l := l) (a := 0) (by omega) (by omega)
    rw [show ((0 : Nat) : Int) = 0 from rfl] at hs
    refine bndC_of hs ?_
    have h1 := skipN_le (l := l) (a := 0) (by omega)
    refine ⟨l.length + 1 + 1, tell_loop (J := J) (Jx := fun a K => Jx a 90 K) (by omega) hJs hJr hJa hy (fun ts a K h => hx ts a 90 K (by simp) h) (lexF l (l.length + 1) (skipN l 0)) ?_ ?_ (l.length + 1) (skipN l 0) [] K _ _ _ _ _ _ _ _ _ _ _ _ _ _ _ _ _ _ _ _ _ _ _ _ _ _ _ _ _ _ _ _ _ _ _ _ _ (by omega) h1 (by simp) hJ (by simp)⟩
    · intro K' e1 e2
      left
      simp [allTok, h4, e1]
      exact e2
    · intro K' a e1 e2
      right
      simp [allTok, h4, e1]
      exact e2

/-- Tokens in memory. -/
def ToksAt (H : AHeap) (v : Value) (ts : List Tok) : Prop := Arr H 3 v (ts.map Tok.cells)
structure AllJ (H : AHeap) (l : List UInt8) (sl : List Value) (ps : Array Tmp) (assign body : Code) (ts : List Tok) (K : AHeap) : Prop where
  pre : Pre H K
  len : H.length + 7 ≤ K.length
  r1 : K[H.length]? = some (.cells [.slice none 0 0] 82)
  r2 : K[H.length + 1]? = some (.cells [i64 0] 3)
  r3 : K[H.length + 2]? = some (.cells [i64 0] 28)
  r4 : ∃ lv, K[H.length + 3]? = some (.cells [lv] 82) ∧ Gro K (H.length + 7) 3 121 lv (ts.map Tok.cells)
  r5 : K[H.length + 4]? = some (.cells [str l] 9)
  r6 : K[H.length + 5]? = some (.loop .blk)
  r7 : K[H.length + 6]? = some (.loop (.run sl ps assign body .ready none))
theorem AllJ.app {H l sl ps assign body ts K} (h : AllJ H l sl ps assign body ts K) (X : AHeap) : AllJ H l sl ps assign body ts (K ++ X) := by
  obtain ⟨lv, g1, g2⟩ := h.r4
  exact ⟨h.pre.more X, by have := h.len; simp; omega, get_more h.r1, get_more h.r2, get_more h.r3, ⟨lv, get_more g1, g2.app⟩, get_more h.r5, get_more h.r6, get_more h.r7⟩
structure AllX (H : AHeap) (sl : List Value) (ps : Array Tmp) (assign body : Code) (a : Nat) (e : Int) (K : AHeap) : Prop where
  pre : Pre H K
  r1 : K[H.length]? = some (.cells [.slice none 0 0] 82)
  r2 : K[H.length + 1]? = some (.cells [i64 a] 3)
  r3 : K[H.length + 2]? = some (.cells [i64 e] 28)
  r6 : K[H.length + 5]? = some (.loop .blk)
  r7 : K[H.length + 6]? = some (.loop (.run sl ps assign body .done (some .ret)))
noncomputable abbrev allA : Code := cl (cl (cr (cl (cr (cr (cb Tryz.f45))))))
noncomputable abbrev allB : Code := cr (cl (cr (cl (cr (cr (cb Tryz.f45))))))
def allSl (H : AHeap) (l : List UInt8) (fv : Value) : List Value := [str l, undef, .pointer (some ⟨H.length, 0, some 1⟩), .pointer (some ⟨H.length + 1, 0, some 1⟩), .pointer (some ⟨H.length + 2, 0, some 1⟩), .pointer (some ⟨H.length + 3, 0, some 1⟩), undef, undef, str l, fv, undef, undef, undef, undef, undef, undef, undef, undef, undef, undef, undef, undef]
theorem tel1 : aElem Tryz.prog 82 = some (121, 3, 32) := by kernel_rfl
theorem tel2 : isSeq Tryz.prog 82 = true := by kernel_rfl
theorem all_yield {H : AHeap} {l : List UInt8} {fv : Value} {ts : List Tok} {t : Tok} {K : AHeap} (hJ : AllJ H l (allSl H l fv) #[10, 11] allA allB ts K) (hts : ts.length < 4096) :
    ∃ K', AYields Tryz.prog (H.length + 6) [.agg t.cells.toArray, i64 0] K (.bool true) K' ∧ AllJ H l (allSl H l fv) #[10, 11] allA allB (ts ++ [t]) K' := by
  have key : ∃ v K', (v = .bool true ∧ AllJ H l (allSl H l fv) #[10, 11] allA allB (ts ++ [t]) K') ∧ AYields Tryz.prog (H.length + 6) [.agg t.cells.toArray, i64 0] K v K' := by
    refine ayields_ex MixT ?_
    unfold kround
    have h7 := hJ.r7
    rw [h7]
    refine ⟨rfl, ?_⟩
    have hsl : yput (allSl H l fv) (#[10, 11] : Array Tmp).toList [.agg t.cells.toArray, i64 0] = [str l, undef, .pointer (some ⟨H.length, 0, some 1⟩), .pointer (some ⟨H.length + 1, 0, some 1⟩), .pointer (some ⟨H.length + 2, 0, some 1⟩), .pointer (some ⟨H.length + 3, 0, some 1⟩), undef, undef, str l, fv, .agg t.cells.toArray, i64 0, undef, undef, undef, undef, undef, undef, undef, undef, undef, undef] := rfl
    rw [hsl, R45x0A]
    simp [Tok.cells]
    refine ⟨get_more h7, ?_⟩
    rw [R45x0B]
    have hKl := hJ.len
    generalize hB : AObj.loop (.run (allSl H l fv) #[10, 11] allA allB .busy none) = bus
    generalize hK1 : (K ++ [AObj.cells [.int .u8 t.kind, str t.text, i64 t.at'] 121]).set (H.length + 6) bus = K1
    have hL1 : K1.length = K.length + 1 := by rw [← hK1]; simp
    have hget : ∀ (b : Nat) (o : AObj), b ≠ H.length + 6 → K[b]? = some o → K1[b]? = some o := fun b o hb ho => by rw [← hK1, List.getElem?_set_ne (by omega)]; exact get_more ho
    have hx : K1[K.length]? = some (.cells [.int .u8 t.kind, str t.text, i64 t.at'] 121) := by rw [← hK1, List.getElem?_set_ne (by omega)]; simp
    have hbus : K1[H.length + 6]? = some bus := by rw [← hK1]; rw [List.getElem?_set_self (by simp; omega)]
    obtain ⟨lv, g1, g2⟩ := hJ.r4
    have g1' := hget _ _ (by omega) g1
    have g2' : Gro K1 (H.length + 7) 3 121 lv (ts.map Tok.cells) := by rw [← hK1]; exact g2.app.set (by omega)
    have hc1 : hcells K1 (H.length + 3) = some [lv] := by simp [hcells, g1']
    have hc2 : hcells K1 K.length = some [.int .u8 t.kind, str t.text, i64 t.at'] := by simp [hcells, hx]
    simp [hc1, hc2]
    have hlit := sliceLitA (c := t.cells) (tbs82 K1 1 _) (by rfl) (by simp [Tok.cells]) (by simp)
    simp only [Tok.cells, List.length_cons, List.length_nil] at hlit
    refine bndL_lit hlit ?_
    have hp1 : Pre H K1 := by rw [← hK1]; exact (hJ.pre.more _).set (by omega)
    have g2'' := g2'.app (X := [AObj.cells [.int .u8 t.kind, str t.text, i64 t.at'] 121])
    obtain ⟨v', K2, p1, p2, p3, p4, p5⟩ := Gro.push (P := Tryz.prog) (Ts := 82) (by_ := 32) (x := .slice (some ⟨K1.length, 0, some 3⟩) 1 1) (c := t.cells) g2'' tel1 tel2 (by rfl) (by simp; omega) (by simp [aSrc, Tok.cells]) (by simp; omega) (by simp; omega)
    have p6 := p3 (H.length + 3) _ (by omega) (get_more g1')
    have hv1 : v'.oneCell' = true := p2.one
    simp [p1, p6, Gro.cells p2, Gro.stor p2]
    have hj : jumpOf AExit.normal = none := rfl
    have hL2 : K1.length < K2.length := by have := p4; simp at this; omega
    refine ⟨p3 _ _ (by omega) (get_more hbus), hj, ?_⟩
    simp only [hj, if_true]
    have hg : ∀ (b : Nat) (o : AObj) (x y : AObj), b < H.length + 7 → b ≠ H.length + 6 → b ≠ H.length + 3 → K[b]? = some o → ((K2.set (H.length + 3) x).set (H.length + 6) y)[b]? = some o := fun b o x y h1 h2 h3 h4 => by
      rw [List.getElem?_set_ne (by omega), List.getElem?_set_ne (by omega)]
      exact p3 _ _ h1 (get_more (hget _ _ h2 h4))
    refine ⟨((p5 H (hp1.more _) (by omega)).set (by omega)).set (by omega), by simp; omega, hg _ _ _ _ (by omega) (by omega) (by omega) hJ.r1, hg _ _ _ _ (by omega) (by omega) (by omega) hJ.r2, hg _ _ _ _ (by omega) (by omega) (by omega) hJ.r3, ⟨v', ?_, ?_⟩, hg _ _ _ _ (by omega) (by omega) (by omega) hJ.r5, hg _ _ _ _ (by omega) (by omega) (by omega) hJ.r6, ?_⟩
    · rw [List.getElem?_set_ne (by omega), List.getElem?_set_self (by omega)]
    · rw [List.map_append]
      exact (p2.set (by omega)).set (by omega)
    · rw [List.getElem?_set_self (by simp; omega)]
  obtain ⟨v, K', ⟨rfl, h⟩, hy⟩ := key
  exact ⟨K', hy, h⟩

theorem all_err {H : AHeap} {l : List UInt8} {fv : Value} {ts : List Tok} {a : Nat} {e : Int} {K : AHeap} (he : e ≠ 0) (hJ : AllJ H l (allSl H l fv) #[10, 11] allA allB ts K) :
    ∃ K', AYields Tryz.prog (H.length + 6) [.agg (Tok.cells ⟨0, [], a⟩).toArray, i64 e] K (.bool false) K' ∧ AllX H (allSl H l fv) #[10, 11] allA allB a e K' := by
  have key : ∃ v K', (v = .bool false ∧ AllX H (allSl H l fv) #[10, 11] allA allB a e K') ∧ AYields Tryz.prog (H.length + 6) [.agg (Tok.cells ⟨0, [], a⟩).toArray, i64 e] K v K' := by
    refine ayields_ex MixT ?_
    unfold kround
    have h7 := hJ.r7
    rw [h7]
    refine ⟨rfl, ?_⟩
    have hsl : yput (allSl H l fv) (#[10, 11] : Array Tmp).toList [.agg (Tok.cells ⟨0, [], a⟩).toArray, i64 e] = [str l, undef, .pointer (some ⟨H.length, 0, some 1⟩), .pointer (some ⟨H.length + 1, 0, some 1⟩), .pointer (some ⟨H.length + 2, 0, some 1⟩), .pointer (some ⟨H.length + 3, 0, some 1⟩), undef, undef, str l, fv, .agg (Tok.cells ⟨0, [], a⟩).toArray, i64 e, undef, undef, undef, undef, undef, undef, undef, undef, undef, undef] := rfl
    rw [hsl, R45x0A]
    simp [Tok.cells]
    refine ⟨get_more h7, ?_⟩
    rw [R45x0B]
    have hKl := hJ.len
    have heb : (e != 0) = true := by simpa using he
    simp
    generalize hB : AObj.loop (.run (allSl H l fv) #[10, 11] allA allB .busy none) = bus
    generalize hK1 : (K ++ [AObj.cells [.int .u8 0, str [], i64 a] 121]).set (H.length + 6) bus = K1
    have hL1 : K1.length = K.length + 1 := by rw [← hK1]; simp
    have hget : ∀ (b : Nat) (o : AObj), b ≠ H.length + 6 → K[b]? = some o → K1[b]? = some o := fun b o hb ho => by rw [← hK1, List.getElem?_set_ne (by omega)]; exact get_more ho
    have hx : K1[K.length]? = some (.cells [.int .u8 0, str [], i64 a] 121) := by rw [← hK1, List.getElem?_set_ne (by omega)]; simp
    have hc2 : hcells K1 K.length = some [.int .u8 0, str [], i64 a] := by simp [hcells, hx]
    have q1 := hget _ _ (by omega) hJ.r1
    have q2 := hget _ _ (by omega) hJ.r2
    have q3 := hget _ _ (by omega) hJ.r3
    have q6 := hget _ _ (by omega) hJ.r6
    have hl2 : hlen K1 K.length = some 3 := by simp [hlen, hx]
    rw [heb]
    simp [hc2, hl2]
    have hs1 : aStore Tryz.prog K1 82 (.pointer (some ⟨H.length, 0, some 1⟩)) (.slice none 0 0) = some K1 := by
      simp [q1]
      exact set_same q1
    refine bndD_of ⟨rfl, hs1⟩ (.inr ⟨[], by simp⟩) ?_
    refine bndD_of (v := undef) (H' := K1.set (H.length + 1) (.cells [i64 a] 3)) ⟨rfl, by simp [q2]⟩ (.inl rfl) ?_
    have hne : ∀ (b c : Nat) (x : AObj), b ≠ c → (K1.set b x)[c]? = K1[c]? := fun b c x h => List.getElem?_set_ne h
    refine bndD_of (v := undef) (H' := (K1.set (H.length + 1) (.cells [i64 a] 3)).set (H.length + 2) (.cells [i64 e] 28)) ⟨rfl, by simp [q3, hne]⟩ (.inl rfl) ?_
    simp
    have hj : jumpOf AExit.ret = some .ret := rfl
    have hbus : K1[H.length + 6]? = some bus := by rw [← hK1]; rw [List.getElem?_set_self (by simp; omega)]
    have hp1 : Pre H K1 := by rw [← hK1]; exact (hJ.pre.more _).set (by omega)
    refine ⟨hbus, by rw [hj]; rfl, ?_⟩
    simp only [hj, reduceCtorEq, if_false]
    refine ⟨((hp1.set (by omega)).set (by omega)).set (by omega), ?_, ?_, ?_, ?_, ?_⟩
    · simp [q1]
    · rw [List.getElem?_set_ne (by omega), List.getElem?_set_ne (by omega), List.getElem?_set_self (by omega)]
    · rw [List.getElem?_set_ne (by omega), List.getElem?_set_self (by simp; omega)]
    · simp [q6]
    · rw [List.getElem?_set_self (by simp; omega)]
  obtain ⟨v, K', ⟨rfl, h⟩, hy⟩ := key
  exact ⟨K', hy, h⟩
theorem allTok_zero {l : List UInt8} (h : (allTok l).2.2 = 0) : (allTok l).2.1 = 0 := by
  unfold allTok at *
  by_cases h4 : 4096 < l.length
  · simp [h4] at h
  · rw [if_neg h4] at h ⊢
    split at h <;> first | rfl | simp at h
theorem c_lexAll (H : AHeap) (l : List UInt8) : ∃ v K', (∃ lv, v = .tuple #[lv, i64 (allTok l).2.1, i64 (allTok l).2.2] ∧ Pre H K' ∧ ToksAt K' lv (allTok l).1) ∧ ACalls Tryz.prog 45 [str l] H v K' := by
  refine acallsG_ex MixT Tryz.func45 (by decide) ?_
  rw [d45]
  simp
  refine bndC_of (c_tell _ _) ?_
  simp [krange]
  refine ⟨by kernel_rfl, ?_⟩
  rw [show H.length + 5 + 1 = H.length + 6 from rfl]
  generalize hfv : Value.func (Fn.func 85) #[] #[Value.pointer (some { block := H.length + 4, off := 0, spot := some 1 })] = fv
  generalize hK0 : (H ++ _ : AHeap) = K0
  have hJ : AllJ H l (allSl H l fv) #[10, 11] allA allB [] K0 := by
    subst hK0
    refine ⟨.app _ _, by simp, ?_, ?_, ?_, ⟨_, ?_, .nil⟩, ?_, ?_, ?_⟩ <;> simp <;> rfl
  obtain ⟨v, K', hd, hc⟩ := c_tell1 (l := l) (sp := H.length + 4) (rb := H.length + 6) (J := fun ts K => AllJ H l (allSl H l fv) #[10, 11] allA allB ts K) (Jx := fun a e K => AllX H (allSl H l fv) #[10, 11] allA allB a e K)
    (fun ts K h => by simp [hcells, h.r5]) (fun ts K h => ⟨_, h.r7⟩) (fun ts K X h => h.app X) (fun ts t K h ht => all_yield h ht) (fun ts a e K he h => all_err he h) hJ
  refine ⟨v, K', hc, ?_⟩
  rcases hd with ⟨e0, h⟩ | ⟨e1, e0, h⟩
  · obtain ⟨lv, g1, g2⟩ := h.r4
    have hL := h.len
    have hne : ∀ (b c : Nat) (x : AObj) (K : AHeap), b ≠ c → (K.set b x)[c]? = K[c]? := fun b c x K h => List.getElem?_set_ne h
    have hnc : ∀ (b c : Nat) (x : AObj) (K : AHeap), b ≠ c → hcells (K.set b x) c = hcells K c := fun b c x K h => by rw [hcells_eq, hcells_eq, hne _ _ _ _ h]
    have c1 : hcells K' (H.length + 3) = some [lv] := by simp [hcells_eq, g1]
    have hst := g2.stor
    unfold rngEnd
    simp [h.r7, kjump, allSl]
    rw [R45x0n]
    have hself0 : ∀ X (cs : List Value) (T : TypeId), hcells ((K'.set (H.length + 6) X).set H.length (.cells cs T)) H.length = some cs := fun X cs T => by
      rw [hcells_eq, List.getElem?_set_self (by simp; omega)]; rfl
    have hself1 : ∀ X Y (cs : List Value) (T : TypeId), hcells (((K'.set (H.length + 6) X).set H.length Y).set (H.length + 1) (.cells cs T)) (H.length + 1) = some cs := fun X Y cs T => by
      rw [hcells_eq, List.getElem?_set_self (by simp; omega)]; rfl
    have hself2 : ∀ X Y Z (cs : List Value) (T : TypeId), hcells ((((K'.set (H.length + 6) X).set H.length Y).set (H.length + 1) Z).set (H.length + 2) (.cells cs T)) (H.length + 2) = some cs := fun X Y Z cs T => by
      rw [hcells_eq, List.getElem?_set_self (by simp; omega)]; rfl
    simp [hne, hnc, hself0, hself1, hself2, c1, h.r1, h.r2, h.r3, h.r6, g2.cells, hst]
    exact ⟨lv, ⟨rfl, by rw [allTok_zero e0]; rfl, e0.symm⟩, ((((h.pre.set (by omega)).set (by omega)).set (by omega)).set (by omega)).set (by omega), (((((g2.set (by omega)).set (by omega)).set (by omega)).set (by omega)).set (by omega)).arr⟩
  · have hne : ∀ (b c : Nat) (x : AObj) (K : AHeap), b ≠ c → (K.set b x)[c]? = K[c]? := fun b c x K h => List.getElem?_set_ne h
    have hnc : ∀ (b c : Nat) (x : AObj) (K : AHeap), b ≠ c → hcells (K.set b x) c = hcells K c := fun b c x K h => by rw [hcells_eq, hcells_eq, hne _ _ _ _ h]
    have c1 : hcells K' (H.length) = some [.slice none 0 0] := by simp [hcells_eq, h.r1]
    have c2 : hcells K' (H.length + 1) = some [i64 (allTok l).2.1] := by simp [hcells_eq, h.r2]
    have c3 : hcells K' (H.length + 2) = some [i64 (allTok l).2.2] := by simp [hcells_eq, h.r3]
    unfold rngEnd
    simp [h.r7, kjump, allSl]
    rw [R45x0r]
    simp [hne, hnc, c1, c2, c3, h.r6, e1]
    exact ⟨(h.pre.set (by omega)).set (by omega), .nil⟩
end Go.Vi
namespace Go.Vi
open Go Go.Proofs

@[simp] theorem nilV_ptr (b o m : Nat) : nilV (.pointer (some ⟨b, o, some m⟩)) = some (.pointer (some ⟨b, o, some m⟩)) := rfl
def rdo (lv : Value) (a : Nat) (ok : Bool) : AObj := .cells [lv, i64 a, .bool ok] 89
/-- A reader of tokens that lie in memory `H`. -/
structure RdA (H K : AHeap) (rb : Nat) (lv : Value) (ts : List Tok) (a : Nat) (ok : Bool) : Prop where
  toks : ToksAt H lv ts
  pre : Pre H K
  hb : H.length ≤ rb
  cell : K[rb]? = some (rdo lv a ok)
  len : ts.length < 2 ^ 40
  le : a ≤ ts.length
def isT (ts : List Tok) (a : Nat) (k : Int) (s : List UInt8) : Bool := (ts[a]?).any fun t => t.kind == k && t.text == s
theorem RdA.lt {H K rb lv ts a ok} (h : RdA H K rb lv ts a ok) : rb < K.length := (List.getElem?_eq_some_iff.1 h.cell).1
theorem RdA.app {H K rb lv ts a ok} (h : RdA H K rb lv ts a ok) (X : AHeap) : RdA H (K ++ X) rb lv ts a ok := ⟨h.toks, h.pre.more X, h.hb, get_more h.cell, h.len, h.le⟩
theorem RdA.put {H K rb lv ts a ok} (h : RdA H K rb lv ts a ok) (a' : Nat) (ok' : Bool) (ha : a' ≤ ts.length) : RdA H (K.set rb (rdo lv a' ok')) rb lv ts a' ok' :=
  ⟨h.toks, h.pre.set h.hb, h.hb, by rw [List.getElem?_set_self h.lt], h.len, ha⟩
/-- A token's place, kind and text. -/
theorem toksAt_at {K : AHeap} {lv : Value} {ts : List Tok} {a : Nat} {t : Tok} (h : ToksAt K lv ts) (ht : ts[a]? = some t) :
    ∃ p q r, aIndexAddr Tryz.prog K 82 lv (i64 a) = some p ∧ aFieldAddr Tryz.prog K 121 p 0 = some q ∧ aLoad Tryz.prog K 5 q = some (.int .u8 t.kind) ∧ aFieldAddr Tryz.prog K 121 p 1 = some r ∧ aLoad Tryz.prog K 9 r = some (str t.text) := by
  have hi : (ts.map Tok.cells)[a]? = some t.cells := by simp [ht]
  obtain ⟨p, q, h1, h2, h3⟩ := h.field (P := Tryz.prog) (T := 82) (te := 121) (f := 0) (d := 0) (ft := 5) (by simp) (by simp) (by simp) (by simp) (by simp) hi rfl
  obtain ⟨p', r, h4, h5, h6⟩ := h.field (P := Tryz.prog) (T := 82) (te := 121) (f := 1) (d := 1) (ft := 9) (by simp) (by simp) (by simp) (by simp) (by simp) hi rfl
  rw [h1] at h4
  cases h4
  exact ⟨p, q, r, h1, h2, h3, h5, h6⟩
theorem c_is {H K rb lv ts a ok} (h : RdA H K rb lv ts a ok) (k : Int) (s : List UInt8) :
    ACalls Tryz.prog 88 [(Value.pointer (some ⟨rb, 0, some 3⟩)), .int .u8 k, str s] K (.bool (ok && isT ts a k s)) K := by
  refine acalls_pure MixT Tryz.func88 (by decide) rfl ?_
  rw [d88]
  have hc := h.cell
  have hcc : hcells K rb = some [lv, i64 a, .bool ok] := by simp [hcells_eq, hc, rdo]
  have hll : hlen K rb = some 3 := by simp [hlen, hc, rdo]
  have hl := (h.toks.pre h.pre).len (P := Tryz.prog) (T := 82) (e := 121) (by simp)
  simp at hl
  cases ok with
  | false => simp [hcc, hll]
  | true =>
    simp [hcc, hll, hl]
    by_cases ha : a < ts.length
    · obtain ⟨t, ht⟩ : ∃ t, ts[a]? = some t := ⟨_, List.getElem?_eq_getElem ha⟩
      obtain ⟨p, q, r, e1, e2, e3, e4, e5⟩ := toksAt_at (h.toks.pre h.pre) ht
      have hT : isT ts a k s = (t.kind == k && t.text == s) := by simp [isT, ht]
      rw [hT]
      simp [ha, hcc, hll, e1, e2, e3]
      by_cases hk : (t.kind == k) = true
      · simp [hk, hcc, hll, e1, e4, e5]
        exact Bool.eq_iff_iff.2 (by simp)
      · simp only [Bool.not_eq_true] at hk
        simp [hk]
    · simp [ha, isT]
theorem isT_lt {ts a k s} (h : isT ts a k s = true) : a < ts.length := by
  unfold isT at h
  by_cases ha : a < ts.length
  · exact ha
  · rw [List.getElem?_eq_none (by omega)] at h; cases h
theorem c_takes_y {H K rb lv ts a} (h : RdA H K rb lv ts a true) {k : Int} {s : List UInt8} (ht : isT ts a k s = true) :
    ACalls Tryz.prog 69 [(Value.pointer (some ⟨rb, 0, some 3⟩)), .int .u8 k, str s] K (.bool true) (K.set rb (rdo lv (a + 1) true)) := by
  refine acalls_of MixT Tryz.func69 (by decide) ?_
  rw [d69]
  refine bndC_of (c_is h k s) ?_
  have hlt := isT_lt ht
  have hc := h.cell
  have hcc : hcells K rb = some [lv, i64 a, .bool true] := by simp [hcells_eq, hc, rdo]
  have hll : hlen K rb = some 3 := by simp [hlen, hc, rdo]
  have hw : IntKind.i64.wrap ((a : Int) + 1) = (a : Int) + 1 := wrap_i64 (by omega) (by have := h.len; omega)
  simp only [rdo] at hc
  simp only [ht, Bool.true_and]
  simp [hcc, hll, hc, rdo, hw, ht, S69x0q]
theorem c_takes_n {H K rb lv ts a ok} (h : RdA H K rb lv ts a ok) {k : Int} {s : List UInt8} (ht : (ok && isT ts a k s) = false) :
    ACalls Tryz.prog 69 [(Value.pointer (some ⟨rb, 0, some 3⟩)), .int .u8 k, str s] K (.bool false) K := by
  refine acalls_of MixT Tryz.func69 (by decide) ?_
  rw [d69]
  refine bndC_of (c_is h k s) ?_
  simp [ht, S69x0q]
theorem c_sign_y {H K rb lv ts a} (h : RdA H K rb lv ts a true) {s : List UInt8} (ht : isT ts a 4 s = true) :
    ACalls Tryz.prog 70 [(Value.pointer (some ⟨rb, 0, some 3⟩)), str s] K (.tuple #[]) (K.set rb (rdo lv (a + 1) true)) := by
  refine acalls_of MixT Tryz.func70 (by decide) ?_
  rw [d70]
  refine bndC_of (c_takes_y h ht) ?_
  have hlt := h.lt
  have hc : (K.set rb (rdo lv (a + 1) true))[rb]? = some (rdo lv (a + 1) true) := List.getElem?_set_self hlt
  generalize K.set rb (rdo lv (a + 1) true) = L at hc
  have hll : hlen L rb = some 3 := by simp [hlen, hc, rdo]
  simp [hll, hc, rdo]
  exact set_same hc
theorem c_take_y {H K rb lv ts a} (h : RdA H K rb lv ts a true) {t : Tok} (ht : ts[a]? = some t) :
    ACalls Tryz.prog 117 [(Value.pointer (some ⟨rb, 0, some 3⟩)), .int .u8 t.kind] K (str t.text) (K.set rb (rdo lv (a + 1) true)) := by
  refine acalls_of MixT Tryz.func117 (by decide) ?_
  rw [d117]
  have hlt := (List.getElem?_eq_some_iff.1 ht).1
  have hc := h.cell
  have hcc : hcells K rb = some [lv, i64 a, .bool true] := by simp [hcells_eq, hc, rdo]
  have hll : hlen K rb = some 3 := by simp [hlen, hc, rdo]
  have hl := (h.toks.pre h.pre).len (P := Tryz.prog) (T := 82) (e := 121) (by simp)
  simp at hl
  obtain ⟨p, q, r, e1, e2, e3, e4, e5⟩ := toksAt_at (h.toks.pre h.pre) ht
  have hw : IntKind.i64.wrap ((a : Int) + 1) = (a : Int) + 1 := wrap_i64 (by omega) (by have := h.len; omega)
  have hlt2 : ¬ (ts.length ≤ a) := by omega
  simp only [rdo] at hc
  simp [hcc, hll, hl, hlt2, e1, e2, e3, hc, hw]
  have hL := (h.put (a + 1) true (by omega)).cell
  have hpL := (h.put (a + 1) true (by omega)).pre
  simp only [rdo, Int.natCast_add, Int.natCast_one] at hL hpL
  generalize hLd : K.set rb (AObj.cells [lv, i64 (a + 1), .bool true] 89) = L at hL hpL ⊢
  have hcL : hcells L rb = some [lv, i64 (a + 1), .bool true] := by simp [hcells_eq, hL]
  have hlL : hlen L rb = some 3 := by simp [hlen, hL]
  have hw2 : IntKind.i64.wrap (a : Int) = a := wrap_i64 (by omega) (by have := h.len; omega)
  obtain ⟨p, q, r, e1, e2, e3, e4, e5⟩ := toksAt_at (h.toks.pre hpL) ht
  simp [hcL, hlL, hw2, e1, e4, e5]
  rw [← hLd]
  simp [rdo]

/-! ### What texts stand for -/
def nmapK : Nat → List (List UInt8) → List (Value × Value)
  | _, [] => []
  | k, s :: r => (str s, i64 k) :: nmapK (k + 1) r
theorem nmapK_app (s : List UInt8) : ∀ (l : List (List UInt8)) (k : Nat), nmapK k (l ++ [s]) = nmapK k l ++ [(str s, i64 ((k + l.length : Nat) : Int))] := by
  intro l
  induction l with
  | nil => intro k; rfl
  | cons t r ih =>
    intro k
    rw [List.cons_append, nmapK, ih, nmapK, List.length_cons, show k + 1 + r.length = k + (r.length + 1) by omega]
    rfl
theorem SMap.mono {Q R : List UInt8 → Value → Prop} (h : ∀ k v, Q k v → R k v) : ∀ {es ks}, SMap Q es ks → SMap R es ks := by
  intro es
  induction es with
  | nil => intro ks h; cases ks <;> exact h
  | cons e es ih => intro ks h; cases ks with
    | nil => exact h
    | cons k ks => exact ⟨h.1, ‹∀ k v, Q k v → R k v› _ _ h.2.1, ih h.2.2⟩
theorem nmapK_smap : ∀ (l : List (List UInt8)) (k : Nat), SMap (fun s v => ∃ i : Nat, v = i64 ((k + i : Nat) : Int) ∧ l[i]? = some s) (nmapK k l) l := by
  intro l
  induction l with
  | nil => intro k; trivial
  | cons t r ih =>
    intro k
    refine ⟨rfl, ⟨0, rfl, rfl⟩, (ih (k + 1)).mono ?_⟩
    rintro s v ⟨i, rfl, h⟩
    exact ⟨i + 1, by rw [show k + 1 + i = k + (i + 1) by omega], by simpa using h⟩
theorem nmap_put {l : List (List UInt8)} {i : Nat} {s : List UInt8} (hn : l.Nodup) (hi : l[i]? = some s) : mput (str s) (i64 i) (nmapK 0 (l.take i)) = nmapK 0 (l.take (i + 1)) := by
  have hlt := (List.getElem?_eq_some_iff.1 hi).1
  have hns : s ∉ l.take i := by
    intro hm
    obtain ⟨j, hj, hjs⟩ := List.getElem_of_mem hm
    have hj' : j < i := by simp at hj; omega
    have e1 : l[j] = s := by simpa using hjs
    have e2 : l[i] = s := (List.getElem?_eq_some_iff.1 hi).2
    exact List.pairwise_iff_getElem.1 hn j i (by omega) hlt hj' (e1.trans e2.symm)
  have htk : l.take (i + 1) = l.take i ++ [s] := by rw [List.take_add_one, hi]; rfl
  unfold mput
  rcases (nmapK_smap (l.take i) 0).find (k := s) with ⟨g1, _⟩ | ⟨_, g2⟩
  · exact absurd g1 hns
  · rw [g2, htk, nmapK_app]
    simp [Nat.min_eq_left (Nat.le_of_lt hlt)]
theorem named_loop {l : List (List UInt8)} {H : AHeap} {v : Value} {k : Value → AHeap → Prop} (hl : l.length < 2 ^ 40) (hn : l.Nodup) (ha : Arr H 1 v (strCells l)) (hk : k (.map (some H.length)) (H ++ [.map (nmapK 0 l)])) :
    ∀ (r : List (List UInt8)) (i : Nat) (s1 s2 s4 s5 s6 s10 s11 s12 s13 s14 s15 s16 s17 s18 : Value), l.drop i = r → i ≤ l.length →
      L116x0 (r.length + 1) k [v, s1, s2, .map (some H.length), s4, s5, s6, v, i64 l.length, i64 i, s10, s11, s12, s13, s14, s15, s16, s17, s18] (H ++ [.map (nmapK 0 (l.take i))]) := by
  intro r
  induction r with
  | nil =>
    intro i s1 s2 s4 s5 s6 s10 s11 s12 s13 s14 s15 s16 s17 s18 hd hi
    have hle : l.length ≤ i := by simpa using hd
    rw [List.length_nil, L116x0q, List.take_of_length_le hle]
    have : ¬ i < l.length := by omega
    simp [this]
    exact hk
  | cons s r ih =>
    intro i s1 s2 s4 s5 s6 s10 s11 s12 s13 s14 s15 s16 s17 s18 hd hi
    have hb : l[i]? = some s := by rw [← List.head?_drop, hd]; rfl
    have hlt : i < l.length := (List.getElem?_eq_some_iff.1 hb).1
    obtain ⟨q, hp1, hp2⟩ := (ha.pre (.app H [.map (nmapK 0 (l.take i))])).load1 (P := Tryz.prog) (T := 32) (te := 9) (i := i) (x := str s) (by simp) (by simp) (by simp) (by simp [strCells, hb])
    rw [List.length_cons, L116x0q]
    have hm : (H ++ [AObj.map (nmapK 0 (l.take i))])[H.length]? = some (.map (nmapK 0 (l.take i))) := by simp
    have hok := (nmapK_smap (l.take i) 0).ok
    have hset : (H ++ [AObj.map (nmapK 0 (l.take i))]).set H.length (.map (nmapK 0 (l.take (i + 1)))) = H ++ [.map (nmapK 0 (l.take (i + 1)))] := by simp
    simp only [aBin_lss, bnd_some, Int.ofNat_lt, hlt, decide_true, kifB_true, hp1, hp2]
    simp only [aUpdate_map, hm, tm93, Option.bind_some, mapOf_map, keyOk, hok, and_self, if_true, bndS_some, bnd_some, aBin_add, wrap_succ (show i + 1 < 2 ^ 63 by omega), nmap_put hn hb, hset]
    exact ih (i + 1) _ _ _ _ _ _ _ _ _ _ _ _ _ _ (by rw [← List.drop_drop, hd]; rfl) hlt
theorem c_named {l : List (List UInt8)} {H : AHeap} {v : Value} (hl : l.length < 2 ^ 40) (hn : l.Nodup) (ha : Arr H 1 v (strCells l)) :
    ACalls Tryz.prog 116 [v] H (.map (some H.length)) (H ++ [.map (nmapK 0 l)]) := by
  refine acalls_of MixT Tryz.func116 (by decide) ?_
  rw [d116]
  have hlen := (ha.pre (.app H [.map []])).len (P := Tryz.prog) (T := 32) (e := 9) (by simp)
  simp [strCells] at hlen
  simp [hlen]
  exact ⟨l.length + 1, named_loop hl hn ha ⟨rfl, rfl⟩ l 0 _ _ _ _ _ _ _ _ _ _ _ _ _ _ rfl (by omega)⟩
theorem nmap_get {l : List (List UInt8)} {i : Nat} {s : List UInt8} (hn : l.Nodup) (hi : l[i]? = some s) : mget (str s) (nmapK 0 l) = some (i64 i) := by
  rcases (nmapK_smap l 0).get (k := s) with ⟨_, v, g1, j, rfl, g2⟩ | ⟨g1, _⟩
  · have h1 := (List.getElem?_eq_some_iff.1 hi)
    have h2 := (List.getElem?_eq_some_iff.1 g2)
    obtain ⟨a1, a2⟩ := h1
    obtain ⟨b1, b2⟩ := h2
    have : i = j := by
      rcases Nat.lt_trichotomy i j with q | q | q
      · exact absurd (a2.trans b2.symm) (List.pairwise_iff_getElem.1 hn i j a1 b1 q)
      · exact q
      · exact absurd (b2.trans a2.symm) (List.pairwise_iff_getElem.1 hn j i b1 a1 q)
    subst this
    rw [g1, Nat.zero_add]
  · exact absurd (List.mem_of_getElem? hi) g1
theorem c_one_y {H K rb lv ts a} (h : RdA H K rb lv ts a true) {l : List (List UInt8)} {v : Value} {i : Nat} {t : Tok} (ha : Arr K 1 v (strCells l)) (hl : l.length ≤ 200) (hn : l.Nodup) (ht : ts[a]? = some t) (hi : l[i]? = some t.text) :
    ACalls Tryz.prog 89 [(Value.pointer (some ⟨rb, 0, some 3⟩)), .int .u8 t.kind, v] K (.int .u8 i) ((K ++ [AObj.map (nmapK 0 l)]).set rb (rdo lv (a + 1) true)) := by
  refine acalls_of MixT Tryz.func89 (by decide) ?_
  rw [d89]
  refine bndC_of (c_named (by omega) hn ha) ?_
  refine bndC_of (c_take_y (h.app _) ht) ?_
  have hlt := (List.getElem?_eq_some_iff.1 ht).1
  have hil := (List.getElem?_eq_some_iff.1 hi).1
  have hL := (h.app [AObj.map (nmapK 0 l)]).put (a + 1) true (by omega)
  have hrb := h.lt
  have hm : ((K ++ [AObj.map (nmapK 0 l)]).set rb (rdo lv (a + 1) true))[K.length]? = some (.map (nmapK 0 l)) := by rw [List.getElem?_set_ne (by omega)]; simp
  generalize (K ++ [AObj.map (nmapK 0 l)]).set rb (rdo lv (a + 1) true) = L at hL hm ⊢
  have hc := hL.cell
  have hcc : hcells L rb = some [lv, i64 (a + 1 : Nat), .bool true] := by rw [hcells_eq, hc]; rfl
  have hll : hlen L rb = some 3 := by unfold hlen; rw [hc]; rfl
  have hok := (nmapK_smap l 0).ok
  have hlk : aLookup Tryz.prog L 93 (.map (some K.length)) (str t.text) true = some (mres (some (i64 i)) undef true) := by
    rw [aLookup_map, hm]
    simp only [tm93, Option.bind_some, mapOf_map, keyOk, if_true, hok, nmap_get hn hi]
  dsimp only
  rw [hlk]
  have hw : IntKind.u8.wrap (i : Int) = i := wrap_u8 (by omega) (by omega)
  have hss := set_same hc
  simp only [rdo] at hc hss
  simp [mres, hcc, hll, hc, hw]
  exact hss
end Go.Vi
namespace Go.Vi
open Go Go.Proofs

theorem bnd_of {x : Option Value} {v : Value} {q : QV} (h : x = some v) (k : q.f v) : @bnd x q := by rw [h, bnd_some]; exact k
def hasPre (l p : List UInt8) : Bool := decide (p.length ≤ l.length) && decide (l.take p.length = p)
theorem c_hasPrefix0 (H : AHeap) (l p : List UInt8) : ACalls Tryz.prog 127 [str l, str p] H (.bool (hasPre l p)) H := by
  refine acalls_pure MixT Tryz.func127 (by decide) rfl ?_
  rw [d127]
  by_cases h : p.length ≤ l.length
  · have hs := aSliceOp_str (P := Tryz.prog) (H := H) (T := 9) (l := l) (lo := none) (hi := some (i64 p.length)) (a := 0) (b := p.length) (by simp) rfl rfl (by omega) (by omega) (by omega)
    simp at hs
    simp [h, hs, hasPre]
  · simp [h, hasPre]
theorem c_hasPrefix (H : AHeap) (l p : List UInt8) : ACalls Tryz.prog 102 [str l, str p] H (.bool (hasPre l p)) H := by
  refine acalls_pure MixT Tryz.func102 (by decide) rfl ?_
  rw [d102]
  exact bndC_of (c_hasPrefix0 _ _ _) (by simp)
def cutPre (l p : List UInt8) : List UInt8 := if hasPre l p = true then l.drop p.length else l
theorem c_cutPrefix0 (H : AHeap) (l p : List UInt8) : ACalls Tryz.prog 149 [str l, str p] H (.tuple #[str (cutPre l p), .bool (hasPre l p)]) H := by
  refine acallsT_pure MixT Tryz.func149 (by decide) rfl ?_
  rw [d149]
  refine bndC_of (c_hasPrefix0 _ _ _) ?_
  by_cases h : hasPre l p = true
  · have hle : p.length ≤ l.length := by unfold hasPre at h; simp at h; exact h.1
    have hs := aSliceOp_str (P := Tryz.prog) (H := H) (T := 9) (l := l) (lo := some (i64 p.length)) (hi := none) (a := p.length) (b := l.length) (by simp) rfl rfl (by omega) (by omega) (by omega)
    simp at hs
    simp [h, hs, cutPre]
  · simp only [Bool.not_eq_true] at h
    simp [h, cutPre]
theorem c_cutPrefix (H : AHeap) (l p : List UInt8) : ACalls Tryz.prog 134 [str l, str p] H (.tuple #[str (cutPre l p), .bool (hasPre l p)]) H := by
  refine acallsT_pure MixT Tryz.func134 (by decide) rfl ?_
  rw [d134]
  exact bndC_of (c_cutPrefix0 _ _ _) (by simp)
theorem and_lo (H : AHeap) (x y : Operand) : aBin2 Tryz.prog H .and 155 x y (.int .u64 1) (.int .u64 4294967295) = some (.int .u64 1) := by kernel_rfl
theorem and_lo2 (H : AHeap) (x y : Operand) : aBin2 Tryz.prog H .and 155 x y (.int .u64 2) (.int .u64 4294967295) = some (.int .u64 2) := by kernel_rfl
theorem and_lo3 (H : AHeap) (x y : Operand) : aBin2 Tryz.prog H .and 155 x y (.int .u64 3) (.int .u64 4294967295) = some (.int .u64 3) := by kernel_rfl
theorem and_lo0 (H : AHeap) (x y : Operand) : aBin2 Tryz.prog H .and 155 x y (.int .u64 0) (.int .u64 4294967295) = some (.int .u64 0) := by kernel_rfl
theorem c_hasZero (H : AHeap) : ACalls Tryz.prog 102 [str (List.replicate 64 48), str [48]] H (.bool true) H := by
  have := c_hasPrefix H (List.replicate 64 48) [48]
  rwa [show hasPre (List.replicate 64 48) [48] = true by decide] at this
theorem c_mul64 (H : AHeap) (n : Int) (hn : n = 2 ∨ n = 3) : ACalls Tryz.prog 161 [.int .u64 1, .int .u64 n] H (.tuple #[.int .u64 0, .int .u64 n]) H := by
  refine acallsT_pure MixT Tryz.func161 (by decide) rfl ?_
  rw [d161]
  have f1 : Int.fdiv 1 (2 ^ min 32 IntKind.u64.bits) = 0 := by decide
  have f2 : Int.fdiv 2 (2 ^ min 32 IntKind.u64.bits) = 0 := by decide
  have f3 : Int.fdiv 3 (2 ^ min 32 IntKind.u64.bits) = 0 := by decide
  have f0 : Int.fdiv 0 (2 ^ min 32 IntKind.u64.bits) = 0 := by decide
  have w0 : IntKind.u64.wrap 0 = 0 := by decide
  have w2 : IntKind.u64.wrap 2 = 2 := by decide
  have w3 : IntKind.u64.wrap 3 = 3 := by decide
  rcases hn with rfl | rfl <;> simp [and_lo, and_lo2, and_lo3, and_lo0, aBin_shr, f0, f1, f2, f3, w0, w2, w3]
theorem c_mul (H : AHeap) (n : Int) (hn : n = 2 ∨ n = 3) : ACalls Tryz.prog 150 [.int .u64 1, .int .u64 n] H (.tuple #[.int .u64 0, .int .u64 n]) H := by
  refine acallsT_pure MixT Tryz.func150 (by decide) rfl ?_
  rw [d150]
  simp
  refine bndC_of (c_mul64 _ _ hn) (by simp)
set_option maxRecDepth 4000 in
theorem c_repeat0 (H : AHeap) (n : Nat) (hn : n ≤ 3) : ACalls Tryz.prog 136 [str [48], i64 n] H (str (List.replicate n 48)) H := by
  refine acalls_pure MixT Tryz.func136 (by decide) rfl ?_
  rw [d136]
  have i2 : IntKind.i64.wrap 2 = 2 := by decide
  have i3 : IntKind.i64.wrap 3 = 3 := by decide
  have w1 : IntKind.u64.wrap 1 = 1 := by decide
  have w2 : IntKind.u64.wrap 2 = 2 := by decide
  have w3 : IntKind.u64.wrap 3 = 3 := by decide
  rcases n with _ | _ | _ | _ | n
  · simp
  · simp
  · simp
    rw [S136x0q]
    simp [convV_int, w1, w2]
    refine bndC_of (c_mul _ _ (.inl rfl)) ?_
    simp
    rw [S136x1q]
    have q0 := aIndex_at (P := Tryz.prog) (T := 9) (k := .i64) (l := [48]) (i := 0) (by simp) rfl
    simp at q0
    simp [convV_int, q0]
    rw [S136x2q]
    simp [i2]
    refine bndG_t (.bool false) _ (c_hasPrefix H (List.replicate 128 32) [48]) ?_
    simp [i2]
    refine bndG_t (.bool false) _ (c_hasPrefix H (List.replicate 128 45) [48]) ?_
    simp [i2]
    refine bndG_t (.bool true) _ (c_hasZero H) ?_
    have hs := aSliceOp_str (P := Tryz.prog) (H := H) (T := 9) (l := List.replicate 64 48) (lo := none) (hi := some (i64 2)) (a := 0) (b := 2) (by simp) rfl rfl (by omega) (by omega) (by simp)
    refine bnd_of (v := .bool true) (by simp) ?_
    simp only [kifB_true]
    refine bnd_of hs ?_
    exact ⟨rfl, [], by simp⟩
  · simp
    rw [S136x0q]
    simp [convV_int, w1, w3]
    refine bndC_of (c_mul _ _ (.inr rfl)) ?_
    simp
    rw [S136x1q]
    have q0 := aIndex_at (P := Tryz.prog) (T := 9) (k := .i64) (l := [48]) (i := 0) (by simp) rfl
    simp at q0
    simp [convV_int, q0]
    rw [S136x2q]
    simp [i3]
    refine bndG_t (.bool false) _ (c_hasPrefix H (List.replicate 128 32) [48]) ?_
    simp [i3]
    refine bndG_t (.bool false) _ (c_hasPrefix H (List.replicate 128 45) [48]) ?_
    simp [i3]
    refine bndG_t (.bool true) _ (c_hasZero H) ?_
    have hs := aSliceOp_str (P := Tryz.prog) (H := H) (T := 9) (l := List.replicate 64 48) (lo := none) (hi := some (i64 3)) (a := 0) (b := 3) (by simp) rfl rfl (by omega) (by omega) (by simp)
    refine bnd_of (v := .bool true) (by simp) ?_
    simp only [kifB_true]
    refine bnd_of hs ?_
    exact ⟨rfl, [], by simp⟩
  · omega

/-- Where a number's point stands, and whether all before the end may stand there. -/
def scanF : List UInt8 → Nat → Int → Int × Bool
  | [], _, pt => (pt, true)
  | b :: r, i, pt => if isDig b = true then scanF r (i + 1) pt else if ((b.toNat : Int) == 46 && decide (pt < 0)) = true then scanF r (i + 1) i else (pt, false)
def cutT (s : List UInt8) (pt : Int) (ok : Bool) : List UInt8 × List UInt8 × Bool :=
  if pt < 0 then (s, [], ok) else (s.take pt.toNat, s.drop (pt.toNat + 1), ok && !decide (s.take pt.toNat = []) && !decide (s.drop (pt.toNat + 1) = []) && decide ((s.drop (pt.toNat + 1)).length ≤ 3))
def cutF (s : List UInt8) : List UInt8 × List UInt8 × Bool := cutT s (scanF s 0 (-1)).1 ((scanF s 0 (-1)).2 && !s.isEmpty)
def cutV (x : List UInt8 × List UInt8 × Bool) : Value := .tuple #[str x.1, str x.2.1, .bool x.2.2]
theorem cut_tail {s : List UInt8} {pt : Int} {ok : Bool} {H : AHeap} {k : Value → AHeap → Prop} (hs : s.length < 2 ^ 60) (hpt : pt < s.length) (hp1 : -1 ≤ pt) (hk : k (cutV (cutT s pt ok)) H) (s1 s2 s3 s6 s7 s8 s9 s10 s11 s12 s13 s14 s15 s16 s17 s18 s19 s20 s21 s22 s23 s24 s25 s26 s27 s28 s29 s30 s31 s32 s33 s34 s35 s36 s37 s38 s39 s40 s41 s42 s43 s44 s45 s46 s47 s48 s49 s50 s51 s52 s53 s54 s55 s56 s57 s58 s59 s60 s61 s62 s63 s64 s65 : Value) :
    S135x1 k [str s, s1, s2, s3, .bool ok, i64 pt, s6, s7, s8, s9, s10, s11, s12, s13, s14, s15, s16, s17, s18, s19, s20, s21, s22, s23, s24, s25, s26, s27, s28, s29, s30, s31, s32, s33, s34, s35, s36, s37, s38, s39, s40, s41, s42, s43, s44, s45, s46, s47, s48, s49, s50, s51, s52, s53, s54, s55, s56, s57, s58, s59, s60, s61, s62, s63, s64, s65] H := by
  rw [S135x1q]
  by_cases h : pt < 0
  · simp [h]
    simpa [cutT, h, cutV] using hk
  · obtain ⟨n, rfl⟩ : ∃ n : Nat, pt = n := ⟨pt.toNat, by omega⟩
    have h1 := aSliceOp_str (P := Tryz.prog) (H := H) (T := 9) (l := s) (lo := none) (hi := some (i64 n)) (a := 0) (b := n) (by simp) rfl rfl (by omega) (by omega) (by omega)
    have h2 := aSliceOp_str (P := Tryz.prog) (H := H) (T := 9) (l := s) (lo := some (i64 ((n + 1 : Nat) : Int))) (hi := none) (a := (n + 1 : Nat)) (b := s.length) (by simp) rfl rfl (by omega) (by omega) (by omega)
    simp only [cutT, if_neg h, cutV] at hk
    simp at h1 h2 hk
    simp +contextual [h, h1, h2, show n + 1 < 2 ^ 63 by omega]
    have e3 : decide (((s.length - (n + 1) : Nat) : Int) ≤ 3) = decide (s.length ≤ 3 + (n + 1)) := by rw [decide_eq_decide]; omega
    rw [e3]
    exact hk
theorem cut_loop {s : List UInt8} {H : AHeap} {k : Value → AHeap → Prop} (hs : s.length < 2 ^ 60) (w : List UInt8 × List UInt8 × Bool) (hk : k (cutV w) H) :
    ∀ (r : List UInt8) (i : Nat) (pt : Int) (ok : Bool) (s1 s2 s3 s6 s7 s10 s11 s12 s13 s14 s15 s16 s17 s18 s19 s20 s21 s22 s23 s24 s25 s26 s27 s28 s29 s30 s31 s32 s33 s34 s35 s36 s37 s38 s39 s40 s41 s42 s43 s44 s45 s46 s47 s48 s49 s50 s51 s52 s53 s54 s55 s56 s57 s58 s59 s60 s61 s62 s63 s64 s65 : Value), s.drop i = r → i ≤ s.length → -1 ≤ pt → pt < i → ok = (r.isEmpty && !s.isEmpty) → w = cutT s (scanF r i pt).1 ((scanF r i pt).2 && !s.isEmpty) →
      L135x0 (r.length + 1) k [str s, s1, s2, s3, .bool ok, i64 pt, s6, s7, i64 s.length, i64 i, s10, s11, s12, s13, s14, s15, s16, s17, s18, s19, s20, s21, s22, s23, s24, s25, s26, s27, s28, s29, s30, s31, s32, s33, s34, s35, s36, s37, s38, s39, s40, s41, s42, s43, s44, s45, s46, s47, s48, s49, s50, s51, s52, s53, s54, s55, s56, s57, s58, s59, s60, s61, s62, s63, s64, s65] H := by
  intro r
  induction r with
  | nil =>
    intro i pt ok s1 s2 s3 s6 s7 s10 s11 s12 s13 s14 s15 s16 s17 s18 s19 s20 s21 s22 s23 s24 s25 s26 s27 s28 s29 s30 s31 s32 s33 s34 s35 s36 s37 s38 s39 s40 s41 s42 s43 s44 s45 s46 s47 s48 s49 s50 s51 s52 s53 s54 s55 s56 s57 s58 s59 s60 s61 s62 s63 s64 s65 hd hi hp1 hp2 hok hw
    have hle : s.length ≤ i := by simpa using hd
    rw [List.length_nil, L135x0q]
    have : ¬ i < s.length := by omega
    simp [this]
    rw [B135x1q]
    simp only [List.isEmpty_nil, Bool.true_and] at hok
    rw [hok]
    refine cut_tail hs (by omega) hp1 ?_ _ _ _ _ _ _ _ _ _ _ _ _ _ _ _ _ _ _ _ _ _ _ _ _ _ _ _ _ _ _ _ _ _ _ _ _ _ _ _ _ _ _ _ _ _ _ _ _ _ _ _ _ _ _ _ _ _ _ _ _ _ _ _
    rw [hw] at hk
    simpa [scanF] using hk
  | cons b r ih =>
    intro i pt ok s1 s2 s3 s6 s7 s10 s11 s12 s13 s14 s15 s16 s17 s18 s19 s20 s21 s22 s23 s24 s25 s26 s27 s28 s29 s30 s31 s32 s33 s34 s35 s36 s37 s38 s39 s40 s41 s42 s43 s44 s45 s46 s47 s48 s49 s50 s51 s52 s53 s54 s55 s56 s57 s58 s59 s60 s61 s62 s63 s64 s65 hd hi hp1 hp2 hok hw
    have hb : s[i]? = some b := by rw [← List.head?_drop, hd]; rfl
    have hlt : i < s.length := (List.getElem?_eq_some_iff.1 hb).1
    have hix := aIndex_at (P := Tryz.prog) (T := 9) (k := .i64) (by simp) hb
    have hne : s.isEmpty = false := by cases s with | nil => simp at hlt | cons => rfl
    have hdr : s.drop (i + 1) = r := by rw [← List.drop_drop, hd]; rfl
    have hlast : (i : Int) = (s.length : Int) - 1 ↔ r.isEmpty = true := by
      have := congrArg List.length hd
      simp at this
      cases r with
      | nil => simp at this ⊢; omega
      | cons => simp at this ⊢; omega
    simp only [List.isEmpty_cons, Bool.false_and] at hok
    subst hok
    have hwr : IntKind.i64.wrap ((s.length : Int) - 1) = (s.length : Int) - 1 := wrap_i64 (by omega) (by omega)
    have step : ∀ (pt' : Int) (s1 s2 s3 s7 s10 s11 s12 s13 s14 s15 s16 s17 s18 s19 s20 s21 s22 s23 s24 s25 s26 s27 s28 s29 s30 s31 s32 s33 s34 s35 s36 s37 s38 s39 s40 s41 s42 s43 s44 s45 s46 s47 s48 s49 s50 s51 s52 s53 s54 s55 s56 s57 s58 s59 s60 s61 s62 s63 s64 s65 : Value), -1 ≤ pt' → pt' < (i + 1 : Nat) → w = cutT s (scanF r (i + 1) pt').1 ((scanF r (i + 1) pt').2 && !s.isEmpty) →
        S135x0 (r.length + 1) k [str s, s1, s2, s3, .bool false, i64 pt', i64 i, s7, i64 s.length, i64 i, s10, s11, s12, s13, s14, s15, s16, s17, s18, s19, s20, s21, s22, s23, s24, s25, s26, s27, s28, s29, s30, s31, s32, s33, s34, s35, s36, s37, s38, s39, s40, s41, s42, s43, s44, s45, s46, s47, s48, s49, s50, s51, s52, s53, s54, s55, s56, s57, s58, s59, s60, s61, s62, s63, s64, s65] H := by
      intro pt' s1 s2 s3 s7 s10 s11 s12 s13 s14 s15 s16 s17 s18 s19 s20 s21 s22 s23 s24 s25 s26 s27 s28 s29 s30 s31 s32 s33 s34 s35 s36 s37 s38 s39 s40 s41 s42 s43 s44 s45 s46 s47 s48 s49 s50 s51 s52 s53 s54 s55 s56 s57 s58 s59 s60 s61 s62 s63 s64 s65 q1 q2 q3
      rw [S135x0q]
      simp [hwr]
      refine kifB_bool (fun h => ?_) (fun h => ?_)
      · have hre := hlast.1 (by simpa using h)
        rw [S135x2q]
        simp [show i + 1 < 2 ^ 63 by omega]
        exact ih (i + 1) pt' true _ _ _ _ _ _ _ _ _ _ _ _ _ _ _ _ _ _ _ _ _ _ _ _ _ _ _ _ _ _ _ _ _ _ _ _ _ _ _ _ _ _ _ _ _ _ _ _ _ _ _ _ _ _ _ _ _ _ _ _ _ hdr (by omega) q1 q2 (by simp [hre, hne]) q3
      · have hre : r.isEmpty = false := by
          cases hr : r.isEmpty with
          | false => rfl
          | true => have := hlast.2 hr; simp [this] at h
        rw [S135x2q]
        simp [show i + 1 < 2 ^ 63 by omega]
        exact ih (i + 1) pt' false _ _ _ _ _ _ _ _ _ _ _ _ _ _ _ _ _ _ _ _ _ _ _ _ _ _ _ _ _ _ _ _ _ _ _ _ _ _ _ _ _ _ _ _ _ _ _ _ _ _ _ _ _ _ _ _ _ _ _ _ _ hdr (by omega) q1 q2 (by simp [hre]) q3
    rw [List.length_cons, L135x0q]
    by_cases hdg : isDig b = true
    · have hdg' := hdg
      simp only [isDig, Bool.and_eq_true, decide_eq_true_eq] at hdg'
      simp [hlt, hix, hdg'.1, hdg'.2]
      exact step pt _ _ _ _ _ _ _ _ _ _ _ _ _ _ _ _ _ _ _ _ _ _ _ _ _ _ _ _ _ _ _ _ _ _ _ _ _ _ _ _ _ _ _ _ _ _ _ _ _ _ _ _ _ _ _ _ _ _ _ _ hp1 (by omega) (by simpa only [scanF, if_pos hdg] using hw)
    · have hndg : ¬ (48 ≤ (b.toNat : Int) ∧ (b.toNat : Int) ≤ 57) := by simpa [isDig] using hdg
      simp only [scanF, if_neg hdg] at hw
      by_cases h48 : 48 ≤ (b.toNat : Int)
      · have h57 : ¬ (b.toNat : Int) ≤ 57 := fun q => hndg ⟨h48, q⟩
        have h46 : ¬ (b.toNat : Int) = 46 := by omega
        have h46b : ((b.toNat : Int) == 46) = false := by simpa using h46
        simp [hlt, hix, h48, h57, h46b]
        rw [B135x0q]
        refine cut_tail hs (by omega) hp1 ?_ _ _ _ _ _ _ _ _ _ _ _ _ _ _ _ _ _ _ _ _ _ _ _ _ _ _ _ _ _ _ _ _ _ _ _ _ _ _ _ _ _ _ _ _ _ _ _ _ _ _ _ _ _ _ _ _ _ _ _ _ _ _ _
        rw [hw] at hk
        simpa [h46] using hk
      · by_cases h46 : (b.toNat : Int) = 46
        · by_cases hpt : pt < 0
          · simp [hlt, hix, h46, hpt]
            exact step i _ _ _ _ _ _ _ _ _ _ _ _ _ _ _ _ _ _ _ _ _ _ _ _ _ _ _ _ _ _ _ _ _ _ _ _ _ _ _ _ _ _ _ _ _ _ _ _ _ _ _ _ _ _ _ _ _ _ _ _ (by omega) (by omega) (by simpa [h46, hpt] using hw)
          · simp [hlt, hix, h46, hpt]
            rw [B135x0q]
            refine cut_tail hs (by omega) hp1 ?_ _ _ _ _ _ _ _ _ _ _ _ _ _ _ _ _ _ _ _ _ _ _ _ _ _ _ _ _ _ _ _ _ _ _ _ _ _ _ _ _ _ _ _ _ _ _ _ _ _ _ _ _ _ _ _ _ _ _ _ _ _ _ _
            rw [hw] at hk
            simpa [h46, hpt] using hk
        · have h46b : ((b.toNat : Int) == 46) = false := by simpa using h46
          simp [hlt, hix, h48, h46b]
          rw [B135x0q]
          refine cut_tail hs (by omega) hp1 ?_ _ _ _ _ _ _ _ _ _ _ _ _ _ _ _ _ _ _ _ _ _ _ _ _ _ _ _ _ _ _ _ _ _ _ _ _ _ _ _ _ _ _ _ _ _ _ _ _ _ _ _ _ _ _ _ _ _ _ _ _ _ _ _
          rw [hw] at hk
          simpa [h46] using hk
theorem c_cut {s : List UInt8} {H : AHeap} (hs : s.length < 2 ^ 60) : ACalls Tryz.prog 135 [str s] H (cutV (cutF s)) H := by
  refine acallsT_pure MixT Tryz.func135 (by decide) rfl ?_
  rw [d135]
  simp
  refine ⟨s.length + 1, ?_⟩
  have e : false = (s.isEmpty && !s.isEmpty) := by cases s.isEmpty <;> rfl
  have := cut_loop (H := H) (k := fun u H2 => u = cutV (cutF s) ∧ ∃ X, H2 = H ++ X) hs (cutF s) ⟨rfl, [], by simp⟩ s 0 (-1) false
  exact this _ _ _ _ _ _ _ _ _ _ _ _ _ _ _ _ _ _ _ _ _ _ _ _ _ _ _ _ _ _ _ _ _ _ _ _ _ _ _ _ _ _ _ _ _ _ _ _ _ _ _ _ _ _ _ _ _ _ _ _ _ rfl (by omega) (by omega) (by omega) e rfl

/-! ### A number -/
def digF (x : Int) : List UInt8 → Int
  | [] => x
  | d :: r => if x > (maxFix - ((d.toNat : Int) - 48)).tdiv 10 then maxFix else digF (10 * x + ((d.toNat : Int) - 48)) r
def parF (s : List UInt8) : Int × Int :=
  let c := cutF (cutPre s [45])
  if c.2.2 = true then
    let x := digF 0 (c.1 ++ c.2.1 ++ List.replicate (3 - c.2.1.length) 48)
    (if hasPre s [45] = true then -x else x, 0)
  else (0, 10)
theorem scanF_pt : ∀ (r : List UInt8) (i : Nat) (pt : Int), 0 ≤ pt → (scanF r i pt).2 = true → (scanF r i pt).1 = pt ∧ ∀ b ∈ r, isDig b = true := by
  intro r
  induction r with
  | nil => intro i pt _ _; simp [scanF]
  | cons b r ih =>
    intro i pt hp h
    have hp' : ¬ pt < 0 := by omega
    rw [scanF] at h ⊢
    by_cases hd : isDig b = true
    · rw [if_pos hd] at h ⊢
      obtain ⟨h1, h2⟩ := ih _ _ hp h
      refine ⟨h1, fun c hc => ?_⟩
      rcases List.mem_cons.1 hc with rfl | hc
      · exact hd
      · exact h2 c hc
    · rw [if_neg hd] at h
      simp [hp'] at h
theorem scanF_none : ∀ (r : List UInt8) (i : Nat), (scanF r i (-1)).2 = true → ((scanF r i (-1)).1 = -1 ∧ ∀ b ∈ r, isDig b = true) ∨
    ∃ j : Nat, (scanF r i (-1)).1 = ((i + j : Nat) : Int) ∧ j < r.length ∧ (∀ b ∈ r.take j, isDig b = true) ∧ ∀ b ∈ r.drop (j + 1), isDig b = true := by
  intro r
  induction r with
  | nil => intro i _; left; simp [scanF]
  | cons b r ih =>
    intro i h
    rw [scanF] at h ⊢
    by_cases hd : isDig b = true
    · rw [if_pos hd] at h ⊢
      rcases ih _ h with ⟨h1, h2⟩ | ⟨j, h1, h2, h3, h4⟩
      · left
        refine ⟨h1, fun c hc => ?_⟩
        rcases List.mem_cons.1 hc with rfl | hc
        · exact hd
        · exact h2 c hc
      · right
        refine ⟨j + 1, by rw [h1]; congr 1; omega, by simp; omega, fun c hc => ?_, by simpa using h4⟩
        rw [List.take_succ_cons] at hc
        rcases List.mem_cons.1 hc with rfl | hc
        · exact hd
        · exact h3 c hc
    · rw [if_neg hd] at h ⊢
      split at h
      · rename_i hq
        rw [if_pos hq]
        obtain ⟨h1, h2⟩ := scanF_pt r (i + 1) i (by omega) h
        exact .inr ⟨0, by rw [h1]; rfl, by simp, by simp, by simpa using h2⟩
      · cases h
theorem cutF_ok {s : List UInt8} (h : (cutF s).2.2 = true) : (∀ b ∈ (cutF s).1 ++ (cutF s).2.1, isDig b = true) ∧ (cutF s).2.1.length ≤ 3 ∧ (cutF s).1.length + (cutF s).2.1.length ≤ s.length := by
  unfold cutF cutT at *
  by_cases hp : (scanF s 0 (-1)).1 < 0
  · simp only [if_pos hp] at h ⊢
    simp only [Bool.and_eq_true] at h
    rcases scanF_none s 0 h.1 with ⟨h1, h2⟩ | ⟨j, h1, _⟩
    · simp; exact h2
    · rw [h1] at hp; omega
  · simp only [if_neg hp] at h ⊢
    simp only [Bool.and_eq_true, decide_eq_true_eq] at h
    rcases scanF_none s 0 h.1.1.1.1 with ⟨h1, h2⟩ | ⟨j, h1, h2, h3, h4⟩
    · rw [h1] at hp; omega
    · rw [h1] at h ⊢
      simp only [Nat.zero_add, Int.toNat_natCast] at h ⊢
      refine ⟨fun b hb => ?_, h.2, ?_⟩
      · rcases List.mem_append.1 hb with hb | hb
        · exact h3 b hb
        · exact h4 b hb
      · simp; omega
theorem arr_bytes {H : AHeap} (l : List UInt8) : Arr (H ++ [AObj.ro (bytesL ⟨l.toArray⟩)]) 1 (.slice (some ⟨H.length, 0, some l.length⟩) l.length l.length) (l.map fun b => [byt b]) := by
  refine .mk H.length 0 _ _ _ (l.map byt) _ (by simp) (by simp [hcells_eq, bytesL, AObj.rcells]) (by simp) (by simp) fun i e hi => ?_
  simp at hi
  obtain ⟨b, hb, rfl⟩ := hi
  rw [Nat.zero_add, Nat.mul_one, ← List.map_drop, ← List.map_take]
  have : (l.drop i).take 1 = [b] := by
    have hlt := (List.getElem?_eq_some_iff.1 hb).1
    rw [List.drop_eq_getElem_cons hlt, (List.getElem?_eq_some_iff.1 hb).2]; rfl
  rw [this]; rfl
theorem digF_range : ∀ (l : List UInt8) (x : Int), (∀ b ∈ l, isDig b = true) → 0 ≤ x → x ≤ maxFix → 0 ≤ digF x l ∧ digF x l ≤ maxFix := by
  intro l
  induction l with
  | nil => intro x _ h1 h2; exact ⟨h1, h2⟩
  | cons d r ih =>
    intro x hd h1 h2
    have h := hd d (by simp)
    simp only [isDig, Bool.and_eq_true, decide_eq_true_eq] at h
    rw [digF]
    split
    · simp [maxFix]
    · rename_i hx
      have : x ≤ (maxFix - ((d.toNat : Int) - 48)).tdiv 10 := by omega
      have h3 : (maxFix - ((d.toNat : Int) - 48)).tdiv 10 * 10 ≤ maxFix - ((d.toNat : Int) - 48) := by
        rw [Int.tdiv_eq_ediv_of_nonneg (by simp [maxFix]; omega)]; omega
      exact ih _ (fun b hb => hd b (by simp [hb])) (by omega) (by omega)
theorem dig_loop {H : AHeap} {v : Value} {l : List UInt8} {less : Bool} {k : Value → AHeap → Prop} (ha : Arr H 1 v (l.map fun b => [byt b])) (hl : l.length < 2 ^ 61) (hd : ∀ b ∈ l, isDig b = true) (w : Int)
    (hk : k (.tuple #[i64 (if less = true then -w else w), i64 0]) H) :
    ∀ (r : List UInt8) (i : Nat) (x : Int) (s0 s1 s2 s3 s4 s6 s7 s8 s10 s11 s12 s13 s14 s15 s16 s17 s18 s19 s20 s21 s22 s23 s24 s25 s26 s27 s28 s29 s30 s31 s32 s36 s37 s38 s39 s40 s41 s42 s43 s44 s45 s46 s47 s48 s49 s50 s51 s52 s53 s54 s55 s56 : Value), l.drop i = r → i ≤ l.length → 0 ≤ x → x ≤ maxFix → w = digF x r →
      L120x0 (r.length + 1) k [s0, s1, s2, s3, s4, .bool less, s6, s7, s8, i64 x, s10, s11, s12, s13, s14, s15, s16, s17, s18, s19, s20, s21, s22, s23, s24, s25, s26, s27, s28, s29, s30, s31, s32, v, i64 l.length, i64 i, s36, s37, s38, s39, s40, s41, s42, s43, s44, s45, s46, s47, s48, s49, s50, s51, s52, s53, s54, s55, s56] H := by
  have tail : ∀ (s0 s1 s2 s3 s4 s6 s7 s8 s10 s11 s12 s13 s14 s15 s16 s17 s18 s19 s20 s21 s22 s23 s24 s25 s26 s27 s28 s29 s30 s31 s32 s33 s34 s35 s36 s37 s38 s39 s40 s41 s42 s43 s44 s45 s46 s47 s48 s49 s50 s51 s52 s53 s54 s55 s56 : Value), 0 ≤ w → w ≤ maxFix → S120x0 k [s0, s1, s2, s3, s4, .bool less, s6, s7, s8, i64 w, s10, s11, s12, s13, s14, s15, s16, s17, s18, s19, s20, s21, s22, s23, s24, s25, s26, s27, s28, s29, s30, s31, s32, s33, s34, s35, s36, s37, s38, s39, s40, s41, s42, s43, s44, s45, s46, s47, s48, s49, s50, s51, s52, s53, s54, s55, s56] H := by
    intro s0 s1 s2 s3 s4 s6 s7 s8 s10 s11 s12 s13 s14 s15 s16 s17 s18 s19 s20 s21 s22 s23 s24 s25 s26 s27 s28 s29 s30 s31 s32 s33 s34 s35 s36 s37 s38 s39 s40 s41 s42 s43 s44 s45 s46 s47 s48 s49 s50 s51 s52 s53 s54 s55 s56 h1 h2
    rw [S120x0q]
    simp only [maxFix] at h2
    cases less with
    | true =>
      have hw : IntKind.i64.wrap (-w) = -w := wrap_i64 (by omega) (by omega)
      simp [unV_neg, hw]
      rw [S120x1q]
      simpa using hk
    | false =>
      simp
      rw [S120x1q]
      simpa using hk
  intro r
  induction r with
  | nil =>
    intro i x s0 s1 s2 s3 s4 s6 s7 s8 s10 s11 s12 s13 s14 s15 s16 s17 s18 s19 s20 s21 s22 s23 s24 s25 s26 s27 s28 s29 s30 s31 s32 s36 s37 s38 s39 s40 s41 s42 s43 s44 s45 s46 s47 s48 s49 s50 s51 s52 s53 s54 s55 s56 hdr hi hx1 hx2 hw
    have hle : l.length ≤ i := by simpa using hdr
    rw [List.length_nil, L120x0q]
    have : ¬ i < l.length := by omega
    simp [this]
    rw [B120x1q]
    simp only [digF] at hw
    subst hw
    exact tail _ _ _ _ _ _ _ _ _ _ _ _ _ _ _ _ _ _ _ _ _ _ _ _ _ _ _ _ _ _ _ _ _ _ _ _ _ _ _ _ _ _ _ _ _ _ _ _ _ _ _ _ _ _ _ hx1 hx2
  | cons d r ih =>
    intro i x s0 s1 s2 s3 s4 s6 s7 s8 s10 s11 s12 s13 s14 s15 s16 s17 s18 s19 s20 s21 s22 s23 s24 s25 s26 s27 s28 s29 s30 s31 s32 s36 s37 s38 s39 s40 s41 s42 s43 s44 s45 s46 s47 s48 s49 s50 s51 s52 s53 s54 s55 s56 hdr hi hx1 hx2 hw
    have hb : l[i]? = some d := by rw [← List.head?_drop, hdr]; rfl
    have hlt : i < l.length := (List.getElem?_eq_some_iff.1 hb).1
    have hdd := hd d (List.mem_of_getElem? hb)
    have hd' : (∀ b ∈ r, isDig b = true) := fun b hb' => hd b (List.mem_of_mem_drop (by rw [hdr]; simp [hb']))
    simp only [isDig, Bool.and_eq_true, decide_eq_true_eq] at hdd
    obtain ⟨q, hp1, hp2⟩ := ha.load1 (P := Tryz.prog) (T := 47) (te := 5) (i := i) (x := byt d) (by simp) (by simp) (by simp) (by rw [List.getElem?_map, hb]; rfl)
    have w1 : IntKind.u8.wrap ((d.toNat : Int) - 48) = (d.toNat : Int) - 48 := wrap_u8 (by omega) (by omega)
    have w2 : IntKind.i64.wrap ((d.toNat : Int) - 48) = (d.toNat : Int) - 48 := wrap_i64 (by omega) (by omega)
    have w3 : IntKind.i64.wrap (4611686018427387903 - ((d.toNat : Int) - 48)) = 4611686018427387903 - ((d.toNat : Int) - 48) := wrap_i64 (by omega) (by omega)
    have htd : (4611686018427387903 - ((d.toNat : Int) - 48)).tdiv 10 = (4611686018427387903 - ((d.toNat : Int) - 48)) / 10 := Int.tdiv_eq_ediv_of_nonneg (by omega)
    have w4 : IntKind.i64.wrap ((4611686018427387903 - ((d.toNat : Int) - 48)).tdiv 10) = (4611686018427387903 - ((d.toNat : Int) - 48)).tdiv 10 := by rw [htd]; exact wrap_i64 (by omega) (by omega)
    rw [List.length_cons, L120x0q]
    rw [digF] at hw
    simp only [maxFix] at hx2
    simp [hlt, hp1, hp2, w1, w2, w3, aBin_quo, w4, convV_int]
    refine kifB_bool (fun h => ?_) (fun h => ?_)
    · simp only [decide_eq_true_eq] at h
      rw [if_pos (show x > (maxFix - ((d.toNat : Int) - 48)).tdiv 10 from h)] at hw
      subst hw
      simp
      rw [B120x0q]
      exact tail _ _ _ _ _ _ _ _ _ _ _ _ _ _ _ _ _ _ _ _ _ _ _ _ _ _ _ _ _ _ _ _ _ _ _ _ _ _ _ _ _ _ _ _ _ _ _ _ _ _ _ _ _ _ _ (by simp [maxFix]) (by simp [maxFix])
    · simp only [decide_eq_false_iff_not] at h
      rw [if_neg (show ¬ x > (maxFix - ((d.toNat : Int) - 48)).tdiv 10 from h)] at hw
      rw [htd] at h
      have hx10 : x ≤ (4611686018427387903 - ((d.toNat : Int) - 48)) / 10 := by omega
      have h10 : 10 * x + ((d.toNat : Int) - 48) ≤ 4611686018427387903 := by omega
      have w5 : IntKind.i64.wrap (10 * x) = 10 * x := wrap_i64 (by omega) (by omega)
      have w6 : IntKind.i64.wrap (10 * x + ((d.toNat : Int) - 48)) = 10 * x + ((d.toNat : Int) - 48) := wrap_i64 (by omega) (by omega)
      simp [w1, w2, w5, w6, convV_int, show i + 1 < 2 ^ 63 by omega]
      exact ih (i + 1) _ _ _ _ _ _ _ _ _ _ _ _ _ _ _ _ _ _ _ _ _ _ _ _ _ _ _ _ _ _ _ _ _ _ _ _ _ _ _ _ _ _ _ _ _ _ _ _ _ _ _ _ _ (by rw [← List.drop_drop, hdr]; rfl) hlt (by omega) (by simp only [maxFix]; omega) hw
theorem c_fixParse {s : List UInt8} {H : AHeap} (hs : s.length < 2 ^ 59) : ACalls Tryz.prog 120 [str s] H (.tuple #[i64 (parF s).1, i64 (parF s).2]) H := by
  refine acallsT_pure MixT Tryz.func120 (by decide) rfl ?_
  rw [d120]
  refine bndC_of (c_cutPrefix _ _ [45]) ?_
  simp
  have hcl : (cutPre s [45]).length ≤ s.length := by unfold cutPre; split <;> simp
  refine bndC_of (c_cut (by omega)) ?_
  generalize hc : cutF (cutPre s [45]) = c
  obtain ⟨wh, pa, ok⟩ := c
  simp [cutV]
  have hpar : parF s = if ok = true then (if hasPre s [45] = true then -(digF 0 (wh ++ pa ++ List.replicate (3 - pa.length) 48)) else digF 0 (wh ++ pa ++ List.replicate (3 - pa.length) 48), 0) else (0, 10) := by
    unfold parF; simp only [hc]
  generalize parF s = res at hpar ⊢
  cases ok with
  | false => simp [hpar]
  | true =>
    obtain ⟨k1, k2, k3⟩ := cutF_ok (s := cutPre s [45]) (by rw [hc])
    rw [hc] at k1 k2 k3
    dsimp only at k1 k2 k3
    simp only [if_true] at hpar
    have hw : IntKind.i64.wrap (3 - (pa.length : Int)) = ((3 - pa.length : Nat) : Int) := by rw [wrap_i64 (by omega) (by omega)]; omega
    have e1 := fun X Y => aBin_str (P := Tryz.prog) (H := H) (T := 9) (x := X) (y := Y) (a := wh) (b := pa) (by omega)
    simp [hw, e1]
    refine bndC_of (c_repeat0 _ _ (by omega)) ?_
    have e2 := fun X Y => aBin_str (P := Tryz.prog) (H := H) (T := 9) (x := X) (y := Y) (a := wh ++ pa) (b := List.replicate (3 - pa.length) 48) (by simp; omega)
    simp only [e2, bnd_some]
    generalize hD : wh ++ pa ++ List.replicate (3 - pa.length) 48 = D at hpar
    have hDl : D.length < 2 ^ 61 := by rw [← hD]; simp; omega
    have hDd : ∀ b ∈ D, isDig b = true := by
      intro b hb
      rw [← hD] at hb
      rcases List.mem_append.1 hb with hb | hb
      · exact k1 b hb
      · rw [(List.mem_replicate.1 hb).2]; decide
    have hcv : aConv Tryz.prog H 9 47 (str D) = some (.slice (some ⟨H.length, 0, some D.length⟩) D.length D.length, H ++ [.ro (bytesL ⟨D.toArray⟩)]) := by
      have hu : isU8 Tryz.prog 5 = true := by kernel_rfl
      simp [aConv, hu]
    simp [hcv]
    refine ⟨D.length + 1, dig_loop (less := hasPre s [45]) (arr_bytes D) hDl hDd (digF 0 D) ?_ D 0 0 _ _ _ _ _ _ _ _ _ _ _ _ _ _ _ _ _ _ _ _ _ _ _ _ _ _ _ _ _ _ _ _ _ _ _ _ _ _ _ _ _ _ _ _ _ _ _ _ _ _ _ _ rfl (by omega) (by omega) (by simp [maxFix]) rfl⟩
    rw [hpar]
    exact ⟨by split <;> rfl, [_], rfl⟩
end Go.Vi
namespace Go.Vi
open Go Go.Proofs

def natF (n : Int) : List UInt8 → Int
  | [] => n
  | d :: r => natF (10 * n + ((d.toNat : Int) - 48)) r
theorem atoi_loop {H : AHeap} {v : Value} {l : List UInt8} {k : Value → AHeap → Prop} (ha : Arr H 1 v (l.map fun b => [byt b])) (hl : l.length ≤ 18) (h1 : 1 ≤ l.length) (hd : ∀ b ∈ l, isDig b = true) (w : Int)
    (hk : k (.tuple #[i64 w, .nilIface]) H) :
    ∀ (r : List UInt8) (i : Nat) (n : Int) (s0 s1 s2 s3 s4 s7 s8 s9 s10 s11 s12 s13 s14 s15 s16 s17 s18 s19 s20 s21 s22 s23 s24 s25 s26 s27 s28 s29 s30 s31 s32 s33 s34 s35 s36 s37 s38 s39 s40 s41 s42 s43 s44 s45 s46 s50 s51 s52 s53 s54 s55 s56 s57 s58 s59 s60 s61 s62 s63 s64 s65 s66 s67 s68 s69 s70 s71 s72 s73 s74 s75 s76 : Value), l.drop i = r → i ≤ l.length → 0 ≤ n → n < 10 ^ i → w = natF n r →
      L132x0 (r.length + 1) k [s0, s1, s2, s3, s4, str l, i64 n, s7, s8, s9, s10, s11, s12, s13, s14, s15, s16, s17, s18, s19, s20, s21, s22, s23, s24, s25, s26, s27, s28, s29, s30, s31, s32, s33, s34, s35, s36, s37, s38, s39, s40, s41, s42, s43, s44, s45, s46, v, i64 l.length, i64 i, s50, s51, s52, s53, s54, s55, s56, s57, s58, s59, s60, s61, s62, s63, s64, s65, s66, s67, s68, s69, s70, s71, s72, s73, s74, s75, s76] H := by
  intro r
  induction r with
  | nil =>
    intro i n s0 s1 s2 s3 s4 s7 s8 s9 s10 s11 s12 s13 s14 s15 s16 s17 s18 s19 s20 s21 s22 s23 s24 s25 s26 s27 s28 s29 s30 s31 s32 s33 s34 s35 s36 s37 s38 s39 s40 s41 s42 s43 s44 s45 s46 s50 s51 s52 s53 s54 s55 s56 s57 s58 s59 s60 s61 s62 s63 s64 s65 s66 s67 s68 s69 s70 s71 s72 s73 s74 s75 s76 hdr hi hn1 hn2 hw
    have hle : l.length ≤ i := by simpa using hdr
    rw [List.length_nil, L132x0q]
    have : ¬ i < l.length := by omega
    obtain ⟨b0, hb0⟩ : ∃ b, l[0]? = some b := ⟨_, List.getElem?_eq_getElem (by omega)⟩
    have hix := aIndex_at (P := Tryz.prog) (T := 9) (k := .i64) (i := 0) (by simp) hb0
    have hdd := hd b0 (List.mem_of_getElem? hb0)
    simp only [isDig, Bool.and_eq_true, decide_eq_true_eq] at hdd
    have h45 : ((b0.toNat : Int) == 45) = false := by simp; omega
    simp only [natF] at hw
    subst hw
    simp at hix
    simp [this, hix, h45]
    rw [S132x1q]
    exact hk
  | cons d r ih =>
    intro i n s0 s1 s2 s3 s4 s7 s8 s9 s10 s11 s12 s13 s14 s15 s16 s17 s18 s19 s20 s21 s22 s23 s24 s25 s26 s27 s28 s29 s30 s31 s32 s33 s34 s35 s36 s37 s38 s39 s40 s41 s42 s43 s44 s45 s46 s50 s51 s52 s53 s54 s55 s56 s57 s58 s59 s60 s61 s62 s63 s64 s65 s66 s67 s68 s69 s70 s71 s72 s73 s74 s75 s76 hdr hi hn1 hn2 hw
    have hb : l[i]? = some d := by rw [← List.head?_drop, hdr]; rfl
    have hlt : i < l.length := (List.getElem?_eq_some_iff.1 hb).1
    have hdd := hd d (List.mem_of_getElem? hb)
    simp only [isDig, Bool.and_eq_true, decide_eq_true_eq] at hdd
    obtain ⟨q, hp1, hp2⟩ := ha.load1 (P := Tryz.prog) (T := 47) (te := 5) (i := i) (x := byt d) (by simp) (by simp) (by simp) (by rw [List.getElem?_map, hb]; rfl)
    have w1 : IntKind.u8.wrap ((d.toNat : Int) - 48) = (d.toNat : Int) - 48 := wrap_u8 (by omega) (by omega)
    have w2 : IntKind.i64.wrap ((d.toNat : Int) - 48) = (d.toNat : Int) - 48 := wrap_i64 (by omega) (by omega)
    have hp : (10 : Int) ^ (i + 1) ≤ 10 ^ 18 := by exact_mod_cast Nat.pow_le_pow_right (by omega : 0 < 10) (by omega : i + 1 ≤ 18)
    have hpe : (10 : Int) ^ (i + 1) = 10 ^ i * 10 := Int.pow_succ ..
    have w3 : IntKind.i64.wrap (n * 10) = n * 10 := wrap_i64 (by omega) (by omega)
    have w4 : IntKind.i64.wrap (n * 10 + ((d.toNat : Int) - 48)) = n * 10 + ((d.toNat : Int) - 48) := wrap_i64 (by omega) (by omega)
    have h9 : ¬ (9 < (d.toNat : Int) - 48) := by omega
    rw [List.length_cons, L132x0q]
    simp [hlt, hp1, hp2, w1, w2, w3, w4, h9, convV_int, show i + 1 < 2 ^ 63 by omega]
    exact ih (i + 1) _ _ _ _ _ _ _ _ _ _ _ _ _ _ _ _ _ _ _ _ _ _ _ _ _ _ _ _ _ _ _ _ _ _ _ _ _ _ _ _ _ _ _ _ _ _ _ _ _ _ _ _ _ _ _ _ _ _ _ _ _ _ _ _ _ _ _ _ _ _ _ _ _ (by rw [← List.drop_drop, hdr]; rfl) hlt (by omega) (by omega) (by rw [hw, natF]; congr 1; omega)
theorem c_atoi0 {H : AHeap} {l : List UInt8} (hl : l.length ≤ 18) (h1 : 1 ≤ l.length) (hd : ∀ b ∈ l, isDig b = true) : ACalls Tryz.prog 132 [str l] H (.tuple #[i64 (natF 0 l), .nilIface]) H := by
  refine acallsT_pure MixT Tryz.func132 (by decide) rfl ?_
  rw [d132]
  obtain ⟨b0, hb0⟩ : ∃ b, l[0]? = some b := ⟨_, List.getElem?_eq_getElem (by omega)⟩
  have hix := aIndex_at (P := Tryz.prog) (T := 9) (k := .i64) (i := 0) (by simp) hb0
  have hdd := hd b0 (List.mem_of_getElem? hb0)
  simp only [isDig, Bool.and_eq_true, decide_eq_true_eq] at hdd
  have h45 : ((b0.toNat : Int) == 45) = false := by simp; omega
  have h43 : ((b0.toNat : Int) == 43) = false := by simp; omega
  have q1 : (0 : Int) < l.length := by omega
  have q2 : (l.length : Int) < 19 := by omega
  have q3 : 0 < l.length := by omega
  simp at hix
  simp [q2, q3, hix, h45, h43]
  rw [S132x0q]
  have hcv : aConv Tryz.prog H 9 47 (str l) = some (.slice (some ⟨H.length, 0, some l.length⟩) l.length l.length, H ++ [.ro (bytesL ⟨l.toArray⟩)]) := by
    have hu : isU8 Tryz.prog 5 = true := by kernel_rfl
    simp [aConv, hu]
  simp [hcv]
  exact ⟨l.length + 1, atoi_loop (arr_bytes l) hl h1 hd (natF 0 l) ⟨rfl, [_], rfl⟩ l 0 0 _ _ _ _ _ _ _ _ _ _ _ _ _ _ _ _ _ _ _ _ _ _ _ _ _ _ _ _ _ _ _ _ _ _ _ _ _ _ _ _ _ _ _ _ _ _ _ _ _ _ _ _ _ _ _ _ _ _ _ _ _ _ _ _ _ _ _ _ _ _ _ _ rfl (by omega) (by omega) (by omega) rfl⟩
theorem c_atoi {H : AHeap} {l : List UInt8} (hl : l.length ≤ 18) (h1 : 1 ≤ l.length) (hd : ∀ b ∈ l, isDig b = true) : ACalls Tryz.prog 119 [str l] H (.tuple #[i64 (natF 0 l), .nilIface]) H := by
  refine acallsT_pure MixT Tryz.func119 (by decide) rfl ?_
  rw [d119]
  refine bndC_of (c_atoi0 hl h1 hd) ?_
  have hu := tu105
  simp [aBin_nilifn hu]
theorem c_window_y {H K rb lv ts a} (h : RdA H K rb lv ts a true) {t : Tok} (ht : ts[a]? = some t) (hk : t.kind = 2) (hl : t.text.length ≤ 18) (h1 : 1 ≤ t.text.length) (hd : ∀ b ∈ t.text, isDig b = true) (hn1 : 1 ≤ natF 0 t.text) (hn2 : natF 0 t.text ≤ 1000) :
    ACalls Tryz.prog 91 [(Value.pointer (some ⟨rb, 0, some 3⟩))] K (i64 (natF 0 t.text)) (K.set rb (rdo lv (a + 1) true)) := by
  refine acalls_of MixT Tryz.func91 (by decide) ?_
  rw [d91]
  have hta := c_take_y h ht
  rw [hk] at hta
  refine bndC_of hta ?_
  refine bndC_of (c_atoi hl h1 hd) ?_
  have hlt := (List.getElem?_eq_some_iff.1 ht).1
  have hL := (h.put (a + 1) true (by omega)).cell
  generalize K.set rb (rdo lv (a + 1) true) = L at hL ⊢
  have hc : hcells L rb = some [lv, i64 (a + 1 : Nat), .bool true] := by rw [hcells_eq, hL]; rfl
  have hll : hlen L rb = some 3 := by unfold hlen; rw [hL]; rfl
  have hss := set_same hL
  have hu := tu105
  simp only [rdo] at hL hss
  simp [hc, hll, hL, hn1, hn2, aBin_nilif hu]
  exact hss
theorem value_tail {H K rb lv ts b} (h : RdA H K rb lv ts b true) {t : Tok} (ht : ts[b]? = some t) (hk : t.kind = 2) {pre : List UInt8} (hl : pre.length + t.text.length < 2 ^ 50) (hp : (parF (pre ++ t.text)).2 = 0) {k : Value → AHeap → Prop}
    (hkk : k (i64 (parF (pre ++ t.text)).1) (K.set rb (rdo lv (b + 1) true))) (s1 s2 s4 s5 s6 s7 s8 s9 s10 s11 s12 s13 s14 s15 s16 s17 s18 s19 s20 s21 s22 s23 s24 s25 s26 s27 : Value) :
    S92x0 k [.pointer (some ⟨rb, 0, some 3⟩), s1, s2, str pre, s4, s5, s6, s7, s8, s9, s10, s11, s12, s13, s14, s15, s16, s17, s18, s19, s20, s21, s22, s23, s24, s25, s26, s27] K := by
  rw [S92x0q]
  have hta := c_take_y h ht
  rw [hk] at hta
  refine bndC_of hta ?_
  have e1 := fun H X Y => aBin_str (P := Tryz.prog) (H := H) (T := 9) (x := X) (y := Y) (a := pre) (b := t.text) (by omega)
  simp only [e1, bnd_some]
  refine bndC_of (c_fixParse (by simp; omega)) ?_
  have hlt := (List.getElem?_eq_some_iff.1 ht).1
  have hL := (h.put (b + 1) true (by omega)).cell
  generalize K.set rb (rdo lv (b + 1) true) = L at hL hkk ⊢
  have hc : hcells L rb = some [lv, i64 (b + 1 : Nat), .bool true] := by rw [hcells_eq, hL]; rfl
  have hll : hlen L rb = some 3 := by unfold hlen; rw [hL]; rfl
  have hss := set_same hL
  simp only [rdo] at hL hss
  simp at hss
  simp [hc, hll, hL, hp, hss]
  exact hkk
theorem c_value_y {H K rb lv ts a} (h : RdA H K rb lv ts a true) {t : Tok} (hm : isT ts a 4 [45] = false) (ht : ts[a]? = some t) (hk : t.kind = 2) (hl : t.text.length < 2 ^ 49) (hp : (parF t.text).2 = 0) :
    ACalls Tryz.prog 92 [(Value.pointer (some ⟨rb, 0, some 3⟩))] K (i64 (parF t.text).1) (K.set rb (rdo lv (a + 1) true)) := by
  refine acalls_of MixT Tryz.func92 (by decide) ?_
  rw [d92]
  refine bndC_of (c_takes_n h (k := 4) (s := [45]) (by simp [hm])) ?_
  simp
  exact value_tail (pre := []) h ht hk (by simp; omega) hp ⟨rfl, rfl⟩ _ _ _ _ _ _ _ _ _ _ _ _ _ _ _ _ _ _ _ _ _ _ _ _ _ _
theorem c_value_m {H K rb lv ts a} (h : RdA H K rb lv ts a true) {t : Tok} (hm : isT ts a 4 [45] = true) (ht : ts[a + 1]? = some t) (hk : t.kind = 2) (hl : t.text.length < 2 ^ 49) (hp : (parF (45 :: t.text)).2 = 0) :
    ACalls Tryz.prog 92 [(Value.pointer (some ⟨rb, 0, some 3⟩))] K (i64 (parF (45 :: t.text)).1) (K.set rb (rdo lv (a + 2) true)) := by
  refine acalls_of MixT Tryz.func92 (by decide) ?_
  rw [d92]
  refine bndC_of (c_takes_y h hm) ?_
  simp
  have hlt := (List.getElem?_eq_some_iff.1 ht).1
  have := value_tail (pre := [45]) (h.put (a + 1) true (by omega)) ht hk (by simp; omega) hp (k := fun u H2 => u = i64 (parF (45 :: t.text)).1 ∧ H2 = K.set rb (rdo lv (a + 2) true)) ⟨rfl, by simp⟩
  exact this _ _ _ _ _ _ _ _ _ _ _ _ _ _ _ _ _ _ _ _ _ _ _ _ _ _
theorem c_selects0 {H K rb lv ts a} (h : RdA H K rb lv ts a true) (h1 : isT ts a 4 [123] = true) (h2 : isT ts (a + 1) 4 [125] = true) :
    ACalls Tryz.prog 90 [(Value.pointer (some ⟨rb, 0, some 3⟩))] K (.slice none 0 0) (K.set rb (rdo lv (a + 2) true)) := by
  refine acalls_of MixT Tryz.func90 (by decide) ?_
  rw [d90]
  refine bndC_of (c_sign_y h h1) ?_
  refine bndC_of (c_takes_y (h.put (a + 1) true (by have := isT_lt h1; omega)) h2) ?_
  simp

/-! ### A comparison without matchers -/
structure CmpAt (ts : List Tok) (a i : Nat) (w : Int) (j : Nat) (x : Int) : Prop where
  t0 : ∃ t, ts[a]? = some t ∧ t.kind = 1 ∧ aggs[i]? = some t.text
  s1 : isT ts (a + 1) 4 [40] = true
  s2 : isT ts (a + 2) 4 [123] = true
  s3 : isT ts (a + 3) 4 [125] = true
  s4 : isT ts (a + 4) 4 [91] = true
  t5 : ∃ t, ts[a + 5]? = some t ∧ t.kind = 2 ∧ t.text.length ≤ 18 ∧ 1 ≤ t.text.length ∧ (∀ b ∈ t.text, isDig b = true) ∧ natF 0 t.text = w ∧ 1 ≤ w ∧ w ≤ 1000
  s6 : isT ts (a + 6) 4 [93] = true
  s7 : isT ts (a + 7) 4 [41] = true
  t8 : ∃ t, ts[a + 8]? = some t ∧ t.kind = 4 ∧ cmps[j]? = some t.text
  n9 : isT ts (a + 9) 4 [45] = false
  t9 : ∃ t, ts[a + 9]? = some t ∧ t.kind = 2 ∧ t.text.length < 2 ^ 49 ∧ parF t.text = (x, 0)
def cmpNod (i : Nat) (w : Int) (j : Nat) (x : Int) : Nod := ⟨0, UInt8.ofNat i, [], w, UInt8.ofNat j, x, 0, 0⟩
def nodZ : List Value := [.int .u8 0, .int .u8 0, .slice none 0 0, i64 0, .int .u8 0, i64 0, i64 0, i64 0]
structure CmpSt (H K L : AHeap) (rb : Nat) (lv : Value) (ts : List Tok) (a b0 b1 : Nat) (n : List Value) : Prop where
  rd : RdA H L rb lv ts a true
  f0 : L[b0]? = some (.cells nodZ 75)
  f1 : L[b1]? = some (.cells n 75)
  fr : ∀ (b : Nat) o, b ≠ rb → K[b]? = some o → L[b]? = some o
  len : K.length ≤ L.length
  k0 : rb < K.length
  k1 : K.length ≤ b0
  k2 : K.length ≤ b1
  k3 : b0 ≠ b1
theorem CmpSt.rds {H K L rb lv ts a b0 b1 n} (h : CmpSt H K L rb lv ts a b0 b1 n) (a' : Nat) (ha : a' ≤ ts.length) : CmpSt H K (L.set rb (rdo lv a' true)) rb lv ts a' b0 b1 n := by
  have := h.k0; have := h.k1; have := h.k2
  exact ⟨h.rd.put a' true ha, by rw [List.getElem?_set_ne (by omega)]; exact h.f0, by rw [List.getElem?_set_ne (by omega)]; exact h.f1, fun b o hb ho => by rw [List.getElem?_set_ne (fun e => hb e.symm)]; exact h.fr b o hb ho, by simpa using h.len, h.k0, h.k1, h.k2, h.k3⟩
theorem CmpSt.app {H K L rb lv ts a b0 b1 n} (h : CmpSt H K L rb lv ts a b0 b1 n) (X : AHeap) : CmpSt H K (L ++ X) rb lv ts a b0 b1 n :=
  ⟨h.rd.app X, get_more h.f0, get_more h.f1, fun b o hb ho => get_more (h.fr b o hb ho), by have := h.len; simp; omega, h.k0, h.k1, h.k2, h.k3⟩
theorem CmpSt.sto {H K L rb lv ts a b0 b1 n} (h : CmpSt H K L rb lv ts a b0 b1 n) (n' : List Value) : CmpSt H K (L.set b1 (.cells n' 75)) rb lv ts a b0 b1 n' := by
  have h1 := h.k0; have h2 := h.k1; have h3 := h.k2
  have hb1 := (List.getElem?_eq_some_iff.1 h.f1).1
  have hrd := h.rd
  refine ⟨⟨hrd.toks, hrd.pre.set (by have := hrd.pre; have := hrd.hb; omega), hrd.hb, by rw [List.getElem?_set_ne (by omega)]; exact hrd.cell, hrd.len, hrd.le⟩, by rw [List.getElem?_set_ne (Ne.symm h.k3)]; exact h.f0, by rw [List.getElem?_set_self hb1], fun b o hb ho => ?_, by simpa using h.len, h.k0, h.k1, h.k2, h.k3⟩
  have hbk := (List.getElem?_eq_some_iff.1 ho).1
  rw [List.getElem?_set_ne (by omega)]
  exact h.fr b o hb ho
theorem CmpSt.fin {H K L rb lv ts a b0 b1 n} (h : CmpSt H K L rb lv ts a b0 b1 n) (n' : List Value) : RdA H (L.set b0 (.cells n' 75)) rb lv ts a true ∧ (∀ (b : Nat) o, b ≠ rb → K[b]? = some o → (L.set b0 (.cells n' 75))[b]? = some o) ∧ K.length ≤ (L.set b0 (.cells n' 75)).length := by
  have h1 := h.k0; have h2 := h.k1; have h3 := h.k2
  have hrd := h.rd
  refine ⟨⟨hrd.toks, hrd.pre.set (by have := hrd.hb; omega), hrd.hb, by rw [List.getElem?_set_ne (by omega)]; exact hrd.cell, hrd.len, hrd.le⟩, fun b o hb ho => ?_, by simpa using h.len⟩
  have hbk := (List.getElem?_eq_some_iff.1 ho).1
  rw [List.getElem?_set_ne (by omega)]
  exact h.fr b o hb ho
theorem CmpSt.hl {H K L rb lv ts a b0 b1 n} (h : CmpSt H K L rb lv ts a b0 b1 n) : hlen L b1 = some n.length := by unfold hlen; rw [h.f1]; rfl
theorem CmpSt.hc {H K L rb lv ts a b0 b1 n} (h : CmpSt H K L rb lv ts a b0 b1 n) : hcells L b1 = some n := by rw [hcells_eq, h.f1]; rfl
theorem arr_strs {H : AHeap} (l : List (List UInt8)) (T : TypeId) (n : Nat) (hn : n = l.length) : Arr (H ++ [AObj.cells (l.map str) T]) 1 (.slice (some ⟨H.length, 0, some n⟩) n n) (strCells l) := by
  subst hn
  refine .mk H.length 0 _ _ _ (l.map str) _ (by simp [strCells]) (by simp [hcells_eq, AObj.rcells]) (by simp) (by simp) fun i e hi => ?_
  simp [strCells] at hi
  obtain ⟨b, hb, rfl⟩ := hi
  rw [Nat.zero_add, Nat.mul_one, ← List.map_drop, ← List.map_take]
  have : (l.drop i).take 1 = [b] := by
    have hlt := (List.getElem?_eq_some_iff.1 hb).1
    rw [List.drop_eq_getElem_cons hlt, (List.getElem?_eq_some_iff.1 hb).2]; rfl
  rw [this]; rfl
theorem c_comparison {H K rb lv ts a i w j x} (h : RdA H K rb lv ts a true) (hc : CmpAt ts a i w j x) :
    ∃ K', ACalls Tryz.prog 71 [(Value.pointer (some ⟨rb, 0, some 3⟩))] K (.agg ((cmpNod i w j x).cells (.slice none 0 0)).toArray) K' ∧ RdA H K' rb lv ts (a + 10) true ∧ (∀ (b : Nat) o, b ≠ rb → K[b]? = some o → K'[b]? = some o) ∧ K.length ≤ K'.length := by
  have key : ∃ v K', (v = .agg ((cmpNod i w j x).cells (.slice none 0 0)).toArray ∧ RdA H K' rb lv ts (a + 10) true ∧ (∀ (b : Nat) o, b ≠ rb → K[b]? = some o → K'[b]? = some o) ∧ K.length ≤ K'.length) ∧ ACalls Tryz.prog 71 [(Value.pointer (some ⟨rb, 0, some 3⟩))] K v K' := by
    refine acalls_ex MixT Tryz.func71 (by decide) ?_
    rw [d71]
    simp
    refine bndC_of (c_aggregates _) ?_
    obtain ⟨t, ht1, ht2, ht3⟩ := hc.t0
    have h2 := (h.app [AObj.cells nodZ 75]).app [AObj.cells (aggs.map str) 9]
    have hone := c_one_y h2 (arr_strs aggs 9 6 rfl) (by decide) (by decide) ht1 ht3
    rw [ht2] at hone
    refine bndC_of hone ?_
    obtain ⟨t9, u1, u2, u3, u4⟩ := hc.t9
    obtain ⟨t8, w1, w2, w3⟩ := hc.t8
    obtain ⟨t5, z1, z2, z3, z4, z5, z6, z7, z8⟩ := hc.t5
    have hlt9 := (List.getElem?_eq_some_iff.1 u1).1
    have hrb := h.lt
    have hil : i < 6 := (List.getElem?_eq_some_iff.1 ht3).1
    have hjl : j < 6 := (List.getElem?_eq_some_iff.1 w3).1
    have hL := (h2.app [AObj.map (nmapK 0 aggs)]).put (a + 1) true (by omega)
    have hz : (List.set (K ++ [AObj.cells nodZ 75] ++ [AObj.cells (List.map str aggs) 9] ++ [AObj.map (nmapK 0 aggs)]) rb (rdo lv (a + 1) true))[K.length]? = some (.cells nodZ 75) := by
      rw [List.getElem?_set_ne (by omega)]; simp
    have hfr : ∀ (b : Nat) o, b ≠ rb → K[b]? = some o → (List.set (K ++ [AObj.cells nodZ 75] ++ [AObj.cells (List.map str aggs) 9] ++ [AObj.map (nmapK 0 aggs)]) rb (rdo lv (a + 1) true))[b]? = some o := fun b o hb ho => by
      rw [List.getElem?_set_ne (fun e => hb e.symm)]; exact get_more (get_more (get_more ho))
    have hll : (List.set (K ++ [AObj.cells nodZ 75] ++ [AObj.cells (List.map str aggs) 9] ++ [AObj.map (nmapK 0 aggs)]) rb (rdo lv (a + 1) true)).length = K.length + 3 := by simp
    generalize (List.set (K ++ [AObj.cells nodZ 75] ++ [AObj.cells (List.map str aggs) 9] ++ [AObj.map (nmapK 0 aggs)]) rb (rdo lv (a + 1) true)) = L6 at hL hz hfr hll ⊢
    have st : CmpSt H K (L6 ++ [AObj.cells [.int .u8 0, .int .u8 i, .slice none 0 0, i64 0, .int .u8 0, i64 0, i64 0, i64 0] 75]) rb lv ts (a + 1) K.length L6.length [.int .u8 0, .int .u8 i, .slice none 0 0, i64 0, .int .u8 0, i64 0, i64 0, i64 0] :=
      ⟨hL.app _, get_more hz, by simp, fun b o hb ho => get_more (hfr b o hb ho), by simp; omega, hrb, Nat.le_refl _, by omega, by omega⟩
    simp
    generalize L6 ++ [AObj.cells [.int .u8 0, .int .u8 i, .slice none 0 0, i64 0, .int .u8 0, i64 0, i64 0, i64 0] 75] = L7 at st ⊢
    refine bndC_of (c_sign_y st.rd hc.s1) ?_
    have st8 := st.rds (a + 2) (by omega)
    generalize L7.set rb (rdo lv (a + 1 + 1) true) = L8 at st8 ⊢
    refine bndC_of (c_selects0 st8.rd hc.s2 hc.s3) ?_
    have st9 := st8.rds (a + 4) (by omega)
    generalize L8.set rb (rdo lv (a + 2 + 2) true) = L9 at st9 ⊢
    have e1 := st9.hl
    have e2 := st9.f1
    simp [e1, e2]
    have sta := st9.sto [.int .u8 0, .int .u8 i, .slice none 0 0, i64 0, .int .u8 0, i64 0, i64 0, i64 0]
    generalize L9.set L6.length (AObj.cells [.int .u8 0, .int .u8 i, .slice none 0 0, i64 0, .int .u8 0, i64 0, i64 0, i64 0] 75) = La at sta ⊢
    refine bndC_of (c_sign_y sta.rd hc.s4) ?_
    have stb := sta.rds (a + 5) (by omega)
    generalize La.set rb (rdo lv (a + 4 + 1) true) = Lb at stb ⊢
    have hwin := c_window_y stb.rd z1 z2 z3 z4 z5 (by omega) (by omega)
    rw [z6] at hwin
    refine bndC_of hwin ?_
    have stc := stb.rds (a + 6) (by omega)
    generalize Lb.set rb (rdo lv (a + 5 + 1) true) = Lc at stc ⊢
    have e1 := stc.hl
    have e2 := stc.f1
    simp [e1, e2]
    have std := stc.sto [.int .u8 0, .int .u8 i, .slice none 0 0, i64 w, .int .u8 0, i64 0, i64 0, i64 0]
    generalize Lc.set L6.length (AObj.cells [.int .u8 0, .int .u8 i, .slice none 0 0, i64 w, .int .u8 0, i64 0, i64 0, i64 0] 75) = Ld at std ⊢
    refine bndC_of (c_sign_y std.rd hc.s6) ?_
    have ste := std.rds (a + 7) (by omega)
    generalize Ld.set rb (rdo lv (a + 6 + 1) true) = Le at ste ⊢
    refine bndC_of (c_sign_y ste.rd hc.s7) ?_
    have stf := ste.rds (a + 8) (by omega)
    generalize Le.set rb (rdo lv (a + 7 + 1) true) = Lf at stf ⊢
    refine bndC_of (c_compares _) ?_
    have hone2 := c_one_y (stf.app [AObj.cells (cmps.map str) 9]).rd (arr_strs cmps 9 6 rfl) (by decide) (by decide) w1 w3
    rw [w2] at hone2
    refine bndC_of hone2 ?_
    have stg := ((stf.app [AObj.cells (cmps.map str) 9]).app [AObj.map (nmapK 0 cmps)]).rds (a + 9) (by omega)
    generalize (Lf ++ [AObj.cells (cmps.map str) 9] ++ [AObj.map (nmapK 0 cmps)]).set rb (rdo lv (a + 8 + 1) true) = Lg at stg ⊢
    have e1 := stg.hl
    have e2 := stg.f1
    simp [e1, e2]
    have sth := stg.sto [.int .u8 0, .int .u8 i, .slice none 0 0, i64 w, .int .u8 j, i64 0, i64 0, i64 0]
    generalize Lg.set L6.length (AObj.cells [.int .u8 0, .int .u8 i, .slice none 0 0, i64 w, .int .u8 j, i64 0, i64 0, i64 0] 75) = Lh at sth ⊢
    have hval := c_value_y sth.rd hc.n9 u1 u2 u3 (by rw [u4])
    rw [u4] at hval
    refine bndC_of hval ?_
    have sti := sth.rds (a + 10) (by omega)
    generalize Lh.set rb (rdo lv (a + 9 + 1) true) = Li at sti ⊢
    have e1 := sti.hl
    have e2 := sti.f1
    simp [e1, e2]
    have stj := sti.sto [.int .u8 0, .int .u8 i, .slice none 0 0, i64 w, .int .u8 j, i64 x, i64 0, i64 0]
    generalize Li.set L6.length (AObj.cells [.int .u8 0, .int .u8 i, .slice none 0 0, i64 w, .int .u8 j, i64 x, i64 0, i64 0] 75) = Lj at stj ⊢
    have e1 := stj.hc
    have e2 := stj.f0
    obtain ⟨q1, q2, q3⟩ := stj.fin [.int .u8 0, .int .u8 i, .slice none 0 0, i64 w, .int .u8 j, i64 x, i64 0, i64 0]
    have hself : hcells (Lj.set K.length (AObj.cells [.int .u8 0, .int .u8 i, .slice none 0 0, i64 w, .int .u8 j, i64 x, i64 0, i64 0] 75)) K.length = some [.int .u8 0, .int .u8 i, .slice none 0 0, i64 w, .int .u8 j, i64 x, i64 0, i64 0] := by
      rw [hcells_eq, List.getElem?_set_self (List.getElem?_eq_some_iff.1 stj.f0).1]; rfl
    simp [e1, e2, nodZ, hself, Nod.cells, cmpNod]
    exact ⟨⟨by omega, by omega⟩, q1, q2, by simpa using q3⟩
  obtain ⟨v, K', ⟨rfl, h⟩, hy⟩ := key
  exact ⟨K', hy, h⟩
end Go.Vi
namespace Go.Vi
open Go Go.Proofs
-- (*tocsin/expr.reader).condition$1
def S68x0 (k : Value → AHeap → Prop) (sl : List Value) (H : AHeap) : Prop := kseqG Tryz.prog (drawKeep Tryz.prog) (cr (cr (cr (cb Tryz.f68)))) (kfinG Tryz.prog Tryz.f68 k) .normal sl H []
def L68x0 (n : Nat) (k : Value → AHeap → Prop) (sl : List Value) (H : AHeap) : Prop := kitG Tryz.prog (drawKeep Tryz.prog) (cl (cl (cr (cr (cr (cr (cb Tryz.f68))))))) n (kblkG 1 (kfinG Tryz.prog Tryz.f68 k)) .normal sl H []
theorem d68 (a0 a1 a2 a3 : Value) (H : AHeap) (k : Value → AHeap → Prop) : kbodyG Tryz.prog (drawKeep Tryz.prog) Tryz.f68 [a0, a1, a2, a3] H k = (@bnd (aBin2 Tryz.prog H BinOp.eql 3 (Operand.tmp 8) (Operand.const (Value.int
  IntKind.i64 2)) a0 (Value.int IntKind.i64 2)) ⟨fun v9x1 => @kifB v9x1 ⟨@bnd (aLoad Tryz.prog H 87 a1) ⟨fun v16x2 => @bndC Tryz.prog 69 [v16x2, (Value.int IntKind.u8 1), (Value.string { data := #[110, 111, 116] })] H ⟨fun v17x3
  H4 => @kifB v17x3 ⟨@bnd (aLoad Tryz.prog H4 103 a2) ⟨fun v18x5 => @bndV Tryz.prog v18x5 [(Value.int IntKind.i64 2)] H4 ⟨fun _ H7 => @bnd (aLoad Tryz.prog H7 31 a3) ⟨fun v20x8 => @bnd (aLoad Tryz.prog H7 31 a3) ⟨fun v21x9 =>
  @bnd (aLen Tryz.prog H7 31 v21x9) ⟨fun v22x10 => @bnd (aBin2 Tryz.prog H7 BinOp.sub 3 (Operand.tmp 22) (Operand.const (Value.int IntKind.i64 1)) v22x10 (Value.int IntKind.i64 1)) ⟨fun v23x11 => @bnd (buildV Tryz.prog 75 [(0,
  (Value.int IntKind.u8 3)), (6, v23x11)]) ⟨fun v24x12 => @bndL Tryz.prog H7 31 1 [(0, v24x12)] ⟨fun v25x13 H14 => @bndE (aBuiltin Tryz.prog H14 Builtin.append #[31, 31] [v20x8, v25x13]) ⟨fun v26x15 H16 => @bndS (aStore Tryz.prog
  H16 31 a3 v26x15) ⟨fun _ H18 => k (.tuple #[]) H18⟩⟩⟩⟩⟩⟩⟩⟩⟩⟩⟩ ⟨@bnd (aLoad Tryz.prog H4 87 a1) ⟨fun v28x19 => @bndC Tryz.prog 69 [v28x19, (Value.int IntKind.u8 4), (Value.string { data := #[40] })] H4 ⟨fun v29x20 H21 => @kifB
  v29x20 ⟨@bnd (aLoad Tryz.prog H21 103 a2) ⟨fun v30x22 => @bndV Tryz.prog v30x22 [(Value.int IntKind.i64 0)] H21 ⟨fun _ H24 => @bnd (aLoad Tryz.prog H24 87 a1) ⟨fun v32x25 => @bndC Tryz.prog 70 [v32x25, (Value.string { data :=
  #[41] })] H24 ⟨fun _ H27 => k (.tuple #[]) H27⟩⟩⟩⟩⟩ ⟨@bnd (aLoad Tryz.prog H21 31 a3) ⟨fun v10x28 => @bnd (aLoad Tryz.prog H21 87 a1) ⟨fun v11x29 => @bndK false true H21 ⟨fun v12x30 H31 => ACalls Tryz.prog 71 [v11x29] H21
  v12x30 H31⟩ ⟨fun _ H31 => aLoad Tryz.prog H31 31 a3 = some v10x28 ∧ True⟩ ⟨fun v12x30 H31 => @bndK false true H31 ⟨fun v13x32 H33 => sliceLit Tryz.prog H31 31 1 [(0, v12x30)] v13x32 H33⟩ ⟨fun _ H33 => aLoad Tryz.prog H33 31 a3
  = some v10x28 ∧ True⟩ ⟨fun v13x32 H33 => @bndK true true H33 ⟨fun v14x34 H35 => aBuiltin Tryz.prog H33 Builtin.append #[31, 31] [v10x28, v13x32] = some (v14x34, H35)⟩ ⟨fun _ _ => True⟩ ⟨fun v14x34 H35 => @bndK true true H35
  ⟨fun x36 H37 => x36 = undef ∧ aStore Tryz.prog H35 31 a3 v14x34 = some H37⟩ ⟨fun _ _ => True⟩ ⟨fun _ H37 => k (.tuple #[]) H37⟩⟩⟩⟩⟩⟩⟩⟩⟩⟩⟩⟩⟩ ⟨@bnd (aBin2 Tryz.prog H BinOp.eql 3 (Operand.tmp 34) (Operand.const (Value.int
  IntKind.i64 1)) a0 (Value.int IntKind.i64 1)) ⟨fun v35x38 => @kifB v35x38 ⟨S68x0  k [a0, a1, a2, a3, undef, (Value.string { data := #[97, 110, 100] }), (Value.int IntKind.u8 1), undef, a0, v9x1, undef, undef, undef, undef,
  undef, undef, undef, undef, undef, undef, undef, undef, undef, undef, undef, undef, undef, undef, undef, undef, undef, undef, undef, undef, a0, v35x38, undef, undef, undef, undef, undef, undef, undef, undef, undef, undef,
  undef, undef, undef, undef, undef, undef, undef, undef, undef, undef, undef, undef, undef] H⟩ ⟨S68x0  k [a0, a1, a2, a3, undef, (Value.string { data := #[111, 114] }), (Value.int IntKind.u8 2), undef, a0, v9x1, undef, undef,
  undef, undef, undef, undef, undef, undef, undef, undef, undef, undef, undef, undef, undef, undef, undef, undef, undef, undef, undef, undef, undef, undef, a0, v35x38, undef, undef, undef, undef, undef, undef, undef, undef,
  undef, undef, undef, undef, undef, undef, undef, undef, undef, undef, undef, undef, undef, undef, undef] H⟩⟩⟩⟩) := by kernel_rfl
theorem S68x0q (s0 s1 s2 s3 s4 s5 s6 s7 s8 s9 s10 s11 s12 s13 s14 s15 s16 s17 s18 s19 s20 s21 s22 s23 s24 s25 s26 s27 s28 s29 s30 s31 s32 s33 s34 s35 s36 s37 s38 s39 s40 s41 s42 s43 s44 s45 s46 s47 s48 s49 s50 s51 s52 s53 s54 s55
  s56 s57 s58 : Value) (H : AHeap) (k : Value → AHeap → Prop) : S68x0 k [s0, s1, s2, s3, s4, s5, s6, s7, s8, s9, s10, s11, s12, s13, s14, s15, s16, s17, s18, s19, s20, s21, s22, s23, s24, s25, s26, s27, s28, s29, s30, s31, s32,
  s33, s34, s35, s36, s37, s38, s39, s40, s41, s42, s43, s44, s45, s46, s47, s48, s49, s50, s51, s52, s53, s54, s55, s56, s57, s58] H = (@bnd (aLoad Tryz.prog H 103 s2) ⟨fun v36x39 => @bnd (aBin2 Tryz.prog H BinOp.add 3
  (Operand.tmp 37) (Operand.const (Value.int IntKind.i64 1)) s0 (Value.int IntKind.i64 1)) ⟨fun v38x40 => @bndV Tryz.prog v36x39 [v38x40] H ⟨fun v39x41 H42 => ∃ n, L68x0 n  k [s0, s1, s2, s3, s4, s5, s6, s7, s8, s9, s10, s11,
  s12, s13, s14, s15, s16, s17, s18, s19, s20, s21, s22, s23, s24, s25, s26, s27, s28, s29, s30, s31, s32, s33, s34, s35, v36x39, s0, v38x40, v39x41, s40, s41, s42, s43, s44, s45, s46, s47, s48, s49, s50, s51, s52, s53, s54, s55,
  s56, s57, s58] H42⟩⟩⟩) := by kernel_rfl
theorem L68x0q (n0 : Nat) (s0 s1 s2 s3 s4 s5 s6 s7 s8 s9 s10 s11 s12 s13 s14 s15 s16 s17 s18 s19 s20 s21 s22 s23 s24 s25 s26 s27 s28 s29 s30 s31 s32 s33 s34 s35 s36 s37 s38 s39 s40 s41 s42 s43 s44 s45 s46 s47 s48 s49 s50 s51 s52
  s53 s54 s55 s56 s57 s58 : Value) (H : AHeap) (k : Value → AHeap → Prop) : L68x0 (n0 + 1) k [s0, s1, s2, s3, s4, s5, s6, s7, s8, s9, s10, s11, s12, s13, s14, s15, s16, s17, s18, s19, s20, s21, s22, s23, s24, s25, s26, s27, s28,
  s29, s30, s31, s32, s33, s34, s35, s36, s37, s38, s39, s40, s41, s42, s43, s44, s45, s46, s47, s48, s49, s50, s51, s52, s53, s54, s55, s56, s57, s58] H = (@bnd (aLoad Tryz.prog H 87 s1) ⟨fun v40x43 => @bndC Tryz.prog 69
  [v40x43, (Value.int IntKind.u8 1), s5] H ⟨fun v42x44 H45 => @kifB v42x44 ⟨@bnd (aLoad Tryz.prog H45 31 s3) ⟨fun v43x46 => @bnd (aLen Tryz.prog H45 31 v43x46) ⟨fun v44x47 => @bnd (aBin2 Tryz.prog H45 BinOp.sub 3 (Operand.tmp 44)
  (Operand.const (Value.int IntKind.i64 1)) v44x47 (Value.int IntKind.i64 1)) ⟨fun v45x48 => @bnd (aLoad Tryz.prog H45 103 s2) ⟨fun v46x49 => @bnd (aBin2 Tryz.prog H45 BinOp.add 3 (Operand.tmp 47) (Operand.const (Value.int
  IntKind.i64 1)) s0 (Value.int IntKind.i64 1)) ⟨fun v48x50 => @bndV Tryz.prog v46x49 [v48x50] H45 ⟨fun v49x51 H52 => @bnd (aLoad Tryz.prog H52 31 s3) ⟨fun v50x53 => @bnd (aLoad Tryz.prog H52 31 s3) ⟨fun v53x54 => @bnd (aLen
  Tryz.prog H52 31 v53x54) ⟨fun v54x55 => @bnd (aBin2 Tryz.prog H52 BinOp.sub 3 (Operand.tmp 54) (Operand.const (Value.int IntKind.i64 1)) v54x55 (Value.int IntKind.i64 1)) ⟨fun v55x56 => @bnd (buildV Tryz.prog 75 [(0, s6), (6,
  v45x48), (7, v55x56)]) ⟨fun v56x57 => @bndL Tryz.prog H52 31 1 [(0, v56x57)] ⟨fun v57x58 H59 => @bndE (aBuiltin Tryz.prog H59 Builtin.append #[31, 31] [v50x53, v57x58]) ⟨fun v58x60 H61 => @bndS (aStore Tryz.prog H61 31 s3
  v58x60) ⟨fun _ H63 => L68x0 n0  k [s0, s1, s2, s3, s4, s5, s6, v45x48, s8, s9, s10, s11, s12, s13, s14, s15, s16, s17, s18, s19, s20, s21, s22, s23, s24, s25, s26, s27, s28, s29, s30, s31, s32, s33, s34, s35, s36, s37, s38,
  s39, v40x43, s5, v42x44, v43x46, v44x47, v45x48, v46x49, s0, v48x50, v49x51, v50x53, s6, v45x48, v53x54, v54x55, v55x56, v56x57, v57x58, v58x60] H63⟩⟩⟩⟩⟩⟩⟩⟩⟩⟩⟩⟩⟩⟩⟩ ⟨k (.tuple #[]) H45⟩⟩⟩) := by kernel_rfl

end Go.Vi
namespace Go.Vi
open Go Go.Proofs

theorem drawKeep_one {P : Program} : OneD (drawKeep P) := by
  constructor
  · intro ops k k' sl H hk h
    unfold drawKeep at h ⊢
    split at h
    · exact kdrawK_mono hk _ _ h
    · cases h
  · intro ops k sl H h
    unfold drawKeep at h ⊢
    split at h
    · exact kdrawK_one _ _ h
    · cases h
theorem acallsK_ex {P : Program} (hm : P.follows .mixedOrders = true) {f fn args H} {k : Value → AHeap → Prop} (hf : P.funcs[f]? = some fn) (hn : notNG fn = true) (hr : kbodyG P (drawKeep P) fn args H k) : ∃ v H', k v H' ∧ ACalls P f args H v H' := by
  obtain ⟨v, H', h1, h2⟩ := kbodyG_one drawKeep_one hr
  exact ⟨v, H', h1, acallsG_of (fun c => @drawKeep_sound P c hm) hf hn h2⟩
def cel8 (n : Nod) : List Value := n.cells (.slice none 0 0)
def wordOf (k : Nat) : List UInt8 := if k = 1 then [97, 110, 100] else [111, 114]
def notW : List UInt8 := [110, 111, 116]
def opNod (k : UInt8) (l r : Int) : Nod := ⟨k, 0, [], 0, 0, 0, l, r⟩
/-- What is read from a token on: `k` below 2 between operators, 2 beside one, 10 and 11 behind a part. -/
inductive Str (ts : List Tok) : Nat → Nat → Nat → List Nod → List Nod → Prop
  | cmp {a i w j x l} : isT ts a 1 notW = false → isT ts a 4 [40] = false → CmpAt ts a i w j x → Str ts 2 a (a + 10) l (l ++ [cmpNod i w j x])
  | neg {a b l l'} : isT ts a 1 notW = true → Str ts 2 (a + 1) b l l' → Str ts 2 a b l (l' ++ [opNod 3 ((l'.length : Int) - 1) 0])
  | par {a b l l'} : isT ts a 1 notW = false → isT ts a 4 [40] = true → Str ts 0 (a + 1) b l l' → isT ts b 4 [41] = true → Str ts 2 a (b + 1) l l'
  | lvl {k a b c l l' l''} : k < 2 → Str ts (k + 1) a b l l' → Str ts (k + 10) b c l' l'' → Str ts k a c l l''
  | done {k b l} : k < 2 → isT ts b 1 (wordOf k) = false → Str ts (k + 10) b b l l
  | more {k b c d l l' l''} : k < 2 → isT ts b 1 (wordOf k) = true → Str ts (k + 1) (b + 1) c l l' → Str ts (k + 10) c d (l' ++ [opNod (if k = 1 then 1 else 2) ((l.length : Int) - 1) ((l'.length : Int) - 1)]) l'' → Str ts (k + 10) b d l l''
theorem Str.len {ts m a b l l'} (h : Str ts m a b l l') : l.length ≤ l'.length := by
  induction h <;> (try simp only [List.length_append, List.length_cons, List.length_nil] at *) <;> omega
structure CndSt (H K : AHeap) (rb : Nat) (lv : Value) (ts : List Tok) (a rv sb lb lo : Nat) (ns : List Nod) : Prop where
  rd : RdA H K rb lv ts a true
  cr : K[rv]? = some (.cells [(Value.pointer (some ⟨rb, 0, some 3⟩))] 87)
  cs : K[sb]? = some (.cells [.func (.func 68) #[] #[(Value.pointer (some ⟨rv, 0, some 1⟩)), (Value.pointer (some ⟨sb, 0, some 1⟩)), (Value.pointer (some ⟨lb, 0, some 1⟩))]] 103)
  cl : ∃ v, K[lb]? = some (.cells [v] 31) ∧ Gro K lo 8 75 v (ns.map cel8)
  b0 : rb < rv
  b1 : rv < lb
  b2 : lb < sb
  b3 : sb < lo
  b4 : lo ≤ K.length
theorem nel1 : aElem Tryz.prog 31 = some (75, 8, 72) := by kernel_rfl
theorem nel2 : isSeq Tryz.prog 31 = true := by kernel_rfl
theorem Gro.fr {K K' lo z T v cl} (h : Gro K lo z T v cl) (hf : ∀ (b : Nat) o, lo ≤ b → K[b]? = some o → K'[b]? = some o) : Gro K' lo z T v cl := by
  cases h with
  | nil => exact .nil
  | mk bb cl h1 h2 h3 h4 => exact .mk bb cl h1 (hf _ _ h1 h2) h3 h4
theorem CndSt.fr {H K K1 rb lv ts a a' rv sb lb lo ns} (h : CndSt H K rb lv ts a rv sb lb lo ns) (g2 : RdA H K1 rb lv ts a' true) (g3 : ∀ (b : Nat) o, b ≠ rb → K[b]? = some o → K1[b]? = some o) (g4 : K.length ≤ K1.length) : CndSt H K1 rb lv ts a' rv sb lb lo ns := by
  obtain ⟨v, hv1, hv2⟩ := h.cl
  have hb0 := h.b0; have hb1 := h.b1; have hb2 := h.b2; have hb3 := h.b3; have hb4 := h.b4
  exact ⟨g2, g3 _ _ (by omega) h.cr, g3 _ _ (by omega) h.cs, ⟨v, g3 _ _ (by omega) hv1, hv2.fr fun b o hb ho => g3 b o (by omega) ho⟩, hb0, hb1, hb2, hb3, by omega⟩
theorem CndSt.rds {H K rb lv ts a rv sb lb lo ns} (h : CndSt H K rb lv ts a rv sb lb lo ns) (a' : Nat) (ha : a' ≤ ts.length) : CndSt H (K.set rb (rdo lv a' true)) rb lv ts a' rv sb lb lo ns :=
  h.fr (h.rd.put a' true ha) (fun b o hb ho => by rw [List.getElem?_set_ne (fun e => hb e.symm)]; exact ho) (by simp)
theorem CndSt.push {H K rb lv ts a rv sb lb lo ns} (h : CndSt H K rb lv ts a rv sb lb lo ns) (n : Nod) (hns : ns.length + 1 ≤ 2 ^ 30) {v : Value} (hv : K[lb]? = some (.cells [v] 31)) :
    ∃ v' K2, aBuiltin Tryz.prog (K ++ [AObj.cells (cel8 n) 75]) .append #[31, 31] [v, .slice (some ⟨K.length, 0, some 8⟩) 1 1] = some (v', K2) ∧
      aStore Tryz.prog K2 31 ((Value.pointer (some ⟨lb, 0, some 1⟩))) v' = some (K2.set lb (.cells [v'] 31)) ∧ CndSt H (K2.set lb (.cells [v'] 31)) rb lv ts a rv sb lb lo (ns ++ [n]) := by
  obtain ⟨v0, hv1, hv2⟩ := h.cl
  rw [hv] at hv1
  cases hv1
  have hb0 := h.b0; have hb1 := h.b1; have hb2 := h.b2; have hb3 := h.b3; have hb4 := h.b4; have hhb := h.rd.hb
  have hv4 := hv2.app (X := [AObj.cells (cel8 n) 75])
  obtain ⟨v', K2, q1, q2, q3, q4, q5⟩ := Gro.push (P := Tryz.prog) (Ts := 31) (by_ := 72) (x := .slice (some ⟨K.length, 0, some 8⟩) 1 1) (c := cel8 n) hv4 nel1 nel2 (by rfl) (by simp; omega) (by simp [aSrc, cel8, Nod.cells]) (by simp; omega) (by simp; omega)
  have hcl2 := q3 lb _ (by omega) (get_more hv)
  have hget : ∀ (b : Nat) o, b < lo → b ≠ lb → K[b]? = some o → (K2.set lb (.cells [v'] 31))[b]? = some o := fun b o h1 h2 ho => by
    rw [List.getElem?_set_ne (fun e => h2 e.symm)]; exact q3 _ _ h1 (get_more ho)
  have hrd := h.rd
  refine ⟨v', K2, q1, by simp [hcl2, q2.cells, q2.stor], ⟨hrd.toks, (q5 H (hrd.pre.more _) (by omega)).set (by omega), hhb, hget _ _ (by omega) (by omega) hrd.cell, hrd.len, hrd.le⟩, hget _ _ (by omega) (by omega) h.cr, hget _ _ (by omega) (by omega) h.cs, ⟨v', ?_, ?_⟩, hb0, hb1, hb2, hb3, ?_⟩
  · rw [List.getElem?_set_self (by simp at q4; omega)]
  · rw [List.map_append]
    exact q2.set (by omega)
  · simp at q4 ⊢; omega
theorem nod_lit {K : AHeap} (n : Nod) : sliceLit Tryz.prog K 31 1 [(0, .agg (cel8 n).toArray)] (.slice (some ⟨K.length, 0, some 8⟩) 1 1) (K ++ [.cells (cel8 n) 75]) :=
  sliceLitA (c := cel8 n) (tbs31 K 1 _) (by rfl) (by simp [cel8, Nod.cells]) (by simp)
theorem c_str2 {H K rb lv ts a rv sb lb lo ns i w j x} (h : CndSt H K rb lv ts a rv sb lb lo ns) (hns : ns.length + 1 ≤ 2 ^ 30) (h1 : isT ts a 1 notW = false) (h2 : isT ts a 4 [40] = false) (hc : CmpAt ts a i w j x) :
    ∃ K', ACalls Tryz.prog 68 [i64 2, (Value.pointer (some ⟨rv, 0, some 1⟩)), (Value.pointer (some ⟨sb, 0, some 1⟩)), (Value.pointer (some ⟨lb, 0, some 1⟩))] K (.tuple #[]) K' ∧ CndSt H K' rb lv ts (a + 10) rv sb lb lo (ns ++ [cmpNod i w j x]) := by
  have key : ∃ v K', (v = .tuple #[] ∧ CndSt H K' rb lv ts (a + 10) rv sb lb lo (ns ++ [cmpNod i w j x])) ∧ ACalls Tryz.prog 68 [i64 2, (Value.pointer (some ⟨rv, 0, some 1⟩)), (Value.pointer (some ⟨sb, 0, some 1⟩)), (Value.pointer (some ⟨lb, 0, some 1⟩))] K v K' := by
    refine acallsK_ex MixT Tryz.func68 (by decide) ?_
    rw [d68]
    obtain ⟨v, hv1, hv2⟩ := h.cl
    have hcr : hcells K rv = some [(Value.pointer (some ⟨rb, 0, some 3⟩))] := by rw [hcells_eq, h.cr]; rfl
    have hcl : hcells K lb = some [v] := by rw [hcells_eq, hv1]; rfl
    simp [hcr]
    refine bndC_of (c_takes_n h.rd (k := 1) (s := notW) (by simp [h1])) ?_
    simp [hcr]
    refine bndC_of (c_takes_n h.rd (k := 4) (s := [40]) (by simp [h2])) ?_
    simp [hcr, hcl]
    obtain ⟨K1, g1, g2, g3, g4⟩ := c_comparison h.rd hc
    have h1 := h.fr g2 g3 g4
    have hcl1 : K1[lb]? = some (.cells [v] 31) := g3 _ _ (by have := h.b0; have := h.b1; omega) hv1
    have hcc1 : hcells K1 lb = some [v] := by rw [hcells_eq, hcl1]; rfl
    refine bndK_of g1 ⟨by simp [hcc1], trivial⟩ ?_
    obtain ⟨v', K2, q1, q2, q3⟩ := h1.push (cmpNod i w j x) hns hcl1
    refine bndK_ext (nod_lit _) ⟨_, rfl⟩ ?_
    refine bndK_bar q1 ?_
    refine bndK_bar ⟨rfl, q2⟩ ?_
    exact ⟨rfl, q3⟩
  obtain ⟨v, K', ⟨rfl, h⟩, hy⟩ := key
  exact ⟨K', hy, h⟩
abbrev CndC (H K : AHeap) (rb : Nat) (lv : Value) (ts : List Tok) (b rv sb lb lo : Nat) (l' : List Nod) (m : Nat) : Prop :=
  ∃ K', ACalls Tryz.prog 68 [i64 m, (Value.pointer (some ⟨rv, 0, some 1⟩)), (Value.pointer (some ⟨sb, 0, some 1⟩)), (Value.pointer (some ⟨lb, 0, some 1⟩))] K (.tuple #[]) K' ∧ CndSt H K' rb lv ts b rv sb lb lo l'
def kindOf (k : Nat) : Int := if k = 1 then 1 else 2
abbrev CndL (H K : AHeap) (rb : Nat) (lv : Value) (ts : List Tok) (b rv sb lb lo : Nat) (l' : List Nod) (k : Nat) : Prop :=
  ∃ K', CndSt H K' rb lv ts b rv sb lb lo l' ∧ ∀ (kk : Value → AHeap → Prop), kk (.tuple #[]) K' → ∃ n, ∀ (s4 s7 s8 s9 s10 s11 s12 s13 s14 s15 s16 s17 s18 s19 s20 s21 s22 s23 s24 s25 s26 s27 s28 s29 s30 s31 s32 s33 s34 s35 s36 s37 s38 s39 s40 s41 s42 s43 s44 s45 s46 s47 s48 s49 s50 s51 s52 s53 s54 s55 s56 s57 s58 : Value),
    L68x0 n kk [i64 k, Value.pointer (some ⟨rv, 0, some 1⟩), Value.pointer (some ⟨sb, 0, some 1⟩), Value.pointer (some ⟨lb, 0, some 1⟩), s4, str (wordOf k), .int .u8 (kindOf k), s7, s8, s9, s10, s11, s12, s13, s14, s15, s16, s17, s18, s19, s20, s21, s22, s23, s24, s25, s26, s27, s28, s29, s30, s31, s32, s33, s34, s35, s36, s37, s38, s39, s40, s41, s42, s43, s44, s45, s46, s47, s48, s49, s50, s51, s52, s53, s54, s55, s56, s57, s58] K
theorem CndC.neg {H K rb lv ts a b rv sb lb lo} {l l' : List Nod} (h1 : isT ts a 1 notW = true) (ih : ∀ {K}, CndSt H K rb lv ts (a + 1) rv sb lb lo l → CndC H K rb lv ts b rv sb lb lo l' 2)
    (h : CndSt H K rb lv ts a rv sb lb lo l) (hl : l'.length + 1 ≤ 2 ^ 30) : CndC H K rb lv ts b rv sb lb lo (l' ++ [opNod 3 ((l'.length : Int) - 1) 0]) 2 := by
  have key : ∃ v K', (v = .tuple #[] ∧ CndSt H K' rb lv ts b rv sb lb lo (l' ++ [opNod 3 ((l'.length : Int) - 1) 0])) ∧ ACalls Tryz.prog 68 [i64 2, (Value.pointer (some ⟨rv, 0, some 1⟩)), (Value.pointer (some ⟨sb, 0, some 1⟩)), (Value.pointer (some ⟨lb, 0, some 1⟩))] K v K' := by
    refine acallsK_ex MixT Tryz.func68 (by decide) ?_
    rw [d68]
    have hcr : hcells K rv = some [(Value.pointer (some ⟨rb, 0, some 3⟩))] := by rw [hcells_eq, h.cr]; rfl
    simp [hcr]
    refine bndC_of (c_takes_y h.rd (k := 1) (s := notW) h1) ?_
    have hst := h.rds (a + 1) (by have := isT_lt h1; omega)
    generalize K.set rb (rdo lv (a + 1) true) = K1 at hst ⊢
    have hcs : hcells K1 sb = some [.func (.func 68) #[] #[(Value.pointer (some ⟨rv, 0, some 1⟩)), (Value.pointer (some ⟨sb, 0, some 1⟩)), (Value.pointer (some ⟨lb, 0, some 1⟩))]] := by rw [hcells_eq, hst.cs]; rfl
    simp [hcs]
    obtain ⟨K2, g1, g2⟩ := ih hst
    refine bndV_func (by simpa using g1) ?_
    obtain ⟨v, hv1, hv2⟩ := g2.cl
    have hcl : hcells K2 lb = some [v] := by rw [hcells_eq, hv1]; rfl
    have hlen := hv2.arr.len (P := Tryz.prog) (T := 31) (e := 75) (by simp)
    simp at hlen
    have hw : IntKind.i64.wrap ((l'.length : Int) - 1) = (l'.length : Int) - 1 := wrap_i64 (by omega) (by omega)
    simp [hcl, hlen, hw]
    obtain ⟨v', K3, q1, q2, q3⟩ := g2.push (opNod 3 ((l'.length : Int) - 1) 0) hl hv1
    refine bndL_lit (nod_lit (opNod 3 ((l'.length : Int) - 1) 0)) ?_
    dsimp only
    rw [q1]
    simp only [bndE_some, q2, bndS_some]
    exact ⟨by trivial, q3⟩
  obtain ⟨v, K', ⟨rfl, h⟩, hy⟩ := key
  exact ⟨K', hy, h⟩
theorem CndC.par {H K rb lv ts a b rv sb lb lo} {l l' : List Nod} (h0 : isT ts a 1 notW = false) (h1 : isT ts a 4 [40] = true) (ih : ∀ {K}, CndSt H K rb lv ts (a + 1) rv sb lb lo l → CndC H K rb lv ts b rv sb lb lo l' 0) (h2 : isT ts b 4 [41] = true)
    (h : CndSt H K rb lv ts a rv sb lb lo l) : CndC H K rb lv ts (b + 1) rv sb lb lo l' 2 := by
  have key : ∃ v K', (v = .tuple #[] ∧ CndSt H K' rb lv ts (b + 1) rv sb lb lo l') ∧ ACalls Tryz.prog 68 [i64 2, (Value.pointer (some ⟨rv, 0, some 1⟩)), (Value.pointer (some ⟨sb, 0, some 1⟩)), (Value.pointer (some ⟨lb, 0, some 1⟩))] K v K' := by
    refine acallsK_ex MixT Tryz.func68 (by decide) ?_
    rw [d68]
    have hcr : hcells K rv = some [(Value.pointer (some ⟨rb, 0, some 3⟩))] := by rw [hcells_eq, h.cr]; rfl
    simp [hcr]
    refine bndC_of (c_takes_n h.rd (k := 1) (s := notW) (by simp [h0])) ?_
    simp [hcr]
    refine bndC_of (c_takes_y h.rd (k := 4) (s := [40]) h1) ?_
    have hst := h.rds (a + 1) (by have := isT_lt h1; omega)
    generalize K.set rb (rdo lv (a + 1) true) = K1 at hst ⊢
    have hcs : hcells K1 sb = some [.func (.func 68) #[] #[(Value.pointer (some ⟨rv, 0, some 1⟩)), (Value.pointer (some ⟨sb, 0, some 1⟩)), (Value.pointer (some ⟨lb, 0, some 1⟩))]] := by rw [hcells_eq, hst.cs]; rfl
    simp [hcs]
    obtain ⟨K2, g1, g2⟩ := ih hst
    refine bndV_func (by simpa using g1) ?_
    have hcr2 : hcells K2 rv = some [(Value.pointer (some ⟨rb, 0, some 3⟩))] := by rw [hcells_eq, g2.cr]; rfl
    simp [hcr2]
    refine bndC_of (c_sign_y g2.rd h2) ?_
    exact ⟨by trivial, g2.rds (b + 1) (by have := isT_lt h2; omega)⟩
  obtain ⟨v, K', ⟨rfl, h⟩, hy⟩ := key
  exact ⟨K', hy, h⟩
theorem CndL.done {H K rb lv ts b rv sb lb lo} {l : List Nod} {k : Nat} (h1 : isT ts b 1 (wordOf k) = false) (h : CndSt H K rb lv ts b rv sb lb lo l) : CndL H K rb lv ts b rv sb lb lo l k := by
  refine ⟨K, h, fun kk hk => ⟨1, ?_⟩⟩
  intro s4 s7 s8 s9 s10 s11 s12 s13 s14 s15 s16 s17 s18 s19 s20 s21 s22 s23 s24 s25 s26 s27 s28 s29 s30 s31 s32 s33 s34 s35 s36 s37 s38 s39 s40 s41 s42 s43 s44 s45 s46 s47 s48 s49 s50 s51 s52 s53 s54 s55 s56 s57 s58
  rw [L68x0q]
  have hcr : hcells K rv = some [(Value.pointer (some ⟨rb, 0, some 3⟩))] := by rw [hcells_eq, h.cr]; rfl
  simp [hcr]
  refine bndC_of (c_takes_n h.rd (k := 1) (s := wordOf k) (by simp [h1])) ?_
  simp
  exact hk
theorem CndL.more {H K rb lv ts b c d rv sb lb lo} {l l' l'' : List Nod} {k : Nat} (hk2 : k < 2) (h1 : isT ts b 1 (wordOf k) = true)
    (ih1 : ∀ {K}, CndSt H K rb lv ts (b + 1) rv sb lb lo l → CndC H K rb lv ts c rv sb lb lo l' (k + 1)) (hl : l'.length + 1 ≤ 2 ^ 30) (hll : l.length ≤ l'.length)
    (ih2 : ∀ {K}, CndSt H K rb lv ts c rv sb lb lo (l' ++ [opNod (if k = 1 then 1 else 2) ((l.length : Int) - 1) ((l'.length : Int) - 1)]) → CndL H K rb lv ts d rv sb lb lo l'' k)
    (h : CndSt H K rb lv ts b rv sb lb lo l) : CndL H K rb lv ts d rv sb lb lo l'' k := by
  have hst := h.rds (b + 1) (by have := isT_lt h1; omega)
  generalize hK1 : K.set rb (rdo lv (b + 1) true) = K1 at hst
  obtain ⟨K2, g1, g2⟩ := ih1 hst
  obtain ⟨v, hv1, hv2⟩ := g2.cl
  obtain ⟨v', K3, q1, q2, q3⟩ := g2.push (opNod (if k = 1 then 1 else 2) ((l.length : Int) - 1) ((l'.length : Int) - 1)) hl hv1
  obtain ⟨K4, r1, r2⟩ := ih2 q3
  refine ⟨K4, r1, fun kk hk => ?_⟩
  obtain ⟨n, hn⟩ := r2 kk hk
  refine ⟨n + 1, ?_⟩
  intro s4 s7 s8 s9 s10 s11 s12 s13 s14 s15 s16 s17 s18 s19 s20 s21 s22 s23 s24 s25 s26 s27 s28 s29 s30 s31 s32 s33 s34 s35 s36 s37 s38 s39 s40 s41 s42 s43 s44 s45 s46 s47 s48 s49 s50 s51 s52 s53 s54 s55 s56 s57 s58
  rw [L68x0q]
  have hcr : hcells K rv = some [(Value.pointer (some ⟨rb, 0, some 3⟩))] := by rw [hcells_eq, h.cr]; rfl
  simp [hcr]
  refine bndC_of (c_takes_y h.rd h1) ?_
  rw [hK1]
  obtain ⟨v0, hu1, hu2⟩ := hst.cl
  have hcl0 : hcells K1 lb = some [v0] := by rw [hcells_eq, hu1]; rfl
  have hlen0 := hu2.arr.len (P := Tryz.prog) (T := 31) (e := 75) (by simp)
  have hcs : hcells K1 sb = some [.func (.func 68) #[] #[(Value.pointer (some ⟨rv, 0, some 1⟩)), (Value.pointer (some ⟨sb, 0, some 1⟩)), (Value.pointer (some ⟨lb, 0, some 1⟩))]] := by rw [hcells_eq, hst.cs]; rfl
  have hw0 : IntKind.i64.wrap ((l.length : Int) - 1) = (l.length : Int) - 1 := wrap_i64 (by omega) (by omega)
  have hwk : IntKind.i64.wrap ((k : Int) + 1) = (k : Int) + 1 := wrap_i64 (by omega) (by omega)
  simp at hlen0
  simp [hcl0, hlen0, hw0, hcs, hwk]
  refine bndV_func (by simpa using g1) ?_
  have hcl : hcells K2 lb = some [v] := by rw [hcells_eq, hv1]; rfl
  have hlen := hv2.arr.len (P := Tryz.prog) (T := 31) (e := 75) (by simp)
  simp at hlen
  have hw : IntKind.i64.wrap ((l'.length : Int) - 1) = (l'.length : Int) - 1 := wrap_i64 (by omega) (by omega)
  simp [hcl, hlen, hw]
  have hlit := nod_lit (K := K2) (opNod (if k = 1 then 1 else 2) ((l.length : Int) - 1) ((l'.length : Int) - 1))
  have hnod : cel8 (opNod (if k = 1 then 1 else 2) ((l.length : Int) - 1) ((l'.length : Int) - 1)) = [.int .u8 (kindOf k), .int .u8 0, .slice none 0 0, i64 0, .int .u8 0, i64 0, i64 ((l.length : Int) - 1), i64 ((l'.length : Int) - 1)] := by
    unfold kindOf
    split <;> rfl
  rw [hnod] at hlit q1
  refine bndL_lit hlit ?_
  dsimp only
  rw [q1]
  simp only [bndE_some, q2, bndS_some]
  exact hn _ _ _ _ _ _ _ _ _ _ _ _ _ _ _ _ _ _ _ _ _ _ _ _ _ _ _ _ _ _ _ _ _ _ _ _ _ _ _ _ _ _ _ _ _ _ _ _ _ _ _ _ _
theorem c_str {ts m a b l l'} (hs : Str ts m a b l l') (hl : l'.length ≤ 2 ^ 30) : ∀ {H K rb lv rv sb lb lo}, CndSt H K rb lv ts a rv sb lb lo l →
    (m ≤ 2 → CndC H K rb lv ts b rv sb lb lo l' m) ∧ (∀ k, m = k + 10 → CndL H K rb lv ts b rv sb lb lo l' k) := by
  induction hs with
  | cmp h1 h2 hc => intro H K rb lv rv sb lb lo h; exact ⟨fun _ => c_str2 h (by simpa using hl) h1 h2 hc, fun k hk => by omega⟩
  | @neg a b l l' h1 hs ih =>
    intro H K rb lv rv sb lb lo h
    have hl' : l'.length + 1 ≤ 2 ^ 30 := by simpa using hl
    exact ⟨fun _ => CndC.neg h1 (fun {K} h => (ih (by omega) h).1 (by omega)) h hl', fun k hk => by omega⟩
  | par h0 h1 hs h2 ih =>
    intro H K rb lv rv sb lb lo h
    exact ⟨fun _ => CndC.par h0 h1 (fun {K} h => (ih hl h).1 (by omega)) h2 h, fun k hk => by omega⟩
  | @done k b l hk h1 =>
    intro H K rb lv rv sb lb lo h
    refine ⟨fun q => by omega, fun k' hk' => ?_⟩
    obtain rfl : k' = k := by omega
    exact CndL.done h1 h
  | @more k b c d l l' l'' hk h1 hs1 hs2 ih1 ih2 =>
    intro H K rb lv rv sb lb lo h
    refine ⟨fun q => by omega, fun k' hk' => ?_⟩
    obtain rfl : k' = k := by omega
    have e2 := hs2.len
    simp only [List.length_append, List.length_cons, List.length_nil] at e2
    exact CndL.more hk h1 (fun {K} h => (ih1 (by omega) h).1 (by omega)) (by omega) hs1.len (fun {K} h => (ih2 hl h).2 _ rfl) h
  | @lvl k a b c l l' l'' hk hs1 hs2 ih1 ih2 =>
    intro H K rb lv rv sb lb lo h
    refine ⟨fun _ => ?_, fun k' hk' => by omega⟩
    have e2 := hs2.len
    have key : ∃ v K', (v = .tuple #[] ∧ CndSt H K' rb lv ts c rv sb lb lo l'') ∧ ACalls Tryz.prog 68 [i64 k, (Value.pointer (some ⟨rv, 0, some 1⟩)), (Value.pointer (some ⟨sb, 0, some 1⟩)), (Value.pointer (some ⟨lb, 0, some 1⟩))] K v K' := by
      refine acallsK_ex MixT Tryz.func68 (by decide) ?_
      rw [d68]
      have hcs : hcells K sb = some [.func (.func 68) #[] #[(Value.pointer (some ⟨rv, 0, some 1⟩)), (Value.pointer (some ⟨sb, 0, some 1⟩)), (Value.pointer (some ⟨lb, 0, some 1⟩))]] := by rw [hcells_eq, h.cs]; rfl
      have hwk : IntKind.i64.wrap ((k : Int) + 1) = (k : Int) + 1 := wrap_i64 (by omega) (by omega)
      obtain ⟨K1, g1, g2⟩ := (ih1 (by omega) h).1 (by omega)
      obtain ⟨K2, r1, r2⟩ := (ih2 hl g2).2 k rfl
      obtain ⟨n, hn⟩ := r2 (fun v K' => v = .tuple #[] ∧ CndSt H K' rb lv ts c rv sb lb lo l'') ⟨rfl, r1⟩
      have h2 : ((k : Int) == 2) = false := by simp; omega
      simp [h2]
      have fin : ∀ (s4 s7 s8 s9 s10 s11 s12 s13 s14 s15 s16 s17 s18 s19 s20 s21 s22 s23 s24 s25 s26 s27 s28 s29 s30 s31 s32 s33 s34 s35 s36 s37 s38 s39 s40 s41 s42 s43 s44 s45 s46 s47 s48 s49 s50 s51 s52 s53 s54 s55 s56 s57 s58 : Value), S68x0 (fun v K' => v = .tuple #[] ∧ CndSt H K' rb lv ts c rv sb lb lo l'') [i64 k, Value.pointer (some ⟨rv, 0, some 1⟩), Value.pointer (some ⟨sb, 0, some 1⟩), Value.pointer (some ⟨lb, 0, some 1⟩), s4, str (wordOf k), .int .u8 (kindOf k), s7, s8, s9, s10, s11, s12, s13, s14, s15, s16, s17, s18, s19, s20, s21, s22, s23, s24, s25, s26, s27, s28, s29, s30, s31, s32, s33, s34, s35, s36, s37, s38, s39, s40, s41, s42, s43, s44, s45, s46, s47, s48, s49, s50, s51, s52, s53, s54, s55, s56, s57, s58] K := by
        intro s4 s7 s8 s9 s10 s11 s12 s13 s14 s15 s16 s17 s18 s19 s20 s21 s22 s23 s24 s25 s26 s27 s28 s29 s30 s31 s32 s33 s34 s35 s36 s37 s38 s39 s40 s41 s42 s43 s44 s45 s46 s47 s48 s49 s50 s51 s52 s53 s54 s55 s56 s57 s58
        rw [S68x0q]
        simp [hcs, hwk]
        refine bndV_func (by simpa using g1) ?_
        exact ⟨n, hn _ _ _ _ _ _ _ _ _ _ _ _ _ _ _ _ _ _ _ _ _ _ _ _ _ _ _ _ _ _ _ _ _ _ _ _ _ _ _ _ _ _ _ _ _ _ _ _ _ _ _ _ _⟩
      refine kifB_bool (fun hq => ?_) (fun hq => ?_)
      · obtain rfl : k = 1 := by simp at hq; omega
        exact fin _ _ _ _ _ _ _ _ _ _ _ _ _ _ _ _ _ _ _ _ _ _ _ _ _ _ _ _ _ _ _ _ _ _ _ _ _ _ _ _ _ _ _ _ _ _ _ _ _ _ _ _ _
      · obtain rfl : k = 0 := by simp at hq; omega
        exact fin _ _ _ _ _ _ _ _ _ _ _ _ _ _ _ _ _ _ _ _ _ _ _ _ _ _ _ _ _ _ _ _ _ _ _ _ _ _ _ _ _ _ _ _ _ _ _ _ _ _ _ _ _
    obtain ⟨v, K', ⟨rfl, h⟩, hy⟩ := key
    exact ⟨K', hy, h⟩
theorem Str.sels {ts m a b l l'} (h : Str ts m a b l l') : (∀ n ∈ l, n.sel = []) → ∀ n ∈ l', n.sel = [] := by
  induction h with
  | cmp => intro h n hn; rcases List.mem_append.1 hn with hn | hn
           · exact h n hn
           · simp at hn; subst hn; rfl
  | neg h1 hs ih => intro h n hn; rcases List.mem_append.1 hn with hn | hn
                    · exact ih h n hn
                    · simp at hn; subst hn; rfl
  | par h0 h1 hs h2 ih => exact ih
  | lvl hk h1 h2 ih1 ih2 => exact fun h => ih2 (ih1 h)
  | done => exact id
  | more hk h1 hs1 hs2 ih1 ih2 =>
    intro h
    refine ih2 fun n hn => ?_
    rcases List.mem_append.1 hn with hn | hn
    · exact ih1 h n hn
    · simp at hn; subst hn; rfl
theorem c_condition {H K rb lv ts a b l'} (h : RdA H K rb lv ts a true) (hs : Str ts 0 a b [] l') (hl : l'.length ≤ 2 ^ 30) :
    ∃ v K', ACalls Tryz.prog 47 [(Value.pointer (some ⟨rb, 0, some 3⟩))] K v K' ∧ RdA H K' rb lv ts b true ∧ Gro K' (K.length + 3) 8 75 v (l'.map cel8) := by
  have key : ∃ v K', (RdA H K' rb lv ts b true ∧ Gro K' (K.length + 3) 8 75 v (l'.map cel8)) ∧ ACalls Tryz.prog 47 [(Value.pointer (some ⟨rb, 0, some 3⟩))] K v K' := by
    refine acalls_ex MixT Tryz.func47 (by decide) ?_
    rw [d47]
    have hrb := h.lt
    have st : CndSt H (K ++ [AObj.cells [(Value.pointer (some ⟨rb, 0, some 3⟩))] 87, AObj.cells [.slice none 0 0] 31, AObj.cells [.func (.func 68) #[] #[(Value.pointer (some ⟨K.length, 0, some 1⟩)), (Value.pointer (some ⟨(K.length + 2), 0, some 1⟩)), (Value.pointer (some ⟨(K.length + 1), 0, some 1⟩))]] 103]) rb lv ts a K.length (K.length + 2) (K.length + 1) (K.length + 3) [] :=
      ⟨h.app _, by simp, by simp, ⟨.slice none 0 0, by simp, .nil⟩, hrb, by omega, by omega, by omega, by simp⟩
    obtain ⟨K1, g1, g2⟩ := (c_str hs hl st).1 (by omega)
    simp [aNew]
    refine bndV_func (by simpa using g1) ?_
    obtain ⟨v, hv1, hv2⟩ := g2.cl
    have hcl : hcells K1 (K.length + 1) = some [v] := by rw [hcells_eq, hv1]; rfl
    simp [hcl]
    exact ⟨g2.rd, hv2⟩
  obtain ⟨v, K', h, hy⟩ := key
  exact ⟨v, K', hy, h⟩
theorem Arr.cell1 {H z v l} (h : Arr H z v l) : v.cells = #[v] := by cases h <;> rfl
theorem Arr.stor {H z v l} (h : Arr H z v l) : storable v = true := by cases h <;> rfl
theorem nodes_gro {K : AHeap} {lo : Nat} {v : Value} {l : List Nod} (h : Gro K lo 8 75 v (l.map cel8)) (hs : ∀ n ∈ l, n.sel = []) : NodesAt K v l := by
  refine ⟨_, h.arr, by simp, fun i n hi => ⟨.slice none 0 0, by simp [hi, cel8], ?_, ?_⟩⟩
  · rw [hs n (List.mem_of_getElem? hi)]; exact .nil
  · rw [hs n (List.mem_of_getElem? hi)]; simp
theorem c_read {H lv ts b l'} (hts : ToksAt H lv ts) (h0 : 0 < ts.length) (hlen : ts.length < 2 ^ 40) (hs : Str ts 0 0 b [] l') (hl : l'.length ≤ 31) :
    ∃ v K', ACalls Tryz.prog 46 [lv, i64 0] H (.tuple #[v, i64 b, i64 0]) K' ∧ Pre H K' ∧ NodesAt K' v l' := by
  have key : ∃ v K', (∃ u, v = .tuple #[u, i64 b, i64 0] ∧ Pre H K' ∧ NodesAt K' u l') ∧ ACalls Tryz.prog 46 [lv, i64 0] H v K' := by
    refine acalls_ex MixT Tryz.func46 (by decide) ?_
    rw [d46]
    have hl0 := hts.len (P := Tryz.prog) (T := 82) (e := 121) (by simp)
    simp at hl0
    have hne : ¬ (ts.length : Int) ≤ 0 := by omega
    have hne2 : ¬ ts = [] := by intro e; simp [e] at h0
    have hrd : RdA H (H ++ [rdo lv 0 true]) H.length lv ts 0 true := ⟨hts, .app _ _, Nat.le_refl _, by simp, hlen, by omega⟩
    obtain ⟨v, K1, g1, g2, g3⟩ := c_condition hrd hs (by omega)
    have hb1 := Arr.cell1 hts
    have hb2 := Arr.stor hts
    have hb3 := Arr.one hts
    simp [hl0, hne2, aNew, hb1, hb2, hb3]
    refine bndC_of g1 ?_
    have hc := g2.cell
    have hcc : hcells K1 H.length = some [lv, i64 b, .bool true] := by rw [hcells_eq, hc]; rfl
    have hll : Vi.hlen K1 H.length = some 3 := by unfold Vi.hlen; rw [hc]; rfl
    have hnl := g3.arr.len (P := Tryz.prog) (T := 31) (e := 75) (by simp)
    simp at hnl
    have h31 : ¬ (31 : Int) < l'.length := by omega
    have h31n : ¬ 31 < l'.length := by omega
    simp [hcc, hll, hnl, h31]
    exact ⟨g2.pre, nodes_gro g3 (hs.sels (by simp))⟩
  obtain ⟨v, K', ⟨u, rfl, h1, h2⟩, hy⟩ := key
  exact ⟨u, K', hy, h1, h2⟩
theorem c_parse {H : AHeap} {s : List UInt8} {ts : List Tok} {l' : List Nod} (hts : allTok s = (ts, 0, 0)) (h0 : 0 < ts.length) (hlen : ts.length < 2 ^ 40) (hs : Str ts 0 0 ts.length [] l') (hl : l'.length ≤ 31) :
    ∃ v K', ACalls Tryz.prog 22 [str s] H (.tuple #[v, i64 0]) K' ∧ Pre H K' ∧ NodesAt K' v l' := by
  have key : ∃ v K', (∃ u, v = .tuple #[u, i64 0] ∧ Pre H K' ∧ NodesAt K' u l') ∧ ACalls Tryz.prog 22 [str s] H v K' := by
    refine acalls_ex MixT Tryz.func22 (by decide) ?_
    rw [d22]
    obtain ⟨v, K1, ⟨lv, rfl, g1, g2⟩, g3⟩ := c_lexAll H s
    rw [hts] at g2 g3
    refine bndC_of g3 ?_
    simp
    obtain ⟨u, K2, q1, q2, q3⟩ := c_read g2 h0 hlen hs hl
    refine bndC_of q1 ?_
    simp
    rw [S22x0q]
    have hl0 := (g2.pre q2).len (P := Tryz.prog) (T := 82) (e := 121) (by simp)
    simp at hl0
    simp [hl0]
    exact ⟨g1.trans q2, q3⟩
  obtain ⟨v, K', ⟨u, rfl, h1, h2⟩, hy⟩ := key
  exact ⟨u, K', hy, h1, h2⟩
end Go.Vi
namespace Go.Vi
open Go Go.Proofs

def txt2 : List UInt8 := [99, 111, 117, 110, 116, 40, 123, 125, 91, 53, 93, 41, 32, 62, 32, 51, 32, 111, 114, 32, 115, 117, 109, 40, 123, 125, 91, 54, 48, 93, 41, 32, 60, 32, 49]
def tok2 : List Tok := (allTok txt2).1
def nod2 : List Nod := [cmpNod 0 5 2 3000, cmpNod 1 60 0 1000, opNod 2 0 1]
theorem allTok2 : allTok txt2 = (tok2, 0, 0) := by kernel_rfl
theorem tok2_len : tok2.length = 21 := by kernel_rfl
theorem isT2 : isT tok2 0 1 notW = false ∧ isT tok2 0 4 [40] = false ∧ isT tok2 11 1 notW = false ∧ isT tok2 11 4 [40] = false ∧ isT tok2 10 1 (wordOf 1) = false ∧ isT tok2 10 1 (wordOf 0) = true ∧ isT tok2 21 1 (wordOf 1) = false ∧ isT tok2 21 1 (wordOf 0) = false := by
  refine ⟨?_, ?_, ?_, ?_, ?_, ?_, ?_, ?_⟩ <;> kernel_rfl
theorem cmpAt_of {ts : List Tok} {a i : Nat} {w : Int} {j : Nat} {x : Int}
    (h : ((ts[a]?).any (fun t => t.kind == 1 && aggs[i]? == some t.text) && isT ts (a + 1) 4 [40] && isT ts (a + 2) 4 [123] && isT ts (a + 3) 4 [125] && isT ts (a + 4) 4 [91] &&
      (ts[a + 5]?).any (fun t => t.kind == 2 && decide (t.text.length ≤ 18) && decide (1 ≤ t.text.length) && t.text.all isDig && natF 0 t.text == w && decide (1 ≤ w) && decide (w ≤ 1000)) &&
      isT ts (a + 6) 4 [93] && isT ts (a + 7) 4 [41] && (ts[a + 8]?).any (fun t => t.kind == 4 && cmps[j]? == some t.text) && !isT ts (a + 9) 4 [45] &&
      (ts[a + 9]?).any (fun t => t.kind == 2 && decide (t.text.length < 100) && parF t.text == (x, 0))) = true) : CmpAt ts a i w j x := by
  simp only [Bool.and_eq_true, Option.any_eq_true, beq_iff_eq, decide_eq_true_eq, List.all_eq_true, Bool.not_eq_true'] at h
  obtain ⟨⟨⟨⟨⟨⟨⟨⟨⟨⟨⟨t0, a1, a2, a3⟩, s1⟩, s2⟩, s3⟩, s4⟩, t5, b1, ⟨⟨⟨⟨⟨⟨b2, b3⟩, b4⟩, b5⟩, b6⟩, b7⟩, b8⟩⟩, s6⟩, s7⟩, t8, c1, c2, c3⟩, n9⟩, t9, d1, ⟨d2, d3⟩, d4⟩ := h
  exact ⟨⟨t0, a1, a2, a3⟩, s1, s2, s3, s4, ⟨t5, b1, b2, b3, b4, b5, b6, b7, b8⟩, s6, s7, ⟨t8, c1, c2, c3⟩, n9, ⟨t9, d1, d2, by omega, d4⟩⟩
theorem str2 : Str tok2 0 0 tok2.length [] nod2 := by
  rw [tok2_len]
  obtain ⟨h1, h2, h3, h4, h5, h6, h7, h8⟩ := isT2
  have c1 : CmpAt tok2 0 0 5 2 3000 := cmpAt_of (by kernel_rfl)
  have c2 : CmpAt tok2 11 1 60 0 1000 := cmpAt_of (by kernel_rfl)
  have p1 : Str tok2 1 0 10 [] [cmpNod 0 5 2 3000] := .lvl (by decide) (.cmp h1 h2 c1) (.done (by decide) h5)
  have p2 : Str tok2 1 11 21 [cmpNod 0 5 2 3000] [cmpNod 0 5 2 3000, cmpNod 1 60 0 1000] := .lvl (by decide) (.cmp h3 h4 c2) (.done (by decide) h7)
  exact .lvl (by decide) p1 (.more (by decide) h6 p2 (.done (by decide) h8))
theorem c_parse2 (H : AHeap) : ∃ v K', ACalls Tryz.prog 22 [str txt2] H (.tuple #[v, i64 0]) K' ∧ Pre H K' ∧ NodesAt K' v nod2 :=
  c_parse allTok2 (by rw [tok2_len]; decide) (by rw [tok2_len]; decide) str2 (by decide)
def rulA : Rul := ⟨[97], [104, 111, 115, 116], nod2, 0, 1, 1, [], [111, 112, 115]⟩
def rulF : Rul := { rulA with forM := 1001 }
def rulM : Rul := { rulA with route := [109, 101, 116, 97] }
def rulN : Rul := { rulA with mutes := [[113]] }
def mutQ (b : Bool) : Mut := ⟨[113], [b, false, false, false, false, false, false], 540, 1020⟩
theorem append_nil1 {P : Program} {K : AHeap} {T e : TypeId} {z by_ b : Nat} {c : List Value} (hT : aElem P T = some (e, z, by_)) (hsq : isSeq P T = true) (hb : hcells K b = some c) (hz : c.length = z) (hby : by_ ≤ 140737488355328) :
    aBuiltin P K .append #[T, T] [.slice none 0 0, .slice (some ⟨b, 0, some z⟩) 1 1] = some (.slice (some ⟨K.length, 0, some z⟩) 1 1, K ++ [.cells c e]) := by
  simp [aBuiltin, aAppend, hT, hsq, aSrc, hb, hz, hby]
  rw [← hz]; simp
theorem mel1 : aElem Tryz.prog 23 = some (38, 10, 40) := by kernel_rfl
theorem mel2 : isSeq Tryz.prog 23 = true := by kernel_rfl
theorem cfg_mayB : Cfg.mayB ⟨[rulN], [], 0, 1⟩ = false ∧ Cfg.mayB ⟨[rulN], [mutQ true], 0, 1⟩ = true ∧ rulA.mayB = true ∧ rulF.mayB = false ∧ rulM.mayB = false ∧ (mutQ false).mayB = false ∧ (mutQ true).mayB = true ∧ widest 0 nod2 = 60 := by
  refine ⟨?_, ?_, ?_, ?_, ?_, ?_, ?_, ?_⟩ <;> kernel_rfl
theorem arr_single {M : AHeap} {b z : Nat} {c : List Value} (h : hcells M b = some c) (hz : c.length = z) : Arr M z (.slice (some ⟨b, 0, some z⟩) 1 1) [c] := by
  refine .mk b 0 _ _ _ c _ rfl h hz (by omega) fun i e hi => ?_
  match i, hi with
  | 0, hi => simp at hi; subst hi; simp [← hz]
  | i + 1, hi => simp at hi
theorem rulesN {M : AHeap} {nv : Value} {b5 b6 : Nat} (h5 : hcells M b5 = some [str [113]]) (h6 : hcells M b6 = some (rulN.cells nv (.slice (some ⟨b5, 0, some 1⟩) 1 1))) (hn : NodesAt M nv nod2) :
    RulesAt M (.slice (some ⟨b6, 0, some 8⟩) 1 1) [rulN] := by
  refine ⟨_, arr_single h6 rfl, rfl, fun i r hi => ?_⟩
  match i, hi with
  | 0, hi => simp at hi; subst hi; exact ⟨nv, _, rfl, hn, arr_single h5 rfl, by decide⟩
  | i + 1, hi => simp at hi
theorem c_awake (H : AHeap) : ACalls Tryz.prog 9 [] H (.bool true) H := by
  refine acalls_pure MixT Tryz.func9 (by decide) rfl ?_
  rw [d9]
  obtain ⟨nv, K, g1, g2, g3⟩ := c_parse2 H
  refine bndC_of g1 ?_
  have hn1 : nv.cells = #[nv] := by obtain ⟨cl, h, _⟩ := g3; exact h.cell1
  have hn2 : storable nv = true := by obtain ⟨cl, h, _⟩ := g3; exact h.stor
  have hn3 : nv.oneCell' = true := by obtain ⟨cl, h, _⟩ := g3; exact h.one
  simp [hn1, hn2, hn3]
  refine bndC_of (c_mute (m := mutQ false) rfl) ?_
  simp [hn3, aIndexAddr, aIndexAddr0, deG]
  refine bndL_lit (sliceLit1 (l := [str [113]]) (n := 1) (tbs32 _ _ _) (by simp) rfl (by simp)) ?_
  simp
  refine bndL_lit (sliceLitA (c := rulN.cells nv (.slice (some ⟨K.length + 5, 0, some 1⟩) 1 1)) (tbs22 _ 1 _) (by rfl) (by simp [Rul.cells, hn3]) (by simp)) ?_
  simp
  obtain ⟨e1, e2, e3, e4, e5, e6, e7, e8⟩ := cfg_mayB
  refine bndC_of (c_config (c := ⟨[rulN], [], 0, 1⟩) (by decide) (by decide) (rulesN (b5 := K.length + 5) (by simp) (by simp) (g3.pre (.app _ _))) ⟨.nil, by simp⟩) ?_
  rw [e1]
  simp
  refine bndL_lit (sliceLitA (c := (mutQ true).cells) (tbs23 _ 1 _) (by rfl) (by simp [Mut.cells, mutQ]) (by simp)) ?_
  simp [Mut.cells, mutQ]
  rw [append_nil1 (c := (mutQ true).cells) mel1 mel2 (by simp [Mut.cells, mutQ]) rfl (by decide)]
  simp [Mut.cells, mutQ]
  have cR : ∀ (r : Rul) (b : Bool) X, r.nodes = nod2 → r.mutes = [] → r.mayB = b → ACalls Tryz.prog 12 [.agg (r.cells nv (.slice none 0 0)).toArray] (K ++ X) (i64 (errno b)) (K ++ X) := fun r b X h1 h2 h3 => by
    subst h3; exact c_rule (by rw [h1]; exact g3.pre (.app K X)) (by rw [h2]; exact .nil) (by rw [h2]; decide)
  refine bndG_t (i64 0) _ (cR rulA true _ rfl rfl e3) ?_
  simp
  refine bndG_t (i64 110) _ (cR rulF false _ rfl rfl e4) ?_
  simp
  refine bndG_t (i64 110) _ (cR rulM false _ rfl rfl e5) ?_
  simp
  have cM : ∀ (m : Mut) (b : Bool) (X : AHeap), m.days.length = 7 → m.mayB = b → ACalls Tryz.prog 13 [.agg m.cells.toArray] (K ++ X) (i64 (errno b)) (K ++ X) := fun m b X h1 h2 => by
    subst h2; exact c_mute h1
  have hq : (errno (mutQ false).mayB == 110) = true := by rw [e6]; rfl
  rw [hq]
  refine bndG_t (i64 0) _ (cM (mutQ true) true _ rfl e7) ?_
  simp [errno]
  have cC : ∀ (X : AHeap), hcells (K ++ X) (K.length + 5) = some [str [113]] → hcells (K ++ X) (K.length + 6) = some (rulN.cells nv (.slice (some ⟨K.length + 5, 0, some 1⟩) 1 1)) → hcells (K ++ X) (K.length + 9) = some (mutQ true).cells →
      ACalls Tryz.prog 11 [.agg #[.slice (some ⟨K.length + 6, 0, some 8⟩) 1 1, .slice (some ⟨K.length + 9, 0, some 10⟩) 1 1, i64 0, i64 1]] (K ++ X) (i64 0) (K ++ X) := fun X h5 h6 h9 => by
    have := c_config (c := ⟨[rulN], [mutQ true], 0, 1⟩) (by decide) (by decide) (rulesN h5 h6 (g3.pre (.app _ _))) ⟨arr_single h9 rfl, by simp [mutQ]⟩
    rw [e2] at this
    exact this
  refine bndG_t (i64 0) _ (cC _ (by simp) (by simp) (by simp [Mut.cells, mutQ])) ?_
  simp
  have cW : ∀ X : AHeap, ACalls Tryz.prog 15 [nv] (K ++ X) (i64 60) (K ++ X) := fun X => by
    have := c_window (g3.pre (.app K X)) (by decide)
    rwa [e8] at this
  refine bndG_t (i64 60) _ (cW _) ?_
  simp
  obtain ⟨Y, rfl⟩ := g2
  exact ⟨_, List.append_assoc _ _ _⟩
end Go.Vi
namespace Go.Vi
open Go Go.Proofs

theorem errno_zero (b : Bool) : (errno b == 0) = b := by cases b <;> rfl
theorem src_flat {z : Nat} {cs : List Value} : ∀ (l : List (List Value)) (o : Nat), (∀ (i : Nat) e, l[i]? = some e → (cs.drop (o + i * z)).take z = e) → (cs.drop o).take (l.length * z) = l.flatten := by
  intro l
  induction l with
  | nil => intro o _; simp
  | cons c r ih =>
    intro o h
    have h0 := h 0 c rfl
    have hr := ih (o + z) fun i e hi => by
      have := h (i + 1) e (by simpa using hi)
      rw [← this, Nat.add_mul, Nat.one_mul]; congr 2; omega
    rw [List.length_cons, Nat.add_mul, Nat.one_mul, Nat.add_comm, List.take_add, List.drop_drop, hr, List.flatten_cons]
    simpa using congrArg (· ++ r.flatten) h0
theorem Arr.src {H z v l} (h : Arr H z v l) : aSrc H z v = some (l.length, l.flatten) := by
  cases h with
  | nil => rfl
  | mk b o m n c cs l hn hcs hm hle hel =>
    subst hn
    simp only [aSrc, hcs]
    rw [if_pos ⟨hm.symm, by omega⟩, src_flat l o hel]
theorem Arr.all_len {H z v l} (h : Arr H z v l) : ∀ c ∈ l, c.length = z := by
  intro c hc
  obtain ⟨i, hi⟩ := List.getElem?_of_mem hc
  exact h.elen hi
theorem Gro.pushN {P : Program} {K : AHeap} {lo z by_ : Nat} {T Ts : TypeId} {v x : Value} {cl ds : List (List Value)} (h : Gro K lo z T v cl) (hT : aElem P Ts = some (T, z, by_)) (hsq : isSeq P Ts = true) (hc : ∀ c ∈ ds, c.length = z) (hlo : lo ≤ K.length)
    (hx : aSrc K z x = some (ds.length, ds.flatten)) (hb : (cl.length + ds.length) * by_ ≤ 140737488355328) (hn : cl.length + ds.length ≤ 9223372036854775807) :
    ∃ v' K', aBuiltin P K .append #[Ts, Ts] [v, x] = some (v', K') ∧ Gro K' lo z T v' (cl ++ ds) ∧ (∀ b o, b < lo → K[b]? = some o → K'[b]? = some o) ∧ K.length ≤ K'.length ∧ (∀ H, Pre H K → H.length ≤ lo → Pre H K') := by
  by_cases hd : ds = []
  · subst hd
    refine ⟨v, K, ?_, by simpa using h, fun b o _ h => h, Nat.le_refl _, fun H p _ => p⟩
    cases h with
    | nil => simp at hx; simp [aBuiltin, aAppend, hT, hx, hsq]
    | mk bb cl h1 h2 h3 h4 =>
      have hfl := flat_len h4
      simp at hx
      simp [aBuiltin, aAppend, hT, hx, hsq, h2, hfl]
      rw [putCells_eq _ _ _ (by rw [hfl]; simp)]
      simp
      exact set_same h2
  have hdl : 0 < ds.length := List.length_pos_iff.2 hd
  have hfd := flat_len hc
  cases h with
  | nil =>
    refine ⟨.slice (some ⟨K.length, 0, some (ds.length * z)⟩) ds.length ds.length, K ++ [.cells ds.flatten T], ?_, ?_, fun b o hb ho => get_more ho, by simp, fun H p _ => p.more _⟩
    · have hb' : ds.length * by_ ≤ 140737488355328 := by simpa using hb
      have hn' : ds.length ≤ 9223372036854775807 := by simpa using hn
      have hne : ¬ ds.length = 0 := by omega
      simp only [aBuiltin, aAppend, hT, hx, hsq, if_true, hne, if_false, hb', hn', and_self, hfd]
    · have := Gro.mk (K := K ++ [.cells ds.flatten T]) (lo := lo) (z := z) (T := T) K.length ds hlo (by simp) hd hc
      simpa using this
  | mk bb cl h1 h2 h3 h4 =>
    have hfl := flat_len h4
    have hlt := (List.getElem?_eq_some_iff.1 h2).1
    refine ⟨.slice (some ⟨bb, 0, some ((cl.length + ds.length) * z)⟩) (cl.length + ds.length) (cl.length + ds.length), K.set bb (.cells (cl ++ ds).flatten T), ?_, ?_, fun b o hb ho => by rw [List.getElem?_set_ne (by omega)]; exact ho, by simp, fun H p hH => p.set (by omega)⟩
    · have e1 : cl.length * z = cl.flatten.length := hfl.symm
      have e2 : ¬ cl.length + ds.length ≤ cl.length := by omega
      simp only [aBuiltin, aAppend, hT, hx, hsq, if_true, h2, hfl, Nat.zero_add, Nat.le_refl, and_self, e2, if_false, hb, hn]
      have e3 : (cl.flatten.take (cl.length * z)) = cl.flatten := List.take_of_length_le (by omega)
      rw [e3]
      simp
    · have := Gro.mk (K := K.set bb (.cells (cl ++ ds).flatten T)) (lo := lo) (z := z) (T := T) bb (cl ++ ds) h1 (List.getElem?_set_self hlt) (by simp [h3]) (by
        intro x hx
        rw [List.mem_append] at hx
        rcases hx with hx | hx
        · exact h4 x hx
        · exact hc x hx)
      simpa using this
theorem widest_ge : ∀ (l : List Nod) (m : Int), m ≤ widest m l := by
  intro l
  induction l with
  | nil => intro m; simp [widest]
  | cons n r ih =>
    intro m
    rw [widest]
    refine Int.le_trans ?_ (ih _)
    split
    · split <;> omega
    · omega
theorem widest_max : ∀ (l : List Nod) (m k : Int), widest (max m k) l = max m (widest k l) := by
  intro l
  induction l with
  | nil => intro m k; simp [widest]
  | cons n r ih =>
    intro m k
    rw [widest, widest, ← ih]
    congr 1
    split
    · split <;> split <;> omega
    · rfl
theorem widest_app : ∀ (a b : List Nod) (m : Int), widest m (a ++ b) = widest (widest m a) b := by
  intro a
  induction a with
  | nil => intro b m; rfl
  | cons n r ih => intro b m; rw [List.cons_append, widest, widest, ih]
theorem widest_two (a b : List Nod) : widest 0 (a ++ b) = max (widest 0 a) (widest 0 b) := by
  rw [widest_app, ← widest_max]
  congr 1
  have := widest_ge a 0
  omega
theorem NodesAt.app {K : AHeap} {lo : Nat} {v : Value} {a b : List Nod} {ca cb : List (List Value)} {T : TypeId} (h : Gro K lo 8 T v (ca ++ cb)) (la : ca.length = a.length) (lb : cb.length = b.length)
    (ha : ∀ (i : Nat) n, a[i]? = some n → ∃ sv, ca[i]? = some (n.cells sv) ∧ MatsAt K sv n.sel ∧ n.sel.length < 2 ^ 63) (hb : ∀ (i : Nat) n, b[i]? = some n → ∃ sv, cb[i]? = some (n.cells sv) ∧ MatsAt K sv n.sel ∧ n.sel.length < 2 ^ 63) : NodesAt K v (a ++ b) := by
  refine ⟨_, h.arr, by simp [la, lb], fun i n hi => ?_⟩
  by_cases hia : i < a.length
  · rw [List.getElem?_append_left hia] at hi
    obtain ⟨sv, q1, q2⟩ := ha i n hi
    exact ⟨sv, by rw [List.getElem?_append_left (by omega)]; exact q1, q2⟩
  · rw [List.getElem?_append_right (by omega)] at hi
    obtain ⟨sv, q1, q2⟩ := hb _ n hi
    exact ⟨sv, by rw [List.getElem?_append_right (by omega), la]; exact q1, q2⟩

theorem acalls_bool {P : Program} (hm : P.follows .mixedOrders = true) {f fn args H} {Q : Prop} (hf : P.funcs[f]? = some fn) (hn : notNG fn = true)
    (hr : ∀ k : Value → AHeap → Prop, (∀ K, Pre H K → k (.bool true) K) → (Q → ∀ K, Pre H K → k (.bool false) K) → kbody P fn args H k) : ∃ b, (b = false → Q) ∧ ACalls P f args H (.bool b) H := by
  obtain ⟨v, H', ⟨b, rfl, hq, X, rfl⟩, h⟩ := acalls_ex hm hf hn (hr (fun u H2 => ∃ b, u = .bool b ∧ (b = false → Q) ∧ Pre H H2) (fun K p => ⟨true, rfl, by simp, p⟩) fun q K p => ⟨false, rfl, fun _ => q, p⟩)
  exact ⟨b, hq, h.trim rfl⟩
/-- What is left of a rule that is not too big. -/
def Rul.small (r : Rul) : Prop := r.mutes.length ≤ 100 ∧ r.nodes.length ≤ 100 ∧ ∀ n ∈ r.nodes, n.sel.length ≤ 50
section
variable {r : Rul} {H : AHeap} {nv mv : Value} {b : Nat} {k : Value → AHeap → Prop}
theorem big_x2 {n1 : Nat} (hn0 : NodesAt H nv r.nodes) {i : Nat} {nd : Nod} (hi : r.nodes[i]? = some nd) (hsel : nd.sel.length ≤ 50) (hi2 : i + 1 < 2 ^ 63) (hT : ∀ K, Pre H K → k (.bool true) K)
    (hk : ∀ (K : AHeap) (left : Int) (s0 s2 s4 s6 s7 s8 s9 s10 s11 s12 s13 s14 s15 s16 s17 s18 s19 s20 s21 s22 s23 s24 s25 s26 s27 s28 s29 s30 s31 s32 s33 s34 s35 s36 s37 s38 s39 s40 s41 s42 s43 s44 s45 s46 s47 s48 s49 s50 s51 s52 s53 s54 s55 s56 s57 s58 s59 s60 s61 s62 s63 s64 s65 s66 s67 s68 s69 s70 s71 s72 s73 s74 s75 s76 s77 s78 s79 s80 s81 s82 s83 s84 s85 s86 s87 s88 s89 s90 s91 s92 s93 s94 s95 s96 s97 s98 s99 s100 s101 s102 s103 s104 s105 s106 s107 s108 s109 s110 s111 s112 s113 s114 s115 s116 s117 s118 s119 s120 s121 s122 s123 s124 s125 s126 s127 s128 s129 s130 : Value), Pre H K → hcells K b = some (r.cells nv mv) → L23x1 n1 k [s0, .pointer (some ⟨b, 0, some 8⟩), s2, i64 left, s4, i64 ((i + 1 : Nat) : Int), s6, s7, s8, s9, s10, s11, s12, s13, s14, s15, s16, s17, s18, s19, s20, s21, s22, s23, s24, s25, s26, s27, s28, s29, s30, s31, s32, s33, s34, s35, s36, s37, s38, s39, s40, s41, s42, s43, s44, s45, s46, s47, s48, s49, s50, s51, s52, s53, s54, s55, s56, s57, s58, s59, s60, s61, s62, s63, s64, s65, s66, s67, s68, s69, s70, s71, s72, s73, s74, s75, s76, s77, s78, s79, s80, s81, s82, s83, s84, s85, s86, s87, s88, s89, s90, s91, s92, s93, s94, s95, s96, s97, s98, s99, s100, s101, s102, s103, s104, s105, s106, s107, s108, s109, s110, s111, s112, s113, s114, s115, s116, s117, s118, s119, s120, s121, s122, s123, s124, s125, s126, s127, s128, s129, s130] K) :
    ∀ (m : List Mat) (j : Nat) (left : Int) (K : AHeap) (s0 s2 s4 s7 s8 s9 s10 s11 s12 s13 s14 s15 s16 s17 s18 s19 s20 s21 s22 s23 s24 s25 s26 s27 s28 s29 s30 s31 s32 s33 s34 s35 s36 s37 s38 s39 s40 s41 s42 s43 s44 s45 s46 s47 s48 s49 s50 s51 s52 s53 s54 s55 s56 s57 s58 s59 s60 s61 s62 s63 s64 s65 s66 s67 s68 s69 s70 s71 s72 s73 s74 s75 s76 s77 s78 s79 s80 s81 s82 s83 s84 s85 s86 s87 s88 s89 s90 s91 s92 s93 s94 s95 s96 s97 s98 s99 s100 s101 s102 s103 s104 s105 s106 s107 s108 s109 s110 s111 s112 s113 s114 s115 s116 s117 s118 s119 s120 s121 s122 s123 s124 s125 s126 s127 s128 s129 s130 : Value), nd.sel.drop j = m → j ≤ nd.sel.length → Pre H K → hcells K b = some (r.cells nv mv) →
      L23x2 (m.length + 1) n1 k [s0, .pointer (some ⟨b, 0, some 8⟩), s2, i64 left, s4, i64 i, i64 j, s7, s8, s9, s10, s11, s12, s13, s14, s15, s16, s17, s18, s19, s20, s21, s22, s23, s24, s25, s26, s27, s28, s29, s30, s31, s32, s33, s34, s35, s36, s37, s38, s39, s40, s41, s42, s43, s44, s45, s46, s47, s48, s49, s50, s51, s52, s53, s54, s55, s56, s57, s58, s59, s60, s61, s62, s63, s64, s65, s66, s67, s68, s69, s70, s71, s72, s73, s74, s75, s76, s77, s78, s79, s80, s81, s82, s83, s84, s85, s86, s87, s88, s89, s90, s91, s92, s93, s94, s95, s96, s97, s98, s99, s100, s101, s102, s103, s104, s105, s106, s107, s108, s109, s110, s111, s112, s113, s114, s115, s116, s117, s118, s119, s120, s121, s122, s123, s124, s125, s126, s127, s128, s129, s130] K := by
  intro m
  induction m with
  | nil =>
    intro j left K s0 s2 s4 s7 s8 s9 s10 s11 s12 s13 s14 s15 s16 s17 s18 s19 s20 s21 s22 s23 s24 s25 s26 s27 s28 s29 s30 s31 s32 s33 s34 s35 s36 s37 s38 s39 s40 s41 s42 s43 s44 s45 s46 s47 s48 s49 s50 s51 s52 s53 s54 s55 s56 s57 s58 s59 s60 s61 s62 s63 s64 s65 s66 s67 s68 s69 s70 s71 s72 s73 s74 s75 s76 s77 s78 s79 s80 s81 s82 s83 s84 s85 s86 s87 s88 s89 s90 s91 s92 s93 s94 s95 s96 s97 s98 s99 s100 s101 s102 s103 s104 s105 s106 s107 s108 s109 s110 s111 s112 s113 s114 s115 s116 s117 s118 s119 s120 s121 s122 s123 s124 s125 s126 s127 s128 s129 s130 hd hj hp hc
    have hle : nd.sel.length ≤ j := by simpa using hd
    obtain ⟨cl, ha, hcl, hcc⟩ := hn0.pre hp
    obtain ⟨sv, h1, h2, h3⟩ := hcc _ _ hi
    obtain ⟨p, q, f1, f2, f3⟩ := ha.field (P := Tryz.prog) (T := 31) (te := 75) (ft := 73) (f := 2) (d := 2) (x := sv) (by simp) (by simp) (by simp) (by simp) (by simp) h1 rfl
    have hl := h2.len (P := Tryz.prog) (T := 73) (e := 92) (by simp)
    simp only [List.length_map] at hl
    have hl8 : hlen K b = some 8 := by rw [hcells_len hc]; rfl
    rw [List.length_nil, L23x2q]
    have : ¬ j < nd.sel.length := by omega
    simp [hc, hl8, Rul.cells, f1, f2, f3, hl, this, hi2]
    exact hk K left _ _ _ _ _ _ _ _ _ _ _ _ _ _ _ _ _ _ _ _ _ _ _ _ _ _ _ _ _ _ _ _ _ _ _ _ _ _ _ _ _ _ _ _ _ _ _ _ _ _ _ _ _ _ _ _ _ _ _ _ _ _ _ _ _ _ _ _ _ _ _ _ _ _ _ _ _ _ _ _ _ _ _ _ _ _ _ _ _ _ _ _ _ _ _ _ _ _ _ _ _ _ _ _ _ _ _ _ _ _ _ _ _ _ _ _ _ _ _ _ _ _ _ _ _ _ _ _ hp hc
  | cons x m ih =>
    intro j left K s0 s2 s4 s7 s8 s9 s10 s11 s12 s13 s14 s15 s16 s17 s18 s19 s20 s21 s22 s23 s24 s25 s26 s27 s28 s29 s30 s31 s32 s33 s34 s35 s36 s37 s38 s39 s40 s41 s42 s43 s44 s45 s46 s47 s48 s49 s50 s51 s52 s53 s54 s55 s56 s57 s58 s59 s60 s61 s62 s63 s64 s65 s66 s67 s68 s69 s70 s71 s72 s73 s74 s75 s76 s77 s78 s79 s80 s81 s82 s83 s84 s85 s86 s87 s88 s89 s90 s91 s92 s93 s94 s95 s96 s97 s98 s99 s100 s101 s102 s103 s104 s105 s106 s107 s108 s109 s110 s111 s112 s113 s114 s115 s116 s117 s118 s119 s120 s121 s122 s123 s124 s125 s126 s127 s128 s129 s130 hd hj hp hc
    have hb : nd.sel[j]? = some x := by rw [← List.head?_drop, hd]; rfl
    have hlt : j < nd.sel.length := (List.getElem?_eq_some_iff.1 hb).1
    obtain ⟨cl, ha, hcl, hcc⟩ := hn0.pre hp
    obtain ⟨sv, h1, h2, h3⟩ := hcc _ _ hi
    obtain ⟨p, q, f1, f2, f3⟩ := ha.field (P := Tryz.prog) (T := 31) (te := 75) (ft := 73) (f := 2) (d := 2) (x := sv) (by simp) (by simp) (by simp) (by simp) (by simp) h1 rfl
    have hl := h2.len (P := Tryz.prog) (T := 73) (e := 92) (by simp)
    simp only [List.length_map] at hl
    obtain ⟨p2, g1, g2⟩ := h2.load (P := Tryz.prog) (T := 73) (te := 92) (i := j) (e := x.cells) (by simp) (by simp) (by simp) (by simp [hb])
    have hl8 : hlen K b = some 8 := by rw [hcells_len hc]; rfl
    have hX := fun X : AHeap => hcells_more (X := X) hc
    rw [List.length_cons, L23x2q]
    simp +contextual [hc, hl8, Rul.cells, f1, f2, f3, hl, hlt, g1, g2, Mat.cells]
    refine kifB_bool (fun h => ?_) (fun h => ?_)
    · exact hT _ (hp.more _)
    · simp [show j + 1 < 2 ^ 63 by omega]
      exact ih (j + 1) _ _ _ _ _ _ _ _ _ _ _ _ _ _ _ _ _ _ _ _ _ _ _ _ _ _ _ _ _ _ _ _ _ _ _ _ _ _ _ _ _ _ _ _ _ _ _ _ _ _ _ _ _ _ _ _ _ _ _ _ _ _ _ _ _ _ _ _ _ _ _ _ _ _ _ _ _ _ _ _ _ _ _ _ _ _ _ _ _ _ _ _ _ _ _ _ _ _ _ _ _ _ _ _ _ _ _ _ _ _ _ _ _ _ _ _ _ _ _ _ _ _ _ _ _ _ _ _ _ (by rw [← List.drop_drop, hd]; rfl) hlt (hp.more _) (hX _)
theorem big_x1 (hn0 : NodesAt H nv r.nodes) (hnl : r.nodes.length ≤ 100) (hT : ∀ K, Pre H K → k (.bool true) K) (hk : (∀ n ∈ r.nodes, n.sel.length ≤ 50) → ∀ K, Pre H K → k (.bool false) K) :
    ∀ (ns : List Nod) (i : Nat) (left : Int) (K : AHeap) (s0 s2 s4 s6 s7 s8 s9 s10 s11 s12 s13 s14 s15 s16 s17 s18 s19 s20 s21 s22 s23 s24 s25 s26 s27 s28 s29 s30 s31 s32 s33 s34 s35 s36 s37 s38 s39 s40 s41 s42 s43 s44 s45 s46 s47 s48 s49 s50 s51 s52 s53 s54 s55 s56 s57 s58 s59 s60 s61 s62 s63 s64 s65 s66 s67 s68 s69 s70 s71 s72 s73 s74 s75 s76 s77 s78 s79 s80 s81 s82 s83 s84 s85 s86 s87 s88 s89 s90 s91 s92 s93 s94 s95 s96 s97 s98 s99 s100 s101 s102 s103 s104 s105 s106 s107 s108 s109 s110 s111 s112 s113 s114 s115 s116 s117 s118 s119 s120 s121 s122 s123 s124 s125 s126 s127 s128 s129 s130 : Value), r.nodes.drop i = ns → i ≤ r.nodes.length → (∀ n ∈ r.nodes.take i, n.sel.length ≤ 50) → Pre H K → hcells K b = some (r.cells nv mv) →
      L23x1 (ns.length + 1) k [s0, .pointer (some ⟨b, 0, some 8⟩), s2, i64 left, s4, i64 i, s6, s7, s8, s9, s10, s11, s12, s13, s14, s15, s16, s17, s18, s19, s20, s21, s22, s23, s24, s25, s26, s27, s28, s29, s30, s31, s32, s33, s34, s35, s36, s37, s38, s39, s40, s41, s42, s43, s44, s45, s46, s47, s48, s49, s50, s51, s52, s53, s54, s55, s56, s57, s58, s59, s60, s61, s62, s63, s64, s65, s66, s67, s68, s69, s70, s71, s72, s73, s74, s75, s76, s77, s78, s79, s80, s81, s82, s83, s84, s85, s86, s87, s88, s89, s90, s91, s92, s93, s94, s95, s96, s97, s98, s99, s100, s101, s102, s103, s104, s105, s106, s107, s108, s109, s110, s111, s112, s113, s114, s115, s116, s117, s118, s119, s120, s121, s122, s123, s124, s125, s126, s127, s128, s129, s130] K := by
  intro ns
  induction ns with
  | nil =>
    intro i left K s0 s2 s4 s6 s7 s8 s9 s10 s11 s12 s13 s14 s15 s16 s17 s18 s19 s20 s21 s22 s23 s24 s25 s26 s27 s28 s29 s30 s31 s32 s33 s34 s35 s36 s37 s38 s39 s40 s41 s42 s43 s44 s45 s46 s47 s48 s49 s50 s51 s52 s53 s54 s55 s56 s57 s58 s59 s60 s61 s62 s63 s64 s65 s66 s67 s68 s69 s70 s71 s72 s73 s74 s75 s76 s77 s78 s79 s80 s81 s82 s83 s84 s85 s86 s87 s88 s89 s90 s91 s92 s93 s94 s95 s96 s97 s98 s99 s100 s101 s102 s103 s104 s105 s106 s107 s108 s109 s110 s111 s112 s113 s114 s115 s116 s117 s118 s119 s120 s121 s122 s123 s124 s125 s126 s127 s128 s129 s130 hd hi hs hp hc
    have hle : r.nodes.length ≤ i := by simpa using hd
    have hl := (hn0.pre hp).len K
    have hl8 : hlen K b = some 8 := by rw [hcells_len hc]; rfl
    rw [List.length_nil, L23x1q]
    have : ¬ i < r.nodes.length := by omega
    simp [hc, hl8, Rul.cells, hl, this]
    exact hk (by rw [List.take_of_length_le hle] at hs; exact hs) K hp
  | cons x ns ih =>
    intro i left K s0 s2 s4 s6 s7 s8 s9 s10 s11 s12 s13 s14 s15 s16 s17 s18 s19 s20 s21 s22 s23 s24 s25 s26 s27 s28 s29 s30 s31 s32 s33 s34 s35 s36 s37 s38 s39 s40 s41 s42 s43 s44 s45 s46 s47 s48 s49 s50 s51 s52 s53 s54 s55 s56 s57 s58 s59 s60 s61 s62 s63 s64 s65 s66 s67 s68 s69 s70 s71 s72 s73 s74 s75 s76 s77 s78 s79 s80 s81 s82 s83 s84 s85 s86 s87 s88 s89 s90 s91 s92 s93 s94 s95 s96 s97 s98 s99 s100 s101 s102 s103 s104 s105 s106 s107 s108 s109 s110 s111 s112 s113 s114 s115 s116 s117 s118 s119 s120 s121 s122 s123 s124 s125 s126 s127 s128 s129 s130 hd hi hs hp hc
    have hb : r.nodes[i]? = some x := by rw [← List.head?_drop, hd]; rfl
    have hlt : i < r.nodes.length := (List.getElem?_eq_some_iff.1 hb).1
    obtain ⟨cl, ha, hcl, hcc⟩ := hn0.pre hp
    obtain ⟨sv, h1, h2, h3⟩ := hcc _ _ hb
    obtain ⟨p, q, f1, f2, f3⟩ := ha.field (P := Tryz.prog) (T := 31) (te := 75) (ft := 73) (f := 2) (d := 2) (x := sv) (by simp) (by simp) (by simp) (by simp) (by simp) h1 rfl
    have hl := h2.len (P := Tryz.prog) (T := 73) (e := 92) (by simp)
    simp only [List.length_map] at hl
    have hln := (hn0.pre hp).len K
    have hl8 : hlen K b = some 8 := by rw [hcells_len hc]; rfl
    rw [List.length_cons, L23x1q]
    simp [hc, hl8, Rul.cells, hln, hlt, f1, f2, f3, hl]
    by_cases h50 : 50 < x.sel.length
    · have h50I : (50 : Int) < x.sel.length := by omega
      simp [h50I]
      exact hT K hp
    · have h50I : ¬ (50 : Int) < x.sel.length := by omega
      simp [h50I]
      refine ⟨x.sel.length + 1, big_x2 (H := H) (r := r) (nv := nv) (mv := mv) (b := b) hn0 hb (by omega) (by omega) hT ?_ x.sel 0 left K _ _ _ _ _ _ _ _ _ _ _ _ _ _ _ _ _ _ _ _ _ _ _ _ _ _ _ _ _ _ _ _ _ _ _ _ _ _ _ _ _ _ _ _ _ _ _ _ _ _ _ _ _ _ _ _ _ _ _ _ _ _ _ _ _ _ _ _ _ _ _ _ _ _ _ _ _ _ _ _ _ _ _ _ _ _ _ _ _ _ _ _ _ _ _ _ _ _ _ _ _ _ _ _ _ _ _ _ _ _ _ _ _ _ _ _ _ _ _ _ _ _ _ _ _ _ _ rfl (by omega) hp hc⟩
      intro K2 left2 s0 s2 s4 s6 s7 s8 s9 s10 s11 s12 s13 s14 s15 s16 s17 s18 s19 s20 s21 s22 s23 s24 s25 s26 s27 s28 s29 s30 s31 s32 s33 s34 s35 s36 s37 s38 s39 s40 s41 s42 s43 s44 s45 s46 s47 s48 s49 s50 s51 s52 s53 s54 s55 s56 s57 s58 s59 s60 s61 s62 s63 s64 s65 s66 s67 s68 s69 s70 s71 s72 s73 s74 s75 s76 s77 s78 s79 s80 s81 s82 s83 s84 s85 s86 s87 s88 s89 s90 s91 s92 s93 s94 s95 s96 s97 s98 s99 s100 s101 s102 s103 s104 s105 s106 s107 s108 s109 s110 s111 s112 s113 s114 s115 s116 s117 s118 s119 s120 s121 s122 s123 s124 s125 s126 s127 s128 s129 s130 hp2 hc2
      refine ih (i + 1) left2 K2 _ _ _ _ _ _ _ _ _ _ _ _ _ _ _ _ _ _ _ _ _ _ _ _ _ _ _ _ _ _ _ _ _ _ _ _ _ _ _ _ _ _ _ _ _ _ _ _ _ _ _ _ _ _ _ _ _ _ _ _ _ _ _ _ _ _ _ _ _ _ _ _ _ _ _ _ _ _ _ _ _ _ _ _ _ _ _ _ _ _ _ _ _ _ _ _ _ _ _ _ _ _ _ _ _ _ _ _ _ _ _ _ _ _ _ _ _ _ _ _ _ _ _ _ _ _ _ _ (by rw [← List.drop_drop, hd]; rfl) hlt ?_ hp2 hc2
      intro n hn
      rw [List.take_add_one, hb] at hn
      simp at hn
      rcases hn with hn | rfl
      · exact hs n hn
      · omega
set_option maxRecDepth 20000 in
theorem big_x0 (hn0 : NodesAt H nv r.nodes) (hm0 : Arr H 1 mv (strCells r.mutes)) (hnl : r.nodes.length ≤ 100) (hml : r.mutes.length ≤ 100) (hT : ∀ K, Pre H K → k (.bool true) K) (hk : (∀ n ∈ r.nodes, n.sel.length ≤ 50) → ∀ K, Pre H K → k (.bool false) K) :
    ∀ (l : List (List UInt8)) (i : Nat) (left : Int) (K : AHeap) (s0 s2 s5 s6 s7 s8 s9 s10 s11 s12 s13 s14 s15 s16 s17 s18 s19 s20 s21 s22 s23 s24 s25 s26 s27 s28 s29 s30 s31 s32 s33 s34 s35 s36 s37 s38 s39 s40 s41 s42 s43 s44 s45 s46 s47 s48 s49 s50 s51 s52 s53 s54 s55 s56 s57 s58 s59 s60 s61 s62 s63 s64 s65 s66 s67 s68 s69 s70 s71 s72 s73 s74 s75 s76 s77 s78 s79 s80 s81 s82 s83 s84 s85 s86 s87 s88 s89 s90 s91 s92 s93 s94 s95 s96 s97 s98 s99 s100 s101 s102 s103 s104 s105 s106 s107 s108 s109 s110 s111 s112 s113 s114 s115 s116 s117 s118 s119 s120 s121 s122 s123 s124 s125 s126 s127 s128 s129 s130 : Value), r.mutes.drop i = l → i ≤ r.mutes.length → Pre H K → hcells K b = some (r.cells nv mv) →
      L23x0 (l.length + 1) k [s0, .pointer (some ⟨b, 0, some 8⟩), s2, i64 left, i64 i, s5, s6, s7, s8, s9, s10, s11, s12, s13, s14, s15, s16, s17, s18, s19, s20, s21, s22, s23, s24, s25, s26, s27, s28, s29, s30, s31, s32, s33, s34, s35, s36, s37, s38, s39, s40, s41, s42, s43, s44, s45, s46, s47, s48, s49, s50, s51, s52, s53, s54, s55, s56, s57, s58, s59, s60, s61, s62, s63, s64, s65, s66, s67, s68, s69, s70, s71, s72, s73, s74, s75, s76, s77, s78, s79, s80, s81, s82, s83, s84, s85, s86, s87, s88, s89, s90, s91, s92, s93, s94, s95, s96, s97, s98, s99, s100, s101, s102, s103, s104, s105, s106, s107, s108, s109, s110, s111, s112, s113, s114, s115, s116, s117, s118, s119, s120, s121, s122, s123, s124, s125, s126, s127, s128, s129, s130] K := by
  intro l
  induction l with
  | nil =>
    intro i left K s0 s2 s5 s6 s7 s8 s9 s10 s11 s12 s13 s14 s15 s16 s17 s18 s19 s20 s21 s22 s23 s24 s25 s26 s27 s28 s29 s30 s31 s32 s33 s34 s35 s36 s37 s38 s39 s40 s41 s42 s43 s44 s45 s46 s47 s48 s49 s50 s51 s52 s53 s54 s55 s56 s57 s58 s59 s60 s61 s62 s63 s64 s65 s66 s67 s68 s69 s70 s71 s72 s73 s74 s75 s76 s77 s78 s79 s80 s81 s82 s83 s84 s85 s86 s87 s88 s89 s90 s91 s92 s93 s94 s95 s96 s97 s98 s99 s100 s101 s102 s103 s104 s105 s106 s107 s108 s109 s110 s111 s112 s113 s114 s115 s116 s117 s118 s119 s120 s121 s122 s123 s124 s125 s126 s127 s128 s129 s130 hd hi hp hc
    have hle : r.mutes.length ≤ i := by simpa using hd
    have hl := (hm0.pre hp).len (P := Tryz.prog) (T := 32) (e := 9) (by simp)
    simp [strCells] at hl
    have hl8 : hlen K b = some 8 := by rw [hcells_len hc]; rfl
    rw [List.length_nil, L23x0q]
    have : ¬ i < r.mutes.length := by omega
    simp [hc, hl8, Rul.cells, hl, this]
    exact ⟨r.nodes.length + 1, big_x1 (H := H) (r := r) (nv := nv) (mv := mv) (b := b) hn0 hnl hT hk r.nodes 0 left K _ _ _ _ _ _ _ _ _ _ _ _ _ _ _ _ _ _ _ _ _ _ _ _ _ _ _ _ _ _ _ _ _ _ _ _ _ _ _ _ _ _ _ _ _ _ _ _ _ _ _ _ _ _ _ _ _ _ _ _ _ _ _ _ _ _ _ _ _ _ _ _ _ _ _ _ _ _ _ _ _ _ _ _ _ _ _ _ _ _ _ _ _ _ _ _ _ _ _ _ _ _ _ _ _ _ _ _ _ _ _ _ _ _ _ _ _ _ _ _ _ _ _ _ _ _ _ _ rfl (by omega) (by simp) hp hc⟩
  | cons x l ih =>
    intro i left K s0 s2 s5 s6 s7 s8 s9 s10 s11 s12 s13 s14 s15 s16 s17 s18 s19 s20 s21 s22 s23 s24 s25 s26 s27 s28 s29 s30 s31 s32 s33 s34 s35 s36 s37 s38 s39 s40 s41 s42 s43 s44 s45 s46 s47 s48 s49 s50 s51 s52 s53 s54 s55 s56 s57 s58 s59 s60 s61 s62 s63 s64 s65 s66 s67 s68 s69 s70 s71 s72 s73 s74 s75 s76 s77 s78 s79 s80 s81 s82 s83 s84 s85 s86 s87 s88 s89 s90 s91 s92 s93 s94 s95 s96 s97 s98 s99 s100 s101 s102 s103 s104 s105 s106 s107 s108 s109 s110 s111 s112 s113 s114 s115 s116 s117 s118 s119 s120 s121 s122 s123 s124 s125 s126 s127 s128 s129 s130 hd hi hp hc
    have hb : r.mutes[i]? = some x := by rw [← List.head?_drop, hd]; rfl
    have hlt : i < r.mutes.length := (List.getElem?_eq_some_iff.1 hb).1
    have hl := (hm0.pre hp).len (P := Tryz.prog) (T := 32) (e := 9) (by simp)
    simp [strCells] at hl
    obtain ⟨q, hp1, hp2⟩ := (hm0.pre hp).load1 (P := Tryz.prog) (T := 32) (te := 9) (i := i) (x := str x) (by simp) (by simp) (by simp) (by simp [strCells, hb])
    have hl8 : hlen K b = some 8 := by rw [hcells_len hc]; rfl
    rw [List.length_cons, L23x0q]
    simp [hc, hl8, Rul.cells, hl, hlt, hp1, hp2]
    refine kifB_bool (fun h => ?_) (fun h => ?_)
    · exact hT K hp
    · simp [hc, hl8, Rul.cells, hp1, hp2, show i + 1 < 2 ^ 63 by omega]
      exact ih (i + 1) _ K _ _ _ _ _ _ _ _ _ _ _ _ _ _ _ _ _ _ _ _ _ _ _ _ _ _ _ _ _ _ _ _ _ _ _ _ _ _ _ _ _ _ _ _ _ _ _ _ _ _ _ _ _ _ _ _ _ _ _ _ _ _ _ _ _ _ _ _ _ _ _ _ _ _ _ _ _ _ _ _ _ _ _ _ _ _ _ _ _ _ _ _ _ _ _ _ _ _ _ _ _ _ _ _ _ _ _ _ _ _ _ _ _ _ _ _ _ _ _ _ _ _ _ _ _ _ _ _ (by rw [← List.drop_drop, hd]; rfl) hlt hp hc
theorem c_big (hn0 : NodesAt H nv r.nodes) (hm0 : Arr H 1 mv (strCells r.mutes)) : ∃ b, (b = false → r.small) ∧ ACalls Tryz.prog 23 [.agg (r.cells nv mv).toArray] H (.bool b) H := by
  refine acalls_bool MixT Tryz.func23 (by decide) fun k hT hk => ?_
  rw [d23]
  have h1 : nv.oneCell' = true := by obtain ⟨_, h, _⟩ := hn0; exact h.one
  have h2 := hm0.one
  have hl : ∀ X : AHeap, aLen Tryz.prog (H ++ X) 32 mv = some (i64 r.mutes.length) := fun X => by
    have := (hm0.pre (.app H X)).len (P := Tryz.prog) (T := 32) (e := 9) (by simp)
    simpa [strCells] using this
  have hln := fun X : AHeap => (hn0.pre (.app H X)).len (H ++ X)
  simp +contextual [aNew_agg, Rul.cells, h1, h2, hl, hln]
  refine kifB_bool (fun h => ?_) (fun h => ?_)
  · exact hT _ (.app _ _)
  · simp at h
    simp
    refine ⟨r.mutes.length + 1, ?_⟩
    exact big_x0 (H := H) (r := r) (nv := nv) (mv := mv) (b := H.length) hn0 hm0 (by omega) (by omega) hT (fun h2 K p => hk ⟨by omega, by omega, h2⟩ K p) r.mutes 0 _ _ _ _ _ _ _ _ _ _ _ _ _ _ _ _ _ _ _ _ _ _ _ _ _ _ _ _ _ _ _ _ _ _ _ _ _ _ _ _ _ _ _ _ _ _ _ _ _ _ _ _ _ _ _ _ _ _ _ _ _ _ _ _ _ _ _ _ _ _ _ _ _ _ _ _ _ _ _ _ _ _ _ _ _ _ _ _ _ _ _ _ _ _ _ _ _ _ _ _ _ _ _ _ _ _ _ _ _ _ _ _ _ _ _ _ _ _ _ _ _ _ _ _ _ _ _ _ _ _ rfl (by omega) (.app _ _) (by simp [Rul.cells])
end
end Go.Vi
namespace Go.Vi
open Go Go.Proofs

def Cfg.small (c : Cfg) : Prop := c.rules.length ≤ 20 ∧ c.mutes.length ≤ 50 ∧ ∀ r ∈ c.rules, r.small
section
variable {c : Cfg} {H : AHeap} {rv mv : Value} {b : Nat} {k : Value → AHeap → Prop}
theorem RulesAt.lenR {H v rs} (h : RulesAt H v rs) (K : AHeap) : aLen Tryz.prog K 22 v = some (i64 rs.length) := by
  obtain ⟨cl, h1, h2, _⟩ := h
  rw [← h2]
  exact h1.len' (e := 34) (by simp)
theorem MutesAt.lenM {H v ms} (h : MutesAt H v ms) (K : AHeap) : aLen Tryz.prog K 23 v = some (i64 ms.length) := by
  have := h.1.len' (P := Tryz.prog) (K := K) (T := 23) (e := 38) (by simp)
  simpa using this
theorem RulesAt.one {H v rs} (h : RulesAt H v rs) : v.oneCell' = true := by obtain ⟨_, h, _⟩ := h; exact h.one
theorem MutesAt.one {H v ms} (h : MutesAt H v ms) : v.oneCell' = true := h.1.one
theorem Mut.hd (m : Mut) : m.cells[0]? = some (str m.name) := rfl
theorem cbig_x1 (_hr : RulesAt H rv c.rules) (hm : MutesAt H mv c.mutes) (hml : c.mutes.length ≤ 50) (hT : ∀ K, Pre H K → k (.bool true) K) (hk : ∀ K, Pre H K → k (.bool false) K) :
    ∀ (l : List Mut) (i : Nat) (K : AHeap) (s0 s2 s3 s5 s6 s7 s8 s9 s10 s11 s12 s13 s14 s15 s16 s17 s18 s19 s20 s21 s22 s23 s24 s25 s26 s27 s28 s29 s30 s31 s32 s33 s34 s35 s36 s37 s38 s39 s40 s41 s42 : Value), c.mutes.drop i = l → i ≤ c.mutes.length → Pre H K → hcells K b = some (c.cells rv mv) →
      L10x1 (l.length + 1) k [s0, .pointer (some ⟨b, 0, some 4⟩), s2, s3, i64 i, s5, s6, s7, s8, s9, s10, s11, s12, s13, s14, s15, s16, s17, s18, s19, s20, s21, s22, s23, s24, s25, s26, s27, s28, s29, s30, s31, s32, s33, s34, s35, s36, s37, s38, s39, s40, s41, s42] K := by
  intro l
  induction l with
  | nil =>
    intro i K s0 s2 s3 s5 s6 s7 s8 s9 s10 s11 s12 s13 s14 s15 s16 s17 s18 s19 s20 s21 s22 s23 s24 s25 s26 s27 s28 s29 s30 s31 s32 s33 s34 s35 s36 s37 s38 s39 s40 s41 s42 hd hi hp hc
    have hle : c.mutes.length ≤ i := by simpa using hd
    have hl := (hm.pre hp).lenM K
    have hl4 : hlen K b = some 4 := by rw [hcells_len hc]; rfl
    rw [List.length_nil, L10x1q]
    have : ¬ i < c.mutes.length := by omega
    simp [hc, hl4, Cfg.cells, hl, this]
    exact hk K hp
  | cons x l ih =>
    intro i K s0 s2 s3 s5 s6 s7 s8 s9 s10 s11 s12 s13 s14 s15 s16 s17 s18 s19 s20 s21 s22 s23 s24 s25 s26 s27 s28 s29 s30 s31 s32 s33 s34 s35 s36 s37 s38 s39 s40 s41 s42 hd hi hp hc
    have hb : c.mutes[i]? = some x := by rw [← List.head?_drop, hd]; rfl
    have hlt : i < c.mutes.length := (List.getElem?_eq_some_iff.1 hb).1
    have hl := (hm.pre hp).lenM K
    have hl4 : hlen K b = some 4 := by rw [hcells_len hc]; rfl
    obtain ⟨p, q, f1, f2, f3⟩ := (hm.pre hp).1.field (P := Tryz.prog) (T := 23) (te := 38) (ft := 9) (f := 0) (d := 0) (i := i) (e := x.cells) (x := str x.name) (by simp) (by simp) (by simp) (by simp) (by simp) (by simp [hb]) x.hd
    rw [List.length_cons, L10x1q]
    simp [hc, hl4, Cfg.cells, hl, hlt, f1, f2, f3]
    refine kifB_bool (fun h => ?_) (fun h => ?_)
    · exact hT K hp
    · simp [show i + 1 < 2 ^ 63 by omega]
      exact ih (i + 1) K _ _ _ _ _ _ _ _ _ _ _ _ _ _ _ _ _ _ _ _ _ _ _ _ _ _ _ _ _ _ _ _ _ _ _ _ _ _ _ _ _ (by rw [← List.drop_drop, hd]; rfl) hlt hp hc
theorem cbig_x0 (hr : RulesAt H rv c.rules) (hm : MutesAt H mv c.mutes) (hrl : c.rules.length ≤ 20) (hml : c.mutes.length ≤ 50) (hT : ∀ K, Pre H K → k (.bool true) K) (hk : (∀ r ∈ c.rules, r.small) → ∀ K, Pre H K → k (.bool false) K) :
    ∀ (l : List Rul) (i : Nat) (K : AHeap) (s0 s2 s4 s5 s6 s7 s8 s9 s10 s11 s12 s13 s14 s15 s16 s17 s18 s19 s20 s21 s22 s23 s24 s25 s26 s27 s28 s29 s30 s31 s32 s33 s34 s35 s36 s37 s38 s39 s40 s41 s42 : Value), c.rules.drop i = l → i ≤ c.rules.length → (∀ r ∈ c.rules.take i, r.small) → Pre H K → hcells K b = some (c.cells rv mv) →
      L10x0 (l.length + 1) k [s0, .pointer (some ⟨b, 0, some 4⟩), s2, i64 i, s4, s5, s6, s7, s8, s9, s10, s11, s12, s13, s14, s15, s16, s17, s18, s19, s20, s21, s22, s23, s24, s25, s26, s27, s28, s29, s30, s31, s32, s33, s34, s35, s36, s37, s38, s39, s40, s41, s42] K := by
  intro l
  induction l with
  | nil =>
    intro i K s0 s2 s4 s5 s6 s7 s8 s9 s10 s11 s12 s13 s14 s15 s16 s17 s18 s19 s20 s21 s22 s23 s24 s25 s26 s27 s28 s29 s30 s31 s32 s33 s34 s35 s36 s37 s38 s39 s40 s41 s42 hd hi hs hp hc
    have hle : c.rules.length ≤ i := by simpa using hd
    have hl := (hr.pre hp).lenR K
    have hl4 : hlen K b = some 4 := by rw [hcells_len hc]; rfl
    rw [List.length_nil, L10x0q]
    have : ¬ i < c.rules.length := by omega
    rw [List.take_of_length_le hle] at hs
    simp [hc, hl4, Cfg.cells, hl, this]
    exact ⟨c.mutes.length + 1, cbig_x1 (H := H) (c := c) (rv := rv) (mv := mv) (b := b) hr hm hml hT (hk hs) c.mutes 0 K _ _ _ _ _ _ _ _ _ _ _ _ _ _ _ _ _ _ _ _ _ _ _ _ _ _ _ _ _ _ _ _ _ _ _ _ _ _ _ _ _ rfl (by omega) hp hc⟩
  | cons x l ih =>
    intro i K s0 s2 s4 s5 s6 s7 s8 s9 s10 s11 s12 s13 s14 s15 s16 s17 s18 s19 s20 s21 s22 s23 s24 s25 s26 s27 s28 s29 s30 s31 s32 s33 s34 s35 s36 s37 s38 s39 s40 s41 s42 hd hi hs hp hc
    have hb : c.rules[i]? = some x := by rw [← List.head?_drop, hd]; rfl
    have hlt : i < c.rules.length := (List.getElem?_eq_some_iff.1 hb).1
    have hl := (hr.pre hp).lenR K
    have hl4 : hlen K b = some 4 := by rw [hcells_len hc]; rfl
    obtain ⟨cl, ha, hcl, hcc⟩ := hr.pre hp
    obtain ⟨nv, xv, hx, hn, hxm, hxl⟩ := hcc _ _ hb
    obtain ⟨q, hp1, hp2⟩ := ha.load (P := Tryz.prog) (T := 22) (te := 34) (i := i) (e := x.cells nv xv) (by simp) (by simp) (by simp) hx
    rw [List.length_cons, L10x0q]
    simp [hc, hl4, Cfg.cells, hl, hlt, hp1, hp2]
    obtain ⟨t, ht, hcall⟩ := c_big (r := x) hn hxm
    refine bndC_of hcall ?_
    simp
    refine kifB_bool (fun h => ?_) (fun h => ?_)
    · exact hT K hp
    · simp [show i + 1 < 2 ^ 63 by omega]
      refine ih (i + 1) K _ _ _ _ _ _ _ _ _ _ _ _ _ _ _ _ _ _ _ _ _ _ _ _ _ _ _ _ _ _ _ _ _ _ _ _ _ _ _ _ _ (by rw [← List.drop_drop, hd]; rfl) hlt ?_ hp hc
      intro r hrm
      rw [List.take_add_one, hb] at hrm
      simp at hrm
      rcases hrm with hrm | rfl
      · exact hs r hrm
      · exact ht h
theorem c_Big (hr : RulesAt H rv c.rules) (hm : MutesAt H mv c.mutes) : ∃ b, (b = false → c.small) ∧ ACalls Tryz.prog 10 [.agg (c.cells rv mv).toArray] H (.bool b) H := by
  refine acalls_bool MixT Tryz.func10 (by decide) fun k hT hk => ?_
  rw [d10]
  have h1 := hr.one
  have h2 := hm.one
  have hlr := fun X : AHeap => hr.lenR (H ++ X)
  have hlm := fun X : AHeap => hm.lenM (H ++ X)
  simp +contextual [aNew_agg, Cfg.cells, h1, h2, hlr, hlm]
  refine kifB_bool (fun h => ?_) (fun h => ?_)
  · exact hT _ (.app _ _)
  · simp at h
    refine ⟨c.rules.length + 1, ?_⟩
    exact cbig_x0 (H := H) (c := c) (rv := rv) (mv := mv) (b := H.length) hr hm (by omega) (by omega) hT (fun h2 K p => hk ⟨by omega, by omega, h2⟩ K p) c.rules 0 _ _ _ _ _ _ _ _ _ _ _ _ _ _ _ _ _ _ _ _ _ _ _ _ _ _ _ _ _ _ _ _ _ _ _ _ _ _ _ _ _ _ rfl (by omega) (by simp) (.app _ _) (by simp [Cfg.cells])
end
end Go.Vi
