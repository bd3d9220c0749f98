/- The reader of conditions: tokens. Numbers' texts. Reading a condition. Numbers' texts that are refused. Package variables, as the world lays them, in the abstract memory. Numbers are written: how many digits there are. What the functions' bodies come to. Numbers are written: digits. Numbers are written: their texts. Numbers are written: Itoa, TrimRight, fixed.Print. strings.Builder grows ahead; strings.Join. Matchers are written. Matchers are written: the loop. Conditions are written. Right nodes are written: Print. The reader of conditions, whatever it reads: tokens. The reader of conditions, whatever it reads: windows, values, matchers. The reader of conditions, whatever it reads: matchers. The reader of conditions, whatever it reads: comparisons. Conditions, whatever is read. Read and Parse, whatever they read. Statements of chapter 10: what they share. Statements of chapter 10: the examples. Nodes held against the same nodes elsewhere. -/
import Derived.Test.YtpkdgmcfojjfjaaGreatDoorJ4
import Derived.Test.YtpkdgmcfojjfjaaGreatDoorJ2
import Derived.Test.YtpkdgmcfojjfjaaGreatDoorJ3
import Derived.LaidSub
import Derived.Lay
import Derived.MakeChecks
import Derived.ChangeMaps5
import Derived.Test.YtpkdgmcfojjfjaaGreatDoorChecked
namespace Go.Vi
open Go Go.Proofs

@[simp] theorem nilV_ptr (b o m : Nat) : nilV (.pointer (some ⟨b, o, some m⟩)) = some (.pointer (some ⟨b, o, some m⟩)) := rfl
def rdo (lv : Value) (a : Nat) (ok : Bool) : AObj := .cells [lv, i64 a, .bool ok] 81
structure RdA (H K : AHeap) (rb : Nat) (lv : Value) (ts : List Tok) (a : Nat) (ok : Bool) : Prop where
  toks : ToksAt H lv ts
  pre : Pre H K
  hb : H.length ≤ rb
  cell : K[rb]? = some (rdo lv a ok)
  len : ts.length < 2 ^ 40
  le : a ≤ ts.length
def isT (ts : List Tok) (a : Nat) (k : Int) (s : List UInt8) : Bool := (ts[a]?).any fun t => t.kind == k && t.text == s
theorem RdA.lt {H K rb lv ts a ok} (h : RdA H K rb lv ts a ok) : rb < K.length := (List.getElem?_eq_some_iff.1 h.cell).1
theorem RdA.app {H K rb lv ts a ok} (h : RdA H K rb lv ts a ok) (X : AHeap) : RdA H (K ++ X) rb lv ts a ok := ⟨h.toks, h.pre.more X, h.hb, get_more h.cell, h.len, h.le⟩
theorem RdA.put {H K rb lv ts a ok} (h : RdA H K rb lv ts a ok) (a' : Nat) (ok' : Bool) (ha : a' ≤ ts.length) : RdA H (K.set rb (rdo lv a' ok')) rb lv ts a' ok' :=
  ⟨h.toks, h.pre.set h.hb, h.hb, by rw [List.getElem?_set_self h.lt], h.len, ha⟩
theorem toksAt_at {K : AHeap} {lv : Value} {ts : List Tok} {a : Nat} {t : Tok} (h : ToksAt K lv ts) (ht : ts[a]? = some t) :
    ∃ p q r, aIndexAddr Tryz.prog K 23 lv (i64 a) = some p ∧ aFieldAddr Tryz.prog K 70 p 0 = some q ∧ aLoad Tryz.prog K 5 q = some (.int .u8 t.kind) ∧ aFieldAddr Tryz.prog K 70 p 1 = some r ∧ aLoad Tryz.prog K 9 r = some (str t.text) := by
  have hi : (ts.map Tok.cells)[a]? = some t.cells := by simp [ht]
  obtain ⟨p, q, h1, h2, h3⟩ := h.field (P := Tryz.prog) (T := 23) (te := 70) (f := 0) (d := 0) (ft := 5) (by simp) (by simp) (by simp) (by simp) (by simp) hi rfl
  obtain ⟨p', r, h4, h5, h6⟩ := h.field (P := Tryz.prog) (T := 23) (te := 70) (f := 1) (d := 1) (ft := 9) (by simp) (by simp) (by simp) (by simp) (by simp) hi rfl
  rw [h1] at h4
  cases h4
  exact ⟨p, q, r, h1, h2, h3, h5, h6⟩
theorem c_is {H K rb lv ts a ok} (h : RdA H K rb lv ts a ok) (k : Int) (s : List UInt8) :
    ACalls Tryz.prog 104 [(Value.pointer (some ⟨rb, 0, some 3⟩)), .int .u8 k, str s] K (.bool (ok && isT ts a k s)) K := by
  refine acalls_pure MixT Tryz.func104 (by decide) rfl ?_
  rw [d104]
  have hc := h.cell
  have hcc : hcells K rb = some [lv, i64 a, .bool ok] := by simp [hcells_eq, hc, rdo]
  have hll : hlen K rb = some 3 := by simp [hlen, hc, rdo]
  have hl := (h.toks.pre h.pre).len (P := Tryz.prog) (T := 23) (e := 70) (by simp)
  simp at hl
  cases ok with
  | false => simp [hcc, hll]
  | true =>
    simp [hcc, hll, hl]
    by_cases ha : a < ts.length
    · obtain ⟨t, ht⟩ : ∃ t, ts[a]? = some t := ⟨_, List.getElem?_eq_getElem ha⟩
      obtain ⟨p, q, r, e1, e2, e3, e4, e5⟩ := toksAt_at (h.toks.pre h.pre) ht
      have hT : isT ts a k s = (t.kind == k && t.text == s) := by simp [isT, ht]
      rw [hT]
      simp [ha, hcc, hll, e1, e2, e3]
      by_cases hk : (t.kind == k) = true
      · simp [hk, hcc, hll, e1, e4, e5]
        exact Bool.eq_iff_iff.2 (by simp)
      · simp only [Bool.not_eq_true] at hk
        simp [hk]
    · simp [ha, isT]
theorem isT_lt {ts a k s} (h : isT ts a k s = true) : a < ts.length := by
  unfold isT at h
  by_cases ha : a < ts.length
  · exact ha
  · rw [List.getElem?_eq_none (by omega)] at h; cases h
theorem c_takes_y {H K rb lv ts a} (h : RdA H K rb lv ts a true) {k : Int} {s : List UInt8} (ht : isT ts a k s = true) :
    ACalls Tryz.prog 68 [(Value.pointer (some ⟨rb, 0, some 3⟩)), .int .u8 k, str s] K (.bool true) (K.set rb (rdo lv (a + 1) true)) := by
  refine acalls_of MixT Tryz.func68 (by decide) ?_
  rw [d68]
  refine bndC_of (c_is h k s) ?_
  have hlt := isT_lt ht
  have hc := h.cell
  have hcc : hcells K rb = some [lv, i64 a, .bool true] := by simp [hcells_eq, hc, rdo]
  have hll : hlen K rb = some 3 := by simp [hlen, hc, rdo]
  have hw : IntKind.i64.wrap ((a : Int) + 1) = (a : Int) + 1 := wrap_i64 (by omega) (by have := h.len; omega)
  simp only [rdo] at hc
  simp only [ht, Bool.true_and]
  simp [hcc, hll, hc, rdo, hw, ht, S68x0q]
theorem c_takes_n {H K rb lv ts a ok} (h : RdA H K rb lv ts a ok) {k : Int} {s : List UInt8} (ht : (ok && isT ts a k s) = false) :
    ACalls Tryz.prog 68 [(Value.pointer (some ⟨rb, 0, some 3⟩)), .int .u8 k, str s] K (.bool false) K := by
  refine acalls_of MixT Tryz.func68 (by decide) ?_
  rw [d68]
  refine bndC_of (c_is h k s) ?_
  simp [ht, S68x0q]
theorem c_sign_y {H K rb lv ts a} (h : RdA H K rb lv ts a true) {s : List UInt8} (ht : isT ts a 4 s = true) :
    ACalls Tryz.prog 69 [(Value.pointer (some ⟨rb, 0, some 3⟩)), str s] K (.tuple #[]) (K.set rb (rdo lv (a + 1) true)) := by
  refine acalls_of MixT Tryz.func69 (by decide) ?_
  rw [d69]
  refine bndC_of (c_takes_y h ht) ?_
  have hlt := h.lt
  have hc : (K.set rb (rdo lv (a + 1) true))[rb]? = some (rdo lv (a + 1) true) := List.getElem?_set_self hlt
  generalize K.set rb (rdo lv (a + 1) true) = L at hc
  have hll : hlen L rb = some 3 := by simp [hlen, hc, rdo]
  simp [hll, hc, rdo]
  exact set_same hc
theorem c_take_y {H K rb lv ts a} (h : RdA H K rb lv ts a true) {t : Tok} (ht : ts[a]? = some t) :
    ACalls Tryz.prog 127 [(Value.pointer (some ⟨rb, 0, some 3⟩)), .int .u8 t.kind] K (str t.text) (K.set rb (rdo lv (a + 1) true)) := by
  refine acalls_of MixT Tryz.func127 (by decide) ?_
  rw [d127]
  have hlt := (List.getElem?_eq_some_iff.1 ht).1
  have hc := h.cell
  have hcc : hcells K rb = some [lv, i64 a, .bool true] := by simp [hcells_eq, hc, rdo]
  have hll : hlen K rb = some 3 := by simp [hlen, hc, rdo]
  have hl := (h.toks.pre h.pre).len (P := Tryz.prog) (T := 23) (e := 70) (by simp)
  simp at hl
  obtain ⟨p, q, r, e1, e2, e3, e4, e5⟩ := toksAt_at (h.toks.pre h.pre) ht
  have hw : IntKind.i64.wrap ((a : Int) + 1) = (a : Int) + 1 := wrap_i64 (by omega) (by have := h.len; omega)
  have hlt2 : ¬ (ts.length ≤ a) := by omega
  simp only [rdo] at hc
  simp [hcc, hll, hl, hlt2, e1, e2, e3, hc, hw]
  have hL := (h.put (a + 1) true (by omega)).cell
  have hpL := (h.put (a + 1) true (by omega)).pre
  simp only [rdo, Int.natCast_add, Int.natCast_one] at hL hpL
  generalize hLd : K.set rb (AObj.cells [lv, i64 (a + 1), .bool true] 81) = L at hL hpL ⊢
  have hcL : hcells L rb = some [lv, i64 (a + 1), .bool true] := by simp [hcells_eq, hL]
  have hlL : hlen L rb = some 3 := by simp [hlen, hL]
  have hw2 : IntKind.i64.wrap (a : Int) = a := wrap_i64 (by omega) (by have := h.len; omega)
  obtain ⟨p, q, r, e1, e2, e3, e4, e5⟩ := toksAt_at (h.toks.pre hpL) ht
  simp [hcL, hlL, hw2, e1, e4, e5]
  rw [← hLd]
  simp [rdo]

def nmapK : Nat → List (List UInt8) → List (Value × Value)
  | _, [] => []
  | k, s :: r => (str s, i64 k) :: nmapK (k + 1) r
theorem nmapK_app (s : List UInt8) : ∀ (l : List (List UInt8)) (k : Nat), nmapK k (l ++ [s]) = nmapK k l ++ [(str s, i64 ((k + l.length : Nat) : Int))] := by
  intro l
  induction l with
  | nil => intro k; rfl
  | cons t r ih =>
    intro k
    rw [List.cons_append, nmapK, ih, nmapK, List.length_cons, show k + 1 + r.length = k + (r.length + 1) by omega]
    rfl
theorem SMap.mono {Q R : List UInt8 → Value → Prop} (h : ∀ k v, Q k v → R k v) : ∀ {es ks}, SMap Q es ks → SMap R es ks := by
  intro es
  induction es with
  | nil => intro ks h; cases ks <;> exact h
  | cons e es ih => intro ks h; cases ks with
    | nil => exact h
    | cons k ks => exact ⟨h.1, ‹∀ k v, Q k v → R k v› _ _ h.2.1, ih h.2.2⟩
theorem nmapK_smap : ∀ (l : List (List UInt8)) (k : Nat), SMap (fun s v => ∃ i : Nat, v = i64 ((k + i : Nat) : Int) ∧ l[i]? = some s) (nmapK k l) l := by
  intro l
  induction l with
  | nil => intro k; trivial
  | cons t r ih =>
    intro k
    refine ⟨rfl, ⟨0, rfl, rfl⟩, (ih (k + 1)).mono ?_⟩
    rintro s v ⟨i, rfl, h⟩
    exact ⟨i + 1, by rw [show k + 1 + i = k + (i + 1) by omega], by simpa using h⟩
theorem nmap_put {l : List (List UInt8)} {i : Nat} {s : List UInt8} (hn : l.Nodup) (hi : l[i]? = some s) : mput (str s) (i64 i) (nmapK 0 (l.take i)) = nmapK 0 (l.take (i + 1)) := by
  have hlt := (List.getElem?_eq_some_iff.1 hi).1
  have hns : s ∉ l.take i := by
    intro hm
    obtain ⟨j, hj, hjs⟩ := List.getElem_of_mem hm
    have hj' : j < i := by simp at hj; omega
    have e1 : l[j] = s := by simpa using hjs
    have e2 : l[i] = s := (List.getElem?_eq_some_iff.1 hi).2
    exact List.pairwise_iff_getElem.1 hn j i (by omega) hlt hj' (e1.trans e2.symm)
  have htk : l.take (i + 1) = l.take i ++ [s] := by rw [List.take_add_one, hi]; rfl
  unfold mput
  rcases (nmapK_smap (l.take i) 0).find (k := s) with ⟨g1, _⟩ | ⟨_, g2⟩
  · exact absurd g1 hns
  · rw [g2, htk, nmapK_app]
    simp [Nat.min_eq_left (Nat.le_of_lt hlt)]
theorem named_loop {l : List (List UInt8)} {H : AHeap} {v : Value} {k : Value → AHeap → Prop} (hl : l.length < 2 ^ 40) (hn : l.Nodup) (ha : Arr H 1 v (strCells l)) (hk : k (.map (some H.length)) (H ++ [.map (nmapK 0 l)])) :
    ∀ (r : List (List UInt8)) (i : Nat) (s1 s2 s4 s5 s6 s10 s11 s12 s13 s14 s15 s16 s17 s18 : Value), l.drop i = r → i ≤ l.length →
      L126x0 (r.length + 1) k [v, s1, s2, .map (some H.length), s4, s5, s6, v, i64 l.length, i64 i, s10, s11, s12, s13, s14, s15, s16, s17, s18] (H ++ [.map (nmapK 0 (l.take i))]) := by
  intro r
  induction r with
  | nil =>
    intro i s1 s2 s4 s5 s6 s10 s11 s12 s13 s14 s15 s16 s17 s18 hd hi
    have hle : l.length ≤ i := by simpa using hd
    rw [List.length_nil, L126x0q, List.take_of_length_le hle]
    have : ¬ i < l.length := by omega
    simp [this]
    exact hk
  | cons s r ih =>
    intro i s1 s2 s4 s5 s6 s10 s11 s12 s13 s14 s15 s16 s17 s18 hd hi
    have hb : l[i]? = some s := by rw [← List.head?_drop, hd]; rfl
    have hlt : i < l.length := (List.getElem?_eq_some_iff.1 hb).1
    obtain ⟨q, hp1, hp2⟩ := (ha.pre (.app H [.map (nmapK 0 (l.take i))])).load1 (P := Tryz.prog) (T := 42) (te := 9) (i := i) (x := str s) (by simp) (by simp) (by simp) (by simp [strCells, hb])
    rw [List.length_cons, L126x0q]
    have hm : (H ++ [AObj.map (nmapK 0 (l.take i))])[H.length]? = some (.map (nmapK 0 (l.take i))) := by simp
    have hok := (nmapK_smap (l.take i) 0).ok
    have hset : (H ++ [AObj.map (nmapK 0 (l.take i))]).set H.length (.map (nmapK 0 (l.take (i + 1)))) = H ++ [.map (nmapK 0 (l.take (i + 1)))] := by simp
    simp only [aBin_lss, bnd_some, Int.ofNat_lt, hlt, decide_true, kifB_true, hp1, hp2]
    simp only [aUpdate_map, hm, tm163, Option.bind_some, mapOf_map, keyOk, hok, and_self, if_true, bndS_some, bnd_some, aBin_add, wrap_succ (show i + 1 < 2 ^ 63 by omega), nmap_put hn hb, hset]
    exact ih (i + 1) _ _ _ _ _ _ _ _ _ _ _ _ _ _ (by rw [← List.drop_drop, hd]; rfl) hlt
theorem c_named {l : List (List UInt8)} {H : AHeap} {v : Value} (hl : l.length < 2 ^ 40) (hn : l.Nodup) (ha : Arr H 1 v (strCells l)) :
    ACalls Tryz.prog 126 [v] H (.map (some H.length)) (H ++ [.map (nmapK 0 l)]) := by
  refine acalls_of MixT Tryz.func126 (by decide) ?_
  rw [d126]
  have hlen := (ha.pre (.app H [.map []])).len (P := Tryz.prog) (T := 42) (e := 9) (by simp)
  simp [strCells] at hlen
  simp [hlen]
  exact ⟨l.length + 1, named_loop hl hn ha ⟨rfl, rfl⟩ l 0 _ _ _ _ _ _ _ _ _ _ _ _ _ _ rfl (by omega)⟩
theorem nmap_get {l : List (List UInt8)} {i : Nat} {s : List UInt8} (hn : l.Nodup) (hi : l[i]? = some s) : mget (str s) (nmapK 0 l) = some (i64 i) := by
  rcases (nmapK_smap l 0).get (k := s) with ⟨_, v, g1, j, rfl, g2⟩ | ⟨g1, _⟩
  · have h1 := (List.getElem?_eq_some_iff.1 hi)
    have h2 := (List.getElem?_eq_some_iff.1 g2)
    obtain ⟨a1, a2⟩ := h1
    obtain ⟨b1, b2⟩ := h2
    have : i = j := by
      rcases Nat.lt_trichotomy i j with q | q | q
      · exact absurd (a2.trans b2.symm) (List.pairwise_iff_getElem.1 hn i j a1 b1 q)
      · exact q
      · exact absurd (b2.trans a2.symm) (List.pairwise_iff_getElem.1 hn j i b1 a1 q)
    subst this
    rw [g1, Nat.zero_add]
  · exact absurd (List.mem_of_getElem? hi) g1
end Go.Vi
namespace Go.Vi
open Go Go.Proofs

theorem bnd_of {x : Option Value} {v : Value} {q : QV} (h : x = some v) (k : q.f v) : @bnd x q := by rw [h, bnd_some]; exact k
def hasPre (l p : List UInt8) : Bool := decide (p.length ≤ l.length) && decide (l.take p.length = p)
theorem c_hasPrefix0 (H : AHeap) (l p : List UInt8) : ACalls Tryz.prog 158 [str l, str p] H (.bool (hasPre l p)) H := by
  refine acalls_pure MixT Tryz.func158 (by decide) rfl ?_
  rw [d158]
  by_cases h : p.length ≤ l.length
  · have hs := aSliceOp_str (P := Tryz.prog) (H := H) (T := 9) (l := l) (lo := none) (hi := some (i64 p.length)) (a := 0) (b := p.length) (by simp) rfl rfl (by omega) (by omega) (by omega)
    simp at hs
    simp [h, hs, hasPre]
  · simp [h, hasPre]
theorem c_hasPrefix (H : AHeap) (l p : List UInt8) : ACalls Tryz.prog 133 [str l, str p] H (.bool (hasPre l p)) H := by
  refine acalls_pure MixT Tryz.func133 (by decide) rfl ?_
  rw [d133]
  exact bndC_of (c_hasPrefix0 _ _ _) (by simp)
def cutPre (l p : List UInt8) : List UInt8 := if hasPre l p = true then l.drop p.length else l
theorem c_cutPrefix0 (H : AHeap) (l p : List UInt8) : ACalls Tryz.prog 179 [str l, str p] H (.tuple #[str (cutPre l p), .bool (hasPre l p)]) H := by
  refine acallsT_pure MixT Tryz.func179 (by decide) rfl ?_
  rw [d179]
  refine bndC_of (c_hasPrefix0 _ _ _) ?_
  by_cases h : hasPre l p = true
  · have hle : p.length ≤ l.length := by unfold hasPre at h; simp at h; exact h.1
    have hs := aSliceOp_str (P := Tryz.prog) (H := H) (T := 9) (l := l) (lo := some (i64 p.length)) (hi := none) (a := p.length) (b := l.length) (by simp) rfl rfl (by omega) (by omega) (by omega)
    simp at hs
    simp [h, hs, cutPre]
  · simp only [Bool.not_eq_true] at h
    simp [h, cutPre]
theorem c_cutPrefix (H : AHeap) (l p : List UInt8) : ACalls Tryz.prog 155 [str l, str p] H (.tuple #[str (cutPre l p), .bool (hasPre l p)]) H := by
  refine acallsT_pure MixT Tryz.func155 (by decide) rfl ?_
  rw [d155]
  exact bndC_of (c_cutPrefix0 _ _ _) (by simp)
theorem and_lo (H : AHeap) (x y : Operand) : aBin2 Tryz.prog H .and 178 x y (.int .u64 1) (.int .u64 4294967295) = some (.int .u64 1) := by kernel_rfl
theorem and_lo2 (H : AHeap) (x y : Operand) : aBin2 Tryz.prog H .and 178 x y (.int .u64 2) (.int .u64 4294967295) = some (.int .u64 2) := by kernel_rfl
theorem and_lo3 (H : AHeap) (x y : Operand) : aBin2 Tryz.prog H .and 178 x y (.int .u64 3) (.int .u64 4294967295) = some (.int .u64 3) := by kernel_rfl
theorem and_lo0 (H : AHeap) (x y : Operand) : aBin2 Tryz.prog H .and 178 x y (.int .u64 0) (.int .u64 4294967295) = some (.int .u64 0) := by kernel_rfl
theorem c_hasZero (H : AHeap) : ACalls Tryz.prog 133 [str (List.replicate 64 48), str [48]] H (.bool true) H := by
  have := c_hasPrefix H (List.replicate 64 48) [48]
  rwa [show hasPre (List.replicate 64 48) [48] = true by decide] at this
theorem c_mul64 (H : AHeap) (n : Int) (hn : n = 2 ∨ n = 3) : ACalls Tryz.prog 192 [.int .u64 1, .int .u64 n] H (.tuple #[.int .u64 0, .int .u64 n]) H := by
  refine acallsT_pure MixT Tryz.func192 (by decide) rfl ?_
  rw [d192]
  have f1 : Int.fdiv 1 (2 ^ min 32 IntKind.u64.bits) = 0 := by decide
  have f2 : Int.fdiv 2 (2 ^ min 32 IntKind.u64.bits) = 0 := by decide
  have f3 : Int.fdiv 3 (2 ^ min 32 IntKind.u64.bits) = 0 := by decide
  have f0 : Int.fdiv 0 (2 ^ min 32 IntKind.u64.bits) = 0 := by decide
  have w0 : IntKind.u64.wrap 0 = 0 := by decide
  have w2 : IntKind.u64.wrap 2 = 2 := by decide
  have w3 : IntKind.u64.wrap 3 = 3 := by decide
  rcases hn with rfl | rfl <;> simp [and_lo, and_lo2, and_lo3, and_lo0, aBin_shr, f0, f1, f2, f3, w0, w2, w3]
theorem c_mul (H : AHeap) (n : Int) (hn : n = 2 ∨ n = 3) : ACalls Tryz.prog 180 [.int .u64 1, .int .u64 n] H (.tuple #[.int .u64 0, .int .u64 n]) H := by
  refine acallsT_pure MixT Tryz.func180 (by decide) rfl ?_
  rw [d180]
  simp
  refine bndC_of (c_mul64 _ _ hn) (by simp)
set_option maxRecDepth 4000 in
theorem c_repeat0 (H : AHeap) (n : Nat) (hn : n ≤ 3) : ACalls Tryz.prog 157 [str [48], i64 n] H (str (List.replicate n 48)) H := by
  refine acalls_pure MixT Tryz.func157 (by decide) rfl ?_
  rw [d157]
  have i2 : IntKind.i64.wrap 2 = 2 := by decide
  have i3 : IntKind.i64.wrap 3 = 3 := by decide
  have w1 : IntKind.u64.wrap 1 = 1 := by decide
  have w2 : IntKind.u64.wrap 2 = 2 := by decide
  have w3 : IntKind.u64.wrap 3 = 3 := by decide
  rcases n with _ | _ | _ | _ | n
  · simp
  · simp
  · simp
    rw [S157x0q]
    simp [convV_int, w1, w2]
    refine bndC_of (c_mul _ _ (.inl rfl)) ?_
    simp
    rw [S157x1q]
    have q0 := aIndex_at (P := Tryz.prog) (T := 9) (k := .i64) (l := [48]) (i := 0) (by simp) rfl
    simp at q0
    simp [convV_int, q0]
    rw [S157x2q]
    simp [i2]
    refine bndG_t (.bool false) _ (c_hasPrefix H (List.replicate 128 32) [48]) ?_
    simp [i2]
    refine bndG_t (.bool false) _ (c_hasPrefix H (List.replicate 128 45) [48]) ?_
    simp [i2]
    refine bndG_t (.bool true) _ (c_hasZero H) ?_
    have hs := aSliceOp_str (P := Tryz.prog) (H := H) (T := 9) (l := List.replicate 64 48) (lo := none) (hi := some (i64 2)) (a := 0) (b := 2) (by simp) rfl rfl (by omega) (by omega) (by simp)
    refine bnd_of (v := .bool true) (by simp) ?_
    simp only [kifB_true]
    refine bnd_of hs ?_
    exact ⟨rfl, [], by simp⟩
  · simp
    rw [S157x0q]
    simp [convV_int, w1, w3]
    refine bndC_of (c_mul _ _ (.inr rfl)) ?_
    simp
    rw [S157x1q]
    have q0 := aIndex_at (P := Tryz.prog) (T := 9) (k := .i64) (l := [48]) (i := 0) (by simp) rfl
    simp at q0
    simp [convV_int, q0]
    rw [S157x2q]
    simp [i3]
    refine bndG_t (.bool false) _ (c_hasPrefix H (List.replicate 128 32) [48]) ?_
    simp [i3]
    refine bndG_t (.bool false) _ (c_hasPrefix H (List.replicate 128 45) [48]) ?_
    simp [i3]
    refine bndG_t (.bool true) _ (c_hasZero H) ?_
    have hs := aSliceOp_str (P := Tryz.prog) (H := H) (T := 9) (l := List.replicate 64 48) (lo := none) (hi := some (i64 3)) (a := 0) (b := 3) (by simp) rfl rfl (by omega) (by omega) (by simp)
    refine bnd_of (v := .bool true) (by simp) ?_
    simp only [kifB_true]
    refine bnd_of hs ?_
    exact ⟨rfl, [], by simp⟩
  · omega

def scanF : List UInt8 → Nat → Int → Int × Bool
  | [], _, pt => (pt, true)
  | b :: r, i, pt => if isDig b = true then scanF r (i + 1) pt else if ((b.toNat : Int) == 46 && decide (pt < 0)) = true then scanF r (i + 1) i else (pt, false)
def cutT (s : List UInt8) (pt : Int) (ok : Bool) : List UInt8 × List UInt8 × Bool :=
  if pt < 0 then (s, [], ok) else (s.take pt.toNat, s.drop (pt.toNat + 1), ok && !decide (s.take pt.toNat = []) && !decide (s.drop (pt.toNat + 1) = []) && decide ((s.drop (pt.toNat + 1)).length ≤ 3))
def cutF (s : List UInt8) : List UInt8 × List UInt8 × Bool := cutT s (scanF s 0 (-1)).1 ((scanF s 0 (-1)).2 && !s.isEmpty)
def cutV (x : List UInt8 × List UInt8 × Bool) : Value := .tuple #[str x.1, str x.2.1, .bool x.2.2]
theorem cut_tail {s : List UInt8} {pt : Int} {ok : Bool} {H : AHeap} {k : Value → AHeap → Prop} (hs : s.length < 2 ^ 60) (hpt : pt < s.length) (hp1 : -1 ≤ pt) (hk : k (cutV (cutT s pt ok)) H) (s1 s2 s3 s6 s7 s8 s9 s10 s11 s12 s13 s14 s15 s16 s17 s18 s19 s20 s21 s22 s23 s24 s25 s26 s27 s28 s29 s30 s31 s32 s33 s34 s35 s36 s37 s38 s39 s40 s41 s42 s43 s44 s45 s46 s47 s48 s49 s50 s51 s52 s53 s54 s55 s56 s57 s58 s59 s60 s61 s62 s63 s64 s65 : Value) :
    S156x1 k [str s, s1, s2, s3, .bool ok, i64 pt, s6, s7, s8, s9, s10, s11, s12, s13, s14, s15, s16, s17, s18, s19, s20, s21, s22, s23, s24, s25, s26, s27, s28, s29, s30, s31, s32, s33, s34, s35, s36, s37, s38, s39, s40, s41, s42, s43, s44, s45, s46, s47, s48, s49, s50, s51, s52, s53, s54, s55, s56, s57, s58, s59, s60, s61, s62, s63, s64, s65] H := by
  rw [S156x1q]
  by_cases h : pt < 0
  · simp [h]
    simpa [cutT, h, cutV] using hk
  · obtain ⟨n, rfl⟩ : ∃ n : Nat, pt = n := ⟨pt.toNat, by omega⟩
    have h1 := aSliceOp_str (P := Tryz.prog) (H := H) (T := 9) (l := s) (lo := none) (hi := some (i64 n)) (a := 0) (b := n) (by simp) rfl rfl (by omega) (by omega) (by omega)
    have h2 := aSliceOp_str (P := Tryz.prog) (H := H) (T := 9) (l := s) (lo := some (i64 ((n + 1 : Nat) : Int))) (hi := none) (a := (n + 1 : Nat)) (b := s.length) (by simp) rfl rfl (by omega) (by omega) (by omega)
    simp only [cutT, if_neg h, cutV] at hk
    simp at h1 h2 hk
    simp +contextual [h, h1, h2, show n + 1 < 2 ^ 63 by omega]
    have e3 : decide (((s.length - (n + 1) : Nat) : Int) ≤ 3) = decide (s.length ≤ 3 + (n + 1)) := by rw [decide_eq_decide]; omega
    rw [e3]
    exact hk
theorem cut_loop {s : List UInt8} {H : AHeap} {k : Value → AHeap → Prop} (hs : s.length < 2 ^ 60) (w : List UInt8 × List UInt8 × Bool) (hk : k (cutV w) H) :
    ∀ (r : List UInt8) (i : Nat) (pt : Int) (ok : Bool) (s1 s2 s3 s6 s7 s10 s11 s12 s13 s14 s15 s16 s17 s18 s19 s20 s21 s22 s23 s24 s25 s26 s27 s28 s29 s30 s31 s32 s33 s34 s35 s36 s37 s38 s39 s40 s41 s42 s43 s44 s45 s46 s47 s48 s49 s50 s51 s52 s53 s54 s55 s56 s57 s58 s59 s60 s61 s62 s63 s64 s65 : Value), s.drop i = r → i ≤ s.length → -1 ≤ pt → pt < i → ok = (r.isEmpty && !s.isEmpty) → w = cutT s (scanF r i pt).1 ((scanF r i pt).2 && !s.isEmpty) →
      L156x0 (r.length + 1) k [str s, s1, s2, s3, .bool ok, i64 pt, s6, s7, i64 s.length, i64 i, s10, s11, s12, s13, s14, s15, s16, s17, s18, s19, s20, s21, s22, s23, s24, s25, s26, s27, s28, s29, s30, s31, s32, s33, s34, s35, s36, s37, s38, s39, s40, s41, s42, s43, s44, s45, s46, s47, s48, s49, s50, s51, s52, s53, s54, s55, s56, s57, s58, s59, s60, s61, s62, s63, s64, s65] H := by
  intro r
  induction r with
  | nil =>
    intro i pt ok s1 s2 s3 s6 s7 s10 s11 s12 s13 s14 s15 s16 s17 s18 s19 s20 s21 s22 s23 s24 s25 s26 s27 s28 s29 s30 s31 s32 s33 s34 s35 s36 s37 s38 s39 s40 s41 s42 s43 s44 s45 s46 s47 s48 s49 s50 s51 s52 s53 s54 s55 s56 s57 s58 s59 s60 s61 s62 s63 s64 s65 hd hi hp1 hp2 hok hw
    have hle : s.length ≤ i := by simpa using hd
    rw [List.length_nil, L156x0q]
    have : ¬ i < s.length := by omega
    simp [this]
    rw [B156x1q]
    simp only [List.isEmpty_nil, Bool.true_and] at hok
    rw [hok]
    refine cut_tail hs (by omega) hp1 ?_ _ _ _ _ _ _ _ _ _ _ _ _ _ _ _ _ _ _ _ _ _ _ _ _ _ _ _ _ _ _ _ _ _ _ _ _ _ _ _ _ _ _ _ _ _ _ _ _ _ _ _ _ _ _ _ _ _ _ _ _ _ _ _
    rw [hw] at hk
    simpa [scanF] using hk
  | cons b r ih =>
    intro i pt ok s1 s2 s3 s6 s7 s10 s11 s12 s13 s14 s15 s16 s17 s18 s19 s20 s21 s22 s23 s24 s25 s26 s27 s28 s29 s30 s31 s32 s33 s34 s35 s36 s37 s38 s39 s40 s41 s42 s43 s44 s45 s46 s47 s48 s49 s50 s51 s52 s53 s54 s55 s56 s57 s58 s59 s60 s61 s62 s63 s64 s65 hd hi hp1 hp2 hok hw
    have hb : s[i]? = some b := by rw [← List.head?_drop, hd]; rfl
    have hlt : i < s.length := (List.getElem?_eq_some_iff.1 hb).1
    have hix := aIndex_at (P := Tryz.prog) (T := 9) (k := .i64) (by simp) hb
    have hne : s.isEmpty = false := by cases s with | nil => simp at hlt | cons => rfl
    have hdr : s.drop (i + 1) = r := by rw [← List.drop_drop, hd]; rfl
    have hlast : (i : Int) = (s.length : Int) - 1 ↔ r.isEmpty = true := by
      have := congrArg List.length hd
      simp at this
      cases r with
      | nil => simp at this ⊢; omega
      | cons => simp at this ⊢; omega
    simp only [List.isEmpty_cons, Bool.false_and] at hok
    subst hok
    have hwr : IntKind.i64.wrap ((s.length : Int) - 1) = (s.length : Int) - 1 := wrap_i64 (by omega) (by omega)
    have step : ∀ (pt' : Int) (s1 s2 s3 s7 s10 s11 s12 s13 s14 s15 s16 s17 s18 s19 s20 s21 s22 s23 s24 s25 s26 s27 s28 s29 s30 s31 s32 s33 s34 s35 s36 s37 s38 s39 s40 s41 s42 s43 s44 s45 s46 s47 s48 s49 s50 s51 s52 s53 s54 s55 s56 s57 s58 s59 s60 s61 s62 s63 s64 s65 : Value), -1 ≤ pt' → pt' < (i + 1 : Nat) → w = cutT s (scanF r (i + 1) pt').1 ((scanF r (i + 1) pt').2 && !s.isEmpty) →
        S156x0 (r.length + 1) k [str s, s1, s2, s3, .bool false, i64 pt', i64 i, s7, i64 s.length, i64 i, s10, s11, s12, s13, s14, s15, s16, s17, s18, s19, s20, s21, s22, s23, s24, s25, s26, s27, s28, s29, s30, s31, s32, s33, s34, s35, s36, s37, s38, s39, s40, s41, s42, s43, s44, s45, s46, s47, s48, s49, s50, s51, s52, s53, s54, s55, s56, s57, s58, s59, s60, s61, s62, s63, s64, s65] H := by
      intro pt' s1 s2 s3 s7 s10 s11 s12 s13 s14 s15 s16 s17 s18 s19 s20 s21 s22 s23 s24 s25 s26 s27 s28 s29 s30 s31 s32 s33 s34 s35 s36 s37 s38 s39 s40 s41 s42 s43 s44 s45 s46 s47 s48 s49 s50 s51 s52 s53 s54 s55 s56 s57 s58 s59 s60 s61 s62 s63 s64 s65 q1 q2 q3
      rw [S156x0q]
      simp [hwr]
      refine kifB_bool (fun h => ?_) (fun h => ?_)
      · have hre := hlast.1 (by simpa using h)
        rw [S156x2q]
        simp [show i + 1 < 2 ^ 63 by omega]
        exact ih (i + 1) pt' true _ _ _ _ _ _ _ _ _ _ _ _ _ _ _ _ _ _ _ _ _ _ _ _ _ _ _ _ _ _ _ _ _ _ _ _ _ _ _ _ _ _ _ _ _ _ _ _ _ _ _ _ _ _ _ _ _ _ _ _ _ hdr (by omega) q1 q2 (by simp [hre, hne]) q3
      · have hre : r.isEmpty = false := by
          cases hr : r.isEmpty with
          | false => rfl
          | true => have := hlast.2 hr; simp [this] at h
        rw [S156x2q]
        simp [show i + 1 < 2 ^ 63 by omega]
        exact ih (i + 1) pt' false _ _ _ _ _ _ _ _ _ _ _ _ _ _ _ _ _ _ _ _ _ _ _ _ _ _ _ _ _ _ _ _ _ _ _ _ _ _ _ _ _ _ _ _ _ _ _ _ _ _ _ _ _ _ _ _ _ _ _ _ _ hdr (by omega) q1 q2 (by simp [hre]) q3
    rw [List.length_cons, L156x0q]
    by_cases hdg : isDig b = true
    · have hdg' := hdg
      simp only [isDig, Bool.and_eq_true, decide_eq_true_eq] at hdg'
      simp [hlt, hix, hdg'.1, hdg'.2]
      exact step pt _ _ _ _ _ _ _ _ _ _ _ _ _ _ _ _ _ _ _ _ _ _ _ _ _ _ _ _ _ _ _ _ _ _ _ _ _ _ _ _ _ _ _ _ _ _ _ _ _ _ _ _ _ _ _ _ _ _ _ _ hp1 (by omega) (by simpa only [scanF, if_pos hdg] using hw)
    · have hndg : ¬ (48 ≤ (b.toNat : Int) ∧ (b.toNat : Int) ≤ 57) := by simpa [isDig] using hdg
      simp only [scanF, if_neg hdg] at hw
      by_cases h48 : 48 ≤ (b.toNat : Int)
      · have h57 : ¬ (b.toNat : Int) ≤ 57 := fun q => hndg ⟨h48, q⟩
        have h46 : ¬ (b.toNat : Int) = 46 := by omega
        have h46b : ((b.toNat : Int) == 46) = false := by simpa using h46
        simp [hlt, hix, h48, h57, h46b]
        rw [B156x0q]
        refine cut_tail hs (by omega) hp1 ?_ _ _ _ _ _ _ _ _ _ _ _ _ _ _ _ _ _ _ _ _ _ _ _ _ _ _ _ _ _ _ _ _ _ _ _ _ _ _ _ _ _ _ _ _ _ _ _ _ _ _ _ _ _ _ _ _ _ _ _ _ _ _ _
        rw [hw] at hk
        simpa [h46] using hk
      · by_cases h46 : (b.toNat : Int) = 46
        · by_cases hpt : pt < 0
          · simp [hlt, hix, h46, hpt]
            exact step i _ _ _ _ _ _ _ _ _ _ _ _ _ _ _ _ _ _ _ _ _ _ _ _ _ _ _ _ _ _ _ _ _ _ _ _ _ _ _ _ _ _ _ _ _ _ _ _ _ _ _ _ _ _ _ _ _ _ _ _ (by omega) (by omega) (by simpa [h46, hpt] using hw)
          · simp [hlt, hix, h46, hpt]
            rw [B156x0q]
            refine cut_tail hs (by omega) hp1 ?_ _ _ _ _ _ _ _ _ _ _ _ _ _ _ _ _ _ _ _ _ _ _ _ _ _ _ _ _ _ _ _ _ _ _ _ _ _ _ _ _ _ _ _ _ _ _ _ _ _ _ _ _ _ _ _ _ _ _ _ _ _ _ _
            rw [hw] at hk
            simpa [h46, hpt] using hk
        · have h46b : ((b.toNat : Int) == 46) = false := by simpa using h46
          simp [hlt, hix, h48, h46b]
          rw [B156x0q]
          refine cut_tail hs (by omega) hp1 ?_ _ _ _ _ _ _ _ _ _ _ _ _ _ _ _ _ _ _ _ _ _ _ _ _ _ _ _ _ _ _ _ _ _ _ _ _ _ _ _ _ _ _ _ _ _ _ _ _ _ _ _ _ _ _ _ _ _ _ _ _ _ _ _
          rw [hw] at hk
          simpa [h46] using hk
theorem c_cut {s : List UInt8} {H : AHeap} (hs : s.length < 2 ^ 60) : ACalls Tryz.prog 156 [str s] H (cutV (cutF s)) H := by
  refine acallsT_pure MixT Tryz.func156 (by decide) rfl ?_
  rw [d156]
  simp
  refine ⟨s.length + 1, ?_⟩
  have e : false = (s.isEmpty && !s.isEmpty) := by cases s.isEmpty <;> rfl
  have := cut_loop (H := H) (k := fun u H2 => u = cutV (cutF s) ∧ ∃ X, H2 = H ++ X) hs (cutF s) ⟨rfl, [], by simp⟩ s 0 (-1) false
  exact this _ _ _ _ _ _ _ _ _ _ _ _ _ _ _ _ _ _ _ _ _ _ _ _ _ _ _ _ _ _ _ _ _ _ _ _ _ _ _ _ _ _ _ _ _ _ _ _ _ _ _ _ _ _ _ _ _ _ _ _ _ rfl (by omega) (by omega) (by omega) e rfl

def digF (x : Int) : List UInt8 → Int
  | [] => x
  | d :: r => if x > (maxFix - ((d.toNat : Int) - 48)).tdiv 10 then maxFix else digF (10 * x + ((d.toNat : Int) - 48)) r
def parF (s : List UInt8) : Int × Int :=
  let c := cutF (cutPre s [45])
  if c.2.2 = true then
    let x := digF 0 (c.1 ++ c.2.1 ++ List.replicate (3 - c.2.1.length) 48)
    (if hasPre s [45] = true then -x else x, 0)
  else (0, 10)
theorem scanF_pt : ∀ (r : List UInt8) (i : Nat) (pt : Int), 0 ≤ pt → (scanF r i pt).2 = true → (scanF r i pt).1 = pt ∧ ∀ b ∈ r, isDig b = true := by
  intro r
  induction r with
  | nil => intro i pt _ _; simp [scanF]
  | cons b r ih =>
    intro i pt hp h
    have hp' : ¬ pt < 0 := by omega
    rw [scanF] at h ⊢
    by_cases hd : isDig b = true
    · rw [if_pos hd] at h ⊢
      obtain ⟨h1, h2⟩ := ih _ _ hp h
      refine ⟨h1, fun c hc => ?_⟩
      rcases List.mem_cons.1 hc with rfl | hc
      · exact hd
      · exact h2 c hc
    · rw [if_neg hd] at h
      simp [hp'] at h
theorem scanF_none : ∀ (r : List UInt8) (i : Nat), (scanF r i (-1)).2 = true → ((scanF r i (-1)).1 = -1 ∧ ∀ b ∈ r, isDig b = true) ∨
    ∃ j : Nat, (scanF r i (-1)).1 = ((i + j : Nat) : Int) ∧ j < r.length ∧ (∀ b ∈ r.take j, isDig b = true) ∧ ∀ b ∈ r.drop (j + 1), isDig b = true := by
  intro r
  induction r with
  | nil => intro i _; left; simp [scanF]
  | cons b r ih =>
    intro i h
    rw [scanF] at h ⊢
    by_cases hd : isDig b = true
    · rw [if_pos hd] at h ⊢
      rcases ih _ h with ⟨h1, h2⟩ | ⟨j, h1, h2, h3, h4⟩
      · left
        refine ⟨h1, fun c hc => ?_⟩
        rcases List.mem_cons.1 hc with rfl | hc
        · exact hd
        · exact h2 c hc
      · right
        refine ⟨j + 1, by rw [h1]; congr 1; omega, by simp; omega, fun c hc => ?_, by simpa using h4⟩
        rw [List.take_succ_cons] at hc
        rcases List.mem_cons.1 hc with rfl | hc
        · exact hd
        · exact h3 c hc
    · rw [if_neg hd] at h ⊢
      split at h
      · rename_i hq
        rw [if_pos hq]
        obtain ⟨h1, h2⟩ := scanF_pt r (i + 1) i (by omega) h
        exact .inr ⟨0, by rw [h1]; rfl, by simp, by simp, by simpa using h2⟩
      · cases h
theorem cutF_ok {s : List UInt8} (h : (cutF s).2.2 = true) : (∀ b ∈ (cutF s).1 ++ (cutF s).2.1, isDig b = true) ∧ (cutF s).2.1.length ≤ 3 ∧ (cutF s).1.length + (cutF s).2.1.length ≤ s.length := by
  unfold cutF cutT at *
  by_cases hp : (scanF s 0 (-1)).1 < 0
  · simp only [if_pos hp] at h ⊢
    simp only [Bool.and_eq_true] at h
    rcases scanF_none s 0 h.1 with ⟨h1, h2⟩ | ⟨j, h1, _⟩
    · simp; exact h2
    · rw [h1] at hp; omega
  · simp only [if_neg hp] at h ⊢
    simp only [Bool.and_eq_true, decide_eq_true_eq] at h
    rcases scanF_none s 0 h.1.1.1.1 with ⟨h1, h2⟩ | ⟨j, h1, h2, h3, h4⟩
    · rw [h1] at hp; omega
    · rw [h1] at h ⊢
      simp only [Nat.zero_add, Int.toNat_natCast] at h ⊢
      refine ⟨fun b hb => ?_, h.2, ?_⟩
      · rcases List.mem_append.1 hb with hb | hb
        · exact h3 b hb
        · exact h4 b hb
      · simp; omega
theorem arr_bytes {H : AHeap} (l : List UInt8) : Arr (H ++ [AObj.ro (bytesL ⟨l.toArray⟩)]) 1 (.slice (some ⟨H.length, 0, some l.length⟩) l.length l.length) (l.map fun b => [byt b]) := by
  refine .mk H.length 0 _ _ _ (l.map byt) _ (by simp) (by simp [hcells_eq, bytesL, AObj.rcells]) (by simp) (by simp) fun i e hi => ?_
  simp at hi
  obtain ⟨b, hb, rfl⟩ := hi
  rw [Nat.zero_add, Nat.mul_one, ← List.map_drop, ← List.map_take]
  have : (l.drop i).take 1 = [b] := by
    have hlt := (List.getElem?_eq_some_iff.1 hb).1
    rw [List.drop_eq_getElem_cons hlt, (List.getElem?_eq_some_iff.1 hb).2]; rfl
  rw [this]; rfl
theorem dig_loop {H : AHeap} {v : Value} {l : List UInt8} {less : Bool} {k : Value → AHeap → Prop} (ha : Arr H 1 v (l.map fun b => [byt b])) (hl : l.length < 2 ^ 61) (hd : ∀ b ∈ l, isDig b = true) (w : Int)
    (hk : k (.tuple #[i64 (if less = true then -w else w), i64 0]) H) :
    ∀ (r : List UInt8) (i : Nat) (x : Int) (s0 s1 s2 s3 s4 s6 s7 s8 s10 s11 s12 s13 s14 s15 s16 s17 s18 s19 s20 s21 s22 s23 s24 s25 s26 s27 s28 s29 s30 s31 s32 s36 s37 s38 s39 s40 s41 s42 s43 s44 s45 s46 s47 s48 s49 s50 s51 s52 s53 s54 s55 s56 : Value), l.drop i = r → i ≤ l.length → 0 ≤ x → x ≤ maxFix → w = digF x r →
      L130x0 (r.length + 1) k [s0, s1, s2, s3, s4, .bool less, s6, s7, s8, i64 x, s10, s11, s12, s13, s14, s15, s16, s17, s18, s19, s20, s21, s22, s23, s24, s25, s26, s27, s28, s29, s30, s31, s32, v, i64 l.length, i64 i, s36, s37, s38, s39, s40, s41, s42, s43, s44, s45, s46, s47, s48, s49, s50, s51, s52, s53, s54, s55, s56] H := by
  have tail : ∀ (s0 s1 s2 s3 s4 s6 s7 s8 s10 s11 s12 s13 s14 s15 s16 s17 s18 s19 s20 s21 s22 s23 s24 s25 s26 s27 s28 s29 s30 s31 s32 s33 s34 s35 s36 s37 s38 s39 s40 s41 s42 s43 s44 s45 s46 s47 s48 s49 s50 s51 s52 s53 s54 s55 s56 : Value), 0 ≤ w → w ≤ maxFix → S130x0 k [s0, s1, s2, s3, s4, .bool less, s6, s7, s8, i64 w, s10, s11, s12, s13, s14, s15, s16, s17, s18, s19, s20, s21, s22, s23, s24, s25, s26, s27, s28, s29, s30, s31, s32, s33, s34, s35, s36, s37, s38, s39, s40, s41, s42, s43, s44, s45, s46, s47, s48, s49, s50, s51, s52, s53, s54, s55, s56] H := by
    intro s0 s1 s2 s3 s4 s6 s7 s8 s10 s11 s12 s13 s14 s15 s16 s17 s18 s19 s20 s21 s22 s23 s24 s25 s26 s27 s28 s29 s30 s31 s32 s33 s34 s35 s36 s37 s38 s39 s40 s41 s42 s43 s44 s45 s46 s47 s48 s49 s50 s51 s52 s53 s54 s55 s56 h1 h2
    rw [S130x0q]
    simp only [maxFix] at h2
    cases less with
    | true =>
      have hw : IntKind.i64.wrap (-w) = -w := wrap_i64 (by omega) (by omega)
      simp [unV_neg, hw]
      rw [S130x1q]
      simpa using hk
    | false =>
      simp
      rw [S130x1q]
      simpa using hk
  intro r
  induction r with
  | nil =>
    intro i x s0 s1 s2 s3 s4 s6 s7 s8 s10 s11 s12 s13 s14 s15 s16 s17 s18 s19 s20 s21 s22 s23 s24 s25 s26 s27 s28 s29 s30 s31 s32 s36 s37 s38 s39 s40 s41 s42 s43 s44 s45 s46 s47 s48 s49 s50 s51 s52 s53 s54 s55 s56 hdr hi hx1 hx2 hw
    have hle : l.length ≤ i := by simpa using hdr
    rw [List.length_nil, L130x0q]
    have : ¬ i < l.length := by omega
    simp [this]
    rw [B130x1q]
    simp only [digF] at hw
    subst hw
    exact tail _ _ _ _ _ _ _ _ _ _ _ _ _ _ _ _ _ _ _ _ _ _ _ _ _ _ _ _ _ _ _ _ _ _ _ _ _ _ _ _ _ _ _ _ _ _ _ _ _ _ _ _ _ _ _ hx1 hx2
  | cons d r ih =>
    intro i x s0 s1 s2 s3 s4 s6 s7 s8 s10 s11 s12 s13 s14 s15 s16 s17 s18 s19 s20 s21 s22 s23 s24 s25 s26 s27 s28 s29 s30 s31 s32 s36 s37 s38 s39 s40 s41 s42 s43 s44 s45 s46 s47 s48 s49 s50 s51 s52 s53 s54 s55 s56 hdr hi hx1 hx2 hw
    have hb : l[i]? = some d := by rw [← List.head?_drop, hdr]; rfl
    have hlt : i < l.length := (List.getElem?_eq_some_iff.1 hb).1
    have hdd := hd d (List.mem_of_getElem? hb)
    have hd' : (∀ b ∈ r, isDig b = true) := fun b hb' => hd b (List.mem_of_mem_drop (by rw [hdr]; simp [hb']))
    simp only [isDig, Bool.and_eq_true, decide_eq_true_eq] at hdd
    obtain ⟨q, hp1, hp2⟩ := ha.load1 (P := Tryz.prog) (T := 55) (te := 5) (i := i) (x := byt d) (by simp) (by simp) (by simp) (by rw [List.getElem?_map, hb]; rfl)
    have w1 : IntKind.u8.wrap ((d.toNat : Int) - 48) = (d.toNat : Int) - 48 := wrap_u8 (by omega) (by omega)
    have w2 : IntKind.i64.wrap ((d.toNat : Int) - 48) = (d.toNat : Int) - 48 := wrap_i64 (by omega) (by omega)
    have w3 : IntKind.i64.wrap (4611686018427387903 - ((d.toNat : Int) - 48)) = 4611686018427387903 - ((d.toNat : Int) - 48) := wrap_i64 (by omega) (by omega)
    have htd : (4611686018427387903 - ((d.toNat : Int) - 48)).tdiv 10 = (4611686018427387903 - ((d.toNat : Int) - 48)) / 10 := Int.tdiv_eq_ediv_of_nonneg (by omega)
    have w4 : IntKind.i64.wrap ((4611686018427387903 - ((d.toNat : Int) - 48)).tdiv 10) = (4611686018427387903 - ((d.toNat : Int) - 48)).tdiv 10 := by rw [htd]; exact wrap_i64 (by omega) (by omega)
    rw [List.length_cons, L130x0q]
    rw [digF] at hw
    simp only [maxFix] at hx2
    simp [hlt, hp1, hp2, w1, w2, w3, aBin_quo, w4, convV_int]
    refine kifB_bool (fun h => ?_) (fun h => ?_)
    · simp only [decide_eq_true_eq] at h
      rw [if_pos (show x > (maxFix - ((d.toNat : Int) - 48)).tdiv 10 from h)] at hw
      subst hw
      simp
      rw [B130x0q]
      exact tail _ _ _ _ _ _ _ _ _ _ _ _ _ _ _ _ _ _ _ _ _ _ _ _ _ _ _ _ _ _ _ _ _ _ _ _ _ _ _ _ _ _ _ _ _ _ _ _ _ _ _ _ _ _ _ (by simp [maxFix]) (by simp [maxFix])
    · simp only [decide_eq_false_iff_not] at h
      rw [if_neg (show ¬ x > (maxFix - ((d.toNat : Int) - 48)).tdiv 10 from h)] at hw
      rw [htd] at h
      have hx10 : x ≤ (4611686018427387903 - ((d.toNat : Int) - 48)) / 10 := by omega
      have h10 : 10 * x + ((d.toNat : Int) - 48) ≤ 4611686018427387903 := by omega
      have w5 : IntKind.i64.wrap (10 * x) = 10 * x := wrap_i64 (by omega) (by omega)
      have w6 : IntKind.i64.wrap (10 * x + ((d.toNat : Int) - 48)) = 10 * x + ((d.toNat : Int) - 48) := wrap_i64 (by omega) (by omega)
      simp [w1, w2, w5, w6, convV_int, show i + 1 < 2 ^ 63 by omega]
      exact ih (i + 1) _ _ _ _ _ _ _ _ _ _ _ _ _ _ _ _ _ _ _ _ _ _ _ _ _ _ _ _ _ _ _ _ _ _ _ _ _ _ _ _ _ _ _ _ _ _ _ _ _ _ _ _ _ (by rw [← List.drop_drop, hdr]; rfl) hlt (by omega) (by simp only [maxFix]; omega) hw
theorem c_fixParse {s : List UInt8} {H : AHeap} (hs : s.length < 2 ^ 59) : ACalls Tryz.prog 130 [str s] H (.tuple #[i64 (parF s).1, i64 (parF s).2]) H := by
  refine acallsT_pure MixT Tryz.func130 (by decide) rfl ?_
  rw [d130]
  refine bndC_of (c_cutPrefix _ _ [45]) ?_
  simp
  have hcl : (cutPre s [45]).length ≤ s.length := by unfold cutPre; split <;> simp
  refine bndC_of (c_cut (by omega)) ?_
  generalize hc : cutF (cutPre s [45]) = c
  obtain ⟨wh, pa, ok⟩ := c
  simp [cutV]
  have hpar : parF s = if ok = true then (if hasPre s [45] = true then -(digF 0 (wh ++ pa ++ List.replicate (3 - pa.length) 48)) else digF 0 (wh ++ pa ++ List.replicate (3 - pa.length) 48), 0) else (0, 10) := by
    unfold parF; simp only [hc]
  generalize parF s = res at hpar ⊢
  cases ok with
  | false => simp [hpar]
  | true =>
    obtain ⟨k1, k2, k3⟩ := cutF_ok (s := cutPre s [45]) (by rw [hc])
    rw [hc] at k1 k2 k3
    dsimp only at k1 k2 k3
    simp only [if_true] at hpar
    have hw : IntKind.i64.wrap (3 - (pa.length : Int)) = ((3 - pa.length : Nat) : Int) := by rw [wrap_i64 (by omega) (by omega)]; omega
    have e1 := fun X Y => aBin_str (P := Tryz.prog) (H := H) (T := 9) (x := X) (y := Y) (a := wh) (b := pa) (by omega)
    simp [hw, e1]
    refine bndC_of (c_repeat0 _ _ (by omega)) ?_
    have e2 := fun X Y => aBin_str (P := Tryz.prog) (H := H) (T := 9) (x := X) (y := Y) (a := wh ++ pa) (b := List.replicate (3 - pa.length) 48) (by simp; omega)
    simp only [e2, bnd_some]
    generalize hD : wh ++ pa ++ List.replicate (3 - pa.length) 48 = D at hpar
    have hDl : D.length < 2 ^ 61 := by rw [← hD]; simp; omega
    have hDd : ∀ b ∈ D, isDig b = true := by
      intro b hb
      rw [← hD] at hb
      rcases List.mem_append.1 hb with hb | hb
      · exact k1 b hb
      · rw [(List.mem_replicate.1 hb).2]; decide
    have hcv : aConv Tryz.prog H 9 55 (str D) = some (.slice (some ⟨H.length, 0, some D.length⟩) D.length D.length, H ++ [.ro (bytesL ⟨D.toArray⟩)]) := by
      have hu : isU8 Tryz.prog 5 = true := by kernel_rfl
      simp [aConv, hu]
    simp [hcv]
    refine ⟨D.length + 1, dig_loop (less := hasPre s [45]) (arr_bytes D) hDl hDd (digF 0 D) ?_ D 0 0 _ _ _ _ _ _ _ _ _ _ _ _ _ _ _ _ _ _ _ _ _ _ _ _ _ _ _ _ _ _ _ _ _ _ _ _ _ _ _ _ _ _ _ _ _ _ _ _ _ _ _ _ rfl (by omega) (by omega) (by simp [maxFix]) rfl⟩
    rw [hpar]
    exact ⟨by split <;> rfl, [_], rfl⟩
end Go.Vi
namespace Go.Vi
open Go Go.Proofs

def natF (n : Int) : List UInt8 → Int
  | [] => n
  | d :: r => natF (10 * n + ((d.toNat : Int) - 48)) r
theorem atoi_loop {H : AHeap} {v : Value} {l : List UInt8} {k : Value → AHeap → Prop} (ha : Arr H 1 v (l.map fun b => [byt b])) (hl : l.length ≤ 18) (h1 : 1 ≤ l.length) (hd : ∀ b ∈ l, isDig b = true) (w : Int)
    (hk : k (.tuple #[i64 w, .nilIface]) H) :
    ∀ (r : List UInt8) (i : Nat) (n : Int) (s0 s1 s2 s3 s4 s7 s8 s9 s10 s11 s12 s13 s14 s15 s16 s17 s18 s19 s20 s21 s22 s23 s24 s25 s26 s27 s28 s29 s30 s31 s32 s33 s34 s35 s36 s37 s38 s39 s40 s41 s42 s43 s44 s45 s46 s50 s51 s52 s53 s54 s55 s56 s57 s58 s59 s60 s61 s62 s63 s64 s65 s66 s67 s68 s69 s70 s71 s72 s73 s74 s75 s76 : Value), l.drop i = r → i ≤ l.length → 0 ≤ n → n < 10 ^ i → w = natF n r →
      L153x0 (r.length + 1) k [s0, s1, s2, s3, s4, str l, i64 n, s7, s8, s9, s10, s11, s12, s13, s14, s15, s16, s17, s18, s19, s20, s21, s22, s23, s24, s25, s26, s27, s28, s29, s30, s31, s32, s33, s34, s35, s36, s37, s38, s39, s40, s41, s42, s43, s44, s45, s46, v, i64 l.length, i64 i, s50, s51, s52, s53, s54, s55, s56, s57, s58, s59, s60, s61, s62, s63, s64, s65, s66, s67, s68, s69, s70, s71, s72, s73, s74, s75, s76] H := by
  intro r
  induction r with
  | nil =>
    intro i n s0 s1 s2 s3 s4 s7 s8 s9 s10 s11 s12 s13 s14 s15 s16 s17 s18 s19 s20 s21 s22 s23 s24 s25 s26 s27 s28 s29 s30 s31 s32 s33 s34 s35 s36 s37 s38 s39 s40 s41 s42 s43 s44 s45 s46 s50 s51 s52 s53 s54 s55 s56 s57 s58 s59 s60 s61 s62 s63 s64 s65 s66 s67 s68 s69 s70 s71 s72 s73 s74 s75 s76 hdr hi hn1 hn2 hw
    have hle : l.length ≤ i := by simpa using hdr
    rw [List.length_nil, L153x0q]
    have : ¬ i < l.length := by omega
    obtain ⟨b0, hb0⟩ : ∃ b, l[0]? = some b := ⟨_, List.getElem?_eq_getElem (by omega)⟩
    have hix := aIndex_at (P := Tryz.prog) (T := 9) (k := .i64) (i := 0) (by simp) hb0
    have hdd := hd b0 (List.mem_of_getElem? hb0)
    simp only [isDig, Bool.and_eq_true, decide_eq_true_eq] at hdd
    have h45 : ((b0.toNat : Int) == 45) = false := by simp; omega
    simp only [natF] at hw
    subst hw
    simp at hix
    simp [this, hix, h45]
    rw [S153x1q]
    exact hk
  | cons d r ih =>
    intro i n s0 s1 s2 s3 s4 s7 s8 s9 s10 s11 s12 s13 s14 s15 s16 s17 s18 s19 s20 s21 s22 s23 s24 s25 s26 s27 s28 s29 s30 s31 s32 s33 s34 s35 s36 s37 s38 s39 s40 s41 s42 s43 s44 s45 s46 s50 s51 s52 s53 s54 s55 s56 s57 s58 s59 s60 s61 s62 s63 s64 s65 s66 s67 s68 s69 s70 s71 s72 s73 s74 s75 s76 hdr hi hn1 hn2 hw
    have hb : l[i]? = some d := by rw [← List.head?_drop, hdr]; rfl
    have hlt : i < l.length := (List.getElem?_eq_some_iff.1 hb).1
    have hdd := hd d (List.mem_of_getElem? hb)
    simp only [isDig, Bool.and_eq_true, decide_eq_true_eq] at hdd
    obtain ⟨q, hp1, hp2⟩ := ha.load1 (P := Tryz.prog) (T := 55) (te := 5) (i := i) (x := byt d) (by simp) (by simp) (by simp) (by rw [List.getElem?_map, hb]; rfl)
    have w1 : IntKind.u8.wrap ((d.toNat : Int) - 48) = (d.toNat : Int) - 48 := wrap_u8 (by omega) (by omega)
    have w2 : IntKind.i64.wrap ((d.toNat : Int) - 48) = (d.toNat : Int) - 48 := wrap_i64 (by omega) (by omega)
    have hp : (10 : Int) ^ (i + 1) ≤ 10 ^ 18 := by exact_mod_cast Nat.pow_le_pow_right (by omega : 0 < 10) (by omega : i + 1 ≤ 18)
    have hpe : (10 : Int) ^ (i + 1) = 10 ^ i * 10 := Int.pow_succ ..
    have w3 : IntKind.i64.wrap (n * 10) = n * 10 := wrap_i64 (by omega) (by omega)
    have w4 : IntKind.i64.wrap (n * 10 + ((d.toNat : Int) - 48)) = n * 10 + ((d.toNat : Int) - 48) := wrap_i64 (by omega) (by omega)
    have h9 : ¬ (9 < (d.toNat : Int) - 48) := by omega
    rw [List.length_cons, L153x0q]
    simp [hlt, hp1, hp2, w1, w2, w3, w4, h9, convV_int, show i + 1 < 2 ^ 63 by omega]
    exact ih (i + 1) _ _ _ _ _ _ _ _ _ _ _ _ _ _ _ _ _ _ _ _ _ _ _ _ _ _ _ _ _ _ _ _ _ _ _ _ _ _ _ _ _ _ _ _ _ _ _ _ _ _ _ _ _ _ _ _ _ _ _ _ _ _ _ _ _ _ _ _ _ _ _ _ _ (by rw [← List.drop_drop, hdr]; rfl) hlt (by omega) (by omega) (by rw [hw, natF]; congr 1; omega)
theorem c_atoi0 {H : AHeap} {l : List UInt8} (hl : l.length ≤ 18) (h1 : 1 ≤ l.length) (hd : ∀ b ∈ l, isDig b = true) : ACalls Tryz.prog 153 [str l] H (.tuple #[i64 (natF 0 l), .nilIface]) H := by
  refine acallsT_pure MixT Tryz.func153 (by decide) rfl ?_
  rw [d153]
  obtain ⟨b0, hb0⟩ : ∃ b, l[0]? = some b := ⟨_, List.getElem?_eq_getElem (by omega)⟩
  have hix := aIndex_at (P := Tryz.prog) (T := 9) (k := .i64) (i := 0) (by simp) hb0
  have hdd := hd b0 (List.mem_of_getElem? hb0)
  simp only [isDig, Bool.and_eq_true, decide_eq_true_eq] at hdd
  have h45 : ((b0.toNat : Int) == 45) = false := by simp; omega
  have h43 : ((b0.toNat : Int) == 43) = false := by simp; omega
  have q1 : (0 : Int) < l.length := by omega
  have q2 : (l.length : Int) < 19 := by omega
  have q3 : 0 < l.length := by omega
  simp at hix
  simp [q2, q3, hix, h45, h43]
  rw [S153x0q]
  have hcv : aConv Tryz.prog H 9 55 (str l) = some (.slice (some ⟨H.length, 0, some l.length⟩) l.length l.length, H ++ [.ro (bytesL ⟨l.toArray⟩)]) := by
    have hu : isU8 Tryz.prog 5 = true := by kernel_rfl
    simp [aConv, hu]
  simp [hcv]
  exact ⟨l.length + 1, atoi_loop (arr_bytes l) hl h1 hd (natF 0 l) ⟨rfl, [_], rfl⟩ l 0 0 _ _ _ _ _ _ _ _ _ _ _ _ _ _ _ _ _ _ _ _ _ _ _ _ _ _ _ _ _ _ _ _ _ _ _ _ _ _ _ _ _ _ _ _ _ _ _ _ _ _ _ _ _ _ _ _ _ _ _ _ _ _ _ _ _ _ _ _ _ _ _ _ rfl (by omega) (by omega) (by omega) rfl⟩
structure CmpAt (ts : List Tok) (a i : Nat) (w : Int) (j : Nat) (x : Int) : Prop where
  t0 : ∃ t, ts[a]? = some t ∧ t.kind = 1 ∧ aggs[i]? = some t.text
  s1 : isT ts (a + 1) 4 [40] = true
  s2 : isT ts (a + 2) 4 [123] = true
  s3 : isT ts (a + 3) 4 [125] = true
  s4 : isT ts (a + 4) 4 [91] = true
  t5 : ∃ t, ts[a + 5]? = some t ∧ t.kind = 2 ∧ t.text.length ≤ 18 ∧ 1 ≤ t.text.length ∧ (∀ b ∈ t.text, isDig b = true) ∧ natF 0 t.text = w ∧ 1 ≤ w ∧ w ≤ 1000
  s6 : isT ts (a + 6) 4 [93] = true
  s7 : isT ts (a + 7) 4 [41] = true
  t8 : ∃ t, ts[a + 8]? = some t ∧ t.kind = 4 ∧ cmps[j]? = some t.text
  n9 : isT ts (a + 9) 4 [45] = false
  t9 : ∃ t, ts[a + 9]? = some t ∧ t.kind = 2 ∧ t.text.length < 2 ^ 49 ∧ parF t.text = (x, 0)
def nodZ : List Value := [.int .u8 0, .int .u8 0, .slice none 0 0, i64 0, .int .u8 0, i64 0, i64 0, i64 0]
structure CmpSt (H K L : AHeap) (rb : Nat) (lv : Value) (ts : List Tok) (a b0 b1 : Nat) (n : List Value) : Prop where
  rd : RdA H L rb lv ts a true
  f0 : L[b0]? = some (.cells nodZ 37)
  f1 : L[b1]? = some (.cells n 37)
  fr : ∀ (b : Nat) o, b ≠ rb → K[b]? = some o → L[b]? = some o
  len : K.length ≤ L.length
  k0 : rb < K.length
  k1 : K.length ≤ b0
  k2 : K.length ≤ b1
  k3 : b0 ≠ b1
theorem CmpSt.app {H K L rb lv ts a b0 b1 n} (h : CmpSt H K L rb lv ts a b0 b1 n) (X : AHeap) : CmpSt H K (L ++ X) rb lv ts a b0 b1 n :=
  ⟨h.rd.app X, get_more h.f0, get_more h.f1, fun b o hb ho => get_more (h.fr b o hb ho), by have := h.len; simp; omega, h.k0, h.k1, h.k2, h.k3⟩
theorem CmpSt.sto {H K L rb lv ts a b0 b1 n} (h : CmpSt H K L rb lv ts a b0 b1 n) (n' : List Value) : CmpSt H K (L.set b1 (.cells n' 37)) rb lv ts a b0 b1 n' := by
  have h1 := h.k0; have h2 := h.k1; have h3 := h.k2
  have hb1 := (List.getElem?_eq_some_iff.1 h.f1).1
  have hrd := h.rd
  refine ⟨⟨hrd.toks, hrd.pre.set (by have := hrd.pre; have := hrd.hb; omega), hrd.hb, by rw [List.getElem?_set_ne (by omega)]; exact hrd.cell, hrd.len, hrd.le⟩, by rw [List.getElem?_set_ne (Ne.symm h.k3)]; exact h.f0, by rw [List.getElem?_set_self hb1], fun b o hb ho => ?_, by simpa using h.len, h.k0, h.k1, h.k2, h.k3⟩
  have hbk := (List.getElem?_eq_some_iff.1 ho).1
  rw [List.getElem?_set_ne (by omega)]
  exact h.fr b o hb ho
theorem CmpSt.fin {H K L rb lv ts a b0 b1 n} (h : CmpSt H K L rb lv ts a b0 b1 n) (n' : List Value) : RdA H (L.set b0 (.cells n' 37)) rb lv ts a true ∧ (∀ (b : Nat) o, b ≠ rb → K[b]? = some o → (L.set b0 (.cells n' 37))[b]? = some o) ∧ K.length ≤ (L.set b0 (.cells n' 37)).length := by
  have h1 := h.k0; have h2 := h.k1; have h3 := h.k2
  have hrd := h.rd
  refine ⟨⟨hrd.toks, hrd.pre.set (by have := hrd.hb; omega), hrd.hb, by rw [List.getElem?_set_ne (by omega)]; exact hrd.cell, hrd.len, hrd.le⟩, fun b o hb ho => ?_, by simpa using h.len⟩
  have hbk := (List.getElem?_eq_some_iff.1 ho).1
  rw [List.getElem?_set_ne (by omega)]
  exact h.fr b o hb ho
theorem CmpSt.hl {H K L rb lv ts a b0 b1 n} (h : CmpSt H K L rb lv ts a b0 b1 n) : hlen L b1 = some n.length := by unfold hlen; rw [h.f1]; rfl
theorem CmpSt.hc {H K L rb lv ts a b0 b1 n} (h : CmpSt H K L rb lv ts a b0 b1 n) : hcells L b1 = some n := by rw [hcells_eq, h.f1]; rfl
theorem arr_strs {H : AHeap} (l : List (List UInt8)) (T : TypeId) (n : Nat) (hn : n = l.length) : Arr (H ++ [AObj.cells (l.map str) T]) 1 (.slice (some ⟨H.length, 0, some n⟩) n n) (strCells l) := by
  subst hn
  refine .mk H.length 0 _ _ _ (l.map str) _ (by simp [strCells]) (by simp [hcells_eq, AObj.rcells]) (by simp) (by simp) fun i e hi => ?_
  simp [strCells] at hi
  obtain ⟨b, hb, rfl⟩ := hi
  rw [Nat.zero_add, Nat.mul_one, ← List.map_drop, ← List.map_take]
  have : (l.drop i).take 1 = [b] := by
    have hlt := (List.getElem?_eq_some_iff.1 hb).1
    rw [List.drop_eq_getElem_cons hlt, (List.getElem?_eq_some_iff.1 hb).2]; rfl
  rw [this]; rfl
end Go.Vi
namespace Go.Vi
open Go Go.Proofs

theorem aLoad_gl {P : Program} {H : AHeap} {T : TypeId} {g o b n : Nat} (h : gFind H g 0 = some (b, n)) : aLoad P H T (.pointer (some ⟨g, o, none⟩)) = aLoad P H T (.pointer (some ⟨b, o, some n⟩)) := by
  unfold aLoad deG; simp only [h]
def pow10s : List Value := (List.range 20).map fun i => .int .u64 (10 ^ i)
def Gs : AHeap := [.gl 2 [unkV], .gl 3 [unkV], .gl 1 pow10s]
theorem gs_syn {H : AHeap} (h : Pre Gs H) : gFind H 2 0 = some (0, 1) ∧ hcells H 0 = some [unkV] := by
  obtain ⟨X, rfl⟩ := h; exact ⟨gFind_app (by rfl), hcells_more (by rfl)⟩
theorem gs_ran {H : AHeap} (h : Pre Gs H) : gFind H 3 0 = some (1, 1) ∧ hcells H 1 = some [unkV] := by
  obtain ⟨X, rfl⟩ := h; exact ⟨gFind_app (by rfl), hcells_more (by rfl)⟩
theorem unk_sto : storable unkV = true := rfl
theorem unk_cel : unkV.cells = #[unkV] := rfl
theorem c_clone (H : AHeap) {s : List UInt8} (hs : s.length < 2 ^ 40) : ACalls Tryz.prog 189 [str s] H (str s) H := by
  refine acalls_pure MixT Tryz.func189 (by decide) rfl ?_
  rw [d189]
  cases s with
  | nil => simp
  | cons b r =>
    simp only [List.length_cons] at hs
    have hz : zcells Tryz.prog 5 = some #[.int .u8 0] := by kernel_rfl
    have h1 : ¬ ((r.length : Int) + 1 = 0) := by omega
    have h2 : (r.length : Int) + 1 ≤ 9223372036854775807 := by omega
    have h3 : (r.length : Int) + 1 ≤ 140737488355328 := by omega
    have hmk : aMake Tryz.prog H 55 (i64 ((r.length : Int) + 1)) (i64 ((r.length : Int) + 1)) = some (.slice (some ⟨H.length, 0, some (r.length + 1)⟩) (r.length + 1) (r.length + 1), H ++ [.cells (repCells #[.int .u8 0] (r.length + 1)).toList 5]) := by
      have e : ((r.length : Int) + 1).toNat = r.length + 1 := by omega
      simp [aMake, hz, h2, h3, e]
      omega
    have hrl : (repCells #[.int .u8 0] (r.length + 1)).toList.length = r.length + 1 := by simp [repCells]
    have h1' : ((r.length : Int) + 1 == 0) = false := by simpa using h1
    have hce : Tryz.prog.cellsOf 5 = 1 := by kernel_rfl
    have hu : u8l (bcells (b :: r)) = some (b :: r) := u8l_bcells _
    have hcp : aBuiltin Tryz.prog (H ++ [.cells (repCells #[.int .u8 0] (r.length + 1)).toList 5]) .copy #[55, 9] [.slice (some ⟨H.length, 0, some (r.length + 1)⟩) (r.length + 1) (r.length + 1), str (b :: r)] =
        some (i64 ((r.length : Int) + 1), H ++ [.cells (bcells (b :: r)) 5]) := by
      simp [aBuiltin, aCopy, aSrc, hrl, bytesL, bcells]
    have hbl : (bcells (b :: r)).length = r.length + 1 := by simp [bcells]
    have htk : (bcells (b :: r)).take (r.length + 1) = bcells (b :: r) := by rw [← hbl, List.take_length]
    have e2 : ((r.length : Int) + 1).toNat = r.length + 1 := by omega
    have hus : aBuiltin Tryz.prog (H ++ [.cells (bcells (b :: r)) 5]) .unsafeString #[157, 3] [.pointer (some ⟨H.length, 0, some (r.length + 1)⟩), i64 ((r.length : Int) + 1)] = some (str (b :: r), H ++ [.ro (bcells (b :: r))]) := by
      simp [aBuiltin, aUnsafeString, hce, hbl, h2, e2, htk, hu]
    have hia : aIndexAddr Tryz.prog (H ++ [.cells (bcells (b :: r)) 5]) 55 (.slice (some ⟨H.length, 0, some (r.length + 1)⟩) (r.length + 1) (r.length + 1)) (.int .i64 0) = some (.pointer (some ⟨H.length, 0, some (r.length + 1)⟩)) := by
      rw [aIndexAddr_eq (e := 5) (z := 1) (by simp) (by simp) (by simp [hbl]) (by omega) (by omega)]; rfl
    simp [h1', hmk, hcp, hia, hus]
theorem c_synErr {H : AHeap} (hg : Pre Gs H) {s f : List UInt8} (hs : s.length < 2 ^ 40) :
    ∃ v K', (∃ p, v = .pointer (some p)) ∧ Pre H K' ∧ ACalls Tryz.prog 175 [str f, str s] H v K' := by
  suffices h : ∃ v K', ((∃ p, v = .pointer (some p)) ∧ Pre H K') ∧ ACalls Tryz.prog 175 [str f, str s] H v K' by
    obtain ⟨v, K', ⟨h1, h2⟩, h3⟩ := h; exact ⟨v, K', h1, h2, h3⟩
  refine acalls_ex MixT Tryz.func175 (by decide) ?_
  rw [d175]
  obtain ⟨g1, g2⟩ := gs_syn hg
  refine bndD_same (c_clone H hs) ?_
  simp [aLoad_gl g1, g2, unk_sto, unk_cel]
  refine bndD_of (v := _) (H' := _) (aNew_agg rfl) (.inl rfl) ?_
  exact ⟨⟨_, rfl⟩, .app _ _⟩
theorem c_ranErr {H : AHeap} (hg : Pre Gs H) {s f : List UInt8} (hs : s.length < 2 ^ 40) :
    ∃ v K', (∃ p, v = .pointer (some p)) ∧ Pre H K' ∧ ACalls Tryz.prog 176 [str f, str s] H v K' := by
  suffices h : ∃ v K', ((∃ p, v = .pointer (some p)) ∧ Pre H K') ∧ ACalls Tryz.prog 176 [str f, str s] H v K' by
    obtain ⟨v, K', ⟨h1, h2⟩, h3⟩ := h; exact ⟨v, K', h1, h2, h3⟩
  refine acalls_ex MixT Tryz.func176 (by decide) ?_
  rw [d176]
  obtain ⟨g1, g2⟩ := gs_ran hg
  refine bndD_same (c_clone H hs) ?_
  simp [aLoad_gl g1, g2, unk_sto, unk_cel]
  refine bndD_of (v := _) (H' := _) (aNew_agg rfl) (.inl rfl) ?_
  exact ⟨⟨_, rfl⟩, .app _ _⟩
abbrev nerr (n : Int) : Value := .iface 205 (i64 n)
theorem nerr_eql (H : AHeap) (x y : Operand) : aBin2 Tryz.prog H .eql 118 x y (nerr 2) (nerr 2) = some (.bool true) ∧ aBin2 Tryz.prog H .eql 118 x y (nerr 1) (nerr 2) = some (.bool false) ∧ aBin2 Tryz.prog H .eql 118 x y (nerr 1) (nerr 1) = some (.bool true) := ⟨by kernel_rfl, by kernel_rfl, by kernel_rfl⟩
theorem nerr_neq (H : AHeap) (x y : Operand) : aBin2 Tryz.prog H .neq 118 x y (nerr 1) (nerr 1) = some (.bool false) ∧ aBin2 Tryz.prog H .neq 118 x y (nerr 2) (nerr 1) = some (.bool true) := ⟨by kernel_rfl, by kernel_rfl⟩
theorem nerr_nil (H : AHeap) (x : Operand) (c : Value) (n : Int) : aBin2 Tryz.prog H .neq 118 x (.const c) (nerr n) .nilIface = some (.bool true) := by kernel_rfl
theorem c_toError {H : AHeap} (hg : Pre Gs H) {s f : List UInt8} {n a b : Int} (hn : n = 1 ∨ n = 2) (hs : s.length < 2 ^ 40) :
    ∃ v K', (∃ p, v = .iface 208 (.pointer (some p))) ∧ Pre H K' ∧ ACalls Tryz.prog 154 [str f, str s, i64 a, i64 b, nerr n] H v K' := by
  suffices h : ∃ v K', ((∃ p, v = .iface 208 (.pointer (some p))) ∧ Pre H K') ∧ ACalls Tryz.prog 154 [str f, str s, i64 a, i64 b, nerr n] H v K' by
    obtain ⟨v, K', ⟨h1, h2⟩, h3⟩ := h; exact ⟨v, K', h1, h2, h3⟩
  refine acalls_ex MixT Tryz.func154 (by decide) ?_
  rw [d154]
  rcases hn with rfl | rfl
  · obtain ⟨v, K', ⟨p, rfl⟩, h2, h3⟩ := c_ranErr (f := f) hg hs
    simp [nerr_eql]
    exact bndC_of h3 ⟨⟨_, rfl⟩, h2⟩
  · obtain ⟨v, K', ⟨p, rfl⟩, h2, h3⟩ := c_synErr (f := f) hg hs
    simp [nerr_eql]
    exact bndC_of h3 ⟨⟨_, rfl⟩, h2⟩
def maxU : Int := 18446744073709551615
theorem c_lower46 (H : AHeap) : ACalls Tryz.prog 197 [.int .u8 46] H (.int .u8 46) H := by
  refine acalls_pure MixT Tryz.func197 (by decide) rfl ?_
  rw [d197]
  refine bnd_of (v := .int .u8 46) (by kernel_rfl) ?_
  exact ⟨rfl, [], by simp⟩
def puF (n : Int) : List UInt8 → Int × Int
  | [] => (n, 0)
  | d :: r => if isDig d = false then (0, 2) else if n ≥ 1844674407370955162 then (maxU, 1) else if n * 10 + ((d.toNat : Int) - 48) > maxU then (maxU, 1) else puF (n * 10 + ((d.toNat : Int) - 48)) r
def perr (c : Int) : Value := if c = 0 then .nilIface else nerr c
theorem perr_clos (c : Int) : clos (perr c) = true := by unfold perr; split <;> rfl
theorem pu_loop {H : AHeap} {v : Value} {l : List UInt8} {k : Value → AHeap → Prop} (ha : Arr H 1 v (l.map fun b => [byt b])) (hl : l.length < 2 ^ 62) (hd : ∀ b ∈ l, isDig b = true ∨ b = 46) (w : Int × Int)
    (hk : k (.tuple #[.int .u64 w.1, perr w.2]) H) :
    ∀ (r : List UInt8) (i : Nat) (n : Int) (s0 s2 s3 s4 s5 s6 s7 s9 s14 s15 s16 s17 s18 s19 s20 s21 s22 s23 s24 s25 s26 s27 s28 s29 s30 s31 s32 s33 s34 s35 s36 s37 s38 s39 s40 s41 s42 s43 s44 s45 s46 s47 s48 s49 s50 s51 s52 s53 s54 s55 s56 s57 s58 s59 s60 s61 s62 s63 s64 s65 s66 s67 s68 s69 s70 s71 s72 s73 s74 s75 s76 s77 s78 s79 s80 s81 s82 s83 s84 s85 s86 s87 s88 s89 s90 s91 s92 s93 s94 s95 s96 s97 s98 s102 s103 s104 s105 s106 s107 s108 s109 s110 s111 s112 s113 s114 s115 s116 s117 s118 s119 s120 s121 s122 s123 s124 s125 s126 s127 s128 s129 s130 s131 s132 s133 s134 s135 s136 s137 s138 s139 s140 s141 s142 s143 s144 s145 s146 s147 s148 s149 s150 s151 s152 s153 s154 s155 s156 s157 s158 s159 s160 s161 s162 s163 s164 s165 s166 s167 s168 s169 s170 s171 : Value), l.drop i = r → i ≤ l.length → 0 ≤ n → n ≤ maxU → w = puF n r →
      L188x0 (r.length + 1) k [s0, i64 10, s2, s3, s4, s5, s6, s7, .bool false, s9, .int .u64 1844674407370955162, .int .u64 18446744073709551615, .bool false, .int .u64 n, s14, s15, s16, s17, s18, s19, s20, s21, s22, s23, s24, s25, s26, s27, s28, s29, s30, s31, s32, s33, s34, s35, s36, s37, s38, s39, s40, s41, s42, s43, s44, s45, s46, s47, s48, s49, s50, s51, s52, s53, s54, s55, s56, s57, s58, s59, s60, s61, s62, s63, s64, s65, s66, s67, s68, s69, s70, s71, s72, s73, s74, s75, s76, s77, s78, s79, s80, s81, s82, s83, s84, s85, s86, s87, s88, s89, s90, s91, s92, s93, s94, s95, s96, s97, s98, v, i64 l.length, i64 i, s102, s103, s104, s105, s106, s107, s108, s109, s110, s111, s112, s113, s114, s115, s116, s117, s118, s119, s120, s121, s122, s123, s124, s125, s126, s127, s128, s129, s130, s131, s132, s133, s134, s135, s136, s137, s138, s139, s140, s141, s142, s143, s144, s145, s146, s147, s148, s149, s150, s151, s152, s153, s154, s155, s156, s157, s158, s159, s160, s161, s162, s163, s164, s165, s166, s167, s168, s169, s170, s171] H := by
  intro r
  induction r with
  | nil =>
    intro i n s0 s2 s3 s4 s5 s6 s7 s9 s14 s15 s16 s17 s18 s19 s20 s21 s22 s23 s24 s25 s26 s27 s28 s29 s30 s31 s32 s33 s34 s35 s36 s37 s38 s39 s40 s41 s42 s43 s44 s45 s46 s47 s48 s49 s50 s51 s52 s53 s54 s55 s56 s57 s58 s59 s60 s61 s62 s63 s64 s65 s66 s67 s68 s69 s70 s71 s72 s73 s74 s75 s76 s77 s78 s79 s80 s81 s82 s83 s84 s85 s86 s87 s88 s89 s90 s91 s92 s93 s94 s95 s96 s97 s98 s102 s103 s104 s105 s106 s107 s108 s109 s110 s111 s112 s113 s114 s115 s116 s117 s118 s119 s120 s121 s122 s123 s124 s125 s126 s127 s128 s129 s130 s131 s132 s133 s134 s135 s136 s137 s138 s139 s140 s141 s142 s143 s144 s145 s146 s147 s148 s149 s150 s151 s152 s153 s154 s155 s156 s157 s158 s159 s160 s161 s162 s163 s164 s165 s166 s167 s168 s169 s170 s171 hdr hi hn1 hn2 hw
    have hle : l.length ≤ i := by simpa using hdr
    rw [List.length_nil, L188x0q]
    have : ¬ i < l.length := by omega
    simp only [puF] at hw
    subst hw
    simp [this]
    exact hk
  | cons d r ih =>
    intro i n s0 s2 s3 s4 s5 s6 s7 s9 s14 s15 s16 s17 s18 s19 s20 s21 s22 s23 s24 s25 s26 s27 s28 s29 s30 s31 s32 s33 s34 s35 s36 s37 s38 s39 s40 s41 s42 s43 s44 s45 s46 s47 s48 s49 s50 s51 s52 s53 s54 s55 s56 s57 s58 s59 s60 s61 s62 s63 s64 s65 s66 s67 s68 s69 s70 s71 s72 s73 s74 s75 s76 s77 s78 s79 s80 s81 s82 s83 s84 s85 s86 s87 s88 s89 s90 s91 s92 s93 s94 s95 s96 s97 s98 s102 s103 s104 s105 s106 s107 s108 s109 s110 s111 s112 s113 s114 s115 s116 s117 s118 s119 s120 s121 s122 s123 s124 s125 s126 s127 s128 s129 s130 s131 s132 s133 s134 s135 s136 s137 s138 s139 s140 s141 s142 s143 s144 s145 s146 s147 s148 s149 s150 s151 s152 s153 s154 s155 s156 s157 s158 s159 s160 s161 s162 s163 s164 s165 s166 s167 s168 s169 s170 s171 hdr hi hn1 hn2 hw
    have hb : l[i]? = some d := by rw [← List.head?_drop, hdr]; rfl
    have hlt : i < l.length := (List.getElem?_eq_some_iff.1 hb).1
    obtain ⟨q, hp1, hp2⟩ := ha.load1 (P := Tryz.prog) (T := 55) (te := 5) (i := i) (x := byt d) (by simp) (by simp) (by simp) (by rw [List.getElem?_map, hb]; rfl)
    rw [List.length_cons, L188x0q]
    rcases hd d (List.mem_of_getElem? hb) with hdd | rfl
    · have hdd2 := hdd
      simp only [isDig, Bool.and_eq_true, decide_eq_true_eq] at hdd
      have w1 : IntKind.u8.wrap ((d.toNat : Int) - 48) = (d.toNat : Int) - 48 := wrap_u8 (by omega) (by omega)
      have h95 : ((d.toNat : Int) == 95) = false := by simp; omega
      have w10 : IntKind.u8.wrap 10 = 10 := by decide
      have v10 : IntKind.u64.wrap 10 = 10 := by decide
      have wu : ∀ x : Int, 0 ≤ x → x ≤ maxU → IntKind.u64.wrap x = x := by
        intro x h1 h2
        unfold maxU at h2
        unfold IntKind.wrap
        simp only [show IntKind.u64.bits = 64 from rfl, show IntKind.u64.signed = false from rfl]
        simp
        omega
      have w2 : IntKind.u64.wrap ((d.toNat : Int) - 48) = (d.toNat : Int) - 48 := wu _ (by omega) (by unfold maxU; omega)
      have h10 : ¬ ((d.toNat : Int) - 48 ≥ 10) := by omega
      simp only [puF, hdd2, Bool.true_eq_false, if_false] at hw
      simp [hlt, hp1, hp2, h95, hdd.1, hdd.2, w1]
      rw [S188x3q]
      have h10' : ¬ (10 ≤ (d.toNat : Int) - 48) := by omega
      simp [convV_int, w10, h10']
      refine kifB_bool (fun hc => ?_) (fun hc => ?_)
      · have hc' : n ≥ 1844674407370955162 := by simpa using hc
        rw [if_pos hc'] at hw
        subst hw
        exact hk
      · have hc' : ¬ n ≥ 1844674407370955162 := by simpa using hc
        rw [if_neg hc'] at hw
        have w3 : IntKind.u64.wrap (n * 10) = n * 10 := wu _ (by omega) (by unfold maxU; omega)
        by_cases hs : n * 10 + ((d.toNat : Int) - 48) > maxU
        · rw [if_pos hs] at hw
          subst hw
          have w4 : IntKind.u64.wrap (n * 10 + ((d.toNat : Int) - 48)) = n * 10 + ((d.toNat : Int) - 48) - 18446744073709551616 := by
            unfold maxU at hs
            unfold IntKind.wrap
            simp only [show IntKind.u64.bits = 64 from rfl, show IntKind.u64.signed = false from rfl]
            simp
            omega
          have h5 : n * 10 + ((d.toNat : Int) - 48) - 18446744073709551616 < n * 10 := by omega
          simp [v10, w2, w3, w4, h5]
          exact hk
        · rw [if_neg hs] at hw
          have w4 : IntKind.u64.wrap (n * 10 + ((d.toNat : Int) - 48)) = n * 10 + ((d.toNat : Int) - 48) := wu _ (by omega) (by omega)
          have h5 : ¬ n * 10 + ((d.toNat : Int) - 48) < n * 10 := by omega
          have h6 : ¬ (18446744073709551615 < n * 10 + ((d.toNat : Int) - 48)) := by unfold maxU at hs; omega
          simp [v10, w2, w3, w4, h5, h6]
          rw [S188x4q]
          simp [show i + 1 < 2 ^ 63 by omega]
          exact ih (i + 1) _ _ _ _ _ _ _ _ _ _ _ _ _ _ _ _ _ _ _ _ _ _ _ _ _ _ _ _ _ _ _ _ _ _ _ _ _ _ _ _ _ _ _ _ _ _ _ _ _ _ _ _ _ _ _ _ _ _ _ _ _ _ _ _ _ _ _ _ _ _ _ _ _ _ _ _ _ _ _ _ _ _ _ _ _ _ _ _ _ _ _ _ _ _ _ _ _ _ _ _ _ _ _ _ _ _ _ _ _ _ _ _ _ _ _ _ _ _ _ _ _ _ _ _ _ _ _ _ _ _ _ _ _ _ _ _ _ _ _ _ _ _ _ _ _ _ _ _ _ _ _ _ _ _ _ _ _ _ _ _ _ _ _ _ (by rw [← List.drop_drop, hdr]; rfl) hlt (by omega) (by omega) hw
    · simp only [puF, show isDig 46 = false by decide, if_true] at hw
      subst hw
      have e46 : ((46 : UInt8).toNat : Int) = 46 := rfl
      have hp2' : aLoad Tryz.prog H 5 q = some (.int .u8 46) := hp2
      simp [hlt, hp1, hp2']
      refine bndC_of (c_lower46 H) ?_
      simp
      exact hk
theorem c_parseUint {H : AHeap} {l : List UInt8} (hl : l.length < 2 ^ 40) (hne : l ≠ []) (hd : ∀ b ∈ l, isDig b = true ∨ b = 46) :
    ACalls Tryz.prog 188 [str l, i64 10, i64 0] H (.tuple #[.int .u64 (puF 0 l).1, perr (puF 0 l).2]) H := by
  refine acallsT_pure MixT Tryz.func188 (by decide) (by simp [flat, perr_clos]; rfl) ?_
  rw [d188]
  simp [hne]
  rw [S188x0q]
  simp
  rw [S188x1q]
  simp
  rw [S188x2q]
  have hcv : aConv Tryz.prog H 9 55 (str l) = some (.slice (some ⟨H.length, 0, some l.length⟩) l.length l.length, H ++ [.ro (bytesL ⟨l.toArray⟩)]) := by
    have hu : isU8 Tryz.prog 5 = true := by kernel_rfl
    simp [aConv, hu]
  have w1 : IntKind.u64.wrap 64 = 64 := by decide
  have w2 : ∀ (x y : Operand), aBin2 Tryz.prog H .shl 178 x y (.int .u64 1) (.int .u64 64) = some (.int .u64 0) := fun x y => by
    rw [aBin_shl _ _ _ _ _ _ _ (by omega)]; rfl
  have w3 : IntKind.u64.wrap (0 - 1) = 18446744073709551615 := by decide
  have w4 : IntKind.u64.wrap (-1) = 18446744073709551615 := by decide
  simp [convV_int, hcv, w1, w2, w4]
  exact ⟨l.length + 1, pu_loop (arr_bytes l) (by omega) hd (puF 0 l) ⟨rfl, [_], rfl⟩ l 0 0 _ _ _ _ _ _ _ _ _ _ _ _ _ _ _ _ _ _ _ _ _ _ _ _ _ _ _ _ _ _ _ _ _ _ _ _ _ _ _ _ _ _ _ _ _ _ _ _ _ _ _ _ _ _ _ _ _ _ _ _ _ _ _ _ _ _ _ _ _ _ _ _ _ _ _ _ _ _ _ _ _ _ _ _ _ _ _ _ _ _ _ _ _ _ _ _ _ _ _ _ _ _ _ _ _ _ _ _ _ _ _ _ _ _ _ _ _ _ _ _ _ _ _ _ _ _ _ _ _ _ _ _ _ _ _ _ _ _ _ _ _ _ _ _ _ _ _ _ _ _ _ _ _ _ _ _ _ _ _ _ _ _ _ rfl (by omega) (by omega) (by unfold maxU; omega) rfl⟩
def piF (l : List UInt8) : Int × Int := if (puF 0 l).2 = 2 then (0, 2) else if (puF 0 l).1 ≥ 9223372036854775808 then (9223372036854775807, 1) else ((puF 0 l).1, 0)
theorem puF_cases : ∀ (l : List UInt8) (n : Int), 0 ≤ n → n ≤ maxU → ((puF n l).2 = 0 ∧ l.all isDig = true ∧ (puF n l).1 = natF n l ∧ 0 ≤ natF n l ∧ natF n l ≤ maxU) ∨ ((puF n l).2 = 1 ∧ (puF n l).1 = maxU ∧ (l.all isDig = true → maxU < natF n l)) ∨ ((puF n l).2 = 2 ∧ (puF n l).1 = 0 ∧ l.all isDig = false) := by
  intro l
  induction l with
  | nil => intro n h1 h2; exact .inl ⟨rfl, rfl, rfl, h1, h2⟩
  | cons d r ih =>
    intro n h1 h2
    have mono : ∀ (r : List UInt8) (m : Int), r.all isDig = true → maxU < m → maxU < natF m r := by
      intro r
      induction r with
      | nil => intro m _ h; exact h
      | cons e r ih2 =>
        intro m h hm
        simp only [List.all_cons, Bool.and_eq_true, isDig, decide_eq_true_eq] at h
        simp only [natF]
        refine ih2 _ (by simpa [isDig] using h.2) ?_
        unfold maxU at hm ⊢
        omega
    by_cases hd : isDig d = true
    · have hdd := hd
      simp only [isDig, Bool.and_eq_true, decide_eq_true_eq] at hdd
      have e : n * 10 + ((d.toNat : Int) - 48) = 10 * n + ((d.toNat : Int) - 48) := by omega
      simp only [puF, hd, Bool.true_eq_false, if_false, natF, List.all_cons, Bool.true_and, e]
      by_cases hc : n ≥ 1844674407370955162
      · rw [if_pos hc]
        exact .inr (.inl ⟨rfl, rfl, fun h => mono r _ h (by unfold maxU; omega)⟩)
      · rw [if_neg hc]
        by_cases hs : 10 * n + ((d.toNat : Int) - 48) > maxU
        · rw [if_pos hs]
          exact .inr (.inl ⟨rfl, rfl, fun h => mono r _ h hs⟩)
        · rw [if_neg hs]
          exact ih _ (by omega) (by omega)
    · have hd' : isDig d = false := by simpa using hd
      simp only [puF, hd', if_true, List.all_cons, Bool.false_and]
      exact .inr (.inr ⟨by simp, by simp, by simp⟩)
theorem c_parseInt0 (H : AHeap) : ACalls Tryz.prog 174 [str [], i64 10, i64 0] H (.tuple #[i64 0, nerr 2]) H := by
  refine acallsT_pure MixT Tryz.func174 (by decide) rfl ?_
  rw [d174]
  simp
theorem c_parseInt {H : AHeap} {l : List UInt8} {d0 : UInt8} {r : List UInt8} (hl : l.length < 2 ^ 40) (hlr : l = d0 :: r) (h0 : isDig d0 = true) (hd : ∀ b ∈ l, isDig b = true ∨ b = 46) :
    ACalls Tryz.prog 174 [str l, i64 10, i64 0] H (.tuple #[i64 (piF l).1, perr (piF l).2]) H := by
  refine acallsT_pure MixT Tryz.func174 (by decide) (by simp [flat, perr_clos]; rfl) ?_
  rw [d174]
  have hne : l ≠ [] := by rw [hlr]; simp
  have hb : l[0]? = some d0 := by rw [hlr]; rfl
  have hix := aIndex_at (P := Tryz.prog) (T := 9) (k := .i64) (i := 0) (by simp) hb
  have hdd := h0
  simp only [isDig, Bool.and_eq_true, decide_eq_true_eq] at hdd
  have h45 : ((d0.toNat : Int) == 45) = false := by simp; omega
  have h43 : ((d0.toNat : Int) == 43) = false := by simp; omega
  simp at hix
  simp [hne, hix, h45, h43]
  rw [S174x0q]
  refine bndC_of (c_parseUint hl hne hd) ?_
  have hu := tu118
  have w63 : ∀ (x y : Operand), aBin2 Tryz.prog H .shl 178 x y (.int .u64 1) (.int .u64 63) = some (.int .u64 9223372036854775808) := fun x y => by
    rw [aBin_shl _ _ _ _ _ _ _ (by omega)]; rfl
  have v1 : IntKind.i64.wrap 63 = 63 := by decide
  have v2 : IntKind.u64.wrap 63 = 63 := by decide
  have v3 : IntKind.u64.wrap 9223372036854775807 = 9223372036854775807 := by decide
  have v4 : IntKind.i64.wrap 9223372036854775807 = 9223372036854775807 := by decide
  have v0 : IntKind.i64.wrap (64 - 1) = 63 := by decide
  have v5 : IntKind.u64.wrap (9223372036854775808 - 1) = 9223372036854775807 := by decide
  have hif : ifaceV Tryz.prog 205 (.int .i64 1) = some (nerr 1) := by kernel_rfl
  rcases puF_cases l 0 (by omega) (by unfold maxU; omega) with ⟨q1, q2, q3, q4, q5⟩ | ⟨q1, q2, q3⟩ | ⟨q1, q2, q3⟩
  · simp [q1, perr, aBin_nilifn hu]
    rw [S174x1q]
    simp [v1, v2, w63, convV_int]
    refine kifB_bool (fun hc => ?_) (fun hc => ?_)
    · have hc' : (puF 0 l).1 ≥ 9223372036854775808 := by simpa using hc
      simp [v3, v4, convV_int, piF, q1, hc']
    · have hc' : ¬ 9223372036854775808 ≤ (puF 0 l).1 := by simpa using hc
      have v6 : IntKind.i64.wrap (puF 0 l).1 = (puF 0 l).1 := wrap_i64 (by omega) (by omega)
      simp [convV_int, v6]
      rw [S174x2q]
      simp [piF, q1, hc']
  · simp [q1, perr, nerr_nil, nerr_neq, hif]
    rw [S174x1q]
    simp [v1, v2, v3, v4, w63, convV_int, q2, maxU, piF, q1]
  · simp [q1, perr, nerr_nil, nerr_neq, piF, hif]
def atoF (l : List UInt8) : Option Int := if l ≠ [] ∧ l.all isDig = true ∧ natF 0 l ≤ 9223372036854775807 then some (natF 0 l) else none
theorem natF_ge : ∀ (l : List UInt8) (n : Int), 0 ≤ n → l.all isDig = true → 0 ≤ natF n l := by
  intro l
  induction l with
  | nil => intro n h _; exact h
  | cons d r ih =>
    intro n h hd
    simp only [List.all_cons, Bool.and_eq_true] at hd
    have hdd := hd.1
    simp only [isDig, Bool.and_eq_true, decide_eq_true_eq] at hdd
    exact ih _ (by omega) hd.2
theorem piF_ato {l : List UInt8} (hne : l ≠ []) : (∃ n, atoF l = some n ∧ piF l = (n, 0)) ∨ (atoF l = none ∧ ((piF l).2 = 1 ∨ (piF l).2 = 2)) := by
  unfold atoF piF
  rcases puF_cases l 0 (by omega) (by unfold maxU; omega) with ⟨q1, q2, q3, q4, q5⟩ | ⟨q1, q2, q3⟩ | ⟨q1, q2, q3⟩
  · rw [q3]
    by_cases hc : natF 0 l ≤ 9223372036854775807
    · exact .inl ⟨natF 0 l, by simp [hne, q2, hc], by simp [q1]; omega⟩
    · exact .inr ⟨by simp [hne, q2]; omega, .inl (by rw [q1, if_neg (by omega), if_pos (by omega)])⟩
  · right
    refine ⟨?_, .inl (by simp [q1, q2, maxU])⟩
    by_cases hd : l.all isDig = true
    · have := q3 hd
      simp [hne, hd]
      unfold maxU at this
      omega
    · simp [hne]
      intro h
      exact absurd (by simpa using h) hd
  · right
    refine ⟨?_, .inr (by simp [q1])⟩
    simp [q3]
theorem atoi_slow {H : AHeap} {l : List UInt8} (hl : l.length < 2 ^ 40) (h19 : l = [] ∨ 19 ≤ l.length) {x : Int} {e : Value} (hc : clos e = true) (hp : ACalls Tryz.prog 174 [str l, i64 10, i64 0] H (.tuple #[i64 x, e]) H) :
    ACalls Tryz.prog 153 [str l] H (.tuple #[i64 x, e]) H := by
  refine acallsT_pure MixT Tryz.func153 (by decide) (by simp [flat, hc]; rfl) ?_
  rw [d153]
  rcases h19 with rfl | h19
  · simp
    exact bndC_of hp (by simp)
  · have h1 : ¬ ((l.length : Int) < 19) := by omega
    have h2 : (0 : Int) < l.length := by omega
    have h3 : 0 < l.length := by omega
    simp [h1, h3]
    exact bndC_of hp (by simp)
theorem atoi_loop2 {H : AHeap} {v : Value} {l : List UInt8} {k : Value → AHeap → Prop} (ha : Arr H 1 v (l.map fun b => [byt b])) (hl : l.length ≤ 18) (hd : ∀ b ∈ l, isDig b = true ∨ b = 46)
    (hk : k (.tuple #[i64 0, nerr 2]) H) :
    ∀ (r : List UInt8) (i : Nat) (n : Int) (s0 s1 s2 s3 s4 s7 s8 s9 s10 s11 s12 s13 s14 s15 s16 s17 s18 s19 s20 s21 s22 s23 s24 s25 s26 s27 s28 s29 s30 s31 s32 s33 s34 s35 s36 s37 s38 s39 s40 s41 s42 s43 s44 s45 s46 s50 s51 s52 s53 s54 s55 s56 s57 s58 s59 s60 s61 s62 s63 s64 s65 s66 s67 s68 s69 s70 s71 s72 s73 s74 s75 s76 : Value), l.drop i = r → i ≤ l.length → 0 ≤ n → n < 10 ^ i → r.all isDig = false →
      L153x0 (r.length + 1) k [s0, s1, s2, s3, s4, str l, i64 n, s7, s8, s9, s10, s11, s12, s13, s14, s15, s16, s17, s18, s19, s20, s21, s22, s23, s24, s25, s26, s27, s28, s29, s30, s31, s32, s33, s34, s35, s36, s37, s38, s39, s40, s41, s42, s43, s44, s45, s46, v, i64 l.length, i64 i, s50, s51, s52, s53, s54, s55, s56, s57, s58, s59, s60, s61, s62, s63, s64, s65, s66, s67, s68, s69, s70, s71, s72, s73, s74, s75, s76] H := by
  intro r
  induction r with
  | nil => intro i n s0 s1 s2 s3 s4 s7 s8 s9 s10 s11 s12 s13 s14 s15 s16 s17 s18 s19 s20 s21 s22 s23 s24 s25 s26 s27 s28 s29 s30 s31 s32 s33 s34 s35 s36 s37 s38 s39 s40 s41 s42 s43 s44 s45 s46 s50 s51 s52 s53 s54 s55 s56 s57 s58 s59 s60 s61 s62 s63 s64 s65 s66 s67 s68 s69 s70 s71 s72 s73 s74 s75 s76 _ _ _ _ h; simp at h
  | cons d r ih =>
    intro i n s0 s1 s2 s3 s4 s7 s8 s9 s10 s11 s12 s13 s14 s15 s16 s17 s18 s19 s20 s21 s22 s23 s24 s25 s26 s27 s28 s29 s30 s31 s32 s33 s34 s35 s36 s37 s38 s39 s40 s41 s42 s43 s44 s45 s46 s50 s51 s52 s53 s54 s55 s56 s57 s58 s59 s60 s61 s62 s63 s64 s65 s66 s67 s68 s69 s70 s71 s72 s73 s74 s75 s76 hdr hi hn1 hn2 hw
    have hb : l[i]? = some d := by rw [← List.head?_drop, hdr]; rfl
    have hlt : i < l.length := (List.getElem?_eq_some_iff.1 hb).1
    obtain ⟨q, hp1, hp2⟩ := ha.load1 (P := Tryz.prog) (T := 55) (te := 5) (i := i) (x := byt d) (by simp) (by simp) (by simp) (by rw [List.getElem?_map, hb]; rfl)
    rw [List.length_cons, L153x0q]
    rcases hd d (List.mem_of_getElem? hb) with hdd | rfl
    · have hall : r.all isDig = false := by simpa [hdd] using hw
      simp only [isDig, Bool.and_eq_true, decide_eq_true_eq] at hdd
      have w1 : IntKind.u8.wrap ((d.toNat : Int) - 48) = (d.toNat : Int) - 48 := wrap_u8 (by omega) (by omega)
      have w2 : IntKind.i64.wrap ((d.toNat : Int) - 48) = (d.toNat : Int) - 48 := wrap_i64 (by omega) (by omega)
      have hp : (10 : Int) ^ (i + 1) ≤ 10 ^ 18 := by exact_mod_cast Nat.pow_le_pow_right (by omega : 0 < 10) (by omega : i + 1 ≤ 18)
      have hpe : (10 : Int) ^ (i + 1) = 10 ^ i * 10 := Int.pow_succ ..
      have w3 : IntKind.i64.wrap (n * 10) = n * 10 := wrap_i64 (by omega) (by omega)
      have w4 : IntKind.i64.wrap (n * 10 + ((d.toNat : Int) - 48)) = n * 10 + ((d.toNat : Int) - 48) := wrap_i64 (by omega) (by omega)
      have h9 : ¬ (9 < (d.toNat : Int) - 48) := by omega
      simp [hlt, hp1, hp2, w1, w2, w3, w4, h9, convV_int, show i + 1 < 2 ^ 63 by omega]
      exact ih (i + 1) _ _ _ _ _ _ _ _ _ _ _ _ _ _ _ _ _ _ _ _ _ _ _ _ _ _ _ _ _ _ _ _ _ _ _ _ _ _ _ _ _ _ _ _ _ _ _ _ _ _ _ _ _ _ _ _ _ _ _ _ _ _ _ _ _ _ _ _ _ _ _ _ _ (by rw [← List.drop_drop, hdr]; rfl) hlt (by omega) (by omega) hall
    · have hp2' : aLoad Tryz.prog H 5 q = some (.int .u8 46) := hp2
      have w1 : IntKind.u8.wrap (46 - 48) = 254 := by decide
      simp [hlt, hp1, hp2']
      exact hk
theorem natF_lt : ∀ (l : List UInt8) (n : Int), 0 ≤ n → l.all isDig = true → natF n l < (n + 1) * 10 ^ l.length := by
  intro l
  induction l with
  | nil => intro n h _; simp [natF]; omega
  | cons d r ih =>
    intro n h hd
    simp only [List.all_cons, Bool.and_eq_true] at hd
    have hdd := hd.1
    simp only [isDig, Bool.and_eq_true, decide_eq_true_eq] at hdd
    have h1 := ih (10 * n + ((d.toNat : Int) - 48)) (by omega) hd.2
    simp only [natF, List.length_cons, Int.pow_succ]
    have h2 : (10 * n + ((d.toNat : Int) - 48) + 1) * 10 ^ r.length ≤ ((n + 1) * 10) * 10 ^ r.length := Int.mul_le_mul_of_nonneg_right (by omega) (Int.le_of_lt (Int.pow_pos (by omega)))
    have e : (n + 1) * (10 ^ r.length * 10) = ((n + 1) * 10) * 10 ^ r.length := by rw [Int.mul_assoc, Int.mul_comm (10 ^ r.length) 10]
    omega
theorem c_atoi0bad {H : AHeap} {l : List UInt8} {b0 : UInt8} (hb0 : l[0]? = some b0) (hdd0 : isDig b0 = true) (hl : l.length ≤ 18) (hd : ∀ b ∈ l, isDig b = true ∨ b = 46) (hbad : l.all isDig = false) : ACalls Tryz.prog 153 [str l] H (.tuple #[i64 0, nerr 2]) H := by
  refine acallsT_pure MixT Tryz.func153 (by decide) rfl ?_
  rw [d153]
  have hix := aIndex_at (P := Tryz.prog) (T := 9) (k := .i64) (i := 0) (by simp) hb0
  have hdd := hdd0
  simp only [isDig, Bool.and_eq_true, decide_eq_true_eq] at hdd
  have h45 : ((b0.toNat : Int) == 45) = false := by simp; omega
  have h43 : ((b0.toNat : Int) == 43) = false := by simp; omega
  have hlt := (List.getElem?_eq_some_iff.1 hb0).1
  have q2 : (l.length : Int) < 19 := by omega
  have q3 : 0 < l.length := by omega
  simp at hix
  simp [q2, q3, hix, h45, h43]
  rw [S153x0q]
  have hcv : aConv Tryz.prog H 9 55 (str l) = some (.slice (some ⟨H.length, 0, some l.length⟩) l.length l.length, H ++ [.ro (bytesL ⟨l.toArray⟩)]) := by
    have hu : isU8 Tryz.prog 5 = true := by kernel_rfl
    simp [aConv, hu]
  simp [hcv]
  exact ⟨l.length + 1, atoi_loop2 (arr_bytes l) hl hd ⟨rfl, [_], rfl⟩ l 0 0 _ _ _ _ _ _ _ _ _ _ _ _ _ _ _ _ _ _ _ _ _ _ _ _ _ _ _ _ _ _ _ _ _ _ _ _ _ _ _ _ _ _ _ _ _ _ _ _ _ _ _ _ _ _ _ _ _ _ _ _ _ _ _ _ _ _ _ _ _ _ _ _ rfl (by omega) (by omega) (by omega) hbad⟩
theorem c_atoiG {H : AHeap} (hg : Pre Gs H) {l : List UInt8} (hl : l.length < 2 ^ 40) (h0 : ∀ b r, l = b :: r → isDig b = true) (hd : ∀ b ∈ l, isDig b = true ∨ b = 46) :
    ∃ x e K', ((∃ n, atoF l = some n ∧ x = n ∧ e = .nilIface) ∨ (atoF l = none ∧ ∃ t p, e = .iface t (.pointer (some p)))) ∧ Pre H K' ∧ ACalls Tryz.prog 129 [str l] H (.tuple #[i64 x, e]) K' := by
  have hu := tu118
  have key : ∀ {x : Int} {c : Int}, ACalls Tryz.prog 153 [str l] H (.tuple #[i64 x, perr c]) H → ((∃ n, atoF l = some n ∧ x = n ∧ c = 0) ∨ (atoF l = none ∧ (c = 1 ∨ c = 2))) →
      ∃ x e K', ((∃ n, atoF l = some n ∧ x = n ∧ e = .nilIface) ∨ (atoF l = none ∧ ∃ t p, e = .iface t (.pointer (some p)))) ∧ Pre H K' ∧ ACalls Tryz.prog 129 [str l] H (.tuple #[i64 x, e]) K' := by
    intro x c hcall hcase
    rcases hcase with ⟨n, h1, rfl, rfl⟩ | ⟨h1, h2⟩
    · refine ⟨x, .nilIface, H, .inl ⟨_, h1, rfl, rfl⟩, .refl _, ?_⟩
      refine acallsT_pure MixT Tryz.func129 (by decide) rfl ?_
      rw [d129]
      refine bndC_of hcall ?_
      simp [perr, aBin_nilifn hu]
    · obtain ⟨v, K', ⟨p, rfl⟩, h4, h5⟩ := c_toError (f := [65, 116, 111, 105]) (n := c) (a := 0) (b := 0) hg h2 hl
      refine ⟨x, .iface 208 (.pointer (some p)), K', .inr ⟨h1, _, _, rfl⟩, h4, ?_⟩
      refine acalls_of MixT Tryz.func129 (by decide) ?_
      rw [d129]
      refine bndC_of hcall ?_
      have hc0 : c ≠ 0 := by omega
      simp [perr, hc0, nerr_nil]
      exact bndC_of h5 ⟨rfl, rfl⟩
  by_cases hs : l = [] ∨ 19 ≤ l.length
  · rcases hs with rfl | hs
    · exact key (c := 2) (atoi_slow hl (.inl rfl) rfl (c_parseInt0 H)) (.inr ⟨by simp [atoF], .inr rfl⟩)
    · obtain ⟨d0, r, hlr⟩ := List.exists_cons_of_length_pos (show 0 < l.length by omega)
      refine key (atoi_slow hl (.inr hs) (perr_clos _) (c_parseInt hl hlr (h0 _ _ hlr) hd)) ?_
      rcases piF_ato (l := l) (by rw [hlr]; simp) with ⟨n, h1, h2⟩ | ⟨h1, h2⟩
      · exact .inl ⟨n, h1, by rw [h2], by rw [h2]⟩
      · exact .inr ⟨h1, h2⟩
  · simp only [not_or] at hs
    have h18 : l.length ≤ 18 := by omega
    have h1 : 1 ≤ l.length := List.length_pos_iff.2 hs.1
    by_cases hall : l.all isDig = true
    · have hall' : ∀ b ∈ l, isDig b = true := by simpa using hall
      have h2 := natF_lt l 0 (by omega) hall
      have h3 : (10 : Int) ^ l.length ≤ 10 ^ 18 := by exact_mod_cast Nat.pow_le_pow_right (by omega : 0 < 10) h18
      refine key (x := natF 0 l) (c := 0) (by simpa [perr] using c_atoi0 (H := H) h18 h1 hall') (.inl ⟨natF 0 l, ?_, rfl, rfl⟩)
      unfold atoF
      rw [if_pos ⟨hs.1, hall, by omega⟩]
    · have hbad : l.all isDig = false := by simpa using hall
      obtain ⟨d0, r, hlr⟩ := List.exists_cons_of_length_pos (show 0 < l.length by omega)
      have hb0 : l[0]? = some d0 := by rw [hlr]; rfl
      have hd0 : isDig d0 = true := h0 _ _ hlr
      refine key (x := 0) (c := 2) (by simpa [perr] using c_atoi0bad hb0 hd0 h18 hd hbad) (.inr ⟨?_, .inr rfl⟩)
      simp [atoF, hbad]
end Go.Vi
namespace Go.Vi
open Go Go.RowKit Go.ChangeShapes Go.WideShapes Go.Proofs
variable {P : Program}

theorem WRel.pushGl {w0 s H w} (h : WRel w0 s H w) (hn : NoOwn H) (cs : List Value) (g : Nat) (ho : One cs) (hg : g < w.heap.size)
    (hv : ∀ (i : Nat) v, cs[i]? = some v → ∃ v', w.cell? ⟨g, i, none⟩ = some v' ∧ VRel s H v v') :
    WRel w0 (upd s H.length ⟨g, 0, 0⟩) (H ++ [.gl g cs]) w ∧ NoOwn (H ++ [.gl g cs]) := by
  have e := Ext.push s H (.gl g cs) ⟨g, 0, 0⟩
  have hno : NoOwn (H ++ [.gl g cs]) := by
    intro b o hb
    rcases getElem_append_old hb with ⟨_, h1⟩ | ⟨_, rfl⟩
    · exact hn b o h1
    · rfl
  refine ⟨⟨⟨fun b x hx => ?_, fun b b' o o' hb hb' _ ho1 _ => ?_⟩, h.b, h.o.push _ (by rintro _ ⟨rfl⟩; exact ho)⟩, hno⟩
  · rcases getElem_append_old hx with ⟨hb, hx'⟩ | ⟨rfl, rfl⟩
    · exact (h.h.obj b x hx').keep e (fun _ => upd_ne _ _ (by omega)) (fun _ _ => rfl)
    · refine ⟨by rw [upd_self], by rw [upd_self], hg, fun i v hi => ?_⟩
      obtain ⟨v', h1, h2⟩ := hv i v hi
      exact ⟨v', h1, h2.mono e⟩
  · rw [hno b o hb] at ho1; cases ho1
theorem var_cell {w : World} {n : String} {g : Nat} {cs : Array Value} (hg : P.globalNamed n = some g) (h : w.var? P n = some cs) : ∀ (i : Nat) v, cs[i]? = some v → g < w.heap.size ∧ w.cell? ⟨g, i, none⟩ = some v := by
  intro i v hi
  unfold World.var? at h
  rw [hg] at h
  simp only [Option.bind_some] at h
  split at h
  · rename_i q
    cases h
    refine ⟨(Array.getElem?_eq_some_iff.1 q).1, ?_⟩
    unfold World.cell?
    simp [q, hi]
  · cases h
theorem trod_if {D : Type} {enc : TypeId × Value → D} {w : World} {sp : Nat → Bool} {held : Bool} {base fuel : Nat} {t : TypeId} {cs : List Value} {x} {ms} (ht : P.underlying t = some (.interface ms)) (h : DataW.trod enc P w base sp held fuel t cs = some x) : ∃ v, cs = [v] ∧ v.oneCell' = true := by
  cases fuel with
  | zero => simp [DataW.trod] at h
  | succ n =>
    unfold DataW.trod at h
    rw [ht] at h
    split at h
    all_goals first
      | exact ⟨_, rfl, rfl⟩
      | (exfalso; simp_all; done)
      | simp_all
theorem laid_find {w : World} {n : String} {d : DataW Unit} : ∀ {l : List (String × DataW Unit)} {ps}, DataW.LaidVars P w l ps → (n, d) ∈ l → ∃ g t cs fuel p, P.globalNamed n = some g ∧ (P.globals[g]?).map (·.type) = some t ∧ w.var? P n = some cs ∧ DataW.trod (fun _ => ()) P w 0 (fun _ => true) false fuel t cs.toList = some (d, p) := by
  intro l
  induction l with
  | nil => intro ps _ h; simp at h
  | cons x r ih =>
    intro ps h hm
    obtain ⟨m, e⟩ := x
    obtain ⟨g, t, cs, fuel, p, q, h1, h2, h3, h4, h5, _⟩ := h
    rcases List.mem_cons.1 hm with hx | hm
    · cases hx
      exact ⟨g, t, cs, fuel, p, h1, h2, h3, h4⟩
    · exact ih h5 hm
theorem start_gs {w : World} {l : List (String × DataW Unit)} (h : laidMetH Tryz.prog l w) (h1 : ∃ d, ("strconv.ErrSyntax", d) ∈ l.filter fun x => x.2.handleName?.isNone) (h2 : ∃ d, ("strconv.ErrRange", d) ∈ l.filter fun x => x.2.handleName?.isNone)
    (h3 : ("internal/strconv.uint64pow10", DataW.agg ((List.range 20).map fun i => .lit (.int .u64 (10 ^ i)))) ∈ l.filter fun x => x.2.handleName?.isNone) : ∃ s, Got Tryz.prog w (fun _ => ⟨0, 0, 0⟩) [] s Gs := by
  obtain ⟨ps, hl, _, _⟩ : laidMet Tryz.prog (l.filter fun x => x.2.handleName?.isNone) w := (laidMetH_iff.1 h).1
  obtain ⟨d1, m1⟩ := h1
  obtain ⟨d2, m2⟩ := h2
  obtain ⟨g1, t1, c1, f1, p1, a1, b1, v1, r1⟩ := laid_find hl m1
  obtain ⟨g2, t2, c2, f2, p2, a2, b2, v2, r2⟩ := laid_find hl m2
  obtain ⟨g3, t3, c3, f3, p3, a3, b3, v3, r3⟩ := laid_find hl h3
  obtain rfl : 2 = g1 := Option.some.inj ((show Tryz.prog.globalNamed "strconv.ErrSyntax" = some 2 by kernel_rfl).symm.trans a1)
  obtain rfl : 3 = g2 := Option.some.inj ((show Tryz.prog.globalNamed "strconv.ErrRange" = some 3 by kernel_rfl).symm.trans a2)
  obtain rfl : 1 = g3 := Option.some.inj ((show Tryz.prog.globalNamed "internal/strconv.uint64pow10" = some 1 by kernel_rfl).symm.trans a3)
  obtain rfl : 118 = t1 := Option.some.inj ((show (Tryz.prog.globals[2]?).map (·.type) = some 118 by kernel_rfl).symm.trans b1)
  obtain rfl : 118 = t2 := Option.some.inj ((show (Tryz.prog.globals[3]?).map (·.type) = some 118 by kernel_rfl).symm.trans b2)
  obtain rfl : 200 = t3 := Option.some.inj ((show (Tryz.prog.globals[1]?).map (·.type) = some 200 by kernel_rfl).symm.trans b3)
  obtain ⟨x1, e1, o1⟩ := trod_if Tryz.underlying118 r1
  obtain ⟨x2, e2, o2⟩ := trod_if Tryz.underlying118 r2
  obtain ⟨xs, m, _, q1, q2, q3, q4⟩ := DataW.trod_array Tryz.underlying200 r3
  have hc1 := var_cell a1 v1 0 x1 (by rw [← Array.getElem?_toList, e1]; rfl)
  have hc2 := var_cell a2 v2 0 x2 (by rw [← Array.getElem?_toList, e2]; rfl)
  have k3 : ∀ i : Nat, i < 20 → c3[i]? = some (.int .u64 (10 ^ i)) := by
    intro i hi
    have h4 := q4 i hi
    rw [show Tryz.prog.cellsOf 178 = 1 by kernel_rfl, Nat.mul_one] at h4
    rw [List.getElem?_eq_getElem (by omega)] at h4
    obtain ⟨n, z1, z2, _⟩ := DataW.trod_int Tryz.underlying178 h4
    have hq : (List.range 20).map (fun i => (DataW.lit (.int .u64 (10 ^ i)) : DataW Unit)) = xs.map (·.1) := by
      have := congrArg Prod.fst q1
      simpa using this
    have hqi := congrArg (fun l => l[i]?) hq
    simp only [List.getElem?_map, List.getElem?_eq_getElem (show i < xs.length by omega), List.getElem?_range hi, Option.map_some, z2] at hqi
    injection hqi with e
    injection e with e
    injection e with _ e
    rw [← e] at z1
    have : (List.take 1 (List.drop i c3.toList))[0]? = some (Value.int .u64 (10 ^ i)) := by rw [z1]; rfl
    rw [List.getElem?_take_of_lt (by omega), List.getElem?_drop, Nat.add_zero] at this
    rw [← Array.getElem?_toList]
    exact this
  have W0 : WRel w (fun _ => ⟨0, 0, 0⟩) [] w := WRel.refl w _
  obtain ⟨W1, N1⟩ := W0.pushGl NoOwn.nil [unkV] 2 (fun v hv => by simp at hv; subst hv; rfl) hc1.1 (fun i v hi => by
    cases i with
    | zero => simp at hi; subst hi; exact ⟨x1, hc1.2, .unk _ o1⟩
    | succ i => simp at hi)
  obtain ⟨W2, N2⟩ := W1.pushGl N1 [unkV] 3 (fun v hv => by simp at hv; subst hv; rfl) hc2.1 (fun i v hi => by
    cases i with
    | zero => simp at hi; subst hi; exact ⟨x2, hc2.2, .unk _ o2⟩
    | succ i => simp at hi)
  have hc3 := fun (i : Nat) (hi : i < 20) => var_cell a3 v3 i _ (k3 i hi)
  obtain ⟨W3, N3⟩ := W2.pushGl N2 pow10s 1 (fun v hv => by
    simp only [pow10s, List.mem_map] at hv
    obtain ⟨i, _, rfl⟩ := hv
    rfl) (hc3 0 (by omega)).1 (fun i v hi => by
    simp only [pow10s, List.getElem?_map, Option.map_eq_some_iff] at hi
    obtain ⟨j, hj, rfl⟩ := hi
    have hij := List.getElem?_eq_some_iff.1 hj
    obtain ⟨hlt, rfl⟩ := hij
    simp only [List.length_range] at hlt
    simp only [List.getElem_range]
    exact ⟨_, (hc3 i hlt).2, .lit _ rfl⟩)
  exact ⟨_, W3, N3, ((Ext.push _ _ _ _).trans (Ext.push _ _ _ _)).trans (Ext.push _ _ _ _), ⟨Gs, rfl⟩⟩
theorem open_str {D : Type} {enc : TypeId × Value → D} {P : Program} {w : World} {base : Nat} {sp : Nat → Bool} {held : Bool} {r : Go.Reach} {b0 : Nat} {t : TypeId} {v : Value} {d : DataW D} {ps : List MemPlace} (ht : P.underlying t = some .string) (hval : Value.okWide P w r b0 t v) (hd : DataW.Trod enc P w base sp held t v d ps) :
    ∃ l : List UInt8, v = str l ∧ d = .lit (.string l) ∧ ps = [] ∧ l.length ≤ maxLen := by
  obtain ⟨⟨⟨l⟩⟩, rfl, h2, h3, h4⟩ := Go.ChangeMaps.open_string ht hval hd
  exact ⟨l, rfl, h2, h3, h4⟩
end Go.Vi
namespace Go.Vi
open Go Go.Proofs

abbrev u64 (n : Int) : Value := .int .u64 n
end Go.Vi
namespace Go.Vi
open Go Go.Proofs
-- (*tocsin/expr.reader).condition$1
def S67x0 (k : Value → AHeap → Prop) (sl : List Value) (H : AHeap) : Prop := kseqG Tryz.prog (drawKeep Tryz.prog) (cr (cr (cr (cb Tryz.f67)))) (kfinG Tryz.prog Tryz.f67 k) .normal sl H []
def L67x0 (n : Nat) (k : Value → AHeap → Prop) (sl : List Value) (H : AHeap) : Prop := kitG Tryz.prog (drawKeep Tryz.prog) (cl (cl (cr (cr (cr (cr (cb Tryz.f67))))))) n (kblkG 1 (kfinG Tryz.prog Tryz.f67 k)) .normal sl H []
theorem d67 (a0 a1 a2 a3 : Value) (H : AHeap) (k : Value → AHeap → Prop) : kbodyG Tryz.prog (drawKeep Tryz.prog) Tryz.f67 [a0, a1, a2, a3] H k = (@bnd (aBin2 Tryz.prog H .eql 3 (.tmp 8) (.const (.int .i64 2)) a0 (.int .i64 2))
  ⟨fun v9x1 => @kifB v9x1 ⟨@bnd (aLoad Tryz.prog H 79 a1) ⟨fun v16x2 => @bndC Tryz.prog 68 [v16x2, (.int .u8 1), (.string { data := #[110, 111, 116] })] H ⟨fun v17x3 H4 => @kifB v17x3 ⟨@bnd (aLoad Tryz.prog H4 107 a2) ⟨fun v18x5
  => @bndV Tryz.prog v18x5 [(.int .i64 2)] H4 ⟨fun _ H7 => @bnd (aLoad Tryz.prog H7 27 a3) ⟨fun v20x8 => @bnd (aLoad Tryz.prog H7 27 a3) ⟨fun v21x9 => @bnd (aLen Tryz.prog H7 27 v21x9) ⟨fun v22x10 => @bnd (aBin2 Tryz.prog H7 .sub
  3 (.tmp 22) (.const (.int .i64 1)) v22x10 (.int .i64 1)) ⟨fun v23x11 => @bnd (buildV Tryz.prog 37 [(0, (.int .u8 3)), (6, v23x11)]) ⟨fun v24x12 => @bndL Tryz.prog H7 27 1 [(0, v24x12)] ⟨fun v25x13 H14 => @bndE (aBuiltin
  Tryz.prog H14 Builtin.append #[27, 27] [v20x8, v25x13]) ⟨fun v26x15 H16 => @bndS (aStore Tryz.prog H16 27 a3 v26x15) ⟨fun _ H18 => k (.tuple #[]) H18⟩⟩⟩⟩⟩⟩⟩⟩⟩⟩⟩ ⟨@bnd (aLoad Tryz.prog H4 79 a1) ⟨fun v28x19 => @bndC Tryz.prog 68
  [v28x19, (.int .u8 4), (.string { data := #[40] })] H4 ⟨fun v29x20 H21 => @kifB v29x20 ⟨@bnd (aLoad Tryz.prog H21 107 a2) ⟨fun v30x22 => @bndV Tryz.prog v30x22 [(.int .i64 0)] H21 ⟨fun _ H24 => @bnd (aLoad Tryz.prog H24 79 a1)
  ⟨fun v32x25 => @bndC Tryz.prog 69 [v32x25, (.string { data := #[41] })] H24 ⟨fun _ H27 => k (.tuple #[]) H27⟩⟩⟩⟩⟩ ⟨@bnd (aLoad Tryz.prog H21 27 a3) ⟨fun v10x28 => @bnd (aLoad Tryz.prog H21 79 a1) ⟨fun v11x29 => @bndK false true
  H21 ⟨fun v12x30 H31 => ACalls Tryz.prog 70 [v11x29] H21 v12x30 H31⟩ ⟨fun _ H31 => aLoad Tryz.prog H31 27 a3 = some v10x28 ∧ True⟩ ⟨fun v12x30 H31 => @bndK false true H31 ⟨fun v13x32 H33 => sliceLit Tryz.prog H31 27 1 [(0,
  v12x30)] v13x32 H33⟩ ⟨fun _ H33 => aLoad Tryz.prog H33 27 a3 = some v10x28 ∧ True⟩ ⟨fun v13x32 H33 => @bndK true true H33 ⟨fun v14x34 H35 => aBuiltin Tryz.prog H33 Builtin.append #[27, 27] [v10x28, v13x32] = some (v14x34, H35)⟩
  ⟨fun _ _ => True⟩ ⟨fun v14x34 H35 => @bndK true true H35 ⟨fun x36 H37 => x36 = undef ∧ aStore Tryz.prog H35 27 a3 v14x34 = some H37⟩ ⟨fun _ _ => True⟩ ⟨fun _ H37 => k (.tuple #[]) H37⟩⟩⟩⟩⟩⟩⟩⟩⟩⟩⟩⟩⟩ ⟨@bnd (aBin2 Tryz.prog H .eql
  3 (.tmp 34) (.const (.int .i64 1)) a0 (.int .i64 1)) ⟨fun v35x38 => @kifB v35x38 ⟨S67x0  k [a0, a1, a2, a3, undef, (.string { data := #[97, 110, 100] }), (.int .u8 1), undef, a0, v9x1, undef, undef, undef, undef, undef, undef,
  undef, undef, undef, undef, undef, undef, undef, undef, undef, undef, undef, undef, undef, undef, undef, undef, undef, undef, a0, v35x38, undef, undef, undef, undef, undef, undef, undef, undef, undef, undef, undef, undef,
  undef, undef, undef, undef, undef, undef, undef, undef, undef, undef, undef] H⟩ ⟨S67x0  k [a0, a1, a2, a3, undef, (.string { data := #[111, 114] }), (.int .u8 2), undef, a0, v9x1, undef, undef, undef, undef, undef, undef,
  undef, undef, undef, undef, undef, undef, undef, undef, undef, undef, undef, undef, undef, undef, undef, undef, undef, undef, a0, v35x38, undef, undef, undef, undef, undef, undef, undef, undef, undef, undef, undef, undef,
  undef, undef, undef, undef, undef, undef, undef, undef, undef, undef, undef] H⟩⟩⟩⟩) := by kernel_rfl
theorem S67x0q (s0 s1 s2 s3 s4 s5 s6 s7 s8 s9 s10 s11 s12 s13 s14 s15 s16 s17 s18 s19 s20 s21 s22 s23 s24 s25 s26 s27 s28 s29 s30 s31 s32 s33 s34 s35 s36 s37 s38 s39 s40 s41 s42 s43 s44 s45 s46 s47 s48 s49 s50 s51 s52 s53 s54 s55
  s56 s57 s58 : Value) (H : AHeap) (k : Value → AHeap → Prop) : S67x0 k [s0, s1, s2, s3, s4, s5, s6, s7, s8, s9, s10, s11, s12, s13, s14, s15, s16, s17, s18, s19, s20, s21, s22, s23, s24, s25, s26, s27, s28, s29, s30, s31, s32,
  s33, s34, s35, s36, s37, s38, s39, s40, s41, s42, s43, s44, s45, s46, s47, s48, s49, s50, s51, s52, s53, s54, s55, s56, s57, s58] H = (@bnd (aLoad Tryz.prog H 107 s2) ⟨fun v36x39 => @bnd (aBin2 Tryz.prog H .add 3 (.tmp 37)
  (.const (.int .i64 1)) s0 (.int .i64 1)) ⟨fun v38x40 => @bndV Tryz.prog v36x39 [v38x40] H ⟨fun v39x41 H42 => ∃ n, L67x0 n  k [s0, s1, s2, s3, s4, s5, s6, s7, s8, s9, s10, s11, s12, s13, s14, s15, s16, s17, s18, s19, s20, s21,
  s22, s23, s24, s25, s26, s27, s28, s29, s30, s31, s32, s33, s34, s35, v36x39, s0, v38x40, v39x41, s40, s41, s42, s43, s44, s45, s46, s47, s48, s49, s50, s51, s52, s53, s54, s55, s56, s57, s58] H42⟩⟩⟩) := by kernel_rfl
theorem L67x0q (n0 : Nat) (s0 s1 s2 s3 s4 s5 s6 s7 s8 s9 s10 s11 s12 s13 s14 s15 s16 s17 s18 s19 s20 s21 s22 s23 s24 s25 s26 s27 s28 s29 s30 s31 s32 s33 s34 s35 s36 s37 s38 s39 s40 s41 s42 s43 s44 s45 s46 s47 s48 s49 s50 s51 s52
  s53 s54 s55 s56 s57 s58 : Value) (H : AHeap) (k : Value → AHeap → Prop) : L67x0 (n0 + 1) k [s0, s1, s2, s3, s4, s5, s6, s7, s8, s9, s10, s11, s12, s13, s14, s15, s16, s17, s18, s19, s20, s21, s22, s23, s24, s25, s26, s27, s28,
  s29, s30, s31, s32, s33, s34, s35, s36, s37, s38, s39, s40, s41, s42, s43, s44, s45, s46, s47, s48, s49, s50, s51, s52, s53, s54, s55, s56, s57, s58] H = (@bnd (aLoad Tryz.prog H 79 s1) ⟨fun v40x43 => @bndC Tryz.prog 68
  [v40x43, (.int .u8 1), s5] H ⟨fun v42x44 H45 => @kifB v42x44 ⟨@bnd (aLoad Tryz.prog H45 27 s3) ⟨fun v43x46 => @bnd (aLen Tryz.prog H45 27 v43x46) ⟨fun v44x47 => @bnd (aBin2 Tryz.prog H45 .sub 3 (.tmp 44) (.const (.int .i64 1))
  v44x47 (.int .i64 1)) ⟨fun v45x48 => @bnd (aLoad Tryz.prog H45 107 s2) ⟨fun v46x49 => @bnd (aBin2 Tryz.prog H45 .add 3 (.tmp 47) (.const (.int .i64 1)) s0 (.int .i64 1)) ⟨fun v48x50 => @bndV Tryz.prog v46x49 [v48x50] H45 ⟨fun
  v49x51 H52 => @bnd (aLoad Tryz.prog H52 27 s3) ⟨fun v50x53 => @bnd (aLoad Tryz.prog H52 27 s3) ⟨fun v53x54 => @bnd (aLen Tryz.prog H52 27 v53x54) ⟨fun v54x55 => @bnd (aBin2 Tryz.prog H52 .sub 3 (.tmp 54) (.const (.int .i64 1))
  v54x55 (.int .i64 1)) ⟨fun v55x56 => @bnd (buildV Tryz.prog 37 [(0, s6), (6, v45x48), (7, v55x56)]) ⟨fun v56x57 => @bndL Tryz.prog H52 27 1 [(0, v56x57)] ⟨fun v57x58 H59 => @bndE (aBuiltin Tryz.prog H59 Builtin.append #[27, 27]
  [v50x53, v57x58]) ⟨fun v58x60 H61 => @bndS (aStore Tryz.prog H61 27 s3 v58x60) ⟨fun _ H63 => L67x0 n0  k [s0, s1, s2, s3, s4, s5, s6, v45x48, s8, s9, s10, s11, s12, s13, s14, s15, s16, s17, s18, s19, s20, s21, s22, s23, s24,
  s25, s26, s27, s28, s29, s30, s31, s32, s33, s34, s35, s36, s37, s38, s39, v40x43, s5, v42x44, v43x46, v44x47, v45x48, v46x49, s0, v48x50, v49x51, v50x53, s6, v45x48, v53x54, v54x55, v55x56, v56x57, v57x58, v58x60]
  H63⟩⟩⟩⟩⟩⟩⟩⟩⟩⟩⟩⟩⟩⟩⟩ ⟨k (.tuple #[]) H45⟩⟩⟩) := by kernel_rfl
-- internal/strconv.formatBase10
def L19x0 (n : Nat) (k : Value → AHeap → Prop) (sl : List Value) (H : AHeap) : Prop := kitG Tryz.prog (drawPairK Tryz.prog) (cl (cl (cr (cl (cr (cr (cb Tryz.f19))))))) n (kblkG 0 (kseqG Tryz.prog (drawPairK Tryz.prog) (cr (cr (cr
  (cb Tryz.f19)))) (kfinG Tryz.prog Tryz.f19 k))) .normal sl H []
theorem d19 (a0 a1 : Value) (H : AHeap) (k : Value → AHeap → Prop) : kbodyG Tryz.prog (drawPairK Tryz.prog) Tryz.f19 [a0, a1] H k = (@bnd (aLen Tryz.prog H 27 a0) ⟨fun v9x1 => @bnd (aLen Tryz.prog H 27 a1) ⟨fun v11x2 => @bnd
  (aBin2 Tryz.prog H .neq 3 (.tmp 9) (.tmp 11) v9x1 v11x2) ⟨fun v12x3 => @kifB v12x3 ⟨k (.bool false) H⟩ ⟨∃ n, L19x0 n  k [a0, a1, undef, undef, (.bool false), (.int .i64 0), undef, undef, a0, v9x1, a1, v11x2, v12x3, undef,
  undef, undef, undef, undef, undef, undef, undef, undef, undef, undef, undef, undef, undef, undef, undef, undef, undef, undef, undef, undef, undef, undef, undef, undef, undef, undef, undef, undef, undef, undef, undef, undef,
  undef, undef, undef, undef, undef, undef, undef, undef, undef, undef, undef, undef, undef, undef, undef, undef, undef, undef, undef, undef, undef, undef, undef, undef, undef, undef, undef, undef, undef, undef, undef, undef,
  undef, undef, undef, undef] H⟩⟩⟩⟩) := by kernel_rfl
theorem L19x0q (n0 : Nat) (s0 s1 s2 s3 s4 s5 s6 s7 s8 s9 s10 s11 s12 s13 s14 s15 s16 s17 s18 s19 s20 s21 s22 s23 s24 s25 s26 s27 s28 s29 s30 s31 s32 s33 s34 s35 s36 s37 s38 s39 s40 s41 s42 s43 s44 s45 s46 s47 s48 s49 s50 s51 s52
  s53 s54 s55 s56 s57 s58 s59 s60 s61 s62 s63 s64 s65 s66 s67 s68 s69 s70 s71 s72 s73 s74 s75 s76 s77 s78 s79 s80 s81 : Value) (H : AHeap) (k : Value → AHeap → Prop) : L19x0 (n0 + 1) k [s0, s1, s2, s3, s4, s5, s6, s7, s8, s9,
  s10, s11, s12, s13, s14, s15, s16, s17, s18, s19, s20, s21, s22, s23, s24, s25, s26, s27, s28, s29, s30, s31, s32, s33, s34, s35, s36, s37, s38, s39, s40, s41, s42, s43, s44, s45, s46, s47, s48, s49, s50, s51, s52, s53, s54,
  s55, s56, s57, s58, s59, s60, s61, s62, s63, s64, s65, s66, s67, s68, s69, s70, s71, s72, s73, s74, s75, s76, s77, s78, s79, s80, s81] H = (@bnd (aLen Tryz.prog H 27 s0) ⟨fun v15x4 => @bnd (aBin2 Tryz.prog H .lss 3 (.tmp 13)
  (.tmp 15) s5 v15x4) ⟨fun v16x5 => @kifB v16x5 ⟨(@bnd ((some s0)) ⟨fun v19x6 => @bnd ((some s5)) ⟨fun v20x7 => @bnd (aIndexAddr Tryz.prog H 27 v19x6 v20x7) ⟨fun v21x8 => @bnd (aLoad Tryz.prog H 37 v21x8) ⟨fun v22x9 => @bnd
  ((some s1)) ⟨fun v23x10 => @bnd ((some s5)) ⟨fun v24x11 => @bnd (aIndexAddr Tryz.prog H 27 v23x10 v24x11) ⟨fun v25x12 => @bnd (aLoad Tryz.prog H 37 v25x12) ⟨fun v26x13 => @bndK false true H ⟨fun v6x14 H15 => aAlloc Tryz.prog H
  37 = some (v6x14, H15)⟩ ⟨fun _ H15 => aLoad Tryz.prog H15 37 v25x12 = some v26x13 ∧ aIndexAddr Tryz.prog H15 27 v23x10 v24x11 = some v25x12 ∧ aLoad Tryz.prog H15 37 v21x8 = some v22x9 ∧ aIndexAddr Tryz.prog H15 27 v19x6 v20x7 =
  some v21x8 ∧ True⟩ ⟨fun v6x14 H15 => @bndK false true H15 ⟨fun v7x16 H17 => aAlloc Tryz.prog H15 37 = some (v7x16, H17)⟩ ⟨fun _ H17 => aLoad Tryz.prog H17 37 v25x12 = some v26x13 ∧ aIndexAddr Tryz.prog H17 27 v23x10 v24x11 =
  some v25x12 ∧ aLoad Tryz.prog H17 37 v21x8 = some v22x9 ∧ aIndexAddr Tryz.prog H17 27 v19x6 v20x7 = some v21x8 ∧ True⟩ ⟨fun v7x16 H17 => @bndK false true H17 ⟨fun x18 H19 => x18 = undef ∧ aStore Tryz.prog H17 37 v6x14 v22x9 =
  some H19⟩ ⟨fun _ H19 => aLoad Tryz.prog H19 37 v25x12 = some v26x13 ∧ aIndexAddr Tryz.prog H19 27 v23x10 v24x11 = some v25x12 ∧ True⟩ ⟨fun _ H19 => @bndK true true H19 ⟨fun x20 H21 => x20 = undef ∧ aStore Tryz.prog H19 37 v7x16
  v26x13 = some H21⟩ ⟨fun _ _ => True⟩ ⟨fun _ H21 => @bnd (aFieldAddr Tryz.prog H21 37 v6x14 0) ⟨fun v27x22 => @bnd (aLoad Tryz.prog H21 5 v27x22) ⟨fun v28x23 => @bnd (aFieldAddr Tryz.prog H21 37 v7x16 0) ⟨fun v29x24 => @bnd
  (aLoad Tryz.prog H21 5 v29x24) ⟨fun v30x25 => @bnd (aBin2 Tryz.prog H21 .neq 5 (.tmp 28) (.tmp 30) v28x23 v30x25) ⟨fun v31x26 => @bnd (gif v31x26 false (aFieldAddr Tryz.prog H21 37 v6x14 1) undef) ⟨fun v33x27 => @bnd (gif
  v31x26 false (aLoad Tryz.prog H21 5 v33x27) undef) ⟨fun v34x28 => @bnd (gif v31x26 false (aFieldAddr Tryz.prog H21 37 v7x16 1) undef) ⟨fun v35x29 => @bnd (gif v31x26 false (aLoad Tryz.prog H21 5 v35x29) undef) ⟨fun v36x30 =>
  @bnd (gif v31x26 false (aBin2 Tryz.prog H21 .neq 5 (.tmp 34) (.tmp 36) v34x28 v36x30) undef) ⟨fun v37x31 => @bnd (pickV v31x26 (.bool true) v37x31) ⟨fun v38x32 => @bnd (gif v38x32 false (aFieldAddr Tryz.prog H21 37 v6x14 2)
  undef) ⟨fun v40x33 => @bnd (gif v38x32 false (aLoad Tryz.prog H21 35 v40x33) undef) ⟨fun v41x34 => @bnd (gif v38x32 false (aFieldAddr Tryz.prog H21 37 v7x16 2) undef) ⟨fun v42x35 => @bnd (gif v38x32 false (aLoad Tryz.prog H21
  35 v42x35) undef) ⟨fun v43x36 => @bndG v38x32 false H21 ⟨fun v44x37 H38 => ACalls Tryz.prog 41 [v41x34, v43x36] H21 v44x37 H38⟩ ⟨fun v44x37 H38 => @bnd (gif v38x32 false (unV Tryz.prog .not v44x37) undef) ⟨fun v45x39 => @bnd
  (pickV v38x32 (.bool true) v45x39) ⟨fun v46x40 => @bnd (gif v46x40 false (aFieldAddr Tryz.prog H38 37 v6x14 3) undef) ⟨fun v48x41 => @bnd (gif v46x40 false (aLoad Tryz.prog H38 3 v48x41) undef) ⟨fun v49x42 => @bnd (gif v46x40
  false (aFieldAddr Tryz.prog H38 37 v7x16 3) undef) ⟨fun v50x43 => @bnd (gif v46x40 false (aLoad Tryz.prog H38 3 v50x43) undef) ⟨fun v51x44 => @bnd (gif v46x40 false (aBin2 Tryz.prog H38 .neq 3 (.tmp 49) (.tmp 51) v49x42 v51x44)
  undef) ⟨fun v52x45 => @bnd (pickV v46x40 (.bool true) v52x45) ⟨fun v53x46 => @bnd (gif v53x46 false (aFieldAddr Tryz.prog H38 37 v6x14 4) undef) ⟨fun v55x47 => @bnd (gif v53x46 false (aLoad Tryz.prog H38 5 v55x47) undef) ⟨fun
  v56x48 => @bnd (gif v53x46 false (aFieldAddr Tryz.prog H38 37 v7x16 4) undef) ⟨fun v57x49 => @bnd (gif v53x46 false (aLoad Tryz.prog H38 5 v57x49) undef) ⟨fun v58x50 => @bnd (gif v53x46 false (aBin2 Tryz.prog H38 .neq 5 (.tmp
  56) (.tmp 58) v56x48 v58x50) undef) ⟨fun v59x51 => @bnd (pickV v53x46 (.bool true) v59x51) ⟨fun v60x52 => @bnd (gif v60x52 false (aFieldAddr Tryz.prog H38 37 v6x14 5) undef) ⟨fun v62x53 => @bnd (gif v60x52 false (aLoad
  Tryz.prog H38 2 v62x53) undef) ⟨fun v63x54 => @bnd (gif v60x52 false (aFieldAddr Tryz.prog H38 37 v7x16 5) undef) ⟨fun v64x55 => @bnd (gif v60x52 false (aLoad Tryz.prog H38 2 v64x55) undef) ⟨fun v65x56 => @bnd (gif v60x52 false
  (aBin2 Tryz.prog H38 .neq 2 (.tmp 63) (.tmp 65) v63x54 v65x56) undef) ⟨fun v66x57 => @bnd (pickV v60x52 (.bool true) v66x57) ⟨fun v67x58 => @bnd (gif v67x58 false (aFieldAddr Tryz.prog H38 37 v6x14 6) undef) ⟨fun v69x59 => @bnd
  (gif v67x58 false (aLoad Tryz.prog H38 3 v69x59) undef) ⟨fun v70x60 => @bnd (gif v67x58 false (aFieldAddr Tryz.prog H38 37 v7x16 6) undef) ⟨fun v71x61 => @bnd (gif v67x58 false (aLoad Tryz.prog H38 3 v71x61) undef) ⟨fun v72x62
  => @bnd (gif v67x58 false (aBin2 Tryz.prog H38 .neq 3 (.tmp 70) (.tmp 72) v70x60 v72x62) undef) ⟨fun v73x63 => @bnd (pickV v67x58 (.bool true) v73x63) ⟨fun v74x64 => @bnd (gif v74x64 false (aFieldAddr Tryz.prog H38 37 v6x14 7)
  undef) ⟨fun v76x65 => @bnd (gif v74x64 false (aLoad Tryz.prog H38 3 v76x65) undef) ⟨fun v77x66 => @bnd (gif v74x64 false (aFieldAddr Tryz.prog H38 37 v7x16 7) undef) ⟨fun v78x67 => @bnd (gif v74x64 false (aLoad Tryz.prog H38 3
  v78x67) undef) ⟨fun v79x68 => @bnd (gif v74x64 false (aBin2 Tryz.prog H38 .neq 3 (.tmp 77) (.tmp 79) v77x66 v79x68) undef) ⟨fun v80x69 => @bnd (pickV v74x64 (.bool true) v80x69) ⟨fun v81x70 => @kifB v81x70 ⟨k (.bool false) H38⟩
  ⟨@bnd (aBin2 Tryz.prog H38 .add 3 (.tmp 17) (.const (.int .i64 1)) s5 (.int .i64 1)) ⟨fun v18x71 => L19x0 n0  k [s0, s1, s2, s3, s4, v18x71, v6x14, v7x16, s8, s9, s10, s11, s12, s5, s0, v15x4, v16x5, s5, v18x71, v19x6, v20x7,
  v21x8, v22x9, v23x10, v24x11, v25x12, v26x13, v27x22, v28x23, v29x24, v30x25, v31x26, v31x26, v33x27, v34x28, v35x29, v36x30, v37x31, v38x32, v38x32, v40x33, v41x34, v42x35, v43x36, v44x37, v45x39, v46x40, v46x40, v48x41,
  v49x42, v50x43, v51x44, v52x45, v53x46, v53x46, v55x47, v56x48, v57x49, v58x50, v59x51, v60x52, v60x52, v62x53, v63x54, v64x55, v65x56, v66x57, v67x58, v67x58, v69x59, v70x60, v71x61, v72x62, v73x63, v74x64, v74x64, v76x65,
  v77x66, v78x67, v79x68, v80x69, v81x70] H38⟩⟩⟩⟩⟩⟩⟩⟩⟩⟩⟩⟩⟩⟩⟩⟩⟩⟩⟩⟩⟩⟩⟩⟩⟩⟩⟩⟩⟩⟩⟩⟩⟩⟩⟩⟩⟩⟩⟩⟩⟩⟩⟩⟩⟩⟩⟩⟩⟩⟩⟩⟩⟩⟩⟩⟩⟩⟩⟩⟩⟩⟩ ∧ @bnd ((some s0)) ⟨fun v19x72 => @bnd ((some s5)) ⟨fun v20x73 => @bnd (aIndexAddr Tryz.prog H 27 v19x72 v20x73) ⟨fun
  v21x74 => @bnd (aLoad Tryz.prog H 37 v21x74) ⟨fun v22x75 => @bnd ((some s1)) ⟨fun v23x76 => @bnd ((some s5)) ⟨fun v24x77 => @bnd (aIndexAddr Tryz.prog H 27 v23x76 v24x77) ⟨fun v25x78 => @bnd (aLoad Tryz.prog H 37 v25x78) ⟨fun
  v26x79 => @bndK false true H ⟨fun v7x80 H81 => aAlloc Tryz.prog H 37 = some (v7x80, H81)⟩ ⟨fun _ H81 => aLoad Tryz.prog H81 37 v25x78 = some v26x79 ∧ aIndexAddr Tryz.prog H81 27 v23x76 v24x77 = some v25x78 ∧ aLoad Tryz.prog H81
  37 v21x74 = some v22x75 ∧ aIndexAddr Tryz.prog H81 27 v19x72 v20x73 = some v21x74 ∧ True⟩ ⟨fun v7x80 H81 => @bndK false true H81 ⟨fun v6x82 H83 => aAlloc Tryz.prog H81 37 = some (v6x82, H83)⟩ ⟨fun _ H83 => aLoad Tryz.prog H83
  37 v25x78 = some v26x79 ∧ aIndexAddr Tryz.prog H83 27 v23x76 v24x77 = some v25x78 ∧ aLoad Tryz.prog H83 37 v21x74 = some v22x75 ∧ aIndexAddr Tryz.prog H83 27 v19x72 v20x73 = some v21x74 ∧ True⟩ ⟨fun v6x82 H83 => @bndK false
  true H83 ⟨fun x84 H85 => x84 = undef ∧ aStore Tryz.prog H83 37 v6x82 v22x75 = some H85⟩ ⟨fun _ H85 => aLoad Tryz.prog H85 37 v25x78 = some v26x79 ∧ aIndexAddr Tryz.prog H85 27 v23x76 v24x77 = some v25x78 ∧ True⟩ ⟨fun _ H85 =>
  @bndK true true H85 ⟨fun x86 H87 => x86 = undef ∧ aStore Tryz.prog H85 37 v7x80 v26x79 = some H87⟩ ⟨fun _ _ => True⟩ ⟨fun _ H87 => @bnd (aFieldAddr Tryz.prog H87 37 v6x82 0) ⟨fun v27x88 => @bnd (aLoad Tryz.prog H87 5 v27x88)
  ⟨fun v28x89 => @bnd (aFieldAddr Tryz.prog H87 37 v7x80 0) ⟨fun v29x90 => @bnd (aLoad Tryz.prog H87 5 v29x90) ⟨fun v30x91 => @bnd (aBin2 Tryz.prog H87 .neq 5 (.tmp 28) (.tmp 30) v28x89 v30x91) ⟨fun v31x92 => @bnd (gif v31x92
  false (aFieldAddr Tryz.prog H87 37 v6x82 1) undef) ⟨fun v33x93 => @bnd (gif v31x92 false (aLoad Tryz.prog H87 5 v33x93) undef) ⟨fun v34x94 => @bnd (gif v31x92 false (aFieldAddr Tryz.prog H87 37 v7x80 1) undef) ⟨fun v35x95 =>
  @bnd (gif v31x92 false (aLoad Tryz.prog H87 5 v35x95) undef) ⟨fun v36x96 => @bnd (gif v31x92 false (aBin2 Tryz.prog H87 .neq 5 (.tmp 34) (.tmp 36) v34x94 v36x96) undef) ⟨fun v37x97 => @bnd (pickV v31x92 (.bool true) v37x97)
  ⟨fun v38x98 => @bnd (gif v38x98 false (aFieldAddr Tryz.prog H87 37 v6x82 2) undef) ⟨fun v40x99 => @bnd (gif v38x98 false (aLoad Tryz.prog H87 35 v40x99) undef) ⟨fun v41x100 => @bnd (gif v38x98 false (aFieldAddr Tryz.prog H87 37
  v7x80 2) undef) ⟨fun v42x101 => @bnd (gif v38x98 false (aLoad Tryz.prog H87 35 v42x101) undef) ⟨fun v43x102 => @bndG v38x98 false H87 ⟨fun v44x103 H104 => ACalls Tryz.prog 41 [v41x100, v43x102] H87 v44x103 H104⟩ ⟨fun v44x103
  H104 => @bnd (gif v38x98 false (unV Tryz.prog .not v44x103) undef) ⟨fun v45x105 => @bnd (pickV v38x98 (.bool true) v45x105) ⟨fun v46x106 => @bnd (gif v46x106 false (aFieldAddr Tryz.prog H104 37 v6x82 3) undef) ⟨fun v48x107 =>
  @bnd (gif v46x106 false (aLoad Tryz.prog H104 3 v48x107) undef) ⟨fun v49x108 => @bnd (gif v46x106 false (aFieldAddr Tryz.prog H104 37 v7x80 3) undef) ⟨fun v50x109 => @bnd (gif v46x106 false (aLoad Tryz.prog H104 3 v50x109)
  undef) ⟨fun v51x110 => @bnd (gif v46x106 false (aBin2 Tryz.prog H104 .neq 3 (.tmp 49) (.tmp 51) v49x108 v51x110) undef) ⟨fun v52x111 => @bnd (pickV v46x106 (.bool true) v52x111) ⟨fun v53x112 => @bnd (gif v53x112 false
  (aFieldAddr Tryz.prog H104 37 v6x82 4) undef) ⟨fun v55x113 => @bnd (gif v53x112 false (aLoad Tryz.prog H104 5 v55x113) undef) ⟨fun v56x114 => @bnd (gif v53x112 false (aFieldAddr Tryz.prog H104 37 v7x80 4) undef) ⟨fun v57x115 =>
  @bnd (gif v53x112 false (aLoad Tryz.prog H104 5 v57x115) undef) ⟨fun v58x116 => @bnd (gif v53x112 false (aBin2 Tryz.prog H104 .neq 5 (.tmp 56) (.tmp 58) v56x114 v58x116) undef) ⟨fun v59x117 => @bnd (pickV v53x112 (.bool true)
  v59x117) ⟨fun v60x118 => @bnd (gif v60x118 false (aFieldAddr Tryz.prog H104 37 v6x82 5) undef) ⟨fun v62x119 => @bnd (gif v60x118 false (aLoad Tryz.prog H104 2 v62x119) undef) ⟨fun v63x120 => @bnd (gif v60x118 false (aFieldAddr
  Tryz.prog H104 37 v7x80 5) undef) ⟨fun v64x121 => @bnd (gif v60x118 false (aLoad Tryz.prog H104 2 v64x121) undef) ⟨fun v65x122 => @bnd (gif v60x118 false (aBin2 Tryz.prog H104 .neq 2 (.tmp 63) (.tmp 65) v63x120 v65x122) undef)
  ⟨fun v66x123 => @bnd (pickV v60x118 (.bool true) v66x123) ⟨fun v67x124 => @bnd (gif v67x124 false (aFieldAddr Tryz.prog H104 37 v6x82 6) undef) ⟨fun v69x125 => @bnd (gif v67x124 false (aLoad Tryz.prog H104 3 v69x125) undef)
  ⟨fun v70x126 => @bnd (gif v67x124 false (aFieldAddr Tryz.prog H104 37 v7x80 6) undef) ⟨fun v71x127 => @bnd (gif v67x124 false (aLoad Tryz.prog H104 3 v71x127) undef) ⟨fun v72x128 => @bnd (gif v67x124 false (aBin2 Tryz.prog H104
  .neq 3 (.tmp 70) (.tmp 72) v70x126 v72x128) undef) ⟨fun v73x129 => @bnd (pickV v67x124 (.bool true) v73x129) ⟨fun v74x130 => @bnd (gif v74x130 false (aFieldAddr Tryz.prog H104 37 v6x82 7) undef) ⟨fun v76x131 => @bnd (gif
  v74x130 false (aLoad Tryz.prog H104 3 v76x131) undef) ⟨fun v77x132 => @bnd (gif v74x130 false (aFieldAddr Tryz.prog H104 37 v7x80 7) undef) ⟨fun v78x133 => @bnd (gif v74x130 false (aLoad Tryz.prog H104 3 v78x133) undef) ⟨fun
  v79x134 => @bnd (gif v74x130 false (aBin2 Tryz.prog H104 .neq 3 (.tmp 77) (.tmp 79) v77x132 v79x134) undef) ⟨fun v80x135 => @bnd (pickV v74x130 (.bool true) v80x135) ⟨fun v81x136 => @kifB v81x136 ⟨k (.bool false) H104⟩ ⟨@bnd
  (aBin2 Tryz.prog H104 .add 3 (.tmp 17) (.const (.int .i64 1)) s5 (.int .i64 1)) ⟨fun v18x137 => L19x0 n0  k [s0, s1, s2, s3, s4, v18x137, v6x82, v7x80, s8, s9, s10, s11, s12, s5, s0, v15x4, v16x5, s5, v18x137, v19x72, v20x73,
  v21x74, v22x75, v23x76, v24x77, v25x78, v26x79, v27x88, v28x89, v29x90, v30x91, v31x92, v31x92, v33x93, v34x94, v35x95, v36x96, v37x97, v38x98, v38x98, v40x99, v41x100, v42x101, v43x102, v44x103, v45x105, v46x106, v46x106,
  v48x107, v49x108, v50x109, v51x110, v52x111, v53x112, v53x112, v55x113, v56x114, v57x115, v58x116, v59x117, v60x118, v60x118, v62x119, v63x120, v64x121, v65x122, v66x123, v67x124, v67x124, v69x125, v70x126, v71x127, v72x128,
  v73x129, v74x130, v74x130, v76x131, v77x132, v78x133, v79x134, v80x135, v81x136] H104⟩⟩⟩⟩⟩⟩⟩⟩⟩⟩⟩⟩⟩⟩⟩⟩⟩⟩⟩⟩⟩⟩⟩⟩⟩⟩⟩⟩⟩⟩⟩⟩⟩⟩⟩⟩⟩⟩⟩⟩⟩⟩⟩⟩⟩⟩⟩⟩⟩⟩⟩⟩⟩⟩⟩⟩⟩⟩⟩⟩⟩⟩)⟩ ⟨k (.bool true) H⟩⟩⟩) := by kernel_rfl
-- tocsin/tocsinlaw14.awake
def L148x0 (n : Nat) (k : Value → AHeap → Prop) (sl : List Value) (H : AHeap) : Prop := kitG Tryz.prog (drawKeep Tryz.prog) (cl (cl (cr (cl (cr (cb Tryz.f148)))))) n (kblkG 0 (kseqG Tryz.prog (drawKeep Tryz.prog) (cr (cr (cb
  Tryz.f148))) (kfinG Tryz.prog Tryz.f148 k))) .normal sl H []
theorem d148 (a0 a1 : Value) (H : AHeap) (k : Value → AHeap → Prop) : kbodyG Tryz.prog (drawKeep Tryz.prog) Tryz.f148 [a0, a1] H k = (@bndE (aAlloc Tryz.prog H 75) ⟨fun v4x1 H2 => ∃ n, L148x0 n  k [a0, a1, undef, undef, v4x1,
  (.int .i64 0), (.int .i64 0), undef, undef, undef, undef, undef, undef, undef, undef, undef, undef, undef, undef, undef, undef, undef, undef, undef, undef, undef, undef, undef, undef, undef, undef, undef, undef, undef, undef,
  undef, undef, undef, undef, undef, undef, undef, undef, undef, undef] H2⟩) := by kernel_rfl
theorem L148x0q (n0 : Nat) (s0 s1 s2 s3 s4 s5 s6 s7 s8 s9 s10 s11 s12 s13 s14 s15 s16 s17 s18 s19 s20 s21 s22 s23 s24 s25 s26 s27 s28 s29 s30 s31 s32 s33 s34 s35 s36 s37 s38 s39 s40 s41 s42 s43 s44 : Value) (H : AHeap) (k : Value
  → AHeap → Prop) : L148x0 (n0 + 1) k [s0, s1, s2, s3, s4, s5, s6, s7, s8, s9, s10, s11, s12, s13, s14, s15, s16, s17, s18, s19, s20, s21, s22, s23, s24, s25, s26, s27, s28, s29, s30, s31, s32, s33, s34, s35, s36, s37, s38, s39,
  s40, s41, s42, s43, s44] H = (@bnd (aBin2 Tryz.prog H .lss 3 (.tmp 7) (.const (.int .i64 3)) s6 (.int .i64 3)) ⟨fun v8x3 => @kifB v8x3 ⟨@bndC Tryz.prog 95 [s0, s1, (.int .u8 1), (.string { data := #[42] })] H ⟨fun v13x4 H5 =>
  @bnd (gif v13x4 true ((some s0)) undef) ⟨fun v15x6 => @bnd (gif v13x4 true ((some s1)) undef) ⟨fun v16x7 => @bnd (gif v13x4 true (aBin2 Tryz.prog H5 .add 3 (.tmp 16) (.const (.int .i64 1)) v16x7 (.int .i64 1)) undef) ⟨fun v17x8
  => @bnd (gif v13x4 true ((some s6)) undef) ⟨fun v18x9 => @bndG v13x4 true H5 ⟨fun v19x10 H11 => ACalls Tryz.prog 171 [v18x9] H5 v19x10 H11⟩ ⟨fun v19x10 H11 => @bndG v13x4 true H11 ⟨fun v20x12 H13 => ACalls Tryz.prog 95 [v15x6,
  v17x8, (.int .u8 4), v19x10] H11 v20x12 H13⟩ ⟨fun v20x12 H13 => @bnd (pickV v13x4 v20x12 (.bool false)) ⟨fun v21x14 => @bnd (gif v21x14 true ((some s0)) undef) ⟨fun v23x15 => @bnd (gif v21x14 true ((some s1)) undef) ⟨fun v24x16
  => @bnd (gif v21x14 true (aBin2 Tryz.prog H13 .add 3 (.tmp 24) (.const (.int .i64 2)) v24x16 (.int .i64 2)) undef) ⟨fun v25x17 => @bndG v21x14 true H13 ⟨fun v26x18 H19 => ACalls Tryz.prog 95 [v23x15, v25x17, (.int .u8 3),
  (.string { data := #[42] })] H13 v26x18 H19⟩ ⟨fun v26x18 H19 => @bnd (pickV v21x14 v26x18 (.bool false)) ⟨fun v27x20 => @kifB v27x20 ⟨@bnd ((some s0)) ⟨fun v28x21 => @bnd ((some s1)) ⟨fun v29x22 => @bnd (aIndexAddr Tryz.prog
  H19 64 v28x21 v29x22) ⟨fun v30x23 => @bnd (aFieldAddr Tryz.prog H19 72 v30x23 1) ⟨fun v31x24 => @bnd (aLoad Tryz.prog H19 9 v31x24) ⟨fun v32x25 => @bnd ((some s6)) ⟨fun v33x26 => @bnd (convV Tryz.prog H19 3 5 v33x26) ⟨fun
  v34x27 => @bnd ((some s0)) ⟨fun v35x28 => @bnd ((some s1)) ⟨fun v36x29 => @bnd (aBin2 Tryz.prog H19 .add 3 (.tmp 36) (.const (.int .i64 2)) v36x29 (.int .i64 2)) ⟨fun v37x30 => @bnd (aIndexAddr Tryz.prog H19 64 v35x28 v37x30)
  ⟨fun v38x31 => @bnd (aFieldAddr Tryz.prog H19 72 v38x31 1) ⟨fun v39x32 => @bnd (aLoad Tryz.prog H19 9 v39x32) ⟨fun v40x33 => @bnd (buildV Tryz.prog 75 [(0, v32x25), (1, v34x27), (2, v40x33)]) ⟨fun v41x34 => @bnd ((some s1))
  ⟨fun v42x35 => @bnd (aBin2 Tryz.prog H19 .add 3 (.tmp 42) (.const (.int .i64 3)) v42x35 (.int .i64 3)) ⟨fun v43x36 => @bndK false true H19 ⟨fun x37 H38 => x37 = undef ∧ aStore Tryz.prog H19 75 s4 v41x34 = some H38⟩ ⟨fun _ H38
  => aBin2 Tryz.prog H38 .add 3 (.tmp 42) (.const (.int .i64 3)) v42x35 (.int .i64 3) = some v43x36 ∧ True⟩ ⟨fun _ H38 => @bnd ((some v43x36)) ⟨fun v5x39 => ∃ r40, aLoad Tryz.prog H38 75 s4 = some r40 ∧ k (.tuple #[r40, v5x39])
  H38⟩⟩⟩⟩⟩⟩⟩⟩⟩⟩⟩⟩⟩⟩⟩⟩⟩⟩⟩ ⟨@bnd (aBin2 Tryz.prog H19 .add 3 (.tmp 9) (.const (.int .i64 1)) s6 (.int .i64 1)) ⟨fun v10x41 => L148x0 n0  k [s0, s1, s2, s3, s4, s5, v10x41, s6, v8x3, s6, v10x41, s0, s1, v13x4, v13x4, v15x6, v16x7,
  v17x8, v18x9, v19x10, v20x12, v21x14, v21x14, v23x15, v24x16, v25x17, v26x18, v27x20, s28, s29, s30, s31, s32, s33, s34, s35, s36, s37, s38, s39, s40, s41, s42, s43, s44] H19⟩⟩⟩⟩⟩⟩⟩⟩⟩⟩⟩⟩⟩⟩⟩⟩ ⟨@bnd (buildV Tryz.prog 75 []) ⟨fun
  v44x42 => @bndS (aStore Tryz.prog H 75 s4 v44x42) ⟨fun _ H44 => ∃ r45, aLoad Tryz.prog H44 75 s4 = some r45 ∧ k (.tuple #[r45, (.int .i64 (-1))]) H44⟩⟩⟩⟩) := by kernel_rfl

end Go.Vi
namespace Go.Vi
open Go Go.Proofs

abbrev u32 (n : Int) : Value := .int .u32 n
section
variable {P : Program} {H : AHeap} {T : TypeId} {x y : Operand} {k : IntKind} {a : Nat}
end
end Go.Vi
namespace Go.Vi
open Go Go.Proofs

end Go.Vi
namespace Go.Vi
open Go Go.Proofs

end Go.Vi
namespace Go.Vi
open Go Go.Proofs

inductive Parts (K : AHeap) : Value → List (List UInt8) → Prop
  | nil : Parts K (.slice none 0 0) []
  | mk (b : Nat) (l : List (List UInt8)) (hb : hcells K b = some (l.map str)) : Parts K (.slice (some ⟨b, 0, some l.length⟩) l.length l.length) l
theorem Parts.pre {H K v l} (h : Parts H v l) (p : Pre H K) : Parts K v l := by
  cases h with
  | nil => exact .nil
  | mk b l hb => exact .mk b l (p.hcells hb)
theorem Parts.len {H v l} (h : Parts H v l) (K : AHeap) : aLen Tryz.prog K 42 v = some (i64 l.length) := by
  cases h <;> simp
theorem Parts.load {H v l} (h : Parts H v l) {i : Nat} {s : List UInt8} (hi : l[i]? = some s) : ∃ p, aIndexAddr Tryz.prog H 42 v (i64 i) = some p ∧ aLoad Tryz.prog H 9 p = some (str s) := by
  have ha : Arr H 1 v (strCells l) := by
    cases h with
    | nil => exact .nil
    | mk b l hb =>
      refine .mk b 0 _ _ _ (l.map str) _ (by simp [strCells]) hb (by simp) (by omega) fun i e hi => ?_
      simp only [strCells, List.getElem?_map, Option.map_eq_some_iff] at hi
      obtain ⟨s, h1, rfl⟩ := hi
      rw [Nat.zero_add, Nat.mul_one, ← List.map_drop, List.drop_eq_getElem_cons (List.getElem?_eq_some_iff.1 h1).1, List.map_cons, List.take_succ_cons, List.take_zero, (List.getElem?_eq_some_iff.1 h1).2]
  exact ha.load1 (by simp) (by simp) (by simp) (by simp [strCells, hi])
theorem Parts.tail {H v a l} (h : Parts H v (a :: l)) (hl : 0 < l.length) : ∃ t, aSliceOp Tryz.prog H 42 v (some (i64 1)) none = some t ∧ (∀ K, aLen Tryz.prog K 42 t = some (i64 l.length)) ∧
    ∀ K, Pre H K → ∀ (i : Nat) s, l[i]? = some s → ∃ p, aIndexAddr Tryz.prog K 42 t (i64 i) = some p ∧ aLoad Tryz.prog K 9 p = some (str s) := by
  cases h with
  | mk b _ hb =>
    have hhl : hlen H b = some (l.length + 1) := by rw [hcells_len hb]; simp
    refine ⟨.slice (some ⟨b, 1, some (l.length + 1)⟩) l.length l.length, ?_, fun K => by simp, fun K p i s hi => ?_⟩
    · simp [aSliceOp, aLow, aHigh, hhl]
      omega
    · have ha : Arr K 1 (.slice (some ⟨b, 1, some (l.length + 1)⟩) l.length l.length) (strCells l) := by
        refine .mk b 1 _ _ _ ((a :: l).map str) _ (by simp [strCells]) (p.hcells hb) (by simp) (by omega) fun i e hi => ?_
        simp only [strCells, List.getElem?_map, Option.map_eq_some_iff] at hi
        obtain ⟨s, h1, rfl⟩ := hi
        rw [Nat.mul_one, Nat.add_comm, List.map_cons, List.drop_succ_cons, ← List.map_drop, List.drop_eq_getElem_cons (List.getElem?_eq_some_iff.1 h1).1, List.map_cons, List.take_succ_cons, List.take_zero, (List.getElem?_eq_some_iff.1 h1).2]
      exact ha.load1 (by simp) (by simp) (by simp) (by simp [strCells, hi])
end Go.Vi
namespace Go.Vi
open Go Go.Proofs

theorem Gro.parts {K lo v l} (h : Gro K lo 1 9 v (strCells l)) : Parts K v l := by
  have hf : ∀ l : List (List UInt8), (strCells l).flatten = l.map str := by
    intro l
    induction l with
    | nil => rfl
    | cons a r ih => simp [strCells] at ih ⊢; exact ih
  generalize hc : strCells l = cl at h
  cases h with
  | nil =>
    have : l = [] := by simpa [strCells] using hc
    subst this; exact .nil
  | mk bb cl h1 h2 h3 h4 =>
    subst hc
    have hl : (strCells l).length = l.length := by simp [strCells]
    rw [hl, Nat.mul_one]
    exact .mk bb l (by rw [hcells_eq, h2, hf]; rfl)
end Go.Vi
namespace Go.Vi
open Go Go.Proofs

end Go.Vi
namespace Go.Vi
open Go Go.Proofs

end Go.Vi
namespace Go.Vi
open Go Go.Proofs

end Go.Vi
namespace Go.Vi
open Go Go.Proofs

theorem Gro.frm {K K' lo z T v cl} (h : Gro K lo z T v cl) (hf : ∀ (b : Nat) o, lo ≤ b → K[b]? = some o → K'[b]? = some o) : Gro K' lo z T v cl := by
  cases h with
  | nil => exact .nil
  | mk bb cl h1 h2 h3 h4 => exact .mk bb cl h1 (hf _ _ h1 h2) h3 h4
theorem Gro.weak {K lo lo' z T v cl} (h : Gro K lo z T v cl) (hl : lo' ≤ lo) : Gro K lo' z T v cl := by
  cases h with
  | nil => exact .nil
  | mk bb cl h1 h2 h3 h4 => exact .mk bb cl (by omega) h2 h3 h4
abbrev rP (rb : Nat) : Value := .pointer (some ⟨rb, 0, some 3⟩)
def RdS (H K : AHeap) (rb : Nat) (lv : Value) (ts : List Tok) : Option Nat → Prop
  | some a => RdA H K rb lv ts a true
  | none => ∃ a, RdA H K rb lv ts a false
theorem RdS.any {H K rb lv ts st} (h : RdS H K rb lv ts st) : ∃ a ok, RdA H K rb lv ts a ok := by
  cases st with
  | some a => exact ⟨a, true, h⟩
  | none => obtain ⟨a, h⟩ := h; exact ⟨a, false, h⟩
theorem RdS.lt {H K rb lv ts st} (h : RdS H K rb lv ts st) : rb < K.length := by obtain ⟨a, ok, h⟩ := h.any; exact h.lt
theorem RdS.app {H K rb lv ts st} (h : RdS H K rb lv ts st) (X : AHeap) : RdS H (K ++ X) rb lv ts st := by
  cases st with
  | some a => exact RdA.app h X
  | none => obtain ⟨a, h⟩ := h; exact ⟨a, h.app X⟩
theorem RdS.le {H K rb lv ts a} (h : RdS H K rb lv ts (some a)) : a ≤ ts.length := RdA.le h
theorem RdS.len {H K rb lv ts st} (h : RdS H K rb lv ts st) : ts.length < 2 ^ 40 := by obtain ⟨a, ok, h⟩ := h.any; exact h.len
theorem RdS.pre {H K rb lv ts st} (h : RdS H K rb lv ts st) : Pre H K := by obtain ⟨a, ok, h⟩ := h.any; exact h.pre
theorem RdS.frame {H K K' rb lv ts st} (h : RdS H K rb lv ts st) (hp : Pre H K') (hc : ∀ o, K[rb]? = some o → K'[rb]? = some o) : RdS H K' rb lv ts st := by
  cases st with
  | some a => have h : RdA H K rb lv ts a true := h; exact ⟨h.toks, hp, h.hb, hc _ h.cell, h.len, h.le⟩
  | none => obtain ⟨a, h⟩ := h; exact ⟨a, h.toks, hp, h.hb, hc _ h.cell, h.len, h.le⟩
structure Adv (H K K' : AHeap) (rb : Nat) (lv : Value) (ts : List Tok) (st : Option Nat) : Prop where
  rd : RdS H K' rb lv ts st
  fr : ∀ (b : Nat) o, b ≠ rb → K[b]? = some o → K'[b]? = some o
  len : K.length ≤ K'.length
theorem Adv.trans {H K K' K2 rb lv ts st st'} (h : Adv H K K' rb lv ts st) (k : Adv H K' K2 rb lv ts st') : Adv H K K2 rb lv ts st' := ⟨k.rd, fun b o hb ho => k.fr b o hb (h.fr b o hb ho), Nat.le_trans h.len k.len⟩
theorem Adv.refl {H K rb lv ts st} (h : RdS H K rb lv ts st) : Adv H K K rb lv ts st := ⟨h, fun _ _ _ h => h, Nat.le_refl _⟩
theorem Adv.app {H K K' rb lv ts st} (h : Adv H K K' rb lv ts st) (X : AHeap) : Adv H K (K' ++ X) rb lv ts st := ⟨h.rd.app X, fun b o hb ho => get_more (h.fr b o hb ho), by have := h.len; simp; omega⟩
theorem Adv.set {H K rb lv ts a ok st} (_h : RdA H K rb lv ts a ok) (a' : Nat) (ok' : Bool) (_ha : a' ≤ ts.length) (hs : RdS H (K.set rb (rdo lv a' ok')) rb lv ts st) : Adv H K (K.set rb (rdo lv a' ok')) rb lv ts st :=
  ⟨hs, fun b o hb ho => by rw [List.getElem?_set_ne (fun e => hb e.symm)]; exact ho, by simp⟩
theorem Adv.setT {H K rb lv ts a ok} (h : RdA H K rb lv ts a ok) (a' : Nat) (ha : a' ≤ ts.length) : Adv H K (K.set rb (rdo lv a' true)) rb lv ts (some a') := .set h a' true ha (h.put a' true ha)
theorem Adv.setF {H K rb lv ts a ok} (h : RdA H K rb lv ts a ok) (a' : Nat) (ha : a' ≤ ts.length) : Adv H K (K.set rb (rdo lv a' false)) rb lv ts none := .set h a' false ha ⟨a', h.put a' false ha⟩

def takO (ts : List Tok) (k : Int) (s : List UInt8) (a : Nat) : Nat := if isT ts a k s = true then a + 1 else a
theorem g_takes {H K rb lv ts st} (h : RdS H K rb lv ts st) (k : Int) (s : List UInt8) :
    ∃ K', ACalls Tryz.prog 68 [rP rb, .int .u8 k, str s] K (.bool (st.any fun a => isT ts a k s)) K' ∧ Adv H K K' rb lv ts (st.map (takO ts k s)) := by
  cases st with
  | none => obtain ⟨a, h⟩ := h; exact ⟨K, c_takes_n h rfl, .refl ⟨a, h⟩⟩
  | some a =>
    have h : RdA H K rb lv ts a true := h
    simp only [Option.any_some, Option.map_some, takO]
    cases ht : isT ts a k s with
    | true => exact ⟨_, c_takes_y h ht, .setT h _ (by have := isT_lt ht; omega)⟩
    | false => exact ⟨K, c_takes_n h (by simp [ht]), .refl h⟩
def signO (ts : List Tok) (s : List UInt8) (a : Nat) : Option Nat := if isT ts a 4 s = true then some (a + 1) else none
theorem c_sign_n {H K rb lv ts a ok} (h : RdA H K rb lv ts a ok) {s : List UInt8} (ht : (ok && isT ts a 4 s) = false) :
    ACalls Tryz.prog 69 [rP rb, str s] K (.tuple #[]) (K.set rb (rdo lv a false)) := by
  refine acalls_of MixT Tryz.func69 (by decide) ?_
  rw [d69]
  refine bndC_of (c_takes_n h ht) ?_
  have hc := h.cell
  have hll : hlen K rb = some 3 := by simp [hlen, hc, rdo]
  simp [hll, hc, rdo]
theorem g_sign {H K rb lv ts st} (h : RdS H K rb lv ts st) (s : List UInt8) :
    ∃ K', ACalls Tryz.prog 69 [rP rb, str s] K (.tuple #[]) K' ∧ Adv H K K' rb lv ts (st.bind (signO ts s)) := by
  cases st with
  | none => obtain ⟨a, h⟩ := h; exact ⟨_, c_sign_n h rfl, .setF h a h.le⟩
  | some a =>
    have h : RdA H K rb lv ts a true := h
    simp only [Option.bind_some, signO]
    cases ht : isT ts a 4 s with
    | true => exact ⟨_, c_sign_y h ht, .setT h _ (by have := isT_lt ht; omega)⟩
    | false => exact ⟨_, c_sign_n h (by simp [ht]), .setF h a h.le⟩
def tokK (ts : List Tok) (k : Int) (a : Nat) : Option (List UInt8) := (ts[a]?).bind fun t => if t.kind = k then some t.text else none
theorem c_take_n {H K rb lv ts a ok} (h : RdA H K rb lv ts a ok) {k : Int} (ht : ok = true → tokK ts k a = none) :
    ACalls Tryz.prog 127 [rP rb, .int .u8 k] K (str []) (K.set rb (rdo lv a false)) := by
  refine acalls_of MixT Tryz.func127 (by decide) ?_
  rw [d127]
  have hc := h.cell
  have hcc : hcells K rb = some [lv, i64 a, .bool ok] := by simp [hcells_eq, hc, rdo]
  have hll : hlen K rb = some 3 := by simp [hlen, hc, rdo]
  have hl := (h.toks.pre h.pre).len (P := Tryz.prog) (T := 23) (e := 70) (by simp)
  simp at hl
  simp only [rdo] at hc
  cases ok with
  | false => simp [hcc, hll, hc, rdo]
  | true =>
    have ht := ht rfl
    by_cases ha : ts.length ≤ a
    · simp [hcc, hll, hl, ha, hc, rdo]
    · obtain ⟨t, htt⟩ : ∃ t, ts[a]? = some t := ⟨_, List.getElem?_eq_getElem (by omega)⟩
      obtain ⟨p, q, r, e1, e2, e3, e4, e5⟩ := toksAt_at (h.toks.pre h.pre) htt
      have hk : ¬ t.kind = k := by
        intro e
        simp [tokK, htt, e] at ht
      have hk' : (t.kind != k) = true := by simpa using hk
      simp [hcc, hll, hl, ha, e1, e2, e3, hc, hk', rdo]
def takeO (ts : List Tok) (k : Int) (a : Nat) : Option Nat := (tokK ts k a).map fun _ => a + 1
theorem g_take {H K rb lv ts st} (h : RdS H K rb lv ts st) (k : Int) :
    ∃ K', ACalls Tryz.prog 127 [rP rb, .int .u8 k] K (str ((st.bind (tokK ts k)).getD [])) K' ∧ Adv H K K' rb lv ts (st.bind (takeO ts k)) := by
  cases st with
  | none => obtain ⟨a, h⟩ := h; exact ⟨_, c_take_n h (by simp), .setF h a h.le⟩
  | some a =>
    have h : RdA H K rb lv ts a true := h
    simp only [Option.bind_some, takeO]
    cases ht : tokK ts k a with
    | none => exact ⟨_, c_take_n h fun _ => ht, .setF h a h.le⟩
    | some s =>
      unfold tokK at ht
      cases htt : ts[a]? with
      | none => simp [htt] at ht
      | some t =>
        simp only [htt, Option.bind_some] at ht
        split at ht
        · rename_i hk
          cases ht
          have := c_take_y h htt
          rw [hk] at this
          exact ⟨_, this, .setT h _ (by have := (List.getElem?_eq_some_iff.1 htt).1; omega)⟩
        · cases ht
def idxS (l : List (List UInt8)) (s : List UInt8) : Nat := if s ∈ l then l.idxOf s else 0
def oneO (ts : List Tok) (k : Int) (l : List (List UInt8)) (a : Nat) : Option Nat := (tokK ts k a).bind fun s => if s ∈ l then some (a + 1) else none
theorem nmap_any {l : List (List UInt8)} {s : List UInt8} (hn : l.Nodup) : mget (str s) (nmapK 0 l) = if s ∈ l then some (i64 (l.idxOf s)) else none := by
  by_cases hs : s ∈ l
  · rw [if_pos hs]
    have hlt := List.idxOf_lt_length_of_mem hs
    exact nmap_get hn (by rw [List.getElem?_eq_getElem hlt, List.getElem_idxOf hlt])
  · rw [if_neg hs]
    rcases (nmapK_smap l 0).get (k := s) with ⟨h, _⟩ | ⟨_, h⟩
    · exact absurd h hs
    · exact h
theorem g_one {H K rb lv ts st} (h : RdS H K rb lv ts st) (k : Int) {l : List (List UInt8)} {v : Value} (ha : Arr K 1 v (strCells l)) (hl : l.length ≤ 200) (hn : l.Nodup) (_h0 : [] ∉ l) :
    ∃ K', ACalls Tryz.prog 105 [rP rb, .int .u8 k, v] K (.int .u8 (idxS l ((st.bind (tokK ts k)).getD []))) K' ∧ Adv H K K' rb lv ts (st.bind (oneO ts k l)) := by
  have key : ∃ u K', (u = .int .u8 (idxS l ((st.bind (tokK ts k)).getD [])) ∧ Adv H K K' rb lv ts (st.bind (oneO ts k l))) ∧ ACalls Tryz.prog 105 [rP rb, .int .u8 k, v] K u K' := by
    refine acalls_ex MixT Tryz.func105 (by decide) ?_
    rw [d105]
    refine bndC_of (c_named (by omega) hn ha) ?_
    obtain ⟨K1, g1, g2⟩ := g_take (h.app [AObj.map (nmapK 0 l)]) k
    refine bndC_of g1 ?_
    have hrb := h.lt
    have hm : K1[K.length]? = some (.map (nmapK 0 l)) := g2.fr _ _ (by omega) (by simp)
    have hok := (nmapK_smap l 0).ok
    generalize hs : (st.bind (tokK ts k)).getD [] = s
    have hlk : aLookup Tryz.prog K1 163 (.map (some K.length)) (str s) true = some (mres (some (i64 (idxS l s))) undef true) ∧ s ∈ l ∨ aLookup Tryz.prog K1 163 (.map (some K.length)) (str s) true = some (mres none (i64 0) true) ∧ s ∉ l := by
      by_cases hs : s ∈ l
      · left
        refine ⟨?_, hs⟩
        rw [aLookup_map, hm]
        simp only [tm163, Option.bind_some, mapOf_map, keyOk, if_true, hok, nmap_any hn, if_pos hs, idxS]
      · right
        refine ⟨?_, hs⟩
        rw [aLookup_map, hm]
        simp only [tm163, tz163, Option.bind_some, mapOf_map, keyOk, if_true, hok, nmap_any hn, if_neg hs]
        rfl
    have hfr : ∀ (a' : Nat) (ok' : Bool) (b : Nat) (o : AObj), b ≠ rb → K[b]? = some o → (K1.set rb (rdo lv a' ok'))[b]? = some o := fun a' ok' b o hb ho => by
      rw [List.getElem?_set_ne (fun e => hb e.symm)]; exact g2.fr b o hb (get_more ho)
    have hlen : K.length ≤ K1.length := by have := g2.len; simp at this; omega
    obtain ⟨a1, ok1, hr1⟩ := g2.rd.any
    have hc := hr1.cell
    have hcc : hcells K1 rb = some [lv, i64 a1, .bool ok1] := by rw [hcells_eq, hc]; rfl
    have hll : Vi.hlen K1 rb = some 3 := by unfold Vi.hlen; rw [hc]; rfl
    have hidx : idxS l s < 256 := by
      unfold idxS
      split
      · rename_i hs; have := List.idxOf_lt_length_of_mem hs; omega
      · omega
    have hw : IntKind.u8.wrap (idxS l s : Int) = idxS l s := wrap_u8 (by omega) (by omega)
    have fin : ∀ is : Bool, (is = true ↔ s ∈ l) → Adv H K (K1.set rb (rdo lv a1 (ok1 && is))) rb lv ts (st.bind (oneO ts k l)) := by
      intro is his
      refine ⟨?_, hfr _ _, by simpa using hlen⟩
      cases st with
      | none =>
        obtain ⟨a2, hr2⟩ := g2.rd
        have e := hr1.cell.symm.trans hr2.cell
        simp only [rdo, Option.some.injEq, AObj.cells.injEq, List.cons.injEq, Value.bool.injEq] at e
        obtain ⟨⟨_, _, rfl, _⟩, _⟩ := e
        exact ⟨a1, hr1.put a1 false hr1.le⟩
      | some a =>
        simp only [Option.bind_some, takeO, oneO] at hs g2 ⊢
        cases hk : tokK ts k a with
        | none =>
          simp only [hk, Option.map_none] at g2
          obtain ⟨a2, hr2⟩ := g2.rd
          have e := hr1.cell.symm.trans hr2.cell
          simp only [rdo, Option.some.injEq, AObj.cells.injEq, List.cons.injEq, Value.bool.injEq] at e
          obtain ⟨⟨_, _, rfl, _⟩, _⟩ := e
          exact ⟨a1, hr1.put a1 false hr1.le⟩
        | some s' =>
          simp only [hk, Option.map_some, Option.getD_some] at g2 hs
          subst hs
          have hr2 : RdA H K1 rb lv ts (a + 1) true := g2.rd
          have e := hr1.cell.symm.trans hr2.cell
          simp only [rdo, Option.some.injEq, AObj.cells.injEq, List.cons.injEq, Value.bool.injEq, Value.int.injEq] at e
          obtain ⟨⟨_, ⟨_, e2⟩, rfl, _⟩, _⟩ := e
          obtain rfl : a1 = a + 1 := by omega
          simp only [Option.bind_some]
          by_cases hsl : s' ∈ l
          · rw [if_pos hsl, his.2 hsl]; exact hr2.put (a + 1) true hr2.le
          · rw [if_neg hsl, show is = false by simpa [hsl] using his]; exact ⟨a + 1, hr2.put (a + 1) false hr2.le⟩
    dsimp only
    rcases hlk with ⟨hlk, hsl⟩ | ⟨hlk, hsl⟩
    · rw [hlk]
      have := fin true (by simp [hsl])
      simp only [rdo] at hc this
      simp [mres, hcc, hll, hc, hw]
      simpa using this
    · rw [hlk]
      have := fin false (by simp [hsl])
      simp only [rdo] at hc this
      simp [mres, hcc, hll, hc]
      exact ⟨by rw [show idxS l s = 0 from if_neg hsl]; decide, by simpa using this⟩
  obtain ⟨u, K', ⟨rfl, h⟩, hy⟩ := key
  exact ⟨K', hy, h⟩
theorem RdS.cells {H K rb lv ts st} (h : RdS H K rb lv ts st) : ∃ a, K[rb]? = some (.cells [lv, i64 (a : Nat), .bool st.isSome] 81) ∧ a ≤ ts.length ∧ (∀ a', st = some a' → a = a') ∧ ∀ ok', Adv H K (K.set rb (.cells [lv, i64 a, .bool ok'] 81)) rb lv ts (if ok' = true then some a else none) := by
  cases st with
  | some a =>
    have h : RdA H K rb lv ts a true := h
    refine ⟨a, h.cell, h.le, fun a' e => by cases e; rfl, fun ok' => ?_⟩
    cases ok' with
    | true => exact .setT h a h.le
    | false => exact .setF h a h.le
  | none =>
    obtain ⟨a, h⟩ := h
    refine ⟨a, h.cell, h.le, fun a' e => (by cases e), fun ok' => ?_⟩
    cases ok' with
    | true => exact .setT h a h.le
    | false => exact .setF h a h.le
end Go.Vi
namespace Go.Vi
open Go Go.Proofs

def NumTok (ts : List Tok) : Prop := ∀ (a : Nat) t, ts[a]? = some t → t.text.length < 2 ^ 20 ∧ (t.kind = 2 → (∀ b ∈ t.text, isDig b = true ∨ b = 46) ∧ ∀ b r, t.text = b :: r → isDig b = true)
def winO (ts : List Tok) (a : Nat) : Option (Int × Nat) := (tokK ts 2 a).bind fun s => (atoF s).bind fun n => if 1 ≤ n ∧ n ≤ 1000 then some (n, a + 1) else none
theorem tokK_ok {ts : List Tok} {k : Int} {a : Nat} {s : List UInt8} (h : tokK ts k a = some s) : ∃ t, ts[a]? = some t ∧ t.kind = k ∧ t.text = s := by
  unfold tokK at h
  cases ht : ts[a]? with
  | none => simp [ht] at h
  | some t =>
    simp only [ht, Option.bind_some] at h
    split at h
    · cases h; exact ⟨t, rfl, ‹_›, rfl⟩
    · cases h
theorem aBin_ifnil {P : Program} {H : AHeap} {T t : TypeId} {x y : Operand} {p : Addr} {ms} (h : P.underlying T = some (.interface ms)) : aBin2 P H .eql T x y (.iface t (.pointer (some p))) .nilIface = some (.bool false) := by
  apply aBin2_of
  simp [aBin, clos, isLit, notNil, h]
theorem g_window {H K rb lv ts st} (hg : Pre Gs H) (hn : NumTok ts) (h : RdS H K rb lv ts st) :
    ∃ n K', ACalls Tryz.prog 107 [rP rb] K (i64 n) K' ∧ Adv H K K' rb lv ts ((st.bind (winO ts)).map (·.2)) ∧ ∀ p, st.bind (winO ts) = some p → p.1 = n := by
  have key : ∃ u K', (∃ n, u = i64 n ∧ Adv H K K' rb lv ts ((st.bind (winO ts)).map (·.2)) ∧ ∀ p, st.bind (winO ts) = some p → p.1 = n) ∧ ACalls Tryz.prog 107 [rP rb] K u K' := by
    refine acalls_ex MixT Tryz.func107 (by decide) ?_
    rw [d107]
    obtain ⟨K1, g1, g2⟩ := g_take h 2
    refine bndC_of g1 ?_
    have hu := tu118
    have hsx : ((st.bind (tokK ts 2)).getD []).length < 2 ^ 20 ∧ (∀ b ∈ (st.bind (tokK ts 2)).getD [], isDig b = true ∨ b = 46) ∧ ∀ b r, (st.bind (tokK ts 2)).getD [] = b :: r → isDig b = true := by
      cases hq : st.bind (tokK ts 2) with
      | none => simp
      | some s =>
        obtain ⟨a, _, ha⟩ := Option.bind_eq_some_iff.1 hq
        obtain ⟨t, t1, t2, rfl⟩ := tokK_ok ha
        have := hn a t t1
        exact ⟨this.1, (this.2 t2).1, (this.2 t2).2⟩
    obtain ⟨x, e, K2, hx, hp, hcall⟩ := c_atoiG (hg.trans g2.rd.pre) (by have := hsx.1; omega) hsx.2.2 hsx.2.1
    refine bndC_of hcall ?_
    have hadv : Adv H K K2 rb lv ts (st.bind (takeO ts 2)) := by obtain ⟨X, rfl⟩ := hp; exact g2.app X
    obtain ⟨a1, c1, c2, c3, c4⟩ := RdS.cells hadv.rd
    have hcc : hcells K2 rb = some [lv, i64 a1, .bool (st.bind (takeO ts 2)).isSome] := by rw [hcells_eq, c1]; rfl
    have hll : Vi.hlen K2 rb = some 3 := by unfold Vi.hlen; rw [c1]; rfl
    have hfin : ∀ (is : Bool), ((st.bind (takeO ts 2)).isSome && is) = (st.bind (winO ts)).isSome → Adv H K (K2.set rb (.cells [lv, i64 a1, .bool ((st.bind (takeO ts 2)).isSome && is)] 81)) rb lv ts ((st.bind (winO ts)).map (·.2)) := by
      intro is his
      have := hadv.trans (c4 ((st.bind (takeO ts 2)).isSome && is))
      rw [his] at this ⊢
      cases hw : st.bind (winO ts) with
      | none => simpa [hw] using this
      | some p =>
        simp only [hw, Option.isSome_some, if_true, Option.map_some] at this ⊢
        obtain ⟨a, rfl, ha⟩ := Option.bind_eq_some_iff.1 hw
        have : a1 = p.2 := by
          unfold winO at ha
          obtain ⟨s, h1, h2⟩ := Option.bind_eq_some_iff.1 ha
          obtain ⟨n, h3, h4⟩ := Option.bind_eq_some_iff.1 h2
          split at h4
          · cases h4
            exact c3 _ (by simp [takeO, h1])
          · cases h4
        rwa [← this]
    have hwin : ∀ p, st.bind (winO ts) = some p → (st.bind (takeO ts 2)).isSome = true ∧ atoF ((st.bind (tokK ts 2)).getD []) = some p.1 ∧ 1 ≤ p.1 ∧ p.1 ≤ 1000 := by
      intro p hp
      obtain ⟨a, rfl, ha⟩ := Option.bind_eq_some_iff.1 hp
      unfold winO at ha
      obtain ⟨s, h1, h2⟩ := Option.bind_eq_some_iff.1 ha
      obtain ⟨n, h3, h4⟩ := Option.bind_eq_some_iff.1 h2
      split at h4
      · rename_i hc; cases h4; exact ⟨by simp [takeO, h1], by simp [h1, h3], hc.1, hc.2⟩
      · cases h4
    have hback : ∀ n, (st.bind (takeO ts 2)).isSome = true → atoF ((st.bind (tokK ts 2)).getD []) = some n → 1 ≤ n → n ≤ 1000 → (st.bind (winO ts)).isSome = true := by
      intro n h1 h2 h3 h4
      obtain ⟨b, hb⟩ := Option.isSome_iff_exists.1 h1
      obtain ⟨a, rfl, ha⟩ := Option.bind_eq_some_iff.1 hb
      unfold takeO at ha
      obtain ⟨s, hs, _⟩ := Option.map_eq_some_iff.1 ha
      simp only [Option.bind_some, hs, Option.getD_some] at h2
      simp [winO, hs, h2, h3, h4]
    have hpn : ∀ n, (∀ p, st.bind (winO ts) = some p → p.1 = n) ↔ (∀ p, st.bind (winO ts) = some p → p.1 = n) := fun _ => Iff.rfl
    generalize hb0 : (st.bind (takeO ts 2)).isSome = b0 at hcc c1 hfin hwin hback
    cases b0 with
    | false =>
      have hno : (st.bind (winO ts)).isSome = false := by
        cases hq : st.bind (winO ts) with
        | none => rfl
        | some p => exact absurd (hwin p hq).1 (by simp)
      have hf := hfin false (by simp [hno])
      have hq : ∀ p, st.bind (winO ts) = some p → p.1 = x := fun p hp => absurd (hwin p hp).1 (by simp)
      simp [hcc, hll, c1]
      exact ⟨by simpa using hf, by simpa using hq⟩
    | true =>
      rcases hx with ⟨n, h1, rfl, rfl⟩ | ⟨h1, t, p, rfl⟩
      · have hf := hfin (decide (1 ≤ x) && decide (x ≤ 1000)) (by
          cases hq : st.bind (winO ts) with
          | none =>
            cases hd : (decide (1 ≤ x) && decide (x ≤ 1000)) with
            | false => rfl
            | true =>
              simp only [Bool.and_eq_true, decide_eq_true_eq] at hd
              have := hback x rfl h1 hd.1 hd.2
              rw [hq] at this; cases this
          | some p =>
            have := hwin p hq
            rw [h1] at this
            obtain ⟨_, e, h3, h4⟩ := this
            cases e
            simp [h3, h4])
        have hq : ∀ p, st.bind (winO ts) = some p → p.1 = x := fun p hp => by
          have := (hwin p hp).2.1
          rw [h1] at this; cases this; rfl
        simp +contextual [hcc, hll, c1, aBin_nilif hu]
        exact ⟨by simpa using hf, by simpa using hq⟩
      · have hno : (st.bind (winO ts)).isSome = false := by
          cases hq : st.bind (winO ts) with
          | none => rfl
          | some p => have := (hwin p hq).2.1; rw [h1] at this; cases this
        have hf := hfin false (by simp [hno])
        have hq : ∀ p, st.bind (winO ts) = some p → p.1 = x := fun p hp => by
          rw [hp] at hno; cases hno
        simp [hcc, hll, c1, aBin_ifnil hu]
        exact ⟨by simpa using hf, by simpa using hq⟩
  obtain ⟨u, K', ⟨n, rfl, h⟩, hy⟩ := key
  exact ⟨n, K', hy, h⟩
theorem Adv.fin {H K K2 rb lv ts stT} (h : Adv H K K2 rb lv ts stT) : ∃ a1 : Nat, K2[rb]? = some (.cells [lv, i64 a1, .bool stT.isSome] 81) ∧ hcells K2 rb = some [lv, i64 a1, .bool stT.isSome] ∧ hlen K2 rb = some 3 ∧
    ∀ (stW : Option Nat) (is : Bool), (stT.isSome && is) = stW.isSome → (∀ a', stW = some a' → stT = some a') → Adv H K (K2.set rb (.cells [lv, i64 a1, .bool (stT.isSome && is)] 81)) rb lv ts stW := by
  obtain ⟨a1, c1, c2, c3, c4⟩ := RdS.cells h.rd
  refine ⟨a1, c1, by rw [hcells_eq, c1]; rfl, by unfold Vi.hlen; rw [c1]; rfl, fun stW is his hw => ?_⟩
  have := h.trans (c4 (stT.isSome && is))
  rw [his] at this ⊢
  cases stW with
  | none => simpa using this
  | some a' =>
    have e := c3 a' (hw a' rfl)
    subst e
    simpa using this
def valP (ts : List Tok) (a : Nat) : List UInt8 := if isT ts a 4 [45] = true then [45] else []
def valO (ts : List Tok) (a : Nat) : Option (Int × Nat) := (tokK ts 2 (takO ts 4 [45] a)).bind fun s => if (parF (valP ts a ++ s)).2 = 0 then some ((parF (valP ts a ++ s)).1, takO ts 4 [45] a + 1) else none
theorem g_value {H K rb lv ts st} (hn : NumTok ts) (h : RdS H K rb lv ts st) :
    ∃ n K', ACalls Tryz.prog 108 [rP rb] K (i64 n) K' ∧ Adv H K K' rb lv ts ((st.bind (valO ts)).map (·.2)) ∧ ∀ p, st.bind (valO ts) = some p → p.1 = n := by
  have key : ∃ u K', (∃ n, u = i64 n ∧ Adv H K K' rb lv ts ((st.bind (valO ts)).map (·.2)) ∧ ∀ p, st.bind (valO ts) = some p → p.1 = n) ∧ ACalls Tryz.prog 108 [rP rb] K u K' := by
    refine acalls_ex MixT Tryz.func108 (by decide) ?_
    rw [d108]
    obtain ⟨K1, g1, g2⟩ := g_takes h 4 [45]
    refine bndC_of g1 ?_
    have tail : ∀ (pre : List UInt8), pre.length ≤ 1 → (∀ a, st = some a → pre = valP ts a) → ∀ (s1 s2 s4 s5 s6 s7 s8 s9 s10 s11 s12 s13 s14 s15 s16 s17 s18 s19 s20 s21 s22 s23 s24 s25 s26 s27 : Value),
        S108x0 (fun u K' => ∃ n, u = i64 n ∧ Adv H K K' rb lv ts ((st.bind (valO ts)).map (·.2)) ∧ ∀ p, st.bind (valO ts) = some p → p.1 = n) [rP rb, s1, s2, str pre, s4, s5, s6, s7, s8, s9, s10, s11, s12, s13, s14, s15, s16, s17, s18, s19, s20, s21, s22, s23, s24, s25, s26, s27] K1 := by
      intro pre hp1 hpre s1 s2 s4 s5 s6 s7 s8 s9 s10 s11 s12 s13 s14 s15 s16 s17 s18 s19 s20 s21 s22 s23 s24 s25 s26 s27
      rw [S108x0q]
      obtain ⟨K2, q1, q2⟩ := g_take g2.rd 2
      refine bndC_of q1 ?_
      have hlen : (((st.map (takO ts 4 [45])).bind (tokK ts 2)).getD []).length < 2 ^ 20 := by
        cases hq : (st.map (takO ts 4 [45])).bind (tokK ts 2) with
        | none => simp
        | some s =>
          obtain ⟨a, _, ha⟩ := Option.bind_eq_some_iff.1 hq
          obtain ⟨t, t1, t2, rfl⟩ := tokK_ok ha
          exact (hn a t t1).1
      have e1 := fun H X Y => aBin_str (P := Tryz.prog) (H := H) (T := 9) (x := X) (y := Y) (a := pre) (b := ((st.map (takO ts 4 [45])).bind (tokK ts 2)).getD []) (by omega)
      simp only [e1, bnd_some]
      refine bndC_of (c_fixParse (by simp; omega)) ?_
      obtain ⟨a1, c1, hcc, hll, hfin⟩ := (g2.trans q2).fin
      generalize hs : ((st.map (takO ts 4 [45])).bind (tokK ts 2)).getD [] = s at *
      have hval : ∀ p, st.bind (valO ts) = some p → p.1 = (parF (pre ++ s)).1 ∧ (parF (pre ++ s)).2 = 0 ∧ (st.map (takO ts 4 [45])).bind (takeO ts 2) = some p.2 := by
        intro p hp
        obtain ⟨a, rfl, ha⟩ := Option.bind_eq_some_iff.1 hp
        unfold valO at ha
        obtain ⟨s', h1, h2⟩ := Option.bind_eq_some_iff.1 ha
        rw [hpre a rfl]
        simp only [Option.map_some, Option.bind_some, h1, Option.getD_some] at hs
        subst hs
        split at h2
        · rename_i h0; cases h2; exact ⟨rfl, h0, by simp [takeO, h1]⟩
        · cases h2
      have hback : ((st.map (takO ts 4 [45])).bind (takeO ts 2)).isSome = true → (parF (pre ++ s)).2 = 0 → (st.bind (valO ts)).isSome = true := by
        intro h1 h2
        obtain ⟨b, hb⟩ := Option.isSome_iff_exists.1 h1
        obtain ⟨a', ha', hb'⟩ := Option.bind_eq_some_iff.1 hb
        obtain ⟨a, rfl, rfl⟩ := Option.map_eq_some_iff.1 ha'
        unfold takeO at hb'
        obtain ⟨s', hs', _⟩ := Option.map_eq_some_iff.1 hb'
        simp only [Option.map_some, Option.bind_some, hs', Option.getD_some] at hs
        subst hs
        rw [hpre a rfl] at h2
        simp [valO, hs', h2]
      have hq : ∀ p, st.bind (valO ts) = some p → p.1 = (parF (pre ++ s)).1 := fun p hp => (hval p hp).1
      have hf := hfin ((st.bind (valO ts)).map (·.2)) ((parF (pre ++ s)).2 == 0) (by
        cases hv : st.bind (valO ts) with
        | some p => obtain ⟨_, e2, e3⟩ := hval p hv; simp [e2, e3]
        | none =>
          cases h1 : ((st.map (takO ts 4 [45])).bind (takeO ts 2)).isSome with
          | false => rfl
          | true =>
            by_cases h2 : (parF (pre ++ s)).2 = 0
            · have := hback h1 h2; rw [hv] at this; cases this
            · simp [h2]) (by
        intro a' ha'
        obtain ⟨p, hp, rfl⟩ := Option.map_eq_some_iff.1 ha'
        exact (hval p hp).2.2)
      generalize ((st.map (takO ts 4 [45])).bind (takeO ts 2)).isSome = b0 at *
      cases b0 with
      | false =>
        simp [hcc, hll, c1]
        exact ⟨by simpa using hf, by simpa using hq⟩
      | true =>
        simp [hcc, hll, c1]
        exact ⟨by simpa using hf, by simpa using hq⟩
    refine kifB_bool (fun hb => ?_) (fun hb => ?_)
    · refine tail [45] (by simp) (fun a ha => ?_) _ _ _ _ _ _ _ _ _ _ _ _ _ _ _ _ _ _ _ _ _ _ _ _ _ _
      rw [ha] at hb
      simp at hb
      simp [valP, hb]
    · refine tail [] (by simp) (fun a ha => ?_) _ _ _ _ _ _ _ _ _ _ _ _ _ _ _ _ _ _ _ _ _ _ _ _ _ _
      rw [ha] at hb
      simp at hb
      simp [valP, hb]
  obtain ⟨u, K', ⟨n, rfl, h⟩, hy⟩ := key
  exact ⟨n, K', hy, h⟩
end Go.Vi
namespace Go.Vi
open Go Go.Proofs

def opsL : List (List UInt8) := [[61], [33, 61], [94, 61]]
theorem c_ops (H : AHeap) : ACalls Tryz.prog 128 [] H (.slice (some ⟨H.length, 0, some 3⟩) 3 3) (H ++ [.cells (opsL.map str) 9]) := by
  refine acalls_of MixT Tryz.func128 (by decide) ?_
  rw [d128]
  exact bndL_of (by decide) (by kernel_rfl) ⟨rfl, rfl⟩
theorem mael1 : aElem Tryz.prog 35 = some (75, 3, 40) := by kernel_rfl
theorem mael2 : isSeq Tryz.prog 35 = true := by kernel_rfl
theorem mat_lit {K : AHeap} (m : Mat) : sliceLit Tryz.prog K 35 1 [(0, .agg m.cells.toArray)] (.slice (some ⟨K.length, 0, some 3⟩) 1 1) (K ++ [.cells m.cells 75]) :=
  sliceLitA (c := m.cells) (tbs35 K 1 _) (by rfl) (by simp [Mat.cells]) (by simp)
def matO (ts : List Tok) (a : Nat) : Option (Mat × Nat) := (tokK ts 1 a).bind fun n => (tokK ts 4 (a + 1)).bind fun o => if o ∈ opsL then (tokK ts 3 (a + 2)).bind fun v => some (⟨n, idxS opsL o, v⟩, a + 3) else none
def selL (ts : List Tok) : Nat → Nat → List Mat → Option (List Mat × Nat)
  | 0, _, _ => none
  | f + 1, a, acc => (matO ts a).bind fun p => if isT ts p.2 4 [44] = true then selL ts f (p.2 + 1) (acc ++ [p.1]) else some (acc ++ [p.1], p.2)
def selE (ts : List Tok) (ms : List Mat) (a : Nat) : Option Nat := (signO ts [125] a).bind fun c => if mayMats ms = true then some c else none
def selO (ts : List Tok) (a : Nat) : Option (List Mat × Nat) := (signO ts [123] a).bind fun a1 =>
  if isT ts a1 4 [125] = true then some ([], a1 + 1) else (selL ts (ts.length + 1) a1 []).bind fun p => (selE ts p.1 p.2).map fun c => (p.1, c)
theorem sel_end {H K0 K rb lv ts st lo} {mv : Value} {ms : List Mat} {more : Bool} {k : Value → AHeap → Prop} (h : Adv H K0 K rb lv ts st) (hg : Gro K lo 3 75 mv (ms.map Mat.cells)) (hrb : rb < lo) (hml : ms.length < 2 ^ 62) (hm : (more && st.isSome) = false)
    (hk : ∀ K', Adv H K0 K' rb lv ts (st.bind (selE ts ms)) → Gro K' lo 3 75 mv (ms.map Mat.cells) → k mv K') (n : Nat) (s1 s2 s5 s6 s7 s8 s9 s10 s11 s12 s13 s14 s15 s16 s17 s18 s19 s20 s21 s22 s23 s24 s25 s26 s27 s28 s29 s30 s31 s32 s33 s34 s35 s36 s37 s38 s39 s40 s41 s42 : Value) :
    L106x0 (n + 1) k [rP rb, s1, s2, mv, .bool more, s5, s6, s7, s8, s9, s10, s11, s12, s13, s14, s15, s16, s17, s18, s19, s20, s21, s22, s23, s24, s25, s26, s27, s28, s29, s30, s31, s32, s33, s34, s35, s36, s37, s38, s39, s40, s41, s42] K := by
  rw [L106x0q]
  obtain ⟨a0, c0, hcc0, hll0, _⟩ := h.fin
  obtain ⟨K1, g1, g2⟩ := g_sign h.rd [125]
  have h2 := h.trans g2
  have hg1 : Gro K1 lo 3 75 mv (ms.map Mat.cells) := hg.frm fun b o hb ho => g2.fr b o (by omega) ho
  obtain ⟨a1, c1, hcc, hll, hfin⟩ := h2.fin
  have rest : bndC Tryz.prog 69 [rP rb, str [125]] K (q := ⟨fun _ _ => True⟩) := bndC_of g1 trivial
  have hmm : MatsAt K1 mv ms := hg1.arr
  have hf := hfin (st.bind (selE ts ms)) (mayMats ms) (by
    cases st with
    | none => rfl
    | some a =>
      simp only [Option.bind_some, selE]
      cases signO ts [125] a with
      | none => rfl
      | some c => cases mayMats ms <;> simp) (by
    intro a' ha'
    cases st with
    | none => cases ha'
    | some a =>
      simp only [Option.bind_some, selE] at ha' ⊢
      cases hs : signO ts [125] a with
      | none => simp [hs] at ha'
      | some c =>
        simp only [hs, Option.bind_some] at ha'
        split at ha'
        · exact ha'
        · cases ha')
  have hfg : ∀ ok', Gro (K1.set rb (.cells [lv, i64 a1, .bool ok'] 81)) lo 3 75 mv (ms.map Mat.cells) := fun ok' => hg1.set (by omega)
  clear rest
  generalize (st.bind (signO ts [125])).isSome = b0 at *
  have go : ∀ (q : QH), (∀ v, q.f v K1) → @bndC Tryz.prog 69 [rP rb, str [125]] K q := fun q hq => bndC_of g1 (hq _)
  have tail : ∀ (kk : Value → AHeap → Prop), kk = k → (kk mv (K1.set rb (.cells [lv, i64 a1, .bool (b0 && mayMats ms)] 81))) := fun kk e => by rw [e]; exact hk _ hf (hfg _)
  cases more with
  | false =>
    simp
    refine bndC_of g1 ?_
    cases b0 with
    | false => simp [hcc, hll, c1]; simpa using tail k rfl
    | true =>
      simp [hcc, hll]
      refine bndG_call (.bool (mayMats ms)) (fun _ => c_matchMay hmm (by omega)) ?_
      simp [hll, c1]
      simpa using tail k rfl
  | true =>
    have hst : st.isSome = false := by simpa using hm
    rw [hst] at hcc0 c0
    simp [hcc0, hll0]
    refine bndC_of g1 ?_
    cases b0 with
    | false => simp [hcc, hll, c1]; simpa using tail k rfl
    | true =>
      simp [hcc, hll]
      refine bndG_call (.bool (mayMats ms)) (fun _ => c_matchMay hmm (by omega)) ?_
      simp [hll, c1]
      simpa using tail k rfl
theorem sel_loop {H K0 rb lv ts lo} {k : Value → AHeap → Prop} (hrb : rb < lo) (hK0 : K0.length ≤ lo) (hH : H.length ≤ lo) : ∀ (f : Nat) (a : Nat) (acc : List Mat) (K : AHeap) (mv : Value), Adv H K0 K rb lv ts (some a) → lo ≤ K.length → Gro K lo 3 75 mv (acc.map Mat.cells) → ts.length < f + a → acc.length + f ≤ 2 ^ 41 →
    (∀ sv ms K', Adv H K0 K' rb lv ts ((selL ts f a acc).bind fun p => selE ts p.1 p.2) → Gro K' lo 3 75 sv (ms.map Mat.cells) → (∀ p, selL ts f a acc = some p → p.1 = ms) → ms.length ≤ 2 ^ 41 → k sv K') →
    ∃ n, ∀ (s1 s2 s5 s6 s7 s8 s9 s10 s11 s12 s13 s14 s15 s16 s17 s18 s19 s20 s21 s22 s23 s24 s25 s26 s27 s28 s29 s30 s31 s32 s33 s34 s35 s36 s37 s38 s39 s40 s41 s42 : Value), L106x0 n k [rP rb, s1, s2, mv, .bool true, s5, s6, s7, s8, s9, s10, s11, s12, s13, s14, s15, s16, s17, s18, s19, s20, s21, s22, s23, s24, s25, s26, s27, s28, s29, s30, s31, s32, s33, s34, s35, s36, s37, s38, s39, s40, s41, s42] K := by
  intro f
  induction f with
  | zero => intro a acc K mv h _ _ hf _ _; have := h.rd.le; omega
  | succ f ih =>
    intro a acc K mv h hlo hg hf hacc hk
    obtain ⟨a0, c0, hcc0, hll0, _⟩ := h.fin
    obtain ⟨K1, g1, g2⟩ := g_take h.rd 1
    have hops := c_ops K1
    have v2 := g2.app [.cells (opsL.map str) 9]
    have harr : Arr (K1 ++ [.cells (opsL.map str) 9]) 1 (.slice (some ⟨K1.length, 0, some 3⟩) 3 3) (strCells opsL) := arr_strs opsL 9 3 rfl
    obtain ⟨K3, p1, p2⟩ := g_one v2.rd 4 harr (by decide) (by decide) (by decide)
    obtain ⟨K4, q1, q2⟩ := g_take p2.rd 3
    have adv4 := ((v2.trans p2).trans q2)
    have hst : (((some a).bind (takeO ts 1)).bind (oneO ts 4 opsL)).bind (takeO ts 3) = (matO ts a).map (·.2) ∧ (∀ p, matO ts a = some p → p.1 = ⟨((some a).bind (tokK ts 1)).getD [], idxS opsL ((((some a).bind (takeO ts 1)).bind (tokK ts 4)).getD []), ((((some a).bind (takeO ts 1)).bind (oneO ts 4 opsL)).bind (tokK ts 3)).getD []⟩) := by
      unfold matO takeO oneO
      simp only [Option.bind_some]
      cases tokK ts 1 a with
      | none => simp
      | some n =>
        simp only [Option.map_some, Option.bind_some]
        cases tokK ts 4 (a + 1) with
        | none => simp
        | some o =>
          simp only [Option.bind_some]
          by_cases ho : o ∈ opsL
          · simp only [if_pos ho, Option.bind_some]
            cases tokK ts 3 (a + 1 + 1) with
            | none => simp
            | some v => simp
          · simp [if_neg ho]
    generalize ((some a).bind (tokK ts 1)).getD [] = t1 at *
    generalize (((some a).bind (takeO ts 1)).bind (tokK ts 4)).getD [] = t2 at *
    generalize ((((some a).bind (takeO ts 1)).bind (oneO ts 4 opsL)).bind (tokK ts 3)).getD [] = t3 at *
    rw [hst.1] at q2 adv4
    have hm := hst.2
    obtain ⟨v', K5, r1, r2, r3, r4, r5⟩ := Gro.push (P := Tryz.prog) (Ts := 35) (by_ := 40) (x := .slice (some ⟨K4.length, 0, some 3⟩) 1 1) (c := Mat.cells ⟨t1, idxS opsL t2, t3⟩)
      ((hg.frm fun b o hb ho => adv4.fr b o (by omega) ho).app (X := [.cells (Mat.cells ⟨t1, idxS opsL t2, t3⟩) 75])) mael1 mael2 rfl (by have := adv4.len; simp; omega) (by simp [aSrc, Mat.cells]) (by simp; omega) (by simp; omega)
    have a0' := (h.trans adv4).app [.cells (Mat.cells ⟨t1, idxS opsL t2, t3⟩) 75]
    have adv5 : Adv H K0 K5 rb lv ts ((matO ts a).map (·.2)) :=
      ⟨a0'.rd.frame (r5 H a0'.rd.pre hH) fun o ho => r3 rb o hrb ho, fun b o hb ho => r3 b o (by have := (List.getElem?_eq_some_iff.1 ho).1; omega) (a0'.fr b o hb ho), by have := a0'.len; omega⟩
    obtain ⟨K6, u1, u2⟩ := g_takes adv5.rd 4 [44]
    have adv6 := adv5.trans u2
    have r6 := r2.frm (K' := K6) fun b o hb ho => u2.fr b o (by omega) ho
    have hlo6 : lo ≤ K6.length := by have := u2.len; have := adv4.len; simp at r4; omega
    rw [show acc.map Mat.cells ++ [Mat.cells ⟨t1, idxS opsL t2, t3⟩] = (acc ++ [(⟨t1, idxS opsL t2, t3⟩ : Mat)]).map Mat.cells by simp] at r2 r6
    have next : ∃ n, ∀ (s1 s2 s5 s6 s7 s8 s9 s10 s11 s12 s13 s14 s15 s16 s17 s18 s19 s20 s21 s22 s23 s24 s25 s26 s27 s28 s29 s30 s31 s32 s33 s34 s35 s36 s37 s38 s39 s40 s41 s42 : Value), L106x0 n k [rP rb, s1, s2, v', .bool (((matO ts a).map (·.2)).any fun a => isT ts a 4 [44]), s5, s6, s7, s8, s9, s10, s11, s12, s13, s14, s15, s16, s17, s18, s19, s20, s21, s22, s23, s24, s25, s26, s27, s28, s29, s30, s31, s32, s33, s34, s35, s36, s37, s38, s39, s40, s41, s42] K6 := by
      cases hmo : matO ts a with
      | none =>
        simp only [hmo, Option.map_none, Option.any_none] at adv6 ⊢
        refine ⟨1, fun s1 s2 s5 s6 s7 s8 s9 s10 s11 s12 s13 s14 s15 s16 s17 s18 s19 s20 s21 s22 s23 s24 s25 s26 s27 s28 s29 s30 s31 s32 s33 s34 s35 s36 s37 s38 s39 s40 s41 s42 => sel_end adv6 r6 hrb (by simp; omega) rfl (fun K' e1 e2 => ?_) 0 _ _ _ _ _ _ _ _ _ _ _ _ _ _ _ _ _ _ _ _ _ _ _ _ _ _ _ _ _ _ _ _ _ _ _ _ _ _ _ _⟩
        refine hk _ _ K' ?_ e2 ?_ (by simp; omega)
        · simpa [selL, hmo] using e1
        · intro p hp; simp [selL, hmo] at hp
      | some mc =>
        obtain ⟨m, c⟩ := mc
        obtain rfl := hm _ hmo
        simp only [hmo, Option.map_some, Option.any_some, takO] at adv6 ⊢
        cases hcm : isT ts c 4 [44] with
        | true =>
          simp only [hcm, if_true] at adv6
          have hca : a + 3 = c := by
            unfold matO at hmo
            obtain ⟨_, _, h2⟩ := Option.bind_eq_some_iff.1 hmo
            obtain ⟨_, _, h3⟩ := Option.bind_eq_some_iff.1 h2
            split at h3
            · obtain ⟨_, _, h4⟩ := Option.bind_eq_some_iff.1 h3; exact congrArg Prod.snd (Option.some.inj h4)
            · cases h3
          refine ih (c + 1) _ K6 v' adv6 hlo6 r6 (by omega) (by simp; omega) fun sv ms K' e1 e2 e3 e4 => hk sv ms K' ?_ e2 ?_ e4
          · simpa [selL, hmo, hcm] using e1
          · intro p hp; exact e3 p (by simpa [selL, hmo, hcm] using hp)
        | false =>
          simp only [hcm, Bool.false_eq_true, if_false] at adv6
          refine ⟨1, fun s1 s2 s5 s6 s7 s8 s9 s10 s11 s12 s13 s14 s15 s16 s17 s18 s19 s20 s21 s22 s23 s24 s25 s26 s27 s28 s29 s30 s31 s32 s33 s34 s35 s36 s37 s38 s39 s40 s41 s42 => sel_end adv6 r6 hrb (by simp; omega) rfl (fun K' e1 e2 => ?_) 0 _ _ _ _ _ _ _ _ _ _ _ _ _ _ _ _ _ _ _ _ _ _ _ _ _ _ _ _ _ _ _ _ _ _ _ _ _ _ _ _⟩
          refine hk _ _ K' ?_ e2 ?_ (by simp; omega)
          · simpa [selL, hmo, hcm] using e1
          · intro p hp
            simp [selL, hmo, hcm] at hp
            rw [← hp]
    obtain ⟨n, hn⟩ := next
    refine ⟨n + 1, fun s1 s2 s5 s6 s7 s8 s9 s10 s11 s12 s13 s14 s15 s16 s17 s18 s19 s20 s21 s22 s23 s24 s25 s26 s27 s28 s29 s30 s31 s32 s33 s34 s35 s36 s37 s38 s39 s40 s41 s42 => ?_⟩
    rw [L106x0q]
    simp [hcc0, hll0]
    refine bndC_of g1 ?_
    refine bndC_of hops ?_
    refine bndC_of p1 ?_
    refine bndC_of q1 ?_
    have hlit := mat_lit (K := K4) ⟨t1, idxS opsL t2, t3⟩
    simp only [Mat.cells] at hlit r1
    simp
    refine bndL_lit hlit ?_
    dsimp only
    rw [r1]
    simp only [bndE_some]
    refine bndC_of u1 ?_
    exact hn _ _ _ _ _ _ _ _ _ _ _ _ _ _ _ _ _ _ _ _ _ _ _ _ _ _ _ _ _ _ _ _ _ _ _ _ _ _ _ _
theorem g_selects {H K rb lv ts st} (h : RdS H K rb lv ts st) :
    ∃ sv ms K', ACalls Tryz.prog 106 [rP rb] K sv K' ∧ Adv H K K' rb lv ts ((st.bind (selO ts)).map (·.2)) ∧ Gro K' K.length 3 75 sv (ms.map Mat.cells) ∧ (∀ p, st.bind (selO ts) = some p → p.1 = ms) ∧ ms.length ≤ 2 ^ 41 := by
  have key : ∃ sv K', (∃ ms, Adv H K K' rb lv ts ((st.bind (selO ts)).map (·.2)) ∧ Gro K' K.length 3 75 sv (ms.map Mat.cells) ∧ (∀ p, st.bind (selO ts) = some p → p.1 = ms) ∧ ms.length ≤ 2 ^ 41) ∧ ACalls Tryz.prog 106 [rP rb] K sv K' := by
    refine acalls_ex MixT Tryz.func106 (by decide) ?_
    rw [d106]
    obtain ⟨K1, g1, g2⟩ := g_sign h [123]
    refine bndC_of g1 ?_
    obtain ⟨K2, p1, p2⟩ := g_takes g2.rd 4 [125]
    refine bndC_of p1 ?_
    have adv := g2.trans p2
    have hrb := h.lt
    have hlen := h.len
    have hH : H.length ≤ K.length := by obtain ⟨X, hX⟩ := h.pre; rw [hX]; simp
    refine kifB_bool (fun hb => ?_) (fun hb => ?_)
    · cases st with
      | none => cases hb
      | some a =>
        simp only [Option.bind_some] at hb adv ⊢
        cases hs : signO ts [123] a with
        | none => simp [hs] at hb
        | some a1 =>
          simp only [hs, Option.any_some, Option.map_some, takO] at hb adv
          rw [hb, if_pos rfl] at adv
          exact ⟨[], by simpa [selO, hs, hb] using adv, .nil, by simp [selO, hs, hb], by simp⟩
    · cases hs : st.bind (signO ts [123]) with
      | none =>
        rw [hs] at adv
        have hno : st.bind (selO ts) = none := by
          cases st with
          | none => rfl
          | some a => simp only [Option.bind_some] at hs ⊢; simp [selO, hs]
        refine ⟨1, sel_end (ms := []) (lo := K.length) adv .nil hrb (by simp) (by simp) (fun K' e1 e2 => ?_) 0 _ _ _ _ _ _ _ _ _ _ _ _ _ _ _ _ _ _ _ _ _ _ _ _ _ _ _ _ _ _ _ _ _ _ _ _ _ _ _ _⟩
        exact ⟨[], by simpa [hno] using e1, e2, by simp [hno], by simp⟩
      | some a1 =>
        rw [hs] at adv hb
        simp only [Option.any_some] at hb
        simp only [Option.map_some, takO, hb, Bool.false_eq_true, if_false] at adv
        obtain ⟨a, rfl, ha⟩ := Option.bind_eq_some_iff.1 hs
        have hso : selO ts a = (selL ts (ts.length + 1) a1 []).bind fun p => (selE ts p.1 p.2).map fun c => (p.1, c) := by
          simp [selO, ha, hb]
        obtain ⟨n, hn⟩ := sel_loop (lo := K.length) (k := fun sv K' => ∃ ms, Adv H K K' rb lv ts (((some a).bind (selO ts)).map (·.2)) ∧ Gro K' K.length 3 75 sv (ms.map Mat.cells) ∧ (∀ p, (some a).bind (selO ts) = some p → p.1 = ms) ∧ ms.length ≤ 2 ^ 41) hrb (Nat.le_refl _) hH (ts.length + 1) a1 [] K2 (.slice none 0 0) adv adv.len .nil (by omega) (by simp; omega) (by
          intro sv ms K' e1 e2 e3 e4
          refine ⟨ms, ?_, e2, ?_, e4⟩
          · simp only [Option.bind_some, hso]
            cases hl : selL ts (ts.length + 1) a1 [] with
            | none => simpa [hl] using e1
            | some p =>
              simp only [hl, Option.bind_some] at e1 ⊢
              cases he : selE ts p.1 p.2 with
              | none => simpa [he] using e1
              | some c => simpa [he] using e1
          · intro p hp
            simp only [Option.bind_some, hso] at hp
            obtain ⟨q, h1, h2⟩ := Option.bind_eq_some_iff.1 hp
            obtain ⟨c, _, rfl⟩ := Option.map_eq_some_iff.1 h2
            exact e3 q h1)
        exact ⟨n, hn _ _ _ _ _ _ _ _ _ _ _ _ _ _ _ _ _ _ _ _ _ _ _ _ _ _ _ _ _ _ _ _ _ _ _ _ _ _ _ _⟩
  obtain ⟨sv, K', ⟨ms, h⟩, hy⟩ := key
  exact ⟨sv, ms, K', hy, h⟩
end Go.Vi
namespace Go.Vi
open Go Go.Proofs

structure CmpG (H K L : AHeap) (rb : Nat) (lv : Value) (ts : List Tok) (st : Option Nat) (b0 b1 : Nat) (n : List Value) : Prop where
  rd : RdS H L rb lv ts st
  f0 : L[b0]? = some (.cells nodZ 37)
  f1 : L[b1]? = some (.cells n 37)
  fr : ∀ (b : Nat) o, b ≠ rb → K[b]? = some o → L[b]? = some o
  len : K.length ≤ L.length
  hH : H.length ≤ K.length
  k0 : rb < K.length
  k1 : K.length ≤ b0
  k2 : K.length ≤ b1
  k3 : b0 ≠ b1
theorem CmpG.adv {H K L L' rb lv ts st st' b0 b1 n} (h : CmpG H K L rb lv ts st b0 b1 n) (a : Adv H L L' rb lv ts st') : CmpG H K L' rb lv ts st' b0 b1 n :=
  ⟨a.rd, a.fr _ _ (by have := h.k0; have := h.k1; omega) h.f0, a.fr _ _ (by have := h.k0; have := h.k2; omega) h.f1, fun b o hb ho => a.fr b o hb (h.fr b o hb ho), Nat.le_trans h.len a.len, h.hH, h.k0, h.k1, h.k2, h.k3⟩
theorem CmpG.app {H K L rb lv ts st b0 b1 n} (h : CmpG H K L rb lv ts st b0 b1 n) (X : AHeap) : CmpG H K (L ++ X) rb lv ts st b0 b1 n := h.adv ((Adv.refl h.rd).app X)
theorem CmpG.sto {H K L rb lv ts st b0 b1 n} (h : CmpG H K L rb lv ts st b0 b1 n) (n' : List Value) : CmpG H K (L.set b1 (.cells n' 37)) rb lv ts st b0 b1 n' := by
  have h0 := h.hH; have h1 := h.k0; have h2 := h.k1; have h3 := h.k2
  have hb1 := (List.getElem?_eq_some_iff.1 h.f1).1
  refine ⟨h.rd.frame (h.rd.pre.set (by omega)) fun o ho => by rw [List.getElem?_set_ne (by omega)]; exact ho, by rw [List.getElem?_set_ne (Ne.symm h.k3)]; exact h.f0, by rw [List.getElem?_set_self hb1], fun b o hb ho => ?_, by simpa using h.len, h.hH, h.k0, h.k1, h.k2, h.k3⟩
  have hbk := (List.getElem?_eq_some_iff.1 ho).1
  rw [List.getElem?_set_ne (by omega)]
  exact h.fr b o hb ho
theorem CmpG.fin {H K L rb lv ts st b0 b1 n} (h : CmpG H K L rb lv ts st b0 b1 n) (n' : List Value) : Adv H K (L.set b0 (.cells n' 37)) rb lv ts st := by
  have h0 := h.hH; have h1 := h.k0; have h2 := h.k1; have h3 := h.k2
  refine ⟨h.rd.frame (h.rd.pre.set (by omega)) fun o ho => by rw [List.getElem?_set_ne (by omega)]; exact ho, fun b o hb ho => ?_, by simpa using h.len⟩
  have hbk := (List.getElem?_eq_some_iff.1 ho).1
  rw [List.getElem?_set_ne (by omega)]
  exact h.fr b o hb ho
theorem CmpG.hl {H K L rb lv ts st b0 b1 n} (h : CmpG H K L rb lv ts st b0 b1 n) : hlen L b1 = some n.length := by unfold hlen; rw [h.f1]; rfl
theorem CmpG.hc {H K L rb lv ts st b0 b1 n} (h : CmpG H K L rb lv ts st b0 b1 n) : hcells L b1 = some n := by rw [hcells_eq, h.f1]; rfl
def txtK (ts : List Tok) (k : Int) (a : Nat) : List UInt8 := (tokK ts k a).getD []
def cmpO (ts : List Tok) (a : Nat) : Option (Nod × Nat) := (oneO ts 1 aggs a).bind fun b1 => (signO ts [40] b1).bind fun b2 => (selO ts b2).bind fun p => (signO ts [91] p.2).bind fun b3 => (winO ts b3).bind fun w =>
  (signO ts [93] w.2).bind fun b4 => (signO ts [41] b4).bind fun b5 => (oneO ts 4 cmps b5).bind fun b6 => (valO ts b6).bind fun v =>
    some (⟨0, UInt8.ofNat (idxS aggs (txtK ts 1 a)), p.1, w.1, UInt8.ofNat (idxS cmps (txtK ts 4 b5)), v.1, 0, 0⟩, v.2)
theorem cmp_chain {ts : List Tok} {st s2 s3 s4 s5 s7 s8 : Option Nat} {ms : List Mat} {w x : Int} (e2 : s2 = (st.bind (oneO ts 1 aggs)).bind (signO ts [40])) (e3 : s3 = (s2.bind (selO ts)).map (·.2)) (e4 : s4 = s3.bind (signO ts [91])) (e5 : s5 = (s4.bind (winO ts)).map (·.2))
    (e7 : s7 = (s5.bind (signO ts [93])).bind (signO ts [41])) (e8 : s8 = s7.bind (oneO ts 4 cmps)) (hm : ∀ p, s2.bind (selO ts) = some p → p.1 = ms) (hw : ∀ p, s4.bind (winO ts) = some p → p.1 = w) (hx : ∀ p, s8.bind (valO ts) = some p → p.1 = x) :
    (s8.bind (valO ts)).map (·.2) = (st.bind (cmpO ts)).map (·.2) ∧ ∀ p, st.bind (cmpO ts) = some p → p.1 = ⟨0, UInt8.ofNat (idxS aggs ((st.bind (tokK ts 1)).getD [])), ms, w, UInt8.ofNat (idxS cmps ((s7.bind (tokK ts 4)).getD [])), x, 0, 0⟩ := by
  cases st with
  | none => subst e2 e3 e4 e5 e7 e8; simp
  | some a =>
    simp only [Option.bind_some] at e2 ⊢
    unfold cmpO
    cases h1 : oneO ts 1 aggs a with
    | none => simp only [h1] at e2; subst e2 e3 e4 e5 e7 e8; simp
    | some b1 =>
      simp only [h1, Option.bind_some] at e2 ⊢
      cases h2 : signO ts [40] b1 with
      | none => rw [h2] at e2; subst e2 e3 e4 e5 e7 e8; simp
      | some b2 =>
        rw [h2] at e2
        subst e2
        simp only [Option.bind_some] at e3 hm ⊢
        cases h3 : selO ts b2 with
        | none => rw [h3] at e3; subst e3 e4 e5 e7 e8; simp
        | some p =>
          rw [h3] at e3
          have hm := hm _ h3
          subst e3
          simp only [Option.map_some, Option.bind_some] at e4 ⊢
          cases h4 : signO ts [91] p.2 with
          | none => rw [h4] at e4; subst e4 e5 e7 e8; simp
          | some b3 =>
            rw [h4] at e4
            subst e4
            simp only [Option.bind_some] at e5 hw ⊢
            cases h5 : winO ts b3 with
            | none => rw [h5] at e5; subst e5 e7 e8; simp
            | some ww =>
              rw [h5] at e5
              have hw := hw _ h5
              subst e5
              simp only [Option.map_some, Option.bind_some] at e7 ⊢
              cases h6 : signO ts [93] ww.2 with
              | none => rw [h6] at e7; subst e7 e8; simp
              | some b4 =>
                simp only [h6, Option.bind_some] at e7 ⊢
                cases h7 : signO ts [41] b4 with
                | none => rw [h7] at e7; subst e7 e8; simp
                | some b5 =>
                  rw [h7] at e7
                  subst e7
                  simp only [Option.bind_some] at e8 ⊢
                  cases h8 : oneO ts 4 cmps b5 with
                  | none => rw [h8] at e8; subst e8; simp
                  | some b6 =>
                    rw [h8] at e8
                    subst e8
                    simp only [Option.bind_some] at hx ⊢
                    cases h9 : valO ts b6 with
                    | none => simp
                    | some v =>
                      have hx := hx _ h9
                      simp [txtK, hm, hw, hx]
theorem u8_of {n : Nat} (h : n < 256) : ((UInt8.ofNat n).toNat : Int) = n := by simp only [UInt8.toNat_ofNat']; omega
theorem g_comparison {H K rb lv ts st} (hg : Pre Gs H) (hn : NumTok ts) (h : RdS H K rb lv ts st) :
    ∃ n sv K', ACalls Tryz.prog 70 [rP rb] K (.agg ((n : Nod).cells sv).toArray) K' ∧ Adv H K K' rb lv ts ((st.bind (cmpO ts)).map (·.2)) ∧ Gro K' K.length 3 75 sv (n.sel.map Mat.cells) ∧ (∀ p, st.bind (cmpO ts) = some p → p.1 = n) ∧ n.sel.length ≤ 2 ^ 41 := by
  have key : ∃ v K', (∃ (n : Nod) (sv : Value), v = .agg (n.cells sv).toArray ∧ Adv H K K' rb lv ts ((st.bind (cmpO ts)).map (·.2)) ∧ Gro K' K.length 3 75 sv (n.sel.map Mat.cells) ∧ (∀ p, st.bind (cmpO ts) = some p → p.1 = n) ∧ n.sel.length ≤ 2 ^ 41) ∧ ACalls Tryz.prog 70 [rP rb] K v K' := by
    refine acalls_ex MixT Tryz.func70 (by decide) ?_
    rw [d70]
    simp
    refine bndC_of (c_aggregates _) ?_
    have hrb := h.lt
    have hH : H.length ≤ K.length := by obtain ⟨X, hX⟩ := h.pre; rw [hX]; simp
    have v0 := (Adv.refl h).app [AObj.cells nodZ 37]
    have v1 := v0.app [AObj.cells (aggs.map str) 9]
    obtain ⟨K1, a1, a2⟩ := g_one v1.rd 1 (arr_strs aggs 9 6 rfl) (by decide) (by decide) (by decide)
    refine bndC_of a1 ?_
    have hz : K1[K.length]? = some (.cells nodZ 37) := a2.fr _ _ (by omega) (by simp)
    have hi1 : idxS aggs ((st.bind (tokK ts 1)).getD []) < 6 := by
      unfold idxS; split
      · rename_i q; exact List.idxOf_lt_length_of_mem q
      · omega
    generalize hi : idxS aggs ((st.bind (tokK ts 1)).getD []) = i at hi1 ⊢
    have v2 := v1.trans a2
    have c0 : CmpG H K (K1 ++ [AObj.cells [.int .u8 0, .int .u8 i, .slice none 0 0, i64 0, .int .u8 0, i64 0, i64 0, i64 0] 37]) rb lv ts (st.bind (oneO ts 1 aggs)) K.length K1.length [.int .u8 0, .int .u8 i, .slice none 0 0, i64 0, .int .u8 0, i64 0, i64 0, i64 0] :=
      ⟨v2.rd.app _, get_more hz, by simp, fun b o hb ho => get_more (v2.fr b o hb ho), by have := v2.len; simp; omega, hH, hrb, Nat.le_refl _, v2.len, by have := a2.len; simp at this; omega⟩
    simp
    generalize K1 ++ [AObj.cells [.int .u8 0, .int .u8 i, .slice none 0 0, i64 0, .int .u8 0, i64 0, i64 0, i64 0] 37] = L1 at c0 ⊢
    obtain ⟨L2, g1, g2⟩ := g_sign c0.rd [40]
    refine bndC_of g1 ?_
    have c1 := c0.adv g2
    generalize hs2 : (st.bind (oneO ts 1 aggs)).bind (signO ts [40]) = s2 at c1
    obtain ⟨sv, ms, L3, g3, g4, gs, gm, gml⟩ := g_selects c1.rd
    refine bndC_of g3 ?_
    have c2 := c1.adv g4
    generalize hs3 : (s2.bind (selO ts)).map (·.2) = s3 at c2
    have hlo : K1.length < L2.length := (List.getElem?_eq_some_iff.1 c1.f1).1
    have hlo0 : K.length < L2.length := (List.getElem?_eq_some_iff.1 c1.f0).1
    have e1 := c2.hl
    have e2 := c2.f1
    have hsv1 := gs.one
    have hsv2 := gs.cells
    have hsv3 := gs.stor
    simp [e1, e2, hsv2, hsv3]
    have c3 := c2.sto [.int .u8 0, .int .u8 i, sv, i64 0, .int .u8 0, i64 0, i64 0, i64 0]
    have gs3 := gs.set (b := K1.length) (o := .cells [.int .u8 0, .int .u8 i, sv, i64 0, .int .u8 0, i64 0, i64 0, i64 0] 37) hlo
    generalize L3.set K1.length (AObj.cells [.int .u8 0, .int .u8 i, sv, i64 0, .int .u8 0, i64 0, i64 0, i64 0] 37) = L4 at c3 gs3 ⊢
    obtain ⟨L5, g5, g6⟩ := g_sign c3.rd [91]
    refine bndC_of g5 ?_
    have c4 := c3.adv g6
    have grb : rb < L2.length := by omega
    have gs5 := gs3.frm (K' := L5) fun b o hb ho => g6.fr b o (by omega) ho
    generalize hs4 : s3.bind (signO ts [91]) = s4 at c4
    obtain ⟨w, L6, g7, g8, gw⟩ := g_window hg hn c4.rd
    refine bndC_of g7 ?_
    have c5 := c4.adv g8
    have gs6 := gs5.frm (K' := L6) fun b o hb ho => g8.fr b o (by omega) ho
    generalize hs5 : (s4.bind (winO ts)).map (·.2) = s5 at c5
    have e1 := c5.hl
    have e2 := c5.f1
    simp [e1, e2]
    have c6 := c5.sto [.int .u8 0, .int .u8 i, sv, i64 w, .int .u8 0, i64 0, i64 0, i64 0]
    have gs7 := gs6.set (b := K1.length) (o := .cells [.int .u8 0, .int .u8 i, sv, i64 w, .int .u8 0, i64 0, i64 0, i64 0] 37) hlo
    generalize L6.set K1.length (AObj.cells [.int .u8 0, .int .u8 i, sv, i64 w, .int .u8 0, i64 0, i64 0, i64 0] 37) = L7 at c6 gs7 ⊢
    obtain ⟨L8, g9, ga⟩ := g_sign c6.rd [93]
    refine bndC_of g9 ?_
    have c7 := c6.adv ga
    have gs8 := gs7.frm (K' := L8) fun b o hb ho => ga.fr b o (by omega) ho
    obtain ⟨L9, gb, gc⟩ := g_sign c7.rd [41]
    refine bndC_of gb ?_
    have c8 := c7.adv gc
    have gs9 := gs8.frm (K' := L9) fun b o hb ho => gc.fr b o (by omega) ho
    generalize hs7 : (s5.bind (signO ts [93])).bind (signO ts [41]) = s7 at c8
    refine bndC_of (c_compares _) ?_
    have c9 := c8.app [AObj.cells (cmps.map str) 9]
    obtain ⟨La, gd, ge⟩ := g_one c9.rd 4 (arr_strs cmps 9 6 rfl) (by decide) (by decide) (by decide)
    refine bndC_of gd ?_
    have ca := c9.adv ge
    have gsa := (gs9.app (X := [AObj.cells (cmps.map str) 9])).frm (K' := La) fun b o hb ho => ge.fr b o (by omega) ho
    have hj1 : idxS cmps ((s7.bind (tokK ts 4)).getD []) < 6 := by
      unfold idxS; split
      · rename_i q; exact List.idxOf_lt_length_of_mem q
      · omega
    generalize hj : idxS cmps ((s7.bind (tokK ts 4)).getD []) = j at hj1 ⊢
    generalize hs8 : s7.bind (oneO ts 4 cmps) = s8 at ca
    have e1 := ca.hl
    have e2 := ca.f1
    simp [e1, e2]
    have cb := ca.sto [.int .u8 0, .int .u8 i, sv, i64 w, .int .u8 j, i64 0, i64 0, i64 0]
    have gsb := gsa.set (b := K1.length) (o := .cells [.int .u8 0, .int .u8 i, sv, i64 w, .int .u8 j, i64 0, i64 0, i64 0] 37) hlo
    generalize La.set K1.length (AObj.cells [.int .u8 0, .int .u8 i, sv, i64 w, .int .u8 j, i64 0, i64 0, i64 0] 37) = Lb at cb gsb ⊢
    obtain ⟨x, Lc, gf, gg, gx⟩ := g_value hn cb.rd
    refine bndC_of gf ?_
    have cc := cb.adv gg
    have gsc := gsb.frm (K' := Lc) fun b o hb ho => gg.fr b o (by omega) ho
    obtain ⟨ch1, ch2⟩ := cmp_chain hs2.symm hs3.symm hs4.symm hs5.symm hs7.symm hs8.symm gm gw gx
    rw [hi, hj] at ch2
    rw [ch1] at cc
    have e1 := cc.hl
    have e2 := cc.f1
    simp [e1, e2]
    have cd := cc.sto [.int .u8 0, .int .u8 i, sv, i64 w, .int .u8 j, i64 x, i64 0, i64 0]
    have gsd := gsc.set (b := K1.length) (o := .cells [.int .u8 0, .int .u8 i, sv, i64 w, .int .u8 j, i64 x, i64 0, i64 0] 37) hlo
    generalize Lc.set K1.length (AObj.cells [.int .u8 0, .int .u8 i, sv, i64 w, .int .u8 j, i64 x, i64 0, i64 0] 37) = Ld at cd gsd ⊢
    have e1 := cd.hc
    have e2 := cd.f0
    have q1 := cd.fin [.int .u8 0, .int .u8 i, sv, i64 w, .int .u8 j, i64 x, i64 0, i64 0]
    have gse := gsd.set (b := K.length) (o := .cells [.int .u8 0, .int .u8 i, sv, i64 w, .int .u8 j, i64 x, i64 0, i64 0] 37) hlo0
    have hself : hcells (Ld.set K.length (AObj.cells [.int .u8 0, .int .u8 i, sv, i64 w, .int .u8 j, i64 x, i64 0, i64 0] 37)) K.length = some [.int .u8 0, .int .u8 i, sv, i64 w, .int .u8 j, i64 x, i64 0, i64 0] := by
      rw [hcells_eq, List.getElem?_set_self (List.getElem?_eq_some_iff.1 cd.f0).1]; rfl
    simp [e1, e2, nodZ, hself, hsv1]
    refine ⟨⟨0, UInt8.ofNat i, ms, w, UInt8.ofNat j, x, 0, 0⟩, sv, ?_, by simpa using q1, ?_, ?_, gml⟩
    · have h1 := u8_of (n := i) (by omega)
      have h2 := u8_of (n := j) (by omega)
      simp only [Nod.cells, byt, h1, h2]
      rfl
    · exact gse.weak (by omega)
    · intro a b hp; exact ch2 (a, b) (by simpa using hp)
  obtain ⟨v, K', ⟨n, sv, rfl, h⟩, hy⟩ := key
  exact ⟨n, sv, K', hy, h⟩
end Go.Vi
namespace Go.Vi
open Go Go.Proofs

theorem drawKeepOne {P : Program} : OneD (drawKeep P) := by
  constructor
  · intro ops k k' sl H hk h
    unfold drawKeep at h ⊢
    split at h
    · exact kdrawK_mono hk _ _ h
    · cases h
  · intro ops k sl H h
    unfold drawKeep at h ⊢
    split at h
    · exact kdrawK_one _ _ h
    · cases h
theorem acallsKex {P : Program} (hm : P.follows .mixedOrders = true) {f fn args H} {k : Value → AHeap → Prop} (hf : P.funcs[f]? = some fn) (hn : notNG fn = true) (hr : kbodyG P (drawKeep P) fn args H k) : ∃ v H', k v H' ∧ ACalls P f args H v H' := by
  obtain ⟨v, H', h1, h2⟩ := kbodyG_one drawKeepOne hr
  exact ⟨v, H', h1, acallsG_of (fun c => @drawKeep_sound P c hm) hf hn h2⟩
def wordO (k : Nat) : List UInt8 := if k = 1 then [97, 110, 100] else [111, 114]
def notS : List UInt8 := [110, 111, 116]
def opN (k : UInt8) (l r : Int) : Nod := ⟨k, 0, [], 0, 0, 0, l, r⟩
def kindK (k : Nat) : UInt8 := if k = 1 then 1 else 2
def strO (ts : List Tok) : Nat → Nat → Nat → List Nod → Option (Option (List Nod × Nat))
  | 0, _, _, _ => none
  | f + 1, m, a, l =>
    if m = 2 then
      if isT ts a 1 notS = true then (strO ts f 2 (a + 1) l).map fun r => r.map fun p => (p.1 ++ [opN 3 ((p.1.length : Int) - 1) 0], p.2)
      else if isT ts a 4 [40] = true then (strO ts f 0 (a + 1) l).map fun r => r.bind fun p => (signO ts [41] p.2).map fun c => (p.1, c)
      else some ((cmpO ts a).map fun p => (l ++ [p.1], p.2))
    else if m < 2 then (strO ts f (m + 1) a l).bind fun r => match r with
      | none => some none
      | some p => strO ts f (m + 10) p.2 p.1
    else if isT ts a 1 (wordO (m - 10)) = true then (strO ts f (m - 10 + 1) (a + 1) l).bind fun r => match r with
      | none => some none
      | some p => strO ts f m p.2 (p.1 ++ [opN (kindK (m - 10)) ((l.length : Int) - 1) ((p.1.length : Int) - 1)])
    else some (some (l, a))
theorem cmpO_lt {ts : List Tok} {a : Nat} {p : Nod × Nat} (h : cmpO ts a = some p) : a < p.2 := by
  have hone : ∀ {k l a b}, oneO ts k l a = some b → b = a + 1 := by
    intro k l a b h
    unfold oneO at h
    obtain ⟨_, _, h2⟩ := Option.bind_eq_some_iff.1 h
    split at h2 <;> simp_all
  have hsign : ∀ {s a b}, signO ts s a = some b → b = a + 1 := by
    intro s a b h
    unfold signO at h
    split at h <;> simp_all
  have hmat : ∀ {a p}, matO ts a = some p → p.2 = a + 3 := by
    intro a p h
    unfold matO at h
    obtain ⟨_, _, h2⟩ := Option.bind_eq_some_iff.1 h
    obtain ⟨_, _, h3⟩ := Option.bind_eq_some_iff.1 h2
    split at h3
    · obtain ⟨_, _, h4⟩ := Option.bind_eq_some_iff.1 h3
      rw [← Option.some.inj h4]
    · cases h3
  have hselL : ∀ (f : Nat) {a acc p}, selL ts f a acc = some p → a ≤ p.2 := by
    intro f
    induction f with
    | zero => intro a acc p h; cases h
    | succ f ih =>
      intro a acc p h
      simp only [selL] at h
      obtain ⟨q, h1, h2⟩ := Option.bind_eq_some_iff.1 h
      have := hmat h1
      split at h2
      · have := ih h2; omega
      · rw [← Option.some.inj h2]; simp only; omega
  have hsel : ∀ {a p}, selO ts a = some p → a ≤ p.2 := by
    intro a p h
    unfold selO at h
    obtain ⟨b, h1, h2⟩ := Option.bind_eq_some_iff.1 h
    have := hsign h1
    split at h2
    · rw [← Option.some.inj h2]; simp only; omega
    · obtain ⟨q, h3, h4⟩ := Option.bind_eq_some_iff.1 h2
      have := hselL _ h3
      obtain ⟨c, h5, h6⟩ := Option.map_eq_some_iff.1 h4
      rw [← h6]
      unfold selE at h5
      obtain ⟨d, h7, h8⟩ := Option.bind_eq_some_iff.1 h5
      have := hsign h7
      split at h8
      · rw [← Option.some.inj h8]; simp only; omega
      · cases h8
  have hwin : ∀ {a p}, winO ts a = some p → p.2 = a + 1 := by
    intro a p h
    unfold winO at h
    obtain ⟨_, _, h2⟩ := Option.bind_eq_some_iff.1 h
    obtain ⟨_, _, h3⟩ := Option.bind_eq_some_iff.1 h2
    split at h3
    · rw [← Option.some.inj h3]
    · cases h3
  have hval : ∀ {a p}, valO ts a = some p → a ≤ p.2 := by
    intro a p h
    unfold valO at h
    obtain ⟨_, _, h2⟩ := Option.bind_eq_some_iff.1 h
    split at h2
    · rw [← Option.some.inj h2]; simp only [takO]; split <;> omega
    · cases h2
  unfold cmpO at h
  obtain ⟨b1, h1, h⟩ := Option.bind_eq_some_iff.1 h
  obtain ⟨b2, h2, h⟩ := Option.bind_eq_some_iff.1 h
  obtain ⟨q, h3, h⟩ := Option.bind_eq_some_iff.1 h
  obtain ⟨b3, h4, h⟩ := Option.bind_eq_some_iff.1 h
  obtain ⟨w, h5, h⟩ := Option.bind_eq_some_iff.1 h
  obtain ⟨b4, h6, h⟩ := Option.bind_eq_some_iff.1 h
  obtain ⟨b5, h7, h⟩ := Option.bind_eq_some_iff.1 h
  obtain ⟨b6, h8, h⟩ := Option.bind_eq_some_iff.1 h
  obtain ⟨v, h9, h⟩ := Option.bind_eq_some_iff.1 h
  have := hone h1; have := hsign h2; have := hsel h3; have := hsign h4; have := hwin h5; have := hsign h6; have := hsign h7; have := hone h8; have := hval h9
  rw [← Option.some.inj h]
  simp only
  omega
theorem strO_len {ts : List Tok} : ∀ (f : Nat) {m a l l' b}, strO ts f m a l = some (some (l', b)) → a ≤ b ∧ l.length ≤ l'.length ∧ l'.length + a ≤ l.length + b := by
  intro f
  induction f with
  | zero => intro m a l l' b h; cases h
  | succ f ih =>
    intro m a l l' b h
    simp only [strO] at h
    split at h
    · split at h
      · obtain ⟨r, h1, h2⟩ := Option.map_eq_some_iff.1 h
        obtain ⟨p, rfl, h3⟩ := Option.map_eq_some_iff.1 h2
        have := ih h1
        simp only [Prod.mk.injEq] at h3
        obtain ⟨rfl, rfl⟩ := h3
        simp only [List.length_append, List.length_cons, List.length_nil]
        omega
      · split at h
        · obtain ⟨r, h1, h2⟩ := Option.map_eq_some_iff.1 h
          obtain ⟨p, rfl, h3⟩ := Option.bind_eq_some_iff.1 h2
          obtain ⟨c, h4, h5⟩ := Option.map_eq_some_iff.1 h3
          have := ih h1
          unfold signO at h4
          split at h4
          · simp only [Option.some.injEq] at h4
            simp only [Prod.mk.injEq] at h5
            obtain ⟨rfl, rfl⟩ := h5
            omega
          · cases h4
        · obtain ⟨p, h1, h2⟩ := Option.map_eq_some_iff.1 (Option.some.inj h)
          have := cmpO_lt h1
          simp only [Prod.mk.injEq] at h2
          obtain ⟨rfl, rfl⟩ := h2
          simp only [List.length_append, List.length_cons, List.length_nil]
          omega
    · split at h
      · obtain ⟨r, h1, h2⟩ := Option.bind_eq_some_iff.1 h
        cases r with
        | none => cases h2
        | some p =>
          have := ih h1
          have := ih h2
          omega
      · split at h
        · obtain ⟨r, h1, h2⟩ := Option.bind_eq_some_iff.1 h
          cases r with
          | none => cases h2
          | some p =>
            have := ih h1
            have := ih h2
            simp only [List.length_append, List.length_cons, List.length_nil] at this
            omega
        · simp only [Option.some.injEq, Prod.mk.injEq] at h
          obtain ⟨rfl, rfl⟩ := h
          omega
theorem nael1 : aElem Tryz.prog 27 = some (37, 8, 72) := by kernel_rfl
theorem nael2 : isSeq Tryz.prog 27 = true := by kernel_rfl
theorem Gro.pushT {P : Program} {K : AHeap} {lo z by_ : Nat} {T Ts : TypeId} {v x : Value} {cl : List (List Value)} {c : List Value} (h : Gro K lo z T v cl) (hT : aElem P Ts = some (T, z, by_)) (hsq : isSeq P Ts = true) (hc : c.length = z) (hlo : lo ≤ K.length)
    (hx : aSrc K z x = some (1, c)) (hb : (cl.length + 1) * by_ ≤ 140737488355328) (hn : cl.length + 1 ≤ 9223372036854775807) :
    ∃ v' K', aBuiltin P K .append #[Ts, Ts] [v, x] = some (v', K') ∧ Gro K' lo z T v' (cl ++ [c]) ∧ (∀ b o, b < lo → K[b]? = some o → K'[b]? = some o) ∧ K.length ≤ K'.length ∧ (∀ H, Pre H K → H.length ≤ lo → Pre H K') ∧ (∀ (b : Nat) o, K[b]? = some o → (∀ cs, o ≠ .cells cs T) → K'[b]? = some o) := by
  obtain ⟨v', K', h1, h2, h3, h4, h5⟩ := h.push hT hsq hc hlo hx hb hn
  refine ⟨v', K', h1, h2, h3, h4, h5, fun b o hbo hne => ?_⟩
  cases h with
  | nil =>
    have hb' : by_ ≤ 140737488355328 := by simpa using hb
    simp [aBuiltin, aAppend, hT, hx, hsq, hb', hc] at h1
    rw [← h1.2]; exact get_more hbo
  | mk bb cl g1 g2 g3 g4 =>
    have hfl := flat_len g4
    have e2 : ¬ cl.length + 1 ≤ cl.length := by omega
    simp only [aBuiltin, aAppend, hT, hx, hsq, if_true, g2, hfl, Nat.zero_add, Nat.le_refl, and_self, e2, if_false, hb, hn, Option.some.injEq, Prod.mk.injEq] at h1
    rw [← h1.2, List.getElem?_set_ne (by rintro rfl; rw [hbo] at g2; cases g2; exact hne _ rfl)]
    exact hbo
def NL (K : AHeap) (lo : Nat) (v : Value) (ns : List Nod) : Prop := ∃ cl, Gro K lo 8 37 v cl ∧ cl.length = ns.length ∧ ∀ (i : Nat) n, ns[i]? = some n → ∃ sv, cl[i]? = some ((n : Nod).cells sv) ∧ Gro K lo 3 75 sv (n.sel.map Mat.cells) ∧ n.sel.length ≤ 2 ^ 41
theorem NL.frm {K K' lo v ns} (h : NL K lo v ns) (hf : ∀ (b : Nat) o, lo ≤ b → K[b]? = some o → K'[b]? = some o) : NL K' lo v ns := by
  obtain ⟨cl, h1, h2, h3⟩ := h
  refine ⟨cl, h1.frm hf, h2, fun i n hi => ?_⟩
  obtain ⟨sv, q1, q2, q3⟩ := h3 i n hi
  exact ⟨sv, q1, q2.frm hf, q3⟩
theorem NL.nodes {K lo v ns} (h : NL K lo v ns) : NodesAt K v ns := by
  obtain ⟨cl, h1, h2, h3⟩ := h
  refine ⟨cl, h1.arr, h2, fun i n hi => ?_⟩
  obtain ⟨sv, q1, q2, q3⟩ := h3 i n hi
  exact ⟨sv, q1, q2.arr, by omega⟩
theorem NL.one {K lo v ns} (h : NL K lo v ns) : v.oneCell' = true := by obtain ⟨cl, h1, _⟩ := h; exact h1.one
theorem NL.len {K lo v ns} (h : NL K lo v ns) (J : AHeap) : aLen Tryz.prog J 27 v = some (i64 ns.length) := by
  obtain ⟨cl, h1, h2, _⟩ := h
  rw [← h2]; exact h1.arr.len' (e := 37) (by simp)
abbrev sP (b : Nat) : Value := .pointer (some ⟨b, 0, some 1⟩)
abbrev cndF (rv sb lb : Nat) : Value := .func (.func 67) #[] #[sP rv, sP sb, sP lb]
structure CndS (H K : AHeap) (rb : Nat) (lv : Value) (ts : List Tok) (st : Option Nat) (rv sb lb lo : Nat) (ns : List Nod) : Prop where
  rd : RdS H K rb lv ts st
  cr : K[rv]? = some (.cells [rP rb] 79)
  cs : K[sb]? = some (.cells [cndF rv sb lb] 107)
  cl : ∃ v, K[lb]? = some (.cells [v] 27) ∧ NL K lo v ns
  b0 : rb < rv
  b1 : rv < lb
  b2 : lb < sb
  b3 : sb < lo
  b4 : lo ≤ K.length
  hH : H.length ≤ rb
theorem CndS.adv {H K K1 rb lv ts st st' rv sb lb lo ns} (h : CndS H K rb lv ts st rv sb lb lo ns) (g : Adv H K K1 rb lv ts st') : CndS H K1 rb lv ts st' rv sb lb lo ns := by
  obtain ⟨v, hv1, hv2⟩ := h.cl
  have hb0 := h.b0; have hb1 := h.b1; have hb2 := h.b2; have hb3 := h.b3; have hb4 := h.b4
  exact ⟨g.rd, g.fr _ _ (by omega) h.cr, g.fr _ _ (by omega) h.cs, ⟨v, g.fr _ _ (by omega) hv1, hv2.frm fun b o hb ho => g.fr b o (by omega) ho⟩, hb0, hb1, hb2, hb3, Nat.le_trans hb4 g.len, h.hH⟩
theorem CndS.push {H K rb lv ts st rv sb lb lo ns} (h : CndS H K rb lv ts st rv sb lb lo ns) (n : Nod) (sv : Value) (hsv : Gro K lo 3 75 sv (n.sel.map Mat.cells)) (hsl : n.sel.length ≤ 2 ^ 41) (hns : ns.length + 1 ≤ 2 ^ 30) {v : Value} (hv : K[lb]? = some (.cells [v] 27)) :
    ∃ v' K2, aBuiltin Tryz.prog (K ++ [AObj.cells (n.cells sv) 37]) .append #[27, 27] [v, .slice (some ⟨K.length, 0, some 8⟩) 1 1] = some (v', K2) ∧
      aStore Tryz.prog K2 27 (sP lb) v' = some (K2.set lb (.cells [v'] 27)) ∧ CndS H (K2.set lb (.cells [v'] 27)) rb lv ts st rv sb lb lo (ns ++ [n]) := by
  obtain ⟨v0, hv1, hv2⟩ := h.cl
  rw [hv] at hv1
  cases hv1
  obtain ⟨cl, hg, hcl, hall⟩ := hv2
  have hb0 := h.b0; have hb1 := h.b1; have hb2 := h.b2; have hb3 := h.b3; have hb4 := h.b4; have hH := h.hH
  obtain ⟨v', K2, q1, q2, q3, q4, q5, q6⟩ := Gro.pushT (P := Tryz.prog) (Ts := 27) (by_ := 72) (x := .slice (some ⟨K.length, 0, some 8⟩) 1 1) (c := n.cells sv) (hg.app (X := [AObj.cells (n.cells sv) 37])) nael1 nael2 (by rfl) (by simp; omega) (by simp [aSrc, Nod.cells]) (by omega) (by omega)
  have hcl2 := q3 lb _ (by omega) (get_more hv)
  have hget : ∀ (b : Nat) o, b < lo → b ≠ lb → K[b]? = some o → (K2.set lb (.cells [v'] 27))[b]? = some o := fun b o h1 h2 ho => by
    rw [List.getElem?_set_ne (fun e => h2 e.symm)]; exact q3 _ _ h1 (get_more ho)
  have hmat : ∀ {sv ms}, Gro K lo 3 75 sv ms → Gro (K2.set lb (.cells [v'] 27)) lo 3 75 sv ms := by
    intro sv ms hg
    cases hg with
    | nil => exact .nil
    | mk bb ms h1 h2 h3 h4 => exact .mk bb ms h1 (by rw [List.getElem?_set_ne (by omega)]; exact q6 _ _ (get_more h2) (by simp)) h3 h4
  refine ⟨v', K2, q1, by simp [hcl2, q2.cells, q2.stor], ⟨h.rd.frame ((q5 H (h.rd.pre.more _) (by omega)).set (by omega)) fun o ho => hget _ _ (by omega) (by omega) ho, hget _ _ (by omega) (by omega) h.cr, hget _ _ (by omega) (by omega) h.cs, ⟨v', ?_, cl ++ [n.cells sv], q2.set (by omega), by simp [hcl], ?_⟩, hb0, hb1, hb2, hb3, ?_, hH⟩⟩
  · rw [List.getElem?_set_self (by simp at q4; omega)]
  · intro i m hi
    rcases Nat.lt_or_ge i ns.length with hlt | hge
    · rw [List.getElem?_append_left hlt] at hi
      obtain ⟨sv', e1, e2, e3⟩ := hall i m hi
      exact ⟨sv', by rw [List.getElem?_append_left (by omega)]; exact e1, hmat e2, e3⟩
    · rw [List.getElem?_append_right hge] at hi
      have hi0 : i - ns.length = 0 := by
        have := (List.getElem?_eq_some_iff.1 hi).1; simp at this; omega
      rw [hi0] at hi
      simp at hi
      subst hi
      exact ⟨sv, by rw [List.getElem?_append_right (by omega), hcl, hi0]; rfl, hmat hsv, hsl⟩
  · simp at q4 ⊢; omega
theorem nodLit {K : AHeap} (n : Nod) {sv : Value} (hs : sv.oneCell' = true) : sliceLit Tryz.prog K 27 1 [(0, .agg (n.cells sv).toArray)] (.slice (some ⟨K.length, 0, some 8⟩) 1 1) (K ++ [.cells (n.cells sv) 37]) :=
  sliceLitA (c := n.cells sv) (tbs27 K 1 _) (by rfl) (by simp [Nod.cells, hs]) (by simp)
def OutS (H K' : AHeap) (rb : Nat) (lv : Value) (ts : List Tok) (rv sb lb lo B : Nat) : Option (List Nod × Nat) → Prop
  | some p => CndS H K' rb lv ts (some p.2) rv sb lb lo p.1
  | none => ∃ l', CndS H K' rb lv ts none rv sb lb lo l' ∧ l'.length ≤ B
abbrev CndC (H K : AHeap) (rb : Nat) (lv : Value) (ts : List Tok) (rv sb lb lo B : Nat) (r : Option (List Nod × Nat)) (m : Nat) : Prop :=
  ∃ K', ACalls Tryz.prog 67 [i64 m, sP rv, sP sb, sP lb] K (.tuple #[]) K' ∧ OutS H K' rb lv ts rv sb lb lo B r
abbrev CndL (H K : AHeap) (rb : Nat) (lv : Value) (ts : List Tok) (rv sb lb lo B : Nat) (r : Option (List Nod × Nat)) (k : Nat) : Prop :=
  ∃ K', OutS H K' rb lv ts rv sb lb lo B r ∧ ∀ (kk : Value → AHeap → Prop), kk (.tuple #[]) K' → ∃ n, ∀ (s4 s7 s8 s9 s10 s11 s12 s13 s14 s15 s16 s17 s18 s19 s20 s21 s22 s23 s24 s25 s26 s27 s28 s29 s30 s31 s32 s33 s34 s35 s36 s37 s38 s39 s40 s41 s42 s43 s44 s45 s46 s47 s48 s49 s50 s51 s52 s53 s54 s55 s56 s57 s58 : Value),
    L67x0 n kk [i64 k, sP rv, sP sb, sP lb, s4, str (wordO k), byt (kindK k), s7, s8, s9, s10, s11, s12, s13, s14, s15, s16, s17, s18, s19, s20, s21, s22, s23, s24, s25, s26, s27, s28, s29, s30, s31, s32, s33, s34, s35, s36, s37, s38, s39, s40, s41, s42, s43, s44, s45, s46, s47, s48, s49, s50, s51, s52, s53, s54, s55, s56, s57, s58] K
theorem cndC_of {H K rb lv ts rv sb lb lo B r} {m : Nat} (h : ∃ v K', (v = .tuple #[] ∧ OutS H K' rb lv ts rv sb lb lo B r) ∧ ACalls Tryz.prog 67 [i64 m, sP rv, sP sb, sP lb] K v K') : CndC H K rb lv ts rv sb lb lo B r m := by
  obtain ⟨v, K', ⟨rfl, h⟩, hy⟩ := h
  exact ⟨K', hy, h⟩
theorem str_cmp {H K rb lv ts a rv sb lb lo ns} (hg : Pre Gs H) (hn : NumTok ts) (h : CndS H K rb lv ts (some a) rv sb lb lo ns) (hns : ns.length + 1 ≤ 2 ^ 30) (h1 : isT ts a 1 notS = false) (h2 : isT ts a 4 [40] = false) :
    CndC H K rb lv ts rv sb lb lo (ns.length + (ts.length - a) + 1) ((cmpO ts a).map fun p => (ns ++ [p.1], p.2)) 2 := by
  refine cndC_of ?_
  refine acallsKex MixT Tryz.func67 (by decide) ?_
  rw [d67]
  obtain ⟨v, hv1, hv2⟩ := h.cl
  have hcr : hcells K rv = some [rP rb] := by rw [hcells_eq, h.cr]; rfl
  have hcl : hcells K lb = some [v] := by rw [hcells_eq, hv1]; rfl
  have hrd : RdA H K rb lv ts a true := h.rd
  simp [hcr]
  refine bndC_of (c_takes_n hrd (k := 1) (s := notS) (by simp [h1])) ?_
  simp [hcr]
  refine bndC_of (c_takes_n hrd (k := 4) (s := [40]) (by simp [h2])) ?_
  simp [hcr, hcl]
  obtain ⟨n, sv, K1, g1, g2, g3, g4, g5⟩ := g_comparison hg hn h.rd
  have c1 := h.adv g2
  have hb0 := h.b0; have hb1 := h.b1; have hb4 := h.b4
  have hcl1 : K1[lb]? = some (.cells [v] 27) := g2.fr _ _ (by omega) hv1
  have hcc1 : hcells K1 lb = some [v] := by rw [hcells_eq, hcl1]; rfl
  refine bndK_of g1 ⟨by simp [hcc1], trivial⟩ ?_
  obtain ⟨v', K2, q1, q2, q3⟩ := c1.push n sv (g3.weak hb4) g5 hns hcl1
  refine bndK_ext (nodLit n g3.one) ⟨_, rfl⟩ ?_
  refine bndK_bar q1 ?_
  refine bndK_bar ⟨rfl, q2⟩ ?_
  refine ⟨rfl, ?_⟩
  simp only [Option.bind_some] at q3 g4
  cases hc : cmpO ts a with
  | none => rw [hc] at q3; exact ⟨ns ++ [n], q3, by simp only [List.length_append, List.length_cons, List.length_nil]; omega⟩
  | some p =>
    have e := g4 p hc
    rw [hc] at q3
    subst e
    exact q3
theorem str_neg {H K rb lv ts a rv sb lb lo} {l : List Nod} {r : Option (List Nod × Nat)} (h1 : isT ts a 1 notS = true) (ih : ∀ {K}, CndS H K rb lv ts (some (a + 1)) rv sb lb lo l → CndC H K rb lv ts rv sb lb lo (l.length + (ts.length - (a + 1)) + 1) r 2)
    (h : CndS H K rb lv ts (some a) rv sb lb lo l) (hl : l.length + ts.length ≤ 2 ^ 29 + a) (hr : ∀ p, r = some p → p.1.length + (a + 1) ≤ l.length + p.2) :
    CndC H K rb lv ts rv sb lb lo (l.length + (ts.length - a) + 1) (r.map fun p => (p.1 ++ [opN 3 ((p.1.length : Int) - 1) 0], p.2)) 2 := by
  refine cndC_of ?_
  refine acallsKex MixT Tryz.func67 (by decide) ?_
  rw [d67]
  have hcr : hcells K rv = some [rP rb] := by rw [hcells_eq, h.cr]; rfl
  have hrd : RdA H K rb lv ts a true := h.rd
  simp [hcr]
  refine bndC_of (c_takes_y hrd (k := 1) (s := notS) h1) ?_
  have hlt := isT_lt h1
  have hst := h.adv (.setT hrd (a + 1) (by omega))
  generalize K.set rb (rdo lv (a + 1) true) = K1 at hst ⊢
  have hcs : hcells K1 sb = some [cndF rv sb lb] := by rw [hcells_eq, hst.cs]; rfl
  simp [hcs]
  obtain ⟨K2, g1, g2⟩ := ih hst
  refine bndV_func (by simpa using g1) ?_
  have go : ∀ {st : Option Nat} {l' : List Nod}, CndS H K2 rb lv ts st rv sb lb lo l' → l'.length + 1 ≤ 2 ^ 30 → (∀ K3, CndS H K3 rb lv ts st rv sb lb lo (l' ++ [opN 3 ((l'.length : Int) - 1) 0]) → OutS H K3 rb lv ts rv sb lb lo (l.length + (ts.length - a) + 1) (r.map fun p => (p.1 ++ [opN 3 ((p.1.length : Int) - 1) 0], p.2))) →
      ∀ (q : QH), q = q → True := fun _ _ _ _ _ => trivial
  clear go
  obtain ⟨st, l', hcs2, hlen', hout⟩ : ∃ (st : Option Nat) (l' : List Nod), CndS H K2 rb lv ts st rv sb lb lo l' ∧ l'.length + 1 ≤ 2 ^ 30 ∧ ∀ K3, CndS H K3 rb lv ts st rv sb lb lo (l' ++ [opN 3 ((l'.length : Int) - 1) 0]) → OutS H K3 rb lv ts rv sb lb lo (l.length + (ts.length - a) + 1) (r.map fun p => (p.1 ++ [opN 3 ((p.1.length : Int) - 1) 0], p.2)) := by
    cases r with
    | none =>
      obtain ⟨l', e1, e2⟩ := g2
      exact ⟨none, l', e1, by omega, fun K3 h3 => ⟨_, h3, by simp; omega⟩⟩
    | some p =>
      have g2' : CndS H K2 rb lv ts (some p.2) rv sb lb lo p.1 := g2
      have := hr p rfl
      have := g2'.rd.le
      exact ⟨some p.2, p.1, g2', by omega, fun K3 h3 => h3⟩
  obtain ⟨v, hv1, hv2⟩ := hcs2.cl
  have hcl : hcells K2 lb = some [v] := by rw [hcells_eq, hv1]; rfl
  have hlen := fun J => hv2.len J
  have hw : IntKind.i64.wrap ((l'.length : Int) - 1) = (l'.length : Int) - 1 := wrap_i64 (by omega) (by omega)
  simp [hcl, hlen, hw]
  obtain ⟨v', K3, q1, q2, q3⟩ := hcs2.push (opN 3 ((l'.length : Int) - 1) 0) (.slice none 0 0) .nil (by simp [opN]) hlen' hv1
  refine bndL_lit (nodLit (opN 3 ((l'.length : Int) - 1) 0) rfl) ?_
  dsimp only
  rw [q1]
  simp only [bndE_some, q2, bndS_some]
  exact ⟨by trivial, hout _ q3⟩
theorem str_par {H K rb lv ts a rv sb lb lo} {l : List Nod} {r : Option (List Nod × Nat)} (h0 : isT ts a 1 notS = false) (h1 : isT ts a 4 [40] = true) (ih : ∀ {K}, CndS H K rb lv ts (some (a + 1)) rv sb lb lo l → CndC H K rb lv ts rv sb lb lo (l.length + (ts.length - (a + 1)) + 1) r 0)
    (h : CndS H K rb lv ts (some a) rv sb lb lo l) (hr : ∀ p, r = some p → p.1.length + (a + 1) ≤ l.length + p.2) :
    CndC H K rb lv ts rv sb lb lo (l.length + (ts.length - a) + 1) (r.bind fun p => (signO ts [41] p.2).map fun c => (p.1, c)) 2 := by
  refine cndC_of ?_
  refine acallsKex MixT Tryz.func67 (by decide) ?_
  rw [d67]
  have hcr : hcells K rv = some [rP rb] := by rw [hcells_eq, h.cr]; rfl
  have hrd : RdA H K rb lv ts a true := h.rd
  simp [hcr]
  refine bndC_of (c_takes_n hrd (k := 1) (s := notS) (by simp [h0])) ?_
  simp [hcr]
  refine bndC_of (c_takes_y hrd (k := 4) (s := [40]) h1) ?_
  have hlt := isT_lt h1
  have hst := h.adv (.setT hrd (a + 1) (by omega))
  generalize K.set rb (rdo lv (a + 1) true) = K1 at hst ⊢
  have hcs : hcells K1 sb = some [cndF rv sb lb] := by rw [hcells_eq, hst.cs]; rfl
  simp [hcs]
  obtain ⟨K2, g1, g2⟩ := ih hst
  refine bndV_func (by simpa using g1) ?_
  cases r with
  | none =>
    obtain ⟨l', e1, e2⟩ := g2
    have hcr2 : hcells K2 rv = some [rP rb] := by rw [hcells_eq, e1.cr]; rfl
    simp [hcr2]
    obtain ⟨K3, s1, s2⟩ := g_sign e1.rd [41]
    exact bndC_of s1 ⟨rfl, l', e1.adv s2, by omega⟩
  | some p =>
    have g2' : CndS H K2 rb lv ts (some p.2) rv sb lb lo p.1 := g2
    have hcr2 : hcells K2 rv = some [rP rb] := by rw [hcells_eq, g2'.cr]; rfl
    simp [hcr2]
    obtain ⟨K3, s1, s2⟩ := g_sign g2'.rd [41]
    have c3 := g2'.adv s2
    have := hr p rfl
    have := g2'.rd.le
    refine bndC_of s1 ⟨rfl, ?_⟩
    simp only [Option.bind_some] at c3 ⊢
    cases hs : signO ts [41] p.2 with
    | none => rw [hs] at c3; exact ⟨p.1, c3, by omega⟩
    | some c => rw [hs] at c3; exact c3
theorem str_done {H K rb lv ts st rv sb lb lo B} {l : List Nod} {k : Nat} {r : Option (List Nod × Nat)} (h1 : (st.any fun b => isT ts b 1 (wordO k)) = false) (h : CndS H K rb lv ts st rv sb lb lo l) (hout : OutS H K rb lv ts rv sb lb lo B r) : CndL H K rb lv ts rv sb lb lo B r k := by
  refine ⟨K, hout, fun kk hk => ⟨1, ?_⟩⟩
  intro s4 s7 s8 s9 s10 s11 s12 s13 s14 s15 s16 s17 s18 s19 s20 s21 s22 s23 s24 s25 s26 s27 s28 s29 s30 s31 s32 s33 s34 s35 s36 s37 s38 s39 s40 s41 s42 s43 s44 s45 s46 s47 s48 s49 s50 s51 s52 s53 s54 s55 s56 s57 s58
  rw [L67x0q]
  have hcr : hcells K rv = some [rP rb] := by rw [hcells_eq, h.cr]; rfl
  simp [hcr]
  have hcall : ACalls Tryz.prog 68 [rP rb, .int .u8 1, str (wordO k)] K (.bool false) K := by
    have hrd := h.rd
    cases st with
    | none => obtain ⟨a, hrd⟩ := hrd; exact c_takes_n hrd rfl
    | some b => exact c_takes_n (ok := true) hrd (by simpa using h1)
  refine bndC_of hcall ?_
  simp
  exact hk
theorem str_more {H K rb lv ts b rv sb lb lo} {l : List Nod} {r r' : Option (List Nod × Nat)} {k : Nat} (hk2 : k < 2) (h1 : isT ts b 1 (wordO k) = true)
    (ih1 : ∀ {K}, CndS H K rb lv ts (some (b + 1)) rv sb lb lo l → CndC H K rb lv ts rv sb lb lo (l.length + (ts.length - (b + 1)) + 1) r (k + 1)) (hl : l.length + ts.length ≤ 2 ^ 29 + b) (hr : ∀ p, r = some p → p.1.length + (b + 1) ≤ l.length + p.2)
    (hr0 : r = none → r' = none)
    (ih2 : ∀ p, r = some p → ∀ {K}, CndS H K rb lv ts (some p.2) rv sb lb lo (p.1 ++ [opN (kindK k) ((l.length : Int) - 1) ((p.1.length : Int) - 1)]) → CndL H K rb lv ts rv sb lb lo (l.length + (ts.length - b) + 1) r' k)
    (h : CndS H K rb lv ts (some b) rv sb lb lo l) : CndL H K rb lv ts rv sb lb lo (l.length + (ts.length - b) + 1) r' k := by
  have hlt := isT_lt h1
  have hrd : RdA H K rb lv ts b true := h.rd
  have hst := h.adv (.setT hrd (b + 1) (by omega))
  generalize hK1 : K.set rb (rdo lv (b + 1) true) = K1 at hst
  obtain ⟨K2, g1, g2⟩ := ih1 hst
  obtain ⟨st, l', hcs2, hlen', hnext⟩ : ∃ (st : Option Nat) (l' : List Nod), CndS H K2 rb lv ts st rv sb lb lo l' ∧ l'.length + 1 ≤ 2 ^ 30 ∧ ∀ K3, CndS H K3 rb lv ts st rv sb lb lo (l' ++ [opN (kindK k) ((l.length : Int) - 1) ((l'.length : Int) - 1)]) → CndL H K3 rb lv ts rv sb lb lo (l.length + (ts.length - b) + 1) r' k := by
    cases r with
    | none =>
      obtain ⟨l', e1, e2⟩ := g2
      refine ⟨none, l', e1, by omega, fun K3 h3 => str_done rfl h3 ?_⟩
      rw [hr0 rfl]
      exact ⟨_, h3, by simp only [List.length_append, List.length_cons, List.length_nil]; omega⟩
    | some p =>
      have g2' : CndS H K2 rb lv ts (some p.2) rv sb lb lo p.1 := g2
      have := hr p rfl
      have := g2'.rd.le
      exact ⟨some p.2, p.1, g2', by omega, fun K3 h3 => ih2 p rfl h3⟩
  obtain ⟨v, hv1, hv2⟩ := hcs2.cl
  obtain ⟨v', K3, q1, q2, q3⟩ := hcs2.push (opN (kindK k) ((l.length : Int) - 1) ((l'.length : Int) - 1)) (.slice none 0 0) .nil (by simp [opN]) hlen' hv1
  obtain ⟨K4, r1, r2⟩ := hnext _ q3
  refine ⟨K4, r1, fun kk hk => ?_⟩
  obtain ⟨n, hn⟩ := r2 kk hk
  refine ⟨n + 1, ?_⟩
  intro s4 s7 s8 s9 s10 s11 s12 s13 s14 s15 s16 s17 s18 s19 s20 s21 s22 s23 s24 s25 s26 s27 s28 s29 s30 s31 s32 s33 s34 s35 s36 s37 s38 s39 s40 s41 s42 s43 s44 s45 s46 s47 s48 s49 s50 s51 s52 s53 s54 s55 s56 s57 s58
  rw [L67x0q]
  have hcr : hcells K rv = some [rP rb] := by rw [hcells_eq, h.cr]; rfl
  simp [hcr]
  refine bndC_of (c_takes_y hrd h1) ?_
  rw [hK1]
  obtain ⟨v0, hu1, hu2⟩ := hst.cl
  have hcl0 : hcells K1 lb = some [v0] := by rw [hcells_eq, hu1]; rfl
  have hlen0 := fun J => hu2.len J
  have hcs : hcells K1 sb = some [cndF rv sb lb] := by rw [hcells_eq, hst.cs]; rfl
  have hw0 : IntKind.i64.wrap ((l.length : Int) - 1) = (l.length : Int) - 1 := wrap_i64 (by omega) (by omega)
  have hwk : IntKind.i64.wrap ((k : Int) + 1) = (k : Int) + 1 := wrap_i64 (by omega) (by omega)
  simp [hcl0, hlen0, hw0, hcs, hwk]
  refine bndV_func (by simpa using g1) ?_
  have hcl : hcells K2 lb = some [v] := by rw [hcells_eq, hv1]; rfl
  have hlen := fun J => hv2.len J
  have hw : IntKind.i64.wrap ((l'.length : Int) - 1) = (l'.length : Int) - 1 := wrap_i64 (by omega) (by omega)
  simp [hcl, hlen, hw]
  have hlit := nodLit (K := K2) (opN (kindK k) ((l.length : Int) - 1) ((l'.length : Int) - 1)) (sv := .slice none 0 0) rfl
  have hnod : (opN (kindK k) ((l.length : Int) - 1) ((l'.length : Int) - 1)).cells (.slice none 0 0) = [byt (kindK k), .int .u8 0, .slice none 0 0, i64 0, .int .u8 0, i64 0, i64 ((l.length : Int) - 1), i64 ((l'.length : Int) - 1)] := rfl
  rw [hnod] at hlit q1
  refine bndL_lit hlit ?_
  dsimp only
  rw [q1]
  simp only [bndE_some, q2, bndS_some]
  exact hn _ _ _ _ _ _ _ _ _ _ _ _ _ _ _ _ _ _ _ _ _ _ _ _ _ _ _ _ _ _ _ _ _ _ _ _ _ _ _ _ _ _ _ _ _ _ _ _ _ _ _ _ _
theorem g_str {H rb lv ts rv sb lb lo} (hg : Pre Gs H) (hnt : NumTok ts) : ∀ (f m a : Nat) (l : List Nod) (r : Option (List Nod × Nat)), strO ts f m a l = some r → l.length + ts.length ≤ 2 ^ 29 + a → ∀ {K}, CndS H K rb lv ts (some a) rv sb lb lo l →
    (m ≤ 2 → CndC H K rb lv ts rv sb lb lo (l.length + (ts.length - a) + 1) r m) ∧ (∀ k, m = k + 10 → k < 2 → CndL H K rb lv ts rv sb lb lo (l.length + (ts.length - a) + 1) r k) := by
  intro f
  induction f with
  | zero => intro m a l r h; cases h
  | succ f ih =>
    intro m a l r hs hl K h
    have hale := h.rd.le
    have hbnd : ∀ {m a l r}, strO ts f m a l = some r → ∀ p, r = some p → p.1.length + a ≤ l.length + p.2 := fun h p hp => by subst hp; have := strO_len f h; omega
    have hmon : ∀ {m a l r}, strO ts f m a l = some r → ∀ p, r = some p → a ≤ p.2 ∧ l.length ≤ p.1.length := fun h p hp => by subst hp; have := strO_len f h; omega
    simp only [strO] at hs
    split at hs
    · rename_i hm2
      subst hm2
      refine ⟨fun _ => ?_, fun k hk => by omega⟩
      split at hs
      · rename_i hnot
        obtain ⟨r1, e1, rfl⟩ := Option.map_eq_some_iff.1 hs
        exact str_neg hnot (fun {K} hK => (ih _ _ _ _ e1 (by omega) hK).1 (by omega)) h hl (hbnd e1)
      · rename_i hnot
        have hnot : isT ts a 1 notS = false := by simpa using hnot
        split at hs
        · rename_i hpar
          obtain ⟨r1, e1, rfl⟩ := Option.map_eq_some_iff.1 hs
          exact str_par hnot hpar (fun {K} hK => (ih _ _ _ _ e1 (by omega) hK).1 (by omega)) h (hbnd e1)
        · rename_i hpar
          rw [← Option.some.inj hs]
          exact str_cmp hg hnt h (by omega) hnot (by simpa using hpar)
    · rename_i hm2
      split at hs
      · rename_i hm
        refine ⟨fun _ => ?_, fun k hk => by omega⟩
        obtain ⟨r1, e1, e2⟩ := Option.bind_eq_some_iff.1 hs
        obtain ⟨K1, g1, g2⟩ := (ih _ _ _ _ e1 hl h).1 (by omega)
        have hloop : CndL H K1 rb lv ts rv sb lb lo (l.length + (ts.length - a) + 1) r m := by
          cases r1 with
          | none =>
            obtain ⟨l', c1, c2⟩ := g2
            rw [← Option.some.inj e2]
            exact str_done rfl c1 ⟨l', c1, c2⟩
          | some p =>
            have g2' : CndS H K1 rb lv ts (some p.2) rv sb lb lo p.1 := g2
            have b1 := hbnd e1 p rfl
            have b2 := hmon e1 p rfl
            have hp2 := g2'.rd.le
            obtain ⟨K2, c1, c2⟩ := (ih _ _ _ _ e2 (by omega) g2').2 m rfl hm
            refine ⟨K2, ?_, c2⟩
            cases r with
            | none => obtain ⟨l', d1, d2⟩ := c1; exact ⟨l', d1, by omega⟩
            | some q => exact c1
        refine cndC_of ?_
        refine acallsKex MixT Tryz.func67 (by decide) ?_
        rw [d67]
        have hcs : hcells K sb = some [cndF rv sb lb] := by rw [hcells_eq, h.cs]; rfl
        have hwk : IntKind.i64.wrap ((m : Int) + 1) = (m : Int) + 1 := wrap_i64 (by omega) (by omega)
        obtain ⟨K2, r1', r2⟩ := hloop
        obtain ⟨n, hn⟩ := r2 (fun v K' => v = .tuple #[] ∧ OutS H K' rb lv ts rv sb lb lo (l.length + (ts.length - a) + 1) r) ⟨rfl, r1'⟩
        have h2 : ((m : Int) == 2) = false := by simp; omega
        simp [h2]
        have fin : ∀ (s4 s7 s8 s9 s10 s11 s12 s13 s14 s15 s16 s17 s18 s19 s20 s21 s22 s23 s24 s25 s26 s27 s28 s29 s30 s31 s32 s33 s34 s35 s36 s37 s38 s39 s40 s41 s42 s43 s44 s45 s46 s47 s48 s49 s50 s51 s52 s53 s54 s55 s56 s57 s58 : Value), S67x0 (fun v K' => v = .tuple #[] ∧ OutS H K' rb lv ts rv sb lb lo (l.length + (ts.length - a) + 1) r) [i64 m, sP rv, sP sb, sP lb, s4, str (wordO m), byt (kindK m), s7, s8, s9, s10, s11, s12, s13, s14, s15, s16, s17, s18, s19, s20, s21, s22, s23, s24, s25, s26, s27, s28, s29, s30, s31, s32, s33, s34, s35, s36, s37, s38, s39, s40, s41, s42, s43, s44, s45, s46, s47, s48, s49, s50, s51, s52, s53, s54, s55, s56, s57, s58] K := by
          intro s4 s7 s8 s9 s10 s11 s12 s13 s14 s15 s16 s17 s18 s19 s20 s21 s22 s23 s24 s25 s26 s27 s28 s29 s30 s31 s32 s33 s34 s35 s36 s37 s38 s39 s40 s41 s42 s43 s44 s45 s46 s47 s48 s49 s50 s51 s52 s53 s54 s55 s56 s57 s58
          rw [S67x0q]
          simp [hcs, hwk]
          refine bndV_func (by simpa using g1) ?_
          exact ⟨n, hn _ _ _ _ _ _ _ _ _ _ _ _ _ _ _ _ _ _ _ _ _ _ _ _ _ _ _ _ _ _ _ _ _ _ _ _ _ _ _ _ _ _ _ _ _ _ _ _ _ _ _ _ _⟩
        refine kifB_bool (fun hq => ?_) (fun hq => ?_)
        · obtain rfl : m = 1 := by simp at hq; omega
          exact fin _ _ _ _ _ _ _ _ _ _ _ _ _ _ _ _ _ _ _ _ _ _ _ _ _ _ _ _ _ _ _ _ _ _ _ _ _ _ _ _ _ _ _ _ _ _ _ _ _ _ _ _ _
        · obtain rfl : m = 0 := by simp at hq; omega
          exact fin _ _ _ _ _ _ _ _ _ _ _ _ _ _ _ _ _ _ _ _ _ _ _ _ _ _ _ _ _ _ _ _ _ _ _ _ _ _ _ _ _ _ _ _ _ _ _ _ _ _ _ _ _
      · rename_i hm
        refine ⟨fun _ => by omega, fun k hk hk2 => ?_⟩
        subst hk
        rw [Nat.add_sub_cancel] at hs
        split at hs
        · rename_i hw
          obtain ⟨r1, e1, e2⟩ := Option.bind_eq_some_iff.1 hs
          have hlt := isT_lt hw
          refine str_more hk2 hw (fun {K} hK => (ih _ _ _ _ e1 (by omega) hK).1 (by omega)) hl (hbnd e1) (fun e => by subst e; exact (Option.some.inj e2).symm) (fun p hp {K'} hK' => ?_) h
          subst hp
          have b1 := hbnd e1 p rfl
          have b2 := hmon e1 p rfl
          have hp2 := hK'.rd.le
          obtain ⟨K2, c1, c2⟩ := (ih _ _ _ _ e2 (by simp only [List.length_append, List.length_cons, List.length_nil]; omega) hK').2 k rfl hk2
          refine ⟨K2, ?_, c2⟩
          cases r with
          | none => obtain ⟨l', d1, d2⟩ := c1; exact ⟨l', d1, by simp only [List.length_append, List.length_cons, List.length_nil] at d2; omega⟩
          | some q => exact c1
        · rename_i hw
          rw [← Option.some.inj hs]
          exact str_done (by simpa using hw) h h
end Go.Vi
namespace Go.Vi
open Go Go.Proofs

theorem strO_tot {ts : List Tok} : ∀ (f m a : Nat) (l : List Nod), (m ≤ 2 ∨ m = 10 ∨ m = 11) → 4 * (ts.length - a) + (if m ≤ 2 then 3 - m else 1) ≤ f → ∃ r, strO ts f m a l = some r := by
  intro f
  induction f with
  | zero => intro m a l hm h; split at h <;> omega
  | succ f ih =>
    intro m a l hm h
    simp only [strO]
    split
    · rename_i h2
      subst h2
      rw [if_pos (by omega)] at h
      split
      · rename_i hT
        have := isT_lt hT
        obtain ⟨r, hr⟩ := ih 2 (a + 1) l (by omega) (by simp; omega)
        exact ⟨_, by rw [hr]; rfl⟩
      · split
        · rename_i hT
          have := isT_lt hT
          obtain ⟨r, hr⟩ := ih 0 (a + 1) l (by omega) (by simp; omega)
          exact ⟨_, by rw [hr]; rfl⟩
        · exact ⟨_, rfl⟩
    · split
      · rename_i hm2
        rw [if_pos (by omega)] at h
        obtain ⟨r, hr⟩ := ih (m + 1) a l (by omega) (by rw [if_pos (by omega)]; omega)
        rw [hr]
        cases r with
        | none => exact ⟨none, rfl⟩
        | some p =>
          have := strO_len f hr
          exact ih (m + 10) p.2 p.1 (by omega) (by rw [if_neg (by omega)]; omega)
      · split
        · rename_i hT
          have := isT_lt hT
          rw [if_neg (by omega)] at h
          obtain ⟨r, hr⟩ := ih (m - 10 + 1) (a + 1) l (by omega) (by rw [if_pos (by omega)]; omega)
          rw [hr]
          cases r with
          | none => exact ⟨none, rfl⟩
          | some p =>
            have := strO_len f hr
            exact ih m p.2 _ hm (by rw [if_neg (by omega)]; omega)
        · exact ⟨_, rfl⟩
def conO (ts : List Tok) (a : Nat) : Option (List Nod × Nat) := (strO ts (4 * ts.length + 3) 0 a []).getD none
theorem conO_str (ts : List Tok) (a : Nat) : strO ts (4 * ts.length + 3) 0 a [] = some (conO ts a) := by
  obtain ⟨r, hr⟩ := strO_tot (ts := ts) (4 * ts.length + 3) 0 a [] (by omega) (by simp; omega)
  unfold conO
  rw [hr]; rfl
theorem g_condition {H K rb lv ts a} (hg : Pre Gs H) (hn : NumTok ts) (htl : ts.length ≤ 2 ^ 20) (h : RdS H K rb lv ts (some a)) :
    ∃ v K', ACalls Tryz.prog 40 [rP rb] K v K' ∧ RdS H K' rb lv ts ((conO ts a).map (·.2)) ∧ ∃ ns, NL K' (K.length + 3) v ns ∧ ns.length ≤ 2 ^ 21 ∧ ∀ p, conO ts a = some p → p.1 = ns := by
  have key : ∃ v K', (RdS H K' rb lv ts ((conO ts a).map (·.2)) ∧ ∃ ns, NL K' (K.length + 3) v ns ∧ ns.length ≤ 2 ^ 21 ∧ ∀ p, conO ts a = some p → p.1 = ns) ∧ ACalls Tryz.prog 40 [rP rb] K v K' := by
    refine acalls_ex MixT Tryz.func40 (by decide) ?_
    rw [d40]
    have hrb := h.lt
    have hrd : RdA H K rb lv ts a true := h
    have st : CndS H (K ++ [AObj.cells [rP rb] 79, AObj.cells [.slice none 0 0] 27, AObj.cells [cndF K.length (K.length + 2) (K.length + 1)] 107]) rb lv ts (some a) K.length (K.length + 2) (K.length + 1) (K.length + 3) [] :=
      ⟨h.app _, by simp, by simp, ⟨.slice none 0 0, by simp, [], .nil, rfl, by simp⟩, hrb, by omega, by omega, by omega, by simp, hrd.hb⟩
    obtain ⟨K1, g1, g2⟩ := (g_str hg hn _ 0 a [] _ (conO_str ts a) (by simp; omega) st).1 (by omega)
    simp [aNew]
    refine bndV_func (by simpa using g1) ?_
    have hle := h.le
    obtain ⟨st', ns, c1, c2, c3, c4⟩ : ∃ (st' : Option Nat) (ns : List Nod), CndS H K1 rb lv ts st' K.length (K.length + 2) (K.length + 1) (K.length + 3) ns ∧ st' = (conO ts a).map (·.2) ∧ ns.length ≤ 2 ^ 21 ∧ ∀ p, conO ts a = some p → p.1 = ns := by
      have hlen := fun l' b (hq : conO ts a = some (l', b)) => strO_len (ts := ts) (4 * ts.length + 3) (m := 0) (a := a) (l := []) (l' := l') (b := b) (by rw [conO_str, hq])
      cases hc : conO ts a with
      | none => rw [hc] at g2; obtain ⟨l', e1, e2⟩ := g2; exact ⟨none, l', e1, rfl, by simp at e2; omega, by simp⟩
      | some p =>
        rw [hc] at g2
        have g2' : CndS H K1 rb lv ts (some p.2) K.length (K.length + 2) (K.length + 1) (K.length + 3) p.1 := g2
        have q1 := hlen p.1 p.2 hc
        have q2 := g2'.rd.le
        simp only [List.length_nil] at q1
        exact ⟨some p.2, p.1, g2', rfl, by omega, fun q hq => by cases hq; rfl⟩
    obtain ⟨v, hv1, hv2⟩ := c1.cl
    have hcl : hcells K1 (K.length + 1) = some [v] := by rw [hcells_eq, hv1]; rfl
    simp [hcl]
    refine ⟨by rw [← c2]; exact c1.rd, ns, hv2, c3, fun l b hq => c4 (l, b) hq⟩
  obtain ⟨v, K', h, hy⟩ := key
  exact ⟨v, K', hy, h⟩
theorem arr_cell {H z v l} (h : Arr H z v l) : v.cells = #[v] ∧ storable v = true := by cases h <;> exact ⟨rfl, rfl⟩
def readF (ts : List Tok) (at' : Int) : List Nod × Int × Int := if at' < 0 ∨ at' ≥ ts.length then ([], 0, 100) else match conO ts at'.toNat with
  | none => ([], 0, 100)
  | some p => if (p.1.length : Int) > 31 then ([], 0, 4) else (p.1, p.2, 0)
theorem NodesAt.nil {H : AHeap} : NodesAt H (.slice none 0 0) [] := ⟨[], .nil, rfl, fun i n h => by simp at h⟩
theorem textF_acc : ∀ (f : Nat) (r acc : List UInt8) (c : Nat), r.length ≤ f → (textF r acc c).1.length ≤ acc.length + r.length := by
  intro f
  induction f with
  | zero => intro r acc c h; have : r = [] := List.eq_nil_of_length_eq_zero (by omega); subst this; simp [textF]
  | succ f ih =>
    intro r acc c h
    cases r with
    | nil => simp [textF]
    | cons b r =>
      rw [textF_cons]
      simp at h
      split
      · split
        · simp
        · split
          · cases r with
            | nil => simp
            | cons e r =>
              simp only
              split
              · have := ih r (acc ++ [e]) (c + 2) (by simp at h; omega); simp at this ⊢; omega
              · simp
          · have := ih r (acc ++ [b]) (c + 1) (by omega); simp at this ⊢; omega
      · simp
theorem mem_takeWhile {p : UInt8 → Bool} : ∀ {s : List UInt8} {b : UInt8}, b ∈ s.takeWhile p → p b = true := by
  intro s
  induction s with
  | nil => intro b h; simp at h
  | cons x r ih =>
    intro b h
    rw [List.takeWhile_cons] at h
    split at h
    · rcases List.mem_cons.1 h with rfl | h
      · assumption
      · exact ih h
    · simp at h
theorem runF_take (p : UInt8 → Bool) (s : List UInt8) : s.take (runF p s) = s.takeWhile p := by
  unfold runF
  exact (List.prefix_iff_eq_take.1 (List.takeWhile_prefix p)).symm
theorem numLen_mem (s : List UInt8) : ∀ b ∈ s.take (numLen s), isDig b = true ∨ b = 46 := by
  intro b hb
  unfold numLen at hb
  split at hb
  · rename_i h
    simp only [Bool.and_eq_true, Option.any_eq_true, beq_iff_eq] at h
    obtain ⟨⟨e, he, h46⟩, _⟩ := h
    rw [List.take_add] at hb
    rcases List.mem_append.1 hb with hb | hb
    · rw [runF_take] at hb; exact .inl (mem_takeWhile hb)
    · have hd : s.drop (runF isDig s) = e :: s.drop (runF isDig s + 1) := by
        have hlt := (List.getElem?_eq_some_iff.1 he).1
        rw [List.drop_eq_getElem_cons hlt, (List.getElem?_eq_some_iff.1 he).2]
      rw [hd, Nat.add_comm 1, List.take_succ_cons, runF_take] at hb
      rcases List.mem_cons.1 hb with rfl | hb
      · right
        have : b.toNat = (46 : UInt8).toNat := by have : (46 : UInt8).toNat = 46 := rfl; omega
        exact UInt8.toNat_inj.1 this
      · exact .inl (mem_takeWhile hb)
  · rw [runF_take] at hb; exact .inl (mem_takeWhile hb)
theorem oneF_num {s : List UInt8} {a : Nat} (hs : s.length ≤ 4096) : (oneF s a).1.text.length < 2 ^ 20 ∧ ((oneF s a).1.kind = 2 → (∀ b ∈ (oneF s a).1.text, isDig b = true ∨ b = 46) ∧ ∀ b r, (oneF s a).1.text = b :: r → isDig b = true) := by
  cases s with
  | nil => simp [oneF]
  | cons b r =>
    simp only [oneF]
    simp only [List.length_cons] at hs
    split
    · exact ⟨by simp only [List.length_take, List.length_cons]; omega, fun h => by cases h⟩
    · split
      · rename_i hd
        refine ⟨by simp only [List.length_take, List.length_cons]; omega, fun _ => ⟨numLen_mem _, fun c q hq => ?_⟩⟩
        cases hn : numLen (b :: r) with
        | zero => rw [hn] at hq; simp at hq
        | succ n => rw [hn, List.take_succ_cons] at hq; cases hq; exact hd
      · split
        · have := textF_acc r.length r [] 1 (Nat.le_refl _)
          exact ⟨by simp at this ⊢; omega, fun h => by cases h⟩
        · exact ⟨by simp only [List.length_take, List.length_cons]; omega, fun h => by cases h⟩
theorem lexF_mem (l : List UInt8) (hl : l.length ≤ 4096) : ∀ (f a : Nat), ∀ t ∈ (lexF l f a).1, t.text.length < 2 ^ 20 ∧ (t.kind = 2 → (∀ b ∈ t.text, isDig b = true ∨ b = 46) ∧ ∀ b r, t.text = b :: r → isDig b = true) := by
  intro f
  induction f with
  | zero => intro a t h; simp [lexF] at h
  | succ f ih =>
    intro a t h
    simp only [lexF] at h
    split at h
    · split at h
      · simp at h
      · rcases List.mem_cons.1 h with rfl | h
        · exact oneF_num (by simp; omega)
        · exact ih _ t h
    · simp at h
theorem lexF_len (l : List UInt8) : ∀ (f a : Nat), (lexF l f a).1.length ≤ f := by
  intro f
  induction f with
  | zero => intro a; simp [lexF]
  | succ f ih =>
    intro a
    simp only [lexF]
    split
    · split
      · simp
      · have := ih (skipN l (a + (oneF (l.drop a) a).2)); simp; omega
    · simp
theorem allTok_ok {l : List UInt8} : NumTok (allTok l).1 ∧ (allTok l).1.length ≤ 4097 := by
  unfold allTok
  split
  · exact ⟨fun a t h => by simp at h, by simp⟩
  · split
    · refine ⟨fun a t h => ?_, ?_⟩
      · exact lexF_mem l (by omega) _ _ t (List.mem_of_getElem? h)
      · have := lexF_len l (l.length + 1) (skipN l 0); simp only; omega
    · exact ⟨fun a t h => by simp at h, by simp⟩
def parseF (s : List UInt8) : List Nod × Int := if (allTok s).2.2 ≠ 0 then ([], (allTok s).2.2) else match conO (allTok s).1 0 with
  | none => ([], 100)
  | some p => if p.2 ≠ (allTok s).1.length then ([], 100) else if (p.1.length : Int) > 31 then ([], 4) else (p.1, 0)
theorem conO_nil : conO [] 0 = none := by kernel_rfl
end Go.Vi
namespace Go.Vi
open Go Go.Proofs

theorem NodesAt.take {H : AHeap} {v : Value} {ns : List Nod} {j : Nat} (h : NodesAt H v ns) (hj : j ≤ ns.length) : ∃ t, aSliceOp Tryz.prog H 27 v none (some (i64 j)) = some t ∧ NodesAt H t (ns.take j) := by
  obtain ⟨cl, ha, hcl, hc⟩ := h
  have hres : ∀ (i : Nat) n, (ns.take j)[i]? = some n → ∃ sv, (cl.take j)[i]? = some (n.cells sv) ∧ MatsAt H sv n.sel ∧ n.sel.length < 2 ^ 63 := by
    intro i n hi
    have hij : i < j := by have := (List.getElem?_eq_some_iff.1 hi).1; simp at this; omega
    rw [List.getElem?_take_of_lt hij] at hi
    obtain ⟨sv, q1, q2⟩ := hc i n hi
    exact ⟨sv, by rw [List.getElem?_take_of_lt hij]; exact q1, q2⟩
  have hu : Tryz.prog.underlying 27 = some (.slice 37) := by simp
  have hz : tsize Tryz.prog 37 = some 8 := by simp
  cases ha with
  | nil =>
    simp at hcl
    have : j = 0 := by omega
    subst this
    refine ⟨.slice none 0 0, ?_, [], .nil, by simp, fun i n hi => by simp at hi⟩
    simp [aSliceOp, aLow, aHigh, hu, hz]
  | mk b o m n c cs l hn hcs hm hle hel hnc =>
    have hl : hlen H b = some m := by rw [← hm]; exact hcells_len hcs
    have h8 : o + j * 8 ≤ m := by have : j * 8 ≤ n * 8 := by omega
                                  omega
    have harr : Arr H 8 (.slice (some ⟨b, o, some m⟩) j c) (cl.take j) := by
      refine .mk b o m j c cs _ (by simp; omega) hcs hm h8 (fun i e hi => ?_) (by omega)
      have hij : i < j := by have := (List.getElem?_eq_some_iff.1 hi).1; simp at this; omega
      rw [List.getElem?_take_of_lt hij] at hi
      exact hel i e hi
    refine ⟨.slice (some ⟨b, o, some m⟩) j c, ?_, cl.take j, harr, by simp; omega, hres⟩
    simp only [aSliceOp, hu, hz, aLow, aHigh]
    rw [if_pos ⟨hl, by omega, by omega, by omega, .inl trivial⟩]
    simp
section
variable {H : AHeap} {ns : List Nod} {v : Value} {k : Value → AHeap → Prop}
end
end Go.Vi
namespace Go.Vi
open Go Go.Proofs

end Go.Vi
namespace Go.Vi
open Go Go.Proofs

theorem acallsG_flat {P : Program} {D : DrawK} (hD : ∀ c : Ctx, @SoundK c P D) {f fn args H v} (hf : P.funcs[f]? = some fn) (hn : notNG fn = true) (hc : flat v = true) (hr : kbodyG P D fn args H fun u H2 => u = v ∧ ∃ X, H2 = H ++ X) : ACalls P f args H v H := by
  intro w0 s w args' h hargs
  left
  unfold kbodyG at hr
  split at hr
  · rename_i c hb
    constructor
    · have hq : ¬ fn.name = "runtime.NumGoroutine" := by intro q; simp [notNG, q] at hn
      have hbn : ¬ fn.body = none := by rw [hb]; simp
      simp [callFunc, hf, hq, hbn]
    · letI : Ctx := ⟨[], none⟩
      refine callsIn_wide.1 (callsIn_of_wp_marks (F := Fence.wide) (n := 0) hf hb trivial ?_ rfl)
      have hal : args.length = args'.size := by have := hargs.1; simpa using this
      have ha : ARel s H (args ++ List.replicate (fn.ntmps - args.length) undef) { tmps := args' ++ Array.replicate (fn.ntmps - args'.size) undef, defers := [] } := by
        refine ⟨?_, rfl⟩
        simp only [Array.toList_append, Array.toList_replicate, hal]
        refine hargs.append ⟨by simp, fun i x y hx hy => ?_⟩
        rw [List.getElem?_replicate] at hx hy
        split at hx
        · rename_i hi
          rw [if_pos hi] at hy
          cases hx; cases hy
          exact undef_rel _ _
        · cases hx
      refine kxG_sound hD c h ha ⟨[], rfl, .nil _ _⟩ hr ?_
      have fin : ∀ {sl' H2 m' s' a' w' ds'}, WRel w0 s' H2 w' → Ext s H s' H2 → @ARel ⟨ds', none⟩ s' H2 sl' a' → MarkRel s' H2 m' ds' → kmarks (fun H2 => kres P sl' H2 fn.results.toList fun l => retV l = v ∧ ∃ X, H2 = H ++ X) m' H2 →
          LeavesInM Fence.wide 0 P fn a'.tmps (AEnd w0 s H v H) a'.defers .returning w' := by
        intro sl' H2 m' s' a' w' ds' g1 g2 g3 g4 hk
        have hd : a'.defers = ds' := @ARel.d ⟨ds', none⟩ _ _ _ _ g3
        rw [hd]
        refine kmarks_leave m' g1 g2 (@ARel.r ⟨ds', none⟩ _ _ _ _ g3) g4 hk ?_
        intro s5 H5 w5 q1 q2 q3 q4
        obtain ⟨l, h1, rfl, X, rfl⟩ := kres_sound _ q4
        obtain ⟨v', k1, k2⟩ := run_ret (P := P) (a := { tmps := a'.tmps, defers := [] }) fn q1.h ⟨q3, rfl⟩ (aRet_of h1)
        exact ⟨v', k1, s, v', rfl, h.forget q1 q2, Ext.refl _ _, by rw [k2.flat_eq hc]; exact flat_rel hc s H⟩
      intro e sl' H2 m' hk s' a' w' ds' g1 g2 g3 g4
      cases e with
      | exit i => cases hk
      | normal => exact fin g1 g2 g3 g4 hk
      | ret => exact fin g1 g2 g3 g4 hk
  · cases hr
theorem mat_guard (m : Mat) (x y : Operand) : pv Tryz.prog (eqGuard .neq 75 x y (.agg m.cells.toArray) (.agg m.cells.toArray)) = some () := by kernel_rfl
theorem pv_str {P : Program} {T : TypeId} {d : Nat} {a : ByteArray} (h : P.underlying T = some .string) : pv P (Op.equalIn (d + 1) T (.string a) (.string a)) = some true := by
  have e : (a == a) = true := by
    obtain ⟨⟨x⟩⟩ := a
    show ((⟨x⟩ : Array UInt8) == ⟨x⟩) = true
    simp
  unfold Op.equalIn
  rw [pv_bind, pv_und h]
  simp [pv_pure, e]
theorem pv_int {P : Program} {T : TypeId} {d : Nat} {k k' : IntKind} {n : Int} (h : P.underlying T = some (.int k')) : pv P (Op.equalIn (d + 1) T (.int k n) (.int k n)) = some true := by
  unfold Op.equalIn
  rw [pv_bind, pv_und h]
  simp [pv_pure]
theorem pv_prog {P : Program} : pv P program = some P := rfl
theorem mat_eq (m : Mat) : pv Tryz.prog (Op.equal 75 (.agg m.cells.toArray) (.agg m.cells.toArray)) = some true := by
  show pv Tryz.prog (Op.equalIn (9998 + 1 + 1) 75 _ _) = _
  have hs : Tryz.prog.stoodInHeld 75 = false := by kernel_rfl
  have p0 : pv Tryz.prog (part 9 m.cells.toArray 0) = some (str m.name) := by kernel_rfl
  have p1 : pv Tryz.prog (part 5 m.cells.toArray 1) = some (.int .u8 m.op) := by kernel_rfl
  have p2 : pv Tryz.prog (part 9 m.cells.toArray 2) = some (str m.value) := by kernel_rfl
  have e0 : ∀ s : List UInt8, pv Tryz.prog (Op.equalIn (9998 + 1) 9 (str s) (str s)) = some true := fun s => pv_str (by simp)
  have e1 : pv Tryz.prog (Op.equalIn (9998 + 1) 5 (.int .u8 m.op) (.int .u8 m.op)) = some true := pv_int (k' := .u8) (by simp)
  rw [Op.equalIn]
  rw [pv_bind, pv_und (by simp; rfl)]
  simp only [Option.bind_some]
  simp [pv_bind, pv_prog, hs, p0, p1, p2, e0, e1, pv_pure]
theorem aBin_mat {H : AHeap} {x y : Operand} (m : Mat) : aBin2 Tryz.prog H .neq 75 x y (.agg m.cells.toArray) (.agg m.cells.toArray) = some (.bool false) := by
  apply aBin2_of
  have : pv Tryz.prog (do eqGuard .neq 75 x y (.agg m.cells.toArray) (.agg m.cells.toArray); binOp .neq 75 (.agg m.cells.toArray) (.agg m.cells.toArray)) = some (.bool false) := by
    rw [pv_bind, mat_guard, Option.bind_some]
    show pv Tryz.prog (Op.equal 75 (.agg m.cells.toArray) (.agg m.cells.toArray) >>= fun r => pure (Value.bool !r)) = _
    rw [pv_bind, mat_eq]; rfl
  unfold aBin
  rw [if_pos ⟨rfl, rfl⟩, this]; rfl
theorem sameM_loop {H : AHeap} {v1 v2 : Value} {ms : List Mat} {k : Value → AHeap → Prop} (h1 : MatsAt H v1 ms) (h2 : MatsAt H v2 ms) (hl : ms.length < 2 ^ 63) (hk : k (.bool true) H) :
    ∀ (n i : Nat) (s2 s3 s4 s6 s7 s8 s9 s10 s11 s12 s13 s14 s15 s16 s17 s18 s19 s20 s21 s22 s23 s24 s25 : Value), n + i = ms.length → L41x0 (n + 1) k [v1, v2, s2, s3, s4, i64 i, s6, s7, s8, s9, s10, s11, s12, s13, s14, s15, s16, s17, s18, s19, s20, s21, s22, s23, s24, s25] H := by
  intro n
  have hlen := Arr.len (P := Tryz.prog) (T := 35) (e := 75) h1 (by simp)
  simp at hlen
  induction n with
  | zero =>
    intro i s2 s3 s4 s6 s7 s8 s9 s10 s11 s12 s13 s14 s15 s16 s17 s18 s19 s20 s21 s22 s23 s24 s25 hi
    rw [L41x0q]
    have : ¬ i < ms.length := by omega
    simp [hlen, this]
    exact hk
  | succ n ih =>
    intro i s2 s3 s4 s6 s7 s8 s9 s10 s11 s12 s13 s14 s15 s16 s17 s18 s19 s20 s21 s22 s23 s24 s25 hi
    have hlt : i < ms.length := by omega
    rw [L41x0q]
    obtain ⟨m, hm⟩ : ∃ m, ms[i]? = some m := ⟨_, List.getElem?_eq_getElem hlt⟩
    have hc : (ms.map Mat.cells)[i]? = some m.cells := by rw [List.getElem?_map, hm]; rfl
    obtain ⟨p, hp1, hp2⟩ := Arr.load (P := Tryz.prog) (T := 35) (te := 75) h1 (i := i) (e := m.cells) (by simp) (by simp) (by simp) hc
    obtain ⟨q, hq1, hq2⟩ := Arr.load (P := Tryz.prog) (T := 35) (te := 75) h2 (i := i) (e := m.cells) (by simp) (by simp) (by simp) hc
    have w1 : IntKind.i64.wrap ((i : Int) + 1) = ((i + 1 : Nat) : Int) := by rw [wrap_i64 (by omega) (by omega)]; omega
    simp [hlen, hlt, hp1, hp2, hq1, hq2, aBin_mat, w1]
    rw [show ((i : Int) + 1) = ((i + 1 : Nat) : Int) by omega]
    exact ih (i + 1) _ _ _ _ _ _ _ _ _ _ _ _ _ _ _ _ _ _ _ _ _ _ _ (by omega)
theorem c_sameM {H : AHeap} {v1 v2 : Value} {ms : List Mat} (h1 : MatsAt H v1 ms) (h2 : MatsAt H v2 ms) (hl : ms.length < 2 ^ 63) : ACalls Tryz.prog 41 [v1, v2] H (.bool true) H := by
  refine acalls_pure MixT Tryz.func41 (by decide) rfl ?_
  rw [d41]
  have hl1 := Arr.len (P := Tryz.prog) (T := 35) (e := 75) h1 (by simp)
  have hl2 := Arr.len (P := Tryz.prog) (T := 35) (e := 75) h2 (by simp)
  simp at hl1 hl2
  simp [hl1, hl2]
  exact ⟨_, sameM_loop h1 h2 hl ⟨rfl, [], by simp⟩ ms.length 0 _ _ _ _ _ _ _ _ _ _ _ _ _ _ _ _ _ _ _ _ _ _ _ (by omega)⟩
set_option maxHeartbeats 1000000 in
theorem sameN_loop {H : AHeap} {v1 v2 : Value} {ns : List Nod} {k : Value → AHeap → Prop} (h1 : NodesAt H v1 ns) (h2 : NodesAt H v2 ns) (hl : ns.length < 2 ^ 63) (hs : ∀ n ∈ ns, n.sel.length < 2 ^ 63) (hk : ∀ X, k (.bool true) (H ++ X)) :
    ∀ (n i : Nat) (X : AHeap) (s2 s3 s4 s6 s7 s8 s9 s10 s11 s12 s13 s14 s15 s16 s17 s18 s19 s20 s21 s22 s23 s24 s25 s26 s27 s28 s29 s30 s31 s32 s33 s34 s35 s36 s37 s38 s39 s40 s41 s42 s43 s44 s45 s46 s47 s48 s49 s50 s51 s52 s53 s54 s55 s56 s57 s58 s59 s60 s61 s62 s63 s64 s65 s66 s67 s68 s69 s70 s71 s72 s73 s74 s75 s76 s77 s78 s79 s80 s81 : Value), n + i = ns.length → L19x0 (n + 1) k [v1, v2, s2, s3, s4, i64 i, s6, s7, s8, s9, s10, s11, s12, s13, s14, s15, s16, s17, s18, s19, s20, s21, s22, s23, s24, s25, s26, s27, s28, s29, s30, s31, s32, s33, s34, s35, s36, s37, s38, s39, s40, s41, s42, s43, s44, s45, s46, s47, s48, s49, s50, s51, s52, s53, s54, s55, s56, s57, s58, s59, s60, s61, s62, s63, s64, s65, s66, s67, s68, s69, s70, s71, s72, s73, s74, s75, s76, s77, s78, s79, s80, s81] (H ++ X) := by
  intro n
  have hlen := h1.len
  induction n with
  | zero =>
    intro i X s2 s3 s4 s6 s7 s8 s9 s10 s11 s12 s13 s14 s15 s16 s17 s18 s19 s20 s21 s22 s23 s24 s25 s26 s27 s28 s29 s30 s31 s32 s33 s34 s35 s36 s37 s38 s39 s40 s41 s42 s43 s44 s45 s46 s47 s48 s49 s50 s51 s52 s53 s54 s55 s56 s57 s58 s59 s60 s61 s62 s63 s64 s65 s66 s67 s68 s69 s70 s71 s72 s73 s74 s75 s76 s77 s78 s79 s80 s81 hi
    rw [L19x0q]
    have : ¬ i < ns.length := by omega
    simp [hlen, this]
    exact hk X
  | succ n ih =>
    intro i X s2 s3 s4 s6 s7 s8 s9 s10 s11 s12 s13 s14 s15 s16 s17 s18 s19 s20 s21 s22 s23 s24 s25 s26 s27 s28 s29 s30 s31 s32 s33 s34 s35 s36 s37 s38 s39 s40 s41 s42 s43 s44 s45 s46 s47 s48 s49 s50 s51 s52 s53 s54 s55 s56 s57 s58 s59 s60 s61 s62 s63 s64 s65 s66 s67 s68 s69 s70 s71 s72 s73 s74 s75 s76 s77 s78 s79 s80 s81 hi
    have hlt : i < ns.length := by omega
    rw [L19x0q]
    obtain ⟨m, hm⟩ : ∃ m, ns[i]? = some m := ⟨_, List.getElem?_eq_getElem hlt⟩
    have w1 : IntKind.i64.wrap ((i : Int) + 1) = ((i + 1 : Nat) : Int) := by rw [wrap_i64 (by omega) (by omega)]; omega
    have ld : ∀ {v}, NodesAt H v ns → ∃ sv, MatsAt H sv m.sel ∧ ∀ Y, ∃ p, aIndexAddr Tryz.prog (H ++ Y) 27 v (i64 i) = some p ∧ aLoad Tryz.prog (H ++ Y) 37 p = some (.agg (m.cells sv).toArray) := by
      intro v h
      obtain ⟨cl, ha, hcl, hc⟩ := h
      obtain ⟨sv, q1, q2, q3⟩ := hc _ _ hm
      exact ⟨sv, q2, fun Y => (ha.pre (.app H Y)).load (P := Tryz.prog) (T := 27) (te := 37) (by simp) (by simp) (by simp) q1⟩
    obtain ⟨s1, m1, l1⟩ := ld h1
    obtain ⟨s2', m2, l2⟩ := ld h2
    obtain ⟨p, p1, p2⟩ := l1 X
    obtain ⟨q, q1, q2⟩ := l2 X
    have a1 := m1.one
    have a2 := m2.one
    refine bnd_of (hlen _) ?_
    refine bnd_of (v := .bool true) (by simp [hlt]) ?_
    dsimp only
    rw [kifB_true]
    dsimp only
    have hsl := hs m (List.mem_of_getElem? hm)
    refine ⟨?_, ?_⟩
    · simp only [bnd_some, p1, p2, q1, q2]
      refine bndK_ext (tal37 _) ⟨_, rfl⟩ ?_
      dsimp only
      refine bndK_ext (tal37 _) ⟨_, rfl⟩ ?_
      dsimp only
      refine bndK_of (v := undef) (H' := H ++ X ++ [.cells (m.cells s1) 37] ++ [.cells [.int .u8 0, .int .u8 0, .slice none 0 0, .int .i64 0, .int .u8 0, .int .i64 0, .int .i64 0, .int .i64 0] 37]) ⟨rfl, by simp [Nod.cells, a1]⟩ ?_ ?_
      · dsimp only
        rw [List.append_assoc (H ++ X)]
        exact ⟨aLoad_more q2, aIndexAddr_more q1, trivial⟩
      · dsimp only
        refine bndK_bar (v := undef) (H' := H ++ X ++ [.cells (m.cells s1) 37] ++ [.cells (m.cells s2') 37]) ⟨rfl, by simp [Nod.cells, a2]⟩ ?_
        dsimp only
        obtain ⟨K, hK⟩ : ∃ K, K = H ++ X ++ [.cells (m.cells s1) 37] ++ [.cells (m.cells s2') 37] := ⟨_, rfl⟩
        have hKX : K = H ++ (X ++ [.cells (m.cells s1) 37] ++ [.cells (m.cells s2') 37]) := by rw [hK]; simp
        have e1 : H.length + (X.length + 1) = (H ++ X ++ [AObj.cells (m.cells s1) 37]).length := by simp
        have f1 : hcells K (H.length + X.length) = some (m.cells s1) := by rw [hK, ← List.length_append]; simp
        have f2 : Vi.hlen K (H.length + X.length) = some 8 := by rw [hK, ← List.length_append]; simp [Nod.cells]
        have f3 : hcells K (H.length + (X.length + 1)) = some (m.cells s2') := by rw [hK, e1]; simp
        have f4 : Vi.hlen K (H.length + (X.length + 1)) = some 8 := by rw [hK, e1]; simp [Nod.cells]
        rw [← hK]
        clear hK p1 p2 q1 q2 l1 l2 ld
        simp only [Nod.cells] at f1 f3
        simp [f1, f2, f3, f4]
        refine bndG_call (.bool true) (fun _ => by rw [hKX]; exact c_sameM (m1.pre (.app H _)) (m2.pre (.app H _)) hsl) ?_
        simp [f1, f2, f3, f4, w1]
        rw [hKX, show ((i : Int) + 1) = ((i + 1 : Nat) : Int) by omega]
        exact ih (i + 1) _ _ _ _ _ _ _ _ _ _ _ _ _ _ _ _ _ _ _ _ _ _ _ _ _ _ _ _ _ _ _ _ _ _ _ _ _ _ _ _ _ _ _ _ _ _ _ _ _ _ _ _ _ _ _ _ _ _ _ _ _ _ _ _ _ _ _ _ _ _ _ _ _ _ _ _ _ _ _ _ (by omega)
    · simp only [bnd_some, p1, p2, q1, q2]
      refine bndK_ext (tal37 _) ⟨_, rfl⟩ ?_
      dsimp only
      refine bndK_ext (tal37 _) ⟨_, rfl⟩ ?_
      dsimp only
      refine bndK_of (v := undef) (H' := H ++ X ++ [.cells [.int .u8 0, .int .u8 0, .slice none 0 0, .int .i64 0, .int .u8 0, .int .i64 0, .int .i64 0, .int .i64 0] 37] ++ [.cells (m.cells s1) 37]) ⟨rfl, by simp [Nod.cells, a1]⟩ ?_ ?_
      · dsimp only
        rw [List.append_assoc (H ++ X)]
        exact ⟨aLoad_more q2, aIndexAddr_more q1, trivial⟩
      · dsimp only
        refine bndK_bar (v := undef) (H' := H ++ X ++ [.cells (m.cells s2') 37] ++ [.cells (m.cells s1) 37]) ⟨rfl, by simp [Nod.cells, a2]⟩ ?_
        dsimp only
        obtain ⟨K, hK⟩ : ∃ K, K = H ++ X ++ [.cells (m.cells s2') 37] ++ [.cells (m.cells s1) 37] := ⟨_, rfl⟩
        have hKX : K = H ++ (X ++ [.cells (m.cells s2') 37] ++ [.cells (m.cells s1) 37]) := by rw [hK]; simp
        have e1 : H.length + (X.length + 1) = (H ++ X ++ [AObj.cells (m.cells s2') 37]).length := by simp
        have f3 : hcells K (H.length + X.length) = some (m.cells s2') := by rw [hK, ← List.length_append]; simp
        have f4 : Vi.hlen K (H.length + X.length) = some 8 := by rw [hK, ← List.length_append]; simp [Nod.cells]
        have f1 : hcells K (H.length + (X.length + 1)) = some (m.cells s1) := by rw [hK, e1]; simp
        have f2 : Vi.hlen K (H.length + (X.length + 1)) = some 8 := by rw [hK, e1]; simp [Nod.cells]
        rw [← hK]
        clear hK p1 p2 q1 q2 l1 l2 ld
        simp only [Nod.cells] at f1 f3
        simp [f1, f2, f3, f4]
        refine bndG_call (.bool true) (fun _ => by rw [hKX]; exact c_sameM (m1.pre (.app H _)) (m2.pre (.app H _)) hsl) ?_
        simp [f1, f2, f3, f4, w1]
        rw [hKX, show ((i : Int) + 1) = ((i + 1 : Nat) : Int) by omega]
        exact ih (i + 1) _ _ _ _ _ _ _ _ _ _ _ _ _ _ _ _ _ _ _ _ _ _ _ _ _ _ _ _ _ _ _ _ _ _ _ _ _ _ _ _ _ _ _ _ _ _ _ _ _ _ _ _ _ _ _ _ _ _ _ _ _ _ _ _ _ _ _ _ _ _ _ _ _ _ _ _ _ _ _ _ (by omega)
theorem c_sameN {H : AHeap} {v1 v2 : Value} {ns : List Nod} (h1 : NodesAt H v1 ns) (h2 : NodesAt H v2 ns) (hl : ns.length < 2 ^ 63) (hs : ∀ n ∈ ns, n.sel.length < 2 ^ 63) : ACalls Tryz.prog 19 [v1, v2] H (.bool true) H := by
  refine acallsG_flat (fun c => @drawPairK_sound _ c MixT) Tryz.func19 (by decide) rfl ?_
  rw [d19]
  have hl1 := h1.len
  have hl2 := h2.len
  simp [hl1, hl2]
  have := sameN_loop (k := fun u H2 => u = .bool true ∧ ∃ X, H2 = H ++ X) h1 h2 hl hs (fun X => ⟨rfl, X, rfl⟩) ns.length 0 []
  simp only [List.append_nil] at this
  exact ⟨_, this _ _ _ _ _ _ _ _ _ _ _ _ _ _ _ _ _ _ _ _ _ _ _ _ _ _ _ _ _ _ _ _ _ _ _ _ _ _ _ _ _ _ _ _ _ _ _ _ _ _ _ _ _ _ _ _ _ _ _ _ _ _ _ _ _ _ _ _ _ _ _ _ _ _ _ _ _ _ _ (by omega)⟩
end Go.Vi
