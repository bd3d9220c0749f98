/- The sum of bytes (crc). Statements of chapter 10: the examples. Rules, and a rule's fingerprint. Rules as they are handed over. Package variables, as the world lays them, in the abstract memory. The fingerprints of rules; whether none comes twice. Whether rules are more than is gone through. Statements of chapter 14: the examples. -/
import Derived.Test.YtpkdgmcfojjfjaaGreatDoorJ6
import Derived.Test.YtpkdgmcfojjfjaaGreatDoorJ4
import Derived.Test.YtpkdgmcfojjfjaaGreatDoorJ2
import Derived.Test.YtpkdgmcfojjfjaaGreatDoorJ5
import Derived.LaidSub
import Derived.Lay
import Derived.MakeChecks
import Derived.ChangeMaps5
namespace Go.Vi
open Go Go.Proofs

def andI (k : IntKind) (a b : Int) : Int := k.wrap (BitVec.ofInt k.bits a &&& BitVec.ofInt k.bits b).toNat
def xorI (k : IntKind) (a b : Int) : Int := k.wrap (BitVec.ofInt k.bits a ^^^ BitVec.ofInt k.bits b).toNat
theorem aBin_and {P : Program} {H : AHeap} {T : TypeId} {x y : Operand} {k : IntKind} {a b : Int} : aBin2 P H .and T x y (.int k a) (.int k b) = some (.int k (andI k a b)) := by
  apply aBin2_of
  simp [aBin, clos, isLit, eqGuard, binOp, Op.intBits, pv_pure, andI]
theorem aBin_xor {P : Program} {H : AHeap} {T : TypeId} {x y : Operand} {k : IntKind} {a b : Int} : aBin2 P H .xor T x y (.int k a) (.int k b) = some (.int k (xorI k a b)) := by
  apply aBin2_of
  simp [aBin, clos, isLit, eqGuard, binOp, Op.intBits, pv_pure, xorI]
theorem unV_xor32 {P : Program} {a : Int} : unV P .xor (.int .u32 a) = some (.int .u32 (xorI .u32 4294967295 a)) := by kernel_rfl
def upF (p : Int) : Int := if (andI .u32 p 1 == 1) = true then xorI .u32 (p.fdiv 2) 2197175160 else p.fdiv 2
theorem c_up (H : AHeap) (p : Int) : ACalls Tryz.prog 119 [.int .u32 p] H (.int .u32 (upF p)) H := by
  refine acalls_pure MixT Tryz.func119 (by decide) rfl ?_
  rw [d119]
  have e : (2 : Int) ^ (min 1 IntKind.u32.bits) = 2 := by decide
  simp [aBin_and]
  refine kifB_bool (fun h => ?_) (fun h => ?_)
  · simp [upF, h, aBin_shr, aBin_xor, e]
  · simp [upF, h, aBin_shr, e]
def ups : Nat → Int → Int
  | 0, p => p
  | n + 1, p => ups n (upF p)
def tabF (i : Nat) : Int := ups 8 i
def tabC (i : Nat) : List Value := (List.range i).map (fun j => .int .u32 (tabF j)) ++ List.replicate (256 - i) (.int .u32 0)
theorem tabC_len {i : Nat} (h : i ≤ 256) : (tabC i).length = 256 := by simp [tabC]; omega
theorem tabC_set {i : Nat} (h : i < 256) : (tabC i).set i (.int .u32 (tabF i)) = tabC (i + 1) := by
  unfold tabC
  rw [List.set_append_right _ _ (by simp), List.length_map, List.length_range, Nat.sub_self, show 256 - i = (256 - (i + 1)) + 1 by omega, List.replicate_succ, List.set_cons_zero, List.range_succ, List.map_append]
  simp
theorem row_in {k : Value → AHeap → Prop} {H : AHeap} {n0 i : Nat} {pv : Value} (hi : i < 256) (hp : pv = .pointer (some ⟨H.length, 0, some 256⟩))
    (hk : ∀ (s0 s2 s3 s5 s6 s7 s8 s9 s10 s11 s12 s13 s14 s15 s16 s17 : Value), L82x0 n0 k [s0, pv, s2, s3, i64 ((i + 1 : Nat) : Int), s5, s6, s7, s8, s9, s10, s11, s12, s13, s14, s15, s16, s17] (H ++ [.cells (tabC (i + 1)) 158])) :
    ∀ (n j : Nat) (p : Int) (s0 s5 s6 s7 s8 s10 s11 s12 s13 s14 s15 s16 s17 : Value), n + j = 8 → ups n p = tabF i → L82x1 (n + 1) n0 k [s0, pv, i64 i, .int .u32 p, i64 i, s5, s6, s7, s8, i64 j, s10, s11, s12, s13, s14, s15, s16, s17] (H ++ [.cells (tabC i) 158]) := by
  intro n
  induction n with
  | zero =>
    intro j p s0 s5 s6 s7 s8 s10 s11 s12 s13 s14 s15 s16 s17 hj hu
    rw [L82x1q]
    have : ¬ j < 8 := by omega
    have hl : hlen (H ++ [.cells (tabC i) 158]) H.length = some 256 := by simp [tabC_len (Nat.le_of_lt hi)]
    have hia := aIndexAddr_arr (P := Tryz.prog) (H := H ++ [.cells (tabC i) 158]) (T := 158) (e := 50) (b := H.length) (o := 0) (m := 256) (z := 1) (n := 256) (k := .i64) (i := i) (by simp) (by simp) hl (by omega) (by omega)
    subst hp
    have w1 : IntKind.i64.wrap ((i : Int) + 1) = ((i + 1 : Nat) : Int) := by rw [wrap_i64 (by omega) (by omega)]; omega
    simp only [ups] at hu
    subst hu
    have hge : ¬ ((j : Int) < 8) := by omega
    simp [hge, hia, tabC_len (Nat.le_of_lt hi)]
    rw [if_pos (by omega), tabC_set hi]
    simp [w1]
    exact hk _ _ _ _ _ _ _ _ _ _ _ _ _ _ _ _
  | succ n ih =>
    intro j p s0 s5 s6 s7 s8 s10 s11 s12 s13 s14 s15 s16 s17 hj hu
    rw [L82x1q]
    have hlt : j < 8 := by omega
    have w1 : IntKind.i64.wrap ((j : Int) + 1) = ((j + 1 : Nat) : Int) := by rw [wrap_i64 (by omega) (by omega)]; omega
    refine bnd_of (v := .bool true) (by simp; omega) ?_
    dsimp only
    rw [kifB_true]
    dsimp only
    refine bndC_of (c_up _ p) ?_
    simp [w1]
    rw [show ((j : Int) + 1) = ((j + 1 : Nat) : Int) by omega]
    exact ih (j + 1) _ _ _ _ _ _ _ _ _ _ _ _ _ _ (by omega) hu
theorem alTab (H : AHeap) : aAlloc Tryz.prog H 158 = some (.pointer (some ⟨H.length, 0, some 256⟩), H ++ [.cells (tabC 0) 158]) := by kernel_rfl
theorem row_out {k : Value → AHeap → Prop} {H : AHeap} {pv : Value} (hp : pv = .pointer (some ⟨H.length, 0, some 256⟩)) (hk : k pv (H ++ [.cells (tabC 256) 158])) :
    ∀ (n i : Nat) (s0 s2 s3 s5 s6 s7 s8 s9 s10 s11 s12 s13 s14 s15 s16 s17 : Value), n + i = 256 → L82x0 (n + 1) k [s0, pv, s2, s3, i64 i, s5, s6, s7, s8, s9, s10, s11, s12, s13, s14, s15, s16, s17] (H ++ [.cells (tabC i) 158]) := by
  intro n
  induction n with
  | zero =>
    intro i s0 s2 s3 s5 s6 s7 s8 s9 s10 s11 s12 s13 s14 s15 s16 s17 hi
    obtain rfl : i = 256 := by omega
    rw [L82x0q]
    simp
    exact hk
  | succ n ih =>
    intro i s0 s2 s3 s5 s6 s7 s8 s9 s10 s11 s12 s13 s14 s15 s16 s17 hi
    have hlt : (i : Int) < 256 := by omega
    rw [L82x0q]
    simp [hlt, convV_int]
    have w : IntKind.u32.wrap (i : Int) = i := by
      unfold IntKind.wrap
      simp only [show IntKind.u32.bits = 32 from rfl, show IntKind.u32.signed = false from rfl]
      simp
      omega
    rw [w]
    exact ⟨_, row_in (n0 := n + 1) (i := i) (by omega) hp (fun s0 s2 s3 s5 s6 s7 s8 s9 s10 s11 s12 s13 s14 s15 s16 s17 => ih (i + 1) _ _ _ _ _ _ _ _ _ _ _ _ _ _ _ _ (by omega)) 8 0 i _ _ _ _ _ _ _ _ _ _ _ _ _ rfl rfl⟩
/-- The table lies in the memory. -/
def tabV (b : Nat) : Value := .pointer (some ⟨b, 0, some 256⟩)
theorem c_row (H : AHeap) : ACalls Tryz.prog 82 [] H (tabV H.length) (H ++ [.cells (tabC 256) 158]) := by
  refine acalls_of MixT Tryz.func82 (by decide) ?_
  rw [d82, alTab]
  simp
  exact ⟨_, row_out rfl ⟨rfl, rfl⟩ 256 0 _ _ _ _ _ _ _ _ _ _ _ _ _ _ _ _ rfl⟩
/-- One byte more. -/
def onF (left : Int) (b : UInt8) : Int := xorI .u32 (tabF (xorI .u8 (IntKind.u8.wrap left) b.toNat).toNat) (left.fdiv 256)
theorem xor8_lt (a : Int) (b : UInt8) : 0 ≤ xorI .u8 a b.toNat ∧ xorI .u8 a b.toNat < 256 := by
  unfold xorI IntKind.wrap
  simp only [show IntKind.u8.bits = 8 from rfl, show IntKind.u8.signed = false from rfl]
  simp
  omega
theorem tab_at {K : AHeap} {tb : Nat} (h : hcells K tb = some (tabC 256)) {x : Int} (h0 : 0 ≤ x) (h1 : x < 256) : ∃ p, aIndexAddr Tryz.prog K 158 (tabV tb) (.int .u8 x) = some p ∧ aLoad Tryz.prog K 50 p = some (.int .u32 (tabF x.toNat)) := by
  have hl : hlen K tb = some 256 := by rw [hcells_len h, tabC_len (Nat.le_refl _)]
  refine ⟨_, aIndexAddr_arr (P := Tryz.prog) (H := K) (T := 158) (e := 50) (b := tb) (o := 0) (m := 256) (z := 1) (n := 256) (k := .u8) (i := x) (by simp) (by simp) hl h0 (by omega), ?_⟩
  have hc : (tabC 256)[x.toNat]? = some (.int .u32 (tabF x.toNat)) := by
    unfold tabC
    rw [List.getElem?_append_left (by simp; omega), List.getElem?_map, List.getElem?_range (by omega)]
    rfl
  simp [h, hc, tabC_len (Nat.le_refl 256)]
theorem on_loop {H : AHeap} {tb : Nat} {v : Value} {l : List UInt8} {k : Value → AHeap → Prop} (ht : hcells H tb = some (tabC 256)) (ha : Arr H 1 v (l.map fun b => [byt b])) (hl : l.length < 2 ^ 62) (w : Int) (hk : k (.int .u32 w) H) :
    ∀ (r : List UInt8) (i : Nat) (left : Int) (s2 s3 s4 s5 s6 s7 s8 s12 s13 s14 s15 s16 s17 s18 s19 s20 s21 s22 s23 s24 s25 s26 s27 : Value), l.drop i = r → i ≤ l.length → r.foldl onF left = w →
      L83x0 (r.length + 1) k [.int .u32 left, tabV tb, s2, s3, s4, s5, s6, s7, s8, v, i64 l.length, i64 i, s12, s13, s14, s15, s16, s17, s18, s19, s20, s21, s22, s23, s24, s25, s26, s27] H := by
  intro r
  induction r with
  | nil =>
    intro i left s2 s3 s4 s5 s6 s7 s8 s12 s13 s14 s15 s16 s17 s18 s19 s20 s21 s22 s23 s24 s25 s26 s27 hd hi hw
    have hle : l.length ≤ i := by simpa using hd
    rw [List.length_nil, L83x0q]
    have : ¬ i < l.length := by omega
    simp only [List.foldl_nil] at hw
    subst hw
    simp [this]
    exact hk
  | cons d r ih =>
    intro i left s2 s3 s4 s5 s6 s7 s8 s12 s13 s14 s15 s16 s17 s18 s19 s20 s21 s22 s23 s24 s25 s26 s27 hd hi hw
    have hb : l[i]? = some d := by rw [← List.head?_drop, hd]; rfl
    have hlt : i < l.length := (List.getElem?_eq_some_iff.1 hb).1
    obtain ⟨q, hp1, hp2⟩ := ha.load1 (P := Tryz.prog) (T := 55) (te := 5) (i := i) (x := byt d) (by simp) (by simp) (by simp) (by rw [List.getElem?_map, hb]; rfl)
    obtain ⟨x1, x2⟩ := xor8_lt (IntKind.u8.wrap left) d
    obtain ⟨p, g1, g2⟩ := tab_at ht x1 x2
    have w1 : IntKind.i64.wrap ((i : Int) + 1) = ((i + 1 : Nat) : Int) := by rw [wrap_i64 (by omega) (by omega)]; omega
    have e : (2 : Int) ^ (min 8 IntKind.u32.bits) = 256 := by decide
    have nv : nilV (tabV tb) = some (tabV tb) := rfl
    rw [List.length_cons, L83x0q]
    simp [hlt, hp1, hp2, convV_int, aBin_xor, g1, g2, aBin_shr, e, w1, nv]
    rw [show ((i : Int) + 1) = ((i + 1 : Nat) : Int) by omega]
    exact ih (i + 1) _ _ _ _ _ _ _ _ _ _ _ _ _ _ _ _ _ _ _ _ _ _ _ _ (by rw [← List.drop_drop, hd]; rfl) hlt hw
theorem c_on {H : AHeap} {tb : Nat} {v : Value} {l : List UInt8} {left : Int} (ht : hcells H tb = some (tabC 256)) (ha : Arr H 1 v (l.map fun b => [byt b])) (hl : l.length < 2 ^ 62) : ACalls Tryz.prog 83 [.int .u32 left, tabV tb, v] H (.int .u32 (l.foldl onF left)) H := by
  refine acalls_pure MixT Tryz.func83 (by decide) rfl ?_
  rw [d83]
  have hlen := ha.len (P := Tryz.prog) (T := 55) (e := 5) (by simp)
  simp at hlen
  simp [hlen]
  exact ⟨_, on_loop ht ha hl _ ⟨rfl, [], by simp⟩ l 0 left _ _ _ _ _ _ _ _ _ _ _ _ _ _ _ _ _ _ _ _ _ _ _ rfl (by omega) rfl⟩
/-- The sum of bytes. -/
def crcF (l : List UInt8) : Int := xorI .u32 4294967295 (l.foldl onF 4294967295)
theorem c_of {H : AHeap} {v : Value} {l : List UInt8} (ha : Arr (H ++ [.cells [v] 55]) 1 v (l.map fun b => [byt b])) (_hone : v.oneCell' = true) (hl : l.length < 2 ^ 62) : ACalls Tryz.prog 48 [.slice (some ⟨H.length, 0, some 1⟩) 1 1] (H ++ [.cells [v] 55]) (.int .u32 (crcF l)) (H ++ [.cells [v] 55]) := by
  refine acalls_pure MixT Tryz.func48 (by decide) rfl ?_
  rw [d48]
  refine bndC_of (c_row _) ?_
  simp
  refine ⟨2, ?_⟩
  have hpv : Arr (H ++ [.cells [v] 55]) 1 (.slice (some ⟨H.length, 0, some 1⟩) 1 1) [[v]] := by
    refine .mk H.length 0 1 1 1 [v] _ rfl (by simp) rfl (by omega) fun i e hi => ?_
    cases i with
    | zero => simp at hi; subst hi; rfl
    | succ i => simp at hi
  have hX := hpv.pre (.app _ [AObj.cells (tabC 256) 158])
  obtain ⟨q, hq1, hq2⟩ := hX.load1 (P := Tryz.prog) (T := 122) (te := 55) (i := 0) (x := v) (by simp) (by simp) (by simp) rfl
  have ht : hcells (H ++ [.cells [v] 55] ++ [.cells (tabC 256) 158]) (H ++ [AObj.cells [v] 55]).length = some (tabC 256) := by simp
  rw [L48x0q]
  simp at hq1 hq2
  simp [hq1, hq2]
  have ht2 : hcells (H ++ [.cells [v] 55, .cells (tabC 256) 158]) (H.length + 1) = some (tabC 256) := by simp
  have haX := ha.pre (.app _ [AObj.cells (tabC 256) 158])
  rw [List.append_assoc] at haX
  refine bndC_of (c_on (left := 4294967295) ht2 haX hl) ?_
  simp
  rw [L48x0q]
  simp [unV_xor32, crcF, show IntKind.i64.wrap 1 = 1 by decide]
theorem c_sum {H : AHeap} {v : Value} {l : List UInt8} (ha : Arr H 1 v (l.map fun b => [byt b])) (hl : l.length < 2 ^ 62) : ACalls Tryz.prog 27 [v] H (.int .u32 (crcF l)) H := by
  refine acalls_pure MixT Tryz.func27 (by decide) rfl ?_
  rw [d27]
  have hone := ha.one
  have hlit : sliceLit Tryz.prog H 122 1 [(0, v)] (.slice (some ⟨H.length, 0, some 1⟩) 1 1) (H ++ [.cells [v] 55]) := sliceLit1 (l := [v]) (tbs122 H 1 _) (by simp [hone]) rfl (by decide)
  refine bndL_lit hlit ?_
  refine bndC_of (c_of (l := l) (ha.pre (.app H _)) hone hl) ?_
  simp
end Go.Vi
namespace Go.Vi
open Go Go.Proofs

def tA : List UInt8 := [99, 111, 117, 110, 116, 40, 123, 125, 91, 53, 93, 41, 32, 62, 32, 51]
def tZ : List UInt8 := [99, 111, 117, 110, 116, 40, 123, 125, 91, 48, 93, 41, 32, 62, 32, 49]
def tB : List UInt8 := tA ++ [32, 97, 110, 100]
def nA : Nod := cmpNod 0 5 2 3000
theorem pA : parseF tA = ([nA], 0) := by kernel_rfl
theorem pB : (parseF tB).2 = 100 ∧ (parseF tZ).2 = 100 := ⟨by kernel_rfl, by kernel_rfl⟩
end Go.Vi
namespace Go.Vi
open Go Go.Proofs

structure Rul where
  name : List UInt8
  byL : List UInt8
  nodes : List Nod
  forM : Int
  every : Int
  repeatM : Int
  mutes : List (List UInt8)
  route : List UInt8
def Rul.cells (r : Rul) (nv mv : Value) : List Value := [str r.name, str r.byL, nv, i64 r.forM, i64 r.every, i64 r.repeatM, mv, str r.route]
/-- Numbers that a word holds. -/
def Rul.fit (r : Rul) : Prop := -9223372036854775808 ≤ r.forM ∧ r.forM < 9223372036854775808 ∧ -9223372036854775808 ≤ r.every ∧ r.every < 9223372036854775808
/-- A rule's cells lie here. -/
structure RulAt (H : AHeap) (r : Rul) (nv mv : Value) : Prop where
  nodes : NodesAt H nv r.nodes
  mutes : Arr H 1 mv (strCells r.mutes)
  fit : r.fit
  mlen : r.mutes.length < 2 ^ 63
theorem RulAt.pre {H K r nv mv} (h : RulAt H r nv mv) (p : Pre H K) : RulAt K r nv mv := ⟨h.nodes.pre p, h.mutes.pre p, h.fit, h.mlen⟩
theorem RulAt.o1 {H r nv mv} (h : RulAt H r nv mv) : nv.oneCell' = true := by obtain ⟨_, h, _⟩ := h.nodes; exact h.one
theorem RulAt.o2 {H r nv mv} (h : RulAt H r nv mv) : mv.oneCell' = true := h.mutes.one
def RulesAt (H : AHeap) (v : Value) (rs : List Rul) : Prop := ∃ cl : List (List Value), Arr H 8 v cl ∧ cl.length = rs.length ∧ ∀ (i : Nat) r, rs[i]? = some r → ∃ nv mv, cl[i]? = some (r.cells nv mv) ∧ RulAt H r nv mv
theorem RulesAt.pre {H K v rs} (h : RulesAt H v rs) (p : Pre H K) : RulesAt K v rs := by
  obtain ⟨cl, h1, h2, h3⟩ := h
  refine ⟨cl, h1.pre p, h2, fun i r hi => ?_⟩
  obtain ⟨nv, mv, q1, q2⟩ := h3 i r hi
  exact ⟨nv, mv, q1, q2.pre p⟩
theorem RulesAt.lenR {H v rs} (h : RulesAt H v rs) (K : AHeap) : aLen Tryz.prog K 46 v = some (i64 rs.length) := by
  obtain ⟨cl, h1, h2, _⟩ := h
  rw [← h2]
  exact h1.len' (e := 44) (by simp)
theorem RulesAt.one {H v rs} (h : RulesAt H v rs) : v.oneCell' = true := by obtain ⟨_, h, _⟩ := h; exact h.one
theorem RulesAt.at {H v rs} (h : RulesAt H v rs) {i : Nat} {r : Rul} (hi : rs[i]? = some r) : ∃ nv mv, RulAt H r nv mv ∧ ∃ p, aIndexAddr Tryz.prog H 46 v (i64 i) = some p ∧ aLoad Tryz.prog H 44 p = some (.agg (r.cells nv mv).toArray) := by
  obtain ⟨cl, h1, h2, h3⟩ := h
  obtain ⟨nv, mv, q1, q2⟩ := h3 i r hi
  exact ⟨nv, mv, q2, h1.load (P := Tryz.prog) (T := 46) (te := 44) (by simp) (by simp) (by simp) q1⟩
/-! ### The fingerprint -/
def fTxt (r : Rul) : List UInt8 := joinS [32] [r.byL, fmtS r.forM, fmtS r.every, printS r.nodes]
def fingF (r : Rul) : Int := if 1 > crcF (fTxt r) then 1 else crcF (fTxt r)
theorem print_len (ns : List Nod) : (printS ns).length ≤ 2 ^ 41 := by
  unfold printS
  split
  · rename_i h
    obtain ⟨h1, h2, h3⟩ := right_WF h
    have := txt_len ns _ _ 0 h3
    have hp : 2 ^ (ns.length + 10) ≤ 2 ^ 41 := Nat.pow_le_pow_right (by omega) (by omega)
    omega
  · simp
theorem fTxt_eq (r : Rul) : fTxt r = r.byL ++ [32] ++ fmtS r.forM ++ [32] ++ fmtS r.every ++ [32] ++ printS r.nodes := by simp [fTxt, joinS]
theorem aConv_sb (H : AHeap) (l : List UInt8) : aConv Tryz.prog H 9 55 (str l) = some (.slice (some ⟨H.length, 0, some l.length⟩) l.length l.length, H ++ [.ro (bcells l)]) := by
  have e : bytesL ⟨l.toArray⟩ = bcells l := by simp [bytesL, bcells]
  have hs : (⟨l.toArray⟩ : ByteArray).size = l.length := rfl
  have hu : isU8 Tryz.prog 5 = true := by kernel_rfl
  simp [aConv, hu, e, hs]
theorem roArr (H : AHeap) (l : List UInt8) : Arr (H ++ [.ro (bcells l)]) 1 (.slice (some ⟨H.length, 0, some l.length⟩) l.length l.length) (l.map fun b => [byt b]) := by
  refine .mk H.length 0 _ _ _ (bcells l) _ (by simp) (by simp) (by simp [bcells]) (by simp) fun i e hi => ?_
  simp only [List.getElem?_map, Option.map_eq_some_iff] at hi
  obtain ⟨b, h1, rfl⟩ := hi
  have hlt := (List.getElem?_eq_some_iff.1 h1).1
  rw [Nat.zero_add, Nat.mul_one, bcells, ← List.map_drop, List.drop_eq_getElem_cons hlt, List.map_cons, List.take_succ_cons, List.take_zero, (List.getElem?_eq_some_iff.1 h1).2]
theorem fmt_len {n : Int} (h1 : -9223372036854775808 ≤ n) (h2 : n < 9223372036854775808) : (fmtS n).length ≤ 2 ^ 20 := by
  have h := natS_len (n := n.natAbs) (by omega)
  unfold fmtS
  split
  · simp; omega
  · omega
set_option maxRecDepth 20000 in
theorem c_finger {H : AHeap} {r : Rul} {nv mv : Value} (hg : Pre Gs H) (hr : RulAt H r nv mv) (hby : r.byL.length ≤ 2 ^ 20) : ACalls Tryz.prog 25 [.agg (r.cells nv mv).toArray] H (.int .u32 (fingF r)) H := by
  refine acalls_pure MixT Tryz.func25 (by decide) rfl ?_
  rw [d25]
  have h1 := hr.o1
  have h2 := hr.o2
  obtain ⟨f1, f2, f3, f4⟩ := hr.fit
  have hgX := hg.trans (.app H [AObj.cells (r.cells nv mv) 44])
  have hrX := hr.pre (.app H [AObj.cells (r.cells nv mv) 44])
  have hnew : aNew H 44 (.agg (r.cells nv mv).toArray) = some (.pointer (some ⟨H.length, 0, some 8⟩), H ++ [.cells (r.cells nv mv) 44]) := by simp [aNew_agg, Rul.cells, h1, h2]
  rw [hnew]
  simp only [bndE_some]
  obtain ⟨K, hK⟩ : ∃ K, K = H ++ [.cells (r.cells nv mv) 44] := ⟨_, rfl⟩
  have g1 : hcells K H.length = some (r.cells nv mv) := by rw [hK]; simp
  have g2 : hlen K H.length = some 8 := by rw [hK]; simp [Rul.cells]
  have hKp : Pre H K := by rw [hK]; exact .app _ _
  rw [← hK] at hgX hrX ⊢
  simp only [Rul.cells] at g1
  simp [g1, g2]
  refine bndD_same (c_itoa hgX f1 f2) ?_
  simp [g1, g2]
  refine bndD_same (c_itoa hgX f3 f4) ?_
  simp [g1, g2]
  refine bndD_same (c_exprPrint hgX hrX.nodes) ?_
  have hlit : sliceLit Tryz.prog K 42 4 [(0, str r.byL), (1, str (fmtS r.forM)), (2, str (fmtS r.every)), (3, str (printS r.nodes))] (.slice (some ⟨K.length, 0, some 4⟩) 4 4) (K ++ [.cells ([r.byL, fmtS r.forM, fmtS r.every, printS r.nodes].map str) 9]) :=
    strs_lit (l := [r.byL, fmtS r.forM, fmtS r.every, printS r.nodes]) (tbs42 K 4 _) rfl (by decide)
  refine bndD_of (v := _) (H' := _) hlit (.inl rfl) ?_
  have hparts : Parts (K ++ [.cells ([r.byL, fmtS r.forM, fmtS r.every, printS r.nodes].map str) 9]) (.slice (some ⟨K.length, 0, some 4⟩) 4 4) [r.byL, fmtS r.forM, fmtS r.every, printS r.nodes] := .mk K.length [r.byL, fmtS r.forM, fmtS r.every, printS r.nodes] (by simp)
  have l1 := fmt_len f1 f2
  have l2 := fmt_len f3 f4
  have l3 := print_len r.nodes
  have hfl : (fTxt r).length ≤ 2 ^ 42 := by rw [fTxt_eq]; simp; omega
  refine bndD_same (c_join hparts (by have : (fTxt r).length ≤ 2 ^ 46 := by omega
                                      exact this) (by simp) (by simp) (fun _ => join_ne (.inl (by simp)))) ?_
  dsimp only
  rw [aConv_sb]
  simp only [bndE_some]
  refine bndC_of (c_sum (roArr _ (fTxt r)) (by omega)) ?_
  simp
  refine ⟨rfl, ?_⟩
  rw [hK]
  exact ⟨_, by rw [List.append_assoc]⟩
end Go.Vi
namespace Go.Vi
open Go Go.Proofs Go.ChangeShapes Go.RowKit

theorem ce_strs : Tryz.prog.cellsOf 42 = 1 := by kernel_rfl
theorem ce_nodes : Tryz.prog.cellsOf 27 = 1 := by kernel_rfl
theorem ce_rule : Tryz.prog.cellsOf 44 = 8 := by kernel_rfl
abbrev parts_rule1 : List (TypeId × Nat) := [(9, 0), (9, 1), (27, 2), (3, 3), (3, 4), (3, 5), (42, 6), (9, 7)]
section
variable {H : AHeap} {f : Nat} {v : Value} {cs : List Value}
theorem rd_strs (h : Rd Tryz.prog H (f + 2) 42 [v]) : ∃ l, Arr H 1 v (strCells l) ∧ l.length < 2 ^ 63 := by
  obtain ⟨v', l, h1, h2, h3, h4⟩ := h.slice Tryz.underlying42
  cases h1
  rw [ce_str] at h2
  obtain ⟨ms, rfl⟩ := map_ex (g := fun s : List UInt8 => [Vi.str s]) fun x hx => by
    obtain ⟨s, e, _⟩ := (h4 x hx).str Tryz.underlying9
    exact ⟨s, e⟩
  exact ⟨ms, h2, by simpa using max_lt h3⟩
theorem word_fit {n : Int} (h : (Lit.int .i64 n).wf = true) : -9223372036854775808 ≤ n ∧ n < 9223372036854775808 := by
  have e1 : IntKind.i64.min = -9223372036854775808 := by decide
  have e2 : IntKind.i64.max = 9223372036854775807 := by decide
  simp only [Lit.wf, Bool.and_eq_true, decide_eq_true_eq, e1, e2] at h
  omega
theorem rd_rule (h : Rd Tryz.prog H (f + 6) 44 cs) : ∃ (r : Rul) (nv mv : Value), cs = r.cells nv mv ∧ RulAt H r nv mv := by
  obtain ⟨hl, hp⟩ := h.parts (ps := parts_rule1) (by kernel_rfl)
  rw [ce_rule] at hl
  obtain ⟨x0, x1, x2, x3, x4, x5, x6, x7, rfl⟩ := len8 hl
  simp only [parts_rule1, List.forall_mem_cons, ce_str, ce_int, ce_nodes, ce_strs] at hp
  obtain ⟨h0, h1, h2, h3, h4, h5, h6, h7, _⟩ := hp
  obtain ⟨b0, e0, _⟩ := h0.str Tryz.underlying9
  obtain ⟨b1, e1, _⟩ := h1.str Tryz.underlying9
  obtain ⟨ns, e2, _⟩ := rd_nodes h2
  obtain ⟨b3, e3, w3⟩ := h3.int Tryz.underlying3
  obtain ⟨b4, e4, w4⟩ := h4.int Tryz.underlying3
  obtain ⟨b5, e5, _⟩ := h5.int Tryz.underlying3
  obtain ⟨ms, e6, e6'⟩ := rd_strs h6
  obtain ⟨b7, e7, _⟩ := h7.str Tryz.underlying9
  simp at e0 e1 e3 e4 e5 e7
  refine ⟨⟨b0, b1, ns, b3, b4, b5, ms, b7⟩, x2, x6, by simp [Rul.cells, e0, e1, e3, e4, e5, e7], e2, e6, ?_, e6'⟩
  exact ⟨(word_fit w3).1, (word_fit w3).2, (word_fit w4).1, (word_fit w4).2⟩
theorem rd_rules (h : Rd Tryz.prog H (f + 7) 46 [v]) : ∃ rs, RulesAt H v rs ∧ rs.length < 2 ^ 63 := by
  obtain ⟨v', l, h1, h2, h3, h4⟩ := h.slice Tryz.underlying46
  cases h1
  rw [ce_rule] at h2
  obtain ⟨rs, q1, q2⟩ := rd_list (R := fun cs (r : Rul) => ∃ nv mv, cs = r.cells nv mv ∧ RulAt H r nv mv) fun x hx => rd_rule (h4 x hx)
  refine ⟨rs, ⟨l, h2, q1, fun i n hi => ?_⟩, by rw [← q1]; exact max_lt h3⟩
  obtain ⟨c, c1, nv, mv, rfl, c2⟩ := q2 i n hi
  exact ⟨nv, mv, c1, c2⟩
end
end Go.Vi
namespace Go.Vi
open Go Go.RowKit Go.ChangeShapes Go.WideShapes Go.Proofs
variable {P : Program}

theorem WRel.pushGl {w0 s H w} (h : WRel w0 s H w) (hn : NoOwn H) (cs : List Value) (g : Nat) (ho : One cs) (hg : g < w.heap.size)
    (hv : ∀ (i : Nat) v, cs[i]? = some v → ∃ v', w.cell? ⟨g, i, none⟩ = some v' ∧ VRel s H v v') :
    WRel w0 (upd s H.length ⟨g, 0, 0⟩) (H ++ [.gl g cs]) w ∧ NoOwn (H ++ [.gl g cs]) := by
  have e := Ext.push s H (.gl g cs) ⟨g, 0, 0⟩
  have hno : NoOwn (H ++ [.gl g cs]) := by
    intro b o hb
    rcases getElem_append_old hb with ⟨_, h1⟩ | ⟨_, rfl⟩
    · exact hn b o h1
    · rfl
  refine ⟨⟨⟨fun b x hx => ?_, fun b b' o o' hb hb' _ ho1 _ => ?_⟩, h.b, h.o.push _ (by rintro _ ⟨rfl⟩; exact ho)⟩, hno⟩
  · rcases getElem_append_old hx with ⟨hb, hx'⟩ | ⟨rfl, rfl⟩
    · exact (h.h.obj b x hx').keep e (fun _ => upd_ne _ _ (by omega)) (fun _ _ => rfl)
    · refine ⟨by rw [upd_self], by rw [upd_self], hg, fun i v hi => ?_⟩
      obtain ⟨v', h1, h2⟩ := hv i v hi
      exact ⟨v', h1, h2.mono e⟩
  · rw [hno b o hb] at ho1; cases ho1
theorem var_cell {w : World} {n : String} {g : Nat} {cs : Array Value} (hg : P.globalNamed n = some g) (h : w.var? P n = some cs) : ∀ (i : Nat) v, cs[i]? = some v → g < w.heap.size ∧ w.cell? ⟨g, i, none⟩ = some v := by
  intro i v hi
  unfold World.var? at h
  rw [hg] at h
  simp only [Option.bind_some] at h
  split at h
  · rename_i q
    cases h
    refine ⟨(Array.getElem?_eq_some_iff.1 q).1, ?_⟩
    unfold World.cell?
    simp [q, hi]
  · cases h
theorem trod_if {D : Type} {enc : TypeId × Value → D} {w : World} {sp : Nat → Bool} {held : Bool} {base fuel : Nat} {t : TypeId} {cs : List Value} {x} {ms} (ht : P.underlying t = some (.interface ms)) (h : DataW.trod enc P w base sp held fuel t cs = some x) : ∃ v, cs = [v] ∧ v.oneCell' = true := by
  cases fuel with
  | zero => simp [DataW.trod] at h
  | succ n =>
    unfold DataW.trod at h
    rw [ht] at h
    split at h
    all_goals first
      | exact ⟨_, rfl, rfl⟩
      | (exfalso; simp_all; done)
      | simp_all
theorem laid_find {w : World} {n : String} {d : DataW Unit} : ∀ {l : List (String × DataW Unit)} {ps}, DataW.LaidVars P w l ps → (n, d) ∈ l → ∃ g t cs fuel p, P.globalNamed n = some g ∧ (P.globals[g]?).map (·.type) = some t ∧ w.var? P n = some cs ∧ DataW.trod (fun _ => ()) P w 0 (fun _ => true) false fuel t cs.toList = some (d, p) := by
  intro l
  induction l with
  | nil => intro ps _ h; simp at h
  | cons x r ih =>
    intro ps h hm
    obtain ⟨m, e⟩ := x
    obtain ⟨g, t, cs, fuel, p, q, h1, h2, h3, h4, h5, _⟩ := h
    rcases List.mem_cons.1 hm with hx | hm
    · cases hx
      exact ⟨g, t, cs, fuel, p, h1, h2, h3, h4⟩
    · exact ih h5 hm
theorem start_gs {w : World} {l : List (String × DataW Unit)} (h : laidMetH Tryz.prog l w) (h1 : ∃ d, ("strconv.ErrSyntax", d) ∈ l.filter fun x => x.2.handleName?.isNone) (h2 : ∃ d, ("strconv.ErrRange", d) ∈ l.filter fun x => x.2.handleName?.isNone)
    (h3 : ("internal/strconv.uint64pow10", DataW.agg ((List.range 20).map fun i => .lit (.int .u64 (10 ^ i)))) ∈ l.filter fun x => x.2.handleName?.isNone) : ∃ s, Got Tryz.prog w (fun _ => ⟨0, 0, 0⟩) [] s Gs := by
  obtain ⟨ps, hl, _, _⟩ : laidMet Tryz.prog (l.filter fun x => x.2.handleName?.isNone) w := (laidMetH_iff.1 h).1
  obtain ⟨d1, m1⟩ := h1
  obtain ⟨d2, m2⟩ := h2
  obtain ⟨g1, t1, c1, f1, p1, a1, b1, v1, r1⟩ := laid_find hl m1
  obtain ⟨g2, t2, c2, f2, p2, a2, b2, v2, r2⟩ := laid_find hl m2
  obtain ⟨g3, t3, c3, f3, p3, a3, b3, v3, r3⟩ := laid_find hl h3
  obtain rfl : 2 = g1 := Option.some.inj ((show Tryz.prog.globalNamed "strconv.ErrSyntax" = some 2 by kernel_rfl).symm.trans a1)
  obtain rfl : 3 = g2 := Option.some.inj ((show Tryz.prog.globalNamed "strconv.ErrRange" = some 3 by kernel_rfl).symm.trans a2)
  obtain rfl : 1 = g3 := Option.some.inj ((show Tryz.prog.globalNamed "internal/strconv.uint64pow10" = some 1 by kernel_rfl).symm.trans a3)
  obtain rfl : 118 = t1 := Option.some.inj ((show (Tryz.prog.globals[2]?).map (·.type) = some 118 by kernel_rfl).symm.trans b1)
  obtain rfl : 118 = t2 := Option.some.inj ((show (Tryz.prog.globals[3]?).map (·.type) = some 118 by kernel_rfl).symm.trans b2)
  obtain rfl : 200 = t3 := Option.some.inj ((show (Tryz.prog.globals[1]?).map (·.type) = some 200 by kernel_rfl).symm.trans b3)
  obtain ⟨x1, e1, o1⟩ := trod_if Tryz.underlying118 r1
  obtain ⟨x2, e2, o2⟩ := trod_if Tryz.underlying118 r2
  obtain ⟨xs, m, _, q1, q2, q3, q4⟩ := DataW.trod_array Tryz.underlying200 r3
  have hc1 := var_cell a1 v1 0 x1 (by rw [← Array.getElem?_toList, e1]; rfl)
  have hc2 := var_cell a2 v2 0 x2 (by rw [← Array.getElem?_toList, e2]; rfl)
  have k3 : ∀ i : Nat, i < 20 → c3[i]? = some (.int .u64 (10 ^ i)) := by
    intro i hi
    have h4 := q4 i hi
    rw [show Tryz.prog.cellsOf 178 = 1 by kernel_rfl, Nat.mul_one] at h4
    rw [List.getElem?_eq_getElem (by omega)] at h4
    obtain ⟨n, z1, z2, _⟩ := DataW.trod_int Tryz.underlying178 h4
    have hq : (List.range 20).map (fun i => (DataW.lit (.int .u64 (10 ^ i)) : DataW Unit)) = xs.map (·.1) := by
      have := congrArg Prod.fst q1
      simpa using this
    have hqi := congrArg (fun l => l[i]?) hq
    simp only [List.getElem?_map, List.getElem?_eq_getElem (show i < xs.length by omega), List.getElem?_range hi, Option.map_some, z2] at hqi
    injection hqi with e
    injection e with e
    injection e with _ e
    rw [← e] at z1
    have : (List.take 1 (List.drop i c3.toList))[0]? = some (Value.int .u64 (10 ^ i)) := by rw [z1]; rfl
    rw [List.getElem?_take_of_lt (by omega), List.getElem?_drop, Nat.add_zero] at this
    rw [← Array.getElem?_toList]
    exact this
  have W0 : WRel w (fun _ => ⟨0, 0, 0⟩) [] w := WRel.refl w _
  obtain ⟨W1, N1⟩ := W0.pushGl NoOwn.nil [unkV] 2 (fun v hv => by simp at hv; subst hv; rfl) hc1.1 (fun i v hi => by
    cases i with
    | zero => simp at hi; subst hi; exact ⟨x1, hc1.2, .unk _ o1⟩
    | succ i => simp at hi)
  obtain ⟨W2, N2⟩ := W1.pushGl N1 [unkV] 3 (fun v hv => by simp at hv; subst hv; rfl) hc2.1 (fun i v hi => by
    cases i with
    | zero => simp at hi; subst hi; exact ⟨x2, hc2.2, .unk _ o2⟩
    | succ i => simp at hi)
  have hc3 := fun (i : Nat) (hi : i < 20) => var_cell a3 v3 i _ (k3 i hi)
  obtain ⟨W3, N3⟩ := W2.pushGl N2 pow10s 1 (fun v hv => by
    simp only [pow10s, List.mem_map] at hv
    obtain ⟨i, _, rfl⟩ := hv
    rfl) (hc3 0 (by omega)).1 (fun i v hi => by
    simp only [pow10s, List.getElem?_map, Option.map_eq_some_iff] at hi
    obtain ⟨j, hj, rfl⟩ := hi
    have hij := List.getElem?_eq_some_iff.1 hj
    obtain ⟨hlt, rfl⟩ := hij
    simp only [List.length_range] at hlt
    simp only [List.getElem_range]
    exact ⟨_, (hc3 i hlt).2, .lit _ rfl⟩)
  exact ⟨_, W3, N3, ((Ext.push _ _ _ _).trans (Ext.push _ _ _ _)).trans (Ext.push _ _ _ _), ⟨Gs, rfl⟩⟩
end Go.Vi
namespace Go.Vi
open Go Go.Proofs

def nCells (l : List Int) : List (List Value) := l.map fun x => [.int .u32 x]
theorem uel1 : aElem Tryz.prog 58 = some (50, 1, 4) := by kernel_rfl
theorem uel2 : isSeq Tryz.prog 58 = true := by kernel_rfl
/-- Rules whose fingerprints can be told. -/
def fine (rs : List Rul) : Prop := ∀ r ∈ rs, r.byL.length ≤ 2 ^ 20
theorem rule_new {K : AHeap} {r : Rul} {nv mv : Value} (h1 : nv.oneCell' = true) (h2 : mv.oneCell' = true) :
    aStore Tryz.prog (K ++ [.cells [.string ⟨#[]⟩, .string ⟨#[]⟩, .slice none 0 0, .int .i64 0, .int .i64 0, .int .i64 0, .slice none 0 0, .string ⟨#[]⟩] 44]) 44 (.pointer (some ⟨K.length, 0, some 8⟩)) (.agg (r.cells nv mv).toArray) = some (K ++ [.cells (r.cells nv mv) 44]) := by simp [Rul.cells, h1, h2]
theorem rule_get {K : AHeap} {b : Nat} {cs : List Value} (h : hcells K b = some cs) (hl : cs.length = 8) : aLoad Tryz.prog K 44 (.pointer (some ⟨b, 0, some 8⟩)) = some (.agg cs.toArray) := by
  simp [h, hl, List.take_of_length_le]
theorem all_loop {H : AHeap} {v : Value} {rs : List Rul} {k : Value → AHeap → Prop} (hg : Pre Gs H) (hv : RulesAt H v rs) (hl : rs.length ≤ 2 ^ 20) (hf : fine rs) (hk : ∀ K ov, Pre H K → Gro K H.length 1 50 ov (nCells (rs.map fingF)) → k ov K) :
    ∀ (n i : Nat) (K : AHeap) (ov : Value) (s0 s1 s2 s4 s5 s9 s10 s11 s12 s13 s14 s15 s16 s17 s18 : Value), n + i = rs.length → Pre H K → Gro K H.length 1 50 ov (nCells ((rs.take i).map fingF)) →
      L28x0 (n + 1) k [s0, s1, s2, ov, s4, s5, v, i64 rs.length, i64 i, s9, s10, s11, s12, s13, s14, s15, s16, s17, s18] K := by
  intro n
  induction n with
  | zero =>
    intro i K ov s0 s1 s2 s4 s5 s9 s10 s11 s12 s13 s14 s15 s16 s17 s18 hi hp ho
    rw [L28x0q]
    have : ¬ i < rs.length := by omega
    rw [List.take_of_length_le (by omega)] at ho
    simp [this]
    exact hk K ov hp ho
  | succ n ih =>
    intro i K ov s0 s1 s2 s4 s5 s9 s10 s11 s12 s13 s14 s15 s16 s17 s18 hi hp ho
    have hlt : i < rs.length := by omega
    rw [L28x0q]
    obtain ⟨r, hr⟩ : ∃ r, rs[i]? = some r := ⟨_, List.getElem?_eq_getElem hlt⟩
    obtain ⟨nv, mv, ra, p, p1, p2⟩ := (hv.pre hp).at hr
    have w1 : IntKind.i64.wrap ((i : Int) + 1) = ((i + 1 : Nat) : Int) := by rw [wrap_i64 (by omega) (by omega)]; omega
    refine bnd_of (v := .bool true) (by simp [hlt]) ?_
    dsimp only
    rw [kifB_true]
    dsimp only
    refine bnd_of p1 ?_
    refine bnd_of p2 ?_
    dsimp only
    simp only [tal44, bndE_some]
    rw [rule_new ra.o1 ra.o2]
    simp only [bndS_some]
    refine bnd_of (rule_get (cs := r.cells nv mv) (by simp) rfl) ?_
    have hK1 : Pre H (K ++ [.cells (r.cells nv mv) 44]) := hp.more _
    refine bndC_of (c_finger (hg.trans hK1) (ra.pre (.app K _)) (hf r (List.mem_of_getElem? hr))) ?_
    have hlit : sliceLit Tryz.prog (K ++ [.cells (r.cells nv mv) 44]) 58 1 [(0, .int .u32 (fingF r))] (.slice (some ⟨(K ++ [AObj.cells (r.cells nv mv) 44]).length, 0, some 1⟩) 1 1) (K ++ [.cells (r.cells nv mv) 44] ++ [.cells [.int .u32 (fingF r)] 50]) :=
      sliceLit1 (l := [.int .u32 (fingF r)]) (tbs58 _ 1 _) (by simp) rfl (by decide)
    refine bndL_lit hlit ?_
    dsimp only
    obtain ⟨v', K', g1, g2, g3, g4, g5⟩ := Gro.push (P := Tryz.prog) (K := K ++ [.cells (r.cells nv mv) 44] ++ [.cells [.int .u32 (fingF r)] 50]) (lo := H.length) (Ts := 58) (by_ := 4) (x := .slice (some ⟨(K ++ [AObj.cells (r.cells nv mv) 44]).length, 0, some 1⟩) 1 1) (c := [.int .u32 (fingF r)]) (ho.app.app) uel1 uel2 rfl
      (by obtain ⟨X, rfl⟩ := hp; simp) (by simp [aSrc]) (by simp [nCells]; omega) (by simp [nCells]; omega)
    rw [g1]
    simp only [bndE_some]
    refine bnd_of (v := i64 ((i + 1 : Nat) : Int)) (by simp [w1]) ?_
    dsimp only
    refine ih (i + 1) K' v' _ _ _ _ _ _ _ _ _ _ _ _ _ _ _ (by omega) (g5 H ((hp.more _).more _) (Nat.le_refl _)) ?_
    rw [List.take_add_one, hr]
    simpa [nCells] using g2
theorem c_all {H : AHeap} {v : Value} {rs : List Rul} (hg : Pre Gs H) (hv : RulesAt H v rs) (hl : rs.length ≤ 2 ^ 20) (hf : fine rs) :
    ∃ ov K, ACalls Tryz.prog 28 [v] H ov K ∧ Pre H K ∧ Gro K H.length 1 50 ov (nCells (rs.map fingF)) := by
  obtain ⟨u, K, ⟨h1, h2⟩, h3⟩ : ∃ ov K, (Pre H K ∧ Gro K H.length 1 50 ov (nCells (rs.map fingF))) ∧ ACalls Tryz.prog 28 [v] H ov K := by
    refine acalls_ex MixT Tryz.func28 (by decide) ?_
    rw [d28]
    have := hv.lenR H
    simp [this]
    exact ⟨_, all_loop hg hv hl hf (fun K ov p g => ⟨p, g⟩) rs.length 0 H _ _ _ _ _ _ _ _ _ _ _ _ _ _ _ _ rfl (.refl H) .nil⟩
  exact ⟨u, K, h3, h1, h2⟩
/-! ### Whether none comes twice -/
/-- A map from numbers to counts, and its keys. -/
def NMap : List (Value × Value) → List Int → Prop
  | [], [] => True
  | e :: es, k :: ks => e.1 = .int .u32 k ∧ (∃ n, e.2 = i64 n) ∧ NMap es ks
  | _, _ => False
theorem NMap.len : ∀ {es ks}, NMap es ks → es.length = ks.length := by
  intro es
  induction es with
  | nil => intro ks h; cases ks with
    | nil => rfl
    | cons => cases h
  | cons e es ih => intro ks h; cases ks with
    | nil => cases h
    | cons k ks => simp [ih h.2.2]
theorem NMap.ok : ∀ {es ks}, NMap es ks → mOk (.int .u32) es = true := by
  intro es
  induction es with
  | nil => intro ks _; rfl
  | cons e es ih => intro ks h; cases ks with
    | nil => cases h
    | cons k ks =>
      have := ih h.2.2
      unfold mOk at this ⊢
      rw [List.all_cons, this, h.1]
      rfl
theorem NMap.find {k : Int} : ∀ {es ks}, NMap es ks → (k ∈ ks ∧ ∃ j n, mfind (.int .u32 k) es = some j ∧ es[j]? = some (.int .u32 k, i64 n)) ∨ (k ∉ ks ∧ mfind (.int .u32 k) es = none) := by
  intro es
  induction es with
  | nil => intro ks h; cases ks with
    | nil => exact .inr ⟨by simp, rfl⟩
    | cons => cases h
  | cons e es ih => intro ks h; cases ks with
    | nil => cases h
    | cons k' ks =>
      obtain ⟨e1, e2⟩ := e
      obtain ⟨h1, ⟨n, h2⟩, h3⟩ := h
      simp only at h1 h2
      subst h1 h2
      simp only [mfind, keyEq, beq_self_eq_true, Bool.true_and, beq_iff_eq]
      by_cases hk : k = k'
      · subst hk
        exact .inl ⟨by simp, 0, n, by simp, rfl⟩
      · rcases ih h3 with ⟨g1, j, v, g2, g3⟩ | ⟨g1, g2⟩
        · exact .inl ⟨by simp [g1], j + 1, v, by simp [hk, g2], by simpa using g3⟩
        · exact .inr ⟨by simp [hk, g1], by simp [hk, g2]⟩
theorem NMap.get {k : Int} {es ks} (h : NMap es ks) : (∃ n, mget (.int .u32 k) es = some (i64 n)) ∨ mget (.int .u32 k) es = none := by
  unfold mget
  rcases h.find (k := k) with ⟨g1, j, v, g2, g3⟩ | ⟨g1, g2⟩
  · exact .inl ⟨v, by simp [g2, g3]⟩
  · exact .inr (by simp [g2])
theorem NMap.app {k n : Int} : ∀ {es ks}, NMap es ks → NMap (es ++ [(.int .u32 k, i64 n)]) (ks ++ [k]) := by
  intro es
  induction es with
  | nil => intro ks h; cases ks with
    | nil => exact ⟨rfl, ⟨n, rfl⟩, trivial⟩
    | cons => cases h
  | cons e es ih => intro ks h; cases ks with
    | nil => cases h
    | cons k' ks => exact ⟨h.1, h.2.1, ih h.2.2⟩
theorem NMap.set {k n : Int} : ∀ {es ks} {j : Nat} {v : Value}, NMap es ks → es[j]? = some (.int .u32 k, v) → NMap (es.set j (.int .u32 k, i64 n)) ks := by
  intro es
  induction es with
  | nil => intro ks j v h hj; simp at hj
  | cons e es ih => intro ks j v h hj; cases ks with
    | nil => cases h
    | cons k' ks =>
      cases j with
      | zero =>
        simp at hj
        subst hj
        have : k = k' := by
          have := h.1
          simpa using this
        subst this
        exact ⟨rfl, ⟨n, rfl⟩, h.2.2⟩
      | succ j => exact ⟨h.1, h.2.1, ih h.2.2 (by simpa using hj)⟩
theorem NMap.put {k n : Int} {es ks} (h : NMap es ks) : NMap (mput (.int .u32 k) (i64 n) es) (addKey ks k) := by
  unfold mput addKey
  rcases h.find (k := k) with ⟨g1, j, v, g2, g3⟩ | ⟨g1, g2⟩
  · rw [g2, if_pos g1]; exact h.set g3
  · rw [g2, if_neg g1]; exact h.app
def keysOf (l : List Int) : List Int := l.foldl addKey []
def unlF (l : List Int) : Bool := ((keysOf l).length : Int) == (l.length : Int)
theorem unl_loop {rv : Value} {rs : List Rul} {l : List Int} {H : AHeap} {v : Value} {k : Value → AHeap → Prop} (hl : l.length < 2 ^ 62) (hrs : rs.length = l.length) (hr : ∀ K, aLen Tryz.prog K 46 rv = some (i64 rs.length)) (hk : ∀ K, Pre H K → k (.bool (unlF l)) K) (b : Nat) (hbH : H.length ≤ b) :
    ∀ (r : List Int) (i : Nat) (es : List (Value × Value)) (ks : List Int) (K : AHeap) (s1 s2 s4 s5 s6 s7 s11 s12 s13 s14 s15 s16 s17 s18 s19 s20 s21 s22 s23 : Value), l.drop i = r → i ≤ l.length → Pre H K → Arr K 1 v (nCells l) → K[b]? = some (.map es) → NMap es ks → r.foldl addKey ks = keysOf l →
      L26x0 (r.length + 1) k [rv, s1, s2, .map (some b), s4, s5, s6, s7, v, i64 l.length, i64 i, s11, s12, s13, s14, s15, s16, s17, s18, s19, s20, s21, s22, s23] K := by
  intro r
  induction r with
  | nil =>
    intro i es ks K s1 s2 s4 s5 s6 s7 s11 s12 s13 s14 s15 s16 s17 s18 s19 s20 s21 s22 s23 hd hi hp ha hm hs hf
    have hle : l.length ≤ i := by simpa using hd
    rw [List.length_nil, L26x0q]
    have : ¬ i < l.length := by omega
    have hml : aLen Tryz.prog K 92 (.map (some b)) = some (i64 es.length) := by simp [aLen, hm]
    simp [this, hr, hml]
    have := hk K hp
    rw [unlF, ← hf, List.foldl_nil, ← hs.len, ← hrs] at this
    exact this
  | cons s r ih =>
    intro i es ks K s1 s2 s4 s5 s6 s7 s11 s12 s13 s14 s15 s16 s17 s18 s19 s20 s21 s22 s23 hd hi hp ha hm hs hf
    have hb : l[i]? = some s := by rw [← List.head?_drop, hd]; rfl
    have hlt : i < l.length := (List.getElem?_eq_some_iff.1 hb).1
    obtain ⟨q, hp1, hp2⟩ := ha.load1 (P := Tryz.prog) (T := 58) (te := 50) (i := i) (x := .int .u32 s) (by simp) (by simp) (by simp) (by simp [nCells, hb])
    rw [List.length_cons, L26x0q]
    obtain ⟨x, hx⟩ : ∃ n, aLookup Tryz.prog K 92 (.map (some b)) (.int .u32 s) false = some (i64 n) := by
      rw [aLookup_map, hm]
      simp only [tm92, Option.bind_some, mapOf_map, keyOk, beq_self_eq_true, if_true, hs.ok]
      rcases hs.get (k := s) with ⟨n, g1⟩ | g1
      · rw [g1]; exact ⟨n, by simp⟩
      · rw [g1]; exact ⟨0, by simp [cok, isLit]⟩
    simp only [aBin_lss, bnd_some, Int.ofNat_lt, hlt, decide_true, kifB_true, hp1, hp2, hx, aBin_add, aUpdate_map, hm, tm92, Option.bind_some, mapOf_map, keyOk, beq_self_eq_true, hs.ok, and_self, if_true, bndS_some, wrap_succ (show i + 1 < 2 ^ 63 by omega)]
    exact ih (i + 1) _ (addKey ks s) _ _ _ _ _ _ _ _ _ _ _ _ _ _ _ _ _ _ _ _ (by rw [← List.drop_drop, hd]; rfl) hlt (hp.set hbH) (ha.set (hcells_map hm)) (get_set hm) hs.put hf
theorem c_unlike {H : AHeap} {v : Value} {rs : List Rul} (hg : Pre Gs H) (hv : RulesAt H v rs) (hl : rs.length ≤ 2 ^ 20) (hf : fine rs) : ACalls Tryz.prog 26 [v] H (.bool (unlF (rs.map fingF))) H := by
  refine acalls_pure MixT Tryz.func26 (by decide) rfl ?_
  rw [d26]
  simp only [bndE_some]
  obtain ⟨ov, K, a1, p1, g1⟩ := c_all (hg.trans (.app H [AObj.map []])) (hv.pre (.app H [AObj.map []])) hl hf
  refine bndC_of a1 ?_
  have hm : K[H.length]? = some (.map []) := p1.get (by simp)
  have hlen := g1.arr.len (P := Tryz.prog) (T := 58) (e := 50) (by simp)
  simp [nCells] at hlen
  refine bnd_of hlen ?_
  have hr := hv.lenR
  refine ⟨(rs.map fingF).length + 1, ?_⟩
  have := unl_loop (k := fun u H2 => u = .bool (unlF (rs.map fingF)) ∧ ∃ X, H2 = H ++ X) (H := H) (rv := v) (rs := rs) (l := rs.map fingF) (v := ov) (by simp; omega) (by simp) hr (fun K p => ⟨rfl, p⟩) H.length (Nat.le_refl _) (rs.map fingF) 0 [] [] K
  simp only [List.length_map] at this ⊢
  exact this _ _ _ _ _ _ _ _ _ _ _ _ _ _ _ _ _ _ _ rfl (by omega) ((Pre.app H _).trans p1) g1.arr hm trivial rfl
theorem keys_len : ∀ (l ks : List Int), ks.Nodup → ((l.foldl addKey ks).length ≤ ks.length + l.length ∧ ((l.foldl addKey ks).length = ks.length + l.length ↔ (ks ++ l).Nodup)) := by
  intro l
  induction l with
  | nil => intro ks h; simp [h]
  | cons x l ih =>
    intro ks h
    simp only [List.foldl_cons, List.length_cons]
    by_cases hx : x ∈ ks
    · have e : addKey ks x = ks := by unfold addKey; rw [if_pos hx]
      rw [e]
      obtain ⟨h1, h2⟩ := ih ks h
      refine ⟨by omega, fun q => by omega, fun q => ?_⟩
      exfalso
      rw [List.nodup_append] at q
      exact q.2.2 x hx x (by simp) rfl
    · have e : addKey ks x = ks ++ [x] := by unfold addKey; rw [if_neg hx]
      rw [e]
      have hn : (ks ++ [x]).Nodup := by
        rw [List.nodup_append]
        exact ⟨h, by simp, fun a ha b hb => by simp at hb; subst hb; exact fun q => hx (q ▸ ha)⟩
      obtain ⟨h1, h2⟩ := ih (ks ++ [x]) hn
      simp only [List.length_append, List.length_cons, List.length_nil, List.append_assoc, List.cons_append, List.nil_append] at h1 h2
      refine ⟨by omega, ?_⟩
      rw [← h2]
      constructor <;> intro q <;> omega
theorem unlF_iff (l : List Int) : unlF l = true ↔ l.Nodup := by
  have := (keys_len l [] List.nodup_nil).2
  simp only [List.length_nil, Nat.zero_add, List.nil_append] at this
  rw [← this]
  unfold unlF keysOf
  simp only [beq_iff_eq]
  omega
end Go.Vi
namespace Go.Vi
open Go Go.Proofs

theorem acalls_bool {P : Program} (hm : P.follows .mixedOrders = true) {f fn args H} {Q : Prop} (hf : P.funcs[f]? = some fn) (hn : notNG fn = true)
    (hr : ∀ k : Value → AHeap → Prop, (∀ K, Pre H K → k (.bool true) K) → (Q → ∀ K, Pre H K → k (.bool false) K) → kbody P fn args H k) : ∃ b, (b = false → Q) ∧ ACalls P f args H (.bool b) H := by
  obtain ⟨v, H', ⟨b, rfl, hq, X, rfl⟩, h⟩ := acalls_ex hm hf hn (hr (fun u H2 => ∃ b, u = .bool b ∧ (b = false → Q) ∧ Pre H H2) (fun K p => ⟨true, rfl, by simp, p⟩) fun q K p => ⟨false, rfl, fun _ => q, p⟩)
  exact ⟨b, hq, h.trim rfl⟩
/-- What is left of a rule that is not too big. -/
def Rul.small (r : Rul) : Prop := r.byL.length ≤ 1000 ∧ r.mutes.length ≤ 100 ∧ r.nodes.length ≤ 100 ∧ ∀ n ∈ r.nodes, n.sel.length ≤ 50
section
variable {r : Rul} {H : AHeap} {nv mv : Value} {b : Nat} {k : Value → AHeap → Prop}
theorem big_x2 {n1 : Nat} (hn0 : NodesAt H nv r.nodes) {i : Nat} {nd : Nod} (hi : r.nodes[i]? = some nd) (hsel : nd.sel.length ≤ 50) (hi2 : i + 1 < 2 ^ 63) (hT : ∀ K, Pre H K → k (.bool true) K)
    (hk : ∀ (K : AHeap) (left : Int) (s0 s2 s4 s6 s7 s8 s9 s10 s11 s12 s13 s14 s15 s16 s17 s18 s19 s20 s21 s22 s23 s24 s25 s26 s27 s28 s29 s30 s31 s32 s33 s34 s35 s36 s37 s38 s39 s40 s41 s42 s43 s44 s45 s46 s47 s48 s49 s50 s51 s52 s53 s54 s55 s56 s57 s58 s59 s60 s61 s62 s63 s64 s65 s66 s67 s68 s69 s70 s71 s72 s73 s74 s75 s76 s77 s78 s79 s80 s81 s82 s83 s84 s85 s86 s87 s88 s89 s90 s91 s92 s93 s94 s95 s96 s97 s98 s99 s100 s101 s102 s103 s104 s105 s106 s107 s108 s109 s110 s111 s112 s113 s114 s115 s116 s117 s118 s119 s120 s121 s122 s123 s124 s125 s126 s127 s128 s129 s130 : Value), Pre H K → hcells K b = some (r.cells nv mv) → L45x1 n1 k [s0, .pointer (some ⟨b, 0, some 8⟩), s2, i64 left, s4, i64 ((i + 1 : Nat) : Int), s6, s7, s8, s9, s10, s11, s12, s13, s14, s15, s16, s17, s18, s19, s20, s21, s22, s23, s24, s25, s26, s27, s28, s29, s30, s31, s32, s33, s34, s35, s36, s37, s38, s39, s40, s41, s42, s43, s44, s45, s46, s47, s48, s49, s50, s51, s52, s53, s54, s55, s56, s57, s58, s59, s60, s61, s62, s63, s64, s65, s66, s67, s68, s69, s70, s71, s72, s73, s74, s75, s76, s77, s78, s79, s80, s81, s82, s83, s84, s85, s86, s87, s88, s89, s90, s91, s92, s93, s94, s95, s96, s97, s98, s99, s100, s101, s102, s103, s104, s105, s106, s107, s108, s109, s110, s111, s112, s113, s114, s115, s116, s117, s118, s119, s120, s121, s122, s123, s124, s125, s126, s127, s128, s129, s130] K) :
    ∀ (m : List Mat) (j : Nat) (left : Int) (K : AHeap) (s0 s2 s4 s7 s8 s9 s10 s11 s12 s13 s14 s15 s16 s17 s18 s19 s20 s21 s22 s23 s24 s25 s26 s27 s28 s29 s30 s31 s32 s33 s34 s35 s36 s37 s38 s39 s40 s41 s42 s43 s44 s45 s46 s47 s48 s49 s50 s51 s52 s53 s54 s55 s56 s57 s58 s59 s60 s61 s62 s63 s64 s65 s66 s67 s68 s69 s70 s71 s72 s73 s74 s75 s76 s77 s78 s79 s80 s81 s82 s83 s84 s85 s86 s87 s88 s89 s90 s91 s92 s93 s94 s95 s96 s97 s98 s99 s100 s101 s102 s103 s104 s105 s106 s107 s108 s109 s110 s111 s112 s113 s114 s115 s116 s117 s118 s119 s120 s121 s122 s123 s124 s125 s126 s127 s128 s129 s130 : Value), nd.sel.drop j = m → j ≤ nd.sel.length → Pre H K → hcells K b = some (r.cells nv mv) →
      L45x2 (m.length + 1) n1 k [s0, .pointer (some ⟨b, 0, some 8⟩), s2, i64 left, s4, i64 i, i64 j, s7, s8, s9, s10, s11, s12, s13, s14, s15, s16, s17, s18, s19, s20, s21, s22, s23, s24, s25, s26, s27, s28, s29, s30, s31, s32, s33, s34, s35, s36, s37, s38, s39, s40, s41, s42, s43, s44, s45, s46, s47, s48, s49, s50, s51, s52, s53, s54, s55, s56, s57, s58, s59, s60, s61, s62, s63, s64, s65, s66, s67, s68, s69, s70, s71, s72, s73, s74, s75, s76, s77, s78, s79, s80, s81, s82, s83, s84, s85, s86, s87, s88, s89, s90, s91, s92, s93, s94, s95, s96, s97, s98, s99, s100, s101, s102, s103, s104, s105, s106, s107, s108, s109, s110, s111, s112, s113, s114, s115, s116, s117, s118, s119, s120, s121, s122, s123, s124, s125, s126, s127, s128, s129, s130] K := by
  intro m
  induction m with
  | nil =>
    intro j left K s0 s2 s4 s7 s8 s9 s10 s11 s12 s13 s14 s15 s16 s17 s18 s19 s20 s21 s22 s23 s24 s25 s26 s27 s28 s29 s30 s31 s32 s33 s34 s35 s36 s37 s38 s39 s40 s41 s42 s43 s44 s45 s46 s47 s48 s49 s50 s51 s52 s53 s54 s55 s56 s57 s58 s59 s60 s61 s62 s63 s64 s65 s66 s67 s68 s69 s70 s71 s72 s73 s74 s75 s76 s77 s78 s79 s80 s81 s82 s83 s84 s85 s86 s87 s88 s89 s90 s91 s92 s93 s94 s95 s96 s97 s98 s99 s100 s101 s102 s103 s104 s105 s106 s107 s108 s109 s110 s111 s112 s113 s114 s115 s116 s117 s118 s119 s120 s121 s122 s123 s124 s125 s126 s127 s128 s129 s130 hd hj hp hc
    have hle : nd.sel.length ≤ j := by simpa using hd
    obtain ⟨cl, ha, hcl, hcc⟩ := hn0.pre hp
    obtain ⟨sv, h1, h2, h3⟩ := hcc _ _ hi
    obtain ⟨p, q, f1, f2, f3⟩ := ha.field (P := Tryz.prog) (T := 27) (te := 37) (ft := 35) (f := 2) (d := 2) (x := sv) (by simp) (by simp) (by simp) (by simp) (by simp) h1 rfl
    have hl := h2.len (P := Tryz.prog) (T := 35) (e := 75) (by simp)
    simp only [List.length_map] at hl
    have hl8 : hlen K b = some 8 := by rw [hcells_len hc]; rfl
    rw [List.length_nil, L45x2q]
    have : ¬ j < nd.sel.length := by omega
    simp [hc, hl8, Rul.cells, f1, f2, f3, hl, this, hi2]
    exact hk K left _ _ _ _ _ _ _ _ _ _ _ _ _ _ _ _ _ _ _ _ _ _ _ _ _ _ _ _ _ _ _ _ _ _ _ _ _ _ _ _ _ _ _ _ _ _ _ _ _ _ _ _ _ _ _ _ _ _ _ _ _ _ _ _ _ _ _ _ _ _ _ _ _ _ _ _ _ _ _ _ _ _ _ _ _ _ _ _ _ _ _ _ _ _ _ _ _ _ _ _ _ _ _ _ _ _ _ _ _ _ _ _ _ _ _ _ _ _ _ _ _ _ _ _ _ _ _ _ hp hc
  | cons x m ih =>
    intro j left K s0 s2 s4 s7 s8 s9 s10 s11 s12 s13 s14 s15 s16 s17 s18 s19 s20 s21 s22 s23 s24 s25 s26 s27 s28 s29 s30 s31 s32 s33 s34 s35 s36 s37 s38 s39 s40 s41 s42 s43 s44 s45 s46 s47 s48 s49 s50 s51 s52 s53 s54 s55 s56 s57 s58 s59 s60 s61 s62 s63 s64 s65 s66 s67 s68 s69 s70 s71 s72 s73 s74 s75 s76 s77 s78 s79 s80 s81 s82 s83 s84 s85 s86 s87 s88 s89 s90 s91 s92 s93 s94 s95 s96 s97 s98 s99 s100 s101 s102 s103 s104 s105 s106 s107 s108 s109 s110 s111 s112 s113 s114 s115 s116 s117 s118 s119 s120 s121 s122 s123 s124 s125 s126 s127 s128 s129 s130 hd hj hp hc
    have hb : nd.sel[j]? = some x := by rw [← List.head?_drop, hd]; rfl
    have hlt : j < nd.sel.length := (List.getElem?_eq_some_iff.1 hb).1
    obtain ⟨cl, ha, hcl, hcc⟩ := hn0.pre hp
    obtain ⟨sv, h1, h2, h3⟩ := hcc _ _ hi
    obtain ⟨p, q, f1, f2, f3⟩ := ha.field (P := Tryz.prog) (T := 27) (te := 37) (ft := 35) (f := 2) (d := 2) (x := sv) (by simp) (by simp) (by simp) (by simp) (by simp) h1 rfl
    have hl := h2.len (P := Tryz.prog) (T := 35) (e := 75) (by simp)
    simp only [List.length_map] at hl
    obtain ⟨p2, g1, g2⟩ := h2.load (P := Tryz.prog) (T := 35) (te := 75) (i := j) (e := x.cells) (by simp) (by simp) (by simp) (by simp [hb])
    have hl8 : hlen K b = some 8 := by rw [hcells_len hc]; rfl
    have hX := fun X : AHeap => hcells_more (X := X) hc
    rw [List.length_cons, L45x2q]
    simp +contextual [hc, hl8, Rul.cells, f1, f2, f3, hl, hlt, g1, g2, Mat.cells]
    refine kifB_bool (fun h => ?_) (fun h => ?_)
    · exact hT _ (hp.more _)
    · simp [show j + 1 < 2 ^ 63 by omega]
      exact ih (j + 1) _ _ _ _ _ _ _ _ _ _ _ _ _ _ _ _ _ _ _ _ _ _ _ _ _ _ _ _ _ _ _ _ _ _ _ _ _ _ _ _ _ _ _ _ _ _ _ _ _ _ _ _ _ _ _ _ _ _ _ _ _ _ _ _ _ _ _ _ _ _ _ _ _ _ _ _ _ _ _ _ _ _ _ _ _ _ _ _ _ _ _ _ _ _ _ _ _ _ _ _ _ _ _ _ _ _ _ _ _ _ _ _ _ _ _ _ _ _ _ _ _ _ _ _ _ _ _ _ _ (by rw [← List.drop_drop, hd]; rfl) hlt (hp.more _) (hX _)
theorem big_x1 (hn0 : NodesAt H nv r.nodes) (hnl : r.nodes.length ≤ 100) (hT : ∀ K, Pre H K → k (.bool true) K) (hk : (∀ n ∈ r.nodes, n.sel.length ≤ 50) → ∀ K, Pre H K → k (.bool false) K) :
    ∀ (ns : List Nod) (i : Nat) (left : Int) (K : AHeap) (s0 s2 s4 s6 s7 s8 s9 s10 s11 s12 s13 s14 s15 s16 s17 s18 s19 s20 s21 s22 s23 s24 s25 s26 s27 s28 s29 s30 s31 s32 s33 s34 s35 s36 s37 s38 s39 s40 s41 s42 s43 s44 s45 s46 s47 s48 s49 s50 s51 s52 s53 s54 s55 s56 s57 s58 s59 s60 s61 s62 s63 s64 s65 s66 s67 s68 s69 s70 s71 s72 s73 s74 s75 s76 s77 s78 s79 s80 s81 s82 s83 s84 s85 s86 s87 s88 s89 s90 s91 s92 s93 s94 s95 s96 s97 s98 s99 s100 s101 s102 s103 s104 s105 s106 s107 s108 s109 s110 s111 s112 s113 s114 s115 s116 s117 s118 s119 s120 s121 s122 s123 s124 s125 s126 s127 s128 s129 s130 : Value), r.nodes.drop i = ns → i ≤ r.nodes.length → (∀ n ∈ r.nodes.take i, n.sel.length ≤ 50) → Pre H K → hcells K b = some (r.cells nv mv) →
      L45x1 (ns.length + 1) k [s0, .pointer (some ⟨b, 0, some 8⟩), s2, i64 left, s4, i64 i, s6, s7, s8, s9, s10, s11, s12, s13, s14, s15, s16, s17, s18, s19, s20, s21, s22, s23, s24, s25, s26, s27, s28, s29, s30, s31, s32, s33, s34, s35, s36, s37, s38, s39, s40, s41, s42, s43, s44, s45, s46, s47, s48, s49, s50, s51, s52, s53, s54, s55, s56, s57, s58, s59, s60, s61, s62, s63, s64, s65, s66, s67, s68, s69, s70, s71, s72, s73, s74, s75, s76, s77, s78, s79, s80, s81, s82, s83, s84, s85, s86, s87, s88, s89, s90, s91, s92, s93, s94, s95, s96, s97, s98, s99, s100, s101, s102, s103, s104, s105, s106, s107, s108, s109, s110, s111, s112, s113, s114, s115, s116, s117, s118, s119, s120, s121, s122, s123, s124, s125, s126, s127, s128, s129, s130] K := by
  intro ns
  induction ns with
  | nil =>
    intro i left K s0 s2 s4 s6 s7 s8 s9 s10 s11 s12 s13 s14 s15 s16 s17 s18 s19 s20 s21 s22 s23 s24 s25 s26 s27 s28 s29 s30 s31 s32 s33 s34 s35 s36 s37 s38 s39 s40 s41 s42 s43 s44 s45 s46 s47 s48 s49 s50 s51 s52 s53 s54 s55 s56 s57 s58 s59 s60 s61 s62 s63 s64 s65 s66 s67 s68 s69 s70 s71 s72 s73 s74 s75 s76 s77 s78 s79 s80 s81 s82 s83 s84 s85 s86 s87 s88 s89 s90 s91 s92 s93 s94 s95 s96 s97 s98 s99 s100 s101 s102 s103 s104 s105 s106 s107 s108 s109 s110 s111 s112 s113 s114 s115 s116 s117 s118 s119 s120 s121 s122 s123 s124 s125 s126 s127 s128 s129 s130 hd hi hs hp hc
    have hle : r.nodes.length ≤ i := by simpa using hd
    have hl := (hn0.pre hp).len K
    have hl8 : hlen K b = some 8 := by rw [hcells_len hc]; rfl
    rw [List.length_nil, L45x1q]
    have : ¬ i < r.nodes.length := by omega
    simp [hc, hl8, Rul.cells, hl, this]
    exact hk (by rw [List.take_of_length_le hle] at hs; exact hs) K hp
  | cons x ns ih =>
    intro i left K s0 s2 s4 s6 s7 s8 s9 s10 s11 s12 s13 s14 s15 s16 s17 s18 s19 s20 s21 s22 s23 s24 s25 s26 s27 s28 s29 s30 s31 s32 s33 s34 s35 s36 s37 s38 s39 s40 s41 s42 s43 s44 s45 s46 s47 s48 s49 s50 s51 s52 s53 s54 s55 s56 s57 s58 s59 s60 s61 s62 s63 s64 s65 s66 s67 s68 s69 s70 s71 s72 s73 s74 s75 s76 s77 s78 s79 s80 s81 s82 s83 s84 s85 s86 s87 s88 s89 s90 s91 s92 s93 s94 s95 s96 s97 s98 s99 s100 s101 s102 s103 s104 s105 s106 s107 s108 s109 s110 s111 s112 s113 s114 s115 s116 s117 s118 s119 s120 s121 s122 s123 s124 s125 s126 s127 s128 s129 s130 hd hi hs hp hc
    have hb : r.nodes[i]? = some x := by rw [← List.head?_drop, hd]; rfl
    have hlt : i < r.nodes.length := (List.getElem?_eq_some_iff.1 hb).1
    obtain ⟨cl, ha, hcl, hcc⟩ := hn0.pre hp
    obtain ⟨sv, h1, h2, h3⟩ := hcc _ _ hb
    obtain ⟨p, q, f1, f2, f3⟩ := ha.field (P := Tryz.prog) (T := 27) (te := 37) (ft := 35) (f := 2) (d := 2) (x := sv) (by simp) (by simp) (by simp) (by simp) (by simp) h1 rfl
    have hl := h2.len (P := Tryz.prog) (T := 35) (e := 75) (by simp)
    simp only [List.length_map] at hl
    have hln := (hn0.pre hp).len K
    have hl8 : hlen K b = some 8 := by rw [hcells_len hc]; rfl
    rw [List.length_cons, L45x1q]
    simp [hc, hl8, Rul.cells, hln, hlt, f1, f2, f3, hl]
    by_cases h50 : 50 < x.sel.length
    · have h50I : (50 : Int) < x.sel.length := by omega
      simp [h50I]
      exact hT K hp
    · have h50I : ¬ (50 : Int) < x.sel.length := by omega
      simp [h50I]
      refine ⟨x.sel.length + 1, big_x2 (H := H) (r := r) (nv := nv) (mv := mv) (b := b) hn0 hb (by omega) (by omega) hT ?_ x.sel 0 left K _ _ _ _ _ _ _ _ _ _ _ _ _ _ _ _ _ _ _ _ _ _ _ _ _ _ _ _ _ _ _ _ _ _ _ _ _ _ _ _ _ _ _ _ _ _ _ _ _ _ _ _ _ _ _ _ _ _ _ _ _ _ _ _ _ _ _ _ _ _ _ _ _ _ _ _ _ _ _ _ _ _ _ _ _ _ _ _ _ _ _ _ _ _ _ _ _ _ _ _ _ _ _ _ _ _ _ _ _ _ _ _ _ _ _ _ _ _ _ _ _ _ _ _ _ _ _ rfl (by omega) hp hc⟩
      intro K2 left2 s0 s2 s4 s6 s7 s8 s9 s10 s11 s12 s13 s14 s15 s16 s17 s18 s19 s20 s21 s22 s23 s24 s25 s26 s27 s28 s29 s30 s31 s32 s33 s34 s35 s36 s37 s38 s39 s40 s41 s42 s43 s44 s45 s46 s47 s48 s49 s50 s51 s52 s53 s54 s55 s56 s57 s58 s59 s60 s61 s62 s63 s64 s65 s66 s67 s68 s69 s70 s71 s72 s73 s74 s75 s76 s77 s78 s79 s80 s81 s82 s83 s84 s85 s86 s87 s88 s89 s90 s91 s92 s93 s94 s95 s96 s97 s98 s99 s100 s101 s102 s103 s104 s105 s106 s107 s108 s109 s110 s111 s112 s113 s114 s115 s116 s117 s118 s119 s120 s121 s122 s123 s124 s125 s126 s127 s128 s129 s130 hp2 hc2
      refine ih (i + 1) left2 K2 _ _ _ _ _ _ _ _ _ _ _ _ _ _ _ _ _ _ _ _ _ _ _ _ _ _ _ _ _ _ _ _ _ _ _ _ _ _ _ _ _ _ _ _ _ _ _ _ _ _ _ _ _ _ _ _ _ _ _ _ _ _ _ _ _ _ _ _ _ _ _ _ _ _ _ _ _ _ _ _ _ _ _ _ _ _ _ _ _ _ _ _ _ _ _ _ _ _ _ _ _ _ _ _ _ _ _ _ _ _ _ _ _ _ _ _ _ _ _ _ _ _ _ _ _ _ _ _ (by rw [← List.drop_drop, hd]; rfl) hlt ?_ hp2 hc2
      intro n hn
      rw [List.take_add_one, hb] at hn
      simp at hn
      rcases hn with hn | rfl
      · exact hs n hn
      · omega
set_option maxRecDepth 20000 in
theorem big_x0 (hn0 : NodesAt H nv r.nodes) (hm0 : Arr H 1 mv (strCells r.mutes)) (hnl : r.nodes.length ≤ 100) (hml : r.mutes.length ≤ 100) (hT : ∀ K, Pre H K → k (.bool true) K) (hk : (∀ n ∈ r.nodes, n.sel.length ≤ 50) → ∀ K, Pre H K → k (.bool false) K) :
    ∀ (l : List (List UInt8)) (i : Nat) (left : Int) (K : AHeap) (s0 s2 s5 s6 s7 s8 s9 s10 s11 s12 s13 s14 s15 s16 s17 s18 s19 s20 s21 s22 s23 s24 s25 s26 s27 s28 s29 s30 s31 s32 s33 s34 s35 s36 s37 s38 s39 s40 s41 s42 s43 s44 s45 s46 s47 s48 s49 s50 s51 s52 s53 s54 s55 s56 s57 s58 s59 s60 s61 s62 s63 s64 s65 s66 s67 s68 s69 s70 s71 s72 s73 s74 s75 s76 s77 s78 s79 s80 s81 s82 s83 s84 s85 s86 s87 s88 s89 s90 s91 s92 s93 s94 s95 s96 s97 s98 s99 s100 s101 s102 s103 s104 s105 s106 s107 s108 s109 s110 s111 s112 s113 s114 s115 s116 s117 s118 s119 s120 s121 s122 s123 s124 s125 s126 s127 s128 s129 s130 : Value), r.mutes.drop i = l → i ≤ r.mutes.length → Pre H K → hcells K b = some (r.cells nv mv) →
      L45x0 (l.length + 1) k [s0, .pointer (some ⟨b, 0, some 8⟩), s2, i64 left, i64 i, s5, s6, s7, s8, s9, s10, s11, s12, s13, s14, s15, s16, s17, s18, s19, s20, s21, s22, s23, s24, s25, s26, s27, s28, s29, s30, s31, s32, s33, s34, s35, s36, s37, s38, s39, s40, s41, s42, s43, s44, s45, s46, s47, s48, s49, s50, s51, s52, s53, s54, s55, s56, s57, s58, s59, s60, s61, s62, s63, s64, s65, s66, s67, s68, s69, s70, s71, s72, s73, s74, s75, s76, s77, s78, s79, s80, s81, s82, s83, s84, s85, s86, s87, s88, s89, s90, s91, s92, s93, s94, s95, s96, s97, s98, s99, s100, s101, s102, s103, s104, s105, s106, s107, s108, s109, s110, s111, s112, s113, s114, s115, s116, s117, s118, s119, s120, s121, s122, s123, s124, s125, s126, s127, s128, s129, s130] K := by
  intro l
  induction l with
  | nil =>
    intro i left K s0 s2 s5 s6 s7 s8 s9 s10 s11 s12 s13 s14 s15 s16 s17 s18 s19 s20 s21 s22 s23 s24 s25 s26 s27 s28 s29 s30 s31 s32 s33 s34 s35 s36 s37 s38 s39 s40 s41 s42 s43 s44 s45 s46 s47 s48 s49 s50 s51 s52 s53 s54 s55 s56 s57 s58 s59 s60 s61 s62 s63 s64 s65 s66 s67 s68 s69 s70 s71 s72 s73 s74 s75 s76 s77 s78 s79 s80 s81 s82 s83 s84 s85 s86 s87 s88 s89 s90 s91 s92 s93 s94 s95 s96 s97 s98 s99 s100 s101 s102 s103 s104 s105 s106 s107 s108 s109 s110 s111 s112 s113 s114 s115 s116 s117 s118 s119 s120 s121 s122 s123 s124 s125 s126 s127 s128 s129 s130 hd hi hp hc
    have hle : r.mutes.length ≤ i := by simpa using hd
    have hl := (hm0.pre hp).len (P := Tryz.prog) (T := 42) (e := 9) (by simp)
    simp [strCells] at hl
    have hl8 : hlen K b = some 8 := by rw [hcells_len hc]; rfl
    rw [List.length_nil, L45x0q]
    have : ¬ i < r.mutes.length := by omega
    simp [hc, hl8, Rul.cells, hl, this]
    exact ⟨r.nodes.length + 1, big_x1 (H := H) (r := r) (nv := nv) (mv := mv) (b := b) hn0 hnl hT hk r.nodes 0 left K _ _ _ _ _ _ _ _ _ _ _ _ _ _ _ _ _ _ _ _ _ _ _ _ _ _ _ _ _ _ _ _ _ _ _ _ _ _ _ _ _ _ _ _ _ _ _ _ _ _ _ _ _ _ _ _ _ _ _ _ _ _ _ _ _ _ _ _ _ _ _ _ _ _ _ _ _ _ _ _ _ _ _ _ _ _ _ _ _ _ _ _ _ _ _ _ _ _ _ _ _ _ _ _ _ _ _ _ _ _ _ _ _ _ _ _ _ _ _ _ _ _ _ _ _ _ _ _ rfl (by omega) (by simp) hp hc⟩
  | cons x l ih =>
    intro i left K s0 s2 s5 s6 s7 s8 s9 s10 s11 s12 s13 s14 s15 s16 s17 s18 s19 s20 s21 s22 s23 s24 s25 s26 s27 s28 s29 s30 s31 s32 s33 s34 s35 s36 s37 s38 s39 s40 s41 s42 s43 s44 s45 s46 s47 s48 s49 s50 s51 s52 s53 s54 s55 s56 s57 s58 s59 s60 s61 s62 s63 s64 s65 s66 s67 s68 s69 s70 s71 s72 s73 s74 s75 s76 s77 s78 s79 s80 s81 s82 s83 s84 s85 s86 s87 s88 s89 s90 s91 s92 s93 s94 s95 s96 s97 s98 s99 s100 s101 s102 s103 s104 s105 s106 s107 s108 s109 s110 s111 s112 s113 s114 s115 s116 s117 s118 s119 s120 s121 s122 s123 s124 s125 s126 s127 s128 s129 s130 hd hi hp hc
    have hb : r.mutes[i]? = some x := by rw [← List.head?_drop, hd]; rfl
    have hlt : i < r.mutes.length := (List.getElem?_eq_some_iff.1 hb).1
    have hl := (hm0.pre hp).len (P := Tryz.prog) (T := 42) (e := 9) (by simp)
    simp [strCells] at hl
    obtain ⟨q, hp1, hp2⟩ := (hm0.pre hp).load1 (P := Tryz.prog) (T := 42) (te := 9) (i := i) (x := str x) (by simp) (by simp) (by simp) (by simp [strCells, hb])
    have hl8 : hlen K b = some 8 := by rw [hcells_len hc]; rfl
    rw [List.length_cons, L45x0q]
    simp [hc, hl8, Rul.cells, hl, hlt, hp1, hp2]
    refine kifB_bool (fun h => ?_) (fun h => ?_)
    · exact hT K hp
    · simp [hc, hl8, Rul.cells, hp1, hp2, show i + 1 < 2 ^ 63 by omega]
      exact ih (i + 1) _ K _ _ _ _ _ _ _ _ _ _ _ _ _ _ _ _ _ _ _ _ _ _ _ _ _ _ _ _ _ _ _ _ _ _ _ _ _ _ _ _ _ _ _ _ _ _ _ _ _ _ _ _ _ _ _ _ _ _ _ _ _ _ _ _ _ _ _ _ _ _ _ _ _ _ _ _ _ _ _ _ _ _ _ _ _ _ _ _ _ _ _ _ _ _ _ _ _ _ _ _ _ _ _ _ _ _ _ _ _ _ _ _ _ _ _ _ _ _ _ _ _ _ _ _ _ _ _ _ (by rw [← List.drop_drop, hd]; rfl) hlt hp hc
theorem c_big (hn0 : NodesAt H nv r.nodes) (hm0 : Arr H 1 mv (strCells r.mutes)) : ∃ b, (b = false → r.small) ∧ ACalls Tryz.prog 45 [.agg (r.cells nv mv).toArray] H (.bool b) H := by
  refine acalls_bool MixT Tryz.func45 (by decide) fun k hT hk => ?_
  rw [d45]
  have h1 : nv.oneCell' = true := by obtain ⟨_, h, _⟩ := hn0; exact h.one
  have h2 := hm0.one
  have hl : ∀ X : AHeap, aLen Tryz.prog (H ++ X) 42 mv = some (i64 r.mutes.length) := fun X => by
    have := (hm0.pre (.app H X)).len (P := Tryz.prog) (T := 42) (e := 9) (by simp)
    simpa [strCells] using this
  have hln := fun X : AHeap => (hn0.pre (.app H X)).len (H ++ X)
  simp +contextual [aNew_agg, Rul.cells, h1, h2, hl, hln]
  refine kifB_bool (fun h => ?_) (fun h => ?_)
  · exact hT _ (.app _ _)
  · simp at h
    simp
    refine ⟨r.mutes.length + 1, ?_⟩
    exact big_x0 (H := H) (r := r) (nv := nv) (mv := mv) (b := H.length) hn0 hm0 (by omega) (by omega) hT (fun h2 K p => hk ⟨by omega, by omega, by omega, h2⟩ K p) r.mutes 0 _ _ _ _ _ _ _ _ _ _ _ _ _ _ _ _ _ _ _ _ _ _ _ _ _ _ _ _ _ _ _ _ _ _ _ _ _ _ _ _ _ _ _ _ _ _ _ _ _ _ _ _ _ _ _ _ _ _ _ _ _ _ _ _ _ _ _ _ _ _ _ _ _ _ _ _ _ _ _ _ _ _ _ _ _ _ _ _ _ _ _ _ _ _ _ _ _ _ _ _ _ _ _ _ _ _ _ _ _ _ _ _ _ _ _ _ _ _ _ _ _ _ _ _ _ _ _ _ _ _ rfl (by omega) (.app _ _) (by simp [Rul.cells])
end
section
variable {rs : List Rul} {H : AHeap} {rv : Value} {b : Nat} {k : Value → AHeap → Prop}
def cfgC (rv : Value) : List Value := [rv, .slice none 0 0, .int .i64 0, .int .i64 0]
theorem cbig_x0 (hr : RulesAt H rv rs) (hrl : rs.length ≤ 20) (hT : ∀ K, Pre H K → k (.bool true) K) (hk : (∀ r ∈ rs, r.small) → ∀ K, Pre H K → k (.bool false) K) :
    ∀ (l : List Rul) (i : Nat) (K : AHeap) (s0 s2 s4 s5 s6 s7 s8 s9 s10 s11 s12 s13 s14 s15 s16 s17 s18 s19 s20 s21 s22 s23 s24 s25 s26 s27 s28 s29 s30 s31 s32 s33 s34 s35 s36 s37 s38 s39 s40 s41 s42 : Value), rs.drop i = l → i ≤ rs.length → (∀ r ∈ rs.take i, r.small) → Pre H K → hcells K b = some (cfgC rv) →
      L24x0 (l.length + 1) k [s0, .pointer (some ⟨b, 0, some 4⟩), s2, i64 i, s4, s5, s6, s7, s8, s9, s10, s11, s12, s13, s14, s15, s16, s17, s18, s19, s20, s21, s22, s23, s24, s25, s26, s27, s28, s29, s30, s31, s32, s33, s34, s35, s36, s37, s38, s39, s40, s41, s42] K := by
  intro l
  induction l with
  | nil =>
    intro i K s0 s2 s4 s5 s6 s7 s8 s9 s10 s11 s12 s13 s14 s15 s16 s17 s18 s19 s20 s21 s22 s23 s24 s25 s26 s27 s28 s29 s30 s31 s32 s33 s34 s35 s36 s37 s38 s39 s40 s41 s42 hd hi hs hp hc
    have hle : rs.length ≤ i := by simpa using hd
    have hl := (hr.pre hp).lenR K
    have hl4 : hlen K b = some 4 := by rw [hcells_len hc]; rfl
    rw [List.length_nil, L24x0q]
    have : ¬ i < rs.length := by omega
    rw [List.take_of_length_le hle] at hs
    simp [hc, hl4, cfgC, hl, this]
    refine ⟨1, ?_⟩
    rw [L24x1q]
    simp [hc, hl4, cfgC]
    exact hk hs K hp
  | cons x l ih =>
    intro i K s0 s2 s4 s5 s6 s7 s8 s9 s10 s11 s12 s13 s14 s15 s16 s17 s18 s19 s20 s21 s22 s23 s24 s25 s26 s27 s28 s29 s30 s31 s32 s33 s34 s35 s36 s37 s38 s39 s40 s41 s42 hd hi hs hp hc
    have hb : rs[i]? = some x := by rw [← List.head?_drop, hd]; rfl
    have hlt : i < rs.length := (List.getElem?_eq_some_iff.1 hb).1
    have hl := (hr.pre hp).lenR K
    have hl4 : hlen K b = some 4 := by rw [hcells_len hc]; rfl
    obtain ⟨nv, xv, hra, q, hp1, hp2⟩ := (hr.pre hp).at hb
    rw [List.length_cons, L24x0q]
    simp [hc, hl4, cfgC, hl, hlt, hp1, hp2]
    obtain ⟨t, ht, hcall⟩ := c_big (r := x) hra.nodes hra.mutes
    refine bndC_of hcall ?_
    simp
    refine kifB_bool (fun h => ?_) (fun h => ?_)
    · exact hT K hp
    · simp [show i + 1 < 2 ^ 63 by omega]
      refine ih (i + 1) K _ _ _ _ _ _ _ _ _ _ _ _ _ _ _ _ _ _ _ _ _ _ _ _ _ _ _ _ _ _ _ _ _ _ _ _ _ _ _ _ _ (by rw [← List.drop_drop, hd]; rfl) hlt ?_ hp hc
      intro r hrm
      rw [List.take_add_one, hb] at hrm
      simp at hrm
      rcases hrm with hrm | rfl
      · exact hs r hrm
      · exact ht h
theorem c_BigR (hr : RulesAt H rv rs) : ∃ b, (b = false → rs.length ≤ 20 ∧ ∀ r ∈ rs, r.small) ∧ ACalls Tryz.prog 24 [.agg (cfgC rv).toArray] H (.bool b) H := by
  refine acalls_bool MixT Tryz.func24 (by decide) fun k hT hk => ?_
  rw [d24]
  have h1 := hr.one
  have hlr := fun X : AHeap => hr.lenR (H ++ X)
  simp +contextual [aNew_agg, cfgC, h1, hlr]
  refine kifB_bool (fun h => ?_) (fun h => ?_)
  · exact hT _ (.app _ _)
  · simp at h
    refine ⟨rs.length + 1, ?_⟩
    exact cbig_x0 (H := H) (rs := rs) (rv := rv) (b := H.length) hr (by omega) hT (fun h2 K p => hk ⟨by omega, h2⟩ K p) rs 0 _ _ _ _ _ _ _ _ _ _ _ _ _ _ _ _ _ _ _ _ _ _ _ _ _ _ _ _ _ _ _ _ _ _ _ _ _ _ _ _ _ _ rfl (by omega) (by simp) (.app _ _) (by simp [cfgC])
end
theorem fine_of {rs : List Rul} (h : ∀ r ∈ rs, r.small) : fine rs := fun r hr => by have := (h r hr).1; omega
end Go.Vi
namespace Go.Vi
open Go Go.Proofs

theorem acallsG_flat {P : Program} {D : DrawK} (hD : ∀ c : Ctx, @SoundK c P D) {f fn args H v} (hf : P.funcs[f]? = some fn) (hn : notNG fn = true) (hc : flat v = true) (hr : kbodyG P D fn args H fun u H2 => u = v ∧ ∃ X, H2 = H ++ X) : ACalls P f args H v H := by
  intro w0 s w args' h hargs
  left
  unfold kbodyG at hr
  split at hr
  · rename_i c hb
    constructor
    · have hq : ¬ fn.name = "runtime.NumGoroutine" := by intro q; simp [notNG, q] at hn
      have hbn : ¬ fn.body = none := by rw [hb]; simp
      simp [callFunc, hf, hq, hbn]
    · letI : Ctx := ⟨[], none⟩
      refine callsIn_wide.1 (callsIn_of_wp_marks (F := Fence.wide) (n := 0) hf hb trivial ?_ rfl)
      have hal : args.length = args'.size := by have := hargs.1; simpa using this
      have ha : ARel s H (args ++ List.replicate (fn.ntmps - args.length) undef) { tmps := args' ++ Array.replicate (fn.ntmps - args'.size) undef, defers := [] } := by
        refine ⟨?_, rfl⟩
        simp only [Array.toList_append, Array.toList_replicate, hal]
        refine hargs.append ⟨by simp, fun i x y hx hy => ?_⟩
        rw [List.getElem?_replicate] at hx hy
        split at hx
        · rename_i hi
          rw [if_pos hi] at hy
          cases hx; cases hy
          exact undef_rel _ _
        · cases hx
      refine kxG_sound hD c h ha ⟨[], rfl, .nil _ _⟩ hr ?_
      have fin : ∀ {sl' H2 m' s' a' w' ds'}, WRel w0 s' H2 w' → Ext s H s' H2 → @ARel ⟨ds', none⟩ s' H2 sl' a' → MarkRel s' H2 m' ds' → kmarks (fun H2 => kres P sl' H2 fn.results.toList fun l => retV l = v ∧ ∃ X, H2 = H ++ X) m' H2 →
          LeavesInM Fence.wide 0 P fn a'.tmps (AEnd w0 s H v H) a'.defers .returning w' := by
        intro sl' H2 m' s' a' w' ds' g1 g2 g3 g4 hk
        have hd : a'.defers = ds' := @ARel.d ⟨ds', none⟩ _ _ _ _ g3
        rw [hd]
        refine kmarks_leave m' g1 g2 (@ARel.r ⟨ds', none⟩ _ _ _ _ g3) g4 hk ?_
        intro s5 H5 w5 q1 q2 q3 q4
        obtain ⟨l, h1, rfl, X, rfl⟩ := kres_sound _ q4
        obtain ⟨v', k1, k2⟩ := run_ret (P := P) (a := { tmps := a'.tmps, defers := [] }) fn q1.h ⟨q3, rfl⟩ (aRet_of h1)
        exact ⟨v', k1, s, v', rfl, h.forget q1 q2, Ext.refl _ _, by rw [k2.flat_eq hc]; exact flat_rel hc s H⟩
      intro e sl' H2 m' hk s' a' w' ds' g1 g2 g3 g4
      cases e with
      | exit i => cases hk
      | normal => exact fin g1 g2 g3 g4 hk
      | ret => exact fin g1 g2 g3 g4 hk
  · cases hr
def tx5 : List UInt8 := [97, 32, 53, 32, 49, 48, 32] ++ tA
def tx6 : List UInt8 := [97, 32, 54, 32, 49, 48, 32] ++ tA
def R1 : Rul := ⟨[110], [97], [nA], 5, 10, 0, [], []⟩
def R2 : Rul := ⟨[109], [97], [nA], 5, 10, 7, [[113]], [111, 112, 115]⟩
def R3 : Rul := ⟨[110], [97], [nA], 6, 10, 0, [], []⟩
set_option maxRecDepth 100000 in
theorem fing1 : fingF R1 = crcF tx5 := by kernel_rfl
set_option maxRecDepth 100000 in
theorem fing3 : fingF R3 = crcF tx6 := by kernel_rfl
theorem fing2 : fingF R2 = fingF R1 := rfl
theorem bndK_same {b l : Bool} {H : AHeap} {e q : QH} {s : QK} {v : Value} (h : e.f v H) (k : q.f v H) : @bndK b l H e s q := ⟨v, H, h, .inr (.inl ⟨[], by simp⟩), k⟩
theorem rlit1 (H : AHeap) {r : Rul} {nv mv : Value} (h1 : nv.oneCell' = true) (h2 : mv.oneCell' = true) : sliceLit Tryz.prog H 46 1 [(0, .agg (r.cells nv mv).toArray)] (.slice (some ⟨H.length, 0, some 8⟩) 1 1) (H ++ [.cells (r.cells nv mv) 44]) := by
  refine ⟨by simp [Rul.cells, h1, h2], ?_⟩
  rw [tbs46]
  simp [bslV, Rul.cells, repCells, h1, h2, show List.range 8 = [0, 1, 2, 3, 4, 5, 6, 7] from rfl]
theorem rlit2 (H : AHeap) {r r' : Rul} {nv mv nv' mv' : Value} (h1 : nv.oneCell' = true) (h2 : mv.oneCell' = true) (h3 : nv'.oneCell' = true) (h4 : mv'.oneCell' = true) :
    sliceLit Tryz.prog H 46 2 [(0, .agg (r.cells nv mv).toArray), (1, .agg (r'.cells nv' mv').toArray)] (.slice (some ⟨H.length, 0, some 16⟩) 2 2) (H ++ [.cells (r.cells nv mv ++ r'.cells nv' mv') 44]) := by
  refine ⟨by simp [Rul.cells, h1, h2, h3, h4], ?_⟩
  rw [tbs46]
  simp [bslV, Rul.cells, repCells, h1, h2, h3, h4, show List.range 16 = [0, 1, 2, 3, 4, 5, 6, 7, 8, 9, 10, 11, 12, 13, 14, 15] from rfl]
theorem rat1 {K : AHeap} {b : Nat} {r : Rul} {nv mv : Value} (hc : hcells K b = some (r.cells nv mv)) (h : RulAt K r nv mv) : RulesAt K (.slice (some ⟨b, 0, some 8⟩) 1 1) [r] := by
  refine ⟨[r.cells nv mv], .mk b 0 8 1 1 _ _ rfl hc rfl (by simp) fun i e hi => ?_, rfl, fun i x hi => ?_⟩
  · cases i with
    | zero => simp at hi; subst hi; rfl
    | succ i => simp at hi
  · cases i with
    | zero => simp at hi; subst hi; exact ⟨nv, mv, rfl, h⟩
    | succ i => simp at hi
theorem rat2 {K : AHeap} {b : Nat} {r r' : Rul} {nv mv nv' mv' : Value} (hc : hcells K b = some (r.cells nv mv ++ r'.cells nv' mv')) (h : RulAt K r nv mv) (h' : RulAt K r' nv' mv') : RulesAt K (.slice (some ⟨b, 0, some 16⟩) 2 2) [r, r'] := by
  refine ⟨[r.cells nv mv, r'.cells nv' mv'], .mk b 0 16 2 2 _ _ rfl hc rfl (by simp) fun i e hi => ?_, rfl, fun i x hi => ?_⟩
  · match i with
    | 0 => simp at hi; subst hi; rfl
    | 1 => simp at hi; subst hi; rfl
    | i + 2 => simp at hi
  · match i with
    | 0 => simp at hi; subst hi; exact ⟨nv, mv, rfl, h⟩
    | 1 => simp at hi; subst hi; exact ⟨nv', mv', rfl, h'⟩
    | i + 2 => simp at hi
theorem aConv_id (H : AHeap) (_X : AHeap) (l : List UInt8) (h : 0 < l.length) : aConv Tryz.prog (H ++ [.cells (bcells l) 5]) 55 55 (.slice (some ⟨H.length, 0, some l.length⟩) l.length l.length) = some (.slice (some ⟨H.length, 0, some l.length⟩) l.length l.length, H ++ [.ro (bcells l)]) := by
  have hu : isU8 Tryz.prog 5 = true := by kernel_rfl
  simp [aConv, hu, bcells, h]
theorem rowArr {K : AHeap} {b : Nat} {l : List UInt8} (h : hcells K b = some (bcells l)) : Arr K 1 (.slice (some ⟨b, 0, some l.length⟩) l.length l.length) (l.map fun b => [byt b]) := by
  refine .mk b 0 _ _ _ (bcells l) _ (by simp) h (by simp [bcells]) (by simp) fun i e hi => ?_
  simp only [List.getElem?_map, Option.map_eq_some_iff] at hi
  obtain ⟨b, h1, rfl⟩ := hi
  have hlt := (List.getElem?_eq_some_iff.1 h1).1
  rw [Nat.zero_add, Nat.mul_one, bcells, ← List.map_drop, List.drop_eq_getElem_cons hlt, List.map_cons, List.take_succ_cons, List.take_zero, (List.getElem?_eq_some_iff.1 h1).2]
set_option maxRecDepth 50000 in
set_option maxHeartbeats 2000000 in
theorem c_awake14 {H : AHeap} (hg : Pre Gs H) : ACalls Tryz.prog 23 [] H (.bool true) H := by
  refine acallsG_flat (fun c => @drawPlan_sound _ c MixT 41 PL23) Tryz.func23 (by decide) rfl ?_
  generalize hk0 : (fun u H2 => u = Value.bool true ∧ ∃ X, H2 = H ++ X) = k
  have hk : ∀ M, Pre H M → k (.bool true) M := fun M p => by rw [← hk0]; exact ⟨rfl, p⟩
  rw [d23]
  obtain ⟨v1, K1, a1, p1, n1⟩ := g_parse (s := tA) hg
  rw [pA] at a1 n1
  refine bndC_of a1 ?_
  simp only [bnd_some, tupV, List.getElem?_toArray, List.getElem?_cons_zero, List.getElem?_cons_succ]
  have o1 : v1.oneCell' = true := by obtain ⟨cl1, hcl1, _⟩ := n1; exact hcl1.one
  have hb : buildV Tryz.prog 44 [(0, str [110]), (1, str [97]), (2, v1), (3, .int .i64 5), (4, .int .i64 10)] = some (.agg (R1.cells v1 (.slice none 0 0)).toArray) := by
    simp [R1, Rul.cells, stor_one o1, cells_one o1]
  refine bnd_of hb ?_
  dsimp only
  simp only [tal44, bndE_some]
  rw [rule_new o1 rfl]
  simp only [bndS_some]
  refine bnd_of (rule_get (cs := R1.cells v1 (.slice none 0 0)) (by simp) rfl) ?_
  simp only [tal44, bndE_some]
  rw [rule_new o1 rfl]
  simp only [bndS_some]
  refine bndL_lit (strs_lit (l := [[113]]) (tbs42 _ 1 _) rfl (by decide)) ?_
  simp [Rul.cells, R1, o1]
  obtain ⟨B, hB⟩ : ∃ B, B = K1 ++ [AObj.cells (R1.cells v1 (.slice none 0 0)) 44, AObj.cells (R2.cells v1 (.slice (some ⟨K1.length + 2, 0, some 1⟩) 1 1)) 44, AObj.cells [str [113]] 9, AObj.cells (R3.cells v1 (.slice none 0 0)) 44] := ⟨_, rfl⟩
  have pB : Pre K1 B := by rw [hB]; exact .app _ _
  have pHB : Pre H B := p1.trans pB
  have hgB : Pre Gs B := hg.trans pHB
  have hl : B.length = K1.length + 4 := by rw [hB]; simp
  have c1 : hcells B K1.length = some (R1.cells v1 (.slice none 0 0)) := by rw [hB]; simp
  have c2 : hcells B (K1.length + 1) = some (R2.cells v1 (.slice (some ⟨K1.length + 2, 0, some 1⟩) 1 1)) := by rw [hB]; simp
  have c3 : hcells B (K1.length + 2) = some [str [113]] := by rw [hB]; simp
  have c4 : hcells B (K1.length + 3) = some (R3.cells v1 (.slice none 0 0)) := by rw [hB]; simp
  simp only [Rul.cells, R1, R2, R3] at hB
  rw [← hB]
  clear hB
  have nB : NodesAt B v1 [nA] := n1.pre pB
  have q1 : RulAt B R1 v1 (.slice none 0 0) := ⟨nB, .nil, ⟨by decide, by decide, by decide, by decide⟩, by decide⟩
  have q3 : RulAt B R3 v1 (.slice none 0 0) := ⟨nB, .nil, ⟨by decide, by decide, by decide, by decide⟩, by decide⟩
  have q2 : RulAt B R2 v1 (.slice (some ⟨K1.length + 2, 0, some 1⟩) 1 1) := ⟨nB, .mk _ 0 1 1 1 _ _ rfl c3 rfl (by simp) (fun i e hi => by
    cases i with
    | zero => simp [strCells, R2] at hi; subst hi; rfl
    | succ i => simp [strCells, R2] at hi), ⟨by decide, by decide, by decide, by decide⟩, by decide⟩
  have L1 := rule_get c1 rfl
  have L2 := rule_get c2 rfl
  have L3 := rule_get c4 rfl
  have L1X := fun X : AHeap => rule_get (hcells_more (X := X) c1) rfl
  have L2X := fun X : AHeap => rule_get (hcells_more (X := X) c2) rfl
  have L3X := fun X : AHeap => rule_get (hcells_more (X := X) c4) rfl
  have F1 : ∀ K, Pre B K → ACalls Tryz.prog 25 [.agg (R1.cells v1 (.slice none 0 0)).toArray] K (.int .u32 (crcF tx5)) K := fun K p => by
    rw [← fing1]; exact c_finger (hgB.trans p) (q1.pre p) (by decide)
  have F2 : ∀ K, Pre B K → ACalls Tryz.prog 25 [.agg (R2.cells v1 (.slice (some ⟨K1.length + 2, 0, some 1⟩) 1 1)).toArray] K (.int .u32 (crcF tx5)) K := fun K p => by
    rw [← fing1, ← fing2]; exact c_finger (hgB.trans p) (q2.pre p) (by decide)
  have F3 : ∀ K, Pre B K → ACalls Tryz.prog 25 [.agg (R3.cells v1 (.slice none 0 0)).toArray] K (.int .u32 (crcF tx6)) K := fun K p => by
    rw [← fing3]; exact c_finger (hgB.trans p) (q3.pre p) (by decide)
  have C5 : ∀ K, Pre (B ++ [AObj.ro (bcells tx5)]) K → ACalls Tryz.prog 27 [.slice (some ⟨B.length, 0, some 23⟩) 23 23] K (.int .u32 (crcF tx5)) K := fun K p => c_sum (rowArr (l := tx5) (p.hcells (by simp))) (by decide)
  have C6 : ∀ K, Pre (B ++ [AObj.ro (bcells tx5), .ro (bcells tx6)]) K → ACalls Tryz.prog 27 [.slice (some ⟨B.length + 1, 0, some 23⟩) 23 23] K (.int .u32 (crcF tx6)) K := fun K p => c_sum (rowArr (l := tx6) (p.hcells (by simp))) (by decide)
  have U0 : ∀ K, Pre B K → ACalls Tryz.prog 26 [.slice none 0 0] K (.bool true) K := fun K p =>
    c_unlike (rs := []) (hgB.trans p) ⟨[], .nil, rfl, fun i r hi => by simp at hi⟩ (by simp) (fun r hr => by cases hr)
  have U1 : ACalls Tryz.prog 26 [.slice (some ⟨B.length + 2, 0, some 8⟩) 1 1] (B ++ [AObj.ro (bcells tx5), .ro (bcells tx6), .cells (R1.cells v1 (.slice none 0 0)) 44]) (.bool true) (B ++ [AObj.ro (bcells tx5), .ro (bcells tx6), .cells (R1.cells v1 (.slice none 0 0)) 44]) := by
    have := c_unlike (rs := [R1]) (hgB.trans (.app B _)) (rat1 (K := B ++ [.ro (bcells tx5), .ro (bcells tx6), .cells (R1.cells v1 (.slice none 0 0)) 44]) (b := B.length + 2) (by simp) (q1.pre (.app B _))) (by simp) (fun r hr => by simp at hr; subst hr; decide)
    rwa [show unlF ([R1].map fingF) = true from (unlF_iff _).2 (by simp)] at this
  have U2 : ACalls Tryz.prog 26 [.slice (some ⟨B.length + 3, 0, some 16⟩) 2 2] (B ++ [AObj.ro (bcells tx5), .ro (bcells tx6), .cells (R1.cells v1 (.slice none 0 0)) 44, .cells (R1.cells v1 (.slice none 0 0) ++ R2.cells v1 (.slice (some ⟨K1.length + 2, 0, some 1⟩) 1 1)) 44]) (.bool false) (B ++ [AObj.ro (bcells tx5), .ro (bcells tx6), .cells (R1.cells v1 (.slice none 0 0)) 44, .cells (R1.cells v1 (.slice none 0 0) ++ R2.cells v1 (.slice (some ⟨K1.length + 2, 0, some 1⟩) 1 1)) 44]) := by
    have := c_unlike (rs := [R1, R2]) (hgB.trans (.app B _)) (rat2 (K := B ++ [.ro (bcells tx5), .ro (bcells tx6), .cells (R1.cells v1 (.slice none 0 0)) 44, .cells (R1.cells v1 (.slice none 0 0) ++ R2.cells v1 (.slice (some ⟨K1.length + 2, 0, some 1⟩) 1 1)) 44]) (b := B.length + 3) (by simp) (q1.pre (.app B _)) (q2.pre (.app B _))) (by simp) (fun r hr => by simp at hr; rcases hr with rfl | rfl <;> decide)
    rwa [show unlF ([R1, R2].map fingF) = false from Bool.eq_false_iff.2 fun h => by have := (unlF_iff _).1 h; simp [fing2] at this] at this
  have V5 : aConv Tryz.prog B 9 55 (str tx5) = some (.slice (some ⟨B.length, 0, some 23⟩) 23 23, B ++ [AObj.ro (bcells tx5)]) := aConv_sb B tx5
  have G6 : sliceLit Tryz.prog (B ++ [AObj.ro (bcells tx5)]) 55 23 (enumL 0 (bcells tx6)) (.slice (some ⟨(B ++ [AObj.ro (bcells tx5)]).length, 0, some 23⟩) 23 23) (B ++ [AObj.ro (bcells tx5)] ++ [.cells (bcells tx6) 5]) := sliceLit1 (l := bcells tx6) (tbs55 _ 23 _) (fun v hv => by simp only [bcells, List.mem_map] at hv; obtain ⟨b, _, rfl⟩ := hv; rfl) rfl (by decide)
  have V6 := aConv_id (B ++ [AObj.ro (bcells tx5)]) [] tx6 (by decide)
  have G1 := rlit1 (B ++ [AObj.ro (bcells tx5), .ro (bcells tx6)]) (r := R1) (nv := v1) (mv := .slice none 0 0) o1 rfl
  have G2 := rlit2 (B ++ [AObj.ro (bcells tx5), .ro (bcells tx6), .cells (R1.cells v1 (.slice none 0 0)) 44]) (r := R1) (nv := v1) (mv := .slice none 0 0) (r' := R2) (nv' := v1) (mv' := .slice (some ⟨K1.length + 2, 0, some 1⟩) 1 1) o1 rfl o1 rfl
  simp only [List.append_assoc, List.cons_append, List.nil_append, List.length_append, List.length_cons, List.length_nil, Nat.zero_add, Nat.reduceAdd] at V6 G6 G1 G2
  refine ⟨⟨?_, ?_, ?_⟩, ?_, ?_, ?_⟩ <;> repeat (first
    | (refine bndK_same (F1 _ (by first | exact .refl _ | exact .app _ _)) ?_; simp [L3X])
    | (refine bndK_same (F2 _ (by first | exact .refl _ | exact .app _ _)) ?_; simp [L1X])
    | (refine bndK_same (F3 _ (by first | exact .refl _ | exact .app _ _)) ?_; simp)
    | (refine bndK_same (C5 _ (.refl _)) ?_; simp [L2X])
    | (refine bndK_same (C6 _ (.refl _)) ?_; simp)
    | (refine bndK_same (U0 _ (by first | exact .refl _ | exact .app _ _)) ?_; simp [L1X])
    | (refine bndK_ext V5 ⟨_, rfl⟩ ?_; simp)
    | (refine bndK_ext G6 ⟨[.cells (bcells tx6) 5], by simp⟩ ?_; simp)
    | (refine bndK_of V6 (by simp [L3X]) ?_; simp)
    | (refine bndK_same U1 ?_; simp [L1X, L2X])
    | (refine bndK_ext G1 ⟨[.cells (R1.cells v1 (.slice none 0 0)) 44], by simp⟩ ?_; simp)
    | (refine bndK_bar G2 ?_; simp)
    | (refine bndK_same U2 ?_; simp))
  all_goals exact hk _ (pHB.more _)
end Go.Vi
