/- The reader of conditions, whatever it reads: tokens. The reader of conditions, whatever it reads: windows, values, matchers. The reader of conditions, whatever it reads: matchers. The reader of conditions, whatever it reads: comparisons. Conditions, whatever is read. Read and Parse, whatever they read. Statements of chapter 10: what they share. Statements of chapter 10: the examples. Nodes held against the same nodes elsewhere. A condition within a longer text: what the parser tells there. The tokens of a text within a longer one. Texts in parentheses: what Parse tells of them. -/
import Derived.Test.YtpkdgmcfojjfjaaGreatDoorJ5
namespace Go.Vi
open Go Go.Proofs

theorem Gro.frm {K K' lo z T v cl} (h : Gro K lo z T v cl) (hf : ∀ (b : Nat) o, lo ≤ b → K[b]? = some o → K'[b]? = some o) : Gro K' lo z T v cl := by
  cases h with
  | nil => exact .nil
  | mk bb cl h1 h2 h3 h4 => exact .mk bb cl h1 (hf _ _ h1 h2) h3 h4
theorem Gro.weak {K lo lo' z T v cl} (h : Gro K lo z T v cl) (hl : lo' ≤ lo) : Gro K lo' z T v cl := by
  cases h with
  | nil => exact .nil
  | mk bb cl h1 h2 h3 h4 => exact .mk bb cl (by omega) h2 h3 h4
abbrev rP (rb : Nat) : Value := .pointer (some ⟨rb, 0, some 3⟩)
/-- A reader that is at a token, or one that has failed. -/
def RdS (H K : AHeap) (rb : Nat) (lv : Value) (ts : List Tok) : Option Nat → Prop
  | some a => RdA H K rb lv ts a true
  | none => ∃ a, RdA H K rb lv ts a false
theorem RdS.any {H K rb lv ts st} (h : RdS H K rb lv ts st) : ∃ a ok, RdA H K rb lv ts a ok := by
  cases st with
  | some a => exact ⟨a, true, h⟩
  | none => obtain ⟨a, h⟩ := h; exact ⟨a, false, h⟩
theorem RdS.lt {H K rb lv ts st} (h : RdS H K rb lv ts st) : rb < K.length := by obtain ⟨a, ok, h⟩ := h.any; exact h.lt
theorem RdS.app {H K rb lv ts st} (h : RdS H K rb lv ts st) (X : AHeap) : RdS H (K ++ X) rb lv ts st := by
  cases st with
  | some a => exact RdA.app h X
  | none => obtain ⟨a, h⟩ := h; exact ⟨a, h.app X⟩
theorem RdS.le {H K rb lv ts a} (h : RdS H K rb lv ts (some a)) : a ≤ ts.length := RdA.le h
theorem RdS.len {H K rb lv ts st} (h : RdS H K rb lv ts st) : ts.length < 2 ^ 40 := by obtain ⟨a, ok, h⟩ := h.any; exact h.len
theorem RdS.pre {H K rb lv ts st} (h : RdS H K rb lv ts st) : Pre H K := by obtain ⟨a, ok, h⟩ := h.any; exact h.pre
theorem RdS.frame {H K K' rb lv ts st} (h : RdS H K rb lv ts st) (hp : Pre H K') (hc : ∀ o, K[rb]? = some o → K'[rb]? = some o) : RdS H K' rb lv ts st := by
  cases st with
  | some a => have h : RdA H K rb lv ts a true := h; exact ⟨h.toks, hp, h.hb, hc _ h.cell, h.len, h.le⟩
  | none => obtain ⟨a, h⟩ := h; exact ⟨a, h.toks, hp, h.hb, hc _ h.cell, h.len, h.le⟩
/-- The reader goes on; all but its own cells stays. -/
structure Adv (H K K' : AHeap) (rb : Nat) (lv : Value) (ts : List Tok) (st : Option Nat) : Prop where
  rd : RdS H K' rb lv ts st
  fr : ∀ (b : Nat) o, b ≠ rb → K[b]? = some o → K'[b]? = some o
  len : K.length ≤ K'.length
theorem Adv.trans {H K K' K2 rb lv ts st st'} (h : Adv H K K' rb lv ts st) (k : Adv H K' K2 rb lv ts st') : Adv H K K2 rb lv ts st' := ⟨k.rd, fun b o hb ho => k.fr b o hb (h.fr b o hb ho), Nat.le_trans h.len k.len⟩
theorem Adv.refl {H K rb lv ts st} (h : RdS H K rb lv ts st) : Adv H K K rb lv ts st := ⟨h, fun _ _ _ h => h, Nat.le_refl _⟩
theorem Adv.app {H K K' rb lv ts st} (h : Adv H K K' rb lv ts st) (X : AHeap) : Adv H K (K' ++ X) rb lv ts st := ⟨h.rd.app X, fun b o hb ho => get_more (h.fr b o hb ho), by have := h.len; simp; omega⟩
theorem Adv.set {H K rb lv ts a ok st} (_h : RdA H K rb lv ts a ok) (a' : Nat) (ok' : Bool) (_ha : a' ≤ ts.length) (hs : RdS H (K.set rb (rdo lv a' ok')) rb lv ts st) : Adv H K (K.set rb (rdo lv a' ok')) rb lv ts st :=
  ⟨hs, fun b o hb ho => by rw [List.getElem?_set_ne (fun e => hb e.symm)]; exact ho, by simp⟩
theorem Adv.setT {H K rb lv ts a ok} (h : RdA H K rb lv ts a ok) (a' : Nat) (ha : a' ≤ ts.length) : Adv H K (K.set rb (rdo lv a' true)) rb lv ts (some a') := .set h a' true ha (h.put a' true ha)
theorem Adv.setF {H K rb lv ts a ok} (h : RdA H K rb lv ts a ok) (a' : Nat) (ha : a' ≤ ts.length) : Adv H K (K.set rb (rdo lv a' false)) rb lv ts none := .set h a' false ha ⟨a', h.put a' false ha⟩

def takO (ts : List Tok) (k : Int) (s : List UInt8) (a : Nat) : Nat := if isT ts a k s = true then a + 1 else a
theorem g_takes {H K rb lv ts st} (h : RdS H K rb lv ts st) (k : Int) (s : List UInt8) :
    ∃ K', ACalls Tryz.prog 68 [rP rb, .int .u8 k, str s] K (.bool (st.any fun a => isT ts a k s)) K' ∧ Adv H K K' rb lv ts (st.map (takO ts k s)) := by
  cases st with
  | none => obtain ⟨a, h⟩ := h; exact ⟨K, c_takes_n h rfl, .refl ⟨a, h⟩⟩
  | some a =>
    have h : RdA H K rb lv ts a true := h
    simp only [Option.any_some, Option.map_some, takO]
    cases ht : isT ts a k s with
    | true => exact ⟨_, c_takes_y h ht, .setT h _ (by have := isT_lt ht; omega)⟩
    | false => exact ⟨K, c_takes_n h (by simp [ht]), .refl h⟩
def signO (ts : List Tok) (s : List UInt8) (a : Nat) : Option Nat := if isT ts a 4 s = true then some (a + 1) else none
theorem c_sign_n {H K rb lv ts a ok} (h : RdA H K rb lv ts a ok) {s : List UInt8} (ht : (ok && isT ts a 4 s) = false) :
    ACalls Tryz.prog 69 [rP rb, str s] K (.tuple #[]) (K.set rb (rdo lv a false)) := by
  refine acalls_of MixT Tryz.func69 (by decide) ?_
  rw [d69]
  refine bndC_of (c_takes_n h ht) ?_
  have hc := h.cell
  have hll : hlen K rb = some 3 := by simp [hlen, hc, rdo]
  simp [hll, hc, rdo]
theorem g_sign {H K rb lv ts st} (h : RdS H K rb lv ts st) (s : List UInt8) :
    ∃ K', ACalls Tryz.prog 69 [rP rb, str s] K (.tuple #[]) K' ∧ Adv H K K' rb lv ts (st.bind (signO ts s)) := by
  cases st with
  | none => obtain ⟨a, h⟩ := h; exact ⟨_, c_sign_n h rfl, .setF h a h.le⟩
  | some a =>
    have h : RdA H K rb lv ts a true := h
    simp only [Option.bind_some, signO]
    cases ht : isT ts a 4 s with
    | true => exact ⟨_, c_sign_y h ht, .setT h _ (by have := isT_lt ht; omega)⟩
    | false => exact ⟨_, c_sign_n h (by simp [ht]), .setF h a h.le⟩
def tokK (ts : List Tok) (k : Int) (a : Nat) : Option (List UInt8) := (ts[a]?).bind fun t => if t.kind = k then some t.text else none
theorem c_take_n {H K rb lv ts a ok} (h : RdA H K rb lv ts a ok) {k : Int} (ht : ok = true → tokK ts k a = none) :
    ACalls Tryz.prog 127 [rP rb, .int .u8 k] K (str []) (K.set rb (rdo lv a false)) := by
  refine acalls_of MixT Tryz.func127 (by decide) ?_
  rw [d127]
  have hc := h.cell
  have hcc : hcells K rb = some [lv, i64 a, .bool ok] := by simp [hcells_eq, hc, rdo]
  have hll : hlen K rb = some 3 := by simp [hlen, hc, rdo]
  have hl := (h.toks.pre h.pre).len (P := Tryz.prog) (T := 23) (e := 70) (by simp)
  simp at hl
  simp only [rdo] at hc
  cases ok with
  | false => simp [hcc, hll, hc, rdo]
  | true =>
    have ht := ht rfl
    by_cases ha : ts.length ≤ a
    · simp [hcc, hll, hl, ha, hc, rdo]
    · obtain ⟨t, htt⟩ : ∃ t, ts[a]? = some t := ⟨_, List.getElem?_eq_getElem (by omega)⟩
      obtain ⟨p, q, r, e1, e2, e3, e4, e5⟩ := toksAt_at (h.toks.pre h.pre) htt
      have hk : ¬ t.kind = k := by
        intro e
        simp [tokK, htt, e] at ht
      have hk' : (t.kind != k) = true := by simpa using hk
      simp [hcc, hll, hl, ha, e1, e2, e3, hc, hk', rdo]
def takeO (ts : List Tok) (k : Int) (a : Nat) : Option Nat := (tokK ts k a).map fun _ => a + 1
theorem g_take {H K rb lv ts st} (h : RdS H K rb lv ts st) (k : Int) :
    ∃ K', ACalls Tryz.prog 127 [rP rb, .int .u8 k] K (str ((st.bind (tokK ts k)).getD [])) K' ∧ Adv H K K' rb lv ts (st.bind (takeO ts k)) := by
  cases st with
  | none => obtain ⟨a, h⟩ := h; exact ⟨_, c_take_n h (by simp), .setF h a h.le⟩
  | some a =>
    have h : RdA H K rb lv ts a true := h
    simp only [Option.bind_some, takeO]
    cases ht : tokK ts k a with
    | none => exact ⟨_, c_take_n h fun _ => ht, .setF h a h.le⟩
    | some s =>
      unfold tokK at ht
      cases htt : ts[a]? with
      | none => simp [htt] at ht
      | some t =>
        simp only [htt, Option.bind_some] at ht
        split at ht
        · rename_i hk
          cases ht
          have := c_take_y h htt
          rw [hk] at this
          exact ⟨_, this, .setT h _ (by have := (List.getElem?_eq_some_iff.1 htt).1; omega)⟩
        · cases ht
def idxS (l : List (List UInt8)) (s : List UInt8) : Nat := if s ∈ l then l.idxOf s else 0
def oneO (ts : List Tok) (k : Int) (l : List (List UInt8)) (a : Nat) : Option Nat := (tokK ts k a).bind fun s => if s ∈ l then some (a + 1) else none
theorem nmap_any {l : List (List UInt8)} {s : List UInt8} (hn : l.Nodup) : mget (str s) (nmapK 0 l) = if s ∈ l then some (i64 (l.idxOf s)) else none := by
  by_cases hs : s ∈ l
  · rw [if_pos hs]
    have hlt := List.idxOf_lt_length_of_mem hs
    exact nmap_get hn (by rw [List.getElem?_eq_getElem hlt, List.getElem_idxOf hlt])
  · rw [if_neg hs]
    rcases (nmapK_smap l 0).get (k := s) with ⟨h, _⟩ | ⟨_, h⟩
    · exact absurd h hs
    · exact h
theorem g_one {H K rb lv ts st} (h : RdS H K rb lv ts st) (k : Int) {l : List (List UInt8)} {v : Value} (ha : Arr K 1 v (strCells l)) (hl : l.length ≤ 200) (hn : l.Nodup) (_h0 : [] ∉ l) :
    ∃ K', ACalls Tryz.prog 105 [rP rb, .int .u8 k, v] K (.int .u8 (idxS l ((st.bind (tokK ts k)).getD []))) K' ∧ Adv H K K' rb lv ts (st.bind (oneO ts k l)) := by
  have key : ∃ u K', (u = .int .u8 (idxS l ((st.bind (tokK ts k)).getD [])) ∧ Adv H K K' rb lv ts (st.bind (oneO ts k l))) ∧ ACalls Tryz.prog 105 [rP rb, .int .u8 k, v] K u K' := by
    refine acalls_ex MixT Tryz.func105 (by decide) ?_
    rw [d105]
    refine bndC_of (c_named (by omega) hn ha) ?_
    obtain ⟨K1, g1, g2⟩ := g_take (h.app [AObj.map (nmapK 0 l)]) k
    refine bndC_of g1 ?_
    have hrb := h.lt
    have hm : K1[K.length]? = some (.map (nmapK 0 l)) := g2.fr _ _ (by omega) (by simp)
    have hok := (nmapK_smap l 0).ok
    generalize hs : (st.bind (tokK ts k)).getD [] = s
    have hlk : aLookup Tryz.prog K1 163 (.map (some K.length)) (str s) true = some (mres (some (i64 (idxS l s))) undef true) ∧ s ∈ l ∨ aLookup Tryz.prog K1 163 (.map (some K.length)) (str s) true = some (mres none (i64 0) true) ∧ s ∉ l := by
      by_cases hs : s ∈ l
      · left
        refine ⟨?_, hs⟩
        rw [aLookup_map, hm]
        simp only [tm163, Option.bind_some, mapOf_map, keyOk, if_true, hok, nmap_any hn, if_pos hs, idxS]
      · right
        refine ⟨?_, hs⟩
        rw [aLookup_map, hm]
        simp only [tm163, tz163, Option.bind_some, mapOf_map, keyOk, if_true, hok, nmap_any hn, if_neg hs]
        rfl
    have hfr : ∀ (a' : Nat) (ok' : Bool) (b : Nat) (o : AObj), b ≠ rb → K[b]? = some o → (K1.set rb (rdo lv a' ok'))[b]? = some o := fun a' ok' b o hb ho => by
      rw [List.getElem?_set_ne (fun e => hb e.symm)]; exact g2.fr b o hb (get_more ho)
    have hlen : K.length ≤ K1.length := by have := g2.len; simp at this; omega
    obtain ⟨a1, ok1, hr1⟩ := g2.rd.any
    have hc := hr1.cell
    have hcc : hcells K1 rb = some [lv, i64 a1, .bool ok1] := by rw [hcells_eq, hc]; rfl
    have hll : Vi.hlen K1 rb = some 3 := by unfold Vi.hlen; rw [hc]; rfl
    have hidx : idxS l s < 256 := by
      unfold idxS
      split
      · rename_i hs; have := List.idxOf_lt_length_of_mem hs; omega
      · omega
    have hw : IntKind.u8.wrap (idxS l s : Int) = idxS l s := wrap_u8 (by omega) (by omega)
    have fin : ∀ is : Bool, (is = true ↔ s ∈ l) → Adv H K (K1.set rb (rdo lv a1 (ok1 && is))) rb lv ts (st.bind (oneO ts k l)) := by
      intro is his
      refine ⟨?_, hfr _ _, by simpa using hlen⟩
      cases st with
      | none =>
        obtain ⟨a2, hr2⟩ := g2.rd
        have e := hr1.cell.symm.trans hr2.cell
        simp only [rdo, Option.some.injEq, AObj.cells.injEq, List.cons.injEq, Value.bool.injEq] at e
        obtain ⟨⟨_, _, rfl, _⟩, _⟩ := e
        exact ⟨a1, hr1.put a1 false hr1.le⟩
      | some a =>
        simp only [Option.bind_some, takeO, oneO] at hs g2 ⊢
        cases hk : tokK ts k a with
        | none =>
          simp only [hk, Option.map_none] at g2
          obtain ⟨a2, hr2⟩ := g2.rd
          have e := hr1.cell.symm.trans hr2.cell
          simp only [rdo, Option.some.injEq, AObj.cells.injEq, List.cons.injEq, Value.bool.injEq] at e
          obtain ⟨⟨_, _, rfl, _⟩, _⟩ := e
          exact ⟨a1, hr1.put a1 false hr1.le⟩
        | some s' =>
          simp only [hk, Option.map_some, Option.getD_some] at g2 hs
          subst hs
          have hr2 : RdA H K1 rb lv ts (a + 1) true := g2.rd
          have e := hr1.cell.symm.trans hr2.cell
          simp only [rdo, Option.some.injEq, AObj.cells.injEq, List.cons.injEq, Value.bool.injEq, Value.int.injEq] at e
          obtain ⟨⟨_, ⟨_, e2⟩, rfl, _⟩, _⟩ := e
          obtain rfl : a1 = a + 1 := by omega
          simp only [Option.bind_some]
          by_cases hsl : s' ∈ l
          · rw [if_pos hsl, his.2 hsl]; exact hr2.put (a + 1) true hr2.le
          · rw [if_neg hsl, show is = false by simpa [hsl] using his]; exact ⟨a + 1, hr2.put (a + 1) false hr2.le⟩
    dsimp only
    rcases hlk with ⟨hlk, hsl⟩ | ⟨hlk, hsl⟩
    · rw [hlk]
      have := fin true (by simp [hsl])
      simp only [rdo] at hc this
      simp [mres, hcc, hll, hc, hw]
      simpa using this
    · rw [hlk]
      have := fin false (by simp [hsl])
      simp only [rdo] at hc this
      simp [mres, hcc, hll, hc]
      exact ⟨by rw [show idxS l s = 0 from if_neg hsl]; decide, by simpa using this⟩
  obtain ⟨u, K', ⟨rfl, h⟩, hy⟩ := key
  exact ⟨K', hy, h⟩
/-- What a reader's cells hold, read and written. -/
theorem RdS.cells {H K rb lv ts st} (h : RdS H K rb lv ts st) : ∃ a, K[rb]? = some (.cells [lv, i64 (a : Nat), .bool st.isSome] 81) ∧ a ≤ ts.length ∧ (∀ a', st = some a' → a = a') ∧ ∀ ok', Adv H K (K.set rb (.cells [lv, i64 a, .bool ok'] 81)) rb lv ts (if ok' = true then some a else none) := by
  cases st with
  | some a =>
    have h : RdA H K rb lv ts a true := h
    refine ⟨a, h.cell, h.le, fun a' e => by cases e; rfl, fun ok' => ?_⟩
    cases ok' with
    | true => exact .setT h a h.le
    | false => exact .setF h a h.le
  | none =>
    obtain ⟨a, h⟩ := h
    refine ⟨a, h.cell, h.le, fun a' e => (by cases e), fun ok' => ?_⟩
    cases ok' with
    | true => exact .setT h a h.le
    | false => exact .setF h a h.le
end Go.Vi
namespace Go.Vi
open Go Go.Proofs

/-- Tokens of numbers: digits, and points behind the first one. -/
def NumTok (ts : List Tok) : Prop := ∀ (a : Nat) t, ts[a]? = some t → t.text.length < 2 ^ 20 ∧ (t.kind = 2 → (∀ b ∈ t.text, isDig b = true ∨ b = 46) ∧ ∀ b r, t.text = b :: r → isDig b = true)
def winO (ts : List Tok) (a : Nat) : Option (Int × Nat) := (tokK ts 2 a).bind fun s => (atoF s).bind fun n => if 1 ≤ n ∧ n ≤ 1000 then some (n, a + 1) else none
theorem tokK_ok {ts : List Tok} {k : Int} {a : Nat} {s : List UInt8} (h : tokK ts k a = some s) : ∃ t, ts[a]? = some t ∧ t.kind = k ∧ t.text = s := by
  unfold tokK at h
  cases ht : ts[a]? with
  | none => simp [ht] at h
  | some t =>
    simp only [ht, Option.bind_some] at h
    split at h
    · cases h; exact ⟨t, rfl, ‹_›, rfl⟩
    · cases h
theorem aBin_ifnil {P : Program} {H : AHeap} {T t : TypeId} {x y : Operand} {p : Addr} {ms} (h : P.underlying T = some (.interface ms)) : aBin2 P H .eql T x y (.iface t (.pointer (some p))) .nilIface = some (.bool false) := by
  apply aBin2_of
  simp [aBin, clos, isLit, notNil, h]
theorem g_window {H K rb lv ts st} (hg : Pre Gs H) (hn : NumTok ts) (h : RdS H K rb lv ts st) :
    ∃ n K', ACalls Tryz.prog 107 [rP rb] K (i64 n) K' ∧ Adv H K K' rb lv ts ((st.bind (winO ts)).map (·.2)) ∧ ∀ p, st.bind (winO ts) = some p → p.1 = n := by
  have key : ∃ u K', (∃ n, u = i64 n ∧ Adv H K K' rb lv ts ((st.bind (winO ts)).map (·.2)) ∧ ∀ p, st.bind (winO ts) = some p → p.1 = n) ∧ ACalls Tryz.prog 107 [rP rb] K u K' := by
    refine acalls_ex MixT Tryz.func107 (by decide) ?_
    rw [d107]
    obtain ⟨K1, g1, g2⟩ := g_take h 2
    refine bndC_of g1 ?_
    have hu := tu118
    have hsx : ((st.bind (tokK ts 2)).getD []).length < 2 ^ 20 ∧ (∀ b ∈ (st.bind (tokK ts 2)).getD [], isDig b = true ∨ b = 46) ∧ ∀ b r, (st.bind (tokK ts 2)).getD [] = b :: r → isDig b = true := by
      cases hq : st.bind (tokK ts 2) with
      | none => simp
      | some s =>
        obtain ⟨a, _, ha⟩ := Option.bind_eq_some_iff.1 hq
        obtain ⟨t, t1, t2, rfl⟩ := tokK_ok ha
        have := hn a t t1
        exact ⟨this.1, (this.2 t2).1, (this.2 t2).2⟩
    obtain ⟨x, e, K2, hx, hp, hcall⟩ := c_atoiG (hg.trans g2.rd.pre) (by have := hsx.1; omega) hsx.2.2 hsx.2.1
    refine bndC_of hcall ?_
    have hadv : Adv H K K2 rb lv ts (st.bind (takeO ts 2)) := by obtain ⟨X, rfl⟩ := hp; exact g2.app X
    obtain ⟨a1, c1, c2, c3, c4⟩ := RdS.cells hadv.rd
    have hcc : hcells K2 rb = some [lv, i64 a1, .bool (st.bind (takeO ts 2)).isSome] := by rw [hcells_eq, c1]; rfl
    have hll : Vi.hlen K2 rb = some 3 := by unfold Vi.hlen; rw [c1]; rfl
    have hfin : ∀ (is : Bool), ((st.bind (takeO ts 2)).isSome && is) = (st.bind (winO ts)).isSome → Adv H K (K2.set rb (.cells [lv, i64 a1, .bool ((st.bind (takeO ts 2)).isSome && is)] 81)) rb lv ts ((st.bind (winO ts)).map (·.2)) := by
      intro is his
      have := hadv.trans (c4 ((st.bind (takeO ts 2)).isSome && is))
      rw [his] at this ⊢
      cases hw : st.bind (winO ts) with
      | none => simpa [hw] using this
      | some p =>
        simp only [hw, Option.isSome_some, if_true, Option.map_some] at this ⊢
        obtain ⟨a, rfl, ha⟩ := Option.bind_eq_some_iff.1 hw
        have : a1 = p.2 := by
          unfold winO at ha
          obtain ⟨s, h1, h2⟩ := Option.bind_eq_some_iff.1 ha
          obtain ⟨n, h3, h4⟩ := Option.bind_eq_some_iff.1 h2
          split at h4
          · cases h4
            exact c3 _ (by simp [takeO, h1])
          · cases h4
        rwa [← this]
    have hwin : ∀ p, st.bind (winO ts) = some p → (st.bind (takeO ts 2)).isSome = true ∧ atoF ((st.bind (tokK ts 2)).getD []) = some p.1 ∧ 1 ≤ p.1 ∧ p.1 ≤ 1000 := by
      intro p hp
      obtain ⟨a, rfl, ha⟩ := Option.bind_eq_some_iff.1 hp
      unfold winO at ha
      obtain ⟨s, h1, h2⟩ := Option.bind_eq_some_iff.1 ha
      obtain ⟨n, h3, h4⟩ := Option.bind_eq_some_iff.1 h2
      split at h4
      · rename_i hc; cases h4; exact ⟨by simp [takeO, h1], by simp [h1, h3], hc.1, hc.2⟩
      · cases h4
    have hback : ∀ n, (st.bind (takeO ts 2)).isSome = true → atoF ((st.bind (tokK ts 2)).getD []) = some n → 1 ≤ n → n ≤ 1000 → (st.bind (winO ts)).isSome = true := by
      intro n h1 h2 h3 h4
      obtain ⟨b, hb⟩ := Option.isSome_iff_exists.1 h1
      obtain ⟨a, rfl, ha⟩ := Option.bind_eq_some_iff.1 hb
      unfold takeO at ha
      obtain ⟨s, hs, _⟩ := Option.map_eq_some_iff.1 ha
      simp only [Option.bind_some, hs, Option.getD_some] at h2
      simp [winO, hs, h2, h3, h4]
    have hpn : ∀ n, (∀ p, st.bind (winO ts) = some p → p.1 = n) ↔ (∀ p, st.bind (winO ts) = some p → p.1 = n) := fun _ => Iff.rfl
    generalize hb0 : (st.bind (takeO ts 2)).isSome = b0 at hcc c1 hfin hwin hback
    cases b0 with
    | false =>
      have hno : (st.bind (winO ts)).isSome = false := by
        cases hq : st.bind (winO ts) with
        | none => rfl
        | some p => exact absurd (hwin p hq).1 (by simp)
      have hf := hfin false (by simp [hno])
      have hq : ∀ p, st.bind (winO ts) = some p → p.1 = x := fun p hp => absurd (hwin p hp).1 (by simp)
      simp [hcc, hll, c1]
      exact ⟨by simpa using hf, by simpa using hq⟩
    | true =>
      rcases hx with ⟨n, h1, rfl, rfl⟩ | ⟨h1, t, p, rfl⟩
      · have hf := hfin (decide (1 ≤ x) && decide (x ≤ 1000)) (by
          cases hq : st.bind (winO ts) with
          | none =>
            cases hd : (decide (1 ≤ x) && decide (x ≤ 1000)) with
            | false => rfl
            | true =>
              simp only [Bool.and_eq_true, decide_eq_true_eq] at hd
              have := hback x rfl h1 hd.1 hd.2
              rw [hq] at this; cases this
          | some p =>
            have := hwin p hq
            rw [h1] at this
            obtain ⟨_, e, h3, h4⟩ := this
            cases e
            simp [h3, h4])
        have hq : ∀ p, st.bind (winO ts) = some p → p.1 = x := fun p hp => by
          have := (hwin p hp).2.1
          rw [h1] at this; cases this; rfl
        simp +contextual [hcc, hll, c1, aBin_nilif hu]
        exact ⟨by simpa using hf, by simpa using hq⟩
      · have hno : (st.bind (winO ts)).isSome = false := by
          cases hq : st.bind (winO ts) with
          | none => rfl
          | some p => have := (hwin p hq).2.1; rw [h1] at this; cases this
        have hf := hfin false (by simp [hno])
        have hq : ∀ p, st.bind (winO ts) = some p → p.1 = x := fun p hp => by
          rw [hp] at hno; cases hno
        simp [hcc, hll, c1, aBin_ifnil hu]
        exact ⟨by simpa using hf, by simpa using hq⟩
  obtain ⟨u, K', ⟨n, rfl, h⟩, hy⟩ := key
  exact ⟨n, K', hy, h⟩
/-- A step that stores whether all is well still. -/
theorem Adv.fin {H K K2 rb lv ts stT} (h : Adv H K K2 rb lv ts stT) : ∃ a1 : Nat, K2[rb]? = some (.cells [lv, i64 a1, .bool stT.isSome] 81) ∧ hcells K2 rb = some [lv, i64 a1, .bool stT.isSome] ∧ hlen K2 rb = some 3 ∧
    ∀ (stW : Option Nat) (is : Bool), (stT.isSome && is) = stW.isSome → (∀ a', stW = some a' → stT = some a') → Adv H K (K2.set rb (.cells [lv, i64 a1, .bool (stT.isSome && is)] 81)) rb lv ts stW := by
  obtain ⟨a1, c1, c2, c3, c4⟩ := RdS.cells h.rd
  refine ⟨a1, c1, by rw [hcells_eq, c1]; rfl, by unfold Vi.hlen; rw [c1]; rfl, fun stW is his hw => ?_⟩
  have := h.trans (c4 (stT.isSome && is))
  rw [his] at this ⊢
  cases stW with
  | none => simpa using this
  | some a' =>
    have e := c3 a' (hw a' rfl)
    subst e
    simpa using this
def valP (ts : List Tok) (a : Nat) : List UInt8 := if isT ts a 4 [45] = true then [45] else []
def valO (ts : List Tok) (a : Nat) : Option (Int × Nat) := (tokK ts 2 (takO ts 4 [45] a)).bind fun s => if (parF (valP ts a ++ s)).2 = 0 then some ((parF (valP ts a ++ s)).1, takO ts 4 [45] a + 1) else none
theorem g_value {H K rb lv ts st} (hn : NumTok ts) (h : RdS H K rb lv ts st) :
    ∃ n K', ACalls Tryz.prog 108 [rP rb] K (i64 n) K' ∧ Adv H K K' rb lv ts ((st.bind (valO ts)).map (·.2)) ∧ ∀ p, st.bind (valO ts) = some p → p.1 = n := by
  have key : ∃ u K', (∃ n, u = i64 n ∧ Adv H K K' rb lv ts ((st.bind (valO ts)).map (·.2)) ∧ ∀ p, st.bind (valO ts) = some p → p.1 = n) ∧ ACalls Tryz.prog 108 [rP rb] K u K' := by
    refine acalls_ex MixT Tryz.func108 (by decide) ?_
    rw [d108]
    obtain ⟨K1, g1, g2⟩ := g_takes h 4 [45]
    refine bndC_of g1 ?_
    have tail : ∀ (pre : List UInt8), pre.length ≤ 1 → (∀ a, st = some a → pre = valP ts a) → ∀ (s1 s2 s4 s5 s6 s7 s8 s9 s10 s11 s12 s13 s14 s15 s16 s17 s18 s19 s20 s21 s22 s23 s24 s25 s26 s27 : Value),
        S108x0 (fun u K' => ∃ n, u = i64 n ∧ Adv H K K' rb lv ts ((st.bind (valO ts)).map (·.2)) ∧ ∀ p, st.bind (valO ts) = some p → p.1 = n) [rP rb, s1, s2, str pre, s4, s5, s6, s7, s8, s9, s10, s11, s12, s13, s14, s15, s16, s17, s18, s19, s20, s21, s22, s23, s24, s25, s26, s27] K1 := by
      intro pre hp1 hpre s1 s2 s4 s5 s6 s7 s8 s9 s10 s11 s12 s13 s14 s15 s16 s17 s18 s19 s20 s21 s22 s23 s24 s25 s26 s27
      rw [S108x0q]
      obtain ⟨K2, q1, q2⟩ := g_take g2.rd 2
      refine bndC_of q1 ?_
      have hlen : (((st.map (takO ts 4 [45])).bind (tokK ts 2)).getD []).length < 2 ^ 20 := by
        cases hq : (st.map (takO ts 4 [45])).bind (tokK ts 2) with
        | none => simp
        | some s =>
          obtain ⟨a, _, ha⟩ := Option.bind_eq_some_iff.1 hq
          obtain ⟨t, t1, t2, rfl⟩ := tokK_ok ha
          exact (hn a t t1).1
      have e1 := fun H X Y => aBin_str (P := Tryz.prog) (H := H) (T := 9) (x := X) (y := Y) (a := pre) (b := ((st.map (takO ts 4 [45])).bind (tokK ts 2)).getD []) (by omega)
      simp only [e1, bnd_some]
      refine bndC_of (c_fixParse (by simp; omega)) ?_
      obtain ⟨a1, c1, hcc, hll, hfin⟩ := (g2.trans q2).fin
      generalize hs : ((st.map (takO ts 4 [45])).bind (tokK ts 2)).getD [] = s at *
      have hval : ∀ p, st.bind (valO ts) = some p → p.1 = (parF (pre ++ s)).1 ∧ (parF (pre ++ s)).2 = 0 ∧ (st.map (takO ts 4 [45])).bind (takeO ts 2) = some p.2 := by
        intro p hp
        obtain ⟨a, rfl, ha⟩ := Option.bind_eq_some_iff.1 hp
        unfold valO at ha
        obtain ⟨s', h1, h2⟩ := Option.bind_eq_some_iff.1 ha
        rw [hpre a rfl]
        simp only [Option.map_some, Option.bind_some, h1, Option.getD_some] at hs
        subst hs
        split at h2
        · rename_i h0; cases h2; exact ⟨rfl, h0, by simp [takeO, h1]⟩
        · cases h2
      have hback : ((st.map (takO ts 4 [45])).bind (takeO ts 2)).isSome = true → (parF (pre ++ s)).2 = 0 → (st.bind (valO ts)).isSome = true := by
        intro h1 h2
        obtain ⟨b, hb⟩ := Option.isSome_iff_exists.1 h1
        obtain ⟨a', ha', hb'⟩ := Option.bind_eq_some_iff.1 hb
        obtain ⟨a, rfl, rfl⟩ := Option.map_eq_some_iff.1 ha'
        unfold takeO at hb'
        obtain ⟨s', hs', _⟩ := Option.map_eq_some_iff.1 hb'
        simp only [Option.map_some, Option.bind_some, hs', Option.getD_some] at hs
        subst hs
        rw [hpre a rfl] at h2
        simp [valO, hs', h2]
      have hq : ∀ p, st.bind (valO ts) = some p → p.1 = (parF (pre ++ s)).1 := fun p hp => (hval p hp).1
      have hf := hfin ((st.bind (valO ts)).map (·.2)) ((parF (pre ++ s)).2 == 0) (by
        cases hv : st.bind (valO ts) with
        | some p => obtain ⟨_, e2, e3⟩ := hval p hv; simp [e2, e3]
        | none =>
          cases h1 : ((st.map (takO ts 4 [45])).bind (takeO ts 2)).isSome with
          | false => rfl
          | true =>
            by_cases h2 : (parF (pre ++ s)).2 = 0
            · have := hback h1 h2; rw [hv] at this; cases this
            · simp [h2]) (by
        intro a' ha'
        obtain ⟨p, hp, rfl⟩ := Option.map_eq_some_iff.1 ha'
        exact (hval p hp).2.2)
      generalize ((st.map (takO ts 4 [45])).bind (takeO ts 2)).isSome = b0 at *
      cases b0 with
      | false =>
        simp [hcc, hll, c1]
        exact ⟨by simpa using hf, by simpa using hq⟩
      | true =>
        simp [hcc, hll, c1]
        exact ⟨by simpa using hf, by simpa using hq⟩
    refine kifB_bool (fun hb => ?_) (fun hb => ?_)
    · refine tail [45] (by simp) (fun a ha => ?_) _ _ _ _ _ _ _ _ _ _ _ _ _ _ _ _ _ _ _ _ _ _ _ _ _ _
      rw [ha] at hb
      simp at hb
      simp [valP, hb]
    · refine tail [] (by simp) (fun a ha => ?_) _ _ _ _ _ _ _ _ _ _ _ _ _ _ _ _ _ _ _ _ _ _ _ _ _ _
      rw [ha] at hb
      simp at hb
      simp [valP, hb]
  obtain ⟨u, K', ⟨n, rfl, h⟩, hy⟩ := key
  exact ⟨n, K', hy, h⟩
end Go.Vi
namespace Go.Vi
open Go Go.Proofs

def opsL : List (List UInt8) := [[61], [33, 61], [94, 61]]
theorem c_ops (H : AHeap) : ACalls Tryz.prog 128 [] H (.slice (some ⟨H.length, 0, some 3⟩) 3 3) (H ++ [.cells (opsL.map str) 9]) := by
  refine acalls_of MixT Tryz.func128 (by decide) ?_
  rw [d128]
  exact bndL_of (by decide) (by kernel_rfl) ⟨rfl, rfl⟩
theorem mael1 : aElem Tryz.prog 35 = some (75, 3, 40) := by kernel_rfl
theorem mael2 : isSeq Tryz.prog 35 = true := by kernel_rfl
theorem mat_lit {K : AHeap} (m : Mat) : sliceLit Tryz.prog K 35 1 [(0, .agg m.cells.toArray)] (.slice (some ⟨K.length, 0, some 3⟩) 1 1) (K ++ [.cells m.cells 75]) :=
  sliceLitA (c := m.cells) (tbs35 K 1 _) (by rfl) (by simp [Mat.cells]) (by simp)
def matO (ts : List Tok) (a : Nat) : Option (Mat × Nat) := (tokK ts 1 a).bind fun n => (tokK ts 4 (a + 1)).bind fun o => if o ∈ opsL then (tokK ts 3 (a + 2)).bind fun v => some (⟨n, idxS opsL o, v⟩, a + 3) else none
def selL (ts : List Tok) : Nat → Nat → List Mat → Option (List Mat × Nat)
  | 0, _, _ => none
  | f + 1, a, acc => (matO ts a).bind fun p => if isT ts p.2 4 [44] = true then selL ts f (p.2 + 1) (acc ++ [p.1]) else some (acc ++ [p.1], p.2)
/-- Behind the matchers. -/
def selE (ts : List Tok) (ms : List Mat) (a : Nat) : Option Nat := (signO ts [125] a).bind fun c => if mayMats ms = true then some c else none
def selO (ts : List Tok) (a : Nat) : Option (List Mat × Nat) := (signO ts [123] a).bind fun a1 =>
  if isT ts a1 4 [125] = true then some ([], a1 + 1) else (selL ts (ts.length + 1) a1 []).bind fun p => (selE ts p.1 p.2).map fun c => (p.1, c)
theorem sel_end {H K0 K rb lv ts st lo} {mv : Value} {ms : List Mat} {more : Bool} {k : Value → AHeap → Prop} (h : Adv H K0 K rb lv ts st) (hg : Gro K lo 3 75 mv (ms.map Mat.cells)) (hrb : rb < lo) (hml : ms.length < 2 ^ 62) (hm : (more && st.isSome) = false)
    (hk : ∀ K', Adv H K0 K' rb lv ts (st.bind (selE ts ms)) → Gro K' lo 3 75 mv (ms.map Mat.cells) → k mv K') (n : Nat) (s1 s2 s5 s6 s7 s8 s9 s10 s11 s12 s13 s14 s15 s16 s17 s18 s19 s20 s21 s22 s23 s24 s25 s26 s27 s28 s29 s30 s31 s32 s33 s34 s35 s36 s37 s38 s39 s40 s41 s42 : Value) :
    L106x0 (n + 1) k [rP rb, s1, s2, mv, .bool more, s5, s6, s7, s8, s9, s10, s11, s12, s13, s14, s15, s16, s17, s18, s19, s20, s21, s22, s23, s24, s25, s26, s27, s28, s29, s30, s31, s32, s33, s34, s35, s36, s37, s38, s39, s40, s41, s42] K := by
  rw [L106x0q]
  obtain ⟨a0, c0, hcc0, hll0, _⟩ := h.fin
  obtain ⟨K1, g1, g2⟩ := g_sign h.rd [125]
  have h2 := h.trans g2
  have hg1 : Gro K1 lo 3 75 mv (ms.map Mat.cells) := hg.frm fun b o hb ho => g2.fr b o (by omega) ho
  obtain ⟨a1, c1, hcc, hll, hfin⟩ := h2.fin
  have rest : bndC Tryz.prog 69 [rP rb, str [125]] K (q := ⟨fun _ _ => True⟩) := bndC_of g1 trivial
  have hmm : MatsAt K1 mv ms := hg1.arr
  have hf := hfin (st.bind (selE ts ms)) (mayMats ms) (by
    cases st with
    | none => rfl
    | some a =>
      simp only [Option.bind_some, selE]
      cases signO ts [125] a with
      | none => rfl
      | some c => cases mayMats ms <;> simp) (by
    intro a' ha'
    cases st with
    | none => cases ha'
    | some a =>
      simp only [Option.bind_some, selE] at ha' ⊢
      cases hs : signO ts [125] a with
      | none => simp [hs] at ha'
      | some c =>
        simp only [hs, Option.bind_some] at ha'
        split at ha'
        · exact ha'
        · cases ha')
  have hfg : ∀ ok', Gro (K1.set rb (.cells [lv, i64 a1, .bool ok'] 81)) lo 3 75 mv (ms.map Mat.cells) := fun ok' => hg1.set (by omega)
  clear rest
  generalize (st.bind (signO ts [125])).isSome = b0 at *
  have go : ∀ (q : QH), (∀ v, q.f v K1) → @bndC Tryz.prog 69 [rP rb, str [125]] K q := fun q hq => bndC_of g1 (hq _)
  have tail : ∀ (kk : Value → AHeap → Prop), kk = k → (kk mv (K1.set rb (.cells [lv, i64 a1, .bool (b0 && mayMats ms)] 81))) := fun kk e => by rw [e]; exact hk _ hf (hfg _)
  cases more with
  | false =>
    simp
    refine bndC_of g1 ?_
    cases b0 with
    | false => simp [hcc, hll, c1]; simpa using tail k rfl
    | true =>
      simp [hcc, hll]
      refine bndG_call (.bool (mayMats ms)) (fun _ => c_matchMay hmm (by omega)) ?_
      simp [hll, c1]
      simpa using tail k rfl
  | true =>
    have hst : st.isSome = false := by simpa using hm
    rw [hst] at hcc0 c0
    simp [hcc0, hll0]
    refine bndC_of g1 ?_
    cases b0 with
    | false => simp [hcc, hll, c1]; simpa using tail k rfl
    | true =>
      simp [hcc, hll]
      refine bndG_call (.bool (mayMats ms)) (fun _ => c_matchMay hmm (by omega)) ?_
      simp [hll, c1]
      simpa using tail k rfl
theorem sel_loop {H K0 rb lv ts lo} {k : Value → AHeap → Prop} (hrb : rb < lo) (hK0 : K0.length ≤ lo) (hH : H.length ≤ lo) : ∀ (f : Nat) (a : Nat) (acc : List Mat) (K : AHeap) (mv : Value), Adv H K0 K rb lv ts (some a) → lo ≤ K.length → Gro K lo 3 75 mv (acc.map Mat.cells) → ts.length < f + a → acc.length + f ≤ 2 ^ 41 →
    (∀ sv ms K', Adv H K0 K' rb lv ts ((selL ts f a acc).bind fun p => selE ts p.1 p.2) → Gro K' lo 3 75 sv (ms.map Mat.cells) → (∀ p, selL ts f a acc = some p → p.1 = ms) → ms.length ≤ 2 ^ 41 → k sv K') →
    ∃ n, ∀ (s1 s2 s5 s6 s7 s8 s9 s10 s11 s12 s13 s14 s15 s16 s17 s18 s19 s20 s21 s22 s23 s24 s25 s26 s27 s28 s29 s30 s31 s32 s33 s34 s35 s36 s37 s38 s39 s40 s41 s42 : Value), L106x0 n k [rP rb, s1, s2, mv, .bool true, s5, s6, s7, s8, s9, s10, s11, s12, s13, s14, s15, s16, s17, s18, s19, s20, s21, s22, s23, s24, s25, s26, s27, s28, s29, s30, s31, s32, s33, s34, s35, s36, s37, s38, s39, s40, s41, s42] K := by
  intro f
  induction f with
  | zero => intro a acc K mv h _ _ hf _ _; have := h.rd.le; omega
  | succ f ih =>
    intro a acc K mv h hlo hg hf hacc hk
    obtain ⟨a0, c0, hcc0, hll0, _⟩ := h.fin
    obtain ⟨K1, g1, g2⟩ := g_take h.rd 1
    have hops := c_ops K1
    have v2 := g2.app [.cells (opsL.map str) 9]
    have harr : Arr (K1 ++ [.cells (opsL.map str) 9]) 1 (.slice (some ⟨K1.length, 0, some 3⟩) 3 3) (strCells opsL) := arr_strs opsL 9 3 rfl
    obtain ⟨K3, p1, p2⟩ := g_one v2.rd 4 harr (by decide) (by decide) (by decide)
    obtain ⟨K4, q1, q2⟩ := g_take p2.rd 3
    have adv4 := ((v2.trans p2).trans q2)
    have hst : (((some a).bind (takeO ts 1)).bind (oneO ts 4 opsL)).bind (takeO ts 3) = (matO ts a).map (·.2) ∧ (∀ p, matO ts a = some p → p.1 = ⟨((some a).bind (tokK ts 1)).getD [], idxS opsL ((((some a).bind (takeO ts 1)).bind (tokK ts 4)).getD []), ((((some a).bind (takeO ts 1)).bind (oneO ts 4 opsL)).bind (tokK ts 3)).getD []⟩) := by
      unfold matO takeO oneO
      simp only [Option.bind_some]
      cases tokK ts 1 a with
      | none => simp
      | some n =>
        simp only [Option.map_some, Option.bind_some]
        cases tokK ts 4 (a + 1) with
        | none => simp
        | some o =>
          simp only [Option.bind_some]
          by_cases ho : o ∈ opsL
          · simp only [if_pos ho, Option.bind_some]
            cases tokK ts 3 (a + 1 + 1) with
            | none => simp
            | some v => simp
          · simp [if_neg ho]
    generalize ((some a).bind (tokK ts 1)).getD [] = t1 at *
    generalize (((some a).bind (takeO ts 1)).bind (tokK ts 4)).getD [] = t2 at *
    generalize ((((some a).bind (takeO ts 1)).bind (oneO ts 4 opsL)).bind (tokK ts 3)).getD [] = t3 at *
    rw [hst.1] at q2 adv4
    have hm := hst.2
    obtain ⟨v', K5, r1, r2, r3, r4, r5⟩ := Gro.push (P := Tryz.prog) (Ts := 35) (by_ := 40) (x := .slice (some ⟨K4.length, 0, some 3⟩) 1 1) (c := Mat.cells ⟨t1, idxS opsL t2, t3⟩)
      ((hg.frm fun b o hb ho => adv4.fr b o (by omega) ho).app (X := [.cells (Mat.cells ⟨t1, idxS opsL t2, t3⟩) 75])) mael1 mael2 rfl (by have := adv4.len; simp; omega) (by simp [aSrc, Mat.cells]) (by simp; omega) (by simp; omega)
    have a0' := (h.trans adv4).app [.cells (Mat.cells ⟨t1, idxS opsL t2, t3⟩) 75]
    have adv5 : Adv H K0 K5 rb lv ts ((matO ts a).map (·.2)) :=
      ⟨a0'.rd.frame (r5 H a0'.rd.pre hH) fun o ho => r3 rb o hrb ho, fun b o hb ho => r3 b o (by have := (List.getElem?_eq_some_iff.1 ho).1; omega) (a0'.fr b o hb ho), by have := a0'.len; omega⟩
    obtain ⟨K6, u1, u2⟩ := g_takes adv5.rd 4 [44]
    have adv6 := adv5.trans u2
    have r6 := r2.frm (K' := K6) fun b o hb ho => u2.fr b o (by omega) ho
    have hlo6 : lo ≤ K6.length := by have := u2.len; have := adv4.len; simp at r4; omega
    rw [show acc.map Mat.cells ++ [Mat.cells ⟨t1, idxS opsL t2, t3⟩] = (acc ++ [(⟨t1, idxS opsL t2, t3⟩ : Mat)]).map Mat.cells by simp] at r2 r6
    have next : ∃ n, ∀ (s1 s2 s5 s6 s7 s8 s9 s10 s11 s12 s13 s14 s15 s16 s17 s18 s19 s20 s21 s22 s23 s24 s25 s26 s27 s28 s29 s30 s31 s32 s33 s34 s35 s36 s37 s38 s39 s40 s41 s42 : Value), L106x0 n k [rP rb, s1, s2, v', .bool (((matO ts a).map (·.2)).any fun a => isT ts a 4 [44]), s5, s6, s7, s8, s9, s10, s11, s12, s13, s14, s15, s16, s17, s18, s19, s20, s21, s22, s23, s24, s25, s26, s27, s28, s29, s30, s31, s32, s33, s34, s35, s36, s37, s38, s39, s40, s41, s42] K6 := by
      cases hmo : matO ts a with
      | none =>
        simp only [hmo, Option.map_none, Option.any_none] at adv6 ⊢
        refine ⟨1, fun s1 s2 s5 s6 s7 s8 s9 s10 s11 s12 s13 s14 s15 s16 s17 s18 s19 s20 s21 s22 s23 s24 s25 s26 s27 s28 s29 s30 s31 s32 s33 s34 s35 s36 s37 s38 s39 s40 s41 s42 => sel_end adv6 r6 hrb (by simp; omega) rfl (fun K' e1 e2 => ?_) 0 _ _ _ _ _ _ _ _ _ _ _ _ _ _ _ _ _ _ _ _ _ _ _ _ _ _ _ _ _ _ _ _ _ _ _ _ _ _ _ _⟩
        refine hk _ _ K' ?_ e2 ?_ (by simp; omega)
        · simpa [selL, hmo] using e1
        · intro p hp; simp [selL, hmo] at hp
      | some mc =>
        obtain ⟨m, c⟩ := mc
        obtain rfl := hm _ hmo
        simp only [hmo, Option.map_some, Option.any_some, takO] at adv6 ⊢
        cases hcm : isT ts c 4 [44] with
        | true =>
          simp only [hcm, if_true] at adv6
          have hca : a + 3 = c := by
            unfold matO at hmo
            obtain ⟨_, _, h2⟩ := Option.bind_eq_some_iff.1 hmo
            obtain ⟨_, _, h3⟩ := Option.bind_eq_some_iff.1 h2
            split at h3
            · obtain ⟨_, _, h4⟩ := Option.bind_eq_some_iff.1 h3; exact congrArg Prod.snd (Option.some.inj h4)
            · cases h3
          refine ih (c + 1) _ K6 v' adv6 hlo6 r6 (by omega) (by simp; omega) fun sv ms K' e1 e2 e3 e4 => hk sv ms K' ?_ e2 ?_ e4
          · simpa [selL, hmo, hcm] using e1
          · intro p hp; exact e3 p (by simpa [selL, hmo, hcm] using hp)
        | false =>
          simp only [hcm, Bool.false_eq_true, if_false] at adv6
          refine ⟨1, fun s1 s2 s5 s6 s7 s8 s9 s10 s11 s12 s13 s14 s15 s16 s17 s18 s19 s20 s21 s22 s23 s24 s25 s26 s27 s28 s29 s30 s31 s32 s33 s34 s35 s36 s37 s38 s39 s40 s41 s42 => sel_end adv6 r6 hrb (by simp; omega) rfl (fun K' e1 e2 => ?_) 0 _ _ _ _ _ _ _ _ _ _ _ _ _ _ _ _ _ _ _ _ _ _ _ _ _ _ _ _ _ _ _ _ _ _ _ _ _ _ _ _⟩
          refine hk _ _ K' ?_ e2 ?_ (by simp; omega)
          · simpa [selL, hmo, hcm] using e1
          · intro p hp
            simp [selL, hmo, hcm] at hp
            rw [← hp]
    obtain ⟨n, hn⟩ := next
    refine ⟨n + 1, fun s1 s2 s5 s6 s7 s8 s9 s10 s11 s12 s13 s14 s15 s16 s17 s18 s19 s20 s21 s22 s23 s24 s25 s26 s27 s28 s29 s30 s31 s32 s33 s34 s35 s36 s37 s38 s39 s40 s41 s42 => ?_⟩
    rw [L106x0q]
    simp [hcc0, hll0]
    refine bndC_of g1 ?_
    refine bndC_of hops ?_
    refine bndC_of p1 ?_
    refine bndC_of q1 ?_
    have hlit := mat_lit (K := K4) ⟨t1, idxS opsL t2, t3⟩
    simp only [Mat.cells] at hlit r1
    simp
    refine bndL_lit hlit ?_
    dsimp only
    rw [r1]
    simp only [bndE_some]
    refine bndC_of u1 ?_
    exact hn _ _ _ _ _ _ _ _ _ _ _ _ _ _ _ _ _ _ _ _ _ _ _ _ _ _ _ _ _ _ _ _ _ _ _ _ _ _ _ _
theorem g_selects {H K rb lv ts st} (h : RdS H K rb lv ts st) :
    ∃ sv ms K', ACalls Tryz.prog 106 [rP rb] K sv K' ∧ Adv H K K' rb lv ts ((st.bind (selO ts)).map (·.2)) ∧ Gro K' K.length 3 75 sv (ms.map Mat.cells) ∧ (∀ p, st.bind (selO ts) = some p → p.1 = ms) ∧ ms.length ≤ 2 ^ 41 := by
  have key : ∃ sv K', (∃ ms, Adv H K K' rb lv ts ((st.bind (selO ts)).map (·.2)) ∧ Gro K' K.length 3 75 sv (ms.map Mat.cells) ∧ (∀ p, st.bind (selO ts) = some p → p.1 = ms) ∧ ms.length ≤ 2 ^ 41) ∧ ACalls Tryz.prog 106 [rP rb] K sv K' := by
    refine acalls_ex MixT Tryz.func106 (by decide) ?_
    rw [d106]
    obtain ⟨K1, g1, g2⟩ := g_sign h [123]
    refine bndC_of g1 ?_
    obtain ⟨K2, p1, p2⟩ := g_takes g2.rd 4 [125]
    refine bndC_of p1 ?_
    have adv := g2.trans p2
    have hrb := h.lt
    have hlen := h.len
    have hH : H.length ≤ K.length := by obtain ⟨X, hX⟩ := h.pre; rw [hX]; simp
    refine kifB_bool (fun hb => ?_) (fun hb => ?_)
    · cases st with
      | none => cases hb
      | some a =>
        simp only [Option.bind_some] at hb adv ⊢
        cases hs : signO ts [123] a with
        | none => simp [hs] at hb
        | some a1 =>
          simp only [hs, Option.any_some, Option.map_some, takO] at hb adv
          rw [hb, if_pos rfl] at adv
          exact ⟨[], by simpa [selO, hs, hb] using adv, .nil, by simp [selO, hs, hb], by simp⟩
    · cases hs : st.bind (signO ts [123]) with
      | none =>
        rw [hs] at adv
        have hno : st.bind (selO ts) = none := by
          cases st with
          | none => rfl
          | some a => simp only [Option.bind_some] at hs ⊢; simp [selO, hs]
        refine ⟨1, sel_end (ms := []) (lo := K.length) adv .nil hrb (by simp) (by simp) (fun K' e1 e2 => ?_) 0 _ _ _ _ _ _ _ _ _ _ _ _ _ _ _ _ _ _ _ _ _ _ _ _ _ _ _ _ _ _ _ _ _ _ _ _ _ _ _ _⟩
        exact ⟨[], by simpa [hno] using e1, e2, by simp [hno], by simp⟩
      | some a1 =>
        rw [hs] at adv hb
        simp only [Option.any_some] at hb
        simp only [Option.map_some, takO, hb, Bool.false_eq_true, if_false] at adv
        obtain ⟨a, rfl, ha⟩ := Option.bind_eq_some_iff.1 hs
        have hso : selO ts a = (selL ts (ts.length + 1) a1 []).bind fun p => (selE ts p.1 p.2).map fun c => (p.1, c) := by
          simp [selO, ha, hb]
        obtain ⟨n, hn⟩ := sel_loop (lo := K.length) (k := fun sv K' => ∃ ms, Adv H K K' rb lv ts (((some a).bind (selO ts)).map (·.2)) ∧ Gro K' K.length 3 75 sv (ms.map Mat.cells) ∧ (∀ p, (some a).bind (selO ts) = some p → p.1 = ms) ∧ ms.length ≤ 2 ^ 41) hrb (Nat.le_refl _) hH (ts.length + 1) a1 [] K2 (.slice none 0 0) adv adv.len .nil (by omega) (by simp; omega) (by
          intro sv ms K' e1 e2 e3 e4
          refine ⟨ms, ?_, e2, ?_, e4⟩
          · simp only [Option.bind_some, hso]
            cases hl : selL ts (ts.length + 1) a1 [] with
            | none => simpa [hl] using e1
            | some p =>
              simp only [hl, Option.bind_some] at e1 ⊢
              cases he : selE ts p.1 p.2 with
              | none => simpa [he] using e1
              | some c => simpa [he] using e1
          · intro p hp
            simp only [Option.bind_some, hso] at hp
            obtain ⟨q, h1, h2⟩ := Option.bind_eq_some_iff.1 hp
            obtain ⟨c, _, rfl⟩ := Option.map_eq_some_iff.1 h2
            exact e3 q h1)
        exact ⟨n, hn _ _ _ _ _ _ _ _ _ _ _ _ _ _ _ _ _ _ _ _ _ _ _ _ _ _ _ _ _ _ _ _ _ _ _ _ _ _ _ _⟩
  obtain ⟨sv, K', ⟨ms, h⟩, hy⟩ := key
  exact ⟨sv, ms, K', hy, h⟩
end Go.Vi
namespace Go.Vi
open Go Go.Proofs

/-- A comparison's node while it is read. -/
structure CmpG (H K L : AHeap) (rb : Nat) (lv : Value) (ts : List Tok) (st : Option Nat) (b0 b1 : Nat) (n : List Value) : Prop where
  rd : RdS H L rb lv ts st
  f0 : L[b0]? = some (.cells nodZ 37)
  f1 : L[b1]? = some (.cells n 37)
  fr : ∀ (b : Nat) o, b ≠ rb → K[b]? = some o → L[b]? = some o
  len : K.length ≤ L.length
  hH : H.length ≤ K.length
  k0 : rb < K.length
  k1 : K.length ≤ b0
  k2 : K.length ≤ b1
  k3 : b0 ≠ b1
theorem CmpG.adv {H K L L' rb lv ts st st' b0 b1 n} (h : CmpG H K L rb lv ts st b0 b1 n) (a : Adv H L L' rb lv ts st') : CmpG H K L' rb lv ts st' b0 b1 n :=
  ⟨a.rd, a.fr _ _ (by have := h.k0; have := h.k1; omega) h.f0, a.fr _ _ (by have := h.k0; have := h.k2; omega) h.f1, fun b o hb ho => a.fr b o hb (h.fr b o hb ho), Nat.le_trans h.len a.len, h.hH, h.k0, h.k1, h.k2, h.k3⟩
theorem CmpG.app {H K L rb lv ts st b0 b1 n} (h : CmpG H K L rb lv ts st b0 b1 n) (X : AHeap) : CmpG H K (L ++ X) rb lv ts st b0 b1 n := h.adv ((Adv.refl h.rd).app X)
theorem CmpG.sto {H K L rb lv ts st b0 b1 n} (h : CmpG H K L rb lv ts st b0 b1 n) (n' : List Value) : CmpG H K (L.set b1 (.cells n' 37)) rb lv ts st b0 b1 n' := by
  have h0 := h.hH; have h1 := h.k0; have h2 := h.k1; have h3 := h.k2
  have hb1 := (List.getElem?_eq_some_iff.1 h.f1).1
  refine ⟨h.rd.frame (h.rd.pre.set (by omega)) fun o ho => by rw [List.getElem?_set_ne (by omega)]; exact ho, by rw [List.getElem?_set_ne (Ne.symm h.k3)]; exact h.f0, by rw [List.getElem?_set_self hb1], fun b o hb ho => ?_, by simpa using h.len, h.hH, h.k0, h.k1, h.k2, h.k3⟩
  have hbk := (List.getElem?_eq_some_iff.1 ho).1
  rw [List.getElem?_set_ne (by omega)]
  exact h.fr b o hb ho
theorem CmpG.fin {H K L rb lv ts st b0 b1 n} (h : CmpG H K L rb lv ts st b0 b1 n) (n' : List Value) : Adv H K (L.set b0 (.cells n' 37)) rb lv ts st := by
  have h0 := h.hH; have h1 := h.k0; have h2 := h.k1; have h3 := h.k2
  refine ⟨h.rd.frame (h.rd.pre.set (by omega)) fun o ho => by rw [List.getElem?_set_ne (by omega)]; exact ho, fun b o hb ho => ?_, by simpa using h.len⟩
  have hbk := (List.getElem?_eq_some_iff.1 ho).1
  rw [List.getElem?_set_ne (by omega)]
  exact h.fr b o hb ho
theorem CmpG.hl {H K L rb lv ts st b0 b1 n} (h : CmpG H K L rb lv ts st b0 b1 n) : hlen L b1 = some n.length := by unfold hlen; rw [h.f1]; rfl
theorem CmpG.hc {H K L rb lv ts st b0 b1 n} (h : CmpG H K L rb lv ts st b0 b1 n) : hcells L b1 = some n := by rw [hcells_eq, h.f1]; rfl
def txtK (ts : List Tok) (k : Int) (a : Nat) : List UInt8 := (tokK ts k a).getD []
def cmpO (ts : List Tok) (a : Nat) : Option (Nod × Nat) := (oneO ts 1 aggs a).bind fun b1 => (signO ts [40] b1).bind fun b2 => (selO ts b2).bind fun p => (signO ts [91] p.2).bind fun b3 => (winO ts b3).bind fun w =>
  (signO ts [93] w.2).bind fun b4 => (signO ts [41] b4).bind fun b5 => (oneO ts 4 cmps b5).bind fun b6 => (valO ts b6).bind fun v =>
    some (⟨0, UInt8.ofNat (idxS aggs (txtK ts 1 a)), p.1, w.1, UInt8.ofNat (idxS cmps (txtK ts 4 b5)), v.1, 0, 0⟩, v.2)
theorem cmp_chain {ts : List Tok} {st s2 s3 s4 s5 s7 s8 : Option Nat} {ms : List Mat} {w x : Int} (e2 : s2 = (st.bind (oneO ts 1 aggs)).bind (signO ts [40])) (e3 : s3 = (s2.bind (selO ts)).map (·.2)) (e4 : s4 = s3.bind (signO ts [91])) (e5 : s5 = (s4.bind (winO ts)).map (·.2))
    (e7 : s7 = (s5.bind (signO ts [93])).bind (signO ts [41])) (e8 : s8 = s7.bind (oneO ts 4 cmps)) (hm : ∀ p, s2.bind (selO ts) = some p → p.1 = ms) (hw : ∀ p, s4.bind (winO ts) = some p → p.1 = w) (hx : ∀ p, s8.bind (valO ts) = some p → p.1 = x) :
    (s8.bind (valO ts)).map (·.2) = (st.bind (cmpO ts)).map (·.2) ∧ ∀ p, st.bind (cmpO ts) = some p → p.1 = ⟨0, UInt8.ofNat (idxS aggs ((st.bind (tokK ts 1)).getD [])), ms, w, UInt8.ofNat (idxS cmps ((s7.bind (tokK ts 4)).getD [])), x, 0, 0⟩ := by
  cases st with
  | none => subst e2 e3 e4 e5 e7 e8; simp
  | some a =>
    simp only [Option.bind_some] at e2 ⊢
    unfold cmpO
    cases h1 : oneO ts 1 aggs a with
    | none => simp only [h1] at e2; subst e2 e3 e4 e5 e7 e8; simp
    | some b1 =>
      simp only [h1, Option.bind_some] at e2 ⊢
      cases h2 : signO ts [40] b1 with
      | none => rw [h2] at e2; subst e2 e3 e4 e5 e7 e8; simp
      | some b2 =>
        rw [h2] at e2
        subst e2
        simp only [Option.bind_some] at e3 hm ⊢
        cases h3 : selO ts b2 with
        | none => rw [h3] at e3; subst e3 e4 e5 e7 e8; simp
        | some p =>
          rw [h3] at e3
          have hm := hm _ h3
          subst e3
          simp only [Option.map_some, Option.bind_some] at e4 ⊢
          cases h4 : signO ts [91] p.2 with
          | none => rw [h4] at e4; subst e4 e5 e7 e8; simp
          | some b3 =>
            rw [h4] at e4
            subst e4
            simp only [Option.bind_some] at e5 hw ⊢
            cases h5 : winO ts b3 with
            | none => rw [h5] at e5; subst e5 e7 e8; simp
            | some ww =>
              rw [h5] at e5
              have hw := hw _ h5
              subst e5
              simp only [Option.map_some, Option.bind_some] at e7 ⊢
              cases h6 : signO ts [93] ww.2 with
              | none => rw [h6] at e7; subst e7 e8; simp
              | some b4 =>
                simp only [h6, Option.bind_some] at e7 ⊢
                cases h7 : signO ts [41] b4 with
                | none => rw [h7] at e7; subst e7 e8; simp
                | some b5 =>
                  rw [h7] at e7
                  subst e7
                  simp only [Option.bind_some] at e8 ⊢
                  cases h8 : oneO ts 4 cmps b5 with
                  | none => rw [h8] at e8; subst e8; simp
                  | some b6 =>
                    rw [h8] at e8
                    subst e8
                    simp only [Option.bind_some] at hx ⊢
                    cases h9 : valO ts b6 with
                    | none => simp
                    | some v =>
                      have hx := hx _ h9
                      simp [txtK, hm, hw, hx]
theorem u8_of {n : Nat} (h : n < 256) : ((UInt8.ofNat n).toNat : Int) = n := by simp only [UInt8.toNat_ofNat']; omega
theorem g_comparison {H K rb lv ts st} (hg : Pre Gs H) (hn : NumTok ts) (h : RdS H K rb lv ts st) :
    ∃ n sv K', ACalls Tryz.prog 70 [rP rb] K (.agg ((n : Nod).cells sv).toArray) K' ∧ Adv H K K' rb lv ts ((st.bind (cmpO ts)).map (·.2)) ∧ Gro K' K.length 3 75 sv (n.sel.map Mat.cells) ∧ (∀ p, st.bind (cmpO ts) = some p → p.1 = n) ∧ n.sel.length ≤ 2 ^ 41 := by
  have key : ∃ v K', (∃ (n : Nod) (sv : Value), v = .agg (n.cells sv).toArray ∧ Adv H K K' rb lv ts ((st.bind (cmpO ts)).map (·.2)) ∧ Gro K' K.length 3 75 sv (n.sel.map Mat.cells) ∧ (∀ p, st.bind (cmpO ts) = some p → p.1 = n) ∧ n.sel.length ≤ 2 ^ 41) ∧ ACalls Tryz.prog 70 [rP rb] K v K' := by
    refine acalls_ex MixT Tryz.func70 (by decide) ?_
    rw [d70]
    simp
    refine bndC_of (c_aggregates _) ?_
    have hrb := h.lt
    have hH : H.length ≤ K.length := by obtain ⟨X, hX⟩ := h.pre; rw [hX]; simp
    have v0 := (Adv.refl h).app [AObj.cells nodZ 37]
    have v1 := v0.app [AObj.cells (aggs.map str) 9]
    obtain ⟨K1, a1, a2⟩ := g_one v1.rd 1 (arr_strs aggs 9 6 rfl) (by decide) (by decide) (by decide)
    refine bndC_of a1 ?_
    have hz : K1[K.length]? = some (.cells nodZ 37) := a2.fr _ _ (by omega) (by simp)
    have hi1 : idxS aggs ((st.bind (tokK ts 1)).getD []) < 6 := by
      unfold idxS; split
      · rename_i q; exact List.idxOf_lt_length_of_mem q
      · omega
    generalize hi : idxS aggs ((st.bind (tokK ts 1)).getD []) = i at hi1 ⊢
    have v2 := v1.trans a2
    have c0 : CmpG H K (K1 ++ [AObj.cells [.int .u8 0, .int .u8 i, .slice none 0 0, i64 0, .int .u8 0, i64 0, i64 0, i64 0] 37]) rb lv ts (st.bind (oneO ts 1 aggs)) K.length K1.length [.int .u8 0, .int .u8 i, .slice none 0 0, i64 0, .int .u8 0, i64 0, i64 0, i64 0] :=
      ⟨v2.rd.app _, get_more hz, by simp, fun b o hb ho => get_more (v2.fr b o hb ho), by have := v2.len; simp; omega, hH, hrb, Nat.le_refl _, v2.len, by have := a2.len; simp at this; omega⟩
    simp
    generalize K1 ++ [AObj.cells [.int .u8 0, .int .u8 i, .slice none 0 0, i64 0, .int .u8 0, i64 0, i64 0, i64 0] 37] = L1 at c0 ⊢
    obtain ⟨L2, g1, g2⟩ := g_sign c0.rd [40]
    refine bndC_of g1 ?_
    have c1 := c0.adv g2
    generalize hs2 : (st.bind (oneO ts 1 aggs)).bind (signO ts [40]) = s2 at c1
    obtain ⟨sv, ms, L3, g3, g4, gs, gm, gml⟩ := g_selects c1.rd
    refine bndC_of g3 ?_
    have c2 := c1.adv g4
    generalize hs3 : (s2.bind (selO ts)).map (·.2) = s3 at c2
    have hlo : K1.length < L2.length := (List.getElem?_eq_some_iff.1 c1.f1).1
    have hlo0 : K.length < L2.length := (List.getElem?_eq_some_iff.1 c1.f0).1
    have e1 := c2.hl
    have e2 := c2.f1
    have hsv1 := gs.one
    have hsv2 := gs.cells
    have hsv3 := gs.stor
    simp [e1, e2, hsv2, hsv3]
    have c3 := c2.sto [.int .u8 0, .int .u8 i, sv, i64 0, .int .u8 0, i64 0, i64 0, i64 0]
    have gs3 := gs.set (b := K1.length) (o := .cells [.int .u8 0, .int .u8 i, sv, i64 0, .int .u8 0, i64 0, i64 0, i64 0] 37) hlo
    generalize L3.set K1.length (AObj.cells [.int .u8 0, .int .u8 i, sv, i64 0, .int .u8 0, i64 0, i64 0, i64 0] 37) = L4 at c3 gs3 ⊢
    obtain ⟨L5, g5, g6⟩ := g_sign c3.rd [91]
    refine bndC_of g5 ?_
    have c4 := c3.adv g6
    have grb : rb < L2.length := by omega
    have gs5 := gs3.frm (K' := L5) fun b o hb ho => g6.fr b o (by omega) ho
    generalize hs4 : s3.bind (signO ts [91]) = s4 at c4
    obtain ⟨w, L6, g7, g8, gw⟩ := g_window hg hn c4.rd
    refine bndC_of g7 ?_
    have c5 := c4.adv g8
    have gs6 := gs5.frm (K' := L6) fun b o hb ho => g8.fr b o (by omega) ho
    generalize hs5 : (s4.bind (winO ts)).map (·.2) = s5 at c5
    have e1 := c5.hl
    have e2 := c5.f1
    simp [e1, e2]
    have c6 := c5.sto [.int .u8 0, .int .u8 i, sv, i64 w, .int .u8 0, i64 0, i64 0, i64 0]
    have gs7 := gs6.set (b := K1.length) (o := .cells [.int .u8 0, .int .u8 i, sv, i64 w, .int .u8 0, i64 0, i64 0, i64 0] 37) hlo
    generalize L6.set K1.length (AObj.cells [.int .u8 0, .int .u8 i, sv, i64 w, .int .u8 0, i64 0, i64 0, i64 0] 37) = L7 at c6 gs7 ⊢
    obtain ⟨L8, g9, ga⟩ := g_sign c6.rd [93]
    refine bndC_of g9 ?_
    have c7 := c6.adv ga
    have gs8 := gs7.frm (K' := L8) fun b o hb ho => ga.fr b o (by omega) ho
    obtain ⟨L9, gb, gc⟩ := g_sign c7.rd [41]
    refine bndC_of gb ?_
    have c8 := c7.adv gc
    have gs9 := gs8.frm (K' := L9) fun b o hb ho => gc.fr b o (by omega) ho
    generalize hs7 : (s5.bind (signO ts [93])).bind (signO ts [41]) = s7 at c8
    refine bndC_of (c_compares _) ?_
    have c9 := c8.app [AObj.cells (cmps.map str) 9]
    obtain ⟨La, gd, ge⟩ := g_one c9.rd 4 (arr_strs cmps 9 6 rfl) (by decide) (by decide) (by decide)
    refine bndC_of gd ?_
    have ca := c9.adv ge
    have gsa := (gs9.app (X := [AObj.cells (cmps.map str) 9])).frm (K' := La) fun b o hb ho => ge.fr b o (by omega) ho
    have hj1 : idxS cmps ((s7.bind (tokK ts 4)).getD []) < 6 := by
      unfold idxS; split
      · rename_i q; exact List.idxOf_lt_length_of_mem q
      · omega
    generalize hj : idxS cmps ((s7.bind (tokK ts 4)).getD []) = j at hj1 ⊢
    generalize hs8 : s7.bind (oneO ts 4 cmps) = s8 at ca
    have e1 := ca.hl
    have e2 := ca.f1
    simp [e1, e2]
    have cb := ca.sto [.int .u8 0, .int .u8 i, sv, i64 w, .int .u8 j, i64 0, i64 0, i64 0]
    have gsb := gsa.set (b := K1.length) (o := .cells [.int .u8 0, .int .u8 i, sv, i64 w, .int .u8 j, i64 0, i64 0, i64 0] 37) hlo
    generalize La.set K1.length (AObj.cells [.int .u8 0, .int .u8 i, sv, i64 w, .int .u8 j, i64 0, i64 0, i64 0] 37) = Lb at cb gsb ⊢
    obtain ⟨x, Lc, gf, gg, gx⟩ := g_value hn cb.rd
    refine bndC_of gf ?_
    have cc := cb.adv gg
    have gsc := gsb.frm (K' := Lc) fun b o hb ho => gg.fr b o (by omega) ho
    obtain ⟨ch1, ch2⟩ := cmp_chain hs2.symm hs3.symm hs4.symm hs5.symm hs7.symm hs8.symm gm gw gx
    rw [hi, hj] at ch2
    rw [ch1] at cc
    have e1 := cc.hl
    have e2 := cc.f1
    simp [e1, e2]
    have cd := cc.sto [.int .u8 0, .int .u8 i, sv, i64 w, .int .u8 j, i64 x, i64 0, i64 0]
    have gsd := gsc.set (b := K1.length) (o := .cells [.int .u8 0, .int .u8 i, sv, i64 w, .int .u8 j, i64 x, i64 0, i64 0] 37) hlo
    generalize Lc.set K1.length (AObj.cells [.int .u8 0, .int .u8 i, sv, i64 w, .int .u8 j, i64 x, i64 0, i64 0] 37) = Ld at cd gsd ⊢
    have e1 := cd.hc
    have e2 := cd.f0
    have q1 := cd.fin [.int .u8 0, .int .u8 i, sv, i64 w, .int .u8 j, i64 x, i64 0, i64 0]
    have gse := gsd.set (b := K.length) (o := .cells [.int .u8 0, .int .u8 i, sv, i64 w, .int .u8 j, i64 x, i64 0, i64 0] 37) hlo0
    have hself : hcells (Ld.set K.length (AObj.cells [.int .u8 0, .int .u8 i, sv, i64 w, .int .u8 j, i64 x, i64 0, i64 0] 37)) K.length = some [.int .u8 0, .int .u8 i, sv, i64 w, .int .u8 j, i64 x, i64 0, i64 0] := by
      rw [hcells_eq, List.getElem?_set_self (List.getElem?_eq_some_iff.1 cd.f0).1]; rfl
    simp [e1, e2, nodZ, hself, hsv1]
    refine ⟨⟨0, UInt8.ofNat i, ms, w, UInt8.ofNat j, x, 0, 0⟩, sv, ?_, by simpa using q1, ?_, ?_, gml⟩
    · have h1 := u8_of (n := i) (by omega)
      have h2 := u8_of (n := j) (by omega)
      simp only [Nod.cells, byt, h1, h2]
      rfl
    · exact gse.weak (by omega)
    · intro a b hp; exact ch2 (a, b) (by simpa using hp)
  obtain ⟨v, K', ⟨n, sv, rfl, h⟩, hy⟩ := key
  exact ⟨n, sv, K', hy, h⟩
end Go.Vi
namespace Go.Vi
open Go Go.Proofs

theorem drawKeepOne {P : Program} : OneD (drawKeep P) := by
  constructor
  · intro ops k k' sl H hk h
    unfold drawKeep at h ⊢
    split at h
    · exact kdrawK_mono hk _ _ h
    · cases h
  · intro ops k sl H h
    unfold drawKeep at h ⊢
    split at h
    · exact kdrawK_one _ _ h
    · cases h
theorem acallsKex {P : Program} (hm : P.follows .mixedOrders = true) {f fn args H} {k : Value → AHeap → Prop} (hf : P.funcs[f]? = some fn) (hn : notNG fn = true) (hr : kbodyG P (drawKeep P) fn args H k) : ∃ v H', k v H' ∧ ACalls P f args H v H' := by
  obtain ⟨v, H', h1, h2⟩ := kbodyG_one drawKeepOne hr
  exact ⟨v, H', h1, acallsG_of (fun c => @drawKeep_sound P c hm) hf hn h2⟩
def wordO (k : Nat) : List UInt8 := if k = 1 then [97, 110, 100] else [111, 114]
def notS : List UInt8 := [110, 111, 116]
def opN (k : UInt8) (l r : Int) : Nod := ⟨k, 0, [], 0, 0, 0, l, r⟩
def kindK (k : Nat) : UInt8 := if k = 1 then 1 else 2
/-- What is read from a token on: `m` below 2 between operators, 2 beside one, 10 and 11 behind a part. (None: too little fuel; none within: it is none.) -/
def strO (ts : List Tok) : Nat → Nat → Nat → List Nod → Option (Option (List Nod × Nat))
  | 0, _, _, _ => none
  | f + 1, m, a, l =>
    if m = 2 then
      if isT ts a 1 notS = true then (strO ts f 2 (a + 1) l).map fun r => r.map fun p => (p.1 ++ [opN 3 ((p.1.length : Int) - 1) 0], p.2)
      else if isT ts a 4 [40] = true then (strO ts f 0 (a + 1) l).map fun r => r.bind fun p => (signO ts [41] p.2).map fun c => (p.1, c)
      else some ((cmpO ts a).map fun p => (l ++ [p.1], p.2))
    else if m < 2 then (strO ts f (m + 1) a l).bind fun r => match r with
      | none => some none
      | some p => strO ts f (m + 10) p.2 p.1
    else if isT ts a 1 (wordO (m - 10)) = true then (strO ts f (m - 10 + 1) (a + 1) l).bind fun r => match r with
      | none => some none
      | some p => strO ts f m p.2 (p.1 ++ [opN (kindK (m - 10)) ((l.length : Int) - 1) ((p.1.length : Int) - 1)])
    else some (some (l, a))
theorem cmpO_lt {ts : List Tok} {a : Nat} {p : Nod × Nat} (h : cmpO ts a = some p) : a < p.2 := by
  have hone : ∀ {k l a b}, oneO ts k l a = some b → b = a + 1 := by
    intro k l a b h
    unfold oneO at h
    obtain ⟨_, _, h2⟩ := Option.bind_eq_some_iff.1 h
    split at h2 <;> simp_all
  have hsign : ∀ {s a b}, signO ts s a = some b → b = a + 1 := by
    intro s a b h
    unfold signO at h
    split at h <;> simp_all
  have hmat : ∀ {a p}, matO ts a = some p → p.2 = a + 3 := by
    intro a p h
    unfold matO at h
    obtain ⟨_, _, h2⟩ := Option.bind_eq_some_iff.1 h
    obtain ⟨_, _, h3⟩ := Option.bind_eq_some_iff.1 h2
    split at h3
    · obtain ⟨_, _, h4⟩ := Option.bind_eq_some_iff.1 h3
      rw [← Option.some.inj h4]
    · cases h3
  have hselL : ∀ (f : Nat) {a acc p}, selL ts f a acc = some p → a ≤ p.2 := by
    intro f
    induction f with
    | zero => intro a acc p h; cases h
    | succ f ih =>
      intro a acc p h
      simp only [selL] at h
      obtain ⟨q, h1, h2⟩ := Option.bind_eq_some_iff.1 h
      have := hmat h1
      split at h2
      · have := ih h2; omega
      · rw [← Option.some.inj h2]; simp only; omega
  have hsel : ∀ {a p}, selO ts a = some p → a ≤ p.2 := by
    intro a p h
    unfold selO at h
    obtain ⟨b, h1, h2⟩ := Option.bind_eq_some_iff.1 h
    have := hsign h1
    split at h2
    · rw [← Option.some.inj h2]; simp only; omega
    · obtain ⟨q, h3, h4⟩ := Option.bind_eq_some_iff.1 h2
      have := hselL _ h3
      obtain ⟨c, h5, h6⟩ := Option.map_eq_some_iff.1 h4
      rw [← h6]
      unfold selE at h5
      obtain ⟨d, h7, h8⟩ := Option.bind_eq_some_iff.1 h5
      have := hsign h7
      split at h8
      · rw [← Option.some.inj h8]; simp only; omega
      · cases h8
  have hwin : ∀ {a p}, winO ts a = some p → p.2 = a + 1 := by
    intro a p h
    unfold winO at h
    obtain ⟨_, _, h2⟩ := Option.bind_eq_some_iff.1 h
    obtain ⟨_, _, h3⟩ := Option.bind_eq_some_iff.1 h2
    split at h3
    · rw [← Option.some.inj h3]
    · cases h3
  have hval : ∀ {a p}, valO ts a = some p → a ≤ p.2 := by
    intro a p h
    unfold valO at h
    obtain ⟨_, _, h2⟩ := Option.bind_eq_some_iff.1 h
    split at h2
    · rw [← Option.some.inj h2]; simp only [takO]; split <;> omega
    · cases h2
  unfold cmpO at h
  obtain ⟨b1, h1, h⟩ := Option.bind_eq_some_iff.1 h
  obtain ⟨b2, h2, h⟩ := Option.bind_eq_some_iff.1 h
  obtain ⟨q, h3, h⟩ := Option.bind_eq_some_iff.1 h
  obtain ⟨b3, h4, h⟩ := Option.bind_eq_some_iff.1 h
  obtain ⟨w, h5, h⟩ := Option.bind_eq_some_iff.1 h
  obtain ⟨b4, h6, h⟩ := Option.bind_eq_some_iff.1 h
  obtain ⟨b5, h7, h⟩ := Option.bind_eq_some_iff.1 h
  obtain ⟨b6, h8, h⟩ := Option.bind_eq_some_iff.1 h
  obtain ⟨v, h9, h⟩ := Option.bind_eq_some_iff.1 h
  have := hone h1; have := hsign h2; have := hsel h3; have := hsign h4; have := hwin h5; have := hsign h6; have := hsign h7; have := hone h8; have := hval h9
  rw [← Option.some.inj h]
  simp only
  omega
theorem strO_len {ts : List Tok} : ∀ (f : Nat) {m a l l' b}, strO ts f m a l = some (some (l', b)) → a ≤ b ∧ l.length ≤ l'.length ∧ l'.length + a ≤ l.length + b := by
  intro f
  induction f with
  | zero => intro m a l l' b h; cases h
  | succ f ih =>
    intro m a l l' b h
    simp only [strO] at h
    split at h
    · split at h
      · obtain ⟨r, h1, h2⟩ := Option.map_eq_some_iff.1 h
        obtain ⟨p, rfl, h3⟩ := Option.map_eq_some_iff.1 h2
        have := ih h1
        simp only [Prod.mk.injEq] at h3
        obtain ⟨rfl, rfl⟩ := h3
        simp only [List.length_append, List.length_cons, List.length_nil]
        omega
      · split at h
        · obtain ⟨r, h1, h2⟩ := Option.map_eq_some_iff.1 h
          obtain ⟨p, rfl, h3⟩ := Option.bind_eq_some_iff.1 h2
          obtain ⟨c, h4, h5⟩ := Option.map_eq_some_iff.1 h3
          have := ih h1
          unfold signO at h4
          split at h4
          · simp only [Option.some.injEq] at h4
            simp only [Prod.mk.injEq] at h5
            obtain ⟨rfl, rfl⟩ := h5
            omega
          · cases h4
        · obtain ⟨p, h1, h2⟩ := Option.map_eq_some_iff.1 (Option.some.inj h)
          have := cmpO_lt h1
          simp only [Prod.mk.injEq] at h2
          obtain ⟨rfl, rfl⟩ := h2
          simp only [List.length_append, List.length_cons, List.length_nil]
          omega
    · split at h
      · obtain ⟨r, h1, h2⟩ := Option.bind_eq_some_iff.1 h
        cases r with
        | none => cases h2
        | some p =>
          have := ih h1
          have := ih h2
          omega
      · split at h
        · obtain ⟨r, h1, h2⟩ := Option.bind_eq_some_iff.1 h
          cases r with
          | none => cases h2
          | some p =>
            have := ih h1
            have := ih h2
            simp only [List.length_append, List.length_cons, List.length_nil] at this
            omega
        · simp only [Option.some.injEq, Prod.mk.injEq] at h
          obtain ⟨rfl, rfl⟩ := h
          omega
theorem nael1 : aElem Tryz.prog 27 = some (37, 8, 72) := by kernel_rfl
theorem nael2 : isSeq Tryz.prog 27 = true := by kernel_rfl
theorem Gro.pushT {P : Program} {K : AHeap} {lo z by_ : Nat} {T Ts : TypeId} {v x : Value} {cl : List (List Value)} {c : List Value} (h : Gro K lo z T v cl) (hT : aElem P Ts = some (T, z, by_)) (hsq : isSeq P Ts = true) (hc : c.length = z) (hlo : lo ≤ K.length)
    (hx : aSrc K z x = some (1, c)) (hb : (cl.length + 1) * by_ ≤ 140737488355328) (hn : cl.length + 1 ≤ 9223372036854775807) :
    ∃ v' K', aBuiltin P K .append #[Ts, Ts] [v, x] = some (v', K') ∧ Gro K' lo z T v' (cl ++ [c]) ∧ (∀ b o, b < lo → K[b]? = some o → K'[b]? = some o) ∧ K.length ≤ K'.length ∧ (∀ H, Pre H K → H.length ≤ lo → Pre H K') ∧ (∀ (b : Nat) o, K[b]? = some o → (∀ cs, o ≠ .cells cs T) → K'[b]? = some o) := by
  obtain ⟨v', K', h1, h2, h3, h4, h5⟩ := h.push hT hsq hc hlo hx hb hn
  refine ⟨v', K', h1, h2, h3, h4, h5, fun b o hbo hne => ?_⟩
  cases h with
  | nil =>
    have hb' : by_ ≤ 140737488355328 := by simpa using hb
    simp [aBuiltin, aAppend, hT, hx, hsq, hb', hc] at h1
    rw [← h1.2]; exact get_more hbo
  | mk bb cl g1 g2 g3 g4 =>
    have hfl := flat_len g4
    have e2 : ¬ cl.length + 1 ≤ cl.length := by omega
    simp only [aBuiltin, aAppend, hT, hx, hsq, if_true, g2, hfl, Nat.zero_add, Nat.le_refl, and_self, e2, if_false, hb, hn, Option.some.injEq, Prod.mk.injEq] at h1
    rw [← h1.2, List.getElem?_set_ne (by rintro rfl; rw [hbo] at g2; cases g2; exact hne _ rfl)]
    exact hbo
/-- Nodes in a row that grows, their matchers behind them. -/
def NL (K : AHeap) (lo : Nat) (v : Value) (ns : List Nod) : Prop := ∃ cl, Gro K lo 8 37 v cl ∧ cl.length = ns.length ∧ ∀ (i : Nat) n, ns[i]? = some n → ∃ sv, cl[i]? = some ((n : Nod).cells sv) ∧ Gro K lo 3 75 sv (n.sel.map Mat.cells) ∧ n.sel.length ≤ 2 ^ 41
theorem NL.frm {K K' lo v ns} (h : NL K lo v ns) (hf : ∀ (b : Nat) o, lo ≤ b → K[b]? = some o → K'[b]? = some o) : NL K' lo v ns := by
  obtain ⟨cl, h1, h2, h3⟩ := h
  refine ⟨cl, h1.frm hf, h2, fun i n hi => ?_⟩
  obtain ⟨sv, q1, q2, q3⟩ := h3 i n hi
  exact ⟨sv, q1, q2.frm hf, q3⟩
theorem NL.nodes {K lo v ns} (h : NL K lo v ns) : NodesAt K v ns := by
  obtain ⟨cl, h1, h2, h3⟩ := h
  refine ⟨cl, h1.arr, h2, fun i n hi => ?_⟩
  obtain ⟨sv, q1, q2, q3⟩ := h3 i n hi
  exact ⟨sv, q1, q2.arr, by omega⟩
theorem NL.one {K lo v ns} (h : NL K lo v ns) : v.oneCell' = true := by obtain ⟨cl, h1, _⟩ := h; exact h1.one
theorem NL.len {K lo v ns} (h : NL K lo v ns) (J : AHeap) : aLen Tryz.prog J 27 v = some (i64 ns.length) := by
  obtain ⟨cl, h1, h2, _⟩ := h
  rw [← h2]; exact h1.arr.len' (e := 37) (by simp)
abbrev sP (b : Nat) : Value := .pointer (some ⟨b, 0, some 1⟩)
abbrev cndF (rv sb lb : Nat) : Value := .func (.func 67) #[] #[sP rv, sP sb, sP lb]
structure CndS (H K : AHeap) (rb : Nat) (lv : Value) (ts : List Tok) (st : Option Nat) (rv sb lb lo : Nat) (ns : List Nod) : Prop where
  rd : RdS H K rb lv ts st
  cr : K[rv]? = some (.cells [rP rb] 79)
  cs : K[sb]? = some (.cells [cndF rv sb lb] 107)
  cl : ∃ v, K[lb]? = some (.cells [v] 27) ∧ NL K lo v ns
  b0 : rb < rv
  b1 : rv < lb
  b2 : lb < sb
  b3 : sb < lo
  b4 : lo ≤ K.length
  hH : H.length ≤ rb
theorem CndS.adv {H K K1 rb lv ts st st' rv sb lb lo ns} (h : CndS H K rb lv ts st rv sb lb lo ns) (g : Adv H K K1 rb lv ts st') : CndS H K1 rb lv ts st' rv sb lb lo ns := by
  obtain ⟨v, hv1, hv2⟩ := h.cl
  have hb0 := h.b0; have hb1 := h.b1; have hb2 := h.b2; have hb3 := h.b3; have hb4 := h.b4
  exact ⟨g.rd, g.fr _ _ (by omega) h.cr, g.fr _ _ (by omega) h.cs, ⟨v, g.fr _ _ (by omega) hv1, hv2.frm fun b o hb ho => g.fr b o (by omega) ho⟩, hb0, hb1, hb2, hb3, Nat.le_trans hb4 g.len, h.hH⟩
theorem CndS.push {H K rb lv ts st rv sb lb lo ns} (h : CndS H K rb lv ts st rv sb lb lo ns) (n : Nod) (sv : Value) (hsv : Gro K lo 3 75 sv (n.sel.map Mat.cells)) (hsl : n.sel.length ≤ 2 ^ 41) (hns : ns.length + 1 ≤ 2 ^ 30) {v : Value} (hv : K[lb]? = some (.cells [v] 27)) :
    ∃ v' K2, aBuiltin Tryz.prog (K ++ [AObj.cells (n.cells sv) 37]) .append #[27, 27] [v, .slice (some ⟨K.length, 0, some 8⟩) 1 1] = some (v', K2) ∧
      aStore Tryz.prog K2 27 (sP lb) v' = some (K2.set lb (.cells [v'] 27)) ∧ CndS H (K2.set lb (.cells [v'] 27)) rb lv ts st rv sb lb lo (ns ++ [n]) := by
  obtain ⟨v0, hv1, hv2⟩ := h.cl
  rw [hv] at hv1
  cases hv1
  obtain ⟨cl, hg, hcl, hall⟩ := hv2
  have hb0 := h.b0; have hb1 := h.b1; have hb2 := h.b2; have hb3 := h.b3; have hb4 := h.b4; have hH := h.hH
  obtain ⟨v', K2, q1, q2, q3, q4, q5, q6⟩ := Gro.pushT (P := Tryz.prog) (Ts := 27) (by_ := 72) (x := .slice (some ⟨K.length, 0, some 8⟩) 1 1) (c := n.cells sv) (hg.app (X := [AObj.cells (n.cells sv) 37])) nael1 nael2 (by rfl) (by simp; omega) (by simp [aSrc, Nod.cells]) (by omega) (by omega)
  have hcl2 := q3 lb _ (by omega) (get_more hv)
  have hget : ∀ (b : Nat) o, b < lo → b ≠ lb → K[b]? = some o → (K2.set lb (.cells [v'] 27))[b]? = some o := fun b o h1 h2 ho => by
    rw [List.getElem?_set_ne (fun e => h2 e.symm)]; exact q3 _ _ h1 (get_more ho)
  have hmat : ∀ {sv ms}, Gro K lo 3 75 sv ms → Gro (K2.set lb (.cells [v'] 27)) lo 3 75 sv ms := by
    intro sv ms hg
    cases hg with
    | nil => exact .nil
    | mk bb ms h1 h2 h3 h4 => exact .mk bb ms h1 (by rw [List.getElem?_set_ne (by omega)]; exact q6 _ _ (get_more h2) (by simp)) h3 h4
  refine ⟨v', K2, q1, by simp [hcl2, q2.cells, q2.stor], ⟨h.rd.frame ((q5 H (h.rd.pre.more _) (by omega)).set (by omega)) fun o ho => hget _ _ (by omega) (by omega) ho, hget _ _ (by omega) (by omega) h.cr, hget _ _ (by omega) (by omega) h.cs, ⟨v', ?_, cl ++ [n.cells sv], q2.set (by omega), by simp [hcl], ?_⟩, hb0, hb1, hb2, hb3, ?_, hH⟩⟩
  · rw [List.getElem?_set_self (by simp at q4; omega)]
  · intro i m hi
    rcases Nat.lt_or_ge i ns.length with hlt | hge
    · rw [List.getElem?_append_left hlt] at hi
      obtain ⟨sv', e1, e2, e3⟩ := hall i m hi
      exact ⟨sv', by rw [List.getElem?_append_left (by omega)]; exact e1, hmat e2, e3⟩
    · rw [List.getElem?_append_right hge] at hi
      have hi0 : i - ns.length = 0 := by
        have := (List.getElem?_eq_some_iff.1 hi).1; simp at this; omega
      rw [hi0] at hi
      simp at hi
      subst hi
      exact ⟨sv, by rw [List.getElem?_append_right (by omega), hcl, hi0]; rfl, hmat hsv, hsl⟩
  · simp at q4 ⊢; omega
theorem nodLit {K : AHeap} (n : Nod) {sv : Value} (hs : sv.oneCell' = true) : sliceLit Tryz.prog K 27 1 [(0, .agg (n.cells sv).toArray)] (.slice (some ⟨K.length, 0, some 8⟩) 1 1) (K ++ [.cells (n.cells sv) 37]) :=
  sliceLitA (c := n.cells sv) (tbs27 K 1 _) (by rfl) (by simp [Nod.cells, hs]) (by simp)
/-- What reading came to. -/
def OutS (H K' : AHeap) (rb : Nat) (lv : Value) (ts : List Tok) (rv sb lb lo B : Nat) : Option (List Nod × Nat) → Prop
  | some p => CndS H K' rb lv ts (some p.2) rv sb lb lo p.1
  | none => ∃ l', CndS H K' rb lv ts none rv sb lb lo l' ∧ l'.length ≤ B
abbrev CndC (H K : AHeap) (rb : Nat) (lv : Value) (ts : List Tok) (rv sb lb lo B : Nat) (r : Option (List Nod × Nat)) (m : Nat) : Prop :=
  ∃ K', ACalls Tryz.prog 67 [i64 m, sP rv, sP sb, sP lb] K (.tuple #[]) K' ∧ OutS H K' rb lv ts rv sb lb lo B r
abbrev CndL (H K : AHeap) (rb : Nat) (lv : Value) (ts : List Tok) (rv sb lb lo B : Nat) (r : Option (List Nod × Nat)) (k : Nat) : Prop :=
  ∃ K', OutS H K' rb lv ts rv sb lb lo B r ∧ ∀ (kk : Value → AHeap → Prop), kk (.tuple #[]) K' → ∃ n, ∀ (s4 s7 s8 s9 s10 s11 s12 s13 s14 s15 s16 s17 s18 s19 s20 s21 s22 s23 s24 s25 s26 s27 s28 s29 s30 s31 s32 s33 s34 s35 s36 s37 s38 s39 s40 s41 s42 s43 s44 s45 s46 s47 s48 s49 s50 s51 s52 s53 s54 s55 s56 s57 s58 : Value),
    L67x0 n kk [i64 k, sP rv, sP sb, sP lb, s4, str (wordO k), byt (kindK k), s7, s8, s9, s10, s11, s12, s13, s14, s15, s16, s17, s18, s19, s20, s21, s22, s23, s24, s25, s26, s27, s28, s29, s30, s31, s32, s33, s34, s35, s36, s37, s38, s39, s40, s41, s42, s43, s44, s45, s46, s47, s48, s49, s50, s51, s52, s53, s54, s55, s56, s57, s58] K
theorem cndC_of {H K rb lv ts rv sb lb lo B r} {m : Nat} (h : ∃ v K', (v = .tuple #[] ∧ OutS H K' rb lv ts rv sb lb lo B r) ∧ ACalls Tryz.prog 67 [i64 m, sP rv, sP sb, sP lb] K v K') : CndC H K rb lv ts rv sb lb lo B r m := by
  obtain ⟨v, K', ⟨rfl, h⟩, hy⟩ := h
  exact ⟨K', hy, h⟩
theorem str_cmp {H K rb lv ts a rv sb lb lo ns} (hg : Pre Gs H) (hn : NumTok ts) (h : CndS H K rb lv ts (some a) rv sb lb lo ns) (hns : ns.length + 1 ≤ 2 ^ 30) (h1 : isT ts a 1 notS = false) (h2 : isT ts a 4 [40] = false) :
    CndC H K rb lv ts rv sb lb lo (ns.length + (ts.length - a) + 1) ((cmpO ts a).map fun p => (ns ++ [p.1], p.2)) 2 := by
  refine cndC_of ?_
  refine acallsKex MixT Tryz.func67 (by decide) ?_
  rw [d67]
  obtain ⟨v, hv1, hv2⟩ := h.cl
  have hcr : hcells K rv = some [rP rb] := by rw [hcells_eq, h.cr]; rfl
  have hcl : hcells K lb = some [v] := by rw [hcells_eq, hv1]; rfl
  have hrd : RdA H K rb lv ts a true := h.rd
  simp [hcr]
  refine bndC_of (c_takes_n hrd (k := 1) (s := notS) (by simp [h1])) ?_
  simp [hcr]
  refine bndC_of (c_takes_n hrd (k := 4) (s := [40]) (by simp [h2])) ?_
  simp [hcr, hcl]
  obtain ⟨n, sv, K1, g1, g2, g3, g4, g5⟩ := g_comparison hg hn h.rd
  have c1 := h.adv g2
  have hb0 := h.b0; have hb1 := h.b1; have hb4 := h.b4
  have hcl1 : K1[lb]? = some (.cells [v] 27) := g2.fr _ _ (by omega) hv1
  have hcc1 : hcells K1 lb = some [v] := by rw [hcells_eq, hcl1]; rfl
  refine bndK_of g1 ⟨by simp [hcc1], trivial⟩ ?_
  obtain ⟨v', K2, q1, q2, q3⟩ := c1.push n sv (g3.weak hb4) g5 hns hcl1
  refine bndK_ext (nodLit n g3.one) ⟨_, rfl⟩ ?_
  refine bndK_bar q1 ?_
  refine bndK_bar ⟨rfl, q2⟩ ?_
  refine ⟨rfl, ?_⟩
  simp only [Option.bind_some] at q3 g4
  cases hc : cmpO ts a with
  | none => rw [hc] at q3; exact ⟨ns ++ [n], q3, by simp only [List.length_append, List.length_cons, List.length_nil]; omega⟩
  | some p =>
    have e := g4 p hc
    rw [hc] at q3
    subst e
    exact q3
theorem str_neg {H K rb lv ts a rv sb lb lo} {l : List Nod} {r : Option (List Nod × Nat)} (h1 : isT ts a 1 notS = true) (ih : ∀ {K}, CndS H K rb lv ts (some (a + 1)) rv sb lb lo l → CndC H K rb lv ts rv sb lb lo (l.length + (ts.length - (a + 1)) + 1) r 2)
    (h : CndS H K rb lv ts (some a) rv sb lb lo l) (hl : l.length + ts.length ≤ 2 ^ 29 + a) (hr : ∀ p, r = some p → p.1.length + (a + 1) ≤ l.length + p.2) :
    CndC H K rb lv ts rv sb lb lo (l.length + (ts.length - a) + 1) (r.map fun p => (p.1 ++ [opN 3 ((p.1.length : Int) - 1) 0], p.2)) 2 := by
  refine cndC_of ?_
  refine acallsKex MixT Tryz.func67 (by decide) ?_
  rw [d67]
  have hcr : hcells K rv = some [rP rb] := by rw [hcells_eq, h.cr]; rfl
  have hrd : RdA H K rb lv ts a true := h.rd
  simp [hcr]
  refine bndC_of (c_takes_y hrd (k := 1) (s := notS) h1) ?_
  have hlt := isT_lt h1
  have hst := h.adv (.setT hrd (a + 1) (by omega))
  generalize K.set rb (rdo lv (a + 1) true) = K1 at hst ⊢
  have hcs : hcells K1 sb = some [cndF rv sb lb] := by rw [hcells_eq, hst.cs]; rfl
  simp [hcs]
  obtain ⟨K2, g1, g2⟩ := ih hst
  refine bndV_func (by simpa using g1) ?_
  have go : ∀ {st : Option Nat} {l' : List Nod}, CndS H K2 rb lv ts st rv sb lb lo l' → l'.length + 1 ≤ 2 ^ 30 → (∀ K3, CndS H K3 rb lv ts st rv sb lb lo (l' ++ [opN 3 ((l'.length : Int) - 1) 0]) → OutS H K3 rb lv ts rv sb lb lo (l.length + (ts.length - a) + 1) (r.map fun p => (p.1 ++ [opN 3 ((p.1.length : Int) - 1) 0], p.2))) →
      ∀ (q : QH), q = q → True := fun _ _ _ _ _ => trivial
  clear go
  obtain ⟨st, l', hcs2, hlen', hout⟩ : ∃ (st : Option Nat) (l' : List Nod), CndS H K2 rb lv ts st rv sb lb lo l' ∧ l'.length + 1 ≤ 2 ^ 30 ∧ ∀ K3, CndS H K3 rb lv ts st rv sb lb lo (l' ++ [opN 3 ((l'.length : Int) - 1) 0]) → OutS H K3 rb lv ts rv sb lb lo (l.length + (ts.length - a) + 1) (r.map fun p => (p.1 ++ [opN 3 ((p.1.length : Int) - 1) 0], p.2)) := by
    cases r with
    | none =>
      obtain ⟨l', e1, e2⟩ := g2
      exact ⟨none, l', e1, by omega, fun K3 h3 => ⟨_, h3, by simp; omega⟩⟩
    | some p =>
      have g2' : CndS H K2 rb lv ts (some p.2) rv sb lb lo p.1 := g2
      have := hr p rfl
      have := g2'.rd.le
      exact ⟨some p.2, p.1, g2', by omega, fun K3 h3 => h3⟩
  obtain ⟨v, hv1, hv2⟩ := hcs2.cl
  have hcl : hcells K2 lb = some [v] := by rw [hcells_eq, hv1]; rfl
  have hlen := fun J => hv2.len J
  have hw : IntKind.i64.wrap ((l'.length : Int) - 1) = (l'.length : Int) - 1 := wrap_i64 (by omega) (by omega)
  simp [hcl, hlen, hw]
  obtain ⟨v', K3, q1, q2, q3⟩ := hcs2.push (opN 3 ((l'.length : Int) - 1) 0) (.slice none 0 0) .nil (by simp [opN]) hlen' hv1
  refine bndL_lit (nodLit (opN 3 ((l'.length : Int) - 1) 0) rfl) ?_
  dsimp only
  rw [q1]
  simp only [bndE_some, q2, bndS_some]
  exact ⟨by trivial, hout _ q3⟩
theorem str_par {H K rb lv ts a rv sb lb lo} {l : List Nod} {r : Option (List Nod × Nat)} (h0 : isT ts a 1 notS = false) (h1 : isT ts a 4 [40] = true) (ih : ∀ {K}, CndS H K rb lv ts (some (a + 1)) rv sb lb lo l → CndC H K rb lv ts rv sb lb lo (l.length + (ts.length - (a + 1)) + 1) r 0)
    (h : CndS H K rb lv ts (some a) rv sb lb lo l) (hr : ∀ p, r = some p → p.1.length + (a + 1) ≤ l.length + p.2) :
    CndC H K rb lv ts rv sb lb lo (l.length + (ts.length - a) + 1) (r.bind fun p => (signO ts [41] p.2).map fun c => (p.1, c)) 2 := by
  refine cndC_of ?_
  refine acallsKex MixT Tryz.func67 (by decide) ?_
  rw [d67]
  have hcr : hcells K rv = some [rP rb] := by rw [hcells_eq, h.cr]; rfl
  have hrd : RdA H K rb lv ts a true := h.rd
  simp [hcr]
  refine bndC_of (c_takes_n hrd (k := 1) (s := notS) (by simp [h0])) ?_
  simp [hcr]
  refine bndC_of (c_takes_y hrd (k := 4) (s := [40]) h1) ?_
  have hlt := isT_lt h1
  have hst := h.adv (.setT hrd (a + 1) (by omega))
  generalize K.set rb (rdo lv (a + 1) true) = K1 at hst ⊢
  have hcs : hcells K1 sb = some [cndF rv sb lb] := by rw [hcells_eq, hst.cs]; rfl
  simp [hcs]
  obtain ⟨K2, g1, g2⟩ := ih hst
  refine bndV_func (by simpa using g1) ?_
  cases r with
  | none =>
    obtain ⟨l', e1, e2⟩ := g2
    have hcr2 : hcells K2 rv = some [rP rb] := by rw [hcells_eq, e1.cr]; rfl
    simp [hcr2]
    obtain ⟨K3, s1, s2⟩ := g_sign e1.rd [41]
    exact bndC_of s1 ⟨rfl, l', e1.adv s2, by omega⟩
  | some p =>
    have g2' : CndS H K2 rb lv ts (some p.2) rv sb lb lo p.1 := g2
    have hcr2 : hcells K2 rv = some [rP rb] := by rw [hcells_eq, g2'.cr]; rfl
    simp [hcr2]
    obtain ⟨K3, s1, s2⟩ := g_sign g2'.rd [41]
    have c3 := g2'.adv s2
    have := hr p rfl
    have := g2'.rd.le
    refine bndC_of s1 ⟨rfl, ?_⟩
    simp only [Option.bind_some] at c3 ⊢
    cases hs : signO ts [41] p.2 with
    | none => rw [hs] at c3; exact ⟨p.1, c3, by omega⟩
    | some c => rw [hs] at c3; exact c3
theorem str_done {H K rb lv ts st rv sb lb lo B} {l : List Nod} {k : Nat} {r : Option (List Nod × Nat)} (h1 : (st.any fun b => isT ts b 1 (wordO k)) = false) (h : CndS H K rb lv ts st rv sb lb lo l) (hout : OutS H K rb lv ts rv sb lb lo B r) : CndL H K rb lv ts rv sb lb lo B r k := by
  refine ⟨K, hout, fun kk hk => ⟨1, ?_⟩⟩
  intro s4 s7 s8 s9 s10 s11 s12 s13 s14 s15 s16 s17 s18 s19 s20 s21 s22 s23 s24 s25 s26 s27 s28 s29 s30 s31 s32 s33 s34 s35 s36 s37 s38 s39 s40 s41 s42 s43 s44 s45 s46 s47 s48 s49 s50 s51 s52 s53 s54 s55 s56 s57 s58
  rw [L67x0q]
  have hcr : hcells K rv = some [rP rb] := by rw [hcells_eq, h.cr]; rfl
  simp [hcr]
  have hcall : ACalls Tryz.prog 68 [rP rb, .int .u8 1, str (wordO k)] K (.bool false) K := by
    have hrd := h.rd
    cases st with
    | none => obtain ⟨a, hrd⟩ := hrd; exact c_takes_n hrd rfl
    | some b => exact c_takes_n (ok := true) hrd (by simpa using h1)
  refine bndC_of hcall ?_
  simp
  exact hk
theorem str_more {H K rb lv ts b rv sb lb lo} {l : List Nod} {r r' : Option (List Nod × Nat)} {k : Nat} (hk2 : k < 2) (h1 : isT ts b 1 (wordO k) = true)
    (ih1 : ∀ {K}, CndS H K rb lv ts (some (b + 1)) rv sb lb lo l → CndC H K rb lv ts rv sb lb lo (l.length + (ts.length - (b + 1)) + 1) r (k + 1)) (hl : l.length + ts.length ≤ 2 ^ 29 + b) (hr : ∀ p, r = some p → p.1.length + (b + 1) ≤ l.length + p.2)
    (hr0 : r = none → r' = none)
    (ih2 : ∀ p, r = some p → ∀ {K}, CndS H K rb lv ts (some p.2) rv sb lb lo (p.1 ++ [opN (kindK k) ((l.length : Int) - 1) ((p.1.length : Int) - 1)]) → CndL H K rb lv ts rv sb lb lo (l.length + (ts.length - b) + 1) r' k)
    (h : CndS H K rb lv ts (some b) rv sb lb lo l) : CndL H K rb lv ts rv sb lb lo (l.length + (ts.length - b) + 1) r' k := by
  have hlt := isT_lt h1
  have hrd : RdA H K rb lv ts b true := h.rd
  have hst := h.adv (.setT hrd (b + 1) (by omega))
  generalize hK1 : K.set rb (rdo lv (b + 1) true) = K1 at hst
  obtain ⟨K2, g1, g2⟩ := ih1 hst
  obtain ⟨st, l', hcs2, hlen', hnext⟩ : ∃ (st : Option Nat) (l' : List Nod), CndS H K2 rb lv ts st rv sb lb lo l' ∧ l'.length + 1 ≤ 2 ^ 30 ∧ ∀ K3, CndS H K3 rb lv ts st rv sb lb lo (l' ++ [opN (kindK k) ((l.length : Int) - 1) ((l'.length : Int) - 1)]) → CndL H K3 rb lv ts rv sb lb lo (l.length + (ts.length - b) + 1) r' k := by
    cases r with
    | none =>
      obtain ⟨l', e1, e2⟩ := g2
      refine ⟨none, l', e1, by omega, fun K3 h3 => str_done rfl h3 ?_⟩
      rw [hr0 rfl]
      exact ⟨_, h3, by simp only [List.length_append, List.length_cons, List.length_nil]; omega⟩
    | some p =>
      have g2' : CndS H K2 rb lv ts (some p.2) rv sb lb lo p.1 := g2
      have := hr p rfl
      have := g2'.rd.le
      exact ⟨some p.2, p.1, g2', by omega, fun K3 h3 => ih2 p rfl h3⟩
  obtain ⟨v, hv1, hv2⟩ := hcs2.cl
  obtain ⟨v', K3, q1, q2, q3⟩ := hcs2.push (opN (kindK k) ((l.length : Int) - 1) ((l'.length : Int) - 1)) (.slice none 0 0) .nil (by simp [opN]) hlen' hv1
  obtain ⟨K4, r1, r2⟩ := hnext _ q3
  refine ⟨K4, r1, fun kk hk => ?_⟩
  obtain ⟨n, hn⟩ := r2 kk hk
  refine ⟨n + 1, ?_⟩
  intro s4 s7 s8 s9 s10 s11 s12 s13 s14 s15 s16 s17 s18 s19 s20 s21 s22 s23 s24 s25 s26 s27 s28 s29 s30 s31 s32 s33 s34 s35 s36 s37 s38 s39 s40 s41 s42 s43 s44 s45 s46 s47 s48 s49 s50 s51 s52 s53 s54 s55 s56 s57 s58
  rw [L67x0q]
  have hcr : hcells K rv = some [rP rb] := by rw [hcells_eq, h.cr]; rfl
  simp [hcr]
  refine bndC_of (c_takes_y hrd h1) ?_
  rw [hK1]
  obtain ⟨v0, hu1, hu2⟩ := hst.cl
  have hcl0 : hcells K1 lb = some [v0] := by rw [hcells_eq, hu1]; rfl
  have hlen0 := fun J => hu2.len J
  have hcs : hcells K1 sb = some [cndF rv sb lb] := by rw [hcells_eq, hst.cs]; rfl
  have hw0 : IntKind.i64.wrap ((l.length : Int) - 1) = (l.length : Int) - 1 := wrap_i64 (by omega) (by omega)
  have hwk : IntKind.i64.wrap ((k : Int) + 1) = (k : Int) + 1 := wrap_i64 (by omega) (by omega)
  simp [hcl0, hlen0, hw0, hcs, hwk]
  refine bndV_func (by simpa using g1) ?_
  have hcl : hcells K2 lb = some [v] := by rw [hcells_eq, hv1]; rfl
  have hlen := fun J => hv2.len J
  have hw : IntKind.i64.wrap ((l'.length : Int) - 1) = (l'.length : Int) - 1 := wrap_i64 (by omega) (by omega)
  simp [hcl, hlen, hw]
  have hlit := nodLit (K := K2) (opN (kindK k) ((l.length : Int) - 1) ((l'.length : Int) - 1)) (sv := .slice none 0 0) rfl
  have hnod : (opN (kindK k) ((l.length : Int) - 1) ((l'.length : Int) - 1)).cells (.slice none 0 0) = [byt (kindK k), .int .u8 0, .slice none 0 0, i64 0, .int .u8 0, i64 0, i64 ((l.length : Int) - 1), i64 ((l'.length : Int) - 1)] := rfl
  rw [hnod] at hlit q1
  refine bndL_lit hlit ?_
  dsimp only
  rw [q1]
  simp only [bndE_some, q2, bndS_some]
  exact hn _ _ _ _ _ _ _ _ _ _ _ _ _ _ _ _ _ _ _ _ _ _ _ _ _ _ _ _ _ _ _ _ _ _ _ _ _ _ _ _ _ _ _ _ _ _ _ _ _ _ _ _ _
theorem g_str {H rb lv ts rv sb lb lo} (hg : Pre Gs H) (hnt : NumTok ts) : ∀ (f m a : Nat) (l : List Nod) (r : Option (List Nod × Nat)), strO ts f m a l = some r → l.length + ts.length ≤ 2 ^ 29 + a → ∀ {K}, CndS H K rb lv ts (some a) rv sb lb lo l →
    (m ≤ 2 → CndC H K rb lv ts rv sb lb lo (l.length + (ts.length - a) + 1) r m) ∧ (∀ k, m = k + 10 → k < 2 → CndL H K rb lv ts rv sb lb lo (l.length + (ts.length - a) + 1) r k) := by
  intro f
  induction f with
  | zero => intro m a l r h; cases h
  | succ f ih =>
    intro m a l r hs hl K h
    have hale := h.rd.le
    have hbnd : ∀ {m a l r}, strO ts f m a l = some r → ∀ p, r = some p → p.1.length + a ≤ l.length + p.2 := fun h p hp => by subst hp; have := strO_len f h; omega
    have hmon : ∀ {m a l r}, strO ts f m a l = some r → ∀ p, r = some p → a ≤ p.2 ∧ l.length ≤ p.1.length := fun h p hp => by subst hp; have := strO_len f h; omega
    simp only [strO] at hs
    split at hs
    · rename_i hm2
      subst hm2
      refine ⟨fun _ => ?_, fun k hk => by omega⟩
      split at hs
      · rename_i hnot
        obtain ⟨r1, e1, rfl⟩ := Option.map_eq_some_iff.1 hs
        exact str_neg hnot (fun {K} hK => (ih _ _ _ _ e1 (by omega) hK).1 (by omega)) h hl (hbnd e1)
      · rename_i hnot
        have hnot : isT ts a 1 notS = false := by simpa using hnot
        split at hs
        · rename_i hpar
          obtain ⟨r1, e1, rfl⟩ := Option.map_eq_some_iff.1 hs
          exact str_par hnot hpar (fun {K} hK => (ih _ _ _ _ e1 (by omega) hK).1 (by omega)) h (hbnd e1)
        · rename_i hpar
          rw [← Option.some.inj hs]
          exact str_cmp hg hnt h (by omega) hnot (by simpa using hpar)
    · rename_i hm2
      split at hs
      · rename_i hm
        refine ⟨fun _ => ?_, fun k hk => by omega⟩
        obtain ⟨r1, e1, e2⟩ := Option.bind_eq_some_iff.1 hs
        obtain ⟨K1, g1, g2⟩ := (ih _ _ _ _ e1 hl h).1 (by omega)
        have hloop : CndL H K1 rb lv ts rv sb lb lo (l.length + (ts.length - a) + 1) r m := by
          cases r1 with
          | none =>
            obtain ⟨l', c1, c2⟩ := g2
            rw [← Option.some.inj e2]
            exact str_done rfl c1 ⟨l', c1, c2⟩
          | some p =>
            have g2' : CndS H K1 rb lv ts (some p.2) rv sb lb lo p.1 := g2
            have b1 := hbnd e1 p rfl
            have b2 := hmon e1 p rfl
            have hp2 := g2'.rd.le
            obtain ⟨K2, c1, c2⟩ := (ih _ _ _ _ e2 (by omega) g2').2 m rfl hm
            refine ⟨K2, ?_, c2⟩
            cases r with
            | none => obtain ⟨l', d1, d2⟩ := c1; exact ⟨l', d1, by omega⟩
            | some q => exact c1
        refine cndC_of ?_
        refine acallsKex MixT Tryz.func67 (by decide) ?_
        rw [d67]
        have hcs : hcells K sb = some [cndF rv sb lb] := by rw [hcells_eq, h.cs]; rfl
        have hwk : IntKind.i64.wrap ((m : Int) + 1) = (m : Int) + 1 := wrap_i64 (by omega) (by omega)
        obtain ⟨K2, r1', r2⟩ := hloop
        obtain ⟨n, hn⟩ := r2 (fun v K' => v = .tuple #[] ∧ OutS H K' rb lv ts rv sb lb lo (l.length + (ts.length - a) + 1) r) ⟨rfl, r1'⟩
        have h2 : ((m : Int) == 2) = false := by simp; omega
        simp [h2]
        have fin : ∀ (s4 s7 s8 s9 s10 s11 s12 s13 s14 s15 s16 s17 s18 s19 s20 s21 s22 s23 s24 s25 s26 s27 s28 s29 s30 s31 s32 s33 s34 s35 s36 s37 s38 s39 s40 s41 s42 s43 s44 s45 s46 s47 s48 s49 s50 s51 s52 s53 s54 s55 s56 s57 s58 : Value), S67x0 (fun v K' => v = .tuple #[] ∧ OutS H K' rb lv ts rv sb lb lo (l.length + (ts.length - a) + 1) r) [i64 m, sP rv, sP sb, sP lb, s4, str (wordO m), byt (kindK m), s7, s8, s9, s10, s11, s12, s13, s14, s15, s16, s17, s18, s19, s20, s21, s22, s23, s24, s25, s26, s27, s28, s29, s30, s31, s32, s33, s34, s35, s36, s37, s38, s39, s40, s41, s42, s43, s44, s45, s46, s47, s48, s49, s50, s51, s52, s53, s54, s55, s56, s57, s58] K := by
          intro s4 s7 s8 s9 s10 s11 s12 s13 s14 s15 s16 s17 s18 s19 s20 s21 s22 s23 s24 s25 s26 s27 s28 s29 s30 s31 s32 s33 s34 s35 s36 s37 s38 s39 s40 s41 s42 s43 s44 s45 s46 s47 s48 s49 s50 s51 s52 s53 s54 s55 s56 s57 s58
          rw [S67x0q]
          simp [hcs, hwk]
          refine bndV_func (by simpa using g1) ?_
          exact ⟨n, hn _ _ _ _ _ _ _ _ _ _ _ _ _ _ _ _ _ _ _ _ _ _ _ _ _ _ _ _ _ _ _ _ _ _ _ _ _ _ _ _ _ _ _ _ _ _ _ _ _ _ _ _ _⟩
        refine kifB_bool (fun hq => ?_) (fun hq => ?_)
        · obtain rfl : m = 1 := by simp at hq; omega
          exact fin _ _ _ _ _ _ _ _ _ _ _ _ _ _ _ _ _ _ _ _ _ _ _ _ _ _ _ _ _ _ _ _ _ _ _ _ _ _ _ _ _ _ _ _ _ _ _ _ _ _ _ _ _
        · obtain rfl : m = 0 := by simp at hq; omega
          exact fin _ _ _ _ _ _ _ _ _ _ _ _ _ _ _ _ _ _ _ _ _ _ _ _ _ _ _ _ _ _ _ _ _ _ _ _ _ _ _ _ _ _ _ _ _ _ _ _ _ _ _ _ _
      · rename_i hm
        refine ⟨fun _ => by omega, fun k hk hk2 => ?_⟩
        subst hk
        rw [Nat.add_sub_cancel] at hs
        split at hs
        · rename_i hw
          obtain ⟨r1, e1, e2⟩ := Option.bind_eq_some_iff.1 hs
          have hlt := isT_lt hw
          refine str_more hk2 hw (fun {K} hK => (ih _ _ _ _ e1 (by omega) hK).1 (by omega)) hl (hbnd e1) (fun e => by subst e; exact (Option.some.inj e2).symm) (fun p hp {K'} hK' => ?_) h
          subst hp
          have b1 := hbnd e1 p rfl
          have b2 := hmon e1 p rfl
          have hp2 := hK'.rd.le
          obtain ⟨K2, c1, c2⟩ := (ih _ _ _ _ e2 (by simp only [List.length_append, List.length_cons, List.length_nil]; omega) hK').2 k rfl hk2
          refine ⟨K2, ?_, c2⟩
          cases r with
          | none => obtain ⟨l', d1, d2⟩ := c1; exact ⟨l', d1, by simp only [List.length_append, List.length_cons, List.length_nil] at d2; omega⟩
          | some q => exact c1
        · rename_i hw
          rw [← Option.some.inj hs]
          exact str_done (by simpa using hw) h h
end Go.Vi
namespace Go.Vi
open Go Go.Proofs

theorem strO_tot {ts : List Tok} : ∀ (f m a : Nat) (l : List Nod), (m ≤ 2 ∨ m = 10 ∨ m = 11) → 4 * (ts.length - a) + (if m ≤ 2 then 3 - m else 1) ≤ f → ∃ r, strO ts f m a l = some r := by
  intro f
  induction f with
  | zero => intro m a l hm h; split at h <;> omega
  | succ f ih =>
    intro m a l hm h
    simp only [strO]
    split
    · rename_i h2
      subst h2
      rw [if_pos (by omega)] at h
      split
      · rename_i hT
        have := isT_lt hT
        obtain ⟨r, hr⟩ := ih 2 (a + 1) l (by omega) (by simp; omega)
        exact ⟨_, by rw [hr]; rfl⟩
      · split
        · rename_i hT
          have := isT_lt hT
          obtain ⟨r, hr⟩ := ih 0 (a + 1) l (by omega) (by simp; omega)
          exact ⟨_, by rw [hr]; rfl⟩
        · exact ⟨_, rfl⟩
    · split
      · rename_i hm2
        rw [if_pos (by omega)] at h
        obtain ⟨r, hr⟩ := ih (m + 1) a l (by omega) (by rw [if_pos (by omega)]; omega)
        rw [hr]
        cases r with
        | none => exact ⟨none, rfl⟩
        | some p =>
          have := strO_len f hr
          exact ih (m + 10) p.2 p.1 (by omega) (by rw [if_neg (by omega)]; omega)
      · split
        · rename_i hT
          have := isT_lt hT
          rw [if_neg (by omega)] at h
          obtain ⟨r, hr⟩ := ih (m - 10 + 1) (a + 1) l (by omega) (by rw [if_pos (by omega)]; omega)
          rw [hr]
          cases r with
          | none => exact ⟨none, rfl⟩
          | some p =>
            have := strO_len f hr
            exact ih m p.2 _ hm (by rw [if_neg (by omega)]; omega)
        · exact ⟨_, rfl⟩
/-- The condition that is read from a token on: its nodes, and where it ends. -/
def conO (ts : List Tok) (a : Nat) : Option (List Nod × Nat) := (strO ts (4 * ts.length + 3) 0 a []).getD none
theorem conO_str (ts : List Tok) (a : Nat) : strO ts (4 * ts.length + 3) 0 a [] = some (conO ts a) := by
  obtain ⟨r, hr⟩ := strO_tot (ts := ts) (4 * ts.length + 3) 0 a [] (by omega) (by simp; omega)
  unfold conO
  rw [hr]; rfl
theorem g_condition {H K rb lv ts a} (hg : Pre Gs H) (hn : NumTok ts) (htl : ts.length ≤ 2 ^ 20) (h : RdS H K rb lv ts (some a)) :
    ∃ v K', ACalls Tryz.prog 40 [rP rb] K v K' ∧ RdS H K' rb lv ts ((conO ts a).map (·.2)) ∧ ∃ ns, NL K' (K.length + 3) v ns ∧ ns.length ≤ 2 ^ 21 ∧ ∀ p, conO ts a = some p → p.1 = ns := by
  have key : ∃ v K', (RdS H K' rb lv ts ((conO ts a).map (·.2)) ∧ ∃ ns, NL K' (K.length + 3) v ns ∧ ns.length ≤ 2 ^ 21 ∧ ∀ p, conO ts a = some p → p.1 = ns) ∧ ACalls Tryz.prog 40 [rP rb] K v K' := by
    refine acalls_ex MixT Tryz.func40 (by decide) ?_
    rw [d40]
    have hrb := h.lt
    have hrd : RdA H K rb lv ts a true := h
    have st : CndS H (K ++ [AObj.cells [rP rb] 79, AObj.cells [.slice none 0 0] 27, AObj.cells [cndF K.length (K.length + 2) (K.length + 1)] 107]) rb lv ts (some a) K.length (K.length + 2) (K.length + 1) (K.length + 3) [] :=
      ⟨h.app _, by simp, by simp, ⟨.slice none 0 0, by simp, [], .nil, rfl, by simp⟩, hrb, by omega, by omega, by omega, by simp, hrd.hb⟩
    obtain ⟨K1, g1, g2⟩ := (g_str hg hn _ 0 a [] _ (conO_str ts a) (by simp; omega) st).1 (by omega)
    simp [aNew]
    refine bndV_func (by simpa using g1) ?_
    have hle := h.le
    obtain ⟨st', ns, c1, c2, c3, c4⟩ : ∃ (st' : Option Nat) (ns : List Nod), CndS H K1 rb lv ts st' K.length (K.length + 2) (K.length + 1) (K.length + 3) ns ∧ st' = (conO ts a).map (·.2) ∧ ns.length ≤ 2 ^ 21 ∧ ∀ p, conO ts a = some p → p.1 = ns := by
      have hlen := fun l' b (hq : conO ts a = some (l', b)) => strO_len (ts := ts) (4 * ts.length + 3) (m := 0) (a := a) (l := []) (l' := l') (b := b) (by rw [conO_str, hq])
      cases hc : conO ts a with
      | none => rw [hc] at g2; obtain ⟨l', e1, e2⟩ := g2; exact ⟨none, l', e1, rfl, by simp at e2; omega, by simp⟩
      | some p =>
        rw [hc] at g2
        have g2' : CndS H K1 rb lv ts (some p.2) K.length (K.length + 2) (K.length + 1) (K.length + 3) p.1 := g2
        have q1 := hlen p.1 p.2 hc
        have q2 := g2'.rd.le
        simp only [List.length_nil] at q1
        exact ⟨some p.2, p.1, g2', rfl, by omega, fun q hq => by cases hq; rfl⟩
    obtain ⟨v, hv1, hv2⟩ := c1.cl
    have hcl : hcells K1 (K.length + 1) = some [v] := by rw [hcells_eq, hv1]; rfl
    simp [hcl]
    refine ⟨by rw [← c2]; exact c1.rd, ns, hv2, c3, fun l b hq => c4 (l, b) hq⟩
  obtain ⟨v, K', h, hy⟩ := key
  exact ⟨v, K', hy, h⟩
theorem arr_cell {H z v l} (h : Arr H z v l) : v.cells = #[v] ∧ storable v = true := by cases h <;> exact ⟨rfl, rfl⟩
/-- What Read tells: nodes, where they end, an error. -/
def readF (ts : List Tok) (at' : Int) : List Nod × Int × Int := if at' < 0 ∨ at' ≥ ts.length then ([], 0, 100) else match conO ts at'.toNat with
  | none => ([], 0, 100)
  | some p => if (p.1.length : Int) > 31 then ([], 0, 4) else (p.1, p.2, 0)
theorem NodesAt.nil {H : AHeap} : NodesAt H (.slice none 0 0) [] := ⟨[], .nil, rfl, fun i n h => by simp at h⟩
theorem g_read {H lv ts} {at' : Int} (hg : Pre Gs H) (hn : NumTok ts) (htl : ts.length ≤ 2 ^ 20) (hts : ToksAt H lv ts) :
    ∃ v K', ACalls Tryz.prog 18 [lv, i64 at'] H (.tuple #[v, i64 (readF ts at').2.1, i64 (readF ts at').2.2]) K' ∧ Pre H K' ∧ NodesAt K' v (readF ts at').1 ∧ ((readF ts at').2.2 ≠ 0 → v = .slice none 0 0) := by
  have key : ∃ v K', (∃ u, v = .tuple #[u, i64 (readF ts at').2.1, i64 (readF ts at').2.2] ∧ Pre H K' ∧ NodesAt K' u (readF ts at').1 ∧ ((readF ts at').2.2 ≠ 0 → u = .slice none 0 0)) ∧ ACalls Tryz.prog 18 [lv, i64 at'] H v K' := by
    refine acalls_ex MixT Tryz.func18 (by decide) ?_
    rw [d18]
    have hl0 := hts.len (P := Tryz.prog) (T := 23) (e := 70) (by simp)
    simp at hl0
    by_cases h0 : at' < 0
    · simp [h0, readF]
      exact ⟨.refl _, .nil⟩
    by_cases h1 : at' ≥ ts.length
    · have h1' : (ts.length : Int) ≤ at' := h1
      simp [h0, hl0, h1', readF]
      exact ⟨.refl _, .nil⟩
    have h1' : ¬ (ts.length : Int) ≤ at' := h1
    have hat : ((at'.toNat : Nat) : Int) = at' := by omega
    have hrd : RdA H (H ++ [rdo lv at'.toNat true]) H.length lv ts at'.toNat true := ⟨hts, .app _ _, Nat.le_refl _, by simp, by omega, by omega⟩
    obtain ⟨v, K1, g1, g2, ns, g3, g4, g5⟩ := g_condition hg hn htl (a := at'.toNat) hrd
    have hb1 := Arr.one hts
    obtain ⟨hb2, hb3⟩ := arr_cell hts
    simp only [rdo, hat] at g1
    simp [h0, hl0, h1', aNew, hb1, hb2, hb3]
    refine bndC_of g1 ?_
    have hpre := g2.pre
    obtain ⟨a1, c1, c2, c3, _⟩ := RdS.cells g2
    have hcc : hcells K1 H.length = some [lv, i64 a1, .bool ((conO ts at'.toNat).map (·.2)).isSome] := by rw [hcells_eq, c1]; rfl
    have hll : Vi.hlen K1 H.length = some 3 := by unfold Vi.hlen; rw [c1]; rfl
    have hnl := g3.len K1
    have hcond : ¬ (at' < 0 ∨ at' ≥ ts.length) := by omega
    unfold readF
    rw [if_neg hcond]
    cases hc : conO ts at'.toNat with
    | none =>
      rw [hc] at hcc
      simp [hcc, hll]
      exact ⟨hpre, .nil⟩
    | some p =>
      rw [hc] at hcc c3
      have e := g5 p hc
      subst e
      have ea := c3 p.2 rfl
      subst ea
      by_cases h31 : (p.1.length : Int) > 31
      · have h31' : (31 : Int) < p.1.length := by omega
        simp [hcc, hll, hnl, h31']
        exact ⟨hpre, .nil⟩
      · have h31' : ¬ (31 : Int) < p.1.length := by omega
        simp [hcc, hll, hnl, h31']
        exact ⟨hpre, g3.nodes⟩
  obtain ⟨v, K', ⟨u, rfl, h1, h2⟩, hy⟩ := key
  exact ⟨u, K', hy, h1, h2⟩
/-! ### The tokens of a text -/
theorem textF_acc : ∀ (f : Nat) (r acc : List UInt8) (c : Nat), r.length ≤ f → (textF r acc c).1.length ≤ acc.length + r.length := by
  intro f
  induction f with
  | zero => intro r acc c h; have : r = [] := List.eq_nil_of_length_eq_zero (by omega); subst this; simp [textF]
  | succ f ih =>
    intro r acc c h
    cases r with
    | nil => simp [textF]
    | cons b r =>
      rw [textF_cons]
      simp at h
      split
      · split
        · simp
        · split
          · cases r with
            | nil => simp
            | cons e r =>
              simp only
              split
              · have := ih r (acc ++ [e]) (c + 2) (by simp at h; omega); simp at this ⊢; omega
              · simp
          · have := ih r (acc ++ [b]) (c + 1) (by omega); simp at this ⊢; omega
      · simp
theorem mem_takeWhile {p : UInt8 → Bool} : ∀ {s : List UInt8} {b : UInt8}, b ∈ s.takeWhile p → p b = true := by
  intro s
  induction s with
  | nil => intro b h; simp at h
  | cons x r ih =>
    intro b h
    rw [List.takeWhile_cons] at h
    split at h
    · rcases List.mem_cons.1 h with rfl | h
      · assumption
      · exact ih h
    · simp at h
theorem runF_take (p : UInt8 → Bool) (s : List UInt8) : s.take (runF p s) = s.takeWhile p := by
  unfold runF
  exact (List.prefix_iff_eq_take.1 (List.takeWhile_prefix p)).symm
theorem numLen_mem (s : List UInt8) : ∀ b ∈ s.take (numLen s), isDig b = true ∨ b = 46 := by
  intro b hb
  unfold numLen at hb
  split at hb
  · rename_i h
    simp only [Bool.and_eq_true, Option.any_eq_true, beq_iff_eq] at h
    obtain ⟨⟨e, he, h46⟩, _⟩ := h
    rw [List.take_add] at hb
    rcases List.mem_append.1 hb with hb | hb
    · rw [runF_take] at hb; exact .inl (mem_takeWhile hb)
    · have hd : s.drop (runF isDig s) = e :: s.drop (runF isDig s + 1) := by
        have hlt := (List.getElem?_eq_some_iff.1 he).1
        rw [List.drop_eq_getElem_cons hlt, (List.getElem?_eq_some_iff.1 he).2]
      rw [hd, Nat.add_comm 1, List.take_succ_cons, runF_take] at hb
      rcases List.mem_cons.1 hb with rfl | hb
      · right
        have : b.toNat = (46 : UInt8).toNat := by have : (46 : UInt8).toNat = 46 := rfl; omega
        exact UInt8.toNat_inj.1 this
      · exact .inl (mem_takeWhile hb)
  · rw [runF_take] at hb; exact .inl (mem_takeWhile hb)
theorem oneF_num {s : List UInt8} {a : Nat} (hs : s.length ≤ 4096) : (oneF s a).1.text.length < 2 ^ 20 ∧ ((oneF s a).1.kind = 2 → (∀ b ∈ (oneF s a).1.text, isDig b = true ∨ b = 46) ∧ ∀ b r, (oneF s a).1.text = b :: r → isDig b = true) := by
  cases s with
  | nil => simp [oneF]
  | cons b r =>
    simp only [oneF]
    simp only [List.length_cons] at hs
    split
    · exact ⟨by simp only [List.length_take, List.length_cons]; omega, fun h => by cases h⟩
    · split
      · rename_i hd
        refine ⟨by simp only [List.length_take, List.length_cons]; omega, fun _ => ⟨numLen_mem _, fun c q hq => ?_⟩⟩
        cases hn : numLen (b :: r) with
        | zero => rw [hn] at hq; simp at hq
        | succ n => rw [hn, List.take_succ_cons] at hq; cases hq; exact hd
      · split
        · have := textF_acc r.length r [] 1 (Nat.le_refl _)
          exact ⟨by simp at this ⊢; omega, fun h => by cases h⟩
        · exact ⟨by simp only [List.length_take, List.length_cons]; omega, fun h => by cases h⟩
theorem lexF_mem (l : List UInt8) (hl : l.length ≤ 4096) : ∀ (f a : Nat), ∀ t ∈ (lexF l f a).1, t.text.length < 2 ^ 20 ∧ (t.kind = 2 → (∀ b ∈ t.text, isDig b = true ∨ b = 46) ∧ ∀ b r, t.text = b :: r → isDig b = true) := by
  intro f
  induction f with
  | zero => intro a t h; simp [lexF] at h
  | succ f ih =>
    intro a t h
    simp only [lexF] at h
    split at h
    · split at h
      · simp at h
      · rcases List.mem_cons.1 h with rfl | h
        · exact oneF_num (by simp; omega)
        · exact ih _ t h
    · simp at h
theorem lexF_len (l : List UInt8) : ∀ (f a : Nat), (lexF l f a).1.length ≤ f := by
  intro f
  induction f with
  | zero => intro a; simp [lexF]
  | succ f ih =>
    intro a
    simp only [lexF]
    split
    · split
      · simp
      · have := ih (skipN l (a + (oneF (l.drop a) a).2)); simp; omega
    · simp
theorem allTok_ok {l : List UInt8} : NumTok (allTok l).1 ∧ (allTok l).1.length ≤ 4097 := by
  unfold allTok
  split
  · exact ⟨fun a t h => by simp at h, by simp⟩
  · split
    · refine ⟨fun a t h => ?_, ?_⟩
      · exact lexF_mem l (by omega) _ _ t (List.mem_of_getElem? h)
      · have := lexF_len l (l.length + 1) (skipN l 0); simp only; omega
    · exact ⟨fun a t h => by simp at h, by simp⟩
/-- What Parse tells. -/
def parseF (s : List UInt8) : List Nod × Int := if (allTok s).2.2 ≠ 0 then ([], (allTok s).2.2) else match conO (allTok s).1 0 with
  | none => ([], 100)
  | some p => if p.2 ≠ (allTok s).1.length then ([], 100) else if (p.1.length : Int) > 31 then ([], 4) else (p.1, 0)
theorem conO_nil : conO [] 0 = none := by kernel_rfl
theorem g_parse {H : AHeap} {s : List UInt8} (hg : Pre Gs H) :
    ∃ v K', ACalls Tryz.prog 17 [str s] H (.tuple #[v, i64 (parseF s).2]) K' ∧ Pre H K' ∧ NodesAt K' v (parseF s).1 := by
  have key : ∃ v K', (∃ u, v = .tuple #[u, i64 (parseF s).2] ∧ Pre H K' ∧ NodesAt K' u (parseF s).1) ∧ ACalls Tryz.prog 17 [str s] H v K' := by
    refine acalls_ex MixT Tryz.func17 (by decide) ?_
    rw [d17]
    obtain ⟨v, K1, ⟨lv, rfl, g1, g2⟩, g3⟩ := c_lexAll H s
    refine bndC_of g3 ?_
    obtain ⟨hn, hlen⟩ := allTok_ok (l := s)
    by_cases he : (allTok s).2.2 = 0
    · have hp : parseF s = match conO (allTok s).1 0 with
          | none => ([], 100)
          | some p => if p.2 ≠ (allTok s).1.length then ([], 100) else if (p.1.length : Int) > 31 then ([], 4) else (p.1, 0) := by unfold parseF; rw [if_neg (by simpa using he)]
      obtain ⟨u, K2, q1, q2, q3, q4⟩ := g_read (at' := 0) (hg.trans g1) hn (by omega) g2
      have hl0 := fun J => g2.len' (K := J) (P := Tryz.prog) (T := 23) (e := 70) (by simp)
      simp at hl0
      simp [he]
      rw [hp]
      have hr : readF (allTok s).1 0 = match conO (allTok s).1 0 with
          | none => ([], 0, 100)
          | some p => if (p.1.length : Int) > 31 then ([], 0, 4) else (p.1, p.2, 0) := by
        unfold readF
        by_cases hts : (0 : Int) ≥ (allTok s).1.length
        · have : (allTok s).1 = [] := List.eq_nil_of_length_eq_zero (by omega)
          rw [if_pos (.inr hts), this, conO_nil]
        · rw [if_neg (by omega)]; rfl
      cases hc : conO (allTok s).1 0 with
      | none =>
        rw [hc] at hr
        rw [hr] at q1 q3 q4
        refine bndC_of q1 ?_
        simp
        exact ⟨g1.trans q2, .nil⟩
      | some p =>
        rw [hc] at hr
        simp only at hr ⊢
        by_cases h31 : (p.1.length : Int) > 31
        · rw [if_pos h31] at hr
          rw [hr] at q1 q3 q4
          have h31' : (31 : Int) < p.1.length := h31
          refine bndC_of q1 ?_
          simp
          have hrd : RdA K1 (K2 ++ [rdo lv 0 true]) K2.length lv (allTok s).1 0 true := ⟨g2, q2.more _, by obtain ⟨X, hX⟩ := q2; rw [hX]; simp, by simp, by omega, by omega⟩
          obtain ⟨v3, K3, r1, r2, ns, r3, _, _⟩ := g_condition (hg.trans g1) hn (by omega) (a := 0) hrd
          obtain ⟨hb2, hb3⟩ := arr_cell g2
          have hb1 := Arr.one g2
          simp only [rdo, show ((0 : Nat) : Int) = 0 from rfl] at r1
          simp [aNew, hb1, hb2, hb3]
          refine bndC_of r1 ?_
          rw [hc] at r2
          have hr2 : RdA K1 K3 K2.length lv (allTok s).1 p.2 true := r2
          have hcc : hcells K3 K2.length = some [lv, i64 p.2, .bool true] := by rw [hcells_eq, hr2.cell]; rfl
          have hll : Vi.hlen K3 K2.length = some 3 := by unfold Vi.hlen; rw [hr2.cell]; rfl
          simp [hcc, hll]
          rw [S17x0q]
          simp [hl0]
          by_cases hb : p.2 = (allTok s).1.length
          · simp [hb, h31', q4 (by simp)]; exact ⟨g1.trans hr2.pre, .nil⟩
          · have hb' : ((p.2 : Int) != (allTok s).1.length) = true := by simp; omega
            simp [hb, hb']; exact ⟨g1.trans hr2.pre, .nil⟩
        · rw [if_neg h31] at hr
          rw [hr] at q1 q3 q4
          have h31' : ¬ (31 : Int) < p.1.length := h31
          refine bndC_of q1 ?_
          simp [h31']
          rw [S17x0q]
          simp [hl0]
          by_cases hb : p.2 = (allTok s).1.length
          · simp [hb]; exact ⟨g1.trans q2, q3⟩
          · have hb' : ((p.2 : Int) != (allTok s).1.length) = true := by simp; omega
            simp [hb, hb']; exact ⟨g1.trans q2, .nil⟩
    · have hp : parseF s = ([], (allTok s).2.2) := by unfold parseF; rw [if_pos he]
      rw [hp]
      have he' : ((allTok s).2.2 != 0) = true := by simpa using he
      simp [he']
      exact ⟨g1, .nil⟩
  obtain ⟨v, K', ⟨u, rfl, h1, h2⟩, hy⟩ := key
  exact ⟨u, K', hy, h1, h2⟩
end Go.Vi
namespace Go.Vi
open Go Go.Proofs

theorem NodesAt.take {H : AHeap} {v : Value} {ns : List Nod} {j : Nat} (h : NodesAt H v ns) (hj : j ≤ ns.length) : ∃ t, aSliceOp Tryz.prog H 27 v none (some (i64 j)) = some t ∧ NodesAt H t (ns.take j) := by
  obtain ⟨cl, ha, hcl, hc⟩ := h
  have hres : ∀ (i : Nat) n, (ns.take j)[i]? = some n → ∃ sv, (cl.take j)[i]? = some (n.cells sv) ∧ MatsAt H sv n.sel ∧ n.sel.length < 2 ^ 63 := by
    intro i n hi
    have hij : i < j := by have := (List.getElem?_eq_some_iff.1 hi).1; simp at this; omega
    rw [List.getElem?_take_of_lt hij] at hi
    obtain ⟨sv, q1, q2⟩ := hc i n hi
    exact ⟨sv, by rw [List.getElem?_take_of_lt hij]; exact q1, q2⟩
  have hu : Tryz.prog.underlying 27 = some (.slice 37) := by simp
  have hz : tsize Tryz.prog 37 = some 8 := by simp
  cases ha with
  | nil =>
    simp at hcl
    have : j = 0 := by omega
    subst this
    refine ⟨.slice none 0 0, ?_, [], .nil, by simp, fun i n hi => by simp at hi⟩
    simp [aSliceOp, aLow, aHigh, hu, hz]
  | mk b o m n c cs l hn hcs hm hle hel hnc =>
    have hl : hlen H b = some m := by rw [← hm]; exact hcells_len hcs
    have h8 : o + j * 8 ≤ m := by have : j * 8 ≤ n * 8 := by omega
                                  omega
    have harr : Arr H 8 (.slice (some ⟨b, o, some m⟩) j c) (cl.take j) := by
      refine .mk b o m j c cs _ (by simp; omega) hcs hm h8 (fun i e hi => ?_) (by omega)
      have hij : i < j := by have := (List.getElem?_eq_some_iff.1 hi).1; simp at this; omega
      rw [List.getElem?_take_of_lt hij] at hi
      exact hel i e hi
    refine ⟨.slice (some ⟨b, o, some m⟩) j c, ?_, cl.take j, harr, by simp; omega, hres⟩
    simp only [aSliceOp, hu, hz, aLow, aHigh]
    rw [if_pos ⟨hl, by omega, by omega, by omega, .inl trivial⟩]
    simp
section
variable {H : AHeap} {ns : List Nod} {v : Value} {k : Value → AHeap → Prop}
end
end Go.Vi
namespace Go.Vi
open Go Go.Proofs

def tA : List UInt8 := [99, 111, 117, 110, 116, 40, 123, 125, 91, 53, 93, 41, 32, 62, 32, 51]
def tZ : List UInt8 := [99, 111, 117, 110, 116, 40, 123, 125, 91, 48, 93, 41, 32, 62, 32, 49]
def tB : List UInt8 := tA ++ [32, 97, 110, 100]
def tS : List UInt8 := [110, 111, 116, 32, 40] ++ tA ++ [32, 111, 114, 32] ++ tA ++ [41, 32, 97, 110, 100, 32] ++ tA
def nA : Nod := cmpNod 0 5 2 3000
def nS : List Nod := [nA, nA, ⟨2, 0, [], 0, 0, 0, 0, 1⟩, ⟨3, 0, [], 0, 0, 0, 2, 0⟩, nA, ⟨1, 0, [], 0, 0, 0, 3, 4⟩]
theorem pA : parseF tA = ([nA], 0) := by kernel_rfl
theorem pS : parseF tS = (nS, 0) := by kernel_rfl
theorem pB : (parseF tB).2 = 100 ∧ (parseF tZ).2 = 100 := ⟨by kernel_rfl, by kernel_rfl⟩
theorem prS : printS nS = tS := by kernel_rfl
theorem riS : right nS = true ∧ right (nS.take 2) = false := ⟨by kernel_rfl, by kernel_rfl⟩
theorem node_at {H : AHeap} {v : Value} {ns : List Nod} {i : Nat} {n : Nod} (h : NodesAt H v ns) (hi : ns[i]? = some n) : ∃ p, aIndexAddr Tryz.prog H 27 v (i64 i) = some p ∧
    ∀ (f d : Nat) (ft : TypeId) (x : Value), afield Tryz.prog 37 f = some (d, ft) → tsize Tryz.prog ft = some 1 → tagg Tryz.prog ft = some false → (∀ sv, (n.cells sv)[d]? = some x) → ∃ q, aFieldAddr Tryz.prog H 37 p f = some q ∧ aLoad Tryz.prog H ft q = some x := by
  obtain ⟨cl, ha, hcl, hc⟩ := h
  obtain ⟨sv, h1, h2, h3⟩ := hc _ _ hi
  obtain ⟨p, hp, _⟩ := ha.load (P := Tryz.prog) (T := 27) (te := 37) (i := i) (e := n.cells sv) (by simp) (by simp) (by simp) h1
  refine ⟨p, hp, fun f d ft x a1 a2 a3 a4 => ?_⟩
  obtain ⟨p', q, e1, e2, e3⟩ := ha.field (P := Tryz.prog) (T := 27) (te := 37) (ft := ft) (f := f) (d := d) (i := i) (x := x) (by simp) (by simp) a1 a2 a3 h1 (a4 sv)
  rw [hp] at e1
  cases e1
  exact ⟨q, e2, e3⟩
set_option maxRecDepth 20000 in
theorem c_awake {H : AHeap} (hg : Pre Gs H) : ACalls Tryz.prog 15 [] H (.bool true) H := by
  refine acalls_pure MixT Tryz.func15 (by decide) rfl ?_
  rw [d15]
  obtain ⟨v1, K1, a1, p1, n1⟩ := g_parse (s := tA) hg
  rw [pA] at a1 n1
  refine bndC_of a1 ?_
  simp only [bnd_some, tupV, List.getElem?_toArray, List.getElem?_cons_zero, List.getElem?_cons_succ]
  refine bnd_of (v := str ([110, 111, 116, 32, 40] ++ tA)) (aBin_str (a := [110, 111, 116, 32, 40]) (b := tA) (by decide)) ?_
  dsimp only
  refine bnd_of (aBin_str (b := [32, 111, 114, 32]) (by decide)) ?_
  dsimp only
  refine bnd_of (aBin_str (b := tA) (by decide)) ?_
  dsimp only
  refine bnd_of (aBin_str (b := [41, 32, 97, 110, 100, 32]) (by decide)) ?_
  dsimp only
  refine bnd_of (aBin_str (b := tA) (by decide)) ?_
  dsimp only
  obtain ⟨v2, K2, a2, p2, n2⟩ := g_parse (s := tS) (hg.trans p1)
  rw [pS] at a2 n2
  refine bndC_of a2 ?_
  simp only [bnd_some, tupV, List.getElem?_toArray, List.getElem?_cons_zero, List.getElem?_cons_succ]
  refine bnd_of (v := str tB) (aBin_str (a := tA) (b := [32, 97, 110, 100]) (by decide)) ?_
  dsimp only
  obtain ⟨v3, K3, a3, p3, n3⟩ := g_parse (s := tB) ((hg.trans p1).trans p2)
  rw [pB.1] at a3
  refine bndC_of a3 ?_
  simp only [bnd_some, tupV, List.getElem?_toArray, List.getElem?_cons_zero, List.getElem?_cons_succ]
  obtain ⟨v4, K4, a4, p4, n4⟩ := g_parse (s := tZ) (((hg.trans p1).trans p2).trans p3)
  rw [pB.2] at a4
  refine bndC_of a4 ?_
  have m1 := n1.pre (p2.trans (p3.trans p4))
  have m2 := n2.pre (p3.trans p4)
  have hgK := (((hg.trans p1).trans p2).trans p3).trans p4
  have hpK := ((p1.trans p2).trans p3).trans p4
  clear n1 n2 n3 n4 a1 a2 a3 a4
  have l1 := m1.len K4
  have l2 := m2.len K4
  obtain ⟨q1, b1, b2⟩ := node_at m1 (i := 0) (n := nA) rfl
  obtain ⟨x3, c3, d3⟩ := b2 3 3 3 (i64 5) (by simp) (by simp) (by simp) (fun _ => rfl)
  obtain ⟨x4, c4, d4⟩ := b2 4 4 5 (.int .u8 2) (by simp) (by simp) (by simp) (fun _ => rfl)
  obtain ⟨x5, c5, d5⟩ := b2 5 5 2 (i64 3000) (by simp) (by simp) (by simp) (fun _ => rfl)
  obtain ⟨q2, e1, e2⟩ := node_at m2 (i := 2) rfl
  obtain ⟨y0, f0, g0⟩ := e2 0 0 5 (.int .u8 2) (by simp) (by simp) (by simp) (fun _ => rfl)
  obtain ⟨y7, f7, g7⟩ := e2 7 7 3 (i64 1) (by simp) (by simp) (by simp) (fun _ => rfl)
  obtain ⟨q3, h1, h2⟩ := node_at m2 (i := 3) rfl
  obtain ⟨z0, i0, j0⟩ := h2 0 0 5 (.int .u8 3) (by simp) (by simp) (by simp) (fun _ => rfl)
  obtain ⟨z6, i6, j6⟩ := h2 6 6 3 (i64 2) (by simp) (by simp) (by simp) (fun _ => rfl)
  obtain ⟨q5, k1, k2⟩ := node_at m2 (i := 5) rfl
  obtain ⟨w0, r0, s0⟩ := k2 0 0 5 (.int .u8 1) (by simp) (by simp) (by simp) (fun _ => rfl)
  obtain ⟨w6, r6, s6⟩ := k2 6 6 3 (i64 3) (by simp) (by simp) (by simp) (fun _ => rfl)
  obtain ⟨w7, r7, s7⟩ := k2 7 7 3 (i64 4) (by simp) (by simp) (by simp) (fun _ => rfl)
  simp only [show ((0 : Nat) : Int) = 0 from rfl, show ((2 : Nat) : Int) = 2 from rfl, show ((3 : Nat) : Int) = 3 from rfl, show ((5 : Nat) : Int) = 5 from rfl] at b1 e1 h1 k1
  simp [l1, l2, nS, b1, c3, d3, c4, d4, c5, d5, e1, f0, g0, f7, g7, h1, i0, j0, i6, j6, k1, r0, s0, r6, s6, r7, s7]
  have hpr := c_exprPrint hgK m2
  rw [show printS (nS, (0 : Int)).1 = tS from prS] at hpr
  refine bndG_t (str tS) K4 hpr ?_
  clear b1 e1 h1 k1 b2 e2 h2 k2 c3 d3 c4 d4 c5 d5 f0 g0 f7 g7 i0 j0 i6 j6 r0 s0 r6 s6 r7 s7
  simp only [gif_tt, bnd_some]
  refine bnd_of (v := str ([110, 111, 116, 32, 40] ++ tA)) (aBin_str (a := [110, 111, 116, 32, 40]) (b := tA) (by decide)) ?_
  simp only [gif_tt]
  refine bnd_of (aBin_str (b := [32, 111, 114, 32]) (by decide)) ?_
  simp only [gif_tt, bnd_some]
  refine bnd_of (aBin_str (b := tA) (by decide)) ?_
  simp only [gif_tt]
  refine bnd_of (aBin_str (b := [41, 32, 97, 110, 100, 32]) (by decide)) ?_
  simp only [gif_tt, bnd_some]
  refine bnd_of (aBin_str (b := tA) (by decide)) ?_
  simp only [gif_tt]
  refine bnd_of (v := .bool true) (by rw [aBin_seql]; exact congrArg some (congrArg Value.bool (decide_eq_true rfl))) ?_
  simp
  have hr1 := c_right m2
  rw [show right (nS, (0 : Int)).1 = true from riS.1] at hr1
  refine bndG_t (.bool true) K4 hr1 ?_
  obtain ⟨t, t1, t2⟩ := m2.take (j := 2) (by decide)
  simp at t1
  simp [t1]
  have hr2 := c_right t2
  rw [show right ((nS, (0 : Int)).1.take 2) = false from riS.2] at hr2
  refine bndG_t (.bool false) K4 hr2 ?_
  simp
  exact hpK
end Go.Vi
namespace Go.Vi
open Go Go.Proofs

theorem acallsG_flat {P : Program} {D : DrawK} (hD : ∀ c : Ctx, @SoundK c P D) {f fn args H v} (hf : P.funcs[f]? = some fn) (hn : notNG fn = true) (hc : flat v = true) (hr : kbodyG P D fn args H fun u H2 => u = v ∧ ∃ X, H2 = H ++ X) : ACalls P f args H v H := by
  intro w0 s w args' h hargs
  left
  unfold kbodyG at hr
  split at hr
  · rename_i c hb
    constructor
    · have hq : ¬ fn.name = "runtime.NumGoroutine" := by intro q; simp [notNG, q] at hn
      have hbn : ¬ fn.body = none := by rw [hb]; simp
      simp [callFunc, hf, hq, hbn]
    · letI : Ctx := ⟨[], none⟩
      refine callsIn_wide.1 (callsIn_of_wp_marks (F := Fence.wide) (n := 0) hf hb trivial ?_ rfl)
      have hal : args.length = args'.size := by have := hargs.1; simpa using this
      have ha : ARel s H (args ++ List.replicate (fn.ntmps - args.length) undef) { tmps := args' ++ Array.replicate (fn.ntmps - args'.size) undef, defers := [] } := by
        refine ⟨?_, rfl⟩
        simp only [Array.toList_append, Array.toList_replicate, hal]
        refine hargs.append ⟨by simp, fun i x y hx hy => ?_⟩
        rw [List.getElem?_replicate] at hx hy
        split at hx
        · rename_i hi
          rw [if_pos hi] at hy
          cases hx; cases hy
          exact undef_rel _ _
        · cases hx
      refine kxG_sound hD c h ha ⟨[], rfl, .nil _ _⟩ hr ?_
      have fin : ∀ {sl' H2 m' s' a' w' ds'}, WRel w0 s' H2 w' → Ext s H s' H2 → @ARel ⟨ds', none⟩ s' H2 sl' a' → MarkRel s' H2 m' ds' → kmarks (fun H2 => kres P sl' H2 fn.results.toList fun l => retV l = v ∧ ∃ X, H2 = H ++ X) m' H2 →
          LeavesInM Fence.wide 0 P fn a'.tmps (AEnd w0 s H v H) a'.defers .returning w' := by
        intro sl' H2 m' s' a' w' ds' g1 g2 g3 g4 hk
        have hd : a'.defers = ds' := @ARel.d ⟨ds', none⟩ _ _ _ _ g3
        rw [hd]
        refine kmarks_leave m' g1 g2 (@ARel.r ⟨ds', none⟩ _ _ _ _ g3) g4 hk ?_
        intro s5 H5 w5 q1 q2 q3 q4
        obtain ⟨l, h1, rfl, X, rfl⟩ := kres_sound _ q4
        obtain ⟨v', k1, k2⟩ := run_ret (P := P) (a := { tmps := a'.tmps, defers := [] }) fn q1.h ⟨q3, rfl⟩ (aRet_of h1)
        exact ⟨v', k1, s, v', rfl, h.forget q1 q2, Ext.refl _ _, by rw [k2.flat_eq hc]; exact flat_rel hc s H⟩
      intro e sl' H2 m' hk s' a' w' ds' g1 g2 g3 g4
      cases e with
      | exit i => cases hk
      | normal => exact fin g1 g2 g3 g4 hk
      | ret => exact fin g1 g2 g3 g4 hk
  · cases hr
/-! ### Matchers -/
theorem mat_guard (m : Mat) (x y : Operand) : pv Tryz.prog (eqGuard .neq 75 x y (.agg m.cells.toArray) (.agg m.cells.toArray)) = some () := by kernel_rfl
theorem pv_str {P : Program} {T : TypeId} {d : Nat} {a : ByteArray} (h : P.underlying T = some .string) : pv P (Op.equalIn (d + 1) T (.string a) (.string a)) = some true := by
  have e : (a == a) = true := by
    obtain ⟨⟨x⟩⟩ := a
    show ((⟨x⟩ : Array UInt8) == ⟨x⟩) = true
    simp
  unfold Op.equalIn
  rw [pv_bind, pv_und h]
  simp [pv_pure, e]
theorem pv_int {P : Program} {T : TypeId} {d : Nat} {k k' : IntKind} {n : Int} (h : P.underlying T = some (.int k')) : pv P (Op.equalIn (d + 1) T (.int k n) (.int k n)) = some true := by
  unfold Op.equalIn
  rw [pv_bind, pv_und h]
  simp [pv_pure]
theorem pv_prog {P : Program} : pv P program = some P := rfl
theorem mat_eq (m : Mat) : pv Tryz.prog (Op.equal 75 (.agg m.cells.toArray) (.agg m.cells.toArray)) = some true := by
  show pv Tryz.prog (Op.equalIn (9998 + 1 + 1) 75 _ _) = _
  have hs : Tryz.prog.stoodInHeld 75 = false := by kernel_rfl
  have p0 : pv Tryz.prog (part 9 m.cells.toArray 0) = some (str m.name) := by kernel_rfl
  have p1 : pv Tryz.prog (part 5 m.cells.toArray 1) = some (.int .u8 m.op) := by kernel_rfl
  have p2 : pv Tryz.prog (part 9 m.cells.toArray 2) = some (str m.value) := by kernel_rfl
  have e0 : ∀ s : List UInt8, pv Tryz.prog (Op.equalIn (9998 + 1) 9 (str s) (str s)) = some true := fun s => pv_str (by simp)
  have e1 : pv Tryz.prog (Op.equalIn (9998 + 1) 5 (.int .u8 m.op) (.int .u8 m.op)) = some true := pv_int (k' := .u8) (by simp)
  rw [Op.equalIn]
  rw [pv_bind, pv_und (by simp; rfl)]
  simp only [Option.bind_some]
  simp [pv_bind, pv_prog, hs, p0, p1, p2, e0, e1, pv_pure]
theorem aBin_mat {H : AHeap} {x y : Operand} (m : Mat) : aBin2 Tryz.prog H .neq 75 x y (.agg m.cells.toArray) (.agg m.cells.toArray) = some (.bool false) := by
  apply aBin2_of
  have : pv Tryz.prog (do eqGuard .neq 75 x y (.agg m.cells.toArray) (.agg m.cells.toArray); binOp .neq 75 (.agg m.cells.toArray) (.agg m.cells.toArray)) = some (.bool false) := by
    rw [pv_bind, mat_guard, Option.bind_some]
    show pv Tryz.prog (Op.equal 75 (.agg m.cells.toArray) (.agg m.cells.toArray) >>= fun r => pure (Value.bool !r)) = _
    rw [pv_bind, mat_eq]; rfl
  unfold aBin
  rw [if_pos ⟨rfl, rfl⟩, this]; rfl
theorem sameM_loop {H : AHeap} {v1 v2 : Value} {ms : List Mat} {k : Value → AHeap → Prop} (h1 : MatsAt H v1 ms) (h2 : MatsAt H v2 ms) (hl : ms.length < 2 ^ 63) (hk : k (.bool true) H) :
    ∀ (n i : Nat) (s2 s3 s4 s6 s7 s8 s9 s10 s11 s12 s13 s14 s15 s16 s17 s18 s19 s20 s21 s22 s23 s24 s25 : Value), n + i = ms.length → L41x0 (n + 1) k [v1, v2, s2, s3, s4, i64 i, s6, s7, s8, s9, s10, s11, s12, s13, s14, s15, s16, s17, s18, s19, s20, s21, s22, s23, s24, s25] H := by
  intro n
  have hlen := Arr.len (P := Tryz.prog) (T := 35) (e := 75) h1 (by simp)
  simp at hlen
  induction n with
  | zero =>
    intro i s2 s3 s4 s6 s7 s8 s9 s10 s11 s12 s13 s14 s15 s16 s17 s18 s19 s20 s21 s22 s23 s24 s25 hi
    rw [L41x0q]
    have : ¬ i < ms.length := by omega
    simp [hlen, this]
    exact hk
  | succ n ih =>
    intro i s2 s3 s4 s6 s7 s8 s9 s10 s11 s12 s13 s14 s15 s16 s17 s18 s19 s20 s21 s22 s23 s24 s25 hi
    have hlt : i < ms.length := by omega
    rw [L41x0q]
    obtain ⟨m, hm⟩ : ∃ m, ms[i]? = some m := ⟨_, List.getElem?_eq_getElem hlt⟩
    have hc : (ms.map Mat.cells)[i]? = some m.cells := by rw [List.getElem?_map, hm]; rfl
    obtain ⟨p, hp1, hp2⟩ := Arr.load (P := Tryz.prog) (T := 35) (te := 75) h1 (i := i) (e := m.cells) (by simp) (by simp) (by simp) hc
    obtain ⟨q, hq1, hq2⟩ := Arr.load (P := Tryz.prog) (T := 35) (te := 75) h2 (i := i) (e := m.cells) (by simp) (by simp) (by simp) hc
    have w1 : IntKind.i64.wrap ((i : Int) + 1) = ((i + 1 : Nat) : Int) := by rw [wrap_i64 (by omega) (by omega)]; omega
    simp [hlen, hlt, hp1, hp2, hq1, hq2, aBin_mat, w1]
    rw [show ((i : Int) + 1) = ((i + 1 : Nat) : Int) by omega]
    exact ih (i + 1) _ _ _ _ _ _ _ _ _ _ _ _ _ _ _ _ _ _ _ _ _ _ _ (by omega)
theorem c_sameM {H : AHeap} {v1 v2 : Value} {ms : List Mat} (h1 : MatsAt H v1 ms) (h2 : MatsAt H v2 ms) (hl : ms.length < 2 ^ 63) : ACalls Tryz.prog 41 [v1, v2] H (.bool true) H := by
  refine acalls_pure MixT Tryz.func41 (by decide) rfl ?_
  rw [d41]
  have hl1 := Arr.len (P := Tryz.prog) (T := 35) (e := 75) h1 (by simp)
  have hl2 := Arr.len (P := Tryz.prog) (T := 35) (e := 75) h2 (by simp)
  simp at hl1 hl2
  simp [hl1, hl2]
  exact ⟨_, sameM_loop h1 h2 hl ⟨rfl, [], by simp⟩ ms.length 0 _ _ _ _ _ _ _ _ _ _ _ _ _ _ _ _ _ _ _ _ _ _ _ (by omega)⟩
/-! ### Nodes -/
set_option maxHeartbeats 1000000 in
theorem sameN_loop {H : AHeap} {v1 v2 : Value} {ns : List Nod} {k : Value → AHeap → Prop} (h1 : NodesAt H v1 ns) (h2 : NodesAt H v2 ns) (hl : ns.length < 2 ^ 63) (hs : ∀ n ∈ ns, n.sel.length < 2 ^ 63) (hk : ∀ X, k (.bool true) (H ++ X)) :
    ∀ (n i : Nat) (X : AHeap) (s2 s3 s4 s6 s7 s8 s9 s10 s11 s12 s13 s14 s15 s16 s17 s18 s19 s20 s21 s22 s23 s24 s25 s26 s27 s28 s29 s30 s31 s32 s33 s34 s35 s36 s37 s38 s39 s40 s41 s42 s43 s44 s45 s46 s47 s48 s49 s50 s51 s52 s53 s54 s55 s56 s57 s58 s59 s60 s61 s62 s63 s64 s65 s66 s67 s68 s69 s70 s71 s72 s73 s74 s75 s76 s77 s78 s79 s80 s81 : Value), n + i = ns.length → L19x0 (n + 1) k [v1, v2, s2, s3, s4, i64 i, s6, s7, s8, s9, s10, s11, s12, s13, s14, s15, s16, s17, s18, s19, s20, s21, s22, s23, s24, s25, s26, s27, s28, s29, s30, s31, s32, s33, s34, s35, s36, s37, s38, s39, s40, s41, s42, s43, s44, s45, s46, s47, s48, s49, s50, s51, s52, s53, s54, s55, s56, s57, s58, s59, s60, s61, s62, s63, s64, s65, s66, s67, s68, s69, s70, s71, s72, s73, s74, s75, s76, s77, s78, s79, s80, s81] (H ++ X) := by
  intro n
  have hlen := h1.len
  induction n with
  | zero =>
    intro i X s2 s3 s4 s6 s7 s8 s9 s10 s11 s12 s13 s14 s15 s16 s17 s18 s19 s20 s21 s22 s23 s24 s25 s26 s27 s28 s29 s30 s31 s32 s33 s34 s35 s36 s37 s38 s39 s40 s41 s42 s43 s44 s45 s46 s47 s48 s49 s50 s51 s52 s53 s54 s55 s56 s57 s58 s59 s60 s61 s62 s63 s64 s65 s66 s67 s68 s69 s70 s71 s72 s73 s74 s75 s76 s77 s78 s79 s80 s81 hi
    rw [L19x0q]
    have : ¬ i < ns.length := by omega
    simp [hlen, this]
    exact hk X
  | succ n ih =>
    intro i X s2 s3 s4 s6 s7 s8 s9 s10 s11 s12 s13 s14 s15 s16 s17 s18 s19 s20 s21 s22 s23 s24 s25 s26 s27 s28 s29 s30 s31 s32 s33 s34 s35 s36 s37 s38 s39 s40 s41 s42 s43 s44 s45 s46 s47 s48 s49 s50 s51 s52 s53 s54 s55 s56 s57 s58 s59 s60 s61 s62 s63 s64 s65 s66 s67 s68 s69 s70 s71 s72 s73 s74 s75 s76 s77 s78 s79 s80 s81 hi
    have hlt : i < ns.length := by omega
    rw [L19x0q]
    obtain ⟨m, hm⟩ : ∃ m, ns[i]? = some m := ⟨_, List.getElem?_eq_getElem hlt⟩
    have w1 : IntKind.i64.wrap ((i : Int) + 1) = ((i + 1 : Nat) : Int) := by rw [wrap_i64 (by omega) (by omega)]; omega
    have ld : ∀ {v}, NodesAt H v ns → ∃ sv, MatsAt H sv m.sel ∧ ∀ Y, ∃ p, aIndexAddr Tryz.prog (H ++ Y) 27 v (i64 i) = some p ∧ aLoad Tryz.prog (H ++ Y) 37 p = some (.agg (m.cells sv).toArray) := by
      intro v h
      obtain ⟨cl, ha, hcl, hc⟩ := h
      obtain ⟨sv, q1, q2, q3⟩ := hc _ _ hm
      exact ⟨sv, q2, fun Y => (ha.pre (.app H Y)).load (P := Tryz.prog) (T := 27) (te := 37) (by simp) (by simp) (by simp) q1⟩
    obtain ⟨s1, m1, l1⟩ := ld h1
    obtain ⟨s2', m2, l2⟩ := ld h2
    obtain ⟨p, p1, p2⟩ := l1 X
    obtain ⟨q, q1, q2⟩ := l2 X
    have a1 := m1.one
    have a2 := m2.one
    refine bnd_of (hlen _) ?_
    refine bnd_of (v := .bool true) (by simp [hlt]) ?_
    dsimp only
    rw [kifB_true]
    dsimp only
    have hsl := hs m (List.mem_of_getElem? hm)
    refine ⟨?_, ?_⟩
    · simp only [bnd_some, p1, p2, q1, q2]
      refine bndK_ext (tal37 _) ⟨_, rfl⟩ ?_
      dsimp only
      refine bndK_ext (tal37 _) ⟨_, rfl⟩ ?_
      dsimp only
      refine bndK_of (v := undef) (H' := H ++ X ++ [.cells (m.cells s1) 37] ++ [.cells [.int .u8 0, .int .u8 0, .slice none 0 0, .int .i64 0, .int .u8 0, .int .i64 0, .int .i64 0, .int .i64 0] 37]) ⟨rfl, by simp [Nod.cells, a1]⟩ ?_ ?_
      · dsimp only
        rw [List.append_assoc (H ++ X)]
        exact ⟨aLoad_more q2, aIndexAddr_more q1, trivial⟩
      · dsimp only
        refine bndK_bar (v := undef) (H' := H ++ X ++ [.cells (m.cells s1) 37] ++ [.cells (m.cells s2') 37]) ⟨rfl, by simp [Nod.cells, a2]⟩ ?_
        dsimp only
        obtain ⟨K, hK⟩ : ∃ K, K = H ++ X ++ [.cells (m.cells s1) 37] ++ [.cells (m.cells s2') 37] := ⟨_, rfl⟩
        have hKX : K = H ++ (X ++ [.cells (m.cells s1) 37] ++ [.cells (m.cells s2') 37]) := by rw [hK]; simp
        have e1 : H.length + (X.length + 1) = (H ++ X ++ [AObj.cells (m.cells s1) 37]).length := by simp
        have f1 : hcells K (H.length + X.length) = some (m.cells s1) := by rw [hK, ← List.length_append]; simp
        have f2 : Vi.hlen K (H.length + X.length) = some 8 := by rw [hK, ← List.length_append]; simp [Nod.cells]
        have f3 : hcells K (H.length + (X.length + 1)) = some (m.cells s2') := by rw [hK, e1]; simp
        have f4 : Vi.hlen K (H.length + (X.length + 1)) = some 8 := by rw [hK, e1]; simp [Nod.cells]
        rw [← hK]
        clear hK p1 p2 q1 q2 l1 l2 ld
        simp only [Nod.cells] at f1 f3
        simp [f1, f2, f3, f4]
        refine bndG_call (.bool true) (fun _ => by rw [hKX]; exact c_sameM (m1.pre (.app H _)) (m2.pre (.app H _)) hsl) ?_
        simp [f1, f2, f3, f4, w1]
        rw [hKX, show ((i : Int) + 1) = ((i + 1 : Nat) : Int) by omega]
        exact ih (i + 1) _ _ _ _ _ _ _ _ _ _ _ _ _ _ _ _ _ _ _ _ _ _ _ _ _ _ _ _ _ _ _ _ _ _ _ _ _ _ _ _ _ _ _ _ _ _ _ _ _ _ _ _ _ _ _ _ _ _ _ _ _ _ _ _ _ _ _ _ _ _ _ _ _ _ _ _ _ _ _ _ (by omega)
    · simp only [bnd_some, p1, p2, q1, q2]
      refine bndK_ext (tal37 _) ⟨_, rfl⟩ ?_
      dsimp only
      refine bndK_ext (tal37 _) ⟨_, rfl⟩ ?_
      dsimp only
      refine bndK_of (v := undef) (H' := H ++ X ++ [.cells [.int .u8 0, .int .u8 0, .slice none 0 0, .int .i64 0, .int .u8 0, .int .i64 0, .int .i64 0, .int .i64 0] 37] ++ [.cells (m.cells s1) 37]) ⟨rfl, by simp [Nod.cells, a1]⟩ ?_ ?_
      · dsimp only
        rw [List.append_assoc (H ++ X)]
        exact ⟨aLoad_more q2, aIndexAddr_more q1, trivial⟩
      · dsimp only
        refine bndK_bar (v := undef) (H' := H ++ X ++ [.cells (m.cells s2') 37] ++ [.cells (m.cells s1) 37]) ⟨rfl, by simp [Nod.cells, a2]⟩ ?_
        dsimp only
        obtain ⟨K, hK⟩ : ∃ K, K = H ++ X ++ [.cells (m.cells s2') 37] ++ [.cells (m.cells s1) 37] := ⟨_, rfl⟩
        have hKX : K = H ++ (X ++ [.cells (m.cells s2') 37] ++ [.cells (m.cells s1) 37]) := by rw [hK]; simp
        have e1 : H.length + (X.length + 1) = (H ++ X ++ [AObj.cells (m.cells s2') 37]).length := by simp
        have f3 : hcells K (H.length + X.length) = some (m.cells s2') := by rw [hK, ← List.length_append]; simp
        have f4 : Vi.hlen K (H.length + X.length) = some 8 := by rw [hK, ← List.length_append]; simp [Nod.cells]
        have f1 : hcells K (H.length + (X.length + 1)) = some (m.cells s1) := by rw [hK, e1]; simp
        have f2 : Vi.hlen K (H.length + (X.length + 1)) = some 8 := by rw [hK, e1]; simp [Nod.cells]
        rw [← hK]
        clear hK p1 p2 q1 q2 l1 l2 ld
        simp only [Nod.cells] at f1 f3
        simp [f1, f2, f3, f4]
        refine bndG_call (.bool true) (fun _ => by rw [hKX]; exact c_sameM (m1.pre (.app H _)) (m2.pre (.app H _)) hsl) ?_
        simp [f1, f2, f3, f4, w1]
        rw [hKX, show ((i : Int) + 1) = ((i + 1 : Nat) : Int) by omega]
        exact ih (i + 1) _ _ _ _ _ _ _ _ _ _ _ _ _ _ _ _ _ _ _ _ _ _ _ _ _ _ _ _ _ _ _ _ _ _ _ _ _ _ _ _ _ _ _ _ _ _ _ _ _ _ _ _ _ _ _ _ _ _ _ _ _ _ _ _ _ _ _ _ _ _ _ _ _ _ _ _ _ _ _ _ (by omega)
theorem c_sameN {H : AHeap} {v1 v2 : Value} {ns : List Nod} (h1 : NodesAt H v1 ns) (h2 : NodesAt H v2 ns) (hl : ns.length < 2 ^ 63) (hs : ∀ n ∈ ns, n.sel.length < 2 ^ 63) : ACalls Tryz.prog 19 [v1, v2] H (.bool true) H := by
  refine acallsG_flat (fun c => @drawPairK_sound _ c MixT) Tryz.func19 (by decide) rfl ?_
  rw [d19]
  have hl1 := h1.len
  have hl2 := h2.len
  simp [hl1, hl2]
  have := sameN_loop (k := fun u H2 => u = .bool true ∧ ∃ X, H2 = H ++ X) h1 h2 hl hs (fun X => ⟨rfl, X, rfl⟩) ns.length 0 []
  simp only [List.append_nil] at this
  exact ⟨_, this _ _ _ _ _ _ _ _ _ _ _ _ _ _ _ _ _ _ _ _ _ _ _ _ _ _ _ _ _ _ _ _ _ _ _ _ _ _ _ _ _ _ _ _ _ _ _ _ _ _ _ _ _ _ _ _ _ _ _ _ _ _ _ _ _ _ _ _ _ _ _ _ _ _ _ _ _ _ _ (by omega)⟩
end Go.Vi
namespace Go.Vi
open Go Go.Proofs

/-- A text's tokens lie in another's from a place on; behind them a closing sign, or nothing. -/
structure Emb (T ts : List Tok) (n : Nat) : Prop where
  inn : ∀ (a : Nat) t, T[a]? = some t → ∃ u, ts[a + n]? = some u ∧ u.kind = t.kind ∧ u.text = t.text
  off : ∀ u, ts[T.length + n]? = some u → u.kind = 4 ∧ u.text = [41]
theorem Emb.le {T ts n} (h : Emb T ts n) (h0 : 0 < T.length) : T.length + n ≤ ts.length := by
  obtain ⟨u, h1, _⟩ := h.inn (T.length - 1) _ (List.getElem?_eq_getElem (by omega))
  have := (List.getElem?_eq_some_iff.1 h1).1
  omega
theorem Emb.isT {T ts n} (h : Emb T ts n) {a : Nat} (ha : a < T.length) (k : Int) (s : List UInt8) : isT ts (a + n) k s = isT T a k s := by
  obtain ⟨u, h1, h2, h3⟩ := h.inn a _ (List.getElem?_eq_getElem ha)
  unfold Vi.isT
  rw [h1, List.getElem?_eq_getElem ha]
  simp only [Option.any_some, h2, h3]
theorem tokK_lt {T : List Tok} {a : Nat} {k : Int} {s : List UInt8} (h : tokK T k a = some s) : a < T.length := by
  obtain ⟨t, h1, _⟩ := tokK_ok h
  exact (List.getElem?_eq_some_iff.1 h1).1
theorem Emb.isTt {T ts n} (h : Emb T ts n) {a : Nat} {k : Int} {s : List UInt8} (ht : Vi.isT T a k s = true) : Vi.isT ts (a + n) k s = true := by
  rw [h.isT (isT_lt ht)]; exact ht
theorem Emb.tokK {T ts n} (h : Emb T ts n) {a : Nat} {k : Int} {s : List UInt8} (ht : tokK T k a = some s) : tokK ts k (a + n) = some s := by
  obtain ⟨t, h1, h2, h3⟩ := tokK_ok ht
  obtain ⟨u, e1, e2, e3⟩ := h.inn a t h1
  unfold Vi.tokK
  rw [e1]
  simp [e2, e3, h2, h3]
theorem Emb.word {T ts n} (h : Emb T ts n) {a : Nat} (ha : a ≤ T.length) {k : Nat} (hf : Vi.isT T a 1 (wordO k) = false) : Vi.isT ts (a + n) 1 (wordO k) = false := by
  by_cases hl : a < T.length
  · rw [h.isT hl]; exact hf
  · obtain rfl : a = T.length := by omega
    unfold Vi.isT
    cases hu : ts[T.length + n]? with
    | none => rfl
    | some u => obtain ⟨e1, e2⟩ := h.off u hu; simp [e1]
theorem Emb.sign {T ts n} (h : Emb T ts n) {a b : Nat} {s : List UInt8} (hs : signO T s a = some b) : a < T.length ∧ b = a + 1 ∧ signO ts s (a + n) = some (b + n) := by
  unfold signO at *
  split at hs
  · rename_i q; cases hs; exact ⟨isT_lt q, rfl, by rw [if_pos (h.isTt q)]; congr 1; omega⟩
  · cases hs
theorem Emb.one {T ts n} (h : Emb T ts n) {a b : Nat} {k : Int} {l : List (List UInt8)} (hs : oneO T k l a = some b) : oneO ts k l (a + n) = some (b + n) ∧ b = a + 1 ∧ txtK ts k (a + n) = txtK T k a := by
  unfold oneO at *
  obtain ⟨s, h1, h2⟩ := Option.bind_eq_some_iff.1 hs
  rw [h.tokK h1]
  split at h2
  · rename_i q; cases h2
    exact ⟨by simp [q]; omega, rfl, by unfold txtK; rw [h.tokK h1, h1]⟩
  · cases h2
theorem Emb.mat {T ts n} (h : Emb T ts n) {a : Nat} {p : Mat × Nat} (hm : matO T a = some p) : matO ts (a + n) = some (p.1, p.2 + n) := by
  unfold matO at *
  obtain ⟨s, h1, hm⟩ := Option.bind_eq_some_iff.1 hm
  obtain ⟨o, h2, hm⟩ := Option.bind_eq_some_iff.1 hm
  split at hm
  · rename_i q
    obtain ⟨v, h3, hm⟩ := Option.bind_eq_some_iff.1 hm
    cases hm
    rw [h.tokK h1, show a + n + 1 = a + 1 + n by omega, show a + n + 2 = a + 2 + n by omega, h.tokK h2, Option.bind_some, Option.bind_some, if_pos q, h.tokK h3]
    simp; omega
  · cases hm
theorem Emb.selL {T ts n} (h : Emb T ts n) : ∀ (f f' a : Nat) (acc : List Mat) (p : List Mat × Nat), f ≤ f' → selL T f a acc = some p → p.2 < T.length → selL ts f' (a + n) acc = some (p.1, p.2 + n) := by
  intro f
  induction f with
  | zero => intro f' a acc p _ hs; cases hs
  | succ f ih =>
    intro f' a acc p hf hs hp
    obtain ⟨f', rfl⟩ : ∃ g, f' = g + 1 := ⟨f' - 1, by omega⟩
    unfold Vi.selL at hs ⊢
    obtain ⟨m, h1, hs⟩ := Option.bind_eq_some_iff.1 hs
    rw [h.mat h1, Option.bind_some]
    simp only
    by_cases q : Vi.isT T m.2 4 [44] = true
    · rw [if_pos q] at hs
      rw [if_pos (h.isTt q), show m.2 + n + 1 = m.2 + 1 + n by omega]
      exact ih f' _ _ p (by omega) hs hp
    · rw [if_neg q] at hs
      cases hs
      rw [if_neg (by rw [h.isT hp]; exact q)]
theorem Emb.sel {T ts n} (h : Emb T ts n) {a : Nat} {p : List Mat × Nat} (hs : selO T a = some p) : selO ts (a + n) = some (p.1, p.2 + n) := by
  unfold selO at *
  obtain ⟨b, h1, hs⟩ := Option.bind_eq_some_iff.1 hs
  obtain ⟨_, _, e1⟩ := h.sign h1
  rw [e1, Option.bind_some]
  by_cases q : Vi.isT T b 4 [125] = true
  · rw [if_pos q] at hs
    cases hs
    rw [if_pos (h.isTt q)]; simp; omega
  · rw [if_neg q] at hs
    obtain ⟨r, h2, hs⟩ := Option.bind_eq_some_iff.1 hs
    obtain ⟨c, h3, hs⟩ := Option.map_eq_some_iff.1 hs
    unfold selE at h3
    obtain ⟨d, h4, h5⟩ := Option.bind_eq_some_iff.1 h3
    obtain ⟨g1, g2, g3⟩ := h.sign h4
    have hbl : b < T.length := by
      cases hm : matO T b with
      | none => unfold Vi.selL at h2; simp [hm] at h2
      | some m =>
        unfold matO at hm
        obtain ⟨s, k1, _⟩ := Option.bind_eq_some_iff.1 hm
        exact tokK_lt k1
    have hT := h.le (by omega)
    rw [if_neg (by rw [h.isT hbl]; exact q), h.selL _ (ts.length + 1) b [] r (by omega) h2 g1, Option.bind_some]
    simp only [selE]
    rw [g3, Option.bind_some]
    split at h5
    · rename_i q2; cases h5; cases hs
      rw [if_pos q2]; rfl
    · cases h5
theorem Emb.win {T ts n} (h : Emb T ts n) {a : Nat} {p : Int × Nat} (hw : winO T a = some p) : winO ts (a + n) = some (p.1, p.2 + n) := by
  unfold winO at *
  obtain ⟨s, h1, hw⟩ := Option.bind_eq_some_iff.1 hw
  obtain ⟨m, h2, hw⟩ := Option.bind_eq_some_iff.1 hw
  rw [h.tokK h1, Option.bind_some, h2, Option.bind_some]
  split at hw
  · rename_i q; cases hw; rw [if_pos q]; simp; omega
  · cases hw
theorem Emb.val {T ts n} (h : Emb T ts n) {a : Nat} {p : Int × Nat} (hv : valO T a = some p) : p.2 ≤ T.length ∧ valO ts (a + n) = some (p.1, p.2 + n) := by
  unfold valO at *
  obtain ⟨s, h1, hv⟩ := Option.bind_eq_some_iff.1 hv
  have hl := tokK_lt h1
  have ha : a < T.length := by unfold takO at hl; split at hl <;> omega
  have e1 : valP ts (a + n) = valP T a := by unfold valP; rw [h.isT ha]
  have e2 : takO ts 4 [45] (a + n) = takO T 4 [45] a + n := by unfold takO; rw [h.isT ha]; split <;> omega
  rw [e1, e2, h.tokK h1, Option.bind_some]
  split at hv
  · rename_i q; cases hv
    exact ⟨by simp only; omega, by rw [if_pos q]; simp; omega⟩
  · cases hv
theorem Emb.cmp {T ts n} (h : Emb T ts n) {a : Nat} {p : Nod × Nat} (hc : cmpO T a = some p) : a < T.length ∧ p.2 ≤ T.length ∧ cmpO ts (a + n) = some (p.1, p.2 + n) := by
  unfold cmpO at *
  obtain ⟨b1, h1, hc⟩ := Option.bind_eq_some_iff.1 hc
  obtain ⟨b2, h2, hc⟩ := Option.bind_eq_some_iff.1 hc
  obtain ⟨q, h3, hc⟩ := Option.bind_eq_some_iff.1 hc
  obtain ⟨b3, h4, hc⟩ := Option.bind_eq_some_iff.1 hc
  obtain ⟨w, h5, hc⟩ := Option.bind_eq_some_iff.1 hc
  obtain ⟨b4, h6, hc⟩ := Option.bind_eq_some_iff.1 hc
  obtain ⟨b5, h7, hc⟩ := Option.bind_eq_some_iff.1 hc
  obtain ⟨b6, h8, hc⟩ := Option.bind_eq_some_iff.1 hc
  obtain ⟨v, h9, hc⟩ := Option.bind_eq_some_iff.1 hc
  cases hc
  have ha : a < T.length := by
    unfold oneO at h1
    obtain ⟨s, k1, _⟩ := Option.bind_eq_some_iff.1 h1
    exact tokK_lt k1
  obtain ⟨r1, _, r2⟩ := h.one h1
  obtain ⟨s1, _, s2⟩ := h.one h8
  obtain ⟨t1, t2⟩ := h.val h9
  refine ⟨ha, t1, ?_⟩
  rw [r1, Option.bind_some, (h.sign h2).2.2, Option.bind_some, h.sel h3, Option.bind_some]
  simp only
  rw [(h.sign h4).2.2, Option.bind_some, h.win h5, Option.bind_some]
  simp only
  rw [(h.sign h6).2.2, Option.bind_some, (h.sign h7).2.2, Option.bind_some, s1, Option.bind_some, t2, Option.bind_some, r2, s2]
theorem cmpO_kind {ts : List Tok} {a : Nat} {p : Nod × Nat} (hc : cmpO ts a = some p) : p.1.kind = 0 := by
  unfold cmpO at hc
  obtain ⟨b1, h1, hc⟩ := Option.bind_eq_some_iff.1 hc
  obtain ⟨b2, h2, hc⟩ := Option.bind_eq_some_iff.1 hc
  obtain ⟨q, h3, hc⟩ := Option.bind_eq_some_iff.1 hc
  obtain ⟨b3, h4, hc⟩ := Option.bind_eq_some_iff.1 hc
  obtain ⟨w, h5, hc⟩ := Option.bind_eq_some_iff.1 hc
  obtain ⟨b4, h6, hc⟩ := Option.bind_eq_some_iff.1 hc
  obtain ⟨b5, h7, hc⟩ := Option.bind_eq_some_iff.1 hc
  obtain ⟨b6, h8, hc⟩ := Option.bind_eq_some_iff.1 hc
  obtain ⟨v, h9, hc⟩ := Option.bind_eq_some_iff.1 hc
  cases hc
  rfl
/-- A node among others that stand ahead. -/
def shN (k : Nat) (n : Nod) : Nod := if n.kind = 0 then n else if n.kind = 3 then { n with left := n.left + k } else { n with left := n.left + k, right := n.right + k }
theorem shN_not (k : Nat) (x : Int) : shN k (opN 3 x 0) = opN 3 (x + k) 0 := rfl
theorem shN_two (k j : Nat) (x y : Int) : shN k (opN (kindK j) x y) = opN (kindK j) (x + k) (y + k) := by unfold kindK; split <;> rfl
theorem shN_cmp {k : Nat} {n : Nod} (h : n.kind = 0) : shN k n = n := by unfold shN; rw [if_pos h]
theorem shN_zero (n : Nod) : shN 0 n = n := by unfold shN; split <;> (try split) <;> simp
theorem Emb.str {T ts n} (h : Emb T ts n) (base : List Nod) : ∀ (f m a : Nat) (l l' : List Nod) (b : Nat), a ≤ T.length → strO T f m a l = some (some (l', b)) →
    b ≤ T.length ∧ strO ts f m (a + n) (base ++ l.map (shN base.length)) = some (some (base ++ l'.map (shN base.length), b + n)) := by
  intro f
  induction f with
  | zero => intro m a l l' b _ hs; cases hs
  | succ f ih =>
    intro m a l l' b ha hs
    unfold strO at hs ⊢
    by_cases hm : m = 2
    · rw [if_pos hm] at hs ⊢
      by_cases h1 : Vi.isT T a 1 notS = true
      · rw [if_pos h1] at hs
        rw [if_pos (h.isTt h1)]
        obtain ⟨r, e1, e2⟩ := Option.map_eq_some_iff.1 hs
        cases r with
        | none => cases e2
        | some p =>
          obtain ⟨l2, b2⟩ := p
          simp only [Option.map_some, Option.some.injEq, Prod.mk.injEq] at e2
          obtain ⟨rfl, rfl⟩ := e2
          obtain ⟨g1, g2⟩ := ih _ _ _ _ _ (by have := isT_lt h1; omega) e1
          refine ⟨g1, ?_⟩
          rw [show a + n + 1 = a + 1 + n by omega, g2]
          simp only [Option.map_some, List.map_append, List.map_cons, List.map_nil, shN_not, List.append_assoc, List.length_append, List.length_map]
          congr 6
          simp only [opN]; congr 1; omega
      · rw [if_neg h1] at hs
        by_cases h2 : Vi.isT T a 4 [40] = true
        · rw [if_pos h2] at hs
          have hal := isT_lt h2
          rw [if_neg (by rw [h.isT hal]; exact h1), if_pos (h.isTt h2)]
          obtain ⟨r, e1, e2⟩ := Option.map_eq_some_iff.1 hs
          cases r with
          | none => cases e2
          | some p =>
            obtain ⟨l2, b2⟩ := p
            simp only [Option.bind_some] at e2
            obtain ⟨c, e3, e4⟩ := Option.map_eq_some_iff.1 e2
            cases e4
            obtain ⟨g1, g2⟩ := ih _ _ _ _ _ (by omega) e1
            obtain ⟨g3, g4, g5⟩ := h.sign e3
            refine ⟨by omega, ?_⟩
            rw [show a + n + 1 = a + 1 + n by omega, g2]
            simp only [Option.map_some, Option.bind_some, g5]
        · rw [if_neg h2] at hs
          simp only [Option.some.injEq] at hs
          obtain ⟨p, e1, e2⟩ := Option.map_eq_some_iff.1 hs
          cases e2
          obtain ⟨hal, g1, g2⟩ := h.cmp e1
          rw [if_neg (by rw [h.isT hal]; exact h1), if_neg (by rw [h.isT hal]; exact h2), g2]
          refine ⟨g1, ?_⟩
          simp [shN_cmp (cmpO_kind e1)]
    · rw [if_neg hm] at hs ⊢
      by_cases hm2 : m < 2
      · rw [if_pos hm2] at hs ⊢
        obtain ⟨r, e1, e2⟩ := Option.bind_eq_some_iff.1 hs
        cases r with
        | none => cases e2
        | some p =>
          obtain ⟨l2, b2⟩ := p
          obtain ⟨g1, g2⟩ := ih _ _ _ _ _ ha e1
          rw [g2]
          exact ih _ _ _ _ _ g1 e2
      · rw [if_neg hm2] at hs ⊢
        by_cases hw : Vi.isT T a 1 (wordO (m - 10)) = true
        · rw [if_pos hw] at hs
          rw [if_pos (h.isTt hw)]
          obtain ⟨r, e1, e2⟩ := Option.bind_eq_some_iff.1 hs
          cases r with
          | none => cases e2
          | some p =>
            obtain ⟨l2, b2⟩ := p
            obtain ⟨g1, g2⟩ := ih _ _ _ _ _ (by have := isT_lt hw; omega) e1
            rw [show a + n + 1 = a + 1 + n by omega, g2]
            have := ih _ _ _ _ _ g1 e2
            refine ⟨this.1, Eq.trans ?_ this.2⟩
            simp only [Option.bind_some, List.map_append, List.map_cons, List.map_nil, shN_two, List.append_assoc, List.length_append, List.length_map]
            congr 5
            all_goals first | omega | (congr 1 <;> omega)
        · rw [if_neg hw] at hs
          simp only [Option.some.injEq, Prod.mk.injEq] at hs
          obtain ⟨rfl, rfl⟩ := hs
          exact ⟨ha, by rw [if_neg (by rw [h.word ha (by simpa using hw)]; simp)]⟩
/-! ### Fuel -/
theorem strO_mono {ts : List Tok} : ∀ (f f' m a : Nat) (l : List Nod) (r : Option (List Nod × Nat)), f ≤ f' → strO ts f m a l = some r → strO ts f' m a l = some r := by
  intro f
  induction f with
  | zero => intro f' m a l r _ h; cases h
  | succ f ih =>
    intro f' m a l r hf h
    obtain ⟨f', rfl⟩ : ∃ g, f' = g + 1 := ⟨f' - 1, by omega⟩
    have hf' : f ≤ f' := by omega
    unfold strO at h ⊢
    by_cases hm : m = 2
    · rw [if_pos hm] at h ⊢
      by_cases h1 : isT ts a 1 notS = true
      · rw [if_pos h1] at h ⊢
        obtain ⟨q, e1, e2⟩ := Option.map_eq_some_iff.1 h
        rw [ih _ _ _ _ _ hf' e1]; simp [e2]
      · rw [if_neg h1] at h ⊢
        by_cases h2 : isT ts a 4 [40] = true
        · rw [if_pos h2] at h ⊢
          obtain ⟨q, e1, e2⟩ := Option.map_eq_some_iff.1 h
          rw [ih _ _ _ _ _ hf' e1]; simp [e2]
        · rw [if_neg h2] at h ⊢; exact h
    · rw [if_neg hm] at h ⊢
      by_cases hm2 : m < 2
      · rw [if_pos hm2] at h ⊢
        obtain ⟨q, e1, e2⟩ := Option.bind_eq_some_iff.1 h
        rw [ih _ _ _ _ _ hf' e1, Option.bind_some]
        cases q with
        | none => exact e2
        | some p => exact ih _ _ _ _ _ hf' e2
      · rw [if_neg hm2] at h ⊢
        by_cases hw : isT ts a 1 (wordO (m - 10)) = true
        · rw [if_pos hw] at h ⊢
          obtain ⟨q, e1, e2⟩ := Option.bind_eq_some_iff.1 h
          rw [ih _ _ _ _ _ hf' e1, Option.bind_some]
          cases q with
          | none => exact e2
          | some p => exact ih _ _ _ _ _ hf' e2
        · rw [if_neg hw] at h ⊢; exact h
theorem conO_of {ts : List Tok} {f a : Nat} {r : Option (List Nod × Nat)} (h : strO ts f 0 a [] = some r) : conO ts a = r := by
  have h1 := strO_mono _ (max f (4 * ts.length + 3)) _ _ _ _ (by omega) h
  have h2 := strO_mono _ (max f (4 * ts.length + 3)) _ _ _ _ (by omega) (conO_str ts a)
  rw [h1] at h2
  exact (Option.some.inj h2).symm
/-! ### In parentheses, and between operators -/
theorem str_paren {ts : List Tok} {f a b : Nat} {l l' : List Nod} (h : strO ts f 0 (a + 1) l = some (some (l', b))) (ho : isT ts a 4 [40] = true) (hc : isT ts b 4 [41] = true) : strO ts (f + 1) 2 a l = some (some (l', b + 1)) := by
  have h1 : ¬ isT ts a 1 notS = true := by
    unfold isT at ho ⊢
    cases ht : ts[a]? with
    | none => simp
    | some t => simp [ht] at ho; simp [ho.1]
  unfold strO
  rw [if_pos rfl, if_neg h1, if_pos ho, h]
  simp [signO, hc]
theorem str_up {ts : List Tok} {f m a b : Nat} {l l' : List Nod} (hm : m < 2) (h : strO ts f (m + 1) a l = some (some (l', b))) (hw : isT ts b 1 (wordO m) = false) : strO ts (f + 1) m a l = some (some (l', b)) := by
  obtain ⟨f, rfl⟩ : ∃ g, f = g + 1 := by
    cases f with
    | zero => cases h
    | succ g => exact ⟨g, rfl⟩
  rw [show strO ts (f + 1 + 1) m a l = (strO ts (f + 1) (m + 1) a l).bind fun r => match r with | none => some none | some p => strO ts (f + 1) (m + 10) p.2 p.1 by
    (rw [strO, if_neg (by omega), if_pos hm] <;> rfl)]
  rw [h, Option.bind_some]
  simp only
  unfold strO
  rw [if_neg (by omega), if_neg (by omega), Nat.add_sub_cancel, if_neg (by simp [hw])]
/-- Two parts with an operator between. -/
theorem str_two {ts : List Tok} {f m a b c : Nat} {l l1 l2 : List Nod} (hm : m < 2) (h1 : strO ts f (m + 1) a l = some (some (l1, b))) (hw : isT ts b 1 (wordO m) = true) (h2 : strO ts f (m + 1) (b + 1) l1 = some (some (l2, c))) (he : isT ts c 1 (wordO m) = false) :
    strO ts (f + 2) m a l = some (some (l2 ++ [opN (kindK m) ((l1.length : Int) - 1) ((l2.length : Int) - 1)], c)) := by
  have h1' := strO_mono _ (f + 1) _ _ _ _ (by omega) h1
  rw [show strO ts (f + 2) m a l = (strO ts (f + 1) (m + 1) a l).bind fun r => match r with | none => some none | some p => strO ts (f + 1) (m + 10) p.2 p.1 by
    (rw [strO, if_neg (by omega), if_pos hm] <;> rfl)]
  rw [h1', Option.bind_some]
  simp only
  obtain ⟨f, rfl⟩ : ∃ g, f = g + 1 := by
    cases f with
    | zero => cases h1
    | succ g => exact ⟨g, rfl⟩
  unfold strO
  rw [if_neg (by omega), if_neg (by omega), Nat.add_sub_cancel, if_pos hw, h2, Option.bind_some]
  simp only
  unfold strO
  rw [if_neg (by omega), if_neg (by omega), Nat.add_sub_cancel, if_neg (by simp [he])]
theorem str_neg2 {ts : List Tok} {f a b : Nat} {l l1 : List Nod} (h1 : strO ts f 2 (a + 1) l = some (some (l1, b))) (hw : isT ts a 1 notS = true) : strO ts (f + 1) 2 a l = some (some (l1 ++ [opN 3 ((l1.length : Int) - 1) 0], b)) := by
  unfold strO
  rw [if_pos rfl, if_pos hw, h1]; rfl
end Go.Vi
namespace Go.Vi
open Go Go.Proofs

/-! ### Blanks -/
theorem skip_fuel : ∀ (f : Nat) (s : List UInt8), s.length ≤ f → skipF f s = skipF s.length s := by
  intro f
  induction f using Nat.strongRecOn with
  | ind f ih =>
    intro s hs
    cases s with
    | nil => cases f <;> rfl
    | cons b r =>
      obtain ⟨f, rfl⟩ : ∃ g, f = g + 1 := ⟨f - 1, by simp at hs; omega⟩
      have hr : r.length ≤ f := by simpa using hs
      simp only [List.length_cons, skipF]
      split
      · rw [ih f (by omega) r hr]
      · split
        · rename_i hb
          have h10 : notNl b = true := by simp only [beq_iff_eq] at hb; simp [notNl, hb]
          have h0 : 0 < runF notNl (b :: r) := by simp [runF, h10]
          have hl : ((b :: r).drop (runF notNl (b :: r))).length ≤ r.length := by simp; omega
          by_cases hf : f = r.length
          · rw [hf]
          · have e1 := ih f (by omega) ((b :: r).drop (runF notNl (b :: r))) (by omega)
            rw [e1]
            by_cases hlt : r.length < f + 1
            · rw [ih r.length (by omega) _ hl]
            · omega
        · rfl
def skp (s : List UInt8) : Nat := skipF s.length s
theorem skp_nil : skp [] = 0 := rfl
theorem skp_cons (b : UInt8) (r : List UInt8) : skp (b :: r) = if hasB blanks b = true then 1 + skp r else if ((b.toNat : Int) == 35) = true then runF notNl (b :: r) + skp ((b :: r).drop (runF notNl (b :: r))) else 0 := by
  unfold skp
  simp only [List.length_cons, skipF]
  split
  · rfl
  · split
    · rename_i hb
      have h10 : notNl b = true := by simp only [beq_iff_eq] at hb; simp [notNl, hb]
      have h0 : 0 < runF notNl (b :: r) := by simp [runF, h10]
      rw [skip_fuel r.length _ (by simp; omega)]
    · rfl
theorem skipN_eq (l : List UInt8) (a : Nat) : skipN l a = a + skp (l.drop a) := by unfold skipN skp; rw [List.length_drop]
theorem skp_le (s : List UInt8) : skp s ≤ s.length := skipF_le _ _
theorem runF_app {p : UInt8 → Bool} {x : UInt8} (hx : p x = false) : ∀ (u w : List UInt8), runF p (u ++ x :: w) = runF p u := by
  intro u w
  induction u with
  | nil => simp [runF, hx]
  | cons b r ih =>
    unfold runF at ih ⊢
    simp only [List.cons_append, List.takeWhile_cons]
    split
    · simp [ih]
    · rfl
theorem skp_app (w : List UInt8) : ∀ (n : Nat) (u : List UInt8), u.length ≤ n → skp (u ++ 10 :: w) = if skp u < u.length then skp u else u.length + skp (10 :: w) := by
  intro n
  induction n with
  | zero => intro u hu; have : u = [] := List.eq_nil_of_length_eq_zero (by omega); subst this; simp [skp_nil]
  | succ n ih =>
    intro u hu
    cases u with
    | nil => simp [skp_nil]
    | cons b r =>
      simp only [List.length_cons] at hu
      rw [List.cons_append, skp_cons, skp_cons]
      by_cases h1 : hasB blanks b = true
      · rw [if_pos h1, if_pos h1, ih r (by omega)]
        simp only [List.length_cons]
        by_cases hc : skp r < r.length
        · rw [if_pos hc, if_pos (by omega)]
        · rw [if_neg hc, if_neg (by omega)]; omega
      · rw [if_neg h1, if_neg h1]
        by_cases h2 : ((b.toNat : Int) == 35) = true
        · rw [if_pos h2, if_pos h2]
          have e : runF notNl (b :: (r ++ 10 :: w)) = runF notNl (b :: r) := runF_app (p := notNl) (x := 10) (by decide) (b :: r) w
          have h10 : notNl b = true := by simp only [beq_iff_eq] at h2; simp [notNl, h2]
          have h0 : 0 < runF notNl (b :: r) := by simp [runF, h10]
          have hle := runF_le notNl (b :: r)
          have ed : (b :: (r ++ 10 :: w)).drop (runF notNl (b :: r)) = (b :: r).drop (runF notNl (b :: r)) ++ 10 :: w := by
            rw [← List.cons_append, List.drop_append_of_le_length hle]
          rw [e, ed, ih _ (by simp at hle ⊢; omega)]
          have hdl : ((b :: r).drop (runF notNl (b :: r))).length = r.length + 1 - runF notNl (b :: r) := by simp
          simp only [List.length_cons] at hle ⊢
          rw [hdl]
          by_cases hc : skp ((b :: r).drop (runF notNl (b :: r))) < r.length + 1 - runF notNl (b :: r)
          · rw [if_pos hc, if_pos (by omega)]
          · rw [if_neg hc, if_neg (by omega)]; omega
        · rw [if_neg h2, if_neg h2, if_pos (by simp)]
/-! ### One token -/
theorem textF_app (w : List UInt8) : ∀ (f : Nat) (r acc : List UInt8) (c : Nat), r.length ≤ f → (textF r acc c).2 ≠ 0 → textF (r ++ w) acc c = textF r acc c := by
  intro f
  induction f with
  | zero => intro r acc c h h0; have : r = [] := List.eq_nil_of_length_eq_zero (by omega); subst this; simp [textF] at h0
  | succ f ih =>
    intro r acc c h h0
    cases r with
    | nil => simp [textF] at h0
    | cons b r =>
      simp only [List.length_cons] at h
      rw [List.cons_append, textF_cons, textF_cons]
      rw [textF_cons] at h0
      by_cases h1 : isSign b = true
      · rw [if_pos h1] at h0
        rw [if_pos h1, if_pos h1]
        by_cases h2 : ((b.toNat : Int) == 34) = true
        · rw [if_pos h2, if_pos h2]
        · rw [if_neg h2] at h0
          rw [if_neg h2, if_neg h2]
          by_cases h3 : ((b.toNat : Int) == 92) = true
          · rw [if_pos h3] at h0
            rw [if_pos h3, if_pos h3]
            cases r with
            | nil => simp at h0
            | cons e r' =>
              simp only [List.cons_append, List.length_cons] at h0 h ⊢
              by_cases h4 : ((e.toNat : Int) == 34 || (e.toNat : Int) == 92) = true
              · rw [if_pos h4] at h0
                rw [if_pos h4, if_pos h4]
                exact ih _ _ _ (by omega) h0
              · rw [if_neg h4] at h0; simp at h0
          · rw [if_neg h3] at h0
            rw [if_neg h3, if_neg h3]
            exact ih _ _ _ (by omega) h0
      · rw [if_neg h1] at h0; simp at h0
theorem numLen_app (u w : List UInt8) : numLen (u ++ 10 :: w) = numLen u := by
  unfold numLen
  have e1 : runF isDig (u ++ 10 :: w) = runF isDig u := runF_app (by decide) u w
  have hle := runF_le isDig u
  rw [e1]
  by_cases hlt : runF isDig u < u.length
  · have e2 : (u ++ 10 :: w)[runF isDig u]? = u[runF isDig u]? := List.getElem?_append_left hlt
    have e3 : (u ++ 10 :: w).drop (runF isDig u + 1) = u.drop (runF isDig u + 1) ++ 10 :: w := List.drop_append_of_le_length (by omega)
    rw [e2, e3, runF_app (p := isDig) (by decide)]
  · have hl : runF isDig u = u.length := by omega
    rw [hl]
    simp
theorem signF_app {u w : List UInt8} (h : signF u ≠ 0) : signF (u ++ 10 :: w) = signF u := by
  cases u with
  | nil => simp [signF] at h
  | cons b r =>
    cases r with
    | nil => simp [signF]
    | cons e r => simp [signF]
theorem oneF_app {u w : List UInt8} {a a' : Nat} (h : (oneF u a).2 ≠ 0) : oneF (u ++ 10 :: w) a' = (⟨(oneF u a).1.kind, (oneF u a).1.text, a'⟩, (oneF u a).2) := by
  cases u with
  | nil => simp [oneF] at h
  | cons b r =>
    unfold oneF at h ⊢
    simp only [List.cons_append] at h ⊢
    by_cases h1 : isLow b = true
    · rw [if_pos h1] at h
      rw [if_pos h1, if_pos h1]
      have e : runF isMark (b :: (r ++ 10 :: w)) = runF isMark (b :: r) := runF_app (p := isMark) (x := 10) (by decide) (b :: r) w
      rw [e, ← List.cons_append, List.take_append_of_le_length (runF_le _ _)]
    · rw [if_neg h1] at h
      rw [if_neg h1, if_neg h1]
      by_cases h2 : isDig b = true
      · rw [if_pos h2, if_pos h2]
        have e : numLen (b :: (r ++ 10 :: w)) = numLen (b :: r) := numLen_app (b :: r) w
        rw [e, ← List.cons_append, List.take_append_of_le_length (numLen_le _)]
      · rw [if_neg h2] at h
        rw [if_neg h2, if_neg h2]
        by_cases h3 : ((b.toNat : Int) == 34) = true
        · rw [if_pos h3] at h
          rw [if_pos h3, if_pos h3, textF_app _ r.length r [] 1 (Nat.le_refl _) h]
        · rw [if_neg h3] at h
          rw [if_neg h3, if_neg h3]
          have e : signF (b :: (r ++ 10 :: w)) = signF (b :: r) := signF_app (u := b :: r) h
          rw [e, ← List.cons_append, List.take_append_of_le_length (signF_le _)]
/-! ### All tokens -/
/-- The tokens of a text from a place on at which one begins. -/
inductive Lx (l : List UInt8) : Nat → List Tok → Prop
  | nil (a : Nat) : l.length ≤ a → Lx l a []
  | cons (a : Nat) (T : List Tok) : a < l.length → (oneF (l.drop a) a).2 ≠ 0 → Lx l (skipN l (a + (oneF (l.drop a) a).2)) T → Lx l a ((oneF (l.drop a) a).1 :: T)
theorem Lx.run {l : List UInt8} {a : Nat} {T : List Tok} (h : Lx l a T) : ∀ f, l.length < f + a → lexF l f a = (T, none) := by
  induction h with
  | nil a h =>
    intro f hf
    cases f with
    | zero => rfl
    | succ f => unfold lexF; rw [if_neg (by omega)]
  | cons a T h h0 _ ih =>
    intro f hf
    cases f with
    | zero => omega
    | succ f =>
      unfold lexF
      have := skipN_ge l (a + (oneF (l.drop a) a).2)
      rw [if_pos h, if_neg h0, ih f (by omega)]
theorem Lx.of {l : List UInt8} : ∀ (f a : Nat) (T : List Tok), l.length < f + a → lexF l f a = (T, none) → Lx l a T := by
  intro f
  induction f with
  | zero => intro a T hf h; cases h; exact .nil a (by omega)
  | succ f ih =>
    intro a T hf h
    unfold lexF at h
    by_cases h1 : a < l.length
    · rw [if_pos h1] at h
      by_cases h2 : (oneF (l.drop a) a).2 = 0
      · rw [if_pos h2] at h; cases h
      · rw [if_neg h2] at h
        simp only [Prod.mk.injEq] at h
        obtain ⟨rfl, hn⟩ := h
        have := skipN_ge l (a + (oneF (l.drop a) a).2)
        exact .cons a _ h1 h2 (ih _ _ (by omega) (Prod.ext rfl hn))
    · rw [if_neg h1] at h; cases h; exact .nil a (by omega)
theorem allTok_of {l : List UInt8} {T : List Tok} (hl : l.length ≤ 4096) (h : Lx l (skipN l 0) T) : allTok l = (T, 0, 0) := by
  unfold allTok
  rw [if_neg (by omega), h.run (l.length + 1) (by omega)]
theorem allTok_lx {l : List UInt8} (h : (allTok l).2.2 = 0) : l.length ≤ 4096 ∧ Lx l (skipN l 0) (allTok l).1 := by
  unfold allTok at h ⊢
  by_cases h1 : 4096 < l.length
  · rw [if_pos h1] at h; simp at h
  · rw [if_neg h1] at h ⊢
    refine ⟨by omega, ?_⟩
    cases h2 : (lexF l (l.length + 1) (skipN l 0)).2 with
    | some a => rw [h2] at h; simp at h
    | none => exact .of _ _ _ (by omega) (Prod.ext rfl h2)
def kt (t : Tok) : Int × List UInt8 := (t.kind, t.text)
/-- Where the tokens behind an inner text begin. -/
def endAt (pre s w : List UInt8) : Nat := pre.length + s.length + skp (10 :: w)
theorem skip_in {pre s w : List UInt8} {x : Nat} (hx : x ≤ s.length) : skipN (pre ++ (s ++ 10 :: w)) (pre.length + x) = if skipN s x < s.length then pre.length + skipN s x else endAt pre s w := by
  have hd : (pre ++ (s ++ 10 :: w)).drop (pre.length + x) = s.drop x ++ 10 :: w := by
    rw [← List.drop_drop, List.drop_left, List.drop_append_of_le_length hx]
  rw [skipN_eq, skipN_eq, hd, skp_app w _ _ (Nat.le_refl _)]
  have := skp_le (s.drop x)
  rw [List.length_drop] at this ⊢
  unfold endAt
  by_cases hc : skp (s.drop x) < s.length - x
  · rw [if_pos hc, if_pos (by omega)]; omega
  · rw [if_neg hc, if_neg (by omega)]; omega
theorem Lx.inn {s : List UInt8} {a : Nat} {T : List Tok} (h : Lx s a T) (pre w : List UInt8) {R : List Tok} (hR : Lx (pre ++ (s ++ 10 :: w)) (endAt pre s w) R) : a ≤ s.length →
    ∃ T', Lx (pre ++ (s ++ 10 :: w)) (if a < s.length then pre.length + a else endAt pre s w) (T' ++ R) ∧ T'.map kt = T.map kt := by
  induction h with
  | nil a h => intro _; exact ⟨[], by rw [if_neg (by omega)]; exact hR, rfl⟩
  | cons a T h h0 _ ih =>
    intro _
    have hle : a + (oneF (s.drop a) a).2 ≤ s.length := by have := oneF_le (s.drop a) a; rw [List.length_drop] at this; omega
    obtain ⟨T', q1, q2⟩ := ih (skipN_le hle)
    have hd : (pre ++ (s ++ 10 :: w)).drop (pre.length + a) = s.drop a ++ 10 :: w := by
      rw [← List.drop_drop, List.drop_left, List.drop_append_of_le_length (by omega)]
    have ho := oneF_app (w := w) (a' := pre.length + a) h0
    rw [← skip_in hle, ← Nat.add_assoc] at q1
    refine ⟨⟨(oneF (s.drop a) a).1.kind, (oneF (s.drop a) a).1.text, ↑(pre.length + a)⟩ :: T', ?_, by simp [q2, kt]⟩
    rw [if_pos h]
    have := Lx.cons (l := pre ++ (s ++ 10 :: w)) (pre.length + a) (T' ++ R) (by simp; omega) (by rw [hd, ho]; exact h0) (by rw [hd, ho]; exact q1)
    rw [hd, ho] at this
    exact this
/-- A text's tokens, behind others, and ahead of others. -/
theorem Lx.mid {s : List UInt8} (h : (allTok s).2.2 = 0) (pre w : List UInt8) {R : List Tok} (hR : Lx (pre ++ (s ++ 10 :: w)) (endAt pre s w) R) :
    ∃ T', Lx (pre ++ (s ++ 10 :: w)) (skipN (pre ++ (s ++ 10 :: w)) pre.length) (T' ++ R) ∧ T'.map kt = (allTok s).1.map kt := by
  obtain ⟨_, hx⟩ := allTok_lx h
  have := hx.inn pre w hR (skipN_le (Nat.zero_le _))
  rwa [← skip_in (Nat.zero_le _), Nat.add_zero] at this
/-- A token ahead. -/
theorem Lx.tok {l : List UInt8} {a n : Nat} {t : Tok} {T : List Tok} (ha : a < l.length) (ho : oneF (l.drop a) a = (t, n)) (h0 : n ≠ 0) (h : Lx l (skipN l (a + n)) T) : Lx l a (t :: T) := by
  have := Lx.cons (l := l) a T ha (by rw [ho]; exact h0) (by rw [ho]; exact h)
  rw [ho] at this
  exact this
end Go.Vi
namespace Go.Vi
open Go Go.Proofs

theorem parseF_ok {s : List UInt8} (h : (parseF s).2 = 0) : (allTok s).2.2 = 0 ∧ conO (allTok s).1 0 = some ((parseF s).1, (allTok s).1.length) ∧ (parseF s).1.length ≤ 31 := by
  unfold parseF at h ⊢
  by_cases h1 : (allTok s).2.2 ≠ 0
  · rw [if_pos h1] at h; exact absurd h h1
  · rw [if_neg h1] at h ⊢
    refine ⟨by simpa using h1, ?_⟩
    cases h2 : conO (allTok s).1 0 with
    | none => rw [h2] at h; simp at h
    | some p =>
      rw [h2] at h
      simp only at h ⊢
      by_cases h3 : p.2 ≠ (allTok s).1.length
      · rw [if_pos h3] at h; simp at h
      · rw [if_neg h3] at h ⊢
        by_cases h4 : (p.1.length : Int) > 31
        · rw [if_pos h4] at h; simp at h
        · rw [if_neg h4]
          have h3' : p.2 = (allTok s).1.length := by simpa using h3
          exact ⟨by simp only; rw [← h3'], by simp only; omega⟩
theorem parseF_of {s : List UInt8} {T : List Tok} {ns : List Nod} (hl : s.length ≤ 4096) (h : Lx s (skipN s 0) T) (hc : conO T 0 = some (ns, T.length)) : parseF s = if (ns.length : Int) > 31 then ([], 4) else (ns, 0) := by
  unfold parseF
  rw [allTok_of hl h]
  simp only [hc]
  simp
theorem kt_at {T T' : List Tok} (h : T'.map kt = T.map kt) {a : Nat} {t : Tok} (ht : T[a]? = some t) : ∃ u, T'[a]? = some u ∧ u.kind = t.kind ∧ u.text = t.text := by
  have h1 : (T'.map kt)[a]? = some (kt t) := by rw [h, List.getElem?_map, ht]; rfl
  rw [List.getElem?_map] at h1
  obtain ⟨u, e1, e2⟩ := Option.map_eq_some_iff.1 h1
  simp only [kt, Prod.mk.injEq] at e2
  exact ⟨u, e1, e2.1, e2.2⟩
theorem kt_len {T T' : List Tok} (h : T'.map kt = T.map kt) : T'.length = T.length := by simpa using congrArg List.length h
theorem emb_of {T T' O R : List Tok} {ts : List Tok} (he : ts = O ++ (T' ++ R)) (h : T'.map kt = T.map kt) (hr : ∀ u, R[0]? = some u → kt u = (4, [41])) : Emb T ts O.length := by
  subst he
  refine ⟨fun a t ht => ?_, fun u hu => ?_⟩
  · obtain ⟨u, h1, h2⟩ := kt_at h ht
    refine ⟨u, ?_, h2⟩
    rw [List.getElem?_append_right (by omega), Nat.add_sub_cancel, List.getElem?_append_left (List.getElem?_eq_some_iff.1 h1).1, h1]
  · rw [List.getElem?_append_right (by omega), Nat.add_sub_cancel, List.getElem?_append_right (by have := kt_len h; omega), kt_len h, Nat.sub_self] at hu
    have := hr u hu
    simp only [kt, Prod.mk.injEq] at this
    exact this
theorem isT_kt {ts : List Tok} {a : Nat} {u : Tok} {k : Int} {s : List UInt8} (h : ts[a]? = some u) (hk : kt u = (k, s)) : isT ts a k s = true := by
  simp only [kt, Prod.mk.injEq] at hk
  unfold isT
  rw [h]; simp [hk]
theorem isT_sgn {ts : List Tok} {a : Nat} {u : Tok} {x : List UInt8} (h : ts[a]? = some u) (hk : kt u = (4, x)) (s : List UInt8) : isT ts a 1 s = false := by
  simp only [kt, Prod.mk.injEq] at hk
  unfold isT
  rw [h]; simp [hk]
theorem isT_out {ts : List Tok} {a : Nat} (h : ts.length ≤ a) (k : Int) (s : List UInt8) : isT ts a k s = false := by
  unfold isT; rw [List.getElem?_eq_none h]; rfl
theorem oneF_open (x : List UInt8) (a : Nat) : oneF (40 :: x) a = (⟨4, [40], a⟩, 1) := by
  have h1 : hasB sigs1 40 = false := by decide
  have h2 : hasB sigs2 40 = true := by decide
  have h3 : isLow 40 = false := by decide
  have h4 : isDig 40 = false := by decide
  simp [oneF, h3, h4, signF, h1, h2]
theorem oneF_close (x : List UInt8) (a : Nat) : oneF (41 :: x) a = (⟨4, [41], a⟩, 1) := by
  have h1 : hasB sigs1 41 = false := by decide
  have h2 : hasB sigs2 41 = true := by decide
  have h3 : isLow 41 = false := by decide
  have h4 : isDig 41 = false := by decide
  simp [oneF, h3, h4, signF, h1, h2]
theorem skp_open (x : List UInt8) : skp (40 :: x) = 0 := by
  have h1 : hasB blanks 40 = false := by decide
  rw [skp_cons]; simp [h1]
theorem skp_close (x : List UInt8) : skp (41 :: x) = 0 := by
  have h1 : hasB blanks 41 = false := by decide
  rw [skp_cons]; simp [h1]
theorem skp_nl (x : List UInt8) : skp (10 :: x) = 1 + skp x := by
  have h1 : hasB blanks 10 = true := by decide
  rw [skp_cons]; simp [h1]
theorem skp_sp (x : List UInt8) : skp (32 :: x) = 1 + skp x := by
  have h1 : hasB blanks 32 = true := by decide
  rw [skp_cons]; simp [h1]
theorem skp_rep (n : Nat) : skp (List.replicate n 41) = 0 := by
  cases n with
  | zero => rfl
  | succ n => rw [List.replicate_succ]; exact skp_close _
/-! ### Parentheses around a condition -/
theorem lx_ends {l x : List UInt8} : ∀ (j : Nat), l = x ++ List.replicate j 41 → ∃ R, Lx l x.length R ∧ R.map kt = List.replicate j ((4 : Int), [41]) := by
  intro j
  induction j generalizing x with
  | zero => intro h; exact ⟨[], .nil _ (by simp [h]), rfl⟩
  | succ j ih =>
    intro h
    obtain ⟨R, h1, h2⟩ := ih (x := x ++ [41]) (by rw [h, List.replicate_succ]; simp)
    have hd : l.drop x.length = 41 :: List.replicate j 41 := by rw [h, List.drop_left, List.replicate_succ]
    have hd1 : l.drop (x.length + 1) = List.replicate j 41 := by rw [← List.drop_drop, hd]; rfl
    refine ⟨⟨4, [41], x.length⟩ :: R, .tok (n := 1) (by rw [h]; simp) (by rw [hd]; exact oneF_close _ _) (by omega) ?_, by simp [h2, kt, List.replicate_succ]⟩
    rw [skipN_eq, hd1, skp_rep, Nat.add_zero]
    simpa using h1
theorem lx_opens {l x : List UInt8} {T : List Tok} : ∀ (j : Nat) (y : List UInt8), l = List.replicate j 40 ++ y → x.length + j = x.length + j → Lx l (skipN l j) T → ∃ O, Lx l (skipN l 0) (O ++ T) ∧ O.map kt = List.replicate j ((4 : Int), [40]) := by
  intro j y h _ ht
  suffices hs : ∀ i, i ≤ j → ∃ O, Lx l (skipN l (j - i)) (O ++ T) ∧ O.map kt = List.replicate i ((4 : Int), [40]) by
    have := hs j (Nat.le_refl _)
    rwa [Nat.sub_self] at this
  intro i
  induction i with
  | zero => intro _; exact ⟨[], ht, rfl⟩
  | succ i ih =>
    intro hi
    obtain ⟨O, h1, h2⟩ := ih (by omega)
    have hd : l.drop (j - (i + 1)) = 40 :: (List.replicate i 40 ++ y) := by
      rw [h, List.drop_append_of_le_length (by simp), List.drop_replicate, show j - (j - (i + 1)) = i + 1 by omega, List.replicate_succ, List.cons_append]
    refine ⟨⟨4, [40], ↑(j - (i + 1))⟩ :: O, ?_, by simp [h2, kt, List.replicate_succ]⟩
    rw [skipN_eq l (j - (i + 1)), hd, skp_open, Nat.add_zero]
    refine .tok (n := 1) (by rw [h]; simp; omega) (by rw [hd]; exact oneF_open _ _) (by omega) ?_
    rwa [show j - (i + 1) + 1 = j - i by omega]
theorem rep_kt {R : List Tok} {n i : Nat} {x : Int × List UInt8} (h : R.map kt = List.replicate n x) (hi : i < n) : ∃ u, R[i]? = some u ∧ kt u = x := by
  have h1 : (R.map kt)[i]? = some x := by rw [h]; simp [hi]
  rw [List.getElem?_map] at h1
  exact Option.map_eq_some_iff.1 h1
theorem round_plain {s : List UInt8} {n : Nat} (hs : s.length ≤ 1500) (hn : n ≤ 1000) (hp : (parseF s).2 = 0) : parseF (List.replicate n 40 ++ (s ++ 10 :: List.replicate n 41)) = parseF s := by
  obtain ⟨h1, h2, h3⟩ := parseF_ok hp
  obtain ⟨R, r1, r2⟩ := lx_ends (l := List.replicate n 40 ++ (s ++ 10 :: List.replicate n 41)) (x := List.replicate n 40 ++ (s ++ [10])) n (by simp)
  have hend : endAt (List.replicate n 40) s (List.replicate n 41) = (List.replicate n (40 : UInt8) ++ (s ++ [10])).length := by
    unfold endAt; rw [skp_nl, skp_rep]; simp; omega
  rw [← hend] at r1
  obtain ⟨T', t1, t2⟩ := Lx.mid h1 _ _ r1
  rw [List.length_replicate] at t1
  obtain ⟨O, o1, o2⟩ := lx_opens (x := []) n _ rfl rfl t1
  have hO : O.length = n := by simpa using congrArg List.length o2
  have hR : R.length = n := by simpa using congrArg List.length r2
  have hT' := kt_len t2
  have hemb : Emb (allTok s).1 (O ++ (T' ++ R)) O.length := emb_of rfl t2 (fun u hu => by
    have hpos : 0 < n := by rw [← hR]; exact (List.getElem?_eq_some_iff.1 hu).1
    obtain ⟨u', e1, e2⟩ := rep_kt r2 hpos
    rw [hu] at e1; cases e1; exact e2)
  have hcl : ∀ i, i < n → ∃ u, (O ++ (T' ++ R))[n + (allTok s).1.length + i]? = some u ∧ kt u = (4, [41]) := by
    intro i hi
    obtain ⟨u, e1, e2⟩ := rep_kt r2 hi
    refine ⟨u, ?_, e2⟩
    rw [List.getElem?_append_right (by omega), List.getElem?_append_right (by omega), ← e1]; congr 1; omega
  have hop : ∀ i, i < n → isT (O ++ (T' ++ R)) i 4 [40] = true := by
    intro i hi
    obtain ⟨u, e1, e2⟩ := rep_kt o2 hi
    exact isT_kt (by rw [List.getElem?_append_left (by omega)]; exact e1) e2
  have hlen : (O ++ (T' ++ R)).length = n + (allTok s).1.length + n := by simp; omega
  have hw : ∀ i (k : Nat), isT (O ++ (T' ++ R)) (n + (allTok s).1.length + i) 1 (wordO k) = false := by
    intro i k
    by_cases hi : i < n
    · obtain ⟨u, e1, e2⟩ := hcl i hi
      exact isT_sgn e1 e2 _
    · exact isT_out (by omega) _ _
  have key : ∀ j, j ≤ n → ∃ f, strO (O ++ (T' ++ R)) f 0 (n - j) [] = some (some ((parseF s).1, n + (allTok s).1.length + j)) := by
    intro j
    induction j with
    | zero =>
      intro _
      have := (hemb.str [] _ _ _ _ _ _ (Nat.zero_le _) ((conO_str _ 0).trans (congrArg some h2))).2
      refine ⟨4 * (allTok s).1.length + 3, ?_⟩
      have e : ∀ l : List Nod, l.map (shN 0) = l := fun l => by rw [List.map_congr_left (g := id) (fun x _ => shN_zero x), List.map_id]
      rw [hO, Nat.zero_add] at this
      simp only [List.length_nil, e, List.nil_append] at this
      rw [Nat.sub_zero, Nat.add_zero, Nat.add_comm n]
      exact this
    | succ j ih =>
      intro hj
      obtain ⟨f, hf⟩ := ih (by omega)
      obtain ⟨u, e1, e2⟩ := hcl j (by omega)
      have a1 := str_paren (a := n - (j + 1)) (by rw [show n - (j + 1) + 1 = n - j by omega]; exact hf) (hop _ (by omega)) (isT_kt e1 e2)
      have a2 := str_up (m := 1) (by omega) a1 (hw (j + 1) 1)
      have a3 := str_up (m := 0) (by omega) a2 (hw (j + 1) 0)
      exact ⟨_, a3⟩
  obtain ⟨f, hf⟩ := key n (Nat.le_refl _)
  rw [Nat.sub_self] at hf
  have := parseF_of (s := List.replicate n 40 ++ (s ++ 10 :: List.replicate n 41)) (by simp; omega) o1 (by rw [conO_of hf, hlen])
  rw [this, if_neg (by omega)]
  exact Prod.ext rfl hp.symm
/-! ### An operator between two -/
theorem oneF_and (x : List UInt8) (a : Nat) : oneF (97 :: 110 :: 100 :: 32 :: x) a = (⟨1, [97, 110, 100], a⟩, 3) := by
  have h1 : isLow 97 = true := by decide
  have h2 : isMark 97 = true := by decide
  have h3 : isMark 110 = true := by decide
  have h4 : isMark 100 = true := by decide
  have h5 : isMark 32 = false := by decide
  simp [oneF, h1, runF, h2, h3, h4, h5]
theorem oneF_or (x : List UInt8) (a : Nat) : oneF (111 :: 114 :: 32 :: x) a = (⟨1, [111, 114], a⟩, 2) := by
  have h1 : isLow 111 = true := by decide
  have h2 : isMark 111 = true := by decide
  have h3 : isMark 114 = true := by decide
  have h5 : isMark 32 = false := by decide
  simp [oneF, h1, runF, h2, h3, h5]
theorem oneF_not (x : List UInt8) (a : Nat) : oneF (110 :: 111 :: 116 :: 32 :: x) a = (⟨1, [110, 111, 116], a⟩, 3) := by
  have h1 : isLow 110 = true := by decide
  have h2 : isMark 110 = true := by decide
  have h3 : isMark 111 = true := by decide
  have h4 : isMark 116 = true := by decide
  have h5 : isMark 32 = false := by decide
  simp [oneF, h1, runF, h2, h3, h4, h5]
theorem skp_let (b : UInt8) (x : List UInt8) (h : hasB blanks b = false) (h35 : ((b.toNat : Int) == 35) = false) : skp (b :: x) = 0 := by
  rw [skp_cons]; simp [h, h35]
/-- A text within, between parentheses: its tokens, and the closing sign. -/
theorem lx_paren {s pre w : List UInt8} {R : List Tok} (h : (allTok s).2.2 = 0) (hR : Lx ((pre ++ [40]) ++ (s ++ 10 :: 41 :: w)) (skipN ((pre ++ [40]) ++ (s ++ 10 :: 41 :: w)) (pre.length + s.length + 3)) R) :
    ∃ O T' C, Lx ((pre ++ [40]) ++ (s ++ 10 :: 41 :: w)) pre.length (O :: (T' ++ C :: R)) ∧ T'.map kt = (allTok s).1.map kt ∧ kt O = (4, [40]) ∧ kt C = (4, [41]) := by
  have hend : endAt (pre ++ [40]) s (41 :: w) = pre.length + s.length + 2 := by
    unfold endAt; rw [skp_nl, skp_close]; simp; omega
  have hd : ((pre ++ [40]) ++ (s ++ 10 :: 41 :: w)).drop (pre.length + s.length + 2) = 41 :: w := by
    rw [show (pre ++ [40]) ++ (s ++ 10 :: 41 :: w) = ((pre ++ [40]) ++ (s ++ [10])) ++ 41 :: w by simp]
    rw [List.drop_left' (by simp; omega)]
  have hc : Lx ((pre ++ [40]) ++ (s ++ 10 :: 41 :: w)) (endAt (pre ++ [40]) s (41 :: w)) (⟨4, [41], ↑(pre.length + s.length + 2)⟩ :: R) := by
    rw [hend]
    exact .tok (n := 1) (by simp; omega) (by rw [hd]; exact oneF_close _ _) (by omega) hR
  obtain ⟨T', t1, t2⟩ := Lx.mid h _ _ hc
  refine ⟨⟨4, [40], pre.length⟩, T', ⟨4, [41], ↑(pre.length + s.length + 2)⟩, .tok (n := 1) (by simp) ?_ (by omega) ?_, t2, rfl, rfl⟩
  · rw [List.append_assoc, List.drop_left]; exact oneF_open _ _
  · rw [List.length_append, List.length_singleton] at t1; exact t1
theorem paren_str {ts S S' : List Tok} {pre : List Tok} {O C : Tok} {R : List Tok} {ns base : List Nod} (hts : ts = pre ++ O :: (S' ++ C :: R)) (hS : S'.map kt = S.map kt) (hO : kt O = (4, [40])) (hC : kt C = (4, [41])) (hc : conO S 0 = some (ns, S.length)) :
    ∃ f, strO ts f 2 pre.length base = some (some (base ++ ns.map (shN base.length), pre.length + S.length + 2)) := by
  have hl := kt_len hS
  have hemb : Emb S ts (pre ++ [O]).length := emb_of (O := pre ++ [O]) (T' := S') (R := C :: R) (by rw [hts]; simp) hS (fun u hu => by simp at hu; rw [← hu]; exact hC)
  have h1 := (hemb.str base _ _ _ _ _ _ (Nat.zero_le _) ((conO_str _ 0).trans (congrArg some hc))).2
  rw [Nat.zero_add, List.length_append, List.length_singleton] at h1
  simp only [List.map_nil, List.append_nil] at h1
  have h2 := str_paren (a := pre.length) h1 (isT_kt (u := O) (by rw [hts]; simp) hO) (isT_kt (u := C) (by
    rw [hts, List.getElem?_append_right (by omega), show S.length + (pre.length + 1) - pre.length = S'.length + 1 by omega, List.getElem?_cons_succ, List.getElem?_append_right (by omega), Nat.sub_self]; rfl) hC)
  refine ⟨_, h2.trans ?_⟩
  congr 3
  omega
def wordB (or' : Bool) : List UInt8 := if or' = true then [32, 111, 114, 32] else [32, 97, 110, 100, 32]
def kindB (or' : Bool) : UInt8 := if or' = true then 2 else 1
def two (a b : List Nod) (or' : Bool) : List Nod := a ++ b.map (shN a.length) ++ [opN (kindB or') ((a.length : Int) - 1) (((a ++ b.map (shN a.length)).length : Int) - 1)]
theorem pairs_plain {s t : List UInt8} (or' : Bool) (hs : s.length ≤ 1500) (ht : t.length ≤ 1500) (h1 : (parseF s).2 = 0) (h2 : (parseF t).2 = 0) :
    parseF ([40] ++ (s ++ 10 :: 41 :: (wordB or' ++ 40 :: (t ++ [10, 41])))) = if ((two (parseF s).1 (parseF t).1 or').length : Int) > 31 then ([], 4) else (two (parseF s).1 (parseF t).1 or', 0) := by
  obtain ⟨a1, a2, a3⟩ := parseF_ok h1
  obtain ⟨b1, b2, b3⟩ := parseF_ok h2
  have hl4 : ([40] ++ (s ++ 10 :: 41 :: (wordB or' ++ 40 :: (t ++ [10, 41])))).length ≤ 4096 := by
    have : (wordB or').length ≤ 5 := by cases or' <;> decide
    simp; omega
  generalize hbig : [40] ++ (s ++ 10 :: 41 :: (wordB or' ++ 40 :: (t ++ [10, 41]))) = big at hl4 ⊢
  have hbig2 : big = (([40] ++ s ++ [10, 41] ++ wordB or') ++ [40]) ++ (t ++ 10 :: 41 :: []) := by rw [← hbig]; simp
  obtain ⟨O2, T', C2, x1, x2, x3, x4⟩ := lx_paren (s := t) (pre := [40] ++ s ++ [10, 41] ++ wordB or') (w := []) (R := []) b1 (.nil _ (by
    refine Nat.le_trans ?_ (skipN_ge _ _); simp <;> omega))
  rw [← hbig2] at x1
  -- the word between
  have hword : ∃ W, Lx big (skipN big (0 + s.length + 3)) (W :: O2 :: (T' ++ C2 :: [])) ∧ kt W = (1, wordO (if or' = true then 0 else 1)) := by
    have hd : big.drop (0 + s.length + 3) = wordB or' ++ 40 :: (t ++ [10, 41]) := by
      rw [← hbig, show [40] ++ (s ++ 10 :: 41 :: (wordB or' ++ 40 :: (t ++ [10, 41]))) = ([40] ++ s ++ [10, 41]) ++ (wordB or' ++ 40 :: (t ++ [10, 41])) by simp]
      exact List.drop_left' (by simp)
    rw [skipN_eq, hd]
    cases or' with
    | true =>
      have hw : wordB true = [32, 111, 114, 32] := rfl
      rw [hw] at hd x1 ⊢
      simp only [List.cons_append, List.nil_append] at hd x1 ⊢
      rw [skp_sp, skp_let 111 _ (by decide) (by decide)]
      have hd1 : big.drop (0 + s.length + 3 + (1 + 0)) = 111 :: 114 :: 32 :: 40 :: (t ++ [10, 41]) := by rw [← List.drop_drop, hd]; rfl
      have hd2 : big.drop (0 + s.length + 3 + (1 + 0) + 2) = 32 :: 40 :: (t ++ [10, 41]) := by rw [← List.drop_drop, hd1]; rfl
      refine ⟨⟨1, [111, 114], ↑(0 + s.length + 3 + (1 + 0))⟩, .tok (n := 2) ?_ (by rw [hd1]; exact oneF_or _ _) (by omega) ?_, rfl⟩
      · rw [← hbig]; simp [wordB]; try omega
      · rw [skipN_eq, hd2, skp_sp, skp_open]
        simp at x1
        rw [show 0 + s.length + 3 + (1 + 0) + 2 + (1 + 0) = s.length + 7 by omega]
        exact x1
    | false =>
      have hw : wordB false = [32, 97, 110, 100, 32] := rfl
      rw [hw] at hd x1 ⊢
      simp only [List.cons_append, List.nil_append] at hd x1 ⊢
      rw [skp_sp, skp_let 97 _ (by decide) (by decide)]
      have hd1 : big.drop (0 + s.length + 3 + (1 + 0)) = 97 :: 110 :: 100 :: 32 :: 40 :: (t ++ [10, 41]) := by rw [← List.drop_drop, hd]; rfl
      have hd2 : big.drop (0 + s.length + 3 + (1 + 0) + 3) = 32 :: 40 :: (t ++ [10, 41]) := by rw [← List.drop_drop, hd1]; rfl
      refine ⟨⟨1, [97, 110, 100], ↑(0 + s.length + 3 + (1 + 0))⟩, .tok (n := 3) ?_ (by rw [hd1]; exact oneF_and _ _) (by omega) ?_, rfl⟩
      · rw [← hbig]; simp [wordB]; try omega
      · rw [skipN_eq, hd2, skp_sp, skp_open]
        simp at x1
        rw [show 0 + s.length + 3 + (1 + 0) + 3 + (1 + 0) = s.length + 8 by omega]
        exact x1
  obtain ⟨W, w1, w2⟩ := hword
  have hbig1 : big = (([] : List UInt8) ++ [40]) ++ (s ++ 10 :: 41 :: (wordB or' ++ 40 :: (t ++ [10, 41]))) := by rw [← hbig]; rfl
  obtain ⟨O1, S', C1, y1, y2, y3, y4⟩ := lx_paren (s := s) (pre := []) (w := wordB or' ++ 40 :: (t ++ [10, 41])) (R := W :: O2 :: (T' ++ C2 :: [])) a1 (by rw [← hbig1]; exact w1)
  rw [← hbig1] at y1
  have hsk : skipN big 0 = 0 := by rw [skipN_eq, ← hbig]; exact skp_open (s ++ 10 :: 41 :: (wordB or' ++ 40 :: (t ++ [10, 41])))
  have hS := kt_len y2
  have hT := kt_len x2
  generalize hts : O1 :: (S' ++ C1 :: W :: O2 :: (T' ++ C2 :: [])) = ts at y1
  obtain ⟨f1, g1⟩ := paren_str (ts := ts) (pre := []) (R := W :: O2 :: (T' ++ C2 :: [])) (base := []) (by rw [← hts]; rfl) y2 y3 y4 a2
  have e0 : ∀ l : List Nod, l.map (shN 0) = l := fun l => by rw [List.map_congr_left (g := id) (fun x _ => shN_zero x), List.map_id]
  simp only [List.length_nil, e0, List.nil_append, Nat.zero_add] at g1
  obtain ⟨f2, g2⟩ := paren_str (ts := ts) (pre := O1 :: (S' ++ [C1, W])) (R := []) (base := (parseF s).1) (by rw [← hts]; simp) x2 x3 x4 b2
  have hp2 : (O1 :: (S' ++ [C1, W])).length = (allTok s).1.length + 2 + 1 := by simp; omega
  rw [hp2] at g2
  have htl : ts.length = (allTok s).1.length + 2 + 1 + (allTok t).1.length + 2 := by rw [← hts]; simp; omega
  have hW : ts[(allTok s).1.length + 2]? = some W := by
    rw [← hts, List.getElem?_cons_succ, List.getElem?_append_right (by omega), show (allTok s).1.length + 1 - S'.length = 1 by omega]; rfl
  have e1 := strO_mono _ (max f1 f2) _ _ _ _ (Nat.le_max_left _ _) g1
  have e2 := strO_mono _ (max f1 f2) _ _ _ _ (Nat.le_max_right _ _) g2
  have hend : ∀ k, isT ts ((allTok s).1.length + 2 + 1 + (allTok t).1.length + 2) 1 (wordO k) = false := fun k => isT_out (by omega) _ _
  have fin : ∃ f, strO ts f 0 0 [] = some (some (two (parseF s).1 (parseF t).1 or', ts.length)) := by
    rw [htl]
    cases or' with
    | false =>
      have q := str_two (m := 1) (by omega) e1 (isT_kt hW w2) e2 (hend 1)
      exact ⟨_, str_up (m := 0) (by omega) q (hend 0)⟩
    | true =>
      have hw0 : isT ts ((allTok s).1.length + 2) 1 (wordO 1) = false := by
        simp only [kt, Prod.mk.injEq] at w2
        unfold isT; rw [hW]; simp [w2, wordO]
      have q1 := str_up (m := 1) (by omega) e1 hw0
      have q2 := str_up (m := 1) (by omega) e2 (hend 1)
      exact ⟨_, str_two (m := 0) (by omega) q1 (isT_kt hW w2) q2 (hend 0)⟩
  obtain ⟨f, hf⟩ := fin
  exact parseF_of hl4 (by rw [hsk]; exact y1) (conO_of hf)
def neg1 (a : List Nod) : List Nod := a ++ [opN 3 ((a.length : Int) - 1) 0]
theorem not_plain {s : List UInt8} (hs : s.length ≤ 1500) (h1 : (parseF s).2 = 0) :
    parseF ([110, 111, 116, 32, 40] ++ (s ++ [10, 41])) = if ((neg1 (parseF s).1).length : Int) > 31 then ([], 4) else (neg1 (parseF s).1, 0) := by
  obtain ⟨a1, a2, a3⟩ := parseF_ok h1
  generalize hbig : [110, 111, 116, 32, 40] ++ (s ++ [10, 41]) = big
  have hl4 : big.length ≤ 4096 := by rw [← hbig]; simp; omega
  have hbig1 : big = ([110, 111, 116, 32] ++ [40]) ++ (s ++ 10 :: 41 :: []) := by rw [← hbig]; simp
  obtain ⟨O1, S', C1, y1, y2, y3, y4⟩ := lx_paren (s := s) (pre := [110, 111, 116, 32]) (w := []) (R := []) a1 (.nil _ (by
    refine Nat.le_trans ?_ (skipN_ge _ _); simp <;> omega))
  rw [← hbig1] at y1
  have hd0 : big = 110 :: 111 :: 116 :: 32 :: 40 :: (s ++ [10, 41]) := by rw [← hbig]; rfl
  have hsk : skipN big 0 = 0 := by rw [skipN_eq, hd0]; exact skp_let 110 (111 :: 116 :: 32 :: 40 :: (s ++ [10, 41])) (by decide) (by decide)
  have hd3 : big.drop 3 = 32 :: 40 :: (s ++ [10, 41]) := by rw [hd0]; rfl
  have hx : Lx big 0 (⟨1, [110, 111, 116], ↑(0 : Nat)⟩ :: O1 :: (S' ++ C1 :: [])) := by
    refine .tok (n := 3) (by rw [hd0]; simp) (by rw [hd0]; exact oneF_not _ _) (by omega) ?_
    rw [skipN_eq, hd3, skp_sp, skp_open]
    exact y1
  have hS := kt_len y2
  generalize hts : (⟨1, [110, 111, 116], ↑(0 : Nat)⟩ : Tok) :: O1 :: (S' ++ C1 :: []) = ts at hx
  obtain ⟨f1, g1⟩ := paren_str (ts := ts) (pre := [⟨1, [110, 111, 116], ↑(0 : Nat)⟩]) (R := []) (base := []) (by rw [← hts]; rfl) y2 y3 y4 a2
  have e0 : ∀ l : List Nod, l.map (shN 0) = l := fun l => by rw [List.map_congr_left (g := id) (fun x _ => shN_zero x), List.map_id]
  simp only [List.length_nil, e0, List.nil_append] at g1
  have htl : ts.length = [(⟨1, [110, 111, 116], ↑(0 : Nat)⟩ : Tok)].length + (allTok s).1.length + 2 := by rw [← hts]; simp; omega
  rw [← htl] at g1
  have hN : ts[0]? = some ⟨1, [110, 111, 116], ↑(0 : Nat)⟩ := by rw [← hts]; rfl
  have q1 := str_neg2 (a := 0) g1 (isT_kt hN rfl)
  have q2 := str_up (m := 1) (by omega) q1 (isT_out (by omega) _ _)
  have q3 := str_up (m := 0) (by omega) q2 (isT_out (by omega) _ _)
  exact parseF_of hl4 (by rw [hsk]; exact hx) (conO_of q3)
end Go.Vi
