/- Texts that are read part by part, between blanks that stand in no quotes; the document's own printer in plain words. Whether rows of matchers, of nodes are the same: any two. The document's own answer: how matchers and fixed numbers are written. The document's own answer: the tokens of a text, part by part. The document's own printer: the walk. The document's own printer: all texts. The document's own printer: each text. ExprBack: the walk. The document's own printer: any nodes. Nodes in memory of their own; what chapter 10 goes through. Rows that grow: what the copies need. Lists copied and joined; whether a configuration is more than is gone through. Whether a configuration is more than is gone through. Copies in memory of their own: matchers, nodes. Copies in memory of their own: rules, configurations. Copies in memory of their own: configurations. Configurations with a thing twice, without one, turned about; the windows of right nodes. The document's own answer: whether a rule, a mute may be. Whether a rule is more than is gone through: what is known of one that isn't. The document's own answer of chapter 11, rule by rule, mute by mute; CheckRules. -/
import Derived.Test.YtgekefehilgkeaaJCheckConfigs5
import Derived.Test.YtgekefehilgkeaaJCheckConfigs4
namespace Go.Vi
open Go Go.Proofs
def partF : List UInt8 → Bool → Nat
 | [],_ => 0
 | [b],q => if q = false ∧ b = 32 then 0 else if b = 92 then 2 else 1
 | b :: c :: r,q => if q = false ∧ b = 32 then 0 else if b = 92 then 2 + partF r q else if b = 34 then 1 + partF (c :: r) (!q) else 1 + partF (c :: r) q
theorem partF_cons (b : UInt8) (r : List UInt8) (q : Bool) : partF (b :: r) q = if q = false ∧ b = 32 then 0 else if b = 92 then 2 + partF (r.drop 1) q else if b = 34 then 1 + partF r (!q) else 1 + partF r q := by
 cases r with
 | nil =>
   have e : partF [b] q = if q = false ∧ b = 32 then 0 else if b = 92 then 2 else 1 := by rw [partF]
   rw [e]
   split
   · rfl
   · split
     · rfl
     · split <;> rfl
 | cons c r => rw [partF]; rfl
def partsF : Nat → List UInt8 → List Tok × Int
 | 0,_ => ([],0)
 | f + 1, s => if s = [] then ([], 0) else if s.length < partF s false then ([], 1) else
     if (allTok (s.take (partF s false))).2.2 ≠ 0 then ([],(allTok (s.take (partF s false))).2.2) else
     if (partsF f (s.drop (partF s false + 1))).2 ≠ 0 then ([],(partsF f (s.drop (partF s false + 1))).2) else ((allTok (s.take (partF s false))).1 ++ (partsF f (s.drop (partF s false + 1))).1,0)
def Thr (t : List UInt8) : Prop := ∀ x,partF (t ++ x) false = t.length + partF x false
theorem Thr.app {t u} (h : Thr t) (g : Thr u) : Thr (t ++ u) := fun x => by rw [List.append_assoc,h,g,List.length_append]; omega
theorem thr_of {t : List UInt8} (h : ∀ b ∈ t,b ≠ 32 ∧ b ≠ 34 ∧ b ≠ 92) : Thr t := by
 induction t with
 | nil => intro x; simp
 | cons b t ih =>
   intro x
   obtain ⟨h1,h2,h3⟩ := h b (by simp)
   rw [List.cons_append,partF_cons,if_neg (fun q => h1 q.2),if_neg h3,if_neg h2,ih (fun c hc => h c (by simp [hc])) x,List.length_cons]
   omega
theorem thr_esc : ∀ (v x : List UInt8),partF (v.flatMap escB ++ 34 :: x) true = (v.flatMap escB).length + 1 + partF x false := by
 intro v
 induction v with
 | nil => intro x; rw [List.flatMap_nil,List.nil_append,partF_cons]; simp
 | cons b v ih =>
   intro x
   rw [List.flatMap_cons]
   by_cases he : b = 34 ∨ b = 92
   · have e0 : escB b = [92,b] := if_pos he
     rw [e0]
     simp only [List.cons_append,List.nil_append,List.length_cons]
     rw [partF_cons,if_neg (by simp),if_pos rfl,List.drop_succ_cons,List.drop_zero,ih x]
     omega
   · have e0 : escB b = [b] := if_neg he
     rw [e0]
     simp only [List.cons_append,List.nil_append,List.length_cons]
     rw [partF_cons,if_neg (by simp),if_neg (fun e => he (.inr e)),if_neg (fun e => he (.inl e)),ih x]
     omega
theorem thr_quote (v : List UInt8) : Thr (quoteS v) := by
 intro x
 have e : quoteS v ++ x = 34 :: (v.flatMap escB ++ 34 :: x) := by simp [quoteS]
 rw [e,partF_cons,if_neg (by simp),if_neg (by decide),if_pos rfl]
 simp only [Bool.not_false]
 rw [thr_esc]
 simp [quoteS]
 omega
def Clo (p : List UInt8) : Prop := ∀ r,(∀ b r',r = b :: r' → b = 32) → partF (p ++ r) false = p.length
theorem clo_nil : Clo [] := by
 intro r h
 cases r with
 | nil => rfl
 | cons b r => rw [List.nil_append,partF_cons,if_pos ⟨rfl,h b r rfl⟩]; rfl
theorem Thr.clo {t p} (h : Thr t) (g : Clo p) : Clo (t ++ p) := fun r hr => by rw [List.append_assoc,h,g r hr,List.length_append]
inductive Pk : List UInt8 → List KT → Nat → Prop
 | last {p K c} : Lk p K → Clo p → p.length ≤ c → Pk p K c
 | cons {p K s K' c c'} : Lk p K → Clo p → p.length ≤ c → c' ≤ 4096 → Pk s K' c' → Pk (p ++ 32 :: s) (K ++ K') c
theorem Pk.mono {s K c c'} (h : Pk s K c) (hc : c ≤ c') : Pk s K c' := by
 cases h with
 | last h1 h2 h3 => exact .last h1 h2 (by omega)
 | cons h1 h2 h3 h4 h5 => exact .cons h1 h2 (by omega) h4 h5
theorem Pk.blank {s K c} (h : Pk s K c) (hc : c ≤ 4096) : Pk (32 :: s) K 0 := .cons (p := []) (K := []) (.nil [] rfl) clo_nil (Nat.le_refl _) hc h
theorem Pk.tok {t r : List UInt8} {x K : List KT} {c : Nat} (ht : Thr t) (hL : ∀ p K y,r = p ++ y → Lk p K → Lk (t ++ p) (x ++ K)) (h : Pk r K c) : Pk (t ++ r) (x ++ K) (c + t.length) := by
 cases h with
 | last h1 h2 h3 => exact .last (hL _ _ [] (by simp) h1) (ht.clo h2) (by simp; omega)
 | cons h1 h2 h3 h4 h5 =>
   have := Pk.cons (hL _ _ _ rfl h1) (ht.clo h2) (c := c + t.length) (by simp; omega) h4 h5
   simpa using this
theorem Off.pre {q : UInt8 → Bool} {r p y : List UInt8} (h : Off q r) (e : r = p ++ y) : Off q p := fun b r' he => h b (r' ++ y) (by rw [e,he]; rfl)
theorem Del.pre {r p y : List UInt8} (h : Del r) (e : r = p ++ y) : Del p := fun b r' he => h b (r' ++ y) (by rw [e,he]; rfl)
theorem mark_thr {b : UInt8} (h : isMark b = true) : b ≠ 32 ∧ b ≠ 34 ∧ b ≠ 92 := by
 refine ⟨?_,?_,?_⟩ <;> (rintro rfl; revert h; decide)
theorem dig_thr {b : UInt8} (h : isDig b = true) : b ≠ 32 ∧ b ≠ 34 ∧ b ≠ 92 := by
 refine ⟨?_,?_,?_⟩ <;> (rintro rfl; revert h; decide)
theorem Pk.word {s r : List UInt8} {K : List KT} {c : Nat} {b : UInt8} {t : List UInt8} (hs : s = b :: t) (hb : isLow b = true) (hm : ∀ x ∈ s,isMark x = true) (hr : Off isMark r) (h : Pk r K c) : Pk (s ++ r) ((1,s) :: K) (c + s.length) :=
 .tok (x := [(1,s)]) (thr_of fun b hb => mark_thr (hm b hb)) (fun _ _ _ e h => Lk.word hs hb hm (hr.pre e) h) h
theorem Pk.sign {c : UInt8} {r : List UInt8} {K : List KT} {n : Nat} (h1 : hasB blanks c = false ∧ ((c.toNat : Int) == 35) = false ∧ isLow c = false ∧ isDig c = false ∧ ((c.toNat : Int) == 34) = false ∧ hasB sigs2 c = true) (hb : c ≠ 32 ∧ c ≠ 34 ∧ c ≠ 92)
  (hc : hasB sigs1 c = false ∨ Off (fun b => (b.toNat : Int) == 61) r) (h : Pk r K n) : Pk (c :: r) ((4,[c]) :: K) (n + 1) :=
 Pk.tok (t := [c]) (x := [(4,[c])]) (thr_of fun b h => by simp at h; subst h; exact hb) (fun _ _ _ e h => Lk.sign h1 (hc.imp id fun h => h.pre e) h) h
theorem Pk.sign2 {c : UInt8} {r : List UInt8} {K : List KT} {n : Nat} (h1 : hasB blanks c = false ∧ ((c.toNat : Int) == 35) = false ∧ isLow c = false ∧ isDig c = false ∧ ((c.toNat : Int) == 34) = false ∧ hasB sigs1 c = true) (hb : c ≠ 32 ∧ c ≠ 34 ∧ c ≠ 92)
  (h : Pk r K n) : Pk (c :: 61 :: r) ((4,[c,61]) :: K) (n + 2) :=
 Pk.tok (t := [c,61]) (x := [(4,[c,61])]) (thr_of fun b h => by simp at h; rcases h with rfl | rfl <;> first | exact hb | decide) (fun _ _ _ _ h => Lk.sign2 h1 h) h
theorem fix_thr {v : Int} (hv : sat v = v) : Thr (fixS v) := by
 have hmx : maxFix = 4611686018427387903 := rfl
 have hrg : -maxFix ≤ v ∧ v ≤ maxFix := by unfold sat at hv; omega
 refine thr_of fun b hb => ?_
 rw [fixS_eq hv,fixU_eq] at hb
 obtain ⟨_,f2,_⟩ := frac_ok (v.natAbs % 1000) (by omega)
 rw [List.mem_append,List.mem_append] at hb
 rcases hb with hb | hb | hb
 · split at hb
   · simp at hb; subst hb; decide
   · cases hb
 · exact dig_thr (natS_dig _ b hb)
 · split at hb
   · cases hb
   · rcases List.mem_cons.1 hb with rfl | hb
     · decide
     · exact dig_thr (List.all_eq_true.1 f2 b hb)
theorem Pk.val {r : List UInt8} {K : List KT} {v : Int} {c : Nat} (hv : sat v = v) (hr : Del r) (h : Pk r K c) : Pk (fixS v ++ r) (valK v ++ K) (c + 42) :=
 (Pk.tok (fix_thr hv) (fun _ _ _ e h => Lk.val hv (hr.pre e) h) h).mono (by have := fixS_len v; omega)
theorem mat_thr {m : Mat} (h : m.ok = true) : Thr (matS m) := by
 unfold Mat.ok at h
 simp only [Bool.and_eq_true,Bool.or_eq_true,beq_iff_eq] at h
 obtain ⟨⟨_,hn⟩,_⟩ := h
 obtain ⟨_,_,_,_,n3⟩ := name_low hn
 refine ((thr_of fun b hb => mark_thr (n3 b hb)).app (thr_of fun b hb => ?_)).app (thr_quote _)
 unfold sgnS opS at hb
 split at hb
 · split at hb
   · simp at hb; subst hb; decide
   · split at hb
     · simp at hb; rcases hb with rfl | rfl <;> decide
     · split at hb
       · simp at hb; rcases hb with rfl | rfl <;> decide
       · cases hb
 · simp at hb; subst hb; decide
theorem more_thr : ∀ (ms : List Mat),(∀ m ∈ ms,m.ok = true) → Thr ((ms.map matS).map ([44] ++ ·)).flatten := by
 intro ms
 induction ms with
 | nil => intro _ x; simp
 | cons m ms ih =>
   intro h
   have h1 := ih fun x hx => h x (by simp [hx])
   have h2 : Thr [44] := thr_of (by decide)
   exact (h2.app (mat_thr (h m (by simp)))).app h1
theorem sel_thr {ms : List Mat} (h : mayMats ms = true) : Thr (selS ms) := by
 unfold mayMats at h
 simp only [Bool.and_eq_true,List.all_eq_true] at h
 have h1 : Thr [123] := thr_of (by decide)
 have h2 : Thr [125] := thr_of (by decide)
 cases ms with
 | nil => exact h1.app h2
 | cons m ms =>
   have h3 := ((h1.app (mat_thr (h.1 m (by simp)))).app (more_thr ms fun x hx => h.1 x (by simp [hx]))).app h2
   have e : selS (m :: ms) = [123] ++ matS m ++ ((ms.map matS).map ([44] ++ ·)).flatten ++ [125] := by simp [selS,joinS]
   rw [e]; exact h3
theorem Pk.sel {ms : List Mat} {r : List UInt8} {K : List KT} {c : Nat} (hm : mayMats ms = true) (h : Pk r K c) : Pk (selS ms ++ r) (selK ms ++ K) (c + 512) :=
 (Pk.tok (sel_thr hm) (fun _ _ _ _ h => Lk.sel hm h) h).mono (by have := (sel_small hm).2.2; omega)
theorem Pk.cmpS {i : Nat} (hi : i < 6) {r : List UInt8} {K : List KT} {c : Nat} (hc : c ≤ 4096) (h : Pk r K c) : Pk (cmps.getD i [] ++ 32 :: r) ((4,cmps.getD i []) :: K) 2 := by
 have hb := h.blank hc
 have ho : Off (fun b : UInt8 => (b.toNat : Int) == 61) (32 :: r) := by intro b r' e; simp at e; rw [← e.1]; decide
 match i,hi with
 | 0,_ => exact (Pk.sign (c := 60) (by decide) (by decide) (.inr ho) hb).mono (by omega)
 | 1,_ => exact Pk.sign2 (c := 60) (by decide) (by decide) hb
 | 2,_ => exact (Pk.sign (c := 62) (by decide) (by decide) (.inr ho) hb).mono (by omega)
 | 3,_ => exact Pk.sign2 (c := 62) (by decide) (by decide) hb
 | 4,_ => exact Pk.sign2 (c := 61) (by decide) (by decide) hb
 | 5,_ => exact Pk.sign2 (c := 33) (by decide) (by decide) hb
theorem Pk.leaf {n : Nod} {r : List UInt8} {K : List KT} {c : Nat} (hp : n.plain = true) (hr : Del r) (hcc : c ≤ 4000) (h : Pk r K c) : Pk (leafS n ++ r) (leafK n ++ K) 600 := by
 unfold Nod.plain at hp
 simp only [Bool.and_eq_true,decide_eq_true_eq,beq_iff_eq] at hp
 obtain ⟨⟨⟨⟨⟨⟨⟨p1,p2⟩,p3⟩,p4⟩,p5⟩,p6⟩,p7⟩,p8⟩ := hp
 obtain ⟨w,hw⟩ : ∃ w : Nat,n.window = w := ⟨n.window.toNat,by omega⟩
 have hwl : w ≤ 1000 := by omega
 obtain ⟨b,t,a1,a2,a3⟩ := aggs_low n.agg.toNat (by omega)
 have a4 : (aggs.getD n.agg.toNat []).length ≤ 5 := getD_len (by decide)
 have h1 := Pk.val p6 hr h
 have h2 := Pk.cmpS (i := n.cmp.toNat) (by omega) (by omega) h1
 have h3 := Pk.sign (c := 41) (by decide) (by decide) (.inl (by decide)) (h2.blank (by omega))
 have h4 := Pk.sign (c := 93) (by decide) (by decide) (.inl (by decide)) h3
 have hwl2 := natS_len (n := w) (by omega)
 have h5 : Pk (fmtS n.window ++ 93 :: 41 :: 32 :: (cmps.getD n.cmp.toNat [] ++ 32 :: (fixS n.value ++ r))) ((2,fmtS n.window) :: (4,[93]) :: (4,[41]) :: (4,cmps.getD n.cmp.toNat []) :: (valK n.value ++ K)) 22 := by
  rw [hw,fmtS_nat]
  have hne := natS_ne (n := w) (by omega)
  have hd := natS_dig w
  refine (Pk.tok (x := [(2,natS w)]) (thr_of fun b hb => dig_thr (hd b hb)) (fun p K y e h => ?_) h4).mono (by omega)
  cases hq : natS w with
  | nil => exact absurd hq hne
  | cons b t =>
    rw [← hq]
    refine .num hq (hd b (by rw [hq]; simp)) (numLen_int hd ?_ ?_) h
    · intro b r' e2; rw [e2] at e; simp at e; rw [← e.1]; decide
    · intro b r' e2; rw [e2] at e; simp at e; rw [← e.1]; decide
 have h6 := Pk.sign (c := 91) (by decide) (by decide) (.inl (by decide)) h5
 have h7 := Pk.sel p2 h6
 have h8 := Pk.sign (c := 40) (by decide) (by decide) (.inl (by decide)) h7
 have h9 := Pk.word a1 a2 (fun x hx => List.all_eq_true.1 a3 x hx) (by intro b r' e; simp at e; rw [← e.1]; decide) h8
 have e1 : leafS n ++ r = aggs.getD n.agg.toNat [] ++ 40 :: (selS n.sel ++ 91 :: (fmtS n.window ++ 93 :: 41 :: 32 :: (cmps.getD n.cmp.toNat [] ++ 32 :: (fixS n.value ++ r)))) := by simp [leafS]
 have e2 : leafK n ++ K = (1,aggs.getD n.agg.toNat []) :: (4,[40]) :: (selK n.sel ++ (4,[91]) :: (2,fmtS n.window) :: (4,[93]) :: (4,[41]) :: (4,cmps.getD n.cmp.toNat []) :: (valK n.value ++ K)) := by simp [leafK]
 rw [e1,e2]
 exact h9.mono (by omega)
theorem Pk.cond {ns : List Nod} {s e : Nat} (hc : Cond ns s e) : ∀ (f : Nat) (least : Int) {r : List UInt8} {K : List KT} {c : Nat},e < f → f ≤ 40 → Del r → c + f ≤ 4000 → Pk r K c → Pk (txtF ns f e least ++ r) (txtT ns f e least ++ K) (700 + f) := by
 have wrap : ∀ {n : Nod} {least : Int} {B : List UInt8} {T : List KT} {f : Nat},(∀ {r : List UInt8} {K : List KT} {c : Nat},Del r → c + f ≤ 4000 → Pk r K c → Pk (B ++ r) (T ++ K) (700 + f)) → ∀ {r : List UInt8} {K : List KT} {c : Nat},Del r → c + (f + 1) ≤ 4000 → Pk r K c →
   Pk ((if strongI n.kind < least then [40] ++ B ++ [41] else B) ++ r) ((if strongI n.kind < least then (4,[40]) :: (T ++ [(4,[41])]) else T) ++ K) (700 + (f + 1)) := by
  intro n least B T f hB r K c hr hcc h
  split
  · have h1 := Pk.sign (c := 41) (by decide) (by decide) (.inl (by decide)) h
    have h2 := hB (Del.cl r) (by omega) h1
    have h3 := (Pk.sign (c := 40) (by decide) (by decide) (.inl (by decide)) h2).mono (c' := 700 + (f + 1)) (by omega)
    simpa using h3
  · exact (hB hr (by omega) h).mono (by omega)
 induction hc with
 | cmp e n h1 h2 h3 =>
   intro f least r K c hf hf4 hr hcc h
   obtain ⟨f,rfl⟩ : ∃ g,f = g + 1 := ⟨f - 1,by omega⟩
   have := wrap (n := n) (least := least) (B := leafS n) (T := leafK n) (f := f) (fun hr hcc h => (Pk.leaf h3 hr (by omega) h).mono (by omega)) hr hcc h
   simpa only [txtF,txtT,h1,h2,if_true] using this
 | neg s e n h1 h2 h3 h4 h5 hc ih =>
   intro f least r K c hf hf4 hr hcc h
   obtain ⟨f,rfl⟩ : ∃ g,f = g + 1 := ⟨f - 1,by omega⟩
   have := wrap (n := n) (least := least) (B := [110,111,116,32] ++ txtF ns f e 2) (T := (1,notS) :: txtT ns f e 2) (f := f) (fun {r K c} hr hcc h => by
    have h1 := ih f 2 (by omega) (by omega) hr hcc h
    have := Pk.word (s := [110,111,116]) rfl (by decide) (by decide) (off_sp _) (h1.blank (by omega))
    have := this.mono (c' := 700 + f) (by simp; omega)
    simpa [notS] using this) hr hcc h
   have k0 : ¬ ((3 : UInt8) = 0) := by decide
   simpa only [txtF,txtT,h1,h2,h4,Int.toNat_natCast,k0,if_false,if_true] using this
 | two s r' e n h1 h2 h3 h4 h5 hc1 hc2 ih1 ih2 =>
   intro f least r K c hf hf4 hr hcc h
   obtain ⟨f,rfl⟩ : ∃ g,f = g + 1 := ⟨f - 1,by omega⟩
   have hle := hc2.le
   rcases h2 with h2 | h2
   · have := wrap (n := n) (least := least) (B := txtF ns f r' 1 ++ [32,97,110,100,32] ++ txtF ns f e 2) (T := txtT ns f r' 1 ++ (1,wordO 1) :: txtT ns f e 2) (f := f) (fun {r K c} hr hcc h => by
      have g1 := ih2 f 2 (by omega) (by omega) hr hcc h
      have g2 := Pk.word (s := [97,110,100]) rfl (by decide) (by decide) (off_sp _) (g1.blank (by omega))
      have := ih1 f 1 (by omega) (by omega) (Del.sp _) (by omega) (g2.blank (by simp))
      simpa [wordO] using this) hr hcc h
     have k0 : ¬ ((1 : UInt8) = 0) := by decide
     have k3 : ¬ ((1 : UInt8) = 3) := by decide
     simpa only [txtF,txtT,h1,h2,h4,h5,Int.toNat_natCast,k0,k3,if_false,if_true] using this
   · have := wrap (n := n) (least := least) (B := txtF ns f r' 0 ++ [32,111,114,32] ++ txtF ns f e 1) (T := txtT ns f r' 0 ++ (1,wordO 0) :: txtT ns f e 1) (f := f) (fun {r K c} hr hcc h => by
      have g1 := ih2 f 1 (by omega) (by omega) hr hcc h
      have g2 := Pk.word (s := [111,114]) rfl (by decide) (by decide) (off_sp _) (g1.blank (by omega))
      have := ih1 f 0 (by omega) (by omega) (Del.sp _) (by omega) (g2.blank (by simp))
      simpa [wordO] using this) hr hcc h
     have k0 : ¬ ((2 : UInt8) = 0) := by decide
     have k1 : ¬ ((2 : UInt8) = 1) := by decide
     have k3 : ¬ ((2 : UInt8) = 3) := by decide
     simpa only [txtF,txtT,h1,h2,h4,h5,Int.toNat_natCast,k0,k1,k3,if_false,if_true] using this
theorem Lk.void {K} (h : Lk [] K) : K = [] := by
 cases h with
 | nil _ _ => rfl
 | cons _ _ h _ _ => simp at h
theorem Lk.all {p K} (h : Lk p K) (hl : p.length ≤ 4096) : ∃ T,allTok p = (T,0,0) ∧ T.map kt = K := by
 obtain ⟨T,t1,t2⟩ := h.lx p 0 (Nat.zero_le _) rfl
 exact ⟨T,allTok_of hl t1,t2⟩
theorem Pk.parts {s K c} (h : Pk s K c) : c ≤ 4096 → ∀ f,s.length < f → ∃ ts,partsF f s = (ts,0) ∧ ts.map kt = K := by
 induction h with
 | @last p K c h1 h2 h3 =>
   intro hc f hf
   obtain ⟨f,rfl⟩ : ∃ g,f = g + 1 := ⟨f - 1,by omega⟩
   by_cases hp : p = []
   · subst hp
     exact ⟨[],by rw [partsF,if_pos rfl],by rw [h1.void]; rfl⟩
   · have e := h2 [] (by intro b r' e; cases e)
     rw [List.append_nil] at e
     obtain ⟨T,t1,t2⟩ := h1.all (by omega)
     have e2 : partsF f (p.drop (p.length + 1)) = ([],0) := by
      rw [List.drop_eq_nil_of_le (by omega)]
      cases f with
      | zero => rfl
      | succ f => rw [partsF,if_pos rfl]
     refine ⟨T,?_,t2⟩
     rw [partsF,if_neg hp,e,if_neg (by omega),List.take_length,t1,e2]
     simp
 | @cons p K s K' c c' h1 h2 h3 h4 h5 ih =>
   intro hc f hf
   obtain ⟨f,rfl⟩ : ∃ g,f = g + 1 := ⟨f - 1,by omega⟩
   have e := h2 (32 :: s) (by intro b r' e; simp at e; exact e.1.symm)
   obtain ⟨T,t1,t2⟩ := h1.all (by omega)
   obtain ⟨T',u1,u2⟩ := ih h4 f (by simp at hf; omega)
   refine ⟨T ++ T',?_,by rw [List.map_append,t2,u2]⟩
   have e3 : (p ++ 32 :: s).drop (p.length + 1) = s := by rw [← List.drop_drop,List.drop_left]; rfl
   rw [partsF,if_neg (by simp),e,if_neg (by simp),List.take_left,t1,e3,u1]
   simp
theorem cond_nums {ns : List Nod} (hr : right ns = true) : ∀ n ∈ ns,n.kind = 0 → Num n := by
 obtain ⟨h1,h2,hc⟩ := right_cond hr
 intro n hn hk
 obtain ⟨i,hi⟩ := List.getElem?_of_mem hn
 have := (List.getElem?_eq_some_iff.1 hi).1
 exact cond_num hc i (Nat.zero_le _) (by omega) n hi hk
theorem parts_print {ns : List Nod} (hr : right ns = true) : ∃ ts,partsF ((printS ns).length + 1) (printS ns) = (ts,0) ∧ conO ts 0 = some (ns,ts.length) := by
 obtain ⟨h1,h2,hc⟩ := right_cond hr
 have hp : printS ns = txtF ns ns.length (ns.length - 1) 0 := by unfold printS; rw [if_pos hr]
 have hk := Pk.cond hc ns.length 0 (r := []) (K := []) (c := 0) (by omega) (by omega) (by intro b r' e; cases e) (by omega) (.last (.nil [] rfl) clo_nil (Nat.le_refl _))
 rw [List.append_nil,List.append_nil,← hp] at hk
 obtain ⟨ts,t1,t2⟩ := hk.parts (by omega) _ (Nat.lt_succ_self _)
 exact ⟨ts,t1,con_read hr (cond_nums hr) t2⟩
def leafR (n : Nod) : List UInt8 := aggs.getD n.agg.toNat [] ++ [40] ++ selS n.sel ++ [91] ++ decR n.window ++ [93,41,32] ++ cmps.getD n.cmp.toNat [] ++ [32] ++ fixS n.value
def txtR (ns : List Nod) : Nat → Nat → Int → List UInt8
 | 0,_,_ => []
 | f + 1, e, least => match ns[e]? with
   | none => []
   | some n =>
     let s := if n.kind = 0 then leafR n
      else if n.kind = 3 then [110,111,116,32] ++ txtR ns f n.left.toNat 2
      else if n.kind = 1 then txtR ns f n.left.toNat 1 ++ [32,97,110,100,32] ++ txtR ns f n.right.toNat 2
      else if n.kind = 2 then txtR ns f n.left.toNat 0 ++ [32,111,114,32] ++ txtR ns f n.right.toNat 1
      else []
     if strongI n.kind < least then [40] ++ s ++ [41] else s
def fitN (i : Nat) (n : Nod) : Prop := n.kind.toNat ≤ 3 ∧ (n.kind = 0 → n.agg.toNat ≤ 5 ∧ n.cmp.toNat ≤ 5) ∧ (n.kind ≠ 0 → 0 ≤ n.left ∧ n.left < i ∧ 0 ≤ n.right ∧ (n.kind ≠ 3 → n.right < i))
theorem fit_txt {ns : List Nod} (hfit : ∀ (j : Nat) n,ns[j]? = some n → fitN j n) : ∀ (i f g : Nat) (least : Int),i < f → i < g → txtR ns f i least = txtR ns g i least := by
 intro i
 induction i using Nat.strongRecOn with
 | ind i ih =>
   intro f g least hf hg
   obtain ⟨f,rfl⟩ : ∃ k,f = k + 1 := ⟨f - 1,by omega⟩
   obtain ⟨g,rfl⟩ : ∃ k,g = k + 1 := ⟨g - 1,by omega⟩
   rw [txtR,txtR]
   cases hn : ns[i]? with
   | none => rfl
   | some n =>
     obtain ⟨_,_,h3⟩ := hfit i n hn
     by_cases k0 : n.kind = 0
     · simp [k0]
     · obtain ⟨a1,a2,a3,a4⟩ := h3 k0
       have hl := fun l => ih n.left.toNat (by omega) f g l (by omega) (by omega)
       by_cases k3 : n.kind = 3
       · simp [k3,hl]
       · have := a4 k3
         have hr := fun l => ih n.right.toNat (by omega) f g l (by omega) (by omega)
         simp only [hl,hr]
theorem leaf_plain {n : Nod} (h : n.plain = true) : leafR n = leafS n := by
 unfold Nod.plain at h
 simp only [Bool.and_eq_true,decide_eq_true_eq] at h
 obtain ⟨⟨⟨⟨⟨⟨⟨_,_⟩,h3⟩,_⟩,_⟩,_⟩,_⟩,_⟩ := h
 unfold leafR leafS decR fmtS
 rw [if_neg (by omega),if_neg (by omega),show n.window.toNat = n.window.natAbs by omega]
theorem leaf_len {n : Nod} (h : n.plain = true) : (leafS n).length ≤ 600 := by
 unfold Nod.plain at h
 simp only [Bool.and_eq_true,decide_eq_true_eq] at h
 obtain ⟨⟨⟨⟨⟨⟨⟨h1,h2⟩,h3⟩,h4⟩,h5⟩,_⟩,_⟩,_⟩ := h
 obtain ⟨s1,s2,s3⟩ := sel_small h2
 have a1 : (aggs.getD n.agg.toNat []).length ≤ 5 := getD_len (by decide)
 have a2 : (cmps.getD n.cmp.toNat []).length ≤ 2 := getD_len (by decide)
 have a3 := fixS_len n.value
 have a4 : (fmtS n.window).length ≤ 20 := by
  obtain ⟨w,hw⟩ : ∃ w : Nat,n.window = w := ⟨n.window.toNat,by omega⟩
  rw [hw,fmtS_nat]
  exact natS_len (by omega)
 simp only [leafS,List.length_append,List.length_cons,List.length_nil]
 omega
theorem cond_txtR {ns : List Nod} {s e : Nat} (hc : Cond ns s e) : ∀ (f : Nat) (least : Int),e < f → txtR ns f e least = txtF ns f e least := by
 induction hc with
 | cmp e n h1 h2 h3 =>
   intro f least hf
   obtain ⟨f,rfl⟩ : ∃ g,f = g + 1 := ⟨f - 1,by omega⟩
   rw [txtR,txtF]
   simp only [h1,h2,if_true,leaf_plain h3]
 | neg s e n h1 h2 h3 h4 h5 hc ih =>
   intro f least hf
   obtain ⟨f,rfl⟩ : ∃ g,f = g + 1 := ⟨f - 1,by omega⟩
   have k0 : ¬ ((3 : UInt8) = 0) := by decide
   rw [txtR,txtF]
   simp only [h1,h2,h4,Int.toNat_natCast,k0,if_false,if_true,ih f _ (by omega)]
 | two s r e n h1 h2 h3 h4 h5 hc1 hc2 ih1 ih2 =>
   intro f least hf
   obtain ⟨f,rfl⟩ : ∃ g,f = g + 1 := ⟨f - 1,by omega⟩
   have := hc2.le
   rw [txtR,txtF]
   simp only [h1,h4,h5,Int.toNat_natCast,ih1 f _ (by omega),ih2 f _ (by omega)]
   rcases h2 with h2 | h2
   · have k0 : ¬ ((1 : UInt8) = 0) := by decide
     have k3 : ¬ ((1 : UInt8) = 3) := by decide
     simp only [h2,k0,k3,if_false,if_true]
   · have k0 : ¬ ((2 : UInt8) = 0) := by decide
     have k1 : ¬ ((2 : UInt8) = 1) := by decide
     have k3 : ¬ ((2 : UInt8) = 3) := by decide
     simp only [h2,k0,k1,k3,if_false,if_true]
theorem cond_len {ns : List Nod} {s e : Nat} (hc : Cond ns s e) : ∀ (f : Nat) (least : Int),e < f → (txtF ns f e least).length ≤ 610 * (e + 1 - s) := by
 have key : ∀ (k : UInt8) (least : Int) (B : List UInt8) (m : Nat),B.length + 2 ≤ m → (if strongI k < least then [40] ++ B ++ [41] else B).length ≤ m := by
  intro k least B m h
  split
  · simp; omega
  · omega
 induction hc with
 | cmp e n h1 h2 h3 =>
   intro f least hf
   obtain ⟨f,rfl⟩ : ∃ g,f = g + 1 := ⟨f - 1,by omega⟩
   rw [txtF]
   simp only [h1,h2,if_true]
   exact key _ _ _ _ (by have := leaf_len h3; omega)
 | neg s e n h1 h2 h3 h4 h5 hc ih =>
   intro f least hf
   obtain ⟨f,rfl⟩ : ∃ g,f = g + 1 := ⟨f - 1,by omega⟩
   have k0 : ¬ ((3 : UInt8) = 0) := by decide
   have := hc.le
   rw [txtF]
   simp only [h1,h2,h4,Int.toNat_natCast,k0,if_false,if_true]
   exact key _ _ _ _ (by have := ih f 2 (by omega); simp; omega)
 | two s r e n h1 h2 h3 h4 h5 hc1 hc2 ih1 ih2 =>
   intro f least hf
   obtain ⟨f,rfl⟩ : ∃ g,f = g + 1 := ⟨f - 1,by omega⟩
   have := hc1.le
   have := hc2.le
   have j1 := fun l => ih1 f l (by omega)
   have j2 := fun l => ih2 f l (by omega)
   rw [txtF]
   simp only [h1,h4,h5,Int.toNat_natCast]
   rcases h2 with h2 | h2
   · have k0 : ¬ ((1 : UInt8) = 0) := by decide
     have k3 : ¬ ((1 : UInt8) = 3) := by decide
     simp only [h2,k0,k3,if_false,if_true]
     exact key _ _ _ _ (by have := j1 1; have := j2 2; simp; omega)
   · have k0 : ¬ ((2 : UInt8) = 0) := by decide
     have k1 : ¬ ((2 : UInt8) = 1) := by decide
     have k3 : ¬ ((2 : UInt8) = 3) := by decide
     simp only [h2,k0,k1,k3,if_false,if_true]
     exact key _ _ _ _ (by have := j1 0; have := j2 1; simp; omega)
theorem cond_fit {ns : List Nod} {s e : Nat} (hc : Cond ns s e) : ∀ i,s ≤ i → i ≤ e → ∃ n t,ns[i]? = some n ∧ fitN i n ∧ s ≤ t ∧ Cond ns t i := by
 induction hc with
 | cmp e n h1 h2 h3 =>
   intro i a b
   obtain rfl : i = e := by omega
   obtain ⟨p1,p2,_⟩ := plain_leaf h3
   exact ⟨n,i,h1,⟨by rw [h2]; decide,fun _ => ⟨by omega,by omega⟩,fun h => absurd h2 h⟩,Nat.le_refl _,.cmp i n h1 h2 h3⟩
 | neg s e n h1 h2 h3 h4 h5 hc ih =>
   intro i a b
   by_cases hi : i = e + 1
   · subst hi
     exact ⟨n,s,h1,⟨by rw [h2]; decide,fun h => absurd (h2.symm.trans h) (by decide),fun _ => ⟨by omega,by omega,by omega,fun h => absurd h2 h⟩⟩,Nat.le_refl _,.neg s e n h1 h2 h3 h4 h5 hc⟩
   · exact ih i a (by omega)
 | two s r e n h1 h2 h3 h4 h5 hc1 hc2 ih1 ih2 =>
   intro i a b
   have := hc1.le
   have := hc2.le
   by_cases hi : i = e + 1
   · subst hi
     exact ⟨n,s,h1,⟨by rcases h2 with h2 | h2 <;> rw [h2] <;> decide,fun h => by rcases h2 with h2 | h2 <;> exact absurd (h2.symm.trans h) (by decide),fun _ => ⟨by omega,by omega,by omega,fun _ => by omega⟩⟩,Nat.le_refl _,.two s r e n h1 h2 h3 h4 h5 hc1 hc2⟩
   · by_cases hr : i ≤ r
     · exact ih1 i a hr
     · obtain ⟨m,t,q1,q2,q3,q4⟩ := ih2 i (by omega) (by omega)
       exact ⟨m,t,q1,q2,by omega,q4⟩
theorem con_right {ts : List Tok} {ns : List Nod} {b : Nat} (h : conO ts 0 = some (ns,b)) (h1 : ns.length ≤ 31) : right ns = true := by
 obtain ⟨xs,g1,g2,g3⟩ := (strO_cond _ ((conO_str _ 0).trans (congrArg some h))).1 (by omega)
 simp only [List.nil_append] at g1
 exact cond_right (by rw [g1]; omega) h1 g3
open Classical in
noncomputable def refP (ns : List Nod) : List UInt8 :=
 if ns.length < 1 ∨ 31 < ns.length then [] else if ¬ (∀ (i : Nat) n,ns[i]? = some n → fitN i n) then [] else if ∃ i,i < ns.length ∧ 20000 < (txtR ns (i + 1) i 0).length then [] else
  if (partsF ((txtR ns ns.length (ns.length - 1) 0).length + 1) (txtR ns ns.length (ns.length - 1) 0)).2 = 0 ∧
   conO (partsF ((txtR ns ns.length (ns.length - 1) 0).length + 1) (txtR ns ns.length (ns.length - 1) 0)).1 0 = some (ns,(partsF ((txtR ns ns.length (ns.length - 1) 0).length + 1) (txtR ns ns.length (ns.length - 1) 0)).1.length)
  then txtR ns ns.length (ns.length - 1) 0 else []
theorem refP_eq (ns : List Nod) : refP ns = printS ns := by
 unfold refP
 by_cases hr : right ns = true
 · obtain ⟨h1,h2,hc⟩ := right_cond hr
   have hp : printS ns = txtF ns ns.length (ns.length - 1) 0 := by unfold printS; rw [if_pos hr]
   have hq : txtR ns ns.length (ns.length - 1) 0 = printS ns := by rw [hp]; exact cond_txtR hc _ _ (by omega)
   obtain ⟨ts,t1,t2⟩ := parts_print hr
   rw [if_neg (by omega),if_neg,if_neg,hq,t1,if_pos ⟨rfl,t2⟩]
   · rintro ⟨i,hi,hl⟩
     obtain ⟨n,t,q1,q2,q3,q4⟩ := cond_fit hc i (Nat.zero_le _) (by omega)
     rw [cond_txtR q4 _ _ (by omega)] at hl
     have := cond_len q4 (i + 1) 0 (by omega)
     omega
   · intro h
     apply h
     intro i n hn
     have := (List.getElem?_eq_some_iff.1 hn).1
     obtain ⟨m,t,q1,q2,_⟩ := cond_fit hc i (Nat.zero_le _) (by omega)
     rw [q1] at hn; cases hn
     exact q2
 · have hn : printS ns = [] := by unfold printS; rw [if_neg hr]
   rw [hn]
   split
   · rfl
   · rename_i h1
     split
     · rfl
     · split
       · rfl
       · split
         · rename_i h4
           exact absurd (con_right h4.2 (by omega)) hr
         · rfl
end Go.Vi
namespace Go.Vi
open Go Go.Proofs Go.Proofs.Try
instance matDec : DecidableEq Mat := fun a b => decidable_of_iff (a.name = b.name ∧ a.op = b.op ∧ a.value = b.value) (by
 obtain ⟨_,_,_⟩ := a
 obtain ⟨_,_,_⟩ := b
 simp)
instance nodDec : DecidableEq Nod := fun a b => decidable_of_iff (a.kind = b.kind ∧ a.agg = b.agg ∧ a.sel = b.sel ∧ a.window = b.window ∧ a.cmp = b.cmp ∧ a.value = b.value ∧ a.left = b.left ∧ a.right = b.right) (by
 obtain ⟨_,_,_,_,_,_,_,_⟩ := a
 obtain ⟨_,_,_,_,_,_,_,_⟩ := b
 simp)
theorem pv_str2 {P : Program} {T : TypeId} {d : Nat} {a b : List UInt8} (h : P.underlying T = some .string) : pv P (Op.equalIn (d + 1) T (str a) (str b)) = some (decide (a = b)) := by
 have e : ((⟨a.toArray⟩ : ByteArray) == ⟨b.toArray⟩) = decide (a = b) := by
  show ((a.toArray : Array UInt8) == b.toArray) = _
  rw [Bool.eq_iff_iff]; simp
 unfold Op.equalIn
 rw [pv_bind,pv_und h]
 simp only [Option.bind_some]
 rw [← e]
 rfl
theorem pv_int2 {P : Program} {T : TypeId} {d : Nat} {k k' : IntKind} {n m : Int} (h : P.underlying T = some (.int k')) : pv P (Op.equalIn (d + 1) T (.int k n) (.int k m)) = some (decide (n = m)) := by
 have e : (n == m) = decide (n = m) := by rw [Bool.eq_iff_iff]; simp
 unfold Op.equalIn
 rw [pv_bind,pv_und h]
 simp [pv_pure]
 exact e
theorem mat_guard2 (m m' : Mat) (x y : Operand) : pv prog (eqGuard .neq 52 x y (.agg m.cells.toArray) (.agg m'.cells.toArray)) = some () := by kernel_rfl
theorem mat_eq2 (m m' : Mat) : pv prog (Op.equal 52 (.agg m.cells.toArray) (.agg m'.cells.toArray)) = some (decide (m = m')) := by
 show pv prog (Op.equalIn (9998 + 1 + 1) 52 _ _) = _
 have hs : prog.stoodInHeld 52 = false := by kernel_rfl
 have p0 : ∀ m : Mat,pv prog (part 9 m.cells.toArray 0) = some (str m.name) := fun m => by kernel_rfl
 have p1 : ∀ m : Mat,pv prog (part 5 m.cells.toArray 1) = some (.int .u8 m.op) := fun m => by kernel_rfl
 have p2 : ∀ m : Mat,pv prog (part 9 m.cells.toArray 2) = some (str m.value) := fun m => by kernel_rfl
 have e0 : ∀ s t : List UInt8,pv prog (Op.equalIn (9998 + 1) 9 (str s) (str t)) = some (decide (s = t)) := fun s t => pv_str2 (by simp)
 have e1 : ∀ a b : Int,pv prog (Op.equalIn (9998 + 1) 5 (.int .u8 a) (.int .u8 b)) = some (decide (a = b)) := fun a b => pv_int2 (k' := .u8) (by simp)
 have hm : decide (m = m') = (decide (m.name = m'.name) && (decide (m.op = m'.op) && decide (m.value = m'.value))) := by
  obtain ⟨a,b,c⟩ := m
  obtain ⟨a',b',c'⟩ := m'
  rw [Bool.eq_iff_iff]; simp
 rw [Op.equalIn]
 rw [pv_bind,pv_und (by simp; rfl)]
 simp only [Option.bind_some]
 rw [hm]
 by_cases h0 : m.name = m'.name
 · by_cases h1 : m.op = m'.op
   · by_cases h2 : m.value = m'.value
     · simp [pv_bind,pv_prog,hs,p0,p1,p2,e0,e1,pv_pure,h0,h1,h2]
     · simp [pv_bind,pv_prog,hs,p0,p1,p2,e0,e1,pv_pure,h0,h1,h2]
   · simp [pv_bind,pv_prog,hs,p0,p1,e0,e1,pv_pure,h0,h1]
 · simp [pv_bind,pv_prog,hs,p0,e0,pv_pure,h0]
theorem aBin_mat2 {H : AHeap} {x y : Operand} (m m' : Mat) : aBin2 prog H .neq 52 x y (.agg m.cells.toArray) (.agg m'.cells.toArray) = some (.bool (!decide (m = m'))) := by
 apply aBin2_of
 have : pv prog (do eqGuard .neq 52 x y (.agg m.cells.toArray) (.agg m'.cells.toArray); binOp .neq 52 (.agg m.cells.toArray) (.agg m'.cells.toArray)) = some (.bool (!decide (m = m'))) := by
  rw [pv_bind,mat_guard2,Option.bind_some]
  show pv prog (Op.equal 52 (.agg m.cells.toArray) (.agg m'.cells.toArray) >>= fun r => pure (Value.bool !r)) = _
  rw [pv_bind,mat_eq2]; rfl
 unfold aBin
 rw [if_pos ⟨rfl,rfl⟩,this]; rfl
theorem drop_at {α : Type} {l : List α} {i : Nat} {a : α} (h : l[i]? = some a) : l.drop i = a :: l.drop (i + 1) := by
 obtain ⟨h1,rfl⟩ := List.getElem?_eq_some_iff.1 h
 exact List.drop_eq_getElem_cons h1
theorem sameM_loop2 {H : AHeap} {v1 v2 : Value} {ms ms' : List Mat} {k : Value → AHeap → Prop} {w : Bool} (h1 : MatsAt H v1 ms) (h2 : MatsAt H v2 ms') (hl : ms.length < 2 ^ 63) (hle : ms.length = ms'.length) (hk : k (.bool w) H) :
  ∀ (n i : Nat) (s2 s3 s4 s6 s7 s8 s9 s10 s11 s12 s13 s14 s15 s16 s17 s18 s19 s20 s21 s22 s23 s24 s25 : Value),n + i = ms.length → w = decide (ms.drop i = ms'.drop i) → L49x0 (n + 1) k [v1,v2,s2,s3,s4,i64 i,s6,s7,s8,s9,s10,s11,s12,s13,s14,s15,s16,s17,s18,s19,s20,s21,s22,s23,s24,s25] H := by
 intro n
 have hlen := Arr.len (P := prog) (T := 48) (e := 52) h1 (by simp)
 simp at hlen
 induction n with
 | zero =>
   intro i s2 s3 s4 s6 s7 s8 s9 s10 s11 s12 s13 s14 s15 s16 s17 s18 s19 s20 s21 s22 s23 s24 s25 hi hw
   rw [L49x0q]
   have : ¬ i < ms.length := by omega
   rw [List.drop_eq_nil_of_le (by omega),List.drop_eq_nil_of_le (by omega)] at hw
   simp only [decide_true] at hw
   subst hw
   simp [hlen,this]
   exact hk
 | succ n ih =>
   intro i s2 s3 s4 s6 s7 s8 s9 s10 s11 s12 s13 s14 s15 s16 s17 s18 s19 s20 s21 s22 s23 s24 s25 hi hw
   have hlt : i < ms.length := by omega
   rw [L49x0q]
   obtain ⟨m,hm⟩ : ∃ m,ms[i]? = some m := ⟨_,List.getElem?_eq_getElem hlt⟩
   obtain ⟨m',hm'⟩ : ∃ m,ms'[i]? = some m := ⟨_,List.getElem?_eq_getElem (by omega)⟩
   have hc : (ms.map Mat.cells)[i]? = some m.cells := by rw [List.getElem?_map,hm]; rfl
   have hc' : (ms'.map Mat.cells)[i]? = some m'.cells := by rw [List.getElem?_map,hm']; rfl
   obtain ⟨p,hp1,hp2⟩ := Arr.load (P := prog) (T := 48) (te := 52) h1 (i := i) (e := m.cells) (by simp) (by simp) (by simp) hc
   obtain ⟨q,hq1,hq2⟩ := Arr.load (P := prog) (T := 48) (te := 52) h2 (i := i) (e := m'.cells) (by simp) (by simp) (by simp) hc'
   have w1 : IntKind.i64.wrap ((i : Int) + 1) = ((i + 1 : Nat) : Int) := by rw [wrap_i64 (by omega) (by omega)]; omega
   rw [drop_at hm,drop_at hm'] at hw
   by_cases he : m = m'
   · have hw2 : w = decide (ms.drop (i + 1) = ms'.drop (i + 1)) := by rw [hw,he]; simp
     simp [hlen,hlt,hp1,hp2,hq1,hq2,aBin_mat2,he,w1]
     rw [show ((i : Int) + 1) = ((i + 1 : Nat) : Int) by omega]
     exact ih (i + 1) _ _ _ _ _ _ _ _ _ _ _ _ _ _ _ _ _ _ _ _ _ _ _ (by omega) hw2
   · have hw2 : w = false := by rw [hw]; simp [he]
     subst hw2
     simp [hlen,hlt,hp1,hp2,hq1,hq2,aBin_mat2,he]
     exact hk
theorem r_sameM {H : AHeap} {v1 v2 : Value} {ms ms' : List Mat} (h1 : MatsAt H v1 ms) (h2 : MatsAt H v2 ms') (hl : ms.length < 2 ^ 63) : ACalls prog 49 [v1,v2] H (.bool (decide (ms = ms'))) H := by
 refine acalls_pure MixT func49 (by decide) rfl ?_
 rw [d49]
 have hl1 := Arr.len (P := prog) (T := 48) (e := 52) h1 (by simp)
 have hl2 := Arr.len (P := prog) (T := 48) (e := 52) h2 (by simp)
 simp at hl1 hl2
 by_cases he : ms.length = ms'.length
 · have hb : ((ms.length : Int) != ms'.length) = false := by simp; omega
   simp [hl1,hl2,hb]
   exact ⟨_,sameM_loop2 (k := fun u H2 => u = .bool (decide (ms = ms')) ∧ ∃ X,H2 = H ++ X) h1 h2 hl he ⟨rfl,[],by simp⟩ ms.length 0 _ _ _ _ _ _ _ _ _ _ _ _ _ _ _ _ _ _ _ _ _ _ _ (by omega) (by simp)⟩
 · have hb : ((ms.length : Int) != ms'.length) = true := by simp; omega
   have hne : ¬ ms = ms' := fun e => he (by rw [e])
   simp [hl1,hl2,hb,hne]
theorem nod_ext {a b : Nod} (h0 : ((a.kind.toNat : Int) != b.kind.toNat) = false) (h1 : ((a.agg.toNat : Int) != b.agg.toNat) = false) (h2 : a.sel = b.sel) (h3 : (a.window != b.window) = false) (h4 : ((a.cmp.toNat : Int) != b.cmp.toNat) = false) (h5 : (a.value != b.value) = false) (h6 : (a.left != b.left) = false) (h7 : (a.right != b.right) = false) : a = b := by
 obtain ⟨a0,a1,a2,a3,a4,a5,a6,a7⟩ := a
 obtain ⟨b0,b1,b2,b3,b4,b5,b6,b7⟩ := b
 have u : ∀ {x y : UInt8},((x.toNat : Int) != y.toNat) = false → x = y := fun {x y} h => by
  have : (x.toNat : Int) = y.toNat := by simpa using h
  exact UInt8.toNat_inj.1 (by omega)
 have e0 := u h0
 have e1 := u h1
 have e4 := u h4
 simp at h2 h3 h5 h6 h7 e0 e1 e4
 simp [h2,h3,h5,h6,h7,e0,e1,e4]
theorem u8_ne {x y : UInt8} (h : ((x.toNat : Int) != y.toNat) = true) : x ≠ y := by rintro rfl; simp at h
set_option maxHeartbeats 2000000 in
theorem sameN_loop2 {H : AHeap} {v1 v2 : Value} {ns ns' : List Nod} {k : Value → AHeap → Prop} {w : Bool} (h1 : NodesAt H v1 ns) (h2 : NodesAt H v2 ns') (hl : ns.length < 2 ^ 63) (hle : ns.length = ns'.length) (hs : ∀ n ∈ ns,n.sel.length < 2 ^ 63) (hk : ∀ X,k (.bool w) (H ++ X)) :
  ∀ (n i : Nat) (X : AHeap) (s2 s3 s4 s6 s7 s8 s9 s10 s11 s12 s13 s14 s15 s16 s17 s18 s19 s20 s21 s22 s23 s24 s25 s26 s27 s28 s29 s30 s31 s32 s33 s34 s35 s36 s37 s38 s39 s40 s41 s42 s43 s44 s45 s46 s47 s48 s49 s50 s51 s52 s53 s54 s55 s56 s57 s58 s59 s60 s61 s62 s63 s64 s65 s66 s67 s68 s69 s70 s71 s72 s73 s74 s75 s76 s77 s78 s79 s80 s81 : Value),n + i = ns.length → w = decide (ns.drop i = ns'.drop i) → L32x0 (n + 1) k [v1,v2,s2,s3,s4,i64 i,s6,s7,s8,s9,s10,s11,s12,s13,s14,s15,s16,s17,s18,s19,s20,s21,s22,s23,s24,s25,s26,s27,s28,s29,s30,s31,s32,s33,s34,s35,s36,s37,s38,s39,s40,s41,s42,s43,s44,s45,s46,s47,s48,s49,s50,s51,s52,s53,s54,s55,s56,s57,s58,s59,s60,s61,s62,s63,s64,s65,s66,s67,s68,s69,s70,s71,s72,s73,s74,s75,s76,s77,s78,s79,s80,s81] (H ++ X) := by
 intro n
 have hlen := h1.len
 induction n with
 | zero =>
   intro i X s2 s3 s4 s6 s7 s8 s9 s10 s11 s12 s13 s14 s15 s16 s17 s18 s19 s20 s21 s22 s23 s24 s25 s26 s27 s28 s29 s30 s31 s32 s33 s34 s35 s36 s37 s38 s39 s40 s41 s42 s43 s44 s45 s46 s47 s48 s49 s50 s51 s52 s53 s54 s55 s56 s57 s58 s59 s60 s61 s62 s63 s64 s65 s66 s67 s68 s69 s70 s71 s72 s73 s74 s75 s76 s77 s78 s79 s80 s81 hi hw
   rw [L32x0q]
   have : ¬ i < ns.length := by omega
   rw [List.drop_eq_nil_of_le (by omega),List.drop_eq_nil_of_le (by omega)] at hw
   simp only [decide_true] at hw
   subst hw
   simp [hlen,this]
   exact hk X
 | succ n ih =>
   intro i X s2 s3 s4 s6 s7 s8 s9 s10 s11 s12 s13 s14 s15 s16 s17 s18 s19 s20 s21 s22 s23 s24 s25 s26 s27 s28 s29 s30 s31 s32 s33 s34 s35 s36 s37 s38 s39 s40 s41 s42 s43 s44 s45 s46 s47 s48 s49 s50 s51 s52 s53 s54 s55 s56 s57 s58 s59 s60 s61 s62 s63 s64 s65 s66 s67 s68 s69 s70 s71 s72 s73 s74 s75 s76 s77 s78 s79 s80 s81 hi hw
   have hlt : i < ns.length := by omega
   rw [L32x0q]
   obtain ⟨m,hm⟩ : ∃ m,ns[i]? = some m := ⟨_,List.getElem?_eq_getElem hlt⟩
   obtain ⟨m',hm'⟩ : ∃ m,ns'[i]? = some m := ⟨_,List.getElem?_eq_getElem (by omega)⟩
   rw [drop_at hm,drop_at hm'] at hw
   have w1 : IntKind.i64.wrap ((i : Int) + 1) = ((i + 1 : Nat) : Int) := by rw [wrap_i64 (by omega) (by omega)]; omega
   have ld : ∀ {v m} {ns : List Nod},NodesAt H v ns → ns[i]? = some m → ∃ sv,MatsAt H sv m.sel ∧ ∀ Y,∃ p,aIndexAddr prog (H ++ Y) 22 v (i64 i) = some p ∧ aLoad prog (H ++ Y) 50 p = some (.agg (m.cells sv).toArray) := by
    intro v m ns h hm
    obtain ⟨cl,ha,hcl,hc⟩ := h
    obtain ⟨sv,q1,q2,q3⟩ := hc _ _ hm
    exact ⟨sv,q2,fun Y => (ha.pre (.app H Y)).load (P := prog) (T := 22) (te := 50) (by simp) (by simp) (by simp) q1⟩
   obtain ⟨s1,m1,l1⟩ := ld h1 hm
   obtain ⟨s2',m2,l2⟩ := ld h2 hm'
   obtain ⟨p,p1,p2⟩ := l1 X
   obtain ⟨q,q1,q2⟩ := l2 X
   have a1 := m1.one
   have a2 := m2.one
   have no : m ≠ m' → ∀ X,k (.bool false) (H ++ X) := by
    intro he
    have : w = false := by rw [hw]; simp [he]
    subst this
    exact hk
   have yes : m = m' → w = decide (ns.drop (i + 1) = ns'.drop (i + 1)) := by
    intro he
    rw [hw,he]; simp
   refine bnd_of (hlen _) ?_
   refine bnd_of (v := .bool true) (by simp [hlt]) ?_
   dsimp only
   rw [kifB_true]
   dsimp only
   have hsl := hs m (List.mem_of_getElem? hm)
   refine ⟨?_,?_⟩
   · simp only [bnd_some,p1,p2,q1,q2]
     refine bndK_ext (tal50 _) ⟨_,rfl⟩ ?_
     dsimp only
     refine bndK_ext (tal50 _) ⟨_,rfl⟩ ?_
     dsimp only
     refine bndK_of (v := undef) (H' := H ++ X ++ [.cells (m.cells s1) 50] ++ [.cells [.int .u8 0,.int .u8 0,.slice none 0 0,.int .i64 0,.int .u8 0,.int .i64 0,.int .i64 0,.int .i64 0] 50]) ⟨rfl,by simp [Nod.cells,a1]⟩ ?_ ?_
     · dsimp only
       rw [List.append_assoc (H ++ X)]
       exact ⟨aLoad_more q2,aIndexAddr_more q1,trivial⟩
     · dsimp only
       refine bndK_bar (v := undef) (H' := H ++ X ++ [.cells (m.cells s1) 50] ++ [.cells (m'.cells s2') 50]) ⟨rfl,by simp [Nod.cells,a2]⟩ ?_
       dsimp only
       obtain ⟨K,hK⟩ : ∃ K,K = H ++ X ++ [.cells (m.cells s1) 50] ++ [.cells (m'.cells s2') 50] := ⟨_,rfl⟩
       have hKX : K = H ++ (X ++ [.cells (m.cells s1) 50] ++ [.cells (m'.cells s2') 50]) := by rw [hK]; simp
       have e1 : H.length + (X.length + 1) = (H ++ X ++ [AObj.cells (m.cells s1) 50]).length := by simp
       have f1 : hcells K (H.length + X.length) = some (m.cells s1) := by rw [hK,← List.length_append]; simp
       have f2 : Vi.hlen K (H.length + X.length) = some 8 := by rw [hK,← List.length_append]; simp [Nod.cells]
       have f3 : hcells K (H.length + (X.length + 1)) = some (m'.cells s2') := by rw [hK,e1]; simp
       have f4 : Vi.hlen K (H.length + (X.length + 1)) = some 8 := by rw [hK,e1]; simp [Nod.cells]
       rw [← hK]
       clear hK p1 p2 q1 q2 l1 l2 ld
       simp only [Nod.cells] at f1 f3
       cases c0 : ((m.kind.toNat : Int) != m'.kind.toNat) with
       | true =>
         simp [f1,f2,f3,f4,c0]
         rw [hKX]
         exact no (fun e => u8_ne c0 (by rw [e])) _
       | false =>
         cases c1 : ((m.agg.toNat : Int) != m'.agg.toNat) with
         | true =>
           simp [f1,f2,f3,f4,c0,c1]
           rw [hKX]
           exact no (fun e => u8_ne c1 (by rw [e])) _
         | false =>
           simp [f1,f2,f3,f4,c0,c1]
           refine bndG_call (.bool (decide (m.sel = m'.sel))) (fun _ => by rw [hKX]; exact r_sameM (m1.pre (.app H _)) (m2.pre (.app H _)) hsl) ?_
           refine (Classical.em (m.sel = m'.sel)).symm.elim (fun c2 => ?_) (fun c2 => ?_)
           · simp [f2,f4,c2]
             rw [hKX]
             exact no (fun e => c2 (by rw [e])) _
           ·
            cases c3 : (m.window != m'.window) with
            | true =>
              simp [f1,f2,f3,f4,c2,c3]
              rw [hKX]
              exact no (fun e => by rw [e] at c3; simp at c3) _
            | false =>
              cases c4 : ((m.cmp.toNat : Int) != m'.cmp.toNat) with
              | true =>
                simp [f1,f2,f3,f4,c2,c3,c4]
                rw [hKX]
                exact no (fun e => u8_ne c4 (by rw [e])) _
              | false =>
                cases c5 : (m.value != m'.value) with
                | true =>
                  simp [f1,f2,f3,f4,c2,c3,c4,c5]
                  rw [hKX]
                  exact no (fun e => by rw [e] at c5; simp at c5) _
                | false =>
                  cases c6 : (m.left != m'.left) with
                  | true =>
                    simp [f1,f2,f3,f4,c2,c3,c4,c5,c6]
                    rw [hKX]
                    exact no (fun e => by rw [e] at c6; simp at c6) _
                  | false =>
                    cases c7 : (m.right != m'.right) with
                    | true =>
                      simp [f1,f2,f3,f4,c2,c3,c4,c5,c6,c7]
                      rw [hKX]
                      exact no (fun e => by rw [e] at c7; simp at c7) _
                    | false =>
                      simp [f1,f2,f3,f4,c2,c3,c4,c5,c6,c7,w1]
                      rw [hKX,show ((i : Int) + 1) = ((i + 1 : Nat) : Int) by omega]
                      exact ih (i + 1) _ _ _ _ _ _ _ _ _ _ _ _ _ _ _ _ _ _ _ _ _ _ _ _ _ _ _ _ _ _ _ _ _ _ _ _ _ _ _ _ _ _ _ _ _ _ _ _ _ _ _ _ _ _ _ _ _ _ _ _ _ _ _ _ _ _ _ _ _ _ _ _ _ _ _ _ _ _ _ _ (by omega) (yes (nod_ext c0 c1 c2 c3 c4 c5 c6 c7))
   · simp only [bnd_some,p1,p2,q1,q2]
     refine bndK_ext (tal50 _) ⟨_,rfl⟩ ?_
     dsimp only
     refine bndK_ext (tal50 _) ⟨_,rfl⟩ ?_
     dsimp only
     refine bndK_of (v := undef) (H' := H ++ X ++ [.cells [.int .u8 0,.int .u8 0,.slice none 0 0,.int .i64 0,.int .u8 0,.int .i64 0,.int .i64 0,.int .i64 0] 50] ++ [.cells (m.cells s1) 50]) ⟨rfl,by simp [Nod.cells,a1]⟩ ?_ ?_
     · dsimp only
       rw [List.append_assoc (H ++ X)]
       exact ⟨aLoad_more q2,aIndexAddr_more q1,trivial⟩
     · dsimp only
       refine bndK_bar (v := undef) (H' := H ++ X ++ [.cells (m'.cells s2') 50] ++ [.cells (m.cells s1) 50]) ⟨rfl,by simp [Nod.cells,a2]⟩ ?_
       dsimp only
       obtain ⟨K,hK⟩ : ∃ K,K = H ++ X ++ [.cells (m'.cells s2') 50] ++ [.cells (m.cells s1) 50] := ⟨_,rfl⟩
       have hKX : K = H ++ (X ++ [.cells (m'.cells s2') 50] ++ [.cells (m.cells s1) 50]) := by rw [hK]; simp
       have e1 : H.length + (X.length + 1) = (H ++ X ++ [AObj.cells (m'.cells s2') 50]).length := by simp
       have f3 : hcells K (H.length + X.length) = some (m'.cells s2') := by rw [hK,← List.length_append]; simp
       have f4 : Vi.hlen K (H.length + X.length) = some 8 := by rw [hK,← List.length_append]; simp [Nod.cells]
       have f1 : hcells K (H.length + (X.length + 1)) = some (m.cells s1) := by rw [hK,e1]; simp
       have f2 : Vi.hlen K (H.length + (X.length + 1)) = some 8 := by rw [hK,e1]; simp [Nod.cells]
       rw [← hK]
       clear hK p1 p2 q1 q2 l1 l2 ld
       simp only [Nod.cells] at f1 f3
       cases c0 : ((m.kind.toNat : Int) != m'.kind.toNat) with
       | true =>
         simp [f1,f2,f3,f4,c0]
         rw [hKX]
         exact no (fun e => u8_ne c0 (by rw [e])) _
       | false =>
         cases c1 : ((m.agg.toNat : Int) != m'.agg.toNat) with
         | true =>
           simp [f1,f2,f3,f4,c0,c1]
           rw [hKX]
           exact no (fun e => u8_ne c1 (by rw [e])) _
         | false =>
           simp [f1,f2,f3,f4,c0,c1]
           refine bndG_call (.bool (decide (m.sel = m'.sel))) (fun _ => by rw [hKX]; exact r_sameM (m1.pre (.app H _)) (m2.pre (.app H _)) hsl) ?_
           refine (Classical.em (m.sel = m'.sel)).symm.elim (fun c2 => ?_) (fun c2 => ?_)
           · simp [f2,f4,c2]
             rw [hKX]
             exact no (fun e => c2 (by rw [e])) _
           ·
            cases c3 : (m.window != m'.window) with
            | true =>
              simp [f1,f2,f3,f4,c2,c3]
              rw [hKX]
              exact no (fun e => by rw [e] at c3; simp at c3) _
            | false =>
              cases c4 : ((m.cmp.toNat : Int) != m'.cmp.toNat) with
              | true =>
                simp [f1,f2,f3,f4,c2,c3,c4]
                rw [hKX]
                exact no (fun e => u8_ne c4 (by rw [e])) _
              | false =>
                cases c5 : (m.value != m'.value) with
                | true =>
                  simp [f1,f2,f3,f4,c2,c3,c4,c5]
                  rw [hKX]
                  exact no (fun e => by rw [e] at c5; simp at c5) _
                | false =>
                  cases c6 : (m.left != m'.left) with
                  | true =>
                    simp [f1,f2,f3,f4,c2,c3,c4,c5,c6]
                    rw [hKX]
                    exact no (fun e => by rw [e] at c6; simp at c6) _
                  | false =>
                    cases c7 : (m.right != m'.right) with
                    | true =>
                      simp [f1,f2,f3,f4,c2,c3,c4,c5,c6,c7]
                      rw [hKX]
                      exact no (fun e => by rw [e] at c7; simp at c7) _
                    | false =>
                      simp [f1,f2,f3,f4,c2,c3,c4,c5,c6,c7,w1]
                      rw [hKX,show ((i : Int) + 1) = ((i + 1 : Nat) : Int) by omega]
                      exact ih (i + 1) _ _ _ _ _ _ _ _ _ _ _ _ _ _ _ _ _ _ _ _ _ _ _ _ _ _ _ _ _ _ _ _ _ _ _ _ _ _ _ _ _ _ _ _ _ _ _ _ _ _ _ _ _ _ _ _ _ _ _ _ _ _ _ _ _ _ _ _ _ _ _ _ _ _ _ _ _ _ _ _ (by omega) (yes (nod_ext c0 c1 c2 c3 c4 c5 c6 c7))
theorem r_sameN {H : AHeap} {v1 v2 : Value} {ns ns' : List Nod} (h1 : NodesAt H v1 ns) (h2 : NodesAt H v2 ns') (hl : ns.length < 2 ^ 63) (hs : ∀ n ∈ ns,n.sel.length < 2 ^ 63) : ACalls prog 32 [v1,v2] H (.bool (decide (ns = ns'))) H := by
 refine acallsG_flat (fun c => @drawPairK_sound _ c MixT) func32 (by decide) rfl ?_
 rw [d32]
 have hl1 := h1.len
 have hl2 := h2.len
 by_cases he : ns.length = ns'.length
 · have hb : ((ns.length : Int) != ns'.length) = false := by simp; omega
   simp [hl1,hl2,hb]
   have := sameN_loop2 (k := fun u H2 => u = .bool (decide (ns = ns')) ∧ ∃ X,H2 = H ++ X) h1 h2 hl he hs (fun X => ⟨rfl,X,rfl⟩) ns.length 0 []
   simp only [List.append_nil] at this
   exact ⟨_,this _ _ _ _ _ _ _ _ _ _ _ _ _ _ _ _ _ _ _ _ _ _ _ _ _ _ _ _ _ _ _ _ _ _ _ _ _ _ _ _ _ _ _ _ _ _ _ _ _ _ _ _ _ _ _ _ _ _ _ _ _ _ _ _ _ _ _ _ _ _ _ _ _ _ _ _ _ _ _ (by omega) (by simp)⟩
 · have hb : ((ns.length : Int) != ns'.length) = true := by simp; omega
   have hne : ¬ ns = ns' := fun e => he (by rw [e])
   simp [hl1,hl2,hb,hne]
end Go.Vi
namespace Go.Vi
open Go Go.Proofs Go.Proofs.Try
theorem rquote_loop {H : AHeap} {l : List UInt8} {k : Value → AHeap → Prop} (hl : l.length < 2 ^ 40) (hk : k (str (quoteS l)) H) :
  ∀ (r : List UInt8) (i : Nat) (acc : List UInt8) (s1 s2 s5 s6 s7 s8 s9 s10 s11 s12 s13 s14 s15 s16 s17 s18 s19 s20 s21 s22 s23 s24 s25 s26 s27 s28 s29 s30 s31 : Value), l.drop i = r → i ≤ l.length → acc.length ≤ 1 + 2 * i → 34 :: l.flatMap escB = acc ++ r.flatMap escB →
    L70x0 (r.length + 1) k [str l,s1,s2,str acc,i64 i,s5,s6,s7,s8,s9,s10,s11,s12,s13,s14,s15,s16,s17,s18,s19,s20,s21,s22,s23,s24,s25,s26,s27,s28,s29,s30,s31] H := by
 intro r
 induction r with
 | nil =>
   intro i acc s1 s2 s5 s6 s7 s8 s9 s10 s11 s12 s13 s14 s15 s16 s17 s18 s19 s20 s21 s22 s23 s24 s25 s26 s27 s28 s29 s30 s31 hd hi ha hw
   have hle : l.length ≤ i := by simpa using hd
   rw [List.length_nil,L70x0q]
   have : ¬ i < l.length := by omega
   have hcat := fun x y => aBin_str (P := prog) (H := H) (T := 9) (x := x) (y := y) (a := acc) (b := [34]) (by simp; omega)
   have e : quoteS l = acc ++ [34] := by
    unfold quoteS
    rw [show (34 :: List.flatMap escB l) = acc by simpa using hw]
   simp [this,hcat]
   rw [← e]
   exact hk
 | cons b r ih =>
   intro i acc s1 s2 s5 s6 s7 s8 s9 s10 s11 s12 s13 s14 s15 s16 s17 s18 s19 s20 s21 s22 s23 s24 s25 s26 s27 s28 s29 s30 s31 hd hi ha hw
   have hb : l[i]? = some b := by rw [← List.head?_drop,hd]; rfl
   have hlt : i < l.length := (List.getElem?_eq_some_iff.1 hb).1
   have hix := aIndex_at (P := prog) (T := 9) (k := .i64) (by simp) hb
   have hdr : l.drop (i + 1) = r := by rw [← List.drop_drop,hd]; rfl
   have step : ∀ (acc' : List UInt8) (s1 s2 s5 s6 s7 s8 s9 s10 s11 s12 s13 s14 s15 s16 s17 s18 s19 s20 s21 s22 s23 s24 s25 s26 s27 s28 s29 s30 s31 : Value),acc'.length ≤ 2 + 2 * i → 34 :: l.flatMap escB = acc' ++ b :: r.flatMap escB → S70x0 (r.length + 1) k [str l,s1,s2,str acc',i64 i,s5,s6,s7,s8,s9,s10,s11,s12,s13,s14,s15,s16,s17,s18,s19,s20,s21,s22,s23,s24,s25,s26,s27,s28,s29,s30,s31] H := by
    intro acc' s1 s2 s5 s6 s7 s8 s9 s10 s11 s12 s13 s14 s15 s16 s17 s18 s19 s20 s21 s22 s23 s24 s25 s26 s27 s28 s29 s30 s31 ha' hw'
    have hw1 : IntKind.i64.wrap ((i : Int) + 1) = (i : Int) + 1 := wrap_i64 (by omega) (by omega)
    have hsl := aSliceOp_str (P := prog) (H := H) (T := 9) (l := l) (lo := some (i64 i)) (hi := some (i64 ((i : Int) + 1))) (a := i) (b := ((i + 1 : Nat) : Int)) (by simp) rfl rfl (by omega) (by omega) (by omega)
    have he : (l.take (i + 1)).drop i = [b] := by rw [List.drop_take,hd]; simp
    simp only [Int.toNat_natCast,he] at hsl
    have hcat := fun x y => aBin_str (P := prog) (H := H) (T := 9) (x := x) (y := y) (a := acc') (b := [b]) (by simp; omega)
    rw [S70x0q]
    simp [hw1,hsl,hcat]
    exact ih (i + 1) (acc' ++ [b]) _ _ _ _ _ _ _ _ _ _ _ _ _ _ _ _ _ _ _ _ _ _ _ _ _ _ _ _ _ hdr hlt (by simp; omega) (by rw [hw']; simp)
   rw [List.flatMap_cons] at hw
   rw [List.length_cons,L70x0q]
   have hcat := fun x y => aBin_str (P := prog) (H := H) (T := 9) (x := x) (y := y) (a := acc) (b := [92]) (by simp; omega)
   by_cases he : b = 34 ∨ b = 92
   · have e0 : escB b = [92,b] := if_pos he
     rw [e0] at hw
     by_cases h34 : ((b.toNat : Int) == 34) = true
     · simp [hlt,hix,h34,hcat]
       exact step (acc ++ [92]) _ _ _ _ _ _ _ _ _ _ _ _ _ _ _ _ _ _ _ _ _ _ _ _ _ _ _ _ _ (by simp; omega) (by rw [hw]; simp)
     · have h34' : ((b.toNat : Int) == 34) = false := by simpa using h34
       have h92 : ((b.toNat : Int) == 92) = true := by
        rcases he with rfl | rfl
        · exact absurd rfl h34
        · rfl
       simp [hlt,hix,h34',h92,hcat]
       exact step (acc ++ [92]) _ _ _ _ _ _ _ _ _ _ _ _ _ _ _ _ _ _ _ _ _ _ _ _ _ _ _ _ _ (by simp; omega) (by rw [hw]; simp)
   · have e0 : escB b = [b] := if_neg he
     rw [e0] at hw
     have h34 : ((b.toNat : Int) == 34) = false := by
      rw [Bool.eq_false_iff]; exact fun e => he (.inl (kind_of (m := 34) e))
     have h92 : ((b.toNat : Int) == 92) = false := by
      rw [Bool.eq_false_iff]; exact fun e => he (.inr (kind_of (m := 92) e))
     simp [hlt,hix,h34,h92]
     exact step acc _ _ _ _ _ _ _ _ _ _ _ _ _ _ _ _ _ _ _ _ _ _ _ _ _ _ _ _ _ (by omega) hw
theorem r_quote (H : AHeap) {l : List UInt8} (hl : l.length < 2 ^ 40) : ACalls prog 70 [str l] H (str (quoteS l)) H := by
 refine acalls_pure MixT func70 (by decide) rfl ?_
 rw [d70]
 exact ⟨_,rquote_loop hl ⟨rfl,[],by simp⟩ l 0 [34] _ _ _ _ _ _ _ _ _ _ _ _ _ _ _ _ _ _ _ _ _ _ _ _ _ _ _ _ _ rfl (by omega) (by simp) rfl⟩
theorem r_sgn (H : AHeap) (op : Int) : ACalls prog 69 [.int .u8 op] H (str (sgnS op)) H := by
 refine acalls_pure MixT func69 (by decide) rfl ?_
 rw [d69]
 by_cases h1 : op = 1
 · subst h1
   simp [sgnS,isOp,opS]
 · by_cases h2 : op = 2
   · subst h2
     simp [sgnS,isOp,opS]
   · have e1 : (op == 1) = false := by simpa using h1
     have e2 : (op == 2) = false := by simpa using h2
     have e : sgnS op = [61] := by
      unfold sgnS opS
      split
      · split
        · rfl
        · rename_i h _
          unfold isOp at h
          simp at h
          omega
      · rfl
     simp [e1,e2,e]
def moreS (i : Nat) (r : List Mat) : List UInt8 := (if i = 0 then joinS [44] (r.map matS) else ((r.map matS).map ([44] ++ ·)).flatten) ++ [125]
theorem moreS_cons (i : Nat) (m : Mat) (r : List Mat) : moreS i (m :: r) = (if 0 < i then [44] else []) ++ matS m ++ moreS (i + 1) r := by
 unfold moreS
 by_cases h : i = 0
 · subst h; simp [joinS]
 · rw [if_neg h,if_pos (show 0 < i by omega),if_neg (show ¬ (i + 1 = 0) by omega)]; simp
theorem matS_len2 {m : Mat} (h : m.tame) : (matS m).length ≤ 2 ^ 22 := by
 have h4 := sgnS_len m.op
 have h5 := quoteS_len m.value
 obtain ⟨h1,h2⟩ := h
 simp only [matS,List.length_append]
 omega
theorem rsel_loop {H : AHeap} {v : Value} {ms : List Mat} {k : Value → AHeap → Prop} {w : List UInt8} (hm : MatsAt H v ms) (hl : ms.length ≤ 2 ^ 20) (ht : ∀ m ∈ ms,m.tame) (hk : k (str w) H) :
  ∀ (r : List Mat) (i : Nat) (acc : List UInt8) (s1 s2 s5 s6 s7 s8 s9 s10 s11 s12 s13 s14 s15 s16 s17 s18 s19 s20 s21 s22 s23 s24 s25 s26 s27 s28 s29 s30 s31 s32 s33 s34 s35 s36 s37 : Value),ms.drop i = r → i ≤ ms.length → acc.length ≤ 1 + (2 ^ 22 + 1) * i → w = acc ++ moreS i r → L60x0 (r.length + 1) k [v,s1,s2,str acc,i64 i,s5,s6,s7,s8,s9,s10,s11,s12,s13,s14,s15,s16,s17,s18,s19,s20,s21,s22,s23,s24,s25,s26,s27,s28,s29,s30,s31,s32,s33,s34,s35,s36,s37] H := by
 have hlen := Arr.len (P := prog) (T := 48) (e := 52) hm (by simp)
 simp at hlen
 intro r
 induction r with
 | nil =>
   intro i acc s1 s2 s5 s6 s7 s8 s9 s10 s11 s12 s13 s14 s15 s16 s17 s18 s19 s20 s21 s22 s23 s24 s25 s26 s27 s28 s29 s30 s31 s32 s33 s34 s35 s36 s37 hd hi ha hw
   have hle : ms.length ≤ i := by simpa using hd
   have : ¬ i < ms.length := by omega
   have hcat := fun x y => aBin_str (P := prog) (H := H) (T := 9) (x := x) (y := y) (a := acc) (b := [125]) (by simp; omega)
   have e : w = acc ++ [125] := by
    rw [hw]; unfold moreS
    split <;> rfl
   rw [List.length_nil,L60x0q]
   simp [hlen,this,hcat]
   rw [← e]
   exact hk
 | cons m r ih =>
   intro i acc s1 s2 s5 s6 s7 s8 s9 s10 s11 s12 s13 s14 s15 s16 s17 s18 s19 s20 s21 s22 s23 s24 s25 s26 s27 s28 s29 s30 s31 s32 s33 s34 s35 s36 s37 hd hi ha hw
   have hb : ms[i]? = some m := by rw [← List.head?_drop,hd]; rfl
   have hlt : i < ms.length := (List.getElem?_eq_some_iff.1 hb).1
   have hdr : ms.drop (i + 1) = r := by rw [← List.drop_drop,hd]; rfl
   have htm := ht m (List.mem_of_getElem? hb)
   have hml := matS_len2 htm
   have hmm := htm
   obtain ⟨hn,hv⟩ := hmm
   have hcell : (ms.map Mat.cells)[i]? = some m.cells := by simp [hb]
   obtain ⟨p1,q1,a1,a2,a3⟩ := Arr.field (P := prog) (T := 48) (te := 52) (f := 1) (d := 1) (ft := 5) hm (by simp) (by simp) (by simp) (by simp) (by simp) hcell rfl
   obtain ⟨p2,q2,b1,b2,b3⟩ := Arr.field (P := prog) (T := 48) (te := 52) (f := 0) (d := 0) (ft := 9) hm (by simp) (by simp) (by simp) (by simp) (by simp) hcell rfl
   obtain ⟨p3,q3,c1,c2,c3⟩ := Arr.field (P := prog) (T := 48) (te := 52) (f := 2) (d := 2) (ft := 9) hm (by simp) (by simp) (by simp) (by simp) (by simp) hcell rfl
   rw [a1] at b1 c1
   cases b1
   cases c1
   rw [moreS_cons] at hw
   have step : ∀ (acc' : List UInt8) (s1 s2 s5 s6 s7 s8 s9 s10 s11 s12 s13 s14 s15 s16 s17 s18 s19 s20 s21 s22 s23 s24 s25 s26 s27 s28 s29 s30 s31 s32 s33 s34 s35 s36 s37 : Value),acc'.length ≤ 2 + (2 ^ 22 + 1) * i → w = acc' ++ (matS m ++ moreS (i + 1) r) → S60x0 (r.length + 1) k [v,s1,s2,str acc',i64 i,s5,s6,s7,s8,s9,s10,s11,s12,s13,s14,s15,s16,s17,s18,s19,s20,s21,s22,s23,s24,s25,s26,s27,s28,s29,s30,s31,s32,s33,s34,s35,s36,s37] H := by
    intro acc' s1 s2 s5 s6 s7 s8 s9 s10 s11 s12 s13 s14 s15 s16 s17 s18 s19 s20 s21 s22 s23 s24 s25 s26 s27 s28 s29 s30 s31 s32 s33 s34 s35 s36 s37 ha' hw'
    have hw1 : IntKind.i64.wrap ((i : Int) + 1) = (i : Int) + 1 := wrap_i64 (by omega) (by omega)
    have l1 := sgnS_len m.op
    have l2 := quoteS_len m.value
    have hc1 := fun x y => aBin_str (P := prog) (H := H) (T := 9) (x := x) (y := y) (a := acc') (b := m.name) (by omega)
    have hc2 := fun x y => aBin_str (P := prog) (H := H) (T := 9) (x := x) (y := y) (a := acc' ++ m.name) (b := sgnS m.op) (by rw [List.length_append]; omega)
    have hc3 := fun x y => aBin_str (P := prog) (H := H) (T := 9) (x := x) (y := y) (a := acc' ++ m.name ++ sgnS m.op) (b := quoteS m.value) (by rw [List.length_append,List.length_append]; omega)
    rw [S60x0q]
    simp only [a1,a2,a3,b2,b3,bnd_some,hc1]
    refine bndD_same (r_sgn H _) ?_
    dsimp only
    simp only [hc2,a1,c2,c3,bnd_some]
    refine bndD_same (r_quote H (l := m.value) (by omega)) ?_
    dsimp only
    simp only [hc3,bnd_some,aBin_add,hw1]
    refine ih (i + 1) _ _ _ _ _ _ _ _ _ _ _ _ _ _ _ _ _ _ _ _ _ _ _ _ _ _ _ _ _ _ _ _ _ _ _ _ hdr hlt ?_ ?_
    · have : (acc' ++ m.name ++ sgnS m.op ++ quoteS m.value).length = acc'.length + (matS m).length := by simp [matS]
      rw [this]
      omega
    · rw [hw']; simp [matS]
   rw [List.length_cons,L60x0q]
   by_cases h0 : 0 < i
   · have hcat := fun x y => aBin_str (P := prog) (H := H) (T := 9) (x := x) (y := y) (a := acc) (b := [44]) (by simp; omega)
     simp [hlen,hlt,h0,hcat]
     exact step (acc ++ [44]) _ _ _ _ _ _ _ _ _ _ _ _ _ _ _ _ _ _ _ _ _ _ _ _ _ _ _ _ _ _ _ _ _ _ _ (by simp; omega) (by rw [hw,if_pos h0]; simp)
   · simp [hlen,hlt,h0]
     exact step acc _ _ _ _ _ _ _ _ _ _ _ _ _ _ _ _ _ _ _ _ _ _ _ _ _ _ _ _ _ _ _ _ _ _ _ (by omega) (by rw [hw,if_neg h0]; simp)
theorem r_sel {H : AHeap} {v : Value} {ms : List Mat} (hm : MatsAt H v ms) (hl : ms.length ≤ 2 ^ 20) (ht : ∀ m ∈ ms,m.tame) : ACalls prog 60 [v] H (str (selS ms)) H := by
 refine acalls_pure MixT func60 (by decide) rfl ?_
 rw [d60]
 exact ⟨_,rsel_loop hm hl ht ⟨rfl,[],by simp⟩ ms 0 [123] _ _ _ _ _ _ _ _ _ _ _ _ _ _ _ _ _ _ _ _ _ _ _ _ _ _ _ _ _ _ _ _ _ _ _ rfl (by omega) (by simp) (by simp [moreS,selS])⟩
theorem r_sat (H : AHeap) (x : Int) : ACalls prog 71 [i64 x] H (i64 (sat x)) H := by
 refine acalls_pure MixT func71 (by decide) rfl ?_
 rw [d71]
 have hmx : maxFix = 4611686018427387903 := rfl
 by_cases h1 : (4611686018427387903 : Int) < x
 · have e : sat x = 4611686018427387903 := by unfold sat; omega
   simp [h1,e]
 · by_cases h2 : x < -4611686018427387903
   · have e : sat x = -4611686018427387903 := by unfold sat; omega
     simp [h1,h2,e]
   · have e : sat x = x := by unfold sat; omega
     simp [h1,h2,e]
def fracL : Nat → Nat → Nat → List UInt8
 | 0,_,_ => []
 | n + 1,p,u => if p = 0 then [] else UInt8.ofNat (48 + p / u) :: fracL n (p % u) (u / 10)
theorem frac_eq : ∀ m,m < 1000 → m ≠ 0 → fracS m = fracL 3 m 100 := by decide +kernel
theorem frac_loop {H : AHeap} {k : Value → AHeap → Prop} (w : List UInt8) (hk : ∀ K,Pre H K → k (str w) K) : ∀ (n p u : Nat) (s : List UInt8) (K : AHeap) (s0 s1 s2 s4 s7 s8 s9 s10 s11 s12 s13 s14 s15 s16 s17 s18 s19 s20 s21 s22 s23 s24 s25 s26 s27 s28 s29 s30 s31 s32 s33 s34 s35 s36 s37 s38 s39 s40 s41 s42 s43 s44 s45 s46 s47 s48 s49 s50 s51 s52 s53 s54 s55 s56 : Value),Pre H K → (n = 0 → p = 0) → (0 < n → u = 10 ^ (n - 1) ∧ p < 10 ^ n) → n ≤ 3 → s.length + n ≤ 2 ^ 40 → w = s ++ fracL n p u →
  L63x1 (n + 1) k [s0,s1,s2,str s,s4,i64 p,i64 u,s7,s8,s9,s10,s11,s12,s13,s14,s15,s16,s17,s18,s19,s20,s21,s22,s23,s24,s25,s26,s27,s28,s29,s30,s31,s32,s33,s34,s35,s36,s37,s38,s39,s40,s41,s42,s43,s44,s45,s46,s47,s48,s49,s50,s51,s52,s53,s54,s55,s56] K := by
 have stop : ∀ (n u : Nat) (s : List UInt8) (K : AHeap) (s0 s1 s2 s4 s7 s8 s9 s10 s11 s12 s13 s14 s15 s16 s17 s18 s19 s20 s21 s22 s23 s24 s25 s26 s27 s28 s29 s30 s31 s32 s33 s34 s35 s36 s37 s38 s39 s40 s41 s42 s43 s44 s45 s46 s47 s48 s49 s50 s51 s52 s53 s54 s55 s56 : Value),Pre H K → w = s → L63x1 (n + 1) k [s0,s1,s2,str s,s4,i64 (0 : Nat),i64 u,s7,s8,s9,s10,s11,s12,s13,s14,s15,s16,s17,s18,s19,s20,s21,s22,s23,s24,s25,s26,s27,s28,s29,s30,s31,s32,s33,s34,s35,s36,s37,s38,s39,s40,s41,s42,s43,s44,s45,s46,s47,s48,s49,s50,s51,s52,s53,s54,s55,s56] K := by
  intro n u s K s0 s1 s2 s4 s7 s8 s9 s10 s11 s12 s13 s14 s15 s16 s17 s18 s19 s20 s21 s22 s23 s24 s25 s26 s27 s28 s29 s30 s31 s32 s33 s34 s35 s36 s37 s38 s39 s40 s41 s42 s43 s44 s45 s46 s47 s48 s49 s50 s51 s52 s53 s54 s55 s56 hp hw
  subst hw
  rw [L63x1q]
  simp
  exact hk K hp
 intro n
 induction n with
 | zero =>
   intro p u s K s0 s1 s2 s4 s7 s8 s9 s10 s11 s12 s13 s14 s15 s16 s17 s18 s19 s20 s21 s22 s23 s24 s25 s26 s27 s28 s29 s30 s31 s32 s33 s34 s35 s36 s37 s38 s39 s40 s41 s42 s43 s44 s45 s46 s47 s48 s49 s50 s51 s52 s53 s54 s55 s56 hp h0 hu hn hsl hw
   obtain rfl := h0 rfl
   exact stop 0 u s K _ _ _ _ _ _ _ _ _ _ _ _ _ _ _ _ _ _ _ _ _ _ _ _ _ _ _ _ _ _ _ _ _ _ _ _ _ _ _ _ _ _ _ _ _ _ _ _ _ _ _ _ _ _ hp (by rw [hw]; simp [fracL])
 | succ n ih =>
   intro p u s K s0 s1 s2 s4 s7 s8 s9 s10 s11 s12 s13 s14 s15 s16 s17 s18 s19 s20 s21 s22 s23 s24 s25 s26 s27 s28 s29 s30 s31 s32 s33 s34 s35 s36 s37 s38 s39 s40 s41 s42 s43 s44 s45 s46 s47 s48 s49 s50 s51 s52 s53 s54 s55 s56 hp h0 hu hn hsl hw
   by_cases hz : p = 0
   · subst hz
     exact stop (n + 1) u s K _ _ _ _ _ _ _ _ _ _ _ _ _ _ _ _ _ _ _ _ _ _ _ _ _ _ _ _ _ _ _ _ _ _ _ _ _ _ _ _ _ _ _ _ _ _ _ _ _ _ _ _ _ _ hp (by rw [hw]; simp [fracL])
   · obtain ⟨hu1,hu2⟩ := hu (by omega)
     simp only [Nat.add_sub_cancel] at hu1
     have hupos : 0 < u := by rw [hu1]; exact Nat.pow_pos (by omega)
     have hu10 : p < 10 * u := by rw [hu1]; rw [Nat.pow_succ] at hu2; omega
     have hu3 : u ≤ 1000 := by rw [hu1]; exact Nat.pow_le_pow_right (show 0 < 10 by omega) (show n ≤ 3 by omega)
     have hq : p / u < 10 := Nat.div_lt_of_lt_mul (by rw [Nat.mul_comm]; exact hu10)
     have hr : p % u < u := Nat.mod_lt _ hupos
     have wq : IntKind.i64.wrap ((p / u : Nat) : Int) = ((p / u : Nat) : Int) := by
      generalize p / u = d at hq
      exact wrap_i64 (by omega) (by omega)
     have r1 := fun (H : AHeap) x y => quoL (P := prog) (H := H) (T := 2) (x := x) (y := y) (k := .i64) (a := p) (c := u) (n := u) rfl hupos wq
     have r2 := fun (H : AHeap) x y => remL (P := prog) (H := H) (T := 2) (x := x) (y := y) (k := .i64) (a := p) (c := u) (n := u) rfl hupos
     have r3 := fun (H : AHeap) x y => quoL (P := prog) (H := H) (T := 2) (x := x) (y := y) (k := .i64) (a := u) (c := 10) (n := 10) rfl (by omega) (wrap_i64 (by omega) (by omega))
     obtain ⟨d,hd⟩ : ∃ d,d = p / u := ⟨_,rfl⟩
     obtain ⟨p',hp'⟩ : ∃ d,d = p % u := ⟨_,rfl⟩
     obtain ⟨u',hu'⟩ : ∃ d,d = u / 10 := ⟨_,rfl⟩
     rw [← hd] at r1 hq
     rw [← hp'] at r2 hr
     rw [← hu'] at r3
     have wa : IntKind.i64.wrap (48 + (d : Int)) = 48 + (d : Int) := wrap_i64 (by omega) (by omega)
     have wd : IntKind.u8.wrap (48 + (d : Int)) = 48 + (d : Int) := wrap_dig hq
     have ed := ofNat_dig (d := d) hq
     have hcat := fun (H : AHeap) x y => aBin_str (P := prog) (H := H) (T := 9) (x := x) (y := y) (a := s) (b := [UInt8.ofNat (48 + d)]) (by simp; omega)
     have hpos : 0 < p := by omega
     rw [L63x1q]
     simp only [aBin_gtr,bnd_some,show decide ((p : Int) > 0) = true by simp; omega,kifB_true,r1,aBin_add,wa]
     simp only [convV_int underlying2 underlying5,bnd_some,wd]
     rw [ed]
     refine bndL_lit (byte_lit K _) ?_
     dsimp only
     refine bnd_of (one_byte _) ?_
     dsimp only
     refine bnd_of (hcat _ _ _) ?_
     dsimp only
     refine bnd_of (r2 _ _ _) ?_
     dsimp only
     refine bnd_of (r3 _ _ _) ?_
     dsimp only
     refine ih p' u' (s ++ [UInt8.ofNat (48 + d)]) _ _ _ _ _ _ _ _ _ _ _ _ _ _ _ _ _ _ _ _ _ _ _ _ _ _ _ _ _ _ _ _ _ _ _ _ _ _ _ _ _ _ _ _ _ _ _ _ _ _ _ _ _ _ _ (hp.trans (.app _ _)) ?_ ?_ (by omega) (by simp; omega) ?_
     · intro hn0
       subst hn0
       simp only [Nat.pow_zero] at hu1
       omega
     · intro hn0
       obtain ⟨m,rfl⟩ : ∃ m,n = m + 1 := ⟨n - 1,by omega⟩
       rw [Nat.pow_succ] at hu1
       refine ⟨by rw [hu',hu1]; simp,?_⟩
       rw [Nat.pow_succ,← hu1]; exact hr
     · rw [hw,fracL,if_neg hz,← hd,← hp',← hu']; simp
theorem fixw_loop {H : AHeap} {k : Value → AHeap → Prop} (m : Nat) (_hm : m < 2 ^ 62) (hk : ∀ K,Pre H K → k (str (fixU m)) K) :
  ∀ (d n : Nat) (s : List UInt8) (K : AHeap) (s1 s2 s5 s6 s7 s8 s9 s10 s11 s12 s13 s14 s15 s16 s17 s18 s19 s20 s21 s22 s23 s24 s25 s26 s27 s28 s29 s30 s31 s32 s33 s34 s35 s36 s37 s38 s39 s40 s41 s42 s43 s44 s45 s46 s47 s48 s49 s50 s51 s52 s53 s54 s55 s56 : Value),Pre H K → n < 10 ^ d → n < 2 ^ 63 → s.length + d ≤ 2 ^ 39 → natS (m / 1000) = preS n s → L63x0 (d + 2) k [i64 m,s1,s2,str s,i64 n,s5,s6,s7,s8,s9,s10,s11,s12,s13,s14,s15,s16,s17,s18,s19,s20,s21,s22,s23,s24,s25,s26,s27,s28,s29,s30,s31,s32,s33,s34,s35,s36,s37,s38,s39,s40,s41,s42,s43,s44,s45,s46,s47,s48,s49,s50,s51,s52,s53,s54,s55,s56] K := by
 have step : ∀ (q n : Nat) (s : List UInt8) (K : AHeap) (s1 s2 s5 s6 s7 s8 s9 s10 s11 s12 s13 s14 s15 s16 s17 s18 s19 s20 s21 s22 s23 s24 s25 s26 s27 s28 s29 s30 s31 s32 s33 s34 s35 s36 s37 s38 s39 s40 s41 s42 s43 s44 s45 s46 s47 s48 s49 s50 s51 s52 s53 s54 s55 s56 : Value),Pre H K → n < 2 ^ 63 → s.length ≤ 2 ^ 40 → (0 < n ∨ s = []) →
   (∀ (K : AHeap) (s1 s2 s5 s6 s7 s8 s9 s10 s11 s12 s13 s14 s15 s16 s17 s18 s19 s20 s21 s22 s23 s24 s25 s26 s27 s28 s29 s30 s31 s32 s33 s34 s35 s36 s37 s38 s39 s40 s41 s42 s43 s44 s45 s46 s47 s48 s49 s50 s51 s52 s53 s54 s55 s56 : Value),Pre H K → L63x0 q k [i64 m,s1,s2,str (UInt8.ofNat (48 + n % 10) :: s),i64 ((n / 10 : Nat) : Int),s5,s6,s7,s8,s9,s10,s11,s12,s13,s14,s15,s16,s17,s18,s19,s20,s21,s22,s23,s24,s25,s26,s27,s28,s29,s30,s31,s32,s33,s34,s35,s36,s37,s38,s39,s40,s41,s42,s43,s44,s45,s46,s47,s48,s49,s50,s51,s52,s53,s54,s55,s56] K) → L63x0 (q + 1) k [i64 m,s1,s2,str s,i64 n,s5,s6,s7,s8,s9,s10,s11,s12,s13,s14,s15,s16,s17,s18,s19,s20,s21,s22,s23,s24,s25,s26,s27,s28,s29,s30,s31,s32,s33,s34,s35,s36,s37,s38,s39,s40,s41,s42,s43,s44,s45,s46,s47,s48,s49,s50,s51,s52,s53,s54,s55,s56] K := by
  intro q n s K s1 s2 s5 s6 s7 s8 s9 s10 s11 s12 s13 s14 s15 s16 s17 s18 s19 s20 s21 s22 s23 s24 s25 s26 s27 s28 s29 s30 s31 s32 s33 s34 s35 s36 s37 s38 s39 s40 s41 s42 s43 s44 s45 s46 s47 s48 s49 s50 s51 s52 s53 s54 s55 s56 hp h63 hsl hc hn
  rw [L63x0q]
  have hr := fun (H : AHeap) x y => remL (P := prog) (H := H) (T := 2) (x := x) (y := y) (k := .i64) (a := n) (c := 10) (n := 10) rfl (by omega)
  have hq := fun (H : AHeap) x y => quoL (P := prog) (H := H) (T := 2) (x := x) (y := y) (k := .i64) (a := n) (c := 10) (n := 10) rfl (by omega) (wrap_i64 (by omega) (by omega))
  have en : ((n % 10 : Nat) : Int) = (n : Int) % 10 := by omega
  have eq : ((n / 10 : Nat) : Int) = (n : Int) / 10 := by omega
  have wa : IntKind.i64.wrap (48 + (n : Int) % 10) = 48 + (n : Int) % 10 := wrap_i64 (by omega) (by omega)
  have wd : IntKind.u8.wrap (48 + (n : Int) % 10) = 48 + (n : Int) % 10 := by rw [← en]; exact wrap_dig (by omega)
  have ed : Value.int .u8 (48 + (n : Int) % 10) = byt (UInt8.ofNat (48 + n % 10)) := by rw [← en]; exact ofNat_dig (by omega)
  simp only [en,eq] at hr hq
  have hcat := fun (H : AHeap) x y => aBin_str (P := prog) (H := H) (T := 9) (x := x) (y := y) (a := [UInt8.ofNat (48 + n % 10)]) (b := s) (by simp; omega)
  have body : ∀ (s1 s2 s5 s6 s7 s8 s9 s10 s11 s12 s13 s14 s15 s16 s17 s18 s19 s20 s21 s22 s23 s24 s25 s26 s27 s28 s29 s30 s31 s32 s33 s34 s35 s36 s37 s38 s39 s40 s41 s42 s43 s44 s45 s46 s47 s48 s49 s50 s51 s52 s53 s54 s55 s56 : Value),L63x0 q k [i64 m,s1,s2,str (UInt8.ofNat (48 + n % 10) :: s),i64 ((n / 10 : Nat) : Int),s5,s6,s7,s8,s9,s10,s11,s12,s13,s14,s15,s16,s17,s18,s19,s20,s21,s22,s23,s24,s25,s26,s27,s28,s29,s30,s31,s32,s33,s34,s35,s36,s37,s38,s39,s40,s41,s42,s43,s44,s45,s46,s47,s48,s49,s50,s51,s52,s53,s54,s55,s56] (K ++ [.cells [byt (UInt8.ofNat (48 + n % 10))] 5]) := by
   intro s1 s2 s5 s6 s7 s8 s9 s10 s11 s12 s13 s14 s15 s16 s17 s18 s19 s20 s21 s22 s23 s24 s25 s26 s27 s28 s29 s30 s31 s32 s33 s34 s35 s36 s37 s38 s39 s40 s41 s42 s43 s44 s45 s46 s47 s48 s49 s50 s51 s52 s53 s54 s55 s56
   exact hn _ _ _ _ _ _ _ _ _ _ _ _ _ _ _ _ _ _ _ _ _ _ _ _ _ _ _ _ _ _ _ _ _ _ _ _ _ _ _ _ _ _ _ _ _ _ _ _ _ _ _ _ _ _ _ (hp.trans (.app _ _))
  by_cases h0 : 0 < n
  · simp [h0,hr,wa,wd]
    rw [ed]
    refine bndL_lit (byte_lit K _) ?_
    dsimp only
    refine bnd_of (one_byte _) ?_
    dsimp only
    refine bnd_of (hcat _ _ _) ?_
    dsimp only
    refine bnd_of (hq _ _ _) ?_
    exact body _ _ _ _ _ _ _ _ _ _ _ _ _ _ _ _ _ _ _ _ _ _ _ _ _ _ _ _ _ _ _ _ _ _ _ _ _ _ _ _ _ _ _ _ _ _ _ _ _ _ _ _ _ _
  · obtain rfl : s = [] := by
     rcases hc with h | h
     · exact absurd h h0
     · exact h
    simp [h0,hr,wa,wd]
    rw [ed]
    refine bndL_lit (byte_lit K _) ?_
    dsimp only
    refine bnd_of (one_byte _) ?_
    dsimp only
    refine bnd_of (hcat _ _ _) ?_
    dsimp only
    refine bnd_of (hq _ _ _) ?_
    exact body _ _ _ _ _ _ _ _ _ _ _ _ _ _ _ _ _ _ _ _ _ _ _ _ _ _ _ _ _ _ _ _ _ _ _ _ _ _ _ _ _ _ _ _ _ _ _ _ _ _ _ _ _ _
 have stop : ∀ (q : Nat) (s : List UInt8) (K : AHeap) (s1 s2 s5 s6 s7 s8 s9 s10 s11 s12 s13 s14 s15 s16 s17 s18 s19 s20 s21 s22 s23 s24 s25 s26 s27 s28 s29 s30 s31 s32 s33 s34 s35 s36 s37 s38 s39 s40 s41 s42 s43 s44 s45 s46 s47 s48 s49 s50 s51 s52 s53 s54 s55 s56 : Value),Pre H K → s ≠ [] → s.length ≤ 2 ^ 39 → natS (m / 1000) = s → L63x0 (q + 1) k [i64 m,s1,s2,str s,i64 (0 : Nat),s5,s6,s7,s8,s9,s10,s11,s12,s13,s14,s15,s16,s17,s18,s19,s20,s21,s22,s23,s24,s25,s26,s27,s28,s29,s30,s31,s32,s33,s34,s35,s36,s37,s38,s39,s40,s41,s42,s43,s44,s45,s46,s47,s48,s49,s50,s51,s52,s53,s54,s55,s56] K := by
  intro q s K s1 s2 s5 s6 s7 s8 s9 s10 s11 s12 s13 s14 s15 s16 s17 s18 s19 s20 s21 s22 s23 s24 s25 s26 s27 s28 s29 s30 s31 s32 s33 s34 s35 s36 s37 s38 s39 s40 s41 s42 s43 s44 s45 s46 s47 s48 s49 s50 s51 s52 s53 s54 s55 s56 hp hs hsl hw
  have hr := fun (H : AHeap) x y => remL (P := prog) (H := H) (T := 2) (x := x) (y := y) (k := .i64) (a := m) (c := 1000) (n := 1000) rfl (by omega)
  obtain ⟨f,hf⟩ : ∃ f,f = m % 1000 := ⟨_,rfl⟩
  rw [← hf] at hr
  have hfix : fixU m = s ++ if f = 0 then [] else 46 :: fracS f := by rw [fixU_eq,hw,hf]
  rw [L63x0q]
  have hcat := fun (H : AHeap) x y => aBin_str (P := prog) (H := H) (T := 9) (x := x) (y := y) (a := s) (b := [46]) (by simp; omega)
  by_cases h0 : f = 0
  · rw [if_pos h0,List.append_nil] at hfix
    have hb : ((f : Int) == 0) = true := by simp [h0]
    simp [hs,hr,hb]
    rw [← hfix]
    exact hk K hp
  · rw [if_neg h0] at hfix
    have hb : ((f : Int) == 0) = false := by simp [h0]
    simp [hs,hr,hb,hcat]
    exact ⟨3 + 1,frac_loop (fixU m) hk 3 f 100 (s ++ [46]) K _ _ _ _ _ _ _ _ _ _ _ _ _ _ _ _ _ _ _ _ _ _ _ _ _ _ _ _ _ _ _ _ _ _ _ _ _ _ _ _ _ _ _ _ _ _ _ _ _ _ _ _ _ _ hp (by omega) (by omega) (by omega) (by simp; omega) (by rw [hfix,frac_eq f (by omega) h0]; simp)⟩
 intro d
 induction d with
 | zero =>
   intro n s K s1 s2 s5 s6 s7 s8 s9 s10 s11 s12 s13 s14 s15 s16 s17 s18 s19 s20 s21 s22 s23 s24 s25 s26 s27 s28 s29 s30 s31 s32 s33 s34 s35 s36 s37 s38 s39 s40 s41 s42 s43 s44 s45 s46 s47 s48 s49 s50 s51 s52 s53 s54 s55 s56 hp hn h63 hsl hw
   obtain rfl : n = 0 := by simpa using hn
   by_cases hs : s = []
   · subst hs
     refine step (0 + 1) 0 [] K _ _ _ _ _ _ _ _ _ _ _ _ _ _ _ _ _ _ _ _ _ _ _ _ _ _ _ _ _ _ _ _ _ _ _ _ _ _ _ _ _ _ _ _ _ _ _ _ _ _ _ _ _ _ hp (by omega) (by simp) (.inr rfl) ?_
     intro K2 s1 s2 s5 s6 s7 s8 s9 s10 s11 s12 s13 s14 s15 s16 s17 s18 s19 s20 s21 s22 s23 s24 s25 s26 s27 s28 s29 s30 s31 s32 s33 s34 s35 s36 s37 s38 s39 s40 s41 s42 s43 s44 s45 s46 s47 s48 s49 s50 s51 s52 s53 s54 s55 s56 hp2
     exact stop 0 _ K2 _ _ _ _ _ _ _ _ _ _ _ _ _ _ _ _ _ _ _ _ _ _ _ _ _ _ _ _ _ _ _ _ _ _ _ _ _ _ _ _ _ _ _ _ _ _ _ _ _ _ _ _ _ _ hp2 (by simp) (by simp) (by rw [hw]; rfl)
   · exact stop (0 + 1) s K _ _ _ _ _ _ _ _ _ _ _ _ _ _ _ _ _ _ _ _ _ _ _ _ _ _ _ _ _ _ _ _ _ _ _ _ _ _ _ _ _ _ _ _ _ _ _ _ _ _ _ _ _ _ hp hs (by omega) (by rw [hw]; unfold preS; rw [if_pos rfl,if_neg hs])
 | succ d ih =>
   intro n s K s1 s2 s5 s6 s7 s8 s9 s10 s11 s12 s13 s14 s15 s16 s17 s18 s19 s20 s21 s22 s23 s24 s25 s26 s27 s28 s29 s30 s31 s32 s33 s34 s35 s36 s37 s38 s39 s40 s41 s42 s43 s44 s45 s46 s47 s48 s49 s50 s51 s52 s53 s54 s55 s56 hp hn h63 hsl hw
   by_cases hc : 0 < n ∨ s = []
   · refine step (d + 2) n s K _ _ _ _ _ _ _ _ _ _ _ _ _ _ _ _ _ _ _ _ _ _ _ _ _ _ _ _ _ _ _ _ _ _ _ _ _ _ _ _ _ _ _ _ _ _ _ _ _ _ _ _ _ _ hp h63 (by omega) hc ?_
     intro K2 s1 s2 s5 s6 s7 s8 s9 s10 s11 s12 s13 s14 s15 s16 s17 s18 s19 s20 s21 s22 s23 s24 s25 s26 s27 s28 s29 s30 s31 s32 s33 s34 s35 s36 s37 s38 s39 s40 s41 s42 s43 s44 s45 s46 s47 s48 s49 s50 s51 s52 s53 s54 s55 s56 hp2
     refine ih (n / 10) _ K2 _ _ _ _ _ _ _ _ _ _ _ _ _ _ _ _ _ _ _ _ _ _ _ _ _ _ _ _ _ _ _ _ _ _ _ _ _ _ _ _ _ _ _ _ _ _ _ _ _ _ _ _ _ _ hp2 (by rw [Nat.pow_succ] at hn; omega) (by omega) (by simp; omega) ?_
     rw [hw,preS_step hc (by omega)]
   · have h0 : n = 0 := by
      rcases Nat.eq_zero_or_pos n with h | h
      · exact h
      · exact absurd (.inl h) hc
     have hs : s ≠ [] := fun h => hc (.inr h)
     subst h0
     exact stop (d + 1 + 1) s K _ _ _ _ _ _ _ _ _ _ _ _ _ _ _ _ _ _ _ _ _ _ _ _ _ _ _ _ _ _ _ _ _ _ _ _ _ _ _ _ _ _ _ _ _ _ _ _ _ _ _ _ _ _ hp hs (by omega) (by rw [hw]; unfold preS; rw [if_pos rfl,if_neg hs])
theorem pre_nil (n : Nat) : natS n = preS n [] := by
 unfold preS
 by_cases h : n = 0
 · subst h; rfl
 · rw [if_neg h,List.append_nil]
theorem r_fixU (H : AHeap) {m : Nat} (hm : (m : Int) ≤ maxFix) : ACalls prog 63 [i64 m] H (str (fixU m)) H := by
 have hmx : maxFix = 4611686018427387903 := rfl
 have hs : sat m = m := by unfold sat; omega
 refine acalls_pure MixT func63 (by decide) rfl ?_
 rw [d63]
 refine bndC_of (r_sat H m) ?_
 rw [hs]
 have hq := fun (H : AHeap) x y => quoL (P := prog) (H := H) (T := 2) (x := x) (y := y) (k := .i64) (a := m) (c := 1000) (n := 1000) rfl (by omega) (wrap_i64 (by omega) (by omega))
 obtain ⟨f,hf⟩ : ∃ f,f = m / 1000 := ⟨_,rfl⟩
 rw [← hf] at hq
 have hneg : ¬ (m : Int) < 0 := by omega
 simp [hneg,hq]
 exact ⟨20 + 2,fixw_loop (H := H) m (by omega) (fun K ⟨X,hX⟩ => ⟨rfl,X,hX⟩) 20 f [] H _ _ _ _ _ _ _ _ _ _ _ _ _ _ _ _ _ _ _ _ _ _ _ _ _ _ _ _ _ _ _ _ _ _ _ _ _ _ _ _ _ _ _ _ _ _ _ _ _ _ _ _ _ _ (.refl _) (by omega) (by omega) (by simp) (by rw [← hf]; exact pre_nil _)⟩
theorem r_fix (H : AHeap) (x : Int) : ACalls prog 63 [i64 x] H (str (fixS x)) H := by
 have hmx : maxFix = 4611686018427387903 := rfl
 have hb : -maxFix ≤ sat x ∧ sat x ≤ maxFix := by unfold sat; omega
 have hss : sat (sat x) = sat x := by unfold sat; omega
 have e : fixS x = (if sat x < 0 then [45] else []) ++ fixU (sat x).natAbs := by
  have := fixS_eq hss
  rw [← this]
  unfold fixS
  rw [hss]
 by_cases h0 : sat x < 0
 · refine acalls_pure MixT func63 (by decide) rfl ?_
   rw [d63]
   refine bndC_of (r_sat H x) ?_
   have hw : IntKind.i64.wrap (0 - sat x) = ((sat x).natAbs : Int) := by rw [wrap_i64 (by omega) (by omega)]; omega
   have hl := fixS_len x
   rw [e,if_pos h0] at hl
   simp only [List.length_append,List.length_cons,List.length_nil] at hl
   have hcat := fun (H : AHeap) x' y => aBin_str (P := prog) (H := H) (T := 9) (x := x') (y := y) (a := [45]) (b := fixU (sat x).natAbs) (by simp; omega)
   simp only [aBin_lss,bnd_some,show decide (sat x < 0) = true by simpa using h0,kifB_true,unV_neg,hw]
   refine bndC_of (r_fixU H (by omega)) ?_
   simp only [hcat,bnd_some]
   rw [e,if_pos h0]
   exact ⟨rfl,[],by simp⟩
 · have hx : sat x = ((sat x).natAbs : Int) := by omega
   by_cases hxx : sat x = x
   · rw [e,if_neg h0,List.nil_append]
     rw [hxx] at hx
     have := r_fixU H (m := (sat x).natAbs) (by omega)
     rw [hxx] at this ⊢
     rw [← hx] at this
     exact this
   · refine acalls_pure MixT func63 (by decide) rfl ?_
     rw [d63]
     refine bndC_of (r_sat H x) ?_
     obtain ⟨m,hm⟩ : ∃ m : Nat,sat x = m := ⟨_,hx⟩
     rw [e,if_neg h0,List.nil_append,hm]
     have hq := fun (H : AHeap) x y => quoL (P := prog) (H := H) (T := 2) (x := x) (y := y) (k := .i64) (a := m) (c := 1000) (n := 1000) rfl (by omega) (wrap_i64 (by omega) (by omega))
     obtain ⟨f,hf⟩ : ∃ f,f = m / 1000 := ⟨_,rfl⟩
     rw [← hf] at hq
     have hneg : ¬ (m : Int) < 0 := by omega
     simp [hneg,hq]
     exact ⟨20 + 2,fixw_loop (H := H) m (by omega) (fun K ⟨X,hX⟩ => ⟨rfl,X,hX⟩) 20 f [] H _ _ _ _ _ _ _ _ _ _ _ _ _ _ _ _ _ _ _ _ _ _ _ _ _ _ _ _ _ _ _ _ _ _ _ _ _ _ _ _ _ _ _ _ _ _ _ _ _ _ _ _ _ _ (.refl _) (by omega) (by omega) (by simp) (by rw [← hf]; exact pre_nil _)⟩
end Go.Vi
namespace Go.Vi
open Go Go.Proofs Go.Proofs.Try
theorem parts_len : ∀ (f : Nat) (s : List UInt8),(partsF f s).1.length ≤ 4097 * f ∧ ∀ t ∈ (partsF f s).1,t.text.length < 2 ^ 50 := by
 intro f
 induction f with
 | zero => intro s; exact ⟨Nat.le_refl _,fun t h => by cases h⟩
 | succ f ih =>
   intro s
   have nil : ∀ e : Int,(([],e) : List Tok × Int).1.length ≤ 4097 * (f + 1) ∧ ∀ t ∈ (([],e) : List Tok × Int).1,t.text.length < 2 ^ 50 := fun e => ⟨Nat.zero_le _,fun t h => by cases h⟩
   rw [partsF]
   split
   · exact nil 0
   · split
     · exact nil 1
     · split
       · exact nil _
       · split
         · exact nil _
         · obtain ⟨h1,h2⟩ := ih (s.drop (partF s false + 1))
           obtain ⟨hnt,hnl⟩ := allTok_ok (l := s.take (partF s false))
           refine ⟨?_,fun t ht => ?_⟩
           · simp only [List.length_append]; omega
           · rcases List.mem_append.1 ht with ht | ht
             · obtain ⟨i,hi⟩ := List.getElem?_of_mem ht
               have := (hnt i t hi).1
               omega
             · exact h2 t ht
theorem parts_err {f : Nat} {s : List UInt8} (h : (partsF f s).2 ≠ 0) : partsF f s = ([],(partsF f s).2) := by
 cases f with
 | zero => exact absurd rfl h
 | succ f =>
   rw [partsF] at h ⊢
   split
   · rfl
   · split
     · rfl
     · split
       · rfl
       · split
         · rfl
         · rename_i h1 h2 h3 h4
           rw [if_neg h1,if_neg h2,if_neg h3,if_neg h4] at h
           exact absurd rfl h
theorem end_loop {K : AHeap} {s : List UInt8} {k : Value → AHeap → Prop} {v : Value} {a n0 E : Nat} (hs : s.length < 2 ^ 40)
  (hstop : ∀ (m : Nat) (q : Bool) (s1 s2 s3 s4 s9 s10 s11 s12 s13 s14 s15 s16 s17 s18 s19 s20 s21 s22 s23 s24 s25 s26 s27 s28 s29 s30 s31 s32 s33 s34 s35 s36 s37 s38 s39 s40 s41 s42 s43 s44 s45 s46 s47 s48 s49 s50 s51 s52 s53 s54 s55 s56 s57 s58 s59 s60 s61 s62 s63 s64 s65 : Value),s.length ≤ E ∨ q = false ∧ s[E]? = some 32 → L65x1 (m + 1) n0 k [str s,s1,s2,s3,s4,v,i64 a,i64 E,.bool q,s9,s10,s11,s12,s13,s14,s15,s16,s17,s18,s19,s20,s21,s22,s23,s24,s25,s26,s27,s28,s29,s30,s31,s32,s33,s34,s35,s36,s37,s38,s39,s40,s41,s42,s43,s44,s45,s46,s47,s48,s49,s50,s51,s52,s53,s54,s55,s56,s57,s58,s59,s60,s61,s62,s63,s64,s65] K) :
  ∀ (n e : Nat) (q : Bool) (s1 s2 s3 s4 s9 s10 s11 s12 s13 s14 s15 s16 s17 s18 s19 s20 s21 s22 s23 s24 s25 s26 s27 s28 s29 s30 s31 s32 s33 s34 s35 s36 s37 s38 s39 s40 s41 s42 s43 s44 s45 s46 s47 s48 s49 s50 s51 s52 s53 s54 s55 s56 s57 s58 s59 s60 s61 s62 s63 s64 s65 : Value),s.length + 1 < n + e → e ≤ s.length + 1 → e + partF (s.drop e) q = E → L65x1 n n0 k [str s,s1,s2,s3,s4,v,i64 a,i64 e,.bool q,s9,s10,s11,s12,s13,s14,s15,s16,s17,s18,s19,s20,s21,s22,s23,s24,s25,s26,s27,s28,s29,s30,s31,s32,s33,s34,s35,s36,s37,s38,s39,s40,s41,s42,s43,s44,s45,s46,s47,s48,s49,s50,s51,s52,s53,s54,s55,s56,s57,s58,s59,s60,s61,s62,s63,s64,s65] K := by
 intro n
 induction n with
 | zero => intro e q s1 s2 s3 s4 s9 s10 s11 s12 s13 s14 s15 s16 s17 s18 s19 s20 s21 s22 s23 s24 s25 s26 s27 s28 s29 s30 s31 s32 s33 s34 s35 s36 s37 s38 s39 s40 s41 s42 s43 s44 s45 s46 s47 s48 s49 s50 s51 s52 s53 s54 s55 s56 s57 s58 s59 s60 s61 s62 s63 s64 s65 h1 h2; omega
 | succ n ih =>
   intro e q s1 s2 s3 s4 s9 s10 s11 s12 s13 s14 s15 s16 s17 s18 s19 s20 s21 s22 s23 s24 s25 s26 s27 s28 s29 s30 s31 s32 s33 s34 s35 s36 s37 s38 s39 s40 s41 s42 s43 s44 s45 s46 s47 s48 s49 s50 s51 s52 s53 s54 s55 s56 s57 s58 s59 s60 s61 s62 s63 s64 s65 h1 h2 hE
   by_cases hlt : e < s.length
   · obtain ⟨b,hb⟩ : ∃ b,s[e]? = some b := ⟨_,List.getElem?_eq_getElem hlt⟩
     rw [drop_at hb,partF_cons] at hE
     have hix := aIndex_at (P := prog) (T := 9) (k := .i64) (by simp) hb
     by_cases hq : q = false ∧ b = 32
     · rw [if_pos hq] at hE
       have : E = e := by omega
       subst this
       exact hstop n q _ _ _ _ _ _ _ _ _ _ _ _ _ _ _ _ _ _ _ _ _ _ _ _ _ _ _ _ _ _ _ _ _ _ _ _ _ _ _ _ _ _ _ _ _ _ _ _ _ _ _ _ _ _ _ _ _ _ _ _ _ (.inr ⟨hq.1,by rw [hb,hq.2]⟩)
     · rw [if_neg hq] at hE
       rw [L65x1q]
       have w1 : IntKind.i64.wrap ((e : Int) + 1) = (e : Int) + 1 := wrap_i64 (by omega) (by omega)
       have w2 : IntKind.i64.wrap ((e : Int) + 1 + 1) = (e : Int) + 1 + 1 := wrap_i64 (by omega) (by omega)
       have step : ∀ (q' : Bool) (s1 s2 s3 s4 s9 s10 s11 s12 s13 s14 s15 s16 s17 s18 s19 s20 s21 s22 s23 s24 s25 s26 s27 s28 s29 s30 s31 s32 s33 s34 s35 s36 s37 s38 s39 s40 s41 s42 s43 s44 s45 s46 s47 s48 s49 s50 s51 s52 s53 s54 s55 s56 s57 s58 s59 s60 s61 s62 s63 s64 s65 : Value),e + 1 + partF (s.drop (e + 1)) q' = E → S65x0 n n0 k [str s,s1,s2,s3,s4,v,i64 a,i64 e,.bool q',s9,s10,s11,s12,s13,s14,s15,s16,s17,s18,s19,s20,s21,s22,s23,s24,s25,s26,s27,s28,s29,s30,s31,s32,s33,s34,s35,s36,s37,s38,s39,s40,s41,s42,s43,s44,s45,s46,s47,s48,s49,s50,s51,s52,s53,s54,s55,s56,s57,s58,s59,s60,s61,s62,s63,s64,s65] K := by
        intro q' s1 s2 s3 s4 s9 s10 s11 s12 s13 s14 s15 s16 s17 s18 s19 s20 s21 s22 s23 s24 s25 s26 s27 s28 s29 s30 s31 s32 s33 s34 s35 s36 s37 s38 s39 s40 s41 s42 s43 s44 s45 s46 s47 s48 s49 s50 s51 s52 s53 s54 s55 s56 s57 s58 s59 s60 s61 s62 s63 s64 s65 hE'
        rw [S65x0q]
        simp [w1]
        exact ih (e + 1) q' _ _ _ _ _ _ _ _ _ _ _ _ _ _ _ _ _ _ _ _ _ _ _ _ _ _ _ _ _ _ _ _ _ _ _ _ _ _ _ _ _ _ _ _ _ _ _ _ _ _ _ _ _ _ _ _ _ _ _ _ _ (by omega) (by omega) hE'
       have step2 : ∀ (q' : Bool) (s1 s2 s3 s4 s9 s10 s11 s12 s13 s14 s15 s16 s17 s18 s19 s20 s21 s22 s23 s24 s25 s26 s27 s28 s29 s30 s31 s32 s33 s34 s35 s36 s37 s38 s39 s40 s41 s42 s43 s44 s45 s46 s47 s48 s49 s50 s51 s52 s53 s54 s55 s56 s57 s58 s59 s60 s61 s62 s63 s64 s65 : Value),e + 1 + 1 + partF (s.drop (e + 1 + 1)) q' = E → S65x0 n n0 k [str s,s1,s2,s3,s4,v,i64 a,i64 ((e : Int) + 1),.bool q',s9,s10,s11,s12,s13,s14,s15,s16,s17,s18,s19,s20,s21,s22,s23,s24,s25,s26,s27,s28,s29,s30,s31,s32,s33,s34,s35,s36,s37,s38,s39,s40,s41,s42,s43,s44,s45,s46,s47,s48,s49,s50,s51,s52,s53,s54,s55,s56,s57,s58,s59,s60,s61,s62,s63,s64,s65] K := by
        intro q' s1 s2 s3 s4 s9 s10 s11 s12 s13 s14 s15 s16 s17 s18 s19 s20 s21 s22 s23 s24 s25 s26 s27 s28 s29 s30 s31 s32 s33 s34 s35 s36 s37 s38 s39 s40 s41 s42 s43 s44 s45 s46 s47 s48 s49 s50 s51 s52 s53 s54 s55 s56 s57 s58 s59 s60 s61 s62 s63 s64 s65 hE'
        rw [S65x0q]
        simp [w2]
        exact ih (e + 1 + 1) q' _ _ _ _ _ _ _ _ _ _ _ _ _ _ _ _ _ _ _ _ _ _ _ _ _ _ _ _ _ _ _ _ _ _ _ _ _ _ _ _ _ _ _ _ _ _ _ _ _ _ _ _ _ _ _ _ _ _ _ _ _ (by omega) (by omega) hE'
       have hc : q = true ∨ q = false ∧ ((b.toNat : Int) != 32) = true := by
        cases q with
        | true => exact .inl rfl
        | false =>
          refine .inr ⟨rfl,?_⟩
          rw [bne_iff_ne]
          intro he
          exact hq ⟨rfl,kind_of (m := 32) (by rw [beq_iff_eq]; exact he)⟩
       by_cases h92 : b = 92
       · rw [if_pos h92,List.drop_drop] at hE
         have hb92 : ((b.toNat : Int) == 92) = true := by rw [h92]; rfl
         have hE2 : e + 1 + 1 + partF (s.drop (e + 1 + 1)) q = E := by omega
         rcases hc with rfl | ⟨rfl,hc⟩
         · simp [hlt,hix,hb92,w1]
           exact step2 true _ _ _ _ _ _ _ _ _ _ _ _ _ _ _ _ _ _ _ _ _ _ _ _ _ _ _ _ _ _ _ _ _ _ _ _ _ _ _ _ _ _ _ _ _ _ _ _ _ _ _ _ _ _ _ _ _ _ _ _ _ hE2
         · simp [hlt,hix,hb92,w1,hc]
           exact step2 false _ _ _ _ _ _ _ _ _ _ _ _ _ _ _ _ _ _ _ _ _ _ _ _ _ _ _ _ _ _ _ _ _ _ _ _ _ _ _ _ _ _ _ _ _ _ _ _ _ _ _ _ _ _ _ _ _ _ _ _ _ hE2
       · rw [if_neg h92] at hE
         have hb92 : ((b.toNat : Int) == 92) = false := by rw [Bool.eq_false_iff]; exact fun e => h92 (kind_of (m := 92) e)
         by_cases h34 : b = 34
         · rw [if_pos h34] at hE
           have hb34 : ((b.toNat : Int) == 34) = true := by rw [h34]; rfl
           have hE2 : e + 1 + partF (s.drop (e + 1)) (!q) = E := by omega
           rcases hc with rfl | ⟨rfl,hc⟩
           · simp [hlt,hix,hb92,hb34]
             exact step false _ _ _ _ _ _ _ _ _ _ _ _ _ _ _ _ _ _ _ _ _ _ _ _ _ _ _ _ _ _ _ _ _ _ _ _ _ _ _ _ _ _ _ _ _ _ _ _ _ _ _ _ _ _ _ _ _ _ _ _ _ hE2
           · simp [hlt,hix,hb92,hb34,hc]
             exact step true _ _ _ _ _ _ _ _ _ _ _ _ _ _ _ _ _ _ _ _ _ _ _ _ _ _ _ _ _ _ _ _ _ _ _ _ _ _ _ _ _ _ _ _ _ _ _ _ _ _ _ _ _ _ _ _ _ _ _ _ _ hE2
         · rw [if_neg h34] at hE
           have hb34 : ((b.toNat : Int) == 34) = false := by rw [Bool.eq_false_iff]; exact fun e => h34 (kind_of (m := 34) e)
           have hE2 : e + 1 + partF (s.drop (e + 1)) q = E := by omega
           rcases hc with rfl | ⟨rfl,hc⟩
           · simp [hlt,hix,hb92,hb34]
             exact step true _ _ _ _ _ _ _ _ _ _ _ _ _ _ _ _ _ _ _ _ _ _ _ _ _ _ _ _ _ _ _ _ _ _ _ _ _ _ _ _ _ _ _ _ _ _ _ _ _ _ _ _ _ _ _ _ _ _ _ _ _ hE2
           · simp [hlt,hix,hb92,hb34,hc]
             exact step false _ _ _ _ _ _ _ _ _ _ _ _ _ _ _ _ _ _ _ _ _ _ _ _ _ _ _ _ _ _ _ _ _ _ _ _ _ _ _ _ _ _ _ _ _ _ _ _ _ _ _ _ _ _ _ _ _ _ _ _ _ hE2
   · rw [List.drop_eq_nil_of_le (by omega)] at hE
     have : E = e := by rw [partF] at hE; omega
     subst this
     exact hstop n q _ _ _ _ _ _ _ _ _ _ _ _ _ _ _ _ _ _ _ _ _ _ _ _ _ _ _ _ _ _ _ _ _ _ _ _ _ _ _ _ _ _ _ _ _ _ _ _ _ _ _ _ _ _ _ _ _ _ _ _ _ (.inl (by omega))
theorem part_le : ∀ (n : Nat) (s : List UInt8) (q : Bool),s.length ≤ n → partF s q ≤ s.length + 1 := by
 intro n
 induction n with
 | zero => intro s q h; obtain rfl := List.eq_nil_of_length_eq_zero (show s.length = 0 by omega); rw [partF]; omega
 | succ n ih =>
   intro s q h
   cases s with
   | nil => rw [partF]; omega
   | cons b r =>
     rw [partF_cons]
     simp only [List.length_cons] at h ⊢
     split
     · omega
     · split
       · cases r with
         | nil => rw [List.drop_nil,partF]; simp
         | cons c r =>
           simp only [List.length_cons] at h ⊢
           have := ih r q (by omega)
           rw [List.drop_succ_cons,List.drop_zero]
           omega
       · split
         · have := ih r (!q) (by omega); omega
         · have := ih r q (by omega); omega
theorem rpt_loop {H : AHeap} {s : List UInt8} {k : Value → AHeap → Prop} {w : List Tok × Int} (hs : s.length ≤ 2 ^ 15) (hk : ∀ v K (T : List RTk) (e : Int),Pre H K → Gro K H.length 4 105 v (T.map rt) → (T.map Prod.fst,e) = w → k (.tuple #[v,i64 0,i64 e]) K) :
  ∀ (n a f : Nat) (acc : List RTk) (v : Value) (K : AHeap) (s1 s2 s3 s4 s7 s8 s9 s10 s11 s12 s13 s14 s15 s16 s17 s18 s19 s20 s21 s22 s23 s24 s25 s26 s27 s28 s29 s30 s31 s32 s33 s34 s35 s36 s37 s38 s39 s40 s41 s42 s43 s44 s45 s46 s47 s48 s49 s50 s51 s52 s53 s54 s55 s56 s57 s58 s59 s60 s61 s62 s63 s64 s65 : Value), s.length + 1 < n + a → a ≤ s.length + 1 → s.length < f + a → acc.length ≤ 4097 * a → Pre H K → Gro K H.length 4 105 v (acc.map rt) →
    w = (if (partsF f (s.drop a)).2 ≠ 0 then ([],(partsF f (s.drop a)).2) else (acc.map Prod.fst ++ (partsF f (s.drop a)).1,0)) → L65x0 n k [str s,s1,s2,s3,s4,v,i64 a,s7,s8,s9,s10,s11,s12,s13,s14,s15,s16,s17,s18,s19,s20,s21,s22,s23,s24,s25,s26,s27,s28,s29,s30,s31,s32,s33,s34,s35,s36,s37,s38,s39,s40,s41,s42,s43,s44,s45,s46,s47,s48,s49,s50,s51,s52,s53,s54,s55,s56,s57,s58,s59,s60,s61,s62,s63,s64,s65] K := by
 intro n
 induction n with
 | zero => intro a f acc v K s1 s2 s3 s4 s7 s8 s9 s10 s11 s12 s13 s14 s15 s16 s17 s18 s19 s20 s21 s22 s23 s24 s25 s26 s27 s28 s29 s30 s31 s32 s33 s34 s35 s36 s37 s38 s39 s40 s41 s42 s43 s44 s45 s46 s47 s48 s49 s50 s51 s52 s53 s54 s55 s56 s57 s58 s59 s60 s61 s62 s63 s64 s65 h1 h2; omega
 | succ n ih =>
   intro a f acc v K s1 s2 s3 s4 s7 s8 s9 s10 s11 s12 s13 s14 s15 s16 s17 s18 s19 s20 s21 s22 s23 s24 s25 s26 s27 s28 s29 s30 s31 s32 s33 s34 s35 s36 s37 s38 s39 s40 s41 s42 s43 s44 s45 s46 s47 s48 s49 s50 s51 s52 s53 s54 s55 s56 s57 s58 s59 s60 s61 s62 s63 s64 s65 h1 h2 hf hac hp hg hr
   by_cases hlt : a < s.length
   · obtain ⟨f,rfl⟩ : ∃ g,f = g + 1 := ⟨f - 1,by omega⟩
     obtain ⟨E,hE⟩ : ∃ E,a + partF (s.drop a) false = E := ⟨_,rfl⟩
     have hne : s.drop a ≠ [] := by
      intro h
      have := congrArg List.length h
      simp at this
      omega
     have hEle : E ≤ s.length + 1 := by
      have := part_le _ (s.drop a) false (Nat.le_refl _)
      rw [List.length_drop] at this
      omega
     have hdE : (s.drop a).drop (partF (s.drop a) false + 1) = s.drop (E + 1) := by rw [List.drop_drop,← hE]; rfl
     rw [partsF,if_neg hne,List.length_drop] at hr
     rw [L65x0q]
     simp [hlt]
     refine ⟨s.length + 2,end_loop (by omega) (E := E) ?_ (s.length + 2) a false _ _ _ _ _ _ _ _ _ _ _ _ _ _ _ _ _ _ _ _ _ _ _ _ _ _ _ _ _ _ _ _ _ _ _ _ _ _ _ _ _ _ _ _ _ _ _ _ _ _ _ _ _ _ _ _ _ _ _ _ _ (by omega) (by omega) hE⟩
     intro m q s1 s2 s3 s4 s9 s10 s11 s12 s13 s14 s15 s16 s17 s18 s19 s20 s21 s22 s23 s24 s25 s26 s27 s28 s29 s30 s31 s32 s33 s34 s35 s36 s37 s38 s39 s40 s41 s42 s43 s44 s45 s46 s47 s48 s49 s50 s51 s52 s53 s54 s55 s56 s57 s58 s59 s60 s61 s62 s63 s64 s65 hst
     have hst' : (E < s.length ∧ q = false ∧ s[E]? = some 32) ∨ ¬ E < s.length := by
      rcases hst with h | ⟨h1,h2⟩
      · exact .inr (by omega)
      · exact .inl ⟨(List.getElem?_eq_some_iff.1 h2).1,h1,h2⟩
     have w1 : IntKind.i64.wrap ((E : Int) + 1) = ((E + 1 : Nat) : Int) := by rw [wrap_i64 (by omega) (by omega)]; omega
     rw [L65x1q]
     by_cases hgt : s.length < E
     · have hEs : ¬ E < s.length := by omega
       rw [if_pos (show s.length - a < partF (s.drop a) false by omega)] at hr
       simp [hEs,hgt]
       exact hk _ _ [] _ hp .nil (by rw [hr]; simp)
     have hsl := aSliceOp_str (P := prog) (H := K) (T := 9) (l := s) (lo := some (i64 a)) (hi := some (i64 E)) (a := a) (b := (E : Int)) (by simp) rfl rfl (by omega) (by omega) (by omega)
     have hpt : (s.take E).drop a = (s.drop a).take (partF (s.drop a) false) := by rw [List.drop_take,show E - a = partF (s.drop a) false by omega]
     simp only [Int.toNat_natCast,hpt] at hsl
     rw [if_neg (show ¬ s.length - a < partF (s.drop a) false by omega)] at hr
     obtain ⟨mv,K2,T,r1,r2,r3,r4⟩ := r_all K ((s.drop a).take (partF (s.drop a) false))
     have hTl : T.length ≤ 4097 := by
      have := (allTok_ok (l := (s.drop a).take (partF (s.drop a) false))).2
      rw [← r4] at this
      simpa using this
     rcases hst' with ⟨hEs,rfl,h32⟩ | hEs
     · have hix := aIndex_at (P := prog) (T := 9) (k := .i64) (by simp) h32
       have h32b : ((UInt8.toNat 32 : Int) != 32) = false := by decide
       simp [hEs,hix,hgt,hsl]
       refine bndC_of r1 ?_
       by_cases he : (allTok ((s.drop a).take (partF (s.drop a) false))).2.2 = 0
       · rw [if_neg (show ¬ (allTok ((s.drop a).take (partF (s.drop a) false))).2.2 ≠ 0 from fun h => h he)] at hr
         simp [he]
         obtain ⟨v',K3,c1,c2,c3,c4,c5⟩ := (hg.pre r2).pushNT (P := prog) (Ts := 90) (by_ := 40) (x := mv) (ds := T.map rt) rtel1 rtel2 (fun c hc => by obtain ⟨t,_,rfl⟩ := List.mem_map.1 hc; rfl) (by obtain ⟨X,rfl⟩ := hp.trans r2; simp) r3.src (by simp; omega) (by simp; omega)
         rw [c1]
         simp [w1]
         refine ih (E + 1) f (acc ++ T) v' K3 _ _ _ _ _ _ _ _ _ _ _ _ _ _ _ _ _ _ _ _ _ _ _ _ _ _ _ _ _ _ _ _ _ _ _ _ _ _ _ _ _ _ _ _ _ _ _ _ _ _ _ _ _ _ _ _ _ _ _ _ _ _ _ (by omega) (by omega) (by omega) (by simp; omega) (c4 _ (hp.trans r2) (Nat.le_refl _)) (by rw [List.map_append]; exact c2) ?_
         rw [hr,hdE]
         by_cases h2 : (partsF f (s.drop (E + 1))).2 = 0
         · simp [h2,r4]
         · simp [h2]
       · have hne2 : ((allTok ((s.drop a).take (partF (s.drop a) false))).2.2 != 0) = true := by simpa using he
         rw [if_pos he] at hr
         simp [hne2]
         exact hk _ _ [] _ (hp.trans r2) .nil (by rw [hr]; simp [he])
     · simp [hEs,hgt,hsl]
       refine bndC_of r1 ?_
       by_cases he : (allTok ((s.drop a).take (partF (s.drop a) false))).2.2 = 0
       · rw [if_neg (show ¬ (allTok ((s.drop a).take (partF (s.drop a) false))).2.2 ≠ 0 from fun h => h he)] at hr
         simp [he]
         obtain ⟨v',K3,c1,c2,c3,c4,c5⟩ := (hg.pre r2).pushNT (P := prog) (Ts := 90) (by_ := 40) (x := mv) (ds := T.map rt) rtel1 rtel2 (fun c hc => by obtain ⟨t,_,rfl⟩ := List.mem_map.1 hc; rfl) (by obtain ⟨X,rfl⟩ := hp.trans r2; simp) r3.src (by simp; omega) (by simp; omega)
         rw [c1]
         simp [w1]
         refine ih (E + 1) f (acc ++ T) v' K3 _ _ _ _ _ _ _ _ _ _ _ _ _ _ _ _ _ _ _ _ _ _ _ _ _ _ _ _ _ _ _ _ _ _ _ _ _ _ _ _ _ _ _ _ _ _ _ _ _ _ _ _ _ _ _ _ _ _ _ _ _ _ _ (by omega) (by omega) (by omega) (by simp; omega) (c4 _ (hp.trans r2) (Nat.le_refl _)) (by rw [List.map_append]; exact c2) ?_
         rw [hr,hdE]
         by_cases h2 : (partsF f (s.drop (E + 1))).2 = 0
         · simp [h2,r4]
         · simp [h2]
       · have hne2 : ((allTok ((s.drop a).take (partF (s.drop a) false))).2.2 != 0) = true := by simpa using he
         rw [if_pos he] at hr
         simp [hne2]
         exact hk _ _ [] _ (hp.trans r2) .nil (by rw [hr]; simp [he])
   · have hf0 : partsF f (s.drop a) = ([],0) := by
      rw [List.drop_eq_nil_of_le (by omega)]
      cases f with
      | zero => rfl
      | succ f => rw [partsF,if_pos rfl]
     rw [hf0] at hr
     rw [L65x0q]
     simp [hlt]
     exact hk _ _ acc _ hp hg (by rw [hr]; simp)
theorem r_allTokens (H : AHeap) {s : List UInt8} (hs : s.length ≤ 2 ^ 15) : ∃ v K,∃ T : List RTk,ACalls prog 65 [str s] H (.tuple #[v,i64 0,i64 (partsF (s.length + 1) s).2]) K ∧ Pre H K ∧ Gro K H.length 4 105 v (T.map rt) ∧ T.map Prod.fst = (partsF (s.length + 1) s).1 := by
 have key : ∃ u K,(∃ v,∃ T : List RTk,u = .tuple #[v,i64 0,i64 (partsF (s.length + 1) s).2] ∧ Pre H K ∧ Gro K H.length 4 105 v (T.map rt) ∧ T.map Prod.fst = (partsF (s.length + 1) s).1) ∧ ACalls prog 65 [str s] H u K := by
  refine acalls_ex MixT func65 (by decide) ?_
  rw [d65]
  refine ⟨s.length + 2,rpt_loop (H := H) (w := partsF (s.length + 1) s) hs ?_ (s.length + 2) 0 (s.length + 1) [] (.slice none 0 0) H _ _ _ _ _ _ _ _ _ _ _ _ _ _ _ _ _ _ _ _ _ _ _ _ _ _ _ _ _ _ _ _ _ _ _ _ _ _ _ _ _ _ _ _ _ _ _ _ _ _ _ _ _ _ _ _ _ _ _ _ _ _ _ (by omega) (by omega) (by omega) (by simp) (.refl _) .nil ?_⟩
  · intro v K T e g1 g2 g3
    rw [← g3]
    exact ⟨v,T,rfl,g1,g2,rfl⟩
  · rw [List.drop_zero]
    by_cases h : (partsF (s.length + 1) s).2 = 0
    · rw [if_neg (by simpa using h)]
      simp [← h]
    · rw [if_pos h]
      rw [parts_err h]
 obtain ⟨u,K,⟨v,T,rfl,g1,g2,g3⟩,g4⟩ := key
 exact ⟨v,K,T,g4,g1,g2,g3⟩
end Go.Vi
namespace Go.Vi
open Go Go.Proofs Go.Proofs.Try
theorem selS_len {ms : List Mat} (h : ∀ m ∈ ms,m.tame) : (selS ms).length ≤ 2 + (2 ^ 22 + 1) * ms.length := by
 have key : ∀ (r : List Mat) (i : Nat),(∀ m ∈ r,m.tame) → (moreS i r).length ≤ 1 + (2 ^ 22 + 1) * r.length := by
  intro r
  induction r with
  | nil => intro i _; unfold moreS; split <;> simp [joinS]
  | cons m r ih =>
    intro i h
    have h1 := matS_len2 (h m (by simp))
    have h2 := ih (i + 1) (fun x hx => h x (by simp [hx]))
    have h3 : (if 0 < i then [44] else ([] : List UInt8)).length ≤ 1 := by split <;> simp
    rw [moreS_cons,List.length_append,List.length_append,List.length_cons]
    omega
 have := key ms 0 h
 have e : selS ms = 123 :: moreS 0 ms := by simp [moreS,selS]
 rw [e,List.length_cons]
 omega
theorem decR_len {x : Int} (h : x < 2 ^ 63) : (decR x).length ≤ 20 := by
 unfold decR
 split
 · simp
 · exact natS_len (by omega)
def txl (ns : List Nod) (i : Nat) : List (List UInt8) := (List.range ns.length).map fun j => if j < i then txtR ns (j + 1) j 0 else []
theorem txl_len (ns : List Nod) (i : Nat) : (txl ns i).length = ns.length := by simp [txl]
theorem txl_get {ns : List Nod} {i j : Nat} (hj : j < ns.length) (hi : j < i) : (txl ns i)[j]? = some (txtR ns (j + 1) j 0) := by
 unfold txl
 rw [List.getElem?_map,List.getElem?_range hj]
 simp [hi]
theorem txl_set (ns : List Nod) (i : Nat) : (txl ns i).set i (txtR ns (i + 1) i 0) = txl ns (i + 1) := by
 apply List.ext_getElem?
 intro j
 rw [List.getElem?_set]
 by_cases hj : j < ns.length
 · by_cases he : i = j
   · subst he
     rw [if_pos rfl,if_pos (by rw [txl_len]; exact hj),txl_get hj (by omega)]
   · rw [if_neg he]
     unfold txl
     rw [List.getElem?_map,List.getElem?_map,List.getElem?_range hj]
     by_cases h1 : j < i
     · simp [h1,show j < i + 1 by omega]
     · simp [h1,show ¬ j < i + 1 by omega]
 · rw [List.getElem?_eq_none (l := txl ns (i + 1)) (by rw [txl_len]; omega),List.getElem?_eq_none (l := txl ns i) (by rw [txl_len]; omega)]
   split
   · rw [txl_len]
     rename_i he
     rw [if_neg (by omega)]
   · rfl
theorem row_put {K : AHeap} {b i : Nat} {l : List (List UInt8)} {s : List UInt8} {T : TypeId} (hb : K[b]? = some (.cells (l.map str) T)) (hi : i < l.length) :
  ∃ p,aIndexAddr prog K 23 (.slice (some ⟨b,0,some l.length⟩) l.length l.length) (i64 i) = some p ∧ aStore prog K 9 p (str s) = some (K.set b (.cells ((l.set i s).map str) T)) := by
 have hc : hcells K b = some (l.map str) := by simp [hcells,hb]
 have hl : hlen K b = some l.length := by rw [hcells_len hc]; simp
 refine ⟨.pointer (some ⟨b,i,some l.length⟩),?_,?_⟩
 · rw [aIndexAddr_sl]
   simp [hl,slElem]
   omega
 · simp [hb,List.map_set]
   omega
theorem r_side {M : AHeap} {v : Value} {b i : Nat} {l : List (List UInt8)} {t : List UInt8} (c : Bool) (hb : hcells M b = some (l.map str)) (hi : l[i]? = some t) (ht : t.length ≤ 2 ^ 40) :
  ACalls prog 64 [v,.slice (some ⟨b,0,some l.length⟩) l.length l.length,i64 i,.bool c] M (str (if c = true then [40] ++ t ++ [41] else t)) M := by
 refine acalls_pure MixT func64 (by decide) rfl ?_
 rw [d64]
 obtain ⟨p,h1,h2⟩ := row_str (k := .i64) hb hi
 have c1 : ∀ X Y,aBin2 prog M .add 9 X Y (.string ⟨#[40]⟩) (str t) = some (str (40 :: t)) := fun X Y => aBin_str (a := [40]) (b := t) (by simp; omega)
 have c2 : ∀ X Y,aBin2 prog M .add 9 X Y (str (40 :: t)) (.string ⟨#[41]⟩) = some (str (40 :: t ++ [41])) := fun X Y => aBin_str (a := 40 :: t) (b := [41]) (by simp; omega)
 cases c
 · simp [h1,h2]
 · simp [h1,h2,c1,c2]
theorem side_txt {ns : List Nod} (hfit : ∀ (j : Nat) n,ns[j]? = some n → fitN j n) {i l : Nat} {m : Nod} (hl : l < i) (hm : ns[l]? = some m) (least : Int) :
  txtR ns i l least = if strongI m.kind < least then [40] ++ txtR ns (l + 1) l 0 ++ [41] else txtR ns (l + 1) l 0 := by
 rw [fit_txt hfit l i (l + 1) least hl (by omega)]
 have hs := strong_nn m.kind
 rw [txtR,txtR,hm]
 simp only
 rw [if_neg (show ¬ strongI m.kind < 0 by omega)]
theorem kind_of3 {k : UInt8} (h : k.toNat ≤ 3) : k = 0 ∨ k = 1 ∨ k = 2 ∨ k = 3 := by
 have : ∀ n,n ≤ 3 → UInt8.ofNat n = 0 ∨ UInt8.ofNat n = 1 ∨ UInt8.ofNat n = 2 ∨ UInt8.ofNat n = 3 := by decide
 have := this k.toNat h
 simpa using this
structure PrOk (ns : List Nod) : Prop where
 win : ∀ n ∈ ns,n.window < 2 ^ 63
 sel : ∀ n ∈ ns,n.sel.length ≤ 2 ^ 20
 tame : ∀ n ∈ ns,∀ m ∈ n.sel,m.tame
theorem refP_long {ns : List Nod} (h1 : 1 ≤ ns.length) (h31 : ns.length ≤ 31) (hfit : ∀ (j : Nat) n,ns[j]? = some n → fitN j n) {i : Nat} (hi : i < ns.length) (hl : 20000 < (txtR ns (i + 1) i 0).length) : refP ns = [] := by
 unfold refP
 rw [if_neg (by omega),if_neg (fun h => h hfit),if_pos ⟨i,hi,hl⟩]
theorem refP_end {ns : List Nod} (h1 : 1 ≤ ns.length) (h31 : ns.length ≤ 31) (hfit : ∀ (j : Nat) n,ns[j]? = some n → fitN j n) (hs : ∀ i,i < ns.length → (txtR ns (i + 1) i 0).length ≤ 20000) {s : List UInt8} (he : txtR ns ns.length (ns.length - 1) 0 = s) :
  refP ns = if (partsF (s.length + 1) s).2 = 0 ∧ conO (partsF (s.length + 1) s).1 0 = some (ns,(partsF (s.length + 1) s).1.length) then s else [] := by
 unfold refP
 rw [if_neg (by omega),if_neg (fun h => h hfit),if_neg (by rintro ⟨i,hi,hl⟩; have := hs i hi; omega),he]
 by_cases h : (partsF (s.length + 1) s).2 = 0 ∧ conO (partsF (s.length + 1) s).1 0 = some (ns,(partsF (s.length + 1) s).1.length)
 · rw [if_pos h,if_pos h]
 · rw [if_neg h,if_neg h]
theorem NL.sel {K lo v ns} (h : NL K lo v ns) : ∀ n ∈ ns,n.sel.length < 2 ^ 63 := by
 obtain ⟨cl,h1,h2,h3⟩ := h
 intro n hn
 obtain ⟨i,hi⟩ := List.getElem?_of_mem hn
 obtain ⟨_,_,_,q⟩ := h3 i n hi
 omega
end Go.Vi
namespace Go.Vi
open Go Go.Proofs Go.Proofs.Try
section
variable {H : AHeap} {v : Value} {ns : List Nod} {k : Value → AHeap → Prop} {bb : Nat}
theorem txt_end (hn : NodesAt H v ns) (h1 : 1 ≤ ns.length) (h31 : ns.length ≤ 31) (hfit : ∀ (j : Nat) n,ns[j]? = some n → fitN j n) (hk : ∀ K,Pre H K → k (str (refP ns)) K) (m : Nat) (M : AHeap) (s1 s2 s3 s4 s7 s8 s9 s10 s11 s12 s13 s14 s15 s16 s17 s18 s19 s20 s21 s22 s23 s24 s25 s26 s27 s28 s29 s30 s31 s32 s33 s34 s35 s36 s37 s38 s39 s40 s41 s42 s43 s44 s45 s46 s47 s48 s49 s50 s51 s52 s53 s54 s55 s56 s57 s58 s59 s60 s61 s62 s63 s64 s65 s66 s67 s68 s69 s70 s71 s72 s73 s74 s75 s76 s77 s78 s79 s80 s81 s82 s83 s84 s85 s86 s87 s88 s89 s90 s91 s92 s93 s94 s95 s96 s97 s98 s99 s100 s101 s102 s103 s104 s105 s106 s107 s108 s109 s110 s111 s112 s113 s114 s115 s116 s117 s118 s119 s120 s121 s122 s123 s124 s125 s126 s127 s128 s129 s130 s131 s132 s133 s134 s135 s136 s137 s138 s139 s140 s141 s142 s143 s144 s145 s146 s147 s148 s149 s150 s151 s152 s153 s154 s155 s156 s157 s158 s159 s160 s161 s162 s163 s164 s165 s166 s167 s168 s169 s170 s171 s172 s173 s174 s175 s176 s177 s178 s179 s180 s181 s182 s183 s184 s185 s186 s187 s188 s189 s190 s191 s192 s193 s194 s195 s196 s197 s198 s199 s200 s201 s202 s203 s204 s205 s206 s207 s208 s209 s210 s211 s212 s213 s214 s215 s216 s217 s218 s219 s220 s221 s222 s223 s224 s225 s226 s227 s228 s229 s230 s231 s232 s233 s234 s235 s236 s237 s238 s239 s240 s241 s242 s243 s244 s245 s246 s247 s248 s249 s250 s251 s252 s253 s254 s255 : Value) (hp : Pre H M)
  (hb : M[bb]? = some (.cells ((txl ns ns.length).map str) 9)) (hs : ∀ i,i < ns.length → (txtR ns (i + 1) i 0).length ≤ 20000) :
  L54x1 (m + 1) k [v,s1,s2,s3,s4,.slice (some ⟨bb,0,some ns.length⟩) ns.length ns.length,i64 ns.length,s7,s8,s9,s10,s11,s12,s13,s14,s15,s16,s17,s18,s19,s20,s21,s22,s23,s24,s25,s26,s27,s28,s29,s30,s31,s32,s33,s34,s35,s36,s37,s38,s39,s40,s41,s42,s43,s44,s45,s46,s47,s48,s49,s50,s51,s52,s53,s54,s55,s56,s57,s58,s59,s60,s61,s62,s63,s64,s65,s66,s67,s68,s69,s70,s71,s72,s73,s74,s75,s76,s77,s78,s79,s80,s81,s82,s83,s84,s85,s86,s87,s88,s89,s90,s91,s92,s93,s94,s95,s96,s97,s98,s99,s100,s101,s102,s103,s104,s105,s106,s107,s108,s109,s110,s111,s112,s113,s114,s115,s116,s117,s118,s119,s120,s121,s122,s123,s124,s125,s126,s127,s128,s129,s130,s131,s132,s133,s134,s135,s136,s137,s138,s139,s140,s141,s142,s143,s144,s145,s146,s147,s148,s149,s150,s151,s152,s153,s154,s155,s156,s157,s158,s159,s160,s161,s162,s163,s164,s165,s166,s167,s168,s169,s170,s171,s172,s173,s174,s175,s176,s177,s178,s179,s180,s181,s182,s183,s184,s185,s186,s187,s188,s189,s190,s191,s192,s193,s194,s195,s196,s197,s198,s199,s200,s201,s202,s203,s204,s205,s206,s207,s208,s209,s210,s211,s212,s213,s214,s215,s216,s217,s218,s219,s220,s221,s222,s223,s224,s225,s226,s227,s228,s229,s230,s231,s232,s233,s234,s235,s236,s237,s238,s239,s240,s241,s242,s243,s244,s245,s246,s247,s248,s249,s250,s251,s252,s253,s254,s255] M := by
 have hlen := fun J => (hn.pre hp).len J
 obtain ⟨s,he⟩ : ∃ s,txtR ns ns.length (ns.length - 1) 0 = s := ⟨_,rfl⟩
 have hR := refP_end h1 h31 hfit hs he
 have hsl : s.length ≤ 20000 := by
  have := hs (ns.length - 1) (by omega)
  rw [show ns.length - 1 + 1 = ns.length by omega,he] at this
  exact this
 have hget : (txl ns ns.length)[ns.length - 1]? = some s := by
  rw [txl_get (by omega) (by omega),show ns.length - 1 + 1 = ns.length by omega,he]
 have hc : hcells M bb = some ((txl ns ns.length).map str) := by simp [hcells,hb]
 obtain ⟨p,p1,p2⟩ := row_str (k := .i64) hc hget
 rw [txl_len] at p1
 have hw : IntKind.i64.wrap ((ns.length : Int) - 1) = ((ns.length - 1 : Nat) : Int) := by rw [wrap_i64 (by omega) (by omega)]; omega
 obtain ⟨mv,K2,T,r1,r2,r3,r4⟩ := r_allTokens M (s := s) (by omega)
 obtain ⟨q1,q2⟩ := parts_len (s.length + 1) s
 obtain ⟨w,hw2⟩ : ∃ w,partsF (s.length + 1) s = w := ⟨_,rfl⟩
 rw [hw2] at hR r1 r4 q1 q2
 have hTl : T.length = w.1.length := by rw [← r4]; simp
 have hTA : RTA K2 mv T := ⟨r3.arr,by omega⟩
 obtain ⟨u,K4,⟨wv,next,out,rfl,c1,c2,c3,c4⟩,hcon⟩ := r_condition (K := K2) (a := 0) hTA (by omega) (fun p hp => q2 p.1 (by rw [← r4]; exact List.mem_map_of_mem hp)) (by omega)
 rw [r4] at c4
 have hml : ∀ J,aLen prog J 90 mv = some (i64 T.length) := fun J => by
  have := r3.arr.len' (K := J) (P := prog) (T := 90) (e := 105) (by simp)
  simpa using this
 have hpK := (hp.trans r2).trans c1
 rw [L54x1q]
 simp [hlen,hw,p1,p2]
 refine bndC_of r1 ?_
 simp
 refine bndC_of hcon ?_
 by_cases he0 : w.2 = 0
 · have hnone : conO w.1 0 ≠ some (ns,w.1.length) → k (str []) K4 := by
    intro h
    rw [if_neg (fun q => h q.2)] at hR
    rw [← hR]
    exact hk K4 hpK
   by_cases hnx : next = T.length
   · have hb' : (next != (T.length : Int)) = false := by simp [hnx]
     simp [he0,hml,hb']
     refine bndG_call (.bool (decide (out = ns))) (fun _ => r_sameN c2.nodes (hn.pre hpK) (by omega) c2.sel) ?_
     cases hco : conO w.1 0 with
     | none =>
       rw [hco] at c4
       simp only at c4
       omega
     | some p =>
       rw [hco] at c4
       simp only at c4
       obtain ⟨g1,g2⟩ := c4
       rw [List.nil_append] at g1
       by_cases hon : out = ns
       · have : conO w.1 0 = some (ns,w.1.length) := by
          rw [hco]; obtain ⟨a,b⟩ := p; simp only at g1 g2; rw [g1,hon]; congr 2; omega
         rw [if_pos ⟨he0,this⟩] at hR
         simp [hon]
         rw [← hR]
         exact hk K4 hpK
       · simp [hon]
         refine hnone ?_
         rw [hco]
         intro e
         cases e
         exact hon g1.symm
   · have hb' : (next != (T.length : Int)) = true := by simp [hnx]
     simp [he0,hml,hb']
     refine hnone ?_
     intro e
     rw [e] at c4
     simp only at c4
     omega
 · have hb' : (w.2 != 0) = true := by simpa using he0
   rw [if_neg (fun q => he0 q.1)] at hR
   simp [hb']
   rw [← hR]
   exact hk K4 hpK
end
end Go.Vi
namespace Go.Vi
open Go Go.Proofs Go.Proofs.Try
section
variable {H : AHeap} {v : Value} {ns : List Nod} {k : Value → AHeap → Prop} {bb : Nat}
set_option maxHeartbeats 4000000 in
set_option maxRecDepth 20000 in
theorem txt_loop (hn : NodesAt H v ns) (h1 : 1 ≤ ns.length) (h31 : ns.length ≤ 31) (hok : PrOk ns) (hfit : ∀ (j : Nat) n,ns[j]? = some n → fitN j n) (hbb : H.length ≤ bb) (hk : ∀ K,Pre H K → k (str (refP ns)) K) :
  ∀ (d i : Nat) (M : AHeap) (s1 s2 s3 s4 s7 s8 s9 s10 s11 s12 s13 s14 s15 s16 s17 s18 s19 s20 s21 s22 s23 s24 s25 s26 s27 s28 s29 s30 s31 s32 s33 s34 s35 s36 s37 s38 s39 s40 s41 s42 s43 s44 s45 s46 s47 s48 s49 s50 s51 s52 s53 s54 s55 s56 s57 s58 s59 s60 s61 s62 s63 s64 s65 s66 s67 s68 s69 s70 s71 s72 s73 s74 s75 s76 s77 s78 s79 s80 s81 s82 s83 s84 s85 s86 s87 s88 s89 s90 s91 s92 s93 s94 s95 s96 s97 s98 s99 s100 s101 s102 s103 s104 s105 s106 s107 s108 s109 s110 s111 s112 s113 s114 s115 s116 s117 s118 s119 s120 s121 s122 s123 s124 s125 s126 s127 s128 s129 s130 s131 s132 s133 s134 s135 s136 s137 s138 s139 s140 s141 s142 s143 s144 s145 s146 s147 s148 s149 s150 s151 s152 s153 s154 s155 s156 s157 s158 s159 s160 s161 s162 s163 s164 s165 s166 s167 s168 s169 s170 s171 s172 s173 s174 s175 s176 s177 s178 s179 s180 s181 s182 s183 s184 s185 s186 s187 s188 s189 s190 s191 s192 s193 s194 s195 s196 s197 s198 s199 s200 s201 s202 s203 s204 s205 s206 s207 s208 s209 s210 s211 s212 s213 s214 s215 s216 s217 s218 s219 s220 s221 s222 s223 s224 s225 s226 s227 s228 s229 s230 s231 s232 s233 s234 s235 s236 s237 s238 s239 s240 s241 s242 s243 s244 s245 s246 s247 s248 s249 s250 s251 s252 s253 s254 s255 : Value), d + i = ns.length → Pre H M → M[bb]? = some (.cells ((txl ns i).map str) 9) → (∀ j, j < i → (txtR ns (j + 1) j 0).length ≤ 20000) →
    L54x1 (d + 1) k [v,s1,s2,s3,s4,.slice (some ⟨bb,0,some ns.length⟩) ns.length ns.length,i64 i,s7,s8,s9,s10,s11,s12,s13,s14,s15,s16,s17,s18,s19,s20,s21,s22,s23,s24,s25,s26,s27,s28,s29,s30,s31,s32,s33,s34,s35,s36,s37,s38,s39,s40,s41,s42,s43,s44,s45,s46,s47,s48,s49,s50,s51,s52,s53,s54,s55,s56,s57,s58,s59,s60,s61,s62,s63,s64,s65,s66,s67,s68,s69,s70,s71,s72,s73,s74,s75,s76,s77,s78,s79,s80,s81,s82,s83,s84,s85,s86,s87,s88,s89,s90,s91,s92,s93,s94,s95,s96,s97,s98,s99,s100,s101,s102,s103,s104,s105,s106,s107,s108,s109,s110,s111,s112,s113,s114,s115,s116,s117,s118,s119,s120,s121,s122,s123,s124,s125,s126,s127,s128,s129,s130,s131,s132,s133,s134,s135,s136,s137,s138,s139,s140,s141,s142,s143,s144,s145,s146,s147,s148,s149,s150,s151,s152,s153,s154,s155,s156,s157,s158,s159,s160,s161,s162,s163,s164,s165,s166,s167,s168,s169,s170,s171,s172,s173,s174,s175,s176,s177,s178,s179,s180,s181,s182,s183,s184,s185,s186,s187,s188,s189,s190,s191,s192,s193,s194,s195,s196,s197,s198,s199,s200,s201,s202,s203,s204,s205,s206,s207,s208,s209,s210,s211,s212,s213,s214,s215,s216,s217,s218,s219,s220,s221,s222,s223,s224,s225,s226,s227,s228,s229,s230,s231,s232,s233,s234,s235,s236,s237,s238,s239,s240,s241,s242,s243,s244,s245,s246,s247,s248,s249,s250,s251,s252,s253,s254,s255] M := by
 intro d
 induction d with
 | zero =>
   intro i M s1 s2 s3 s4 s7 s8 s9 s10 s11 s12 s13 s14 s15 s16 s17 s18 s19 s20 s21 s22 s23 s24 s25 s26 s27 s28 s29 s30 s31 s32 s33 s34 s35 s36 s37 s38 s39 s40 s41 s42 s43 s44 s45 s46 s47 s48 s49 s50 s51 s52 s53 s54 s55 s56 s57 s58 s59 s60 s61 s62 s63 s64 s65 s66 s67 s68 s69 s70 s71 s72 s73 s74 s75 s76 s77 s78 s79 s80 s81 s82 s83 s84 s85 s86 s87 s88 s89 s90 s91 s92 s93 s94 s95 s96 s97 s98 s99 s100 s101 s102 s103 s104 s105 s106 s107 s108 s109 s110 s111 s112 s113 s114 s115 s116 s117 s118 s119 s120 s121 s122 s123 s124 s125 s126 s127 s128 s129 s130 s131 s132 s133 s134 s135 s136 s137 s138 s139 s140 s141 s142 s143 s144 s145 s146 s147 s148 s149 s150 s151 s152 s153 s154 s155 s156 s157 s158 s159 s160 s161 s162 s163 s164 s165 s166 s167 s168 s169 s170 s171 s172 s173 s174 s175 s176 s177 s178 s179 s180 s181 s182 s183 s184 s185 s186 s187 s188 s189 s190 s191 s192 s193 s194 s195 s196 s197 s198 s199 s200 s201 s202 s203 s204 s205 s206 s207 s208 s209 s210 s211 s212 s213 s214 s215 s216 s217 s218 s219 s220 s221 s222 s223 s224 s225 s226 s227 s228 s229 s230 s231 s232 s233 s234 s235 s236 s237 s238 s239 s240 s241 s242 s243 s244 s245 s246 s247 s248 s249 s250 s251 s252 s253 s254 s255 hi hp hb hs
   obtain rfl : i = ns.length := by omega
   exact txt_end hn h1 h31 hfit hk 0 M _ _ _ _ _ _ _ _ _ _ _ _ _ _ _ _ _ _ _ _ _ _ _ _ _ _ _ _ _ _ _ _ _ _ _ _ _ _ _ _ _ _ _ _ _ _ _ _ _ _ _ _ _ _ _ _ _ _ _ _ _ _ _ _ _ _ _ _ _ _ _ _ _ _ _ _ _ _ _ _ _ _ _ _ _ _ _ _ _ _ _ _ _ _ _ _ _ _ _ _ _ _ _ _ _ _ _ _ _ _ _ _ _ _ _ _ _ _ _ _ _ _ _ _ _ _ _ _ _ _ _ _ _ _ _ _ _ _ _ _ _ _ _ _ _ _ _ _ _ _ _ _ _ _ _ _ _ _ _ _ _ _ _ _ _ _ _ _ _ _ _ _ _ _ _ _ _ _ _ _ _ _ _ _ _ _ _ _ _ _ _ _ _ _ _ _ _ _ _ _ _ _ _ _ _ _ _ _ _ _ _ _ _ _ _ _ _ _ _ _ _ _ _ _ _ _ _ _ _ _ _ _ _ _ _ _ _ _ _ _ _ _ _ _ _ _ _ _ _ _ _ _ _ hp hb hs
 | succ d ih =>
   intro i M s1 s2 s3 s4 s7 s8 s9 s10 s11 s12 s13 s14 s15 s16 s17 s18 s19 s20 s21 s22 s23 s24 s25 s26 s27 s28 s29 s30 s31 s32 s33 s34 s35 s36 s37 s38 s39 s40 s41 s42 s43 s44 s45 s46 s47 s48 s49 s50 s51 s52 s53 s54 s55 s56 s57 s58 s59 s60 s61 s62 s63 s64 s65 s66 s67 s68 s69 s70 s71 s72 s73 s74 s75 s76 s77 s78 s79 s80 s81 s82 s83 s84 s85 s86 s87 s88 s89 s90 s91 s92 s93 s94 s95 s96 s97 s98 s99 s100 s101 s102 s103 s104 s105 s106 s107 s108 s109 s110 s111 s112 s113 s114 s115 s116 s117 s118 s119 s120 s121 s122 s123 s124 s125 s126 s127 s128 s129 s130 s131 s132 s133 s134 s135 s136 s137 s138 s139 s140 s141 s142 s143 s144 s145 s146 s147 s148 s149 s150 s151 s152 s153 s154 s155 s156 s157 s158 s159 s160 s161 s162 s163 s164 s165 s166 s167 s168 s169 s170 s171 s172 s173 s174 s175 s176 s177 s178 s179 s180 s181 s182 s183 s184 s185 s186 s187 s188 s189 s190 s191 s192 s193 s194 s195 s196 s197 s198 s199 s200 s201 s202 s203 s204 s205 s206 s207 s208 s209 s210 s211 s212 s213 s214 s215 s216 s217 s218 s219 s220 s221 s222 s223 s224 s225 s226 s227 s228 s229 s230 s231 s232 s233 s234 s235 s236 s237 s238 s239 s240 s241 s242 s243 s244 s245 s246 s247 s248 s249 s250 s251 s252 s253 s254 s255 hi hp hb hs
   have hlt : i < ns.length := by omega
   obtain ⟨n,hnd⟩ : ∃ n,ns[i]? = some n := ⟨_,List.getElem?_eq_getElem hlt⟩
   have hmem : n ∈ ns := List.mem_of_getElem? hnd
   obtain ⟨f1,f2,f3⟩ := hfit i n hnd
   have hlen := fun J => (hn.pre hp).len J
   obtain ⟨cl,ha,hcl,hc⟩ := hn.pre hp
   obtain ⟨sv,hsv,hm,hml⟩ := hc _ _ hnd
   obtain ⟨p,hp1,hp2⟩ := ha.load (P := prog) (T := 22) (te := 50) (i := i) (e := n.cells sv) (by simp) (by simp) (by simp) hsv
   have hone := hm.one
   have hcM : hcells (M ++ [.cells (n.cells sv) 50]) M.length = some (n.cells sv) := by simp
   have hpM : Pre M (M ++ [.cells (n.cells sv) 50]) := .app _ _
   -- what follows once the text is laid
   have fin : ∀ (M2 : AHeap) (s1 s2 s3 s4 s7 s8 s9 s10 s11 s12 s13 s14 s15 s16 s17 s18 s19 s20 s21 s22 s23 s24 s25 s26 s27 s28 s29 s30 s31 s32 s33 s34 s35 s36 s37 s38 s39 s40 s41 s42 s43 s44 s45 s46 s47 s48 s49 s50 s51 s52 s53 s54 s55 s56 s57 s58 s59 s60 s61 s62 s63 s64 s65 s66 s67 s68 s69 s70 s71 s72 s73 s74 s75 s76 s77 s78 s79 s80 s81 s82 s83 s84 s85 s86 s87 s88 s89 s90 s91 s92 s93 s94 s95 s96 s97 s98 s99 s100 s101 s102 s103 s104 s105 s106 s107 s108 s109 s110 s111 s112 s113 s114 s115 s116 s117 s118 s119 s120 s121 s122 s123 s124 s125 s126 s127 s128 s129 s130 s131 s132 s133 s134 s135 s136 s137 s138 s139 s140 s141 s142 s143 s144 s145 s146 s147 s148 s149 s150 s151 s152 s153 s154 s155 s156 s157 s158 s159 s160 s161 s162 s163 s164 s165 s166 s167 s168 s169 s170 s171 s172 s173 s174 s175 s176 s177 s178 s179 s180 s181 s182 s183 s184 s185 s186 s187 s188 s189 s190 s191 s192 s193 s194 s195 s196 s197 s198 s199 s200 s201 s202 s203 s204 s205 s206 s207 s208 s209 s210 s211 s212 s213 s214 s215 s216 s217 s218 s219 s220 s221 s222 s223 s224 s225 s226 s227 s228 s229 s230 s231 s232 s233 s234 s235 s236 s237 s238 s239 s240 s241 s242 s243 s244 s245 s246 s247 s248 s249 s250 s251 s252 s253 s254 s255 : Value),Pre H M2 → M2[bb]? = some (.cells ((txl ns (i + 1)).map str) 9) → S54x0 (d + 1) k [v,s1,s2,s3,s4,.slice (some ⟨bb,0,some ns.length⟩) ns.length ns.length,i64 i,s7,s8,s9,s10,s11,s12,s13,s14,s15,s16,s17,s18,s19,s20,s21,s22,s23,s24,s25,s26,s27,s28,s29,s30,s31,s32,s33,s34,s35,s36,s37,s38,s39,s40,s41,s42,s43,s44,s45,s46,s47,s48,s49,s50,s51,s52,s53,s54,s55,s56,s57,s58,s59,s60,s61,s62,s63,s64,s65,s66,s67,s68,s69,s70,s71,s72,s73,s74,s75,s76,s77,s78,s79,s80,s81,s82,s83,s84,s85,s86,s87,s88,s89,s90,s91,s92,s93,s94,s95,s96,s97,s98,s99,s100,s101,s102,s103,s104,s105,s106,s107,s108,s109,s110,s111,s112,s113,s114,s115,s116,s117,s118,s119,s120,s121,s122,s123,s124,s125,s126,s127,s128,s129,s130,s131,s132,s133,s134,s135,s136,s137,s138,s139,s140,s141,s142,s143,s144,s145,s146,s147,s148,s149,s150,s151,s152,s153,s154,s155,s156,s157,s158,s159,s160,s161,s162,s163,s164,s165,s166,s167,s168,s169,s170,s171,s172,s173,s174,s175,s176,s177,s178,s179,s180,s181,s182,s183,s184,s185,s186,s187,s188,s189,s190,s191,s192,s193,s194,s195,s196,s197,s198,s199,s200,s201,s202,s203,s204,s205,s206,s207,s208,s209,s210,s211,s212,s213,s214,s215,s216,s217,s218,s219,s220,s221,s222,s223,s224,s225,s226,s227,s228,s229,s230,s231,s232,s233,s234,s235,s236,s237,s238,s239,s240,s241,s242,s243,s244,s245,s246,s247,s248,s249,s250,s251,s252,s253,s254,s255] M2 := by
    intro M2 s1 s2 s3 s4 s7 s8 s9 s10 s11 s12 s13 s14 s15 s16 s17 s18 s19 s20 s21 s22 s23 s24 s25 s26 s27 s28 s29 s30 s31 s32 s33 s34 s35 s36 s37 s38 s39 s40 s41 s42 s43 s44 s45 s46 s47 s48 s49 s50 s51 s52 s53 s54 s55 s56 s57 s58 s59 s60 s61 s62 s63 s64 s65 s66 s67 s68 s69 s70 s71 s72 s73 s74 s75 s76 s77 s78 s79 s80 s81 s82 s83 s84 s85 s86 s87 s88 s89 s90 s91 s92 s93 s94 s95 s96 s97 s98 s99 s100 s101 s102 s103 s104 s105 s106 s107 s108 s109 s110 s111 s112 s113 s114 s115 s116 s117 s118 s119 s120 s121 s122 s123 s124 s125 s126 s127 s128 s129 s130 s131 s132 s133 s134 s135 s136 s137 s138 s139 s140 s141 s142 s143 s144 s145 s146 s147 s148 s149 s150 s151 s152 s153 s154 s155 s156 s157 s158 s159 s160 s161 s162 s163 s164 s165 s166 s167 s168 s169 s170 s171 s172 s173 s174 s175 s176 s177 s178 s179 s180 s181 s182 s183 s184 s185 s186 s187 s188 s189 s190 s191 s192 s193 s194 s195 s196 s197 s198 s199 s200 s201 s202 s203 s204 s205 s206 s207 s208 s209 s210 s211 s212 s213 s214 s215 s216 s217 s218 s219 s220 s221 s222 s223 s224 s225 s226 s227 s228 s229 s230 s231 s232 s233 s234 s235 s236 s237 s238 s239 s240 s241 s242 s243 s244 s245 s246 s247 s248 s249 s250 s251 s252 s253 s254 s255 hp2 hb2
    have hc2 : hcells M2 bb = some ((txl ns (i + 1)).map str) := by simp [hcells,hb2]
    obtain ⟨q,q1,q2⟩ := row_str (k := .i64) hc2 (txl_get (ns := ns) hlt (Nat.lt_succ_self i))
    rw [txl_len] at q1
    rw [S54x0q]
    have w1 : IntKind.i64.wrap ((i : Int) + 1) = ((i + 1 : Nat) : Int) := by rw [wrap_i64 (by omega) (by omega)]; omega
    by_cases hl : 20000 < (txtR ns (i + 1) i 0).length
    · have hlI : (20000 : Int) < (txtR ns (i + 1) i 0).length := by omega
      have := hk M2 hp2
      rw [refP_long h1 h31 hfit hlt hl] at this
      simp [q1,q2,hlI]
      exact this
    · have hlI : ¬ (20000 : Int) < (txtR ns (i + 1) i 0).length := by omega
      simp [q1,q2,hlI,w1]
      rw [show ((i : Int) + 1) = ((i + 1 : Nat) : Int) by omega]
      exact ih (i + 1) M2 _ _ _ _ _ _ _ _ _ _ _ _ _ _ _ _ _ _ _ _ _ _ _ _ _ _ _ _ _ _ _ _ _ _ _ _ _ _ _ _ _ _ _ _ _ _ _ _ _ _ _ _ _ _ _ _ _ _ _ _ _ _ _ _ _ _ _ _ _ _ _ _ _ _ _ _ _ _ _ _ _ _ _ _ _ _ _ _ _ _ _ _ _ _ _ _ _ _ _ _ _ _ _ _ _ _ _ _ _ _ _ _ _ _ _ _ _ _ _ _ _ _ _ _ _ _ _ _ _ _ _ _ _ _ _ _ _ _ _ _ _ _ _ _ _ _ _ _ _ _ _ _ _ _ _ _ _ _ _ _ _ _ _ _ _ _ _ _ _ _ _ _ _ _ _ _ _ _ _ _ _ _ _ _ _ _ _ _ _ _ _ _ _ _ _ _ _ _ _ _ _ _ _ _ _ _ _ _ _ _ _ _ _ _ _ _ _ _ _ _ _ _ _ _ _ _ _ _ _ _ _ _ _ _ _ _ _ _ _ _ _ _ _ _ _ _ _ _ _ _ _ _ _ (by omega) hp2 hb2 (fun j hj => by
       by_cases e : j = i
       · subst e; omega
       · exact hs j (by omega))
   -- the text is laid
   have put : ∀ (N : AHeap) (t : List UInt8),Pre H N → N[bb]? = some (.cells ((txl ns i).map str) 9) → t = txtR ns (i + 1) i 0 →
     ∃ p N2,aIndexAddr prog N 23 (.slice (some ⟨bb,0,some ns.length⟩) ns.length ns.length) (i64 i) = some p ∧ aStore prog N 9 p (str t) = some N2 ∧ Pre H N2 ∧ N2[bb]? = some (.cells ((txl ns (i + 1)).map str) 9) := by
    intro N t hpN hbN ht
    obtain ⟨q,q1,q2⟩ := row_put (s := t) hbN (show i < (txl ns i).length by rw [txl_len]; exact hlt)
    rw [txl_len] at q1
    refine ⟨q,_,q1,q2,hpN.set (by omega),?_⟩
    rw [List.getElem?_set_self (List.getElem?_eq_some_iff.1 hbN).1,ht,txl_set]
   rw [L54x1q]
   generalize hM : M ++ [AObj.cells (n.cells sv) 50] = M1 at hcM hpM
   have hp1' := hp.trans hpM
   have hb1 : M1[bb]? = some (.cells ((txl ns i).map str) 9) := hpM.get hb
   have hc1 : hcells M1 bb = some ((txl ns i).map str) := by simp [hcells,hb1]
   have hm1 := hm.pre hpM
   have hn1 := hn.pre hp1'
   simp only [Nod.cells] at hcM hM
   have hlM : Vi.hlen M1 M.length = some 8 := by rw [hcells_len hcM]; rfl
   simp [hlen,hlt,hp1,hp2,Nod.cells,hone,hM,hcM,hlM]
   have kind_at : ∀ (l : Nat) (m : Nod),ns[l]? = some m → ∃ q q0,aIndexAddr prog M1 22 v (i64 l) = some q ∧ aFieldAddr prog M1 50 q 0 = some q0 ∧ aLoad prog M1 5 q0 = some (byt m.kind) := by
    intro l m hl
    obtain ⟨cl,ha,hcl,hc⟩ := hn1
    obtain ⟨sv,hsv,_,_⟩ := hc _ _ hl
    exact ha.field (P := prog) (T := 22) (te := 50) (ft := 5) (f := 0) (d := 0) (x := byt m.kind) (by simp) (by simp) (by simp) (by simp) (by simp) hsv rfl
   have sideK : ∀ (l : Nat) (m : Nod) (c : Bool) (least : Int),l < i → ns[l]? = some m → (c = true ↔ strongI m.kind < least) →
     ACalls prog 64 [v,.slice (some ⟨bb,0,some ns.length⟩) ns.length ns.length,i64 l,.bool c] M1 (str (txtR ns i l least)) M1 ∧ (txtR ns i l least).length ≤ 20002 := by
    intro l m c least hl hm hcl
    have hts := hs l hl
    have rs := r_side (M := M1) (v := v) c hc1 (txl_get (ns := ns) (by omega) hl) (by omega)
    rw [txl_len] at rs
    have e := side_txt hfit hl hm least
    have e2 : (if c = true then [40] ++ txtR ns (l + 1) l 0 ++ [41] else txtR ns (l + 1) l 0) = txtR ns i l least := by
     rw [e]
     by_cases hh : strongI m.kind < least
     · rw [if_pos hh,if_pos (hcl.2 hh)]
     · rw [if_neg hh,if_neg (fun q => hh (hcl.1 q))]
    rw [e2] at rs
    refine ⟨rs,?_⟩
    rw [e]
    split
    · simp; omega
    · omega
   have node_of : ∀ l,l < i → ∃ m,ns[l]? = some m ∧ (m.kind = 0 ∨ m.kind = 1 ∨ m.kind = 2 ∨ m.kind = 3) := by
    intro l hl
    obtain ⟨m,hm⟩ : ∃ m,ns[l]? = some m := ⟨_,List.getElem?_eq_getElem (by omega)⟩
    exact ⟨m,hm,kind_of3 (hfit l m hm).1⟩
   have kq : ∀ (u : UInt8) (c : UInt8),(((u.toNat : Int) == c.toNat) = true ↔ u = c) := by
    intro u c
    exact ⟨fun h => kind_of h,fun h => by rw [h]; simp⟩
   have cat := fun (a b : List UInt8) (h : a.length + b.length < 2 ^ 63) x y => aBin_str (P := prog) (H := M1) (T := 9) (x := x) (y := y) (a := a) (b := b) h
   rcases kind_of3 f1 with k0 | k1 | k2 | k3
   · obtain ⟨g1,g2⟩ := f2 k0
     have e0 : ((n.kind.toNat : Int) == 0) = true := by rw [k0]; rfl
     have htx : txtR ns (i + 1) i 0 = leafR n := by
      rw [txtR,hnd]
      simp only [k0,if_true]
      rw [if_neg (by decide)]
     have hwin := hok.win n hmem
     have hsl := selS_len (hok.tame n hmem)
     have hsl2 := hok.sel n hmem
     have l1 : (aggs.getD n.agg.toNat []).length ≤ 5 := getD_len (by decide)
     have l2 : (cmps.getD n.cmp.toNat []).length ≤ 2 := getD_len (by decide)
     have l3 := fixS_len n.value
     have l4 := decR_len hwin
     have r1 := r_aggregate M1 (i := n.agg.toNat) (by omega)
     have r2 := r_sel hm1 hsl2 (hok.tame n hmem)
     have r3 := r_decimal M1 hwin
     have r4 := r_compare M1 (i := n.cmp.toNat) (by omega)
     have r5 := r_fix M1 n.value
     unfold leafR at htx
     generalize aggs.getD n.agg.toNat [] = A at htx l1 r1
     generalize cmps.getD n.cmp.toNat [] = C at htx l2 r4
     generalize fixS n.value = V at htx l3 r5
     generalize decR n.window = W at htx l4 r3
     generalize selS n.sel = S at htx hsl r2
     have a1 := cat A [40] (by simp; omega)
     have a2 := cat (A ++ [40]) S (by simp; omega)
     have a3 := cat (A ++ [40] ++ S) [91] (by simp; omega)
     have a4 := cat (A ++ [40] ++ S ++ [91]) W (by simp; omega)
     have a5 := cat (A ++ [40] ++ S ++ [91] ++ W) [93,41,32] (by simp; omega)
     have a6 := cat (A ++ [40] ++ S ++ [91] ++ W ++ [93,41,32]) C (by simp; omega)
     have a7 := cat (A ++ [40] ++ S ++ [91] ++ W ++ [93,41,32] ++ C) [32] (by simp; omega)
     have a8 := cat (A ++ [40] ++ S ++ [91] ++ W ++ [93,41,32] ++ C ++ [32]) V (by simp; omega)
     obtain ⟨q,N2,b1,b2,b3,b4⟩ := put M1 _ hp1' hb1 htx.symm
     have e0' : (n.kind.toNat : Int) = 0 := by rw [k0]; rfl
     simp [e0',hcM,hlM]
     refine bndD_same r1 ?_
     dsimp only
     refine bnd_of (a1 _ _) ?_
     simp [hcM,hlM]
     refine bndD_same r2 ?_
     dsimp only
     refine bnd_of (a2 _ _) ?_
     dsimp only
     refine bnd_of (a3 _ _) ?_
     simp [hcM,hlM]
     refine bndD_same r3 ?_
     dsimp only
     refine bnd_of (a4 _ _) ?_
     dsimp only
     refine bnd_of (a5 _ _) ?_
     simp [hcM,hlM]
     refine bndD_same r4 ?_
     dsimp only
     refine bnd_of (a6 _ _) ?_
     dsimp only
     refine bnd_of (a7 _ _) ?_
     simp [hcM,hlM]
     refine bndD_same r5 ?_
     dsimp only
     refine bnd_of (a8 _ _) ?_
     dsimp only
     refine bnd_of b1 ?_
     dsimp only
     refine bndD_of ⟨rfl,b2⟩ (.inl rfl) ?_
     exact fin N2 _ _ _ _ _ _ _ _ _ _ _ _ _ _ _ _ _ _ _ _ _ _ _ _ _ _ _ _ _ _ _ _ _ _ _ _ _ _ _ _ _ _ _ _ _ _ _ _ _ _ _ _ _ _ _ _ _ _ _ _ _ _ _ _ _ _ _ _ _ _ _ _ _ _ _ _ _ _ _ _ _ _ _ _ _ _ _ _ _ _ _ _ _ _ _ _ _ _ _ _ _ _ _ _ _ _ _ _ _ _ _ _ _ _ _ _ _ _ _ _ _ _ _ _ _ _ _ _ _ _ _ _ _ _ _ _ _ _ _ _ _ _ _ _ _ _ _ _ _ _ _ _ _ _ _ _ _ _ _ _ _ _ _ _ _ _ _ _ _ _ _ _ _ _ _ _ _ _ _ _ _ _ _ _ _ _ _ _ _ _ _ _ _ _ _ _ _ _ _ _ _ _ _ _ _ _ _ _ _ _ _ _ _ _ _ _ _ _ _ _ _ _ _ _ _ _ _ _ _ _ _ _ _ _ _ _ _ _ _ _ _ _ _ _ _ _ _ _ _ _ _ _ _ b3 b4
   · obtain ⟨g1,g2,g3,g4⟩ := f3 (by rw [k1]; decide)
     have g5 := g4 (by rw [k1]; decide)
     obtain ⟨L,hL⟩ : ∃ L : Nat,n.left = L := ⟨n.left.toNat,by omega⟩
     obtain ⟨R,hR⟩ : ∃ R : Nat,n.right = R := ⟨n.right.toNat,by omega⟩
     obtain ⟨ml,l1,l2⟩ := node_of L (by omega)
     obtain ⟨mr,r1,r2⟩ := node_of R (by omega)
     obtain ⟨q,q0,a1,a2,a3⟩ := kind_at L ml l1
     obtain ⟨x,x0,b1,b2,b3⟩ := kind_at R mr r1
     have htx : txtR ns (i + 1) i 0 = txtR ns i L 1 ++ [32,97,110,100,32] ++ txtR ns i R 2 := by
      have e0 : ¬ ((1 : UInt8) = 0) := by decide
      have e3 : ¬ ((1 : UInt8) = 3) := by decide
      have es : ¬ strongI 1 < 0 := by decide
      rw [txtR,hnd]
      simp only [k1,hL,hR,e0,e3,es,if_false,if_true,Int.toNat_natCast]
     obtain ⟨c1,c2⟩ := sideK L ml ((ml.kind.toNat : Int) == 2) 1 (by omega) l1 (by rw [(strong_of l2).1]; exact kq ml.kind 2)
     have h2' : ∀ c : Bool,(c = true ↔ mr.kind = 1 ∨ mr.kind = 2) → _ := fun c hc => sideK R mr c 2 (by omega) r1 (by rw [(strong_of r2).2]; exact hc)
     obtain ⟨_,c3⟩ := h2' (decide (mr.kind = 1 ∨ mr.kind = 2)) (by simp)
     have d1 := cat (txtR ns i L 1) [32,97,110,100,32] (by simp; omega)
     have d2 := cat (txtR ns i L 1 ++ [32,97,110,100,32]) (txtR ns i R 2) (by simp; omega)
     obtain ⟨z,N2,z1,z2,z3,z4⟩ := put M1 _ hp1' hb1 htx.symm
     have e1 : (n.kind.toNat : Int) = 1 := by rw [k1]; rfl
     simp only [hL,hR] at hcM
     simp [e1,hcM,hlM,a1,a2,a3]
     refine bndD_same c1 ?_
     dsimp only
     refine bnd_of (d1 _ _) ?_
     cases hq1 : ((mr.kind.toNat : Int) == 1) with
     | true =>
       obtain ⟨c4,_⟩ := h2' true (by simp [(kq mr.kind 1).1 hq1])
       simp [hcM,hlM,b1,b2,b3,hq1]
       refine bndD_same c4 ?_
       dsimp only
       refine bnd_of (d2 _ _) ?_
       dsimp only
       refine bnd_of z1 ?_
       dsimp only
       refine bndD_of ⟨rfl,z2⟩ (.inl rfl) ?_
       exact fin N2 _ _ _ _ _ _ _ _ _ _ _ _ _ _ _ _ _ _ _ _ _ _ _ _ _ _ _ _ _ _ _ _ _ _ _ _ _ _ _ _ _ _ _ _ _ _ _ _ _ _ _ _ _ _ _ _ _ _ _ _ _ _ _ _ _ _ _ _ _ _ _ _ _ _ _ _ _ _ _ _ _ _ _ _ _ _ _ _ _ _ _ _ _ _ _ _ _ _ _ _ _ _ _ _ _ _ _ _ _ _ _ _ _ _ _ _ _ _ _ _ _ _ _ _ _ _ _ _ _ _ _ _ _ _ _ _ _ _ _ _ _ _ _ _ _ _ _ _ _ _ _ _ _ _ _ _ _ _ _ _ _ _ _ _ _ _ _ _ _ _ _ _ _ _ _ _ _ _ _ _ _ _ _ _ _ _ _ _ _ _ _ _ _ _ _ _ _ _ _ _ _ _ _ _ _ _ _ _ _ _ _ _ _ _ _ _ _ _ _ _ _ _ _ _ _ _ _ _ _ _ _ _ _ _ _ _ _ _ _ _ _ _ _ _ _ _ _ _ _ _ _ _ _ z3 z4
     | false =>
       obtain ⟨c4,_⟩ := h2' ((mr.kind.toNat : Int) == 2) (by
        refine (kq mr.kind 2).trans ?_
        have : ¬ mr.kind = 1 := fun e => absurd (hq1.symm.trans ((kq mr.kind 1).2 e)) (by decide)
        simp [this])
       simp [hcM,hlM,b1,b2,b3,hq1]
       refine bndD_same c4 ?_
       dsimp only
       refine bnd_of (d2 _ _) ?_
       dsimp only
       refine bnd_of z1 ?_
       dsimp only
       refine bndD_of ⟨rfl,z2⟩ (.inl rfl) ?_
       exact fin N2 _ _ _ _ _ _ _ _ _ _ _ _ _ _ _ _ _ _ _ _ _ _ _ _ _ _ _ _ _ _ _ _ _ _ _ _ _ _ _ _ _ _ _ _ _ _ _ _ _ _ _ _ _ _ _ _ _ _ _ _ _ _ _ _ _ _ _ _ _ _ _ _ _ _ _ _ _ _ _ _ _ _ _ _ _ _ _ _ _ _ _ _ _ _ _ _ _ _ _ _ _ _ _ _ _ _ _ _ _ _ _ _ _ _ _ _ _ _ _ _ _ _ _ _ _ _ _ _ _ _ _ _ _ _ _ _ _ _ _ _ _ _ _ _ _ _ _ _ _ _ _ _ _ _ _ _ _ _ _ _ _ _ _ _ _ _ _ _ _ _ _ _ _ _ _ _ _ _ _ _ _ _ _ _ _ _ _ _ _ _ _ _ _ _ _ _ _ _ _ _ _ _ _ _ _ _ _ _ _ _ _ _ _ _ _ _ _ _ _ _ _ _ _ _ _ _ _ _ _ _ _ _ _ _ _ _ _ _ _ _ _ _ _ _ _ _ _ _ _ _ _ _ _ z3 z4
   · obtain ⟨g1,g2,g3,g4⟩ := f3 (by rw [k2]; decide)
     have g5 := g4 (by rw [k2]; decide)
     obtain ⟨L,hL⟩ : ∃ L : Nat,n.left = L := ⟨n.left.toNat,by omega⟩
     obtain ⟨R,hR⟩ : ∃ R : Nat,n.right = R := ⟨n.right.toNat,by omega⟩
     obtain ⟨ml,l1,l2⟩ := node_of L (by omega)
     obtain ⟨mr,r1,r2⟩ := node_of R (by omega)
     obtain ⟨x,x0,b1,b2,b3⟩ := kind_at R mr r1
     have htx : txtR ns (i + 1) i 0 = txtR ns i L 0 ++ [32,111,114,32] ++ txtR ns i R 1 := by
      have e0 : ¬ ((2 : UInt8) = 0) := by decide
      have e1 : ¬ ((2 : UInt8) = 1) := by decide
      have e3 : ¬ ((2 : UInt8) = 3) := by decide
      have es : ¬ strongI 2 < 0 := by decide
      rw [txtR,hnd]
      simp only [k2,hL,hR,e0,e1,e3,es,if_false,if_true,Int.toNat_natCast]
     have hl0 : txtR ns i L 0 = txtR ns (L + 1) L 0 := fit_txt hfit L i (L + 1) 0 (by omega) (by omega)
     have hls := hs L (by omega)
     rw [← hl0] at hls
     obtain ⟨q,a1,a2⟩ := row_str (k := .i64) hc1 (txl_get (ns := ns) (i := i) (j := L) (by omega) (by omega))
     rw [txl_len] at a1
     rw [← hl0] at a2
     obtain ⟨c1,c2⟩ := sideK R mr ((mr.kind.toNat : Int) == 2) 1 (by omega) r1 (by rw [(strong_of r2).1]; exact kq mr.kind 2)
     have d1 := cat (txtR ns i L 0) [32,111,114,32] (by simp; omega)
     have d2 := cat (txtR ns i L 0 ++ [32,111,114,32]) (txtR ns i R 1) (by simp; omega)
     obtain ⟨z,N2,z1,z2,z3,z4⟩ := put M1 _ hp1' hb1 htx.symm
     have e1 : (n.kind.toNat : Int) = 2 := by rw [k2]; rfl
     simp only [hL,hR] at hcM
     simp [e1,hcM,hlM,a1,a2]
     refine bnd_of (d1 _ _) ?_
     simp [hcM,hlM,b1,b2,b3]
     refine bndD_same c1 ?_
     dsimp only
     refine bnd_of (d2 _ _) ?_
     dsimp only
     refine bnd_of z1 ?_
     dsimp only
     refine bndD_of ⟨rfl,z2⟩ (.inl rfl) ?_
     exact fin N2 _ _ _ _ _ _ _ _ _ _ _ _ _ _ _ _ _ _ _ _ _ _ _ _ _ _ _ _ _ _ _ _ _ _ _ _ _ _ _ _ _ _ _ _ _ _ _ _ _ _ _ _ _ _ _ _ _ _ _ _ _ _ _ _ _ _ _ _ _ _ _ _ _ _ _ _ _ _ _ _ _ _ _ _ _ _ _ _ _ _ _ _ _ _ _ _ _ _ _ _ _ _ _ _ _ _ _ _ _ _ _ _ _ _ _ _ _ _ _ _ _ _ _ _ _ _ _ _ _ _ _ _ _ _ _ _ _ _ _ _ _ _ _ _ _ _ _ _ _ _ _ _ _ _ _ _ _ _ _ _ _ _ _ _ _ _ _ _ _ _ _ _ _ _ _ _ _ _ _ _ _ _ _ _ _ _ _ _ _ _ _ _ _ _ _ _ _ _ _ _ _ _ _ _ _ _ _ _ _ _ _ _ _ _ _ _ _ _ _ _ _ _ _ _ _ _ _ _ _ _ _ _ _ _ _ _ _ _ _ _ _ _ _ _ _ _ _ _ _ _ _ _ _ z3 z4
   · obtain ⟨g1,g2,g3,_⟩ := f3 (by rw [k3]; decide)
     obtain ⟨L,hL⟩ : ∃ L : Nat,n.left = L := ⟨n.left.toNat,by omega⟩
     obtain ⟨ml,l1,l2⟩ := node_of L (by omega)
     obtain ⟨q,q0,a1,a2,a3⟩ := kind_at L ml l1
     have htx : txtR ns (i + 1) i 0 = [110,111,116,32] ++ txtR ns i L 2 := by
      have e0 : ¬ ((3 : UInt8) = 0) := by decide
      have es : ¬ strongI 3 < 0 := by decide
      rw [txtR,hnd]
      simp only [k3,hL,e0,es,if_false,if_true,Int.toNat_natCast]
     have h2' : ∀ c : Bool,(c = true ↔ ml.kind = 1 ∨ ml.kind = 2) → _ := fun c hc => sideK L ml c 2 (by omega) l1 (by rw [(strong_of l2).2]; exact hc)
     obtain ⟨_,c3⟩ := h2' (decide (ml.kind = 1 ∨ ml.kind = 2)) (by simp)
     have d2 := cat [110,111,116,32] (txtR ns i L 2) (by simp; omega)
     obtain ⟨z,N2,z1,z2,z3,z4⟩ := put M1 _ hp1' hb1 htx.symm
     have e1 : (n.kind.toNat : Int) = 3 := by rw [k3]; rfl
     simp only [hL] at hcM
     cases hq1 : ((ml.kind.toNat : Int) == 1) with
     | true =>
       obtain ⟨c4,_⟩ := h2' true (by simp [(kq ml.kind 1).1 hq1])
       simp [e1,hcM,hlM,a1,a2,a3,hq1]
       refine bndD_same c4 ?_
       dsimp only
       refine bnd_of (d2 _ _) ?_
       dsimp only
       refine bnd_of z1 ?_
       dsimp only
       refine bndD_of ⟨rfl,z2⟩ (.inl rfl) ?_
       exact fin N2 _ _ _ _ _ _ _ _ _ _ _ _ _ _ _ _ _ _ _ _ _ _ _ _ _ _ _ _ _ _ _ _ _ _ _ _ _ _ _ _ _ _ _ _ _ _ _ _ _ _ _ _ _ _ _ _ _ _ _ _ _ _ _ _ _ _ _ _ _ _ _ _ _ _ _ _ _ _ _ _ _ _ _ _ _ _ _ _ _ _ _ _ _ _ _ _ _ _ _ _ _ _ _ _ _ _ _ _ _ _ _ _ _ _ _ _ _ _ _ _ _ _ _ _ _ _ _ _ _ _ _ _ _ _ _ _ _ _ _ _ _ _ _ _ _ _ _ _ _ _ _ _ _ _ _ _ _ _ _ _ _ _ _ _ _ _ _ _ _ _ _ _ _ _ _ _ _ _ _ _ _ _ _ _ _ _ _ _ _ _ _ _ _ _ _ _ _ _ _ _ _ _ _ _ _ _ _ _ _ _ _ _ _ _ _ _ _ _ _ _ _ _ _ _ _ _ _ _ _ _ _ _ _ _ _ _ _ _ _ _ _ _ _ _ _ _ _ _ _ _ _ _ _ z3 z4
     | false =>
       obtain ⟨c4,_⟩ := h2' ((ml.kind.toNat : Int) == 2) (by
        refine (kq ml.kind 2).trans ?_
        have : ¬ ml.kind = 1 := fun e => absurd (hq1.symm.trans ((kq ml.kind 1).2 e)) (by decide)
        simp [this])
       simp [e1,hcM,hlM,a1,a2,a3,hq1]
       refine bndD_same c4 ?_
       dsimp only
       refine bnd_of (d2 _ _) ?_
       dsimp only
       refine bnd_of z1 ?_
       dsimp only
       refine bndD_of ⟨rfl,z2⟩ (.inl rfl) ?_
       exact fin N2 _ _ _ _ _ _ _ _ _ _ _ _ _ _ _ _ _ _ _ _ _ _ _ _ _ _ _ _ _ _ _ _ _ _ _ _ _ _ _ _ _ _ _ _ _ _ _ _ _ _ _ _ _ _ _ _ _ _ _ _ _ _ _ _ _ _ _ _ _ _ _ _ _ _ _ _ _ _ _ _ _ _ _ _ _ _ _ _ _ _ _ _ _ _ _ _ _ _ _ _ _ _ _ _ _ _ _ _ _ _ _ _ _ _ _ _ _ _ _ _ _ _ _ _ _ _ _ _ _ _ _ _ _ _ _ _ _ _ _ _ _ _ _ _ _ _ _ _ _ _ _ _ _ _ _ _ _ _ _ _ _ _ _ _ _ _ _ _ _ _ _ _ _ _ _ _ _ _ _ _ _ _ _ _ _ _ _ _ _ _ _ _ _ _ _ _ _ _ _ _ _ _ _ _ _ _ _ _ _ _ _ _ _ _ _ _ _ _ _ _ _ _ _ _ _ _ _ _ _ _ _ _ _ _ _ _ _ _ _ _ _ _ _ _ _ _ _ _ _ _ _ _ _ z3 z4
end
end Go.Vi
namespace Go.Vi
open Go Go.Proofs
theorem Cond.text {ns : List Nod} {s e : Nat} (hc : Cond ns s e) : ∀ (f : Nat) (least : Int),e < f → txtF ns f e least ≠ [] := by
 have w : ∀ {p : Prop} [Decidable p] {B : List UInt8},B ≠ [] → (if p then [40] ++ B ++ [41] else B) ≠ [] := by
  intro p _ B h
  split
  · simp
  · exact h
 induction hc with
 | cmp e n h1 h2 h3 =>
   intro f least hf
   obtain ⟨f,rfl⟩ : ∃ g,f = g + 1 := ⟨f - 1,by omega⟩
   simp only [txtF,h1,h2,if_true]
   exact w (by simp [leafS])
 | neg s e n h1 h2 h3 h4 h5 hc ih =>
   intro f least hf
   obtain ⟨f,rfl⟩ : ∃ g,f = g + 1 := ⟨f - 1,by omega⟩
   have k0 : ¬ ((3 : UInt8) = 0) := by decide
   simp only [txtF,h1,h2,k0,if_false,if_true]
   exact w (by simp)
 | two s r' e n h1 h2 h3 h4 h5 hc1 hc2 ih1 ih2 =>
   intro f least hf
   obtain ⟨f,rfl⟩ : ∃ g,f = g + 1 := ⟨f - 1,by omega⟩
   have k0 : ¬ (n.kind = 0) := by rcases h2 with h2 | h2 <;> (rw [h2]; decide)
   have k3 : ¬ (n.kind = 3) := by rcases h2 with h2 | h2 <;> (rw [h2]; decide)
   simp only [txtF,h1,k0,k3,if_false]
   refine w ?_
   rcases h2 with h2 | h2
   · rw [if_pos h2]; simp
   · rw [if_neg (by rw [h2]; decide),if_pos h2]; simp
theorem print_ne {ns : List Nod} (h : right ns = true) : printS ns ≠ [] := by
 obtain ⟨h1,h2,hc⟩ := right_cond h
 have hp : printS ns = txtF ns ns.length (ns.length - 1) 0 := by unfold printS; rw [if_pos h]
 rw [hp]
 exact hc.text _ _ (by omega)
theorem print_nil {ns : List Nod} (h : right ns = false) : printS ns = [] := by unfold printS; rw [h]; rfl
section
variable {H : AHeap} {s : List UInt8}
end
end Go.Vi
namespace Go.Vi
open Go Go.Proofs Go.Proofs.Try
theorem sael1 : aElem prog 23 = some (9,1,16) := by kernel_rfl
theorem mk_strs (K : AHeap) {n : Nat} (hn : n ≤ 2 ^ 20) : aMake prog K 23 (i64 n) (i64 n) = some (.slice (some ⟨K.length,0,some n⟩) n n,K ++ [.cells ((List.replicate n ([] : List UInt8)).map str) 9]) := by
 have hz : zcells prog 9 = some #[.string ByteArray.empty] := by kernel_rfl
 have hr : (repCells #[Value.string ByteArray.empty] n).toList = (List.replicate n ([] : List UInt8)).map str := by
  unfold repCells
  apply List.ext_getElem?
  intro i
  simp only [Array.toList_map,Array.toList_range,List.getElem?_map,List.map_replicate,List.getElem?_replicate]
  by_cases h : i < n
  · rw [List.getElem?_range h,if_pos h]
    simp
    rw [Nat.mod_one]
    rfl
  · rw [List.getElem?_eq_none (by simpa using h),if_neg h]; rfl
 unfold aMake
 simp only [sael1,hz]
 rw [if_pos ⟨by omega,by omega,by omega,by omega,by rfl⟩]
 simp [hr]
section
variable {H : AHeap} {v : Value} {ns : List Nod} {k : Value → AHeap → Prop}
theorem refP_bad {ns : List Nod} {i : Nat} {n : Nod} (hn : ns[i]? = some n) (hb : ¬ fitN i n) : refP ns = [] := by
 unfold refP
 split
 · rfl
 · rw [if_pos (fun h => hb (h i n hn))]
set_option maxHeartbeats 4000000 in
set_option maxRecDepth 20000 in
theorem fit_loop (hn : NodesAt H v ns) (h1 : 1 ≤ ns.length) (h31 : ns.length ≤ 31) (hok : PrOk ns) (hk : ∀ K,Pre H K → k (str (refP ns)) K) :
  ∀ (d i : Nat) (M : AHeap) (s1 s2 s4 s5 s6 s7 s8 s9 s10 s11 s12 s13 s14 s15 s16 s17 s18 s19 s20 s21 s22 s23 s24 s25 s26 s27 s28 s29 s30 s31 s32 s33 s34 s35 s36 s37 s38 s39 s40 s41 s42 s43 s44 s45 s46 s47 s48 s49 s50 s51 s52 s53 s54 s55 s56 s57 s58 s59 s60 s61 s62 s63 s64 s65 s66 s67 s68 s69 s70 s71 s72 s73 s74 s75 s76 s77 s78 s79 s80 s81 s82 s83 s84 s85 s86 s87 s88 s89 s90 s91 s92 s93 s94 s95 s96 s97 s98 s99 s100 s101 s102 s103 s104 s105 s106 s107 s108 s109 s110 s111 s112 s113 s114 s115 s116 s117 s118 s119 s120 s121 s122 s123 s124 s125 s126 s127 s128 s129 s130 s131 s132 s133 s134 s135 s136 s137 s138 s139 s140 s141 s142 s143 s144 s145 s146 s147 s148 s149 s150 s151 s152 s153 s154 s155 s156 s157 s158 s159 s160 s161 s162 s163 s164 s165 s166 s167 s168 s169 s170 s171 s172 s173 s174 s175 s176 s177 s178 s179 s180 s181 s182 s183 s184 s185 s186 s187 s188 s189 s190 s191 s192 s193 s194 s195 s196 s197 s198 s199 s200 s201 s202 s203 s204 s205 s206 s207 s208 s209 s210 s211 s212 s213 s214 s215 s216 s217 s218 s219 s220 s221 s222 s223 s224 s225 s226 s227 s228 s229 s230 s231 s232 s233 s234 s235 s236 s237 s238 s239 s240 s241 s242 s243 s244 s245 s246 s247 s248 s249 s250 s251 s252 s253 s254 s255 : Value), d + i = ns.length → Pre H M → (∀ (j : Nat) n, j < i → ns[j]? = some n → fitN j n) →
    L54x0 (d + 1) k [v,s1,s2,i64 i,s4,s5,s6,s7,s8,s9,s10,s11,s12,s13,s14,s15,s16,s17,s18,s19,s20,s21,s22,s23,s24,s25,s26,s27,s28,s29,s30,s31,s32,s33,s34,s35,s36,s37,s38,s39,s40,s41,s42,s43,s44,s45,s46,s47,s48,s49,s50,s51,s52,s53,s54,s55,s56,s57,s58,s59,s60,s61,s62,s63,s64,s65,s66,s67,s68,s69,s70,s71,s72,s73,s74,s75,s76,s77,s78,s79,s80,s81,s82,s83,s84,s85,s86,s87,s88,s89,s90,s91,s92,s93,s94,s95,s96,s97,s98,s99,s100,s101,s102,s103,s104,s105,s106,s107,s108,s109,s110,s111,s112,s113,s114,s115,s116,s117,s118,s119,s120,s121,s122,s123,s124,s125,s126,s127,s128,s129,s130,s131,s132,s133,s134,s135,s136,s137,s138,s139,s140,s141,s142,s143,s144,s145,s146,s147,s148,s149,s150,s151,s152,s153,s154,s155,s156,s157,s158,s159,s160,s161,s162,s163,s164,s165,s166,s167,s168,s169,s170,s171,s172,s173,s174,s175,s176,s177,s178,s179,s180,s181,s182,s183,s184,s185,s186,s187,s188,s189,s190,s191,s192,s193,s194,s195,s196,s197,s198,s199,s200,s201,s202,s203,s204,s205,s206,s207,s208,s209,s210,s211,s212,s213,s214,s215,s216,s217,s218,s219,s220,s221,s222,s223,s224,s225,s226,s227,s228,s229,s230,s231,s232,s233,s234,s235,s236,s237,s238,s239,s240,s241,s242,s243,s244,s245,s246,s247,s248,s249,s250,s251,s252,s253,s254,s255] M := by
 intro d
 induction d with
 | zero =>
   intro i M s1 s2 s4 s5 s6 s7 s8 s9 s10 s11 s12 s13 s14 s15 s16 s17 s18 s19 s20 s21 s22 s23 s24 s25 s26 s27 s28 s29 s30 s31 s32 s33 s34 s35 s36 s37 s38 s39 s40 s41 s42 s43 s44 s45 s46 s47 s48 s49 s50 s51 s52 s53 s54 s55 s56 s57 s58 s59 s60 s61 s62 s63 s64 s65 s66 s67 s68 s69 s70 s71 s72 s73 s74 s75 s76 s77 s78 s79 s80 s81 s82 s83 s84 s85 s86 s87 s88 s89 s90 s91 s92 s93 s94 s95 s96 s97 s98 s99 s100 s101 s102 s103 s104 s105 s106 s107 s108 s109 s110 s111 s112 s113 s114 s115 s116 s117 s118 s119 s120 s121 s122 s123 s124 s125 s126 s127 s128 s129 s130 s131 s132 s133 s134 s135 s136 s137 s138 s139 s140 s141 s142 s143 s144 s145 s146 s147 s148 s149 s150 s151 s152 s153 s154 s155 s156 s157 s158 s159 s160 s161 s162 s163 s164 s165 s166 s167 s168 s169 s170 s171 s172 s173 s174 s175 s176 s177 s178 s179 s180 s181 s182 s183 s184 s185 s186 s187 s188 s189 s190 s191 s192 s193 s194 s195 s196 s197 s198 s199 s200 s201 s202 s203 s204 s205 s206 s207 s208 s209 s210 s211 s212 s213 s214 s215 s216 s217 s218 s219 s220 s221 s222 s223 s224 s225 s226 s227 s228 s229 s230 s231 s232 s233 s234 s235 s236 s237 s238 s239 s240 s241 s242 s243 s244 s245 s246 s247 s248 s249 s250 s251 s252 s253 s254 s255 hi hp hf
   obtain rfl : i = ns.length := by omega
   have hfit : ∀ (j : Nat) n,ns[j]? = some n → fitN j n := fun j n hj => hf j n (List.getElem?_eq_some_iff.1 hj).1 hj
   have hlen := fun J => (hn.pre hp).len J
   have hmk := mk_strs M (n := ns.length) (by omega)
   have ht0 : List.replicate ns.length ([] : List UInt8) = txl ns 0 := by
    apply List.ext_getElem?
    intro j
    unfold txl
    rw [List.getElem?_replicate,List.getElem?_map]
    by_cases h : j < ns.length
    · rw [if_pos h,List.getElem?_range h]; simp
    · rw [if_neg h,List.getElem?_eq_none (by simpa using h)]; rfl
   rw [ht0] at hmk
   rw [L54x0q]
   simp [hlen,hmk]
   have hpl : H.length ≤ M.length := by obtain ⟨X,rfl⟩ := hp; simp
   exact ⟨ns.length + 1,txt_loop hn h1 h31 hok hfit hpl hk ns.length 0 _ _ _ _ _ _ _ _ _ _ _ _ _ _ _ _ _ _ _ _ _ _ _ _ _ _ _ _ _ _ _ _ _ _ _ _ _ _ _ _ _ _ _ _ _ _ _ _ _ _ _ _ _ _ _ _ _ _ _ _ _ _ _ _ _ _ _ _ _ _ _ _ _ _ _ _ _ _ _ _ _ _ _ _ _ _ _ _ _ _ _ _ _ _ _ _ _ _ _ _ _ _ _ _ _ _ _ _ _ _ _ _ _ _ _ _ _ _ _ _ _ _ _ _ _ _ _ _ _ _ _ _ _ _ _ _ _ _ _ _ _ _ _ _ _ _ _ _ _ _ _ _ _ _ _ _ _ _ _ _ _ _ _ _ _ _ _ _ _ _ _ _ _ _ _ _ _ _ _ _ _ _ _ _ _ _ _ _ _ _ _ _ _ _ _ _ _ _ _ _ _ _ _ _ _ _ _ _ _ _ _ _ _ _ _ _ _ _ _ _ _ _ _ _ _ _ _ _ _ _ _ _ _ _ _ _ _ _ _ _ _ _ _ _ _ _ _ _ _ _ _ _ _ _ (by omega) (hp.more _) (by simp) (fun j hj => by omega)⟩
 | succ d ih =>
   intro i M s1 s2 s4 s5 s6 s7 s8 s9 s10 s11 s12 s13 s14 s15 s16 s17 s18 s19 s20 s21 s22 s23 s24 s25 s26 s27 s28 s29 s30 s31 s32 s33 s34 s35 s36 s37 s38 s39 s40 s41 s42 s43 s44 s45 s46 s47 s48 s49 s50 s51 s52 s53 s54 s55 s56 s57 s58 s59 s60 s61 s62 s63 s64 s65 s66 s67 s68 s69 s70 s71 s72 s73 s74 s75 s76 s77 s78 s79 s80 s81 s82 s83 s84 s85 s86 s87 s88 s89 s90 s91 s92 s93 s94 s95 s96 s97 s98 s99 s100 s101 s102 s103 s104 s105 s106 s107 s108 s109 s110 s111 s112 s113 s114 s115 s116 s117 s118 s119 s120 s121 s122 s123 s124 s125 s126 s127 s128 s129 s130 s131 s132 s133 s134 s135 s136 s137 s138 s139 s140 s141 s142 s143 s144 s145 s146 s147 s148 s149 s150 s151 s152 s153 s154 s155 s156 s157 s158 s159 s160 s161 s162 s163 s164 s165 s166 s167 s168 s169 s170 s171 s172 s173 s174 s175 s176 s177 s178 s179 s180 s181 s182 s183 s184 s185 s186 s187 s188 s189 s190 s191 s192 s193 s194 s195 s196 s197 s198 s199 s200 s201 s202 s203 s204 s205 s206 s207 s208 s209 s210 s211 s212 s213 s214 s215 s216 s217 s218 s219 s220 s221 s222 s223 s224 s225 s226 s227 s228 s229 s230 s231 s232 s233 s234 s235 s236 s237 s238 s239 s240 s241 s242 s243 s244 s245 s246 s247 s248 s249 s250 s251 s252 s253 s254 s255 hi hp hf
   have hlt : i < ns.length := by omega
   obtain ⟨n,hnd⟩ : ∃ n,ns[i]? = some n := ⟨_,List.getElem?_eq_getElem hlt⟩
   have hlen := fun J => (hn.pre hp).len J
   obtain ⟨cl,ha,hcl,hc⟩ := hn.pre hp
   obtain ⟨sv,hsv,hm,hml⟩ := hc _ _ hnd
   obtain ⟨p,hp1,hp2⟩ := ha.load (P := prog) (T := 22) (te := 50) (i := i) (e := n.cells sv) (by simp) (by simp) (by simp) hsv
   have hone := hm.one
   have hcM : hcells (M ++ [.cells (n.cells sv) 50]) M.length = some (n.cells sv) := by simp
   have hpM : Pre M (M ++ [.cells (n.cells sv) 50]) := .app _ _
   rw [L54x0q]
   generalize hM : M ++ [AObj.cells (n.cells sv) 50] = M1 at hcM hpM
   have hp1' := hp.trans hpM
   simp only [Nod.cells] at hcM hM
   have hlM : Vi.hlen M1 M.length = some 8 := by rw [hcells_len hcM]; rfl
   have w1 : i + 1 < 2 ^ 63 := by omega
   have bad : ¬ fitN i n → k (str []) M1 := by
    intro h
    have := hk M1 hp1'
    rw [refP_bad hnd h] at this
    exact this
   have good : fitN i n → ∀ (s1 s2 s4 s5 s6 s7 s8 s9 s10 s11 s12 s13 s14 s15 s16 s17 s18 s19 s20 s21 s22 s23 s24 s25 s26 s27 s28 s29 s30 s31 s32 s33 s34 s35 s36 s37 s38 s39 s40 s41 s42 s43 s44 s45 s46 s47 s48 s49 s50 s51 s52 s53 s54 s55 s56 s57 s58 s59 s60 s61 s62 s63 s64 s65 s66 s67 s68 s69 s70 s71 s72 s73 s74 s75 s76 s77 s78 s79 s80 s81 s82 s83 s84 s85 s86 s87 s88 s89 s90 s91 s92 s93 s94 s95 s96 s97 s98 s99 s100 s101 s102 s103 s104 s105 s106 s107 s108 s109 s110 s111 s112 s113 s114 s115 s116 s117 s118 s119 s120 s121 s122 s123 s124 s125 s126 s127 s128 s129 s130 s131 s132 s133 s134 s135 s136 s137 s138 s139 s140 s141 s142 s143 s144 s145 s146 s147 s148 s149 s150 s151 s152 s153 s154 s155 s156 s157 s158 s159 s160 s161 s162 s163 s164 s165 s166 s167 s168 s169 s170 s171 s172 s173 s174 s175 s176 s177 s178 s179 s180 s181 s182 s183 s184 s185 s186 s187 s188 s189 s190 s191 s192 s193 s194 s195 s196 s197 s198 s199 s200 s201 s202 s203 s204 s205 s206 s207 s208 s209 s210 s211 s212 s213 s214 s215 s216 s217 s218 s219 s220 s221 s222 s223 s224 s225 s226 s227 s228 s229 s230 s231 s232 s233 s234 s235 s236 s237 s238 s239 s240 s241 s242 s243 s244 s245 s246 s247 s248 s249 s250 s251 s252 s253 s254 s255 : Value),L54x0 (d + 1) k [v,s1,s2,i64 ((i : Int) + 1),s4,s5,s6,s7,s8,s9,s10,s11,s12,s13,s14,s15,s16,s17,s18,s19,s20,s21,s22,s23,s24,s25,s26,s27,s28,s29,s30,s31,s32,s33,s34,s35,s36,s37,s38,s39,s40,s41,s42,s43,s44,s45,s46,s47,s48,s49,s50,s51,s52,s53,s54,s55,s56,s57,s58,s59,s60,s61,s62,s63,s64,s65,s66,s67,s68,s69,s70,s71,s72,s73,s74,s75,s76,s77,s78,s79,s80,s81,s82,s83,s84,s85,s86,s87,s88,s89,s90,s91,s92,s93,s94,s95,s96,s97,s98,s99,s100,s101,s102,s103,s104,s105,s106,s107,s108,s109,s110,s111,s112,s113,s114,s115,s116,s117,s118,s119,s120,s121,s122,s123,s124,s125,s126,s127,s128,s129,s130,s131,s132,s133,s134,s135,s136,s137,s138,s139,s140,s141,s142,s143,s144,s145,s146,s147,s148,s149,s150,s151,s152,s153,s154,s155,s156,s157,s158,s159,s160,s161,s162,s163,s164,s165,s166,s167,s168,s169,s170,s171,s172,s173,s174,s175,s176,s177,s178,s179,s180,s181,s182,s183,s184,s185,s186,s187,s188,s189,s190,s191,s192,s193,s194,s195,s196,s197,s198,s199,s200,s201,s202,s203,s204,s205,s206,s207,s208,s209,s210,s211,s212,s213,s214,s215,s216,s217,s218,s219,s220,s221,s222,s223,s224,s225,s226,s227,s228,s229,s230,s231,s232,s233,s234,s235,s236,s237,s238,s239,s240,s241,s242,s243,s244,s245,s246,s247,s248,s249,s250,s251,s252,s253,s254,s255] M1 := by
    intro h s1 s2 s4 s5 s6 s7 s8 s9 s10 s11 s12 s13 s14 s15 s16 s17 s18 s19 s20 s21 s22 s23 s24 s25 s26 s27 s28 s29 s30 s31 s32 s33 s34 s35 s36 s37 s38 s39 s40 s41 s42 s43 s44 s45 s46 s47 s48 s49 s50 s51 s52 s53 s54 s55 s56 s57 s58 s59 s60 s61 s62 s63 s64 s65 s66 s67 s68 s69 s70 s71 s72 s73 s74 s75 s76 s77 s78 s79 s80 s81 s82 s83 s84 s85 s86 s87 s88 s89 s90 s91 s92 s93 s94 s95 s96 s97 s98 s99 s100 s101 s102 s103 s104 s105 s106 s107 s108 s109 s110 s111 s112 s113 s114 s115 s116 s117 s118 s119 s120 s121 s122 s123 s124 s125 s126 s127 s128 s129 s130 s131 s132 s133 s134 s135 s136 s137 s138 s139 s140 s141 s142 s143 s144 s145 s146 s147 s148 s149 s150 s151 s152 s153 s154 s155 s156 s157 s158 s159 s160 s161 s162 s163 s164 s165 s166 s167 s168 s169 s170 s171 s172 s173 s174 s175 s176 s177 s178 s179 s180 s181 s182 s183 s184 s185 s186 s187 s188 s189 s190 s191 s192 s193 s194 s195 s196 s197 s198 s199 s200 s201 s202 s203 s204 s205 s206 s207 s208 s209 s210 s211 s212 s213 s214 s215 s216 s217 s218 s219 s220 s221 s222 s223 s224 s225 s226 s227 s228 s229 s230 s231 s232 s233 s234 s235 s236 s237 s238 s239 s240 s241 s242 s243 s244 s245 s246 s247 s248 s249 s250 s251 s252 s253 s254 s255
    rw [show ((i : Int) + 1) = ((i + 1 : Nat) : Int) by omega]
    refine ih (i + 1) M1 _ _ _ _ _ _ _ _ _ _ _ _ _ _ _ _ _ _ _ _ _ _ _ _ _ _ _ _ _ _ _ _ _ _ _ _ _ _ _ _ _ _ _ _ _ _ _ _ _ _ _ _ _ _ _ _ _ _ _ _ _ _ _ _ _ _ _ _ _ _ _ _ _ _ _ _ _ _ _ _ _ _ _ _ _ _ _ _ _ _ _ _ _ _ _ _ _ _ _ _ _ _ _ _ _ _ _ _ _ _ _ _ _ _ _ _ _ _ _ _ _ _ _ _ _ _ _ _ _ _ _ _ _ _ _ _ _ _ _ _ _ _ _ _ _ _ _ _ _ _ _ _ _ _ _ _ _ _ _ _ _ _ _ _ _ _ _ _ _ _ _ _ _ _ _ _ _ _ _ _ _ _ _ _ _ _ _ _ _ _ _ _ _ _ _ _ _ _ _ _ _ _ _ _ _ _ _ _ _ _ _ _ _ _ _ _ _ _ _ _ _ _ _ _ _ _ _ _ _ _ _ _ _ _ _ _ _ _ _ _ _ _ _ _ _ _ _ _ _ _ _ _ _ _ (by omega) hp1' (fun j m hj hm => ?_)
    by_cases e : j = i
    · subst e; rw [hnd] at hm; cases hm; exact h
    · exact hf j m (by omega) hm
   clear ih hf hk
   have z0 : (n.kind = 0) ↔ (n.kind.toNat : Int) = 0 := ⟨fun h => by rw [h]; rfl,fun h => UInt8.toNat_inj.1 (by show n.kind.toNat = 0; omega)⟩
   have z3 : (n.kind = 3) ↔ (n.kind.toNat : Int) = 3 := ⟨fun h => by rw [h]; rfl,fun h => UInt8.toNat_inj.1 (by show n.kind.toNat = 3; omega)⟩
   by_cases c0 : (3 : Int) < n.kind.toNat
   · simp [hlen,hlt,hp1,hp2,Nod.cells,hone,hM,hcM,hlM,c0]
     exact bad (fun h => by have := h.1; omega)
   · by_cases c1 : (n.kind.toNat : Int) = 0
     · have kz := z0.2 c1
       by_cases c2 : (5 : Int) < n.agg.toNat
       · simp [hlen,hlt,hp1,hp2,Nod.cells,hone,hM,hcM,hlM,c1,c2]
         exact bad (fun h => by have := (h.2.1 kz).1; omega)
       · by_cases c3 : (5 : Int) < n.cmp.toNat
         · simp [hlen,hlt,hp1,hp2,Nod.cells,hone,hM,hcM,hlM,c1,c2,c3]
           exact bad (fun h => by have := (h.2.1 kz).2; omega)
         · simp [hlen,hlt,hp1,hp2,Nod.cells,hone,hM,hcM,hlM,c1,c2,c3,w1]
           exact good ⟨by omega,fun _ => ⟨by omega,by omega⟩,fun h => absurd kz h⟩ _ _ _ _ _ _ _ _ _ _ _ _ _ _ _ _ _ _ _ _ _ _ _ _ _ _ _ _ _ _ _ _ _ _ _ _ _ _ _ _ _ _ _ _ _ _ _ _ _ _ _ _ _ _ _ _ _ _ _ _ _ _ _ _ _ _ _ _ _ _ _ _ _ _ _ _ _ _ _ _ _ _ _ _ _ _ _ _ _ _ _ _ _ _ _ _ _ _ _ _ _ _ _ _ _ _ _ _ _ _ _ _ _ _ _ _ _ _ _ _ _ _ _ _ _ _ _ _ _ _ _ _ _ _ _ _ _ _ _ _ _ _ _ _ _ _ _ _ _ _ _ _ _ _ _ _ _ _ _ _ _ _ _ _ _ _ _ _ _ _ _ _ _ _ _ _ _ _ _ _ _ _ _ _ _ _ _ _ _ _ _ _ _ _ _ _ _ _ _ _ _ _ _ _ _ _ _ _ _ _ _ _ _ _ _ _ _ _ _ _ _ _ _ _ _ _ _ _ _ _ _ _ _ _ _ _ _ _ _ _ _ _ _ _ _ _ _ _ _ _ _ _ _ _
     · have kz : n.kind ≠ 0 := fun h => c1 (z0.1 h)
       have c1b : ((n.kind.toNat : Int) == 0) = false := by simpa using c1
       have cg : 0 < n.kind.toNat := by omega
       by_cases c4 : n.left < 0
       · simp [hlen,hlt,hp1,hp2,Nod.cells,hone,hM,hcM,hlM,c0,c1b,cg,c4]
         exact bad (fun h => by have := (h.2.2 kz).1; omega)
       · by_cases c5 : (i : Int) ≤ n.left
         · simp [hlen,hlt,hp1,hp2,Nod.cells,hone,hM,hcM,hlM,c0,c1b,cg,c4,c5]
           exact bad (fun h => by have := (h.2.2 kz).2.1; omega)
         · by_cases c6 : n.right < 0
           · simp [hlen,hlt,hp1,hp2,Nod.cells,hone,hM,hcM,hlM,c0,c1b,cg,c4,c5,c6]
             exact bad (fun h => by have := (h.2.2 kz).2.2.1; omega)
           · by_cases c7 : (i : Int) ≤ n.right
             · by_cases c8 : (n.kind.toNat : Int) = 3
               · have c8b : ((n.kind.toNat : Int) != 3) = false := by simpa using c8
                 simp [hlen,hlt,hp1,hp2,Nod.cells,hone,hM,hcM,hlM,c0,c1b,cg,c4,c5,c6,c7,c8b,w1]
                 exact good ⟨by omega,fun h => absurd h kz,fun _ => ⟨by omega,by omega,by omega,fun h => absurd (z3.2 c8) h⟩⟩ _ _ _ _ _ _ _ _ _ _ _ _ _ _ _ _ _ _ _ _ _ _ _ _ _ _ _ _ _ _ _ _ _ _ _ _ _ _ _ _ _ _ _ _ _ _ _ _ _ _ _ _ _ _ _ _ _ _ _ _ _ _ _ _ _ _ _ _ _ _ _ _ _ _ _ _ _ _ _ _ _ _ _ _ _ _ _ _ _ _ _ _ _ _ _ _ _ _ _ _ _ _ _ _ _ _ _ _ _ _ _ _ _ _ _ _ _ _ _ _ _ _ _ _ _ _ _ _ _ _ _ _ _ _ _ _ _ _ _ _ _ _ _ _ _ _ _ _ _ _ _ _ _ _ _ _ _ _ _ _ _ _ _ _ _ _ _ _ _ _ _ _ _ _ _ _ _ _ _ _ _ _ _ _ _ _ _ _ _ _ _ _ _ _ _ _ _ _ _ _ _ _ _ _ _ _ _ _ _ _ _ _ _ _ _ _ _ _ _ _ _ _ _ _ _ _ _ _ _ _ _ _ _ _ _ _ _ _ _ _ _ _ _ _ _ _ _ _ _ _ _ _ _ _
               · have c8b : ((n.kind.toNat : Int) != 3) = true := by simpa using c8
                 simp [hlen,hlt,hp1,hp2,Nod.cells,hone,hM,hcM,hlM,c0,c1b,cg,c4,c5,c6,c7,c8b]
                 exact bad (fun h => by have := (h.2.2 kz).2.2.2 (fun e => c8 (z3.1 e)); omega)
             · simp [hlen,hlt,hp1,hp2,Nod.cells,hone,hM,hcM,hlM,c0,c1b,cg,c4,c5,c6,c7,w1]
               exact good ⟨by omega,fun h => absurd h kz,fun _ => ⟨by omega,by omega,by omega,fun _ => by omega⟩⟩ _ _ _ _ _ _ _ _ _ _ _ _ _ _ _ _ _ _ _ _ _ _ _ _ _ _ _ _ _ _ _ _ _ _ _ _ _ _ _ _ _ _ _ _ _ _ _ _ _ _ _ _ _ _ _ _ _ _ _ _ _ _ _ _ _ _ _ _ _ _ _ _ _ _ _ _ _ _ _ _ _ _ _ _ _ _ _ _ _ _ _ _ _ _ _ _ _ _ _ _ _ _ _ _ _ _ _ _ _ _ _ _ _ _ _ _ _ _ _ _ _ _ _ _ _ _ _ _ _ _ _ _ _ _ _ _ _ _ _ _ _ _ _ _ _ _ _ _ _ _ _ _ _ _ _ _ _ _ _ _ _ _ _ _ _ _ _ _ _ _ _ _ _ _ _ _ _ _ _ _ _ _ _ _ _ _ _ _ _ _ _ _ _ _ _ _ _ _ _ _ _ _ _ _ _ _ _ _ _ _ _ _ _ _ _ _ _ _ _ _ _ _ _ _ _ _ _ _ _ _ _ _ _ _ _ _ _ _ _ _ _ _ _ _ _ _ _ _ _ _ _ _ _ _
end
set_option maxRecDepth 20000 in
theorem r_print {H : AHeap} {v : Value} {ns : List Nod} (hn : NodesAt H v ns) (hok : PrOk ns) (hl : ns.length < 2 ^ 62) : ACalls prog 54 [v] H (str (printS ns)) H := by
 rw [← refP_eq]
 refine acalls_pure MixT func54 (by decide) rfl ?_
 rw [d54]
 have hlen := hn.len
 by_cases h1 : (ns.length : Int) < 1
 · have e : refP ns = [] := by unfold refP; rw [if_pos (by omega)]
   simp [hlen,h1,e]
 · by_cases h31 : (31 : Int) < ns.length
   · have e : refP ns = [] := by unfold refP; rw [if_pos (by omega)]
     simp [hlen,h1,h31,e]
   · simp [hlen,h1,h31]
     exact ⟨ns.length + 1,fit_loop hn (by omega) (by omega) hok (k := fun u H2 => u = str (refP ns) ∧ ∃ X,H2 = H ++ X) (fun K p => ⟨rfl,p⟩) ns.length 0 H _ _ _ _ _ _ _ _ _ _ _ _ _ _ _ _ _ _ _ _ _ _ _ _ _ _ _ _ _ _ _ _ _ _ _ _ _ _ _ _ _ _ _ _ _ _ _ _ _ _ _ _ _ _ _ _ _ _ _ _ _ _ _ _ _ _ _ _ _ _ _ _ _ _ _ _ _ _ _ _ _ _ _ _ _ _ _ _ _ _ _ _ _ _ _ _ _ _ _ _ _ _ _ _ _ _ _ _ _ _ _ _ _ _ _ _ _ _ _ _ _ _ _ _ _ _ _ _ _ _ _ _ _ _ _ _ _ _ _ _ _ _ _ _ _ _ _ _ _ _ _ _ _ _ _ _ _ _ _ _ _ _ _ _ _ _ _ _ _ _ _ _ _ _ _ _ _ _ _ _ _ _ _ _ _ _ _ _ _ _ _ _ _ _ _ _ _ _ _ _ _ _ _ _ _ _ _ _ _ _ _ _ _ _ _ _ _ _ _ _ _ _ _ _ _ _ _ _ _ _ _ _ _ _ _ _ _ _ _ _ _ _ _ _ _ _ _ _ _ _ _ _ _ _ (by omega) (.refl _) (fun j n hj => by omega)⟩
theorem r_right {H : AHeap} {v : Value} {ns : List Nod} (hn : NodesAt H v ns) (hok : PrOk ns) (hl : ns.length < 2 ^ 62) : ACalls prog 47 [v] H (.bool (right ns)) H := by
 refine acalls_pure MixT func47 (by decide) rfl ?_
 rw [d47]
 refine bndC_of (r_print hn hok hl) ?_
 cases hr : right ns with
 | true =>
   have := print_ne hr
   simp [this]
 | false =>
   have := print_nil hr
   simp [this]
end Go.Vi
namespace Go.Vi
open Go Go.Proofs
def Nod.tame (n : Nod) : Prop := n.sel.length ≤ 100 ∧ ∀ m ∈ n.sel,m.tame
section
variable {H : AHeap} {ns : List Nod} {v : Value} {k : Value → AHeap → Prop}
end
theorem tame_ok {ns : List Nod} (ht : ∀ n ∈ ns,n.tame) (hw : ∀ n ∈ ns,n.window < 2 ^ 63) : PrOk ns := ⟨hw,fun n hn => by have := (ht n hn).1; omega,fun n hn => (ht n hn).2⟩
end Go.Vi
namespace Go.Vi
open Go Go.Proofs Go.Proofs.Try
theorem nel1 : aElem prog 22 = some (50,8,72) := by kernel_rfl
theorem nel2 : isSeq prog 22 = true := by kernel_rfl
theorem mel1 : aElem prog 40 = some (28,10,40) := by kernel_rfl
theorem mel2 : isSeq prog 40 = true := by kernel_rfl
theorem Gro.fr {K K' lo z T v cl} (h : Gro K lo z T v cl) (hf : ∀ (b : Nat) o,lo ≤ b → K[b]? = some o → K'[b]? = some o) : Gro K' lo z T v cl := by
 cases h with
 | nil => exact .nil
 | mk bb cl h1 h2 h3 h4 => exact .mk bb cl h1 (hf _ _ h1 h2) h3 h4
end Go.Vi
namespace Go.Vi
open Go Go.Proofs
theorem src_flat {z : Nat} {cs : List Value} : ∀ (l : List (List Value)) (o : Nat),(∀ (i : Nat) e,l[i]? = some e → (cs.drop (o + i * z)).take z = e) → (cs.drop o).take (l.length * z) = l.flatten := by
 intro l
 induction l with
 | nil => intro o _; simp
 | cons c r ih =>
   intro o h
   have h0 := h 0 c rfl
   have hr := ih (o + z) fun i e hi => by
    have := h (i + 1) e (by simpa using hi)
    rw [← this,Nat.add_mul,Nat.one_mul]; congr 2; omega
   rw [List.length_cons,Nat.add_mul,Nat.one_mul,Nat.add_comm,List.take_add,List.drop_drop,hr,List.flatten_cons]
   simpa using congrArg (· ++ r.flatten) h0
theorem Arr.src {H z v l} (h : Arr H z v l) : aSrc H z v = some (l.length,l.flatten) := by
 cases h with
 | nil => rfl
 | mk b o m n c cs l hn hcs hm hle hel =>
   subst hn
   simp only [aSrc,hcs]
   rw [if_pos ⟨hm.symm,by omega⟩,src_flat l o hel]
theorem Arr.all_len {H z v l} (h : Arr H z v l) : ∀ c ∈ l,c.length = z := by
 intro c hc
 obtain ⟨i,hi⟩ := List.getElem?_of_mem hc
 exact h.elen hi
theorem Gro.pushN {P : Program} {K : AHeap} {lo z by_ : Nat} {T Ts : TypeId} {v x : Value} {cl ds : List (List Value)} (h : Gro K lo z T v cl) (hT : aElem P Ts = some (T,z,by_)) (hsq : isSeq P Ts = true) (hc : ∀ c ∈ ds,c.length = z) (hlo : lo ≤ K.length)
  (hx : aSrc K z x = some (ds.length,ds.flatten)) (hb : (cl.length + ds.length) * by_ ≤ 140737488355328) (hn : cl.length + ds.length ≤ 9223372036854775807) :
  ∃ v' K',aBuiltin P K .append #[Ts,Ts] [v,x] = some (v',K') ∧ Gro K' lo z T v' (cl ++ ds) ∧ (∀ b o,b < lo → K[b]? = some o → K'[b]? = some o) ∧ K.length ≤ K'.length ∧ (∀ H,Pre H K → H.length ≤ lo → Pre H K') := by
 by_cases hd : ds = []
 · subst hd
   refine ⟨v,K,?_,by simpa using h,fun b o _ h => h,Nat.le_refl _,fun H p _ => p⟩
   cases h with
   | nil => simp at hx; simp [aBuiltin,aAppend,hT,hx,hsq]
   | mk bb cl h1 h2 h3 h4 =>
     have hfl := flat_len h4
     simp at hx
     simp [aBuiltin,aAppend,hT,hx,hsq,h2,hfl]
     rw [putCells_eq _ _ _ (by rw [hfl]; simp)]
     simp
     exact set_same h2
 have hdl : 0 < ds.length := List.length_pos_iff.2 hd
 have hfd := flat_len hc
 cases h with
 | nil =>
   refine ⟨.slice (some ⟨K.length,0,some (ds.length * z)⟩) ds.length ds.length,K ++ [.cells ds.flatten T],?_,?_,fun b o hb ho => get_more ho,by simp,fun H p _ => p.more _⟩
   · have hb' : ds.length * by_ ≤ 140737488355328 := by simpa using hb
     have hn' : ds.length ≤ 9223372036854775807 := by simpa using hn
     have hne : ¬ ds.length = 0 := by omega
     simp only [aBuiltin,aAppend,hT,hx,hsq,if_true,hne,if_false,hb',hn',and_self,hfd]
   · have := Gro.mk (K := K ++ [.cells ds.flatten T]) (lo := lo) (z := z) (T := T) K.length ds hlo (by simp) hd hc
     simpa using this
 | mk bb cl h1 h2 h3 h4 =>
   have hfl := flat_len h4
   have hlt := (List.getElem?_eq_some_iff.1 h2).1
   refine ⟨.slice (some ⟨bb,0,some ((cl.length + ds.length) * z)⟩) (cl.length + ds.length) (cl.length + ds.length),K.set bb (.cells (cl ++ ds).flatten T),?_,?_,fun b o hb ho => by rw [List.getElem?_set_ne (by omega)]; exact ho,by simp,fun H p hH => p.set (by omega)⟩
   · have e1 : cl.length * z = cl.flatten.length := hfl.symm
     have e2 : ¬ cl.length + ds.length ≤ cl.length := by omega
     simp only [aBuiltin,aAppend,hT,hx,hsq,if_true,h2,hfl,Nat.zero_add,Nat.le_refl,and_self,e2,if_false,hb,hn]
     have e3 : (cl.flatten.take (cl.length * z)) = cl.flatten := List.take_of_length_le (by omega)
     rw [e3]
     simp
   · have := Gro.mk (K := K.set bb (.cells (cl ++ ds).flatten T)) (lo := lo) (z := z) (T := T) bb (cl ++ ds) h1 (List.getElem?_set_self hlt) (by simp [h3]) (by
      intro x hx
      rw [List.mem_append] at hx
      rcases hx with hx | hx
      · exact h4 x hx
      · exact hc x hx)
     simpa using this
theorem acalls_bool {P : Program} (hm : P.follows .mixedOrders = true) {f fn args H} {Q : Prop} (hf : P.funcs[f]? = some fn) (hn : notNG fn = true)
  (hr : ∀ k : Value → AHeap → Prop,(∀ K,Pre H K → k (.bool true) K) → (Q → ∀ K,Pre H K → k (.bool false) K) → kbody P fn args H k) : ∃ b,(b = false → Q) ∧ ACalls P f args H (.bool b) H := by
 obtain ⟨v,H',⟨b,rfl,hq,X,rfl⟩,h⟩ := acalls_ex hm hf hn (hr (fun u H2 => ∃ b,u = .bool b ∧ (b = false → Q) ∧ Pre H H2) (fun K p => ⟨true,rfl,by simp,p⟩) fun q K p => ⟨false,rfl,fun _ => q,p⟩)
 exact ⟨b,hq,h.trim rfl⟩
def Rul.small (r : Rul) : Prop := r.mutes.length ≤ 100 ∧ r.nodes.length ≤ 100 ∧ ∀ n ∈ r.nodes,n.sel.length ≤ 50
section
variable {r : Rul} {H : AHeap} {nv mv : Value} {b : Nat} {k : Value → AHeap → Prop}
end
end Go.Vi
namespace Go.Vi
open Go Go.Proofs Go.Proofs.Try
def Cfg.small (c : Cfg) : Prop := c.rules.length ≤ 20 ∧ c.mutes.length ≤ 50 ∧ ∀ r ∈ c.rules,r.small
section
variable {c : Cfg} {H : AHeap} {rv mv : Value} {b : Nat} {k : Value → AHeap → Prop}
theorem RulesAt.lenR {H v rs} (h : RulesAt H v rs) (K : AHeap) : aLen prog K 39 v = some (i64 rs.length) := by
 obtain ⟨cl,h1,h2,_⟩ := h
 rw [← h2]
 exact h1.len' (e := 25) (by simp)
theorem MutesAt.lenM {H v ms} (h : MutesAt H v ms) (K : AHeap) : aLen prog K 40 v = some (i64 ms.length) := by
 have := h.1.len' (P := prog) (K := K) (T := 40) (e := 28) (by simp)
 simpa using this
theorem RulesAt.one {H v rs} (h : RulesAt H v rs) : v.oneCell' = true := by obtain ⟨_,h,_⟩ := h; exact h.one
theorem MutesAt.one {H v ms} (h : MutesAt H v ms) : v.oneCell' = true := h.1.one
theorem Mut.hd (m : Mut) : m.cells[0]? = some (str m.name) := rfl
end
end Go.Vi
namespace Go.Vi
open Go Go.Proofs Go.Proofs.Try
theorem xel1 : aElem prog 48 = some (52,3,40) := by kernel_rfl
theorem xel2 : isSeq prog 48 = true := by kernel_rfl
theorem sel1 : aElem prog 23 = some (9,1,16) := by kernel_rfl
theorem sel2 : isSeq prog 23 = true := by kernel_rfl
theorem rel1 : aElem prog 39 = some (25,8,120) := by kernel_rfl
theorem rel2 : isSeq prog 39 = true := by kernel_rfl
theorem Gro.wk {K lo lo' z T v cl} (h : Gro K lo z T v cl) (hl : lo' ≤ lo) : Gro K lo' z T v cl := by
 cases h with
 | nil => exact .nil
 | mk bb cl h1 h2 h3 h4 => exact .mk bb cl (Nat.le_trans hl h1) h2 h3 h4
def KTy (T : TypeId) (K K' : AHeap) : Prop := ∀ (b : Nat) o,K[b]? = some o → (∀ cs,o ≠ .cells cs T) → K'[b]? = some o
theorem Gro.kt {T' : TypeId} {K K' lo z T v cl} (h : Gro K lo z T v cl) (hk : KTy T' K K') (hT : T ≠ T') : Gro K' lo z T v cl := by
 cases h with
 | nil => exact .nil
 | mk bb cl h1 h2 h3 h4 => exact .mk bb cl h1 (hk _ _ h2 fun cs e => hT (by cases e; rfl)) h3 h4
theorem Gro.pushK {P : Program} {K : AHeap} {lo z by_ : Nat} {T Ts : TypeId} {v x : Value} {cl : List (List Value)} {c : List Value} (h : Gro K lo z T v cl) (hT : aElem P Ts = some (T,z,by_)) (hsq : isSeq P Ts = true) (hc : c.length = z) (hlo : lo ≤ K.length)
  (hx : aSrc K z x = some (1,c)) (hb : (cl.length + 1) * by_ ≤ 140737488355328) (hn : cl.length + 1 ≤ 9223372036854775807) :
  ∃ v' K',aBuiltin P K .append #[Ts,Ts] [v,x] = some (v',K') ∧ Gro K' lo z T v' (cl ++ [c]) ∧ (∀ b o,b < lo → K[b]? = some o → K'[b]? = some o) ∧ K.length ≤ K'.length ∧ (∀ H,Pre H K → H.length ≤ lo → Pre H K') ∧ KTy T K K' := by
 obtain ⟨v',K',h1,h2,h3,h4,h5⟩ := h.push hT hsq hc hlo hx hb hn
 refine ⟨v',K',h1,h2,h3,h4,h5,fun b o hbo hne => ?_⟩
 cases h with
 | nil =>
   have hb' : by_ ≤ 140737488355328 := by simpa using hb
   simp [aBuiltin,aAppend,hT,hx,hsq,hb',hc] at h1
   rw [← h1.2]; exact get_more hbo
 | mk bb cl g1 g2 g3 g4 =>
   have hfl := flat_len g4
   have e2 : ¬ cl.length + 1 ≤ cl.length := by omega
   simp only [aBuiltin,aAppend,hT,hx,hsq,if_true,g2,hfl,Nat.zero_add,Nat.le_refl,and_self,e2,if_false,hb,hn,Option.some.injEq,Prod.mk.injEq] at h1
   rw [← h1.2,List.getElem?_set_ne (by rintro rfl; rw [hbo] at g2; cases g2; exact hne _ rfl)]
   exact hbo
def NRow (K : AHeap) (lo : Nat) (v : Value) (ns : List Nod) : Prop := ∃ cl,Gro K lo 8 50 v cl ∧ cl.length = ns.length ∧ ∀ (i : Nat) n,ns[i]? = some n → ∃ sv,cl[i]? = some (n.cells sv) ∧ Gro K lo 3 52 sv (n.sel.map Mat.cells) ∧ n.sel.length < 2 ^ 63
theorem NRow.fr {K K' lo v ns} (h : NRow K lo v ns) (hf : ∀ (b : Nat) o,lo ≤ b → K[b]? = some o → K'[b]? = some o) : NRow K' lo v ns := by
 obtain ⟨cl,h1,h2,h3⟩ := h
 refine ⟨cl,h1.fr hf,h2,fun i n hi => ?_⟩
 obtain ⟨sv,q1,q2,q3⟩ := h3 i n hi
 exact ⟨sv,q1,q2.fr hf,q3⟩
theorem NRow.wk {K lo lo' v ns} (h : NRow K lo v ns) (hl : lo' ≤ lo) : NRow K lo' v ns := by
 obtain ⟨cl,h1,h2,h3⟩ := h
 refine ⟨cl,h1.wk hl,h2,fun i n hi => ?_⟩
 obtain ⟨sv,q1,q2,q3⟩ := h3 i n hi
 exact ⟨sv,q1,q2.wk hl,q3⟩
theorem NRow.kt {T' : TypeId} {K K' lo v ns} (h : NRow K lo v ns) (hk : KTy T' K K') (h1 : 50 ≠ T') (h2 : 52 ≠ T') : NRow K' lo v ns := by
 obtain ⟨cl,q1,q2,h3⟩ := h
 refine ⟨cl,q1.kt hk h1,q2,fun i n hi => ?_⟩
 obtain ⟨sv,q1,q2,q3⟩ := h3 i n hi
 exact ⟨sv,q1,q2.kt hk h2,q3⟩
theorem NRow.at {K lo v ns} (h : NRow K lo v ns) : NodesAt K v ns := by
 obtain ⟨cl,h1,h2,h3⟩ := h
 refine ⟨cl,h1.arr,h2,fun i n hi => ?_⟩
 obtain ⟨sv,q1,q2,q3⟩ := h3 i n hi
 exact ⟨sv,q1,q2.arr,q3⟩
theorem NRow.one {K lo v ns} (h : NRow K lo v ns) : v.oneCell' = true := by obtain ⟨cl,h1,_⟩ := h; exact h1.one
theorem NRow.cells {K lo v ns} (h : NRow K lo v ns) : v.cells = #[v] := by obtain ⟨cl,h1,_⟩ := h; exact h1.cells
theorem NRow.stor {K lo v ns} (h : NRow K lo v ns) : storable v = true := by obtain ⟨cl,h1,_⟩ := h; exact h1.stor
theorem get_snoc {α : Type} {l : List α} {a b : α} {i : Nat} (h : (l ++ [a])[i]? = some b) : (i < l.length ∧ l[i]? = some b) ∨ (i = l.length ∧ b = a) := by
 rcases Nat.lt_or_ge i l.length with hlt | hge
 · rw [List.getElem?_append_left hlt] at h; exact .inl ⟨hlt,h⟩
 · rw [List.getElem?_append_right hge] at h
   have h0 : i - l.length = 0 := by
    have := (List.getElem?_eq_some_iff.1 h).1; simp at this; omega
   rw [h0] at h
   simp at h
   exact .inr ⟨by omega,h.symm⟩
theorem NRow.push {K lo v ns} (h : NRow K lo v ns) (n : Nod) (sv : Value) (hsv : Gro K lo 3 52 sv (n.sel.map Mat.cells)) (hsl : n.sel.length < 2 ^ 63) (hns : ns.length + 1 ≤ 2 ^ 30) (hlo : lo ≤ K.length) :
  ∃ v' K2, aBuiltin prog (K ++ [AObj.cells (n.cells sv) 50]) .append #[22, 22] [v, .slice (some ⟨K.length, 0, some 8⟩) 1 1] = some (v', K2) ∧
    NRow K2 lo v' (ns ++ [n]) ∧ (∀ H,Pre H K → H.length ≤ lo → Pre H K2) ∧ K.length ≤ K2.length := by
 obtain ⟨cl,hg,hcl,hall⟩ := h
 obtain ⟨v',K2,q1,q2,q3,q4,q5,q6⟩ := Gro.pushK (P := prog) (Ts := 22) (by_ := 72) (x := .slice (some ⟨K.length,0,some 8⟩) 1 1) (c := n.cells sv) (hg.app (X := [AObj.cells (n.cells sv) 50])) nel1 nel2 (by rfl) (by simp; omega) (by simp [aSrc,Nod.cells]) (by omega) (by omega)
 have hmat : ∀ {sv ms},Gro K lo 3 52 sv ms → Gro K2 lo 3 52 sv ms := fun hg => hg.app.kt q6 (by decide)
 refine ⟨v',K2,q1,⟨cl ++ [n.cells sv],q2,by simp [hcl],fun i m hi => ?_⟩,fun H p hH => q5 H (p.more _) hH,by simp at q4; omega⟩
 rcases get_snoc hi with ⟨hlt,hi⟩ | ⟨rfl,rfl⟩
 · obtain ⟨sv',e1,e2,e3⟩ := hall i m hi
   exact ⟨sv',by rw [List.getElem?_append_left (by omega)]; exact e1,hmat e2,e3⟩
 · exact ⟨sv,by rw [List.getElem?_append_right (by omega),hcl]; simp,hmat hsv,hsl⟩
theorem nod_lit8 {K : AHeap} (n : Nod) {sv : Value} (hs : sv.oneCell' = true) : sliceLit prog K 22 1 [(0,.agg (n.cells sv).toArray)] (.slice (some ⟨K.length,0,some 8⟩) 1 1) (K ++ [.cells (n.cells sv) 50]) :=
 sliceLitA (c := n.cells sv) (tbs22 K 1 _) (by rfl) (by simp [Nod.cells,hs]) (by simp)
theorem c_copyMats {H : AHeap} {v : Value} {ms : List Mat} (h : MatsAt H v ms) (hl : ms.length ≤ 50) : ∃ v' K',ACalls prog 40 [v] H v' K' ∧ Pre H K' ∧ Gro K' H.length 3 52 v' (ms.map Mat.cells) := by
 obtain ⟨v1,K1,p1,p2,p3,p4,p5⟩ := Gro.pushN (P := prog) (K := H) (lo := H.length) (v := .slice none 0 0) (cl := []) (ds := ms.map Mat.cells) (by_ := 40) .nil xel1 xel2 (Arr.all_len h) (Nat.le_refl _) (Arr.src h) (by simp; omega) (by simp; omega)
 refine ⟨v1,K1,acalls_of MixT func40 (by decide) ?_,p5 H (Pre.refl _) (Nat.le_refl _),by simpa using p2⟩
 rw [d40,p1]
 simp
theorem copyN_loop {ns : List Nod} {H : AHeap} {v : Value} {k : Value → AHeap → Prop} (hn0 : NodesAt H v ns) (hnl : ns.length ≤ 100) (hs : ∀ n ∈ ns,n.sel.length ≤ 50) (hk : ∀ u K,Pre H K → NRow K H.length u ns → k u K) :
  ∀ (l : List Nod) (i : Nat) (K : AHeap) (out : Value) (s1 s2 s5 s6 s7 s8 s9 s10 s11 s12 s13 s14 s15 s16 s17 s18 s19 s20 s21 s22 s23 s24 s25 s26 s27 : Value), ns.drop i = l → i ≤ ns.length → Pre H K → NRow K H.length out (ns.take i) →
    L19x0 (l.length + 1) k [v,s1,s2,out,i64 i,s5,s6,s7,s8,s9,s10,s11,s12,s13,s14,s15,s16,s17,s18,s19,s20,s21,s22,s23,s24,s25,s26,s27] K := by
 intro l
 induction l with
 | nil =>
   intro i K out s1 s2 s5 s6 s7 s8 s9 s10 s11 s12 s13 s14 s15 s16 s17 s18 s19 s20 s21 s22 s23 s24 s25 s26 s27 hd hi hp hr
   have hle : ns.length ≤ i := by simpa using hd
   have hl := (hn0.pre hp).len K
   rw [List.length_nil,L19x0q]
   have : ¬ i < ns.length := by omega
   rw [List.take_of_length_le hle] at hr
   simp [hl,this]
   exact hk _ _ hp hr
 | cons n l ih =>
   intro i K out s1 s2 s5 s6 s7 s8 s9 s10 s11 s12 s13 s14 s15 s16 s17 s18 s19 s20 s21 s22 s23 s24 s25 s26 s27 hd hi hp hr
   have hb : ns[i]? = some n := by rw [← List.head?_drop,hd]; rfl
   have hlt : i < ns.length := (List.getElem?_eq_some_iff.1 hb).1
   have hl := (hn0.pre hp).len K
   obtain ⟨cl,ha,hcl,hc⟩ := hn0.pre hp
   obtain ⟨sv,hsv,hm,hml⟩ := hc _ _ hb
   obtain ⟨p,hp1,hp2⟩ := ha.load (P := prog) (T := 22) (te := 50) (i := i) (e := n.cells sv) (by simp) (by simp) (by simp) hsv
   have hone := hm.one
   have hpl : H.length ≤ K.length := by obtain ⟨X,rfl⟩ := hp; simp
   rw [List.length_cons,L19x0q]
   have hhl := fun X : AHeap => (ha.pre (.app K X)).field (P := prog) (T := 22) (te := 50) (ft := 48) (f := 2) (d := 2) (i := i) (x := sv) (by simp) (by simp) (by simp) (by simp) (by simp) hsv rfl
   obtain ⟨q1,q2,f1,f2,f3⟩ := hhl [.cells (n.cells sv) 50]
   simp only [Nod.cells] at f1 f2 f3
   simp [hl,hlt,hp1,hp2,Nod.cells,hone,f1,f2,f3]
   obtain ⟨v',K',g1,g2,g3⟩ := c_copyMats (hm.pre (.app K [.cells (n.cells sv) 50])) (hs n (List.mem_of_getElem? hb))
   simp only [Nod.cells] at g1 g2 g3
   refine bndC_of g1 ?_
   have hcc : hcells K' K.length = some (n.cells sv) := g2.hcells (by simp [Nod.cells])
   have hkk := g2.get (b := K.length) (o := .cells (n.cells sv) 50) (by simp [Nod.cells])
   have hl8 : hlen K' K.length = some 8 := by rw [hcells_len hcc]; rfl
   have hKl : K.length < K'.length := (List.getElem?_eq_some_iff.1 hkk).1
   have v1 := g3.one
   have v2 := g3.cells
   have v3 := g3.stor
   simp [hl8,hkk,v2,v3,Nod.cells]
   generalize hM : K'.set K.length (.cells [byt n.kind,byt n.agg,v',i64 n.window,byt n.cmp,i64 n.value,i64 n.left,i64 n.right] 50) = M
   have hMc : hcells M K.length = some (n.cells v') := by
    rw [← hM,hcells_eq,List.getElem?_set_self hKl]; rfl
   have hMp : Pre H M := by
    rw [← hM]; exact ((hp.more _).trans g2).set hpl
   have hMl : K.length < M.length := by rw [← hM]; simpa using hKl
   have hkeep : ∀ (b : Nat) o,K[b]? = some o → M[b]? = some o := fun b o ho => by
    have hbl : b < K.length := (List.getElem?_eq_some_iff.1 ho).1
    rw [← hM,List.getElem?_set_ne (by omega)]
    exact g2.get (get_more ho)
   simp [hMc,Nod.cells]
   refine bndL_lit (nod_lit8 n v1) ?_
   have hg3 : Gro M H.length 3 52 v' (n.sel.map Mat.cells) := by
    refine (g3.fr fun b o hb ho => ?_).wk (by simp; omega)
    simp at hb
    rw [← hM,List.getElem?_set_ne (by omega)]
    exact ho
   obtain ⟨v2,K2,r1,r2,r3,r4⟩ := NRow.push (hr.fr fun b o _ ho => hkeep b o ho) n v' hg3 hml (by simp; omega) (by omega)
   dsimp only
   rw [r1]
   simp [show i + 1 < 2 ^ 63 by omega]
   refine ih (i + 1) K2 v2 _ _ _ _ _ _ _ _ _ _ _ _ _ _ _ _ _ _ _ _ _ _ _ _ _ (by rw [← List.drop_drop,hd]; rfl) hlt (r3 H hMp (Nat.le_refl _)) ?_
   rw [List.take_add_one,hb]
   exact r2
theorem c_copyNodes {H : AHeap} {v : Value} {ns : List Nod} (h : NodesAt H v ns) (hnl : ns.length ≤ 100) (hs : ∀ n ∈ ns,n.sel.length ≤ 50) : ∃ v' K',ACalls prog 19 [v] H v' K' ∧ Pre H K' ∧ NRow K' H.length v' ns := by
 obtain ⟨v',K',⟨h1,h2⟩,h3⟩ : ∃ v' K',(Pre H K' ∧ NRow K' H.length v' ns) ∧ ACalls prog 19 [v] H v' K' := by
  refine acalls_ex MixT func19 (by decide) ?_
  rw [d19]
  exact ⟨ns.length + 1,copyN_loop h hnl hs (fun u K p q => ⟨p,q⟩) ns 0 H (.slice none 0 0) _ _ _ _ _ _ _ _ _ _ _ _ _ _ _ _ _ _ _ _ _ _ _ _ _ rfl (by omega) (.refl _) ⟨[],.nil,by simp,fun i n hi => by simp at hi⟩⟩
 exact ⟨v',K',h3,h1,h2⟩
end Go.Vi
namespace Go.Vi
open Go Go.Proofs Go.Proofs.Try
theorem cellF {M : AHeap} {b : Nat} {cs : List Value} {T : TypeId} (h : M[b]? = some (.cells cs T)) : hcells M b = some cs ∧ hlen M b = some cs.length := by
 have : hcells M b = some cs := by rw [hcells_eq,h]; rfl
 exact ⟨this,hcells_len this⟩
theorem c_copyRule {H : AHeap} {r : Rul} {nv mv : Value} (hn : NodesAt H nv r.nodes) (hm : Arr H 1 mv (strCells r.mutes)) (hs : r.small) :
  ∃ nv' mv' K',ACalls prog 6 [.agg (r.cells nv mv).toArray] H (.agg (r.cells nv' mv').toArray) K' ∧ Pre H K' ∧ NRow K' H.length nv' r.nodes ∧ Gro K' H.length 1 9 mv' (strCells r.mutes) := by
 obtain ⟨v,K',⟨nv',mv',rfl,h1,h2,h3⟩,h4⟩ : ∃ v K',(∃ nv' mv',v = .agg (r.cells nv' mv').toArray ∧ Pre H K' ∧ NRow K' H.length nv' r.nodes ∧ Gro K' H.length 1 9 mv' (strCells r.mutes)) ∧ ACalls prog 6 [.agg (r.cells nv mv).toArray] H v K' := by
  refine acalls_ex MixT func6 (by decide) ?_
  generalize hk : (fun (v : Value) (K' : AHeap) => ∃ nv' mv',v = .agg (r.cells nv' mv').toArray ∧ Pre H K' ∧ NRow K' H.length nv' r.nodes ∧ Gro K' H.length 1 9 mv' (strCells r.mutes)) = k
  rw [d6]
  obtain ⟨s1,s2,s3⟩ := hs
  have h1 : nv.oneCell' = true := by obtain ⟨_,h,_⟩ := hn; exact h.one
  have h2 := hm.one
  simp [aNew_agg,Rul.cells,h1,h2]
  generalize hC0 : [str r.name,str r.byL,nv,i64 r.forM,i64 r.every,i64 r.repeatM,mv,str r.route] = C0
  generalize hC1 : [Value.string { data := #[] },Value.string { data := #[] },Value.slice none 0 0,Value.int IntKind.i64 0,Value.int IntKind.i64 0,Value.int IntKind.i64 0,Value.slice none 0 0,Value.string { data := #[] }] = C1
  obtain ⟨v6,K1,g1,g2,g3⟩ := c_copyNodes (hn.pre (.app H [.cells C0 25,.cells C1 25])) s2 s3
  refine bndC_of g1 ?_
  have e0 : K1[H.length]? = some (.cells C0 25) := g2.get (by simp)
  have e1 : K1[H.length + 1]? = some (.cells C1 25) := g2.get (by simp)
  have l0 : hlen K1 H.length = some 8 := by rw [(cellF e0).2,← hC0]; rfl
  have hp1 : Pre H K1 := (Pre.app _ _).trans g2
  have hl1 : H.length + 1 < K1.length := (List.getElem?_eq_some_iff.1 e1).1
  have v1 := g3.one
  have v2 := g3.cells
  have v3 := g3.stor
  simp [l0,e0,v2,v3]
  subst hC0
  dsimp only [List.set_cons_succ,List.set_cons_zero]
  have hp2 : Pre H (K1.set H.length (.cells [str r.name,str r.byL,v6,i64 r.forM,i64 r.every,i64 r.repeatM,mv,str r.route] 25)) := hp1.set (Nat.le_refl _)
  have e2 : (K1.set H.length (.cells [str r.name,str r.byL,v6,i64 r.forM,i64 r.every,i64 r.repeatM,mv,str r.route] 25))[H.length]? = some (.cells [str r.name,str r.byL,v6,i64 r.forM,i64 r.every,i64 r.repeatM,mv,str r.route] 25) := List.getElem?_set_self (by omega)
  have e3 : (K1.set H.length (.cells [str r.name,str r.byL,v6,i64 r.forM,i64 r.every,i64 r.repeatM,mv,str r.route] 25))[H.length + 1]? = some (.cells C1 25) := by rw [List.getElem?_set_ne (by omega)]; exact e1
  have g4 : NRow (K1.set H.length (.cells [str r.name,str r.byL,v6,i64 r.forM,i64 r.every,i64 r.repeatM,mv,str r.route] 25)) (H.length + 2) v6 r.nodes := by
   refine (g3.fr fun b o hb ho => ?_).wk (by simp)
   simp at hb
   rw [List.getElem?_set_ne (by omega)]; exact ho
  generalize K1.set H.length (.cells [str r.name,str r.byL,v6,i64 r.forM,i64 r.every,i64 r.repeatM,mv,str r.route] 25) = K2 at hp2 e2 e3 g4 ⊢
  obtain ⟨c2,l2⟩ := cellF e2
  have hm2 := hm.pre hp2
  have hl2 : H.length + 1 < K2.length := (List.getElem?_eq_some_iff.1 e3).1
  simp [c2,l2]
  obtain ⟨v11,K3,p1,p2,p3,p4,p5⟩ := Gro.pushN (P := prog) (K := K2) (lo := K2.length) (v := .slice none 0 0) (cl := []) (ds := strCells r.mutes) (by_ := 16) .nil sel1 sel2 hm2.all_len (Nat.le_refl _) hm2.src (by simp [strCells]; omega) (by simp [strCells]; omega)
  rw [p1]
  simp only [bndE_some]
  have hp3 : Pre H K3 := hp2.trans (p5 K2 (Pre.refl _) (Nat.le_refl _))
  have e4 := p3 _ _ (by omega) e2
  have e5 := p3 _ _ (by omega) e3
  obtain ⟨c4,l4⟩ := cellF e4
  have w1 := p2.one
  have w2 := p2.cells
  have w3 := p2.stor
  simp [l4,e4,w2,w3]
  have hp4 : Pre H (K3.set H.length (.cells [str r.name,str r.byL,v6,i64 r.forM,i64 r.every,i64 r.repeatM,v11,str r.route] 25)) := hp3.set (Nat.le_refl _)
  have e6 : (K3.set H.length (.cells [str r.name,str r.byL,v6,i64 r.forM,i64 r.every,i64 r.repeatM,v11,str r.route] 25))[H.length]? = some (.cells [str r.name,str r.byL,v6,i64 r.forM,i64 r.every,i64 r.repeatM,v11,str r.route] 25) := List.getElem?_set_self (by omega)
  have e7 : (K3.set H.length (.cells [str r.name,str r.byL,v6,i64 r.forM,i64 r.every,i64 r.repeatM,v11,str r.route] 25))[H.length + 1]? = some (.cells C1 25) := by rw [List.getElem?_set_ne (by omega)]; exact e5
  have hl3 : H.length + 1 < (K3.set H.length (.cells [str r.name,str r.byL,v6,i64 r.forM,i64 r.every,i64 r.repeatM,v11,str r.route] 25)).length := by simp; omega
  have g5 : NRow (K3.set H.length (.cells [str r.name,str r.byL,v6,i64 r.forM,i64 r.every,i64 r.repeatM,v11,str r.route] 25)) (H.length + 2) v6 r.nodes := by
   refine g4.fr fun b o hb ho => ?_
   rw [List.getElem?_set_ne (by omega)]; exact p3 _ _ (List.getElem?_eq_some_iff.1 ho).1 ho
  have p6 : Gro (K3.set H.length (.cells [str r.name,str r.byL,v6,i64 r.forM,i64 r.every,i64 r.repeatM,v11,str r.route] 25)) (H.length + 2) 1 9 v11 (strCells r.mutes) := (p2.wk (by omega)).set (by omega)
  generalize K3.set H.length (.cells [str r.name,str r.byL,v6,i64 r.forM,i64 r.every,i64 r.repeatM,v11,str r.route] 25) = K4 at hp4 e6 e7 hl3 g5 p6 ⊢
  obtain ⟨c6,l6⟩ := cellF e6
  have l1 : C1.length = 8 := by rw [← hC1]; rfl
  simp [c6,e7,l1,w1,v1]
  have hp5 : Pre H (K4.set (H.length + 1) (.cells [str r.name,str r.byL,v6,i64 r.forM,i64 r.every,i64 r.repeatM,v11,str r.route] 25)) := hp4.set (by omega)
  have e8 : (K4.set (H.length + 1) (.cells [str r.name,str r.byL,v6,i64 r.forM,i64 r.every,i64 r.repeatM,v11,str r.route] 25))[H.length + 1]? = some (.cells [str r.name,str r.byL,v6,i64 r.forM,i64 r.every,i64 r.repeatM,v11,str r.route] 25) := List.getElem?_set_self hl3
  obtain ⟨c8,l8⟩ := cellF e8
  simp [c8]
  rw [← hk]
  exact ⟨v6,v11,rfl,hp5,(g5.fr fun b o hb ho => by rw [List.getElem?_set_ne (by omega)]; exact ho).wk (by omega),(p6.set (by omega)).wk (by omega)⟩
 exact ⟨nv',mv',K',h4,h1,h2,h3⟩
end Go.Vi
namespace Go.Vi
open Go Go.Proofs Go.Proofs.Try
def RRow (K : AHeap) (lo : Nat) (v : Value) (rs : List Rul) : Prop := ∃ cl,Gro K lo 8 25 v cl ∧ cl.length = rs.length ∧ ∀ (i : Nat) r,rs[i]? = some r → ∃ nv mv,cl[i]? = some (r.cells nv mv) ∧ NRow K lo nv r.nodes ∧ Gro K lo 1 9 mv (strCells r.mutes) ∧ r.mutes.length < 2 ^ 63
theorem RRow.fr {K K' lo v rs} (h : RRow K lo v rs) (hf : ∀ (b : Nat) o,lo ≤ b → K[b]? = some o → K'[b]? = some o) : RRow K' lo v rs := by
 obtain ⟨cl,h1,h2,h3⟩ := h
 refine ⟨cl,h1.fr hf,h2,fun i n hi => ?_⟩
 obtain ⟨nv,mv,q1,q2,q3,q4⟩ := h3 i n hi
 exact ⟨nv,mv,q1,q2.fr hf,q3.fr hf,q4⟩
theorem RRow.wk {K lo lo' v rs} (h : RRow K lo v rs) (hl : lo' ≤ lo) : RRow K lo' v rs := by
 obtain ⟨cl,h1,h2,h3⟩ := h
 refine ⟨cl,h1.wk hl,h2,fun i n hi => ?_⟩
 obtain ⟨nv,mv,q1,q2,q3,q4⟩ := h3 i n hi
 exact ⟨nv,mv,q1,q2.wk hl,q3.wk hl,q4⟩
theorem RRow.at {K lo v rs} (h : RRow K lo v rs) : RulesAt K v rs := by
 obtain ⟨cl,h1,h2,h3⟩ := h
 refine ⟨cl,h1.arr,h2,fun i n hi => ?_⟩
 obtain ⟨nv,mv,q1,q2,q3,q4⟩ := h3 i n hi
 exact ⟨nv,mv,q1,q2.at,q3.arr,q4⟩
theorem RRow.one {K lo v rs} (h : RRow K lo v rs) : v.oneCell' = true := by obtain ⟨cl,h1,_⟩ := h; exact h1.one
theorem rul_lit {K : AHeap} (r : Rul) {nv mv : Value} (h1 : nv.oneCell' = true) (h2 : mv.oneCell' = true) : sliceLit prog K 39 1 [(0,.agg (r.cells nv mv).toArray)] (.slice (some ⟨K.length,0,some 8⟩) 1 1) (K ++ [.cells (r.cells nv mv) 25]) :=
 sliceLitA (c := r.cells nv mv) (tbs39 K 1 _) (by rfl) (by simp [Rul.cells,h1,h2]) (by simp)
theorem RRow.push {K lo v rs} (h : RRow K lo v rs) (r : Rul) (nv mv : Value) (hrs : rs.length + 1 ≤ 2 ^ 30) (hlo : lo ≤ K.length) :
  ∃ v' K2, aBuiltin prog (K ++ [AObj.cells (r.cells nv mv) 25]) .append #[39, 39] [v, .slice (some ⟨K.length, 0, some 8⟩) 1 1] = some (v', K2) ∧
    v'.cells = #[v'] ∧ v'.oneCell' = true ∧ storable v' = true ∧
    (NRow K lo nv r.nodes → Gro K lo 1 9 mv (strCells r.mutes) → r.mutes.length < 2 ^ 63 → RRow K2 lo v' (rs ++ [r])) ∧
    (∀ H,Pre H K → H.length ≤ lo → NodesAt H nv r.nodes → Arr H 1 mv (strCells r.mutes) → r.mutes.length < 2 ^ 63 → RulesAt K2 v' (rs ++ [r])) ∧
    (∀ b o,b < lo → K[b]? = some o → K2[b]? = some o) ∧ (∀ H,Pre H K → H.length ≤ lo → Pre H K2) ∧ K.length ≤ K2.length := by
 obtain ⟨cl,hg,hcl,hall⟩ := h
 obtain ⟨v',K2,q1,q2,q3,q4,q5,q6⟩ := Gro.pushK (P := prog) (Ts := 39) (by_ := 120) (x := .slice (some ⟨K.length,0,some 8⟩) 1 1) (c := r.cells nv mv) (hg.app (X := [AObj.cells (r.cells nv mv) 25])) rel1 rel2 (by rfl) (by simp; omega) (by simp [aSrc,Rul.cells]) (by omega) (by omega)
 have hnr : ∀ {nv ns},NRow K lo nv ns → NRow K2 lo nv ns := fun h => (h.fr fun b o _ ho => get_more (X := [AObj.cells (r.cells nv mv) 25]) ho).kt q6 (by decide) (by decide)
 have hst : ∀ {sv ms},Gro K lo 1 9 sv ms → Gro K2 lo 1 9 sv ms := fun hg => hg.app.kt q6 (by decide)
 refine ⟨v',K2,q1,q2.cells,q2.one,q2.stor,fun a1 a2 a3 => ⟨cl ++ [r.cells nv mv],q2,by simp [hcl],fun i m hi => ?_⟩,fun H p hH a1 a2 a3 => ⟨cl ++ [r.cells nv mv],q2.arr,by simp [hcl],fun i m hi => ?_⟩,fun b o hb ho => q3 b o hb (get_more ho),fun H p hH => q5 H (p.more _) hH,by simp at q4; omega⟩
 · rcases get_snoc hi with ⟨hlt,hi⟩ | ⟨rfl,rfl⟩
   · obtain ⟨nv',mv',e1,e2,e3,e4⟩ := hall i m hi
     exact ⟨nv',mv',by rw [List.getElem?_append_left (by omega)]; exact e1,hnr e2,hst e3,e4⟩
   · exact ⟨nv,mv,by rw [List.getElem?_append_right (by omega),hcl]; simp,hnr a1,hst a2,a3⟩
 · rcases get_snoc hi with ⟨hlt,hi⟩ | ⟨rfl,rfl⟩
   · obtain ⟨nv',mv',e1,e2,e3,e4⟩ := hall i m hi
     exact ⟨nv',mv',by rw [List.getElem?_append_left (by omega)]; exact e1,(hnr e2).at,(hst e3).arr,e4⟩
   · have hp := q5 H (p.more _) hH
     exact ⟨nv,mv,by rw [List.getElem?_append_right (by omega),hcl]; simp,a1.pre hp,a2.pre hp,a3⟩
structure CopS (H K : AHeap) (c : Cfg) (rv mv : Value) (a b d lo : Nat) (out : Value) (rs : List Rul) : Prop where
 pre : Pre H K
 ca : K[a]? = some (.cells (c.cells rv mv) 42)
 cb : K[b]? = some (.cells [.slice none 0 0,.slice none 0 0,i64 0,i64 0] 42)
 cd : K[d]? = some (.cells [out,.slice none 0 0,i64 c.late,i64 c.limit] 42)
 row : RRow K lo out rs
 h1 : H.length ≤ a
 h2 : H.length ≤ b
 h3 : H.length ≤ d
 h4 : a < lo
 h5 : b < lo
 h6 : d < lo
 h7 : a ≠ d
 h8 : b ≠ d
 h9 : a ≠ b
 hl : lo ≤ K.length
theorem cop_loop {c : Cfg} {H : AHeap} {rv mv : Value} {a b d lo : Nat} {k : Value → AHeap → Prop} (hr0 : RulesAt H rv c.rules) (hm0 : MutesAt H mv c.mutes) (hs : c.small)
  (hk : ∀ rv' mv' K,Pre H K → RRow K H.length rv' c.rules → Gro K H.length 10 28 mv' (c.mutes.map Mut.cells) → k (.agg (c.cells rv' mv').toArray) K) :
  ∀ (l : List Rul) (i : Nat) (K : AHeap) (out : Value) (s0 s5 s6 s7 s8 s9 s10 s11 s12 s13 s14 s15 s16 s17 s18 s19 s20 s21 s22 s23 s24 s25 s26 s27 s28 s29 s30 s31 s32 s33 s34 : Value), c.rules.drop i = l → i ≤ c.rules.length → CopS H K c rv mv a b d lo out (c.rules.take i) →
    L15x0 (l.length + 1) k [s0,.pointer (some ⟨a,0,some 4⟩),.pointer (some ⟨b,0,some 4⟩),.pointer (some ⟨d,0,some 4⟩),i64 i,s5,s6,s7,s8,s9,s10,s11,s12,s13,s14,s15,s16,s17,s18,s19,s20,s21,s22,s23,s24,s25,s26,s27,s28,s29,s30,s31,s32,s33,s34] K := by
 intro l
 induction l with
 | nil =>
   intro i K out s0 s5 s6 s7 s8 s9 s10 s11 s12 s13 s14 s15 s16 s17 s18 s19 s20 s21 s22 s23 s24 s25 s26 s27 s28 s29 s30 s31 s32 s33 s34 hd hi hq
   have hle : c.rules.length ≤ i := by simpa using hd
   rw [List.take_of_length_le hle] at hq
   obtain ⟨pre,ca,cb,cd,row,q1,q2,q3,q4,q5,q6,q7,q8,q9,hll⟩ := hq
   have hl := (hr0.pre pre).lenR K
   obtain ⟨ca1,ca2⟩ := cellF ca
   obtain ⟨cd1,cd2⟩ := cellF cd
   simp only [Cfg.cells] at ca1 ca2
   have hm := hm0.pre pre
   have : ¬ i < c.rules.length := by omega
   obtain ⟨v2,K2,p1,p2,p3,p4,p5⟩ := Gro.pushN (P := prog) (K := K) (lo := K.length) (v := .slice none 0 0) (cl := []) (ds := c.mutes.map Mut.cells) (by_ := 40) .nil mel1 mel2 hm.1.all_len (Nat.le_refl _) hm.1.src (by have := hs.2.1; simp; omega) (by have := hs.2.1; simp; omega)
   rw [List.length_nil,L15x0q]
   simp [ca1,ca2,cd1,cd2,hl,this]
   rw [p1]
   simp only [bndE_some]
   have p2 : Gro K2 K.length 10 28 v2 (c.mutes.map Mut.cells) := by simpa using p2
   have cd' := p3 _ _ (by omega) cd
   have cb' := p3 _ _ (by omega) cb
   obtain ⟨dd1,dd2⟩ := cellF cd'
   have r1 := row.one
   have w1 := p2.one
   have w2 := p2.cells
   have w3 := p2.stor
   have hp2 : Pre H K2 := pre.trans (p5 K (Pre.refl _) (Nat.le_refl _))
   simp [dd2,cd',w2,w3]
   have hp3 : Pre H (K2.set d (.cells [out,v2,i64 c.late,i64 c.limit] 42)) := hp2.set q3
   have cd3 : (K2.set d (.cells [out,v2,i64 c.late,i64 c.limit] 42))[d]? = some (.cells [out,v2,i64 c.late,i64 c.limit] 42) := List.getElem?_set_self (by omega)
   have cb3 : (K2.set d (.cells [out,v2,i64 c.late,i64 c.limit] 42))[b]? = some (.cells [.slice none 0 0,.slice none 0 0,i64 0,i64 0] 42) := by rw [List.getElem?_set_ne (by omega)]; exact cb'
   have row3 : RRow (K2.set d (.cells [out,v2,i64 c.late,i64 c.limit] 42)) lo out c.rules := row.fr fun b o hb ho => by
    rw [List.getElem?_set_ne (by omega)]; exact p3 _ _ (List.getElem?_eq_some_iff.1 ho).1 ho
   have mu3 : Gro (K2.set d (.cells [out,v2,i64 c.late,i64 c.limit] 42)) lo 10 28 v2 (c.mutes.map Mut.cells) := (p2.wk hll).set q6
   have hl3 : b < (K2.set d (.cells [out,v2,i64 c.late,i64 c.limit] 42)).length := by simp; omega
   generalize K2.set d (.cells [out,v2,i64 c.late,i64 c.limit] 42) = K3 at hp3 cd3 cb3 row3 mu3 hl3 ⊢
   obtain ⟨dd3,dd4⟩ := cellF cd3
   simp [dd3,cb3,r1,w1]
   have cb4 : (K3.set b (.cells [out,v2,i64 c.late,i64 c.limit] 42))[b]? = some (.cells [out,v2,i64 c.late,i64 c.limit] 42) := List.getElem?_set_self hl3
   obtain ⟨bb1,bb2⟩ := cellF cb4
   simp [bb1]
   refine hk out v2 _ (hp3.set q2) ((row3.fr fun b' o hb ho => ?_).wk (by omega)) ((mu3.set q5).wk (by omega))
   rw [List.getElem?_set_ne (by omega)]; exact ho
 | cons x l ih =>
   intro i K out s0 s5 s6 s7 s8 s9 s10 s11 s12 s13 s14 s15 s16 s17 s18 s19 s20 s21 s22 s23 s24 s25 s26 s27 s28 s29 s30 s31 s32 s33 s34 hd hi hq
   have hb : c.rules[i]? = some x := by rw [← List.head?_drop,hd]; rfl
   have hlt : i < c.rules.length := (List.getElem?_eq_some_iff.1 hb).1
   obtain ⟨pre,ca,cb,cd,row,q1,q2,q3,q4,q5,q6,q7,q8,q9,hll⟩ := hq
   have hl := (hr0.pre pre).lenR K
   obtain ⟨ca1,ca2⟩ := cellF ca
   obtain ⟨cd1,cd2⟩ := cellF cd
   simp only [Cfg.cells] at ca1 ca2
   obtain ⟨cl,ha,hcl,hcc⟩ := hr0.pre pre
   obtain ⟨nv,xv,hx,hn,hxm,hxl⟩ := hcc _ _ hb
   obtain ⟨q,hp1,hp2⟩ := ha.load (P := prog) (T := 39) (te := 25) (i := i) (e := x.cells nv xv) (by simp) (by simp) (by simp) hx
   rw [List.length_cons,L15x0q]
   simp [ca1,ca2,cd1,cd2,hl,hlt,hp1,hp2]
   obtain ⟨nv',mv',K1,g1,⟨X,rfl⟩,g3,g4⟩ := c_copyRule (r := x) hn hxm (hs.2.2 x (List.mem_of_getElem? hb))
   refine bndD_of g1 (.inr ⟨X,rfl⟩) ?_
   dsimp only
   refine bndD_of (rul_lit x g3.one g4.one) (.inr ⟨_,rfl⟩) ?_
   dsimp only
   obtain ⟨v2,K2,r1,r2,r3,r4,r5,r6,r7,r8,r9⟩ := (row.fr (K' := K ++ X) fun b o _ ho => get_more ho).push x nv' mv' (by have := hs.1; simp; omega) (by simp; omega)
   refine bndD_of r1 (.inl rfl) ?_
   have row2 := r5 (g3.wk hll) (g4.wk hll) hxl
   have ca' := r7 _ _ q4 (get_more ca)
   have cb' := r7 _ _ q5 (get_more cb)
   have cd' := r7 _ _ q6 (get_more cd)
   obtain ⟨dd1,dd2⟩ := cellF cd'
   have hp2 : Pre H K2 := r8 H (pre.more _) (by omega)
   have hl2 : d < K2.length := (List.getElem?_eq_some_iff.1 cd').1
   simp [dd2]
   refine bndD_of (v := undef) (H' := K2.set d (.cells [v2,.slice none 0 0,i64 c.late,i64 c.limit] 42)) ⟨rfl,by simp [cd',r2,r4]⟩ (.inl rfl) ?_
   simp [show i + 1 < 2 ^ 63 by have := hs.1; omega]
   refine ih (i + 1) _ v2 _ _ _ _ _ _ _ _ _ _ _ _ _ _ _ _ _ _ _ _ _ _ _ _ _ _ _ _ _ _ _ (by rw [← List.drop_drop,hd]; rfl) hlt ⟨hp2.set q3,?_,?_,List.getElem?_set_self hl2,?_,q1,q2,q3,q4,q5,q6,q7,q8,q9,?_⟩
   · rw [List.getElem?_set_ne (by omega)]; exact ca'
   · rw [List.getElem?_set_ne (by omega)]; exact cb'
   · rw [List.take_add_one,hb]
     exact row2.fr fun b o hb ho => by rw [List.getElem?_set_ne (by omega)]; exact ho
   · simp at r9 ⊢; omega
theorem c_copyCfg {c : Cfg} {H : AHeap} {rv mv : Value} (hr : RulesAt H rv c.rules) (hm : MutesAt H mv c.mutes) (hs : c.small) :
  ∃ rv' mv' K',ACalls prog 15 [.agg (c.cells rv mv).toArray] H (.agg (c.cells rv' mv').toArray) K' ∧ Pre H K' ∧ RRow K' H.length rv' c.rules ∧ Gro K' H.length 10 28 mv' (c.mutes.map Mut.cells) := by
 obtain ⟨v,K',⟨rv',mv',rfl,h1,h2,h3⟩,h4⟩ : ∃ v K',(∃ rv' mv',v = .agg (c.cells rv' mv').toArray ∧ Pre H K' ∧ RRow K' H.length rv' c.rules ∧ Gro K' H.length 10 28 mv' (c.mutes.map Mut.cells)) ∧ ACalls prog 15 [.agg (c.cells rv mv).toArray] H v K' := by
  refine acalls_ex MixT func15 (by decide) ?_
  generalize hk : (fun (v : Value) (K' : AHeap) => ∃ rv' mv',v = .agg (c.cells rv' mv').toArray ∧ Pre H K' ∧ RRow K' H.length rv' c.rules ∧ Gro K' H.length 10 28 mv' (c.mutes.map Mut.cells)) = k
  rw [d15]
  have h1 := hr.one
  have h2 := hm.one
  simp [aNew_agg,Cfg.cells,h1,h2]
  refine ⟨c.rules.length + 1,?_⟩
  refine cop_loop (H := H) (a := H.length) (b := H.length + 1) (d := H.length + 2) (lo := H.length + 3) hr hm hs (fun rv' mv' K p q1 q2 => ?_) c.rules 0 _ (.slice none 0 0) _ _ _ _ _ _ _ _ _ _ _ _ _ _ _ _ _ _ _ _ _ _ _ _ _ _ _ _ _ _ _ rfl (by omega) ⟨.app _ _,?_,?_,?_,⟨[],.nil,by simp,fun i r hi => by simp at hi⟩,by omega,by omega,by omega,by omega,by omega,by omega,by omega,by omega,by omega,by simp⟩
  · rw [← hk]
    exact ⟨rv',mv',rfl,p,q1,q2⟩
  · simp [Cfg.cells]
  · simp
  · simp
 exact ⟨rv',mv',K',h4,h1,h2,h3⟩
end Go.Vi
namespace Go.Vi
open Go Go.Proofs
theorem once_fold {α : Type} [DecidableEq α] : ∀ (l ks : List α),ks.Nodup → (l.foldl addKey ks).length ≤ ks.length + l.length ∧ ((l.foldl addKey ks).length = ks.length + l.length ↔ (ks ++ l).Nodup) := by
 intro l
 induction l with
 | nil => intro ks h; simpa using h
 | cons x l ih =>
   intro ks h
   rw [List.foldl_cons]
   by_cases hx : x ∈ ks
   · have he : addKey ks x = ks := by simp [addKey,hx]
     rw [he]
     obtain ⟨h1,h2⟩ := ih ks h
     refine ⟨by simp; omega,⟨fun q => by simp at q; omega,fun q => ?_⟩⟩
     rw [List.nodup_append] at q
     exact absurd rfl (q.2.2 x hx x (by simp))
   · have he : addKey ks x = ks ++ [x] := by simp [addKey,hx]
     rw [he]
     have hn : (ks ++ [x]).Nodup := by
      rw [List.nodup_append]
      exact ⟨h,by simp,fun a ha b hb => by simp at hb; subst hb; rintro rfl; exact hx ha⟩
     obtain ⟨h1,h2⟩ := ih _ hn
     simp at h1 h2 ⊢
     refine ⟨by omega,?_⟩
     rw [← h2]
     constructor <;> intro q <;> omega
theorem onceB_iff {α : Type} [DecidableEq α] (l : List α) : onceB l = true ↔ l.Nodup := by
 obtain ⟨h1,h2⟩ := once_fold l [] (by simp)
 simp at h1 h2
 unfold onceB keysOf
 rw [← h2]
 simp
 omega
theorem Cfg.mayB_iff (c : Cfg) : c.mayB = true ↔ c.rules.length ≤ 8 ∧ c.mutes.length ≤ 4 ∧ (0 ≤ c.late ∧ c.late ≤ 100) ∧ (1 ≤ c.limit ∧ c.limit ≤ 1000) ∧ (c.rules.map (·.name)).Nodup ∧ (c.mutes.map (·.name)).Nodup ∧ (∀ m ∈ c.mutes,m.mayB = true) ∧ ∀ r ∈ c.rules,r.mayB = true ∧ ∀ s ∈ r.mutes,∃ m ∈ c.mutes,m.name = s := by
 unfold Cfg.mayB Cfg.head
 by_cases h : (decide ((c.rules.length : Int) > 8) || decide ((c.mutes.length : Int) > 4)) = true
 · rw [if_pos h]
   simp at h
   constructor
   · intro q; cases q
   · rintro ⟨h1,h2,_⟩; omega
 · rw [if_neg h]
   simp at h
   simp only [Bool.and_eq_true,List.all_cons,List.all_nil,id,Bool.and_true,onceB_iff,List.all_eq_true,decide_eq_true_eq,Cfg.ruleOk,List.any_eq_true]
   constructor
   · rintro ⟨⟨⟨h1,h2,h3,h4⟩,h5⟩,h6⟩
     exact ⟨by omega,by omega,h1,h2,h3,h4,h5,h6⟩
   · rintro ⟨_,_,h1,h2,h3,h4,h5,h6⟩
     exact ⟨⟨⟨h1,h2,h3,h4⟩,h5⟩,h6⟩
end Go.Vi
namespace Go.Vi
open Go Go.Proofs Go.Proofs.Try
structure Rul.tame (r : Rul) : Prop where
 name : r.name.length ≤ 5000
 byL : r.byL.length ≤ 5000
 route : r.route.length ≤ 5000
 muts : ∀ s ∈ r.mutes,s.length ≤ 5000
 mlen : r.mutes.length ≤ 100
 nlen : r.nodes.length ≤ 100
 nods : ∀ n ∈ r.nodes,n.tame
 win : ∀ n ∈ r.nodes,n.window < 2 ^ 63
theorem Rul.may_iff (r : Rul) : r.mayB = true ↔ mayName r.name = true ∧ (r.byL = [] ∨ mayName r.byL = true) ∧ mayName r.route = true ∧ r.route ≠ [109,101,116,97] ∧ (0 ≤ r.forM ∧ r.forM ≤ 1000) ∧ (1 ≤ r.every ∧ r.every ≤ 100) ∧ (1 ≤ r.repeatM ∧ r.repeatM ≤ 10000) ∧ r.mutes.length ≤ 4 ∧ (∀ s ∈ r.mutes,mayName s = true) ∧ r.mutes.Nodup ∧ right r.nodes = true := by
 unfold Rul.mayB
 simp only [List.all_cons,List.all_nil,id,Bool.and_true,Bool.and_eq_true,Bool.or_eq_true,decide_eq_true_eq,Bool.not_eq_true',decide_eq_false_iff_not,onceB_iff,List.any_eq_false,ge_iff_le]
 constructor
 · rintro ⟨h1,h2,h3,h4,h5,h6,h7,h8,h9,h10,h11⟩
   exact ⟨h1,h2,h3,h4,h5,h6,h7,by omega,fun s hs => by have := h9 s hs; simpa using this,h10,h11⟩
 · rintro ⟨h1,h2,h3,h4,h5,h6,h7,h8,h9,h10,h11⟩
   exact ⟨h1,h2,h3,h4,h5,h6,h7,by omega,fun s hs => by have := h9 s hs; simpa using this,h10,h11⟩
@[simp] theorem bndG_un {want : Bool} {H : AHeap} {e q : QH} : @bndG undef want H e q = q.f undef H := by
 apply propext
 constructor
 · rintro ⟨v,H',h,k⟩
   obtain ⟨rfl,rfl⟩ : v = undef ∧ H' = H := h
   exact k
 · intro k; exact ⟨undef,H,⟨rfl,rfl⟩,k⟩
section
variable {H : AHeap} {r : Rul} {nv mv : Value} {b : Nat} {k : Value → AHeap → Prop}
theorem strs_get {K : AHeap} {v : Value} {l : List (List UInt8)} {i : Nat} {s : List UInt8} (ha : Arr K 1 v (strCells l)) (hi : l[i]? = some s) : ∃ p,aIndexAddr prog K 23 v (i64 i) = some p ∧ aLoad prog K 9 p = some (str s) :=
 ha.load1 (P := prog) (T := 23) (te := 9) (x := str s) (by simp) (by simp) (by simp) (by simp [strCells,hi])
theorem may_x1 (hm0 : Arr H 1 mv (strCells r.mutes)) (hml : r.mutes.length ≤ 4) {i : Nat} {s : List UInt8} (hi : r.mutes[i]? = some s) (hc : hcells H b = some (r.cells nv mv)) {n0 : Nat}
  (bad : r.mayB = false → k (.bool false) H) (hk : (∀ j t,j < i → r.mutes[j]? = some t → s ≠ t) → ∀ (s0 s2 s4 s5 s6 s7 s8 s9 s10 s11 s12 s13 s14 s15 s16 s17 s18 s19 s20 s21 s22 s23 s24 s25 s26 s27 s28 s29 s30 s31 s32 s33 s34 s35 s36 s37 s38 s39 s40 s41 s42 s43 s44 s45 s46 s47 s48 s49 s50 s51 s52 s53 s54 s55 s56 s57 s58 s59 s60 s61 s62 s63 s64 s65 s66 s67 s68 s69 s70 s71 s72 s73 s74 s75 s76 s77 s78 s79 s80 s81 s82 s83 s84 s85 s86 s87 s88 s89 s90 s91 s92 s93 s94 s95 s96 s97 : Value),L29x0 n0 k [s0,.pointer (some ⟨b,0,some 8⟩),s2,i64 ((i + 1 : Nat) : Int),s4,s5,s6,s7,s8,s9,s10,s11,s12,s13,s14,s15,s16,s17,s18,s19,s20,s21,s22,s23,s24,s25,s26,s27,s28,s29,s30,s31,s32,s33,s34,s35,s36,s37,s38,s39,s40,s41,s42,s43,s44,s45,s46,s47,s48,s49,s50,s51,s52,s53,s54,s55,s56,s57,s58,s59,s60,s61,s62,s63,s64,s65,s66,s67,s68,s69,s70,s71,s72,s73,s74,s75,s76,s77,s78,s79,s80,s81,s82,s83,s84,s85,s86,s87,s88,s89,s90,s91,s92,s93,s94,s95,s96,s97] H) :
  ∀ (d j : Nat) (s0 s2 s5 s6 s7 s8 s9 s10 s11 s12 s13 s14 s15 s16 s17 s18 s19 s20 s21 s22 s23 s24 s25 s26 s27 s28 s29 s30 s31 s32 s33 s34 s35 s36 s37 s38 s39 s40 s41 s42 s43 s44 s45 s46 s47 s48 s49 s50 s51 s52 s53 s54 s55 s56 s57 s58 s59 s60 s61 s62 s63 s64 s65 s66 s67 s68 s69 s70 s71 s72 s73 s74 s75 s76 s77 s78 s79 s80 s81 s82 s83 s84 s85 s86 s87 s88 s89 s90 s91 s92 s93 s94 s95 s96 s97 : Value),d + j = i → (∀ l t,l < j → r.mutes[l]? = some t → s ≠ t) → L29x1 (d + 1) n0 k [s0,.pointer (some ⟨b,0,some 8⟩),s2,i64 i,i64 j,s5,s6,s7,s8,s9,s10,s11,s12,s13,s14,s15,s16,s17,s18,s19,s20,s21,s22,s23,s24,s25,s26,s27,s28,s29,s30,s31,s32,s33,s34,s35,s36,s37,s38,s39,s40,s41,s42,s43,s44,s45,s46,s47,s48,s49,s50,s51,s52,s53,s54,s55,s56,s57,s58,s59,s60,s61,s62,s63,s64,s65,s66,s67,s68,s69,s70,s71,s72,s73,s74,s75,s76,s77,s78,s79,s80,s81,s82,s83,s84,s85,s86,s87,s88,s89,s90,s91,s92,s93,s94,s95,s96,s97] H := by
 have hl8 : Vi.hlen H b = some 8 := by rw [hcells_len hc]; rfl
 simp only [Rul.cells] at hc
 have hil : i < r.mutes.length := (List.getElem?_eq_some_iff.1 hi).1
 intro d
 induction d with
 | zero =>
   intro j s0 s2 s5 s6 s7 s8 s9 s10 s11 s12 s13 s14 s15 s16 s17 s18 s19 s20 s21 s22 s23 s24 s25 s26 s27 s28 s29 s30 s31 s32 s33 s34 s35 s36 s37 s38 s39 s40 s41 s42 s43 s44 s45 s46 s47 s48 s49 s50 s51 s52 s53 s54 s55 s56 s57 s58 s59 s60 s61 s62 s63 s64 s65 s66 s67 s68 s69 s70 s71 s72 s73 s74 s75 s76 s77 s78 s79 s80 s81 s82 s83 s84 s85 s86 s87 s88 s89 s90 s91 s92 s93 s94 s95 s96 s97 hj hne
   rw [L29x1q]
   have : ¬ j < i := by omega
   have hji : j = i := by omega
   subst hji
   simp [show j + 1 < 2 ^ 63 by omega]
   exact hk hne _ _ _ _ _ _ _ _ _ _ _ _ _ _ _ _ _ _ _ _ _ _ _ _ _ _ _ _ _ _ _ _ _ _ _ _ _ _ _ _ _ _ _ _ _ _ _ _ _ _ _ _ _ _ _ _ _ _ _ _ _ _ _ _ _ _ _ _ _ _ _ _ _ _ _ _ _ _ _ _ _ _ _ _ _ _ _ _ _ _ _ _ _ _ _ _
 | succ d ih =>
   intro j s0 s2 s5 s6 s7 s8 s9 s10 s11 s12 s13 s14 s15 s16 s17 s18 s19 s20 s21 s22 s23 s24 s25 s26 s27 s28 s29 s30 s31 s32 s33 s34 s35 s36 s37 s38 s39 s40 s41 s42 s43 s44 s45 s46 s47 s48 s49 s50 s51 s52 s53 s54 s55 s56 s57 s58 s59 s60 s61 s62 s63 s64 s65 s66 s67 s68 s69 s70 s71 s72 s73 s74 s75 s76 s77 s78 s79 s80 s81 s82 s83 s84 s85 s86 s87 s88 s89 s90 s91 s92 s93 s94 s95 s96 s97 hj hne
   have hlt : j < i := by omega
   obtain ⟨t,ht⟩ : ∃ t,r.mutes[j]? = some t := ⟨_,List.getElem?_eq_getElem (by omega)⟩
   obtain ⟨p,p1,p2⟩ := strs_get hm0 hi
   obtain ⟨q,q1,q2⟩ := strs_get hm0 ht
   rw [L29x1q]
   by_cases he : s = t
   · subst he
     simp [hlt,hc,hl8,p1,p2,q1,q2]
     refine bad ?_
     rw [Bool.eq_false_iff]
     intro h
     have hnd := ((Rul.may_iff r).1 h).2.2.2.2.2.2.2.2.2.1
     obtain ⟨i1,e1⟩ := List.getElem?_eq_some_iff.1 hi
     obtain ⟨j1,e2⟩ := List.getElem?_eq_some_iff.1 ht
     exact List.pairwise_iff_getElem.1 hnd j i j1 i1 hlt (e2.trans e1.symm)
   · simp [hlt,hc,hl8,p1,p2,q1,q2,he,show j + 1 < 2 ^ 63 by omega]
     refine ih (j + 1) _ _ _ _ _ _ _ _ _ _ _ _ _ _ _ _ _ _ _ _ _ _ _ _ _ _ _ _ _ _ _ _ _ _ _ _ _ _ _ _ _ _ _ _ _ _ _ _ _ _ _ _ _ _ _ _ _ _ _ _ _ _ _ _ _ _ _ _ _ _ _ _ _ _ _ _ _ _ _ _ _ _ _ _ _ _ _ _ _ _ _ _ _ _ _ (by omega) (fun l u hl hu => ?_)
     by_cases e : l = j
     · subst e; rw [ht] at hu; cases hu; exact he
     · exact hne l u (by omega) hu
theorem may_x0 (hm0 : Arr H 1 mv (strCells r.mutes)) (hn0 : NodesAt H nv r.nodes) (ht : r.tame) (hml : r.mutes.length ≤ 4) (hc : hcells H b = some (r.cells nv mv))
  (bad : r.mayB = false → k (.bool false) H) (good : (∀ s ∈ r.mutes,mayName s = true) → r.mutes.Nodup → k (.bool (right r.nodes)) H) :
  ∀ (d i : Nat) (s0 s2 s4 s5 s6 s7 s8 s9 s10 s11 s12 s13 s14 s15 s16 s17 s18 s19 s20 s21 s22 s23 s24 s25 s26 s27 s28 s29 s30 s31 s32 s33 s34 s35 s36 s37 s38 s39 s40 s41 s42 s43 s44 s45 s46 s47 s48 s49 s50 s51 s52 s53 s54 s55 s56 s57 s58 s59 s60 s61 s62 s63 s64 s65 s66 s67 s68 s69 s70 s71 s72 s73 s74 s75 s76 s77 s78 s79 s80 s81 s82 s83 s84 s85 s86 s87 s88 s89 s90 s91 s92 s93 s94 s95 s96 s97 : Value), d + i = r.mutes.length → (∀ j t, j < i → r.mutes[j]? = some t → mayName t = true) → (∀ (j l : Nat) s t, j < i → l < j → r.mutes[j]? = some s → r.mutes[l]? = some t → s ≠ t) →
    L29x0 (d + 1) k [s0,.pointer (some ⟨b,0,some 8⟩),s2,i64 i,s4,s5,s6,s7,s8,s9,s10,s11,s12,s13,s14,s15,s16,s17,s18,s19,s20,s21,s22,s23,s24,s25,s26,s27,s28,s29,s30,s31,s32,s33,s34,s35,s36,s37,s38,s39,s40,s41,s42,s43,s44,s45,s46,s47,s48,s49,s50,s51,s52,s53,s54,s55,s56,s57,s58,s59,s60,s61,s62,s63,s64,s65,s66,s67,s68,s69,s70,s71,s72,s73,s74,s75,s76,s77,s78,s79,s80,s81,s82,s83,s84,s85,s86,s87,s88,s89,s90,s91,s92,s93,s94,s95,s96,s97] H := by
 have hl8 : Vi.hlen H b = some 8 := by rw [hcells_len hc]; rfl
 have hc0 := hc
 simp only [Rul.cells] at hc
 have hlen := Arr.len (P := prog) (T := 23) (e := 9) hm0 (by simp)
 simp [strCells] at hlen
 intro d
 induction d with
 | zero =>
   intro i s0 s2 s4 s5 s6 s7 s8 s9 s10 s11 s12 s13 s14 s15 s16 s17 s18 s19 s20 s21 s22 s23 s24 s25 s26 s27 s28 s29 s30 s31 s32 s33 s34 s35 s36 s37 s38 s39 s40 s41 s42 s43 s44 s45 s46 s47 s48 s49 s50 s51 s52 s53 s54 s55 s56 s57 s58 s59 s60 s61 s62 s63 s64 s65 s66 s67 s68 s69 s70 s71 s72 s73 s74 s75 s76 s77 s78 s79 s80 s81 s82 s83 s84 s85 s86 s87 s88 s89 s90 s91 s92 s93 s94 s95 s96 s97 hi h1 h2
   have hir : i = r.mutes.length := by omega
   subst hir
   rw [L29x0q]
   simp [hc,hl8,hlen]
   refine bndC_of (r_right hn0 (tame_ok ht.nods ht.win) (by have := ht.nlen; omega)) (good (fun s hs => ?_) ?_)
   · obtain ⟨j,hj⟩ := List.getElem?_of_mem hs
     exact h1 j s (List.getElem?_eq_some_iff.1 hj).1 hj
   · rw [List.Nodup,List.pairwise_iff_getElem]
     intro l j hl hj hlj he
     exact h2 j l _ _ hj hlj (List.getElem?_eq_getElem hj) (List.getElem?_eq_getElem hl) he.symm
 | succ d ih =>
   intro i s0 s2 s4 s5 s6 s7 s8 s9 s10 s11 s12 s13 s14 s15 s16 s17 s18 s19 s20 s21 s22 s23 s24 s25 s26 s27 s28 s29 s30 s31 s32 s33 s34 s35 s36 s37 s38 s39 s40 s41 s42 s43 s44 s45 s46 s47 s48 s49 s50 s51 s52 s53 s54 s55 s56 s57 s58 s59 s60 s61 s62 s63 s64 s65 s66 s67 s68 s69 s70 s71 s72 s73 s74 s75 s76 s77 s78 s79 s80 s81 s82 s83 s84 s85 s86 s87 s88 s89 s90 s91 s92 s93 s94 s95 s96 s97 hi h1 h2
   have hlt : i < r.mutes.length := by omega
   obtain ⟨s,hs⟩ : ∃ t,r.mutes[i]? = some t := ⟨_,List.getElem?_eq_getElem hlt⟩
   obtain ⟨p,p1,p2⟩ := strs_get hm0 hs
   have hsl := ht.muts s (List.mem_of_getElem? hs)
   rw [L29x0q]
   simp [hc,hl8,hlen,hlt,p1,p2]
   refine bndC_of (r_mayName H (by omega)) ?_
   cases hms : mayName s with
   | false =>
     simp
     refine bad ?_
     rw [Bool.eq_false_iff]
     intro h
     have := ((Rul.may_iff r).1 h).2.2.2.2.2.2.2.2.1 s (List.mem_of_getElem? hs)
     rw [hms] at this; cases this
   | true =>
     simp
     refine ⟨i + 1,may_x1 hm0 hml hs hc0 bad (fun hne s0 s2 s4 s5 s6 s7 s8 s9 s10 s11 s12 s13 s14 s15 s16 s17 s18 s19 s20 s21 s22 s23 s24 s25 s26 s27 s28 s29 s30 s31 s32 s33 s34 s35 s36 s37 s38 s39 s40 s41 s42 s43 s44 s45 s46 s47 s48 s49 s50 s51 s52 s53 s54 s55 s56 s57 s58 s59 s60 s61 s62 s63 s64 s65 s66 s67 s68 s69 s70 s71 s72 s73 s74 s75 s76 s77 s78 s79 s80 s81 s82 s83 s84 s85 s86 s87 s88 s89 s90 s91 s92 s93 s94 s95 s96 s97 => ?_) i 0 _ _ _ _ _ _ _ _ _ _ _ _ _ _ _ _ _ _ _ _ _ _ _ _ _ _ _ _ _ _ _ _ _ _ _ _ _ _ _ _ _ _ _ _ _ _ _ _ _ _ _ _ _ _ _ _ _ _ _ _ _ _ _ _ _ _ _ _ _ _ _ _ _ _ _ _ _ _ _ _ _ _ _ _ _ _ _ _ _ _ _ _ _ _ _ (by omega) (fun l t hl => by omega)⟩
     refine ih (i + 1) _ _ _ _ _ _ _ _ _ _ _ _ _ _ _ _ _ _ _ _ _ _ _ _ _ _ _ _ _ _ _ _ _ _ _ _ _ _ _ _ _ _ _ _ _ _ _ _ _ _ _ _ _ _ _ _ _ _ _ _ _ _ _ _ _ _ _ _ _ _ _ _ _ _ _ _ _ _ _ _ _ _ _ _ _ _ _ _ _ _ _ _ _ _ _ _ (by omega) (fun j t hj hjt => ?_) (fun j l s' t hj hlj hs' ht' => ?_)
     · by_cases e : j = i
       · subst e; rw [hs] at hjt; cases hjt; exact hms
       · exact h1 j t (by omega) hjt
     · by_cases e : j = i
       · subst e; rw [hs] at hs'; cases hs'; exact hne l t hlj ht'
       · exact h2 j l s' t (by omega) hlj hs' ht'
set_option maxHeartbeats 1000000 in
theorem r_mayRule (hn0 : NodesAt H nv r.nodes) (hm0 : Arr H 1 mv (strCells r.mutes)) (ht : r.tame) : ACalls prog 29 [.agg (r.cells nv mv).toArray] H (.bool r.mayB) H := by
 refine acalls_pure MixT func29 (by decide) rfl ?_
 obtain ⟨k,hk0⟩ : ∃ k : Value → AHeap → Prop,k = fun u H2 => u = .bool r.mayB ∧ ∃ X,H2 = H ++ X := ⟨_,rfl⟩
 rw [← hk0]
 have hk : ∀ M,Pre H M → k (.bool r.mayB) M := fun M p => by rw [hk0]; exact ⟨rfl,p⟩
 have bad : r.mayB = false → ∀ M,Pre H M → k (.bool false) M := fun h M p => by have := hk M p; rwa [h] at this
 clear hk0
 have o1 : nv.oneCell' = true := by obtain ⟨_,h,_⟩ := hn0; exact h.one
 have o2 := hm0.one
 have hnew : aNew H 25 (.agg (r.cells nv mv).toArray) = some (.pointer (some ⟨H.length,0,some 8⟩),H ++ [.cells (r.cells nv mv) 25]) := by simp [aNew_agg,Rul.cells,o1,o2]
 rw [d29,hnew]
 simp only [bndE_some]
 obtain ⟨K,hK⟩ : ∃ K,K = H ++ [.cells (r.cells nv mv) 25] := ⟨_,rfl⟩
 have hp : Pre H K := by rw [hK]; exact .app _ _
 have hc0 : hcells K H.length = some (r.cells nv mv) := by rw [hK]; simp
 have hl8 : Vi.hlen K H.length = some 8 := by rw [hK]; simp [Rul.cells]
 have hc := hc0
 simp only [Rul.cells] at hc
 rw [← hK]
 clear hnew hK
 have iff := Rul.may_iff r
 have b' : ¬ r.mayB = true → k (.bool false) K := fun h => bad (by simpa using h) K hp
 have hml := (hm0.pre hp).len (P := prog) (T := 23) (e := 9) (by simp)
 simp [strCells] at hml
 simp [hc,hl8]
 refine bndC_of (r_mayName K (by have := ht.name; omega)) ?_
 cases n1 : mayName r.name with
 | false =>
   simp
   exact b' (fun h => by have := (iff.1 h).1; rw [n1] at this; cases this)
 | true =>
   have num : ∀ (_ : (r.byL = [] ∨ mayName r.byL = true)) (_ : mayName r.route = true) (_ : r.route ≠ [109,101,116,97]),(r.mutes.length ≤ 4 → (0 ≤ r.forM ∧ r.forM ≤ 1000) → (1 ≤ r.every ∧ r.every ≤ 100) → (1 ≤ r.repeatM ∧ r.repeatM ≤ 10000) → ∀ (s0 s2 s4 s5 s6 s7 s8 s9 s10 s11 s12 s13 s14 s15 s16 s17 s18 s19 s20 s21 s22 s23 s24 s25 s26 s27 s28 s29 s30 s31 s32 s33 s34 s35 s36 s37 s38 s39 s40 s41 s42 s43 s44 s45 s46 s47 s48 s49 s50 s51 s52 s53 s54 s55 s56 s57 s58 s59 s60 s61 s62 s63 s64 s65 s66 s67 s68 s69 s70 s71 s72 s73 s74 s75 s76 s77 s78 s79 s80 s81 s82 s83 s84 s85 s86 s87 s88 s89 s90 s91 s92 s93 s94 s95 s96 s97 : Value),L29x0 (r.mutes.length + 1) k [s0,.pointer (some ⟨H.length,0,some 8⟩),s2,i64 (0 : Nat),s4,s5,s6,s7,s8,s9,s10,s11,s12,s13,s14,s15,s16,s17,s18,s19,s20,s21,s22,s23,s24,s25,s26,s27,s28,s29,s30,s31,s32,s33,s34,s35,s36,s37,s38,s39,s40,s41,s42,s43,s44,s45,s46,s47,s48,s49,s50,s51,s52,s53,s54,s55,s56,s57,s58,s59,s60,s61,s62,s63,s64,s65,s66,s67,s68,s69,s70,s71,s72,s73,s74,s75,s76,s77,s78,s79,s80,s81,s82,s83,s84,s85,s86,s87,s88,s89,s90,s91,s92,s93,s94,s95,s96,s97] K) := by
    intro a1 a2 a3 a4 a5 a6 a7 s0 s2 s4 s5 s6 s7 s8 s9 s10 s11 s12 s13 s14 s15 s16 s17 s18 s19 s20 s21 s22 s23 s24 s25 s26 s27 s28 s29 s30 s31 s32 s33 s34 s35 s36 s37 s38 s39 s40 s41 s42 s43 s44 s45 s46 s47 s48 s49 s50 s51 s52 s53 s54 s55 s56 s57 s58 s59 s60 s61 s62 s63 s64 s65 s66 s67 s68 s69 s70 s71 s72 s73 s74 s75 s76 s77 s78 s79 s80 s81 s82 s83 s84 s85 s86 s87 s88 s89 s90 s91 s92 s93 s94 s95 s96 s97
    refine may_x0 (hm0.pre hp) (hn0.pre hp) ht a4 hc0 (fun h => bad h K hp) (fun q1 q2 => ?_) r.mutes.length 0 _ _ _ _ _ _ _ _ _ _ _ _ _ _ _ _ _ _ _ _ _ _ _ _ _ _ _ _ _ _ _ _ _ _ _ _ _ _ _ _ _ _ _ _ _ _ _ _ _ _ _ _ _ _ _ _ _ _ _ _ _ _ _ _ _ _ _ _ _ _ _ _ _ _ _ _ _ _ _ _ _ _ _ _ _ _ _ _ _ _ _ _ _ _ _ _ (by omega) (fun j t hj => by omega) (fun j l s t hj => by omega)
    have : right r.nodes = r.mayB := by
     rw [Bool.eq_iff_iff,iff]
     exact ⟨fun h => ⟨n1,a1,a2,a3,a5,a6,a7,a4,q1,q2,h⟩,fun h => h.2.2.2.2.2.2.2.2.2.2⟩
    rw [this]
    exact hk K hp
   by_cases hb : r.byL = []
   · simp [hc,hl8,hb]
     refine bndG_f _ _ (r_mayName K (by have := ht.route; omega)) ?_
     cases n3 : mayName r.route with
     | false =>
       simp
       exact b' (fun h => by have := (iff.1 h).2.2.1; rw [n3] at this; cases this)
     | true =>
       by_cases hr : r.route = [109,101,116,97]
       · simp [hc,hl8,hr]
         exact b' (fun h => (iff.1 h).2.2.2.1 hr)
       by_cases c1 : r.forM < 0
       · simp [hc,hl8,hr,c1]
         exact b' (fun h => by have := (iff.1 h).2.2.2.2.1.1; omega)
       by_cases c2 : (1000 : Int) < r.forM
       · simp [hc,hl8,hr,c1,c2]
         exact b' (fun h => by have := (iff.1 h).2.2.2.2.1.2; omega)
       by_cases c3 : r.every < 1
       · simp [hc,hl8,hr,c1,c2,c3]
         exact b' (fun h => by have := (iff.1 h).2.2.2.2.2.1.1; omega)
       by_cases c4 : (100 : Int) < r.every
       · simp [hc,hl8,hr,c1,c2,c3,c4]
         exact b' (fun h => by have := (iff.1 h).2.2.2.2.2.1.2; omega)
       by_cases c5 : r.repeatM < 1
       · simp [hc,hl8,hr,c1,c2,c3,c4,c5]
         exact b' (fun h => by have := (iff.1 h).2.2.2.2.2.2.1.1; omega)
       by_cases c6 : (10000 : Int) < r.repeatM
       · simp [hc,hl8,hr,c1,c2,c3,c4,c5,c6]
         exact b' (fun h => by have := (iff.1 h).2.2.2.2.2.2.1.2; omega)
       by_cases c7 : (4 : Int) < r.mutes.length
       · simp [hc,hl8,hr,hml,c1,c2,c3,c4,c5,c6,c7]
         exact b' (fun h => by have := (iff.1 h).2.2.2.2.2.2.2.1; omega)
       simp [hc,hl8,hr,hml,c1,c2,c3,c4,c5,c6,c7]
       exact ⟨r.mutes.length + 1,num (.inl hb) n3 hr (by omega) ⟨by omega,by omega⟩ ⟨by omega,by omega⟩ ⟨by omega,by omega⟩ _ _ _ _ _ _ _ _ _ _ _ _ _ _ _ _ _ _ _ _ _ _ _ _ _ _ _ _ _ _ _ _ _ _ _ _ _ _ _ _ _ _ _ _ _ _ _ _ _ _ _ _ _ _ _ _ _ _ _ _ _ _ _ _ _ _ _ _ _ _ _ _ _ _ _ _ _ _ _ _ _ _ _ _ _ _ _ _ _ _ _ _ _ _ _ _⟩
   · simp [hc,hl8,hb]
     refine bndG_t _ _ (r_mayName K (by have := ht.byL; omega)) ?_
     cases n2 : mayName r.byL with
     | false =>
       simp
       exact b' (fun h => by
        rcases (iff.1 h).2.1 with q | q
        · exact hb q
        · rw [n2] at q; cases q)
     | true =>
       simp [hc,hl8]
       refine bndG_f _ _ (r_mayName K (by have := ht.route; omega)) ?_
       cases n3 : mayName r.route with
       | false =>
         simp
         exact b' (fun h => by have := (iff.1 h).2.2.1; rw [n3] at this; cases this)
       | true =>
         by_cases hr : r.route = [109,101,116,97]
         · simp [hc,hl8,hr]
           exact b' (fun h => (iff.1 h).2.2.2.1 hr)
         by_cases c1 : r.forM < 0
         · simp [hc,hl8,hr,c1]
           exact b' (fun h => by have := (iff.1 h).2.2.2.2.1.1; omega)
         by_cases c2 : (1000 : Int) < r.forM
         · simp [hc,hl8,hr,c1,c2]
           exact b' (fun h => by have := (iff.1 h).2.2.2.2.1.2; omega)
         by_cases c3 : r.every < 1
         · simp [hc,hl8,hr,c1,c2,c3]
           exact b' (fun h => by have := (iff.1 h).2.2.2.2.2.1.1; omega)
         by_cases c4 : (100 : Int) < r.every
         · simp [hc,hl8,hr,c1,c2,c3,c4]
           exact b' (fun h => by have := (iff.1 h).2.2.2.2.2.1.2; omega)
         by_cases c5 : r.repeatM < 1
         · simp [hc,hl8,hr,c1,c2,c3,c4,c5]
           exact b' (fun h => by have := (iff.1 h).2.2.2.2.2.2.1.1; omega)
         by_cases c6 : (10000 : Int) < r.repeatM
         · simp [hc,hl8,hr,c1,c2,c3,c4,c5,c6]
           exact b' (fun h => by have := (iff.1 h).2.2.2.2.2.2.1.2; omega)
         by_cases c7 : (4 : Int) < r.mutes.length
         · simp [hc,hl8,hr,hml,c1,c2,c3,c4,c5,c6,c7]
           exact b' (fun h => by have := (iff.1 h).2.2.2.2.2.2.2.1; omega)
         simp [hc,hl8,hr,hml,c1,c2,c3,c4,c5,c6,c7]
         exact ⟨r.mutes.length + 1,num (.inr n2) n3 hr (by omega) ⟨by omega,by omega⟩ ⟨by omega,by omega⟩ ⟨by omega,by omega⟩ _ _ _ _ _ _ _ _ _ _ _ _ _ _ _ _ _ _ _ _ _ _ _ _ _ _ _ _ _ _ _ _ _ _ _ _ _ _ _ _ _ _ _ _ _ _ _ _ _ _ _ _ _ _ _ _ _ _ _ _ _ _ _ _ _ _ _ _ _ _ _ _ _ _ _ _ _ _ _ _ _ _ _ _ _ _ _ _ _ _ _ _ _ _ _ _⟩
end
end Go.Vi
namespace Go.Vi
open Go Go.Proofs Go.Proofs.Try
section
variable {r : Rul} {H : AHeap} {nv mv : Value} {b : Nat} {k : Value → AHeap → Prop}
theorem bb_x2 {n1 : Nat} (hn0 : NodesAt H nv r.nodes) {i : Nat} {nd : Nod} (hi : r.nodes[i]? = some nd) (hsel : nd.sel.length ≤ 50) (hi2 : i + 1 < 2 ^ 63) (hT : ∀ K,Pre H K → k (.bool true) K)
  (hk : nd.tame → ∀ (K : AHeap) (left : Int) (s0 s2 s4 s6 s7 s8 s9 s10 s11 s12 s13 s14 s15 s16 s17 s18 s19 s20 s21 s22 s23 s24 s25 s26 s27 s28 s29 s30 s31 s32 s33 s34 s35 s36 s37 s38 s39 s40 s41 s42 s43 s44 s45 s46 s47 s48 s49 s50 s51 s52 s53 s54 s55 s56 s57 s58 s59 s60 s61 s62 s63 s64 s65 s66 s67 s68 s69 s70 s71 s72 s73 s74 s75 s76 s77 s78 s79 s80 s81 s82 s83 s84 s85 s86 s87 s88 s89 s90 s91 s92 s93 s94 s95 s96 s97 s98 s99 s100 s101 s102 s103 s104 s105 s106 s107 s108 s109 s110 s111 s112 s113 s114 s115 s116 s117 s118 s119 s120 s121 s122 s123 s124 s125 s126 s127 s128 s129 s130 : Value),Pre H K → left ≤ 5000 → hcells K b = some (r.cells nv mv) → L5x1 n1 k [s0,.pointer (some ⟨b,0,some 8⟩),s2,i64 left,s4,i64 ((i + 1 : Nat) : Int),s6,s7,s8,s9,s10,s11,s12,s13,s14,s15,s16,s17,s18,s19,s20,s21,s22,s23,s24,s25,s26,s27,s28,s29,s30,s31,s32,s33,s34,s35,s36,s37,s38,s39,s40,s41,s42,s43,s44,s45,s46,s47,s48,s49,s50,s51,s52,s53,s54,s55,s56,s57,s58,s59,s60,s61,s62,s63,s64,s65,s66,s67,s68,s69,s70,s71,s72,s73,s74,s75,s76,s77,s78,s79,s80,s81,s82,s83,s84,s85,s86,s87,s88,s89,s90,s91,s92,s93,s94,s95,s96,s97,s98,s99,s100,s101,s102,s103,s104,s105,s106,s107,s108,s109,s110,s111,s112,s113,s114,s115,s116,s117,s118,s119,s120,s121,s122,s123,s124,s125,s126,s127,s128,s129,s130] K) :
  ∀ (m : List Mat) (j : Nat) (left : Int) (K : AHeap) (s0 s2 s4 s7 s8 s9 s10 s11 s12 s13 s14 s15 s16 s17 s18 s19 s20 s21 s22 s23 s24 s25 s26 s27 s28 s29 s30 s31 s32 s33 s34 s35 s36 s37 s38 s39 s40 s41 s42 s43 s44 s45 s46 s47 s48 s49 s50 s51 s52 s53 s54 s55 s56 s57 s58 s59 s60 s61 s62 s63 s64 s65 s66 s67 s68 s69 s70 s71 s72 s73 s74 s75 s76 s77 s78 s79 s80 s81 s82 s83 s84 s85 s86 s87 s88 s89 s90 s91 s92 s93 s94 s95 s96 s97 s98 s99 s100 s101 s102 s103 s104 s105 s106 s107 s108 s109 s110 s111 s112 s113 s114 s115 s116 s117 s118 s119 s120 s121 s122 s123 s124 s125 s126 s127 s128 s129 s130 : Value), nd.sel.drop j = m → j ≤ nd.sel.length → Pre H K → left ≤ 5000 → (∀ (l : Nat) x, l < j → nd.sel[l]? = some x → x.tame) → hcells K b = some (r.cells nv mv) →
    L5x2 (m.length + 1) n1 k [s0,.pointer (some ⟨b,0,some 8⟩),s2,i64 left,s4,i64 i,i64 j,s7,s8,s9,s10,s11,s12,s13,s14,s15,s16,s17,s18,s19,s20,s21,s22,s23,s24,s25,s26,s27,s28,s29,s30,s31,s32,s33,s34,s35,s36,s37,s38,s39,s40,s41,s42,s43,s44,s45,s46,s47,s48,s49,s50,s51,s52,s53,s54,s55,s56,s57,s58,s59,s60,s61,s62,s63,s64,s65,s66,s67,s68,s69,s70,s71,s72,s73,s74,s75,s76,s77,s78,s79,s80,s81,s82,s83,s84,s85,s86,s87,s88,s89,s90,s91,s92,s93,s94,s95,s96,s97,s98,s99,s100,s101,s102,s103,s104,s105,s106,s107,s108,s109,s110,s111,s112,s113,s114,s115,s116,s117,s118,s119,s120,s121,s122,s123,s124,s125,s126,s127,s128,s129,s130] K := by
 intro m
 induction m with
 | nil =>
   intro j left K s0 s2 s4 s7 s8 s9 s10 s11 s12 s13 s14 s15 s16 s17 s18 s19 s20 s21 s22 s23 s24 s25 s26 s27 s28 s29 s30 s31 s32 s33 s34 s35 s36 s37 s38 s39 s40 s41 s42 s43 s44 s45 s46 s47 s48 s49 s50 s51 s52 s53 s54 s55 s56 s57 s58 s59 s60 s61 s62 s63 s64 s65 s66 s67 s68 s69 s70 s71 s72 s73 s74 s75 s76 s77 s78 s79 s80 s81 s82 s83 s84 s85 s86 s87 s88 s89 s90 s91 s92 s93 s94 s95 s96 s97 s98 s99 s100 s101 s102 s103 s104 s105 s106 s107 s108 s109 s110 s111 s112 s113 s114 s115 s116 s117 s118 s119 s120 s121 s122 s123 s124 s125 s126 s127 s128 s129 s130 hd hj hp hle0 hac hc
   have hle : nd.sel.length ≤ j := by simpa using hd
   obtain ⟨cl,ha,hcl,hcc⟩ := hn0.pre hp
   obtain ⟨sv,h1,h2,h3⟩ := hcc _ _ hi
   obtain ⟨p,q,f1,f2,f3⟩ := ha.field (P := prog) (T := 22) (te := 50) (ft := 48) (f := 2) (d := 2) (x := sv) (by simp) (by simp) (by simp) (by simp) (by simp) h1 rfl
   have hl := h2.len (P := prog) (T := 48) (e := 52) (by simp)
   simp only [List.length_map] at hl
   have hl8 : Vi.hlen K b = some 8 := by rw [hcells_len hc]; rfl
   rw [List.length_nil,L5x2q]
   have : ¬ j < nd.sel.length := by omega
   simp [hc,hl8,Rul.cells,f1,f2,f3,hl,this,hi2]
   refine hk ⟨by omega,fun x hx => ?_⟩ K left _ _ _ _ _ _ _ _ _ _ _ _ _ _ _ _ _ _ _ _ _ _ _ _ _ _ _ _ _ _ _ _ _ _ _ _ _ _ _ _ _ _ _ _ _ _ _ _ _ _ _ _ _ _ _ _ _ _ _ _ _ _ _ _ _ _ _ _ _ _ _ _ _ _ _ _ _ _ _ _ _ _ _ _ _ _ _ _ _ _ _ _ _ _ _ _ _ _ _ _ _ _ _ _ _ _ _ _ _ _ _ _ _ _ _ _ _ _ _ _ _ _ _ _ _ _ _ _ hp hle0 hc
   obtain ⟨l,hl⟩ := List.getElem?_of_mem hx
   exact hac l x (by have := (List.getElem?_eq_some_iff.1 hl).1; omega) hl
 | cons x m ih =>
   intro j left K s0 s2 s4 s7 s8 s9 s10 s11 s12 s13 s14 s15 s16 s17 s18 s19 s20 s21 s22 s23 s24 s25 s26 s27 s28 s29 s30 s31 s32 s33 s34 s35 s36 s37 s38 s39 s40 s41 s42 s43 s44 s45 s46 s47 s48 s49 s50 s51 s52 s53 s54 s55 s56 s57 s58 s59 s60 s61 s62 s63 s64 s65 s66 s67 s68 s69 s70 s71 s72 s73 s74 s75 s76 s77 s78 s79 s80 s81 s82 s83 s84 s85 s86 s87 s88 s89 s90 s91 s92 s93 s94 s95 s96 s97 s98 s99 s100 s101 s102 s103 s104 s105 s106 s107 s108 s109 s110 s111 s112 s113 s114 s115 s116 s117 s118 s119 s120 s121 s122 s123 s124 s125 s126 s127 s128 s129 s130 hd hj hp hle0 hac hc
   have hb : nd.sel[j]? = some x := by rw [← List.head?_drop,hd]; rfl
   have hlt : j < nd.sel.length := (List.getElem?_eq_some_iff.1 hb).1
   obtain ⟨cl,ha,hcl,hcc⟩ := hn0.pre hp
   obtain ⟨sv,h1,h2,h3⟩ := hcc _ _ hi
   obtain ⟨p,q,f1,f2,f3⟩ := ha.field (P := prog) (T := 22) (te := 50) (ft := 48) (f := 2) (d := 2) (x := sv) (by simp) (by simp) (by simp) (by simp) (by simp) h1 rfl
   have hl := h2.len (P := prog) (T := 48) (e := 52) (by simp)
   simp only [List.length_map] at hl
   obtain ⟨p2,g1,g2⟩ := h2.load (P := prog) (T := 48) (te := 52) (i := j) (e := x.cells) (by simp) (by simp) (by simp) (by simp [hb])
   have hl8 : Vi.hlen K b = some 8 := by rw [hcells_len hc]; rfl
   have hX := fun X : AHeap => hcells_more (X := X) hc
   rw [List.length_cons,L5x2q]
   by_cases t1 : left < (x.name.length : Int)
   · simp [hc,hl8,Rul.cells,f1,f2,f3,hl,hlt,g1,g2,Mat.cells,t1]
     exact hT _ (hp.more _)
   · have hw : IntKind.i64.wrap (left - x.name.length) = left - x.name.length := wrap_i64 (by omega) (by omega)
     by_cases t2 : left - (x.name.length : Int) < (x.value.length : Int)
     · simp [hc,hl8,Rul.cells,f1,f2,f3,hl,hlt,g1,g2,Mat.cells,t1,hw,t2]
       exact hT _ (hp.more _)
     · have hw2 : IntKind.i64.wrap (left - x.name.length - x.value.length) = left - x.name.length - x.value.length := wrap_i64 (by omega) (by omega)
       simp [hc,hl8,Rul.cells,f1,f2,f3,hl,hlt,g1,g2,Mat.cells,t1,hw,t2,hw2,show j + 1 < 2 ^ 63 by omega]
       refine ih (j + 1) _ _ _ _ _ _ _ _ _ _ _ _ _ _ _ _ _ _ _ _ _ _ _ _ _ _ _ _ _ _ _ _ _ _ _ _ _ _ _ _ _ _ _ _ _ _ _ _ _ _ _ _ _ _ _ _ _ _ _ _ _ _ _ _ _ _ _ _ _ _ _ _ _ _ _ _ _ _ _ _ _ _ _ _ _ _ _ _ _ _ _ _ _ _ _ _ _ _ _ _ _ _ _ _ _ _ _ _ _ _ _ _ _ _ _ _ _ _ _ _ _ _ _ _ _ _ _ _ _ (by rw [← List.drop_drop,hd]; rfl) hlt (hp.more _) (by omega) (fun l y hl hy => ?_) (hX _)
       by_cases e : l = j
       · subst e; rw [hb] at hy; cases hy; exact ⟨by omega,by omega⟩
       · exact hac l y (by omega) hy
theorem bb_x1 (hn0 : NodesAt H nv r.nodes) (hnl : r.nodes.length ≤ 100) (hT : ∀ K,Pre H K → k (.bool true) K) (hk : (∀ n ∈ r.nodes,n.sel.length ≤ 50 ∧ n.tame) → ∀ K,Pre H K → k (.bool false) K) :
  ∀ (ns : List Nod) (i : Nat) (left : Int) (K : AHeap) (s0 s2 s4 s6 s7 s8 s9 s10 s11 s12 s13 s14 s15 s16 s17 s18 s19 s20 s21 s22 s23 s24 s25 s26 s27 s28 s29 s30 s31 s32 s33 s34 s35 s36 s37 s38 s39 s40 s41 s42 s43 s44 s45 s46 s47 s48 s49 s50 s51 s52 s53 s54 s55 s56 s57 s58 s59 s60 s61 s62 s63 s64 s65 s66 s67 s68 s69 s70 s71 s72 s73 s74 s75 s76 s77 s78 s79 s80 s81 s82 s83 s84 s85 s86 s87 s88 s89 s90 s91 s92 s93 s94 s95 s96 s97 s98 s99 s100 s101 s102 s103 s104 s105 s106 s107 s108 s109 s110 s111 s112 s113 s114 s115 s116 s117 s118 s119 s120 s121 s122 s123 s124 s125 s126 s127 s128 s129 s130 : Value), r.nodes.drop i = ns → i ≤ r.nodes.length → (∀ n ∈ r.nodes.take i, n.sel.length ≤ 50 ∧ n.tame) → Pre H K → left ≤ 5000 → hcells K b = some (r.cells nv mv) →
    L5x1 (ns.length + 1) k [s0,.pointer (some ⟨b,0,some 8⟩),s2,i64 left,s4,i64 i,s6,s7,s8,s9,s10,s11,s12,s13,s14,s15,s16,s17,s18,s19,s20,s21,s22,s23,s24,s25,s26,s27,s28,s29,s30,s31,s32,s33,s34,s35,s36,s37,s38,s39,s40,s41,s42,s43,s44,s45,s46,s47,s48,s49,s50,s51,s52,s53,s54,s55,s56,s57,s58,s59,s60,s61,s62,s63,s64,s65,s66,s67,s68,s69,s70,s71,s72,s73,s74,s75,s76,s77,s78,s79,s80,s81,s82,s83,s84,s85,s86,s87,s88,s89,s90,s91,s92,s93,s94,s95,s96,s97,s98,s99,s100,s101,s102,s103,s104,s105,s106,s107,s108,s109,s110,s111,s112,s113,s114,s115,s116,s117,s118,s119,s120,s121,s122,s123,s124,s125,s126,s127,s128,s129,s130] K := by
 intro ns
 induction ns with
 | nil =>
   intro i left K s0 s2 s4 s6 s7 s8 s9 s10 s11 s12 s13 s14 s15 s16 s17 s18 s19 s20 s21 s22 s23 s24 s25 s26 s27 s28 s29 s30 s31 s32 s33 s34 s35 s36 s37 s38 s39 s40 s41 s42 s43 s44 s45 s46 s47 s48 s49 s50 s51 s52 s53 s54 s55 s56 s57 s58 s59 s60 s61 s62 s63 s64 s65 s66 s67 s68 s69 s70 s71 s72 s73 s74 s75 s76 s77 s78 s79 s80 s81 s82 s83 s84 s85 s86 s87 s88 s89 s90 s91 s92 s93 s94 s95 s96 s97 s98 s99 s100 s101 s102 s103 s104 s105 s106 s107 s108 s109 s110 s111 s112 s113 s114 s115 s116 s117 s118 s119 s120 s121 s122 s123 s124 s125 s126 s127 s128 s129 s130 hd hi hs hp hle0 hc
   have hle : r.nodes.length ≤ i := by simpa using hd
   have hl := (hn0.pre hp).len K
   have hl8 : Vi.hlen K b = some 8 := by rw [hcells_len hc]; rfl
   rw [List.length_nil,L5x1q]
   have : ¬ i < r.nodes.length := by omega
   simp [hc,hl8,Rul.cells,hl,this]
   exact hk (by rw [List.take_of_length_le hle] at hs; exact hs) K hp
 | cons x ns ih =>
   intro i left K s0 s2 s4 s6 s7 s8 s9 s10 s11 s12 s13 s14 s15 s16 s17 s18 s19 s20 s21 s22 s23 s24 s25 s26 s27 s28 s29 s30 s31 s32 s33 s34 s35 s36 s37 s38 s39 s40 s41 s42 s43 s44 s45 s46 s47 s48 s49 s50 s51 s52 s53 s54 s55 s56 s57 s58 s59 s60 s61 s62 s63 s64 s65 s66 s67 s68 s69 s70 s71 s72 s73 s74 s75 s76 s77 s78 s79 s80 s81 s82 s83 s84 s85 s86 s87 s88 s89 s90 s91 s92 s93 s94 s95 s96 s97 s98 s99 s100 s101 s102 s103 s104 s105 s106 s107 s108 s109 s110 s111 s112 s113 s114 s115 s116 s117 s118 s119 s120 s121 s122 s123 s124 s125 s126 s127 s128 s129 s130 hd hi hs hp hle0 hc
   have hb : r.nodes[i]? = some x := by rw [← List.head?_drop,hd]; rfl
   have hlt : i < r.nodes.length := (List.getElem?_eq_some_iff.1 hb).1
   obtain ⟨cl,ha,hcl,hcc⟩ := hn0.pre hp
   obtain ⟨sv,h1,h2,h3⟩ := hcc _ _ hb
   obtain ⟨p,q,f1,f2,f3⟩ := ha.field (P := prog) (T := 22) (te := 50) (ft := 48) (f := 2) (d := 2) (x := sv) (by simp) (by simp) (by simp) (by simp) (by simp) h1 rfl
   have hl := h2.len (P := prog) (T := 48) (e := 52) (by simp)
   simp only [List.length_map] at hl
   have hln := (hn0.pre hp).len K
   have hl8 : Vi.hlen K b = some 8 := by rw [hcells_len hc]; rfl
   rw [List.length_cons,L5x1q]
   simp [hc,hl8,Rul.cells,hln,hlt,f1,f2,f3,hl]
   by_cases h50 : 50 < x.sel.length
   · have h50I : (50 : Int) < x.sel.length := by omega
     simp [h50I]
     exact hT K hp
   · have h50I : ¬ (50 : Int) < x.sel.length := by omega
     simp [h50I]
     refine ⟨x.sel.length + 1,bb_x2 (H := H) (r := r) (nv := nv) (mv := mv) (b := b) hn0 hb (by omega) (by omega) hT ?_ x.sel 0 left K _ _ _ _ _ _ _ _ _ _ _ _ _ _ _ _ _ _ _ _ _ _ _ _ _ _ _ _ _ _ _ _ _ _ _ _ _ _ _ _ _ _ _ _ _ _ _ _ _ _ _ _ _ _ _ _ _ _ _ _ _ _ _ _ _ _ _ _ _ _ _ _ _ _ _ _ _ _ _ _ _ _ _ _ _ _ _ _ _ _ _ _ _ _ _ _ _ _ _ _ _ _ _ _ _ _ _ _ _ _ _ _ _ _ _ _ _ _ _ _ _ _ _ _ _ _ _ rfl (by omega) hp hle0 (fun l y hl => by omega) hc⟩
     intro htx K2 left2 s0 s2 s4 s6 s7 s8 s9 s10 s11 s12 s13 s14 s15 s16 s17 s18 s19 s20 s21 s22 s23 s24 s25 s26 s27 s28 s29 s30 s31 s32 s33 s34 s35 s36 s37 s38 s39 s40 s41 s42 s43 s44 s45 s46 s47 s48 s49 s50 s51 s52 s53 s54 s55 s56 s57 s58 s59 s60 s61 s62 s63 s64 s65 s66 s67 s68 s69 s70 s71 s72 s73 s74 s75 s76 s77 s78 s79 s80 s81 s82 s83 s84 s85 s86 s87 s88 s89 s90 s91 s92 s93 s94 s95 s96 s97 s98 s99 s100 s101 s102 s103 s104 s105 s106 s107 s108 s109 s110 s111 s112 s113 s114 s115 s116 s117 s118 s119 s120 s121 s122 s123 s124 s125 s126 s127 s128 s129 s130 hp2 hle2 hc2
     refine ih (i + 1) left2 K2 _ _ _ _ _ _ _ _ _ _ _ _ _ _ _ _ _ _ _ _ _ _ _ _ _ _ _ _ _ _ _ _ _ _ _ _ _ _ _ _ _ _ _ _ _ _ _ _ _ _ _ _ _ _ _ _ _ _ _ _ _ _ _ _ _ _ _ _ _ _ _ _ _ _ _ _ _ _ _ _ _ _ _ _ _ _ _ _ _ _ _ _ _ _ _ _ _ _ _ _ _ _ _ _ _ _ _ _ _ _ _ _ _ _ _ _ _ _ _ _ _ _ _ _ _ _ _ _ (by rw [← List.drop_drop,hd]; rfl) hlt ?_ hp2 hle2 hc2
     intro n hn
     rw [List.take_add_one,hb] at hn
     simp at hn
     rcases hn with hn | rfl
     · exact hs n hn
     · exact ⟨by omega,htx⟩
set_option maxRecDepth 20000 in
theorem bb_x0 (hn0 : NodesAt H nv r.nodes) (hm0 : Arr H 1 mv (strCells r.mutes)) (hnl : r.nodes.length ≤ 100) (hml : r.mutes.length ≤ 100) (hT : ∀ K,Pre H K → k (.bool true) K)
  (hk : (∀ n ∈ r.nodes,n.sel.length ≤ 50 ∧ n.tame) → (∀ s ∈ r.mutes,s.length ≤ 5000) → ∀ K,Pre H K → k (.bool false) K) :
  ∀ (l : List (List UInt8)) (i : Nat) (left : Int) (K : AHeap) (s0 s2 s5 s6 s7 s8 s9 s10 s11 s12 s13 s14 s15 s16 s17 s18 s19 s20 s21 s22 s23 s24 s25 s26 s27 s28 s29 s30 s31 s32 s33 s34 s35 s36 s37 s38 s39 s40 s41 s42 s43 s44 s45 s46 s47 s48 s49 s50 s51 s52 s53 s54 s55 s56 s57 s58 s59 s60 s61 s62 s63 s64 s65 s66 s67 s68 s69 s70 s71 s72 s73 s74 s75 s76 s77 s78 s79 s80 s81 s82 s83 s84 s85 s86 s87 s88 s89 s90 s91 s92 s93 s94 s95 s96 s97 s98 s99 s100 s101 s102 s103 s104 s105 s106 s107 s108 s109 s110 s111 s112 s113 s114 s115 s116 s117 s118 s119 s120 s121 s122 s123 s124 s125 s126 s127 s128 s129 s130 : Value), r.mutes.drop i = l → i ≤ r.mutes.length → (∀ s ∈ r.mutes.take i, s.length ≤ 5000) → Pre H K → left ≤ 5000 → hcells K b = some (r.cells nv mv) →
    L5x0 (l.length + 1) k [s0,.pointer (some ⟨b,0,some 8⟩),s2,i64 left,i64 i,s5,s6,s7,s8,s9,s10,s11,s12,s13,s14,s15,s16,s17,s18,s19,s20,s21,s22,s23,s24,s25,s26,s27,s28,s29,s30,s31,s32,s33,s34,s35,s36,s37,s38,s39,s40,s41,s42,s43,s44,s45,s46,s47,s48,s49,s50,s51,s52,s53,s54,s55,s56,s57,s58,s59,s60,s61,s62,s63,s64,s65,s66,s67,s68,s69,s70,s71,s72,s73,s74,s75,s76,s77,s78,s79,s80,s81,s82,s83,s84,s85,s86,s87,s88,s89,s90,s91,s92,s93,s94,s95,s96,s97,s98,s99,s100,s101,s102,s103,s104,s105,s106,s107,s108,s109,s110,s111,s112,s113,s114,s115,s116,s117,s118,s119,s120,s121,s122,s123,s124,s125,s126,s127,s128,s129,s130] K := by
 intro l
 induction l with
 | nil =>
   intro i left K s0 s2 s5 s6 s7 s8 s9 s10 s11 s12 s13 s14 s15 s16 s17 s18 s19 s20 s21 s22 s23 s24 s25 s26 s27 s28 s29 s30 s31 s32 s33 s34 s35 s36 s37 s38 s39 s40 s41 s42 s43 s44 s45 s46 s47 s48 s49 s50 s51 s52 s53 s54 s55 s56 s57 s58 s59 s60 s61 s62 s63 s64 s65 s66 s67 s68 s69 s70 s71 s72 s73 s74 s75 s76 s77 s78 s79 s80 s81 s82 s83 s84 s85 s86 s87 s88 s89 s90 s91 s92 s93 s94 s95 s96 s97 s98 s99 s100 s101 s102 s103 s104 s105 s106 s107 s108 s109 s110 s111 s112 s113 s114 s115 s116 s117 s118 s119 s120 s121 s122 s123 s124 s125 s126 s127 s128 s129 s130 hd hi hs hp hle0 hc
   have hle : r.mutes.length ≤ i := by simpa using hd
   have hl := (hm0.pre hp).len (P := prog) (T := 23) (e := 9) (by simp)
   simp [strCells] at hl
   have hl8 : Vi.hlen K b = some 8 := by rw [hcells_len hc]; rfl
   rw [List.length_nil,L5x0q]
   have : ¬ i < r.mutes.length := by omega
   simp [hc,hl8,Rul.cells,hl,this]
   rw [List.take_of_length_le hle] at hs
   exact ⟨r.nodes.length + 1,bb_x1 (H := H) (r := r) (nv := nv) (mv := mv) (b := b) hn0 hnl hT (fun h => hk h hs) r.nodes 0 left K _ _ _ _ _ _ _ _ _ _ _ _ _ _ _ _ _ _ _ _ _ _ _ _ _ _ _ _ _ _ _ _ _ _ _ _ _ _ _ _ _ _ _ _ _ _ _ _ _ _ _ _ _ _ _ _ _ _ _ _ _ _ _ _ _ _ _ _ _ _ _ _ _ _ _ _ _ _ _ _ _ _ _ _ _ _ _ _ _ _ _ _ _ _ _ _ _ _ _ _ _ _ _ _ _ _ _ _ _ _ _ _ _ _ _ _ _ _ _ _ _ _ _ _ _ _ _ _ rfl (by omega) (by simp) hp hle0 hc⟩
 | cons x l ih =>
   intro i left K s0 s2 s5 s6 s7 s8 s9 s10 s11 s12 s13 s14 s15 s16 s17 s18 s19 s20 s21 s22 s23 s24 s25 s26 s27 s28 s29 s30 s31 s32 s33 s34 s35 s36 s37 s38 s39 s40 s41 s42 s43 s44 s45 s46 s47 s48 s49 s50 s51 s52 s53 s54 s55 s56 s57 s58 s59 s60 s61 s62 s63 s64 s65 s66 s67 s68 s69 s70 s71 s72 s73 s74 s75 s76 s77 s78 s79 s80 s81 s82 s83 s84 s85 s86 s87 s88 s89 s90 s91 s92 s93 s94 s95 s96 s97 s98 s99 s100 s101 s102 s103 s104 s105 s106 s107 s108 s109 s110 s111 s112 s113 s114 s115 s116 s117 s118 s119 s120 s121 s122 s123 s124 s125 s126 s127 s128 s129 s130 hd hi hs hp hle0 hc
   have hb : r.mutes[i]? = some x := by rw [← List.head?_drop,hd]; rfl
   have hlt : i < r.mutes.length := (List.getElem?_eq_some_iff.1 hb).1
   have hl := (hm0.pre hp).len (P := prog) (T := 23) (e := 9) (by simp)
   simp [strCells] at hl
   obtain ⟨q,hp1,hp2⟩ := strs_get (hm0.pre hp) hb
   have hl8 : Vi.hlen K b = some 8 := by rw [hcells_len hc]; rfl
   rw [List.length_cons,L5x0q]
   by_cases t1 : left < (x.length : Int)
   · simp [hc,hl8,Rul.cells,hl,hlt,hp1,hp2,t1]
     exact hT K hp
   · have hw : IntKind.i64.wrap (left - x.length) = left - x.length := wrap_i64 (by omega) (by omega)
     simp [hc,hl8,Rul.cells,hl,hlt,hp1,hp2,t1,hw,show i + 1 < 2 ^ 63 by omega]
     refine ih (i + 1) _ K _ _ _ _ _ _ _ _ _ _ _ _ _ _ _ _ _ _ _ _ _ _ _ _ _ _ _ _ _ _ _ _ _ _ _ _ _ _ _ _ _ _ _ _ _ _ _ _ _ _ _ _ _ _ _ _ _ _ _ _ _ _ _ _ _ _ _ _ _ _ _ _ _ _ _ _ _ _ _ _ _ _ _ _ _ _ _ _ _ _ _ _ _ _ _ _ _ _ _ _ _ _ _ _ _ _ _ _ _ _ _ _ _ _ _ _ _ _ _ _ _ _ _ _ _ _ _ _ (by rw [← List.drop_drop,hd]; rfl) hlt ?_ hp (by omega) hc
     intro s hs'
     rw [List.take_add_one,hb] at hs'
     simp at hs'
     rcases hs' with hs' | rfl
     · exact hs s hs'
     · omega
theorem c_bbig (hn0 : NodesAt H nv r.nodes) (hm0 : Arr H 1 mv (strCells r.mutes)) (hw : ∀ n ∈ r.nodes,n.window < 2 ^ 63) : ∃ b,(b = false → r.small ∧ r.tame) ∧ ACalls prog 5 [.agg (r.cells nv mv).toArray] H (.bool b) H := by
 refine acalls_bool MixT func5 (by decide) fun k hT hk => ?_
 rw [d5]
 have h1 : nv.oneCell' = true := by obtain ⟨_,h,_⟩ := hn0; exact h.one
 have h2 := hm0.one
 have hl : ∀ X : AHeap,aLen prog (H ++ X) 23 mv = some (i64 r.mutes.length) := fun X => by
  have := (hm0.pre (.app H X)).len (P := prog) (T := 23) (e := 9) (by simp)
  simpa [strCells] using this
 have hln := fun X : AHeap => (hn0.pre (.app H X)).len (H ++ X)
 have hT' := hT (H ++ [.cells [str r.name,str r.byL,nv,i64 r.forM,i64 r.every,i64 r.repeatM,mv,str r.route] 25]) (.app _ _)
 by_cases c1 : (100 : Int) < r.mutes.length
 · simp [aNew_agg,Rul.cells,h1,h2,hl,c1]
   exact hT'
 by_cases c2 : (100 : Int) < r.nodes.length
 · simp [aNew_agg,Rul.cells,h1,h2,hl,hln,c1,c2]
   exact hT'
 by_cases c3 : (1000 : Int) < r.name.length
 · simp [aNew_agg,Rul.cells,h1,h2,hl,hln,c1,c2,c3]
   exact hT'
 by_cases c4 : (1000 : Int) < r.byL.length
 · simp [aNew_agg,Rul.cells,h1,h2,hl,hln,c1,c2,c3,c4]
   exact hT'
 by_cases c5 : (1000 : Int) < r.route.length
 · simp [aNew_agg,Rul.cells,h1,h2,hl,hln,c1,c2,c3,c4,c5]
   exact hT'
 have w1 : IntKind.i64.wrap (5000 - (r.name.length : Int)) = 5000 - r.name.length := wrap_i64 (by omega) (by omega)
 have w2 : IntKind.i64.wrap (5000 - (r.name.length : Int) - r.byL.length) = 5000 - r.name.length - r.byL.length := wrap_i64 (by omega) (by omega)
 have w3 : IntKind.i64.wrap (5000 - (r.name.length : Int) - r.byL.length - r.route.length) = 5000 - r.name.length - r.byL.length - r.route.length := wrap_i64 (by omega) (by omega)
 simp [aNew_agg,Rul.cells,h1,h2,hl,hln,c1,c2,c3,c4,c5,w1,w2,w3]
 refine ⟨r.mutes.length + 1,?_⟩
 exact bb_x0 (H := H) (r := r) (nv := nv) (mv := mv) (b := H.length) hn0 hm0 (by omega) (by omega) hT (fun q1 q2 K p => hk ⟨⟨by omega,by omega,fun n hn => (q1 n hn).1⟩,⟨by omega,by omega,by omega,q2,by omega,by omega,fun n hn => (q1 n hn).2,hw⟩⟩ K p) r.mutes 0 _ _ _ _ _ _ _ _ _ _ _ _ _ _ _ _ _ _ _ _ _ _ _ _ _ _ _ _ _ _ _ _ _ _ _ _ _ _ _ _ _ _ _ _ _ _ _ _ _ _ _ _ _ _ _ _ _ _ _ _ _ _ _ _ _ _ _ _ _ _ _ _ _ _ _ _ _ _ _ _ _ _ _ _ _ _ _ _ _ _ _ _ _ _ _ _ _ _ _ _ _ _ _ _ _ _ _ _ _ _ _ _ _ _ _ _ _ _ _ _ _ _ _ _ _ _ _ _ _ _ rfl (by omega) (by simp) (.app _ _) (by omega) (by simp [Rul.cells])
end
end Go.Vi
namespace Go.Vi
open Go Go.Proofs Go.Proofs.Try
theorem r_errno (H : AHeap) (b : Bool) : ACalls prog 28 [.bool b] H (i64 (errno b)) H := by
 refine acalls_pure MixT func28 (by decide) rfl ?_
 rw [d28]
 cases b <;> simp [errno]
theorem idx_arr {P : Program} {H : AHeap} {T e : TypeId} {b o m z n : Nat} {k : IntKind} {i : Int} (hu : P.underlying T = some (.array n e)) (hs : tsize P e = some z) (hl : Vi.hlen H b = some m) (h0 : 0 ≤ i) (h1 : i < n) :
  aIndexAddr P H T (.pointer (some ⟨b,o,some m⟩)) (.int k i) = some (.pointer (some ⟨b,o + i.toNat * z,some m⟩)) := by
 show aIndexAddr0 P H T (.pointer (some ⟨b,o,some m⟩)) (.int k i) = _
 simp [aIndexAddr0,hl,h0,h1,hu,hs]
theorem day_get {K : AHeap} {b i : Nat} {m : Mut} {d : Bool} (hd : m.days.length = 7) (hc : hcells K b = some m.cells) (hi : m.days[i]? = some d) :
  ∃ p,aIndexAddr prog K 26 (.pointer (some ⟨b,1,some 10⟩)) (i64 i) = some p ∧ aLoad prog K 4 p = some (.bool d) := by
 have hlt := (List.getElem?_eq_some_iff.1 hi).1
 have hml : m.cells.length = 10 := by simp [Mut.cells,hd]
 have hl : Vi.hlen K b = some 10 := by rw [hcells_len hc,hml]
 refine ⟨.pointer (some ⟨b,1 + i,some 10⟩),?_,?_⟩
 · have := idx_arr (P := prog) (H := K) (T := 26) (e := 4) (b := b) (o := 1) (m := 10) (z := 1) (n := 7) (k := .i64) (i := i) (by simp) (by simp) hl (by omega) (by omega)
   simpa using this
 · have : m.cells[1 + i]? = some (.bool d) := by
    unfold Mut.cells
    rw [show 1 + i = i + 1 by omega,List.getElem?_cons_succ,List.getElem?_append_left (by simpa using hlt),List.getElem?_map,hi]; rfl
   simp [hc,hml,this]
theorem mut_cells {m : Mut} (hd : m.days.length = 7) : ∃ d0 d1 d2 d3 d4 d5 d6 : Bool,m.cells = [str m.name,.bool d0,.bool d1,.bool d2,.bool d3,.bool d4,.bool d5,.bool d6,i64 m.fromM,i64 m.toM] := by
 obtain ⟨name,days,fr,to⟩ := m
 simp only at hd
 match days,hd with
 | [d0,d1,d2,d3,d4,d5,d6],_ => exact ⟨d0,d1,d2,d3,d4,d5,d6,rfl⟩
theorem Mut.may_iff (m : Mut) : m.mayB = (mayName m.name && (m.days.any (true == ·) && (decide (m.fromM ≥ 0) && (decide (m.fromM < 1440) && (decide (m.toM ≥ 1) && (decide (m.toM ≤ 1440) && (m.fromM != m.toM))))))) := by
 unfold Mut.mayB
 have : decide (m.fromM ≤ 1439) = decide (m.fromM < 1440) := by rw [decide_eq_decide]; omega
 simp only [List.all_cons,List.all_nil,id,this,Bool.and_true,Bool.and_assoc]
set_option maxRecDepth 20000 in
theorem mut_loop {H : AHeap} {m : Mut} {b : Nat} {k : Value → AHeap → Prop} (hd : m.days.length = 7) (hn : m.name.length ≤ 5000) (hc : hcells H b = some m.cells) (hk : k (.bool m.mayB) H) :
  ∀ (d i : Nat) (acc : Bool) (s0 s2 s5 s6 s7 s8 s9 s10 s11 s12 s13 s14 s15 s16 s17 s18 s19 s20 s21 s22 s23 s24 s25 s26 s27 s28 s29 s30 s31 s32 s33 s34 s35 s36 s37 s38 s39 s40 s41 s42 s43 s44 s45 s46 s47 s48 : Value),d + i = 7 → acc = (m.days.take i).any (true == ·) → L31x0 (d + 1) k [s0,.pointer (some ⟨b,0,some 10⟩),s2,.bool acc,i64 i,s5,s6,s7,s8,s9,s10,s11,s12,s13,s14,s15,s16,s17,s18,s19,s20,s21,s22,s23,s24,s25,s26,s27,s28,s29,s30,s31,s32,s33,s34,s35,s36,s37,s38,s39,s40,s41,s42,s43,s44,s45,s46,s47,s48] H := by
 have hml : m.cells.length = 10 := by simp [Mut.cells,hd]
 have hl : Vi.hlen H b = some 10 := by rw [hcells_len hc,hml]
 obtain ⟨d0,d1,d2,d3,d4,d5,d6,hce⟩ := mut_cells hd
 have hc1 := hc
 rw [hce] at hc1
 intro d
 induction d with
 | zero =>
   intro i acc s0 s2 s5 s6 s7 s8 s9 s10 s11 s12 s13 s14 s15 s16 s17 s18 s19 s20 s21 s22 s23 s24 s25 s26 s27 s28 s29 s30 s31 s32 s33 s34 s35 s36 s37 s38 s39 s40 s41 s42 s43 s44 s45 s46 s47 s48 hi hacc
   obtain rfl : i = 7 := by omega
   rw [List.take_of_length_le (by omega)] at hacc
   rw [L31x0q]
   rw [Mut.may_iff,← hacc] at hk
   simp [hc1,hl]
   refine bndC_of (r_mayName H (by omega)) ?_
   cases h1 : mayName m.name with
   | false => rw [h1] at hk; simp; simpa using hk
   | true =>
     rw [h1] at hk
     cases acc with
     | false => simp; simpa using hk
     | true =>
       by_cases c1 : (0 : Int) ≤ m.fromM
       · by_cases c2 : m.fromM < 1440
         · by_cases c3 : (1 : Int) ≤ m.toM
           · by_cases c4 : m.toM ≤ 1440
             · simp [hc1,hl,c1,c2,c3,c4]
               simpa [c1,c2,c3,c4] using hk
             · simp [hc1,hl,c1,c2,c3,c4]
               simpa [c1,c2,c3,c4] using hk
           · simp [hc1,hl,c1,c2,c3]
             simpa [c1,c2,c3] using hk
         · simp [hc1,hl,c1,c2]
           simpa [c1,c2] using hk
       · simp [hc1,hl,c1]
         simpa [c1] using hk
 | succ d ih =>
   intro i acc s0 s2 s5 s6 s7 s8 s9 s10 s11 s12 s13 s14 s15 s16 s17 s18 s19 s20 s21 s22 s23 s24 s25 s26 s27 s28 s29 s30 s31 s32 s33 s34 s35 s36 s37 s38 s39 s40 s41 s42 s43 s44 s45 s46 s47 s48 hi hacc
   have hlt : i < 7 := by omega
   obtain ⟨x,hx⟩ : ∃ x,m.days[i]? = some x := ⟨_,List.getElem?_eq_getElem (by omega)⟩
   obtain ⟨p,p1,p2⟩ := day_get hd hc hx
   have hltI : (i : Int) < 7 := by omega
   rw [L31x0q]
   have hacc' : (acc || (true == x)) = (m.days.take (i + 1)).any (true == ·) := by rw [List.take_add_one,hx,hacc]; simp
   cases acc with
   | true =>
     simp [hltI,show i + 1 < 2 ^ 63 by omega]
     exact ih (i + 1) true _ _ _ _ _ _ _ _ _ _ _ _ _ _ _ _ _ _ _ _ _ _ _ _ _ _ _ _ _ _ _ _ _ _ _ _ _ _ _ _ _ _ _ _ _ _ (by omega) (by rw [← hacc']; rfl)
   | false =>
     simp [hltI,show i + 1 < 2 ^ 63 by omega,hl,p1,p2]
     exact ih (i + 1) x _ _ _ _ _ _ _ _ _ _ _ _ _ _ _ _ _ _ _ _ _ _ _ _ _ _ _ _ _ _ _ _ _ _ _ _ _ _ _ _ _ _ _ _ _ _ (by omega) (by rw [← hacc']; cases x <;> rfl)
set_option maxRecDepth 20000 in
theorem mut_new {H : AHeap} (m : Mut) (hd : m.days.length = 7) : aNew H 28 (.agg m.cells.toArray) = some (.pointer (some ⟨H.length,0,some 10⟩),H ++ [.cells m.cells 28]) := by
 rw [aNew_agg (by rw [stor_agg,List.all_eq_true]; exact m.one)]
 have hml : m.cells.length = 10 := by simp [Mut.cells,hd]
 simp [hml]
set_option maxRecDepth 20000 in
theorem r_mayMute {H : AHeap} {m : Mut} (hd : m.days.length = 7) (hn : m.name.length ≤ 5000) : ACalls prog 31 [.agg m.cells.toArray] H (.bool m.mayB) H := by
 refine acalls_pure MixT func31 (by decide) rfl ?_
 rw [d31,mut_new m hd]
 simp only [bndE_some]
 refine ⟨7 + 1,?_⟩
 exact mut_loop (H := H ++ [.cells m.cells 28]) (b := H.length) (k := fun u H2 => u = .bool m.mayB ∧ ∃ X,H2 = H ++ X) hd hn (by simp) ⟨rfl,_,rfl⟩ 7 0 false _ _ _ _ _ _ _ _ _ _ _ _ _ _ _ _ _ _ _ _ _ _ _ _ _ _ _ _ _ _ _ _ _ _ _ _ _ _ _ _ _ _ _ _ _ _ (by omega) (by simp)
section
variable {H : AHeap} {r : Rul} {n1 m1 n2 m2 : Value} {a b : Nat} {k : Value → AHeap → Prop}
theorem sameR_loop (hn1 : NodesAt H n1 r.nodes) (hn2 : NodesAt H n2 r.nodes) (hm1 : Arr H 1 m1 (strCells r.mutes)) (hm2 : Arr H 1 m2 (strCells r.mutes)) (hml : r.mutes.length < 2 ^ 62) (hnl : r.nodes.length < 2 ^ 62) (hs : ∀ n ∈ r.nodes,n.sel.length < 2 ^ 63)
  (ha : hcells H a = some (r.cells n1 m1)) (hb : hcells H b = some (r.cells n2 m2)) (hk : k (.bool true) H) :
  ∀ (d i : Nat) (s0 s1 s4 s6 s7 s8 s9 s10 s11 s12 s13 s14 s15 s16 s17 s18 s19 s20 s21 s22 s23 s24 s25 s26 s27 s28 s29 s30 s31 s32 s33 s34 s35 s36 s37 s38 s39 s40 s41 s42 s43 s44 s45 s46 s47 s48 s49 s50 s51 s52 s53 s54 s55 s56 s57 s58 s59 s60 s61 s62 s63 s64 s65 s66 s67 s68 s69 s70 s71 s72 s73 s74 s75 s76 s77 : Value),d + i = r.mutes.length → L13x0 (d + 1) k [s0,s1,.pointer (some ⟨a,0,some 8⟩),.pointer (some ⟨b,0,some 8⟩),s4,i64 i,s6,s7,s8,s9,s10,s11,s12,s13,s14,s15,s16,s17,s18,s19,s20,s21,s22,s23,s24,s25,s26,s27,s28,s29,s30,s31,s32,s33,s34,s35,s36,s37,s38,s39,s40,s41,s42,s43,s44,s45,s46,s47,s48,s49,s50,s51,s52,s53,s54,s55,s56,s57,s58,s59,s60,s61,s62,s63,s64,s65,s66,s67,s68,s69,s70,s71,s72,s73,s74,s75,s76,s77] H := by
 have la : Vi.hlen H a = some 8 := by rw [hcells_len ha]; rfl
 have lb : Vi.hlen H b = some 8 := by rw [hcells_len hb]; rfl
 simp only [Rul.cells] at ha hb
 have hlen := Arr.len (P := prog) (T := 23) (e := 9) hm1 (by simp)
 simp [strCells] at hlen
 intro d
 induction d with
 | zero =>
   intro i s0 s1 s4 s6 s7 s8 s9 s10 s11 s12 s13 s14 s15 s16 s17 s18 s19 s20 s21 s22 s23 s24 s25 s26 s27 s28 s29 s30 s31 s32 s33 s34 s35 s36 s37 s38 s39 s40 s41 s42 s43 s44 s45 s46 s47 s48 s49 s50 s51 s52 s53 s54 s55 s56 s57 s58 s59 s60 s61 s62 s63 s64 s65 s66 s67 s68 s69 s70 s71 s72 s73 s74 s75 s76 s77 hi
   have : ¬ i < r.mutes.length := by omega
   rw [L13x0q]
   simp [ha,hb,la,lb,hlen,this]
   refine bndG_t (.bool true) H (by have := r_sameN hn1 hn2 (by omega) hs; simpa using this) ?_
   simp [ha,hb,la,lb]
   exact hk
 | succ d ih =>
   intro i s0 s1 s4 s6 s7 s8 s9 s10 s11 s12 s13 s14 s15 s16 s17 s18 s19 s20 s21 s22 s23 s24 s25 s26 s27 s28 s29 s30 s31 s32 s33 s34 s35 s36 s37 s38 s39 s40 s41 s42 s43 s44 s45 s46 s47 s48 s49 s50 s51 s52 s53 s54 s55 s56 s57 s58 s59 s60 s61 s62 s63 s64 s65 s66 s67 s68 s69 s70 s71 s72 s73 s74 s75 s76 s77 hi
   have hlt : i < r.mutes.length := by omega
   obtain ⟨s,hs'⟩ : ∃ t,r.mutes[i]? = some t := ⟨_,List.getElem?_eq_getElem hlt⟩
   obtain ⟨p,p1,p2⟩ := strs_get hm1 hs'
   obtain ⟨q,q1,q2⟩ := strs_get hm2 hs'
   rw [L13x0q]
   simp [ha,hb,la,lb,hlen,hlt,p1,p2,q1,q2,show i + 1 < 2 ^ 63 by omega]
   exact ih (i + 1) _ _ _ _ _ _ _ _ _ _ _ _ _ _ _ _ _ _ _ _ _ _ _ _ _ _ _ _ _ _ _ _ _ _ _ _ _ _ _ _ _ _ _ _ _ _ _ _ _ _ _ _ _ _ _ _ _ _ _ _ _ _ _ _ _ _ _ _ _ _ _ _ _ _ _ (by omega)
theorem r_sameRule (hn1 : NodesAt H n1 r.nodes) (hn2 : NodesAt H n2 r.nodes) (hm1 : Arr H 1 m1 (strCells r.mutes)) (hm2 : Arr H 1 m2 (strCells r.mutes)) (hml : r.mutes.length < 2 ^ 62) (hnl : r.nodes.length < 2 ^ 62) (hs : ∀ n ∈ r.nodes,n.sel.length < 2 ^ 63) :
  ACalls prog 13 [.agg (r.cells n1 m1).toArray,.agg (r.cells n2 m2).toArray] H (.bool true) H := by
 refine acalls_pure MixT func13 (by decide) rfl ?_
 have o1 : n1.oneCell' = true := by obtain ⟨_,h,_⟩ := hn1; exact h.one
 have o2 := hm1.one
 have o3 : n2.oneCell' = true := by obtain ⟨_,h,_⟩ := hn2; exact h.one
 have o4 := hm2.one
 have hnew1 : aNew H 25 (.agg (r.cells n1 m1).toArray) = some (.pointer (some ⟨H.length,0,some 8⟩),H ++ [.cells (r.cells n1 m1) 25]) := by simp [aNew_agg,Rul.cells,o1,o2]
 have hnew2 : aNew (H ++ [.cells (r.cells n1 m1) 25]) 25 (.agg (r.cells n2 m2).toArray) = some (.pointer (some ⟨H.length + 1,0,some 8⟩),H ++ [.cells (r.cells n1 m1) 25,.cells (r.cells n2 m2) 25]) := by simp [aNew_agg,Rul.cells,o3,o4]
 rw [d13,hnew1]
 simp only [bndE_some]
 rw [hnew2]
 simp only [bndE_some]
 obtain ⟨K,hK⟩ : ∃ K,K = H ++ [AObj.cells (r.cells n1 m1) 25,.cells (r.cells n2 m2) 25] := ⟨_,rfl⟩
 have hp : Pre H K := by rw [hK]; exact .app _ _
 have ha0 : hcells K H.length = some (r.cells n1 m1) := by rw [hK]; simp
 have hb0 : hcells K (H.length + 1) = some (r.cells n2 m2) := by rw [hK]; simp
 rw [← hK]
 have la : Vi.hlen K H.length = some 8 := by rw [hcells_len ha0]; rfl
 have lb : Vi.hlen K (H.length + 1) = some 8 := by rw [hcells_len hb0]; rfl
 have ha := ha0
 have hb := hb0
 simp only [Rul.cells] at ha hb
 have e1 := Arr.len (P := prog) (T := 23) (e := 9) (hm1.pre hp) (by simp)
 have e2 := Arr.len (P := prog) (T := 23) (e := 9) (hm2.pre hp) (by simp)
 simp [strCells] at e1 e2
 simp [ha,hb,la,lb,e1,e2]
 exact ⟨r.mutes.length + 1,sameR_loop (hn1.pre hp) (hn2.pre hp) (hm1.pre hp) (hm2.pre hp) hml hnl hs ha0 hb0 ⟨rfl,hp⟩ r.mutes.length 0 _ _ _ _ _ _ _ _ _ _ _ _ _ _ _ _ _ _ _ _ _ _ _ _ _ _ _ _ _ _ _ _ _ _ _ _ _ _ _ _ _ _ _ _ _ _ _ _ _ _ _ _ _ _ _ _ _ _ _ _ _ _ _ _ _ _ _ _ _ _ _ _ _ _ _ (by omega)⟩
end
end Go.Vi
