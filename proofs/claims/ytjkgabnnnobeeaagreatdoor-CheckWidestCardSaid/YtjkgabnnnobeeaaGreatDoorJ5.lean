/- All tokens. All tokens: the iterator, and the range over it. The reader of conditions: tokens. Numbers' texts. Reading a condition. Regions whose calls change what operations in no order with them do not look at. What the functions' bodies come to. Conditions read. The examples of chapter 11. Statements of chapter 11: the walks. CheckWidest: the walk. -/
import Derived.Test.YtjkgabnnnobeeaaGreatDoorJ4
import Derived.Test.YtjkgabnnnobeeaaGreatDoorJ3
import Derived.Test.YtjkgabnnnobeeaaGreatDoorJ2
import Derived.Test.YtjkgabnnnobeeaaGreatDoorChecked
namespace Go.Vi
open Go Go.Proofs

def blanks : List UInt8 := [32, 9, 10, 13]
def notNl (b : UInt8) : Bool := (b.toNat : Int) != 10
/-- How many bytes lie ahead of the next token. -/
def skipF : Nat → List UInt8 → Nat
  | 0, _ => 0
  | _ + 1, [] => 0
  | f + 1, b :: r => if hasB blanks b = true then 1 + skipF f r
    else if ((b.toNat : Int) == 35) = true then runF notNl (b :: r) + skipF f ((b :: r).drop (runF notNl (b :: r)))
    else 0
theorem skipF_le : ∀ (f : Nat) (s : List UInt8), skipF f s ≤ s.length := by
  intro f
  induction f with
  | zero => intro s; simp [skipF]
  | succ f ih =>
    intro s
    cases s with
    | nil => simp [skipF]
    | cons b r =>
      simp only [skipF]
      split
      · have := ih r; simp; omega
      · split
        · have h1 := ih ((b :: r).drop (runF notNl (b :: r)))
          have h2 := runF_le notNl (b :: r)
          rw [List.length_drop] at h1
          omega
        · simp
theorem skip_loop {l : List UInt8} {H : AHeap} {k : Value → AHeap → Prop} (hl : l.length < 2 ^ 40) (w : Nat) (hk : k (i64 w) H) :
    ∀ (f : Nat) (a : Nat) (s2 s3 s4 s5 s6 s7 s8 s9 s10 s11 s12 s13 s14 s15 s16 s17 s18 s19 s20 s21 s22 s23 s24 s25 s26 s27 s28 : Value), (l.drop a).length ≤ f → a ≤ l.length → w = a + skipF f (l.drop a) →
      L69x0 (f + 1) k [str l, i64 a, s2, s3, s4, s5, s6, s7, s8, s9, s10, s11, s12, s13, s14, s15, s16, s17, s18, s19, s20, s21, s22, s23, s24, s25, s26, s27, s28] H := by
  intro f
  induction f with
  | zero =>
    intro a s2 s3 s4 s5 s6 s7 s8 s9 s10 s11 s12 s13 s14 s15 s16 s17 s18 s19 s20 s21 s22 s23 s24 s25 s26 s27 s28 hf ha hw
    rw [List.length_drop] at hf
    rw [L69x0q]
    have : ¬ a < l.length := by omega
    simp [this]
    simp [skipF] at hw
    rw [← hw]; exact hk
  | succ f ih =>
    intro a s2 s3 s4 s5 s6 s7 s8 s9 s10 s11 s12 s13 s14 s15 s16 s17 s18 s19 s20 s21 s22 s23 s24 s25 s26 s27 s28 hf ha hw
    rw [L69x0q]
    by_cases hlt : a < l.length
    · obtain ⟨b, r, hbr⟩ : ∃ b r, l.drop a = b :: r := by
        cases h : l.drop a with
        | nil => simp at h; omega
        | cons b r => exact ⟨b, r, rfl⟩
      have hb : l[a]? = some b := by rw [← List.head?_drop, hbr]; rfl
      have hix := aIndex_at (P := Tryz.prog) (T := 9) (k := .i64) (by simp) hb
      have hd1 : l.drop (a + 1) = r := by rw [← List.drop_drop, hbr]; rfl
      rw [hbr, skipF] at hw
      simp [hlt, hix]
      refine bndC_of (c_indexByte _ _ _) ?_
      simp
      refine kifB_bool (fun h => ?_) (fun h => ?_)
      · rw [if_pos (by simpa [hasB, blanks] using h)] at hw
        simp [show a + 1 < 2 ^ 63 by omega]
        exact ih (a + 1) _ _ _ _ _ _ _ _ _ _ _ _ _ _ _ _ _ _ _ _ _ _ _ _ _ _ _ (by rw [hbr] at hf; rw [hd1]; simp at hf; exact hf) hlt (by rw [hw, hd1]; omega)
      rw [if_neg (by simpa [hasB, blanks] using h)] at hw
      simp [hix]
      refine kifB_bool (fun h => ?_) (fun h => ?_)
      · rw [if_pos h] at hw
        refine bndC_of (c_run (p := notNl) (c_skip1 _) (by omega) (by omega)) ?_
        have hrl := runF_le notNl (l.drop a)
        rw [List.length_drop] at hrl
        have hpos : 1 ≤ runF notNl (l.drop a) := by
          rw [hbr]
          have : notNl b = true := by
            have : (b.toNat : Int) = 35 := by simpa using h
            simp [notNl, this]
          simp [runF, this]
        rw [runN_eq]
        rw [← hbr] at hw
        generalize hm : runF notNl (l.drop a) = m at hw hrl hpos
        have hwr : IntKind.i64.wrap ((a : Int) + m) = ((a + m : Nat) : Int) := by rw [wrap_i64 (by omega) (by omega)]; simp
        simp only [aBin_add, hwr, bnd_some]
        rw [List.drop_drop] at hw
        exact ih (a + m) _ _ _ _ _ _ _ _ _ _ _ _ _ _ _ _ _ _ _ _ _ _ _ _ _ _ _ (by rw [List.length_drop] at hf ⊢; omega) (by omega) (by rw [hw]; omega)
      · rw [if_neg (by simp [h])] at hw
        simp at hw
        simp
        rw [← hw]; exact hk
    · have : l.drop a = [] := by simp; omega
      rw [this, skipF] at hw
      simp [hlt]
      simp at hw
      rw [← hw]; exact hk
/-- Where the next token begins. -/
def skipN (l : List UInt8) (a : Nat) : Nat := a + skipF (l.length - a) (l.drop a)
theorem skipN_le {l : List UInt8} {a : Nat} (h : a ≤ l.length) : skipN l a ≤ l.length := by
  have := skipF_le (l.length - a) (l.drop a)
  rw [List.length_drop] at this
  unfold skipN; omega
theorem c_skip {H : AHeap} {l : List UInt8} {a : Nat} (hl : l.length < 2 ^ 40) (ha : a ≤ l.length) : ACalls Tryz.prog 69 [str l, i64 a] H (i64 (skipN l a)) H := by
  refine acalls_pure MixT Tryz.func69 (by decide) rfl ?_
  rw [d69]
  exact ⟨_, skip_loop (k := Same (i64 (skipN l a)) H) hl (skipN l a) ⟨rfl, [], by simp⟩ (l.length - a) a _ _ _ _ _ _ _ _ _ _ _ _ _ _ _ _ _ _ _ _ _ _ _ _ _ _ _ (by simp) ha rfl⟩

/-! ### A round, whatever it comes to -/
theorem kround_one {P : Program} {b args H} {k : Value → AHeap → Prop} (h : kround P b args H k) : ∃ v H', k v H' ∧ kround P b args H fun u H2 => u = v ∧ H2 = H' := by
  unfold kround at h
  split at h
  case h_2 => cases h
  rename_i sl ps assign body pe hb
  obtain ⟨hl, hx⟩ := h
  obtain ⟨e1, s1, H1, ⟨rfl, hb1, hx1⟩, hy⟩ := kx_one _ hx
  obtain ⟨e2, s2, H2, ⟨hb2, hk⟩, hz⟩ := kx_one _ hx1
  refine ⟨_, _, hk, ?_⟩
  unfold kround
  rw [hb]
  refine ⟨hl, kx_mono _ ?_ hy⟩
  rintro e sl H ⟨rfl, rfl, rfl⟩
  refine ⟨rfl, hb1, kx_mono _ ?_ hz⟩
  rintro e sl H ⟨rfl, rfl, rfl⟩
  exact ⟨hb2, rfl, rfl⟩
theorem ayields_ex {P : Program} (hm : P.follows .mixedOrders = true) {b args H} {k : Value → AHeap → Prop} (h : kround P b args H k) : ∃ v H', k v H' ∧ AYields P b args H v H' := by
  obtain ⟨v, H', h1, h2⟩ := kround_one h
  exact ⟨v, H', h1, ayields_of hm h2⟩

/-! ### One outcome, where the drawn regions have one -/
structure OneD (D : DrawK) : Prop where
  mono : ∀ {ops} {k k' : List Value → AHeap → Prop} {sl H}, (∀ s h, k s h → k' s h) → D ops k sl H → D ops k' sl H
  one : ∀ {ops} {k : List Value → AHeap → Prop} {sl H}, D ops k sl H → ∃ sl' H', k sl' H' ∧ D ops (fun s h => s = sl' ∧ h = H') sl H
section
variable {P : Program}
theorem drawStd_one : OneD (drawStd P) := by
  constructor
  · intro ops k k' sl H hk h
    unfold drawStd at h ⊢
    split at h
    · exact kdraw_mono hk _ _ h
    · cases h
  · intro ops k sl H h
    unfold drawStd at h ⊢
    split at h
    · exact kdraw_one _ _ h
    · cases h
variable {D : DrawK}
theorem kloopG_mono {f : List Value → AHeap → List Nat → KontG → Prop} (hm : ∀ {sl H m} {k k' : KontG}, (∀ e sl H m, k e sl H m → k' e sl H m) → f sl H m k → f sl H m k') :
    ∀ (n : Nat) {sl H m} {k k' : KontG}, (∀ e sl H m, k e sl H m → k' e sl H m) → kloopG f n sl H m k → kloopG f n sl H m k' := by
  intro n
  induction n with
  | zero => intro sl H m k k' _ h; cases h
  | succ n ih =>
    intro sl H m k k' hk h
    simp only [kloopG] at h ⊢
    refine hm ?_ h
    intro e sl H m h
    cases e with
    | normal => exact ih hk h
    | exit i => exact hk _ _ _ _ h
    | ret => exact hk _ _ _ _ h
theorem kjump_mono {k k' : KontG} (hk : ∀ e sl H m, k e sl H m → k' e sl H m) {sl H m pe} (h : kjump k sl H m pe) : kjump k' sl H m pe := by
  unfold kjump at h ⊢
  split at h
  · exact hk _ _ _ _ h
  · exact hk _ _ _ _ h
  · exact hk _ _ _ _ h
  · cases h
theorem kxG_mono (hD : OneD D) : ∀ (c : Code) {sl H m} {k k' : KontG}, (∀ e sl H m, k e sl H m → k' e sl H m) → kxG P D c sl H m k → kxG P D c sl H m k' := by
  intro c
  induction c with
  | skip => intro sl H m k k' hk h; exact hk _ _ _ _ h
  | label l => intro sl H m k k' hk h; exact hk _ _ _ _ h
  | region id ops draw =>
    intro sl H m k k' hk h
    cases draw with
    | false => exact kops_mono (fun s h => hk .normal s h m) _ h
    | true => exact hD.mono (fun s h => hk .normal s h m) h
  | seq x y ihx ihy =>
    intro sl H m k k' hk h
    refine ihx ?_ h
    intro e sl H m h
    cases e with
    | normal => exact ihy hk h
    | exit i => exact hk _ _ _ _ h
    | ret => exact hk _ _ _ _ h
  | cond c x y ihx ihy =>
    intro sl H m k k' hk h
    simp only [kxG] at h ⊢
    split at h
    · unfold kif at h ⊢
      split at h
      · split at h
        · rename_i q; simp only [if_pos q]; exact ihx hk h
        · rename_i q; simp only [if_neg q]; exact ihy hk h
      · cases h
    · cases h
  | block id c ih =>
    intro sl H m k k' hk h
    refine ih ?_ h
    intro e sl H m h
    cases e with
    | normal => exact hk _ _ _ _ h
    | exit i =>
      simp only [kblkG] at h ⊢
      split at h
      · rename_i q; rw [if_pos q]; exact hk _ _ _ _ h
      · rename_i q; rw [if_neg q]; exact hk _ _ _ _ h
    | ret => exact hk _ _ _ _ h
  | exit id => intro sl H m k k' hk h; exact hk _ _ _ _ h
  | ret => intro sl H m k k' hk h; exact hk _ _ _ _ h
  | loop c ih =>
    intro sl H m k k' hk h
    obtain ⟨n, h⟩ := h
    exact ⟨n, kloopG_mono (f := kxG P D c) (fun hk h => ih hk h) n hk h⟩
  | rangeFunc g ps assign body _ _ =>
    intro sl H m k k' hk h
    simp only [kxG] at h ⊢
    split at h
    · unfold krange at h ⊢
      split at h
      · obtain ⟨h1, h2, v, H', h3, h4⟩ := h
        refine ⟨h1, h2, v, H', h3, ?_⟩
        unfold rngEnd at h4 ⊢
        split at h4
        · exact ⟨h4.1, kjump_mono hk h4.2⟩
        · cases h4
      · cases h
    · cases h
  | _ => intro sl H m k k' hk h; cases h
def kisG (e : AExit) (sl : List Value) (H : AHeap) (m : List Nat) : KontG := fun e2 s2 h2 m2 => e2 = e ∧ s2 = sl ∧ h2 = H ∧ m2 = m
theorem kloopG_one {f : List Value → AHeap → List Nat → KontG → Prop} (hf : ∀ {sl H m} {k : KontG}, f sl H m k → ∃ e sl' H' m', k e sl' H' m' ∧ f sl H m (kisG e sl' H' m'))
    (hm : ∀ {sl H m} {k k' : KontG}, (∀ e sl H m, k e sl H m → k' e sl H m) → f sl H m k → f sl H m k') :
    ∀ (n : Nat) {sl H m} {k : KontG}, kloopG f n sl H m k → ∃ e sl' H' m', k e sl' H' m' ∧ kloopG f n sl H m (kisG e sl' H' m') := by
  intro n
  induction n with
  | zero => intro sl H m k h; cases h
  | succ n ih =>
    intro sl H m k h
    simp only [kloopG] at h
    obtain ⟨e, s1, h1, m1, hk, hf1⟩ := hf h
    cases e with
    | normal =>
      obtain ⟨e2, s2, h2, m2, hk2, hf2⟩ := ih hk
      refine ⟨e2, s2, h2, m2, hk2, ?_⟩
      simp only [kloopG]
      refine hm ?_ hf1
      rintro e sl H m ⟨rfl, rfl, rfl, rfl⟩
      exact hf2
    | exit i =>
      refine ⟨.exit i, s1, h1, m1, hk, ?_⟩
      simp only [kloopG]
      refine hm ?_ hf1
      rintro e sl H m ⟨rfl, rfl, rfl, rfl⟩
      exact ⟨rfl, rfl, rfl, rfl⟩
    | ret =>
      refine ⟨.ret, s1, h1, m1, hk, ?_⟩
      simp only [kloopG]
      refine hm ?_ hf1
      rintro e sl H m ⟨rfl, rfl, rfl, rfl⟩
      exact ⟨rfl, rfl, rfl, rfl⟩
theorem kxG_one (hD : OneD D) : ∀ (c : Code) {sl H m} {k : KontG}, kxG P D c sl H m k → ∃ e sl' H' m', k e sl' H' m' ∧ kxG P D c sl H m (kisG e sl' H' m') := by
  intro c
  induction c with
  | skip => intro sl H m k h; exact ⟨_, _, _, _, h, rfl, rfl, rfl, rfl⟩
  | label l => intro sl H m k h; exact ⟨_, _, _, _, h, rfl, rfl, rfl, rfl⟩
  | region id ops draw =>
    intro sl H m k h
    cases draw with
    | false =>
      obtain ⟨a, b, h1, h2⟩ := kops_one (k := fun s h => k .normal s h m) _ h
      exact ⟨.normal, a, b, m, h1, kops_mono (fun _ _ q => ⟨rfl, q.1, q.2, rfl⟩) _ h2⟩
    | true =>
      obtain ⟨a, b, h1, h2⟩ := hD.one h
      exact ⟨.normal, a, b, m, h1, hD.mono (fun _ _ q => ⟨rfl, q.1, q.2, rfl⟩) h2⟩
  | seq x y ihx ihy =>
    intro sl H m k h
    obtain ⟨e, s1, h1, m1, hk, hx⟩ := ihx h
    cases e with
    | normal =>
      obtain ⟨e2, s2, h2, m2, hk2, hy⟩ := ihy hk
      refine ⟨e2, s2, h2, m2, hk2, kxG_mono hD x ?_ hx⟩
      rintro e sl H m ⟨rfl, rfl, rfl, rfl⟩
      exact hy
    | exit i =>
      refine ⟨.exit i, s1, h1, m1, hk, kxG_mono hD x ?_ hx⟩
      rintro e sl H m ⟨rfl, rfl, rfl, rfl⟩
      exact ⟨rfl, rfl, rfl, rfl⟩
    | ret =>
      refine ⟨.ret, s1, h1, m1, hk, kxG_mono hD x ?_ hx⟩
      rintro e sl H m ⟨rfl, rfl, rfl, rfl⟩
      exact ⟨rfl, rfl, rfl, rfl⟩
  | cond c x y ihx ihy =>
    intro sl H m k h
    simp only [kxG] at h
    split at h
    · rename_i v hv
      unfold kif at h
      split at h
      · split at h
        · rename_i q
          obtain ⟨e, s1, h1, m1, hk, hx⟩ := ihx h
          refine ⟨e, s1, h1, m1, hk, ?_⟩
          simp only [kxG, hv, kif, if_pos q]; exact hx
        · rename_i q
          obtain ⟨e, s1, h1, m1, hk, hx⟩ := ihy h
          refine ⟨e, s1, h1, m1, hk, ?_⟩
          simp only [kxG, hv, kif, if_neg q]; exact hx
      · cases h
    · cases h
  | block id c ih =>
    intro sl H m k h
    obtain ⟨e, s1, h1, m1, hk, hx⟩ := ih h
    cases e with
    | normal =>
      refine ⟨.normal, s1, h1, m1, hk, kxG_mono hD c ?_ hx⟩
      rintro e sl H m ⟨rfl, rfl, rfl, rfl⟩
      exact ⟨rfl, rfl, rfl, rfl⟩
    | exit i =>
      simp only [kblkG] at hk
      split at hk
      · rename_i q
        refine ⟨.normal, s1, h1, m1, hk, kxG_mono hD c ?_ hx⟩
        rintro e sl H m ⟨rfl, rfl, rfl, rfl⟩
        simp only [kblkG, if_pos q]
        exact ⟨rfl, rfl, rfl, rfl⟩
      · rename_i q
        refine ⟨.exit i, s1, h1, m1, hk, kxG_mono hD c ?_ hx⟩
        rintro e sl H m ⟨rfl, rfl, rfl, rfl⟩
        simp only [kblkG, if_neg q]
        exact ⟨rfl, rfl, rfl, rfl⟩
    | ret =>
      refine ⟨.ret, s1, h1, m1, hk, kxG_mono hD c ?_ hx⟩
      rintro e sl H m ⟨rfl, rfl, rfl, rfl⟩
      exact ⟨rfl, rfl, rfl, rfl⟩
  | exit id => intro sl H m k h; exact ⟨_, _, _, _, h, rfl, rfl, rfl, rfl⟩
  | ret => intro sl H m k h; exact ⟨_, _, _, _, h, rfl, rfl, rfl, rfl⟩
  | loop c ih =>
    intro sl H m k h
    obtain ⟨n, h⟩ := h
    obtain ⟨e, s1, h1, m1, hk, hx⟩ := kloopG_one (f := kxG P D c) (fun h => ih h) (fun hk h => kxG_mono hD c hk h) n h
    exact ⟨e, s1, h1, m1, hk, n, hx⟩
  | rangeFunc g ps assign body _ _ =>
    intro sl H m k h
    simp only [kxG] at h
    split at h
    · rename_i gv hg
      unfold krange at h
      split at h
      · obtain ⟨h1, h2, v, H', h3, h4⟩ := h
        unfold rngEnd at h4
        split at h4
        · rename_i hob
          obtain ⟨hst, hj⟩ := h4
          unfold kjump at hj
          have mk : ∀ (e : AExit), (∀ (k : KontG) sl H m, kjump k sl H m (jumpOf e) = k e sl H m) → True := fun _ _ => trivial
          split at hj
          · refine ⟨_, _, _, _, hj, ?_⟩
            simp only [kxG, hg, krange]
            refine ⟨h1, h2, v, H', h3, ?_⟩
            unfold rngEnd
            rw [hob]
            exact ⟨hst, rfl, rfl, rfl, rfl⟩
          · refine ⟨_, _, _, _, hj, ?_⟩
            simp only [kxG, hg, krange]
            refine ⟨h1, h2, v, H', h3, ?_⟩
            unfold rngEnd
            rw [hob]
            exact ⟨hst, rfl, rfl, rfl, rfl⟩
          · refine ⟨_, _, _, _, hj, ?_⟩
            simp only [kxG, hg, krange]
            refine ⟨h1, h2, v, H', h3, ?_⟩
            unfold rngEnd
            rw [hob]
            exact ⟨hst, rfl, rfl, rfl, rfl⟩
          · cases hj
        · cases h4
      · cases h
    · cases h
  | _ => intro sl H m k h; cases h
theorem kmarks_one {k : AHeap → Prop} : ∀ (m : List Nat) {H}, kmarks k m H → ∃ H', k H' ∧ kmarks (fun h => h = H') m H := by
  intro m
  induction m with
  | nil => intro H h; exact ⟨H, h, rfl⟩
  | cons b r ih =>
    intro H h
    obtain ⟨h1, h2⟩ := h
    obtain ⟨H', q1, q2⟩ := ih h2
    exact ⟨H', q1, h1, q2⟩
theorem kmarks_mono {k k' : AHeap → Prop} (hk : ∀ h, k h → k' h) : ∀ (m : List Nat) {H}, kmarks k m H → kmarks k' m H := by
  intro m
  induction m with
  | nil => intro H h; exact hk _ h
  | cons b r ih => intro H h; exact ⟨h.1, ih h.2⟩
theorem kbodyG_one (hD : OneD D) {fn args H} {k : Value → AHeap → Prop} (h : kbodyG P D fn args H k) : ∃ v H', k v H' ∧ kbodyG P D fn args H fun u H2 => u = v ∧ H2 = H' := by
  unfold kbodyG at h
  split at h
  · rename_i c hb
    obtain ⟨e, s1, h1, m1, hk, hx⟩ := kxG_one hD c h
    have fin : ∀ {e}, kxG P D c (args ++ List.replicate (fn.ntmps - args.length) undef) H [] (kisG e s1 h1 m1) → (e = .normal ∨ e = .ret) → kmarks (fun H2 => kres P s1 H2 fn.results.toList fun l => k (retV l) H2) m1 h1 →
        ∃ v H', k v H' ∧ kbodyG P D fn args H fun u H2 => u = v ∧ H2 = H' := by
      intro e hx he hk
      obtain ⟨H2, q1, q2⟩ := kmarks_one _ hk
      obtain ⟨l, q3, q4⟩ := kres_one _ q1
      refine ⟨retV l, H2, q3, ?_⟩
      unfold kbodyG
      rw [hb]
      refine kxG_mono hD c ?_ hx
      rintro e2 sl H3 m3 ⟨rfl, rfl, rfl, rfl⟩
      have key : kmarks (fun H2 => kres P sl H2 fn.results.toList fun l' => retV l' = retV l ∧ H2 = H2) m3 H3 → True := fun _ => trivial
      rcases he with rfl | rfl <;> exact kmarks_mono (fun h hh => by subst hh; exact kres_weak _ (fun l' h => ⟨by rw [h], rfl⟩) q4) _ q2
    cases e with
    | normal => exact fin hx (.inl rfl) hk
    | ret => exact fin hx (.inr rfl) hk
    | exit i => cases hk
  · cases h
theorem acallsG_ex (hm : P.follows .mixedOrders = true) {f fn args H} {k : Value → AHeap → Prop} (hf : P.funcs[f]? = some fn) (hn : notNG fn = true) (hr : kbodyG P (drawStd P) fn args H k) : ∃ v H', k v H' ∧ ACalls P f args H v H' := by
  obtain ⟨v, H', h1, h2⟩ := kbodyG_one drawStd_one hr
  exact ⟨v, H', h1, acallsG_of (fun c => @drawStd_sound P c hm) hf hn h2⟩
end

/-! ### A slice of one thing -/
theorem foldl_put : ∀ (c : List Value) (k : Nat) (cells : List Value), k + c.length ≤ cells.length →
    (c.zipIdx k).foldl (fun (cs : Array Value) (p : Value × Nat) => cs.setIfInBounds p.2 p.1) cells.toArray = (cells.take k ++ c ++ cells.drop (k + c.length)).toArray := by
  intro c
  induction c with
  | nil => intro k cells _; simp
  | cons v r ih =>
    intro k cells h
    simp only [List.length_cons] at h
    simp only [List.zipIdx_cons, List.foldl_cons, List.setIfInBounds_toArray]
    have := ih (k + 1) (cells.set k v) (by simp; omega)
    rw [this]
    congr 1
    rw [List.take_set, List.set_eq_take_append_cons_drop, if_pos (by rw [List.length_take]; omega), List.drop_set_of_lt (by omega)]
    simp [List.take_take, Nat.add_assoc, Nat.add_comm 1]
theorem sliceLitA {P : Program} {H : AHeap} {T e : TypeId} {zs : Array Value} {c : List Value} (hs : aBuildSlice P H T 1 [(0, .agg c.toArray)] = bslV e zs H 1 [(0, .agg c.toArray)]) (hz : c.length = zs.size) (ho : ∀ v ∈ c, v.oneCell' = true) (hb : zs.size ≤ 16777216) :
    sliceLit P H T 1 [(0, .agg c.toArray)] (.slice (some ⟨H.length, 0, some c.length⟩) 1 1) (H ++ [.cells c e]) := by
  refine ⟨?_, ?_⟩
  · simpa [storable] using ho
  · rw [hs]
    unfold bslV
    have hr : (repCells zs (1 * zs.size)).size = zs.size := by simp [repCells]
    have hf : Instr.fill (fun i => some (i * zs.size, zs.size)) (repCells zs (1 * zs.size)) [(0, .agg c.toArray)] = some c.toArray := by
      generalize hR : repCells zs (1 * zs.size) = R at hr
      obtain ⟨R⟩ := R
      simp only [List.size_toArray] at hr
      simp only [Instr.fill, cells_agg, List.size_toArray, hz, Nat.zero_mul]
      rw [if_neg (by simp; omega)]
      have := foldl_put c 0 R (by omega)
      rw [List.take_zero, List.nil_append, Nat.zero_add, List.drop_eq_nil_of_le (by omega), List.append_nil] at this
      refine congrArg some (Eq.trans ?_ this)
      rw [← Array.foldl_toList]
      simp
    rw [hf, if_pos (by omega)]
    simp only [List.size_toArray]
    rw [if_pos ⟨by omega, by simpa using ho⟩]

/-! ### A slice that grows by one thing at a time -/
inductive Gro (K : AHeap) (lo z : Nat) (T : TypeId) : Value → List (List Value) → Prop
  | nil : Gro K lo z T (.slice none 0 0) []
  | mk (bb : Nat) (cl : List (List Value)) (h1 : lo ≤ bb) (h2 : K[bb]? = some (.cells cl.flatten T)) (h3 : cl ≠ []) (h4 : ∀ c ∈ cl, c.length = z) : Gro K lo z T (.slice (some ⟨bb, 0, some (cl.length * z)⟩) cl.length cl.length) cl
theorem Gro.one {K lo z T v cl} (h : Gro K lo z T v cl) : v.oneCell' = true := by cases h <;> rfl
theorem Gro.cells {K lo z T v cl} (h : Gro K lo z T v cl) : v.cells = #[v] := by cases h <;> rfl
theorem Gro.stor {K lo z T v cl} (h : Gro K lo z T v cl) : storable v = true := by cases h <;> rfl
theorem Gro.app {K lo z T v cl} {X : AHeap} (h : Gro K lo z T v cl) : Gro (K ++ X) lo z T v cl := by
  cases h with
  | nil => exact .nil
  | mk bb cl h1 h2 h3 h4 => exact .mk bb cl h1 (get_more h2) h3 h4
theorem Gro.set {K lo z T v cl} {b : Nat} {o : AObj} (h : Gro K lo z T v cl) (hb : b < lo) : Gro (K.set b o) lo z T v cl := by
  cases h with
  | nil => exact .nil
  | mk bb cl h1 h2 h3 h4 => exact .mk bb cl h1 (by rw [List.getElem?_set_ne (by omega)]; exact h2) h3 h4
theorem flat_len {z : Nat} : ∀ {cl : List (List Value)}, (∀ c ∈ cl, c.length = z) → cl.flatten.length = cl.length * z := by
  intro cl
  induction cl with
  | nil => intro _; simp
  | cons c r ih =>
    intro h
    rw [List.flatten_cons, List.length_append, ih fun x hx => h x (by simp [hx]), h c (by simp), List.length_cons, Nat.add_mul]
    omega
theorem flat_at {z : Nat} : ∀ {cl : List (List Value)} {i : Nat} {e : List Value}, (∀ c ∈ cl, c.length = z) → cl[i]? = some e → (cl.flatten.drop (i * z)).take z = e := by
  intro cl
  induction cl with
  | nil => intro i e _ h; simp at h
  | cons c r ih =>
    intro i e h hi
    have hc := h c (by simp)
    cases i with
    | zero =>
      simp at hi
      subst hi
      rw [Nat.zero_mul, List.drop_zero, List.flatten_cons, List.take_append_of_le_length (by omega), List.take_of_length_le (by omega)]
    | succ i =>
      have := ih (fun x hx => h x (by simp [hx])) (by simpa using hi : r[i]? = some e)
      rw [List.flatten_cons, Nat.add_mul, Nat.one_mul, Nat.add_comm, ← List.drop_drop, List.drop_append_of_le_length (by omega)]
      rw [show c.drop z = [] by simp; omega, List.nil_append]
      exact this
theorem Gro.arr {K lo z T v cl} (h : Gro K lo z T v cl) : Arr K z v cl := by
  cases h with
  | nil => exact .nil
  | mk bb cl h1 h2 h3 h4 =>
    refine .mk bb 0 _ _ _ cl.flatten cl rfl (by simp [hcells, h2]) (flat_len h4) (by omega) fun i e hi => ?_
    rw [Nat.zero_add]
    exact flat_at h4 hi
/-- One thing more. -/
theorem Gro.push {P : Program} {K : AHeap} {lo z by_ : Nat} {T Ts : TypeId} {v x : Value} {cl : List (List Value)} {c : List Value} (h : Gro K lo z T v cl) (hT : aElem P Ts = some (T, z, by_)) (hsq : isSeq P Ts = true) (hc : c.length = z) (hlo : lo ≤ K.length)
    (hx : aSrc K z x = some (1, c)) (hb : (cl.length + 1) * by_ ≤ 140737488355328) (hn : cl.length + 1 ≤ 9223372036854775807) :
    ∃ v' K', aBuiltin P K .append #[Ts, Ts] [v, x] = some (v', K') ∧ Gro K' lo z T v' (cl ++ [c]) ∧ (∀ b o, b < lo → K[b]? = some o → K'[b]? = some o) ∧ K.length ≤ K'.length ∧ (∀ H, Pre H K → H.length ≤ lo → Pre H K') := by
  cases h with
  | nil =>
    refine ⟨.slice (some ⟨K.length, 0, some z⟩) 1 1, K ++ [.cells c T], ?_, ?_, fun b o hb ho => get_more ho, by simp, fun H p _ => p.more _⟩
    · have hb' : by_ ≤ 140737488355328 := by simpa using hb
      simp [aBuiltin, aAppend, hT, hx, hsq, hb', hc]
    · have := Gro.mk (K := K ++ [.cells c T]) (lo := lo) (z := z) (T := T) K.length [c] hlo (by simp) (by simp) (by simpa using hc)
      simpa using this
  | mk bb cl h1 h2 h3 h4 =>
    have hfl := flat_len h4
    have hlt := (List.getElem?_eq_some_iff.1 h2).1
    refine ⟨.slice (some ⟨bb, 0, some ((cl.length + 1) * z)⟩) (cl.length + 1) (cl.length + 1), K.set bb (.cells (cl ++ [c]).flatten T), ?_, ?_, fun b o hb ho => by rw [List.getElem?_set_ne (by omega)]; exact ho, by simp, fun H p hH => p.set (by omega)⟩
    · have e1 : cl.length * z = cl.flatten.length := hfl.symm
      have e2 : ¬ cl.length + 1 ≤ cl.length := by omega
      simp only [aBuiltin, aAppend, hT, hx, hsq, if_true, h2, hfl, Nat.zero_add, Nat.le_refl, and_self, e2, if_false, hb, hn]
      have e3 : (cl.flatten.take (cl.length * z)) = cl.flatten := List.take_of_length_le (by omega)
      rw [e3]
      simp
    · have := Gro.mk (K := K.set bb (.cells (cl ++ [c]).flatten T)) (lo := lo) (z := z) (T := T) bb (cl ++ [c]) h1 (List.getElem?_set_self hlt) (by simp) (by
        intro x hx
        rw [List.mem_append] at hx
        rcases hx with hx | hx
        · exact h4 x hx
        · simp at hx; rw [hx]; exact hc)
      simpa using this
end Go.Vi
namespace Go.Vi
open Go Go.Proofs

/-- The tokens from a place on at which one begins; where there is none. -/
def lexF (l : List UInt8) : Nat → Nat → List Tok × Option Nat
  | 0, _ => ([], none)
  | f + 1, a => if a < l.length then
      (if (oneF (l.drop a) a).2 = 0 then ([], some a)
       else ((oneF (l.drop a) a).1 :: (lexF l f (skipN l (a + (oneF (l.drop a) a).2))).1, (lexF l f (skipN l (a + (oneF (l.drop a) a).2))).2))
    else ([], none)
theorem oneF_le (s : List UInt8) (a : Nat) : (oneF s a).2 ≤ s.length := by
  unfold oneF
  cases s with
  | nil => simp
  | cons b r =>
    simp only
    split
    · exact runF_le _ _
    · split
      · exact numLen_le _
      · split
        · have := textF_len r.length r [] 1 (Nat.le_refl _); simp; omega
        · exact signF_le (b :: r)
theorem skipN_ge (l : List UInt8) (a : Nat) : a ≤ skipN l a := by unfold skipN; omega
theorem tell_loop {l : List UInt8} {sp : Nat} {rb : Nat} {J : List Tok → AHeap → Prop} {Jx : Nat → AHeap → Prop} {k : Value → AHeap → Prop} (hl : l.length ≤ 4096)
    (hJs : ∀ ts K, J ts K → hcells K sp = some [str l]) (hJr : ∀ ts K, J ts K → ∃ r, K[rb]? = some (.loop r)) (hJa : ∀ ts K X, J ts K → J ts (K ++ X))
    (hy : ∀ ts t K, J ts K → ts.length < 4096 → ∃ K', AYields Tryz.prog rb [.agg (Tok.cells t).toArray, i64 0] K (.bool true) K' ∧ J (ts ++ [t]) K')
    (hx : ∀ ts (a : Nat) K, J ts K → ∃ K', AYields Tryz.prog rb [.agg (Tok.cells ⟨0, [], a⟩).toArray, i64 90] K (.bool false) K' ∧ Jx a K')
    (w : List Tok × Option Nat) (hk1 : ∀ K, w.2 = none → J w.1 K → k (.tuple #[]) K) (hk2 : ∀ K a, w.2 = some a → Jx a K → k (.tuple #[]) K) :
    ∀ (f : Nat) (a : Nat) (ts : List Tok) (K : AHeap) (s2 s4 s5 s6 s7 s8 s9 s10 s11 s12 s13 s14 s15 s16 s17 s18 s19 s20 s21 s22 s23 s24 s25 s26 s27 s28 s29 s30 s31 s32 s33 s34 s35 s36 s37 s38 s39 : Value), l.length - a ≤ f → a ≤ l.length → ts.length ≤ a → J ts K → w = (ts ++ (lexF l f a).1, (lexF l f a).2) →
      L68x0 (f + 1) k [yval rb, .pointer (some ⟨sp, 0, some 1⟩), s2, i64 a, s4, s5, s6, s7, s8, s9, s10, s11, s12, s13, s14, s15, s16, s17, s18, s19, s20, s21, s22, s23, s24, s25, s26, s27, s28, s29, s30, s31, s32, s33, s34, s35, s36, s37, s38, s39] K := by
  intro f
  induction f with
  | zero =>
    intro a ts K s2 s4 s5 s6 s7 s8 s9 s10 s11 s12 s13 s14 s15 s16 s17 s18 s19 s20 s21 s22 s23 s24 s25 s26 s27 s28 s29 s30 s31 s32 s33 s34 s35 s36 s37 s38 s39 hf ha hts hJ hw
    have hc := hJs ts K hJ
    rw [L68x0q]
    have : ¬ a < l.length := by omega
    simp [hc, this]
    refine hk1 K ?_ ?_
    · rw [hw]; rfl
    · rw [hw]; simpa [lexF] using hJ
  | succ f ih =>
    intro a ts K s2 s4 s5 s6 s7 s8 s9 s10 s11 s12 s13 s14 s15 s16 s17 s18 s19 s20 s21 s22 s23 s24 s25 s26 s27 s28 s29 s30 s31 s32 s33 s34 s35 s36 s37 s38 s39 hf ha hts hJ hw
    have hc := hJs ts K hJ
    rw [L68x0q]
    by_cases hlt : a < l.length
    · simp [hc, hlt]
      refine bndC_of (c_one (by omega) hlt) ?_
      have hle := oneF_le (l.drop a) a
      rw [List.length_drop] at hle
      rw [lexF, if_pos hlt] at hw
      generalize oneF (l.drop a) a = o at hw hle ⊢
      obtain ⟨t, n⟩ := o
      simp only at hw hle
      simp [Tok.cells]
      refine kifB_bool (fun h => ?_) (fun h => ?_)
      · have hn : n = 0 := by simpa using h
        rw [if_pos hn] at hw
        obtain ⟨K', q1, q2⟩ := hx ts a _ (hJa ts K [.cells t.cells 101] hJ)
        simp
        refine bndV_yield (hJr ts _ (hJa ts K _ hJ)) (by simpa [Tok.cells] using q1) ?_
        exact hk2 K' a (by rw [hw]) q2
      · have hn : n ≠ 0 := by simpa using h
        rw [if_neg hn] at hw
        obtain ⟨K', q1, q2⟩ := hy ts t _ (hJa ts K [.cells t.cells 101] hJ) (by omega)
        simp
        refine bndV_yield (hJr ts _ (hJa ts K _ hJ)) (by simpa [Tok.cells] using q1) ?_
        have hc' := hJs _ K' q2
        have hwr : IntKind.i64.wrap ((a : Int) + n) = ((a + n : Nat) : Int) := by rw [wrap_i64 (by omega) (by omega)]; simp
        simp only [unV_not, bnd_some, Bool.not_true, kifB_false, aBin_add, hwr]
        simp [hc']
        refine bndC_of (c_skip (by omega) (by omega)) ?_
        have h1 := skipN_le (l := l) (a := a + n) (by omega)
        have h2 := skipN_ge l (a + n)
        exact ih (skipN l (a + n)) (ts ++ [t]) K' _ _ _ _ _ _ _ _ _ _ _ _ _ _ _ _ _ _ _ _ _ _ _ _ _ _ _ _ _ _ _ _ _ _ _ _ _ (by omega) h1 (by simp; omega) q2 (by rw [hw]; simp)
    · rw [lexF, if_neg hlt] at hw
      simp [hc, hlt]
      refine hk1 K ?_ ?_
      · rw [hw]
      · rw [hw]; simpa using hJ

theorem c_tell (H : AHeap) (l : List UInt8) : ACalls Tryz.prog 51 [str l] H (.func (.func 68) #[] #[.pointer (some ⟨H.length, 0, some 1⟩)]) (H ++ [.cells [str l] 9]) := by
  refine acalls_of MixT Tryz.func51 (by decide) ?_
  rw [d51]
  simp [aNew]
/-- All tokens, where there is none, an error. -/
def allTok (l : List UInt8) : List Tok × Nat × Int :=
  if 4096 < l.length then ([], 0, 3) else match (lexF l (l.length + 1) (skipN l 0)).2 with
    | none => ((lexF l (l.length + 1) (skipN l 0)).1, 0, 0)
    | some a => ([], a, 90)
theorem c_tell1 {l : List UInt8} {sp : Nat} {rb : Nat} {J : List Tok → AHeap → Prop} {Jx : Nat → Int → AHeap → Prop} {K : AHeap} 
    (hJs : ∀ ts K, J ts K → hcells K sp = some [str l]) (hJr : ∀ ts K, J ts K → ∃ r, K[rb]? = some (.loop r)) (hJa : ∀ ts K X, J ts K → J ts (K ++ X))
    (hy : ∀ ts t K, J ts K → ts.length < 4096 → ∃ K', AYields Tryz.prog rb [.agg (Tok.cells t).toArray, i64 0] K (.bool true) K' ∧ J (ts ++ [t]) K')
    (hx : ∀ ts (a : Nat) (e : Int) K, e ≠ 0 → J ts K → ∃ K', AYields Tryz.prog rb [.agg (Tok.cells ⟨0, [], a⟩).toArray, i64 e] K (.bool false) K' ∧ Jx a e K') (hJ : J [] K) :
    ∃ v K', (((allTok l).2.2 = 0 ∧ J (allTok l).1 K') ∨ ((allTok l).1 = [] ∧ (allTok l).2.2 ≠ 0 ∧ Jx (allTok l).2.1 (allTok l).2.2 K')) ∧ ACalls Tryz.prog 68 [yval rb, .pointer (some ⟨sp, 0, some 1⟩)] K v K' := by
  refine acalls_ex MixT Tryz.func68 (by decide) ?_
  rw [d68]
  have hc := hJs [] K hJ
  by_cases h4 : 4096 < l.length
  · have h4I : (4096 : Int) < l.length := by omega
    simp [hc, h4I]
    obtain ⟨K', q1, q2⟩ := hx [] 0 3 K (by simp) hJ
    refine bndV_yield (hJr [] K hJ) (by simpa [Tok.cells] using q1) ?_
    right
    simp [allTok, h4]
    exact q2
  · have h4I : ¬ (4096 : Int) < l.length := by omega
    simp [hc, h4I]
    have hs := c_skip (H := K) (l := l) (a := 0) (by omega) (by omega)
    rw [show ((0 : Nat) : Int) = 0 from rfl] at hs
    refine bndC_of hs ?_
    have h1 := skipN_le (l := l) (a := 0) (by omega)
    refine ⟨l.length + 1 + 1, tell_loop (J := J) (Jx := fun a K => Jx a 90 K) (by omega) hJs hJr hJa hy (fun ts a K h => hx ts a 90 K (by simp) h) (lexF l (l.length + 1) (skipN l 0)) ?_ ?_ (l.length + 1) (skipN l 0) [] K _ _ _ _ _ _ _ _ _ _ _ _ _ _ _ _ _ _ _ _ _ _ _ _ _ _ _ _ _ _ _ _ _ _ _ _ _ (by omega) h1 (by simp) hJ (by simp)⟩
    · intro K' e1 e2
      left
      simp [allTok, h4, e1]
      exact e2
    · intro K' a e1 e2
      right
      simp [allTok, h4, e1]
      exact e2

/-- Tokens in memory. -/
def ToksAt (H : AHeap) (v : Value) (ts : List Tok) : Prop := Arr H 3 v (ts.map Tok.cells)
structure AllJ (H : AHeap) (l : List UInt8) (sl : List Value) (ps : Array Tmp) (assign body : Code) (ts : List Tok) (K : AHeap) : Prop where
  pre : Pre H K
  len : H.length + 7 ≤ K.length
  r1 : K[H.length]? = some (.cells [.slice none 0 0] 61)
  r2 : K[H.length + 1]? = some (.cells [i64 0] 3)
  r3 : K[H.length + 2]? = some (.cells [i64 0] 23)
  r4 : ∃ lv, K[H.length + 3]? = some (.cells [lv] 61) ∧ Gro K (H.length + 7) 3 101 lv (ts.map Tok.cells)
  r5 : K[H.length + 4]? = some (.cells [str l] 9)
  r6 : K[H.length + 5]? = some (.loop .blk)
  r7 : K[H.length + 6]? = some (.loop (.run sl ps assign body .ready none))
theorem AllJ.app {H l sl ps assign body ts K} (h : AllJ H l sl ps assign body ts K) (X : AHeap) : AllJ H l sl ps assign body ts (K ++ X) := by
  obtain ⟨lv, g1, g2⟩ := h.r4
  exact ⟨h.pre.more X, by have := h.len; simp; omega, get_more h.r1, get_more h.r2, get_more h.r3, ⟨lv, get_more g1, g2.app⟩, get_more h.r5, get_more h.r6, get_more h.r7⟩
structure AllX (H : AHeap) (sl : List Value) (ps : Array Tmp) (assign body : Code) (a : Nat) (e : Int) (K : AHeap) : Prop where
  pre : Pre H K
  r1 : K[H.length]? = some (.cells [.slice none 0 0] 61)
  r2 : K[H.length + 1]? = some (.cells [i64 a] 3)
  r3 : K[H.length + 2]? = some (.cells [i64 e] 23)
  r6 : K[H.length + 5]? = some (.loop .blk)
  r7 : K[H.length + 6]? = some (.loop (.run sl ps assign body .done (some .ret)))
noncomputable abbrev allA : Code := cl (cl (cr (cl (cr (cr (cb Tryz.f29))))))
noncomputable abbrev allB : Code := cr (cl (cr (cl (cr (cr (cb Tryz.f29))))))
def allSl (H : AHeap) (l : List UInt8) (fv : Value) : List Value := [str l, undef, .pointer (some ⟨H.length, 0, some 1⟩), .pointer (some ⟨H.length + 1, 0, some 1⟩), .pointer (some ⟨H.length + 2, 0, some 1⟩), .pointer (some ⟨H.length + 3, 0, some 1⟩), undef, undef, str l, fv, undef, undef, undef, undef, undef, undef, undef, undef, undef, undef, undef, undef]
theorem tel1 : aElem Tryz.prog 61 = some (101, 3, 32) := by kernel_rfl
theorem tel2 : isSeq Tryz.prog 61 = true := by kernel_rfl
theorem all_yield {H : AHeap} {l : List UInt8} {fv : Value} {ts : List Tok} {t : Tok} {K : AHeap} (hJ : AllJ H l (allSl H l fv) #[10, 11] allA allB ts K) (hts : ts.length < 4096) :
    ∃ K', AYields Tryz.prog (H.length + 6) [.agg t.cells.toArray, i64 0] K (.bool true) K' ∧ AllJ H l (allSl H l fv) #[10, 11] allA allB (ts ++ [t]) K' := by
  have key : ∃ v K', (v = .bool true ∧ AllJ H l (allSl H l fv) #[10, 11] allA allB (ts ++ [t]) K') ∧ AYields Tryz.prog (H.length + 6) [.agg t.cells.toArray, i64 0] K v K' := by
    refine ayields_ex MixT ?_
    unfold kround
    have h7 := hJ.r7
    rw [h7]
    refine ⟨rfl, ?_⟩
    have hsl : yput (allSl H l fv) (#[10, 11] : Array Tmp).toList [.agg t.cells.toArray, i64 0] = [str l, undef, .pointer (some ⟨H.length, 0, some 1⟩), .pointer (some ⟨H.length + 1, 0, some 1⟩), .pointer (some ⟨H.length + 2, 0, some 1⟩), .pointer (some ⟨H.length + 3, 0, some 1⟩), undef, undef, str l, fv, .agg t.cells.toArray, i64 0, undef, undef, undef, undef, undef, undef, undef, undef, undef, undef] := rfl
    rw [hsl, R29x0A]
    simp [Tok.cells]
    refine ⟨get_more h7, ?_⟩
    rw [R29x0B]
    have hKl := hJ.len
    generalize hB : AObj.loop (.run (allSl H l fv) #[10, 11] allA allB .busy none) = bus
    generalize hK1 : (K ++ [AObj.cells [.int .u8 t.kind, str t.text, i64 t.at'] 101]).set (H.length + 6) bus = K1
    have hL1 : K1.length = K.length + 1 := by rw [← hK1]; simp
    have hget : ∀ (b : Nat) (o : AObj), b ≠ H.length + 6 → K[b]? = some o → K1[b]? = some o := fun b o hb ho => by rw [← hK1, List.getElem?_set_ne (by omega)]; exact get_more ho
    have hx : K1[K.length]? = some (.cells [.int .u8 t.kind, str t.text, i64 t.at'] 101) := by rw [← hK1, List.getElem?_set_ne (by omega)]; simp
    have hbus : K1[H.length + 6]? = some bus := by rw [← hK1]; rw [List.getElem?_set_self (by simp; omega)]
    obtain ⟨lv, g1, g2⟩ := hJ.r4
    have g1' := hget _ _ (by omega) g1
    have g2' : Gro K1 (H.length + 7) 3 101 lv (ts.map Tok.cells) := by rw [← hK1]; exact g2.app.set (by omega)
    have hc1 : hcells K1 (H.length + 3) = some [lv] := by simp [hcells, g1']
    have hc2 : hcells K1 K.length = some [.int .u8 t.kind, str t.text, i64 t.at'] := by simp [hcells, hx]
    simp [hc1, hc2]
    have hlit := sliceLitA (c := t.cells) (tbs61 K1 1 _) (by rfl) (by simp [Tok.cells]) (by simp)
    simp only [Tok.cells, List.length_cons, List.length_nil] at hlit
    refine bndL_lit hlit ?_
    have hp1 : Pre H K1 := by rw [← hK1]; exact (hJ.pre.more _).set (by omega)
    have g2'' := g2'.app (X := [AObj.cells [.int .u8 t.kind, str t.text, i64 t.at'] 101])
    obtain ⟨v', K2, p1, p2, p3, p4, p5⟩ := Gro.push (P := Tryz.prog) (Ts := 61) (by_ := 32) (x := .slice (some ⟨K1.length, 0, some 3⟩) 1 1) (c := t.cells) g2'' tel1 tel2 (by rfl) (by simp; omega) (by simp [aSrc, Tok.cells]) (by simp; omega) (by simp; omega)
    have p6 := p3 (H.length + 3) _ (by omega) (get_more g1')
    have hv1 : v'.oneCell' = true := p2.one
    simp [p1, p6, Gro.cells p2, Gro.stor p2]
    have hj : jumpOf AExit.normal = none := rfl
    have hL2 : K1.length < K2.length := by have := p4; simp at this; omega
    refine ⟨p3 _ _ (by omega) (get_more hbus), hj, ?_⟩
    simp only [hj, if_true]
    have hg : ∀ (b : Nat) (o : AObj) (x y : AObj), b < H.length + 7 → b ≠ H.length + 6 → b ≠ H.length + 3 → K[b]? = some o → ((K2.set (H.length + 3) x).set (H.length + 6) y)[b]? = some o := fun b o x y h1 h2 h3 h4 => by
      rw [List.getElem?_set_ne (by omega), List.getElem?_set_ne (by omega)]
      exact p3 _ _ h1 (get_more (hget _ _ h2 h4))
    refine ⟨((p5 H (hp1.more _) (by omega)).set (by omega)).set (by omega), by simp; omega, hg _ _ _ _ (by omega) (by omega) (by omega) hJ.r1, hg _ _ _ _ (by omega) (by omega) (by omega) hJ.r2, hg _ _ _ _ (by omega) (by omega) (by omega) hJ.r3, ⟨v', ?_, ?_⟩, hg _ _ _ _ (by omega) (by omega) (by omega) hJ.r5, hg _ _ _ _ (by omega) (by omega) (by omega) hJ.r6, ?_⟩
    · rw [List.getElem?_set_ne (by omega), List.getElem?_set_self (by omega)]
    · rw [List.map_append]
      exact (p2.set (by omega)).set (by omega)
    · rw [List.getElem?_set_self (by simp; omega)]
  obtain ⟨v, K', ⟨rfl, h⟩, hy⟩ := key
  exact ⟨K', hy, h⟩

theorem all_err {H : AHeap} {l : List UInt8} {fv : Value} {ts : List Tok} {a : Nat} {e : Int} {K : AHeap} (he : e ≠ 0) (hJ : AllJ H l (allSl H l fv) #[10, 11] allA allB ts K) :
    ∃ K', AYields Tryz.prog (H.length + 6) [.agg (Tok.cells ⟨0, [], a⟩).toArray, i64 e] K (.bool false) K' ∧ AllX H (allSl H l fv) #[10, 11] allA allB a e K' := by
  have key : ∃ v K', (v = .bool false ∧ AllX H (allSl H l fv) #[10, 11] allA allB a e K') ∧ AYields Tryz.prog (H.length + 6) [.agg (Tok.cells ⟨0, [], a⟩).toArray, i64 e] K v K' := by
    refine ayields_ex MixT ?_
    unfold kround
    have h7 := hJ.r7
    rw [h7]
    refine ⟨rfl, ?_⟩
    have hsl : yput (allSl H l fv) (#[10, 11] : Array Tmp).toList [.agg (Tok.cells ⟨0, [], a⟩).toArray, i64 e] = [str l, undef, .pointer (some ⟨H.length, 0, some 1⟩), .pointer (some ⟨H.length + 1, 0, some 1⟩), .pointer (some ⟨H.length + 2, 0, some 1⟩), .pointer (some ⟨H.length + 3, 0, some 1⟩), undef, undef, str l, fv, .agg (Tok.cells ⟨0, [], a⟩).toArray, i64 e, undef, undef, undef, undef, undef, undef, undef, undef, undef, undef] := rfl
    rw [hsl, R29x0A]
    simp [Tok.cells]
    refine ⟨get_more h7, ?_⟩
    rw [R29x0B]
    have hKl := hJ.len
    have heb : (e != 0) = true := by simpa using he
    simp
    generalize hB : AObj.loop (.run (allSl H l fv) #[10, 11] allA allB .busy none) = bus
    generalize hK1 : (K ++ [AObj.cells [.int .u8 0, str [], i64 a] 101]).set (H.length + 6) bus = K1
    have hL1 : K1.length = K.length + 1 := by rw [← hK1]; simp
    have hget : ∀ (b : Nat) (o : AObj), b ≠ H.length + 6 → K[b]? = some o → K1[b]? = some o := fun b o hb ho => by rw [← hK1, List.getElem?_set_ne (by omega)]; exact get_more ho
    have hx : K1[K.length]? = some (.cells [.int .u8 0, str [], i64 a] 101) := by rw [← hK1, List.getElem?_set_ne (by omega)]; simp
    have hc2 : hcells K1 K.length = some [.int .u8 0, str [], i64 a] := by simp [hcells, hx]
    have q1 := hget _ _ (by omega) hJ.r1
    have q2 := hget _ _ (by omega) hJ.r2
    have q3 := hget _ _ (by omega) hJ.r3
    have q6 := hget _ _ (by omega) hJ.r6
    have hl2 : hlen K1 K.length = some 3 := by simp [hlen, hx]
    rw [heb]
    simp [hc2, hl2]
    have hs1 : aStore Tryz.prog K1 61 (.pointer (some ⟨H.length, 0, some 1⟩)) (.slice none 0 0) = some K1 := by
      simp [q1]
      exact set_same q1
    refine bndD_of ⟨rfl, hs1⟩ (.inr ⟨[], by simp⟩) ?_
    refine bndD_of (v := undef) (H' := K1.set (H.length + 1) (.cells [i64 a] 3)) ⟨rfl, by simp [q2]⟩ (.inl rfl) ?_
    have hne : ∀ (b c : Nat) (x : AObj), b ≠ c → (K1.set b x)[c]? = K1[c]? := fun b c x h => List.getElem?_set_ne h
    refine bndD_of (v := undef) (H' := (K1.set (H.length + 1) (.cells [i64 a] 3)).set (H.length + 2) (.cells [i64 e] 23)) ⟨rfl, by simp [q3, hne]⟩ (.inl rfl) ?_
    simp
    have hj : jumpOf AExit.ret = some .ret := rfl
    have hbus : K1[H.length + 6]? = some bus := by rw [← hK1]; rw [List.getElem?_set_self (by simp; omega)]
    have hp1 : Pre H K1 := by rw [← hK1]; exact (hJ.pre.more _).set (by omega)
    refine ⟨hbus, by rw [hj]; rfl, ?_⟩
    simp only [hj, reduceCtorEq, if_false]
    refine ⟨((hp1.set (by omega)).set (by omega)).set (by omega), ?_, ?_, ?_, ?_, ?_⟩
    · simp [q1]
    · rw [List.getElem?_set_ne (by omega), List.getElem?_set_ne (by omega), List.getElem?_set_self (by omega)]
    · rw [List.getElem?_set_ne (by omega), List.getElem?_set_self (by simp; omega)]
    · simp [q6]
    · rw [List.getElem?_set_self (by simp; omega)]
  obtain ⟨v, K', ⟨rfl, h⟩, hy⟩ := key
  exact ⟨K', hy, h⟩
theorem allTok_zero {l : List UInt8} (h : (allTok l).2.2 = 0) : (allTok l).2.1 = 0 := by
  unfold allTok at *
  by_cases h4 : 4096 < l.length
  · simp [h4] at h
  · rw [if_neg h4] at h ⊢
    split at h <;> first | rfl | simp at h
theorem c_lexAll (H : AHeap) (l : List UInt8) : ∃ v K', (∃ lv, v = .tuple #[lv, i64 (allTok l).2.1, i64 (allTok l).2.2] ∧ Pre H K' ∧ ToksAt K' lv (allTok l).1) ∧ ACalls Tryz.prog 29 [str l] H v K' := by
  refine acallsG_ex MixT Tryz.func29 (by decide) ?_
  rw [d29]
  simp
  refine bndC_of (c_tell _ _) ?_
  simp [krange]
  refine ⟨by kernel_rfl, ?_⟩
  rw [show H.length + 5 + 1 = H.length + 6 from rfl]
  generalize hfv : Value.func (Fn.func 68) #[] #[Value.pointer (some { block := H.length + 4, off := 0, spot := some 1 })] = fv
  generalize hK0 : (H ++ _ : AHeap) = K0
  have hJ : AllJ H l (allSl H l fv) #[10, 11] allA allB [] K0 := by
    subst hK0
    refine ⟨.app _ _, by simp, ?_, ?_, ?_, ⟨_, ?_, .nil⟩, ?_, ?_, ?_⟩ <;> simp <;> rfl
  obtain ⟨v, K', hd, hc⟩ := c_tell1 (l := l) (sp := H.length + 4) (rb := H.length + 6) (J := fun ts K => AllJ H l (allSl H l fv) #[10, 11] allA allB ts K) (Jx := fun a e K => AllX H (allSl H l fv) #[10, 11] allA allB a e K)
    (fun ts K h => by simp [hcells, h.r5]) (fun ts K h => ⟨_, h.r7⟩) (fun ts K X h => h.app X) (fun ts t K h ht => all_yield h ht) (fun ts a e K he h => all_err he h) hJ
  refine ⟨v, K', hc, ?_⟩
  rcases hd with ⟨e0, h⟩ | ⟨e1, e0, h⟩
  · obtain ⟨lv, g1, g2⟩ := h.r4
    have hL := h.len
    have hne : ∀ (b c : Nat) (x : AObj) (K : AHeap), b ≠ c → (K.set b x)[c]? = K[c]? := fun b c x K h => List.getElem?_set_ne h
    have hnc : ∀ (b c : Nat) (x : AObj) (K : AHeap), b ≠ c → hcells (K.set b x) c = hcells K c := fun b c x K h => by rw [hcells_eq, hcells_eq, hne _ _ _ _ h]
    have c1 : hcells K' (H.length + 3) = some [lv] := by simp [hcells_eq, g1]
    have hst := g2.stor
    unfold rngEnd
    simp [h.r7, kjump, allSl]
    rw [R29x0n]
    have hself0 : ∀ X (cs : List Value) (T : TypeId), hcells ((K'.set (H.length + 6) X).set H.length (.cells cs T)) H.length = some cs := fun X cs T => by
      rw [hcells_eq, List.getElem?_set_self (by simp; omega)]; rfl
    have hself1 : ∀ X Y (cs : List Value) (T : TypeId), hcells (((K'.set (H.length + 6) X).set H.length Y).set (H.length + 1) (.cells cs T)) (H.length + 1) = some cs := fun X Y cs T => by
      rw [hcells_eq, List.getElem?_set_self (by simp; omega)]; rfl
    have hself2 : ∀ X Y Z (cs : List Value) (T : TypeId), hcells ((((K'.set (H.length + 6) X).set H.length Y).set (H.length + 1) Z).set (H.length + 2) (.cells cs T)) (H.length + 2) = some cs := fun X Y Z cs T => by
      rw [hcells_eq, List.getElem?_set_self (by simp; omega)]; rfl
    simp [hne, hnc, hself0, hself1, hself2, c1, h.r1, h.r2, h.r3, h.r6, g2.cells, hst]
    exact ⟨lv, ⟨rfl, by rw [allTok_zero e0]; rfl, e0.symm⟩, ((((h.pre.set (by omega)).set (by omega)).set (by omega)).set (by omega)).set (by omega), (((((g2.set (by omega)).set (by omega)).set (by omega)).set (by omega)).set (by omega)).arr⟩
  · have hne : ∀ (b c : Nat) (x : AObj) (K : AHeap), b ≠ c → (K.set b x)[c]? = K[c]? := fun b c x K h => List.getElem?_set_ne h
    have hnc : ∀ (b c : Nat) (x : AObj) (K : AHeap), b ≠ c → hcells (K.set b x) c = hcells K c := fun b c x K h => by rw [hcells_eq, hcells_eq, hne _ _ _ _ h]
    have c1 : hcells K' (H.length) = some [.slice none 0 0] := by simp [hcells_eq, h.r1]
    have c2 : hcells K' (H.length + 1) = some [i64 (allTok l).2.1] := by simp [hcells_eq, h.r2]
    have c3 : hcells K' (H.length + 2) = some [i64 (allTok l).2.2] := by simp [hcells_eq, h.r3]
    unfold rngEnd
    simp [h.r7, kjump, allSl]
    rw [R29x0r]
    simp [hne, hnc, c1, c2, c3, h.r6, e1]
    exact ⟨(h.pre.set (by omega)).set (by omega), .nil⟩
end Go.Vi
namespace Go.Vi
open Go Go.Proofs

@[simp] theorem nilV_ptr (b o m : Nat) : nilV (.pointer (some ⟨b, o, some m⟩)) = some (.pointer (some ⟨b, o, some m⟩)) := rfl
def rdo (lv : Value) (a : Nat) (ok : Bool) : AObj := .cells [lv, i64 a, .bool ok] 68
/-- A reader of tokens that lie in memory `H`. -/
structure RdA (H K : AHeap) (rb : Nat) (lv : Value) (ts : List Tok) (a : Nat) (ok : Bool) : Prop where
  toks : ToksAt H lv ts
  pre : Pre H K
  hb : H.length ≤ rb
  cell : K[rb]? = some (rdo lv a ok)
  len : ts.length < 2 ^ 40
  le : a ≤ ts.length
def isT (ts : List Tok) (a : Nat) (k : Int) (s : List UInt8) : Bool := (ts[a]?).any fun t => t.kind == k && t.text == s
theorem RdA.lt {H K rb lv ts a ok} (h : RdA H K rb lv ts a ok) : rb < K.length := (List.getElem?_eq_some_iff.1 h.cell).1
theorem RdA.app {H K rb lv ts a ok} (h : RdA H K rb lv ts a ok) (X : AHeap) : RdA H (K ++ X) rb lv ts a ok := ⟨h.toks, h.pre.more X, h.hb, get_more h.cell, h.len, h.le⟩
theorem RdA.put {H K rb lv ts a ok} (h : RdA H K rb lv ts a ok) (a' : Nat) (ok' : Bool) (ha : a' ≤ ts.length) : RdA H (K.set rb (rdo lv a' ok')) rb lv ts a' ok' :=
  ⟨h.toks, h.pre.set h.hb, h.hb, by rw [List.getElem?_set_self h.lt], h.len, ha⟩
/-- A token's place, kind and text. -/
theorem toksAt_at {K : AHeap} {lv : Value} {ts : List Tok} {a : Nat} {t : Tok} (h : ToksAt K lv ts) (ht : ts[a]? = some t) :
    ∃ p q r, aIndexAddr Tryz.prog K 61 lv (i64 a) = some p ∧ aFieldAddr Tryz.prog K 101 p 0 = some q ∧ aLoad Tryz.prog K 5 q = some (.int .u8 t.kind) ∧ aFieldAddr Tryz.prog K 101 p 1 = some r ∧ aLoad Tryz.prog K 9 r = some (str t.text) := by
  have hi : (ts.map Tok.cells)[a]? = some t.cells := by simp [ht]
  obtain ⟨p, q, h1, h2, h3⟩ := h.field (P := Tryz.prog) (T := 61) (te := 101) (f := 0) (d := 0) (ft := 5) (by simp) (by simp) (by simp) (by simp) (by simp) hi rfl
  obtain ⟨p', r, h4, h5, h6⟩ := h.field (P := Tryz.prog) (T := 61) (te := 101) (f := 1) (d := 1) (ft := 9) (by simp) (by simp) (by simp) (by simp) (by simp) hi rfl
  rw [h1] at h4
  cases h4
  exact ⟨p, q, r, h1, h2, h3, h5, h6⟩
theorem c_is {H K rb lv ts a ok} (h : RdA H K rb lv ts a ok) (k : Int) (s : List UInt8) :
    ACalls Tryz.prog 71 [(Value.pointer (some ⟨rb, 0, some 3⟩)), .int .u8 k, str s] K (.bool (ok && isT ts a k s)) K := by
  refine acalls_pure MixT Tryz.func71 (by decide) rfl ?_
  rw [d71]
  have hc := h.cell
  have hcc : hcells K rb = some [lv, i64 a, .bool ok] := by simp [hcells_eq, hc, rdo]
  have hll : hlen K rb = some 3 := by simp [hlen, hc, rdo]
  have hl := (h.toks.pre h.pre).len (P := Tryz.prog) (T := 61) (e := 101) (by simp)
  simp at hl
  cases ok with
  | false => simp [hcc, hll]
  | true =>
    simp [hcc, hll, hl]
    by_cases ha : a < ts.length
    · obtain ⟨t, ht⟩ : ∃ t, ts[a]? = some t := ⟨_, List.getElem?_eq_getElem ha⟩
      obtain ⟨p, q, r, e1, e2, e3, e4, e5⟩ := toksAt_at (h.toks.pre h.pre) ht
      have hT : isT ts a k s = (t.kind == k && t.text == s) := by simp [isT, ht]
      rw [hT]
      simp [ha, hcc, hll, e1, e2, e3]
      by_cases hk : (t.kind == k) = true
      · simp [hk, hcc, hll, e1, e4, e5]
        exact Bool.eq_iff_iff.2 (by simp)
      · simp only [Bool.not_eq_true] at hk
        simp [hk]
    · simp [ha, isT]
theorem isT_lt {ts a k s} (h : isT ts a k s = true) : a < ts.length := by
  unfold isT at h
  by_cases ha : a < ts.length
  · exact ha
  · rw [List.getElem?_eq_none (by omega)] at h; cases h
theorem c_takes_y {H K rb lv ts a} (h : RdA H K rb lv ts a true) {k : Int} {s : List UInt8} (ht : isT ts a k s = true) :
    ACalls Tryz.prog 53 [(Value.pointer (some ⟨rb, 0, some 3⟩)), .int .u8 k, str s] K (.bool true) (K.set rb (rdo lv (a + 1) true)) := by
  refine acalls_of MixT Tryz.func53 (by decide) ?_
  rw [d53]
  refine bndC_of (c_is h k s) ?_
  have hlt := isT_lt ht
  have hc := h.cell
  have hcc : hcells K rb = some [lv, i64 a, .bool true] := by simp [hcells_eq, hc, rdo]
  have hll : hlen K rb = some 3 := by simp [hlen, hc, rdo]
  have hw : IntKind.i64.wrap ((a : Int) + 1) = (a : Int) + 1 := wrap_i64 (by omega) (by have := h.len; omega)
  simp only [rdo] at hc
  simp only [ht, Bool.true_and]
  simp [hcc, hll, hc, rdo, hw, ht, S53x0q]
theorem c_takes_n {H K rb lv ts a ok} (h : RdA H K rb lv ts a ok) {k : Int} {s : List UInt8} (ht : (ok && isT ts a k s) = false) :
    ACalls Tryz.prog 53 [(Value.pointer (some ⟨rb, 0, some 3⟩)), .int .u8 k, str s] K (.bool false) K := by
  refine acalls_of MixT Tryz.func53 (by decide) ?_
  rw [d53]
  refine bndC_of (c_is h k s) ?_
  simp [ht, S53x0q]
theorem c_sign_y {H K rb lv ts a} (h : RdA H K rb lv ts a true) {s : List UInt8} (ht : isT ts a 4 s = true) :
    ACalls Tryz.prog 54 [(Value.pointer (some ⟨rb, 0, some 3⟩)), str s] K (.tuple #[]) (K.set rb (rdo lv (a + 1) true)) := by
  refine acalls_of MixT Tryz.func54 (by decide) ?_
  rw [d54]
  refine bndC_of (c_takes_y h ht) ?_
  have hlt := h.lt
  have hc : (K.set rb (rdo lv (a + 1) true))[rb]? = some (rdo lv (a + 1) true) := List.getElem?_set_self hlt
  generalize K.set rb (rdo lv (a + 1) true) = L at hc
  have hll : hlen L rb = some 3 := by simp [hlen, hc, rdo]
  simp [hll, hc, rdo]
  exact set_same hc
theorem c_take_y {H K rb lv ts a} (h : RdA H K rb lv ts a true) {t : Tok} (ht : ts[a]? = some t) :
    ACalls Tryz.prog 108 [(Value.pointer (some ⟨rb, 0, some 3⟩)), .int .u8 t.kind] K (str t.text) (K.set rb (rdo lv (a + 1) true)) := by
  refine acalls_of MixT Tryz.func108 (by decide) ?_
  rw [d108]
  have hlt := (List.getElem?_eq_some_iff.1 ht).1
  have hc := h.cell
  have hcc : hcells K rb = some [lv, i64 a, .bool true] := by simp [hcells_eq, hc, rdo]
  have hll : hlen K rb = some 3 := by simp [hlen, hc, rdo]
  have hl := (h.toks.pre h.pre).len (P := Tryz.prog) (T := 61) (e := 101) (by simp)
  simp at hl
  obtain ⟨p, q, r, e1, e2, e3, e4, e5⟩ := toksAt_at (h.toks.pre h.pre) ht
  have hw : IntKind.i64.wrap ((a : Int) + 1) = (a : Int) + 1 := wrap_i64 (by omega) (by have := h.len; omega)
  have hlt2 : ¬ (ts.length ≤ a) := by omega
  simp only [rdo] at hc
  simp [hcc, hll, hl, hlt2, e1, e2, e3, hc, hw]
  have hL := (h.put (a + 1) true (by omega)).cell
  have hpL := (h.put (a + 1) true (by omega)).pre
  simp only [rdo, Int.natCast_add, Int.natCast_one] at hL hpL
  generalize hLd : K.set rb (AObj.cells [lv, i64 (a + 1), .bool true] 68) = L at hL hpL ⊢
  have hcL : hcells L rb = some [lv, i64 (a + 1), .bool true] := by simp [hcells_eq, hL]
  have hlL : hlen L rb = some 3 := by simp [hlen, hL]
  have hw2 : IntKind.i64.wrap (a : Int) = a := wrap_i64 (by omega) (by have := h.len; omega)
  obtain ⟨p, q, r, e1, e2, e3, e4, e5⟩ := toksAt_at (h.toks.pre hpL) ht
  simp [hcL, hlL, hw2, e1, e4, e5]
  rw [← hLd]
  simp [rdo]

/-! ### What texts stand for -/
def nmapK : Nat → List (List UInt8) → List (Value × Value)
  | _, [] => []
  | k, s :: r => (str s, i64 k) :: nmapK (k + 1) r
theorem nmapK_app (s : List UInt8) : ∀ (l : List (List UInt8)) (k : Nat), nmapK k (l ++ [s]) = nmapK k l ++ [(str s, i64 ((k + l.length : Nat) : Int))] := by
  intro l
  induction l with
  | nil => intro k; rfl
  | cons t r ih =>
    intro k
    rw [List.cons_append, nmapK, ih, nmapK, List.length_cons, show k + 1 + r.length = k + (r.length + 1) by omega]
    rfl
theorem SMap.mono {Q R : List UInt8 → Value → Prop} (h : ∀ k v, Q k v → R k v) : ∀ {es ks}, SMap Q es ks → SMap R es ks := by
  intro es
  induction es with
  | nil => intro ks h; cases ks <;> exact h
  | cons e es ih => intro ks h; cases ks with
    | nil => exact h
    | cons k ks => exact ⟨h.1, ‹∀ k v, Q k v → R k v› _ _ h.2.1, ih h.2.2⟩
theorem nmapK_smap : ∀ (l : List (List UInt8)) (k : Nat), SMap (fun s v => ∃ i : Nat, v = i64 ((k + i : Nat) : Int) ∧ l[i]? = some s) (nmapK k l) l := by
  intro l
  induction l with
  | nil => intro k; trivial
  | cons t r ih =>
    intro k
    refine ⟨rfl, ⟨0, rfl, rfl⟩, (ih (k + 1)).mono ?_⟩
    rintro s v ⟨i, rfl, h⟩
    exact ⟨i + 1, by rw [show k + 1 + i = k + (i + 1) by omega], by simpa using h⟩
theorem nmap_put {l : List (List UInt8)} {i : Nat} {s : List UInt8} (hn : l.Nodup) (hi : l[i]? = some s) : mput (str s) (i64 i) (nmapK 0 (l.take i)) = nmapK 0 (l.take (i + 1)) := by
  have hlt := (List.getElem?_eq_some_iff.1 hi).1
  have hns : s ∉ l.take i := by
    intro hm
    obtain ⟨j, hj, hjs⟩ := List.getElem_of_mem hm
    have hj' : j < i := by simp at hj; omega
    have e1 : l[j] = s := by simpa using hjs
    have e2 : l[i] = s := (List.getElem?_eq_some_iff.1 hi).2
    exact List.pairwise_iff_getElem.1 hn j i (by omega) hlt hj' (e1.trans e2.symm)
  have htk : l.take (i + 1) = l.take i ++ [s] := by rw [List.take_add_one, hi]; rfl
  unfold mput
  rcases (nmapK_smap (l.take i) 0).find (k := s) with ⟨g1, _⟩ | ⟨_, g2⟩
  · exact absurd g1 hns
  · rw [g2, htk, nmapK_app]
    simp [Nat.min_eq_left (Nat.le_of_lt hlt)]
theorem named_loop {l : List (List UInt8)} {H : AHeap} {v : Value} {k : Value → AHeap → Prop} (hl : l.length < 2 ^ 40) (hn : l.Nodup) (ha : Arr H 1 v (strCells l)) (hk : k (.map (some H.length)) (H ++ [.map (nmapK 0 l)])) :
    ∀ (r : List (List UInt8)) (i : Nat) (s1 s2 s4 s5 s6 s10 s11 s12 s13 s14 s15 s16 s17 s18 : Value), l.drop i = r → i ≤ l.length →
      L107x0 (r.length + 1) k [v, s1, s2, .map (some H.length), s4, s5, s6, v, i64 l.length, i64 i, s10, s11, s12, s13, s14, s15, s16, s17, s18] (H ++ [.map (nmapK 0 (l.take i))]) := by
  intro r
  induction r with
  | nil =>
    intro i s1 s2 s4 s5 s6 s10 s11 s12 s13 s14 s15 s16 s17 s18 hd hi
    have hle : l.length ≤ i := by simpa using hd
    rw [List.length_nil, L107x0q, List.take_of_length_le hle]
    have : ¬ i < l.length := by omega
    simp [this]
    exact hk
  | cons s r ih =>
    intro i s1 s2 s4 s5 s6 s10 s11 s12 s13 s14 s15 s16 s17 s18 hd hi
    have hb : l[i]? = some s := by rw [← List.head?_drop, hd]; rfl
    have hlt : i < l.length := (List.getElem?_eq_some_iff.1 hb).1
    obtain ⟨q, hp1, hp2⟩ := (ha.pre (.app H [.map (nmapK 0 (l.take i))])).load1 (P := Tryz.prog) (T := 38) (te := 9) (i := i) (x := str s) (by simp) (by simp) (by simp) (by simp [strCells, hb])
    rw [List.length_cons, L107x0q]
    have hm : (H ++ [AObj.map (nmapK 0 (l.take i))])[H.length]? = some (.map (nmapK 0 (l.take i))) := by simp
    have hok := (nmapK_smap (l.take i) 0).ok
    have hset : (H ++ [AObj.map (nmapK 0 (l.take i))]).set H.length (.map (nmapK 0 (l.take (i + 1)))) = H ++ [.map (nmapK 0 (l.take (i + 1)))] := by simp
    simp only [aBin_lss, bnd_some, Int.ofNat_lt, hlt, decide_true, kifB_true, hp1, hp2]
    simp only [aUpdate_map, hm, tm92, Option.bind_some, mapOf_map, keyOk, hok, and_self, if_true, bndS_some, bnd_some, aBin_add, wrap_succ (show i + 1 < 2 ^ 63 by omega), nmap_put hn hb, hset]
    exact ih (i + 1) _ _ _ _ _ _ _ _ _ _ _ _ _ _ (by rw [← List.drop_drop, hd]; rfl) hlt
theorem c_named {l : List (List UInt8)} {H : AHeap} {v : Value} (hl : l.length < 2 ^ 40) (hn : l.Nodup) (ha : Arr H 1 v (strCells l)) :
    ACalls Tryz.prog 107 [v] H (.map (some H.length)) (H ++ [.map (nmapK 0 l)]) := by
  refine acalls_of MixT Tryz.func107 (by decide) ?_
  rw [d107]
  have hlen := (ha.pre (.app H [.map []])).len (P := Tryz.prog) (T := 38) (e := 9) (by simp)
  simp [strCells] at hlen
  simp [hlen]
  exact ⟨l.length + 1, named_loop hl hn ha ⟨rfl, rfl⟩ l 0 _ _ _ _ _ _ _ _ _ _ _ _ _ _ rfl (by omega)⟩
theorem nmap_get {l : List (List UInt8)} {i : Nat} {s : List UInt8} (hn : l.Nodup) (hi : l[i]? = some s) : mget (str s) (nmapK 0 l) = some (i64 i) := by
  rcases (nmapK_smap l 0).get (k := s) with ⟨_, v, g1, j, rfl, g2⟩ | ⟨g1, _⟩
  · have h1 := (List.getElem?_eq_some_iff.1 hi)
    have h2 := (List.getElem?_eq_some_iff.1 g2)
    obtain ⟨a1, a2⟩ := h1
    obtain ⟨b1, b2⟩ := h2
    have : i = j := by
      rcases Nat.lt_trichotomy i j with q | q | q
      · exact absurd (a2.trans b2.symm) (List.pairwise_iff_getElem.1 hn i j a1 b1 q)
      · exact q
      · exact absurd (b2.trans a2.symm) (List.pairwise_iff_getElem.1 hn j i b1 a1 q)
    subst this
    rw [g1, Nat.zero_add]
  · exact absurd (List.mem_of_getElem? hi) g1
theorem c_one_y {H K rb lv ts a} (h : RdA H K rb lv ts a true) {l : List (List UInt8)} {v : Value} {i : Nat} {t : Tok} (ha : Arr K 1 v (strCells l)) (hl : l.length ≤ 200) (hn : l.Nodup) (ht : ts[a]? = some t) (hi : l[i]? = some t.text) :
    ACalls Tryz.prog 72 [(Value.pointer (some ⟨rb, 0, some 3⟩)), .int .u8 t.kind, v] K (.int .u8 i) ((K ++ [AObj.map (nmapK 0 l)]).set rb (rdo lv (a + 1) true)) := by
  refine acalls_of MixT Tryz.func72 (by decide) ?_
  rw [d72]
  refine bndC_of (c_named (by omega) hn ha) ?_
  refine bndC_of (c_take_y (h.app _) ht) ?_
  have hlt := (List.getElem?_eq_some_iff.1 ht).1
  have hil := (List.getElem?_eq_some_iff.1 hi).1
  have hL := (h.app [AObj.map (nmapK 0 l)]).put (a + 1) true (by omega)
  have hrb := h.lt
  have hm : ((K ++ [AObj.map (nmapK 0 l)]).set rb (rdo lv (a + 1) true))[K.length]? = some (.map (nmapK 0 l)) := by rw [List.getElem?_set_ne (by omega)]; simp
  generalize (K ++ [AObj.map (nmapK 0 l)]).set rb (rdo lv (a + 1) true) = L at hL hm ⊢
  have hc := hL.cell
  have hcc : hcells L rb = some [lv, i64 (a + 1 : Nat), .bool true] := by rw [hcells_eq, hc]; rfl
  have hll : hlen L rb = some 3 := by unfold hlen; rw [hc]; rfl
  have hok := (nmapK_smap l 0).ok
  have hlk : aLookup Tryz.prog L 92 (.map (some K.length)) (str t.text) true = some (mres (some (i64 i)) undef true) := by
    rw [aLookup_map, hm]
    simp only [tm92, Option.bind_some, mapOf_map, keyOk, if_true, hok, nmap_get hn hi]
  dsimp only
  rw [hlk]
  have hw : IntKind.u8.wrap (i : Int) = i := wrap_u8 (by omega) (by omega)
  have hss := set_same hc
  simp only [rdo] at hc hss
  simp [mres, hcc, hll, hc, hw]
  exact hss
end Go.Vi
namespace Go.Vi
open Go Go.Proofs

theorem bnd_of {x : Option Value} {v : Value} {q : QV} (h : x = some v) (k : q.f v) : @bnd x q := by rw [h, bnd_some]; exact k
def hasPre (l p : List UInt8) : Bool := decide (p.length ≤ l.length) && decide (l.take p.length = p)
theorem c_hasPrefix0 (H : AHeap) (l p : List UInt8) : ACalls Tryz.prog 170 [str l, str p] H (.bool (hasPre l p)) H := by
  refine acalls_pure MixT Tryz.func170 (by decide) rfl ?_
  rw [d170]
  by_cases h : p.length ≤ l.length
  · have hs := aSliceOp_str (P := Tryz.prog) (H := H) (T := 9) (l := l) (lo := none) (hi := some (i64 p.length)) (a := 0) (b := p.length) (by simp) rfl rfl (by omega) (by omega) (by omega)
    simp at hs
    simp [h, hs, hasPre]
  · simp [h, hasPre]
theorem c_hasPrefix (H : AHeap) (l p : List UInt8) : ACalls Tryz.prog 152 [str l, str p] H (.bool (hasPre l p)) H := by
  refine acalls_pure MixT Tryz.func152 (by decide) rfl ?_
  rw [d152]
  exact bndC_of (c_hasPrefix0 _ _ _) (by simp)
def cutPre (l p : List UInt8) : List UInt8 := if hasPre l p = true then l.drop p.length else l
theorem c_cutPrefix0 (H : AHeap) (l p : List UInt8) : ACalls Tryz.prog 159 [str l, str p] H (.tuple #[str (cutPre l p), .bool (hasPre l p)]) H := by
  refine acallsT_pure MixT Tryz.func159 (by decide) rfl ?_
  rw [d159]
  refine bndC_of (c_hasPrefix0 _ _ _) ?_
  by_cases h : hasPre l p = true
  · have hle : p.length ≤ l.length := by unfold hasPre at h; simp at h; exact h.1
    have hs := aSliceOp_str (P := Tryz.prog) (H := H) (T := 9) (l := l) (lo := some (i64 p.length)) (hi := none) (a := p.length) (b := l.length) (by simp) rfl rfl (by omega) (by omega) (by omega)
    simp at hs
    simp [h, hs, cutPre]
  · simp only [Bool.not_eq_true] at h
    simp [h, cutPre]
theorem c_cutPrefix (H : AHeap) (l p : List UInt8) : ACalls Tryz.prog 134 [str l, str p] H (.tuple #[str (cutPre l p), .bool (hasPre l p)]) H := by
  refine acallsT_pure MixT Tryz.func134 (by decide) rfl ?_
  rw [d134]
  exact bndC_of (c_cutPrefix0 _ _ _) (by simp)
theorem and_lo (H : AHeap) (x y : Operand) : aBin2 Tryz.prog H .and 157 x y (.int .u64 1) (.int .u64 4294967295) = some (.int .u64 1) := by kernel_rfl
theorem and_lo2 (H : AHeap) (x y : Operand) : aBin2 Tryz.prog H .and 157 x y (.int .u64 2) (.int .u64 4294967295) = some (.int .u64 2) := by kernel_rfl
theorem and_lo3 (H : AHeap) (x y : Operand) : aBin2 Tryz.prog H .and 157 x y (.int .u64 3) (.int .u64 4294967295) = some (.int .u64 3) := by kernel_rfl
theorem and_lo0 (H : AHeap) (x y : Operand) : aBin2 Tryz.prog H .and 157 x y (.int .u64 0) (.int .u64 4294967295) = some (.int .u64 0) := by kernel_rfl
theorem c_hasZero (H : AHeap) : ACalls Tryz.prog 152 [str (List.replicate 64 48), str [48]] H (.bool true) H := by
  have := c_hasPrefix H (List.replicate 64 48) [48]
  rwa [show hasPre (List.replicate 64 48) [48] = true by decide] at this
theorem c_mul64 (H : AHeap) (n : Int) (hn : n = 2 ∨ n = 3) : ACalls Tryz.prog 176 [.int .u64 1, .int .u64 n] H (.tuple #[.int .u64 0, .int .u64 n]) H := by
  refine acallsT_pure MixT Tryz.func176 (by decide) rfl ?_
  rw [d176]
  have f1 : Int.fdiv 1 (2 ^ min 32 IntKind.u64.bits) = 0 := by decide
  have f2 : Int.fdiv 2 (2 ^ min 32 IntKind.u64.bits) = 0 := by decide
  have f3 : Int.fdiv 3 (2 ^ min 32 IntKind.u64.bits) = 0 := by decide
  have f0 : Int.fdiv 0 (2 ^ min 32 IntKind.u64.bits) = 0 := by decide
  have w0 : IntKind.u64.wrap 0 = 0 := by decide
  have w2 : IntKind.u64.wrap 2 = 2 := by decide
  have w3 : IntKind.u64.wrap 3 = 3 := by decide
  rcases hn with rfl | rfl <;> simp [and_lo, and_lo2, and_lo3, and_lo0, aBin_shr, f0, f1, f2, f3, w0, w2, w3]
theorem c_mul (H : AHeap) (n : Int) (hn : n = 2 ∨ n = 3) : ACalls Tryz.prog 160 [.int .u64 1, .int .u64 n] H (.tuple #[.int .u64 0, .int .u64 n]) H := by
  refine acallsT_pure MixT Tryz.func160 (by decide) rfl ?_
  rw [d160]
  simp
  refine bndC_of (c_mul64 _ _ hn) (by simp)
set_option maxRecDepth 4000 in
theorem c_repeat0 (H : AHeap) (n : Nat) (hn : n ≤ 3) : ACalls Tryz.prog 136 [str [48], i64 n] H (str (List.replicate n 48)) H := by
  refine acalls_pure MixT Tryz.func136 (by decide) rfl ?_
  rw [d136]
  have i2 : IntKind.i64.wrap 2 = 2 := by decide
  have i3 : IntKind.i64.wrap 3 = 3 := by decide
  have w1 : IntKind.u64.wrap 1 = 1 := by decide
  have w2 : IntKind.u64.wrap 2 = 2 := by decide
  have w3 : IntKind.u64.wrap 3 = 3 := by decide
  rcases n with _ | _ | _ | _ | n
  · simp
  · simp
  · simp
    rw [S136x0q]
    simp [convV_int, w1, w2]
    refine bndC_of (c_mul _ _ (.inl rfl)) ?_
    simp
    rw [S136x1q]
    have q0 := aIndex_at (P := Tryz.prog) (T := 9) (k := .i64) (l := [48]) (i := 0) (by simp) rfl
    simp at q0
    simp [convV_int, q0]
    rw [S136x2q]
    simp [i2]
    refine bndG_t (.bool false) _ (c_hasPrefix H (List.replicate 128 32) [48]) ?_
    simp [i2]
    refine bndG_t (.bool false) _ (c_hasPrefix H (List.replicate 128 45) [48]) ?_
    simp [i2]
    refine bndG_t (.bool true) _ (c_hasZero H) ?_
    have hs := aSliceOp_str (P := Tryz.prog) (H := H) (T := 9) (l := List.replicate 64 48) (lo := none) (hi := some (i64 2)) (a := 0) (b := 2) (by simp) rfl rfl (by omega) (by omega) (by simp)
    refine bnd_of (v := .bool true) (by simp) ?_
    simp only [kifB_true]
    refine bnd_of hs ?_
    exact ⟨rfl, [], by simp⟩
  · simp
    rw [S136x0q]
    simp [convV_int, w1, w3]
    refine bndC_of (c_mul _ _ (.inr rfl)) ?_
    simp
    rw [S136x1q]
    have q0 := aIndex_at (P := Tryz.prog) (T := 9) (k := .i64) (l := [48]) (i := 0) (by simp) rfl
    simp at q0
    simp [convV_int, q0]
    rw [S136x2q]
    simp [i3]
    refine bndG_t (.bool false) _ (c_hasPrefix H (List.replicate 128 32) [48]) ?_
    simp [i3]
    refine bndG_t (.bool false) _ (c_hasPrefix H (List.replicate 128 45) [48]) ?_
    simp [i3]
    refine bndG_t (.bool true) _ (c_hasZero H) ?_
    have hs := aSliceOp_str (P := Tryz.prog) (H := H) (T := 9) (l := List.replicate 64 48) (lo := none) (hi := some (i64 3)) (a := 0) (b := 3) (by simp) rfl rfl (by omega) (by omega) (by simp)
    refine bnd_of (v := .bool true) (by simp) ?_
    simp only [kifB_true]
    refine bnd_of hs ?_
    exact ⟨rfl, [], by simp⟩
  · omega

/-- Where a number's point stands, and whether all before the end may stand there. -/
def scanF : List UInt8 → Nat → Int → Int × Bool
  | [], _, pt => (pt, true)
  | b :: r, i, pt => if isDig b = true then scanF r (i + 1) pt else if ((b.toNat : Int) == 46 && decide (pt < 0)) = true then scanF r (i + 1) i else (pt, false)
def cutT (s : List UInt8) (pt : Int) (ok : Bool) : List UInt8 × List UInt8 × Bool :=
  if pt < 0 then (s, [], ok) else (s.take pt.toNat, s.drop (pt.toNat + 1), ok && !decide (s.take pt.toNat = []) && !decide (s.drop (pt.toNat + 1) = []) && decide ((s.drop (pt.toNat + 1)).length ≤ 3))
def cutF (s : List UInt8) : List UInt8 × List UInt8 × Bool := cutT s (scanF s 0 (-1)).1 ((scanF s 0 (-1)).2 && !s.isEmpty)
def cutV (x : List UInt8 × List UInt8 × Bool) : Value := .tuple #[str x.1, str x.2.1, .bool x.2.2]
theorem cut_tail {s : List UInt8} {pt : Int} {ok : Bool} {H : AHeap} {k : Value → AHeap → Prop} (hs : s.length < 2 ^ 60) (hpt : pt < s.length) (hp1 : -1 ≤ pt) (hk : k (cutV (cutT s pt ok)) H) (s1 s2 s3 s6 s7 s8 s9 s10 s11 s12 s13 s14 s15 s16 s17 s18 s19 s20 s21 s22 s23 s24 s25 s26 s27 s28 s29 s30 s31 s32 s33 s34 s35 s36 s37 s38 s39 s40 s41 s42 s43 s44 s45 s46 s47 s48 s49 s50 s51 s52 s53 s54 s55 s56 s57 s58 s59 s60 s61 s62 s63 s64 s65 : Value) :
    S135x1 k [str s, s1, s2, s3, .bool ok, i64 pt, s6, s7, s8, s9, s10, s11, s12, s13, s14, s15, s16, s17, s18, s19, s20, s21, s22, s23, s24, s25, s26, s27, s28, s29, s30, s31, s32, s33, s34, s35, s36, s37, s38, s39, s40, s41, s42, s43, s44, s45, s46, s47, s48, s49, s50, s51, s52, s53, s54, s55, s56, s57, s58, s59, s60, s61, s62, s63, s64, s65] H := by
  rw [S135x1q]
  by_cases h : pt < 0
  · simp [h]
    simpa [cutT, h, cutV] using hk
  · obtain ⟨n, rfl⟩ : ∃ n : Nat, pt = n := ⟨pt.toNat, by omega⟩
    have h1 := aSliceOp_str (P := Tryz.prog) (H := H) (T := 9) (l := s) (lo := none) (hi := some (i64 n)) (a := 0) (b := n) (by simp) rfl rfl (by omega) (by omega) (by omega)
    have h2 := aSliceOp_str (P := Tryz.prog) (H := H) (T := 9) (l := s) (lo := some (i64 ((n + 1 : Nat) : Int))) (hi := none) (a := (n + 1 : Nat)) (b := s.length) (by simp) rfl rfl (by omega) (by omega) (by omega)
    simp only [cutT, if_neg h, cutV] at hk
    simp at h1 h2 hk
    simp +contextual [h, h1, h2, show n + 1 < 2 ^ 63 by omega]
    have e3 : decide (((s.length - (n + 1) : Nat) : Int) ≤ 3) = decide (s.length ≤ 3 + (n + 1)) := by rw [decide_eq_decide]; omega
    rw [e3]
    exact hk
theorem cut_loop {s : List UInt8} {H : AHeap} {k : Value → AHeap → Prop} (hs : s.length < 2 ^ 60) (w : List UInt8 × List UInt8 × Bool) (hk : k (cutV w) H) :
    ∀ (r : List UInt8) (i : Nat) (pt : Int) (ok : Bool) (s1 s2 s3 s6 s7 s10 s11 s12 s13 s14 s15 s16 s17 s18 s19 s20 s21 s22 s23 s24 s25 s26 s27 s28 s29 s30 s31 s32 s33 s34 s35 s36 s37 s38 s39 s40 s41 s42 s43 s44 s45 s46 s47 s48 s49 s50 s51 s52 s53 s54 s55 s56 s57 s58 s59 s60 s61 s62 s63 s64 s65 : Value), s.drop i = r → i ≤ s.length → -1 ≤ pt → pt < i → ok = (r.isEmpty && !s.isEmpty) → w = cutT s (scanF r i pt).1 ((scanF r i pt).2 && !s.isEmpty) →
      L135x0 (r.length + 1) k [str s, s1, s2, s3, .bool ok, i64 pt, s6, s7, i64 s.length, i64 i, s10, s11, s12, s13, s14, s15, s16, s17, s18, s19, s20, s21, s22, s23, s24, s25, s26, s27, s28, s29, s30, s31, s32, s33, s34, s35, s36, s37, s38, s39, s40, s41, s42, s43, s44, s45, s46, s47, s48, s49, s50, s51, s52, s53, s54, s55, s56, s57, s58, s59, s60, s61, s62, s63, s64, s65] H := by
  intro r
  induction r with
  | nil =>
    intro i pt ok s1 s2 s3 s6 s7 s10 s11 s12 s13 s14 s15 s16 s17 s18 s19 s20 s21 s22 s23 s24 s25 s26 s27 s28 s29 s30 s31 s32 s33 s34 s35 s36 s37 s38 s39 s40 s41 s42 s43 s44 s45 s46 s47 s48 s49 s50 s51 s52 s53 s54 s55 s56 s57 s58 s59 s60 s61 s62 s63 s64 s65 hd hi hp1 hp2 hok hw
    have hle : s.length ≤ i := by simpa using hd
    rw [List.length_nil, L135x0q]
    have : ¬ i < s.length := by omega
    simp [this]
    rw [B135x1q]
    simp only [List.isEmpty_nil, Bool.true_and] at hok
    rw [hok]
    refine cut_tail hs (by omega) hp1 ?_ _ _ _ _ _ _ _ _ _ _ _ _ _ _ _ _ _ _ _ _ _ _ _ _ _ _ _ _ _ _ _ _ _ _ _ _ _ _ _ _ _ _ _ _ _ _ _ _ _ _ _ _ _ _ _ _ _ _ _ _ _ _ _
    rw [hw] at hk
    simpa [scanF] using hk
  | cons b r ih =>
    intro i pt ok s1 s2 s3 s6 s7 s10 s11 s12 s13 s14 s15 s16 s17 s18 s19 s20 s21 s22 s23 s24 s25 s26 s27 s28 s29 s30 s31 s32 s33 s34 s35 s36 s37 s38 s39 s40 s41 s42 s43 s44 s45 s46 s47 s48 s49 s50 s51 s52 s53 s54 s55 s56 s57 s58 s59 s60 s61 s62 s63 s64 s65 hd hi hp1 hp2 hok hw
    have hb : s[i]? = some b := by rw [← List.head?_drop, hd]; rfl
    have hlt : i < s.length := (List.getElem?_eq_some_iff.1 hb).1
    have hix := aIndex_at (P := Tryz.prog) (T := 9) (k := .i64) (by simp) hb
    have hne : s.isEmpty = false := by cases s with | nil => simp at hlt | cons => rfl
    have hdr : s.drop (i + 1) = r := by rw [← List.drop_drop, hd]; rfl
    have hlast : (i : Int) = (s.length : Int) - 1 ↔ r.isEmpty = true := by
      have := congrArg List.length hd
      simp at this
      cases r with
      | nil => simp at this ⊢; omega
      | cons => simp at this ⊢; omega
    simp only [List.isEmpty_cons, Bool.false_and] at hok
    subst hok
    have hwr : IntKind.i64.wrap ((s.length : Int) - 1) = (s.length : Int) - 1 := wrap_i64 (by omega) (by omega)
    have step : ∀ (pt' : Int) (s1 s2 s3 s7 s10 s11 s12 s13 s14 s15 s16 s17 s18 s19 s20 s21 s22 s23 s24 s25 s26 s27 s28 s29 s30 s31 s32 s33 s34 s35 s36 s37 s38 s39 s40 s41 s42 s43 s44 s45 s46 s47 s48 s49 s50 s51 s52 s53 s54 s55 s56 s57 s58 s59 s60 s61 s62 s63 s64 s65 : Value), -1 ≤ pt' → pt' < (i + 1 : Nat) → w = cutT s (scanF r (i + 1) pt').1 ((scanF r (i + 1) pt').2 && !s.isEmpty) →
        S135x0 (r.length + 1) k [str s, s1, s2, s3, .bool false, i64 pt', i64 i, s7, i64 s.length, i64 i, s10, s11, s12, s13, s14, s15, s16, s17, s18, s19, s20, s21, s22, s23, s24, s25, s26, s27, s28, s29, s30, s31, s32, s33, s34, s35, s36, s37, s38, s39, s40, s41, s42, s43, s44, s45, s46, s47, s48, s49, s50, s51, s52, s53, s54, s55, s56, s57, s58, s59, s60, s61, s62, s63, s64, s65] H := by
      intro pt' s1 s2 s3 s7 s10 s11 s12 s13 s14 s15 s16 s17 s18 s19 s20 s21 s22 s23 s24 s25 s26 s27 s28 s29 s30 s31 s32 s33 s34 s35 s36 s37 s38 s39 s40 s41 s42 s43 s44 s45 s46 s47 s48 s49 s50 s51 s52 s53 s54 s55 s56 s57 s58 s59 s60 s61 s62 s63 s64 s65 q1 q2 q3
      rw [S135x0q]
      simp [hwr]
      refine kifB_bool (fun h => ?_) (fun h => ?_)
      · have hre := hlast.1 (by simpa using h)
        rw [S135x2q]
        simp [show i + 1 < 2 ^ 63 by omega]
        exact ih (i + 1) pt' true _ _ _ _ _ _ _ _ _ _ _ _ _ _ _ _ _ _ _ _ _ _ _ _ _ _ _ _ _ _ _ _ _ _ _ _ _ _ _ _ _ _ _ _ _ _ _ _ _ _ _ _ _ _ _ _ _ _ _ _ _ hdr (by omega) q1 q2 (by simp [hre, hne]) q3
      · have hre : r.isEmpty = false := by
          cases hr : r.isEmpty with
          | false => rfl
          | true => have := hlast.2 hr; simp [this] at h
        rw [S135x2q]
        simp [show i + 1 < 2 ^ 63 by omega]
        exact ih (i + 1) pt' false _ _ _ _ _ _ _ _ _ _ _ _ _ _ _ _ _ _ _ _ _ _ _ _ _ _ _ _ _ _ _ _ _ _ _ _ _ _ _ _ _ _ _ _ _ _ _ _ _ _ _ _ _ _ _ _ _ _ _ _ _ hdr (by omega) q1 q2 (by simp [hre]) q3
    rw [List.length_cons, L135x0q]
    by_cases hdg : isDig b = true
    · have hdg' := hdg
      simp only [isDig, Bool.and_eq_true, decide_eq_true_eq] at hdg'
      simp [hlt, hix, hdg'.1, hdg'.2]
      exact step pt _ _ _ _ _ _ _ _ _ _ _ _ _ _ _ _ _ _ _ _ _ _ _ _ _ _ _ _ _ _ _ _ _ _ _ _ _ _ _ _ _ _ _ _ _ _ _ _ _ _ _ _ _ _ _ _ _ _ _ _ hp1 (by omega) (by simpa only [scanF, if_pos hdg] using hw)
    · have hndg : ¬ (48 ≤ (b.toNat : Int) ∧ (b.toNat : Int) ≤ 57) := by simpa [isDig] using hdg
      simp only [scanF, if_neg hdg] at hw
      by_cases h48 : 48 ≤ (b.toNat : Int)
      · have h57 : ¬ (b.toNat : Int) ≤ 57 := fun q => hndg ⟨h48, q⟩
        have h46 : ¬ (b.toNat : Int) = 46 := by omega
        have h46b : ((b.toNat : Int) == 46) = false := by simpa using h46
        simp [hlt, hix, h48, h57, h46b]
        rw [B135x0q]
        refine cut_tail hs (by omega) hp1 ?_ _ _ _ _ _ _ _ _ _ _ _ _ _ _ _ _ _ _ _ _ _ _ _ _ _ _ _ _ _ _ _ _ _ _ _ _ _ _ _ _ _ _ _ _ _ _ _ _ _ _ _ _ _ _ _ _ _ _ _ _ _ _ _
        rw [hw] at hk
        simpa [h46] using hk
      · by_cases h46 : (b.toNat : Int) = 46
        · by_cases hpt : pt < 0
          · simp [hlt, hix, h46, hpt]
            exact step i _ _ _ _ _ _ _ _ _ _ _ _ _ _ _ _ _ _ _ _ _ _ _ _ _ _ _ _ _ _ _ _ _ _ _ _ _ _ _ _ _ _ _ _ _ _ _ _ _ _ _ _ _ _ _ _ _ _ _ _ (by omega) (by omega) (by simpa [h46, hpt] using hw)
          · simp [hlt, hix, h46, hpt]
            rw [B135x0q]
            refine cut_tail hs (by omega) hp1 ?_ _ _ _ _ _ _ _ _ _ _ _ _ _ _ _ _ _ _ _ _ _ _ _ _ _ _ _ _ _ _ _ _ _ _ _ _ _ _ _ _ _ _ _ _ _ _ _ _ _ _ _ _ _ _ _ _ _ _ _ _ _ _ _
            rw [hw] at hk
            simpa [h46, hpt] using hk
        · have h46b : ((b.toNat : Int) == 46) = false := by simpa using h46
          simp [hlt, hix, h48, h46b]
          rw [B135x0q]
          refine cut_tail hs (by omega) hp1 ?_ _ _ _ _ _ _ _ _ _ _ _ _ _ _ _ _ _ _ _ _ _ _ _ _ _ _ _ _ _ _ _ _ _ _ _ _ _ _ _ _ _ _ _ _ _ _ _ _ _ _ _ _ _ _ _ _ _ _ _ _ _ _ _
          rw [hw] at hk
          simpa [h46] using hk
theorem c_cut {s : List UInt8} {H : AHeap} (hs : s.length < 2 ^ 60) : ACalls Tryz.prog 135 [str s] H (cutV (cutF s)) H := by
  refine acallsT_pure MixT Tryz.func135 (by decide) rfl ?_
  rw [d135]
  simp
  refine ⟨s.length + 1, ?_⟩
  have e : false = (s.isEmpty && !s.isEmpty) := by cases s.isEmpty <;> rfl
  have := cut_loop (H := H) (k := fun u H2 => u = cutV (cutF s) ∧ ∃ X, H2 = H ++ X) hs (cutF s) ⟨rfl, [], by simp⟩ s 0 (-1) false
  exact this _ _ _ _ _ _ _ _ _ _ _ _ _ _ _ _ _ _ _ _ _ _ _ _ _ _ _ _ _ _ _ _ _ _ _ _ _ _ _ _ _ _ _ _ _ _ _ _ _ _ _ _ _ _ _ _ _ _ _ _ _ rfl (by omega) (by omega) (by omega) e rfl

/-! ### A number -/
def digF (x : Int) : List UInt8 → Int
  | [] => x
  | d :: r => if x > (maxFix - ((d.toNat : Int) - 48)).tdiv 10 then maxFix else digF (10 * x + ((d.toNat : Int) - 48)) r
def parF (s : List UInt8) : Int × Int :=
  let c := cutF (cutPre s [45])
  if c.2.2 = true then
    let x := digF 0 (c.1 ++ c.2.1 ++ List.replicate (3 - c.2.1.length) 48)
    (if hasPre s [45] = true then -x else x, 0)
  else (0, 10)
theorem scanF_pt : ∀ (r : List UInt8) (i : Nat) (pt : Int), 0 ≤ pt → (scanF r i pt).2 = true → (scanF r i pt).1 = pt ∧ ∀ b ∈ r, isDig b = true := by
  intro r
  induction r with
  | nil => intro i pt _ _; simp [scanF]
  | cons b r ih =>
    intro i pt hp h
    have hp' : ¬ pt < 0 := by omega
    rw [scanF] at h ⊢
    by_cases hd : isDig b = true
    · rw [if_pos hd] at h ⊢
      obtain ⟨h1, h2⟩ := ih _ _ hp h
      refine ⟨h1, fun c hc => ?_⟩
      rcases List.mem_cons.1 hc with rfl | hc
      · exact hd
      · exact h2 c hc
    · rw [if_neg hd] at h
      simp [hp'] at h
theorem scanF_none : ∀ (r : List UInt8) (i : Nat), (scanF r i (-1)).2 = true → ((scanF r i (-1)).1 = -1 ∧ ∀ b ∈ r, isDig b = true) ∨
    ∃ j : Nat, (scanF r i (-1)).1 = ((i + j : Nat) : Int) ∧ j < r.length ∧ (∀ b ∈ r.take j, isDig b = true) ∧ ∀ b ∈ r.drop (j + 1), isDig b = true := by
  intro r
  induction r with
  | nil => intro i _; left; simp [scanF]
  | cons b r ih =>
    intro i h
    rw [scanF] at h ⊢
    by_cases hd : isDig b = true
    · rw [if_pos hd] at h ⊢
      rcases ih _ h with ⟨h1, h2⟩ | ⟨j, h1, h2, h3, h4⟩
      · left
        refine ⟨h1, fun c hc => ?_⟩
        rcases List.mem_cons.1 hc with rfl | hc
        · exact hd
        · exact h2 c hc
      · right
        refine ⟨j + 1, by rw [h1]; congr 1; omega, by simp; omega, fun c hc => ?_, by simpa using h4⟩
        rw [List.take_succ_cons] at hc
        rcases List.mem_cons.1 hc with rfl | hc
        · exact hd
        · exact h3 c hc
    · rw [if_neg hd] at h ⊢
      split at h
      · rename_i hq
        rw [if_pos hq]
        obtain ⟨h1, h2⟩ := scanF_pt r (i + 1) i (by omega) h
        exact .inr ⟨0, by rw [h1]; rfl, by simp, by simp, by simpa using h2⟩
      · cases h
theorem cutF_ok {s : List UInt8} (h : (cutF s).2.2 = true) : (∀ b ∈ (cutF s).1 ++ (cutF s).2.1, isDig b = true) ∧ (cutF s).2.1.length ≤ 3 ∧ (cutF s).1.length + (cutF s).2.1.length ≤ s.length := by
  unfold cutF cutT at *
  by_cases hp : (scanF s 0 (-1)).1 < 0
  · simp only [if_pos hp] at h ⊢
    simp only [Bool.and_eq_true] at h
    rcases scanF_none s 0 h.1 with ⟨h1, h2⟩ | ⟨j, h1, _⟩
    · simp; exact h2
    · rw [h1] at hp; omega
  · simp only [if_neg hp] at h ⊢
    simp only [Bool.and_eq_true, decide_eq_true_eq] at h
    rcases scanF_none s 0 h.1.1.1.1 with ⟨h1, h2⟩ | ⟨j, h1, h2, h3, h4⟩
    · rw [h1] at hp; omega
    · rw [h1] at h ⊢
      simp only [Nat.zero_add, Int.toNat_natCast] at h ⊢
      refine ⟨fun b hb => ?_, h.2, ?_⟩
      · rcases List.mem_append.1 hb with hb | hb
        · exact h3 b hb
        · exact h4 b hb
      · simp; omega
theorem arr_bytes {H : AHeap} (l : List UInt8) : Arr (H ++ [AObj.ro (bytesL ⟨l.toArray⟩)]) 1 (.slice (some ⟨H.length, 0, some l.length⟩) l.length l.length) (l.map fun b => [byt b]) := by
  refine .mk H.length 0 _ _ _ (l.map byt) _ (by simp) (by simp [hcells_eq, bytesL, AObj.rcells]) (by simp) (by simp) fun i e hi => ?_
  simp at hi
  obtain ⟨b, hb, rfl⟩ := hi
  rw [Nat.zero_add, Nat.mul_one, ← List.map_drop, ← List.map_take]
  have : (l.drop i).take 1 = [b] := by
    have hlt := (List.getElem?_eq_some_iff.1 hb).1
    rw [List.drop_eq_getElem_cons hlt, (List.getElem?_eq_some_iff.1 hb).2]; rfl
  rw [this]; rfl
theorem digF_range : ∀ (l : List UInt8) (x : Int), (∀ b ∈ l, isDig b = true) → 0 ≤ x → x ≤ maxFix → 0 ≤ digF x l ∧ digF x l ≤ maxFix := by
  intro l
  induction l with
  | nil => intro x _ h1 h2; exact ⟨h1, h2⟩
  | cons d r ih =>
    intro x hd h1 h2
    have h := hd d (by simp)
    simp only [isDig, Bool.and_eq_true, decide_eq_true_eq] at h
    rw [digF]
    split
    · simp [maxFix]
    · rename_i hx
      have : x ≤ (maxFix - ((d.toNat : Int) - 48)).tdiv 10 := by omega
      have h3 : (maxFix - ((d.toNat : Int) - 48)).tdiv 10 * 10 ≤ maxFix - ((d.toNat : Int) - 48) := by
        rw [Int.tdiv_eq_ediv_of_nonneg (by simp [maxFix]; omega)]; omega
      exact ih _ (fun b hb => hd b (by simp [hb])) (by omega) (by omega)
theorem dig_loop {H : AHeap} {v : Value} {l : List UInt8} {less : Bool} {k : Value → AHeap → Prop} (ha : Arr H 1 v (l.map fun b => [byt b])) (hl : l.length < 2 ^ 61) (hd : ∀ b ∈ l, isDig b = true) (w : Int)
    (hk : k (.tuple #[i64 (if less = true then -w else w), i64 0]) H) :
    ∀ (r : List UInt8) (i : Nat) (x : Int) (s0 s1 s2 s3 s4 s6 s7 s8 s10 s11 s12 s13 s14 s15 s16 s17 s18 s19 s20 s21 s22 s23 s24 s25 s26 s27 s28 s29 s30 s31 s32 s36 s37 s38 s39 s40 s41 s42 s43 s44 s45 s46 s47 s48 s49 s50 s51 s52 s53 s54 s55 s56 : Value), l.drop i = r → i ≤ l.length → 0 ≤ x → x ≤ maxFix → w = digF x r →
      L112x0 (r.length + 1) k [s0, s1, s2, s3, s4, .bool less, s6, s7, s8, i64 x, s10, s11, s12, s13, s14, s15, s16, s17, s18, s19, s20, s21, s22, s23, s24, s25, s26, s27, s28, s29, s30, s31, s32, v, i64 l.length, i64 i, s36, s37, s38, s39, s40, s41, s42, s43, s44, s45, s46, s47, s48, s49, s50, s51, s52, s53, s54, s55, s56] H := by
  have tail : ∀ (s0 s1 s2 s3 s4 s6 s7 s8 s10 s11 s12 s13 s14 s15 s16 s17 s18 s19 s20 s21 s22 s23 s24 s25 s26 s27 s28 s29 s30 s31 s32 s33 s34 s35 s36 s37 s38 s39 s40 s41 s42 s43 s44 s45 s46 s47 s48 s49 s50 s51 s52 s53 s54 s55 s56 : Value), 0 ≤ w → w ≤ maxFix → S112x0 k [s0, s1, s2, s3, s4, .bool less, s6, s7, s8, i64 w, s10, s11, s12, s13, s14, s15, s16, s17, s18, s19, s20, s21, s22, s23, s24, s25, s26, s27, s28, s29, s30, s31, s32, s33, s34, s35, s36, s37, s38, s39, s40, s41, s42, s43, s44, s45, s46, s47, s48, s49, s50, s51, s52, s53, s54, s55, s56] H := by
    intro s0 s1 s2 s3 s4 s6 s7 s8 s10 s11 s12 s13 s14 s15 s16 s17 s18 s19 s20 s21 s22 s23 s24 s25 s26 s27 s28 s29 s30 s31 s32 s33 s34 s35 s36 s37 s38 s39 s40 s41 s42 s43 s44 s45 s46 s47 s48 s49 s50 s51 s52 s53 s54 s55 s56 h1 h2
    rw [S112x0q]
    simp only [maxFix] at h2
    cases less with
    | true =>
      have hw : IntKind.i64.wrap (-w) = -w := wrap_i64 (by omega) (by omega)
      simp [unV_neg, hw]
      rw [S112x1q]
      simpa using hk
    | false =>
      simp
      rw [S112x1q]
      simpa using hk
  intro r
  induction r with
  | nil =>
    intro i x s0 s1 s2 s3 s4 s6 s7 s8 s10 s11 s12 s13 s14 s15 s16 s17 s18 s19 s20 s21 s22 s23 s24 s25 s26 s27 s28 s29 s30 s31 s32 s36 s37 s38 s39 s40 s41 s42 s43 s44 s45 s46 s47 s48 s49 s50 s51 s52 s53 s54 s55 s56 hdr hi hx1 hx2 hw
    have hle : l.length ≤ i := by simpa using hdr
    rw [List.length_nil, L112x0q]
    have : ¬ i < l.length := by omega
    simp [this]
    rw [B112x1q]
    simp only [digF] at hw
    subst hw
    exact tail _ _ _ _ _ _ _ _ _ _ _ _ _ _ _ _ _ _ _ _ _ _ _ _ _ _ _ _ _ _ _ _ _ _ _ _ _ _ _ _ _ _ _ _ _ _ _ _ _ _ _ _ _ _ _ hx1 hx2
  | cons d r ih =>
    intro i x s0 s1 s2 s3 s4 s6 s7 s8 s10 s11 s12 s13 s14 s15 s16 s17 s18 s19 s20 s21 s22 s23 s24 s25 s26 s27 s28 s29 s30 s31 s32 s36 s37 s38 s39 s40 s41 s42 s43 s44 s45 s46 s47 s48 s49 s50 s51 s52 s53 s54 s55 s56 hdr hi hx1 hx2 hw
    have hb : l[i]? = some d := by rw [← List.head?_drop, hdr]; rfl
    have hlt : i < l.length := (List.getElem?_eq_some_iff.1 hb).1
    have hdd := hd d (List.mem_of_getElem? hb)
    have hd' : (∀ b ∈ r, isDig b = true) := fun b hb' => hd b (List.mem_of_mem_drop (by rw [hdr]; simp [hb']))
    simp only [isDig, Bool.and_eq_true, decide_eq_true_eq] at hdd
    obtain ⟨q, hp1, hp2⟩ := ha.load1 (P := Tryz.prog) (T := 112) (te := 5) (i := i) (x := byt d) (by simp) (by simp) (by simp) (by rw [List.getElem?_map, hb]; rfl)
    have w1 : IntKind.u8.wrap ((d.toNat : Int) - 48) = (d.toNat : Int) - 48 := wrap_u8 (by omega) (by omega)
    have w2 : IntKind.i64.wrap ((d.toNat : Int) - 48) = (d.toNat : Int) - 48 := wrap_i64 (by omega) (by omega)
    have w3 : IntKind.i64.wrap (4611686018427387903 - ((d.toNat : Int) - 48)) = 4611686018427387903 - ((d.toNat : Int) - 48) := wrap_i64 (by omega) (by omega)
    have htd : (4611686018427387903 - ((d.toNat : Int) - 48)).tdiv 10 = (4611686018427387903 - ((d.toNat : Int) - 48)) / 10 := Int.tdiv_eq_ediv_of_nonneg (by omega)
    have w4 : IntKind.i64.wrap ((4611686018427387903 - ((d.toNat : Int) - 48)).tdiv 10) = (4611686018427387903 - ((d.toNat : Int) - 48)).tdiv 10 := by rw [htd]; exact wrap_i64 (by omega) (by omega)
    rw [List.length_cons, L112x0q]
    rw [digF] at hw
    simp only [maxFix] at hx2
    simp [hlt, hp1, hp2, w1, w2, w3, aBin_quo, w4, convV_int]
    refine kifB_bool (fun h => ?_) (fun h => ?_)
    · simp only [decide_eq_true_eq] at h
      rw [if_pos (show x > (maxFix - ((d.toNat : Int) - 48)).tdiv 10 from h)] at hw
      subst hw
      simp
      rw [B112x0q]
      exact tail _ _ _ _ _ _ _ _ _ _ _ _ _ _ _ _ _ _ _ _ _ _ _ _ _ _ _ _ _ _ _ _ _ _ _ _ _ _ _ _ _ _ _ _ _ _ _ _ _ _ _ _ _ _ _ (by simp [maxFix]) (by simp [maxFix])
    · simp only [decide_eq_false_iff_not] at h
      rw [if_neg (show ¬ x > (maxFix - ((d.toNat : Int) - 48)).tdiv 10 from h)] at hw
      rw [htd] at h
      have hx10 : x ≤ (4611686018427387903 - ((d.toNat : Int) - 48)) / 10 := by omega
      have h10 : 10 * x + ((d.toNat : Int) - 48) ≤ 4611686018427387903 := by omega
      have w5 : IntKind.i64.wrap (10 * x) = 10 * x := wrap_i64 (by omega) (by omega)
      have w6 : IntKind.i64.wrap (10 * x + ((d.toNat : Int) - 48)) = 10 * x + ((d.toNat : Int) - 48) := wrap_i64 (by omega) (by omega)
      simp [w1, w2, w5, w6, convV_int, show i + 1 < 2 ^ 63 by omega]
      exact ih (i + 1) _ _ _ _ _ _ _ _ _ _ _ _ _ _ _ _ _ _ _ _ _ _ _ _ _ _ _ _ _ _ _ _ _ _ _ _ _ _ _ _ _ _ _ _ _ _ _ _ _ _ _ _ _ (by rw [← List.drop_drop, hdr]; rfl) hlt (by omega) (by simp only [maxFix]; omega) hw
theorem c_fixParse {s : List UInt8} {H : AHeap} (hs : s.length < 2 ^ 59) : ACalls Tryz.prog 112 [str s] H (.tuple #[i64 (parF s).1, i64 (parF s).2]) H := by
  refine acallsT_pure MixT Tryz.func112 (by decide) rfl ?_
  rw [d112]
  refine bndC_of (c_cutPrefix _ _ [45]) ?_
  simp
  have hcl : (cutPre s [45]).length ≤ s.length := by unfold cutPre; split <;> simp
  refine bndC_of (c_cut (by omega)) ?_
  generalize hc : cutF (cutPre s [45]) = c
  obtain ⟨wh, pa, ok⟩ := c
  simp [cutV]
  have hpar : parF s = if ok = true then (if hasPre s [45] = true then -(digF 0 (wh ++ pa ++ List.replicate (3 - pa.length) 48)) else digF 0 (wh ++ pa ++ List.replicate (3 - pa.length) 48), 0) else (0, 10) := by
    unfold parF; simp only [hc]
  generalize parF s = res at hpar ⊢
  cases ok with
  | false => simp [hpar]
  | true =>
    obtain ⟨k1, k2, k3⟩ := cutF_ok (s := cutPre s [45]) (by rw [hc])
    rw [hc] at k1 k2 k3
    dsimp only at k1 k2 k3
    simp only [if_true] at hpar
    have hw : IntKind.i64.wrap (3 - (pa.length : Int)) = ((3 - pa.length : Nat) : Int) := by rw [wrap_i64 (by omega) (by omega)]; omega
    have e1 := fun X Y => aBin_str (P := Tryz.prog) (H := H) (T := 9) (x := X) (y := Y) (a := wh) (b := pa) (by omega)
    simp [hw, e1]
    refine bndC_of (c_repeat0 _ _ (by omega)) ?_
    have e2 := fun X Y => aBin_str (P := Tryz.prog) (H := H) (T := 9) (x := X) (y := Y) (a := wh ++ pa) (b := List.replicate (3 - pa.length) 48) (by simp; omega)
    simp only [e2, bnd_some]
    generalize hD : wh ++ pa ++ List.replicate (3 - pa.length) 48 = D at hpar
    have hDl : D.length < 2 ^ 61 := by rw [← hD]; simp; omega
    have hDd : ∀ b ∈ D, isDig b = true := by
      intro b hb
      rw [← hD] at hb
      rcases List.mem_append.1 hb with hb | hb
      · exact k1 b hb
      · rw [(List.mem_replicate.1 hb).2]; decide
    have hcv : aConv Tryz.prog H 9 112 (str D) = some (.slice (some ⟨H.length, 0, some D.length⟩) D.length D.length, H ++ [.ro (bytesL ⟨D.toArray⟩)]) := by
      have hu : isU8 Tryz.prog 5 = true := by kernel_rfl
      simp [aConv, hu]
    simp [hcv]
    refine ⟨D.length + 1, dig_loop (less := hasPre s [45]) (arr_bytes D) hDl hDd (digF 0 D) ?_ D 0 0 _ _ _ _ _ _ _ _ _ _ _ _ _ _ _ _ _ _ _ _ _ _ _ _ _ _ _ _ _ _ _ _ _ _ _ _ _ _ _ _ _ _ _ _ _ _ _ _ _ _ _ _ rfl (by omega) (by omega) (by simp [maxFix]) rfl⟩
    rw [hpar]
    exact ⟨by split <;> rfl, [_], rfl⟩
end Go.Vi
namespace Go.Vi
open Go Go.Proofs

def natF (n : Int) : List UInt8 → Int
  | [] => n
  | d :: r => natF (10 * n + ((d.toNat : Int) - 48)) r
theorem atoi_loop {H : AHeap} {v : Value} {l : List UInt8} {k : Value → AHeap → Prop} (ha : Arr H 1 v (l.map fun b => [byt b])) (hl : l.length ≤ 18) (h1 : 1 ≤ l.length) (hd : ∀ b ∈ l, isDig b = true) (w : Int)
    (hk : k (.tuple #[i64 w, .nilIface]) H) :
    ∀ (r : List UInt8) (i : Nat) (n : Int) (s0 s1 s2 s3 s4 s7 s8 s9 s10 s11 s12 s13 s14 s15 s16 s17 s18 s19 s20 s21 s22 s23 s24 s25 s26 s27 s28 s29 s30 s31 s32 s33 s34 s35 s36 s37 s38 s39 s40 s41 s42 s43 s44 s45 s46 s50 s51 s52 s53 s54 s55 s56 s57 s58 s59 s60 s61 s62 s63 s64 s65 s66 s67 s68 s69 s70 s71 s72 s73 s74 s75 s76 : Value), l.drop i = r → i ≤ l.length → 0 ≤ n → n < 10 ^ i → w = natF n r →
      L132x0 (r.length + 1) k [s0, s1, s2, s3, s4, str l, i64 n, s7, s8, s9, s10, s11, s12, s13, s14, s15, s16, s17, s18, s19, s20, s21, s22, s23, s24, s25, s26, s27, s28, s29, s30, s31, s32, s33, s34, s35, s36, s37, s38, s39, s40, s41, s42, s43, s44, s45, s46, v, i64 l.length, i64 i, s50, s51, s52, s53, s54, s55, s56, s57, s58, s59, s60, s61, s62, s63, s64, s65, s66, s67, s68, s69, s70, s71, s72, s73, s74, s75, s76] H := by
  intro r
  induction r with
  | nil =>
    intro i n s0 s1 s2 s3 s4 s7 s8 s9 s10 s11 s12 s13 s14 s15 s16 s17 s18 s19 s20 s21 s22 s23 s24 s25 s26 s27 s28 s29 s30 s31 s32 s33 s34 s35 s36 s37 s38 s39 s40 s41 s42 s43 s44 s45 s46 s50 s51 s52 s53 s54 s55 s56 s57 s58 s59 s60 s61 s62 s63 s64 s65 s66 s67 s68 s69 s70 s71 s72 s73 s74 s75 s76 hdr hi hn1 hn2 hw
    have hle : l.length ≤ i := by simpa using hdr
    rw [List.length_nil, L132x0q]
    have : ¬ i < l.length := by omega
    obtain ⟨b0, hb0⟩ : ∃ b, l[0]? = some b := ⟨_, List.getElem?_eq_getElem (by omega)⟩
    have hix := aIndex_at (P := Tryz.prog) (T := 9) (k := .i64) (i := 0) (by simp) hb0
    have hdd := hd b0 (List.mem_of_getElem? hb0)
    simp only [isDig, Bool.and_eq_true, decide_eq_true_eq] at hdd
    have h45 : ((b0.toNat : Int) == 45) = false := by simp; omega
    simp only [natF] at hw
    subst hw
    simp at hix
    simp [this, hix, h45]
    rw [S132x1q]
    exact hk
  | cons d r ih =>
    intro i n s0 s1 s2 s3 s4 s7 s8 s9 s10 s11 s12 s13 s14 s15 s16 s17 s18 s19 s20 s21 s22 s23 s24 s25 s26 s27 s28 s29 s30 s31 s32 s33 s34 s35 s36 s37 s38 s39 s40 s41 s42 s43 s44 s45 s46 s50 s51 s52 s53 s54 s55 s56 s57 s58 s59 s60 s61 s62 s63 s64 s65 s66 s67 s68 s69 s70 s71 s72 s73 s74 s75 s76 hdr hi hn1 hn2 hw
    have hb : l[i]? = some d := by rw [← List.head?_drop, hdr]; rfl
    have hlt : i < l.length := (List.getElem?_eq_some_iff.1 hb).1
    have hdd := hd d (List.mem_of_getElem? hb)
    simp only [isDig, Bool.and_eq_true, decide_eq_true_eq] at hdd
    obtain ⟨q, hp1, hp2⟩ := ha.load1 (P := Tryz.prog) (T := 112) (te := 5) (i := i) (x := byt d) (by simp) (by simp) (by simp) (by rw [List.getElem?_map, hb]; rfl)
    have w1 : IntKind.u8.wrap ((d.toNat : Int) - 48) = (d.toNat : Int) - 48 := wrap_u8 (by omega) (by omega)
    have w2 : IntKind.i64.wrap ((d.toNat : Int) - 48) = (d.toNat : Int) - 48 := wrap_i64 (by omega) (by omega)
    have hp : (10 : Int) ^ (i + 1) ≤ 10 ^ 18 := by exact_mod_cast Nat.pow_le_pow_right (by omega : 0 < 10) (by omega : i + 1 ≤ 18)
    have hpe : (10 : Int) ^ (i + 1) = 10 ^ i * 10 := Int.pow_succ ..
    have w3 : IntKind.i64.wrap (n * 10) = n * 10 := wrap_i64 (by omega) (by omega)
    have w4 : IntKind.i64.wrap (n * 10 + ((d.toNat : Int) - 48)) = n * 10 + ((d.toNat : Int) - 48) := wrap_i64 (by omega) (by omega)
    have h9 : ¬ (9 < (d.toNat : Int) - 48) := by omega
    rw [List.length_cons, L132x0q]
    simp [hlt, hp1, hp2, w1, w2, w3, w4, h9, convV_int, show i + 1 < 2 ^ 63 by omega]
    exact ih (i + 1) _ _ _ _ _ _ _ _ _ _ _ _ _ _ _ _ _ _ _ _ _ _ _ _ _ _ _ _ _ _ _ _ _ _ _ _ _ _ _ _ _ _ _ _ _ _ _ _ _ _ _ _ _ _ _ _ _ _ _ _ _ _ _ _ _ _ _ _ _ _ _ _ _ (by rw [← List.drop_drop, hdr]; rfl) hlt (by omega) (by omega) (by rw [hw, natF]; congr 1; omega)
theorem c_atoi0 {H : AHeap} {l : List UInt8} (hl : l.length ≤ 18) (h1 : 1 ≤ l.length) (hd : ∀ b ∈ l, isDig b = true) : ACalls Tryz.prog 132 [str l] H (.tuple #[i64 (natF 0 l), .nilIface]) H := by
  refine acallsT_pure MixT Tryz.func132 (by decide) rfl ?_
  rw [d132]
  obtain ⟨b0, hb0⟩ : ∃ b, l[0]? = some b := ⟨_, List.getElem?_eq_getElem (by omega)⟩
  have hix := aIndex_at (P := Tryz.prog) (T := 9) (k := .i64) (i := 0) (by simp) hb0
  have hdd := hd b0 (List.mem_of_getElem? hb0)
  simp only [isDig, Bool.and_eq_true, decide_eq_true_eq] at hdd
  have h45 : ((b0.toNat : Int) == 45) = false := by simp; omega
  have h43 : ((b0.toNat : Int) == 43) = false := by simp; omega
  have q1 : (0 : Int) < l.length := by omega
  have q2 : (l.length : Int) < 19 := by omega
  have q3 : 0 < l.length := by omega
  simp at hix
  simp [q2, q3, hix, h45, h43]
  rw [S132x0q]
  have hcv : aConv Tryz.prog H 9 112 (str l) = some (.slice (some ⟨H.length, 0, some l.length⟩) l.length l.length, H ++ [.ro (bytesL ⟨l.toArray⟩)]) := by
    have hu : isU8 Tryz.prog 5 = true := by kernel_rfl
    simp [aConv, hu]
  simp [hcv]
  exact ⟨l.length + 1, atoi_loop (arr_bytes l) hl h1 hd (natF 0 l) ⟨rfl, [_], rfl⟩ l 0 0 _ _ _ _ _ _ _ _ _ _ _ _ _ _ _ _ _ _ _ _ _ _ _ _ _ _ _ _ _ _ _ _ _ _ _ _ _ _ _ _ _ _ _ _ _ _ _ _ _ _ _ _ _ _ _ _ _ _ _ _ _ _ _ _ _ _ _ _ _ _ _ _ rfl (by omega) (by omega) (by omega) rfl⟩
theorem c_atoi {H : AHeap} {l : List UInt8} (hl : l.length ≤ 18) (h1 : 1 ≤ l.length) (hd : ∀ b ∈ l, isDig b = true) : ACalls Tryz.prog 111 [str l] H (.tuple #[i64 (natF 0 l), .nilIface]) H := by
  refine acallsT_pure MixT Tryz.func111 (by decide) rfl ?_
  rw [d111]
  refine bndC_of (c_atoi0 hl h1 hd) ?_
  have hu := tu137
  simp [aBin_nilifn hu]
theorem c_window_y {H K rb lv ts a} (h : RdA H K rb lv ts a true) {t : Tok} (ht : ts[a]? = some t) (hk : t.kind = 2) (hl : t.text.length ≤ 18) (h1 : 1 ≤ t.text.length) (hd : ∀ b ∈ t.text, isDig b = true) (hn1 : 1 ≤ natF 0 t.text) (hn2 : natF 0 t.text ≤ 1000) :
    ACalls Tryz.prog 75 [(Value.pointer (some ⟨rb, 0, some 3⟩))] K (i64 (natF 0 t.text)) (K.set rb (rdo lv (a + 1) true)) := by
  refine acalls_of MixT Tryz.func75 (by decide) ?_
  rw [d75]
  have hta := c_take_y h ht
  rw [hk] at hta
  refine bndC_of hta ?_
  refine bndC_of (c_atoi hl h1 hd) ?_
  have hlt := (List.getElem?_eq_some_iff.1 ht).1
  have hL := (h.put (a + 1) true (by omega)).cell
  generalize K.set rb (rdo lv (a + 1) true) = L at hL ⊢
  have hc : hcells L rb = some [lv, i64 (a + 1 : Nat), .bool true] := by rw [hcells_eq, hL]; rfl
  have hll : hlen L rb = some 3 := by unfold hlen; rw [hL]; rfl
  have hss := set_same hL
  have hu := tu137
  simp only [rdo] at hL hss
  simp [hc, hll, hL, hn1, hn2, aBin_nilif hu]
  exact hss
theorem value_tail {H K rb lv ts b} (h : RdA H K rb lv ts b true) {t : Tok} (ht : ts[b]? = some t) (hk : t.kind = 2) {pre : List UInt8} (hl : pre.length + t.text.length < 2 ^ 50) (hp : (parF (pre ++ t.text)).2 = 0) {k : Value → AHeap → Prop}
    (hkk : k (i64 (parF (pre ++ t.text)).1) (K.set rb (rdo lv (b + 1) true))) (s1 s2 s4 s5 s6 s7 s8 s9 s10 s11 s12 s13 s14 s15 s16 s17 s18 s19 s20 s21 s22 s23 s24 s25 s26 s27 : Value) :
    S77x0 k [.pointer (some ⟨rb, 0, some 3⟩), s1, s2, str pre, s4, s5, s6, s7, s8, s9, s10, s11, s12, s13, s14, s15, s16, s17, s18, s19, s20, s21, s22, s23, s24, s25, s26, s27] K := by
  rw [S77x0q]
  have hta := c_take_y h ht
  rw [hk] at hta
  refine bndC_of hta ?_
  have e1 := fun H X Y => aBin_str (P := Tryz.prog) (H := H) (T := 9) (x := X) (y := Y) (a := pre) (b := t.text) (by omega)
  simp only [e1, bnd_some]
  refine bndC_of (c_fixParse (by simp; omega)) ?_
  have hlt := (List.getElem?_eq_some_iff.1 ht).1
  have hL := (h.put (b + 1) true (by omega)).cell
  generalize K.set rb (rdo lv (b + 1) true) = L at hL hkk ⊢
  have hc : hcells L rb = some [lv, i64 (b + 1 : Nat), .bool true] := by rw [hcells_eq, hL]; rfl
  have hll : hlen L rb = some 3 := by unfold hlen; rw [hL]; rfl
  have hss := set_same hL
  simp only [rdo] at hL hss
  simp at hss
  simp [hc, hll, hL, hp, hss]
  exact hkk
theorem c_value_y {H K rb lv ts a} (h : RdA H K rb lv ts a true) {t : Tok} (hm : isT ts a 4 [45] = false) (ht : ts[a]? = some t) (hk : t.kind = 2) (hl : t.text.length < 2 ^ 49) (hp : (parF t.text).2 = 0) :
    ACalls Tryz.prog 77 [(Value.pointer (some ⟨rb, 0, some 3⟩))] K (i64 (parF t.text).1) (K.set rb (rdo lv (a + 1) true)) := by
  refine acalls_of MixT Tryz.func77 (by decide) ?_
  rw [d77]
  refine bndC_of (c_takes_n h (k := 4) (s := [45]) (by simp [hm])) ?_
  simp
  exact value_tail (pre := []) h ht hk (by simp; omega) hp ⟨rfl, rfl⟩ _ _ _ _ _ _ _ _ _ _ _ _ _ _ _ _ _ _ _ _ _ _ _ _ _ _
theorem c_value_m {H K rb lv ts a} (h : RdA H K rb lv ts a true) {t : Tok} (hm : isT ts a 4 [45] = true) (ht : ts[a + 1]? = some t) (hk : t.kind = 2) (hl : t.text.length < 2 ^ 49) (hp : (parF (45 :: t.text)).2 = 0) :
    ACalls Tryz.prog 77 [(Value.pointer (some ⟨rb, 0, some 3⟩))] K (i64 (parF (45 :: t.text)).1) (K.set rb (rdo lv (a + 2) true)) := by
  refine acalls_of MixT Tryz.func77 (by decide) ?_
  rw [d77]
  refine bndC_of (c_takes_y h hm) ?_
  simp
  have hlt := (List.getElem?_eq_some_iff.1 ht).1
  have := value_tail (pre := [45]) (h.put (a + 1) true (by omega)) ht hk (by simp; omega) hp (k := fun u H2 => u = i64 (parF (45 :: t.text)).1 ∧ H2 = K.set rb (rdo lv (a + 2) true)) ⟨rfl, by simp⟩
  exact this _ _ _ _ _ _ _ _ _ _ _ _ _ _ _ _ _ _ _ _ _ _ _ _ _ _
theorem c_selects0 {H K rb lv ts a} (h : RdA H K rb lv ts a true) (h1 : isT ts a 4 [123] = true) (h2 : isT ts (a + 1) 4 [125] = true) :
    ACalls Tryz.prog 74 [(Value.pointer (some ⟨rb, 0, some 3⟩))] K (.slice none 0 0) (K.set rb (rdo lv (a + 2) true)) := by
  refine acalls_of MixT Tryz.func74 (by decide) ?_
  rw [d74]
  refine bndC_of (c_sign_y h h1) ?_
  refine bndC_of (c_takes_y (h.put (a + 1) true (by have := isT_lt h1; omega)) h2) ?_
  simp

/-! ### A comparison without matchers -/
structure CmpAt (ts : List Tok) (a i : Nat) (w : Int) (j : Nat) (x : Int) : Prop where
  t0 : ∃ t, ts[a]? = some t ∧ t.kind = 1 ∧ aggs[i]? = some t.text
  s1 : isT ts (a + 1) 4 [40] = true
  s2 : isT ts (a + 2) 4 [123] = true
  s3 : isT ts (a + 3) 4 [125] = true
  s4 : isT ts (a + 4) 4 [91] = true
  t5 : ∃ t, ts[a + 5]? = some t ∧ t.kind = 2 ∧ t.text.length ≤ 18 ∧ 1 ≤ t.text.length ∧ (∀ b ∈ t.text, isDig b = true) ∧ natF 0 t.text = w ∧ 1 ≤ w ∧ w ≤ 1000
  s6 : isT ts (a + 6) 4 [93] = true
  s7 : isT ts (a + 7) 4 [41] = true
  t8 : ∃ t, ts[a + 8]? = some t ∧ t.kind = 4 ∧ cmps[j]? = some t.text
  n9 : isT ts (a + 9) 4 [45] = false
  t9 : ∃ t, ts[a + 9]? = some t ∧ t.kind = 2 ∧ t.text.length < 2 ^ 49 ∧ parF t.text = (x, 0)
def cmpNod (i : Nat) (w : Int) (j : Nat) (x : Int) : Nod := ⟨0, UInt8.ofNat i, [], w, UInt8.ofNat j, x, 0, 0⟩
def nodZ : List Value := [.int .u8 0, .int .u8 0, .slice none 0 0, i64 0, .int .u8 0, i64 0, i64 0, i64 0]
structure CmpSt (H K L : AHeap) (rb : Nat) (lv : Value) (ts : List Tok) (a b0 b1 : Nat) (n : List Value) : Prop where
  rd : RdA H L rb lv ts a true
  f0 : L[b0]? = some (.cells nodZ 76)
  f1 : L[b1]? = some (.cells n 76)
  fr : ∀ (b : Nat) o, b ≠ rb → K[b]? = some o → L[b]? = some o
  len : K.length ≤ L.length
  k0 : rb < K.length
  k1 : K.length ≤ b0
  k2 : K.length ≤ b1
  k3 : b0 ≠ b1
theorem CmpSt.rds {H K L rb lv ts a b0 b1 n} (h : CmpSt H K L rb lv ts a b0 b1 n) (a' : Nat) (ha : a' ≤ ts.length) : CmpSt H K (L.set rb (rdo lv a' true)) rb lv ts a' b0 b1 n := by
  have := h.k0; have := h.k1; have := h.k2
  exact ⟨h.rd.put a' true ha, by rw [List.getElem?_set_ne (by omega)]; exact h.f0, by rw [List.getElem?_set_ne (by omega)]; exact h.f1, fun b o hb ho => by rw [List.getElem?_set_ne (fun e => hb e.symm)]; exact h.fr b o hb ho, by simpa using h.len, h.k0, h.k1, h.k2, h.k3⟩
theorem CmpSt.app {H K L rb lv ts a b0 b1 n} (h : CmpSt H K L rb lv ts a b0 b1 n) (X : AHeap) : CmpSt H K (L ++ X) rb lv ts a b0 b1 n :=
  ⟨h.rd.app X, get_more h.f0, get_more h.f1, fun b o hb ho => get_more (h.fr b o hb ho), by have := h.len; simp; omega, h.k0, h.k1, h.k2, h.k3⟩
theorem CmpSt.sto {H K L rb lv ts a b0 b1 n} (h : CmpSt H K L rb lv ts a b0 b1 n) (n' : List Value) : CmpSt H K (L.set b1 (.cells n' 76)) rb lv ts a b0 b1 n' := by
  have h1 := h.k0; have h2 := h.k1; have h3 := h.k2
  have hb1 := (List.getElem?_eq_some_iff.1 h.f1).1
  have hrd := h.rd
  refine ⟨⟨hrd.toks, hrd.pre.set (by have := hrd.pre; have := hrd.hb; omega), hrd.hb, by rw [List.getElem?_set_ne (by omega)]; exact hrd.cell, hrd.len, hrd.le⟩, by rw [List.getElem?_set_ne (Ne.symm h.k3)]; exact h.f0, by rw [List.getElem?_set_self hb1], fun b o hb ho => ?_, by simpa using h.len, h.k0, h.k1, h.k2, h.k3⟩
  have hbk := (List.getElem?_eq_some_iff.1 ho).1
  rw [List.getElem?_set_ne (by omega)]
  exact h.fr b o hb ho
theorem CmpSt.fin {H K L rb lv ts a b0 b1 n} (h : CmpSt H K L rb lv ts a b0 b1 n) (n' : List Value) : RdA H (L.set b0 (.cells n' 76)) rb lv ts a true ∧ (∀ (b : Nat) o, b ≠ rb → K[b]? = some o → (L.set b0 (.cells n' 76))[b]? = some o) ∧ K.length ≤ (L.set b0 (.cells n' 76)).length := by
  have h1 := h.k0; have h2 := h.k1; have h3 := h.k2
  have hrd := h.rd
  refine ⟨⟨hrd.toks, hrd.pre.set (by have := hrd.hb; omega), hrd.hb, by rw [List.getElem?_set_ne (by omega)]; exact hrd.cell, hrd.len, hrd.le⟩, fun b o hb ho => ?_, by simpa using h.len⟩
  have hbk := (List.getElem?_eq_some_iff.1 ho).1
  rw [List.getElem?_set_ne (by omega)]
  exact h.fr b o hb ho
theorem CmpSt.hl {H K L rb lv ts a b0 b1 n} (h : CmpSt H K L rb lv ts a b0 b1 n) : hlen L b1 = some n.length := by unfold hlen; rw [h.f1]; rfl
theorem CmpSt.hc {H K L rb lv ts a b0 b1 n} (h : CmpSt H K L rb lv ts a b0 b1 n) : hcells L b1 = some n := by rw [hcells_eq, h.f1]; rfl
theorem arr_strs {H : AHeap} (l : List (List UInt8)) (T : TypeId) (n : Nat) (hn : n = l.length) : Arr (H ++ [AObj.cells (l.map str) T]) 1 (.slice (some ⟨H.length, 0, some n⟩) n n) (strCells l) := by
  subst hn
  refine .mk H.length 0 _ _ _ (l.map str) _ (by simp [strCells]) (by simp [hcells_eq, AObj.rcells]) (by simp) (by simp) fun i e hi => ?_
  simp [strCells] at hi
  obtain ⟨b, hb, rfl⟩ := hi
  rw [Nat.zero_add, Nat.mul_one, ← List.map_drop, ← List.map_take]
  have : (l.drop i).take 1 = [b] := by
    have hlt := (List.getElem?_eq_some_iff.1 hb).1
    rw [List.drop_eq_getElem_cons hlt, (List.getElem?_eq_some_iff.1 hb).2]; rfl
  rw [this]; rfl
theorem c_comparison {H K rb lv ts a i w j x} (h : RdA H K rb lv ts a true) (hc : CmpAt ts a i w j x) :
    ∃ K', ACalls Tryz.prog 55 [(Value.pointer (some ⟨rb, 0, some 3⟩))] K (.agg ((cmpNod i w j x).cells (.slice none 0 0)).toArray) K' ∧ RdA H K' rb lv ts (a + 10) true ∧ (∀ (b : Nat) o, b ≠ rb → K[b]? = some o → K'[b]? = some o) ∧ K.length ≤ K'.length := by
  have key : ∃ v K', (v = .agg ((cmpNod i w j x).cells (.slice none 0 0)).toArray ∧ RdA H K' rb lv ts (a + 10) true ∧ (∀ (b : Nat) o, b ≠ rb → K[b]? = some o → K'[b]? = some o) ∧ K.length ≤ K'.length) ∧ ACalls Tryz.prog 55 [(Value.pointer (some ⟨rb, 0, some 3⟩))] K v K' := by
    refine acalls_ex MixT Tryz.func55 (by decide) ?_
    rw [d55]
    simp
    refine bndC_of (c_aggregates _) ?_
    obtain ⟨t, ht1, ht2, ht3⟩ := hc.t0
    have h2 := (h.app [AObj.cells nodZ 76]).app [AObj.cells (aggs.map str) 9]
    have hone := c_one_y h2 (arr_strs aggs 9 6 rfl) (by decide) (by decide) ht1 ht3
    rw [ht2] at hone
    refine bndC_of hone ?_
    obtain ⟨t9, u1, u2, u3, u4⟩ := hc.t9
    obtain ⟨t8, w1, w2, w3⟩ := hc.t8
    obtain ⟨t5, z1, z2, z3, z4, z5, z6, z7, z8⟩ := hc.t5
    have hlt9 := (List.getElem?_eq_some_iff.1 u1).1
    have hrb := h.lt
    have hil : i < 6 := (List.getElem?_eq_some_iff.1 ht3).1
    have hjl : j < 6 := (List.getElem?_eq_some_iff.1 w3).1
    have hL := (h2.app [AObj.map (nmapK 0 aggs)]).put (a + 1) true (by omega)
    have hz : (List.set (K ++ [AObj.cells nodZ 76] ++ [AObj.cells (List.map str aggs) 9] ++ [AObj.map (nmapK 0 aggs)]) rb (rdo lv (a + 1) true))[K.length]? = some (.cells nodZ 76) := by
      rw [List.getElem?_set_ne (by omega)]; simp
    have hfr : ∀ (b : Nat) o, b ≠ rb → K[b]? = some o → (List.set (K ++ [AObj.cells nodZ 76] ++ [AObj.cells (List.map str aggs) 9] ++ [AObj.map (nmapK 0 aggs)]) rb (rdo lv (a + 1) true))[b]? = some o := fun b o hb ho => by
      rw [List.getElem?_set_ne (fun e => hb e.symm)]; exact get_more (get_more (get_more ho))
    have hll : (List.set (K ++ [AObj.cells nodZ 76] ++ [AObj.cells (List.map str aggs) 9] ++ [AObj.map (nmapK 0 aggs)]) rb (rdo lv (a + 1) true)).length = K.length + 3 := by simp
    generalize (List.set (K ++ [AObj.cells nodZ 76] ++ [AObj.cells (List.map str aggs) 9] ++ [AObj.map (nmapK 0 aggs)]) rb (rdo lv (a + 1) true)) = L6 at hL hz hfr hll ⊢
    have st : CmpSt H K (L6 ++ [AObj.cells [.int .u8 0, .int .u8 i, .slice none 0 0, i64 0, .int .u8 0, i64 0, i64 0, i64 0] 76]) rb lv ts (a + 1) K.length L6.length [.int .u8 0, .int .u8 i, .slice none 0 0, i64 0, .int .u8 0, i64 0, i64 0, i64 0] :=
      ⟨hL.app _, get_more hz, by simp, fun b o hb ho => get_more (hfr b o hb ho), by simp; omega, hrb, Nat.le_refl _, by omega, by omega⟩
    simp
    generalize L6 ++ [AObj.cells [.int .u8 0, .int .u8 i, .slice none 0 0, i64 0, .int .u8 0, i64 0, i64 0, i64 0] 76] = L7 at st ⊢
    refine bndC_of (c_sign_y st.rd hc.s1) ?_
    have st8 := st.rds (a + 2) (by omega)
    generalize L7.set rb (rdo lv (a + 1 + 1) true) = L8 at st8 ⊢
    refine bndC_of (c_selects0 st8.rd hc.s2 hc.s3) ?_
    have st9 := st8.rds (a + 4) (by omega)
    generalize L8.set rb (rdo lv (a + 2 + 2) true) = L9 at st9 ⊢
    have e1 := st9.hl
    have e2 := st9.f1
    simp [e1, e2]
    have sta := st9.sto [.int .u8 0, .int .u8 i, .slice none 0 0, i64 0, .int .u8 0, i64 0, i64 0, i64 0]
    generalize L9.set L6.length (AObj.cells [.int .u8 0, .int .u8 i, .slice none 0 0, i64 0, .int .u8 0, i64 0, i64 0, i64 0] 76) = La at sta ⊢
    refine bndC_of (c_sign_y sta.rd hc.s4) ?_
    have stb := sta.rds (a + 5) (by omega)
    generalize La.set rb (rdo lv (a + 4 + 1) true) = Lb at stb ⊢
    have hwin := c_window_y stb.rd z1 z2 z3 z4 z5 (by omega) (by omega)
    rw [z6] at hwin
    refine bndC_of hwin ?_
    have stc := stb.rds (a + 6) (by omega)
    generalize Lb.set rb (rdo lv (a + 5 + 1) true) = Lc at stc ⊢
    have e1 := stc.hl
    have e2 := stc.f1
    simp [e1, e2]
    have std := stc.sto [.int .u8 0, .int .u8 i, .slice none 0 0, i64 w, .int .u8 0, i64 0, i64 0, i64 0]
    generalize Lc.set L6.length (AObj.cells [.int .u8 0, .int .u8 i, .slice none 0 0, i64 w, .int .u8 0, i64 0, i64 0, i64 0] 76) = Ld at std ⊢
    refine bndC_of (c_sign_y std.rd hc.s6) ?_
    have ste := std.rds (a + 7) (by omega)
    generalize Ld.set rb (rdo lv (a + 6 + 1) true) = Le at ste ⊢
    refine bndC_of (c_sign_y ste.rd hc.s7) ?_
    have stf := ste.rds (a + 8) (by omega)
    generalize Le.set rb (rdo lv (a + 7 + 1) true) = Lf at stf ⊢
    refine bndC_of (c_compares _) ?_
    have hone2 := c_one_y (stf.app [AObj.cells (cmps.map str) 9]).rd (arr_strs cmps 9 6 rfl) (by decide) (by decide) w1 w3
    rw [w2] at hone2
    refine bndC_of hone2 ?_
    have stg := ((stf.app [AObj.cells (cmps.map str) 9]).app [AObj.map (nmapK 0 cmps)]).rds (a + 9) (by omega)
    generalize (Lf ++ [AObj.cells (cmps.map str) 9] ++ [AObj.map (nmapK 0 cmps)]).set rb (rdo lv (a + 8 + 1) true) = Lg at stg ⊢
    have e1 := stg.hl
    have e2 := stg.f1
    simp [e1, e2]
    have sth := stg.sto [.int .u8 0, .int .u8 i, .slice none 0 0, i64 w, .int .u8 j, i64 0, i64 0, i64 0]
    generalize Lg.set L6.length (AObj.cells [.int .u8 0, .int .u8 i, .slice none 0 0, i64 w, .int .u8 j, i64 0, i64 0, i64 0] 76) = Lh at sth ⊢
    have hval := c_value_y sth.rd hc.n9 u1 u2 u3 (by rw [u4])
    rw [u4] at hval
    refine bndC_of hval ?_
    have sti := sth.rds (a + 10) (by omega)
    generalize Lh.set rb (rdo lv (a + 9 + 1) true) = Li at sti ⊢
    have e1 := sti.hl
    have e2 := sti.f1
    simp [e1, e2]
    have stj := sti.sto [.int .u8 0, .int .u8 i, .slice none 0 0, i64 w, .int .u8 j, i64 x, i64 0, i64 0]
    generalize Li.set L6.length (AObj.cells [.int .u8 0, .int .u8 i, .slice none 0 0, i64 w, .int .u8 j, i64 x, i64 0, i64 0] 76) = Lj at stj ⊢
    have e1 := stj.hc
    have e2 := stj.f0
    obtain ⟨q1, q2, q3⟩ := stj.fin [.int .u8 0, .int .u8 i, .slice none 0 0, i64 w, .int .u8 j, i64 x, i64 0, i64 0]
    have hself : hcells (Lj.set K.length (AObj.cells [.int .u8 0, .int .u8 i, .slice none 0 0, i64 w, .int .u8 j, i64 x, i64 0, i64 0] 76)) K.length = some [.int .u8 0, .int .u8 i, .slice none 0 0, i64 w, .int .u8 j, i64 x, i64 0, i64 0] := by
      rw [hcells_eq, List.getElem?_set_self (List.getElem?_eq_some_iff.1 stj.f0).1]; rfl
    simp [e1, e2, nodZ, hself, Nod.cells, cmpNod]
    exact ⟨⟨by omega, by omega⟩, q1, q2, by simpa using q3⟩
  obtain ⟨v, K', ⟨rfl, h⟩, hy⟩ := key
  exact ⟨K', hy, h⟩
end Go.Vi
namespace Go.Vi
open Go.RowKit
variable {P : Program}

def keepP (P : Program) (ops : Array Oper) (mask : Nat) (H : AHeap) : List (Nat × Oper × List Value × Value) → Prop
  | [] => True
  | (j, o, sl, v) :: r => if mask.testBit j = true then keepP P ops mask H r else gval P ops sl H o = some v ∧ keepP P ops mask H r
theorem keepP_get {ops mask H} : ∀ {ps : List (Nat × Oper × List Value × Value)}, keepP P ops mask H ps → ∀ {j o sl v}, (j, o, sl, v) ∈ ps → mask.testBit j = false → gval P ops sl H o = some v := by
  intro ps
  induction ps with
  | nil => intro _ j o sl v hm; cases hm
  | cons e r ih =>
    obtain ⟨j0, o0, sl0, v0⟩ := e
    intro h j o sl v hm hb
    unfold keepP at h
    rcases List.mem_cons.1 hm with he | hm
    · cases he
      rw [if_neg (by simp [hb])] at h
      exact h.1
    · split at h
      · exact ih h hm hb
      · exact ih h.2 hm hb
def kdrawK (P : Program) (ops : Array Oper) (k : List Value → AHeap → Prop) : List Oper → List DRow → Nat → List (Nat × Oper × List Value × Value) → List Value → AHeap → List AHeap → Prop
  | o :: os, r :: rs, p, ps, sl, H, hs =>
    if r.eff = true then ∃ v H', geff P ops sl H o v H' ∧ (r.bar = true ∨ (∃ X, H' = H ++ X) ∨ r.late = true ∧ keepP P ops r.mask H' ps) ∧ kdrawK P ops k os rs (p + 1) ps (aput sl o.dst v) H' (H :: hs)
    else match (H :: hs)[r.back]? with
      | some K => if freeOp o.op = true then ∃ v, gval P ops sl K o = some v ∧ kdrawK P ops k os rs (p + 1) ps (aput sl o.dst v) H hs
        else if pureOp P o.op = true then ∃ v, gval P ops sl K o = some v ∧ kdrawK P ops k os rs (p + 1) ((p, o, sl, v) :: ps) (aput sl o.dst v) H hs
        else False
      | none => False
  | [], _, _, _, sl, H, _ => k sl H
  | _, [], _, _, _, _, _ => False
theorem free_pure {o : Oper} (h : freeOp o.op = true) : pureOp P o.op = true := by
  unfold freeOp at h
  split at h <;> first | (rename_i e; rw [e]; rfl) | cases h
theorem kdrawK_trace {ops} {k : List Value → AHeap → Prop} : ∀ (os : List Oper) (rs : List DRow) (p0 : Nat) (ps : List (Nat × Oper × List Value × Value)) (sl : List Value) (H : AHeap) (hs : List AHeap) (f0 : Nat → List Value) (g0 : Nat → Value),
    kdrawK P ops k os rs p0 ps sl H hs →
    (∀ (j : Nat) (o : Oper), j < p0 → ops[j]? = some o → ¬ deff P ops j = true → ¬ freeOp o.op = true → (j, o, f0 j, g0 j) ∈ ps) →
    (∀ i, os[i]? = ops[p0 + i]?) → (∀ (i : Nat) (r : DRow), rs[i]? = some r → r.eff = true → deff P ops (p0 + i) = true) →
    ∃ (f : Nat → List Value) (g : Nat → Value) (G : Nat → AHeap) (c : Nat → Nat), (∀ j, j < p0 → f j = f0 j ∧ g j = g0 j) ∧ f p0 = sl ∧ c p0 = hs.length ∧ (∀ i X, (H :: hs)[i]? = some X → G (hs.length - i) = X) ∧
      k (f (p0 + os.length)) (G (c (p0 + os.length))) ∧ ∀ p o r, os[p]? = some o → rs[p]? = some r → RStepK P ops f g G c (p0 + p) o r := by
  intro os
  induction os with
  | nil =>
    intro rs p0 ps sl H hs f0 g0 h _ _ _
    simp only [kdrawK] at h
    have hk : ∀ i X, (H :: hs)[i]? = some X → (fun i => ((H :: hs)[hs.length - i]?).getD []) (hs.length - i) = X := by
      intro i X hX
      have := (List.getElem?_eq_some_iff.1 hX).1
      simp only [List.length_cons] at this
      have e : hs.length - (hs.length - i) = i := by omega
      show ((H :: hs)[hs.length - (hs.length - i)]?).getD [] = X
      rw [e, hX]; rfl
    refine ⟨fun j => if j < p0 then f0 j else sl, g0, fun i => ((H :: hs)[hs.length - i]?).getD [], fun _ => hs.length, fun j hj => ⟨by simp [hj], rfl⟩, by simp, rfl, hk, by simpa using h, by simp⟩
  | cons o os ih =>
    intro rs p0 ps sl H hs f0 g0 h hps hos hrs
    cases rs with
    | nil => simp [kdrawK] at h
    | cons r rs =>
      have ho0 : ops[p0]? = some o := by have := hos 0; simpa using this.symm
      have hos' : ∀ i, os[i]? = ops[p0 + 1 + i]? := fun i => by have := hos (i + 1); simp only [List.getElem?_cons_succ] at this; rw [this]; congr 1; omega
      have hrs' : ∀ (i : Nat) (r : DRow), rs[i]? = some r → r.eff = true → deff P ops (p0 + 1 + i) = true := fun i r hr he => by
        have := hrs (i + 1) r (by simpa using hr) he
        rwa [show p0 + (i + 1) = p0 + 1 + i by omega] at this
      simp only [kdrawK] at h
      split at h
      · rename_i he
        obtain ⟨v, H2, hg, hb, h⟩ := h
        obtain ⟨f, g, G, c, hfg, fp, cp, hG, fe, st⟩ := ih rs (p0 + 1) ps _ _ _ (fun j => if j < p0 then f0 j else sl) (fun j => if j < p0 then g0 j else v) h
          (fun j oj hj hoj hd hf => by
            have hne : j ≠ p0 := fun e => hd (by rw [e]; exact hrs 0 r rfl he)
            have hlt : j < p0 := by omega
            simp only [if_pos hlt]; exact hps j oj hlt hoj hd hf) hos' hrs'
        have hGH : G hs.length = H := by have := hG 1 H rfl; simpa using this
        have hGH2 : G (hs.length + 1) = H2 := by have := hG 0 H2 rfl; simpa using this
        have hf0 : f p0 = sl := by rw [(hfg p0 (by omega)).1]; simp
        have hg0 : g p0 = v := by rw [(hfg p0 (by omega)).2]; simp
        refine ⟨f, g, G, fun p => if p = p0 then hs.length else c p, fun j hj => ?_, hf0, by simp, fun i X hX => ?_, ?_, fun p o' r' ho hr => ?_⟩
        · have := hfg j (by omega); simpa [hj] using this
        · have := hG (i + 1) X (by simpa using hX)
          simpa using this
        · have e1 : ¬ p0 + (os.length + 1) = p0 := by omega
          simp only [List.length_cons, e1, if_false]
          rw [show p0 + (os.length + 1) = p0 + 1 + os.length by omega]; exact fe
        · cases p with
          | zero =>
            simp at ho hr; subst ho hr
            have e1 : ¬ p0 + 1 = p0 := by omega
            show RStepK P ops f g G _ p0 o r
            refine ⟨by rw [fp, hf0, hg0], fun _ => ⟨by simp [cp], ?_, ?_⟩, fun q => by rw [he] at q; cases q⟩
            · simp only [eq_self, if_true]; rw [hGH, hGH2, hf0, hg0]; exact geff_step hg
            · simp only [eq_self, if_true]; rw [hGH, hGH2]
              refine hb.imp id (Or.imp id fun q => ⟨q.1, fun j o' hj hoj hd hf hm => ?_⟩)
              have hin := hps j o' hj hoj hd hf
              have h1 := hfg j (by omega)
              simp only [if_pos hj] at h1
              rw [h1.1, h1.2]
              have hpure : pureOp P o'.op = true := by
                unfold deff at hd
                simpa [hoj] using hd
              exact gval_step hpure (keepP_get q.2 hin hm)
          | succ p =>
            have k := st p o' r' (by simpa using ho) (by simpa using hr)
            have e0 : p0 + 1 + p = p0 + (p + 1) := by omega
            rw [e0] at k
            have e1 : ¬ p0 + (p + 1) = p0 := by omega
            have e2 : ¬ p0 + (p + 1) + 1 = p0 := by omega
            exact ⟨k.put, fun q => by simp only [e1, e2, if_false]; exact k.eff q, fun q => by simp only [e1, e2, if_false]; exact k.pur q⟩
      · rename_i he
        obtain ⟨K, hk, hp, v, ps', hg, hps', h⟩ : ∃ K, (H :: hs)[r.back]? = some K ∧ pureOp P o.op = true ∧ ∃ v ps', gval P ops sl K o = some v ∧ (freeOp o.op = true ∧ ps' = ps ∨ ps' = (p0, o, sl, v) :: ps) ∧ kdrawK P ops k os rs (p0 + 1) ps' (aput sl o.dst v) H hs := by
          split at h
          · rename_i K hK
            split at h
            · rename_i hp
              obtain ⟨v, hv, h⟩ := h
              exact ⟨K, hK, free_pure hp, v, ps, hv, .inl ⟨hp, rfl⟩, h⟩
            · split at h
              · rename_i hp; obtain ⟨v, hv, h⟩ := h; exact ⟨K, hK, hp, v, _, hv, .inr rfl, h⟩
              · cases h
          · cases h
        obtain ⟨f, g, G, c, hfg, fp, cp, hG, fe, st⟩ := ih rs (p0 + 1) ps' _ _ _ (fun j => if j < p0 then f0 j else sl) (fun j => if j < p0 then g0 j else v) h
          (fun j oj hj hoj hd hf => by
            by_cases hlt : j < p0
            · simp only [if_pos hlt]
              have := hps j oj hlt hoj hd hf
              rcases hps' with ⟨_, e⟩ | e
              · rw [e]; exact this
              · rw [e]; exact List.mem_cons_of_mem _ this
            · have hje : j = p0 := by omega
              subst hje
              rw [ho0] at hoj; cases hoj
              simp only [Nat.lt_irrefl, if_false]
              rcases hps' with ⟨q, _⟩ | e
              · exact absurd q hf
              · rw [e]; exact List.mem_cons_self ..) hos' hrs'
        have hf0 : f p0 = sl := by rw [(hfg p0 (by omega)).1]; simp
        have hg0 : g p0 = v := by rw [(hfg p0 (by omega)).2]; simp
        refine ⟨f, g, G, fun p => if p = p0 then hs.length else c p, fun j hj => ?_, hf0, by simp, hG, ?_, fun p o' r' ho hr => ?_⟩
        · have := hfg j (by omega); simpa [hj] using this
        · have e1 : ¬ p0 + (os.length + 1) = p0 := by omega
          simp only [List.length_cons, e1, if_false]
          rw [show p0 + (os.length + 1) = p0 + 1 + os.length by omega]; exact fe
        cases p with
        | zero =>
          simp at ho hr; subst ho hr
          have e1 : ¬ p0 + 1 = p0 := by omega
          have hbk := (List.getElem?_eq_some_iff.1 hk).1
          simp only [List.length_cons] at hbk
          show RStepK P ops f g G _ p0 o r
          refine ⟨by rw [fp, hf0, hg0], fun q => absurd q he, fun _ => ⟨by simp [cp], ?_, ?_⟩⟩
          · simp only [eq_self, if_true]; omega
          · simp only [eq_self, if_true]; rw [hG _ _ hk, hf0, hg0]; exact gval_step hp hg
        | succ p =>
          have k := st p o' r' (by simpa using ho) (by simpa using hr)
          have e0 : p0 + 1 + p = p0 + (p + 1) := by omega
          rw [e0] at k
          have e1 : ¬ p0 + (p + 1) = p0 := by omega
          have e2 : ¬ p0 + (p + 1) + 1 = p0 := by omega
          exact ⟨k.put, fun q => by simp only [e1, e2, if_false]; exact k.eff q, fun q => by simp only [e1, e2, if_false]; exact k.pur q⟩

theorem kdrawK_any [Ctx] {w0 s H w sl a ops rs k Q} (hw : WRel w0 s H w) (ha : ARel s H sl a) (hr : drows P ops = some rs) (h : kdrawK P ops k ops.toList rs 0 [] sl H [])
    (hq : ∀ sl' H', k sl' H' → APost w0 s H Q .normal (sl', H')) : wpAnyIn FF 0 P .any ops Q ops.size (Array.replicate ops.size false) a { w with drawn := w.drawn + 1 } := by
  obtain ⟨T, hok, rfl⟩ := drows_inv hr
  clear hr
  have hs : Sound P ops T := ⟨hok⟩
  have row : ∀ p, p < ops.size → ((List.range ops.size).map (T.row P ops))[p]? = some (T.row P ops p) := by
    intro p hp; simp [hp]
  obtain ⟨f, g, G, c, _, f0, c0, hG, fe, st⟩ := kdrawK_trace _ _ 0 [] _ _ _ (fun _ => sl) (fun _ => undef) h (fun j _ hj => absurd hj (by omega)) (fun i => by simp) (fun i r hr he => by
    have hi : i < ops.size := by have := (List.getElem?_eq_some_iff.1 hr).1; simpa using this
    rw [row i hi] at hr
    cases hr
    rw [Nat.zero_add]
    cases hd : deff P ops i with
    | true => rfl
    | false => simp [DTab.row, hd] at he)
  simp only [Nat.zero_add] at fe st
  have hc : ∀ p, p ≤ ops.size → c p = T.idx.getD p 0 := by
    intro p
    induction p with
    | zero => intro _; rw [c0, hs.ends.1]; rfl
    | succ p ih =>
      intro hp
      have ho : ops[p]? = some ops[p] := Array.getElem?_eq_getElem (by omega)
      have k := st p ops[p] _ (by simp) (row p (by omega))
      by_cases he : deff P ops p = true
      · have := (k.eff (by simp [DTab.row, he])).1
        rw [this, ih (by omega), (hs.effAt ho he).2.1]
      · have := (k.pur (by simp [DTab.row, he])).1
        rw [this, ih (by omega), (hs.pureAt ho he).1]
  have hd : RRun P ops T f g G := by
    refine ⟨hs, fun p o ho => ?_⟩
    have hp := (Array.getElem?_eq_some_iff.1 ho).1
    have k := st p o _ (by simpa using ho) (row p hp)
    refine ⟨k.put, fun q => ?_, fun q => ?_⟩
    · have := k.eff q
      rw [hc p (by omega), hc (p + 1) (by omega)] at this
      exact this
    · have := k.pur q
      rw [hc p (by omega), hc (p + 1) (by omega)] at this
      exact this
  have g0 : G 0 = H := by simpa using hG 0 H rfl
  have he : c ops.toList.length = T.effs.length := by simp only [Array.length_toList]; rw [hc ops.size (Nat.le_refl _), hs.ends.2.1]
  rw [he] at fe
  simp only [Array.length_toList] at fe
  refine hd.wp (H0 := H) (s0 := s) ops.size (l := Array.replicate ops.size false) (sl := f 0) (k := 0) ?_ (by simp) (by rw [g0]; exact hw.drew) (by rw [g0, f0]; exact ha) (by rw [g0]; exact Ext.refl _ _) (fun s' a' w' g1 g2 g3 => hq _ _ fe s' a' w' g1 g2 g3)
  have nol : ∀ i, ¬ isListed (Array.replicate ops.size false) i := by
    intro i
    unfold isListed
    simp [Array.getD]
  exact ⟨by simp, fun j o _ h => absurd h (nol j), rfl, fun t _ => rfl, fun i o t _ h => absurd h (nol i), fun i q _ => ⟨fun h => absurd h (nol q), fun h => by omega⟩, by omega⟩
def drawKeep (P : Program) : DrawK := fun ops k sl H => match drows P ops with
  | some rs => kdrawK P ops k ops.toList rs 0 [] sl H []
  | none => False
theorem drawKeep_sound [Ctx] (hm : P.follows .mixedOrders = true) : SoundK P (drawKeep P) := by
  intro w0 s H w sl a id ops k Q hw ha h hq
  unfold drawKeep at h
  split at h
  · rename_i rs hr; exact wpIn_region_any hm (kdrawK_any hw ha hr h hq)
  · cases h
theorem kdrawK_mono {ops} {k k' : List Value → AHeap → Prop} (hk : ∀ sl H, k sl H → k' sl H) : ∀ (os : List Oper) (rs : List DRow) {p ps sl H hs}, kdrawK P ops k os rs p ps sl H hs → kdrawK P ops k' os rs p ps sl H hs := by
  intro os
  induction os with
  | nil => intro rs p ps sl H hs h; simp only [kdrawK] at h ⊢; exact hk _ _ h
  | cons o os ih =>
    intro rs p ps sl H hs h
    cases rs with
    | nil => simp [kdrawK] at h
    | cons r rs =>
      simp only [kdrawK] at h ⊢
      split at h
      · rename_i he
        obtain ⟨v, H2, hg, hb, h⟩ := h
        rw [if_pos he]; exact ⟨v, H2, hg, hb, ih rs h⟩
      · rename_i he
        rw [if_neg he]
        split at h
        · rename_i K hK
          split at h
          · rename_i hp
            obtain ⟨v, hv, h⟩ := h
            rw [if_pos hp]; exact ⟨v, hv, ih rs h⟩
          · rename_i hp
            rw [if_neg hp]
            split at h
            · rename_i hq
              obtain ⟨v, hv, h⟩ := h
              rw [if_pos hq]; exact ⟨v, hv, ih rs h⟩
            · cases h
        · cases h
theorem kdrawK_one {ops} {k : List Value → AHeap → Prop} : ∀ (os : List Oper) (rs : List DRow) {p ps sl H hs}, kdrawK P ops k os rs p ps sl H hs → ∃ sl' H', k sl' H' ∧ kdrawK P ops (fun s2 h2 => s2 = sl' ∧ h2 = H') os rs p ps sl H hs := by
  intro os
  induction os with
  | nil => intro rs p ps sl H hs h; simp only [kdrawK] at h; exact ⟨sl, H, h, by simp only [kdrawK]; trivial⟩
  | cons o os ih =>
    intro rs p ps sl H hs h
    cases rs with
    | nil => simp [kdrawK] at h
    | cons r rs =>
      simp only [kdrawK] at h
      split at h
      · rename_i he
        obtain ⟨v, H2, hg, hb, h⟩ := h
        obtain ⟨a, b, h1, h2⟩ := ih rs h
        refine ⟨a, b, h1, ?_⟩
        simp only [kdrawK, if_pos he]; exact ⟨v, H2, hg, hb, h2⟩
      · rename_i he
        split at h
        · rename_i K hK
          split at h
          · rename_i hp
            obtain ⟨v, hv, h⟩ := h
            obtain ⟨a, b, h1, h2⟩ := ih rs h
            refine ⟨a, b, h1, ?_⟩
            simp only [kdrawK, if_neg he, hK, if_pos hp]; exact ⟨v, hv, h2⟩
          · rename_i hp
            split at h
            · rename_i hq
              obtain ⟨v, hv, h⟩ := h
              obtain ⟨a, b, h1, h2⟩ := ih rs h
              refine ⟨a, b, h1, ?_⟩
              simp only [kdrawK, if_neg he, hK, if_neg hp, if_pos hq]; exact ⟨v, hv, h2⟩
            · cases h
        · cases h
class QK where
  f : Value → AHeap → Prop
/-- A drawn step that leaves what earlier operations saw. -/
def bndK (b l : Bool) (H : AHeap) [e : QH] [s : QK] [q : QH] : Prop := ∃ v H', e.f v H' ∧ (b = true ∨ (∃ X, H' = H ++ X) ∨ l = true ∧ s.f v H') ∧ q.f v H'
theorem bndK_of {b : Bool} {H : AHeap} {e q : QH} {s : QK} {v : Value} {H' : AHeap} (h : e.f v H') (hs : s.f v H') (k : q.f v H') : @bndK b true H e s q := ⟨v, H', h, .inr (.inr ⟨rfl, hs⟩), k⟩
theorem bndK_ext {b l : Bool} {H : AHeap} {e q : QH} {s : QK} {v : Value} {H' : AHeap} (h : e.f v H') (hs : ∃ X, H' = H ++ X) (k : q.f v H') : @bndK b l H e s q := ⟨v, H', h, .inr (.inl hs), k⟩
theorem bndK_bar {l : Bool} {H : AHeap} {e q : QH} {s : QK} {v : Value} {H' : AHeap} (h : e.f v H') (k : q.f v H') : @bndK true l H e s q := ⟨v, H', h, .inl rfl, k⟩
end Go.Vi
namespace Go.Vi
open Go Go.Proofs
-- (*tocsin/expr.reader).condition$1
def S52x0 (k : Value → AHeap → Prop) (sl : List Value) (H : AHeap) : Prop := kseqG Tryz.prog (drawKeep Tryz.prog) (cr (cr (cr (cb Tryz.f52)))) (kfinG Tryz.prog Tryz.f52 k) .normal sl H []
def L52x0 (n : Nat) (k : Value → AHeap → Prop) (sl : List Value) (H : AHeap) : Prop := kitG Tryz.prog (drawKeep Tryz.prog) (cl (cl (cr (cr (cr (cr (cb Tryz.f52))))))) n (kblkG 1 (kfinG Tryz.prog Tryz.f52 k)) .normal sl H []
theorem d52 (a0 a1 a2 a3 : Value) (H : AHeap) (k : Value → AHeap → Prop) : kbodyG Tryz.prog (drawKeep Tryz.prog) Tryz.f52 [a0, a1, a2, a3] H k = (@bnd (aBin2 Tryz.prog H BinOp.eql 3 (Operand.tmp 8) (Operand.const (Value.int
  IntKind.i64 2)) a0 (Value.int IntKind.i64 2)) ⟨fun v9x1 => @kifB v9x1 ⟨@bnd (aLoad Tryz.prog H 66 a1) ⟨fun v16x2 => @bndC Tryz.prog 53 [v16x2, (Value.int IntKind.u8 1), (Value.string { data := #[110, 111, 116] })] H ⟨fun v17x3
  H4 => @kifB v17x3 ⟨@bnd (aLoad Tryz.prog H4 102 a2) ⟨fun v18x5 => @bndV Tryz.prog v18x5 [(Value.int IntKind.i64 2)] H4 ⟨fun _ H7 => @bnd (aLoad Tryz.prog H7 35 a3) ⟨fun v20x8 => @bnd (aLoad Tryz.prog H7 35 a3) ⟨fun v21x9 =>
  @bnd (aLen Tryz.prog H7 35 v21x9) ⟨fun v22x10 => @bnd (aBin2 Tryz.prog H7 BinOp.sub 3 (Operand.tmp 22) (Operand.const (Value.int IntKind.i64 1)) v22x10 (Value.int IntKind.i64 1)) ⟨fun v23x11 => @bnd (buildV Tryz.prog 76 [(0,
  (Value.int IntKind.u8 3)), (6, v23x11)]) ⟨fun v24x12 => @bndL Tryz.prog H7 35 1 [(0, v24x12)] ⟨fun v25x13 H14 => @bndE (aBuiltin Tryz.prog H14 Builtin.append #[35, 35] [v20x8, v25x13]) ⟨fun v26x15 H16 => @bndS (aStore Tryz.prog
  H16 35 a3 v26x15) ⟨fun _ H18 => k (.tuple #[]) H18⟩⟩⟩⟩⟩⟩⟩⟩⟩⟩⟩ ⟨@bnd (aLoad Tryz.prog H4 66 a1) ⟨fun v28x19 => @bndC Tryz.prog 53 [v28x19, (Value.int IntKind.u8 4), (Value.string { data := #[40] })] H4 ⟨fun v29x20 H21 => @kifB
  v29x20 ⟨@bnd (aLoad Tryz.prog H21 102 a2) ⟨fun v30x22 => @bndV Tryz.prog v30x22 [(Value.int IntKind.i64 0)] H21 ⟨fun _ H24 => @bnd (aLoad Tryz.prog H24 66 a1) ⟨fun v32x25 => @bndC Tryz.prog 54 [v32x25, (Value.string { data :=
  #[41] })] H24 ⟨fun _ H27 => k (.tuple #[]) H27⟩⟩⟩⟩⟩ ⟨@bnd (aLoad Tryz.prog H21 35 a3) ⟨fun v10x28 => @bnd (aLoad Tryz.prog H21 66 a1) ⟨fun v11x29 => @bndK false true H21 ⟨fun v12x30 H31 => ACalls Tryz.prog 55 [v11x29] H21
  v12x30 H31⟩ ⟨fun _ H31 => aLoad Tryz.prog H31 35 a3 = some v10x28 ∧ True⟩ ⟨fun v12x30 H31 => @bndK false true H31 ⟨fun v13x32 H33 => sliceLit Tryz.prog H31 35 1 [(0, v12x30)] v13x32 H33⟩ ⟨fun _ H33 => aLoad Tryz.prog H33 35 a3
  = some v10x28 ∧ True⟩ ⟨fun v13x32 H33 => @bndK true true H33 ⟨fun v14x34 H35 => aBuiltin Tryz.prog H33 Builtin.append #[35, 35] [v10x28, v13x32] = some (v14x34, H35)⟩ ⟨fun _ _ => True⟩ ⟨fun v14x34 H35 => @bndK true true H35
  ⟨fun x36 H37 => x36 = undef ∧ aStore Tryz.prog H35 35 a3 v14x34 = some H37⟩ ⟨fun _ _ => True⟩ ⟨fun _ H37 => k (.tuple #[]) H37⟩⟩⟩⟩⟩⟩⟩⟩⟩⟩⟩⟩⟩ ⟨@bnd (aBin2 Tryz.prog H BinOp.eql 3 (Operand.tmp 34) (Operand.const (Value.int
  IntKind.i64 1)) a0 (Value.int IntKind.i64 1)) ⟨fun v35x38 => @kifB v35x38 ⟨S52x0  k [a0, a1, a2, a3, undef, (Value.string { data := #[97, 110, 100] }), (Value.int IntKind.u8 1), undef, a0, v9x1, undef, undef, undef, undef,
  undef, undef, undef, undef, undef, undef, undef, undef, undef, undef, undef, undef, undef, undef, undef, undef, undef, undef, undef, undef, a0, v35x38, undef, undef, undef, undef, undef, undef, undef, undef, undef, undef,
  undef, undef, undef, undef, undef, undef, undef, undef, undef, undef, undef, undef, undef] H⟩ ⟨S52x0  k [a0, a1, a2, a3, undef, (Value.string { data := #[111, 114] }), (Value.int IntKind.u8 2), undef, a0, v9x1, undef, undef,
  undef, undef, undef, undef, undef, undef, undef, undef, undef, undef, undef, undef, undef, undef, undef, undef, undef, undef, undef, undef, undef, undef, a0, v35x38, undef, undef, undef, undef, undef, undef, undef, undef,
  undef, undef, undef, undef, undef, undef, undef, undef, undef, undef, undef, undef, undef, undef, undef] H⟩⟩⟩⟩) := by kernel_rfl
theorem S52x0q (s0 s1 s2 s3 s4 s5 s6 s7 s8 s9 s10 s11 s12 s13 s14 s15 s16 s17 s18 s19 s20 s21 s22 s23 s24 s25 s26 s27 s28 s29 s30 s31 s32 s33 s34 s35 s36 s37 s38 s39 s40 s41 s42 s43 s44 s45 s46 s47 s48 s49 s50 s51 s52 s53 s54 s55
  s56 s57 s58 : Value) (H : AHeap) (k : Value → AHeap → Prop) : S52x0 k [s0, s1, s2, s3, s4, s5, s6, s7, s8, s9, s10, s11, s12, s13, s14, s15, s16, s17, s18, s19, s20, s21, s22, s23, s24, s25, s26, s27, s28, s29, s30, s31, s32,
  s33, s34, s35, s36, s37, s38, s39, s40, s41, s42, s43, s44, s45, s46, s47, s48, s49, s50, s51, s52, s53, s54, s55, s56, s57, s58] H = (@bnd (aLoad Tryz.prog H 102 s2) ⟨fun v36x39 => @bnd (aBin2 Tryz.prog H BinOp.add 3
  (Operand.tmp 37) (Operand.const (Value.int IntKind.i64 1)) s0 (Value.int IntKind.i64 1)) ⟨fun v38x40 => @bndV Tryz.prog v36x39 [v38x40] H ⟨fun v39x41 H42 => ∃ n, L52x0 n  k [s0, s1, s2, s3, s4, s5, s6, s7, s8, s9, s10, s11,
  s12, s13, s14, s15, s16, s17, s18, s19, s20, s21, s22, s23, s24, s25, s26, s27, s28, s29, s30, s31, s32, s33, s34, s35, v36x39, s0, v38x40, v39x41, s40, s41, s42, s43, s44, s45, s46, s47, s48, s49, s50, s51, s52, s53, s54, s55,
  s56, s57, s58] H42⟩⟩⟩) := by kernel_rfl
theorem L52x0q (n0 : Nat) (s0 s1 s2 s3 s4 s5 s6 s7 s8 s9 s10 s11 s12 s13 s14 s15 s16 s17 s18 s19 s20 s21 s22 s23 s24 s25 s26 s27 s28 s29 s30 s31 s32 s33 s34 s35 s36 s37 s38 s39 s40 s41 s42 s43 s44 s45 s46 s47 s48 s49 s50 s51 s52
  s53 s54 s55 s56 s57 s58 : Value) (H : AHeap) (k : Value → AHeap → Prop) : L52x0 (n0 + 1) k [s0, s1, s2, s3, s4, s5, s6, s7, s8, s9, s10, s11, s12, s13, s14, s15, s16, s17, s18, s19, s20, s21, s22, s23, s24, s25, s26, s27, s28,
  s29, s30, s31, s32, s33, s34, s35, s36, s37, s38, s39, s40, s41, s42, s43, s44, s45, s46, s47, s48, s49, s50, s51, s52, s53, s54, s55, s56, s57, s58] H = (@bnd (aLoad Tryz.prog H 66 s1) ⟨fun v40x43 => @bndC Tryz.prog 53
  [v40x43, (Value.int IntKind.u8 1), s5] H ⟨fun v42x44 H45 => @kifB v42x44 ⟨@bnd (aLoad Tryz.prog H45 35 s3) ⟨fun v43x46 => @bnd (aLen Tryz.prog H45 35 v43x46) ⟨fun v44x47 => @bnd (aBin2 Tryz.prog H45 BinOp.sub 3 (Operand.tmp 44)
  (Operand.const (Value.int IntKind.i64 1)) v44x47 (Value.int IntKind.i64 1)) ⟨fun v45x48 => @bnd (aLoad Tryz.prog H45 102 s2) ⟨fun v46x49 => @bnd (aBin2 Tryz.prog H45 BinOp.add 3 (Operand.tmp 47) (Operand.const (Value.int
  IntKind.i64 1)) s0 (Value.int IntKind.i64 1)) ⟨fun v48x50 => @bndV Tryz.prog v46x49 [v48x50] H45 ⟨fun v49x51 H52 => @bnd (aLoad Tryz.prog H52 35 s3) ⟨fun v50x53 => @bnd (aLoad Tryz.prog H52 35 s3) ⟨fun v53x54 => @bnd (aLen
  Tryz.prog H52 35 v53x54) ⟨fun v54x55 => @bnd (aBin2 Tryz.prog H52 BinOp.sub 3 (Operand.tmp 54) (Operand.const (Value.int IntKind.i64 1)) v54x55 (Value.int IntKind.i64 1)) ⟨fun v55x56 => @bnd (buildV Tryz.prog 76 [(0, s6), (6,
  v45x48), (7, v55x56)]) ⟨fun v56x57 => @bndL Tryz.prog H52 35 1 [(0, v56x57)] ⟨fun v57x58 H59 => @bndE (aBuiltin Tryz.prog H59 Builtin.append #[35, 35] [v50x53, v57x58]) ⟨fun v58x60 H61 => @bndS (aStore Tryz.prog H61 35 s3
  v58x60) ⟨fun _ H63 => L52x0 n0  k [s0, s1, s2, s3, s4, s5, s6, v45x48, s8, s9, s10, s11, s12, s13, s14, s15, s16, s17, s18, s19, s20, s21, s22, s23, s24, s25, s26, s27, s28, s29, s30, s31, s32, s33, s34, s35, s36, s37, s38,
  s39, v40x43, s5, v42x44, v43x46, v44x47, v45x48, v46x49, s0, v48x50, v49x51, v50x53, s6, v45x48, v53x54, v54x55, v55x56, v56x57, v57x58, v58x60] H63⟩⟩⟩⟩⟩⟩⟩⟩⟩⟩⟩⟩⟩⟩⟩ ⟨k (.tuple #[]) H45⟩⟩⟩) := by kernel_rfl

end Go.Vi
namespace Go.Vi
open Go Go.Proofs

theorem drawKeep_one {P : Program} : OneD (drawKeep P) := by
  constructor
  · intro ops k k' sl H hk h
    unfold drawKeep at h ⊢
    split at h
    · exact kdrawK_mono hk _ _ h
    · cases h
  · intro ops k sl H h
    unfold drawKeep at h ⊢
    split at h
    · exact kdrawK_one _ _ h
    · cases h
theorem acallsK_ex {P : Program} (hm : P.follows .mixedOrders = true) {f fn args H} {k : Value → AHeap → Prop} (hf : P.funcs[f]? = some fn) (hn : notNG fn = true) (hr : kbodyG P (drawKeep P) fn args H k) : ∃ v H', k v H' ∧ ACalls P f args H v H' := by
  obtain ⟨v, H', h1, h2⟩ := kbodyG_one drawKeep_one hr
  exact ⟨v, H', h1, acallsG_of (fun c => @drawKeep_sound P c hm) hf hn h2⟩
def cel8 (n : Nod) : List Value := n.cells (.slice none 0 0)
def wordOf (k : Nat) : List UInt8 := if k = 1 then [97, 110, 100] else [111, 114]
def notW : List UInt8 := [110, 111, 116]
def opNod (k : UInt8) (l r : Int) : Nod := ⟨k, 0, [], 0, 0, 0, l, r⟩
/-- What is read from a token on: `k` below 2 between operators, 2 beside one, 10 and 11 behind a part. -/
inductive Str (ts : List Tok) : Nat → Nat → Nat → List Nod → List Nod → Prop
  | cmp {a i w j x l} : isT ts a 1 notW = false → isT ts a 4 [40] = false → CmpAt ts a i w j x → Str ts 2 a (a + 10) l (l ++ [cmpNod i w j x])
  | neg {a b l l'} : isT ts a 1 notW = true → Str ts 2 (a + 1) b l l' → Str ts 2 a b l (l' ++ [opNod 3 ((l'.length : Int) - 1) 0])
  | par {a b l l'} : isT ts a 1 notW = false → isT ts a 4 [40] = true → Str ts 0 (a + 1) b l l' → isT ts b 4 [41] = true → Str ts 2 a (b + 1) l l'
  | lvl {k a b c l l' l''} : k < 2 → Str ts (k + 1) a b l l' → Str ts (k + 10) b c l' l'' → Str ts k a c l l''
  | done {k b l} : k < 2 → isT ts b 1 (wordOf k) = false → Str ts (k + 10) b b l l
  | more {k b c d l l' l''} : k < 2 → isT ts b 1 (wordOf k) = true → Str ts (k + 1) (b + 1) c l l' → Str ts (k + 10) c d (l' ++ [opNod (if k = 1 then 1 else 2) ((l.length : Int) - 1) ((l'.length : Int) - 1)]) l'' → Str ts (k + 10) b d l l''
theorem Str.len {ts m a b l l'} (h : Str ts m a b l l') : l.length ≤ l'.length := by
  induction h <;> (try simp only [List.length_append, List.length_cons, List.length_nil] at *) <;> omega
structure CndSt (H K : AHeap) (rb : Nat) (lv : Value) (ts : List Tok) (a rv sb lb lo : Nat) (ns : List Nod) : Prop where
  rd : RdA H K rb lv ts a true
  cr : K[rv]? = some (.cells [(Value.pointer (some ⟨rb, 0, some 3⟩))] 66)
  cs : K[sb]? = some (.cells [.func (.func 52) #[] #[(Value.pointer (some ⟨rv, 0, some 1⟩)), (Value.pointer (some ⟨sb, 0, some 1⟩)), (Value.pointer (some ⟨lb, 0, some 1⟩))]] 102)
  cl : ∃ v, K[lb]? = some (.cells [v] 35) ∧ Gro K lo 8 76 v (ns.map cel8)
  b0 : rb < rv
  b1 : rv < lb
  b2 : lb < sb
  b3 : sb < lo
  b4 : lo ≤ K.length
theorem nel1 : aElem Tryz.prog 35 = some (76, 8, 72) := by kernel_rfl
theorem nel2 : isSeq Tryz.prog 35 = true := by kernel_rfl
theorem Gro.fr {K K' lo z T v cl} (h : Gro K lo z T v cl) (hf : ∀ (b : Nat) o, lo ≤ b → K[b]? = some o → K'[b]? = some o) : Gro K' lo z T v cl := by
  cases h with
  | nil => exact .nil
  | mk bb cl h1 h2 h3 h4 => exact .mk bb cl h1 (hf _ _ h1 h2) h3 h4
theorem CndSt.fr {H K K1 rb lv ts a a' rv sb lb lo ns} (h : CndSt H K rb lv ts a rv sb lb lo ns) (g2 : RdA H K1 rb lv ts a' true) (g3 : ∀ (b : Nat) o, b ≠ rb → K[b]? = some o → K1[b]? = some o) (g4 : K.length ≤ K1.length) : CndSt H K1 rb lv ts a' rv sb lb lo ns := by
  obtain ⟨v, hv1, hv2⟩ := h.cl
  have hb0 := h.b0; have hb1 := h.b1; have hb2 := h.b2; have hb3 := h.b3; have hb4 := h.b4
  exact ⟨g2, g3 _ _ (by omega) h.cr, g3 _ _ (by omega) h.cs, ⟨v, g3 _ _ (by omega) hv1, hv2.fr fun b o hb ho => g3 b o (by omega) ho⟩, hb0, hb1, hb2, hb3, by omega⟩
theorem CndSt.rds {H K rb lv ts a rv sb lb lo ns} (h : CndSt H K rb lv ts a rv sb lb lo ns) (a' : Nat) (ha : a' ≤ ts.length) : CndSt H (K.set rb (rdo lv a' true)) rb lv ts a' rv sb lb lo ns :=
  h.fr (h.rd.put a' true ha) (fun b o hb ho => by rw [List.getElem?_set_ne (fun e => hb e.symm)]; exact ho) (by simp)
theorem CndSt.push {H K rb lv ts a rv sb lb lo ns} (h : CndSt H K rb lv ts a rv sb lb lo ns) (n : Nod) (hns : ns.length + 1 ≤ 2 ^ 30) {v : Value} (hv : K[lb]? = some (.cells [v] 35)) :
    ∃ v' K2, aBuiltin Tryz.prog (K ++ [AObj.cells (cel8 n) 76]) .append #[35, 35] [v, .slice (some ⟨K.length, 0, some 8⟩) 1 1] = some (v', K2) ∧
      aStore Tryz.prog K2 35 ((Value.pointer (some ⟨lb, 0, some 1⟩))) v' = some (K2.set lb (.cells [v'] 35)) ∧ CndSt H (K2.set lb (.cells [v'] 35)) rb lv ts a rv sb lb lo (ns ++ [n]) := by
  obtain ⟨v0, hv1, hv2⟩ := h.cl
  rw [hv] at hv1
  cases hv1
  have hb0 := h.b0; have hb1 := h.b1; have hb2 := h.b2; have hb3 := h.b3; have hb4 := h.b4; have hhb := h.rd.hb
  have hv4 := hv2.app (X := [AObj.cells (cel8 n) 76])
  obtain ⟨v', K2, q1, q2, q3, q4, q5⟩ := Gro.push (P := Tryz.prog) (Ts := 35) (by_ := 72) (x := .slice (some ⟨K.length, 0, some 8⟩) 1 1) (c := cel8 n) hv4 nel1 nel2 (by rfl) (by simp; omega) (by simp [aSrc, cel8, Nod.cells]) (by simp; omega) (by simp; omega)
  have hcl2 := q3 lb _ (by omega) (get_more hv)
  have hget : ∀ (b : Nat) o, b < lo → b ≠ lb → K[b]? = some o → (K2.set lb (.cells [v'] 35))[b]? = some o := fun b o h1 h2 ho => by
    rw [List.getElem?_set_ne (fun e => h2 e.symm)]; exact q3 _ _ h1 (get_more ho)
  have hrd := h.rd
  refine ⟨v', K2, q1, by simp [hcl2, q2.cells, q2.stor], ⟨hrd.toks, (q5 H (hrd.pre.more _) (by omega)).set (by omega), hhb, hget _ _ (by omega) (by omega) hrd.cell, hrd.len, hrd.le⟩, hget _ _ (by omega) (by omega) h.cr, hget _ _ (by omega) (by omega) h.cs, ⟨v', ?_, ?_⟩, hb0, hb1, hb2, hb3, ?_⟩
  · rw [List.getElem?_set_self (by simp at q4; omega)]
  · rw [List.map_append]
    exact q2.set (by omega)
  · simp at q4 ⊢; omega
theorem nod_lit {K : AHeap} (n : Nod) : sliceLit Tryz.prog K 35 1 [(0, .agg (cel8 n).toArray)] (.slice (some ⟨K.length, 0, some 8⟩) 1 1) (K ++ [.cells (cel8 n) 76]) :=
  sliceLitA (c := cel8 n) (tbs35 K 1 _) (by rfl) (by simp [cel8, Nod.cells]) (by simp)
theorem c_str2 {H K rb lv ts a rv sb lb lo ns i w j x} (h : CndSt H K rb lv ts a rv sb lb lo ns) (hns : ns.length + 1 ≤ 2 ^ 30) (h1 : isT ts a 1 notW = false) (h2 : isT ts a 4 [40] = false) (hc : CmpAt ts a i w j x) :
    ∃ K', ACalls Tryz.prog 52 [i64 2, (Value.pointer (some ⟨rv, 0, some 1⟩)), (Value.pointer (some ⟨sb, 0, some 1⟩)), (Value.pointer (some ⟨lb, 0, some 1⟩))] K (.tuple #[]) K' ∧ CndSt H K' rb lv ts (a + 10) rv sb lb lo (ns ++ [cmpNod i w j x]) := by
  have key : ∃ v K', (v = .tuple #[] ∧ CndSt H K' rb lv ts (a + 10) rv sb lb lo (ns ++ [cmpNod i w j x])) ∧ ACalls Tryz.prog 52 [i64 2, (Value.pointer (some ⟨rv, 0, some 1⟩)), (Value.pointer (some ⟨sb, 0, some 1⟩)), (Value.pointer (some ⟨lb, 0, some 1⟩))] K v K' := by
    refine acallsK_ex MixT Tryz.func52 (by decide) ?_
    rw [d52]
    obtain ⟨v, hv1, hv2⟩ := h.cl
    have hcr : hcells K rv = some [(Value.pointer (some ⟨rb, 0, some 3⟩))] := by rw [hcells_eq, h.cr]; rfl
    have hcl : hcells K lb = some [v] := by rw [hcells_eq, hv1]; rfl
    simp [hcr]
    refine bndC_of (c_takes_n h.rd (k := 1) (s := notW) (by simp [h1])) ?_
    simp [hcr]
    refine bndC_of (c_takes_n h.rd (k := 4) (s := [40]) (by simp [h2])) ?_
    simp [hcr, hcl]
    obtain ⟨K1, g1, g2, g3, g4⟩ := c_comparison h.rd hc
    have h1 := h.fr g2 g3 g4
    have hcl1 : K1[lb]? = some (.cells [v] 35) := g3 _ _ (by have := h.b0; have := h.b1; omega) hv1
    have hcc1 : hcells K1 lb = some [v] := by rw [hcells_eq, hcl1]; rfl
    refine bndK_of g1 ⟨by simp [hcc1], trivial⟩ ?_
    obtain ⟨v', K2, q1, q2, q3⟩ := h1.push (cmpNod i w j x) hns hcl1
    refine bndK_ext (nod_lit _) ⟨_, rfl⟩ ?_
    refine bndK_bar q1 ?_
    refine bndK_bar ⟨rfl, q2⟩ ?_
    exact ⟨rfl, q3⟩
  obtain ⟨v, K', ⟨rfl, h⟩, hy⟩ := key
  exact ⟨K', hy, h⟩
abbrev CndC (H K : AHeap) (rb : Nat) (lv : Value) (ts : List Tok) (b rv sb lb lo : Nat) (l' : List Nod) (m : Nat) : Prop :=
  ∃ K', ACalls Tryz.prog 52 [i64 m, (Value.pointer (some ⟨rv, 0, some 1⟩)), (Value.pointer (some ⟨sb, 0, some 1⟩)), (Value.pointer (some ⟨lb, 0, some 1⟩))] K (.tuple #[]) K' ∧ CndSt H K' rb lv ts b rv sb lb lo l'
def kindOf (k : Nat) : Int := if k = 1 then 1 else 2
abbrev CndL (H K : AHeap) (rb : Nat) (lv : Value) (ts : List Tok) (b rv sb lb lo : Nat) (l' : List Nod) (k : Nat) : Prop :=
  ∃ K', CndSt H K' rb lv ts b rv sb lb lo l' ∧ ∀ (kk : Value → AHeap → Prop), kk (.tuple #[]) K' → ∃ n, ∀ (s4 s7 s8 s9 s10 s11 s12 s13 s14 s15 s16 s17 s18 s19 s20 s21 s22 s23 s24 s25 s26 s27 s28 s29 s30 s31 s32 s33 s34 s35 s36 s37 s38 s39 s40 s41 s42 s43 s44 s45 s46 s47 s48 s49 s50 s51 s52 s53 s54 s55 s56 s57 s58 : Value),
    L52x0 n kk [i64 k, Value.pointer (some ⟨rv, 0, some 1⟩), Value.pointer (some ⟨sb, 0, some 1⟩), Value.pointer (some ⟨lb, 0, some 1⟩), s4, str (wordOf k), .int .u8 (kindOf k), s7, s8, s9, s10, s11, s12, s13, s14, s15, s16, s17, s18, s19, s20, s21, s22, s23, s24, s25, s26, s27, s28, s29, s30, s31, s32, s33, s34, s35, s36, s37, s38, s39, s40, s41, s42, s43, s44, s45, s46, s47, s48, s49, s50, s51, s52, s53, s54, s55, s56, s57, s58] K
theorem CndC.neg {H K rb lv ts a b rv sb lb lo} {l l' : List Nod} (h1 : isT ts a 1 notW = true) (ih : ∀ {K}, CndSt H K rb lv ts (a + 1) rv sb lb lo l → CndC H K rb lv ts b rv sb lb lo l' 2)
    (h : CndSt H K rb lv ts a rv sb lb lo l) (hl : l'.length + 1 ≤ 2 ^ 30) : CndC H K rb lv ts b rv sb lb lo (l' ++ [opNod 3 ((l'.length : Int) - 1) 0]) 2 := by
  have key : ∃ v K', (v = .tuple #[] ∧ CndSt H K' rb lv ts b rv sb lb lo (l' ++ [opNod 3 ((l'.length : Int) - 1) 0])) ∧ ACalls Tryz.prog 52 [i64 2, (Value.pointer (some ⟨rv, 0, some 1⟩)), (Value.pointer (some ⟨sb, 0, some 1⟩)), (Value.pointer (some ⟨lb, 0, some 1⟩))] K v K' := by
    refine acallsK_ex MixT Tryz.func52 (by decide) ?_
    rw [d52]
    have hcr : hcells K rv = some [(Value.pointer (some ⟨rb, 0, some 3⟩))] := by rw [hcells_eq, h.cr]; rfl
    simp [hcr]
    refine bndC_of (c_takes_y h.rd (k := 1) (s := notW) h1) ?_
    have hst := h.rds (a + 1) (by have := isT_lt h1; omega)
    generalize K.set rb (rdo lv (a + 1) true) = K1 at hst ⊢
    have hcs : hcells K1 sb = some [.func (.func 52) #[] #[(Value.pointer (some ⟨rv, 0, some 1⟩)), (Value.pointer (some ⟨sb, 0, some 1⟩)), (Value.pointer (some ⟨lb, 0, some 1⟩))]] := by rw [hcells_eq, hst.cs]; rfl
    simp [hcs]
    obtain ⟨K2, g1, g2⟩ := ih hst
    refine bndV_func (by simpa using g1) ?_
    obtain ⟨v, hv1, hv2⟩ := g2.cl
    have hcl : hcells K2 lb = some [v] := by rw [hcells_eq, hv1]; rfl
    have hlen := hv2.arr.len (P := Tryz.prog) (T := 35) (e := 76) (by simp)
    simp at hlen
    have hw : IntKind.i64.wrap ((l'.length : Int) - 1) = (l'.length : Int) - 1 := wrap_i64 (by omega) (by omega)
    simp [hcl, hlen, hw]
    obtain ⟨v', K3, q1, q2, q3⟩ := g2.push (opNod 3 ((l'.length : Int) - 1) 0) hl hv1
    refine bndL_lit (nod_lit (opNod 3 ((l'.length : Int) - 1) 0)) ?_
    dsimp only
    rw [q1]
    simp only [bndE_some, q2, bndS_some]
    exact ⟨by trivial, q3⟩
  obtain ⟨v, K', ⟨rfl, h⟩, hy⟩ := key
  exact ⟨K', hy, h⟩
theorem CndC.par {H K rb lv ts a b rv sb lb lo} {l l' : List Nod} (h0 : isT ts a 1 notW = false) (h1 : isT ts a 4 [40] = true) (ih : ∀ {K}, CndSt H K rb lv ts (a + 1) rv sb lb lo l → CndC H K rb lv ts b rv sb lb lo l' 0) (h2 : isT ts b 4 [41] = true)
    (h : CndSt H K rb lv ts a rv sb lb lo l) : CndC H K rb lv ts (b + 1) rv sb lb lo l' 2 := by
  have key : ∃ v K', (v = .tuple #[] ∧ CndSt H K' rb lv ts (b + 1) rv sb lb lo l') ∧ ACalls Tryz.prog 52 [i64 2, (Value.pointer (some ⟨rv, 0, some 1⟩)), (Value.pointer (some ⟨sb, 0, some 1⟩)), (Value.pointer (some ⟨lb, 0, some 1⟩))] K v K' := by
    refine acallsK_ex MixT Tryz.func52 (by decide) ?_
    rw [d52]
    have hcr : hcells K rv = some [(Value.pointer (some ⟨rb, 0, some 3⟩))] := by rw [hcells_eq, h.cr]; rfl
    simp [hcr]
    refine bndC_of (c_takes_n h.rd (k := 1) (s := notW) (by simp [h0])) ?_
    simp [hcr]
    refine bndC_of (c_takes_y h.rd (k := 4) (s := [40]) h1) ?_
    have hst := h.rds (a + 1) (by have := isT_lt h1; omega)
    generalize K.set rb (rdo lv (a + 1) true) = K1 at hst ⊢
    have hcs : hcells K1 sb = some [.func (.func 52) #[] #[(Value.pointer (some ⟨rv, 0, some 1⟩)), (Value.pointer (some ⟨sb, 0, some 1⟩)), (Value.pointer (some ⟨lb, 0, some 1⟩))]] := by rw [hcells_eq, hst.cs]; rfl
    simp [hcs]
    obtain ⟨K2, g1, g2⟩ := ih hst
    refine bndV_func (by simpa using g1) ?_
    have hcr2 : hcells K2 rv = some [(Value.pointer (some ⟨rb, 0, some 3⟩))] := by rw [hcells_eq, g2.cr]; rfl
    simp [hcr2]
    refine bndC_of (c_sign_y g2.rd h2) ?_
    exact ⟨by trivial, g2.rds (b + 1) (by have := isT_lt h2; omega)⟩
  obtain ⟨v, K', ⟨rfl, h⟩, hy⟩ := key
  exact ⟨K', hy, h⟩
theorem CndL.done {H K rb lv ts b rv sb lb lo} {l : List Nod} {k : Nat} (h1 : isT ts b 1 (wordOf k) = false) (h : CndSt H K rb lv ts b rv sb lb lo l) : CndL H K rb lv ts b rv sb lb lo l k := by
  refine ⟨K, h, fun kk hk => ⟨1, ?_⟩⟩
  intro s4 s7 s8 s9 s10 s11 s12 s13 s14 s15 s16 s17 s18 s19 s20 s21 s22 s23 s24 s25 s26 s27 s28 s29 s30 s31 s32 s33 s34 s35 s36 s37 s38 s39 s40 s41 s42 s43 s44 s45 s46 s47 s48 s49 s50 s51 s52 s53 s54 s55 s56 s57 s58
  rw [L52x0q]
  have hcr : hcells K rv = some [(Value.pointer (some ⟨rb, 0, some 3⟩))] := by rw [hcells_eq, h.cr]; rfl
  simp [hcr]
  refine bndC_of (c_takes_n h.rd (k := 1) (s := wordOf k) (by simp [h1])) ?_
  simp
  exact hk
theorem CndL.more {H K rb lv ts b c d rv sb lb lo} {l l' l'' : List Nod} {k : Nat} (hk2 : k < 2) (h1 : isT ts b 1 (wordOf k) = true)
    (ih1 : ∀ {K}, CndSt H K rb lv ts (b + 1) rv sb lb lo l → CndC H K rb lv ts c rv sb lb lo l' (k + 1)) (hl : l'.length + 1 ≤ 2 ^ 30) (hll : l.length ≤ l'.length)
    (ih2 : ∀ {K}, CndSt H K rb lv ts c rv sb lb lo (l' ++ [opNod (if k = 1 then 1 else 2) ((l.length : Int) - 1) ((l'.length : Int) - 1)]) → CndL H K rb lv ts d rv sb lb lo l'' k)
    (h : CndSt H K rb lv ts b rv sb lb lo l) : CndL H K rb lv ts d rv sb lb lo l'' k := by
  have hst := h.rds (b + 1) (by have := isT_lt h1; omega)
  generalize hK1 : K.set rb (rdo lv (b + 1) true) = K1 at hst
  obtain ⟨K2, g1, g2⟩ := ih1 hst
  obtain ⟨v, hv1, hv2⟩ := g2.cl
  obtain ⟨v', K3, q1, q2, q3⟩ := g2.push (opNod (if k = 1 then 1 else 2) ((l.length : Int) - 1) ((l'.length : Int) - 1)) hl hv1
  obtain ⟨K4, r1, r2⟩ := ih2 q3
  refine ⟨K4, r1, fun kk hk => ?_⟩
  obtain ⟨n, hn⟩ := r2 kk hk
  refine ⟨n + 1, ?_⟩
  intro s4 s7 s8 s9 s10 s11 s12 s13 s14 s15 s16 s17 s18 s19 s20 s21 s22 s23 s24 s25 s26 s27 s28 s29 s30 s31 s32 s33 s34 s35 s36 s37 s38 s39 s40 s41 s42 s43 s44 s45 s46 s47 s48 s49 s50 s51 s52 s53 s54 s55 s56 s57 s58
  rw [L52x0q]
  have hcr : hcells K rv = some [(Value.pointer (some ⟨rb, 0, some 3⟩))] := by rw [hcells_eq, h.cr]; rfl
  simp [hcr]
  refine bndC_of (c_takes_y h.rd h1) ?_
  rw [hK1]
  obtain ⟨v0, hu1, hu2⟩ := hst.cl
  have hcl0 : hcells K1 lb = some [v0] := by rw [hcells_eq, hu1]; rfl
  have hlen0 := hu2.arr.len (P := Tryz.prog) (T := 35) (e := 76) (by simp)
  have hcs : hcells K1 sb = some [.func (.func 52) #[] #[(Value.pointer (some ⟨rv, 0, some 1⟩)), (Value.pointer (some ⟨sb, 0, some 1⟩)), (Value.pointer (some ⟨lb, 0, some 1⟩))]] := by rw [hcells_eq, hst.cs]; rfl
  have hw0 : IntKind.i64.wrap ((l.length : Int) - 1) = (l.length : Int) - 1 := wrap_i64 (by omega) (by omega)
  have hwk : IntKind.i64.wrap ((k : Int) + 1) = (k : Int) + 1 := wrap_i64 (by omega) (by omega)
  simp at hlen0
  simp [hcl0, hlen0, hw0, hcs, hwk]
  refine bndV_func (by simpa using g1) ?_
  have hcl : hcells K2 lb = some [v] := by rw [hcells_eq, hv1]; rfl
  have hlen := hv2.arr.len (P := Tryz.prog) (T := 35) (e := 76) (by simp)
  simp at hlen
  have hw : IntKind.i64.wrap ((l'.length : Int) - 1) = (l'.length : Int) - 1 := wrap_i64 (by omega) (by omega)
  simp [hcl, hlen, hw]
  have hlit := nod_lit (K := K2) (opNod (if k = 1 then 1 else 2) ((l.length : Int) - 1) ((l'.length : Int) - 1))
  have hnod : cel8 (opNod (if k = 1 then 1 else 2) ((l.length : Int) - 1) ((l'.length : Int) - 1)) = [.int .u8 (kindOf k), .int .u8 0, .slice none 0 0, i64 0, .int .u8 0, i64 0, i64 ((l.length : Int) - 1), i64 ((l'.length : Int) - 1)] := by
    unfold kindOf
    split <;> rfl
  rw [hnod] at hlit q1
  refine bndL_lit hlit ?_
  dsimp only
  rw [q1]
  simp only [bndE_some, q2, bndS_some]
  exact hn _ _ _ _ _ _ _ _ _ _ _ _ _ _ _ _ _ _ _ _ _ _ _ _ _ _ _ _ _ _ _ _ _ _ _ _ _ _ _ _ _ _ _ _ _ _ _ _ _ _ _ _ _
theorem c_str {ts m a b l l'} (hs : Str ts m a b l l') (hl : l'.length ≤ 2 ^ 30) : ∀ {H K rb lv rv sb lb lo}, CndSt H K rb lv ts a rv sb lb lo l →
    (m ≤ 2 → CndC H K rb lv ts b rv sb lb lo l' m) ∧ (∀ k, m = k + 10 → CndL H K rb lv ts b rv sb lb lo l' k) := by
  induction hs with
  | cmp h1 h2 hc => intro H K rb lv rv sb lb lo h; exact ⟨fun _ => c_str2 h (by simpa using hl) h1 h2 hc, fun k hk => by omega⟩
  | @neg a b l l' h1 hs ih =>
    intro H K rb lv rv sb lb lo h
    have hl' : l'.length + 1 ≤ 2 ^ 30 := by simpa using hl
    exact ⟨fun _ => CndC.neg h1 (fun {K} h => (ih (by omega) h).1 (by omega)) h hl', fun k hk => by omega⟩
  | par h0 h1 hs h2 ih =>
    intro H K rb lv rv sb lb lo h
    exact ⟨fun _ => CndC.par h0 h1 (fun {K} h => (ih hl h).1 (by omega)) h2 h, fun k hk => by omega⟩
  | @done k b l hk h1 =>
    intro H K rb lv rv sb lb lo h
    refine ⟨fun q => by omega, fun k' hk' => ?_⟩
    obtain rfl : k' = k := by omega
    exact CndL.done h1 h
  | @more k b c d l l' l'' hk h1 hs1 hs2 ih1 ih2 =>
    intro H K rb lv rv sb lb lo h
    refine ⟨fun q => by omega, fun k' hk' => ?_⟩
    obtain rfl : k' = k := by omega
    have e2 := hs2.len
    simp only [List.length_append, List.length_cons, List.length_nil] at e2
    exact CndL.more hk h1 (fun {K} h => (ih1 (by omega) h).1 (by omega)) (by omega) hs1.len (fun {K} h => (ih2 hl h).2 _ rfl) h
  | @lvl k a b c l l' l'' hk hs1 hs2 ih1 ih2 =>
    intro H K rb lv rv sb lb lo h
    refine ⟨fun _ => ?_, fun k' hk' => by omega⟩
    have e2 := hs2.len
    have key : ∃ v K', (v = .tuple #[] ∧ CndSt H K' rb lv ts c rv sb lb lo l'') ∧ ACalls Tryz.prog 52 [i64 k, (Value.pointer (some ⟨rv, 0, some 1⟩)), (Value.pointer (some ⟨sb, 0, some 1⟩)), (Value.pointer (some ⟨lb, 0, some 1⟩))] K v K' := by
      refine acallsK_ex MixT Tryz.func52 (by decide) ?_
      rw [d52]
      have hcs : hcells K sb = some [.func (.func 52) #[] #[(Value.pointer (some ⟨rv, 0, some 1⟩)), (Value.pointer (some ⟨sb, 0, some 1⟩)), (Value.pointer (some ⟨lb, 0, some 1⟩))]] := by rw [hcells_eq, h.cs]; rfl
      have hwk : IntKind.i64.wrap ((k : Int) + 1) = (k : Int) + 1 := wrap_i64 (by omega) (by omega)
      obtain ⟨K1, g1, g2⟩ := (ih1 (by omega) h).1 (by omega)
      obtain ⟨K2, r1, r2⟩ := (ih2 hl g2).2 k rfl
      obtain ⟨n, hn⟩ := r2 (fun v K' => v = .tuple #[] ∧ CndSt H K' rb lv ts c rv sb lb lo l'') ⟨rfl, r1⟩
      have h2 : ((k : Int) == 2) = false := by simp; omega
      simp [h2]
      have fin : ∀ (s4 s7 s8 s9 s10 s11 s12 s13 s14 s15 s16 s17 s18 s19 s20 s21 s22 s23 s24 s25 s26 s27 s28 s29 s30 s31 s32 s33 s34 s35 s36 s37 s38 s39 s40 s41 s42 s43 s44 s45 s46 s47 s48 s49 s50 s51 s52 s53 s54 s55 s56 s57 s58 : Value), S52x0 (fun v K' => v = .tuple #[] ∧ CndSt H K' rb lv ts c rv sb lb lo l'') [i64 k, Value.pointer (some ⟨rv, 0, some 1⟩), Value.pointer (some ⟨sb, 0, some 1⟩), Value.pointer (some ⟨lb, 0, some 1⟩), s4, str (wordOf k), .int .u8 (kindOf k), s7, s8, s9, s10, s11, s12, s13, s14, s15, s16, s17, s18, s19, s20, s21, s22, s23, s24, s25, s26, s27, s28, s29, s30, s31, s32, s33, s34, s35, s36, s37, s38, s39, s40, s41, s42, s43, s44, s45, s46, s47, s48, s49, s50, s51, s52, s53, s54, s55, s56, s57, s58] K := by
        intro s4 s7 s8 s9 s10 s11 s12 s13 s14 s15 s16 s17 s18 s19 s20 s21 s22 s23 s24 s25 s26 s27 s28 s29 s30 s31 s32 s33 s34 s35 s36 s37 s38 s39 s40 s41 s42 s43 s44 s45 s46 s47 s48 s49 s50 s51 s52 s53 s54 s55 s56 s57 s58
        rw [S52x0q]
        simp [hcs, hwk]
        refine bndV_func (by simpa using g1) ?_
        exact ⟨n, hn _ _ _ _ _ _ _ _ _ _ _ _ _ _ _ _ _ _ _ _ _ _ _ _ _ _ _ _ _ _ _ _ _ _ _ _ _ _ _ _ _ _ _ _ _ _ _ _ _ _ _ _ _⟩
      refine kifB_bool (fun hq => ?_) (fun hq => ?_)
      · obtain rfl : k = 1 := by simp at hq; omega
        exact fin _ _ _ _ _ _ _ _ _ _ _ _ _ _ _ _ _ _ _ _ _ _ _ _ _ _ _ _ _ _ _ _ _ _ _ _ _ _ _ _ _ _ _ _ _ _ _ _ _ _ _ _ _
      · obtain rfl : k = 0 := by simp at hq; omega
        exact fin _ _ _ _ _ _ _ _ _ _ _ _ _ _ _ _ _ _ _ _ _ _ _ _ _ _ _ _ _ _ _ _ _ _ _ _ _ _ _ _ _ _ _ _ _ _ _ _ _ _ _ _ _
    obtain ⟨v, K', ⟨rfl, h⟩, hy⟩ := key
    exact ⟨K', hy, h⟩
theorem Str.sels {ts m a b l l'} (h : Str ts m a b l l') : (∀ n ∈ l, n.sel = []) → ∀ n ∈ l', n.sel = [] := by
  induction h with
  | cmp => intro h n hn; rcases List.mem_append.1 hn with hn | hn
           · exact h n hn
           · simp at hn; subst hn; rfl
  | neg h1 hs ih => intro h n hn; rcases List.mem_append.1 hn with hn | hn
                    · exact ih h n hn
                    · simp at hn; subst hn; rfl
  | par h0 h1 hs h2 ih => exact ih
  | lvl hk h1 h2 ih1 ih2 => exact fun h => ih2 (ih1 h)
  | done => exact id
  | more hk h1 hs1 hs2 ih1 ih2 =>
    intro h
    refine ih2 fun n hn => ?_
    rcases List.mem_append.1 hn with hn | hn
    · exact ih1 h n hn
    · simp at hn; subst hn; rfl
theorem c_condition {H K rb lv ts a b l'} (h : RdA H K rb lv ts a true) (hs : Str ts 0 a b [] l') (hl : l'.length ≤ 2 ^ 30) :
    ∃ v K', ACalls Tryz.prog 31 [(Value.pointer (some ⟨rb, 0, some 3⟩))] K v K' ∧ RdA H K' rb lv ts b true ∧ Gro K' (K.length + 3) 8 76 v (l'.map cel8) := by
  have key : ∃ v K', (RdA H K' rb lv ts b true ∧ Gro K' (K.length + 3) 8 76 v (l'.map cel8)) ∧ ACalls Tryz.prog 31 [(Value.pointer (some ⟨rb, 0, some 3⟩))] K v K' := by
    refine acalls_ex MixT Tryz.func31 (by decide) ?_
    rw [d31]
    have hrb := h.lt
    have st : CndSt H (K ++ [AObj.cells [(Value.pointer (some ⟨rb, 0, some 3⟩))] 66, AObj.cells [.slice none 0 0] 35, AObj.cells [.func (.func 52) #[] #[(Value.pointer (some ⟨K.length, 0, some 1⟩)), (Value.pointer (some ⟨(K.length + 2), 0, some 1⟩)), (Value.pointer (some ⟨(K.length + 1), 0, some 1⟩))]] 102]) rb lv ts a K.length (K.length + 2) (K.length + 1) (K.length + 3) [] :=
      ⟨h.app _, by simp, by simp, ⟨.slice none 0 0, by simp, .nil⟩, hrb, by omega, by omega, by omega, by simp⟩
    obtain ⟨K1, g1, g2⟩ := (c_str hs hl st).1 (by omega)
    simp [aNew]
    refine bndV_func (by simpa using g1) ?_
    obtain ⟨v, hv1, hv2⟩ := g2.cl
    have hcl : hcells K1 (K.length + 1) = some [v] := by rw [hcells_eq, hv1]; rfl
    simp [hcl]
    exact ⟨g2.rd, hv2⟩
  obtain ⟨v, K', h, hy⟩ := key
  exact ⟨v, K', hy, h⟩
theorem Arr.cell1 {H z v l} (h : Arr H z v l) : v.cells = #[v] := by cases h <;> rfl
theorem Arr.stor {H z v l} (h : Arr H z v l) : storable v = true := by cases h <;> rfl
theorem nodes_gro {K : AHeap} {lo : Nat} {v : Value} {l : List Nod} (h : Gro K lo 8 76 v (l.map cel8)) (hs : ∀ n ∈ l, n.sel = []) : NodesAt K v l := by
  refine ⟨_, h.arr, by simp, fun i n hi => ⟨.slice none 0 0, by simp [hi, cel8], ?_, ?_⟩⟩
  · rw [hs n (List.mem_of_getElem? hi)]; exact .nil
  · rw [hs n (List.mem_of_getElem? hi)]; simp
theorem c_read {H lv ts b l'} (hts : ToksAt H lv ts) (h0 : 0 < ts.length) (hlen : ts.length < 2 ^ 40) (hs : Str ts 0 0 b [] l') (hl : l'.length ≤ 31) :
    ∃ v K', ACalls Tryz.prog 30 [lv, i64 0] H (.tuple #[v, i64 b, i64 0]) K' ∧ Pre H K' ∧ NodesAt K' v l' := by
  have key : ∃ v K', (∃ u, v = .tuple #[u, i64 b, i64 0] ∧ Pre H K' ∧ NodesAt K' u l') ∧ ACalls Tryz.prog 30 [lv, i64 0] H v K' := by
    refine acalls_ex MixT Tryz.func30 (by decide) ?_
    rw [d30]
    have hl0 := hts.len (P := Tryz.prog) (T := 61) (e := 101) (by simp)
    simp at hl0
    have hne : ¬ (ts.length : Int) ≤ 0 := by omega
    have hne2 : ¬ ts = [] := by intro e; simp [e] at h0
    have hrd : RdA H (H ++ [rdo lv 0 true]) H.length lv ts 0 true := ⟨hts, .app _ _, Nat.le_refl _, by simp, hlen, by omega⟩
    obtain ⟨v, K1, g1, g2, g3⟩ := c_condition hrd hs (by omega)
    have hb1 := Arr.cell1 hts
    have hb2 := Arr.stor hts
    have hb3 := Arr.one hts
    simp [hl0, hne2, aNew, hb1, hb2, hb3]
    refine bndC_of g1 ?_
    have hc := g2.cell
    have hcc : hcells K1 H.length = some [lv, i64 b, .bool true] := by rw [hcells_eq, hc]; rfl
    have hll : Vi.hlen K1 H.length = some 3 := by unfold Vi.hlen; rw [hc]; rfl
    have hnl := g3.arr.len (P := Tryz.prog) (T := 35) (e := 76) (by simp)
    simp at hnl
    have h31 : ¬ (31 : Int) < l'.length := by omega
    have h31n : ¬ 31 < l'.length := by omega
    simp [hcc, hll, hnl, h31]
    exact ⟨g2.pre, nodes_gro g3 (hs.sels (by simp))⟩
  obtain ⟨v, K', ⟨u, rfl, h1, h2⟩, hy⟩ := key
  exact ⟨u, K', hy, h1, h2⟩
theorem c_parse {H : AHeap} {s : List UInt8} {ts : List Tok} {l' : List Nod} (hts : allTok s = (ts, 0, 0)) (h0 : 0 < ts.length) (hlen : ts.length < 2 ^ 40) (hs : Str ts 0 0 ts.length [] l') (hl : l'.length ≤ 31) :
    ∃ v K', ACalls Tryz.prog 12 [str s] H (.tuple #[v, i64 0]) K' ∧ Pre H K' ∧ NodesAt K' v l' := by
  have key : ∃ v K', (∃ u, v = .tuple #[u, i64 0] ∧ Pre H K' ∧ NodesAt K' u l') ∧ ACalls Tryz.prog 12 [str s] H v K' := by
    refine acalls_ex MixT Tryz.func12 (by decide) ?_
    rw [d12]
    obtain ⟨v, K1, ⟨lv, rfl, g1, g2⟩, g3⟩ := c_lexAll H s
    rw [hts] at g2 g3
    refine bndC_of g3 ?_
    simp
    obtain ⟨u, K2, q1, q2, q3⟩ := c_read g2 h0 hlen hs hl
    refine bndC_of q1 ?_
    simp
    rw [S12x0q]
    have hl0 := (g2.pre q2).len (P := Tryz.prog) (T := 61) (e := 101) (by simp)
    simp at hl0
    simp [hl0]
    exact ⟨g1.trans q2, q3⟩
  obtain ⟨v, K', ⟨u, rfl, h1, h2⟩, hy⟩ := key
  exact ⟨u, K', hy, h1, h2⟩
end Go.Vi
namespace Go.Vi
open Go Go.Proofs

def txt2 : List UInt8 := [99, 111, 117, 110, 116, 40, 123, 125, 91, 53, 93, 41, 32, 62, 32, 51, 32, 111, 114, 32, 115, 117, 109, 40, 123, 125, 91, 54, 48, 93, 41, 32, 60, 32, 49]
def tok2 : List Tok := (allTok txt2).1
def nod2 : List Nod := [cmpNod 0 5 2 3000, cmpNod 1 60 0 1000, opNod 2 0 1]
theorem allTok2 : allTok txt2 = (tok2, 0, 0) := by kernel_rfl
theorem tok2_len : tok2.length = 21 := by kernel_rfl
theorem isT2 : isT tok2 0 1 notW = false ∧ isT tok2 0 4 [40] = false ∧ isT tok2 11 1 notW = false ∧ isT tok2 11 4 [40] = false ∧ isT tok2 10 1 (wordOf 1) = false ∧ isT tok2 10 1 (wordOf 0) = true ∧ isT tok2 21 1 (wordOf 1) = false ∧ isT tok2 21 1 (wordOf 0) = false := by
  refine ⟨?_, ?_, ?_, ?_, ?_, ?_, ?_, ?_⟩ <;> kernel_rfl
theorem cmpAt_of {ts : List Tok} {a i : Nat} {w : Int} {j : Nat} {x : Int}
    (h : ((ts[a]?).any (fun t => t.kind == 1 && aggs[i]? == some t.text) && isT ts (a + 1) 4 [40] && isT ts (a + 2) 4 [123] && isT ts (a + 3) 4 [125] && isT ts (a + 4) 4 [91] &&
      (ts[a + 5]?).any (fun t => t.kind == 2 && decide (t.text.length ≤ 18) && decide (1 ≤ t.text.length) && t.text.all isDig && natF 0 t.text == w && decide (1 ≤ w) && decide (w ≤ 1000)) &&
      isT ts (a + 6) 4 [93] && isT ts (a + 7) 4 [41] && (ts[a + 8]?).any (fun t => t.kind == 4 && cmps[j]? == some t.text) && !isT ts (a + 9) 4 [45] &&
      (ts[a + 9]?).any (fun t => t.kind == 2 && decide (t.text.length < 100) && parF t.text == (x, 0))) = true) : CmpAt ts a i w j x := by
  simp only [Bool.and_eq_true, Option.any_eq_true, beq_iff_eq, decide_eq_true_eq, List.all_eq_true, Bool.not_eq_true'] at h
  obtain ⟨⟨⟨⟨⟨⟨⟨⟨⟨⟨⟨t0, a1, a2, a3⟩, s1⟩, s2⟩, s3⟩, s4⟩, t5, b1, ⟨⟨⟨⟨⟨⟨b2, b3⟩, b4⟩, b5⟩, b6⟩, b7⟩, b8⟩⟩, s6⟩, s7⟩, t8, c1, c2, c3⟩, n9⟩, t9, d1, ⟨d2, d3⟩, d4⟩ := h
  exact ⟨⟨t0, a1, a2, a3⟩, s1, s2, s3, s4, ⟨t5, b1, b2, b3, b4, b5, b6, b7, b8⟩, s6, s7, ⟨t8, c1, c2, c3⟩, n9, ⟨t9, d1, d2, by omega, d4⟩⟩
theorem str2 : Str tok2 0 0 tok2.length [] nod2 := by
  rw [tok2_len]
  obtain ⟨h1, h2, h3, h4, h5, h6, h7, h8⟩ := isT2
  have c1 : CmpAt tok2 0 0 5 2 3000 := cmpAt_of (by kernel_rfl)
  have c2 : CmpAt tok2 11 1 60 0 1000 := cmpAt_of (by kernel_rfl)
  have p1 : Str tok2 1 0 10 [] [cmpNod 0 5 2 3000] := .lvl (by decide) (.cmp h1 h2 c1) (.done (by decide) h5)
  have p2 : Str tok2 1 11 21 [cmpNod 0 5 2 3000] [cmpNod 0 5 2 3000, cmpNod 1 60 0 1000] := .lvl (by decide) (.cmp h3 h4 c2) (.done (by decide) h7)
  exact .lvl (by decide) p1 (.more (by decide) h6 p2 (.done (by decide) h8))
theorem c_parse2 (H : AHeap) : ∃ v K', ACalls Tryz.prog 12 [str txt2] H (.tuple #[v, i64 0]) K' ∧ Pre H K' ∧ NodesAt K' v nod2 :=
  c_parse allTok2 (by rw [tok2_len]; decide) (by rw [tok2_len]; decide) str2 (by decide)
def rulA : Rul := ⟨[97], [104, 111, 115, 116], nod2, 0, 1, 1, [], [111, 112, 115]⟩
def rulF : Rul := { rulA with forM := 1001 }
def rulM : Rul := { rulA with route := [109, 101, 116, 97] }
def rulN : Rul := { rulA with mutes := [[113]] }
def mutQ (b : Bool) : Mut := ⟨[113], [b, false, false, false, false, false, false], 540, 1020⟩
theorem append_nil1 {P : Program} {K : AHeap} {T e : TypeId} {z by_ b : Nat} {c : List Value} (hT : aElem P T = some (e, z, by_)) (hsq : isSeq P T = true) (hb : hcells K b = some c) (hz : c.length = z) (hby : by_ ≤ 140737488355328) :
    aBuiltin P K .append #[T, T] [.slice none 0 0, .slice (some ⟨b, 0, some z⟩) 1 1] = some (.slice (some ⟨K.length, 0, some z⟩) 1 1, K ++ [.cells c e]) := by
  simp [aBuiltin, aAppend, hT, hsq, aSrc, hb, hz, hby]
  rw [← hz]; simp
theorem mel1 : aElem Tryz.prog 26 = some (33, 10, 40) := by kernel_rfl
theorem mel2 : isSeq Tryz.prog 26 = true := by kernel_rfl
theorem cfg_mayB : Cfg.mayB ⟨[rulN], [], 0, 1⟩ = false ∧ Cfg.mayB ⟨[rulN], [mutQ true], 0, 1⟩ = true ∧ rulA.mayB = true ∧ rulF.mayB = false ∧ rulM.mayB = false ∧ (mutQ false).mayB = false ∧ (mutQ true).mayB = true ∧ widest 0 nod2 = 60 := by
  refine ⟨?_, ?_, ?_, ?_, ?_, ?_, ?_, ?_⟩ <;> kernel_rfl
theorem arr_single {M : AHeap} {b z : Nat} {c : List Value} (h : hcells M b = some c) (hz : c.length = z) : Arr M z (.slice (some ⟨b, 0, some z⟩) 1 1) [c] := by
  refine .mk b 0 _ _ _ c _ rfl h hz (by omega) fun i e hi => ?_
  match i, hi with
  | 0, hi => simp at hi; subst hi; simp [← hz]
  | i + 1, hi => simp at hi
theorem rulesN {M : AHeap} {nv : Value} {b5 b6 : Nat} (h5 : hcells M b5 = some [str [113]]) (h6 : hcells M b6 = some (rulN.cells nv (.slice (some ⟨b5, 0, some 1⟩) 1 1))) (hn : NodesAt M nv nod2) :
    RulesAt M (.slice (some ⟨b6, 0, some 8⟩) 1 1) [rulN] := by
  refine ⟨_, arr_single h6 rfl, rfl, fun i r hi => ?_⟩
  match i, hi with
  | 0, hi => simp at hi; subst hi; exact ⟨nv, _, rfl, hn, arr_single h5 rfl, by decide⟩
  | i + 1, hi => simp at hi
theorem c_awake (H : AHeap) : ACalls Tryz.prog 9 [] H (.bool true) H := by
  refine acalls_pure MixT Tryz.func9 (by decide) rfl ?_
  rw [d9]
  obtain ⟨nv, K, g1, g2, g3⟩ := c_parse2 H
  refine bndC_of g1 ?_
  have hn1 : nv.cells = #[nv] := by obtain ⟨cl, h, _⟩ := g3; exact h.cell1
  have hn2 : storable nv = true := by obtain ⟨cl, h, _⟩ := g3; exact h.stor
  have hn3 : nv.oneCell' = true := by obtain ⟨cl, h, _⟩ := g3; exact h.one
  simp [hn1, hn2, hn3]
  refine bndC_of (c_mute (m := mutQ false) rfl) ?_
  simp [hn3, aIndexAddr]
  refine bndL_lit (sliceLit1 (l := [str [113]]) (n := 1) (tbs38 _ _ _) (by simp) rfl (by simp)) ?_
  simp
  refine bndL_lit (sliceLitA (c := rulN.cells nv (.slice (some ⟨K.length + 5, 0, some 1⟩) 1 1)) (tbs25 _ 1 _) (by rfl) (by simp [Rul.cells, hn3]) (by simp)) ?_
  simp
  obtain ⟨e1, e2, e3, e4, e5, e6, e7, e8⟩ := cfg_mayB
  refine bndC_of (c_config (c := ⟨[rulN], [], 0, 1⟩) (by decide) (by decide) (rulesN (b5 := K.length + 5) (by simp) (by simp) (g3.pre (.app _ _))) ⟨.nil, by simp⟩) ?_
  rw [e1]
  simp
  refine bndL_lit (sliceLitA (c := (mutQ true).cells) (tbs26 _ 1 _) (by rfl) (by simp [Mut.cells, mutQ]) (by simp)) ?_
  simp [Mut.cells, mutQ]
  rw [append_nil1 (c := (mutQ true).cells) mel1 mel2 (by simp [Mut.cells, mutQ]) rfl (by decide)]
  simp [Mut.cells, mutQ]
  have cR : ∀ (r : Rul) (b : Bool) X, r.nodes = nod2 → r.mutes = [] → r.mayB = b → ACalls Tryz.prog 13 [.agg (r.cells nv (.slice none 0 0)).toArray] (K ++ X) (i64 (errno b)) (K ++ X) := fun r b X h1 h2 h3 => by
    subst h3; exact c_rule (by rw [h1]; exact g3.pre (.app K X)) (by rw [h2]; exact .nil) (by rw [h2]; decide)
  refine bndG_t (i64 0) _ (cR rulA true _ rfl rfl e3) ?_
  simp
  refine bndG_t (i64 110) _ (cR rulF false _ rfl rfl e4) ?_
  simp
  refine bndG_t (i64 110) _ (cR rulM false _ rfl rfl e5) ?_
  simp
  have cM : ∀ (m : Mut) (b : Bool) (X : AHeap), m.days.length = 7 → m.mayB = b → ACalls Tryz.prog 11 [.agg m.cells.toArray] (K ++ X) (i64 (errno b)) (K ++ X) := fun m b X h1 h2 => by
    subst h2; exact c_mute h1
  have hq : (errno (mutQ false).mayB == 110) = true := by rw [e6]; rfl
  rw [hq]
  refine bndG_t (i64 0) _ (cM (mutQ true) true _ rfl e7) ?_
  simp [errno]
  have cC : ∀ (X : AHeap), hcells (K ++ X) (K.length + 5) = some [str [113]] → hcells (K ++ X) (K.length + 6) = some (rulN.cells nv (.slice (some ⟨K.length + 5, 0, some 1⟩) 1 1)) → hcells (K ++ X) (K.length + 9) = some (mutQ true).cells →
      ACalls Tryz.prog 10 [.agg #[.slice (some ⟨K.length + 6, 0, some 8⟩) 1 1, .slice (some ⟨K.length + 9, 0, some 10⟩) 1 1, i64 0, i64 1]] (K ++ X) (i64 0) (K ++ X) := fun X h5 h6 h9 => by
    have := c_config (c := ⟨[rulN], [mutQ true], 0, 1⟩) (by decide) (by decide) (rulesN h5 h6 (g3.pre (.app _ _))) ⟨arr_single h9 rfl, by simp [mutQ]⟩
    rw [e2] at this
    exact this
  refine bndG_t (i64 0) _ (cC _ (by simp) (by simp) (by simp [Mut.cells, mutQ])) ?_
  simp
  have cW : ∀ X : AHeap, ACalls Tryz.prog 14 [nv] (K ++ X) (i64 60) (K ++ X) := fun X => by
    have := c_window (g3.pre (.app K X)) (by decide)
    rwa [e8] at this
  refine bndG_t (i64 60) _ (cW _) ?_
  simp
  obtain ⟨Y, rfl⟩ := g2
  exact ⟨_, List.append_assoc _ _ _⟩
end Go.Vi
namespace Go.Vi
open Go Go.Proofs

theorem errno_zero (b : Bool) : (errno b == 0) = b := by cases b <;> rfl
theorem void_mayB (late limit : Int) : Cfg.mayB ⟨[], [], late, limit⟩ = (decide (late ≥ 0) && decide (late ≤ 100) && decide (limit ≥ 1) && decide (limit ≤ 1000)) := by
  simp [Cfg.mayB, Cfg.head, onceB, keysOf, Bool.and_assoc]
theorem w_void (H : AHeap) (late limit : Int) : ACalls Tryz.prog 3 [i64 late, i64 limit] H (.bool true) H := by
  refine acalls_pure MixT Tryz.func3 (by decide) rfl ?_
  rw [d3]
  simp +contextual
  refine bndC_of (c_awake H) ?_
  simp
  refine bndG_t (i64 (errno (Cfg.mayB ⟨[], [], late, limit⟩))) _ (c_config (c := ⟨[], [], late, limit⟩) (by simp) (by simp) ⟨[], .nil, rfl, fun i r hi => by simp at hi⟩ ⟨.nil, by simp⟩) ?_
  have hb := fun X Y a b => aBin_beq2 (P := Tryz.prog) (H := H) (T := 4) (x := X) (y := Y) (a := a) (b := b) (by simp)
  simp [hb, errno_zero, void_mayB]
/-! ### CheckBounds -/
def txt1 : List UInt8 := [99, 111, 117, 110, 116, 40, 123, 125, 91, 53, 93, 41, 32, 62, 32, 51]
def tok1 : List Tok := (allTok txt1).1
def nod1 : List Nod := [cmpNod 0 5 2 3000]
theorem allTok1 : allTok txt1 = (tok1, 0, 0) := by kernel_rfl
theorem tok1_len : tok1.length = 10 := by kernel_rfl
theorem isT1 : isT tok1 0 1 notW = false ∧ isT tok1 0 4 [40] = false ∧ isT tok1 10 1 (wordOf 1) = false ∧ isT tok1 10 1 (wordOf 0) = false := by
  refine ⟨?_, ?_, ?_, ?_⟩ <;> kernel_rfl
theorem str1 : Str tok1 0 0 tok1.length [] nod1 := by
  rw [tok1_len]
  obtain ⟨h1, h2, h3, h4⟩ := isT1
  have c1 : CmpAt tok1 0 0 5 2 3000 := cmpAt_of (by kernel_rfl)
  exact .lvl (by decide) (.lvl (by decide) (.cmp h1 h2 c1) (.done (by decide) h3)) (.done (by decide) h4)
theorem c_parse1 (H : AHeap) : ∃ v K', ACalls Tryz.prog 12 [str txt1] H (.tuple #[v, i64 0]) K' ∧ Pre H K' ∧ NodesAt K' v nod1 :=
  c_parse allTok1 (by rw [tok1_len]; decide) (by rw [tok1_len]; decide) str1 (by decide)
def rulB (m e r : Int) : Rul := ⟨[97], [], nod1, m, e, r, [], [111, 112, 115]⟩
theorem right1 : right nod1 = true := by kernel_rfl
theorem bounds_mayB (m e r : Int) : (rulB m e r).mayB = (decide (m ≥ 0) && decide (m ≤ 1000) && decide (e ≥ 1) && decide (e ≤ 100) && decide (r ≥ 1) && decide (r ≤ 10000)) := by
  have h1 : mayName [97] = true := by decide
  have h2 : mayName [111, 112, 115] = true := by decide
  simp [Rul.mayB, rulB, right1, h1, h2, onceB, keysOf, Bool.and_assoc]
  rfl
theorem w_bounds (H : AHeap) (m e r : Int) : ACalls Tryz.prog 5 [i64 m, i64 e, i64 r] H (.bool true) H := by
  refine acalls_pure MixT Tryz.func5 (by decide) rfl ?_
  rw [d5]
  refine bndC_of (c_awake H) ?_
  simp
  obtain ⟨nv, K, g1, g2, g3⟩ := c_parse1 H
  have hn1 : nv.cells = #[nv] := by obtain ⟨cl, h, _⟩ := g3; exact h.cell1
  have hn2 : storable nv = true := by obtain ⟨cl, h, _⟩ := g3; exact h.stor
  have hn3 : nv.oneCell' = true := by obtain ⟨cl, h, _⟩ := g3; exact h.one
  refine bndC_of g1 ?_
  simp +contextual [hn1, hn2, hn3]
  refine bndG_t (i64 (errno (rulB m e r).mayB)) _ (c_rule (r := rulB m e r) (nv := nv) (mv := .slice none 0 0) (g3.pre (.app _ _)) .nil (by simp [rulB])) ?_
  have hb := fun (H : AHeap) X Y a b => aBin_beq2 (P := Tryz.prog) (H := H) (T := 4) (x := X) (y := Y) (a := a) (b := b) (by simp)
  simp [hb, errno_zero, bounds_mayB]
  obtain ⟨Y, rfl⟩ := g2
  exact ⟨_, List.append_assoc _ _ _⟩
/-! ### CheckTimes -/
theorem seven {α : Type} {d : List α} (hd : d.length = 7) : ∃ d0 d1 d2 d3 d4 d5 d6, d = [d0, d1, d2, d3, d4, d5, d6] := by
  match d, hd with
  | [d0, d1, d2, d3, d4, d5, d6], _ => exact ⟨d0, d1, d2, d3, d4, d5, d6, rfl⟩
theorem days_loop {H : AHeap} {k : Value → AHeap → Prop} {d : List Bool} (hd : d.length = 7) {db : Nat} (hc : hcells H db = some (d.map .bool)) (fr to : Int) (hk : k (.bool true) H) :
    ∀ (r : List Bool) (i : Nat) (sm : Bool) (s0 s4 s5 s6 s9 s10 s11 s12 s13 s14 s15 s16 s17 s18 s19 s20 s21 s22 s23 s24 s25 s26 s27 s28 s29 s30 s31 s32 s33 s34 s35 s36 s37 s38 s39 s40 s41 s42 s43 s44 s45 s46 s47 s48 s49 s50 s51 : Value), d.drop i = r → i ≤ 7 → (sm || r.any id) = d.any id →
      L4x0 (r.length + 1) k [s0, i64 fr, i64 to, .pointer (some ⟨db, 0, some 7⟩), s4, s5, s6, .bool sm, i64 i, s9, s10, s11, s12, s13, s14, s15, s16, s17, s18, s19, s20, s21, s22, s23, s24, s25, s26, s27, s28, s29, s30, s31, s32, s33, s34, s35, s36, s37, s38, s39, s40, s41, s42, s43, s44, s45, s46, s47, s48, s49, s50, s51] H := by
  have hl : hlen H db = some 7 := by rw [hcells_len hc]; simp [hd]
  intro r
  induction r with
  | nil =>
    intro i sm s0 s4 s5 s6 s9 s10 s11 s12 s13 s14 s15 s16 s17 s18 s19 s20 s21 s22 s23 s24 s25 s26 s27 s28 s29 s30 s31 s32 s33 s34 s35 s36 s37 s38 s39 s40 s41 s42 s43 s44 s45 s46 s47 s48 s49 s50 s51 hdr hi hs
    have hle : 7 ≤ i := by have := congrArg List.length hdr; simp [hd] at this; omega
    have : ¬ (i : Int) < 7 := by omega
    rw [List.length_nil, L4x0q]
    simp only [List.any_nil, Bool.or_false] at hs
    obtain ⟨d0, d1, d2, d3, d4, d5, d6, rfl⟩ := seven hd
    have hb := fun (H : AHeap) X Y a b => aBin_beq2 (P := Tryz.prog) (H := H) (T := 4) (x := X) (y := Y) (a := a) (b := b) (by simp)
    simp +contextual [this, hc]
    refine bndC_of (c_mute (m := ⟨[113], [d0, d1, d2, d3, d4, d5, d6], fr, to⟩) rfl) ?_
    have hm : Mut.mayB ⟨[113], [d0, d1, d2, d3, d4, d5, d6], fr, to⟩ = (sm && decide (0 ≤ fr) && decide (fr < 1440) && decide (1 ≤ to) && decide (to ≤ 1440) && (fr != to)) := by
      have h1 : mayName [113] = true := by decide
      have h2 : [d0, d1, d2, d3, d4, d5, d6].any (true == ·) = sm := by rw [hs]; simp
      have h3 : decide (fr ≤ 1439) = decide (fr < 1440) := by rw [decide_eq_decide]; omega
      unfold Mut.mayB
      simp only [h1, h2, h3, List.all_cons, List.all_nil, id, ge_iff_le, Bool.true_and, Bool.and_true, Bool.and_assoc]
    simp [hb, errno_zero, hm]
    exact hk
  | cons x r ih =>
    intro i sm s0 s4 s5 s6 s9 s10 s11 s12 s13 s14 s15 s16 s17 s18 s19 s20 s21 s22 s23 s24 s25 s26 s27 s28 s29 s30 s31 s32 s33 s34 s35 s36 s37 s38 s39 s40 s41 s42 s43 s44 s45 s46 s47 s48 s49 s50 s51 hdr hi hs
    have hb : d[i]? = some x := by rw [← List.head?_drop, hdr]; rfl
    have hlt : i < 7 := by have := (List.getElem?_eq_some_iff.1 hb).1; omega
    have hlti : (i : Int) < 7 := by omega
    rw [List.length_cons, L4x0q]
    have hd1 : d.drop (i + 1) = r := by rw [← List.drop_drop, hdr]; rfl
    cases sm with
    | true =>
      simp [hlti, show i + 1 < 2 ^ 63 by omega]
      exact ih (i + 1) true _ _ _ _ _ _ _ _ _ _ _ _ _ _ _ _ _ _ _ _ _ _ _ _ _ _ _ _ _ _ _ _ _ _ _ _ _ _ _ _ _ _ _ _ _ _ _ hd1 (by omega) (by simpa using hs)
    | false =>
      simp [hlt, hlti, aIndexAddr, hl, hc, hd, (List.getElem?_eq_some_iff.1 hb).2, show i + 1 < 2 ^ 63 by omega]
      exact ih (i + 1) x _ _ _ _ _ _ _ _ _ _ _ _ _ _ _ _ _ _ _ _ _ _ _ _ _ _ _ _ _ _ _ _ _ _ _ _ _ _ _ _ _ _ _ _ _ _ _ hd1 (by omega) (by simpa using hs)
theorem w_times (H : AHeap) (d : List Bool) (hd : d.length = 7) (fr to : Int) : ACalls Tryz.prog 4 [.agg (d.map .bool).toArray, i64 fr, i64 to] H (.bool true) H := by
  refine acalls_pure MixT Tryz.func4 (by decide) rfl ?_
  rw [d4]
  have hone : ∀ v ∈ d.map Value.bool, v.oneCell' = true := by
    intro v hv
    obtain ⟨b, _, rfl⟩ := List.mem_map.1 hv
    rfl
  rw [aNew_agg (by simp [storable])]
  simp only [bndE_some]
  refine bndC_of (c_awake _) ?_
  simp [hd]
  exact ⟨8, by
    have := days_loop (H := H ++ [AObj.cells (d.map .bool) 30]) (db := H.length) (k := fun u H2 => u = .bool true ∧ ∃ X, H2 = H ++ X) hd (by simp) fr to ⟨rfl, _, rfl⟩ d 0 false
    rw [hd] at this
    exact this _ _ _ _ _ _ _ _ _ _ _ _ _ _ _ _ _ _ _ _ _ _ _ _ _ _ _ _ _ _ _ _ _ _ _ _ _ _ _ _ _ _ _ _ _ _ _ rfl (by omega) (by simp)⟩
end Go.Vi
namespace Go.Vi
open Go Go.Proofs

theorem src_flat {z : Nat} {cs : List Value} : ∀ (l : List (List Value)) (o : Nat), (∀ (i : Nat) e, l[i]? = some e → (cs.drop (o + i * z)).take z = e) → (cs.drop o).take (l.length * z) = l.flatten := by
  intro l
  induction l with
  | nil => intro o _; simp
  | cons c r ih =>
    intro o h
    have h0 := h 0 c rfl
    have hr := ih (o + z) fun i e hi => by
      have := h (i + 1) e (by simpa using hi)
      rw [← this, Nat.add_mul, Nat.one_mul]; congr 2; omega
    rw [List.length_cons, Nat.add_mul, Nat.one_mul, Nat.add_comm, List.take_add, List.drop_drop, hr, List.flatten_cons]
    simpa using congrArg (· ++ r.flatten) h0
theorem Arr.src {H z v l} (h : Arr H z v l) : aSrc H z v = some (l.length, l.flatten) := by
  cases h with
  | nil => rfl
  | mk b o m n c cs l hn hcs hm hle hel =>
    subst hn
    simp only [aSrc, hcs]
    rw [if_pos ⟨hm.symm, by omega⟩, src_flat l o hel]
theorem Arr.all_len {H z v l} (h : Arr H z v l) : ∀ c ∈ l, c.length = z := by
  intro c hc
  obtain ⟨i, hi⟩ := List.getElem?_of_mem hc
  exact h.elen hi
theorem Gro.pushN {P : Program} {K : AHeap} {lo z by_ : Nat} {T Ts : TypeId} {v x : Value} {cl ds : List (List Value)} (h : Gro K lo z T v cl) (hT : aElem P Ts = some (T, z, by_)) (hsq : isSeq P Ts = true) (hc : ∀ c ∈ ds, c.length = z) (hlo : lo ≤ K.length)
    (hx : aSrc K z x = some (ds.length, ds.flatten)) (hb : (cl.length + ds.length) * by_ ≤ 140737488355328) (hn : cl.length + ds.length ≤ 9223372036854775807) :
    ∃ v' K', aBuiltin P K .append #[Ts, Ts] [v, x] = some (v', K') ∧ Gro K' lo z T v' (cl ++ ds) ∧ (∀ b o, b < lo → K[b]? = some o → K'[b]? = some o) ∧ K.length ≤ K'.length ∧ (∀ H, Pre H K → H.length ≤ lo → Pre H K') := by
  by_cases hd : ds = []
  · subst hd
    refine ⟨v, K, ?_, by simpa using h, fun b o _ h => h, Nat.le_refl _, fun H p _ => p⟩
    cases h with
    | nil => simp at hx; simp [aBuiltin, aAppend, hT, hx, hsq]
    | mk bb cl h1 h2 h3 h4 =>
      have hfl := flat_len h4
      simp at hx
      simp [aBuiltin, aAppend, hT, hx, hsq, h2, hfl]
      rw [putCells_eq _ _ _ (by rw [hfl]; simp)]
      simp
      exact set_same h2
  have hdl : 0 < ds.length := List.length_pos_iff.2 hd
  have hfd := flat_len hc
  cases h with
  | nil =>
    refine ⟨.slice (some ⟨K.length, 0, some (ds.length * z)⟩) ds.length ds.length, K ++ [.cells ds.flatten T], ?_, ?_, fun b o hb ho => get_more ho, by simp, fun H p _ => p.more _⟩
    · have hb' : ds.length * by_ ≤ 140737488355328 := by simpa using hb
      have hn' : ds.length ≤ 9223372036854775807 := by simpa using hn
      have hne : ¬ ds.length = 0 := by omega
      simp only [aBuiltin, aAppend, hT, hx, hsq, if_true, hne, if_false, hb', hn', and_self, hfd]
    · have := Gro.mk (K := K ++ [.cells ds.flatten T]) (lo := lo) (z := z) (T := T) K.length ds hlo (by simp) hd hc
      simpa using this
  | mk bb cl h1 h2 h3 h4 =>
    have hfl := flat_len h4
    have hlt := (List.getElem?_eq_some_iff.1 h2).1
    refine ⟨.slice (some ⟨bb, 0, some ((cl.length + ds.length) * z)⟩) (cl.length + ds.length) (cl.length + ds.length), K.set bb (.cells (cl ++ ds).flatten T), ?_, ?_, fun b o hb ho => by rw [List.getElem?_set_ne (by omega)]; exact ho, by simp, fun H p hH => p.set (by omega)⟩
    · have e1 : cl.length * z = cl.flatten.length := hfl.symm
      have e2 : ¬ cl.length + ds.length ≤ cl.length := by omega
      simp only [aBuiltin, aAppend, hT, hx, hsq, if_true, h2, hfl, Nat.zero_add, Nat.le_refl, and_self, e2, if_false, hb, hn]
      have e3 : (cl.flatten.take (cl.length * z)) = cl.flatten := List.take_of_length_le (by omega)
      rw [e3]
      simp
    · have := Gro.mk (K := K.set bb (.cells (cl ++ ds).flatten T)) (lo := lo) (z := z) (T := T) bb (cl ++ ds) h1 (List.getElem?_set_self hlt) (by simp [h3]) (by
        intro x hx
        rw [List.mem_append] at hx
        rcases hx with hx | hx
        · exact h4 x hx
        · exact hc x hx)
      simpa using this
theorem widest_ge : ∀ (l : List Nod) (m : Int), m ≤ widest m l := by
  intro l
  induction l with
  | nil => intro m; simp [widest]
  | cons n r ih =>
    intro m
    rw [widest]
    refine Int.le_trans ?_ (ih _)
    split
    · split <;> omega
    · omega
theorem widest_max : ∀ (l : List Nod) (m k : Int), widest (max m k) l = max m (widest k l) := by
  intro l
  induction l with
  | nil => intro m k; simp [widest]
  | cons n r ih =>
    intro m k
    rw [widest, widest, ← ih]
    congr 1
    split
    · split <;> split <;> omega
    · rfl
theorem widest_app : ∀ (a b : List Nod) (m : Int), widest m (a ++ b) = widest (widest m a) b := by
  intro a
  induction a with
  | nil => intro b m; rfl
  | cons n r ih => intro b m; rw [List.cons_append, widest, widest, ih]
theorem widest_two (a b : List Nod) : widest 0 (a ++ b) = max (widest 0 a) (widest 0 b) := by
  rw [widest_app, ← widest_max]
  congr 1
  have := widest_ge a 0
  omega
theorem NodesAt.app {K : AHeap} {lo : Nat} {v : Value} {a b : List Nod} {ca cb : List (List Value)} {T : TypeId} (h : Gro K lo 8 T v (ca ++ cb)) (la : ca.length = a.length) (lb : cb.length = b.length)
    (ha : ∀ (i : Nat) n, a[i]? = some n → ∃ sv, ca[i]? = some (n.cells sv) ∧ MatsAt K sv n.sel ∧ n.sel.length < 2 ^ 63) (hb : ∀ (i : Nat) n, b[i]? = some n → ∃ sv, cb[i]? = some (n.cells sv) ∧ MatsAt K sv n.sel ∧ n.sel.length < 2 ^ 63) : NodesAt K v (a ++ b) := by
  refine ⟨_, h.arr, by simp [la, lb], fun i n hi => ?_⟩
  by_cases hia : i < a.length
  · rw [List.getElem?_append_left hia] at hi
    obtain ⟨sv, q1, q2⟩ := ha i n hi
    exact ⟨sv, by rw [List.getElem?_append_left (by omega)]; exact q1, q2⟩
  · rw [List.getElem?_append_right (by omega)] at hi
    obtain ⟨sv, q1, q2⟩ := hb _ n hi
    exact ⟨sv, by rw [List.getElem?_append_right (by omega), la]; exact q1, q2⟩
theorem w_widest {H : AHeap} {av bv : Value} {a b : List Nod} (ha : NodesAt H av a) (hb : NodesAt H bv b) (hal : a.length < 2 ^ 63) (hbl : b.length < 2 ^ 63) : ACalls Tryz.prog 6 [av, bv] H (.bool true) H := by
  refine acalls_pure MixT Tryz.func6 (by decide) rfl ?_
  rw [d6]
  refine bndC_of (c_awake H) ?_
  obtain ⟨ca, ha1, ha2, ha3⟩ := ha
  obtain ⟨cb, hb1, hb2, hb3⟩ := hb
  have hla := ha1.len (P := Tryz.prog) (T := 35) (e := 76) (by simp)
  have hlb := hb1.len (P := Tryz.prog) (T := 35) (e := 76) (by simp)
  simp only [ha2] at hla
  simp only [hb2] at hlb
  simp [hla]
  by_cases h1 : 100 < a.length
  · have h1I : (100 : Int) < a.length := by omega
    simp [h1I]
  have h1I : ¬ (100 : Int) < a.length := by omega
  simp [h1I, hlb]
  by_cases h2 : 100 < b.length
  · have h2I : (100 : Int) < b.length := by omega
    simp [h2I]
  have h2I : ¬ (100 : Int) < b.length := by omega
  simp [h2I]
  obtain ⟨v1, K1, p1, p2, p3, p4, p5⟩ := Gro.pushN (P := Tryz.prog) (K := H) (lo := H.length) (v := .slice none 0 0) (cl := []) (ds := ca) (by_ := 72) .nil nel1 nel2 ha1.all_len (Nat.le_refl _) ha1.src (by simp; omega) (by simp; omega)
  have hp1 := p5 H (Pre.refl _) (Nat.le_refl _)
  rw [p1]
  simp only [bndE_some]
  have hb1' := hb1.pre hp1
  simp only [List.nil_append] at p2
  obtain ⟨v2, K2, q1, q2, q3, q4, q5⟩ := Gro.pushN (P := Tryz.prog) (K := K1) (lo := H.length) (ds := cb) (by_ := 72) p2 nel1 nel2 hb1'.all_len p4 hb1'.src (by omega) (by omega)
  have hp2 := q5 H hp1 (Nat.le_refl _)
  rw [q1]
  simp only [bndE_some]
  have hna : NodesAt K2 av a := NodesAt.pre ⟨ca, ha1, ha2, ha3⟩ hp2
  have hnb : NodesAt K2 bv b := NodesAt.pre ⟨cb, hb1, hb2, hb3⟩ hp2
  have hnab : NodesAt K2 v2 (a ++ b) := NodesAt.app q2 ha2 hb2
    (fun i n hi => by obtain ⟨sv, r1, r2, r3⟩ := ha3 i n hi; exact ⟨sv, r1, r2.pre hp2, r3⟩) (fun i n hi => by obtain ⟨sv, r1, r2, r3⟩ := hb3 i n hi; exact ⟨sv, r1, r2.pre hp2, r3⟩)
  refine bndC_of (c_window hnab (by simp; omega)) ?_
  refine bndC_of (c_window hna hal) ?_
  refine bndC_of (c_window hnb hbl) ?_
  have hmx : (if widest 0 b > widest 0 a then widest 0 b else widest 0 a) = widest 0 (a ++ b) := by rw [widest_two]; split <;> omega
  simp [hmx]
  refine bndG_t (i64 (widest 0 a)) _ (c_window hna hal) ?_
  have h0 := widest_ge a 0
  simp [h0]
  exact hp2
end Go.Vi
