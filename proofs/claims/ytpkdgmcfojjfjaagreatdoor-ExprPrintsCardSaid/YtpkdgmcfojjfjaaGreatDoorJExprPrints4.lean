/- All tokens. All tokens: the iterator, and the range over it. The reader of conditions: tokens. Numbers' texts. Reading a condition. Numbers' texts that are refused. Package variables, as the world lays them, in the abstract memory. Arguments: matchers, nodes, days, mutes, rules, configurations. Numbers are written: how many digits there are. Nodes as they are handed over, with their numbers; the powers of ten as the world lays them. What the functions' bodies come to. Numbers are written: digits. Numbers are written: their texts. Numbers are written: Itoa, TrimRight, fixed.Print. strings.Builder grows ahead; strings.Join. Matchers are written. Matchers are written: the loop. Conditions are written. Right nodes are written: Print. The reader of conditions, whatever it reads: tokens. The reader of conditions, whatever it reads: windows, values, matchers. The reader of conditions, whatever it reads: matchers. The reader of conditions, whatever it reads: comparisons. Conditions, whatever is read. Read and Parse, whatever they read. Statements of chapter 10: what they share. The document's own answer: sorts of texts. -/
import Derived.Test.YtpkdgmcfojjfjaaGreatDoorJExprPrints3
import Derived.Test.YtpkdgmcfojjfjaaGreatDoorJExprPrints2
import Derived.LaidSub
import Derived.Lay
import Derived.MakeChecks
import Derived.ChangeMaps5
import Derived.Test.YtpkdgmcfojjfjaaGreatDoorChecked
namespace Go.Vi
open Go Go.Proofs
def blanks : List UInt8 := [32,9,10,13]
def notNl (b : UInt8) : Bool := (b.toNat : Int) != 10
def skipF : Nat → List UInt8 → Nat
 | 0,_ => 0
 | _ + 1,[] => 0
 | f + 1, b :: r => if hasB blanks b = true then 1 + skipF f r
   else if ((b.toNat : Int) == 35) = true then runF notNl (b :: r) + skipF f ((b :: r).drop (runF notNl (b :: r)))
   else 0
def skipN (l : List UInt8) (a : Nat) : Nat := a + skipF (l.length - a) (l.drop a)
section
variable {P : Program}
variable {D : DrawK}
end
theorem foldl_put : ∀ (c : List Value) (k : Nat) (cells : List Value),k + c.length ≤ cells.length →
  (c.zipIdx k).foldl (fun (cs : Array Value) (p : Value × Nat) => cs.setIfInBounds p.2 p.1) cells.toArray = (cells.take k ++ c ++ cells.drop (k + c.length)).toArray := by
 intro c
 induction c with
 | nil => intro k cells _; simp
 | cons v r ih =>
   intro k cells h
   simp only [List.length_cons] at h
   simp only [List.zipIdx_cons,List.foldl_cons,List.setIfInBounds_toArray]
   have := ih (k + 1) (cells.set k v) (by simp; omega)
   rw [this]
   congr 1
   rw [List.take_set,List.set_eq_take_append_cons_drop,if_pos (by rw [List.length_take]; omega),List.drop_set_of_lt (by omega)]
   simp [List.take_take,Nat.add_assoc,Nat.add_comm 1]
theorem sliceLitA {P : Program} {H : AHeap} {T e : TypeId} {zs : Array Value} {c : List Value} (hs : aBuildSlice P H T 1 [(0,.agg c.toArray)] = bslV e zs H 1 [(0,.agg c.toArray)]) (hz : c.length = zs.size) (ho : ∀ v ∈ c,v.oneCell' = true) (hb : zs.size ≤ 16777216) :
  sliceLit P H T 1 [(0,.agg c.toArray)] (.slice (some ⟨H.length,0,some c.length⟩) 1 1) (H ++ [.cells c e]) := by
 refine ⟨?_,?_⟩
 · simpa [storable] using ho
 · rw [hs]
   unfold bslV
   have hr : (repCells zs (1 * zs.size)).size = zs.size := by simp [repCells]
   have hf : Instr.fill (fun i => some (i * zs.size,zs.size)) (repCells zs (1 * zs.size)) [(0,.agg c.toArray)] = some c.toArray := by
    generalize hR : repCells zs (1 * zs.size) = R at hr
    obtain ⟨R⟩ := R
    simp only [List.size_toArray] at hr
    simp only [Instr.fill,cells_agg,List.size_toArray,hz,Nat.zero_mul]
    rw [if_neg (by simp; omega)]
    have := foldl_put c 0 R (by omega)
    rw [List.take_zero,List.nil_append,Nat.zero_add,List.drop_eq_nil_of_le (by omega),List.append_nil] at this
    refine congrArg some (Eq.trans ?_ this)
    rw [← Array.foldl_toList]
    simp
   rw [hf,if_pos (by omega)]
   simp only [List.size_toArray]
   rw [if_pos ⟨by omega,by simpa using ho⟩]
inductive Gro (K : AHeap) (lo z : Nat) (T : TypeId) : Value → List (List Value) → Prop
 | nil : Gro K lo z T (.slice none 0 0) []
 | mk (bb : Nat) (cl : List (List Value)) (h1 : lo ≤ bb) (h2 : K[bb]? = some (.cells cl.flatten T)) (h3 : cl ≠ []) (h4 : ∀ c ∈ cl,c.length = z) : Gro K lo z T (.slice (some ⟨bb,0,some (cl.length * z)⟩) cl.length cl.length) cl
theorem Gro.one {K lo z T v cl} (h : Gro K lo z T v cl) : v.oneCell' = true := by cases h <;> rfl
theorem Gro.cells {K lo z T v cl} (h : Gro K lo z T v cl) : v.cells = #[v] := by cases h <;> rfl
theorem Gro.stor {K lo z T v cl} (h : Gro K lo z T v cl) : storable v = true := by cases h <;> rfl
theorem Gro.app {K lo z T v cl} {X : AHeap} (h : Gro K lo z T v cl) : Gro (K ++ X) lo z T v cl := by
 cases h with
 | nil => exact .nil
 | mk bb cl h1 h2 h3 h4 => exact .mk bb cl h1 (get_more h2) h3 h4
theorem Gro.set {K lo z T v cl} {b : Nat} {o : AObj} (h : Gro K lo z T v cl) (hb : b < lo) : Gro (K.set b o) lo z T v cl := by
 cases h with
 | nil => exact .nil
 | mk bb cl h1 h2 h3 h4 => exact .mk bb cl h1 (by rw [List.getElem?_set_ne (by omega)]; exact h2) h3 h4
theorem flat_len {z : Nat} : ∀ {cl : List (List Value)},(∀ c ∈ cl,c.length = z) → cl.flatten.length = cl.length * z := by
 intro cl
 induction cl with
 | nil => intro _; simp
 | cons c r ih =>
   intro h
   rw [List.flatten_cons,List.length_append,ih fun x hx => h x (by simp [hx]),h c (by simp),List.length_cons,Nat.add_mul]
   omega
theorem flat_at {z : Nat} : ∀ {cl : List (List Value)} {i : Nat} {e : List Value},(∀ c ∈ cl,c.length = z) → cl[i]? = some e → (cl.flatten.drop (i * z)).take z = e := by
 intro cl
 induction cl with
 | nil => intro i e _ h; simp at h
 | cons c r ih =>
   intro i e h hi
   have hc := h c (by simp)
   cases i with
   | zero =>
     simp at hi
     subst hi
     rw [Nat.zero_mul,List.drop_zero,List.flatten_cons,List.take_append_of_le_length (by omega),List.take_of_length_le (by omega)]
   | succ i =>
     have := ih (fun x hx => h x (by simp [hx])) (by simpa using hi : r[i]? = some e)
     rw [List.flatten_cons,Nat.add_mul,Nat.one_mul,Nat.add_comm,← List.drop_drop,List.drop_append_of_le_length (by omega)]
     rw [show c.drop z = [] by simp; omega,List.nil_append]
     exact this
theorem Gro.arr {K lo z T v cl} (h : Gro K lo z T v cl) : Arr K z v cl := by
 cases h with
 | nil => exact .nil
 | mk bb cl h1 h2 h3 h4 =>
   refine .mk bb 0 _ _ _ cl.flatten cl rfl (by simp [hcells,h2]) (flat_len h4) (by omega) fun i e hi => ?_
   rw [Nat.zero_add]
   exact flat_at h4 hi
theorem Gro.push {P : Program} {K : AHeap} {lo z by_ : Nat} {T Ts : TypeId} {v x : Value} {cl : List (List Value)} {c : List Value} (h : Gro K lo z T v cl) (hT : aElem P Ts = some (T,z,by_)) (hsq : isSeq P Ts = true) (hc : c.length = z) (hlo : lo ≤ K.length)
  (hx : aSrc K z x = some (1,c)) (hb : (cl.length + 1) * by_ ≤ 140737488355328) (hn : cl.length + 1 ≤ 9223372036854775807) :
  ∃ v' K',aBuiltin P K .append #[Ts,Ts] [v,x] = some (v',K') ∧ Gro K' lo z T v' (cl ++ [c]) ∧ (∀ b o,b < lo → K[b]? = some o → K'[b]? = some o) ∧ K.length ≤ K'.length ∧ (∀ H,Pre H K → H.length ≤ lo → Pre H K') := by
 cases h with
 | nil =>
   refine ⟨.slice (some ⟨K.length,0,some z⟩) 1 1,K ++ [.cells c T],?_,?_,fun b o hb ho => get_more ho,by simp,fun H p _ => p.more _⟩
   · have hb' : by_ ≤ 140737488355328 := by simpa using hb
     simp [aBuiltin,aAppend,hT,hx,hsq,hb',hc]
   · have := Gro.mk (K := K ++ [.cells c T]) (lo := lo) (z := z) (T := T) K.length [c] hlo (by simp) (by simp) (by simpa using hc)
     simpa using this
 | mk bb cl h1 h2 h3 h4 =>
   have hfl := flat_len h4
   have hlt := (List.getElem?_eq_some_iff.1 h2).1
   refine ⟨.slice (some ⟨bb,0,some ((cl.length + 1) * z)⟩) (cl.length + 1) (cl.length + 1),K.set bb (.cells (cl ++ [c]).flatten T),?_,?_,fun b o hb ho => by rw [List.getElem?_set_ne (by omega)]; exact ho,by simp,fun H p hH => p.set (by omega)⟩
   · have e1 : cl.length * z = cl.flatten.length := hfl.symm
     have e2 : ¬ cl.length + 1 ≤ cl.length := by omega
     simp only [aBuiltin,aAppend,hT,hx,hsq,if_true,h2,hfl,Nat.zero_add,Nat.le_refl,and_self,e2,if_false,hb,hn]
     have e3 : (cl.flatten.take (cl.length * z)) = cl.flatten := List.take_of_length_le (by omega)
     rw [e3]
     simp
   · have := Gro.mk (K := K.set bb (.cells (cl ++ [c]).flatten T)) (lo := lo) (z := z) (T := T) bb (cl ++ [c]) h1 (List.getElem?_set_self hlt) (by simp) (by
      intro x hx
      rw [List.mem_append] at hx
      rcases hx with hx | hx
      · exact h4 x hx
      · simp at hx; rw [hx]; exact hc)
     simpa using this
end Go.Vi
namespace Go.Vi
open Go Go.Proofs
def lexF (l : List UInt8) : Nat → Nat → List Tok × Option Nat
 | 0,_ => ([],none)
 | f + 1, a => if a < l.length then
     (if (oneF (l.drop a) a).2 = 0 then ([],some a)
      else ((oneF (l.drop a) a).1 :: (lexF l f (skipN l (a + (oneF (l.drop a) a).2))).1,(lexF l f (skipN l (a + (oneF (l.drop a) a).2))).2))
   else ([],none)
theorem oneF_le (s : List UInt8) (a : Nat) : (oneF s a).2 ≤ s.length := by
 unfold oneF
 cases s with
 | nil => simp
 | cons b r =>
   simp only
   split
   · exact runF_le _ _
   · split
     · exact numLen_le _
     · split
       · have := textF_len r.length r [] 1 (Nat.le_refl _); simp; omega
       · exact signF_le (b :: r)
theorem skipN_ge (l : List UInt8) (a : Nat) : a ≤ skipN l a := by unfold skipN; omega
def allTok (l : List UInt8) : List Tok × Nat × Int :=
 if 4096 < l.length then ([],0,3) else match (lexF l (l.length + 1) (skipN l 0)).2 with
  | none => ((lexF l (l.length + 1) (skipN l 0)).1,0,0)
  | some a => ([],a,90)
end Go.Vi
namespace Go.Vi
open Go Go.Proofs
@[simp] theorem nilV_ptr (b o m : Nat) : nilV (.pointer (some ⟨b,o,some m⟩)) = some (.pointer (some ⟨b,o,some m⟩)) := rfl
def isT (ts : List Tok) (a : Nat) (k : Int) (s : List UInt8) : Bool := (ts[a]?).any fun t => t.kind == k && t.text == s
theorem isT_lt {ts a k s} (h : isT ts a k s = true) : a < ts.length := by
 unfold isT at h
 by_cases ha : a < ts.length
 · exact ha
 · rw [List.getElem?_eq_none (by omega)] at h; cases h
end Go.Vi
namespace Go.Vi
open Go Go.Proofs
theorem bnd_of {x : Option Value} {v : Value} {q : QV} (h : x = some v) (k : q.f v) : @bnd x q := by rw [h,bnd_some]; exact k
def hasPre (l p : List UInt8) : Bool := decide (p.length ≤ l.length) && decide (l.take p.length = p)
def cutPre (l p : List UInt8) : List UInt8 := if hasPre l p = true then l.drop p.length else l
def scanF : List UInt8 → Nat → Int → Int × Bool
 | [],_,pt => (pt,true)
 | b :: r,i,pt => if isDig b = true then scanF r (i + 1) pt else if ((b.toNat : Int) == 46 && decide (pt < 0)) = true then scanF r (i + 1) i else (pt,false)
def cutT (s : List UInt8) (pt : Int) (ok : Bool) : List UInt8 × List UInt8 × Bool :=
 if pt < 0 then (s,[],ok) else (s.take pt.toNat,s.drop (pt.toNat + 1),ok && !decide (s.take pt.toNat = []) && !decide (s.drop (pt.toNat + 1) = []) && decide ((s.drop (pt.toNat + 1)).length ≤ 3))
def cutF (s : List UInt8) : List UInt8 × List UInt8 × Bool := cutT s (scanF s 0 (-1)).1 ((scanF s 0 (-1)).2 && !s.isEmpty)
def digF (x : Int) : List UInt8 → Int
 | [] => x
 | d :: r => if x > (maxFix - ((d.toNat : Int) - 48)).tdiv 10 then maxFix else digF (10 * x + ((d.toNat : Int) - 48)) r
def parF (s : List UInt8) : Int × Int :=
 let c := cutF (cutPre s [45])
 if c.2.2 = true then
  let x := digF 0 (c.1 ++ c.2.1 ++ List.replicate (3 - c.2.1.length) 48)
  (if hasPre s [45] = true then -x else x,0)
 else (0,10)
theorem scanF_pt : ∀ (r : List UInt8) (i : Nat) (pt : Int),0 ≤ pt → (scanF r i pt).2 = true → (scanF r i pt).1 = pt ∧ ∀ b ∈ r,isDig b = true := by
 intro r
 induction r with
 | nil => intro i pt _ _; simp [scanF]
 | cons b r ih =>
   intro i pt hp h
   have hp' : ¬ pt < 0 := by omega
   rw [scanF] at h ⊢
   by_cases hd : isDig b = true
   · rw [if_pos hd] at h ⊢
     obtain ⟨h1,h2⟩ := ih _ _ hp h
     refine ⟨h1,fun c hc => ?_⟩
     rcases List.mem_cons.1 hc with rfl | hc
     · exact hd
     · exact h2 c hc
   · rw [if_neg hd] at h
     simp [hp'] at h
theorem scanF_none : ∀ (r : List UInt8) (i : Nat),(scanF r i (-1)).2 = true → ((scanF r i (-1)).1 = -1 ∧ ∀ b ∈ r,isDig b = true) ∨
  ∃ j : Nat,(scanF r i (-1)).1 = ((i + j : Nat) : Int) ∧ j < r.length ∧ (∀ b ∈ r.take j,isDig b = true) ∧ ∀ b ∈ r.drop (j + 1),isDig b = true := by
 intro r
 induction r with
 | nil => intro i _; left; simp [scanF]
 | cons b r ih =>
   intro i h
   rw [scanF] at h ⊢
   by_cases hd : isDig b = true
   · rw [if_pos hd] at h ⊢
     rcases ih _ h with ⟨h1,h2⟩ | ⟨j,h1,h2,h3,h4⟩
     · left
       refine ⟨h1,fun c hc => ?_⟩
       rcases List.mem_cons.1 hc with rfl | hc
       · exact hd
       · exact h2 c hc
     · right
       refine ⟨j + 1,by rw [h1]; congr 1; omega,by simp; omega,fun c hc => ?_,by simpa using h4⟩
       rw [List.take_succ_cons] at hc
       rcases List.mem_cons.1 hc with rfl | hc
       · exact hd
       · exact h3 c hc
   · rw [if_neg hd] at h ⊢
     split at h
     · rename_i hq
       rw [if_pos hq]
       obtain ⟨h1,h2⟩ := scanF_pt r (i + 1) i (by omega) h
       exact .inr ⟨0,by rw [h1]; rfl,by simp,by simp,by simpa using h2⟩
     · cases h
theorem cutF_ok {s : List UInt8} (h : (cutF s).2.2 = true) : (∀ b ∈ (cutF s).1 ++ (cutF s).2.1,isDig b = true) ∧ (cutF s).2.1.length ≤ 3 ∧ (cutF s).1.length + (cutF s).2.1.length ≤ s.length := by
 unfold cutF cutT at *
 by_cases hp : (scanF s 0 (-1)).1 < 0
 · simp only [if_pos hp] at h ⊢
   simp only [Bool.and_eq_true] at h
   rcases scanF_none s 0 h.1 with ⟨h1,h2⟩ | ⟨j,h1,_⟩
   · simp; exact h2
   · rw [h1] at hp; omega
 · simp only [if_neg hp] at h ⊢
   simp only [Bool.and_eq_true,decide_eq_true_eq] at h
   rcases scanF_none s 0 h.1.1.1.1 with ⟨h1,h2⟩ | ⟨j,h1,h2,h3,h4⟩
   · rw [h1] at hp; omega
   · rw [h1] at h ⊢
     simp only [Nat.zero_add,Int.toNat_natCast] at h ⊢
     refine ⟨fun b hb => ?_,h.2,?_⟩
     · rcases List.mem_append.1 hb with hb | hb
       · exact h3 b hb
       · exact h4 b hb
     · simp; omega
theorem digF_range : ∀ (l : List UInt8) (x : Int),(∀ b ∈ l,isDig b = true) → 0 ≤ x → x ≤ maxFix → 0 ≤ digF x l ∧ digF x l ≤ maxFix := by
 intro l
 induction l with
 | nil => intro x _ h1 h2; exact ⟨h1,h2⟩
 | cons d r ih =>
   intro x hd h1 h2
   have h := hd d (by simp)
   simp only [isDig,Bool.and_eq_true,decide_eq_true_eq] at h
   rw [digF]
   split
   · simp [maxFix]
   · rename_i hx
     have : x ≤ (maxFix - ((d.toNat : Int) - 48)).tdiv 10 := by omega
     have h3 : (maxFix - ((d.toNat : Int) - 48)).tdiv 10 * 10 ≤ maxFix - ((d.toNat : Int) - 48) := by
      rw [Int.tdiv_eq_ediv_of_nonneg (by simp [maxFix]; omega)]; omega
     exact ih _ (fun b hb => hd b (by simp [hb])) (by omega) (by omega)
end Go.Vi
namespace Go.Vi
open Go Go.Proofs
def natF (n : Int) : List UInt8 → Int
 | [] => n
 | d :: r => natF (10 * n + ((d.toNat : Int) - 48)) r
theorem arr_strs {H : AHeap} (l : List (List UInt8)) (T : TypeId) (n : Nat) (hn : n = l.length) : Arr (H ++ [AObj.cells (l.map str) T]) 1 (.slice (some ⟨H.length,0,some n⟩) n n) (strCells l) := by
 subst hn
 refine .mk H.length 0 _ _ _ (l.map str) _ (by simp [strCells]) (by simp [hcells_eq,AObj.rcells]) (by simp) (by simp) fun i e hi => ?_
 simp [strCells] at hi
 obtain ⟨b,hb,rfl⟩ := hi
 rw [Nat.zero_add,Nat.mul_one,← List.map_drop,← List.map_take]
 have : (l.drop i).take 1 = [b] := by
  have hlt := (List.getElem?_eq_some_iff.1 hb).1
  rw [List.drop_eq_getElem_cons hlt,(List.getElem?_eq_some_iff.1 hb).2]; rfl
 rw [this]; rfl
end Go.Vi
namespace Go.Vi
open Go Go.Proofs
theorem aIndexAddr_gl {P : Program} {H : AHeap} {T : TypeId} {g o b n : Nat} {x : Value} (h : gFind H g 0 = some (b,n)) : aIndexAddr P H T (.pointer (some ⟨g,o,none⟩)) x = aIndexAddr P H T (.pointer (some ⟨b,o,some n⟩)) x := by
 unfold aIndexAddr deG; simp only [h]
def pow10s : List Value := (List.range 20).map fun i => .int .u64 (10 ^ i)
def atoF (l : List UInt8) : Option Int := if l ≠ [] ∧ l.all isDig = true ∧ natF 0 l ≤ 9223372036854775807 then some (natF 0 l) else none
theorem natF_ge : ∀ (l : List UInt8) (n : Int),0 ≤ n → l.all isDig = true → 0 ≤ natF n l := by
 intro l
 induction l with
 | nil => intro n h _; exact h
 | cons d r ih =>
   intro n h hd
   simp only [List.all_cons,Bool.and_eq_true] at hd
   have hdd := hd.1
   simp only [isDig,Bool.and_eq_true,decide_eq_true_eq] at hdd
   exact ih _ (by omega) hd.2
end Go.Vi
namespace Go.Vi
open Go Go.RowKit Go.ChangeShapes Go.WideShapes Go.Proofs
variable {P : Program}
theorem WRel.pushGl {w0 s H w} (h : WRel w0 s H w) (hn : NoOwn H) (cs : List Value) (g : Nat) (ho : One cs) (hg : g < w.heap.size)
  (hv : ∀ (i : Nat) v,cs[i]? = some v → ∃ v',w.cell? ⟨g,i,none⟩ = some v' ∧ VRel s H v v') :
  WRel w0 (upd s H.length ⟨g,0,0⟩) (H ++ [.gl g cs]) w ∧ NoOwn (H ++ [.gl g cs]) := by
 have e := Ext.push s H (.gl g cs) ⟨g,0,0⟩
 have hno : NoOwn (H ++ [.gl g cs]) := by
  intro b o hb
  rcases getElem_append_old hb with ⟨_,h1⟩ | ⟨_,rfl⟩
  · exact hn b o h1
  · rfl
 refine ⟨⟨⟨fun b x hx => ?_,fun b b' o o' hb hb' _ ho1 _ => ?_⟩,h.b,h.o.push _ (by rintro _ ⟨rfl⟩; exact ho)⟩,hno⟩
 · rcases getElem_append_old hx with ⟨hb,hx'⟩ | ⟨rfl,rfl⟩
   · exact (h.h.obj b x hx').keep e (fun _ => upd_ne _ _ (by omega)) (fun _ _ => rfl)
   · refine ⟨by rw [upd_self],by rw [upd_self],hg,fun i v hi => ?_⟩
     obtain ⟨v',h1,h2⟩ := hv i v hi
     exact ⟨v',h1,h2.mono e⟩
 · rw [hno b o hb] at ho1; cases ho1
theorem var_cell {w : World} {n : String} {g : Nat} {cs : Array Value} (hg : P.globalNamed n = some g) (h : w.var? P n = some cs) : ∀ (i : Nat) v,cs[i]? = some v → g < w.heap.size ∧ w.cell? ⟨g,i,none⟩ = some v := by
 intro i v hi
 unfold World.var? at h
 rw [hg] at h
 simp only [Option.bind_some] at h
 split at h
 · rename_i q
   cases h
   refine ⟨(Array.getElem?_eq_some_iff.1 q).1,?_⟩
   unfold World.cell?
   simp [q,hi]
 · cases h
theorem laid_find {w : World} {n : String} {d : DataW Unit} : ∀ {l : List (String × DataW Unit)} {ps},DataW.LaidVars P w l ps → (n,d) ∈ l → ∃ g t cs fuel p,P.globalNamed n = some g ∧ (P.globals[g]?).map (·.type) = some t ∧ w.var? P n = some cs ∧ DataW.trod (fun _ => ()) P w 0 (fun _ => true) false fuel t cs.toList = some (d,p) := by
 intro l
 induction l with
 | nil => intro ps _ h; simp at h
 | cons x r ih =>
   intro ps h hm
   obtain ⟨m,e⟩ := x
   obtain ⟨g,t,cs,fuel,p,q,h1,h2,h3,h4,h5,_⟩ := h
   rcases List.mem_cons.1 hm with hx | hm
   · cases hx
     exact ⟨g,t,cs,fuel,p,h1,h2,h3,h4⟩
   · exact ih h5 hm
end Go.Vi
namespace Go.Vi
open Go Go.Proofs Go.Proofs.Tryz
theorem max_lt {n : Nat} (h : n ≤ maxLen) : n < 2 ^ 63 := by unfold maxLen at h; omega
theorem map_ex {α β : Type} {g : α → β} : ∀ {l : List β},(∀ x ∈ l,∃ m,x = g m) → ∃ ms : List α,l = ms.map g := by
 intro l
 induction l with
 | nil => intro _; exact ⟨[],rfl⟩
 | cons x r ih =>
   intro h
   obtain ⟨m,rfl⟩ := h x (by simp)
   obtain ⟨ms,rfl⟩ := ih fun y hy => h y (by simp [hy])
   exact ⟨m :: ms,rfl⟩
theorem len3 {α : Type} {l : List α} (h : l.length = 3) : ∃ a b c,l = [a,b,c] := match l,h with
 | [a,b,c],_ => ⟨a,b,c,rfl⟩
theorem len8 {α : Type} {l : List α} (h : l.length = 8) : ∃ a b c d e f g i,l = [a,b,c,d,e,f,g,i] := match l,h with
 | [a,b,c,d,e,f,g,i],_ => ⟨a,b,c,d,e,f,g,i,rfl⟩
theorem ce_str : prog.cellsOf 9 = 1 := by kernel_rfl
theorem ce_u8 : prog.cellsOf 5 = 1 := by kernel_rfl
theorem ce_int : prog.cellsOf 3 = 1 := by kernel_rfl
theorem ce_i64 : prog.cellsOf 2 = 1 := by kernel_rfl
theorem ce_mats : prog.cellsOf 35 = 1 := by kernel_rfl
theorem ce_mat : prog.cellsOf 75 = 3 := by kernel_rfl
theorem ce_node : prog.cellsOf 37 = 8 := by kernel_rfl
section
variable {H : AHeap} {f : Nat} {v : Value} {cs : List Value}
theorem rd_mat (h : Rd prog H (f + 2) 75 cs) : ∃ m : Mat,cs = m.cells := by
 obtain ⟨hl,hp⟩ := h.parts (ps := [(9,0),(5,1),(9,2)]) (by kernel_rfl)
 rw [ce_mat] at hl
 obtain ⟨x,y,z,rfl⟩ := len3 hl
 simp only [List.forall_mem_cons,ce_str,ce_u8] at hp
 obtain ⟨h0,h1,h2,_⟩ := hp
 obtain ⟨l0,e0,_⟩ := h0.str underlying9
 obtain ⟨b,e1,_⟩ := h1.int underlying5
 obtain ⟨l2,e2,_⟩ := h2.str underlying9
 simp at e0 e1 e2
 exact ⟨⟨l0,b,l2⟩,by simp [Mat.cells,e0,e1,e2]⟩
theorem rd_mats (h : Rd prog H (f + 3) 35 [v]) : ∃ ms,MatsAt H v ms ∧ ms.length < 2 ^ 63 := by
 obtain ⟨v',l,h1,h2,h3,h4⟩ := h.slice underlying35
 cases h1
 rw [ce_mat] at h2
 obtain ⟨ms,rfl⟩ := map_ex fun x hx => rd_mat (h4 x hx)
 exact ⟨ms,h2,by simpa using max_lt h3⟩
theorem rd_list {α : Type} {R : List Value → α → Prop} : ∀ {l : List (List Value)},(∀ x ∈ l,∃ a,R x a) → ∃ q : List α,l.length = q.length ∧ ∀ (i : Nat) a,q[i]? = some a → ∃ c,l[i]? = some c ∧ R c a := by
 intro l
 induction l with
 | nil => intro _; exact ⟨[],rfl,fun i a h => by simp at h⟩
 | cons x r ih =>
   intro h
   obtain ⟨a,ha⟩ := h x (by simp)
   obtain ⟨q,h1,h2⟩ := ih fun y hy => h y (by simp [hy])
   refine ⟨a :: q,by simp [h1],fun i b hb => ?_⟩
   cases i with
   | zero => simp at hb; subst hb; exact ⟨x,rfl,ha⟩
   | succ i => exact h2 i b (by simpa using hb)
end
end Go.Vi
namespace Go.Vi
open Go Go.Proofs Go.Proofs.Tryz
def len2 (n : Nat) : Nat := if n = 0 then 0 else Nat.log2 n + 1
theorem len2_half {n : Nat} (h : 2 ≤ n) : len2 n = len2 (n / 2) + 1 := by
 unfold len2
 rw [if_neg (by omega),if_neg (by omega),Nat.log2_def n,if_pos h]
theorem len2_shift : ∀ (k n : Nat),2 ^ k ≤ n → len2 n = len2 (n / 2 ^ k) + k := by
 intro k
 induction k with
 | zero => intro n _; simp
 | succ k ih =>
   intro n h
   have h2 : 2 ≤ n := by
    have := Nat.one_le_two_pow (n := k)
    rw [Nat.pow_succ] at h; omega
   rw [len2_half h2,ih (n / 2) (by rw [Nat.pow_succ] at h; omega),Nat.div_div_eq_div_mul,Nat.pow_succ,Nat.mul_comm 2]
   omega
theorem len2_bd {n : Nat} (h : 0 < n) : 2 ^ (len2 n - 1) ≤ n ∧ n < 2 ^ len2 n ∧ 1 ≤ len2 n := by
 unfold len2
 rw [if_neg (by omega)]
 exact ⟨by simpa using Nat.log2_self_le (by omega),Nat.lt_log2_self,by omega⟩
abbrev u64 (n : Int) : Value := .int .u64 n
theorem wrapU {x : Int} (h1 : 0 ≤ x) (h2 : x ≤ 18446744073709551615) : IntKind.u64.wrap x = x := by
 unfold IntKind.wrap
 simp only [show IntKind.u64.bits = 64 from rfl,show IntKind.u64.signed = false from rfl]
 simp
 omega
theorem shrN {P : Program} {H : AHeap} {T : TypeId} {x y : Operand} {n k : Nat} (hk : k ≤ 64) : aBin2 P H .shr T x y (u64 n) (u64 k) = some (u64 ((n / 2 ^ k : Nat) : Int)) := by
 rw [aBin_shr _ _ _ _ _ _ _ (by omega)]
 congr 2
 rw [show min ((k : Int)).toNat IntKind.u64.bits = k by simp only [Int.toNat_natCast]; exact Nat.min_eq_left hk]
 rw [Int.fdiv_eq_ediv_of_nonneg _ (Int.le_of_lt (Int.pow_pos (by omega)))]
 norm_cast
theorem len8_at : ∀ b : Nat,b < 256 → l8S.data[b]? = some (UInt8.ofNat (len2 b)) ∧ len2 b ≤ 8 := by decide +kernel
set_option maxRecDepth 20000 in
theorem c_len64 (H : AHeap) {n : Nat} (hn : n < 2 ^ 64) : ACalls prog 167 [u64 n] H (i64 (len2 n)) H := by
 refine acalls_pure MixT func167 (by decide) rfl ?_
 rw [d167]
 have tail : ∀ (x c : Nat) (s1 s3 s4 s5 s6 s7 s8 s9 s10 s11 s12 s13 s14 s15 s16 s17 s18 s19 s20 s21 s22 s23 s24 : Value),x < 256 → c ≤ 56 → len2 n = len2 x + c → S167x2 (fun u H2 => u = i64 (len2 n) ∧ ∃ X,H2 = H ++ X) [u64 x,s1,i64 c,s3,s4,s5,s6,s7,s8,s9,s10,s11,s12,s13,s14,s15,s16,s17,s18,s19,s20,s21,s22,s23,s24] H := by
  intro x c s1 s3 s4 s5 s6 s7 s8 s9 s10 s11 s12 s13 s14 s15 s16 s17 s18 s19 s20 s21 s22 s23 s24 hx hc hl
  rw [S167x2q]
  obtain ⟨q1,q2⟩ := len8_at x hx
  have w1 : IntKind.u8.wrap (x : Int) = x := wrap_u8 (by omega) (by omega)
  have hq : l8S.data.toList[x]? = some (UInt8.ofNat (len2 x)) := by simpa using q1
  have hi := aIndex_at (P := prog) (T := 9) (k := .u8) (l := l8S.data.toList) (i := x) (by simp) hq
  have e : str l8S.data.toList = .string l8S := rfl
  rw [e] at hi
  have w2 : IntKind.i64.wrap ((len2 x : Int) % 256) = (len2 x : Int) := by
   rw [wrap_i64 (by omega) (by omega)]; omega
  have w3 : IntKind.i64.wrap ((c : Int) + len2 x) = len2 n := by rw [hl,wrap_i64 (by omega) (by omega)]; omega
  simp [convV_int,w1,hi,w2,w3]
 have mid : ∀ (x c : Nat) (s1 s3 s4 s5 s6 s7 s8 s9 s10 s11 s12 s13 s14 s15 s16 s17 s18 s19 s20 s21 s22 s23 s24 : Value),x < 2 ^ 16 → c ≤ 48 → len2 n = len2 x + c → S167x1 (fun u H2 => u = i64 (len2 n) ∧ ∃ X,H2 = H ++ X) [u64 x,s1,i64 c,s3,s4,s5,s6,s7,s8,s9,s10,s11,s12,s13,s14,s15,s16,s17,s18,s19,s20,s21,s22,s23,s24] H := by
  intro x c s1 s3 s4 s5 s6 s7 s8 s9 s10 s11 s12 s13 s14 s15 s16 s17 s18 s19 s20 s21 s22 s23 s24 hx hc hl
  rw [S167x1q]
  simp
  refine kifB_bool (fun hq => ?_) (fun hq => ?_)
  · have hq : 2 ^ 8 ≤ x := by simp at hq; omega
    have w1 : IntKind.i64.wrap ((c : Int) + 8) = ((c + 8 : Nat) : Int) := by rw [wrap_i64 (by omega) (by omega)]; omega
    have hs' : ∀ X Y,aBin2 prog H .shr 178 X Y (.int .u64 x) (.int .u64 8) = some (u64 ((x / 2 ^ 8 : Nat) : Int)) := fun X Y => shrN (k := 8) (by omega)
    simp only [hs',bnd_some,aBin_add,w1]
    exact tail (x / 2 ^ 8) (c + 8) _ _ _ _ _ _ _ _ _ _ _ _ _ _ _ _ _ _ _ _ _ _ _ (by omega) (by omega) (by rw [hl,len2_shift 8 x hq]; omega)
  · dsimp only
    exact tail x c _ _ _ _ _ _ _ _ _ _ _ _ _ _ _ _ _ _ _ _ _ _ _ (by simp at hq; omega) (by omega) hl
 have top : ∀ (x c : Nat) (s1 s3 s4 s5 s6 s7 s8 s9 s10 s11 s12 s13 s14 s15 s16 s17 s18 s19 s20 s21 s22 s23 s24 : Value),x < 2 ^ 32 → c ≤ 32 → len2 n = len2 x + c → S167x0 (fun u H2 => u = i64 (len2 n) ∧ ∃ X,H2 = H ++ X) [u64 x,s1,i64 c,s3,s4,s5,s6,s7,s8,s9,s10,s11,s12,s13,s14,s15,s16,s17,s18,s19,s20,s21,s22,s23,s24] H := by
  intro x c s1 s3 s4 s5 s6 s7 s8 s9 s10 s11 s12 s13 s14 s15 s16 s17 s18 s19 s20 s21 s22 s23 s24 hx hc hl
  rw [S167x0q]
  simp
  refine kifB_bool (fun hq => ?_) (fun hq => ?_)
  · have hq : 2 ^ 16 ≤ x := by simp at hq; omega
    have w1 : IntKind.i64.wrap ((c : Int) + 16) = ((c + 16 : Nat) : Int) := by rw [wrap_i64 (by omega) (by omega)]; omega
    have hs' : ∀ X Y,aBin2 prog H .shr 178 X Y (.int .u64 x) (.int .u64 16) = some (u64 ((x / 2 ^ 16 : Nat) : Int)) := fun X Y => shrN (k := 16) (by omega)
    simp only [hs',bnd_some,aBin_add,w1]
    exact mid (x / 2 ^ 16) (c + 16) _ _ _ _ _ _ _ _ _ _ _ _ _ _ _ _ _ _ _ _ _ _ _ (by omega) (by omega) (by rw [hl,len2_shift 16 x hq]; omega)
  · dsimp only
    exact mid x c _ _ _ _ _ _ _ _ _ _ _ _ _ _ _ _ _ _ _ _ _ _ _ (by simp at hq; omega) (by omega) hl
 simp
 refine kifB_bool (fun hq => ?_) (fun hq => ?_)
 · have hq : 2 ^ 32 ≤ n := by simp at hq; omega
   have hs' : ∀ X Y,aBin2 prog H .shr 178 X Y (.int .u64 n) (.int .u64 32) = some (u64 ((n / 2 ^ 32 : Nat) : Int)) := fun X Y => shrN (k := 32) (by omega)
   simp only [hs',bnd_some]
   have t := fun a0 a1 a2 a3 a4 a5 a6 a7 a8 a9 b0 b1 b2 b3 b4 b5 b6 b7 b8 b9 c0 c1 c2 => top (n / 2 ^ 32) 32 a0 a1 a2 a3 a4 a5 a6 a7 a8 a9 b0 b1 b2 b3 b4 b5 b6 b7 b8 b9 c0 c1 c2 (by omega) (by omega) (len2_shift 32 n hq)
   rw [show ((32 : Nat) : Int) = 32 from rfl] at t
   exact t _ _ _ _ _ _ _ _ _ _ _ _ _ _ _ _ _ _ _ _ _ _ _
 · dsimp only
   exact top n 0 _ _ _ _ _ _ _ _ _ _ _ _ _ _ _ _ _ _ _ _ _ _ _ (by simp at hq; omega) (by omega) (by omega)
theorem aIndexAddr_arr {P : Program} {H : AHeap} {T e : TypeId} {b o m z n : Nat} {k : IntKind} {i : Int} (hu : P.underlying T = some (.array n e)) (hs : tsize P e = some z) (hl : hlen H b = some m) (h0 : 0 ≤ i) (h1 : i < n) :
  aIndexAddr P H T (.pointer (some ⟨b,o,some m⟩)) (.int k i) = some (.pointer (some ⟨b,o + i.toNat * z,some m⟩)) := by
 show aIndexAddr0 P H T (.pointer (some ⟨b,o,some m⟩)) (.int k i) = _
 simp [aIndexAddr0,hl,h0,h1,hu,hs]
def nlog (L : Nat) : Nat := L * 78913 / 2 ^ 18
theorem nlog_ok : ∀ L : Nat,L < 65 → 1 ≤ L → nlog L < 20 ∧ 2 ^ L ≤ 10 ^ (nlog L + 1) ∧ 10 ^ (nlog L - 1) ≤ 2 ^ (L - 1) ∧ (nlog L = 0 → L ≤ 3) := by decide +kernel
def ndig (n : Nat) : Nat := nlog (len2 n) + if 10 ^ nlog (len2 n) ≤ n then 1 else 0
theorem ndig_ok {n : Nat} (h0 : 0 < n) (hn : n < 2 ^ 64) : 1 ≤ ndig n ∧ ndig n ≤ 20 ∧ n < 10 ^ ndig n ∧ 10 ^ (ndig n - 1) ≤ n := by
 obtain ⟨h1,h2,h3⟩ := len2_bd h0
 have hL : len2 n < 65 := by
  rcases Nat.lt_or_ge (len2 n) 65 with h | h
  · exact h
  · have := Nat.pow_le_pow_right (by omega : 0 < 2) (show 64 ≤ len2 n - 1 by omega)
    omega
 obtain ⟨q1,q2,q3,q4⟩ := nlog_ok _ hL h3
 unfold ndig
 by_cases hc : 10 ^ nlog (len2 n) ≤ n
 · rw [if_pos hc]
   exact ⟨by omega,by omega,by omega,by simpa using hc⟩
 · rw [if_neg hc,Nat.add_zero]
   refine ⟨?_,by omega,by omega,by omega⟩
   rcases Nat.eq_zero_or_pos (nlog (len2 n)) with hz | hz
   · rw [hz] at hc; simp at hc; omega
   · exact hz
def Pw (H : AHeap) : Prop := ∃ b,gFind H 1 0 = some (b,20) ∧ hcells H b = some pow10s
theorem Pw.trans {H K : AHeap} (h : Pw H) (p : Pre H K) : Pw K := by
 obtain ⟨b,h1,h2⟩ := h
 obtain ⟨X,rfl⟩ := p
 exact ⟨b,gFind_app h1,hcells_more h2⟩
theorem Pw.more {H : AHeap} (h : Pw H) (X : AHeap) : Pw (H ++ X) := h.trans (.app H X)
set_option maxRecDepth 20000 in
theorem c_numDigits {H : AHeap} (hg : Pw H) {n : Nat} (h0 : 0 < n) (hn : n < 2 ^ 64) : ACalls prog 143 [u64 n] H (i64 (ndig n)) H := by
 refine acalls_pure MixT func143 (by decide) rfl ?_
 rw [d143]
 refine bndC_of (c_len64 H hn) ?_
 obtain ⟨h1,h2,h3⟩ := len2_bd h0
 have hL : len2 n < 65 := by
  rcases Nat.lt_or_ge (len2 n) 65 with h | h
  · exact h
  · have := Nat.pow_le_pow_right (by omega : 0 < 2) (show 64 ≤ len2 n - 1 by omega)
    omega
 obtain ⟨q1,q2,q3,q4⟩ := nlog_ok _ hL h3
 have hlog : ACalls prog 166 [i64 (len2 n)] H (i64 (nlog (len2 n))) H := by
  refine acalls_pure MixT func166 (by decide) rfl ?_
  rw [d166]
  have w1 : IntKind.i64.wrap ((len2 n : Int) * 78913) = ((len2 n * 78913 : Nat) : Int) := by rw [wrap_i64 (by omega) (by omega)]; omega
  have hs : ∀ X Y,aBin2 prog H .shr 3 X Y (.int .i64 ((len2 n * 78913 : Nat) : Int)) (.int .u64 18) = some (i64 (nlog (len2 n))) := fun X Y => by
   rw [aBin_shr _ _ _ _ _ _ _ (by omega)]
   congr 2
   rw [show min ((18 : Int)).toNat IntKind.i64.bits = 18 from rfl,Int.fdiv_eq_ediv_of_nonneg _ (Int.le_of_lt (Int.pow_pos (by omega)))]
   unfold nlog
   norm_cast
  simp only [Int.natCast_mul,show ((78913 : Nat) : Int) = 78913 from rfl] at w1 hs
  simp [w1,hs]
 refine bndC_of hlog ?_
 obtain ⟨pb,g1,g2⟩ := hg
 have hll : hlen H pb = some 20 := by rw [hcells_len g2]; rfl
 have hia := aIndexAddr_arr (P := prog) (T := 200) (e := 178) (z := 1) (n := 20) (k := .i64) (o := 0) (i := (nlog (len2 n) : Int)) (by simp) (by simp) hll (by omega) (by omega)
 have hp : pow10s[nlog (len2 n)]? = some (u64 ((10 ^ nlog (len2 n) : Nat) : Int)) := by
  have : ∀ i : Nat,i < 20 → pow10s[i]? = some (u64 ((10 ^ i : Nat) : Int)) := by
   intro i hi
   simp [pow10s,hi]
  exact this _ q1
 have hb : ∀ c : Bool,ACalls prog 168 [.bool c] H (i64 (if c = true then 1 else 0)) H := by
  intro c
  refine acalls_pure MixT func168 (by decide) rfl ?_
  rw [d168]
  cases c <;> simp
 simp only [aIndexAddr_gl g1,hia,bnd_some]
 have h20 : pow10s.length = 20 := rfl
 simp only [Int.natCast_pow,show ((10 : Nat) : Int) = 10 from rfl] at hp
 simp [g2,hp,h20]
 refine bndC_of (hb _) ?_
 have hd : decide ((10 : Int) ^ nlog (len2 n) ≤ n) = decide (10 ^ nlog (len2 n) ≤ n) := by
  rw [decide_eq_decide]; norm_cast
 have hnd : IntKind.i64.wrap ((nlog (len2 n) : Int) + (if 10 ^ nlog (len2 n) ≤ n then 1 else 0)) = (ndig n : Int) := by
  rw [wrap_i64 (by split <;> omega) (by split <;> omega)]
  unfold ndig
  split <;> simp
 simp [hd,hnd]
end Go.Vi
namespace Go.Vi
open Go Go.RowKit Go.ChangeShapes Go.WideShapes Go.Proofs Go.Proofs.Tryz
def Gp : AHeap := [.gl 1 pow10s]
theorem pw_gp {H : AHeap} (h : Pre Gp H) : Pw H := by
 obtain ⟨X,rfl⟩ := h
 exact ⟨0,gFind_app (by rfl),hcells_more (by rfl)⟩
theorem start_pw {w : World} {l : List (String × DataW Unit)} (h : laidMetH prog l w)
  (h3 : ("internal/strconv.uint64pow10", DataW.agg ((List.range 20).map fun i => .lit (.int .u64 (10 ^ i)))) ∈ l.filter fun x => x.2.handleName?.isNone) : ∃ s, Got prog w (fun _ => ⟨0, 0, 0⟩) [] s Gp := by
 obtain ⟨ps,hl,_,_⟩ : laidMet prog (l.filter fun x => x.2.handleName?.isNone) w := (laidMetH_iff.1 h).1
 obtain ⟨g3,t3,c3,f3,p3,a3,b3,v3,r3⟩ := laid_find hl h3
 obtain rfl : 1 = g3 := Option.some.inj ((show prog.globalNamed "internal/strconv.uint64pow10" = some 1 by kernel_rfl).symm.trans a3)
 obtain rfl : 200 = t3 := Option.some.inj ((show (prog.globals[1]?).map (·.type) = some 200 by kernel_rfl).symm.trans b3)
 obtain ⟨xs,m,_,q1,q2,q3,q4⟩ := DataW.trod_array underlying200 r3
 have k3 : ∀ i : Nat,i < 20 → c3[i]? = some (.int .u64 (10 ^ i)) := by
  intro i hi
  have h4 := q4 i hi
  rw [show prog.cellsOf 178 = 1 by kernel_rfl,Nat.mul_one] at h4
  rw [List.getElem?_eq_getElem (by omega)] at h4
  obtain ⟨n,z1,z2,_⟩ := DataW.trod_int underlying178 h4
  have hq : (List.range 20).map (fun i => (DataW.lit (.int .u64 (10 ^ i)) : DataW Unit)) = xs.map (·.1) := by
   have := congrArg Prod.fst q1
   simpa using this
  have hqi := congrArg (fun l => l[i]?) hq
  simp only [List.getElem?_map,List.getElem?_eq_getElem (show i < xs.length by omega),List.getElem?_range hi,Option.map_some,z2] at hqi
  injection hqi with e
  injection e with e
  injection e with _ e
  rw [← e] at z1
  have : (List.take 1 (List.drop i c3.toList))[0]? = some (Value.int .u64 (10 ^ i)) := by rw [z1]; rfl
  rw [List.getElem?_take_of_lt (by omega),List.getElem?_drop,Nat.add_zero] at this
  rw [← Array.getElem?_toList]
  exact this
 have W0 : WRel w (fun _ => ⟨0,0,0⟩) [] w := WRel.refl w _
 have hc3 := fun (i : Nat) (hi : i < 20) => var_cell a3 v3 i _ (k3 i hi)
 obtain ⟨W3,N3⟩ := W0.pushGl NoOwn.nil pow10s 1 (fun v hv => by
  simp only [pow10s,List.mem_map] at hv
  obtain ⟨i,_,rfl⟩ := hv
  rfl) (hc3 0 (by omega)).1 (fun i v hi => by
  simp only [pow10s,List.getElem?_map,Option.map_eq_some_iff] at hi
  obtain ⟨j,hj,rfl⟩ := hi
  have hij := List.getElem?_eq_some_iff.1 hj
  obtain ⟨hlt,rfl⟩ := hij
  simp only [List.length_range] at hlt
  simp only [List.getElem_range]
  exact ⟨_,(hc3 i hlt).2,.lit _ rfl⟩)
 exact ⟨_,W3,N3,Ext.push _ _ _ _,⟨Gp,rfl⟩⟩
theorem word_le {n : Int} (h : (Lit.int .i64 n).wf = true) : n < 2 ^ 63 := by
 have e2 : IntKind.i64.max = 9223372036854775807 := by decide
 simp only [Lit.wf,Bool.and_eq_true,decide_eq_true_eq,e2] at h
 omega
section
variable {H : AHeap} {f : Nat} {v : Value} {cs : List Value}
theorem rd_nodeW (h : Rd prog H (f + 4) 37 cs) : ∃ (n : Nod) (sv : Value),cs = n.cells sv ∧ MatsAt H sv n.sel ∧ n.sel.length < 2 ^ 63 ∧ n.window < 2 ^ 63 := by
 obtain ⟨hl,hp⟩ := h.parts (ps := [(5,0),(5,1),(35,2),(3,3),(5,4),(2,5),(3,6),(3,7)]) (by kernel_rfl)
 rw [ce_node] at hl
 obtain ⟨x0,x1,x2,x3,x4,x5,x6,x7,rfl⟩ := len8 hl
 simp only [List.forall_mem_cons,ce_u8,ce_int,ce_i64,ce_mats] at hp
 obtain ⟨h0,h1,h2,h3,h4,h5,h6,h7,_⟩ := hp
 obtain ⟨b0,e0⟩ := h0.byte underlying5
 obtain ⟨b1,e1⟩ := h1.byte underlying5
 obtain ⟨ms,e2,e2'⟩ := rd_mats h2
 obtain ⟨b3,e3,w3⟩ := h3.int underlying3
 obtain ⟨b4,e4⟩ := h4.byte underlying5
 obtain ⟨b5,e5,_⟩ := h5.int underlying2
 obtain ⟨b6,e6,_⟩ := h6.int underlying3
 obtain ⟨b7,e7,_⟩ := h7.int underlying3
 simp at e0 e1 e3 e4 e5 e6 e7
 exact ⟨⟨b0,b1,ms,b3,b4,b5,b6,b7⟩,x2,by simp [Nod.cells,e0,e1,e3,e4,e5,e6,e7],e2,e2',word_le w3⟩
theorem rd_nodesW (h : Rd prog H (f + 5) 27 [v]) : ∃ ns,NodesAt H v ns ∧ ∀ n ∈ ns,n.window < 2 ^ 63 := by
 obtain ⟨v',l,h1,h2,h3,h4⟩ := h.slice underlying27
 cases h1
 rw [ce_node] at h2
 obtain ⟨ns,q1,q2⟩ := rd_list (R := fun cs (n : Nod) => ∃ sv,cs = n.cells sv ∧ MatsAt H sv n.sel ∧ n.sel.length < 2 ^ 63 ∧ n.window < 2 ^ 63) fun x hx => rd_nodeW (h4 x hx)
 refine ⟨ns,⟨l,h2,q1,fun i n hi => ?_⟩,fun n hn => ?_⟩
 · obtain ⟨c,c1,sv,rfl,c2,c3,_⟩ := q2 i n hi
   exact ⟨sv,c1,c2,c3⟩
 · obtain ⟨i,hi⟩ := List.getElem?_of_mem hn
   obtain ⟨c,c1,sv,rfl,c2,c3,c4⟩ := q2 i n hi
   exact c4
end
end Go.Vi
namespace Go.Vi
open Go Go.Proofs Go.Proofs.Tryz
-- (*tocsin/expr.reader).condition$1
def L144x0 (n : Nat) (k : Value → AHeap → Prop) (sl : List Value) (H : AHeap) : Prop := kitG prog (drawKeep prog) (cl (cl (cl (cr (cb Tryz.f144))))) n (kblkG 0 (kseqG prog (drawKeep prog) (cr (cr (cb
 Tryz.f144))) (kfinG prog Tryz.f144 k))) .normal sl H []
def S144x0 (k : Value → AHeap → Prop) (sl : List Value) (H : AHeap) : Prop := kseqG prog (drawKeep prog) (cr (cr (cr (cr (cb Tryz.f144))))) (kfinG prog Tryz.f144 k) .normal sl H []
def S144x1 (k : Value → AHeap → Prop) (sl : List Value) (H : AHeap) : Prop := kseqG prog (drawKeep prog) (cr (cr (cr (cr (cr (cb Tryz.f144)))))) (kfinG prog Tryz.f144 k) .normal sl H []
theorem d144 (a0 a1 : Value) (H : AHeap) (k : Value → AHeap → Prop) : kbodyG prog (drawKeep prog) Tryz.f144 [a0,a1] H k = (@bnd (aLen prog H 55 a0) ⟨fun v18x1 => ∃ n,L144x0 n  k [a0,a1,undef,undef,v18x1,
 undef,undef,undef,undef,undef,undef,undef,undef,undef,undef,undef,undef,a0,v18x1,undef,undef,undef,undef,undef,undef,undef,undef,undef,undef,undef,undef,undef,undef,undef,undef,undef,undef,undef,
 undef,undef,undef,undef,undef,undef,undef,undef,undef,undef,undef,undef,undef,undef,undef,undef,undef,undef,undef,undef,undef,undef,undef,undef,undef,undef,undef,undef,undef,undef,undef,undef,
 undef,undef,undef,undef,undef,undef,undef,undef,undef,undef,undef,undef,undef,undef,undef,undef,undef,undef,undef,undef,undef,undef,undef,undef,undef,undef,undef,undef,undef,undef,undef,undef,
 undef,undef,undef,undef,undef,undef,undef,undef,undef,undef,undef,undef,undef,undef,undef,undef,undef,undef,undef,undef,undef,undef,undef,undef,undef,undef,undef,undef,undef,undef,undef,undef,
 undef,undef,undef,undef,undef,undef,undef,undef,undef,undef,undef,undef,undef,undef,undef,undef,undef,undef,undef,undef,undef,undef,undef,undef,undef,undef,undef,undef,undef,undef,undef,undef,
 undef] H⟩) := by kernel_rfl
theorem L144x0q (n0 : Nat) (s0 s1 s2 s3 s4 s5 s6 s7 s8 s9 s10 s11 s12 s13 s14 s15 s16 s17 s18 s19 s20 s21 s22 s23 s24 s25 s26 s27 s28 s29 s30 s31 s32 s33 s34 s35 s36 s37 s38 s39 s40 s41 s42 s43 s44 s45 s46 s47 s48 s49 s50 s51 s52
 s53 s54 s55 s56 s57 s58 s59 s60 s61 s62 s63 s64 s65 s66 s67 s68 s69 s70 s71 s72 s73 s74 s75 s76 s77 s78 s79 s80 s81 s82 s83 s84 s85 s86 s87 s88 s89 s90 s91 s92 s93 s94 s95 s96 s97 s98 s99 s100 s101 s102 s103 s104 s105 s106 s107
 s108 s109 s110 s111 s112 s113 s114 s115 s116 s117 s118 s119 s120 s121 s122 s123 s124 s125 s126 s127 s128 s129 s130 s131 s132 s133 s134 s135 s136 s137 s138 s139 s140 s141 s142 s143 s144 s145 s146 s147 s148 s149 s150 s151 s152
 s153 s154 s155 s156 s157 s158 s159 s160 s161 s162 s163 s164 s165 s166 : Value) (H : AHeap) (k : Value → AHeap → Prop) : L144x0 (n0 + 1) k [s0,s1,s2,s3,s4,s5,s6,s7,s8,s9,s10,s11,s12,s13,s14,s15,s16,s17,s18,
 s19,s20,s21,s22,s23,s24,s25,s26,s27,s28,s29,s30,s31,s32,s33,s34,s35,s36,s37,s38,s39,s40,s41,s42,s43,s44,s45,s46,s47,s48,s49,s50,s51,s52,s53,s54,s55,s56,s57,s58,s59,s60,s61,s62,s63,
 s64,s65,s66,s67,s68,s69,s70,s71,s72,s73,s74,s75,s76,s77,s78,s79,s80,s81,s82,s83,s84,s85,s86,s87,s88,s89,s90,s91,s92,s93,s94,s95,s96,s97,s98,s99,s100,s101,s102,s103,s104,s105,s106,s107,
 s108,s109,s110,s111,s112,s113,s114,s115,s116,s117,s118,s119,s120,s121,s122,s123,s124,s125,s126,s127,s128,s129,s130,s131,s132,s133,s134,s135,s136,s137,s138,s139,s140,s141,s142,s143,s144,s145,
 s146,s147,s148,s149,s150,s151,s152,s153,s154,s155,s156,s157,s158,s159,s160,s161,s162,s163,s164,s165,s166] H = (@bnd (aBin2 prog H .geq 3 (.tmp 19) (.const (.int .i64 8)) s4 (.int .i64 8)) ⟨fun v20x2 =>
 @kifB v20x2 ⟨@bnd (aBin2 prog H .rem 178 (.tmp 21) (.const (.int .u64 100000000)) s1 (.int .u64 100000000)) ⟨fun v22x3 => @bnd (convV prog H 178 50 v22x3) ⟨fun v23x4 => @bnd (aBin2 prog H .quo 178 (.tmp 24)
 (.const (.int .u64 100000000)) s1 (.int .u64 100000000)) ⟨fun v25x5 => @bnd (aBin2 prog H .quo 50 (.tmp 26) (.const (.int .u32 10000)) v23x4 (.int .u32 10000)) ⟨fun v27x6 => @bnd (aBin2 prog H .rem 50 (.tmp 28)
 (.const (.int .u32 10000)) v23x4 (.int .u32 10000)) ⟨fun v29x7 => @bnd (aBin2 prog H .quo 50 (.tmp 30) (.const (.int .u32 100)) v29x7 (.int .u32 100)) ⟨fun v31x8 => @bnd (aBin2 prog H .mul 50 (.tmp 31) (.const (.int
 .u32 2)) v31x8 (.int .u32 2)) ⟨fun v32x9 => @bnd (aBin2 prog H .rem 50 (.tmp 33) (.const (.int .u32 100)) v29x7 (.int .u32 100)) ⟨fun v34x10 => @bnd (aBin2 prog H .mul 50 (.tmp 34) (.const (.int .u32 2)) v34x10 (.int
 .u32 2)) ⟨fun v35x11 => @bnd (aBin2 prog H .quo 50 (.tmp 36) (.const (.int .u32 100)) v27x6 (.int .u32 100)) ⟨fun v37x12 => @bnd (aBin2 prog H .mul 50 (.tmp 37) (.const (.int .u32 2)) v37x12 (.int .u32 2)) ⟨fun v38x13
 => @bnd (aBin2 prog H .rem 50 (.tmp 39) (.const (.int .u32 100)) v27x6 (.int .u32 100)) ⟨fun v40x14 => @bnd (aBin2 prog H .mul 50 (.tmp 40) (.const (.int .u32 2)) v40x14 (.int .u32 2)) ⟨fun v41x15 => @bnd ((some s0))
 ⟨fun v42x16 => @bnd ((some s4)) ⟨fun v43x17 => @bnd (aBin2 prog H .sub 3 (.tmp 43) (.const (.int .i64 1)) v43x17 (.int .i64 1)) ⟨fun v44x18 => @bnd ((some s0)) ⟨fun v45x19 => @bnd ((some s4)) ⟨fun v46x20 => @bnd (aBin2
 prog H .sub 3 (.tmp 46) (.const (.int .i64 2)) v46x20 (.int .i64 2)) ⟨fun v47x21 => @bnd ((some v35x11)) ⟨fun v48x22 => @bnd (aBin2 prog H .add 50 (.tmp 48) (.const (.int .u32 1)) v48x22 (.int .u32 1)) ⟨fun v49x23 =>
 @bnd (aIndex prog 9 (.string smS) v49x23) ⟨fun v50x24 => @bnd ((some v35x11)) ⟨fun v51x25 => @bnd (aIndex prog 9 (.string smS) v51x25) ⟨fun v52x26 => @bnd (aIndexAddr prog H 55 v42x16 v44x18) ⟨fun v53x27 => @bndK
 false true H ⟨fun x28 H29 => x28 = undef ∧ aStore prog H 5 v53x27 v50x24 = some H29⟩ ⟨fun _ H29 => aIndex prog 9 (.string smS) v51x25 = some v52x26 ∧ aBin2 prog H29 .sub 3 (.tmp 46) (.const (.int .i64 2)) v46x20
 (.int .i64 2) = some v47x21 ∧ True⟩ ⟨fun _ H29 => @bnd (aIndexAddr prog H29 55 v45x19 v47x21) ⟨fun v54x30 => @bndK true true H29 ⟨fun x31 H32 => x31 = undef ∧ aStore prog H29 5 v54x30 v52x26 = some H32⟩ ⟨fun _ _ =>
 True⟩ ⟨fun _ H32 => @bnd ((some s0)) ⟨fun v55x33 => @bnd ((some s4)) ⟨fun v56x34 => @bnd (aBin2 prog H32 .sub 3 (.tmp 56) (.const (.int .i64 3)) v56x34 (.int .i64 3)) ⟨fun v57x35 => @bnd ((some s0)) ⟨fun v58x36 => @bnd
 ((some s4)) ⟨fun v59x37 => @bnd (aBin2 prog H32 .sub 3 (.tmp 59) (.const (.int .i64 4)) v59x37 (.int .i64 4)) ⟨fun v60x38 => @bnd ((some v32x9)) ⟨fun v61x39 => @bnd (aBin2 prog H32 .add 50 (.tmp 61) (.const (.int .u32
 1)) v61x39 (.int .u32 1)) ⟨fun v62x40 => @bnd (aIndex prog 9 (.string smS) v62x40) ⟨fun v63x41 => @bnd ((some v32x9)) ⟨fun v64x42 => @bnd (aIndex prog 9 (.string smS) v64x42) ⟨fun v65x43 => @bnd (aIndexAddr prog
 H32 55 v55x33 v57x35) ⟨fun v66x44 => @bndK false true H32 ⟨fun x45 H46 => x45 = undef ∧ aStore prog H32 5 v66x44 v63x41 = some H46⟩ ⟨fun _ H46 => aIndex prog 9 (.string smS) v64x42 = some v65x43 ∧ aBin2 prog H46
 .sub 3 (.tmp 59) (.const (.int .i64 4)) v59x37 (.int .i64 4) = some v60x38 ∧ True⟩ ⟨fun _ H46 => @bnd (aIndexAddr prog H46 55 v58x36 v60x38) ⟨fun v67x47 => @bndK true true H46 ⟨fun x48 H49 => x48 = undef ∧ aStore prog
 H46 5 v67x47 v65x43 = some H49⟩ ⟨fun _ _ => True⟩ ⟨fun _ H49 => @bnd ((some s0)) ⟨fun v68x50 => @bnd ((some s4)) ⟨fun v69x51 => @bnd (aBin2 prog H49 .sub 3 (.tmp 69) (.const (.int .i64 5)) v69x51 (.int .i64 5)) ⟨fun v70x52
 => @bnd ((some s0)) ⟨fun v71x53 => @bnd ((some s4)) ⟨fun v72x54 => @bnd (aBin2 prog H49 .sub 3 (.tmp 72) (.const (.int .i64 6)) v72x54 (.int .i64 6)) ⟨fun v73x55 => @bnd ((some v41x15)) ⟨fun v74x56 => @bnd (aBin2 prog
 H49 .add 50 (.tmp 74) (.const (.int .u32 1)) v74x56 (.int .u32 1)) ⟨fun v75x57 => @bnd (aIndex prog 9 (.string smS) v75x57) ⟨fun v76x58 => @bnd ((some v41x15)) ⟨fun v77x59 => @bnd (aIndex prog 9 (.string smS) v77x59)
 ⟨fun v78x60 => @bnd (aIndexAddr prog H49 55 v68x50 v70x52) ⟨fun v79x61 => @bndK false true H49 ⟨fun x62 H63 => x62 = undef ∧ aStore prog H49 5 v79x61 v76x58 = some H63⟩ ⟨fun _ H63 => aIndex prog 9 (.string smS)
 v77x59 = some v78x60 ∧ aBin2 prog H63 .sub 3 (.tmp 72) (.const (.int .i64 6)) v72x54 (.int .i64 6) = some v73x55 ∧ True⟩ ⟨fun _ H63 => @bnd (aIndexAddr prog H63 55 v71x53 v73x55) ⟨fun v80x64 => @bndK true true H63
 ⟨fun x65 H66 => x65 = undef ∧ aStore prog H63 5 v80x64 v78x60 = some H66⟩ ⟨fun _ _ => True⟩ ⟨fun _ H66 => @bnd ((some s0)) ⟨fun v81x67 => @bnd ((some s4)) ⟨fun v82x68 => @bnd (aBin2 prog H66 .sub 3 (.tmp 82) (.const
 (.int .i64 7)) v82x68 (.int .i64 7)) ⟨fun v83x69 => @bnd ((some s0)) ⟨fun v84x70 => @bnd ((some s4)) ⟨fun v85x71 => @bnd (aBin2 prog H66 .sub 3 (.tmp 85) (.const (.int .i64 8)) v85x71 (.int .i64 8)) ⟨fun v86x72 => @bnd
 ((some v38x13)) ⟨fun v87x73 => @bnd (aBin2 prog H66 .add 50 (.tmp 87) (.const (.int .u32 1)) v87x73 (.int .u32 1)) ⟨fun v88x74 => @bnd (aIndex prog 9 (.string smS) v88x74) ⟨fun v89x75 => @bnd ((some v38x13)) ⟨fun
 v90x76 => @bnd (aIndex prog 9 (.string smS) v90x76) ⟨fun v91x77 => @bnd (aIndexAddr prog H66 55 v81x67 v83x69) ⟨fun v92x78 => @bndK false true H66 ⟨fun x79 H80 => x79 = undef ∧ aStore prog H66 5 v92x78 v89x75 =
 some H80⟩ ⟨fun _ H80 => aIndex prog 9 (.string smS) v90x76 = some v91x77 ∧ aBin2 prog H80 .sub 3 (.tmp 85) (.const (.int .i64 8)) v85x71 (.int .i64 8) = some v86x72 ∧ True⟩ ⟨fun _ H80 => @bnd (aIndexAddr prog H80
 55 v84x70 v86x72) ⟨fun v93x81 => @bndK true true H80 ⟨fun x82 H83 => x82 = undef ∧ aStore prog H80 5 v93x81 v91x77 = some H83⟩ ⟨fun _ _ => True⟩ ⟨fun _ H83 => @bnd (aBin2 prog H83 .sub 3 (.tmp 94) (.const (.int .i64
 8)) s4 (.int .i64 8)) ⟨fun v95x84 => L144x0 n0  k [s0,v25x5,s2,s3,v95x84,v23x4,v27x6,v29x7,v32x9,v35x11,v38x13,v41x15,s12,s13,s14,s15,s16,s17,s18,s4,v20x2,s1,v22x3,v23x4,s1,v25x5,v23x4,v27x6,v23x4,
 v29x7,v29x7,v31x8,v32x9,v29x7,v34x10,v35x11,v27x6,v37x12,v38x13,v27x6,v40x14,v41x15,v42x16,v43x17,v44x18,v45x19,v46x20,v47x21,v48x22,v49x23,v50x24,v51x25,v52x26,v53x27,v54x30,v55x33,v56x34,v57x35,
 v58x36,v59x37,v60x38,v61x39,v62x40,v63x41,v64x42,v65x43,v66x44,v67x47,v68x50,v69x51,v70x52,v71x53,v72x54,v73x55,v74x56,v75x57,v76x58,v77x59,v78x60,v79x61,v80x64,v81x67,v82x68,v83x69,v84x70,v85x71,
 v86x72,v87x73,v88x74,v89x75,v90x76,v91x77,v92x78,v93x81,s4,v95x84,s96,s97,s98,s99,s100,s101,s102,s103,s104,s105,s106,s107,s108,s109,s110,s111,s112,s113,s114,s115,s116,s117,s118,s119,s120,s121,
 s122,s123,s124,s125,s126,s127,s128,s129,s130,s131,s132,s133,s134,s135,s136,s137,s138,s139,s140,s141,s142,s143,s144,s145,s146,s147,s148,s149,s150,s151,s152,s153,s154,s155,s156,s157,s158,s159,
 s160,s161,s162,s163,s164,s165,s166] H83⟩⟩⟩⟩⟩⟩⟩⟩⟩⟩⟩⟩⟩⟩⟩⟩⟩⟩⟩⟩⟩⟩⟩⟩⟩⟩⟩⟩⟩⟩⟩⟩⟩⟩⟩⟩⟩⟩⟩⟩⟩⟩⟩⟩⟩⟩⟩⟩⟩⟩⟩⟩⟩⟩⟩⟩⟩⟩⟩⟩⟩⟩⟩⟩⟩⟩⟩⟩⟩⟩⟩⟩⟩⟩⟩ ⟨@bnd (convV prog H 178 50 s1) ⟨fun v97x85 => @bnd (aBin2 prog H .geq 3 (.tmp 98) (.const (.int
 .i64 4)) s4 (.int .i64 4)) ⟨fun v99x86 => @kifB v99x86 ⟨@bnd (aBin2 prog H .rem 50 (.tmp 100) (.const (.int .u32 10000)) v97x85 (.int .u32 10000)) ⟨fun v101x87 => @bnd (aBin2 prog H .quo 50 (.tmp 102) (.const (.int
 .u32 10000)) v97x85 (.int .u32 10000)) ⟨fun v103x88 => @bnd (aBin2 prog H .quo 50 (.tmp 104) (.const (.int .u32 100)) v101x87 (.int .u32 100)) ⟨fun v105x89 => @bnd (aBin2 prog H .mul 50 (.tmp 105) (.const (.int .u32
 2)) v105x89 (.int .u32 2)) ⟨fun v106x90 => @bnd (aBin2 prog H .rem 50 (.tmp 107) (.const (.int .u32 100)) v101x87 (.int .u32 100)) ⟨fun v108x91 => @bnd (aBin2 prog H .mul 50 (.tmp 108) (.const (.int .u32 2)) v108x91
 (.int .u32 2)) ⟨fun v109x92 => @bnd ((some s0)) ⟨fun v110x93 => @bnd ((some s4)) ⟨fun v111x94 => @bnd (aBin2 prog H .sub 3 (.tmp 111) (.const (.int .i64 1)) v111x94 (.int .i64 1)) ⟨fun v112x95 => @bnd ((some s0)) ⟨fun
 v113x96 => @bnd ((some s4)) ⟨fun v114x97 => @bnd (aBin2 prog H .sub 3 (.tmp 114) (.const (.int .i64 2)) v114x97 (.int .i64 2)) ⟨fun v115x98 => @bnd ((some v109x92)) ⟨fun v116x99 => @bnd (aBin2 prog H .add 50 (.tmp
 116) (.const (.int .u32 1)) v116x99 (.int .u32 1)) ⟨fun v117x100 => @bnd (aIndex prog 9 (.string smS) v117x100) ⟨fun v118x101 => @bnd ((some v109x92)) ⟨fun v119x102 => @bnd (aIndex prog 9 (.string smS) v119x102) ⟨fun
 v120x103 => @bnd (aIndexAddr prog H 55 v110x93 v112x95) ⟨fun v121x104 => @bndK false true H ⟨fun x105 H106 => x105 = undef ∧ aStore prog H 5 v121x104 v118x101 = some H106⟩ ⟨fun _ H106 => aIndex prog 9 (.string
 smS) v119x102 = some v120x103 ∧ aBin2 prog H106 .sub 3 (.tmp 114) (.const (.int .i64 2)) v114x97 (.int .i64 2) = some v115x98 ∧ True⟩ ⟨fun _ H106 => @bnd (aIndexAddr prog H106 55 v113x96 v115x98) ⟨fun v122x107 =>
 @bndK true true H106 ⟨fun x108 H109 => x108 = undef ∧ aStore prog H106 5 v122x107 v120x103 = some H109⟩ ⟨fun _ _ => True⟩ ⟨fun _ H109 => @bnd ((some s0)) ⟨fun v123x110 => @bnd ((some s4)) ⟨fun v124x111 => @bnd (aBin2
 prog H109 .sub 3 (.tmp 124) (.const (.int .i64 3)) v124x111 (.int .i64 3)) ⟨fun v125x112 => @bnd ((some s0)) ⟨fun v126x113 => @bnd ((some s4)) ⟨fun v127x114 => @bnd (aBin2 prog H109 .sub 3 (.tmp 127) (.const (.int
 .i64 4)) v127x114 (.int .i64 4)) ⟨fun v128x115 => @bnd ((some v106x90)) ⟨fun v129x116 => @bnd (aBin2 prog H109 .add 50 (.tmp 129) (.const (.int .u32 1)) v129x116 (.int .u32 1)) ⟨fun v130x117 => @bnd (aIndex prog 9
 (.string smS) v130x117) ⟨fun v131x118 => @bnd ((some v106x90)) ⟨fun v132x119 => @bnd (aIndex prog 9 (.string smS) v132x119) ⟨fun v133x120 => @bnd (aIndexAddr prog H109 55 v123x110 v125x112) ⟨fun v134x121 => @bndK
 false true H109 ⟨fun x122 H123 => x122 = undef ∧ aStore prog H109 5 v134x121 v131x118 = some H123⟩ ⟨fun _ H123 => aIndex prog 9 (.string smS) v132x119 = some v133x120 ∧ aBin2 prog H123 .sub 3 (.tmp 127) (.const
 (.int .i64 4)) v127x114 (.int .i64 4) = some v128x115 ∧ True⟩ ⟨fun _ H123 => @bnd (aIndexAddr prog H123 55 v126x113 v128x115) ⟨fun v135x124 => @bndK true true H123 ⟨fun x125 H126 => x125 = undef ∧ aStore prog H123 5
 v135x124 v133x120 = some H126⟩ ⟨fun _ _ => True⟩ ⟨fun _ H126 => @bnd (aBin2 prog H126 .sub 3 (.tmp 136) (.const (.int .i64 4)) s4 (.int .i64 4)) ⟨fun v137x127 => S144x0  k [s0,s1,s2,s3,v137x127,s5,s6,s7,s8,s9,
 s10,s11,v103x88,v101x87,v106x90,v109x92,s16,s17,s18,s4,v20x2,s21,s22,s23,s24,s25,s26,s27,s28,s29,s30,s31,s32,s33,s34,s35,s36,s37,s38,s39,s40,s41,s42,s43,s44,s45,s46,s47,s48,s49,s50,s51,
 s52,s53,s54,s55,s56,s57,s58,s59,s60,s61,s62,s63,s64,s65,s66,s67,s68,s69,s70,s71,s72,s73,s74,s75,s76,s77,s78,s79,s80,s81,s82,s83,s84,s85,s86,s87,s88,s89,s90,s91,s92,s93,s94,s95,s1,
 v97x85,s4,v99x86,v97x85,v101x87,v97x85,v103x88,v101x87,v105x89,v106x90,v101x87,v108x91,v109x92,v110x93,v111x94,v112x95,v113x96,v114x97,v115x98,v116x99,v117x100,v118x101,v119x102,v120x103,v121x104,
 v122x107,v123x110,v124x111,v125x112,v126x113,v127x114,v128x115,v129x116,v130x117,v131x118,v132x119,v133x120,v134x121,v135x124,s4,v137x127,s138,s139,s140,s141,s142,s143,s144,s145,s146,s147,s148,s149,
 s150,s151,s152,s153,s154,s155,s156,s157,s158,s159,s160,s161,s162,s163,s164,s165,s166] H126⟩⟩⟩⟩⟩⟩⟩⟩⟩⟩⟩⟩⟩⟩⟩⟩⟩⟩⟩⟩⟩⟩⟩⟩⟩⟩⟩⟩⟩⟩⟩⟩⟩⟩⟩⟩⟩⟩ ⟨S144x0  k [s0,s1,s2,s3,s4,s5,s6,s7,s8,s9,s10,s11,v97x85,s13,s14,
 s15,s16,s17,s18,s4,v20x2,s21,s22,s23,s24,s25,s26,s27,s28,s29,s30,s31,s32,s33,s34,s35,s36,s37,s38,s39,s40,s41,s42,s43,s44,s45,s46,s47,s48,s49,s50,s51,s52,s53,s54,s55,s56,s57,s58,s59,
 s60,s61,s62,s63,s64,s65,s66,s67,s68,s69,s70,s71,s72,s73,s74,s75,s76,s77,s78,s79,s80,s81,s82,s83,s84,s85,s86,s87,s88,s89,s90,s91,s92,s93,s94,s95,s1,v97x85,s4,v99x86,s100,s101,s102,s103,
 s104,s105,s106,s107,s108,s109,s110,s111,s112,s113,s114,s115,s116,s117,s118,s119,s120,s121,s122,s123,s124,s125,s126,s127,s128,s129,s130,s131,s132,s133,s134,s135,s136,s137,s138,s139,s140,s141,
 s142,s143,s144,s145,s146,s147,s148,s149,s150,s151,s152,s153,s154,s155,s156,s157,s158,s159,s160,s161,s162,s163,s164,s165,s166] H⟩⟩⟩⟩⟩) := by kernel_rfl
theorem S144x0q (s0 s1 s2 s3 s4 s5 s6 s7 s8 s9 s10 s11 s12 s13 s14 s15 s16 s17 s18 s19 s20 s21 s22 s23 s24 s25 s26 s27 s28 s29 s30 s31 s32 s33 s34 s35 s36 s37 s38 s39 s40 s41 s42 s43 s44 s45 s46 s47 s48 s49 s50 s51 s52 s53 s54
 s55 s56 s57 s58 s59 s60 s61 s62 s63 s64 s65 s66 s67 s68 s69 s70 s71 s72 s73 s74 s75 s76 s77 s78 s79 s80 s81 s82 s83 s84 s85 s86 s87 s88 s89 s90 s91 s92 s93 s94 s95 s96 s97 s98 s99 s100 s101 s102 s103 s104 s105 s106 s107 s108
 s109 s110 s111 s112 s113 s114 s115 s116 s117 s118 s119 s120 s121 s122 s123 s124 s125 s126 s127 s128 s129 s130 s131 s132 s133 s134 s135 s136 s137 s138 s139 s140 s141 s142 s143 s144 s145 s146 s147 s148 s149 s150 s151 s152 s153
 s154 s155 s156 s157 s158 s159 s160 s161 s162 s163 s164 s165 s166 : Value) (H : AHeap) (k : Value → AHeap → Prop) : S144x0 k [s0,s1,s2,s3,s4,s5,s6,s7,s8,s9,s10,s11,s12,s13,s14,s15,s16,s17,s18,s19,s20,s21,
 s22,s23,s24,s25,s26,s27,s28,s29,s30,s31,s32,s33,s34,s35,s36,s37,s38,s39,s40,s41,s42,s43,s44,s45,s46,s47,s48,s49,s50,s51,s52,s53,s54,s55,s56,s57,s58,s59,s60,s61,s62,s63,s64,s65,s66,
 s67,s68,s69,s70,s71,s72,s73,s74,s75,s76,s77,s78,s79,s80,s81,s82,s83,s84,s85,s86,s87,s88,s89,s90,s91,s92,s93,s94,s95,s96,s97,s98,s99,s100,s101,s102,s103,s104,s105,s106,s107,s108,s109,
 s110,s111,s112,s113,s114,s115,s116,s117,s118,s119,s120,s121,s122,s123,s124,s125,s126,s127,s128,s129,s130,s131,s132,s133,s134,s135,s136,s137,s138,s139,s140,s141,s142,s143,s144,s145,s146,s147,
 s148,s149,s150,s151,s152,s153,s154,s155,s156,s157,s158,s159,s160,s161,s162,s163,s164,s165,s166] H = (@bnd (aBin2 prog H .geq 3 (.tmp 138) (.const (.int .i64 2)) s4 (.int .i64 2)) ⟨fun v139x128 => @kifB
 v139x128 ⟨@bnd (aBin2 prog H .rem 50 (.tmp 140) (.const (.int .u32 100)) s12 (.int .u32 100)) ⟨fun v141x129 => @bnd (aBin2 prog H .mul 50 (.tmp 141) (.const (.int .u32 2)) v141x129 (.int .u32 2)) ⟨fun v142x130 => @bnd
 (aBin2 prog H .quo 50 (.tmp 143) (.const (.int .u32 100)) s12 (.int .u32 100)) ⟨fun v144x131 => @bnd ((some s0)) ⟨fun v145x132 => @bnd ((some s4)) ⟨fun v146x133 => @bnd (aBin2 prog H .sub 3 (.tmp 146) (.const (.int
 .i64 1)) v146x133 (.int .i64 1)) ⟨fun v147x134 => @bnd ((some s0)) ⟨fun v148x135 => @bnd ((some s4)) ⟨fun v149x136 => @bnd (aBin2 prog H .sub 3 (.tmp 149) (.const (.int .i64 2)) v149x136 (.int .i64 2)) ⟨fun v150x137 =>
 @bnd ((some v142x130)) ⟨fun v151x138 => @bnd (aBin2 prog H .add 50 (.tmp 151) (.const (.int .u32 1)) v151x138 (.int .u32 1)) ⟨fun v152x139 => @bnd (aIndex prog 9 (.string smS) v152x139) ⟨fun v153x140 => @bnd ((some
 v142x130)) ⟨fun v154x141 => @bnd (aIndex prog 9 (.string smS) v154x141) ⟨fun v155x142 => @bnd (aIndexAddr prog H 55 v145x132 v147x134) ⟨fun v156x143 => @bndK false true H ⟨fun x144 H145 => x144 = undef ∧ aStore
 prog H 5 v156x143 v153x140 = some H145⟩ ⟨fun _ H145 => aIndex prog 9 (.string smS) v154x141 = some v155x142 ∧ aBin2 prog H145 .sub 3 (.tmp 149) (.const (.int .i64 2)) v149x136 (.int .i64 2) = some v150x137 ∧
 True⟩ ⟨fun _ H145 => @bnd (aIndexAddr prog H145 55 v148x135 v150x137) ⟨fun v157x146 => @bndK true true H145 ⟨fun x147 H148 => x147 = undef ∧ aStore prog H145 5 v157x146 v155x142 = some H148⟩ ⟨fun _ _ => True⟩ ⟨fun _
 H148 => @bnd (aBin2 prog H148 .sub 3 (.tmp 158) (.const (.int .i64 2)) s4 (.int .i64 2)) ⟨fun v159x149 => S144x1  k [s0,s1,s2,s3,v159x149,s5,s6,s7,s8,s9,s10,s11,v144x131,s13,s14,s15,v142x130,s17,s18,s19,
 s20,s21,s22,s23,s24,s25,s26,s27,s28,s29,s30,s31,s32,s33,s34,s35,s36,s37,s38,s39,s40,s41,s42,s43,s44,s45,s46,s47,s48,s49,s50,s51,s52,s53,s54,s55,s56,s57,s58,s59,s60,s61,s62,s63,s64,
 s65,s66,s67,s68,s69,s70,s71,s72,s73,s74,s75,s76,s77,s78,s79,s80,s81,s82,s83,s84,s85,s86,s87,s88,s89,s90,s91,s92,s93,s94,s95,s96,s97,s98,s99,s100,s101,s102,s103,s104,s105,s106,s107,
 s108,s109,s110,s111,s112,s113,s114,s115,s116,s117,s118,s119,s120,s121,s122,s123,s124,s125,s126,s127,s128,s129,s130,s131,s132,s133,s134,s135,s136,s137,s4,v139x128,s12,v141x129,v142x130,s12,
 v144x131,v145x132,v146x133,v147x134,v148x135,v149x136,v150x137,v151x138,v152x139,v153x140,v154x141,v155x142,v156x143,v157x146,s4,v159x149,s160,s161,s162,s163,s164,s165,s166] H148⟩⟩⟩⟩⟩⟩⟩⟩⟩⟩⟩⟩⟩⟩⟩⟩⟩⟩⟩⟩
 ⟨S144x1  k [s0,s1,s2,s3,s4,s5,s6,s7,s8,s9,s10,s11,s12,s13,s14,s15,s16,s17,s18,s19,s20,s21,s22,s23,s24,s25,s26,s27,s28,s29,s30,s31,s32,s33,s34,s35,s36,s37,s38,s39,s40,s41,s42,s43,s44,
 s45,s46,s47,s48,s49,s50,s51,s52,s53,s54,s55,s56,s57,s58,s59,s60,s61,s62,s63,s64,s65,s66,s67,s68,s69,s70,s71,s72,s73,s74,s75,s76,s77,s78,s79,s80,s81,s82,s83,s84,s85,s86,s87,s88,s89,
 s90,s91,s92,s93,s94,s95,s96,s97,s98,s99,s100,s101,s102,s103,s104,s105,s106,s107,s108,s109,s110,s111,s112,s113,s114,s115,s116,s117,s118,s119,s120,s121,s122,s123,s124,s125,s126,s127,s128,
 s129,s130,s131,s132,s133,s134,s135,s136,s137,s4,v139x128,s140,s141,s142,s143,s144,s145,s146,s147,s148,s149,s150,s151,s152,s153,s154,s155,s156,s157,s158,s159,s160,s161,s162,s163,s164,s165,
 s166] H⟩⟩) := by kernel_rfl
theorem S144x1q (s0 s1 s2 s3 s4 s5 s6 s7 s8 s9 s10 s11 s12 s13 s14 s15 s16 s17 s18 s19 s20 s21 s22 s23 s24 s25 s26 s27 s28 s29 s30 s31 s32 s33 s34 s35 s36 s37 s38 s39 s40 s41 s42 s43 s44 s45 s46 s47 s48 s49 s50 s51 s52 s53 s54
 s55 s56 s57 s58 s59 s60 s61 s62 s63 s64 s65 s66 s67 s68 s69 s70 s71 s72 s73 s74 s75 s76 s77 s78 s79 s80 s81 s82 s83 s84 s85 s86 s87 s88 s89 s90 s91 s92 s93 s94 s95 s96 s97 s98 s99 s100 s101 s102 s103 s104 s105 s106 s107 s108
 s109 s110 s111 s112 s113 s114 s115 s116 s117 s118 s119 s120 s121 s122 s123 s124 s125 s126 s127 s128 s129 s130 s131 s132 s133 s134 s135 s136 s137 s138 s139 s140 s141 s142 s143 s144 s145 s146 s147 s148 s149 s150 s151 s152 s153
 s154 s155 s156 s157 s158 s159 s160 s161 s162 s163 s164 s165 s166 : Value) (H : AHeap) (k : Value → AHeap → Prop) : S144x1 k [s0,s1,s2,s3,s4,s5,s6,s7,s8,s9,s10,s11,s12,s13,s14,s15,s16,s17,s18,s19,s20,s21,
 s22,s23,s24,s25,s26,s27,s28,s29,s30,s31,s32,s33,s34,s35,s36,s37,s38,s39,s40,s41,s42,s43,s44,s45,s46,s47,s48,s49,s50,s51,s52,s53,s54,s55,s56,s57,s58,s59,s60,s61,s62,s63,s64,s65,s66,
 s67,s68,s69,s70,s71,s72,s73,s74,s75,s76,s77,s78,s79,s80,s81,s82,s83,s84,s85,s86,s87,s88,s89,s90,s91,s92,s93,s94,s95,s96,s97,s98,s99,s100,s101,s102,s103,s104,s105,s106,s107,s108,s109,
 s110,s111,s112,s113,s114,s115,s116,s117,s118,s119,s120,s121,s122,s123,s124,s125,s126,s127,s128,s129,s130,s131,s132,s133,s134,s135,s136,s137,s138,s139,s140,s141,s142,s143,s144,s145,s146,s147,
 s148,s149,s150,s151,s152,s153,s154,s155,s156,s157,s158,s159,s160,s161,s162,s163,s164,s165,s166] H = (@bnd (aBin2 prog H .gtr 3 (.tmp 160) (.const (.int .i64 0)) s4 (.int .i64 0)) ⟨fun v161x150 => @kifB
 v161x150 ⟨@bnd (aBin2 prog H .add 50 (.const (.int .u32 48)) (.tmp 163) (.int .u32 48) s12) ⟨fun v164x151 => @bnd (convV prog H 50 5 v164x151) ⟨fun v165x152 => @bnd (aIndexAddr prog H 55 s0 (.int .i64 0)) ⟨fun
 v166x153 => @bndS (aStore prog H 5 v166x153 v165x152) ⟨fun _ H155 => k (.tuple #[]) H155⟩⟩⟩⟩⟩ ⟨k (.tuple #[]) H⟩⟩) := by kernel_rfl
-- tocsin/tocsinref10.Same
def L19x0 (n : Nat) (k : Value → AHeap → Prop) (sl : List Value) (H : AHeap) : Prop := kitG prog (drawPairK prog) (cl (cl (cr (cl (cr (cr (cb Tryz.f19))))))) n (kblkG 0 (kseqG prog (drawPairK prog) (cr (cr (cr
 (cb Tryz.f19)))) (kfinG prog Tryz.f19 k))) .normal sl H []
theorem d19 (a0 a1 : Value) (H : AHeap) (k : Value → AHeap → Prop) : kbodyG prog (drawPairK prog) Tryz.f19 [a0,a1] H k = (@bnd (aLen prog H 27 a0) ⟨fun v9x1 => @bnd (aLen prog H 27 a1) ⟨fun v11x2 => @bnd
 (aBin2 prog H .neq 3 (.tmp 9) (.tmp 11) v9x1 v11x2) ⟨fun v12x3 => @kifB v12x3 ⟨k (.bool false) H⟩ ⟨∃ n,L19x0 n  k [a0,a1,undef,undef,(.bool false),(.int .i64 0),undef,undef,a0,v9x1,a1,v11x2,v12x3,undef,
 undef,undef,undef,undef,undef,undef,undef,undef,undef,undef,undef,undef,undef,undef,undef,undef,undef,undef,undef,undef,undef,undef,undef,undef,undef,undef,undef,undef,undef,undef,undef,undef,
 undef,undef,undef,undef,undef,undef,undef,undef,undef,undef,undef,undef,undef,undef,undef,undef,undef,undef,undef,undef,undef,undef,undef,undef,undef,undef,undef,undef,undef,undef,undef,undef,
 undef,undef,undef,undef] H⟩⟩⟩⟩) := by kernel_rfl
theorem L19x0q (n0 : Nat) (s0 s1 s2 s3 s4 s5 s6 s7 s8 s9 s10 s11 s12 s13 s14 s15 s16 s17 s18 s19 s20 s21 s22 s23 s24 s25 s26 s27 s28 s29 s30 s31 s32 s33 s34 s35 s36 s37 s38 s39 s40 s41 s42 s43 s44 s45 s46 s47 s48 s49 s50 s51 s52
 s53 s54 s55 s56 s57 s58 s59 s60 s61 s62 s63 s64 s65 s66 s67 s68 s69 s70 s71 s72 s73 s74 s75 s76 s77 s78 s79 s80 s81 : Value) (H : AHeap) (k : Value → AHeap → Prop) : L19x0 (n0 + 1) k [s0,s1,s2,s3,s4,s5,s6,s7,s8,s9,
 s10,s11,s12,s13,s14,s15,s16,s17,s18,s19,s20,s21,s22,s23,s24,s25,s26,s27,s28,s29,s30,s31,s32,s33,s34,s35,s36,s37,s38,s39,s40,s41,s42,s43,s44,s45,s46,s47,s48,s49,s50,s51,s52,s53,s54,
 s55,s56,s57,s58,s59,s60,s61,s62,s63,s64,s65,s66,s67,s68,s69,s70,s71,s72,s73,s74,s75,s76,s77,s78,s79,s80,s81] H = (@bnd (aLen prog H 27 s0) ⟨fun v15x4 => @bnd (aBin2 prog H .lss 3 (.tmp 13)
 (.tmp 15) s5 v15x4) ⟨fun v16x5 => @kifB v16x5 ⟨(@bnd ((some s0)) ⟨fun v19x6 => @bnd ((some s5)) ⟨fun v20x7 => @bnd (aIndexAddr prog H 27 v19x6 v20x7) ⟨fun v21x8 => @bnd (aLoad prog H 37 v21x8) ⟨fun v22x9 => @bnd
 ((some s1)) ⟨fun v23x10 => @bnd ((some s5)) ⟨fun v24x11 => @bnd (aIndexAddr prog H 27 v23x10 v24x11) ⟨fun v25x12 => @bnd (aLoad prog H 37 v25x12) ⟨fun v26x13 => @bndK false true H ⟨fun v6x14 H15 => aAlloc prog H
 37 = some (v6x14,H15)⟩ ⟨fun _ H15 => aLoad prog H15 37 v25x12 = some v26x13 ∧ aIndexAddr prog H15 27 v23x10 v24x11 = some v25x12 ∧ aLoad prog H15 37 v21x8 = some v22x9 ∧ aIndexAddr prog H15 27 v19x6 v20x7 =
 some v21x8 ∧ True⟩ ⟨fun v6x14 H15 => @bndK false true H15 ⟨fun v7x16 H17 => aAlloc prog H15 37 = some (v7x16,H17)⟩ ⟨fun _ H17 => aLoad prog H17 37 v25x12 = some v26x13 ∧ aIndexAddr prog H17 27 v23x10 v24x11 =
 some v25x12 ∧ aLoad prog H17 37 v21x8 = some v22x9 ∧ aIndexAddr prog H17 27 v19x6 v20x7 = some v21x8 ∧ True⟩ ⟨fun v7x16 H17 => @bndK false true H17 ⟨fun x18 H19 => x18 = undef ∧ aStore prog H17 37 v6x14 v22x9 =
 some H19⟩ ⟨fun _ H19 => aLoad prog H19 37 v25x12 = some v26x13 ∧ aIndexAddr prog H19 27 v23x10 v24x11 = some v25x12 ∧ True⟩ ⟨fun _ H19 => @bndK true true H19 ⟨fun x20 H21 => x20 = undef ∧ aStore prog H19 37 v7x16
 v26x13 = some H21⟩ ⟨fun _ _ => True⟩ ⟨fun _ H21 => @bnd (aFieldAddr prog H21 37 v6x14 0) ⟨fun v27x22 => @bnd (aLoad prog H21 5 v27x22) ⟨fun v28x23 => @bnd (aFieldAddr prog H21 37 v7x16 0) ⟨fun v29x24 => @bnd
 (aLoad prog H21 5 v29x24) ⟨fun v30x25 => @bnd (aBin2 prog H21 .neq 5 (.tmp 28) (.tmp 30) v28x23 v30x25) ⟨fun v31x26 => @bnd (gif v31x26 false (aFieldAddr prog H21 37 v6x14 1) undef) ⟨fun v33x27 => @bnd (gif
 v31x26 false (aLoad prog H21 5 v33x27) undef) ⟨fun v34x28 => @bnd (gif v31x26 false (aFieldAddr prog H21 37 v7x16 1) undef) ⟨fun v35x29 => @bnd (gif v31x26 false (aLoad prog H21 5 v35x29) undef) ⟨fun v36x30 =>
 @bnd (gif v31x26 false (aBin2 prog H21 .neq 5 (.tmp 34) (.tmp 36) v34x28 v36x30) undef) ⟨fun v37x31 => @bnd (pickV v31x26 (.bool true) v37x31) ⟨fun v38x32 => @bnd (gif v38x32 false (aFieldAddr prog H21 37 v6x14 2)
 undef) ⟨fun v40x33 => @bnd (gif v38x32 false (aLoad prog H21 35 v40x33) undef) ⟨fun v41x34 => @bnd (gif v38x32 false (aFieldAddr prog H21 37 v7x16 2) undef) ⟨fun v42x35 => @bnd (gif v38x32 false (aLoad prog H21
 35 v42x35) undef) ⟨fun v43x36 => @bndG v38x32 false H21 ⟨fun v44x37 H38 => ACalls prog 41 [v41x34,v43x36] H21 v44x37 H38⟩ ⟨fun v44x37 H38 => @bnd (gif v38x32 false (unV prog .not v44x37) undef) ⟨fun v45x39 => @bnd
 (pickV v38x32 (.bool true) v45x39) ⟨fun v46x40 => @bnd (gif v46x40 false (aFieldAddr prog H38 37 v6x14 3) undef) ⟨fun v48x41 => @bnd (gif v46x40 false (aLoad prog H38 3 v48x41) undef) ⟨fun v49x42 => @bnd (gif v46x40
 false (aFieldAddr prog H38 37 v7x16 3) undef) ⟨fun v50x43 => @bnd (gif v46x40 false (aLoad prog H38 3 v50x43) undef) ⟨fun v51x44 => @bnd (gif v46x40 false (aBin2 prog H38 .neq 3 (.tmp 49) (.tmp 51) v49x42 v51x44)
 undef) ⟨fun v52x45 => @bnd (pickV v46x40 (.bool true) v52x45) ⟨fun v53x46 => @bnd (gif v53x46 false (aFieldAddr prog H38 37 v6x14 4) undef) ⟨fun v55x47 => @bnd (gif v53x46 false (aLoad prog H38 5 v55x47) undef) ⟨fun
 v56x48 => @bnd (gif v53x46 false (aFieldAddr prog H38 37 v7x16 4) undef) ⟨fun v57x49 => @bnd (gif v53x46 false (aLoad prog H38 5 v57x49) undef) ⟨fun v58x50 => @bnd (gif v53x46 false (aBin2 prog H38 .neq 5 (.tmp
 56) (.tmp 58) v56x48 v58x50) undef) ⟨fun v59x51 => @bnd (pickV v53x46 (.bool true) v59x51) ⟨fun v60x52 => @bnd (gif v60x52 false (aFieldAddr prog H38 37 v6x14 5) undef) ⟨fun v62x53 => @bnd (gif v60x52 false (aLoad
 prog H38 2 v62x53) undef) ⟨fun v63x54 => @bnd (gif v60x52 false (aFieldAddr prog H38 37 v7x16 5) undef) ⟨fun v64x55 => @bnd (gif v60x52 false (aLoad prog H38 2 v64x55) undef) ⟨fun v65x56 => @bnd (gif v60x52 false
 (aBin2 prog H38 .neq 2 (.tmp 63) (.tmp 65) v63x54 v65x56) undef) ⟨fun v66x57 => @bnd (pickV v60x52 (.bool true) v66x57) ⟨fun v67x58 => @bnd (gif v67x58 false (aFieldAddr prog H38 37 v6x14 6) undef) ⟨fun v69x59 => @bnd
 (gif v67x58 false (aLoad prog H38 3 v69x59) undef) ⟨fun v70x60 => @bnd (gif v67x58 false (aFieldAddr prog H38 37 v7x16 6) undef) ⟨fun v71x61 => @bnd (gif v67x58 false (aLoad prog H38 3 v71x61) undef) ⟨fun v72x62
 => @bnd (gif v67x58 false (aBin2 prog H38 .neq 3 (.tmp 70) (.tmp 72) v70x60 v72x62) undef) ⟨fun v73x63 => @bnd (pickV v67x58 (.bool true) v73x63) ⟨fun v74x64 => @bnd (gif v74x64 false (aFieldAddr prog H38 37 v6x14 7)
 undef) ⟨fun v76x65 => @bnd (gif v74x64 false (aLoad prog H38 3 v76x65) undef) ⟨fun v77x66 => @bnd (gif v74x64 false (aFieldAddr prog H38 37 v7x16 7) undef) ⟨fun v78x67 => @bnd (gif v74x64 false (aLoad prog H38 3
 v78x67) undef) ⟨fun v79x68 => @bnd (gif v74x64 false (aBin2 prog H38 .neq 3 (.tmp 77) (.tmp 79) v77x66 v79x68) undef) ⟨fun v80x69 => @bnd (pickV v74x64 (.bool true) v80x69) ⟨fun v81x70 => @kifB v81x70 ⟨k (.bool false) H38⟩
 ⟨@bnd (aBin2 prog H38 .add 3 (.tmp 17) (.const (.int .i64 1)) s5 (.int .i64 1)) ⟨fun v18x71 => L19x0 n0  k [s0,s1,s2,s3,s4,v18x71,v6x14,v7x16,s8,s9,s10,s11,s12,s5,s0,v15x4,v16x5,s5,v18x71,v19x6,v20x7,
 v21x8,v22x9,v23x10,v24x11,v25x12,v26x13,v27x22,v28x23,v29x24,v30x25,v31x26,v31x26,v33x27,v34x28,v35x29,v36x30,v37x31,v38x32,v38x32,v40x33,v41x34,v42x35,v43x36,v44x37,v45x39,v46x40,v46x40,v48x41,
 v49x42,v50x43,v51x44,v52x45,v53x46,v53x46,v55x47,v56x48,v57x49,v58x50,v59x51,v60x52,v60x52,v62x53,v63x54,v64x55,v65x56,v66x57,v67x58,v67x58,v69x59,v70x60,v71x61,v72x62,v73x63,v74x64,v74x64,v76x65,
 v77x66,v78x67,v79x68,v80x69,v81x70] H38⟩⟩⟩⟩⟩⟩⟩⟩⟩⟩⟩⟩⟩⟩⟩⟩⟩⟩⟩⟩⟩⟩⟩⟩⟩⟩⟩⟩⟩⟩⟩⟩⟩⟩⟩⟩⟩⟩⟩⟩⟩⟩⟩⟩⟩⟩⟩⟩⟩⟩⟩⟩⟩⟩⟩⟩⟩⟩⟩⟩⟩⟩ ∧ @bnd ((some s0)) ⟨fun v19x72 => @bnd ((some s5)) ⟨fun v20x73 => @bnd (aIndexAddr prog H 27 v19x72 v20x73) ⟨fun
 v21x74 => @bnd (aLoad prog H 37 v21x74) ⟨fun v22x75 => @bnd ((some s1)) ⟨fun v23x76 => @bnd ((some s5)) ⟨fun v24x77 => @bnd (aIndexAddr prog H 27 v23x76 v24x77) ⟨fun v25x78 => @bnd (aLoad prog H 37 v25x78) ⟨fun
 v26x79 => @bndK false true H ⟨fun v7x80 H81 => aAlloc prog H 37 = some (v7x80,H81)⟩ ⟨fun _ H81 => aLoad prog H81 37 v25x78 = some v26x79 ∧ aIndexAddr prog H81 27 v23x76 v24x77 = some v25x78 ∧ aLoad prog H81
 37 v21x74 = some v22x75 ∧ aIndexAddr prog H81 27 v19x72 v20x73 = some v21x74 ∧ True⟩ ⟨fun v7x80 H81 => @bndK false true H81 ⟨fun v6x82 H83 => aAlloc prog H81 37 = some (v6x82,H83)⟩ ⟨fun _ H83 => aLoad prog H83
 37 v25x78 = some v26x79 ∧ aIndexAddr prog H83 27 v23x76 v24x77 = some v25x78 ∧ aLoad prog H83 37 v21x74 = some v22x75 ∧ aIndexAddr prog H83 27 v19x72 v20x73 = some v21x74 ∧ True⟩ ⟨fun v6x82 H83 => @bndK false
 true H83 ⟨fun x84 H85 => x84 = undef ∧ aStore prog H83 37 v6x82 v22x75 = some H85⟩ ⟨fun _ H85 => aLoad prog H85 37 v25x78 = some v26x79 ∧ aIndexAddr prog H85 27 v23x76 v24x77 = some v25x78 ∧ True⟩ ⟨fun _ H85 =>
 @bndK true true H85 ⟨fun x86 H87 => x86 = undef ∧ aStore prog H85 37 v7x80 v26x79 = some H87⟩ ⟨fun _ _ => True⟩ ⟨fun _ H87 => @bnd (aFieldAddr prog H87 37 v6x82 0) ⟨fun v27x88 => @bnd (aLoad prog H87 5 v27x88)
 ⟨fun v28x89 => @bnd (aFieldAddr prog H87 37 v7x80 0) ⟨fun v29x90 => @bnd (aLoad prog H87 5 v29x90) ⟨fun v30x91 => @bnd (aBin2 prog H87 .neq 5 (.tmp 28) (.tmp 30) v28x89 v30x91) ⟨fun v31x92 => @bnd (gif v31x92
 false (aFieldAddr prog H87 37 v6x82 1) undef) ⟨fun v33x93 => @bnd (gif v31x92 false (aLoad prog H87 5 v33x93) undef) ⟨fun v34x94 => @bnd (gif v31x92 false (aFieldAddr prog H87 37 v7x80 1) undef) ⟨fun v35x95 =>
 @bnd (gif v31x92 false (aLoad prog H87 5 v35x95) undef) ⟨fun v36x96 => @bnd (gif v31x92 false (aBin2 prog H87 .neq 5 (.tmp 34) (.tmp 36) v34x94 v36x96) undef) ⟨fun v37x97 => @bnd (pickV v31x92 (.bool true) v37x97)
 ⟨fun v38x98 => @bnd (gif v38x98 false (aFieldAddr prog H87 37 v6x82 2) undef) ⟨fun v40x99 => @bnd (gif v38x98 false (aLoad prog H87 35 v40x99) undef) ⟨fun v41x100 => @bnd (gif v38x98 false (aFieldAddr prog H87 37
 v7x80 2) undef) ⟨fun v42x101 => @bnd (gif v38x98 false (aLoad prog H87 35 v42x101) undef) ⟨fun v43x102 => @bndG v38x98 false H87 ⟨fun v44x103 H104 => ACalls prog 41 [v41x100,v43x102] H87 v44x103 H104⟩ ⟨fun v44x103
 H104 => @bnd (gif v38x98 false (unV prog .not v44x103) undef) ⟨fun v45x105 => @bnd (pickV v38x98 (.bool true) v45x105) ⟨fun v46x106 => @bnd (gif v46x106 false (aFieldAddr prog H104 37 v6x82 3) undef) ⟨fun v48x107 =>
 @bnd (gif v46x106 false (aLoad prog H104 3 v48x107) undef) ⟨fun v49x108 => @bnd (gif v46x106 false (aFieldAddr prog H104 37 v7x80 3) undef) ⟨fun v50x109 => @bnd (gif v46x106 false (aLoad prog H104 3 v50x109)
 undef) ⟨fun v51x110 => @bnd (gif v46x106 false (aBin2 prog H104 .neq 3 (.tmp 49) (.tmp 51) v49x108 v51x110) undef) ⟨fun v52x111 => @bnd (pickV v46x106 (.bool true) v52x111) ⟨fun v53x112 => @bnd (gif v53x112 false
 (aFieldAddr prog H104 37 v6x82 4) undef) ⟨fun v55x113 => @bnd (gif v53x112 false (aLoad prog H104 5 v55x113) undef) ⟨fun v56x114 => @bnd (gif v53x112 false (aFieldAddr prog H104 37 v7x80 4) undef) ⟨fun v57x115 =>
 @bnd (gif v53x112 false (aLoad prog H104 5 v57x115) undef) ⟨fun v58x116 => @bnd (gif v53x112 false (aBin2 prog H104 .neq 5 (.tmp 56) (.tmp 58) v56x114 v58x116) undef) ⟨fun v59x117 => @bnd (pickV v53x112 (.bool true)
 v59x117) ⟨fun v60x118 => @bnd (gif v60x118 false (aFieldAddr prog H104 37 v6x82 5) undef) ⟨fun v62x119 => @bnd (gif v60x118 false (aLoad prog H104 2 v62x119) undef) ⟨fun v63x120 => @bnd (gif v60x118 false (aFieldAddr
 prog H104 37 v7x80 5) undef) ⟨fun v64x121 => @bnd (gif v60x118 false (aLoad prog H104 2 v64x121) undef) ⟨fun v65x122 => @bnd (gif v60x118 false (aBin2 prog H104 .neq 2 (.tmp 63) (.tmp 65) v63x120 v65x122) undef)
 ⟨fun v66x123 => @bnd (pickV v60x118 (.bool true) v66x123) ⟨fun v67x124 => @bnd (gif v67x124 false (aFieldAddr prog H104 37 v6x82 6) undef) ⟨fun v69x125 => @bnd (gif v67x124 false (aLoad prog H104 3 v69x125) undef)
 ⟨fun v70x126 => @bnd (gif v67x124 false (aFieldAddr prog H104 37 v7x80 6) undef) ⟨fun v71x127 => @bnd (gif v67x124 false (aLoad prog H104 3 v71x127) undef) ⟨fun v72x128 => @bnd (gif v67x124 false (aBin2 prog H104
 .neq 3 (.tmp 70) (.tmp 72) v70x126 v72x128) undef) ⟨fun v73x129 => @bnd (pickV v67x124 (.bool true) v73x129) ⟨fun v74x130 => @bnd (gif v74x130 false (aFieldAddr prog H104 37 v6x82 7) undef) ⟨fun v76x131 => @bnd (gif
 v74x130 false (aLoad prog H104 3 v76x131) undef) ⟨fun v77x132 => @bnd (gif v74x130 false (aFieldAddr prog H104 37 v7x80 7) undef) ⟨fun v78x133 => @bnd (gif v74x130 false (aLoad prog H104 3 v78x133) undef) ⟨fun
 v79x134 => @bnd (gif v74x130 false (aBin2 prog H104 .neq 3 (.tmp 77) (.tmp 79) v77x132 v79x134) undef) ⟨fun v80x135 => @bnd (pickV v74x130 (.bool true) v80x135) ⟨fun v81x136 => @kifB v81x136 ⟨k (.bool false) H104⟩ ⟨@bnd
 (aBin2 prog H104 .add 3 (.tmp 17) (.const (.int .i64 1)) s5 (.int .i64 1)) ⟨fun v18x137 => L19x0 n0  k [s0,s1,s2,s3,s4,v18x137,v6x82,v7x80,s8,s9,s10,s11,s12,s5,s0,v15x4,v16x5,s5,v18x137,v19x72,v20x73,
 v21x74,v22x75,v23x76,v24x77,v25x78,v26x79,v27x88,v28x89,v29x90,v30x91,v31x92,v31x92,v33x93,v34x94,v35x95,v36x96,v37x97,v38x98,v38x98,v40x99,v41x100,v42x101,v43x102,v44x103,v45x105,v46x106,v46x106,
 v48x107,v49x108,v50x109,v51x110,v52x111,v53x112,v53x112,v55x113,v56x114,v57x115,v58x116,v59x117,v60x118,v60x118,v62x119,v63x120,v64x121,v65x122,v66x123,v67x124,v67x124,v69x125,v70x126,v71x127,v72x128,
 v73x129,v74x130,v74x130,v76x131,v77x132,v78x133,v79x134,v80x135,v81x136] H104⟩⟩⟩⟩⟩⟩⟩⟩⟩⟩⟩⟩⟩⟩⟩⟩⟩⟩⟩⟩⟩⟩⟩⟩⟩⟩⟩⟩⟩⟩⟩⟩⟩⟩⟩⟩⟩⟩⟩⟩⟩⟩⟩⟩⟩⟩⟩⟩⟩⟩⟩⟩⟩⟩⟩⟩⟩⟩⟩⟩⟩⟩)⟩ ⟨k (.bool true) H⟩⟩⟩) := by kernel_rfl
-- tocsin/tocsinlaw14.awake
def L148x0 (n : Nat) (k : Value → AHeap → Prop) (sl : List Value) (H : AHeap) : Prop := kitG prog (drawKeep prog) (cl (cl (cr (cl (cr (cb Tryz.f148)))))) n (kblkG 0 (kseqG prog (drawKeep prog) (cr (cr (cb
 Tryz.f148))) (kfinG prog Tryz.f148 k))) .normal sl H []
theorem d148 (a0 a1 : Value) (H : AHeap) (k : Value → AHeap → Prop) : kbodyG prog (drawKeep prog) Tryz.f148 [a0,a1] H k = (@bndE (aAlloc prog H 75) ⟨fun v4x1 H2 => ∃ n,L148x0 n  k [a0,a1,undef,undef,v4x1,
 (.int .i64 0),(.int .i64 0),undef,undef,undef,undef,undef,undef,undef,undef,undef,undef,undef,undef,undef,undef,undef,undef,undef,undef,undef,undef,undef,undef,undef,undef,undef,undef,undef,undef,
 undef,undef,undef,undef,undef,undef,undef,undef,undef,undef] H2⟩) := by kernel_rfl
theorem L148x0q (n0 : Nat) (s0 s1 s2 s3 s4 s5 s6 s7 s8 s9 s10 s11 s12 s13 s14 s15 s16 s17 s18 s19 s20 s21 s22 s23 s24 s25 s26 s27 s28 s29 s30 s31 s32 s33 s34 s35 s36 s37 s38 s39 s40 s41 s42 s43 s44 : Value) (H : AHeap) (k : Value
 → AHeap → Prop) : L148x0 (n0 + 1) k [s0,s1,s2,s3,s4,s5,s6,s7,s8,s9,s10,s11,s12,s13,s14,s15,s16,s17,s18,s19,s20,s21,s22,s23,s24,s25,s26,s27,s28,s29,s30,s31,s32,s33,s34,s35,s36,s37,s38,s39,
 s40,s41,s42,s43,s44] H = (@bnd (aBin2 prog H .lss 3 (.tmp 7) (.const (.int .i64 3)) s6 (.int .i64 3)) ⟨fun v8x3 => @kifB v8x3 ⟨@bndC prog 95 [s0,s1,(.int .u8 1),(.string { data := #[42] })] H ⟨fun v13x4 H5 =>
 @bnd (gif v13x4 true ((some s0)) undef) ⟨fun v15x6 => @bnd (gif v13x4 true ((some s1)) undef) ⟨fun v16x7 => @bnd (gif v13x4 true (aBin2 prog H5 .add 3 (.tmp 16) (.const (.int .i64 1)) v16x7 (.int .i64 1)) undef) ⟨fun v17x8
 => @bnd (gif v13x4 true ((some s6)) undef) ⟨fun v18x9 => @bndG v13x4 true H5 ⟨fun v19x10 H11 => ACalls prog 171 [v18x9] H5 v19x10 H11⟩ ⟨fun v19x10 H11 => @bndG v13x4 true H11 ⟨fun v20x12 H13 => ACalls prog 95 [v15x6,
 v17x8,(.int .u8 4),v19x10] H11 v20x12 H13⟩ ⟨fun v20x12 H13 => @bnd (pickV v13x4 v20x12 (.bool false)) ⟨fun v21x14 => @bnd (gif v21x14 true ((some s0)) undef) ⟨fun v23x15 => @bnd (gif v21x14 true ((some s1)) undef) ⟨fun v24x16
 => @bnd (gif v21x14 true (aBin2 prog H13 .add 3 (.tmp 24) (.const (.int .i64 2)) v24x16 (.int .i64 2)) undef) ⟨fun v25x17 => @bndG v21x14 true H13 ⟨fun v26x18 H19 => ACalls prog 95 [v23x15,v25x17,(.int .u8 3),
 (.string { data := #[42] })] H13 v26x18 H19⟩ ⟨fun v26x18 H19 => @bnd (pickV v21x14 v26x18 (.bool false)) ⟨fun v27x20 => @kifB v27x20 ⟨@bnd ((some s0)) ⟨fun v28x21 => @bnd ((some s1)) ⟨fun v29x22 => @bnd (aIndexAddr prog
 H19 64 v28x21 v29x22) ⟨fun v30x23 => @bnd (aFieldAddr prog H19 72 v30x23 1) ⟨fun v31x24 => @bnd (aLoad prog H19 9 v31x24) ⟨fun v32x25 => @bnd ((some s6)) ⟨fun v33x26 => @bnd (convV prog H19 3 5 v33x26) ⟨fun
 v34x27 => @bnd ((some s0)) ⟨fun v35x28 => @bnd ((some s1)) ⟨fun v36x29 => @bnd (aBin2 prog H19 .add 3 (.tmp 36) (.const (.int .i64 2)) v36x29 (.int .i64 2)) ⟨fun v37x30 => @bnd (aIndexAddr prog H19 64 v35x28 v37x30)
 ⟨fun v38x31 => @bnd (aFieldAddr prog H19 72 v38x31 1) ⟨fun v39x32 => @bnd (aLoad prog H19 9 v39x32) ⟨fun v40x33 => @bnd (buildV prog 75 [(0,v32x25),(1,v34x27),(2,v40x33)]) ⟨fun v41x34 => @bnd ((some s1))
 ⟨fun v42x35 => @bnd (aBin2 prog H19 .add 3 (.tmp 42) (.const (.int .i64 3)) v42x35 (.int .i64 3)) ⟨fun v43x36 => @bndK false true H19 ⟨fun x37 H38 => x37 = undef ∧ aStore prog H19 75 s4 v41x34 = some H38⟩ ⟨fun _ H38
 => aBin2 prog H38 .add 3 (.tmp 42) (.const (.int .i64 3)) v42x35 (.int .i64 3) = some v43x36 ∧ True⟩ ⟨fun _ H38 => @bnd ((some v43x36)) ⟨fun v5x39 => ∃ r40,aLoad prog H38 75 s4 = some r40 ∧ k (.tuple #[r40,v5x39])
 H38⟩⟩⟩⟩⟩⟩⟩⟩⟩⟩⟩⟩⟩⟩⟩⟩⟩⟩⟩ ⟨@bnd (aBin2 prog H19 .add 3 (.tmp 9) (.const (.int .i64 1)) s6 (.int .i64 1)) ⟨fun v10x41 => L148x0 n0  k [s0,s1,s2,s3,s4,s5,v10x41,s6,v8x3,s6,v10x41,s0,s1,v13x4,v13x4,v15x6,v16x7,
 v17x8,v18x9,v19x10,v20x12,v21x14,v21x14,v23x15,v24x16,v25x17,v26x18,v27x20,s28,s29,s30,s31,s32,s33,s34,s35,s36,s37,s38,s39,s40,s41,s42,s43,s44] H19⟩⟩⟩⟩⟩⟩⟩⟩⟩⟩⟩⟩⟩⟩⟩⟩ ⟨@bnd (buildV prog 75 []) ⟨fun
 v44x42 => @bndS (aStore prog H 75 s4 v44x42) ⟨fun _ H44 => ∃ r45,aLoad prog H44 75 s4 = some r45 ∧ k (.tuple #[r45,(.int .i64 (-1))]) H44⟩⟩⟩⟩) := by kernel_rfl
end Go.Vi
namespace Go.Vi
open Go Go.Proofs Go.Proofs.Tryz
theorem acallsKo {P : Program} (hm : P.follows .mixedOrders = true) {f fn args H v K'} (hf : P.funcs[f]? = some fn) (hn : notNG fn = true) (hr : kbodyG P (drawKeep P) fn args H fun u H2 => u = v ∧ H2 = K') : ACalls P f args H v K' :=
 acallsG_of (fun c => @drawKeep_sound P c hm) hf hn hr
abbrev u32 (n : Int) : Value := .int .u32 n
def dgt (d : Nat) : Value := byt (UInt8.ofNat (48 + d))
def putD (o : Nat) : Nat → Nat → List Value → List Value
 | 0,_,cs => cs
 | n + 1,u,cs => putD o n (u / 10) (cs.set (o + n) (dgt (u % 10)))
theorem sm_at : ∀ p : Nat,p < 100 → smS.data[2 * p]? = some (UInt8.ofNat (48 + p / 10)) ∧ smS.data[2 * p + 1]? = some (UInt8.ofNat (48 + p % 10)) := by decide +kernel
theorem sm_ix (_H : Nat) {p : Nat} (hp : p < 100) : aIndex prog 9 (.string smS) (u32 ((2 * p : Nat) : Int)) = some (dgt (p / 10)) ∧ aIndex prog 9 (.string smS) (u32 ((2 * p + 1 : Nat) : Int)) = some (dgt (p % 10)) := by
 obtain ⟨h1,h2⟩ := sm_at p hp
 have e : str smS.data.toList = .string smS := rfl
 have i1 := aIndex_at (P := prog) (T := 9) (k := .u32) (l := smS.data.toList) (i := 2 * p) (by simp) (by rw [Array.getElem?_toList]; exact h1)
 have i2 := aIndex_at (P := prog) (T := 9) (k := .u32) (l := smS.data.toList) (i := 2 * p + 1) (by simp) (by rw [Array.getElem?_toList]; exact h2)
 rw [e] at i1 i2
 exact ⟨i1,i2⟩
section
variable {P : Program} {H : AHeap} {T : TypeId} {x y : Operand} {k : IntKind} {a : Nat}
theorem remL {c : Int} {n : Nat} (hc : c = n) (h0 : 0 < n) : aBin2 P H .rem T x y (.int k (a : Int)) (.int k c) = some (.int k ((a % n : Nat) : Int)) := by
 subst hc; rw [aBin_rem _ _ _ _ _ _ _ (by omega)]; rfl
theorem quoL {c : Int} {n : Nat} (hc : c = n) (h0 : 0 < n) (hw : k.wrap ((a / n : Nat) : Int) = ((a / n : Nat) : Int)) : aBin2 P H .quo T x y (.int k (a : Int)) (.int k c) = some (.int k ((a / n : Nat) : Int)) := by
 subst hc; rw [aBin_quo _ _ _ _ _ _ _ (by omega),← hw]; rfl
theorem wrap32 {n : Int} (h1 : 0 ≤ n) (h2 : n < 4294967296) : IntKind.u32.wrap n = n := by
 unfold IntKind.wrap
 simp only [show IntKind.u32.bits = 32 from rfl,show IntKind.u32.signed = false from rfl]
 simp
 omega
theorem rem32 {n : Nat} {c : Int} (hc : c = n) (h0 : 0 < n) : aBin2 P H .rem T x y (u32 (a : Int)) (u32 c) = some (u32 ((a % n : Nat) : Int)) := remL hc h0
theorem quo32 {n : Nat} {c : Int} (hc : c = n) (h0 : 0 < n) (ha : a < 4294967296) : aBin2 P H .quo T x y (u32 (a : Int)) (u32 c) = some (u32 ((a / n : Nat) : Int)) :=
 quoL hc h0 (by have h := Nat.div_le_self a n; generalize a / n = q at *; exact wrap32 (by omega) (by omega))
theorem mul32 (ha : a < 1000) : aBin2 P H .mul T x y (u32 (a : Int)) (u32 2) = some (u32 ((2 * a : Nat) : Int)) := by
 rw [aBin_mul,wrap32 (by omega) (by omega)]; congr 2; omega
theorem add32 (ha : a < 1000) : aBin2 P H .add T x y (u32 ((2 * a : Nat) : Int)) (u32 1) = some (u32 ((2 * a + 1 : Nat) : Int)) := by
 rw [aBin_add,wrap32 (by omega) (by omega)]; rfl
theorem subN {j : Nat} {c : Int} (hc : c = j) (hj : j ≤ a) (ha : a < 1000) : aBin2 P H .sub T x y (i64 (a : Int)) (i64 c) = some (i64 ((a - j : Nat) : Int)) := by
 subst hc; rw [aBin_sub,wrap_i64 (by omega) (by omega)]; congr 2; omega
end
theorem row_at {H : AHeap} {b o nd c i : Nat} {cs : List Value} {T : TypeId} (hb : H[b]? = some (.cells cs T)) (hc : cs.length = 24) (hi : i < nd) :
  aIndexAddr prog H 55 (.slice (some ⟨b,o,some 24⟩) nd c) (i64 (i : Int)) = some (.pointer (some ⟨b,o + i,some 24⟩)) := by
 rw [aIndexAddr_eq (e := 5) (z := 1) (by simp) (by simp) (by simp [hlen,hb,AObj.len,hc]) (by omega) (by omega)]
 simp
theorem row_sto {H : AHeap} {b i d : Nat} {cs : List Value} {T : TypeId} (hb : H[b]? = some (.cells cs T)) (hc : cs.length = 24) (hi : i < 24) :
  aStore prog H 5 (.pointer (some ⟨b,i,some 24⟩)) (dgt d) = some (H.set b (.cells (cs.set i (dgt d)) T)) := by
 have h1 : (dgt d).cells = #[dgt d] := rfl
 have h2 : storable (dgt d) = true := rfl
 simp [hb,hc,h1,h2]
 omega
theorem set_get {H : AHeap} {b : Nat} {x y : AObj} (hb : H[b]? = some x) : (H.set b y)[b]? = some y := List.getElem?_set_self (List.getElem?_eq_some_iff.1 hb).1
theorem putD_two {o n u : Nat} {cs : List Value} : putD o (n + 2) u cs = putD o n (u / 100) ((cs.set (o + (n + 1)) (dgt (u % 100 % 10))).set (o + n) (dgt (u % 100 / 10))) := by
 show putD o n (u / 10 / 10) ((cs.set (o + (n + 1)) (dgt (u % 10))).set (o + n) (dgt (u / 10 % 10))) = _
 rw [show u / 10 / 10 = u / 100 by omega,show u % 100 % 10 = u % 10 by omega,show u % 100 / 10 = u / 10 % 10 by omega]
theorem putD_len : ∀ (n o u : Nat) (cs : List Value),(putD o n u cs).length = cs.length := by
 intro n
 induction n with
 | zero => intro o u cs; rfl
 | succ n ih => intro o u cs; rw [putD,ih]; simp
theorem fb_last {H : AHeap} {b o nd m0 c u : Nat} {cs : List Value} {T : TypeId} {k : Value → AHeap → Prop} (hb : H[b]? = some (.cells cs T)) (hc : cs.length = 24) (ho : o + nd ≤ 24) (hnd : nd < 2) (hu : u < 10 ^ nd) (hndc : nd ≤ m0)
  (hk : k (.tuple #[]) (H.set b (.cells (putD o nd u cs) T))) (s1 s2 s3 s5 s6 s7 s8 s9 s10 s11 s13 s14 s15 s16 s17 s18 s19 s20 s21 s22 s23 s24 s25 s26 s27 s28 s29 s30 s31 s32 s33 s34 s35 s36 s37 s38 s39 s40 s41 s42 s43 s44 s45 s46 s47 s48 s49 s50 s51 s52 s53 s54 s55 s56 s57 s58 s59 s60 s61 s62 s63 s64 s65 s66 s67 s68 s69 s70 s71 s72 s73 s74 s75 s76 s77 s78 s79 s80 s81 s82 s83 s84 s85 s86 s87 s88 s89 s90 s91 s92 s93 s94 s95 s96 s97 s98 s99 s100 s101 s102 s103 s104 s105 s106 s107 s108 s109 s110 s111 s112 s113 s114 s115 s116 s117 s118 s119 s120 s121 s122 s123 s124 s125 s126 s127 s128 s129 s130 s131 s132 s133 s134 s135 s136 s137 s138 s139 s140 s141 s142 s143 s144 s145 s146 s147 s148 s149 s150 s151 s152 s153 s154 s155 s156 s157 s158 s159 s160 s161 s162 s163 s164 s165 s166 : Value) : S144x1 k [.slice (some ⟨b,o,some 24⟩) m0 c,s1,s2,s3,i64 (nd : Int),s5,s6,s7,s8,s9,s10,s11,u32 (u : Int),s13,s14,s15,s16,s17,s18,s19,s20,s21,s22,s23,s24,s25,s26,s27,s28,s29,s30,s31,s32,s33,s34,s35,s36,s37,s38,s39,s40,s41,s42,s43,s44,s45,s46,s47,s48,s49,s50,s51,s52,s53,s54,s55,s56,s57,s58,s59,s60,s61,s62,s63,s64,s65,s66,s67,s68,s69,s70,s71,s72,s73,s74,s75,s76,s77,s78,s79,s80,s81,s82,s83,s84,s85,s86,s87,s88,s89,s90,s91,s92,s93,s94,s95,s96,s97,s98,s99,s100,s101,s102,s103,s104,s105,s106,s107,s108,s109,s110,s111,s112,s113,s114,s115,s116,s117,s118,s119,s120,s121,s122,s123,s124,s125,s126,s127,s128,s129,s130,s131,s132,s133,s134,s135,s136,s137,s138,s139,s140,s141,s142,s143,s144,s145,s146,s147,s148,s149,s150,s151,s152,s153,s154,s155,s156,s157,s158,s159,s160,s161,s162,s163,s164,s165,s166] H := by
 rw [S144x1q]
 match nd,hnd,hu,hk with
 | 0, _, hu, hk =>
   simp
   rw [show H.set b (.cells (putD o 0 u cs) T) = H from set_same hb] at hk
   exact hk
 | 1, _, hu, hk =>
   have hu' : u < 10 := by simpa using hu
   have w1 : IntKind.u32.wrap (48 + (u : Int)) = ((48 + u : Nat) : Int) := by rw [wrap32 (by omega) (by omega)]; omega
   have w2 : IntKind.u8.wrap (((48 + u : Nat) : Int)) = (((UInt8.ofNat (48 + u)).toNat : Nat) : Int) := by
    rw [wrap_u8 (by omega) (by omega)]; simp only [UInt8.toNat_ofNat']; omega
   have hix := row_at (o := o) (nd := m0) (c := c) (i := 0) hb hc (by omega)
   have hst := row_sto (i := o) (d := u) hb hc (by omega)
   simp only [show ((0 : Nat) : Int) = 0 from rfl,Nat.add_zero] at hix
   have e : putD o 1 u cs = cs.set o (dgt u) := by
    show cs.set (o + 0) (dgt (u % 10)) = _
    rw [Nat.add_zero,Nat.mod_eq_of_lt hu']
   rw [e] at hk
   simp only [show ((1 : Nat) : Int) = 1 from rfl,aBin_gtr,show decide ((1 : Int) > 0) = true from rfl,bnd_some,kifB_true,aBin_add,w1,convV_int tu50 tu5,w2,hix]
   rw [show (Value.int .u8 (((UInt8.ofNat (48 + u)).toNat : Nat) : Int)) = dgt u from rfl,hst]
   simp only [bndS_some]
   exact hk
theorem set_len {cs : List Value} {i : Nat} {v : Value} (h : cs.length = 24) : (cs.set i v).length = 24 := by simpa using h
theorem fb_two {H : AHeap} {b o nd m0 c u : Nat} {cs : List Value} {T : TypeId} {k : Value → AHeap → Prop} (hb : H[b]? = some (.cells cs T)) (hc : cs.length = 24) (ho : o + nd ≤ 24) (hnd : nd < 4) (hu : u < 10 ^ nd) (hndc : nd ≤ m0)
  (hk : k (.tuple #[]) (H.set b (.cells (putD o nd u cs) T))) (s1 s2 s3 s5 s6 s7 s8 s9 s10 s11 s13 s14 s15 s16 s17 s18 s19 s20 s21 s22 s23 s24 s25 s26 s27 s28 s29 s30 s31 s32 s33 s34 s35 s36 s37 s38 s39 s40 s41 s42 s43 s44 s45 s46 s47 s48 s49 s50 s51 s52 s53 s54 s55 s56 s57 s58 s59 s60 s61 s62 s63 s64 s65 s66 s67 s68 s69 s70 s71 s72 s73 s74 s75 s76 s77 s78 s79 s80 s81 s82 s83 s84 s85 s86 s87 s88 s89 s90 s91 s92 s93 s94 s95 s96 s97 s98 s99 s100 s101 s102 s103 s104 s105 s106 s107 s108 s109 s110 s111 s112 s113 s114 s115 s116 s117 s118 s119 s120 s121 s122 s123 s124 s125 s126 s127 s128 s129 s130 s131 s132 s133 s134 s135 s136 s137 s138 s139 s140 s141 s142 s143 s144 s145 s146 s147 s148 s149 s150 s151 s152 s153 s154 s155 s156 s157 s158 s159 s160 s161 s162 s163 s164 s165 s166 : Value) : S144x0 k [.slice (some ⟨b,o,some 24⟩) m0 c,s1,s2,s3,i64 (nd : Int),s5,s6,s7,s8,s9,s10,s11,u32 (u : Int),s13,s14,s15,s16,s17,s18,s19,s20,s21,s22,s23,s24,s25,s26,s27,s28,s29,s30,s31,s32,s33,s34,s35,s36,s37,s38,s39,s40,s41,s42,s43,s44,s45,s46,s47,s48,s49,s50,s51,s52,s53,s54,s55,s56,s57,s58,s59,s60,s61,s62,s63,s64,s65,s66,s67,s68,s69,s70,s71,s72,s73,s74,s75,s76,s77,s78,s79,s80,s81,s82,s83,s84,s85,s86,s87,s88,s89,s90,s91,s92,s93,s94,s95,s96,s97,s98,s99,s100,s101,s102,s103,s104,s105,s106,s107,s108,s109,s110,s111,s112,s113,s114,s115,s116,s117,s118,s119,s120,s121,s122,s123,s124,s125,s126,s127,s128,s129,s130,s131,s132,s133,s134,s135,s136,s137,s138,s139,s140,s141,s142,s143,s144,s145,s146,s147,s148,s149,s150,s151,s152,s153,s154,s155,s156,s157,s158,s159,s160,s161,s162,s163,s164,s165,s166] H := by
 rw [S144x0q]
 simp only [aBin_geq,bnd_some]
 have hu4 : u < 10000 := Nat.lt_of_lt_of_le hu (Nat.pow_le_pow_right (by omega) (by omega : nd ≤ 4))
 refine kifB_bool (fun hq => ?_) (fun hq => ?_)
 · obtain ⟨n,rfl⟩ : ∃ n,nd = n + 2 := ⟨nd - 2,by simp at hq; omega⟩
   have hp : u % 100 < 100 := Nat.mod_lt _ (by omega)
   have b1 := fun (H : AHeap) (X Y : Operand) => rem32 (P := prog) (H := H) (T := 50) (x := X) (y := Y) (a := u) (n := 100) (c := 100) rfl (by omega)
   have b2 := fun (H : AHeap) (X Y : Operand) => mul32 (P := prog) (H := H) (T := 50) (x := X) (y := Y) (a := u % 100) (by omega)
   have b3 := fun (H : AHeap) (X Y : Operand) => quo32 (P := prog) (H := H) (T := 50) (x := X) (y := Y) (a := u) (n := 100) (c := 100) rfl (by omega) (by omega)
   have s1 := fun (H : AHeap) (X Y : Operand) => subN (P := prog) (H := H) (T := 3) (x := X) (y := Y) (a := n + 2) (j := 1) (c := 1) rfl (by omega) (by omega)
   replace s1 : ∀ (H : AHeap) (X Y : Operand),aBin2 prog H .sub 3 X Y (i64 ((n + 2 : Nat) : Int)) (i64 1) = some (i64 ((n + 1 : Nat) : Int)) := s1
   have s2 := fun (H : AHeap) (X Y : Operand) => subN (P := prog) (H := H) (T := 3) (x := X) (y := Y) (a := n + 2) (j := 2) (c := 2) rfl (by omega) (by omega)
   replace s2 : ∀ (H : AHeap) (X Y : Operand),aBin2 prog H .sub 3 X Y (i64 ((n + 2 : Nat) : Int)) (i64 2) = some (i64 ((n + 0 : Nat) : Int)) := s2
   have r0a := row_at (o := o) (nd := m0) (c := c) (i := n + 1) hb hc (by omega)
   have t0a := row_sto (i := o + (n + 1)) (d := (u % 100) % 10) hb hc (by omega)
   have g0a := set_get (y := .cells (cs.set (o + (n + 1)) (dgt ((u % 100) % 10))) T) hb
   have l0a := set_len (i := o + (n + 1)) (v := dgt ((u % 100) % 10)) hc
   have r0b := row_at (o := o) (nd := m0) (c := c) (i := n + 0) g0a l0a (by omega)
   have t0b := row_sto (i := o + (n + 0)) (d := (u % 100) / 10) g0a l0a (by omega)
   have g0b := set_get (y := .cells ((cs.set (o + (n + 1)) (dgt ((u % 100) % 10))).set (o + (n + 0)) (dgt ((u % 100) / 10))) T) g0a
   have l0b := set_len (i := o + (n + 0)) (v := dgt ((u % 100) / 10)) l0a
   have x0 := sm_ix 0 hp
   have a0 := fun (H : AHeap) (X Y : Operand) => add32 (P := prog) (H := H) (T := 50) (x := X) (y := Y) (a := u % 100) (by omega)
   simp only [b1,b2,b3,bnd_some]
   simp only [bnd_some,s1,s2,a0,x0.1,x0.2,r0a]
   refine bndK_of ⟨rfl,t0a⟩ ⟨x0.1,s2 _ _ _,trivial⟩ ?_
   simp only [r0b,bnd_some]
   refine bndK_bar ⟨rfl,t0b⟩ ?_
   simp only [s2,bnd_some]
   have hu' : u / 100 < 10 ^ n := by rw [Nat.div_lt_iff_lt_mul (by omega)]; rw [Nat.pow_add] at hu; exact hu
   refine fb_last (nd := n) g0b l0b (by omega) (by omega) hu' (by omega) ?_ _ _ _ _ _ _ _ _ _ _ _ _ _ _ _ _ _ _ _ _ _ _ _ _ _ _ _ _ _ _ _ _ _ _ _ _ _ _ _ _ _ _ _ _ _ _ _ _ _ _ _ _ _ _ _ _ _ _ _ _ _ _ _ _ _ _ _ _ _ _ _ _ _ _ _ _ _ _ _ _ _ _ _ _ _ _ _ _ _ _ _ _ _ _ _ _ _ _ _ _ _ _ _ _ _ _ _ _ _ _ _ _ _ _ _ _ _ _ _ _ _ _ _ _ _ _ _ _ _ _ _ _ _ _ _ _ _ _ _ _ _ _ _ _ _ _ _ _ _ _ _ _ _ _ _ _ _ _ _ _ _ _ _ _
   rw [List.set_set,List.set_set]
   rw [putD_two] at hk
   exact hk
 · dsimp only
   exact fb_last hb hc (by omega) (by simp at hq; omega) hu (by omega) hk _ _ _ _ _ _ _ _ _ _ _ _ _ _ _ _ _ _ _ _ _ _ _ _ _ _ _ _ _ _ _ _ _ _ _ _ _ _ _ _ _ _ _ _ _ _ _ _ _ _ _ _ _ _ _ _ _ _ _ _ _ _ _ _ _ _ _ _ _ _ _ _ _ _ _ _ _ _ _ _ _ _ _ _ _ _ _ _ _ _ _ _ _ _ _ _ _ _ _ _ _ _ _ _ _ _ _ _ _ _ _ _ _ _ _ _ _ _ _ _ _ _ _ _ _ _ _ _ _ _ _ _ _ _ _ _ _ _ _ _ _ _ _ _ _ _ _ _ _ _ _ _ _ _ _ _ _ _ _ _ _ _ _ _
theorem putD_four {o n u : Nat} {cs : List Value} : putD o (n + 4) u cs = putD o n (u / 10000) ((((cs.set (o + (n + 3)) (dgt ((u % 10000 % 100) % 10))).set (o + (n + 2)) (dgt ((u % 10000 % 100) / 10))).set (o + (n + 1)) (dgt ((u % 10000 / 100) % 10))).set (o + (n + 0)) (dgt ((u % 10000 / 100) / 10))) := by
 rw [show n + 4 = (n + 2) + 2 from rfl,putD_two,putD_two,Nat.div_div_eq_div_mul,show u / 100 % 100 = u % 10000 / 100 by omega,show u % 10000 % 100 = u % 100 by omega]
 rfl
set_option maxRecDepth 20000 in
theorem fb_four {H : AHeap} {b o nd m0 c u : Nat} {cs : List Value} {T : TypeId} {k : Value → AHeap → Prop} (hb : H[b]? = some (.cells cs T)) (hc : cs.length = 24) (ho : o + nd ≤ 24) (hnd : nd < 8) (hu : u < 10 ^ nd) (hndc : nd ≤ m0)
  (hk : k (.tuple #[]) (H.set b (.cells (putD o nd u cs) T))) (n1 : Nat) (s2 s3 s5 s6 s7 s8 s9 s10 s11 s12 s13 s14 s15 s16 s17 s18 s19 s20 s21 s22 s23 s24 s25 s26 s27 s28 s29 s30 s31 s32 s33 s34 s35 s36 s37 s38 s39 s40 s41 s42 s43 s44 s45 s46 s47 s48 s49 s50 s51 s52 s53 s54 s55 s56 s57 s58 s59 s60 s61 s62 s63 s64 s65 s66 s67 s68 s69 s70 s71 s72 s73 s74 s75 s76 s77 s78 s79 s80 s81 s82 s83 s84 s85 s86 s87 s88 s89 s90 s91 s92 s93 s94 s95 s96 s97 s98 s99 s100 s101 s102 s103 s104 s105 s106 s107 s108 s109 s110 s111 s112 s113 s114 s115 s116 s117 s118 s119 s120 s121 s122 s123 s124 s125 s126 s127 s128 s129 s130 s131 s132 s133 s134 s135 s136 s137 s138 s139 s140 s141 s142 s143 s144 s145 s146 s147 s148 s149 s150 s151 s152 s153 s154 s155 s156 s157 s158 s159 s160 s161 s162 s163 s164 s165 s166 : Value) : L144x0 (n1 + 1) k [.slice (some ⟨b,o,some 24⟩) m0 c,u64 (u : Int),s2,s3,i64 (nd : Int),s5,s6,s7,s8,s9,s10,s11,s12,s13,s14,s15,s16,s17,s18,s19,s20,s21,s22,s23,s24,s25,s26,s27,s28,s29,s30,s31,s32,s33,s34,s35,s36,s37,s38,s39,s40,s41,s42,s43,s44,s45,s46,s47,s48,s49,s50,s51,s52,s53,s54,s55,s56,s57,s58,s59,s60,s61,s62,s63,s64,s65,s66,s67,s68,s69,s70,s71,s72,s73,s74,s75,s76,s77,s78,s79,s80,s81,s82,s83,s84,s85,s86,s87,s88,s89,s90,s91,s92,s93,s94,s95,s96,s97,s98,s99,s100,s101,s102,s103,s104,s105,s106,s107,s108,s109,s110,s111,s112,s113,s114,s115,s116,s117,s118,s119,s120,s121,s122,s123,s124,s125,s126,s127,s128,s129,s130,s131,s132,s133,s134,s135,s136,s137,s138,s139,s140,s141,s142,s143,s144,s145,s146,s147,s148,s149,s150,s151,s152,s153,s154,s155,s156,s157,s158,s159,s160,s161,s162,s163,s164,s165,s166] H := by
 rw [L144x0q]
 have hu8 : u < 100000000 := Nat.lt_of_lt_of_le hu (Nat.pow_le_pow_right (by omega) (by omega : nd ≤ 8))
 have h8 : decide ((nd : Int) ≥ 8) = false := by simp; omega
 have w0 : IntKind.u32.wrap (u : Int) = u := wrap32 (by omega) (by omega)
 simp only [aBin_geq,bnd_some,h8,kifB_false,convV_int tu178 tu50,w0]
 refine kifB_bool (fun hq => ?_) (fun hq => ?_)
 · obtain ⟨n,rfl⟩ : ∃ n,nd = n + 4 := ⟨nd - 4,by simp at hq; omega⟩
   have hp : u % 10000 % 100 < 100 := Nat.mod_lt _ (by omega)
   have hp2 : u % 10000 / 100 < 100 := by omega
   have b1 := fun (H : AHeap) (X Y : Operand) => rem32 (P := prog) (H := H) (T := 50) (x := X) (y := Y) (a := u) (n := 10000) (c := 10000) rfl (by omega)
   have b2 := fun (H : AHeap) (X Y : Operand) => quo32 (P := prog) (H := H) (T := 50) (x := X) (y := Y) (a := u) (n := 10000) (c := 10000) rfl (by omega) (by omega)
   have b3 := fun (H : AHeap) (X Y : Operand) => quo32 (P := prog) (H := H) (T := 50) (x := X) (y := Y) (a := u % 10000) (n := 100) (c := 100) rfl (by omega) (by omega)
   have b4 := fun (H : AHeap) (X Y : Operand) => mul32 (P := prog) (H := H) (T := 50) (x := X) (y := Y) (a := u % 10000 / 100) (by omega)
   have b5 := fun (H : AHeap) (X Y : Operand) => rem32 (P := prog) (H := H) (T := 50) (x := X) (y := Y) (a := u % 10000) (n := 100) (c := 100) rfl (by omega)
   have b6 := fun (H : AHeap) (X Y : Operand) => mul32 (P := prog) (H := H) (T := 50) (x := X) (y := Y) (a := u % 10000 % 100) (by omega)
   have s1 := fun (H : AHeap) (X Y : Operand) => subN (P := prog) (H := H) (T := 3) (x := X) (y := Y) (a := n + 4) (j := 1) (c := 1) rfl (by omega) (by omega)
   replace s1 : ∀ (H : AHeap) (X Y : Operand),aBin2 prog H .sub 3 X Y (i64 ((n + 4 : Nat) : Int)) (i64 1) = some (i64 ((n + 3 : Nat) : Int)) := s1
   have s2 := fun (H : AHeap) (X Y : Operand) => subN (P := prog) (H := H) (T := 3) (x := X) (y := Y) (a := n + 4) (j := 2) (c := 2) rfl (by omega) (by omega)
   replace s2 : ∀ (H : AHeap) (X Y : Operand),aBin2 prog H .sub 3 X Y (i64 ((n + 4 : Nat) : Int)) (i64 2) = some (i64 ((n + 2 : Nat) : Int)) := s2
   have s3 := fun (H : AHeap) (X Y : Operand) => subN (P := prog) (H := H) (T := 3) (x := X) (y := Y) (a := n + 4) (j := 3) (c := 3) rfl (by omega) (by omega)
   replace s3 : ∀ (H : AHeap) (X Y : Operand),aBin2 prog H .sub 3 X Y (i64 ((n + 4 : Nat) : Int)) (i64 3) = some (i64 ((n + 1 : Nat) : Int)) := s3
   have s4 := fun (H : AHeap) (X Y : Operand) => subN (P := prog) (H := H) (T := 3) (x := X) (y := Y) (a := n + 4) (j := 4) (c := 4) rfl (by omega) (by omega)
   replace s4 : ∀ (H : AHeap) (X Y : Operand),aBin2 prog H .sub 3 X Y (i64 ((n + 4 : Nat) : Int)) (i64 4) = some (i64 ((n + 0 : Nat) : Int)) := s4
   have r0a := row_at (o := o) (nd := m0) (c := c) (i := n + 3) hb hc (by omega)
   have t0a := row_sto (i := o + (n + 3)) (d := (u % 10000 % 100) % 10) hb hc (by omega)
   have g0a := set_get (y := .cells (cs.set (o + (n + 3)) (dgt ((u % 10000 % 100) % 10))) T) hb
   have l0a := set_len (i := o + (n + 3)) (v := dgt ((u % 10000 % 100) % 10)) hc
   have r0b := row_at (o := o) (nd := m0) (c := c) (i := n + 2) g0a l0a (by omega)
   have t0b := row_sto (i := o + (n + 2)) (d := (u % 10000 % 100) / 10) g0a l0a (by omega)
   have g0b := set_get (y := .cells ((cs.set (o + (n + 3)) (dgt ((u % 10000 % 100) % 10))).set (o + (n + 2)) (dgt ((u % 10000 % 100) / 10))) T) g0a
   have l0b := set_len (i := o + (n + 2)) (v := dgt ((u % 10000 % 100) / 10)) l0a
   have x0 := sm_ix 0 hp
   have a0 := fun (H : AHeap) (X Y : Operand) => add32 (P := prog) (H := H) (T := 50) (x := X) (y := Y) (a := u % 10000 % 100) (by omega)
   have r1a := row_at (o := o) (nd := m0) (c := c) (i := n + 1) g0b l0b (by omega)
   have t1a := row_sto (i := o + (n + 1)) (d := (u % 10000 / 100) % 10) g0b l0b (by omega)
   have g1a := set_get (y := .cells (((cs.set (o + (n + 3)) (dgt ((u % 10000 % 100) % 10))).set (o + (n + 2)) (dgt ((u % 10000 % 100) / 10))).set (o + (n + 1)) (dgt ((u % 10000 / 100) % 10))) T) g0b
   have l1a := set_len (i := o + (n + 1)) (v := dgt ((u % 10000 / 100) % 10)) l0b
   have r1b := row_at (o := o) (nd := m0) (c := c) (i := n + 0) g1a l1a (by omega)
   have t1b := row_sto (i := o + (n + 0)) (d := (u % 10000 / 100) / 10) g1a l1a (by omega)
   have g1b := set_get (y := .cells ((((cs.set (o + (n + 3)) (dgt ((u % 10000 % 100) % 10))).set (o + (n + 2)) (dgt ((u % 10000 % 100) / 10))).set (o + (n + 1)) (dgt ((u % 10000 / 100) % 10))).set (o + (n + 0)) (dgt ((u % 10000 / 100) / 10))) T) g1a
   have l1b := set_len (i := o + (n + 0)) (v := dgt ((u % 10000 / 100) / 10)) l1a
   have x1 := sm_ix 0 hp2
   have a1 := fun (H : AHeap) (X Y : Operand) => add32 (P := prog) (H := H) (T := 50) (x := X) (y := Y) (a := u % 10000 / 100) (by omega)
   simp only [b1,b2,b3,b4,b5,b6,bnd_some]
   simp only [bnd_some,s1,s2,a0,x0.1,x0.2,r0a]
   refine bndK_of ⟨rfl,t0a⟩ ⟨x0.1,s2 _ _ _,trivial⟩ ?_
   simp only [r0b,bnd_some]
   refine bndK_bar ⟨rfl,t0b⟩ ?_
   simp only [bnd_some,s3,s4,a1,x1.1,x1.2,r1a]
   refine bndK_of ⟨rfl,t1a⟩ ⟨x1.1,s4 _ _ _,trivial⟩ ?_
   simp only [r1b,bnd_some]
   refine bndK_bar ⟨rfl,t1b⟩ ?_
   simp only [s4,bnd_some]
   have hu' : u / 10000 < 10 ^ n := by rw [Nat.div_lt_iff_lt_mul (by omega)]; rw [Nat.pow_add] at hu; exact hu
   refine fb_two (nd := n) g1b l1b (by omega) (by omega) hu' (by omega) ?_ _ _ _ _ _ _ _ _ _ _ _ _ _ _ _ _ _ _ _ _ _ _ _ _ _ _ _ _ _ _ _ _ _ _ _ _ _ _ _ _ _ _ _ _ _ _ _ _ _ _ _ _ _ _ _ _ _ _ _ _ _ _ _ _ _ _ _ _ _ _ _ _ _ _ _ _ _ _ _ _ _ _ _ _ _ _ _ _ _ _ _ _ _ _ _ _ _ _ _ _ _ _ _ _ _ _ _ _ _ _ _ _ _ _ _ _ _ _ _ _ _ _ _ _ _ _ _ _ _ _ _ _ _ _ _ _ _ _ _ _ _ _ _ _ _ _ _ _ _ _ _ _ _ _ _ _ _ _ _ _ _ _ _ _
   rw [List.set_set,List.set_set,List.set_set,List.set_set]
   rw [putD_four] at hk
   exact hk
 · dsimp only
   exact fb_two hb hc (by omega) (by simp at hq; omega) hu (by omega) hk _ _ _ _ _ _ _ _ _ _ _ _ _ _ _ _ _ _ _ _ _ _ _ _ _ _ _ _ _ _ _ _ _ _ _ _ _ _ _ _ _ _ _ _ _ _ _ _ _ _ _ _ _ _ _ _ _ _ _ _ _ _ _ _ _ _ _ _ _ _ _ _ _ _ _ _ _ _ _ _ _ _ _ _ _ _ _ _ _ _ _ _ _ _ _ _ _ _ _ _ _ _ _ _ _ _ _ _ _ _ _ _ _ _ _ _ _ _ _ _ _ _ _ _ _ _ _ _ _ _ _ _ _ _ _ _ _ _ _ _ _ _ _ _ _ _ _ _ _ _ _ _ _ _ _ _ _ _ _ _ _ _ _ _
theorem putD_eight {o n u : Nat} {cs : List Value} : putD o (n + 8) u cs = putD o n (u / 100000000) ((((((((cs.set (o + (n + 7)) (dgt ((u % 100000000 % 10000 % 100) % 10))).set (o + (n + 6)) (dgt ((u % 100000000 % 10000 % 100) / 10))).set (o + (n + 5)) (dgt ((u % 100000000 % 10000 / 100) % 10))).set (o + (n + 4)) (dgt ((u % 100000000 % 10000 / 100) / 10))).set (o + (n + 3)) (dgt ((u % 100000000 / 10000 % 100) % 10))).set (o + (n + 2)) (dgt ((u % 100000000 / 10000 % 100) / 10))).set (o + (n + 1)) (dgt ((u % 100000000 / 10000 / 100) % 10))).set (o + (n + 0)) (dgt ((u % 100000000 / 10000 / 100) / 10))) := by
 rw [show n + 8 = (n + 4) + 4 from rfl,putD_four,putD_four,Nat.div_div_eq_div_mul,show u % 100000000 % 10000 = u % 10000 by omega,show u % 100000000 / 10000 = u / 10000 % 10000 by omega]
set_option maxRecDepth 20000 in
theorem fb_loop {b o m0 c : Nat} {T : TypeId} {k : Value → AHeap → Prop} : ∀ (f nd u : Nat) (H : AHeap) (cs : List Value),nd < 8 * f + 8 → H[b]? = some (.cells cs T) → cs.length = 24 → o + nd ≤ 24 → u < 10 ^ nd → u < 2 ^ 64 → nd ≤ m0 → k (.tuple #[]) (H.set b (.cells (putD o nd u cs) T)) →
  ∀ (s2 s3 s5 s6 s7 s8 s9 s10 s11 s12 s13 s14 s15 s16 s17 s18 s19 s20 s21 s22 s23 s24 s25 s26 s27 s28 s29 s30 s31 s32 s33 s34 s35 s36 s37 s38 s39 s40 s41 s42 s43 s44 s45 s46 s47 s48 s49 s50 s51 s52 s53 s54 s55 s56 s57 s58 s59 s60 s61 s62 s63 s64 s65 s66 s67 s68 s69 s70 s71 s72 s73 s74 s75 s76 s77 s78 s79 s80 s81 s82 s83 s84 s85 s86 s87 s88 s89 s90 s91 s92 s93 s94 s95 s96 s97 s98 s99 s100 s101 s102 s103 s104 s105 s106 s107 s108 s109 s110 s111 s112 s113 s114 s115 s116 s117 s118 s119 s120 s121 s122 s123 s124 s125 s126 s127 s128 s129 s130 s131 s132 s133 s134 s135 s136 s137 s138 s139 s140 s141 s142 s143 s144 s145 s146 s147 s148 s149 s150 s151 s152 s153 s154 s155 s156 s157 s158 s159 s160 s161 s162 s163 s164 s165 s166 : Value),L144x0 (f + 1) k [.slice (some ⟨b,o,some 24⟩) m0 c,u64 (u : Int),s2,s3,i64 (nd : Int),s5,s6,s7,s8,s9,s10,s11,s12,s13,s14,s15,s16,s17,s18,s19,s20,s21,s22,s23,s24,s25,s26,s27,s28,s29,s30,s31,s32,s33,s34,s35,s36,s37,s38,s39,s40,s41,s42,s43,s44,s45,s46,s47,s48,s49,s50,s51,s52,s53,s54,s55,s56,s57,s58,s59,s60,s61,s62,s63,s64,s65,s66,s67,s68,s69,s70,s71,s72,s73,s74,s75,s76,s77,s78,s79,s80,s81,s82,s83,s84,s85,s86,s87,s88,s89,s90,s91,s92,s93,s94,s95,s96,s97,s98,s99,s100,s101,s102,s103,s104,s105,s106,s107,s108,s109,s110,s111,s112,s113,s114,s115,s116,s117,s118,s119,s120,s121,s122,s123,s124,s125,s126,s127,s128,s129,s130,s131,s132,s133,s134,s135,s136,s137,s138,s139,s140,s141,s142,s143,s144,s145,s146,s147,s148,s149,s150,s151,s152,s153,s154,s155,s156,s157,s158,s159,s160,s161,s162,s163,s164,s165,s166] H := by
 intro f
 induction f with
 | zero => intro nd u H cs hnd hb hc ho hu _ hm hk; exact fb_four hb hc ho (by omega) hu hm hk 0
 | succ f ih =>
   intro nd u H cs hnd hb hc ho hu hu64 hm hk
   by_cases h8 : nd < 8
   · exact fb_four hb hc ho h8 hu hm hk (f + 1)
   intro s2 s3 s5 s6 s7 s8 s9 s10 s11 s12 s13 s14 s15 s16 s17 s18 s19 s20 s21 s22 s23 s24 s25 s26 s27 s28 s29 s30 s31 s32 s33 s34 s35 s36 s37 s38 s39 s40 s41 s42 s43 s44 s45 s46 s47 s48 s49 s50 s51 s52 s53 s54 s55 s56 s57 s58 s59 s60 s61 s62 s63 s64 s65 s66 s67 s68 s69 s70 s71 s72 s73 s74 s75 s76 s77 s78 s79 s80 s81 s82 s83 s84 s85 s86 s87 s88 s89 s90 s91 s92 s93 s94 s95 s96 s97 s98 s99 s100 s101 s102 s103 s104 s105 s106 s107 s108 s109 s110 s111 s112 s113 s114 s115 s116 s117 s118 s119 s120 s121 s122 s123 s124 s125 s126 s127 s128 s129 s130 s131 s132 s133 s134 s135 s136 s137 s138 s139 s140 s141 s142 s143 s144 s145 s146 s147 s148 s149 s150 s151 s152 s153 s154 s155 s156 s157 s158 s159 s160 s161 s162 s163 s164 s165 s166
   rw [L144x0q]
   obtain ⟨n,rfl⟩ : ∃ n,nd = n + 8 := ⟨nd - 8,by omega⟩
   have h8' : decide ((((n + 8 : Nat) : Int)) ≥ 8) = true := by simp; omega
   have w0 : IntKind.u32.wrap ((u % 100000000 : Nat) : Int) = ((u % 100000000 : Nat) : Int) := wrap32 (by omega) (by omega)
   have c1 := fun (H : AHeap) (X Y : Operand) => remL (P := prog) (H := H) (T := 178) (x := X) (y := Y) (k := .u64) (a := u) (n := 100000000) (c := 100000000) rfl (by omega)
   have c2 := fun (H : AHeap) (X Y : Operand) => quoL (P := prog) (H := H) (T := 178) (x := X) (y := Y) (k := .u64) (a := u) (n := 100000000) (c := 100000000) rfl (by omega) (wrapU (by omega) (by omega))
   simp only [aBin_geq,bnd_some,h8',kifB_true,c1,c2,convV_int tu178 tu50,w0]
   have p0 : u % 100000000 % 10000 % 100 < 100 := Nat.mod_lt _ (by omega)
   have p1 : u % 100000000 % 10000 / 100 < 100 := by omega
   have p2 : u % 100000000 / 10000 % 100 < 100 := Nat.mod_lt _ (by omega)
   have p3 : u % 100000000 / 10000 / 100 < 100 := by omega
   have b1 := fun (H : AHeap) (X Y : Operand) => quo32 (P := prog) (H := H) (T := 50) (x := X) (y := Y) (a := u % 100000000) (n := 10000) (c := 10000) rfl (by omega) (by omega)
   have b2 := fun (H : AHeap) (X Y : Operand) => rem32 (P := prog) (H := H) (T := 50) (x := X) (y := Y) (a := u % 100000000) (n := 10000) (c := 10000) rfl (by omega)
   have b3 := fun (H : AHeap) (X Y : Operand) => quo32 (P := prog) (H := H) (T := 50) (x := X) (y := Y) (a := u % 100000000 % 10000) (n := 100) (c := 100) rfl (by omega) (by omega)
   have b4 := fun (H : AHeap) (X Y : Operand) => mul32 (P := prog) (H := H) (T := 50) (x := X) (y := Y) (a := u % 100000000 % 10000 / 100) (by omega)
   have b5 := fun (H : AHeap) (X Y : Operand) => rem32 (P := prog) (H := H) (T := 50) (x := X) (y := Y) (a := u % 100000000 % 10000) (n := 100) (c := 100) rfl (by omega)
   have b6 := fun (H : AHeap) (X Y : Operand) => mul32 (P := prog) (H := H) (T := 50) (x := X) (y := Y) (a := u % 100000000 % 10000 % 100) (by omega)
   have b7 := fun (H : AHeap) (X Y : Operand) => quo32 (P := prog) (H := H) (T := 50) (x := X) (y := Y) (a := u % 100000000 / 10000) (n := 100) (c := 100) rfl (by omega) (by omega)
   have b8 := fun (H : AHeap) (X Y : Operand) => mul32 (P := prog) (H := H) (T := 50) (x := X) (y := Y) (a := u % 100000000 / 10000 / 100) (by omega)
   have b9 := fun (H : AHeap) (X Y : Operand) => rem32 (P := prog) (H := H) (T := 50) (x := X) (y := Y) (a := u % 100000000 / 10000) (n := 100) (c := 100) rfl (by omega)
   have ba := fun (H : AHeap) (X Y : Operand) => mul32 (P := prog) (H := H) (T := 50) (x := X) (y := Y) (a := u % 100000000 / 10000 % 100) (by omega)
   have s1 := fun (H : AHeap) (X Y : Operand) => subN (P := prog) (H := H) (T := 3) (x := X) (y := Y) (a := n + 8) (j := 1) (c := 1) rfl (by omega) (by omega)
   replace s1 : ∀ (H : AHeap) (X Y : Operand),aBin2 prog H .sub 3 X Y (i64 ((n + 8 : Nat) : Int)) (i64 1) = some (i64 ((n + 7 : Nat) : Int)) := s1
   have s2 := fun (H : AHeap) (X Y : Operand) => subN (P := prog) (H := H) (T := 3) (x := X) (y := Y) (a := n + 8) (j := 2) (c := 2) rfl (by omega) (by omega)
   replace s2 : ∀ (H : AHeap) (X Y : Operand),aBin2 prog H .sub 3 X Y (i64 ((n + 8 : Nat) : Int)) (i64 2) = some (i64 ((n + 6 : Nat) : Int)) := s2
   have s3 := fun (H : AHeap) (X Y : Operand) => subN (P := prog) (H := H) (T := 3) (x := X) (y := Y) (a := n + 8) (j := 3) (c := 3) rfl (by omega) (by omega)
   replace s3 : ∀ (H : AHeap) (X Y : Operand),aBin2 prog H .sub 3 X Y (i64 ((n + 8 : Nat) : Int)) (i64 3) = some (i64 ((n + 5 : Nat) : Int)) := s3
   have s4 := fun (H : AHeap) (X Y : Operand) => subN (P := prog) (H := H) (T := 3) (x := X) (y := Y) (a := n + 8) (j := 4) (c := 4) rfl (by omega) (by omega)
   replace s4 : ∀ (H : AHeap) (X Y : Operand),aBin2 prog H .sub 3 X Y (i64 ((n + 8 : Nat) : Int)) (i64 4) = some (i64 ((n + 4 : Nat) : Int)) := s4
   have s5 := fun (H : AHeap) (X Y : Operand) => subN (P := prog) (H := H) (T := 3) (x := X) (y := Y) (a := n + 8) (j := 5) (c := 5) rfl (by omega) (by omega)
   replace s5 : ∀ (H : AHeap) (X Y : Operand),aBin2 prog H .sub 3 X Y (i64 ((n + 8 : Nat) : Int)) (i64 5) = some (i64 ((n + 3 : Nat) : Int)) := s5
   have s6 := fun (H : AHeap) (X Y : Operand) => subN (P := prog) (H := H) (T := 3) (x := X) (y := Y) (a := n + 8) (j := 6) (c := 6) rfl (by omega) (by omega)
   replace s6 : ∀ (H : AHeap) (X Y : Operand),aBin2 prog H .sub 3 X Y (i64 ((n + 8 : Nat) : Int)) (i64 6) = some (i64 ((n + 2 : Nat) : Int)) := s6
   have s7 := fun (H : AHeap) (X Y : Operand) => subN (P := prog) (H := H) (T := 3) (x := X) (y := Y) (a := n + 8) (j := 7) (c := 7) rfl (by omega) (by omega)
   replace s7 : ∀ (H : AHeap) (X Y : Operand),aBin2 prog H .sub 3 X Y (i64 ((n + 8 : Nat) : Int)) (i64 7) = some (i64 ((n + 1 : Nat) : Int)) := s7
   have s8 := fun (H : AHeap) (X Y : Operand) => subN (P := prog) (H := H) (T := 3) (x := X) (y := Y) (a := n + 8) (j := 8) (c := 8) rfl (by omega) (by omega)
   replace s8 : ∀ (H : AHeap) (X Y : Operand),aBin2 prog H .sub 3 X Y (i64 ((n + 8 : Nat) : Int)) (i64 8) = some (i64 ((n + 0 : Nat) : Int)) := s8
   have r0a := row_at (o := o) (nd := m0) (c := c) (i := n + 7) hb hc (by omega)
   have t0a := row_sto (i := o + (n + 7)) (d := (u % 100000000 % 10000 % 100) % 10) hb hc (by omega)
   have g0a := set_get (y := .cells (cs.set (o + (n + 7)) (dgt ((u % 100000000 % 10000 % 100) % 10))) T) hb
   have l0a := set_len (i := o + (n + 7)) (v := dgt ((u % 100000000 % 10000 % 100) % 10)) hc
   have r0b := row_at (o := o) (nd := m0) (c := c) (i := n + 6) g0a l0a (by omega)
   have t0b := row_sto (i := o + (n + 6)) (d := (u % 100000000 % 10000 % 100) / 10) g0a l0a (by omega)
   have g0b := set_get (y := .cells ((cs.set (o + (n + 7)) (dgt ((u % 100000000 % 10000 % 100) % 10))).set (o + (n + 6)) (dgt ((u % 100000000 % 10000 % 100) / 10))) T) g0a
   have l0b := set_len (i := o + (n + 6)) (v := dgt ((u % 100000000 % 10000 % 100) / 10)) l0a
   have x0 := sm_ix 0 p0
   have a0 := fun (H : AHeap) (X Y : Operand) => add32 (P := prog) (H := H) (T := 50) (x := X) (y := Y) (a := u % 100000000 % 10000 % 100) (by omega)
   have r1a := row_at (o := o) (nd := m0) (c := c) (i := n + 5) g0b l0b (by omega)
   have t1a := row_sto (i := o + (n + 5)) (d := (u % 100000000 % 10000 / 100) % 10) g0b l0b (by omega)
   have g1a := set_get (y := .cells (((cs.set (o + (n + 7)) (dgt ((u % 100000000 % 10000 % 100) % 10))).set (o + (n + 6)) (dgt ((u % 100000000 % 10000 % 100) / 10))).set (o + (n + 5)) (dgt ((u % 100000000 % 10000 / 100) % 10))) T) g0b
   have l1a := set_len (i := o + (n + 5)) (v := dgt ((u % 100000000 % 10000 / 100) % 10)) l0b
   have r1b := row_at (o := o) (nd := m0) (c := c) (i := n + 4) g1a l1a (by omega)
   have t1b := row_sto (i := o + (n + 4)) (d := (u % 100000000 % 10000 / 100) / 10) g1a l1a (by omega)
   have g1b := set_get (y := .cells ((((cs.set (o + (n + 7)) (dgt ((u % 100000000 % 10000 % 100) % 10))).set (o + (n + 6)) (dgt ((u % 100000000 % 10000 % 100) / 10))).set (o + (n + 5)) (dgt ((u % 100000000 % 10000 / 100) % 10))).set (o + (n + 4)) (dgt ((u % 100000000 % 10000 / 100) / 10))) T) g1a
   have l1b := set_len (i := o + (n + 4)) (v := dgt ((u % 100000000 % 10000 / 100) / 10)) l1a
   have x1 := sm_ix 0 p1
   have a1 := fun (H : AHeap) (X Y : Operand) => add32 (P := prog) (H := H) (T := 50) (x := X) (y := Y) (a := u % 100000000 % 10000 / 100) (by omega)
   have r2a := row_at (o := o) (nd := m0) (c := c) (i := n + 3) g1b l1b (by omega)
   have t2a := row_sto (i := o + (n + 3)) (d := (u % 100000000 / 10000 % 100) % 10) g1b l1b (by omega)
   have g2a := set_get (y := .cells (((((cs.set (o + (n + 7)) (dgt ((u % 100000000 % 10000 % 100) % 10))).set (o + (n + 6)) (dgt ((u % 100000000 % 10000 % 100) / 10))).set (o + (n + 5)) (dgt ((u % 100000000 % 10000 / 100) % 10))).set (o + (n + 4)) (dgt ((u % 100000000 % 10000 / 100) / 10))).set (o + (n + 3)) (dgt ((u % 100000000 / 10000 % 100) % 10))) T) g1b
   have l2a := set_len (i := o + (n + 3)) (v := dgt ((u % 100000000 / 10000 % 100) % 10)) l1b
   have r2b := row_at (o := o) (nd := m0) (c := c) (i := n + 2) g2a l2a (by omega)
   have t2b := row_sto (i := o + (n + 2)) (d := (u % 100000000 / 10000 % 100) / 10) g2a l2a (by omega)
   have g2b := set_get (y := .cells ((((((cs.set (o + (n + 7)) (dgt ((u % 100000000 % 10000 % 100) % 10))).set (o + (n + 6)) (dgt ((u % 100000000 % 10000 % 100) / 10))).set (o + (n + 5)) (dgt ((u % 100000000 % 10000 / 100) % 10))).set (o + (n + 4)) (dgt ((u % 100000000 % 10000 / 100) / 10))).set (o + (n + 3)) (dgt ((u % 100000000 / 10000 % 100) % 10))).set (o + (n + 2)) (dgt ((u % 100000000 / 10000 % 100) / 10))) T) g2a
   have l2b := set_len (i := o + (n + 2)) (v := dgt ((u % 100000000 / 10000 % 100) / 10)) l2a
   have x2 := sm_ix 0 p2
   have a2 := fun (H : AHeap) (X Y : Operand) => add32 (P := prog) (H := H) (T := 50) (x := X) (y := Y) (a := u % 100000000 / 10000 % 100) (by omega)
   have r3a := row_at (o := o) (nd := m0) (c := c) (i := n + 1) g2b l2b (by omega)
   have t3a := row_sto (i := o + (n + 1)) (d := (u % 100000000 / 10000 / 100) % 10) g2b l2b (by omega)
   have g3a := set_get (y := .cells (((((((cs.set (o + (n + 7)) (dgt ((u % 100000000 % 10000 % 100) % 10))).set (o + (n + 6)) (dgt ((u % 100000000 % 10000 % 100) / 10))).set (o + (n + 5)) (dgt ((u % 100000000 % 10000 / 100) % 10))).set (o + (n + 4)) (dgt ((u % 100000000 % 10000 / 100) / 10))).set (o + (n + 3)) (dgt ((u % 100000000 / 10000 % 100) % 10))).set (o + (n + 2)) (dgt ((u % 100000000 / 10000 % 100) / 10))).set (o + (n + 1)) (dgt ((u % 100000000 / 10000 / 100) % 10))) T) g2b
   have l3a := set_len (i := o + (n + 1)) (v := dgt ((u % 100000000 / 10000 / 100) % 10)) l2b
   have r3b := row_at (o := o) (nd := m0) (c := c) (i := n + 0) g3a l3a (by omega)
   have t3b := row_sto (i := o + (n + 0)) (d := (u % 100000000 / 10000 / 100) / 10) g3a l3a (by omega)
   have g3b := set_get (y := .cells ((((((((cs.set (o + (n + 7)) (dgt ((u % 100000000 % 10000 % 100) % 10))).set (o + (n + 6)) (dgt ((u % 100000000 % 10000 % 100) / 10))).set (o + (n + 5)) (dgt ((u % 100000000 % 10000 / 100) % 10))).set (o + (n + 4)) (dgt ((u % 100000000 % 10000 / 100) / 10))).set (o + (n + 3)) (dgt ((u % 100000000 / 10000 % 100) % 10))).set (o + (n + 2)) (dgt ((u % 100000000 / 10000 % 100) / 10))).set (o + (n + 1)) (dgt ((u % 100000000 / 10000 / 100) % 10))).set (o + (n + 0)) (dgt ((u % 100000000 / 10000 / 100) / 10))) T) g3a
   have l3b := set_len (i := o + (n + 0)) (v := dgt ((u % 100000000 / 10000 / 100) / 10)) l3a
   have x3 := sm_ix 0 p3
   have a3 := fun (H : AHeap) (X Y : Operand) => add32 (P := prog) (H := H) (T := 50) (x := X) (y := Y) (a := u % 100000000 / 10000 / 100) (by omega)
   simp only [b1,b2,b3,b4,b5,b6,b7,b8,b9,ba,bnd_some]
   simp only [bnd_some,s1,s2,a0,x0.1,x0.2,r0a]
   refine bndK_of ⟨rfl,t0a⟩ ⟨x0.1,s2 _ _ _,trivial⟩ ?_
   simp only [r0b,bnd_some]
   refine bndK_bar ⟨rfl,t0b⟩ ?_
   simp only [bnd_some,s3,s4,a1,x1.1,x1.2,r1a]
   refine bndK_of ⟨rfl,t1a⟩ ⟨x1.1,s4 _ _ _,trivial⟩ ?_
   simp only [r1b,bnd_some]
   refine bndK_bar ⟨rfl,t1b⟩ ?_
   simp only [bnd_some,s5,s6,a2,x2.1,x2.2,r2a]
   refine bndK_of ⟨rfl,t2a⟩ ⟨x2.1,s6 _ _ _,trivial⟩ ?_
   simp only [r2b,bnd_some]
   refine bndK_bar ⟨rfl,t2b⟩ ?_
   simp only [bnd_some,s7,s8,a3,x3.1,x3.2,r3a]
   refine bndK_of ⟨rfl,t3a⟩ ⟨x3.1,s8 _ _ _,trivial⟩ ?_
   simp only [r3b,bnd_some]
   refine bndK_bar ⟨rfl,t3b⟩ ?_
   simp only [s8,bnd_some]
   have hu' : u / 100000000 < 10 ^ n := by rw [Nat.div_lt_iff_lt_mul (by omega)]; rw [Nat.pow_add] at hu; exact hu
   refine ih n (u / 100000000) _ _ (by omega) g3b l3b (by omega) hu' (by omega) (by omega) ?_ _ _ _ _ _ _ _ _ _ _ _ _ _ _ _ _ _ _ _ _ _ _ _ _ _ _ _ _ _ _ _ _ _ _ _ _ _ _ _ _ _ _ _ _ _ _ _ _ _ _ _ _ _ _ _ _ _ _ _ _ _ _ _ _ _ _ _ _ _ _ _ _ _ _ _ _ _ _ _ _ _ _ _ _ _ _ _ _ _ _ _ _ _ _ _ _ _ _ _ _ _ _ _ _ _ _ _ _ _ _ _ _ _ _ _ _ _ _ _ _ _ _ _ _ _ _ _ _ _ _ _ _ _ _ _ _ _ _ _ _ _ _ _ _ _ _ _ _ _ _ _ _ _ _ _ _ _ _ _ _ _ _ _ _
   rw [List.set_set,List.set_set,List.set_set,List.set_set,List.set_set,List.set_set,List.set_set,List.set_set]
   rw [putD_eight] at hk
   exact hk
theorem c_formatBase10 {H : AHeap} {b o nd c u : Nat} {cs : List Value} {T : TypeId} (hb : H[b]? = some (.cells cs T)) (hc : cs.length = 24) (ho : o + nd ≤ 24) (hu : u < 10 ^ nd) (hu64 : u < 2 ^ 64) :
  ACalls prog 144 [.slice (some ⟨b,o,some 24⟩) nd c,u64 (u : Int)] H (.tuple #[]) (H.set b (.cells (putD o nd u cs) T)) := by
 refine acallsKo MixT func144 (by decide) ?_
 rw [d144]
 simp
 exact ⟨3 + 1,fb_loop 3 nd u H cs (by omega) hb hc ho hu hu64 (Nat.le_refl _) ⟨rfl,rfl⟩ _ _ _ _ _ _ _ _ _ _ _ _ _ _ _ _ _ _ _ _ _ _ _ _ _ _ _ _ _ _ _ _ _ _ _ _ _ _ _ _ _ _ _ _ _ _ _ _ _ _ _ _ _ _ _ _ _ _ _ _ _ _ _ _ _ _ _ _ _ _ _ _ _ _ _ _ _ _ _ _ _ _ _ _ _ _ _ _ _ _ _ _ _ _ _ _ _ _ _ _ _ _ _ _ _ _ _ _ _ _ _ _ _ _ _ _ _ _ _ _ _ _ _ _ _ _ _ _ _ _ _ _ _ _ _ _ _ _ _ _ _ _ _ _ _ _ _ _ _ _ _ _ _ _ _ _ _ _ _ _ _ _ _ _⟩
end Go.Vi
namespace Go.Vi
open Go Go.Proofs Go.Proofs.Tryz
def digs : Nat → Nat → List UInt8
 | 0,_ => []
 | n + 1,u => digs n (u / 10) ++ [UInt8.ofNat (48 + u % 10)]
theorem digs_len : ∀ (n u : Nat),(digs n u).length = n := by
 intro n
 induction n with
 | zero => intro u; rfl
 | succ n ih => intro u; rw [digs]; simp [ih]
theorem putD_eq : ∀ (n o u : Nat) (cs : List Value),o + n ≤ cs.length → putD o n u cs = cs.take o ++ bcells (digs n u) ++ cs.drop (o + n) := by
 intro n
 induction n with
 | zero => intro o u cs _; simp [putD,digs,bcells]
 | succ n ih =>
   intro o u cs h
   rw [putD,ih _ _ _ (by simp; omega),digs]
   have e1 : (cs.set (o + n) (dgt (u % 10))).take o = cs.take o := by
    rw [List.take_set_of_le (by omega)]
   have e2 : (cs.set (o + n) (dgt (u % 10))).drop (o + n) = dgt (u % 10) :: cs.drop (o + (n + 1)) := by
    rw [List.drop_eq_getElem_cons (by simp; omega),List.getElem_set_self,List.drop_set_of_lt (by omega)]
    rfl
   rw [e1,e2]
   simp [bcells,dgt]
def natS (n : Nat) : List UInt8 := if n = 0 then [48] else digs (ndig n) n
def fmtS (x : Int) : List UInt8 := if x < 0 then 45 :: natS x.natAbs else natS x.natAbs
theorem small_txt : (∀ n : Nat,n < 10 → dgS.extract n (n + 1) = ⟨(natS n).toArray⟩) ∧ (∀ n : Nat,n < 100 → 10 ≤ n → smS.extract (2 * n) (2 * n + 2) = ⟨(natS n).toArray⟩) := by
 constructor <;> decide +kernel
theorem convBytes {H : AHeap} {b o n c : Nat} {cs : List Value} {l : List UInt8} (hb : hcells H b = some cs) (hcs : (cs.drop o).take n = bcells l) (_hn : n = l.length) (hle : o + n ≤ cs.length) :
  convV prog H 55 9 (.slice (some ⟨b,o,some cs.length⟩) n c) = some (str l) := by
 have hu : ∀ l : List UInt8,u8s (bcells l) = some (l.map fun b => (b.toNat : Int)) := by
  intro l
  induction l with
  | nil => rfl
  | cons x r ih => simp only [bcells,List.map_cons,u8s]; simp only [bcells] at ih; rw [ih]; rfl
 have hs : ∀ l : List UInt8,strOfNums (l.map fun b => (b.toNat : Int)) = ⟨l.toArray⟩ := by
  intro l
  unfold strOfNums
  simp
  exact (List.map_congr_left fun b _ => by simp).trans (List.map_id _)
 simp [convV,aConv,hb,hle,hcs,hu,hs,isU8]
theorem wrapN {x : Int} (h1 : -9223372036854775808 ≤ x) (h2 : x < 0) : IntKind.u64.wrap (0 - IntKind.u64.wrap x) = x.natAbs := by
 have : IntKind.u64.wrap x = x + 18446744073709551616 := by
  unfold IntKind.wrap
  simp [IntKind.bits,IntKind.signed]
  omega
 rw [this]
 unfold IntKind.wrap
 simp [IntKind.bits,IntKind.signed]
 omega
theorem cellFx {M : AHeap} {b : Nat} {cs : List Value} {T : TypeId} (h : M[b]? = some (.cells cs T)) : hcells M b = some cs ∧ hlen M b = some cs.length := by
 have : hcells M b = some cs := by rw [hcells_eq,h]; rfl
 exact ⟨this,hcells_len this⟩
set_option maxRecDepth 20000 in
theorem c_small {H : AHeap} {n : Nat} (hn : n < 100) : ACalls prog 142 [i64 n] H (str (natS n)) H := by
 refine acalls_pure MixT func142 (by decide) rfl ?_
 rw [d142]
 have w1 : IntKind.i64.wrap ((n : Int) * 2) = 2 * (n : Int) := by rw [wrap_i64 (by omega) (by omega)]; omega
 have w2 : IntKind.i64.wrap (2 * (n : Int) + 2) = 2 * (n : Int) + 2 := wrap_i64 (by omega) (by omega)
 have hu : prog.underlying 9 = some .string := by simp
 have z1 : 10 ≤ dgS.size := by decide +kernel
 have z2 : smS.size = 200 := by decide +kernel
 by_cases h : n < 10
 · have hI : (n : Int) < 10 := by omega
   have hs : aSliceOp prog H 9 (.string dgS) (some (i64 n)) (some (i64 ((n : Int) + 1))) = some (str (natS n)) := by
    simp only [aSliceOp,hu,aLow,aHigh]
    rw [if_pos ⟨by omega,by omega,by omega⟩]
    have e1 : ((n : Int) + 1).toNat = n + 1 := by omega
    simp only [Int.toNat_natCast,e1,small_txt.1 n h]
   simp [hI,show n + 1 < 2 ^ 63 by omega,hs]
 · have hI : ¬ (n : Int) < 10 := by omega
   have hs : aSliceOp prog H 9 (.string smS) (some (i64 (2 * (n : Int)))) (some (i64 (2 * (n : Int) + 2))) = some (str (natS n)) := by
    simp only [aSliceOp,hu,aLow,aHigh,z2]
    rw [if_pos ⟨by omega,by omega,by omega⟩]
    have e1 : (2 * (n : Int) + 2).toNat = 2 * n + 2 := by omega
    have e2 : (2 * (n : Int)).toNat = 2 * n := by omega
    simp only [e1,e2,small_txt.2 n hn (by omega)]
   simp [hI,w1,w2,hs]
theorem slice_arr {H : AHeap} {b m n : Nat} {e : TypeId} {T : TypeId} {lo hi : Option Value} {l h : Nat} (hu : prog.underlying T = some (.array n e)) (hs : tsize prog e = some 1) (hb : hlen H b = some m) (h1 : aLow lo = some (l : Int)) (h2 : aHigh n hi = some (h : Int)) (h3 : l ≤ h) (h4 : h ≤ n) :
  aSliceOp prog H T (.pointer (some ⟨b,0,some m⟩)) lo hi = some (.slice (some ⟨b,l,some m⟩) (h - l) (n - l)) := by
 simp only [aSliceOp,hu,h1,h2,hs,hb]
 rw [if_pos ⟨trivial,by omega,by omega,by omega⟩]
 have e1 : ((h : Int) - l).toNat = h - l := by omega
 simp [e1]
theorem take_neg {D r : List Value} {z v : Value} {n : Nat} (h : D.length = n) : ((((z :: D) ++ r).set 0 v).drop 0).take (1 + n) = v :: D := by
 subst h
 simp [Nat.add_comm 1]
theorem take_pos {D r : List Value} {z : Value} {n : Nat} (h : D.length = n) : (((z :: D) ++ r).drop 1).take n = D := by
 subst h
 simp
theorem fi_tail {H K : AHeap} {b : Nat} {x : Int} {k : Value → AHeap → Prop} (hg : Pw K) (hb : K[b]? = some (.cells (List.replicate 24 (.int .u8 0)) 177)) (hbH : H.length ≤ b) (hp : Pre H K) (h0 : x ≠ 0) (h1 : -9223372036854775808 ≤ x) (h2 : x < 9223372036854775808)
  (hk : ∀ K,Pre H K → k (str (fmtS x)) K) (s1 s2 s3 s4 s7 s8 s9 s10 s11 s12 s13 s14 s15 s16 s17 s18 s19 s20 s21 s22 s23 s24 s25 s26 s27 s28 s29 s30 s31 s32 s33 s34 s35 s36 s37 s38 s39 s40 s41 s42 s43 s44 s45 s46 s47 s48 s49 s50 s51 s52 s53 : Value) : S118x0 k [i64 x,s1,s2,s3,s4,.pointer (some ⟨b,0,some 24⟩),u64 (x.natAbs : Int),s7,s8,s9,s10,s11,s12,s13,s14,s15,s16,s17,s18,s19,s20,s21,s22,s23,s24,s25,s26,s27,s28,s29,s30,s31,s32,s33,s34,s35,s36,s37,s38,s39,s40,s41,s42,s43,s44,s45,s46,s47,s48,s49,s50,s51,s52,s53] K := by
 have hu0 : 0 < x.natAbs := by omega
 have hu1 : x.natAbs < 2 ^ 64 := by omega
 obtain ⟨n1,n2,n3,n4⟩ := ndig_ok hu0 hu1
 generalize hnd : ndig x.natAbs = nd at n1 n2 n3 n4
 rw [S118x0q]
 refine bndC_of (c_numDigits hg hu0 hu1) ?_
 rw [hnd]
 have hl : hlen K b = some 24 := (cellFx hb).2.trans (by simp)
 have s1 : ∀ K,hlen K b = some 24 → aSliceOp prog K 177 (.pointer (some ⟨b,0,some 24⟩)) (some (i64 1)) (some (i64 (1 + (nd : Int)))) = some (.slice (some ⟨b,1,some 24⟩) nd 23) := fun K hl => by
  have := slice_arr (H := K) (T := 177) (n := 24) (e := 5) (lo := some (i64 1)) (hi := some (i64 (1 + (nd : Int)))) (l := 1) (h := 1 + nd) (by simp) (by simp) hl rfl (by simp [aHigh]) (by omega) (by omega)
  simpa using this
 have w1 : IntKind.i64.wrap (1 + (nd : Int)) = 1 + (nd : Int) := wrap_i64 (by omega) (by omega)
 simp [w1,s1 K hl]
 have hfb := c_formatBase10 (H := K) (b := b) (o := 1) (nd := nd) (c := 23) (u := x.natAbs) hb (by simp) (by omega) n3 hu1
 refine bndC_of hfb ?_
 have hput := putD_eq nd 1 x.natAbs (List.replicate 24 (.int .u8 0)) (by simp; omega)
 have hlen := putD_len nd 1 x.natAbs (List.replicate 24 (.int .u8 0))
 rw [List.length_replicate] at hlen
 have hfm : natS x.natAbs = digs nd x.natAbs := by unfold natS; rw [if_neg (by omega),hnd]
 have hdl := digs_len nd x.natAbs
 have hput' : putD 1 nd x.natAbs (List.replicate 24 (.int .u8 0)) = (Value.int .u8 0 :: bcells (digs nd x.natAbs)) ++ (List.replicate 24 (.int .u8 0)).drop (1 + nd) := by rw [hput]; rfl
 clear hput
 have hbl : b < K.length := (List.getElem?_eq_some_iff.1 hb).1
 generalize putD 1 nd x.natAbs (List.replicate 24 (.int .u8 0)) = cs at hput' hlen
 have hM : (K.set b (.cells cs 177))[b]? = some (.cells cs 177) := List.getElem?_set_self hbl
 have hpM : Pre H (K.set b (.cells cs 177)) := hp.set hbH
 dsimp only
 generalize K.set b (.cells cs 177) = M at hM hpM ⊢
 obtain ⟨m1,m2⟩ := cellFx hM
 rw [hlen] at m2
 by_cases hx : x < 0
 · have hf : fmtS x = 45 :: digs nd x.natAbs := by unfold fmtS; rw [if_pos hx,hfm]
   have ha := aIndexAddr_arr (P := prog) (H := M) (T := 177) (n := 24) (e := 5) (b := b) (o := 0) (m := 24) (z := 1) (k := .i64) (i := 0) (by simp) (by simp) m2 (by omega) (by omega)
   simp at ha
   simp [hx,ha,hM,hlen]
   have hN : (M.set b (.cells (cs.set 0 (.int .u8 45)) 177))[b]? = some (.cells (cs.set 0 (.int .u8 45)) 177) := List.getElem?_set_self (List.getElem?_eq_some_iff.1 hM).1
   have hpN : Pre H (M.set b (.cells (cs.set 0 (.int .u8 45)) 177)) := hpM.set hbH
   generalize M.set b (.cells (cs.set 0 (.int .u8 45)) 177) = N at hN hpN ⊢
   obtain ⟨m3,m4⟩ := cellFx hN
   rw [List.length_set,hlen] at m4
   have s2 := slice_arr (H := N) (T := 177) (n := 24) (e := 5) (lo := none) (hi := some (i64 (1 + (nd : Int)))) (l := 0) (h := 1 + nd) (by simp) (by simp) m4 rfl (by simp [aHigh]) (by omega) (by omega)
   have c2 := convBytes (c := 24) m3 (o := 0) (n := 1 + nd) (l := fmtS x) (by rw [hf,hput']; exact take_neg (by simp [bcells,hdl])) (by rw [hf]; simp [hdl]; omega) (by simp [hlen]; omega)
   simp [hlen] at s2 c2
   simp [w1,s2,c2]
   exact hk N hpN
 · have hf : fmtS x = digs nd x.natAbs := by unfold fmtS; rw [if_neg hx,hfm]
   have c2 := convBytes (c := 23) m1 (o := 1) (n := nd) (l := fmtS x) (by rw [hf,hput']; exact take_pos (by simp [bcells,hdl])) (by rw [hf,hdl]) (by omega)
   rw [hlen] at c2
   simp [hx,w1,s1 M m2,c2]
   exact hk M hpM
theorem c_formatInt0 {H : AHeap} (hg : Pw H) {x : Int} (h1 : -9223372036854775808 ≤ x) (h2 : x < 9223372036854775808) : ACalls prog 118 [i64 x,i64 10] H (str (fmtS x)) H := by
 refine acalls_pure MixT func118 (by decide) rfl ?_
 rw [d118]
 by_cases hs : 0 ≤ x ∧ x < 100
 · obtain ⟨n,rfl⟩ : ∃ n : Nat,x = n := ⟨x.toNat,by omega⟩
   have hf : fmtS (n : Int) = natS n := by unfold fmtS; rw [if_neg (by omega)]; rfl
   simp [hs]
   refine bndC_of (c_small (by omega)) ?_
   rw [hf]
   exact ⟨rfl,[],by simp⟩
 · have h0 : x ≠ 0 := by omega
   have hb : (H ++ [AObj.cells (List.replicate 24 (.int .u8 0)) 177])[H.length]? = some (.cells (List.replicate 24 (.int .u8 0)) 177) := by simp
   by_cases hx : x < 0
   · have hx0 : ¬ 0 ≤ x := by omega
     have hw := wrapN h1 hx
     simp [hx,hx0] at hw ⊢
     simp only [hw]
     exact fi_tail (H := H) (b := H.length) (x := x) (k := fun u H2 => u = str (fmtS x) ∧ ∃ X,H2 = H ++ X) (hg.more _) hb (Nat.le_refl _) (.app _ _) h0 h1 h2 (fun K p => ⟨rfl,p⟩) _ _ _ _ _ _ _ _ _ _ _ _ _ _ _ _ _ _ _ _ _ _ _ _ _ _ _ _ _ _ _ _ _ _ _ _ _ _ _ _ _ _ _ _ _ _ _ _ _ _ _
   · have hx0 : 0 ≤ x := by omega
     have hx1 : ¬ x < 100 := by omega
     have hw : IntKind.u64.wrap x = x.natAbs := by rw [wrapU hx0 (by omega)]; omega
     simp [hx,hx0,hx1,hw]
     exact fi_tail (H := H) (b := H.length) (x := x) (k := fun u H2 => u = str (fmtS x) ∧ ∃ X,H2 = H ++ X) (hg.more _) hb (Nat.le_refl _) (.app _ _) h0 h1 h2 (fun K p => ⟨rfl,p⟩) _ _ _ _ _ _ _ _ _ _ _ _ _ _ _ _ _ _ _ _ _ _ _ _ _ _ _ _ _ _ _ _ _ _ _ _ _ _ _ _ _ _ _ _ _ _ _ _ _ _ _
theorem c_formatInt {H : AHeap} (hg : Pw H) {x : Int} (h1 : -9223372036854775808 ≤ x) (h2 : x < 9223372036854775808) : ACalls prog 113 [i64 x,i64 10] H (str (fmtS x)) H := by
 refine acalls_pure MixT func113 (by decide) rfl ?_
 rw [d113]
 exact bndC_of (c_formatInt0 hg h1 h2) ⟨rfl,[],by simp⟩
end Go.Vi
namespace Go.Vi
open Go Go.Proofs Go.Proofs.Tryz
theorem c_itoa0 {H : AHeap} (hg : Pw H) {x : Int} (h1 : -9223372036854775808 ≤ x) (h2 : x < 9223372036854775808) : ACalls prog 81 [i64 x] H (str (fmtS x)) H := by
 refine acalls_pure MixT func81 (by decide) rfl ?_
 rw [d81]
 exact bndC_of (c_formatInt0 hg h1 h2) ⟨rfl,[],by simp⟩
theorem c_itoa {H : AHeap} (hg : Pw H) {x : Int} (h1 : -9223372036854775808 ≤ x) (h2 : x < 9223372036854775808) : ACalls prog 47 [i64 x] H (str (fmtS x)) H := by
 refine acalls_pure MixT func47 (by decide) rfl ?_
 rw [d47]
 exact bndC_of (c_itoa0 hg h1 h2) ⟨rfl,[],by simp⟩
def trimR (b : UInt8) : List UInt8 → List UInt8
 | [] => []
 | x :: r => match trimR b r with
   | [] => if x = b then [] else [x]
   | y :: s => x :: y :: s
theorem trimR_snoc (b x : UInt8) : ∀ l,trimR b (l ++ [x]) = if x = b then trimR b l else l ++ [x] := by
 intro l
 induction l with
 | nil => simp [trimR]
 | cons y r ih =>
   rw [List.cons_append,trimR,ih]
   by_cases h : x = b
   · simp [h,trimR]
   · simp only [h,if_false]
     cases hr : r ++ [x] with
     | nil => simp at hr
     | cons z s => simp
theorem trim_loop {H : AHeap} {b : UInt8} {k : Value → AHeap → Prop} (w : List UInt8) (hk : k (str w) H) : ∀ (n : Nat) (l : List UInt8) (s2 s3 s4 s5 s6 s7 s8 s9 s10 s11 s12 s13 s14 s15 s16 s17 s18 s19 s20 s21 s22 : Value),l.length = n → l.length < 2 ^ 62 → trimR b l = w →
  L134x0 (n + 1) k [str l,byt b,s2,s3,s4,s5,s6,s7,s8,s9,s10,s11,s12,s13,s14,s15,s16,s17,s18,s19,s20,s21,s22] H := by
 intro n
 induction n with
 | zero =>
   intro l s2 s3 s4 s5 s6 s7 s8 s9 s10 s11 s12 s13 s14 s15 s16 s17 s18 s19 s20 s21 s22 hn hl hw
   have : l = [] := List.length_eq_zero_iff.1 hn
   subst this
   rw [L134x0q]
   simp
   rw [← hw] at hk
   exact hk
 | succ n ih =>
   intro l s2 s3 s4 s5 s6 s7 s8 s9 s10 s11 s12 s13 s14 s15 s16 s17 s18 s19 s20 s21 s22 hn hl hw
   obtain ⟨r,x,rfl⟩ : ∃ r x,l = r ++ [x] := by
    rcases List.eq_nil_or_concat l with rfl | ⟨r,x,h⟩
    · simp at hn
    · exact ⟨r,x,by simpa using h⟩
   have hr : r.length = n := by simpa using hn
   have hix := aIndex_at (P := prog) (T := 9) (k := .i64) (l := r ++ [x]) (i := r.length) (b := x) (by simp) (by simp)
   have hs := aSliceOp_str (P := prog) (H := H) (T := 9) (l := r ++ [x]) (lo := none) (hi := some (i64 r.length)) (a := 0) (b := r.length) (by simp) rfl rfl (by omega) (by omega) (by simp; omega)
   simp at hs
   have hw0 : IntKind.i64.wrap (r.length : Int) = r.length := wrap_i64 (by omega) (by simp at hl; omega)
   rw [trimR_snoc] at hw
   rw [L134x0q]
   by_cases hx : x = b
   · rw [if_pos hx] at hw
     subst hx
     simp [hix,hs,hw0]
     exact ih r _ _ _ _ _ _ _ _ _ _ _ _ _ _ _ _ _ _ _ _ _ hr (by simp at hl; omega) hw
   · rw [if_neg hx] at hw
     have hx' : ((x.toNat : Int) == (b.toNat : Int)) = false := by
      rw [beq_eq_false_iff_ne]
      exact fun e => hx (UInt8.toNat_inj.1 (by omega))
     simp [hix,hx',hw0]
     rw [← hw] at hk
     exact hk
theorem c_trimByte {H : AHeap} {b : UInt8} {l : List UInt8} (hl : l.length < 2 ^ 62) : ACalls prog 134 [str l,byt b] H (str (trimR b l)) H := by
 refine acalls_pure MixT func134 (by decide) rfl ?_
 rw [d134]
 exact ⟨l.length + 1,trim_loop (trimR b l) ⟨rfl,[],by simp⟩ l.length l _ _ _ _ _ _ _ _ _ _ _ _ _ _ _ _ _ _ _ _ _ rfl hl rfl⟩
theorem c_trimRight {H : AHeap} {l : List UInt8} (hl : l.length < 2 ^ 62) : ACalls prog 114 [str l,str [48]] H (str (trimR 48 l)) H := by
 refine acalls_pure MixT func114 (by decide) rfl ?_
 rw [d114]
 have hix := aIndex_at (P := prog) (T := 9) (k := .i64) (l := [48]) (i := 0) (b := 48) (by simp) rfl
 simp at hix
 by_cases h0 : l = []
 · subst h0
   simp
   rfl
 · have h0' : ¬ (⟨l.toArray⟩ : ByteArray) = ⟨#[]⟩ := fun e => h0 (by simpa using e)
   simp [h0',hix]
   refine bndC_of (c_trimByte hl) ⟨rfl,[],by simp⟩
def fixS (x : Int) : List UInt8 :=
 (if sat x < 0 then [45] else []) ++ fmtS (((sat x).natAbs / 1000 : Nat) : Int) ++ if (sat x).natAbs % 1000 = 0 then [] else 46 :: trimR 48 ((fmtS ((1000 + (sat x).natAbs % 1000 : Nat) : Int)).drop 1)
theorem natS_len {n : Nat} (h : n < 2 ^ 64) : (natS n).length ≤ 20 := by
 unfold natS
 split
 · simp
 · rw [digs_len]; exact (ndig_ok (by omega) h).2.1
theorem fmtS_nat (n : Nat) : fmtS (n : Int) = natS n := by
 unfold fmtS; rw [if_neg (by omega)]; rfl
theorem trimR_len (b : UInt8) : ∀ l : List UInt8,(trimR b l).length ≤ l.length := by
 intro l
 induction l with
 | nil => exact Nat.le_refl _
 | cons x r ih =>
   rw [trimR]
   split
   · split <;> simp
   · rename_i h; rw [h] at ih; simpa using ih
theorem fix_tail {H : AHeap} (hg : Pw H) {n : Nat} {sg : List UInt8} {k : Value → AHeap → Prop} (hn : n < 2 ^ 63) (hs : sg.length ≤ 1)
  (hk : k (str (sg ++ fmtS ((n / 1000 : Nat) : Int) ++ if n % 1000 = 0 then [] else 46 :: trimR 48 ((fmtS ((1000 + n % 1000 : Nat) : Int)).drop 1))) H) (s1 s2 s4 s5 s6 s7 s8 s9 s10 s11 s12 s13 s14 s15 s16 s17 s18 s19 s20 s21 s22 s23 s24 s25 s26 s27 s28 s29 : Value) :
  S74x0 k [i64 n,s1,s2,str sg,s4,s5,s6,s7,s8,s9,s10,s11,s12,s13,s14,s15,s16,s17,s18,s19,s20,s21,s22,s23,s24,s25,s26,s27,s28,s29] H := by
 simp only [fmtS_nat] at hk
 have l1 := natS_len (n := n / 1000) (by omega)
 have l2 := natS_len (n := 1000 + n % 1000) (by omega)
 have l3 := trimR_len 48 ((natS (1000 + n % 1000)).drop 1)
 simp only [List.length_drop] at l3
 have q1 := fun X Y => quoL (P := prog) (H := H) (T := 2) (x := X) (y := Y) (k := .i64) (a := n) (c := 1000) (n := 1000) rfl (by omega) (wrap_i64 (by omega) (by omega))
 have q2 := fun X Y => remL (P := prog) (H := H) (T := 2) (x := X) (y := Y) (k := .i64) (a := n) (c := 1000) (n := 1000) rfl (by omega)
 rw [S74x0q]
 simp only [q1,bnd_some]
 refine bndC_of (c_formatInt hg (by omega) (by omega)) ?_
 rw [fmtS_nat]
 have c1 := fun X Y => aBin_str (P := prog) (H := H) (T := 9) (x := X) (y := Y) (a := sg) (b := natS (n / 1000)) (by omega)
 simp only [c1,bnd_some,q2]
 by_cases h0 : n % 1000 = 0
 · simp [h0,S74x1q]
   simpa [h0] using hk
 · have hp : (0 : Int) < ((n % 1000 : Nat) : Int) := by omega
   have hw : IntKind.i64.wrap (1000 + ((n % 1000 : Nat) : Int)) = ((1000 + n % 1000 : Nat) : Int) := by rw [wrap_i64 (by omega) (by omega)]; omega
   rw [if_neg h0] at hk
   have hm : n % 1000 < 1000 := Nat.mod_lt _ (by omega)
   clear q1 q2 c1
   generalize n % 1000 = m at hk h0 hp hw l2 l3 hm ⊢
   have hs2 := aSliceOp_str (P := prog) (H := H) (T := 9) (l := natS (1000 + m)) (lo := some (i64 1)) (hi := none) (a := 1) (b := (natS (1000 + m)).length) (by simp) rfl rfl (by omega) (by
    have : natS (1000 + m) ≠ [] := by
     unfold natS; rw [if_neg (by omega)]
     intro e
     have := congrArg List.length e
     rw [digs_len] at this
     have := (ndig_ok (n := 1000 + m) (by omega) (by omega)).1
     simp at *; omega
    have := List.length_pos_iff.2 this
    omega) (by omega)
   have e1 : (List.take (((natS (1000 + m)).length : Int).toNat) (natS (1000 + m))).drop ((1 : Int).toNat) = (natS (1000 + m)).drop 1 := by simp
   rw [e1] at hs2
   have hp' : ((m : Int) > 0) := hp
   simp only [aBin_gtr,bnd_some,hp',decide_true,kifB_true,aBin_add,hw]
   refine bndC_of (c_formatInt hg (by omega) (by omega)) ?_
   rw [fmtS_nat]
   simp only [hs2,bnd_some]
   refine bndC_of (c_trimRight (by simp; omega)) ?_
   generalize trimR 48 ((natS (1000 + m)).drop 1) = T at l3 hk ⊢
   have c2 : ∀ X Y,aBin2 prog H .add 9 X Y (.string ⟨#[46]⟩) (str T) = some (str (46 :: T)) := fun X Y => aBin_str (a := [46]) (b := T) (by simp only [List.length_cons,List.length_nil]; omega)
   have c3 := fun X Y => aBin_str (P := prog) (H := H) (T := 9) (x := X) (y := Y) (a := sg ++ natS (n / 1000)) (b := 46 :: T) (by simp only [List.length_cons,List.length_append]; omega)
   simp only [c2,c3,bnd_some,S74x1q]
   exact hk
theorem c_fixPrint {H : AHeap} (hg : Pw H) {x : Int} : ACalls prog 74 [i64 x] H (str (fixS x)) H := by
 refine acalls_pure MixT func74 (by decide) rfl ?_
 rw [d74]
 refine bndC_of (c_sat H x) ?_
 have hb : -4611686018427387903 ≤ sat x ∧ sat x ≤ 4611686018427387903 := by unfold sat maxFix; omega
 by_cases h : sat x < 0
 · have hw : IntKind.i64.wrap (0 - sat x) = ((sat x).natAbs : Int) := by rw [wrap_i64 (by omega) (by omega)]; omega
   simp [h] at hw ⊢
   rw [hw]
   refine fix_tail hg (sg := [45]) (by omega) (by simp) ?_ _ _ _ _ _ _ _ _ _ _ _ _ _ _ _ _ _ _ _ _ _ _ _ _ _ _ _ _
   exact ⟨by unfold fixS; rw [if_pos h],[],by simp⟩
 · have hw : sat x = ((sat x).natAbs : Int) := by omega
   have hf : fixS x = [] ++ fmtS (((sat x).natAbs / 1000 : Nat) : Int) ++ if (sat x).natAbs % 1000 = 0 then [] else 46 :: trimR 48 ((fmtS ((1000 + (sat x).natAbs % 1000 : Nat) : Int)).drop 1) := by unfold fixS; rw [if_neg h]
   simp [h]
   rw [hf]
   generalize (sat x).natAbs = m at hw hf ⊢
   rw [hw]
   refine fix_tail hg (sg := []) (by omega) (by simp) ?_ _ _ _ _ _ _ _ _ _ _ _ _ _ _ _ _ _ _ _ _ _ _ _ _ _ _ _ _
   exact ⟨rfl,[],by simp⟩
end Go.Vi
namespace Go.Vi
open Go Go.Proofs Go.Proofs.Tryz
theorem c_mnz {H : AHeap} {n : Nat} (h0 : 0 < n) (h1 : n ≤ 2 ^ 47) : ACalls prog 141 [i64 n] H (.slice (some ⟨H.length,0,some n⟩) n n) (H ++ [.cells (List.replicate n unkV) 5]) :=
 acalls_makeNoZero (n := (n : Int)) (t := 55) (by omega) (by omega) (by simp) func141 (by kernel_rfl) (by decide) (by kernel_rfl) ⟨#[3],by kernel_rfl⟩
theorem c_grow1 {K : AHeap} {pb n : Nat} (h : K[pb]? = some (.cells [selfP pb,.slice none 0 0] 116)) (h0 : 0 < n) (h1 : n ≤ 2 ^ 46) :
  ∃ K',ACalls prog 117 [selfP pb,i64 n] K (.tuple #[]) K' ∧ Bld true K' pb [] ∧ Keeps pb K K' := by
 obtain ⟨v,K',⟨rfl,q1,q2⟩,q3⟩ : ∃ v K',(v = .tuple #[] ∧ Bld true K' pb [] ∧ Keeps pb K K') ∧ ACalls prog 117 [selfP pb,i64 n] K v K' := by
  refine acalls_ex MixT func117 (by decide) ?_
  rw [d117]
  obtain ⟨c1,c2⟩ := cellFx h
  simp [nilV,aIsPtr,c1,c2]
  refine bndD_same (v := i64 0) (by simp [aBuiltin]) ?_
  have w0 : IntKind.i64.wrap (n : Int) = n := wrap_i64 (by omega) (by omega)
  simp [w0]
  refine bndD_of (c_mnz h0 (by omega)) (.inr ⟨_,rfl⟩) ?_
  have c3 : hcells (K ++ [.cells (List.replicate n unkV) 5]) pb = some [selfP pb,.slice none 0 0] := hcells_more c1
  have c4 : hlen (K ++ [.cells (List.replicate n unkV) 5]) pb = some 2 := by rw [hcells_len c3]; rfl
  have e1 : (K ++ [.cells (List.replicate n unkV) 5])[K.length]? = some (.cells (List.replicate n unkV) 5) := by simp
  have e2 := get_more (X := [.cells (List.replicate n unkV) 5]) h
  have hlt : pb < K.length := (List.getElem?_eq_some_iff.1 h).1
  obtain ⟨d1,d2⟩ := cellFx e1
  rw [List.length_replicate] at d2
  have hs : aSliceOp prog (K ++ [.cells (List.replicate n unkV) 5]) 55 (.slice (some ⟨K.length,0,some n⟩) n n) none (some (i64 0)) = some (.slice (some ⟨K.length,0,some n⟩) 0 n) := by
   simp [aSliceOp,aLow,aHigh,d2]
  simp [nilV,aIsPtr,c1,c2,c3,c4,hs]
  have hcp : aBuiltin prog (K ++ [.cells (List.replicate n unkV) 5]) .copy #[55,55] [.slice (some ⟨K.length,0,some n⟩) 0 n,.slice none 0 0] = some (i64 0,K ++ [.cells (List.replicate n unkV) 5]) := by
   simp [aBuiltin,aCopy,aSrc]
  rw [hcp]
  simp [nilV,aIsPtr,c4,e2]
  refine ⟨⟨selfP pb,.slice (some ⟨K.length,0,some n⟩) 0 n,by rw [List.getElem?_set_self (by simp; omega)],.inr rfl,.mk K.length 0 n (List.replicate n unkV) [] hlt ?_ (by simp) rfl (by omega) rfl (by simp) h0⟩,?_⟩
  · rw [List.getElem?_set_ne (by omega)]; exact e1
  · exact Keeps.app.trans (.set (Nat.le_refl _))
 exact ⟨K',q3,q1,q2⟩
theorem c_grow {K : AHeap} {pb n : Nat} (h : K[pb]? = some (.cells [.pointer none,.slice none 0 0] 116)) (h1 : n ≤ 2 ^ 46) :
  ∃ K',ACalls prog 78 [selfP pb,i64 n] K (.tuple #[]) K' ∧ Bld (decide (0 < n)) K' pb [] ∧ Keeps pb K K' := by
 obtain ⟨v,K',⟨rfl,q1,q2⟩,q3⟩ : ∃ v K',(v = .tuple #[] ∧ Bld (decide (0 < n)) K' pb [] ∧ Keeps pb K K') ∧ ACalls prog 78 [selfP pb,i64 n] K v K' := by
  refine acalls_ex MixT func78 (by decide) ?_
  rw [d78]
  refine bndC_of (c_copyCheck h (.inl rfl) rfl) ?_
  have hlt : pb < K.length := (List.getElem?_eq_some_iff.1 h).1
  have hM : (K.set pb (.cells [selfP pb,.slice none 0 0] 116))[pb]? = some (.cells [selfP pb,.slice none 0 0] 116) := List.getElem?_set_self hlt
  have hk1 : Keeps pb K (K.set pb (.cells [selfP pb,.slice none 0 0] 116)) := .set (Nat.le_refl _)
  generalize K.set pb (.cells [selfP pb,.slice none 0 0] 116) = M at hM hk1 ⊢
  obtain ⟨c1,c2⟩ := cellFx hM
  have hn0 : ¬ (n : Int) < 0 := by omega
  simp [hn0,S78x0q,nilV,aIsPtr,c1,c2]
  refine bndD_same (v := i64 0) (by simp [aBuiltin]) ?_
  simp [nilV,aIsPtr,c1,c2]
  by_cases h0 : 0 < n
  · simp [h0]
    obtain ⟨K',g1,g2,g3⟩ := c_grow1 hM h0 h1
    refine bndC_of g1 ⟨rfl,by simpa [h0] using g2,hk1.trans g3⟩
  · simp [h0]
    exact ⟨⟨selfP pb,.slice none 0 0,hM,.inr rfl,.nil⟩,hk1⟩
 exact ⟨K',q3,q1,q2⟩
inductive Parts (K : AHeap) : Value → List (List UInt8) → Prop
 | nil : Parts K (.slice none 0 0) []
 | mk (b : Nat) (l : List (List UInt8)) (hb : hcells K b = some (l.map str)) : Parts K (.slice (some ⟨b,0,some l.length⟩) l.length l.length) l
theorem Parts.pre {H K v l} (h : Parts H v l) (p : Pre H K) : Parts K v l := by
 cases h with
 | nil => exact .nil
 | mk b l hb => exact .mk b l (p.hcells hb)
theorem Parts.len {H v l} (h : Parts H v l) (K : AHeap) : aLen prog K 42 v = some (i64 l.length) := by
 cases h <;> simp
theorem Parts.load {H v l} (h : Parts H v l) {i : Nat} {s : List UInt8} (hi : l[i]? = some s) : ∃ p,aIndexAddr prog H 42 v (i64 i) = some p ∧ aLoad prog H 9 p = some (str s) := by
 have ha : Arr H 1 v (strCells l) := by
  cases h with
  | nil => exact .nil
  | mk b l hb =>
    refine .mk b 0 _ _ _ (l.map str) _ (by simp [strCells]) hb (by simp) (by omega) fun i e hi => ?_
    simp only [strCells,List.getElem?_map,Option.map_eq_some_iff] at hi
    obtain ⟨s,h1,rfl⟩ := hi
    rw [Nat.zero_add,Nat.mul_one,← List.map_drop,List.drop_eq_getElem_cons (List.getElem?_eq_some_iff.1 h1).1,List.map_cons,List.take_succ_cons,List.take_zero,(List.getElem?_eq_some_iff.1 h1).2]
 exact ha.load1 (by simp) (by simp) (by simp) (by simp [strCells,hi])
theorem Parts.tail {H v a l} (h : Parts H v (a :: l)) (hl : 0 < l.length) : ∃ t,aSliceOp prog H 42 v (some (i64 1)) none = some t ∧ (∀ K,aLen prog K 42 t = some (i64 l.length)) ∧
  ∀ K,Pre H K → ∀ (i : Nat) s,l[i]? = some s → ∃ p,aIndexAddr prog K 42 t (i64 i) = some p ∧ aLoad prog K 9 p = some (str s) := by
 cases h with
 | mk b _ hb =>
   have hhl : hlen H b = some (l.length + 1) := by rw [hcells_len hb]; simp
   refine ⟨.slice (some ⟨b,1,some (l.length + 1)⟩) l.length l.length,?_,fun K => by simp,fun K p i s hi => ?_⟩
   · simp [aSliceOp,aLow,aHigh,hhl]
     omega
   · have ha : Arr K 1 (.slice (some ⟨b,1,some (l.length + 1)⟩) l.length l.length) (strCells l) := by
      refine .mk b 1 _ _ _ ((a :: l).map str) _ (by simp [strCells]) (p.hcells hb) (by simp) (by omega) fun i e hi => ?_
      simp only [strCells,List.getElem?_map,Option.map_eq_some_iff] at hi
      obtain ⟨s,h1,rfl⟩ := hi
      rw [Nat.mul_one,Nat.add_comm,List.map_cons,List.drop_succ_cons,← List.map_drop,List.drop_eq_getElem_cons (List.getElem?_eq_some_iff.1 h1).1,List.map_cons,List.take_succ_cons,List.take_zero,(List.getElem?_eq_some_iff.1 h1).2]
     exact ha.load1 (by simp) (by simp) (by simp) (by simp [strCells,hi])
def joinS (sep : List UInt8) : List (List UInt8) → List UInt8
 | [] => []
 | a :: r => a ++ (r.map (sep ++ ·)).flatten
theorem join_w {H : AHeap} {t : Value} {sep : List UInt8} {l : List (List UInt8)} {pb : Nat} {k : Value → AHeap → Prop} (hpb : H.length ≤ pb) (_hlen : ∀ K,aLen prog K 42 t = some (i64 l.length)) (hll : l.length < 2 ^ 62)
  (hat : ∀ K,Pre H K → ∀ (i : Nat) s,l[i]? = some s → ∃ p,aIndexAddr prog K 42 t (i64 i) = some p ∧ aLoad prog K 9 p = some (str s)) (w : List UInt8) (hw46 : w.length ≤ 2 ^ 46) (hne : w ≠ []) (hk : ∀ K,Pre H K → k (str w) K) :
  ∀ (r : List (List UInt8)) (i : Nat) (acc : List UInt8) (g : Bool) (K : AHeap) (s0 s2 s3 s4 s5 s6 s7 s9 s10 s11 s12 s13 s14 s15 s16 s17 s18 s19 s20 s21 s22 s23 s24 s25 s26 s27 s28 s29 s30 s31 s32 s33 s34 s35 s36 s37 s38 s39 s40 s41 s42 s43 s44 s45 s46 s47 s48 s49 s50 s51 s52 s53 s54 s55 s56 s57 s58 s59 s60 s61 s62 s66 s67 s68 s69 s70 s71 s72 s73 s74 : Value), l.drop i = r → i ≤ l.length → Pre H K → Bld g K pb acc → (g = true → acc = []) → w = acc ++ (r.map (sep ++ ·)).flatten →
    L46x1 (r.length + 1) k [s0,str sep,s2,s3,s4,s5,s6,s7,selfP pb,s9,s10,s11,s12,s13,s14,s15,s16,s17,s18,s19,s20,s21,s22,s23,s24,s25,s26,s27,s28,s29,s30,s31,s32,s33,s34,s35,s36,s37,s38,s39,s40,s41,s42,s43,s44,s45,s46,s47,s48,s49,s50,s51,s52,s53,s54,s55,s56,s57,s58,s59,s60,s61,s62,t,i64 l.length,i64 i,s66,s67,s68,s69,s70,s71,s72,s73,s74] K := by
 intro r
 induction r with
 | nil =>
   intro i acc g K s0 s2 s3 s4 s5 s6 s7 s9 s10 s11 s12 s13 s14 s15 s16 s17 s18 s19 s20 s21 s22 s23 s24 s25 s26 s27 s28 s29 s30 s31 s32 s33 s34 s35 s36 s37 s38 s39 s40 s41 s42 s43 s44 s45 s46 s47 s48 s49 s50 s51 s52 s53 s54 s55 s56 s57 s58 s59 s60 s61 s62 s66 s67 s68 s69 s70 s71 s72 s73 s74 hd hi hp hb hg hw
   have hle : l.length ≤ i := by simpa using hd
   simp at hw
   subst hw
   have hgf : g = false := by
    cases g with
    | false => rfl
    | true => exact absurd (hg rfl) hne
   subst hgf
   rw [List.length_nil,L46x1q]
   have : ¬ i < l.length := by omega
   simp [this]
   obtain ⟨v,K',⟨rfl,h1⟩,h2⟩ := c_bstring hb (by omega)
   exact bndC_of h2 (hk _ (h1 H hp hpb))
 | cons s r ih =>
   intro i acc g K s0 s2 s3 s4 s5 s6 s7 s9 s10 s11 s12 s13 s14 s15 s16 s17 s18 s19 s20 s21 s22 s23 s24 s25 s26 s27 s28 s29 s30 s31 s32 s33 s34 s35 s36 s37 s38 s39 s40 s41 s42 s43 s44 s45 s46 s47 s48 s49 s50 s51 s52 s53 s54 s55 s56 s57 s58 s59 s60 s61 s62 s66 s67 s68 s69 s70 s71 s72 s73 s74 hd hi hp hb hg hw
   have hbi : l[i]? = some s := by rw [← List.head?_drop,hd]; rfl
   have hlt : i < l.length := (List.getElem?_eq_some_iff.1 hbi).1
   have hwl := congrArg List.length hw
   simp at hwl
   rw [List.length_cons,L46x1q]
   obtain ⟨p,e1,e2⟩ := hat K hp i s hbi
   simp [hlt,e1,e2]
   obtain ⟨v1,K1,⟨rfl,h1,h2⟩,h3⟩ := c_writeString (ys := sep) hb (by omega)
   refine bndC_of h3 ?_
   have hp1 := h2 H hp hpb
   obtain ⟨v2,K2,⟨rfl,h4,h5⟩,h6⟩ := c_writeString (ys := s) h1 (by simp; omega)
   refine bndC_of h6 ?_
   have hp2 := h5 H hp1 hpb
   simp [show i + 1 < 2 ^ 63 by omega]
   refine ih (i + 1) (acc ++ sep ++ s) _ K2 _ _ _ _ _ _ _ _ _ _ _ _ _ _ _ _ _ _ _ _ _ _ _ _ _ _ _ _ _ _ _ _ _ _ _ _ _ _ _ _ _ _ _ _ _ _ _ _ _ _ _ _ _ _ _ _ _ _ _ _ _ _ _ _ _ _ _ _ _ _ (by rw [← List.drop_drop,hd]; rfl) hlt hp2 h4 (fun h => ?_) (by rw [hw]; simp)
   simp at h
   rw [hg h.1.1,h.1.2,h.2]; rfl
def sumL : List (List UInt8) → Nat
 | [] => 0
 | a :: r => a.length + sumL r
theorem join_len (sep a : List UInt8) : ∀ r : List (List UInt8),(joinS sep (a :: r)).length = sep.length * r.length + sumL (a :: r) := by
 intro r
 have h : ∀ r : List (List UInt8),((r.map (sep ++ ·)).flatten).length = sep.length * r.length + sumL r := by
  intro r
  induction r with
  | nil => simp [sumL]
  | cons x r ih => rw [List.map_cons,List.flatten_cons,List.length_append,ih,List.length_append,sumL,List.length_cons,Nat.mul_add,Nat.mul_one]; omega
 rw [joinS,List.length_append,h,sumL]
 omega
theorem join_n {H : AHeap} {v : Value} {sep : List UInt8} {a : List UInt8} {l : List (List UInt8)} {k : Value → AHeap → Prop} (hv : Parts H v (a :: l)) (hl : 0 < l.length) (hj : (joinS sep (a :: l)).length ≤ 2 ^ 46) (hne : joinS sep (a :: l) ≠ []) (hll : l.length < 2 ^ 61)
  (hk : ∀ K,Pre H K → k (str (joinS sep (a :: l))) K) :
  ∀ (r : List (List UInt8)) (i n : Nat) (s2 s3 s4 s6 s7 s8 s9 s10 s11 s12 s13 s14 s15 s16 s17 s18 s19 s20 s21 s22 s23 s24 s25 s26 s27 s28 s29 s30 s31 s32 s33 s34 s35 s36 s37 s38 s42 s43 s44 s45 s46 s47 s48 s49 s50 s51 s52 s53 s54 s55 s56 s57 s58 s59 s60 s61 s62 s63 s64 s65 s66 s67 s68 s69 s70 s71 s72 s73 s74 : Value), (a :: l).drop i = r → i ≤ l.length + 1 → n + sumL r = (joinS sep (a :: l)).length →
    L46x0 (r.length + 1) k [v,str sep,s2,s3,s4,i64 n,s6,s7,s8,s9,s10,s11,s12,s13,s14,s15,s16,s17,s18,s19,s20,s21,s22,s23,s24,s25,s26,s27,s28,s29,s30,s31,s32,s33,s34,s35,s36,s37,s38,v,i64 ((l.length + 1 : Nat) : Int),i64 i,s42,s43,s44,s45,s46,s47,s48,s49,s50,s51,s52,s53,s54,s55,s56,s57,s58,s59,s60,s61,s62,s63,s64,s65,s66,s67,s68,s69,s70,s71,s72,s73,s74] H := by
 intro r
 induction r with
 | nil =>
   intro i n s2 s3 s4 s6 s7 s8 s9 s10 s11 s12 s13 s14 s15 s16 s17 s18 s19 s20 s21 s22 s23 s24 s25 s26 s27 s28 s29 s30 s31 s32 s33 s34 s35 s36 s37 s38 s42 s43 s44 s45 s46 s47 s48 s49 s50 s51 s52 s53 s54 s55 s56 s57 s58 s59 s60 s61 s62 s63 s64 s65 s66 s67 s68 s69 s70 s71 s72 s73 s74 hd hi hn
   have hle : l.length + 1 ≤ i := by have := congrArg List.length hd; simp at this; omega
   simp only [sumL,Nat.add_zero] at hn
   subst hn
   rw [List.length_nil,L46x0q]
   have : ¬ (i : Int) < ((l.length + 1 : Nat) : Int) := by omega
   simp only [aBin_lss,bnd_some,this,decide_false,kifB_false]
   simp
   obtain ⟨K1,g1,g2,g3⟩ := c_grow (K := H ++ [.cells [.pointer none,.slice none 0 0] 116]) (pb := H.length) (by simp) hj
   have hp1 : Pre H K1 := g3 H (.app _ _) (Nat.le_refl _)
   refine bndC_of g1 ?_
   obtain ⟨p,e1,e2⟩ := (hv.pre hp1).load (i := 0) (s := a) rfl
   simp at e1
   simp [e1,e2]
   obtain ⟨v2,K2,⟨rfl,h1,h2⟩,h3⟩ := c_writeString (ys := a) g2 (by simp; have := join_len sep a l; simp only [sumL] at this; omega)
   refine bndC_of h3 ?_
   have hp2 := h2 H hp1 (Nat.le_refl _)
   obtain ⟨t,t0,t2,t3⟩ := hv.tail hl
   have t1 : aSliceOp prog K2 42 v (some (i64 1)) none = some t := by
    obtain ⟨X,rfl⟩ := hp2
    exact aSliceOp_more t0
   simp [t1,t2]
   exact ⟨l.length + 1,join_w (H := H) (l := l) (sep := sep) (pb := H.length) (Nat.le_refl _) t2 (by omega) t3 (joinS sep (a :: l)) hj hne hk l 0 a _ K2 _ _ _ _ _ _ _ _ _ _ _ _ _ _ _ _ _ _ _ _ _ _ _ _ _ _ _ _ _ _ _ _ _ _ _ _ _ _ _ _ _ _ _ _ _ _ _ _ _ _ _ _ _ _ _ _ _ _ _ _ _ _ _ _ _ _ _ _ _ _ rfl (by omega) hp2 (by simpa using h1) (fun h => by simp at h; exact h.2) rfl⟩
 | cons s r ih =>
   intro i n s2 s3 s4 s6 s7 s8 s9 s10 s11 s12 s13 s14 s15 s16 s17 s18 s19 s20 s21 s22 s23 s24 s25 s26 s27 s28 s29 s30 s31 s32 s33 s34 s35 s36 s37 s38 s42 s43 s44 s45 s46 s47 s48 s49 s50 s51 s52 s53 s54 s55 s56 s57 s58 s59 s60 s61 s62 s63 s64 s65 s66 s67 s68 s69 s70 s71 s72 s73 s74 hd hi hn
   have hbi : (a :: l)[i]? = some s := by rw [← List.head?_drop,hd]; rfl
   have hlt : i < l.length + 1 := by simpa using (List.getElem?_eq_some_iff.1 hbi).1
   obtain ⟨p,e1,e2⟩ := hv.load hbi
   rw [sumL] at hn
   have w1 : IntKind.i64.wrap (9223372036854775807 - (n : Int)) = 9223372036854775807 - (n : Int) := wrap_i64 (by omega) (by omega)
   have w2 : ¬ (9223372036854775807 - (n : Int) < s.length) := by omega
   have w3 : IntKind.i64.wrap ((n : Int) + s.length) = ((n + s.length : Nat) : Int) := by rw [wrap_i64 (by omega) (by omega)]; omega
   have hltI : (i : Int) < ((l.length + 1 : Nat) : Int) := by omega
   rw [List.length_cons,L46x0q]
   simp only [aBin_lss,bnd_some,hltI,decide_true,kifB_true]
   simp [e1,e2,w1,w2,S46x2q,w3,show i + 1 < 2 ^ 63 by omega]
   exact ih (i + 1) (n + s.length) _ _ _ _ _ _ _ _ _ _ _ _ _ _ _ _ _ _ _ _ _ _ _ _ _ _ _ _ _ _ _ _ _ _ _ _ _ _ _ _ _ _ _ _ _ _ _ _ _ _ _ _ _ _ _ _ _ _ _ _ _ _ _ _ _ _ _ _ _ (by rw [← List.drop_drop,hd]; rfl) hlt (by omega)
theorem c_join {H : AHeap} {v : Value} {sep : List UInt8} {l : List (List UInt8)} (hv : Parts H v l) (hj : (joinS sep l).length ≤ 2 ^ 46) (hll : l.length < 2 ^ 40) (hsl : sep.length < 2 ^ 20) (hne : 2 ≤ l.length → joinS sep l ≠ []) :
  ACalls prog 46 [v,str sep] H (str (joinS sep l)) H := by
 refine acalls_pure MixT func46 (by decide) rfl ?_
 rw [d46]
 have hlen := fun K => hv.len K
 match l,hv with
 | [],hv => simp [hlen]; rfl
 | [a], hv =>
   obtain ⟨p,e1,e2⟩ := hv.load (i := 0) (s := a) rfl
   simp at e1
   simp [hlen,e1,e2,joinS]
 | a :: b :: r, hv =>
   have hl2 : (a :: b :: r).length = r.length + 2 := rfl
   rw [hl2] at hll
   simp only [hl2] at hlen
   have w0 : IntKind.i64.wrap (((r.length + 2 : Nat) : Int) - 1) = ((r.length + 1 : Nat) : Int) := by rw [wrap_i64 (by omega) (by omega)]; omega
   have f0 : ((r.length : Int) + 2 == 0) = false := by rw [beq_eq_false_iff_ne]; omega
   have f1 : ((r.length : Int) + 2 == 1) = false := by rw [beq_eq_false_iff_ne]; omega
   have hjl := join_len sep a (b :: r)
   have go := fun (n : Nat) (hn : n + sumL (a :: b :: r) = (joinS sep (a :: b :: r)).length) (s2 s3 s4 s6 s7 s8 s9 s10 s11 s12 s13 s14 s15 s16 s17 s18 s19 s20 s21 s22 s23 s24 s25 s26 s27 s28 s29 s30 s31 s32 s33 s34 s35 s36 s37 s38 s42 s43 s44 s45 s46 s47 s48 s49 s50 s51 s52 s53 s54 s55 s56 s57 s58 s59 s60 s61 s62 s63 s64 s65 s66 s67 s68 s69 s70 s71 s72 s73 s74 : Value) => join_n (H := H) (v := v) (sep := sep) (k := fun u H2 => u = str (joinS sep (a :: b :: r)) ∧ ∃ X,H2 = H ++ X) hv (by simp) hj (hne (by simp)) (by simp; omega) (fun K p => ⟨rfl,p⟩) (a :: b :: r) 0 n s2 s3 s4 s6 s7 s8 s9 s10 s11 s12 s13 s14 s15 s16 s17 s18 s19 s20 s21 s22 s23 s24 s25 s26 s27 s28 s29 s30 s31 s32 s33 s34 s35 s36 s37 s38 s42 s43 s44 s45 s46 s47 s48 s49 s50 s51 s52 s53 s54 s55 s56 s57 s58 s59 s60 s61 s62 s63 s64 s65 s66 s67 s68 s69 s70 s71 s72 s73 s74 rfl (by omega) hn
   simp at w0
   simp [hlen,f0,f1]
   by_cases hs0 : sep.length = 0
   · simp [hs0,S46x1q,hlen]
     refine ⟨r.length + 2 + 1,?_⟩
     exact go 0 (by rw [hjl,hs0]; simp) _ _ _ _ _ _ _ _ _ _ _ _ _ _ _ _ _ _ _ _ _ _ _ _ _ _ _ _ _ _ _ _ _ _ _ _ _ _ _ _ _ _ _ _ _ _ _ _ _ _ _ _ _ _ _ _ _ _ _ _ _ _ _ _ _ _ _ _ _
   · have hs0' : 0 < sep.length := by omega
     have hq := fun X Y => quoL (P := prog) (H := H) (T := 3) (x := X) (y := Y) (k := .i64) (a := 9223372036854775807) (c := (r.length : Int) + 1) (n := r.length + 1) (by simp) (by omega) (by
      have : 9223372036854775807 / (r.length + 1) ≤ 9223372036854775807 := Nat.div_le_self _ _
      generalize 9223372036854775807 / (r.length + 1) = X at this ⊢
      exact wrap_i64 (by omega) (by omega))
     have hD : sep.length + 1 ≤ 9223372036854775807 / (r.length + 1) := by
      rw [Nat.le_div_iff_mul_le (by omega)]
      have h1 : (sep.length + 1) * (r.length + 1) ≤ 2 ^ 20 * 2 ^ 40 := Nat.mul_le_mul (by omega) (by omega)
      omega
     generalize 9223372036854775807 / (r.length + 1) = D at hq hD
     have hg : ¬ ((D : Int) ≤ sep.length) := by omega
     have hq' : ∀ X Y,aBin2 prog H .quo 3 X Y (.int .i64 9223372036854775807) (.int .i64 ((r.length : Int) + 1)) = some (i64 (D : Int)) := fun X Y => hq X Y
     simp [hs0',w0,hlen,hq',hg]
     have hN : (joinS sep (a :: b :: r)).length = sep.length * (r.length + 1) + sumL (a :: b :: r) := hjl
     have hm : IntKind.i64.wrap ((sep.length : Int) * ((r.length : Int) + 1)) = ((sep.length * (r.length + 1) : Nat) : Int) := by
      have e : (sep.length : Int) * ((r.length : Int) + 1) = ((sep.length * (r.length + 1) : Nat) : Int) := by simp
      rw [e]
      generalize sep.length * (r.length + 1) = N at hN ⊢
      exact wrap_i64 (by omega) (by omega)
     have hm2 : IntKind.i64.wrap ((sep.length * (r.length + 1) : Nat) : Int) = ((sep.length * (r.length + 1) : Nat) : Int) := by
      generalize sep.length * (r.length + 1) = N at hN ⊢
      exact wrap_i64 (by omega) (by omega)
     have hgo := go (sep.length * (r.length + 1)) hN.symm
     clear go hq hq' hN hjl
     generalize sep.length * (r.length + 1) = N at hm hm2 hgo
     simp [S46x0q,hlen,w0,hm,hm2,S46x1q]
     exact ⟨r.length + 2 + 1,hgo _ _ _ _ _ _ _ _ _ _ _ _ _ _ _ _ _ _ _ _ _ _ _ _ _ _ _ _ _ _ _ _ _ _ _ _ _ _ _ _ _ _ _ _ _ _ _ _ _ _ _ _ _ _ _ _ _ _ _ _ _ _ _ _ _ _ _ _ _⟩
end Go.Vi
namespace Go.Vi
open Go Go.Proofs Go.Proofs.Tryz
def escB (b : UInt8) : List UInt8 := if (b = 34 ∨ b = 92) then [92,b] else [b]
def quoteS (v : List UInt8) : List UInt8 := 34 :: (v.flatMap escB) ++ [34]
theorem escB_len (b : UInt8) : (escB b).length ≤ 2 := by unfold escB; split <;> simp
theorem esc_len : ∀ v : List UInt8,(v.flatMap escB).length ≤ 2 * v.length := by
 intro v
 induction v with
 | nil => simp
 | cons b r ih => rw [List.flatMap_cons,List.length_append,List.length_cons]; have := escB_len b; omega
theorem quote_loop {H : AHeap} {l : List UInt8} {pb : Nat} {k : Value → AHeap → Prop} (hpb : H.length ≤ pb) (hl : l.length < 2 ^ 40) (hk : ∀ K,Pre H K → k (str (quoteS l)) K) :
  ∀ (r : List UInt8) (i : Nat) (acc : List UInt8) (K : AHeap) (s1 s2 s4 s5 s6 s9 s10 s11 s12 s13 s14 s15 s16 s17 s18 s19 s20 s21 s22 s23 s24 s25 s26 s27 s28 : Value), l.drop i = r → i ≤ l.length → Pre H K → Bld false K pb acc → acc.length ≤ 1 + 2 * i → 34 :: l.flatMap escB = acc ++ r.flatMap escB →
    L111x0 (r.length + 1) k [str l,s1,s2,selfP pb,s4,s5,s6,i64 l.length,i64 i,s9,s10,s11,s12,s13,s14,s15,s16,s17,s18,s19,s20,s21,s22,s23,s24,s25,s26,s27,s28] K := by
 intro r
 induction r with
 | nil =>
   intro i acc K s1 s2 s4 s5 s6 s9 s10 s11 s12 s13 s14 s15 s16 s17 s18 s19 s20 s21 s22 s23 s24 s25 s26 s27 s28 hd hi hp hb ha hw
   have hle : l.length ≤ i := by simpa using hd
   rw [List.length_nil,L111x0q]
   have : ¬ i < l.length := by omega
   simp [this]
   obtain ⟨v1,K1,⟨rfl,h1,h2⟩,h3⟩ := c_writeByte (b := 34) hb (by omega)
   refine bndC_of h3 ?_
   obtain ⟨v2,K2,⟨rfl,h4⟩,h5⟩ := c_bstring h1 (by simp; omega)
   refine bndC_of h5 ?_
   have e : quoteS l = acc ++ [34] := by
    unfold quoteS
    rw [show (34 :: List.flatMap escB l) = acc by simpa using hw]
   rw [← e]
   exact hk _ (h4 H (h2 H hp hpb) hpb)
 | cons b r ih =>
   intro i acc K s1 s2 s4 s5 s6 s9 s10 s11 s12 s13 s14 s15 s16 s17 s18 s19 s20 s21 s22 s23 s24 s25 s26 s27 s28 hd hi hp hb ha hw
   have hbi : l[i]? = some b := by rw [← List.head?_drop,hd]; rfl
   have hlt : i < l.length := (List.getElem?_eq_some_iff.1 hbi).1
   have hix := aIndex_at (P := prog) (T := 9) (k := .i64) (by simp) hbi
   have step : ∀ (acc' : List UInt8) (K' : AHeap) (s1 s2 s5 s6 s9 s10 s11 s12 s13 s14 s15 s16 s17 s18 s19 s20 s21 s22 s23 s24 s25 s26 s27 s28 : Value),Pre H K' → Bld false K' pb acc' → acc'.length ≤ 2 + 2 * i → 34 :: l.flatMap escB = acc' ++ [b] ++ r.flatMap escB →
     S111x0 (r.length + 1) k [str l,s1,s2,selfP pb,i64 i,s5,s6,i64 l.length,i64 i,s9,s10,s11,s12,s13,s14,s15,s16,s17,s18,s19,s20,s21,s22,s23,s24,s25,s26,s27,s28] K' := by
    intro acc' K' s1 s2 s5 s6 s9 s10 s11 s12 s13 s14 s15 s16 s17 s18 s19 s20 s21 s22 s23 s24 s25 s26 s27 s28 hp' hb' ha' hw'
    rw [S111x0q]
    simp only [hix,bnd_some]
    obtain ⟨v1,K1,⟨rfl,h1,h2⟩,h3⟩ := c_writeByte (b := b) hb' (by omega)
    refine bndC_of h3 ?_
    simp [show i + 1 < 2 ^ 63 by omega]
    exact ih (i + 1) (acc' ++ [b]) K1 _ _ _ _ _ _ _ _ _ _ _ _ _ _ _ _ _ _ _ _ _ _ _ _ _ (by rw [← List.drop_drop,hd]; rfl) hlt (h2 H hp' hpb) h1 (by simp; omega) hw'
   rw [List.flatMap_cons] at hw
   rw [List.length_cons,L111x0q]
   have e34 : ((b.toNat : Int) == 34) = decide (b = 34) := by
    rw [Bool.eq_iff_iff]; simp
    exact ⟨fun e => UInt8.toNat_inj.1 (by simp; omega),fun e => by subst e; rfl⟩
   have e92 : ((b.toNat : Int) == 92) = decide (b = 92) := by
    rw [Bool.eq_iff_iff]; simp
    exact ⟨fun e => UInt8.toNat_inj.1 (by simp; omega),fun e => by subst e; rfl⟩
   by_cases hq : b = 34 ∨ b = 92
   · have he : escB b = [92,b] := by unfold escB; rw [if_pos hq]
     rw [he] at hw
     have hq' : (decide (b = 34) || decide (b = 92)) = true := by simpa using hq
     simp +contextual [hlt,hix,e34,e92]
     refine kifB_bool (fun _ => ?_) (fun h => ?_)
     · obtain ⟨v1,K1,⟨rfl,h1,h2⟩,h3⟩ := c_writeByte (b := 92) hb (by omega)
       refine bndC_of h3 ?_
       exact step (acc ++ [92]) K1 _ _ _ _ _ _ _ _ _ _ _ _ _ _ _ _ _ _ _ _ _ _ _ _ (h2 H hp hpb) h1 (by simp; omega) (by rw [hw]; simp)
     · simp at h
       exact absurd hq (by simp [h])
   · have he : escB b = [b] := by unfold escB; rw [if_neg hq]
     rw [he] at hw
     simp +contextual [hlt,hix,e34,e92]
     refine kifB_bool (fun h => ?_) (fun h => ?_)
     · exact absurd (by simpa using h) hq
     · exact step acc K _ _ _ _ _ _ _ _ _ _ _ _ _ _ _ _ _ _ _ _ _ _ _ _ hp hb (by omega) (by rw [hw]; simp)
theorem c_quote {H : AHeap} {l : List UInt8} (hl : l.length < 2 ^ 40) : ACalls prog 111 [str l] H (str (quoteS l)) H := by
 refine acalls_pure MixT func111 (by decide) rfl ?_
 rw [d111]
 simp
 have hb0 : Bld false (H ++ [.cells [.pointer none,.slice none 0 0] 116]) H.length [] := ⟨.pointer none,.slice none 0 0,by simp,.inl rfl,.nil⟩
 obtain ⟨v1,K1,⟨rfl,h1,h2⟩,h3⟩ := c_writeByte (b := 34) hb0 (by simp)
 refine bndC_of h3 ?_
 simp
 exact ⟨l.length + 1,quote_loop (H := H) (k := fun u H2 => u = str (quoteS l) ∧ ∃ X,H2 = H ++ X) (Nat.le_refl _) hl (fun K p => ⟨rfl,p⟩) l 0 [34] K1 _ _ _ _ _ _ _ _ _ _ _ _ _ _ _ _ _ _ _ _ _ _ _ _ _ rfl (by omega) (h2 H (.app _ _) (Nat.le_refl _)) h1 (by simp) rfl⟩
theorem c_joined {H : AHeap} {v : Value} {l : List (List UInt8)} (hv : Parts H v l) (hj : (joinS [] l).length ≤ 2 ^ 46) (hll : l.length < 2 ^ 40) (hne : 2 ≤ l.length → joinS [] l ≠ []) : ACalls prog 110 [v] H (str (joinS [] l)) H := by
 refine acalls_pure MixT func110 (by decide) rfl ?_
 rw [d110]
 exact bndC_of (c_join (sep := []) hv hj hll (by simp) hne) ⟨rfl,[],by simp⟩
def sgnS (n : Int) : List UInt8 := if isOp n = true then opS n else [61]
def matS (m : Mat) : List UInt8 := m.name ++ sgnS m.op ++ quoteS m.value
def selS (ms : List Mat) : List UInt8 := 123 :: joinS [44] (ms.map matS) ++ [125]
def Mat.tame (m : Mat) : Prop := m.name.length ≤ 2 ^ 20 ∧ m.value.length ≤ 2 ^ 20
theorem sgnS_len (n : Int) : (sgnS n).length ≤ 2 := by
 unfold sgnS opS
 split
 · split
   · simp
   · split
     · simp
     · split <;> simp
 · simp
theorem quoteS_len (v : List UInt8) : (quoteS v).length ≤ 2 * v.length + 2 := by
 have := esc_len v
 rw [quoteS,List.length_append,List.length_cons]
 simp only [List.length_cons,List.length_nil]
 omega
theorem matS_len {m : Mat} (h : m.tame) : (matS m).length ≤ 2 ^ 22 - 2 ∧ 2 ≤ (matS m).length := by
 have h1 := sgnS_len m.op
 have h2 := quoteS_len m.value
 obtain ⟨a,b⟩ := h
 have h3 : 2 ≤ (quoteS m.value).length := by simp [quoteS]
 simp only [matS,List.length_append]
 omega
theorem sumL_le {c : Nat} : ∀ l : List (List UInt8),(∀ x ∈ l,x.length ≤ c) → sumL l ≤ c * l.length := by
 intro l
 induction l with
 | nil => intro _; simp [sumL]
 | cons a r ih =>
   intro h
   rw [sumL,List.length_cons,Nat.mul_add]
   have := ih fun x hx => h x (by simp [hx])
   have := h a (by simp)
   omega
theorem sel_len {ms : List Mat} (hm : ∀ m ∈ ms,m.tame) (hl : ms.length ≤ 2 ^ 20) : (joinS [44] (ms.map matS)).length ≤ 2 ^ 43 := by
 cases h : ms.map matS with
 | nil => simp [joinS]
 | cons a r =>
   rw [join_len]
   have hall : ∀ x ∈ a :: r,x.length ≤ 2 ^ 22 - 2 := by
    rw [← h]
    intro x hx
    obtain ⟨m,hm1,rfl⟩ := List.mem_map.1 hx
    exact (matS_len (hm m hm1)).1
   have h2 := sumL_le _ hall
   have h3 : (a :: r).length ≤ 2 ^ 20 := by rw [← h]; simpa using hl
   have h4 : (2 ^ 22 - 2) * (a :: r).length ≤ (2 ^ 22 - 2) * 2 ^ 20 := Nat.mul_le_mul_left _ h3
   simp at h3 ⊢
   omega
theorem join_ne {sep a b : List UInt8} {r : List (List UInt8)} (h : sep ≠ [] ∨ a ≠ []) : joinS sep (a :: b :: r) ≠ [] := by
 intro e
 simp [joinS] at e
 rcases h with h | h
 · exact h e.2.1
 · exact h e.1
theorem strs_lit {P : Program} {H : AHeap} {T e : TypeId} {l : List (List UInt8)} {n : Nat} (hs : aBuildSlice P H T n (enumL 0 (l.map str)) = bslV e #[.string ⟨#[]⟩] H n (enumL 0 (l.map str))) (hn : n = l.length) (hb : n ≤ 16777216) :
  sliceLit P H T n (enumL 0 (l.map str)) (.slice (some ⟨H.length,0,some n⟩) n n) (H ++ [.cells (l.map str) e]) :=
 sliceLit1 hs (fun v hv => by obtain ⟨s,_,rfl⟩ := List.mem_map.1 hv; rfl) (by simpa using hn) hb
theorem Gro.parts {K lo v l} (h : Gro K lo 1 9 v (strCells l)) : Parts K v l := by
 have hf : ∀ l : List (List UInt8),(strCells l).flatten = l.map str := by
  intro l
  induction l with
  | nil => rfl
  | cons a r ih => simp [strCells] at ih ⊢; exact ih
 generalize hc : strCells l = cl at h
 cases h with
 | nil =>
   have : l = [] := by simpa [strCells] using hc
   subst this; exact .nil
 | mk bb cl h1 h2 h3 h4 =>
   subst hc
   have hl : (strCells l).length = l.length := by simp [strCells]
   rw [hl,Nat.mul_one]
   exact .mk bb l (by rw [hcells_eq,h2,hf]; rfl)
theorem strel1 : aElem prog 42 = some (9,1,16) := by kernel_rfl
theorem strel2 : isSeq prog 42 = true := by kernel_rfl
theorem mp_tail {H : AHeap} {ms : List Mat} {mb lo n0 i b6 b7 : Nat} {m : Mat} {fv : Value} {k : Value → AHeap → Prop} (hm : m.tame) (hi : i + 1 < 2 ^ 40) {v : Value} {acc : List (List UInt8)} {pv : Value} {K : AHeap} (hp : Pre H K) (hH : H.length ≤ lo) (hmap : K[mb]? = some (.map opsMap)) (hmb : mb < lo) (hlo : lo ≤ K.length)
  (h6 : K[b6]? = some (.cells m.cells 75)) (h7 : K[b7]? = some (.cells [str (sgnS m.op),fv] 150)) (hg : Gro K lo 1 9 pv (strCells acc)) (hal : acc.length ≤ 2 ^ 20)
  (hk : ∀ (K : AHeap) (pv : Value) (s1 s2 s5 s6 s7 s8 s9 s13 s14 s15 s16 s17 s18 s19 s20 s21 s22 s23 s24 s25 s26 s27 s28 s29 s30 s31 s32 s33 s34 s35 s36 s37 s38 s39 s40 s41 s42 s43 : Value),Pre H K → K[mb]? = some (.map opsMap) → lo ≤ K.length → Gro K lo 1 9 pv (strCells (acc ++ [matS m])) → L72x0 n0 k [v,s1,s2,.map (some mb),pv,s5,s6,s7,s8,s9,v,i64 ms.length,i64 ((i + 1 : Nat) : Int),s13,s14,s15,s16,s17,s18,s19,s20,s21,s22,s23,s24,s25,s26,s27,s28,s29,s30,s31,s32,s33,s34,s35,s36,s37,s38,s39,s40,s41,s42,s43] K) (s1 s2 s5 s8 s9 s13 s14 s15 s16 s17 s18 s19 s20 s21 s22 s23 s24 s25 s26 s27 s28 s29 s30 s31 s32 s33 s34 s35 s36 s37 s38 s39 s40 s41 s42 s43 : Value) :
  S72x0 n0 k [v,s1,s2,.map (some mb),pv,s5,.pointer (some ⟨b6,0,some 3⟩),.pointer (some ⟨b7,0,some 2⟩),s8,s9,v,i64 ms.length,i64 i,s13,s14,s15,s16,s17,s18,s19,s20,s21,s22,s23,s24,s25,s26,s27,s28,s29,s30,s31,s32,s33,s34,s35,s36,s37,s38,s39,s40,s41,s42,s43] K := by
 obtain ⟨c6,l6⟩ := cellFx h6
 obtain ⟨c7,l7⟩ := cellFx h7
 simp only [Mat.cells] at c6 l6
 obtain ⟨t1,t2⟩ := hm
 rw [S72x0q]
 simp [c6,l6,c7,l7]
 refine bndD_same (c_quote (by omega)) ?_
 dsimp only
 refine bndD_of (strs_lit (l := [m.name,sgnS m.op,quoteS m.value]) (tbs42 K 3 _) rfl (by decide)) (.inl rfl) ?_
 dsimp only
 have hj : joinS [] [m.name,sgnS m.op,quoteS m.value] = matS m := by simp [joinS,matS]
 have hml := matS_len (m := m) ⟨t1,t2⟩
 refine bndD_of (c_joined (v := .slice (some ⟨K.length,0,some 3⟩) 3 3) (l := [m.name,sgnS m.op,quoteS m.value]) (.mk _ [m.name,sgnS m.op,quoteS m.value] (by simp)) (by rw [hj]; omega) (by simp) (fun _ e => by rw [hj] at e; rw [e] at hml; simp at hml)) (.inl rfl) ?_
 dsimp only
 rw [hj]
 generalize hK1 : K ++ [AObj.cells (List.map str [m.name,sgnS m.op,quoteS m.value]) 9] = K1
 have hg1 : Gro K1 lo 1 9 pv (strCells acc) := by rw [← hK1]; exact hg.app
 have hp1 : Pre H K1 := by rw [← hK1]; exact hp.more _
 have hm1 : K1[mb]? = some (.map opsMap) := by rw [← hK1]; exact get_more hmap
 have hl1 : lo ≤ K1.length := by rw [← hK1]; simp; omega
 clear hK1
 refine bndD_of (strs_lit (l := [matS m]) (tbs42 K1 1 _) rfl (by decide)) (.inl rfl) ?_
 dsimp only
 obtain ⟨v',K2,q1,q2,q3,q4,q5⟩ := Gro.push (P := prog) (Ts := 42) (by_ := 16) (x := .slice (some ⟨K1.length,0,some 1⟩) 1 1) (c := [str (matS m)]) (hg1.app (X := [AObj.cells (List.map str [matS m]) 9])) strel1 strel2 (by rfl) (by simp; omega) (by simp [aSrc]) (by simp [strCells]; omega) (by simp [strCells]; omega)
 refine bndD_of q1 (.inl rfl) ?_
 simp [show i + 1 < 2 ^ 63 by omega]
 refine hk K2 v' _ _ _ _ _ _ _ _ _ _ _ _ _ _ _ _ _ _ _ _ _ _ _ _ _ _ _ _ _ _ _ _ _ _ _ _ _ _ (q5 H (hp1.more _) hH) (q3 _ _ hmb (get_more hm1)) (by simp at q4; omega) ?_
 have : strCells (acc ++ [matS m]) = strCells acc ++ [[str (matS m)]] := by simp [strCells]
 rw [this]; exact q2
end Go.Vi
namespace Go.Vi
open Go Go.Proofs Go.Proofs.Tryz
theorem opsLookE {K : AHeap} {mb : Nat} (h : K[mb]? = some (.map opsMap)) : aLookup prog K 146 (.map (some mb)) (.int .u8 0) false = some (.agg #[str [61],opF 0]) := by
 rw [aLookup_map,h]
 simp only [tm146,Option.bind_some,mapOf_map,opsOk,keyOk,beq_self_eq_true,if_true]
 unfold mget opsMap opF
 simp [mfind,keyEq]
theorem mp_loop {H : AHeap} {ms : List Mat} {v : Value} {mb lo : Nat} {k : Value → AHeap → Prop} (hm0 : MatsAt H v ms) (htm : ∀ m ∈ ms,m.tame) (hml : ms.length ≤ 2 ^ 20) (hH : H.length ≤ lo) (hmb : mb < lo) (hk : ∀ K,Pre H K → k (str (selS ms)) K) :
  ∀ (r : List Mat) (i : Nat) (K : AHeap) (pv : Value) (s1 s2 s5 s6 s7 s8 s9 s13 s14 s15 s16 s17 s18 s19 s20 s21 s22 s23 s24 s25 s26 s27 s28 s29 s30 s31 s32 s33 s34 s35 s36 s37 s38 s39 s40 s41 s42 s43 : Value), ms.drop i = r → i ≤ ms.length → Pre H K → K[mb]? = some (.map opsMap) → lo ≤ K.length → Gro K lo 1 9 pv (strCells ((ms.take i).map matS)) →
    L72x0 (r.length + 1) k [v,s1,s2,.map (some mb),pv,s5,s6,s7,s8,s9,v,i64 ms.length,i64 i,s13,s14,s15,s16,s17,s18,s19,s20,s21,s22,s23,s24,s25,s26,s27,s28,s29,s30,s31,s32,s33,s34,s35,s36,s37,s38,s39,s40,s41,s42,s43] K := by
 intro r
 induction r with
 | nil =>
   intro i K pv s1 s2 s5 s6 s7 s8 s9 s13 s14 s15 s16 s17 s18 s19 s20 s21 s22 s23 s24 s25 s26 s27 s28 s29 s30 s31 s32 s33 s34 s35 s36 s37 s38 s39 s40 s41 s42 s43 hd hi hp hmap hlo hg
   have hle : ms.length ≤ i := by simpa using hd
   rw [List.take_of_length_le hle] at hg
   rw [List.length_nil,L72x0q]
   have : ¬ i < ms.length := by omega
   simp [this]
   have hsl := sel_len htm hml
   refine bndC_of (c_join (sep := [44]) hg.parts (by omega) (by simp; omega) (by simp) ?_) ?_
   · intro h2
     cases hms : ms.map matS with
     | nil => rw [hms] at h2; simp at h2
     | cons a t =>
       cases t with
       | nil => rw [hms] at h2; simp at h2
       | cons b t => exact join_ne (.inl (by simp))
   refine bndL_lit (strs_lit (l := [[123],joinS [44] (ms.map matS),[125]]) (tbs42 K 3 _) rfl (by decide)) ?_
   dsimp only
   have hj : joinS [] [[123],joinS [44] (ms.map matS),[125]] = selS ms := by simp [joinS,selS]
   have hsl2 : (selS ms).length ≤ 2 ^ 46 := by simp [selS]; omega
   refine bndC_of (c_joined (v := .slice (some ⟨K.length,0,some 3⟩) 3 3) (l := [[123],joinS [44] (ms.map matS),[125]]) (.mk _ [[123],joinS [44] (ms.map matS),[125]] (by simp)) (by rw [hj]; exact hsl2) (by simp) (fun _ e => by rw [hj] at e; simp [selS] at e)) ?_
   rw [hj]
   exact hk _ (hp.more _)
 | cons m r ih =>
   intro i K pv s1 s2 s5 s6 s7 s8 s9 s13 s14 s15 s16 s17 s18 s19 s20 s21 s22 s23 s24 s25 s26 s27 s28 s29 s30 s31 s32 s33 s34 s35 s36 s37 s38 s39 s40 s41 s42 s43 hd hi hp hmap hlo hg
   have hb : ms[i]? = some m := by rw [← List.head?_drop,hd]; rfl
   have hlt : i < ms.length := (List.getElem?_eq_some_iff.1 hb).1
   obtain ⟨p,hp1,hp2⟩ := (hm0.pre hp).load (P := prog) (T := 35) (te := 75) (i := i) (e := m.cells) (by simp) (by simp) (by simp) (by simp [hb])
   have hmK : mb < K.length := (List.getElem?_eq_some_iff.1 hmap).1
   have hlook : aLookup prog (K ++ [.cells m.cells 75]) 146 (.map (some mb)) (.int .u8 m.op) true = some (.tuple #[.agg #[str (opS m.op),opF m.op],.bool (isOp m.op)]) := opsLook _ (get_more hmap)
   have hgo : ∀ (fv : Value) (s1 s2 s5 s8 s9 s13 s14 s15 s16 s17 s18 s19 s20 s21 s22 s23 s24 s25 s26 s27 s28 s29 s30 s31 s32 s33 s34 s35 s36 s37 s38 s39 s40 s41 s42 s43 : Value),S72x0 (r.length + 1) k [v,s1,s2,.map (some mb),pv,s5,.pointer (some ⟨K.length,0,some 3⟩),.pointer (some ⟨K.length + 1,0,some 2⟩),s8,s9,v,i64 ms.length,i64 i,s13,s14,s15,s16,s17,s18,s19,s20,s21,s22,s23,s24,s25,s26,s27,s28,s29,s30,s31,s32,s33,s34,s35,s36,s37,s38,s39,s40,s41,s42,s43] (K ++ [.cells m.cells 75,.cells [str (sgnS m.op),fv] 150]) := by
    intro fv s1 s2 s5 s8 s9 s13 s14 s15 s16 s17 s18 s19 s20 s21 s22 s23 s24 s25 s26 s27 s28 s29 s30 s31 s32 s33 s34 s35 s36 s37 s38 s39 s40 s41 s42 s43
    refine mp_tail (H := H) (ms := ms) (mb := mb) (lo := lo) (i := i) (m := m) (fv := fv) (htm m (List.mem_of_getElem? hb)) (by omega) (acc := (ms.take i).map matS) (hp.more _) hH (get_more hmap) hmb (by simp; omega) (by simp) (by simp) hg.app (by simp; omega) (fun K' pv' s1 s2 s5 s6 s7 s8 s9 s13 s14 s15 s16 s17 s18 s19 s20 s21 s22 s23 s24 s25 s26 s27 s28 s29 s30 s31 s32 s33 s34 s35 s36 s37 s38 s39 s40 s41 s42 s43 a1 a2 a3 a4 => ?_) _ _ _ _ _ _ _ _ _ _ _ _ _ _ _ _ _ _ _ _ _ _ _ _ _ _ _ _ _ _ _ _ _ _ _ _
    refine ih (i + 1) K' pv' _ _ _ _ _ _ _ _ _ _ _ _ _ _ _ _ _ _ _ _ _ _ _ _ _ _ _ _ _ _ _ _ _ _ _ _ _ _ (by rw [← List.drop_drop,hd]; rfl) hlt a1 a2 a3 ?_
    rw [List.take_add_one,hb]
    simpa using a4
   rw [List.length_cons,L72x0q]
   simp only [Mat.cells] at hlook hgo
   simp [hlt,hp1,hp2,Mat.cells,-aLookup_map,hlook,opF_one]
   refine kifB_bool (fun h => ?_) (fun h => ?_)
   · have hno : isOp m.op = false := by simpa using h
     have hlook2 := opsLookE (K := K ++ [.cells [str m.name,.int .u8 m.op,str m.value] 75,.cells [str (opS m.op),opF m.op] 150]) (mb := mb) (get_more hmap)
     simp [-aLookup_map,hlook2,opF_one]
     have := hgo (opF 0)
     simp only [sgnS,hno,Bool.false_eq_true,if_false] at this
     exact this _ _ _ _ _ _ _ _ _ _ _ _ _ _ _ _ _ _ _ _ _ _ _ _ _ _ _ _ _ _ _ _ _ _ _ _
   · have hyes : isOp m.op = true := by simpa using h
     have := hgo (opF m.op)
     simp only [sgnS,hyes,if_true] at this
     exact this _ _ _ _ _ _ _ _ _ _ _ _ _ _ _ _ _ _ _ _ _ _ _ _ _ _ _ _ _ _ _ _ _ _ _ _
theorem c_matPrint {H : AHeap} {v : Value} {ms : List Mat} (hm : MatsAt H v ms) (htm : ∀ m ∈ ms,m.tame) (hml : ms.length ≤ 2 ^ 20) : ACalls prog 72 [v] H (str (selS ms)) H := by
 refine acalls_pure MixT func72 (by decide) rfl ?_
 rw [d72]
 refine bndC_of (c_matOps H) ?_
 have hlen := (hm.pre (.app H [.map opsMap])).len (P := prog) (T := 35) (e := 75) (by simp)
 simp at hlen
 simp [hlen]
 exact ⟨ms.length + 1,mp_loop (H := H) (ms := ms) (mb := H.length) (lo := H.length + 1) hm htm hml (by omega) (by omega) (fun K p => ⟨rfl,p⟩) ms 0 _ (.slice none 0 0) _ _ _ _ _ _ _ _ _ _ _ _ _ _ _ _ _ _ _ _ _ _ _ _ _ _ _ _ _ _ _ _ _ _ _ _ _ _ rfl (by omega) (.app _ _) (by simp) (by simp) .nil⟩
end Go.Vi
namespace Go.Vi
open Go Go.Proofs Go.Proofs.Tryz
def strongI (k : UInt8) : Int := if k = 2 then 0 else if k = 1 then 1 else if k = 3 then 2 else if k = 0 then 3 else 0
def leafS (n : Nod) : List UInt8 := aggs.getD n.agg.toNat [] ++ [40] ++ selS n.sel ++ [91] ++ fmtS n.window ++ [93,41,32] ++ cmps.getD n.cmp.toNat [] ++ [32] ++ fixS n.value
def txtF (ns : List Nod) : Nat → Nat → Int → List UInt8
 | 0,_,_ => []
 | f + 1, e, least => match ns[e]? with
   | none => []
   | some n =>
     let s := if n.kind = 0 then leafS n
      else if n.kind = 3 then [110,111,116,32] ++ txtF ns f n.left.toNat 2
      else if n.kind = 1 then txtF ns f n.left.toNat 1 ++ [32,97,110,100,32] ++ txtF ns f n.right.toNat 2
      else if n.kind = 2 then txtF ns f n.left.toNat 0 ++ [32,111,114,32] ++ txtF ns f n.right.toNat 1
      else []
     if strongI n.kind < least then [40] ++ s ++ [41] else s
theorem c_strong {H : AHeap} {n : Nod} {sv : Value} (hs : sv.oneCell' = true) : ACalls prog 75 [.agg (n.cells sv).toArray] H (i64 (strongI n.kind)) H := by
 refine acalls_pure MixT func75 (by decide) rfl ?_
 rw [d75]
 simp [aNew_agg,Nod.cells,hs,keyOk,mOk,mput,mfind,keyEq]
 generalize n.kind = q
 by_cases h2 : q = 2
 · subst h2; simp [mget,mfind,keyEq,strongI]
 by_cases h1 : q = 1
 · subst h1; simp [mget,mfind,keyEq,strongI]
 by_cases h3 : q = 3
 · subst h3; simp [mget,mfind,keyEq,strongI]
 by_cases h0 : q = 0
 · subst h0; simp [mget,mfind,keyEq,strongI]
 have e : ∀ m : UInt8,q ≠ m → ¬ (q.toNat : Int) = m.toNat := fun m hm e => hm (UInt8.toNat_inj.1 (by omega))
 have e2 := e 2 h2
 have e1 := e 1 h1
 have e3 := e 3 h3
 have e0 := e 0 h0
 simp at e2 e1 e3 e0
 simp [mget,mfind,keyEq,strongI,e2,e1,e3,e0,h2,h1,h3,h0,cok,isLit]
theorem aggs_at {i : Nat} (h : i < 6) : aggs[i]? = some (aggs.getD i []) := by
 simp only [List.getD]
 rw [List.getElem?_eq_getElem (by simpa [aggs] using h)]; rfl
theorem cmps_at {i : Nat} (h : i < 6) : cmps[i]? = some (cmps.getD i []) := by
 simp only [List.getD]
 rw [List.getElem?_eq_getElem (by simpa [cmps] using h)]; rfl
def WF (ns : List Nod) : Nat → Nat → Prop
 | 0,_ => False
 | f + 1, e => ∃ n, ns[e]? = some n ∧ (n.kind = 0 → n.agg.toNat < 6 ∧ n.cmp.toNat < 6 ∧ -9223372036854775808 ≤ n.window ∧ n.window < 9223372036854775808 ∧ (∀ m ∈ n.sel, m.tame) ∧ n.sel.length ≤ 2 ^ 20 ∧ (leafS n).length ≤ 2 ^ 10) ∧
     (n.kind = 3 → ∃ a : Nat,n.left = a ∧ WF ns f a) ∧ (n.kind = 1 ∨ n.kind = 2 → (∃ a : Nat,n.left = a ∧ WF ns f a) ∧ ∃ b : Nat,n.right = b ∧ WF ns f b)
theorem txt_len (ns : List Nod) : ∀ (f e : Nat) (least : Int),WF ns f e → (txtF ns f e least).length + 8 ≤ 2 ^ (f + 10) := by
 intro f
 induction f with
 | zero => intro e least h; exact h.elim
 | succ f ih =>
   intro e least h
   obtain ⟨n,h1,h2,h3,h4⟩ := h
   have hp : 2 ^ (f + 1 + 10) = 2 * 2 ^ (f + 10) := by rw [show f + 1 + 10 = (f + 10) + 1 by omega,Nat.pow_succ]; omega
   have hq : 2 ^ 10 ≤ 2 ^ (f + 10) := Nat.pow_le_pow_right (by omega) (by omega)
   have key : ∀ s : List UInt8,s.length + 10 ≤ 2 ^ (f + 1 + 10) → (if strongI n.kind < least then [40] ++ s ++ [41] else s).length + 8 ≤ 2 ^ (f + 1 + 10) := by
    intro s hs
    split
    · simp; omega
    · omega
   rw [txtF,h1]
   refine key _ ?_
   split
   · rename_i k; have := (h2 k).2.2.2.2.2.2; omega
   · split
     · rename_i k
       obtain ⟨a,e1,e2⟩ := h3 k
       have := ih _ 2 e2
       rw [e1]
       simp
       omega
     · split
       · rename_i k
         obtain ⟨⟨a,e1,e2⟩,b,e3,e4⟩ := h4 (.inl k)
         have a1 := ih _ 1 e2
         have a2 := ih _ 2 e4
         rw [e1,e3]
         simp
         omega
       · split
         · rename_i k
           obtain ⟨⟨a,e1,e2⟩,b,e3,e4⟩ := h4 (.inr k)
           have a1 := ih _ 0 e2
           have a2 := ih _ 1 e4
           rw [e1,e3]
           simp
           omega
         · simp; omega
theorem row_str {K : AHeap} {b i : Nat} {l : List (List UInt8)} {s : List UInt8} {k : IntKind} (hb : hcells K b = some (l.map str)) (hi : l[i]? = some s) :
  ∃ p,aIndexAddr prog K 42 (.slice (some ⟨b,0,some l.length⟩) l.length l.length) (.int k i) = some p ∧ aLoad prog K 9 p = some (str s) := by
 have hl : hlen K b = some l.length := by rw [hcells_len hb]; simp
 have hlt := (List.getElem?_eq_some_iff.1 hi).1
 refine ⟨.pointer (some ⟨b,i,some l.length⟩),?_,?_⟩
 · rw [aIndexAddr_sl]
   simp [hl,slElem]
   omega
 · simp [hb,hi]
theorem c_exprText {ns : List Nod} {H : AHeap} {v : Value} (hg : Pw H) (hn : NodesAt H v ns) : ∀ (f e : Nat) (least : Int),f ≤ 40 → WF ns f e → ∀ K : AHeap,Pre H K → ACalls prog 43 [v,i64 e,i64 least] K (str (txtF ns f e least)) K := by
 intro f
 induction f with
 | zero => intro e least _ h; exact h.elim
 | succ f ih =>
   intro e least hf hw K hpK
   have htl := txt_len ns (f + 1) e
   obtain ⟨n,h1,h2,h3,h4⟩ := id hw
   obtain ⟨cl,ha,hcl,hc⟩ := hn.pre hpK
   obtain ⟨sv,hsv,hm,hml⟩ := hc _ _ h1
   obtain ⟨p,hp1,hp2⟩ := ha.load (P := prog) (T := 27) (te := 37) (i := e) (e := n.cells sv) (by simp) (by simp) (by simp) hsv
   have hone := hm.one
   refine acalls_pure MixT func43 (by decide) rfl ?_
   generalize hk0 : (fun u H2 => u = str (txtF ns (f + 1) e least) ∧ ∃ Y,H2 = K ++ Y) = k
   have hk : ∀ M,Pre K M → k (str (txtF ns (f + 1) e least)) M := fun M p => by rw [← hk0]; exact ⟨rfl,p⟩
   rw [d43]
   have hpow : 2 ^ (f + 1 + 10) ≤ 2 ^ 52 := Nat.pow_le_pow_right (by omega) (by omega)
   have hpow2 : 2 ^ (f + 10) ≤ 2 ^ 51 := Nat.pow_le_pow_right (by omega) (by omega)
   have hpM : Pre K (K ++ [.cells (n.cells sv) 37]) := .app _ _
   have hcM : hcells (K ++ [.cells (n.cells sv) 37]) K.length = some (n.cells sv) := by simp
   have hfin : ∀ (N : AHeap) (s : List UInt8) (s0 s1 s3 s4 s5 s6 s9 s10 s11 s12 s13 s14 s15 s16 s17 s18 s19 s20 s21 s22 s23 s24 s25 s26 s27 s28 s29 s30 s31 s32 s33 s34 s35 s36 s37 s38 s39 s40 s41 s42 s43 s44 s45 s46 s47 s48 s49 s50 s51 s52 s53 s54 s55 s56 s57 s58 s59 s60 s61 s62 s63 s64 s65 s66 s67 s68 s69 s70 s71 s72 s73 s74 s75 s76 s77 s78 s79 s80 s81 s82 : Value),Pre (K ++ [.cells (n.cells sv) 37]) N → s.length ≤ 2 ^ 60 → txtF ns (f + 1) e least = (if strongI n.kind < least then [40] ++ s ++ [41] else s) →
     S43x0 k [s0,s1,i64 least,s3,s4,s5,s6,.pointer (some ⟨K.length,0,some 8⟩),str s,s9,s10,s11,s12,s13,s14,s15,s16,s17,s18,s19,s20,s21,s22,s23,s24,s25,s26,s27,s28,s29,s30,s31,s32,s33,s34,s35,s36,s37,s38,s39,s40,s41,s42,s43,s44,s45,s46,s47,s48,s49,s50,s51,s52,s53,s54,s55,s56,s57,s58,s59,s60,s61,s62,s63,s64,s65,s66,s67,s68,s69,s70,s71,s72,s73,s74,s75,s76,s77,s78,s79,s80,s81,s82] N := by
    intro N s s0 s1 s3 s4 s5 s6 s9 s10 s11 s12 s13 s14 s15 s16 s17 s18 s19 s20 s21 s22 s23 s24 s25 s26 s27 s28 s29 s30 s31 s32 s33 s34 s35 s36 s37 s38 s39 s40 s41 s42 s43 s44 s45 s46 s47 s48 s49 s50 s51 s52 s53 s54 s55 s56 s57 s58 s59 s60 s61 s62 s63 s64 s65 s66 s67 s68 s69 s70 s71 s72 s73 s74 s75 s76 s77 s78 s79 s80 s81 s82 hN hs ht
    rw [S43x0q]
    rw [ht] at hk
    clear ht hw h2 h3 h4 ih hsv hp2 hk0 htl
    replace hcM := hN.hcells hcM
    replace hpM := hpM.trans hN
    clear hN
    generalize N = M at hcM hpM ⊢
    simp only [Nod.cells] at hcM
    simp [hcM]
    have hst := c_strong (H := M) (n := n) (sv := sv) hone
    simp only [Nod.cells] at hst
    refine bndC_of hst ?_
    simp
    refine kifB_bool (fun h => ?_) (fun h => ?_)
    · have hl : strongI n.kind < least := by simpa using h
      rw [if_pos hl] at hk
      have c1 : ∀ X Y,aBin2 prog M .add 9 X Y (.string ⟨#[40]⟩) (str s) = some (str (40 :: s)) := fun X Y => aBin_str (a := [40]) (b := s) (by simp; omega)
      have c2 : ∀ X Y,aBin2 prog M .add 9 X Y (str (40 :: s)) (.string ⟨#[41]⟩) = some (str (40 :: s ++ [41])) := fun X Y => aBin_str (a := 40 :: s) (b := [41]) (by simp; omega)
      simp [c1,c2]
      exact hk M hpM
    · have hl : ¬ strongI n.kind < least := by simpa using h
      rw [if_neg hl] at hk
      exact hk M hpM
   generalize hM : K ++ [AObj.cells (n.cells sv) 37] = M at hcM hpM hfin
   have hpHM := hpK.trans hpM
   simp only [Nod.cells] at hcM hM
   have hlM : hlen M K.length = some 8 := by rw [hcells_len hcM]; rfl
   simp [hp1,hp2,Nod.cells,hone,hM,hcM,hlM]
   by_cases k0 : n.kind = 0
   · obtain ⟨g1,g2,g3,g4,g5,g6,g7⟩ := h2 k0
     have e0 : (n.kind.toNat : Int) = 0 := by rw [k0]; rfl
     have hts : txtF ns (f + 1) e least = if strongI n.kind < least then [40] ++ leafS n ++ [41] else leafS n := by rw [txtF,h1]; simp only [k0,if_true]
     have hgo : ∀ (N : AHeap) (s : List UInt8) (s0 s1 s3 s4 s5 s6 s9 s10 s11 s12 s13 s14 s15 s16 s17 s18 s19 s20 s21 s22 s23 s24 s25 s26 s27 s28 s29 s30 s31 s32 s33 s34 s35 s36 s37 s38 s39 s40 s41 s42 s43 s44 s45 s46 s47 s48 s49 s50 s51 s52 s53 s54 s55 s56 s57 s58 s59 s60 s61 s62 s63 s64 s65 s66 s67 s68 s69 s70 s71 s72 s73 s74 s75 s76 s77 s78 s79 s80 s81 s82 : Value),Pre M N → s = leafS n → S43x0 k [s0,s1,i64 least,s3,s4,s5,s6,.pointer (some ⟨K.length,0,some 8⟩),str s,s9,s10,s11,s12,s13,s14,s15,s16,s17,s18,s19,s20,s21,s22,s23,s24,s25,s26,s27,s28,s29,s30,s31,s32,s33,s34,s35,s36,s37,s38,s39,s40,s41,s42,s43,s44,s45,s46,s47,s48,s49,s50,s51,s52,s53,s54,s55,s56,s57,s58,s59,s60,s61,s62,s63,s64,s65,s66,s67,s68,s69,s70,s71,s72,s73,s74,s75,s76,s77,s78,s79,s80,s81,s82] N := fun N s s0 s1 s3 s4 s5 s6 s9 s10 s11 s12 s13 s14 s15 s16 s17 s18 s19 s20 s21 s22 s23 s24 s25 s26 s27 s28 s29 s30 s31 s32 s33 s34 s35 s36 s37 s38 s39 s40 s41 s42 s43 s44 s45 s46 s47 s48 s49 s50 s51 s52 s53 s54 s55 s56 s57 s58 s59 s60 s61 s62 s63 s64 s65 s66 s67 s68 s69 s70 s71 s72 s73 s74 s75 s76 s77 s78 s79 s80 s81 s82 a b => hfin N s _ _ _ _ _ _ _ _ _ _ _ _ _ _ _ _ _ _ _ _ _ _ _ _ _ _ _ _ _ _ _ _ _ _ _ _ _ _ _ _ _ _ _ _ _ _ _ _ _ _ _ _ _ _ _ _ _ _ _ _ _ _ _ _ _ _ _ _ _ _ _ _ _ _ _ _ _ _ _ _ a (by subst b; omega) (by rw [hts,b])
     simp only [leafS,List.length_append,List.length_cons,List.length_nil] at g7
     simp only [leafS] at hgo
     clear hfin ih h3 h4 htl hw
     generalize hA : aggs.getD n.agg.toNat [] = A at g7 hgo
     generalize hC : cmps.getD n.cmp.toNat [] = C at g7 hgo
     have hA' : aggs[n.agg.toNat]? = some A := by rw [← hA]; exact aggs_at g1
     have hC' : cmps[n.cmp.toNat]? = some C := by rw [← hC]; exact cmps_at g2
     simp [e0]
     refine bndD_of (c_aggregates M) (.inr ⟨_,rfl⟩) ?_
     obtain ⟨p1,a1,a2⟩ := row_str (K := M ++ [.cells (aggs.map str) 9]) (b := M.length) (l := aggs) (k := .u8) (by simp) hA'
     simp only [show aggs.length = 6 from rfl] at a1
     simp [hlM,hcM,a1,a2]
     generalize hM1 : M ++ [AObj.cells (aggs.map str) 9] = M1
     have hpM1 : Pre M M1 := by rw [← hM1]; exact .app _ _
     clear hM1 a1 a2 hA' hA hC
     have hmp := c_matPrint ((hm.pre hpM).pre hpM1) g5 g6
     have hit := c_itoa (H := M1) ((hg.trans hpHM).trans hpM1) g3 g4
     generalize selS n.sel = S at g7 hgo hmp
     generalize fmtS n.window = W at g7 hgo hit
     refine bnd_of (aBin_str (b := [40]) (by simp; omega)) ?_
     simp [hlM,hcM]
     refine bndD_same hmp ?_
     dsimp only
     refine bnd_of (aBin_str (b := S) (by simp; omega)) ?_
     dsimp only
     refine bnd_of (aBin_str (b := [91]) (by simp; omega)) ?_
     simp [hlM,hcM]
     refine bndD_same hit ?_
     dsimp only
     refine bnd_of (aBin_str (b := W) (by simp; omega)) ?_
     dsimp only
     refine bnd_of (aBin_str (b := [93,41,32]) (by simp; omega)) ?_
     dsimp only
     refine bndD_of (c_compares M1) (.inr ⟨_,rfl⟩) ?_
     obtain ⟨p2,b1,b2⟩ := row_str (K := M1 ++ [.cells (cmps.map str) 9]) (b := M1.length) (l := cmps) (k := .u8) (by simp) hC'
     simp only [show cmps.length = 6 from rfl] at b1
     simp [hlM,hcM,b1,b2]
     have hfx := c_fixPrint (H := M1 ++ [.cells (cmps.map str) 9]) (((hg.trans hpHM).trans hpM1).more _) (x := n.value)
     have hpM2 : Pre M (M1 ++ [.cells (cmps.map str) 9]) := hpM1.more _
     clear b1 b2 hmp hit
     generalize M1 ++ [AObj.cells (cmps.map str) 9] = M2 at hfx hpM2 ⊢
     generalize fixS n.value = X at g7 hgo hfx
     refine bnd_of (aBin_str (b := C) (by simp; omega)) ?_
     dsimp only
     refine bnd_of (aBin_str (b := [32]) (by simp; omega)) ?_
     simp [hlM,hcM]
     refine bndD_same hfx ?_
     dsimp only
     refine bnd_of (aBin_str (b := X) (by simp; omega)) ?_
     dsimp only
     exact hgo M2 _ _ _ _ _ _ _ _ _ _ _ _ _ _ _ _ _ _ _ _ _ _ _ _ _ _ _ _ _ _ _ _ _ _ _ _ _ _ _ _ _ _ _ _ _ _ _ _ _ _ _ _ _ _ _ _ _ _ _ _ _ _ _ _ _ _ _ _ _ _ _ _ _ _ _ _ _ _ _ _ _ hpM2 (by simp)
   · have hkn : ∀ m : UInt8,n.kind ≠ m → ¬ (n.kind.toNat : Int) = m.toNat := fun m hm e => hm (UInt8.toNat_inj.1 (by omega))
     have e0 : ¬ (n.kind.toNat : Int) = 0 := by simpa using hkn 0 k0
     have e0b : ((n.kind.toNat : Int) == 0) = false := by simpa using e0
     have hgo : ∀ (N : AHeap) (s : List UInt8) (s0 s1 s3 s4 s5 s6 s9 s10 s11 s12 s13 s14 s15 s16 s17 s18 s19 s20 s21 s22 s23 s24 s25 s26 s27 s28 s29 s30 s31 s32 s33 s34 s35 s36 s37 s38 s39 s40 s41 s42 s43 s44 s45 s46 s47 s48 s49 s50 s51 s52 s53 s54 s55 s56 s57 s58 s59 s60 s61 s62 s63 s64 s65 s66 s67 s68 s69 s70 s71 s72 s73 s74 s75 s76 s77 s78 s79 s80 s81 s82 : Value),Pre M N → s.length ≤ 2 ^ 60 → (txtF ns (f + 1) e least = if strongI n.kind < least then [40] ++ s ++ [41] else s) → S43x0 k [s0,s1,i64 least,s3,s4,s5,s6,.pointer (some ⟨K.length,0,some 8⟩),str s,s9,s10,s11,s12,s13,s14,s15,s16,s17,s18,s19,s20,s21,s22,s23,s24,s25,s26,s27,s28,s29,s30,s31,s32,s33,s34,s35,s36,s37,s38,s39,s40,s41,s42,s43,s44,s45,s46,s47,s48,s49,s50,s51,s52,s53,s54,s55,s56,s57,s58,s59,s60,s61,s62,s63,s64,s65,s66,s67,s68,s69,s70,s71,s72,s73,s74,s75,s76,s77,s78,s79,s80,s81,s82] N := fun N s s0 s1 s3 s4 s5 s6 s9 s10 s11 s12 s13 s14 s15 s16 s17 s18 s19 s20 s21 s22 s23 s24 s25 s26 s27 s28 s29 s30 s31 s32 s33 s34 s35 s36 s37 s38 s39 s40 s41 s42 s43 s44 s45 s46 s47 s48 s49 s50 s51 s52 s53 s54 s55 s56 s57 s58 s59 s60 s61 s62 s63 s64 s65 s66 s67 s68 s69 s70 s71 s72 s73 s74 s75 s76 s77 s78 s79 s80 s81 s82 a b c => hfin N s _ _ _ _ _ _ _ _ _ _ _ _ _ _ _ _ _ _ _ _ _ _ _ _ _ _ _ _ _ _ _ _ _ _ _ _ _ _ _ _ _ _ _ _ _ _ _ _ _ _ _ _ _ _ _ _ _ _ _ _ _ _ _ _ _ _ _ _ _ _ _ _ _ _ _ _ _ _ _ _ a b c
     have htx : txtF ns (f + 1) e least = (let s := (if n.kind = 3 then [110,111,116,32] ++ txtF ns f n.left.toNat 2 else if n.kind = 1 then txtF ns f n.left.toNat 1 ++ [32,97,110,100,32] ++ txtF ns f n.right.toNat 2 else if n.kind = 2 then txtF ns f n.left.toNat 0 ++ [32,111,114,32] ++ txtF ns f n.right.toNat 1 else []); (if strongI n.kind < least then [40] ++ s ++ [41] else s)) := by rw [txtF,h1]; simp only [k0,if_false]
     dsimp only at htx
     by_cases k3 : n.kind = 3
     · obtain ⟨a,l1,l2⟩ := h3 k3
       have e3 : (n.kind.toNat : Int) = 3 := by rw [k3]; rfl
       rw [if_pos k3,l1,Int.toNat_natCast] at htx
       have hl := txt_len ns f a 2 l2
       have hcall := ih a 2 (by omega) l2 M hpHM
       generalize txtF ns f a 2 = T at htx hl hcall
       simp [e3,hlM,hcM,l1]
       refine bndC_of hcall ?_
       refine bnd_of (v := str ([110,111,116,32] ++ T)) (aBin_str (a := [110,111,116,32]) (b := T) (by simp; omega)) ?_
       dsimp only
       exact hgo M _ _ _ _ _ _ _ _ _ _ _ _ _ _ _ _ _ _ _ _ _ _ _ _ _ _ _ _ _ _ _ _ _ _ _ _ _ _ _ _ _ _ _ _ _ _ _ _ _ _ _ _ _ _ _ _ _ _ _ _ _ _ _ _ _ _ _ _ _ _ _ _ _ _ _ _ _ _ _ _ _ (.refl _) (by simp; omega) htx
     · have e3 : ¬ (n.kind.toNat : Int) = 3 := by simpa using hkn 3 k3
       have e3b : ((n.kind.toNat : Int) == 3) = false := by simpa using e3
       rw [if_neg k3] at htx
       by_cases k1 : n.kind = 1
       · obtain ⟨⟨a,l1,l2⟩,b,r1,r2⟩ := h4 (.inl k1)
         have e1 : (n.kind.toNat : Int) = 1 := by rw [k1]; rfl
         rw [if_pos k1,l1,r1,Int.toNat_natCast,Int.toNat_natCast] at htx
         have hl := txt_len ns f a 1 l2
         have hr := txt_len ns f b 2 r2
         have hcl1 := ih a 1 (by omega) l2 M hpHM
         have hcl2 := ih b 2 (by omega) r2 M hpHM
         generalize txtF ns f a 1 = T at htx hl hcl1
         generalize txtF ns f b 2 = U at htx hr hcl2
         simp [e1,hlM,hcM,l1]
         refine bndD_same hcl1 ?_
         dsimp only
         refine bnd_of (aBin_str (b := [32,97,110,100,32]) (by simp; omega)) ?_
         simp [hlM,hcM,r1]
         refine bndD_same hcl2 ?_
         dsimp only
         refine bnd_of (aBin_str (b := U) (by simp; omega)) ?_
         dsimp only
         exact hgo M _ _ _ _ _ _ _ _ _ _ _ _ _ _ _ _ _ _ _ _ _ _ _ _ _ _ _ _ _ _ _ _ _ _ _ _ _ _ _ _ _ _ _ _ _ _ _ _ _ _ _ _ _ _ _ _ _ _ _ _ _ _ _ _ _ _ _ _ _ _ _ _ _ _ _ _ _ _ _ _ _ (.refl _) (by simp; omega) (by rw [htx])
       · have e1 : ¬ (n.kind.toNat : Int) = 1 := by simpa using hkn 1 k1
         have e1b : ((n.kind.toNat : Int) == 1) = false := by simpa using e1
         rw [if_neg k1] at htx
         by_cases k2 : n.kind = 2
         · obtain ⟨⟨a,l1,l2⟩,b,r1,r2⟩ := h4 (.inr k2)
           have e2 : (n.kind.toNat : Int) = 2 := by rw [k2]; rfl
           rw [if_pos k2,l1,r1,Int.toNat_natCast,Int.toNat_natCast] at htx
           have hl := txt_len ns f a 0 l2
           have hr := txt_len ns f b 1 r2
           have hcl1 := ih a 0 (by omega) l2 M hpHM
           have hcl2 := ih b 1 (by omega) r2 M hpHM
           generalize txtF ns f a 0 = T at htx hl hcl1
           generalize txtF ns f b 1 = U at htx hr hcl2
           simp [e2,hlM,hcM,l1]
           refine bndD_same hcl1 ?_
           dsimp only
           refine bnd_of (aBin_str (b := [32,111,114,32]) (by simp; omega)) ?_
           simp [hlM,hcM,r1]
           refine bndD_same hcl2 ?_
           dsimp only
           refine bnd_of (aBin_str (b := U) (by simp; omega)) ?_
           dsimp only
           exact hgo M _ _ _ _ _ _ _ _ _ _ _ _ _ _ _ _ _ _ _ _ _ _ _ _ _ _ _ _ _ _ _ _ _ _ _ _ _ _ _ _ _ _ _ _ _ _ _ _ _ _ _ _ _ _ _ _ _ _ _ _ _ _ _ _ _ _ _ _ _ _ _ _ _ _ _ _ _ _ _ _ _ (.refl _) (by simp; omega) (by rw [htx])
         · have e2 : ¬ (n.kind.toNat : Int) = 2 := by simpa using hkn 2 k2
           have e2b : ((n.kind.toNat : Int) == 2) = false := by simpa using e2
           rw [if_neg k2] at htx
           simp [e0b,e1b,e2b,e3b]
           exact hgo M [] _ _ _ _ _ _ _ _ _ _ _ _ _ _ _ _ _ _ _ _ _ _ _ _ _ _ _ _ _ _ _ _ _ _ _ _ _ _ _ _ _ _ _ _ _ _ _ _ _ _ _ _ _ _ _ _ _ _ _ _ _ _ _ _ _ _ _ _ _ _ _ _ _ _ _ _ _ _ _ _ (.refl _) (by simp) htx
end Go.Vi
namespace Go.Vi
open Go Go.Proofs Go.Proofs.Tryz
theorem ok_len {m : Mat} (h : m.ok = true) : m.tame ∧ (matS m).length ≤ 84 := by
 unfold Mat.ok mayName mayM mayValue at h
 simp only [Bool.and_eq_true,Bool.or_eq_true,decide_eq_true_eq] at h
 obtain ⟨⟨_,⟨⟨_,h1⟩,_⟩,_⟩,h2⟩ := h
 have h3 : m.value.length ≤ 32 := by
  rcases h2 with h2 | h2
  · rw [h2]; simp
  · exact h2.1.2
 have h4 := sgnS_len m.op
 have h5 := quoteS_len m.value
 refine ⟨⟨by omega,by omega⟩,?_⟩
 simp only [matS,List.length_append]
 omega
theorem sel_small {ms : List Mat} (h : mayMats ms = true) : (∀ m ∈ ms,m.tame) ∧ ms.length ≤ 6 ∧ (selS ms).length ≤ 512 := by
 unfold mayMats at h
 simp only [Bool.and_eq_true,List.all_eq_true,decide_eq_true_eq] at h
 obtain ⟨h1,h2⟩ := h
 refine ⟨fun m hm => (ok_len (h1 m hm)).1,h2,?_⟩
 have h3 : (joinS [44] (ms.map matS)).length ≤ 510 := by
  cases h : ms.map matS with
  | nil => simp [joinS]
  | cons a r =>
    rw [join_len]
    have hall : ∀ x ∈ a :: r,x.length ≤ 84 := by
     rw [← h]
     intro x hx
     obtain ⟨m,hm1,rfl⟩ := List.mem_map.1 hx
     exact (ok_len (h1 m hm1)).2
    have h4 := sumL_le _ hall
    have h5 : (a :: r).length ≤ 6 := by rw [← h]; simpa using h2
    simp at h5 h4 ⊢
    omega
 simp [selS]
 omega
theorem fixS_len (x : Int) : (fixS x).length ≤ 42 := by
 have hb : -4611686018427387903 ≤ sat x ∧ sat x ≤ 4611686018427387903 := by unfold sat maxFix; omega
 unfold fixS
 rw [fmtS_nat,fmtS_nat]
 have l1 := natS_len (n := (sat x).natAbs / 1000) (by omega)
 have l2 := natS_len (n := 1000 + (sat x).natAbs % 1000) (by omega)
 have l3 := trimR_len 48 ((natS (1000 + (sat x).natAbs % 1000)).drop 1)
 simp only [List.length_drop] at l3
 have l4 : (if sat x < 0 then [45] else ([] : List UInt8)).length ≤ 1 := by split <;> simp
 have l5 : (if (sat x).natAbs % 1000 = 0 then [] else 46 :: trimR 48 ((natS (1000 + (sat x).natAbs % 1000)).drop 1)).length ≤ 21 := by
  split
  · simp
  · simp only [List.length_cons]; omega
 rw [List.length_append,List.length_append]
 omega
theorem getD_len {l : List (List UInt8)} {i c : Nat} (h : ∀ x ∈ l,x.length ≤ c) : (l.getD i []).length ≤ c := by
 simp only [List.getD]
 cases hi : l[i]? with
 | none => simp
 | some s => exact h s (List.mem_of_getElem? hi)
theorem plain_leaf {n : Nod} (h : n.plain = true) : n.agg.toNat < 6 ∧ n.cmp.toNat < 6 ∧ -9223372036854775808 ≤ n.window ∧ n.window < 9223372036854775808 ∧ (∀ m ∈ n.sel,m.tame) ∧ n.sel.length ≤ 2 ^ 20 ∧ (leafS n).length ≤ 2 ^ 10 := by
 unfold Nod.plain at h
 simp only [Bool.and_eq_true,decide_eq_true_eq] at h
 obtain ⟨⟨⟨⟨⟨⟨⟨h1,h2⟩,h3⟩,h4⟩,h5⟩,_⟩,_⟩,_⟩ := h
 obtain ⟨s1,s2,s3⟩ := sel_small h2
 refine ⟨by omega,by omega,by omega,by omega,s1,by omega,?_⟩
 have a1 : (aggs.getD n.agg.toNat []).length ≤ 5 := getD_len (by decide)
 have a2 : (cmps.getD n.cmp.toNat []).length ≤ 2 := getD_len (by decide)
 have a3 := fixS_len n.value
 have a4 : (fmtS n.window).length ≤ 20 := by
  obtain ⟨w,hw⟩ : ∃ w : Nat,n.window = w := ⟨n.window.toNat,by omega⟩
  rw [hw,fmtS_nat]
  exact natS_len (by omega)
 simp only [leafS,List.length_append,List.length_cons,List.length_nil]
 omega
theorem beg_WF (ns : List Nod) : ∀ (f : Nat) (e : Int),0 ≤ beg ns f e → ∃ a : Nat,e = a ∧ WF ns f a := by
 intro f
 induction f with
 | zero => intro e h; simp [beg] at h
 | succ f ih =>
   intro e h
   rw [beg] at h
   by_cases he : e < 0
   · rw [if_pos he] at h; omega
   rw [if_neg he] at h
   obtain ⟨a,rfl⟩ : ∃ a : Nat,e = a := ⟨e.toNat,by omega⟩
   refine ⟨a,rfl,?_⟩
   rw [Int.toNat_natCast] at h
   cases hn : ns[a]? with
   | none => rw [hn] at h; simp at h
   | some n =>
     rw [hn] at h
     simp only at h
     have kk : ∀ m : UInt8,n.kind = m → (n.kind.toNat : Int) = m.toNat := fun m hm => by rw [hm]
     refine ⟨n,hn,fun k => ?_,fun k => ?_,fun k => ?_⟩
     · have e0 : ((n.kind.toNat : Int) == 0) = true := by rw [kk 0 k]; rfl
       rw [if_pos e0] at h
       split at h
       · rename_i hp; exact plain_leaf hp
       · omega
     · have e0 : ¬ ((n.kind.toNat : Int) == 0) = true := by rw [kk 3 k]; decide
       have e3 : ((n.kind.toNat : Int) == 3) = true := by rw [kk 3 k]; rfl
       rw [if_neg e0,if_pos e3] at h
       split at h
       · rename_i hc
         simp only [Bool.and_eq_true,beq_iff_eq] at hc
         obtain ⟨b,hb1,hb2⟩ := ih _ h
         exact ⟨b,by omega,hb2⟩
       · omega
     · have e0 : ¬ ((n.kind.toNat : Int) == 0) = true := by rcases k with k | k <;> rw [kk _ k] <;> decide
       have e3 : ¬ ((n.kind.toNat : Int) == 3) = true := by rcases k with k | k <;> rw [kk _ k] <;> decide
       have e4 : (isAnd n || isOr n) = true := by
        unfold isAnd isOr
        rcases k with k | k <;> rw [kk _ k] <;> rfl
       rw [if_neg e0,if_neg e3,if_pos e4] at h
       split at h
       · rename_i hc
         simp only [Bool.and_eq_true,beq_iff_eq,decide_eq_true_eq] at hc
         obtain ⟨⟨⟨_,c1⟩,c2⟩,c3⟩ := hc
         obtain ⟨b,hb1,hb2⟩ := ih _ (show 0 ≤ beg ns f ((a : Int) - 1) by omega)
         obtain ⟨d,hd1,hd2⟩ := ih _ h
         exact ⟨⟨d,by omega,hd2⟩,b,by omega,hb2⟩
       · omega
def printS (ns : List Nod) : List UInt8 := if right ns = true then txtF ns ns.length (ns.length - 1) 0 else []
theorem right_WF {ns : List Nod} (h : right ns = true) : 1 ≤ ns.length ∧ ns.length ≤ 31 ∧ WF ns ns.length (ns.length - 1) := by
 unfold right at h
 simp only [Bool.and_eq_true,decide_eq_true_eq,beq_iff_eq] at h
 obtain ⟨⟨h1,h2⟩,h3⟩ := h
 obtain ⟨a,ha,hw⟩ := beg_WF ns _ _ (show 0 ≤ beg ns ns.length ((ns.length : Int) - 1) by omega)
 have : a = ns.length - 1 := by omega
 subst this
 exact ⟨by omega,by omega,hw⟩
theorem src_flat2 {z : Nat} {cs : List Value} : ∀ (l : List (List Value)) (o : Nat),(∀ (i : Nat) e,l[i]? = some e → (cs.drop (o + i * z)).take z = e) → (cs.drop o).take (l.length * z) = l.flatten := by
 intro l
 induction l with
 | nil => intro o _; simp
 | cons c r ih =>
   intro o h
   have h0 := h 0 c rfl
   have hr := ih (o + z) fun i e hi => by
    have := h (i + 1) e (by simpa using hi)
    rw [← this,Nat.add_mul,Nat.one_mul]; congr 2; omega
   rw [List.length_cons,Nat.add_mul,Nat.one_mul,Nat.add_comm,List.take_add,List.drop_drop,hr,List.flatten_cons]
   simpa using congrArg (· ++ r.flatten) h0
theorem Arr.srcOf {H z v l} (h : Arr H z v l) : aSrc H z v = some (l.length,l.flatten) := by
 cases h with
 | nil => rfl
 | mk b o m n c cs l hn hcs hm hle hel =>
   subst hn
   simp only [aSrc,hcs]
   rw [if_pos ⟨hm.symm,by omega⟩,src_flat2 l o hel]
theorem aBin_slnil {H : AHeap} {T e : TypeId} {x : Operand} {c : Value} {a : Addr} {n m : Nat} (h : prog.underlying T = some (.slice e)) : aBin2 prog H .eql T x (.const c) (.slice (some a) n m) (.slice none 0 0) = some (.bool false) := by
 apply aBin2_of
 simp [aBin,clos,isLit,notNil,h]
theorem nbl2 : isSeq prog 27 = true := by kernel_rfl
theorem c_cloneNodes {H : AHeap} {v : Value} {ns : List Nod} (hn : NodesAt H v ns) (h1 : 1 ≤ ns.length) (h2 : ns.length ≤ 2 ^ 20) : ∃ v' K',ACalls prog 42 [v] H v' K' ∧ Pre H K' ∧ NodesAt K' v' ns := by
 obtain ⟨v',K',⟨q1,q2⟩,q3⟩ : ∃ v' K',(Pre H K' ∧ NodesAt K' v' ns) ∧ ACalls prog 42 [v] H v' K' := by
  refine acalls_ex MixT func42 (by decide) ?_
  rw [d42]
  obtain ⟨cl,ha,hcl,hc⟩ := hn
  have hsrc := Arr.srcOf (ha.pre (.app H [.cells [] 37]))
  have hv : ∃ a n c,v = .slice (some a) n c := by
   cases ha with
   | nil => simp at hcl; omega
   | mk b o m n c cs l => exact ⟨_,_,_,rfl⟩
  obtain ⟨a,n,c,rfl⟩ := hv
  rw [aBin_slnil (e := 37) (by simp)]
  simp
  have hlit : sliceLit prog H 27 0 [] (.slice (some ⟨H.length,0,some 0⟩) 0 0) (H ++ [.cells [] 37]) := by
   refine ⟨rfl,(tbs27 H 0 []).trans ?_⟩
   simp [bslV,Instr.fill,repCells]
  refine bndL_lit hlit ?_
  have hel : ∀ x ∈ cl,x.length = 8 := by
   intro x hx
   obtain ⟨i,hi⟩ := List.getElem?_of_mem hx
   exact ha.elen hi
  have hne : cl ≠ [] := by rintro rfl; simp at hcl; omega
  have happ : aBuiltin prog (H ++ [.cells [] 37]) .append #[27,27] [.slice (some ⟨H.length,0,some 0⟩) 0 0,.slice (some a) n c] = some (.slice (some ⟨H.length,0,some (cl.length * 8)⟩) cl.length cl.length,H ++ [.cells cl.flatten 37]) := by
   have hl1 : 1 ≤ cl.length := by omega
   have e1 : cl.length * 72 ≤ 140737488355328 := by omega
   have e2 : cl.length ≤ 9223372036854775807 := by omega
   have e3 : ¬ cl.length = 0 := by omega
   simp [aBuiltin,aAppend,nbl2,hsrc,hne,e1,e2]
  dsimp only
  rw [happ]
  simp
  refine ⟨.app _ _,cl,(Gro.mk (K := H ++ [.cells cl.flatten 37]) (lo := 0) (z := 8) (T := 37) H.length cl (by omega) (by simp) hne hel).arr,hcl,fun i n hi => ?_⟩
  obtain ⟨sv,r1,r2,r3⟩ := hc i n hi
  exact ⟨sv,r1,r2.pre (.app _ _),r3⟩
 exact ⟨v',K',q3,q1,q2⟩
theorem c_exprPrint {H : AHeap} {v : Value} {ns : List Nod} (hg : Pw H) (hn : NodesAt H v ns) : ACalls prog 21 [v] H (str (printS ns)) H := by
 refine acalls_pure MixT func21 (by decide) rfl ?_
 rw [d21]
 refine bndC_of (c_right hn) ?_
 cases hr : right ns with
 | false =>
   have : printS ns = [] := by unfold printS; rw [hr]; rfl
   rw [this]
   simp
 | true =>
   have hp : printS ns = txtF ns ns.length (ns.length - 1) 0 := by unfold printS; rw [if_pos hr]
   obtain ⟨h1,h2,h3⟩ := right_WF hr
   obtain ⟨v',K',g1,g2,g3⟩ := c_cloneNodes hn h1 (by omega)
   simp
   refine bndC_of g1 ?_
   have hl := g3.len K'
   have hw : IntKind.i64.wrap ((ns.length : Int) - 1) = ((ns.length - 1 : Nat) : Int) := by rw [wrap_i64 (by omega) (by omega)]; omega
   simp [hl,hw]
   refine bndC_of (c_exprText (hg.trans g2) g3 ns.length (ns.length - 1) 0 (by omega) h3 K' (.refl _)) ?_
   rw [hp]
   exact ⟨rfl,g2⟩
end Go.Vi
namespace Go.Vi
open Go Go.Proofs
theorem Gro.weak {K lo lo' z T v cl} (h : Gro K lo z T v cl) (hl : lo' ≤ lo) : Gro K lo' z T v cl := by
 cases h with
 | nil => exact .nil
 | mk bb cl h1 h2 h3 h4 => exact .mk bb cl (by omega) h2 h3 h4
def takO (ts : List Tok) (k : Int) (s : List UInt8) (a : Nat) : Nat := if isT ts a k s = true then a + 1 else a
def signO (ts : List Tok) (s : List UInt8) (a : Nat) : Option Nat := if isT ts a 4 s = true then some (a + 1) else none
def tokK (ts : List Tok) (k : Int) (a : Nat) : Option (List UInt8) := (ts[a]?).bind fun t => if t.kind = k then some t.text else none
def idxS (l : List (List UInt8)) (s : List UInt8) : Nat := if s ∈ l then l.idxOf s else 0
def oneO (ts : List Tok) (k : Int) (l : List (List UInt8)) (a : Nat) : Option Nat := (tokK ts k a).bind fun s => if s ∈ l then some (a + 1) else none
end Go.Vi
namespace Go.Vi
open Go Go.Proofs
def NumTok (ts : List Tok) : Prop := ∀ (a : Nat) t,ts[a]? = some t → t.text.length < 2 ^ 20 ∧ (t.kind = 2 → (∀ b ∈ t.text,isDig b = true ∨ b = 46) ∧ ∀ b r,t.text = b :: r → isDig b = true)
def winO (ts : List Tok) (a : Nat) : Option (Int × Nat) := (tokK ts 2 a).bind fun s => (atoF s).bind fun n => if 1 ≤ n ∧ n ≤ 1000 then some (n,a + 1) else none
def valP (ts : List Tok) (a : Nat) : List UInt8 := if isT ts a 4 [45] = true then [45] else []
def valO (ts : List Tok) (a : Nat) : Option (Int × Nat) := (tokK ts 2 (takO ts 4 [45] a)).bind fun s => if (parF (valP ts a ++ s)).2 = 0 then some ((parF (valP ts a ++ s)).1,takO ts 4 [45] a + 1) else none
end Go.Vi
namespace Go.Vi
open Go Go.Proofs Go.Proofs.Tryz
def opsL : List (List UInt8) := [[61],[33,61],[94,61]]
theorem mael1 : aElem prog 35 = some (75,3,40) := by kernel_rfl
theorem mael2 : isSeq prog 35 = true := by kernel_rfl
def matO (ts : List Tok) (a : Nat) : Option (Mat × Nat) := (tokK ts 1 a).bind fun n => (tokK ts 4 (a + 1)).bind fun o => if o ∈ opsL then (tokK ts 3 (a + 2)).bind fun v => some (⟨n,idxS opsL o,v⟩,a + 3) else none
def selL (ts : List Tok) : Nat → Nat → List Mat → Option (List Mat × Nat)
 | 0,_,_ => none
 | f + 1,a,acc => (matO ts a).bind fun p => if isT ts p.2 4 [44] = true then selL ts f (p.2 + 1) (acc ++ [p.1]) else some (acc ++ [p.1],p.2)
def selE (ts : List Tok) (ms : List Mat) (a : Nat) : Option Nat := (signO ts [125] a).bind fun c => if mayMats ms = true then some c else none
def selO (ts : List Tok) (a : Nat) : Option (List Mat × Nat) := (signO ts [123] a).bind fun a1 =>
 if isT ts a1 4 [125] = true then some ([],a1 + 1) else (selL ts (ts.length + 1) a1 []).bind fun p => (selE ts p.1 p.2).map fun c => (p.1,c)
end Go.Vi
namespace Go.Vi
open Go Go.Proofs
def txtK (ts : List Tok) (k : Int) (a : Nat) : List UInt8 := (tokK ts k a).getD []
def cmpO (ts : List Tok) (a : Nat) : Option (Nod × Nat) := (oneO ts 1 aggs a).bind fun b1 => (signO ts [40] b1).bind fun b2 => (selO ts b2).bind fun p => (signO ts [91] p.2).bind fun b3 => (winO ts b3).bind fun w =>
 (signO ts [93] w.2).bind fun b4 => (signO ts [41] b4).bind fun b5 => (oneO ts 4 cmps b5).bind fun b6 => (valO ts b6).bind fun v =>
  some (⟨0,UInt8.ofNat (idxS aggs (txtK ts 1 a)),p.1,w.1,UInt8.ofNat (idxS cmps (txtK ts 4 b5)),v.1,0,0⟩,v.2)
theorem u8_of {n : Nat} (h : n < 256) : ((UInt8.ofNat n).toNat : Int) = n := by simp only [UInt8.toNat_ofNat']; omega
end Go.Vi
namespace Go.Vi
open Go Go.Proofs Go.Proofs.Tryz
def wordO (k : Nat) : List UInt8 := if k = 1 then [97,110,100] else [111,114]
def notS : List UInt8 := [110,111,116]
def opN (k : UInt8) (l r : Int) : Nod := ⟨k,0,[],0,0,0,l,r⟩
def kindK (k : Nat) : UInt8 := if k = 1 then 1 else 2
def strO (ts : List Tok) : Nat → Nat → Nat → List Nod → Option (Option (List Nod × Nat))
 | 0,_,_,_ => none
 | f + 1, m, a, l =>
   if m = 2 then
    if isT ts a 1 notS = true then (strO ts f 2 (a + 1) l).map fun r => r.map fun p => (p.1 ++ [opN 3 ((p.1.length : Int) - 1) 0],p.2)
    else if isT ts a 4 [40] = true then (strO ts f 0 (a + 1) l).map fun r => r.bind fun p => (signO ts [41] p.2).map fun c => (p.1,c)
    else some ((cmpO ts a).map fun p => (l ++ [p.1],p.2))
   else if m < 2 then (strO ts f (m + 1) a l).bind fun r => match r with
    | none => some none
    | some p => strO ts f (m + 10) p.2 p.1
   else if isT ts a 1 (wordO (m - 10)) = true then (strO ts f (m - 10 + 1) (a + 1) l).bind fun r => match r with
    | none => some none
    | some p => strO ts f m p.2 (p.1 ++ [opN (kindK (m - 10)) ((l.length : Int) - 1) ((p.1.length : Int) - 1)])
   else some (some (l,a))
theorem cmpO_lt {ts : List Tok} {a : Nat} {p : Nod × Nat} (h : cmpO ts a = some p) : a < p.2 := by
 have hone : ∀ {k l a b},oneO ts k l a = some b → b = a + 1 := by
  intro k l a b h
  unfold oneO at h
  obtain ⟨_,_,h2⟩ := Option.bind_eq_some_iff.1 h
  split at h2 <;> simp_all
 have hsign : ∀ {s a b},signO ts s a = some b → b = a + 1 := by
  intro s a b h
  unfold signO at h
  split at h <;> simp_all
 have hmat : ∀ {a p},matO ts a = some p → p.2 = a + 3 := by
  intro a p h
  unfold matO at h
  obtain ⟨_,_,h2⟩ := Option.bind_eq_some_iff.1 h
  obtain ⟨_,_,h3⟩ := Option.bind_eq_some_iff.1 h2
  split at h3
  · obtain ⟨_,_,h4⟩ := Option.bind_eq_some_iff.1 h3
    rw [← Option.some.inj h4]
  · cases h3
 have hselL : ∀ (f : Nat) {a acc p},selL ts f a acc = some p → a ≤ p.2 := by
  intro f
  induction f with
  | zero => intro a acc p h; cases h
  | succ f ih =>
    intro a acc p h
    simp only [selL] at h
    obtain ⟨q,h1,h2⟩ := Option.bind_eq_some_iff.1 h
    have := hmat h1
    split at h2
    · have := ih h2; omega
    · rw [← Option.some.inj h2]; simp only; omega
 have hsel : ∀ {a p},selO ts a = some p → a ≤ p.2 := by
  intro a p h
  unfold selO at h
  obtain ⟨b,h1,h2⟩ := Option.bind_eq_some_iff.1 h
  have := hsign h1
  split at h2
  · rw [← Option.some.inj h2]; simp only; omega
  · obtain ⟨q,h3,h4⟩ := Option.bind_eq_some_iff.1 h2
    have := hselL _ h3
    obtain ⟨c,h5,h6⟩ := Option.map_eq_some_iff.1 h4
    rw [← h6]
    unfold selE at h5
    obtain ⟨d,h7,h8⟩ := Option.bind_eq_some_iff.1 h5
    have := hsign h7
    split at h8
    · rw [← Option.some.inj h8]; simp only; omega
    · cases h8
 have hwin : ∀ {a p},winO ts a = some p → p.2 = a + 1 := by
  intro a p h
  unfold winO at h
  obtain ⟨_,_,h2⟩ := Option.bind_eq_some_iff.1 h
  obtain ⟨_,_,h3⟩ := Option.bind_eq_some_iff.1 h2
  split at h3
  · rw [← Option.some.inj h3]
  · cases h3
 have hval : ∀ {a p},valO ts a = some p → a ≤ p.2 := by
  intro a p h
  unfold valO at h
  obtain ⟨_,_,h2⟩ := Option.bind_eq_some_iff.1 h
  split at h2
  · rw [← Option.some.inj h2]; simp only [takO]; split <;> omega
  · cases h2
 unfold cmpO at h
 obtain ⟨b1,h1,h⟩ := Option.bind_eq_some_iff.1 h
 obtain ⟨b2,h2,h⟩ := Option.bind_eq_some_iff.1 h
 obtain ⟨q,h3,h⟩ := Option.bind_eq_some_iff.1 h
 obtain ⟨b3,h4,h⟩ := Option.bind_eq_some_iff.1 h
 obtain ⟨w,h5,h⟩ := Option.bind_eq_some_iff.1 h
 obtain ⟨b4,h6,h⟩ := Option.bind_eq_some_iff.1 h
 obtain ⟨b5,h7,h⟩ := Option.bind_eq_some_iff.1 h
 obtain ⟨b6,h8,h⟩ := Option.bind_eq_some_iff.1 h
 obtain ⟨v,h9,h⟩ := Option.bind_eq_some_iff.1 h
 have := hone h1; have := hsign h2; have := hsel h3; have := hsign h4; have := hwin h5; have := hsign h6; have := hsign h7; have := hone h8; have := hval h9
 rw [← Option.some.inj h]
 simp only
 omega
theorem strO_len {ts : List Tok} : ∀ (f : Nat) {m a l l' b},strO ts f m a l = some (some (l',b)) → a ≤ b ∧ l.length ≤ l'.length ∧ l'.length + a ≤ l.length + b := by
 intro f
 induction f with
 | zero => intro m a l l' b h; cases h
 | succ f ih =>
   intro m a l l' b h
   simp only [strO] at h
   split at h
   · split at h
     · obtain ⟨r,h1,h2⟩ := Option.map_eq_some_iff.1 h
       obtain ⟨p,rfl,h3⟩ := Option.map_eq_some_iff.1 h2
       have := ih h1
       simp only [Prod.mk.injEq] at h3
       obtain ⟨rfl,rfl⟩ := h3
       simp only [List.length_append,List.length_cons,List.length_nil]
       omega
     · split at h
       · obtain ⟨r,h1,h2⟩ := Option.map_eq_some_iff.1 h
         obtain ⟨p,rfl,h3⟩ := Option.bind_eq_some_iff.1 h2
         obtain ⟨c,h4,h5⟩ := Option.map_eq_some_iff.1 h3
         have := ih h1
         unfold signO at h4
         split at h4
         · simp only [Option.some.injEq] at h4
           simp only [Prod.mk.injEq] at h5
           obtain ⟨rfl,rfl⟩ := h5
           omega
         · cases h4
       · obtain ⟨p,h1,h2⟩ := Option.map_eq_some_iff.1 (Option.some.inj h)
         have := cmpO_lt h1
         simp only [Prod.mk.injEq] at h2
         obtain ⟨rfl,rfl⟩ := h2
         simp only [List.length_append,List.length_cons,List.length_nil]
         omega
   · split at h
     · obtain ⟨r,h1,h2⟩ := Option.bind_eq_some_iff.1 h
       cases r with
       | none => cases h2
       | some p =>
         have := ih h1
         have := ih h2
         omega
     · split at h
       · obtain ⟨r,h1,h2⟩ := Option.bind_eq_some_iff.1 h
         cases r with
         | none => cases h2
         | some p =>
           have := ih h1
           have := ih h2
           simp only [List.length_append,List.length_cons,List.length_nil] at this
           omega
       · simp only [Option.some.injEq,Prod.mk.injEq] at h
         obtain ⟨rfl,rfl⟩ := h
         omega
theorem nael1 : aElem prog 27 = some (37,8,72) := by kernel_rfl
theorem nael2 : isSeq prog 27 = true := by kernel_rfl
def NL (K : AHeap) (lo : Nat) (v : Value) (ns : List Nod) : Prop := ∃ cl,Gro K lo 8 37 v cl ∧ cl.length = ns.length ∧ ∀ (i : Nat) n,ns[i]? = some n → ∃ sv,cl[i]? = some ((n : Nod).cells sv) ∧ Gro K lo 3 75 sv (n.sel.map Mat.cells) ∧ n.sel.length ≤ 2 ^ 41
theorem NL.nodes {K lo v ns} (h : NL K lo v ns) : NodesAt K v ns := by
 obtain ⟨cl,h1,h2,h3⟩ := h
 refine ⟨cl,h1.arr,h2,fun i n hi => ?_⟩
 obtain ⟨sv,q1,q2,q3⟩ := h3 i n hi
 exact ⟨sv,q1,q2.arr,by omega⟩
theorem NL.len {K lo v ns} (h : NL K lo v ns) (J : AHeap) : aLen prog J 27 v = some (i64 ns.length) := by
 obtain ⟨cl,h1,h2,_⟩ := h
 rw [← h2]; exact h1.arr.len' (e := 37) (by simp)
end Go.Vi
namespace Go.Vi
open Go Go.Proofs
theorem strO_tot {ts : List Tok} : ∀ (f m a : Nat) (l : List Nod),(m ≤ 2 ∨ m = 10 ∨ m = 11) → 4 * (ts.length - a) + (if m ≤ 2 then 3 - m else 1) ≤ f → ∃ r,strO ts f m a l = some r := by
 intro f
 induction f with
 | zero => intro m a l hm h; split at h <;> omega
 | succ f ih =>
   intro m a l hm h
   simp only [strO]
   split
   · rename_i h2
     subst h2
     rw [if_pos (by omega)] at h
     split
     · rename_i hT
       have := isT_lt hT
       obtain ⟨r,hr⟩ := ih 2 (a + 1) l (by omega) (by simp; omega)
       exact ⟨_,by rw [hr]; rfl⟩
     · split
       · rename_i hT
         have := isT_lt hT
         obtain ⟨r,hr⟩ := ih 0 (a + 1) l (by omega) (by simp; omega)
         exact ⟨_,by rw [hr]; rfl⟩
       · exact ⟨_,rfl⟩
   · split
     · rename_i hm2
       rw [if_pos (by omega)] at h
       obtain ⟨r,hr⟩ := ih (m + 1) a l (by omega) (by rw [if_pos (by omega)]; omega)
       rw [hr]
       cases r with
       | none => exact ⟨none,rfl⟩
       | some p =>
         have := strO_len f hr
         exact ih (m + 10) p.2 p.1 (by omega) (by rw [if_neg (by omega)]; omega)
     · split
       · rename_i hT
         have := isT_lt hT
         rw [if_neg (by omega)] at h
         obtain ⟨r,hr⟩ := ih (m - 10 + 1) (a + 1) l (by omega) (by rw [if_pos (by omega)]; omega)
         rw [hr]
         cases r with
         | none => exact ⟨none,rfl⟩
         | some p =>
           have := strO_len f hr
           exact ih m p.2 _ hm (by rw [if_neg (by omega)]; omega)
       · exact ⟨_,rfl⟩
def conO (ts : List Tok) (a : Nat) : Option (List Nod × Nat) := (strO ts (4 * ts.length + 3) 0 a []).getD none
theorem conO_str (ts : List Tok) (a : Nat) : strO ts (4 * ts.length + 3) 0 a [] = some (conO ts a) := by
 obtain ⟨r,hr⟩ := strO_tot (ts := ts) (4 * ts.length + 3) 0 a [] (by omega) (by simp; omega)
 unfold conO
 rw [hr]; rfl
theorem textF_acc : ∀ (f : Nat) (r acc : List UInt8) (c : Nat),r.length ≤ f → (textF r acc c).1.length ≤ acc.length + r.length := by
 intro f
 induction f with
 | zero => intro r acc c h; have : r = [] := List.eq_nil_of_length_eq_zero (by omega); subst this; simp [textF]
 | succ f ih =>
   intro r acc c h
   cases r with
   | nil => simp [textF]
   | cons b r =>
     rw [textF_cons]
     simp at h
     split
     · split
       · simp
       · split
         · cases r with
           | nil => simp
           | cons e r =>
             simp only
             split
             · have := ih r (acc ++ [e]) (c + 2) (by simp at h; omega); simp at this ⊢; omega
             · simp
         · have := ih r (acc ++ [b]) (c + 1) (by omega); simp at this ⊢; omega
     · simp
theorem mem_takeWhile {p : UInt8 → Bool} : ∀ {s : List UInt8} {b : UInt8},b ∈ s.takeWhile p → p b = true := by
 intro s
 induction s with
 | nil => intro b h; simp at h
 | cons x r ih =>
   intro b h
   rw [List.takeWhile_cons] at h
   split at h
   · rcases List.mem_cons.1 h with rfl | h
     · assumption
     · exact ih h
   · simp at h
theorem runF_take (p : UInt8 → Bool) (s : List UInt8) : s.take (runF p s) = s.takeWhile p := by
 unfold runF
 exact (List.prefix_iff_eq_take.1 (List.takeWhile_prefix p)).symm
theorem numLen_mem (s : List UInt8) : ∀ b ∈ s.take (numLen s),isDig b = true ∨ b = 46 := by
 intro b hb
 unfold numLen at hb
 split at hb
 · rename_i h
   simp only [Bool.and_eq_true,Option.any_eq_true,beq_iff_eq] at h
   obtain ⟨⟨e,he,h46⟩,_⟩ := h
   rw [List.take_add] at hb
   rcases List.mem_append.1 hb with hb | hb
   · rw [runF_take] at hb; exact .inl (mem_takeWhile hb)
   · have hd : s.drop (runF isDig s) = e :: s.drop (runF isDig s + 1) := by
      have hlt := (List.getElem?_eq_some_iff.1 he).1
      rw [List.drop_eq_getElem_cons hlt,(List.getElem?_eq_some_iff.1 he).2]
     rw [hd,Nat.add_comm 1,List.take_succ_cons,runF_take] at hb
     rcases List.mem_cons.1 hb with rfl | hb
     · right
       have : b.toNat = (46 : UInt8).toNat := by have : (46 : UInt8).toNat = 46 := rfl; omega
       exact UInt8.toNat_inj.1 this
     · exact .inl (mem_takeWhile hb)
 · rw [runF_take] at hb; exact .inl (mem_takeWhile hb)
theorem oneF_num {s : List UInt8} {a : Nat} (hs : s.length ≤ 4096) : (oneF s a).1.text.length < 2 ^ 20 ∧ ((oneF s a).1.kind = 2 → (∀ b ∈ (oneF s a).1.text,isDig b = true ∨ b = 46) ∧ ∀ b r,(oneF s a).1.text = b :: r → isDig b = true) := by
 cases s with
 | nil => simp [oneF]
 | cons b r =>
   simp only [oneF]
   simp only [List.length_cons] at hs
   split
   · exact ⟨by simp only [List.length_take,List.length_cons]; omega,fun h => by cases h⟩
   · split
     · rename_i hd
       refine ⟨by simp only [List.length_take,List.length_cons]; omega,fun _ => ⟨numLen_mem _,fun c q hq => ?_⟩⟩
       cases hn : numLen (b :: r) with
       | zero => rw [hn] at hq; simp at hq
       | succ n => rw [hn,List.take_succ_cons] at hq; cases hq; exact hd
     · split
       · have := textF_acc r.length r [] 1 (Nat.le_refl _)
         exact ⟨by simp at this ⊢; omega,fun h => by cases h⟩
       · exact ⟨by simp only [List.length_take,List.length_cons]; omega,fun h => by cases h⟩
theorem lexF_mem (l : List UInt8) (hl : l.length ≤ 4096) : ∀ (f a : Nat),∀ t ∈ (lexF l f a).1,t.text.length < 2 ^ 20 ∧ (t.kind = 2 → (∀ b ∈ t.text,isDig b = true ∨ b = 46) ∧ ∀ b r,t.text = b :: r → isDig b = true) := by
 intro f
 induction f with
 | zero => intro a t h; simp [lexF] at h
 | succ f ih =>
   intro a t h
   simp only [lexF] at h
   split at h
   · split at h
     · simp at h
     · rcases List.mem_cons.1 h with rfl | h
       · exact oneF_num (by simp; omega)
       · exact ih _ t h
   · simp at h
theorem lexF_len (l : List UInt8) : ∀ (f a : Nat),(lexF l f a).1.length ≤ f := by
 intro f
 induction f with
 | zero => intro a; simp [lexF]
 | succ f ih =>
   intro a
   simp only [lexF]
   split
   · split
     · simp
     · have := ih (skipN l (a + (oneF (l.drop a) a).2)); simp; omega
   · simp
theorem allTok_ok {l : List UInt8} : NumTok (allTok l).1 ∧ (allTok l).1.length ≤ 4097 := by
 unfold allTok
 split
 · exact ⟨fun a t h => by simp at h,by simp⟩
 · split
   · refine ⟨fun a t h => ?_,?_⟩
     · exact lexF_mem l (by omega) _ _ t (List.mem_of_getElem? h)
     · have := lexF_len l (l.length + 1) (skipN l 0); simp only; omega
   · exact ⟨fun a t h => by simp at h,by simp⟩
end Go.Vi
namespace Go.Vi
open Go Go.Proofs
theorem acallsBool {P : Program} (hm : P.follows .mixedOrders = true) {f fn args H} {Q : Prop} (hf : P.funcs[f]? = some fn) (hn : notNG fn = true)
  (hr : ∀ k : Value → AHeap → Prop,(∀ K,Pre H K → k (.bool true) K) → (Q → ∀ K,Pre H K → k (.bool false) K) → kbody P fn args H k) : ∃ b,(b = false → Q) ∧ ACalls P f args H (.bool b) H := by
 obtain ⟨v,H',⟨b,rfl,hq,X,rfl⟩,h⟩ := acalls_ex hm hf hn (hr (fun u H2 => ∃ b,u = .bool b ∧ (b = false → Q) ∧ Pre H H2) (fun K p => ⟨true,rfl,by simp,p⟩) fun q K p => ⟨false,rfl,fun _ => q,p⟩)
 exact ⟨b,hq,h.trim rfl⟩
section
variable {H : AHeap} {ns : List Nod} {v : Value} {k : Value → AHeap → Prop}
end
end Go.Vi
namespace Go.Vi
open Go Go.Proofs Go.Proofs.Tryz
theorem isLow_iff (b : UInt8) : isLow b = true ↔ 97 ≤ (b.toNat : Int) ∧ (b.toNat : Int) ≤ 122 := by simp [isLow]
theorem isDig_iff (b : UInt8) : isDig b = true ↔ 48 ≤ (b.toNat : Int) ∧ (b.toNat : Int) ≤ 57 := by simp [isDig]
theorem isSign_iff (b : UInt8) : isSign b = true ↔ 32 ≤ (b.toNat : Int) ∧ (b.toNat : Int) ≤ 126 := by simp [isSign]
theorem rPlain_loop {H : AHeap} {s : List UInt8} {k : Value → AHeap → Prop} {w : Bool} (hs : s.length < 2 ^ 62) (hk : k (.bool w) H) :
  ∀ (r : List UInt8) (i : Nat) (s1 s2 s4 s5 s6 s7 s8 s9 s10 s11 s12 s13 s14 s15 s16 s17 s18 s19 : Value),s.drop i = r → i ≤ s.length → w = r.all isSign → L92x0 (r.length + 1) k [str s,s1,s2,i64 i,s4,s5,s6,s7,s8,s9,s10,s11,s12,s13,s14,s15,s16,s17,s18,s19] H := by
 intro r
 induction r with
 | nil =>
   intro i s1 s2 s4 s5 s6 s7 s8 s9 s10 s11 s12 s13 s14 s15 s16 s17 s18 s19 hd hi hw
   have hle : s.length ≤ i := by simpa using hd
   have : ¬ i < s.length := by omega
   rw [List.length_nil,L92x0q]
   simp at hw
   subst hw
   simp [this]
   exact hk
 | cons b r ih =>
   intro i s1 s2 s4 s5 s6 s7 s8 s9 s10 s11 s12 s13 s14 s15 s16 s17 s18 s19 hd hi hw
   have hb : s[i]? = some b := by rw [← List.head?_drop,hd]; rfl
   have hlt : i < s.length := (List.getElem?_eq_some_iff.1 hb).1
   have hix := aIndex_at (P := prog) (T := 9) (k := .i64) (by simp) hb
   have hdr : s.drop (i + 1) = r := by rw [← List.drop_drop,hd]; rfl
   rw [List.length_cons,L92x0q]
   have hq := isSign_iff b
   rw [List.all_cons] at hw
   by_cases h1 : (b.toNat : Int) < 32
   · have : isSign b = false := by rw [← Bool.not_eq_true]; rw [hq]; omega
     rw [this] at hw
     simp at hw
     subst hw
     simp [hlt,hix,h1]
     exact hk
   · by_cases h2 : 126 < (b.toNat : Int)
     · have : isSign b = false := by rw [← Bool.not_eq_true]; rw [hq]; omega
       rw [this] at hw
       simp at hw
       subst hw
       simp [hlt,hix,h1,h2]
       exact hk
     · have : isSign b = true := by rw [hq]; omega
       rw [this,Bool.true_and] at hw
       simp [hlt,hix,h1,h2,show i + 1 < 2 ^ 63 by omega]
       exact ih (i + 1) _ _ _ _ _ _ _ _ _ _ _ _ _ _ _ _ _ _ hdr hlt hw
theorem r_plain (H : AHeap) {s : List UInt8} (hs : s.length < 2 ^ 62) : ACalls prog 92 [str s] H (.bool (s.all isSign)) H := by
 refine acalls_pure MixT func92 (by decide) rfl ?_
 rw [d92]
 exact ⟨s.length + 1,rPlain_loop (k := fun u H2 => u = .bool (s.all isSign) ∧ ∃ X,H2 = H ++ X) hs ⟨rfl,[],by simp⟩ s 0 _ _ _ _ _ _ _ _ _ _ _ _ _ _ _ _ _ _ rfl (by omega) rfl⟩
theorem rName_loop {H : AHeap} {s : List UInt8} {k : Value → AHeap → Prop} {w : Bool} (hs : s.length < 2 ^ 62) (hk : k (.bool w) H) :
  ∀ (r : List UInt8) (i : Nat) (s1 s2 s4 s5 s6 s7 s8 s9 s10 s11 s12 s13 s14 s15 s16 s17 s18 s19 s20 s21 s22 s23 s24 s25 s26 s27 s28 s29 s30 s31 s32 s33 s34 s35 s36 s37 s38 s39 s40 s41 s42 s43 s44 s45 s46 s47 s48 s49 s50 s51 s52 s53 s54 s55 s56 : Value),s.drop i = r → i ≤ s.length → w = r.all isMark → L146x0 (r.length + 1) k [str s,s1,s2,i64 i,s4,s5,s6,s7,s8,s9,s10,s11,s12,s13,s14,s15,s16,s17,s18,s19,s20,s21,s22,s23,s24,s25,s26,s27,s28,s29,s30,s31,s32,s33,s34,s35,s36,s37,s38,s39,s40,s41,s42,s43,s44,s45,s46,s47,s48,s49,s50,s51,s52,s53,s54,s55,s56] H := by
 intro r
 induction r with
 | nil =>
   intro i s1 s2 s4 s5 s6 s7 s8 s9 s10 s11 s12 s13 s14 s15 s16 s17 s18 s19 s20 s21 s22 s23 s24 s25 s26 s27 s28 s29 s30 s31 s32 s33 s34 s35 s36 s37 s38 s39 s40 s41 s42 s43 s44 s45 s46 s47 s48 s49 s50 s51 s52 s53 s54 s55 s56 hd hi hw
   have hle : s.length ≤ i := by simpa using hd
   have : ¬ i < s.length := by omega
   rw [List.length_nil,L146x0q]
   simp at hw
   subst hw
   simp [this]
   exact hk
 | cons b r ih =>
   intro i s1 s2 s4 s5 s6 s7 s8 s9 s10 s11 s12 s13 s14 s15 s16 s17 s18 s19 s20 s21 s22 s23 s24 s25 s26 s27 s28 s29 s30 s31 s32 s33 s34 s35 s36 s37 s38 s39 s40 s41 s42 s43 s44 s45 s46 s47 s48 s49 s50 s51 s52 s53 s54 s55 s56 hd hi hw
   have hb : s[i]? = some b := by rw [← List.head?_drop,hd]; rfl
   have hlt : i < s.length := (List.getElem?_eq_some_iff.1 hb).1
   have hix := aIndex_at (P := prog) (T := 9) (k := .i64) (by simp) hb
   have hdr : s.drop (i + 1) = r := by rw [← List.drop_drop,hd]; rfl
   rw [List.length_cons,L146x0q]
   have hql := isLow_iff b
   have hqd := isDig_iff b
   rw [List.all_cons] at hw
   have go : isMark b = true → ∀ (s1 s2 s4 s5 s6 s7 s8 s9 s10 s11 s12 s13 s14 s15 s16 s17 s18 s19 s20 s21 s22 s23 s24 s25 s26 s27 s28 s29 s30 s31 s32 s33 s34 s35 s36 s37 s38 s39 s40 s41 s42 s43 s44 s45 s46 s47 s48 s49 s50 s51 s52 s53 s54 s55 s56 : Value),L146x0 (r.length + 1) k [str s,s1,s2,i64 ((i : Int) + 1),s4,s5,s6,s7,s8,s9,s10,s11,s12,s13,s14,s15,s16,s17,s18,s19,s20,s21,s22,s23,s24,s25,s26,s27,s28,s29,s30,s31,s32,s33,s34,s35,s36,s37,s38,s39,s40,s41,s42,s43,s44,s45,s46,s47,s48,s49,s50,s51,s52,s53,s54,s55,s56] H := by
    intro hm s1 s2 s4 s5 s6 s7 s8 s9 s10 s11 s12 s13 s14 s15 s16 s17 s18 s19 s20 s21 s22 s23 s24 s25 s26 s27 s28 s29 s30 s31 s32 s33 s34 s35 s36 s37 s38 s39 s40 s41 s42 s43 s44 s45 s46 s47 s48 s49 s50 s51 s52 s53 s54 s55 s56
    rw [hm,Bool.true_and] at hw
    exact ih (i + 1) _ _ _ _ _ _ _ _ _ _ _ _ _ _ _ _ _ _ _ _ _ _ _ _ _ _ _ _ _ _ _ _ _ _ _ _ _ _ _ _ _ _ _ _ _ _ _ _ _ _ _ _ _ _ _ hdr hlt hw
   have no : isMark b = false → k (.bool false) H := by
    intro hm
    rw [hm,Bool.false_and] at hw
    rw [← hw]
    exact hk
   have hi63 : i + 1 < 2 ^ 63 := by omega
   by_cases l1 : 97 ≤ (b.toNat : Int)
   · by_cases l2 : (b.toNat : Int) ≤ 122
     · simp [hlt,hix,l1,l2,hi63]
       exact go (by simp [isMark,hql.2 ⟨l1,l2⟩]) _ _ _ _ _ _ _ _ _ _ _ _ _ _ _ _ _ _ _ _ _ _ _ _ _ _ _ _ _ _ _ _ _ _ _ _ _ _ _ _ _ _ _ _ _ _ _ _ _ _ _ _ _ _ _
     · have d2 : ¬ (b.toNat : Int) ≤ 57 := by omega
       have d1 : (48 : Int) ≤ (b.toNat : Int) := by omega
       have u : ((b.toNat : Int) == 95) = false := by rw [beq_eq_false_iff_ne]; omega
       simp [hlt,hix,l1,l2,d1,d2,u]
       exact no (by simp [isMark,isLow,isDig,l2,d2,u])
   · by_cases d1 : (48 : Int) ≤ (b.toNat : Int)
     · by_cases d2 : (b.toNat : Int) ≤ 57
       · simp [hlt,hix,l1,d1,d2,hi63]
         exact go (by simp [isMark,hqd.2 ⟨d1,d2⟩]) _ _ _ _ _ _ _ _ _ _ _ _ _ _ _ _ _ _ _ _ _ _ _ _ _ _ _ _ _ _ _ _ _ _ _ _ _ _ _ _ _ _ _ _ _ _ _ _ _ _ _ _ _ _ _
       · by_cases u : ((b.toNat : Int) == 95) = true
         · simp [hlt,hix,l1,d1,d2,u,hi63]
           exact go (by simp [isMark,u]) _ _ _ _ _ _ _ _ _ _ _ _ _ _ _ _ _ _ _ _ _ _ _ _ _ _ _ _ _ _ _ _ _ _ _ _ _ _ _ _ _ _ _ _ _ _ _ _ _ _ _ _ _ _ _
         · have u' : ((b.toNat : Int) == 95) = false := by simpa using u
           simp [hlt,hix,l1,d1,d2,u']
           exact no (by simp [isMark,isLow,isDig,l1,d2,u'])
     · have u' : ((b.toNat : Int) == 95) = false := by rw [beq_eq_false_iff_ne]; omega
       simp [hlt,hix,l1,d1,u']
       exact no (by simp [isMark,isLow,isDig,l1,d1,u'])
theorem r_mayName (H : AHeap) {s : List UInt8} (hs : s.length < 2 ^ 62) : ACalls prog 146 [str s] H (.bool (mayName s)) H := by
 refine acalls_pure MixT func146 (by decide) rfl ?_
 rw [d146]
 cases s with
 | nil => simp [mayName]
 | cons b r =>
   have h0 := aIndex_at (P := prog) (T := 9) (k := .i64) (l := b :: r) (i := 0) (b := b) (by simp) rfl
   simp at h0
   by_cases h16 : (16 : Int) < ((b :: r).length : Nat)
   · have : mayName (b :: r) = false := by simp [mayName]; intro h; simp at h16; omega
     rw [this]
     have h16' : (15 : Int) < r.length := by simp at h16; omega
     have h16'' : (16 : Int) < r.length + 1 := by omega
     have h1 : ¬ (r.length : Int) + 1 < 1 := by omega
     simp [h1,h16'']
   · have h16'' : ¬ (16 : Int) < r.length + 1 := by simp at h16; omega
     have h1 : ¬ (r.length : Int) + 1 < 1 := by omega
     have hl : r.length + 1 ≤ 16 := by omega
     have hql := isLow_iff b
     by_cases l1 : (b.toNat : Int) < 97
     · have : mayName (b :: r) = false := by simp [mayName,isLow]; intros; omega
       rw [this]
       simp [h1,h16'',h0,l1]
     · by_cases l2 : 122 < (b.toNat : Int)
       · have : mayName (b :: r) = false := by simp [mayName,isLow]; intros; omega
         rw [this]
         simp [h1,h16'',h0,l1,l2]
       · have hlow : isLow b = true := hql.2 (by omega)
         simp [h1,h16'',h0,l1,l2]
         have hm : mayName (b :: r) = (b :: r).all isMark := by simp [mayName,hlow,hl]
         exact ⟨(b :: r).length + 1,rName_loop (k := fun u H2 => u = .bool (mayName (b :: r)) ∧ ∃ X,H2 = H ++ X) (by simp at hs ⊢; omega) ⟨rfl,[],by simp⟩ (b :: r) 0 _ _ _ _ _ _ _ _ _ _ _ _ _ _ _ _ _ _ _ _ _ _ _ _ _ _ _ _ _ _ _ _ _ _ _ _ _ _ _ _ _ _ _ _ _ _ _ _ _ _ _ _ _ _ _ rfl (by omega) hm⟩
theorem rDigs_loop {H : AHeap} {s : List UInt8} {k : Value → AHeap → Prop} {w : Bool} (hs : s.length < 2 ^ 62) (hk : k (.bool w) H) :
  ∀ (r : List UInt8) (i : Nat) (s1 s2 s4 s5 s6 s7 s8 s9 s10 s11 s12 s13 s14 s15 s16 s17 s18 s19 s20 s21 : Value),s.drop i = r → i ≤ s.length → w = (r.all isDig && !decide (s = [])) → L147x0 (r.length + 1) k [str s,s1,s2,i64 i,s4,s5,s6,s7,s8,s9,s10,s11,s12,s13,s14,s15,s16,s17,s18,s19,s20,s21] H := by
 intro r
 induction r with
 | nil =>
   intro i s1 s2 s4 s5 s6 s7 s8 s9 s10 s11 s12 s13 s14 s15 s16 s17 s18 s19 s20 s21 hd hi hw
   have hle : s.length ≤ i := by simpa using hd
   have : ¬ i < s.length := by omega
   rw [List.length_nil,L147x0q]
   rw [List.all_nil,Bool.true_and] at hw
   subst hw
   simp [this]
   simpa using hk
 | cons b r ih =>
   intro i s1 s2 s4 s5 s6 s7 s8 s9 s10 s11 s12 s13 s14 s15 s16 s17 s18 s19 s20 s21 hd hi hw
   have hb : s[i]? = some b := by rw [← List.head?_drop,hd]; rfl
   have hlt : i < s.length := (List.getElem?_eq_some_iff.1 hb).1
   have hix := aIndex_at (P := prog) (T := 9) (k := .i64) (by simp) hb
   have hdr : s.drop (i + 1) = r := by rw [← List.drop_drop,hd]; rfl
   rw [List.length_cons,L147x0q]
   have hq := isDig_iff b
   rw [List.all_cons] at hw
   by_cases h1 : (b.toNat : Int) < 48
   · have : isDig b = false := by rw [← Bool.not_eq_true]; rw [hq]; omega
     rw [this] at hw
     simp at hw
     subst hw
     simp [hlt,hix,h1]
     exact hk
   · by_cases h2 : 57 < (b.toNat : Int)
     · have : isDig b = false := by rw [← Bool.not_eq_true]; rw [hq]; omega
       rw [this] at hw
       simp at hw
       subst hw
       simp [hlt,hix,h1,h2]
       exact hk
     · have : isDig b = true := by rw [hq]; omega
       rw [this,Bool.true_and] at hw
       simp [hlt,hix,h1,h2,show i + 1 < 2 ^ 63 by omega]
       exact ih (i + 1) _ _ _ _ _ _ _ _ _ _ _ _ _ _ _ _ _ _ _ _ hdr hlt hw
def digsR (s : List UInt8) : Bool := s.all isDig && !decide (s = [])
theorem r_digits (H : AHeap) {s : List UInt8} (hs : s.length < 2 ^ 62) : ACalls prog 147 [str s] H (.bool (digsR s)) H := by
 refine acalls_pure MixT func147 (by decide) rfl ?_
 rw [d147]
 exact ⟨s.length + 1,rDigs_loop (k := fun u H2 => u = .bool (digsR s) ∧ ∃ X,H2 = H ++ X) hs ⟨rfl,[],by simp⟩ s 0 _ _ _ _ _ _ _ _ _ _ _ _ _ _ _ _ _ _ _ _ rfl (by omega) rfl⟩
theorem byte_all {p : UInt8 → Prop} (h : ∀ n,n < 256 → p (UInt8.ofNat n)) (b : UInt8) : p b := by
 have := h b.toNat b.toNat_lt
 simpa using this
theorem blanks_eq : ∀ b : UInt8,hasB blanks b = ((b.toNat : Int) == 32 || (b.toNat : Int) == 9 || (b.toNat : Int) == 10 || (b.toNat : Int) == 13) :=
 byte_all (by decide +kernel)
theorem r_blank (H : AHeap) (b : UInt8) : ACalls prog 61 [byt b] H (.bool (hasB blanks b)) H := by
 refine acalls_pure MixT func61 (by decide) rfl ?_
 rw [d61,blanks_eq]
 simp +contextual
theorem mayName_a : ∀ b : UInt8,mayName [97,b] = isMark b := byte_all (by decide +kernel)
def wordR (s : List UInt8) : Bool := s.all isMark && (s[0]?).any isLow
theorem rWord_loop {H : AHeap} {s : List UInt8} {k : Value → AHeap → Prop} {w : Bool} (hs : s.length < 2 ^ 60) (hk : k (.bool w) H) :
  ∀ (r : List UInt8) (i : Nat) (s1 s2 s4 s5 s6 s7 s8 s9 s10 s11 s12 s13 s14 s15 s16 s17 s18 s19 s20 s21 s22 s23 s24 s25 s26 s27 s28 s29 : Value),s.drop i = r → i ≤ s.length → w = (r.all isMark && (s[0]?).any isLow) → L120x0 (r.length + 1) k [str s,s1,s2,i64 i,s4,s5,s6,s7,s8,s9,s10,s11,s12,s13,s14,s15,s16,s17,s18,s19,s20,s21,s22,s23,s24,s25,s26,s27,s28,s29] H := by
 intro r
 induction r with
 | nil =>
   intro i s1 s2 s4 s5 s6 s7 s8 s9 s10 s11 s12 s13 s14 s15 s16 s17 s18 s19 s20 s21 s22 s23 s24 s25 s26 s27 s28 s29 hd hi hw
   have hle : s.length ≤ i := by simpa using hd
   have : ¬ i < s.length := by omega
   rw [List.length_nil,L120x0q]
   rw [List.all_nil,Bool.true_and] at hw
   cases s with
   | nil =>
     simp at hw
     subst hw
     have : ¬ (i : Int) < 0 := by omega
     simp [this]
     exact hk
   | cons b t =>
     have h0 := aIndex_at (P := prog) (T := 9) (k := .i64) (l := b :: t) (i := 0) (b := b) (by simp) rfl
     simp at h0
     simp at hw
     have hq := isLow_iff b
     have hn : ¬ (i : Int) < (t.length : Int) + 1 := by simp at hle; omega
     by_cases l1 : 97 ≤ (b.toNat : Int)
     · by_cases l2 : (b.toNat : Int) ≤ 122
       · rw [hq.2 ⟨l1,l2⟩] at hw
         subst hw
         simp [hn,h0,l1,l2]
         exact hk
       · have : isLow b = false := by rw [← Bool.not_eq_true]; rw [hq]; omega
         rw [this] at hw
         subst hw
         simp [hn,h0,l1,l2]
         exact hk
     · have : isLow b = false := by rw [← Bool.not_eq_true]; rw [hq]; omega
       rw [this] at hw
       subst hw
       simp [hn,h0,l1]
       exact hk
 | cons b r ih =>
   intro i s1 s2 s4 s5 s6 s7 s8 s9 s10 s11 s12 s13 s14 s15 s16 s17 s18 s19 s20 s21 s22 s23 s24 s25 s26 s27 s28 s29 hd hi hw
   have hb : s[i]? = some b := by rw [← List.head?_drop,hd]; rfl
   have hlt : i < s.length := (List.getElem?_eq_some_iff.1 hb).1
   have hdr : s.drop (i + 1) = r := by rw [← List.drop_drop,hd]; rfl
   have hsl := aSliceOp_str (P := prog) (H := H) (T := 9) (l := s) (lo := some (i64 i)) (hi := some (i64 ((i : Int) + 1))) (a := i) (b := ((i + 1 : Nat) : Int)) (by simp) rfl rfl (by omega) (by omega) (by omega)
   have he : (s.take (i + 1)).drop i = [b] := by
    rw [List.drop_take,hd]; simp
   simp only [Int.toNat_natCast,he] at hsl
   have hcat := fun (H : AHeap) x y => aBin_str (P := prog) (H := H) (T := 9) (x := x) (y := y) (a := [97]) (b := [b]) (by simp)
   rw [List.length_cons,L120x0q]
   rw [List.all_cons] at hw
   have hw1 : IntKind.i64.wrap ((i : Int) + 1) = (i : Int) + 1 := wrap_i64 (by omega) (by omega)
   simp [hlt,hw1,hsl]
   refine bnd_of (hcat _ _ _) ?_
   simp
   have hc := r_mayName H (s := [97,b]) (by simp)
   rw [mayName_a] at hc
   refine bndC_of hc ?_
   simp
   cases hm : isMark b with
   | true =>
     rw [hm,Bool.true_and] at hw
     simp [hw1]
     exact ih (i + 1) _ _ _ _ _ _ _ _ _ _ _ _ _ _ _ _ _ _ _ _ _ _ _ _ _ _ _ _ hdr hlt hw
   | false =>
     rw [hm] at hw
     simp at hw
     subst hw
     simp
     exact hk
theorem r_word (H : AHeap) {s : List UInt8} (hs : s.length < 2 ^ 60) : ACalls prog 120 [str s] H (.bool (wordR s)) H := by
 refine acalls_pure MixT func120 (by decide) rfl ?_
 rw [d120]
 exact ⟨s.length + 1,rWord_loop (k := fun u H2 => u = .bool (wordR s) ∧ ∃ X,H2 = H ++ X) hs ⟨rfl,[],by simp⟩ s 0 _ _ _ _ _ _ _ _ _ _ _ _ _ _ _ _ _ _ _ _ _ _ _ _ _ _ _ _ rfl (by omega) rfl⟩
def numG : List UInt8 → List UInt8 → Bool
 | p,[] => digsR p
 | p,b :: r => if ((b.toNat : Int) == 46) = true then digsR p && digsR r else numG (p ++ [b]) r
def numR (s : List UInt8) : Bool := numG [] s
theorem rNum_loop {H : AHeap} {s : List UInt8} {k : Value → AHeap → Prop} {w : Bool} (hs : s.length < 2 ^ 60) (hk : k (.bool w) H) :
  ∀ (r : List UInt8) (i : Nat) (s1 s2 s4 s5 s6 s7 s8 s9 s10 s11 s12 s13 s14 s15 s16 s17 s18 s19 s20 s21 s22 s23 s24 s25 s26 : Value),s.drop i = r → i ≤ s.length → w = numG (s.take i) r → L121x0 (r.length + 1) k [str s,s1,s2,i64 i,s4,s5,s6,s7,s8,s9,s10,s11,s12,s13,s14,s15,s16,s17,s18,s19,s20,s21,s22,s23,s24,s25,s26] H := by
 intro r
 induction r with
 | nil =>
   intro i s1 s2 s4 s5 s6 s7 s8 s9 s10 s11 s12 s13 s14 s15 s16 s17 s18 s19 s20 s21 s22 s23 s24 s25 s26 hd hi hw
   have hle : s.length ≤ i := by simpa using hd
   have : ¬ i < s.length := by omega
   rw [List.length_nil,L121x0q]
   simp only [numG,List.take_of_length_le hle] at hw
   subst hw
   simp [this]
   exact bndC_of (r_digits H (by omega)) hk
 | cons b r ih =>
   intro i s1 s2 s4 s5 s6 s7 s8 s9 s10 s11 s12 s13 s14 s15 s16 s17 s18 s19 s20 s21 s22 s23 s24 s25 s26 hd hi hw
   have hb : s[i]? = some b := by rw [← List.head?_drop,hd]; rfl
   have hlt : i < s.length := (List.getElem?_eq_some_iff.1 hb).1
   have hix := aIndex_at (P := prog) (T := 9) (k := .i64) (by simp) hb
   have hdr : s.drop (i + 1) = r := by rw [← List.drop_drop,hd]; rfl
   have hw1 : IntKind.i64.wrap ((i : Int) + 1) = (i : Int) + 1 := wrap_i64 (by omega) (by omega)
   have h1 := aSliceOp_str (P := prog) (H := H) (T := 9) (l := s) (lo := none) (hi := some (i64 i)) (a := 0) (b := i) (by simp) rfl rfl (by omega) (by omega) (by omega)
   have h2 := aSliceOp_str (P := prog) (H := H) (T := 9) (l := s) (lo := some (i64 ((i : Int) + 1))) (hi := none) (a := ((i + 1 : Nat) : Int)) (b := s.length) (by simp) rfl rfl (by omega) (by omega) (by omega)
   simp only [Int.toNat_natCast,List.take_length,hdr] at h1 h2
   simp at h1
   rw [List.length_cons,L121x0q]
   rw [numG] at hw
   by_cases h46 : ((b.toNat : Int) == 46) = true
   · rw [if_pos h46] at hw
     subst hw
     simp [hlt,hix,h46,h1]
     refine bndC_of (r_digits H (by simp; omega)) ?_
     have hrl : r.length < 2 ^ 62 := by rw [← hdr,List.length_drop]; omega
     cases hp : digsR (s.take i) with
     | true =>
       rw [hp] at hk
       simp [hw1,h2]
       refine bndG_t (.bool (digsR r)) H (r_digits H hrl) ?_
       simpa using hk
     | false =>
       rw [hp] at hk
       simpa using hk
   · rw [if_neg h46] at hw
     have h46' : ((b.toNat : Int) == 46) = false := by simpa using h46
     simp [hlt,hix,h46',hw1]
     refine ih (i + 1) _ _ _ _ _ _ _ _ _ _ _ _ _ _ _ _ _ _ _ _ _ _ _ _ _ hdr hlt ?_
     rw [hw,List.take_add_one,hb]; rfl
theorem r_number (H : AHeap) {s : List UInt8} (hs : s.length < 2 ^ 60) : ACalls prog 121 [str s] H (.bool (numR s)) H := by
 refine acalls_pure MixT func121 (by decide) rfl ?_
 rw [d121]
 exact ⟨s.length + 1,rNum_loop (k := fun u H2 => u = .bool (numR s) ∧ ∃ X,H2 = H ++ X) hs ⟨rfl,[],by simp⟩ s 0 _ _ _ _ _ _ _ _ _ _ _ _ _ _ _ _ _ _ _ _ _ _ _ _ _ rfl (by omega) (by simp [numR])⟩
def signsR : List (List UInt8) := [[60,61],[62,61],[61,61],[33,61],[94,61],[123],[125],[40],[41],[91],[93],[44],[58],[59],[61],[60],[62],[45]]
theorem rSign_loop {K : AHeap} {v : Value} {s : List UInt8} {k : Value → AHeap → Prop} {w : Bool} (ha : Arr K 1 v (strCells signsR)) (hk : k (.bool w) K) :
  ∀ (r : List (List UInt8)) (i : Nat) (s1 s2 s5 s6 s7 s8 s9 s10 s11 s12 s13 s14 s15 s16 s17 : Value),signsR.drop i = r → i ≤ signsR.length → w = decide (s ∈ r) → L122x0 (r.length + 1) k [str s,s1,s2,v,i64 i,s5,s6,s7,s8,s9,s10,s11,s12,s13,s14,s15,s16,s17] K := by
 have hlen := ha.len (P := prog) (T := 42) (e := 9) (by simp)
 have hl18 : signsR.length = 18 := rfl
 simp [strCells] at hlen
 intro r
 induction r with
 | nil =>
   intro i s1 s2 s5 s6 s7 s8 s9 s10 s11 s12 s13 s14 s15 s16 s17 hd hi hw
   have hle : signsR.length ≤ i := by simpa using hd
   have : ¬ i < signsR.length := by omega
   rw [List.length_nil,L122x0q]
   simp at hw
   subst hw
   simp [hlen,this]
   exact hk
 | cons x r ih =>
   intro i s1 s2 s5 s6 s7 s8 s9 s10 s11 s12 s13 s14 s15 s16 s17 hd hi hw
   have hb : signsR[i]? = some x := by rw [← List.head?_drop,hd]; rfl
   have hlt : i < signsR.length := (List.getElem?_eq_some_iff.1 hb).1
   have hdr : signsR.drop (i + 1) = r := by rw [← List.drop_drop,hd]; rfl
   obtain ⟨q,hp1,hp2⟩ := ha.load1 (P := prog) (T := 42) (te := 9) (i := i) (x := str x) (by simp) (by simp) (by simp) (by simp [strCells,hb])
   rw [List.length_cons,L122x0q]
   by_cases he : x = s
   · have : w = true := by rw [hw]; simp [he]
     subst this
     simp [hlen,hlt,hp1,hp2,he]
     exact hk
   · have he' : ¬ s = x := fun e => he e.symm
     simp [hlen,hlt,hp1,hp2,he,show i + 1 < 2 ^ 63 by omega]
     exact ih (i + 1) _ _ _ _ _ _ _ _ _ _ _ _ _ _ _ hdr hlt (by rw [hw]; simp [he'])
set_option maxRecDepth 20000 in
theorem r_sign (H : AHeap) (s : List UInt8) : ACalls prog 122 [str s] H (.bool (decide (s ∈ signsR))) H := by
 refine acalls_pure MixT func122 (by decide) rfl ?_
 rw [d122]
 have hs := sliceLit1 (H := H) (P := prog) (T := 42) (e := 9) (zv := .string ByteArray.empty) (l := signsR.map str) (n := 18) (by kernel_rfl) (by decide) rfl (by decide)
 refine bndL_lit hs ?_
 have ha := arr_strs (H := H) signsR 9 18 rfl
 exact ⟨signsR.length + 1,rSign_loop (k := fun u H2 => u = .bool (decide (s ∈ signsR)) ∧ ∃ X,H2 = H ++ X) ha ⟨rfl,_,rfl⟩ signsR 0 _ _ _ _ _ _ _ _ _ _ _ _ _ _ _ rfl (by decide) rfl⟩
def kindR (s : List UInt8) : Int × List UInt8 := if wordR s = true then (1,s) else if numR s = true then (2,s) else if s ∈ signsR then (4,s) else (0,[])
theorem r_kind (H : AHeap) {s : List UInt8} (hs : s.length < 2 ^ 60) : ACalls prog 93 [str s] H (.tuple #[.int .u8 (kindR s).1,str (kindR s).2]) H := by
 refine acallsT_pure MixT func93 (by decide) rfl ?_
 rw [d93]
 refine bndC_of (r_word H hs) ?_
 unfold kindR
 cases h1 : wordR s with
 | true => simp
 | false =>
   simp
   refine bndC_of (r_number H hs) ?_
   cases h2 : numR s with
   | true => simp
   | false =>
     simp
     refine bndC_of (r_sign H s) ?_
     by_cases h3 : s ∈ signsR
     · simp [h3]
     · simp [h3]
end Go.Vi
