/- One token. One token. All tokens. All tokens: the iterator, and the range over it. The reader of conditions: tokens. Numbers' texts. Reading a condition. Numbers' texts that are refused. Numbers are written: how many digits there are. What the functions' bodies come to. Numbers are written: digits. Numbers are written: their texts. Numbers are written: Itoa, TrimRight, fixed.Print. strings.Builder grows ahead; strings.Join. Matchers are written. Conditions are written. Right nodes are written: Print. The reader of conditions, whatever it reads: tokens. The reader of conditions, whatever it reads: windows, values, matchers. The reader of conditions, whatever it reads: matchers. The reader of conditions, whatever it reads: comparisons. Conditions, whatever is read. Read and Parse, whatever they read. The document's own answer: sorts of texts. The document's own answer: the longest token. The document's own answer: the longest token, by trial. A condition within a longer text: what the parser tells there. The document's own answer: the longest token is the one that is read. The tokens of a text within a longer one. The document's own answer: all tokens. Nodes held against the same nodes elsewhere. The document's own answer: tokens, matchers, windows. The document's own answer: numbers with a point. The document's own answer: a comparison. -/
import Derived.Test.YtgekefehilgkeaaJCheckRules3
import Derived.Test.YtgekefehilgkeaaJCheckRules2
import Derived.Test.YtgekefehilgkeaaChecked
namespace Go.Vi
open Go Go.Proofs
def textF : List UInt8 → List UInt8 → Nat → List UInt8 × Nat
 | [],_,_ => ([],0)
 | b :: r, acc, c => if isSign b = true then
     (if ((b.toNat : Int) == 34) = true then (acc,c + 1)
      else if ((b.toNat : Int) == 92) = true then match r with
       | e :: r' => if ((e.toNat : Int) == 34 || (e.toNat : Int) == 92) = true then textF r' (acc ++ [e]) (c + 2) else ([],0)
       | [] => ([],0)
      else textF r (acc ++ [b]) (c + 1))
   else ([],0)
theorem textF_cons (b : UInt8) (r acc : List UInt8) (c : Nat) : textF (b :: r) acc c = if isSign b = true then
   (if ((b.toNat : Int) == 34) = true then (acc,c + 1)
    else if ((b.toNat : Int) == 92) = true then match r with
     | e :: r' => if ((e.toNat : Int) == 34 || (e.toNat : Int) == 92) = true then textF r' (acc ++ [e]) (c + 2) else ([],0)
     | [] => ([],0)
    else textF r (acc ++ [b]) (c + 1))
  else ([],0) := by rw [textF.eq_def]
theorem textF_len : ∀ (f : Nat) (r acc : List UInt8) (c : Nat),r.length ≤ f → (textF r acc c).2 ≤ c + r.length := by
 intro f
 induction f with
 | zero => intro r acc c h; have : r = [] := List.eq_nil_of_length_eq_zero (by omega); subst this; simp [textF]
 | succ f ih =>
   intro r acc c h
   cases r with
   | nil => simp [textF]
   | cons b r =>
     rw [textF_cons]
     simp at h
     split
     · split
       · simp <;> omega
       · split
         · cases r with
           | nil => simp
           | cons e r =>
             simp only
             split
             · have := ih r (acc ++ [e]) (c + 2) (by simp at h; omega); simp; omega
             · simp
         · have := ih r (acc ++ [b]) (c + 1) (by omega); simp; omega
     · simp
def sigs1 : List UInt8 := [60,62,61,33,94]
def sigs2 : List UInt8 := [123,125,40,41,91,93,44,58,59,61,60,62,45]
def hasB (l : List UInt8) (b : UInt8) : Bool := decide (Lib.indexByte l b ≥ 0)
def signF : List UInt8 → Nat
 | [] => 0
 | b :: r => if ((r[0]?).any (fun e => (e.toNat : Int) == 61) && hasB sigs1 b) = true then 2 else if hasB sigs2 b = true then 1 else 0
end Go.Vi
namespace Go.Vi
open Go Go.Proofs
structure Tok where
 kind : Int
 text : List UInt8
 at' : Int
def Tok.cells (t : Tok) : List Value := [.int .u8 t.kind,str t.text,i64 t.at']
def runF (p : UInt8 → Bool) (s : List UInt8) : Nat := (s.takeWhile p).length
def numLen (s : List UInt8) : Nat :=
 if ((s[runF isDig s]?).any (fun e => (e.toNat : Int) == 46) && decide (runF isDig (s.drop (runF isDig s + 1)) > 0)) = true then runF isDig s + (1 + runF isDig (s.drop (runF isDig s + 1))) else runF isDig s
def oneF (s : List UInt8) (a : Nat) : Tok × Nat := match s with
 | [] => (⟨0,[],a⟩,0)
 | b :: r => if isLow b = true then (⟨1, s.take (runF isMark s), a⟩, runF isMark s)
   else if isDig b = true then (⟨2,s.take (numLen s),a⟩,numLen s)
   else if ((b.toNat : Int) == 34) = true then (⟨3,(textF r [] 1).1,a⟩,(textF r [] 1).2)
   else (⟨4,s.take (signF s),a⟩,signF s)
theorem runF_le (p : UInt8 → Bool) (s : List UInt8) : runF p s ≤ s.length := by
 unfold runF; exact List.IsPrefix.length_le (List.takeWhile_prefix p)
theorem numLen_le (s : List UInt8) : numLen s ≤ s.length := by
 unfold numLen
 have h1 := runF_le isDig s
 have h2 := runF_le isDig (s.drop (runF isDig s + 1))
 rw [List.length_drop] at h2
 split
 · rename_i h
   simp only [Bool.and_eq_true,Option.any_eq_true] at h
   obtain ⟨⟨e,he,_⟩,_⟩ := h
   have := (List.getElem?_eq_some_iff.1 he).1
   omega
 · exact h1
theorem signF_le (s : List UInt8) : signF s ≤ s.length := by
 cases s with
 | nil => simp [signF]
 | cons b r =>
   simp only [signF]
   split
   · rename_i h
     simp only [Bool.and_eq_true,Option.any_eq_true] at h
     obtain ⟨⟨e,he,_⟩,_⟩ := h
     have := (List.getElem?_eq_some_iff.1 he).1
     simp; omega
   · split <;> simp
end Go.Vi
namespace Go.Vi
open Go Go.Proofs
def blanks : List UInt8 := [32,9,10,13]
def notNl (b : UInt8) : Bool := (b.toNat : Int) != 10
def skipF : Nat → List UInt8 → Nat
 | 0,_ => 0
 | _ + 1,[] => 0
 | f + 1, b :: r => if hasB blanks b = true then 1 + skipF f r
   else if ((b.toNat : Int) == 35) = true then runF notNl (b :: r) + skipF f ((b :: r).drop (runF notNl (b :: r)))
   else 0
def skipN (l : List UInt8) (a : Nat) : Nat := a + skipF (l.length - a) (l.drop a)
section
variable {P : Program}
variable {D : DrawK}
end
theorem foldl_put : ∀ (c : List Value) (k : Nat) (cells : List Value),k + c.length ≤ cells.length →
  (c.zipIdx k).foldl (fun (cs : Array Value) (p : Value × Nat) => cs.setIfInBounds p.2 p.1) cells.toArray = (cells.take k ++ c ++ cells.drop (k + c.length)).toArray := by
 intro c
 induction c with
 | nil => intro k cells _; simp
 | cons v r ih =>
   intro k cells h
   simp only [List.length_cons] at h
   simp only [List.zipIdx_cons,List.foldl_cons,List.setIfInBounds_toArray]
   have := ih (k + 1) (cells.set k v) (by simp; omega)
   rw [this]
   congr 1
   rw [List.take_set,List.set_eq_take_append_cons_drop,if_pos (by rw [List.length_take]; omega),List.drop_set_of_lt (by omega)]
   simp [List.take_take,Nat.add_assoc,Nat.add_comm 1]
theorem sliceLitA {P : Program} {H : AHeap} {T e : TypeId} {zs : Array Value} {c : List Value} (hs : aBuildSlice P H T 1 [(0,.agg c.toArray)] = bslV e zs H 1 [(0,.agg c.toArray)]) (hz : c.length = zs.size) (ho : ∀ v ∈ c,v.oneCell' = true) (hb : zs.size ≤ 16777216) :
  sliceLit P H T 1 [(0,.agg c.toArray)] (.slice (some ⟨H.length,0,some c.length⟩) 1 1) (H ++ [.cells c e]) := by
 refine ⟨?_,?_⟩
 · simpa [storable] using ho
 · rw [hs]
   unfold bslV
   have hr : (repCells zs (1 * zs.size)).size = zs.size := by simp [repCells]
   have hf : Instr.fill (fun i => some (i * zs.size,zs.size)) (repCells zs (1 * zs.size)) [(0,.agg c.toArray)] = some c.toArray := by
    generalize hR : repCells zs (1 * zs.size) = R at hr
    obtain ⟨R⟩ := R
    simp only [List.size_toArray] at hr
    simp only [Instr.fill,cells_agg,List.size_toArray,hz,Nat.zero_mul]
    rw [if_neg (by simp; omega)]
    have := foldl_put c 0 R (by omega)
    rw [List.take_zero,List.nil_append,Nat.zero_add,List.drop_eq_nil_of_le (by omega),List.append_nil] at this
    refine congrArg some (Eq.trans ?_ this)
    rw [← Array.foldl_toList]
    simp
   rw [hf,if_pos (by omega)]
   simp only [List.size_toArray]
   rw [if_pos ⟨by omega,by simpa using ho⟩]
inductive Gro (K : AHeap) (lo z : Nat) (T : TypeId) : Value → List (List Value) → Prop
 | nil : Gro K lo z T (.slice none 0 0) []
 | mk (bb : Nat) (cl : List (List Value)) (h1 : lo ≤ bb) (h2 : K[bb]? = some (.cells cl.flatten T)) (h3 : cl ≠ []) (h4 : ∀ c ∈ cl,c.length = z) : Gro K lo z T (.slice (some ⟨bb,0,some (cl.length * z)⟩) cl.length cl.length) cl
theorem Gro.one {K lo z T v cl} (h : Gro K lo z T v cl) : v.oneCell' = true := by cases h <;> rfl
theorem Gro.cells {K lo z T v cl} (h : Gro K lo z T v cl) : v.cells = #[v] := by cases h <;> rfl
theorem Gro.stor {K lo z T v cl} (h : Gro K lo z T v cl) : storable v = true := by cases h <;> rfl
theorem Gro.app {K lo z T v cl} {X : AHeap} (h : Gro K lo z T v cl) : Gro (K ++ X) lo z T v cl := by
 cases h with
 | nil => exact .nil
 | mk bb cl h1 h2 h3 h4 => exact .mk bb cl h1 (get_more h2) h3 h4
theorem Gro.set {K lo z T v cl} {b : Nat} {o : AObj} (h : Gro K lo z T v cl) (hb : b < lo) : Gro (K.set b o) lo z T v cl := by
 cases h with
 | nil => exact .nil
 | mk bb cl h1 h2 h3 h4 => exact .mk bb cl h1 (by rw [List.getElem?_set_ne (by omega)]; exact h2) h3 h4
theorem flat_len {z : Nat} : ∀ {cl : List (List Value)},(∀ c ∈ cl,c.length = z) → cl.flatten.length = cl.length * z := by
 intro cl
 induction cl with
 | nil => intro _; simp
 | cons c r ih =>
   intro h
   rw [List.flatten_cons,List.length_append,ih fun x hx => h x (by simp [hx]),h c (by simp),List.length_cons,Nat.add_mul]
   omega
theorem flat_at {z : Nat} : ∀ {cl : List (List Value)} {i : Nat} {e : List Value},(∀ c ∈ cl,c.length = z) → cl[i]? = some e → (cl.flatten.drop (i * z)).take z = e := by
 intro cl
 induction cl with
 | nil => intro i e _ h; simp at h
 | cons c r ih =>
   intro i e h hi
   have hc := h c (by simp)
   cases i with
   | zero =>
     simp at hi
     subst hi
     rw [Nat.zero_mul,List.drop_zero,List.flatten_cons,List.take_append_of_le_length (by omega),List.take_of_length_le (by omega)]
   | succ i =>
     have := ih (fun x hx => h x (by simp [hx])) (by simpa using hi : r[i]? = some e)
     rw [List.flatten_cons,Nat.add_mul,Nat.one_mul,Nat.add_comm,← List.drop_drop,List.drop_append_of_le_length (by omega)]
     rw [show c.drop z = [] by simp; omega,List.nil_append]
     exact this
theorem Gro.arr {K lo z T v cl} (h : Gro K lo z T v cl) : Arr K z v cl := by
 cases h with
 | nil => exact .nil
 | mk bb cl h1 h2 h3 h4 =>
   refine .mk bb 0 _ _ _ cl.flatten cl rfl (by simp [hcells,h2]) (flat_len h4) (by omega) fun i e hi => ?_
   rw [Nat.zero_add]
   exact flat_at h4 hi
theorem Gro.push {P : Program} {K : AHeap} {lo z by_ : Nat} {T Ts : TypeId} {v x : Value} {cl : List (List Value)} {c : List Value} (h : Gro K lo z T v cl) (hT : aElem P Ts = some (T,z,by_)) (hsq : isSeq P Ts = true) (hc : c.length = z) (hlo : lo ≤ K.length)
  (hx : aSrc K z x = some (1,c)) (hb : (cl.length + 1) * by_ ≤ 140737488355328) (hn : cl.length + 1 ≤ 9223372036854775807) :
  ∃ v' K',aBuiltin P K .append #[Ts,Ts] [v,x] = some (v',K') ∧ Gro K' lo z T v' (cl ++ [c]) ∧ (∀ b o,b < lo → K[b]? = some o → K'[b]? = some o) ∧ K.length ≤ K'.length ∧ (∀ H,Pre H K → H.length ≤ lo → Pre H K') := by
 cases h with
 | nil =>
   refine ⟨.slice (some ⟨K.length,0,some z⟩) 1 1,K ++ [.cells c T],?_,?_,fun b o hb ho => get_more ho,by simp,fun H p _ => p.more _⟩
   · have hb' : by_ ≤ 140737488355328 := by simpa using hb
     simp [aBuiltin,aAppend,hT,hx,hsq,hb',hc]
   · have := Gro.mk (K := K ++ [.cells c T]) (lo := lo) (z := z) (T := T) K.length [c] hlo (by simp) (by simp) (by simpa using hc)
     simpa using this
 | mk bb cl h1 h2 h3 h4 =>
   have hfl := flat_len h4
   have hlt := (List.getElem?_eq_some_iff.1 h2).1
   refine ⟨.slice (some ⟨bb,0,some ((cl.length + 1) * z)⟩) (cl.length + 1) (cl.length + 1),K.set bb (.cells (cl ++ [c]).flatten T),?_,?_,fun b o hb ho => by rw [List.getElem?_set_ne (by omega)]; exact ho,by simp,fun H p hH => p.set (by omega)⟩
   · have e1 : cl.length * z = cl.flatten.length := hfl.symm
     have e2 : ¬ cl.length + 1 ≤ cl.length := by omega
     simp only [aBuiltin,aAppend,hT,hx,hsq,if_true,h2,hfl,Nat.zero_add,Nat.le_refl,and_self,e2,if_false,hb,hn]
     have e3 : (cl.flatten.take (cl.length * z)) = cl.flatten := List.take_of_length_le (by omega)
     rw [e3]
     simp
   · have := Gro.mk (K := K.set bb (.cells (cl ++ [c]).flatten T)) (lo := lo) (z := z) (T := T) bb (cl ++ [c]) h1 (List.getElem?_set_self hlt) (by simp) (by
      intro x hx
      rw [List.mem_append] at hx
      rcases hx with hx | hx
      · exact h4 x hx
      · simp at hx; rw [hx]; exact hc)
     simpa using this
end Go.Vi
namespace Go.Vi
open Go Go.Proofs
def lexF (l : List UInt8) : Nat → Nat → List Tok × Option Nat
 | 0,_ => ([],none)
 | f + 1, a => if a < l.length then
     (if (oneF (l.drop a) a).2 = 0 then ([],some a)
      else ((oneF (l.drop a) a).1 :: (lexF l f (skipN l (a + (oneF (l.drop a) a).2))).1,(lexF l f (skipN l (a + (oneF (l.drop a) a).2))).2))
   else ([],none)
theorem oneF_le (s : List UInt8) (a : Nat) : (oneF s a).2 ≤ s.length := by
 unfold oneF
 cases s with
 | nil => simp
 | cons b r =>
   simp only
   split
   · exact runF_le _ _
   · split
     · exact numLen_le _
     · split
       · have := textF_len r.length r [] 1 (Nat.le_refl _); simp; omega
       · exact signF_le (b :: r)
theorem skipN_ge (l : List UInt8) (a : Nat) : a ≤ skipN l a := by unfold skipN; omega
def allTok (l : List UInt8) : List Tok × Nat × Int :=
 if 4096 < l.length then ([],0,3) else match (lexF l (l.length + 1) (skipN l 0)).2 with
  | none => ((lexF l (l.length + 1) (skipN l 0)).1,0,0)
  | some a => ([],a,90)
end Go.Vi
namespace Go.Vi
open Go Go.Proofs
@[simp] theorem nilV_ptr (b o m : Nat) : nilV (.pointer (some ⟨b,o,some m⟩)) = some (.pointer (some ⟨b,o,some m⟩)) := rfl
def isT (ts : List Tok) (a : Nat) (k : Int) (s : List UInt8) : Bool := (ts[a]?).any fun t => t.kind == k && t.text == s
theorem isT_lt {ts a k s} (h : isT ts a k s = true) : a < ts.length := by
 unfold isT at h
 by_cases ha : a < ts.length
 · exact ha
 · rw [List.getElem?_eq_none (by omega)] at h; cases h
end Go.Vi
namespace Go.Vi
open Go Go.Proofs
theorem bnd_of {x : Option Value} {v : Value} {q : QV} (h : x = some v) (k : q.f v) : @bnd x q := by rw [h,bnd_some]; exact k
def hasPre (l p : List UInt8) : Bool := decide (p.length ≤ l.length) && decide (l.take p.length = p)
def cutPre (l p : List UInt8) : List UInt8 := if hasPre l p = true then l.drop p.length else l
def scanF : List UInt8 → Nat → Int → Int × Bool
 | [],_,pt => (pt,true)
 | b :: r,i,pt => if isDig b = true then scanF r (i + 1) pt else if ((b.toNat : Int) == 46 && decide (pt < 0)) = true then scanF r (i + 1) i else (pt,false)
def cutT (s : List UInt8) (pt : Int) (ok : Bool) : List UInt8 × List UInt8 × Bool :=
 if pt < 0 then (s,[],ok) else (s.take pt.toNat,s.drop (pt.toNat + 1),ok && !decide (s.take pt.toNat = []) && !decide (s.drop (pt.toNat + 1) = []) && decide ((s.drop (pt.toNat + 1)).length ≤ 3))
def cutF (s : List UInt8) : List UInt8 × List UInt8 × Bool := cutT s (scanF s 0 (-1)).1 ((scanF s 0 (-1)).2 && !s.isEmpty)
def digF (x : Int) : List UInt8 → Int
 | [] => x
 | d :: r => if x > (maxFix - ((d.toNat : Int) - 48)).tdiv 10 then maxFix else digF (10 * x + ((d.toNat : Int) - 48)) r
def parF (s : List UInt8) : Int × Int :=
 let c := cutF (cutPre s [45])
 if c.2.2 = true then
  let x := digF 0 (c.1 ++ c.2.1 ++ List.replicate (3 - c.2.1.length) 48)
  (if hasPre s [45] = true then -x else x,0)
 else (0,10)
theorem scanF_pt : ∀ (r : List UInt8) (i : Nat) (pt : Int),0 ≤ pt → (scanF r i pt).2 = true → (scanF r i pt).1 = pt ∧ ∀ b ∈ r,isDig b = true := by
 intro r
 induction r with
 | nil => intro i pt _ _; simp [scanF]
 | cons b r ih =>
   intro i pt hp h
   have hp' : ¬ pt < 0 := by omega
   rw [scanF] at h ⊢
   by_cases hd : isDig b = true
   · rw [if_pos hd] at h ⊢
     obtain ⟨h1,h2⟩ := ih _ _ hp h
     refine ⟨h1,fun c hc => ?_⟩
     rcases List.mem_cons.1 hc with rfl | hc
     · exact hd
     · exact h2 c hc
   · rw [if_neg hd] at h
     simp [hp'] at h
theorem scanF_none : ∀ (r : List UInt8) (i : Nat),(scanF r i (-1)).2 = true → ((scanF r i (-1)).1 = -1 ∧ ∀ b ∈ r,isDig b = true) ∨
  ∃ j : Nat,(scanF r i (-1)).1 = ((i + j : Nat) : Int) ∧ j < r.length ∧ (∀ b ∈ r.take j,isDig b = true) ∧ ∀ b ∈ r.drop (j + 1),isDig b = true := by
 intro r
 induction r with
 | nil => intro i _; left; simp [scanF]
 | cons b r ih =>
   intro i h
   rw [scanF] at h ⊢
   by_cases hd : isDig b = true
   · rw [if_pos hd] at h ⊢
     rcases ih _ h with ⟨h1,h2⟩ | ⟨j,h1,h2,h3,h4⟩
     · left
       refine ⟨h1,fun c hc => ?_⟩
       rcases List.mem_cons.1 hc with rfl | hc
       · exact hd
       · exact h2 c hc
     · right
       refine ⟨j + 1,by rw [h1]; congr 1; omega,by simp; omega,fun c hc => ?_,by simpa using h4⟩
       rw [List.take_succ_cons] at hc
       rcases List.mem_cons.1 hc with rfl | hc
       · exact hd
       · exact h3 c hc
   · rw [if_neg hd] at h ⊢
     split at h
     · rename_i hq
       rw [if_pos hq]
       obtain ⟨h1,h2⟩ := scanF_pt r (i + 1) i (by omega) h
       exact .inr ⟨0,by rw [h1]; rfl,by simp,by simp,by simpa using h2⟩
     · cases h
theorem cutF_ok {s : List UInt8} (h : (cutF s).2.2 = true) : (∀ b ∈ (cutF s).1 ++ (cutF s).2.1,isDig b = true) ∧ (cutF s).2.1.length ≤ 3 ∧ (cutF s).1.length + (cutF s).2.1.length ≤ s.length := by
 unfold cutF cutT at *
 by_cases hp : (scanF s 0 (-1)).1 < 0
 · simp only [if_pos hp] at h ⊢
   simp only [Bool.and_eq_true] at h
   rcases scanF_none s 0 h.1 with ⟨h1,h2⟩ | ⟨j,h1,_⟩
   · simp; exact h2
   · rw [h1] at hp; omega
 · simp only [if_neg hp] at h ⊢
   simp only [Bool.and_eq_true,decide_eq_true_eq] at h
   rcases scanF_none s 0 h.1.1.1.1 with ⟨h1,h2⟩ | ⟨j,h1,h2,h3,h4⟩
   · rw [h1] at hp; omega
   · rw [h1] at h ⊢
     simp only [Nat.zero_add,Int.toNat_natCast] at h ⊢
     refine ⟨fun b hb => ?_,h.2,?_⟩
     · rcases List.mem_append.1 hb with hb | hb
       · exact h3 b hb
       · exact h4 b hb
     · simp; omega
theorem digF_range : ∀ (l : List UInt8) (x : Int),(∀ b ∈ l,isDig b = true) → 0 ≤ x → x ≤ maxFix → 0 ≤ digF x l ∧ digF x l ≤ maxFix := by
 intro l
 induction l with
 | nil => intro x _ h1 h2; exact ⟨h1,h2⟩
 | cons d r ih =>
   intro x hd h1 h2
   have h := hd d (by simp)
   simp only [isDig,Bool.and_eq_true,decide_eq_true_eq] at h
   rw [digF]
   split
   · simp [maxFix]
   · rename_i hx
     have : x ≤ (maxFix - ((d.toNat : Int) - 48)).tdiv 10 := by omega
     have h3 : (maxFix - ((d.toNat : Int) - 48)).tdiv 10 * 10 ≤ maxFix - ((d.toNat : Int) - 48) := by
      rw [Int.tdiv_eq_ediv_of_nonneg (by simp [maxFix]; omega)]; omega
     exact ih _ (fun b hb => hd b (by simp [hb])) (by omega) (by omega)
end Go.Vi
namespace Go.Vi
open Go Go.Proofs
def natF (n : Int) : List UInt8 → Int
 | [] => n
 | d :: r => natF (10 * n + ((d.toNat : Int) - 48)) r
theorem arr_strs {H : AHeap} (l : List (List UInt8)) (T : TypeId) (n : Nat) (hn : n = l.length) : Arr (H ++ [AObj.cells (l.map str) T]) 1 (.slice (some ⟨H.length,0,some n⟩) n n) (strCells l) := by
 subst hn
 refine .mk H.length 0 _ _ _ (l.map str) _ (by simp [strCells]) (by simp [hcells_eq,AObj.rcells]) (by simp) (by simp) fun i e hi => ?_
 simp [strCells] at hi
 obtain ⟨b,hb,rfl⟩ := hi
 rw [Nat.zero_add,Nat.mul_one,← List.map_drop,← List.map_take]
 have : (l.drop i).take 1 = [b] := by
  have hlt := (List.getElem?_eq_some_iff.1 hb).1
  rw [List.drop_eq_getElem_cons hlt,(List.getElem?_eq_some_iff.1 hb).2]; rfl
 rw [this]; rfl
end Go.Vi
namespace Go.Vi
open Go Go.Proofs
def atoF (l : List UInt8) : Option Int := if l ≠ [] ∧ l.all isDig = true ∧ natF 0 l ≤ 9223372036854775807 then some (natF 0 l) else none
theorem natF_ge : ∀ (l : List UInt8) (n : Int),0 ≤ n → l.all isDig = true → 0 ≤ natF n l := by
 intro l
 induction l with
 | nil => intro n h _; exact h
 | cons d r ih =>
   intro n h hd
   simp only [List.all_cons,Bool.and_eq_true] at hd
   have hdd := hd.1
   simp only [isDig,Bool.and_eq_true,decide_eq_true_eq] at hdd
   exact ih _ (by omega) hd.2
end Go.Vi
namespace Go.Vi
open Go Go.Proofs
def len2 (n : Nat) : Nat := if n = 0 then 0 else Nat.log2 n + 1
theorem len2_bd {n : Nat} (h : 0 < n) : 2 ^ (len2 n - 1) ≤ n ∧ n < 2 ^ len2 n ∧ 1 ≤ len2 n := by
 unfold len2
 rw [if_neg (by omega)]
 exact ⟨by simpa using Nat.log2_self_le (by omega),Nat.lt_log2_self,by omega⟩
def nlog (L : Nat) : Nat := L * 78913 / 2 ^ 18
theorem nlog_ok : ∀ L : Nat,L < 65 → 1 ≤ L → nlog L < 20 ∧ 2 ^ L ≤ 10 ^ (nlog L + 1) ∧ 10 ^ (nlog L - 1) ≤ 2 ^ (L - 1) ∧ (nlog L = 0 → L ≤ 3) := by decide +kernel
def ndig (n : Nat) : Nat := nlog (len2 n) + if 10 ^ nlog (len2 n) ≤ n then 1 else 0
theorem ndig_ok {n : Nat} (h0 : 0 < n) (hn : n < 2 ^ 64) : 1 ≤ ndig n ∧ ndig n ≤ 20 ∧ n < 10 ^ ndig n ∧ 10 ^ (ndig n - 1) ≤ n := by
 obtain ⟨h1,h2,h3⟩ := len2_bd h0
 have hL : len2 n < 65 := by
  rcases Nat.lt_or_ge (len2 n) 65 with h | h
  · exact h
  · have := Nat.pow_le_pow_right (by omega : 0 < 2) (show 64 ≤ len2 n - 1 by omega)
    omega
 obtain ⟨q1,q2,q3,q4⟩ := nlog_ok _ hL h3
 unfold ndig
 by_cases hc : 10 ^ nlog (len2 n) ≤ n
 · rw [if_pos hc]
   exact ⟨by omega,by omega,by omega,by simpa using hc⟩
 · rw [if_neg hc,Nat.add_zero]
   refine ⟨?_,by omega,by omega,by omega⟩
   rcases Nat.eq_zero_or_pos (nlog (len2 n)) with hz | hz
   · rw [hz] at hc; simp at hc; omega
   · exact hz
end Go.Vi
namespace Go.Vi
open Go Go.Proofs Go.Proofs.Try
-- tocsin/tocsinref10.matcher
def L91x0 (n : Nat) (k : Value → AHeap → Prop) (sl : List Value) (H : AHeap) : Prop := kitG prog (drawKeep prog) (cl (cl (cr (cl (cr (cb Try.f91)))))) n (kblkG 0 (kseqG prog (drawKeep prog) (cr (cr (cb Try.f91)))
 (kfinG prog Try.f91 k))) .normal sl H []
theorem d91 (a0 a1 : Value) (H : AHeap) (k : Value → AHeap → Prop) : kbodyG prog (drawKeep prog) Try.f91 [a0,a1] H k = (@bndE (aAlloc prog H 52) ⟨fun v4x1 H2 => ∃ n,L91x0 n  k [a0,a1,undef,undef,v4x1,(.int .i64
 0),(.int .i64 0),undef,undef,undef,undef,undef,undef,undef,undef,undef,undef,undef,undef,undef,undef,undef,undef,undef,undef,undef,undef,undef,undef,undef,undef,undef,undef,undef,undef,undef,
 undef,undef,undef,undef,undef,undef,undef,undef,undef] H2⟩) := by kernel_rfl
theorem L91x0q (n0 : Nat) (s0 s1 s2 s3 s4 s5 s6 s7 s8 s9 s10 s11 s12 s13 s14 s15 s16 s17 s18 s19 s20 s21 s22 s23 s24 s25 s26 s27 s28 s29 s30 s31 s32 s33 s34 s35 s36 s37 s38 s39 s40 s41 s42 s43 s44 : Value) (H : AHeap) (k : Value
 → AHeap → Prop) : L91x0 (n0 + 1) k [s0,s1,s2,s3,s4,s5,s6,s7,s8,s9,s10,s11,s12,s13,s14,s15,s16,s17,s18,s19,s20,s21,s22,s23,s24,s25,s26,s27,s28,s29,s30,s31,s32,s33,s34,s35,s36,s37,s38,s39,
 s40,s41,s42,s43,s44] H = (@bnd (aBin2 prog H .lss 3 (.tmp 7) (.const (.int .i64 3)) s6 (.int .i64 3)) ⟨fun v8x3 => @kifB v8x3 ⟨@bndC prog 81 [s0,s1,(.int .u8 1),(.string { data := #[42] })] H ⟨fun v13x4 H5 =>
 @bnd (gif v13x4 true ((some s0)) undef) ⟨fun v15x6 => @bnd (gif v13x4 true ((some s1)) undef) ⟨fun v16x7 => @bnd (gif v13x4 true (aBin2 prog H5 .add 3 (.tmp 16) (.const (.int .i64 1)) v16x7 (.int .i64 1)) undef) ⟨fun v17x8
 => @bnd (gif v13x4 true ((some s6)) undef) ⟨fun v18x9 => @bndG v13x4 true H5 ⟨fun v19x10 H11 => ACalls prog 96 [v18x9] H5 v19x10 H11⟩ ⟨fun v19x10 H11 => @bndG v13x4 true H11 ⟨fun v20x12 H13 => ACalls prog 81 [v15x6,
 v17x8,(.int .u8 4),v19x10] H11 v20x12 H13⟩ ⟨fun v20x12 H13 => @bnd (pickV v13x4 v20x12 (.bool false)) ⟨fun v21x14 => @bnd (gif v21x14 true ((some s0)) undef) ⟨fun v23x15 => @bnd (gif v21x14 true ((some s1)) undef) ⟨fun v24x16
 => @bnd (gif v21x14 true (aBin2 prog H13 .add 3 (.tmp 24) (.const (.int .i64 2)) v24x16 (.int .i64 2)) undef) ⟨fun v25x17 => @bndG v21x14 true H13 ⟨fun v26x18 H19 => ACalls prog 81 [v23x15,v25x17,(.int .u8 3),
 (.string { data := #[42] })] H13 v26x18 H19⟩ ⟨fun v26x18 H19 => @bnd (pickV v21x14 v26x18 (.bool false)) ⟨fun v27x20 => @kifB v27x20 ⟨@bnd ((some s0)) ⟨fun v28x21 => @bnd ((some s1)) ⟨fun v29x22 => @bnd (aIndexAddr prog H19
 90 v28x21 v29x22) ⟨fun v30x23 => @bnd (aFieldAddr prog H19 105 v30x23 1) ⟨fun v31x24 => @bnd (aLoad prog H19 9 v31x24) ⟨fun v32x25 => @bnd ((some s6)) ⟨fun v33x26 => @bnd (convV prog H19 3 5 v33x26) ⟨fun v34x27 =>
 @bnd ((some s0)) ⟨fun v35x28 => @bnd ((some s1)) ⟨fun v36x29 => @bnd (aBin2 prog H19 .add 3 (.tmp 36) (.const (.int .i64 2)) v36x29 (.int .i64 2)) ⟨fun v37x30 => @bnd (aIndexAddr prog H19 90 v35x28 v37x30) ⟨fun v38x31
 => @bnd (aFieldAddr prog H19 105 v38x31 1) ⟨fun v39x32 => @bnd (aLoad prog H19 9 v39x32) ⟨fun v40x33 => @bnd (buildV prog 52 [(0,v32x25),(1,v34x27),(2,v40x33)]) ⟨fun v41x34 => @bnd ((some s1)) ⟨fun v42x35 =>
 @bnd (aBin2 prog H19 .add 3 (.tmp 42) (.const (.int .i64 3)) v42x35 (.int .i64 3)) ⟨fun v43x36 => @bndK false true H19 ⟨fun x37 H38 => x37 = undef ∧ aStore prog H19 52 s4 v41x34 = some H38⟩ ⟨fun _ H38 => aBin2 prog
 H38 .add 3 (.tmp 42) (.const (.int .i64 3)) v42x35 (.int .i64 3) = some v43x36 ∧ True⟩ ⟨fun _ H38 => @bnd ((some v43x36)) ⟨fun v5x39 => ∃ r40,aLoad prog H38 52 s4 = some r40 ∧ k (.tuple #[r40,v5x39])
 H38⟩⟩⟩⟩⟩⟩⟩⟩⟩⟩⟩⟩⟩⟩⟩⟩⟩⟩⟩ ⟨@bnd (aBin2 prog H19 .add 3 (.tmp 9) (.const (.int .i64 1)) s6 (.int .i64 1)) ⟨fun v10x41 => L91x0 n0  k [s0,s1,s2,s3,s4,s5,v10x41,s6,v8x3,s6,v10x41,s0,s1,v13x4,v13x4,v15x6,v16x7,
 v17x8,v18x9,v19x10,v20x12,v21x14,v21x14,v23x15,v24x16,v25x17,v26x18,v27x20,s28,s29,s30,s31,s32,s33,s34,s35,s36,s37,s38,s39,s40,s41,s42,s43,s44] H19⟩⟩⟩⟩⟩⟩⟩⟩⟩⟩⟩⟩⟩⟩⟩⟩ ⟨@bnd (buildV prog 52 []) ⟨fun
 v44x42 => @bndS (aStore prog H 52 s4 v44x42) ⟨fun _ H44 => ∃ r45,aLoad prog H44 52 s4 = some r45 ∧ k (.tuple #[r45,(.int .i64 (-1))]) H44⟩⟩⟩⟩) := by kernel_rfl
-- tocsin/tocsinref10.Same
def L32x0 (n : Nat) (k : Value → AHeap → Prop) (sl : List Value) (H : AHeap) : Prop := kitG prog (drawPairK prog) (cl (cl (cr (cl (cr (cr (cb Try.f32))))))) n (kblkG 0 (kseqG prog (drawPairK prog) (cr (cr (cr (cb
 Try.f32)))) (kfinG prog Try.f32 k))) .normal sl H []
theorem d32 (a0 a1 : Value) (H : AHeap) (k : Value → AHeap → Prop) : kbodyG prog (drawPairK prog) Try.f32 [a0,a1] H k = (@bnd (aLen prog H 22 a0) ⟨fun v9x1 => @bnd (aLen prog H 22 a1) ⟨fun v11x2 => @bnd (aBin2
 prog H .neq 3 (.tmp 9) (.tmp 11) v9x1 v11x2) ⟨fun v12x3 => @kifB v12x3 ⟨k (.bool false) H⟩ ⟨∃ n,L32x0 n  k [a0,a1,undef,undef,(.bool false),(.int .i64 0),undef,undef,a0,v9x1,a1,v11x2,v12x3,undef,undef,undef,
 undef,undef,undef,undef,undef,undef,undef,undef,undef,undef,undef,undef,undef,undef,undef,undef,undef,undef,undef,undef,undef,undef,undef,undef,undef,undef,undef,undef,undef,undef,undef,undef,
 undef,undef,undef,undef,undef,undef,undef,undef,undef,undef,undef,undef,undef,undef,undef,undef,undef,undef,undef,undef,undef,undef,undef,undef,undef,undef,undef,undef,undef,undef,undef,undef,
 undef,undef] H⟩⟩⟩⟩) := by kernel_rfl
theorem L32x0q (n0 : Nat) (s0 s1 s2 s3 s4 s5 s6 s7 s8 s9 s10 s11 s12 s13 s14 s15 s16 s17 s18 s19 s20 s21 s22 s23 s24 s25 s26 s27 s28 s29 s30 s31 s32 s33 s34 s35 s36 s37 s38 s39 s40 s41 s42 s43 s44 s45 s46 s47 s48 s49 s50 s51 s52
 s53 s54 s55 s56 s57 s58 s59 s60 s61 s62 s63 s64 s65 s66 s67 s68 s69 s70 s71 s72 s73 s74 s75 s76 s77 s78 s79 s80 s81 : Value) (H : AHeap) (k : Value → AHeap → Prop) : L32x0 (n0 + 1) k [s0,s1,s2,s3,s4,s5,s6,s7,s8,s9,
 s10,s11,s12,s13,s14,s15,s16,s17,s18,s19,s20,s21,s22,s23,s24,s25,s26,s27,s28,s29,s30,s31,s32,s33,s34,s35,s36,s37,s38,s39,s40,s41,s42,s43,s44,s45,s46,s47,s48,s49,s50,s51,s52,s53,s54,
 s55,s56,s57,s58,s59,s60,s61,s62,s63,s64,s65,s66,s67,s68,s69,s70,s71,s72,s73,s74,s75,s76,s77,s78,s79,s80,s81] H = (@bnd (aLen prog H 22 s0) ⟨fun v15x4 => @bnd (aBin2 prog H .lss 3 (.tmp 13)
 (.tmp 15) s5 v15x4) ⟨fun v16x5 => @kifB v16x5 ⟨(@bnd ((some s0)) ⟨fun v19x6 => @bnd ((some s5)) ⟨fun v20x7 => @bnd (aIndexAddr prog H 22 v19x6 v20x7) ⟨fun v21x8 => @bnd (aLoad prog H 50 v21x8) ⟨fun v22x9 => @bnd ((some
 s1)) ⟨fun v23x10 => @bnd ((some s5)) ⟨fun v24x11 => @bnd (aIndexAddr prog H 22 v23x10 v24x11) ⟨fun v25x12 => @bnd (aLoad prog H 50 v25x12) ⟨fun v26x13 => @bndK false true H ⟨fun v6x14 H15 => aAlloc prog H 50 = some
 (v6x14,H15)⟩ ⟨fun _ H15 => aLoad prog H15 50 v25x12 = some v26x13 ∧ aIndexAddr prog H15 22 v23x10 v24x11 = some v25x12 ∧ aLoad prog H15 50 v21x8 = some v22x9 ∧ aIndexAddr prog H15 22 v19x6 v20x7 = some v21x8 ∧
 True⟩ ⟨fun v6x14 H15 => @bndK false true H15 ⟨fun v7x16 H17 => aAlloc prog H15 50 = some (v7x16,H17)⟩ ⟨fun _ H17 => aLoad prog H17 50 v25x12 = some v26x13 ∧ aIndexAddr prog H17 22 v23x10 v24x11 = some v25x12 ∧
 aLoad prog H17 50 v21x8 = some v22x9 ∧ aIndexAddr prog H17 22 v19x6 v20x7 = some v21x8 ∧ True⟩ ⟨fun v7x16 H17 => @bndK false true H17 ⟨fun x18 H19 => x18 = undef ∧ aStore prog H17 50 v6x14 v22x9 = some H19⟩ ⟨fun _
 H19 => aLoad prog H19 50 v25x12 = some v26x13 ∧ aIndexAddr prog H19 22 v23x10 v24x11 = some v25x12 ∧ True⟩ ⟨fun _ H19 => @bndK true true H19 ⟨fun x20 H21 => x20 = undef ∧ aStore prog H19 50 v7x16 v26x13 = some H21⟩
 ⟨fun _ _ => True⟩ ⟨fun _ H21 => @bnd (aFieldAddr prog H21 50 v6x14 0) ⟨fun v27x22 => @bnd (aLoad prog H21 5 v27x22) ⟨fun v28x23 => @bnd (aFieldAddr prog H21 50 v7x16 0) ⟨fun v29x24 => @bnd (aLoad prog H21 5
 v29x24) ⟨fun v30x25 => @bnd (aBin2 prog H21 .neq 5 (.tmp 28) (.tmp 30) v28x23 v30x25) ⟨fun v31x26 => @bnd (gif v31x26 false (aFieldAddr prog H21 50 v6x14 1) undef) ⟨fun v33x27 => @bnd (gif v31x26 false (aLoad prog
 H21 5 v33x27) undef) ⟨fun v34x28 => @bnd (gif v31x26 false (aFieldAddr prog H21 50 v7x16 1) undef) ⟨fun v35x29 => @bnd (gif v31x26 false (aLoad prog H21 5 v35x29) undef) ⟨fun v36x30 => @bnd (gif v31x26 false (aBin2
 prog H21 .neq 5 (.tmp 34) (.tmp 36) v34x28 v36x30) undef) ⟨fun v37x31 => @bnd (pickV v31x26 (.bool true) v37x31) ⟨fun v38x32 => @bnd (gif v38x32 false (aFieldAddr prog H21 50 v6x14 2) undef) ⟨fun v40x33 => @bnd (gif
 v38x32 false (aLoad prog H21 48 v40x33) undef) ⟨fun v41x34 => @bnd (gif v38x32 false (aFieldAddr prog H21 50 v7x16 2) undef) ⟨fun v42x35 => @bnd (gif v38x32 false (aLoad prog H21 48 v42x35) undef) ⟨fun v43x36 =>
 @bndG v38x32 false H21 ⟨fun v44x37 H38 => ACalls prog 49 [v41x34,v43x36] H21 v44x37 H38⟩ ⟨fun v44x37 H38 => @bnd (gif v38x32 false (unV prog .not v44x37) undef) ⟨fun v45x39 => @bnd (pickV v38x32 (.bool true) v45x39)
 ⟨fun v46x40 => @bnd (gif v46x40 false (aFieldAddr prog H38 50 v6x14 3) undef) ⟨fun v48x41 => @bnd (gif v46x40 false (aLoad prog H38 3 v48x41) undef) ⟨fun v49x42 => @bnd (gif v46x40 false (aFieldAddr prog H38 50
 v7x16 3) undef) ⟨fun v50x43 => @bnd (gif v46x40 false (aLoad prog H38 3 v50x43) undef) ⟨fun v51x44 => @bnd (gif v46x40 false (aBin2 prog H38 .neq 3 (.tmp 49) (.tmp 51) v49x42 v51x44) undef) ⟨fun v52x45 => @bnd (pickV
 v46x40 (.bool true) v52x45) ⟨fun v53x46 => @bnd (gif v53x46 false (aFieldAddr prog H38 50 v6x14 4) undef) ⟨fun v55x47 => @bnd (gif v53x46 false (aLoad prog H38 5 v55x47) undef) ⟨fun v56x48 => @bnd (gif v53x46 false
 (aFieldAddr prog H38 50 v7x16 4) undef) ⟨fun v57x49 => @bnd (gif v53x46 false (aLoad prog H38 5 v57x49) undef) ⟨fun v58x50 => @bnd (gif v53x46 false (aBin2 prog H38 .neq 5 (.tmp 56) (.tmp 58) v56x48 v58x50) undef)
 ⟨fun v59x51 => @bnd (pickV v53x46 (.bool true) v59x51) ⟨fun v60x52 => @bnd (gif v60x52 false (aFieldAddr prog H38 50 v6x14 5) undef) ⟨fun v62x53 => @bnd (gif v60x52 false (aLoad prog H38 2 v62x53) undef) ⟨fun v63x54 =>
 @bnd (gif v60x52 false (aFieldAddr prog H38 50 v7x16 5) undef) ⟨fun v64x55 => @bnd (gif v60x52 false (aLoad prog H38 2 v64x55) undef) ⟨fun v65x56 => @bnd (gif v60x52 false (aBin2 prog H38 .neq 2 (.tmp 63) (.tmp 65)
 v63x54 v65x56) undef) ⟨fun v66x57 => @bnd (pickV v60x52 (.bool true) v66x57) ⟨fun v67x58 => @bnd (gif v67x58 false (aFieldAddr prog H38 50 v6x14 6) undef) ⟨fun v69x59 => @bnd (gif v67x58 false (aLoad prog H38 3 v69x59)
 undef) ⟨fun v70x60 => @bnd (gif v67x58 false (aFieldAddr prog H38 50 v7x16 6) undef) ⟨fun v71x61 => @bnd (gif v67x58 false (aLoad prog H38 3 v71x61) undef) ⟨fun v72x62 => @bnd (gif v67x58 false (aBin2 prog H38 .neq
 3 (.tmp 70) (.tmp 72) v70x60 v72x62) undef) ⟨fun v73x63 => @bnd (pickV v67x58 (.bool true) v73x63) ⟨fun v74x64 => @bnd (gif v74x64 false (aFieldAddr prog H38 50 v6x14 7) undef) ⟨fun v76x65 => @bnd (gif v74x64 false (aLoad
 prog H38 3 v76x65) undef) ⟨fun v77x66 => @bnd (gif v74x64 false (aFieldAddr prog H38 50 v7x16 7) undef) ⟨fun v78x67 => @bnd (gif v74x64 false (aLoad prog H38 3 v78x67) undef) ⟨fun v79x68 => @bnd (gif v74x64 false
 (aBin2 prog H38 .neq 3 (.tmp 77) (.tmp 79) v77x66 v79x68) undef) ⟨fun v80x69 => @bnd (pickV v74x64 (.bool true) v80x69) ⟨fun v81x70 => @kifB v81x70 ⟨k (.bool false) H38⟩ ⟨@bnd (aBin2 prog H38 .add 3 (.tmp 17) (.const
 (.int .i64 1)) s5 (.int .i64 1)) ⟨fun v18x71 => L32x0 n0  k [s0,s1,s2,s3,s4,v18x71,v6x14,v7x16,s8,s9,s10,s11,s12,s5,s0,v15x4,v16x5,s5,v18x71,v19x6,v20x7,v21x8,v22x9,v23x10,v24x11,v25x12,v26x13,v27x22,
 v28x23,v29x24,v30x25,v31x26,v31x26,v33x27,v34x28,v35x29,v36x30,v37x31,v38x32,v38x32,v40x33,v41x34,v42x35,v43x36,v44x37,v45x39,v46x40,v46x40,v48x41,v49x42,v50x43,v51x44,v52x45,v53x46,v53x46,v55x47,
 v56x48,v57x49,v58x50,v59x51,v60x52,v60x52,v62x53,v63x54,v64x55,v65x56,v66x57,v67x58,v67x58,v69x59,v70x60,v71x61,v72x62,v73x63,v74x64,v74x64,v76x65,v77x66,v78x67,v79x68,v80x69,v81x70]
 H38⟩⟩⟩⟩⟩⟩⟩⟩⟩⟩⟩⟩⟩⟩⟩⟩⟩⟩⟩⟩⟩⟩⟩⟩⟩⟩⟩⟩⟩⟩⟩⟩⟩⟩⟩⟩⟩⟩⟩⟩⟩⟩⟩⟩⟩⟩⟩⟩⟩⟩⟩⟩⟩⟩⟩⟩⟩⟩⟩⟩⟩⟩ ∧ @bnd ((some s0)) ⟨fun v19x72 => @bnd ((some s5)) ⟨fun v20x73 => @bnd (aIndexAddr prog H 22 v19x72 v20x73) ⟨fun v21x74 => @bnd (aLoad prog H 50 v21x74)
 ⟨fun v22x75 => @bnd ((some s1)) ⟨fun v23x76 => @bnd ((some s5)) ⟨fun v24x77 => @bnd (aIndexAddr prog H 22 v23x76 v24x77) ⟨fun v25x78 => @bnd (aLoad prog H 50 v25x78) ⟨fun v26x79 => @bndK false true H ⟨fun v7x80 H81 =>
 aAlloc prog H 50 = some (v7x80,H81)⟩ ⟨fun _ H81 => aLoad prog H81 50 v25x78 = some v26x79 ∧ aIndexAddr prog H81 22 v23x76 v24x77 = some v25x78 ∧ aLoad prog H81 50 v21x74 = some v22x75 ∧ aIndexAddr prog H81
 22 v19x72 v20x73 = some v21x74 ∧ True⟩ ⟨fun v7x80 H81 => @bndK false true H81 ⟨fun v6x82 H83 => aAlloc prog H81 50 = some (v6x82,H83)⟩ ⟨fun _ H83 => aLoad prog H83 50 v25x78 = some v26x79 ∧ aIndexAddr prog H83 22
 v23x76 v24x77 = some v25x78 ∧ aLoad prog H83 50 v21x74 = some v22x75 ∧ aIndexAddr prog H83 22 v19x72 v20x73 = some v21x74 ∧ True⟩ ⟨fun v6x82 H83 => @bndK false true H83 ⟨fun x84 H85 => x84 = undef ∧ aStore prog H83
 50 v6x82 v22x75 = some H85⟩ ⟨fun _ H85 => aLoad prog H85 50 v25x78 = some v26x79 ∧ aIndexAddr prog H85 22 v23x76 v24x77 = some v25x78 ∧ True⟩ ⟨fun _ H85 => @bndK true true H85 ⟨fun x86 H87 => x86 = undef ∧ aStore
 prog H85 50 v7x80 v26x79 = some H87⟩ ⟨fun _ _ => True⟩ ⟨fun _ H87 => @bnd (aFieldAddr prog H87 50 v6x82 0) ⟨fun v27x88 => @bnd (aLoad prog H87 5 v27x88) ⟨fun v28x89 => @bnd (aFieldAddr prog H87 50 v7x80 0) ⟨fun
 v29x90 => @bnd (aLoad prog H87 5 v29x90) ⟨fun v30x91 => @bnd (aBin2 prog H87 .neq 5 (.tmp 28) (.tmp 30) v28x89 v30x91) ⟨fun v31x92 => @bnd (gif v31x92 false (aFieldAddr prog H87 50 v6x82 1) undef) ⟨fun v33x93 =>
 @bnd (gif v31x92 false (aLoad prog H87 5 v33x93) undef) ⟨fun v34x94 => @bnd (gif v31x92 false (aFieldAddr prog H87 50 v7x80 1) undef) ⟨fun v35x95 => @bnd (gif v31x92 false (aLoad prog H87 5 v35x95) undef) ⟨fun
 v36x96 => @bnd (gif v31x92 false (aBin2 prog H87 .neq 5 (.tmp 34) (.tmp 36) v34x94 v36x96) undef) ⟨fun v37x97 => @bnd (pickV v31x92 (.bool true) v37x97) ⟨fun v38x98 => @bnd (gif v38x98 false (aFieldAddr prog H87 50
 v6x82 2) undef) ⟨fun v40x99 => @bnd (gif v38x98 false (aLoad prog H87 48 v40x99) undef) ⟨fun v41x100 => @bnd (gif v38x98 false (aFieldAddr prog H87 50 v7x80 2) undef) ⟨fun v42x101 => @bnd (gif v38x98 false (aLoad
 prog H87 48 v42x101) undef) ⟨fun v43x102 => @bndG v38x98 false H87 ⟨fun v44x103 H104 => ACalls prog 49 [v41x100,v43x102] H87 v44x103 H104⟩ ⟨fun v44x103 H104 => @bnd (gif v38x98 false (unV prog .not v44x103) undef)
 ⟨fun v45x105 => @bnd (pickV v38x98 (.bool true) v45x105) ⟨fun v46x106 => @bnd (gif v46x106 false (aFieldAddr prog H104 50 v6x82 3) undef) ⟨fun v48x107 => @bnd (gif v46x106 false (aLoad prog H104 3 v48x107) undef) ⟨fun
 v49x108 => @bnd (gif v46x106 false (aFieldAddr prog H104 50 v7x80 3) undef) ⟨fun v50x109 => @bnd (gif v46x106 false (aLoad prog H104 3 v50x109) undef) ⟨fun v51x110 => @bnd (gif v46x106 false (aBin2 prog H104 .neq 3
 (.tmp 49) (.tmp 51) v49x108 v51x110) undef) ⟨fun v52x111 => @bnd (pickV v46x106 (.bool true) v52x111) ⟨fun v53x112 => @bnd (gif v53x112 false (aFieldAddr prog H104 50 v6x82 4) undef) ⟨fun v55x113 => @bnd (gif v53x112 false
 (aLoad prog H104 5 v55x113) undef) ⟨fun v56x114 => @bnd (gif v53x112 false (aFieldAddr prog H104 50 v7x80 4) undef) ⟨fun v57x115 => @bnd (gif v53x112 false (aLoad prog H104 5 v57x115) undef) ⟨fun v58x116 => @bnd
 (gif v53x112 false (aBin2 prog H104 .neq 5 (.tmp 56) (.tmp 58) v56x114 v58x116) undef) ⟨fun v59x117 => @bnd (pickV v53x112 (.bool true) v59x117) ⟨fun v60x118 => @bnd (gif v60x118 false (aFieldAddr prog H104 50 v6x82 5)
 undef) ⟨fun v62x119 => @bnd (gif v60x118 false (aLoad prog H104 2 v62x119) undef) ⟨fun v63x120 => @bnd (gif v60x118 false (aFieldAddr prog H104 50 v7x80 5) undef) ⟨fun v64x121 => @bnd (gif v60x118 false (aLoad prog
 H104 2 v64x121) undef) ⟨fun v65x122 => @bnd (gif v60x118 false (aBin2 prog H104 .neq 2 (.tmp 63) (.tmp 65) v63x120 v65x122) undef) ⟨fun v66x123 => @bnd (pickV v60x118 (.bool true) v66x123) ⟨fun v67x124 => @bnd (gif v67x124
 false (aFieldAddr prog H104 50 v6x82 6) undef) ⟨fun v69x125 => @bnd (gif v67x124 false (aLoad prog H104 3 v69x125) undef) ⟨fun v70x126 => @bnd (gif v67x124 false (aFieldAddr prog H104 50 v7x80 6) undef) ⟨fun v71x127
 => @bnd (gif v67x124 false (aLoad prog H104 3 v71x127) undef) ⟨fun v72x128 => @bnd (gif v67x124 false (aBin2 prog H104 .neq 3 (.tmp 70) (.tmp 72) v70x126 v72x128) undef) ⟨fun v73x129 => @bnd (pickV v67x124 (.bool true)
 v73x129) ⟨fun v74x130 => @bnd (gif v74x130 false (aFieldAddr prog H104 50 v6x82 7) undef) ⟨fun v76x131 => @bnd (gif v74x130 false (aLoad prog H104 3 v76x131) undef) ⟨fun v77x132 => @bnd (gif v74x130 false (aFieldAddr
 prog H104 50 v7x80 7) undef) ⟨fun v78x133 => @bnd (gif v74x130 false (aLoad prog H104 3 v78x133) undef) ⟨fun v79x134 => @bnd (gif v74x130 false (aBin2 prog H104 .neq 3 (.tmp 77) (.tmp 79) v77x132 v79x134) undef)
 ⟨fun v80x135 => @bnd (pickV v74x130 (.bool true) v80x135) ⟨fun v81x136 => @kifB v81x136 ⟨k (.bool false) H104⟩ ⟨@bnd (aBin2 prog H104 .add 3 (.tmp 17) (.const (.int .i64 1)) s5 (.int .i64 1)) ⟨fun v18x137 => L32x0 n0  k
 [s0,s1,s2,s3,s4,v18x137,v6x82,v7x80,s8,s9,s10,s11,s12,s5,s0,v15x4,v16x5,s5,v18x137,v19x72,v20x73,v21x74,v22x75,v23x76,v24x77,v25x78,v26x79,v27x88,v28x89,v29x90,v30x91,v31x92,v31x92,v33x93,
 v34x94,v35x95,v36x96,v37x97,v38x98,v38x98,v40x99,v41x100,v42x101,v43x102,v44x103,v45x105,v46x106,v46x106,v48x107,v49x108,v50x109,v51x110,v52x111,v53x112,v53x112,v55x113,v56x114,v57x115,v58x116,v59x117,
 v60x118,v60x118,v62x119,v63x120,v64x121,v65x122,v66x123,v67x124,v67x124,v69x125,v70x126,v71x127,v72x128,v73x129,v74x130,v74x130,v76x131,v77x132,v78x133,v79x134,v80x135,v81x136]
 H104⟩⟩⟩⟩⟩⟩⟩⟩⟩⟩⟩⟩⟩⟩⟩⟩⟩⟩⟩⟩⟩⟩⟩⟩⟩⟩⟩⟩⟩⟩⟩⟩⟩⟩⟩⟩⟩⟩⟩⟩⟩⟩⟩⟩⟩⟩⟩⟩⟩⟩⟩⟩⟩⟩⟩⟩⟩⟩⟩⟩⟩⟩)⟩ ⟨k (.bool true) H⟩⟩⟩) := by kernel_rfl
end Go.Vi
namespace Go.Vi
open Go Go.Proofs
section
variable {P : Program} {H : AHeap} {T : TypeId} {x y : Operand} {k : IntKind} {a : Nat}
theorem remL {c : Int} {n : Nat} (hc : c = n) (h0 : 0 < n) : aBin2 P H .rem T x y (.int k (a : Int)) (.int k c) = some (.int k ((a % n : Nat) : Int)) := by
 subst hc; rw [aBin_rem _ _ _ _ _ _ _ (by omega)]; rfl
theorem quoL {c : Int} {n : Nat} (hc : c = n) (h0 : 0 < n) (hw : k.wrap ((a / n : Nat) : Int) = ((a / n : Nat) : Int)) : aBin2 P H .quo T x y (.int k (a : Int)) (.int k c) = some (.int k ((a / n : Nat) : Int)) := by
 subst hc; rw [aBin_quo _ _ _ _ _ _ _ (by omega),← hw]; rfl
end
end Go.Vi
namespace Go.Vi
open Go Go.Proofs Go.Proofs.Try
def digs : Nat → Nat → List UInt8
 | 0,_ => []
 | n + 1,u => digs n (u / 10) ++ [UInt8.ofNat (48 + u % 10)]
theorem digs_len : ∀ (n u : Nat),(digs n u).length = n := by
 intro n
 induction n with
 | zero => intro u; rfl
 | succ n ih => intro u; rw [digs]; simp [ih]
def natS (n : Nat) : List UInt8 := if n = 0 then [48] else digs (ndig n) n
def fmtS (x : Int) : List UInt8 := if x < 0 then 45 :: natS x.natAbs else natS x.natAbs
theorem convBytes {H : AHeap} {b o n c : Nat} {cs : List Value} {l : List UInt8} (hb : hcells H b = some cs) (hcs : (cs.drop o).take n = bcells l) (_hn : n = l.length) (hle : o + n ≤ cs.length) :
  convV prog H 102 9 (.slice (some ⟨b,o,some cs.length⟩) n c) = some (str l) := by
 have hu : ∀ l : List UInt8,u8s (bcells l) = some (l.map fun b => (b.toNat : Int)) := by
  intro l
  induction l with
  | nil => rfl
  | cons x r ih => simp only [bcells,List.map_cons,u8s]; simp only [bcells] at ih; rw [ih]; rfl
 have hs : ∀ l : List UInt8,strOfNums (l.map fun b => (b.toNat : Int)) = ⟨l.toArray⟩ := by
  intro l
  unfold strOfNums
  simp
  exact (List.map_congr_left fun b _ => by simp).trans (List.map_id _)
 simp [convV,aConv,hb,hle,hcs,hu,hs,isU8]
end Go.Vi
namespace Go.Vi
open Go Go.Proofs
def trimR (b : UInt8) : List UInt8 → List UInt8
 | [] => []
 | x :: r => match trimR b r with
   | [] => if x = b then [] else [x]
   | y :: s => x :: y :: s
def fixS (x : Int) : List UInt8 :=
 (if sat x < 0 then [45] else []) ++ fmtS (((sat x).natAbs / 1000 : Nat) : Int) ++ if (sat x).natAbs % 1000 = 0 then [] else 46 :: trimR 48 ((fmtS ((1000 + (sat x).natAbs % 1000 : Nat) : Int)).drop 1)
theorem natS_len {n : Nat} (h : n < 2 ^ 64) : (natS n).length ≤ 20 := by
 unfold natS
 split
 · simp
 · rw [digs_len]; exact (ndig_ok (by omega) h).2.1
theorem fmtS_nat (n : Nat) : fmtS (n : Int) = natS n := by
 unfold fmtS; rw [if_neg (by omega)]; rfl
theorem trimR_len (b : UInt8) : ∀ l : List UInt8,(trimR b l).length ≤ l.length := by
 intro l
 induction l with
 | nil => exact Nat.le_refl _
 | cons x r ih =>
   rw [trimR]
   split
   · split <;> simp
   · rename_i h; rw [h] at ih; simpa using ih
end Go.Vi
namespace Go.Vi
open Go Go.Proofs
def joinS (sep : List UInt8) : List (List UInt8) → List UInt8
 | [] => []
 | a :: r => a ++ (r.map (sep ++ ·)).flatten
def sumL : List (List UInt8) → Nat
 | [] => 0
 | a :: r => a.length + sumL r
theorem join_len (sep a : List UInt8) : ∀ r : List (List UInt8),(joinS sep (a :: r)).length = sep.length * r.length + sumL (a :: r) := by
 intro r
 have h : ∀ r : List (List UInt8),((r.map (sep ++ ·)).flatten).length = sep.length * r.length + sumL r := by
  intro r
  induction r with
  | nil => simp [sumL]
  | cons x r ih => rw [List.map_cons,List.flatten_cons,List.length_append,ih,List.length_append,sumL,List.length_cons,Nat.mul_add,Nat.mul_one]; omega
 rw [joinS,List.length_append,h,sumL]
 omega
end Go.Vi
namespace Go.Vi
open Go Go.Proofs
def escB (b : UInt8) : List UInt8 := if (b = 34 ∨ b = 92) then [92,b] else [b]
def quoteS (v : List UInt8) : List UInt8 := 34 :: (v.flatMap escB) ++ [34]
theorem escB_len (b : UInt8) : (escB b).length ≤ 2 := by unfold escB; split <;> simp
theorem esc_len : ∀ v : List UInt8,(v.flatMap escB).length ≤ 2 * v.length := by
 intro v
 induction v with
 | nil => simp
 | cons b r ih => rw [List.flatMap_cons,List.length_append,List.length_cons]; have := escB_len b; omega
def sgnS (n : Int) : List UInt8 := if isOp n = true then opS n else [61]
def matS (m : Mat) : List UInt8 := m.name ++ sgnS m.op ++ quoteS m.value
def selS (ms : List Mat) : List UInt8 := 123 :: joinS [44] (ms.map matS) ++ [125]
def Mat.tame (m : Mat) : Prop := m.name.length ≤ 2 ^ 20 ∧ m.value.length ≤ 2 ^ 20
theorem sgnS_len (n : Int) : (sgnS n).length ≤ 2 := by
 unfold sgnS opS
 split
 · split
   · simp
   · split
     · simp
     · split <;> simp
 · simp
theorem quoteS_len (v : List UInt8) : (quoteS v).length ≤ 2 * v.length + 2 := by
 have := esc_len v
 rw [quoteS,List.length_append,List.length_cons]
 simp only [List.length_cons,List.length_nil]
 omega
theorem sumL_le {c : Nat} : ∀ l : List (List UInt8),(∀ x ∈ l,x.length ≤ c) → sumL l ≤ c * l.length := by
 intro l
 induction l with
 | nil => intro _; simp [sumL]
 | cons a r ih =>
   intro h
   rw [sumL,List.length_cons,Nat.mul_add]
   have := ih fun x hx => h x (by simp [hx])
   have := h a (by simp)
   omega
end Go.Vi
namespace Go.Vi
open Go Go.Proofs Go.Proofs.Try
def strongI (k : UInt8) : Int := if k = 2 then 0 else if k = 1 then 1 else if k = 3 then 2 else if k = 0 then 3 else 0
def leafS (n : Nod) : List UInt8 := aggs.getD n.agg.toNat [] ++ [40] ++ selS n.sel ++ [91] ++ fmtS n.window ++ [93,41,32] ++ cmps.getD n.cmp.toNat [] ++ [32] ++ fixS n.value
def txtF (ns : List Nod) : Nat → Nat → Int → List UInt8
 | 0,_,_ => []
 | f + 1, e, least => match ns[e]? with
   | none => []
   | some n =>
     let s := if n.kind = 0 then leafS n
      else if n.kind = 3 then [110,111,116,32] ++ txtF ns f n.left.toNat 2
      else if n.kind = 1 then txtF ns f n.left.toNat 1 ++ [32,97,110,100,32] ++ txtF ns f n.right.toNat 2
      else if n.kind = 2 then txtF ns f n.left.toNat 0 ++ [32,111,114,32] ++ txtF ns f n.right.toNat 1
      else []
     if strongI n.kind < least then [40] ++ s ++ [41] else s
theorem row_str {K : AHeap} {b i : Nat} {l : List (List UInt8)} {s : List UInt8} {k : IntKind} (hb : hcells K b = some (l.map str)) (hi : l[i]? = some s) :
  ∃ p,aIndexAddr prog K 23 (.slice (some ⟨b,0,some l.length⟩) l.length l.length) (.int k i) = some p ∧ aLoad prog K 9 p = some (str s) := by
 have hl : hlen K b = some l.length := by rw [hcells_len hb]; simp
 have hlt := (List.getElem?_eq_some_iff.1 hi).1
 refine ⟨.pointer (some ⟨b,i,some l.length⟩),?_,?_⟩
 · rw [aIndexAddr_sl]
   simp [hl,slElem]
   omega
 · simp [hb,hi]
end Go.Vi
namespace Go.Vi
open Go Go.Proofs
theorem ok_len {m : Mat} (h : m.ok = true) : m.tame ∧ (matS m).length ≤ 84 := by
 unfold Mat.ok mayName mayM mayValue at h
 simp only [Bool.and_eq_true,Bool.or_eq_true,decide_eq_true_eq] at h
 obtain ⟨⟨_,⟨⟨_,h1⟩,_⟩,_⟩,h2⟩ := h
 have h3 : m.value.length ≤ 32 := by
  rcases h2 with h2 | h2
  · rw [h2]; simp
  · exact h2.1.2
 have h4 := sgnS_len m.op
 have h5 := quoteS_len m.value
 refine ⟨⟨by omega,by omega⟩,?_⟩
 simp only [matS,List.length_append]
 omega
theorem sel_small {ms : List Mat} (h : mayMats ms = true) : (∀ m ∈ ms,m.tame) ∧ ms.length ≤ 6 ∧ (selS ms).length ≤ 512 := by
 unfold mayMats at h
 simp only [Bool.and_eq_true,List.all_eq_true,decide_eq_true_eq] at h
 obtain ⟨h1,h2⟩ := h
 refine ⟨fun m hm => (ok_len (h1 m hm)).1,h2,?_⟩
 have h3 : (joinS [44] (ms.map matS)).length ≤ 510 := by
  cases h : ms.map matS with
  | nil => simp [joinS]
  | cons a r =>
    rw [join_len]
    have hall : ∀ x ∈ a :: r,x.length ≤ 84 := by
     rw [← h]
     intro x hx
     obtain ⟨m,hm1,rfl⟩ := List.mem_map.1 hx
     exact (ok_len (h1 m hm1)).2
    have h4 := sumL_le _ hall
    have h5 : (a :: r).length ≤ 6 := by rw [← h]; simpa using h2
    simp at h5 h4 ⊢
    omega
 simp [selS]
 omega
theorem fixS_len (x : Int) : (fixS x).length ≤ 42 := by
 have hb : -4611686018427387903 ≤ sat x ∧ sat x ≤ 4611686018427387903 := by unfold sat maxFix; omega
 unfold fixS
 rw [fmtS_nat,fmtS_nat]
 have l1 := natS_len (n := (sat x).natAbs / 1000) (by omega)
 have l2 := natS_len (n := 1000 + (sat x).natAbs % 1000) (by omega)
 have l3 := trimR_len 48 ((natS (1000 + (sat x).natAbs % 1000)).drop 1)
 simp only [List.length_drop] at l3
 have l4 : (if sat x < 0 then [45] else ([] : List UInt8)).length ≤ 1 := by split <;> simp
 have l5 : (if (sat x).natAbs % 1000 = 0 then [] else 46 :: trimR 48 ((natS (1000 + (sat x).natAbs % 1000)).drop 1)).length ≤ 21 := by
  split
  · simp
  · simp only [List.length_cons]; omega
 rw [List.length_append,List.length_append]
 omega
theorem getD_len {l : List (List UInt8)} {i c : Nat} (h : ∀ x ∈ l,x.length ≤ c) : (l.getD i []).length ≤ c := by
 simp only [List.getD]
 cases hi : l[i]? with
 | none => simp
 | some s => exact h s (List.mem_of_getElem? hi)
theorem plain_leaf {n : Nod} (h : n.plain = true) : n.agg.toNat < 6 ∧ n.cmp.toNat < 6 ∧ -9223372036854775808 ≤ n.window ∧ n.window < 9223372036854775808 ∧ (∀ m ∈ n.sel,m.tame) ∧ n.sel.length ≤ 2 ^ 20 ∧ (leafS n).length ≤ 2 ^ 10 := by
 unfold Nod.plain at h
 simp only [Bool.and_eq_true,decide_eq_true_eq] at h
 obtain ⟨⟨⟨⟨⟨⟨⟨h1,h2⟩,h3⟩,h4⟩,h5⟩,_⟩,_⟩,_⟩ := h
 obtain ⟨s1,s2,s3⟩ := sel_small h2
 refine ⟨by omega,by omega,by omega,by omega,s1,by omega,?_⟩
 have a1 : (aggs.getD n.agg.toNat []).length ≤ 5 := getD_len (by decide)
 have a2 : (cmps.getD n.cmp.toNat []).length ≤ 2 := getD_len (by decide)
 have a3 := fixS_len n.value
 have a4 : (fmtS n.window).length ≤ 20 := by
  obtain ⟨w,hw⟩ : ∃ w : Nat,n.window = w := ⟨n.window.toNat,by omega⟩
  rw [hw,fmtS_nat]
  exact natS_len (by omega)
 simp only [leafS,List.length_append,List.length_cons,List.length_nil]
 omega
def printS (ns : List Nod) : List UInt8 := if right ns = true then txtF ns ns.length (ns.length - 1) 0 else []
end Go.Vi
namespace Go.Vi
open Go Go.Proofs
theorem Gro.weak {K lo lo' z T v cl} (h : Gro K lo z T v cl) (hl : lo' ≤ lo) : Gro K lo' z T v cl := by
 cases h with
 | nil => exact .nil
 | mk bb cl h1 h2 h3 h4 => exact .mk bb cl (by omega) h2 h3 h4
def takO (ts : List Tok) (k : Int) (s : List UInt8) (a : Nat) : Nat := if isT ts a k s = true then a + 1 else a
def signO (ts : List Tok) (s : List UInt8) (a : Nat) : Option Nat := if isT ts a 4 s = true then some (a + 1) else none
def tokK (ts : List Tok) (k : Int) (a : Nat) : Option (List UInt8) := (ts[a]?).bind fun t => if t.kind = k then some t.text else none
def idxS (l : List (List UInt8)) (s : List UInt8) : Nat := if s ∈ l then l.idxOf s else 0
def oneO (ts : List Tok) (k : Int) (l : List (List UInt8)) (a : Nat) : Option Nat := (tokK ts k a).bind fun s => if s ∈ l then some (a + 1) else none
end Go.Vi
namespace Go.Vi
open Go Go.Proofs
def NumTok (ts : List Tok) : Prop := ∀ (a : Nat) t,ts[a]? = some t → t.text.length < 2 ^ 20 ∧ (t.kind = 2 → (∀ b ∈ t.text,isDig b = true ∨ b = 46) ∧ ∀ b r,t.text = b :: r → isDig b = true)
def winO (ts : List Tok) (a : Nat) : Option (Int × Nat) := (tokK ts 2 a).bind fun s => (atoF s).bind fun n => if 1 ≤ n ∧ n ≤ 1000 then some (n,a + 1) else none
def valP (ts : List Tok) (a : Nat) : List UInt8 := if isT ts a 4 [45] = true then [45] else []
def valO (ts : List Tok) (a : Nat) : Option (Int × Nat) := (tokK ts 2 (takO ts 4 [45] a)).bind fun s => if (parF (valP ts a ++ s)).2 = 0 then some ((parF (valP ts a ++ s)).1,takO ts 4 [45] a + 1) else none
end Go.Vi
namespace Go.Vi
open Go Go.Proofs Go.Proofs.Try
def opsL : List (List UInt8) := [[61],[33,61],[94,61]]
theorem mael1 : aElem prog 48 = some (52,3,40) := by kernel_rfl
theorem mael2 : isSeq prog 48 = true := by kernel_rfl
def matO (ts : List Tok) (a : Nat) : Option (Mat × Nat) := (tokK ts 1 a).bind fun n => (tokK ts 4 (a + 1)).bind fun o => if o ∈ opsL then (tokK ts 3 (a + 2)).bind fun v => some (⟨n,idxS opsL o,v⟩,a + 3) else none
def selL (ts : List Tok) : Nat → Nat → List Mat → Option (List Mat × Nat)
 | 0,_,_ => none
 | f + 1,a,acc => (matO ts a).bind fun p => if isT ts p.2 4 [44] = true then selL ts f (p.2 + 1) (acc ++ [p.1]) else some (acc ++ [p.1],p.2)
def selE (ts : List Tok) (ms : List Mat) (a : Nat) : Option Nat := (signO ts [125] a).bind fun c => if mayMats ms = true then some c else none
def selO (ts : List Tok) (a : Nat) : Option (List Mat × Nat) := (signO ts [123] a).bind fun a1 =>
 if isT ts a1 4 [125] = true then some ([],a1 + 1) else (selL ts (ts.length + 1) a1 []).bind fun p => (selE ts p.1 p.2).map fun c => (p.1,c)
end Go.Vi
namespace Go.Vi
open Go Go.Proofs
def txtK (ts : List Tok) (k : Int) (a : Nat) : List UInt8 := (tokK ts k a).getD []
def cmpO (ts : List Tok) (a : Nat) : Option (Nod × Nat) := (oneO ts 1 aggs a).bind fun b1 => (signO ts [40] b1).bind fun b2 => (selO ts b2).bind fun p => (signO ts [91] p.2).bind fun b3 => (winO ts b3).bind fun w =>
 (signO ts [93] w.2).bind fun b4 => (signO ts [41] b4).bind fun b5 => (oneO ts 4 cmps b5).bind fun b6 => (valO ts b6).bind fun v =>
  some (⟨0,UInt8.ofNat (idxS aggs (txtK ts 1 a)),p.1,w.1,UInt8.ofNat (idxS cmps (txtK ts 4 b5)),v.1,0,0⟩,v.2)
theorem u8_of {n : Nat} (h : n < 256) : ((UInt8.ofNat n).toNat : Int) = n := by simp only [UInt8.toNat_ofNat']; omega
end Go.Vi
namespace Go.Vi
open Go Go.Proofs Go.Proofs.Try
def wordO (k : Nat) : List UInt8 := if k = 1 then [97,110,100] else [111,114]
def notS : List UInt8 := [110,111,116]
def opN (k : UInt8) (l r : Int) : Nod := ⟨k,0,[],0,0,0,l,r⟩
def kindK (k : Nat) : UInt8 := if k = 1 then 1 else 2
def strO (ts : List Tok) : Nat → Nat → Nat → List Nod → Option (Option (List Nod × Nat))
 | 0,_,_,_ => none
 | f + 1, m, a, l =>
   if m = 2 then
    if isT ts a 1 notS = true then (strO ts f 2 (a + 1) l).map fun r => r.map fun p => (p.1 ++ [opN 3 ((p.1.length : Int) - 1) 0],p.2)
    else if isT ts a 4 [40] = true then (strO ts f 0 (a + 1) l).map fun r => r.bind fun p => (signO ts [41] p.2).map fun c => (p.1,c)
    else some ((cmpO ts a).map fun p => (l ++ [p.1],p.2))
   else if m < 2 then (strO ts f (m + 1) a l).bind fun r => match r with
    | none => some none
    | some p => strO ts f (m + 10) p.2 p.1
   else if isT ts a 1 (wordO (m - 10)) = true then (strO ts f (m - 10 + 1) (a + 1) l).bind fun r => match r with
    | none => some none
    | some p => strO ts f m p.2 (p.1 ++ [opN (kindK (m - 10)) ((l.length : Int) - 1) ((p.1.length : Int) - 1)])
   else some (some (l,a))
theorem cmpO_lt {ts : List Tok} {a : Nat} {p : Nod × Nat} (h : cmpO ts a = some p) : a < p.2 := by
 have hone : ∀ {k l a b},oneO ts k l a = some b → b = a + 1 := by
  intro k l a b h
  unfold oneO at h
  obtain ⟨_,_,h2⟩ := Option.bind_eq_some_iff.1 h
  split at h2 <;> simp_all
 have hsign : ∀ {s a b},signO ts s a = some b → b = a + 1 := by
  intro s a b h
  unfold signO at h
  split at h <;> simp_all
 have hmat : ∀ {a p},matO ts a = some p → p.2 = a + 3 := by
  intro a p h
  unfold matO at h
  obtain ⟨_,_,h2⟩ := Option.bind_eq_some_iff.1 h
  obtain ⟨_,_,h3⟩ := Option.bind_eq_some_iff.1 h2
  split at h3
  · obtain ⟨_,_,h4⟩ := Option.bind_eq_some_iff.1 h3
    rw [← Option.some.inj h4]
  · cases h3
 have hselL : ∀ (f : Nat) {a acc p},selL ts f a acc = some p → a ≤ p.2 := by
  intro f
  induction f with
  | zero => intro a acc p h; cases h
  | succ f ih =>
    intro a acc p h
    simp only [selL] at h
    obtain ⟨q,h1,h2⟩ := Option.bind_eq_some_iff.1 h
    have := hmat h1
    split at h2
    · have := ih h2; omega
    · rw [← Option.some.inj h2]; simp only; omega
 have hsel : ∀ {a p},selO ts a = some p → a ≤ p.2 := by
  intro a p h
  unfold selO at h
  obtain ⟨b,h1,h2⟩ := Option.bind_eq_some_iff.1 h
  have := hsign h1
  split at h2
  · rw [← Option.some.inj h2]; simp only; omega
  · obtain ⟨q,h3,h4⟩ := Option.bind_eq_some_iff.1 h2
    have := hselL _ h3
    obtain ⟨c,h5,h6⟩ := Option.map_eq_some_iff.1 h4
    rw [← h6]
    unfold selE at h5
    obtain ⟨d,h7,h8⟩ := Option.bind_eq_some_iff.1 h5
    have := hsign h7
    split at h8
    · rw [← Option.some.inj h8]; simp only; omega
    · cases h8
 have hwin : ∀ {a p},winO ts a = some p → p.2 = a + 1 := by
  intro a p h
  unfold winO at h
  obtain ⟨_,_,h2⟩ := Option.bind_eq_some_iff.1 h
  obtain ⟨_,_,h3⟩ := Option.bind_eq_some_iff.1 h2
  split at h3
  · rw [← Option.some.inj h3]
  · cases h3
 have hval : ∀ {a p},valO ts a = some p → a ≤ p.2 := by
  intro a p h
  unfold valO at h
  obtain ⟨_,_,h2⟩ := Option.bind_eq_some_iff.1 h
  split at h2
  · rw [← Option.some.inj h2]; simp only [takO]; split <;> omega
  · cases h2
 unfold cmpO at h
 obtain ⟨b1,h1,h⟩ := Option.bind_eq_some_iff.1 h
 obtain ⟨b2,h2,h⟩ := Option.bind_eq_some_iff.1 h
 obtain ⟨q,h3,h⟩ := Option.bind_eq_some_iff.1 h
 obtain ⟨b3,h4,h⟩ := Option.bind_eq_some_iff.1 h
 obtain ⟨w,h5,h⟩ := Option.bind_eq_some_iff.1 h
 obtain ⟨b4,h6,h⟩ := Option.bind_eq_some_iff.1 h
 obtain ⟨b5,h7,h⟩ := Option.bind_eq_some_iff.1 h
 obtain ⟨b6,h8,h⟩ := Option.bind_eq_some_iff.1 h
 obtain ⟨v,h9,h⟩ := Option.bind_eq_some_iff.1 h
 have := hone h1; have := hsign h2; have := hsel h3; have := hsign h4; have := hwin h5; have := hsign h6; have := hsign h7; have := hone h8; have := hval h9
 rw [← Option.some.inj h]
 simp only
 omega
theorem strO_len {ts : List Tok} : ∀ (f : Nat) {m a l l' b},strO ts f m a l = some (some (l',b)) → a ≤ b ∧ l.length ≤ l'.length ∧ l'.length + a ≤ l.length + b := by
 intro f
 induction f with
 | zero => intro m a l l' b h; cases h
 | succ f ih =>
   intro m a l l' b h
   simp only [strO] at h
   split at h
   · split at h
     · obtain ⟨r,h1,h2⟩ := Option.map_eq_some_iff.1 h
       obtain ⟨p,rfl,h3⟩ := Option.map_eq_some_iff.1 h2
       have := ih h1
       simp only [Prod.mk.injEq] at h3
       obtain ⟨rfl,rfl⟩ := h3
       simp only [List.length_append,List.length_cons,List.length_nil]
       omega
     · split at h
       · obtain ⟨r,h1,h2⟩ := Option.map_eq_some_iff.1 h
         obtain ⟨p,rfl,h3⟩ := Option.bind_eq_some_iff.1 h2
         obtain ⟨c,h4,h5⟩ := Option.map_eq_some_iff.1 h3
         have := ih h1
         unfold signO at h4
         split at h4
         · simp only [Option.some.injEq] at h4
           simp only [Prod.mk.injEq] at h5
           obtain ⟨rfl,rfl⟩ := h5
           omega
         · cases h4
       · obtain ⟨p,h1,h2⟩ := Option.map_eq_some_iff.1 (Option.some.inj h)
         have := cmpO_lt h1
         simp only [Prod.mk.injEq] at h2
         obtain ⟨rfl,rfl⟩ := h2
         simp only [List.length_append,List.length_cons,List.length_nil]
         omega
   · split at h
     · obtain ⟨r,h1,h2⟩ := Option.bind_eq_some_iff.1 h
       cases r with
       | none => cases h2
       | some p =>
         have := ih h1
         have := ih h2
         omega
     · split at h
       · obtain ⟨r,h1,h2⟩ := Option.bind_eq_some_iff.1 h
         cases r with
         | none => cases h2
         | some p =>
           have := ih h1
           have := ih h2
           simp only [List.length_append,List.length_cons,List.length_nil] at this
           omega
       · simp only [Option.some.injEq,Prod.mk.injEq] at h
         obtain ⟨rfl,rfl⟩ := h
         omega
theorem nael1 : aElem prog 22 = some (50,8,72) := by kernel_rfl
theorem nael2 : isSeq prog 22 = true := by kernel_rfl
def NL (K : AHeap) (lo : Nat) (v : Value) (ns : List Nod) : Prop := ∃ cl,Gro K lo 8 50 v cl ∧ cl.length = ns.length ∧ ∀ (i : Nat) n,ns[i]? = some n → ∃ sv,cl[i]? = some ((n : Nod).cells sv) ∧ Gro K lo 3 52 sv (n.sel.map Mat.cells) ∧ n.sel.length ≤ 2 ^ 41
theorem NL.nodes {K lo v ns} (h : NL K lo v ns) : NodesAt K v ns := by
 obtain ⟨cl,h1,h2,h3⟩ := h
 refine ⟨cl,h1.arr,h2,fun i n hi => ?_⟩
 obtain ⟨sv,q1,q2,q3⟩ := h3 i n hi
 exact ⟨sv,q1,q2.arr,by omega⟩
theorem NL.len {K lo v ns} (h : NL K lo v ns) (J : AHeap) : aLen prog J 22 v = some (i64 ns.length) := by
 obtain ⟨cl,h1,h2,_⟩ := h
 rw [← h2]; exact h1.arr.len' (e := 50) (by simp)
end Go.Vi
namespace Go.Vi
open Go Go.Proofs
theorem strO_tot {ts : List Tok} : ∀ (f m a : Nat) (l : List Nod),(m ≤ 2 ∨ m = 10 ∨ m = 11) → 4 * (ts.length - a) + (if m ≤ 2 then 3 - m else 1) ≤ f → ∃ r,strO ts f m a l = some r := by
 intro f
 induction f with
 | zero => intro m a l hm h; split at h <;> omega
 | succ f ih =>
   intro m a l hm h
   simp only [strO]
   split
   · rename_i h2
     subst h2
     rw [if_pos (by omega)] at h
     split
     · rename_i hT
       have := isT_lt hT
       obtain ⟨r,hr⟩ := ih 2 (a + 1) l (by omega) (by simp; omega)
       exact ⟨_,by rw [hr]; rfl⟩
     · split
       · rename_i hT
         have := isT_lt hT
         obtain ⟨r,hr⟩ := ih 0 (a + 1) l (by omega) (by simp; omega)
         exact ⟨_,by rw [hr]; rfl⟩
       · exact ⟨_,rfl⟩
   · split
     · rename_i hm2
       rw [if_pos (by omega)] at h
       obtain ⟨r,hr⟩ := ih (m + 1) a l (by omega) (by rw [if_pos (by omega)]; omega)
       rw [hr]
       cases r with
       | none => exact ⟨none,rfl⟩
       | some p =>
         have := strO_len f hr
         exact ih (m + 10) p.2 p.1 (by omega) (by rw [if_neg (by omega)]; omega)
     · split
       · rename_i hT
         have := isT_lt hT
         rw [if_neg (by omega)] at h
         obtain ⟨r,hr⟩ := ih (m - 10 + 1) (a + 1) l (by omega) (by rw [if_pos (by omega)]; omega)
         rw [hr]
         cases r with
         | none => exact ⟨none,rfl⟩
         | some p =>
           have := strO_len f hr
           exact ih m p.2 _ hm (by rw [if_neg (by omega)]; omega)
       · exact ⟨_,rfl⟩
def conO (ts : List Tok) (a : Nat) : Option (List Nod × Nat) := (strO ts (4 * ts.length + 3) 0 a []).getD none
theorem conO_str (ts : List Tok) (a : Nat) : strO ts (4 * ts.length + 3) 0 a [] = some (conO ts a) := by
 obtain ⟨r,hr⟩ := strO_tot (ts := ts) (4 * ts.length + 3) 0 a [] (by omega) (by simp; omega)
 unfold conO
 rw [hr]; rfl
theorem textF_acc : ∀ (f : Nat) (r acc : List UInt8) (c : Nat),r.length ≤ f → (textF r acc c).1.length ≤ acc.length + r.length := by
 intro f
 induction f with
 | zero => intro r acc c h; have : r = [] := List.eq_nil_of_length_eq_zero (by omega); subst this; simp [textF]
 | succ f ih =>
   intro r acc c h
   cases r with
   | nil => simp [textF]
   | cons b r =>
     rw [textF_cons]
     simp at h
     split
     · split
       · simp
       · split
         · cases r with
           | nil => simp
           | cons e r =>
             simp only
             split
             · have := ih r (acc ++ [e]) (c + 2) (by simp at h; omega); simp at this ⊢; omega
             · simp
         · have := ih r (acc ++ [b]) (c + 1) (by omega); simp at this ⊢; omega
     · simp
theorem mem_takeWhile {p : UInt8 → Bool} : ∀ {s : List UInt8} {b : UInt8},b ∈ s.takeWhile p → p b = true := by
 intro s
 induction s with
 | nil => intro b h; simp at h
 | cons x r ih =>
   intro b h
   rw [List.takeWhile_cons] at h
   split at h
   · rcases List.mem_cons.1 h with rfl | h
     · assumption
     · exact ih h
   · simp at h
theorem runF_take (p : UInt8 → Bool) (s : List UInt8) : s.take (runF p s) = s.takeWhile p := by
 unfold runF
 exact (List.prefix_iff_eq_take.1 (List.takeWhile_prefix p)).symm
theorem numLen_mem (s : List UInt8) : ∀ b ∈ s.take (numLen s),isDig b = true ∨ b = 46 := by
 intro b hb
 unfold numLen at hb
 split at hb
 · rename_i h
   simp only [Bool.and_eq_true,Option.any_eq_true,beq_iff_eq] at h
   obtain ⟨⟨e,he,h46⟩,_⟩ := h
   rw [List.take_add] at hb
   rcases List.mem_append.1 hb with hb | hb
   · rw [runF_take] at hb; exact .inl (mem_takeWhile hb)
   · have hd : s.drop (runF isDig s) = e :: s.drop (runF isDig s + 1) := by
      have hlt := (List.getElem?_eq_some_iff.1 he).1
      rw [List.drop_eq_getElem_cons hlt,(List.getElem?_eq_some_iff.1 he).2]
     rw [hd,Nat.add_comm 1,List.take_succ_cons,runF_take] at hb
     rcases List.mem_cons.1 hb with rfl | hb
     · right
       have : b.toNat = (46 : UInt8).toNat := by have : (46 : UInt8).toNat = 46 := rfl; omega
       exact UInt8.toNat_inj.1 this
     · exact .inl (mem_takeWhile hb)
 · rw [runF_take] at hb; exact .inl (mem_takeWhile hb)
theorem oneF_num {s : List UInt8} {a : Nat} (hs : s.length ≤ 4096) : (oneF s a).1.text.length < 2 ^ 20 ∧ ((oneF s a).1.kind = 2 → (∀ b ∈ (oneF s a).1.text,isDig b = true ∨ b = 46) ∧ ∀ b r,(oneF s a).1.text = b :: r → isDig b = true) := by
 cases s with
 | nil => simp [oneF]
 | cons b r =>
   simp only [oneF]
   simp only [List.length_cons] at hs
   split
   · exact ⟨by simp only [List.length_take,List.length_cons]; omega,fun h => by cases h⟩
   · split
     · rename_i hd
       refine ⟨by simp only [List.length_take,List.length_cons]; omega,fun _ => ⟨numLen_mem _,fun c q hq => ?_⟩⟩
       cases hn : numLen (b :: r) with
       | zero => rw [hn] at hq; simp at hq
       | succ n => rw [hn,List.take_succ_cons] at hq; cases hq; exact hd
     · split
       · have := textF_acc r.length r [] 1 (Nat.le_refl _)
         exact ⟨by simp at this ⊢; omega,fun h => by cases h⟩
       · exact ⟨by simp only [List.length_take,List.length_cons]; omega,fun h => by cases h⟩
theorem lexF_mem (l : List UInt8) (hl : l.length ≤ 4096) : ∀ (f a : Nat),∀ t ∈ (lexF l f a).1,t.text.length < 2 ^ 20 ∧ (t.kind = 2 → (∀ b ∈ t.text,isDig b = true ∨ b = 46) ∧ ∀ b r,t.text = b :: r → isDig b = true) := by
 intro f
 induction f with
 | zero => intro a t h; simp [lexF] at h
 | succ f ih =>
   intro a t h
   simp only [lexF] at h
   split at h
   · split at h
     · simp at h
     · rcases List.mem_cons.1 h with rfl | h
       · exact oneF_num (by simp; omega)
       · exact ih _ t h
   · simp at h
theorem lexF_len (l : List UInt8) : ∀ (f a : Nat),(lexF l f a).1.length ≤ f := by
 intro f
 induction f with
 | zero => intro a; simp [lexF]
 | succ f ih =>
   intro a
   simp only [lexF]
   split
   · split
     · simp
     · have := ih (skipN l (a + (oneF (l.drop a) a).2)); simp; omega
   · simp
theorem allTok_ok {l : List UInt8} : NumTok (allTok l).1 ∧ (allTok l).1.length ≤ 4097 := by
 unfold allTok
 split
 · exact ⟨fun a t h => by simp at h,by simp⟩
 · split
   · refine ⟨fun a t h => ?_,?_⟩
     · exact lexF_mem l (by omega) _ _ t (List.mem_of_getElem? h)
     · have := lexF_len l (l.length + 1) (skipN l 0); simp only; omega
   · exact ⟨fun a t h => by simp at h,by simp⟩
end Go.Vi
namespace Go.Vi
open Go Go.Proofs Go.Proofs.Try
theorem isLow_iff (b : UInt8) : isLow b = true ↔ 97 ≤ (b.toNat : Int) ∧ (b.toNat : Int) ≤ 122 := by simp [isLow]
theorem isDig_iff (b : UInt8) : isDig b = true ↔ 48 ≤ (b.toNat : Int) ∧ (b.toNat : Int) ≤ 57 := by simp [isDig]
theorem isSign_iff (b : UInt8) : isSign b = true ↔ 32 ≤ (b.toNat : Int) ∧ (b.toNat : Int) ≤ 126 := by simp [isSign]
theorem rPlain_loop {H : AHeap} {s : List UInt8} {k : Value → AHeap → Prop} {w : Bool} (hs : s.length < 2 ^ 62) (hk : k (.bool w) H) :
  ∀ (r : List UInt8) (i : Nat) (s1 s2 s4 s5 s6 s7 s8 s9 s10 s11 s12 s13 s14 s15 s16 s17 s18 s19 : Value),s.drop i = r → i ≤ s.length → w = r.all isSign → L85x0 (r.length + 1) k [str s,s1,s2,i64 i,s4,s5,s6,s7,s8,s9,s10,s11,s12,s13,s14,s15,s16,s17,s18,s19] H := by
 intro r
 induction r with
 | nil =>
   intro i s1 s2 s4 s5 s6 s7 s8 s9 s10 s11 s12 s13 s14 s15 s16 s17 s18 s19 hd hi hw
   have hle : s.length ≤ i := by simpa using hd
   have : ¬ i < s.length := by omega
   rw [List.length_nil,L85x0q]
   simp at hw
   subst hw
   simp [this]
   exact hk
 | cons b r ih =>
   intro i s1 s2 s4 s5 s6 s7 s8 s9 s10 s11 s12 s13 s14 s15 s16 s17 s18 s19 hd hi hw
   have hb : s[i]? = some b := by rw [← List.head?_drop,hd]; rfl
   have hlt : i < s.length := (List.getElem?_eq_some_iff.1 hb).1
   have hix := aIndex_at (P := prog) (T := 9) (k := .i64) (by simp) hb
   have hdr : s.drop (i + 1) = r := by rw [← List.drop_drop,hd]; rfl
   rw [List.length_cons,L85x0q]
   have hq := isSign_iff b
   rw [List.all_cons] at hw
   by_cases h1 : (b.toNat : Int) < 32
   · have : isSign b = false := by rw [← Bool.not_eq_true]; rw [hq]; omega
     rw [this] at hw
     simp at hw
     subst hw
     simp [hlt,hix,h1]
     exact hk
   · by_cases h2 : 126 < (b.toNat : Int)
     · have : isSign b = false := by rw [← Bool.not_eq_true]; rw [hq]; omega
       rw [this] at hw
       simp at hw
       subst hw
       simp [hlt,hix,h1,h2]
       exact hk
     · have : isSign b = true := by rw [hq]; omega
       rw [this,Bool.true_and] at hw
       simp [hlt,hix,h1,h2,show i + 1 < 2 ^ 63 by omega]
       exact ih (i + 1) _ _ _ _ _ _ _ _ _ _ _ _ _ _ _ _ _ _ hdr hlt hw
theorem r_plain (H : AHeap) {s : List UInt8} (hs : s.length < 2 ^ 62) : ACalls prog 85 [str s] H (.bool (s.all isSign)) H := by
 refine acalls_pure MixT func85 (by decide) rfl ?_
 rw [d85]
 exact ⟨s.length + 1,rPlain_loop (k := fun u H2 => u = .bool (s.all isSign) ∧ ∃ X,H2 = H ++ X) hs ⟨rfl,[],by simp⟩ s 0 _ _ _ _ _ _ _ _ _ _ _ _ _ _ _ _ _ _ rfl (by omega) rfl⟩
theorem rName_loop {H : AHeap} {s : List UInt8} {k : Value → AHeap → Prop} {w : Bool} (hs : s.length < 2 ^ 62) (hk : k (.bool w) H) :
  ∀ (r : List UInt8) (i : Nat) (s1 s2 s4 s5 s6 s7 s8 s9 s10 s11 s12 s13 s14 s15 s16 s17 s18 s19 s20 s21 s22 s23 s24 s25 s26 s27 s28 s29 s30 s31 s32 s33 s34 s35 s36 s37 s38 s39 s40 s41 s42 s43 s44 s45 s46 s47 s48 s49 s50 s51 s52 s53 s54 s55 s56 : Value),s.drop i = r → i ≤ s.length → w = r.all isMark → L46x0 (r.length + 1) k [str s,s1,s2,i64 i,s4,s5,s6,s7,s8,s9,s10,s11,s12,s13,s14,s15,s16,s17,s18,s19,s20,s21,s22,s23,s24,s25,s26,s27,s28,s29,s30,s31,s32,s33,s34,s35,s36,s37,s38,s39,s40,s41,s42,s43,s44,s45,s46,s47,s48,s49,s50,s51,s52,s53,s54,s55,s56] H := by
 intro r
 induction r with
 | nil =>
   intro i s1 s2 s4 s5 s6 s7 s8 s9 s10 s11 s12 s13 s14 s15 s16 s17 s18 s19 s20 s21 s22 s23 s24 s25 s26 s27 s28 s29 s30 s31 s32 s33 s34 s35 s36 s37 s38 s39 s40 s41 s42 s43 s44 s45 s46 s47 s48 s49 s50 s51 s52 s53 s54 s55 s56 hd hi hw
   have hle : s.length ≤ i := by simpa using hd
   have : ¬ i < s.length := by omega
   rw [List.length_nil,L46x0q]
   simp at hw
   subst hw
   simp [this]
   exact hk
 | cons b r ih =>
   intro i s1 s2 s4 s5 s6 s7 s8 s9 s10 s11 s12 s13 s14 s15 s16 s17 s18 s19 s20 s21 s22 s23 s24 s25 s26 s27 s28 s29 s30 s31 s32 s33 s34 s35 s36 s37 s38 s39 s40 s41 s42 s43 s44 s45 s46 s47 s48 s49 s50 s51 s52 s53 s54 s55 s56 hd hi hw
   have hb : s[i]? = some b := by rw [← List.head?_drop,hd]; rfl
   have hlt : i < s.length := (List.getElem?_eq_some_iff.1 hb).1
   have hix := aIndex_at (P := prog) (T := 9) (k := .i64) (by simp) hb
   have hdr : s.drop (i + 1) = r := by rw [← List.drop_drop,hd]; rfl
   rw [List.length_cons,L46x0q]
   have hql := isLow_iff b
   have hqd := isDig_iff b
   rw [List.all_cons] at hw
   have go : isMark b = true → ∀ (s1 s2 s4 s5 s6 s7 s8 s9 s10 s11 s12 s13 s14 s15 s16 s17 s18 s19 s20 s21 s22 s23 s24 s25 s26 s27 s28 s29 s30 s31 s32 s33 s34 s35 s36 s37 s38 s39 s40 s41 s42 s43 s44 s45 s46 s47 s48 s49 s50 s51 s52 s53 s54 s55 s56 : Value),L46x0 (r.length + 1) k [str s,s1,s2,i64 ((i : Int) + 1),s4,s5,s6,s7,s8,s9,s10,s11,s12,s13,s14,s15,s16,s17,s18,s19,s20,s21,s22,s23,s24,s25,s26,s27,s28,s29,s30,s31,s32,s33,s34,s35,s36,s37,s38,s39,s40,s41,s42,s43,s44,s45,s46,s47,s48,s49,s50,s51,s52,s53,s54,s55,s56] H := by
    intro hm s1 s2 s4 s5 s6 s7 s8 s9 s10 s11 s12 s13 s14 s15 s16 s17 s18 s19 s20 s21 s22 s23 s24 s25 s26 s27 s28 s29 s30 s31 s32 s33 s34 s35 s36 s37 s38 s39 s40 s41 s42 s43 s44 s45 s46 s47 s48 s49 s50 s51 s52 s53 s54 s55 s56
    rw [hm,Bool.true_and] at hw
    exact ih (i + 1) _ _ _ _ _ _ _ _ _ _ _ _ _ _ _ _ _ _ _ _ _ _ _ _ _ _ _ _ _ _ _ _ _ _ _ _ _ _ _ _ _ _ _ _ _ _ _ _ _ _ _ _ _ _ _ hdr hlt hw
   have no : isMark b = false → k (.bool false) H := by
    intro hm
    rw [hm,Bool.false_and] at hw
    rw [← hw]
    exact hk
   have hi63 : i + 1 < 2 ^ 63 := by omega
   by_cases l1 : 97 ≤ (b.toNat : Int)
   · by_cases l2 : (b.toNat : Int) ≤ 122
     · simp [hlt,hix,l1,l2,hi63]
       exact go (by simp [isMark,hql.2 ⟨l1,l2⟩]) _ _ _ _ _ _ _ _ _ _ _ _ _ _ _ _ _ _ _ _ _ _ _ _ _ _ _ _ _ _ _ _ _ _ _ _ _ _ _ _ _ _ _ _ _ _ _ _ _ _ _ _ _ _ _
     · have d2 : ¬ (b.toNat : Int) ≤ 57 := by omega
       have d1 : (48 : Int) ≤ (b.toNat : Int) := by omega
       have u : ((b.toNat : Int) == 95) = false := by rw [beq_eq_false_iff_ne]; omega
       simp [hlt,hix,l1,l2,d1,d2,u]
       exact no (by simp [isMark,isLow,isDig,l2,d2,u])
   · by_cases d1 : (48 : Int) ≤ (b.toNat : Int)
     · by_cases d2 : (b.toNat : Int) ≤ 57
       · simp [hlt,hix,l1,d1,d2,hi63]
         exact go (by simp [isMark,hqd.2 ⟨d1,d2⟩]) _ _ _ _ _ _ _ _ _ _ _ _ _ _ _ _ _ _ _ _ _ _ _ _ _ _ _ _ _ _ _ _ _ _ _ _ _ _ _ _ _ _ _ _ _ _ _ _ _ _ _ _ _ _ _
       · by_cases u : ((b.toNat : Int) == 95) = true
         · simp [hlt,hix,l1,d1,d2,u,hi63]
           exact go (by simp [isMark,u]) _ _ _ _ _ _ _ _ _ _ _ _ _ _ _ _ _ _ _ _ _ _ _ _ _ _ _ _ _ _ _ _ _ _ _ _ _ _ _ _ _ _ _ _ _ _ _ _ _ _ _ _ _ _ _
         · have u' : ((b.toNat : Int) == 95) = false := by simpa using u
           simp [hlt,hix,l1,d1,d2,u']
           exact no (by simp [isMark,isLow,isDig,l1,d2,u'])
     · have u' : ((b.toNat : Int) == 95) = false := by rw [beq_eq_false_iff_ne]; omega
       simp [hlt,hix,l1,d1,u']
       exact no (by simp [isMark,isLow,isDig,l1,d1,u'])
theorem r_mayName (H : AHeap) {s : List UInt8} (hs : s.length < 2 ^ 62) : ACalls prog 46 [str s] H (.bool (mayName s)) H := by
 refine acalls_pure MixT func46 (by decide) rfl ?_
 rw [d46]
 cases s with
 | nil => simp [mayName]
 | cons b r =>
   have h0 := aIndex_at (P := prog) (T := 9) (k := .i64) (l := b :: r) (i := 0) (b := b) (by simp) rfl
   simp at h0
   by_cases h16 : (16 : Int) < ((b :: r).length : Nat)
   · have : mayName (b :: r) = false := by simp [mayName]; intro h; simp at h16; omega
     rw [this]
     have h16' : (15 : Int) < r.length := by simp at h16; omega
     have h16'' : (16 : Int) < r.length + 1 := by omega
     have h1 : ¬ (r.length : Int) + 1 < 1 := by omega
     simp [h1,h16'']
   · have h16'' : ¬ (16 : Int) < r.length + 1 := by simp at h16; omega
     have h1 : ¬ (r.length : Int) + 1 < 1 := by omega
     have hl : r.length + 1 ≤ 16 := by omega
     have hql := isLow_iff b
     by_cases l1 : (b.toNat : Int) < 97
     · have : mayName (b :: r) = false := by simp [mayName,isLow]; intros; omega
       rw [this]
       simp [h1,h16'',h0,l1]
     · by_cases l2 : 122 < (b.toNat : Int)
       · have : mayName (b :: r) = false := by simp [mayName,isLow]; intros; omega
         rw [this]
         simp [h1,h16'',h0,l1,l2]
       · have hlow : isLow b = true := hql.2 (by omega)
         simp [h1,h16'',h0,l1,l2]
         have hm : mayName (b :: r) = (b :: r).all isMark := by simp [mayName,hlow,hl]
         exact ⟨(b :: r).length + 1,rName_loop (k := fun u H2 => u = .bool (mayName (b :: r)) ∧ ∃ X,H2 = H ++ X) (by simp at hs ⊢; omega) ⟨rfl,[],by simp⟩ (b :: r) 0 _ _ _ _ _ _ _ _ _ _ _ _ _ _ _ _ _ _ _ _ _ _ _ _ _ _ _ _ _ _ _ _ _ _ _ _ _ _ _ _ _ _ _ _ _ _ _ _ _ _ _ _ _ _ _ rfl (by omega) hm⟩
theorem rDigs_loop {H : AHeap} {s : List UInt8} {k : Value → AHeap → Prop} {w : Bool} (hs : s.length < 2 ^ 62) (hk : k (.bool w) H) :
  ∀ (r : List UInt8) (i : Nat) (s1 s2 s4 s5 s6 s7 s8 s9 s10 s11 s12 s13 s14 s15 s16 s17 s18 s19 s20 s21 : Value),s.drop i = r → i ≤ s.length → w = (r.all isDig && !decide (s = [])) → L95x0 (r.length + 1) k [str s,s1,s2,i64 i,s4,s5,s6,s7,s8,s9,s10,s11,s12,s13,s14,s15,s16,s17,s18,s19,s20,s21] H := by
 intro r
 induction r with
 | nil =>
   intro i s1 s2 s4 s5 s6 s7 s8 s9 s10 s11 s12 s13 s14 s15 s16 s17 s18 s19 s20 s21 hd hi hw
   have hle : s.length ≤ i := by simpa using hd
   have : ¬ i < s.length := by omega
   rw [List.length_nil,L95x0q]
   rw [List.all_nil,Bool.true_and] at hw
   subst hw
   simp [this]
   simpa using hk
 | cons b r ih =>
   intro i s1 s2 s4 s5 s6 s7 s8 s9 s10 s11 s12 s13 s14 s15 s16 s17 s18 s19 s20 s21 hd hi hw
   have hb : s[i]? = some b := by rw [← List.head?_drop,hd]; rfl
   have hlt : i < s.length := (List.getElem?_eq_some_iff.1 hb).1
   have hix := aIndex_at (P := prog) (T := 9) (k := .i64) (by simp) hb
   have hdr : s.drop (i + 1) = r := by rw [← List.drop_drop,hd]; rfl
   rw [List.length_cons,L95x0q]
   have hq := isDig_iff b
   rw [List.all_cons] at hw
   by_cases h1 : (b.toNat : Int) < 48
   · have : isDig b = false := by rw [← Bool.not_eq_true]; rw [hq]; omega
     rw [this] at hw
     simp at hw
     subst hw
     simp [hlt,hix,h1]
     exact hk
   · by_cases h2 : 57 < (b.toNat : Int)
     · have : isDig b = false := by rw [← Bool.not_eq_true]; rw [hq]; omega
       rw [this] at hw
       simp at hw
       subst hw
       simp [hlt,hix,h1,h2]
       exact hk
     · have : isDig b = true := by rw [hq]; omega
       rw [this,Bool.true_and] at hw
       simp [hlt,hix,h1,h2,show i + 1 < 2 ^ 63 by omega]
       exact ih (i + 1) _ _ _ _ _ _ _ _ _ _ _ _ _ _ _ _ _ _ _ _ hdr hlt hw
def digsR (s : List UInt8) : Bool := s.all isDig && !decide (s = [])
theorem r_digits (H : AHeap) {s : List UInt8} (hs : s.length < 2 ^ 62) : ACalls prog 95 [str s] H (.bool (digsR s)) H := by
 refine acalls_pure MixT func95 (by decide) rfl ?_
 rw [d95]
 exact ⟨s.length + 1,rDigs_loop (k := fun u H2 => u = .bool (digsR s) ∧ ∃ X,H2 = H ++ X) hs ⟨rfl,[],by simp⟩ s 0 _ _ _ _ _ _ _ _ _ _ _ _ _ _ _ _ _ _ _ _ rfl (by omega) rfl⟩
theorem byte_all {p : UInt8 → Prop} (h : ∀ n,n < 256 → p (UInt8.ofNat n)) (b : UInt8) : p b := by
 have := h b.toNat b.toNat_lt
 simpa using this
theorem blanks_eq : ∀ b : UInt8,hasB blanks b = ((b.toNat : Int) == 32 || (b.toNat : Int) == 9 || (b.toNat : Int) == 10 || (b.toNat : Int) == 13) :=
 byte_all (by decide +kernel)
theorem r_blank (H : AHeap) (b : UInt8) : ACalls prog 78 [byt b] H (.bool (hasB blanks b)) H := by
 refine acalls_pure MixT func78 (by decide) rfl ?_
 rw [d78,blanks_eq]
 simp +contextual
theorem mayName_a : ∀ b : UInt8,mayName [97,b] = isMark b := byte_all (by decide +kernel)
def wordR (s : List UInt8) : Bool := s.all isMark && (s[0]?).any isLow
theorem rWord_loop {H : AHeap} {s : List UInt8} {k : Value → AHeap → Prop} {w : Bool} (hs : s.length < 2 ^ 60) (hk : k (.bool w) H) :
  ∀ (r : List UInt8) (i : Nat) (s1 s2 s4 s5 s6 s7 s8 s9 s10 s11 s12 s13 s14 s15 s16 s17 s18 s19 s20 s21 s22 s23 s24 s25 s26 s27 s28 s29 : Value),s.drop i = r → i ≤ s.length → w = (r.all isMark && (s[0]?).any isLow) → L88x0 (r.length + 1) k [str s,s1,s2,i64 i,s4,s5,s6,s7,s8,s9,s10,s11,s12,s13,s14,s15,s16,s17,s18,s19,s20,s21,s22,s23,s24,s25,s26,s27,s28,s29] H := by
 intro r
 induction r with
 | nil =>
   intro i s1 s2 s4 s5 s6 s7 s8 s9 s10 s11 s12 s13 s14 s15 s16 s17 s18 s19 s20 s21 s22 s23 s24 s25 s26 s27 s28 s29 hd hi hw
   have hle : s.length ≤ i := by simpa using hd
   have : ¬ i < s.length := by omega
   rw [List.length_nil,L88x0q]
   rw [List.all_nil,Bool.true_and] at hw
   cases s with
   | nil =>
     simp at hw
     subst hw
     have : ¬ (i : Int) < 0 := by omega
     simp [this]
     exact hk
   | cons b t =>
     have h0 := aIndex_at (P := prog) (T := 9) (k := .i64) (l := b :: t) (i := 0) (b := b) (by simp) rfl
     simp at h0
     simp at hw
     have hq := isLow_iff b
     have hn : ¬ (i : Int) < (t.length : Int) + 1 := by simp at hle; omega
     by_cases l1 : 97 ≤ (b.toNat : Int)
     · by_cases l2 : (b.toNat : Int) ≤ 122
       · rw [hq.2 ⟨l1,l2⟩] at hw
         subst hw
         simp [hn,h0,l1,l2]
         exact hk
       · have : isLow b = false := by rw [← Bool.not_eq_true]; rw [hq]; omega
         rw [this] at hw
         subst hw
         simp [hn,h0,l1,l2]
         exact hk
     · have : isLow b = false := by rw [← Bool.not_eq_true]; rw [hq]; omega
       rw [this] at hw
       subst hw
       simp [hn,h0,l1]
       exact hk
 | cons b r ih =>
   intro i s1 s2 s4 s5 s6 s7 s8 s9 s10 s11 s12 s13 s14 s15 s16 s17 s18 s19 s20 s21 s22 s23 s24 s25 s26 s27 s28 s29 hd hi hw
   have hb : s[i]? = some b := by rw [← List.head?_drop,hd]; rfl
   have hlt : i < s.length := (List.getElem?_eq_some_iff.1 hb).1
   have hdr : s.drop (i + 1) = r := by rw [← List.drop_drop,hd]; rfl
   have hsl := aSliceOp_str (P := prog) (H := H) (T := 9) (l := s) (lo := some (i64 i)) (hi := some (i64 ((i : Int) + 1))) (a := i) (b := ((i + 1 : Nat) : Int)) (by simp) rfl rfl (by omega) (by omega) (by omega)
   have he : (s.take (i + 1)).drop i = [b] := by
    rw [List.drop_take,hd]; simp
   simp only [Int.toNat_natCast,he] at hsl
   have hcat := fun (H : AHeap) x y => aBin_str (P := prog) (H := H) (T := 9) (x := x) (y := y) (a := [97]) (b := [b]) (by simp)
   rw [List.length_cons,L88x0q]
   rw [List.all_cons] at hw
   have hw1 : IntKind.i64.wrap ((i : Int) + 1) = (i : Int) + 1 := wrap_i64 (by omega) (by omega)
   simp [hlt,hw1,hsl]
   refine bnd_of (hcat _ _ _) ?_
   simp
   have hc := r_mayName H (s := [97,b]) (by simp)
   rw [mayName_a] at hc
   refine bndC_of hc ?_
   simp
   cases hm : isMark b with
   | true =>
     rw [hm,Bool.true_and] at hw
     simp [hw1]
     exact ih (i + 1) _ _ _ _ _ _ _ _ _ _ _ _ _ _ _ _ _ _ _ _ _ _ _ _ _ _ _ _ hdr hlt hw
   | false =>
     rw [hm] at hw
     simp at hw
     subst hw
     simp
     exact hk
theorem r_word (H : AHeap) {s : List UInt8} (hs : s.length < 2 ^ 60) : ACalls prog 88 [str s] H (.bool (wordR s)) H := by
 refine acalls_pure MixT func88 (by decide) rfl ?_
 rw [d88]
 exact ⟨s.length + 1,rWord_loop (k := fun u H2 => u = .bool (wordR s) ∧ ∃ X,H2 = H ++ X) hs ⟨rfl,[],by simp⟩ s 0 _ _ _ _ _ _ _ _ _ _ _ _ _ _ _ _ _ _ _ _ _ _ _ _ _ _ _ _ rfl (by omega) rfl⟩
def numG : List UInt8 → List UInt8 → Bool
 | p,[] => digsR p
 | p,b :: r => if ((b.toNat : Int) == 46) = true then digsR p && digsR r else numG (p ++ [b]) r
def numR (s : List UInt8) : Bool := numG [] s
theorem rNum_loop {H : AHeap} {s : List UInt8} {k : Value → AHeap → Prop} {w : Bool} (hs : s.length < 2 ^ 60) (hk : k (.bool w) H) :
  ∀ (r : List UInt8) (i : Nat) (s1 s2 s4 s5 s6 s7 s8 s9 s10 s11 s12 s13 s14 s15 s16 s17 s18 s19 s20 s21 s22 s23 s24 s25 s26 : Value),s.drop i = r → i ≤ s.length → w = numG (s.take i) r → L89x0 (r.length + 1) k [str s,s1,s2,i64 i,s4,s5,s6,s7,s8,s9,s10,s11,s12,s13,s14,s15,s16,s17,s18,s19,s20,s21,s22,s23,s24,s25,s26] H := by
 intro r
 induction r with
 | nil =>
   intro i s1 s2 s4 s5 s6 s7 s8 s9 s10 s11 s12 s13 s14 s15 s16 s17 s18 s19 s20 s21 s22 s23 s24 s25 s26 hd hi hw
   have hle : s.length ≤ i := by simpa using hd
   have : ¬ i < s.length := by omega
   rw [List.length_nil,L89x0q]
   simp only [numG,List.take_of_length_le hle] at hw
   subst hw
   simp [this]
   exact bndC_of (r_digits H (by omega)) hk
 | cons b r ih =>
   intro i s1 s2 s4 s5 s6 s7 s8 s9 s10 s11 s12 s13 s14 s15 s16 s17 s18 s19 s20 s21 s22 s23 s24 s25 s26 hd hi hw
   have hb : s[i]? = some b := by rw [← List.head?_drop,hd]; rfl
   have hlt : i < s.length := (List.getElem?_eq_some_iff.1 hb).1
   have hix := aIndex_at (P := prog) (T := 9) (k := .i64) (by simp) hb
   have hdr : s.drop (i + 1) = r := by rw [← List.drop_drop,hd]; rfl
   have hw1 : IntKind.i64.wrap ((i : Int) + 1) = (i : Int) + 1 := wrap_i64 (by omega) (by omega)
   have h1 := aSliceOp_str (P := prog) (H := H) (T := 9) (l := s) (lo := none) (hi := some (i64 i)) (a := 0) (b := i) (by simp) rfl rfl (by omega) (by omega) (by omega)
   have h2 := aSliceOp_str (P := prog) (H := H) (T := 9) (l := s) (lo := some (i64 ((i : Int) + 1))) (hi := none) (a := ((i + 1 : Nat) : Int)) (b := s.length) (by simp) rfl rfl (by omega) (by omega) (by omega)
   simp only [Int.toNat_natCast,List.take_length,hdr] at h1 h2
   simp at h1
   rw [List.length_cons,L89x0q]
   rw [numG] at hw
   by_cases h46 : ((b.toNat : Int) == 46) = true
   · rw [if_pos h46] at hw
     subst hw
     simp [hlt,hix,h46,h1]
     refine bndC_of (r_digits H (by simp; omega)) ?_
     have hrl : r.length < 2 ^ 62 := by rw [← hdr,List.length_drop]; omega
     cases hp : digsR (s.take i) with
     | true =>
       rw [hp] at hk
       simp [hw1,h2]
       refine bndG_t (.bool (digsR r)) H (r_digits H hrl) ?_
       simpa using hk
     | false =>
       rw [hp] at hk
       simpa using hk
   · rw [if_neg h46] at hw
     have h46' : ((b.toNat : Int) == 46) = false := by simpa using h46
     simp [hlt,hix,h46',hw1]
     refine ih (i + 1) _ _ _ _ _ _ _ _ _ _ _ _ _ _ _ _ _ _ _ _ _ _ _ _ _ hdr hlt ?_
     rw [hw,List.take_add_one,hb]; rfl
theorem r_number (H : AHeap) {s : List UInt8} (hs : s.length < 2 ^ 60) : ACalls prog 89 [str s] H (.bool (numR s)) H := by
 refine acalls_pure MixT func89 (by decide) rfl ?_
 rw [d89]
 exact ⟨s.length + 1,rNum_loop (k := fun u H2 => u = .bool (numR s) ∧ ∃ X,H2 = H ++ X) hs ⟨rfl,[],by simp⟩ s 0 _ _ _ _ _ _ _ _ _ _ _ _ _ _ _ _ _ _ _ _ _ _ _ _ _ rfl (by omega) (by simp [numR])⟩
def signsR : List (List UInt8) := [[60,61],[62,61],[61,61],[33,61],[94,61],[123],[125],[40],[41],[91],[93],[44],[58],[59],[61],[60],[62],[45]]
theorem rSign_loop {K : AHeap} {v : Value} {s : List UInt8} {k : Value → AHeap → Prop} {w : Bool} (ha : Arr K 1 v (strCells signsR)) (hk : k (.bool w) K) :
  ∀ (r : List (List UInt8)) (i : Nat) (s1 s2 s5 s6 s7 s8 s9 s10 s11 s12 s13 s14 s15 s16 s17 : Value),signsR.drop i = r → i ≤ signsR.length → w = decide (s ∈ r) → L90x0 (r.length + 1) k [str s,s1,s2,v,i64 i,s5,s6,s7,s8,s9,s10,s11,s12,s13,s14,s15,s16,s17] K := by
 have hlen := ha.len (P := prog) (T := 23) (e := 9) (by simp)
 have hl18 : signsR.length = 18 := rfl
 simp [strCells] at hlen
 intro r
 induction r with
 | nil =>
   intro i s1 s2 s5 s6 s7 s8 s9 s10 s11 s12 s13 s14 s15 s16 s17 hd hi hw
   have hle : signsR.length ≤ i := by simpa using hd
   have : ¬ i < signsR.length := by omega
   rw [List.length_nil,L90x0q]
   simp at hw
   subst hw
   simp [hlen,this]
   exact hk
 | cons x r ih =>
   intro i s1 s2 s5 s6 s7 s8 s9 s10 s11 s12 s13 s14 s15 s16 s17 hd hi hw
   have hb : signsR[i]? = some x := by rw [← List.head?_drop,hd]; rfl
   have hlt : i < signsR.length := (List.getElem?_eq_some_iff.1 hb).1
   have hdr : signsR.drop (i + 1) = r := by rw [← List.drop_drop,hd]; rfl
   obtain ⟨q,hp1,hp2⟩ := ha.load1 (P := prog) (T := 23) (te := 9) (i := i) (x := str x) (by simp) (by simp) (by simp) (by simp [strCells,hb])
   rw [List.length_cons,L90x0q]
   by_cases he : x = s
   · have : w = true := by rw [hw]; simp [he]
     subst this
     simp [hlen,hlt,hp1,hp2,he]
     exact hk
   · have he' : ¬ s = x := fun e => he e.symm
     simp [hlen,hlt,hp1,hp2,he,show i + 1 < 2 ^ 63 by omega]
     exact ih (i + 1) _ _ _ _ _ _ _ _ _ _ _ _ _ _ _ hdr hlt (by rw [hw]; simp [he'])
set_option maxRecDepth 20000 in
theorem r_sign (H : AHeap) (s : List UInt8) : ACalls prog 90 [str s] H (.bool (decide (s ∈ signsR))) H := by
 refine acalls_pure MixT func90 (by decide) rfl ?_
 rw [d90]
 have hs := sliceLit1 (H := H) (P := prog) (T := 23) (e := 9) (zv := .string ByteArray.empty) (l := signsR.map str) (n := 18) (by kernel_rfl) (by decide) rfl (by decide)
 refine bndL_lit hs ?_
 have ha := arr_strs (H := H) signsR 9 18 rfl
 exact ⟨signsR.length + 1,rSign_loop (k := fun u H2 => u = .bool (decide (s ∈ signsR)) ∧ ∃ X,H2 = H ++ X) ha ⟨rfl,_,rfl⟩ signsR 0 _ _ _ _ _ _ _ _ _ _ _ _ _ _ _ rfl (by decide) rfl⟩
def kindR (s : List UInt8) : Int × List UInt8 := if wordR s = true then (1,s) else if numR s = true then (2,s) else if s ∈ signsR then (4,s) else (0,[])
theorem r_kind (H : AHeap) {s : List UInt8} (hs : s.length < 2 ^ 60) : ACalls prog 86 [str s] H (.tuple #[.int .u8 (kindR s).1,str (kindR s).2]) H := by
 refine acallsT_pure MixT func86 (by decide) rfl ?_
 rw [d86]
 refine bndC_of (r_word H hs) ?_
 unfold kindR
 cases h1 : wordR s with
 | true => simp
 | false =>
   simp
   refine bndC_of (r_number H hs) ?_
   cases h2 : numR s with
   | true => simp
   | false =>
     simp
     refine bndC_of (r_sign H s) ?_
     by_cases h3 : s ∈ signsR
     · simp [h3]
     · simp [h3]
end Go.Vi
namespace Go.Vi
open Go Go.Proofs Go.Proofs.Try
def quoR : List UInt8 → List UInt8 → Nat → List UInt8 × Nat
 | [],_,_ => ([],0)
 | b :: r, acc, c => if ((b.toNat : Int) == 34) = true then (acc, c + 1)
     else if ((b.toNat : Int) == 92) = true then match r with
      | e :: r' => if ((e.toNat : Int) == 34 || (e.toNat : Int) == 92) = true then quoR r' (acc ++ [e]) (c + 2) else ([],0)
      | [] => ([],0)
     else quoR r (acc ++ [b]) (c + 1)
theorem quoR_cons (b : UInt8) (r acc : List UInt8) (c : Nat) : quoR (b :: r) acc c = if ((b.toNat : Int) == 34) = true then (acc,c + 1)
   else if ((b.toNat : Int) == 92) = true then match r with
    | e :: r' => if ((e.toNat : Int) == 34 || (e.toNat : Int) == 92) = true then quoR r' (acc ++ [e]) (c + 2) else ([],0)
    | [] => ([],0)
   else quoR r (acc ++ [b]) (c + 1) := by
 cases r <;> (rw [quoR] <;> rfl)
theorem rQuo_loop {H : AHeap} {s : List UInt8} {k : Value → AHeap → Prop} {w : List UInt8 × Nat} (hs : s.length < 2 ^ 60) (hk : k (.tuple #[str w.1,i64 w.2]) H) :
  ∀ (n : Nat) (r acc : List UInt8) (i : Nat) (s1 s2 s3 s6 s7 s8 s9 s10 s11 s12 s13 s14 s15 s16 s17 s18 s19 s20 s21 s22 s23 s24 s25 s26 s27 s28 s29 s30 s31 s32 s33 s34 s35 s36 s37 s38 s39 s40 s41 s42 s43 s44 s45 s46 s47 s48 s49 s50 s51 s52 s53 s54 : Value),r.length ≤ n → s.drop i = r → i ≤ s.length → acc.length ≤ i → w = quoR r acc i → L84x0 (n + 1) k [str s,s1,s2,s3,str acc,i64 i,s6,s7,s8,s9,s10,s11,s12,s13,s14,s15,s16,s17,s18,s19,s20,s21,s22,s23,s24,s25,s26,s27,s28,s29,s30,s31,s32,s33,s34,s35,s36,s37,s38,s39,s40,s41,s42,s43,s44,s45,s46,s47,s48,s49,s50,s51,s52,s53,s54] H := by
 intro n
 induction n with
 | zero =>
   intro r acc i s1 s2 s3 s6 s7 s8 s9 s10 s11 s12 s13 s14 s15 s16 s17 s18 s19 s20 s21 s22 s23 s24 s25 s26 s27 s28 s29 s30 s31 s32 s33 s34 s35 s36 s37 s38 s39 s40 s41 s42 s43 s44 s45 s46 s47 s48 s49 s50 s51 s52 s53 s54 hn hd hi hac hw
   have : r = [] := List.eq_nil_of_length_eq_zero (by omega)
   subst this
   have hle : s.length ≤ i := by simpa using hd
   have : ¬ i < s.length := by omega
   rw [L84x0q]
   rw [quoR] at hw
   subst hw
   simp [this]
   exact hk
 | succ n ih =>
   intro r acc i s1 s2 s3 s6 s7 s8 s9 s10 s11 s12 s13 s14 s15 s16 s17 s18 s19 s20 s21 s22 s23 s24 s25 s26 s27 s28 s29 s30 s31 s32 s33 s34 s35 s36 s37 s38 s39 s40 s41 s42 s43 s44 s45 s46 s47 s48 s49 s50 s51 s52 s53 s54 hn hd hi hac hw
   cases r with
   | nil =>
     have hle : s.length ≤ i := by simpa using hd
     have : ¬ i < s.length := by omega
     rw [L84x0q]
     rw [quoR] at hw
     subst hw
     simp [this]
     exact hk
   | cons b r =>
     have hb : s[i]? = some b := by rw [← List.head?_drop,hd]; rfl
     have hlt : i < s.length := (List.getElem?_eq_some_iff.1 hb).1
     have hix := aIndex_at (P := prog) (T := 9) (k := .i64) (by simp) hb
     have hdr : s.drop (i + 1) = r := by rw [← List.drop_drop,hd]; rfl
     have step : ∀ (j : Nat) (e : UInt8) (r' : List UInt8) (s1 s2 s3 s6 s7 s8 s9 s10 s11 s12 s13 s14 s15 s16 s17 s18 s19 s20 s21 s22 s23 s24 s25 s26 s27 s28 s29 s30 s31 s32 s33 s34 s35 s36 s37 s38 s39 s40 s41 s42 s43 s44 s45 s46 s47 s48 s49 s50 s51 s52 s53 s54 : Value),s.drop j = e :: r' → i ≤ j → r'.length ≤ n → w = quoR r' (acc ++ [e]) (j + 1) → S84x0 (n + 1) k [str s,s1,s2,s3,str acc,i64 j,s6,s7,s8,s9,s10,s11,s12,s13,s14,s15,s16,s17,s18,s19,s20,s21,s22,s23,s24,s25,s26,s27,s28,s29,s30,s31,s32,s33,s34,s35,s36,s37,s38,s39,s40,s41,s42,s43,s44,s45,s46,s47,s48,s49,s50,s51,s52,s53,s54] H := by
      intro j e r' s1 s2 s3 s6 s7 s8 s9 s10 s11 s12 s13 s14 s15 s16 s17 s18 s19 s20 s21 s22 s23 s24 s25 s26 s27 s28 s29 s30 s31 s32 s33 s34 s35 s36 s37 s38 s39 s40 s41 s42 s43 s44 s45 s46 s47 s48 s49 s50 s51 s52 s53 s54 hdj hij hrl hw2
      have hjl : j < s.length := by
       have := congrArg List.length hdj
       simp at this
       omega
      have hdr' : s.drop (j + 1) = r' := by rw [← List.drop_drop,hdj]; rfl
      have hw1 : IntKind.i64.wrap ((j : Int) + 1) = (j : Int) + 1 := wrap_i64 (by omega) (by omega)
      have hsl := aSliceOp_str (P := prog) (H := H) (T := 9) (l := s) (lo := some (i64 j)) (hi := some (i64 ((j : Int) + 1))) (a := j) (b := ((j + 1 : Nat) : Int)) (by simp) rfl rfl (by omega) (by omega) (by omega)
      have he : (s.take (j + 1)).drop j = [e] := by rw [List.drop_take,hdj]; simp
      simp only [Int.toNat_natCast,he] at hsl
      have hcat := fun x y => aBin_str (P := prog) (H := H) (T := 9) (x := x) (y := y) (a := acc) (b := [e]) (by simp; omega)
      rw [S84x0q]
      simp [hw1,hsl,hcat]
      exact ih r' (acc ++ [e]) (j + 1) _ _ _ _ _ _ _ _ _ _ _ _ _ _ _ _ _ _ _ _ _ _ _ _ _ _ _ _ _ _ _ _ _ _ _ _ _ _ _ _ _ _ _ _ _ _ _ _ _ _ _ _ hrl hdr' hjl (by simp; omega) hw2
     rw [L84x0q]
     rw [quoR_cons] at hw
     simp only [List.length_cons] at hn
     have hw1 : IntKind.i64.wrap ((i : Int) + 1) = (i : Int) + 1 := wrap_i64 (by omega) (by omega)
     by_cases h34 : ((b.toNat : Int) == 34) = true
     · rw [if_pos h34] at hw
       subst hw
       simp [hlt,hix,h34,hw1]
       exact hk
     · have h34' : ((b.toNat : Int) == 34) = false := by simpa using h34
       rw [if_neg h34] at hw
       by_cases h92 : ((b.toNat : Int) == 92) = true
       · rw [if_pos h92] at hw
         cases r with
         | nil =>
           have hle : s.length ≤ i + 1 := by simpa using hdr
           have hn1 : ((i : Int) + 1 == s.length) = true := by rw [beq_iff_eq]; omega
           simp only at hw
           subst hw
           simp [hlt,hix,h34',h92,hw1,hn1]
           exact hk
         | cons e r' =>
           have he : s[i + 1]? = some e := by rw [← List.head?_drop,hdr]; rfl
           have hlt1 : i + 1 < s.length := (List.getElem?_eq_some_iff.1 he).1
           have hie := aIndex_at (P := prog) (T := 9) (k := .i64) (by simp) he
           have hne : ¬ (i : Int) + 1 = s.length := by omega
           have hneb : ((i : Int) + 1 == s.length) = false := by simpa using hne
           simp only [Int.natCast_add,Int.cast_ofNat_Int] at hie
           simp only at hw
           simp only [List.length_cons] at hn
           by_cases q1 : ((e.toNat : Int) == 34) = true
           · rw [if_pos (by simp [q1])] at hw
             have q1' : ((e.toNat : Int) != 34) = false := by simpa using q1
             simp [hlt,hix,h34',h92,hw1,hneb,hie,q1']
             exact step (i + 1) e r' _ _ _ _ _ _ _ _ _ _ _ _ _ _ _ _ _ _ _ _ _ _ _ _ _ _ _ _ _ _ _ _ _ _ _ _ _ _ _ _ _ _ _ _ _ _ _ _ _ _ _ _ hdr (by omega) (by omega) hw
           · have q1' : ((e.toNat : Int) != 34) = true := by simpa using q1
             by_cases q2 : ((e.toNat : Int) == 92) = true
             · rw [if_pos (by simp [q2])] at hw
               have q2' : ((e.toNat : Int) != 92) = false := by simpa using q2
               simp [hlt,hix,h34',h92,hw1,hneb,hie,q1',q2']
               exact step (i + 1) e r' _ _ _ _ _ _ _ _ _ _ _ _ _ _ _ _ _ _ _ _ _ _ _ _ _ _ _ _ _ _ _ _ _ _ _ _ _ _ _ _ _ _ _ _ _ _ _ _ _ _ _ _ hdr (by omega) (by omega) hw
             · rw [if_neg (by simp only [Bool.or_eq_true,not_or]; exact ⟨q1,q2⟩)] at hw
               have q2' : ((e.toNat : Int) != 92) = true := by simpa using q2
               subst hw
               simp [hlt,hix,h34',h92,hw1,hneb,hie,q1',q2']
               exact hk
       · have h92' : ((b.toNat : Int) == 92) = false := by simpa using h92
         rw [if_neg h92] at hw
         simp [hlt,hix,h34',h92']
         exact step i b r _ _ _ _ _ _ _ _ _ _ _ _ _ _ _ _ _ _ _ _ _ _ _ _ _ _ _ _ _ _ _ _ _ _ _ _ _ _ _ _ _ _ _ _ _ _ _ _ _ _ _ _ hd (by omega) (by omega) hw
def quotR : List UInt8 → List UInt8 × Nat
 | [] => ([],0)
 | b :: r => if ((b.toNat : Int) == 34) = true then quoR r [] 1 else ([],0)
theorem r_quoted (H : AHeap) {s : List UInt8} (hs : s.length < 2 ^ 60) : ACalls prog 84 [str s] H (.tuple #[str (quotR s).1,i64 (quotR s).2]) H := by
 refine acallsT_pure MixT func84 (by decide) rfl ?_
 rw [d84]
 cases s with
 | nil => simp [quotR]
 | cons b r =>
   have h0 := aIndex_at (P := prog) (T := 9) (k := .i64) (l := b :: r) (i := 0) (b := b) (by simp) rfl
   simp at h0
   rw [quotR]
   by_cases h34 : ((b.toNat : Int) == 34) = true
   · have h34' : ((b.toNat : Int) != 34) = false := by simpa using h34
     rw [if_pos h34]
     simp [h0,h34']
     exact ⟨r.length + 1,rQuo_loop (k := fun u H2 => u = .tuple #[str (quoR r [] 1).1,i64 (quoR r [] 1).2] ∧ ∃ X,H2 = H ++ X) hs ⟨rfl,[],by simp⟩ r.length r [] 1 _ _ _ _ _ _ _ _ _ _ _ _ _ _ _ _ _ _ _ _ _ _ _ _ _ _ _ _ _ _ _ _ _ _ _ _ _ _ _ _ _ _ _ _ _ _ _ _ _ _ _ _ (Nat.le_refl _) rfl (by simp) (by simp) rfl⟩
   · have h34' : ((b.toNat : Int) != 34) = true := by simpa using h34
     rw [if_neg h34]
     simp [h0,h34']
end Go.Vi
namespace Go.Vi
open Go Go.Proofs Go.Proofs.Try
abbrev RT := Option (Int × List UInt8 × Nat)
def rcl (a : Nat) : RT → List Value
 | none => [.int .u8 0,str [],i64 0,i64 0]
 | some (k,x,n) => [.int .u8 k,str x,i64 a,i64 ((a + n : Nat) : Int)]
def brk (n : Nat) : RT → Bool
 | none => decide (2 < n)
 | some (_,_,m) => decide (m + 1 < n)
def upR (t : List UInt8) (n : Nat) (o : RT) : RT := if 0 < (kindR (t.take n)).1 then some ((kindR (t.take n)).1,(kindR (t.take n)).2,n) else o
def loR (t : List UInt8) : Nat → Nat → RT → RT
 | 0,_,o => o
 | f + 1,n,o => if n ≤ t.length then (if brk n (upR t n o) = true then upR t n o else loR t f (n + 1) (upR t n o)) else o
def okR : RT → Prop
 | none => True
 | some (k,_,m) => 0 < k ∧ m ≤ 2 ^ 60
set_option maxRecDepth 20000 in
set_option maxHeartbeats 1600000 in
theorem long_loop {H : AHeap} {s t : List UInt8} {a : Nat} {z0 z1 z2 z3 : Value} {k : Value → AHeap → Prop} {w : RT} (hs : s.length < 2 ^ 60) (ht : s.drop a = t) (ha : a ≤ s.length) (hk : k (.agg (rcl a w).toArray) (H ++ [.cells (rcl a w) 105,.cells (rcl a w) 105])) :
  ∀ (f n : Nat) (o : RT) (s2 s3 s6 s7 s9 s10 s11 s12 s13 s14 s15 s16 s17 s18 s19 s20 s21 s22 s23 s24 s25 s26 s27 s28 s29 s30 s31 s32 s33 s34 s35 s36 s37 s38 s39 s40 s41 s42 s43 s44 s45 s46 s47 s48 s49 s50 s51 s52 s53 s54 s55 s56 s57 s58 s59 s60 s61 s62 s63 s64 s65 s66 s67 s68 s69 s70 s71 s72 s73 s74 s75 s76 s77 s78 s79 s80 s81 s82 s83 s84 : Value), t.length + 1 ≤ f + n → 1 ≤ n → n ≤ t.length + 1 → okR o → w = loR t f n o →
    L79x0 (f + 1) k [str s,i64 a,s2,s3,.pointer (some ⟨H.length,0,some 4⟩),.pointer (some ⟨H.length + 1,0,some 4⟩),s6,s7,i64 ((a + n : Nat) : Int),s9,s10,s11,s12,s13,s14,s15,s16,s17,s18,s19,s20,s21,s22,s23,s24,s25,s26,s27,s28,s29,s30,s31,s32,s33,s34,s35,s36,s37,s38,s39,s40,s41,s42,s43,s44,s45,s46,s47,s48,s49,s50,s51,s52,s53,s54,s55,s56,s57,s58,s59,s60,s61,s62,s63,s64,s65,s66,s67,s68,s69,s70,s71,s72,s73,s74,s75,s76,s77,s78,s79,s80,s81,s82,s83,s84] (H ++ [.cells [z0,z1,z2,z3] 105,.cells (rcl a o) 105]) := by
 have htl : t.length = s.length - a := by rw [← ht,List.length_drop]
 have done : ∀ (o : RT) (s0 s1 s2 s3 s6 s7 s8 s9 s10 s11 s12 s13 s14 s15 s16 s17 s18 s19 s20 s21 s22 s23 s24 s25 s26 s27 s28 s29 s30 s31 s32 s33 s34 s35 s36 s37 s38 s39 s40 s41 s42 s43 s44 s45 s46 s47 s48 s49 s50 s51 s52 s53 s54 s55 s56 s57 s58 s59 s60 s61 s62 s63 s64 s65 s66 s67 s68 s69 s70 s71 s72 s73 s74 s75 s76 s77 s78 s79 s80 s81 s82 s83 s84 : Value),w = o → S79x2 k [s0,s1,s2,s3,.pointer (some ⟨H.length,0,some 4⟩),.pointer (some ⟨H.length + 1,0,some 4⟩),s6,s7,s8,s9,s10,s11,s12,s13,s14,s15,s16,s17,s18,s19,s20,s21,s22,s23,s24,s25,s26,s27,s28,s29,s30,s31,s32,s33,s34,s35,s36,s37,s38,s39,s40,s41,s42,s43,s44,s45,s46,s47,s48,s49,s50,s51,s52,s53,s54,s55,s56,s57,s58,s59,s60,s61,s62,s63,s64,s65,s66,s67,s68,s69,s70,s71,s72,s73,s74,s75,s76,s77,s78,s79,s80,s81,s82,s83,s84] (H ++ [.cells [z0,z1,z2,z3] 105,.cells (rcl a o) 105]) := by
  intro o s0 s1 s2 s3 s6 s7 s8 s9 s10 s11 s12 s13 s14 s15 s16 s17 s18 s19 s20 s21 s22 s23 s24 s25 s26 s27 s28 s29 s30 s31 s32 s33 s34 s35 s36 s37 s38 s39 s40 s41 s42 s43 s44 s45 s46 s47 s48 s49 s50 s51 s52 s53 s54 s55 s56 s57 s58 s59 s60 s61 s62 s63 s64 s65 s66 s67 s68 s69 s70 s71 s72 s73 s74 s75 s76 s77 s78 s79 s80 s81 s82 s83 s84 hw
  subst hw
  rw [S79x2q]
  have hr : ∃ c0 c1 c2 c3,rcl a w = [c0,c1,c2,c3] ∧ c0.oneCell' = true ∧ c1.oneCell' = true ∧ c2.oneCell' = true ∧ c3.oneCell' = true := by
   cases w with
   | none => exact ⟨_,_,_,_,rfl,rfl,rfl,rfl,rfl⟩
   | some p => exact ⟨_,_,_,_,rfl,rfl,rfl,rfl,rfl⟩
  obtain ⟨c0,c1,c2,c3,e,o0,o1,o2,o3⟩ := hr
  rw [e] at hk ⊢
  simp [o0,o1,o2,o3]
  exact hk
 intro f
 induction f with
 | zero =>
   intro n o s2 s3 s6 s7 s9 s10 s11 s12 s13 s14 s15 s16 s17 s18 s19 s20 s21 s22 s23 s24 s25 s26 s27 s28 s29 s30 s31 s32 s33 s34 s35 s36 s37 s38 s39 s40 s41 s42 s43 s44 s45 s46 s47 s48 s49 s50 s51 s52 s53 s54 s55 s56 s57 s58 s59 s60 s61 s62 s63 s64 s65 s66 s67 s68 s69 s70 s71 s72 s73 s74 s75 s76 s77 s78 s79 s80 s81 s82 s83 s84 hf h1 hn ho hw
   rw [L79x0q]
   have : ¬ ((a + n : Nat) : Int) ≤ s.length := by omega
   simp only [Int.natCast_add] at this
   simp [this]
   rw [B79x0q]
   exact done o _ _ _ _ _ _ _ _ _ _ _ _ _ _ _ _ _ _ _ _ _ _ _ _ _ _ _ _ _ _ _ _ _ _ _ _ _ _ _ _ _ _ _ _ _ _ _ _ _ _ _ _ _ _ _ _ _ _ _ _ _ _ _ _ _ _ _ _ _ _ _ _ _ _ _ _ _ _ _ _ _ _ _ hw
 | succ f ih =>
   intro n o s2 s3 s6 s7 s9 s10 s11 s12 s13 s14 s15 s16 s17 s18 s19 s20 s21 s22 s23 s24 s25 s26 s27 s28 s29 s30 s31 s32 s33 s34 s35 s36 s37 s38 s39 s40 s41 s42 s43 s44 s45 s46 s47 s48 s49 s50 s51 s52 s53 s54 s55 s56 s57 s58 s59 s60 s61 s62 s63 s64 s65 s66 s67 s68 s69 s70 s71 s72 s73 s74 s75 s76 s77 s78 s79 s80 s81 s82 s83 s84 hf h1 hn ho hw
   rw [L79x0q]
   rw [loR] at hw
   by_cases hle : n ≤ t.length
   · rw [if_pos hle] at hw
     have hle' : ((a + n : Nat) : Int) ≤ s.length := by omega
     have hsl := fun (H : AHeap) => aSliceOp_str (P := prog) (H := H) (T := 9) (l := s) (lo := some (i64 a)) (hi := some (i64 ((a + n : Nat) : Int))) (a := a) (b := ((a + n : Nat) : Int)) (by simp) rfl rfl (by omega) (by omega) (by omega)
     have he : (s.take (a + n)).drop a = t.take n := by rw [List.drop_take,ht]; congr 1; omega
     simp only [Int.toNat_natCast,he] at hsl
     have hkd := r_kind (H ++ [.cells [z0,z1,z2,z3] 105,.cells (rcl a o) 105]) (s := t.take n) (by simp; omega)
     simp only [Int.natCast_add] at hle' hsl
     simp [hle',hsl]
     refine bndC_of hkd ?_
     simp
     have tail : ∀ (o' : RT) (s2 s3 s6 s7 s9 s10 s11 s12 s13 s14 s15 s16 s17 s18 s19 s20 s21 s22 s23 s24 s25 s26 s27 s28 s29 s30 s31 s32 s33 s34 s35 s36 s37 s38 s39 s40 s41 s42 s43 s44 s45 s46 s47 s48 s49 s50 s51 s52 s53 s54 s55 s56 s57 s58 s59 s60 s61 s62 s63 s64 s65 s66 s67 s68 s69 s70 s71 s72 s73 s74 s75 s76 s77 s78 s79 s80 s81 s82 s83 s84 : Value),okR o' → w = (if brk n o' = true then o' else loR t f (n + 1) o') →
       S79x1 (f + 1) k [str s,i64 a,s2,s3,.pointer (some ⟨H.length,0,some 4⟩),.pointer (some ⟨H.length + 1,0,some 4⟩),s6,s7,i64 ((a : Int) + n),s9,s10,s11,s12,s13,s14,s15,s16,s17,s18,s19,s20,s21,s22,s23,s24,s25,s26,s27,s28,s29,s30,s31,s32,s33,s34,s35,s36,s37,s38,s39,s40,s41,s42,s43,s44,s45,s46,s47,s48,s49,s50,s51,s52,s53,s54,s55,s56,s57,s58,s59,s60,s61,s62,s63,s64,s65,s66,s67,s68,s69,s70,s71,s72,s73,s74,s75,s76,s77,s78,s79,s80,s81,s82,s83,s84] (H ++ [.cells [z0,z1,z2,z3] 105,.cells (rcl a o') 105]) := by
      intro o' s2 s3 s6 s7 s9 s10 s11 s12 s13 s14 s15 s16 s17 s18 s19 s20 s21 s22 s23 s24 s25 s26 s27 s28 s29 s30 s31 s32 s33 s34 s35 s36 s37 s38 s39 s40 s41 s42 s43 s44 s45 s46 s47 s48 s49 s50 s51 s52 s53 s54 s55 s56 s57 s58 s59 s60 s61 s62 s63 s64 s65 s66 s67 s68 s69 s70 s71 s72 s73 s74 s75 s76 s77 s78 s79 s80 s81 s82 s83 s84 ho' hw'
      rw [S79x1q]
      have wn : IntKind.i64.wrap ((a : Int) + n + 1) = ((a + (n + 1) : Nat) : Int) := by rw [wrap_i64 (by omega) (by omega)]; omega
      have wa : IntKind.i64.wrap ((a : Int) + 2) = (a : Int) + 2 := wrap_i64 (by omega) (by omega)
      cases o' with
      | none =>
        by_cases hb : 2 < n
        · have hbI : (a : Int) + 2 < (a : Int) + n := by omega
          simp only [brk,hb,decide_true,if_true] at hw'
          simp [rcl,wa,hbI]
          rw [B79x1q]
          exact done none _ _ _ _ _ _ _ _ _ _ _ _ _ _ _ _ _ _ _ _ _ _ _ _ _ _ _ _ _ _ _ _ _ _ _ _ _ _ _ _ _ _ _ _ _ _ _ _ _ _ _ _ _ _ _ _ _ _ _ _ _ _ _ _ _ _ _ _ _ _ _ _ _ _ _ _ _ _ _ _ _ _ _ hw'
        · have hbI : ¬ (a : Int) + 2 < (a : Int) + n := by omega
          simp only [brk,hb,decide_false,if_false,Bool.false_eq_true] at hw'
          simp [rcl,wa,hbI,wn]
          exact ih (n + 1) none _ _ _ _ _ _ _ _ _ _ _ _ _ _ _ _ _ _ _ _ _ _ _ _ _ _ _ _ _ _ _ _ _ _ _ _ _ _ _ _ _ _ _ _ _ _ _ _ _ _ _ _ _ _ _ _ _ _ _ _ _ _ _ _ _ _ _ _ _ _ _ _ _ _ _ _ _ _ _ _ (by omega) (by omega) (by omega) trivial hw'
      | some q =>
        obtain ⟨kk,x,m⟩ := q
        obtain ⟨hkk,hm60⟩ : 0 < kk ∧ m ≤ 2 ^ 60 := ho'
        have hk0 : (kk == 0) = false := by rw [beq_eq_false_iff_ne]; omega
        have wm : IntKind.i64.wrap ((a : Int) + m + 1) = (a : Int) + m + 1 := wrap_i64 (by omega) (by omega)
        by_cases hb : m + 1 < n
        · have hbI : (a : Int) + m + 1 < (a : Int) + n := by omega
          simp only [brk,hb,decide_true,if_true] at hw'
          simp [rcl,hkk,wm,hbI]
          rw [B79x1q]
          exact done (some (kk,x,m)) _ _ _ _ _ _ _ _ _ _ _ _ _ _ _ _ _ _ _ _ _ _ _ _ _ _ _ _ _ _ _ _ _ _ _ _ _ _ _ _ _ _ _ _ _ _ _ _ _ _ _ _ _ _ _ _ _ _ _ _ _ _ _ _ _ _ _ _ _ _ _ _ _ _ _ _ _ _ _ _ _ _ _ hw'
        · have hbI : ¬ (a : Int) + m + 1 < (a : Int) + n := by omega
          simp only [brk,hb,decide_false,if_false,Bool.false_eq_true] at hw'
          simp [rcl,hkk,wm,hbI,hk0,wn]
          exact ih (n + 1) (some (kk,x,m)) _ _ _ _ _ _ _ _ _ _ _ _ _ _ _ _ _ _ _ _ _ _ _ _ _ _ _ _ _ _ _ _ _ _ _ _ _ _ _ _ _ _ _ _ _ _ _ _ _ _ _ _ _ _ _ _ _ _ _ _ _ _ _ _ _ _ _ _ _ _ _ _ _ _ _ _ _ _ _ _ (by omega) (by omega) (by omega) ⟨hkk,hm60⟩ hw'
     by_cases hkk : 0 < (kindR (t.take n)).1
     · have hu : upR t n o = some ((kindR (t.take n)).1,(kindR (t.take n)).2,n) := by unfold upR; rw [if_pos hkk]
       rw [hu] at hw
       obtain ⟨c0,c1,c2,c3,e⟩ : ∃ c0 c1 c2 c3,rcl a o = [c0,c1,c2,c3] := by
        cases o with
        | none => exact ⟨_,_,_,_,rfl⟩
        | some p => exact ⟨_,_,_,_,rfl⟩
       simp [hkk,e]
       exact tail (some ((kindR (t.take n)).1,(kindR (t.take n)).2,n)) _ _ _ _ _ _ _ _ _ _ _ _ _ _ _ _ _ _ _ _ _ _ _ _ _ _ _ _ _ _ _ _ _ _ _ _ _ _ _ _ _ _ _ _ _ _ _ _ _ _ _ _ _ _ _ _ _ _ _ _ _ _ _ _ _ _ _ _ _ _ _ _ _ _ _ _ _ _ _ _ ⟨hkk,by omega⟩ hw
     · have hu : upR t n o = o := by unfold upR; rw [if_neg hkk]
       rw [hu] at hw
       simp [hkk]
       exact tail o _ _ _ _ _ _ _ _ _ _ _ _ _ _ _ _ _ _ _ _ _ _ _ _ _ _ _ _ _ _ _ _ _ _ _ _ _ _ _ _ _ _ _ _ _ _ _ _ _ _ _ _ _ _ _ _ _ _ _ _ _ _ _ _ _ _ _ _ _ _ _ _ _ _ _ _ _ _ _ _ ho hw
   · rw [if_neg hle] at hw
     have : ¬ ((a + n : Nat) : Int) ≤ s.length := by omega
     simp only [Int.natCast_add] at this
     simp [this]
     rw [B79x0q]
     exact done o _ _ _ _ _ _ _ _ _ _ _ _ _ _ _ _ _ _ _ _ _ _ _ _ _ _ _ _ _ _ _ _ _ _ _ _ _ _ _ _ _ _ _ _ _ _ _ _ _ _ _ _ _ _ _ _ _ _ _ _ _ _ _ _ _ _ _ _ _ _ _ _ _ _ _ _ _ _ _ _ _ _ _ hw
def longR (t : List UInt8) : RT := match t with
 | [] => none
 | b :: r => if ((b.toNat : Int) == 34) = true then (if 0 < (quoR r [] 1).2 ∧ (t.take (quoR r [] 1).2).all isSign = true then some (3,(quoR r [] 1).1,(quoR r [] 1).2) else none) else loR t (t.length) 1 none
theorem quoR_le : ∀ (n : Nat) (r acc : List UInt8) (c : Nat),r.length ≤ n → (quoR r acc c).2 ≤ c + r.length := by
 intro n
 induction n with
 | zero =>
   intro r acc c h
   have : r = [] := List.eq_nil_of_length_eq_zero (by omega)
   subst this
   rw [quoR]; simp
 | succ n ih =>
   intro r acc c h
   cases r with
   | nil => rw [quoR]; simp
   | cons b r =>
     simp only [List.length_cons] at h ⊢
     rw [quoR_cons]
     split
     · simp only; omega
     · split
       · cases r with
         | nil => simp
         | cons e r' =>
           simp only [List.length_cons] at h ⊢
           split
           · have := ih r' (acc ++ [e]) (c + 2) (by omega); omega
           · simp
       · have := ih r (acc ++ [b]) (c + 1) (by omega); omega
set_option maxRecDepth 20000 in
set_option maxHeartbeats 1600000 in
theorem r_longest (H : AHeap) {s : List UInt8} {a : Nat} (hs : s.length < 2 ^ 60) (ha : a < s.length) : ACalls prog 79 [str s,i64 a] H (.agg (rcl a (longR (s.drop a))).toArray) H := by
 have hfl : ∀ o : RT,flat (.agg (rcl a o).toArray) = true := by
  intro o
  cases o with
  | none => rfl
  | some p => rfl
 refine acallsT_pure MixT func79 (by decide) (hfl _) ?_
 rw [d79]
 obtain ⟨b,r,hbr⟩ : ∃ b r,s.drop a = b :: r := by
  cases h : s.drop a with
  | nil => simp at h; omega
  | cons b r => exact ⟨b,r,rfl⟩
 have hb : s[a]? = some b := by rw [← List.head?_drop,hbr]; rfl
 have hix := aIndex_at (P := prog) (T := 9) (k := .i64) (by simp) hb
 have hl : (b :: r).length = s.length - a := by rw [← hbr,List.length_drop]
 have hw1 : IntKind.i64.wrap ((a : Int) + 1) = ((a + 1 : Nat) : Int) := by rw [wrap_i64 (by omega) (by omega)]; omega
 rw [hbr,longR]
 by_cases h34 : ((b.toNat : Int) == 34) = true
 · rw [if_pos h34]
   have hq : quotR (b :: r) = quoR r [] 1 := by rw [quotR,if_pos h34]
   have hqle := quoR_le r.length r [] 1 (Nat.le_refl _)
   generalize hQ : quoR r [] 1 = Q at hq hqle
   obtain ⟨x,u⟩ := Q
   simp only at hqle
   simp only [List.length_cons] at hl
   have h1 := fun (H : AHeap) => aSliceOp_str (P := prog) (H := H) (T := 9) (l := s) (lo := some (i64 a)) (hi := none) (a := a) (b := s.length) (by simp) rfl rfl (by omega) (by omega) (by omega)
   simp only [Int.toNat_natCast,List.take_length,hbr] at h1
   have h2 := fun (H : AHeap) => aSliceOp_str (P := prog) (H := H) (T := 9) (l := s) (lo := some (i64 a)) (hi := some (i64 ((a : Int) + u))) (a := a) (b := ((a + u : Nat) : Int)) (by simp) rfl rfl (by omega) (by omega) (by omega)
   have he : (s.take (a + u)).drop a = (b :: r).take u := by rw [List.drop_take,hbr]; congr 1; omega
   simp only [Int.toNat_natCast,he] at h2
   have hq2 := fun (H : AHeap) => r_quoted H (s := b :: r) (by simp; omega)
   rw [hq] at hq2
   have hwu : IntKind.i64.wrap ((a : Int) + u) = (a : Int) + u := wrap_i64 (by omega) (by omega)
   have done : ∀ (o : RT) (s0 s1 s2 s3 s6 s7 s8 s9 s10 s11 s12 s13 s14 s15 s16 s17 s18 s19 s20 s21 s22 s23 s24 s25 s26 s27 s28 s29 s30 s31 s32 s33 s34 s35 s36 s37 s38 s39 s40 s41 s42 s43 s44 s45 s46 s47 s48 s49 s50 s51 s52 s53 s54 s55 s56 s57 s58 s59 s60 s61 s62 s63 s64 s65 s66 s67 s68 s69 s70 s71 s72 s73 s74 s75 s76 s77 s78 s79 s80 s81 s82 s83 s84 : Value),S79x0 (fun v H2 => v = .agg (rcl a o).toArray ∧ ∃ X,H2 = H ++ X) [s0,s1,s2,s3,.pointer (some ⟨H.length,0,some 4⟩),.pointer (some ⟨H.length + 1,0,some 4⟩),s6,s7,s8,s9,s10,s11,s12,s13,s14,s15,s16,s17,s18,s19,s20,s21,s22,s23,s24,s25,s26,s27,s28,s29,s30,s31,s32,s33,s34,s35,s36,s37,s38,s39,s40,s41,s42,s43,s44,s45,s46,s47,s48,s49,s50,s51,s52,s53,s54,s55,s56,s57,s58,s59,s60,s61,s62,s63,s64,s65,s66,s67,s68,s69,s70,s71,s72,s73,s74,s75,s76,s77,s78,s79,s80,s81,s82,s83,s84] (H ++ [.cells [.int .u8 0,str [],i64 0,i64 0] 105,.cells (rcl a o) 105]) := by
    intro o s0 s1 s2 s3 s6 s7 s8 s9 s10 s11 s12 s13 s14 s15 s16 s17 s18 s19 s20 s21 s22 s23 s24 s25 s26 s27 s28 s29 s30 s31 s32 s33 s34 s35 s36 s37 s38 s39 s40 s41 s42 s43 s44 s45 s46 s47 s48 s49 s50 s51 s52 s53 s54 s55 s56 s57 s58 s59 s60 s61 s62 s63 s64 s65 s66 s67 s68 s69 s70 s71 s72 s73 s74 s75 s76 s77 s78 s79 s80 s81 s82 s83 s84
    rw [S79x0q]
    have hr : ∃ c0 c1 c2 c3,rcl a o = [c0,c1,c2,c3] ∧ c0.oneCell' = true ∧ c1.oneCell' = true ∧ c2.oneCell' = true ∧ c3.oneCell' = true := by
     cases o with
     | none => exact ⟨_,_,_,_,rfl,rfl,rfl,rfl,rfl⟩
     | some p => exact ⟨_,_,_,_,rfl,rfl,rfl,rfl,rfl⟩
    obtain ⟨c0,c1,c2,c3,e,o0,o1,o2,o3⟩ := hr
    rw [e]
    simp [o0,o1,o2,o3]
   simp [hix,h34,h1]
   refine bndC_of (hq2 _) ?_
   by_cases hu : 0 < u
   · cases hp : ((b :: r).take u).all isSign with
     | true =>
       have hpl := fun (H : AHeap) => r_plain H (s := (b :: r).take u) (by simp; omega)
       rw [hp] at hpl
       simp [hu,hwu,h2]
       refine bndG_t (.bool true) _ (hpl _) ?_
       simp [hu,hwu]
       exact done (some (3,x,u)) _ _ _ _ _ _ _ _ _ _ _ _ _ _ _ _ _ _ _ _ _ _ _ _ _ _ _ _ _ _ _ _ _ _ _ _ _ _ _ _ _ _ _ _ _ _ _ _ _ _ _ _ _ _ _ _ _ _ _ _ _ _ _ _ _ _ _ _ _ _ _ _ _ _ _ _ _ _ _ _ _ _ _
     | false =>
       have hpl := fun (H : AHeap) => r_plain H (s := (b :: r).take u) (by simp; omega)
       rw [hp] at hpl
       simp [hu,hwu,h2]
       refine bndG_t (.bool false) _ (hpl _) ?_
       simp
       exact done none _ _ _ _ _ _ _ _ _ _ _ _ _ _ _ _ _ _ _ _ _ _ _ _ _ _ _ _ _ _ _ _ _ _ _ _ _ _ _ _ _ _ _ _ _ _ _ _ _ _ _ _ _ _ _ _ _ _ _ _ _ _ _ _ _ _ _ _ _ _ _ _ _ _ _ _ _ _ _ _ _ _ _
   · have hu' : u = 0 := by omega
     subst hu'
     simp
     exact done none _ _ _ _ _ _ _ _ _ _ _ _ _ _ _ _ _ _ _ _ _ _ _ _ _ _ _ _ _ _ _ _ _ _ _ _ _ _ _ _ _ _ _ _ _ _ _ _ _ _ _ _ _ _ _ _ _ _ _ _ _ _ _ _ _ _ _ _ _ _ _ _ _ _ _ _ _ _ _ _ _ _ _
 · rw [if_neg h34]
   have h34' : ((b.toNat : Int) == 34) = false := by simpa using h34
   simp [hix,h34',hw1]
   exact ⟨(b :: r).length + 1,long_loop (H := H) (k := fun u H2 => u = .agg (rcl a (loR (b :: r) (b :: r).length 1 none)).toArray ∧ ∃ X,H2 = H ++ X) hs hbr (by omega) ⟨rfl,_,rfl⟩ (b :: r).length 1 none _ _ _ _ _ _ _ _ _ _ _ _ _ _ _ _ _ _ _ _ _ _ _ _ _ _ _ _ _ _ _ _ _ _ _ _ _ _ _ _ _ _ _ _ _ _ _ _ _ _ _ _ _ _ _ _ _ _ _ _ _ _ _ _ _ _ _ _ _ _ _ _ _ _ _ _ _ _ _ _ (by omega) (by omega) (by simp) trivial rfl⟩
end Go.Vi
namespace Go.Vi
open Go Go.Proofs
def shN (k : Nat) (n : Nod) : Nod := if n.kind = 0 then n else if n.kind = 3 then { n with left := n.left + k } else { n with left := n.left + k,right := n.right + k }
theorem strO_mono {ts : List Tok} : ∀ (f f' m a : Nat) (l : List Nod) (r : Option (List Nod × Nat)),f ≤ f' → strO ts f m a l = some r → strO ts f' m a l = some r := by
 intro f
 induction f with
 | zero => intro f' m a l r _ h; cases h
 | succ f ih =>
   intro f' m a l r hf h
   obtain ⟨f',rfl⟩ : ∃ g,f' = g + 1 := ⟨f' - 1,by omega⟩
   have hf' : f ≤ f' := by omega
   unfold strO at h ⊢
   by_cases hm : m = 2
   · rw [if_pos hm] at h ⊢
     by_cases h1 : isT ts a 1 notS = true
     · rw [if_pos h1] at h ⊢
       obtain ⟨q,e1,e2⟩ := Option.map_eq_some_iff.1 h
       rw [ih _ _ _ _ _ hf' e1]; simp [e2]
     · rw [if_neg h1] at h ⊢
       by_cases h2 : isT ts a 4 [40] = true
       · rw [if_pos h2] at h ⊢
         obtain ⟨q,e1,e2⟩ := Option.map_eq_some_iff.1 h
         rw [ih _ _ _ _ _ hf' e1]; simp [e2]
       · rw [if_neg h2] at h ⊢; exact h
   · rw [if_neg hm] at h ⊢
     by_cases hm2 : m < 2
     · rw [if_pos hm2] at h ⊢
       obtain ⟨q,e1,e2⟩ := Option.bind_eq_some_iff.1 h
       rw [ih _ _ _ _ _ hf' e1,Option.bind_some]
       cases q with
       | none => exact e2
       | some p => exact ih _ _ _ _ _ hf' e2
     · rw [if_neg hm2] at h ⊢
       by_cases hw : isT ts a 1 (wordO (m - 10)) = true
       · rw [if_pos hw] at h ⊢
         obtain ⟨q,e1,e2⟩ := Option.bind_eq_some_iff.1 h
         rw [ih _ _ _ _ _ hf' e1,Option.bind_some]
         cases q with
         | none => exact e2
         | some p => exact ih _ _ _ _ _ hf' e2
       · rw [if_neg hw] at h ⊢; exact h
theorem conO_of {ts : List Tok} {f a : Nat} {r : Option (List Nod × Nat)} (h : strO ts f 0 a [] = some r) : conO ts a = r := by
 have h1 := strO_mono _ (max f (4 * ts.length + 3)) _ _ _ _ (by omega) h
 have h2 := strO_mono _ (max f (4 * ts.length + 3)) _ _ _ _ (by omega) (conO_str ts a)
 rw [h1] at h2
 exact (Option.some.inj h2).symm
theorem str_paren {ts : List Tok} {f a b : Nat} {l l' : List Nod} (h : strO ts f 0 (a + 1) l = some (some (l',b))) (ho : isT ts a 4 [40] = true) (hc : isT ts b 4 [41] = true) : strO ts (f + 1) 2 a l = some (some (l',b + 1)) := by
 have h1 : ¬ isT ts a 1 notS = true := by
  unfold isT at ho ⊢
  cases ht : ts[a]? with
  | none => simp
  | some t => simp [ht] at ho; simp [ho.1]
 unfold strO
 rw [if_pos rfl,if_neg h1,if_pos ho,h]
 simp [signO,hc]
theorem str_neg2 {ts : List Tok} {f a b : Nat} {l l1 : List Nod} (h1 : strO ts f 2 (a + 1) l = some (some (l1,b))) (hw : isT ts a 1 notS = true) : strO ts (f + 1) 2 a l = some (some (l1 ++ [opN 3 ((l1.length : Int) - 1) 0],b)) := by
 unfold strO
 rw [if_pos rfl,if_pos hw,h1]; rfl
end Go.Vi
namespace Go.Vi
open Go Go.Proofs
theorem runF_cons (p : UInt8 → Bool) (b : UInt8) (t : List UInt8) : runF p (b :: t) = if p b = true then runF p t + 1 else 0 := by
 unfold runF
 rw [List.takeWhile_cons]
 split <;> simp_all
theorem all_take {p : UInt8 → Bool} : ∀ (t : List UInt8) (n : Nat),n ≤ t.length → ((t.take n).all p = true ↔ n ≤ runF p t) := by
 intro t
 induction t with
 | nil => intro n h; simp at h; subst h; simp
 | cons b t ih =>
   intro n h
   cases n with
   | zero => simp
   | succ n =>
     simp only [List.length_cons] at h
     rw [List.take_succ_cons,List.all_cons,runF_cons]
     cases hb : p b with
     | false => simp
     | true =>
       have := ih n (by omega)
       simp only [Bool.true_and,if_true]
       rw [this]
       omega
theorem digs_take {t : List UInt8} {n : Nat} (h : n ≤ t.length) : digsR (t.take n) = true ↔ 1 ≤ n ∧ n ≤ runF isDig t := by
 unfold digsR
 rw [Bool.and_eq_true,all_take t n h]
 have : (!decide (t.take n = [])) = true ↔ 1 ≤ n := by
  cases n with
  | zero => simp
  | succ n => cases t with
    | nil => simp at h
    | cons b t => simp
 rw [this]
 exact and_comm
theorem digs_mem {p : List UInt8} {c : UInt8} (hc : isDig c = false) (h : c ∈ p) : digsR p = false := by
 unfold digsR
 have : p.all isDig = false := by rw [List.all_eq_false]; exact ⟨c,h,by simp [hc]⟩
 rw [this]; rfl
theorem numG_mem {c : UInt8} (hc : isDig c = false) : ∀ (v p : List UInt8),c ∈ p → numG p v = false := by
 intro v
 induction v with
 | nil => intro p h; rw [numG]; exact digs_mem hc h
 | cons b v ih =>
   intro p h
   rw [numG]
   split
   · rw [digs_mem hc h]; rfl
   · exact ih _ (by simp [h])
theorem numG_bad {c : UInt8} {p v : List UInt8} (hc : isDig c = false) (h46 : ¬ ((c.toNat : Int) == 46) = true) : numG p (c :: v) = false := by
 rw [numG,if_neg h46]
 exact numG_mem hc v _ (by simp)
theorem dig_no46 {b : UInt8} (h : isDig b = true) : ¬ ((b.toNat : Int) == 46) = true := by
 rw [isDig_iff] at h
 rw [beq_iff_eq]
 omega
theorem numG_digs : ∀ (u p : List UInt8) (v : List UInt8),u.all isDig = true → numG p (u ++ v) = numG (p ++ u) v := by
 intro u
 induction u with
 | nil => intro p v _; simp
 | cons b u ih =>
   intro p v h
   rw [List.all_cons,Bool.and_eq_true] at h
   rw [List.cons_append,numG,if_neg (dig_no46 h.1),ih _ _ h.2]
   simp
theorem signs_ok : ∀ s ∈ signsR,∀ b,s[0]? = some b → isLow b = false ∧ isDig b = false := by
 intro s hs b hb
 simp only [signsR,List.mem_cons,List.not_mem_nil,or_false] at hs
 rcases hs with rfl | rfl | rfl | rfl | rfl | rfl | rfl | rfl | rfl | rfl | rfl | rfl | rfl | rfl | rfl | rfl | rfl | rfl <;> (cases hb; decide)
theorem signs_len : ∀ s ∈ signsR,s.length ≤ 2 := by decide
theorem lo_run {t : List UInt8} {m : Nat} (hm : m ≤ t.length) : ∀ (d n f : Nat) (o : RT),n + d = m → d < f → (∀ j,n ≤ j → j ≤ m → 0 < (kindR (t.take j)).1) →
  loR t f n o = loR t (f - (d + 1)) (m + 1) (some ((kindR (t.take m)).1,(kindR (t.take m)).2,m)) := by
 intro d
 induction d with
 | zero =>
   intro n f o hd hf h
   obtain ⟨f,rfl⟩ : ∃ g,f = g + 1 := ⟨f - 1,by omega⟩
   obtain rfl : n = m := by omega
   rw [loR,if_pos hm]
   have : upR t n o = some ((kindR (t.take n)).1,(kindR (t.take n)).2,n) := by unfold upR; rw [if_pos (h n (Nat.le_refl _) (Nat.le_refl _))]
   rw [this,if_neg (by simp [brk])]
   rfl
 | succ d ih =>
   intro n f o hd hf h
   obtain ⟨f,rfl⟩ : ∃ g,f = g + 1 := ⟨f - 1,by omega⟩
   rw [loR,if_pos (by omega)]
   have : upR t n o = some ((kindR (t.take n)).1,(kindR (t.take n)).2,n) := by unfold upR; rw [if_pos (h n (Nat.le_refl _) (by omega))]
   rw [this,if_neg (by simp [brk])]
   rw [ih (n + 1) f _ (by omega) (by omega) (fun j h1 h2 => h j (by omega) h2)]
   congr 1
   omega
theorem lo_end {t : List UInt8} {m : Nat} {k : Int} {x : List UInt8} (h : ∀ j,m < j → j ≤ t.length → ¬ 0 < (kindR (t.take j)).1) (f : Nat) : loR t f (m + 1) (some (k,x,m)) = some (k,x,m) := by
 have hu : ∀ j,m < j → j ≤ t.length → upR t j (some (k,x,m)) = some (k,x,m) := fun j h1 h2 => by unfold upR; rw [if_neg (h j h1 h2)]
 cases f with
 | zero => rfl
 | succ f =>
   rw [loR]
   by_cases h1 : m + 1 ≤ t.length
   · rw [if_pos h1,hu _ (by omega) h1,if_neg (by simp [brk])]
     cases f with
     | zero => rfl
     | succ f =>
       rw [loR]
       by_cases h2 : m + 1 + 1 ≤ t.length
       · rw [if_pos h2,hu _ (by omega) h2,if_pos (by simp [brk])]
       · rw [if_neg h2]
   · rw [if_neg h1]
theorem lo_none {t : List UInt8} (h : ∀ j,1 ≤ j → j ≤ t.length → ¬ 0 < (kindR (t.take j)).1) : ∀ (f n : Nat),1 ≤ n → loR t f n none = none := by
 intro f
 induction f with
 | zero => intro n _; rfl
 | succ f ih =>
   intro n hn
   rw [loR]
   by_cases h1 : n ≤ t.length
   · have : upR t n none = none := by unfold upR; rw [if_neg (h n hn h1)]
     rw [if_pos h1,this,ih (n + 1) (by omega)]
     split <;> rfl
   · rw [if_neg h1]
theorem take_head {b : UInt8} {r : List UInt8} {j : Nat} (h : 1 ≤ j) : ∃ v,(b :: r).take j = b :: v := by
 obtain ⟨j,rfl⟩ : ∃ i,j = i + 1 := ⟨j - 1,by omega⟩
 exact ⟨r.take j,rfl⟩
theorem kind_low {b : UInt8} {r : List UInt8} {j : Nat} (hb : isLow b = true) (h1 : 1 ≤ j) (hj : j ≤ (b :: r).length) :
  kindR ((b :: r).take j) = if j ≤ runF isMark (b :: r) then (1,(b :: r).take j) else (0,[]) := by
 obtain ⟨v,hv⟩ := take_head (b := b) (r := r) h1
 have hw : wordR ((b :: r).take j) = decide (j ≤ runF isMark (b :: r)) := by
  unfold wordR
  have h0 : (((b :: r).take j)[0]?).any isLow = true := by rw [hv]; simpa using hb
  rw [h0,Bool.and_true]
  have := all_take (p := isMark) (b :: r) j hj
  by_cases hq : j ≤ runF isMark (b :: r)
  · rw [this.2 hq]; simp [hq]
  · simp only [hq,decide_false]
    cases h2 : ((b :: r).take j).all isMark with
    | true => exact absurd (this.1 h2) hq
    | false => rfl
 have hnd : isDig b = false := by
  rw [isLow_iff] at hb
  rw [← Bool.not_eq_true,isDig_iff]
  omega
 have h46 : ¬ ((b.toNat : Int) == 46) = true := by
  rw [isLow_iff] at hb
  rw [beq_iff_eq]
  omega
 have hn : numR ((b :: r).take j) = false := by rw [hv]; exact numG_bad hnd h46
 have hs : ¬ (b :: r).take j ∈ signsR := by
  intro hm
  have := (signs_ok _ hm b (by rw [hv]; rfl)).1
  rw [this] at hb
  cases hb
 unfold kindR
 rw [hw,hn]
 by_cases hq : j ≤ runF isMark (b :: r)
 · simp [hq]
 · simp [hq,hs]
theorem kind_dig {b : UInt8} {r : List UInt8} {j : Nat} (hb : isDig b = true) (h1 : 1 ≤ j) :
  kindR ((b :: r).take j) = if numR ((b :: r).take j) = true then (2,(b :: r).take j) else (0,[]) := by
 obtain ⟨v,hv⟩ := take_head (b := b) (r := r) h1
 have hnl : isLow b = false := by
  rw [isDig_iff] at hb
  rw [← Bool.not_eq_true,isLow_iff]
  omega
 have hw : wordR ((b :: r).take j) = false := by
  unfold wordR
  rw [hv]
  simp [hnl]
 have hs : ¬ (b :: r).take j ∈ signsR := by
  intro hm
  have := (signs_ok _ hm b (by rw [hv]; rfl)).2
  rw [this] at hb
  cases hb
 unfold kindR
 rw [hw]
 simp [hs]
theorem kind_sig {b : UInt8} {r : List UInt8} {j : Nat} (hl : isLow b = false) (hd : isDig b = false) (h1 : 1 ≤ j) :
  kindR ((b :: r).take j) = if (b :: r).take j ∈ signsR then (4,(b :: r).take j) else (0,[]) := by
 obtain ⟨v,hv⟩ := take_head (b := b) (r := r) h1
 have hw : wordR ((b :: r).take j) = false := by
  unfold wordR
  rw [hv]
  simp [hl]
 have hn : numR ((b :: r).take j) = false := by
  rw [hv]
  by_cases h46 : ((b.toNat : Int) == 46) = true
  · unfold numR
    rw [numG,if_pos h46]
    rfl
  · exact numG_bad hd h46
 unfold kindR
 rw [hw,hn]
 simp
theorem num_take {t : List UInt8} {j : Nat} (hj : j ≤ t.length) (h1 : 1 ≤ runF isDig t) : numR (t.take j) = true ↔ (1 ≤ j ∧ j ≤ runF isDig t) ∨ ((t[runF isDig t]?).any (fun e => (e.toNat : Int) == 46) = true ∧ runF isDig t + 2 ≤ j ∧ j ≤ runF isDig t + 1 + runF isDig (t.drop (runF isDig t + 1))) := by
 have hle := runF_le isDig t
 generalize hm : runF isDig t = m at *
 have hD : (t.take m).all isDig = true := (all_take t m hle).2 (by omega)
 by_cases hjm : j ≤ m
 · have : (t.take j).all isDig = true := (all_take t j hj).2 (by omega)
   have h2 := numG_digs (t.take j) [] [] this
   rw [List.append_nil,List.nil_append,numG] at h2
   unfold numR
   rw [h2,digs_take hj,hm]
   constructor
   · intro h; exact .inl h
   · rintro (h | ⟨_,h,_⟩)
     · exact h
     · omega
 · have hml : m < t.length := by omega
   obtain ⟨c,hc⟩ : ∃ c,t[m]? = some c := ⟨_,List.getElem?_eq_getElem hml⟩
   have hdm : t.drop m = c :: t.drop (m + 1) := by
    rw [List.drop_eq_getElem_cons hml]
    rw [List.getElem?_eq_getElem hml] at hc
    cases hc
    rfl
   have hcd : isDig c = false := by
    cases hq : isDig c with
    | false => rfl
    | true =>
      exfalso
      have h3 := (all_take (p := isDig) t (m + 1) (by omega)).1 (by
       rw [List.take_add_one,hc,List.all_append,hD]
       simp [hq])
      omega
   have hsp : t.take j = t.take m ++ c :: (t.drop (m + 1)).take (j - m - 1) := by
    have : t = t.take m ++ t.drop m := (List.take_append_drop m t).symm
    conv => lhs; rw [this]
    rw [List.take_append,hdm]
    have e1 : (t.take m).length = m := by simp; omega
    rw [e1,List.take_of_length_le (by rw [e1]; omega)]
    obtain ⟨i,hi⟩ : ∃ i,j - m = i + 1 := ⟨j - m - 1,by omega⟩
    rw [hi,List.take_succ_cons]
    rfl
   unfold numR
   rw [hsp,numG_digs _ _ _ hD,List.nil_append,hc]
   by_cases h46 : ((c.toNat : Int) == 46) = true
   · rw [numG,if_pos h46,Bool.and_eq_true,digs_take hle,digs_take (by rw [List.length_drop]; omega),hm]
     have e : (some c).any (fun e => (e.toNat : Int) == 46) = true := h46
     constructor
     · rintro ⟨_,h2,h3⟩
       exact .inr ⟨e,by omega,by omega⟩
     · rintro (h | ⟨_,h2,h3⟩)
       · omega
       · exact ⟨by omega,by omega,by omega⟩
   · rw [numG_bad hcd h46]
     have : ((c.toNat : Int) == 46) = false := by simpa using h46
     simp only [Option.any_some,this]
     simp
     omega
theorem sigs_two : ∀ b e : UInt8,[b,e] ∈ signsR ↔ ((e.toNat : Int) == 61 && hasB sigs1 b) = true := by
 intro b e
 have h1 : hasB sigs1 b = decide (b = 60 ∨ b = 62 ∨ b = 61 ∨ b = 33 ∨ b = 94) := byte_all (p := fun b => hasB sigs1 b = decide (b = 60 ∨ b = 62 ∨ b = 61 ∨ b = 33 ∨ b = 94)) (by decide +kernel) b
 have h2 : ((e.toNat : Int) == 61) = decide (e = 61) := byte_all (p := fun e => ((e.toNat : Int) == 61) = decide (e = 61)) (by decide +kernel) e
 rw [h1,h2]
 simp [signsR]
 constructor
 · rintro (⟨rfl,rfl⟩ | ⟨rfl,rfl⟩ | ⟨rfl,rfl⟩ | ⟨rfl,rfl⟩ | ⟨rfl,rfl⟩) <;> simp
 · rintro ⟨rfl,h⟩
   rcases h with rfl | rfl | rfl | rfl | rfl <;> simp
theorem sigs_one : ∀ b : UInt8,([b] ∈ signsR) ↔ hasB sigs2 b = true := by
 intro b
 have h1 : hasB sigs2 b = decide (b ∈ sigs2) := byte_all (p := fun b => hasB sigs2 b = decide (b ∈ sigs2)) (by decide +kernel) b
 rw [h1]
 simp [signsR,sigs2]
theorem quoR_gt : ∀ (n : Nat) (r acc : List UInt8) (c : Nat),r.length ≤ n → 0 < (quoR r acc c).2 → c < (quoR r acc c).2 := by
 intro n
 induction n with
 | zero =>
   intro r acc c h
   have : r = [] := List.eq_nil_of_length_eq_zero (by omega)
   subst this
   rw [quoR]; simp
 | succ n ih =>
   intro r acc c h
   cases r with
   | nil => rw [quoR]; simp
   | cons b r =>
     simp only [List.length_cons] at h
     rw [quoR_cons]
     split
     · simp
     · split
       · cases r with
         | nil => simp
         | cons e r' =>
           simp only [List.length_cons] at h ⊢
           split
           · intro h0; have := ih r' (acc ++ [e]) (c + 2) (by omega) h0; omega
           · simp
       · intro h0; have := ih r (acc ++ [b]) (c + 1) (by omega) h0; omega
theorem text_quo : ∀ (n : Nat) (r acc : List UInt8) (c : Nat),r.length ≤ n → 0 < c + 1 → textF r acc c = if 0 < (quoR r acc c).2 ∧ (r.take ((quoR r acc c).2 - c)).all isSign = true then quoR r acc c else ([],0) := by
 intro n
 induction n with
 | zero =>
   intro r acc c h _
   have : r = [] := List.eq_nil_of_length_eq_zero (by omega)
   subst this
   rw [quoR,textF]; simp
 | succ n ih =>
   intro r acc c h _
   cases r with
   | nil => rw [quoR,textF]; simp
   | cons b r =>
     simp only [List.length_cons] at h
     rw [quoR_cons,textF_cons]
     by_cases h34 : ((b.toNat : Int) == 34) = true
     · have hsg : isSign b = true := by rw [isSign_iff]; rw [beq_iff_eq] at h34; omega
       rw [if_pos hsg,if_pos h34,if_pos h34]
       have e : c + 1 - c = 1 := by omega
       simp [e,hsg]
     · rw [if_neg h34,if_neg h34]
       by_cases h92 : ((b.toNat : Int) == 92) = true
       · have hsg : isSign b = true := by rw [isSign_iff]; rw [beq_iff_eq] at h92; omega
         rw [if_pos hsg,if_pos h92,if_pos h92]
         cases r with
         | nil => simp
         | cons e r' =>
           simp only [List.length_cons] at h ⊢
           by_cases he : ((e.toNat : Int) == 34 || (e.toNat : Int) == 92) = true
           · have hse : isSign e = true := by
              rw [isSign_iff]
              simp only [Bool.or_eq_true,beq_iff_eq] at he
              omega
             rw [if_pos he,if_pos he,ih r' (acc ++ [e]) (c + 2) (by omega) (by omega)]
             have hgt := quoR_gt r'.length r' (acc ++ [e]) (c + 2) (Nat.le_refl _)
             generalize quoR r' (acc ++ [e]) (c + 2) = q at *
             by_cases h0 : 0 < q.2
             · have e1 : q.2 - c = q.2 - (c + 2) + 1 + 1 := by have := hgt h0; omega
               rw [e1,List.take_succ_cons,List.take_succ_cons,List.all_cons,List.all_cons,hsg,hse,Bool.true_and,Bool.true_and]
             · rw [if_neg (fun h => h0 h.1),if_neg (fun h => h0 h.1)]
           · rw [if_neg he,if_neg he]
             simp
       · rw [if_neg h92,if_neg h92]
         have hgt := quoR_gt r.length r (acc ++ [b]) (c + 1) (Nat.le_refl _)
         have hih := ih r (acc ++ [b]) (c + 1) (by omega) (by omega)
         rw [hih]
         generalize quoR r (acc ++ [b]) (c + 1) = q at *
         by_cases h0 : 0 < q.2
         · have e1 : q.2 - c = q.2 - (c + 1) + 1 := by have := hgt h0; omega
           rw [e1,List.take_succ_cons,List.all_cons]
           cases hsg : isSign b with
           | true => simp
           | false => simp
         · have h0' : q.2 = 0 := by omega
           simp [h0']
theorem long_one {t : List UInt8} (h : t ≠ []) : longR t = if (oneF t 0).2 = 0 then none else some ((oneF t 0).1.kind,(oneF t 0).1.text,(oneF t 0).2) := by
 cases t with
 | nil => exact absurd rfl h
 | cons b r =>
   rw [longR]
   have hlen : 1 ≤ (b :: r).length := by simp
   by_cases hl : isLow b = true
   · have h34 : ¬ ((b.toNat : Int) == 34) = true := by
      rw [isLow_iff] at hl; rw [beq_iff_eq]; omega
     rw [if_neg h34]
     have ho : oneF (b :: r) 0 = (⟨1,(b :: r).take (runF isMark (b :: r)),0⟩,runF isMark (b :: r)) := by (simp [oneF,hl] <;> rfl)
     rw [ho]
     have hm1 : 1 ≤ runF isMark (b :: r) := by rw [runF_cons,if_pos (by simp [isMark,hl])]; omega
     have hle := runF_le isMark (b :: r)
     have hk := fun j (h1 : 1 ≤ j) (h2 : j ≤ (b :: r).length) => kind_low (r := r) hl h1 h2
     generalize runF isMark (b :: r) = m at *
     rw [if_neg (by simp only; omega),lo_run hle (m - 1) 1 _ none (by omega) (by omega) (fun j h1 h2 => by rw [hk j h1 (by omega),if_pos h2]; simp),hk m hm1 hle,if_pos (Nat.le_refl _)]
     exact lo_end (fun j h1 h2 => by rw [hk j (by omega) h2,if_neg (by omega)]; decide) _
   · have hl' : isLow b = false := by simpa using hl
     by_cases hd : isDig b = true
     · have h34 : ¬ ((b.toNat : Int) == 34) = true := by
        rw [isDig_iff] at hd; rw [beq_iff_eq]; omega
       rw [if_neg h34]
       have ho : oneF (b :: r) 0 = (⟨2,(b :: r).take (numLen (b :: r)),0⟩,numLen (b :: r)) := by (simp [oneF,hl',hd] <;> rfl)
       rw [ho]
       have hm1 : 1 ≤ runF isDig (b :: r) := by rw [runF_cons,if_pos hd]; omega
       have hle := runF_le isDig (b :: r)
       have hk := fun j (h1 : 1 ≤ j) => kind_dig (r := r) (j := j) hd h1
       have hn := fun j (h2 : j ≤ (b :: r).length) => num_take (t := b :: r) h2 hm1
       have hnl := numLen_le (b :: r)
       have hN : numLen (b :: r) = if ((((b :: r)[runF isDig (b :: r)]?).any (fun e => (e.toNat : Int) == 46)) && decide (runF isDig ((b :: r).drop (runF isDig (b :: r) + 1)) > 0)) = true then runF isDig (b :: r) + (1 + runF isDig ((b :: r).drop (runF isDig (b :: r) + 1))) else runF isDig (b :: r) := rfl
       generalize numLen (b :: r) = M at *
       generalize runF isDig (b :: r) = m at *
       generalize runF isDig ((b :: r).drop (m + 1)) = m2 at *
       have pos : ∀ j,1 ≤ j → j ≤ (b :: r).length → numR ((b :: r).take j) = true → kindR ((b :: r).take j) = (2,(b :: r).take j) := fun j h1 h2 h3 => by rw [hk j h1,if_pos h3]
       have neg : ∀ j,1 ≤ j → ¬ numR ((b :: r).take j) = true → kindR ((b :: r).take j) = (0,[]) := fun j h1 h3 => by rw [hk j h1,if_neg h3]
       by_cases hp : (((b :: r)[m]?).any (fun e => (e.toNat : Int) == 46)) = true
       · by_cases h2 : m2 > 0
         · have hM : M = m + (1 + m2) := by rw [hN,if_pos (by simp only [hp,Bool.true_and,decide_eq_true_eq]; exact h2)]
           have hml : m + 1 + m2 ≤ (b :: r).length := by omega
           rw [if_neg (by simp only; omega),lo_run hle (m - 1) 1 _ none (by omega) (by omega) (fun j h1 h3 => by rw [pos j h1 (by omega) ((hn j (by omega)).2 (.inl ⟨h1,h3⟩))]; simp)]
           obtain ⟨f,hf⟩ : ∃ f,(b :: r).length - (m - 1 + 1) = f + 1 := ⟨(b :: r).length - (m - 1 + 1) - 1,by omega⟩
           have hgap : ¬ numR ((b :: r).take (m + 1)) = true := by rw [hn (m + 1) (by omega)]; omega
           have hu : upR (b :: r) (m + 1) (some ((kindR ((b :: r).take m)).1,(kindR ((b :: r).take m)).2,m)) = some ((kindR ((b :: r).take m)).1,(kindR ((b :: r).take m)).2,m) := by
            unfold upR; rw [neg (m + 1) (by omega) hgap,if_neg (by simp)]
           rw [hf,loR,if_pos (by omega),hu,if_neg (by simp [brk])]
           rw [lo_run (m := M) (by omega) (M - (m + 2)) (m + 1 + 1) _ _ (by omega) (by omega) (fun j h1 h3 => by rw [pos j (by omega) (by omega) ((hn j (by omega)).2 (.inr ⟨hp,by omega,by omega⟩))]; simp)]
           rw [pos M (by omega) (by omega) ((hn M (by omega)).2 (.inr ⟨hp,by omega,by omega⟩))]
           exact lo_end (fun j h1 h3 => by rw [neg j (by omega) (by rw [hn j h3]; omega)]; decide) _
         · have hM : M = m := by rw [hN,if_neg (by simp only [hp,Bool.true_and,decide_eq_true_eq]; exact h2)]
           subst hM
           rw [if_neg (by simp only; omega),lo_run hle (M - 1) 1 _ none (by omega) (by omega) (fun j h1 h3 => by rw [pos j h1 (by omega) ((hn j (by omega)).2 (.inl ⟨h1,h3⟩))]; simp)]
           rw [pos M (by omega) (by omega) ((hn M (by omega)).2 (.inl ⟨by omega,Nat.le_refl _⟩))]
           exact lo_end (fun j h1 h3 => by rw [neg j (by omega) (by rw [hn j h3]; omega)]; decide) _
       · have hM : M = m := by rw [hN,if_neg (by simp [hp])]
         subst hM
         rw [if_neg (by simp only; omega),lo_run hle (M - 1) 1 _ none (by omega) (by omega) (fun j h1 h3 => by rw [pos j h1 (by omega) ((hn j (by omega)).2 (.inl ⟨h1,h3⟩))]; simp)]
         rw [pos M (by omega) (by omega) ((hn M (by omega)).2 (.inl ⟨by omega,Nat.le_refl _⟩))]
         exact lo_end (fun j h1 h3 => by rw [neg j (by omega) (by rw [hn j h3]; exact fun h => h.elim (fun h => by omega) (fun h => hp h.1))]; decide) _
     · have hd' : isDig b = false := by simpa using hd
       by_cases h34 : ((b.toNat : Int) == 34) = true
       · rw [if_pos h34]
         have ho : oneF (b :: r) 0 = (⟨3,(textF r [] 1).1,0⟩,(textF r [] 1).2) := by (simp [oneF,hl',hd',h34] <;> rfl)
         rw [ho,text_quo r.length r [] 1 (Nat.le_refl _) (by omega)]
         have hsg : isSign b = true := by rw [isSign_iff]; rw [beq_iff_eq] at h34; omega
         have hgt := quoR_gt r.length r [] 1 (Nat.le_refl _)
         generalize quoR r [] 1 = q at *
         by_cases h0 : 0 < q.2
         · have ht : ((b :: r).take q.2).all isSign = (r.take (q.2 - 1)).all isSign := by
            obtain ⟨i,hi⟩ : ∃ i,q.2 = i + 1 := ⟨q.2 - 1,by omega⟩
            rw [hi,List.take_succ_cons,List.all_cons,hsg]
            rfl
           rw [ht]
           by_cases ha : (r.take (q.2 - 1)).all isSign = true
           · have e : (if 0 < q.2 ∧ (r.take (q.2 - 1)).all isSign = true then q else ([],0)) = q := if_pos ⟨h0,ha⟩
             rw [e,if_pos ⟨h0,ha⟩,if_neg (by simp only; omega)]
           · have e : (if 0 < q.2 ∧ (r.take (q.2 - 1)).all isSign = true then q else ([],0)) = ([],0) := if_neg (fun h => ha h.2)
             rw [e,if_neg (fun h => ha h.2)]
             rfl
         · have e : (if 0 < q.2 ∧ (r.take (q.2 - 1)).all isSign = true then q else ([],0)) = ([],0) := if_neg (fun h => h0 h.1)
           rw [e,if_neg (fun h => h0 h.1)]
           rfl
       · rw [if_neg h34]
         have h34' : ((b.toNat : Int) == 34) = false := by simpa using h34
         have ho : oneF (b :: r) 0 = (⟨4,(b :: r).take (signF (b :: r)),0⟩,signF (b :: r)) := by (simp [oneF,hl',hd',h34'] <;> rfl)
         rw [ho]
         have hk := fun j (h1 : 1 ≤ j) => kind_sig (r := r) (j := j) hl' hd' h1
         have hk3 : ∀ j,2 < j → j ≤ (b :: r).length → ¬ 0 < (kindR ((b :: r).take j)).1 := by
          intro j h1 h2
          have : ¬ (b :: r).take j ∈ signsR := by
           intro hm
           have := signs_len _ hm
           rw [List.length_take] at this
           omega
          rw [hk j (by omega),if_neg this]
          decide
         have hk1 : ¬ hasB sigs2 b = true → ¬ 0 < (kindR ((b :: r).take 1)).1 := by
          intro h
          have e : (b :: r).take 1 = [b] := by simp
          rw [hk 1 (by omega),e,if_neg (fun q => h ((sigs_one b).1 q))]
          decide
         have hk1' : hasB sigs2 b = true → kindR ((b :: r).take 1) = (4,[b]) := by
          intro h
          have e : (b :: r).take 1 = [b] := by simp
          rw [hk 1 (by omega),e,if_pos ((sigs_one b).2 h)]
         cases r with
         | nil =>
           have hs : signF [b] = if hasB sigs2 b = true then 1 else 0 := by simp only [signF,List.getElem?_nil,Option.any_none]; simp
           rw [hs]
           by_cases h2 : hasB sigs2 b = true
           · rw [if_pos h2,if_neg (by simp)]
             have e1 : ([b] : List UInt8).length = 1 := rfl
             rw [e1,lo_run (m := 1) (by simp) 0 1 1 none rfl (by omega) (fun j h1 h3 => by
              obtain rfl : j = 1 := by omega
              rw [hk1' h2]; simp),hk1' h2]
             exact lo_end (fun j h1 h3 => by simp at h3; omega) _
           · rw [if_neg h2,if_pos rfl]
             exact lo_none (fun j h1 h3 => by
              obtain rfl : j = 1 := by simp at h3; omega
              exact hk1 h2) _ _ (Nat.le_refl _)
         | cons e r =>
           have t2 : (b :: e :: r).take 2 = [b,e] := by simp
           have hs : signF (b :: e :: r) = if ((e.toNat : Int) == 61 && hasB sigs1 b) = true then 2 else if hasB sigs2 b = true then 1 else 0 := by simp only [signF,List.getElem?_cons_zero,Option.any_some]
           rw [hs]
           by_cases h2 : ((e.toNat : Int) == 61 && hasB sigs1 b) = true
           · rw [if_pos h2,if_neg (by simp)]
             have k2 : kindR ((b :: e :: r).take 2) = (4,[b,e]) := by rw [hk 2 (by omega),t2,if_pos ((sigs_two b e).2 h2)]
             have e1 : (b :: e :: r).length = r.length + 1 + 1 := rfl
             rw [e1,loR,if_pos (by simp)]
             have hb1 : ¬ brk 1 (upR (b :: e :: r) 1 none) = true := by unfold upR; split <;> simp [brk]
             rw [if_neg hb1,lo_run (m := 2) (by simp) 0 2 (r.length + 1) _ rfl (by omega) (fun j h1 h3 => by
              obtain rfl : j = 2 := by omega
              rw [k2]; simp),k2]
             exact lo_end (fun j h1 h3 => hk3 j h1 h3) _
           · have k2 : ¬ 0 < (kindR ((b :: e :: r).take 2)).1 := by
              rw [hk 2 (by omega),t2,if_neg (fun q => h2 ((sigs_two b e).1 q))]
              decide
             rw [if_neg h2]
             have hk2 : ∀ j,1 < j → j ≤ (b :: e :: r).length → ¬ 0 < (kindR ((b :: e :: r).take j)).1 := fun j h1 h3 => by
              by_cases hj : j = 2
              · rw [hj]; exact k2
              · exact hk3 j (by omega) h3
             by_cases h3 : hasB sigs2 b = true
             · rw [if_pos h3,if_neg (by simp),lo_run (m := 1) (by simp) 0 1 _ none rfl (by simp) (fun j h1 h4 => by
                obtain rfl : j = 1 := by omega
                rw [hk1' h3]; simp),hk1' h3]
               exact lo_end hk2 _
             · rw [if_neg h3,if_pos rfl]
               exact lo_none (fun j h1 h4 => by
                by_cases hj : j = 1
                · rw [hj]; exact hk1 h3
                · exact hk2 j (by omega) h4) _ _ (Nat.le_refl _)
end Go.Vi
namespace Go.Vi
open Go Go.Proofs
theorem skip_fuel : ∀ (f : Nat) (s : List UInt8),s.length ≤ f → skipF f s = skipF s.length s := by
 intro f
 induction f using Nat.strongRecOn with
 | ind f ih =>
   intro s hs
   cases s with
   | nil => cases f <;> rfl
   | cons b r =>
     obtain ⟨f,rfl⟩ : ∃ g,f = g + 1 := ⟨f - 1,by simp at hs; omega⟩
     have hr : r.length ≤ f := by simpa using hs
     simp only [List.length_cons,skipF]
     split
     · rw [ih f (by omega) r hr]
     · split
       · rename_i hb
         have h10 : notNl b = true := by simp only [beq_iff_eq] at hb; simp [notNl,hb]
         have h0 : 0 < runF notNl (b :: r) := by simp [runF,h10]
         have hl : ((b :: r).drop (runF notNl (b :: r))).length ≤ r.length := by simp; omega
         by_cases hf : f = r.length
         · rw [hf]
         · have e1 := ih f (by omega) ((b :: r).drop (runF notNl (b :: r))) (by omega)
           rw [e1]
           by_cases hlt : r.length < f + 1
           · rw [ih r.length (by omega) _ hl]
           · omega
       · rfl
def skp (s : List UInt8) : Nat := skipF s.length s
theorem skp_nil : skp [] = 0 := rfl
theorem skp_cons (b : UInt8) (r : List UInt8) : skp (b :: r) = if hasB blanks b = true then 1 + skp r else if ((b.toNat : Int) == 35) = true then runF notNl (b :: r) + skp ((b :: r).drop (runF notNl (b :: r))) else 0 := by
 unfold skp
 simp only [List.length_cons,skipF]
 split
 · rfl
 · split
   · rename_i hb
     have h10 : notNl b = true := by simp only [beq_iff_eq] at hb; simp [notNl,hb]
     have h0 : 0 < runF notNl (b :: r) := by simp [runF,h10]
     rw [skip_fuel r.length _ (by simp; omega)]
   · rfl
theorem skipN_eq (l : List UInt8) (a : Nat) : skipN l a = a + skp (l.drop a) := by unfold skipN skp; rw [List.length_drop]
inductive Lx (l : List UInt8) : Nat → List Tok → Prop
 | nil (a : Nat) : l.length ≤ a → Lx l a []
 | cons (a : Nat) (T : List Tok) : a < l.length → (oneF (l.drop a) a).2 ≠ 0 → Lx l (skipN l (a + (oneF (l.drop a) a).2)) T → Lx l a ((oneF (l.drop a) a).1 :: T)
theorem Lx.run {l : List UInt8} {a : Nat} {T : List Tok} (h : Lx l a T) : ∀ f,l.length < f + a → lexF l f a = (T,none) := by
 induction h with
 | nil a h =>
   intro f hf
   cases f with
   | zero => rfl
   | succ f => unfold lexF; rw [if_neg (by omega)]
 | cons a T h h0 _ ih =>
   intro f hf
   cases f with
   | zero => omega
   | succ f =>
     unfold lexF
     have := skipN_ge l (a + (oneF (l.drop a) a).2)
     rw [if_pos h,if_neg h0,ih f (by omega)]
theorem allTok_of {l : List UInt8} {T : List Tok} (hl : l.length ≤ 4096) (h : Lx l (skipN l 0) T) : allTok l = (T,0,0) := by
 unfold allTok
 rw [if_neg (by omega),h.run (l.length + 1) (by omega)]
def kt (t : Tok) : Int × List UInt8 := (t.kind,t.text)
theorem Lx.tok {l : List UInt8} {a n : Nat} {t : Tok} {T : List Tok} (ha : a < l.length) (ho : oneF (l.drop a) a = (t,n)) (h0 : n ≠ 0) (h : Lx l (skipN l (a + n)) T) : Lx l a (t :: T) := by
 have := Lx.cons (l := l) a T ha (by rw [ho]; exact h0) (by rw [ho]; exact h)
 rw [ho] at this
 exact this
end Go.Vi
namespace Go.Vi
open Go Go.Proofs Go.Proofs.Try
theorem Gro.pushB {P : Program} {K0 X : AHeap} {lo z by_ : Nat} {T Ts : TypeId} {v x : Value} {cl : List (List Value)} {c : List Value} (h : Gro K0 lo z T v cl) (hT : aElem P Ts = some (T,z,by_)) (hsq : isSeq P Ts = true) (hc : c.length = z) (hlo : lo ≤ K0.length)
  (hx : aSrc (K0 ++ X) z x = some (1,c)) (hb : (cl.length + 1) * by_ ≤ 140737488355328) (hn : cl.length + 1 ≤ 9223372036854775807) :
  ∃ v' K',aBuiltin P (K0 ++ X) .append #[Ts,Ts] [v,x] = some (v',K') ∧ Gro K' lo z T v' (cl ++ [c]) ∧ (∀ H,Pre H (K0 ++ X) → H.length ≤ lo → Pre H K') ∧ (∀ (b : Nat) o,K0.length ≤ b → (K0 ++ X)[b]? = some o → K'[b]? = some o) := by
 have h' := h.app (X := X)
 obtain ⟨v',K',h1,h2,h3,h4,h5⟩ := h'.push hT hsq hc (by simp; omega) hx hb hn
 refine ⟨v',K',h1,h2,h5,fun b o hbo ho => ?_⟩
 cases h with
 | nil =>
   have hb' : by_ ≤ 140737488355328 := by simpa using hb
   simp [aBuiltin,aAppend,hT,hx,hsq,hb',hc] at h1
   rw [← h1.2,← List.append_assoc]; exact get_more ho
 | mk bb cl g1 g2 g3 g4 =>
   have hfl := flat_len g4
   have hlt := (List.getElem?_eq_some_iff.1 g2).1
   have g2' : (K0 ++ X)[bb]? = some (.cells cl.flatten T) := get_more g2
   have e2 : ¬ cl.length + 1 ≤ cl.length := by omega
   simp only [aBuiltin,aAppend,hT,hx,hsq,if_true,g2',hfl,Nat.zero_add,Nat.le_refl,and_self,e2,if_false,hb,hn,Option.some.injEq,Prod.mk.injEq] at h1
   rw [← h1.2,List.getElem?_set_ne (by omega)]
   exact ho
theorem one_at (s : List UInt8) (a : Nat) : oneF s a = (⟨(oneF s 0).1.kind,(oneF s 0).1.text,a⟩,(oneF s 0).2) := by
 cases s with
 | nil => rfl
 | cons b r => unfold oneF; simp only; split <;> (try split) <;> (try split) <;> rfl
theorem one_kind (s : List UInt8) : (oneF s 0).2 ≠ 0 → ((oneF s 0).1.kind == 0) = false := by
 cases s with
 | nil => intro h; exact absurd rfl h
 | cons b r => intro _; unfold oneF; simp only; split <;> (try split) <;> (try split) <;> rfl
abbrev RTk := Tok × Int
def rt (p : RTk) : List Value := p.1.cells ++ [i64 p.2]
theorem rtel1 : aElem prog 90 = some (105,4,40) := by kernel_rfl
theorem rtel2 : isSeq prog 90 = true := by kernel_rfl
theorem hash_loop {s : List UInt8} {k : Value → AHeap → Prop} {K : AHeap} {n0 : Nat} {v : Value} (hs : s.length < 2 ^ 60) (a' : Nat) (hk : ∀ (s1 s2 s3 s4 s7 s8 s9 s10 s11 s12 s13 s14 s15 s16 s17 s18 s19 s20 s21 s22 s23 s24 s25 s26 s27 s28 s29 s30 s31 s32 s33 s34 s35 s36 s37 s38 s39 s40 s41 s42 s43 s44 s45 s46 s47 s48 s49 s50 : Value),L72x0 n0 k [str s,s1,s2,s3,s4,v,i64 a',s7,s8,s9,s10,s11,s12,s13,s14,s15,s16,s17,s18,s19,s20,s21,s22,s23,s24,s25,s26,s27,s28,s29,s30,s31,s32,s33,s34,s35,s36,s37,s38,s39,s40,s41,s42,s43,s44,s45,s46,s47,s48,s49,s50] K) :
  ∀ (r : List UInt8) (a : Nat) (s1 s2 s3 s4 s7 s8 s9 s10 s11 s12 s13 s14 s15 s16 s17 s18 s19 s20 s21 s22 s23 s24 s25 s26 s27 s28 s29 s30 s31 s32 s33 s34 s35 s36 s37 s38 s39 s40 s41 s42 s43 s44 s45 s46 s47 s48 s49 s50 : Value),s.drop a = r → a ≤ s.length → a' = a + runF notNl r → L72x1 (r.length + 1) n0 k [str s,s1,s2,s3,s4,v,i64 a,s7,s8,s9,s10,s11,s12,s13,s14,s15,s16,s17,s18,s19,s20,s21,s22,s23,s24,s25,s26,s27,s28,s29,s30,s31,s32,s33,s34,s35,s36,s37,s38,s39,s40,s41,s42,s43,s44,s45,s46,s47,s48,s49,s50] K := by
 intro r
 induction r with
 | nil =>
   intro a s1 s2 s3 s4 s7 s8 s9 s10 s11 s12 s13 s14 s15 s16 s17 s18 s19 s20 s21 s22 s23 s24 s25 s26 s27 s28 s29 s30 s31 s32 s33 s34 s35 s36 s37 s38 s39 s40 s41 s42 s43 s44 s45 s46 s47 s48 s49 s50 hd ha he
   have hle : s.length ≤ a := by simpa using hd
   have : ¬ a < s.length := by omega
   rw [List.length_nil,L72x1q]
   have e0 : a' = a := by rw [he]; rfl
   subst e0
   simp [this]
   exact hk _ _ _ _ _ _ _ _ _ _ _ _ _ _ _ _ _ _ _ _ _ _ _ _ _ _ _ _ _ _ _ _ _ _ _ _ _ _ _ _ _ _ _ _ _ _ _ _
 | cons b r ih =>
   intro a s1 s2 s3 s4 s7 s8 s9 s10 s11 s12 s13 s14 s15 s16 s17 s18 s19 s20 s21 s22 s23 s24 s25 s26 s27 s28 s29 s30 s31 s32 s33 s34 s35 s36 s37 s38 s39 s40 s41 s42 s43 s44 s45 s46 s47 s48 s49 s50 hd ha he
   have hb : s[a]? = some b := by rw [← List.head?_drop,hd]; rfl
   have hlt : a < s.length := (List.getElem?_eq_some_iff.1 hb).1
   have hix := aIndex_at (P := prog) (T := 9) (k := .i64) (by simp) hb
   have hdr : s.drop (a + 1) = r := by rw [← List.drop_drop,hd]; rfl
   rw [List.length_cons,L72x1q]
   rw [runF_cons] at he
   by_cases h10 : ((b.toNat : Int) != 10) = true
   · rw [if_pos (by exact h10)] at he
     simp [hlt,hix,h10,show a + 1 < 2 ^ 63 by omega]
     exact ih (a + 1) _ _ _ _ _ _ _ _ _ _ _ _ _ _ _ _ _ _ _ _ _ _ _ _ _ _ _ _ _ _ _ _ _ _ _ _ _ _ _ _ _ _ _ _ _ _ _ _ hdr hlt (by omega)
   · have h10' : ((b.toNat : Int) != 10) = false := by simpa using h10
     rw [if_neg (by exact h10)] at he
     have e0 : a' = a := by omega
     subst e0
     simp [hlt,hix,h10']
     exact hk _ _ _ _ _ _ _ _ _ _ _ _ _ _ _ _ _ _ _ _ _ _ _ _ _ _ _ _ _ _ _ _ _ _ _ _ _ _ _ _ _ _ _ _ _ _ _ _
set_option maxRecDepth 20000 in
set_option maxHeartbeats 1600000 in
theorem rAll_loop {H : AHeap} {s : List UInt8} {k : Value → AHeap → Prop} (hs : s.length ≤ 4096) :
  ∀ (n a f : Nat) (acc : List RTk) (v : Value) (K : AHeap) (s1 s2 s3 s4 s7 s8 s9 s10 s11 s12 s13 s14 s15 s16 s17 s18 s19 s20 s21 s22 s23 s24 s25 s26 s27 s28 s29 s30 s31 s32 s33 s34 s35 s36 s37 s38 s39 s40 s41 s42 s43 s44 s45 s46 s47 s48 s49 s50 : Value), s.length - a < n → a ≤ s.length → s.length < f + a → acc.length ≤ a → Pre H K → Gro K H.length 4 105 v (acc.map rt) →
    ((lexF s f (skipN s a)).2 = none → ∀ K v (T : List RTk),Pre H K → Gro K H.length 4 105 v (T.map rt) → T.map Prod.fst = acc.map Prod.fst ++ (lexF s f (skipN s a)).1 → k (.tuple #[v,i64 0,i64 0]) K) →
    (∀ p,(lexF s f (skipN s a)).2 = some p → ∀ K,Pre H K → k (.tuple #[.slice none 0 0,i64 p,i64 90]) K) →
    L72x0 n k [str s,s1,s2,s3,s4,v,i64 a,s7,s8,s9,s10,s11,s12,s13,s14,s15,s16,s17,s18,s19,s20,s21,s22,s23,s24,s25,s26,s27,s28,s29,s30,s31,s32,s33,s34,s35,s36,s37,s38,s39,s40,s41,s42,s43,s44,s45,s46,s47,s48,s49,s50] K := by
 intro n
 induction n with
 | zero => intro a f acc v K s1 s2 s3 s4 s7 s8 s9 s10 s11 s12 s13 s14 s15 s16 s17 s18 s19 s20 s21 s22 s23 s24 s25 s26 s27 s28 s29 s30 s31 s32 s33 s34 s35 s36 s37 s38 s39 s40 s41 s42 s43 s44 s45 s46 s47 s48 s49 s50 hn; omega
 | succ n ih =>
   intro a f acc v K s1 s2 s3 s4 s7 s8 s9 s10 s11 s12 s13 s14 s15 s16 s17 s18 s19 s20 s21 s22 s23 s24 s25 s26 s27 s28 s29 s30 s31 s32 s33 s34 s35 s36 s37 s38 s39 s40 s41 s42 s43 s44 s45 s46 s47 s48 s49 s50 hn ha hf hac hp hg h1 h2
   rw [L72x0q]
   by_cases hlt : a < s.length
   · obtain ⟨b,hb⟩ : ∃ b,s[a]? = some b := ⟨_,List.getElem?_eq_getElem hlt⟩
     have hd : s.drop a = b :: s.drop (a + 1) := by
      rw [List.drop_eq_getElem_cons hlt]
      rw [List.getElem?_eq_getElem hlt] at hb
      cases hb
      rfl
     have hix := aIndex_at (P := prog) (T := 9) (k := .i64) (by simp) hb
     have hsk : skipN s a = a + skp (b :: s.drop (a + 1)) := by rw [skipN_eq,hd]
     have ha63 : a + 1 < 2 ^ 63 := by omega
     simp [hlt,hix]
     refine bndC_of (r_blank K b) ?_
     rw [skp_cons] at hsk
     cases hbl : hasB blanks b with
     | true =>
       rw [if_pos hbl] at hsk
       have e : skipN s a = skipN s (a + 1) := by rw [hsk,skipN_eq]; omega
       rw [e] at h1 h2
       simp [ha63]
       exact ih (a + 1) f acc v K _ _ _ _ _ _ _ _ _ _ _ _ _ _ _ _ _ _ _ _ _ _ _ _ _ _ _ _ _ _ _ _ _ _ _ _ _ _ _ _ _ _ _ _ _ _ _ _ (by omega) (by omega) (by omega) (by omega) hp hg h1 h2
     | false =>
       rw [if_neg (by simp [hbl])] at hsk
       by_cases h35 : ((b.toNat : Int) == 35) = true
       · rw [if_pos h35] at hsk
         have hb10 : notNl b = true := by rw [beq_iff_eq] at h35; simp [notNl,h35]
         have hr1 : runF notNl (b :: s.drop (a + 1)) = runF notNl (s.drop (a + 1)) + 1 := by rw [runF_cons,if_pos hb10]
         have hrl := runF_le notNl (b :: s.drop (a + 1))
         rw [← hd,List.length_drop] at hrl
         have e : skipN s a = skipN s (a + runF notNl (s.drop a)) := by rw [hsk,skipN_eq s (a + runF notNl (s.drop a)),← hd,List.drop_drop]; omega
         rw [e] at h1 h2
         simp [h35,hix]
         have hdl : (s.drop a).length = s.length - a := List.length_drop
         refine ⟨(s.drop a).length + 1,hash_loop (s := s) (v := v) (K := K) (by omega) (a + runF notNl (s.drop a)) ?_ (s.drop a) a _ _ _ _ _ _ _ _ _ _ _ _ _ _ _ _ _ _ _ _ _ _ _ _ _ _ _ _ _ _ _ _ _ _ _ _ _ _ _ _ _ _ _ _ _ _ _ _ rfl (by omega) rfl⟩
         rw [← hd] at hr1
         intro s1 s2 s3 s4 s7 s8 s9 s10 s11 s12 s13 s14 s15 s16 s17 s18 s19 s20 s21 s22 s23 s24 s25 s26 s27 s28 s29 s30 s31 s32 s33 s34 s35 s36 s37 s38 s39 s40 s41 s42 s43 s44 s45 s46 s47 s48 s49 s50
         exact ih (a + runF notNl (s.drop a)) f acc v K _ _ _ _ _ _ _ _ _ _ _ _ _ _ _ _ _ _ _ _ _ _ _ _ _ _ _ _ _ _ _ _ _ _ _ _ _ _ _ _ _ _ _ _ _ _ _ _ (by omega) (by omega) (by omega) (by omega) hp hg h1 h2
       · have h35' : ((b.toNat : Int) == 35) = false := by simpa using h35
         rw [if_neg h35,Nat.add_zero] at hsk
         rw [hsk] at h1 h2
         obtain ⟨f,rfl⟩ : ∃ g,f = g + 1 := ⟨f - 1,by omega⟩
         rw [lexF,if_pos hlt,one_at] at h1 h2
         have hlo := long_one (t := s.drop a) (by rw [hd]; simp)
         have hole := oneF_le (s.drop a) 0
         rw [List.length_drop] at hole
         simp [h35',hix]
         refine bndC_of (r_longest K (by omega) hlt) ?_
         rw [hlo]
         have hqk := one_kind (s.drop a)
         generalize oneF (s.drop a) 0 = Q at *
         obtain ⟨⟨qk,qx,qa⟩,qn⟩ := Q
         simp only at h1 h2 hole hqk ⊢
         have hKl : H.length ≤ K.length := by obtain ⟨X,rfl⟩ := hp; simp
         by_cases hq0 : qn = 0
         · rw [if_pos hq0] at h1 h2 ⊢
           simp [rcl]
           exact h2 a rfl _ (hp.more _)
         · rw [if_neg hq0] at h1 h2 ⊢
           have hqk := hqk hq0
           simp [rcl,hqk]
           have hlit := sliceLitA (c := rt (⟨qk,qx,a⟩,(a : Int) + qn)) (tbs90 (K ++ [.cells (rt (⟨qk,qx,a⟩,(a : Int) + qn)) 105]) 1 _) (by rfl) (by simp [rt,Tok.cells]) (by simp)
           refine bndL_lit hlit ?_
           obtain ⟨v',K',b1,b2,b3,b4⟩ := hg.pushB (P := prog) (X := [.cells (rt (⟨qk,qx,a⟩,(a : Int) + qn)) 105] ++ [.cells (rt (⟨qk,qx,a⟩,(a : Int) + qn)) 105]) (Ts := 90) (by_ := 40) (x := .slice (some ⟨K.length + 1,0,some 4⟩) 1 1) (c := rt (⟨qk,qx,a⟩,(a : Int) + qn)) rtel1 rtel2 rfl hKl (by simp [aSrc,rt,Tok.cells]) (by simp; omega) (by simp; omega)
           have hb5 := b4 K.length (.cells (rt (⟨qk,qx,a⟩,(a : Int) + qn)) 105) (Nat.le_refl _) (by simp)
           have hc5 : hcells K' K.length = some (rt (⟨qk,qx,a⟩,(a : Int) + qn)) := by simp [hcells,hb5]
           have hl5 : hlen K' K.length = some 4 := by simp [hlen,hb5,rt,Tok.cells]
           simp only [rt,Tok.cells,List.cons_append,List.nil_append] at hc5
           have b1' : aBuiltin prog (K ++ [.cells (rt (⟨qk,qx,a⟩,(a : Int) + qn)) 105] ++ [.cells (rt (⟨qk,qx,a⟩,(a : Int) + qn)) 105]) .append #[90,90] [v,.slice (some ⟨(K ++ [AObj.cells (rt (⟨qk,qx,a⟩,(a : Int) + qn)) 105]).length,0,some (rt (⟨qk,qx,a⟩,(a : Int) + qn)).length⟩) 1 1] = some (v',K') := by
            rw [← b1]; simp [rt,Tok.cells]
           dsimp only
           rw [b1']
           simp [hc5,hl5]
           have eq : (a : Int) + qn = ((a + qn : Nat) : Int) := by omega
           rw [eq] at b2 ⊢
           refine ih (a + qn) f (acc ++ [(⟨qk,qx,a⟩,((a + qn : Nat) : Int))]) v' K' _ _ _ _ _ _ _ _ _ _ _ _ _ _ _ _ _ _ _ _ _ _ _ _ _ _ _ _ _ _ _ _ _ _ _ _ _ _ _ _ _ _ _ _ _ _ _ _ (by omega) (by omega) (by omega) (by simp; omega) (b3 H (hp.more _) (Nat.le_refl _)) (by simpa using b2) ?_ ?_
           · intro h0 K3 v3 T g1 g2 g3
             exact h1 h0 K3 v3 T g1 g2 (by rw [g3]; simp)
           · intro p hp0 K3 g1
             exact h2 p hp0 K3 g1
   · have hsk : skipN s a = s.length := by
      rw [skipN_eq,List.drop_eq_nil_of_le (by omega),skp_nil]; omega
     have hl0 : lexF s f (skipN s a) = ([],none) := by
      rw [hsk]
      cases f with
      | zero => rfl
      | succ f => rw [lexF,if_neg (by omega)]
     simp [hlt]
     refine h1 (by rw [hl0]) K v acc hp hg (by rw [hl0]; simp)
def AllP (H : AHeap) (s : List UInt8) (u : Value) (K : AHeap) : Prop := ∃ v,∃ T : List RTk,u = .tuple #[v,i64 (allTok s).2.1,i64 (allTok s).2.2] ∧ Pre H K ∧ Gro K H.length 4 105 v (T.map rt) ∧ T.map Prod.fst = (allTok s).1
theorem r_all (H : AHeap) (s : List UInt8) : ∃ v K,∃ T : List RTk,ACalls prog 72 [str s] H (.tuple #[v,i64 (allTok s).2.1,i64 (allTok s).2.2]) K ∧ Pre H K ∧ Gro K H.length 4 105 v (T.map rt) ∧ T.map Prod.fst = (allTok s).1 := by
 have key : ∃ u K,AllP H s u K ∧ ACalls prog 72 [str s] H u K := by
  refine acalls_ex MixT func72 (by decide) ?_
  rw [d72]
  by_cases h4 : 4096 < s.length
  · have h4I : (4096 : Int) < s.length := by omega
    have ht : allTok s = ([],0,3) := by unfold allTok; rw [if_pos h4]
    simp [h4I]
    exact ⟨.slice none 0 0,[],by rw [ht]; rfl,.refl _,.nil,by rw [ht]; rfl⟩
  · have h4I : ¬ (4096 : Int) < s.length := by omega
    have ht : allTok s = match (lexF s (s.length + 1) (skipN s 0)).2 with
     | none => ((lexF s (s.length + 1) (skipN s 0)).1,0,0)
     | some a => ([],a,90) := by unfold allTok; (rw [if_neg h4] <;> rfl)
    simp [h4I]
    refine ⟨s.length + 1,rAll_loop (H := H) (by omega) (s.length + 1) 0 (s.length + 1) [] (.slice none 0 0) H _ _ _ _ _ _ _ _ _ _ _ _ _ _ _ _ _ _ _ _ _ _ _ _ _ _ _ _ _ _ _ _ _ _ _ _ _ _ _ _ _ _ _ _ _ _ _ _ (by omega) (by omega) (by omega) (by simp) (.refl _) .nil ?_ ?_⟩
    · intro h0 K v T g1 g2 g3
      rw [h0] at ht
      exact ⟨v,T,by rw [ht]; rfl,g1,g2,by rw [ht]; simpa using g3⟩
    · intro p h0 K g1
      rw [h0] at ht
      exact ⟨.slice none 0 0,[],by rw [ht],g1,.nil,by rw [ht]; rfl⟩
 obtain ⟨u,K,⟨v,T,rfl,g1,g2,g3⟩,g4⟩ := key
 exact ⟨v,K,T,g4,g1,g2,g3⟩
end Go.Vi
namespace Go.Vi
open Go Go.Proofs
theorem acallsG_flat {P : Program} {D : DrawK} (hD : ∀ c : Ctx,@SoundK c P D) {f fn args H v} (hf : P.funcs[f]? = some fn) (hn : notNG fn = true) (hc : flat v = true) (hr : kbodyG P D fn args H fun u H2 => u = v ∧ ∃ X,H2 = H ++ X) : ACalls P f args H v H := by
 intro w0 s w args' h hargs
 left
 unfold kbodyG at hr
 split at hr
 · rename_i c hb
   constructor
   · have hq : ¬ fn.name = "runtime.NumGoroutine" := by intro q; simp [notNG, q] at hn
     have hbn : ¬ fn.body = none := by rw [hb]; simp
     simp [callFunc,hf,hq,hbn]
   · letI : Ctx := ⟨[],none⟩
     refine callsIn_wide.1 (callsIn_of_wp_marks (F := Fence.wide) (n := 0) hf hb trivial ?_ rfl)
     have hal : args.length = args'.size := by have := hargs.1; simpa using this
     have ha : ARel s H (args ++ List.replicate (fn.ntmps - args.length) undef) { tmps := args' ++ Array.replicate (fn.ntmps - args'.size) undef,defers := [] } := by
      refine ⟨?_,rfl⟩
      simp only [Array.toList_append,Array.toList_replicate,hal]
      refine hargs.append ⟨by simp,fun i x y hx hy => ?_⟩
      rw [List.getElem?_replicate] at hx hy
      split at hx
      · rename_i hi
        rw [if_pos hi] at hy
        cases hx; cases hy
        exact undef_rel _ _
      · cases hx
     refine kxG_sound hD c h ha ⟨[],rfl,.nil _ _⟩ hr ?_
     have fin : ∀ {sl' H2 m' s' a' w' ds'},WRel w0 s' H2 w' → Ext s H s' H2 → @ARel ⟨ds',none⟩ s' H2 sl' a' → MarkRel s' H2 m' ds' → kmarks (fun H2 => kres P sl' H2 fn.results.toList fun l => retV l = v ∧ ∃ X,H2 = H ++ X) m' H2 →
       LeavesInM Fence.wide 0 P fn a'.tmps (AEnd w0 s H v H) a'.defers .returning w' := by
      intro sl' H2 m' s' a' w' ds' g1 g2 g3 g4 hk
      have hd : a'.defers = ds' := @ARel.d ⟨ds',none⟩ _ _ _ _ g3
      rw [hd]
      refine kmarks_leave m' g1 g2 (@ARel.r ⟨ds',none⟩ _ _ _ _ g3) g4 hk ?_
      intro s5 H5 w5 q1 q2 q3 q4
      obtain ⟨l,h1,rfl,X,rfl⟩ := kres_sound _ q4
      obtain ⟨v',k1,k2⟩ := run_ret (P := P) (a := { tmps := a'.tmps,defers := [] }) fn q1.h ⟨q3,rfl⟩ (aRet_of h1)
      exact ⟨v',k1,s,v',rfl,h.forget q1 q2,Ext.refl _ _,by rw [k2.flat_eq hc]; exact flat_rel hc s H⟩
     intro e sl' H2 m' hk s' a' w' ds' g1 g2 g3 g4
     cases e with
     | exit i => cases hk
     | normal => exact fin g1 g2 g3 g4 hk
     | ret => exact fin g1 g2 g3 g4 hk
 · cases hr
theorem pv_prog {P : Program} : pv P program = some P := rfl
end Go.Vi
namespace Go.Vi
open Go Go.Proofs Go.Proofs.Try
structure RTA (K : AHeap) (v : Value) (T : List RTk) : Prop where
 arr : Arr K 4 v (T.map rt)
 len : T.length < 2 ^ 40
theorem RTA.pre {K K' v T} (h : RTA K v T) (p : Pre K K') : RTA K' v T := ⟨h.arr.pre p,h.len⟩
def isR (ts : List Tok) (a : Nat) (k : Int) (s : List UInt8) : Bool := (ts[a]?).any fun t => t.kind == k && (t.text == s || s == [42])
theorem RTA.at {K v T} (h : RTA K v T) {a : Nat} {p : RTk} (hp : T[a]? = some p) :
  ∃ q q0 q1,aIndexAddr prog K 90 v (i64 a) = some q ∧ aFieldAddr prog K 105 q 0 = some q0 ∧ aLoad prog K 5 q0 = some (.int .u8 p.1.kind) ∧ aFieldAddr prog K 105 q 1 = some q1 ∧ aLoad prog K 9 q1 = some (str p.1.text) := by
 have hi : (T.map rt)[a]? = some (rt p) := by simp [hp]
 obtain ⟨p1,q1,h1,h2,h3⟩ := h.arr.field (P := prog) (T := 90) (te := 105) (f := 0) (d := 0) (ft := 5) (by simp) (by simp) (by simp) (by simp) (by simp) hi rfl
 obtain ⟨p2,q2,h4,h5,h6⟩ := h.arr.field (P := prog) (T := 90) (te := 105) (f := 1) (d := 1) (ft := 9) (by simp) (by simp) (by simp) (by simp) (by simp) hi rfl
 rw [h1] at h4
 cases h4
 exact ⟨p1,q1,q2,h1,h2,h3,h5,h6⟩
theorem r_is {K v T} (h : RTA K v T) (a : Nat) (k : Int) (s : List UInt8) : ACalls prog 81 [v,i64 a,.int .u8 k,str s] K (.bool (isR (T.map Prod.fst) a k s)) K := by
 refine acalls_pure MixT func81 (by decide) rfl ?_
 rw [d81]
 have hl := h.arr.len (P := prog) (T := 90) (e := 105) (by simp)
 simp at hl
 by_cases ha : a < T.length
 · obtain ⟨p,hp⟩ : ∃ p,T[a]? = some p := ⟨_,List.getElem?_eq_getElem ha⟩
   obtain ⟨q,q0,q1,h1,h2,h3,h4,h5⟩ := h.at hp
   have hr : isR (T.map Prod.fst) a k s = (p.1.kind == k && (p.1.text == s || s == [42])) := by simp [isR,hp]
   rw [hr]
   cases hk : p.1.kind == k with
   | false => simp [hl,ha,h1,h2,h3,hk]
   | true =>
     by_cases ht : p.1.text = s
     · simp [hl,ha,h1,h2,h3,hk,h4,h5,ht]
     · have ht' : (p.1.text == s) = false := by simpa using ht
       by_cases hs : s = [42]
       · subst hs
         simp [hl,ha,h1,h2,h3,hk,h4,h5,ht]
       · simp [hl,ha,h1,h2,h3,hk,h4,h5,ht,hs]
 · have hr : isR (T.map Prod.fst) a k s = false := by simp [isR,List.getElem?_eq_none (Nat.le_of_not_lt ha)]
   rw [hr]
   simp [hl,ha]
theorem isR_star (ts : List Tok) (a : Nat) (k : Int) : isR ts a k [42] = (tokK ts k a).isSome := by
 unfold isR tokK
 cases ts[a]? with
 | none => rfl
 | some t =>
   by_cases h : t.kind = k
   · simp [h]
   · simp [h]
theorem isR_txt {ts : List Tok} {a : Nat} {k : Int} {s : List UInt8} (h : s ≠ [42]) : isR ts a k s = isT ts a k s := by
 unfold isR isT
 have : (s == [42]) = false := by simpa using h
 simp [this]
theorem isT_tok (ts : List Tok) (a : Nat) (k : Int) (s : List UInt8) : isT ts a k s = true ↔ tokK ts k a = some s := by
 unfold isT tokK
 cases ts[a]? with
 | none => simp
 | some t =>
   by_cases h : t.kind = k
   · simp [h]
   · simp [h]
theorem strs_at {H : AHeap} (l : List (List UInt8)) {n i : Nat} (hn : n = l.length) {s : List UInt8} (hi : l[i]? = some s) : ∃ p,aIndexAddr prog (H ++ [.cells (l.map str) 9]) 23 (.slice (some ⟨H.length,0,some n⟩) n n) (i64 i) = some p ∧ aLoad prog (H ++ [.cells (l.map str) 9]) 9 p = some (str s) :=
 (arr_strs l 9 n hn).load1 (P := prog) (T := 23) (te := 9) (i := i) (x := str s) (by simp) (by simp) (by simp) (by simp [strCells,hi])
theorem r_aggregate (H : AHeap) {i : Nat} (hi : i < 6) : ACalls prog 59 [i64 i] H (str (aggs.getD i [])) H := by
 refine acalls_pure MixT func59 (by decide) rfl ?_
 rw [d59]
 have hs := sliceLit1 (H := H) (P := prog) (T := 23) (e := 9) (zv := .string ByteArray.empty) (l := aggs.map str) (n := 6) (by kernel_rfl) (by decide) rfl (by decide)
 obtain ⟨s,hs2⟩ : ∃ s,aggs[i]? = some s := ⟨_,List.getElem?_eq_getElem hi⟩
 obtain ⟨p,p1,p2⟩ := strs_at (H := H) aggs (n := 6) rfl hs2
 have hg : aggs.getD i [] = s := by rw [List.getD_eq_getElem?_getD,hs2]; rfl
 rw [hg]
 refine bndL_lit hs ?_
 simp [p1,p2]
theorem r_compare (H : AHeap) {i : Nat} (hi : i < 6) : ACalls prog 62 [i64 i] H (str (cmps.getD i [])) H := by
 refine acalls_pure MixT func62 (by decide) rfl ?_
 rw [d62]
 have hs := sliceLit1 (H := H) (P := prog) (T := 23) (e := 9) (zv := .string ByteArray.empty) (l := cmps.map str) (n := 6) (by kernel_rfl) (by decide) rfl (by decide)
 obtain ⟨s,hs2⟩ : ∃ s,cmps[i]? = some s := ⟨_,List.getElem?_eq_getElem hi⟩
 obtain ⟨p,p1,p2⟩ := strs_at (H := H) cmps (n := 6) rfl hs2
 have hg : cmps.getD i [] = s := by rw [List.getD_eq_getElem?_getD,hs2]; rfl
 rw [hg]
 refine bndL_lit hs ?_
 simp [p1,p2]
theorem r_op (H : AHeap) {i : Nat} (hi : i < 3) : ACalls prog 96 [i64 i] H (str (opsL.getD i [])) H := by
 refine acalls_pure MixT func96 (by decide) rfl ?_
 rw [d96]
 have hs := sliceLit1 (H := H) (P := prog) (T := 23) (e := 9) (zv := .string ByteArray.empty) (l := opsL.map str) (n := 3) (by kernel_rfl) (by decide) rfl (by decide)
 obtain ⟨s,hs2⟩ : ∃ s,opsL[i]? = some s := ⟨_,List.getElem?_eq_getElem hi⟩
 obtain ⟨p,p1,p2⟩ := strs_at (H := H) opsL (n := 3) rfl hs2
 have hg : opsL.getD i [] = s := by rw [List.getD_eq_getElem?_getD,hs2]; rfl
 rw [hg]
 refine bndL_lit hs ?_
 simp [p1,p2]
def winF (n : Int) : List UInt8 → Int
 | [] => if n > 1000 then 0 else n
 | d :: r => if isDig d = false ∨ n > 1000 then 0 else winF (10 * n + ((d.toNat : Int) - 48)) r
theorem win_loop {H : AHeap} {s : List UInt8} {k : Value → AHeap → Prop} {w : Int} (hs : s.length < 2 ^ 62) (hk : k (i64 w) H) :
  ∀ (r : List UInt8) (i : Nat) (n : Int) (s1 s2 s5 s6 s7 s8 s9 s10 s11 s12 s13 s14 s15 s16 s17 s18 s19 s20 s21 s22 s23 s24 s25 s26 s27 s28 s29 s30 s31 s32 s33 s34 s35 : Value),s.drop i = r → i ≤ s.length → 0 ≤ n → n ≤ 20000 → w = winF n r → L93x0 (r.length + 1) k [str s,s1,s2,i64 n,i64 i,s5,s6,s7,s8,s9,s10,s11,s12,s13,s14,s15,s16,s17,s18,s19,s20,s21,s22,s23,s24,s25,s26,s27,s28,s29,s30,s31,s32,s33,s34,s35] H := by
 intro r
 induction r with
 | nil =>
   intro i n s1 s2 s5 s6 s7 s8 s9 s10 s11 s12 s13 s14 s15 s16 s17 s18 s19 s20 s21 s22 s23 s24 s25 s26 s27 s28 s29 s30 s31 s32 s33 s34 s35 hd hi h0 hn hw
   have hle : s.length ≤ i := by simpa using hd
   have : ¬ i < s.length := by omega
   rw [List.length_nil,L93x0q]
   rw [winF] at hw
   by_cases h1 : n > 1000
   · rw [if_pos h1] at hw
     subst hw
     simp [this,h1]
     exact hk
   · rw [if_neg h1] at hw
     subst hw
     simp [this,h1]
     exact hk
 | cons b r ih =>
   intro i n s1 s2 s5 s6 s7 s8 s9 s10 s11 s12 s13 s14 s15 s16 s17 s18 s19 s20 s21 s22 s23 s24 s25 s26 s27 s28 s29 s30 s31 s32 s33 s34 s35 hd hi h0 hn hw
   have hb : s[i]? = some b := by rw [← List.head?_drop,hd]; rfl
   have hlt : i < s.length := (List.getElem?_eq_some_iff.1 hb).1
   have hix := aIndex_at (P := prog) (T := 9) (k := .i64) (by simp) hb
   have hdr : s.drop (i + 1) = r := by rw [← List.drop_drop,hd]; rfl
   rw [List.length_cons,L93x0q]
   have hq := isDig_iff b
   rw [winF] at hw
   by_cases h1 : (b.toNat : Int) < 48
   · have : isDig b = false := by rw [← Bool.not_eq_true]; rw [hq]; omega
     rw [if_pos (.inl this)] at hw
     subst hw
     simp [hlt,hix,h1]
     exact hk
   · by_cases h2 : 57 < (b.toNat : Int)
     · have : isDig b = false := by rw [← Bool.not_eq_true]; rw [hq]; omega
       rw [if_pos (.inl this)] at hw
       subst hw
       simp [hlt,hix,h1,h2]
       exact hk
     · have hdg : isDig b = true := by rw [hq]; omega
       by_cases h3 : n > 1000
       · rw [if_pos (.inr h3)] at hw
         subst hw
         simp [hlt,hix,h1,h2,h3]
         exact hk
       · rw [if_neg (by simp [hdg,h3])] at hw
         have w1 : IntKind.i64.wrap (10 * n) = 10 * n := wrap_i64 (by omega) (by omega)
         have w2 : IntKind.u8.wrap ((b.toNat : Int) - 48) = (b.toNat : Int) - 48 := by unfold IntKind.wrap; simp [IntKind.bits,IntKind.signed]; omega
         have w3 : IntKind.i64.wrap ((b.toNat : Int) - 48) = (b.toNat : Int) - 48 := wrap_i64 (by omega) (by omega)
         have w4 : IntKind.i64.wrap (10 * n + ((b.toNat : Int) - 48)) = 10 * n + ((b.toNat : Int) - 48) := wrap_i64 (by omega) (by omega)
         simp [hlt,hix,h1,h2,h3,w1,w2,w3,w4,show i + 1 < 2 ^ 63 by omega]
         exact ih (i + 1) _ _ _ _ _ _ _ _ _ _ _ _ _ _ _ _ _ _ _ _ _ _ _ _ _ _ _ _ _ _ _ _ _ _ hdr hlt (by omega) (by omega) hw
theorem r_window (H : AHeap) {s : List UInt8} (hs : s.length < 2 ^ 62) : ACalls prog 93 [str s] H (i64 (winF 0 s)) H := by
 refine acalls_pure MixT func93 (by decide) rfl ?_
 rw [d93]
 exact ⟨s.length + 1,win_loop (k := fun u H2 => u = i64 (winF 0 s) ∧ ∃ X,H2 = H ++ X) hs ⟨rfl,[],by simp⟩ s 0 0 _ _ _ _ _ _ _ _ _ _ _ _ _ _ _ _ _ _ _ _ _ _ _ _ _ _ _ _ _ _ _ _ _ rfl (by omega) (by omega) (by omega) rfl⟩
theorem natF_mono : ∀ (l : List UInt8) (n : Int),0 ≤ n → l.all isDig = true → n ≤ natF n l := by
 intro l
 induction l with
 | nil => intro n h _; exact Int.le_refl _
 | cons d r ih =>
   intro n h hd
   rw [List.all_cons,Bool.and_eq_true] at hd
   have h2 := (isDig_iff d).1 hd.1
   rw [natF]
   have := ih (10 * n + ((d.toNat : Int) - 48)) (by omega) hd.2
   omega
theorem winF_nat : ∀ (l : List UInt8) (n : Int),0 ≤ n → winF n l = if l.all isDig = true ∧ natF n l ≤ 1000 then natF n l else 0 := by
 intro l
 induction l with
 | nil =>
   intro n h
   rw [winF,natF]
   by_cases h1 : n > 1000
   · rw [if_pos h1,if_neg (by simp; omega)]
   · rw [if_neg h1,if_pos (by simp; omega)]
 | cons d r ih =>
   intro n h
   rw [winF,natF]
   by_cases h1 : isDig d = true
   · have h2 := (isDig_iff d).1 h1
     by_cases h3 : n > 1000
     · rw [if_pos (.inr h3),if_neg]
       rintro ⟨q1,q2⟩
       rw [List.all_cons,Bool.and_eq_true] at q1
       have := natF_mono r (10 * n + ((d.toNat : Int) - 48)) (by omega) q1.2
       omega
     · rw [if_neg (by simp [h1,h3]),ih _ (by omega)]
       simp [h1]
   · have h1' : isDig d = false := by simpa using h1
     rw [if_pos (.inl h1'),if_neg (by simp [h1'])]
theorem win_ato (s : List UInt8) : (winF 0 s ≠ 0 ∧ ∃ n,atoF s = some n ∧ 1 ≤ n ∧ n ≤ 1000 ∧ winF 0 s = n) ∨ (winF 0 s = 0 ∧ ∀ n,atoF s = some n → ¬ (1 ≤ n ∧ n ≤ 1000)) := by
 rw [winF_nat s 0 (Int.le_refl _)]
 unfold atoF
 by_cases h1 : s.all isDig = true ∧ natF 0 s ≤ 1000
 · rw [if_pos h1]
   by_cases h0 : natF 0 s = 0
   · right
     refine ⟨h0,fun n hn => ?_⟩
     split at hn
     · cases hn; omega
     · cases hn
   · left
     have hge := natF_ge s 0 (Int.le_refl _) h1.1
     have hne : s ≠ [] := by rintro rfl; exact h0 rfl
     exact ⟨h0,natF 0 s,by rw [if_pos ⟨hne,h1.1,by omega⟩],by omega,h1.2,rfl⟩
 · rw [if_neg h1]
   right
   refine ⟨rfl,fun n hn => ?_⟩
   split at hn
   · rename_i h2
     cases hn
     intro h3
     exact h1 ⟨h2.2.1,h3.2⟩
   · cases hn
def matV : Option (Mat × Nat) → Value
 | none => .tuple #[.agg (Mat.cells ⟨[],0,[]⟩).toArray,i64 (-1)]
 | some p => .tuple #[.agg p.1.cells.toArray,i64 p.2]
def mcond (ts : List Tok) (a i : Nat) : Prop := (tokK ts 1 a).isSome = true ∧ tokK ts 4 (a + 1) = opsL[i]? ∧ (tokK ts 3 (a + 2)).isSome = true
theorem opsL_at : ∀ i < 3,∀ j < 3,opsL[i]? = opsL[j]? → i = j := by decide
theorem matO_none {ts : List Tok} {a : Nat} (h : ∀ i,i < 3 → ¬ mcond ts a i) : matO ts a = none := by
 unfold matO
 cases h1 : tokK ts 1 a with
 | none => rfl
 | some x =>
   cases h2 : tokK ts 4 (a + 1) with
   | none => rfl
   | some o =>
     simp only [Option.bind_some]
     by_cases ho : o ∈ opsL
     · rw [if_pos ho]
       obtain ⟨i,hi⟩ := List.getElem?_of_mem ho
       have hi3 : i < 3 := (List.getElem?_eq_some_iff.1 hi).1
       cases h3 : tokK ts 3 (a + 2) with
       | none => rfl
       | some y => exact absurd ⟨by rw [h1]; rfl,by rw [h2,hi],by rw [h3]; rfl⟩ (h i hi3)
     · rw [if_neg ho]
theorem matO_some {ts : List Tok} {a i : Nat} (hi : i < 3) (h : mcond ts a i) : ∃ x y,tokK ts 1 a = some x ∧ tokK ts 3 (a + 2) = some y ∧ matO ts a = some (⟨x,i,y⟩,a + 3) := by
 obtain ⟨h1,h2,h3⟩ := h
 obtain ⟨x,h1⟩ := Option.isSome_iff_exists.1 h1
 obtain ⟨y,h3⟩ := Option.isSome_iff_exists.1 h3
 refine ⟨x,y,h1,h3,?_⟩
 obtain ⟨o,ho⟩ : ∃ o,opsL[i]? = some o := ⟨_,List.getElem?_eq_getElem hi⟩
 rw [ho] at h2
 have hm : o ∈ opsL := List.mem_of_getElem? ho
 have hx : idxS opsL o = i := by
  unfold idxS
  rw [if_pos hm]
  have hlt := List.idxOf_lt_length_of_mem hm
  exact opsL_at _ hlt _ hi (by rw [ho,List.getElem?_eq_getElem hlt,List.getElem_idxOf hlt])
 unfold matO
 simp only [h1,h2,h3,Option.bind_some,if_pos hm,hx]
theorem opsL_star : ∀ i,i < 3 → opsL.getD i [] ≠ [42] := by decide
theorem tok_at {T : List RTk} {k : Int} {a : Nat} {x : List UInt8} (h : tokK (T.map Prod.fst) k a = some x) : ∃ p,T[a]? = some p ∧ p.1.kind = k ∧ p.1.text = x := by
 unfold tokK at h
 cases hp : T[a]? with
 | none => simp [hp] at h
 | some p =>
   simp only [List.getElem?_map,hp,Option.map_some,Option.bind_some] at h
   split at h
   · rename_i hk
     cases h
     exact ⟨p,rfl,hk,rfl⟩
   · cases h
set_option maxHeartbeats 1000000 in
theorem mat_loop {K : AHeap} {v : Value} {T : List RTk} {a : Nat} {k : Value → AHeap → Prop} (h : RTA K v T) (ha : a < 2 ^ 50) (hk : ∀ u,u = matV (matO (T.map Prod.fst) a) → ∀ X,k u (K ++ X)) :
  ∀ (d j : Nat) (s2 s3 s5 s7 s8 s9 s10 s11 s12 s13 s14 s15 s16 s17 s18 s19 s20 s21 s22 s23 s24 s25 s26 s27 s28 s29 s30 s31 s32 s33 s34 s35 s36 s37 s38 s39 s40 s41 s42 s43 s44 : Value),d + j = 3 → (∀ i,i < j → ¬ mcond (T.map Prod.fst) a i) → L91x0 (d + 1) k [v,i64 a,s2,s3,.pointer (some ⟨K.length,0,some 3⟩),s5,i64 j,s7,s8,s9,s10,s11,s12,s13,s14,s15,s16,s17,s18,s19,s20,s21,s22,s23,s24,s25,s26,s27,s28,s29,s30,s31,s32,s33,s34,s35,s36,s37,s38,s39,s40,s41,s42,s43,s44] (K ++ [.cells [str [],.int .u8 0,str []] 52]) := by
 intro d
 have hK := h.pre (.app K [.cells [str [],.int .u8 0,str []] 52])
 have w1 : IntKind.i64.wrap ((a : Int) + 1) = ((a + 1 : Nat) : Int) := by rw [wrap_i64 (by omega) (by omega)]; omega
 have w2 : IntKind.i64.wrap ((a : Int) + 2) = ((a + 2 : Nat) : Int) := by rw [wrap_i64 (by omega) (by omega)]; omega
 have w3 : IntKind.i64.wrap ((a : Int) + 3) = ((a + 3 : Nat) : Int) := by rw [wrap_i64 (by omega) (by omega)]; omega
 induction d with
 | zero =>
   intro j s2 s3 s5 s7 s8 s9 s10 s11 s12 s13 s14 s15 s16 s17 s18 s19 s20 s21 s22 s23 s24 s25 s26 s27 s28 s29 s30 s31 s32 s33 s34 s35 s36 s37 s38 s39 s40 s41 s42 s43 s44 hd hn
   obtain rfl : j = 3 := by omega
   rw [L91x0q]
   simp
   exact hk _ (by rw [matO_none hn]; rfl) _
 | succ d ih =>
   intro j s2 s3 s5 s7 s8 s9 s10 s11 s12 s13 s14 s15 s16 s17 s18 s19 s20 s21 s22 s23 s24 s25 s26 s27 s28 s29 s30 s31 s32 s33 s34 s35 s36 s37 s38 s39 s40 s41 s42 s43 s44 hd hn
   have hj : j < 3 := by omega
   rw [L91x0q]
   have hjI : (j : Int) < 3 := by omega
   simp [hjI]
   have wj : IntKind.i64.wrap ((j : Int) + 1) = ((j + 1 : Nat) : Int) := by rw [wrap_i64 (by omega) (by omega)]; omega
   have i1 := r_is hK a 1 [42]
   rw [isR_star] at i1
   have i2 := r_is hK (a + 1) 4 (opsL.getD j [])
   rw [isR_txt (opsL_star j hj)] at i2
   have i3 := r_is hK (a + 2) 3 [42]
   rw [isR_star] at i3
   have next : ¬ mcond (T.map Prod.fst) a j → ∀ (s2 s3 s5 s7 s8 s9 s10 s11 s12 s13 s14 s15 s16 s17 s18 s19 s20 s21 s22 s23 s24 s25 s26 s27 s28 s29 s30 s31 s32 s33 s34 s35 s36 s37 s38 s39 s40 s41 s42 s43 s44 : Value),L91x0 (d + 1) k [v,i64 a,s2,s3,.pointer (some ⟨K.length,0,some 3⟩),s5,i64 ((j + 1 : Nat) : Int),s7,s8,s9,s10,s11,s12,s13,s14,s15,s16,s17,s18,s19,s20,s21,s22,s23,s24,s25,s26,s27,s28,s29,s30,s31,s32,s33,s34,s35,s36,s37,s38,s39,s40,s41,s42,s43,s44] (K ++ [.cells [str [],.int .u8 0,str []] 52]) := by
    intro hnm s2 s3 s5 s7 s8 s9 s10 s11 s12 s13 s14 s15 s16 s17 s18 s19 s20 s21 s22 s23 s24 s25 s26 s27 s28 s29 s30 s31 s32 s33 s34 s35 s36 s37 s38 s39 s40 s41 s42 s43 s44
    exact ih (j + 1) _ _ _ _ _ _ _ _ _ _ _ _ _ _ _ _ _ _ _ _ _ _ _ _ _ _ _ _ _ _ _ _ _ _ _ _ _ _ _ _ _ (by omega) (fun i hi => by
     by_cases e : i = j
     · rw [e]; exact hnm
     · exact hn i (by omega))
   refine bndC_of i1 ?_
   cases t1 : (tokK (T.map Prod.fst) 1 a).isSome with
   | false =>
     simp [wj]
     exact next (fun hm => by have := hm.1; rw [t1] at this; cases this) _ _ _ _ _ _ _ _ _ _ _ _ _ _ _ _ _ _ _ _ _ _ _ _ _ _ _ _ _ _ _ _ _ _ _ _ _ _ _ _ _
   | true =>
     simp [w1]
     refine bndG_t _ _ (r_op _ hj) ?_
     refine bndG_t _ _ i2 ?_
     obtain ⟨o,ho⟩ : ∃ o,opsL[j]? = some o := ⟨_,List.getElem?_eq_getElem hj⟩
     have hgo : opsL.getD j [] = o := by rw [List.getD_eq_getElem?_getD,ho]; rfl
     cases t2 : isT (T.map Prod.fst) (a + 1) 4 (opsL.getD j []) with
     | false =>
       simp [wj]
       exact next (fun hm => by
        have := hm.2.1
        rw [ho] at this
        rw [hgo] at t2
        rw [(isT_tok _ _ _ _).2 this] at t2
        cases t2) _ _ _ _ _ _ _ _ _ _ _ _ _ _ _ _ _ _ _ _ _ _ _ _ _ _ _ _ _ _ _ _ _ _ _ _ _ _ _ _ _
     | true =>
       simp [w2]
       refine bndG_t _ _ i3 ?_
       cases t3 : (tokK (T.map Prod.fst) 3 (a + 2)).isSome with
       | false =>
         simp [wj]
         exact next (fun hm => by have := hm.2.2; rw [t3] at this; cases this) _ _ _ _ _ _ _ _ _ _ _ _ _ _ _ _ _ _ _ _ _ _ _ _ _ _ _ _ _ _ _ _ _ _ _ _ _ _ _ _ _
       | true =>
         have hm : mcond (T.map Prod.fst) a j := ⟨t1,by rw [ho,← hgo]; exact (isT_tok _ _ _ _).1 t2,t3⟩
         obtain ⟨x,y,g1,g2,g3⟩ := matO_some hj hm
         obtain ⟨p,p1,p2,p3⟩ := tok_at g1
         obtain ⟨q,q1,q2,q3⟩ := tok_at g2
         obtain ⟨e1,e2,e3,f1,f2,f3,f4,f5⟩ := hK.at p1
         obtain ⟨e4,e5,e6,f6,f7,f8,f9,f10⟩ := hK.at q1
         rw [p3] at f5
         rw [q3] at f10
         simp only [Int.natCast_add,Int.cast_ofNat_Int] at f6
         have wju : IntKind.u8.wrap (j : Int) = (j : Int) := by unfold IntKind.wrap; simp [IntKind.bits,IntKind.signed]; omega
         simp [f1,f4,f5,w2,f6,f9,f10,w3,wju]
         refine bndK_of (v := undef) (H' := K ++ [AObj.cells [str x,.int .u8 j,str y] 52]) ⟨rfl,by simp⟩ (by simp [w3]) ?_
         simp
         exact hk _ (by rw [g3]; rfl) _
theorem r_matcher {K v T} (h : RTA K v T) {a : Nat} (ha : a < 2 ^ 50) : ACalls prog 91 [v,i64 a] K (matV (matO (T.map Prod.fst) a)) K := by
 have hfl : ∀ o,flat (matV o) = true := by
  intro o
  cases o with
  | none => rfl
  | some p => rfl
 refine acallsG_flat (fun c => @drawKeep_sound _ c MixT) func91 (by decide) (hfl _) ?_
 rw [d91]
 simp
 exact ⟨3 + 1,mat_loop h ha (fun u hu X => ⟨hu,X,rfl⟩) 3 0 _ _ _ _ _ _ _ _ _ _ _ _ _ _ _ _ _ _ _ _ _ _ _ _ _ _ _ _ _ _ _ _ _ _ _ _ _ _ _ _ _ rfl (fun i hi => by omega)⟩
end Go.Vi
namespace Go.Vi
open Go Go.Proofs Go.Proofs.Try
theorem r_fsat (H : AHeap) (x : Int) : ACalls prog 71 [i64 x] H (i64 (sat x)) H := by
 refine acalls_pure MixT func71 (by decide) rfl ?_
 rw [d71]
 have hm : maxFix = 4611686018427387903 := rfl
 by_cases h1 : 4611686018427387903 < x
 · have : sat x = 4611686018427387903 := by unfold sat; omega
   rw [this]
   simp [h1]
 · by_cases h2 : x < -4611686018427387903
   · have : sat x = -4611686018427387903 := by unfold sat; omega
     rw [this]
     simp [h1,h2]
   · have : sat x = x := by unfold sat; omega
     rw [this]
     simp [h1,h2]
theorem r_digit (H : AHeap) (b : UInt8) : ACalls prog 97 [byt b] H (.bool (isDig b)) H := by
 refine acalls_pure MixT func97 (by decide) rfl ?_
 rw [d97]
 simp +contextual [isDig]
def moreF (x : Int) (d : UInt8) : Int := if x > 461168601842738790 then maxFix else sat (10 * x + ((d.toNat : Int) - 48))
theorem moreF_rng {x : Int} {d : UInt8} (h0 : 0 ≤ x) (hd : isDig d = true) : 0 ≤ moreF x d ∧ moreF x d ≤ maxFix := by
 have hm : maxFix = 4611686018427387903 := rfl
 have := (isDig_iff d).1 hd
 unfold moreF sat
 split <;> omega
theorem r_more (H : AHeap) {x : Int} {d : UInt8} (h0 : 0 ≤ x) (hd : isDig d = true) : ACalls prog 98 [i64 x,byt d] H (i64 (moreF x d)) H := by
 refine acalls_pure MixT func98 (by decide) rfl ?_
 rw [d98]
 have hb := (isDig_iff d).1 hd
 unfold moreF
 by_cases h1 : x > 461168601842738790
 · rw [if_pos h1]
   simp [h1,maxFix]
 · rw [if_neg h1]
   have w1 : IntKind.i64.wrap (10 * x) = 10 * x := wrap_i64 (by omega) (by omega)
   have w2 : IntKind.u8.wrap ((d.toNat : Int) - 48) = (d.toNat : Int) - 48 := by unfold IntKind.wrap; simp [IntKind.bits,IntKind.signed]; omega
   have w3 : IntKind.i64.wrap ((d.toNat : Int) - 48) = (d.toNat : Int) - 48 := wrap_i64 (by omega) (by omega)
   have w4 : IntKind.i64.wrap (10 * x + ((d.toNat : Int) - 48)) = 10 * x + ((d.toNat : Int) - 48) := wrap_i64 (by omega) (by omega)
   simp [h1,w1,w2,w3,w4]
   exact bndC_of (r_fsat _ _) ⟨rfl,[],by simp⟩
def foldM (x : Int) (l : List UInt8) : Int := l.foldl moreF x
theorem foldM_max : ∀ (l : List UInt8),foldM maxFix l = maxFix := by
 intro l
 induction l with
 | nil => rfl
 | cons d r ih =>
   have : moreF maxFix d = maxFix := by unfold moreF; rw [if_pos (by decide)]
   show foldM (moreF maxFix d) r = _
   rw [this,ih]
theorem digF_fold : ∀ (l : List UInt8) (x : Int),0 ≤ x → x ≤ maxFix → l.all isDig = true → digF x l = foldM x l := by
 intro l
 induction l with
 | nil => intro x _ _ _; rfl
 | cons d r ih =>
   intro x h0 h1 h
   rw [List.all_cons,Bool.and_eq_true] at h
   have hb := (isDig_iff d).1 h.1
   have hm : maxFix = 4611686018427387903 := rfl
   rw [digF]
   show _ = foldM (moreF x d) r
   by_cases hc : x > (maxFix - ((d.toNat : Int) - 48)).tdiv 10
   · rw [if_pos hc]
     have : moreF x d = maxFix := by
      unfold moreF sat
      rw [Int.tdiv_eq_ediv_of_nonneg (by omega)] at hc
      split <;> omega
     rw [this,foldM_max]
   · rw [if_neg hc]
     have : moreF x d = 10 * x + ((d.toNat : Int) - 48) := by
      unfold moreF sat
      rw [Int.tdiv_eq_ediv_of_nonneg (by omega)] at hc
      split <;> omega
     rw [this]
     rw [Int.tdiv_eq_ediv_of_nonneg (by omega)] at hc
     exact ih _ (by omega) (by omega) h.2
def finR (less : Bool) (x : Int) (w p : Nat) (ok : Bool) : Int × Int :=
 if w = 0 ∨ p > 3 ∨ ok = false then (0,10) else (if less = true then -foldM x (List.replicate (3 - p) 48) else foldM x (List.replicate (3 - p) 48),0)
def parV (q : Int × Int) : Value := .tuple #[i64 q.1,i64 q.2]
theorem pad_loop {H : AHeap} {less : Bool} {k : Value → AHeap → Prop} (q : Int) (hk : k (parV (if less = true then -q else q,0)) H) :
  ∀ (d p : Nat) (x : Int) (s0 s1 s2 s3 s4 s7 s9 s10 s11 s12 s13 s14 s15 s16 s17 s18 s19 s20 s21 s22 s23 s24 s25 s26 s27 s28 s29 s30 s31 s32 s33 s34 s35 s36 s37 s38 s39 s40 s41 s42 s43 s44 s45 s46 s47 s48 s49 s50 s51 s52 s53 s54 s55 s56 s57 s58 s59 s60 s61 s62 s63 s64 s65 s66 s67 s68 s69 s70 s71 s72 s73 s74 s75 s76 s77 s78 s79 s80 s81 s82 s83 s84 s85 s86 s87 s88 s89 s90 s91 : Value),d + p = 3 → 0 ≤ x → x ≤ maxFix → q = foldM x (List.replicate d 48) → L94x2 (d + 1) k [s0,s1,s2,s3,s4,.bool less,i64 x,s7,i64 p,s9,s10,s11,s12,s13,s14,s15,s16,s17,s18,s19,s20,s21,s22,s23,s24,s25,s26,s27,s28,s29,s30,s31,s32,s33,s34,s35,s36,s37,s38,s39,s40,s41,s42,s43,s44,s45,s46,s47,s48,s49,s50,s51,s52,s53,s54,s55,s56,s57,s58,s59,s60,s61,s62,s63,s64,s65,s66,s67,s68,s69,s70,s71,s72,s73,s74,s75,s76,s77,s78,s79,s80,s81,s82,s83,s84,s85,s86,s87,s88,s89,s90,s91] H := by
 intro d
 have hm : maxFix = 4611686018427387903 := rfl
 induction d with
 | zero =>
   intro p x s0 s1 s2 s3 s4 s7 s9 s10 s11 s12 s13 s14 s15 s16 s17 s18 s19 s20 s21 s22 s23 s24 s25 s26 s27 s28 s29 s30 s31 s32 s33 s34 s35 s36 s37 s38 s39 s40 s41 s42 s43 s44 s45 s46 s47 s48 s49 s50 s51 s52 s53 s54 s55 s56 s57 s58 s59 s60 s61 s62 s63 s64 s65 s66 s67 s68 s69 s70 s71 s72 s73 s74 s75 s76 s77 s78 s79 s80 s81 s82 s83 s84 s85 s86 s87 s88 s89 s90 s91 hd h0 h1 hq
   obtain rfl : p = 3 := by omega
   rw [L94x2q]
   have hqx : q = x := hq
   subst hqx
   have wn : IntKind.i64.wrap (-q) = -q := wrap_i64 (by omega) (by omega)
   cases less with
   | true => simp [wn]; exact hk
   | false => simp; exact hk
 | succ d ih =>
   intro p x s0 s1 s2 s3 s4 s7 s9 s10 s11 s12 s13 s14 s15 s16 s17 s18 s19 s20 s21 s22 s23 s24 s25 s26 s27 s28 s29 s30 s31 s32 s33 s34 s35 s36 s37 s38 s39 s40 s41 s42 s43 s44 s45 s46 s47 s48 s49 s50 s51 s52 s53 s54 s55 s56 s57 s58 s59 s60 s61 s62 s63 s64 s65 s66 s67 s68 s69 s70 s71 s72 s73 s74 s75 s76 s77 s78 s79 s80 s81 s82 s83 s84 s85 s86 s87 s88 s89 s90 s91 hd h0 h1 hq
   rw [L94x2q]
   have hp : (p : Int) < 3 := by omega
   have wp : IntKind.i64.wrap ((p : Int) + 1) = ((p + 1 : Nat) : Int) := by rw [wrap_i64 (by omega) (by omega)]; omega
   simp [hp]
   refine bndC_of (r_more H (d := 48) h0 (by decide)) ?_
   simp [wp]
   have := moreF_rng (x := x) (d := 48) h0 (by decide)
   exact ih (p + 1) _ _ _ _ _ _ _ _ _ _ _ _ _ _ _ _ _ _ _ _ _ _ _ _ _ _ _ _ _ _ _ _ _ _ _ _ _ _ _ _ _ _ _ _ _ _ _ _ _ _ _ _ _ _ _ _ _ _ _ _ _ _ _ _ _ _ _ _ _ _ _ _ _ _ _ _ _ _ _ _ _ _ _ _ _ _ _ _ _ _ (by omega) this.1 this.2 (by rw [hq,List.replicate_succ]; rfl)
theorem fin_walk {H : AHeap} {s : List UInt8} {less : Bool} {k : Value → AHeap → Prop} {x : Int} {w p i : Nat} (h0 : 0 ≤ x) (h1 : x ≤ maxFix) (hk : k (parV (finR less x w p (decide (i = s.length)))) H) (s1 s2 s3 s9 s10 s11 s12 s13 s14 s15 s16 s17 s18 s19 s20 s21 s22 s23 s24 s25 s26 s27 s28 s29 s30 s31 s32 s33 s34 s35 s36 s37 s38 s39 s40 s41 s42 s43 s44 s45 s46 s47 s48 s49 s50 s51 s52 s53 s54 s55 s56 s57 s58 s59 s60 s61 s62 s63 s64 s65 s66 s67 s68 s69 s70 s71 s72 s73 s74 s75 s76 s77 s78 s79 s80 s81 s82 s83 s84 s85 s86 s87 s88 s89 s90 s91 : Value) :
  S94x1 k [str s,s1,s2,s3,i64 i,.bool less,i64 x,i64 w,i64 p,s9,s10,s11,s12,s13,s14,s15,s16,s17,s18,s19,s20,s21,s22,s23,s24,s25,s26,s27,s28,s29,s30,s31,s32,s33,s34,s35,s36,s37,s38,s39,s40,s41,s42,s43,s44,s45,s46,s47,s48,s49,s50,s51,s52,s53,s54,s55,s56,s57,s58,s59,s60,s61,s62,s63,s64,s65,s66,s67,s68,s69,s70,s71,s72,s73,s74,s75,s76,s77,s78,s79,s80,s81,s82,s83,s84,s85,s86,s87,s88,s89,s90,s91] H := by
 rw [S94x1q]
 unfold finR at hk
 by_cases hw : w = 0
 · subst hw
   rw [if_pos (.inl rfl)] at hk
   simp
   exact hk
 · have hw' : ((w : Int) == 0) = false := by rw [beq_eq_false_iff_ne]; omega
   by_cases hp : p > 3
   · rw [if_pos (.inr (.inl hp))] at hk
     have hp' : (3 : Int) < p := by omega
     simp [hw',hp']
     exact hk
   · have hp' : ¬ (3 : Int) < p := by omega
     by_cases hi : i = s.length
     · rw [if_neg (by simp [hw,hp,hi])] at hk
       subst hi
       simp [hw',hp']
       exact ⟨3 - p + 1,pad_loop _ hk (3 - p) p x _ _ _ _ _ _ _ _ _ _ _ _ _ _ _ _ _ _ _ _ _ _ _ _ _ _ _ _ _ _ _ _ _ _ _ _ _ _ _ _ _ _ _ _ _ _ _ _ _ _ _ _ _ _ _ _ _ _ _ _ _ _ _ _ _ _ _ _ _ _ _ _ _ _ _ _ _ _ _ _ _ _ _ _ _ _ _ _ _ (by omega) h0 h1 rfl⟩
     · rw [if_pos (.inr (.inr (by simp [hi])))] at hk
       have hi' : ((i : Int) != s.length) = true := by rw [bne_iff_ne]; omega
       simp [hw',hp',hi']
       exact hk
theorem part_loop {H : AHeap} {s : List UInt8} {less : Bool} {k : Value → AHeap → Prop} {w : Nat} (hs : s.length < 2 ^ 60) (q : Int × Int) (hk : k (parV q) H) :
  ∀ (r : List UInt8) (i p : Nat) (x : Int) (s1 s2 s3 s9 s10 s11 s12 s13 s14 s15 s16 s17 s18 s19 s20 s21 s22 s23 s24 s25 s26 s27 s28 s29 s30 s31 s32 s33 s34 s35 s36 s37 s38 s39 s40 s41 s42 s43 s44 s45 s46 s47 s48 s49 s50 s51 s52 s53 s54 s55 s56 s57 s58 s59 s60 s61 s62 s63 s64 s65 s66 s67 s68 s69 s70 s71 s72 s73 s74 s75 s76 s77 s78 s79 s80 s81 s82 s83 s84 s85 s86 s87 s88 s89 s90 s91 : Value), s.drop i = r → i ≤ s.length → p ≤ i → 0 ≤ x → x ≤ maxFix →
    q = (if p + runF isDig r = 0 then (0,10) else finR less (foldM x (r.take (runF isDig r))) w (p + runF isDig r) (decide (i + runF isDig r = s.length))) →
    L94x1 (r.length + 1) k [str s,s1,s2,s3,i64 i,.bool less,i64 x,i64 w,i64 p,s9,s10,s11,s12,s13,s14,s15,s16,s17,s18,s19,s20,s21,s22,s23,s24,s25,s26,s27,s28,s29,s30,s31,s32,s33,s34,s35,s36,s37,s38,s39,s40,s41,s42,s43,s44,s45,s46,s47,s48,s49,s50,s51,s52,s53,s54,s55,s56,s57,s58,s59,s60,s61,s62,s63,s64,s65,s66,s67,s68,s69,s70,s71,s72,s73,s74,s75,s76,s77,s78,s79,s80,s81,s82,s83,s84,s85,s86,s87,s88,s89,s90,s91] H := by
 intro r
 induction r with
 | nil =>
   intro i p x s1 s2 s3 s9 s10 s11 s12 s13 s14 s15 s16 s17 s18 s19 s20 s21 s22 s23 s24 s25 s26 s27 s28 s29 s30 s31 s32 s33 s34 s35 s36 s37 s38 s39 s40 s41 s42 s43 s44 s45 s46 s47 s48 s49 s50 s51 s52 s53 s54 s55 s56 s57 s58 s59 s60 s61 s62 s63 s64 s65 s66 s67 s68 s69 s70 s71 s72 s73 s74 s75 s76 s77 s78 s79 s80 s81 s82 s83 s84 s85 s86 s87 s88 s89 s90 s91 hd hi hpi h0 h1 hq
   have hle : s.length ≤ i := by simpa using hd
   have : ¬ i < s.length := by omega
   rw [List.length_nil,L94x1q]
   have hr : runF isDig [] = 0 := rfl
   rw [hr] at hq
   simp only [Nat.add_zero] at hq
   by_cases hp0 : p = 0
   · subst hp0
     rw [if_pos rfl] at hq
     rw [hq] at hk
     simp [this]
     exact hk
   · rw [if_neg hp0] at hq
     rw [hq] at hk
     have hpb : ((p : Int) == 0) = false := by rw [beq_eq_false_iff_ne]; omega
     simp [this,hpb]
     exact fin_walk h0 h1 hk _ _ _ _ _ _ _ _ _ _ _ _ _ _ _ _ _ _ _ _ _ _ _ _ _ _ _ _ _ _ _ _ _ _ _ _ _ _ _ _ _ _ _ _ _ _ _ _ _ _ _ _ _ _ _ _ _ _ _ _ _ _ _ _ _ _ _ _ _ _ _ _ _ _ _ _ _ _ _ _ _ _ _ _ _ _
 | cons b r ih =>
   intro i p x s1 s2 s3 s9 s10 s11 s12 s13 s14 s15 s16 s17 s18 s19 s20 s21 s22 s23 s24 s25 s26 s27 s28 s29 s30 s31 s32 s33 s34 s35 s36 s37 s38 s39 s40 s41 s42 s43 s44 s45 s46 s47 s48 s49 s50 s51 s52 s53 s54 s55 s56 s57 s58 s59 s60 s61 s62 s63 s64 s65 s66 s67 s68 s69 s70 s71 s72 s73 s74 s75 s76 s77 s78 s79 s80 s81 s82 s83 s84 s85 s86 s87 s88 s89 s90 s91 hd hi hpi h0 h1 hq
   have hb : s[i]? = some b := by rw [← List.head?_drop,hd]; rfl
   have hlt : i < s.length := (List.getElem?_eq_some_iff.1 hb).1
   have hix := aIndex_at (P := prog) (T := 9) (k := .i64) (by simp) hb
   have hdr : s.drop (i + 1) = r := by rw [← List.drop_drop,hd]; rfl
   rw [List.length_cons,L94x1q]
   rw [runF_cons] at hq
   have hdig := r_digit H b
   cases hbd : isDig b with
   | true =>
     rw [if_pos hbd] at hq
     rw [hbd] at hdig
     have wp : IntKind.i64.wrap ((p : Int) + 1) = ((p + 1 : Nat) : Int) := by rw [wrap_i64 (by omega) (by omega)]; omega
     simp [hlt,hix]
     refine bndG_t _ _ hdig ?_
     simp [hix]
     refine bndC_of (r_more H h0 hbd) ?_
     simp [wp,show i + 1 < 2 ^ 63 by omega]
     have hr := moreF_rng (x := x) h0 hbd
     refine ih (i + 1) (p + 1) _ _ _ _ _ _ _ _ _ _ _ _ _ _ _ _ _ _ _ _ _ _ _ _ _ _ _ _ _ _ _ _ _ _ _ _ _ _ _ _ _ _ _ _ _ _ _ _ _ _ _ _ _ _ _ _ _ _ _ _ _ _ _ _ _ _ _ _ _ _ _ _ _ _ _ _ _ _ _ _ _ _ _ _ _ _ _ hdr hlt (by omega) hr.1 hr.2 ?_
     have e1 : p + (runF isDig r + 1) = p + 1 + runF isDig r := by omega
     have e2 : i + (runF isDig r + 1) = i + 1 + runF isDig r := by omega
     rw [hq,List.take_succ_cons,e1,e2]
     rfl
   | false =>
     have hz : (if isDig b = true then runF isDig r + 1 else 0) = 0 := if_neg (by simp [hbd])
     rw [hz] at hq
     rw [hbd] at hdig
     simp only [Nat.add_zero,List.take_zero] at hq
     have hf0 : foldM x [] = x := rfl
     rw [hf0] at hq
     simp [hlt,hix]
     refine bndG_t _ _ hdig ?_
     by_cases hp0 : p = 0
     · subst hp0
       rw [if_pos rfl] at hq
       rw [hq] at hk
       simp
       exact hk
     · rw [if_neg hp0] at hq
       rw [hq] at hk
       have hpb : ((p : Int) == 0) = false := by rw [beq_eq_false_iff_ne]; omega
       simp [hpb]
       exact fin_walk h0 h1 hk _ _ _ _ _ _ _ _ _ _ _ _ _ _ _ _ _ _ _ _ _ _ _ _ _ _ _ _ _ _ _ _ _ _ _ _ _ _ _ _ _ _ _ _ _ _ _ _ _ _ _ _ _ _ _ _ _ _ _ _ _ _ _ _ _ _ _ _ _ _ _ _ _ _ _ _ _ _ _ _ _ _ _ _ _ _
def wholeR (less : Bool) (s : List UInt8) (i w : Nat) (x : Int) (r : List UInt8) : Int × Int :=
 let m := runF isDig r
 let x' := foldM x (r.take m)
 match r.drop m with
 | [] => finR less x' (w + m) 0 true
 | c :: v => if ((c.toNat : Int) == 46) = true then
     (if runF isDig v = 0 then (0,10) else finR less (foldM x' (v.take (runF isDig v))) (w + m) (runF isDig v) (decide (i + m + 1 + runF isDig v = s.length)))
   else finR less x' (w + m) 0 (decide (i + m = s.length))
theorem whole_loop {H : AHeap} {s : List UInt8} {less : Bool} {k : Value → AHeap → Prop} (hs : s.length < 2 ^ 60) (q : Int × Int) (hk : k (parV q) H) :
  ∀ (r : List UInt8) (i w : Nat) (x : Int) (s1 s2 s3 s8 s9 s10 s11 s12 s13 s14 s15 s16 s17 s18 s19 s20 s21 s22 s23 s24 s25 s26 s27 s28 s29 s30 s31 s32 s33 s34 s35 s36 s37 s38 s39 s40 s41 s42 s43 s44 s45 s46 s47 s48 s49 s50 s51 s52 s53 s54 s55 s56 s57 s58 s59 s60 s61 s62 s63 s64 s65 s66 s67 s68 s69 s70 s71 s72 s73 s74 s75 s76 s77 s78 s79 s80 s81 s82 s83 s84 s85 s86 s87 s88 s89 s90 s91 : Value), s.drop i = r → i ≤ s.length → w ≤ i → 0 ≤ x → x ≤ maxFix → q = wholeR less s i w x r →
    L94x0 (r.length + 1) k [str s,s1,s2,s3,i64 i,.bool less,i64 x,i64 w,s8,s9,s10,s11,s12,s13,s14,s15,s16,s17,s18,s19,s20,s21,s22,s23,s24,s25,s26,s27,s28,s29,s30,s31,s32,s33,s34,s35,s36,s37,s38,s39,s40,s41,s42,s43,s44,s45,s46,s47,s48,s49,s50,s51,s52,s53,s54,s55,s56,s57,s58,s59,s60,s61,s62,s63,s64,s65,s66,s67,s68,s69,s70,s71,s72,s73,s74,s75,s76,s77,s78,s79,s80,s81,s82,s83,s84,s85,s86,s87,s88,s89,s90,s91] H := by
 intro r
 induction r with
 | nil =>
   intro i w x s1 s2 s3 s8 s9 s10 s11 s12 s13 s14 s15 s16 s17 s18 s19 s20 s21 s22 s23 s24 s25 s26 s27 s28 s29 s30 s31 s32 s33 s34 s35 s36 s37 s38 s39 s40 s41 s42 s43 s44 s45 s46 s47 s48 s49 s50 s51 s52 s53 s54 s55 s56 s57 s58 s59 s60 s61 s62 s63 s64 s65 s66 s67 s68 s69 s70 s71 s72 s73 s74 s75 s76 s77 s78 s79 s80 s81 s82 s83 s84 s85 s86 s87 s88 s89 s90 s91 hd hi hwi h0 h1 hq
   have hle : s.length ≤ i := by simpa using hd
   have : ¬ i < s.length := by omega
   rw [List.length_nil,L94x0q]
   have hq' : q = finR less x w 0 (decide (i = s.length)) := by
    rw [hq]
    have : decide (i = s.length) = true := by simp; omega
    rw [this]
    rfl
   rw [hq'] at hk
   simp [this]
   exact fin_walk (p := 0) h0 h1 hk _ _ _ _ _ _ _ _ _ _ _ _ _ _ _ _ _ _ _ _ _ _ _ _ _ _ _ _ _ _ _ _ _ _ _ _ _ _ _ _ _ _ _ _ _ _ _ _ _ _ _ _ _ _ _ _ _ _ _ _ _ _ _ _ _ _ _ _ _ _ _ _ _ _ _ _ _ _ _ _ _ _ _ _ _ _
 | cons b r ih =>
   intro i w x s1 s2 s3 s8 s9 s10 s11 s12 s13 s14 s15 s16 s17 s18 s19 s20 s21 s22 s23 s24 s25 s26 s27 s28 s29 s30 s31 s32 s33 s34 s35 s36 s37 s38 s39 s40 s41 s42 s43 s44 s45 s46 s47 s48 s49 s50 s51 s52 s53 s54 s55 s56 s57 s58 s59 s60 s61 s62 s63 s64 s65 s66 s67 s68 s69 s70 s71 s72 s73 s74 s75 s76 s77 s78 s79 s80 s81 s82 s83 s84 s85 s86 s87 s88 s89 s90 s91 hd hi hwi h0 h1 hq
   have hb : s[i]? = some b := by rw [← List.head?_drop,hd]; rfl
   have hlt : i < s.length := (List.getElem?_eq_some_iff.1 hb).1
   have hix := aIndex_at (P := prog) (T := 9) (k := .i64) (by simp) hb
   have hdr : s.drop (i + 1) = r := by rw [← List.drop_drop,hd]; rfl
   rw [List.length_cons,L94x0q]
   have hdig := r_digit H b
   cases hbd : isDig b with
   | true =>
     rw [hbd] at hdig
     have ww : IntKind.i64.wrap ((w : Int) + 1) = ((w + 1 : Nat) : Int) := by rw [wrap_i64 (by omega) (by omega)]; omega
     simp [hlt,hix]
     refine bndG_t _ _ hdig ?_
     simp [hix]
     refine bndC_of (r_more H h0 hbd) ?_
     simp [ww,show i + 1 < 2 ^ 63 by omega]
     have hr := moreF_rng (x := x) h0 hbd
     refine ih (i + 1) (w + 1) _ _ _ _ _ _ _ _ _ _ _ _ _ _ _ _ _ _ _ _ _ _ _ _ _ _ _ _ _ _ _ _ _ _ _ _ _ _ _ _ _ _ _ _ _ _ _ _ _ _ _ _ _ _ _ _ _ _ _ _ _ _ _ _ _ _ _ _ _ _ _ _ _ _ _ _ _ _ _ _ _ _ _ _ _ _ _ _ hdr hlt (by omega) hr.1 hr.2 ?_
     rw [hq]
     unfold wholeR
     rw [runF_cons,if_pos hbd]
     simp only [List.take_succ_cons,List.drop_succ_cons]
     have e1 : w + (runF isDig r + 1) = w + 1 + runF isDig r := by omega
     have e2 : i + (runF isDig r + 1) = i + 1 + runF isDig r := by omega
     rw [e1,e2]
     rfl
   | false =>
     rw [hbd] at hdig
     have hm0 : runF isDig (b :: r) = 0 := by rw [runF_cons,if_neg (by simp [hbd])]
     unfold wholeR at hq
     rw [hm0] at hq
     simp only [List.drop_zero,List.take_zero,Nat.add_zero] at hq
     have hf0 : foldM x [] = x := rfl
     rw [hf0] at hq
     simp [hlt,hix]
     refine bndG_t _ _ hdig ?_
     by_cases h46 : ((b.toNat : Int) == 46) = true
     · rw [if_pos h46] at hq
       simp [hlt,hix,h46,show i + 1 < 2 ^ 63 by omega]
       exact ⟨r.length + 1,part_loop hs q hk r (i + 1) 0 x _ _ _ _ _ _ _ _ _ _ _ _ _ _ _ _ _ _ _ _ _ _ _ _ _ _ _ _ _ _ _ _ _ _ _ _ _ _ _ _ _ _ _ _ _ _ _ _ _ _ _ _ _ _ _ _ _ _ _ _ _ _ _ _ _ _ _ _ _ _ _ _ _ _ _ _ _ _ _ _ _ _ _ _ _ _ hdr hlt (by omega) h0 h1 (by rw [hq]; simp)⟩
     · have h46' : ((b.toNat : Int) == 46) = false := by simpa using h46
       rw [if_neg h46] at hq
       rw [hq] at hk
       simp [hlt,hix,h46']
       exact fin_walk (p := 0) h0 h1 hk _ _ _ _ _ _ _ _ _ _ _ _ _ _ _ _ _ _ _ _ _ _ _ _ _ _ _ _ _ _ _ _ _ _ _ _ _ _ _ _ _ _ _ _ _ _ _ _ _ _ _ _ _ _ _ _ _ _ _ _ _ _ _ _ _ _ _ _ _ _ _ _ _ _ _ _ _ _ _ _ _ _ _ _ _ _
def parR (s : List UInt8) : Int × Int := if hasPre s [45] = true then wholeR true s 1 0 0 (s.drop 1) else wholeR false s 0 0 0 s
theorem r_fparse (H : AHeap) {s : List UInt8} (hs : s.length < 2 ^ 60) : ACalls prog 94 [str s] H (parV (parR s)) H := by
 refine acallsT_pure MixT func94 (by decide) rfl ?_
 rw [d94]
 cases s with
 | nil =>
   simp
   rw [S94x0q]
   exact ⟨0 + 1,whole_loop (s := []) (less := false) (k := fun u H2 => u = parV (parR []) ∧ ∃ X,H2 = H ++ X) hs (parR []) ⟨rfl,[],by simp⟩ [] 0 0 0 _ _ _ _ _ _ _ _ _ _ _ _ _ _ _ _ _ _ _ _ _ _ _ _ _ _ _ _ _ _ _ _ _ _ _ _ _ _ _ _ _ _ _ _ _ _ _ _ _ _ _ _ _ _ _ _ _ _ _ _ _ _ _ _ _ _ _ _ _ _ _ _ _ _ _ _ _ _ _ _ _ _ _ _ _ _ _ rfl (by omega) (by omega) (by omega) (by decide) rfl⟩
 | cons b r =>
   have h0 := aIndex_at (P := prog) (T := 9) (k := .i64) (l := b :: r) (i := 0) (b := b) (by simp) rfl
   simp at h0
   have hp : hasPre (b :: r) [45] = ((b.toNat : Int) == 45) := by
    have : ((b.toNat : Int) == 45) = decide (b = 45) := byte_all (p := fun b => ((b.toNat : Int) == 45) = decide (b = 45)) (by decide +kernel) b
    rw [this]
    simp [hasPre]
   have hpos : (0 : Int) < (r.length : Int) + 1 := by omega
   by_cases h45 : ((b.toNat : Int) == 45) = true
   · have hpr : parR (b :: r) = wholeR true (b :: r) 1 0 0 r := by unfold parR; rw [hp,if_pos h45]; rfl
     simp [h0,h45,hpos]
     rw [S94x0q]
     exact ⟨r.length + 1,whole_loop (s := b :: r) (less := true) (k := fun u H2 => u = parV (parR (b :: r)) ∧ ∃ X,H2 = H ++ X) hs (parR (b :: r)) ⟨rfl,[],by simp⟩ r 1 0 0 _ _ _ _ _ _ _ _ _ _ _ _ _ _ _ _ _ _ _ _ _ _ _ _ _ _ _ _ _ _ _ _ _ _ _ _ _ _ _ _ _ _ _ _ _ _ _ _ _ _ _ _ _ _ _ _ _ _ _ _ _ _ _ _ _ _ _ _ _ _ _ _ _ _ _ _ _ _ _ _ _ _ _ _ _ _ _ rfl (by simp) (by omega) (by omega) (by decide) hpr⟩
   · have h45' : ((b.toNat : Int) == 45) = false := by simpa using h45
     have hpr : parR (b :: r) = wholeR false (b :: r) 0 0 0 (b :: r) := by unfold parR; rw [hp,if_neg h45]
     simp [h0,h45',hpos]
     rw [S94x0q]
     exact ⟨(b :: r).length + 1,whole_loop (s := b :: r) (less := false) (k := fun u H2 => u = parV (parR (b :: r)) ∧ ∃ X,H2 = H ++ X) hs (parR (b :: r)) ⟨rfl,[],by simp⟩ (b :: r) 0 0 0 _ _ _ _ _ _ _ _ _ _ _ _ _ _ _ _ _ _ _ _ _ _ _ _ _ _ _ _ _ _ _ _ _ _ _ _ _ _ _ _ _ _ _ _ _ _ _ _ _ _ _ _ _ _ _ _ _ _ _ _ _ _ _ _ _ _ _ _ _ _ _ _ _ _ _ _ _ _ _ _ _ _ _ _ _ _ _ rfl (by simp) (by omega) (by omega) (by decide) hpr⟩
theorem scan_digs : ∀ (D v : List UInt8) (i : Nat) (pt : Int),D.all isDig = true → scanF (D ++ v) i pt = scanF v (i + D.length) pt := by
 intro D
 induction D with
 | nil => intro v i pt _; simp
 | cons d D ih =>
   intro v i pt h
   rw [List.all_cons,Bool.and_eq_true] at h
   rw [List.cons_append,scanF,if_pos h.1,ih v (i + 1) pt h.2]
   simp only [List.length_cons]
   congr 1
   omega
theorem split_run (p : UInt8 → Bool) (r : List UInt8) : (r.take (runF p r)).all p = true ∧ (∀ c v,r.drop (runF p r) = c :: v → p c = false) := by
 induction r with
 | nil => exact ⟨rfl,fun c v h => by cases h⟩
 | cons b r ih =>
   rw [runF_cons]
   cases hb : p b with
   | true => exact ⟨by simp only [if_true,List.take_succ_cons,List.all_cons,hb,Bool.true_and]; exact ih.1,fun c v h => ih.2 c v (by simpa using h)⟩
   | false => exact ⟨by simp,fun c v h => by simp at h; rw [← h.1]; exact hb⟩
theorem par_eq (s : List UInt8) : parR s = parF s := by
 have key : ∀ (less : Bool) (i : Nat) (u : List UInt8),s.drop i = u → i ≤ s.length → wholeR less s i 0 0 u = (if (cutF u).2.2 = true then (if less = true then -(digF 0 ((cutF u).1 ++ (cutF u).2.1 ++ List.replicate (3 - (cutF u).2.1.length) 48)) else digF 0 ((cutF u).1 ++ (cutF u).2.1 ++ List.replicate (3 - (cutF u).2.1.length) 48),0) else (0,10)) := by
  intro less i u hu hi
  have hul : u.length = s.length - i := by rw [← hu,List.length_drop]
  obtain ⟨s1,s2⟩ := split_run isDig u
  have hmle := runF_le isDig u
  unfold wholeR
  dsimp only
  generalize hm : runF isDig u = m at *
  have hsp : u = u.take m ++ u.drop m := (List.take_append_drop m u).symm
  have htl : (u.take m).length = m := by simp; omega
  cases hr : u.drop m with
  | nil =>
    dsimp only
    have hum : u.length = m := by
     have := congrArg List.length hr
     simp at this
     omega
    have hut : u.take m = u := List.take_of_length_le (by omega)
    rw [hut] at s1 ⊢
    have hsc : scanF u 0 (-1) = (-1,true) := by
     have := scan_digs u [] 0 (-1) s1
     rw [List.append_nil] at this
     rw [this]; rfl
    have hcut : cutF u = (u,[],!u.isEmpty) := by unfold cutF cutT; rw [hsc]; simp
    rw [hcut]
    simp only
    unfold finR
    by_cases hm0 : m = 0
    · have : u = [] := List.eq_nil_of_length_eq_zero (by omega)
      subst this
      rw [if_pos (.inl (by omega))]
      rfl
    · have hne : u.isEmpty = false := by cases u with | nil => simp at hum; omega | cons => rfl
      rw [if_neg (by simp; omega),hne]
      simp only [Bool.not_false,if_true,List.append_nil,List.length_nil]
      rw [digF_fold _ 0 (Int.le_refl _) (by decide) (by rw [List.all_append,s1]; decide)]
      unfold foldM
      rw [List.foldl_append]
  | cons c v =>
    dsimp only
    have hcd := s2 c v hr
    have hum : u.length = m + 1 + v.length := by
     have := congrArg List.length hr
     simp at this
     omega
    have hsc : scanF u 0 (-1) = scanF (c :: v) m (-1) := by
     conv => lhs; rw [hsp,hr]
     rw [scan_digs _ _ _ _ s1,htl,Nat.zero_add]
    rw [scanF,if_neg (by simp [hcd])] at hsc
    by_cases h46 : ((c.toNat : Int) == 46) = true
    · rw [if_pos h46]
      rw [if_pos (by simp [h46])] at hsc
      obtain ⟨t1,t2⟩ := split_run isDig v
      have hvle := runF_le isDig v
      generalize hp : runF isDig v = p at *
      have hvsp : v = v.take p ++ v.drop p := (List.take_append_drop p v).symm
      have hvtl : (v.take p).length = p := by simp; omega
      have hsc2 : scanF v (m + 1) (m : Int) = ((m : Int),decide (p = v.length)) := by
       have e1 : scanF v (m + 1) (m : Int) = scanF (v.drop p) (m + 1 + p) (m : Int) := by
        conv => lhs; rw [hvsp]
        rw [scan_digs _ _ _ _ t1,hvtl]
       rw [e1]
       cases hv : v.drop p with
       | nil =>
         have : p = v.length := by
          have := congrArg List.length hv
          simp at this
          omega
         rw [scanF]
         simp [this]
       | cons c2 v2 =>
         have : ¬ p = v.length := by
          have := congrArg List.length hv
          simp at this
          omega
         rw [scanF,if_neg (by simp [t2 c2 v2 hv]),if_neg (by simp)]
         simp [this]
      rw [hsc2] at hsc
      have hdv : u.drop (m + 1) = v := by rw [← List.drop_drop,hr]; rfl
      have hcut : cutF u = (u.take m,v,decide (p = v.length) && !u.isEmpty && !decide (u.take m = []) && !decide (v = []) && decide (v.length ≤ 3)) := by
       unfold cutF cutT
       rw [hsc]
       simp only
       rw [if_neg (by omega)]
       simp only [Int.toNat_natCast,hdv]
      have hne : u.isEmpty = false := by cases u with | nil => simp at hum; omega | cons => rfl
      rw [hcut,hne]
      simp only [Bool.not_false,Bool.and_true]
      have htm : (u.take m = []) ↔ m = 0 := by
       rw [← List.length_eq_zero_iff,htl]
      have hvm : (v = []) ↔ v.length = 0 := List.length_eq_zero_iff.symm
      by_cases hall : p = v.length ∧ m ≠ 0 ∧ v.length ≠ 0 ∧ v.length ≤ 3
      · obtain ⟨a1,a2,a3,a4⟩ := hall
        have hvt : v.take p = v := List.take_of_length_le (by omega)
        rw [if_neg (by omega),if_pos (by simp [a1,htm,hvm,a2,a3,a4])]
        unfold finR
        rw [if_neg (by simp; omega),hvt]
        rw [hvt] at t1
        rw [digF_fold _ 0 (Int.le_refl _) (by decide) (by
         rw [List.all_append,List.all_append,s1,t1]
         simp only [Bool.true_and,List.all_eq_true]
         intro x hx
         rw [(List.mem_replicate.1 hx).2]
         decide)]
        unfold foldM
        rw [List.foldl_append,List.foldl_append,a1]
      · have hbad : (decide (p = v.length) && !decide (u.take m = []) && !decide (v = []) && decide (v.length ≤ 3)) = false := by
         rw [← Bool.not_eq_true]
         intro h
         simp only [Bool.and_eq_true,decide_eq_true_eq,Bool.not_eq_true',decide_eq_false_iff_not,htm,hvm] at h
         exact hall ⟨h.1.1.1,h.1.1.2,h.1.2,h.2⟩
        rw [hbad,if_neg (show ¬ (false = true) by decide)]
        by_cases hp0 : p = 0
        · rw [if_pos hp0]
        · rw [if_neg hp0]
          unfold finR
          rw [if_pos]
          by_cases q1 : m = 0
          · exact .inl (by omega)
          · by_cases q2 : p > 3
            · exact .inr (.inl q2)
            · refine .inr (.inr ?_)
              rw [decide_eq_false_iff_not]
              intro q3
              exact hall ⟨by omega,q1,by omega,by omega⟩
    · rw [if_neg h46]
      rw [if_neg (by simp [h46])] at hsc
      have hcut : (cutF u).2.2 = false := by unfold cutF cutT; rw [hsc]; simp
      rw [hcut]
      unfold finR
      rw [if_pos (.inr (.inr (by rw [decide_eq_false_iff_not]; omega)))]
      rfl
 unfold parR parF
 by_cases h : hasPre s [45] = true
 · have h1 : 1 ≤ s.length := by
    unfold hasPre at h
    simp only [Bool.and_eq_true,decide_eq_true_eq] at h
    exact h.1
   have hc : cutPre s [45] = s.drop 1 := by unfold cutPre; rw [if_pos h]; rfl
   rw [if_pos h,key true 1 (s.drop 1) rfl h1]
   simp only [hc,h,if_true]
 · have hc : cutPre s [45] = s := by unfold cutPre; rw [if_neg h]
   rw [if_neg h,key false 0 s rfl (Nat.zero_le _)]
   simp only [hc,h,if_false,Bool.false_eq_true]
end Go.Vi
namespace Go.Vi
open Go Go.Proofs Go.Proofs.Try
theorem bndG_f {H : AHeap} {e q : QH} (v : Value) (H' : AHeap) (h : e.f v H') (k : q.f v H') : @bndG (.bool false) false H e q := ⟨v,H',by simpa [gifp] using h,k⟩
theorem matR_ok (m : Mat) (h0 : 0 ≤ m.op) : m.ok = (decide (m.op ≤ 2) && mayName m.name && decide (m.value.length ≤ 32) && m.value.all isSign) := by
 have e : (m.op == 0 || m.op == 1 || m.op == 2) = decide (m.op ≤ 2) := by
  rw [Bool.eq_iff_iff]
  simp only [Bool.or_eq_true,beq_iff_eq,decide_eq_true_eq]
  omega
 unfold Mat.ok mayM mayValue
 rw [e]
 cases m.value with
 | nil => simp
 | cons b r => simp [Bool.and_assoc]
theorem rMay_loop {H : AHeap} {v : Value} {ms : List Mat} {k : Value → AHeap → Prop} {w : Bool} (hm : MatsAt H v ms) (hl : ms.length < 2 ^ 62) (h0 : ∀ m ∈ ms,0 ≤ m.op ∧ m.name.length < 2 ^ 60 ∧ m.value.length < 2 ^ 60) (hk : k (.bool w) H) :
  ∀ (r : List Mat) (i : Nat) (s1 s2 s4 s5 s6 s7 s8 s9 s10 s11 s12 s13 s14 s15 s16 s17 s18 s19 s20 s21 s22 s23 s24 s25 s26 s27 s28 s29 s30 s31 s32 s33 s34 s35 s36 s37 s38 s39 s40 s41 s42 s43 s44 s45 : Value),ms.drop i = r → i ≤ ms.length → w = (r.all Mat.ok && decide (ms.length ≤ 6)) → L92x0 (r.length + 1) k [v,s1,s2,i64 i,s4,s5,s6,s7,s8,s9,s10,s11,s12,s13,s14,s15,s16,s17,s18,s19,s20,s21,s22,s23,s24,s25,s26,s27,s28,s29,s30,s31,s32,s33,s34,s35,s36,s37,s38,s39,s40,s41,s42,s43,s44,s45] H := by
 have hlen := Arr.len (P := prog) (T := 48) (e := 52) hm (by simp)
 simp at hlen
 intro r
 induction r with
 | nil =>
   intro i s1 s2 s4 s5 s6 s7 s8 s9 s10 s11 s12 s13 s14 s15 s16 s17 s18 s19 s20 s21 s22 s23 s24 s25 s26 s27 s28 s29 s30 s31 s32 s33 s34 s35 s36 s37 s38 s39 s40 s41 s42 s43 s44 s45 hd hi hw
   have hle : ms.length ≤ i := by simpa using hd
   have : ¬ i < ms.length := by omega
   rw [List.length_nil,L92x0q]
   rw [List.all_nil,Bool.true_and] at hw
   have e : decide ((ms.length : Int) ≤ 6) = w := by rw [hw,decide_eq_decide]; omega
   simp [hlen,this]
   rw [e]
   exact hk
 | cons m r ih =>
   intro i s1 s2 s4 s5 s6 s7 s8 s9 s10 s11 s12 s13 s14 s15 s16 s17 s18 s19 s20 s21 s22 s23 s24 s25 s26 s27 s28 s29 s30 s31 s32 s33 s34 s35 s36 s37 s38 s39 s40 s41 s42 s43 s44 s45 hd hi hw
   have hb : ms[i]? = some m := by rw [← List.head?_drop,hd]; rfl
   have hlt : i < ms.length := (List.getElem?_eq_some_iff.1 hb).1
   have hdr : ms.drop (i + 1) = r := by rw [← List.drop_drop,hd]; rfl
   obtain ⟨g1,g2,g3⟩ := h0 m (List.mem_of_getElem? hb)
   have hcell : (ms.map Mat.cells)[i]? = some m.cells := by simp [hb]
   obtain ⟨p1,q1,a1,a2,a3⟩ := Arr.field (P := prog) (T := 48) (te := 52) (f := 1) (d := 1) (ft := 5) hm (by simp) (by simp) (by simp) (by simp) (by simp) hcell rfl
   obtain ⟨p2,q2,b1,b2,b3⟩ := Arr.field (P := prog) (T := 48) (te := 52) (f := 0) (d := 0) (ft := 9) hm (by simp) (by simp) (by simp) (by simp) (by simp) hcell rfl
   obtain ⟨p3,q3,c1,c2,c3⟩ := Arr.field (P := prog) (T := 48) (te := 52) (f := 2) (d := 2) (ft := 9) hm (by simp) (by simp) (by simp) (by simp) (by simp) hcell rfl
   rw [a1] at b1 c1
   cases b1
   cases c1
   have hok := matR_ok m g1
   rw [List.all_cons] at hw
   rw [List.length_cons,L92x0q]
   have no : m.ok = false → k (.bool false) H := by
    intro h
    rw [h,Bool.false_and,Bool.false_and] at hw
    rw [← hw]
    exact hk
   by_cases t1 : (2 : Int) < m.op
   · simp [hlen,hlt,a1,a2,a3,t1]
     exact no (by rw [hok]; simp; intro h; omega)
   · simp [hlen,hlt,a1,a2,a3,t1,b2,b3]
     refine bndG_f _ _ (r_mayName H (by omega)) ?_
     cases t2 : mayName m.name with
     | false =>
       simp
       exact no (by rw [hok,t2]; simp)
     | true =>
       by_cases t3 : (32 : Int) < m.value.length
       · simp [a1,c2,c3,t3]
         exact no (by rw [hok]; simp; intros; omega)
       · simp [a1,c2,c3,t3]
         refine bndG_f _ _ (r_plain H (by omega)) ?_
         cases t4 : m.value.all isSign with
         | false =>
           simp
           exact no (by rw [hok,t4]; simp)
         | true =>
           have hy : m.ok = true := by rw [hok,t2,t4]; simp; omega
           rw [hy,Bool.true_and] at hw
           simp [show i + 1 < 2 ^ 63 by omega]
           exact ih (i + 1) _ _ _ _ _ _ _ _ _ _ _ _ _ _ _ _ _ _ _ _ _ _ _ _ _ _ _ _ _ _ _ _ _ _ _ _ _ _ _ _ _ _ _ _ hdr hlt hw
theorem r_mats {H : AHeap} {v : Value} {ms : List Mat} (hm : MatsAt H v ms) (hl : ms.length < 2 ^ 62) (h0 : ∀ m ∈ ms,0 ≤ m.op ∧ m.name.length < 2 ^ 60 ∧ m.value.length < 2 ^ 60) : ACalls prog 92 [v] H (.bool (mayMats ms)) H := by
 refine acalls_pure MixT func92 (by decide) rfl ?_
 rw [d92]
 exact ⟨ms.length + 1,rMay_loop (k := fun u H2 => u = .bool (mayMats ms) ∧ ∃ X,H2 = H ++ X) hm hl h0 ⟨rfl,[],by simp⟩ ms 0 _ _ _ _ _ _ _ _ _ _ _ _ _ _ _ _ _ _ _ _ _ _ _ _ _ _ _ _ _ _ _ _ _ _ _ _ _ _ _ _ _ _ _ _ rfl (by omega) rfl⟩
def nodB (g w c x : Int) (sv : Value) : List Value := [.int .u8 0,.int .u8 g,sv,i64 w,.int .u8 c,i64 x,i64 0,i64 0]
structure CM (K M : AHeap) (g w c x : Int) (sv : Value) (ms : List Mat) : Prop where
 pre : Pre K M
 blk : M[K.length]? = some (.cells (nodB g w c x sv) 50)
 sel : Gro M (K.length + 1) 3 52 sv (ms.map Mat.cells)
def CmpP (K : AHeap) (r : Option (Nod × Nat)) (u : Value) (K' : AHeap) : Prop := ∃ v,∃ next : Int,∃ out : List Nod,u = .tuple #[v,i64 next] ∧ Pre K K' ∧ NL K' K.length v out ∧ (match r with | none => out = [] ∧ next = -1 | some p => out = [p.1] ∧ next = p.2)
theorem NL.nil {K lo} : NL K lo (.slice none 0 0) [] := ⟨[],.nil,rfl,fun i n h => by simp at h⟩
theorem CmpP.none {K K' : AHeap} (h : Pre K K') : CmpP K none (.tuple #[.slice none 0 0,i64 (-1)]) K' := ⟨_,_,[],rfl,h,.nil,rfl,rfl⟩
theorem cmps_star : ∀ i,i < 6 → cmps.getD i [] ≠ [42] := by decide
theorem aggs_star : ∀ i,i < 6 → aggs.getD i [] ≠ [42] := by decide
def valE (ts : List Tok) (g : UInt8) (ms : List Mat) (w : Int) (c : UInt8) (b : Nat) : Option (Nod × Nat) := (valO ts b).bind fun v => some (⟨0,g,ms,w,c,v.1,0,0⟩,v.2)
def cmpE (ts : List Tok) (g : UInt8) (ms : List Mat) (c : Nat) : Option (Nod × Nat) := (signO ts [91] c).bind fun b3 => (winO ts b3).bind fun w =>
 (signO ts [93] w.2).bind fun b4 => (signO ts [41] b4).bind fun b5 => (oneO ts 4 cmps b5).bind fun b6 => valE ts g ms w.1 (UInt8.ofNat (idxS cmps (txtK ts 4 b5))) b6
theorem cmpO_split (ts : List Tok) (a : Nat) : cmpO ts a = (oneO ts 1 aggs a).bind fun b1 => (signO ts [40] b1).bind fun b2 => (selO ts b2).bind fun p => cmpE ts (UInt8.ofNat (idxS aggs (txtK ts 1 a))) p.1 p.2 := rfl
section
variable {K : AHeap} {v : Value} {T : List RTk} {k : Value → AHeap → Prop} {R : Option (Nod × Nat)}
theorem CM.hc {M g w c x sv ms} (h : CM K M g w c x sv ms) : hcells M K.length = some (nodB g w c x sv) := by simp [hcells,h.blk]
theorem CM.hl {M g w c x sv ms} (h : CM K M g w c x sv ms) : hlen M K.length = some 8 := by simp [hlen,h.blk,nodB]
theorem CM.put {M g w c x sv ms} (h : CM K M g w c x sv ms) (g' w' c' x' : Int) : CM K (M.set K.length (.cells (nodB g' w' c' x' sv) 50)) g' w' c' x' sv ms := by
 have hlt := (List.getElem?_eq_some_iff.1 h.blk).1
 exact ⟨h.pre.set (Nat.le_refl _),by rw [List.getElem?_set_self hlt],h.sel.set (by omega)⟩
theorem cmp_end {M : AHeap} {g c : UInt8} {w : Int} {sv : Value} {ms : List Mat} {b : Nat} {less : List UInt8} (hT : RTA K v T) (hM : CM K M g.toNat w c.toNat 0 sv ms) (hml : ms.length ≤ 2 ^ 41) (htx : ∀ p ∈ T,p.1.text.length < 2 ^ 50)
  (hb : b < 2 ^ 50) (hless : less.length ≤ 1) (hR : R = match tokK (T.map Prod.fst) 2 b with | none => none | some s => if (parF (less ++ s)).2 = 0 then some (⟨0,g,ms,w,c,(parF (less ++ s)).1,0,0⟩,b + 1) else none)
  (hk : ∀ u K',CmpP K R u K' → k u K') (s2 s3 s4 s5 s7 s8 s9 s11 s12 s13 s14 s15 s16 s17 s18 s19 s20 s21 s22 s23 s24 s25 s26 s27 s28 s29 s30 s31 s32 s33 s34 s35 s36 s37 s38 s39 s40 s41 s42 s43 s44 s45 s46 s47 s48 s49 s50 s51 s52 s53 s54 s55 s56 s57 s58 s59 s60 s61 s62 s63 s64 s65 s66 s67 s68 s69 s70 s71 s72 s73 s74 s75 s76 s77 s78 s79 s80 s81 s82 s83 s84 s85 s86 s87 s88 s89 s90 s91 s92 s93 s94 s95 s96 s97 s98 s99 s100 s101 s102 s103 s104 s105 s106 s107 s108 s109 s110 s111 s112 s113 s114 s115 s116 s117 s118 s119 s120 s121 s122 s123 s124 s125 s126 s127 s128 s129 s130 s131 s132 s133 s134 s135 s136 s137 s138 s139 s140 s141 s142 s143 s144 s145 s146 s147 s148 s149 s150 s151 s152 s153 s154 s155 s156 s157 s158 s159 s160 s161 s162 s163 s164 s165 s166 s167 : Value) : S87x1 k [v,i64 b,s2,s3,s4,s5,.pointer (some ⟨K.length,0,some 8⟩),s7,s8,s9,str less,s11,s12,s13,s14,s15,s16,s17,s18,s19,s20,s21,s22,s23,s24,s25,s26,s27,s28,s29,s30,s31,s32,s33,s34,s35,s36,s37,s38,s39,s40,s41,s42,s43,s44,s45,s46,s47,s48,s49,s50,s51,s52,s53,s54,s55,s56,s57,s58,s59,s60,s61,s62,s63,s64,s65,s66,s67,s68,s69,s70,s71,s72,s73,s74,s75,s76,s77,s78,s79,s80,s81,s82,s83,s84,s85,s86,s87,s88,s89,s90,s91,s92,s93,s94,s95,s96,s97,s98,s99,s100,s101,s102,s103,s104,s105,s106,s107,s108,s109,s110,s111,s112,s113,s114,s115,s116,s117,s118,s119,s120,s121,s122,s123,s124,s125,s126,s127,s128,s129,s130,s131,s132,s133,s134,s135,s136,s137,s138,s139,s140,s141,s142,s143,s144,s145,s146,s147,s148,s149,s150,s151,s152,s153,s154,s155,s156,s157,s158,s159,s160,s161,s162,s163,s164,s165,s166,s167] M := by
 rw [S87x1q]
 have i1 := r_is (hT.pre hM.pre) b 2 [42]
 rw [isR_star] at i1
 refine bndC_of i1 ?_
 cases ht : tokK (T.map Prod.fst) 2 b with
 | none =>
   rw [ht] at hR
   subst hR
   simp
   exact hk _ _ (.none hM.pre)
 | some s =>
   rw [ht] at hR
   simp only at hR
   obtain ⟨p,p1,p2,p3⟩ := tok_at ht
   obtain ⟨e1,e2,e3,f1,f2,f3,f4,f5⟩ := (hT.pre hM.pre).at p1
   rw [p3] at f5
   have hsl : s.length < 2 ^ 50 := by rw [← p3]; exact htx p (List.mem_of_getElem? p1)
   have hcat := fun x y => aBin_str (P := prog) (H := M) (T := 9) (x := x) (y := y) (a := less) (b := s) (by omega)
   simp [f1,f4,f5]
   refine bnd_of (hcat _ _) ?_
   have hpr := r_fparse M (s := less ++ s) (by simp; omega)
   rw [par_eq] at hpr
   refine bndC_of hpr ?_
   by_cases h0 : (parF (less ++ s)).2 = 0
   · rw [if_pos h0] at hR
     have hM2 := hM.put g.toNat w c.toNat (parF (less ++ s)).1
     have w1 : IntKind.i64.wrap ((b : Int) + 1) = ((b + 1 : Nat) : Int) := by rw [wrap_i64 (by omega) (by omega)]; omega
     have hbk := hM.blk
     have hll := hM.hl
     have hcc := hM.hc
     have ho := hM.sel.one
     have hc2 := hM2.hc
     have hnc : Nod.cells ⟨0,g,ms,w,c,(parF (less ++ s)).1,0,0⟩ sv = nodB g.toNat w c.toNat (parF (less ++ s)).1 sv := rfl
     generalize hM2e : M.set K.length (.cells (nodB g.toNat w c.toNat (parF (less ++ s)).1 sv) 50) = M2 at *
     simp only [nodB] at hc2 hM2e
     simp [parV,h0,hll,hbk,nodB,hM2e,hc2]
     have hlit := sliceLitA (c := nodB g.toNat w c.toNat (parF (less ++ s)).1 sv) (tbs22 M2 1 _) (by rfl) (by simp [nodB,ho]) (by simp)
     refine bndL_lit hlit ?_
     simp [w1]
     refine hk _ _ ⟨_,_,[⟨0,g,ms,w,c,(parF (less ++ s)).1,0,0⟩],rfl,hM2.pre.more _,⟨[nodB g.toNat w c.toNat (parF (less ++ s)).1 sv],?_,rfl,?_⟩,by rw [hR]; exact ⟨rfl,by omega⟩⟩
     · have := Gro.mk (K := M2 ++ [.cells (nodB g.toNat w c.toNat (parF (less ++ s)).1 sv) 50]) (lo := K.length) (z := 8) (T := 50) M2.length [nodB g.toNat w c.toNat (parF (less ++ s)).1 sv] (by obtain ⟨X,rfl⟩ := hM2.pre; simp) (by simp) (by simp) (by simp [nodB])
       simp at this
       exact this
     · intro i n hi
       cases i with
       | zero =>
         simp at hi
         subst hi
         exact ⟨sv,by rw [hnc]; rfl,(hM2.sel.weak (by omega)).app,hml⟩
       | succ i => simp at hi
   · rw [if_neg h0] at hR
     subst hR
     have h0' : ((parF (less ++ s)).2 != 0) = true := by simpa using h0
     simp [parV,h0']
     exact hk _ _ (.none hM.pre)
theorem one_some {ts : List Tok} {kk : Int} {l : List (List UInt8)} {a j : Nat} (hn : l.Nodup) (hj : j < l.length) (h : tokK ts kk a = some (l.getD j [])) : oneO ts kk l a = some (a + 1) ∧ idxS l (txtK ts kk a) = j := by
 have hg : l.getD j [] = l[j] := by rw [List.getD_eq_getElem?_getD,List.getElem?_eq_getElem hj]; rfl
 have hm : l.getD j [] ∈ l := by rw [hg]; exact List.getElem_mem hj
 unfold oneO txtK idxS
 rw [h]
 simp only [Option.bind_some,Option.getD_some]
 rw [if_pos hm,if_pos hm,hg]
 exact ⟨rfl,List.Nodup.idxOf_getElem hn j hj⟩
theorem one_none {ts : List Tok} {kk : Int} {l : List (List UInt8)} {a : Nat} (h : ∀ i,i < l.length → tokK ts kk a ≠ some (l.getD i [])) : oneO ts kk l a = none := by
 unfold oneO
 cases ht : tokK ts kk a with
 | none => rfl
 | some s =>
   simp only [Option.bind_some]
   rw [if_neg]
   intro hm
   obtain ⟨i,hi⟩ := List.getElem?_of_mem hm
   have hlt := (List.getElem?_eq_some_iff.1 hi).1
   exact h i hlt (by rw [ht,List.getD_eq_getElem?_getD,hi]; rfl)
theorem cmps_nd : cmps.Nodup := by decide
theorem aggs_nd : aggs.Nodup := by decide
set_option maxHeartbeats 1000000 in
theorem cmp_find {M : AHeap} {g : UInt8} {w : Int} {sv : Value} {ms : List Mat} {b : Nat} (hT : RTA K v T) (hM : CM K M g.toNat w 0 0 sv ms) (hml : ms.length ≤ 2 ^ 41) (htx : ∀ p ∈ T,p.1.text.length < 2 ^ 50) (hb : b < 2 ^ 49)
  (hR : R = if w = 0 then none else (oneO (T.map Prod.fst) 4 cmps b).bind fun b6 => valE (T.map Prod.fst) g ms w (UInt8.ofNat (idxS cmps (txtK (T.map Prod.fst) 4 b))) b6) (hk : ∀ u K',CmpP K R u K' → k u K') :
  ∀ (d j : Nat) (s2 s3 s4 s5 s8 s9 s10 s11 s12 s13 s14 s15 s16 s17 s18 s19 s20 s21 s22 s23 s24 s25 s26 s27 s28 s29 s30 s31 s32 s33 s34 s35 s36 s37 s38 s39 s40 s41 s42 s43 s44 s45 s46 s47 s48 s49 s50 s51 s52 s53 s54 s55 s56 s57 s58 s59 s60 s61 s62 s63 s64 s65 s66 s67 s68 s69 s70 s71 s72 s73 s74 s75 s76 s77 s78 s79 s80 s81 s82 s83 s84 s85 s86 s87 s88 s89 s90 s91 s92 s93 s94 s95 s96 s97 s98 s99 s100 s101 s102 s103 s104 s105 s106 s107 s108 s109 s110 s111 s112 s113 s114 s115 s116 s117 s118 s119 s120 s121 s122 s123 s124 s125 s126 s127 s128 s129 s130 s131 s132 s133 s134 s135 s136 s137 s138 s139 s140 s141 s142 s143 s144 s145 s146 s147 s148 s149 s150 s151 s152 s153 s154 s155 s156 s157 s158 s159 s160 s161 s162 s163 s164 s165 s166 s167 : Value),d + j = 6 → (∀ i,i < j → tokK (T.map Prod.fst) 4 b ≠ some (cmps.getD i [])) → L87x2 (d + 1) k [v,i64 b,s2,s3,s4,s5,.pointer (some ⟨K.length,0,some 8⟩),i64 j,s8,s9,s10,s11,s12,s13,s14,s15,s16,s17,s18,s19,s20,s21,s22,s23,s24,s25,s26,s27,s28,s29,s30,s31,s32,s33,s34,s35,s36,s37,s38,s39,s40,s41,s42,s43,s44,s45,s46,s47,s48,s49,s50,s51,s52,s53,s54,s55,s56,s57,s58,s59,s60,s61,s62,s63,s64,s65,s66,s67,s68,s69,s70,s71,s72,s73,s74,s75,s76,s77,s78,s79,s80,s81,s82,s83,s84,s85,s86,s87,s88,s89,s90,s91,s92,s93,s94,s95,s96,s97,s98,s99,s100,s101,s102,s103,s104,s105,s106,s107,s108,s109,s110,s111,s112,s113,s114,s115,s116,s117,s118,s119,s120,s121,s122,s123,s124,s125,s126,s127,s128,s129,s130,s131,s132,s133,s134,s135,s136,s137,s138,s139,s140,s141,s142,s143,s144,s145,s146,s147,s148,s149,s150,s151,s152,s153,s154,s155,s156,s157,s158,s159,s160,s161,s162,s163,s164,s165,s166,s167] M := by
 have hTM := hT.pre hM.pre
 have hll := hM.hl
 have hcc := hM.hc
 intro d
 induction d with
 | zero =>
   intro j s2 s3 s4 s5 s8 s9 s10 s11 s12 s13 s14 s15 s16 s17 s18 s19 s20 s21 s22 s23 s24 s25 s26 s27 s28 s29 s30 s31 s32 s33 s34 s35 s36 s37 s38 s39 s40 s41 s42 s43 s44 s45 s46 s47 s48 s49 s50 s51 s52 s53 s54 s55 s56 s57 s58 s59 s60 s61 s62 s63 s64 s65 s66 s67 s68 s69 s70 s71 s72 s73 s74 s75 s76 s77 s78 s79 s80 s81 s82 s83 s84 s85 s86 s87 s88 s89 s90 s91 s92 s93 s94 s95 s96 s97 s98 s99 s100 s101 s102 s103 s104 s105 s106 s107 s108 s109 s110 s111 s112 s113 s114 s115 s116 s117 s118 s119 s120 s121 s122 s123 s124 s125 s126 s127 s128 s129 s130 s131 s132 s133 s134 s135 s136 s137 s138 s139 s140 s141 s142 s143 s144 s145 s146 s147 s148 s149 s150 s151 s152 s153 s154 s155 s156 s157 s158 s159 s160 s161 s162 s163 s164 s165 s166 s167 hd hn
   obtain rfl : j = 6 := by omega
   have : R = none := by
    rw [hR,one_none (l := cmps) hn]
    split <;> rfl
   subst this
   rw [L87x2q]
   simp
   exact hk _ _ (.none hM.pre)
 | succ d ih =>
   intro j s2 s3 s4 s5 s8 s9 s10 s11 s12 s13 s14 s15 s16 s17 s18 s19 s20 s21 s22 s23 s24 s25 s26 s27 s28 s29 s30 s31 s32 s33 s34 s35 s36 s37 s38 s39 s40 s41 s42 s43 s44 s45 s46 s47 s48 s49 s50 s51 s52 s53 s54 s55 s56 s57 s58 s59 s60 s61 s62 s63 s64 s65 s66 s67 s68 s69 s70 s71 s72 s73 s74 s75 s76 s77 s78 s79 s80 s81 s82 s83 s84 s85 s86 s87 s88 s89 s90 s91 s92 s93 s94 s95 s96 s97 s98 s99 s100 s101 s102 s103 s104 s105 s106 s107 s108 s109 s110 s111 s112 s113 s114 s115 s116 s117 s118 s119 s120 s121 s122 s123 s124 s125 s126 s127 s128 s129 s130 s131 s132 s133 s134 s135 s136 s137 s138 s139 s140 s141 s142 s143 s144 s145 s146 s147 s148 s149 s150 s151 s152 s153 s154 s155 s156 s157 s158 s159 s160 s161 s162 s163 s164 s165 s166 s167 hd hn
   have hj : j < 6 := by omega
   have hjI : (j : Int) < 6 := by omega
   have hj6 : ((j : Int) == 6) = false := by rw [beq_eq_false_iff_ne]; omega
   have wj : IntKind.i64.wrap ((j : Int) + 1) = ((j + 1 : Nat) : Int) := by rw [wrap_i64 (by omega) (by omega)]; omega
   have wju : IntKind.u8.wrap (j : Int) = (j : Int) := by unfold IntKind.wrap; simp [IntKind.bits,IntKind.signed]; omega
   have w1 : IntKind.i64.wrap ((b : Int) + 1) = ((b + 1 : Nat) : Int) := by rw [wrap_i64 (by omega) (by omega)]; omega
   have w2 : IntKind.i64.wrap ((b : Int) + 1 + 1) = ((b + 2 : Nat) : Int) := by rw [wrap_i64 (by omega) (by omega)]; omega
   rw [L87x2q]
   have i1 := r_is hTM b 4 (cmps.getD j [])
   rw [isR_txt (cmps_star j hj)] at i1
   simp [hjI]
   refine bndG_t _ _ (r_compare _ hj) ?_
   refine bndG_t _ _ i1 ?_
   cases t1 : isT (T.map Prod.fst) b 4 (cmps.getD j []) with
   | false =>
     simp [wj]
     refine ih (j + 1) _ _ _ _ _ _ _ _ _ _ _ _ _ _ _ _ _ _ _ _ _ _ _ _ _ _ _ _ _ _ _ _ _ _ _ _ _ _ _ _ _ _ _ _ _ _ _ _ _ _ _ _ _ _ _ _ _ _ _ _ _ _ _ _ _ _ _ _ _ _ _ _ _ _ _ _ _ _ _ _ _ _ _ _ _ _ _ _ _ _ _ _ _ _ _ _ _ _ _ _ _ _ _ _ _ _ _ _ _ _ _ _ _ _ _ _ _ _ _ _ _ _ _ _ _ _ _ _ _ _ _ _ _ _ _ _ _ _ _ _ _ _ _ _ _ _ _ _ _ _ _ _ _ _ _ _ _ _ _ _ _ _ _ _ (by omega) (fun i hi => ?_)
     by_cases e : i = j
     · rw [e]; intro h; rw [(isT_tok _ _ _ _).2 h] at t1; cases t1
     · exact hn i (by omega)
   | true =>
     obtain ⟨o1,o2⟩ := one_some cmps_nd hj ((isT_tok _ _ _ _).1 t1)
     rw [o1,o2] at hR
     simp only [Option.bind_some] at hR
     have hcu : ((UInt8.ofNat j).toNat : Int) = j := by rw [UInt8.toNat_ofNat_of_lt' (by show j < 256; omega)]
     by_cases hw : w = 0
     · rw [if_pos hw] at hR
       subst hR
       subst hw
       simp [hj6,hll,hcc,nodB]
       exact hk _ _ (.none hM.pre)
     · rw [if_neg hw] at hR
       have hw' : (w == 0) = false := by simpa using hw
       have hM2 := hM.put g.toNat w (j : Int) 0
       generalize hM2e : M.set K.length (.cells (nodB g.toNat w j 0 sv) 50) = M2 at *
       simp only [nodB] at hM2e
       have i2 := r_is (hT.pre hM2.pre) (b + 1) 4 [45]
       rw [isR_txt (by decide)] at i2
       have hbk := hM.blk
       simp [hj6,hll,hcc,nodB,hw',hbk,wju,w1,hM2e]
       refine bndC_of i2 ?_
       rw [← hcu] at hM2
       cases t2 : isT (T.map Prod.fst) (b + 1) 4 [45] with
       | true =>
         simp only [kifB_true]
         simp [w2]
         refine cmp_end (b := b + 2) (less := [45]) hT hM2 hml htx (by omega) (by simp) ?_ hk _ _ _ _ _ _ _ _ _ _ _ _ _ _ _ _ _ _ _ _ _ _ _ _ _ _ _ _ _ _ _ _ _ _ _ _ _ _ _ _ _ _ _ _ _ _ _ _ _ _ _ _ _ _ _ _ _ _ _ _ _ _ _ _ _ _ _ _ _ _ _ _ _ _ _ _ _ _ _ _ _ _ _ _ _ _ _ _ _ _ _ _ _ _ _ _ _ _ _ _ _ _ _ _ _ _ _ _ _ _ _ _ _ _ _ _ _ _ _ _ _ _ _ _ _ _ _ _ _ _ _ _ _ _ _ _ _ _ _ _ _ _ _ _ _ _ _ _ _ _ _ _ _ _ _ _ _ _ _ _ _ _ _ _
         rw [hR]
         unfold valE valO valP takO
         rw [t2]
         simp only [if_true]
         cases tokK (T.map Prod.fst) 2 (b + 1 + 1) with
         | none => rfl
         | some s =>
           simp only [Option.bind_some]
           split <;> rfl
       | false =>
         simp only [kifB_false]
         refine cmp_end (b := b + 1) (less := []) hT hM2 hml htx (by omega) (by simp) ?_ hk _ _ _ _ _ _ _ _ _ _ _ _ _ _ _ _ _ _ _ _ _ _ _ _ _ _ _ _ _ _ _ _ _ _ _ _ _ _ _ _ _ _ _ _ _ _ _ _ _ _ _ _ _ _ _ _ _ _ _ _ _ _ _ _ _ _ _ _ _ _ _ _ _ _ _ _ _ _ _ _ _ _ _ _ _ _ _ _ _ _ _ _ _ _ _ _ _ _ _ _ _ _ _ _ _ _ _ _ _ _ _ _ _ _ _ _ _ _ _ _ _ _ _ _ _ _ _ _ _ _ _ _ _ _ _ _ _ _ _ _ _ _ _ _ _ _ _ _ _ _ _ _ _ _ _ _ _ _ _ _ _ _ _ _
         rw [hR]
         unfold valE valO valP takO
         rw [t2]
         simp only [Bool.false_eq_true,if_false]
         cases tokK (T.map Prod.fst) 2 (b + 1) with
         | none => rfl
         | some s =>
           simp only [Option.bind_some]
           split <;> rfl
set_option maxHeartbeats 1000000 in
theorem cmp_mid {M : AHeap} {g : UInt8} {sv : Value} {ms : List Mat} {b : Nat} (hT : RTA K v T) (hM : CM K M g.toNat 0 0 0 sv ms) (hml : ms.length ≤ 2 ^ 41) (hm0 : ∀ m ∈ ms,0 ≤ m.op ∧ m.name.length < 2 ^ 60 ∧ m.value.length < 2 ^ 60) (htx : ∀ p ∈ T,p.1.text.length < 2 ^ 50) (hb : b < 2 ^ 48)
  (hR : R = if mayMats ms = true then cmpE (T.map Prod.fst) g ms b else none) (hk : ∀ u K',CmpP K R u K' → k u K') (s2 s3 s4 s5 s7 s8 s9 s10 s11 s12 s13 s14 s15 s16 s17 s18 s19 s20 s21 s22 s23 s24 s25 s26 s27 s28 s29 s30 s31 s32 s33 s34 s35 s36 s37 s38 s39 s40 s41 s42 s43 s44 s45 s46 s47 s48 s49 s50 s51 s52 s53 s54 s55 s56 s57 s58 s59 s60 s61 s62 s63 s64 s65 s66 s67 s68 s69 s70 s71 s72 s73 s74 s75 s76 s77 s78 s79 s80 s81 s82 s83 s84 s85 s86 s87 s88 s89 s90 s91 s92 s93 s94 s95 s96 s97 s98 s99 s100 s101 s102 s103 s104 s105 s106 s107 s108 s109 s110 s111 s112 s113 s114 s115 s116 s117 s118 s119 s120 s121 s122 s123 s124 s125 s126 s127 s128 s129 s130 s131 s132 s133 s134 s135 s136 s137 s138 s139 s140 s141 s142 s143 s144 s145 s146 s147 s148 s149 s150 s151 s152 s153 s154 s155 s156 s157 s158 s159 s160 s161 s162 s163 s164 s165 s166 s167 : Value) :
  S87x0 k [v,i64 b,s2,s3,s4,s5,.pointer (some ⟨K.length,0,some 8⟩),s7,s8,s9,s10,s11,s12,s13,s14,s15,s16,s17,s18,s19,s20,s21,s22,s23,s24,s25,s26,s27,s28,s29,s30,s31,s32,s33,s34,s35,s36,s37,s38,s39,s40,s41,s42,s43,s44,s45,s46,s47,s48,s49,s50,s51,s52,s53,s54,s55,s56,s57,s58,s59,s60,s61,s62,s63,s64,s65,s66,s67,s68,s69,s70,s71,s72,s73,s74,s75,s76,s77,s78,s79,s80,s81,s82,s83,s84,s85,s86,s87,s88,s89,s90,s91,s92,s93,s94,s95,s96,s97,s98,s99,s100,s101,s102,s103,s104,s105,s106,s107,s108,s109,s110,s111,s112,s113,s114,s115,s116,s117,s118,s119,s120,s121,s122,s123,s124,s125,s126,s127,s128,s129,s130,s131,s132,s133,s134,s135,s136,s137,s138,s139,s140,s141,s142,s143,s144,s145,s146,s147,s148,s149,s150,s151,s152,s153,s154,s155,s156,s157,s158,s159,s160,s161,s162,s163,s164,s165,s166,s167] M := by
 have hTM := hT.pre hM.pre
 have hll := hM.hl
 have hcc := hM.hc
 have w1 : IntKind.i64.wrap ((b : Int) + 1) = ((b + 1 : Nat) : Int) := by rw [wrap_i64 (by omega) (by omega)]; omega
 have w2 : IntKind.i64.wrap ((b : Int) + 2) = ((b + 2 : Nat) : Int) := by rw [wrap_i64 (by omega) (by omega)]; omega
 have w3 : IntKind.i64.wrap ((b : Int) + 3) = ((b + 3 : Nat) : Int) := by rw [wrap_i64 (by omega) (by omega)]; omega
 have w4 : IntKind.i64.wrap ((b : Int) + 4) = ((b + 4 : Nat) : Int) := by rw [wrap_i64 (by omega) (by omega)]; omega
 have i1 := r_is hTM b 4 [91]
 have i2 := r_is hTM (b + 1) 2 [42]
 have i3 := r_is hTM (b + 2) 4 [93]
 have i4 := r_is hTM (b + 3) 4 [41]
 rw [isR_txt (by decide)] at i1 i3 i4
 rw [isR_star] at i2
 rw [S87x0q]
 have fail : R = none → k (.tuple #[.slice none 0 0,i64 (-1)]) M := fun h => hk _ _ (by rw [h]; exact .none hM.pre)
 simp [hll,hcc,nodB]
 refine bndC_of (r_mats hM.sel.arr (by omega) hm0) ?_
 cases t0 : mayMats ms with
 | false =>
   rw [t0] at hR
   simp
   exact fail hR
 | true =>
   rw [t0,if_pos rfl] at hR
   simp
   refine bndG_f _ _ i1 ?_
   cases t1 : isT (T.map Prod.fst) b 4 [91] with
   | false =>
     simp
     exact fail (by rw [hR]; unfold cmpE signO; rw [t1]; rfl)
   | true =>
     simp [w1]
     refine bndG_f _ _ i2 ?_
     cases t2 : tokK (T.map Prod.fst) 2 (b + 1) with
     | none =>
       simp
       exact fail (by rw [hR]; unfold cmpE signO winO; rw [t1]; simp [t2])
     | some s =>
       simp [w2]
       refine bndG_f _ _ i3 ?_
       cases t3 : isT (T.map Prod.fst) (b + 2) 4 [93] with
       | false =>
         simp
         refine fail ?_
         rw [hR]
         unfold cmpE signO winO
         rw [t1]
         simp only [if_true,Option.bind_some,t2]
         cases atoF s with
         | none => rfl
         | some n =>
           simp only [Option.bind_some]
           split
           · simp [t3]
           · rfl
       | true =>
         simp [w3]
         refine bndG_f _ _ i4 ?_
         cases t4 : isT (T.map Prod.fst) (b + 3) 4 [41] with
         | false =>
           simp
           refine fail ?_
           rw [hR]
           unfold cmpE signO winO
           rw [t1]
           simp only [if_true,Option.bind_some,t2]
           cases atoF s with
           | none => rfl
           | some n =>
             simp only [Option.bind_some]
             split
             · simp [t3,t4]
             · rfl
         | true =>
           obtain ⟨p,p1,p2,p3⟩ := tok_at t2
           obtain ⟨e1,e2,e3,f1,f2,f3,f4,f5⟩ := hTM.at p1
           rw [p3] at f5
           have hsl : s.length < 2 ^ 50 := by rw [← p3]; exact htx p (List.mem_of_getElem? p1)
           simp only [Int.natCast_add,Int.cast_ofNat_Int] at f1
           have hM2 := hM.put g.toNat (winF 0 s) 0 0
           generalize hM2e : M.set K.length (.cells (nodB g.toNat (winF 0 s) 0 0 sv) 50) = M2 at *
           simp only [nodB] at hM2e
           have hbk := hM.blk
           simp [w1,f1,f4,f5]
           refine bndC_of (r_window M (by omega)) ?_
           simp [hll,hbk,nodB,hM2e,w4]
           refine ⟨6 + 1,cmp_find (b := b + 4) hT hM2 hml htx (by omega) ?_ hk 6 0 _ _ _ _ _ _ _ _ _ _ _ _ _ _ _ _ _ _ _ _ _ _ _ _ _ _ _ _ _ _ _ _ _ _ _ _ _ _ _ _ _ _ _ _ _ _ _ _ _ _ _ _ _ _ _ _ _ _ _ _ _ _ _ _ _ _ _ _ _ _ _ _ _ _ _ _ _ _ _ _ _ _ _ _ _ _ _ _ _ _ _ _ _ _ _ _ _ _ _ _ _ _ _ _ _ _ _ _ _ _ _ _ _ _ _ _ _ _ _ _ _ _ _ _ _ _ _ _ _ _ _ _ _ _ _ _ _ _ _ _ _ _ _ _ _ _ _ _ _ _ _ _ _ _ _ _ _ _ _ _ _ _ _ _ rfl (fun i hi => by omega)⟩
           rw [hR]
           unfold cmpE signO winO
           rw [t1]
           simp only [if_true,Option.bind_some,t2]
           rcases win_ato s with ⟨q0,n,q1,q2,q3,q4⟩ | ⟨q0,q1⟩
           · rw [q1,if_neg q0,q4]
             simp only [Option.bind_some]
             rw [if_pos ⟨q2,q3⟩]
             simp [t3,t4]
           · rw [if_pos q0]
             cases hat : atoF s with
             | none => rfl
             | some n =>
               simp only [Option.bind_some]
               rw [if_neg (q1 n hat)]
               rfl
end
end Go.Vi
