/- The abstract heap: what a value and a world say of an abstract value and heap; new blocks, stores, growth. The abstract heap: a new block, a store, growth, what others do. The abstract heap: a row that is written on, in its block or in a new one. Operands, addresses, loads, stores, new variables: the abstract step is the machine's. Stores, new variables, addresses of parts, parts: the abstract step is the machine's. Pure operations; slices; literals; len: the abstract step is the machine's. Conversions, slices of slices and strings, literals, len: the abstract step is the machine's. Slices of slices and strings, append: the abstract step is the machine's. append: the abstract step is the machine's. Literals, make, maps, len, parts of tuples: the abstract step is the machine's. Maps: the abstract step is the machine's. copy, cap, unsafe.SliceData, unsafe.String: the abstract step is the machine's. One operation that calls no function: the abstract step is the machine's. What a call comes to; one operation, in a frame or in a round of a range over a function. Functions: the abstract call is the machine's. Regions that the machine may order as it likes: the text's order tells them all. Regions that the machine may order as it likes: the text's order, with each pure operation told of the memory that it may see at the earliest. Regions that the machine may order as it likes: the proof. What code comes to, as a proposition: the symbolic run. Calls are told by what is proved of them. -/
import Derived.Calls
import Derived.Orders
import Derived.Below
import Derived.Laws.Cells
import Derived.Laws.World
import Derived.Laws.CopyRow
import Derived.Laws.Tables
import Derived.Tactics
import Derived.Laws.IdiomCopy
import Derived.Lib.ConvBytes
import Derived.Laws.BytesArg
import Derived.Lib.UnsafeStr
import Derived.Laws.AppendOwn
import Derived.RangeFuncIn
import Derived.RangeFuncRecord
import Derived.OrdersIn
namespace Go.Vi
open Go.RowKit
inductive LRec where
 | run (sl:List Value) (ps:Array Tmp) (assign body:Code) (st:LoopState) (pending:Option Code)
 | iter (m:Value) (n:Nat) (seen:List Nat)
 | blk
 | gone
inductive AObj where
 | cells (cs:List Value) (T:TypeId)
 | ro (cs:List Value)
 | map (es:List (Value × Value))
 | loop (r:LRec)
 | gl (g:Nat) (cs:List Value)
 | dead
abbrev AHeap:=List AObj
def AObj.len:AObj→Option Nat
 | .cells cs _=>some cs.length
 | .ro cs=>some cs.length
 | .gl _ cs=>some cs.length
 | _=>none
def AObj.owned:AObj→Bool
 | .cells .. | .map _ | .loop _=>true
 | _=>false
def AObj.live:AObj→Bool
 | .dead=>false
 | _=>true
def hlen (H:AHeap) (b:Nat):Option Nat:=(H[b]?).bind AObj.len
def isLit:Value→Bool
 | .bool _ | .int .. | .float .. | .complex .. | .string _ | .pointer none | .slice none _ _ | .map none | .chan none | .nilFunc | .nilIface=>true
 | _=>false
structure Loc where
 blk:Nat
 base:Nat
 cap:Nat
abbrev Ren:=Nat→Loc
def hcells (H:AHeap) (b:Nat):Option (List Value) :=
 match H[b]? with
 | some (.cells cs _)=>some cs
 | some (.ro cs)=>some cs
 | some (.gl _ cs)=>some cs
 | _=>none
def AObj.rcells:AObj→Option (List Value)
 | .cells cs _=>some cs
 | .ro cs=>some cs
 | .gl _ cs=>some cs
 | _=>none
theorem hcells_eq (H:AHeap) (b:Nat):hcells H b=(H[b]?).bind AObj.rcells:=by
 unfold hcells
 cases H[b]? with
 | none=>rfl
 | some o=>cases o<;>rfl
def One (l:List Value):Prop:=∀ v∈l,v.oneCell'=true
def HOk (H:AHeap):Prop:=∀ b cs,hcells H b=some cs→One cs
theorem HOk.push {H:AHeap} (h:HOk H) (o:AObj) (ho:∀ cs,o.rcells=some cs→One cs):HOk (H++[o]):=by
 intro b cs hb
 rw [hcells_eq] at hb
 rcases Nat.lt_or_ge b H.length with hl | hl
 · rw [List.getElem?_append_left hl,← hcells_eq] at hb
   exact h b cs hb
 · rw [List.getElem?_append_right hl] at hb
   cases hq:b-H.length with
   | zero=>simp [hq] at hb;exact ho cs hb
   | succ n=>simp [hq] at hb
theorem HOk.set {H:AHeap} (h:HOk H) (i:Nat) (o:AObj) (ho:∀ cs,o.rcells=some cs→One cs):HOk (H.set i o):=by
 intro b cs hb
 rw [hcells_eq,List.getElem?_set] at hb
 split at hb
 · split at hb
   · exact ho cs hb
   · cases hb
 · rw [← hcells_eq] at hb;exact h b cs hb
abbrev unkV:Value:=.chan (some 0)
abbrev iterV (b:Nat):Value:=.chan (some (b+1))
inductive VRel (s:Ren) (H:AHeap):Value→Value→Prop
 | lit (v:Value) (h:isLit v=true):VRel s H v v
 | unk (v':Value) (h:v'.oneCell'=true):VRel s H unkV v'
 | ptr (b o m:Nat) (p:Addr) (hb:b < H.length)
   (h:∀ L,hlen H b=some L→m≤L∧(m=L→p=⟨(s b).blk,(s b).base+o,none⟩)):VRel s H (.pointer (some ⟨b,o,some m⟩)) (.pointer (some p))
 | slice (b o m n c:Nat) (a':Addr) (c':Nat) (hb:b < H.length)
   (h:∀ L,hlen H b=some L→m≤L∧(m=L→(0 < c'→a'=⟨(s b).blk,(s b).base+o,none⟩)∧n≤c∧c≤c'∧(∀ cs T,H[b]?=some (.cells cs T)→(c=0→c'=0)∧∀ sz,o+c*sz=L→o+c'*sz≤(s b).cap))) :
   VRel s H (.slice (some ⟨b,o,some m⟩) n c) (.slice (some a') n c')
 | glob (g o:Nat):VRel s H (.pointer (some ⟨g,o,none⟩)) (.pointer (some ⟨g,o,none⟩))
 | map (b r:Nat) (hb:b < H.length) (h:∀ es,H[b]?=some (.map es)→r=(s b).blk):VRel s H (.map (some b)) (.map (some r))
 | yield (b r:Nat) (hb:b < H.length) (h:∀ r0,H[b]?=some (.loop r0)→r=(s b).blk):VRel s H (.func (.yield b) #[] #[]) (.func (.yield r) #[] #[])
 | iter (b r:Nat) (hb:b < H.length) (h:∀ r0,H[b]?=some (.loop r0)→r=(s b).blk):VRel s H (iterV b) (.pointer (some ⟨r,0,none⟩))
 | func (fn:Fn) (f c f' c':Array Value) (hy:∀ l,fn≠.yield l) (hf:f.size=f'.size) (hc:c.size=c'.size)
   (h1:∀ (i:Nat) x y,f[i]?=some x→f'[i]?=some y→VRel s H x y) (h2:∀ (i:Nat) x y,c[i]?=some x→c'[i]?=some y→VRel s H x y):VRel s H (.func fn f c) (.func fn f' c')
 | iface (t:TypeId) (v v':Value) (h:VRel s H v v'):VRel s H (.iface t v) (.iface t v')
 | agg (a a':Array Value) (hs:a.size=a'.size) (h:∀ (i:Nat) x y,a[i]?=some x→a'[i]?=some y→VRel s H x y):VRel s H (.agg a) (.agg a')
 | tuple (a a':Array Value) (hs:a.size=a'.size) (h:∀ (i:Nat) x y,a[i]?=some x→a'[i]?=some y→VRel s H x y):VRel s H (.tuple a) (.tuple a')
def Ext (s:Ren) (H:AHeap) (s':Ren) (H':AHeap):Prop :=
 H.length≤H'.length∧∀ b,b < H.length →
  (∀ L',hlen H' b=some L'→∃ L,hlen H b=some L∧L≤L'∧(L=L'→s' b=s b)) ∧
  (∀ es',H'[b]?=some (.map es')→∃ es,H[b]?=some (.map es)∧s' b=s b) ∧
  (∀ cs' T,H'[b]?=some (.cells cs' T)→∃ cs,H[b]?=some (.cells cs T)) ∧
  (∀ r',H'[b]?=some (.loop r')→∃ r,H[b]?=some (.loop r)∧s' b=s b)
theorem Ext.refl (s:Ren) (H:AHeap):Ext s H s H:=⟨Nat.le_refl _,fun _b _=>⟨fun L h=>⟨L,h,Nat.le_refl _,fun _=>rfl⟩,fun es h=>⟨es,h,rfl⟩,fun cs _ h=>⟨cs,h⟩,fun r h=>⟨r,h,rfl⟩⟩⟩
theorem Ext.trans {s H s1 H1 s2 H2} (h:Ext s H s1 H1) (k:Ext s1 H1 s2 H2):Ext s H s2 H2:=by
 refine ⟨Nat.le_trans h.1 k.1,fun b hb=>⟨fun L2 h2=>?_,fun es2 h2=>?_,fun cs2 T h2=>?_,fun r2 h2=>?_⟩⟩
 · obtain ⟨L1,e1,l1,q1⟩:=(k.2 b (by have:=h.1;omega)).1 L2 h2
   obtain ⟨L,e,l,q⟩:=(h.2 b hb).1 L1 e1
   exact ⟨L,e,by omega,fun he=>by rw [q1 (by omega),q (by omega)]⟩
 · obtain ⟨es1,e1,q1⟩:=(k.2 b (by have:=h.1;omega)).2.1 es2 h2
   obtain ⟨es,e,q⟩:=(h.2 b hb).2.1 es1 e1
   exact ⟨es,e,by rw [q1,q]⟩
 · obtain ⟨cs1,e1⟩:=(k.2 b (by have:=h.1;omega)).2.2.1 cs2 T h2
   exact (h.2 b hb).2.2.1 cs1 T e1
 · obtain ⟨r1,e1,q1⟩:=(k.2 b (by have:=h.1;omega)).2.2.2 r2 h2
   obtain ⟨r,e,q⟩:=(h.2 b hb).2.2.2 r1 e1
   exact ⟨r,e,by rw [q1,q]⟩
theorem VRel.mono {s H s' H' v v'} (h:VRel s H v v') (e:Ext s H s' H'):VRel s' H' v v':=by
 induction h with
 | lit v h=>exact .lit v h
 | unk v h=>exact .unk v h
 | ptr b o m p hb h =>
   refine .ptr b o m p (Nat.lt_of_lt_of_le hb e.1) fun L' hL'=>?_
   obtain ⟨L,hL,hle,hs⟩:=(e.2 b hb).1 L' hL'
   obtain ⟨h1,h2⟩:=h L hL
   exact ⟨by omega, fun he => by obtain rfl : L = L' := by omega
                                 rw [hs rfl];exact h2 he⟩
 | slice b o m n c a' c' hb h =>
   refine .slice b o m n c a' c' (Nat.lt_of_lt_of_le hb e.1) fun L' hL'=>?_
   obtain ⟨L,hL,hle,hs⟩:=(e.2 b hb).1 L' hL'
   obtain ⟨h1,h2⟩:=h L hL
   refine ⟨by omega,fun he=>?_⟩
   obtain rfl:L=L':=by omega
   rw [hs rfl]
   obtain ⟨g1,g2,g3,g4⟩:=h2 he
   refine ⟨g1,g2,g3,fun cs T hc=>?_⟩
   obtain ⟨cs0,hc0⟩:=(e.2 b hb).2.2.1 cs T hc
   exact g4 cs0 T hc0
 | glob g o=>exact .glob g o
 | map b r hb h =>
   refine .map b r (Nat.lt_of_lt_of_le hb e.1) fun es' hes=>?_
   obtain ⟨es,h1,h2⟩:=(e.2 b hb).2.1 es' hes
   rw [h2];exact h es h1
 | yield b r hb h =>
   refine .yield b r (Nat.lt_of_lt_of_le hb e.1) fun r' hr=>?_
   obtain ⟨r0,h1,h2⟩:=(e.2 b hb).2.2.2 r' hr
   rw [h2];exact h r0 h1
 | iter b r hb h =>
   refine .iter b r (Nat.lt_of_lt_of_le hb e.1) fun r' hr=>?_
   obtain ⟨r0,h1,h2⟩:=(e.2 b hb).2.2.2 r' hr
   rw [h2];exact h r0 h1
 | func fn f c f' c' hy hf hc _ _ ih1 ih2=>exact .func fn f c f' c' hy hf hc ih1 ih2
 | iface t v v' _ ih=>exact .iface t v v' ih
 | agg a a' hs _ ih=>exact .agg a a' hs ih
 | tuple a a' hs _ ih=>exact .tuple a a' hs ih
def VRelL (s:Ren) (H:AHeap) (l l':List Value):Prop:=l.length=l'.length∧∀ (i:Nat) x y,l[i]?=some x→l'[i]?=some y→VRel s H x y
theorem VRelL.mono {s H s' H' l l'} (h:VRelL s H l l') (e:Ext s H s' H'):VRelL s' H' l l':=⟨h.1,fun i x y hx hy=>(h.2 i x y hx hy).mono e⟩
theorem VRelL.nil (s:Ren) (H:AHeap):VRelL s H [] []:=⟨rfl,fun i x y h=>by simp at h⟩
theorem VRelL.cons {s H x y l l'} (h:VRel s H x y) (t:VRelL s H l l'):VRelL s H (x :: l) (y :: l') :=
 ⟨by simp [t.1],fun i a b ha hb=>by
  cases i with
  | zero=>simp at ha hb;subst ha hb;exact h
  | succ i=>exact t.2 i a b (by simpa using ha) (by simpa using hb)⟩
theorem VRelL.get {s H l l'} (h:VRelL s H l l') {i:Nat} {x:Value} (hx:l[i]?=some x):∃ y,l'[i]?=some y∧VRel s H x y:=by
 obtain ⟨hi,rfl⟩:=List.getElem?_eq_some_iff.1 hx
 have hi':i < l'.length:=h.1 ▸ hi
 exact ⟨l'[i],List.getElem?_eq_getElem hi',h.2 i _ _ hx (List.getElem?_eq_getElem hi')⟩
theorem VRelL.append {s H a a' b b'} (h:VRelL s H a a') (k:VRelL s H b b'):VRelL s H (a++b) (a'++b'):=by
 refine ⟨by simp [h.1,k.1],fun i x y hx hy=>?_⟩
 rcases Nat.lt_or_ge i a.length with hi | hi
 · rw [List.getElem?_append_left hi] at hx
   rw [List.getElem?_append_left (h.1 ▸ hi)] at hy
   exact h.2 i x y hx hy
 · rw [List.getElem?_append_right hi] at hx
   rw [List.getElem?_append_right (h.1 ▸ hi),← h.1] at hy
   exact k.2 _ x y hx hy
theorem VRelL.set {s H a a' x y} (h:VRelL s H a a') (hx:VRel s H x y) (n:Nat):VRelL s H (a.set n x) (a'.set n y):=by
 refine ⟨by simp [h.1],fun i u v hu hv=>?_⟩
 by_cases hn:n=i
 · subst hn
   by_cases hl:n < a.length
   · rw [List.getElem?_set_self hl] at hu
     rw [List.getElem?_set_self (h.1 ▸ hl)] at hv
     simp at hu hv;subst hu hv;exact hx
   · simp [hl] at hu
 · rw [List.getElem?_set_ne hn] at hu hv
   exact h.2 i u v hu hv
def LRel (s:Ren) (H:AHeap):LRec→Obj→Prop
 | .blk,ob=>ob=.deferred (some [])
 | .gone,_=>True
 | .iter m n seen,ob=>∃ m' a,ob=.mapIter m' n a n∧a.toList=seen∧VRel s H m (.map m')
 | .run sl ps assign body st pe,ob=>∃ fn tmps d,ob=.loop { state:=st,pending:=pe,fn:=fn,tmps:=tmps,params:=ps,assign:=assign,body:=body,defers:=d }∧VRelL s H sl tmps.toList
theorem LRel.mono {s H s' H' r ob} (h:LRel s H r ob) (e:Ext s H s' H'):LRel s' H' r ob:=by
 cases r with
 | blk=>exact h
 | gone=>trivial
 | iter m n seen=>obtain ⟨m2,a,h1,h2,h3⟩:=h;exact ⟨m2,a,h1,h2,h3.mono e⟩
 | run sl ps assign body st pe=>obtain ⟨fn,tmps,d,h1,h2⟩:=h;exact ⟨fn,tmps,d,h1,h2.mono e⟩
def FrOk (n:Nat) (fr:Nat × Nat):Prop:=∀ j,j < n→(decide (fr.1≤j) && decide (j < fr.2))=false
theorem frOk0 {n:Nat}:FrOk n (0,0):=fun j _=>by simp
def ORel (B:Nat) (s:Ren) (H:AHeap) (w:World) (b:Nat):AObj→Prop
 | .cells cs T=>(s b).base=0∧B≤(s b).blk∧∃ arr fr,FrOk arr.size fr∧w.heap[(s b).blk]?=some (.cells arr T fr)∧arr.size=(s b).cap∧cs.length≤arr.size∧∀ (j:Nat) v,cs[j]?=some v→∃ v',arr[j]?=some v'∧VRel s H v v'
 | .ro cs=>∀ (j:Nat) v,cs[j]?=some v→∃ v',w.cell? ⟨(s b).blk,(s b).base+j,none⟩=some v'∧VRel s H v v'
 | .map es=>B≤(s b).blk∧∃ ces clock,w.heap[(s b).blk]?=some (.map ces clock)∧ces.size=es.length∧clock=es.length∧∀ (j:Nat) (k x:Value) (e:MapEntry),es[j]?=some (k,x)→ces[j]?=some e→e.key=k∧isLit k=true∧VRel s H x e.val∧e.born=j
 | .loop r=>B≤(s b).blk∧∃ ob,w.heap[(s b).blk]?=some ob∧LRel s H r ob
 | .gl g cs=>(s b).blk=g∧(s b).base=0∧g < w.heap.size∧∀ (j:Nat) v,cs[j]?=some v→∃ v',w.cell? ⟨g,j,none⟩=some v'∧VRel s H v v'
 | .dead=>True
structure HRel (B:Nat) (s:Ren) (H:AHeap) (w:World):Prop where
 obj:∀ (b:Nat) o,H[b]?=some o→ORel B s H w b o
 inj:∀ (b b':Nat) o o',H[b]?=some o→H[b']?=some o'→b≠b'→o.owned=true→o'.live=true→(s b).blk≠(s b').blk∨(∃ cs,o'=.ro cs∧cs=[])
theorem cell_of_heap {w:World} {b:Nat} {arr:Array Value} {T:TypeId} {fr:Nat × Nat} (h:w.heap[b]?=some (.cells arr T fr)) (j:Nat):w.cell? ⟨b,j,none⟩=arr[j]?:=by
 simp [World.cell?,h]
theorem cell_congr {w w':World} {b:Nat} (h:w'.heap[b]?=w.heap[b]?) (j:Nat):w'.cell? ⟨b,j,none⟩=w.cell? ⟨b,j,none⟩:=by
 simp [World.cell?,h]
theorem ORel.keep {B s H s' H' w w' b o} (h:ORel B s H w b o) (e:Ext s H s' H') (hs:o.live=true→s' b=s b)
  (hw:o.live=true→(∀ cs,o=.ro cs→cs≠[])→w'.heap[(s b).blk]?=w.heap[(s b).blk]?):ORel B s' H' w' b o:=by
 cases o with
 | cells cs T =>
   obtain ⟨h1,h2,arr,fr,hf,h3,hk,h4,h5⟩:=h
   rw [ORel,hs rfl]
   refine ⟨h1,h2,arr,fr,hf,(hw rfl (by simp)).trans h3,hk,h4,fun j v hj=>?_⟩
   obtain ⟨v',h6,h7⟩:=h5 j v hj
   exact ⟨v',h6,h7.mono e⟩
 | ro cs =>
   intro j v hj
   obtain ⟨v',h6,h7⟩:=h j v hj
   refine ⟨v',?_,h7.mono e⟩
   rw [hs rfl,cell_congr (hw rfl (by rintro cs' ⟨rfl⟩;rintro rfl;simp at hj))]
   exact h6
 | map es =>
   obtain ⟨h2,arr,c,h3,h4,hc,h5⟩:=h
   rw [ORel,hs rfl]
   refine ⟨h2,arr,c,(hw rfl (by simp)).trans h3,h4,hc,fun j k x en hj he=>?_⟩
   obtain ⟨h6,h7,h8,h9⟩:=h5 j k x en hj he
   exact ⟨h6,h7,h8.mono e,h9⟩
 | loop r =>
   obtain ⟨h2,ob,h3,h4⟩:=h
   rw [ORel,hs rfl]
   exact ⟨h2,ob,(hw rfl (by simp)).trans h3,h4.mono e⟩
 | gl g cs =>
   obtain ⟨h1,hb,h0,h2⟩:=h
   have hh:=hw rfl (by simp)
   rw [h1] at hh
   rw [ORel,hs rfl]
   refine ⟨h1,hb,?_,fun j v hj=>?_⟩
   · rw [Array.getElem?_eq_getElem h0] at hh
     exact (Array.getElem?_eq_some_iff.1 hh).1
   · obtain ⟨v',h6,h7⟩:=h2 j v hj
     refine ⟨v',?_,h7.mono e⟩
     rw [cell_congr hh]
     exact h6
 | dead=>trivial
end Go.Vi
namespace Go.Vi
open Go.RowKit
def upd (s:Ren) (b:Nat) (p:Loc):Ren:=fun i=>if i=b then p else s i
theorem upd_self (s:Ren) (b:Nat) (p):upd s b p b=p:=by simp [upd]
theorem upd_ne (s:Ren) {b i:Nat} (p) (h:i≠b):upd s b p i=s i:=by simp [upd,h]
theorem hlen_append {H:AHeap} {o:AObj} {b:Nat} (h:b < H.length):hlen (H++[o]) b=hlen H b:=by
 simp [hlen,List.getElem?_append_left h]
theorem getElem_append_old {H:AHeap} {o x:AObj} {b:Nat} (h:(H++[o])[b]?=some x):(b < H.length∧H[b]?=some x)∨(b=H.length∧x=o):=by
 rcases Nat.lt_or_ge b H.length with hb | hb
 · exact .inl ⟨hb,by rwa [List.getElem?_append_left hb] at h⟩
 · rw [List.getElem?_append_right hb] at h
   obtain ⟨h1,h2⟩:=List.getElem?_eq_some_iff.1 h
   simp at h1
   exact .inr ⟨by omega,by simpa using h2.symm⟩
theorem Ext.push (s:Ren) (H:AHeap) (o:AObj) (p):Ext s H (upd s H.length p) (H++[o]) :=
 ⟨by simp,fun b hb=>⟨fun L' h=>⟨L',by rwa [hlen_append hb] at h,Nat.le_refl _,fun _=>upd_ne _ _ (by omega)⟩,
  fun es h=>⟨es,by rwa [List.getElem?_append_left hb] at h,upd_ne _ _ (by omega)⟩,fun cs _ h=>⟨cs,by rwa [List.getElem?_append_left hb] at h⟩,fun r h=>⟨r,by rwa [List.getElem?_append_left hb] at h,upd_ne _ _ (by omega)⟩⟩⟩
structure WRel (w0:World) (s:Ren) (H:AHeap) (w:World):Prop where
 h:HRel w0.heap.size s H w
 b:Below w0.heap.size w0 w
 o:HOk H
theorem WRel.size {w0 s H w} (h:WRel w0 s H w):w0.heap.size≤w.heap.size:=h.b.size
theorem ORel.lt {B s H w b o} (h:ORel B s H w b o) (hl:o.live=true) (hr:∀ cs,o=.ro cs→cs≠[]):(s b).blk < w.heap.size:=by
 cases o with
 | cells cs T=>obtain ⟨_,_,arr,_,_,h3,_⟩:=h;exact (Array.getElem?_eq_some_iff.1 h3).1
 | map es=>obtain ⟨_,arr,c,h3,_⟩:=h;exact (Array.getElem?_eq_some_iff.1 h3).1
 | loop r=>obtain ⟨_,ob,h3,_⟩:=h;exact (Array.getElem?_eq_some_iff.1 h3).1
 | gl g cs=>obtain ⟨h1,_,h2,_⟩:=h;rw [h1];exact h2
 | dead=>cases hl
 | ro cs =>
   cases cs with
   | nil=>exact absurd rfl (hr [] rfl)
   | cons x t =>
     obtain ⟨v',h1,_⟩:=h 0 x rfl
     exact World.block_lt_of_cell? _ _ h1
theorem HRel.push {B s H w} (h:HRel B s H w) (o:AObj) (ob:Obj) (K:Nat) (_hB:B≤w.heap.size)
  (ho:ORel B (upd s H.length ⟨w.heap.size,0,K⟩) (H++[o]) (w.alloc ob) H.length o) :
  HRel B (upd s H.length ⟨w.heap.size,0,K⟩) (H++[o]) (w.alloc ob):=by
 constructor
 · intro b x hx
   rcases getElem_append_old hx with ⟨hb,hx'⟩ | ⟨rfl,rfl⟩
   · exact (h.obj b x hx').keep (Ext.push _ _ _ _) (fun _=>upd_ne _ _ (by omega)) (fun hl hr=>Below.heap_alloc _ _ _ ((h.obj b x hx').lt hl hr))
   · exact ho
 · intro b b' x x' hx hx' hne ho1 hl1
   rcases getElem_append_old hx with ⟨hb,hx1⟩ | ⟨rfl,rfl⟩
   · rw [upd_ne _ _ (by omega)]
     rcases getElem_append_old hx' with ⟨hb',hx2⟩ | ⟨rfl,rfl⟩
     · rw [upd_ne _ _ (by omega)]
       exact h.inj b b' x x' hx1 hx2 hne ho1 hl1
     · rw [upd_self]
       have:=(h.obj b x hx1).lt (by cases x<;>simp_all [AObj.owned,AObj.live]) (by rintro cs rfl;cases ho1)
       exact .inl (Nat.ne_of_lt this)
   · rw [upd_self]
     rcases getElem_append_old hx' with ⟨hb',hx2⟩ | ⟨rfl,rfl⟩
     · rw [upd_ne _ _ (by omega)]
       by_cases hr:∃ cs,x'=.ro cs∧cs=[]
       · exact .inr hr
       · have:=(h.obj b' x' hx2).lt hl1 (fun cs he hc=>hr ⟨cs,he,hc⟩)
         exact .inl (Nat.ne_of_gt this)
     · exact absurd rfl hne
theorem alloc_heap (w:World) (o:Obj):(w.alloc o).heap[w.heap.size]?=some o:=by
 show (w.heap.push o)[w.heap.size]?=some o
 simp
theorem WRel.alloc {w0 s H w} (h:WRel w0 s H w) (cs cs':List Value) (T:TypeId) (hv:VRelL s H cs cs') (ho:One cs) :
  WRel w0 (upd s H.length ⟨w.heap.size,0,cs.length⟩) (H++[.cells cs T]) (w.alloc (.cells cs'.toArray T)):=by
 refine ⟨h.h.push _ _ _ h.size ?_,h.b.alloc h.size _,h.o.push _ (by rintro _ ⟨rfl⟩;exact ho)⟩
 have e:=Ext.push s H (.cells cs T) ⟨w.heap.size,0,cs.length⟩
 refine ⟨by rw [upd_self],by rw [upd_self];exact h.size,cs'.toArray,(0,0),frOk0,by rw [upd_self];exact alloc_heap _ _,by rw [upd_self];simp [hv.1],by simp [hv.1],fun j v hj=>?_⟩
 obtain ⟨y,h1,h2⟩:=hv.get hj
 exact ⟨y,by simpa using h1,h2.mono e⟩
theorem WRel.allocBig {w0 s H w} (h:WRel w0 s H w) (cs:List Value) (arr:Array Value) (T:TypeId) (hl:cs.length≤arr.size)
  (hv:∀ (j:Nat) v,cs[j]?=some v→∃ v',arr[j]?=some v'∧VRel s H v v') (ho:One cs) :
  WRel w0 (upd s H.length ⟨w.heap.size,0,arr.size⟩) (H++[.cells cs T]) (w.alloc (.cells arr T)):=by
 refine ⟨h.h.push _ _ _ h.size ?_,h.b.alloc h.size _,h.o.push _ (by rintro _ ⟨rfl⟩;exact ho)⟩
 have e:=Ext.push s H (.cells cs T) ⟨w.heap.size,0,arr.size⟩
 refine ⟨by rw [upd_self],by rw [upd_self];exact h.size,arr,(0,0),frOk0,by rw [upd_self];exact alloc_heap _ _,by rw [upd_self],hl,fun j v hj=>?_⟩
 obtain ⟨y,h1,h2⟩:=hv j v hj
 exact ⟨y,h1,h2.mono e⟩
theorem WRel.allocMap {w0 s H w} (h:WRel w0 s H w) (es:List (Value × Value)) (ces:Array MapEntry) (clock:Nat) (hs:ces.size=es.length) (hc:clock=es.length)
  (hv:∀ (j:Nat) (k x:Value) (e:MapEntry),es[j]?=some (k,x)→ces[j]?=some e→e.key=k∧isLit k=true∧VRel s H x e.val∧e.born=j) :
  WRel w0 (upd s H.length ⟨w.heap.size,0,0⟩) (H++[.map es]) (w.alloc (.map ces clock)):=by
 refine ⟨h.h.push _ _ _ h.size ?_,h.b.alloc h.size _,h.o.push _ (by rintro _ ⟨⟩)⟩
 have e:=Ext.push s H (.map es) ⟨w.heap.size,0,0⟩
 refine ⟨by rw [upd_self];exact h.size,ces,clock,by rw [upd_self];exact alloc_heap _ _,hs,hc,fun j k x en hj hen=>?_⟩
 obtain ⟨h1,h2,h3,h4⟩:=hv j k x en hj hen
 exact ⟨h1,h2,h3.mono e,h4⟩
theorem WRel.allocLoop {w0 s H w} (h:WRel w0 s H w) (r:LRec) (ob:Obj) (hv:LRel s H r ob) :
  WRel w0 (upd s H.length ⟨w.heap.size,0,0⟩) (H++[.loop r]) (w.alloc ob):=by
 refine ⟨h.h.push _ _ _ h.size ?_,h.b.alloc h.size _,h.o.push _ (by rintro _ ⟨⟩)⟩
 have e:=Ext.push s H (.loop r) ⟨w.heap.size,0,0⟩
 exact ⟨by rw [upd_self];exact h.size,ob,by rw [upd_self];exact alloc_heap _ _,hv.mono e⟩
theorem hlen_set {H:AHeap} {b b':Nat} {o x:AObj} (hx:H[b]?=some x) (hl:o.len=x.len):hlen (H.set b o) b'=hlen H b':=by
 unfold hlen
 by_cases e:b=b'
 · subst e
   rw [List.getElem?_set_self (List.getElem?_eq_some_iff.1 hx).1,hx]
   simpa using hl
 · rw [List.getElem?_set_ne e]
theorem Ext.set {s:Ren} {H:AHeap} {b:Nat} {o x:AObj} (hx:H[b]?=some x) (hl:o.len=x.len) (hm:∀ es,o=.map es→∃ es',x=.map es') (hc:∀ cs T,o=.cells cs T→∃ cs',x=.cells cs' T) (hlp:∀ r,o=.loop r→∃ r',x=.loop r':=by simp):Ext s H s (H.set b o) :=
 ⟨by simp,fun b' hb=>⟨fun L h=>⟨L,by rwa [hlen_set hx hl] at h,Nat.le_refl _,fun _=>rfl⟩,fun es h=>by
  by_cases e:b=b'
  · subst e
    rw [List.getElem?_set_self (List.getElem?_eq_some_iff.1 hx).1] at h
    obtain ⟨es',rfl⟩:=hm es (by simpa using h)
    exact ⟨es',hx,rfl⟩
  · rw [List.getElem?_set_ne e] at h
    exact ⟨es,h,rfl⟩,fun cs T h=>by
  by_cases e:b=b'
  · subst e
    rw [List.getElem?_set_self (List.getElem?_eq_some_iff.1 hx).1] at h
    obtain ⟨cs',rfl⟩:=hc cs T (by simpa using h)
    exact ⟨cs',hx⟩
  · rw [List.getElem?_set_ne e] at h
    exact ⟨cs,h⟩,fun r h=>by
  by_cases e:b=b'
  · subst e
    rw [List.getElem?_set_self (List.getElem?_eq_some_iff.1 hx).1] at h
    obtain ⟨r',rfl⟩:=hlp r (by simpa using h)
    exact ⟨r',hx,rfl⟩
  · rw [List.getElem?_set_ne e] at h
    exact ⟨r,h,rfl⟩⟩⟩
theorem HRel.turn {B s H w w'} (h:HRel B s H w) (b:Nat) (x o:AObj) (hx:H[b]?=some x) (hxo:x.owned=true) (_hoo:o.owned=true)
  (e:Ext s H s (H.set b o)) (hw:∀ i,i≠(s b).blk→i < w.heap.size→w'.heap[i]?=w.heap[i]?) (ho:ORel B s (H.set b o) w' b o):HRel B s (H.set b o) w':=by
 have hb:=(List.getElem?_eq_some_iff.1 hx).1
 constructor
 · intro b' y hy
   by_cases q:b=b'
   · subst q
     rw [List.getElem?_set_self hb] at hy
     simp at hy;subst hy;exact ho
   · rw [List.getElem?_set_ne q] at hy
     refine (h.obj b' y hy).keep e (fun _=>rfl) (fun hl hr=>hw _ ?_ ((h.obj b' y hy).lt hl hr))
     rcases h.inj b b' x y hx hy q hxo hl with h1 | ⟨cs,h1,h2⟩
     · exact fun h2=>h1 h2.symm
     · exact absurd h2 (hr cs h1)
 · intro b1 b2 y1 y2 h1 h2 hne o1 l2
   have old:∀ (b3:Nat) (y3:AObj),(H.set b o)[b3]?=some y3→∃ y4:AObj,H[b3]?=some y4∧(y3.owned=true→y4.owned=true)∧(y3.live=true→y4.live=true)∧((∃ cs,y4=.ro cs∧cs=[])→(∃ cs,y3=.ro cs∧cs=[])):=by
    intro b3 y3 h3
    by_cases q:b=b3
    · subst q
      rw [List.getElem?_set_self hb] at h3
      simp at h3;subst h3
      exact ⟨x,hx,fun _=>hxo,fun _=>by cases x<;>simp_all [AObj.owned,AObj.live],by rintro ⟨cs,rfl,_⟩;cases hxo⟩
    · rw [List.getElem?_set_ne q] at h3
      exact ⟨y3,h3,id,id,id⟩
   obtain ⟨z1,g1,g2,_,_⟩:=old b1 y1 h1
   obtain ⟨z2,k1,_,k2,k3⟩:=old b2 y2 h2
   rcases h.inj b1 b2 z1 z2 g1 k1 hne (g2 o1) (k2 l2) with h3 | h3
   · exact .inl h3
   · exact .inr (k3 h3)
theorem WRel.below {w0 s H w w'} (h:WRel w0 s H w) (hb:Below w.heap.size w w'):WRel w0 s H w' :=
 ⟨⟨fun b o ho=>(h.h.obj b o ho).keep (Ext.refl _ _) (fun _=>rfl) (fun hl hr=>hb.block _ ((h.h.obj b o ho).lt hl hr)),h.h.inj⟩,
  h.b.trans (hb.mono h.size),h.o⟩
theorem WRel.drew {w0 s H w} (h:WRel w0 s H w):WRel w0 s H w.drew:=⟨⟨fun b o ho=>(h.h.obj b o ho).keep (Ext.refl _ _) (fun _=>rfl) (fun _ _=>rfl),h.h.inj⟩,h.b.drew,h.o⟩
theorem WRel.refl (w:World) (s:Ren):WRel w s [] w:=⟨⟨fun b o h=>by simp at h,fun b b' o o' h=>by simp at h⟩,Below.refl _ _,fun b cs h=>by simp [hcells] at h⟩
end Go.Vi
namespace Go.Vi
open Go.RowKit
theorem Ext.grow {s:Ren} {H:AHeap} {b:Nat} {cs cs':List Value} {T:TypeId} (p:Loc) (hb:H[b]?=some (.cells cs T)) (hl:cs.length≤cs'.length) (hp:cs.length=cs'.length→p=s b) :
  Ext s H (upd s b p) (H.set b (.cells cs' T)):=by
 have hlt:=(List.getElem?_eq_some_iff.1 hb).1
 refine ⟨by simp,fun i hi=>?_⟩
 by_cases e:i=b
 · subst e
   constructor
   · intro L' h
     simp [hlen,List.getElem?_set_self hlt,AObj.len] at h
     exact ⟨cs.length,by simp [hlen,hb,AObj.len],by omega,fun q=>by rw [upd_self];exact hp (by omega)⟩
   · refine ⟨fun es h=>by simp [List.getElem?_set_self hlt] at h,fun cs2 T2 h=>?_,fun r h=>by simp [List.getElem?_set_self hlt] at h⟩
     simp [List.getElem?_set_self hlt] at h
     exact ⟨cs,by rw [hb,h.2]⟩
 · constructor
   · intro L' h
     have:hlen H i=some L':=by simpa [hlen,List.getElem?_set_ne (Ne.symm e)] using h
     exact ⟨L',this,Nat.le_refl _,fun _=>upd_ne _ _ e⟩
   · refine ⟨fun es h=>?_,fun cs2 T2 h=>?_,fun r h=>?_⟩
     · rw [List.getElem?_set_ne (Ne.symm e)] at h
       exact ⟨es,h,upd_ne _ _ e⟩
     · rw [List.getElem?_set_ne (Ne.symm e)] at h
       exact ⟨cs2,h⟩
     · rw [List.getElem?_set_ne (Ne.symm e)] at h
       exact ⟨r,h,upd_ne _ _ e⟩
theorem upd_same (s:Ren) (b:Nat):upd s b (s b)=s:=by funext i;unfold upd;split<;>simp_all
theorem setRow_other (w:World) (g:Nat) (arr:Array Value) (i:Nat) (h:i≠g):(w.setRow g arr).heap[i]?=w.heap[i]?:=by
 simp only [World.setRow,Array.getElem?_modify]
 rw [if_neg (by omega)]
theorem setRow_at (w:World) (g:Nat) (arr cur:Array Value) (T:TypeId) (fr) (h:w.heap[g]?=some (.cells cur T fr)):(w.setRow g arr).heap[g]?=some (.cells arr T fr):=by
 simp [World.setRow,Array.getElem?_modify,h]
theorem below_setRow {B:Nat} {a w:World} (h:Below B a w) {g:Nat} (hg:B≤g) (arr:Array Value):Below B a (w.setRow g arr) :=
 h.trans ⟨rfl,rfl,rfl,by simp [World.setRow],fun k hk=>setRow_other _ _ _ _ (by omega)⟩
theorem WRel.row {w0 s H w} (h:WRel w0 s H w) {b:Nat} {cs cs':List Value} {T:TypeId} (hb:H[b]?=some (.cells cs T)) (arr':Array Value) (hk:arr'.size=(s b).cap)
  (hl:cs.length≤cs'.length) (hl2:cs'.length≤arr'.size) (hv:∀ (j:Nat) v,cs'[j]?=some v→∃ v',arr'[j]?=some v'∧VRel s H v v') (ho:One cs') :
  WRel w0 s (H.set b (.cells cs' T)) (w.setRow (s b).blk arr'):=by
 obtain ⟨h1,h2,arr,fr,hf,h3,hka,h4,h5⟩:=h.h.obj b _ hb
 have e:Ext s H s (H.set b (.cells cs' T)):=by
  have:=Ext.grow (s:=s) (s b) hb hl (fun _=>rfl)
  rwa [upd_same] at this
 refine ⟨h.h.turn b _ _ hb rfl rfl e (fun i hi _=>setRow_other _ _ _ _ hi) ?_,below_setRow h.b h2 _,h.o.set _ _ (by rintro _ ⟨rfl⟩;exact ho)⟩
 refine ⟨h1,h2,arr',fr,by rw [hk,← hka];exact hf,setRow_at _ _ _ _ _ _ h3,hk,hl2,fun j v hj=>?_⟩
 obtain ⟨v',g1,g2⟩:=hv j v hj
 exact ⟨v',g1,g2.mono e⟩
theorem WRel.regrow {w0 s H w} (h:WRel w0 s H w) {b:Nat} {cs cs':List Value} {T:TypeId} (hb:H[b]?=some (.cells cs T)) (arr':Array Value)
  (hl:cs.length < cs'.length) (hl2:cs'.length≤arr'.size) (hv:∀ (j:Nat) v,cs'[j]?=some v→∃ v',arr'[j]?=some v'∧VRel s H v v') (ho:One cs') :
  WRel w0 (upd s b ⟨w.heap.size,0,arr'.size⟩) (H.set b (.cells cs' T)) (w.alloc (.cells arr' T)):=by
 have e:=Ext.grow (s:=s) (T:=T) ⟨w.heap.size,0,arr'.size⟩ hb (Nat.le_of_lt hl) (fun q=>by omega)
 have hlt:=(List.getElem?_eq_some_iff.1 hb).1
 refine ⟨⟨fun i x hx=>?_,fun i i' x x' hx hx' hne ho' hl'=>?_⟩,h.b.alloc h.size _,h.o.set _ _ (by rintro _ ⟨rfl⟩;exact ho)⟩
 · by_cases q:b=i
   · subst q
     rw [List.getElem?_set_self hlt] at hx
     simp at hx;subst hx
     refine ⟨by rw [upd_self],by rw [upd_self];exact h.size,arr',(0,0),frOk0,by rw [upd_self];exact alloc_heap _ _,by rw [upd_self],hl2,fun j v hj=>?_⟩
     obtain ⟨v',g1,g2⟩:=hv j v hj
     exact ⟨v',g1,g2.mono e⟩
   · rw [List.getElem?_set_ne q] at hx
     exact (h.h.obj i x hx).keep e (fun _=>upd_ne _ _ (Ne.symm q)) (fun hl hr=>Below.heap_alloc _ _ _ ((h.h.obj i x hx).lt hl hr))
 · by_cases q:b=i
   · subst q
     rw [upd_self]
     by_cases q':b=i'
     · exact absurd q' hne
     · rw [List.getElem?_set_ne q'] at hx'
       rw [upd_ne _ _ (Ne.symm q')]
       by_cases hr:∃ cs,x'=.ro cs∧cs=[]
       · exact .inr hr
       · exact .inl (Nat.ne_of_gt ((h.h.obj i' x' hx').lt hl' (fun cs he hc=>hr ⟨cs,he,hc⟩)))
   · rw [List.getElem?_set_ne q] at hx
     rw [upd_ne _ _ (Ne.symm q)]
     by_cases q':b=i'
     · subst q'
       rw [upd_self]
       exact .inl (Nat.ne_of_lt ((h.h.obj i x hx).lt (by cases x<;>simp_all [AObj.owned,AObj.live]) (by rintro cs rfl;cases ho')))
     · rw [List.getElem?_set_ne q'] at hx'
       rw [upd_ne _ _ (Ne.symm q')]
       exact h.h.inj i i' x x' hx hx' hne ho' hl'
theorem WRel.putMap {w0 s H w} (h:WRel w0 s H w) {b:Nat} {es es':List (Value × Value)} (hb:H[b]?=some (.map es)) (ces:Array MapEntry) (clock:Nat) (hs:ces.size=es'.length) (hc:clock=es'.length)
  (hv:∀ (j:Nat) (k x:Value) (e:MapEntry),es'[j]?=some (k,x)→ces[j]?=some e→e.key=k∧isLit k=true∧VRel s H x e.val∧e.born=j) :
  WRel w0 s (H.set b (.map es')) { w with heap:=w.heap.setIfInBounds (s b).blk (.map ces clock) }:=by
 obtain ⟨h2,ces0,c0,h3,_⟩:=h.h.obj b _ hb
 have e:Ext s H s (H.set b (.map es')):=Ext.set hb (by simp [AObj.len]) (fun _ _=>⟨es,rfl⟩) (by simp)
 have hlt:=(Array.getElem?_eq_some_iff.1 h3).1
 have hoth:∀ i,i≠(s b).blk→(w.heap.setIfInBounds (s b).blk (.map ces clock))[i]?=w.heap[i]?:=fun i hi=>Array.getElem?_setIfInBounds_ne (Ne.symm hi)
 refine ⟨h.h.turn b _ _ hb rfl rfl e (fun i hi _=>hoth i hi) ?_,h.b.trans ⟨rfl,rfl,rfl,by simp,fun k hk=>hoth k (by omega)⟩,h.o.set _ _ (by rintro _ ⟨⟩)⟩
 refine ⟨h2,ces,clock,by simp [hlt],hs,hc,fun j k x en hj hen=>?_⟩
 obtain ⟨g1,g2,g3,g4⟩:=hv j k x en hj hen
 exact ⟨g1,g2,g3.mono e,g4⟩
theorem WRel.putLoop {w0 s H w} (h:WRel w0 s H w) {b:Nat} {r r':LRec} (hb:H[b]?=some (.loop r)) (ob:Obj) (hv:LRel s H r' ob) :
  WRel w0 s (H.set b (.loop r')) { w with heap:=w.heap.setIfInBounds (s b).blk ob }:=by
 obtain ⟨h2,ob0,h3,_⟩:=h.h.obj b _ hb
 have e:Ext s H s (H.set b (.loop r')):=Ext.set hb (by simp [AObj.len]) (by simp) (by simp) (fun _ _=>⟨r,rfl⟩)
 have hlt:=(Array.getElem?_eq_some_iff.1 h3).1
 have hoth:∀ i,i≠(s b).blk→(w.heap.setIfInBounds (s b).blk ob)[i]?=w.heap[i]?:=fun i hi=>Array.getElem?_setIfInBounds_ne (Ne.symm hi)
 refine ⟨h.h.turn b _ _ hb rfl rfl e (fun i hi _=>hoth i hi) ?_,h.b.trans ⟨rfl,rfl,rfl,by simp,fun k hk=>hoth k (by omega)⟩,h.o.set _ _ (by rintro _ ⟨⟩)⟩
 exact ⟨h2,ob,by simp [hlt],hv.mono e⟩
theorem Ext.loop {s:Ren} {H:AHeap} {b:Nat} {r r':LRec} (hb:H[b]?=some (.loop r)):Ext s H s (H.set b (.loop r')):=Ext.set hb (by simp [AObj.len]) (by simp) (by simp) (fun _ _=>⟨r,rfl⟩)
theorem VRel.ptr_inv {s H b o m v'} (h:VRel s H (.pointer (some ⟨b,o,some m⟩)) v') (hm:hlen H b=some m):v'=.pointer (some ⟨(s b).blk,(s b).base+o,none⟩):=by
 cases h with
 | lit _ h=>simp [isLit] at h
 | ptr _ _ _ p hb h=>rw [(h m hm).2 rfl]
theorem VRel.slice_inv {s H b o m n c v'} (h:VRel s H (.slice (some ⟨b,o,some m⟩) n c) v') (hm:hlen H b=some m) :
  ∃ a' c',v'=.slice (some a') n c'∧(0 < c'→a'=⟨(s b).blk,(s b).base+o,none⟩)∧n≤c∧c≤c'∧(∀ cs T,H[b]?=some (.cells cs T)→(c=0→c'=0)∧∀ sz,o+c*sz=m→o+c'*sz≤(s b).cap):=by
 cases h with
 | lit _ h=>simp [isLit] at h
 | slice _ _ _ _ _ a' c' hb h=>exact ⟨a',c',rfl,(h m hm).2 rfl⟩
theorem VRel.lit_inv {s H v v'} (h:VRel s H v v') (hv:isLit v=true):v'=v:=by
 cases h<;>simp_all [isLit]
theorem VRel.map_inv {s H b v' es} (h:VRel s H (.map (some b)) v') (hm:H[b]?=some (.map es)):v'=.map (some (s b).blk):=by
 cases h with
 | lit _ h=>simp [isLit] at h
 | map _ _ hb h=>rw [h es hm]
theorem VRel.iter_inv {s H b v' r} (h:VRel s H (iterV b) v') (hb:H[b]?=some (.loop r)):v'=.pointer (some ⟨(s b).blk,0,none⟩):=by
 cases h with
 | lit _ h=>simp [isLit] at h
 | iter _ _ _ h=>rw [h r hb]
theorem VRel.mkPtr {s H b o m} (hm:hlen H b=some m):VRel s H (.pointer (some ⟨b,o,some m⟩)) (.pointer (some ⟨(s b).blk,(s b).base+o,none⟩)):=by
 refine .ptr b o m _ ?_ fun L hL=>?_
 · rcases Nat.lt_or_ge b H.length with h | h
   · exact h
   · simp [hlen,List.getElem?_eq_none h] at hm
 · rw [hm] at hL;cases hL;exact ⟨Nat.le_refl _,fun _=>rfl⟩
theorem hcells_len {H b cs} (h:hcells H b=some cs):hlen H b=some cs.length:=by
 unfold hcells at h
 split at h<;>simp_all [hlen,AObj.len]
theorem HRel.cell {B s H w} (h:HRel B s H w) {b:Nat} {cs:List Value} (hb:hcells H b=some cs) {j:Nat} {v:Value} (hj:cs[j]?=some v) :
  ∃ v',w.cell? ⟨(s b).blk,(s b).base+j,none⟩=some v'∧VRel s H v v':=by
 unfold hcells at hb
 split at hb
 · rename_i cs1 T heq
   simp at hb;subst hb
   obtain ⟨h1,h2,arr,fr,hf,h3,_,h4,h5⟩:=h.obj b _ heq
   obtain ⟨v',g1,g2⟩:=h5 j v hj
   exact ⟨v',by rw [h1,cell_of_heap h3,Nat.zero_add];exact g1,g2⟩
 · rename_i cs1 heq
   simp at hb;subst hb
   exact h.obj b _ heq j v hj
 · rename_i g cs1 heq
   simp at hb;subst hb
   obtain ⟨h1,h2,_,h3⟩:=h.obj b _ heq
   rw [h1,h2,Nat.zero_add]
   exact h3 j v hj
 · simp at hb
def gFind:AHeap→Nat→Nat→Option (Nat × Nat)
 | [],_,_=>none
 | .gl g' cs :: H,g,i=>if g'=g then some (i,cs.length) else gFind H g (i+1)
 | _ :: H,g,i=>gFind H g (i+1)
theorem gFind_sound:∀ {H:AHeap} {g i b n:Nat},gFind H g i=some (b,n)→i≤b∧∃ cs,H[b-i]?=some (.gl g cs)∧n=cs.length:=by
 intro H
 induction H with
 | nil=>intro g i b n h;cases h
 | cons o H ih =>
   intro g i b n h
   have next:gFind H g (i+1)=some (b,n)→i≤b∧∃ cs,(o :: H)[b-i]?=some (.gl g cs)∧n=cs.length:=by
    intro h
    obtain ⟨h1,cs,h2,h3⟩:=ih h
    refine ⟨by omega,cs,?_,h3⟩
    have:b-i=(b-(i+1))+1:=by omega
    rw [this,List.getElem?_cons_succ];exact h2
   cases o with
   | gl g' cs =>
     simp only [gFind] at h
     split at h
     · rename_i e;subst e
       simp at h
       obtain ⟨rfl,rfl⟩:=h
       exact ⟨Nat.le_refl _,cs,by simp,rfl⟩
     · exact next h
   | _=>exact next h
theorem gFind_app:∀ {H X:AHeap} {g i q},gFind H g i=some q→gFind (H++X) g i=some q:=by
 intro H
 induction H with
 | nil=>intro X g i q h;cases h
 | cons o H ih =>
   intro X g i q h
   cases o with
   | gl g' cs =>
     simp only [gFind,List.cons_append] at h ⊢
     split at h
     · rename_i e;rw [if_pos e];exact h
     · rename_i e;rw [if_neg e];exact ih h
   | _=>exact ih (by simpa only [gFind] using h)
def deG (H:AHeap) (v:Value):Value:=match v with
 | .pointer (some ⟨g, o, none⟩) => match gFind H g 0 with
   | some (b,n)=>.pointer (some ⟨b,o,some n⟩)
   | none=>v
 | v=>v
theorem deG_sound {B s H w v v'} (h:HRel B s H w) (hv:VRel s H v v'):VRel s H (deG H v) v':=by
 unfold deG
 split
 · rename_i g o
   split
   · rename_i b n hf
     obtain ⟨_,cs,h1,rfl⟩:=gFind_sound hf
     rw [Nat.sub_zero] at h1
     obtain ⟨q1,q2,_⟩:=h.obj b _ h1
     have hl:hlen H b=some cs.length:=by simp [hlen,h1,AObj.len]
     cases hv with
     | lit _ h=>simp [isLit] at h
     | glob =>
       have:=VRel.mkPtr (s:=s) (o:=o) hl
       rw [q1,q2,Nat.zero_add] at this
       exact this
   · exact hv
 · exact hv
end Go.Vi
namespace Go.Vi
open Go.RowKit
def cok:Value→Bool
 | .agg cs=>cs.toList.all isLit
 | .tuple cs=>cs.toList.all isLit
 | v=>isLit v
theorem cok_rel {v:Value} (h:cok v=true) (s:Ren) (H:AHeap):VRel s H v v:=by
 have key:∀ cs:Array Value,cs.toList.all isLit=true→∀ (i:Nat) x y,cs[i]?=some x→cs[i]?=some y→VRel s H x y:=by
  intro cs hc i x y hx hy
  rw [hx] at hy;cases hy
  refine .lit x ?_
  rw [List.all_eq_true] at hc
  exact hc x (by have:=Array.mem_of_getElem? hx;simpa using this)
 cases v<;>simp only [cok] at h<;>first | exact .lit _ h | exact .agg _ _ rfl (key _ h) | exact .tuple _ _ rfl (key _ h)
def aev (sl:List Value):Operand→Option Value
 | .tmp t=>sl[t]?
 | .const v=>if cok v=true then some v else none
 | .func f=>some (.func (.func f) #[] #[])
 | .global g=>some (.pointer (some ⟨g,0,none⟩))
class Ctx where
 ds:List Deferred
 ro:Option Nat
structure ARel [c0:Ctx] (s:Ren) (H:AHeap) (sl:List Value) (a:Act):Prop where
 r:VRelL s H sl a.tmps.toList
 d:a.defers=c0.ds
theorem ARel.mono [Ctx] {s H s' H' sl a} (h:ARel s H sl a) (e:Ext s H s' H'):ARel s' H' sl a:=⟨h.r.mono e,h.d⟩
theorem aev_rel [Ctx] {s H sl a x v} (h:ARel s H sl a) (hx:aev sl x=some v):VRel s H v (a.eval x):=by
 cases x with
 | tmp t =>
   obtain ⟨y,h1,h2⟩:=h.r.get hx
   have:a.eval (.tmp t)=y:=by simp only [Act.eval,Array.getD_eq_getD_getElem?];rw [Array.getElem?_toList] at h1;rw [h1];rfl
   rw [this];exact h2
 | const u =>
   simp only [aev] at hx
   split at hx
   · cases hx;exact cok_rel ‹_› s H
   · cases hx
 | func f=>simp [aev] at hx;subst hx;exact .func _ _ _ _ _ (by simp) rfl rfl (by simp) (by simp)
 | global g=>simp [aev] at hx;subst hx;exact .glob _ _
def aput (sl:List Value) (d:Option Tmp) (v:Value):List Value :=
 match d with
 | some d=>sl.set d v
 | none=>sl
theorem ARel.put [Ctx] {s H sl a v v'} (h:ARel s H sl a) (d:Option Tmp) (hv:VRel s H v v'):ARel s H (aput sl d v) (a.put d v'):=by
 cases d with
 | none=>exact h
 | some d=>exact ⟨by simpa [aput,Act.put] using h.r.set hv d,h.d⟩
theorem add_plain (g j n:Nat):(⟨g,j,none⟩:Addr).add n=⟨g,j+n,none⟩:=by unfold Addr.add;split<;>simp_all
theorem exists_list {α β:Type} (l:List α) (R:Nat→α→β→Prop) (h:∀ (j:Nat) v,l[j]?=some v→∃ v',R j v v') :
  ∃ l':List β,l'.length=l.length∧∀ (j:Nat) v,l[j]?=some v→∃ v',l'[j]?=some v'∧R j v v':=by
 induction l generalizing R with
 | nil=>exact ⟨[],rfl,fun j v h=>by simp at h⟩
 | cons a l ih =>
   obtain ⟨b,hb⟩:=h 0 a rfl
   obtain ⟨l',h1,h2⟩:=ih (fun j=>R (j+1)) (fun j v hj=>h (j+1) v (by simpa using hj))
   refine ⟨b :: l',by simp [h1],fun j v hj=>?_⟩
   cases j with
   | zero=>simp at hj;subst hj;exact ⟨b,rfl,hb⟩
   | succ j=>obtain ⟨v',g1,g2⟩:=h2 j v (by simpa using hj);exact ⟨v',by simpa using g1,g2⟩
variable {P:Program}
def tsize (P:Program) (t:TypeId):Option Nat:=(P.info? t).map (·.size)
def tzero (P:Program) (t:TypeId):Option Value:=(P.info? t).bind (·.zero)
def tagg (P:Program) (t:TypeId):Option Bool:=(P.underlying t).map fun | .struct _ | .array _ _=>true | _=>false
theorem run_sizeOf {t n} (h:tsize P t=some n) (w:World):(sizeOf t).run P w=.ok n w:=by
 unfold tsize at h
 cases hi:P.info? t with
 | none=>simp [hi] at h
 | some i=>simp [hi] at h;simp [sizeOf,typeInfo,hi,h]
theorem run_isAgg {t b} (h:tagg P t=some b) (w:World):(isAgg t).run P w=.ok b w:=by
 unfold tagg at h
 cases hu:P.underlying t with
 | none=>simp [hu] at h
 | some d =>
   simp [hu] at h;subst h
   simp only [isAgg,underlying,Sem.run_bind,run_program,Result.andThen_ok,hu]
   cases d<;>simp
theorem run_zero {t z} (h:tzero P t=some z) (w:World):(zeroValue t).run P w=.ok z w:=by
 unfold tzero at h
 cases hi:P.info? t with
 | none=>simp [hi] at h
 | some i=>simp [hi] at h;simp [zeroValue,typeInfo,hi,h]
theorem run_und {t d} (h:P.underlying t=some d) (w:World):(underlying t).run P w=.ok d w:=by
 simp [underlying,h]
theorem run_cells {B s H w} (h:HRel B s H w) {b o n:Nat} {cs:List Value} (hb:hcells H b=some cs) (hn:o+n≤cs.length) :
  ∃ l':List Value,(loadCells ⟨(s b).blk,(s b).base+o,none⟩ n).run P w=.ok l'.toArray w∧VRelL s H ((cs.drop o).take n) l':=by
 obtain ⟨l',h1,h2⟩:=exists_list ((cs.drop o).take n) (fun j v v'=>w.cell? ⟨(s b).blk,(s b).base+(o+j),none⟩=some v'∧VRel s H v v') (fun j v hj=>by
  rw [List.getElem?_take] at hj
  split at hj
  · rw [List.getElem?_drop] at hj
    exact h.cell hb hj
  · cases hj)
 have hlen:l'.length=n:=by rw [h1];simp;omega
 refine ⟨l',?_,h1.symm,fun i x y hx hy=>?_⟩
 · have:=run_loadCells_list (P:=P) (w:=w) ⟨(s b).blk,(s b).base+o,none⟩ l' (fun j v hj=>by
    have hj2:j < ((cs.drop o).take n).length:=by rw [← h1];exact (List.getElem?_eq_some_iff.1 hj).1
    obtain ⟨v',g1,g2,_⟩:=h2 j _ (List.getElem?_eq_getElem hj2)
    rw [hj] at g1;cases g1
    rw [add_plain,Nat.add_assoc];exact g2)
   rw [hlen] at this
   exact this
 · obtain ⟨v',g1,_,g3⟩:=h2 i x hx
   rw [hy] at g1;cases g1;exact g3
def aLoad0 (P:Program) (H:AHeap) (T:TypeId):Value→Option Value
 | .pointer (some ⟨b, o, some m⟩) =>
   match hcells H b with
   | some cs =>
     if m=cs.length then
      match tagg P T with
      | some true => match tsize P T with
        | some n=>if o+n≤cs.length then some (.agg ((cs.drop o).take n).toArray) else none
        | none=>none
      | some false=>cs[o]?
      | none=>none
     else none
   | none=>none
 | _=>none
theorem aLoad0_sound {B s H w T v v' r} (h:HRel B s H w) (hv:VRel s H v v') (hr:aLoad0 P H T v=some r) :
  ∃ r',(Instr.loadAt T v').run P w=.ok r' w∧VRel s H r r':=by
 unfold aLoad0 at hr
 split at hr
 · rename_i b o m
   split at hr
   · rename_i cs hcs
     split at hr
     · rename_i hm;subst hm
       have:=hv.ptr_inv (hcells_len hcs);subst this
       split at hr
       · rename_i hag
         split at hr
         · rename_i n hn
           split at hr
           · rename_i hle
             cases hr
             obtain ⟨l',h1,h2⟩:=run_cells (P:=P) h hcs hle
             refine ⟨.agg l'.toArray,?_,.agg _ _ (by simp [h2.1]) (fun i x y hx hy=>h2.2 i x y (by simpa using hx) (by simpa using hy))⟩
             simp [Instr.loadAt,Instr.sureAddr,loadVar,run_isAgg hag,run_sizeOf hn,h1]
           · cases hr
         · cases hr
       · rename_i hag
         obtain ⟨r',h1,h2⟩:=h.cell hcs hr
         exact ⟨r',by simp [Instr.loadAt,Instr.sureAddr,loadVar,run_isAgg hag,h1],h2⟩
       · cases hr
     · cases hr
   · cases hr
 · cases hr
def aLoad (P:Program) (H:AHeap) (T:TypeId) (v:Value):Option Value:=aLoad0 P H T (deG H v)
theorem aLoad_sound {B s H w T v v' r} (h:HRel B s H w) (hv:VRel s H v v') (hr:aLoad P H T v=some r) :
  ∃ r',(Instr.loadAt T v').run P w=.ok r' w∧VRel s H r r':=aLoad0_sound h (deG_sound h hv) hr
theorem aLoad_ptrs {H T v r} (hr:aLoad P H T v=some r):∃ ad,v=.pointer (some ad):=by
 unfold aLoad at hr
 cases v with
 | pointer p => cases p with
   | some ad=>exact ⟨ad,rfl⟩
   | none=>cases hr
 | _=>cases hr
theorem VRel.one {s H v v'} (h:VRel s H v v') (hv:v.oneCell'=true):v'.oneCell'=true:=by
 cases h<;>simp_all [Value.oneCell']
theorem lit_cells {s H v} (hv:isLit v=true):VRelL s H v.cells.toList v.cells.toList:=by
 have h:v.cells = #[v]:=by cases v<;>simp_all [isLit,Value.cells]
 rw [h]
 exact .cons (.lit _ hv) (.nil _ _)
theorem VRel.cells {s H v v'} (h:VRel s H v v') (hn:∀ t,v≠.tuple t):VRelL s H v.cells.toList v'.cells.toList:=by
 cases h with
 | slice b o m n c a' c' hb h=>exact .cons (.slice b o m n c a' c' hb h) (.nil _ _)
 | map b r hb h=>exact .cons (.map b r hb h) (.nil _ _)
 | agg a a' hs h=>exact ⟨by simpa [Value.cells] using hs,fun i x y hx hy=>h i x y (by simpa [Value.cells] using hx) (by simpa [Value.cells] using hy)⟩
 | tuple a=>exact absurd rfl (hn _)
 | lit v hv=>exact lit_cells hv
 | ptr b o m p hb h=>exact .cons (.ptr b o m p hb h) (.nil _ _)
 | glob g o=>exact .cons (.glob g o) (.nil _ _)
 | yield b r hb h=>exact .cons (.yield b r hb h) (.nil _ _)
 | iter b r hb h=>exact .cons (.iter b r hb h) (.nil _ _)
 | unk _ hv =>
   have hc:∀ v:Value,v.oneCell'=true→v.cells = #[v]:=by intro v hv;cases v<;>simp_all [Value.cells,Value.oneCell']
   rw [hc _ hv]
   exact .cons (.unk _ hv) (.nil _ _)
 | func fn f c f' c' hy hf hc h1 h2=>exact .cons (.func fn f c f' c' hy hf hc h1 h2) (.nil _ _)
 | iface t v v' h=>exact .cons (.iface t v v' h) (.nil _ _)
end Go.Vi
namespace Go.Vi
open Go.RowKit
variable {P:Program}
def putCells (cs:List Value) (o:Nat):List Value→List Value
 | [v]=>cs.set o v
 | vs=>cs.take o++vs++cs.drop (o+vs.length)
theorem putCells_eq (cs vs:List Value) (o:Nat) (h:o+vs.length≤cs.length):putCells cs o vs=cs.take o++vs++cs.drop (o+vs.length):=by
 unfold putCells
 split
 · rename_i v
   simp at h
   rw [List.set_eq_take_append_cons_drop,if_pos (by omega)]
   simp
 · rfl
theorem putCells_len (cs vs:List Value) (o:Nat) (h:o+vs.length≤cs.length):(putCells cs o vs).length=cs.length:=by
 rw [putCells_eq _ _ _ h];simp;omega
theorem putCells_one {cs vs:List Value} {o:Nat} (h:o+vs.length≤cs.length) (hc:One cs) (hv:One vs):One (putCells cs o vs):=by
 rw [putCells_eq _ _ _ h]
 intro v hm
 simp only [List.mem_append] at hm
 rcases hm with (hm | hm) | hm
 · exact hc v (List.mem_of_mem_take hm)
 · exact hv v hm
 · exact hc v (List.mem_of_mem_drop hm)
def storable:Value→Bool
 | .tuple _=>false
 | .agg cs=>cs.toList.all (·.oneCell')
 | _=>true
theorem storable_cells {v:Value} (h:storable v=true):One v.cells.toList:=by
 cases v with
 | agg cs=>intro x hx;simp only [storable,List.all_eq_true] at h;exact h x hx
 | tuple cs=>cases h
 | _=>intro x hx;simp [Value.cells] at hx;subst hx;rfl
theorem VRelL.one {s H l l'} (h:VRelL s H l l') (ho:One l):One l':=by
 intro y hy
 obtain ⟨i,hi,rfl⟩:=List.mem_iff_getElem.1 hy
 have hi':i < l.length:=h.1 ▸ hi
 exact (h.2 i _ _ (List.getElem?_eq_getElem hi') (List.getElem?_eq_getElem hi)).one (ho _ (List.getElem_mem hi'))
theorem storable_notTuple {v:Value} (h:storable v=true):∀ t,v≠.tuple t:=by rintro t rfl;cases h
theorem setCells_row (g:Nat) (t:TypeId) (fr:Nat × Nat):∀ (vs:List Value) (o:Nat) (cur:Array Value) (w:World),w.heap[g]?=some (.cells cur t fr)→o+vs.length≤cur.size →
  w.setCells g o vs=w.setRow g (cur.toList.take o++vs++cur.toList.drop (o+vs.length)).toArray:=by
 intro vs
 induction vs with
 | nil =>
   intro o cur w hg _
   have e:(cur.toList.take o++[]++cur.toList.drop (o+([]:List Value).length)).toArray=cur:=by simp
   rw [e,setRow_self w g cur t fr hg]
   rfl
 | cons v r ih =>
   intro o cur w hg hl
   simp only [List.length_cons] at hl
   have hsz:(cur.setIfInBounds o v).size=cur.size:=by simp
   rw [World.setCells,setCell_eq_setRow w g o cur t fr v hg,ih (o+1) _ _ (setRow_heap w g cur _ t fr hg) (by omega),setRow_setRow]
   congr 2
   have e:=list_seg_step cur.toList o v r (by simp;omega)
   simpa [Array.toList_setIfInBounds,Nat.add_assoc] using e
theorem run_storeCells_fr (g o:Nat) (t:TypeId) (vs:List Value) (cur:Array Value) (fr:Nat × Nat) (w:World) (hg:w.heap[g]?=some (.cells cur t fr)) (hf:FrOk cur.size fr) (hl:o+vs.length≤cur.size) (h1:∀ v∈vs,v.oneCell'=true) :
  (storeCells ⟨g,o,none⟩ vs).run P w=.ok () (w.setRow g (cur.toList.take o++vs++cur.toList.drop (o+vs.length)).toArray):=by
 have:=run_storeCells_cells (P:=P) g o vs 0 w (fun j hj=>by simp [World.cell?,hg];omega) (fun j hj=>by
  have:=hf (o+j) (by omega)
  simp only [World.frozen?,hg,Nat.add_zero]
  exact this) h1
 rw [this,Nat.add_zero,setCells_row g t fr vs o cur w hg hl]
theorem run_put {w0 s H w} (h:WRel w0 s H w) {b o:Nat} {cs:List Value} {T:TypeId} (hb:H[b]?=some (.cells cs T)) {vs vs':List Value} (hv:VRelL s H vs vs') (ho:One vs)
  (hfit:o+vs.length≤cs.length) :
  ∃ w',(storeCells ⟨(s b).blk,o,none⟩ vs').run P w=.ok () w'∧WRel w0 s (H.set b (.cells (putCells cs o vs) T)) w'∧Ext s H s (H.set b (.cells (putCells cs o vs) T)):=by
 obtain ⟨h1,h2,arr,fr,hfr,h3,hk,h4,h5⟩:=h.h.obj b _ hb
 have hfit':o+vs'.length≤arr.size:=by have:=hv.1;omega
 refine ⟨_,run_storeCells_fr (s b).blk o T vs' arr fr w h3 hfr hfit' (hv.one ho),h.row hb _ ?_ (by rw [putCells_len _ _ _ hfit];exact Nat.le_refl _) ?_ ?_ (putCells_one hfit (h.o b cs (by simp [hcells,hb])) ho),Ext.set hb (by simp [AObj.len,putCells_len _ _ _ hfit]) (by simp) (by rintro cs' T' h;cases h;exact ⟨cs,rfl⟩)⟩
 · simp;omega
 · rw [putCells_len _ _ _ hfit];simp;omega
 · intro j v hj
   rw [putCells_eq _ _ _ hfit] at hj
   have e:(arr.toList.take o++vs'++arr.toList.drop (o+vs'.length)).toArray[j]?=(arr.toList.take o++vs'++arr.toList.drop (o+vs'.length))[j]?:=by simp
   rw [e]
   have hc:VRelL s H (cs.take o) ((arr.toList.take o)):=by
    refine ⟨by simp;omega,fun i x y hx hy=>?_⟩
    rw [List.getElem?_take] at hx hy
    split at hx
    · obtain ⟨v',g1,g2⟩:=h5 i x hx
      have:y=v':=by
       have hy':arr[i]?=some y:=by simpa [*] using hy
       rw [hy'] at g1;exact Option.some.inj g1
      rw [this];exact g2
    · cases hx
   rw [List.append_assoc] at hj ⊢
   rcases Nat.lt_or_ge j (o+vs.length) with hlt | hge
   · have hv2:=hc.append hv
     rw [← List.append_assoc,List.getElem?_append_left (by simp;omega)] at hj
     rw [← List.append_assoc,List.getElem?_append_left (by simp;have:=hv.1;omega)]
     exact hv2.get hj
   · rw [← List.append_assoc,List.getElem?_append_right (by simp;omega),List.getElem?_drop] at hj
     rw [← List.append_assoc,List.getElem?_append_right (by simp;have:=hv.1;omega),List.getElem?_drop]
     obtain ⟨v',g1,g2⟩:=h5 _ v hj
     refine ⟨v',?_,g2⟩
     rw [← g1,Array.getElem?_toList]
     congr 1
     have:=hv.1
     simp
     omega
def aStore (P:Program) (H:AHeap) (T:TypeId) (a v:Value):Option AHeap :=
 match a with
 | .pointer (some ⟨b, o, some m⟩) =>
   match H[b]? with
   | some (.cells cs T')=>if m=cs.length∧tsize P T=some v.cells.size∧o+v.cells.size≤cs.length∧storable v=true then some (H.set b (.cells (putCells cs o v.cells.toList) T')) else none
   | _=>none
 | _=>none
theorem aStore_sound {w0 s H w T a a' v v' H'} (h:WRel w0 s H w) (ha:VRel s H a a') (hv:VRel s H v v') (hr:aStore P H T a v=some H') :
  ∃ w',(Instr.storeAt T a' v').run P w=.ok () w'∧WRel w0 s H' w'∧Ext s H s H':=by
 unfold aStore at hr
 split at hr
 · rename_i b o m
   split at hr
   · rename_i cs T' hb
     split at hr
     · rename_i hc
       obtain ⟨rfl,hsz,hfit,hst⟩:=hc
       cases hr
       have:=ha.ptr_inv (by simp [hlen,hb,AObj.len]);subst this
       have hcs:=hv.cells (storable_notTuple hst)
       obtain ⟨w',g1,g2,g3⟩:=run_put (P:=P) h hb hcs (storable_cells hst) (by simpa using hfit)
       refine ⟨w',?_,g2,g3⟩
       obtain ⟨h1,_⟩:=h.h.obj b _ hb
       rw [h1,Nat.zero_add]
       have hz:v'.cells.size=v.cells.size:=by have:=hcs.1;simpa using this.symm
       simp [Instr.storeAt,Instr.sureAddr,storeVar,run_sizeOf hsz,hz,g1]
     · cases hr
   · cases hr
 · cases hr
def aNew (H:AHeap) (T:TypeId) (v:Value):Option (Value × AHeap) :=
 if storable v=true then some (.pointer (some ⟨H.length,0,some v.cells.size⟩),H++[.cells v.cells.toList T]) else none
theorem hlen_last (H:AHeap) (cs:List Value) (T:TypeId):hlen (H++[.cells cs T]) H.length=some cs.length:=by simp [hlen,AObj.len]
theorem aNew_sound {w0 s H w T v v' r H'} (h:WRel w0 s H w) (hv:VRel s H v v') (hr:aNew H T v=some (r,H')) :
  ∃ s' r' w',(do pure (Value.pointer (some (← newVar T v'))):Sem Value).run P w=.ok r' w'∧WRel w0 s' H' w'∧Ext s H s' H'∧VRel s' H' r r':=by
 unfold aNew at hr
 split at hr
 · rename_i hst
   cases hr
   have hcs:=hv.cells (storable_notTuple hst)
   refine ⟨_,.pointer (some ⟨w.heap.size,0,none⟩),_,?_,h.alloc _ _ T hcs (storable_cells hst),Ext.push _ _ _ _,?_⟩
   · simp [newVar,newRow]
   · have:=VRel.mkPtr (s:=upd s H.length ⟨w.heap.size,0,v.cells.toList.length⟩) (o:=0) (hlen_last H v.cells.toList T)
     rw [upd_self] at this
     simpa using this
 · cases hr
def afield (P:Program) (T:TypeId) (f:Nat):Option (Nat × TypeId) :=
 match P.underlying T with
 | some (.struct fs)=>(fs[f]?).map fun x=>(x.offset,x.type)
 | _=>none
theorem afield_inv {T f o t} (h:afield P T f=some (o,t)):∃ fs x,P.underlying T=some (.struct fs)∧fs[f]?=some x∧x.offset=o∧x.type=t:=by
 unfold afield at h
 split at h
 · rename_i fs hu
   cases hx:fs[f]? with
   | none=>simp [hx] at h
   | some x=>simp [hx] at h;exact ⟨fs,x,hu,hx,h.1,h.2⟩
 · cases h
theorem hlen_of_ptr {H:AHeap} {b m:Nat} (h:hlen H b=some m):b < H.length:=by
 rcases Nat.lt_or_ge b H.length with h1 | h1
 · exact h1
 · simp [hlen,List.getElem?_eq_none h1] at h
def aFieldAddr (P:Program) (H:AHeap) (T:TypeId) (a:Value) (f:Nat):Option Value :=
 match a with
 | .pointer (some ⟨b, o, some m⟩) =>
   if hlen H b=some m then
    match afield P T f with
    | some (d, t) => match tsize P t with
      | some (_+1)=>some (.pointer (some ⟨b,o+d,some m⟩))
      | _=>none
    | none=>none
   else none
 | _=>none
theorem aFieldAddr_sound {s H T a a' f r} (w:World) (ha:VRel s H a a') (hr:aFieldAddr P H T a f=some r) :
  ∃ r',(Instr.fieldAt T a' f).run P w=.ok r' w∧VRel s H r r':=by
 unfold aFieldAddr at hr
 split at hr
 · rename_i b o m
   split at hr
   · rename_i hb
     have:=ha.ptr_inv hb;subst this
     split at hr
     · rename_i d t hf
       obtain ⟨fs,x,h1,h2,rfl,rfl⟩:=afield_inv hf
       split at hr
       · rename_i n hn
         cases hr
         refine ⟨_,?_,VRel.mkPtr hb⟩
         simp [Instr.fieldAt,run_und h1,h2,Instr.sureAddr,fieldPlace,run_sizeOf hn,add_plain,Nat.add_assoc]
       · cases hr
     · cases hr
   · cases hr
 · cases hr
def aIndexAddr0 (P:Program) (H:AHeap) (T:TypeId) (x ix:Value):Option Value :=
 match ix with
 | .int _ i =>
   match x with
   | .slice (some ⟨b, o, some m⟩) n _ =>
     if hlen H b=some m∧0≤i∧i < n then
      match P.underlying T with
      | some (.slice e)=>(tsize P e).map fun z=>.pointer (some ⟨b,o+i.toNat*z,some m⟩)
      | _=>none
     else none
   | .pointer (some ⟨b, o, some m⟩) =>
     match P.underlying T with
     | some (.array n e)=>if hlen H b=some m∧0≤i∧i < n then (tsize P e).map fun z=>.pointer (some ⟨b,o+i.toNat*z,some m⟩) else none
     | _=>none
   | _=>none
 | _=>none
theorem aIndexAddr0_sound {s H T x x' ix ix' r} (w:World) (hx:VRel s H x x') (hi:VRel s H ix ix') (hr:aIndexAddr0 P H T x ix=some r) :
  ∃ r',(Instr.indexAt T x' ix').run P w=.ok r' w∧VRel s H r r':=by
 unfold aIndexAddr0 at hr
 split at hr
 · rename_i k i
   have:=hi.lit_inv rfl;subst this
   split at hr
   · rename_i b o m n c
     split at hr
     · rename_i hc
       obtain ⟨hb,h0,h1⟩:=hc
       obtain ⟨a',c',rfl,ha,hnc,hcc,_⟩:=hx.slice_inv hb
       split at hr
       · rename_i e hu
         cases hz:tsize P e with
         | none=>simp [hz] at hr
         | some z =>
           simp [hz] at hr;subst hr
           have:=ha (by omega);subst this
           refine ⟨_,?_,VRel.mkPtr hb⟩
           simp [Instr.indexAt,asIntOf,run_und hu,h0,h1,run_sizeOf hz,add_plain,Nat.add_assoc]
       · cases hr
     · cases hr
   · rename_i b o m
     split at hr
     · rename_i n e hu
       split at hr
       · rename_i hc
         obtain ⟨hb,h0,h1⟩:=hc
         have:=hx.ptr_inv hb;subst this
         cases hz:tsize P e with
         | none=>simp [hz] at hr
         | some z =>
           simp [hz] at hr;subst hr
           refine ⟨_,?_,VRel.mkPtr hb⟩
           simp [Instr.indexAt,asIntOf,run_und hu,h0,h1,run_sizeOf hz,add_plain,Nat.add_assoc,Instr.sureAddr]
       · cases hr
     · cases hr
   · cases hr
 · cases hr
def aIndexAddr (P:Program) (H:AHeap) (T:TypeId) (x ix:Value):Option Value:=aIndexAddr0 P H T (deG H x) ix
theorem aIndexAddr_sound {B s H w T x x' ix ix' r} (h:HRel B s H w) (hx:VRel s H x x') (hi:VRel s H ix ix') (hr:aIndexAddr P H T x ix=some r) :
  ∃ r',(Instr.indexAt T x' ix').run P w=.ok r' w∧VRel s H r r':=aIndexAddr0_sound w (deG_sound h hx) hi hr
def aPart (P:Program) (t:TypeId) (cs:Array Value) (off:Nat):Option Value :=
 match tagg P t with
 | some true=>(tsize P t).map fun n=>.agg (cs.extract off (off+n))
 | some false=>cs[off]?
 | none=>none
theorem aPart_sound {s H t cs cs' off r} (w:World) (h:VRel s H (.agg cs) (.agg cs')) (hr:aPart P t cs off=some r) :
  ∃ r',(part t cs' off).run P w=.ok r' w∧VRel s H r r':=by
 have hcs:VRelL s H cs.toList cs'.toList:=by
  have:=h.cells (by simp)
  simpa [Value.cells] using this
 unfold aPart at hr
 split at hr
 · rename_i hag
   cases hz:tsize P t with
   | none=>simp [hz] at hr
   | some n =>
     simp [hz] at hr;subst hr
     refine ⟨.agg (cs'.extract off (off+n)),by simp [part,run_isAgg hag,run_sizeOf hz],.agg _ _ (by have:=hcs.1;simp at this ⊢;omega) fun i x y hx hy=>?_⟩
     have hx':cs[off+i]?=some x:=by
      rw [Array.getElem?_extract] at hx
      split at hx<;>simp_all
     have hy':cs'[off+i]?=some y:=by
      rw [Array.getElem?_extract] at hy
      split at hy<;>simp_all
     exact hcs.2 (off+i) x y (by simpa using hx') (by simpa using hy')
 · rename_i hag
   obtain ⟨y,h1,h2⟩:=hcs.get (i:=off) (x:=r) (by simpa using hr)
   have h1':cs'[off]?=some y:=by simpa using h1
   exact ⟨y,by simp [part,run_isAgg hag,h1'],h2⟩
 · cases hr
theorem VRel.agg_inv {s H cs v'} (h:VRel s H (.agg cs) v'):∃ cs',v'=.agg cs':=by
 cases h with
 | lit _ h=>simp [isLit] at h
 | agg a a' hs h=>exact ⟨a',rfl⟩
def aField (P:Program) (T:TypeId) (x:Value) (f:Nat):Option Value :=
 match x with
 | .agg cs => match afield P T f with
   | some (d,t)=>aPart P t cs d
   | none=>none
 | _=>none
theorem aField_sound {s H T x x' f r} (w:World) (hx:VRel s H x x') (hr:aField P T x f=some r):∃ r',(Instr.field T x' f).run P w=.ok r' w∧VRel s H r r':=by
 unfold aField at hr
 split at hr
 · rename_i cs
   split at hr
   · rename_i d t hf
     obtain ⟨fs,y,h1,h2,rfl,rfl⟩:=afield_inv hf
     obtain ⟨cs',rfl⟩:=hx.agg_inv
     obtain ⟨r',g1,g2⟩:=aPart_sound (P:=P) w hx hr
     exact ⟨r',by simp [Instr.field,run_und h1,h2,asAgg,g1],g2⟩
   · cases hr
 · cases hr
def aIndex (P:Program) (T:TypeId) (x ix:Value):Option Value :=
 match ix with
 | .int _ i =>
   match x with
   | .string s => match P.underlying T with
     | some .string=>if 0≤i then (s.data.toList[i.toNat]?).map fun b=>.int .u8 b.toNat else none
     | _=>none
   | .agg cs => match P.underlying T with
     | some (.array n e)=>if 0≤i∧i < n then (tsize P e).bind fun z=>aPart P e cs (i.toNat*z) else none
     | _=>none
   | _=>none
 | _=>none
theorem aIndex_sound {s H T x x' ix ix' r} (w:World) (hx:VRel s H x x') (hi:VRel s H ix ix') (hr:aIndex P T x ix=some r) :
  ∃ r',(Instr.index T x' ix').run P w=.ok r' w∧VRel s H r r':=by
 unfold aIndex at hr
 split at hr
 · rename_i k i
   have:=hi.lit_inv rfl;subst this
   split at hr
   · rename_i st
     have:=hx.lit_inv rfl;subst this
     split at hr
     · rename_i hu
       split at hr
       · rename_i h0
         cases hg:st.data.toList[i.toNat]? with
         | none=>simp [hg] at hr
         | some b =>
           simp [hg] at hr;subst hr
           refine ⟨_,?_,.lit _ rfl⟩
           have hg':st[i.toNat]?=some b:=by
            have hlt:i.toNat < st.size:=by
             have:=(List.getElem?_eq_some_iff.1 hg).1
             simpa using this
            rw [getElem?_pos st i.toNat hlt]
            have:=(List.getElem?_eq_some_iff.1 hg).2
            exact congrArg some ((show st[i.toNat]=st.data[i.toNat]'hlt from rfl).trans (by simpa using this))
           simp [Instr.index,asIntOf,run_und hu,h0,hg']
       · cases hr
     · cases hr
   · rename_i cs
     split at hr
     · rename_i n e hu
       split at hr
       · rename_i hc
         obtain ⟨h0,h1⟩:=hc
         cases hz:tsize P e with
         | none=>simp [hz] at hr
         | some z =>
           simp [hz] at hr
           obtain ⟨cs',rfl⟩:=hx.agg_inv
           obtain ⟨r',g1,g2⟩:=aPart_sound (P:=P) w hx hr
           exact ⟨r',by simp [Instr.index,asIntOf,run_und hu,h0,h1,run_sizeOf hz,g1],g2⟩
       · cases hr
     · cases hr
   · cases hr
 · cases hr
end Go.Vi
namespace Go.Vi
open Go.RowKit
variable {P:Program}
def pv {α:Type} (P:Program):Sem α→Option α
 | .pure a=>some a
 | .program k=>pv P (k P)
 | _=>none
theorem pv_run {α:Type} {s:Sem α} {a:α} (h:pv P s=some a) (w:World):s.run P w=.ok a w:=by
 induction s with
 | pure b=>simp [pv] at h;subst h;rfl
 | program k ih=>exact ih P h
 | _=>cases h
def clos:Value→Bool
 | .agg cs=>cs.toList.all isLit
 | .iface _ v=>isLit v
 | v=>isLit v
theorem VRel.clos_eq {s H v v'} (h:VRel s H v v') (hv:clos v=true):v'=v:=by
 cases h with
 | lit _ _=>rfl
 | agg a a' hs h =>
   simp only [clos,List.all_eq_true] at hv
   congr 1
   apply Array.ext hs.symm
   intro i h1 h2
   have:=(h i _ _ (Array.getElem?_eq_getElem h2) (Array.getElem?_eq_getElem h1)).lit_inv (hv _ (by simp))
   exact this
 | iface t v v' h=>rw [h.lit_inv hv]
 | ptr=>simp [clos,isLit] at hv
 | glob=>simp [clos,isLit] at hv
 | slice=>simp [clos,isLit] at hv
 | map=>simp [clos,isLit] at hv
 | func=>simp [clos,isLit] at hv
 | yield=>simp [clos,isLit] at hv
 | iter=>simp [clos,isLit] at hv
 | unk=>simp [clos,isLit] at hv
 | tuple=>simp [clos,isLit] at hv
theorem clos_rel {v:Value} (h:clos v=true) (s:Ren) (H:AHeap):VRel s H v v:=by
 cases v with
 | iface t v=>exact .iface t v v (.lit v h)
 | agg cs=>exact cok_rel (v:=.agg cs) h s H
 | _=>exact .lit _ h
def isNilV:Value→Bool
 | .pointer none | .slice none _ _ | .map none | .nilFunc | .nilIface=>true
 | _=>false
def notNil (P:Program) (T:TypeId):Value→Value→Bool
 | .pointer (some _),.pointer none=>match P.underlying T with | some (.pointer _)=>true | _=>false
 | .slice (some _) _ _,.slice none _ _=>match P.underlying T with | some (.slice _)=>true | _=>false
 | .map (some _),.map none=>match P.underlying T with | some (.map _ _)=>true | _=>false
 | .func ..,.nilFunc=>match P.underlying T with | some (.func _ _ _)=>true | _=>false
 | .iface ..,.nilIface=>match P.underlying T with | some (.interface _)=>true | _=>false
 | _,_=>false
def aBin (P:Program) (op:BinOp) (T:TypeId) (x y:Operand) (a b:Value):Option Value :=
 if clos a=true∧clos b=true then (pv P (do eqGuard op T x y a b;binOp op T a b)).bind fun r=>if clos r=true then some r else none
 else if notNil P T a b=true∨notNil P T b a=true then (match op with | .eql=>some (.bool false) | .neq=>some (.bool true) | _=>none)
 else none
theorem notNil_eq {s H T a a' b b'} (w:World) (d:Nat) (ha:VRel s H a a') (hb:VRel s H b b') (h:notNil P T a b=true) :
  (Op.equalIn (d+1) T a' b').run P w=.ok false w∧(Op.equalIn (d+1) T b' a').run P w=.ok false w:=by
 unfold notNil at h
 split at h<;>(try cases h)<;>(split at h<;>try cases h)<;>rename_i hu<;>cases ha<;>(try simp [isLit] at *)<;>cases hb<;>(try simp [isLit] at *) <;>
  simp [Op.equalIn,run_und hu]
theorem notNil_guard {s H T a a' b b'} (w:World) (ha:VRel s H a a') (hb:VRel s H b b') (h:notNil P T a b=true) (op:BinOp) (x y:Operand) :
  (eqGuard op T x y a' b').run P w=.ok () w∧(eqGuard op T x y b' a').run P w=.ok () w:=by
 unfold notNil at h
 split at h<;>(try cases h)<;>cases ha<;>(try simp [isLit] at *)<;>cases hb<;>(try simp [isLit] at *) <;>
  (unfold eqGuard;cases op<;>simp)
theorem notNil_run {s H T a a' b b'} (w:World) (ha:VRel s H a a') (hb:VRel s H b b') (h:notNil P T a b=true) :
  (Op.equal T a' b').run P w=.ok false w∧(Op.equal T b' a').run P w=.ok false w∧∀ op x y,(eqGuard op T x y a' b').run P w=.ok () w∧(eqGuard op T x y b' a').run P w=.ok () w :=
 ⟨(notNil_eq w 9999 ha hb h).1,(notNil_eq w 9999 ha hb h).2,fun op x y=>notNil_guard w ha hb h op x y⟩
theorem aBin_sound {s H op T x y a a' b b' r} (w:World) (ha:VRel s H a a') (hb:VRel s H b b') (hr:aBin P op T x y a b=some r) :
  ∃ r',(do eqGuard op T x y a' b';binOp op T a' b':Sem Value).run P w=.ok r' w∧VRel s H r r':=by
 unfold aBin at hr
 split at hr
 · rename_i hc
   rw [ha.clos_eq hc.1,hb.clos_eq hc.2]
   cases hp:pv P (do eqGuard op T x y a b;binOp op T a b) with
   | none=>simp [hp] at hr
   | some q =>
     simp only [hp,Option.bind_some] at hr
     split at hr
     · rename_i hq;cases hr;exact ⟨_,pv_run hp w,clos_rel hq s H⟩
     · cases hr
 · split at hr
   · rename_i hn
     rcases hn with hn | hn
     · obtain ⟨e1,e2,e3⟩:=notNil_run (P:=P) w ha hb hn
       cases op<;>simp at hr<;>subst hr<;>refine ⟨_,?_,.lit _ rfl⟩ <;>
        (unfold notNil at hn;split at hn<;>(try cases hn)<;>cases ha<;>(try simp [isLit] at *)<;>cases hb<;>(try simp [isLit] at *)<;>simp [(e3 _ x y).1,binOp,e1])
     · obtain ⟨e1,e2,e3⟩:=notNil_run (P:=P) w hb ha hn
       cases op<;>simp at hr<;>subst hr<;>refine ⟨_,?_,.lit _ rfl⟩ <;>
        (unfold notNil at hn;split at hn<;>(try cases hn)<;>cases ha<;>(try simp [isLit] at *)<;>cases hb<;>(try simp [isLit] at *)<;>simp [(e3 _ x y).2,binOp,e2])
   · cases hr
def aPtrEq (P:Program) (H:AHeap) (op:BinOp) (T:TypeId) (a b:Value):Option Value :=
 match a,b with
 | .pointer (some ⟨b1, o1, some m1⟩), .pointer (some ⟨b2, o2, some m2⟩) =>
   match P.underlying T with
   | some (.pointer e) => match tsize P e with
     | some (_+1)=>if b1=b2∧o1=o2∧m1=m2∧hlen H b1=some m1 then (match op with | .eql=>some (.bool true) | .neq=>some (.bool false) | _=>none) else none
     | _=>none
   | _=>none
 | _,_=>none
theorem aPtrEq_sound {s H op T x y a a' b b' r} (w:World) (ha:VRel s H a a') (hb:VRel s H b b') (hr:aPtrEq P H op T a b=some r) :
  ∃ r',(do eqGuard op T x y a' b';binOp op T a' b':Sem Value).run P w=.ok r' w∧VRel s H r r':=by
 unfold aPtrEq at hr
 split at hr
 case h_2=>cases hr
 rename_i b1 o1 m1 b2 o2 m2
 split at hr
 case h_2=>cases hr
 rename_i e hu
 split at hr
 case h_2=>cases hr
 rename_i n hs
 split at hr
 case isFalse=>cases hr
 rename_i hc
 obtain ⟨rfl,rfl,rfl,hl⟩:=hc
 have e1:=ha.ptr_inv hl
 have e2:=hb.ptr_inv hl
 subst e1 e2
 have hsz:(sizeOf e).run P w=.ok (n+1) w:=run_sizeOf hs w
 have key:(Op.equal T (.pointer (some ⟨(s b1).blk,(s b1).base+o1,none⟩)) (.pointer (some ⟨(s b1).blk,(s b1).base+o1,none⟩))).run P w=.ok true w:=by
  show (Op.equalIn (9999+1) T _ _).run P w=_
  unfold Op.equalIn
  rw [Sem.run_bind,run_und hu]
  simp only [Result.andThen_ok]
  rw [Sem.run_bind,hsz]
  simp [sameAddr]
 cases op<;>simp only at hr<;>cases hr
 · refine ⟨.bool true,?_,.lit _ rfl⟩
   have:(eqGuard .eql T x y (.pointer (some ⟨(s b1).blk,(s b1).base+o1,none⟩)) (.pointer (some ⟨(s b1).blk,(s b1).base+o1,none⟩))).run P w=.ok () w:=by unfold eqGuard;simp
   simp only [Sem.run_bind,this,Result.andThen_ok]
   simp [binOp,key]
 · refine ⟨.bool false,?_,.lit _ rfl⟩
   have:(eqGuard .neq T x y (.pointer (some ⟨(s b1).blk,(s b1).base+o1,none⟩)) (.pointer (some ⟨(s b1).blk,(s b1).base+o1,none⟩))).run P w=.ok () w:=by unfold eqGuard;simp
   simp only [Sem.run_bind,this,Result.andThen_ok]
   simp [binOp,key]
def aBin2 (P:Program) (H:AHeap) (op:BinOp) (T:TypeId) (x y:Operand) (a b:Value):Option Value:=match aBin P op T x y a b with
 | some r=>some r
 | none=>aPtrEq P H op T a b
theorem aBin2_of {H op T x y a b r} (h:aBin P op T x y a b=some r):aBin2 P H op T x y a b=some r:=by unfold aBin2;rw [h]
theorem aBin2_sound {s H op T x y a a' b b' r} (w:World) (ha:VRel s H a a') (hb:VRel s H b b') (hr:aBin2 P H op T x y a b=some r) :
  ∃ r',(do eqGuard op T x y a' b';binOp op T a' b':Sem Value).run P w=.ok r' w∧VRel s H r r':=by
 unfold aBin2 at hr
 split at hr
 · rename_i q hq;cases hr;exact aBin_sound w ha hb hq
 · exact aPtrEq_sound w ha hb hr
end Go.Vi
namespace Go.Vi
open Go.RowKit
variable {P:Program}
theorem WRel.addRo {w0 s H w w'} (h:WRel w0 s H w) (hb:Below w.heap.size w w') (g base:Nat) (hg:w.heap.size≤g) (cs:List Value)
  (hc:∀ (j:Nat) v,cs[j]?=some v→∃ v',w'.cell? ⟨g,base+j,none⟩=some v'∧VRel s H v v') (K:Nat) (ho:One cs) :
  WRel w0 (upd s H.length ⟨g,base,K⟩) (H++[.ro cs]) w':=by
 have h':=h.below hb
 have e:=Ext.push s H (.ro cs) ⟨g,base,K⟩
 refine ⟨⟨fun b x hx=>?_,fun b b' x x' hx hx' hne ho1 hl1=>?_⟩,h'.b,h.o.push _ (by rintro _ ⟨rfl⟩;exact ho)⟩
 · rcases getElem_append_old hx with ⟨hb1,hx'⟩ | ⟨rfl,rfl⟩
   · exact (h'.h.obj b x hx').keep e (fun _=>upd_ne _ _ (by omega)) (fun _ _=>rfl)
   · intro j v hj
     rw [upd_self]
     obtain ⟨v',g1,g2⟩:=hc j v hj
     exact ⟨v',g1,g2.mono e⟩
 · rcases getElem_append_old hx with ⟨hb1,hx1⟩ | ⟨rfl,rfl⟩
   · rw [upd_ne _ _ (by omega)]
     rcases getElem_append_old hx' with ⟨hb',hx2⟩ | ⟨rfl,rfl⟩
     · rw [upd_ne _ _ (by omega)]
       exact h.h.inj b b' x x' hx1 hx2 hne ho1 hl1
     · rw [upd_self]
       have:=(h.h.obj b x hx1).lt (by cases x<;>simp_all [AObj.owned,AObj.live]) (by rintro cs rfl;cases ho1)
       exact .inl (by show (s b).blk≠g;omega)
   · cases ho1
theorem WRel.addCells {w0 s H w w'} (h:WRel w0 s H w) (hb:Below w.heap.size w w') (arr:Array Value) (T:TypeId) (fr:Nat × Nat) (hf:FrOk arr.size fr) (hg:w'.heap[w.heap.size]?=some (.cells arr T fr))
  (cs:List Value) (hl:cs.length≤arr.size) (hc:∀ (j:Nat) v,cs[j]?=some v→∃ v',arr[j]?=some v'∧VRel s H v v') (ho:One cs) :
  WRel w0 (upd s H.length ⟨w.heap.size,0,arr.size⟩) (H++[.cells cs T]) w':=by
 have h':=h.below hb
 have e:=Ext.push s H (.cells cs T) ⟨w.heap.size,0,arr.size⟩
 refine ⟨⟨fun b x hx=>?_,fun b b' x x' hx hx' hne ho1 hl1=>?_⟩,h'.b,h.o.push _ (by rintro _ ⟨rfl⟩;exact ho)⟩
 · rcases getElem_append_old hx with ⟨hb1,hx'⟩ | ⟨rfl,rfl⟩
   · exact (h'.h.obj b x hx').keep e (fun _=>upd_ne _ _ (by omega)) (fun _ _=>rfl)
   · refine ⟨by rw [upd_self],by rw [upd_self];exact h.size,arr,fr,hf,by rw [upd_self];exact hg,by rw [upd_self],hl,fun j v hj=>?_⟩
     obtain ⟨v',g1,g2⟩:=hc j v hj
     exact ⟨v',g1,g2.mono e⟩
 · rcases getElem_append_old hx with ⟨hb1,hx1⟩ | ⟨rfl,rfl⟩
   · rw [upd_ne _ _ (by omega)]
     rcases getElem_append_old hx' with ⟨hb',hx2⟩ | ⟨rfl,rfl⟩
     · rw [upd_ne _ _ (by omega)]
       exact h.h.inj b b' x x' hx1 hx2 hne ho1 hl1
     · rw [upd_self]
       have:=(h.h.obj b x hx1).lt (by cases x<;>simp_all [AObj.owned,AObj.live]) (by rintro cs rfl;cases ho1)
       exact .inl (Nat.ne_of_lt this)
   · rw [upd_self]
     rcases getElem_append_old hx' with ⟨hb',hx2⟩ | ⟨rfl,rfl⟩
     · rw [upd_ne _ _ (by omega)]
       by_cases hr:∃ cs,x'=.ro cs∧cs=[]
       · exact .inr hr
       · have:=(h.h.obj b' x' hx2).lt hl1 (fun cs he hc=>hr ⟨cs,he,hc⟩)
         exact .inl (Nat.ne_of_gt this)
     · exact absurd rfl hne
def bytesL (s:ByteArray):List Value:=s.data.toList.map fun b=>.int .u8 b.toNat
def u8s:List Value→Option (List Int)
 | []=>some []
 | .int .u8 n :: r=>(u8s r).map (n :: ·)
 | _ :: _=>none
theorem u8s_eq {cs:List Value} {xs:List Int} (h:u8s cs=some xs):cs=xs.map (Value.int .u8):=by
 induction cs generalizing xs with
 | nil=>simp [u8s] at h;subst h;rfl
 | cons c r ih =>
   unfold u8s at h
   split at h
   · rename_i heq;cases heq
   · rename_i n r' heq
     cases heq
     cases hr:u8s r with
     | none=>simp [hr] at h
     | some ys=>simp [hr] at h;subst h;simp [← ih hr]
   · cases h
def isU8 (P:Program) (e:TypeId):Bool:=match P.underlying e with | some (.int .u8)=>true | _=>false
theorem isU8_eq {e} (h:isU8 P e=true):P.underlying e=some (.int .u8):=by
 unfold isU8 at h;split at h<;>simp_all
theorem run_shape_cells {w:World} {b:Nat} {arr:Array Value} {T:TypeId} {fr} (h:w.heap[b]?=some (.cells arr T fr)):(shape b).run P w=.ok (some (T,arr.size)) w:=by
 rw [run_shape];simp [World.shape?,h]
theorem run_viewAt_cells {w:World} {b:Nat} {arr:Array Value} {T:TypeId} {fr} (h:w.heap[b]?=some (.cells arr T fr)):(viewAt b).run P w=.ok none w:=by
 unfold viewAt
 rw [Sem.run_bind,run_shape_cells h]
 simp
theorem run_cellsIn_cells {w:World} {b:Nat} {arr:Array Value} {T:TypeId} {fr} (h:w.heap[b]?=some (.cells arr T fr)):(cellsIn b).run P w=.ok (some arr.size) w:=by
 unfold cellsIn
 rw [Sem.run_bind,run_shape_cells h]
 simp
theorem run_seenAt_cells {w:World} {b o:Nat} {arr:Array Value} {T:TypeId} {fr} (h:w.heap[b]?=some (.cells arr T fr)):(Conv.seenAt ⟨b,o,none⟩).run P w=.ok ⟨b,o,none⟩ w:=by
 unfold Conv.seenAt
 rw [Sem.run_bind,run_viewAt_cells h]
 simp
theorem liesAt_row {e:TypeId} {z:Nat} (hz:P.cellsOf e=z) (h0:z≠0) (count off n:Nat) (hn:off+n≤count):liesAt P P.depth e count (off*z) e n=true:=by
 have hd:P.depth=(2*(P.types.size+Made.depth)+1)+1:=rfl
 rw [hd]
 simp only [liesAt,Bool.or_eq_true]
 left
 rw [hd]
 have h1:off*z / z=off:=Nat.mul_div_cancel _ (Nat.pos_of_ne_zero h0)
 simp [rowAt,hz,h0,hn,sameLayout,h1]
def aPtrConv (P:Program) (H:AHeap) (src dst:TypeId) (v:Value):Option (Value × AHeap) :=
 match P.underlying src,P.underlying dst with
 | some (.pointer t), some .unsafePointer => match v with
   | .pointer none=>some (v,H)
   | .pointer (some ⟨b, o, some m⟩) => match H[b]? with
     | some (.cells cs _)=>if m=cs.length∧o < cs.length∧(tsize P t).any (·≠0)=true then some (v,H) else none
     | _=>none
   | _=>none
 | some .unsafePointer, some (.pointer u) => match v with
   | .pointer none=>some (v,H)
   | .pointer (some ⟨b, o, some m⟩) => match H[b]? with
     | some (.cells cs T)=>if m=cs.length∧o=0∧T=u∧tsize P u=some (P.cellsOf u)∧P.cellsOf u≠0∧P.cellsOf u≤cs.length then some (v,H) else none
     | _=>none
   | _=>none
 | _,_=>none
theorem aPtrConv_sound {w0 s H w src dst v v' r H'} (h:WRel w0 s H w) (hv:VRel s H v v') (hr:aPtrConv P H src dst v=some (r,H')) :
  ∃ s' r' w',(convert src dst v').run P w=.ok r' w'∧WRel w0 s' H' w'∧Ext s H s' H'∧VRel s' H' r r':=by
 unfold aPtrConv at hr
 split at hr
 · rename_i t hs hd
   split at hr
   · cases hr
     have:=hv.lit_inv rfl;subst this
     exact ⟨s,_,w,by simp [convert,Conv.unsafePointer,run_und hs,run_und hd],h,Ext.refl _ _,hv⟩
   · rename_i b o m
     split at hr
     · rename_i cs T hb
       split at hr
       · rename_i hc
         obtain ⟨rfl,ho,hz⟩:=hc
         cases hr
         have hl:hlen H b=some cs.length:=by simp [hlen,hb,AObj.len]
         have e1:=hv.ptr_inv hl
         subst e1
         obtain ⟨h0,_,arr,_,_,ha,_,hle,_⟩:=h.h.obj b _ hb
         rw [h0] at hv ⊢
         cases hts:tsize P t with
         | none=>simp [hts] at hz
         | some z =>
           have hz':z≠0:=by simpa [hts] using hz
           have e2:=run_seenAt_cells (P:=P) (o:=0+o) ha
           have e3:=run_cellsIn_cells (P:=P) ha
           have e4:=run_sizeOf hts w
           refine ⟨s,_,w,?_,h,Ext.refl _ _,hv⟩
           have hnot:¬ arr.size≤0+o:=by omega
           simp only [Nat.zero_add] at e2 hnot ⊢
           simp [convert,Conv.unsafePointer,run_und hs,run_und hd,e2,e3,e4,hz',hnot]
       · cases hr
     · cases hr
   · cases hr
 · rename_i u hs hd
   split at hr
   · cases hr
     have:=hv.lit_inv rfl;subst this
     exact ⟨s,_,w,by simp [convert,Conv.unsafePointer,run_und hs,run_und hd],h,Ext.refl _ _,hv⟩
   · rename_i b o m
     split at hr
     · rename_i cs T hb
       split at hr
       · rename_i hc
         obtain ⟨rfl,rfl,rfl,hz,hz0,hle2⟩:=hc
         cases hr
         have hl:hlen H b=some cs.length:=by simp [hlen,hb,AObj.len]
         have e1:=hv.ptr_inv hl
         subst e1
         obtain ⟨h0,_,arr,_,_,ha,_,hle,_⟩:=h.h.obj b _ hb
         rw [h0] at hv ⊢
         have e2:=run_seenAt_cells (P:=P) (o:=0+0) ha
         have e4:=run_sizeOf hz w
         have hcount:0+1≤arr.size / P.cellsOf T:=(Nat.le_div_iff_mul_le (Nat.pos_of_ne_zero hz0)).2 (by omega)
         have e5:=liesAt_row (P:=P) (e:=T) rfl hz0 (arr.size / P.cellsOf T) 0 1 hcount
         have e6:(variablesAt ⟨(s b).blk,0+0,none⟩ T 1).run P w=.ok true w:=by
          unfold variablesAt
          simp [run_shape,World.shape?,ha]
          simpa using e5
         refine ⟨s,_,w,?_,h,Ext.refl _ _,hv⟩
         simp at e2 e6
         simp [convert,Conv.unsafePointer,run_und hs,run_und hd,e2,e4,e6,hz0]
       · cases hr
     · cases hr
   · cases hr
 · cases hr
theorem WRel.toRo {w0 s H w w'} (h:WRel w0 s H w) {b:Nat} {cs:List Value} {T:TypeId} (hb:H[b]?=some (.cells cs T)) (hw:∀ i,i≠(s b).blk→w'.heap[i]?=w.heap[i]?)
  (hc:∀ a v,w.cell? a=some v→w'.cell? a=some v) (hbel:Below w0.heap.size w0 w'):WRel w0 s (H.set b (.ro cs)) w':=by
 have hlt:=(List.getElem?_eq_some_iff.1 hb).1
 have e:Ext s H s (H.set b (.ro cs)):=Ext.set hb (by simp [AObj.len]) (by simp) (by simp)
 have hcs:hcells H b=some cs:=by simp [hcells,hb]
 refine ⟨⟨fun b' x hx=>?_,fun b1 b2 x x' hx hx' hne ho hl=>?_⟩,hbel,h.o.set _ _ (by rintro _ ⟨rfl⟩;exact h.o b cs hcs)⟩
 · by_cases q:b=b'
   · subst q
     rw [List.getElem?_set_self hlt] at hx
     simp at hx;subst hx
     intro j v hj
     obtain ⟨v',g1,g2⟩:=h.h.cell hcs hj
     exact ⟨v',hc _ _ g1,g2.mono e⟩
   · rw [List.getElem?_set_ne q] at hx
     refine (h.h.obj b' x hx).keep e (fun _=>rfl) (fun hl hr=>hw _ ?_)
     rcases h.h.inj b b' _ x hb hx q rfl hl with h1 | ⟨cs,h1,h2⟩
     · exact fun h2=>h1 h2.symm
     · exact absurd h2 (hr cs h1)
 · by_cases q:b=b1
   · subst q
     rw [List.getElem?_set_self hlt] at hx
     simp at hx;subst hx
     cases ho
   · rw [List.getElem?_set_ne q] at hx
     by_cases q':b=b2
     · subst q'
       rcases h.h.inj b1 b x _ hx hb hne ho rfl with h1 | ⟨_,h1,_⟩
       · exact .inl h1
       · cases h1
     · rw [List.getElem?_set_ne q'] at hx'
       exact h.h.inj b1 b2 x x' hx hx' hne ho hl
theorem freeze_cell {w:World} {p:Addr} {n:Nat} (a:Addr) (v:Value) (h:w.cell? a=some v):(w.freeze p n).cell? a=some v:=by
 rw [← h]
 unfold World.freeze
 split
 · rfl
 · unfold World.cell?
   simp only [Array.getElem?_modify]
   by_cases hp:p.block=a.block
   · rw [if_pos hp]
     cases hb:w.heap[a.block]? with
     | none=>rfl
     | some o=>cases o<;>rfl
   · rw [if_neg hp]
theorem freeze_other {w:World} {p:Addr} {n i:Nat} (h:i≠p.block):(w.freeze p n).heap[i]?=w.heap[i]?:=by
 unfold World.freeze
 split
 · rfl
 · simp only [Array.getElem?_modify]
   rw [if_neg (fun e=>h e.symm)]
def sbO (e:TypeId) (st:ByteArray):AObj:=if st.size=0 then .ro (bytesL st) else .cells (bytesL st) e
def aConv (P:Program) (H:AHeap) (src dst:TypeId) (v:Value):Option (Value × AHeap) :=
 match v with
 | .string st =>
   match P.underlying src,P.underlying dst with
   | some .string,some .string=>some (v,H)
   | some .string,some (.slice e)=>if isU8 P e=true then some (.slice (some ⟨H.length,0,some st.size⟩) st.size st.size,H++[sbO e st]) else none
   | _,_=>none
 | .int _ n => match P.underlying src, P.underlying dst with
   | some (.int _),some (.int k)=>some (.int k (k.wrap n),H)
   | _,_=>none
 | .slice none _ _ => match P.underlying src, P.underlying dst with
   | some (.slice e),some .string=>if isU8 P e=true then some (.string ByteArray.empty,H) else none
   | _,_=>none
 | .slice (some ⟨b, o, some m⟩) n _ => match P.underlying src, P.underlying dst with
   | some (.slice e), some .string =>
     match hcells H b with
     | some cs=>if isU8 P e=true∧m=cs.length∧o+n≤cs.length then (u8s ((cs.drop o).take n)).map fun xs=>(.string (strOfNums xs),H) else none
     | none=>none
   | some (.slice _), some (.slice e) => match H[b]? with
     | some (.cells cs _)=>if (src == dst)=true∧isU8 P e=true∧m=cs.length∧n=cs.length∧0 < n then some (v,H.set b (.ro cs)) else none
     | _=>none
   | _,_=>none
 | .pointer p=>aPtrConv P H src dst (.pointer p)
 | _=>none
theorem aConv_sound {w0 s H w src dst v v' r H'} (h:WRel w0 s H w) (hv:VRel s H v v') (hr:aConv P H src dst v=some (r,H')) :
  ∃ s' r' w',(convert src dst v').run P w=.ok r' w'∧WRel w0 s' H' w'∧Ext s H s' H'∧VRel s' H' r r':=by
 unfold aConv at hr
 split at hr
 · rename_i st
   have:=hv.lit_inv rfl;subst this
   split at hr
   · rename_i hs hd
     cases hr
     exact ⟨s,.string st,w,by simp [convert,run_und hs,run_und hd],h,Ext.refl _ _,.lit _ rfl⟩
   · rename_i e hs hd
     split at hr
     · rename_i he
       replace he:=isU8_eq he
       cases hr
       have hbel:Below w.heap.size w (Lib.bytesWorld w e st):=⟨rfl,rfl,rfl,by rw [Lib.bytesWorld_size];omega,fun k hk=>Lib.bytesWorld_at_old w e st k hk⟩
       by_cases hz:st.size=0
       · unfold sbO
         rw [if_pos hz]
         have hadd:=h.addRo hbel w.heap.size 0 (Nat.le_refl _) (bytesL st) (fun j v hj=>by
          simp only [bytesL,List.getElem?_map] at hj
          cases hg:st.data.toList[j]? with
          | none=>rw [hg] at hj;cases hj
          | some b =>
            rw [hg] at hj
            cases hj
            have hlt:=(List.getElem?_eq_some_iff.1 hg).1
            refine ⟨.int .u8 b.toNat,?_,.lit _ rfl⟩
            rw [Nat.zero_add,Lib.bytesWorld_cell w e st j (by simpa using hlt),List.getD_eq_getElem?_getD,hg]
            rfl) 0 (by intro v hv;simp only [bytesL,List.mem_map] at hv;obtain ⟨b,_,rfl⟩:=hv;rfl)
         refine ⟨_,_,_,Lib.run_convert_string_bytes w src dst e st hs hd he,hadd,Ext.push _ _ _ _,?_⟩
         refine .slice _ _ _ _ _ _ _ (by simp) fun L hL=>?_
         have hL':L=st.size:=by
          simp [hlen,AObj.len,bytesL] at hL
          omega
         subst hL'
         refine ⟨Nat.le_refl _,fun _=>⟨fun _=>by rw [upd_self],Nat.le_refl _,?_,fun cs T hc=>by simp at hc⟩⟩
         unfold grownCap
         simp [Question.cut]
       · unfold sbO
         rw [if_neg hz]
         have hbs:(bytesL st).length=st.size:=by simp [bytesL]
         have hcap:(Lib.bytesCells w e st).size=grownCap w st.size 0 e:=by
          have:=grownCap_ge w st.size 0 e
          simp [Lib.bytesCells]
          omega
         have hone:One (bytesL st):=by intro v hv;simp only [bytesL,List.mem_map] at hv;obtain ⟨b,_,rfl⟩:=hv;rfl
         have hnew:=Lib.bytesWorld_at_new w e st
         have hadd:=h.addCells hbel (Lib.bytesCells w e st) e _ (fun j hj=>by simp;omega) hnew (bytesL st) (by rw [hbs,hcap];exact grownCap_ge w st.size 0 e) (fun j v hj=>by
          simp only [bytesL,List.getElem?_map] at hj
          cases hg:st.data.toList[j]? with
          | none=>rw [hg] at hj;cases hj
          | some b =>
            rw [hg] at hj
            cases hj
            have hlt:=(List.getElem?_eq_some_iff.1 hg).1
            refine ⟨.int .u8 b.toNat,?_,.lit _ rfl⟩
            have:=Lib.bytesWorld_cell w e st j (by simpa using hlt)
            rw [cell_of_heap hnew,List.getD_eq_getElem?_getD,hg] at this
            exact this) hone
         refine ⟨_,_,_,Lib.run_convert_string_bytes w src dst e st hs hd he,hadd,Ext.push _ _ _ _,?_⟩
         refine .slice _ _ _ _ _ _ _ (by simp) fun L hL=>?_
         have hL':L=st.size:=by
          simp [hlen,AObj.len,hbs] at hL
          omega
         subst hL'
         refine ⟨Nat.le_refl _,fun _=>⟨fun _=>by rw [upd_self],Nat.le_refl _,grownCap_ge w st.size 0 e,fun cs T hc=>⟨fun q=>absurd q hz,fun sz hq=>?_⟩⟩⟩
         rw [upd_self,hcap]
         have:sz=1:=Nat.eq_of_mul_eq_mul_left (show 0 < st.size by omega) (by omega)
         subst this
         simp
     · cases hr
   · cases hr
 · rename_i kk n
   have:=hv.lit_inv rfl;subst this
   split at hr
   · rename_i k0 k hs hd
     cases hr
     exact ⟨s,.int k (k.wrap n),w,by simp [convert,run_und hs,run_und hd,Conv.intToInt],h,Ext.refl _ _,.lit _ rfl⟩
   · cases hr
 · rename_i l c
   have:=hv.lit_inv rfl;subst this
   split at hr
   · rename_i e hs hd
     split at hr
     · rename_i he
       replace he:=isU8_eq he
       cases hr
       exact ⟨s,_,w,run_convert_bytes_nil w src e hs he _ _ dst hd,h,Ext.refl _ _,.lit _ rfl⟩
     · cases hr
   · cases hr
 · rename_i b o m n c
   split at hr
   · rename_i e hs hd
     split at hr
     · rename_i cs hcs
       split at hr
       · rename_i hc
         obtain ⟨he,rfl,hle⟩:=hc
         replace he:=isU8_eq he
         cases hx:u8s ((cs.drop o).take n) with
         | none=>simp [hx] at hr
         | some xs =>
           simp [hx] at hr
           obtain ⟨rfl,rfl⟩:=hr
           have hxs:=u8s_eq hx
           have hl:xs.length=n:=by
            have:=congrArg List.length hxs
            simp at this;omega
           obtain ⟨a',c',rfl,ha,hnc,hcc,_⟩:=hv.slice_inv (hcells_len hcs)
           by_cases hn:n=0
           · subst hn
             have:xs=[]:=List.eq_nil_of_length_eq_zero hl
             subst this
             refine ⟨s,.string (strOfNums []),w,?_,h,Ext.refl _ _,.lit _ rfl⟩
             rw [show convert src dst (.slice (some a') 0 c')=convert src dst (.slice (some a') 0 c') from rfl]
             have hlc:(loadCells a' 0).run P w=.ok #[] w:=rfl
             simp [convert,run_und hs,run_und hd,run_und he,Conv.bytesToString,hlc,strOfNums]
             rfl
           · have:=ha (by omega);subst this
             refine ⟨s,_,w,run_convert_bytes_arg w src e hs he _ _ n c' xs hl (fun i hi=>?_) dst hd,h,Ext.refl _ _,.lit _ rfl⟩
             have hi2:((cs.drop o).take n)[i]?=some (.int .u8 (xs.getD i 0)):=by
              rw [hxs,List.getElem?_map,List.getElem?_eq_getElem (by omega)]
              simp [List.getD_eq_getElem?_getD,List.getElem?_eq_getElem (show i < xs.length by omega)]
             rw [List.getElem?_take,if_pos hi,List.getElem?_drop] at hi2
             obtain ⟨v',g1,g2⟩:=h.h.cell hcs hi2
             rw [g2.lit_inv rfl] at g1
             rw [Nat.add_assoc];exact g1
       · cases hr
     · cases hr
   · rename_i e0 e hs hd
     split at hr
     · rename_i cs T hb
       split at hr
       · rename_i hc
         obtain ⟨he1,he,rfl,rfl,h0⟩:=hc
         replace he:=isU8_eq he
         cases hr
         have hlen0:hlen H b=some cs.length:=by simp [hlen,hb,AObj.len]
         obtain ⟨hb0,hB,arr,fr,hfr,harr,hcap,hcs,hcell⟩:=h.h.obj b _ hb
         have e:Ext s H s (H.set b (.ro cs)):=Ext.set hb (by simp [AObj.len]) (by simp) (by simp)
         have hv2:=hv.mono e
         obtain ⟨a',c',rfl,ha,_,_,_⟩:=hv.slice_inv hlen0
         have:=ha (by omega);subst this
         refine ⟨s,_,w.freeze ⟨(s b).blk,arr.size,none⟩ 1,?_,h.toRo hb (fun i hi=>freeze_other hi) (fun a v=>freeze_cell a v) (Lib.below_freeze h.b hB _),e,hv2⟩
         have hsh:w.shape? (s b).blk=some (T,arr.size):=by simp [World.shape?,harr]
         simp [convert,run_und hs,run_und hd,run_und he,he1,markStringish,hsh]
       · cases hr
     · cases hr
   · cases hr
 · exact aPtrConv_sound h hv hr
 · cases hr
end Go.Vi
namespace Go.Vi
open Go.RowKit
variable {P:Program}
def aLow:Option Value→Option Int
 | none=>some 0
 | some (.int _ i)=>some i
 | _=>none
def aHigh (n:Nat):Option Value→Option Int
 | none=>some n
 | some (.int _ i)=>some i
 | _=>none
def VRelO (s:Ren) (H:AHeap):Option Value→Option Value→Prop
 | none,none=>True
 | some v,some v'=>VRel s H v v'
 | _,_=>False
theorem run_bounds {s H lo lo' hi hi'} {l h:Int} {n cap:Nat} (isS:Bool) (w:World) (rlo:VRelO s H lo lo') (rhi:VRelO s H hi hi') (el:aLow lo=some l) (eh:aHigh n hi=some h) (h0:0≤l) (h1:l≤h) (h2:h≤cap) :
  (Instr.sliceBounds isS n cap lo' hi' none).run P w=.ok (l.toNat,h.toNat,cap) w:=by
 cases lo with
 | none =>
   cases lo' with
   | some _=>cases rlo
   | none =>
     simp [aLow] at el;subst el
     cases hi with
     | none =>
       cases hi' with
       | some _=>cases rhi
       | none=>simp [aHigh] at eh;subst eh;simp [Instr.sliceBounds]
     | some v =>
       cases hi' with
       | none=>cases rhi
       | some v' =>
         cases v<;>simp [aHigh] at eh
         subst eh
         have:=VRel.lit_inv (v:=.int _ _) rhi rfl;subst this
         simp [Instr.sliceBounds,Instr.sliceBound,asIntOf,h2,show (0:Int)≤_ from h1]
 | some u =>
   cases lo' with
   | none=>cases rlo
   | some u' =>
     cases u<;>simp [aLow] at el
     subst el
     have:=VRel.lit_inv (v:=.int _ _) rlo rfl;subst this
     cases hi with
     | none =>
       cases hi' with
       | some _=>cases rhi
       | none=>simp [aHigh] at eh;subst eh;simp [Instr.sliceBounds,Instr.sliceBound,asIntOf,h0,h1]
     | some v =>
       cases hi' with
       | none=>cases rhi
       | some v' =>
         cases v<;>simp [aHigh] at eh
         subst eh
         have:=VRel.lit_inv (v:=.int _ _) rhi rfl;subst this
         have h3:(0:Int)≤_:=Int.le_trans h0 h1
         simp [Instr.sliceBounds,Instr.sliceBound,asIntOf,h0,h2,h3]
         omega
def aSliceOp (P:Program) (H:AHeap) (T:TypeId) (x:Value) (lo hi:Option Value):Option Value :=
 match x with
 | .string st => match P.underlying T, aLow lo, aHigh st.size hi with
   | some .string,some l,some h=>if 0≤l∧l≤h∧h≤st.size then some (.string (st.extract l.toNat h.toNat)) else none
   | _,_,_=>none
 | .slice none 0 0 => match P.underlying T, aLow lo, aHigh 0 hi with
   | some (.slice e),some l,some h=>if l=0∧h=0∧(tsize P e).isSome=true then some x else none
   | _,_,_=>none
 | .slice (some ⟨b, o, some m⟩) n c => match P.underlying T, aLow lo, aHigh n hi with
   | some (.slice e), some l, some h => match tsize P e with
     | some z=>if hlen H b=some m∧0≤l∧l≤h∧h≤c∧(l=0∨(l < c∧o+c*z=m)∨(H[b]?).any (fun o=>!o.owned)=true) then some (.slice (some ⟨b,o+l.toNat*z,some m⟩) (h-l).toNat (c-l.toNat)) else none
     | none=>none
   | _,_,_=>none
 | .pointer (some ⟨b, o, some m⟩) => match P.underlying T with
   | some (.array n e) => match aLow lo, aHigh n hi, tsize P e with
     | some l,some h,some z=>if hlen H b=some m∧0≤l∧l≤h∧h≤n then some (.slice (some ⟨b,o+l.toNat*z,some m⟩) (h-l).toNat (n-l.toNat)) else none
     | _,_,_=>none
   | _=>none
 | _=>none
theorem aSliceOp_sound {B s H w0 T x x' lo lo' hi hi' r} (w:World) (hh:HRel B s H w0) (hx:VRel s H x x') (rlo:VRelO s H lo lo') (rhi:VRelO s H hi hi') (hr:aSliceOp P H T x lo hi=some r) :
  ∃ r',(Instr.sliceAt T x' lo' hi' none).run P w=.ok r' w∧VRel s H r r':=by
 unfold aSliceOp at hr
 split at hr
 · rename_i st
   have:=hx.lit_inv rfl;subst this
   split at hr
   · rename_i l h hu el eh
     split at hr
     · rename_i hc
       cases hr
       refine ⟨_,?_,.lit _ rfl⟩
       simp [Instr.sliceAt,Instr.slice,run_und hu,run_bounds false w rlo rhi el eh hc.1 hc.2.1 hc.2.2]
     · cases hr
   · cases hr
 · have:=hx.lit_inv rfl;subst this
   split at hr
   · rename_i e l h hu el eh
     split at hr
     · rename_i hc
       obtain ⟨rfl,rfl,hz⟩:=hc
       cases hr
       have hb:=run_bounds (P:=P) (cap:=0) true w rlo rhi el eh (Int.le_refl _) (Int.le_refl _) (by simp)
       obtain ⟨z,hz⟩:=Option.isSome_iff_exists.1 hz
       exact ⟨.slice none 0 0,by simp [Instr.sliceAt,Instr.slice,run_und hu,hb,run_sizeOf hz],.lit _ rfl⟩
     · cases hr
   · cases hr
 · rename_i b o m n c
   split at hr
   · rename_i e l h hu el eh
     split at hr
     · rename_i z hz
       split at hr
       · rename_i hc
         obtain ⟨hb,h0,h1,h2,h3⟩:=hc
         cases hr
         obtain ⟨a',c',rfl,ha,hnc,hcc,hk⟩:=hx.slice_inv hb
         have hbd:=run_bounds (P:=P) (cap:=c') true w rlo rhi el eh h0 h1 (by omega)
         by_cases q:c'=l.toNat
         · refine ⟨.slice (some a') (h-l).toNat 0,?_,?_⟩
           · simp [Instr.sliceAt,Instr.slice,run_und hu,hbd,run_sizeOf hz]
             exact ⟨fun hq=>absurd q hq,by omega,by omega⟩
           · refine .slice _ _ _ _ _ _ _ (hlen_of_ptr hb) fun L hL=>?_
             rw [hb] at hL;cases hL
             refine ⟨Nat.le_refl _,fun _=>⟨fun h=>absurd h (by omega),by omega,by omega,fun cs T hcs=>?_⟩⟩
             obtain ⟨k1,k2⟩:=hk cs T hcs
             refine ⟨fun _=>rfl,fun sz hsz=>?_⟩
             rw [Nat.zero_mul,Nat.add_zero]
             have hcl:cs.length=m:=by simpa [hlen,hcs,AObj.len] using hb
             obtain ⟨_,_,arr,_,_,_,hcap,hle,_⟩:=hh.obj b _ hcs
             omega
         · have hpos:0 < c':=by omega
           have:=ha hpos;subst this
           refine ⟨.slice (some ⟨(s b).blk,(s b).base+(o+l.toNat*z),none⟩) (h-l).toNat (c'-l.toNat),?_,?_⟩
           · simp [Instr.sliceAt,Instr.slice,run_und hu,hbd,run_sizeOf hz,q,add_plain,Nat.add_assoc]
             omega
           · refine .slice _ _ _ _ _ _ _ (hlen_of_ptr hb) fun L hL=>?_
             rw [hb] at hL;cases hL
             refine ⟨Nat.le_refl _,fun _=>⟨fun _=>rfl,by omega,by omega,fun cs T hcs=>?_⟩⟩
             obtain ⟨k1,k2⟩:=hk cs T hcs
             rcases h3 with h3 | ⟨h3,h4⟩ | h3
             · have hl:l.toNat=0:=by omega
               rw [hl]
               simpa using ⟨k1,k2⟩
             · refine ⟨fun q=>by omega,fun sz hsz=>?_⟩
               have k3:=k2 z h4
               have e0:(c-l.toNat)*z=c*z-l.toNat*z:=Nat.sub_mul ..
               have e1:(c-l.toNat)*sz=(c-l.toNat)*z:=by
                have:l.toNat*z≤c*z:=Nat.mul_le_mul_right _ (by omega)
                omega
               have e2:sz=z:=Nat.eq_of_mul_eq_mul_left (by omega) e1
               subst e2
               rw [Nat.sub_mul]
               have:l.toNat*sz≤c'*sz:=Nat.mul_le_mul_right _ (by omega)
               omega
             · simp [hcs,AObj.owned] at h3
       · cases hr
     · cases hr
   · cases hr
 · rename_i b o m
   split at hr
   · rename_i n e hu
     split at hr
     · rename_i l h z el eh hz
       split at hr
       · rename_i hc
         obtain ⟨hb,h0,h1,h2⟩:=hc
         cases hr
         have:=hx.ptr_inv hb;subst this
         have hbd:=run_bounds (P:=P) (cap:=n) false w rlo rhi el eh h0 h1 (by omega)
         by_cases q:n=l.toNat
         · refine ⟨.slice (some ⟨(s b).blk,(s b).base+o,none⟩) (h-l).toNat 0,?_,?_⟩
           · simp [Instr.sliceAt,run_und hu,hbd,run_sizeOf hz,Instr.sureAddr]
             exact ⟨fun hq=>absurd q hq,by omega,by omega⟩
           · refine .slice _ _ _ _ _ _ _ (hlen_of_ptr hb) fun L hL=>?_
             rw [hb] at hL;cases hL
             refine ⟨Nat.le_refl _,fun _=>⟨fun h=>absurd h (by omega),by omega,by omega,fun cs T hcs=>⟨fun _=>rfl,fun sz hsz=>?_⟩⟩⟩
             have hcl:cs.length=m:=by simpa [hlen,hcs,AObj.len] using hb
             obtain ⟨_,_,arr,_,_,_,hcap,hle,_⟩:=hh.obj b _ hcs
             omega
         · refine ⟨.slice (some ⟨(s b).blk,(s b).base+(o+l.toNat*z),none⟩) (h-l).toNat (n-l.toNat),?_,?_⟩
           · simp [Instr.sliceAt,run_und hu,hbd,run_sizeOf hz,q,Instr.sureAddr,add_plain,Nat.add_assoc]
             omega
           · refine .slice _ _ _ _ _ _ _ (hlen_of_ptr hb) fun L hL=>?_
             rw [hb] at hL;cases hL
             refine ⟨Nat.le_refl _,fun _=>⟨fun _=>rfl,by omega,by omega,fun cs T hcs=>⟨fun q=>by omega,fun sz hsz=>?_⟩⟩⟩
             have hcl:cs.length=m:=by simpa [hlen,hcs,AObj.len] using hb
             obtain ⟨_,_,arr,_,_,_,hcap,hle,_⟩:=hh.obj b _ hcs
             omega
       · cases hr
     · cases hr
   · cases hr
 · cases hr
end Go.Vi
namespace Go.Vi
open Go.RowKit
variable {P:Program}
def aSrc (H:AHeap) (z:Nat):Value→Option (Nat × List Value)
 | .slice none 0 _=>some (0,[])
 | .slice (some ⟨b, o, some m⟩) n _ => match hcells H b with
   | some cs=>if m=cs.length∧o+n*z≤cs.length then some (n,(cs.drop o).take (n*z)) else none
   | none=>none
 | .string st=>if z=1 then some (st.size,bytesL st) else none
 | _=>none
theorem bytesL_one (st:ByteArray):One (bytesL st):=by
 intro v hv
 simp only [bytesL,List.mem_map] at hv
 obtain ⟨b,_,rfl⟩:=hv
 rfl
theorem bytesL_lit (st:ByteArray) (s:Ren) (H:AHeap):VRelL s H (bytesL st) (bytesL st):=⟨rfl,fun i x y hx hy=>by
 rw [hx] at hy;cases hy
 have:=List.mem_of_getElem? hx
 simp only [bytesL,List.mem_map] at this
 obtain ⟨b,_,rfl⟩:=this
 exact .lit _ rfl⟩
theorem aSrc_sound {w0 s H w z x x' n ys} (h:WRel w0 s H w) (hx:VRel s H x x') (hr:aSrc H z x=some (n,ys)) :
  ys.length=n*z∧One ys∧(Builtin.lenOf x').run P w=.ok n w∧∃ ys':List Value,VRelL s H ys ys'∧(Builtin.firstCells z n x').run P w=.ok ys'.toArray w:=by
 unfold aSrc at hr
 split at hr
 · cases hr
   have:=hx.lit_inv rfl;subst this
   exact ⟨by simp,(by intro v hv;cases hv),by simp [Builtin.lenOf],[],.nil _ _,by simp [Builtin.firstCells]⟩
 · rename_i b o m n' c
   split at hr
   · rename_i cs hcs
     split at hr
     · rename_i hc
       obtain ⟨rfl,hle⟩:=hc
       cases hr
       obtain ⟨a',c',rfl,ha,hnc,hcc,_⟩:=hx.slice_inv (hcells_len hcs)
       refine ⟨by simp;omega,(fun v hv=>h.o b cs hcs v (List.mem_of_mem_drop (List.mem_of_mem_take hv))),by simp [Builtin.lenOf],?_⟩
       by_cases hn:n=0
       · subst hn
         exact ⟨[],by simp [VRelL.nil],by simp [Builtin.firstCells,loadCells,loadCellsFrom]⟩
       · have:=ha (by omega);subst this
         obtain ⟨l',h1,h2⟩:=run_cells (P:=P) h.h hcs hle
         exact ⟨l',h2,by simp [Builtin.firstCells,h1]⟩
     · cases hr
   · cases hr
 · rename_i st
   have:=hx.lit_inv rfl;subst this
   split at hr
   · rename_i hz
     subst hz
     cases hr
     refine ⟨by simp [bytesL],bytesL_one st,by simp [Builtin.lenOf],bytesL st,bytesL_lit st s H,?_⟩
     have:st.extract 0 st.size=st:=by simp
     simp [Builtin.firstCells,this,bytesL]
     rw [← Array.toList_map,Array.toArray_toList]
   · cases hr
 · cases hr
def isSeq (P:Program) (t:TypeId):Bool:=match P.underlying t with | some (.slice _) | some .string=>true | _=>false
def aElem (P:Program) (t:TypeId):Option (TypeId × Nat × Nat) :=
 match P.underlying t with
 | some (.slice e) => match P.info? e with
   | some i => match i.zero with
     | some z=>if z.cells.size=i.size∧0 < i.size then some (e,i.size,i.bytes) else none
     | none=>none
   | none=>none
 | _=>none
theorem aElem_inv {t e z by_} (h:aElem P t=some (e,z,by_)):∃ i zv,P.underlying t=some (.slice e)∧P.info? e=some i∧i.zero=some zv∧zv.cells.size=i.size∧0 < i.size∧i.size=z∧i.bytes=by_:=by
 unfold aElem at h
 split at h
 · rename_i e' hu
   split at h
   · rename_i i hi
     split at h
     · rename_i zv hz
       split at h
       · rename_i hc
         cases h
         exact ⟨i,zv,hu,hi,hz,hc.1,hc.2,rfl,rfl⟩
       · cases h
     · cases h
   · cases h
 · cases h
def aAppend (P:Program) (H:AHeap) (t t2:TypeId) (d x:Value):Option (Value × AHeap) :=
 match aElem P t with
 | some (e, z, by_) =>
   match aSrc H z x with
   | some (k, ys) =>
     if isSeq P t2=true then
      match d with
      | .slice none 0 0 =>
        if k=0 then some (d,H)
        else if k*by_≤140737488355328∧k≤9223372036854775807 then some (.slice (some ⟨H.length,0,some ys.length⟩) k k,H++[.cells ys e]) else none
      | .slice (some ⟨b, o, some m⟩) n c =>
        match H[b]? with
        | some (.cells cs T) =>
          if m=cs.length∧T=e∧o+c*z=m∧n≤c then
           if n+k≤c then some (.slice (some ⟨b,o,some m⟩) (n+k) c,H.set b (.cells (putCells cs (o+n*z) ys) T))
           else if o=0∧(n+k)*by_≤140737488355328∧n+k≤9223372036854775807 then
            some (.slice (some ⟨b,0,some ((n+k)*z)⟩) (n+k) (n+k),H.set b (.cells (cs.take (n*z)++ys) T))
           else none
          else none
        | _=>none
      | _=>none
     else none
   | none=>none
 | none=>none
theorem grow_run {t t2 e ty:TypeId} {i:TypeInfo} {zv:Value} (w:World) (ht:P.underlying t=some (.slice e)) (hi:P.info? e=some i) (hz:i.zero=some zv) (h2:isSeq P t2=true)
  (base:Option Addr) (n c k:Nat) (x:Value) (old new:Array Value) (hlen:(Builtin.lenOf x).run P w=.ok k w)
  (hold:(Builtin.firstCells i.size n (.slice base n c)).run P w.drew=.ok old w.drew) (hnew:(Builtin.firstCells i.size k x).run P w.drew=.ok new w.drew)
  (hc:c < n+k) (hb:(n+k)*i.bytes≤140737488355328) (hm:n+k≤9223372036854775807) :
  (Builtin.append_ #[t,t2] ty #[.slice base n c,x]).run P w =
   .ok (.slice (some ⟨w.heap.size,0,none⟩) (n+k) (grownCap w (n+k) c e)) (w.drew.alloc (.cells (old++new++Builtin.zeroCells zv.cells (grownCap w (n+k) c e-(n+k))) e)):=by
 have hfit:Builtin.nextslicecap (n+k) c*i.bytes≤281474976710656:=growslice_fits hc hb
 have h3:∃ d2,P.underlying t2=some d2∧∀ q,d2≠.int q:=by
  unfold isSeq at h2
  split at h2
  · rename_i e2 hu;exact ⟨_,hu,by simp⟩
  · rename_i hu;exact ⟨_,hu,by simp⟩
  · cases h2
 obtain ⟨d2,hd2,hne⟩:=h3
 have hn:¬ (n+k≤c):=by omega
 have hf:¬ (281474976710656 < Builtin.nextslicecap (n+k) c*i.bytes):=by omega
 have hmx:¬ ((9223372036854775807:Int) < (n:Int)+(k:Int)):=by omega
 simp [Builtin.append_,run_und ht,run_und hd2,sizeOf,typeInfo,hi,hlen,hn,hf,IntKind.max,Question.forced,hold,hnew,zeroValue,hz,newRow,grownCap]
 intro hbad
 exfalso
 simp [IntKind.signed,IntKind.bits] at hbad
 omega
theorem room_run {t t2 e ty:TypeId} {i:TypeInfo} (w:World) (ht:P.underlying t=some (.slice e)) (hi:P.info? e=some i) (h2:isSeq P t2=true)
  (base:Option Addr) (n c k:Nat) (x:Value) (new:Array Value) (hlen:(Builtin.lenOf x).run P w=.ok k w)
  (hnew:(Builtin.firstCells i.size k x).run P w=.ok new w) (hc:n+k≤c) :
  (Builtin.append_ #[t,t2] ty #[.slice base n c,x]).run P w =
   match base with
   | some a=>((storeCells (a.add (n*i.size)) new.toList).run P w).andThen fun _ w'=>.ok (.slice (some a) (n+k) c) w'
   | none=>.ok (.slice none (n+k) c) w:=by
 have h3:∃ d2,P.underlying t2=some d2∧∀ q,d2≠.int q:=by
  unfold isSeq at h2
  split at h2
  · rename_i e2 hu;exact ⟨_,hu,by simp⟩
  · rename_i hu;exact ⟨_,hu,by simp⟩
  · cases h2
 obtain ⟨d2,hd2,hne⟩:=h3
 cases base<;>simp [Builtin.append_,run_und ht,run_und hd2,sizeOf,typeInfo,hi,hlen,hc,hnew]
theorem VRelL.getA {s H} {l l':List Value} (h:VRelL s H l l') {A:Array Value} (hA:A.toList.take l.length=l') (j:Nat) (v:Value) (hj:l[j]?=some v):∃ v',A[j]?=some v'∧VRel s H v v':=by
 obtain ⟨y,h1,h2⟩:=h.get hj
 rw [← hA,List.getElem?_take] at h1
 split at h1
 · exact ⟨y,by simpa using h1,h2⟩
 · cases h1
theorem zeroCells_size (z:Array Value) (n:Nat):(Builtin.zeroCells z n).size=n*z.size:=by simp [Builtin.zeroCells]
theorem aAppend_sound {w0 s H w t t2 ty d d' x x' r H'} (h:WRel w0 s H w) (hd:VRel s H d d') (hx:VRel s H x x') (hr:aAppend P H t t2 d x=some (r,H')) :
  ∃ s' r' w',(Builtin.append_ #[t,t2] ty #[d',x']).run P w=.ok r' w'∧WRel w0 s' H' w'∧Ext s H s' H'∧VRel s' H' r r':=by
 unfold aAppend at hr
 split at hr
 · rename_i e z by_ he
   obtain ⟨i,zv,ht,hi,hz,hzs,hz0,rfl,rfl⟩:=aElem_inv he
   split at hr
   · rename_i k ys hs
     split at hr
     · rename_i h2
       obtain ⟨hyl,hyo,hln,ys',hyv,hyf⟩:=aSrc_sound (P:=P) h hx hs
       split at hr
       · have:=hd.lit_inv rfl;subst this
         split at hr
         · rename_i hk
           subst hk
           cases hr
           exact ⟨s,.slice none 0 0,w,by rw [room_run w ht hi h2 none 0 0 0 x' _ hln hyf (Nat.le_refl _)],h,Ext.refl _ _,.lit _ rfl⟩
         · rename_i hk
           split at hr
           · rename_i hb
             cases hr
             obtain ⟨_,_,_,ys2,hyv2,hyf2⟩:=aSrc_sound (P:=P) h.drew hx hs
             have hg:=grow_run (ty:=ty) w ht hi hz h2 none 0 0 k x' #[] ys2.toArray hln (by simp [Builtin.firstCells]) hyf2 (by omega) (by simpa using hb.1) (by simpa using hb.2)
             simp only [Nat.zero_add] at hg
             have hge:=grownCap_ge w k 0 e
             have hsz:(#[]++ys2.toArray++Builtin.zeroCells zv.cells (grownCap w k 0 e-k)).size=grownCap w k 0 e*i.size:=by
              simp only [Array.size_append,zeroCells_size,hzs,List.size_toArray,← hyv2.1,hyl,List.length_nil,Nat.zero_add]
              rw [← Nat.add_mul]
              congr 1
              omega
             have hal:=h.drew.allocBig ys (#[]++ys2.toArray++Builtin.zeroCells zv.cells (grownCap w k 0 e-k)) e (by rw [hsz,hyl];exact Nat.mul_le_mul_right _ hge)
              (hyv2.getA (by simp only [Array.empty_append,Array.toList_append];rw [hyv2.1];exact List.take_left)) hyo
             refine ⟨_,_,_,hg,hal,Ext.push _ _ _ _,?_⟩
             refine .slice _ _ _ _ _ _ _ (by simp) fun L hL=>?_
             rw [hlen_last] at hL
             cases hL
             refine ⟨Nat.le_refl _,fun _=>⟨fun _=>by rw [upd_self];rfl,Nat.le_refl _,hge,fun cs T hc=>⟨fun q=>absurd q hk,fun sz hq=>?_⟩⟩⟩
             rw [upd_self]
             rw [hyl,Nat.zero_add] at hq
             have:sz=i.size:=Nat.eq_of_mul_eq_mul_left (by omega) hq
             subst this
             show 0+grownCap w k 0 e*i.size≤(#[]++ys2.toArray++Builtin.zeroCells zv.cells (grownCap w k 0 e-k)).size
             rw [hsz]
             omega
           · cases hr
       · rename_i b o m n c
         split at hr
         · rename_i cs T hb
           split at hr
           · rename_i hc
             obtain ⟨rfl,rfl,hoc,hnc⟩:=hc
             have hbl:hlen H b=some cs.length:=by simp [hlen,hb,AObj.len]
             obtain ⟨hbase,hB,arr,fr,hfr,hheap,hcap,hle,hobj⟩:=h.h.obj b _ hb
             obtain ⟨a',c',rfl,ha,_,hcc,hkk⟩:=hd.slice_inv hbl
             obtain ⟨hk1,hk2⟩:=hkk cs T hb
             have hcz:=hk2 i.size hoc
             split at hr
             · rename_i hroom
               cases hr
               have hrun:=room_run (ty:=ty) w ht hi h2 (some a') n c' k x' ys'.toArray hln hyf (by omega)
               have hmul:n*i.size+k*i.size≤c*i.size:=by rw [← Nat.add_mul];exact Nat.mul_le_mul_right _ hroom
               by_cases hc0:c'=0
               · have hk0:k=0:=by omega
                 have hn0:n=0:=by omega
                 have hc00:c=0:=by omega
                 subst hk0 hn0 hc00 hc0
                 have hy0:ys=[]:=List.eq_nil_of_length_eq_zero (by simpa using hyl)
                 subst hy0
                 have hy0':ys'=[]:=List.eq_nil_of_length_eq_zero (by simpa using hyv.1.symm)
                 subst hy0'
                 have hset:H.set b (.cells (putCells cs (o+0*i.size) []) T)=H:=by
                  have:putCells cs (o+0*i.size) []=cs:=by simp [putCells]
                  rw [this]
                  apply List.ext_getElem?
                  intro q
                  rw [List.getElem?_set]
                  split
                  · subst_vars
                    rw [if_pos (List.getElem?_eq_some_iff.1 hb).1,hb]
                  · rfl
                 rw [hset]
                 exact ⟨s,.slice (some a') 0 0,w,by rw [hrun];simp [storeCells],h,Ext.refl _ _,hd⟩
               · have:=ha (by omega);subst this
                 obtain ⟨w',g1,g2,g3⟩:=run_put (P:=P) (o:=o+n*i.size) h hb hyv hyo (by omega)
                 refine ⟨s,.slice (some ⟨(s b).blk,(s b).base+o,none⟩) (n+k) c',w',?_,g2,g3,?_⟩
                 · rw [hrun]
                   simp only [add_plain,hbase,Nat.zero_add]
                   rw [g1];rfl
                 · have hl3:hlen (H.set b (.cells (putCells cs (o+n*i.size) ys) T)) b=some cs.length:=by
                    rw [hlen_set hb (by simp [AObj.len];rw [putCells_len _ _ _ (by omega)])];exact hbl
                   refine .slice _ _ _ _ _ _ _ (by simpa using (List.getElem?_eq_some_iff.1 hb).1) fun L hL=>?_
                   rw [hl3] at hL;cases hL
                   exact ⟨Nat.le_refl _,fun _=>⟨fun _=>rfl,hroom,hcc,fun cs2 T2 _=>⟨hk1,hk2⟩⟩⟩
             · rename_i hroom
               split at hr
               · rename_i hg
                 obtain ⟨rfl,hbytes,hmax⟩:=hg
                 cases hr
                 have hncz:n*i.size≤c*i.size:=Nat.mul_le_mul_right _ hnc
                 have hnew:(cs.take (n*i.size)++ys).length=(n+k)*i.size:=by
                  rw [List.length_append,List.length_take,hyl,Nat.add_mul];omega
                 have hlt:c*i.size < (n+k)*i.size:=Nat.mul_lt_mul_of_pos_right (by omega) hz0
                 have hone:One (cs.take (n*i.size)++ys):=by
                  intro v hv
                  rcases List.mem_append.1 hv with hv | hv
                  · exact h.o b cs (by simp [hcells,hb]) v (List.mem_of_mem_take hv)
                  · exact hyo v hv
                 have hblt:=(List.getElem?_eq_some_iff.1 hb).1
                 have hlen':hlen (H.set b (.cells (cs.take (n*i.size)++ys) T)) b=some ((n+k)*i.size):=by
                  simp [hlen,List.getElem?_set_self hblt,AObj.len]
                  simpa using hnew
                 have hcells0:hcells H b=some cs:=by simp [hcells,hb]
                 by_cases hroom':n+k≤c'
                 · -- in its block
                   have:=ha (by omega);subst this
                   have hrun:=room_run (ty:=ty) w ht hi h2 (some ⟨(s b).blk,(s b).base+0,none⟩) n c' k x' ys'.toArray hln hyf hroom'
                   have hc'z:(n+k)*i.size≤c'*i.size:=Nat.mul_le_mul_right _ hroom'
                   have hfit:n*i.size+ys'.length≤arr.size:=by rw [← hyv.1,hyl,← Nat.add_mul];omega
                   have hst:=run_storeCells_fr (P:=P) (s b).blk (n*i.size) T ys' arr fr w hheap hfr hfit (hyv.one hyo)
                   have hrow:=h.row (cs':=cs.take (n*i.size)++ys) hb (arr.toList.take (n*i.size)++ys'++arr.toList.drop (n*i.size+ys'.length)).toArray
                    (by simp;omega) (by rw [hnew];omega) (by rw [hnew];simp;have:=hyv.1;rw [hyl,] at this;have:(n+k)*i.size=n*i.size+k*i.size:=Nat.add_mul ..;omega) (by
                     have hv1:VRelL s H (cs.take (n*i.size)) (arr.toList.take (n*i.size)):=by
                      refine ⟨by simp;omega,fun q u v hu hv=>?_⟩
                      rw [List.getElem?_take] at hu hv
                      split at hu
                      · obtain ⟨v',g1,g2⟩:=hobj q u hu
                        have:arr[q]?=some v:=by simpa [*] using hv
                        rw [g1] at this;cases this;exact g2
                      · cases hu
                     exact (hv1.append hyv).getA (by
                      have e1:(cs.take (n*i.size)++ys).length=(arr.toList.take (n*i.size)++ys').length:=by simp [hyv.1];omega
                      rw [e1];exact List.take_left)) hone
                   refine ⟨s,.slice (some ⟨(s b).blk,(s b).base+0,none⟩) (n+k) c',_,?_,hrow,?_,?_⟩
                   · rw [hrun]
                     simp only [add_plain,hbase,Nat.zero_add]
                     rw [hst];rfl
                   · have:=Ext.grow (s:=s) (T:=T) (cs':=cs.take (n*i.size)++ys) (s b) hb (by rw [hnew];omega) (fun _=>rfl)
                     rwa [upd_same] at this
                   · refine .slice _ _ _ _ _ _ _ (by simpa using hblt) fun L hL=>?_
                     rw [hlen'] at hL;cases hL
                     refine ⟨Nat.le_refl _,fun _=>⟨fun _=>rfl,Nat.le_refl _,hroom',fun cs2 T2 _=>⟨fun q=>by omega,fun sz hq=>?_⟩⟩⟩
                     rw [Nat.zero_add] at hq
                     have:sz=i.size:=Nat.eq_of_mul_eq_mul_left (by omega) hq
                     subst this
                     exact hcz
                 · -- in a new one
                   have hfirst:∃ old:List Value,VRelL s H (cs.take (n*i.size)) old∧(Builtin.firstCells i.size n (.slice (some a') n c')).run P w.drew=.ok old.toArray w.drew:=by
                    by_cases hn:n=0
                    · subst hn
                      exact ⟨[],by simp [VRelL.nil],by simp [Builtin.firstCells,loadCells,loadCellsFrom]⟩
                    · have:=ha (by omega);subst this
                      obtain ⟨l',g1,g2⟩:=run_cells (P:=P) (o:=0) (n:=n*i.size) h.drew.h hcells0 (by omega)
                      exact ⟨l',by simpa using g2,by simp only [Builtin.firstCells];rw [g1]⟩
                   obtain ⟨old,ho1,ho2⟩:=hfirst
                   obtain ⟨_,_,_,ys2,hyv2,hyf2⟩:=aSrc_sound (P:=P) h.drew hx hs
                   have hgr:=grow_run (ty:=ty) w ht hi hz h2 (some a') n c' k x' old.toArray ys2.toArray hln ho2 hyf2 (by omega) hbytes hmax
                   have hge:=grownCap_ge w (n+k) c' T
                   have hol:old.length=n*i.size:=by rw [← ho1.1];simp;omega
                   have hsz:(old.toArray++ys2.toArray++Builtin.zeroCells zv.cells (grownCap w (n+k) c' T-(n+k))).size=grownCap w (n+k) c' T*i.size:=by
                    simp only [Array.size_append,zeroCells_size,hzs,List.size_toArray,← hyv2.1,hyl,hol]
                    rw [← Nat.add_mul,← Nat.add_mul]
                    congr 1
                    omega
                   have hre:=h.drew.regrow (cs':=cs.take (n*i.size)++ys) hb (old.toArray++ys2.toArray++Builtin.zeroCells zv.cells (grownCap w (n+k) c' T-(n+k)))
                    (by rw [hnew];omega) (by rw [hnew,hsz];exact Nat.mul_le_mul_right _ hge) ((ho1.append hyv2).getA (by
                     have e1:(cs.take (n*i.size)++ys).length=(old++ys2).length:=by simp [hyv2.1,hol];omega
                     rw [e1]
                     simp only [Array.toList_append]
                     exact List.take_left)) hone
                   refine ⟨_,_,_,hgr,hre,Ext.grow _ hb (by rw [hnew];omega) (fun q=>by rw [hnew] at q;omega),?_⟩
                   refine .slice _ _ _ _ _ _ _ (by simpa using hblt) fun L hL=>?_
                   rw [hlen'] at hL;cases hL
                   refine ⟨Nat.le_refl _,fun _=>⟨fun _=>by rw [upd_self];rfl,Nat.le_refl _,hge,fun cs2 T2 _=>⟨fun q=>by omega,fun sz hq=>?_⟩⟩⟩
                   rw [Nat.zero_add] at hq
                   have:sz=i.size:=Nat.eq_of_mul_eq_mul_left (by omega) hq
                   subst this
                   rw [upd_self]
                   show 0+grownCap w (n+k) c' T*i.size≤(old.toArray++ys2.toArray++Builtin.zeroCells zv.cells (grownCap w (n+k) c' T-(n+k))).size
                   rw [hsz]
                   omega
               · cases hr
           · cases hr
         · cases hr
       · cases hr
     · cases hr
   · cases hr
 · cases hr
end Go.Vi
namespace Go.Vi
open Go.RowKit
variable {P:Program}
theorem foldl_set {s H} (vs vs':List Value) (hv:VRelL s H vs vs'):∀ (j off:Nat) (cs cs':Array Value),VRelL s H cs.toList cs'.toList →
  VRelL s H ((vs.zipIdx j).foldl (fun cs (c,j)=>cs.setIfInBounds (off+j) c) cs).toList ((vs'.zipIdx j).foldl (fun cs (c,j)=>cs.setIfInBounds (off+j) c) cs').toList:=by
 induction vs generalizing vs' with
 | nil => intro j off cs cs' h; cases vs' with
   | nil=>exact h
   | cons a b=>have:=hv.1;simp at this
 | cons a r ih =>
   intro j off cs cs' h
   cases vs' with
   | nil=>have:=hv.1;simp at this
   | cons a' r' =>
     have h0:VRel s H a a':=hv.2 0 a a' rfl rfl
     have hr:VRelL s H r r':=⟨by have:=hv.1;simpa using this,fun i x y hx hy=>hv.2 (i+1) x y (by simpa using hx) (by simpa using hy)⟩
     simp only [List.zipIdx_cons,List.foldl_cons]
     refine ih r' hr (j+1) off _ _ ?_
     simpa using h.set h0 (off+j)
theorem fill_rel {s H} (place:Nat→Option (Nat × Nat)) (parts parts':List (Nat × Value)) (hp:parts.length=parts'.length) (hq:∀ (i:Nat) a b,parts[i]?=some a→parts'[i]?=some b→a.1=b.1∧VRel s H a.2 b.2∧storable a.2=true) :
  ∀ (cs cs' r:Array Value),VRelL s H cs.toList cs'.toList→Instr.fill place cs parts=some r→∃ r',Instr.fill place cs' parts'=some r'∧VRelL s H r.toList r'.toList:=by
 induction parts generalizing parts' with
 | nil =>
   intro cs cs' r h hr
   cases parts' with
   | nil=>simp [Instr.fill] at hr;subst hr;exact ⟨cs',rfl,h⟩
   | cons a b=>simp at hp
 | cons a rest ih =>
   intro cs cs' r h hr
   cases parts' with
   | nil=>simp at hp
   | cons b rest' =>
     obtain ⟨i,v⟩:=a
     obtain ⟨i',v'⟩:=b
     obtain ⟨he,hv,hst⟩:=hq 0 _ _ rfl rfl
     simp only at he hv hst
     subst he
     have hcs:=hv.cells (storable_notTuple hst)
     have hsz:v'.cells.size=v.cells.size:=by have:=hcs.1;simpa using this.symm
     have hsz2:cs'.size=cs.size:=by have:=h.1;simpa using this.symm
     simp only [Instr.fill] at hr ⊢
     cases hpl:place i with
     | none=>simp [hpl] at hr
     | some os =>
       obtain ⟨off,size⟩:=os
       simp only [hpl,hsz,hsz2] at hr ⊢
       split at hr
       · cases hr
       · rename_i hc
         rw [if_neg hc]
         refine ih rest' (by simpa using hp) (fun k x y hx hy=>hq (k+1) x y (by simpa using hx) (by simpa using hy)) _ _ r ?_ hr
         have:=foldl_set v.cells.toList v'.cells.toList hcs 0 off cs cs' h
         simp only [← Array.foldl_toList,Array.toList_zipIdx]
         exact this
def aParts (sl:List Value):List (Nat × Operand)→Option (List (Nat × Value))
 | []=>some []
 | (i, x) :: r => match aev sl x, aParts sl r with
   | some v,some l=>if storable v=true then some ((i,v) :: l) else none
   | _,_=>none
theorem aParts_rel [Ctx] {s H sl a ps l} (h:ARel s H sl a) (hl:aParts sl ps=some l) :
  l.length=(ps.map fun (i,x)=>(i,a.eval x)).length∧∀ (i:Nat) x y,l[i]?=some x→(ps.map fun (i,x)=>(i,a.eval x))[i]?=some y→x.1=y.1∧VRel s H x.2 y.2∧storable x.2=true:=by
 induction ps generalizing l with
 | nil=>simp [aParts] at hl;subst hl;exact ⟨rfl,fun i x y hx=>by simp at hx⟩
 | cons p r ih =>
   obtain ⟨i0,x0⟩:=p
   simp only [aParts] at hl
   split at hl
   · rename_i v l' hv hl'
     split at hl
     · rename_i hst
       cases hl
       obtain ⟨h1,h2⟩:=ih hl'
       refine ⟨by simpa using h1,fun i x y hx hy=>?_⟩
       cases i with
       | zero=>simp at hx hy;subst hx hy;exact ⟨rfl,aev_rel h hv,hst⟩
       | succ i=>exact h2 i x y (by simpa using hx) (by simpa using hy)
     · cases hl
   · cases hl
def aPlaces (P:Program):List Field→Option (List (Nat × Nat))
 | []=>some []
 | f :: r => match tsize P f.type, aPlaces P r with
   | some n,some l=>some ((f.offset,n) :: l)
   | _,_=>none
theorem run_places {fs l} (h:aPlaces P fs=some l) (w:World):(fs.mapM (m:=Sem) fun f=>do pure (f.offset,← sizeOf f.type)).run P w=.ok l w:=by
 induction fs generalizing l with
 | nil=>simp [aPlaces] at h;subst h;simp
 | cons f r ih =>
   simp only [aPlaces] at h
   split at h
   · rename_i n l' hn hl'
     cases h
     simp only [List.mapM_cons,Sem.run_bind,run_sizeOf hn,Result.andThen_ok,ih hl',Sem.run_pure]
   · cases h
def zcells (P:Program) (t:TypeId):Option (Array Value):=match tzero P t with
 | some z=>if cok z=true∧storable z=true then some z.cells else none
 | none=>none
theorem zcells_inv {t cs} (h:zcells P t=some cs):∃ z,tzero P t=some z∧z.cells=cs∧cok z=true∧storable z=true:=by
 unfold zcells at h
 split at h
 · rename_i z hz
   split at h
   · cases h;exact ⟨z,hz,rfl,‹_∧_›.1,‹_∧_›.2⟩
   · cases h
 · cases h
def aBuild (P:Program) (t:TypeId) (parts:List (Nat × Value)):Option Value :=
 match zcells P t,P.underlying t with
 | some z, some (.struct fs) => match aPlaces P fs.toList with
   | some pl=>(Instr.fill (pl[·]?) z parts).map .agg
   | none=>none
 | some z, some (.array _ e) => match tsize P e with
   | some n=>(Instr.fill (fun i=>some (i*n,n)) z parts).map .agg
   | none=>none
 | _,_=>none
theorem aBuild_sound {s H t parts r} {parts':Array (Nat × Value)} (w:World) (hp:parts.length=parts'.toList.length) (hq:∀ (i:Nat) a b,parts[i]?=some a→parts'.toList[i]?=some b→a.1=b.1∧VRel s H a.2 b.2∧storable a.2=true) (hr:aBuild P t parts=some r) :
  ∃ r',(Instr.build t parts').run P w=.ok r' w∧VRel s H r r':=by
 unfold aBuild at hr
 split at hr
 · rename_i z fs hz hu
   obtain ⟨zv,hz1,rfl,hz2,hz3⟩:=zcells_inv hz
   split at hr
   · rename_i pl hpl
     cases hf:Instr.fill (pl[·]?) zv.cells parts with
     | none=>simp [hf] at hr
     | some cs =>
       simp [hf] at hr;subst hr
       obtain ⟨cs',g1,g2⟩:=fill_rel (fun i=>pl[i]?) parts parts'.toList hp hq zv.cells zv.cells cs ((cok_rel hz2 s H).cells (storable_notTuple hz3)) hf
       refine ⟨.agg cs',?_,.agg _ _ (by simpa using g2.1) (fun i x y hx hy=>g2.2 i x y (by simpa using hx) (by simpa using hy))⟩
       have hm:=run_places hpl w
       have hm2:(fs.mapM (m:=Sem) fun f=>do pure (f.offset,← sizeOf f.type)).run P w=.ok pl.toArray w:=by
        rw [← Array.toArray_toList (xs:=fs),List.mapM_toArray]
        simp only [Sem.run_map,Result.andThen_ok,hm]
       have g3:Instr.fill (fun i=>pl.toArray[i]?) zv.cells parts'.toList=some cs':=by
        rw [← g1];congr 1;funext i;simp
       simp only [Instr.build,Sem.run_bind,run_zero hz1,Result.andThen_ok,run_und hu,hm2]
       rw [show (fun x=>pl.toArray[x]?)=(fun i=>pl.toArray[i]?) from rfl,g3]
       rfl
   · cases hr
 · rename_i z n e hz hu
   obtain ⟨zv,hz1,rfl,hz2,hz3⟩:=zcells_inv hz
   split at hr
   · rename_i m hm
     cases hf:Instr.fill (fun i=>some (i*m,m)) zv.cells parts with
     | none=>simp [hf] at hr
     | some cs =>
       simp [hf] at hr;subst hr
       obtain ⟨cs',g1,g2⟩:=fill_rel _ parts parts'.toList hp hq zv.cells zv.cells cs ((cok_rel hz2 s H).cells (storable_notTuple hz3)) hf
       refine ⟨.agg cs',?_,.agg _ _ (by simpa using g2.1) (fun i x y hx hy=>g2.2 i x y (by simpa using hx) (by simpa using hy))⟩
       simp only [Instr.build,Sem.run_bind,run_zero hz1,Result.andThen_ok,run_und hu,run_sizeOf hm,g1]
       rfl
   · cases hr
 · cases hr
theorem cyc_rel {s H} (z:Array Value) (hz:VRelL s H z.toList z.toList) (n:Nat):VRelL s H ((Array.range n).map (z[· % z.size]!)).toList ((Array.range n).map (z[· % z.size]!)).toList:=by
 refine ⟨rfl,fun i x y hx hy=>?_⟩
 rw [hx] at hy;cases hy
 have hi:i < n:=by have:=(List.getElem?_eq_some_iff.1 hx).1;simpa using this
 obtain rfl:z[i % z.size]! = x:=by simp [hi] at hx;exact hx
 clear hx
 by_cases h0:z.size=0
 · have:z = #[]:=by simpa using h0
   subst this
   simp only [Array.size_empty]
   exact .lit _ rfl
 · have hlt:i % z.size < z.size:=Nat.mod_lt _ (by omega)
   rw [getElem!_pos z _ hlt]
   exact hz.2 (i % z.size) _ _ (by simp [hlt]) (by simp [hlt])
def repCells (z:Array Value) (n:Nat):Array Value:=(Array.range n).map (z[· % z.size]!)
def aBuildSlice (P:Program) (H:AHeap) (t:TypeId) (len:Nat) (parts:List (Nat × Value)):Option (Value × AHeap) :=
 match aElem P t with
 | some (e, z, _) => match zcells P e with
   | some zs => if len * z ≤ 16777216 then
     match Instr.fill (fun i=>some (i*z,z)) (repCells zs (len*z)) parts with
     | some cs=>if cs.size=len*z∧cs.toList.all (·.oneCell')=true then some (.slice (some ⟨H.length,0,some cs.size⟩) len len,H++[.cells cs.toList e]) else none
     | none=>none
     else none
   | none=>none
 | none=>none
theorem aBuildSlice_sound {w0 s H w t len parts r H'} {parts':Array (Nat × Value)} (h:WRel w0 s H w) (hp:parts.length=parts'.toList.length)
  (hq:∀ (i:Nat) a b,parts[i]?=some a→parts'.toList[i]?=some b→a.1=b.1∧VRel s H a.2 b.2∧storable a.2=true) (hr:aBuildSlice P H t len parts=some (r,H')) :
  ∃ s' r' w',(Instr.buildSlice t len parts').run P w=.ok r' w'∧WRel w0 s' H' w'∧Ext s H s' H'∧VRel s' H' r r':=by
 unfold aBuildSlice at hr
 split at hr
 · rename_i e z by_ he
   obtain ⟨i,zv,ht,hi,hz,hzs,hz0,rfl,rfl⟩:=aElem_inv he
   split at hr
   · rename_i zs hzc
     obtain ⟨zv',hz1,rfl,hz2,hz3⟩:=zcells_inv hzc
     have hzz:zv'=zv:=by simp [tzero,hi,hz] at hz1;exact hz1.symm
     subst hzz
     split at hr
     · rename_i hle
       split at hr
       · rename_i cs hf
         split at hr
         · rename_i hc
           cases hr
           have hzr:=(cok_rel hz2 s H).cells (storable_notTuple hz3)
           obtain ⟨cs',g1,g2⟩:=fill_rel _ parts parts'.toList hp hq _ _ cs (cyc_rel zv'.cells hzr (len*i.size)) hf
           have hone:One cs.toList:=by have:=hc.2;simp only [List.all_eq_true] at this;exact this
           have hcs':cs'.size=len*i.size:=by have:=g2.1;simp only [Array.length_toList] at this;omega
           have hal:=h.alloc cs.toList cs'.toList e g2 hone
           refine ⟨_,.slice (some ⟨w.heap.size,0,none⟩) len len,_,?_,hal,Ext.push _ _ _ _,?_⟩
           · have hle':¬ (16777216 < len*i.size):=by omega
             have hsz:tsize P e=some i.size:=by simp [tsize,hi]
             have hbody:∀ zs:Array Value,(len*i.size=0∨zs=zv'.cells)→(Array.range (len*i.size)).map (zs[· % zs.size]!)=repCells zv'.cells (len*i.size):=by
              rintro zs (h0 | rfl)
              · simp [repCells,h0]
              · rfl
             have g1':Instr.fill (fun i_1=>some (i_1*i.size,i.size)) (repCells zv'.cells (len*i.size)) parts'.toList=some cs':=g1
             by_cases hl0:len*i.size=0
             · simp only [Instr.buildSlice,Sem.run_bind,run_und ht,Result.andThen_ok,run_sizeOf hsz,Sem.run_ite,if_pos hl0,if_neg hle',Sem.run_pure]
               rw [hbody #[] (.inl hl0),g1']
               simp [newRow]
             · simp only [Instr.buildSlice,Sem.run_bind,run_und ht,Result.andThen_ok,run_sizeOf hsz,Sem.run_ite,if_neg hl0,if_neg hle',Sem.run_pure,run_zero hz1]
               rw [hbody zv'.cells (.inr rfl),g1']
               simp [newRow]
           · refine .slice _ _ _ _ _ _ _ (by simp) fun L hL=>?_
             rw [hlen_last] at hL
             cases hL
             refine ⟨by simp,fun _=>⟨fun _=>by rw [upd_self],Nat.le_refl _,Nat.le_refl _,fun cs T hc=>⟨id,fun sz hq=>?_⟩⟩⟩
             rw [upd_self]
             exact Nat.le_of_eq hq
         · cases hr
       · cases hr
     · cases hr
   · cases hr
 · cases hr
def aMake (P:Program) (H:AHeap) (t:TypeId) (l c:Value):Option (Value × AHeap) :=
 match l,c with
 | .int _ l, .int _ c => match aElem P t with
   | some (e, z, by_) => match zcells P e with
     | some zs=>if 0≤l∧l≤c∧c≤9223372036854775807∧(by_:Int)*c≤140737488355328∧zs.toList.all (·.oneCell')=true then
       some (.slice (some ⟨H.length,0,some (c.toNat*z)⟩) l.toNat c.toNat,H++[.cells (repCells zs (c.toNat*z)).toList e]) else none
     | none=>none
   | none=>none
 | _,_=>none
theorem rep_one {z:Array Value} (h:z.toList.all (·.oneCell')=true) (n:Nat):One (repCells z n).toList:=by
 intro v hv
 simp only [repCells,Array.toList_map,List.mem_map] at hv
 obtain ⟨i,_,rfl⟩:=hv
 by_cases h0:z.size=0
 · have:z = #[]:=by simpa using h0
   subst this
   rfl
 · have hlt:i % z.size < z.size:=Nat.mod_lt _ (by omega)
   rw [getElem!_pos z _ hlt]
   rw [List.all_eq_true] at h
   exact h _ (by simp)
theorem aMake_sound {w0 s H w t l l' c c' r H'} (h:WRel w0 s H w) (hl:VRel s H l l') (hc:VRel s H c c') (hr:aMake P H t l c=some (r,H')) :
  ∃ s' r' w',(Instr.makeSlice t l' c').run P w=.ok r' w'∧WRel w0 s' H' w'∧Ext s H s' H'∧VRel s' H' r r':=by
 unfold aMake at hr
 split at hr
 · rename_i kl l kc c
   have:=hl.lit_inv rfl;subst this
   have:=hc.lit_inv rfl;subst this
   split at hr
   · rename_i e z by_ he
     obtain ⟨i,zv,ht,hi,hz,hzs,hz0,rfl,rfl⟩:=aElem_inv he
     split at hr
     · rename_i zs hzc
       obtain ⟨zv',hz1,rfl,hz2,hz3⟩:=zcells_inv hzc
       have hzz:zv'=zv:=by simp [tzero,hi,hz] at hz1;exact hz1.symm
       subst hzz
       split at hr
       · rename_i hb
         obtain ⟨h0,h1,h2,h3,h4⟩:=hb
         cases hr
         have hzr:=(cok_rel hz2 s H).cells (storable_notTuple hz3)
         have hal:=h.alloc _ _ e (cyc_rel zv'.cells hzr (c.toNat*i.size)) (rep_one h4 (c.toNat*i.size))
         have hwl:IntKind.i64.wrap l=l:=by simp [IntKind.wrap,IntKind.bits,IntKind.signed];omega
         have hwc:IntKind.i64.wrap c=c:=by simp [IntKind.wrap,IntKind.bits,IntKind.signed];omega
         refine ⟨_,.slice (some ⟨w.heap.size,0,none⟩) l.toNat c.toNat,_,?_,hal,Ext.push _ _ _ _,?_⟩
         · have hsz:tsize P e=some i.size:=by simp [tsize,hi]
           have hti:(typeInfo e).run P w=.ok i w:=by simp [typeInfo,hi]
           have hn1:¬ (c < 0):=by omega
           have hn2:¬ (281474976710656 < (i.bytes:Int)*c):=by omega
           have hn3:¬ (l < 0):=by omega
           have hn4:¬ (c < l):=by omega
           by_cases hl0:c.toNat*i.size=0
           · have e1:(Array.range (c.toNat*i.size)).map ((#[]:Array Value)[· % (#[]:Array Value).size]!)=(Array.range (c.toNat*i.size)).map (zv'.cells[· % zv'.cells.size]!):=by simp [hl0]
             simp only [Instr.makeSlice,Sem.run_bind,run_und ht,Result.andThen_ok,asInt,asIntOf,Sem.run_pure,hti,hwl,hwc,run_sizeOf hsz,Sem.run_ite]
             simp [hn1,hn2,hn3,hn4,hl0,newRow,run_askRoom]
             congr 2
             simp [Array.range]
           · simp only [Instr.makeSlice,Sem.run_bind,run_und ht,Result.andThen_ok,asInt,asIntOf,Sem.run_pure,hti,hwl,hwc,run_sizeOf hsz,Sem.run_ite]
             simp [hn1,hn2,hn3,hn4,newRow,run_zero hz1,run_askRoom]
             rw [if_neg hl0]
             congr 3
             apply Array.ext' 
             simp
         · refine .slice _ _ _ _ _ _ _ (by simp) fun L hL=>?_
           rw [hlen_last] at hL
           have hL':L=c.toNat*i.size:=by simp [repCells] at hL;exact hL.symm
           subst hL'
           refine ⟨Nat.le_refl _,fun _=>⟨fun _=>by rw [upd_self],by omega,Nat.le_refl _,fun cs T hc=>⟨id,fun sz hq=>?_⟩⟩⟩
           rw [upd_self]
           rw [Nat.zero_add] at hq ⊢
           rw [hq]
           simp
       · cases hr
     · cases hr
   · cases hr
 · cases hr
end Go.Vi
namespace Go.Vi
open Go.RowKit
variable {P:Program}
theorem ba_beq (a b:ByteArray):(a == b)=true↔a=b:=by
 obtain ⟨x⟩:=a
 obtain ⟨y⟩:=b
 constructor
 · intro h
   have e:x=y:=by simpa using (show (x == y)=true from h)
   rw [e]
 · intro h
   cases h
   show (x == x)=true
   simp
def keyEq:Value→Value→Bool
 | .int j a,.int k b=>j == k && a == b
 | .string a,.string b=>a == b
 | .bool a,.bool b=>a == b
 | _,_=>false
def keyOk (d:TypeDesc) (k:Value):Bool :=
 match d,k with
 | .int j,.int j' _=>j == j'
 | .string,.string _=>true
 | .bool,.bool _=>true
 | _,_=>false
def mfind (k:Value):List (Value × Value)→Option Nat
 | []=>none
 | (k',_) :: r=>if keyEq k k'=true then some 0 else (mfind k r).map (·+1)
def mOk (d:TypeDesc) (es:List (Value × Value)):Bool:=es.all fun e=>keyOk d e.1
theorem sameNow_eq {d:TypeDesc} {k k':Value} (h:keyOk d k=true) (h':keyOk d k'=true):Instr.sameNow d k k'=some (keyEq k k'):=by
 unfold keyOk at h h'
 split at h
 · split at h'<;>simp_all [Instr.sameNow,keyEq]
 · split at h'<;>simp_all [Instr.sameNow,keyEq]
 · split at h'<;>simp_all [Instr.sameNow,keyEq]
 · cases h
theorem findNow_eq {d:TypeDesc} {k:Value} (h:keyOk d k=true):∀ (es:List (Value × Value)) (ces:List MapEntry),ces.length=es.length→mOk d es=true →
  (∀ (j:Nat) (k x:Value) (e:MapEntry),es[j]?=some (k,x)→ces[j]?=some e→e.key=k)→∀ i,Instr.findNow d k ces i=some ((mfind k es).bind fun j=>(ces[j]?).map fun e=>(i+j,e.val)):=by
 intro es
 induction es with
 | nil=>intro ces hl _ _ i;have:ces=[]:=List.eq_nil_of_length_eq_zero (by simpa using hl);subst this;rfl
 | cons e r ih =>
   intro ces hl hok hk i
   cases ces with
   | nil=>simp at hl
   | cons c cr =>
     obtain ⟨k',x⟩:=e
     have hck:c.key=k':=hk 0 k' x c rfl rfl
     simp only [mOk,List.all_cons,Bool.and_eq_true] at hok
     have hs:=sameNow_eq h hok.1
     have ih':=ih cr (by simpa using hl) hok.2 (fun j k x e h1 h2=>hk (j+1) k x e (by simpa using h1) (by simpa using h2)) (i+1)
     simp only [Instr.findNow,hck,hs,mfind]
     cases hq:keyEq k k' with
     | true=>simp
     | false =>
       simp only [ih',Bool.false_eq_true,if_false]
       congr 1
       cases mfind k r with
       | none=>rfl
       | some j=>simp;congr 1;funext e;congr 1;omega
theorem keyOk_lit {d k} (h:keyOk d k=true):isLit k=true:=by
 unfold keyOk at h;split at h<;>simp_all [isLit]
theorem checkKey_ok {kt d k} (b:Bool) (n:Nat) (w:World) (hd:P.underlying kt=some d) (h:keyOk d k=true):(Instr.checkKey b (n+1) kt k).run P w=.ok () w:=by
 unfold keyOk at h
 split at h<;>simp_all [Instr.checkKey,run_und hd]
theorem sameBits_refl {d k k'} (n:Nat) (h:keyOk d k=true) (h':keyOk d k'=true) (e:keyEq k k'=true):Instr.sameBits n k' k=true∧k'=k:=by
 unfold keyOk at h h'
 split at h
 · split at h'<;>simp_all [keyEq,Instr.sameBits]
 · split at h'<;>simp_all [keyEq,Instr.sameBits,ba_beq]
 · split at h'<;>simp_all [keyEq,Instr.sameBits]
 · cases h
def mtype (P:Program) (t:TypeId):Option (TypeDesc × TypeId) :=
 match P.underlying t with
 | some (.map k e)=>(P.underlying k).map fun d=>(d,e)
 | _=>none
theorem mtype_inv {t d e} (h:mtype P t=some (d,e)):∃ k,P.underlying t=some (.map k e)∧P.underlying k=some d:=by
 unfold mtype at h
 split at h
 · rename_i k e' hu
   cases hk:P.underlying k with
   | none=>simp [hk] at h
   | some d'=>simp [hk] at h;obtain ⟨rfl,rfl⟩:=h;exact ⟨k,hu,hk⟩
 · cases h
theorem mfind_lt {k:Value} {es:List (Value × Value)} {j:Nat} (h:mfind k es=some j):∃ k' x,es[j]?=some (k',x)∧keyEq k k'=true:=by
 induction es generalizing j with
 | nil=>cases h
 | cons e r ih =>
   obtain ⟨k',x⟩:=e
   simp only [mfind] at h
   split at h
   · rename_i hq;cases h;exact ⟨k',x,rfl,hq⟩
   · cases hm:mfind k r with
     | none=>simp [hm] at h
     | some i=>simp [hm] at h;subst h;obtain ⟨a,b,h1,h2⟩:=ih hm;exact ⟨a,b,by simpa using h1,h2⟩
def aLookup (P:Program) (H:AHeap) (t:TypeId) (m k:Value) (ok:Bool):Option Value :=
 match mtype P t with
 | some (d, e) =>
   if keyOk d k=true then
    match m with
    | .map none => match tzero P e with
      | some z=>if cok z=true then some (if ok then .tuple #[z,.bool false] else z) else none
      | none=>none
    | .map (some b) => match H[b]? with
      | some (.map es) => if mOk d es = true then
        match mfind k es with
        | some j => match es[j]? with
          | some (_,x)=>some (if ok then .tuple #[x,.bool true] else x)
          | none=>none
        | none => match tzero P e with
          | some z=>if cok z=true then some (if ok then .tuple #[z,.bool false] else z) else none
          | none=>none
        else none
      | _=>none
    | _=>none
   else none
 | none=>none
theorem pair_rel {s H x x'} (h:VRel s H x x') (b ok:Bool):VRel s H (if ok then .tuple #[x,.bool b] else x) (if ok then .tuple #[x',.bool b] else x'):=by
 cases ok with
 | false=>exact h
 | true =>
   refine .tuple _ _ rfl fun i u v hu hv=>?_
   match i with
   | 0=>simp at hu hv;subst hu hv;exact h
   | 1=>simp at hu hv;subst hu hv;exact .lit _ rfl
   | i+2=>simp at hu
theorem run_getMap {w:World} {b:Nat} {ces:Array MapEntry} {c:Nat} (h:w.heap[b]?=some (.map ces c)):(getObj b).run P w=.ok (.map ces c) w:=by
 simp [getObj,Sem.run,h]
theorem aLookup_sound {B s H w t m m' k k' ok r} (h:HRel B s H w) (hm:VRel s H m m') (hk:VRel s H k k') (hr:aLookup P H t m k ok=some r) :
  ∃ r',(Instr.lookup t m' k' ok).run P w=.ok r' w∧VRel s H r r':=by
 unfold aLookup at hr
 split at hr
 · rename_i d e ht
   obtain ⟨kt,hu,hd⟩:=mtype_inv ht
   split at hr
   · rename_i hko
     have:=hk.lit_inv (keyOk_lit hko);subst this
     split at hr
     · have:=hm.lit_inv rfl;subst this
       split at hr
       · rename_i z hz
         split at hr
         · rename_i hcz
           cases hr
           refine ⟨_,?_,pair_rel (cok_rel hcz s H) false ok⟩
           simp [Instr.lookup,run_und hu,checkKey_ok (P:=P) true 9999 w hd hko,Instr.findKey,run_und hd,Instr.findNow,run_zero hz]
         · cases hr
       · cases hr
     · rename_i b
       split at hr
       · rename_i es hb
         have:=hm.map_inv hb;subst this
         obtain ⟨_,ces,clk,hheap,hsz,_,hes⟩:=h.obj b _ hb
         split at hr
         · rename_i hok
           have hf:=findNow_eq hko es ces.toList (by simpa using hsz) hok (fun j k x e h1 h2=>(hes j k x e h1 (by simpa using h2)).1) 0
           have hck:=checkKey_ok (P:=P) ces.isEmpty 9999 w hd hko
           split at hr
           · rename_i j hj
             obtain ⟨k0,x0,g1,g2⟩:=mfind_lt hj
             rw [g1] at hr
             cases hr
             have hlt:j < ces.size:=by have:=(List.getElem?_eq_some_iff.1 g1).1;omega
             obtain ⟨_,_,q3,_⟩:=hes j k0 x0 ces[j] g1 (Array.getElem?_eq_getElem hlt)
             refine ⟨_,?_,pair_rel q3 true ok⟩
             rw [hj] at hf
             simp [hlt] at hf
             simp [Instr.lookup,run_und hu,run_getMap hheap,hck,Instr.findKey,run_und hd,hf]
           · rename_i hj
             split at hr
             · rename_i z hz
               split at hr
               · rename_i hcz
                 cases hr
                 refine ⟨_,?_,pair_rel (cok_rel hcz s H) false ok⟩
                 rw [hj] at hf
                 simp at hf
                 simp [Instr.lookup,run_und hu,run_getMap hheap,hck,Instr.findKey,run_und hd,hf,run_zero hz]
               · cases hr
             · cases hr
         · cases hr
       · cases hr
     · cases hr
   · cases hr
 · cases hr
def aUpdate (P:Program) (H:AHeap) (t:TypeId) (m k x:Value):Option AHeap :=
 match mtype P t with
 | some (d, _) =>
   match m with
   | .map (some b) => match H[b]? with
     | some (.map es)=>if keyOk d k=true∧mOk d es=true then some (H.set b (.map (match mfind k es with | some j=>es.set j (k,x) | none=>es++[(k,x)]))) else none
     | _=>none
   | _=>none
 | none=>none
theorem run_setMap {w:World} {b:Nat} {ces ces':Array MapEntry} {c c':Nat} (h:w.heap[b]?=some (.map ces c)):(setObj b (.map ces' c')).run P w=.ok () { w with heap:=w.heap.setIfInBounds b (.map ces' c') }:=by
 simp [setObj,Sem.run,h]
theorem aUpdate_sound {w0 s H w t m m' k k' x x' H'} (h:WRel w0 s H w) (hm:VRel s H m m') (hk:VRel s H k k') (hx:VRel s H x x') (hr:aUpdate P H t m k x=some H') :
  ∃ w',(Instr.mapUpdate t m' k' x').run P w=.ok () w'∧WRel w0 s H' w'∧Ext s H s H':=by
 unfold aUpdate at hr
 split at hr
 · rename_i d e ht
   obtain ⟨kt,hu,hd⟩:=mtype_inv ht
   split at hr
   · rename_i b
     split at hr
     · rename_i es hb
       split at hr
       · rename_i hc
         obtain ⟨hko,hok⟩:=hc
         cases hr
         have:=hk.lit_inv (keyOk_lit hko);subst this
         have:=hm.map_inv hb;subst this
         obtain ⟨_,ces,clk,hheap,hsz,hclk,hes⟩:=h.h.obj b _ hb
         have hf:=findNow_eq hko es ces.toList (by simpa using hsz) hok (fun j k x e h1 h2=>(hes j k x e h1 (by simpa using h2)).1) 0
         have hck:=checkKey_ok (P:=P) false 9999 w hd hko
         have hext:∀ es',Ext s H s (H.set b (.map es')):=fun es'=>Ext.set hb (by simp [AObj.len]) (fun _ _=>⟨es,rfl⟩) (by simp)
         cases hj:mfind k' es with
         | none =>
           rw [hj] at hf
           simp at hf
           refine ⟨_,?_,h.putMap (es':=es++[(k',x)]) hb (ces.push { key:=k',val:=x',born:=clk }) (clk+1) (by simp [hsz]) (by simp [hclk]) (fun j k2 x2 e2 h1 h2=>?_),hext _⟩
           · simp [Instr.mapUpdate,run_und hu,run_getMap hheap,hck,Instr.findKey,run_und hd,hf,run_setMap hheap]
           · rcases Nat.lt_or_ge j es.length with hlt | hge
             · rw [List.getElem?_append_left hlt] at h1
               rw [Array.getElem?_push,if_neg (by omega)] at h2
               exact hes j k2 x2 e2 h1 h2
             · rw [List.getElem?_append_right hge] at h1
               have hje:j=es.length:=by
                have:=(List.getElem?_eq_some_iff.1 h1).1
                simp at this;omega
               subst hje
               simp at h1
               rw [Array.getElem?_push,if_pos (by omega)] at h2
               cases h2
               obtain ⟨rfl,rfl⟩:=h1
               exact ⟨rfl,keyOk_lit hko,hx,hclk⟩
         | some j =>
           obtain ⟨k0,x0,g1,g2⟩:=mfind_lt hj
           have hlt:j < ces.size:=by have:=(List.getElem?_eq_some_iff.1 g1).1;omega
           obtain ⟨q1,q2,q3,q4⟩:=hes j k0 x0 ces[j] g1 (Array.getElem?_eq_getElem hlt)
           have hk0:keyOk d k0=true:=by
            simp only [mOk,List.all_eq_true] at hok
            exact hok _ (List.mem_of_getElem? g1)
           obtain ⟨sb,rfl⟩:=sameBits_refl 10000 hko hk0 g2
           rw [hj] at hf
           simp [hlt] at hf
           refine ⟨_,?_,h.putMap (es':=es.set j (k0,x)) hb (ces.modify j fun e=>{ e with key:=k0,val:=x' }) clk (by simp [hsz]) (by simp [hclk]) (fun i k2 x2 e2 h1 h2=>?_),hext _⟩
           · simp [Instr.mapUpdate,run_und hu,run_getMap hheap,hck,Instr.findKey,run_und hd,hf,run_setMap hheap,Instr.keyThatStays,hlt,q1,sb]
           · by_cases hij:j=i
             · subst hij
               rw [List.getElem?_set_self (by omega)] at h1
               cases h1
               rw [Array.getElem?_modify,if_pos rfl,Array.getElem?_eq_getElem hlt] at h2
               cases h2
               exact ⟨rfl,keyOk_lit hko,hx,q4⟩
             · rw [List.getElem?_set_ne hij] at h1
               rw [Array.getElem?_modify,if_neg hij] at h2
               exact hes i k2 x2 e2 h1 h2
       · cases hr
     · cases hr
   · cases hr
 · cases hr
end Go.Vi
namespace Go.Vi
open Go.RowKit
variable {P:Program}
def aCopy (P:Program) (H:AHeap) (t:TypeId) (d x:Value):Option (Value × AHeap) :=
 match aElem P t with
 | some (_, z, _) => match aSrc H z x with
   | some (k, ys) => match d with
     | .slice none 0 0=>if k=0 then some (.int .i64 0,H) else none
     | .slice (some ⟨b, o, some m⟩) n _ => match H[b]? with
       | some (.cells cs T)=>if m=cs.length∧o+n*z≤m∧k≤n then some (.int .i64 k,H.set b (.cells (cs.take o++ys++cs.drop (o+ys.length)) T)) else none
       | _=>none
     | _=>none
   | none=>none
 | none=>none
theorem aCopy_sound {w0 s H w t t2 ty d d' x x' r H'} (h:WRel w0 s H w) (hd:VRel s H d d') (hx:VRel s H x x') (hr:aCopy P H t d x=some (r,H')) :
  ∃ s' r' w',(Builtin.copy_ #[t,t2] ty #[d',x']).run P w=.ok r' w'∧WRel w0 s' H' w'∧Ext s H s' H'∧VRel s' H' r r':=by
 unfold aCopy at hr
 split at hr
 case h_2=>cases hr
 rename_i e z by_ he
 obtain ⟨i,zv,ht,hi,hz,hzs,hz0,rfl,rfl⟩:=aElem_inv he
 split at hr
 case h_2=>cases hr
 rename_i k ys hs
 obtain ⟨hyl,hyo,hln,ys',hyv,hyf⟩:=aSrc_sound (P:=P) h hx hs
 have hsz:(sizeOf e).run P w=.ok i.size w:=run_sizeOf (by simp [tsize,hi]) w
 split at hr
 · have:=hd.lit_inv rfl;subst this
   split at hr
   · rename_i hk
     subst hk
     cases hr
     refine ⟨s,.int .i64 0,w,?_,h,Ext.refl _ _,.lit _ rfl⟩
     unfold Builtin.copy_
     simp only [List.getElem?_toArray]
     simp [run_und ht,hln,hsz,hyf,goInt]
   · cases hr
 · rename_i b o m n c
   split at hr
   case h_2=>cases hr
   rename_i cs T hb
   split at hr
   case isFalse=>cases hr
   rename_i hc
   obtain ⟨rfl,hle,hkn⟩:=hc
   cases hr
   have hl:hlen H b=some cs.length:=by simp [hlen,hb,AObj.len]
   obtain ⟨a',c',rfl,ha,hnc,hcc,_⟩:=hd.slice_inv hl
   obtain ⟨h0,hB,arr,fr,hfr,harr,hcap,hcs,hcell⟩:=h.h.obj b _ hb
   have hlen':ys'.length=ys.length:=hyv.1.symm
   have hfit:o+ys.length≤cs.length:=by
    have:k*i.size≤n*i.size:=Nat.mul_le_mul_right _ hkn
    omega
   have hrow:=h.row (cs':=cs.take o++ys++cs.drop (o+ys.length)) hb (arr.toList.take o++ys'++arr.toList.drop (o+ys'.length)).toArray (by simp;omega) (by simp;omega) (by simp;omega) (fun j v hj=>by
    simp only [List.getElem?_toArray]
    by_cases h1:j < o
    · rw [List.append_assoc,List.getElem?_append_left (by simp;omega),List.getElem?_take,if_pos h1] at hj
      obtain ⟨v',g1,g2⟩:=hcell j v hj
      refine ⟨v',?_,g2⟩
      have hj':=(Array.getElem?_eq_some_iff.1 g1).1
      rw [List.append_assoc,List.getElem?_append_left (by simp;omega),List.getElem?_take,if_pos h1]
      simpa using g1
    · by_cases h2:j < o+ys.length
      · rw [List.append_assoc,List.getElem?_append_right (by simp;omega),List.getElem?_append_left (by simp;omega)] at hj
        obtain ⟨v',g1,g2⟩:=hyv.get hj
        refine ⟨v',?_,g2⟩
        rw [List.append_assoc,List.getElem?_append_right (by simp;omega),List.getElem?_append_left (by simp;omega)]
        have e1:(List.take o cs).length=o:=by simp;omega
        have e2:(List.take o arr.toList).length=o:=by simp;omega
        rw [e1] at g1
        rw [e2];exact g1
      · rw [List.getElem?_append_right (by simp;omega),List.getElem?_drop] at hj
        obtain ⟨v',g1,g2⟩:=hcell _ v hj
        refine ⟨v',?_,g2⟩
        rw [List.getElem?_append_right (by simp;omega),List.getElem?_drop]
        rw [Array.getElem?_toList,← g1]
        congr 1
        simp
        omega) (by
    intro v hv
    have hok:=h.o b cs (by simp [hcells,hb])
    simp only [List.mem_append] at hv
    rcases hv with (hv | hv) | hv
    · exact hok v (List.mem_of_mem_take hv)
    · exact hyo v hv
    · exact hok v (List.mem_of_mem_drop hv))
   have hyo':∀ v∈ys',v.oneCell'=true:=by
    intro v hv
    obtain ⟨j,hj,rfl⟩:=List.getElem_of_mem hv
    have hjy:j < ys.length:=by omega
    have:=hyv.2 j ys[j] ys'[j] (List.getElem?_eq_getElem hjy) (List.getElem?_eq_getElem hj)
    have ho:=hyo ys[j] (List.getElem_mem _)
    have key:∀ x y,VRel s H x y→x.oneCell'=true→y.oneCell'=true:=by intro x y h ho;cases h<;>simp_all [Value.oneCell']
    exact key _ _ this ho
   have e:=Ext.grow (s:=s) (cs':=cs.take o++ys++cs.drop (o+ys.length)) (T:=T) (s b) hb (by simp;omega) (fun _=>rfl)
   rw [upd_same] at e
   refine ⟨s,.int .i64 k,w.setRow (s b).blk (arr.toList.take o++ys'++arr.toList.drop (o+ys'.length)).toArray,?_,hrow,e,.lit _ rfl⟩
   have hmin:Nat.min k n=k:=Nat.min_eq_left hkn
   have hst:(storeCells a' ys').run P w=.ok () (w.setRow (s b).blk (arr.toList.take o++ys'++arr.toList.drop (o+ys'.length)).toArray):=by
    by_cases hk0:ys'=[]
    · subst hk0
      have:(arr.toList.take o++[]++arr.toList.drop (o+([]:List Value).length)).toArray=arr:=by simp
      rw [this,setRow_self w (s b).blk arr T fr harr]
      simp [storeCells]
    · have hk1:0 < k:=by
       rcases Nat.eq_zero_or_pos k with hk | hk
       · exfalso;apply hk0;apply List.eq_nil_of_length_eq_zero;rw [hlen',hyl,hk];simp
       · exact hk
      have:=ha (by omega)
      subst this
      have:=run_storeCells_fr (P:=P) (s b).blk o T ys' arr fr w harr hfr (by omega) hyo'
      rw [h0]
      simpa using this
   unfold Builtin.copy_
   simp only [List.getElem?_toArray]
   simp [run_und ht,hln,hsz,hmin,hyf,hst,goInt]
 · cases hr
def u8l:List Value→Option (List UInt8)
 | []=>some []
 | .int .u8 n :: r=>if 0≤n∧n < 256 then (u8l r).map (UInt8.ofNat n.toNat :: ·) else none
 | _ :: _=>none
theorem u8l_eq {cs:List Value}:∀ {l:List UInt8},u8l cs=some l→cs=l.map fun b=>Value.int .u8 b.toNat:=by
 induction cs with
 | nil=>intro l h;simp [u8l] at h;subst h;rfl
 | cons c r ih =>
   intro l h
   unfold u8l at h
   split at h
   · rename_i heq;cases heq
   · rename_i n r' heq
     cases heq
     split at h
     · rename_i hn
       cases hr:u8l r with
       | none=>simp [hr] at h
       | some ys =>
         simp [hr] at h
         subst h
         rw [List.map_cons,← ih hr]
         congr 2
         simp
         omega
     · cases h
   · cases h
theorem u8l_map (l:List UInt8):u8l (l.map fun b=>Value.int .u8 b.toNat)=some l:=by
 induction l with
 | nil=>rfl
 | cons b r ih =>
   have hb:b.toNat < 256:=b.toNat_lt
   simp only [List.map_cons,u8l]
   rw [if_pos ⟨by omega,by omega⟩,ih]
   simp
def aSliceData (H:AHeap) (x:Value):Option (Value × AHeap):=match x with
 | .slice none _ _=>some (.pointer none,H)
 | .slice (some ⟨b,o,some m⟩) _ c=>if 0 < c∧hlen H b=some m then some (.pointer (some ⟨b,o,some m⟩),H) else none
 | _=>none
theorem aSliceData_sound {w0 s H w ts ty x x' r H'} (h:WRel w0 s H w) (hx:VRel s H x x') (hr:aSliceData H x=some (r,H')) :
  ∃ s' r' w',(Builtin.unsafeSliceData_ ts ty #[x']).run P w=.ok r' w'∧WRel w0 s' H' w'∧Ext s H s' H'∧VRel s' H' r r':=by
 unfold aSliceData at hr
 split at hr
 · have:=hx.lit_inv rfl;subst this
   cases hr
   exact ⟨s,_,w,Lib.run_unsafeSliceData_nil w ts ty _ _,h,Ext.refl _ _,.lit _ rfl⟩
 · split at hr
   · rename_i b o m n c hc
     cases hr
     obtain ⟨a',c',rfl,ha,hnc,hcc,_⟩:=hx.slice_inv hc.2
     obtain rfl:=ha (by omega)
     exact ⟨s,_,w,Lib.run_unsafeSliceData_row w ts ty _ _ _ (by omega),h,Ext.refl _ _,.mkPtr hc.2⟩
   · cases hr
 · cases hr
def aUnsafeString (P:Program) (H:AHeap) (t:TypeId) (p n:Value):Option (Value × AHeap):=match p,n with
 | .pointer none,.int .i64 0=>some (.string .empty,H)
 | .pointer (some ⟨b, 0, some m⟩), .int .i64 n => match H[b]?, P.underlying t with
   | some (.cells cs T), some (.pointer e) => if m = cs.length ∧ T = e ∧ P.cellsOf e = 1 ∧ 0 < n ∧ n ≤ cs.length ∧ n ≤ 9223372036854775807 then match u8l (cs.take n.toNat) with
     | some l=>some (.string ⟨l.toArray⟩,H.set b (.ro cs))
     | none=>none
     else none
   | _,_=>none
 | _,_=>none
theorem aUnsafeString_sound {w0 s H w t t2 ty p p' n n' r H'} (h:WRel w0 s H w) (hp:VRel s H p p') (hn:VRel s H n n') (hr:aUnsafeString P H t p n=some (r,H')) :
  ∃ s' r' w',(Builtin.unsafeString_ #[t,t2] ty #[p',n']).run P w=.ok r' w'∧WRel w0 s' H' w'∧Ext s H s' H'∧VRel s' H' r r':=by
 unfold aUnsafeString at hr
 split at hr
 · have:=hp.lit_inv rfl;subst this
   have:=hn.lit_inv rfl;subst this
   cases hr
   exact ⟨s,_,w,Lib.run_unsafeString_none w t t2 ty none,h,Ext.refl _ _,.lit _ rfl⟩
 · rename_i b m n
   have:=hn.lit_inv rfl;subst this
   split at hr
   case h_2=>cases hr
   rename_i cs T e hb hu
   split at hr
   case isFalse=>cases hr
   rename_i hc
   obtain ⟨rfl,rfl,hce,h0,hle,h63⟩:=hc
   split at hr
   case h_2=>cases hr
   rename_i l hl
   cases hr
   have hlen0:hlen H b=some cs.length:=by simp [hlen,hb,AObj.len]
   have e1:=hp.ptr_inv hlen0
   subst e1
   obtain ⟨hb0,hB,arr,fr,hfr,harr,hcap,hcs,hcell⟩:=h.h.obj b _ hb
   have hm:=u8l_eq hl
   have hll:l.length=n.toNat:=by
    have:=congrArg List.length hm
    simp at this;omega
   have hrun:=Lib.run_unsafeString_row (P:=P) w t t2 ty T hu hce (s b).blk arr.size (by simp [World.shape?,harr]) l (by intro q;subst q;simp at hll;omega) (by omega) (by omega) (fun j x hj=>by
    have hj2:(cs.take n.toNat)[j]?=some (.int .u8 x.toNat):=by rw [hm,List.getElem?_map,hj];rfl
    have hjn:j < n.toNat:=by have:=(List.getElem?_eq_some_iff.1 hj).1;omega
    rw [List.getElem?_take,if_pos hjn] at hj2
    obtain ⟨v',g1,g2⟩:=hcell j _ hj2
    rw [add_plain,Nat.zero_add,cell_of_heap harr,g1,g2.lit_inv rfl])
   have hn':((l.length:Nat):Int)=n:=by omega
   rw [hn'] at hrun
   have e:Ext s H s (H.set b (.ro cs)):=Ext.set hb (by simp [AObj.len]) (by simp) (by simp)
   refine ⟨s,_,_,by rw [hb0];exact hrun,h.toRo hb (fun i hi=>freeze_other hi) (fun a v=>freeze_cell a v) (Lib.below_freeze h.b hB _),e,.lit _ rfl⟩
 · cases hr
end Go.Vi
namespace Go.Vi
open Go.RowKit
def aevs (sl:List Value):List Operand→Option (List Value)
 | []=>some []
 | x :: r => match aev sl x, aevs sl r with
   | some v,some l=>some (v :: l)
   | _,_=>none
theorem aevs_rel [Ctx] {s H sl a xs l} (h:ARel s H sl a) (hl:aevs sl xs=some l):VRelL s H l (xs.map a.eval):=by
 induction xs generalizing l with
 | nil=>simp [aevs] at hl;subst hl;exact .nil _ _
 | cons x r ih =>
   simp only [aevs] at hl
   split at hl
   · rename_i v l' hv hl'
     cases hl
     exact .cons (aev_rel h hv) (ih hl')
   · cases hl
def aevo (sl:List Value):Option Operand→Option (Option Value)
 | none=>some none
 | some x=>(aev sl x).map some
theorem aevo_rel [Ctx] {s H sl a x v} (h:ARel s H sl a) (hl:aevo sl x=some v):VRelO s H v (x.map a.eval):=by
 cases x with
 | none=>simp [aevo] at hl;subst hl;trivial
 | some x =>
   simp only [aevo] at hl
   cases hx:aev sl x with
   | none=>simp [hx] at hl
   | some u=>simp [hx] at hl;subst hl;exact aev_rel h hx
def aLen (P:Program) (H:AHeap) (t:TypeId) (x:Value):Option Value :=
 match P.underlying t,x with
 | some .string,.string s=>some (.int .i64 s.size)
 | some (.slice _),.slice _ n _=>some (.int .i64 n)
 | some (.map _ _),.map none=>some (.int .i64 0)
 | some (.map _ _), .map (some b) => match H[b]? with
   | some (.map es)=>some (.int .i64 es.length)
   | _=>none
 | some (.array n _),_=>some (.int .i64 n)
 | _,_=>none
theorem aLen_sound {P:Program} {B s H w t x x' r ty} {ats:Array TypeId} (h:HRel B s H w) (ht:ats[0]?=some t) (hx:VRel s H x x') (hr:aLen P H t x=some r) :
  ∃ r',(Builtin.len_ ats ty #[x']).run P w=.ok r' w∧VRel s H r r':=by
 unfold aLen at hr
 split at hr
 · rename_i st hu
   have:=hx.lit_inv rfl;subst this
   cases hr
   exact ⟨_,by simp [Builtin.len_,ht,run_und hu];rfl,.lit _ rfl⟩
 · rename_i e ad n c hu
   cases hr
   refine ⟨.int .i64 n,?_,.lit _ rfl⟩
   cases hx with
   | lit _ h=>simp [Builtin.len_,ht,run_und hu,goInt]
   | slice=>simp [Builtin.len_,ht,run_und hu,goInt]
 · rename_i k e hu
   have:=hx.lit_inv rfl;subst this
   cases hr
   exact ⟨_,by simp [Builtin.len_,ht,run_und hu];rfl,.lit _ rfl⟩
 · rename_i k e b hu
   split at hr
   · rename_i es hb
     have:=hx.map_inv hb;subst this
     cases hr
     obtain ⟨_,ces,clk,hheap,hsz,_⟩:=h.obj b _ hb
     refine ⟨.int .i64 es.length,?_,.lit _ rfl⟩
     simp [Builtin.len_,ht,run_und hu,run_getMap hheap,goInt,hsz]
   · cases hr
 · rename_i n e hu
   cases hr
   refine ⟨.int .i64 n,?_,.lit _ rfl⟩
   cases hx<;>simp [Builtin.len_,ht,run_und hu,goInt]
 · cases hr
def aRange (P:Program) (H:AHeap) (t:TypeId) (v:Value):Option (Value × AHeap):=match P.underlying t with
 | some (.map _ _) => match v with
   | .map none=>some (iterV H.length,H++[.loop (.iter v 0 [])])
   | .map (some b) => match H[b]? with
     | some (.map es)=>some (iterV H.length,H++[.loop (.iter v es.length [])])
     | _=>none
   | _=>none
 | _=>none
def aEntry (H:AHeap) (v:Value):Option Value:=match v with
 | .chan (some (b + 1)) => match H[b]? with
   | some (.loop (.iter (.map (some m)) n seen)) => match H[m]? with
     | some (.map es)=>if es.length=n then seen.getLast?.bind fun j=>(es[j]?).map fun p=>.tuple #[p.1,p.2] else none
     | _=>none
   | _=>none
 | _=>none
theorem aRange_sound {P:Program} {w0 s H w t v v' r H'} (h:WRel w0 s H w) (hv:VRel s H v v') (hr:aRange P H t v=some (r,H')) :
  ∃ s' r' w',(Instr.range t v').run P w=.ok r' w'∧WRel w0 s' H' w'∧Ext s H s' H'∧VRel s' H' r r':=by
 unfold aRange at hr
 split at hr
 case h_2=>cases hr
 rename_i kt e hu
 split at hr
 · have:=hv.lit_inv rfl;subst this
   cases hr
   refine ⟨_,_,_,?_,h.allocLoop (.iter (.map none) 0 []) (.mapIter none 0 #[] 0) ⟨none,#[],rfl,rfl,.lit _ rfl⟩,Ext.push _ _ _ _,.iter _ w.heap.size (by simp) (fun r0 _=>by rw [upd_self])⟩
   simp [Instr.range,run_und hu]
 · rename_i b
   split at hr
   case h_2=>cases hr
   rename_i es hb
   cases hr
   have:=hv.map_inv hb;subst this
   obtain ⟨_,ces,clk,hheap,hsz,hclk,_⟩:=h.h.obj b _ hb
   subst hclk
   refine ⟨_,_,_,?_,h.allocLoop (.iter (.map (some b)) es.length []) (.mapIter (some (s b).blk) es.length #[] es.length) ⟨_,#[],rfl,rfl,hv⟩,Ext.push _ _ _ _,.iter _ w.heap.size (by simp) (fun r0 _=>by rw [upd_self])⟩
   simp [Instr.range,run_und hu,run_getMap hheap]
 · cases hr
theorem aEntry_sound {P:Program} {B s H w v v' r} (h:HRel B s H w) (hv:VRel s H v v') (hr:aEntry H v=some r):∃ r',(Instr.entry v').run P w=.ok r' w∧VRel s H r r':=by
 unfold aEntry at hr
 split at hr
 case h_2=>cases hr
 rename_i b
 split at hr
 case h_2=>cases hr
 rename_i m n seen hb
 split at hr
 case h_2=>cases hr
 rename_i es hm
 split at hr
 case isFalse=>cases hr
 rename_i hn
 have:=hv.iter_inv hb;subst this
 obtain ⟨_,ob,hob,m2,a,rfl,ha,hm2⟩:=h.obj b _ hb
 have:=hm2.map_inv hm;cases this
 obtain ⟨_,ces,clk,hheap,hsz,hclk,hes⟩:=h.obj m _ hm
 cases hl:seen.getLast? with
 | none=>simp [hl] at hr
 | some j =>
   simp only [hl,Option.bind_some] at hr
   cases hj:es[j]? with
   | none=>simp [hj] at hr
   | some p =>
     obtain ⟨k,x⟩:=p
     simp only [hj,Option.map_some,Option.some.injEq] at hr
     subst hr
     have hlt:j < ces.size:=by have:=(List.getElem?_eq_some_iff.1 hj).1;omega
     obtain ⟨q1,q2,q3,q4⟩:=hes j k x ces[j] hj (Array.getElem?_eq_getElem hlt)
     have hback:a.back?=some j:=by rw [← ha] at hl;rw [← hl];simp [Array.back?,List.getLast?_eq_getElem?]
     have hfind:ces.find? (fun e=>e.born == j)=some ces[j]:=by
      rw [← Array.find?_toList]
      refine List.find?_eq_some_iff_getElem.2 ⟨by simp [q4],j,by simpa using hlt,by simp,fun i hi=>?_⟩
      have hi':i < es.length:=by have:=(List.getElem?_eq_some_iff.1 hj).1;omega
      have:=(hes i es[i].1 es[i].2 ces[i] (List.getElem?_eq_getElem hi') (Array.getElem?_eq_getElem (by omega))).2.2.2
      simp [this]
      omega
     refine ⟨.tuple #[ces[j].key,ces[j].val],?_,.tuple _ _ rfl fun i u y hu hy=>?_⟩
     · have hcl:clk=n:=by omega
       simp [Instr.entry,getObj,Sem.run,hob,hheap,hback,hcl,hfind,Result.andThen]
     · match i with
       | 0=>simp at hu hy;subst hu hy;rw [q1];exact .lit _ q2
       | 1=>simp at hu hy;subst hu hy;exact q3
       | i+2=>simp at hu
def aIsPtr:Value→Bool
 | .pointer (some _)=>true
 | _=>false
def aBuiltin (P:Program) (H:AHeap) (b:Builtin) (ats:Array TypeId) (args:List Value):Option (Value × AHeap) :=
 match b,args with
 | .len,[x]=>(ats[0]?).bind fun t=>(aLen P H t x).map (·,H)
 | .append, [d, x] => match ats.toList with
   | [t,t2]=>aAppend P H t t2 d x
   | _=>none
 | .max,[.int k a,.int k' b]=>if k=k' then some (.int k (if b > a then b else a),H) else none
 | .min,[.int k a,.int k' b]=>if k=k' then some (.int k (if b < a then b else a),H) else none
 | .cap, [.slice none _n c] => (ats[0]?).bind fun t => match P.underlying t with
   | some (.slice _)=>some (.int .i64 c,H)
   | _=>none
 | .copy, [d, x] => match ats.toList with
   | [t,_]=>aCopy P H t d x
   | _=>none
 | .unsafeSliceData,[x]=>aSliceData H x
 | .unsafeString, [p, n] => match ats.toList with
   | [t,_]=>aUnsafeString P H t p n
   | _=>none
 | _,_=>none
def isYield:Fn→Bool
 | .yield _=>true
 | _=>false
def aop (P:Program) (sl:List Value) (H:AHeap) (o:Op):Option (Value × AHeap) :=
 match o with
 | .move x | .assign x=>(aev sl x).map (·,H)
 | .pick c a b => match aev sl c with
   | some (.bool t)=>(aev sl (if t then a else b)).map (·,H)
   | _=>none
 | .alloc T => match tzero P T with
   | some z=>if cok z=true then aNew H T z else none
   | none=>none
 | .box T x=>(aev sl x).bind (aNew H T ·)
 | .build T ps=>(aParts sl ps.toList).bind fun l=>(aBuild P T l).map (·,H)
 | .buildSlice T n ps=>(aParts sl ps.toList).bind fun l=>aBuildSlice P H T n l
 | .load T a=>(aev sl a).bind fun v=>(aLoad P H T v).map (·,H)
 | .store T a x => match aev sl a, aev sl x with
   | some v,some u=>(aStore P H T v u).map (undef,·)
   | _,_=>none
 | .nilCheck x=>(aev sl x).bind fun v=>if aIsPtr v=true then some (v,H) else none
 | .binOp op T x y _ => match aev sl x, aev sl y with
   | some a,some b=>(aBin2 P H op T x y a b).map (·,H)
   | _,_=>none
 | .unOp op _ x=>(aev sl x).bind fun v=>if isLit v=true then (pv P (Op.unary op v)).bind fun r=>if isLit r=true then some (r,H) else none else none
 | .convert s d x=>(aev sl x).bind fun v=>aConv P H s d v
 | .makeInterface T x => (aev sl x).bind fun v => match P.underlying T with
   | some (.interface _)=>none
   | some _=>some (.iface T v,H)
   | none=>none
 | .makeFunc fn f c => match aevs sl f.toList, aevs sl c.toList with
   | some f,some c=>if isYield fn=true then none else some (.func fn f.toArray c.toArray,H)
   | _,_=>none
 | .makeMap t r => match r with
   | none=>some (.map (some H.length),H++[.map []])
   | some x => match aev sl x, P.underlying t with
     | some (.int _ _),some (.map _ _)=>some (.map (some H.length),H++[.map []])
     | _,_=>none
 | .makeSlice t l c => match aev sl l, aev sl c with
   | some l,some c=>aMake P H t l c
   | _,_=>none
 | .slice T x lo hi mx => match mx with
   | none => match aev sl x, aevo sl lo, aevo sl hi with
     | some x,some lo,some hi=>(aSliceOp P H T x lo hi).map (·,H)
     | _,_,_=>none
   | some _=>none
 | .fieldAddr T x f=>(aev sl x).bind fun v=>(aFieldAddr P H T v f).map (·,H)
 | .field T x f=>(aev sl x).bind fun v=>(aField P T v f).map (·,H)
 | .indexAddr T x ix => match aev sl x, aev sl ix with
   | some v,some i=>(aIndexAddr P H T v i).map (·,H)
   | _,_=>none
 | .index T x ix => match aev sl x, aev sl ix with
   | some v,some i=>(aIndex P T v i).map (·,H)
   | _,_=>none
 | .lookup T x ix ok => match aev sl x, aev sl ix with
   | some v,some i=>(aLookup P H T v i ok).map (·,H)
   | _,_=>none
 | .mapUpdate T m k x | .insert T m k x => match aev sl m, aev sl k, aev sl x with
   | some m,some k,some x=>(aUpdate P H T m k x).map (undef,·)
   | _,_,_=>none
 | .extract t i => match aev sl t with
   | some (.tuple vs)=>(vs[i]?).map (·,H)
   | _=>none
 | .call { callee:=.builtin b,args,argTypes }=>(aevs sl args.toList).bind fun l=>aBuiltin P H b argTypes l
 | .range T x=>(aev sl x).bind fun v=>aRange P H T v
 | .entry x=>(aev sl x).bind fun v=>(aEntry H v).map (·,H)
 | _=>none
def Stepped (P:Program) (w0:World) (s:Ren) (H:AHeap) (n:Sem Next) (w:World) (v:Value) (H':AHeap):Prop :=
 ∃ s' v' w',(n.run P w=.ok (.value v') w'∨(n.run P w=.ok .skip w'∧v'=undef))∧WRel w0 s' H' w'∧Ext s H s' H'∧VRel s' H' v v'
variable {P:Program}
theorem Stepped.same {w0 s H w v v'} {n:Sem Next} (h:WRel w0 s H w) (hv:VRel s H v v') (hr:n.run P w=.ok (.value v') w):Stepped P w0 s H n w v H :=
 ⟨s,v',w,.inl hr,h,Ext.refl _ _,hv⟩
theorem undef_rel (s:Ren) (H:AHeap):VRel s H undef undef:=.tuple _ _ rfl (by simp)
theorem pick_of_map {α:Type} {o:Option α} {H:AHeap} {r:α × AHeap} (h:o.map (·,H)=some r):o=some r.1∧r.2=H:=by
 cases o with
 | none=>cases h
 | some x=>cases h;exact ⟨rfl,rfl⟩
theorem aop_sound [Ctx] {w0 s H w sl a v H'} (o:Oper) (h:WRel w0 s H w) (ha:ARel s H sl a) (hr:aop P sl H o.op=some (v,H')):Stepped P w0 s H (execOp a.eval o) w v H':=by
 obtain ⟨dst,op,ty,pos,after,guard⟩:=o
 simp only at hr
 unfold aop at hr
 split at hr
 · rename_i x
   obtain ⟨h1,rfl⟩:=pick_of_map hr
   exact .same h (aev_rel ha h1) (by simp [execOp])
 · rename_i x
   obtain ⟨h1,rfl⟩:=pick_of_map hr
   exact .same h (aev_rel ha h1) (by simp [execOp])
 · rename_i c x y
   split at hr
   · rename_i t hc
     obtain ⟨h1,rfl⟩:=pick_of_map hr
     have hc':=(aev_rel ha hc).lit_inv rfl
     refine .same h (aev_rel ha h1) ?_
     cases t<;>simp [execOp,hc',asBool]
   · cases hr
 · rename_i T
   split at hr
   · rename_i z hz
     split at hr
     · rename_i hk
       obtain ⟨s',r',w',g1,g2,g3,g4⟩:=aNew_sound (P:=P) h (cok_rel hk s H) hr
       refine ⟨s',r',w',.inl ?_,g2,g3,g4⟩
       have g1':(newVar T z).run P w=.ok ⟨w.heap.size,0,none⟩ (w.alloc (.cells z.cells T)):=by simp [newVar,newRow]
       simp only [Sem.run_bind,g1',Result.andThen_ok,Sem.run_pure] at g1
       cases g1
       simp [execOp,Instr.alloc,run_zero hz,g1']
     · cases hr
   · cases hr
 · rename_i T x
   cases hx:aev sl x with
   | none=>simp [hx] at hr
   | some u =>
     simp only [hx,Option.bind_some] at hr
     obtain ⟨s',r',w',g1,g2,g3,g4⟩:=aNew_sound (P:=P) h (aev_rel ha hx) hr
     refine ⟨s',r',w',.inl ?_,g2,g3,g4⟩
     simp only [execOp,Instr.box,Sem.run_bind] at g1 ⊢
     rw [g1];rfl
 · rename_i T ps
   cases hx:aParts sl ps.toList with
   | none=>simp [hx] at hr
   | some l =>
     simp only [hx,Option.bind_some] at hr
     obtain ⟨h1,rfl⟩:=pick_of_map hr
     obtain ⟨q1,q2⟩:=aParts_rel ha hx
     obtain ⟨r',g1,g2⟩:=aBuild_sound (P:=P) (parts':=ps.map fun (i,x)=>(i,a.eval x)) w (by simpa using q1) (by simpa using q2) h1
     refine .same h g2 ?_
     simp only [execOp,Sem.run_bind]
     rw [g1];rfl
 · rename_i T n ps
   cases hx:aParts sl ps.toList with
   | none=>simp [hx] at hr
   | some l =>
     simp only [hx,Option.bind_some] at hr
     obtain ⟨q1,q2⟩:=aParts_rel ha hx
     obtain ⟨s',r',w',g1,g2,g3,g4⟩:=aBuildSlice_sound (P:=P) (parts':=ps.map fun (i,x)=>(i,a.eval x)) h (by simpa using q1) (by simpa using q2) hr
     refine ⟨s',r',w',.inl ?_,g2,g3,g4⟩
     simp only [execOp,Sem.run_bind]
     rw [g1];rfl
 · rename_i T x
   cases hx:aev sl x with
   | none=>simp [hx] at hr
   | some u =>
     simp only [hx,Option.bind_some] at hr
     obtain ⟨h1,rfl⟩:=pick_of_map hr
     obtain ⟨r',g1,g2⟩:=aLoad_sound (P:=P) h.h (aev_rel ha hx) h1
     refine .same h g2 ?_
     simp only [execOp,Sem.run_bind]
     rw [g1];rfl
 · rename_i T x y
   split at hr
   · rename_i u1 u2 hx hy
     cases hs:aStore P H T u1 u2 with
     | none=>simp [hs] at hr
     | some H2 =>
       simp [hs] at hr
       obtain ⟨rfl,rfl⟩:=hr
       obtain ⟨w',g1,g2,g3⟩:=aStore_sound (P:=P) h (aev_rel ha hx) (aev_rel ha hy) hs
       refine ⟨s,undef,w',.inr ⟨?_,rfl⟩,g2,g3,undef_rel _ _⟩
       simp only [execOp,Sem.run_bind]
       rw [g1];rfl
   · cases hr
 · rename_i x
   cases hx:aev sl x with
   | none=>simp [hx] at hr
   | some u =>
     simp only [hx,Option.bind_some] at hr
     split at hr
     · rename_i hp
       cases hr
       have hv:=aev_rel ha hx
       refine .same h hv ?_
       generalize hq:a.eval x=q at hv
       cases v<;>simp [aIsPtr] at hp
       rename_i ad
       cases ad with
       | none=>cases hp
       | some ad =>
         cases hv with
         | lit _ h=>simp [isLit] at h
         | ptr b o m p hb hh=>simp [execOp,hq]
         | glob g o=>simp [execOp,hq]
     · cases hr
 · rename_i op T x y yt
   split at hr
   · rename_i u1 u2 hx hy
     obtain ⟨h1,rfl⟩:=pick_of_map hr
     obtain ⟨r',g1,g2⟩:=aBin2_sound (P:=P) w (aev_rel ha hx) (aev_rel ha hy) h1
     refine .same h g2 ?_
     simp only [execOp,Sem.run_bind] at g1 ⊢
     rw [g1];rfl
   · cases hr
 · rename_i op T x
   cases hx:aev sl x with
   | none=>simp [hx] at hr
   | some u =>
     simp only [hx,Option.bind_some] at hr
     split at hr
     · rename_i hl
       cases hp:pv P (Op.unary op u) with
       | none=>simp [hp] at hr
       | some q =>
         simp only [hp,Option.bind_some] at hr
         split at hr
         · rename_i hq
           cases hr
           have hv:=(aev_rel ha hx).lit_inv hl
           refine .same h (.lit _ hq) ?_
           simp only [execOp,Sem.run_bind,hv]
           rw [pv_run hp w];rfl
         · cases hr
     · cases hr
 · rename_i sT dT x
   cases hx:aev sl x with
   | none=>simp [hx] at hr
   | some u =>
     simp only [hx,Option.bind_some] at hr
     obtain ⟨s',r',w',g1,g2,g3,g4⟩:=aConv_sound (P:=P) h (aev_rel ha hx) hr
     refine ⟨s',r',w',.inl ?_,g2,g3,g4⟩
     simp only [execOp,Sem.run_bind]
     rw [g1];rfl
 · rename_i T x
   cases hx:aev sl x with
   | none=>simp [hx] at hr
   | some u =>
     simp only [hx,Option.bind_some] at hr
     split at hr
     · cases hr
     · rename_i d hd hu
       cases hr
       refine .same h (.iface _ _ _ (aev_rel ha hx)) ?_
       simp only [execOp,Sem.run_bind,Instr.makeInterface,run_und hu]
       cases d<;>first | rfl | exact absurd rfl (hd _)
     · cases hr
 · rename_i fn f c
   split at hr
   · rename_i lf lc hf hc
     have hy:isYield fn=false:=by
      cases hq:isYield fn with
      | false=>rfl
      | true=>simp [hq] at hr
     simp only [hy,Bool.false_eq_true,if_false,Option.some.injEq,Prod.mk.injEq] at hr
     obtain ⟨rfl,rfl⟩:=hr
     have r1:=aevs_rel ha hf
     have r2:=aevs_rel ha hc
     refine .same h (.func fn _ _ (f.map a.eval) (c.map a.eval) (by rintro l rfl;cases hy) (by simpa using r1.1) (by simpa using r2.1) (fun i x y hx hy=>r1.2 i x y (by simpa using hx) (by simpa using hy)) (fun i x y hx hy=>r2.2 i x y (by simpa using hx) (by simpa using hy))) ?_
     simp [execOp,Instr.makeFunc]
   · cases hr
 · rename_i t r
   have push:=h.allocMap [] #[] 0 rfl rfl (fun j k x e h=>by simp at h)
   have hv:VRel (upd s H.length ⟨w.heap.size,0,0⟩) (H++[.map []]) (.map (some H.length)) (.map (some w.heap.size)):=.map _ _ (by simp) (fun es _=>by rw [upd_self])
   cases r with
   | none =>
     simp only at hr
     cases hr
     refine ⟨_,_,_,.inl ?_,push,Ext.push _ _ _ _,hv⟩
     simp [execOp,Instr.makeMap]
   | some x =>
     simp only at hr
     split at hr
     · rename_i k n kk e hx hu
       cases hr
       have hv':=(aev_rel ha hx).lit_inv rfl
       refine ⟨_,_,_,.inl ?_,push,Ext.push _ _ _ _,hv⟩
       simp [execOp,Instr.makeMap,run_und hu,hv',asInt,asIntOf]
     · cases hr
 · rename_i t l c
   split at hr
   · rename_i u1 u2 hx hy
     obtain ⟨s',r',w',g1,g2,g3,g4⟩:=aMake_sound (P:=P) h (aev_rel ha hx) (aev_rel ha hy) hr
     refine ⟨s',r',w',.inl ?_,g2,g3,g4⟩
     simp only [execOp,Sem.run_bind]
     rw [g1];rfl
   · cases hr
 · rename_i T x lo hi mx
   cases mx with
   | some _=>simp at hr
   | none =>
     simp only at hr
     split at hr
     · rename_i u1 u2 u3 hx hlo hhi
       obtain ⟨h1,rfl⟩:=pick_of_map hr
       obtain ⟨r',g1,g2⟩:=aSliceOp_sound (P:=P) w h.h (aev_rel ha hx) (aevo_rel ha hlo) (aevo_rel ha hhi) h1
       refine .same h g2 ?_
       simp only [execOp,Sem.run_bind,Option.map_none]
       rw [g1];rfl
     · cases hr
 · rename_i T x f
   cases hx:aev sl x with
   | none=>simp [hx] at hr
   | some u =>
     simp only [hx,Option.bind_some] at hr
     obtain ⟨h1,rfl⟩:=pick_of_map hr
     obtain ⟨r',g1,g2⟩:=aFieldAddr_sound (P:=P) w (aev_rel ha hx) h1
     refine .same h g2 ?_
     simp only [execOp,Sem.run_bind]
     rw [g1];rfl
 · rename_i T x f
   cases hx:aev sl x with
   | none=>simp [hx] at hr
   | some u =>
     simp only [hx,Option.bind_some] at hr
     obtain ⟨h1,rfl⟩:=pick_of_map hr
     obtain ⟨r',g1,g2⟩:=aField_sound (P:=P) w (aev_rel ha hx) h1
     refine .same h g2 ?_
     simp only [execOp,Sem.run_bind]
     rw [g1];rfl
 · rename_i T x ix
   split at hr
   · rename_i u1 u2 hx hy
     obtain ⟨h1,rfl⟩:=pick_of_map hr
     obtain ⟨r',g1,g2⟩:=aIndexAddr_sound (P:=P) h.h (aev_rel ha hx) (aev_rel ha hy) h1
     refine .same h g2 ?_
     simp only [execOp,Sem.run_bind]
     rw [g1];rfl
   · cases hr
 · rename_i T x ix
   split at hr
   · rename_i u1 u2 hx hy
     obtain ⟨h1,rfl⟩:=pick_of_map hr
     obtain ⟨r',g1,g2⟩:=aIndex_sound (P:=P) w (aev_rel ha hx) (aev_rel ha hy) h1
     refine .same h g2 ?_
     simp only [execOp,Sem.run_bind]
     rw [g1];rfl
   · cases hr
 · rename_i T x ix ok
   split at hr
   · rename_i u1 u2 hx hy
     obtain ⟨h1,rfl⟩:=pick_of_map hr
     obtain ⟨r',g1,g2⟩:=aLookup_sound (P:=P) h.h (aev_rel ha hx) (aev_rel ha hy) h1
     refine .same h g2 ?_
     simp only [execOp,Sem.run_bind]
     rw [g1];rfl
   · cases hr
 · rename_i T m k x
   split at hr
   · rename_i u1 u2 u3 hm hk hx
     cases hs:aUpdate P H T u1 u2 u3 with
     | none=>simp [hs] at hr
     | some H2 =>
       simp [hs] at hr
       obtain ⟨rfl,rfl⟩:=hr
       obtain ⟨w',g1,g2,g3⟩:=aUpdate_sound (P:=P) h (aev_rel ha hm) (aev_rel ha hk) (aev_rel ha hx) hs
       refine ⟨s,undef,w',.inr ⟨?_,rfl⟩,g2,g3,undef_rel _ _⟩
       simp only [execOp,Sem.run_bind]
       rw [g1];rfl
   · cases hr
 · rename_i T m k x
   split at hr
   · rename_i u1 u2 u3 hm hk hx
     cases hs:aUpdate P H T u1 u2 u3 with
     | none=>simp [hs] at hr
     | some H2 =>
       simp [hs] at hr
       obtain ⟨rfl,rfl⟩:=hr
       obtain ⟨w',g1,g2,g3⟩:=aUpdate_sound (P:=P) h (aev_rel ha hm) (aev_rel ha hk) (aev_rel ha hx) hs
       refine ⟨s,undef,w',.inr ⟨?_,rfl⟩,g2,g3,undef_rel _ _⟩
       simp only [execOp,Sem.run_bind]
       rw [g1];rfl
   · cases hr
 · rename_i t i
   split at hr
   · rename_i vs hx
     cases hvi:vs[i]? with
     | none=>simp [hvi] at hr
     | some u =>
       simp [hvi] at hr
       obtain ⟨rfl,rfl⟩:=hr
       have hv:=aev_rel ha hx
       generalize hq:a.eval t=q at hv
       cases hv with
       | lit _ h=>simp [isLit] at h
       | tuple _ vs' hs hh =>
         have hlt:=(Array.getElem?_eq_some_iff.1 hvi).1
         have hlt':i < vs'.size:=hs ▸ hlt
         refine .same h (hh i _ _ hvi (Array.getElem?_eq_getElem hlt')) ?_
         simp [execOp,hq,Instr.extract,hlt']
   · cases hr
 · rename_i b args ats
   cases hx:aevs sl args.toList with
   | none=>simp [hx] at hr
   | some l =>
     simp only [hx,Option.bind_some] at hr
     have hl:=aevs_rel ha hx
     have hargs:args.map a.eval=(args.toList.map a.eval).toArray:=by apply Array.ext';simp
     unfold aBuiltin at hr
     split at hr
     · rename_i x
       cases ht:ats[0]? with
       | none=>simp [ht] at hr
       | some t =>
         simp only [ht,Option.bind_some] at hr
         obtain ⟨h1,rfl⟩:=pick_of_map hr
         match hm:args.toList.map a.eval,hl with
         | [x'], hl =>
           obtain ⟨r',g1,g2⟩:=aLen_sound (P:=P) (ty:=ty) h.h ht (hl.2 0 _ _ rfl rfl) h1
           refine .same h g2 ?_
           simp only [execOp,resolve,hargs,hm,Sem.run_bind,Sem.run_pure,Result.andThen_ok,invoke,builtin]
           rw [g1];rfl
         | [],hl=>have:=hl.1;simp at this
         | _ :: _ :: _,hl=>have:=hl.1;simp at this
     · rename_i d x
       split at hr
       · rename_i t t2 hts
         match hm:args.toList.map a.eval,hl with
         | [d', x'], hl =>
           obtain ⟨s',r',w',g1,g2,g3,g4⟩:=aAppend_sound (P:=P) (ty:=ty) h (hl.2 0 _ _ rfl rfl) (hl.2 1 _ _ rfl rfl) hr
           refine ⟨s',r',w',.inl ?_,g2,g3,g4⟩
           have hats:ats = #[t,t2]:=by rw [← Array.toArray_toList (xs:=ats),hts]
           simp only [execOp,resolve,hargs,hm,Sem.run_bind,Sem.run_pure,Result.andThen_ok,invoke,builtin,hats]
           rw [g1];rfl
         | [],hl=>have:=hl.1;simp at this
         | [_],hl=>have:=hl.1;simp at this
         | _ :: _ :: _ :: _,hl=>have:=hl.1;simp at this
       · cases hr
     · rename_i k x k' y
       split at hr
       · rename_i hk
         cases hr
         match hm:args.toList.map a.eval,hl with
         | [d', x'], hl =>
           have e1:=(hl.2 0 _ _ rfl rfl).lit_inv (v:=.int k x) rfl
           have e2:=(hl.2 1 _ _ rfl rfl).lit_inv (v:=.int k' y) rfl
           subst e1 e2
           refine .same h (.lit _ rfl) ?_
           simp [execOp,resolve,hargs,hm,invoke,builtin,Builtin.max_,Builtin.max2]
         | [],hl=>have:=hl.1;simp at this
         | [_],hl=>have:=hl.1;simp at this
         | _ :: _ :: _ :: _,hl=>have:=hl.1;simp at this
       · cases hr
     · rename_i k x k' y
       split at hr
       · rename_i hk
         cases hr
         match hm:args.toList.map a.eval,hl with
         | [d', x'], hl =>
           have e1:=(hl.2 0 _ _ rfl rfl).lit_inv (v:=.int k x) rfl
           have e2:=(hl.2 1 _ _ rfl rfl).lit_inv (v:=.int k' y) rfl
           subst e1 e2
           refine .same h (.lit _ rfl) ?_
           simp [execOp,resolve,hargs,hm,invoke,builtin,Builtin.min_,Builtin.min2]
         | [],hl=>have:=hl.1;simp at this
         | [_],hl=>have:=hl.1;simp at this
         | _ :: _ :: _ :: _,hl=>have:=hl.1;simp at this
       · cases hr
     · rename_i n c
       cases ht:ats[0]? with
       | none=>simp [ht] at hr
       | some t =>
         simp only [ht,Option.bind_some] at hr
         split at hr
         · rename_i e hu
           cases hr
           match hm:args.toList.map a.eval,hl with
           | [x'], hl =>
             have e1:=(hl.2 0 _ _ rfl rfl).lit_inv (v:=.slice none n c) rfl
             subst e1
             refine .same h (.lit _ rfl) ?_
             simp [execOp,resolve,hargs,hm,invoke,builtin,Builtin.cap_,ht,run_und hu,goInt]
           | [],hl=>have:=hl.1;simp at this
           | _ :: _ :: _,hl=>have:=hl.1;simp at this
         · cases hr
     · rename_i d x
       split at hr
       · rename_i t t2 hts
         match hm:args.toList.map a.eval,hl with
         | [d', x'], hl =>
           obtain ⟨s',r',w',g1,g2,g3,g4⟩:=aCopy_sound (P:=P) (t2:=t2) (ty:=ty) h (hl.2 0 _ _ rfl rfl) (hl.2 1 _ _ rfl rfl) hr
           refine ⟨s',r',w',.inl ?_,g2,g3,g4⟩
           have hats:ats = #[t,t2]:=by rw [← Array.toArray_toList (xs:=ats),hts]
           simp only [execOp,resolve,hargs,hm,Sem.run_bind,Sem.run_pure,Result.andThen_ok,invoke,builtin,hats]
           rw [g1];rfl
         | [],hl=>have:=hl.1;simp at this
         | [_],hl=>have:=hl.1;simp at this
         | _ :: _ :: _ :: _,hl=>have:=hl.1;simp at this
       · cases hr
     · rename_i x
       match hm:args.toList.map a.eval,hl with
       | [x'], hl =>
         obtain ⟨s',r',w',g1,g2,g3,g4⟩:=aSliceData_sound (P:=P) (ts:=ats) (ty:=ty) h (hl.2 0 _ _ rfl rfl) hr
         refine ⟨s',r',w',.inl ?_,g2,g3,g4⟩
         simp only [execOp,resolve,hargs,hm,Sem.run_bind,Sem.run_pure,Result.andThen_ok,invoke,builtin]
         rw [g1];rfl
       | [],hl=>have:=hl.1;simp at this
       | _ :: _ :: _,hl=>have:=hl.1;simp at this
     · rename_i p n
       split at hr
       · rename_i t t2 hts
         match hm:args.toList.map a.eval,hl with
         | [p', n'], hl =>
           obtain ⟨s',r',w',g1,g2,g3,g4⟩:=aUnsafeString_sound (P:=P) (t2:=t2) (ty:=ty) h (hl.2 0 _ _ rfl rfl) (hl.2 1 _ _ rfl rfl) hr
           refine ⟨s',r',w',.inl ?_,g2,g3,g4⟩
           have hats:ats = #[t,t2]:=by rw [← Array.toArray_toList (xs:=ats),hts]
           simp only [execOp,resolve,hargs,hm,Sem.run_bind,Sem.run_pure,Result.andThen_ok,invoke,builtin,hats]
           rw [g1];rfl
         | [],hl=>have:=hl.1;simp at this
         | [_],hl=>have:=hl.1;simp at this
         | _ :: _ :: _ :: _,hl=>have:=hl.1;simp at this
       · cases hr
     · cases hr
 · rename_i T x
   cases hx:aev sl x with
   | none=>simp [hx] at hr
   | some u =>
     simp only [hx,Option.bind_some] at hr
     obtain ⟨s',r',w',g1,g2,g3,g4⟩:=aRange_sound (P:=P) h (aev_rel ha hx) hr
     refine ⟨s',r',w',.inl ?_,g2,g3,g4⟩
     simp only [execOp,Sem.run_bind]
     rw [g1];rfl
 · rename_i x
   cases hx:aev sl x with
   | none=>simp [hx] at hr
   | some u =>
     simp only [hx,Option.bind_some] at hr
     obtain ⟨h1,rfl⟩:=pick_of_map hr
     obtain ⟨r',g1,g2⟩:=aEntry_sound (P:=P) h.h (aev_rel ha hx) h1
     refine .same h g2 ?_
     simp only [execOp,Sem.run_bind]
     rw [g1];rfl
 · cases hr
end Go.Vi
namespace Go.Vi
open Go.RowKit
def AEnd (w0:World) (s:Ren) (H:AHeap) (v:Value) (H':AHeap) (e:Ending) (w':World):Prop :=
 ∃ s' v',e=.returned v'∧WRel w0 s' H' w'∧Ext s H s' H'∧VRel s' H' v v'
def ACalls (P:Program) (f:FuncId) (args:List Value) (H:AHeap) (v:Value) (H':AHeap):Prop :=
 ∀ (w0 : World) (s : Ren) (w : World) (args' : Array Value), WRel w0 s H w → VRelL s H args args'.toList →
   ((callFunc f args').run P w=.ok (.enter f args') w∧Calls P f args' w (AEnd w0 s H v H')) ∨
   (∃ v' w',(callFunc f args').run P w=.ok (.value v') w'∧AEnd w0 s H v H' (.returned v') w')
def AYields (P:Program) (b:Nat) (args:List Value) (H:AHeap) (v:Value) (H':AHeap):Prop :=
 ∀ (w0 : World) (s : Ren) (w : World) (args' : Array Value), WRel w0 s H w → VRelL s H args args'.toList →
   ∃ fn tmps assign body,(Instr.yield (s b).blk args').run P w=.ok (.round (s b).blk fn tmps assign body) w∧RoundIn Fence.wide 0 P (s b).blk fn tmps assign body w (AEnd w0 s H v H')
inductive ACallee where
 | fn (k:FuncId)
 | yield (b:Nat)
def CallsA (P:Program):ACallee→List Value→AHeap→Value→AHeap→Prop
 | .fn k,args,H,v,H'=>ACalls P k args H v H'
 | .yield b,args,H,v,H'=>(∃ r,H[b]?=some (.loop r))∧AYields P b args H v H'
def awant (ops:Array Oper) (sl:List Value) (o:Oper):Option Bool :=
 match o.guard with
 | none=>some true
 | some (j, want) => match (ops[j]?).bind (·.dst) with
   | some t => match sl[t]? with
     | some (.bool b)=>some (b == want)
     | some (.tuple vs)=>if vs.size=0 then some false else none
     | _=>none
   | none=>none
theorem awant_sound [Ctx] {s H sl a ops o b} (ha:ARel s H sl a) (h:awant ops sl o=some b):Region.wanted o (yielded ops a.tmps)=b:=by
 unfold awant at h
 unfold Region.wanted
 split at h
 · rename_i hg;cases h;simp [hg]
 · rename_i j want hg
   split at h
   · rename_i t ht
     split at h
     · rename_i b' hb
       cases h
       obtain ⟨y,h1,h2⟩:=ha.r.get hb
       have:=h2.lit_inv rfl;subst this
       rw [Array.getElem?_toList] at h1
       simp [hg,yielded,ht,h1]
     · rename_i vs hb
       split at h
       · rename_i hz
         cases h
         obtain ⟨y,h1,h2⟩:=ha.r.get hb
         rw [Array.getElem?_toList] at h1
         cases h2 with
         | lit _ h=>simp [isLit] at h
         | tuple _ a'=>simp [hg,yielded,ht,h1]
       · cases h
     · cases h
   · cases h
def acallee (sl:List Value) (o:Op):Option (Option (ACallee × List Value)) :=
 match o with
 | .call { callee := .value f, args, .. } => match aev sl f, aevs sl args.toList with
   | some (.func (.func k) first captured),some l=>some (some (.fn k,first.toList++l++captured.toList))
   | some (.func (.yield b) first captured),some l=>some (some (.yield b,first.toList++l++captured.toList))
   | _,_=>none
 | _=>some none
def FF [c0:Ctx]:Fence:={ Fence.wide with round:=c0.ro }
variable {P:Program}
theorem calls_FF [Ctx] {f args w R} (h:Calls P f args w R):CallsIn FF 0 P f args w R:=callsIn_wide.2 h
theorem round_FF [Ctx] {l f tmps assign body w R} (h:RoundIn Fence.wide 0 P l f tmps assign body w R):RoundIn FF 0 P l f tmps assign body w R:=h
theorem wpF_of [Ctx] {o:Oper} {a w K Q} (hnd:∀ c,o.op≠.defer c) (h:o.uponIn FF 0 P a K Q ((execOp a.eval o).run P w)):o.wpIn FF 0 P a w K Q :=
 ⟨fun _ _=>trivial,by rw [Oper.semAt_eq _ _ _ hnd];exact h⟩
def ANext [Ctx] (w0:World) (s:Ren) (H:AHeap) (v:Value) (H':AHeap) (next:Act→World→Prop) (a:Act) (d:Option Tmp):Prop :=
 ∀ s' v' w',WRel w0 s' H' w'→Ext s H s' H'→VRel s' H' v v'→next (a.put d v') w'
def OpTo (P:Program) (sl:List Value) (H:AHeap) (o:Op) (v:Value) (H':AHeap):Prop:=match acallee sl o with
 | some (some (c,args))=>CallsA P c args H v H'
 | some none=>aop P sl H o=some (v,H')
 | none=>False
theorem no_defer {sl H v H'} {o:Op} (h:OpTo P sl H o v H'):∀ c,o≠.defer c:=by
 rintro c rfl
 simp [OpTo,acallee,aop] at h
theorem op_sound [Ctx] {w0 s H w sl a v H' next Q} (o:Oper) (h:WRel w0 s H w) (ha:ARel s H sl a) (hr:OpTo P sl H o.op v H')
  (hn:ANext w0 s H v H' next a o.dst):o.wpIn FF 0 P a w next Q:=by
 refine wpF_of (no_defer hr) ?_
 unfold OpTo at hr
 split at hr
 · rename_i c args hc
   unfold acallee at hc
   split at hc
   · rename_i f xs ats hop
     have hex:∀ fn first captured,a.eval f=.func fn first captured→(execOp a.eval o).run P w=(invoke (.fn fn captured) (first++xs.map a.eval)).run P w:=by
      intro fn first captured hq
      obtain ⟨dst,op,ty,pos,after,guard⟩:=o
      simp only at hop
      subst hop
      simp [execOp,resolve,hq,Deferred.ofValue]
     split at hc
     · rename_i k' first captured l hf hl
       cases hc
       have r1:=aev_rel ha hf
       have r2:=aevs_rel ha hl
       generalize hq:a.eval f=q at r1 hex
       cases r1 with
       | lit _ h=>simp [isLit] at h
       | func _ _ _ first' captured' _ h1 h2 h3 h4 =>
         have hargs:VRelL s H (first.toList++l++captured.toList) (first'++xs.map a.eval++captured').toList:=by
          simp only [Array.toList_append,Array.toList_map]
          refine VRelL.append (VRelL.append ⟨by simpa using h1,fun i x y hx hy=>h3 i x y (by simpa using hx) (by simpa using hy)⟩ r2) ⟨by simpa using h2,fun i x y hx hy=>h4 i x y (by simpa using hx) (by simpa using hy)⟩
         rw [hex _ _ _ rfl]
         have e0:(invoke (.fn (.func k') captured') (first'++xs.map a.eval)).run P w=(callFunc k' (first'++xs.map a.eval++captured')).run P w:=by simp [invoke]
         rw [e0]
         rcases hr w0 s w _ h hargs with ⟨e1,e2⟩ | ⟨v',w',e1,e2⟩
         · rw [e1,Oper.uponIn_enter]
           refine ⟨fun h=>by simp [FF,Fence.wide] at h,calls_FF (e2.mono fun e w'=>?_)⟩
           rintro ⟨s',v',rfl,g1,g2,g3⟩
           exact hn s' v' w' g1 g2 g3
         · rw [e1]
           obtain ⟨s',v'',e3,g1,g2,g3⟩:=e2
           cases e3
           exact hn s' v' w' g1 g2 g3
     · rename_i b first captured l hf hl
       cases hc
       obtain ⟨⟨r0,hr0⟩,hr⟩:=hr
       have r1:=aev_rel ha hf
       have r2:=aevs_rel ha hl
       generalize hq:a.eval f=q at r1 hex
       cases r1 with
       | lit _ h=>simp [isLit] at h
       | func _ _ _ first' captured' hy h1 h2 h3 h4=>exact absurd rfl (hy b)
       | yield _ r hb hloop =>
         obtain rfl:=hloop r0 hr0
         have hargs:VRelL s H ([]++l++[]) (xs.map a.eval).toList:=by simpa using r2
         rw [hex _ _ _ rfl]
         have e0:(invoke (.fn (.yield (s b).blk) #[]) (#[]++xs.map a.eval)).run P w=(Instr.yield (s b).blk (xs.map a.eval)).run P w:=by simp [invoke]
         rw [e0]
         obtain ⟨fn,tmps,assign,body,e1,e2⟩:=hr w0 s w (xs.map a.eval) h (by simpa using hargs)
         rw [e1,Oper.uponIn_round]
         refine ⟨fun h=>by simp [FF,Fence.wide] at h,round_FF (e2.mono fun e w'=>?_)⟩
         rintro ⟨s',v',rfl,g1,g2,g3⟩
         exact hn s' v' w' g1 g2 g3
     · cases hc
   · cases hc
 · obtain ⟨s',v',w',hrun,g1,g2,g3⟩:=aop_sound (P:=P) o h ha hr
   rcases hrun with e | ⟨e,rfl⟩
   · rw [e];exact hn s' v' w' g1 g2 g3
   · rw [e];exact hn s' undef w' g1 g2 g3
 · cases hr
inductive AExit where
 | normal
 | exit (id:Nat)
 | ret
def AExit.to:AExit→Exit
 | .normal=>.normal
 | .exit id=>.exit id
 | .ret=>.ret
abbrev AState:=List Value × AHeap
def APost [Ctx] (w0:World) (s:Ren) (H:AHeap) (Q:Exit→Act→World→Prop) (e:AExit) (st':AState):Prop :=
 ∀ s' a' w',WRel w0 s' st'.2 w'→Ext s H s' st'.2→ARel s' st'.2 st'.1 a'→Q e.to a' w'
end Go.Vi
namespace Go.Vi
open Go.RowKit
variable {P:Program}
theorem VRel.restrict {s s' H X v v0} (h0:VRel s H v v0) (hs:∀ b,b < H.length→(∀ L,hlen H b=some L→s' b=s b)∧(∀ es,H[b]?=some (.map es)→s' b=s b)∧(∀ r,H[b]?=some (.loop r)→s' b=s b)) :
  ∀ {v2},VRel s' (H++X) v v2→VRel s H v v2:=by
 have hl:∀ b,b < H.length→hlen (H++X) b=hlen H b:=fun b hb=>by simp [hlen,List.getElem?_append_left hb]
 have hg:∀ b,b < H.length→(H++X)[b]?=H[b]?:=fun b hb=>List.getElem?_append_left hb
 induction h0 with
 | lit v h=>intro v2 h2;rw [h2.lit_inv h];exact .lit v h
 | ptr b o m p hb h =>
   intro v2 h2
   cases h2 with
   | lit _ h=>simp [isLit] at h
   | ptr _ _ _ q _ k =>
     refine .ptr b o m q hb fun L hL=>?_
     have:=k L (by rw [hl b hb];exact hL)
     rw [(hs b hb).1 L hL] at this
     exact this
 | glob g o =>
   intro v2 h2
   cases h2 with
   | lit _ h=>simp [isLit] at h
   | glob=>exact .glob g o
 | slice b o m n c a' c' hb h =>
   intro v2 h2
   cases h2 with
   | lit _ h=>simp [isLit] at h
   | slice _ _ _ _ _ a2 c2 _ k =>
     refine .slice b o m n c a2 c2 hb fun L hL=>?_
     have:=k L (by rw [hl b hb];exact hL)
     rw [(hs b hb).1 L hL] at this
     exact ⟨this.1,fun e=>⟨(this.2 e).1,(this.2 e).2.1,(this.2 e).2.2.1,fun cs T hc=>(this.2 e).2.2.2 cs T (by rw [hg b hb];exact hc)⟩⟩
 | map b r hb h =>
   intro v2 h2
   cases h2 with
   | lit _ h=>simp [isLit] at h
   | map _ r2 _ k =>
     refine .map b r2 hb fun es hes=>?_
     rw [← (hs b hb).2.1 es hes]
     exact k es (by rw [hg b hb];exact hes)
 | unk v h =>
   intro v2 h2
   cases h2 with
   | lit _ h=>simp [isLit] at h
   | unk _ h=>exact .unk _ h
 | yield b r hb h =>
   intro v2 h2
   cases h2 with
   | lit _ h=>simp [isLit] at h
   | func _ _ _ _ _ hy=>exact absurd rfl (hy b)
   | yield _ r2 _ k =>
     refine .yield b r2 hb fun r0 hr=>?_
     rw [← (hs b hb).2.2 r0 hr]
     exact k r0 (by rw [hg b hb];exact hr)
 | iter b r hb h =>
   intro v2 h2
   cases h2 with
   | lit _ h=>simp [isLit] at h
   | iter _ r2 _ k =>
     refine .iter b r2 hb fun r0 hr=>?_
     rw [← (hs b hb).2.2 r0 hr]
     exact k r0 (by rw [hg b hb];exact hr)
 | func fn f c f' c' hy hf hc _ _ ih1 ih2 =>
   intro v2 h2
   cases h2 with
   | lit _ h=>simp [isLit] at h
   | yield b _=>exact absurd rfl (hy b)
   | func _ _ _ f2 c2 _ hf2 hc2 k1 k2 =>
     refine .func fn f c f2 c2 hy hf2 hc2 (fun i x y hx hy=>?_) (fun i x y hx hy=>?_)
     · have hi:i < f'.size:=hf ▸ (Array.getElem?_eq_some_iff.1 hx).1
       exact ih1 i x _ hx (Array.getElem?_eq_getElem hi) (k1 i x y hx hy)
     · have hi:i < c'.size:=hc ▸ (Array.getElem?_eq_some_iff.1 hx).1
       exact ih2 i x _ hx (Array.getElem?_eq_getElem hi) (k2 i x y hx hy)
 | iface t v v' _ ih =>
   intro v2 h2
   cases h2 with
   | lit _ h=>simp [isLit] at h
   | iface _ _ v3 k=>exact .iface t v v3 (ih k)
 | agg a a' hsz _ ih =>
   intro v2 h2
   cases h2 with
   | lit _ h=>simp [isLit] at h
   | agg _ a2 hs2 k =>
     refine .agg a a2 hs2 fun i x y hx hy=>?_
     have hi:i < a'.size:=hsz ▸ (Array.getElem?_eq_some_iff.1 hx).1
     exact ih i x _ hx (Array.getElem?_eq_getElem hi) (k i x y hx hy)
 | tuple a a' hsz _ ih =>
   intro v2 h2
   cases h2 with
   | lit _ h=>simp [isLit] at h
   | tuple _ a2 hs2 k =>
     refine .tuple a a2 hs2 fun i x y hx hy=>?_
     have hi:i < a'.size:=hsz ▸ (Array.getElem?_eq_some_iff.1 hx).1
     exact ih i x _ hx (Array.getElem?_eq_getElem hi) (k i x y hx hy)
theorem WRel.forget {w0 s H w s' X w'} (h0:WRel w0 s H w) (h1:WRel w0 s' (H++X) w') (e:Ext s H s' (H++X)):WRel w0 s H w':=by
 have hg:∀ b,b < H.length→(H++X)[b]?=H[b]?:=fun b hb=>List.getElem?_append_left hb
 have hs:∀ b,b < H.length→(∀ L,hlen H b=some L→s' b=s b)∧(∀ es,H[b]?=some (.map es)→s' b=s b)∧(∀ r,H[b]?=some (.loop r)→s' b=s b):=by
  intro b hb
  refine ⟨?_,?_,?_⟩
  · intro L hL
    obtain ⟨L0,e1,e2,e3⟩:=(e.2 b hb).1 L (by simpa [hlen,hg b hb] using hL)
    rw [hL] at e1;cases e1
    exact e3 rfl
  · intro es hes
    obtain ⟨es0,e1,e2⟩:=(e.2 b hb).2.1 es (by rw [hg b hb];exact hes)
    exact e2
  · intro r hr
    obtain ⟨r0,e1,e2⟩:=(e.2 b hb).2.2.2 r (by rw [hg b hb];exact hr)
    exact e2
 have hloc:∀ b o,H[b]?=some o→o.live=true→s' b=s b:=by
  intro b o ho hl
  have hb:=(List.getElem?_eq_some_iff.1 ho).1
  cases o with
  | cells cs T=>exact (hs b hb).1 cs.length (by simp [hlen,ho,AObj.len])
  | ro cs=>exact (hs b hb).1 cs.length (by simp [hlen,ho,AObj.len])
  | map es=>exact (hs b hb).2.1 es ho
  | loop r=>exact (hs b hb).2.2 r ho
  | gl g cs=>exact (hs b hb).1 cs.length (by simp [hlen,ho,AObj.len])
  | dead=>cases hl
 refine ⟨⟨fun b o ho=>?_,fun b b' o o' ho ho' hne h1o h1l=>?_⟩,h1.b,h0.o⟩
 · have hb:=(List.getElem?_eq_some_iff.1 ho).1
   have k0:=h0.h.obj b o ho
   have k1:=h1.h.obj b o (by rw [hg b hb];exact ho)
   cases o with
   | cells cs T =>
     rw [ORel,hloc b _ ho rfl] at k1
     obtain ⟨q1,q2,arr,fr,qf,q3,q4,q5,q6⟩:=k1
     obtain ⟨_,_,arr0,_,_,_,_,_,p6⟩:=k0
     refine ⟨q1,q2,arr,fr,qf,q3,q4,q5,fun j v hj=>?_⟩
     obtain ⟨v0,_,p⟩:=p6 j v hj
     obtain ⟨v2,q7,q8⟩:=q6 j v hj
     exact ⟨v2,q7,p.restrict hs q8⟩
   | ro cs =>
     intro j v hj
     obtain ⟨v0,_,p⟩:=k0 j v hj
     obtain ⟨v2,q7,q8⟩:=k1 j v hj
     rw [hloc b _ ho rfl] at q7
     exact ⟨v2,q7,p.restrict hs q8⟩
   | map es =>
     rw [ORel,hloc b _ ho rfl] at k1
     obtain ⟨q2,ces,c,q3,q4,qc,q5⟩:=k1
     obtain ⟨_,ces0,_,_,p4,_,p5⟩:=k0
     refine ⟨q2,ces,c,q3,q4,qc,fun j k x en hj he=>?_⟩
     obtain ⟨q6,q7,q8,q9⟩:=q5 j k x en hj he
     have hlt:j < ces0.size:=by have:=(List.getElem?_eq_some_iff.1 hj).1;omega
     obtain ⟨_,_,p8,_⟩:=p5 j k x ces0[j] hj (Array.getElem?_eq_getElem hlt)
     exact ⟨q6,q7,p8.restrict hs q8,q9⟩
   | loop r =>
     rw [ORel,hloc b _ ho rfl] at k1
     obtain ⟨q2,ob,q3,q4⟩:=k1
     obtain ⟨_,ob0,_,p4⟩:=k0
     refine ⟨q2,ob,q3,?_⟩
     cases r with
     | blk=>exact q4
     | gone=>trivial
     | iter m n seen =>
       obtain ⟨m2,a,h1,h2,h3⟩:=q4
       obtain ⟨_,_,_,_,g3⟩:=p4
       exact ⟨m2,a,h1,h2,g3.restrict hs h3⟩
     | run sl ps assign body st pe =>
       obtain ⟨fn,tmps,d,h1,h2⟩:=q4
       obtain ⟨_,tmps0,_,_,h3⟩:=p4
       refine ⟨fn,tmps,d,h1,h2.1,fun i x y hx hy=>?_⟩
       obtain ⟨y0,_,p⟩:=h3.get hx
       exact p.restrict hs (h2.2 i x y hx hy)
   | gl g cs =>
     rw [ORel,hloc b _ ho rfl] at k1
     obtain ⟨q1,q0,q2,q3⟩:=k1
     refine ⟨q1,q0,q2,fun j v hj=>?_⟩
     obtain ⟨v',q4,q5⟩:=q3 j v hj
     obtain ⟨_,_,_,p3⟩:=k0
     obtain ⟨_,_,p5⟩:=p3 j v hj
     exact ⟨v',q4,p5.restrict hs q5⟩
   | dead=>trivial
 · exact h0.h.inj b b' o o' ho ho' hne h1o h1l
def aResult (P:Program) (sl:List Value) (H:AHeap):ResultVar→Option Value
 | .tmp t=>sl[t]?
 | .cell a t=>(sl[a]?).bind (aLoad P H t ·)
def aResults (P:Program) (sl:List Value) (H:AHeap):List ResultVar→Option (List Value)
 | []=>some []
 | r :: rs => match aResult P sl H r, aResults P sl H rs with
   | some v,some l=>some (v :: l)
   | _,_=>none
def aRet (P:Program) (fn:Func) (sl:List Value) (H:AHeap):Option Value :=
 match aResults P sl H fn.results.toList with
 | some [v]=>some v
 | some l=>some (.tuple l.toArray)
 | none=>none
def resSem (tmps:Array Value):ResultVar→Sem Value
 | .tmp t=>pure (tmps.getD t undef)
 | .cell a t=>do loadVar t (← asAddr (tmps.getD a undef))
theorem results_eq (fn:Func) (tmps:Array Value):results fn tmps=(do
  let vs ← fn.results.mapM (resSem tmps)
  pure (if h:vs.size=1 then vs[0] else .tuple vs)):=by
 unfold results
 refine congrArg (fun f:ResultVar→Sem Value=>(do let vs ← fn.results.mapM f;pure (if h:vs.size=1 then vs[0] else .tuple vs):Sem Value)) (?_:_=resSem tmps)
 funext r;cases r<;>rfl
theorem run_result [Ctx] {B s H w sl a r v} (h:HRel B s H w) (ha:ARel s H sl a) (hr:aResult P sl H r=some v) :
  ∃ v',(resSem a.tmps r).run P w=.ok v' w∧VRel s H v v':=by
 have hget:∀ t u,sl[t]?=some u→VRel s H u (a.tmps.getD t undef):=fun t u hu=>aev_rel (x:=.tmp t) ha hu
 cases r with
 | tmp t=>exact ⟨_,rfl,hget t v hr⟩
 | cell x t =>
   simp only [aResult] at hr
   cases hx:sl[x]? with
   | none=>simp [hx] at hr
   | some u =>
     simp only [hx,Option.bind_some] at hr
     have hu:=hget x u hx
     obtain ⟨v',g1,g2⟩:=aLoad_sound (P:=P) h hu hr
     refine ⟨v',?_,g2⟩
     simp only [resSem]
     generalize a.tmps.getD x undef=q at hu g1 ⊢
     have hp:∃ ad,q=.pointer (some ad):=by
      obtain ⟨ad,rfl⟩:=aLoad_ptrs hr
      cases hu with
      | lit _ h=>simp [isLit] at h
      | ptr=>exact ⟨_,rfl⟩
      | glob=>exact ⟨_,rfl⟩
     obtain ⟨ad,had⟩:=hp
     rw [had] at g1 ⊢
     simp only [Instr.loadAt,Instr.sureAddr,Sem.run_bind,Sem.run_pure,Result.andThen_ok] at g1
     simp only [asAddr,Sem.run_bind,Sem.run_pure,Result.andThen_ok]
     exact g1
theorem run_results_list [Ctx] {B s H w sl a} (h:HRel B s H w) (ha:ARel s H sl a):∀ (rs:List ResultVar) (l:List Value),aResults P sl H rs=some l →
  ∃ l',(rs.mapM (m:=Sem) (resSem a.tmps)).run P w=.ok l' w∧VRelL s H l l':=by
 intro rs
 induction rs with
 | nil=>intro l hl;cases hl;exact ⟨[],by simp,.nil _ _⟩
 | cons r rs ih =>
   intro l hl
   simp only [aResults] at hl
   split at hl
   · rename_i v l2 hv hl2
     cases hl
     obtain ⟨v',g1,g2⟩:=run_result (P:=P) h ha hv
     obtain ⟨l',k1,k2⟩:=ih l2 hl2
     refine ⟨v' :: l',?_,.cons g2 k2⟩
     simp only [List.mapM_cons,Sem.run_bind]
     rw [g1];simp only [Result.andThen_ok];rw [k1];rfl
   · cases hl
theorem run_ret [Ctx] {B s H w sl a v} (fn:Func) (h:HRel B s H w) (ha:ARel s H sl a) (hr:aRet P fn sl H=some v):∃ v',(results fn a.tmps).run P w=.ok v' w∧VRel s H v v':=by
 unfold aRet at hr
 have key:∀ l,aResults P sl H fn.results.toList=some l→∃ l':List Value,(fn.results.mapM (m:=Sem) (resSem a.tmps)).run P w=.ok l'.toArray w∧VRelL s H l l':=by
  intro l hl
  obtain ⟨l',k1,k2⟩:=run_results_list (P:=P) h ha _ l hl
  refine ⟨l',?_,k2⟩
  rw [← Array.toArray_toList (xs:=fn.results),List.mapM_toArray,Sem.run_map]
  rw [k1];rfl
 split at hr
 · rename_i u hl
   cases hr
   obtain ⟨l',k1,k2⟩:=key _ hl
   match l',k2 with
   | [u'], k2 =>
     refine ⟨u',?_,k2.2 0 _ _ rfl rfl⟩
     rw [results_eq,Sem.run_bind,k1]
     rfl
   | [],k2=>have:=k2.1;simp at this
   | _ :: _ :: _,k2=>have:=k2.1;simp at this
 · rename_i l hne hl
   cases hr
   obtain ⟨l',k1,k2⟩:=key _ hl
   refine ⟨.tuple l'.toArray,?_,.tuple _ _ (by simpa using k2.1) (fun i x y hx hy=>k2.2 i x y (by simpa using hx) (by simpa using hy))⟩
   rw [results_eq,Sem.run_bind,k1]
   have h1:¬ l'.toArray.size=1:=by
    intro q
    match l,hl,k2,hne with
    | [],_,k2,_=>have:=k2.1;simp at this q;rw [q] at this;simp at this
    | [u],_,_,hne=>exact hne u rfl
    | _ :: _ :: _,_,k2,_=>have:=k2.1;simp at this q;omega
   simp only [Result.andThen_ok,dif_neg h1,Sem.run_pure]
 · cases hr
def notNG (fn : Func) : Bool := !(fn.name == "runtime.NumGoroutine")
end Go.Vi
namespace Go.Vi
open Go.RowKit
variable {P:Program}
theorem aev_congr {sl sl':List Value} {x:Operand} (h:∀ t,x=.tmp t→sl[t]?=sl'[t]?):aev sl x=aev sl' x:=by
 cases x with
 | tmp t=>exact h t rfl
 | _=>rfl
theorem aevs_congr {sl sl':List Value}:∀ {l:List Operand},(∀ x∈l,aev sl x=aev sl' x)→aevs sl l=aevs sl' l:=by
 intro l
 induction l with
 | nil=>intro _;rfl
 | cons a l ih=>intro h;simp only [aevs,h a (by simp),ih fun x hx=>h x (by simp [hx])]
theorem aParts_congr {sl sl':List Value}:∀ {l:List (Nat × Operand)},(∀ x∈l.map (·.2),aev sl x=aev sl' x)→aParts sl l=aParts sl' l:=by
 intro l
 induction l with
 | nil=>intro _;rfl
 | cons a l ih =>
   obtain ⟨i,a⟩:=a
   intro h
   have h1:=h a (by simp)
   have h2:=ih fun x hx=>h x (by simp only [List.map_cons,List.mem_cons];exact .inr hx)
   simp only [aParts,h1,h2]
theorem aevo_congr {sl sl':List Value} {o:Option Operand} (h:∀ x∈o.toArray,aev sl x=aev sl' x):aevo sl o=aevo sl' o:=by
 cases o with
 | none=>rfl
 | some x=>simp only [aevo,h x (by simp)]
theorem aop_congr {sl sl':List Value} {H} {o:Op} (h:∀ x∈o.operands,aev sl x=aev sl' x):aop P sl H o=aop P sl' H o:=by
 cases o
 case build t ps=>have:=aParts_congr (l:=ps.toList) (sl:=sl) (sl':=sl') (fun x hx=>h x (by simpa [Op.operands] using hx));simp only [aop,this]
 case buildSlice t n ps=>have:=aParts_congr (l:=ps.toList) (sl:=sl) (sl':=sl') (fun x hx=>h x (by simpa [Op.operands] using hx));simp only [aop,this]
 case makeFunc fn f c =>
  have h1:=aevs_congr (l:=f.toList) (sl:=sl) (sl':=sl') (fun x hx=>h x (by simp [Op.operands];exact .inl (by simpa using hx)))
  have h2:=aevs_congr (l:=c.toList) (sl:=sl) (sl':=sl') (fun x hx=>h x (by simp [Op.operands];exact .inr (by simpa using hx)))
  simp only [aop,h1,h2]
 case makeMap t r=>cases r with
  | none=>rfl
  | some x=>have:=h x (by simp [Op.operands]);simp only [aop,this]
 case slice T x lo hi mx =>
  cases mx with
  | some _=>rfl
  | none =>
    have h1:=h x (by simp [Op.operands])
    have h2:=aevo_congr (o:=lo) (sl:=sl) (sl':=sl') (fun y hy=>h y (by simp only [Op.operands,Array.mem_append];exact .inl (.inl (.inr hy))))
    have h3:=aevo_congr (o:=hi) (sl:=sl) (sl':=sl') (fun y hy=>h y (by simp only [Op.operands,Array.mem_append];exact .inl (.inr hy)))
    simp only [aop,h1,h2,h3]
 case call c =>
  obtain ⟨callee,args,ats⟩:=c
  cases callee with
  | builtin b=>have:=aevs_congr (l:=args.toList) (sl:=sl) (sl':=sl') (fun x hx=>h x (by simp [Op.operands,Call.operands];simpa using hx));simp only [aop,this]
  | _=>rfl
 case pick c a b =>
  have h1:=h c (by simp [Op.operands])
  have h2:=h a (by simp [Op.operands])
  have h3:=h b (by simp [Op.operands])
  simp only [aop,h1]
  split
  · rename_i t _;cases t<;>simp [h2,h3]
  · rfl
 case unOp op t x=>have:=h x (by simp [Op.operands]);simp only [aop,this]
 all_goals first
  | rfl
  | (simp only [Op.operands] at h;simp only [aop];simp_all;done)
theorem acallee_congr {sl sl':List Value} {o:Op} (h:∀ x∈o.operands,aev sl x=aev sl' x):acallee sl o=acallee sl' o:=by
 cases o
 case call c =>
  obtain ⟨callee,args,ats⟩:=c
  cases callee with
  | value f =>
    have h1:=h f (by simp [Op.operands,Call.operands])
    have h2:=aevs_congr (l:=args.toList) (sl:=sl) (sl':=sl') (fun x hx=>h x (by simp [Op.operands,Call.operands];exact .inr (by simpa using hx)))
    simp only [acallee,h1,h2]
  | _=>rfl
 all_goals rfl
def pureOp (P:Program):Op→Bool
 | .move _ | .assign _ | .pick .. | .build .. | .load .. | .nilCheck _ | .binOp .. | .unOp .. | .makeInterface .. | .makeFunc .. | .fieldAddr .. | .field .. | .indexAddr .. | .index ..
 | .lookup .. | .extract .. | .slice ..=>true
 | .convert _ d _ => match P.underlying d with
   | some (.slice _)=>false
   | _=>true
 | .call { callee:=.builtin .len,.. }=>true
 | _=>false
theorem hlen_more {H X:AHeap} {b L} (h:hlen H b=some L):hlen (H++X) b=some L:=by
 unfold hlen at *
 cases hb:H[b]? with
 | none=>simp [hb] at h
 | some o=>rw [List.getElem?_append_left (List.getElem?_eq_some_iff.1 hb).1,hb];simpa [hb] using h
theorem hcells_more {H X:AHeap} {b cs} (h:hcells H b=some cs):hcells (H++X) b=some cs:=by
 rw [hcells_eq] at *
 cases hb:H[b]? with
 | none=>simp [hb] at h
 | some o=>rw [List.getElem?_append_left (List.getElem?_eq_some_iff.1 hb).1,hb];simpa [hb] using h
theorem get_more {H X:AHeap} {b:Nat} {o:AObj} (h:H[b]?=some o):(H++X)[b]?=some o:=by
 rw [List.getElem?_append_left (List.getElem?_eq_some_iff.1 h).1,h]
theorem deG_more (H X:AHeap) (v:Value):deG (H++X) v=deG H v∨∃ g o,deG H v=.pointer (some ⟨g,o,none⟩):=by
 unfold deG
 split
 · rename_i g o
   cases hf:gFind H g 0 with
   | none=>exact .inr ⟨g,o,rfl⟩
   | some q=>rw [gFind_app hf];exact .inl rfl
 · exact .inl rfl
theorem aLoad_more {H X:AHeap} {T v r} (h:aLoad P H T v=some r):aLoad P (H++X) T v=some r:=by
 unfold aLoad at *
 rcases deG_more H X v with e | ⟨g,o,e⟩
 case inr=>rw [e] at h;cases h
 rw [e]
 generalize deG H v=v at h ⊢
 unfold aLoad0 at *
 split at h
 · rename_i b o m
   cases hc:hcells H b with
   | none=>simp [hc] at h
   | some cs=>rw [hcells_more hc];simpa [hc] using h
 · cases h
theorem aFieldAddr_more {H X:AHeap} {T v f r} (h:aFieldAddr P H T v f=some r):aFieldAddr P (H++X) T v f=some r:=by
 unfold aFieldAddr at *
 split at h
 · rename_i b o m
   split at h
   · rename_i hm
     try simp only
     rw [if_pos (hlen_more hm)]
     exact h
   · cases h
 · cases h
theorem aIndexAddr_more {H X:AHeap} {T v i r} (h:aIndexAddr P H T v i=some r):aIndexAddr P (H++X) T v i=some r:=by
 unfold aIndexAddr at *
 rcases deG_more H X v with e | ⟨g,o,e⟩
 case inr =>
  rw [e] at h
  unfold aIndexAddr0 at h
  split at h<;>cases h
 rw [e]
 generalize deG H v=v at h ⊢
 unfold aIndexAddr0 at *
 split at h
 · split at h
   · rename_i hh
     split at h
     · rename_i hm
       try simp only
       rw [if_pos ⟨hlen_more hm.1,hm.2⟩]
       exact h
     · cases h
   · try simp only
     split at h
     · split at h
       · rename_i hu hm
         try simp only [hu]
         rw [if_pos ⟨hlen_more hm.1,hm.2⟩]
         exact h
       · cases h
     · cases h
   · cases h
 · cases h
theorem aLookup_more {H X:AHeap} {T m k ok r} (h:aLookup P H T m k ok=some r):aLookup P (H++X) T m k ok=some r:=by
 unfold aLookup at *
 split at h
 · rename_i d e hm
   (try simp only [hm])
   split at h
   · rename_i hk
     (try rw [if_pos hk])
     split at h
     · exact h
     · rename_i b
       split at h
       · rename_i es hb
         (try simp only [get_more hb])
         exact h
       · cases h
     · cases h
   · cases h
 · cases h
theorem aLen_more {H X:AHeap} {t x r} (h:aLen P H t x=some r):aLen P (H++X) t x=some r:=by
 unfold aLen at *
 split at h
 · rename_i hu;(try simp only [hu]);exact h
 · rename_i hu;(try simp only [hu]);exact h
 · rename_i hu;(try simp only [hu]);exact h
 · rename_i hu
   try simp only [hu]
   split at h
   · rename_i hb;simp only [get_more hb];exact h
   · cases h
 · rename_i hu;(try simp only [hu]);exact h
 · cases h
theorem aSliceOp_more {H X:AHeap} {T x lo hi r} (h:aSliceOp P H T x lo hi=some r):aSliceOp P (H++X) T x lo hi=some r:=by
 unfold aSliceOp at *
 split at h
 · exact h
 · exact h
 · rename_i b o m n c
   try simp only
   split at h
   · rename_i hu hl hh
     split at h
     · rename_i hz
       split at h
       · rename_i hm
         try simp only [hu,hl,hh,hz]
         rw [if_pos]
         · exact h
         · refine ⟨hlen_more hm.1,hm.2.1,hm.2.2.1,hm.2.2.2.1,hm.2.2.2.2.imp id (Or.imp id fun q=>?_)⟩
           cases hb:H[b]? with
           | none=>simp [hb] at q
           | some ob=>rw [get_more hb];simpa [hb] using q
       · cases h
     · cases h
   · cases h
 · try simp only
   split at h
   · rename_i hu
     split at h
     · rename_i hl hh hz
       split at h
       · rename_i hm
         try simp only [hu,hl,hh,hz]
         rw [if_pos ⟨hlen_more hm.1,hm.2⟩]
         exact h
       · cases h
     · cases h
   · cases h
 · cases h
theorem bump_map {α β:Type} {o:Option α} {f:α→β} {H H' K:AHeap} {r:β} (h:o.map (fun x=>(f x,H))=some (r,H')):o.map (fun x=>(f x,K))=some (r,K):=by
 cases o with
 | none=>cases h
 | some x=>cases h;rfl
theorem aPtrConv_more {H X:AHeap} {s d v r H'} (h:aPtrConv P H s d v=some (r,H')):H'=H∧aPtrConv P (H++X) s d v=some (r,H++X):=by
 unfold aPtrConv at *
 split at h
 · split at h
   · cases h;exact ⟨rfl,rfl⟩
   · split at h
     · rename_i hb
       simp only [get_more hb]
       split at h
       · rename_i hc;cases h;exact ⟨rfl,if_pos hc⟩
       · cases h
     · cases h
   · cases h
 · split at h
   · cases h;exact ⟨rfl,rfl⟩
   · split at h
     · rename_i hb
       simp only [get_more hb]
       split at h
       · rename_i hc;cases h;exact ⟨rfl,if_pos hc⟩
       · cases h
     · cases h
   · cases h
 · cases h
theorem aPtrEq_more {H X:AHeap} {op T a b r} (h:aPtrEq P H op T a b=some r):aPtrEq P (H++X) op T a b=some r:=by
 unfold aPtrEq at *
 split at h
 · split at h
   · split at h
     · split at h
       · rename_i hc
         try simp only
         rw [if_pos ⟨hc.1,hc.2.1,hc.2.2.1,hlen_more hc.2.2.2⟩]
         exact h
       · cases h
     · cases h
   · cases h
 · cases h
theorem aBin2_more {H X:AHeap} {op T x y a b r} (h:aBin2 P H op T x y a b=some r):aBin2 P (H++X) op T x y a b=some r:=by
 unfold aBin2 at *
 split at h
 · exact h
 · exact aPtrEq_more h
theorem aConv_more {H X:AHeap} {s d v r} (hd:∀ e,P.underlying d≠some (.slice e)) (h:aConv P H s d v=some (r,H)):aConv P (H++X) s d v=some (r,H++X):=by
 unfold aConv at *
 split at h
 · split at h
   · rename_i h1 h2;(try simp only [h1,h2]);cases h;rfl
   · rename_i h2;exact absurd h2 (hd _)
   · cases h
 · split at h
   · rename_i h1 h2;(try simp only [h1,h2]);cases h;rfl
   · cases h
 · split at h
   · rename_i h1 h2
     try simp only [h1,h2]
     split at h
     · rename_i h3;rw [if_pos h3];cases h;rfl
     · cases h
   · cases h
 · split at h
   · rename_i h1 h2
     try simp only [h1,h2]
     split at h
     · rename_i cs hc
       simp only [hcells_more hc]
       split at h
       · rename_i h3
         rw [if_pos h3]
         exact bump_map h
       · cases h
     · cases h
   · rename_i h2;exact absurd h2 (hd _)
   · cases h
 · exact (aPtrConv_more h).2
 · cases h
theorem pick_of_map' {α β:Type} {o:Option α} {f:α→β} {H H':AHeap} {r:β} (h:o.map (fun x=>(f x,H))=some (r,H')):H=H':=by
 cases o with
 | none=>cases h
 | some x=>cases h;rfl
theorem aConv_keep {H:AHeap} {s d v r H'} (hd:∀ e,P.underlying d≠some (.slice e)) (h:aConv P H s d v=some (r,H')):H'=H:=by
 unfold aConv at *
 split at h
 · split at h
   · cases h;rfl
   · rename_i h2;exact absurd h2 (hd _)
   · cases h
 · split at h
   · cases h;rfl
   · cases h
 · split at h
   · split at h
     · cases h;rfl
     · cases h
   · cases h
 · split at h
   · split at h
     · split at h
       · exact (pick_of_map' h).symm
       · cases h
     · cases h
   · rename_i h2;exact absurd h2 (hd _)
   · cases h
 · exact (aPtrConv_more (X:=[]) h).1
 · cases h
theorem omap_keep {α:Type} {o o':Option α} {H H' K:AHeap} {r:α} (h:o.map (·,H)=some (r,H')) (k:o=some r→o'=some r):H'=H∧o'.map (·,K)=some (r,K):=by
 obtain ⟨h1,h2⟩:=pick_of_map h
 exact ⟨h2,by rw [k h1];rfl⟩
theorem obind_keep {α:Type} {a:Option α} {f g:α→Option (Value × AHeap)} {r:Value} {H' H K:AHeap} (h:a.bind f=some (r,H')) (k:∀ x,f x=some (r,H')→H'=H∧g x=some (r,K)):H'=H∧a.bind g=some (r,K):=by
 cases a with
 | none=>cases h
 | some x=>exact k x h
theorem aop_pure {sl:List Value} {H X:AHeap} {o:Op} {v H'} (hp:pureOp P o=true) (h:aop P sl H o=some (v,H')):H'=H∧aop P sl (H++X) o=some (v,H++X):=by
 unfold pureOp at hp
 split at hp
 · exact omap_keep h id
 · exact omap_keep h id
 · simp only [aop] at h ⊢
   split at h
   · exact omap_keep h id
   · cases h
 · exact obind_keep h fun l hl=>omap_keep hl id
 · exact obind_keep h fun l hl=>omap_keep hl aLoad_more
 · refine obind_keep h fun l hl=>?_
   split at hl
   · rename_i q;cases hl;exact ⟨rfl,if_pos q⟩
   · cases hl
 · simp only [aop] at h ⊢
   split at h
   · exact omap_keep h aBin2_more
   · cases h
 · refine obind_keep h fun l hl=>?_
   split at hl
   · rename_i q
     rw [if_pos q]
     refine obind_keep hl fun l hl=>?_
     split at hl
     · rename_i q;cases hl;exact ⟨rfl,if_pos q⟩
     · cases hl
   · cases hl
 · refine obind_keep h fun l hl=>?_
   try simp only at hl ⊢
   split at hl
   · cases hl
   · cases hl;exact ⟨rfl,rfl⟩
   · cases hl
 · simp only [aop] at h ⊢
   split at h
   · split at h
     · cases h
     · rename_i q;cases h;exact ⟨rfl,if_neg q⟩
   · cases h
 · exact obind_keep h fun l hl=>omap_keep hl aFieldAddr_more
 · exact obind_keep h fun l hl=>omap_keep hl id
 · simp only [aop] at h ⊢
   split at h
   · exact omap_keep h aIndexAddr_more
   · cases h
 · simp only [aop] at h ⊢
   split at h
   · exact omap_keep h id
   · cases h
 · simp only [aop] at h ⊢
   split at h
   · exact omap_keep h aLookup_more
   · cases h
 · simp only [aop] at h ⊢
   split at h
   · exact omap_keep h id
   · cases h
 · rename_i T x lo hi mx
   cases mx with
   | some _=>cases h
   | none =>
     simp only [aop] at h ⊢
     split at h
     · exact omap_keep h aSliceOp_more
     · cases h
 · rename_i s d x
   refine obind_keep h fun l hl=>?_
   have hd:∀ e,P.underlying d≠some (.slice e):=by
    intro e he;simp [he] at hp
   have:=aConv_keep hd hl
   subst this
   exact ⟨rfl,aConv_more hd hl⟩
 · refine obind_keep h fun l hl=>?_
   unfold aBuiltin at hl ⊢
   split at hl<;>rename_i hb<;>first | cases hb | skip
   · refine obind_keep hl fun t ht=>?_
     exact omap_keep ht aLen_more
   all_goals cases hl
 · cases hp
theorem pure_callee {sl o} (hp:pureOp P o=true):acallee sl o=some none:=by
 unfold pureOp at hp
 split at hp<;>first | rfl | cases hp
end Go.Vi
namespace Go.Vi
open Go.RowKit
variable {P:Program}
def obef (o:Oper):List Nat:=(o.after.toList.filter fun e=>Region.binds .any e).map (·.on)
def bmask (ms:List Nat):List Nat→Nat
 | []=>0
 | b :: r=>(1 <<< b) ||| (ms.getD b 0 ||| bmask ms r)
inductive Reach (ops:Array Oper):Nat→Nat→Prop
 | one {i j o}:ops[j]?=some o→i∈obef o→Reach ops i j
 | more {i j b o}:ops[j]?=some o→b∈obef o→Reach ops i b→Reach ops i j
theorem bmask_bit {ms l i} (h:(bmask ms l).testBit i=true):∃ b∈l,i=b∨(ms.getD b 0).testBit i=true:=by
 induction l with
 | nil=>simp [bmask] at h
 | cons b r ih =>
   simp only [bmask,Nat.testBit_or,Bool.or_eq_true] at h
   rcases h with h | h | h
   · refine ⟨b,by simp,.inl ?_⟩
     rw [Nat.one_shiftLeft,Nat.testBit_two_pow] at h
     exact (of_decide_eq_true h).symm
   · exact ⟨b,by simp,.inr h⟩
   · obtain ⟨c,h1,h2⟩:=ih h
     exact ⟨c,by simp [h1],h2⟩
structure DRow where
 eff:Bool
 back:Nat
 bar:Bool
 mask:Nat
 late:Bool
def deff (P:Program) (ops:Array Oper) (j:Nat):Bool:=(ops[j]?).any fun o=>!pureOp P o.op
structure DTab where
 ms:List Nat
 effs:List Nat
 idx:List Nat
 kmin:List Nat
def freeOp:Op→Bool
 | .move _ | .assign _=>true
 | _=>false
theorem aop_free {sl:List Value} {H:AHeap} {o:Op} {v H'} (hp:freeOp o=true) (h:aop P sl H o=some (v,H')) (K:AHeap):aop P sl K o=some (v,K):=by
 unfold freeOp at hp
 split at hp
 · exact (omap_keep h id).2
 · exact (omap_keep h id).2
 · cases hp
def DTab.bar (T:DTab) (P:Program) (ops:Array Oper) (j:Nat):Bool :=
 (List.range ops.size).all fun i=>deff P ops i || (T.ms.getD j 0).testBit i || (ops[i]?).any (fun o=>freeOp o.op) || decide (T.idx.getD j 0 < T.kmin.getD i 0)
def DTab.late (T:DTab) (P:Program) (ops:Array Oper) (j:Nat):Bool :=
 (List.range ops.size).all fun i=>decide (i≤j) || deff P ops i || (ops[i]?).any (fun o=>freeOp o.op) || decide (T.idx.getD j 0 < T.kmin.getD i 0)
def DTab.row (T:DTab) (P:Program) (ops:Array Oper) (j:Nat):DRow :=
 if deff P ops j=true then ⟨true,0,T.bar P ops j,T.ms.getD j 0,T.late P ops j⟩ else ⟨false,T.idx.getD j 0-T.kmin.getD j 0,false,0,false⟩
def DTab.okAt (T:DTab) (P:Program) (ops:Array Oper) (j:Nat) (o:Oper):Bool :=
 (obef o).all (· < j) && T.ms.getD j 0 == bmask T.ms (obef o) &&
 ((o.looksAt ops).all fun t=>(List.range ops.size).all fun i=>!((ops[i]?).bind (·.dst) == some t) || ((obef o).contains i || (T.ms.getD i 0).testBit j)) &&
 ((List.range ops.size).all fun i=>i == j || o.dst.isNone || !((ops[i]?).bind (·.dst) == o.dst)) &&
 (if deff P ops j=true then T.effs[T.idx.getD j 0]? == some j && T.idx.getD (j+1) 0 == T.idx.getD j 0+1 && (T.idx.getD j 0 == 0 || (T.effs[T.idx.getD j 0-1]?).any ((T.ms.getD j 0).testBit ·))
  else T.idx.getD (j+1) 0 == T.idx.getD j 0 && decide (T.kmin.getD j 0≤T.idx.getD j 0) && (T.kmin.getD j 0 == 0 || (T.effs[T.kmin.getD j 0-1]?).any ((T.ms.getD j 0).testBit ·)))
def DTab.ok (T:DTab) (P:Program) (ops:Array Oper):Bool :=
 ((List.range ops.size).all fun j=>(ops[j]?).all (T.okAt P ops j)) && T.idx.getD 0 0 == 0 && T.idx.getD ops.size 0 == T.effs.length &&
 (List.range T.effs.length).all fun i=>(T.effs[i]?).all fun q=>T.idx.getD q 0 == i && deff P ops q
def force {α:Type} (n:Nat) (f:Nat→α):α:=match n with
 | 0=>f 0
 | m+1=>f (m+1)
theorem force_eq {α:Type} (n:Nat) (f:Nat→α):force n f=f n:=by cases n<;>rfl
def forceL {α:Type}:List Nat→(List Nat→α)→α
 | [],f=>f []
 | x :: r,f=>force x fun x=>forceL r fun r=>f (x :: r)
theorem forceL_eq {α:Type}:∀ (l:List Nat) (f:List Nat→α),forceL l f=f l:=by
 intro l
 induction l with
 | nil=>intro f;rfl
 | cons x r ih=>intro f;simp only [forceL,force_eq,ih]
def bmaskR (k:Nat) (rv:List Nat):List Nat→Nat
 | []=>0
 | b :: r=>(1 <<< b) ||| (rv.getD (k-1-b) 0 ||| bmaskR k rv r)
def masksR:List Oper→Nat→List Nat→List Nat
 | [],_,rv=>rv.reverse
 | o :: r,k,rv=>force (bmaskR k rv (obef o)) fun m=>masksR r (k+1) (m :: rv)
def drows (P:Program) (ops:Array Oper):Option (List DRow) :=
 forceL (masksR ops.toList 0 []) fun ms =>
 forceL ((List.range ops.size).filter (deff P ops)) fun effs =>
 forceL ((List.range (ops.size+1)).map fun j=>(effs.filter (· < j)).length) fun idx =>
 forceL (ms.map fun m=>(effs.filter (m.testBit ·)).length) fun kmin =>
 let T:DTab:=⟨ms,effs,idx,kmin⟩
 if T.ok P ops=true then some ((List.range ops.size).map (T.row P ops)) else none
theorem drows_inv {P:Program} {ops:Array Oper} {rs} (h:drows P ops=some rs):∃ T:DTab,T.ok P ops=true∧rs=(List.range ops.size).map (T.row P ops):=by
 unfold drows at h
 simp only [forceL_eq] at h
 split at h
 · rename_i hok;cases h;exact ⟨_,hok,rfl⟩
 · cases h
def isListed (l:Array Bool) (i:Nat):Prop:=l.getD i false=true
structure Sound (P:Program) (ops:Array Oper) (T:DTab):Prop where
 ok:T.ok P ops=true
theorem Sound.at {ops T} (h:Sound P ops T) {j o} (ho:ops[j]?=some o):T.okAt P ops j o=true:=by
 have h1:=h.ok
 unfold DTab.ok at h1
 simp only [Bool.and_eq_true,List.all_eq_true,List.mem_range] at h1
 have:=h1.1.1.1 j (Array.getElem?_eq_some_iff.1 ho).1
 simpa [ho] using this
theorem Sound.before {ops T} (h:Sound P ops T) {j o} (ho:ops[j]?=some o):∀ b∈obef o,b < j:=by
 have h1:=h.at ho
 unfold DTab.okAt at h1
 simp only [Bool.and_eq_true,List.all_eq_true] at h1
 intro b hb
 simpa using h1.1.1.1.1 b hb
theorem Sound.reach {ops T} (h:Sound P ops T):∀ (j:Nat) {o i},ops[j]?=some o→(T.ms.getD j 0).testBit i=true→Reach ops i j:=by
 intro j
 induction j using Nat.strongRecOn with
 | ind j ih =>
   intro o i ho hb
   have h1:=h.at ho
   unfold DTab.okAt at h1
   simp only [Bool.and_eq_true] at h1
   have h2:=h1.1.1.1.2
   rw [beq_iff_eq] at h2
   rw [h2] at hb
   obtain ⟨b,hm,hc⟩:=bmask_bit hb
   have hlt:=h.before ho b hm
   rcases hc with rfl | hc
   · exact .one ho hm
   · have:b < ops.size:=by have:=(Array.getElem?_eq_some_iff.1 ho).1;omega
     exact .more ho hm (ih b hlt (Array.getElem?_eq_getElem this) hc)
theorem Sound.look {ops T} (h:Sound P ops T) {j:Nat} {o:Oper} (ho:ops[j]?=some o) {t:Nat} {i:Nat} {oi:Oper} (ht:t∈o.looksAt ops) (hi:ops[i]?=some oi) (hd:oi.dst=some t):i∈obef o∨Reach ops j i:=by
 have h1:=h.at ho
 unfold DTab.okAt at h1
 simp only [Bool.and_eq_true,List.all_eq_true,List.mem_range] at h1
 have h2:=h1.1.1.2 t ht i (Array.getElem?_eq_some_iff.1 hi).1
 rw [hi] at h2
 simp only [Option.bind_some,hd,beq_self_eq_true,Bool.not_true,Bool.false_or,Bool.or_eq_true] at h2
 rcases h2 with h2 | h2
 · exact .inl (by simpa using h2)
 · exact .inr (h.reach i hi h2)
theorem Sound.lt {ops T} (h:Sound P ops T) {i j} (r:Reach ops i j):i < j:=by
 induction r with
 | one ho hi=>exact h.before ho _ hi
 | more ho hb _ ih=>have:=h.before ho _ hb;omega
theorem Sound.apart {ops T} (h:Sound P ops T) {j:Nat} {o:Oper} (ho:ops[j]?=some o) {i:Nat} {oi:Oper} {d:Nat} (hi:ops[i]?=some oi) (hne:i≠j) (hd:o.dst=some d):oi.dst≠some d:=by
 have h1:=h.at ho
 unfold DTab.okAt at h1
 simp only [Bool.and_eq_true,List.all_eq_true,List.mem_range] at h1
 have h2:=h1.1.2 i (Array.getElem?_eq_some_iff.1 hi).1
 simpa [hi,hd,hne] using h2
theorem Sound.effAt {ops T} (h:Sound P ops T) {j o} (ho:ops[j]?=some o) (he:deff P ops j=true) :
  T.effs[T.idx.getD j 0]?=some j∧T.idx.getD (j+1) 0=T.idx.getD j 0+1∧(T.idx.getD j 0=0∨∃ q,T.effs[T.idx.getD j 0-1]?=some q∧Reach ops q j):=by
 have h1:=h.at ho
 unfold DTab.okAt at h1
 simp only [Bool.and_eq_true] at h1
 have h2:=h1.2
 rw [if_pos he] at h2
 simp only [Bool.and_eq_true,beq_iff_eq,Bool.or_eq_true,Option.any_eq_true] at h2
 exact ⟨h2.1.1,h2.1.2,h2.2.imp id fun ⟨q,a,b⟩=>⟨q,a,h.reach j ho b⟩⟩
theorem Sound.pureAt {ops T} (h:Sound P ops T) {j o} (ho:ops[j]?=some o) (he:¬ deff P ops j=true) :
  T.idx.getD (j+1) 0=T.idx.getD j 0∧T.kmin.getD j 0≤T.idx.getD j 0∧(T.kmin.getD j 0=0∨∃ q,T.effs[T.kmin.getD j 0-1]?=some q∧Reach ops q j):=by
 have h1:=h.at ho
 unfold DTab.okAt at h1
 simp only [Bool.and_eq_true] at h1
 have h2:=h1.2
 rw [if_neg he] at h2
 simp only [Bool.and_eq_true,beq_iff_eq,Bool.or_eq_true,Option.any_eq_true,decide_eq_true_eq] at h2
 exact ⟨h2.1.1,h2.1.2,h2.2.imp id fun ⟨q,a,b⟩=>⟨q,a,h.reach j ho b⟩⟩
theorem Sound.ends {ops T} (h:Sound P ops T):T.idx.getD 0 0=0∧T.idx.getD ops.size 0=T.effs.length∧∀ i q,T.effs[i]?=some q→T.idx.getD q 0=i∧deff P ops q=true:=by
 have h1:=h.ok
 unfold DTab.ok at h1
 simp only [Bool.and_eq_true,List.all_eq_true,List.mem_range,beq_iff_eq] at h1
 refine ⟨h1.1.1.2,h1.1.2,fun i q hq=>?_⟩
 have:=h1.2 i (List.getElem?_eq_some_iff.1 hq).1
 simpa [hq] using this
theorem deff_lt {ops:Array Oper} {q} (h:deff P ops q=true):∃ o,ops[q]?=some o:=by
 unfold deff at h
 cases hq:ops[q]? with
 | none=>simp [hq] at h
 | some o=>exact ⟨o,rfl⟩
structure DInv (ops:Array Oper) (T:DTab) (g:Nat→Value) (sl0:List Value) (l:Array Bool) (sl:List Value) (k:Nat):Prop where
 size:l.size=ops.size
 down:∀ j o,ops[j]?=some o→isListed l j→∀ b∈obef o,isListed l b
 len:sl.length=sl0.length
 old:∀ t,(∀ i o,ops[i]?=some o→isListed l i→o.dst≠some t)→sl[t]?=sl0[t]?
 new:∀ i o t,ops[i]?=some o→isListed l i→o.dst=some t→t < sl0.length→sl[t]?=some (g i)
 num:∀ i q,T.effs[i]?=some q→(isListed l q↔i < k)
 top:k≤T.effs.length
theorem DInv.reach {ops T g sl0 l sl k} (h:DInv ops T g sl0 l sl k) {i j} (r:Reach ops i j) (hj:isListed l j):isListed l i:=by
 induction r with
 | one ho hi=>exact h.down _ _ ho hj _ hi
 | more ho hb _ ih=>exact ih (h.down _ _ ho hj _ hb)
theorem isListed_set {l:Array Bool} {i j:Nat} (hi:i < l.size):isListed (l.setIfInBounds i true) j↔(j=i∨isListed l j):=by
 unfold isListed
 by_cases h:i=j
 · subst h;simp [hi]
 · rw [getD_set_ne false h]
   constructor
   · exact .inr
   · rintro (rfl | q)
     · exact absurd rfl h
     · exact q
theorem Reach.run {ops T g sl0 l sl k} (h:DInv ops T g sl0 l sl k) {i j o} (r:Reach ops i j) (ho:ops[j]?=some o) (hb:∀ b∈obef o,isListed l b):isListed l i:=by
 cases r with
 | one ho' hi=>rw [ho] at ho';cases ho';exact hb _ hi
 | more ho' hm r=>rw [ho] at ho';cases ho';exact h.reach r (hb _ hm)
theorem aput_get_self {sl:List Value} {d t:Nat} {v:Value} (hd:d=t) (ht:t < sl.length):(aput sl (some d) v)[t]?=some v:=by subst hd;simp [aput,ht]
theorem aput_get_ne {sl:List Value} {d:Option Nat} {t:Nat} {v:Value} (hd:d≠some t):(aput sl d v)[t]?=sl[t]?:=by
 cases d with
 | none=>rfl
 | some d=>exact List.getElem?_set_ne (fun e=>hd (by rw [e]))
theorem aput_len {sl:List Value} {d:Option Nat} {v:Value}:(aput sl d v).length=sl.length:=by cases d<;>simp [aput]
theorem DInv.next {ops T g sl0 l sl k} (hs:Sound P ops T) (h:DInv ops T g sl0 l sl k) {j o} (ho:ops[j]?=some o) (hj:¬ isListed l j) (hb:∀ b∈obef o,isListed l b) {k':Nat}
  (hk:(deff P ops j=true∧k=T.idx.getD j 0∧k'=k+1)∨(¬ deff P ops j=true∧k'=k)):DInv ops T g sl0 (l.setIfInBounds j true) (aput sl o.dst (g j)) k':=by
 have hlt:j < l.size:=by rw [h.size];exact (Array.getElem?_eq_some_iff.1 ho).1
 have hset:∀ i,isListed (l.setIfInBounds j true) i↔(i=j∨isListed l i):=fun i=>isListed_set hlt
 refine ⟨by simp [h.size],fun i oi hi hl b hm=>?_,by rw [aput_len,h.len],fun t ht=>?_,fun i oi t hi hl hd htl=>?_,fun i q hq=>?_,?_⟩
 · rw [hset] at hl ⊢
   rcases hl with rfl | hl
   · rw [ho] at hi;cases hi;exact .inr (hb b hm)
   · exact .inr (h.down i oi hi hl b hm)
 · rw [aput_get_ne (ht j o ho ((hset j).2 (.inl rfl)))]
   exact h.old t fun i oi hi hl=>ht i oi hi ((hset i).2 (.inr hl))
 · by_cases hij:i=j
   · subst hij
     rw [ho] at hi;cases hi
     rw [hd]
     exact aput_get_self rfl (by rw [h.len];exact htl)
   · have hl':=((hset i).1 hl).resolve_left hij
     rw [aput_get_ne (fun e=>hs.apart ho hi hij e hd)]
     exact h.new i oi t hi hl' hd htl
 · rw [hset]
   rcases hk with ⟨he,rfl,rfl⟩ | ⟨he,rfl⟩
   · have h1:=hs.effAt ho he
     constructor
     · rintro (rfl | hl)
       · have:=((hs.ends).2.2 i q hq).1;omega
       · have:=(h.num i q hq).1 hl;omega
     · intro hi
       by_cases hie:i=T.idx.getD j 0
       · subst hie;rw [h1.1] at hq;cases hq;exact .inl rfl
       · exact .inr ((h.num i q hq).2 (by omega))
   · constructor
     · rintro (rfl | hl)
       · exact absurd ((hs.ends).2.2 i q hq).2 he
       · exact (h.num i q hq).1 hl
     · intro hi;exact .inr ((h.num i q hq).2 hi)
 · rcases hk with ⟨he,rfl,rfl⟩ | ⟨he,rfl⟩
   · have:=(List.getElem?_eq_some_iff.1 (hs.effAt ho he).1).1;omega
   · exact h.top
end Go.Vi
namespace Go.Vi
open Go.RowKit
variable {P:Program}
section
variable {ops:Array Oper} {T:DTab}
theorem reach_trans {ops:Array Oper} {a b c:Nat} (h1:Reach ops a b) (h2:Reach ops b c):Reach ops a c:=by
 induction h2 with
 | one ho hi=>exact .more ho hi h1
 | more ho hb _ ih=>exact .more ho hb ih
theorem effs_reach (h:Sound P ops T):∀ (m k:Nat) {q r:Nat},k < m→T.effs[k]?=some q→T.effs[m]?=some r→Reach ops q r:=by
 intro m
 induction m with
 | zero=>intro k q r hk;omega
 | succ m ih =>
   intro k q r hk hq hr
   obtain ⟨e1,e2⟩:=h.ends.2.2 _ _ hr
   obtain ⟨o,ho⟩:=deff_lt e2
   have:=(h.effAt ho e2).2.2
   rw [e1] at this
   rcases this with c | ⟨p,hp,rp⟩
   · omega
   · simp only [Nat.add_sub_cancel] at hp
     by_cases hkm:k=m
     · subst hkm;rw [hq] at hp;cases hp;exact rp
     · have r1:=ih k (by omega) hq hp
       exact reach_trans r1 rp
theorem obef_listed {l:Array Bool} {o:Oper} (h:∀ e∈o.after,Region.binds .any e=true→l.getD e.on false=true):∀ b∈obef o,isListed l b:=by
 intro b hb
 unfold obef at hb
 obtain ⟨e,h1,rfl⟩:=List.mem_map.1 hb
 obtain ⟨h2,h3⟩:=List.mem_filter.1 h1
 exact h e (by simpa using h2) (by simpa using h3)
theorem listed_of {l:Array Bool} {o:Oper} (h:∀ b∈obef o,isListed l b):∀ e∈o.after,Region.binds .any e=true→l.getD e.on false=true:=by
 intro e he hb
 exact h e.on (List.mem_map.2 ⟨e,List.mem_filter.2 ⟨by simpa using he,by simpa using hb⟩,rfl⟩)
theorem getD_size {l:Array Bool} {j:Nat} (hj:j < l.size) (d d':Bool):l.getD j d=l.getD j d':=by simp [Array.getD,hj]
theorem all_done (h:Sound P ops T) {l:Array Bool} (hs:l.size=ops.size) (hr:Region.ready .any ops l=[]):∀ j,j < ops.size→isListed l j:=by
 intro j
 induction j using Nat.strongRecOn with
 | ind j ih =>
   intro hj
   have ho:ops[j]?=some ops[j]:=Array.getElem?_eq_getElem hj
   cases hl:l.getD j false with
   | true=>exact hl
   | false =>
     exfalso
     have:j∈Region.ready .any ops l:=mem_ready.2 ⟨by rw [getD_size (by omega) true false];exact hl,_,ho,listed_of fun b hb=>ih b (h.before ho b hb) (by have:=h.before ho b hb;omega)⟩
     rw [hr] at this
     cases this
end
end Go.Vi
namespace Go.Vi
open Go.RowKit
def pickV (c a b:Value):Option Value:=match c with
 | .bool t=>some (if t then a else b)
 | _=>none
def tupV (v:Value) (i:Nat):Option Value:=match v with
 | .tuple vs=>vs[i]?
 | _=>none
def unV (P:Program) (op:UnOp) (v:Value):Option Value:=if isLit v=true then (pv P (Op.unary op v)).bind fun r=>if isLit r=true then some r else none else none
def convV (P:Program) (H:AHeap) (s d:TypeId) (v:Value):Option Value:=(aConv P H s d v).map (·.1)
def ifaceV (P:Program) (T:TypeId) (v:Value):Option Value:=match P.underlying T with
 | some (.interface _)=>none
 | some _=>some (.iface T v)
 | none=>none
def nilV (v:Value):Option Value:=if aIsPtr v=true then some v else none
def aevps (sl:List Value):List (Nat × Operand)→Option (List (Nat × Value))
 | []=>some []
 | (i,x) :: r=>(aev sl x).bind fun v=>(aevps sl r).bind fun l=>some ((i,v) :: l)
def allStor (l:List (Nat × Value)):Bool:=l.all fun p=>storable p.2
theorem aParts_of {sl:List Value}:∀ {ps:List (Nat × Operand)} {l},aevps sl ps=some l→allStor l=true→aParts sl ps=some l:=by
 intro ps
 induction ps with
 | nil=>intro l h _;cases h;rfl
 | cons p r ih =>
   obtain ⟨i,x⟩:=p
   intro l h hs
   simp only [aevps] at h
   cases hx:aev sl x with
   | none=>simp [hx] at h
   | some v =>
     cases hr:aevps sl r with
     | none=>simp [hx,hr] at h
     | some l2 =>
       simp [hx,hr] at h
       subst h
       simp only [allStor,List.all_cons,Bool.and_eq_true] at hs
       simp only [aParts,hx,ih hr hs.2,if_pos hs.1]
def buildV (P:Program) (T:TypeId) (l:List (Nat × Value)):Option Value:=if allStor l=true then aBuild P T l else none
def aopv (P:Program) (sl:List Value) (H:AHeap) (o:Op):Option Value :=
 match o with
 | .move x | .assign x=>aev sl x
 | .pick c a b=>(aev sl c).bind fun c=>(aev sl a).bind fun a=>(aev sl b).bind fun b=>pickV c a b
 | .build T ps=>(aevps sl ps.toList).bind fun l=>buildV P T l
 | .load T a=>(aev sl a).bind fun v=>aLoad P H T v
 | .nilCheck x=>(aev sl x).bind nilV
 | .binOp op T x y _=>(aev sl x).bind fun a=>(aev sl y).bind fun b=>aBin2 P H op T x y a b
 | .unOp op _ x=>(aev sl x).bind fun v=>unV P op v
 | .convert s d x=>(aev sl x).bind fun v=>convV P H s d v
 | .makeInterface T x=>(aev sl x).bind fun v=>ifaceV P T v
 | .makeFunc fn f c=>(aevs sl f.toList).bind fun f=>(aevs sl c.toList).bind fun c=>if isYield fn=true then none else some (.func fn f.toArray c.toArray)
 | .slice T x lo hi none=>(aev sl x).bind fun x=>(aevo sl lo).bind fun lo=>(aevo sl hi).bind fun hi=>aSliceOp P H T x lo hi
 | .fieldAddr T x f=>(aev sl x).bind fun v=>aFieldAddr P H T v f
 | .field T x f=>(aev sl x).bind fun v=>aField P T v f
 | .indexAddr T x ix=>(aev sl x).bind fun v=>(aev sl ix).bind fun i=>aIndexAddr P H T v i
 | .index T x ix=>(aev sl x).bind fun v=>(aev sl ix).bind fun i=>aIndex P T v i
 | .lookup T x ix ok=>(aev sl x).bind fun v=>(aev sl ix).bind fun i=>aLookup P H T v i ok
 | .extract t i=>(aev sl t).bind fun v=>tupV v i
 | .call { callee := .builtin .len, args, argTypes } => (aevs sl args.toList).bind fun l => match l with
   | [x]=>(argTypes[0]?).bind fun t=>aLen P H t x
   | _=>none
 | _=>none
variable {P:Program}
theorem bind_some {α β:Type} {a:Option α} {f:α→Option β} {b:β} (h:a.bind f=some b):∃ x,a=some x∧f x=some b:=by
 cases a with
 | none=>cases h
 | some x=>exact ⟨x,rfl,h⟩
theorem aopv_sound {sl H o v} (hp:pureOp P o=true) (h:aopv P sl H o=some v):aop P sl H o=some (v,H):=by
 unfold pureOp at hp
 split at hp
 · simp only [aopv] at h;simp only [aop,h];rfl
 · simp only [aopv] at h;simp only [aop,h];rfl
 · simp only [aopv] at h
   obtain ⟨c,h1,k1⟩:=bind_some h
   obtain ⟨a,h2,k2⟩:=bind_some k1
   obtain ⟨b,h3,k3⟩:=bind_some k2
   clear h k1 k2
   unfold pickV at k3
   split at k3
   · rename_i t
     simp only [aop,h1]
     obtain rfl:=Option.some.inj k3
     cases t<;>simp [h2,h3]
   · cases k3
 · simp only [aopv] at h
   obtain ⟨c,h1,k1⟩:=bind_some h
   unfold buildV at k1
   split at k1
   · rename_i q
     simp only [aop,aParts_of h1 q,Option.bind_some,k1];rfl
   · cases k1
 · simp only [aopv] at h
   obtain ⟨c,h1,h⟩:=bind_some h
   simp only [aop,h1,Option.bind_some,h];rfl
 · simp only [aopv] at h
   obtain ⟨c,h1,h⟩:=bind_some h
   unfold nilV at h
   simp only [aop,h1,Option.bind_some]
   split at h
   · cases h;rename_i q;rw [if_pos q]
   · cases h
 · simp only [aopv] at h
   obtain ⟨c,h1,h⟩:=bind_some h
   obtain ⟨a,h2,h⟩:=bind_some h
   simp only [aop,h1,h2,h];rfl
 · simp only [aopv] at h
   obtain ⟨c,h1,h⟩:=bind_some h
   unfold unV at h
   simp only [aop,h1,Option.bind_some]
   split at h
   · rename_i q
     obtain ⟨r,h2,h⟩:=bind_some h
     rw [if_pos q,h2]
     split at h
     · rename_i q;cases h;simp [q]
     · cases h
   · cases h
 · simp only [aopv] at h
   obtain ⟨c,h1,h⟩:=bind_some h
   unfold ifaceV at h
   simp only [aop,h1,Option.bind_some]
   split at h
   · cases h
   · rename_i hu;obtain rfl:=Option.some.inj h;simp only [hu]
   · cases h
 · simp only [aopv] at h
   obtain ⟨c,h1,h⟩:=bind_some h
   obtain ⟨a,h2,h⟩:=bind_some h
   split at h
   · cases h
   · rename_i hy
     cases h
     simp only [aop,h1,h2,if_neg hy]
 · simp only [aopv] at h
   obtain ⟨c,h1,h⟩:=bind_some h
   simp only [aop,h1,Option.bind_some,h];rfl
 · simp only [aopv] at h
   obtain ⟨c,h1,h⟩:=bind_some h
   simp only [aop,h1,Option.bind_some,h];rfl
 · simp only [aopv] at h
   obtain ⟨c,h1,h⟩:=bind_some h
   obtain ⟨a,h2,h⟩:=bind_some h
   simp only [aop,h1,h2,h];rfl
 · simp only [aopv] at h
   obtain ⟨c,h1,h⟩:=bind_some h
   obtain ⟨a,h2,h⟩:=bind_some h
   simp only [aop,h1,h2,h];rfl
 · simp only [aopv] at h
   obtain ⟨c,h1,h⟩:=bind_some h
   obtain ⟨a,h2,h⟩:=bind_some h
   simp only [aop,h1,h2,h];rfl
 · simp only [aopv] at h
   obtain ⟨c,h1,h⟩:=bind_some h
   unfold tupV at h
   simp only [aop,h1]
   split at h
   · simp only [h];rfl
   · cases h
 · rename_i T x lo hi mx
   cases mx with
   | some _=>cases h
   | none =>
     simp only [aopv] at h
     obtain ⟨c,h1,h⟩:=bind_some h
     obtain ⟨a,h2,h⟩:=bind_some h
     obtain ⟨b,h3,h⟩:=bind_some h
     simp only [aop,h1,h2,h3,h];rfl
 · rename_i s d x
   simp only [aopv] at h
   obtain ⟨c,h1,h⟩:=bind_some h
   have hd:∀ e,P.underlying d≠some (.slice e):=by
    intro e he;simp [he] at hp
   unfold convV at h
   cases hc:aConv P H s d c with
   | none=>simp [hc] at h
   | some r =>
     obtain ⟨r,H'⟩:=r
     simp [hc] at h
     subst h
     have:=aConv_keep hd hc
     subst this
     simp only [aop,h1,Option.bind_some,hc]
 · simp only [aopv] at h
   obtain ⟨l,h1,h⟩:=bind_some h
   simp only [aop,h1,Option.bind_some]
   split at h
   · obtain ⟨t,h2,h⟩:=bind_some h
     simp only [aBuiltin,h2,Option.bind_some,h];rfl
   · cases h
 · cases hp
def gif {α:Type} (x:Value) (want:Bool) (a:Option α) (d:α):Option α:=match x with
 | .bool b=>if (b == want)=true then a else some d
 | .tuple vs=>if vs.size=0 then some d else none
 | _=>none
def gifp (x:Value) (want:Bool) (a d:Prop):Prop:=match x with
 | .bool b=>if (b == want)=true then a else d
 | .tuple vs=>if vs.size=0 then d else False
 | _=>False
def gslot (ops:Array Oper) (sl:List Value) (j:Nat):Option Value:=((ops[j]?).bind (·.dst)).bind (sl[·]?)
def gval (P:Program) (ops:Array Oper) (sl:List Value) (H:AHeap) (o:Oper):Option Value:=match o.guard with
 | none=>aopv P sl H o.op
 | some (j, want) => match gslot ops sl j with
   | some x=>gif x want (aopv P sl H o.op) undef
   | none=>none
def callV (P:Program) (f:Value) (args:List Value) (H:AHeap) (v:Value) (H':AHeap):Prop:=match f with
 | .func (.func k) first captured=>ACalls P k (first.toList++args++captured.toList) H v H'
 | .func (.yield b) first captured=>(∃ r,H[b]?=some (.loop r))∧AYields P b (first.toList++args++captured.toList) H v H'
 | _=>False
def aeff (P:Program) (sl:List Value) (H:AHeap) (o:Op) (v:Value) (H':AHeap):Prop:=match o with
 | .call { callee := .value (.func k), args, .. } => match aevs sl args.toList with
   | some l=>ACalls P k l H v H'
   | none=>False
 | .call { callee := .value f, args, .. } => match aev sl f, aevs sl args.toList with
   | some f,some l=>callV P f l H v H'
   | _,_=>False
 | .call { callee := .builtin b, args, argTypes } => match aevs sl args.toList with
   | some l=>aBuiltin P H b argTypes l=some (v,H')
   | none=>False
 | .box T x => match aev sl x with
   | some x=>aNew H T x=some (v,H')
   | none=>False
 | .store T a x => match aev sl a, aev sl x with
   | some a,some x=>v=undef∧aStore P H T a x=some H'
   | _,_=>False
 | .mapUpdate T m k x | .insert T m k x => match aev sl m, aev sl k, aev sl x with
   | some m,some k,some x=>v=undef∧aUpdate P H T m k x=some H'
   | _,_,_=>False
 | .convert s d x => match aev sl x with
   | some x=>aConv P H s d x=some (v,H')
   | none=>False
 | .makeSlice t l c => match aev sl l, aev sl c with
   | some l,some c=>aMake P H t l c=some (v,H')
   | _,_=>False
 | .buildSlice T n ps => match aevps sl ps.toList with
   | some l=>allStor l=true∧aBuildSlice P H T n l=some (v,H')
   | none=>False
 | o=>aop P sl H o=some (v,H')
def geff (P:Program) (ops:Array Oper) (sl:List Value) (H:AHeap) (o:Oper) (v:Value) (H':AHeap):Prop:=match o.guard with
 | none=>aeff P sl H o.op v H'
 | some (j, want) => match gslot ops sl j with
   | some x=>gifp x want (aeff P sl H o.op v H') (v=undef∧H'=H)
   | none=>False
def GStep (P:Program) (ops:Array Oper) (sl:List Value) (H:AHeap) (o:Oper) (v:Value) (H':AHeap):Prop :=
 match awant ops sl o with
 | some true=>OpTo P sl H o.op v H'
 | some false=>v=undef∧H'=H
 | none=>False
theorem awant_slot {ops sl} {o:Oper} {j want x} (hg:o.guard=some (j,want)) (hx:gslot ops sl j=some x):awant ops sl o=match x with | .bool b=>some (b == want) | .tuple vs=>if vs.size=0 then some false else none | _=>none:=by
 unfold gslot at hx
 obtain ⟨t,h1,h2⟩:=bind_some hx
 unfold awant
 simp only [hg,h1,h2]
 cases x<;>rfl
theorem gval_step {ops sl H v} {o:Oper} (hp:pureOp P o.op=true) (h:gval P ops sl H o=some v):GStep P ops sl H o v H:=by
 unfold gval at h
 unfold GStep OpTo
 rw [pure_callee hp]
 split at h
 · rename_i hg
   simp only [awant,hg]
   exact aopv_sound hp h
 · rename_i j want hg
   split at h
   · rename_i x hx
     rw [awant_slot hg hx]
     unfold gif at h
     split at h
     · rename_i b
       split at h
       · rename_i hb;simp only [hb];exact aopv_sound hp h
       · rename_i hb;cases h;have:(b == want)=false:=by simpa using hb
         simp only [this];simp
     · split at h
       · rename_i hz;cases h;simp [hz]
       · cases h
     · cases h
   · cases h
theorem aeff_step {sl H v H'} {o:Op} (h:aeff P sl H o v H'):OpTo P sl H o v H':=by
 unfold OpTo
 unfold aeff at h
 split at h
 · split at h
   · rename_i l hl
     simp only [acallee,aev,hl]
     simpa [CallsA] using h
   · cases h
 · rename_i f args _ hne
   split at h
   · rename_i fv l hf hl
     unfold callV at h
     split at h
     · simp only [acallee,hf,hl];exact h
     · simp only [acallee,hf,hl];exact h
     · cases h
   · cases h
 · split at h
   · rename_i l hl
     simp only [acallee,aop,hl,Option.bind_some]
     exact h
   · cases h
 · split at h
   · rename_i x hx;simp only [acallee,aop,hx,Option.bind_some];exact h
   · cases h
 · split at h
   · rename_i h1 h2;obtain ⟨rfl,h⟩:=h;simp only [acallee,aop,h1,h2,h];rfl
   · cases h
 · split at h
   · rename_i h1 h2 h3;obtain ⟨rfl,h⟩:=h;simp only [acallee,aop,h1,h2,h3,h];rfl
   · cases h
 · split at h
   · rename_i h1 h2 h3;obtain ⟨rfl,h⟩:=h;simp only [acallee,aop,h1,h2,h3,h];rfl
   · cases h
 · split at h
   · rename_i x hx;simp only [acallee,aop,hx,Option.bind_some];exact h
   · cases h
 · split at h
   · rename_i h1 h2;simp only [acallee,aop,h1,h2];exact h
   · cases h
 · split at h
   · rename_i x hx;simp only [acallee,aop,aParts_of hx h.1,Option.bind_some];exact h.2
   · cases h
 · rename_i h1 h2 h3 _ _ _ _ _ _ _
   have:acallee sl o=some none:=by
    unfold acallee
    split
    · exact (h2 _ _ _ rfl).elim
    · rfl
   rw [this]
   exact h
theorem geff_step {ops sl H v H'} {o:Oper} (h:geff P ops sl H o v H'):GStep P ops sl H o v H':=by
 unfold geff at h
 unfold GStep
 split at h
 · rename_i hg
   simp only [awant,hg]
   exact aeff_step h
 · rename_i j want hg
   split at h
   · rename_i x hx
     rw [awant_slot hg hx]
     unfold gifp at h
     split at h
     · rename_i b
       split at h
       · rename_i hb;simp only [hb];exact aeff_step h
       · rename_i hb;have:(b == want)=false:=by simpa using hb
         simp only [this];exact h
     · split at h
       · rename_i hz;simp only [hz];exact h
       · cases h
     · cases h
   · cases h
end Go.Vi
