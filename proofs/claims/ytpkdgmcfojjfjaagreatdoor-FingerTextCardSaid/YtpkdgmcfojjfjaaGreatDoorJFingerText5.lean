/- Right nodes are written: Print. The reader of conditions, whatever it reads: tokens. The reader of conditions, whatever it reads: windows, values, matchers. The reader of conditions, whatever it reads: matchers. The reader of conditions, whatever it reads: comparisons. Conditions, whatever is read. Read and Parse, whatever they read. The sum of bytes (crc). Statements of chapter 10: the examples. Rules, and a rule's fingerprint. Rules as they are handed over. What the listed variables ask of a world: one that meets it. Package variables, as the world lays them, in the abstract memory. The fingerprints of rules; whether none comes twice. Whether rules are more than is gone through. Statements of chapter 14: the examples. FingerSame: the walk. FingerText: the walk (a first draft). FingerText: the walk . -/
import Derived.Test.YtpkdgmcfojjfjaaGreatDoorJFingerText4
import Derived.Test.YtpkdgmcfojjfjaaGreatDoorJFingerText3
import Derived.Test.YtpkdgmcfojjfjaaGreatDoorJFingerText2
import Derived.Test.YtpkdgmcfojjfjaaGreatDoorTie
import Derived.Test.YtpkdgmcfojjfjaaGreatDoorCards
import Derived.SevenTiedAt
import Derived.LaidSub
import Derived.Lay
import Derived.MakeChecks
import Derived.ChangeMaps5
namespace Go.Vi
open Go Go.Proofs Go.Proofs.Tryz
theorem ok_len {m:Mat} (h:m.ok=true):m.tame∧(matS m).length≤84:=by
 unfold Mat.ok mayName mayM mayValue at h
 simp only [Bool.and_eq_true,Bool.or_eq_true,decide_eq_true_eq] at h
 obtain ⟨⟨_,⟨⟨_,h1⟩,_⟩,_⟩,h2⟩:=h
 have h3:m.value.length≤32:=by
  rcases h2 with h2 | h2
  · rw [h2];simp
  · exact h2.1.2
 have h4:=sgnS_len m.op
 have h5:=quoteS_len m.value
 refine ⟨⟨by omega,by omega⟩,?_⟩
 simp only [matS,List.length_append]
 omega
theorem sel_small {ms:List Mat} (h:mayMats ms=true):(∀ m∈ms,m.tame)∧ms.length≤6∧(selS ms).length≤512:=by
 unfold mayMats at h
 simp only [Bool.and_eq_true,List.all_eq_true,decide_eq_true_eq] at h
 obtain ⟨h1,h2⟩:=h
 refine ⟨fun m hm=>(ok_len (h1 m hm)).1,h2,?_⟩
 have h3:(joinS [44] (ms.map matS)).length≤510:=by
  cases h:ms.map matS with
  | nil=>simp [joinS]
  | cons a r =>
    rw [join_len]
    have hall:∀ x∈a :: r,x.length≤84:=by
     rw [← h]
     intro x hx
     obtain ⟨m,hm1,rfl⟩:=List.mem_map.1 hx
     exact (ok_len (h1 m hm1)).2
    have h4:=sumL_le _ hall
    have h5:(a :: r).length≤6:=by rw [← h];simpa using h2
    simp at h5 h4 ⊢
    omega
 simp [selS]
 omega
theorem fixS_len (x:Int):(fixS x).length≤42:=by
 have hb:-4611686018427387903≤sat x∧sat x≤4611686018427387903:=by unfold sat maxFix;omega
 unfold fixS
 rw [fmtS_nat,fmtS_nat]
 have l1:=natS_len (n:=(sat x).natAbs / 1000) (by omega)
 have l2:=natS_len (n:=1000+(sat x).natAbs % 1000) (by omega)
 have l3:=trimR_len 48 ((natS (1000+(sat x).natAbs % 1000)).drop 1)
 simp only [List.length_drop] at l3
 have l4:(if sat x < 0 then [45] else ([]:List UInt8)).length≤1:=by split<;>simp
 have l5:(if (sat x).natAbs % 1000=0 then [] else 46 :: trimR 48 ((natS (1000+(sat x).natAbs % 1000)).drop 1)).length≤21:=by
  split
  · simp
  · simp only [List.length_cons];omega
 rw [List.length_append,List.length_append]
 omega
theorem getD_len {l:List (List UInt8)} {i c:Nat} (h:∀ x∈l,x.length≤c):(l.getD i []).length≤c:=by
 simp only [List.getD]
 cases hi:l[i]? with
 | none=>simp
 | some s=>exact h s (List.mem_of_getElem? hi)
theorem plain_leaf {n:Nod} (h:n.plain=true):n.agg.toNat < 6∧n.cmp.toNat < 6∧-9223372036854775808≤n.window∧n.window < 9223372036854775808∧(∀ m∈n.sel,m.tame)∧n.sel.length≤2 ^ 20∧(leafS n).length≤2 ^ 10:=by
 unfold Nod.plain at h
 simp only [Bool.and_eq_true,decide_eq_true_eq] at h
 obtain ⟨⟨⟨⟨⟨⟨⟨h1,h2⟩,h3⟩,h4⟩,h5⟩,_⟩,_⟩,_⟩:=h
 obtain ⟨s1,s2,s3⟩:=sel_small h2
 refine ⟨by omega,by omega,by omega,by omega,s1,by omega,?_⟩
 have a1:(aggs.getD n.agg.toNat []).length≤5:=getD_len (by decide)
 have a2:(cmps.getD n.cmp.toNat []).length≤2:=getD_len (by decide)
 have a3:=fixS_len n.value
 have a4:(fmtS n.window).length≤20:=by
  obtain ⟨w,hw⟩:∃ w:Nat,n.window=w:=⟨n.window.toNat,by omega⟩
  rw [hw,fmtS_nat]
  exact natS_len (by omega)
 simp only [leafS,List.length_append,List.length_cons,List.length_nil]
 omega
theorem beg_WF (ns:List Nod):∀ (f:Nat) (e:Int),0≤beg ns f e→∃ a:Nat,e=a∧WF ns f a:=by
 intro f
 induction f with
 | zero=>intro e h;simp [beg] at h
 | succ f ih =>
   intro e h
   rw [beg] at h
   by_cases he:e < 0
   · rw [if_pos he] at h;omega
   rw [if_neg he] at h
   obtain ⟨a,rfl⟩:∃ a:Nat,e=a:=⟨e.toNat,by omega⟩
   refine ⟨a,rfl,?_⟩
   rw [Int.toNat_natCast] at h
   cases hn:ns[a]? with
   | none=>rw [hn] at h;simp at h
   | some n =>
     rw [hn] at h
     simp only at h
     have kk:∀ m:UInt8,n.kind=m→(n.kind.toNat:Int)=m.toNat:=fun m hm=>by rw [hm]
     refine ⟨n,hn,fun k=>?_,fun k=>?_,fun k=>?_⟩
     · have e0:((n.kind.toNat:Int) == 0)=true:=by rw [kk 0 k];rfl
       rw [if_pos e0] at h
       split at h
       · rename_i hp;exact plain_leaf hp
       · omega
     · have e0:¬ ((n.kind.toNat:Int) == 0)=true:=by rw [kk 3 k];decide
       have e3:((n.kind.toNat:Int) == 3)=true:=by rw [kk 3 k];rfl
       rw [if_neg e0,if_pos e3] at h
       split at h
       · rename_i hc
         simp only [Bool.and_eq_true,beq_iff_eq] at hc
         obtain ⟨b,hb1,hb2⟩:=ih _ h
         exact ⟨b,by omega,hb2⟩
       · omega
     · have e0:¬ ((n.kind.toNat:Int) == 0)=true:=by rcases k with k | k<;>rw [kk _ k]<;>decide
       have e3:¬ ((n.kind.toNat:Int) == 3)=true:=by rcases k with k | k<;>rw [kk _ k]<;>decide
       have e4:(isAnd n || isOr n)=true:=by
        unfold isAnd isOr
        rcases k with k | k<;>rw [kk _ k]<;>rfl
       rw [if_neg e0,if_neg e3,if_pos e4] at h
       split at h
       · rename_i hc
         simp only [Bool.and_eq_true,beq_iff_eq,decide_eq_true_eq] at hc
         obtain ⟨⟨⟨_,c1⟩,c2⟩,c3⟩:=hc
         obtain ⟨b,hb1,hb2⟩:=ih _ (show 0≤beg ns f ((a:Int)-1) by omega)
         obtain ⟨d,hd1,hd2⟩:=ih _ h
         exact ⟨⟨d,by omega,hd2⟩,b,by omega,hb2⟩
       · omega
def printS (ns:List Nod):List UInt8:=if right ns=true then txtF ns ns.length (ns.length-1) 0 else []
theorem right_WF {ns:List Nod} (h:right ns=true):1≤ns.length∧ns.length≤31∧WF ns ns.length (ns.length-1):=by
 unfold right at h
 simp only [Bool.and_eq_true,decide_eq_true_eq,beq_iff_eq] at h
 obtain ⟨⟨h1,h2⟩,h3⟩:=h
 obtain ⟨a,ha,hw⟩:=beg_WF ns _ _ (show 0≤beg ns ns.length ((ns.length:Int)-1) by omega)
 have:a=ns.length-1:=by omega
 subst this
 exact ⟨by omega,by omega,hw⟩
theorem src_flat2 {z:Nat} {cs:List Value}:∀ (l:List (List Value)) (o:Nat),(∀ (i:Nat) e,l[i]?=some e→(cs.drop (o+i*z)).take z=e)→(cs.drop o).take (l.length*z)=l.flatten:=by
 intro l
 induction l with
 | nil=>intro o _;simp
 | cons c r ih =>
   intro o h
   have h0:=h 0 c rfl
   have hr:=ih (o+z) fun i e hi=>by
    have:=h (i+1) e (by simpa using hi)
    rw [← this,Nat.add_mul,Nat.one_mul];congr 2;omega
   rw [List.length_cons,Nat.add_mul,Nat.one_mul,Nat.add_comm,List.take_add,List.drop_drop,hr,List.flatten_cons]
   simpa using congrArg (·++r.flatten) h0
theorem Arr.srcOf {H z v l} (h:Arr H z v l):aSrc H z v=some (l.length,l.flatten):=by
 cases h with
 | nil=>rfl
 | mk b o m n c cs l hn hcs hm hle hel =>
   subst hn
   simp only [aSrc,hcs]
   rw [if_pos ⟨hm.symm,by omega⟩,src_flat2 l o hel]
theorem aBin_slnil {H:AHeap} {T e:TypeId} {x:Operand} {c:Value} {a:Addr} {n m:Nat} (h:prog.underlying T=some (.slice e)):aBin2 prog H .eql T x (.const c) (.slice (some a) n m) (.slice none 0 0)=some (.bool false):=by
 apply aBin2_of
 simp [aBin,clos,isLit,notNil,h]
theorem nbl2:isSeq prog 27=true:=by kernel_rfl
theorem c_cloneNodes {H:AHeap} {v:Value} {ns:List Nod} (hn:NodesAt H v ns) (h1:1≤ns.length) (h2:ns.length≤2 ^ 20):∃ v' K',ACalls prog 42 [v] H v' K'∧Pre H K'∧NodesAt K' v' ns:=by
 obtain ⟨v',K',⟨q1,q2⟩,q3⟩:∃ v' K',(Pre H K'∧NodesAt K' v' ns)∧ACalls prog 42 [v] H v' K':=by
  refine acalls_ex MixT func42 (by decide) ?_
  rw [d42]
  obtain ⟨cl,ha,hcl,hc⟩:=hn
  have hsrc:=Arr.srcOf (ha.pre (.app H [.cells [] 37]))
  have hv:∃ a n c,v=.slice (some a) n c:=by
   cases ha with
   | nil=>simp at hcl;omega
   | mk b o m n c cs l=>exact ⟨_,_,_,rfl⟩
  obtain ⟨a,n,c,rfl⟩:=hv
  rw [aBin_slnil (e:=37) (by simp)]
  simp
  have hlit:sliceLit prog H 27 0 [] (.slice (some ⟨H.length,0,some 0⟩) 0 0) (H++[.cells [] 37]):=by
   refine ⟨rfl,(tbs27 H 0 []).trans ?_⟩
   simp [bslV,Instr.fill,repCells]
  refine bndL_lit hlit ?_
  have hel:∀ x∈cl,x.length=8:=by
   intro x hx
   obtain ⟨i,hi⟩:=List.getElem?_of_mem hx
   exact ha.elen hi
  have hne:cl≠[]:=by rintro rfl;simp at hcl;omega
  have happ:aBuiltin prog (H++[.cells [] 37]) .append #[27,27] [.slice (some ⟨H.length,0,some 0⟩) 0 0,.slice (some a) n c]=some (.slice (some ⟨H.length,0,some (cl.length*8)⟩) cl.length cl.length,H++[.cells cl.flatten 37]):=by
   have hl1:1≤cl.length:=by omega
   have e1:cl.length*72≤140737488355328:=by omega
   have e2:cl.length≤9223372036854775807:=by omega
   have e3:¬ cl.length=0:=by omega
   simp [aBuiltin,aAppend,nbl2,hsrc,hne,e1,e2]
  dsimp only
  rw [happ]
  simp
  refine ⟨.app _ _,cl,(Gro.mk (K:=H++[.cells cl.flatten 37]) (lo:=0) (z:=8) (T:=37) H.length cl (by omega) (by simp) hne hel).arr,hcl,fun i n hi=>?_⟩
  obtain ⟨sv,r1,r2,r3⟩:=hc i n hi
  exact ⟨sv,r1,r2.pre (.app _ _),r3⟩
 exact ⟨v',K',q3,q1,q2⟩
theorem c_exprPrint {H:AHeap} {v:Value} {ns:List Nod} (hg:Pw H) (hn:NodesAt H v ns):ACalls prog 21 [v] H (str (printS ns)) H:=by
 refine acalls_pure MixT func21 (by decide) rfl ?_
 rw [d21]
 refine bndC_of (c_right hn) ?_
 cases hr:right ns with
 | false =>
   have:printS ns=[]:=by unfold printS;rw [hr];rfl
   rw [this]
   simp
 | true =>
   have hp:printS ns=txtF ns ns.length (ns.length-1) 0:=by unfold printS;rw [if_pos hr]
   obtain ⟨h1,h2,h3⟩:=right_WF hr
   obtain ⟨v',K',g1,g2,g3⟩:=c_cloneNodes hn h1 (by omega)
   simp
   refine bndC_of g1 ?_
   have hl:=g3.len K'
   have hw:IntKind.i64.wrap ((ns.length:Int)-1)=((ns.length-1:Nat):Int):=by rw [wrap_i64 (by omega) (by omega)];omega
   simp [hl,hw]
   refine bndC_of (c_exprText (hg.trans g2) g3 ns.length (ns.length-1) 0 (by omega) h3 K' (.refl _)) ?_
   rw [hp]
   exact ⟨rfl,g2⟩
end Go.Vi
namespace Go.Vi
open Go Go.Proofs Go.Proofs.Tryz
theorem Gro.frm {K K' lo z T v cl} (h:Gro K lo z T v cl) (hf:∀ (b:Nat) o,lo≤b→K[b]?=some o→K'[b]?=some o):Gro K' lo z T v cl:=by
 cases h with
 | nil=>exact .nil
 | mk bb cl h1 h2 h3 h4=>exact .mk bb cl h1 (hf _ _ h1 h2) h3 h4
theorem Gro.weak {K lo lo' z T v cl} (h:Gro K lo z T v cl) (hl:lo'≤lo):Gro K lo' z T v cl:=by
 cases h with
 | nil=>exact .nil
 | mk bb cl h1 h2 h3 h4=>exact .mk bb cl (by omega) h2 h3 h4
abbrev rP (rb:Nat):Value:=.pointer (some ⟨rb,0,some 3⟩)
def RdS (H K:AHeap) (rb:Nat) (lv:Value) (ts:List Tok):Option Nat→Prop
 | some a=>RdA H K rb lv ts a true
 | none=>∃ a,RdA H K rb lv ts a false
theorem RdS.any {H K rb lv ts st} (h:RdS H K rb lv ts st):∃ a ok,RdA H K rb lv ts a ok:=by
 cases st with
 | some a=>exact ⟨a,true,h⟩
 | none=>obtain ⟨a,h⟩:=h;exact ⟨a,false,h⟩
theorem RdS.lt {H K rb lv ts st} (h:RdS H K rb lv ts st):rb < K.length:=by obtain ⟨a,ok,h⟩:=h.any;exact h.lt
theorem RdS.app {H K rb lv ts st} (h:RdS H K rb lv ts st) (X:AHeap):RdS H (K++X) rb lv ts st:=by
 cases st with
 | some a=>exact RdA.app h X
 | none=>obtain ⟨a,h⟩:=h;exact ⟨a,h.app X⟩
theorem RdS.le {H K rb lv ts a} (h:RdS H K rb lv ts (some a)):a≤ts.length:=RdA.le h
theorem RdS.len {H K rb lv ts st} (h:RdS H K rb lv ts st):ts.length < 2 ^ 40:=by obtain ⟨a,ok,h⟩:=h.any;exact h.len
theorem RdS.pre {H K rb lv ts st} (h:RdS H K rb lv ts st):Pre H K:=by obtain ⟨a,ok,h⟩:=h.any;exact h.pre
theorem RdS.frame {H K K' rb lv ts st} (h:RdS H K rb lv ts st) (hp:Pre H K') (hc:∀ o,K[rb]?=some o→K'[rb]?=some o):RdS H K' rb lv ts st:=by
 cases st with
 | some a=>have h:RdA H K rb lv ts a true:=h;exact ⟨h.toks,hp,h.hb,hc _ h.cell,h.len,h.le⟩
 | none=>obtain ⟨a,h⟩:=h;exact ⟨a,h.toks,hp,h.hb,hc _ h.cell,h.len,h.le⟩
structure Adv (H K K':AHeap) (rb:Nat) (lv:Value) (ts:List Tok) (st:Option Nat):Prop where
 rd:RdS H K' rb lv ts st
 fr:∀ (b:Nat) o,b≠rb→K[b]?=some o→K'[b]?=some o
 len:K.length≤K'.length
theorem Adv.trans {H K K' K2 rb lv ts st st'} (h:Adv H K K' rb lv ts st) (k:Adv H K' K2 rb lv ts st'):Adv H K K2 rb lv ts st':=⟨k.rd,fun b o hb ho=>k.fr b o hb (h.fr b o hb ho),Nat.le_trans h.len k.len⟩
theorem Adv.refl {H K rb lv ts st} (h:RdS H K rb lv ts st):Adv H K K rb lv ts st:=⟨h,fun _ _ _ h=>h,Nat.le_refl _⟩
theorem Adv.app {H K K' rb lv ts st} (h:Adv H K K' rb lv ts st) (X:AHeap):Adv H K (K'++X) rb lv ts st:=⟨h.rd.app X,fun b o hb ho=>get_more (h.fr b o hb ho),by have:=h.len;simp;omega⟩
theorem Adv.set {H K rb lv ts a ok st} (_h:RdA H K rb lv ts a ok) (a':Nat) (ok':Bool) (_ha:a'≤ts.length) (hs:RdS H (K.set rb (rdo lv a' ok')) rb lv ts st):Adv H K (K.set rb (rdo lv a' ok')) rb lv ts st :=
 ⟨hs,fun b o hb ho=>by rw [List.getElem?_set_ne (fun e=>hb e.symm)];exact ho,by simp⟩
theorem Adv.setT {H K rb lv ts a ok} (h:RdA H K rb lv ts a ok) (a':Nat) (ha:a'≤ts.length):Adv H K (K.set rb (rdo lv a' true)) rb lv ts (some a'):=.set h a' true ha (h.put a' true ha)
theorem Adv.setF {H K rb lv ts a ok} (h:RdA H K rb lv ts a ok) (a':Nat) (ha:a'≤ts.length):Adv H K (K.set rb (rdo lv a' false)) rb lv ts none:=.set h a' false ha ⟨a',h.put a' false ha⟩
def takO (ts:List Tok) (k:Int) (s:List UInt8) (a:Nat):Nat:=if isT ts a k s=true then a+1 else a
theorem g_takes {H K rb lv ts st} (h:RdS H K rb lv ts st) (k:Int) (s:List UInt8) :
  ∃ K',ACalls prog 68 [rP rb,.int .u8 k,str s] K (.bool (st.any fun a=>isT ts a k s)) K'∧Adv H K K' rb lv ts (st.map (takO ts k s)):=by
 cases st with
 | none=>obtain ⟨a,h⟩:=h;exact ⟨K,c_takes_n h rfl,.refl ⟨a,h⟩⟩
 | some a =>
   have h:RdA H K rb lv ts a true:=h
   simp only [Option.any_some,Option.map_some,takO]
   cases ht:isT ts a k s with
   | true=>exact ⟨_,c_takes_y h ht,.setT h _ (by have:=isT_lt ht;omega)⟩
   | false=>exact ⟨K,c_takes_n h (by simp [ht]),.refl h⟩
def signO (ts:List Tok) (s:List UInt8) (a:Nat):Option Nat:=if isT ts a 4 s=true then some (a+1) else none
theorem c_sign_n {H K rb lv ts a ok} (h:RdA H K rb lv ts a ok) {s:List UInt8} (ht:(ok && isT ts a 4 s)=false) :
  ACalls prog 69 [rP rb,str s] K (.tuple #[]) (K.set rb (rdo lv a false)):=by
 refine acalls_of MixT func69 (by decide) ?_
 rw [d69]
 refine bndC_of (c_takes_n h ht) ?_
 have hc:=h.cell
 have hll:hlen K rb=some 3:=by simp [hlen,hc,rdo]
 simp [hll,hc,rdo]
theorem g_sign {H K rb lv ts st} (h:RdS H K rb lv ts st) (s:List UInt8) :
  ∃ K',ACalls prog 69 [rP rb,str s] K (.tuple #[]) K'∧Adv H K K' rb lv ts (st.bind (signO ts s)):=by
 cases st with
 | none=>obtain ⟨a,h⟩:=h;exact ⟨_,c_sign_n h rfl,.setF h a h.le⟩
 | some a =>
   have h:RdA H K rb lv ts a true:=h
   simp only [Option.bind_some,signO]
   cases ht:isT ts a 4 s with
   | true=>exact ⟨_,c_sign_y h ht,.setT h _ (by have:=isT_lt ht;omega)⟩
   | false=>exact ⟨_,c_sign_n h (by simp [ht]),.setF h a h.le⟩
def tokK (ts:List Tok) (k:Int) (a:Nat):Option (List UInt8):=(ts[a]?).bind fun t=>if t.kind=k then some t.text else none
theorem c_take_n {H K rb lv ts a ok} (h:RdA H K rb lv ts a ok) {k:Int} (ht:ok=true→tokK ts k a=none) :
  ACalls prog 127 [rP rb,.int .u8 k] K (str []) (K.set rb (rdo lv a false)):=by
 refine acalls_of MixT func127 (by decide) ?_
 rw [d127]
 have hc:=h.cell
 have hcc:hcells K rb=some [lv,i64 a,.bool ok]:=by simp [hcells_eq,hc,rdo]
 have hll:hlen K rb=some 3:=by simp [hlen,hc,rdo]
 have hl:=(h.toks.pre h.pre).len (P:=prog) (T:=23) (e:=70) (by simp)
 simp at hl
 simp only [rdo] at hc
 cases ok with
 | false=>simp [hcc,hll,hc,rdo]
 | true =>
   have ht:=ht rfl
   by_cases ha:ts.length≤a
   · simp [hcc,hll,hl,ha,hc,rdo]
   · obtain ⟨t,htt⟩:∃ t,ts[a]?=some t:=⟨_,List.getElem?_eq_getElem (by omega)⟩
     obtain ⟨p,q,r,e1,e2,e3,e4,e5⟩:=toksAt_at (h.toks.pre h.pre) htt
     have hk:¬ t.kind=k:=by
      intro e
      simp [tokK,htt,e] at ht
     have hk':(t.kind != k)=true:=by simpa using hk
     simp [hcc,hll,hl,ha,e1,e2,e3,hc,hk',rdo]
def takeO (ts:List Tok) (k:Int) (a:Nat):Option Nat:=(tokK ts k a).map fun _=>a+1
theorem g_take {H K rb lv ts st} (h:RdS H K rb lv ts st) (k:Int) :
  ∃ K',ACalls prog 127 [rP rb,.int .u8 k] K (str ((st.bind (tokK ts k)).getD [])) K'∧Adv H K K' rb lv ts (st.bind (takeO ts k)):=by
 cases st with
 | none=>obtain ⟨a,h⟩:=h;exact ⟨_,c_take_n h (by simp),.setF h a h.le⟩
 | some a =>
   have h:RdA H K rb lv ts a true:=h
   simp only [Option.bind_some,takeO]
   cases ht:tokK ts k a with
   | none=>exact ⟨_,c_take_n h fun _=>ht,.setF h a h.le⟩
   | some s =>
     unfold tokK at ht
     cases htt:ts[a]? with
     | none=>simp [htt] at ht
     | some t =>
       simp only [htt,Option.bind_some] at ht
       split at ht
       · rename_i hk
         cases ht
         have:=c_take_y h htt
         rw [hk] at this
         exact ⟨_,this,.setT h _ (by have:=(List.getElem?_eq_some_iff.1 htt).1;omega)⟩
       · cases ht
def idxS (l:List (List UInt8)) (s:List UInt8):Nat:=if s∈l then l.idxOf s else 0
def oneO (ts:List Tok) (k:Int) (l:List (List UInt8)) (a:Nat):Option Nat:=(tokK ts k a).bind fun s=>if s∈l then some (a+1) else none
theorem nmap_any {l:List (List UInt8)} {s:List UInt8} (hn:l.Nodup):mget (str s) (nmapK 0 l)=if s∈l then some (i64 (l.idxOf s)) else none:=by
 by_cases hs:s∈l
 · rw [if_pos hs]
   have hlt:=List.idxOf_lt_length_of_mem hs
   exact nmap_get hn (by rw [List.getElem?_eq_getElem hlt,List.getElem_idxOf hlt])
 · rw [if_neg hs]
   rcases (nmapK_smap l 0).get (k:=s) with ⟨h,_⟩ | ⟨_,h⟩
   · exact absurd h hs
   · exact h
theorem g_one {H K rb lv ts st} (h:RdS H K rb lv ts st) (k:Int) {l:List (List UInt8)} {v:Value} (ha:Arr K 1 v (strCells l)) (hl:l.length≤200) (hn:l.Nodup) (_h0:[] ∉ l) :
  ∃ K',ACalls prog 105 [rP rb,.int .u8 k,v] K (.int .u8 (idxS l ((st.bind (tokK ts k)).getD []))) K'∧Adv H K K' rb lv ts (st.bind (oneO ts k l)):=by
 have key:∃ u K',(u=.int .u8 (idxS l ((st.bind (tokK ts k)).getD []))∧Adv H K K' rb lv ts (st.bind (oneO ts k l)))∧ACalls prog 105 [rP rb,.int .u8 k,v] K u K':=by
  refine acalls_ex MixT func105 (by decide) ?_
  rw [d105]
  refine bndC_of (c_named (by omega) hn ha) ?_
  obtain ⟨K1,g1,g2⟩:=g_take (h.app [AObj.map (nmapK 0 l)]) k
  refine bndC_of g1 ?_
  have hrb:=h.lt
  have hm:K1[K.length]?=some (.map (nmapK 0 l)):=g2.fr _ _ (by omega) (by simp)
  have hok:=(nmapK_smap l 0).ok
  generalize hs:(st.bind (tokK ts k)).getD []=s
  have hlk:aLookup prog K1 163 (.map (some K.length)) (str s) true=some (mres (some (i64 (idxS l s))) undef true)∧s∈l∨aLookup prog K1 163 (.map (some K.length)) (str s) true=some (mres none (i64 0) true)∧s ∉ l:=by
   by_cases hs:s∈l
   · left
     refine ⟨?_,hs⟩
     rw [aLookup_map,hm]
     simp only [tm163,Option.bind_some,mapOf_map,keyOk,if_true,hok,nmap_any hn,if_pos hs,idxS]
   · right
     refine ⟨?_,hs⟩
     rw [aLookup_map,hm]
     simp only [tm163,tz163,Option.bind_some,mapOf_map,keyOk,if_true,hok,nmap_any hn,if_neg hs]
     rfl
  have hfr:∀ (a':Nat) (ok':Bool) (b:Nat) (o:AObj),b≠rb→K[b]?=some o→(K1.set rb (rdo lv a' ok'))[b]?=some o:=fun a' ok' b o hb ho=>by
   rw [List.getElem?_set_ne (fun e=>hb e.symm)];exact g2.fr b o hb (get_more ho)
  have hlen:K.length≤K1.length:=by have:=g2.len;simp at this;omega
  obtain ⟨a1,ok1,hr1⟩:=g2.rd.any
  have hc:=hr1.cell
  have hcc:hcells K1 rb=some [lv,i64 a1,.bool ok1]:=by rw [hcells_eq,hc];rfl
  have hll:Vi.hlen K1 rb=some 3:=by unfold Vi.hlen;rw [hc];rfl
  have hidx:idxS l s < 256:=by
   unfold idxS
   split
   · rename_i hs;have:=List.idxOf_lt_length_of_mem hs;omega
   · omega
  have hw:IntKind.u8.wrap (idxS l s:Int)=idxS l s:=wrap_u8 (by omega) (by omega)
  have fin:∀ is:Bool,(is=true↔s∈l)→Adv H K (K1.set rb (rdo lv a1 (ok1 && is))) rb lv ts (st.bind (oneO ts k l)):=by
   intro is his
   refine ⟨?_,hfr _ _,by simpa using hlen⟩
   cases st with
   | none =>
     obtain ⟨a2,hr2⟩:=g2.rd
     have e:=hr1.cell.symm.trans hr2.cell
     simp only [rdo,Option.some.injEq,AObj.cells.injEq,List.cons.injEq,Value.bool.injEq] at e
     obtain ⟨⟨_,_,rfl,_⟩,_⟩:=e
     exact ⟨a1,hr1.put a1 false hr1.le⟩
   | some a =>
     simp only [Option.bind_some,takeO,oneO] at hs g2 ⊢
     cases hk:tokK ts k a with
     | none =>
       simp only [hk,Option.map_none] at g2
       obtain ⟨a2,hr2⟩:=g2.rd
       have e:=hr1.cell.symm.trans hr2.cell
       simp only [rdo,Option.some.injEq,AObj.cells.injEq,List.cons.injEq,Value.bool.injEq] at e
       obtain ⟨⟨_,_,rfl,_⟩,_⟩:=e
       exact ⟨a1,hr1.put a1 false hr1.le⟩
     | some s' =>
       simp only [hk,Option.map_some,Option.getD_some] at g2 hs
       subst hs
       have hr2:RdA H K1 rb lv ts (a+1) true:=g2.rd
       have e:=hr1.cell.symm.trans hr2.cell
       simp only [rdo,Option.some.injEq,AObj.cells.injEq,List.cons.injEq,Value.bool.injEq,Value.int.injEq] at e
       obtain ⟨⟨_,⟨_,e2⟩,rfl,_⟩,_⟩:=e
       obtain rfl:a1=a+1:=by omega
       simp only [Option.bind_some]
       by_cases hsl:s'∈l
       · rw [if_pos hsl,his.2 hsl];exact hr2.put (a+1) true hr2.le
       · rw [if_neg hsl,show is=false by simpa [hsl] using his];exact ⟨a+1,hr2.put (a+1) false hr2.le⟩
  dsimp only
  rcases hlk with ⟨hlk,hsl⟩ | ⟨hlk,hsl⟩
  · rw [hlk]
    have:=fin true (by simp [hsl])
    simp only [rdo] at hc this
    simp [mres,hcc,hll,hc,hw]
    simpa using this
  · rw [hlk]
    have:=fin false (by simp [hsl])
    simp only [rdo] at hc this
    simp [mres,hcc,hll,hc]
    exact ⟨by rw [show idxS l s=0 from if_neg hsl];decide,by simpa using this⟩
 obtain ⟨u,K',⟨rfl,h⟩,hy⟩:=key
 exact ⟨K',hy,h⟩
theorem RdS.cells {H K rb lv ts st} (h:RdS H K rb lv ts st):∃ a,K[rb]?=some (.cells [lv,i64 (a:Nat),.bool st.isSome] 81)∧a≤ts.length∧(∀ a',st=some a'→a=a')∧∀ ok',Adv H K (K.set rb (.cells [lv,i64 a,.bool ok'] 81)) rb lv ts (if ok'=true then some a else none):=by
 cases st with
 | some a =>
   have h:RdA H K rb lv ts a true:=h
   refine ⟨a,h.cell,h.le,fun a' e=>by cases e;rfl,fun ok'=>?_⟩
   cases ok' with
   | true=>exact .setT h a h.le
   | false=>exact .setF h a h.le
 | none =>
   obtain ⟨a,h⟩:=h
   refine ⟨a,h.cell,h.le,fun a' e=>(by cases e),fun ok'=>?_⟩
   cases ok' with
   | true=>exact .setT h a h.le
   | false=>exact .setF h a h.le
end Go.Vi
namespace Go.Vi
open Go Go.Proofs Go.Proofs.Tryz
def NumTok (ts:List Tok):Prop:=∀ (a:Nat) t,ts[a]?=some t→t.text.length < 2 ^ 20∧(t.kind=2→(∀ b∈t.text,isDig b=true∨b=46)∧∀ b r,t.text=b :: r→isDig b=true)
def winO (ts:List Tok) (a:Nat):Option (Int × Nat):=(tokK ts 2 a).bind fun s=>(atoF s).bind fun n=>if 1≤n∧n≤1000 then some (n,a+1) else none
theorem tokK_ok {ts:List Tok} {k:Int} {a:Nat} {s:List UInt8} (h:tokK ts k a=some s):∃ t,ts[a]?=some t∧t.kind=k∧t.text=s:=by
 unfold tokK at h
 cases ht:ts[a]? with
 | none=>simp [ht] at h
 | some t =>
   simp only [ht,Option.bind_some] at h
   split at h
   · cases h;exact ⟨t,rfl,‹_›,rfl⟩
   · cases h
theorem aBin_ifnil {P:Program} {H:AHeap} {T t:TypeId} {x y:Operand} {p:Addr} {ms} (h:P.underlying T=some (.interface ms)):aBin2 P H .eql T x y (.iface t (.pointer (some p))) .nilIface=some (.bool false):=by
 apply aBin2_of
 simp [aBin,clos,isLit,notNil,h]
theorem g_window {H K rb lv ts st} (hg:Pre Gs H) (hn:NumTok ts) (h:RdS H K rb lv ts st) :
  ∃ n K',ACalls prog 107 [rP rb] K (i64 n) K'∧Adv H K K' rb lv ts ((st.bind (winO ts)).map (·.2))∧∀ p,st.bind (winO ts)=some p→p.1=n:=by
 have key:∃ u K',(∃ n,u=i64 n∧Adv H K K' rb lv ts ((st.bind (winO ts)).map (·.2))∧∀ p,st.bind (winO ts)=some p→p.1=n)∧ACalls prog 107 [rP rb] K u K':=by
  refine acalls_ex MixT func107 (by decide) ?_
  rw [d107]
  obtain ⟨K1,g1,g2⟩:=g_take h 2
  refine bndC_of g1 ?_
  have hu:=tu118
  have hsx:((st.bind (tokK ts 2)).getD []).length < 2 ^ 20∧(∀ b∈(st.bind (tokK ts 2)).getD [],isDig b=true∨b=46)∧∀ b r,(st.bind (tokK ts 2)).getD []=b :: r→isDig b=true:=by
   cases hq:st.bind (tokK ts 2) with
   | none=>simp
   | some s =>
     obtain ⟨a,_,ha⟩:=Option.bind_eq_some_iff.1 hq
     obtain ⟨t,t1,t2,rfl⟩:=tokK_ok ha
     have:=hn a t t1
     exact ⟨this.1,(this.2 t2).1,(this.2 t2).2⟩
  obtain ⟨x,e,K2,hx,hp,hcall⟩:=c_atoiG (hg.trans g2.rd.pre) (by have:=hsx.1;omega) hsx.2.2 hsx.2.1
  refine bndC_of hcall ?_
  have hadv:Adv H K K2 rb lv ts (st.bind (takeO ts 2)):=by obtain ⟨X,rfl⟩:=hp;exact g2.app X
  obtain ⟨a1,c1,c2,c3,c4⟩:=RdS.cells hadv.rd
  have hcc:hcells K2 rb=some [lv,i64 a1,.bool (st.bind (takeO ts 2)).isSome]:=by rw [hcells_eq,c1];rfl
  have hll:Vi.hlen K2 rb=some 3:=by unfold Vi.hlen;rw [c1];rfl
  have hfin:∀ (is:Bool),((st.bind (takeO ts 2)).isSome && is)=(st.bind (winO ts)).isSome→Adv H K (K2.set rb (.cells [lv,i64 a1,.bool ((st.bind (takeO ts 2)).isSome && is)] 81)) rb lv ts ((st.bind (winO ts)).map (·.2)):=by
   intro is his
   have:=hadv.trans (c4 ((st.bind (takeO ts 2)).isSome && is))
   rw [his] at this ⊢
   cases hw:st.bind (winO ts) with
   | none=>simpa [hw] using this
   | some p =>
     simp only [hw,Option.isSome_some,if_true,Option.map_some] at this ⊢
     obtain ⟨a,rfl,ha⟩:=Option.bind_eq_some_iff.1 hw
     have:a1=p.2:=by
      unfold winO at ha
      obtain ⟨s,h1,h2⟩:=Option.bind_eq_some_iff.1 ha
      obtain ⟨n,h3,h4⟩:=Option.bind_eq_some_iff.1 h2
      split at h4
      · cases h4
        exact c3 _ (by simp [takeO,h1])
      · cases h4
     rwa [← this]
  have hwin:∀ p,st.bind (winO ts)=some p→(st.bind (takeO ts 2)).isSome=true∧atoF ((st.bind (tokK ts 2)).getD [])=some p.1∧1≤p.1∧p.1≤1000:=by
   intro p hp
   obtain ⟨a,rfl,ha⟩:=Option.bind_eq_some_iff.1 hp
   unfold winO at ha
   obtain ⟨s,h1,h2⟩:=Option.bind_eq_some_iff.1 ha
   obtain ⟨n,h3,h4⟩:=Option.bind_eq_some_iff.1 h2
   split at h4
   · rename_i hc;cases h4;exact ⟨by simp [takeO,h1],by simp [h1,h3],hc.1,hc.2⟩
   · cases h4
  have hback:∀ n,(st.bind (takeO ts 2)).isSome=true→atoF ((st.bind (tokK ts 2)).getD [])=some n→1≤n→n≤1000→(st.bind (winO ts)).isSome=true:=by
   intro n h1 h2 h3 h4
   obtain ⟨b,hb⟩:=Option.isSome_iff_exists.1 h1
   obtain ⟨a,rfl,ha⟩:=Option.bind_eq_some_iff.1 hb
   unfold takeO at ha
   obtain ⟨s,hs,_⟩:=Option.map_eq_some_iff.1 ha
   simp only [Option.bind_some,hs,Option.getD_some] at h2
   simp [winO,hs,h2,h3,h4]
  have hpn:∀ n,(∀ p,st.bind (winO ts)=some p→p.1=n)↔(∀ p,st.bind (winO ts)=some p→p.1=n):=fun _=>Iff.rfl
  generalize hb0:(st.bind (takeO ts 2)).isSome=b0 at hcc c1 hfin hwin hback
  cases b0 with
  | false =>
    have hno:(st.bind (winO ts)).isSome=false:=by
     cases hq:st.bind (winO ts) with
     | none=>rfl
     | some p=>exact absurd (hwin p hq).1 (by simp)
    have hf:=hfin false (by simp [hno])
    have hq:∀ p,st.bind (winO ts)=some p→p.1=x:=fun p hp=>absurd (hwin p hp).1 (by simp)
    simp [hcc,hll,c1]
    exact ⟨by simpa using hf,by simpa using hq⟩
  | true =>
    rcases hx with ⟨n,h1,rfl,rfl⟩ | ⟨h1,t,p,rfl⟩
    · have hf:=hfin (decide (1≤x) && decide (x≤1000)) (by
       cases hq:st.bind (winO ts) with
       | none =>
         cases hd:(decide (1≤x) && decide (x≤1000)) with
         | false=>rfl
         | true =>
           simp only [Bool.and_eq_true,decide_eq_true_eq] at hd
           have:=hback x rfl h1 hd.1 hd.2
           rw [hq] at this;cases this
       | some p =>
         have:=hwin p hq
         rw [h1] at this
         obtain ⟨_,e,h3,h4⟩:=this
         cases e
         simp [h3,h4])
      have hq:∀ p,st.bind (winO ts)=some p→p.1=x:=fun p hp=>by
       have:=(hwin p hp).2.1
       rw [h1] at this;cases this;rfl
      simp +contextual [hcc,hll,c1,aBin_nilif hu]
      exact ⟨by simpa using hf,by simpa using hq⟩
    · have hno:(st.bind (winO ts)).isSome=false:=by
       cases hq:st.bind (winO ts) with
       | none=>rfl
       | some p=>have:=(hwin p hq).2.1;rw [h1] at this;cases this
      have hf:=hfin false (by simp [hno])
      have hq:∀ p,st.bind (winO ts)=some p→p.1=x:=fun p hp=>by
       rw [hp] at hno;cases hno
      simp [hcc,hll,c1,aBin_ifnil hu]
      exact ⟨by simpa using hf,by simpa using hq⟩
 obtain ⟨u,K',⟨n,rfl,h⟩,hy⟩:=key
 exact ⟨n,K',hy,h⟩
theorem Adv.fin {H K K2 rb lv ts stT} (h:Adv H K K2 rb lv ts stT):∃ a1:Nat,K2[rb]?=some (.cells [lv,i64 a1,.bool stT.isSome] 81)∧hcells K2 rb=some [lv,i64 a1,.bool stT.isSome]∧hlen K2 rb=some 3 ∧
  ∀ (stW:Option Nat) (is:Bool),(stT.isSome && is)=stW.isSome→(∀ a',stW=some a'→stT=some a')→Adv H K (K2.set rb (.cells [lv,i64 a1,.bool (stT.isSome && is)] 81)) rb lv ts stW:=by
 obtain ⟨a1,c1,c2,c3,c4⟩:=RdS.cells h.rd
 refine ⟨a1,c1,by rw [hcells_eq,c1];rfl,by unfold Vi.hlen;rw [c1];rfl,fun stW is his hw=>?_⟩
 have:=h.trans (c4 (stT.isSome && is))
 rw [his] at this ⊢
 cases stW with
 | none=>simpa using this
 | some a' =>
   have e:=c3 a' (hw a' rfl)
   subst e
   simpa using this
def valP (ts:List Tok) (a:Nat):List UInt8:=if isT ts a 4 [45]=true then [45] else []
def valO (ts:List Tok) (a:Nat):Option (Int × Nat):=(tokK ts 2 (takO ts 4 [45] a)).bind fun s=>if (parF (valP ts a++s)).2=0 then some ((parF (valP ts a++s)).1,takO ts 4 [45] a+1) else none
theorem g_value {H K rb lv ts st} (hn:NumTok ts) (h:RdS H K rb lv ts st) :
  ∃ n K',ACalls prog 108 [rP rb] K (i64 n) K'∧Adv H K K' rb lv ts ((st.bind (valO ts)).map (·.2))∧∀ p,st.bind (valO ts)=some p→p.1=n:=by
 have key:∃ u K',(∃ n,u=i64 n∧Adv H K K' rb lv ts ((st.bind (valO ts)).map (·.2))∧∀ p,st.bind (valO ts)=some p→p.1=n)∧ACalls prog 108 [rP rb] K u K':=by
  refine acalls_ex MixT func108 (by decide) ?_
  rw [d108]
  obtain ⟨K1,g1,g2⟩:=g_takes h 4 [45]
  refine bndC_of g1 ?_
  have tail:∀ (pre:List UInt8),pre.length≤1→(∀ a,st=some a→pre=valP ts a)→∀ (C D E F G I J L c d e f g i j k l m o q r v w z A B:Value),
    S108x0 (fun u K'=>∃ n,u=i64 n∧Adv H K K' rb lv ts ((st.bind (valO ts)).map (·.2))∧∀ p,st.bind (valO ts)=some p→p.1=n) [rP rb,C,D,str pre,E,F,G,I,J,L,c,d,e,f,g,i,j,k,l,m,o,q,r,v,w,z,A,B] K1:=by
   intro pre hp1 hpre C D E F G I J L c d e f g i j k l m o q r v w z A B
   rw [S108x0q]
   obtain ⟨K2,q1,q2⟩:=g_take g2.rd 2
   refine bndC_of q1 ?_
   have hlen:(((st.map (takO ts 4 [45])).bind (tokK ts 2)).getD []).length < 2 ^ 20:=by
    cases hq:(st.map (takO ts 4 [45])).bind (tokK ts 2) with
    | none=>simp
    | some s =>
      obtain ⟨a,_,ha⟩:=Option.bind_eq_some_iff.1 hq
      obtain ⟨t,t1,t2,rfl⟩:=tokK_ok ha
      exact (hn a t t1).1
   have e1:=fun H X Y=>aBin_str (P:=prog) (H:=H) (T:=9) (x:=X) (y:=Y) (a:=pre) (b:=((st.map (takO ts 4 [45])).bind (tokK ts 2)).getD []) (by omega)
   simp only [e1,bnd_some]
   refine bndC_of (c_fixParse (by simp;omega)) ?_
   obtain ⟨a1,c1,hcc,hll,hfin⟩:=(g2.trans q2).fin
   generalize hs:((st.map (takO ts 4 [45])).bind (tokK ts 2)).getD []=s at *
   have hval:∀ p,st.bind (valO ts)=some p→p.1=(parF (pre++s)).1∧(parF (pre++s)).2=0∧(st.map (takO ts 4 [45])).bind (takeO ts 2)=some p.2:=by
    intro p hp
    obtain ⟨a,rfl,ha⟩:=Option.bind_eq_some_iff.1 hp
    unfold valO at ha
    obtain ⟨s',h1,h2⟩:=Option.bind_eq_some_iff.1 ha
    rw [hpre a rfl]
    simp only [Option.map_some,Option.bind_some,h1,Option.getD_some] at hs
    subst hs
    split at h2
    · rename_i h0;cases h2;exact ⟨rfl,h0,by simp [takeO,h1]⟩
    · cases h2
   have hback:((st.map (takO ts 4 [45])).bind (takeO ts 2)).isSome=true→(parF (pre++s)).2=0→(st.bind (valO ts)).isSome=true:=by
    intro h1 h2
    obtain ⟨b,hb⟩:=Option.isSome_iff_exists.1 h1
    obtain ⟨a',ha',hb'⟩:=Option.bind_eq_some_iff.1 hb
    obtain ⟨a,rfl,rfl⟩:=Option.map_eq_some_iff.1 ha'
    unfold takeO at hb'
    obtain ⟨s',hs',_⟩:=Option.map_eq_some_iff.1 hb'
    simp only [Option.map_some,Option.bind_some,hs',Option.getD_some] at hs
    subst hs
    rw [hpre a rfl] at h2
    simp [valO,hs',h2]
   have hq:∀ p,st.bind (valO ts)=some p→p.1=(parF (pre++s)).1:=fun p hp=>(hval p hp).1
   have hf:=hfin ((st.bind (valO ts)).map (·.2)) ((parF (pre++s)).2 == 0) (by
    cases hv:st.bind (valO ts) with
    | some p=>obtain ⟨_,e2,e3⟩:=hval p hv;simp [e2,e3]
    | none =>
      cases h1:((st.map (takO ts 4 [45])).bind (takeO ts 2)).isSome with
      | false=>rfl
      | true =>
        by_cases h2:(parF (pre++s)).2=0
        · have:=hback h1 h2;rw [hv] at this;cases this
        · simp [h2]) (by
    intro a' ha'
    obtain ⟨p,hp,rfl⟩:=Option.map_eq_some_iff.1 ha'
    exact (hval p hp).2.2)
   generalize ((st.map (takO ts 4 [45])).bind (takeO ts 2)).isSome=b0 at *
   cases b0 with
   | false =>
     simp [hcc,hll,c1]
     exact ⟨by simpa using hf,by simpa using hq⟩
   | true =>
     simp [hcc,hll,c1]
     exact ⟨by simpa using hf,by simpa using hq⟩
  refine kifB_bool (fun hb=>?_) (fun hb=>?_)
  · refine tail [45] (by simp) (fun a ha=>?_) _ _ _ _ _ _ _ _ _ _ _ _ _ _ _ _ _ _ _ _ _ _ _ _ _ _
    rw [ha] at hb
    simp at hb
    simp [valP,hb]
  · refine tail [] (by simp) (fun a ha=>?_) _ _ _ _ _ _ _ _ _ _ _ _ _ _ _ _ _ _ _ _ _ _ _ _ _ _
    rw [ha] at hb
    simp at hb
    simp [valP,hb]
 obtain ⟨u,K',⟨n,rfl,h⟩,hy⟩:=key
 exact ⟨n,K',hy,h⟩
end Go.Vi
namespace Go.Vi
open Go Go.Proofs Go.Proofs.Tryz
def opsL:List (List UInt8):=[[61],[33,61],[94,61]]
theorem c_ops (H:AHeap):ACalls prog 128 [] H (.slice (some ⟨H.length,0,some 3⟩) 3 3) (H++[.cells (opsL.map str) 9]):=by
 refine acalls_of MixT func128 (by decide) ?_
 rw [d128]
 exact bndL_of (by decide) (by kernel_rfl) ⟨rfl,rfl⟩
theorem mael1:aElem prog 35=some (75,3,40):=by kernel_rfl
theorem mael2:isSeq prog 35=true:=by kernel_rfl
theorem mat_lit {K:AHeap} (m:Mat):sliceLit prog K 35 1 [(0,.agg m.cells.toArray)] (.slice (some ⟨K.length,0,some 3⟩) 1 1) (K++[.cells m.cells 75]) :=
 sliceLitA (c:=m.cells) (tbs35 K 1 _) (by rfl) (by simp [Mat.cells]) (by simp)
def matO (ts:List Tok) (a:Nat):Option (Mat × Nat):=(tokK ts 1 a).bind fun n=>(tokK ts 4 (a+1)).bind fun o=>if o∈opsL then (tokK ts 3 (a+2)).bind fun v=>some (⟨n,idxS opsL o,v⟩,a+3) else none
def selL (ts:List Tok):Nat→Nat→List Mat→Option (List Mat × Nat)
 | 0,_,_=>none
 | f+1,a,acc=>(matO ts a).bind fun p=>if isT ts p.2 4 [44]=true then selL ts f (p.2+1) (acc++[p.1]) else some (acc++[p.1],p.2)
def selE (ts:List Tok) (ms:List Mat) (a:Nat):Option Nat:=(signO ts [125] a).bind fun c=>if mayMats ms=true then some c else none
def selO (ts:List Tok) (a:Nat):Option (List Mat × Nat):=(signO ts [123] a).bind fun a1 =>
 if isT ts a1 4 [125]=true then some ([],a1+1) else (selL ts (ts.length+1) a1 []).bind fun p=>(selE ts p.1 p.2).map fun c=>(p.1,c)
theorem sel_end {H K0 K rb lv ts st lo} {mv:Value} {ms:List Mat} {more:Bool} {k:Value→AHeap→Prop} (h:Adv H K0 K rb lv ts st) (hg:Gro K lo 3 75 mv (ms.map Mat.cells)) (hrb:rb < lo) (hml:ms.length < 2 ^ 62) (hm:(more && st.isSome)=false)
  (hk:∀ K',Adv H K0 K' rb lv ts (st.bind (selE ts ms))→Gro K' lo 3 75 mv (ms.map Mat.cells)→k mv K') (n:Nat) (U V W X Y Z s9 d g i j l m p r s t u w x y z A B C D E F G I J L M N O P Q R S T:Value) :
  L106x0 (n+1) k [rP rb,U,V,mv,.bool more,W,X,Y,Z,s9,d,g,i,j,l,m,p,r,s,t,u,w,x,y,z,A,B,C,D,E,F,G,I,J,L,M,N,O,P,Q,R,S,T] K:=by
 rw [L106x0q]
 obtain ⟨a0,c0,hcc0,hll0,_⟩:=h.fin
 obtain ⟨K1,g1,g2⟩:=g_sign h.rd [125]
 have h2:=h.trans g2
 have hg1:Gro K1 lo 3 75 mv (ms.map Mat.cells):=hg.frm fun b o hb ho=>g2.fr b o (by omega) ho
 obtain ⟨a1,c1,hcc,hll,hfin⟩:=h2.fin
 have rest:bndC prog 69 [rP rb,str [125]] K (q:=⟨fun _ _=>True⟩):=bndC_of g1 trivial
 have hmm:MatsAt K1 mv ms:=hg1.arr
 have hf:=hfin (st.bind (selE ts ms)) (mayMats ms) (by
  cases st with
  | none=>rfl
  | some a =>
    simp only [Option.bind_some,selE]
    cases signO ts [125] a with
    | none=>rfl
    | some c=>cases mayMats ms<;>simp) (by
  intro a' ha'
  cases st with
  | none=>cases ha'
  | some a =>
    simp only [Option.bind_some,selE] at ha' ⊢
    cases hs:signO ts [125] a with
    | none=>simp [hs] at ha'
    | some c =>
      simp only [hs,Option.bind_some] at ha'
      split at ha'
      · exact ha'
      · cases ha')
 have hfg:∀ ok',Gro (K1.set rb (.cells [lv,i64 a1,.bool ok'] 81)) lo 3 75 mv (ms.map Mat.cells):=fun ok'=>hg1.set (by omega)
 clear rest
 generalize (st.bind (signO ts [125])).isSome=b0 at *
 have go:∀ (q:QH),(∀ v,q.f v K1)→@bndC prog 69 [rP rb,str [125]] K q:=fun q hq=>bndC_of g1 (hq _)
 have tail:∀ (kk:Value→AHeap→Prop),kk=k→(kk mv (K1.set rb (.cells [lv,i64 a1,.bool (b0 && mayMats ms)] 81))):=fun kk e=>by rw [e];exact hk _ hf (hfg _)
 cases more with
 | false =>
   simp
   refine bndC_of g1 ?_
   cases b0 with
   | false=>simp [hcc,hll,c1];simpa using tail k rfl
   | true =>
     simp [hcc,hll]
     refine bndG_call (.bool (mayMats ms)) (fun _=>c_matchMay hmm (by omega)) ?_
     simp [hll,c1]
     simpa using tail k rfl
 | true =>
   have hst:st.isSome=false:=by simpa using hm
   rw [hst] at hcc0 c0
   simp [hcc0,hll0]
   refine bndC_of g1 ?_
   cases b0 with
   | false=>simp [hcc,hll,c1];simpa using tail k rfl
   | true =>
     simp [hcc,hll]
     refine bndG_call (.bool (mayMats ms)) (fun _=>c_matchMay hmm (by omega)) ?_
     simp [hll,c1]
     simpa using tail k rfl
theorem sel_loop {H K0 rb lv ts lo} {k:Value→AHeap→Prop} (hrb:rb < lo) (hK0:K0.length≤lo) (hH:H.length≤lo):∀ (f:Nat) (a:Nat) (acc:List Mat) (K:AHeap) (mv:Value),Adv H K0 K rb lv ts (some a)→lo≤K.length→Gro K lo 3 75 mv (acc.map Mat.cells)→ts.length < f+a→acc.length+f≤2 ^ 41 →
  (∀ sv ms K',Adv H K0 K' rb lv ts ((selL ts f a acc).bind fun p=>selE ts p.1 p.2)→Gro K' lo 3 75 sv (ms.map Mat.cells)→(∀ p,selL ts f a acc=some p→p.1=ms)→ms.length≤2 ^ 41→k sv K') →
  ∃ n,∀ (W Y Z s6 s7 s8 s9 d e g i j l q r s t u w y z A B C D E F G I J L M N O Q R S T U V:Value),L106x0 n k [rP rb,W,Y,mv,.bool true,Z,s6,s7,s8,s9,d,e,g,i,j,l,q,r,s,t,u,w,y,z,A,B,C,D,E,F,G,I,J,L,M,N,O,Q,R,S,T,U,V] K:=by
 intro f
 induction f with
 | zero=>intro a acc K mv h _ _ hf _ _;have:=h.rd.le;omega
 | succ f ih =>
   intro a acc K mv h hlo hg hf hacc hk
   obtain ⟨a0,c0,hcc0,hll0,_⟩:=h.fin
   obtain ⟨K1,g1,g2⟩:=g_take h.rd 1
   have hops:=c_ops K1
   have v2:=g2.app [.cells (opsL.map str) 9]
   have harr:Arr (K1++[.cells (opsL.map str) 9]) 1 (.slice (some ⟨K1.length,0,some 3⟩) 3 3) (strCells opsL):=arr_strs opsL 9 3 rfl
   obtain ⟨K3,p1,p2⟩:=g_one v2.rd 4 harr (by decide) (by decide) (by decide)
   obtain ⟨K4,q1,q2⟩:=g_take p2.rd 3
   have adv4:=((v2.trans p2).trans q2)
   have hst:(((some a).bind (takeO ts 1)).bind (oneO ts 4 opsL)).bind (takeO ts 3)=(matO ts a).map (·.2)∧(∀ p,matO ts a=some p→p.1=⟨((some a).bind (tokK ts 1)).getD [],idxS opsL ((((some a).bind (takeO ts 1)).bind (tokK ts 4)).getD []),((((some a).bind (takeO ts 1)).bind (oneO ts 4 opsL)).bind (tokK ts 3)).getD []⟩):=by
    unfold matO takeO oneO
    simp only [Option.bind_some]
    cases tokK ts 1 a with
    | none=>simp
    | some n =>
      simp only [Option.map_some,Option.bind_some]
      cases tokK ts 4 (a+1) with
      | none=>simp
      | some o =>
        simp only [Option.bind_some]
        by_cases ho:o∈opsL
        · simp only [if_pos ho,Option.bind_some]
          cases tokK ts 3 (a+1+1) with
          | none=>simp
          | some v=>simp
        · simp [if_neg ho]
   generalize ((some a).bind (tokK ts 1)).getD []=t1 at *
   generalize (((some a).bind (takeO ts 1)).bind (tokK ts 4)).getD []=t2 at *
   generalize ((((some a).bind (takeO ts 1)).bind (oneO ts 4 opsL)).bind (tokK ts 3)).getD []=t3 at *
   rw [hst.1] at q2 adv4
   have hm:=hst.2
   obtain ⟨v',K5,r1,r2,r3,r4,r5⟩:=Gro.push (P:=prog) (Ts:=35) (by_:=40) (x:=.slice (some ⟨K4.length,0,some 3⟩) 1 1) (c:=Mat.cells ⟨t1,idxS opsL t2,t3⟩)
    ((hg.frm fun b o hb ho=>adv4.fr b o (by omega) ho).app (X:=[.cells (Mat.cells ⟨t1,idxS opsL t2,t3⟩) 75])) mael1 mael2 rfl (by have:=adv4.len;simp;omega) (by simp [aSrc,Mat.cells]) (by simp;omega) (by simp;omega)
   have a0':=(h.trans adv4).app [.cells (Mat.cells ⟨t1,idxS opsL t2,t3⟩) 75]
   have adv5:Adv H K0 K5 rb lv ts ((matO ts a).map (·.2)) :=
    ⟨a0'.rd.frame (r5 H a0'.rd.pre hH) fun o ho=>r3 rb o hrb ho,fun b o hb ho=>r3 b o (by have:=(List.getElem?_eq_some_iff.1 ho).1;omega) (a0'.fr b o hb ho),by have:=a0'.len;omega⟩
   obtain ⟨K6,u1,u2⟩:=g_takes adv5.rd 4 [44]
   have adv6:=adv5.trans u2
   have r6:=r2.frm (K':=K6) fun b o hb ho=>u2.fr b o (by omega) ho
   have hlo6:lo≤K6.length:=by have:=u2.len;have:=adv4.len;simp at r4;omega
   rw [show acc.map Mat.cells++[Mat.cells ⟨t1,idxS opsL t2,t3⟩]=(acc++[(⟨t1,idxS opsL t2,t3⟩:Mat)]).map Mat.cells by simp] at r2 r6
   have next:∃ n,∀ (W Y Z s6 s7 s8 s9 d e g i j l q r s t u w y z A B C D E F G I J L M N O Q R S T U V:Value),L106x0 n k [rP rb,W,Y,v',.bool (((matO ts a).map (·.2)).any fun a=>isT ts a 4 [44]),Z,s6,s7,s8,s9,d,e,g,i,j,l,q,r,s,t,u,w,y,z,A,B,C,D,E,F,G,I,J,L,M,N,O,Q,R,S,T,U,V] K6:=by
    cases hmo:matO ts a with
    | none =>
      simp only [hmo,Option.map_none,Option.any_none] at adv6 ⊢
      refine ⟨1,fun W Y Z s6 s7 s8 s9 d e g i j l q r s t u w y z A B C D E F G I J L M N O Q R S T U V=>sel_end adv6 r6 hrb (by simp;omega) rfl (fun K' e1 e2=>?_) 0 _ _ _ _ _ _ _ _ _ _ _ _ _ _ _ _ _ _ _ _ _ _ _ _ _ _ _ _ _ _ _ _ _ _ _ _ _ _ _ _⟩
      refine hk _ _ K' ?_ e2 ?_ (by simp;omega)
      · simpa [selL,hmo] using e1
      · intro p hp;simp [selL,hmo] at hp
    | some mc =>
      obtain ⟨m,c⟩:=mc
      obtain rfl:=hm _ hmo
      simp only [hmo,Option.map_some,Option.any_some,takO] at adv6 ⊢
      cases hcm:isT ts c 4 [44] with
      | true =>
        simp only [hcm,if_true] at adv6
        have hca:a+3=c:=by
         unfold matO at hmo
         obtain ⟨_,_,h2⟩:=Option.bind_eq_some_iff.1 hmo
         obtain ⟨_,_,h3⟩:=Option.bind_eq_some_iff.1 h2
         split at h3
         · obtain ⟨_,_,h4⟩:=Option.bind_eq_some_iff.1 h3;exact congrArg Prod.snd (Option.some.inj h4)
         · cases h3
        refine ih (c+1) _ K6 v' adv6 hlo6 r6 (by omega) (by simp;omega) fun sv ms K' e1 e2 e3 e4=>hk sv ms K' ?_ e2 ?_ e4
        · simpa [selL,hmo,hcm] using e1
        · intro p hp;exact e3 p (by simpa [selL,hmo,hcm] using hp)
      | false =>
        simp only [hcm,Bool.false_eq_true,if_false] at adv6
        refine ⟨1,fun W Y Z s6 s7 s8 s9 d e g i j l q r s t u w y z A B C D E F G I J L M N O Q R S T U V=>sel_end adv6 r6 hrb (by simp;omega) rfl (fun K' e1 e2=>?_) 0 _ _ _ _ _ _ _ _ _ _ _ _ _ _ _ _ _ _ _ _ _ _ _ _ _ _ _ _ _ _ _ _ _ _ _ _ _ _ _ _⟩
        refine hk _ _ K' ?_ e2 ?_ (by simp;omega)
        · simpa [selL,hmo,hcm] using e1
        · intro p hp
          simp [selL,hmo,hcm] at hp
          rw [← hp]
   obtain ⟨n,hn⟩:=next
   refine ⟨n+1,fun W Y Z s6 s7 s8 s9 d e g i j l q r s t u w y z A B C D E F G I J L M N O Q R S T U V=>?_⟩
   rw [L106x0q]
   simp [hcc0,hll0]
   refine bndC_of g1 ?_
   refine bndC_of hops ?_
   refine bndC_of p1 ?_
   refine bndC_of q1 ?_
   have hlit:=mat_lit (K:=K4) ⟨t1,idxS opsL t2,t3⟩
   simp only [Mat.cells] at hlit r1
   simp
   refine bndL_lit hlit ?_
   dsimp only
   rw [r1]
   simp only [bndE_some]
   refine bndC_of u1 ?_
   exact hn _ _ _ _ _ _ _ _ _ _ _ _ _ _ _ _ _ _ _ _ _ _ _ _ _ _ _ _ _ _ _ _ _ _ _ _ _ _ _ _
theorem g_selects {H K rb lv ts st} (h:RdS H K rb lv ts st) :
  ∃ sv ms K',ACalls prog 106 [rP rb] K sv K'∧Adv H K K' rb lv ts ((st.bind (selO ts)).map (·.2))∧Gro K' K.length 3 75 sv (ms.map Mat.cells)∧(∀ p,st.bind (selO ts)=some p→p.1=ms)∧ms.length≤2 ^ 41:=by
 have key:∃ sv K',(∃ ms,Adv H K K' rb lv ts ((st.bind (selO ts)).map (·.2))∧Gro K' K.length 3 75 sv (ms.map Mat.cells)∧(∀ p,st.bind (selO ts)=some p→p.1=ms)∧ms.length≤2 ^ 41)∧ACalls prog 106 [rP rb] K sv K':=by
  refine acalls_ex MixT func106 (by decide) ?_
  rw [d106]
  obtain ⟨K1,g1,g2⟩:=g_sign h [123]
  refine bndC_of g1 ?_
  obtain ⟨K2,p1,p2⟩:=g_takes g2.rd 4 [125]
  refine bndC_of p1 ?_
  have adv:=g2.trans p2
  have hrb:=h.lt
  have hlen:=h.len
  have hH:H.length≤K.length:=by obtain ⟨X,hX⟩:=h.pre;rw [hX];simp
  refine kifB_bool (fun hb=>?_) (fun hb=>?_)
  · cases st with
    | none=>cases hb
    | some a =>
      simp only [Option.bind_some] at hb adv ⊢
      cases hs:signO ts [123] a with
      | none=>simp [hs] at hb
      | some a1 =>
        simp only [hs,Option.any_some,Option.map_some,takO] at hb adv
        rw [hb,if_pos rfl] at adv
        exact ⟨[],by simpa [selO,hs,hb] using adv,.nil,by simp [selO,hs,hb],by simp⟩
  · cases hs:st.bind (signO ts [123]) with
    | none =>
      rw [hs] at adv
      have hno:st.bind (selO ts)=none:=by
       cases st with
       | none=>rfl
       | some a=>simp only [Option.bind_some] at hs ⊢;simp [selO,hs]
      refine ⟨1,sel_end (ms:=[]) (lo:=K.length) adv .nil hrb (by simp) (by simp) (fun K' e1 e2=>?_) 0 _ _ _ _ _ _ _ _ _ _ _ _ _ _ _ _ _ _ _ _ _ _ _ _ _ _ _ _ _ _ _ _ _ _ _ _ _ _ _ _⟩
      exact ⟨[],by simpa [hno] using e1,e2,by simp [hno],by simp⟩
    | some a1 =>
      rw [hs] at adv hb
      simp only [Option.any_some] at hb
      simp only [Option.map_some,takO,hb,Bool.false_eq_true,if_false] at adv
      obtain ⟨a,rfl,ha⟩:=Option.bind_eq_some_iff.1 hs
      have hso:selO ts a=(selL ts (ts.length+1) a1 []).bind fun p=>(selE ts p.1 p.2).map fun c=>(p.1,c):=by
       simp [selO,ha,hb]
      obtain ⟨n,hn⟩:=sel_loop (lo:=K.length) (k:=fun sv K'=>∃ ms,Adv H K K' rb lv ts (((some a).bind (selO ts)).map (·.2))∧Gro K' K.length 3 75 sv (ms.map Mat.cells)∧(∀ p,(some a).bind (selO ts)=some p→p.1=ms)∧ms.length≤2 ^ 41) hrb (Nat.le_refl _) hH (ts.length+1) a1 [] K2 (.slice none 0 0) adv adv.len .nil (by omega) (by simp;omega) (by
       intro sv ms K' e1 e2 e3 e4
       refine ⟨ms,?_,e2,?_,e4⟩
       · simp only [Option.bind_some,hso]
         cases hl:selL ts (ts.length+1) a1 [] with
         | none=>simpa [hl] using e1
         | some p =>
           simp only [hl,Option.bind_some] at e1 ⊢
           cases he:selE ts p.1 p.2 with
           | none=>simpa [he] using e1
           | some c=>simpa [he] using e1
       · intro p hp
         simp only [Option.bind_some,hso] at hp
         obtain ⟨q,h1,h2⟩:=Option.bind_eq_some_iff.1 hp
         obtain ⟨c,_,rfl⟩:=Option.map_eq_some_iff.1 h2
         exact e3 q h1)
      exact ⟨n,hn _ _ _ _ _ _ _ _ _ _ _ _ _ _ _ _ _ _ _ _ _ _ _ _ _ _ _ _ _ _ _ _ _ _ _ _ _ _ _ _⟩
 obtain ⟨sv,K',⟨ms,h⟩,hy⟩:=key
 exact ⟨sv,ms,K',hy,h⟩
end Go.Vi
namespace Go.Vi
open Go Go.Proofs Go.Proofs.Tryz
structure CmpG (H K L:AHeap) (rb:Nat) (lv:Value) (ts:List Tok) (st:Option Nat) (b0 b1:Nat) (n:List Value):Prop where
 rd:RdS H L rb lv ts st
 f0:L[b0]?=some (.cells nodZ 37)
 f1:L[b1]?=some (.cells n 37)
 fr:∀ (b:Nat) o,b≠rb→K[b]?=some o→L[b]?=some o
 len:K.length≤L.length
 hH:H.length≤K.length
 k0:rb < K.length
 k1:K.length≤b0
 k2:K.length≤b1
 k3:b0≠b1
theorem CmpG.adv {H K L L' rb lv ts st st' b0 b1 n} (h:CmpG H K L rb lv ts st b0 b1 n) (a:Adv H L L' rb lv ts st'):CmpG H K L' rb lv ts st' b0 b1 n :=
 ⟨a.rd,a.fr _ _ (by have:=h.k0;have:=h.k1;omega) h.f0,a.fr _ _ (by have:=h.k0;have:=h.k2;omega) h.f1,fun b o hb ho=>a.fr b o hb (h.fr b o hb ho),Nat.le_trans h.len a.len,h.hH,h.k0,h.k1,h.k2,h.k3⟩
theorem CmpG.app {H K L rb lv ts st b0 b1 n} (h:CmpG H K L rb lv ts st b0 b1 n) (X:AHeap):CmpG H K (L++X) rb lv ts st b0 b1 n:=h.adv ((Adv.refl h.rd).app X)
theorem CmpG.sto {H K L rb lv ts st b0 b1 n} (h:CmpG H K L rb lv ts st b0 b1 n) (n':List Value):CmpG H K (L.set b1 (.cells n' 37)) rb lv ts st b0 b1 n':=by
 have h0:=h.hH;have h1:=h.k0;have h2:=h.k1;have h3:=h.k2
 have hb1:=(List.getElem?_eq_some_iff.1 h.f1).1
 refine ⟨h.rd.frame (h.rd.pre.set (by omega)) fun o ho=>by rw [List.getElem?_set_ne (by omega)];exact ho,by rw [List.getElem?_set_ne (Ne.symm h.k3)];exact h.f0,by rw [List.getElem?_set_self hb1],fun b o hb ho=>?_,by simpa using h.len,h.hH,h.k0,h.k1,h.k2,h.k3⟩
 have hbk:=(List.getElem?_eq_some_iff.1 ho).1
 rw [List.getElem?_set_ne (by omega)]
 exact h.fr b o hb ho
theorem CmpG.fin {H K L rb lv ts st b0 b1 n} (h:CmpG H K L rb lv ts st b0 b1 n) (n':List Value):Adv H K (L.set b0 (.cells n' 37)) rb lv ts st:=by
 have h0:=h.hH;have h1:=h.k0;have h2:=h.k1;have h3:=h.k2
 refine ⟨h.rd.frame (h.rd.pre.set (by omega)) fun o ho=>by rw [List.getElem?_set_ne (by omega)];exact ho,fun b o hb ho=>?_,by simpa using h.len⟩
 have hbk:=(List.getElem?_eq_some_iff.1 ho).1
 rw [List.getElem?_set_ne (by omega)]
 exact h.fr b o hb ho
theorem CmpG.hl {H K L rb lv ts st b0 b1 n} (h:CmpG H K L rb lv ts st b0 b1 n):hlen L b1=some n.length:=by unfold hlen;rw [h.f1];rfl
theorem CmpG.hc {H K L rb lv ts st b0 b1 n} (h:CmpG H K L rb lv ts st b0 b1 n):hcells L b1=some n:=by rw [hcells_eq,h.f1];rfl
def txtK (ts:List Tok) (k:Int) (a:Nat):List UInt8:=(tokK ts k a).getD []
def cmpO (ts:List Tok) (a:Nat):Option (Nod × Nat):=(oneO ts 1 aggs a).bind fun b1=>(signO ts [40] b1).bind fun b2=>(selO ts b2).bind fun p=>(signO ts [91] p.2).bind fun b3=>(winO ts b3).bind fun w =>
 (signO ts [93] w.2).bind fun b4=>(signO ts [41] b4).bind fun b5=>(oneO ts 4 cmps b5).bind fun b6=>(valO ts b6).bind fun v =>
  some (⟨0,UInt8.ofNat (idxS aggs (txtK ts 1 a)),p.1,w.1,UInt8.ofNat (idxS cmps (txtK ts 4 b5)),v.1,0,0⟩,v.2)
theorem cmp_chain {ts:List Tok} {st b f c g d e:Option Nat} {ms:List Mat} {w x:Int} (e2:b=(st.bind (oneO ts 1 aggs)).bind (signO ts [40])) (e3:f=(b.bind (selO ts)).map (·.2)) (e4:c=f.bind (signO ts [91])) (e5:g=(c.bind (winO ts)).map (·.2))
  (e7:d=(g.bind (signO ts [93])).bind (signO ts [41])) (e8:e=d.bind (oneO ts 4 cmps)) (hm:∀ p,b.bind (selO ts)=some p→p.1=ms) (hw:∀ p,c.bind (winO ts)=some p→p.1=w) (hx:∀ p,e.bind (valO ts)=some p→p.1=x) :
  (e.bind (valO ts)).map (·.2)=(st.bind (cmpO ts)).map (·.2)∧∀ p,st.bind (cmpO ts)=some p→p.1=⟨0,UInt8.ofNat (idxS aggs ((st.bind (tokK ts 1)).getD [])),ms,w,UInt8.ofNat (idxS cmps ((d.bind (tokK ts 4)).getD [])),x,0,0⟩:=by
 cases st with
 | none=>subst e2 e3 e4 e5 e7 e8;simp
 | some a =>
   simp only [Option.bind_some] at e2 ⊢
   unfold cmpO
   cases h1:oneO ts 1 aggs a with
   | none=>simp only [h1] at e2;subst e2 e3 e4 e5 e7 e8;simp
   | some b1 =>
     simp only [h1,Option.bind_some] at e2 ⊢
     cases h2:signO ts [40] b1 with
     | none=>rw [h2] at e2;subst e2 e3 e4 e5 e7 e8;simp
     | some b2 =>
       rw [h2] at e2
       subst e2
       simp only [Option.bind_some] at e3 hm ⊢
       cases h3:selO ts b2 with
       | none=>rw [h3] at e3;subst e3 e4 e5 e7 e8;simp
       | some p =>
         rw [h3] at e3
         have hm:=hm _ h3
         subst e3
         simp only [Option.map_some,Option.bind_some] at e4 ⊢
         cases h4:signO ts [91] p.2 with
         | none=>rw [h4] at e4;subst e4 e5 e7 e8;simp
         | some b3 =>
           rw [h4] at e4
           subst e4
           simp only [Option.bind_some] at e5 hw ⊢
           cases h5:winO ts b3 with
           | none=>rw [h5] at e5;subst e5 e7 e8;simp
           | some ww =>
             rw [h5] at e5
             have hw:=hw _ h5
             subst e5
             simp only [Option.map_some,Option.bind_some] at e7 ⊢
             cases h6:signO ts [93] ww.2 with
             | none=>rw [h6] at e7;subst e7 e8;simp
             | some b4 =>
               simp only [h6,Option.bind_some] at e7 ⊢
               cases h7:signO ts [41] b4 with
               | none=>rw [h7] at e7;subst e7 e8;simp
               | some b5 =>
                 rw [h7] at e7
                 subst e7
                 simp only [Option.bind_some] at e8 ⊢
                 cases h8:oneO ts 4 cmps b5 with
                 | none=>rw [h8] at e8;subst e8;simp
                 | some b6 =>
                   rw [h8] at e8
                   subst e8
                   simp only [Option.bind_some] at hx ⊢
                   cases h9:valO ts b6 with
                   | none=>simp
                   | some v =>
                     have hx:=hx _ h9
                     simp [txtK,hm,hw,hx]
theorem u8_of {n:Nat} (h:n < 256):((UInt8.ofNat n).toNat:Int)=n:=by simp only [UInt8.toNat_ofNat'];omega
theorem g_comparison {H K rb lv ts st} (hg:Pre Gs H) (hn:NumTok ts) (h:RdS H K rb lv ts st) :
  ∃ n sv K',ACalls prog 70 [rP rb] K (.agg ((n:Nod).cells sv).toArray) K'∧Adv H K K' rb lv ts ((st.bind (cmpO ts)).map (·.2))∧Gro K' K.length 3 75 sv (n.sel.map Mat.cells)∧(∀ p,st.bind (cmpO ts)=some p→p.1=n)∧n.sel.length≤2 ^ 41:=by
 have key:∃ v K',(∃ (n:Nod) (sv:Value),v=.agg (n.cells sv).toArray∧Adv H K K' rb lv ts ((st.bind (cmpO ts)).map (·.2))∧Gro K' K.length 3 75 sv (n.sel.map Mat.cells)∧(∀ p,st.bind (cmpO ts)=some p→p.1=n)∧n.sel.length≤2 ^ 41)∧ACalls prog 70 [rP rb] K v K':=by
  refine acalls_ex MixT func70 (by decide) ?_
  rw [d70]
  simp
  refine bndC_of (c_aggregates _) ?_
  have hrb:=h.lt
  have hH:H.length≤K.length:=by obtain ⟨X,hX⟩:=h.pre;rw [hX];simp
  have v0:=(Adv.refl h).app [AObj.cells nodZ 37]
  have v1:=v0.app [AObj.cells (aggs.map str) 9]
  obtain ⟨K1,a1,a2⟩:=g_one v1.rd 1 (arr_strs aggs 9 6 rfl) (by decide) (by decide) (by decide)
  refine bndC_of a1 ?_
  have hz:K1[K.length]?=some (.cells nodZ 37):=a2.fr _ _ (by omega) (by simp)
  have hi1:idxS aggs ((st.bind (tokK ts 1)).getD []) < 6:=by
   unfold idxS;split
   · rename_i q;exact List.idxOf_lt_length_of_mem q
   · omega
  generalize hi:idxS aggs ((st.bind (tokK ts 1)).getD [])=i at hi1 ⊢
  have v2:=v1.trans a2
  have c0:CmpG H K (K1++[AObj.cells [.int .u8 0,.int .u8 i,.slice none 0 0,i64 0,.int .u8 0,i64 0,i64 0,i64 0] 37]) rb lv ts (st.bind (oneO ts 1 aggs)) K.length K1.length [.int .u8 0,.int .u8 i,.slice none 0 0,i64 0,.int .u8 0,i64 0,i64 0,i64 0] :=
   ⟨v2.rd.app _,get_more hz,by simp,fun b o hb ho=>get_more (v2.fr b o hb ho),by have:=v2.len;simp;omega,hH,hrb,Nat.le_refl _,v2.len,by have:=a2.len;simp at this;omega⟩
  simp
  generalize K1++[AObj.cells [.int .u8 0,.int .u8 i,.slice none 0 0,i64 0,.int .u8 0,i64 0,i64 0,i64 0] 37]=L1 at c0 ⊢
  obtain ⟨L2,g1,g2⟩:=g_sign c0.rd [40]
  refine bndC_of g1 ?_
  have c1:=c0.adv g2
  generalize hs2:(st.bind (oneO ts 1 aggs)).bind (signO ts [40])=d at c1
  obtain ⟨sv,ms,L3,g3,g4,gs,gm,gml⟩:=g_selects c1.rd
  refine bndC_of g3 ?_
  have c2:=c1.adv g4
  generalize hs3:(d.bind (selO ts)).map (·.2)=e at c2
  have hlo:K1.length < L2.length:=(List.getElem?_eq_some_iff.1 c1.f1).1
  have hlo0:K.length < L2.length:=(List.getElem?_eq_some_iff.1 c1.f0).1
  have e1:=c2.hl
  have e2:=c2.f1
  have hsv1:=gs.one
  have hsv2:=gs.cells
  have hsv3:=gs.stor
  simp [e1,e2,hsv2,hsv3]
  have c3:=c2.sto [.int .u8 0,.int .u8 i,sv,i64 0,.int .u8 0,i64 0,i64 0,i64 0]
  have gs3:=gs.set (b:=K1.length) (o:=.cells [.int .u8 0,.int .u8 i,sv,i64 0,.int .u8 0,i64 0,i64 0,i64 0] 37) hlo
  generalize L3.set K1.length (AObj.cells [.int .u8 0,.int .u8 i,sv,i64 0,.int .u8 0,i64 0,i64 0,i64 0] 37)=L4 at c3 gs3 ⊢
  obtain ⟨L5,g5,g6⟩:=g_sign c3.rd [91]
  refine bndC_of g5 ?_
  have c4:=c3.adv g6
  have grb:rb < L2.length:=by omega
  have gs5:=gs3.frm (K':=L5) fun b o hb ho=>g6.fr b o (by omega) ho
  generalize hs4:e.bind (signO ts [91])=f at c4
  obtain ⟨w,L6,g7,g8,gw⟩:=g_window hg hn c4.rd
  refine bndC_of g7 ?_
  have c5:=c4.adv g8
  have gs6:=gs5.frm (K':=L6) fun b o hb ho=>g8.fr b o (by omega) ho
  generalize hs5:(f.bind (winO ts)).map (·.2)=g at c5
  have e1:=c5.hl
  have e2:=c5.f1
  simp [e1,e2]
  have c6:=c5.sto [.int .u8 0,.int .u8 i,sv,i64 w,.int .u8 0,i64 0,i64 0,i64 0]
  have gs7:=gs6.set (b:=K1.length) (o:=.cells [.int .u8 0,.int .u8 i,sv,i64 w,.int .u8 0,i64 0,i64 0,i64 0] 37) hlo
  generalize L6.set K1.length (AObj.cells [.int .u8 0,.int .u8 i,sv,i64 w,.int .u8 0,i64 0,i64 0,i64 0] 37)=L7 at c6 gs7 ⊢
  obtain ⟨L8,g9,ga⟩:=g_sign c6.rd [93]
  refine bndC_of g9 ?_
  have c7:=c6.adv ga
  have gs8:=gs7.frm (K':=L8) fun b o hb ho=>ga.fr b o (by omega) ho
  obtain ⟨L9,gb,gc⟩:=g_sign c7.rd [41]
  refine bndC_of gb ?_
  have c8:=c7.adv gc
  have gs9:=gs8.frm (K':=L9) fun b o hb ho=>gc.fr b o (by omega) ho
  generalize hs7:(g.bind (signO ts [93])).bind (signO ts [41])=c at c8
  refine bndC_of (c_compares _) ?_
  have c9:=c8.app [AObj.cells (cmps.map str) 9]
  obtain ⟨La,gd,ge⟩:=g_one c9.rd 4 (arr_strs cmps 9 6 rfl) (by decide) (by decide) (by decide)
  refine bndC_of gd ?_
  have ca:=c9.adv ge
  have gsa:=(gs9.app (X:=[AObj.cells (cmps.map str) 9])).frm (K':=La) fun b o hb ho=>ge.fr b o (by omega) ho
  have hj1:idxS cmps ((c.bind (tokK ts 4)).getD []) < 6:=by
   unfold idxS;split
   · rename_i q;exact List.idxOf_lt_length_of_mem q
   · omega
  generalize hj:idxS cmps ((c.bind (tokK ts 4)).getD [])=j at hj1 ⊢
  generalize hs8:c.bind (oneO ts 4 cmps)=k at ca
  have e1:=ca.hl
  have e2:=ca.f1
  simp [e1,e2]
  have cb:=ca.sto [.int .u8 0,.int .u8 i,sv,i64 w,.int .u8 j,i64 0,i64 0,i64 0]
  have gsb:=gsa.set (b:=K1.length) (o:=.cells [.int .u8 0,.int .u8 i,sv,i64 w,.int .u8 j,i64 0,i64 0,i64 0] 37) hlo
  generalize La.set K1.length (AObj.cells [.int .u8 0,.int .u8 i,sv,i64 w,.int .u8 j,i64 0,i64 0,i64 0] 37)=Lb at cb gsb ⊢
  obtain ⟨x,Lc,gf,gg,gx⟩:=g_value hn cb.rd
  refine bndC_of gf ?_
  have cc:=cb.adv gg
  have gsc:=gsb.frm (K':=Lc) fun b o hb ho=>gg.fr b o (by omega) ho
  obtain ⟨ch1,ch2⟩:=cmp_chain hs2.symm hs3.symm hs4.symm hs5.symm hs7.symm hs8.symm gm gw gx
  rw [hi,hj] at ch2
  rw [ch1] at cc
  have e1:=cc.hl
  have e2:=cc.f1
  simp [e1,e2]
  have cd:=cc.sto [.int .u8 0,.int .u8 i,sv,i64 w,.int .u8 j,i64 x,i64 0,i64 0]
  have gsd:=gsc.set (b:=K1.length) (o:=.cells [.int .u8 0,.int .u8 i,sv,i64 w,.int .u8 j,i64 x,i64 0,i64 0] 37) hlo
  generalize Lc.set K1.length (AObj.cells [.int .u8 0,.int .u8 i,sv,i64 w,.int .u8 j,i64 x,i64 0,i64 0] 37)=Ld at cd gsd ⊢
  have e1:=cd.hc
  have e2:=cd.f0
  have q1:=cd.fin [.int .u8 0,.int .u8 i,sv,i64 w,.int .u8 j,i64 x,i64 0,i64 0]
  have gse:=gsd.set (b:=K.length) (o:=.cells [.int .u8 0,.int .u8 i,sv,i64 w,.int .u8 j,i64 x,i64 0,i64 0] 37) hlo0
  have hself:hcells (Ld.set K.length (AObj.cells [.int .u8 0,.int .u8 i,sv,i64 w,.int .u8 j,i64 x,i64 0,i64 0] 37)) K.length=some [.int .u8 0,.int .u8 i,sv,i64 w,.int .u8 j,i64 x,i64 0,i64 0]:=by
   rw [hcells_eq,List.getElem?_set_self (List.getElem?_eq_some_iff.1 cd.f0).1];rfl
  simp [e1,e2,nodZ,hself,hsv1]
  refine ⟨⟨0,UInt8.ofNat i,ms,w,UInt8.ofNat j,x,0,0⟩,sv,?_,by simpa using q1,?_,?_,gml⟩
  · have h1:=u8_of (n:=i) (by omega)
    have h2:=u8_of (n:=j) (by omega)
    simp only [Nod.cells,byt,h1,h2]
    rfl
  · exact gse.weak (by omega)
  · intro a b hp;exact ch2 (a,b) (by simpa using hp)
 obtain ⟨v,K',⟨n,sv,rfl,h⟩,hy⟩:=key
 exact ⟨n,sv,K',hy,h⟩
end Go.Vi
namespace Go.Vi
open Go Go.Proofs Go.Proofs.Tryz
theorem drawKeepOne {P:Program}:OneD (drawKeep P):=by
 constructor
 · intro ops k k' sl H hk h
   unfold drawKeep at h ⊢
   split at h
   · exact kdrawK_mono hk _ _ h
   · cases h
 · intro ops k sl H h
   unfold drawKeep at h ⊢
   split at h
   · exact kdrawK_one _ _ h
   · cases h
theorem acallsKex {P:Program} (hm:P.follows .mixedOrders=true) {f fn args H} {k:Value→AHeap→Prop} (hf:P.funcs[f]?=some fn) (hn:notNG fn=true) (hr:kbodyG P (drawKeep P) fn args H k):∃ v H',k v H'∧ACalls P f args H v H':=by
 obtain ⟨v,H',h1,h2⟩:=kbodyG_one drawKeepOne hr
 exact ⟨v,H',h1,acallsG_of (fun c=>@drawKeep_sound P c hm) hf hn h2⟩
def wordO (k:Nat):List UInt8:=if k=1 then [97,110,100] else [111,114]
def notS:List UInt8:=[110,111,116]
def opN (k:UInt8) (l r:Int):Nod:=⟨k,0,[],0,0,0,l,r⟩
def kindK (k:Nat):UInt8:=if k=1 then 1 else 2
def strO (ts:List Tok):Nat→Nat→Nat→List Nod→Option (Option (List Nod × Nat))
 | 0,_,_,_=>none
 | f + 1, m, a, l =>
   if m=2 then
    if isT ts a 1 notS=true then (strO ts f 2 (a+1) l).map fun r=>r.map fun p=>(p.1++[opN 3 ((p.1.length:Int)-1) 0],p.2)
    else if isT ts a 4 [40]=true then (strO ts f 0 (a+1) l).map fun r=>r.bind fun p=>(signO ts [41] p.2).map fun c=>(p.1,c)
    else some ((cmpO ts a).map fun p=>(l++[p.1],p.2))
   else if m < 2 then (strO ts f (m+1) a l).bind fun r=>match r with
    | none=>some none
    | some p=>strO ts f (m+10) p.2 p.1
   else if isT ts a 1 (wordO (m-10))=true then (strO ts f (m-10+1) (a+1) l).bind fun r=>match r with
    | none=>some none
    | some p=>strO ts f m p.2 (p.1++[opN (kindK (m-10)) ((l.length:Int)-1) ((p.1.length:Int)-1)])
   else some (some (l,a))
theorem cmpO_lt {ts:List Tok} {a:Nat} {p:Nod × Nat} (h:cmpO ts a=some p):a < p.2:=by
 have hone:∀ {k l a b},oneO ts k l a=some b→b=a+1:=by
  intro k l a b h
  unfold oneO at h
  obtain ⟨_,_,h2⟩:=Option.bind_eq_some_iff.1 h
  split at h2<;>simp_all
 have hsign:∀ {s a b},signO ts s a=some b→b=a+1:=by
  intro s a b h
  unfold signO at h
  split at h<;>simp_all
 have hmat:∀ {a p},matO ts a=some p→p.2=a+3:=by
  intro a p h
  unfold matO at h
  obtain ⟨_,_,h2⟩:=Option.bind_eq_some_iff.1 h
  obtain ⟨_,_,h3⟩:=Option.bind_eq_some_iff.1 h2
  split at h3
  · obtain ⟨_,_,h4⟩:=Option.bind_eq_some_iff.1 h3
    rw [← Option.some.inj h4]
  · cases h3
 have hselL:∀ (f:Nat) {a acc p},selL ts f a acc=some p→a≤p.2:=by
  intro f
  induction f with
  | zero=>intro a acc p h;cases h
  | succ f ih =>
    intro a acc p h
    simp only [selL] at h
    obtain ⟨q,h1,h2⟩:=Option.bind_eq_some_iff.1 h
    have:=hmat h1
    split at h2
    · have:=ih h2;omega
    · rw [← Option.some.inj h2];simp only;omega
 have hsel:∀ {a p},selO ts a=some p→a≤p.2:=by
  intro a p h
  unfold selO at h
  obtain ⟨b,h1,h2⟩:=Option.bind_eq_some_iff.1 h
  have:=hsign h1
  split at h2
  · rw [← Option.some.inj h2];simp only;omega
  · obtain ⟨q,h3,h4⟩:=Option.bind_eq_some_iff.1 h2
    have:=hselL _ h3
    obtain ⟨c,h5,h6⟩:=Option.map_eq_some_iff.1 h4
    rw [← h6]
    unfold selE at h5
    obtain ⟨d,h7,h8⟩:=Option.bind_eq_some_iff.1 h5
    have:=hsign h7
    split at h8
    · rw [← Option.some.inj h8];simp only;omega
    · cases h8
 have hwin:∀ {a p},winO ts a=some p→p.2=a+1:=by
  intro a p h
  unfold winO at h
  obtain ⟨_,_,h2⟩:=Option.bind_eq_some_iff.1 h
  obtain ⟨_,_,h3⟩:=Option.bind_eq_some_iff.1 h2
  split at h3
  · rw [← Option.some.inj h3]
  · cases h3
 have hval:∀ {a p},valO ts a=some p→a≤p.2:=by
  intro a p h
  unfold valO at h
  obtain ⟨_,_,h2⟩:=Option.bind_eq_some_iff.1 h
  split at h2
  · rw [← Option.some.inj h2];simp only [takO];split<;>omega
  · cases h2
 unfold cmpO at h
 obtain ⟨b1,h1,h⟩:=Option.bind_eq_some_iff.1 h
 obtain ⟨b2,h2,h⟩:=Option.bind_eq_some_iff.1 h
 obtain ⟨q,h3,h⟩:=Option.bind_eq_some_iff.1 h
 obtain ⟨b3,h4,h⟩:=Option.bind_eq_some_iff.1 h
 obtain ⟨w,h5,h⟩:=Option.bind_eq_some_iff.1 h
 obtain ⟨b4,h6,h⟩:=Option.bind_eq_some_iff.1 h
 obtain ⟨b5,h7,h⟩:=Option.bind_eq_some_iff.1 h
 obtain ⟨b6,h8,h⟩:=Option.bind_eq_some_iff.1 h
 obtain ⟨v,h9,h⟩:=Option.bind_eq_some_iff.1 h
 have:=hone h1;have:=hsign h2;have:=hsel h3;have:=hsign h4;have:=hwin h5;have:=hsign h6;have:=hsign h7;have:=hone h8;have:=hval h9
 rw [← Option.some.inj h]
 simp only
 omega
theorem strO_len {ts:List Tok}:∀ (f:Nat) {m a l l' b},strO ts f m a l=some (some (l',b))→a≤b∧l.length≤l'.length∧l'.length+a≤l.length+b:=by
 intro f
 induction f with
 | zero=>intro m a l l' b h;cases h
 | succ f ih =>
   intro m a l l' b h
   simp only [strO] at h
   split at h
   · split at h
     · obtain ⟨r,h1,h2⟩:=Option.map_eq_some_iff.1 h
       obtain ⟨p,rfl,h3⟩:=Option.map_eq_some_iff.1 h2
       have:=ih h1
       simp only [Prod.mk.injEq] at h3
       obtain ⟨rfl,rfl⟩:=h3
       simp only [List.length_append,List.length_cons,List.length_nil]
       omega
     · split at h
       · obtain ⟨r,h1,h2⟩:=Option.map_eq_some_iff.1 h
         obtain ⟨p,rfl,h3⟩:=Option.bind_eq_some_iff.1 h2
         obtain ⟨c,h4,h5⟩:=Option.map_eq_some_iff.1 h3
         have:=ih h1
         unfold signO at h4
         split at h4
         · simp only [Option.some.injEq] at h4
           simp only [Prod.mk.injEq] at h5
           obtain ⟨rfl,rfl⟩:=h5
           omega
         · cases h4
       · obtain ⟨p,h1,h2⟩:=Option.map_eq_some_iff.1 (Option.some.inj h)
         have:=cmpO_lt h1
         simp only [Prod.mk.injEq] at h2
         obtain ⟨rfl,rfl⟩:=h2
         simp only [List.length_append,List.length_cons,List.length_nil]
         omega
   · split at h
     · obtain ⟨r,h1,h2⟩:=Option.bind_eq_some_iff.1 h
       cases r with
       | none=>cases h2
       | some p =>
         have:=ih h1
         have:=ih h2
         omega
     · split at h
       · obtain ⟨r,h1,h2⟩:=Option.bind_eq_some_iff.1 h
         cases r with
         | none=>cases h2
         | some p =>
           have:=ih h1
           have:=ih h2
           simp only [List.length_append,List.length_cons,List.length_nil] at this
           omega
       · simp only [Option.some.injEq,Prod.mk.injEq] at h
         obtain ⟨rfl,rfl⟩:=h
         omega
theorem nael1:aElem prog 27=some (37,8,72):=by kernel_rfl
theorem nael2:isSeq prog 27=true:=by kernel_rfl
theorem Gro.pushT {P:Program} {K:AHeap} {lo z by_:Nat} {T Ts:TypeId} {v x:Value} {cl:List (List Value)} {c:List Value} (h:Gro K lo z T v cl) (hT:aElem P Ts=some (T,z,by_)) (hsq:isSeq P Ts=true) (hc:c.length=z) (hlo:lo≤K.length)
  (hx:aSrc K z x=some (1,c)) (hb:(cl.length+1)*by_≤140737488355328) (hn:cl.length+1≤9223372036854775807) :
  ∃ v' K',aBuiltin P K .append #[Ts,Ts] [v,x]=some (v',K')∧Gro K' lo z T v' (cl++[c])∧(∀ b o,b < lo→K[b]?=some o→K'[b]?=some o)∧K.length≤K'.length∧(∀ H,Pre H K→H.length≤lo→Pre H K')∧(∀ (b:Nat) o,K[b]?=some o→(∀ cs,o≠.cells cs T)→K'[b]?=some o):=by
 obtain ⟨v',K',h1,h2,h3,h4,h5⟩:=h.push hT hsq hc hlo hx hb hn
 refine ⟨v',K',h1,h2,h3,h4,h5,fun b o hbo hne=>?_⟩
 cases h with
 | nil =>
   have hb':by_≤140737488355328:=by simpa using hb
   simp [aBuiltin,aAppend,hT,hx,hsq,hb',hc] at h1
   rw [← h1.2];exact get_more hbo
 | mk bb cl g1 g2 g3 g4 =>
   have hfl:=flat_len g4
   have e2:¬ cl.length+1≤cl.length:=by omega
   simp only [aBuiltin,aAppend,hT,hx,hsq,if_true,g2,hfl,Nat.zero_add,Nat.le_refl,and_self,e2,if_false,hb,hn,Option.some.injEq,Prod.mk.injEq] at h1
   rw [← h1.2,List.getElem?_set_ne (by rintro rfl;rw [hbo] at g2;cases g2;exact hne _ rfl)]
   exact hbo
def NL (K:AHeap) (lo:Nat) (v:Value) (ns:List Nod):Prop:=∃ cl,Gro K lo 8 37 v cl∧cl.length=ns.length∧∀ (i:Nat) n,ns[i]?=some n→∃ sv,cl[i]?=some ((n:Nod).cells sv)∧Gro K lo 3 75 sv (n.sel.map Mat.cells)∧n.sel.length≤2 ^ 41
theorem NL.frm {K K' lo v ns} (h:NL K lo v ns) (hf:∀ (b:Nat) o,lo≤b→K[b]?=some o→K'[b]?=some o):NL K' lo v ns:=by
 obtain ⟨cl,h1,h2,h3⟩:=h
 refine ⟨cl,h1.frm hf,h2,fun i n hi=>?_⟩
 obtain ⟨sv,q1,q2,q3⟩:=h3 i n hi
 exact ⟨sv,q1,q2.frm hf,q3⟩
theorem NL.nodes {K lo v ns} (h:NL K lo v ns):NodesAt K v ns:=by
 obtain ⟨cl,h1,h2,h3⟩:=h
 refine ⟨cl,h1.arr,h2,fun i n hi=>?_⟩
 obtain ⟨sv,q1,q2,q3⟩:=h3 i n hi
 exact ⟨sv,q1,q2.arr,by omega⟩
theorem NL.len {K lo v ns} (h:NL K lo v ns) (J:AHeap):aLen prog J 27 v=some (i64 ns.length):=by
 obtain ⟨cl,h1,h2,_⟩:=h
 rw [← h2];exact h1.arr.len' (e:=37) (by simp)
abbrev sP (b:Nat):Value:=.pointer (some ⟨b,0,some 1⟩)
abbrev cndF (rv sb lb:Nat):Value:=.func (.func 67) #[] #[sP rv,sP sb,sP lb]
structure CndS (H K:AHeap) (rb:Nat) (lv:Value) (ts:List Tok) (st:Option Nat) (rv sb lb lo:Nat) (ns:List Nod):Prop where
 rd:RdS H K rb lv ts st
 cr:K[rv]?=some (.cells [rP rb] 79)
 cs:K[sb]?=some (.cells [cndF rv sb lb] 107)
 cl:∃ v,K[lb]?=some (.cells [v] 27)∧NL K lo v ns
 b0:rb < rv
 b1:rv < lb
 b2:lb < sb
 b3:sb < lo
 b4:lo≤K.length
 hH:H.length≤rb
theorem CndS.adv {H K K1 rb lv ts st st' rv sb lb lo ns} (h:CndS H K rb lv ts st rv sb lb lo ns) (g:Adv H K K1 rb lv ts st'):CndS H K1 rb lv ts st' rv sb lb lo ns:=by
 obtain ⟨v,hv1,hv2⟩:=h.cl
 have hb0:=h.b0;have hb1:=h.b1;have hb2:=h.b2;have hb3:=h.b3;have hb4:=h.b4
 exact ⟨g.rd,g.fr _ _ (by omega) h.cr,g.fr _ _ (by omega) h.cs,⟨v,g.fr _ _ (by omega) hv1,hv2.frm fun b o hb ho=>g.fr b o (by omega) ho⟩,hb0,hb1,hb2,hb3,Nat.le_trans hb4 g.len,h.hH⟩
theorem CndS.push {H K rb lv ts st rv sb lb lo ns} (h:CndS H K rb lv ts st rv sb lb lo ns) (n:Nod) (sv:Value) (hsv:Gro K lo 3 75 sv (n.sel.map Mat.cells)) (hsl:n.sel.length≤2 ^ 41) (hns:ns.length+1≤2 ^ 30) {v:Value} (hv:K[lb]?=some (.cells [v] 27)) :
  ∃ v' K2, aBuiltin prog (K ++ [AObj.cells (n.cells sv) 37]) .append #[27, 27] [v, .slice (some ⟨K.length, 0, some 8⟩) 1 1] = some (v', K2) ∧
    aStore prog K2 27 (sP lb) v'=some (K2.set lb (.cells [v'] 27))∧CndS H (K2.set lb (.cells [v'] 27)) rb lv ts st rv sb lb lo (ns++[n]):=by
 obtain ⟨v0,hv1,hv2⟩:=h.cl
 rw [hv] at hv1
 cases hv1
 obtain ⟨cl,hg,hcl,hall⟩:=hv2
 have hb0:=h.b0;have hb1:=h.b1;have hb2:=h.b2;have hb3:=h.b3;have hb4:=h.b4;have hH:=h.hH
 obtain ⟨v',K2,q1,q2,q3,q4,q5,q6⟩:=Gro.pushT (P:=prog) (Ts:=27) (by_:=72) (x:=.slice (some ⟨K.length,0,some 8⟩) 1 1) (c:=n.cells sv) (hg.app (X:=[AObj.cells (n.cells sv) 37])) nael1 nael2 (by rfl) (by simp;omega) (by simp [aSrc,Nod.cells]) (by omega) (by omega)
 have hcl2:=q3 lb _ (by omega) (get_more hv)
 have hget:∀ (b:Nat) o,b < lo→b≠lb→K[b]?=some o→(K2.set lb (.cells [v'] 27))[b]?=some o:=fun b o h1 h2 ho=>by
  rw [List.getElem?_set_ne (fun e=>h2 e.symm)];exact q3 _ _ h1 (get_more ho)
 have hmat:∀ {sv ms},Gro K lo 3 75 sv ms→Gro (K2.set lb (.cells [v'] 27)) lo 3 75 sv ms:=by
  intro sv ms hg
  cases hg with
  | nil=>exact .nil
  | mk bb ms h1 h2 h3 h4=>exact .mk bb ms h1 (by rw [List.getElem?_set_ne (by omega)];exact q6 _ _ (get_more h2) (by simp)) h3 h4
 refine ⟨v',K2,q1,by simp [hcl2,q2.cells,q2.stor],⟨h.rd.frame ((q5 H (h.rd.pre.more _) (by omega)).set (by omega)) fun o ho=>hget _ _ (by omega) (by omega) ho,hget _ _ (by omega) (by omega) h.cr,hget _ _ (by omega) (by omega) h.cs,⟨v',?_,cl++[n.cells sv],q2.set (by omega),by simp [hcl],?_⟩,hb0,hb1,hb2,hb3,?_,hH⟩⟩
 · rw [List.getElem?_set_self (by simp at q4;omega)]
 · intro i m hi
   rcases Nat.lt_or_ge i ns.length with hlt | hge
   · rw [List.getElem?_append_left hlt] at hi
     obtain ⟨sv',e1,e2,e3⟩:=hall i m hi
     exact ⟨sv',by rw [List.getElem?_append_left (by omega)];exact e1,hmat e2,e3⟩
   · rw [List.getElem?_append_right hge] at hi
     have hi0:i-ns.length=0:=by
      have:=(List.getElem?_eq_some_iff.1 hi).1;simp at this;omega
     rw [hi0] at hi
     simp at hi
     subst hi
     exact ⟨sv,by rw [List.getElem?_append_right (by omega),hcl,hi0];rfl,hmat hsv,hsl⟩
 · simp at q4 ⊢;omega
theorem nodLit {K:AHeap} (n:Nod) {sv:Value} (hs:sv.oneCell'=true):sliceLit prog K 27 1 [(0,.agg (n.cells sv).toArray)] (.slice (some ⟨K.length,0,some 8⟩) 1 1) (K++[.cells (n.cells sv) 37]) :=
 sliceLitA (c:=n.cells sv) (tbs27 K 1 _) (by rfl) (by simp [Nod.cells,hs]) (by simp)
def OutS (H K':AHeap) (rb:Nat) (lv:Value) (ts:List Tok) (rv sb lb lo B:Nat):Option (List Nod × Nat)→Prop
 | some p=>CndS H K' rb lv ts (some p.2) rv sb lb lo p.1
 | none=>∃ l',CndS H K' rb lv ts none rv sb lb lo l'∧l'.length≤B
abbrev CndC (H K:AHeap) (rb:Nat) (lv:Value) (ts:List Tok) (rv sb lb lo B:Nat) (r:Option (List Nod × Nat)) (m:Nat):Prop :=
 ∃ K',ACalls prog 67 [i64 m,sP rv,sP sb,sP lb] K (.tuple #[]) K'∧OutS H K' rb lv ts rv sb lb lo B r
abbrev CndL (H K:AHeap) (rb:Nat) (lv:Value) (ts:List Tok) (rv sb lb lo B:Nat) (r:Option (List Nod × Nat)) (k:Nat):Prop :=
 ∃ K', OutS H K' rb lv ts rv sb lb lo B r ∧ ∀ (kk : Value → AHeap → Prop), kk (.tuple #[]) K' → ∃ n, ∀ (s4 s7 s8 s9 a b c d e f g h i j l m o p q s t u v w x y z A C D E F G I J L M N O P Q R S T U V W X Y Z aa ab ac : Value),
   L67x0 n kk [i64 k,sP rv,sP sb,sP lb,s4,str (wordO k),byt (kindK k),s7,s8,s9,a,b,c,d,e,f,g,h,i,j,l,m,o,p,q,s,t,u,v,w,x,y,z,A,C,D,E,F,G,I,J,L,M,N,O,P,Q,R,S,T,U,V,W,X,Y,Z,aa,ab,ac] K
theorem cndC_of {H K rb lv ts rv sb lb lo B r} {m:Nat} (h:∃ v K',(v=.tuple #[]∧OutS H K' rb lv ts rv sb lb lo B r)∧ACalls prog 67 [i64 m,sP rv,sP sb,sP lb] K v K'):CndC H K rb lv ts rv sb lb lo B r m:=by
 obtain ⟨v,K',⟨rfl,h⟩,hy⟩:=h
 exact ⟨K',hy,h⟩
theorem str_cmp {H K rb lv ts a rv sb lb lo ns} (hg:Pre Gs H) (hn:NumTok ts) (h:CndS H K rb lv ts (some a) rv sb lb lo ns) (hns:ns.length+1≤2 ^ 30) (h1:isT ts a 1 notS=false) (h2:isT ts a 4 [40]=false) :
  CndC H K rb lv ts rv sb lb lo (ns.length+(ts.length-a)+1) ((cmpO ts a).map fun p=>(ns++[p.1],p.2)) 2:=by
 refine cndC_of ?_
 refine acallsKex MixT func67 (by decide) ?_
 rw [d67]
 obtain ⟨v,hv1,hv2⟩:=h.cl
 have hcr:hcells K rv=some [rP rb]:=by rw [hcells_eq,h.cr];rfl
 have hcl:hcells K lb=some [v]:=by rw [hcells_eq,hv1];rfl
 have hrd:RdA H K rb lv ts a true:=h.rd
 simp [hcr]
 refine bndC_of (c_takes_n hrd (k:=1) (s:=notS) (by simp [h1])) ?_
 simp [hcr]
 refine bndC_of (c_takes_n hrd (k:=4) (s:=[40]) (by simp [h2])) ?_
 simp [hcr,hcl]
 obtain ⟨n,sv,K1,g1,g2,g3,g4,g5⟩:=g_comparison hg hn h.rd
 have c1:=h.adv g2
 have hb0:=h.b0;have hb1:=h.b1;have hb4:=h.b4
 have hcl1:K1[lb]?=some (.cells [v] 27):=g2.fr _ _ (by omega) hv1
 have hcc1:hcells K1 lb=some [v]:=by rw [hcells_eq,hcl1];rfl
 refine bndK_of g1 ⟨by simp [hcc1],trivial⟩ ?_
 obtain ⟨v',K2,q1,q2,q3⟩:=c1.push n sv (g3.weak hb4) g5 hns hcl1
 refine bndK_ext (nodLit n g3.one) ⟨_,rfl⟩ ?_
 refine bndK_bar q1 ?_
 refine bndK_bar ⟨rfl,q2⟩ ?_
 refine ⟨rfl,?_⟩
 simp only [Option.bind_some] at q3 g4
 cases hc:cmpO ts a with
 | none=>rw [hc] at q3;exact ⟨ns++[n],q3,by simp only [List.length_append,List.length_cons,List.length_nil];omega⟩
 | some p =>
   have e:=g4 p hc
   rw [hc] at q3
   subst e
   exact q3
theorem str_neg {H K rb lv ts a rv sb lb lo} {l:List Nod} {r:Option (List Nod × Nat)} (h1:isT ts a 1 notS=true) (ih:∀ {K},CndS H K rb lv ts (some (a+1)) rv sb lb lo l→CndC H K rb lv ts rv sb lb lo (l.length+(ts.length-(a+1))+1) r 2)
  (h:CndS H K rb lv ts (some a) rv sb lb lo l) (hl:l.length+ts.length≤2 ^ 29+a) (hr:∀ p,r=some p→p.1.length+(a+1)≤l.length+p.2) :
  CndC H K rb lv ts rv sb lb lo (l.length+(ts.length-a)+1) (r.map fun p=>(p.1++[opN 3 ((p.1.length:Int)-1) 0],p.2)) 2:=by
 refine cndC_of ?_
 refine acallsKex MixT func67 (by decide) ?_
 rw [d67]
 have hcr:hcells K rv=some [rP rb]:=by rw [hcells_eq,h.cr];rfl
 have hrd:RdA H K rb lv ts a true:=h.rd
 simp [hcr]
 refine bndC_of (c_takes_y hrd (k:=1) (s:=notS) h1) ?_
 have hlt:=isT_lt h1
 have hst:=h.adv (.setT hrd (a+1) (by omega))
 generalize K.set rb (rdo lv (a+1) true)=K1 at hst ⊢
 have hcs:hcells K1 sb=some [cndF rv sb lb]:=by rw [hcells_eq,hst.cs];rfl
 simp [hcs]
 obtain ⟨K2,g1,g2⟩:=ih hst
 refine bndV_func (by simpa using g1) ?_
 have go:∀ {st:Option Nat} {l':List Nod},CndS H K2 rb lv ts st rv sb lb lo l'→l'.length+1≤2 ^ 30→(∀ K3,CndS H K3 rb lv ts st rv sb lb lo (l'++[opN 3 ((l'.length:Int)-1) 0])→OutS H K3 rb lv ts rv sb lb lo (l.length+(ts.length-a)+1) (r.map fun p=>(p.1++[opN 3 ((p.1.length:Int)-1) 0],p.2))) →
   ∀ (q:QH),q=q→True:=fun _ _ _ _ _=>trivial
 clear go
 obtain ⟨st,l',hcs2,hlen',hout⟩:∃ (st:Option Nat) (l':List Nod),CndS H K2 rb lv ts st rv sb lb lo l'∧l'.length+1≤2 ^ 30∧∀ K3,CndS H K3 rb lv ts st rv sb lb lo (l'++[opN 3 ((l'.length:Int)-1) 0])→OutS H K3 rb lv ts rv sb lb lo (l.length+(ts.length-a)+1) (r.map fun p=>(p.1++[opN 3 ((p.1.length:Int)-1) 0],p.2)):=by
  cases r with
  | none =>
    obtain ⟨l',e1,e2⟩:=g2
    exact ⟨none,l',e1,by omega,fun K3 h3=>⟨_,h3,by simp;omega⟩⟩
  | some p =>
    have g2':CndS H K2 rb lv ts (some p.2) rv sb lb lo p.1:=g2
    have:=hr p rfl
    have:=g2'.rd.le
    exact ⟨some p.2,p.1,g2',by omega,fun K3 h3=>h3⟩
 obtain ⟨v,hv1,hv2⟩:=hcs2.cl
 have hcl:hcells K2 lb=some [v]:=by rw [hcells_eq,hv1];rfl
 have hlen:=fun J=>hv2.len J
 have hw:IntKind.i64.wrap ((l'.length:Int)-1)=(l'.length:Int)-1:=wrap_i64 (by omega) (by omega)
 simp [hcl,hlen,hw]
 obtain ⟨v',K3,q1,q2,q3⟩:=hcs2.push (opN 3 ((l'.length:Int)-1) 0) (.slice none 0 0) .nil (by simp [opN]) hlen' hv1
 refine bndL_lit (nodLit (opN 3 ((l'.length:Int)-1) 0) rfl) ?_
 dsimp only
 rw [q1]
 simp only [bndE_some,q2,bndS_some]
 exact ⟨by trivial,hout _ q3⟩
theorem str_par {H K rb lv ts a rv sb lb lo} {l:List Nod} {r:Option (List Nod × Nat)} (h0:isT ts a 1 notS=false) (h1:isT ts a 4 [40]=true) (ih:∀ {K},CndS H K rb lv ts (some (a+1)) rv sb lb lo l→CndC H K rb lv ts rv sb lb lo (l.length+(ts.length-(a+1))+1) r 0)
  (h:CndS H K rb lv ts (some a) rv sb lb lo l) (hr:∀ p,r=some p→p.1.length+(a+1)≤l.length+p.2) :
  CndC H K rb lv ts rv sb lb lo (l.length+(ts.length-a)+1) (r.bind fun p=>(signO ts [41] p.2).map fun c=>(p.1,c)) 2:=by
 refine cndC_of ?_
 refine acallsKex MixT func67 (by decide) ?_
 rw [d67]
 have hcr:hcells K rv=some [rP rb]:=by rw [hcells_eq,h.cr];rfl
 have hrd:RdA H K rb lv ts a true:=h.rd
 simp [hcr]
 refine bndC_of (c_takes_n hrd (k:=1) (s:=notS) (by simp [h0])) ?_
 simp [hcr]
 refine bndC_of (c_takes_y hrd (k:=4) (s:=[40]) h1) ?_
 have hlt:=isT_lt h1
 have hst:=h.adv (.setT hrd (a+1) (by omega))
 generalize K.set rb (rdo lv (a+1) true)=K1 at hst ⊢
 have hcs:hcells K1 sb=some [cndF rv sb lb]:=by rw [hcells_eq,hst.cs];rfl
 simp [hcs]
 obtain ⟨K2,g1,g2⟩:=ih hst
 refine bndV_func (by simpa using g1) ?_
 cases r with
 | none =>
   obtain ⟨l',e1,e2⟩:=g2
   have hcr2:hcells K2 rv=some [rP rb]:=by rw [hcells_eq,e1.cr];rfl
   simp [hcr2]
   obtain ⟨K3,s1,s2⟩:=g_sign e1.rd [41]
   exact bndC_of s1 ⟨rfl,l',e1.adv s2,by omega⟩
 | some p =>
   have g2':CndS H K2 rb lv ts (some p.2) rv sb lb lo p.1:=g2
   have hcr2:hcells K2 rv=some [rP rb]:=by rw [hcells_eq,g2'.cr];rfl
   simp [hcr2]
   obtain ⟨K3,s1,s2⟩:=g_sign g2'.rd [41]
   have c3:=g2'.adv s2
   have:=hr p rfl
   have:=g2'.rd.le
   refine bndC_of s1 ⟨rfl,?_⟩
   simp only [Option.bind_some] at c3 ⊢
   cases hs:signO ts [41] p.2 with
   | none=>rw [hs] at c3;exact ⟨p.1,c3,by omega⟩
   | some c=>rw [hs] at c3;exact c3
theorem str_done {H K rb lv ts st rv sb lb lo B} {l:List Nod} {k:Nat} {r:Option (List Nod × Nat)} (h1:(st.any fun b=>isT ts b 1 (wordO k))=false) (h:CndS H K rb lv ts st rv sb lb lo l) (hout:OutS H K rb lv ts rv sb lb lo B r):CndL H K rb lv ts rv sb lb lo B r k:=by
 refine ⟨K,hout,fun kk hk=>⟨1,?_⟩⟩
 intro s4 s7 s8 s9 c d e f g i j m n o p q s t u v w x y z A C D E F G I J L M N O P Q R S T U V W X Y Z aa ab ac ad ae af
 rw [L67x0q]
 have hcr:hcells K rv=some [rP rb]:=by rw [hcells_eq,h.cr];rfl
 simp [hcr]
 have hcall:ACalls prog 68 [rP rb,.int .u8 1,str (wordO k)] K (.bool false) K:=by
  have hrd:=h.rd
  cases st with
  | none=>obtain ⟨a,hrd⟩:=hrd;exact c_takes_n hrd rfl
  | some b=>exact c_takes_n (ok:=true) hrd (by simpa using h1)
 refine bndC_of hcall ?_
 simp
 exact hk
theorem str_more {H K rb lv ts b rv sb lb lo} {l:List Nod} {r r':Option (List Nod × Nat)} {k:Nat} (hk2:k < 2) (h1:isT ts b 1 (wordO k)=true)
  (ih1:∀ {K},CndS H K rb lv ts (some (b+1)) rv sb lb lo l→CndC H K rb lv ts rv sb lb lo (l.length+(ts.length-(b+1))+1) r (k+1)) (hl:l.length+ts.length≤2 ^ 29+b) (hr:∀ p,r=some p→p.1.length+(b+1)≤l.length+p.2)
  (hr0:r=none→r'=none)
  (ih2:∀ p,r=some p→∀ {K},CndS H K rb lv ts (some p.2) rv sb lb lo (p.1++[opN (kindK k) ((l.length:Int)-1) ((p.1.length:Int)-1)])→CndL H K rb lv ts rv sb lb lo (l.length+(ts.length-b)+1) r' k)
  (h:CndS H K rb lv ts (some b) rv sb lb lo l):CndL H K rb lv ts rv sb lb lo (l.length+(ts.length-b)+1) r' k:=by
 have hlt:=isT_lt h1
 have hrd:RdA H K rb lv ts b true:=h.rd
 have hst:=h.adv (.setT hrd (b+1) (by omega))
 generalize hK1:K.set rb (rdo lv (b+1) true)=K1 at hst
 obtain ⟨K2,g1,g2⟩:=ih1 hst
 obtain ⟨st,l',hcs2,hlen',hnext⟩:∃ (st:Option Nat) (l':List Nod),CndS H K2 rb lv ts st rv sb lb lo l'∧l'.length+1≤2 ^ 30∧∀ K3,CndS H K3 rb lv ts st rv sb lb lo (l'++[opN (kindK k) ((l.length:Int)-1) ((l'.length:Int)-1)])→CndL H K3 rb lv ts rv sb lb lo (l.length+(ts.length-b)+1) r' k:=by
  cases r with
  | none =>
    obtain ⟨l',e1,e2⟩:=g2
    refine ⟨none,l',e1,by omega,fun K3 h3=>str_done rfl h3 ?_⟩
    rw [hr0 rfl]
    exact ⟨_,h3,by simp only [List.length_append,List.length_cons,List.length_nil];omega⟩
  | some p =>
    have g2':CndS H K2 rb lv ts (some p.2) rv sb lb lo p.1:=g2
    have:=hr p rfl
    have:=g2'.rd.le
    exact ⟨some p.2,p.1,g2',by omega,fun K3 h3=>ih2 p rfl h3⟩
 obtain ⟨v,hv1,hv2⟩:=hcs2.cl
 obtain ⟨v',K3,q1,q2,q3⟩:=hcs2.push (opN (kindK k) ((l.length:Int)-1) ((l'.length:Int)-1)) (.slice none 0 0) .nil (by simp [opN]) hlen' hv1
 obtain ⟨K4,r1,r2⟩:=hnext _ q3
 refine ⟨K4,r1,fun kk hk=>?_⟩
 obtain ⟨n,hn⟩:=r2 kk hk
 refine ⟨n+1,?_⟩
 intro s4 s7 s8 s9 a c d e f g i j m o q s t u w x y z A B C D E F G I L M N O P Q R S T U V W X Y Z aa ab ac ad ae af ag ah
 rw [L67x0q]
 have hcr:hcells K rv=some [rP rb]:=by rw [hcells_eq,h.cr];rfl
 simp [hcr]
 refine bndC_of (c_takes_y hrd h1) ?_
 rw [hK1]
 obtain ⟨v0,hu1,hu2⟩:=hst.cl
 have hcl0:hcells K1 lb=some [v0]:=by rw [hcells_eq,hu1];rfl
 have hlen0:=fun J=>hu2.len J
 have hcs:hcells K1 sb=some [cndF rv sb lb]:=by rw [hcells_eq,hst.cs];rfl
 have hw0:IntKind.i64.wrap ((l.length:Int)-1)=(l.length:Int)-1:=wrap_i64 (by omega) (by omega)
 have hwk:IntKind.i64.wrap ((k:Int)+1)=(k:Int)+1:=wrap_i64 (by omega) (by omega)
 simp [hcl0,hlen0,hw0,hcs,hwk]
 refine bndV_func (by simpa using g1) ?_
 have hcl:hcells K2 lb=some [v]:=by rw [hcells_eq,hv1];rfl
 have hlen:=fun J=>hv2.len J
 have hw:IntKind.i64.wrap ((l'.length:Int)-1)=(l'.length:Int)-1:=wrap_i64 (by omega) (by omega)
 simp [hcl,hlen,hw]
 have hlit:=nodLit (K:=K2) (opN (kindK k) ((l.length:Int)-1) ((l'.length:Int)-1)) (sv:=.slice none 0 0) rfl
 have hnod:(opN (kindK k) ((l.length:Int)-1) ((l'.length:Int)-1)).cells (.slice none 0 0)=[byt (kindK k),.int .u8 0,.slice none 0 0,i64 0,.int .u8 0,i64 0,i64 ((l.length:Int)-1),i64 ((l'.length:Int)-1)]:=rfl
 rw [hnod] at hlit q1
 refine bndL_lit hlit ?_
 dsimp only
 rw [q1]
 simp only [bndE_some,q2,bndS_some]
 exact hn _ _ _ _ _ _ _ _ _ _ _ _ _ _ _ _ _ _ _ _ _ _ _ _ _ _ _ _ _ _ _ _ _ _ _ _ _ _ _ _ _ _ _ _ _ _ _ _ _ _ _ _ _
theorem g_str {H rb lv ts rv sb lb lo} (hg:Pre Gs H) (hnt:NumTok ts):∀ (f m a:Nat) (l:List Nod) (r:Option (List Nod × Nat)),strO ts f m a l=some r→l.length+ts.length≤2 ^ 29+a→∀ {K},CndS H K rb lv ts (some a) rv sb lb lo l →
  (m≤2→CndC H K rb lv ts rv sb lb lo (l.length+(ts.length-a)+1) r m)∧(∀ k,m=k+10→k < 2→CndL H K rb lv ts rv sb lb lo (l.length+(ts.length-a)+1) r k):=by
 intro f
 induction f with
 | zero=>intro m a l r h;cases h
 | succ f ih =>
   intro m a l r hs hl K h
   have hale:=h.rd.le
   have hbnd:∀ {m a l r},strO ts f m a l=some r→∀ p,r=some p→p.1.length+a≤l.length+p.2:=fun h p hp=>by subst hp;have:=strO_len f h;omega
   have hmon:∀ {m a l r},strO ts f m a l=some r→∀ p,r=some p→a≤p.2∧l.length≤p.1.length:=fun h p hp=>by subst hp;have:=strO_len f h;omega
   simp only [strO] at hs
   split at hs
   · rename_i hm2
     subst hm2
     refine ⟨fun _=>?_,fun k hk=>by omega⟩
     split at hs
     · rename_i hnot
       obtain ⟨r1,e1,rfl⟩:=Option.map_eq_some_iff.1 hs
       exact str_neg hnot (fun {K} hK=>(ih _ _ _ _ e1 (by omega) hK).1 (by omega)) h hl (hbnd e1)
     · rename_i hnot
       have hnot:isT ts a 1 notS=false:=by simpa using hnot
       split at hs
       · rename_i hpar
         obtain ⟨r1,e1,rfl⟩:=Option.map_eq_some_iff.1 hs
         exact str_par hnot hpar (fun {K} hK=>(ih _ _ _ _ e1 (by omega) hK).1 (by omega)) h (hbnd e1)
       · rename_i hpar
         rw [← Option.some.inj hs]
         exact str_cmp hg hnt h (by omega) hnot (by simpa using hpar)
   · rename_i hm2
     split at hs
     · rename_i hm
       refine ⟨fun _=>?_,fun k hk=>by omega⟩
       obtain ⟨r1,e1,e2⟩:=Option.bind_eq_some_iff.1 hs
       obtain ⟨K1,g1,g2⟩:=(ih _ _ _ _ e1 hl h).1 (by omega)
       have hloop:CndL H K1 rb lv ts rv sb lb lo (l.length+(ts.length-a)+1) r m:=by
        cases r1 with
        | none =>
          obtain ⟨l',c1,c2⟩:=g2
          rw [← Option.some.inj e2]
          exact str_done rfl c1 ⟨l',c1,c2⟩
        | some p =>
          have g2':CndS H K1 rb lv ts (some p.2) rv sb lb lo p.1:=g2
          have b1:=hbnd e1 p rfl
          have b2:=hmon e1 p rfl
          have hp2:=g2'.rd.le
          obtain ⟨K2,c1,c2⟩:=(ih _ _ _ _ e2 (by omega) g2').2 m rfl hm
          refine ⟨K2,?_,c2⟩
          cases r with
          | none=>obtain ⟨l',d1,d2⟩:=c1;exact ⟨l',d1,by omega⟩
          | some q=>exact c1
       refine cndC_of ?_
       refine acallsKex MixT func67 (by decide) ?_
       rw [d67]
       have hcs:hcells K sb=some [cndF rv sb lb]:=by rw [hcells_eq,h.cs];rfl
       have hwk:IntKind.i64.wrap ((m:Int)+1)=(m:Int)+1:=wrap_i64 (by omega) (by omega)
       obtain ⟨K2,r1',r2⟩:=hloop
       obtain ⟨n,hn⟩:=r2 (fun v K'=>v=.tuple #[]∧OutS H K' rb lv ts rv sb lb lo (l.length+(ts.length-a)+1) r) ⟨rfl,r1'⟩
       have h2:((m:Int) == 2)=false:=by simp;omega
       simp [h2]
       have fin:∀ (s4 s7 s8 s9 b c d g i j o s t u w x y z A B C D E F G I J L M N O P Q R S T U V W X Y Z aa ab ac ad ae af ag ah ai aj ak:Value),S67x0 (fun v K'=>v=.tuple #[]∧OutS H K' rb lv ts rv sb lb lo (l.length+(ts.length-a)+1) r) [i64 m,sP rv,sP sb,sP lb,s4,str (wordO m),byt (kindK m),s7,s8,s9,b,c,d,g,i,j,o,s,t,u,w,x,y,z,A,B,C,D,E,F,G,I,J,L,M,N,O,P,Q,R,S,T,U,V,W,X,Y,Z,aa,ab,ac,ad,ae,af,ag,ah,ai,aj,ak] K:=by
        intro s4 s7 s8 s9 b c d g i j o s t u w x y z A B C D E F G I J L M N O P Q R S T U V W X Y Z aa ab ac ad ae af ag ah ai aj ak
        rw [S67x0q]
        simp [hcs,hwk]
        refine bndV_func (by simpa using g1) ?_
        exact ⟨n,hn _ _ _ _ _ _ _ _ _ _ _ _ _ _ _ _ _ _ _ _ _ _ _ _ _ _ _ _ _ _ _ _ _ _ _ _ _ _ _ _ _ _ _ _ _ _ _ _ _ _ _ _ _⟩
       refine kifB_bool (fun hq=>?_) (fun hq=>?_)
       · obtain rfl:m=1:=by simp at hq;omega
         exact fin _ _ _ _ _ _ _ _ _ _ _ _ _ _ _ _ _ _ _ _ _ _ _ _ _ _ _ _ _ _ _ _ _ _ _ _ _ _ _ _ _ _ _ _ _ _ _ _ _ _ _ _ _
       · obtain rfl:m=0:=by simp at hq;omega
         exact fin _ _ _ _ _ _ _ _ _ _ _ _ _ _ _ _ _ _ _ _ _ _ _ _ _ _ _ _ _ _ _ _ _ _ _ _ _ _ _ _ _ _ _ _ _ _ _ _ _ _ _ _ _
     · rename_i hm
       refine ⟨fun _=>by omega,fun k hk hk2=>?_⟩
       subst hk
       rw [Nat.add_sub_cancel] at hs
       split at hs
       · rename_i hw
         obtain ⟨r1,e1,e2⟩:=Option.bind_eq_some_iff.1 hs
         have hlt:=isT_lt hw
         refine str_more hk2 hw (fun {K} hK=>(ih _ _ _ _ e1 (by omega) hK).1 (by omega)) hl (hbnd e1) (fun e=>by subst e;exact (Option.some.inj e2).symm) (fun p hp {K'} hK'=>?_) h
         subst hp
         have b1:=hbnd e1 p rfl
         have b2:=hmon e1 p rfl
         have hp2:=hK'.rd.le
         obtain ⟨K2,c1,c2⟩:=(ih _ _ _ _ e2 (by simp only [List.length_append,List.length_cons,List.length_nil];omega) hK').2 k rfl hk2
         refine ⟨K2,?_,c2⟩
         cases r with
         | none=>obtain ⟨l',d1,d2⟩:=c1;exact ⟨l',d1,by simp only [List.length_append,List.length_cons,List.length_nil] at d2;omega⟩
         | some q=>exact c1
       · rename_i hw
         rw [← Option.some.inj hs]
         exact str_done (by simpa using hw) h h
end Go.Vi
namespace Go.Vi
open Go Go.Proofs Go.Proofs.Tryz
theorem strO_tot {ts:List Tok}:∀ (f m a:Nat) (l:List Nod),(m≤2∨m=10∨m=11)→4*(ts.length-a)+(if m≤2 then 3-m else 1)≤f→∃ r,strO ts f m a l=some r:=by
 intro f
 induction f with
 | zero=>intro m a l hm h;split at h<;>omega
 | succ f ih =>
   intro m a l hm h
   simp only [strO]
   split
   · rename_i h2
     subst h2
     rw [if_pos (by omega)] at h
     split
     · rename_i hT
       have:=isT_lt hT
       obtain ⟨r,hr⟩:=ih 2 (a+1) l (by omega) (by simp;omega)
       exact ⟨_,by rw [hr];rfl⟩
     · split
       · rename_i hT
         have:=isT_lt hT
         obtain ⟨r,hr⟩:=ih 0 (a+1) l (by omega) (by simp;omega)
         exact ⟨_,by rw [hr];rfl⟩
       · exact ⟨_,rfl⟩
   · split
     · rename_i hm2
       rw [if_pos (by omega)] at h
       obtain ⟨r,hr⟩:=ih (m+1) a l (by omega) (by rw [if_pos (by omega)];omega)
       rw [hr]
       cases r with
       | none=>exact ⟨none,rfl⟩
       | some p =>
         have:=strO_len f hr
         exact ih (m+10) p.2 p.1 (by omega) (by rw [if_neg (by omega)];omega)
     · split
       · rename_i hT
         have:=isT_lt hT
         rw [if_neg (by omega)] at h
         obtain ⟨r,hr⟩:=ih (m-10+1) (a+1) l (by omega) (by rw [if_pos (by omega)];omega)
         rw [hr]
         cases r with
         | none=>exact ⟨none,rfl⟩
         | some p =>
           have:=strO_len f hr
           exact ih m p.2 _ hm (by rw [if_neg (by omega)];omega)
       · exact ⟨_,rfl⟩
def conO (ts:List Tok) (a:Nat):Option (List Nod × Nat):=(strO ts (4*ts.length+3) 0 a []).getD none
theorem conO_str (ts:List Tok) (a:Nat):strO ts (4*ts.length+3) 0 a []=some (conO ts a):=by
 obtain ⟨r,hr⟩:=strO_tot (ts:=ts) (4*ts.length+3) 0 a [] (by omega) (by simp;omega)
 unfold conO
 rw [hr];rfl
theorem g_condition {H K rb lv ts a} (hg:Pre Gs H) (hn:NumTok ts) (htl:ts.length≤2 ^ 20) (h:RdS H K rb lv ts (some a)) :
  ∃ v K',ACalls prog 40 [rP rb] K v K'∧RdS H K' rb lv ts ((conO ts a).map (·.2))∧∃ ns,NL K' (K.length+3) v ns∧ns.length≤2 ^ 21∧∀ p,conO ts a=some p→p.1=ns:=by
 have key:∃ v K',(RdS H K' rb lv ts ((conO ts a).map (·.2))∧∃ ns,NL K' (K.length+3) v ns∧ns.length≤2 ^ 21∧∀ p,conO ts a=some p→p.1=ns)∧ACalls prog 40 [rP rb] K v K':=by
  refine acalls_ex MixT func40 (by decide) ?_
  rw [d40]
  have hrb:=h.lt
  have hrd:RdA H K rb lv ts a true:=h
  have st:CndS H (K++[AObj.cells [rP rb] 79,AObj.cells [.slice none 0 0] 27,AObj.cells [cndF K.length (K.length+2) (K.length+1)] 107]) rb lv ts (some a) K.length (K.length+2) (K.length+1) (K.length+3) [] :=
   ⟨h.app _,by simp,by simp,⟨.slice none 0 0,by simp,[],.nil,rfl,by simp⟩,hrb,by omega,by omega,by omega,by simp,hrd.hb⟩
  obtain ⟨K1,g1,g2⟩:=(g_str hg hn _ 0 a [] _ (conO_str ts a) (by simp;omega) st).1 (by omega)
  simp [aNew]
  refine bndV_func (by simpa using g1) ?_
  have hle:=h.le
  obtain ⟨st',ns,c1,c2,c3,c4⟩:∃ (st':Option Nat) (ns:List Nod),CndS H K1 rb lv ts st' K.length (K.length+2) (K.length+1) (K.length+3) ns∧st'=(conO ts a).map (·.2)∧ns.length≤2 ^ 21∧∀ p,conO ts a=some p→p.1=ns:=by
   have hlen:=fun l' b (hq:conO ts a=some (l',b))=>strO_len (ts:=ts) (4*ts.length+3) (m:=0) (a:=a) (l:=[]) (l':=l') (b:=b) (by rw [conO_str,hq])
   cases hc:conO ts a with
   | none=>rw [hc] at g2;obtain ⟨l',e1,e2⟩:=g2;exact ⟨none,l',e1,rfl,by simp at e2;omega,by simp⟩
   | some p =>
     rw [hc] at g2
     have g2':CndS H K1 rb lv ts (some p.2) K.length (K.length+2) (K.length+1) (K.length+3) p.1:=g2
     have q1:=hlen p.1 p.2 hc
     have q2:=g2'.rd.le
     simp only [List.length_nil] at q1
     exact ⟨some p.2,p.1,g2',rfl,by omega,fun q hq=>by cases hq;rfl⟩
  obtain ⟨v,hv1,hv2⟩:=c1.cl
  have hcl:hcells K1 (K.length+1)=some [v]:=by rw [hcells_eq,hv1];rfl
  simp [hcl]
  refine ⟨by rw [← c2];exact c1.rd,ns,hv2,c3,fun l b hq=>c4 (l,b) hq⟩
 obtain ⟨v,K',h,hy⟩:=key
 exact ⟨v,K',hy,h⟩
theorem arr_cell {H z v l} (h:Arr H z v l):v.cells = #[v]∧storable v=true:=by cases h<;>exact ⟨rfl,rfl⟩
def readF (ts:List Tok) (at':Int):List Nod × Int × Int:=if at' < 0∨at' ≥ ts.length then ([],0,100) else match conO ts at'.toNat with
 | none=>([],0,100)
 | some p=>if (p.1.length:Int) > 31 then ([],0,4) else (p.1,p.2,0)
theorem NodesAt.nil {H:AHeap}:NodesAt H (.slice none 0 0) []:=⟨[],.nil,rfl,fun i n h=>by simp at h⟩
theorem g_read {H lv ts} {at':Int} (hg:Pre Gs H) (hn:NumTok ts) (htl:ts.length≤2 ^ 20) (hts:ToksAt H lv ts) :
  ∃ v K',ACalls prog 18 [lv,i64 at'] H (.tuple #[v,i64 (readF ts at').2.1,i64 (readF ts at').2.2]) K'∧Pre H K'∧NodesAt K' v (readF ts at').1∧((readF ts at').2.2≠0→v=.slice none 0 0):=by
 have key:∃ v K',(∃ u,v=.tuple #[u,i64 (readF ts at').2.1,i64 (readF ts at').2.2]∧Pre H K'∧NodesAt K' u (readF ts at').1∧((readF ts at').2.2≠0→u=.slice none 0 0))∧ACalls prog 18 [lv,i64 at'] H v K':=by
  refine acalls_ex MixT func18 (by decide) ?_
  rw [d18]
  have hl0:=hts.len (P:=prog) (T:=23) (e:=70) (by simp)
  simp at hl0
  by_cases h0:at' < 0
  · simp [h0,readF]
    exact ⟨.refl _,.nil⟩
  by_cases h1:at' ≥ ts.length
  · have h1':(ts.length:Int)≤at':=h1
    simp [h0,hl0,h1',readF]
    exact ⟨.refl _,.nil⟩
  have h1':¬ (ts.length:Int)≤at':=h1
  have hat:((at'.toNat:Nat):Int)=at':=by omega
  have hrd:RdA H (H++[rdo lv at'.toNat true]) H.length lv ts at'.toNat true:=⟨hts,.app _ _,Nat.le_refl _,by simp,by omega,by omega⟩
  obtain ⟨v,K1,g1,g2,ns,g3,g4,g5⟩:=g_condition hg hn htl (a:=at'.toNat) hrd
  have hb1:=Arr.one hts
  obtain ⟨hb2,hb3⟩:=arr_cell hts
  simp only [rdo,hat] at g1
  simp [h0,hl0,h1',aNew,hb1,hb2,hb3]
  refine bndC_of g1 ?_
  have hpre:=g2.pre
  obtain ⟨a1,c1,c2,c3,_⟩:=RdS.cells g2
  have hcc:hcells K1 H.length=some [lv,i64 a1,.bool ((conO ts at'.toNat).map (·.2)).isSome]:=by rw [hcells_eq,c1];rfl
  have hll:Vi.hlen K1 H.length=some 3:=by unfold Vi.hlen;rw [c1];rfl
  have hnl:=g3.len K1
  have hcond:¬ (at' < 0∨at' ≥ ts.length):=by omega
  unfold readF
  rw [if_neg hcond]
  cases hc:conO ts at'.toNat with
  | none =>
    rw [hc] at hcc
    simp [hcc,hll]
    exact ⟨hpre,.nil⟩
  | some p =>
    rw [hc] at hcc c3
    have e:=g5 p hc
    subst e
    have ea:=c3 p.2 rfl
    subst ea
    by_cases h31:(p.1.length:Int) > 31
    · have h31':(31:Int) < p.1.length:=by omega
      simp [hcc,hll,hnl,h31']
      exact ⟨hpre,.nil⟩
    · have h31':¬ (31:Int) < p.1.length:=by omega
      simp [hcc,hll,hnl,h31']
      exact ⟨hpre,g3.nodes⟩
 obtain ⟨v,K',⟨u,rfl,h1,h2⟩,hy⟩:=key
 exact ⟨u,K',hy,h1,h2⟩
theorem textF_acc:∀ (f:Nat) (r acc:List UInt8) (c:Nat),r.length≤f→(textF r acc c).1.length≤acc.length+r.length:=by
 intro f
 induction f with
 | zero=>intro r acc c h;have:r=[]:=List.eq_nil_of_length_eq_zero (by omega);subst this;simp [textF]
 | succ f ih =>
   intro r acc c h
   cases r with
   | nil=>simp [textF]
   | cons b r =>
     rw [textF_cons]
     simp at h
     split
     · split
       · simp
       · split
         · cases r with
           | nil=>simp
           | cons e r =>
             simp only
             split
             · have:=ih r (acc++[e]) (c+2) (by simp at h;omega);simp at this ⊢;omega
             · simp
         · have:=ih r (acc++[b]) (c+1) (by omega);simp at this ⊢;omega
     · simp
theorem mem_takeWhile {p:UInt8→Bool}:∀ {s:List UInt8} {b:UInt8},b∈s.takeWhile p→p b=true:=by
 intro s
 induction s with
 | nil=>intro b h;simp at h
 | cons x r ih =>
   intro b h
   rw [List.takeWhile_cons] at h
   split at h
   · rcases List.mem_cons.1 h with rfl | h
     · assumption
     · exact ih h
   · simp at h
theorem runF_take (p:UInt8→Bool) (s:List UInt8):s.take (runF p s)=s.takeWhile p:=by
 unfold runF
 exact (List.prefix_iff_eq_take.1 (List.takeWhile_prefix p)).symm
theorem numLen_mem (s:List UInt8):∀ b∈s.take (numLen s),isDig b=true∨b=46:=by
 intro b hb
 unfold numLen at hb
 split at hb
 · rename_i h
   simp only [Bool.and_eq_true,Option.any_eq_true,beq_iff_eq] at h
   obtain ⟨⟨e,he,h46⟩,_⟩:=h
   rw [List.take_add] at hb
   rcases List.mem_append.1 hb with hb | hb
   · rw [runF_take] at hb;exact .inl (mem_takeWhile hb)
   · have hd:s.drop (runF isDig s)=e :: s.drop (runF isDig s+1):=by
      have hlt:=(List.getElem?_eq_some_iff.1 he).1
      rw [List.drop_eq_getElem_cons hlt,(List.getElem?_eq_some_iff.1 he).2]
     rw [hd,Nat.add_comm 1,List.take_succ_cons,runF_take] at hb
     rcases List.mem_cons.1 hb with rfl | hb
     · right
       have:b.toNat=(46:UInt8).toNat:=by have:(46:UInt8).toNat=46:=rfl;omega
       exact UInt8.toNat_inj.1 this
     · exact .inl (mem_takeWhile hb)
 · rw [runF_take] at hb;exact .inl (mem_takeWhile hb)
theorem oneF_num {s:List UInt8} {a:Nat} (hs:s.length≤4096):(oneF s a).1.text.length < 2 ^ 20∧((oneF s a).1.kind=2→(∀ b∈(oneF s a).1.text,isDig b=true∨b=46)∧∀ b r,(oneF s a).1.text=b :: r→isDig b=true):=by
 cases s with
 | nil=>simp [oneF]
 | cons b r =>
   simp only [oneF]
   simp only [List.length_cons] at hs
   split
   · exact ⟨by simp only [List.length_take,List.length_cons];omega,fun h=>by cases h⟩
   · split
     · rename_i hd
       refine ⟨by simp only [List.length_take,List.length_cons];omega,fun _=>⟨numLen_mem _,fun c q hq=>?_⟩⟩
       cases hn:numLen (b :: r) with
       | zero=>rw [hn] at hq;simp at hq
       | succ n=>rw [hn,List.take_succ_cons] at hq;cases hq;exact hd
     · split
       · have:=textF_acc r.length r [] 1 (Nat.le_refl _)
         exact ⟨by simp at this ⊢;omega,fun h=>by cases h⟩
       · exact ⟨by simp only [List.length_take,List.length_cons];omega,fun h=>by cases h⟩
theorem lexF_mem (l:List UInt8) (hl:l.length≤4096):∀ (f a:Nat),∀ t∈(lexF l f a).1,t.text.length < 2 ^ 20∧(t.kind=2→(∀ b∈t.text,isDig b=true∨b=46)∧∀ b r,t.text=b :: r→isDig b=true):=by
 intro f
 induction f with
 | zero=>intro a t h;simp [lexF] at h
 | succ f ih =>
   intro a t h
   simp only [lexF] at h
   split at h
   · split at h
     · simp at h
     · rcases List.mem_cons.1 h with rfl | h
       · exact oneF_num (by simp;omega)
       · exact ih _ t h
   · simp at h
theorem lexF_len (l:List UInt8):∀ (f a:Nat),(lexF l f a).1.length≤f:=by
 intro f
 induction f with
 | zero=>intro a;simp [lexF]
 | succ f ih =>
   intro a
   simp only [lexF]
   split
   · split
     · simp
     · have:=ih (skipN l (a+(oneF (l.drop a) a).2));simp;omega
   · simp
theorem allTok_ok {l:List UInt8}:NumTok (allTok l).1∧(allTok l).1.length≤4097:=by
 unfold allTok
 split
 · exact ⟨fun a t h=>by simp at h,by simp⟩
 · split
   · refine ⟨fun a t h=>?_,?_⟩
     · exact lexF_mem l (by omega) _ _ t (List.mem_of_getElem? h)
     · have:=lexF_len l (l.length+1) (skipN l 0);simp only;omega
   · exact ⟨fun a t h=>by simp at h,by simp⟩
def parseF (s:List UInt8):List Nod × Int:=if (allTok s).2.2≠0 then ([],(allTok s).2.2) else match conO (allTok s).1 0 with
 | none=>([],100)
 | some p=>if p.2≠(allTok s).1.length then ([],100) else if (p.1.length:Int) > 31 then ([],4) else (p.1,0)
theorem conO_nil:conO [] 0=none:=by kernel_rfl
theorem g_parse {H:AHeap} {s:List UInt8} (hg:Pre Gs H) :
  ∃ v K',ACalls prog 17 [str s] H (.tuple #[v,i64 (parseF s).2]) K'∧Pre H K'∧NodesAt K' v (parseF s).1:=by
 have key:∃ v K',(∃ u,v=.tuple #[u,i64 (parseF s).2]∧Pre H K'∧NodesAt K' u (parseF s).1)∧ACalls prog 17 [str s] H v K':=by
  refine acalls_ex MixT func17 (by decide) ?_
  rw [d17]
  obtain ⟨v,K1,⟨lv,rfl,g1,g2⟩,g3⟩:=c_lexAll H s
  refine bndC_of g3 ?_
  obtain ⟨hn,hlen⟩:=allTok_ok (l:=s)
  by_cases he:(allTok s).2.2=0
  · have hp:parseF s=match conO (allTok s).1 0 with
      | none=>([],100)
      | some p=>if p.2≠(allTok s).1.length then ([],100) else if (p.1.length:Int) > 31 then ([],4) else (p.1,0):=by unfold parseF;rw [if_neg (by simpa using he)]
    obtain ⟨u,K2,q1,q2,q3,q4⟩:=g_read (at':=0) (hg.trans g1) hn (by omega) g2
    have hl0:=fun J=>g2.len' (K:=J) (P:=prog) (T:=23) (e:=70) (by simp)
    simp at hl0
    simp [he]
    rw [hp]
    have hr:readF (allTok s).1 0=match conO (allTok s).1 0 with
      | none=>([],0,100)
      | some p=>if (p.1.length:Int) > 31 then ([],0,4) else (p.1,p.2,0):=by
     unfold readF
     by_cases hts:(0:Int) ≥ (allTok s).1.length
     · have:(allTok s).1=[]:=List.eq_nil_of_length_eq_zero (by omega)
       rw [if_pos (.inr hts),this,conO_nil]
     · rw [if_neg (by omega)];rfl
    cases hc:conO (allTok s).1 0 with
    | none =>
      rw [hc] at hr
      rw [hr] at q1 q3 q4
      refine bndC_of q1 ?_
      simp
      exact ⟨g1.trans q2,.nil⟩
    | some p =>
      rw [hc] at hr
      simp only at hr ⊢
      by_cases h31:(p.1.length:Int) > 31
      · rw [if_pos h31] at hr
        rw [hr] at q1 q3 q4
        have h31':(31:Int) < p.1.length:=h31
        refine bndC_of q1 ?_
        simp
        have hrd:RdA K1 (K2++[rdo lv 0 true]) K2.length lv (allTok s).1 0 true:=⟨g2,q2.more _,by obtain ⟨X,hX⟩:=q2;rw [hX];simp,by simp,by omega,by omega⟩
        obtain ⟨v3,K3,r1,r2,ns,r3,_,_⟩:=g_condition (hg.trans g1) hn (by omega) (a:=0) hrd
        obtain ⟨hb2,hb3⟩:=arr_cell g2
        have hb1:=Arr.one g2
        simp only [rdo,show ((0:Nat):Int)=0 from rfl] at r1
        simp [aNew,hb1,hb2,hb3]
        refine bndC_of r1 ?_
        rw [hc] at r2
        have hr2:RdA K1 K3 K2.length lv (allTok s).1 p.2 true:=r2
        have hcc:hcells K3 K2.length=some [lv,i64 p.2,.bool true]:=by rw [hcells_eq,hr2.cell];rfl
        have hll:Vi.hlen K3 K2.length=some 3:=by unfold Vi.hlen;rw [hr2.cell];rfl
        simp [hcc,hll]
        rw [S17x0q]
        simp [hl0]
        by_cases hb:p.2=(allTok s).1.length
        · simp [hb,h31',q4 (by simp)];exact ⟨g1.trans hr2.pre,.nil⟩
        · have hb':((p.2:Int) != (allTok s).1.length)=true:=by simp;omega
          simp [hb,hb'];exact ⟨g1.trans hr2.pre,.nil⟩
      · rw [if_neg h31] at hr
        rw [hr] at q1 q3 q4
        have h31':¬ (31:Int) < p.1.length:=h31
        refine bndC_of q1 ?_
        simp [h31']
        rw [S17x0q]
        simp [hl0]
        by_cases hb:p.2=(allTok s).1.length
        · simp [hb];exact ⟨g1.trans q2,q3⟩
        · have hb':((p.2:Int) != (allTok s).1.length)=true:=by simp;omega
          simp [hb,hb'];exact ⟨g1.trans q2,.nil⟩
  · have hp:parseF s=([],(allTok s).2.2):=by unfold parseF;rw [if_pos he]
    rw [hp]
    have he':((allTok s).2.2 != 0)=true:=by simpa using he
    simp [he']
    exact ⟨g1,.nil⟩
 obtain ⟨v,K',⟨u,rfl,h1,h2⟩,hy⟩:=key
 exact ⟨u,K',hy,h1,h2⟩
end Go.Vi
namespace Go.Vi
open Go Go.Proofs Go.Proofs.Tryz
def andI (k:IntKind) (a b:Int):Int:=k.wrap (BitVec.ofInt k.bits a &&& BitVec.ofInt k.bits b).toNat
def xorI (k:IntKind) (a b:Int):Int:=k.wrap (BitVec.ofInt k.bits a ^^^ BitVec.ofInt k.bits b).toNat
theorem aBin_and {P:Program} {H:AHeap} {T:TypeId} {x y:Operand} {k:IntKind} {a b:Int}:aBin2 P H .and T x y (.int k a) (.int k b)=some (.int k (andI k a b)):=by
 apply aBin2_of
 simp [aBin,clos,isLit,eqGuard,binOp,Op.intBits,pv_pure,andI]
theorem aBin_xor {P:Program} {H:AHeap} {T:TypeId} {x y:Operand} {k:IntKind} {a b:Int}:aBin2 P H .xor T x y (.int k a) (.int k b)=some (.int k (xorI k a b)):=by
 apply aBin2_of
 simp [aBin,clos,isLit,eqGuard,binOp,Op.intBits,pv_pure,xorI]
theorem unV_xor32 {P:Program} {a:Int}:unV P .xor (.int .u32 a)=some (.int .u32 (xorI .u32 4294967295 a)):=by kernel_rfl
def upF (p:Int):Int:=if (andI .u32 p 1 == 1)=true then xorI .u32 (p.fdiv 2) 2197175160 else p.fdiv 2
theorem c_up (H:AHeap) (p:Int):ACalls prog 119 [.int .u32 p] H (.int .u32 (upF p)) H:=by
 refine acalls_pure MixT func119 (by decide) rfl ?_
 rw [d119]
 have e:(2:Int) ^ (min 1 IntKind.u32.bits)=2:=by decide
 simp [aBin_and]
 refine kifB_bool (fun h=>?_) (fun h=>?_)
 · simp [upF,h,aBin_shr,aBin_xor,e]
 · simp [upF,h,aBin_shr,e]
def ups:Nat→Int→Int
 | 0,p=>p
 | n+1,p=>ups n (upF p)
def tabF (i:Nat):Int:=ups 8 i
def tabC (i:Nat):List Value:=(List.range i).map (fun j=>.int .u32 (tabF j))++List.replicate (256-i) (.int .u32 0)
theorem tabC_len {i:Nat} (h:i≤256):(tabC i).length=256:=by simp [tabC];omega
theorem tabC_set {i:Nat} (h:i < 256):(tabC i).set i (.int .u32 (tabF i))=tabC (i+1):=by
 unfold tabC
 rw [List.set_append_right _ _ (by simp),List.length_map,List.length_range,Nat.sub_self,show 256-i=(256-(i+1))+1 by omega,List.replicate_succ,List.set_cons_zero,List.range_succ,List.map_append]
 simp
theorem row_in {k:Value→AHeap→Prop} {H:AHeap} {n0 i:Nat} {pv:Value} (hi:i < 256) (hp:pv=.pointer (some ⟨H.length,0,some 256⟩))
  (hk:∀ (r x y s t u w A a c d f g h l q:Value),L82x0 n0 k [r,pv,x,y,i64 ((i+1:Nat):Int),s,t,u,w,A,a,c,d,f,g,h,l,q] (H++[.cells (tabC (i+1)) 158])) :
  ∀ (n j:Nat) (p:Int) (r s t u w a c d f g h l q:Value),n+j=8→ups n p=tabF i→L82x1 (n+1) n0 k [r,pv,i64 i,.int .u32 p,i64 i,s,t,u,w,i64 j,a,c,d,f,g,h,l,q] (H++[.cells (tabC i) 158]):=by
 intro n
 induction n with
 | zero =>
   intro j p r s t u w a c d f g h l q hj hu
   rw [L82x1q]
   have:¬ j < 8:=by omega
   have hl:hlen (H++[.cells (tabC i) 158]) H.length=some 256:=by simp [tabC_len (Nat.le_of_lt hi)]
   have hia:=aIndexAddr_arr (P:=prog) (H:=H++[.cells (tabC i) 158]) (T:=158) (e:=50) (b:=H.length) (o:=0) (m:=256) (z:=1) (n:=256) (k:=.i64) (i:=i) (by simp) (by simp) hl (by omega) (by omega)
   subst hp
   have w1:IntKind.i64.wrap ((i:Int)+1)=((i+1:Nat):Int):=by rw [wrap_i64 (by omega) (by omega)];omega
   simp only [ups] at hu
   subst hu
   have hge:¬ ((j:Int) < 8):=by omega
   simp [hge,hia,tabC_len (Nat.le_of_lt hi)]
   rw [if_pos (by omega),tabC_set hi]
   simp [w1]
   exact hk _ _ _ _ _ _ _ _ _ _ _ _ _ _ _ _
 | succ n ih =>
   intro j p r s t u w a c d f g h l q hj hu
   rw [L82x1q]
   have hlt:j < 8:=by omega
   have w1:IntKind.i64.wrap ((j:Int)+1)=((j+1:Nat):Int):=by rw [wrap_i64 (by omega) (by omega)];omega
   refine bnd_of (v:=.bool true) (by simp;omega) ?_
   dsimp only
   rw [kifB_true]
   dsimp only
   refine bndC_of (c_up _ p) ?_
   simp [w1]
   rw [show ((j:Int)+1)=((j+1:Nat):Int) by omega]
   exact ih (j+1) _ _ _ _ _ _ _ _ _ _ _ _ _ _ (by omega) hu
theorem alTab (H:AHeap):aAlloc prog H 158=some (.pointer (some ⟨H.length,0,some 256⟩),H++[.cells (tabC 0) 158]):=by kernel_rfl
theorem row_out {k:Value→AHeap→Prop} {H:AHeap} {pv:Value} (hp:pv=.pointer (some ⟨H.length,0,some 256⟩)) (hk:k pv (H++[.cells (tabC 256) 158])) :
  ∀ (n i:Nat) (j l m o p q r s a b c d e f g h:Value),n+i=256→L82x0 (n+1) k [j,pv,l,m,i64 i,o,p,q,r,s,a,b,c,d,e,f,g,h] (H++[.cells (tabC i) 158]):=by
 intro n
 induction n with
 | zero =>
   intro i j l m o p q r s a b c d e f g h hi
   obtain rfl:i=256:=by omega
   rw [L82x0q]
   simp
   exact hk
 | succ n ih =>
   intro i j l m o p q r s a b c d e f g h hi
   have hlt:(i:Int) < 256:=by omega
   rw [L82x0q]
   simp [hlt,convV_int]
   have w:IntKind.u32.wrap (i:Int)=i:=by
    unfold IntKind.wrap
    simp only [show IntKind.u32.bits=32 from rfl,show IntKind.u32.signed=false from rfl]
    simp
    omega
   rw [w]
   exact ⟨_,row_in (n0:=n+1) (i:=i) (by omega) hp (fun j l m o p q r s a b c d e f g h=>ih (i+1) _ _ _ _ _ _ _ _ _ _ _ _ _ _ _ _ (by omega)) 8 0 i _ _ _ _ _ _ _ _ _ _ _ _ _ rfl rfl⟩
def tabV (b:Nat):Value:=.pointer (some ⟨b,0,some 256⟩)
theorem c_row (H:AHeap):ACalls prog 82 [] H (tabV H.length) (H++[.cells (tabC 256) 158]):=by
 refine acalls_of MixT func82 (by decide) ?_
 rw [d82,alTab]
 simp
 exact ⟨_,row_out rfl ⟨rfl,rfl⟩ 256 0 _ _ _ _ _ _ _ _ _ _ _ _ _ _ _ _ rfl⟩
def onF (left:Int) (b:UInt8):Int:=xorI .u32 (tabF (xorI .u8 (IntKind.u8.wrap left) b.toNat).toNat) (left.fdiv 256)
theorem xor8_lt (a:Int) (b:UInt8):0≤xorI .u8 a b.toNat∧xorI .u8 a b.toNat < 256:=by
 unfold xorI IntKind.wrap
 simp only [show IntKind.u8.bits=8 from rfl,show IntKind.u8.signed=false from rfl]
 simp
 omega
theorem tab_at {K:AHeap} {tb:Nat} (h:hcells K tb=some (tabC 256)) {x:Int} (h0:0≤x) (h1:x < 256):∃ p,aIndexAddr prog K 158 (tabV tb) (.int .u8 x)=some p∧aLoad prog K 50 p=some (.int .u32 (tabF x.toNat)):=by
 have hl:hlen K tb=some 256:=by rw [hcells_len h,tabC_len (Nat.le_refl _)]
 refine ⟨_,aIndexAddr_arr (P:=prog) (H:=K) (T:=158) (e:=50) (b:=tb) (o:=0) (m:=256) (z:=1) (n:=256) (k:=.u8) (i:=x) (by simp) (by simp) hl h0 (by omega),?_⟩
 have hc:(tabC 256)[x.toNat]?=some (.int .u32 (tabF x.toNat)):=by
  unfold tabC
  rw [List.getElem?_append_left (by simp;omega),List.getElem?_map,List.getElem?_range (by omega)]
  rfl
 simp [h,hc,tabC_len (Nat.le_refl 256)]
theorem on_loop {H:AHeap} {tb:Nat} {v:Value} {l:List UInt8} {k:Value→AHeap→Prop} (ht:hcells H tb=some (tabC 256)) (ha:Arr H 1 v (l.map fun b=>[byt b])) (hl:l.length < 2 ^ 62) (w:Int) (hk:k (.int .u32 w) H) :
  ∀ (r : List UInt8) (i : Nat) (left : Int) (C D E F G I J a c f g h j m n o s t u y z A B : Value), l.drop i = r → i ≤ l.length → r.foldl onF left = w →
    L83x0 (r.length+1) k [.int .u32 left,tabV tb,C,D,E,F,G,I,J,v,i64 l.length,i64 i,a,c,f,g,h,j,m,n,o,s,t,u,y,z,A,B] H:=by
 intro r
 induction r with
 | nil =>
   intro i left C D E F G I J a c f g h j m n o s t u y z A B hd hi hw
   have hle:l.length≤i:=by simpa using hd
   rw [List.length_nil,L83x0q]
   have:¬ i < l.length:=by omega
   simp only [List.foldl_nil] at hw
   subst hw
   simp [this]
   exact hk
 | cons d r ih =>
   intro i left C D E F G I J a c f g h j m n o s t u y z A B hd hi hw
   have hb:l[i]?=some d:=by rw [← List.head?_drop,hd];rfl
   have hlt:i < l.length:=(List.getElem?_eq_some_iff.1 hb).1
   obtain ⟨q,hp1,hp2⟩:=ha.load1 (P:=prog) (T:=55) (te:=5) (i:=i) (x:=byt d) (by simp) (by simp) (by simp) (by rw [List.getElem?_map,hb];rfl)
   obtain ⟨x1,x2⟩:=xor8_lt (IntKind.u8.wrap left) d
   obtain ⟨p,g1,g2⟩:=tab_at ht x1 x2
   have w1:IntKind.i64.wrap ((i:Int)+1)=((i+1:Nat):Int):=by rw [wrap_i64 (by omega) (by omega)];omega
   have e:(2:Int) ^ (min 8 IntKind.u32.bits)=256:=by decide
   have nv:nilV (tabV tb)=some (tabV tb):=rfl
   rw [List.length_cons,L83x0q]
   simp [hlt,hp1,hp2,convV_int,aBin_xor,g1,g2,aBin_shr,e,w1,nv]
   rw [show ((i:Int)+1)=((i+1:Nat):Int) by omega]
   exact ih (i+1) _ _ _ _ _ _ _ _ _ _ _ _ _ _ _ _ _ _ _ _ _ _ _ _ (by rw [← List.drop_drop,hd];rfl) hlt hw
theorem c_on {H:AHeap} {tb:Nat} {v:Value} {l:List UInt8} {left:Int} (ht:hcells H tb=some (tabC 256)) (ha:Arr H 1 v (l.map fun b=>[byt b])) (hl:l.length < 2 ^ 62):ACalls prog 83 [.int .u32 left,tabV tb,v] H (.int .u32 (l.foldl onF left)) H:=by
 refine acalls_pure MixT func83 (by decide) rfl ?_
 rw [d83]
 have hlen:=ha.len (P:=prog) (T:=55) (e:=5) (by simp)
 simp at hlen
 simp [hlen]
 exact ⟨_,on_loop ht ha hl _ ⟨rfl,[],by simp⟩ l 0 left _ _ _ _ _ _ _ _ _ _ _ _ _ _ _ _ _ _ _ _ _ _ _ rfl (by omega) rfl⟩
def crcF (l:List UInt8):Int:=xorI .u32 4294967295 (l.foldl onF 4294967295)
theorem c_of {H:AHeap} {v:Value} {l:List UInt8} (ha:Arr (H++[.cells [v] 55]) 1 v (l.map fun b=>[byt b])) (_hone:v.oneCell'=true) (hl:l.length < 2 ^ 62):ACalls prog 48 [.slice (some ⟨H.length,0,some 1⟩) 1 1] (H++[.cells [v] 55]) (.int .u32 (crcF l)) (H++[.cells [v] 55]):=by
 refine acalls_pure MixT func48 (by decide) rfl ?_
 rw [d48]
 refine bndC_of (c_row _) ?_
 simp
 refine ⟨2,?_⟩
 have hpv:Arr (H++[.cells [v] 55]) 1 (.slice (some ⟨H.length,0,some 1⟩) 1 1) [[v]]:=by
  refine .mk H.length 0 1 1 1 [v] _ rfl (by simp) rfl (by omega) fun i e hi=>?_
  cases i with
  | zero=>simp at hi;subst hi;rfl
  | succ i=>simp at hi
 have hX:=hpv.pre (.app _ [AObj.cells (tabC 256) 158])
 obtain ⟨q,hq1,hq2⟩:=hX.load1 (P:=prog) (T:=122) (te:=55) (i:=0) (x:=v) (by simp) (by simp) (by simp) rfl
 have ht:hcells (H++[.cells [v] 55]++[.cells (tabC 256) 158]) (H++[AObj.cells [v] 55]).length=some (tabC 256):=by simp
 rw [L48x0q]
 simp at hq1 hq2
 simp [hq1,hq2]
 have ht2:hcells (H++[.cells [v] 55,.cells (tabC 256) 158]) (H.length+1)=some (tabC 256):=by simp
 have haX:=ha.pre (.app _ [AObj.cells (tabC 256) 158])
 rw [List.append_assoc] at haX
 refine bndC_of (c_on (left:=4294967295) ht2 haX hl) ?_
 simp
 rw [L48x0q]
 simp [unV_xor32,crcF,show IntKind.i64.wrap 1=1 by decide]
theorem c_sum {H:AHeap} {v:Value} {l:List UInt8} (ha:Arr H 1 v (l.map fun b=>[byt b])) (hl:l.length < 2 ^ 62):ACalls prog 27 [v] H (.int .u32 (crcF l)) H:=by
 refine acalls_pure MixT func27 (by decide) rfl ?_
 rw [d27]
 have hone:=ha.one
 have hlit:sliceLit prog H 122 1 [(0,v)] (.slice (some ⟨H.length,0,some 1⟩) 1 1) (H++[.cells [v] 55]):=sliceLit1 (l:=[v]) (tbs122 H 1 _) (by simp [hone]) rfl (by decide)
 refine bndL_lit hlit ?_
 refine bndC_of (c_of (l:=l) (ha.pre (.app H _)) hone hl) ?_
 simp
end Go.Vi
namespace Go.Vi
open Go Go.Proofs
def tA:List UInt8:=[99,111,117,110,116,40,123,125,91,53,93,41,32,62,32,51]
def tZ:List UInt8:=[99,111,117,110,116,40,123,125,91,48,93,41,32,62,32,49]
def tB:List UInt8:=tA++[32,97,110,100]
def tS:List UInt8:=[110,111,116,32,40]++tA++[32,111,114,32]++tA++[41,32,97,110,100,32]++tA
def nA:Nod:=cmpNod 0 5 2 3000
def nS:List Nod:=[nA,nA,⟨2,0,[],0,0,0,0,1⟩,⟨3,0,[],0,0,0,2,0⟩,nA,⟨1,0,[],0,0,0,3,4⟩]
theorem pA:parseF tA=([nA],0):=by kernel_rfl
theorem pS:parseF tS=(nS,0):=by kernel_rfl
theorem pB:(parseF tB).2=100∧(parseF tZ).2=100:=⟨by kernel_rfl,by kernel_rfl⟩
end Go.Vi
namespace Go.Vi
open Go Go.Proofs Go.Proofs.Tryz
structure Rul where
 name:List UInt8
 byL:List UInt8
 nodes:List Nod
 forM:Int
 every:Int
 repeatM:Int
 mutes:List (List UInt8)
 route:List UInt8
def Rul.cells (r:Rul) (nv mv:Value):List Value:=[str r.name,str r.byL,nv,i64 r.forM,i64 r.every,i64 r.repeatM,mv,str r.route]
def Rul.fit (r:Rul):Prop:=-9223372036854775808≤r.forM∧r.forM < 9223372036854775808∧-9223372036854775808≤r.every∧r.every < 9223372036854775808
structure RulAt (H:AHeap) (r:Rul) (nv mv:Value):Prop where
 nodes:NodesAt H nv r.nodes
 mutes:Arr H 1 mv (strCells r.mutes)
 fit:r.fit
 mlen:r.mutes.length < 2 ^ 63
theorem RulAt.pre {H K r nv mv} (h:RulAt H r nv mv) (p:Pre H K):RulAt K r nv mv:=⟨h.nodes.pre p,h.mutes.pre p,h.fit,h.mlen⟩
theorem RulAt.o1 {H r nv mv} (h:RulAt H r nv mv):nv.oneCell'=true:=by obtain ⟨_,h,_⟩:=h.nodes;exact h.one
theorem RulAt.o2 {H r nv mv} (h:RulAt H r nv mv):mv.oneCell'=true:=h.mutes.one
def RulesAt (H:AHeap) (v:Value) (rs:List Rul):Prop:=∃ cl:List (List Value),Arr H 8 v cl∧cl.length=rs.length∧∀ (i:Nat) r,rs[i]?=some r→∃ nv mv,cl[i]?=some (r.cells nv mv)∧RulAt H r nv mv
theorem RulesAt.pre {H K v rs} (h:RulesAt H v rs) (p:Pre H K):RulesAt K v rs:=by
 obtain ⟨cl,h1,h2,h3⟩:=h
 refine ⟨cl,h1.pre p,h2,fun i r hi=>?_⟩
 obtain ⟨nv,mv,q1,q2⟩:=h3 i r hi
 exact ⟨nv,mv,q1,q2.pre p⟩
theorem RulesAt.lenR {H v rs} (h:RulesAt H v rs) (K:AHeap):aLen prog K 46 v=some (i64 rs.length):=by
 obtain ⟨cl,h1,h2,_⟩:=h
 rw [← h2]
 exact h1.len' (e:=44) (by simp)
theorem RulesAt.one {H v rs} (h:RulesAt H v rs):v.oneCell'=true:=by obtain ⟨_,h,_⟩:=h;exact h.one
theorem RulesAt.at {H v rs} (h:RulesAt H v rs) {i:Nat} {r:Rul} (hi:rs[i]?=some r):∃ nv mv,RulAt H r nv mv∧∃ p,aIndexAddr prog H 46 v (i64 i)=some p∧aLoad prog H 44 p=some (.agg (r.cells nv mv).toArray):=by
 obtain ⟨cl,h1,h2,h3⟩:=h
 obtain ⟨nv,mv,q1,q2⟩:=h3 i r hi
 exact ⟨nv,mv,q2,h1.load (P:=prog) (T:=46) (te:=44) (by simp) (by simp) (by simp) q1⟩
def fTxt (r:Rul):List UInt8:=joinS [32] [r.byL,fmtS r.forM,fmtS r.every,printS r.nodes]
def fingF (r:Rul):Int:=if 1 > crcF (fTxt r) then 1 else crcF (fTxt r)
theorem print_len (ns:List Nod):(printS ns).length≤2 ^ 41:=by
 unfold printS
 split
 · rename_i h
   obtain ⟨h1,h2,h3⟩:=right_WF h
   have:=txt_len ns _ _ 0 h3
   have hp:2 ^ (ns.length+10)≤2 ^ 41:=Nat.pow_le_pow_right (by omega) (by omega)
   omega
 · simp
theorem fTxt_eq (r:Rul):fTxt r=r.byL++[32]++fmtS r.forM++[32]++fmtS r.every++[32]++printS r.nodes:=by simp [fTxt,joinS]
def sbB (l:List UInt8):AObj:=sbO 5 ⟨l.toArray⟩
theorem bytes_b (l:List UInt8):bytesL ⟨l.toArray⟩=bcells l:=by simp [bytesL,bcells]
@[simp] theorem rcells_sbB (l:List UInt8):(sbB l).rcells=some (bcells l):=by simp [sbB,bytes_b]
@[simp] theorem len_sbB (l:List UInt8):(sbB l).len=some l.length:=by rw [sbB,len_sbO];rfl
theorem aConv_sb (H:AHeap) (l:List UInt8):aConv prog H 9 55 (str l)=some (.slice (some ⟨H.length,0,some l.length⟩) l.length l.length,H++[sbB l]):=by
 have hs:(⟨l.toArray⟩:ByteArray).size=l.length:=rfl
 have hu:isU8 prog 5=true:=by kernel_rfl
 simp [aConv,hu,hs,sbB]
theorem roArr (H:AHeap) (l:List UInt8):Arr (H++[sbB l]) 1 (.slice (some ⟨H.length,0,some l.length⟩) l.length l.length) (l.map fun b=>[byt b]):=by
 refine .mk H.length 0 _ _ _ (bcells l) _ (by simp) (by simp [hcells_eq]) (by simp [bcells]) (by simp) fun i e hi=>?_
 simp only [List.getElem?_map,Option.map_eq_some_iff] at hi
 obtain ⟨b,h1,rfl⟩:=hi
 have hlt:=(List.getElem?_eq_some_iff.1 h1).1
 rw [Nat.zero_add,Nat.mul_one,bcells,← List.map_drop,List.drop_eq_getElem_cons hlt,List.map_cons,List.take_succ_cons,List.take_zero,(List.getElem?_eq_some_iff.1 h1).2]
theorem fmt_len {n:Int} (h1:-9223372036854775808≤n) (h2:n < 9223372036854775808):(fmtS n).length≤2 ^ 20:=by
 have h:=natS_len (n:=n.natAbs) (by omega)
 unfold fmtS
 split
 · simp;omega
 · omega
set_option maxRecDepth 20000 in
theorem c_finger {H:AHeap} {r:Rul} {nv mv:Value} (hg:Pw H) (hr:RulAt H r nv mv) (hby:r.byL.length≤2 ^ 20):ACalls prog 25 [.agg (r.cells nv mv).toArray] H (.int .u32 (fingF r)) H:=by
 refine acalls_pure MixT func25 (by decide) rfl ?_
 rw [d25]
 have h1:=hr.o1
 have h2:=hr.o2
 obtain ⟨f1,f2,f3,f4⟩:=hr.fit
 have hgX:=hg.trans (.app H [AObj.cells (r.cells nv mv) 44])
 have hrX:=hr.pre (.app H [AObj.cells (r.cells nv mv) 44])
 have hnew:aNew H 44 (.agg (r.cells nv mv).toArray)=some (.pointer (some ⟨H.length,0,some 8⟩),H++[.cells (r.cells nv mv) 44]):=by simp [aNew_agg,Rul.cells,h1,h2]
 rw [hnew]
 simp only [bndE_some]
 obtain ⟨K,hK⟩:∃ K,K=H++[.cells (r.cells nv mv) 44]:=⟨_,rfl⟩
 have g1:hcells K H.length=some (r.cells nv mv):=by rw [hK];simp
 have g2:hlen K H.length=some 8:=by rw [hK];simp [Rul.cells]
 have hKp:Pre H K:=by rw [hK];exact .app _ _
 rw [← hK] at hgX hrX ⊢
 simp only [Rul.cells] at g1
 simp [g1,g2]
 refine bndD_same (c_itoa hgX f1 f2) ?_
 simp [g1,g2]
 refine bndD_same (c_itoa hgX f3 f4) ?_
 simp [g1,g2]
 refine bndD_same (c_exprPrint hgX hrX.nodes) ?_
 have hlit:sliceLit prog K 42 4 [(0,str r.byL),(1,str (fmtS r.forM)),(2,str (fmtS r.every)),(3,str (printS r.nodes))] (.slice (some ⟨K.length,0,some 4⟩) 4 4) (K++[.cells ([r.byL,fmtS r.forM,fmtS r.every,printS r.nodes].map str) 9]) :=
  strs_lit (l:=[r.byL,fmtS r.forM,fmtS r.every,printS r.nodes]) (tbs42 K 4 _) rfl (by decide)
 refine bndD_of (v:=_) (H':=_) hlit (.inl rfl) ?_
 have hparts:Parts (K++[.cells ([r.byL,fmtS r.forM,fmtS r.every,printS r.nodes].map str) 9]) (.slice (some ⟨K.length,0,some 4⟩) 4 4) [r.byL,fmtS r.forM,fmtS r.every,printS r.nodes]:=.mk K.length [r.byL,fmtS r.forM,fmtS r.every,printS r.nodes] (by simp)
 have l1:=fmt_len f1 f2
 have l2:=fmt_len f3 f4
 have l3:=print_len r.nodes
 have hfl:(fTxt r).length≤2 ^ 42:=by rw [fTxt_eq];simp;omega
 refine bndD_same (c_join hparts (by have : (fTxt r).length ≤ 2 ^ 46 := by omega
                                     exact this) (by simp) (by simp) (fun _=>join_ne (.inl (by simp)))) ?_
 dsimp only
 rw [aConv_sb]
 simp only [bndE_some]
 refine bndC_of (c_sum (roArr _ (fTxt r)) (by omega)) ?_
 simp
 refine ⟨rfl,?_⟩
 rw [hK]
 exact ⟨_,by rw [List.append_assoc]⟩
end Go.Vi
namespace Go.Vi
open Go Go.Proofs Go.ChangeShapes Go.RowKit Go.Proofs.Tryz
theorem ce_strs:prog.cellsOf 42=1:=by kernel_rfl
theorem ce_nodes:prog.cellsOf 27=1:=by kernel_rfl
theorem ce_rule:prog.cellsOf 44=8:=by kernel_rfl
abbrev parts_rule1:List (TypeId × Nat):=[(9,0),(9,1),(27,2),(3,3),(3,4),(3,5),(42,6),(9,7)]
section
variable {H:AHeap} {f:Nat} {v:Value} {cs:List Value}
theorem rd_strs (h:Rd prog H (f+2) 42 [v]):∃ l,Arr H 1 v (strCells l)∧l.length < 2 ^ 63:=by
 obtain ⟨v',l,h1,h2,h3,h4⟩:=h.slice underlying42
 cases h1
 rw [ce_str] at h2
 obtain ⟨ms,rfl⟩:=map_ex (g:=fun s:List UInt8=>[Vi.str s]) fun x hx=>by
  obtain ⟨s,e,_⟩:=(h4 x hx).str underlying9
  exact ⟨s,e⟩
 exact ⟨ms,h2,by simpa using max_lt h3⟩
theorem word_fit {n:Int} (h:(Lit.int .i64 n).wf=true):-9223372036854775808≤n∧n < 9223372036854775808:=by
 have e1:IntKind.i64.min = -9223372036854775808:=by decide
 have e2:IntKind.i64.max=9223372036854775807:=by decide
 simp only [Lit.wf,Bool.and_eq_true,decide_eq_true_eq,e1,e2] at h
 omega
theorem rd_rule (h:Rd prog H (f+6) 44 cs):∃ (r:Rul) (nv mv:Value),cs=r.cells nv mv∧RulAt H r nv mv:=by
 obtain ⟨hl,hp⟩:=h.parts (ps:=parts_rule1) (by kernel_rfl)
 rw [ce_rule] at hl
 obtain ⟨x0,x1,x2,x3,x4,x5,x6,x7,rfl⟩:=len8 hl
 simp only [parts_rule1,List.forall_mem_cons,ce_str,ce_int,ce_nodes,ce_strs] at hp
 obtain ⟨h0,h1,h2,h3,h4,h5,h6,h7,_⟩:=hp
 obtain ⟨b0,e0,_⟩:=h0.str underlying9
 obtain ⟨b1,e1,_⟩:=h1.str underlying9
 obtain ⟨ns,e2,_⟩:=rd_nodes h2
 obtain ⟨b3,e3,w3⟩:=h3.int underlying3
 obtain ⟨b4,e4,w4⟩:=h4.int underlying3
 obtain ⟨b5,e5,_⟩:=h5.int underlying3
 obtain ⟨ms,e6,e6'⟩:=rd_strs h6
 obtain ⟨b7,e7,_⟩:=h7.str underlying9
 simp at e0 e1 e3 e4 e5 e7
 refine ⟨⟨b0,b1,ns,b3,b4,b5,ms,b7⟩,x2,x6,by simp [Rul.cells,e0,e1,e3,e4,e5,e7],e2,e6,?_,e6'⟩
 exact ⟨(word_fit w3).1,(word_fit w3).2,(word_fit w4).1,(word_fit w4).2⟩
theorem rd_rule1 (h:Rd prog H (f+6) 44 cs):∃ x:Rul × Value × Value,cs=x.1.cells x.2.1 x.2.2∧RulAt H x.1 x.2.1 x.2.2:=by
 obtain ⟨r,nv,mv,h1,h2⟩:=rd_rule h
 exact ⟨⟨r,nv,mv⟩,h1,h2⟩
end
end Go.Vi
namespace Go.Proofs.YtpkdgmcfojjfjaaGreatDoor
open Go Go.Vi Go.ChangeShapes Go.WideShapes Go.RowKit Go.Proofs Go.Proofs.Tryz
theorem own:ownKnob prog.godebug=none:=by kernel_rfl
theorem laidOut:laidOutB prog=true:=by kernel_rfl
end Go.Proofs.YtpkdgmcfojjfjaaGreatDoor
namespace Go.Vi
open Go Go.RowKit Go.ChangeShapes Go.WideShapes Go.Proofs Go.Proofs.Tryz
variable {P:Program}
theorem WRel.pushGl {w0 s H w} (h:WRel w0 s H w) (hn:NoOwn H) (cs:List Value) (g:Nat) (ho:One cs) (hg:g < w.heap.size)
  (hv:∀ (i:Nat) v,cs[i]?=some v→∃ v',w.cell? ⟨g,i,none⟩=some v'∧VRel s H v v') :
  WRel w0 (upd s H.length ⟨g,0,0⟩) (H++[.gl g cs]) w∧NoOwn (H++[.gl g cs]):=by
 have e:=Ext.push s H (.gl g cs) ⟨g,0,0⟩
 have hno:NoOwn (H++[.gl g cs]):=by
  intro b o hb
  rcases getElem_append_old hb with ⟨_,h1⟩ | ⟨_,rfl⟩
  · exact hn b o h1
  · rfl
 refine ⟨⟨⟨fun b x hx=>?_,fun b b' o o' hb hb' _ ho1 _=>?_⟩,h.b,h.o.push _ (by rintro _ ⟨rfl⟩;exact ho)⟩,hno⟩
 · rcases getElem_append_old hx with ⟨hb,hx'⟩ | ⟨rfl,rfl⟩
   · exact (h.h.obj b x hx').keep e (fun _=>upd_ne _ _ (by omega)) (fun _ _=>rfl)
   · refine ⟨by rw [upd_self],by rw [upd_self],hg,fun i v hi=>?_⟩
     obtain ⟨v',h1,h2⟩:=hv i v hi
     exact ⟨v',h1,h2.mono e⟩
 · rw [hno b o hb] at ho1;cases ho1
theorem var_cell {w:World} {n:String} {g:Nat} {cs:Array Value} (hg:P.globalNamed n=some g) (h:w.var? P n=some cs):∀ (i:Nat) v,cs[i]?=some v→g < w.heap.size∧w.cell? ⟨g,i,none⟩=some v:=by
 intro i v hi
 unfold World.var? at h
 rw [hg] at h
 simp only [Option.bind_some] at h
 split at h
 · rename_i q
   cases h
   refine ⟨(Array.getElem?_eq_some_iff.1 q).1,?_⟩
   unfold World.cell?
   simp [q,hi]
 · cases h
theorem trod_if {D:Type} {enc:TypeId × Value→D} {w:World} {sp:Nat→Bool} {held:Bool} {base fuel:Nat} {t:TypeId} {cs:List Value} {x} {ms} (ht:P.underlying t=some (.interface ms)) (h:DataW.trod enc P w base sp held fuel t cs=some x):∃ v,cs=[v]∧v.oneCell'=true:=by
 cases fuel with
 | zero=>simp [DataW.trod] at h
 | succ n =>
   unfold DataW.trod at h
   rw [ht] at h
   split at h
   all_goals first
    | exact ⟨_,rfl,rfl⟩
    | (exfalso;simp_all;done)
    | simp_all
theorem laid_find {w:World} {n:String} {d:DataW Unit}:∀ {l:List (String × DataW Unit)} {ps},DataW.LaidVars P w l ps→(n,d)∈l→∃ g t cs fuel p,P.globalNamed n=some g∧(P.globals[g]?).map (·.type)=some t∧w.var? P n=some cs∧DataW.trod (fun _=>()) P w 0 (fun _=>true) false fuel t cs.toList=some (d,p):=by
 intro l
 induction l with
 | nil=>intro ps _ h;simp at h
 | cons x r ih =>
   intro ps h hm
   obtain ⟨m,e⟩:=x
   obtain ⟨g,t,cs,fuel,p,q,h1,h2,h3,h4,h5,_⟩:=h
   rcases List.mem_cons.1 hm with hx | hm
   · cases hx
     exact ⟨g,t,cs,fuel,p,h1,h2,h3,h4⟩
   · exact ih h5 hm
theorem start_gs {w : World} {l : List (String × DataW Unit)} (h : laidMetH prog l w) (h1 : ∃ d, ("strconv.ErrSyntax", d) ∈ l.filter fun x => x.2.handleName?.isNone) (h2 : ∃ d, ("strconv.ErrRange", d) ∈ l.filter fun x => x.2.handleName?.isNone)
  (h3 : ("internal/strconv.uint64pow10", DataW.agg ((List.range 20).map fun i => .lit (.int .u64 (10 ^ i)))) ∈ l.filter fun x => x.2.handleName?.isNone) : ∃ s, Got prog w (fun _ => ⟨0, 0, 0⟩) [] s Gs := by
 obtain ⟨ps,hl,_,_⟩:laidMet prog (l.filter fun x=>x.2.handleName?.isNone) w:=(laidMetH_iff.1 h).1
 obtain ⟨d1,m1⟩:=h1
 obtain ⟨d2,m2⟩:=h2
 obtain ⟨g1,t1,c1,f1,p1,a1,b1,v1,r1⟩:=laid_find hl m1
 obtain ⟨g2,t2,c2,f2,p2,a2,b2,v2,r2⟩:=laid_find hl m2
 obtain ⟨g3,t3,c3,f3,p3,a3,b3,v3,r3⟩:=laid_find hl h3
 obtain rfl : 2 = g1 := Option.some.inj ((show prog.globalNamed "strconv.ErrSyntax" = some 2 by kernel_rfl).symm.trans a1)
 obtain rfl : 3 = g2 := Option.some.inj ((show prog.globalNamed "strconv.ErrRange" = some 3 by kernel_rfl).symm.trans a2)
 obtain rfl : 1 = g3 := Option.some.inj ((show prog.globalNamed "internal/strconv.uint64pow10" = some 1 by kernel_rfl).symm.trans a3)
 obtain rfl:118=t1:=Option.some.inj ((show (prog.globals[2]?).map (·.type)=some 118 by kernel_rfl).symm.trans b1)
 obtain rfl:118=t2:=Option.some.inj ((show (prog.globals[3]?).map (·.type)=some 118 by kernel_rfl).symm.trans b2)
 obtain rfl:200=t3:=Option.some.inj ((show (prog.globals[1]?).map (·.type)=some 200 by kernel_rfl).symm.trans b3)
 obtain ⟨x1,e1,o1⟩:=trod_if underlying118 r1
 obtain ⟨x2,e2,o2⟩:=trod_if underlying118 r2
 obtain ⟨xs,m,_,q1,q2,q3,q4⟩:=DataW.trod_array underlying200 r3
 have hc1:=var_cell a1 v1 0 x1 (by rw [← Array.getElem?_toList,e1];rfl)
 have hc2:=var_cell a2 v2 0 x2 (by rw [← Array.getElem?_toList,e2];rfl)
 have k3:∀ i:Nat,i < 20→c3[i]?=some (.int .u64 (10 ^ i)):=by
  intro i hi
  have h4:=q4 i hi
  rw [show prog.cellsOf 178=1 by kernel_rfl,Nat.mul_one] at h4
  rw [List.getElem?_eq_getElem (by omega)] at h4
  obtain ⟨n,z1,z2,_⟩:=DataW.trod_int underlying178 h4
  have hq:(List.range 20).map (fun i=>(DataW.lit (.int .u64 (10 ^ i)):DataW Unit))=xs.map (·.1):=by
   have:=congrArg Prod.fst q1
   simpa using this
  have hqi:=congrArg (fun l=>l[i]?) hq
  simp only [List.getElem?_map,List.getElem?_eq_getElem (show i < xs.length by omega),List.getElem?_range hi,Option.map_some,z2] at hqi
  injection hqi with e
  injection e with e
  injection e with _ e
  rw [← e] at z1
  have:(List.take 1 (List.drop i c3.toList))[0]?=some (Value.int .u64 (10 ^ i)):=by rw [z1];rfl
  rw [List.getElem?_take_of_lt (by omega),List.getElem?_drop,Nat.add_zero] at this
  rw [← Array.getElem?_toList]
  exact this
 have W0:WRel w (fun _=>⟨0,0,0⟩) [] w:=WRel.refl w _
 obtain ⟨W1,N1⟩:=W0.pushGl NoOwn.nil [unkV] 2 (fun v hv=>by simp at hv;subst hv;rfl) hc1.1 (fun i v hi=>by
  cases i with
  | zero=>simp at hi;subst hi;exact ⟨x1,hc1.2,.unk _ o1⟩
  | succ i=>simp at hi)
 obtain ⟨W2,N2⟩:=W1.pushGl N1 [unkV] 3 (fun v hv=>by simp at hv;subst hv;rfl) hc2.1 (fun i v hi=>by
  cases i with
  | zero=>simp at hi;subst hi;exact ⟨x2,hc2.2,.unk _ o2⟩
  | succ i=>simp at hi)
 have hc3:=fun (i:Nat) (hi:i < 20)=>var_cell a3 v3 i _ (k3 i hi)
 obtain ⟨W3,N3⟩:=W2.pushGl N2 pow10s 1 (fun v hv=>by
  simp only [pow10s,List.mem_map] at hv
  obtain ⟨i,_,rfl⟩:=hv
  rfl) (hc3 0 (by omega)).1 (fun i v hi=>by
  simp only [pow10s,List.getElem?_map,Option.map_eq_some_iff] at hi
  obtain ⟨j,hj,rfl⟩:=hi
  have hij:=List.getElem?_eq_some_iff.1 hj
  obtain ⟨hlt,rfl⟩:=hij
  simp only [List.length_range] at hlt
  simp only [List.getElem_range]
  exact ⟨_,(hc3 i hlt).2,.lit _ rfl⟩)
 exact ⟨_,W3,N3,((Ext.push _ _ _ _).trans (Ext.push _ _ _ _)).trans (Ext.push _ _ _ _),⟨Gs,rfl⟩⟩
end Go.Vi
namespace Go.Vi
open Go Go.Proofs Go.Proofs.Tryz
def nCells (l:List Int):List (List Value):=l.map fun x=>[.int .u32 x]
theorem uel1:aElem prog 58=some (50,1,4):=by kernel_rfl
theorem uel2:isSeq prog 58=true:=by kernel_rfl
def fine (rs:List Rul):Prop:=∀ r∈rs,r.byL.length≤2 ^ 20
theorem rule_new {K:AHeap} {r:Rul} {nv mv:Value} (h1:nv.oneCell'=true) (h2:mv.oneCell'=true) :
  aStore prog (K++[.cells [.string ⟨#[]⟩,.string ⟨#[]⟩,.slice none 0 0,.int .i64 0,.int .i64 0,.int .i64 0,.slice none 0 0,.string ⟨#[]⟩] 44]) 44 (.pointer (some ⟨K.length,0,some 8⟩)) (.agg (r.cells nv mv).toArray)=some (K++[.cells (r.cells nv mv) 44]):=by simp [Rul.cells,h1,h2]
theorem rule_get {K:AHeap} {b:Nat} {cs:List Value} (h:hcells K b=some cs) (hl:cs.length=8):aLoad prog K 44 (.pointer (some ⟨b,0,some 8⟩))=some (.agg cs.toArray):=by
 simp [h,hl,List.take_of_length_le]
theorem all_loop {H:AHeap} {v:Value} {rs:List Rul} {k:Value→AHeap→Prop} (hg:Pw H) (hv:RulesAt H v rs) (hl:rs.length≤2 ^ 20) (hf:fine rs) (hk:∀ K ov,Pre H K→Gro K H.length 1 50 ov (nCells (rs.map fingF))→k ov K) :
  ∀ (n i : Nat) (K : AHeap) (ov : Value) (o q s t u w a b d e f g h j m : Value), n + i = rs.length → Pre H K → Gro K H.length 1 50 ov (nCells ((rs.take i).map fingF)) →
    L28x0 (n+1) k [o,q,s,ov,t,u,v,i64 rs.length,i64 i,w,a,b,d,e,f,g,h,j,m] K:=by
 intro n
 induction n with
 | zero =>
   intro i K ov o q s t u w a b d e f g h j m hi hp ho
   rw [L28x0q]
   have:¬ i < rs.length:=by omega
   rw [List.take_of_length_le (by omega)] at ho
   simp [this]
   exact hk K ov hp ho
 | succ n ih =>
   intro i K ov o q s t u w a b d e f g h j m hi hp ho
   have hlt:i < rs.length:=by omega
   rw [L28x0q]
   obtain ⟨r,hr⟩:∃ r,rs[i]?=some r:=⟨_,List.getElem?_eq_getElem hlt⟩
   obtain ⟨nv,mv,ra,p,p1,p2⟩:=(hv.pre hp).at hr
   have w1:IntKind.i64.wrap ((i:Int)+1)=((i+1:Nat):Int):=by rw [wrap_i64 (by omega) (by omega)];omega
   refine bnd_of (v:=.bool true) (by simp [hlt]) ?_
   dsimp only
   rw [kifB_true]
   dsimp only
   refine bnd_of p1 ?_
   refine bnd_of p2 ?_
   dsimp only
   simp only [tal44,bndE_some]
   rw [rule_new ra.o1 ra.o2]
   simp only [bndS_some]
   refine bnd_of (rule_get (cs:=r.cells nv mv) (by simp) rfl) ?_
   have hK1:Pre H (K++[.cells (r.cells nv mv) 44]):=hp.more _
   refine bndC_of (c_finger (hg.trans hK1) (ra.pre (.app K _)) (hf r (List.mem_of_getElem? hr))) ?_
   have hlit:sliceLit prog (K++[.cells (r.cells nv mv) 44]) 58 1 [(0,.int .u32 (fingF r))] (.slice (some ⟨(K++[AObj.cells (r.cells nv mv) 44]).length,0,some 1⟩) 1 1) (K++[.cells (r.cells nv mv) 44]++[.cells [.int .u32 (fingF r)] 50]) :=
    sliceLit1 (l:=[.int .u32 (fingF r)]) (tbs58 _ 1 _) (by simp) rfl (by decide)
   refine bndL_lit hlit ?_
   dsimp only
   obtain ⟨v',K',g1,g2,g3,g4,g5⟩:=Gro.push (P:=prog) (K:=K++[.cells (r.cells nv mv) 44]++[.cells [.int .u32 (fingF r)] 50]) (lo:=H.length) (Ts:=58) (by_:=4) (x:=.slice (some ⟨(K++[AObj.cells (r.cells nv mv) 44]).length,0,some 1⟩) 1 1) (c:=[.int .u32 (fingF r)]) (ho.app.app) uel1 uel2 rfl
    (by obtain ⟨X,rfl⟩:=hp;simp) (by simp [aSrc]) (by simp [nCells];omega) (by simp [nCells];omega)
   rw [g1]
   simp only [bndE_some]
   refine bnd_of (v:=i64 ((i+1:Nat):Int)) (by simp [w1]) ?_
   dsimp only
   refine ih (i+1) K' v' _ _ _ _ _ _ _ _ _ _ _ _ _ _ _ (by omega) (g5 H ((hp.more _).more _) (Nat.le_refl _)) ?_
   rw [List.take_add_one,hr]
   simpa [nCells] using g2
theorem c_all {H:AHeap} {v:Value} {rs:List Rul} (hg:Pw H) (hv:RulesAt H v rs) (hl:rs.length≤2 ^ 20) (hf:fine rs) :
  ∃ ov K,ACalls prog 28 [v] H ov K∧Pre H K∧Gro K H.length 1 50 ov (nCells (rs.map fingF)):=by
 obtain ⟨u,K,⟨h1,h2⟩,h3⟩:∃ ov K,(Pre H K∧Gro K H.length 1 50 ov (nCells (rs.map fingF)))∧ACalls prog 28 [v] H ov K:=by
  refine acalls_ex MixT func28 (by decide) ?_
  rw [d28]
  have:=hv.lenR H
  simp [this]
  exact ⟨_,all_loop hg hv hl hf (fun K ov p g=>⟨p,g⟩) rs.length 0 H _ _ _ _ _ _ _ _ _ _ _ _ _ _ _ _ rfl (.refl H) .nil⟩
 exact ⟨u,K,h3,h1,h2⟩
def NMap:List (Value × Value)→List Int→Prop
 | [],[]=>True
 | e :: es,k :: ks=>e.1=.int .u32 k∧(∃ n,e.2=i64 n)∧NMap es ks
 | _,_=>False
theorem NMap.len:∀ {es ks},NMap es ks→es.length=ks.length:=by
 intro es
 induction es with
 | nil => intro ks h; cases ks with
   | nil=>rfl
   | cons=>cases h
 | cons e es ih => intro ks h; cases ks with
   | nil=>cases h
   | cons k ks=>simp [ih h.2.2]
theorem NMap.ok:∀ {es ks},NMap es ks→mOk (.int .u32) es=true:=by
 intro es
 induction es with
 | nil=>intro ks _;rfl
 | cons e es ih => intro ks h; cases ks with
   | nil=>cases h
   | cons k ks =>
     have:=ih h.2.2
     unfold mOk at this ⊢
     rw [List.all_cons,this,h.1]
     rfl
theorem NMap.find {k:Int}:∀ {es ks},NMap es ks→(k∈ks∧∃ j n,mfind (.int .u32 k) es=some j∧es[j]?=some (.int .u32 k,i64 n))∨(k ∉ ks∧mfind (.int .u32 k) es=none):=by
 intro es
 induction es with
 | nil => intro ks h; cases ks with
   | nil=>exact .inr ⟨by simp,rfl⟩
   | cons=>cases h
 | cons e es ih => intro ks h; cases ks with
   | nil=>cases h
   | cons k' ks =>
     obtain ⟨e1,e2⟩:=e
     obtain ⟨h1,⟨n,h2⟩,h3⟩:=h
     simp only at h1 h2
     subst h1 h2
     simp only [mfind,keyEq,beq_self_eq_true,Bool.true_and,beq_iff_eq]
     by_cases hk:k=k'
     · subst hk
       exact .inl ⟨by simp,0,n,by simp,rfl⟩
     · rcases ih h3 with ⟨g1,j,v,g2,g3⟩ | ⟨g1,g2⟩
       · exact .inl ⟨by simp [g1],j+1,v,by simp [hk,g2],by simpa using g3⟩
       · exact .inr ⟨by simp [hk,g1],by simp [hk,g2]⟩
theorem NMap.get {k:Int} {es ks} (h:NMap es ks):(∃ n,mget (.int .u32 k) es=some (i64 n))∨mget (.int .u32 k) es=none:=by
 unfold mget
 rcases h.find (k:=k) with ⟨g1,j,v,g2,g3⟩ | ⟨g1,g2⟩
 · exact .inl ⟨v,by simp [g2,g3]⟩
 · exact .inr (by simp [g2])
theorem NMap.app {k n:Int}:∀ {es ks},NMap es ks→NMap (es++[(.int .u32 k,i64 n)]) (ks++[k]):=by
 intro es
 induction es with
 | nil => intro ks h; cases ks with
   | nil=>exact ⟨rfl,⟨n,rfl⟩,trivial⟩
   | cons=>cases h
 | cons e es ih => intro ks h; cases ks with
   | nil=>cases h
   | cons k' ks=>exact ⟨h.1,h.2.1,ih h.2.2⟩
theorem NMap.set {k n:Int}:∀ {es ks} {j:Nat} {v:Value},NMap es ks→es[j]?=some (.int .u32 k,v)→NMap (es.set j (.int .u32 k,i64 n)) ks:=by
 intro es
 induction es with
 | nil=>intro ks j v h hj;simp at hj
 | cons e es ih => intro ks j v h hj; cases ks with
   | nil=>cases h
   | cons k' ks =>
     cases j with
     | zero =>
       simp at hj
       subst hj
       have:k=k':=by
        have:=h.1
        simpa using this
       subst this
       exact ⟨rfl,⟨n,rfl⟩,h.2.2⟩
     | succ j=>exact ⟨h.1,h.2.1,ih h.2.2 (by simpa using hj)⟩
theorem NMap.put {k n:Int} {es ks} (h:NMap es ks):NMap (mput (.int .u32 k) (i64 n) es) (addKey ks k):=by
 unfold mput addKey
 rcases h.find (k:=k) with ⟨g1,j,v,g2,g3⟩ | ⟨g1,g2⟩
 · rw [g2,if_pos g1];exact h.set g3
 · rw [g2,if_neg g1];exact h.app
def keysOf (l:List Int):List Int:=l.foldl addKey []
def unlF (l:List Int):Bool:=((keysOf l).length:Int) == (l.length:Int)
theorem unl_loop {rv:Value} {rs:List Rul} {l:List Int} {H:AHeap} {v:Value} {k:Value→AHeap→Prop} (hl:l.length < 2 ^ 62) (hrs:rs.length=l.length) (hr:∀ K,aLen prog K 46 rv=some (i64 rs.length)) (hk:∀ K,Pre H K→k (.bool (unlF l)) K) (b:Nat) (hbH:H.length≤b) :
  ∀ (r : List Int) (i : Nat) (es : List (Value × Value)) (ks : List Int) (K : AHeap) (w y z A B C a c d e f g h j m o p t u : Value), l.drop i = r → i ≤ l.length → Pre H K → Arr K 1 v (nCells l) → K[b]? = some (.map es) → NMap es ks → r.foldl addKey ks = keysOf l →
    L26x0 (r.length+1) k [rv,w,y,.map (some b),z,A,B,C,v,i64 l.length,i64 i,a,c,d,e,f,g,h,j,m,o,p,t,u] K:=by
 intro r
 induction r with
 | nil =>
   intro i es ks K w y z A B C a c d e f g h j m o p t u hd hi hp ha hm hs hf
   have hle:l.length≤i:=by simpa using hd
   rw [List.length_nil,L26x0q]
   have:¬ i < l.length:=by omega
   have hml:aLen prog K 92 (.map (some b))=some (i64 es.length):=by simp [aLen,hm]
   simp [this,hr,hml]
   have:=hk K hp
   rw [unlF,← hf,List.foldl_nil,← hs.len,← hrs] at this
   exact this
 | cons s r ih =>
   intro i es ks K w y z A B C a c d e f g h j m o p t u hd hi hp ha hm hs hf
   have hb:l[i]?=some s:=by rw [← List.head?_drop,hd];rfl
   have hlt:i < l.length:=(List.getElem?_eq_some_iff.1 hb).1
   obtain ⟨q,hp1,hp2⟩:=ha.load1 (P:=prog) (T:=58) (te:=50) (i:=i) (x:=.int .u32 s) (by simp) (by simp) (by simp) (by simp [nCells,hb])
   rw [List.length_cons,L26x0q]
   obtain ⟨x,hx⟩:∃ n,aLookup prog K 92 (.map (some b)) (.int .u32 s) false=some (i64 n):=by
    rw [aLookup_map,hm]
    simp only [tm92,Option.bind_some,mapOf_map,keyOk,beq_self_eq_true,if_true,hs.ok]
    rcases hs.get (k:=s) with ⟨n,g1⟩ | g1
    · rw [g1];exact ⟨n,by simp⟩
    · rw [g1];exact ⟨0,by simp [cok,isLit]⟩
   simp only [aBin_lss,bnd_some,Int.ofNat_lt,hlt,decide_true,kifB_true,hp1,hp2,hx,aBin_add,aUpdate_map,hm,tm92,Option.bind_some,mapOf_map,keyOk,beq_self_eq_true,hs.ok,and_self,if_true,bndS_some,wrap_succ (show i+1 < 2 ^ 63 by omega)]
   exact ih (i+1) _ (addKey ks s) _ _ _ _ _ _ _ _ _ _ _ _ _ _ _ _ _ _ _ _ (by rw [← List.drop_drop,hd];rfl) hlt (hp.set hbH) (ha.set (hcells_map hm)) (get_set hm) hs.put hf
theorem c_unlike {H:AHeap} {v:Value} {rs:List Rul} (hg:Pw H) (hv:RulesAt H v rs) (hl:rs.length≤2 ^ 20) (hf:fine rs):ACalls prog 26 [v] H (.bool (unlF (rs.map fingF))) H:=by
 refine acalls_pure MixT func26 (by decide) rfl ?_
 rw [d26]
 simp only [bndE_some]
 obtain ⟨ov,K,a1,p1,g1⟩:=c_all (hg.trans (.app H [AObj.map []])) (hv.pre (.app H [AObj.map []])) hl hf
 refine bndC_of a1 ?_
 have hm:K[H.length]?=some (.map []):=p1.get (by simp)
 have hlen:=g1.arr.len (P:=prog) (T:=58) (e:=50) (by simp)
 simp [nCells] at hlen
 refine bnd_of hlen ?_
 have hr:=hv.lenR
 refine ⟨(rs.map fingF).length+1,?_⟩
 have:=unl_loop (k:=fun u H2=>u=.bool (unlF (rs.map fingF))∧∃ X,H2=H++X) (H:=H) (rv:=v) (rs:=rs) (l:=rs.map fingF) (v:=ov) (by simp;omega) (by simp) hr (fun K p=>⟨rfl,p⟩) H.length (Nat.le_refl _) (rs.map fingF) 0 [] [] K
 simp only [List.length_map] at this ⊢
 exact this _ _ _ _ _ _ _ _ _ _ _ _ _ _ _ _ _ _ _ rfl (by omega) ((Pre.app H _).trans p1) g1.arr hm trivial rfl
theorem keys_len:∀ (l ks:List Int),ks.Nodup→((l.foldl addKey ks).length≤ks.length+l.length∧((l.foldl addKey ks).length=ks.length+l.length↔(ks++l).Nodup)):=by
 intro l
 induction l with
 | nil=>intro ks h;simp [h]
 | cons x l ih =>
   intro ks h
   simp only [List.foldl_cons,List.length_cons]
   by_cases hx:x∈ks
   · have e:addKey ks x=ks:=by unfold addKey;rw [if_pos hx]
     rw [e]
     obtain ⟨h1,h2⟩:=ih ks h
     refine ⟨by omega,fun q=>by omega,fun q=>?_⟩
     exfalso
     rw [List.nodup_append] at q
     exact q.2.2 x hx x (by simp) rfl
   · have e:addKey ks x=ks++[x]:=by unfold addKey;rw [if_neg hx]
     rw [e]
     have hn:(ks++[x]).Nodup:=by
      rw [List.nodup_append]
      exact ⟨h,by simp,fun a ha b hb=>by simp at hb;subst hb;exact fun q=>hx (q ▸ ha)⟩
     obtain ⟨h1,h2⟩:=ih (ks++[x]) hn
     simp only [List.length_append,List.length_cons,List.length_nil,List.append_assoc,List.cons_append,List.nil_append] at h1 h2
     refine ⟨by omega,?_⟩
     rw [← h2]
     constructor<;>intro q<;>omega
theorem unlF_iff (l:List Int):unlF l=true↔l.Nodup:=by
 have:=(keys_len l [] List.nodup_nil).2
 simp only [List.length_nil,Nat.zero_add,List.nil_append] at this
 rw [← this]
 unfold unlF keysOf
 simp only [beq_iff_eq]
 omega
end Go.Vi
namespace Go.Vi
open Go Go.Proofs Go.Proofs.Tryz
theorem acalls_bool {P:Program} (hm:P.follows .mixedOrders=true) {f fn args H} {Q:Prop} (hf:P.funcs[f]?=some fn) (hn:notNG fn=true)
  (hr:∀ k:Value→AHeap→Prop,(∀ K,Pre H K→k (.bool true) K)→(Q→∀ K,Pre H K→k (.bool false) K)→kbody P fn args H k):∃ b,(b=false→Q)∧ACalls P f args H (.bool b) H:=by
 obtain ⟨v,H',⟨b,rfl,hq,X,rfl⟩,h⟩:=acalls_ex hm hf hn (hr (fun u H2=>∃ b,u=.bool b∧(b=false→Q)∧Pre H H2) (fun K p=>⟨true,rfl,by simp,p⟩) fun q K p=>⟨false,rfl,fun _=>q,p⟩)
 exact ⟨b,hq,h.trim rfl⟩
def Rul.small (r:Rul):Prop:=r.byL.length≤1000∧r.mutes.length≤100∧r.nodes.length≤100∧∀ n∈r.nodes,n.sel.length≤50
section
variable {r:Rul} {H:AHeap} {nv mv:Value} {b:Nat} {k:Value→AHeap→Prop}
theorem big_x2 {n1:Nat} (hn0:NodesAt H nv r.nodes) {i:Nat} {nd:Nod} (hi:r.nodes[i]?=some nd) (hsel:nd.sel.length≤50) (hi2:i+1 < 2 ^ 63) (hT:∀ K,Pre H K→k (.bool true) K)
  (hk:∀ (K:AHeap) (left:Int) (s0 s2 s4 s6 s7 s8 s9 W Y Z aa ab ac ad ae af ag ah ai aj ak al am an ao ap aq ar au av aw ax ay az aA aB aC aD aE aF aG aH aI aJ aK aL aM aN aO aP aQ aR aS aT aU aV aW aX aY aZ a0 a1 a2 a3 a4 a5 a6 a7 a8 a9 ba bb bc bd be bf bg bh bi bj bk bl bm bn bo bp bq br bs bt bu bv bw bx bz bA bB a c g l n o s t u v w y z A B C D E F G I J L M N O Q R S U V:Value),Pre H K→hcells K b=some (r.cells nv mv)→L45x1 n1 k [s0,.pointer (some ⟨b,0,some 8⟩),s2,i64 left,s4,i64 ((i+1:Nat):Int),s6,s7,s8,s9,W,Y,Z,aa,ab,ac,ad,ae,af,ag,ah,ai,aj,ak,al,am,an,ao,ap,aq,ar,au,av,aw,ax,ay,az,aA,aB,aC,aD,aE,aF,aG,aH,aI,aJ,aK,aL,aM,aN,aO,aP,aQ,aR,aS,aT,aU,aV,aW,aX,aY,aZ,a0,a1,a2,a3,a4,a5,a6,a7,a8,a9,ba,bb,bc,bd,be,bf,bg,bh,bi,bj,bk,bl,bm,bn,bo,bp,bq,br,bs,bt,bu,bv,bw,bx,bz,bA,bB,a,c,g,l,n,o,s,t,u,v,w,y,z,A,B,C,D,E,F,G,I,J,L,M,N,O,Q,R,S,U,V] K) :
  ∀ (m : List Mat) (j : Nat) (left : Int) (K : AHeap) (s0 s2 s4 s7 s8 s9 W Y Z aa ab ac ad ae af ag ah ai aj ak al am an ao ap aq ar au av aw ax ay az aA aB aC aD aE aF aG aH aI aJ aK aL aM aN aO aP aQ aR aS aT aU aV aW aX aY aZ a0 a1 a2 a3 a4 a5 a6 a7 a8 a9 ba bb bc bd be bf bg bh bi bj bk bl bm bn bo bp bq br bs bt bu bv bw bx bz bA bB a c g l n o s t u v w y z A B C D E F G I J L M N O Q R S U V : Value), nd.sel.drop j = m → j ≤ nd.sel.length → Pre H K → hcells K b = some (r.cells nv mv) →
    L45x2 (m.length+1) n1 k [s0,.pointer (some ⟨b,0,some 8⟩),s2,i64 left,s4,i64 i,i64 j,s7,s8,s9,W,Y,Z,aa,ab,ac,ad,ae,af,ag,ah,ai,aj,ak,al,am,an,ao,ap,aq,ar,au,av,aw,ax,ay,az,aA,aB,aC,aD,aE,aF,aG,aH,aI,aJ,aK,aL,aM,aN,aO,aP,aQ,aR,aS,aT,aU,aV,aW,aX,aY,aZ,a0,a1,a2,a3,a4,a5,a6,a7,a8,a9,ba,bb,bc,bd,be,bf,bg,bh,bi,bj,bk,bl,bm,bn,bo,bp,bq,br,bs,bt,bu,bv,bw,bx,bz,bA,bB,a,c,g,l,n,o,s,t,u,v,w,y,z,A,B,C,D,E,F,G,I,J,L,M,N,O,Q,R,S,U,V] K:=by
 intro m
 induction m with
 | nil =>
   intro j left K s0 s2 s4 s7 s8 s9 W Y Z aa ab ac ad ae af ag ah ai aj ak al am an ao ap aq ar au av aw ax ay az aA aB aC aD aE aF aG aH aI aJ aK aL aM aN aO aP aQ aR aS aT aU aV aW aX aY aZ a0 a1 a2 a3 a4 a5 a6 a7 a8 a9 ba bb bc bd be bf bg bh bi bj bk bl bm bn bo bp bq br bs bt bu bv bw bx bz bA bB a c g l n o s t u v w y z A B C D E F G I J L M N O Q R S U V hd hj hp hc
   have hle:nd.sel.length≤j:=by simpa using hd
   obtain ⟨cl,ha,hcl,hcc⟩:=hn0.pre hp
   obtain ⟨sv,h1,h2,h3⟩:=hcc _ _ hi
   obtain ⟨p,q,f1,f2,f3⟩:=ha.field (P:=prog) (T:=27) (te:=37) (ft:=35) (f:=2) (d:=2) (x:=sv) (by simp) (by simp) (by simp) (by simp) (by simp) h1 rfl
   have hl:=h2.len (P:=prog) (T:=35) (e:=75) (by simp)
   simp only [List.length_map] at hl
   have hl8:hlen K b=some 8:=by rw [hcells_len hc];rfl
   rw [List.length_nil,L45x2q]
   have:¬ j < nd.sel.length:=by omega
   simp [hc,hl8,Rul.cells,f1,f2,f3,hl,this,hi2]
   exact hk K left _ _ _ _ _ _ _ _ _ _ _ _ _ _ _ _ _ _ _ _ _ _ _ _ _ _ _ _ _ _ _ _ _ _ _ _ _ _ _ _ _ _ _ _ _ _ _ _ _ _ _ _ _ _ _ _ _ _ _ _ _ _ _ _ _ _ _ _ _ _ _ _ _ _ _ _ _ _ _ _ _ _ _ _ _ _ _ _ _ _ _ _ _ _ _ _ _ _ _ _ _ _ _ _ _ _ _ _ _ _ _ _ _ _ _ _ _ _ _ _ _ _ _ _ _ _ _ _ hp hc
 | cons x m ih =>
   intro j left K s0 s2 s4 s7 s8 s9 W Y Z aa ab ac ad ae af ag ah ai aj ak al am an ao ap aq ar au av aw ax ay az aA aB aC aD aE aF aG aH aI aJ aK aL aM aN aO aP aQ aR aS aT aU aV aW aX aY aZ a0 a1 a2 a3 a4 a5 a6 a7 a8 a9 ba bb bc bd be bf bg bh bi bj bk bl bm bn bo bp bq br bs bt bu bv bw bx bz bA bB a c g l n o s t u v w y z A B C D E F G I J L M N O Q R S U V hd hj hp hc
   have hb:nd.sel[j]?=some x:=by rw [← List.head?_drop,hd];rfl
   have hlt:j < nd.sel.length:=(List.getElem?_eq_some_iff.1 hb).1
   obtain ⟨cl,ha,hcl,hcc⟩:=hn0.pre hp
   obtain ⟨sv,h1,h2,h3⟩:=hcc _ _ hi
   obtain ⟨p,q,f1,f2,f3⟩:=ha.field (P:=prog) (T:=27) (te:=37) (ft:=35) (f:=2) (d:=2) (x:=sv) (by simp) (by simp) (by simp) (by simp) (by simp) h1 rfl
   have hl:=h2.len (P:=prog) (T:=35) (e:=75) (by simp)
   simp only [List.length_map] at hl
   obtain ⟨p2,g1,g2⟩:=h2.load (P:=prog) (T:=35) (te:=75) (i:=j) (e:=x.cells) (by simp) (by simp) (by simp) (by simp [hb])
   have hl8:hlen K b=some 8:=by rw [hcells_len hc];rfl
   have hX:=fun X:AHeap=>hcells_more (X:=X) hc
   rw [List.length_cons,L45x2q]
   simp +contextual [hc,hl8,Rul.cells,f1,f2,f3,hl,hlt,g1,g2,Mat.cells]
   refine kifB_bool (fun h=>?_) (fun h=>?_)
   · exact hT _ (hp.more _)
   · simp [show j+1 < 2 ^ 63 by omega]
     exact ih (j+1) _ _ _ _ _ _ _ _ _ _ _ _ _ _ _ _ _ _ _ _ _ _ _ _ _ _ _ _ _ _ _ _ _ _ _ _ _ _ _ _ _ _ _ _ _ _ _ _ _ _ _ _ _ _ _ _ _ _ _ _ _ _ _ _ _ _ _ _ _ _ _ _ _ _ _ _ _ _ _ _ _ _ _ _ _ _ _ _ _ _ _ _ _ _ _ _ _ _ _ _ _ _ _ _ _ _ _ _ _ _ _ _ _ _ _ _ _ _ _ _ _ _ _ _ _ _ _ _ _ (by rw [← List.drop_drop,hd];rfl) hlt (hp.more _) (hX _)
theorem big_x1 (hn0:NodesAt H nv r.nodes) (hnl:r.nodes.length≤100) (hT:∀ K,Pre H K→k (.bool true) K) (hk:(∀ n∈r.nodes,n.sel.length≤50)→∀ K,Pre H K→k (.bool false) K) :
  ∀ (ns : List Nod) (i : Nat) (left : Int) (K : AHeap) (s0 s2 s4 s6 s7 s8 s9 U V W X Y Z aa ab ac ad ae af ag ah ai aj ak al am an ao ap aq ar au av aw ax ay az aA aB aC aD aE aF aG aH aI aJ aK aL aM aN aO aP aQ aR aS aT aU aV aW aX aY aZ a0 a1 a2 a3 a4 a5 a6 a7 a8 a9 ba bb bc bd be bf bg bh bi bj bk bl bm bn bo bp bq br bs bt bu bv bw bx a c g h j l m o s t u v w y z A B C D E F G I J L M N O Q R S : Value), r.nodes.drop i = ns → i ≤ r.nodes.length → (∀ n ∈ r.nodes.take i, n.sel.length ≤ 50) → Pre H K → hcells K b = some (r.cells nv mv) →
    L45x1 (ns.length+1) k [s0,.pointer (some ⟨b,0,some 8⟩),s2,i64 left,s4,i64 i,s6,s7,s8,s9,U,V,W,X,Y,Z,aa,ab,ac,ad,ae,af,ag,ah,ai,aj,ak,al,am,an,ao,ap,aq,ar,au,av,aw,ax,ay,az,aA,aB,aC,aD,aE,aF,aG,aH,aI,aJ,aK,aL,aM,aN,aO,aP,aQ,aR,aS,aT,aU,aV,aW,aX,aY,aZ,a0,a1,a2,a3,a4,a5,a6,a7,a8,a9,ba,bb,bc,bd,be,bf,bg,bh,bi,bj,bk,bl,bm,bn,bo,bp,bq,br,bs,bt,bu,bv,bw,bx,a,c,g,h,j,l,m,o,s,t,u,v,w,y,z,A,B,C,D,E,F,G,I,J,L,M,N,O,Q,R,S] K:=by
 intro ns
 induction ns with
 | nil =>
   intro i left K s0 s2 s4 s6 s7 s8 s9 U V W X Y Z aa ab ac ad ae af ag ah ai aj ak al am an ao ap aq ar au av aw ax ay az aA aB aC aD aE aF aG aH aI aJ aK aL aM aN aO aP aQ aR aS aT aU aV aW aX aY aZ a0 a1 a2 a3 a4 a5 a6 a7 a8 a9 ba bb bc bd be bf bg bh bi bj bk bl bm bn bo bp bq br bs bt bu bv bw bx a c g h j l m o s t u v w y z A B C D E F G I J L M N O Q R S hd hi hs hp hc
   have hle:r.nodes.length≤i:=by simpa using hd
   have hl:=(hn0.pre hp).len K
   have hl8:hlen K b=some 8:=by rw [hcells_len hc];rfl
   rw [List.length_nil,L45x1q]
   have:¬ i < r.nodes.length:=by omega
   simp [hc,hl8,Rul.cells,hl,this]
   exact hk (by rw [List.take_of_length_le hle] at hs;exact hs) K hp
 | cons x ns ih =>
   intro i left K s0 s2 s4 s6 s7 s8 s9 U V W X Y Z aa ab ac ad ae af ag ah ai aj ak al am an ao ap aq ar au av aw ax ay az aA aB aC aD aE aF aG aH aI aJ aK aL aM aN aO aP aQ aR aS aT aU aV aW aX aY aZ a0 a1 a2 a3 a4 a5 a6 a7 a8 a9 ba bb bc bd be bf bg bh bi bj bk bl bm bn bo bp bq br bs bt bu bv bw bx a c g h j l m o s t u v w y z A B C D E F G I J L M N O Q R S hd hi hs hp hc
   have hb:r.nodes[i]?=some x:=by rw [← List.head?_drop,hd];rfl
   have hlt:i < r.nodes.length:=(List.getElem?_eq_some_iff.1 hb).1
   obtain ⟨cl,ha,hcl,hcc⟩:=hn0.pre hp
   obtain ⟨sv,h1,h2,h3⟩:=hcc _ _ hb
   obtain ⟨p,q,f1,f2,f3⟩:=ha.field (P:=prog) (T:=27) (te:=37) (ft:=35) (f:=2) (d:=2) (x:=sv) (by simp) (by simp) (by simp) (by simp) (by simp) h1 rfl
   have hl:=h2.len (P:=prog) (T:=35) (e:=75) (by simp)
   simp only [List.length_map] at hl
   have hln:=(hn0.pre hp).len K
   have hl8:hlen K b=some 8:=by rw [hcells_len hc];rfl
   rw [List.length_cons,L45x1q]
   simp [hc,hl8,Rul.cells,hln,hlt,f1,f2,f3,hl]
   by_cases h50:50 < x.sel.length
   · have h50I:(50:Int) < x.sel.length:=by omega
     simp [h50I]
     exact hT K hp
   · have h50I:¬ (50:Int) < x.sel.length:=by omega
     simp [h50I]
     refine ⟨x.sel.length+1,big_x2 (H:=H) (r:=r) (nv:=nv) (mv:=mv) (b:=b) hn0 hb (by omega) (by omega) hT ?_ x.sel 0 left K _ _ _ _ _ _ _ _ _ _ _ _ _ _ _ _ _ _ _ _ _ _ _ _ _ _ _ _ _ _ _ _ _ _ _ _ _ _ _ _ _ _ _ _ _ _ _ _ _ _ _ _ _ _ _ _ _ _ _ _ _ _ _ _ _ _ _ _ _ _ _ _ _ _ _ _ _ _ _ _ _ _ _ _ _ _ _ _ _ _ _ _ _ _ _ _ _ _ _ _ _ _ _ _ _ _ _ _ _ _ _ _ _ _ _ _ _ _ _ _ _ _ _ _ _ _ _ rfl (by omega) hp hc⟩
     intro K2 left2 s0 s2 s4 s6 s7 s8 s9 U V W X Y Z aa ab ac ad ae af ag ah ai aj ak al am an ao ap aq ar au av aw ax ay az aA aB aC aD aE aF aG aH aI aJ aK aL aM aN aO aP aQ aR aS aT aU aV aW aX aY aZ a0 a1 a2 a3 a4 a5 a6 a7 a8 a9 ba bb bc bd be bf bg bh bi bj bk bl bm bn bo bp bq br bs bt bu bv bw bx a c g h j l m o s t u v w y z A B C D E F G I J L M N O Q R S hp2 hc2
     refine ih (i+1) left2 K2 _ _ _ _ _ _ _ _ _ _ _ _ _ _ _ _ _ _ _ _ _ _ _ _ _ _ _ _ _ _ _ _ _ _ _ _ _ _ _ _ _ _ _ _ _ _ _ _ _ _ _ _ _ _ _ _ _ _ _ _ _ _ _ _ _ _ _ _ _ _ _ _ _ _ _ _ _ _ _ _ _ _ _ _ _ _ _ _ _ _ _ _ _ _ _ _ _ _ _ _ _ _ _ _ _ _ _ _ _ _ _ _ _ _ _ _ _ _ _ _ _ _ _ _ _ _ _ _ (by rw [← List.drop_drop,hd];rfl) hlt ?_ hp2 hc2
     intro n hn
     rw [List.take_add_one,hb] at hn
     simp at hn
     rcases hn with hn | rfl
     · exact hs n hn
     · omega
set_option maxRecDepth 20000 in
theorem big_x0 (hn0:NodesAt H nv r.nodes) (hm0:Arr H 1 mv (strCells r.mutes)) (hnl:r.nodes.length≤100) (hml:r.mutes.length≤100) (hT:∀ K,Pre H K→k (.bool true) K) (hk:(∀ n∈r.nodes,n.sel.length≤50)→∀ K,Pre H K→k (.bool false) K) :
  ∀ (l : List (List UInt8)) (i : Nat) (left : Int) (K : AHeap) (s0 s2 s5 s6 s7 s8 s9 S U V W X Y Z aa ab ac ad ae af ag ah ai aj ak al am an ao ap aq ar au av aw ax ay az aA aB aC aD aE aF aG aH aI aJ aK aL aM aN aO aP aQ aR aS aT aU aV aW aX aY aZ a0 a1 a2 a3 a4 a5 a6 a7 a8 a9 ba bb bc bd be bf bg bh bi bj bk bl bm bn bo bp bq br bs bt bu bv bw a c d f g j m o p s t u v w y z A B C D E F G I J L M N O Q R : Value), r.mutes.drop i = l → i ≤ r.mutes.length → Pre H K → hcells K b = some (r.cells nv mv) →
    L45x0 (l.length+1) k [s0,.pointer (some ⟨b,0,some 8⟩),s2,i64 left,i64 i,s5,s6,s7,s8,s9,S,U,V,W,X,Y,Z,aa,ab,ac,ad,ae,af,ag,ah,ai,aj,ak,al,am,an,ao,ap,aq,ar,au,av,aw,ax,ay,az,aA,aB,aC,aD,aE,aF,aG,aH,aI,aJ,aK,aL,aM,aN,aO,aP,aQ,aR,aS,aT,aU,aV,aW,aX,aY,aZ,a0,a1,a2,a3,a4,a5,a6,a7,a8,a9,ba,bb,bc,bd,be,bf,bg,bh,bi,bj,bk,bl,bm,bn,bo,bp,bq,br,bs,bt,bu,bv,bw,a,c,d,f,g,j,m,o,p,s,t,u,v,w,y,z,A,B,C,D,E,F,G,I,J,L,M,N,O,Q,R] K:=by
 intro l
 induction l with
 | nil =>
   intro i left K s0 s2 s5 s6 s7 s8 s9 S U V W X Y Z aa ab ac ad ae af ag ah ai aj ak al am an ao ap aq ar au av aw ax ay az aA aB aC aD aE aF aG aH aI aJ aK aL aM aN aO aP aQ aR aS aT aU aV aW aX aY aZ a0 a1 a2 a3 a4 a5 a6 a7 a8 a9 ba bb bc bd be bf bg bh bi bj bk bl bm bn bo bp bq br bs bt bu bv bw a c d f g j m o p s t u v w y z A B C D E F G I J L M N O Q R hd hi hp hc
   have hle:r.mutes.length≤i:=by simpa using hd
   have hl:=(hm0.pre hp).len (P:=prog) (T:=42) (e:=9) (by simp)
   simp [strCells] at hl
   have hl8:hlen K b=some 8:=by rw [hcells_len hc];rfl
   rw [List.length_nil,L45x0q]
   have:¬ i < r.mutes.length:=by omega
   simp [hc,hl8,Rul.cells,hl,this]
   exact ⟨r.nodes.length+1,big_x1 (H:=H) (r:=r) (nv:=nv) (mv:=mv) (b:=b) hn0 hnl hT hk r.nodes 0 left K _ _ _ _ _ _ _ _ _ _ _ _ _ _ _ _ _ _ _ _ _ _ _ _ _ _ _ _ _ _ _ _ _ _ _ _ _ _ _ _ _ _ _ _ _ _ _ _ _ _ _ _ _ _ _ _ _ _ _ _ _ _ _ _ _ _ _ _ _ _ _ _ _ _ _ _ _ _ _ _ _ _ _ _ _ _ _ _ _ _ _ _ _ _ _ _ _ _ _ _ _ _ _ _ _ _ _ _ _ _ _ _ _ _ _ _ _ _ _ _ _ _ _ _ _ _ _ _ rfl (by omega) (by simp) hp hc⟩
 | cons x l ih =>
   intro i left K s0 s2 s5 s6 s7 s8 s9 S U V W X Y Z aa ab ac ad ae af ag ah ai aj ak al am an ao ap aq ar au av aw ax ay az aA aB aC aD aE aF aG aH aI aJ aK aL aM aN aO aP aQ aR aS aT aU aV aW aX aY aZ a0 a1 a2 a3 a4 a5 a6 a7 a8 a9 ba bb bc bd be bf bg bh bi bj bk bl bm bn bo bp bq br bs bt bu bv bw a c d f g j m o p s t u v w y z A B C D E F G I J L M N O Q R hd hi hp hc
   have hb:r.mutes[i]?=some x:=by rw [← List.head?_drop,hd];rfl
   have hlt:i < r.mutes.length:=(List.getElem?_eq_some_iff.1 hb).1
   have hl:=(hm0.pre hp).len (P:=prog) (T:=42) (e:=9) (by simp)
   simp [strCells] at hl
   obtain ⟨q,hp1,hp2⟩:=(hm0.pre hp).load1 (P:=prog) (T:=42) (te:=9) (i:=i) (x:=str x) (by simp) (by simp) (by simp) (by simp [strCells,hb])
   have hl8:hlen K b=some 8:=by rw [hcells_len hc];rfl
   rw [List.length_cons,L45x0q]
   simp [hc,hl8,Rul.cells,hl,hlt,hp1,hp2]
   refine kifB_bool (fun h=>?_) (fun h=>?_)
   · exact hT K hp
   · simp [hc,hl8,Rul.cells,hp1,hp2,show i+1 < 2 ^ 63 by omega]
     exact ih (i+1) _ K _ _ _ _ _ _ _ _ _ _ _ _ _ _ _ _ _ _ _ _ _ _ _ _ _ _ _ _ _ _ _ _ _ _ _ _ _ _ _ _ _ _ _ _ _ _ _ _ _ _ _ _ _ _ _ _ _ _ _ _ _ _ _ _ _ _ _ _ _ _ _ _ _ _ _ _ _ _ _ _ _ _ _ _ _ _ _ _ _ _ _ _ _ _ _ _ _ _ _ _ _ _ _ _ _ _ _ _ _ _ _ _ _ _ _ _ _ _ _ _ _ _ _ _ _ _ _ _ (by rw [← List.drop_drop,hd];rfl) hlt hp hc
theorem c_big (hn0:NodesAt H nv r.nodes) (hm0:Arr H 1 mv (strCells r.mutes)):∃ b,(b=false→r.small)∧ACalls prog 45 [.agg (r.cells nv mv).toArray] H (.bool b) H:=by
 refine acalls_bool MixT func45 (by decide) fun k hT hk=>?_
 rw [d45]
 have h1:nv.oneCell'=true:=by obtain ⟨_,h,_⟩:=hn0;exact h.one
 have h2:=hm0.one
 have hl:∀ X:AHeap,aLen prog (H++X) 42 mv=some (i64 r.mutes.length):=fun X=>by
  have:=(hm0.pre (.app H X)).len (P:=prog) (T:=42) (e:=9) (by simp)
  simpa [strCells] using this
 have hln:=fun X:AHeap=>(hn0.pre (.app H X)).len (H++X)
 simp +contextual [aNew_agg,Rul.cells,h1,h2,hl,hln]
 refine kifB_bool (fun h=>?_) (fun h=>?_)
 · exact hT _ (.app _ _)
 · simp at h
   simp
   refine ⟨r.mutes.length+1,?_⟩
   exact big_x0 (H:=H) (r:=r) (nv:=nv) (mv:=mv) (b:=H.length) hn0 hm0 (by omega) (by omega) hT (fun h2 K p=>hk ⟨by omega,by omega,by omega,h2⟩ K p) r.mutes 0 _ _ _ _ _ _ _ _ _ _ _ _ _ _ _ _ _ _ _ _ _ _ _ _ _ _ _ _ _ _ _ _ _ _ _ _ _ _ _ _ _ _ _ _ _ _ _ _ _ _ _ _ _ _ _ _ _ _ _ _ _ _ _ _ _ _ _ _ _ _ _ _ _ _ _ _ _ _ _ _ _ _ _ _ _ _ _ _ _ _ _ _ _ _ _ _ _ _ _ _ _ _ _ _ _ _ _ _ _ _ _ _ _ _ _ _ _ _ _ _ _ _ _ _ _ _ _ _ _ _ rfl (by omega) (.app _ _) (by simp [Rul.cells])
end
section
variable {rs:List Rul} {H:AHeap} {rv:Value} {b:Nat} {k:Value→AHeap→Prop}
def cfgC (rv:Value):List Value:=[rv,.slice none 0 0,.int .i64 0,.int .i64 0]
theorem cbig_x0 (hr:RulesAt H rv rs) (hrl:rs.length≤20) (hT:∀ K,Pre H K→k (.bool true) K) (hk:(∀ r∈rs,r.small)→∀ K,Pre H K→k (.bool false) K) :
  ∀ (l : List Rul) (i : Nat) (K : AHeap) (S T U V W X Y Z a c d e f g j m n o p s u v w y z A B C D E F G I J L M N O P Q R : Value), rs.drop i = l → i ≤ rs.length → (∀ r ∈ rs.take i, r.small) → Pre H K → hcells K b = some (cfgC rv) →
    L24x0 (l.length+1) k [S,.pointer (some ⟨b,0,some 4⟩),T,i64 i,U,V,W,X,Y,Z,a,c,d,e,f,g,j,m,n,o,p,s,u,v,w,y,z,A,B,C,D,E,F,G,I,J,L,M,N,O,P,Q,R] K:=by
 intro l
 induction l with
 | nil =>
   intro i K S T U V W X Y Z a c d e f g j m n o p s u v w y z A B C D E F G I J L M N O P Q R hd hi hs hp hc
   have hle:rs.length≤i:=by simpa using hd
   have hl:=(hr.pre hp).lenR K
   have hl4:hlen K b=some 4:=by rw [hcells_len hc];rfl
   rw [List.length_nil,L24x0q]
   have:¬ i < rs.length:=by omega
   rw [List.take_of_length_le hle] at hs
   simp [hc,hl4,cfgC,hl,this]
   refine ⟨1,?_⟩
   rw [L24x1q]
   simp [hc,hl4,cfgC]
   exact hk hs K hp
 | cons x l ih =>
   intro i K S T U V W X Y Z a c d e f g j m n o p s u v w y z A B C D E F G I J L M N O P Q R hd hi hs hp hc
   have hb:rs[i]?=some x:=by rw [← List.head?_drop,hd];rfl
   have hlt:i < rs.length:=(List.getElem?_eq_some_iff.1 hb).1
   have hl:=(hr.pre hp).lenR K
   have hl4:hlen K b=some 4:=by rw [hcells_len hc];rfl
   obtain ⟨nv,xv,hra,q,hp1,hp2⟩:=(hr.pre hp).at hb
   rw [List.length_cons,L24x0q]
   simp [hc,hl4,cfgC,hl,hlt,hp1,hp2]
   obtain ⟨t,ht,hcall⟩:=c_big (r:=x) hra.nodes hra.mutes
   refine bndC_of hcall ?_
   simp
   refine kifB_bool (fun h=>?_) (fun h=>?_)
   · exact hT K hp
   · simp [show i+1 < 2 ^ 63 by omega]
     refine ih (i+1) K _ _ _ _ _ _ _ _ _ _ _ _ _ _ _ _ _ _ _ _ _ _ _ _ _ _ _ _ _ _ _ _ _ _ _ _ _ _ _ _ _ (by rw [← List.drop_drop,hd];rfl) hlt ?_ hp hc
     intro r hrm
     rw [List.take_add_one,hb] at hrm
     simp at hrm
     rcases hrm with hrm | rfl
     · exact hs r hrm
     · exact ht h
theorem c_BigR (hr:RulesAt H rv rs):∃ b,(b=false→rs.length≤20∧∀ r∈rs,r.small)∧ACalls prog 24 [.agg (cfgC rv).toArray] H (.bool b) H:=by
 refine acalls_bool MixT func24 (by decide) fun k hT hk=>?_
 rw [d24]
 have h1:=hr.one
 have hlr:=fun X:AHeap=>hr.lenR (H++X)
 simp +contextual [aNew_agg,cfgC,h1,hlr]
 refine kifB_bool (fun h=>?_) (fun h=>?_)
 · exact hT _ (.app _ _)
 · simp at h
   refine ⟨rs.length+1,?_⟩
   exact cbig_x0 (H:=H) (rs:=rs) (rv:=rv) (b:=H.length) hr (by omega) hT (fun h2 K p=>hk ⟨by omega,h2⟩ K p) rs 0 _ _ _ _ _ _ _ _ _ _ _ _ _ _ _ _ _ _ _ _ _ _ _ _ _ _ _ _ _ _ _ _ _ _ _ _ _ _ _ _ _ _ rfl (by omega) (by simp) (.app _ _) (by simp [cfgC])
end
end Go.Vi
namespace Go.Vi
open Go Go.Proofs Go.Proofs.Tryz
theorem acallsG_flat {P:Program} {D:DrawK} (hD:∀ c:Ctx,@SoundK c P D) {f fn args H v} (hf:P.funcs[f]?=some fn) (hn:notNG fn=true) (hc:flat v=true) (hr:kbodyG P D fn args H fun u H2=>u=v∧∃ X,H2=H++X):ACalls P f args H v H:=by
 intro w0 s w args' h hargs
 left
 unfold kbodyG at hr
 split at hr
 · rename_i c hb
   constructor
   · have hq : ¬ fn.name = "runtime.NumGoroutine" := by intro q; simp [notNG, q] at hn
     have hbn:¬ fn.body=none:=by rw [hb];simp
     simp [callFunc,hf,hq,hbn]
   · letI:Ctx:=⟨[],none⟩
     refine callsIn_wide.1 (callsIn_of_wp_marks (F:=Fence.wide) (n:=0) hf hb trivial ?_ rfl)
     have hal:args.length=args'.size:=by have:=hargs.1;simpa using this
     have ha:ARel s H (args++List.replicate (fn.ntmps-args.length) undef) { tmps:=args'++Array.replicate (fn.ntmps-args'.size) undef,defers:=[] }:=by
      refine ⟨?_,rfl⟩
      simp only [Array.toList_append,Array.toList_replicate,hal]
      refine hargs.append ⟨by simp,fun i x y hx hy=>?_⟩
      rw [List.getElem?_replicate] at hx hy
      split at hx
      · rename_i hi
        rw [if_pos hi] at hy
        cases hx;cases hy
        exact undef_rel _ _
      · cases hx
     refine kxG_sound hD c h ha ⟨[],rfl,.nil _ _⟩ hr ?_
     have fin:∀ {sl' H2 m' s' a' w' ds'},WRel w0 s' H2 w'→Ext s H s' H2→@ARel ⟨ds',none⟩ s' H2 sl' a'→MarkRel s' H2 m' ds'→kmarks (fun H2=>kres P sl' H2 fn.results.toList fun l=>retV l=v∧∃ X,H2=H++X) m' H2 →
       LeavesInM Fence.wide 0 P fn a'.tmps (AEnd w0 s H v H) a'.defers .returning w':=by
      intro sl' H2 m' s' a' w' ds' g1 g2 g3 g4 hk
      have hd:a'.defers=ds':=@ARel.d ⟨ds',none⟩ _ _ _ _ g3
      rw [hd]
      refine kmarks_leave m' g1 g2 (@ARel.r ⟨ds',none⟩ _ _ _ _ g3) g4 hk ?_
      intro s5 H5 w5 q1 q2 q3 q4
      obtain ⟨l,h1,rfl,X,rfl⟩:=kres_sound _ q4
      obtain ⟨v',k1,k2⟩:=run_ret (P:=P) (a:={ tmps:=a'.tmps,defers:=[] }) fn q1.h ⟨q3,rfl⟩ (aRet_of h1)
      exact ⟨v',k1,s,v',rfl,h.forget q1 q2,Ext.refl _ _,by rw [k2.flat_eq hc];exact flat_rel hc s H⟩
     intro e sl' H2 m' hk s' a' w' ds' g1 g2 g3 g4
     cases e with
     | exit i=>cases hk
     | normal=>exact fin g1 g2 g3 g4 hk
     | ret=>exact fin g1 g2 g3 g4 hk
 · cases hr
def tx5:List UInt8:=[97,32,53,32,49,48,32]++tA
def tx6:List UInt8:=[97,32,54,32,49,48,32]++tA
def R1:Rul:=⟨[110],[97],[nA],5,10,0,[],[]⟩
def R2:Rul:=⟨[109],[97],[nA],5,10,7,[[113]],[111,112,115]⟩
def R3:Rul:=⟨[110],[97],[nA],6,10,0,[],[]⟩
set_option maxRecDepth 100000 in
theorem fing1:fingF R1=crcF tx5:=by kernel_rfl
set_option maxRecDepth 100000 in
theorem fing3:fingF R3=crcF tx6:=by kernel_rfl
theorem fing2:fingF R2=fingF R1:=rfl
theorem bndK_same {b l:Bool} {H:AHeap} {e q:QH} {s:QK} {v:Value} (h:e.f v H) (k:q.f v H):@bndK b l H e s q:=⟨v,H,h,.inr (.inl ⟨[],by simp⟩),k⟩
theorem rlit1 (H:AHeap) {r:Rul} {nv mv:Value} (h1:nv.oneCell'=true) (h2:mv.oneCell'=true):sliceLit prog H 46 1 [(0,.agg (r.cells nv mv).toArray)] (.slice (some ⟨H.length,0,some 8⟩) 1 1) (H++[.cells (r.cells nv mv) 44]):=by
 refine ⟨by simp [Rul.cells,h1,h2],?_⟩
 rw [tbs46]
 simp [bslV,Rul.cells,repCells,h1,h2,show List.range 8=[0,1,2,3,4,5,6,7] from rfl]
theorem rlit2 (H:AHeap) {r r':Rul} {nv mv nv' mv':Value} (h1:nv.oneCell'=true) (h2:mv.oneCell'=true) (h3:nv'.oneCell'=true) (h4:mv'.oneCell'=true) :
  sliceLit prog H 46 2 [(0,.agg (r.cells nv mv).toArray),(1,.agg (r'.cells nv' mv').toArray)] (.slice (some ⟨H.length,0,some 16⟩) 2 2) (H++[.cells (r.cells nv mv++r'.cells nv' mv') 44]):=by
 refine ⟨by simp [Rul.cells,h1,h2,h3,h4],?_⟩
 rw [tbs46]
 simp [bslV,Rul.cells,repCells,h1,h2,h3,h4,show List.range 16=[0,1,2,3,4,5,6,7,8,9,10,11,12,13,14,15] from rfl]
theorem rat1 {K:AHeap} {b:Nat} {r:Rul} {nv mv:Value} (hc:hcells K b=some (r.cells nv mv)) (h:RulAt K r nv mv):RulesAt K (.slice (some ⟨b,0,some 8⟩) 1 1) [r]:=by
 refine ⟨[r.cells nv mv],.mk b 0 8 1 1 _ _ rfl hc rfl (by simp) fun i e hi=>?_,rfl,fun i x hi=>?_⟩
 · cases i with
   | zero=>simp at hi;subst hi;rfl
   | succ i=>simp at hi
 · cases i with
   | zero=>simp at hi;subst hi;exact ⟨nv,mv,rfl,h⟩
   | succ i=>simp at hi
theorem rat2 {K:AHeap} {b:Nat} {r r':Rul} {nv mv nv' mv':Value} (hc:hcells K b=some (r.cells nv mv++r'.cells nv' mv')) (h:RulAt K r nv mv) (h':RulAt K r' nv' mv'):RulesAt K (.slice (some ⟨b,0,some 16⟩) 2 2) [r,r']:=by
 refine ⟨[r.cells nv mv,r'.cells nv' mv'],.mk b 0 16 2 2 _ _ rfl hc rfl (by simp) fun i e hi=>?_,rfl,fun i x hi=>?_⟩
 · match i with
   | 0=>simp at hi;subst hi;rfl
   | 1=>simp at hi;subst hi;rfl
   | i+2=>simp at hi
 · match i with
   | 0=>simp at hi;subst hi;exact ⟨nv,mv,rfl,h⟩
   | 1=>simp at hi;subst hi;exact ⟨nv',mv',rfl,h'⟩
   | i+2=>simp at hi
theorem aConv_id (H:AHeap) (_X:AHeap) (l:List UInt8) (h:0 < l.length):aConv prog (H++[.cells (bcells l) 5]) 55 55 (.slice (some ⟨H.length,0,some l.length⟩) l.length l.length)=some (.slice (some ⟨H.length,0,some l.length⟩) l.length l.length,H++[.ro (bcells l)]):=by
 have hu:isU8 prog 5=true:=by kernel_rfl
 simp [aConv,hu,bcells,h]
theorem rowArr {K:AHeap} {b:Nat} {l:List UInt8} (h:hcells K b=some (bcells l)):Arr K 1 (.slice (some ⟨b,0,some l.length⟩) l.length l.length) (l.map fun b=>[byt b]):=by
 refine .mk b 0 _ _ _ (bcells l) _ (by simp) h (by simp [bcells]) (by simp) fun i e hi=>?_
 simp only [List.getElem?_map,Option.map_eq_some_iff] at hi
 obtain ⟨b,h1,rfl⟩:=hi
 have hlt:=(List.getElem?_eq_some_iff.1 h1).1
 rw [Nat.zero_add,Nat.mul_one,bcells,← List.map_drop,List.drop_eq_getElem_cons hlt,List.map_cons,List.take_succ_cons,List.take_zero,(List.getElem?_eq_some_iff.1 h1).2]
set_option maxRecDepth 50000 in
set_option maxHeartbeats 2000000 in
theorem c_awake14 {H:AHeap} (hg:Pre Gs H):ACalls prog 23 [] H (.bool true) H:=by
 refine acallsG_flat (fun c=>@drawPlan_sound _ c MixT 41 PL23) func23 (by decide) rfl ?_
 generalize hk0:(fun u H2=>u=Value.bool true∧∃ X,H2=H++X)=k
 have hk:∀ M,Pre H M→k (.bool true) M:=fun M p=>by rw [← hk0];exact ⟨rfl,p⟩
 rw [d23]
 obtain ⟨v1,K1,a1,p1,n1⟩:=g_parse (s:=tA) hg
 rw [pA] at a1 n1
 refine bndC_of a1 ?_
 simp only [bnd_some,tupV,List.getElem?_toArray,List.getElem?_cons_zero,List.getElem?_cons_succ]
 have o1:v1.oneCell'=true:=by obtain ⟨cl1,hcl1,_⟩:=n1;exact hcl1.one
 have hb:buildV prog 44 [(0,str [110]),(1,str [97]),(2,v1),(3,.int .i64 5),(4,.int .i64 10)]=some (.agg (R1.cells v1 (.slice none 0 0)).toArray):=by
  simp [R1,Rul.cells,stor_one o1,cells_one o1]
 refine bnd_of hb ?_
 dsimp only
 simp only [tal44,bndE_some]
 rw [rule_new o1 rfl]
 simp only [bndS_some]
 refine bnd_of (rule_get (cs:=R1.cells v1 (.slice none 0 0)) (by simp) rfl) ?_
 simp only [tal44,bndE_some]
 rw [rule_new o1 rfl]
 simp only [bndS_some]
 refine bndL_lit (strs_lit (l:=[[113]]) (tbs42 _ 1 _) rfl (by decide)) ?_
 simp [Rul.cells,R1,o1]
 obtain ⟨B,hB⟩:∃ B,B=K1++[AObj.cells (R1.cells v1 (.slice none 0 0)) 44,AObj.cells (R2.cells v1 (.slice (some ⟨K1.length+2,0,some 1⟩) 1 1)) 44,AObj.cells [str [113]] 9,AObj.cells (R3.cells v1 (.slice none 0 0)) 44]:=⟨_,rfl⟩
 have pB:Pre K1 B:=by rw [hB];exact .app _ _
 have pHB:Pre H B:=p1.trans pB
 have hgB:Pre Gs B:=hg.trans pHB
 have hl:B.length=K1.length+4:=by rw [hB];simp
 have c1:hcells B K1.length=some (R1.cells v1 (.slice none 0 0)):=by rw [hB];simp
 have c2:hcells B (K1.length+1)=some (R2.cells v1 (.slice (some ⟨K1.length+2,0,some 1⟩) 1 1)):=by rw [hB];simp
 have c3:hcells B (K1.length+2)=some [str [113]]:=by rw [hB];simp
 have c4:hcells B (K1.length+3)=some (R3.cells v1 (.slice none 0 0)):=by rw [hB];simp
 simp only [Rul.cells,R1,R2,R3] at hB
 rw [← hB]
 clear hB
 have nB:NodesAt B v1 [nA]:=n1.pre pB
 have q1:RulAt B R1 v1 (.slice none 0 0):=⟨nB,.nil,⟨by decide,by decide,by decide,by decide⟩,by decide⟩
 have q3:RulAt B R3 v1 (.slice none 0 0):=⟨nB,.nil,⟨by decide,by decide,by decide,by decide⟩,by decide⟩
 have q2:RulAt B R2 v1 (.slice (some ⟨K1.length+2,0,some 1⟩) 1 1):=⟨nB,.mk _ 0 1 1 1 _ _ rfl c3 rfl (by simp) (fun i e hi=>by
  cases i with
  | zero=>simp [strCells,R2] at hi;subst hi;rfl
  | succ i=>simp [strCells,R2] at hi),⟨by decide,by decide,by decide,by decide⟩,by decide⟩
 have L1:=rule_get c1 rfl
 have L2:=rule_get c2 rfl
 have L3:=rule_get c4 rfl
 have L1X:=fun X:AHeap=>rule_get (hcells_more (X:=X) c1) rfl
 have L2X:=fun X:AHeap=>rule_get (hcells_more (X:=X) c2) rfl
 have L3X:=fun X:AHeap=>rule_get (hcells_more (X:=X) c4) rfl
 have F1:∀ K,Pre B K→ACalls prog 25 [.agg (R1.cells v1 (.slice none 0 0)).toArray] K (.int .u32 (crcF tx5)) K:=fun K p=>by
  rw [← fing1];exact c_finger (pw_gs (hgB.trans p)) (q1.pre p) (by decide)
 have F2:∀ K,Pre B K→ACalls prog 25 [.agg (R2.cells v1 (.slice (some ⟨K1.length+2,0,some 1⟩) 1 1)).toArray] K (.int .u32 (crcF tx5)) K:=fun K p=>by
  rw [← fing1,← fing2];exact c_finger (pw_gs (hgB.trans p)) (q2.pre p) (by decide)
 have F3:∀ K,Pre B K→ACalls prog 25 [.agg (R3.cells v1 (.slice none 0 0)).toArray] K (.int .u32 (crcF tx6)) K:=fun K p=>by
  rw [← fing3];exact c_finger (pw_gs (hgB.trans p)) (q3.pre p) (by decide)
 have C5:∀ K,Pre (B++[sbB tx5]) K→ACalls prog 27 [.slice (some ⟨B.length,0,some 23⟩) 23 23] K (.int .u32 (crcF tx5)) K:=fun K p=>c_sum (rowArr (l:=tx5) (p.hcells (by simp))) (by decide)
 have C6:∀ K,Pre (B++[sbB tx5,.ro (bcells tx6)]) K→ACalls prog 27 [.slice (some ⟨B.length+1,0,some 23⟩) 23 23] K (.int .u32 (crcF tx6)) K:=fun K p=>c_sum (rowArr (l:=tx6) (p.hcells (by simp))) (by decide)
 have U0:∀ K,Pre B K→ACalls prog 26 [.slice none 0 0] K (.bool true) K:=fun K p =>
  c_unlike (rs:=[]) (pw_gs (hgB.trans p)) ⟨[],.nil,rfl,fun i r hi=>by simp at hi⟩ (by simp) (fun r hr=>by cases hr)
 have U1:ACalls prog 26 [.slice (some ⟨B.length+2,0,some 8⟩) 1 1] (B++[sbB tx5,.ro (bcells tx6),.cells (R1.cells v1 (.slice none 0 0)) 44]) (.bool true) (B++[sbB tx5,.ro (bcells tx6),.cells (R1.cells v1 (.slice none 0 0)) 44]):=by
  have:=c_unlike (rs:=[R1]) (pw_gs (hgB.trans (.app B _))) (rat1 (K:=B++[sbB tx5,.ro (bcells tx6),.cells (R1.cells v1 (.slice none 0 0)) 44]) (b:=B.length+2) (by simp) (q1.pre (.app B _))) (by simp) (fun r hr=>by simp at hr;subst hr;decide)
  rwa [show unlF ([R1].map fingF)=true from (unlF_iff _).2 (by simp)] at this
 have U2:ACalls prog 26 [.slice (some ⟨B.length+3,0,some 16⟩) 2 2] (B++[sbB tx5,.ro (bcells tx6),.cells (R1.cells v1 (.slice none 0 0)) 44,.cells (R1.cells v1 (.slice none 0 0)++R2.cells v1 (.slice (some ⟨K1.length+2,0,some 1⟩) 1 1)) 44]) (.bool false) (B++[sbB tx5,.ro (bcells tx6),.cells (R1.cells v1 (.slice none 0 0)) 44,.cells (R1.cells v1 (.slice none 0 0)++R2.cells v1 (.slice (some ⟨K1.length+2,0,some 1⟩) 1 1)) 44]):=by
  have:=c_unlike (rs:=[R1,R2]) (pw_gs (hgB.trans (.app B _))) (rat2 (K:=B++[sbB tx5,.ro (bcells tx6),.cells (R1.cells v1 (.slice none 0 0)) 44,.cells (R1.cells v1 (.slice none 0 0)++R2.cells v1 (.slice (some ⟨K1.length+2,0,some 1⟩) 1 1)) 44]) (b:=B.length+3) (by simp) (q1.pre (.app B _)) (q2.pre (.app B _))) (by simp) (fun r hr=>by simp at hr;rcases hr with rfl | rfl<;>decide)
  rwa [show unlF ([R1,R2].map fingF)=false from Bool.eq_false_iff.2 fun h=>by have:=(unlF_iff _).1 h;simp [fing2] at this] at this
 have V5:aConv prog B 9 55 (str tx5)=some (.slice (some ⟨B.length,0,some 23⟩) 23 23,B++[sbB tx5]):=aConv_sb B tx5
 have G6:sliceLit prog (B++[sbB tx5]) 55 23 (enumL 0 (bcells tx6)) (.slice (some ⟨(B++[sbB tx5]).length,0,some 23⟩) 23 23) (B++[sbB tx5]++[.cells (bcells tx6) 5]):=sliceLit1 (l:=bcells tx6) (tbs55 _ 23 _) (fun v hv=>by simp only [bcells,List.mem_map] at hv;obtain ⟨b,_,rfl⟩:=hv;rfl) rfl (by decide)
 have V6:=aConv_id (B++[sbB tx5]) [] tx6 (by decide)
 have G1:=rlit1 (B++[sbB tx5,.ro (bcells tx6)]) (r:=R1) (nv:=v1) (mv:=.slice none 0 0) o1 rfl
 have G2:=rlit2 (B++[sbB tx5,.ro (bcells tx6),.cells (R1.cells v1 (.slice none 0 0)) 44]) (r:=R1) (nv:=v1) (mv:=.slice none 0 0) (r':=R2) (nv':=v1) (mv':=.slice (some ⟨K1.length+2,0,some 1⟩) 1 1) o1 rfl o1 rfl
 simp only [List.append_assoc,List.cons_append,List.nil_append,List.length_append,List.length_cons,List.length_nil,Nat.zero_add,Nat.reduceAdd] at V6 G6 G1 G2
 refine ⟨⟨?_,?_,?_⟩,?_,?_,?_⟩<;>repeat (first
  | (refine bndK_same (F1 _ (by first | exact .refl _ | exact .app _ _)) ?_;simp [L3X])
  | (refine bndK_same (F2 _ (by first | exact .refl _ | exact .app _ _)) ?_;simp [L1X])
  | (refine bndK_same (F3 _ (by first | exact .refl _ | exact .app _ _)) ?_;simp)
  | (refine bndK_same (C5 _ (.refl _)) ?_;simp [L2X])
  | (refine bndK_same (C6 _ (.refl _)) ?_;simp)
  | (refine bndK_same (U0 _ (by first | exact .refl _ | exact .app _ _)) ?_;simp [L1X])
  | (refine bndK_ext V5 ⟨_,rfl⟩ ?_;simp)
  | (refine bndK_ext G6 ⟨[.cells (bcells tx6) 5],by simp⟩ ?_;simp)
  | (refine bndK_of V6 (by simp [L3X]) ?_;simp)
  | (refine bndK_same U1 ?_;simp [L1X,L2X])
  | (refine bndK_ext G1 ⟨[.cells (R1.cells v1 (.slice none 0 0)) 44],by simp⟩ ?_;simp)
  | (refine bndK_bar G2 ?_;simp)
  | (refine bndK_same U2 ?_;simp))
 all_goals exact hk _ (pHB.more _)
end Go.Vi
namespace Go.Vi
open Go Go.Proofs Go.Proofs.Tryz
theorem cfg_val {v:Value} (h:v.oneCell'=true):buildV prog 49 [(0,v)]=some (.agg (cfgC v).toArray):=by
 simp [cfgC,stor_one h,cells_one h]
end Go.Vi
namespace Go.Vi
open Go Go.Proofs Go.Proofs.Tryz
theorem bel1g:aElem prog 55=some (5,1,1):=by kernel_rfl
theorem app_bytes {K:AHeap} {b:Nat} {l m:List UInt8} {x:Value} {T:TypeId} (hb:K[b]?=some (.cells (bcells l) 5)) (hs:isSeq prog T=true) (hx:aSrc K 1 x=some (m.length,bcells m)) (hm:0 < m.length) (hl:l.length+m.length≤2 ^ 46) :
  aBuiltin prog K .append #[55,T] [.slice (some ⟨b,0,some l.length⟩) l.length l.length,x]=some (.slice (some ⟨b,0,some (l.length+m.length)⟩) (l.length+m.length) (l.length+m.length),K.set b (.cells (bcells (l++m)) 5)):=by
 have e:(bcells l).length=l.length:=by simp [bcells]
 have h1:¬ l.length+m.length≤l.length:=by omega
 have h2:(l.length+m.length)≤140737488355328:=by omega
 have h3:(l.length+m.length)≤9223372036854775807:=by omega
 have e2:(bcells l).take l.length++bcells m=bcells (l++m):=by rw [List.take_of_length_le (by omega)];simp [bcells]
 simp [aBuiltin,aAppend,bel1g,hx,hs,hb,e,h2,h3,e2]
 omega
theorem app_any {K:AHeap} {b:Nat} {l m:List UInt8} {x:Value} {T:TypeId} (hb:K[b]?=some (.cells (bcells l) 5)) (hs:isSeq prog T=true) (hx:aSrc K 1 x=some (m.length,bcells m)) (hl:l.length+m.length≤2 ^ 46) :
  aBuiltin prog K .append #[55,T] [.slice (some ⟨b,0,some l.length⟩) l.length l.length,x]=some (.slice (some ⟨b,0,some (l++m).length⟩) (l++m).length (l++m).length,K.set b (.cells (bcells (l++m)) 5)):=by
 cases m with
 | cons c m=>rw [app_bytes hb hs hx (by simp) hl,List.length_append]
 | nil =>
   have e:(bcells l).length=l.length:=by simp [bcells]
   have e0:bcells []=[]:=rfl
   rw [e0] at hx
   simp [aBuiltin,aAppend,bel1g,hx,hs,hb,e,putCells]
theorem sbB_cells {l:List UInt8} (h:l≠[]):sbB l=.cells (bcells l) 5:=by
 unfold sbB sbO
 have:¬ (⟨l.toArray⟩:ByteArray).size=0:=fun e=>h (List.eq_nil_of_length_eq_zero e)
 rw [if_neg this,bytes_b]
def fnum (r:Rul) (a b:UInt8):Rul:={ r with forM:=((a.toNat % 10:Nat):Int),every:=((b.toNat % 10:Nat):Int) }
theorem fnum_fit (r:Rul) (a b:UInt8):(fnum r a b).fit:=by
 have:=a.toNat_lt
 have:=b.toNat_lt
 refine ⟨?_,?_,?_,?_⟩<;>(simp only [fnum];omega)
theorem fmt_dig {n:Nat} (h:n < 10):fmtS (n:Int)=[UInt8.ofNat (48+n)]:=by
 have:∀ n:Nat,n < 10→fmtS (n:Int)=[UInt8.ofNat (48+n)]:=by decide +kernel
 exact this n h
theorem fnum_txt (r:Rul) (a b:UInt8):fTxt (fnum r a b)=r.byL++[32]++[UInt8.ofNat (48+a.toNat % 10),32,UInt8.ofNat (48+b.toNat % 10),32]++printS r.nodes:=by
 rw [fTxt_eq]
 simp only [fnum]
 rw [fmt_dig (by omega),fmt_dig (by omega)]
 simp
end Go.Vi
namespace Go.Vi
open Go Go.Proofs Go.Proofs.Tryz
theorem byte_of {n:Int} (h:(Lit.int .u8 n).wf=true):∃ u:UInt8,n=(u.toNat:Int):=by
 simp only [Lit.wf,Bool.and_eq_true,decide_eq_true_eq,show IntKind.u8.min=0 from rfl,show IntKind.u8.max=255 from rfl] at h
 refine ⟨UInt8.ofNat n.toNat,?_⟩
 rw [UInt8.toNat_ofNat_of_lt' (by show n.toNat < 256;omega)]
 omega
theorem crc_pos (l:List UInt8):0≤crcF l:=by
 unfold crcF xorI IntKind.wrap
 simp only [show IntKind.u32.bits=32 from rfl,show IntKind.u32.signed=false from rfl]
 simp
 omega
theorem bndG_unT {want:Bool} {H:AHeap} {e q:QH} (h:q.f undef H):@bndG undef want H e q:=⟨undef,H,⟨rfl,rfl⟩,h⟩
theorem ofNat_digT {d:Nat} (h:d < 10):Value.int .u8 (48+(d:Int))=byt (UInt8.ofNat (48+d)):=by
 have:(UInt8.ofNat (48+d)).toNat=48+d:=UInt8.toNat_ofNat_of_lt' (by show 48+d < 256;omega)
 unfold byt
 rw [this]
 rfl
theorem wrap_digT {d:Nat} (h:d < 10):IntKind.u8.wrap (48+(d:Int))=48+(d:Int):=by unfold IntKind.wrap;simp [IntKind.bits,IntKind.signed];omega
set_option maxRecDepth 50000 in
set_option maxHeartbeats 2000000 in
theorem w_ftext {H:AHeap} {r:Rul} {nv mv:Value} {a b:UInt8} (hg:Pre Gs H) (hr:RulAt H r nv mv):ACalls prog 9 [.agg (r.cells nv mv).toArray,byt a,byt b] H (.bool true) H:=by
 refine acalls_pure MixT func9 (by decide) rfl ?_
 generalize hk0:(fun u H2=>u=Value.bool true∧∃ X,H2=H++X)=k
 have hk:∀ M,Pre H M→k (.bool true) M:=fun M p=>by rw [← hk0];exact ⟨rfl,p⟩
 rw [d9]
 have o1:=hr.o1
 have o2:=hr.o2
 have hnew1:aNew H 44 (.agg (r.cells nv mv).toArray)=some (.pointer (some ⟨H.length,0,some 8⟩),H++[.cells (r.cells nv mv) 44]):=by simp [aNew_agg,Rul.cells,o1,o2]
 rw [hnew1]
 simp only [bndE_some]
 refine bndC_of (c_awake14 (hg.trans (.app H _))) ?_
 simp only [unV_not,bnd_some,Bool.not_true,kifB_false]
 refine bnd_of (rule_get (cs:=r.cells nv mv) (by simp) rfl) ?_
 have G:=rlit1 (H++[AObj.cells (r.cells nv mv) 44]) o1 o2 (r:=r)
 refine bndL_lit G ?_
 refine bnd_of (cfg_val rfl) ?_
 dsimp only
 obtain ⟨t,ht,hcall⟩:=c_BigR (rat1 (K:=H++[AObj.cells (r.cells nv mv) 44]++[.cells (r.cells nv mv) 44]) (b:=(H++[AObj.cells (r.cells nv mv) 44]).length) (by simp) (hr.pre (by rw [List.append_assoc];exact .app H _)))
 refine bndC_of hcall ?_
 cases t with
 | true =>
   simp
   exact hk _ (.app H _)
 | false =>
   have s1:=(ht rfl).2 r (by simp)
   simp only [kifB_false]
   obtain ⟨B,hB⟩:∃ B,B=H++[AObj.cells (r.cells nv mv) 44]++[.cells (r.cells nv mv) 44]:=⟨_,rfl⟩
   have pB:Pre H B:=by rw [hB,List.append_assoc];exact .app _ _
   have c1:B[H.length]?=some (.cells (r.cells nv mv) 44):=by rw [hB];simp
   rw [← hB]
   clear hB hcall G hnew1 ht
   refine bnd_of (remL (a:=a.toNat) (c:=10) (n:=10) rfl (by omega)) ?_
   refine bnd_of (v:=i64 ((a.toNat % 10:Nat):Int)) (by rw [convV_int (k:=.i64) (j:=.u8) (by simp) (by simp),wrap_i64 (by omega) (by omega)]) ?_
   refine bnd_of (remL (a:=b.toNat) (c:=10) (n:=10) rfl (by omega)) ?_
   refine bnd_of (v:=i64 ((b.toNat % 10:Nat):Int)) (by rw [convV_int (k:=.i64) (j:=.u8) (by simp) (by simp),wrap_i64 (by omega) (by omega)]) ?_
   have hB1:hcells B H.length=some (r.cells nv mv):=by simp [hcells,c1]
   have hB2:hlen B H.length=some 8:=by rw [hcells_len hB1];rfl
   have hst1:aStore prog B 3 (.pointer (some ⟨H.length,3,some 8⟩)) (i64 ((a.toNat % 10:Nat):Int))=some (B.set H.length (.cells (Rul.cells { r with forM:=((a.toNat % 10:Nat):Int) } nv mv) 44)):=by simp [c1,Rul.cells,putCells]
   refine bnd_of (v:=.pointer (some ⟨H.length,3,some 8⟩)) (by simp [hB2]) ?_
   dsimp only
   rw [hst1]
   simp only [bndS_some]
   obtain ⟨B1,hB1'⟩:∃ B1,B1=B.set H.length (.cells (Rul.cells { r with forM:=((a.toNat % 10:Nat):Int) } nv mv) 44):=⟨_,rfl⟩
   have d1:B1[H.length]?=some (.cells (Rul.cells { r with forM:=((a.toNat % 10:Nat):Int) } nv mv) 44):=by rw [hB1'];exact get_set c1
   have pB1:Pre H B1:=by rw [hB1'];exact pB.set (Nat.le_refl _)
   rw [← hB1']
   have d2:hlen B1 H.length=some 8:=by rw [hcells_len (cs:=Rul.cells { r with forM:=((a.toNat % 10:Nat):Int) } nv mv) (by simp [hcells,d1])];rfl
   have hst2:aStore prog B1 3 (.pointer (some ⟨H.length,4,some 8⟩)) (i64 ((b.toNat % 10:Nat):Int))=some (B1.set H.length (.cells ((fnum r a b).cells nv mv) 44)):=by simp [d1,Rul.cells,putCells,fnum]
   refine bnd_of (v:=.pointer (some ⟨H.length,4,some 8⟩)) (by simp [d2]) ?_
   dsimp only
   rw [hst2]
   simp only [bndS_some]
   obtain ⟨M,hM⟩:∃ M,M=B1.set H.length (.cells ((fnum r a b).cells nv mv) 44):=⟨_,rfl⟩
   have m1:M[H.length]?=some (.cells ((fnum r a b).cells nv mv) 44):=by rw [hM];exact get_set d1
   have pM:Pre H M:=by rw [hM];exact pB1.set (Nat.le_refl _)
   rw [← hM]
   have g1:hcells M H.length=some ((fnum r a b).cells nv mv):=by simp [hcells,m1]
   have g2:hlen M H.length=some 8:=by rw [hcells_len g1];rfl
   have p1:aLoad prog M 9 (.pointer (some ⟨H.length,1,some 8⟩))=some (str r.byL):=by simp [g1,Rul.cells,fnum]
   refine bnd_of (v:=.pointer (some ⟨H.length,1,some 8⟩)) (by simp [g2]) ?_
   refine bnd_of p1 ?_
   refine bnd_of (v:=str (r.byL++[32])) (aBin_str (b:=[32]) (by have:=s1.1;simp;omega)) ?_
   dsimp only
   rw [aConv_sb,sbB_cells (by simp)]
   simp only [bndE_some]
   obtain ⟨N,hN⟩:∃ N,N=M++[AObj.cells (bcells (r.byL++[32])) 5]:=⟨_,rfl⟩
   have pN:Pre M N:=by rw [hN];exact .app _ _
   rw [← hN]
   have g1N:=pN.hcells g1
   have g2N:hlen N H.length=some 8:=by rw [hcells_len g1N];rfl
   have b1:=s1.1
   have q1:a.toNat % 10 < 10:=by omega
   have q2:b.toNat % 10 < 10:=by omega
   refine bnd_of (v:=.pointer (some ⟨H.length,3,some 8⟩)) (by simp [g2N]) ?_
   refine bnd_of (v:=i64 ((a.toNat % 10:Nat):Int)) (by simp [g1N,Rul.cells,fnum]) ?_
   refine bnd_of (v:=i64 (48+((a.toNat % 10:Nat):Int))) (by rw [aBin_add ..,wrap_i64 (by omega) (by omega)]) ?_
   refine bnd_of (v:=byt (UInt8.ofNat (48+a.toNat % 10))) (by rw [convV_int (k:=.u8) (j:=.i64) (by simp) (by simp),wrap_digT q1,ofNat_digT q1]) ?_
   refine bnd_of (v:=.pointer (some ⟨H.length,4,some 8⟩)) (by simp [g2N]) ?_
   refine bnd_of (v:=i64 ((b.toNat % 10:Nat):Int)) (by simp [g1N,Rul.cells,fnum]) ?_
   refine bnd_of (v:=i64 (48+((b.toNat % 10:Nat):Int))) (by rw [aBin_add ..,wrap_i64 (by omega) (by omega)]) ?_
   refine bnd_of (v:=byt (UInt8.ofNat (48+b.toNat % 10))) (by rw [convV_int (k:=.u8) (j:=.i64) (by simp) (by simp),wrap_digT q2,ofNat_digT q2]) ?_
   refine bndL_lit (sliceLit1 (T:=55) (e:=5) (n:=4) (l:=bcells [UInt8.ofNat (48+a.toNat % 10),32,UInt8.ofNat (48+b.toNat % 10),32]) (tbs55 N 4 _) (by simp [bcells,byt]) rfl (by decide)) ?_
   obtain ⟨l1,hl1⟩:∃ l1,l1=r.byL++[32]:=⟨_,rfl⟩
   obtain ⟨m1,hm1⟩:∃ m1,m1=[UInt8.ofNat (48+a.toNat % 10),32,UInt8.ofNat (48+b.toNat % 10),32]:=⟨_,rfl⟩
   have hm1l:m1.length=4:=by rw [hm1];rfl
   have hl1l:l1.length=r.byL.length+1:=by rw [hl1];simp
   rw [← hl1] at hN
   rw [← hm1,← hl1]
   have k1:N[M.length]?=some (.cells (bcells l1) 5):=by rw [hN];simp
   have k2:(N++[AObj.cells (bcells m1) 5])[M.length]?=some (.cells (bcells l1) 5):=by
    rw [List.getElem?_append_left (List.getElem?_eq_some_iff.1 k1).1];exact k1
   have A1:=app_any (T:=55) (l:=l1) (m:=m1) (x:=.slice (some ⟨N.length,0,some 4⟩) 4 4) k2 (by kernel_rfl) (by simp [aSrc,bcells,hm1l];exact List.take_of_length_le (by simp [hm1l])) (by omega)
   dsimp only
   rw [A1]
   simp only [bndE_some]
   obtain ⟨R,hR⟩:∃ R,R=(N++[AObj.cells (bcells m1) 5]).set M.length (.cells (bcells (l1++m1)) 5):=⟨_,rfl⟩
   have pR:Pre M R:=by rw [hR];exact (pN.more _).set (Nat.le_refl _)
   have k3:R[M.length]?=some (.cells (bcells (l1++m1)) 5):=by rw [hR];exact get_set k2
   rw [← hR]
   have g1R:=pR.hcells g1
   have g2R:hlen R H.length=some 8:=by rw [hcells_len g1R];rfl
   have hgR:Pre Gs R:=(hg.trans pM).trans pR
   have rR:=hr.pre (pM.trans pR)
   refine bnd_of (v:=.pointer (some ⟨H.length,2,some 8⟩)) (by simp [g2R]) ?_
   refine bnd_of (v:=nv) (by simp [g1R,Rul.cells,fnum]) ?_
   refine bndC_of (c_exprPrint (pw_gs hgR) rR.nodes) ?_
   have hpl:=print_len r.nodes
   have A2:=app_any (T:=9) (l:=l1++m1) (m:=printS r.nodes) (x:=str (printS r.nodes)) k3 (by kernel_rfl) (by simp [aSrc,bytesL,bcells]) (by simp;omega)
   dsimp only
   rw [A2]
   simp only [bndE_some]
   obtain ⟨S,hS⟩:∃ S,S=R.set M.length (.cells (bcells (l1++m1++printS r.nodes)) 5):=⟨_,rfl⟩
   have pS:Pre M S:=by rw [hS];exact pR.set (Nat.le_refl _)
   have k4:S[M.length]?=some (.cells (bcells (l1++m1++printS r.nodes)) 5):=by rw [hS];exact get_set k3
   rw [← hS]
   have ht:l1++m1++printS r.nodes=fTxt (fnum r a b):=by rw [hl1,hm1,fnum_txt]
   rw [ht] at k4 ⊢
   have hfl:(fTxt (fnum r a b)).length≤2 ^ 46:=by rw [← ht];simp;omega
   refine bndC_of (c_sum (rowArr (by simp [hcells,k4])) (by omega)) ?_
   have g1S:=pS.hcells g1
   have rS:RulAt S (fnum r a b) nv mv:=by
    have h0:=hr.pre (pM.trans pS)
    exact ⟨h0.nodes,h0.mutes,fnum_fit r a b,h0.mlen⟩
   have hgS:Pre Gs S:=(hg.trans pM).trans pS
   have hf:=c_finger (pw_gs hgS) rS (by show r.byL.length≤2 ^ 20;omega)
   have L1:=rule_get g1S rfl
   refine bnd_of L1 ?_
   refine bndC_of hf ?_
   have pHS:=pM.trans pS
   by_cases hc:1 > crcF (fTxt (fnum r a b))
   · have hfv:fingF (fnum r a b)=1:=by unfold fingF;rw [if_pos hc]
     have h0:crcF (fTxt (fnum r a b))=0:=by have:=crc_pos (fTxt (fnum r a b));omega
     rw [hfv] at hf
     simp [hfv,h0,L1]
     refine bndG_t _ _ hf ?_
     simp
     exact hk _ pHS
   · have hfv:fingF (fnum r a b)=crcF (fTxt (fnum r a b)):=by unfold fingF;rw [if_neg hc]
     simp [hfv]
     refine bndG_unT ?_
     simp
     exact hk _ pHS
end Go.Vi
