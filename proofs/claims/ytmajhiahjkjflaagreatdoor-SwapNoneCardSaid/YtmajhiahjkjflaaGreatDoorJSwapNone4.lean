/- Reading a condition. Numbers' texts that are refused. Numbers are written: how many digits there are. What the functions' bodies come to. Numbers are written: digits. Numbers are written: their texts. Numbers are written: Itoa, TrimRight, fixed.Print. strings.Builder grows ahead; strings.Join. Matchers are written. Matchers are written: the loop. Conditions are written. Right nodes are written: Print. The reader of conditions, whatever it reads: tokens. The reader of conditions, whatever it reads: windows, values, matchers. The reader of conditions, whatever it reads: matchers. The reader of conditions, whatever it reads: comparisons. -/
import Derived.Test.YtmajhiahjkjflaaGreatDoorJSwapNone3
import Derived.Test.YtmajhiahjkjflaaGreatDoorJSwapNone2
import Derived.Test.YtmajhiahjkjflaaGreatDoorChecked
namespace Go.Vi
open Go Go.Proofs Go.Proofs.Tryz
def natF (n:Int):List UInt8→Int
 | []=>n
 | d :: r=>natF (10*n+((d.toNat:Int)-48)) r
theorem atoi_loop {H:AHeap} {v:Value} {l:List UInt8} {k:Value→AHeap→Prop} (ha:Arr H 1 v (l.map fun b=>[byt b])) (hl:l.length≤18) (h1:1≤l.length) (hd:∀ b∈l,isDig b=true) (w:Int)
  (hk:k (.tuple #[i64 w,.nilIface]) H) :
  ∀ (r : List UInt8) (i : Nat) (n : Int) (s0 s1 s2 s3 s4 s7 s8 s9 a c e f g h j m o p s t u y z A B C D E F G I J K L M N O Q R S U V W X Y Z aa ab ac ad ae af ag ah ai aj ak al am an ao ap aq ar au av aw ax ay az aA aB : Value), l.drop i = r → i ≤ l.length → 0 ≤ n → n < 10 ^ i → w = natF n r →
    L116x0 (r.length+1) k [s0,s1,s2,s3,s4,str l,i64 n,s7,s8,s9,a,c,e,f,g,h,j,m,o,p,s,t,u,y,z,A,B,C,D,E,F,G,I,J,K,L,M,N,O,Q,R,S,U,V,W,X,Y,v,i64 l.length,i64 i,Z,aa,ab,ac,ad,ae,af,ag,ah,ai,aj,ak,al,am,an,ao,ap,aq,ar,au,av,aw,ax,ay,az,aA,aB] H:=by
 intro r
 induction r with
 | nil =>
   intro i n s0 s1 s2 s3 s4 s7 s8 s9 a c e f g h j m o p s t u y z A B C D E F G I J K L M N O Q R S U V W X Y Z aa ab ac ad ae af ag ah ai aj ak al am an ao ap aq ar au av aw ax ay az aA aB hdr hi hn1 hn2 hw
   have hle:l.length≤i:=by simpa using hdr
   rw [List.length_nil,L116x0q]
   have:¬ i < l.length:=by omega
   obtain ⟨b0,hb0⟩:∃ b,l[0]?=some b:=⟨_,List.getElem?_eq_getElem (by omega)⟩
   have hix:=aIndex_at (P:=prog) (T:=9) (k:=.i64) (i:=0) (by simp) hb0
   have hdd:=hd b0 (List.mem_of_getElem? hb0)
   simp only [isDig,Bool.and_eq_true,decide_eq_true_eq] at hdd
   have h45:((b0.toNat:Int) == 45)=false:=by simp;omega
   simp only [natF] at hw
   subst hw
   simp at hix
   simp [this,hix,h45]
   rw [S116x1q]
   exact hk
 | cons d r ih =>
   intro i n s0 s1 s2 s3 s4 s7 s8 s9 a c e f g h j m o p s t u y z A B C D E F G I J K L M N O Q R S U V W X Y Z aa ab ac ad ae af ag ah ai aj ak al am an ao ap aq ar au av aw ax ay az aA aB hdr hi hn1 hn2 hw
   have hb:l[i]?=some d:=by rw [← List.head?_drop,hdr];rfl
   have hlt:i < l.length:=(List.getElem?_eq_some_iff.1 hb).1
   have hdd:=hd d (List.mem_of_getElem? hb)
   simp only [isDig,Bool.and_eq_true,decide_eq_true_eq] at hdd
   obtain ⟨q,hp1,hp2⟩:=ha.load1 (P:=prog) (T:=69) (te:=5) (i:=i) (x:=byt d) (by simp) (by simp) (by simp) (by rw [List.getElem?_map,hb];rfl)
   have w1:IntKind.u8.wrap ((d.toNat:Int)-48)=(d.toNat:Int)-48:=wrap_u8 (by omega) (by omega)
   have w2:IntKind.i64.wrap ((d.toNat:Int)-48)=(d.toNat:Int)-48:=wrap_i64 (by omega) (by omega)
   have hp:(10:Int) ^ (i+1)≤10 ^ 18:=by exact_mod_cast Nat.pow_le_pow_right (by omega:0 < 10) (by omega:i+1≤18)
   have hpe:(10:Int) ^ (i+1)=10 ^ i*10:=Int.pow_succ ..
   have w3:IntKind.i64.wrap (n*10)=n*10:=wrap_i64 (by omega) (by omega)
   have w4:IntKind.i64.wrap (n*10+((d.toNat:Int)-48))=n*10+((d.toNat:Int)-48):=wrap_i64 (by omega) (by omega)
   have h9:¬ (9 < (d.toNat:Int)-48):=by omega
   rw [List.length_cons,L116x0q]
   simp [hlt,hp1,hp2,w1,w2,w3,w4,h9,convV_int,show i+1 < 2 ^ 63 by omega]
   exact ih (i+1) _ _ _ _ _ _ _ _ _ _ _ _ _ _ _ _ _ _ _ _ _ _ _ _ _ _ _ _ _ _ _ _ _ _ _ _ _ _ _ _ _ _ _ _ _ _ _ _ _ _ _ _ _ _ _ _ _ _ _ _ _ _ _ _ _ _ _ _ _ _ _ _ _ (by rw [← List.drop_drop,hdr];rfl) hlt (by omega) (by omega) (by rw [hw,natF];congr 1;omega)
theorem c_atoi0 {H:AHeap} {l:List UInt8} (hl:l.length≤18) (h1:1≤l.length) (hd:∀ b∈l,isDig b=true):ACalls prog 116 [str l] H (.tuple #[i64 (natF 0 l),.nilIface]) H:=by
 refine acallsT_pure MixT func116 (by decide) rfl ?_
 rw [d116]
 obtain ⟨b0,hb0⟩:∃ b,l[0]?=some b:=⟨_,List.getElem?_eq_getElem (by omega)⟩
 have hix:=aIndex_at (P:=prog) (T:=9) (k:=.i64) (i:=0) (by simp) hb0
 have hdd:=hd b0 (List.mem_of_getElem? hb0)
 simp only [isDig,Bool.and_eq_true,decide_eq_true_eq] at hdd
 have h45:((b0.toNat:Int) == 45)=false:=by simp;omega
 have h43:((b0.toNat:Int) == 43)=false:=by simp;omega
 have q1:(0:Int) < l.length:=by omega
 have q2:(l.length:Int) < 19:=by omega
 have q3:0 < l.length:=by omega
 simp at hix
 simp [q2,q3,hix,h45,h43]
 rw [S116x0q]
 have hcv:aConv prog H 9 69 (str l)=some (.slice (some ⟨H.length,0,some l.length⟩) l.length l.length,H++[sbO 5 ⟨l.toArray⟩]):=by
  have hu:isU8 prog 5=true:=by kernel_rfl
  simp [aConv,hu]
 simp [hcv]
 exact ⟨l.length+1,atoi_loop (arr_bytes l) hl h1 hd (natF 0 l) ⟨rfl,[_],rfl⟩ l 0 0 _ _ _ _ _ _ _ _ _ _ _ _ _ _ _ _ _ _ _ _ _ _ _ _ _ _ _ _ _ _ _ _ _ _ _ _ _ _ _ _ _ _ _ _ _ _ _ _ _ _ _ _ _ _ _ _ _ _ _ _ _ _ _ _ _ _ _ _ _ _ _ _ rfl (by omega) (by omega) (by omega) rfl⟩
def cmpNod (i:Nat) (w:Int) (j:Nat) (x:Int):Nod:=⟨0,UInt8.ofNat i,[],w,UInt8.ofNat j,x,0,0⟩
def nodZ:List Value:=[.int .u8 0,.int .u8 0,.slice none 0 0,i64 0,.int .u8 0,i64 0,i64 0,i64 0]
theorem arr_strs {H:AHeap} (l:List (List UInt8)) (T:TypeId) (n:Nat) (hn:n=l.length):Arr (H++[AObj.cells (l.map str) T]) 1 (.slice (some ⟨H.length,0,some n⟩) n n) (strCells l):=by
 subst hn
 refine .mk H.length 0 _ _ _ (l.map str) _ (by simp [strCells]) (by simp [hcells_eq,AObj.rcells]) (by simp) (by simp) fun i e hi=>?_
 simp [strCells] at hi
 obtain ⟨b,hb,rfl⟩:=hi
 rw [Nat.zero_add,Nat.mul_one,← List.map_drop,← List.map_take]
 have:(l.drop i).take 1=[b]:=by
  have hlt:=(List.getElem?_eq_some_iff.1 hb).1
  rw [List.drop_eq_getElem_cons hlt,(List.getElem?_eq_some_iff.1 hb).2];rfl
 rw [this];rfl
end Go.Vi
namespace Go.Vi
open Go Go.Proofs Go.Proofs.Tryz
theorem aLoad_gl {P:Program} {H:AHeap} {T:TypeId} {g o b n:Nat} (h:gFind H g 0=some (b,n)):aLoad P H T (.pointer (some ⟨g,o,none⟩))=aLoad P H T (.pointer (some ⟨b,o,some n⟩)):=by
 unfold aLoad deG;simp only [h]
theorem aIndexAddr_gl {P:Program} {H:AHeap} {T:TypeId} {g o b n:Nat} {x:Value} (h:gFind H g 0=some (b,n)):aIndexAddr P H T (.pointer (some ⟨g,o,none⟩)) x=aIndexAddr P H T (.pointer (some ⟨b,o,some n⟩)) x:=by
 unfold aIndexAddr deG;simp only [h]
def pow10s:List Value:=(List.range 20).map fun i=>.int .u64 (10 ^ i)
def Gs:AHeap:=[.gl 2 [unkV],.gl 3 [unkV],.gl 1 pow10s]
theorem gs_syn {H:AHeap} (h:Pre Gs H):gFind H 2 0=some (0,1)∧hcells H 0=some [unkV]:=by
 obtain ⟨X,rfl⟩:=h;exact ⟨gFind_app (by rfl),hcells_more (by rfl)⟩
theorem gs_ran {H:AHeap} (h:Pre Gs H):gFind H 3 0=some (1,1)∧hcells H 1=some [unkV]:=by
 obtain ⟨X,rfl⟩:=h;exact ⟨gFind_app (by rfl),hcells_more (by rfl)⟩
theorem gs_pow {H:AHeap} (h:Pre Gs H):gFind H 1 0=some (2,20)∧hcells H 2=some pow10s:=by
 obtain ⟨X,rfl⟩:=h;exact ⟨gFind_app (by rfl),hcells_more (by rfl)⟩
theorem unk_sto:storable unkV=true:=rfl
theorem unk_cel:unkV.cells = #[unkV]:=rfl
theorem c_clone (H:AHeap) {s:List UInt8} (hs:s.length < 2 ^ 40):ACalls prog 153 [str s] H (str s) H:=by
 refine acalls_pure MixT func153 (by decide) rfl ?_
 rw [d153]
 cases s with
 | nil=>simp
 | cons b r =>
   simp only [List.length_cons] at hs
   have hz:zcells prog 5=some #[.int .u8 0]:=by kernel_rfl
   have h1:¬ ((r.length:Int)+1=0):=by omega
   have h2:(r.length:Int)+1≤9223372036854775807:=by omega
   have h3:(r.length:Int)+1≤140737488355328:=by omega
   have hmk:aMake prog H 69 (i64 ((r.length:Int)+1)) (i64 ((r.length:Int)+1))=some (.slice (some ⟨H.length,0,some (r.length+1)⟩) (r.length+1) (r.length+1),H++[.cells (repCells #[.int .u8 0] (r.length+1)).toList 5]):=by
    have e:((r.length:Int)+1).toNat=r.length+1:=by omega
    simp [aMake,hz,h2,h3,e]
    omega
   have hrl:(repCells #[.int .u8 0] (r.length+1)).toList.length=r.length+1:=by simp [repCells]
   have h1':((r.length:Int)+1 == 0)=false:=by simpa using h1
   have hce:prog.cellsOf 5=1:=by kernel_rfl
   have hu:u8l (bcells (b :: r))=some (b :: r):=u8l_bcells _
   have hcp:aBuiltin prog (H++[.cells (repCells #[.int .u8 0] (r.length+1)).toList 5]) .copy #[69,9] [.slice (some ⟨H.length,0,some (r.length+1)⟩) (r.length+1) (r.length+1),str (b :: r)] =
     some (i64 ((r.length:Int)+1),H++[.cells (bcells (b :: r)) 5]):=by
    simp [aBuiltin,aCopy,aSrc,hrl,bytesL,bcells]
   have hbl:(bcells (b :: r)).length=r.length+1:=by simp [bcells]
   have htk:(bcells (b :: r)).take (r.length+1)=bcells (b :: r):=by rw [← hbl,List.take_length]
   have e2:((r.length:Int)+1).toNat=r.length+1:=by omega
   have hus:aBuiltin prog (H++[.cells (bcells (b :: r)) 5]) .unsafeString #[127,3] [.pointer (some ⟨H.length,0,some (r.length+1)⟩),i64 ((r.length:Int)+1)]=some (str (b :: r),H++[.ro (bcells (b :: r))]):=by
    simp [aBuiltin,aUnsafeString,hce,hbl,h2,e2,htk,hu]
   have hia:aIndexAddr prog (H++[.cells (bcells (b :: r)) 5]) 69 (.slice (some ⟨H.length,0,some (r.length+1)⟩) (r.length+1) (r.length+1)) (.int .i64 0)=some (.pointer (some ⟨H.length,0,some (r.length+1)⟩)):=by
    rw [aIndexAddr_eq (e:=5) (z:=1) (by simp) (by simp) (by simp [hbl]) (by omega) (by omega)];rfl
   simp [h1',hmk,hcp,hia,hus]
theorem c_synErr {H:AHeap} (hg:Pre Gs H) {s f:List UInt8} (hs:s.length < 2 ^ 40) :
  ∃ v K',(∃ p,v=.pointer (some p))∧Pre H K'∧ACalls prog 138 [str f,str s] H v K':=by
 suffices h:∃ v K',((∃ p,v=.pointer (some p))∧Pre H K')∧ACalls prog 138 [str f,str s] H v K' by
  obtain ⟨v,K',⟨h1,h2⟩,h3⟩:=h;exact ⟨v,K',h1,h2,h3⟩
 refine acalls_ex MixT func138 (by decide) ?_
 rw [d138]
 obtain ⟨g1,g2⟩:=gs_syn hg
 refine bndD_same (c_clone H hs) ?_
 simp [aLoad_gl g1,g2,unk_sto,unk_cel]
 refine bndD_of (v:=_) (H':=_) (aNew_agg rfl) (.inl rfl) ?_
 exact ⟨⟨_,rfl⟩,.app _ _⟩
theorem c_ranErr {H:AHeap} (hg:Pre Gs H) {s f:List UInt8} (hs:s.length < 2 ^ 40) :
  ∃ v K',(∃ p,v=.pointer (some p))∧Pre H K'∧ACalls prog 139 [str f,str s] H v K':=by
 suffices h:∃ v K',((∃ p,v=.pointer (some p))∧Pre H K')∧ACalls prog 139 [str f,str s] H v K' by
  obtain ⟨v,K',⟨h1,h2⟩,h3⟩:=h;exact ⟨v,K',h1,h2,h3⟩
 refine acalls_ex MixT func139 (by decide) ?_
 rw [d139]
 obtain ⟨g1,g2⟩:=gs_ran hg
 refine bndD_same (c_clone H hs) ?_
 simp [aLoad_gl g1,g2,unk_sto,unk_cel]
 refine bndD_of (v:=_) (H':=_) (aNew_agg rfl) (.inl rfl) ?_
 exact ⟨⟨_,rfl⟩,.app _ _⟩
abbrev nerr (n:Int):Value:=.iface 201 (i64 n)
theorem nerr_eql (H:AHeap) (x y:Operand):aBin2 prog H .eql 96 x y (nerr 2) (nerr 2)=some (.bool true)∧aBin2 prog H .eql 96 x y (nerr 1) (nerr 2)=some (.bool false)∧aBin2 prog H .eql 96 x y (nerr 1) (nerr 1)=some (.bool true):=⟨by kernel_rfl,by kernel_rfl,by kernel_rfl⟩
theorem nerr_neq (H:AHeap) (x y:Operand):aBin2 prog H .neq 96 x y (nerr 1) (nerr 1)=some (.bool false)∧aBin2 prog H .neq 96 x y (nerr 2) (nerr 1)=some (.bool true):=⟨by kernel_rfl,by kernel_rfl⟩
theorem nerr_nil (H:AHeap) (x:Operand) (c:Value) (n:Int):aBin2 prog H .neq 96 x (.const c) (nerr n) .nilIface=some (.bool true):=by kernel_rfl
theorem c_toError {H:AHeap} (hg:Pre Gs H) {s f:List UInt8} {n a b:Int} (hn:n=1∨n=2) (hs:s.length < 2 ^ 40) :
  ∃ v K',(∃ p,v=.iface 204 (.pointer (some p)))∧Pre H K'∧ACalls prog 117 [str f,str s,i64 a,i64 b,nerr n] H v K':=by
 suffices h:∃ v K',((∃ p,v=.iface 204 (.pointer (some p)))∧Pre H K')∧ACalls prog 117 [str f,str s,i64 a,i64 b,nerr n] H v K' by
  obtain ⟨v,K',⟨h1,h2⟩,h3⟩:=h;exact ⟨v,K',h1,h2,h3⟩
 refine acalls_ex MixT func117 (by decide) ?_
 rw [d117]
 rcases hn with rfl | rfl
 · obtain ⟨v,K',⟨p,rfl⟩,h2,h3⟩:=c_ranErr (f:=f) hg hs
   simp [nerr_eql]
   exact bndC_of h3 ⟨⟨_,rfl⟩,h2⟩
 · obtain ⟨v,K',⟨p,rfl⟩,h2,h3⟩:=c_synErr (f:=f) hg hs
   simp [nerr_eql]
   exact bndC_of h3 ⟨⟨_,rfl⟩,h2⟩
def maxU:Int:=18446744073709551615
theorem c_lower46 (H:AHeap):ACalls prog 160 [.int .u8 46] H (.int .u8 46) H:=by
 refine acalls_pure MixT func160 (by decide) rfl ?_
 rw [d160]
 refine bnd_of (v:=.int .u8 46) (by kernel_rfl) ?_
 exact ⟨rfl,[],by simp⟩
def puF (n:Int):List UInt8→Int × Int
 | []=>(n,0)
 | d :: r=>if isDig d=false then (0,2) else if n ≥ 1844674407370955162 then (maxU,1) else if n*10+((d.toNat:Int)-48) > maxU then (maxU,1) else puF (n*10+((d.toNat:Int)-48)) r
def perr (c:Int):Value:=if c=0 then .nilIface else nerr c
theorem perr_clos (c:Int):clos (perr c)=true:=by unfold perr;split<;>rfl
theorem pu_loop {H:AHeap} {v:Value} {l:List UInt8} {k:Value→AHeap→Prop} (ha:Arr H 1 v (l.map fun b=>[byt b])) (hl:l.length < 2 ^ 62) (hd:∀ b∈l,isDig b=true∨b=46) (w:Int × Int)
  (hk:k (.tuple #[.int .u64 w.1,perr w.2]) H) :
  ∀ (r : List UInt8) (i : Nat) (n : Int) (s0 s2 s3 s4 s5 s6 s7 s9 aI aJ aK aL aM aN aO aP aQ aR aS aT aU aV aW aX aY aZ a0 a1 a2 a3 a4 a5 a6 a7 a8 a9 ba bb bc bd be bf bg bh bi bj bk bl bm bn bo bp bq br bs bt bu bv bw bx bz bA bB bC bD bE bF bG bH bI bJ bK bL bM bN bO bP bQ bR bS bT bU bV bW bX bY bZ b0 b1 b2 b3 b4 b5 a c e f g h j m o p s t u y z A B C D E F G I J K L M N O Q R S U V W X Y Z aa ab ac ad ae af ag ah ai aj ak al am an ao ap aq ar au av aw ax ay az aA aB aC aD aE aF aG aH : Value), l.drop i = r → i ≤ l.length → 0 ≤ n → n ≤ maxU → w = puF n r →
    L152x0 (r.length+1) k [s0,i64 10,s2,s3,s4,s5,s6,s7,.bool false,s9,.int .u64 1844674407370955162,.int .u64 18446744073709551615,.bool false,.int .u64 n,aI,aJ,aK,aL,aM,aN,aO,aP,aQ,aR,aS,aT,aU,aV,aW,aX,aY,aZ,a0,a1,a2,a3,a4,a5,a6,a7,a8,a9,ba,bb,bc,bd,be,bf,bg,bh,bi,bj,bk,bl,bm,bn,bo,bp,bq,br,bs,bt,bu,bv,bw,bx,bz,bA,bB,bC,bD,bE,bF,bG,bH,bI,bJ,bK,bL,bM,bN,bO,bP,bQ,bR,bS,bT,bU,bV,bW,bX,bY,bZ,b0,b1,b2,b3,b4,b5,v,i64 l.length,i64 i,a,c,e,f,g,h,j,m,o,p,s,t,u,y,z,A,B,C,D,E,F,G,I,J,K,L,M,N,O,Q,R,S,U,V,W,X,Y,Z,aa,ab,ac,ad,ae,af,ag,ah,ai,aj,ak,al,am,an,ao,ap,aq,ar,au,av,aw,ax,ay,az,aA,aB,aC,aD,aE,aF,aG,aH] H:=by
 intro r
 induction r with
 | nil =>
   intro i n s0 s2 s3 s4 s5 s6 s7 s9 aI aJ aK aL aM aN aO aP aQ aR aS aT aU aV aW aX aY aZ a0 a1 a2 a3 a4 a5 a6 a7 a8 a9 ba bb bc bd be bf bg bh bi bj bk bl bm bn bo bp bq br bs bt bu bv bw bx bz bA bB bC bD bE bF bG bH bI bJ bK bL bM bN bO bP bQ bR bS bT bU bV bW bX bY bZ b0 b1 b2 b3 b4 b5 a c e f g h j m o p s t u y z A B C D E F G I J K L M N O Q R S U V W X Y Z aa ab ac ad ae af ag ah ai aj ak al am an ao ap aq ar au av aw ax ay az aA aB aC aD aE aF aG aH hdr hi hn1 hn2 hw
   have hle:l.length≤i:=by simpa using hdr
   rw [List.length_nil,L152x0q]
   have:¬ i < l.length:=by omega
   simp only [puF] at hw
   subst hw
   simp [this]
   exact hk
 | cons d r ih =>
   intro i n s0 s2 s3 s4 s5 s6 s7 s9 aI aJ aK aL aM aN aO aP aQ aR aS aT aU aV aW aX aY aZ a0 a1 a2 a3 a4 a5 a6 a7 a8 a9 ba bb bc bd be bf bg bh bi bj bk bl bm bn bo bp bq br bs bt bu bv bw bx bz bA bB bC bD bE bF bG bH bI bJ bK bL bM bN bO bP bQ bR bS bT bU bV bW bX bY bZ b0 b1 b2 b3 b4 b5 a c e f g h j m o p s t u y z A B C D E F G I J K L M N O Q R S U V W X Y Z aa ab ac ad ae af ag ah ai aj ak al am an ao ap aq ar au av aw ax ay az aA aB aC aD aE aF aG aH hdr hi hn1 hn2 hw
   have hb:l[i]?=some d:=by rw [← List.head?_drop,hdr];rfl
   have hlt:i < l.length:=(List.getElem?_eq_some_iff.1 hb).1
   obtain ⟨q,hp1,hp2⟩:=ha.load1 (P:=prog) (T:=69) (te:=5) (i:=i) (x:=byt d) (by simp) (by simp) (by simp) (by rw [List.getElem?_map,hb];rfl)
   rw [List.length_cons,L152x0q]
   rcases hd d (List.mem_of_getElem? hb) with hdd | rfl
   · have hdd2:=hdd
     simp only [isDig,Bool.and_eq_true,decide_eq_true_eq] at hdd
     have w1:IntKind.u8.wrap ((d.toNat:Int)-48)=(d.toNat:Int)-48:=wrap_u8 (by omega) (by omega)
     have h95:((d.toNat:Int) == 95)=false:=by simp;omega
     have w10:IntKind.u8.wrap 10=10:=by decide
     have v10:IntKind.u64.wrap 10=10:=by decide
     have wu:∀ x:Int,0≤x→x≤maxU→IntKind.u64.wrap x=x:=by
      intro x h1 h2
      unfold maxU at h2
      unfold IntKind.wrap
      simp only [show IntKind.u64.bits=64 from rfl,show IntKind.u64.signed=false from rfl]
      simp
      omega
     have w2:IntKind.u64.wrap ((d.toNat:Int)-48)=(d.toNat:Int)-48:=wu _ (by omega) (by unfold maxU;omega)
     have h10:¬ ((d.toNat:Int)-48 ≥ 10):=by omega
     simp only [puF,hdd2,Bool.true_eq_false,if_false] at hw
     simp [hlt,hp1,hp2,h95,hdd.1,hdd.2,w1]
     rw [S152x3q]
     have h10':¬ (10≤(d.toNat:Int)-48):=by omega
     simp [convV_int,w10,h10']
     refine kifB_bool (fun hc=>?_) (fun hc=>?_)
     · have hc':n ≥ 1844674407370955162:=by simpa using hc
       rw [if_pos hc'] at hw
       subst hw
       exact hk
     · have hc':¬ n ≥ 1844674407370955162:=by simpa using hc
       rw [if_neg hc'] at hw
       have w3:IntKind.u64.wrap (n*10)=n*10:=wu _ (by omega) (by unfold maxU;omega)
       by_cases hs:n*10+((d.toNat:Int)-48) > maxU
       · rw [if_pos hs] at hw
         subst hw
         have w4:IntKind.u64.wrap (n*10+((d.toNat:Int)-48))=n*10+((d.toNat:Int)-48)-18446744073709551616:=by
          unfold maxU at hs
          unfold IntKind.wrap
          simp only [show IntKind.u64.bits=64 from rfl,show IntKind.u64.signed=false from rfl]
          simp
          omega
         have h5:n*10+((d.toNat:Int)-48)-18446744073709551616 < n*10:=by omega
         simp [v10,w2,w3,w4,h5]
         exact hk
       · rw [if_neg hs] at hw
         have w4:IntKind.u64.wrap (n*10+((d.toNat:Int)-48))=n*10+((d.toNat:Int)-48):=wu _ (by omega) (by omega)
         have h5:¬ n*10+((d.toNat:Int)-48) < n*10:=by omega
         have h6:¬ (18446744073709551615 < n*10+((d.toNat:Int)-48)):=by unfold maxU at hs;omega
         simp [v10,w2,w3,w4,h5,h6]
         rw [S152x4q]
         simp [show i+1 < 2 ^ 63 by omega]
         exact ih (i+1) _ _ _ _ _ _ _ _ _ _ _ _ _ _ _ _ _ _ _ _ _ _ _ _ _ _ _ _ _ _ _ _ _ _ _ _ _ _ _ _ _ _ _ _ _ _ _ _ _ _ _ _ _ _ _ _ _ _ _ _ _ _ _ _ _ _ _ _ _ _ _ _ _ _ _ _ _ _ _ _ _ _ _ _ _ _ _ _ _ _ _ _ _ _ _ _ _ _ _ _ _ _ _ _ _ _ _ _ _ _ _ _ _ _ _ _ _ _ _ _ _ _ _ _ _ _ _ _ _ _ _ _ _ _ _ _ _ _ _ _ _ _ _ _ _ _ _ _ _ _ _ _ _ _ _ _ _ _ _ _ _ _ _ _ (by rw [← List.drop_drop,hdr];rfl) hlt (by omega) (by omega) hw
   · simp only [puF,show isDig 46=false by decide,if_true] at hw
     subst hw
     have e46:((46:UInt8).toNat:Int)=46:=rfl
     have hp2':aLoad prog H 5 q=some (.int .u8 46):=hp2
     simp [hlt,hp1,hp2']
     refine bndC_of (c_lower46 H) ?_
     simp
     exact hk
theorem c_parseUint {H:AHeap} {l:List UInt8} (hl:l.length < 2 ^ 40) (hne:l≠[]) (hd:∀ b∈l,isDig b=true∨b=46) :
  ACalls prog 152 [str l,i64 10,i64 0] H (.tuple #[.int .u64 (puF 0 l).1,perr (puF 0 l).2]) H:=by
 refine acallsT_pure MixT func152 (by decide) (by simp [flat,perr_clos];rfl) ?_
 rw [d152]
 simp [hne]
 rw [S152x0q]
 simp
 rw [S152x1q]
 simp
 rw [S152x2q]
 have hcv:aConv prog H 9 69 (str l)=some (.slice (some ⟨H.length,0,some l.length⟩) l.length l.length,H++[sbO 5 ⟨l.toArray⟩]):=by
  have hu:isU8 prog 5=true:=by kernel_rfl
  simp [aConv,hu]
 have w1:IntKind.u64.wrap 64=64:=by decide
 have w2:∀ (x y:Operand),aBin2 prog H .shl 117 x y (.int .u64 1) (.int .u64 64)=some (.int .u64 0):=fun x y=>by
  rw [aBin_shl _ _ _ _ _ _ _ (by omega)];rfl
 have w3:IntKind.u64.wrap (0-1)=18446744073709551615:=by decide
 have w4:IntKind.u64.wrap (-1)=18446744073709551615:=by decide
 simp [convV_int,hcv,w1,w2,w4]
 exact ⟨l.length+1,pu_loop (arr_bytes l) (by omega) hd (puF 0 l) ⟨rfl,[_],rfl⟩ l 0 0 _ _ _ _ _ _ _ _ _ _ _ _ _ _ _ _ _ _ _ _ _ _ _ _ _ _ _ _ _ _ _ _ _ _ _ _ _ _ _ _ _ _ _ _ _ _ _ _ _ _ _ _ _ _ _ _ _ _ _ _ _ _ _ _ _ _ _ _ _ _ _ _ _ _ _ _ _ _ _ _ _ _ _ _ _ _ _ _ _ _ _ _ _ _ _ _ _ _ _ _ _ _ _ _ _ _ _ _ _ _ _ _ _ _ _ _ _ _ _ _ _ _ _ _ _ _ _ _ _ _ _ _ _ _ _ _ _ _ _ _ _ _ _ _ _ _ _ _ _ _ _ _ _ _ _ _ _ _ _ _ _ _ _ rfl (by omega) (by omega) (by unfold maxU;omega) rfl⟩
def piF (l:List UInt8):Int × Int:=if (puF 0 l).2=2 then (0,2) else if (puF 0 l).1 ≥ 9223372036854775808 then (9223372036854775807,1) else ((puF 0 l).1,0)
theorem puF_cases:∀ (l:List UInt8) (n:Int),0≤n→n≤maxU→((puF n l).2=0∧l.all isDig=true∧(puF n l).1=natF n l∧0≤natF n l∧natF n l≤maxU)∨((puF n l).2=1∧(puF n l).1=maxU∧(l.all isDig=true→maxU < natF n l))∨((puF n l).2=2∧(puF n l).1=0∧l.all isDig=false):=by
 intro l
 induction l with
 | nil=>intro n h1 h2;exact .inl ⟨rfl,rfl,rfl,h1,h2⟩
 | cons d r ih =>
   intro n h1 h2
   have mono:∀ (r:List UInt8) (m:Int),r.all isDig=true→maxU < m→maxU < natF m r:=by
    intro r
    induction r with
    | nil=>intro m _ h;exact h
    | cons e r ih2 =>
      intro m h hm
      simp only [List.all_cons,Bool.and_eq_true,isDig,decide_eq_true_eq] at h
      simp only [natF]
      refine ih2 _ (by simpa [isDig] using h.2) ?_
      unfold maxU at hm ⊢
      omega
   by_cases hd:isDig d=true
   · have hdd:=hd
     simp only [isDig,Bool.and_eq_true,decide_eq_true_eq] at hdd
     have e:n*10+((d.toNat:Int)-48)=10*n+((d.toNat:Int)-48):=by omega
     simp only [puF,hd,Bool.true_eq_false,if_false,natF,List.all_cons,Bool.true_and,e]
     by_cases hc:n ≥ 1844674407370955162
     · rw [if_pos hc]
       exact .inr (.inl ⟨rfl,rfl,fun h=>mono r _ h (by unfold maxU;omega)⟩)
     · rw [if_neg hc]
       by_cases hs:10*n+((d.toNat:Int)-48) > maxU
       · rw [if_pos hs]
         exact .inr (.inl ⟨rfl,rfl,fun h=>mono r _ h hs⟩)
       · rw [if_neg hs]
         exact ih _ (by omega) (by omega)
   · have hd':isDig d=false:=by simpa using hd
     simp only [puF,hd',if_true,List.all_cons,Bool.false_and]
     exact .inr (.inr ⟨by simp,by simp,by simp⟩)
theorem c_parseInt0 (H:AHeap):ACalls prog 137 [str [],i64 10,i64 0] H (.tuple #[i64 0,nerr 2]) H:=by
 refine acallsT_pure MixT func137 (by decide) rfl ?_
 rw [d137]
 simp
theorem c_parseInt {H:AHeap} {l:List UInt8} {d0:UInt8} {r:List UInt8} (hl:l.length < 2 ^ 40) (hlr:l=d0 :: r) (h0:isDig d0=true) (hd:∀ b∈l,isDig b=true∨b=46) :
  ACalls prog 137 [str l,i64 10,i64 0] H (.tuple #[i64 (piF l).1,perr (piF l).2]) H:=by
 refine acallsT_pure MixT func137 (by decide) (by simp [flat,perr_clos];rfl) ?_
 rw [d137]
 have hne:l≠[]:=by rw [hlr];simp
 have hb:l[0]?=some d0:=by rw [hlr];rfl
 have hix:=aIndex_at (P:=prog) (T:=9) (k:=.i64) (i:=0) (by simp) hb
 have hdd:=h0
 simp only [isDig,Bool.and_eq_true,decide_eq_true_eq] at hdd
 have h45:((d0.toNat:Int) == 45)=false:=by simp;omega
 have h43:((d0.toNat:Int) == 43)=false:=by simp;omega
 simp at hix
 simp [hne,hix,h45,h43]
 rw [S137x0q]
 refine bndC_of (c_parseUint hl hne hd) ?_
 have hu:=tu96
 have w63:∀ (x y:Operand),aBin2 prog H .shl 117 x y (.int .u64 1) (.int .u64 63)=some (.int .u64 9223372036854775808):=fun x y=>by
  rw [aBin_shl _ _ _ _ _ _ _ (by omega)];rfl
 have v1:IntKind.i64.wrap 63=63:=by decide
 have v2:IntKind.u64.wrap 63=63:=by decide
 have v3:IntKind.u64.wrap 9223372036854775807=9223372036854775807:=by decide
 have v4:IntKind.i64.wrap 9223372036854775807=9223372036854775807:=by decide
 have v0:IntKind.i64.wrap (64-1)=63:=by decide
 have v5:IntKind.u64.wrap (9223372036854775808-1)=9223372036854775807:=by decide
 have hif:ifaceV prog 201 (.int .i64 1)=some (nerr 1):=by kernel_rfl
 rcases puF_cases l 0 (by omega) (by unfold maxU;omega) with ⟨q1,q2,q3,q4,q5⟩ | ⟨q1,q2,q3⟩ | ⟨q1,q2,q3⟩
 · simp [q1,perr,aBin_nilifn hu]
   rw [S137x1q]
   simp [v1,v2,w63,convV_int]
   refine kifB_bool (fun hc=>?_) (fun hc=>?_)
   · have hc':(puF 0 l).1 ≥ 9223372036854775808:=by simpa using hc
     simp [v3,v4,convV_int,piF,q1,hc']
   · have hc':¬ 9223372036854775808≤(puF 0 l).1:=by simpa using hc
     have v6:IntKind.i64.wrap (puF 0 l).1=(puF 0 l).1:=wrap_i64 (by omega) (by omega)
     simp [convV_int,v6]
     rw [S137x2q]
     simp [piF,q1,hc']
 · simp [q1,perr,nerr_nil,nerr_neq,hif]
   rw [S137x1q]
   simp [v1,v2,v3,v4,w63,convV_int,q2,maxU,piF,q1]
 · simp [q1,perr,nerr_nil,nerr_neq,piF,hif]
def atoF (l:List UInt8):Option Int:=if l≠[]∧l.all isDig=true∧natF 0 l≤9223372036854775807 then some (natF 0 l) else none
theorem piF_ato {l:List UInt8} (hne:l≠[]):(∃ n,atoF l=some n∧piF l=(n,0))∨(atoF l=none∧((piF l).2=1∨(piF l).2=2)):=by
 unfold atoF piF
 rcases puF_cases l 0 (by omega) (by unfold maxU;omega) with ⟨q1,q2,q3,q4,q5⟩ | ⟨q1,q2,q3⟩ | ⟨q1,q2,q3⟩
 · rw [q3]
   by_cases hc:natF 0 l≤9223372036854775807
   · exact .inl ⟨natF 0 l,by simp [hne,q2,hc],by simp [q1];omega⟩
   · exact .inr ⟨by simp [hne,q2];omega,.inl (by rw [q1,if_neg (by omega),if_pos (by omega)])⟩
 · right
   refine ⟨?_,.inl (by simp [q1,q2,maxU])⟩
   by_cases hd:l.all isDig=true
   · have:=q3 hd
     simp [hne,hd]
     unfold maxU at this
     omega
   · simp [hne]
     intro h
     exact absurd (by simpa using h) hd
 · right
   refine ⟨?_,.inr (by simp [q1])⟩
   simp [q3]
theorem atoi_slow {H:AHeap} {l:List UInt8} (hl:l.length < 2 ^ 40) (h19:l=[]∨19≤l.length) {x:Int} {e:Value} (hc:clos e=true) (hp:ACalls prog 137 [str l,i64 10,i64 0] H (.tuple #[i64 x,e]) H) :
  ACalls prog 116 [str l] H (.tuple #[i64 x,e]) H:=by
 refine acallsT_pure MixT func116 (by decide) (by simp [flat,hc];rfl) ?_
 rw [d116]
 rcases h19 with rfl | h19
 · simp
   exact bndC_of hp (by simp)
 · have h1:¬ ((l.length:Int) < 19):=by omega
   have h2:(0:Int) < l.length:=by omega
   have h3:0 < l.length:=by omega
   simp [h1,h3]
   exact bndC_of hp (by simp)
theorem atoi_loop2 {H:AHeap} {v:Value} {l:List UInt8} {k:Value→AHeap→Prop} (ha:Arr H 1 v (l.map fun b=>[byt b])) (hl:l.length≤18) (hd:∀ b∈l,isDig b=true∨b=46)
  (hk:k (.tuple #[i64 0,nerr 2]) H) :
  ∀ (r : List UInt8) (i : Nat) (n : Int) (s0 s1 s2 s3 s4 s7 s8 s9 a c e f g j m o p s t u w y z A B C D E F G I J K L M N O Q R S U V W X Y Z aa ab ac ad ae af ag ah ai aj ak al am an ao ap aq ar au av aw ax ay az aA aB : Value), l.drop i = r → i ≤ l.length → 0 ≤ n → n < 10 ^ i → r.all isDig = false →
    L116x0 (r.length+1) k [s0,s1,s2,s3,s4,str l,i64 n,s7,s8,s9,a,c,e,f,g,j,m,o,p,s,t,u,w,y,z,A,B,C,D,E,F,G,I,J,K,L,M,N,O,Q,R,S,U,V,W,X,Y,v,i64 l.length,i64 i,Z,aa,ab,ac,ad,ae,af,ag,ah,ai,aj,ak,al,am,an,ao,ap,aq,ar,au,av,aw,ax,ay,az,aA,aB] H:=by
 intro r
 induction r with
 | nil=>intro i n s0 s1 s2 s3 s4 s7 s8 s9 a c e f g j m o p s t u w y z A B C D E F G I J K L M N O Q R S U V W X Y Z aa ab ac ad ae af ag ah ai aj ak al am an ao ap aq ar au av aw ax ay az aA aB _ _ _ _ h;simp at h
 | cons d r ih =>
   intro i n s0 s1 s2 s3 s4 s7 s8 s9 a c e f g j m o p s t u w y z A B C D E F G I J K L M N O Q R S U V W X Y Z aa ab ac ad ae af ag ah ai aj ak al am an ao ap aq ar au av aw ax ay az aA aB hdr hi hn1 hn2 hw
   have hb:l[i]?=some d:=by rw [← List.head?_drop,hdr];rfl
   have hlt:i < l.length:=(List.getElem?_eq_some_iff.1 hb).1
   obtain ⟨q,hp1,hp2⟩:=ha.load1 (P:=prog) (T:=69) (te:=5) (i:=i) (x:=byt d) (by simp) (by simp) (by simp) (by rw [List.getElem?_map,hb];rfl)
   rw [List.length_cons,L116x0q]
   rcases hd d (List.mem_of_getElem? hb) with hdd | rfl
   · have hall:r.all isDig=false:=by simpa [hdd] using hw
     simp only [isDig,Bool.and_eq_true,decide_eq_true_eq] at hdd
     have w1:IntKind.u8.wrap ((d.toNat:Int)-48)=(d.toNat:Int)-48:=wrap_u8 (by omega) (by omega)
     have w2:IntKind.i64.wrap ((d.toNat:Int)-48)=(d.toNat:Int)-48:=wrap_i64 (by omega) (by omega)
     have hp:(10:Int) ^ (i+1)≤10 ^ 18:=by exact_mod_cast Nat.pow_le_pow_right (by omega:0 < 10) (by omega:i+1≤18)
     have hpe:(10:Int) ^ (i+1)=10 ^ i*10:=Int.pow_succ ..
     have w3:IntKind.i64.wrap (n*10)=n*10:=wrap_i64 (by omega) (by omega)
     have w4:IntKind.i64.wrap (n*10+((d.toNat:Int)-48))=n*10+((d.toNat:Int)-48):=wrap_i64 (by omega) (by omega)
     have h9:¬ (9 < (d.toNat:Int)-48):=by omega
     simp [hlt,hp1,hp2,w1,w2,w3,w4,h9,convV_int,show i+1 < 2 ^ 63 by omega]
     exact ih (i+1) _ _ _ _ _ _ _ _ _ _ _ _ _ _ _ _ _ _ _ _ _ _ _ _ _ _ _ _ _ _ _ _ _ _ _ _ _ _ _ _ _ _ _ _ _ _ _ _ _ _ _ _ _ _ _ _ _ _ _ _ _ _ _ _ _ _ _ _ _ _ _ _ _ (by rw [← List.drop_drop,hdr];rfl) hlt (by omega) (by omega) hall
   · have hp2':aLoad prog H 5 q=some (.int .u8 46):=hp2
     have w1:IntKind.u8.wrap (46-48)=254:=by decide
     simp [hlt,hp1,hp2']
     exact hk
theorem natF_lt:∀ (l:List UInt8) (n:Int),0≤n→l.all isDig=true→natF n l < (n+1)*10 ^ l.length:=by
 intro l
 induction l with
 | nil=>intro n h _;simp [natF];omega
 | cons d r ih =>
   intro n h hd
   simp only [List.all_cons,Bool.and_eq_true] at hd
   have hdd:=hd.1
   simp only [isDig,Bool.and_eq_true,decide_eq_true_eq] at hdd
   have h1:=ih (10*n+((d.toNat:Int)-48)) (by omega) hd.2
   simp only [natF,List.length_cons,Int.pow_succ]
   have h2:(10*n+((d.toNat:Int)-48)+1)*10 ^ r.length≤((n+1)*10)*10 ^ r.length:=Int.mul_le_mul_of_nonneg_right (by omega) (Int.le_of_lt (Int.pow_pos (by omega)))
   have e:(n+1)*(10 ^ r.length*10)=((n+1)*10)*10 ^ r.length:=by rw [Int.mul_assoc,Int.mul_comm (10 ^ r.length) 10]
   omega
theorem c_atoi0bad {H:AHeap} {l:List UInt8} {b0:UInt8} (hb0:l[0]?=some b0) (hdd0:isDig b0=true) (hl:l.length≤18) (hd:∀ b∈l,isDig b=true∨b=46) (hbad:l.all isDig=false):ACalls prog 116 [str l] H (.tuple #[i64 0,nerr 2]) H:=by
 refine acallsT_pure MixT func116 (by decide) rfl ?_
 rw [d116]
 have hix:=aIndex_at (P:=prog) (T:=9) (k:=.i64) (i:=0) (by simp) hb0
 have hdd:=hdd0
 simp only [isDig,Bool.and_eq_true,decide_eq_true_eq] at hdd
 have h45:((b0.toNat:Int) == 45)=false:=by simp;omega
 have h43:((b0.toNat:Int) == 43)=false:=by simp;omega
 have hlt:=(List.getElem?_eq_some_iff.1 hb0).1
 have q2:(l.length:Int) < 19:=by omega
 have q3:0 < l.length:=by omega
 simp at hix
 simp [q2,q3,hix,h45,h43]
 rw [S116x0q]
 have hcv:aConv prog H 9 69 (str l)=some (.slice (some ⟨H.length,0,some l.length⟩) l.length l.length,H++[sbO 5 ⟨l.toArray⟩]):=by
  have hu:isU8 prog 5=true:=by kernel_rfl
  simp [aConv,hu]
 simp [hcv]
 exact ⟨l.length+1,atoi_loop2 (arr_bytes l) hl hd ⟨rfl,[_],rfl⟩ l 0 0 _ _ _ _ _ _ _ _ _ _ _ _ _ _ _ _ _ _ _ _ _ _ _ _ _ _ _ _ _ _ _ _ _ _ _ _ _ _ _ _ _ _ _ _ _ _ _ _ _ _ _ _ _ _ _ _ _ _ _ _ _ _ _ _ _ _ _ _ _ _ _ _ rfl (by omega) (by omega) (by omega) hbad⟩
theorem c_atoiG {H:AHeap} (hg:Pre Gs H) {l:List UInt8} (hl:l.length < 2 ^ 40) (h0:∀ b r,l=b :: r→isDig b=true) (hd:∀ b∈l,isDig b=true∨b=46) :
  ∃ x e K',((∃ n,atoF l=some n∧x=n∧e=.nilIface)∨(atoF l=none∧∃ t p,e=.iface t (.pointer (some p))))∧Pre H K'∧ACalls prog 94 [str l] H (.tuple #[i64 x,e]) K':=by
 have hu:=tu96
 have key:∀ {x:Int} {c:Int},ACalls prog 116 [str l] H (.tuple #[i64 x,perr c]) H→((∃ n,atoF l=some n∧x=n∧c=0)∨(atoF l=none∧(c=1∨c=2))) →
   ∃ x e K',((∃ n,atoF l=some n∧x=n∧e=.nilIface)∨(atoF l=none∧∃ t p,e=.iface t (.pointer (some p))))∧Pre H K'∧ACalls prog 94 [str l] H (.tuple #[i64 x,e]) K':=by
  intro x c hcall hcase
  rcases hcase with ⟨n,h1,rfl,rfl⟩ | ⟨h1,h2⟩
  · refine ⟨x,.nilIface,H,.inl ⟨_,h1,rfl,rfl⟩,.refl _,?_⟩
    refine acallsT_pure MixT func94 (by decide) rfl ?_
    rw [d94]
    refine bndC_of hcall ?_
    simp [perr,aBin_nilifn hu]
  · obtain ⟨v,K',⟨p,rfl⟩,h4,h5⟩:=c_toError (f:=[65,116,111,105]) (n:=c) (a:=0) (b:=0) hg h2 hl
    refine ⟨x,.iface 204 (.pointer (some p)),K',.inr ⟨h1,_,_,rfl⟩,h4,?_⟩
    refine acalls_of MixT func94 (by decide) ?_
    rw [d94]
    refine bndC_of hcall ?_
    have hc0:c≠0:=by omega
    simp [perr,hc0,nerr_nil]
    exact bndC_of h5 ⟨rfl,rfl⟩
 by_cases hs:l=[]∨19≤l.length
 · rcases hs with rfl | hs
   · exact key (c:=2) (atoi_slow hl (.inl rfl) rfl (c_parseInt0 H)) (.inr ⟨by simp [atoF],.inr rfl⟩)
   · obtain ⟨d0,r,hlr⟩:=List.exists_cons_of_length_pos (show 0 < l.length by omega)
     refine key (atoi_slow hl (.inr hs) (perr_clos _) (c_parseInt hl hlr (h0 _ _ hlr) hd)) ?_
     rcases piF_ato (l:=l) (by rw [hlr];simp) with ⟨n,h1,h2⟩ | ⟨h1,h2⟩
     · exact .inl ⟨n,h1,by rw [h2],by rw [h2]⟩
     · exact .inr ⟨h1,h2⟩
 · simp only [not_or] at hs
   have h18:l.length≤18:=by omega
   have h1:1≤l.length:=List.length_pos_iff.2 hs.1
   by_cases hall:l.all isDig=true
   · have hall':∀ b∈l,isDig b=true:=by simpa using hall
     have h2:=natF_lt l 0 (by omega) hall
     have h3:(10:Int) ^ l.length≤10 ^ 18:=by exact_mod_cast Nat.pow_le_pow_right (by omega:0 < 10) h18
     refine key (x:=natF 0 l) (c:=0) (by simpa [perr] using c_atoi0 (H:=H) h18 h1 hall') (.inl ⟨natF 0 l,?_,rfl,rfl⟩)
     unfold atoF
     rw [if_pos ⟨hs.1,hall,by omega⟩]
   · have hbad:l.all isDig=false:=by simpa using hall
     obtain ⟨d0,r,hlr⟩:=List.exists_cons_of_length_pos (show 0 < l.length by omega)
     have hb0:l[0]?=some d0:=by rw [hlr];rfl
     have hd0:isDig d0=true:=h0 _ _ hlr
     refine key (x:=0) (c:=2) (by simpa [perr] using c_atoi0bad hb0 hd0 h18 hd hbad) (.inr ⟨?_,.inr rfl⟩)
     simp [atoF,hbad]
end Go.Vi
namespace Go.Vi
open Go Go.Proofs Go.Proofs.Tryz
def len2 (n:Nat):Nat:=if n=0 then 0 else Nat.log2 n+1
theorem len2_half {n:Nat} (h:2≤n):len2 n=len2 (n / 2)+1:=by
 unfold len2
 rw [if_neg (by omega),if_neg (by omega),Nat.log2_def n,if_pos h]
theorem len2_shift:∀ (k n:Nat),2 ^ k≤n→len2 n=len2 (n / 2 ^ k)+k:=by
 intro k
 induction k with
 | zero=>intro n _;simp
 | succ k ih =>
   intro n h
   have h2:2≤n:=by
    have:=Nat.one_le_two_pow (n:=k)
    rw [Nat.pow_succ] at h;omega
   rw [len2_half h2,ih (n / 2) (by rw [Nat.pow_succ] at h;omega),Nat.div_div_eq_div_mul,Nat.pow_succ,Nat.mul_comm 2]
   omega
theorem len2_bd {n:Nat} (h:0 < n):2 ^ (len2 n-1)≤n∧n < 2 ^ len2 n∧1≤len2 n:=by
 unfold len2
 rw [if_neg (by omega)]
 exact ⟨by simpa using Nat.log2_self_le (by omega),Nat.lt_log2_self,by omega⟩
abbrev u64 (n:Int):Value:=.int .u64 n
theorem wrapU {x:Int} (h1:0≤x) (h2:x≤18446744073709551615):IntKind.u64.wrap x=x:=by
 unfold IntKind.wrap
 simp only [show IntKind.u64.bits=64 from rfl,show IntKind.u64.signed=false from rfl]
 simp
 omega
theorem shrN {P:Program} {H:AHeap} {T:TypeId} {x y:Operand} {n k:Nat} (hk:k≤64):aBin2 P H .shr T x y (u64 n) (u64 k)=some (u64 ((n / 2 ^ k:Nat):Int)):=by
 rw [aBin_shr _ _ _ _ _ _ _ (by omega)]
 congr 2
 rw [show min ((k:Int)).toNat IntKind.u64.bits=k by simp only [Int.toNat_natCast];exact Nat.min_eq_left hk]
 rw [Int.fdiv_eq_ediv_of_nonneg _ (Int.le_of_lt (Int.pow_pos (by omega)))]
 norm_cast
theorem len8_at:∀ b:Nat,b < 256→l8S.data[b]?=some (UInt8.ofNat (len2 b))∧len2 b≤8:=by decide +kernel
set_option maxRecDepth 20000 in
theorem c_len64 (H:AHeap) {n:Nat} (hn:n < 2 ^ 64):ACalls prog 56 [u64 n] H (i64 (len2 n)) H:=by
 refine acalls_pure MixT func56 (by decide) rfl ?_
 rw [d56]
 have tail:∀ (x c:Nat) (y z A B C D E F a b d f g h j m o p q r s v w:Value),x < 256→c≤56→len2 n=len2 x+c→S56x2 (fun u H2=>u=i64 (len2 n)∧∃ X,H2=H++X) [u64 x,y,i64 c,z,A,B,C,D,E,F,a,b,d,f,g,h,j,m,o,p,q,r,s,v,w] H:=by
  intro x c y z A B C D E F a b d f g h j m o p q r s v w hx hc hl
  rw [S56x2q]
  obtain ⟨q1,q2⟩:=len8_at x hx
  have w1:IntKind.u8.wrap (x:Int)=x:=wrap_u8 (by omega) (by omega)
  have hq:l8S.data.toList[x]?=some (UInt8.ofNat (len2 x)):=by simpa using q1
  have hi:=aIndex_at (P:=prog) (T:=9) (k:=.u8) (l:=l8S.data.toList) (i:=x) (by simp) hq
  have e:str l8S.data.toList=.string l8S:=rfl
  rw [e] at hi
  have w2:IntKind.i64.wrap ((len2 x:Int) % 256)=(len2 x:Int):=by
   rw [wrap_i64 (by omega) (by omega)];omega
  have w3:IntKind.i64.wrap ((c:Int)+len2 x)=len2 n:=by rw [hl,wrap_i64 (by omega) (by omega)];omega
  simp [convV_int,w1,hi,w2,w3]
 have mid:∀ (x c:Nat) (y z A B C D E F a b d f g h j m o p q r s v w:Value),x < 2 ^ 16→c≤48→len2 n=len2 x+c→S56x1 (fun u H2=>u=i64 (len2 n)∧∃ X,H2=H++X) [u64 x,y,i64 c,z,A,B,C,D,E,F,a,b,d,f,g,h,j,m,o,p,q,r,s,v,w] H:=by
  intro x c y z A B C D E F a b d f g h j m o p q r s v w hx hc hl
  rw [S56x1q]
  simp
  refine kifB_bool (fun hq=>?_) (fun hq=>?_)
  · have hq:2 ^ 8≤x:=by simp at hq;omega
    have w1:IntKind.i64.wrap ((c:Int)+8)=((c+8:Nat):Int):=by rw [wrap_i64 (by omega) (by omega)];omega
    have hs':∀ X Y,aBin2 prog H .shr 117 X Y (.int .u64 x) (.int .u64 8)=some (u64 ((x / 2 ^ 8:Nat):Int)):=fun X Y=>shrN (k:=8) (by omega)
    simp only [hs',bnd_some,aBin_add,w1]
    exact tail (x / 2 ^ 8) (c+8) _ _ _ _ _ _ _ _ _ _ _ _ _ _ _ _ _ _ _ _ _ _ _ (by omega) (by omega) (by rw [hl,len2_shift 8 x hq];omega)
  · dsimp only
    exact tail x c _ _ _ _ _ _ _ _ _ _ _ _ _ _ _ _ _ _ _ _ _ _ _ (by simp at hq;omega) (by omega) hl
 have top:∀ (x c:Nat) (y z A B C D E F a b d f g h j m o p q r s v w:Value),x < 2 ^ 32→c≤32→len2 n=len2 x+c→S56x0 (fun u H2=>u=i64 (len2 n)∧∃ X,H2=H++X) [u64 x,y,i64 c,z,A,B,C,D,E,F,a,b,d,f,g,h,j,m,o,p,q,r,s,v,w] H:=by
  intro x c y z A B C D E F a b d f g h j m o p q r s v w hx hc hl
  rw [S56x0q]
  simp
  refine kifB_bool (fun hq=>?_) (fun hq=>?_)
  · have hq:2 ^ 16≤x:=by simp at hq;omega
    have w1:IntKind.i64.wrap ((c:Int)+16)=((c+16:Nat):Int):=by rw [wrap_i64 (by omega) (by omega)];omega
    have hs':∀ X Y,aBin2 prog H .shr 117 X Y (.int .u64 x) (.int .u64 16)=some (u64 ((x / 2 ^ 16:Nat):Int)):=fun X Y=>shrN (k:=16) (by omega)
    simp only [hs',bnd_some,aBin_add,w1]
    exact mid (x / 2 ^ 16) (c+16) _ _ _ _ _ _ _ _ _ _ _ _ _ _ _ _ _ _ _ _ _ _ _ (by omega) (by omega) (by rw [hl,len2_shift 16 x hq];omega)
  · dsimp only
    exact mid x c _ _ _ _ _ _ _ _ _ _ _ _ _ _ _ _ _ _ _ _ _ _ _ (by simp at hq;omega) (by omega) hl
 simp
 refine kifB_bool (fun hq=>?_) (fun hq=>?_)
 · have hq:2 ^ 32≤n:=by simp at hq;omega
   have hs':∀ X Y,aBin2 prog H .shr 117 X Y (.int .u64 n) (.int .u64 32)=some (u64 ((n / 2 ^ 32:Nat):Int)):=fun X Y=>shrN (k:=32) (by omega)
   simp only [hs',bnd_some]
   have t:=fun a0 a1 a2 a3 a4 a5 a6 a7 a8 a9 b0 b1 b2 b3 b4 b5 b6 b7 b8 b9 c0 c1 c2=>top (n / 2 ^ 32) 32 a0 a1 a2 a3 a4 a5 a6 a7 a8 a9 b0 b1 b2 b3 b4 b5 b6 b7 b8 b9 c0 c1 c2 (by omega) (by omega) (len2_shift 32 n hq)
   rw [show ((32:Nat):Int)=32 from rfl] at t
   exact t _ _ _ _ _ _ _ _ _ _ _ _ _ _ _ _ _ _ _ _ _ _ _
 · dsimp only
   exact top n 0 _ _ _ _ _ _ _ _ _ _ _ _ _ _ _ _ _ _ _ _ _ _ _ (by simp at hq;omega) (by omega) (by omega)
theorem aIndexAddr_arr {P:Program} {H:AHeap} {T e:TypeId} {b o m z n:Nat} {k:IntKind} {i:Int} (hu:P.underlying T=some (.array n e)) (hs:tsize P e=some z) (hl:hlen H b=some m) (h0:0≤i) (h1:i < n) :
  aIndexAddr P H T (.pointer (some ⟨b,o,some m⟩)) (.int k i)=some (.pointer (some ⟨b,o+i.toNat*z,some m⟩)):=by
 show aIndexAddr0 P H T (.pointer (some ⟨b,o,some m⟩)) (.int k i)=_
 simp [aIndexAddr0,hl,h0,h1,hu,hs]
def nlog (L:Nat):Nat:=L*78913 / 2 ^ 18
theorem nlog_ok:∀ L:Nat,L < 65→1≤L→nlog L < 20∧2 ^ L≤10 ^ (nlog L+1)∧10 ^ (nlog L-1)≤2 ^ (L-1)∧(nlog L=0→L≤3):=by decide +kernel
def ndig (n:Nat):Nat:=nlog (len2 n)+if 10 ^ nlog (len2 n)≤n then 1 else 0
theorem ndig_ok {n:Nat} (h0:0 < n) (hn:n < 2 ^ 64):1≤ndig n∧ndig n≤20∧n < 10 ^ ndig n∧10 ^ (ndig n-1)≤n:=by
 obtain ⟨h1,h2,h3⟩:=len2_bd h0
 have hL:len2 n < 65:=by
  rcases Nat.lt_or_ge (len2 n) 65 with h | h
  · exact h
  · have:=Nat.pow_le_pow_right (by omega:0 < 2) (show 64≤len2 n-1 by omega)
    omega
 obtain ⟨q1,q2,q3,q4⟩:=nlog_ok _ hL h3
 unfold ndig
 by_cases hc:10 ^ nlog (len2 n)≤n
 · rw [if_pos hc]
   exact ⟨by omega,by omega,by omega,by simpa using hc⟩
 · rw [if_neg hc,Nat.add_zero]
   refine ⟨?_,by omega,by omega,by omega⟩
   rcases Nat.eq_zero_or_pos (nlog (len2 n)) with hz | hz
   · rw [hz] at hc;simp at hc;omega
   · exact hz
def Pw (H:AHeap):Prop:=∃ b,gFind H 1 0=some (b,20)∧hcells H b=some pow10s
theorem Pw.trans {H K:AHeap} (h:Pw H) (p:Pre H K):Pw K:=by
 obtain ⟨b,h1,h2⟩:=h
 obtain ⟨X,rfl⟩:=p
 exact ⟨b,gFind_app h1,hcells_more h2⟩
theorem Pw.more {H:AHeap} (h:Pw H) (X:AHeap):Pw (H++X):=h.trans (.app H X)
theorem pw_gs {H:AHeap} (h:Pre Gs H):Pw H:=⟨2,gs_pow h⟩
set_option maxRecDepth 20000 in
theorem c_numDigits {H:AHeap} (hg:Pw H) {n:Nat} (h0:0 < n) (hn:n < 2 ^ 64):ACalls prog 99 [u64 n] H (i64 (ndig n)) H:=by
 refine acalls_pure MixT func99 (by decide) rfl ?_
 rw [d99]
 refine bndC_of (c_len64 H hn) ?_
 obtain ⟨h1,h2,h3⟩:=len2_bd h0
 have hL:len2 n < 65:=by
  rcases Nat.lt_or_ge (len2 n) 65 with h | h
  · exact h
  · have:=Nat.pow_le_pow_right (by omega:0 < 2) (show 64≤len2 n-1 by omega)
    omega
 obtain ⟨q1,q2,q3,q4⟩:=nlog_ok _ hL h3
 have hlog:ACalls prog 121 [i64 (len2 n)] H (i64 (nlog (len2 n))) H:=by
  refine acalls_pure MixT func121 (by decide) rfl ?_
  rw [d121]
  have w1:IntKind.i64.wrap ((len2 n:Int)*78913)=((len2 n*78913:Nat):Int):=by rw [wrap_i64 (by omega) (by omega)];omega
  have hs:∀ X Y,aBin2 prog H .shr 3 X Y (.int .i64 ((len2 n*78913:Nat):Int)) (.int .u64 18)=some (i64 (nlog (len2 n))):=fun X Y=>by
   rw [aBin_shr _ _ _ _ _ _ _ (by omega)]
   congr 2
   rw [show min ((18:Int)).toNat IntKind.i64.bits=18 from rfl,Int.fdiv_eq_ediv_of_nonneg _ (Int.le_of_lt (Int.pow_pos (by omega)))]
   unfold nlog
   norm_cast
  simp only [Int.natCast_mul,show ((78913:Nat):Int)=78913 from rfl] at w1 hs
  simp [w1,hs]
 refine bndC_of hlog ?_
 obtain ⟨pb,g1,g2⟩:=hg
 have hll:hlen H pb=some 20:=by rw [hcells_len g2];rfl
 have hia:=aIndexAddr_arr (P:=prog) (T:=191) (e:=117) (z:=1) (n:=20) (k:=.i64) (o:=0) (i:=(nlog (len2 n):Int)) (by simp) (by simp) hll (by omega) (by omega)
 have hp:pow10s[nlog (len2 n)]?=some (u64 ((10 ^ nlog (len2 n):Nat):Int)):=by
  have:∀ i:Nat,i < 20→pow10s[i]?=some (u64 ((10 ^ i:Nat):Int)):=by
   intro i hi
   simp [pow10s,hi]
  exact this _ q1
 have hb:∀ c:Bool,ACalls prog 122 [.bool c] H (i64 (if c=true then 1 else 0)) H:=by
  intro c
  refine acalls_pure MixT func122 (by decide) rfl ?_
  rw [d122]
  cases c<;>simp
 simp only [aIndexAddr_gl g1,hia,bnd_some]
 have h20:pow10s.length=20:=rfl
 simp only [Int.natCast_pow,show ((10:Nat):Int)=10 from rfl] at hp
 simp [g2,hp,h20]
 refine bndC_of (hb _) ?_
 have hd:decide ((10:Int) ^ nlog (len2 n)≤n)=decide (10 ^ nlog (len2 n)≤n):=by
  rw [decide_eq_decide];norm_cast
 have hnd:IntKind.i64.wrap ((nlog (len2 n):Int)+(if 10 ^ nlog (len2 n)≤n then 1 else 0))=(ndig n:Int):=by
  rw [wrap_i64 (by split<;>omega) (by split<;>omega)]
  unfold ndig
  split<;>simp
 simp [hd,hnd]
end Go.Vi
namespace Go.Vi
open Go Go.Proofs Go.Proofs.Tryz
-- (*tocsin/expr.reader).condition$1
def S33x0 (k:Value→AHeap→Prop) (sl:List Value) (H:AHeap):Prop:=kseqG prog (drawKeep prog) (cr (cr (cr (cb Tryz.f33)))) (kfinG prog Tryz.f33 k) .normal sl H []
def L33x0 (n:Nat) (k:Value→AHeap→Prop) (sl:List Value) (H:AHeap):Prop:=kitG prog (drawKeep prog) (cl (cl (cr (cr (cr (cr (cb Tryz.f33))))))) n (kblkG 1 (kfinG prog Tryz.f33 k)) .normal sl H []
theorem d33 (a0 a1 a2 a3:Value) (H:AHeap) (k:Value→AHeap→Prop):kbodyG prog (drawKeep prog) Tryz.f33 [a0,a1,a2,a3] H k=(@bnd (aBin2 prog H .eql 3 (.tmp 8) (.const (.int .i64 2)) a0 (.int .i64 2))
 ⟨fun f=>@kifB f ⟨@bnd (aLoad prog H 61 a1) ⟨fun r=>@bndC prog 34 [r,(.int .u8 1),(.string { data:=#[110,111,116] })] H ⟨fun s H4=>@kifB s ⟨@bnd (aLoad prog H4 85 a2) ⟨fun t
=>@bndV prog t [(.int .i64 2)] H4 ⟨fun _ H7=>@bnd (aLoad prog H7 34 a3) ⟨fun u=>@bnd (aLoad prog H7 34 a3) ⟨fun v=>@bnd (aLen prog H7 34 v) ⟨fun g=>@bnd (aBin2 prog H7 .sub
 3 (.tmp 22) (.const (.int .i64 1)) g (.int .i64 1)) ⟨fun h=>@bnd (buildV prog 89 [(0,(.int .u8 3)),(6,h)]) ⟨fun i=>@bndL prog H7 34 1 [(0,i)] ⟨fun j H14=>@bndE (aBuiltin
 prog H14 Builtin.append #[34,34] [u,j]) ⟨fun l H16=>@bndS (aStore prog H16 34 a3 l) ⟨fun _ H18=>k (.tuple #[]) H18⟩⟩⟩⟩⟩⟩⟩⟩⟩⟩⟩ ⟨@bnd (aLoad prog H4 61 a1) ⟨fun m=>@bndC prog 34
 [m,(.int .u8 4),(.string { data:=#[40] })] H4 ⟨fun n H21=>@kifB n ⟨@bnd (aLoad prog H21 85 a2) ⟨fun o=>@bndV prog o [(.int .i64 0)] H21 ⟨fun _ H24=>@bnd (aLoad prog H24 61 a1)
 ⟨fun p=>@bndC prog 35 [p,(.string { data:=#[41] })] H24 ⟨fun _ H27=>k (.tuple #[]) H27⟩⟩⟩⟩⟩ ⟨@bnd (aLoad prog H21 34 a3) ⟨fun a=>@bnd (aLoad prog H21 61 a1) ⟨fun q=>@bndK false true
 H21 ⟨fun b H31=>ACalls prog 36 [q] H21 b H31⟩ ⟨fun _ H31=>aLoad prog H31 34 a3=some a∧True⟩ ⟨fun b H31=>@bndK false true H31 ⟨fun c H33=>sliceLit prog H31 34 1 [(0,
 b)] c H33⟩ ⟨fun _ H33=>aLoad prog H33 34 a3=some a∧True⟩ ⟨fun c H33=>@bndK true true H33 ⟨fun d H35=>aBuiltin prog H33 Builtin.append #[34,34] [a,c]=some (d,H35)⟩
 ⟨fun _ _=>True⟩ ⟨fun d H35=>@bndK true true H35 ⟨fun x36 H37=>x36=undef∧aStore prog H35 34 a3 d=some H37⟩ ⟨fun _ _=>True⟩ ⟨fun _ H37=>k (.tuple #[]) H37⟩⟩⟩⟩⟩⟩⟩⟩⟩⟩⟩⟩⟩ ⟨@bnd (aBin2 prog H .eql
 3 (.tmp 34) (.const (.int .i64 1)) a0 (.int .i64 1)) ⟨fun e=>@kifB e ⟨S33x0  k [a0,a1,a2,a3,undef,(.string { data:=#[97,110,100] }),(.int .u8 1),undef,a0,f,undef,undef,undef,undef,undef,undef,
 undef,undef,undef,undef,undef,undef,undef,undef,undef,undef,undef,undef,undef,undef,undef,undef,undef,undef,a0,e,undef,undef,undef,undef,undef,undef,undef,undef,undef,undef,undef,undef,
 undef,undef,undef,undef,undef,undef,undef,undef,undef,undef,undef] H⟩ ⟨S33x0  k [a0,a1,a2,a3,undef,(.string { data:=#[111,114] }),(.int .u8 2),undef,a0,f,undef,undef,undef,undef,undef,undef,
 undef,undef,undef,undef,undef,undef,undef,undef,undef,undef,undef,undef,undef,undef,undef,undef,undef,undef,a0,e,undef,undef,undef,undef,undef,undef,undef,undef,undef,undef,undef,undef,
 undef,undef,undef,undef,undef,undef,undef,undef,undef,undef,undef] H⟩⟩⟩⟩):=by kernel_rfl
theorem S33x0q (d s1 s2 s3 s4 s5 s6 s7 s8 s9 e f g h i j l m o p q r s t u v w x y z A B C D E F aa ab ac ad G I J K L M N O P Q R S T U V W
 X Y Z:Value) (H:AHeap) (k:Value→AHeap→Prop):S33x0 k [d,s1,s2,s3,s4,s5,s6,s7,s8,s9,e,f,g,h,i,j,l,m,o,p,q,r,s,t,u,v,w,x,y,z,A,B,C,
 D,E,F,aa,ab,ac,ad,G,I,J,K,L,M,N,O,P,Q,R,S,T,U,V,W,X,Y,Z] H=(@bnd (aLoad prog H 85 s2) ⟨fun a=>@bnd (aBin2 prog H .add 3 (.tmp 37)
 (.const (.int .i64 1)) d (.int .i64 1)) ⟨fun b=>@bndV prog a [b] H ⟨fun c H42=>∃ n,L33x0 n  k [d,s1,s2,s3,s4,s5,s6,s7,s8,s9,e,f,g,h,i,j,l,m,o,p,q,r,
 s,t,u,v,w,x,y,z,A,B,C,D,E,F,a,d,b,c,G,I,J,K,L,M,N,O,P,Q,R,S,T,U,V,W,X,Y,Z] H42⟩⟩⟩):=by kernel_rfl
theorem L33x0q (n0:Nat) (r Z s2 p s4 s t s7 s8 s9 u v w x y z A B C D E F G I J K L M N O P Q R S T U V W X Y aa ab ac ad ae af ag ah ai aj ak al am
 an ao ap aq ar au:Value) (H:AHeap) (k:Value→AHeap→Prop):L33x0 (n0+1) k [r,Z,s2,p,s4,s,t,s7,s8,s9,u,v,w,x,y,z,A,B,C,D,E,F,G,I,J,K,L,M,N,
 O,P,Q,R,S,T,U,V,W,X,Y,aa,ab,ac,ad,ae,af,ag,ah,ai,aj,ak,al,am,an,ao,ap,aq,ar,au] H=(@bnd (aLoad prog H 61 Z) ⟨fun b=>@bndC prog 34
 [b,(.int .u8 1),s] H ⟨fun c H45=>@kifB c ⟨@bnd (aLoad prog H45 34 p) ⟨fun d=>@bnd (aLen prog H45 34 d) ⟨fun e=>@bnd (aBin2 prog H45 .sub 3 (.tmp 44) (.const (.int .i64 1))
 e (.int .i64 1)) ⟨fun a=>@bnd (aLoad prog H45 85 s2) ⟨fun f=>@bnd (aBin2 prog H45 .add 3 (.tmp 47) (.const (.int .i64 1)) r (.int .i64 1)) ⟨fun g=>@bndV prog f [g] H45 ⟨fun
 q H52=>@bnd (aLoad prog H52 34 p) ⟨fun h=>@bnd (aLoad prog H52 34 p) ⟨fun i=>@bnd (aLen prog H52 34 i) ⟨fun j=>@bnd (aBin2 prog H52 .sub 3 (.tmp 54) (.const (.int .i64 1))
 j (.int .i64 1)) ⟨fun l=>@bnd (buildV prog 89 [(0,t),(6,a),(7,l)]) ⟨fun m=>@bndL prog H52 34 1 [(0,m)] ⟨fun n H59=>@bndE (aBuiltin prog H59 Builtin.append #[34,34]
 [h,n]) ⟨fun o H61=>@bndS (aStore prog H61 34 p o) ⟨fun _ H63=>L33x0 n0  k [r,Z,s2,p,s4,s,t,a,s8,s9,u,v,w,x,y,z,A,B,C,D,E,F,G,I,J,
 K,L,M,N,O,P,Q,R,S,T,U,V,W,X,Y,b,s,c,d,e,a,f,r,g,q,h,t,a,i,j,l,m,n,o]
 H63⟩⟩⟩⟩⟩⟩⟩⟩⟩⟩⟩⟩⟩⟩⟩ ⟨k (.tuple #[]) H45⟩⟩⟩):=by kernel_rfl
-- internal/strconv.formatBase10
def L100x0 (n:Nat) (k:Value→AHeap→Prop) (sl:List Value) (H:AHeap):Prop:=kitG prog (drawKeep prog) (cl (cl (cl (cr (cb Tryz.f100))))) n (kblkG 0 (kseqG prog (drawKeep prog) (cr (cr (cb
 Tryz.f100))) (kfinG prog Tryz.f100 k))) .normal sl H []
def S100x0 (k:Value→AHeap→Prop) (sl:List Value) (H:AHeap):Prop:=kseqG prog (drawKeep prog) (cr (cr (cr (cr (cb Tryz.f100))))) (kfinG prog Tryz.f100 k) .normal sl H []
def S100x1 (k:Value→AHeap→Prop) (sl:List Value) (H:AHeap):Prop:=kseqG prog (drawKeep prog) (cr (cr (cr (cr (cr (cb Tryz.f100)))))) (kfinG prog Tryz.f100 k) .normal sl H []
theorem d100 (a0 a1:Value) (H:AHeap) (k:Value→AHeap→Prop):kbodyG prog (drawKeep prog) Tryz.f100 [a0,a1] H k=(@bnd (aLen prog H 69 a0) ⟨fun v18x1=>∃ n,L100x0 n  k [a0,a1,undef,undef,v18x1,
 undef,undef,undef,undef,undef,undef,undef,undef,undef,undef,undef,undef,a0,v18x1,undef,undef,undef,undef,undef,undef,undef,undef,undef,undef,undef,undef,undef,undef,undef,undef,undef,undef,undef,
 undef,undef,undef,undef,undef,undef,undef,undef,undef,undef,undef,undef,undef,undef,undef,undef,undef,undef,undef,undef,undef,undef,undef,undef,undef,undef,undef,undef,undef,undef,undef,undef,
 undef,undef,undef,undef,undef,undef,undef,undef,undef,undef,undef,undef,undef,undef,undef,undef,undef,undef,undef,undef,undef,undef,undef,undef,undef,undef,undef,undef,undef,undef,undef,undef,
 undef,undef,undef,undef,undef,undef,undef,undef,undef,undef,undef,undef,undef,undef,undef,undef,undef,undef,undef,undef,undef,undef,undef,undef,undef,undef,undef,undef,undef,undef,undef,undef,
 undef,undef,undef,undef,undef,undef,undef,undef,undef,undef,undef,undef,undef,undef,undef,undef,undef,undef,undef,undef,undef,undef,undef,undef,undef,undef,undef,undef,undef,undef,undef,undef,
 undef] H⟩):=by kernel_rfl
theorem L100x0q (n0:Nat) (i s1 s2 s3 a s5 s6 s7 s8 s9 cd ce dw cf cg ch b7 b8 b9 dB dC ci cj ck cl cm cn co cp cq cr cs ct cu cv cw cx cy cz cA cB cC cD cE cF cG cH cI cJ cK cL cM cN
 cO cP cQ cR cS cT cU cV cW cX cY cZ c0 c1 c2 c3 c4 c5 c6 c7 c8 c9 da db dc dd de df dg dh di dj dk dl dm dn dp dq dr ds dt du dv dx dy dz dA bu bv bw bx bz bA bB bC
 bD bE bF bG bH bI bJ bK bL bM bN bO bP bQ bR bS bT bU bV bW bX bY bZ b0 b1 b2 b3 b4 b5 b6 al am an ao ap aq ar au av aw ax ay az aA aB
 aC aD aE aF aG aH aI aJ aK aL aM aN aO aP:Value) (H:AHeap) (k:Value→AHeap→Prop):L100x0 (n0+1) k [i,s1,s2,s3,a,s5,s6,s7,s8,s9,cd,ce,dw,cf,cg,ch,b7,b8,b9,
 dB,dC,ci,cj,ck,cl,cm,cn,co,cp,cq,cr,cs,ct,cu,cv,cw,cx,cy,cz,cA,cB,cC,cD,cE,cF,cG,cH,cI,cJ,cK,cL,cM,cN,cO,cP,cQ,cR,cS,cT,cU,cV,cW,cX,cY,
 cZ,c0,c1,c2,c3,c4,c5,c6,c7,c8,c9,da,db,dc,dd,de,df,dg,dh,di,dj,dk,dl,dm,dn,dp,dq,dr,ds,dt,du,dv,dx,dy,dz,dA,bu,bv,bw,bx,bz,bA,bB,bC,
 bD,bE,bF,bG,bH,bI,bJ,bK,bL,bM,bN,bO,bP,bQ,bR,bS,bT,bU,bV,bW,bX,bY,bZ,b0,b1,b2,b3,b4,b5,b6,al,am,an,ao,ap,aq,ar,au,
 av,aw,ax,ay,az,aA,aB,aC,aD,aE,aF,aG,aH,aI,aJ,aK,aL,aM,aN,aO,aP] H=(@bnd (aBin2 prog H .geq 3 (.tmp 19) (.const (.int .i64 8)) a (.int .i64 8)) ⟨fun v =>
 @kifB v ⟨@bnd (aBin2 prog H .rem 117 (.tmp 21) (.const (.int .u64 100000000)) s1 (.int .u64 100000000)) ⟨fun ca=>@bnd (convV prog H 117 41 ca) ⟨fun d=>@bnd (aBin2 prog H .quo 117 (.tmp 24)
 (.const (.int .u64 100000000)) s1 (.int .u64 100000000)) ⟨fun cb=>@bnd (aBin2 prog H .quo 41 (.tmp 26) (.const (.int .u32 10000)) d (.int .u32 10000)) ⟨fun e=>@bnd (aBin2 prog H .rem 41 (.tmp 28)
 (.const (.int .u32 10000)) d (.int .u32 10000)) ⟨fun f=>@bnd (aBin2 prog H .quo 41 (.tmp 30) (.const (.int .u32 100)) f (.int .u32 100)) ⟨fun cc=>@bnd (aBin2 prog H .mul 41 (.tmp 31) (.const (.int
 .u32 2)) cc (.int .u32 2)) ⟨fun w=>@bnd (aBin2 prog H .rem 41 (.tmp 33) (.const (.int .u32 100)) f (.int .u32 100)) ⟨fun aQ=>@bnd (aBin2 prog H .mul 41 (.tmp 34) (.const (.int .u32 2)) aQ (.int
 .u32 2)) ⟨fun q=>@bnd (aBin2 prog H .quo 41 (.tmp 36) (.const (.int .u32 100)) e (.int .u32 100)) ⟨fun aR=>@bnd (aBin2 prog H .mul 41 (.tmp 37) (.const (.int .u32 2)) aR (.int .u32 2)) ⟨fun r
=>@bnd (aBin2 prog H .rem 41 (.tmp 39) (.const (.int .u32 100)) e (.int .u32 100)) ⟨fun aS=>@bnd (aBin2 prog H .mul 41 (.tmp 40) (.const (.int .u32 2)) aS (.int .u32 2)) ⟨fun s=>@bnd ((some i))
 ⟨fun aT=>@bnd ((some a)) ⟨fun aU=>@bnd (aBin2 prog H .sub 3 (.tmp 43) (.const (.int .i64 1)) aU (.int .i64 1)) ⟨fun aV=>@bnd ((some i)) ⟨fun aW=>@bnd ((some a)) ⟨fun x=>@bnd (aBin2
 prog H .sub 3 (.tmp 46) (.const (.int .i64 2)) x (.int .i64 2)) ⟨fun y=>@bnd ((some q)) ⟨fun aX=>@bnd (aBin2 prog H .add 41 (.tmp 48) (.const (.int .u32 1)) aX (.int .u32 1)) ⟨fun aY =>
 @bnd (aIndex prog 9 (.string smS) aY) ⟨fun aZ=>@bnd ((some q)) ⟨fun z=>@bnd (aIndex prog 9 (.string smS) z) ⟨fun A=>@bnd (aIndexAddr prog H 69 aT aV) ⟨fun a0=>@bndK
 false true H ⟨fun x28 H29=>x28=undef∧aStore prog H 5 a0 aZ=some H29⟩ ⟨fun _ H29=>aIndex prog 9 (.string smS) z=some A∧aBin2 prog H29 .sub 3 (.tmp 46) (.const (.int .i64 2)) x
 (.int .i64 2)=some y∧True⟩ ⟨fun _ H29=>@bnd (aIndexAddr prog H29 69 aW y) ⟨fun a1=>@bndK true true H29 ⟨fun x31 H32=>x31=undef∧aStore prog H29 5 a1 A=some H32⟩ ⟨fun _ _ =>
 True⟩ ⟨fun _ H32=>@bnd ((some i)) ⟨fun a2=>@bnd ((some a)) ⟨fun a3=>@bnd (aBin2 prog H32 .sub 3 (.tmp 56) (.const (.int .i64 3)) a3 (.int .i64 3)) ⟨fun a4=>@bnd ((some i)) ⟨fun a5=>@bnd
 ((some a)) ⟨fun B=>@bnd (aBin2 prog H32 .sub 3 (.tmp 59) (.const (.int .i64 4)) B (.int .i64 4)) ⟨fun C=>@bnd ((some w)) ⟨fun a6=>@bnd (aBin2 prog H32 .add 41 (.tmp 61) (.const (.int .u32
 1)) a6 (.int .u32 1)) ⟨fun a7=>@bnd (aIndex prog 9 (.string smS) a7) ⟨fun a8=>@bnd ((some w)) ⟨fun D=>@bnd (aIndex prog 9 (.string smS) D) ⟨fun E=>@bnd (aIndexAddr prog
 H32 69 a2 a4) ⟨fun a9=>@bndK false true H32 ⟨fun x45 H46=>x45=undef∧aStore prog H32 5 a9 a8=some H46⟩ ⟨fun _ H46=>aIndex prog 9 (.string smS) D=some E∧aBin2 prog H46
 .sub 3 (.tmp 59) (.const (.int .i64 4)) B (.int .i64 4)=some C∧True⟩ ⟨fun _ H46=>@bnd (aIndexAddr prog H46 69 a5 C) ⟨fun ba=>@bndK true true H46 ⟨fun x48 H49=>x48=undef∧aStore prog
 H46 5 ba E=some H49⟩ ⟨fun _ _=>True⟩ ⟨fun _ H49=>@bnd ((some i)) ⟨fun bb=>@bnd ((some a)) ⟨fun bc=>@bnd (aBin2 prog H49 .sub 3 (.tmp 69) (.const (.int .i64 5)) bc (.int .i64 5)) ⟨fun bd
=>@bnd ((some i)) ⟨fun be=>@bnd ((some a)) ⟨fun F=>@bnd (aBin2 prog H49 .sub 3 (.tmp 72) (.const (.int .i64 6)) F (.int .i64 6)) ⟨fun G=>@bnd ((some s)) ⟨fun bf=>@bnd (aBin2 prog
 H49 .add 41 (.tmp 74) (.const (.int .u32 1)) bf (.int .u32 1)) ⟨fun bg=>@bnd (aIndex prog 9 (.string smS) bg) ⟨fun bh=>@bnd ((some s)) ⟨fun I=>@bnd (aIndex prog 9 (.string smS) I)
 ⟨fun J=>@bnd (aIndexAddr prog H49 69 bb bd) ⟨fun bi=>@bndK false true H49 ⟨fun x62 H63=>x62=undef∧aStore prog H49 5 bi bh=some H63⟩ ⟨fun _ H63=>aIndex prog 9 (.string smS)
 I=some J∧aBin2 prog H63 .sub 3 (.tmp 72) (.const (.int .i64 6)) F (.int .i64 6)=some G∧True⟩ ⟨fun _ H63=>@bnd (aIndexAddr prog H63 69 be G) ⟨fun bj=>@bndK true true H63
 ⟨fun x65 H66=>x65=undef∧aStore prog H63 5 bj J=some H66⟩ ⟨fun _ _=>True⟩ ⟨fun _ H66=>@bnd ((some i)) ⟨fun bk=>@bnd ((some a)) ⟨fun bl=>@bnd (aBin2 prog H66 .sub 3 (.tmp 82) (.const
 (.int .i64 7)) bl (.int .i64 7)) ⟨fun bm=>@bnd ((some i)) ⟨fun bn=>@bnd ((some a)) ⟨fun K=>@bnd (aBin2 prog H66 .sub 3 (.tmp 85) (.const (.int .i64 8)) K (.int .i64 8)) ⟨fun L=>@bnd
 ((some r)) ⟨fun bo=>@bnd (aBin2 prog H66 .add 41 (.tmp 87) (.const (.int .u32 1)) bo (.int .u32 1)) ⟨fun bp=>@bnd (aIndex prog 9 (.string smS) bp) ⟨fun bq=>@bnd ((some r)) ⟨fun
 M=>@bnd (aIndex prog 9 (.string smS) M) ⟨fun N=>@bnd (aIndexAddr prog H66 69 bk bm) ⟨fun br=>@bndK false true H66 ⟨fun x79 H80=>x79=undef∧aStore prog H66 5 br bq =
 some H80⟩ ⟨fun _ H80=>aIndex prog 9 (.string smS) M=some N∧aBin2 prog H80 .sub 3 (.tmp 85) (.const (.int .i64 8)) K (.int .i64 8)=some L∧True⟩ ⟨fun _ H80=>@bnd (aIndexAddr prog H80
 69 bn L) ⟨fun bs=>@bndK true true H80 ⟨fun x82 H83=>x82=undef∧aStore prog H80 5 bs N=some H83⟩ ⟨fun _ _=>True⟩ ⟨fun _ H83=>@bnd (aBin2 prog H83 .sub 3 (.tmp 94) (.const (.int .i64
 8)) a (.int .i64 8)) ⟨fun bt=>L100x0 n0  k [i,cb,s2,s3,bt,d,e,f,w,q,r,s,dw,cf,cg,ch,b7,b8,b9,a,v,s1,ca,d,s1,cb,d,e,d,
 f,f,cc,w,f,aQ,q,e,aR,r,e,aS,s,aT,aU,aV,aW,x,y,aX,aY,aZ,z,A,a0,a1,a2,a3,a4,
 a5,B,C,a6,a7,a8,D,E,a9,ba,bb,bc,bd,be,F,G,bf,bg,bh,I,J,bi,bj,bk,bl,bm,bn,K,
 L,bo,bp,bq,M,N,br,bs,a,bt,dx,dy,dz,dA,bu,bv,bw,bx,bz,bA,bB,bC,bD,bE,bF,bG,bH,bI,bJ,bK,bL,bM,bN,bO,bP,bQ,
 bR,bS,bT,bU,bV,bW,bX,bY,bZ,b0,b1,b2,b3,b4,b5,b6,al,am,an,ao,ap,aq,ar,au,av,aw,ax,ay,az,aA,aB,aC,aD,aE,aF,aG,aH,aI,
 aJ,aK,aL,aM,aN,aO,aP] H83⟩⟩⟩⟩⟩⟩⟩⟩⟩⟩⟩⟩⟩⟩⟩⟩⟩⟩⟩⟩⟩⟩⟩⟩⟩⟩⟩⟩⟩⟩⟩⟩⟩⟩⟩⟩⟩⟩⟩⟩⟩⟩⟩⟩⟩⟩⟩⟩⟩⟩⟩⟩⟩⟩⟩⟩⟩⟩⟩⟩⟩⟩⟩⟩⟩⟩⟩⟩⟩⟩⟩⟩⟩⟩⟩ ⟨@bnd (convV prog H 117 41 s1) ⟨fun c=>@bnd (aBin2 prog H .geq 3 (.tmp 98) (.const (.int
 .i64 4)) a (.int .i64 4)) ⟨fun O=>@kifB O ⟨@bnd (aBin2 prog H .rem 41 (.tmp 100) (.const (.int .u32 10000)) c (.int .u32 10000)) ⟨fun b=>@bnd (aBin2 prog H .quo 41 (.tmp 102) (.const (.int
 .u32 10000)) c (.int .u32 10000)) ⟨fun ad=>@bnd (aBin2 prog H .quo 41 (.tmp 104) (.const (.int .u32 100)) b (.int .u32 100)) ⟨fun ae=>@bnd (aBin2 prog H .mul 41 (.tmp 105) (.const (.int .u32
 2)) ae (.int .u32 2)) ⟨fun g=>@bnd (aBin2 prog H .rem 41 (.tmp 107) (.const (.int .u32 100)) b (.int .u32 100)) ⟨fun af=>@bnd (aBin2 prog H .mul 41 (.tmp 108) (.const (.int .u32 2)) af
 (.int .u32 2)) ⟨fun h=>@bnd ((some i)) ⟨fun ag=>@bnd ((some a)) ⟨fun ah=>@bnd (aBin2 prog H .sub 3 (.tmp 111) (.const (.int .i64 1)) ah (.int .i64 1)) ⟨fun ai=>@bnd ((some i)) ⟨fun
 aj=>@bnd ((some a)) ⟨fun t=>@bnd (aBin2 prog H .sub 3 (.tmp 114) (.const (.int .i64 2)) t (.int .i64 2)) ⟨fun u=>@bnd ((some h)) ⟨fun ak=>@bnd (aBin2 prog H .add 41 (.tmp
 116) (.const (.int .u32 1)) ak (.int .u32 1)) ⟨fun P=>@bnd (aIndex prog 9 (.string smS) P) ⟨fun Q=>@bnd ((some h)) ⟨fun j=>@bnd (aIndex prog 9 (.string smS) j) ⟨fun
 l=>@bnd (aIndexAddr prog H 69 ag ai) ⟨fun R=>@bndK false true H ⟨fun x105 H106=>x105=undef∧aStore prog H 5 R Q=some H106⟩ ⟨fun _ H106=>aIndex prog 9 (.string
 smS) j=some l∧aBin2 prog H106 .sub 3 (.tmp 114) (.const (.int .i64 2)) t (.int .i64 2)=some u∧True⟩ ⟨fun _ H106=>@bnd (aIndexAddr prog H106 69 aj u) ⟨fun S =>
 @bndK true true H106 ⟨fun x108 H109=>x108=undef∧aStore prog H106 5 S l=some H109⟩ ⟨fun _ _=>True⟩ ⟨fun _ H109=>@bnd ((some i)) ⟨fun T=>@bnd ((some a)) ⟨fun U=>@bnd (aBin2
 prog H109 .sub 3 (.tmp 124) (.const (.int .i64 3)) U (.int .i64 3)) ⟨fun V=>@bnd ((some i)) ⟨fun W=>@bnd ((some a)) ⟨fun m=>@bnd (aBin2 prog H109 .sub 3 (.tmp 127) (.const (.int
 .i64 4)) m (.int .i64 4)) ⟨fun n=>@bnd ((some g)) ⟨fun X=>@bnd (aBin2 prog H109 .add 41 (.tmp 129) (.const (.int .u32 1)) X (.int .u32 1)) ⟨fun Y=>@bnd (aIndex prog 9
 (.string smS) Y) ⟨fun Z=>@bnd ((some g)) ⟨fun o=>@bnd (aIndex prog 9 (.string smS) o) ⟨fun p=>@bnd (aIndexAddr prog H109 69 T V) ⟨fun aa=>@bndK
 false true H109 ⟨fun x122 H123=>x122=undef∧aStore prog H109 5 aa Z=some H123⟩ ⟨fun _ H123=>aIndex prog 9 (.string smS) o=some p∧aBin2 prog H123 .sub 3 (.tmp 127) (.const
 (.int .i64 4)) m (.int .i64 4)=some n∧True⟩ ⟨fun _ H123=>@bnd (aIndexAddr prog H123 69 W n) ⟨fun ab=>@bndK true true H123 ⟨fun x125 H126=>x125=undef∧aStore prog H123 5
 ab p=some H126⟩ ⟨fun _ _=>True⟩ ⟨fun _ H126=>@bnd (aBin2 prog H126 .sub 3 (.tmp 136) (.const (.int .i64 4)) a (.int .i64 4)) ⟨fun ac=>S100x0  k [i,s1,s2,s3,ac,s5,s6,s7,s8,s9,
 cd,ce,ad,b,g,h,b7,b8,b9,a,v,ci,cj,ck,cl,cm,cn,co,cp,cq,cr,cs,ct,cu,cv,cw,cx,cy,cz,cA,cB,cC,cD,cE,cF,cG,cH,cI,cJ,cK,cL,cM,
 cN,cO,cP,cQ,cR,cS,cT,cU,cV,cW,cX,cY,cZ,c0,c1,c2,c3,c4,c5,c6,c7,c8,c9,da,db,dc,dd,de,df,dg,dh,di,dj,dk,dl,dm,dn,dp,dq,dr,ds,dt,du,dv,s1,
 c,a,O,c,b,c,ad,b,ae,g,b,af,h,ag,ah,ai,aj,t,u,ak,P,Q,j,l,R,
 S,T,U,V,W,m,n,X,Y,Z,o,p,aa,ab,a,ac,al,am,an,ao,ap,aq,ar,au,av,aw,ax,ay,
 az,aA,aB,aC,aD,aE,aF,aG,aH,aI,aJ,aK,aL,aM,aN,aO,aP] H126⟩⟩⟩⟩⟩⟩⟩⟩⟩⟩⟩⟩⟩⟩⟩⟩⟩⟩⟩⟩⟩⟩⟩⟩⟩⟩⟩⟩⟩⟩⟩⟩⟩⟩⟩⟩⟩⟩ ⟨S100x0  k [i,s1,s2,s3,a,s5,s6,s7,s8,s9,cd,ce,c,cf,cg,
 ch,b7,b8,b9,a,v,ci,cj,ck,cl,cm,cn,co,cp,cq,cr,cs,ct,cu,cv,cw,cx,cy,cz,cA,cB,cC,cD,cE,cF,cG,cH,cI,cJ,cK,cL,cM,cN,cO,cP,cQ,cR,cS,cT,cU,
 cV,cW,cX,cY,cZ,c0,c1,c2,c3,c4,c5,c6,c7,c8,c9,da,db,dc,dd,de,df,dg,dh,di,dj,dk,dl,dm,dn,dp,dq,dr,ds,dt,du,dv,s1,c,a,O,bu,bv,bw,bx,
 bz,bA,bB,bC,bD,bE,bF,bG,bH,bI,bJ,bK,bL,bM,bN,bO,bP,bQ,bR,bS,bT,bU,bV,bW,bX,bY,bZ,b0,b1,b2,b3,b4,b5,b6,al,am,an,ao,
 ap,aq,ar,au,av,aw,ax,ay,az,aA,aB,aC,aD,aE,aF,aG,aH,aI,aJ,aK,aL,aM,aN,aO,aP] H⟩⟩⟩⟩⟩):=by kernel_rfl
theorem S100x0q (s0 s1 s2 s3 u s5 s6 s7 s8 s9 ap aq t ar au av cc aw ax ay az aA aB aC aD aE aF aG aH aI aJ aK aL aM aN aO aP aQ aR aS aT aU aV aW aX aY aZ a0 a1 a2 a3 a4 a5 a6 a7
 a8 a9 ba bb bc bd be bf bg bh bi bj bk bl bm bn bo bp bq br bs bt bu bv bw bx bz bA bB bC bD bE bF bG bH bI bJ bK bL bM bN bO bP bQ bR v w x y z A B C D
 E F G I J K L M N O P Q R S T U V W X Y Z aa ab ac ad ae af ag ah cd ce bS bT bU bV bW bX bY bZ b0 b1 b2 b3 b4 b5
 b6 b7 b8 b9 ca cb ai aj ak al am an ao:Value) (H:AHeap) (k:Value→AHeap→Prop):S100x0 k [s0,s1,s2,s3,u,s5,s6,s7,s8,s9,ap,aq,t,ar,au,av,cc,aw,ax,ay,az,aA,
 aB,aC,aD,aE,aF,aG,aH,aI,aJ,aK,aL,aM,aN,aO,aP,aQ,aR,aS,aT,aU,aV,aW,aX,aY,aZ,a0,a1,a2,a3,a4,a5,a6,a7,a8,a9,ba,bb,bc,bd,be,bf,bg,bh,bi,bj,
 bk,bl,bm,bn,bo,bp,bq,br,bs,bt,bu,bv,bw,bx,bz,bA,bB,bC,bD,bE,bF,bG,bH,bI,bJ,bK,bL,bM,bN,bO,bP,bQ,bR,v,w,x,y,z,A,B,C,D,E,
 F,G,I,J,K,L,M,N,O,P,Q,R,S,T,U,V,W,X,Y,Z,aa,ab,ac,ad,ae,af,ag,ah,cd,ce,bS,bT,bU,bV,bW,bX,bY,bZ,
 b0,b1,b2,b3,b4,b5,b6,b7,b8,b9,ca,cb,ai,aj,ak,al,am,an,ao] H=(@bnd (aBin2 prog H .geq 3 (.tmp 138) (.const (.int .i64 2)) u (.int .i64 2)) ⟨fun b=>@kifB
 b ⟨@bnd (aBin2 prog H .rem 41 (.tmp 140) (.const (.int .u32 100)) t (.int .u32 100)) ⟨fun g=>@bnd (aBin2 prog H .mul 41 (.tmp 141) (.const (.int .u32 2)) g (.int .u32 2)) ⟨fun a=>@bnd
 (aBin2 prog H .quo 41 (.tmp 143) (.const (.int .u32 100)) t (.int .u32 100)) ⟨fun h=>@bnd ((some s0)) ⟨fun i=>@bnd ((some u)) ⟨fun j=>@bnd (aBin2 prog H .sub 3 (.tmp 146) (.const (.int
 .i64 1)) j (.int .i64 1)) ⟨fun l=>@bnd ((some s0)) ⟨fun m=>@bnd ((some u)) ⟨fun c=>@bnd (aBin2 prog H .sub 3 (.tmp 149) (.const (.int .i64 2)) c (.int .i64 2)) ⟨fun d =>
 @bnd ((some a)) ⟨fun n=>@bnd (aBin2 prog H .add 41 (.tmp 151) (.const (.int .u32 1)) n (.int .u32 1)) ⟨fun o=>@bnd (aIndex prog 9 (.string smS) o) ⟨fun p=>@bnd ((some
 a)) ⟨fun e=>@bnd (aIndex prog 9 (.string smS) e) ⟨fun f=>@bnd (aIndexAddr prog H 69 i l) ⟨fun q=>@bndK false true H ⟨fun x144 H145=>x144=undef∧aStore
 prog H 5 q p=some H145⟩ ⟨fun _ H145=>aIndex prog 9 (.string smS) e=some f∧aBin2 prog H145 .sub 3 (.tmp 149) (.const (.int .i64 2)) c (.int .i64 2)=some d ∧
 True⟩ ⟨fun _ H145=>@bnd (aIndexAddr prog H145 69 m d) ⟨fun r=>@bndK true true H145 ⟨fun x147 H148=>x147=undef∧aStore prog H145 5 r f=some H148⟩ ⟨fun _ _=>True⟩ ⟨fun _
 H148=>@bnd (aBin2 prog H148 .sub 3 (.tmp 158) (.const (.int .i64 2)) u (.int .i64 2)) ⟨fun s=>S100x1  k [s0,s1,s2,s3,s,s5,s6,s7,s8,s9,ap,aq,h,ar,au,av,a,aw,ax,ay,
 az,aA,aB,aC,aD,aE,aF,aG,aH,aI,aJ,aK,aL,aM,aN,aO,aP,aQ,aR,aS,aT,aU,aV,aW,aX,aY,aZ,a0,a1,a2,a3,a4,a5,a6,a7,a8,a9,ba,bb,bc,bd,be,bf,bg,bh,
 bi,bj,bk,bl,bm,bn,bo,bp,bq,br,bs,bt,bu,bv,bw,bx,bz,bA,bB,bC,bD,bE,bF,bG,bH,bI,bJ,bK,bL,bM,bN,bO,bP,bQ,bR,v,w,x,y,z,A,B,C,
 D,E,F,G,I,J,K,L,M,N,O,P,Q,R,S,T,U,V,W,X,Y,Z,aa,ab,ac,ad,ae,af,ag,ah,u,b,t,g,a,t,
 h,i,j,l,m,c,d,n,o,p,e,f,q,r,u,s,ai,aj,ak,al,am,an,ao] H148⟩⟩⟩⟩⟩⟩⟩⟩⟩⟩⟩⟩⟩⟩⟩⟩⟩⟩⟩⟩
 ⟨S100x1  k [s0,s1,s2,s3,u,s5,s6,s7,s8,s9,ap,aq,t,ar,au,av,cc,aw,ax,ay,az,aA,aB,aC,aD,aE,aF,aG,aH,aI,aJ,aK,aL,aM,aN,aO,aP,aQ,aR,aS,aT,aU,aV,aW,aX,
 aY,aZ,a0,a1,a2,a3,a4,a5,a6,a7,a8,a9,ba,bb,bc,bd,be,bf,bg,bh,bi,bj,bk,bl,bm,bn,bo,bp,bq,br,bs,bt,bu,bv,bw,bx,bz,bA,bB,bC,bD,bE,bF,bG,bH,
 bI,bJ,bK,bL,bM,bN,bO,bP,bQ,bR,v,w,x,y,z,A,B,C,D,E,F,G,I,J,K,L,M,N,O,P,Q,R,S,T,U,V,W,X,Y,
 Z,aa,ab,ac,ad,ae,af,ag,ah,u,b,bS,bT,bU,bV,bW,bX,bY,bZ,b0,b1,b2,b3,b4,b5,b6,b7,b8,b9,ca,cb,ai,aj,ak,al,am,an,
 ao] H⟩⟩):=by kernel_rfl
theorem S100x1q (s0 s1 s2 s3 s4 s5 s6 s7 s8 s9 ay az e aA aB aC aD aE aF aG aH aI aJ aK aL aM aN aO aP aQ aR aS aT aU aV aW aX aY aZ a0 a1 a2 a3 a4 a5 a6 a7 a8 a9 ba bb bc bd be bf
 bg bh bi bj bk bl bm bn bo bp bq br bs bt bu bv bw bx bz bA bB bC bD bE bF bG bH bI bJ bK bL bM bN bO bP bQ bR bS bT bU bV bW bX bY bZ f g h i j l m n o
 p q r s t u v w x y z A B C D E F G I J K L M N O P Q R S T U V W X Y Z aa ab ac ad ae af ag ah ai
 aj ak al am an ao ap aq ar au av aw ax:Value) (H:AHeap) (k:Value→AHeap→Prop):S100x1 k [s0,s1,s2,s3,s4,s5,s6,s7,s8,s9,ay,az,e,aA,aB,aC,aD,aE,aF,aG,aH,aI,
 aJ,aK,aL,aM,aN,aO,aP,aQ,aR,aS,aT,aU,aV,aW,aX,aY,aZ,a0,a1,a2,a3,a4,a5,a6,a7,a8,a9,ba,bb,bc,bd,be,bf,bg,bh,bi,bj,bk,bl,bm,bn,bo,bp,bq,br,
 bs,bt,bu,bv,bw,bx,bz,bA,bB,bC,bD,bE,bF,bG,bH,bI,bJ,bK,bL,bM,bN,bO,bP,bQ,bR,bS,bT,bU,bV,bW,bX,bY,bZ,f,g,h,i,j,l,m,n,o,p,
 q,r,s,t,u,v,w,x,y,z,A,B,C,D,E,F,G,I,J,K,L,M,N,O,P,Q,R,S,T,U,V,W,X,Y,Z,aa,ab,ac,
 ad,ae,af,ag,ah,ai,aj,ak,al,am,an,ao,ap,aq,ar,au,av,aw,ax] H=(@bnd (aBin2 prog H .gtr 3 (.tmp 160) (.const (.int .i64 0)) s4 (.int .i64 0)) ⟨fun a=>@kifB
 a ⟨@bnd (aBin2 prog H .add 41 (.const (.int .u32 48)) (.tmp 163) (.int .u32 48) e) ⟨fun b=>@bnd (convV prog H 41 5 b) ⟨fun c=>@bnd (aIndexAddr prog H 69 s0 (.int .i64 0)) ⟨fun
 d=>@bndS (aStore prog H 5 d c) ⟨fun _ H155=>k (.tuple #[]) H155⟩⟩⟩⟩⟩ ⟨k (.tuple #[]) H⟩⟩):=by kernel_rfl
end Go.Vi
namespace Go.Vi
open Go Go.Proofs Go.Proofs.Tryz
theorem acallsKo {P:Program} (hm:P.follows .mixedOrders=true) {f fn args H v K'} (hf:P.funcs[f]?=some fn) (hn:notNG fn=true) (hr:kbodyG P (drawKeep P) fn args H fun u H2=>u=v∧H2=K'):ACalls P f args H v K' :=
 acallsG_of (fun c=>@drawKeep_sound P c hm) hf hn hr
abbrev u32 (n:Int):Value:=.int .u32 n
def dgt (d:Nat):Value:=byt (UInt8.ofNat (48+d))
def putD (o:Nat):Nat→Nat→List Value→List Value
 | 0,_,cs=>cs
 | n+1,u,cs=>putD o n (u / 10) (cs.set (o+n) (dgt (u % 10)))
theorem sm_at:∀ p:Nat,p < 100→smS.data[2*p]?=some (UInt8.ofNat (48+p / 10))∧smS.data[2*p+1]?=some (UInt8.ofNat (48+p % 10)):=by decide +kernel
theorem sm_ix (_H:Nat) {p:Nat} (hp:p < 100):aIndex prog 9 (.string smS) (u32 ((2*p:Nat):Int))=some (dgt (p / 10))∧aIndex prog 9 (.string smS) (u32 ((2*p+1:Nat):Int))=some (dgt (p % 10)):=by
 obtain ⟨h1,h2⟩:=sm_at p hp
 have e:str smS.data.toList=.string smS:=rfl
 have i1:=aIndex_at (P:=prog) (T:=9) (k:=.u32) (l:=smS.data.toList) (i:=2*p) (by simp) (by rw [Array.getElem?_toList];exact h1)
 have i2:=aIndex_at (P:=prog) (T:=9) (k:=.u32) (l:=smS.data.toList) (i:=2*p+1) (by simp) (by rw [Array.getElem?_toList];exact h2)
 rw [e] at i1 i2
 exact ⟨i1,i2⟩
section
variable {P:Program} {H:AHeap} {T:TypeId} {x y:Operand} {k:IntKind} {a:Nat}
theorem remL {c:Int} {n:Nat} (hc:c=n) (h0:0 < n):aBin2 P H .rem T x y (.int k (a:Int)) (.int k c)=some (.int k ((a % n:Nat):Int)):=by
 subst hc;rw [aBin_rem _ _ _ _ _ _ _ (by omega)];rfl
theorem quoL {c:Int} {n:Nat} (hc:c=n) (h0:0 < n) (hw:k.wrap ((a / n:Nat):Int)=((a / n:Nat):Int)):aBin2 P H .quo T x y (.int k (a:Int)) (.int k c)=some (.int k ((a / n:Nat):Int)):=by
 subst hc;rw [aBin_quo _ _ _ _ _ _ _ (by omega),← hw];rfl
theorem wrap32 {n:Int} (h1:0≤n) (h2:n < 4294967296):IntKind.u32.wrap n=n:=by
 unfold IntKind.wrap
 simp only [show IntKind.u32.bits=32 from rfl,show IntKind.u32.signed=false from rfl]
 simp
 omega
theorem rem32 {n:Nat} {c:Int} (hc:c=n) (h0:0 < n):aBin2 P H .rem T x y (u32 (a:Int)) (u32 c)=some (u32 ((a % n:Nat):Int)):=remL hc h0
theorem quo32 {n:Nat} {c:Int} (hc:c=n) (h0:0 < n) (ha:a < 4294967296):aBin2 P H .quo T x y (u32 (a:Int)) (u32 c)=some (u32 ((a / n:Nat):Int)) :=
 quoL hc h0 (by have h:=Nat.div_le_self a n;generalize a / n=q at *;exact wrap32 (by omega) (by omega))
theorem mul32 (ha:a < 1000):aBin2 P H .mul T x y (u32 (a:Int)) (u32 2)=some (u32 ((2*a:Nat):Int)):=by
 rw [aBin_mul,wrap32 (by omega) (by omega)];congr 2;omega
theorem add32 (ha:a < 1000):aBin2 P H .add T x y (u32 ((2*a:Nat):Int)) (u32 1)=some (u32 ((2*a+1:Nat):Int)):=by
 rw [aBin_add,wrap32 (by omega) (by omega)];rfl
theorem subN {j:Nat} {c:Int} (hc:c=j) (hj:j≤a) (ha:a < 1000):aBin2 P H .sub T x y (i64 (a:Int)) (i64 c)=some (i64 ((a-j:Nat):Int)):=by
 subst hc;rw [aBin_sub,wrap_i64 (by omega) (by omega)];congr 2;omega
end
theorem row_at {H:AHeap} {b o nd c i:Nat} {cs:List Value} {T:TypeId} (hb:H[b]?=some (.cells cs T)) (hc:cs.length=24) (hi:i < nd) :
  aIndexAddr prog H 69 (.slice (some ⟨b,o,some 24⟩) nd c) (i64 (i:Int))=some (.pointer (some ⟨b,o+i,some 24⟩)):=by
 rw [aIndexAddr_eq (e:=5) (z:=1) (by simp) (by simp) (by simp [hlen,hb,AObj.len,hc]) (by omega) (by omega)]
 simp
theorem row_sto {H:AHeap} {b i d:Nat} {cs:List Value} {T:TypeId} (hb:H[b]?=some (.cells cs T)) (hc:cs.length=24) (hi:i < 24) :
  aStore prog H 5 (.pointer (some ⟨b,i,some 24⟩)) (dgt d)=some (H.set b (.cells (cs.set i (dgt d)) T)):=by
 have h1:(dgt d).cells = #[dgt d]:=rfl
 have h2:storable (dgt d)=true:=rfl
 simp [hb,hc,h1,h2]
 omega
theorem set_get {H:AHeap} {b:Nat} {x y:AObj} (hb:H[b]?=some x):(H.set b y)[b]?=some y:=List.getElem?_set_self (List.getElem?_eq_some_iff.1 hb).1
theorem putD_two {o n u:Nat} {cs:List Value}:putD o (n+2) u cs=putD o n (u / 100) ((cs.set (o+(n+1)) (dgt (u % 100 % 10))).set (o+n) (dgt (u % 100 / 10))):=by
 show putD o n (u / 10 / 10) ((cs.set (o+(n+1)) (dgt (u % 10))).set (o+n) (dgt (u / 10 % 10)))=_
 rw [show u / 10 / 10=u / 100 by omega,show u % 100 % 10=u % 10 by omega,show u % 100 / 10=u / 10 % 10 by omega]
theorem putD_len:∀ (n o u:Nat) (cs:List Value),(putD o n u cs).length=cs.length:=by
 intro n
 induction n with
 | zero=>intro o u cs;rfl
 | succ n ih=>intro o u cs;rw [putD,ih];simp
theorem fb_last {H:AHeap} {b o nd m0 c u:Nat} {cs:List Value} {T:TypeId} {k:Value→AHeap→Prop} (hb:H[b]?=some (.cells cs T)) (hc:cs.length=24) (ho:o+nd≤24) (hnd:nd < 2) (hu:u < 10 ^ nd) (hndc:nd≤m0)
  (hk:k (.tuple #[]) (H.set b (.cells (putD o nd u cs) T))) (s1 s2 s3 s5 s6 s7 s8 s9 aB aC aD aE aF aG aH aI aJ aK aL aM aN aO aP aQ aR aS aT aU aV aW aX aY aZ a0 a1 a2 a3 a4 a5 a6 a7 a8 a9 ba bb bc bd be bf bg bh bi bj bk bl bm bn bo bp bq br bs bt bu bv bw bx bz bA bB bC bD bE bF bG bH bI bJ bK bL bM bN bO bP bQ bR bS bT bU bV bW bX bY bZ b0 b1 b2 a f g h j l m n p q r s t v w x y z A B C D E F G I J K L M N O P Q R S U V W X Y Z aa ab ac ad ae af ag ah ai aj ak al am an ao ap aq ar au av aw ax ay az aA:Value):S100x1 k [.slice (some ⟨b,o,some 24⟩) m0 c,s1,s2,s3,i64 (nd:Int),s5,s6,s7,s8,s9,aB,aC,u32 (u:Int),aD,aE,aF,aG,aH,aI,aJ,aK,aL,aM,aN,aO,aP,aQ,aR,aS,aT,aU,aV,aW,aX,aY,aZ,a0,a1,a2,a3,a4,a5,a6,a7,a8,a9,ba,bb,bc,bd,be,bf,bg,bh,bi,bj,bk,bl,bm,bn,bo,bp,bq,br,bs,bt,bu,bv,bw,bx,bz,bA,bB,bC,bD,bE,bF,bG,bH,bI,bJ,bK,bL,bM,bN,bO,bP,bQ,bR,bS,bT,bU,bV,bW,bX,bY,bZ,b0,b1,b2,a,f,g,h,j,l,m,n,p,q,r,s,t,v,w,x,y,z,A,B,C,D,E,F,G,I,J,K,L,M,N,O,P,Q,R,S,U,V,W,X,Y,Z,aa,ab,ac,ad,ae,af,ag,ah,ai,aj,ak,al,am,an,ao,ap,aq,ar,au,av,aw,ax,ay,az,aA] H:=by
 rw [S100x1q]
 match nd,hnd,hu,hk with
 | 0, _, hu, hk =>
   simp
   rw [show H.set b (.cells (putD o 0 u cs) T)=H from set_same hb] at hk
   exact hk
 | 1, _, hu, hk =>
   have hu':u < 10:=by simpa using hu
   have w1:IntKind.u32.wrap (48+(u:Int))=((48+u:Nat):Int):=by rw [wrap32 (by omega) (by omega)];omega
   have w2:IntKind.u8.wrap (((48+u:Nat):Int))=(((UInt8.ofNat (48+u)).toNat:Nat):Int):=by
    rw [wrap_u8 (by omega) (by omega)];simp only [UInt8.toNat_ofNat'];omega
   have hix:=row_at (o:=o) (nd:=m0) (c:=c) (i:=0) hb hc (by omega)
   have hst:=row_sto (i:=o) (d:=u) hb hc (by omega)
   simp only [show ((0:Nat):Int)=0 from rfl,Nat.add_zero] at hix
   have e:putD o 1 u cs=cs.set o (dgt u):=by
    show cs.set (o+0) (dgt (u % 10))=_
    rw [Nat.add_zero,Nat.mod_eq_of_lt hu']
   rw [e] at hk
   simp only [show ((1:Nat):Int)=1 from rfl,aBin_gtr,show decide ((1:Int) > 0)=true from rfl,bnd_some,kifB_true,aBin_add,w1,convV_int tu41 tu5,w2,hix]
   rw [show (Value.int .u8 (((UInt8.ofNat (48+u)).toNat:Nat):Int))=dgt u from rfl,hst]
   simp only [bndS_some]
   exact hk
theorem set_len {cs:List Value} {i:Nat} {v:Value} (h:cs.length=24):(cs.set i v).length=24:=by simpa using h
theorem fb_two {H:AHeap} {b o nd m0 c u:Nat} {cs:List Value} {T:TypeId} {k:Value→AHeap→Prop} (hb:H[b]?=some (.cells cs T)) (hc:cs.length=24) (ho:o+nd≤24) (hnd:nd < 4) (hu:u < 10 ^ nd) (hndc:nd≤m0)
  (hk:k (.tuple #[]) (H.set b (.cells (putD o nd u cs) T))) (f e s3 s5 s6 s7 s8 s9 aL aM aN aO aP aQ aR aS aT aU aV aW aX aY aZ a1 a2 a3 a4 a5 a6 a7 a8 a9 ba bb bc bd be bf bg bh bi bj bk bl bm bn bo bp bq br bs bt bu bv bw bx bz bA bB bC bD bE bF bG bH bI bJ bK bL bM bN bO bP bQ bR bS bT bU bV bW bX bY bZ b0 b4 b5 b6 b7 b8 b9 ca cb cc cd ce cf cg g h l m p q r s t w z A B C D E F G I J K L M N O Q R S U V W Z aa ab ac ad ae af ag ah ai aj ak al am an ao ap aq ar au av aw ax ay az aA aB aC aD aE aF aG aH aI aJ aK:Value):S100x0 k [.slice (some ⟨b,o,some 24⟩) m0 c,f,e,s3,i64 (nd:Int),s5,s6,s7,s8,s9,aL,aM,u32 (u:Int),aN,aO,aP,aQ,aR,aS,aT,aU,aV,aW,aX,aY,aZ,a1,a2,a3,a4,a5,a6,a7,a8,a9,ba,bb,bc,bd,be,bf,bg,bh,bi,bj,bk,bl,bm,bn,bo,bp,bq,br,bs,bt,bu,bv,bw,bx,bz,bA,bB,bC,bD,bE,bF,bG,bH,bI,bJ,bK,bL,bM,bN,bO,bP,bQ,bR,bS,bT,bU,bV,bW,bX,bY,bZ,b0,b4,b5,b6,b7,b8,b9,ca,cb,cc,cd,ce,cf,cg,g,h,l,m,p,q,r,s,t,w,z,A,B,C,D,E,F,G,I,J,K,L,M,N,O,Q,R,S,U,V,W,Z,aa,ab,ac,ad,ae,af,ag,ah,ai,aj,ak,al,am,an,ao,ap,aq,ar,au,av,aw,ax,ay,az,aA,aB,aC,aD,aE,aF,aG,aH,aI,aJ,aK] H:=by
 rw [S100x0q]
 simp only [aBin_geq,bnd_some]
 have hu4:u < 10000:=Nat.lt_of_lt_of_le hu (Nat.pow_le_pow_right (by omega) (by omega:nd≤4))
 refine kifB_bool (fun hq=>?_) (fun hq=>?_)
 · obtain ⟨n,rfl⟩:∃ n,nd=n+2:=⟨nd-2,by simp at hq;omega⟩
   have hp:u % 100 < 100:=Nat.mod_lt _ (by omega)
   have b1:=fun (H:AHeap) (X Y:Operand)=>rem32 (P:=prog) (H:=H) (T:=41) (x:=X) (y:=Y) (a:=u) (n:=100) (c:=100) rfl (by omega)
   have b2:=fun (H:AHeap) (X Y:Operand)=>mul32 (P:=prog) (H:=H) (T:=41) (x:=X) (y:=Y) (a:=u % 100) (by omega)
   have b3:=fun (H:AHeap) (X Y:Operand)=>quo32 (P:=prog) (H:=H) (T:=41) (x:=X) (y:=Y) (a:=u) (n:=100) (c:=100) rfl (by omega) (by omega)
   have f:=fun (H:AHeap) (X Y:Operand)=>subN (P:=prog) (H:=H) (T:=3) (x:=X) (y:=Y) (a:=n+2) (j:=1) (c:=1) rfl (by omega) (by omega)
   replace f:∀ (H:AHeap) (X Y:Operand),aBin2 prog H .sub 3 X Y (i64 ((n+2:Nat):Int)) (i64 1)=some (i64 ((n+1:Nat):Int)):=f
   have e:=fun (H:AHeap) (X Y:Operand)=>subN (P:=prog) (H:=H) (T:=3) (x:=X) (y:=Y) (a:=n+2) (j:=2) (c:=2) rfl (by omega) (by omega)
   replace e:∀ (H:AHeap) (X Y:Operand),aBin2 prog H .sub 3 X Y (i64 ((n+2:Nat):Int)) (i64 2)=some (i64 ((n+0:Nat):Int)):=e
   have r0a:=row_at (o:=o) (nd:=m0) (c:=c) (i:=n+1) hb hc (by omega)
   have t0a:=row_sto (i:=o+(n+1)) (d:=(u % 100) % 10) hb hc (by omega)
   have g0a:=set_get (y:=.cells (cs.set (o+(n+1)) (dgt ((u % 100) % 10))) T) hb
   have l0a:=set_len (i:=o+(n+1)) (v:=dgt ((u % 100) % 10)) hc
   have r0b:=row_at (o:=o) (nd:=m0) (c:=c) (i:=n+0) g0a l0a (by omega)
   have t0b:=row_sto (i:=o+(n+0)) (d:=(u % 100) / 10) g0a l0a (by omega)
   have g0b:=set_get (y:=.cells ((cs.set (o+(n+1)) (dgt ((u % 100) % 10))).set (o+(n+0)) (dgt ((u % 100) / 10))) T) g0a
   have l0b:=set_len (i:=o+(n+0)) (v:=dgt ((u % 100) / 10)) l0a
   have x0:=sm_ix 0 hp
   have a0:=fun (H:AHeap) (X Y:Operand)=>add32 (P:=prog) (H:=H) (T:=41) (x:=X) (y:=Y) (a:=u % 100) (by omega)
   simp only [b1,b2,b3,bnd_some]
   simp only [bnd_some,f,e,a0,x0.1,x0.2,r0a]
   refine bndK_of ⟨rfl,t0a⟩ ⟨x0.1,e _ _ _,trivial⟩ ?_
   simp only [r0b,bnd_some]
   refine bndK_bar ⟨rfl,t0b⟩ ?_
   simp only [e,bnd_some]
   have hu':u / 100 < 10 ^ n:=by rw [Nat.div_lt_iff_lt_mul (by omega)];rw [Nat.pow_add] at hu;exact hu
   refine fb_last (nd:=n) g0b l0b (by omega) (by omega) hu' (by omega) ?_ _ _ _ _ _ _ _ _ _ _ _ _ _ _ _ _ _ _ _ _ _ _ _ _ _ _ _ _ _ _ _ _ _ _ _ _ _ _ _ _ _ _ _ _ _ _ _ _ _ _ _ _ _ _ _ _ _ _ _ _ _ _ _ _ _ _ _ _ _ _ _ _ _ _ _ _ _ _ _ _ _ _ _ _ _ _ _ _ _ _ _ _ _ _ _ _ _ _ _ _ _ _ _ _ _ _ _ _ _ _ _ _ _ _ _ _ _ _ _ _ _ _ _ _ _ _ _ _ _ _ _ _ _ _ _ _ _ _ _ _ _ _ _ _ _ _ _ _ _ _ _ _ _ _ _ _ _ _ _ _ _ _ _ _
   rw [List.set_set,List.set_set]
   rw [putD_two] at hk
   exact hk
 · dsimp only
   exact fb_last hb hc (by omega) (by simp at hq;omega) hu (by omega) hk _ _ _ _ _ _ _ _ _ _ _ _ _ _ _ _ _ _ _ _ _ _ _ _ _ _ _ _ _ _ _ _ _ _ _ _ _ _ _ _ _ _ _ _ _ _ _ _ _ _ _ _ _ _ _ _ _ _ _ _ _ _ _ _ _ _ _ _ _ _ _ _ _ _ _ _ _ _ _ _ _ _ _ _ _ _ _ _ _ _ _ _ _ _ _ _ _ _ _ _ _ _ _ _ _ _ _ _ _ _ _ _ _ _ _ _ _ _ _ _ _ _ _ _ _ _ _ _ _ _ _ _ _ _ _ _ _ _ _ _ _ _ _ _ _ _ _ _ _ _ _ _ _ _ _ _ _ _ _ _ _ _ _ _
theorem putD_four {o n u:Nat} {cs:List Value}:putD o (n+4) u cs=putD o n (u / 10000) ((((cs.set (o+(n+3)) (dgt ((u % 10000 % 100) % 10))).set (o+(n+2)) (dgt ((u % 10000 % 100) / 10))).set (o+(n+1)) (dgt ((u % 10000 / 100) % 10))).set (o+(n+0)) (dgt ((u % 10000 / 100) / 10))):=by
 rw [show n+4=(n+2)+2 from rfl,putD_two,putD_two,Nat.div_div_eq_div_mul,show u / 100 % 100=u % 10000 / 100 by omega,show u % 10000 % 100=u % 100 by omega]
 rfl
set_option maxRecDepth 20000 in
theorem fb_four {H:AHeap} {b o nd m0 c u:Nat} {cs:List Value} {T:TypeId} {k:Value→AHeap→Prop} (hb:H[b]?=some (.cells cs T)) (hc:cs.length=24) (ho:o+nd≤24) (hnd:nd < 8) (hu:u < 10 ^ nd) (hndc:nd≤m0)
  (hk:k (.tuple #[]) (H.set b (.cells (putD o nd u cs) T))) (n1:Nat) (e f s5 s6 s7 s8 s9 aM aN aO aP aQ aR aS aT aU aV aW aX aY aZ a2 a3 a4 a5 a6 a7 a8 a9 ba bb bc bd be bf bg bh bi bj bk bl bm bn bo bp bq br bs bt bu bv bw bx bz bA bB bC bD bE bF bG bH bI bJ bK bL bM bN bO bP bQ bR bS bT bU bV bW bX bY bZ b0 b7 b8 b9 ca cb cc cd ce cf cg ch ci cj ck cl cm h l m p q r s t w z A B C D E F G I J K L M N O Q R S U V W Z aa ab ac ad ae af ag ah ai aj ak al am an ao ap aq ar au av aw ax ay az aA aB aC aD aE aF aG aH aI aJ aK aL:Value):L100x0 (n1+1) k [.slice (some ⟨b,o,some 24⟩) m0 c,u64 (u:Int),e,f,i64 (nd:Int),s5,s6,s7,s8,s9,aM,aN,aO,aP,aQ,aR,aS,aT,aU,aV,aW,aX,aY,aZ,a2,a3,a4,a5,a6,a7,a8,a9,ba,bb,bc,bd,be,bf,bg,bh,bi,bj,bk,bl,bm,bn,bo,bp,bq,br,bs,bt,bu,bv,bw,bx,bz,bA,bB,bC,bD,bE,bF,bG,bH,bI,bJ,bK,bL,bM,bN,bO,bP,bQ,bR,bS,bT,bU,bV,bW,bX,bY,bZ,b0,b7,b8,b9,ca,cb,cc,cd,ce,cf,cg,ch,ci,cj,ck,cl,cm,h,l,m,p,q,r,s,t,w,z,A,B,C,D,E,F,G,I,J,K,L,M,N,O,Q,R,S,U,V,W,Z,aa,ab,ac,ad,ae,af,ag,ah,ai,aj,ak,al,am,an,ao,ap,aq,ar,au,av,aw,ax,ay,az,aA,aB,aC,aD,aE,aF,aG,aH,aI,aJ,aK,aL] H:=by
 rw [L100x0q]
 have hu8:u < 100000000:=Nat.lt_of_lt_of_le hu (Nat.pow_le_pow_right (by omega) (by omega:nd≤8))
 have h8:decide ((nd:Int) ≥ 8)=false:=by simp;omega
 have w0:IntKind.u32.wrap (u:Int)=u:=wrap32 (by omega) (by omega)
 simp only [aBin_geq,bnd_some,h8,kifB_false,convV_int tu117 tu41,w0]
 refine kifB_bool (fun hq=>?_) (fun hq=>?_)
 · obtain ⟨n,rfl⟩:∃ n,nd=n+4:=⟨nd-4,by simp at hq;omega⟩
   have hp:u % 10000 % 100 < 100:=Nat.mod_lt _ (by omega)
   have hp2:u % 10000 / 100 < 100:=by omega
   have b1:=fun (H:AHeap) (X Y:Operand)=>rem32 (P:=prog) (H:=H) (T:=41) (x:=X) (y:=Y) (a:=u) (n:=10000) (c:=10000) rfl (by omega)
   have b2:=fun (H:AHeap) (X Y:Operand)=>quo32 (P:=prog) (H:=H) (T:=41) (x:=X) (y:=Y) (a:=u) (n:=10000) (c:=10000) rfl (by omega) (by omega)
   have b3:=fun (H:AHeap) (X Y:Operand)=>quo32 (P:=prog) (H:=H) (T:=41) (x:=X) (y:=Y) (a:=u % 10000) (n:=100) (c:=100) rfl (by omega) (by omega)
   have b4:=fun (H:AHeap) (X Y:Operand)=>mul32 (P:=prog) (H:=H) (T:=41) (x:=X) (y:=Y) (a:=u % 10000 / 100) (by omega)
   have b5:=fun (H:AHeap) (X Y:Operand)=>rem32 (P:=prog) (H:=H) (T:=41) (x:=X) (y:=Y) (a:=u % 10000) (n:=100) (c:=100) rfl (by omega)
   have b6:=fun (H:AHeap) (X Y:Operand)=>mul32 (P:=prog) (H:=H) (T:=41) (x:=X) (y:=Y) (a:=u % 10000 % 100) (by omega)
   have s1:=fun (H:AHeap) (X Y:Operand)=>subN (P:=prog) (H:=H) (T:=3) (x:=X) (y:=Y) (a:=n+4) (j:=1) (c:=1) rfl (by omega) (by omega)
   replace s1:∀ (H:AHeap) (X Y:Operand),aBin2 prog H .sub 3 X Y (i64 ((n+4:Nat):Int)) (i64 1)=some (i64 ((n+3:Nat):Int)):=s1
   have e:=fun (H:AHeap) (X Y:Operand)=>subN (P:=prog) (H:=H) (T:=3) (x:=X) (y:=Y) (a:=n+4) (j:=2) (c:=2) rfl (by omega) (by omega)
   replace e:∀ (H:AHeap) (X Y:Operand),aBin2 prog H .sub 3 X Y (i64 ((n+4:Nat):Int)) (i64 2)=some (i64 ((n+2:Nat):Int)):=e
   have f:=fun (H:AHeap) (X Y:Operand)=>subN (P:=prog) (H:=H) (T:=3) (x:=X) (y:=Y) (a:=n+4) (j:=3) (c:=3) rfl (by omega) (by omega)
   replace f:∀ (H:AHeap) (X Y:Operand),aBin2 prog H .sub 3 X Y (i64 ((n+4:Nat):Int)) (i64 3)=some (i64 ((n+1:Nat):Int)):=f
   have g:=fun (H:AHeap) (X Y:Operand)=>subN (P:=prog) (H:=H) (T:=3) (x:=X) (y:=Y) (a:=n+4) (j:=4) (c:=4) rfl (by omega) (by omega)
   replace g:∀ (H:AHeap) (X Y:Operand),aBin2 prog H .sub 3 X Y (i64 ((n+4:Nat):Int)) (i64 4)=some (i64 ((n+0:Nat):Int)):=g
   have r0a:=row_at (o:=o) (nd:=m0) (c:=c) (i:=n+3) hb hc (by omega)
   have t0a:=row_sto (i:=o+(n+3)) (d:=(u % 10000 % 100) % 10) hb hc (by omega)
   have g0a:=set_get (y:=.cells (cs.set (o+(n+3)) (dgt ((u % 10000 % 100) % 10))) T) hb
   have l0a:=set_len (i:=o+(n+3)) (v:=dgt ((u % 10000 % 100) % 10)) hc
   have r0b:=row_at (o:=o) (nd:=m0) (c:=c) (i:=n+2) g0a l0a (by omega)
   have t0b:=row_sto (i:=o+(n+2)) (d:=(u % 10000 % 100) / 10) g0a l0a (by omega)
   have g0b:=set_get (y:=.cells ((cs.set (o+(n+3)) (dgt ((u % 10000 % 100) % 10))).set (o+(n+2)) (dgt ((u % 10000 % 100) / 10))) T) g0a
   have l0b:=set_len (i:=o+(n+2)) (v:=dgt ((u % 10000 % 100) / 10)) l0a
   have x0:=sm_ix 0 hp
   have a0:=fun (H:AHeap) (X Y:Operand)=>add32 (P:=prog) (H:=H) (T:=41) (x:=X) (y:=Y) (a:=u % 10000 % 100) (by omega)
   have r1a:=row_at (o:=o) (nd:=m0) (c:=c) (i:=n+1) g0b l0b (by omega)
   have t1a:=row_sto (i:=o+(n+1)) (d:=(u % 10000 / 100) % 10) g0b l0b (by omega)
   have g1a:=set_get (y:=.cells (((cs.set (o+(n+3)) (dgt ((u % 10000 % 100) % 10))).set (o+(n+2)) (dgt ((u % 10000 % 100) / 10))).set (o+(n+1)) (dgt ((u % 10000 / 100) % 10))) T) g0b
   have l1a:=set_len (i:=o+(n+1)) (v:=dgt ((u % 10000 / 100) % 10)) l0b
   have r1b:=row_at (o:=o) (nd:=m0) (c:=c) (i:=n+0) g1a l1a (by omega)
   have t1b:=row_sto (i:=o+(n+0)) (d:=(u % 10000 / 100) / 10) g1a l1a (by omega)
   have g1b:=set_get (y:=.cells ((((cs.set (o+(n+3)) (dgt ((u % 10000 % 100) % 10))).set (o+(n+2)) (dgt ((u % 10000 % 100) / 10))).set (o+(n+1)) (dgt ((u % 10000 / 100) % 10))).set (o+(n+0)) (dgt ((u % 10000 / 100) / 10))) T) g1a
   have l1b:=set_len (i:=o+(n+0)) (v:=dgt ((u % 10000 / 100) / 10)) l1a
   have x1:=sm_ix 0 hp2
   have a1:=fun (H:AHeap) (X Y:Operand)=>add32 (P:=prog) (H:=H) (T:=41) (x:=X) (y:=Y) (a:=u % 10000 / 100) (by omega)
   simp only [b1,b2,b3,b4,b5,b6,bnd_some]
   simp only [bnd_some,s1,e,a0,x0.1,x0.2,r0a]
   refine bndK_of ⟨rfl,t0a⟩ ⟨x0.1,e _ _ _,trivial⟩ ?_
   simp only [r0b,bnd_some]
   refine bndK_bar ⟨rfl,t0b⟩ ?_
   simp only [bnd_some,f,g,a1,x1.1,x1.2,r1a]
   refine bndK_of ⟨rfl,t1a⟩ ⟨x1.1,g _ _ _,trivial⟩ ?_
   simp only [r1b,bnd_some]
   refine bndK_bar ⟨rfl,t1b⟩ ?_
   simp only [g,bnd_some]
   have hu':u / 10000 < 10 ^ n:=by rw [Nat.div_lt_iff_lt_mul (by omega)];rw [Nat.pow_add] at hu;exact hu
   refine fb_two (nd:=n) g1b l1b (by omega) (by omega) hu' (by omega) ?_ _ _ _ _ _ _ _ _ _ _ _ _ _ _ _ _ _ _ _ _ _ _ _ _ _ _ _ _ _ _ _ _ _ _ _ _ _ _ _ _ _ _ _ _ _ _ _ _ _ _ _ _ _ _ _ _ _ _ _ _ _ _ _ _ _ _ _ _ _ _ _ _ _ _ _ _ _ _ _ _ _ _ _ _ _ _ _ _ _ _ _ _ _ _ _ _ _ _ _ _ _ _ _ _ _ _ _ _ _ _ _ _ _ _ _ _ _ _ _ _ _ _ _ _ _ _ _ _ _ _ _ _ _ _ _ _ _ _ _ _ _ _ _ _ _ _ _ _ _ _ _ _ _ _ _ _ _ _ _ _ _ _ _ _
   rw [List.set_set,List.set_set,List.set_set,List.set_set]
   rw [putD_four] at hk
   exact hk
 · dsimp only
   exact fb_two hb hc (by omega) (by simp at hq;omega) hu (by omega) hk _ _ _ _ _ _ _ _ _ _ _ _ _ _ _ _ _ _ _ _ _ _ _ _ _ _ _ _ _ _ _ _ _ _ _ _ _ _ _ _ _ _ _ _ _ _ _ _ _ _ _ _ _ _ _ _ _ _ _ _ _ _ _ _ _ _ _ _ _ _ _ _ _ _ _ _ _ _ _ _ _ _ _ _ _ _ _ _ _ _ _ _ _ _ _ _ _ _ _ _ _ _ _ _ _ _ _ _ _ _ _ _ _ _ _ _ _ _ _ _ _ _ _ _ _ _ _ _ _ _ _ _ _ _ _ _ _ _ _ _ _ _ _ _ _ _ _ _ _ _ _ _ _ _ _ _ _ _ _ _ _ _ _ _
theorem putD_eight {o n u:Nat} {cs:List Value}:putD o (n+8) u cs=putD o n (u / 100000000) ((((((((cs.set (o+(n+7)) (dgt ((u % 100000000 % 10000 % 100) % 10))).set (o+(n+6)) (dgt ((u % 100000000 % 10000 % 100) / 10))).set (o+(n+5)) (dgt ((u % 100000000 % 10000 / 100) % 10))).set (o+(n+4)) (dgt ((u % 100000000 % 10000 / 100) / 10))).set (o+(n+3)) (dgt ((u % 100000000 / 10000 % 100) % 10))).set (o+(n+2)) (dgt ((u % 100000000 / 10000 % 100) / 10))).set (o+(n+1)) (dgt ((u % 100000000 / 10000 / 100) % 10))).set (o+(n+0)) (dgt ((u % 100000000 / 10000 / 100) / 10))):=by
 rw [show n+8=(n+4)+4 from rfl,putD_four,putD_four,Nat.div_div_eq_div_mul,show u % 100000000 % 10000=u % 10000 by omega,show u % 100000000 / 10000=u / 10000 % 10000 by omega]
set_option maxRecDepth 20000 in
theorem fb_loop {b o m0 c:Nat} {T:TypeId} {k:Value→AHeap→Prop}:∀ (f nd u:Nat) (H:AHeap) (cs:List Value),nd < 8*f+8→H[b]?=some (.cells cs T)→cs.length=24→o+nd≤24→u < 10 ^ nd→u < 2 ^ 64→nd≤m0→k (.tuple #[]) (H.set b (.cells (putD o nd u cs) T)) →
  ∀ (g l m h p e s9 aQ aR aS aT aU aV aW aX aY aZ a4 a5 a6 a7 a8 a9 bb bc bd be bf bg bh bi bj bk bl bm bn bo bp bq br bs bt bu bv bw bx bz bA bB bC bD bE bF bG bH bI bJ bK bL bM bN bO bP bQ bR bS bT bU bV bW bX bY bZ b0 ca cb cc cd ce cf cg ch ci cj ck cl cm cn co cp cq cr ct cu cv cw cx q r s t w z A B C D E F G I J K L M N O Q R S U V W Z aa ab ac ad ae af ag ah ai aj ak al am an ao ap aq ar au av aw ax ay az aA aB aC aD aE aF aG aH aI aJ aK aL aM aN aO aP:Value),L100x0 (f+1) k [.slice (some ⟨b,o,some 24⟩) m0 c,u64 (u:Int),g,l,i64 (nd:Int),m,h,p,e,s9,aQ,aR,aS,aT,aU,aV,aW,aX,aY,aZ,a4,a5,a6,a7,a8,a9,bb,bc,bd,be,bf,bg,bh,bi,bj,bk,bl,bm,bn,bo,bp,bq,br,bs,bt,bu,bv,bw,bx,bz,bA,bB,bC,bD,bE,bF,bG,bH,bI,bJ,bK,bL,bM,bN,bO,bP,bQ,bR,bS,bT,bU,bV,bW,bX,bY,bZ,b0,ca,cb,cc,cd,ce,cf,cg,ch,ci,cj,ck,cl,cm,cn,co,cp,cq,cr,ct,cu,cv,cw,cx,q,r,s,t,w,z,A,B,C,D,E,F,G,I,J,K,L,M,N,O,Q,R,S,U,V,W,Z,aa,ab,ac,ad,ae,af,ag,ah,ai,aj,ak,al,am,an,ao,ap,aq,ar,au,av,aw,ax,ay,az,aA,aB,aC,aD,aE,aF,aG,aH,aI,aJ,aK,aL,aM,aN,aO,aP] H:=by
 intro f
 induction f with
 | zero=>intro nd u H cs hnd hb hc ho hu _ hm hk;exact fb_four hb hc ho (by omega) hu hm hk 0
 | succ f ih =>
   intro nd u H cs hnd hb hc ho hu hu64 hm hk
   by_cases h8:nd < 8
   · exact fb_four hb hc ho h8 hu hm hk (f+1)
   intro g l m h p e s9 aQ aR aS aT aU aV aW aX aY aZ a4 a5 a6 a7 a8 a9 bb bc bd be bf bg bh bi bj bk bl bm bn bo bp bq br bs bt bu bv bw bx bz bA bB bC bD bE bF bG bH bI bJ bK bL bM bN bO bP bQ bR bS bT bU bV bW bX bY bZ b0 ca cb cc cd ce cf cg ch ci cj ck cl cm cn co cp cq cr ct cu cv cw cx q r s t w z A B C D E F G I J K L M N O Q R S U V W Z aa ab ac ad ae af ag ah ai aj ak al am an ao ap aq ar au av aw ax ay az aA aB aC aD aE aF aG aH aI aJ aK aL aM aN aO aP
   rw [L100x0q]
   obtain ⟨n,rfl⟩:∃ n,nd=n+8:=⟨nd-8,by omega⟩
   have h8':decide ((((n+8:Nat):Int)) ≥ 8)=true:=by simp;omega
   have w0:IntKind.u32.wrap ((u % 100000000:Nat):Int)=((u % 100000000:Nat):Int):=wrap32 (by omega) (by omega)
   have c1:=fun (H:AHeap) (X Y:Operand)=>remL (P:=prog) (H:=H) (T:=117) (x:=X) (y:=Y) (k:=.u64) (a:=u) (n:=100000000) (c:=100000000) rfl (by omega)
   have c2:=fun (H:AHeap) (X Y:Operand)=>quoL (P:=prog) (H:=H) (T:=117) (x:=X) (y:=Y) (k:=.u64) (a:=u) (n:=100000000) (c:=100000000) rfl (by omega) (wrapU (by omega) (by omega))
   simp only [aBin_geq,bnd_some,h8',kifB_true,c1,c2,convV_int tu117 tu41,w0]
   have p0:u % 100000000 % 10000 % 100 < 100:=Nat.mod_lt _ (by omega)
   have p1:u % 100000000 % 10000 / 100 < 100:=by omega
   have p2:u % 100000000 / 10000 % 100 < 100:=Nat.mod_lt _ (by omega)
   have p3:u % 100000000 / 10000 / 100 < 100:=by omega
   have b1:=fun (H:AHeap) (X Y:Operand)=>quo32 (P:=prog) (H:=H) (T:=41) (x:=X) (y:=Y) (a:=u % 100000000) (n:=10000) (c:=10000) rfl (by omega) (by omega)
   have b2:=fun (H:AHeap) (X Y:Operand)=>rem32 (P:=prog) (H:=H) (T:=41) (x:=X) (y:=Y) (a:=u % 100000000) (n:=10000) (c:=10000) rfl (by omega)
   have b3:=fun (H:AHeap) (X Y:Operand)=>quo32 (P:=prog) (H:=H) (T:=41) (x:=X) (y:=Y) (a:=u % 100000000 % 10000) (n:=100) (c:=100) rfl (by omega) (by omega)
   have b4:=fun (H:AHeap) (X Y:Operand)=>mul32 (P:=prog) (H:=H) (T:=41) (x:=X) (y:=Y) (a:=u % 100000000 % 10000 / 100) (by omega)
   have b5:=fun (H:AHeap) (X Y:Operand)=>rem32 (P:=prog) (H:=H) (T:=41) (x:=X) (y:=Y) (a:=u % 100000000 % 10000) (n:=100) (c:=100) rfl (by omega)
   have b6:=fun (H:AHeap) (X Y:Operand)=>mul32 (P:=prog) (H:=H) (T:=41) (x:=X) (y:=Y) (a:=u % 100000000 % 10000 % 100) (by omega)
   have b7:=fun (H:AHeap) (X Y:Operand)=>quo32 (P:=prog) (H:=H) (T:=41) (x:=X) (y:=Y) (a:=u % 100000000 / 10000) (n:=100) (c:=100) rfl (by omega) (by omega)
   have b8:=fun (H:AHeap) (X Y:Operand)=>mul32 (P:=prog) (H:=H) (T:=41) (x:=X) (y:=Y) (a:=u % 100000000 / 10000 / 100) (by omega)
   have b9:=fun (H:AHeap) (X Y:Operand)=>rem32 (P:=prog) (H:=H) (T:=41) (x:=X) (y:=Y) (a:=u % 100000000 / 10000) (n:=100) (c:=100) rfl (by omega)
   have ba:=fun (H:AHeap) (X Y:Operand)=>mul32 (P:=prog) (H:=H) (T:=41) (x:=X) (y:=Y) (a:=u % 100000000 / 10000 % 100) (by omega)
   have s1:=fun (H:AHeap) (X Y:Operand)=>subN (P:=prog) (H:=H) (T:=3) (x:=X) (y:=Y) (a:=n+8) (j:=1) (c:=1) rfl (by omega) (by omega)
   replace s1:∀ (H:AHeap) (X Y:Operand),aBin2 prog H .sub 3 X Y (i64 ((n+8:Nat):Int)) (i64 1)=some (i64 ((n+7:Nat):Int)):=s1
   have g:=fun (H:AHeap) (X Y:Operand)=>subN (P:=prog) (H:=H) (T:=3) (x:=X) (y:=Y) (a:=n+8) (j:=2) (c:=2) rfl (by omega) (by omega)
   replace g:∀ (H:AHeap) (X Y:Operand),aBin2 prog H .sub 3 X Y (i64 ((n+8:Nat):Int)) (i64 2)=some (i64 ((n+6:Nat):Int)):=g
   have l:=fun (H:AHeap) (X Y:Operand)=>subN (P:=prog) (H:=H) (T:=3) (x:=X) (y:=Y) (a:=n+8) (j:=3) (c:=3) rfl (by omega) (by omega)
   replace l:∀ (H:AHeap) (X Y:Operand),aBin2 prog H .sub 3 X Y (i64 ((n+8:Nat):Int)) (i64 3)=some (i64 ((n+5:Nat):Int)):=l
   have s4:=fun (H:AHeap) (X Y:Operand)=>subN (P:=prog) (H:=H) (T:=3) (x:=X) (y:=Y) (a:=n+8) (j:=4) (c:=4) rfl (by omega) (by omega)
   replace s4:∀ (H:AHeap) (X Y:Operand),aBin2 prog H .sub 3 X Y (i64 ((n+8:Nat):Int)) (i64 4)=some (i64 ((n+4:Nat):Int)):=s4
   have m:=fun (H:AHeap) (X Y:Operand)=>subN (P:=prog) (H:=H) (T:=3) (x:=X) (y:=Y) (a:=n+8) (j:=5) (c:=5) rfl (by omega) (by omega)
   replace m:∀ (H:AHeap) (X Y:Operand),aBin2 prog H .sub 3 X Y (i64 ((n+8:Nat):Int)) (i64 5)=some (i64 ((n+3:Nat):Int)):=m
   have h:=fun (H:AHeap) (X Y:Operand)=>subN (P:=prog) (H:=H) (T:=3) (x:=X) (y:=Y) (a:=n+8) (j:=6) (c:=6) rfl (by omega) (by omega)
   replace h:∀ (H:AHeap) (X Y:Operand),aBin2 prog H .sub 3 X Y (i64 ((n+8:Nat):Int)) (i64 6)=some (i64 ((n+2:Nat):Int)):=h
   have p:=fun (H:AHeap) (X Y:Operand)=>subN (P:=prog) (H:=H) (T:=3) (x:=X) (y:=Y) (a:=n+8) (j:=7) (c:=7) rfl (by omega) (by omega)
   replace p:∀ (H:AHeap) (X Y:Operand),aBin2 prog H .sub 3 X Y (i64 ((n+8:Nat):Int)) (i64 7)=some (i64 ((n+1:Nat):Int)):=p
   have e:=fun (H:AHeap) (X Y:Operand)=>subN (P:=prog) (H:=H) (T:=3) (x:=X) (y:=Y) (a:=n+8) (j:=8) (c:=8) rfl (by omega) (by omega)
   replace e:∀ (H:AHeap) (X Y:Operand),aBin2 prog H .sub 3 X Y (i64 ((n+8:Nat):Int)) (i64 8)=some (i64 ((n+0:Nat):Int)):=e
   have r0a:=row_at (o:=o) (nd:=m0) (c:=c) (i:=n+7) hb hc (by omega)
   have t0a:=row_sto (i:=o+(n+7)) (d:=(u % 100000000 % 10000 % 100) % 10) hb hc (by omega)
   have g0a:=set_get (y:=.cells (cs.set (o+(n+7)) (dgt ((u % 100000000 % 10000 % 100) % 10))) T) hb
   have l0a:=set_len (i:=o+(n+7)) (v:=dgt ((u % 100000000 % 10000 % 100) % 10)) hc
   have r0b:=row_at (o:=o) (nd:=m0) (c:=c) (i:=n+6) g0a l0a (by omega)
   have t0b:=row_sto (i:=o+(n+6)) (d:=(u % 100000000 % 10000 % 100) / 10) g0a l0a (by omega)
   have g0b:=set_get (y:=.cells ((cs.set (o+(n+7)) (dgt ((u % 100000000 % 10000 % 100) % 10))).set (o+(n+6)) (dgt ((u % 100000000 % 10000 % 100) / 10))) T) g0a
   have l0b:=set_len (i:=o+(n+6)) (v:=dgt ((u % 100000000 % 10000 % 100) / 10)) l0a
   have x0:=sm_ix 0 p0
   have a0:=fun (H:AHeap) (X Y:Operand)=>add32 (P:=prog) (H:=H) (T:=41) (x:=X) (y:=Y) (a:=u % 100000000 % 10000 % 100) (by omega)
   have r1a:=row_at (o:=o) (nd:=m0) (c:=c) (i:=n+5) g0b l0b (by omega)
   have t1a:=row_sto (i:=o+(n+5)) (d:=(u % 100000000 % 10000 / 100) % 10) g0b l0b (by omega)
   have g1a:=set_get (y:=.cells (((cs.set (o+(n+7)) (dgt ((u % 100000000 % 10000 % 100) % 10))).set (o+(n+6)) (dgt ((u % 100000000 % 10000 % 100) / 10))).set (o+(n+5)) (dgt ((u % 100000000 % 10000 / 100) % 10))) T) g0b
   have l1a:=set_len (i:=o+(n+5)) (v:=dgt ((u % 100000000 % 10000 / 100) % 10)) l0b
   have r1b:=row_at (o:=o) (nd:=m0) (c:=c) (i:=n+4) g1a l1a (by omega)
   have t1b:=row_sto (i:=o+(n+4)) (d:=(u % 100000000 % 10000 / 100) / 10) g1a l1a (by omega)
   have g1b:=set_get (y:=.cells ((((cs.set (o+(n+7)) (dgt ((u % 100000000 % 10000 % 100) % 10))).set (o+(n+6)) (dgt ((u % 100000000 % 10000 % 100) / 10))).set (o+(n+5)) (dgt ((u % 100000000 % 10000 / 100) % 10))).set (o+(n+4)) (dgt ((u % 100000000 % 10000 / 100) / 10))) T) g1a
   have l1b:=set_len (i:=o+(n+4)) (v:=dgt ((u % 100000000 % 10000 / 100) / 10)) l1a
   have x1:=sm_ix 0 p1
   have a1:=fun (H:AHeap) (X Y:Operand)=>add32 (P:=prog) (H:=H) (T:=41) (x:=X) (y:=Y) (a:=u % 100000000 % 10000 / 100) (by omega)
   have r2a:=row_at (o:=o) (nd:=m0) (c:=c) (i:=n+3) g1b l1b (by omega)
   have t2a:=row_sto (i:=o+(n+3)) (d:=(u % 100000000 / 10000 % 100) % 10) g1b l1b (by omega)
   have g2a:=set_get (y:=.cells (((((cs.set (o+(n+7)) (dgt ((u % 100000000 % 10000 % 100) % 10))).set (o+(n+6)) (dgt ((u % 100000000 % 10000 % 100) / 10))).set (o+(n+5)) (dgt ((u % 100000000 % 10000 / 100) % 10))).set (o+(n+4)) (dgt ((u % 100000000 % 10000 / 100) / 10))).set (o+(n+3)) (dgt ((u % 100000000 / 10000 % 100) % 10))) T) g1b
   have l2a:=set_len (i:=o+(n+3)) (v:=dgt ((u % 100000000 / 10000 % 100) % 10)) l1b
   have r2b:=row_at (o:=o) (nd:=m0) (c:=c) (i:=n+2) g2a l2a (by omega)
   have t2b:=row_sto (i:=o+(n+2)) (d:=(u % 100000000 / 10000 % 100) / 10) g2a l2a (by omega)
   have g2b:=set_get (y:=.cells ((((((cs.set (o+(n+7)) (dgt ((u % 100000000 % 10000 % 100) % 10))).set (o+(n+6)) (dgt ((u % 100000000 % 10000 % 100) / 10))).set (o+(n+5)) (dgt ((u % 100000000 % 10000 / 100) % 10))).set (o+(n+4)) (dgt ((u % 100000000 % 10000 / 100) / 10))).set (o+(n+3)) (dgt ((u % 100000000 / 10000 % 100) % 10))).set (o+(n+2)) (dgt ((u % 100000000 / 10000 % 100) / 10))) T) g2a
   have l2b:=set_len (i:=o+(n+2)) (v:=dgt ((u % 100000000 / 10000 % 100) / 10)) l2a
   have x2:=sm_ix 0 p2
   have a2:=fun (H:AHeap) (X Y:Operand)=>add32 (P:=prog) (H:=H) (T:=41) (x:=X) (y:=Y) (a:=u % 100000000 / 10000 % 100) (by omega)
   have r3a:=row_at (o:=o) (nd:=m0) (c:=c) (i:=n+1) g2b l2b (by omega)
   have t3a:=row_sto (i:=o+(n+1)) (d:=(u % 100000000 / 10000 / 100) % 10) g2b l2b (by omega)
   have g3a:=set_get (y:=.cells (((((((cs.set (o+(n+7)) (dgt ((u % 100000000 % 10000 % 100) % 10))).set (o+(n+6)) (dgt ((u % 100000000 % 10000 % 100) / 10))).set (o+(n+5)) (dgt ((u % 100000000 % 10000 / 100) % 10))).set (o+(n+4)) (dgt ((u % 100000000 % 10000 / 100) / 10))).set (o+(n+3)) (dgt ((u % 100000000 / 10000 % 100) % 10))).set (o+(n+2)) (dgt ((u % 100000000 / 10000 % 100) / 10))).set (o+(n+1)) (dgt ((u % 100000000 / 10000 / 100) % 10))) T) g2b
   have l3a:=set_len (i:=o+(n+1)) (v:=dgt ((u % 100000000 / 10000 / 100) % 10)) l2b
   have r3b:=row_at (o:=o) (nd:=m0) (c:=c) (i:=n+0) g3a l3a (by omega)
   have t3b:=row_sto (i:=o+(n+0)) (d:=(u % 100000000 / 10000 / 100) / 10) g3a l3a (by omega)
   have g3b:=set_get (y:=.cells ((((((((cs.set (o+(n+7)) (dgt ((u % 100000000 % 10000 % 100) % 10))).set (o+(n+6)) (dgt ((u % 100000000 % 10000 % 100) / 10))).set (o+(n+5)) (dgt ((u % 100000000 % 10000 / 100) % 10))).set (o+(n+4)) (dgt ((u % 100000000 % 10000 / 100) / 10))).set (o+(n+3)) (dgt ((u % 100000000 / 10000 % 100) % 10))).set (o+(n+2)) (dgt ((u % 100000000 / 10000 % 100) / 10))).set (o+(n+1)) (dgt ((u % 100000000 / 10000 / 100) % 10))).set (o+(n+0)) (dgt ((u % 100000000 / 10000 / 100) / 10))) T) g3a
   have l3b:=set_len (i:=o+(n+0)) (v:=dgt ((u % 100000000 / 10000 / 100) / 10)) l3a
   have x3:=sm_ix 0 p3
   have a3:=fun (H:AHeap) (X Y:Operand)=>add32 (P:=prog) (H:=H) (T:=41) (x:=X) (y:=Y) (a:=u % 100000000 / 10000 / 100) (by omega)
   simp only [b1,b2,b3,b4,b5,b6,b7,b8,b9,ba,bnd_some]
   simp only [bnd_some,s1,g,a0,x0.1,x0.2,r0a]
   refine bndK_of ⟨rfl,t0a⟩ ⟨x0.1,g _ _ _,trivial⟩ ?_
   simp only [r0b,bnd_some]
   refine bndK_bar ⟨rfl,t0b⟩ ?_
   simp only [bnd_some,l,s4,a1,x1.1,x1.2,r1a]
   refine bndK_of ⟨rfl,t1a⟩ ⟨x1.1,s4 _ _ _,trivial⟩ ?_
   simp only [r1b,bnd_some]
   refine bndK_bar ⟨rfl,t1b⟩ ?_
   simp only [bnd_some,m,h,a2,x2.1,x2.2,r2a]
   refine bndK_of ⟨rfl,t2a⟩ ⟨x2.1,h _ _ _,trivial⟩ ?_
   simp only [r2b,bnd_some]
   refine bndK_bar ⟨rfl,t2b⟩ ?_
   simp only [bnd_some,p,e,a3,x3.1,x3.2,r3a]
   refine bndK_of ⟨rfl,t3a⟩ ⟨x3.1,e _ _ _,trivial⟩ ?_
   simp only [r3b,bnd_some]
   refine bndK_bar ⟨rfl,t3b⟩ ?_
   simp only [e,bnd_some]
   have hu':u / 100000000 < 10 ^ n:=by rw [Nat.div_lt_iff_lt_mul (by omega)];rw [Nat.pow_add] at hu;exact hu
   refine ih n (u / 100000000) _ _ (by omega) g3b l3b (by omega) hu' (by omega) (by omega) ?_ _ _ _ _ _ _ _ _ _ _ _ _ _ _ _ _ _ _ _ _ _ _ _ _ _ _ _ _ _ _ _ _ _ _ _ _ _ _ _ _ _ _ _ _ _ _ _ _ _ _ _ _ _ _ _ _ _ _ _ _ _ _ _ _ _ _ _ _ _ _ _ _ _ _ _ _ _ _ _ _ _ _ _ _ _ _ _ _ _ _ _ _ _ _ _ _ _ _ _ _ _ _ _ _ _ _ _ _ _ _ _ _ _ _ _ _ _ _ _ _ _ _ _ _ _ _ _ _ _ _ _ _ _ _ _ _ _ _ _ _ _ _ _ _ _ _ _ _ _ _ _ _ _ _ _ _ _ _ _ _ _ _ _ _
   rw [List.set_set,List.set_set,List.set_set,List.set_set,List.set_set,List.set_set,List.set_set,List.set_set]
   rw [putD_eight] at hk
   exact hk
theorem c_formatBase10 {H:AHeap} {b o nd c u:Nat} {cs:List Value} {T:TypeId} (hb:H[b]?=some (.cells cs T)) (hc:cs.length=24) (ho:o+nd≤24) (hu:u < 10 ^ nd) (hu64:u < 2 ^ 64) :
  ACalls prog 100 [.slice (some ⟨b,o,some 24⟩) nd c,u64 (u:Int)] H (.tuple #[]) (H.set b (.cells (putD o nd u cs) T)):=by
 refine acallsKo MixT func100 (by decide) ?_
 rw [d100]
 simp
 exact ⟨3+1,fb_loop 3 nd u H cs (by omega) hb hc ho hu hu64 (Nat.le_refl _) ⟨rfl,rfl⟩ _ _ _ _ _ _ _ _ _ _ _ _ _ _ _ _ _ _ _ _ _ _ _ _ _ _ _ _ _ _ _ _ _ _ _ _ _ _ _ _ _ _ _ _ _ _ _ _ _ _ _ _ _ _ _ _ _ _ _ _ _ _ _ _ _ _ _ _ _ _ _ _ _ _ _ _ _ _ _ _ _ _ _ _ _ _ _ _ _ _ _ _ _ _ _ _ _ _ _ _ _ _ _ _ _ _ _ _ _ _ _ _ _ _ _ _ _ _ _ _ _ _ _ _ _ _ _ _ _ _ _ _ _ _ _ _ _ _ _ _ _ _ _ _ _ _ _ _ _ _ _ _ _ _ _ _ _ _ _ _ _ _ _ _⟩
end Go.Vi
namespace Go.Vi
open Go Go.Proofs Go.Proofs.Tryz
def digs:Nat→Nat→List UInt8
 | 0,_=>[]
 | n+1,u=>digs n (u / 10)++[UInt8.ofNat (48+u % 10)]
theorem digs_len:∀ (n u:Nat),(digs n u).length=n:=by
 intro n
 induction n with
 | zero=>intro u;rfl
 | succ n ih=>intro u;rw [digs];simp [ih]
theorem putD_eq:∀ (n o u:Nat) (cs:List Value),o+n≤cs.length→putD o n u cs=cs.take o++bcells (digs n u)++cs.drop (o+n):=by
 intro n
 induction n with
 | zero=>intro o u cs _;simp [putD,digs,bcells]
 | succ n ih =>
   intro o u cs h
   rw [putD,ih _ _ _ (by simp;omega),digs]
   have e1:(cs.set (o+n) (dgt (u % 10))).take o=cs.take o:=by
    rw [List.take_set_of_le (by omega)]
   have e2:(cs.set (o+n) (dgt (u % 10))).drop (o+n)=dgt (u % 10) :: cs.drop (o+(n+1)):=by
    rw [List.drop_eq_getElem_cons (by simp;omega),List.getElem_set_self,List.drop_set_of_lt (by omega)]
    rfl
   rw [e1,e2]
   simp [bcells,dgt]
def natS (n:Nat):List UInt8:=if n=0 then [48] else digs (ndig n) n
def fmtS (x:Int):List UInt8:=if x < 0 then 45 :: natS x.natAbs else natS x.natAbs
theorem small_txt:(∀ n:Nat,n < 10→dgS.extract n (n+1)=⟨(natS n).toArray⟩)∧(∀ n:Nat,n < 100→10≤n→smS.extract (2*n) (2*n+2)=⟨(natS n).toArray⟩):=by
 constructor<;>decide +kernel
theorem convBytes {H:AHeap} {b o n c:Nat} {cs:List Value} {l:List UInt8} (hb:hcells H b=some cs) (hcs:(cs.drop o).take n=bcells l) (_hn:n=l.length) (hle:o+n≤cs.length) :
  convV prog H 69 9 (.slice (some ⟨b,o,some cs.length⟩) n c)=some (str l):=by
 have hu:∀ l:List UInt8,u8s (bcells l)=some (l.map fun b=>(b.toNat:Int)):=by
  intro l
  induction l with
  | nil=>rfl
  | cons x r ih=>simp only [bcells,List.map_cons,u8s];simp only [bcells] at ih;rw [ih];rfl
 have hs:∀ l:List UInt8,strOfNums (l.map fun b=>(b.toNat:Int))=⟨l.toArray⟩:=by
  intro l
  unfold strOfNums
  simp
  exact (List.map_congr_left fun b _=>by simp).trans (List.map_id _)
 simp [convV,aConv,hb,hle,hcs,hu,hs,isU8]
theorem wrapN {x:Int} (h1:-9223372036854775808≤x) (h2:x < 0):IntKind.u64.wrap (0-IntKind.u64.wrap x)=x.natAbs:=by
 have:IntKind.u64.wrap x=x+18446744073709551616:=by
  unfold IntKind.wrap
  simp [IntKind.bits,IntKind.signed]
  omega
 rw [this]
 unfold IntKind.wrap
 simp [IntKind.bits,IntKind.signed]
 omega
theorem cellFx {M:AHeap} {b:Nat} {cs:List Value} {T:TypeId} (h:M[b]?=some (.cells cs T)):hcells M b=some cs∧hlen M b=some cs.length:=by
 have:hcells M b=some cs:=by rw [hcells_eq,h];rfl
 exact ⟨this,hcells_len this⟩
set_option maxRecDepth 20000 in
theorem c_small {H:AHeap} {n:Nat} (hn:n < 100):ACalls prog 98 [i64 n] H (str (natS n)) H:=by
 refine acalls_pure MixT func98 (by decide) rfl ?_
 rw [d98]
 have w1:IntKind.i64.wrap ((n:Int)*2)=2*(n:Int):=by rw [wrap_i64 (by omega) (by omega)];omega
 have w2:IntKind.i64.wrap (2*(n:Int)+2)=2*(n:Int)+2:=wrap_i64 (by omega) (by omega)
 have hu:prog.underlying 9=some .string:=by simp
 have z1:10≤dgS.size:=by decide +kernel
 have z2:smS.size=200:=by decide +kernel
 by_cases h:n < 10
 · have hI:(n:Int) < 10:=by omega
   have hs:aSliceOp prog H 9 (.string dgS) (some (i64 n)) (some (i64 ((n:Int)+1)))=some (str (natS n)):=by
    simp only [aSliceOp,hu,aLow,aHigh]
    rw [if_pos ⟨by omega,by omega,by omega⟩]
    have e1:((n:Int)+1).toNat=n+1:=by omega
    simp only [Int.toNat_natCast,e1,small_txt.1 n h]
   simp [hI,show n+1 < 2 ^ 63 by omega,hs]
 · have hI:¬ (n:Int) < 10:=by omega
   have hs:aSliceOp prog H 9 (.string smS) (some (i64 (2*(n:Int)))) (some (i64 (2*(n:Int)+2)))=some (str (natS n)):=by
    simp only [aSliceOp,hu,aLow,aHigh,z2]
    rw [if_pos ⟨by omega,by omega,by omega⟩]
    have e1:(2*(n:Int)+2).toNat=2*n+2:=by omega
    have e2:(2*(n:Int)).toNat=2*n:=by omega
    simp only [e1,e2,small_txt.2 n hn (by omega)]
   simp [hI,w1,w2,hs]
theorem slice_arr {H:AHeap} {b m n:Nat} {e:TypeId} {T:TypeId} {lo hi:Option Value} {l h:Nat} (hu:prog.underlying T=some (.array n e)) (hs:tsize prog e=some 1) (hb:hlen H b=some m) (h1:aLow lo=some (l:Int)) (h2:aHigh n hi=some (h:Int)) (h3:l≤h) (h4:h≤n) :
  aSliceOp prog H T (.pointer (some ⟨b,0,some m⟩)) lo hi=some (.slice (some ⟨b,l,some m⟩) (h-l) (n-l)):=by
 simp only [aSliceOp,hu,h1,h2,hs,hb]
 rw [if_pos ⟨trivial,by omega,by omega,by omega⟩]
 have e1:((h:Int)-l).toNat=h-l:=by omega
 simp [e1]
theorem take_neg {D r:List Value} {z v:Value} {n:Nat} (h:D.length=n):((((z :: D)++r).set 0 v).drop 0).take (1+n)=v :: D:=by
 subst h
 simp [Nat.add_comm 1]
theorem take_pos {D r:List Value} {z:Value} {n:Nat} (h:D.length=n):(((z :: D)++r).drop 1).take n=D:=by
 subst h
 simp
theorem fi_tail {H K:AHeap} {b:Nat} {x:Int} {k:Value→AHeap→Prop} (hg:Pw K) (hb:K[b]?=some (.cells (List.replicate 24 (.int .u8 0)) 160)) (hbH:H.length≤b) (hp:Pre H K) (h0:x≠0) (h1:-9223372036854775808≤x) (h2:x < 9223372036854775808)
  (hk:∀ K,Pre H K→k (str (fmtS x)) K) (a d s3 s4 s7 s8 s9 f g j p q r s t v w y A B C D E F G I J L O Q R S U V W X Y Z aa ab ac ad ae af ag ah ai aj ak al am:Value):S69x0 k [i64 x,a,d,s3,s4,.pointer (some ⟨b,0,some 24⟩),u64 (x.natAbs:Int),s7,s8,s9,f,g,j,p,q,r,s,t,v,w,y,A,B,C,D,E,F,G,I,J,L,O,Q,R,S,U,V,W,X,Y,Z,aa,ab,ac,ad,ae,af,ag,ah,ai,aj,ak,al,am] K:=by
 have hu0:0 < x.natAbs:=by omega
 have hu1:x.natAbs < 2 ^ 64:=by omega
 obtain ⟨n1,n2,n3,n4⟩:=ndig_ok hu0 hu1
 generalize hnd:ndig x.natAbs=nd at n1 n2 n3 n4
 rw [S69x0q]
 refine bndC_of (c_numDigits hg hu0 hu1) ?_
 rw [hnd]
 have hl:hlen K b=some 24:=(cellFx hb).2.trans (by simp)
 have a:∀ K,hlen K b=some 24→aSliceOp prog K 160 (.pointer (some ⟨b,0,some 24⟩)) (some (i64 1)) (some (i64 (1+(nd:Int))))=some (.slice (some ⟨b,1,some 24⟩) nd 23):=fun K hl=>by
  have:=slice_arr (H:=K) (T:=160) (n:=24) (e:=5) (lo:=some (i64 1)) (hi:=some (i64 (1+(nd:Int)))) (l:=1) (h:=1+nd) (by simp) (by simp) hl rfl (by simp [aHigh]) (by omega) (by omega)
  simpa using this
 have w1:IntKind.i64.wrap (1+(nd:Int))=1+(nd:Int):=wrap_i64 (by omega) (by omega)
 simp [w1,a K hl]
 have hfb:=c_formatBase10 (H:=K) (b:=b) (o:=1) (nd:=nd) (c:=23) (u:=x.natAbs) hb (by simp) (by omega) n3 hu1
 refine bndC_of hfb ?_
 have hput:=putD_eq nd 1 x.natAbs (List.replicate 24 (.int .u8 0)) (by simp;omega)
 have hlen:=putD_len nd 1 x.natAbs (List.replicate 24 (.int .u8 0))
 rw [List.length_replicate] at hlen
 have hfm:natS x.natAbs=digs nd x.natAbs:=by unfold natS;rw [if_neg (by omega),hnd]
 have hdl:=digs_len nd x.natAbs
 have hput':putD 1 nd x.natAbs (List.replicate 24 (.int .u8 0))=(Value.int .u8 0 :: bcells (digs nd x.natAbs))++(List.replicate 24 (.int .u8 0)).drop (1+nd):=by rw [hput];rfl
 clear hput
 have hbl:b < K.length:=(List.getElem?_eq_some_iff.1 hb).1
 generalize putD 1 nd x.natAbs (List.replicate 24 (.int .u8 0))=cs at hput' hlen
 have hM:(K.set b (.cells cs 160))[b]?=some (.cells cs 160):=List.getElem?_set_self hbl
 have hpM:Pre H (K.set b (.cells cs 160)):=hp.set hbH
 dsimp only
 generalize K.set b (.cells cs 160)=M at hM hpM ⊢
 obtain ⟨m1,m2⟩:=cellFx hM
 rw [hlen] at m2
 by_cases hx:x < 0
 · have hf:fmtS x=45 :: digs nd x.natAbs:=by unfold fmtS;rw [if_pos hx,hfm]
   have ha:=aIndexAddr_arr (P:=prog) (H:=M) (T:=160) (n:=24) (e:=5) (b:=b) (o:=0) (m:=24) (z:=1) (k:=.i64) (i:=0) (by simp) (by simp) m2 (by omega) (by omega)
   simp at ha
   simp [hx,ha,hM,hlen]
   have hN:(M.set b (.cells (cs.set 0 (.int .u8 45)) 160))[b]?=some (.cells (cs.set 0 (.int .u8 45)) 160):=List.getElem?_set_self (List.getElem?_eq_some_iff.1 hM).1
   have hpN:Pre H (M.set b (.cells (cs.set 0 (.int .u8 45)) 160)):=hpM.set hbH
   generalize M.set b (.cells (cs.set 0 (.int .u8 45)) 160)=N at hN hpN ⊢
   obtain ⟨m3,m4⟩:=cellFx hN
   rw [List.length_set,hlen] at m4
   have d:=slice_arr (H:=N) (T:=160) (n:=24) (e:=5) (lo:=none) (hi:=some (i64 (1+(nd:Int)))) (l:=0) (h:=1+nd) (by simp) (by simp) m4 rfl (by simp [aHigh]) (by omega) (by omega)
   have c2:=convBytes (c:=24) m3 (o:=0) (n:=1+nd) (l:=fmtS x) (by rw [hf,hput'];exact take_neg (by simp [bcells,hdl])) (by rw [hf];simp [hdl];omega) (by simp [hlen];omega)
   simp [hlen] at d c2
   simp [w1,d,c2]
   exact hk N hpN
 · have hf:fmtS x=digs nd x.natAbs:=by unfold fmtS;rw [if_neg hx,hfm]
   have c2:=convBytes (c:=23) m1 (o:=1) (n:=nd) (l:=fmtS x) (by rw [hf,hput'];exact take_pos (by simp [bcells,hdl])) (by rw [hf,hdl]) (by omega)
   rw [hlen] at c2
   simp [hx,w1,a M m2,c2]
   exact hk M hpM
theorem c_formatInt0 {H:AHeap} (hg:Pw H) {x:Int} (h1:-9223372036854775808≤x) (h2:x < 9223372036854775808):ACalls prog 69 [i64 x,i64 10] H (str (fmtS x)) H:=by
 refine acalls_pure MixT func69 (by decide) rfl ?_
 rw [d69]
 by_cases hs:0≤x∧x < 100
 · obtain ⟨n,rfl⟩:∃ n:Nat,x=n:=⟨x.toNat,by omega⟩
   have hf:fmtS (n:Int)=natS n:=by unfold fmtS;rw [if_neg (by omega)];rfl
   simp [hs]
   refine bndC_of (c_small (by omega)) ?_
   rw [hf]
   exact ⟨rfl,[],by simp⟩
 · have h0:x≠0:=by omega
   have hb:(H++[AObj.cells (List.replicate 24 (.int .u8 0)) 160])[H.length]?=some (.cells (List.replicate 24 (.int .u8 0)) 160):=by simp
   by_cases hx:x < 0
   · have hx0:¬ 0≤x:=by omega
     have hw:=wrapN h1 hx
     simp [hx,hx0] at hw ⊢
     simp only [hw]
     exact fi_tail (H:=H) (b:=H.length) (x:=x) (k:=fun u H2=>u=str (fmtS x)∧∃ X,H2=H++X) (hg.more _) hb (Nat.le_refl _) (.app _ _) h0 h1 h2 (fun K p=>⟨rfl,p⟩) _ _ _ _ _ _ _ _ _ _ _ _ _ _ _ _ _ _ _ _ _ _ _ _ _ _ _ _ _ _ _ _ _ _ _ _ _ _ _ _ _ _ _ _ _ _ _ _ _ _ _
   · have hx0:0≤x:=by omega
     have hx1:¬ x < 100:=by omega
     have hw:IntKind.u64.wrap x=x.natAbs:=by rw [wrapU hx0 (by omega)];omega
     simp [hx,hx0,hx1,hw]
     exact fi_tail (H:=H) (b:=H.length) (x:=x) (k:=fun u H2=>u=str (fmtS x)∧∃ X,H2=H++X) (hg.more _) hb (Nat.le_refl _) (.app _ _) h0 h1 h2 (fun K p=>⟨rfl,p⟩) _ _ _ _ _ _ _ _ _ _ _ _ _ _ _ _ _ _ _ _ _ _ _ _ _ _ _ _ _ _ _ _ _ _ _ _ _ _ _ _ _ _ _ _ _ _ _ _ _ _ _
theorem c_formatInt {H:AHeap} (hg:Pw H) {x:Int} (h1:-9223372036854775808≤x) (h2:x < 9223372036854775808):ACalls prog 108 [i64 x,i64 10] H (str (fmtS x)) H:=by
 refine acalls_pure MixT func108 (by decide) rfl ?_
 rw [d108]
 exact bndC_of (c_formatInt0 hg h1 h2) ⟨rfl,[],by simp⟩
end Go.Vi
namespace Go.Vi
open Go Go.Proofs Go.Proofs.Tryz
theorem c_itoa0 {H:AHeap} (hg:Pw H) {x:Int} (h1:-9223372036854775808≤x) (h2:x < 9223372036854775808):ACalls prog 40 [i64 x] H (str (fmtS x)) H:=by
 refine acalls_pure MixT func40 (by decide) rfl ?_
 rw [d40]
 exact bndC_of (c_formatInt0 hg h1 h2) ⟨rfl,[],by simp⟩
theorem c_itoa {H:AHeap} (hg:Pw H) {x:Int} (h1:-9223372036854775808≤x) (h2:x < 9223372036854775808):ACalls prog 23 [i64 x] H (str (fmtS x)) H:=by
 refine acalls_pure MixT func23 (by decide) rfl ?_
 rw [d23]
 exact bndC_of (c_itoa0 hg h1 h2) ⟨rfl,[],by simp⟩
def trimR (b:UInt8):List UInt8→List UInt8
 | []=>[]
 | x :: r => match trimR b r with
   | []=>if x=b then [] else [x]
   | y :: s=>x :: y :: s
theorem trimR_snoc (b x:UInt8):∀ l,trimR b (l++[x])=if x=b then trimR b l else l++[x]:=by
 intro l
 induction l with
 | nil=>simp [trimR]
 | cons y r ih =>
   rw [List.cons_append,trimR,ih]
   by_cases h:x=b
   · simp [h,trimR]
   · simp only [h,if_false]
     cases hr:r++[x] with
     | nil=>simp at hr
     | cons z s=>simp
theorem trim_loop {H:AHeap} {b:UInt8} {k:Value→AHeap→Prop} (w:List UInt8) (hk:k (str w) H):∀ (n:Nat) (l:List UInt8) (y z A B C D E F c d f g j m o p q s t u v:Value),l.length=n→l.length < 2 ^ 62→trimR b l=w →
  L128x0 (n+1) k [str l,byt b,y,z,A,B,C,D,E,F,c,d,f,g,j,m,o,p,q,s,t,u,v] H:=by
 intro n
 induction n with
 | zero =>
   intro l y z A B C D E F c d f g j m o p q s t u v hn hl hw
   have:l=[]:=List.length_eq_zero_iff.1 hn
   subst this
   rw [L128x0q]
   simp
   rw [← hw] at hk
   exact hk
 | succ n ih =>
   intro l y z A B C D E F c d f g j m o p q s t u v hn hl hw
   obtain ⟨r,x,rfl⟩:∃ r x,l=r++[x]:=by
    rcases List.eq_nil_or_concat l with rfl | ⟨r,x,h⟩
    · simp at hn
    · exact ⟨r,x,by simpa using h⟩
   have hr:r.length=n:=by simpa using hn
   have hix:=aIndex_at (P:=prog) (T:=9) (k:=.i64) (l:=r++[x]) (i:=r.length) (b:=x) (by simp) (by simp)
   have hs:=aSliceOp_str (P:=prog) (H:=H) (T:=9) (l:=r++[x]) (lo:=none) (hi:=some (i64 r.length)) (a:=0) (b:=r.length) (by simp) rfl rfl (by omega) (by omega) (by simp;omega)
   simp at hs
   have hw0:IntKind.i64.wrap (r.length:Int)=r.length:=wrap_i64 (by omega) (by simp at hl;omega)
   rw [trimR_snoc] at hw
   rw [L128x0q]
   by_cases hx:x=b
   · rw [if_pos hx] at hw
     subst hx
     simp [hix,hs,hw0]
     exact ih r _ _ _ _ _ _ _ _ _ _ _ _ _ _ _ _ _ _ _ _ _ hr (by simp at hl;omega) hw
   · rw [if_neg hx] at hw
     have hx':((x.toNat:Int) == (b.toNat:Int))=false:=by
      rw [beq_eq_false_iff_ne]
      exact fun e=>hx (UInt8.toNat_inj.1 (by omega))
     simp [hix,hx',hw0]
     rw [← hw] at hk
     exact hk
theorem c_trimByte {H:AHeap} {b:UInt8} {l:List UInt8} (hl:l.length < 2 ^ 62):ACalls prog 128 [str l,byt b] H (str (trimR b l)) H:=by
 refine acalls_pure MixT func128 (by decide) rfl ?_
 rw [d128]
 exact ⟨l.length+1,trim_loop (trimR b l) ⟨rfl,[],by simp⟩ l.length l _ _ _ _ _ _ _ _ _ _ _ _ _ _ _ _ _ _ _ _ _ rfl hl rfl⟩
theorem c_trimRight {H:AHeap} {l:List UInt8} (hl:l.length < 2 ^ 62):ACalls prog 109 [str l,str [48]] H (str (trimR 48 l)) H:=by
 refine acalls_pure MixT func109 (by decide) rfl ?_
 rw [d109]
 have hix:=aIndex_at (P:=prog) (T:=9) (k:=.i64) (l:=[48]) (i:=0) (b:=48) (by simp) rfl
 simp at hix
 by_cases h0:l=[]
 · subst h0
   simp
   rfl
 · have h0':¬ (⟨l.toArray⟩:ByteArray)=⟨#[]⟩:=fun e=>h0 (by simpa using e)
   simp [h0',hix]
   refine bndC_of (c_trimByte hl) ⟨rfl,[],by simp⟩
def fixS (x:Int):List UInt8 :=
 (if sat x < 0 then [45] else [])++fmtS (((sat x).natAbs / 1000:Nat):Int)++if (sat x).natAbs % 1000=0 then [] else 46 :: trimR 48 ((fmtS ((1000+(sat x).natAbs % 1000:Nat):Int)).drop 1)
theorem natS_len {n:Nat} (h:n < 2 ^ 64):(natS n).length≤20:=by
 unfold natS
 split
 · simp
 · rw [digs_len];exact (ndig_ok (by omega) h).2.1
theorem fmtS_nat (n:Nat):fmtS (n:Int)=natS n:=by
 unfold fmtS;rw [if_neg (by omega)];rfl
theorem trimR_len (b:UInt8):∀ l:List UInt8,(trimR b l).length≤l.length:=by
 intro l
 induction l with
 | nil=>exact Nat.le_refl _
 | cons x r ih =>
   rw [trimR]
   split
   · split<;>simp
   · rename_i h;rw [h] at ih;simpa using ih
theorem fix_tail {H:AHeap} (hg:Pw H) {n:Nat} {sg:List UInt8} {k:Value→AHeap→Prop} (hn:n < 2 ^ 63) (hs:sg.length≤1)
  (hk:k (str (sg++fmtS ((n / 1000:Nat):Int)++if n % 1000=0 then [] else 46 :: trimR 48 ((fmtS ((1000+n % 1000:Nat):Int)).drop 1))) H) (E F G I J K L M d f g h i j o p q r s t u v w z A B C D:Value) :
  S72x0 k [i64 n,E,F,str sg,G,I,J,K,L,M,d,f,g,h,i,j,o,p,q,r,s,t,u,v,w,z,A,B,C,D] H:=by
 simp only [fmtS_nat] at hk
 have l1:=natS_len (n:=n / 1000) (by omega)
 have l2:=natS_len (n:=1000+n % 1000) (by omega)
 have l3:=trimR_len 48 ((natS (1000+n % 1000)).drop 1)
 simp only [List.length_drop] at l3
 have q1:=fun X Y=>quoL (P:=prog) (H:=H) (T:=2) (x:=X) (y:=Y) (k:=.i64) (a:=n) (c:=1000) (n:=1000) rfl (by omega) (wrap_i64 (by omega) (by omega))
 have q2:=fun X Y=>remL (P:=prog) (H:=H) (T:=2) (x:=X) (y:=Y) (k:=.i64) (a:=n) (c:=1000) (n:=1000) rfl (by omega)
 rw [S72x0q]
 simp only [q1,bnd_some]
 refine bndC_of (c_formatInt hg (by omega) (by omega)) ?_
 rw [fmtS_nat]
 have c1:=fun X Y=>aBin_str (P:=prog) (H:=H) (T:=9) (x:=X) (y:=Y) (a:=sg) (b:=natS (n / 1000)) (by omega)
 simp only [c1,bnd_some,q2]
 by_cases h0:n % 1000=0
 · simp [h0,S72x1q]
   simpa [h0] using hk
 · have hp:(0:Int) < ((n % 1000:Nat):Int):=by omega
   have hw:IntKind.i64.wrap (1000+((n % 1000:Nat):Int))=((1000+n % 1000:Nat):Int):=by rw [wrap_i64 (by omega) (by omega)];omega
   rw [if_neg h0] at hk
   have hm:n % 1000 < 1000:=Nat.mod_lt _ (by omega)
   clear q1 q2 c1
   generalize n % 1000=m at hk h0 hp hw l2 l3 hm ⊢
   have hs2:=aSliceOp_str (P:=prog) (H:=H) (T:=9) (l:=natS (1000+m)) (lo:=some (i64 1)) (hi:=none) (a:=1) (b:=(natS (1000+m)).length) (by simp) rfl rfl (by omega) (by
    have:natS (1000+m)≠[]:=by
     unfold natS;rw [if_neg (by omega)]
     intro e
     have:=congrArg List.length e
     rw [digs_len] at this
     have:=(ndig_ok (n:=1000+m) (by omega) (by omega)).1
     simp at *;omega
    have:=List.length_pos_iff.2 this
    omega) (by omega)
   have e1:(List.take (((natS (1000+m)).length:Int).toNat) (natS (1000+m))).drop ((1:Int).toNat)=(natS (1000+m)).drop 1:=by simp
   rw [e1] at hs2
   have hp':((m:Int) > 0):=hp
   simp only [aBin_gtr,bnd_some,hp',decide_true,kifB_true,aBin_add,hw]
   refine bndC_of (c_formatInt hg (by omega) (by omega)) ?_
   rw [fmtS_nat]
   simp only [hs2,bnd_some]
   refine bndC_of (c_trimRight (by simp;omega)) ?_
   generalize trimR 48 ((natS (1000+m)).drop 1)=T at l3 hk ⊢
   have c2:∀ X Y,aBin2 prog H .add 9 X Y (.string ⟨#[46]⟩) (str T)=some (str (46 :: T)):=fun X Y=>aBin_str (a:=[46]) (b:=T) (by simp only [List.length_cons,List.length_nil];omega)
   have c3:=fun X Y=>aBin_str (P:=prog) (H:=H) (T:=9) (x:=X) (y:=Y) (a:=sg++natS (n / 1000)) (b:=46 :: T) (by simp only [List.length_cons,List.length_append];omega)
   simp only [c2,c3,bnd_some,S72x1q]
   exact hk
theorem c_fixPrint {H:AHeap} (hg:Pw H) {x:Int}:ACalls prog 72 [i64 x] H (str (fixS x)) H:=by
 refine acalls_pure MixT func72 (by decide) rfl ?_
 rw [d72]
 refine bndC_of (c_sat H x) ?_
 have hb:-4611686018427387903≤sat x∧sat x≤4611686018427387903:=by unfold sat maxFix;omega
 by_cases h:sat x < 0
 · have hw:IntKind.i64.wrap (0-sat x)=((sat x).natAbs:Int):=by rw [wrap_i64 (by omega) (by omega)];omega
   simp [h] at hw ⊢
   rw [hw]
   refine fix_tail hg (sg:=[45]) (by omega) (by simp) ?_ _ _ _ _ _ _ _ _ _ _ _ _ _ _ _ _ _ _ _ _ _ _ _ _ _ _ _ _
   exact ⟨by unfold fixS;rw [if_pos h],[],by simp⟩
 · have hw:sat x=((sat x).natAbs:Int):=by omega
   have hf:fixS x=[]++fmtS (((sat x).natAbs / 1000:Nat):Int)++if (sat x).natAbs % 1000=0 then [] else 46 :: trimR 48 ((fmtS ((1000+(sat x).natAbs % 1000:Nat):Int)).drop 1):=by unfold fixS;rw [if_neg h]
   simp [h]
   rw [hf]
   generalize (sat x).natAbs=m at hw hf ⊢
   rw [hw]
   refine fix_tail hg (sg:=[]) (by omega) (by simp) ?_ _ _ _ _ _ _ _ _ _ _ _ _ _ _ _ _ _ _ _ _ _ _ _ _ _ _ _ _
   exact ⟨rfl,[],by simp⟩
end Go.Vi
namespace Go.Vi
open Go Go.Proofs Go.Proofs.Tryz
theorem c_mnz {H:AHeap} {n:Nat} (h0:0 < n) (h1:n≤2 ^ 47):ACalls prog 97 [i64 n] H (.slice (some ⟨H.length,0,some n⟩) n n) (H++[.cells (List.replicate n unkV) 5]) :=
 acalls_makeNoZero (n:=(n:Int)) (t:=69) (by omega) (by omega) (by simp) func97 (by kernel_rfl) (by decide) (by kernel_rfl) ⟨#[3],by kernel_rfl⟩
theorem c_grow1 {K:AHeap} {pb n:Nat} (h:K[pb]?=some (.cells [selfP pb,.slice none 0 0] 94)) (h0:0 < n) (h1:n≤2 ^ 46) :
  ∃ K',ACalls prog 68 [selfP pb,i64 n] K (.tuple #[]) K'∧Bld true K' pb []∧Keeps pb K K':=by
 obtain ⟨v,K',⟨rfl,q1,q2⟩,q3⟩:∃ v K',(v=.tuple #[]∧Bld true K' pb []∧Keeps pb K K')∧ACalls prog 68 [selfP pb,i64 n] K v K':=by
  refine acalls_ex MixT func68 (by decide) ?_
  rw [d68]
  obtain ⟨c1,c2⟩:=cellFx h
  simp [nilV,aIsPtr,c1,c2]
  refine bndD_same (v:=i64 0) (by simp [aBuiltin]) ?_
  have w0:IntKind.i64.wrap (n:Int)=n:=wrap_i64 (by omega) (by omega)
  simp [w0]
  refine bndD_of (c_mnz h0 (by omega)) (.inr ⟨_,rfl⟩) ?_
  have c3:hcells (K++[.cells (List.replicate n unkV) 5]) pb=some [selfP pb,.slice none 0 0]:=hcells_more c1
  have c4:hlen (K++[.cells (List.replicate n unkV) 5]) pb=some 2:=by rw [hcells_len c3];rfl
  have e1:(K++[.cells (List.replicate n unkV) 5])[K.length]?=some (.cells (List.replicate n unkV) 5):=by simp
  have e2:=get_more (X:=[.cells (List.replicate n unkV) 5]) h
  have hlt:pb < K.length:=(List.getElem?_eq_some_iff.1 h).1
  obtain ⟨d1,d2⟩:=cellFx e1
  rw [List.length_replicate] at d2
  have hs:aSliceOp prog (K++[.cells (List.replicate n unkV) 5]) 69 (.slice (some ⟨K.length,0,some n⟩) n n) none (some (i64 0))=some (.slice (some ⟨K.length,0,some n⟩) 0 n):=by
   simp [aSliceOp,aLow,aHigh,d2]
  simp [nilV,aIsPtr,c1,c2,c3,c4,hs]
  have hcp:aBuiltin prog (K++[.cells (List.replicate n unkV) 5]) .copy #[69,69] [.slice (some ⟨K.length,0,some n⟩) 0 n,.slice none 0 0]=some (i64 0,K++[.cells (List.replicate n unkV) 5]):=by
   simp [aBuiltin,aCopy,aSrc]
  rw [hcp]
  simp [nilV,aIsPtr,c4,e2]
  refine ⟨⟨selfP pb,.slice (some ⟨K.length,0,some n⟩) 0 n,by rw [List.getElem?_set_self (by simp;omega)],.inr rfl,.mk K.length 0 n (List.replicate n unkV) [] hlt ?_ (by simp) rfl (by omega) rfl (by simp) h0⟩,?_⟩
  · rw [List.getElem?_set_ne (by omega)];exact e1
  · exact Keeps.app.trans (.set (Nat.le_refl _))
 exact ⟨K',q3,q1,q2⟩
theorem c_grow {K:AHeap} {pb n:Nat} (h:K[pb]?=some (.cells [.pointer none,.slice none 0 0] 94)) (h1:n≤2 ^ 46) :
  ∃ K',ACalls prog 37 [selfP pb,i64 n] K (.tuple #[]) K'∧Bld (decide (0 < n)) K' pb []∧Keeps pb K K':=by
 obtain ⟨v,K',⟨rfl,q1,q2⟩,q3⟩:∃ v K',(v=.tuple #[]∧Bld (decide (0 < n)) K' pb []∧Keeps pb K K')∧ACalls prog 37 [selfP pb,i64 n] K v K':=by
  refine acalls_ex MixT func37 (by decide) ?_
  rw [d37]
  refine bndC_of (c_copyCheck h (.inl rfl) rfl) ?_
  have hlt:pb < K.length:=(List.getElem?_eq_some_iff.1 h).1
  have hM:(K.set pb (.cells [selfP pb,.slice none 0 0] 94))[pb]?=some (.cells [selfP pb,.slice none 0 0] 94):=List.getElem?_set_self hlt
  have hk1:Keeps pb K (K.set pb (.cells [selfP pb,.slice none 0 0] 94)):=.set (Nat.le_refl _)
  generalize K.set pb (.cells [selfP pb,.slice none 0 0] 94)=M at hM hk1 ⊢
  obtain ⟨c1,c2⟩:=cellFx hM
  have hn0:¬ (n:Int) < 0:=by omega
  simp [hn0,S37x0q,nilV,aIsPtr,c1,c2]
  refine bndD_same (v:=i64 0) (by simp [aBuiltin]) ?_
  simp [nilV,aIsPtr,c1,c2]
  by_cases h0:0 < n
  · simp [h0]
    obtain ⟨K',g1,g2,g3⟩:=c_grow1 hM h0 h1
    refine bndC_of g1 ⟨rfl,by simpa [h0] using g2,hk1.trans g3⟩
  · simp [h0]
    exact ⟨⟨selfP pb,.slice none 0 0,hM,.inr rfl,.nil⟩,hk1⟩
 exact ⟨K',q3,q1,q2⟩
inductive Parts (K:AHeap):Value→List (List UInt8)→Prop
 | nil:Parts K (.slice none 0 0) []
 | mk (b:Nat) (l:List (List UInt8)) (hb:hcells K b=some (l.map str)):Parts K (.slice (some ⟨b,0,some l.length⟩) l.length l.length) l
theorem Parts.pre {H K v l} (h:Parts H v l) (p:Pre H K):Parts K v l:=by
 cases h with
 | nil=>exact .nil
 | mk b l hb=>exact .mk b l (p.hcells hb)
theorem Parts.len {H v l} (h:Parts H v l) (K:AHeap):aLen prog K 38 v=some (i64 l.length):=by
 cases h<;>simp
theorem Parts.load {H v l} (h:Parts H v l) {i:Nat} {s:List UInt8} (hi:l[i]?=some s):∃ p,aIndexAddr prog H 38 v (i64 i)=some p∧aLoad prog H 9 p=some (str s):=by
 have ha:Arr H 1 v (strCells l):=by
  cases h with
  | nil=>exact .nil
  | mk b l hb =>
    refine .mk b 0 _ _ _ (l.map str) _ (by simp [strCells]) hb (by simp) (by omega) fun i e hi=>?_
    simp only [strCells,List.getElem?_map,Option.map_eq_some_iff] at hi
    obtain ⟨s,h1,rfl⟩:=hi
    rw [Nat.zero_add,Nat.mul_one,← List.map_drop,List.drop_eq_getElem_cons (List.getElem?_eq_some_iff.1 h1).1,List.map_cons,List.take_succ_cons,List.take_zero,(List.getElem?_eq_some_iff.1 h1).2]
 exact ha.load1 (by simp) (by simp) (by simp) (by simp [strCells,hi])
theorem Parts.tail {H v a l} (h:Parts H v (a :: l)) (hl:0 < l.length):∃ t,aSliceOp prog H 38 v (some (i64 1)) none=some t∧(∀ K,aLen prog K 38 t=some (i64 l.length)) ∧
  ∀ K,Pre H K→∀ (i:Nat) s,l[i]?=some s→∃ p,aIndexAddr prog K 38 t (i64 i)=some p∧aLoad prog K 9 p=some (str s):=by
 cases h with
 | mk b _ hb =>
   have hhl:hlen H b=some (l.length+1):=by rw [hcells_len hb];simp
   refine ⟨.slice (some ⟨b,1,some (l.length+1)⟩) l.length l.length,?_,fun K=>by simp,fun K p i s hi=>?_⟩
   · simp [aSliceOp,aLow,aHigh,hhl]
     omega
   · have ha:Arr K 1 (.slice (some ⟨b,1,some (l.length+1)⟩) l.length l.length) (strCells l):=by
      refine .mk b 1 _ _ _ ((a :: l).map str) _ (by simp [strCells]) (p.hcells hb) (by simp) (by omega) fun i e hi=>?_
      simp only [strCells,List.getElem?_map,Option.map_eq_some_iff] at hi
      obtain ⟨s,h1,rfl⟩:=hi
      rw [Nat.mul_one,Nat.add_comm,List.map_cons,List.drop_succ_cons,← List.map_drop,List.drop_eq_getElem_cons (List.getElem?_eq_some_iff.1 h1).1,List.map_cons,List.take_succ_cons,List.take_zero,(List.getElem?_eq_some_iff.1 h1).2]
     exact ha.load1 (by simp) (by simp) (by simp) (by simp [strCells,hi])
def joinS (sep:List UInt8):List (List UInt8)→List UInt8
 | []=>[]
 | a :: r=>a++(r.map (sep++·)).flatten
theorem join_w {H:AHeap} {t:Value} {sep:List UInt8} {l:List (List UInt8)} {pb:Nat} {k:Value→AHeap→Prop} (hpb:H.length≤pb) (_hlen:∀ K,aLen prog K 38 t=some (i64 l.length)) (hll:l.length < 2 ^ 62)
  (hat:∀ K,Pre H K→∀ (i:Nat) s,l[i]?=some s→∃ p,aIndexAddr prog K 38 t (i64 i)=some p∧aLoad prog K 9 p=some (str s)) (w:List UInt8) (hw46:w.length≤2 ^ 46) (hne:w≠[]) (hk:∀ K,Pre H K→k (str w) K) :
  ∀ (r : List (List UInt8)) (i : Nat) (acc : List UInt8) (g : Bool) (K : AHeap) (s0 s2 s3 s4 s5 s6 s7 s9 a b c d e f j m n o q u x y z A B C D E F G I J L M N O P Q R S T U V W X Y Z aa ab ac ad ae af ag ah ai aj ak al am an ao ap aq ar au av aw ax ay : Value), l.drop i = r → i ≤ l.length → Pre H K → Bld g K pb acc → (g = true → acc = []) → w = acc ++ (r.map (sep ++ ·)).flatten →
    L22x1 (r.length+1) k [s0,str sep,s2,s3,s4,s5,s6,s7,selfP pb,s9,a,b,c,d,e,f,j,m,n,o,q,u,x,y,z,A,B,C,D,E,F,G,I,J,L,M,N,O,P,Q,R,S,T,U,V,W,X,Y,Z,aa,ab,ac,ad,ae,af,ag,ah,ai,aj,ak,al,am,an,t,i64 l.length,i64 i,ao,ap,aq,ar,au,av,aw,ax,ay] K:=by
 intro r
 induction r with
 | nil =>
   intro i acc g K s0 s2 s3 s4 s5 s6 s7 s9 a b c d e f j m n o q u x y z A B C D E F G I J L M N O P Q R S T U V W X Y Z aa ab ac ad ae af ag ah ai aj ak al am an ao ap aq ar au av aw ax ay hd hi hp hb hg hw
   have hle:l.length≤i:=by simpa using hd
   simp at hw
   subst hw
   have hgf:g=false:=by
    cases g with
    | false=>rfl
    | true=>exact absurd (hg rfl) hne
   subst hgf
   rw [List.length_nil,L22x1q]
   have:¬ i < l.length:=by omega
   simp [this]
   obtain ⟨v,K',⟨rfl,h1⟩,h2⟩:=c_bstring hb (by omega)
   exact bndC_of h2 (hk _ (h1 H hp hpb))
 | cons s r ih =>
   intro i acc g K s0 s2 s3 s4 s5 s6 s7 s9 a b c d e f j m n o q u x y z A B C D E F G I J L M N O P Q R S T U V W X Y Z aa ab ac ad ae af ag ah ai aj ak al am an ao ap aq ar au av aw ax ay hd hi hp hb hg hw
   have hbi:l[i]?=some s:=by rw [← List.head?_drop,hd];rfl
   have hlt:i < l.length:=(List.getElem?_eq_some_iff.1 hbi).1
   have hwl:=congrArg List.length hw
   simp at hwl
   rw [List.length_cons,L22x1q]
   obtain ⟨p,e1,e2⟩:=hat K hp i s hbi
   simp [hlt,e1,e2]
   obtain ⟨v1,K1,⟨rfl,h1,h2⟩,h3⟩:=c_writeString (ys:=sep) hb (by omega)
   refine bndC_of h3 ?_
   have hp1:=h2 H hp hpb
   obtain ⟨v2,K2,⟨rfl,h4,h5⟩,h6⟩:=c_writeString (ys:=s) h1 (by simp;omega)
   refine bndC_of h6 ?_
   have hp2:=h5 H hp1 hpb
   simp [show i+1 < 2 ^ 63 by omega]
   refine ih (i+1) (acc++sep++s) _ K2 _ _ _ _ _ _ _ _ _ _ _ _ _ _ _ _ _ _ _ _ _ _ _ _ _ _ _ _ _ _ _ _ _ _ _ _ _ _ _ _ _ _ _ _ _ _ _ _ _ _ _ _ _ _ _ _ _ _ _ _ _ _ _ _ _ _ _ _ _ _ (by rw [← List.drop_drop,hd];rfl) hlt hp2 h4 (fun h=>?_) (by rw [hw];simp)
   simp at h
   rw [hg h.1.1,h.1.2,h.2];rfl
def sumL:List (List UInt8)→Nat
 | []=>0
 | a :: r=>a.length+sumL r
theorem join_len (sep a:List UInt8):∀ r:List (List UInt8),(joinS sep (a :: r)).length=sep.length*r.length+sumL (a :: r):=by
 intro r
 have h:∀ r:List (List UInt8),((r.map (sep++·)).flatten).length=sep.length*r.length+sumL r:=by
  intro r
  induction r with
  | nil=>simp [sumL]
  | cons x r ih=>rw [List.map_cons,List.flatten_cons,List.length_append,ih,List.length_append,sumL,List.length_cons,Nat.mul_add,Nat.mul_one];omega
 rw [joinS,List.length_append,h,sumL]
 omega
theorem join_n {H:AHeap} {v:Value} {sep:List UInt8} {a:List UInt8} {l:List (List UInt8)} {k:Value→AHeap→Prop} (hv:Parts H v (a :: l)) (hl:0 < l.length) (hj:(joinS sep (a :: l)).length≤2 ^ 46) (hne:joinS sep (a :: l)≠[]) (hll:l.length < 2 ^ 61)
  (hk:∀ K,Pre H K→k (str (joinS sep (a :: l))) K) :
  ∀ (r : List (List UInt8)) (i n : Nat) (s2 s3 s4 s6 s7 s8 s9 b c d e f g j m o q u w x y z A B C D E F G I J L M N O P Q R S T U V W Y Z aa ab ac ad ae af ag ah ai aj ak al am an ao ap aq ar au av aw ax ay az : Value), (a :: l).drop i = r → i ≤ l.length + 1 → n + sumL r = (joinS sep (a :: l)).length →
    L22x0 (r.length+1) k [v,str sep,s2,s3,s4,i64 n,s6,s7,s8,s9,b,c,d,e,f,g,j,m,o,q,u,w,x,y,z,A,B,C,D,E,F,G,I,J,L,M,N,O,P,v,i64 ((l.length+1:Nat):Int),i64 i,Q,R,S,T,U,V,W,Y,Z,aa,ab,ac,ad,ae,af,ag,ah,ai,aj,ak,al,am,an,ao,ap,aq,ar,au,av,aw,ax,ay,az] H:=by
 intro r
 induction r with
 | nil =>
   intro i n s2 s3 s4 s6 s7 s8 s9 b c d e f g j m o q u w x y z A B C D E F G I J L M N O P Q R S T U V W Y Z aa ab ac ad ae af ag ah ai aj ak al am an ao ap aq ar au av aw ax ay az hd hi hn
   have hle:l.length+1≤i:=by have:=congrArg List.length hd;simp at this;omega
   simp only [sumL,Nat.add_zero] at hn
   subst hn
   rw [List.length_nil,L22x0q]
   have:¬ (i:Int) < ((l.length+1:Nat):Int):=by omega
   simp only [aBin_lss,bnd_some,this,decide_false,kifB_false]
   simp
   obtain ⟨K1,g1,g2,g3⟩:=c_grow (K:=H++[.cells [.pointer none,.slice none 0 0] 94]) (pb:=H.length) (by simp) hj
   have hp1:Pre H K1:=g3 H (.app _ _) (Nat.le_refl _)
   refine bndC_of g1 ?_
   obtain ⟨p,e1,e2⟩:=(hv.pre hp1).load (i:=0) (s:=a) rfl
   simp at e1
   simp [e1,e2]
   obtain ⟨v2,K2,⟨rfl,h1,h2⟩,h3⟩:=c_writeString (ys:=a) g2 (by simp;have:=join_len sep a l;simp only [sumL] at this;omega)
   refine bndC_of h3 ?_
   have hp2:=h2 H hp1 (Nat.le_refl _)
   obtain ⟨t,t0,t2,t3⟩:=hv.tail hl
   have t1:aSliceOp prog K2 38 v (some (i64 1)) none=some t:=by
    obtain ⟨X,rfl⟩:=hp2
    exact aSliceOp_more t0
   simp [t1,t2]
   exact ⟨l.length+1,join_w (H:=H) (l:=l) (sep:=sep) (pb:=H.length) (Nat.le_refl _) t2 (by omega) t3 (joinS sep (a :: l)) hj hne hk l 0 a _ K2 _ _ _ _ _ _ _ _ _ _ _ _ _ _ _ _ _ _ _ _ _ _ _ _ _ _ _ _ _ _ _ _ _ _ _ _ _ _ _ _ _ _ _ _ _ _ _ _ _ _ _ _ _ _ _ _ _ _ _ _ _ _ _ _ _ _ _ _ _ _ rfl (by omega) hp2 (by simpa using h1) (fun h=>by simp at h;exact h.2) rfl⟩
 | cons s r ih =>
   intro i n s2 s3 s4 s6 s7 s8 s9 b c d e f g j m o q u w x y z A B C D E F G I J L M N O P Q R S T U V W Y Z aa ab ac ad ae af ag ah ai aj ak al am an ao ap aq ar au av aw ax ay az hd hi hn
   have hbi:(a :: l)[i]?=some s:=by rw [← List.head?_drop,hd];rfl
   have hlt:i < l.length+1:=by simpa using (List.getElem?_eq_some_iff.1 hbi).1
   obtain ⟨p,e1,e2⟩:=hv.load hbi
   rw [sumL] at hn
   have w1:IntKind.i64.wrap (9223372036854775807-(n:Int))=9223372036854775807-(n:Int):=wrap_i64 (by omega) (by omega)
   have w2:¬ (9223372036854775807-(n:Int) < s.length):=by omega
   have w3:IntKind.i64.wrap ((n:Int)+s.length)=((n+s.length:Nat):Int):=by rw [wrap_i64 (by omega) (by omega)];omega
   have hltI:(i:Int) < ((l.length+1:Nat):Int):=by omega
   rw [List.length_cons,L22x0q]
   simp only [aBin_lss,bnd_some,hltI,decide_true,kifB_true]
   simp [e1,e2,w1,w2,S22x2q,w3,show i+1 < 2 ^ 63 by omega]
   exact ih (i+1) (n+s.length) _ _ _ _ _ _ _ _ _ _ _ _ _ _ _ _ _ _ _ _ _ _ _ _ _ _ _ _ _ _ _ _ _ _ _ _ _ _ _ _ _ _ _ _ _ _ _ _ _ _ _ _ _ _ _ _ _ _ _ _ _ _ _ _ _ _ _ _ _ (by rw [← List.drop_drop,hd];rfl) hlt (by omega)
theorem c_join {H:AHeap} {v:Value} {sep:List UInt8} {l:List (List UInt8)} (hv:Parts H v l) (hj:(joinS sep l).length≤2 ^ 46) (hll:l.length < 2 ^ 40) (hsl:sep.length < 2 ^ 20) (hne:2≤l.length→joinS sep l≠[]) :
  ACalls prog 22 [v,str sep] H (str (joinS sep l)) H:=by
 refine acalls_pure MixT func22 (by decide) rfl ?_
 rw [d22]
 have hlen:=fun K=>hv.len K
 match l,hv with
 | [],hv=>simp [hlen];rfl
 | [a], hv =>
   obtain ⟨p,e1,e2⟩:=hv.load (i:=0) (s:=a) rfl
   simp at e1
   simp [hlen,e1,e2,joinS]
 | a :: b :: r, hv =>
   have hl2:(a :: b :: r).length=r.length+2:=rfl
   rw [hl2] at hll
   simp only [hl2] at hlen
   have w0:IntKind.i64.wrap (((r.length+2:Nat):Int)-1)=((r.length+1:Nat):Int):=by rw [wrap_i64 (by omega) (by omega)];omega
   have f0:((r.length:Int)+2 == 0)=false:=by rw [beq_eq_false_iff_ne];omega
   have f1:((r.length:Int)+2 == 1)=false:=by rw [beq_eq_false_iff_ne];omega
   have hjl:=join_len sep a (b :: r)
   have go:=fun (n:Nat) (hn:n+sumL (a :: b :: r)=(joinS sep (a :: b :: r)).length) (s2 s3 s4 s6 s7 s8 s9 d f g h j m o q t w z A B C E F G I J L M O Q R S U V W Z aa ab ac ad ae af ag ah ai aj ak al am an ao ap aq ar au av aw ax ay az aA aB aC aD aE aF aG aH aI:Value)=>join_n (H:=H) (v:=v) (sep:=sep) (k:=fun u H2=>u=str (joinS sep (a :: b :: r))∧∃ X,H2=H++X) hv (by simp) hj (hne (by simp)) (by simp;omega) (fun K p=>⟨rfl,p⟩) (a :: b :: r) 0 n s2 s3 s4 s6 s7 s8 s9 d f g h j m o q t w z A B C E F G I J L M O Q R S U V W Z aa ab ac ad ae af ag ah ai aj ak al am an ao ap aq ar au av aw ax ay az aA aB aC aD aE aF aG aH aI rfl (by omega) hn
   simp at w0
   simp [hlen,f0,f1]
   by_cases hs0:sep.length=0
   · simp [hs0,S22x1q,hlen]
     refine ⟨r.length+2+1,?_⟩
     exact go 0 (by rw [hjl,hs0];simp) _ _ _ _ _ _ _ _ _ _ _ _ _ _ _ _ _ _ _ _ _ _ _ _ _ _ _ _ _ _ _ _ _ _ _ _ _ _ _ _ _ _ _ _ _ _ _ _ _ _ _ _ _ _ _ _ _ _ _ _ _ _ _ _ _ _ _ _ _
   · have hs0':0 < sep.length:=by omega
     have hq:=fun X Y=>quoL (P:=prog) (H:=H) (T:=3) (x:=X) (y:=Y) (k:=.i64) (a:=9223372036854775807) (c:=(r.length:Int)+1) (n:=r.length+1) (by simp) (by omega) (by
      have:9223372036854775807 / (r.length+1)≤9223372036854775807:=Nat.div_le_self _ _
      generalize 9223372036854775807 / (r.length+1)=X at this ⊢
      exact wrap_i64 (by omega) (by omega))
     have hD:sep.length+1≤9223372036854775807 / (r.length+1):=by
      rw [Nat.le_div_iff_mul_le (by omega)]
      have h1:(sep.length+1)*(r.length+1)≤2 ^ 20*2 ^ 40:=Nat.mul_le_mul (by omega) (by omega)
      omega
     generalize 9223372036854775807 / (r.length+1)=D at hq hD
     have hg:¬ ((D:Int)≤sep.length):=by omega
     have hq':∀ X Y,aBin2 prog H .quo 3 X Y (.int .i64 9223372036854775807) (.int .i64 ((r.length:Int)+1))=some (i64 (D:Int)):=fun X Y=>hq X Y
     simp [hs0',w0,hlen,hq',hg]
     have hN:(joinS sep (a :: b :: r)).length=sep.length*(r.length+1)+sumL (a :: b :: r):=hjl
     have hm:IntKind.i64.wrap ((sep.length:Int)*((r.length:Int)+1))=((sep.length*(r.length+1):Nat):Int):=by
      have e:(sep.length:Int)*((r.length:Int)+1)=((sep.length*(r.length+1):Nat):Int):=by simp
      rw [e]
      generalize sep.length*(r.length+1)=N at hN ⊢
      exact wrap_i64 (by omega) (by omega)
     have hm2:IntKind.i64.wrap ((sep.length*(r.length+1):Nat):Int)=((sep.length*(r.length+1):Nat):Int):=by
      generalize sep.length*(r.length+1)=N at hN ⊢
      exact wrap_i64 (by omega) (by omega)
     have hgo:=go (sep.length*(r.length+1)) hN.symm
     clear go hq hq' hN hjl
     generalize sep.length*(r.length+1)=N at hm hm2 hgo
     simp [S22x0q,hlen,w0,hm,hm2,S22x1q]
     exact ⟨r.length+2+1,hgo _ _ _ _ _ _ _ _ _ _ _ _ _ _ _ _ _ _ _ _ _ _ _ _ _ _ _ _ _ _ _ _ _ _ _ _ _ _ _ _ _ _ _ _ _ _ _ _ _ _ _ _ _ _ _ _ _ _ _ _ _ _ _ _ _ _ _ _ _⟩
end Go.Vi
namespace Go.Vi
open Go Go.Proofs Go.Proofs.Tryz
def escB (b:UInt8):List UInt8:=if (b=34∨b=92) then [92,b] else [b]
def quoteS (v:List UInt8):List UInt8:=34 :: (v.flatMap escB)++[34]
theorem escB_len (b:UInt8):(escB b).length≤2:=by unfold escB;split<;>simp
theorem esc_len:∀ v:List UInt8,(v.flatMap escB).length≤2*v.length:=by
 intro v
 induction v with
 | nil=>simp
 | cons b r ih=>rw [List.flatMap_cons,List.length_append,List.length_cons];have:=escB_len b;omega
theorem quote_loop {H:AHeap} {l:List UInt8} {pb:Nat} {k:Value→AHeap→Prop} (hpb:H.length≤pb) (hl:l.length < 2 ^ 40) (hk:∀ K,Pre H K→k (str (quoteS l)) K) :
  ∀ (r : List UInt8) (i : Nat) (acc : List UInt8) (K : AHeap) (A B F C D E a c d f g j m n o p q s t u v w x y z : Value), l.drop i = r → i ≤ l.length → Pre H K → Bld false K pb acc → acc.length ≤ 1 + 2 * i → 34 :: l.flatMap escB = acc ++ r.flatMap escB →
    L106x0 (r.length+1) k [str l,A,B,selfP pb,F,C,D,i64 l.length,i64 i,E,a,c,d,f,g,j,m,n,o,p,q,s,t,u,v,w,x,y,z] K:=by
 intro r
 induction r with
 | nil =>
   intro i acc K A B F C D E a c d f g j m n o p q s t u v w x y z hd hi hp hb ha hw
   have hle:l.length≤i:=by simpa using hd
   rw [List.length_nil,L106x0q]
   have:¬ i < l.length:=by omega
   simp [this]
   obtain ⟨v1,K1,⟨rfl,h1,h2⟩,h3⟩:=c_writeByte (b:=34) hb (by omega)
   refine bndC_of h3 ?_
   obtain ⟨v2,K2,⟨rfl,h4⟩,h5⟩:=c_bstring h1 (by simp;omega)
   refine bndC_of h5 ?_
   have e:quoteS l=acc++[34]:=by
    unfold quoteS
    rw [show (34 :: List.flatMap escB l)=acc by simpa using hw]
   rw [← e]
   exact hk _ (h4 H (h2 H hp hpb) hpb)
 | cons b r ih =>
   intro i acc K A B F C D E a c d f g j m n o p q s t u v w x y z hd hi hp hb ha hw
   have hbi:l[i]?=some b:=by rw [← List.head?_drop,hd];rfl
   have hlt:i < l.length:=(List.getElem?_eq_some_iff.1 hbi).1
   have hix:=aIndex_at (P:=prog) (T:=9) (k:=.i64) (by simp) hbi
   have step:∀ (acc':List UInt8) (K':AHeap) (A B C D E a c d f g j m n o p q s t u v w x y z:Value),Pre H K'→Bld false K' pb acc'→acc'.length≤2+2*i→34 :: l.flatMap escB=acc'++[b]++r.flatMap escB →
     S106x0 (r.length+1) k [str l,A,B,selfP pb,i64 i,C,D,i64 l.length,i64 i,E,a,c,d,f,g,j,m,n,o,p,q,s,t,u,v,w,x,y,z] K':=by
    intro acc' K' A B C D E a c d f g j m n o p q s t u v w x y z hp' hb' ha' hw'
    rw [S106x0q]
    simp only [hix,bnd_some]
    obtain ⟨v1,K1,⟨rfl,h1,h2⟩,h3⟩:=c_writeByte (b:=b) hb' (by omega)
    refine bndC_of h3 ?_
    simp [show i+1 < 2 ^ 63 by omega]
    exact ih (i+1) (acc'++[b]) K1 _ _ _ _ _ _ _ _ _ _ _ _ _ _ _ _ _ _ _ _ _ _ _ _ _ (by rw [← List.drop_drop,hd];rfl) hlt (h2 H hp' hpb) h1 (by simp;omega) hw'
   rw [List.flatMap_cons] at hw
   rw [List.length_cons,L106x0q]
   have e34:((b.toNat:Int) == 34)=decide (b=34):=by
    rw [Bool.eq_iff_iff];simp
    exact ⟨fun e=>UInt8.toNat_inj.1 (by simp;omega),fun e=>by subst e;rfl⟩
   have e92:((b.toNat:Int) == 92)=decide (b=92):=by
    rw [Bool.eq_iff_iff];simp
    exact ⟨fun e=>UInt8.toNat_inj.1 (by simp;omega),fun e=>by subst e;rfl⟩
   by_cases hq:b=34∨b=92
   · have he:escB b=[92,b]:=by unfold escB;rw [if_pos hq]
     rw [he] at hw
     have hq':(decide (b=34) || decide (b=92))=true:=by simpa using hq
     simp +contextual [hlt,hix,e34,e92]
     refine kifB_bool (fun _=>?_) (fun h=>?_)
     · obtain ⟨v1,K1,⟨rfl,h1,h2⟩,h3⟩:=c_writeByte (b:=92) hb (by omega)
       refine bndC_of h3 ?_
       exact step (acc++[92]) K1 _ _ _ _ _ _ _ _ _ _ _ _ _ _ _ _ _ _ _ _ _ _ _ _ (h2 H hp hpb) h1 (by simp;omega) (by rw [hw];simp)
     · simp at h
       exact absurd hq (by simp [h])
   · have he:escB b=[b]:=by unfold escB;rw [if_neg hq]
     rw [he] at hw
     simp +contextual [hlt,hix,e34,e92]
     refine kifB_bool (fun h=>?_) (fun h=>?_)
     · exact absurd (by simpa using h) hq
     · exact step acc K _ _ _ _ _ _ _ _ _ _ _ _ _ _ _ _ _ _ _ _ _ _ _ _ hp hb (by omega) (by rw [hw];simp)
theorem c_quote {H:AHeap} {l:List UInt8} (hl:l.length < 2 ^ 40):ACalls prog 106 [str l] H (str (quoteS l)) H:=by
 refine acalls_pure MixT func106 (by decide) rfl ?_
 rw [d106]
 simp
 have hb0:Bld false (H++[.cells [.pointer none,.slice none 0 0] 94]) H.length []:=⟨.pointer none,.slice none 0 0,by simp,.inl rfl,.nil⟩
 obtain ⟨v1,K1,⟨rfl,h1,h2⟩,h3⟩:=c_writeByte (b:=34) hb0 (by simp)
 refine bndC_of h3 ?_
 simp
 exact ⟨l.length+1,quote_loop (H:=H) (k:=fun u H2=>u=str (quoteS l)∧∃ X,H2=H++X) (Nat.le_refl _) hl (fun K p=>⟨rfl,p⟩) l 0 [34] K1 _ _ _ _ _ _ _ _ _ _ _ _ _ _ _ _ _ _ _ _ _ _ _ _ _ rfl (by omega) (h2 H (.app _ _) (Nat.le_refl _)) h1 (by simp) rfl⟩
theorem c_joined {H:AHeap} {v:Value} {l:List (List UInt8)} (hv:Parts H v l) (hj:(joinS [] l).length≤2 ^ 46) (hll:l.length < 2 ^ 40) (hne:2≤l.length→joinS [] l≠[]):ACalls prog 105 [v] H (str (joinS [] l)) H:=by
 refine acalls_pure MixT func105 (by decide) rfl ?_
 rw [d105]
 exact bndC_of (c_join (sep:=[]) hv hj hll (by simp) hne) ⟨rfl,[],by simp⟩
def sgnS (n:Int):List UInt8:=if isOp n=true then opS n else [61]
def matS (m:Mat):List UInt8:=m.name++sgnS m.op++quoteS m.value
def selS (ms:List Mat):List UInt8:=123 :: joinS [44] (ms.map matS)++[125]
def Mat.tame (m:Mat):Prop:=m.name.length≤2 ^ 20∧m.value.length≤2 ^ 20
theorem sgnS_len (n:Int):(sgnS n).length≤2:=by
 unfold sgnS opS
 split
 · split
   · simp
   · split
     · simp
     · split<;>simp
 · simp
theorem quoteS_len (v:List UInt8):(quoteS v).length≤2*v.length+2:=by
 have:=esc_len v
 rw [quoteS,List.length_append,List.length_cons]
 simp only [List.length_cons,List.length_nil]
 omega
theorem matS_len {m:Mat} (h:m.tame):(matS m).length≤2 ^ 22-2∧2≤(matS m).length:=by
 have h1:=sgnS_len m.op
 have h2:=quoteS_len m.value
 obtain ⟨a,b⟩:=h
 have h3:2≤(quoteS m.value).length:=by simp [quoteS]
 simp only [matS,List.length_append]
 omega
theorem sumL_le {c:Nat}:∀ l:List (List UInt8),(∀ x∈l,x.length≤c)→sumL l≤c*l.length:=by
 intro l
 induction l with
 | nil=>intro _;simp [sumL]
 | cons a r ih =>
   intro h
   rw [sumL,List.length_cons,Nat.mul_add]
   have:=ih fun x hx=>h x (by simp [hx])
   have:=h a (by simp)
   omega
theorem sel_len {ms:List Mat} (hm:∀ m∈ms,m.tame) (hl:ms.length≤2 ^ 20):(joinS [44] (ms.map matS)).length≤2 ^ 43:=by
 cases h:ms.map matS with
 | nil=>simp [joinS]
 | cons a r =>
   rw [join_len]
   have hall:∀ x∈a :: r,x.length≤2 ^ 22-2:=by
    rw [← h]
    intro x hx
    obtain ⟨m,hm1,rfl⟩:=List.mem_map.1 hx
    exact (matS_len (hm m hm1)).1
   have h2:=sumL_le _ hall
   have h3:(a :: r).length≤2 ^ 20:=by rw [← h];simpa using hl
   have h4:(2 ^ 22-2)*(a :: r).length≤(2 ^ 22-2)*2 ^ 20:=Nat.mul_le_mul_left _ h3
   simp at h3 ⊢
   omega
theorem join_ne {sep a b:List UInt8} {r:List (List UInt8)} (h:sep≠[]∨a≠[]):joinS sep (a :: b :: r)≠[]:=by
 intro e
 simp [joinS] at e
 rcases h with h | h
 · exact h e.2.1
 · exact h e.1
theorem strs_lit {P:Program} {H:AHeap} {T e:TypeId} {l:List (List UInt8)} {n:Nat} (hs:aBuildSlice P H T n (enumL 0 (l.map str))=bslV e #[.string ⟨#[]⟩] H n (enumL 0 (l.map str))) (hn:n=l.length) (hb:n≤16777216) :
  sliceLit P H T n (enumL 0 (l.map str)) (.slice (some ⟨H.length,0,some n⟩) n n) (H++[.cells (l.map str) e]) :=
 sliceLit1 hs (fun v hv=>by obtain ⟨s,_,rfl⟩:=List.mem_map.1 hv;rfl) (by simpa using hn) hb
theorem Gro.parts {K lo v l} (h:Gro K lo 1 9 v (strCells l)):Parts K v l:=by
 have hf:∀ l:List (List UInt8),(strCells l).flatten=l.map str:=by
  intro l
  induction l with
  | nil=>rfl
  | cons a r ih=>simp [strCells] at ih ⊢;exact ih
 generalize hc:strCells l=cl at h
 cases h with
 | nil =>
   have:l=[]:=by simpa [strCells] using hc
   subst this;exact .nil
 | mk bb cl h1 h2 h3 h4 =>
   subst hc
   have hl:(strCells l).length=l.length:=by simp [strCells]
   rw [hl,Nat.mul_one]
   exact .mk bb l (by rw [hcells_eq,h2,hf];rfl)
theorem strel1:aElem prog 38=some (9,1,16):=by kernel_rfl
theorem strel2:isSeq prog 38=true:=by kernel_rfl
theorem mp_tail {H:AHeap} {ms:List Mat} {mb lo n0 i b6 b7:Nat} {m:Mat} {fv:Value} {k:Value→AHeap→Prop} (hm:m.tame) (hi:i+1 < 2 ^ 40) {v:Value} {acc:List (List UInt8)} {pv:Value} {K:AHeap} (hp:Pre H K) (hH:H.length≤lo) (hmap:K[mb]?=some (.map opsMap)) (hmb:mb < lo) (hlo:lo≤K.length)
  (h6:K[b6]?=some (.cells m.cells 153)) (h7:K[b7]?=some (.cells [str (sgnS m.op),fv] 169)) (hg:Gro K lo 1 9 pv (strCells acc)) (hal:acc.length≤2 ^ 20)
  (hk:∀ (K:AHeap) (pv:Value) (Q R S V W T U a b d f g h j n o p q r s t u w y z A B C D E F G I J L M N O:Value),Pre H K→K[mb]?=some (.map opsMap)→lo≤K.length→Gro K lo 1 9 pv (strCells (acc++[matS m]))→L71x0 n0 k [v,Q,R,.map (some mb),pv,S,V,W,T,U,v,i64 ms.length,i64 ((i+1:Nat):Int),a,b,d,f,g,h,j,n,o,p,q,r,s,t,u,w,y,z,A,B,C,D,E,F,G,I,J,L,M,N,O] K) (Q R S T U a b d f g h j n o p q r s t u w y z A B C D E F G I J L M N O:Value) :
  S71x0 n0 k [v,Q,R,.map (some mb),pv,S,.pointer (some ⟨b6,0,some 3⟩),.pointer (some ⟨b7,0,some 2⟩),T,U,v,i64 ms.length,i64 i,a,b,d,f,g,h,j,n,o,p,q,r,s,t,u,w,y,z,A,B,C,D,E,F,G,I,J,L,M,N,O] K:=by
 obtain ⟨c6,l6⟩:=cellFx h6
 obtain ⟨c7,l7⟩:=cellFx h7
 simp only [Mat.cells] at c6 l6
 obtain ⟨t1,t2⟩:=hm
 rw [S71x0q]
 simp [c6,l6,c7,l7]
 refine bndD_same (c_quote (by omega)) ?_
 dsimp only
 refine bndD_of (strs_lit (l:=[m.name,sgnS m.op,quoteS m.value]) (tbs38 K 3 _) rfl (by decide)) (.inl rfl) ?_
 dsimp only
 have hj:joinS [] [m.name,sgnS m.op,quoteS m.value]=matS m:=by simp [joinS,matS]
 have hml:=matS_len (m:=m) ⟨t1,t2⟩
 refine bndD_of (c_joined (v:=.slice (some ⟨K.length,0,some 3⟩) 3 3) (l:=[m.name,sgnS m.op,quoteS m.value]) (.mk _ [m.name,sgnS m.op,quoteS m.value] (by simp)) (by rw [hj];omega) (by simp) (fun _ e=>by rw [hj] at e;rw [e] at hml;simp at hml)) (.inl rfl) ?_
 dsimp only
 rw [hj]
 generalize hK1:K++[AObj.cells (List.map str [m.name,sgnS m.op,quoteS m.value]) 9]=K1
 have hg1:Gro K1 lo 1 9 pv (strCells acc):=by rw [← hK1];exact hg.app
 have hp1:Pre H K1:=by rw [← hK1];exact hp.more _
 have hm1:K1[mb]?=some (.map opsMap):=by rw [← hK1];exact get_more hmap
 have hl1:lo≤K1.length:=by rw [← hK1];simp;omega
 clear hK1
 refine bndD_of (strs_lit (l:=[matS m]) (tbs38 K1 1 _) rfl (by decide)) (.inl rfl) ?_
 dsimp only
 obtain ⟨v',K2,q1,q2,q3,q4,q5⟩:=Gro.push (P:=prog) (Ts:=38) (by_:=16) (x:=.slice (some ⟨K1.length,0,some 1⟩) 1 1) (c:=[str (matS m)]) (hg1.app (X:=[AObj.cells (List.map str [matS m]) 9])) strel1 strel2 (by rfl) (by simp;omega) (by simp [aSrc]) (by simp [strCells];omega) (by simp [strCells];omega)
 refine bndD_of q1 (.inl rfl) ?_
 simp [show i+1 < 2 ^ 63 by omega]
 refine hk K2 v' _ _ _ _ _ _ _ _ _ _ _ _ _ _ _ _ _ _ _ _ _ _ _ _ _ _ _ _ _ _ _ _ _ _ _ _ _ _ (q5 H (hp1.more _) hH) (q3 _ _ hmb (get_more hm1)) (by simp at q4;omega) ?_
 have:strCells (acc++[matS m])=strCells acc++[[str (matS m)]]:=by simp [strCells]
 rw [this];exact q2
end Go.Vi
namespace Go.Vi
open Go Go.Proofs Go.Proofs.Tryz
theorem opsLookE {K:AHeap} {mb:Nat} (h:K[mb]?=some (.map opsMap)):aLookup prog K 165 (.map (some mb)) (.int .u8 0) false=some (.agg #[str [61],opF 0]):=by
 rw [aLookup_map,h]
 simp only [tm165,Option.bind_some,mapOf_map,opsOk,keyOk,beq_self_eq_true,if_true]
 unfold mget opsMap opF
 simp [mfind,keyEq]
theorem mp_loop {H:AHeap} {ms:List Mat} {v:Value} {mb lo:Nat} {k:Value→AHeap→Prop} (hm0:MatsAt H v ms) (htm:∀ m∈ms,m.tame) (hml:ms.length≤2 ^ 20) (hH:H.length≤lo) (hmb:mb < lo) (hk:∀ K,Pre H K→k (str (selS ms)) K) :
  ∀ (r : List Mat) (i : Nat) (K : AHeap) (pv : Value) (V W X s6 s7 Y Z c d f g j n o q s u w x y z A B C D E F G I J L M N O Q R S U : Value), ms.drop i = r → i ≤ ms.length → Pre H K → K[mb]? = some (.map opsMap) → lo ≤ K.length → Gro K lo 1 9 pv (strCells ((ms.take i).map matS)) →
    L71x0 (r.length+1) k [v,V,W,.map (some mb),pv,X,s6,s7,Y,Z,v,i64 ms.length,i64 i,c,d,f,g,j,n,o,q,s,u,w,x,y,z,A,B,C,D,E,F,G,I,J,L,M,N,O,Q,R,S,U] K:=by
 intro r
 induction r with
 | nil =>
   intro i K pv V W X s6 s7 Y Z c d f g j n o q s u w x y z A B C D E F G I J L M N O Q R S U hd hi hp hmap hlo hg
   have hle:ms.length≤i:=by simpa using hd
   rw [List.take_of_length_le hle] at hg
   rw [List.length_nil,L71x0q]
   have:¬ i < ms.length:=by omega
   simp [this]
   have hsl:=sel_len htm hml
   refine bndC_of (c_join (sep:=[44]) hg.parts (by omega) (by simp;omega) (by simp) ?_) ?_
   · intro h2
     cases hms:ms.map matS with
     | nil=>rw [hms] at h2;simp at h2
     | cons a t =>
       cases t with
       | nil=>rw [hms] at h2;simp at h2
       | cons b t=>exact join_ne (.inl (by simp))
   refine bndL_lit (strs_lit (l:=[[123],joinS [44] (ms.map matS),[125]]) (tbs38 K 3 _) rfl (by decide)) ?_
   dsimp only
   have hj:joinS [] [[123],joinS [44] (ms.map matS),[125]]=selS ms:=by simp [joinS,selS]
   have hsl2:(selS ms).length≤2 ^ 46:=by simp [selS];omega
   refine bndC_of (c_joined (v:=.slice (some ⟨K.length,0,some 3⟩) 3 3) (l:=[[123],joinS [44] (ms.map matS),[125]]) (.mk _ [[123],joinS [44] (ms.map matS),[125]] (by simp)) (by rw [hj];exact hsl2) (by simp) (fun _ e=>by rw [hj] at e;simp [selS] at e)) ?_
   rw [hj]
   exact hk _ (hp.more _)
 | cons m r ih =>
   intro i K pv V W X s6 s7 Y Z c d f g j n o q s u w x y z A B C D E F G I J L M N O Q R S U hd hi hp hmap hlo hg
   have hb:ms[i]?=some m:=by rw [← List.head?_drop,hd];rfl
   have hlt:i < ms.length:=(List.getElem?_eq_some_iff.1 hb).1
   obtain ⟨p,hp1,hp2⟩:=(hm0.pre hp).load (P:=prog) (T:=87) (te:=153) (i:=i) (e:=m.cells) (by simp) (by simp) (by simp) (by simp [hb])
   have hmK:mb < K.length:=(List.getElem?_eq_some_iff.1 hmap).1
   have hlook:aLookup prog (K++[.cells m.cells 153]) 165 (.map (some mb)) (.int .u8 m.op) true=some (.tuple #[.agg #[str (opS m.op),opF m.op],.bool (isOp m.op)]):=opsLook _ (get_more hmap)
   have hgo:∀ (fv:Value) (V W X Y Z c d f g j n o q s u w x y z A B C D E F G I J L M N O Q R S U:Value),S71x0 (r.length+1) k [v,V,W,.map (some mb),pv,X,.pointer (some ⟨K.length,0,some 3⟩),.pointer (some ⟨K.length+1,0,some 2⟩),Y,Z,v,i64 ms.length,i64 i,c,d,f,g,j,n,o,q,s,u,w,x,y,z,A,B,C,D,E,F,G,I,J,L,M,N,O,Q,R,S,U] (K++[.cells m.cells 153,.cells [str (sgnS m.op),fv] 169]):=by
    intro fv V W X Y Z c d f g j n o q s u w x y z A B C D E F G I J L M N O Q R S U
    refine mp_tail (H:=H) (ms:=ms) (mb:=mb) (lo:=lo) (i:=i) (m:=m) (fv:=fv) (htm m (List.mem_of_getElem? hb)) (by omega) (acc:=(ms.take i).map matS) (hp.more _) hH (get_more hmap) hmb (by simp;omega) (by simp) (by simp) hg.app (by simp;omega) (fun K' pv' V W X s6 s7 Y Z c d f g j n o q s u w x y z A B C D E F G I J L M N O Q R S U a1 a2 a3 a4=>?_) _ _ _ _ _ _ _ _ _ _ _ _ _ _ _ _ _ _ _ _ _ _ _ _ _ _ _ _ _ _ _ _ _ _ _ _
    refine ih (i+1) K' pv' _ _ _ _ _ _ _ _ _ _ _ _ _ _ _ _ _ _ _ _ _ _ _ _ _ _ _ _ _ _ _ _ _ _ _ _ _ _ (by rw [← List.drop_drop,hd];rfl) hlt a1 a2 a3 ?_
    rw [List.take_add_one,hb]
    simpa using a4
   rw [List.length_cons,L71x0q]
   simp only [Mat.cells] at hlook hgo
   simp [hlt,hp1,hp2,Mat.cells,-aLookup_map,hlook,opF_one]
   refine kifB_bool (fun h=>?_) (fun h=>?_)
   · have hno:isOp m.op=false:=by simpa using h
     have hlook2:=opsLookE (K:=K++[.cells [str m.name,.int .u8 m.op,str m.value] 153,.cells [str (opS m.op),opF m.op] 169]) (mb:=mb) (get_more hmap)
     simp [-aLookup_map,hlook2,opF_one]
     have:=hgo (opF 0)
     simp only [sgnS,hno,Bool.false_eq_true,if_false] at this
     exact this _ _ _ _ _ _ _ _ _ _ _ _ _ _ _ _ _ _ _ _ _ _ _ _ _ _ _ _ _ _ _ _ _ _ _ _
   · have hyes:isOp m.op=true:=by simpa using h
     have:=hgo (opF m.op)
     simp only [sgnS,hyes,if_true] at this
     exact this _ _ _ _ _ _ _ _ _ _ _ _ _ _ _ _ _ _ _ _ _ _ _ _ _ _ _ _ _ _ _ _ _ _ _ _
theorem c_matPrint {H:AHeap} {v:Value} {ms:List Mat} (hm:MatsAt H v ms) (htm:∀ m∈ms,m.tame) (hml:ms.length≤2 ^ 20):ACalls prog 71 [v] H (str (selS ms)) H:=by
 refine acalls_pure MixT func71 (by decide) rfl ?_
 rw [d71]
 refine bndC_of (c_matOps H) ?_
 have hlen:=(hm.pre (.app H [.map opsMap])).len (P:=prog) (T:=87) (e:=153) (by simp)
 simp at hlen
 simp [hlen]
 exact ⟨ms.length+1,mp_loop (H:=H) (ms:=ms) (mb:=H.length) (lo:=H.length+1) hm htm hml (by omega) (by omega) (fun K p=>⟨rfl,p⟩) ms 0 _ (.slice none 0 0) _ _ _ _ _ _ _ _ _ _ _ _ _ _ _ _ _ _ _ _ _ _ _ _ _ _ _ _ _ _ _ _ _ _ _ _ _ _ rfl (by omega) (.app _ _) (by simp) (by simp) .nil⟩
end Go.Vi
namespace Go.Vi
open Go Go.Proofs Go.Proofs.Tryz
def strongI (k:UInt8):Int:=if k=2 then 0 else if k=1 then 1 else if k=3 then 2 else if k=0 then 3 else 0
def leafS (n:Nod):List UInt8:=aggs.getD n.agg.toNat []++[40]++selS n.sel++[91]++fmtS n.window++[93,41,32]++cmps.getD n.cmp.toNat []++[32]++fixS n.value
def txtF (ns:List Nod):Nat→Nat→Int→List UInt8
 | 0,_,_=>[]
 | f + 1, e, least => match ns[e]? with
   | none=>[]
   | some n =>
     let s:=if n.kind=0 then leafS n
      else if n.kind=3 then [110,111,116,32]++txtF ns f n.left.toNat 2
      else if n.kind=1 then txtF ns f n.left.toNat 1++[32,97,110,100,32]++txtF ns f n.right.toNat 2
      else if n.kind=2 then txtF ns f n.left.toNat 0++[32,111,114,32]++txtF ns f n.right.toNat 1
      else []
     if strongI n.kind < least then [40]++s++[41] else s
theorem c_strong {H:AHeap} {n:Nod} {sv:Value} (hs:sv.oneCell'=true):ACalls prog 73 [.agg (n.cells sv).toArray] H (i64 (strongI n.kind)) H:=by
 refine acalls_pure MixT func73 (by decide) rfl ?_
 rw [d73]
 simp [aNew_agg,Nod.cells,hs,keyOk,mOk,mput,mfind,keyEq]
 generalize n.kind=q
 by_cases h2:q=2
 · subst h2;simp [mget,mfind,keyEq,strongI]
 by_cases h1:q=1
 · subst h1;simp [mget,mfind,keyEq,strongI]
 by_cases h3:q=3
 · subst h3;simp [mget,mfind,keyEq,strongI]
 by_cases h0:q=0
 · subst h0;simp [mget,mfind,keyEq,strongI]
 have e:∀ m:UInt8,q≠m→¬ (q.toNat:Int)=m.toNat:=fun m hm e=>hm (UInt8.toNat_inj.1 (by omega))
 have e2:=e 2 h2
 have e1:=e 1 h1
 have e3:=e 3 h3
 have e0:=e 0 h0
 simp at e2 e1 e3 e0
 simp [mget,mfind,keyEq,strongI,e2,e1,e3,e0,h2,h1,h3,h0,cok,isLit]
theorem aggs_at {i:Nat} (h:i < 6):aggs[i]?=some (aggs.getD i []):=by
 simp only [List.getD]
 rw [List.getElem?_eq_getElem (by simpa [aggs] using h)];rfl
theorem cmps_at {i:Nat} (h:i < 6):cmps[i]?=some (cmps.getD i []):=by
 simp only [List.getD]
 rw [List.getElem?_eq_getElem (by simpa [cmps] using h)];rfl
def WF (ns:List Nod):Nat→Nat→Prop
 | 0,_=>False
 | f + 1, e => ∃ n, ns[e]? = some n ∧ (n.kind = 0 → n.agg.toNat < 6 ∧ n.cmp.toNat < 6 ∧ -9223372036854775808 ≤ n.window ∧ n.window < 9223372036854775808 ∧ (∀ m ∈ n.sel, m.tame) ∧ n.sel.length ≤ 2 ^ 20 ∧ (leafS n).length ≤ 2 ^ 10) ∧
     (n.kind=3→∃ a:Nat,n.left=a∧WF ns f a)∧(n.kind=1∨n.kind=2→(∃ a:Nat,n.left=a∧WF ns f a)∧∃ b:Nat,n.right=b∧WF ns f b)
theorem txt_len (ns:List Nod):∀ (f e:Nat) (least:Int),WF ns f e→(txtF ns f e least).length+8≤2 ^ (f+10):=by
 intro f
 induction f with
 | zero=>intro e least h;exact h.elim
 | succ f ih =>
   intro e least h
   obtain ⟨n,h1,h2,h3,h4⟩:=h
   have hp:2 ^ (f+1+10)=2*2 ^ (f+10):=by rw [show f+1+10=(f+10)+1 by omega,Nat.pow_succ];omega
   have hq:2 ^ 10≤2 ^ (f+10):=Nat.pow_le_pow_right (by omega) (by omega)
   have key:∀ s:List UInt8,s.length+10≤2 ^ (f+1+10)→(if strongI n.kind < least then [40]++s++[41] else s).length+8≤2 ^ (f+1+10):=by
    intro s hs
    split
    · simp;omega
    · omega
   rw [txtF,h1]
   refine key _ ?_
   split
   · rename_i k;have:=(h2 k).2.2.2.2.2.2;omega
   · split
     · rename_i k
       obtain ⟨a,e1,e2⟩:=h3 k
       have:=ih _ 2 e2
       rw [e1]
       simp
       omega
     · split
       · rename_i k
         obtain ⟨⟨a,e1,e2⟩,b,e3,e4⟩:=h4 (.inl k)
         have a1:=ih _ 1 e2
         have a2:=ih _ 2 e4
         rw [e1,e3]
         simp
         omega
       · split
         · rename_i k
           obtain ⟨⟨a,e1,e2⟩,b,e3,e4⟩:=h4 (.inr k)
           have a1:=ih _ 0 e2
           have a2:=ih _ 1 e4
           rw [e1,e3]
           simp
           omega
         · simp;omega
theorem row_str {K:AHeap} {b i:Nat} {l:List (List UInt8)} {s:List UInt8} {k:IntKind} (hb:hcells K b=some (l.map str)) (hi:l[i]?=some s) :
  ∃ p,aIndexAddr prog K 38 (.slice (some ⟨b,0,some l.length⟩) l.length l.length) (.int k i)=some p∧aLoad prog K 9 p=some (str s):=by
 have hl:hlen K b=some l.length:=by rw [hcells_len hb];simp
 have hlt:=(List.getElem?_eq_some_iff.1 hi).1
 refine ⟨.pointer (some ⟨b,i,some l.length⟩),?_,?_⟩
 · rw [aIndexAddr_sl]
   simp [hl,slElem]
   omega
 · simp [hb,hi]
theorem c_exprText {ns:List Nod} {H:AHeap} {v:Value} (hg:Pw H) (hn:NodesAt H v ns):∀ (f e:Nat) (least:Int),f≤40→WF ns f e→∀ K:AHeap,Pre H K→ACalls prog 43 [v,i64 e,i64 least] K (str (txtF ns f e least)) K:=by
 intro f
 induction f with
 | zero=>intro e least _ h;exact h.elim
 | succ f ih =>
   intro e least hf hw K hpK
   have htl:=txt_len ns (f+1) e
   obtain ⟨n,h1,h2,h3,h4⟩:=id hw
   obtain ⟨cl,ha,hcl,hc⟩:=hn.pre hpK
   obtain ⟨sv,hsv,hm,hml⟩:=hc _ _ h1
   obtain ⟨p,hp1,hp2⟩:=ha.load (P:=prog) (T:=34) (te:=89) (i:=e) (e:=n.cells sv) (by simp) (by simp) (by simp) hsv
   have hone:=hm.one
   refine acalls_pure MixT func43 (by decide) rfl ?_
   generalize hk0:(fun u H2=>u=str (txtF ns (f+1) e least)∧∃ Y,H2=K++Y)=k
   have hk:∀ M,Pre K M→k (str (txtF ns (f+1) e least)) M:=fun M p=>by rw [← hk0];exact ⟨rfl,p⟩
   rw [d43]
   have hpow:2 ^ (f+1+10)≤2 ^ 52:=Nat.pow_le_pow_right (by omega) (by omega)
   have hpow2:2 ^ (f+10)≤2 ^ 51:=Nat.pow_le_pow_right (by omega) (by omega)
   have hpM:Pre K (K++[.cells (n.cells sv) 89]):=.app _ _
   have hcM:hcells (K++[.cells (n.cells sv) 89]) K.length=some (n.cells sv):=by simp
   have hfin:∀ (N:AHeap) (s:List UInt8) (s0 s1 s3 s4 s5 s6 s9 d g j o q r t w y z B D E F G I J L O Q R V Z aa ab ac ad ae af ag ah ai aj ak al am an ao ap aq ar au av aw ax ay az aA aB aC aD aE aF aG aH aI aJ aK aL aM aN aO aP aQ aR aS aT aU aV aW aX aY aZ:Value),Pre (K++[.cells (n.cells sv) 89]) N→s.length≤2 ^ 60→txtF ns (f+1) e least=(if strongI n.kind < least then [40]++s++[41] else s) →
     S43x0 k [s0,s1,i64 least,s3,s4,s5,s6,.pointer (some ⟨K.length,0,some 8⟩),str s,s9,d,g,j,o,q,r,t,w,y,z,B,D,E,F,G,I,J,L,O,Q,R,V,Z,aa,ab,ac,ad,ae,af,ag,ah,ai,aj,ak,al,am,an,ao,ap,aq,ar,au,av,aw,ax,ay,az,aA,aB,aC,aD,aE,aF,aG,aH,aI,aJ,aK,aL,aM,aN,aO,aP,aQ,aR,aS,aT,aU,aV,aW,aX,aY,aZ] N:=by
    intro N s s0 s1 s3 s4 s5 s6 s9 d g j o q r t w y z B D E F G I J L O Q R V Z aa ab ac ad ae af ag ah ai aj ak al am an ao ap aq ar au av aw ax ay az aA aB aC aD aE aF aG aH aI aJ aK aL aM aN aO aP aQ aR aS aT aU aV aW aX aY aZ hN hs ht
    rw [S43x0q]
    rw [ht] at hk
    clear ht hw h2 h3 h4 ih hsv hp2 hk0 htl
    replace hcM:=hN.hcells hcM
    replace hpM:=hpM.trans hN
    clear hN
    generalize N=M at hcM hpM ⊢
    simp only [Nod.cells] at hcM
    simp [hcM]
    have hst:=c_strong (H:=M) (n:=n) (sv:=sv) hone
    simp only [Nod.cells] at hst
    refine bndC_of hst ?_
    simp
    refine kifB_bool (fun h=>?_) (fun h=>?_)
    · have hl:strongI n.kind < least:=by simpa using h
      rw [if_pos hl] at hk
      have c1:∀ X Y,aBin2 prog M .add 9 X Y (.string ⟨#[40]⟩) (str s)=some (str (40 :: s)):=fun X Y=>aBin_str (a:=[40]) (b:=s) (by simp;omega)
      have c2:∀ X Y,aBin2 prog M .add 9 X Y (str (40 :: s)) (.string ⟨#[41]⟩)=some (str (40 :: s++[41])):=fun X Y=>aBin_str (a:=40 :: s) (b:=[41]) (by simp;omega)
      simp [c1,c2]
      exact hk M hpM
    · have hl:¬ strongI n.kind < least:=by simpa using h
      rw [if_neg hl] at hk
      exact hk M hpM
   generalize hM:K++[AObj.cells (n.cells sv) 89]=M at hcM hpM hfin
   have hpHM:=hpK.trans hpM
   simp only [Nod.cells] at hcM hM
   have hlM:hlen M K.length=some 8:=by rw [hcells_len hcM];rfl
   simp [hp1,hp2,Nod.cells,hone,hM,hcM,hlM]
   by_cases k0:n.kind=0
   · obtain ⟨g1,g2,g3,g4,g5,g6,g7⟩:=h2 k0
     have e0:(n.kind.toNat:Int)=0:=by rw [k0];rfl
     have hts:txtF ns (f+1) e least=if strongI n.kind < least then [40]++leafS n++[41] else leafS n:=by rw [txtF,h1];simp only [k0,if_true]
     have hgo:∀ (N:AHeap) (s:List UInt8) (s0 s1 s3 s4 s5 s6 s9 d g j o q r t w y z B D E F G I J L O Q R V Z aa ab ac ad ae af ag ah ai aj ak al am an ao ap aq ar au av aw ax ay az aA aB aC aD aE aF aG aH aI aJ aK aL aM aN aO aP aQ aR aS aT aU aV aW aX aY aZ:Value),Pre M N→s=leafS n→S43x0 k [s0,s1,i64 least,s3,s4,s5,s6,.pointer (some ⟨K.length,0,some 8⟩),str s,s9,d,g,j,o,q,r,t,w,y,z,B,D,E,F,G,I,J,L,O,Q,R,V,Z,aa,ab,ac,ad,ae,af,ag,ah,ai,aj,ak,al,am,an,ao,ap,aq,ar,au,av,aw,ax,ay,az,aA,aB,aC,aD,aE,aF,aG,aH,aI,aJ,aK,aL,aM,aN,aO,aP,aQ,aR,aS,aT,aU,aV,aW,aX,aY,aZ] N:=fun N s s0 s1 s3 s4 s5 s6 s9 d g j o q r t w y z B D E F G I J L O Q R V Z aa ab ac ad ae af ag ah ai aj ak al am an ao ap aq ar au av aw ax ay az aA aB aC aD aE aF aG aH aI aJ aK aL aM aN aO aP aQ aR aS aT aU aV aW aX aY aZ a b=>hfin N s _ _ _ _ _ _ _ _ _ _ _ _ _ _ _ _ _ _ _ _ _ _ _ _ _ _ _ _ _ _ _ _ _ _ _ _ _ _ _ _ _ _ _ _ _ _ _ _ _ _ _ _ _ _ _ _ _ _ _ _ _ _ _ _ _ _ _ _ _ _ _ _ _ _ _ _ _ _ _ _ a (by subst b;omega) (by rw [hts,b])
     simp only [leafS,List.length_append,List.length_cons,List.length_nil] at g7
     simp only [leafS] at hgo
     clear hfin ih h3 h4 htl hw
     generalize hA:aggs.getD n.agg.toNat []=A at g7 hgo
     generalize hC:cmps.getD n.cmp.toNat []=C at g7 hgo
     have hA':aggs[n.agg.toNat]?=some A:=by rw [← hA];exact aggs_at g1
     have hC':cmps[n.cmp.toNat]?=some C:=by rw [← hC];exact cmps_at g2
     simp [e0]
     refine bndD_of (c_aggregates M) (.inr ⟨_,rfl⟩) ?_
     obtain ⟨p1,a1,a2⟩:=row_str (K:=M++[.cells (aggs.map str) 9]) (b:=M.length) (l:=aggs) (k:=.u8) (by simp) hA'
     simp only [show aggs.length=6 from rfl] at a1
     simp [hlM,hcM,a1,a2]
     generalize hM1:M++[AObj.cells (aggs.map str) 9]=M1
     have hpM1:Pre M M1:=by rw [← hM1];exact .app _ _
     clear hM1 a1 a2 hA' hA hC
     have hmp:=c_matPrint ((hm.pre hpM).pre hpM1) g5 g6
     have hit:=c_itoa (H:=M1) ((hg.trans hpHM).trans hpM1) g3 g4
     generalize selS n.sel=S at g7 hgo hmp
     generalize fmtS n.window=W at g7 hgo hit
     refine bnd_of (aBin_str (b:=[40]) (by simp;omega)) ?_
     simp [hlM,hcM]
     refine bndD_same hmp ?_
     dsimp only
     refine bnd_of (aBin_str (b:=S) (by simp;omega)) ?_
     dsimp only
     refine bnd_of (aBin_str (b:=[91]) (by simp;omega)) ?_
     simp [hlM,hcM]
     refine bndD_same hit ?_
     dsimp only
     refine bnd_of (aBin_str (b:=W) (by simp;omega)) ?_
     dsimp only
     refine bnd_of (aBin_str (b:=[93,41,32]) (by simp;omega)) ?_
     dsimp only
     refine bndD_of (c_compares M1) (.inr ⟨_,rfl⟩) ?_
     obtain ⟨p2,b1,b2⟩:=row_str (K:=M1++[.cells (cmps.map str) 9]) (b:=M1.length) (l:=cmps) (k:=.u8) (by simp) hC'
     simp only [show cmps.length=6 from rfl] at b1
     simp [hlM,hcM,b1,b2]
     have hfx:=c_fixPrint (H:=M1++[.cells (cmps.map str) 9]) (((hg.trans hpHM).trans hpM1).more _) (x:=n.value)
     have hpM2:Pre M (M1++[.cells (cmps.map str) 9]):=hpM1.more _
     clear b1 b2 hmp hit
     generalize M1++[AObj.cells (cmps.map str) 9]=M2 at hfx hpM2 ⊢
     generalize fixS n.value=X at g7 hgo hfx
     refine bnd_of (aBin_str (b:=C) (by simp;omega)) ?_
     dsimp only
     refine bnd_of (aBin_str (b:=[32]) (by simp;omega)) ?_
     simp [hlM,hcM]
     refine bndD_same hfx ?_
     dsimp only
     refine bnd_of (aBin_str (b:=X) (by simp;omega)) ?_
     dsimp only
     exact hgo M2 _ _ _ _ _ _ _ _ _ _ _ _ _ _ _ _ _ _ _ _ _ _ _ _ _ _ _ _ _ _ _ _ _ _ _ _ _ _ _ _ _ _ _ _ _ _ _ _ _ _ _ _ _ _ _ _ _ _ _ _ _ _ _ _ _ _ _ _ _ _ _ _ _ _ _ _ _ _ _ _ _ hpM2 (by simp)
   · have hkn:∀ m:UInt8,n.kind≠m→¬ (n.kind.toNat:Int)=m.toNat:=fun m hm e=>hm (UInt8.toNat_inj.1 (by omega))
     have e0:¬ (n.kind.toNat:Int)=0:=by simpa using hkn 0 k0
     have e0b:((n.kind.toNat:Int) == 0)=false:=by simpa using e0
     have hgo:∀ (N:AHeap) (s:List UInt8) (s0 s1 s3 s4 s5 s6 s9 d g j o q r t w y z B D E F G I J L O Q R V Z aa ab ac ad ae af ag ah ai aj ak al am an ao ap aq ar au av aw ax ay az aA aB aC aD aE aF aG aH aI aJ aK aL aM aN aO aP aQ aR aS aT aU aV aW aX aY aZ:Value),Pre M N→s.length≤2 ^ 60→(txtF ns (f+1) e least=if strongI n.kind < least then [40]++s++[41] else s)→S43x0 k [s0,s1,i64 least,s3,s4,s5,s6,.pointer (some ⟨K.length,0,some 8⟩),str s,s9,d,g,j,o,q,r,t,w,y,z,B,D,E,F,G,I,J,L,O,Q,R,V,Z,aa,ab,ac,ad,ae,af,ag,ah,ai,aj,ak,al,am,an,ao,ap,aq,ar,au,av,aw,ax,ay,az,aA,aB,aC,aD,aE,aF,aG,aH,aI,aJ,aK,aL,aM,aN,aO,aP,aQ,aR,aS,aT,aU,aV,aW,aX,aY,aZ] N:=fun N s s0 s1 s3 s4 s5 s6 s9 d g j o q r t w y z B D E F G I J L O Q R V Z aa ab ac ad ae af ag ah ai aj ak al am an ao ap aq ar au av aw ax ay az aA aB aC aD aE aF aG aH aI aJ aK aL aM aN aO aP aQ aR aS aT aU aV aW aX aY aZ a b c=>hfin N s _ _ _ _ _ _ _ _ _ _ _ _ _ _ _ _ _ _ _ _ _ _ _ _ _ _ _ _ _ _ _ _ _ _ _ _ _ _ _ _ _ _ _ _ _ _ _ _ _ _ _ _ _ _ _ _ _ _ _ _ _ _ _ _ _ _ _ _ _ _ _ _ _ _ _ _ _ _ _ _ a b c
     have htx:txtF ns (f+1) e least=(let s:=(if n.kind=3 then [110,111,116,32]++txtF ns f n.left.toNat 2 else if n.kind=1 then txtF ns f n.left.toNat 1++[32,97,110,100,32]++txtF ns f n.right.toNat 2 else if n.kind=2 then txtF ns f n.left.toNat 0++[32,111,114,32]++txtF ns f n.right.toNat 1 else []);(if strongI n.kind < least then [40]++s++[41] else s)):=by rw [txtF,h1];simp only [k0,if_false]
     dsimp only at htx
     by_cases k3:n.kind=3
     · obtain ⟨a,l1,l2⟩:=h3 k3
       have e3:(n.kind.toNat:Int)=3:=by rw [k3];rfl
       rw [if_pos k3,l1,Int.toNat_natCast] at htx
       have hl:=txt_len ns f a 2 l2
       have hcall:=ih a 2 (by omega) l2 M hpHM
       generalize txtF ns f a 2=T at htx hl hcall
       simp [e3,hlM,hcM,l1]
       refine bndC_of hcall ?_
       refine bnd_of (v:=str ([110,111,116,32]++T)) (aBin_str (a:=[110,111,116,32]) (b:=T) (by simp;omega)) ?_
       dsimp only
       exact hgo M _ _ _ _ _ _ _ _ _ _ _ _ _ _ _ _ _ _ _ _ _ _ _ _ _ _ _ _ _ _ _ _ _ _ _ _ _ _ _ _ _ _ _ _ _ _ _ _ _ _ _ _ _ _ _ _ _ _ _ _ _ _ _ _ _ _ _ _ _ _ _ _ _ _ _ _ _ _ _ _ _ (.refl _) (by simp;omega) htx
     · have e3:¬ (n.kind.toNat:Int)=3:=by simpa using hkn 3 k3
       have e3b:((n.kind.toNat:Int) == 3)=false:=by simpa using e3
       rw [if_neg k3] at htx
       by_cases k1:n.kind=1
       · obtain ⟨⟨a,l1,l2⟩,b,r1,r2⟩:=h4 (.inl k1)
         have e1:(n.kind.toNat:Int)=1:=by rw [k1];rfl
         rw [if_pos k1,l1,r1,Int.toNat_natCast,Int.toNat_natCast] at htx
         have hl:=txt_len ns f a 1 l2
         have hr:=txt_len ns f b 2 r2
         have hcl1:=ih a 1 (by omega) l2 M hpHM
         have hcl2:=ih b 2 (by omega) r2 M hpHM
         generalize txtF ns f a 1=T at htx hl hcl1
         generalize txtF ns f b 2=U at htx hr hcl2
         simp [e1,hlM,hcM,l1]
         refine bndD_same hcl1 ?_
         dsimp only
         refine bnd_of (aBin_str (b:=[32,97,110,100,32]) (by simp;omega)) ?_
         simp [hlM,hcM,r1]
         refine bndD_same hcl2 ?_
         dsimp only
         refine bnd_of (aBin_str (b:=U) (by simp;omega)) ?_
         dsimp only
         exact hgo M _ _ _ _ _ _ _ _ _ _ _ _ _ _ _ _ _ _ _ _ _ _ _ _ _ _ _ _ _ _ _ _ _ _ _ _ _ _ _ _ _ _ _ _ _ _ _ _ _ _ _ _ _ _ _ _ _ _ _ _ _ _ _ _ _ _ _ _ _ _ _ _ _ _ _ _ _ _ _ _ _ (.refl _) (by simp;omega) (by rw [htx])
       · have e1:¬ (n.kind.toNat:Int)=1:=by simpa using hkn 1 k1
         have e1b:((n.kind.toNat:Int) == 1)=false:=by simpa using e1
         rw [if_neg k1] at htx
         by_cases k2:n.kind=2
         · obtain ⟨⟨a,l1,l2⟩,b,r1,r2⟩:=h4 (.inr k2)
           have e2:(n.kind.toNat:Int)=2:=by rw [k2];rfl
           rw [if_pos k2,l1,r1,Int.toNat_natCast,Int.toNat_natCast] at htx
           have hl:=txt_len ns f a 0 l2
           have hr:=txt_len ns f b 1 r2
           have hcl1:=ih a 0 (by omega) l2 M hpHM
           have hcl2:=ih b 1 (by omega) r2 M hpHM
           generalize txtF ns f a 0=T at htx hl hcl1
           generalize txtF ns f b 1=U at htx hr hcl2
           simp [e2,hlM,hcM,l1]
           refine bndD_same hcl1 ?_
           dsimp only
           refine bnd_of (aBin_str (b:=[32,111,114,32]) (by simp;omega)) ?_
           simp [hlM,hcM,r1]
           refine bndD_same hcl2 ?_
           dsimp only
           refine bnd_of (aBin_str (b:=U) (by simp;omega)) ?_
           dsimp only
           exact hgo M _ _ _ _ _ _ _ _ _ _ _ _ _ _ _ _ _ _ _ _ _ _ _ _ _ _ _ _ _ _ _ _ _ _ _ _ _ _ _ _ _ _ _ _ _ _ _ _ _ _ _ _ _ _ _ _ _ _ _ _ _ _ _ _ _ _ _ _ _ _ _ _ _ _ _ _ _ _ _ _ _ (.refl _) (by simp;omega) (by rw [htx])
         · have e2:¬ (n.kind.toNat:Int)=2:=by simpa using hkn 2 k2
           have e2b:((n.kind.toNat:Int) == 2)=false:=by simpa using e2
           rw [if_neg k2] at htx
           simp [e0b,e1b,e2b,e3b]
           exact hgo M [] _ _ _ _ _ _ _ _ _ _ _ _ _ _ _ _ _ _ _ _ _ _ _ _ _ _ _ _ _ _ _ _ _ _ _ _ _ _ _ _ _ _ _ _ _ _ _ _ _ _ _ _ _ _ _ _ _ _ _ _ _ _ _ _ _ _ _ _ _ _ _ _ _ _ _ _ _ _ _ _ (.refl _) (by simp) htx
end Go.Vi
namespace Go.Vi
open Go Go.Proofs Go.Proofs.Tryz
theorem ok_len {m:Mat} (h:m.ok=true):m.tame∧(matS m).length≤84:=by
 unfold Mat.ok mayName mayM mayValue at h
 simp only [Bool.and_eq_true,Bool.or_eq_true,decide_eq_true_eq] at h
 obtain ⟨⟨_,⟨⟨_,h1⟩,_⟩,_⟩,h2⟩:=h
 have h3:m.value.length≤32:=by
  rcases h2 with h2 | h2
  · rw [h2];simp
  · exact h2.1.2
 have h4:=sgnS_len m.op
 have h5:=quoteS_len m.value
 refine ⟨⟨by omega,by omega⟩,?_⟩
 simp only [matS,List.length_append]
 omega
theorem sel_small {ms:List Mat} (h:mayMats ms=true):(∀ m∈ms,m.tame)∧ms.length≤6∧(selS ms).length≤512:=by
 unfold mayMats at h
 simp only [Bool.and_eq_true,List.all_eq_true,decide_eq_true_eq] at h
 obtain ⟨h1,h2⟩:=h
 refine ⟨fun m hm=>(ok_len (h1 m hm)).1,h2,?_⟩
 have h3:(joinS [44] (ms.map matS)).length≤510:=by
  cases h:ms.map matS with
  | nil=>simp [joinS]
  | cons a r =>
    rw [join_len]
    have hall:∀ x∈a :: r,x.length≤84:=by
     rw [← h]
     intro x hx
     obtain ⟨m,hm1,rfl⟩:=List.mem_map.1 hx
     exact (ok_len (h1 m hm1)).2
    have h4:=sumL_le _ hall
    have h5:(a :: r).length≤6:=by rw [← h];simpa using h2
    simp at h5 h4 ⊢
    omega
 simp [selS]
 omega
theorem fixS_len (x:Int):(fixS x).length≤42:=by
 have hb:-4611686018427387903≤sat x∧sat x≤4611686018427387903:=by unfold sat maxFix;omega
 unfold fixS
 rw [fmtS_nat,fmtS_nat]
 have l1:=natS_len (n:=(sat x).natAbs / 1000) (by omega)
 have l2:=natS_len (n:=1000+(sat x).natAbs % 1000) (by omega)
 have l3:=trimR_len 48 ((natS (1000+(sat x).natAbs % 1000)).drop 1)
 simp only [List.length_drop] at l3
 have l4:(if sat x < 0 then [45] else ([]:List UInt8)).length≤1:=by split<;>simp
 have l5:(if (sat x).natAbs % 1000=0 then [] else 46 :: trimR 48 ((natS (1000+(sat x).natAbs % 1000)).drop 1)).length≤21:=by
  split
  · simp
  · simp only [List.length_cons];omega
 rw [List.length_append,List.length_append]
 omega
theorem getD_len {l:List (List UInt8)} {i c:Nat} (h:∀ x∈l,x.length≤c):(l.getD i []).length≤c:=by
 simp only [List.getD]
 cases hi:l[i]? with
 | none=>simp
 | some s=>exact h s (List.mem_of_getElem? hi)
theorem plain_leaf {n:Nod} (h:n.plain=true):n.agg.toNat < 6∧n.cmp.toNat < 6∧-9223372036854775808≤n.window∧n.window < 9223372036854775808∧(∀ m∈n.sel,m.tame)∧n.sel.length≤2 ^ 20∧(leafS n).length≤2 ^ 10:=by
 unfold Nod.plain at h
 simp only [Bool.and_eq_true,decide_eq_true_eq] at h
 obtain ⟨⟨⟨⟨⟨⟨⟨h1,h2⟩,h3⟩,h4⟩,h5⟩,_⟩,_⟩,_⟩:=h
 obtain ⟨s1,s2,s3⟩:=sel_small h2
 refine ⟨by omega,by omega,by omega,by omega,s1,by omega,?_⟩
 have a1:(aggs.getD n.agg.toNat []).length≤5:=getD_len (by decide)
 have a2:(cmps.getD n.cmp.toNat []).length≤2:=getD_len (by decide)
 have a3:=fixS_len n.value
 have a4:(fmtS n.window).length≤20:=by
  obtain ⟨w,hw⟩:∃ w:Nat,n.window=w:=⟨n.window.toNat,by omega⟩
  rw [hw,fmtS_nat]
  exact natS_len (by omega)
 simp only [leafS,List.length_append,List.length_cons,List.length_nil]
 omega
theorem beg_WF (ns:List Nod):∀ (f:Nat) (e:Int),0≤beg ns f e→∃ a:Nat,e=a∧WF ns f a:=by
 intro f
 induction f with
 | zero=>intro e h;simp [beg] at h
 | succ f ih =>
   intro e h
   rw [beg] at h
   by_cases he:e < 0
   · rw [if_pos he] at h;omega
   rw [if_neg he] at h
   obtain ⟨a,rfl⟩:∃ a:Nat,e=a:=⟨e.toNat,by omega⟩
   refine ⟨a,rfl,?_⟩
   rw [Int.toNat_natCast] at h
   cases hn:ns[a]? with
   | none=>rw [hn] at h;simp at h
   | some n =>
     rw [hn] at h
     simp only at h
     have kk:∀ m:UInt8,n.kind=m→(n.kind.toNat:Int)=m.toNat:=fun m hm=>by rw [hm]
     refine ⟨n,hn,fun k=>?_,fun k=>?_,fun k=>?_⟩
     · have e0:((n.kind.toNat:Int) == 0)=true:=by rw [kk 0 k];rfl
       rw [if_pos e0] at h
       split at h
       · rename_i hp;exact plain_leaf hp
       · omega
     · have e0:¬ ((n.kind.toNat:Int) == 0)=true:=by rw [kk 3 k];decide
       have e3:((n.kind.toNat:Int) == 3)=true:=by rw [kk 3 k];rfl
       rw [if_neg e0,if_pos e3] at h
       split at h
       · rename_i hc
         simp only [Bool.and_eq_true,beq_iff_eq] at hc
         obtain ⟨b,hb1,hb2⟩:=ih _ h
         exact ⟨b,by omega,hb2⟩
       · omega
     · have e0:¬ ((n.kind.toNat:Int) == 0)=true:=by rcases k with k | k<;>rw [kk _ k]<;>decide
       have e3:¬ ((n.kind.toNat:Int) == 3)=true:=by rcases k with k | k<;>rw [kk _ k]<;>decide
       have e4:(isAnd n || isOr n)=true:=by
        unfold isAnd isOr
        rcases k with k | k<;>rw [kk _ k]<;>rfl
       rw [if_neg e0,if_neg e3,if_pos e4] at h
       split at h
       · rename_i hc
         simp only [Bool.and_eq_true,beq_iff_eq,decide_eq_true_eq] at hc
         obtain ⟨⟨⟨_,c1⟩,c2⟩,c3⟩:=hc
         obtain ⟨b,hb1,hb2⟩:=ih _ (show 0≤beg ns f ((a:Int)-1) by omega)
         obtain ⟨d,hd1,hd2⟩:=ih _ h
         exact ⟨⟨d,by omega,hd2⟩,b,by omega,hb2⟩
       · omega
def printS (ns:List Nod):List UInt8:=if right ns=true then txtF ns ns.length (ns.length-1) 0 else []
theorem right_WF {ns:List Nod} (h:right ns=true):1≤ns.length∧ns.length≤31∧WF ns ns.length (ns.length-1):=by
 unfold right at h
 simp only [Bool.and_eq_true,decide_eq_true_eq,beq_iff_eq] at h
 obtain ⟨⟨h1,h2⟩,h3⟩:=h
 obtain ⟨a,ha,hw⟩:=beg_WF ns _ _ (show 0≤beg ns ns.length ((ns.length:Int)-1) by omega)
 have:a=ns.length-1:=by omega
 subst this
 exact ⟨by omega,by omega,hw⟩
theorem src_flat2 {z:Nat} {cs:List Value}:∀ (l:List (List Value)) (o:Nat),(∀ (i:Nat) e,l[i]?=some e→(cs.drop (o+i*z)).take z=e)→(cs.drop o).take (l.length*z)=l.flatten:=by
 intro l
 induction l with
 | nil=>intro o _;simp
 | cons c r ih =>
   intro o h
   have h0:=h 0 c rfl
   have hr:=ih (o+z) fun i e hi=>by
    have:=h (i+1) e (by simpa using hi)
    rw [← this,Nat.add_mul,Nat.one_mul];congr 2;omega
   rw [List.length_cons,Nat.add_mul,Nat.one_mul,Nat.add_comm,List.take_add,List.drop_drop,hr,List.flatten_cons]
   simpa using congrArg (·++r.flatten) h0
theorem Arr.srcOf {H z v l} (h:Arr H z v l):aSrc H z v=some (l.length,l.flatten):=by
 cases h with
 | nil=>rfl
 | mk b o m n c cs l hn hcs hm hle hel =>
   subst hn
   simp only [aSrc,hcs]
   rw [if_pos ⟨hm.symm,by omega⟩,src_flat2 l o hel]
theorem aBin_slnil {H:AHeap} {T e:TypeId} {x:Operand} {c:Value} {a:Addr} {n m:Nat} (h:prog.underlying T=some (.slice e)):aBin2 prog H .eql T x (.const c) (.slice (some a) n m) (.slice none 0 0)=some (.bool false):=by
 apply aBin2_of
 simp [aBin,clos,isLit,notNil,h]
theorem nbl2:isSeq prog 34=true:=by kernel_rfl
theorem c_cloneNodes {H:AHeap} {v:Value} {ns:List Nod} (hn:NodesAt H v ns) (h1:1≤ns.length) (h2:ns.length≤2 ^ 20):∃ v' K',ACalls prog 42 [v] H v' K'∧Pre H K'∧NodesAt K' v' ns:=by
 obtain ⟨v',K',⟨q1,q2⟩,q3⟩:∃ v' K',(Pre H K'∧NodesAt K' v' ns)∧ACalls prog 42 [v] H v' K':=by
  refine acalls_ex MixT func42 (by decide) ?_
  rw [d42]
  obtain ⟨cl,ha,hcl,hc⟩:=hn
  have hsrc:=Arr.srcOf (ha.pre (.app H [.cells [] 89]))
  have hv:∃ a n c,v=.slice (some a) n c:=by
   cases ha with
   | nil=>simp at hcl;omega
   | mk b o m n c cs l=>exact ⟨_,_,_,rfl⟩
  obtain ⟨a,n,c,rfl⟩:=hv
  rw [aBin_slnil (e:=89) (by simp)]
  simp
  have hlit:sliceLit prog H 34 0 [] (.slice (some ⟨H.length,0,some 0⟩) 0 0) (H++[.cells [] 89]):=by
   refine ⟨rfl,(tbs34 H 0 []).trans ?_⟩
   simp [bslV,Instr.fill,repCells]
  refine bndL_lit hlit ?_
  have hel:∀ x∈cl,x.length=8:=by
   intro x hx
   obtain ⟨i,hi⟩:=List.getElem?_of_mem hx
   exact ha.elen hi
  have hne:cl≠[]:=by rintro rfl;simp at hcl;omega
  have happ:aBuiltin prog (H++[.cells [] 89]) .append #[34,34] [.slice (some ⟨H.length,0,some 0⟩) 0 0,.slice (some a) n c]=some (.slice (some ⟨H.length,0,some (cl.length*8)⟩) cl.length cl.length,H++[.cells cl.flatten 89]):=by
   have hl1:1≤cl.length:=by omega
   have e1:cl.length*72≤140737488355328:=by omega
   have e2:cl.length≤9223372036854775807:=by omega
   have e3:¬ cl.length=0:=by omega
   simp [aBuiltin,aAppend,nbl2,hsrc,hne,e1,e2]
  dsimp only
  rw [happ]
  simp
  refine ⟨.app _ _,cl,(Gro.mk (K:=H++[.cells cl.flatten 89]) (lo:=0) (z:=8) (T:=89) H.length cl (by omega) (by simp) hne hel).arr,hcl,fun i n hi=>?_⟩
  obtain ⟨sv,r1,r2,r3⟩:=hc i n hi
  exact ⟨sv,r1,r2.pre (.app _ _),r3⟩
 exact ⟨v',K',q3,q1,q2⟩
theorem c_exprPrint {H:AHeap} {v:Value} {ns:List Nod} (hg:Pw H) (hn:NodesAt H v ns):ACalls prog 24 [v] H (str (printS ns)) H:=by
 refine acalls_pure MixT func24 (by decide) rfl ?_
 rw [d24]
 refine bndC_of (c_right hn) ?_
 cases hr:right ns with
 | false =>
   have:printS ns=[]:=by unfold printS;rw [hr];rfl
   rw [this]
   simp
 | true =>
   have hp:printS ns=txtF ns ns.length (ns.length-1) 0:=by unfold printS;rw [if_pos hr]
   obtain ⟨h1,h2,h3⟩:=right_WF hr
   obtain ⟨v',K',g1,g2,g3⟩:=c_cloneNodes hn h1 (by omega)
   simp
   refine bndC_of g1 ?_
   have hl:=g3.len K'
   have hw:IntKind.i64.wrap ((ns.length:Int)-1)=((ns.length-1:Nat):Int):=by rw [wrap_i64 (by omega) (by omega)];omega
   simp [hl,hw]
   refine bndC_of (c_exprText (hg.trans g2) g3 ns.length (ns.length-1) 0 (by omega) h3 K' (.refl _)) ?_
   rw [hp]
   exact ⟨rfl,g2⟩
end Go.Vi
namespace Go.Vi
open Go Go.Proofs Go.Proofs.Tryz
theorem Gro.frm {K K' lo z T v cl} (h:Gro K lo z T v cl) (hf:∀ (b:Nat) o,lo≤b→K[b]?=some o→K'[b]?=some o):Gro K' lo z T v cl:=by
 cases h with
 | nil=>exact .nil
 | mk bb cl h1 h2 h3 h4=>exact .mk bb cl h1 (hf _ _ h1 h2) h3 h4
theorem Gro.weak {K lo lo' z T v cl} (h:Gro K lo z T v cl) (hl:lo'≤lo):Gro K lo' z T v cl:=by
 cases h with
 | nil=>exact .nil
 | mk bb cl h1 h2 h3 h4=>exact .mk bb cl (by omega) h2 h3 h4
abbrev rP (rb:Nat):Value:=.pointer (some ⟨rb,0,some 3⟩)
def RdS (H K:AHeap) (rb:Nat) (lv:Value) (ts:List Tok):Option Nat→Prop
 | some a=>RdA H K rb lv ts a true
 | none=>∃ a,RdA H K rb lv ts a false
theorem RdS.any {H K rb lv ts st} (h:RdS H K rb lv ts st):∃ a ok,RdA H K rb lv ts a ok:=by
 cases st with
 | some a=>exact ⟨a,true,h⟩
 | none=>obtain ⟨a,h⟩:=h;exact ⟨a,false,h⟩
theorem RdS.lt {H K rb lv ts st} (h:RdS H K rb lv ts st):rb < K.length:=by obtain ⟨a,ok,h⟩:=h.any;exact h.lt
theorem RdS.app {H K rb lv ts st} (h:RdS H K rb lv ts st) (X:AHeap):RdS H (K++X) rb lv ts st:=by
 cases st with
 | some a=>exact RdA.app h X
 | none=>obtain ⟨a,h⟩:=h;exact ⟨a,h.app X⟩
theorem RdS.le {H K rb lv ts a} (h:RdS H K rb lv ts (some a)):a≤ts.length:=RdA.le h
theorem RdS.len {H K rb lv ts st} (h:RdS H K rb lv ts st):ts.length < 2 ^ 40:=by obtain ⟨a,ok,h⟩:=h.any;exact h.len
theorem RdS.pre {H K rb lv ts st} (h:RdS H K rb lv ts st):Pre H K:=by obtain ⟨a,ok,h⟩:=h.any;exact h.pre
theorem RdS.frame {H K K' rb lv ts st} (h:RdS H K rb lv ts st) (hp:Pre H K') (hc:∀ o,K[rb]?=some o→K'[rb]?=some o):RdS H K' rb lv ts st:=by
 cases st with
 | some a=>have h:RdA H K rb lv ts a true:=h;exact ⟨h.toks,hp,h.hb,hc _ h.cell,h.len,h.le⟩
 | none=>obtain ⟨a,h⟩:=h;exact ⟨a,h.toks,hp,h.hb,hc _ h.cell,h.len,h.le⟩
structure Adv (H K K':AHeap) (rb:Nat) (lv:Value) (ts:List Tok) (st:Option Nat):Prop where
 rd:RdS H K' rb lv ts st
 fr:∀ (b:Nat) o,b≠rb→K[b]?=some o→K'[b]?=some o
 len:K.length≤K'.length
theorem Adv.trans {H K K' K2 rb lv ts st st'} (h:Adv H K K' rb lv ts st) (k:Adv H K' K2 rb lv ts st'):Adv H K K2 rb lv ts st':=⟨k.rd,fun b o hb ho=>k.fr b o hb (h.fr b o hb ho),Nat.le_trans h.len k.len⟩
theorem Adv.refl {H K rb lv ts st} (h:RdS H K rb lv ts st):Adv H K K rb lv ts st:=⟨h,fun _ _ _ h=>h,Nat.le_refl _⟩
theorem Adv.app {H K K' rb lv ts st} (h:Adv H K K' rb lv ts st) (X:AHeap):Adv H K (K'++X) rb lv ts st:=⟨h.rd.app X,fun b o hb ho=>get_more (h.fr b o hb ho),by have:=h.len;simp;omega⟩
theorem Adv.set {H K rb lv ts a ok st} (_h:RdA H K rb lv ts a ok) (a':Nat) (ok':Bool) (_ha:a'≤ts.length) (hs:RdS H (K.set rb (rdo lv a' ok')) rb lv ts st):Adv H K (K.set rb (rdo lv a' ok')) rb lv ts st :=
 ⟨hs,fun b o hb ho=>by rw [List.getElem?_set_ne (fun e=>hb e.symm)];exact ho,by simp⟩
theorem Adv.setT {H K rb lv ts a ok} (h:RdA H K rb lv ts a ok) (a':Nat) (ha:a'≤ts.length):Adv H K (K.set rb (rdo lv a' true)) rb lv ts (some a'):=.set h a' true ha (h.put a' true ha)
theorem Adv.setF {H K rb lv ts a ok} (h:RdA H K rb lv ts a ok) (a':Nat) (ha:a'≤ts.length):Adv H K (K.set rb (rdo lv a' false)) rb lv ts none:=.set h a' false ha ⟨a',h.put a' false ha⟩
def takO (ts:List Tok) (k:Int) (s:List UInt8) (a:Nat):Nat:=if isT ts a k s=true then a+1 else a
theorem g_takes {H K rb lv ts st} (h:RdS H K rb lv ts st) (k:Int) (s:List UInt8) :
  ∃ K',ACalls prog 34 [rP rb,.int .u8 k,str s] K (.bool (st.any fun a=>isT ts a k s)) K'∧Adv H K K' rb lv ts (st.map (takO ts k s)):=by
 cases st with
 | none=>obtain ⟨a,h⟩:=h;exact ⟨K,c_takes_n h rfl,.refl ⟨a,h⟩⟩
 | some a =>
   have h:RdA H K rb lv ts a true:=h
   simp only [Option.any_some,Option.map_some,takO]
   cases ht:isT ts a k s with
   | true=>exact ⟨_,c_takes_y h ht,.setT h _ (by have:=isT_lt ht;omega)⟩
   | false=>exact ⟨K,c_takes_n h (by simp [ht]),.refl h⟩
def signO (ts:List Tok) (s:List UInt8) (a:Nat):Option Nat:=if isT ts a 4 s=true then some (a+1) else none
theorem c_sign_n {H K rb lv ts a ok} (h:RdA H K rb lv ts a ok) {s:List UInt8} (ht:(ok && isT ts a 4 s)=false) :
  ACalls prog 35 [rP rb,str s] K (.tuple #[]) (K.set rb (rdo lv a false)):=by
 refine acalls_of MixT func35 (by decide) ?_
 rw [d35]
 refine bndC_of (c_takes_n h ht) ?_
 have hc:=h.cell
 have hll:hlen K rb=some 3:=by simp [hlen,hc,rdo]
 simp [hll,hc,rdo]
theorem g_sign {H K rb lv ts st} (h:RdS H K rb lv ts st) (s:List UInt8) :
  ∃ K',ACalls prog 35 [rP rb,str s] K (.tuple #[]) K'∧Adv H K K' rb lv ts (st.bind (signO ts s)):=by
 cases st with
 | none=>obtain ⟨a,h⟩:=h;exact ⟨_,c_sign_n h rfl,.setF h a h.le⟩
 | some a =>
   have h:RdA H K rb lv ts a true:=h
   simp only [Option.bind_some,signO]
   cases ht:isT ts a 4 s with
   | true=>exact ⟨_,c_sign_y h ht,.setT h _ (by have:=isT_lt ht;omega)⟩
   | false=>exact ⟨_,c_sign_n h (by simp [ht]),.setF h a h.le⟩
def tokK (ts:List Tok) (k:Int) (a:Nat):Option (List UInt8):=(ts[a]?).bind fun t=>if t.kind=k then some t.text else none
theorem c_take_n {H K rb lv ts a ok} (h:RdA H K rb lv ts a ok) {k:Int} (ht:ok=true→tokK ts k a=none) :
  ACalls prog 91 [rP rb,.int .u8 k] K (str []) (K.set rb (rdo lv a false)):=by
 refine acalls_of MixT func91 (by decide) ?_
 rw [d91]
 have hc:=h.cell
 have hcc:hcells K rb=some [lv,i64 a,.bool ok]:=by simp [hcells_eq,hc,rdo]
 have hll:hlen K rb=some 3:=by simp [hlen,hc,rdo]
 have hl:=(h.toks.pre h.pre).len (P:=prog) (T:=56) (e:=84) (by simp)
 simp at hl
 simp only [rdo] at hc
 cases ok with
 | false=>simp [hcc,hll,hc,rdo]
 | true =>
   have ht:=ht rfl
   by_cases ha:ts.length≤a
   · simp [hcc,hll,hl,ha,hc,rdo]
   · obtain ⟨t,htt⟩:∃ t,ts[a]?=some t:=⟨_,List.getElem?_eq_getElem (by omega)⟩
     obtain ⟨p,q,r,e1,e2,e3,e4,e5⟩:=toksAt_at (h.toks.pre h.pre) htt
     have hk:¬ t.kind=k:=by
      intro e
      simp [tokK,htt,e] at ht
     have hk':(t.kind != k)=true:=by simpa using hk
     simp [hcc,hll,hl,ha,e1,e2,e3,hc,hk',rdo]
def takeO (ts:List Tok) (k:Int) (a:Nat):Option Nat:=(tokK ts k a).map fun _=>a+1
theorem g_take {H K rb lv ts st} (h:RdS H K rb lv ts st) (k:Int) :
  ∃ K',ACalls prog 91 [rP rb,.int .u8 k] K (str ((st.bind (tokK ts k)).getD [])) K'∧Adv H K K' rb lv ts (st.bind (takeO ts k)):=by
 cases st with
 | none=>obtain ⟨a,h⟩:=h;exact ⟨_,c_take_n h (by simp),.setF h a h.le⟩
 | some a =>
   have h:RdA H K rb lv ts a true:=h
   simp only [Option.bind_some,takeO]
   cases ht:tokK ts k a with
   | none=>exact ⟨_,c_take_n h fun _=>ht,.setF h a h.le⟩
   | some s =>
     unfold tokK at ht
     cases htt:ts[a]? with
     | none=>simp [htt] at ht
     | some t =>
       simp only [htt,Option.bind_some] at ht
       split at ht
       · rename_i hk
         cases ht
         have:=c_take_y h htt
         rw [hk] at this
         exact ⟨_,this,.setT h _ (by have:=(List.getElem?_eq_some_iff.1 htt).1;omega)⟩
       · cases ht
def idxS (l:List (List UInt8)) (s:List UInt8):Nat:=if s∈l then l.idxOf s else 0
def oneO (ts:List Tok) (k:Int) (l:List (List UInt8)) (a:Nat):Option Nat:=(tokK ts k a).bind fun s=>if s∈l then some (a+1) else none
theorem nmap_any {l:List (List UInt8)} {s:List UInt8} (hn:l.Nodup):mget (str s) (nmapK 0 l)=if s∈l then some (i64 (l.idxOf s)) else none:=by
 by_cases hs:s∈l
 · rw [if_pos hs]
   have hlt:=List.idxOf_lt_length_of_mem hs
   exact nmap_get hn (by rw [List.getElem?_eq_getElem hlt,List.getElem_idxOf hlt])
 · rw [if_neg hs]
   rcases (nmapK_smap l 0).get (k:=s) with ⟨h,_⟩ | ⟨_,h⟩
   · exact absurd h hs
   · exact h
theorem g_one {H K rb lv ts st} (h:RdS H K rb lv ts st) (k:Int) {l:List (List UInt8)} {v:Value} (ha:Arr K 1 v (strCells l)) (hl:l.length≤200) (hn:l.Nodup) (_h0:[] ∉ l) :
  ∃ K',ACalls prog 61 [rP rb,.int .u8 k,v] K (.int .u8 (idxS l ((st.bind (tokK ts k)).getD []))) K'∧Adv H K K' rb lv ts (st.bind (oneO ts k l)):=by
 have key:∃ u K',(u=.int .u8 (idxS l ((st.bind (tokK ts k)).getD []))∧Adv H K K' rb lv ts (st.bind (oneO ts k l)))∧ACalls prog 61 [rP rb,.int .u8 k,v] K u K':=by
  refine acalls_ex MixT func61 (by decide) ?_
  rw [d61]
  refine bndC_of (c_named (by omega) hn ha) ?_
  obtain ⟨K1,g1,g2⟩:=g_take (h.app [AObj.map (nmapK 0 l)]) k
  refine bndC_of g1 ?_
  have hrb:=h.lt
  have hm:K1[K.length]?=some (.map (nmapK 0 l)):=g2.fr _ _ (by omega) (by simp)
  have hok:=(nmapK_smap l 0).ok
  generalize hs:(st.bind (tokK ts k)).getD []=s
  have hlk:aLookup prog K1 149 (.map (some K.length)) (str s) true=some (mres (some (i64 (idxS l s))) undef true)∧s∈l∨aLookup prog K1 149 (.map (some K.length)) (str s) true=some (mres none (i64 0) true)∧s ∉ l:=by
   by_cases hs:s∈l
   · left
     refine ⟨?_,hs⟩
     rw [aLookup_map,hm]
     simp only [tm149,Option.bind_some,mapOf_map,keyOk,if_true,hok,nmap_any hn,if_pos hs,idxS]
   · right
     refine ⟨?_,hs⟩
     rw [aLookup_map,hm]
     simp only [tm149,tz149,Option.bind_some,mapOf_map,keyOk,if_true,hok,nmap_any hn,if_neg hs]
     rfl
  have hfr:∀ (a':Nat) (ok':Bool) (b:Nat) (o:AObj),b≠rb→K[b]?=some o→(K1.set rb (rdo lv a' ok'))[b]?=some o:=fun a' ok' b o hb ho=>by
   rw [List.getElem?_set_ne (fun e=>hb e.symm)];exact g2.fr b o hb (get_more ho)
  have hlen:K.length≤K1.length:=by have:=g2.len;simp at this;omega
  obtain ⟨a1,ok1,hr1⟩:=g2.rd.any
  have hc:=hr1.cell
  have hcc:hcells K1 rb=some [lv,i64 a1,.bool ok1]:=by rw [hcells_eq,hc];rfl
  have hll:Vi.hlen K1 rb=some 3:=by unfold Vi.hlen;rw [hc];rfl
  have hidx:idxS l s < 256:=by
   unfold idxS
   split
   · rename_i hs;have:=List.idxOf_lt_length_of_mem hs;omega
   · omega
  have hw:IntKind.u8.wrap (idxS l s:Int)=idxS l s:=wrap_u8 (by omega) (by omega)
  have fin:∀ is:Bool,(is=true↔s∈l)→Adv H K (K1.set rb (rdo lv a1 (ok1 && is))) rb lv ts (st.bind (oneO ts k l)):=by
   intro is his
   refine ⟨?_,hfr _ _,by simpa using hlen⟩
   cases st with
   | none =>
     obtain ⟨a2,hr2⟩:=g2.rd
     have e:=hr1.cell.symm.trans hr2.cell
     simp only [rdo,Option.some.injEq,AObj.cells.injEq,List.cons.injEq,Value.bool.injEq] at e
     obtain ⟨⟨_,_,rfl,_⟩,_⟩:=e
     exact ⟨a1,hr1.put a1 false hr1.le⟩
   | some a =>
     simp only [Option.bind_some,takeO,oneO] at hs g2 ⊢
     cases hk:tokK ts k a with
     | none =>
       simp only [hk,Option.map_none] at g2
       obtain ⟨a2,hr2⟩:=g2.rd
       have e:=hr1.cell.symm.trans hr2.cell
       simp only [rdo,Option.some.injEq,AObj.cells.injEq,List.cons.injEq,Value.bool.injEq] at e
       obtain ⟨⟨_,_,rfl,_⟩,_⟩:=e
       exact ⟨a1,hr1.put a1 false hr1.le⟩
     | some s' =>
       simp only [hk,Option.map_some,Option.getD_some] at g2 hs
       subst hs
       have hr2:RdA H K1 rb lv ts (a+1) true:=g2.rd
       have e:=hr1.cell.symm.trans hr2.cell
       simp only [rdo,Option.some.injEq,AObj.cells.injEq,List.cons.injEq,Value.bool.injEq,Value.int.injEq] at e
       obtain ⟨⟨_,⟨_,e2⟩,rfl,_⟩,_⟩:=e
       obtain rfl:a1=a+1:=by omega
       simp only [Option.bind_some]
       by_cases hsl:s'∈l
       · rw [if_pos hsl,his.2 hsl];exact hr2.put (a+1) true hr2.le
       · rw [if_neg hsl,show is=false by simpa [hsl] using his];exact ⟨a+1,hr2.put (a+1) false hr2.le⟩
  dsimp only
  rcases hlk with ⟨hlk,hsl⟩ | ⟨hlk,hsl⟩
  · rw [hlk]
    have:=fin true (by simp [hsl])
    simp only [rdo] at hc this
    simp [mres,hcc,hll,hc,hw]
    simpa using this
  · rw [hlk]
    have:=fin false (by simp [hsl])
    simp only [rdo] at hc this
    simp [mres,hcc,hll,hc]
    exact ⟨by rw [show idxS l s=0 from if_neg hsl];decide,by simpa using this⟩
 obtain ⟨u,K',⟨rfl,h⟩,hy⟩:=key
 exact ⟨K',hy,h⟩
theorem RdS.cells {H K rb lv ts st} (h:RdS H K rb lv ts st):∃ a,K[rb]?=some (.cells [lv,i64 (a:Nat),.bool st.isSome] 63)∧a≤ts.length∧(∀ a',st=some a'→a=a')∧∀ ok',Adv H K (K.set rb (.cells [lv,i64 a,.bool ok'] 63)) rb lv ts (if ok'=true then some a else none):=by
 cases st with
 | some a =>
   have h:RdA H K rb lv ts a true:=h
   refine ⟨a,h.cell,h.le,fun a' e=>by cases e;rfl,fun ok'=>?_⟩
   cases ok' with
   | true=>exact .setT h a h.le
   | false=>exact .setF h a h.le
 | none =>
   obtain ⟨a,h⟩:=h
   refine ⟨a,h.cell,h.le,fun a' e=>(by cases e),fun ok'=>?_⟩
   cases ok' with
   | true=>exact .setT h a h.le
   | false=>exact .setF h a h.le
end Go.Vi
namespace Go.Vi
open Go Go.Proofs Go.Proofs.Tryz
def NumTok (ts:List Tok):Prop:=∀ (a:Nat) t,ts[a]?=some t→t.text.length < 2 ^ 20∧(t.kind=2→(∀ b∈t.text,isDig b=true∨b=46)∧∀ b r,t.text=b :: r→isDig b=true)
def winO (ts:List Tok) (a:Nat):Option (Int × Nat):=(tokK ts 2 a).bind fun s=>(atoF s).bind fun n=>if 1≤n∧n≤1000 then some (n,a+1) else none
theorem tokK_ok {ts:List Tok} {k:Int} {a:Nat} {s:List UInt8} (h:tokK ts k a=some s):∃ t,ts[a]?=some t∧t.kind=k∧t.text=s:=by
 unfold tokK at h
 cases ht:ts[a]? with
 | none=>simp [ht] at h
 | some t =>
   simp only [ht,Option.bind_some] at h
   split at h
   · cases h;exact ⟨t,rfl,‹_›,rfl⟩
   · cases h
theorem aBin_ifnil {P:Program} {H:AHeap} {T t:TypeId} {x y:Operand} {p:Addr} {ms} (h:P.underlying T=some (.interface ms)):aBin2 P H .eql T x y (.iface t (.pointer (some p))) .nilIface=some (.bool false):=by
 apply aBin2_of
 simp [aBin,clos,isLit,notNil,h]
theorem g_window {H K rb lv ts st} (hg:Pre Gs H) (hn:NumTok ts) (h:RdS H K rb lv ts st) :
  ∃ n K',ACalls prog 64 [rP rb] K (i64 n) K'∧Adv H K K' rb lv ts ((st.bind (winO ts)).map (·.2))∧∀ p,st.bind (winO ts)=some p→p.1=n:=by
 have key:∃ u K',(∃ n,u=i64 n∧Adv H K K' rb lv ts ((st.bind (winO ts)).map (·.2))∧∀ p,st.bind (winO ts)=some p→p.1=n)∧ACalls prog 64 [rP rb] K u K':=by
  refine acalls_ex MixT func64 (by decide) ?_
  rw [d64]
  obtain ⟨K1,g1,g2⟩:=g_take h 2
  refine bndC_of g1 ?_
  have hu:=tu96
  have hsx:((st.bind (tokK ts 2)).getD []).length < 2 ^ 20∧(∀ b∈(st.bind (tokK ts 2)).getD [],isDig b=true∨b=46)∧∀ b r,(st.bind (tokK ts 2)).getD []=b :: r→isDig b=true:=by
   cases hq:st.bind (tokK ts 2) with
   | none=>simp
   | some s =>
     obtain ⟨a,_,ha⟩:=Option.bind_eq_some_iff.1 hq
     obtain ⟨t,t1,t2,rfl⟩:=tokK_ok ha
     have:=hn a t t1
     exact ⟨this.1,(this.2 t2).1,(this.2 t2).2⟩
  obtain ⟨x,e,K2,hx,hp,hcall⟩:=c_atoiG (hg.trans g2.rd.pre) (by have:=hsx.1;omega) hsx.2.2 hsx.2.1
  refine bndC_of hcall ?_
  have hadv:Adv H K K2 rb lv ts (st.bind (takeO ts 2)):=by obtain ⟨X,rfl⟩:=hp;exact g2.app X
  obtain ⟨a1,c1,c2,c3,c4⟩:=RdS.cells hadv.rd
  have hcc:hcells K2 rb=some [lv,i64 a1,.bool (st.bind (takeO ts 2)).isSome]:=by rw [hcells_eq,c1];rfl
  have hll:Vi.hlen K2 rb=some 3:=by unfold Vi.hlen;rw [c1];rfl
  have hfin:∀ (is:Bool),((st.bind (takeO ts 2)).isSome && is)=(st.bind (winO ts)).isSome→Adv H K (K2.set rb (.cells [lv,i64 a1,.bool ((st.bind (takeO ts 2)).isSome && is)] 63)) rb lv ts ((st.bind (winO ts)).map (·.2)):=by
   intro is his
   have:=hadv.trans (c4 ((st.bind (takeO ts 2)).isSome && is))
   rw [his] at this ⊢
   cases hw:st.bind (winO ts) with
   | none=>simpa [hw] using this
   | some p =>
     simp only [hw,Option.isSome_some,if_true,Option.map_some] at this ⊢
     obtain ⟨a,rfl,ha⟩:=Option.bind_eq_some_iff.1 hw
     have:a1=p.2:=by
      unfold winO at ha
      obtain ⟨s,h1,h2⟩:=Option.bind_eq_some_iff.1 ha
      obtain ⟨n,h3,h4⟩:=Option.bind_eq_some_iff.1 h2
      split at h4
      · cases h4
        exact c3 _ (by simp [takeO,h1])
      · cases h4
     rwa [← this]
  have hwin:∀ p,st.bind (winO ts)=some p→(st.bind (takeO ts 2)).isSome=true∧atoF ((st.bind (tokK ts 2)).getD [])=some p.1∧1≤p.1∧p.1≤1000:=by
   intro p hp
   obtain ⟨a,rfl,ha⟩:=Option.bind_eq_some_iff.1 hp
   unfold winO at ha
   obtain ⟨s,h1,h2⟩:=Option.bind_eq_some_iff.1 ha
   obtain ⟨n,h3,h4⟩:=Option.bind_eq_some_iff.1 h2
   split at h4
   · rename_i hc;cases h4;exact ⟨by simp [takeO,h1],by simp [h1,h3],hc.1,hc.2⟩
   · cases h4
  have hback:∀ n,(st.bind (takeO ts 2)).isSome=true→atoF ((st.bind (tokK ts 2)).getD [])=some n→1≤n→n≤1000→(st.bind (winO ts)).isSome=true:=by
   intro n h1 h2 h3 h4
   obtain ⟨b,hb⟩:=Option.isSome_iff_exists.1 h1
   obtain ⟨a,rfl,ha⟩:=Option.bind_eq_some_iff.1 hb
   unfold takeO at ha
   obtain ⟨s,hs,_⟩:=Option.map_eq_some_iff.1 ha
   simp only [Option.bind_some,hs,Option.getD_some] at h2
   simp [winO,hs,h2,h3,h4]
  have hpn:∀ n,(∀ p,st.bind (winO ts)=some p→p.1=n)↔(∀ p,st.bind (winO ts)=some p→p.1=n):=fun _=>Iff.rfl
  generalize hb0:(st.bind (takeO ts 2)).isSome=b0 at hcc c1 hfin hwin hback
  cases b0 with
  | false =>
    have hno:(st.bind (winO ts)).isSome=false:=by
     cases hq:st.bind (winO ts) with
     | none=>rfl
     | some p=>exact absurd (hwin p hq).1 (by simp)
    have hf:=hfin false (by simp [hno])
    have hq:∀ p,st.bind (winO ts)=some p→p.1=x:=fun p hp=>absurd (hwin p hp).1 (by simp)
    simp [hcc,hll,c1]
    exact ⟨by simpa using hf,by simpa using hq⟩
  | true =>
    rcases hx with ⟨n,h1,rfl,rfl⟩ | ⟨h1,t,p,rfl⟩
    · have hf:=hfin (decide (1≤x) && decide (x≤1000)) (by
       cases hq:st.bind (winO ts) with
       | none =>
         cases hd:(decide (1≤x) && decide (x≤1000)) with
         | false=>rfl
         | true =>
           simp only [Bool.and_eq_true,decide_eq_true_eq] at hd
           have:=hback x rfl h1 hd.1 hd.2
           rw [hq] at this;cases this
       | some p =>
         have:=hwin p hq
         rw [h1] at this
         obtain ⟨_,e,h3,h4⟩:=this
         cases e
         simp [h3,h4])
      have hq:∀ p,st.bind (winO ts)=some p→p.1=x:=fun p hp=>by
       have:=(hwin p hp).2.1
       rw [h1] at this;cases this;rfl
      simp +contextual [hcc,hll,c1,aBin_nilif hu]
      exact ⟨by simpa using hf,by simpa using hq⟩
    · have hno:(st.bind (winO ts)).isSome=false:=by
       cases hq:st.bind (winO ts) with
       | none=>rfl
       | some p=>have:=(hwin p hq).2.1;rw [h1] at this;cases this
      have hf:=hfin false (by simp [hno])
      have hq:∀ p,st.bind (winO ts)=some p→p.1=x:=fun p hp=>by
       rw [hp] at hno;cases hno
      simp [hcc,hll,c1,aBin_ifnil hu]
      exact ⟨by simpa using hf,by simpa using hq⟩
 obtain ⟨u,K',⟨n,rfl,h⟩,hy⟩:=key
 exact ⟨n,K',hy,h⟩
theorem Adv.fin {H K K2 rb lv ts stT} (h:Adv H K K2 rb lv ts stT):∃ a1:Nat,K2[rb]?=some (.cells [lv,i64 a1,.bool stT.isSome] 63)∧hcells K2 rb=some [lv,i64 a1,.bool stT.isSome]∧hlen K2 rb=some 3 ∧
  ∀ (stW:Option Nat) (is:Bool),(stT.isSome && is)=stW.isSome→(∀ a',stW=some a'→stT=some a')→Adv H K (K2.set rb (.cells [lv,i64 a1,.bool (stT.isSome && is)] 63)) rb lv ts stW:=by
 obtain ⟨a1,c1,c2,c3,c4⟩:=RdS.cells h.rd
 refine ⟨a1,c1,by rw [hcells_eq,c1];rfl,by unfold Vi.hlen;rw [c1];rfl,fun stW is his hw=>?_⟩
 have:=h.trans (c4 (stT.isSome && is))
 rw [his] at this ⊢
 cases stW with
 | none=>simpa using this
 | some a' =>
   have e:=c3 a' (hw a' rfl)
   subst e
   simpa using this
def valP (ts:List Tok) (a:Nat):List UInt8:=if isT ts a 4 [45]=true then [45] else []
def valO (ts:List Tok) (a:Nat):Option (Int × Nat):=(tokK ts 2 (takO ts 4 [45] a)).bind fun s=>if (parF (valP ts a++s)).2=0 then some ((parF (valP ts a++s)).1,takO ts 4 [45] a+1) else none
theorem g_value {H K rb lv ts st} (hn:NumTok ts) (h:RdS H K rb lv ts st) :
  ∃ n K',ACalls prog 66 [rP rb] K (i64 n) K'∧Adv H K K' rb lv ts ((st.bind (valO ts)).map (·.2))∧∀ p,st.bind (valO ts)=some p→p.1=n:=by
 have key:∃ u K',(∃ n,u=i64 n∧Adv H K K' rb lv ts ((st.bind (valO ts)).map (·.2))∧∀ p,st.bind (valO ts)=some p→p.1=n)∧ACalls prog 66 [rP rb] K u K':=by
  refine acalls_ex MixT func66 (by decide) ?_
  rw [d66]
  obtain ⟨K1,g1,g2⟩:=g_takes h 4 [45]
  refine bndC_of g1 ?_
  have tail:∀ (pre:List UInt8),pre.length≤1→(∀ a,st=some a→pre=valP ts a)→∀ (C D E F G I J L c d e f g i j k l m o q r v w z A B:Value),
    S66x0 (fun u K'=>∃ n,u=i64 n∧Adv H K K' rb lv ts ((st.bind (valO ts)).map (·.2))∧∀ p,st.bind (valO ts)=some p→p.1=n) [rP rb,C,D,str pre,E,F,G,I,J,L,c,d,e,f,g,i,j,k,l,m,o,q,r,v,w,z,A,B] K1:=by
   intro pre hp1 hpre C D E F G I J L c d e f g i j k l m o q r v w z A B
   rw [S66x0q]
   obtain ⟨K2,q1,q2⟩:=g_take g2.rd 2
   refine bndC_of q1 ?_
   have hlen:(((st.map (takO ts 4 [45])).bind (tokK ts 2)).getD []).length < 2 ^ 20:=by
    cases hq:(st.map (takO ts 4 [45])).bind (tokK ts 2) with
    | none=>simp
    | some s =>
      obtain ⟨a,_,ha⟩:=Option.bind_eq_some_iff.1 hq
      obtain ⟨t,t1,t2,rfl⟩:=tokK_ok ha
      exact (hn a t t1).1
   have e1:=fun H X Y=>aBin_str (P:=prog) (H:=H) (T:=9) (x:=X) (y:=Y) (a:=pre) (b:=((st.map (takO ts 4 [45])).bind (tokK ts 2)).getD []) (by omega)
   simp only [e1,bnd_some]
   refine bndC_of (c_fixParse (by simp;omega)) ?_
   obtain ⟨a1,c1,hcc,hll,hfin⟩:=(g2.trans q2).fin
   generalize hs:((st.map (takO ts 4 [45])).bind (tokK ts 2)).getD []=s at *
   have hval:∀ p,st.bind (valO ts)=some p→p.1=(parF (pre++s)).1∧(parF (pre++s)).2=0∧(st.map (takO ts 4 [45])).bind (takeO ts 2)=some p.2:=by
    intro p hp
    obtain ⟨a,rfl,ha⟩:=Option.bind_eq_some_iff.1 hp
    unfold valO at ha
    obtain ⟨s',h1,h2⟩:=Option.bind_eq_some_iff.1 ha
    rw [hpre a rfl]
    simp only [Option.map_some,Option.bind_some,h1,Option.getD_some] at hs
    subst hs
    split at h2
    · rename_i h0;cases h2;exact ⟨rfl,h0,by simp [takeO,h1]⟩
    · cases h2
   have hback:((st.map (takO ts 4 [45])).bind (takeO ts 2)).isSome=true→(parF (pre++s)).2=0→(st.bind (valO ts)).isSome=true:=by
    intro h1 h2
    obtain ⟨b,hb⟩:=Option.isSome_iff_exists.1 h1
    obtain ⟨a',ha',hb'⟩:=Option.bind_eq_some_iff.1 hb
    obtain ⟨a,rfl,rfl⟩:=Option.map_eq_some_iff.1 ha'
    unfold takeO at hb'
    obtain ⟨s',hs',_⟩:=Option.map_eq_some_iff.1 hb'
    simp only [Option.map_some,Option.bind_some,hs',Option.getD_some] at hs
    subst hs
    rw [hpre a rfl] at h2
    simp [valO,hs',h2]
   have hq:∀ p,st.bind (valO ts)=some p→p.1=(parF (pre++s)).1:=fun p hp=>(hval p hp).1
   have hf:=hfin ((st.bind (valO ts)).map (·.2)) ((parF (pre++s)).2 == 0) (by
    cases hv:st.bind (valO ts) with
    | some p=>obtain ⟨_,e2,e3⟩:=hval p hv;simp [e2,e3]
    | none =>
      cases h1:((st.map (takO ts 4 [45])).bind (takeO ts 2)).isSome with
      | false=>rfl
      | true =>
        by_cases h2:(parF (pre++s)).2=0
        · have:=hback h1 h2;rw [hv] at this;cases this
        · simp [h2]) (by
    intro a' ha'
    obtain ⟨p,hp,rfl⟩:=Option.map_eq_some_iff.1 ha'
    exact (hval p hp).2.2)
   generalize ((st.map (takO ts 4 [45])).bind (takeO ts 2)).isSome=b0 at *
   cases b0 with
   | false =>
     simp [hcc,hll,c1]
     exact ⟨by simpa using hf,by simpa using hq⟩
   | true =>
     simp [hcc,hll,c1]
     exact ⟨by simpa using hf,by simpa using hq⟩
  refine kifB_bool (fun hb=>?_) (fun hb=>?_)
  · refine tail [45] (by simp) (fun a ha=>?_) _ _ _ _ _ _ _ _ _ _ _ _ _ _ _ _ _ _ _ _ _ _ _ _ _ _
    rw [ha] at hb
    simp at hb
    simp [valP,hb]
  · refine tail [] (by simp) (fun a ha=>?_) _ _ _ _ _ _ _ _ _ _ _ _ _ _ _ _ _ _ _ _ _ _ _ _ _ _
    rw [ha] at hb
    simp at hb
    simp [valP,hb]
 obtain ⟨u,K',⟨n,rfl,h⟩,hy⟩:=key
 exact ⟨n,K',hy,h⟩
end Go.Vi
namespace Go.Vi
open Go Go.Proofs Go.Proofs.Tryz
def opsL:List (List UInt8):=[[61],[33,61],[94,61]]
theorem c_ops (H:AHeap):ACalls prog 92 [] H (.slice (some ⟨H.length,0,some 3⟩) 3 3) (H++[.cells (opsL.map str) 9]):=by
 refine acalls_of MixT func92 (by decide) ?_
 rw [d92]
 exact bndL_of (by decide) (by kernel_rfl) ⟨rfl,rfl⟩
theorem mael1:aElem prog 87=some (153,3,40):=by kernel_rfl
theorem mael2:isSeq prog 87=true:=by kernel_rfl
theorem mat_lit {K:AHeap} (m:Mat):sliceLit prog K 87 1 [(0,.agg m.cells.toArray)] (.slice (some ⟨K.length,0,some 3⟩) 1 1) (K++[.cells m.cells 153]) :=
 sliceLitA (c:=m.cells) (tbs87 K 1 _) (by rfl) (by simp [Mat.cells]) (by simp)
def matO (ts:List Tok) (a:Nat):Option (Mat × Nat):=(tokK ts 1 a).bind fun n=>(tokK ts 4 (a+1)).bind fun o=>if o∈opsL then (tokK ts 3 (a+2)).bind fun v=>some (⟨n,idxS opsL o,v⟩,a+3) else none
def selL (ts:List Tok):Nat→Nat→List Mat→Option (List Mat × Nat)
 | 0,_,_=>none
 | f+1,a,acc=>(matO ts a).bind fun p=>if isT ts p.2 4 [44]=true then selL ts f (p.2+1) (acc++[p.1]) else some (acc++[p.1],p.2)
def selE (ts:List Tok) (ms:List Mat) (a:Nat):Option Nat:=(signO ts [125] a).bind fun c=>if mayMats ms=true then some c else none
def selO (ts:List Tok) (a:Nat):Option (List Mat × Nat):=(signO ts [123] a).bind fun a1 =>
 if isT ts a1 4 [125]=true then some ([],a1+1) else (selL ts (ts.length+1) a1 []).bind fun p=>(selE ts p.1 p.2).map fun c=>(p.1,c)
theorem sel_end {H K0 K rb lv ts st lo} {mv:Value} {ms:List Mat} {more:Bool} {k:Value→AHeap→Prop} (h:Adv H K0 K rb lv ts st) (hg:Gro K lo 3 153 mv (ms.map Mat.cells)) (hrb:rb < lo) (hml:ms.length < 2 ^ 62) (hm:(more && st.isSome)=false)
  (hk:∀ K',Adv H K0 K' rb lv ts (st.bind (selE ts ms))→Gro K' lo 3 153 mv (ms.map Mat.cells)→k mv K') (n:Nat) (U V W X Y Z s9 d g i j l m p r s t u w x y z A B C D E F G I J L M N O P Q R S T:Value) :
  L63x0 (n+1) k [rP rb,U,V,mv,.bool more,W,X,Y,Z,s9,d,g,i,j,l,m,p,r,s,t,u,w,x,y,z,A,B,C,D,E,F,G,I,J,L,M,N,O,P,Q,R,S,T] K:=by
 rw [L63x0q]
 obtain ⟨a0,c0,hcc0,hll0,_⟩:=h.fin
 obtain ⟨K1,g1,g2⟩:=g_sign h.rd [125]
 have h2:=h.trans g2
 have hg1:Gro K1 lo 3 153 mv (ms.map Mat.cells):=hg.frm fun b o hb ho=>g2.fr b o (by omega) ho
 obtain ⟨a1,c1,hcc,hll,hfin⟩:=h2.fin
 have rest:bndC prog 35 [rP rb,str [125]] K (q:=⟨fun _ _=>True⟩):=bndC_of g1 trivial
 have hmm:MatsAt K1 mv ms:=hg1.arr
 have hf:=hfin (st.bind (selE ts ms)) (mayMats ms) (by
  cases st with
  | none=>rfl
  | some a =>
    simp only [Option.bind_some,selE]
    cases signO ts [125] a with
    | none=>rfl
    | some c=>cases mayMats ms<;>simp) (by
  intro a' ha'
  cases st with
  | none=>cases ha'
  | some a =>
    simp only [Option.bind_some,selE] at ha' ⊢
    cases hs:signO ts [125] a with
    | none=>simp [hs] at ha'
    | some c =>
      simp only [hs,Option.bind_some] at ha'
      split at ha'
      · exact ha'
      · cases ha')
 have hfg:∀ ok',Gro (K1.set rb (.cells [lv,i64 a1,.bool ok'] 63)) lo 3 153 mv (ms.map Mat.cells):=fun ok'=>hg1.set (by omega)
 clear rest
 generalize (st.bind (signO ts [125])).isSome=b0 at *
 have go:∀ (q:QH),(∀ v,q.f v K1)→@bndC prog 35 [rP rb,str [125]] K q:=fun q hq=>bndC_of g1 (hq _)
 have tail:∀ (kk:Value→AHeap→Prop),kk=k→(kk mv (K1.set rb (.cells [lv,i64 a1,.bool (b0 && mayMats ms)] 63))):=fun kk e=>by rw [e];exact hk _ hf (hfg _)
 cases more with
 | false =>
   simp
   refine bndC_of g1 ?_
   cases b0 with
   | false=>simp [hcc,hll,c1];simpa using tail k rfl
   | true =>
     simp [hcc,hll]
     refine bndG_call (.bool (mayMats ms)) (fun _=>c_matchMay hmm (by omega)) ?_
     simp [hll,c1]
     simpa using tail k rfl
 | true =>
   have hst:st.isSome=false:=by simpa using hm
   rw [hst] at hcc0 c0
   simp [hcc0,hll0]
   refine bndC_of g1 ?_
   cases b0 with
   | false=>simp [hcc,hll,c1];simpa using tail k rfl
   | true =>
     simp [hcc,hll]
     refine bndG_call (.bool (mayMats ms)) (fun _=>c_matchMay hmm (by omega)) ?_
     simp [hll,c1]
     simpa using tail k rfl
theorem sel_loop {H K0 rb lv ts lo} {k:Value→AHeap→Prop} (hrb:rb < lo) (hK0:K0.length≤lo) (hH:H.length≤lo):∀ (f:Nat) (a:Nat) (acc:List Mat) (K:AHeap) (mv:Value),Adv H K0 K rb lv ts (some a)→lo≤K.length→Gro K lo 3 153 mv (acc.map Mat.cells)→ts.length < f+a→acc.length+f≤2 ^ 41 →
  (∀ sv ms K',Adv H K0 K' rb lv ts ((selL ts f a acc).bind fun p=>selE ts p.1 p.2)→Gro K' lo 3 153 sv (ms.map Mat.cells)→(∀ p,selL ts f a acc=some p→p.1=ms)→ms.length≤2 ^ 41→k sv K') →
  ∃ n,∀ (W Y Z s6 s7 s8 s9 d e g i j l q r s t u w y z A B C D E F G I J L M N O Q R S T U V:Value),L63x0 n k [rP rb,W,Y,mv,.bool true,Z,s6,s7,s8,s9,d,e,g,i,j,l,q,r,s,t,u,w,y,z,A,B,C,D,E,F,G,I,J,L,M,N,O,Q,R,S,T,U,V] K:=by
 intro f
 induction f with
 | zero=>intro a acc K mv h _ _ hf _ _;have:=h.rd.le;omega
 | succ f ih =>
   intro a acc K mv h hlo hg hf hacc hk
   obtain ⟨a0,c0,hcc0,hll0,_⟩:=h.fin
   obtain ⟨K1,g1,g2⟩:=g_take h.rd 1
   have hops:=c_ops K1
   have v2:=g2.app [.cells (opsL.map str) 9]
   have harr:Arr (K1++[.cells (opsL.map str) 9]) 1 (.slice (some ⟨K1.length,0,some 3⟩) 3 3) (strCells opsL):=arr_strs opsL 9 3 rfl
   obtain ⟨K3,p1,p2⟩:=g_one v2.rd 4 harr (by decide) (by decide) (by decide)
   obtain ⟨K4,q1,q2⟩:=g_take p2.rd 3
   have adv4:=((v2.trans p2).trans q2)
   have hst:(((some a).bind (takeO ts 1)).bind (oneO ts 4 opsL)).bind (takeO ts 3)=(matO ts a).map (·.2)∧(∀ p,matO ts a=some p→p.1=⟨((some a).bind (tokK ts 1)).getD [],idxS opsL ((((some a).bind (takeO ts 1)).bind (tokK ts 4)).getD []),((((some a).bind (takeO ts 1)).bind (oneO ts 4 opsL)).bind (tokK ts 3)).getD []⟩):=by
    unfold matO takeO oneO
    simp only [Option.bind_some]
    cases tokK ts 1 a with
    | none=>simp
    | some n =>
      simp only [Option.map_some,Option.bind_some]
      cases tokK ts 4 (a+1) with
      | none=>simp
      | some o =>
        simp only [Option.bind_some]
        by_cases ho:o∈opsL
        · simp only [if_pos ho,Option.bind_some]
          cases tokK ts 3 (a+1+1) with
          | none=>simp
          | some v=>simp
        · simp [if_neg ho]
   generalize ((some a).bind (tokK ts 1)).getD []=t1 at *
   generalize (((some a).bind (takeO ts 1)).bind (tokK ts 4)).getD []=t2 at *
   generalize ((((some a).bind (takeO ts 1)).bind (oneO ts 4 opsL)).bind (tokK ts 3)).getD []=t3 at *
   rw [hst.1] at q2 adv4
   have hm:=hst.2
   obtain ⟨v',K5,r1,r2,r3,r4,r5⟩:=Gro.push (P:=prog) (Ts:=87) (by_:=40) (x:=.slice (some ⟨K4.length,0,some 3⟩) 1 1) (c:=Mat.cells ⟨t1,idxS opsL t2,t3⟩)
    ((hg.frm fun b o hb ho=>adv4.fr b o (by omega) ho).app (X:=[.cells (Mat.cells ⟨t1,idxS opsL t2,t3⟩) 153])) mael1 mael2 rfl (by have:=adv4.len;simp;omega) (by simp [aSrc,Mat.cells]) (by simp;omega) (by simp;omega)
   have a0':=(h.trans adv4).app [.cells (Mat.cells ⟨t1,idxS opsL t2,t3⟩) 153]
   have adv5:Adv H K0 K5 rb lv ts ((matO ts a).map (·.2)) :=
    ⟨a0'.rd.frame (r5 H a0'.rd.pre hH) fun o ho=>r3 rb o hrb ho,fun b o hb ho=>r3 b o (by have:=(List.getElem?_eq_some_iff.1 ho).1;omega) (a0'.fr b o hb ho),by have:=a0'.len;omega⟩
   obtain ⟨K6,u1,u2⟩:=g_takes adv5.rd 4 [44]
   have adv6:=adv5.trans u2
   have r6:=r2.frm (K':=K6) fun b o hb ho=>u2.fr b o (by omega) ho
   have hlo6:lo≤K6.length:=by have:=u2.len;have:=adv4.len;simp at r4;omega
   rw [show acc.map Mat.cells++[Mat.cells ⟨t1,idxS opsL t2,t3⟩]=(acc++[(⟨t1,idxS opsL t2,t3⟩:Mat)]).map Mat.cells by simp] at r2 r6
   have next:∃ n,∀ (W Y Z s6 s7 s8 s9 d e g i j l q r s t u w y z A B C D E F G I J L M N O Q R S T U V:Value),L63x0 n k [rP rb,W,Y,v',.bool (((matO ts a).map (·.2)).any fun a=>isT ts a 4 [44]),Z,s6,s7,s8,s9,d,e,g,i,j,l,q,r,s,t,u,w,y,z,A,B,C,D,E,F,G,I,J,L,M,N,O,Q,R,S,T,U,V] K6:=by
    cases hmo:matO ts a with
    | none =>
      simp only [hmo,Option.map_none,Option.any_none] at adv6 ⊢
      refine ⟨1,fun W Y Z s6 s7 s8 s9 d e g i j l q r s t u w y z A B C D E F G I J L M N O Q R S T U V=>sel_end adv6 r6 hrb (by simp;omega) rfl (fun K' e1 e2=>?_) 0 _ _ _ _ _ _ _ _ _ _ _ _ _ _ _ _ _ _ _ _ _ _ _ _ _ _ _ _ _ _ _ _ _ _ _ _ _ _ _ _⟩
      refine hk _ _ K' ?_ e2 ?_ (by simp;omega)
      · simpa [selL,hmo] using e1
      · intro p hp;simp [selL,hmo] at hp
    | some mc =>
      obtain ⟨m,c⟩:=mc
      obtain rfl:=hm _ hmo
      simp only [hmo,Option.map_some,Option.any_some,takO] at adv6 ⊢
      cases hcm:isT ts c 4 [44] with
      | true =>
        simp only [hcm,if_true] at adv6
        have hca:a+3=c:=by
         unfold matO at hmo
         obtain ⟨_,_,h2⟩:=Option.bind_eq_some_iff.1 hmo
         obtain ⟨_,_,h3⟩:=Option.bind_eq_some_iff.1 h2
         split at h3
         · obtain ⟨_,_,h4⟩:=Option.bind_eq_some_iff.1 h3;exact congrArg Prod.snd (Option.some.inj h4)
         · cases h3
        refine ih (c+1) _ K6 v' adv6 hlo6 r6 (by omega) (by simp;omega) fun sv ms K' e1 e2 e3 e4=>hk sv ms K' ?_ e2 ?_ e4
        · simpa [selL,hmo,hcm] using e1
        · intro p hp;exact e3 p (by simpa [selL,hmo,hcm] using hp)
      | false =>
        simp only [hcm,Bool.false_eq_true,if_false] at adv6
        refine ⟨1,fun W Y Z s6 s7 s8 s9 d e g i j l q r s t u w y z A B C D E F G I J L M N O Q R S T U V=>sel_end adv6 r6 hrb (by simp;omega) rfl (fun K' e1 e2=>?_) 0 _ _ _ _ _ _ _ _ _ _ _ _ _ _ _ _ _ _ _ _ _ _ _ _ _ _ _ _ _ _ _ _ _ _ _ _ _ _ _ _⟩
        refine hk _ _ K' ?_ e2 ?_ (by simp;omega)
        · simpa [selL,hmo,hcm] using e1
        · intro p hp
          simp [selL,hmo,hcm] at hp
          rw [← hp]
   obtain ⟨n,hn⟩:=next
   refine ⟨n+1,fun W Y Z s6 s7 s8 s9 d e g i j l q r s t u w y z A B C D E F G I J L M N O Q R S T U V=>?_⟩
   rw [L63x0q]
   simp [hcc0,hll0]
   refine bndC_of g1 ?_
   refine bndC_of hops ?_
   refine bndC_of p1 ?_
   refine bndC_of q1 ?_
   have hlit:=mat_lit (K:=K4) ⟨t1,idxS opsL t2,t3⟩
   simp only [Mat.cells] at hlit r1
   simp
   refine bndL_lit hlit ?_
   dsimp only
   rw [r1]
   simp only [bndE_some]
   refine bndC_of u1 ?_
   exact hn _ _ _ _ _ _ _ _ _ _ _ _ _ _ _ _ _ _ _ _ _ _ _ _ _ _ _ _ _ _ _ _ _ _ _ _ _ _ _ _
theorem g_selects {H K rb lv ts st} (h:RdS H K rb lv ts st) :
  ∃ sv ms K',ACalls prog 63 [rP rb] K sv K'∧Adv H K K' rb lv ts ((st.bind (selO ts)).map (·.2))∧Gro K' K.length 3 153 sv (ms.map Mat.cells)∧(∀ p,st.bind (selO ts)=some p→p.1=ms)∧ms.length≤2 ^ 41:=by
 have key:∃ sv K',(∃ ms,Adv H K K' rb lv ts ((st.bind (selO ts)).map (·.2))∧Gro K' K.length 3 153 sv (ms.map Mat.cells)∧(∀ p,st.bind (selO ts)=some p→p.1=ms)∧ms.length≤2 ^ 41)∧ACalls prog 63 [rP rb] K sv K':=by
  refine acalls_ex MixT func63 (by decide) ?_
  rw [d63]
  obtain ⟨K1,g1,g2⟩:=g_sign h [123]
  refine bndC_of g1 ?_
  obtain ⟨K2,p1,p2⟩:=g_takes g2.rd 4 [125]
  refine bndC_of p1 ?_
  have adv:=g2.trans p2
  have hrb:=h.lt
  have hlen:=h.len
  have hH:H.length≤K.length:=by obtain ⟨X,hX⟩:=h.pre;rw [hX];simp
  refine kifB_bool (fun hb=>?_) (fun hb=>?_)
  · cases st with
    | none=>cases hb
    | some a =>
      simp only [Option.bind_some] at hb adv ⊢
      cases hs:signO ts [123] a with
      | none=>simp [hs] at hb
      | some a1 =>
        simp only [hs,Option.any_some,Option.map_some,takO] at hb adv
        rw [hb,if_pos rfl] at adv
        exact ⟨[],by simpa [selO,hs,hb] using adv,.nil,by simp [selO,hs,hb],by simp⟩
  · cases hs:st.bind (signO ts [123]) with
    | none =>
      rw [hs] at adv
      have hno:st.bind (selO ts)=none:=by
       cases st with
       | none=>rfl
       | some a=>simp only [Option.bind_some] at hs ⊢;simp [selO,hs]
      refine ⟨1,sel_end (ms:=[]) (lo:=K.length) adv .nil hrb (by simp) (by simp) (fun K' e1 e2=>?_) 0 _ _ _ _ _ _ _ _ _ _ _ _ _ _ _ _ _ _ _ _ _ _ _ _ _ _ _ _ _ _ _ _ _ _ _ _ _ _ _ _⟩
      exact ⟨[],by simpa [hno] using e1,e2,by simp [hno],by simp⟩
    | some a1 =>
      rw [hs] at adv hb
      simp only [Option.any_some] at hb
      simp only [Option.map_some,takO,hb,Bool.false_eq_true,if_false] at adv
      obtain ⟨a,rfl,ha⟩:=Option.bind_eq_some_iff.1 hs
      have hso:selO ts a=(selL ts (ts.length+1) a1 []).bind fun p=>(selE ts p.1 p.2).map fun c=>(p.1,c):=by
       simp [selO,ha,hb]
      obtain ⟨n,hn⟩:=sel_loop (lo:=K.length) (k:=fun sv K'=>∃ ms,Adv H K K' rb lv ts (((some a).bind (selO ts)).map (·.2))∧Gro K' K.length 3 153 sv (ms.map Mat.cells)∧(∀ p,(some a).bind (selO ts)=some p→p.1=ms)∧ms.length≤2 ^ 41) hrb (Nat.le_refl _) hH (ts.length+1) a1 [] K2 (.slice none 0 0) adv adv.len .nil (by omega) (by simp;omega) (by
       intro sv ms K' e1 e2 e3 e4
       refine ⟨ms,?_,e2,?_,e4⟩
       · simp only [Option.bind_some,hso]
         cases hl:selL ts (ts.length+1) a1 [] with
         | none=>simpa [hl] using e1
         | some p =>
           simp only [hl,Option.bind_some] at e1 ⊢
           cases he:selE ts p.1 p.2 with
           | none=>simpa [he] using e1
           | some c=>simpa [he] using e1
       · intro p hp
         simp only [Option.bind_some,hso] at hp
         obtain ⟨q,h1,h2⟩:=Option.bind_eq_some_iff.1 hp
         obtain ⟨c,_,rfl⟩:=Option.map_eq_some_iff.1 h2
         exact e3 q h1)
      exact ⟨n,hn _ _ _ _ _ _ _ _ _ _ _ _ _ _ _ _ _ _ _ _ _ _ _ _ _ _ _ _ _ _ _ _ _ _ _ _ _ _ _ _⟩
 obtain ⟨sv,K',⟨ms,h⟩,hy⟩:=key
 exact ⟨sv,ms,K',hy,h⟩
end Go.Vi
namespace Go.Vi
open Go Go.Proofs Go.Proofs.Tryz
structure CmpG (H K L:AHeap) (rb:Nat) (lv:Value) (ts:List Tok) (st:Option Nat) (b0 b1:Nat) (n:List Value):Prop where
 rd:RdS H L rb lv ts st
 f0:L[b0]?=some (.cells nodZ 89)
 f1:L[b1]?=some (.cells n 89)
 fr:∀ (b:Nat) o,b≠rb→K[b]?=some o→L[b]?=some o
 len:K.length≤L.length
 hH:H.length≤K.length
 k0:rb < K.length
 k1:K.length≤b0
 k2:K.length≤b1
 k3:b0≠b1
theorem CmpG.adv {H K L L' rb lv ts st st' b0 b1 n} (h:CmpG H K L rb lv ts st b0 b1 n) (a:Adv H L L' rb lv ts st'):CmpG H K L' rb lv ts st' b0 b1 n :=
 ⟨a.rd,a.fr _ _ (by have:=h.k0;have:=h.k1;omega) h.f0,a.fr _ _ (by have:=h.k0;have:=h.k2;omega) h.f1,fun b o hb ho=>a.fr b o hb (h.fr b o hb ho),Nat.le_trans h.len a.len,h.hH,h.k0,h.k1,h.k2,h.k3⟩
theorem CmpG.app {H K L rb lv ts st b0 b1 n} (h:CmpG H K L rb lv ts st b0 b1 n) (X:AHeap):CmpG H K (L++X) rb lv ts st b0 b1 n:=h.adv ((Adv.refl h.rd).app X)
theorem CmpG.sto {H K L rb lv ts st b0 b1 n} (h:CmpG H K L rb lv ts st b0 b1 n) (n':List Value):CmpG H K (L.set b1 (.cells n' 89)) rb lv ts st b0 b1 n':=by
 have h0:=h.hH;have h1:=h.k0;have h2:=h.k1;have h3:=h.k2
 have hb1:=(List.getElem?_eq_some_iff.1 h.f1).1
 refine ⟨h.rd.frame (h.rd.pre.set (by omega)) fun o ho=>by rw [List.getElem?_set_ne (by omega)];exact ho,by rw [List.getElem?_set_ne (Ne.symm h.k3)];exact h.f0,by rw [List.getElem?_set_self hb1],fun b o hb ho=>?_,by simpa using h.len,h.hH,h.k0,h.k1,h.k2,h.k3⟩
 have hbk:=(List.getElem?_eq_some_iff.1 ho).1
 rw [List.getElem?_set_ne (by omega)]
 exact h.fr b o hb ho
theorem CmpG.fin {H K L rb lv ts st b0 b1 n} (h:CmpG H K L rb lv ts st b0 b1 n) (n':List Value):Adv H K (L.set b0 (.cells n' 89)) rb lv ts st:=by
 have h0:=h.hH;have h1:=h.k0;have h2:=h.k1;have h3:=h.k2
 refine ⟨h.rd.frame (h.rd.pre.set (by omega)) fun o ho=>by rw [List.getElem?_set_ne (by omega)];exact ho,fun b o hb ho=>?_,by simpa using h.len⟩
 have hbk:=(List.getElem?_eq_some_iff.1 ho).1
 rw [List.getElem?_set_ne (by omega)]
 exact h.fr b o hb ho
theorem CmpG.hl {H K L rb lv ts st b0 b1 n} (h:CmpG H K L rb lv ts st b0 b1 n):hlen L b1=some n.length:=by unfold hlen;rw [h.f1];rfl
theorem CmpG.hc {H K L rb lv ts st b0 b1 n} (h:CmpG H K L rb lv ts st b0 b1 n):hcells L b1=some n:=by rw [hcells_eq,h.f1];rfl
def txtK (ts:List Tok) (k:Int) (a:Nat):List UInt8:=(tokK ts k a).getD []
def cmpO (ts:List Tok) (a:Nat):Option (Nod × Nat):=(oneO ts 1 aggs a).bind fun b1=>(signO ts [40] b1).bind fun b2=>(selO ts b2).bind fun p=>(signO ts [91] p.2).bind fun b3=>(winO ts b3).bind fun w =>
 (signO ts [93] w.2).bind fun b4=>(signO ts [41] b4).bind fun b5=>(oneO ts 4 cmps b5).bind fun b6=>(valO ts b6).bind fun v =>
  some (⟨0,UInt8.ofNat (idxS aggs (txtK ts 1 a)),p.1,w.1,UInt8.ofNat (idxS cmps (txtK ts 4 b5)),v.1,0,0⟩,v.2)
theorem cmp_chain {ts:List Tok} {st b f c g d e:Option Nat} {ms:List Mat} {w x:Int} (e2:b=(st.bind (oneO ts 1 aggs)).bind (signO ts [40])) (e3:f=(b.bind (selO ts)).map (·.2)) (e4:c=f.bind (signO ts [91])) (e5:g=(c.bind (winO ts)).map (·.2))
  (e7:d=(g.bind (signO ts [93])).bind (signO ts [41])) (e8:e=d.bind (oneO ts 4 cmps)) (hm:∀ p,b.bind (selO ts)=some p→p.1=ms) (hw:∀ p,c.bind (winO ts)=some p→p.1=w) (hx:∀ p,e.bind (valO ts)=some p→p.1=x) :
  (e.bind (valO ts)).map (·.2)=(st.bind (cmpO ts)).map (·.2)∧∀ p,st.bind (cmpO ts)=some p→p.1=⟨0,UInt8.ofNat (idxS aggs ((st.bind (tokK ts 1)).getD [])),ms,w,UInt8.ofNat (idxS cmps ((d.bind (tokK ts 4)).getD [])),x,0,0⟩:=by
 cases st with
 | none=>subst e2 e3 e4 e5 e7 e8;simp
 | some a =>
   simp only [Option.bind_some] at e2 ⊢
   unfold cmpO
   cases h1:oneO ts 1 aggs a with
   | none=>simp only [h1] at e2;subst e2 e3 e4 e5 e7 e8;simp
   | some b1 =>
     simp only [h1,Option.bind_some] at e2 ⊢
     cases h2:signO ts [40] b1 with
     | none=>rw [h2] at e2;subst e2 e3 e4 e5 e7 e8;simp
     | some b2 =>
       rw [h2] at e2
       subst e2
       simp only [Option.bind_some] at e3 hm ⊢
       cases h3:selO ts b2 with
       | none=>rw [h3] at e3;subst e3 e4 e5 e7 e8;simp
       | some p =>
         rw [h3] at e3
         have hm:=hm _ h3
         subst e3
         simp only [Option.map_some,Option.bind_some] at e4 ⊢
         cases h4:signO ts [91] p.2 with
         | none=>rw [h4] at e4;subst e4 e5 e7 e8;simp
         | some b3 =>
           rw [h4] at e4
           subst e4
           simp only [Option.bind_some] at e5 hw ⊢
           cases h5:winO ts b3 with
           | none=>rw [h5] at e5;subst e5 e7 e8;simp
           | some ww =>
             rw [h5] at e5
             have hw:=hw _ h5
             subst e5
             simp only [Option.map_some,Option.bind_some] at e7 ⊢
             cases h6:signO ts [93] ww.2 with
             | none=>rw [h6] at e7;subst e7 e8;simp
             | some b4 =>
               simp only [h6,Option.bind_some] at e7 ⊢
               cases h7:signO ts [41] b4 with
               | none=>rw [h7] at e7;subst e7 e8;simp
               | some b5 =>
                 rw [h7] at e7
                 subst e7
                 simp only [Option.bind_some] at e8 ⊢
                 cases h8:oneO ts 4 cmps b5 with
                 | none=>rw [h8] at e8;subst e8;simp
                 | some b6 =>
                   rw [h8] at e8
                   subst e8
                   simp only [Option.bind_some] at hx ⊢
                   cases h9:valO ts b6 with
                   | none=>simp
                   | some v =>
                     have hx:=hx _ h9
                     simp [txtK,hm,hw,hx]
theorem u8_of {n:Nat} (h:n < 256):((UInt8.ofNat n).toNat:Int)=n:=by simp only [UInt8.toNat_ofNat'];omega
theorem g_comparison {H K rb lv ts st} (hg:Pre Gs H) (hn:NumTok ts) (h:RdS H K rb lv ts st) :
  ∃ n sv K',ACalls prog 36 [rP rb] K (.agg ((n:Nod).cells sv).toArray) K'∧Adv H K K' rb lv ts ((st.bind (cmpO ts)).map (·.2))∧Gro K' K.length 3 153 sv (n.sel.map Mat.cells)∧(∀ p,st.bind (cmpO ts)=some p→p.1=n)∧n.sel.length≤2 ^ 41:=by
 have key:∃ v K',(∃ (n:Nod) (sv:Value),v=.agg (n.cells sv).toArray∧Adv H K K' rb lv ts ((st.bind (cmpO ts)).map (·.2))∧Gro K' K.length 3 153 sv (n.sel.map Mat.cells)∧(∀ p,st.bind (cmpO ts)=some p→p.1=n)∧n.sel.length≤2 ^ 41)∧ACalls prog 36 [rP rb] K v K':=by
  refine acalls_ex MixT func36 (by decide) ?_
  rw [d36]
  simp
  refine bndC_of (c_aggregates _) ?_
  have hrb:=h.lt
  have hH:H.length≤K.length:=by obtain ⟨X,hX⟩:=h.pre;rw [hX];simp
  have v0:=(Adv.refl h).app [AObj.cells nodZ 89]
  have v1:=v0.app [AObj.cells (aggs.map str) 9]
  obtain ⟨K1,a1,a2⟩:=g_one v1.rd 1 (arr_strs aggs 9 6 rfl) (by decide) (by decide) (by decide)
  refine bndC_of a1 ?_
  have hz:K1[K.length]?=some (.cells nodZ 89):=a2.fr _ _ (by omega) (by simp)
  have hi1:idxS aggs ((st.bind (tokK ts 1)).getD []) < 6:=by
   unfold idxS;split
   · rename_i q;exact List.idxOf_lt_length_of_mem q
   · omega
  generalize hi:idxS aggs ((st.bind (tokK ts 1)).getD [])=i at hi1 ⊢
  have v2:=v1.trans a2
  have c0:CmpG H K (K1++[AObj.cells [.int .u8 0,.int .u8 i,.slice none 0 0,i64 0,.int .u8 0,i64 0,i64 0,i64 0] 89]) rb lv ts (st.bind (oneO ts 1 aggs)) K.length K1.length [.int .u8 0,.int .u8 i,.slice none 0 0,i64 0,.int .u8 0,i64 0,i64 0,i64 0] :=
   ⟨v2.rd.app _,get_more hz,by simp,fun b o hb ho=>get_more (v2.fr b o hb ho),by have:=v2.len;simp;omega,hH,hrb,Nat.le_refl _,v2.len,by have:=a2.len;simp at this;omega⟩
  simp
  generalize K1++[AObj.cells [.int .u8 0,.int .u8 i,.slice none 0 0,i64 0,.int .u8 0,i64 0,i64 0,i64 0] 89]=L1 at c0 ⊢
  obtain ⟨L2,g1,g2⟩:=g_sign c0.rd [40]
  refine bndC_of g1 ?_
  have c1:=c0.adv g2
  generalize hs2:(st.bind (oneO ts 1 aggs)).bind (signO ts [40])=d at c1
  obtain ⟨sv,ms,L3,g3,g4,gs,gm,gml⟩:=g_selects c1.rd
  refine bndC_of g3 ?_
  have c2:=c1.adv g4
  generalize hs3:(d.bind (selO ts)).map (·.2)=e at c2
  have hlo:K1.length < L2.length:=(List.getElem?_eq_some_iff.1 c1.f1).1
  have hlo0:K.length < L2.length:=(List.getElem?_eq_some_iff.1 c1.f0).1
  have e1:=c2.hl
  have e2:=c2.f1
  have hsv1:=gs.one
  have hsv2:=gs.cells
  have hsv3:=gs.stor
  simp [e1,e2,hsv2,hsv3]
  have c3:=c2.sto [.int .u8 0,.int .u8 i,sv,i64 0,.int .u8 0,i64 0,i64 0,i64 0]
  have gs3:=gs.set (b:=K1.length) (o:=.cells [.int .u8 0,.int .u8 i,sv,i64 0,.int .u8 0,i64 0,i64 0,i64 0] 89) hlo
  generalize L3.set K1.length (AObj.cells [.int .u8 0,.int .u8 i,sv,i64 0,.int .u8 0,i64 0,i64 0,i64 0] 89)=L4 at c3 gs3 ⊢
  obtain ⟨L5,g5,g6⟩:=g_sign c3.rd [91]
  refine bndC_of g5 ?_
  have c4:=c3.adv g6
  have grb:rb < L2.length:=by omega
  have gs5:=gs3.frm (K':=L5) fun b o hb ho=>g6.fr b o (by omega) ho
  generalize hs4:e.bind (signO ts [91])=f at c4
  obtain ⟨w,L6,g7,g8,gw⟩:=g_window hg hn c4.rd
  refine bndC_of g7 ?_
  have c5:=c4.adv g8
  have gs6:=gs5.frm (K':=L6) fun b o hb ho=>g8.fr b o (by omega) ho
  generalize hs5:(f.bind (winO ts)).map (·.2)=g at c5
  have e1:=c5.hl
  have e2:=c5.f1
  simp [e1,e2]
  have c6:=c5.sto [.int .u8 0,.int .u8 i,sv,i64 w,.int .u8 0,i64 0,i64 0,i64 0]
  have gs7:=gs6.set (b:=K1.length) (o:=.cells [.int .u8 0,.int .u8 i,sv,i64 w,.int .u8 0,i64 0,i64 0,i64 0] 89) hlo
  generalize L6.set K1.length (AObj.cells [.int .u8 0,.int .u8 i,sv,i64 w,.int .u8 0,i64 0,i64 0,i64 0] 89)=L7 at c6 gs7 ⊢
  obtain ⟨L8,g9,ga⟩:=g_sign c6.rd [93]
  refine bndC_of g9 ?_
  have c7:=c6.adv ga
  have gs8:=gs7.frm (K':=L8) fun b o hb ho=>ga.fr b o (by omega) ho
  obtain ⟨L9,gb,gc⟩:=g_sign c7.rd [41]
  refine bndC_of gb ?_
  have c8:=c7.adv gc
  have gs9:=gs8.frm (K':=L9) fun b o hb ho=>gc.fr b o (by omega) ho
  generalize hs7:(g.bind (signO ts [93])).bind (signO ts [41])=c at c8
  refine bndC_of (c_compares _) ?_
  have c9:=c8.app [AObj.cells (cmps.map str) 9]
  obtain ⟨La,gd,ge⟩:=g_one c9.rd 4 (arr_strs cmps 9 6 rfl) (by decide) (by decide) (by decide)
  refine bndC_of gd ?_
  have ca:=c9.adv ge
  have gsa:=(gs9.app (X:=[AObj.cells (cmps.map str) 9])).frm (K':=La) fun b o hb ho=>ge.fr b o (by omega) ho
  have hj1:idxS cmps ((c.bind (tokK ts 4)).getD []) < 6:=by
   unfold idxS;split
   · rename_i q;exact List.idxOf_lt_length_of_mem q
   · omega
  generalize hj:idxS cmps ((c.bind (tokK ts 4)).getD [])=j at hj1 ⊢
  generalize hs8:c.bind (oneO ts 4 cmps)=k at ca
  have e1:=ca.hl
  have e2:=ca.f1
  simp [e1,e2]
  have cb:=ca.sto [.int .u8 0,.int .u8 i,sv,i64 w,.int .u8 j,i64 0,i64 0,i64 0]
  have gsb:=gsa.set (b:=K1.length) (o:=.cells [.int .u8 0,.int .u8 i,sv,i64 w,.int .u8 j,i64 0,i64 0,i64 0] 89) hlo
  generalize La.set K1.length (AObj.cells [.int .u8 0,.int .u8 i,sv,i64 w,.int .u8 j,i64 0,i64 0,i64 0] 89)=Lb at cb gsb ⊢
  obtain ⟨x,Lc,gf,gg,gx⟩:=g_value hn cb.rd
  refine bndC_of gf ?_
  have cc:=cb.adv gg
  have gsc:=gsb.frm (K':=Lc) fun b o hb ho=>gg.fr b o (by omega) ho
  obtain ⟨ch1,ch2⟩:=cmp_chain hs2.symm hs3.symm hs4.symm hs5.symm hs7.symm hs8.symm gm gw gx
  rw [hi,hj] at ch2
  rw [ch1] at cc
  have e1:=cc.hl
  have e2:=cc.f1
  simp [e1,e2]
  have cd:=cc.sto [.int .u8 0,.int .u8 i,sv,i64 w,.int .u8 j,i64 x,i64 0,i64 0]
  have gsd:=gsc.set (b:=K1.length) (o:=.cells [.int .u8 0,.int .u8 i,sv,i64 w,.int .u8 j,i64 x,i64 0,i64 0] 89) hlo
  generalize Lc.set K1.length (AObj.cells [.int .u8 0,.int .u8 i,sv,i64 w,.int .u8 j,i64 x,i64 0,i64 0] 89)=Ld at cd gsd ⊢
  have e1:=cd.hc
  have e2:=cd.f0
  have q1:=cd.fin [.int .u8 0,.int .u8 i,sv,i64 w,.int .u8 j,i64 x,i64 0,i64 0]
  have gse:=gsd.set (b:=K.length) (o:=.cells [.int .u8 0,.int .u8 i,sv,i64 w,.int .u8 j,i64 x,i64 0,i64 0] 89) hlo0
  have hself:hcells (Ld.set K.length (AObj.cells [.int .u8 0,.int .u8 i,sv,i64 w,.int .u8 j,i64 x,i64 0,i64 0] 89)) K.length=some [.int .u8 0,.int .u8 i,sv,i64 w,.int .u8 j,i64 x,i64 0,i64 0]:=by
   rw [hcells_eq,List.getElem?_set_self (List.getElem?_eq_some_iff.1 cd.f0).1];rfl
  simp [e1,e2,nodZ,hself,hsv1]
  refine ⟨⟨0,UInt8.ofNat i,ms,w,UInt8.ofNat j,x,0,0⟩,sv,?_,by simpa using q1,?_,?_,gml⟩
  · have h1:=u8_of (n:=i) (by omega)
    have h2:=u8_of (n:=j) (by omega)
    simp only [Nod.cells,byt,h1,h2]
    rfl
  · exact gse.weak (by omega)
  · intro a b hp;exact ch2 (a,b) (by simpa using hp)
 obtain ⟨v,K',⟨n,sv,rfl,h⟩,hy⟩:=key
 exact ⟨n,sv,K',hy,h⟩
end Go.Vi
