/- What the functions' bodies come to. Conditions, whatever is read. Read and Parse, whatever they read. Numbers are written: digits. Numbers are written: their texts. Numbers are written: Itoa, TrimRight, fixed.Print. strings.Builder grows ahead; strings.Join. Matchers are written. Matchers are written: the loop. Conditions are written. Right nodes are written: Print. The sum of bytes (crc). The document's own answer: sorts of texts. The document's own answer: the longest token. The document's own answer: the longest token, by trial. A condition within a longer text: what the parser tells there. The document's own answer: the longest token is the one that is read. The tokens of a text within a longer one. The document's own answer: all tokens. -/
import Derived.Test.YtioejminleceeaaGreatDoorJFingerAll2
import Derived.Test.YtioejminleceeaaGreatDoorChecked
import Derived.Test.YtioejminleceeaaGreatDoorJFingerAll3
namespace Go.Vi
open Go Go.Proofs Go.Proofs.Tryz
-- internal/strconv.formatBase10
def L66x0 (n:Nat) (k:Value→AHeap→Prop) (sl:List Value) (H:AHeap):Prop:=kitG prog (drawKeep prog) (cl (cl (cl (cr (cb Tryz.f66))))) n (kblkG 0 (kseqG prog (drawKeep prog) (cr (cr (cb Tryz.f66)))
 (kfinG prog Tryz.f66 k))) .normal sl H []
def S66x0 (k:Value→AHeap→Prop) (sl:List Value) (H:AHeap):Prop:=kseqG prog (drawKeep prog) (cr (cr (cr (cr (cb Tryz.f66))))) (kfinG prog Tryz.f66 k) .normal sl H []
def S66x1 (k:Value→AHeap→Prop) (sl:List Value) (H:AHeap):Prop:=kseqG prog (drawKeep prog) (cr (cr (cr (cr (cr (cb Tryz.f66)))))) (kfinG prog Tryz.f66 k) .normal sl H []
theorem d66 (a0 a1:Value) (H:AHeap) (k:Value→AHeap→Prop):kbodyG prog (drawKeep prog) Tryz.f66 [a0,a1] H k=(@bnd (aLen prog H 45 a0) ⟨fun v18x1=>∃ n,L66x0 n  k [a0,a1,undef,undef,v18x1,undef,
 undef,undef,undef,undef,undef,undef,undef,undef,undef,undef,undef,a0,v18x1,undef,undef,undef,undef,undef,undef,undef,undef,undef,undef,undef,undef,undef,undef,undef,undef,undef,undef,undef,undef,
 undef,undef,undef,undef,undef,undef,undef,undef,undef,undef,undef,undef,undef,undef,undef,undef,undef,undef,undef,undef,undef,undef,undef,undef,undef,undef,undef,undef,undef,undef,undef,undef,
 undef,undef,undef,undef,undef,undef,undef,undef,undef,undef,undef,undef,undef,undef,undef,undef,undef,undef,undef,undef,undef,undef,undef,undef,undef,undef,undef,undef,undef,undef,undef,undef,
 undef,undef,undef,undef,undef,undef,undef,undef,undef,undef,undef,undef,undef,undef,undef,undef,undef,undef,undef,undef,undef,undef,undef,undef,undef,undef,undef,undef,undef,undef,undef,undef,
 undef,undef,undef,undef,undef,undef,undef,undef,undef,undef,undef,undef,undef,undef,undef,undef,undef,undef,undef,undef,undef,undef,undef,undef,undef,undef,undef,undef,undef,undef,undef,undef] H⟩)
:=by kernel_rfl
theorem L66x0q (n0:Nat) (i s1 s2 s3 a s5 s6 s7 s8 s9 cd ce dw cf cg ch b7 b8 b9 dB dC ci cj ck cl cm cn co cp cq cr cs ct cu cv cw cx cy cz cA cB cC cD cE cF cG cH cI cJ cK cL cM cN
 cO cP cQ cR cS cT cU cV cW cX cY cZ c0 c1 c2 c3 c4 c5 c6 c7 c8 c9 da db dc dd de df dg dh di dj dk dl dm dn dp dq dr ds dt du dv dx dy dz dA bu bv bw bx bz bA bB bC
 bD bE bF bG bH bI bJ bK bL bM bN bO bP bQ bR bS bT bU bV bW bX bY bZ b0 b1 b2 b3 b4 b5 b6 al am an ao ap aq ar au av aw ax ay az aA aB
 aC aD aE aF aG aH aI aJ aK aL aM aN aO aP:Value) (H:AHeap) (k:Value→AHeap→Prop):L66x0 (n0+1) k [i,s1,s2,s3,a,s5,s6,s7,s8,s9,cd,ce,dw,cf,cg,ch,b7,b8,b9,dB,
 dC,ci,cj,ck,cl,cm,cn,co,cp,cq,cr,cs,ct,cu,cv,cw,cx,cy,cz,cA,cB,cC,cD,cE,cF,cG,cH,cI,cJ,cK,cL,cM,cN,cO,cP,cQ,cR,cS,cT,cU,cV,cW,cX,cY,cZ,
 c0,c1,c2,c3,c4,c5,c6,c7,c8,c9,da,db,dc,dd,de,df,dg,dh,di,dj,dk,dl,dm,dn,dp,dq,dr,ds,dt,du,dv,dx,dy,dz,dA,bu,bv,bw,bx,bz,bA,bB,bC,
 bD,bE,bF,bG,bH,bI,bJ,bK,bL,bM,bN,bO,bP,bQ,bR,bS,bT,bU,bV,bW,bX,bY,bZ,b0,b1,b2,b3,b4,b5,b6,al,am,an,ao,ap,aq,ar,au,
 av,aw,ax,ay,az,aA,aB,aC,aD,aE,aF,aG,aH,aI,aJ,aK,aL,aM,aN,aO,aP] H=(@bnd (aBin2 prog H .geq 3 (.tmp 19) (.const (.int .i64 8)) a (.int .i64 8)) ⟨fun v =>
 @kifB v ⟨@bnd (aBin2 prog H .rem 103 (.tmp 21) (.const (.int .u64 100000000)) s1 (.int .u64 100000000)) ⟨fun ca=>@bnd (convV prog H 103 30 ca) ⟨fun d=>@bnd (aBin2 prog H .quo 103 (.tmp 24)
 (.const (.int .u64 100000000)) s1 (.int .u64 100000000)) ⟨fun cb=>@bnd (aBin2 prog H .quo 30 (.tmp 26) (.const (.int .u32 10000)) d (.int .u32 10000)) ⟨fun e=>@bnd (aBin2 prog H .rem 30 (.tmp 28)
 (.const (.int .u32 10000)) d (.int .u32 10000)) ⟨fun f=>@bnd (aBin2 prog H .quo 30 (.tmp 30) (.const (.int .u32 100)) f (.int .u32 100)) ⟨fun cc=>@bnd (aBin2 prog H .mul 30 (.tmp 31) (.const (.int
 .u32 2)) cc (.int .u32 2)) ⟨fun w=>@bnd (aBin2 prog H .rem 30 (.tmp 33) (.const (.int .u32 100)) f (.int .u32 100)) ⟨fun aQ=>@bnd (aBin2 prog H .mul 30 (.tmp 34) (.const (.int .u32 2)) aQ (.int
 .u32 2)) ⟨fun q=>@bnd (aBin2 prog H .quo 30 (.tmp 36) (.const (.int .u32 100)) e (.int .u32 100)) ⟨fun aR=>@bnd (aBin2 prog H .mul 30 (.tmp 37) (.const (.int .u32 2)) aR (.int .u32 2)) ⟨fun r
=>@bnd (aBin2 prog H .rem 30 (.tmp 39) (.const (.int .u32 100)) e (.int .u32 100)) ⟨fun aS=>@bnd (aBin2 prog H .mul 30 (.tmp 40) (.const (.int .u32 2)) aS (.int .u32 2)) ⟨fun s=>@bnd ((some i))
 ⟨fun aT=>@bnd ((some a)) ⟨fun aU=>@bnd (aBin2 prog H .sub 3 (.tmp 43) (.const (.int .i64 1)) aU (.int .i64 1)) ⟨fun aV=>@bnd ((some i)) ⟨fun aW=>@bnd ((some a)) ⟨fun x=>@bnd (aBin2
 prog H .sub 3 (.tmp 46) (.const (.int .i64 2)) x (.int .i64 2)) ⟨fun y=>@bnd ((some q)) ⟨fun aX=>@bnd (aBin2 prog H .add 30 (.tmp 48) (.const (.int .u32 1)) aX (.int .u32 1)) ⟨fun aY =>
 @bnd (aIndex prog 9 (.string smS) aY) ⟨fun aZ=>@bnd ((some q)) ⟨fun z=>@bnd (aIndex prog 9 (.string smS) z) ⟨fun A=>@bnd (aIndexAddr prog H 45 aT aV) ⟨fun a0=>@bndK
 false true H ⟨fun x28 H29=>x28=undef∧aStore prog H 5 a0 aZ=some H29⟩ ⟨fun _ H29=>aIndex prog 9 (.string smS) z=some A∧aBin2 prog H29 .sub 3 (.tmp 46) (.const (.int .i64 2)) x
 (.int .i64 2)=some y∧True⟩ ⟨fun _ H29=>@bnd (aIndexAddr prog H29 45 aW y) ⟨fun a1=>@bndK true true H29 ⟨fun x31 H32=>x31=undef∧aStore prog H29 5 a1 A=some H32⟩ ⟨fun _ _ =>
 True⟩ ⟨fun _ H32=>@bnd ((some i)) ⟨fun a2=>@bnd ((some a)) ⟨fun a3=>@bnd (aBin2 prog H32 .sub 3 (.tmp 56) (.const (.int .i64 3)) a3 (.int .i64 3)) ⟨fun a4=>@bnd ((some i)) ⟨fun a5=>@bnd
 ((some a)) ⟨fun B=>@bnd (aBin2 prog H32 .sub 3 (.tmp 59) (.const (.int .i64 4)) B (.int .i64 4)) ⟨fun C=>@bnd ((some w)) ⟨fun a6=>@bnd (aBin2 prog H32 .add 30 (.tmp 61) (.const (.int .u32
 1)) a6 (.int .u32 1)) ⟨fun a7=>@bnd (aIndex prog 9 (.string smS) a7) ⟨fun a8=>@bnd ((some w)) ⟨fun D=>@bnd (aIndex prog 9 (.string smS) D) ⟨fun E=>@bnd (aIndexAddr prog
 H32 45 a2 a4) ⟨fun a9=>@bndK false true H32 ⟨fun x45 H46=>x45=undef∧aStore prog H32 5 a9 a8=some H46⟩ ⟨fun _ H46=>aIndex prog 9 (.string smS) D=some E∧aBin2 prog H46
 .sub 3 (.tmp 59) (.const (.int .i64 4)) B (.int .i64 4)=some C∧True⟩ ⟨fun _ H46=>@bnd (aIndexAddr prog H46 45 a5 C) ⟨fun ba=>@bndK true true H46 ⟨fun x48 H49=>x48=undef∧aStore prog
 H46 5 ba E=some H49⟩ ⟨fun _ _=>True⟩ ⟨fun _ H49=>@bnd ((some i)) ⟨fun bb=>@bnd ((some a)) ⟨fun bc=>@bnd (aBin2 prog H49 .sub 3 (.tmp 69) (.const (.int .i64 5)) bc (.int .i64 5)) ⟨fun bd
=>@bnd ((some i)) ⟨fun be=>@bnd ((some a)) ⟨fun F=>@bnd (aBin2 prog H49 .sub 3 (.tmp 72) (.const (.int .i64 6)) F (.int .i64 6)) ⟨fun G=>@bnd ((some s)) ⟨fun bf=>@bnd (aBin2 prog
 H49 .add 30 (.tmp 74) (.const (.int .u32 1)) bf (.int .u32 1)) ⟨fun bg=>@bnd (aIndex prog 9 (.string smS) bg) ⟨fun bh=>@bnd ((some s)) ⟨fun I=>@bnd (aIndex prog 9 (.string smS) I)
 ⟨fun J=>@bnd (aIndexAddr prog H49 45 bb bd) ⟨fun bi=>@bndK false true H49 ⟨fun x62 H63=>x62=undef∧aStore prog H49 5 bi bh=some H63⟩ ⟨fun _ H63=>aIndex prog 9 (.string smS)
 I=some J∧aBin2 prog H63 .sub 3 (.tmp 72) (.const (.int .i64 6)) F (.int .i64 6)=some G∧True⟩ ⟨fun _ H63=>@bnd (aIndexAddr prog H63 45 be G) ⟨fun bj=>@bndK true true H63
 ⟨fun x65 H66=>x65=undef∧aStore prog H63 5 bj J=some H66⟩ ⟨fun _ _=>True⟩ ⟨fun _ H66=>@bnd ((some i)) ⟨fun bk=>@bnd ((some a)) ⟨fun bl=>@bnd (aBin2 prog H66 .sub 3 (.tmp 82) (.const
 (.int .i64 7)) bl (.int .i64 7)) ⟨fun bm=>@bnd ((some i)) ⟨fun bn=>@bnd ((some a)) ⟨fun K=>@bnd (aBin2 prog H66 .sub 3 (.tmp 85) (.const (.int .i64 8)) K (.int .i64 8)) ⟨fun L=>@bnd
 ((some r)) ⟨fun bo=>@bnd (aBin2 prog H66 .add 30 (.tmp 87) (.const (.int .u32 1)) bo (.int .u32 1)) ⟨fun bp=>@bnd (aIndex prog 9 (.string smS) bp) ⟨fun bq=>@bnd ((some r)) ⟨fun
 M=>@bnd (aIndex prog 9 (.string smS) M) ⟨fun N=>@bnd (aIndexAddr prog H66 45 bk bm) ⟨fun br=>@bndK false true H66 ⟨fun x79 H80=>x79=undef∧aStore prog H66 5 br bq =
 some H80⟩ ⟨fun _ H80=>aIndex prog 9 (.string smS) M=some N∧aBin2 prog H80 .sub 3 (.tmp 85) (.const (.int .i64 8)) K (.int .i64 8)=some L∧True⟩ ⟨fun _ H80=>@bnd (aIndexAddr prog H80
 45 bn L) ⟨fun bs=>@bndK true true H80 ⟨fun x82 H83=>x82=undef∧aStore prog H80 5 bs N=some H83⟩ ⟨fun _ _=>True⟩ ⟨fun _ H83=>@bnd (aBin2 prog H83 .sub 3 (.tmp 94) (.const (.int .i64
 8)) a (.int .i64 8)) ⟨fun bt=>L66x0 n0  k [i,cb,s2,s3,bt,d,e,f,w,q,r,s,dw,cf,cg,ch,b7,b8,b9,a,v,s1,ca,d,s1,cb,d,e,d,
 f,f,cc,w,f,aQ,q,e,aR,r,e,aS,s,aT,aU,aV,aW,x,y,aX,aY,aZ,z,A,a0,a1,a2,a3,a4,
 a5,B,C,a6,a7,a8,D,E,a9,ba,bb,bc,bd,be,F,G,bf,bg,bh,I,J,bi,bj,bk,bl,bm,bn,K,
 L,bo,bp,bq,M,N,br,bs,a,bt,dx,dy,dz,dA,bu,bv,bw,bx,bz,bA,bB,bC,bD,bE,bF,bG,bH,bI,bJ,bK,bL,bM,bN,bO,bP,bQ,
 bR,bS,bT,bU,bV,bW,bX,bY,bZ,b0,b1,b2,b3,b4,b5,b6,al,am,an,ao,ap,aq,ar,au,av,aw,ax,ay,az,aA,aB,aC,aD,aE,aF,aG,aH,aI,
 aJ,aK,aL,aM,aN,aO,aP] H83⟩⟩⟩⟩⟩⟩⟩⟩⟩⟩⟩⟩⟩⟩⟩⟩⟩⟩⟩⟩⟩⟩⟩⟩⟩⟩⟩⟩⟩⟩⟩⟩⟩⟩⟩⟩⟩⟩⟩⟩⟩⟩⟩⟩⟩⟩⟩⟩⟩⟩⟩⟩⟩⟩⟩⟩⟩⟩⟩⟩⟩⟩⟩⟩⟩⟩⟩⟩⟩⟩⟩⟩⟩⟩⟩ ⟨@bnd (convV prog H 103 30 s1) ⟨fun c=>@bnd (aBin2 prog H .geq 3 (.tmp 98) (.const (.int
 .i64 4)) a (.int .i64 4)) ⟨fun O=>@kifB O ⟨@bnd (aBin2 prog H .rem 30 (.tmp 100) (.const (.int .u32 10000)) c (.int .u32 10000)) ⟨fun b=>@bnd (aBin2 prog H .quo 30 (.tmp 102) (.const (.int
 .u32 10000)) c (.int .u32 10000)) ⟨fun ad=>@bnd (aBin2 prog H .quo 30 (.tmp 104) (.const (.int .u32 100)) b (.int .u32 100)) ⟨fun ae=>@bnd (aBin2 prog H .mul 30 (.tmp 105) (.const (.int .u32
 2)) ae (.int .u32 2)) ⟨fun g=>@bnd (aBin2 prog H .rem 30 (.tmp 107) (.const (.int .u32 100)) b (.int .u32 100)) ⟨fun af=>@bnd (aBin2 prog H .mul 30 (.tmp 108) (.const (.int .u32 2)) af
 (.int .u32 2)) ⟨fun h=>@bnd ((some i)) ⟨fun ag=>@bnd ((some a)) ⟨fun ah=>@bnd (aBin2 prog H .sub 3 (.tmp 111) (.const (.int .i64 1)) ah (.int .i64 1)) ⟨fun ai=>@bnd ((some i)) ⟨fun
 aj=>@bnd ((some a)) ⟨fun t=>@bnd (aBin2 prog H .sub 3 (.tmp 114) (.const (.int .i64 2)) t (.int .i64 2)) ⟨fun u=>@bnd ((some h)) ⟨fun ak=>@bnd (aBin2 prog H .add 30 (.tmp
 116) (.const (.int .u32 1)) ak (.int .u32 1)) ⟨fun P=>@bnd (aIndex prog 9 (.string smS) P) ⟨fun Q=>@bnd ((some h)) ⟨fun j=>@bnd (aIndex prog 9 (.string smS) j) ⟨fun
 l=>@bnd (aIndexAddr prog H 45 ag ai) ⟨fun R=>@bndK false true H ⟨fun x105 H106=>x105=undef∧aStore prog H 5 R Q=some H106⟩ ⟨fun _ H106=>aIndex prog 9 (.string
 smS) j=some l∧aBin2 prog H106 .sub 3 (.tmp 114) (.const (.int .i64 2)) t (.int .i64 2)=some u∧True⟩ ⟨fun _ H106=>@bnd (aIndexAddr prog H106 45 aj u) ⟨fun S =>
 @bndK true true H106 ⟨fun x108 H109=>x108=undef∧aStore prog H106 5 S l=some H109⟩ ⟨fun _ _=>True⟩ ⟨fun _ H109=>@bnd ((some i)) ⟨fun T=>@bnd ((some a)) ⟨fun U=>@bnd (aBin2
 prog H109 .sub 3 (.tmp 124) (.const (.int .i64 3)) U (.int .i64 3)) ⟨fun V=>@bnd ((some i)) ⟨fun W=>@bnd ((some a)) ⟨fun m=>@bnd (aBin2 prog H109 .sub 3 (.tmp 127) (.const (.int
 .i64 4)) m (.int .i64 4)) ⟨fun n=>@bnd ((some g)) ⟨fun X=>@bnd (aBin2 prog H109 .add 30 (.tmp 129) (.const (.int .u32 1)) X (.int .u32 1)) ⟨fun Y=>@bnd (aIndex prog 9
 (.string smS) Y) ⟨fun Z=>@bnd ((some g)) ⟨fun o=>@bnd (aIndex prog 9 (.string smS) o) ⟨fun p=>@bnd (aIndexAddr prog H109 45 T V) ⟨fun aa=>@bndK
 false true H109 ⟨fun x122 H123=>x122=undef∧aStore prog H109 5 aa Z=some H123⟩ ⟨fun _ H123=>aIndex prog 9 (.string smS) o=some p∧aBin2 prog H123 .sub 3 (.tmp 127) (.const
 (.int .i64 4)) m (.int .i64 4)=some n∧True⟩ ⟨fun _ H123=>@bnd (aIndexAddr prog H123 45 W n) ⟨fun ab=>@bndK true true H123 ⟨fun x125 H126=>x125=undef∧aStore prog H123 5
 ab p=some H126⟩ ⟨fun _ _=>True⟩ ⟨fun _ H126=>@bnd (aBin2 prog H126 .sub 3 (.tmp 136) (.const (.int .i64 4)) a (.int .i64 4)) ⟨fun ac=>S66x0  k [i,s1,s2,s3,ac,s5,s6,s7,s8,s9,cd,
 ce,ad,b,g,h,b7,b8,b9,a,v,ci,cj,ck,cl,cm,cn,co,cp,cq,cr,cs,ct,cu,cv,cw,cx,cy,cz,cA,cB,cC,cD,cE,cF,cG,cH,cI,cJ,cK,cL,cM,cN,
 cO,cP,cQ,cR,cS,cT,cU,cV,cW,cX,cY,cZ,c0,c1,c2,c3,c4,c5,c6,c7,c8,c9,da,db,dc,dd,de,df,dg,dh,di,dj,dk,dl,dm,dn,dp,dq,dr,ds,dt,du,dv,s1,c,
 a,O,c,b,c,ad,b,ae,g,b,af,h,ag,ah,ai,aj,t,u,ak,P,Q,j,l,R,S,
 T,U,V,W,m,n,X,Y,Z,o,p,aa,ab,a,ac,al,am,an,ao,ap,aq,ar,au,av,aw,ax,ay,az,aA,
 aB,aC,aD,aE,aF,aG,aH,aI,aJ,aK,aL,aM,aN,aO,aP] H126⟩⟩⟩⟩⟩⟩⟩⟩⟩⟩⟩⟩⟩⟩⟩⟩⟩⟩⟩⟩⟩⟩⟩⟩⟩⟩⟩⟩⟩⟩⟩⟩⟩⟩⟩⟩⟩⟩ ⟨S66x0  k [i,s1,s2,s3,a,s5,s6,s7,s8,s9,cd,ce,c,cf,cg,ch,b7,b8,
 b9,a,v,ci,cj,ck,cl,cm,cn,co,cp,cq,cr,cs,ct,cu,cv,cw,cx,cy,cz,cA,cB,cC,cD,cE,cF,cG,cH,cI,cJ,cK,cL,cM,cN,cO,cP,cQ,cR,cS,cT,cU,cV,cW,cX,
 cY,cZ,c0,c1,c2,c3,c4,c5,c6,c7,c8,c9,da,db,dc,dd,de,df,dg,dh,di,dj,dk,dl,dm,dn,dp,dq,dr,ds,dt,du,dv,s1,c,a,O,bu,bv,bw,bx,bz,bA,
 bB,bC,bD,bE,bF,bG,bH,bI,bJ,bK,bL,bM,bN,bO,bP,bQ,bR,bS,bT,bU,bV,bW,bX,bY,bZ,b0,b1,b2,b3,b4,b5,b6,al,am,an,ao,ap,aq,
 ar,au,av,aw,ax,ay,az,aA,aB,aC,aD,aE,aF,aG,aH,aI,aJ,aK,aL,aM,aN,aO,aP] H⟩⟩⟩⟩⟩):=by kernel_rfl
theorem S66x0q (s0 s1 s2 s3 u s5 s6 s7 s8 s9 ap aq t ar au av cc aw ax ay az aA aB aC aD aE aF aG aH aI aJ aK aL aM aN aO aP aQ aR aS aT aU aV aW aX aY aZ a0 a1 a2 a3 a4 a5 a6 a7 a8
 a9 ba bb bc bd be bf bg bh bi bj bk bl bm bn bo bp bq br bs bt bu bv bw bx bz bA bB bC bD bE bF bG bH bI bJ bK bL bM bN bO bP bQ bR v w x y z A B C D E
 F G I J K L M N O P Q R S T U V W X Y Z aa ab ac ad ae af ag ah cd ce bS bT bU bV bW bX bY bZ b0 b1 b2 b3 b4 b5 b6
 b7 b8 b9 ca cb ai aj ak al am an ao:Value) (H:AHeap) (k:Value→AHeap→Prop):S66x0 k [s0,s1,s2,s3,u,s5,s6,s7,s8,s9,ap,aq,t,ar,au,av,cc,aw,ax,ay,az,aA,aB,
 aC,aD,aE,aF,aG,aH,aI,aJ,aK,aL,aM,aN,aO,aP,aQ,aR,aS,aT,aU,aV,aW,aX,aY,aZ,a0,a1,a2,a3,a4,a5,a6,a7,a8,a9,ba,bb,bc,bd,be,bf,bg,bh,bi,bj,bk,
 bl,bm,bn,bo,bp,bq,br,bs,bt,bu,bv,bw,bx,bz,bA,bB,bC,bD,bE,bF,bG,bH,bI,bJ,bK,bL,bM,bN,bO,bP,bQ,bR,v,w,x,y,z,A,B,C,D,E,F,
 G,I,J,K,L,M,N,O,P,Q,R,S,T,U,V,W,X,Y,Z,aa,ab,ac,ad,ae,af,ag,ah,cd,ce,bS,bT,bU,bV,bW,bX,bY,bZ,b0,
 b1,b2,b3,b4,b5,b6,b7,b8,b9,ca,cb,ai,aj,ak,al,am,an,ao] H=(@bnd (aBin2 prog H .geq 3 (.tmp 138) (.const (.int .i64 2)) u (.int .i64 2)) ⟨fun b=>@kifB b
 ⟨@bnd (aBin2 prog H .rem 30 (.tmp 140) (.const (.int .u32 100)) t (.int .u32 100)) ⟨fun g=>@bnd (aBin2 prog H .mul 30 (.tmp 141) (.const (.int .u32 2)) g (.int .u32 2)) ⟨fun a=>@bnd (aBin2
 prog H .quo 30 (.tmp 143) (.const (.int .u32 100)) t (.int .u32 100)) ⟨fun h=>@bnd ((some s0)) ⟨fun i=>@bnd ((some u)) ⟨fun j=>@bnd (aBin2 prog H .sub 3 (.tmp 146) (.const (.int .i64 1))
 j (.int .i64 1)) ⟨fun l=>@bnd ((some s0)) ⟨fun m=>@bnd ((some u)) ⟨fun c=>@bnd (aBin2 prog H .sub 3 (.tmp 149) (.const (.int .i64 2)) c (.int .i64 2)) ⟨fun d=>@bnd ((some
 a)) ⟨fun n=>@bnd (aBin2 prog H .add 30 (.tmp 151) (.const (.int .u32 1)) n (.int .u32 1)) ⟨fun o=>@bnd (aIndex prog 9 (.string smS) o) ⟨fun p=>@bnd ((some a))
 ⟨fun e=>@bnd (aIndex prog 9 (.string smS) e) ⟨fun f=>@bnd (aIndexAddr prog H 45 i l) ⟨fun q=>@bndK false true H ⟨fun x144 H145=>x144=undef∧aStore prog H 5
 q p=some H145⟩ ⟨fun _ H145=>aIndex prog 9 (.string smS) e=some f∧aBin2 prog H145 .sub 3 (.tmp 149) (.const (.int .i64 2)) c (.int .i64 2)=some d∧True⟩ ⟨fun _ H145
=>@bnd (aIndexAddr prog H145 45 m d) ⟨fun r=>@bndK true true H145 ⟨fun x147 H148=>x147=undef∧aStore prog H145 5 r f=some H148⟩ ⟨fun _ _=>True⟩ ⟨fun _ H148=>@bnd (aBin2
 prog H148 .sub 3 (.tmp 158) (.const (.int .i64 2)) u (.int .i64 2)) ⟨fun s=>S66x1  k [s0,s1,s2,s3,s,s5,s6,s7,s8,s9,ap,aq,h,ar,au,av,a,aw,ax,ay,az,aA,aB,aC,
 aD,aE,aF,aG,aH,aI,aJ,aK,aL,aM,aN,aO,aP,aQ,aR,aS,aT,aU,aV,aW,aX,aY,aZ,a0,a1,a2,a3,a4,a5,a6,a7,a8,a9,ba,bb,bc,bd,be,bf,bg,bh,bi,bj,bk,bl,
 bm,bn,bo,bp,bq,br,bs,bt,bu,bv,bw,bx,bz,bA,bB,bC,bD,bE,bF,bG,bH,bI,bJ,bK,bL,bM,bN,bO,bP,bQ,bR,v,w,x,y,z,A,B,C,D,E,F,G,
 I,J,K,L,M,N,O,P,Q,R,S,T,U,V,W,X,Y,Z,aa,ab,ac,ad,ae,af,ag,ah,u,b,t,g,a,t,h,i,
 j,l,m,c,d,n,o,p,e,f,q,r,u,s,ai,aj,ak,al,am,an,ao] H148⟩⟩⟩⟩⟩⟩⟩⟩⟩⟩⟩⟩⟩⟩⟩⟩⟩⟩⟩⟩ ⟨S66x1  k [s0,s1,s2,s3,
 u,s5,s6,s7,s8,s9,ap,aq,t,ar,au,av,cc,aw,ax,ay,az,aA,aB,aC,aD,aE,aF,aG,aH,aI,aJ,aK,aL,aM,aN,aO,aP,aQ,aR,aS,aT,aU,aV,aW,aX,aY,aZ,a0,a1,a2,
 a3,a4,a5,a6,a7,a8,a9,ba,bb,bc,bd,be,bf,bg,bh,bi,bj,bk,bl,bm,bn,bo,bp,bq,br,bs,bt,bu,bv,bw,bx,bz,bA,bB,bC,bD,bE,bF,bG,bH,bI,bJ,bK,bL,bM,
 bN,bO,bP,bQ,bR,v,w,x,y,z,A,B,C,D,E,F,G,I,J,K,L,M,N,O,P,Q,R,S,T,U,V,W,X,Y,Z,aa,ab,ac,
 ad,ae,af,ag,ah,u,b,bS,bT,bU,bV,bW,bX,bY,bZ,b0,b1,b2,b3,b4,b5,b6,b7,b8,b9,ca,cb,ai,aj,ak,al,am,an,ao] H⟩⟩):=by kernel_rfl
theorem S66x1q (s0 s1 s2 s3 s4 s5 s6 s7 s8 s9 ay az e aA aB aC aD aE aF aG aH aI aJ aK aL aM aN aO aP aQ aR aS aT aU aV aW aX aY aZ a0 a1 a2 a3 a4 a5 a6 a7 a8 a9 ba bb bc bd be bf bg
 bh bi bj bk bl bm bn bo bp bq br bs bt bu bv bw bx bz bA bB bC bD bE bF bG bH bI bJ bK bL bM bN bO bP bQ bR bS bT bU bV bW bX bY bZ f g h i j l m n o p
 q r s t u v w x y z A B C D E F G I J K L M N O P Q R S T U V W X Y Z aa ab ac ad ae af ag ah ai aj
 ak al am an ao ap aq ar au av aw ax:Value) (H:AHeap) (k:Value→AHeap→Prop):S66x1 k [s0,s1,s2,s3,s4,s5,s6,s7,s8,s9,ay,az,e,aA,aB,aC,aD,aE,aF,aG,aH,aI,aJ,
 aK,aL,aM,aN,aO,aP,aQ,aR,aS,aT,aU,aV,aW,aX,aY,aZ,a0,a1,a2,a3,a4,a5,a6,a7,a8,a9,ba,bb,bc,bd,be,bf,bg,bh,bi,bj,bk,bl,bm,bn,bo,bp,bq,br,bs,
 bt,bu,bv,bw,bx,bz,bA,bB,bC,bD,bE,bF,bG,bH,bI,bJ,bK,bL,bM,bN,bO,bP,bQ,bR,bS,bT,bU,bV,bW,bX,bY,bZ,f,g,h,i,j,l,m,n,o,p,q,
 r,s,t,u,v,w,x,y,z,A,B,C,D,E,F,G,I,J,K,L,M,N,O,P,Q,R,S,T,U,V,W,X,Y,Z,aa,ab,ac,ad,
 ae,af,ag,ah,ai,aj,ak,al,am,an,ao,ap,aq,ar,au,av,aw,ax] H=(@bnd (aBin2 prog H .gtr 3 (.tmp 160) (.const (.int .i64 0)) s4 (.int .i64 0)) ⟨fun a=>@kifB a
 ⟨@bnd (aBin2 prog H .add 30 (.const (.int .u32 48)) (.tmp 163) (.int .u32 48) e) ⟨fun b=>@bnd (convV prog H 30 5 b) ⟨fun c=>@bnd (aIndexAddr prog H 45 s0 (.int .i64 0)) ⟨fun d =>
 @bndS (aStore prog H 5 d c) ⟨fun _ H155=>k (.tuple #[]) H155⟩⟩⟩⟩⟩ ⟨k (.tuple #[]) H⟩⟩):=by kernel_rfl
-- tocsin/tocsinref10.matcher
def L110x0 (n:Nat) (k:Value→AHeap→Prop) (sl:List Value) (H:AHeap):Prop:=kitG prog (drawKeep prog) (cl (cl (cr (cl (cr (cb Tryz.f110)))))) n (kblkG 0 (kseqG prog (drawKeep prog) (cr (cr (cb
 Tryz.f110))) (kfinG prog Tryz.f110 k))) .normal sl H []
theorem d110 (a0 a1:Value) (H:AHeap) (k:Value→AHeap→Prop):kbodyG prog (drawKeep prog) Tryz.f110 [a0,a1] H k=(@bndE (aAlloc prog H 56) ⟨fun v4x1 H2=>∃ n,L110x0 n  k [a0,a1,undef,undef,v4x1,
 (.int .i64 0),(.int .i64 0),undef,undef,undef,undef,undef,undef,undef,undef,undef,undef,undef,undef,undef,undef,undef,undef,undef,undef,undef,undef,undef,undef,undef,undef,undef,undef,undef,undef,
 undef,undef,undef,undef,undef,undef,undef,undef,undef,undef] H2⟩):=by kernel_rfl
theorem L110x0q (n0:Nat) (g f s2 s3 u s5 p s7 s8 s9 ae af ag ah ai aj ak al am an ao ap aq ar au av aw ax N O P Q R S T U V W X Y Z aa ab ac ad:Value) (H:AHeap) (k:Value
→AHeap→Prop):L110x0 (n0+1) k [g,f,s2,s3,u,s5,p,s7,s8,s9,ae,af,ag,ah,ai,aj,ak,al,am,an,ao,ap,aq,ar,au,av,aw,ax,N,O,P,Q,R,S,T,U,V,W,X,Y,
 Z,aa,ab,ac,ad] H=(@bnd (aBin2 prog H .lss 3 (.tmp 7) (.const (.int .i64 3)) p (.int .i64 3)) ⟨fun v=>@kifB v ⟨@bndC prog 80 [g,f,(.int .u8 1),(.string { data:=#[42] })] H ⟨fun a H5 =>
 @bnd (gif a true ((some g)) undef) ⟨fun q=>@bnd (gif a true ((some f)) undef) ⟨fun r=>@bnd (gif a true (aBin2 prog H5 .add 3 (.tmp 16) (.const (.int .i64 1)) r (.int .i64 1)) undef) ⟨fun s
=>@bnd (gif a true ((some p)) undef) ⟨fun t=>@bndG a true H5 ⟨fun c H11=>ACalls prog 123 [t] H5 c H11⟩ ⟨fun c H11=>@bndG a true H11 ⟨fun d H13=>ACalls prog 80 [q,
 s,(.int .u8 4),c] H11 d H13⟩ ⟨fun d H13=>@bnd (pickV a d (.bool false)) ⟨fun b=>@bnd (gif b true ((some g)) undef) ⟨fun h=>@bnd (gif b true ((some f)) undef) ⟨fun i
=>@bnd (gif b true (aBin2 prog H13 .add 3 (.tmp 24) (.const (.int .i64 2)) i (.int .i64 2)) undef) ⟨fun j=>@bndG b true H13 ⟨fun e H19=>ACalls prog 80 [h,j,(.int .u8 3),
 (.string { data:=#[42] })] H13 e H19⟩ ⟨fun e H19=>@bnd (pickV b e (.bool false)) ⟨fun l=>@kifB l ⟨@bnd ((some g)) ⟨fun w=>@bnd ((some f)) ⟨fun x=>@bnd (aIndexAddr prog
 H19 80 w x) ⟨fun y=>@bnd (aFieldAddr prog H19 122 y 1) ⟨fun z=>@bnd (aLoad prog H19 9 z) ⟨fun A=>@bnd ((some p)) ⟨fun B=>@bnd (convV prog H19 3 5 B) ⟨fun
 C=>@bnd ((some g)) ⟨fun D=>@bnd ((some f)) ⟨fun E=>@bnd (aBin2 prog H19 .add 3 (.tmp 36) (.const (.int .i64 2)) E (.int .i64 2)) ⟨fun F=>@bnd (aIndexAddr prog H19 80 D F)
 ⟨fun G=>@bnd (aFieldAddr prog H19 122 G 1) ⟨fun I=>@bnd (aLoad prog H19 9 I) ⟨fun J=>@bnd (buildV prog 56 [(0,A),(1,C),(2,J)]) ⟨fun K=>@bnd ((some f))
 ⟨fun m=>@bnd (aBin2 prog H19 .add 3 (.tmp 42) (.const (.int .i64 3)) m (.int .i64 3)) ⟨fun n=>@bndK false true H19 ⟨fun x37 H38=>x37=undef∧aStore prog H19 56 u K=some H38⟩ ⟨fun _ H38
=>aBin2 prog H38 .add 3 (.tmp 42) (.const (.int .i64 3)) m (.int .i64 3)=some n∧True⟩ ⟨fun _ H38=>@bnd ((some n)) ⟨fun M=>∃ r40,aLoad prog H38 56 u=some r40∧k (.tuple #[r40,M])
 H38⟩⟩⟩⟩⟩⟩⟩⟩⟩⟩⟩⟩⟩⟩⟩⟩⟩⟩⟩ ⟨@bnd (aBin2 prog H19 .add 3 (.tmp 9) (.const (.int .i64 1)) p (.int .i64 1)) ⟨fun o=>L110x0 n0  k [g,f,s2,s3,u,s5,o,p,v,p,o,g,f,a,a,q,r,
 s,t,c,d,b,b,h,i,j,e,l,N,O,P,Q,R,S,T,U,V,W,X,Y,Z,aa,ab,ac,ad] H19⟩⟩⟩⟩⟩⟩⟩⟩⟩⟩⟩⟩⟩⟩⟩⟩ ⟨@bnd (buildV prog 56 []) ⟨fun
 L=>@bndS (aStore prog H 56 u L) ⟨fun _ H44=>∃ r45,aLoad prog H44 56 u=some r45∧k (.tuple #[r45,(.int .i64 (-1))]) H44⟩⟩⟩⟩):=by kernel_rfl
-- tocsin/tocsinref10.Same
def L35x0 (n:Nat) (k:Value→AHeap→Prop) (sl:List Value) (H:AHeap):Prop:=kitG prog (drawPairK prog) (cl (cl (cr (cl (cr (cr (cb Tryz.f35))))))) n (kblkG 0 (kseqG prog (drawPairK prog) (cr (cr (cr
 (cb Tryz.f35)))) (kfinG prog Tryz.f35 k))) .normal sl H []
theorem d35 (a0 a1:Value) (H:AHeap) (k:Value→AHeap→Prop):kbodyG prog (drawPairK prog) Tryz.f35 [a0,a1] H k=(@bnd (aLen prog H 32 a0) ⟨fun v9x1=>@bnd (aLen prog H 32 a1) ⟨fun v11x2=>@bnd
 (aBin2 prog H .neq 3 (.tmp 9) (.tmp 11) v9x1 v11x2) ⟨fun v12x3=>@kifB v12x3 ⟨k (.bool false) H⟩ ⟨∃ n,L35x0 n  k [a0,a1,undef,undef,(.bool false),(.int .i64 0),undef,undef,a0,v9x1,a1,v11x2,v12x3,undef,
 undef,undef,undef,undef,undef,undef,undef,undef,undef,undef,undef,undef,undef,undef,undef,undef,undef,undef,undef,undef,undef,undef,undef,undef,undef,undef,undef,undef,undef,undef,undef,undef,
 undef,undef,undef,undef,undef,undef,undef,undef,undef,undef,undef,undef,undef,undef,undef,undef,undef,undef,undef,undef,undef,undef,undef,undef,undef,undef,undef,undef,undef,undef,undef,undef,
 undef,undef,undef,undef] H⟩⟩⟩⟩):=by kernel_rfl
theorem L35x0q (n0:Nat) (s0 s1 s2 s3 s4 J s6 s7 s8 s9 bl bm bn bo bp bq br bs bt bu bv bw bx bz bA bB bC bD bE bF bG bH bI bJ bK bL bM bN bO bP bQ bR bS bT bU bV bW bX bY bZ b0 b1 b2
 b3 b4 b5 b6 b7 b8 b9 ca cb cc cd ce cf cg ch ci cj ck cl cm cn co cp cq cr cs ct cu cv:Value) (H:AHeap) (k:Value→AHeap→Prop):L35x0 (n0+1) k [s0,s1,s2,s3,s4,J,s6,s7,s8,s9,
 bl,bm,bn,bo,bp,bq,br,bs,bt,bu,bv,bw,bx,bz,bA,bB,bC,bD,bE,bF,bG,bH,bI,bJ,bK,bL,bM,bN,bO,bP,bQ,bR,bS,bT,bU,bV,bW,bX,bY,bZ,b0,b1,b2,b3,b4,
 b5,b6,b7,b8,b9,ca,cb,cc,cd,ce,cf,cg,ch,ci,cj,ck,cl,cm,cn,co,cp,cq,cr,cs,ct,cu,cv] H=(@bnd (aLen prog H 32 s0) ⟨fun au=>@bnd (aBin2 prog H .lss 3 (.tmp 13)
 (.tmp 15) J au) ⟨fun av=>@kifB av ⟨(@bnd ((some s0)) ⟨fun K=>@bnd ((some J)) ⟨fun L=>@bnd (aIndexAddr prog H 32 K L) ⟨fun C=>@bnd (aLoad prog H 54 C) ⟨fun M=>@bnd
 ((some s1)) ⟨fun w=>@bnd ((some J)) ⟨fun x=>@bnd (aIndexAddr prog H 32 w x) ⟨fun m=>@bnd (aLoad prog H 54 m) ⟨fun y=>@bndK false true H ⟨fun a H15=>aAlloc prog H
 54=some (a,H15)⟩ ⟨fun _ H15=>aLoad prog H15 54 m=some y∧aIndexAddr prog H15 32 w x=some m∧aLoad prog H15 54 C=some M∧aIndexAddr prog H15 32 K L =
 some C∧True⟩ ⟨fun a H15=>@bndK false true H15 ⟨fun b H17=>aAlloc prog H15 54=some (b,H17)⟩ ⟨fun _ H17=>aLoad prog H17 54 m=some y∧aIndexAddr prog H17 32 w x =
 some m∧aLoad prog H17 54 C=some M∧aIndexAddr prog H17 32 K L=some C∧True⟩ ⟨fun b H17=>@bndK false true H17 ⟨fun x18 H19=>x18=undef∧aStore prog H17 54 a M =
 some H19⟩ ⟨fun _ H19=>aLoad prog H19 54 m=some y∧aIndexAddr prog H19 32 w x=some m∧True⟩ ⟨fun _ H19=>@bndK true true H19 ⟨fun x20 H21=>x20=undef∧aStore prog H19 54 b
 y=some H21⟩ ⟨fun _ _=>True⟩ ⟨fun _ H21=>@bnd (aFieldAddr prog H21 54 a 0) ⟨fun aw=>@bnd (aLoad prog H21 5 aw) ⟨fun ax=>@bnd (aFieldAddr prog H21 54 b 0) ⟨fun ay=>@bnd
 (aLoad prog H21 5 ay) ⟨fun az=>@bnd (aBin2 prog H21 .neq 5 (.tmp 28) (.tmp 30) ax az) ⟨fun n=>@bnd (gif n false (aFieldAddr prog H21 54 a 1) undef) ⟨fun aA=>@bnd (gif
 n false (aLoad prog H21 5 aA) undef) ⟨fun aB=>@bnd (gif n false (aFieldAddr prog H21 54 b 1) undef) ⟨fun aC=>@bnd (gif n false (aLoad prog H21 5 aC) undef) ⟨fun aD =>
 @bnd (gif n false (aBin2 prog H21 .neq 5 (.tmp 34) (.tmp 36) aB aD) undef) ⟨fun aE=>@bnd (pickV n (.bool true) aE) ⟨fun j=>@bnd (gif j false (aFieldAddr prog H21 54 a 2)
 undef) ⟨fun aF=>@bnd (gif j false (aLoad prog H21 52 aF) undef) ⟨fun aG=>@bnd (gif j false (aFieldAddr prog H21 54 b 2) undef) ⟨fun aH=>@bnd (gif j false (aLoad prog H21
 52 aH) undef) ⟨fun aI=>@bndG j false H21 ⟨fun E H38=>ACalls prog 56 [aG,aI] H21 E H38⟩ ⟨fun E H38=>@bnd (gif j false (unV prog .not E) undef) ⟨fun aJ=>@bnd
 (pickV j (.bool true) aJ) ⟨fun o=>@bnd (gif o false (aFieldAddr prog H38 54 a 3) undef) ⟨fun aK=>@bnd (gif o false (aLoad prog H38 3 aK) undef) ⟨fun aL=>@bnd (gif o
 false (aFieldAddr prog H38 54 b 3) undef) ⟨fun aM=>@bnd (gif o false (aLoad prog H38 3 aM) undef) ⟨fun aN=>@bnd (gif o false (aBin2 prog H38 .neq 3 (.tmp 49) (.tmp 51) aL aN)
 undef) ⟨fun aO=>@bnd (pickV o (.bool true) aO) ⟨fun p=>@bnd (gif p false (aFieldAddr prog H38 54 a 4) undef) ⟨fun aP=>@bnd (gif p false (aLoad prog H38 5 aP) undef) ⟨fun
 aQ=>@bnd (gif p false (aFieldAddr prog H38 54 b 4) undef) ⟨fun aR=>@bnd (gif p false (aLoad prog H38 5 aR) undef) ⟨fun aS=>@bnd (gif p false (aBin2 prog H38 .neq 5 (.tmp
 56) (.tmp 58) aQ aS) undef) ⟨fun aT=>@bnd (pickV p (.bool true) aT) ⟨fun q=>@bnd (gif q false (aFieldAddr prog H38 54 a 5) undef) ⟨fun aU=>@bnd (gif q false (aLoad
 prog H38 2 aU) undef) ⟨fun aV=>@bnd (gif q false (aFieldAddr prog H38 54 b 5) undef) ⟨fun aW=>@bnd (gif q false (aLoad prog H38 2 aW) undef) ⟨fun aX=>@bnd (gif q false
 (aBin2 prog H38 .neq 2 (.tmp 63) (.tmp 65) aV aX) undef) ⟨fun aY=>@bnd (pickV q (.bool true) aY) ⟨fun r=>@bnd (gif r false (aFieldAddr prog H38 54 a 6) undef) ⟨fun aZ=>@bnd
 (gif r false (aLoad prog H38 3 aZ) undef) ⟨fun a0=>@bnd (gif r false (aFieldAddr prog H38 54 b 6) undef) ⟨fun a1=>@bnd (gif r false (aLoad prog H38 3 a1) undef) ⟨fun a2
=>@bnd (gif r false (aBin2 prog H38 .neq 3 (.tmp 70) (.tmp 72) a0 a2) undef) ⟨fun a3=>@bnd (pickV r (.bool true) a3) ⟨fun s=>@bnd (gif s false (aFieldAddr prog H38 54 a 7)
 undef) ⟨fun a4=>@bnd (gif s false (aLoad prog H38 3 a4) undef) ⟨fun a5=>@bnd (gif s false (aFieldAddr prog H38 54 b 7) undef) ⟨fun a6=>@bnd (gif s false (aLoad prog H38 3
 a6) undef) ⟨fun a7=>@bnd (gif s false (aBin2 prog H38 .neq 3 (.tmp 77) (.tmp 79) a5 a7) undef) ⟨fun a8=>@bnd (pickV s (.bool true) a8) ⟨fun a9=>@kifB a9 ⟨k (.bool false) H38⟩
 ⟨@bnd (aBin2 prog H38 .add 3 (.tmp 17) (.const (.int .i64 1)) J (.int .i64 1)) ⟨fun ba=>L35x0 n0  k [s0,s1,s2,s3,s4,ba,a,b,s8,s9,bl,bm,bn,J,s0,au,av,J,ba,K,L,
 C,M,w,x,m,y,aw,ax,ay,az,n,n,aA,aB,aC,aD,aE,j,j,aF,aG,aH,aI,E,aJ,o,o,aK,
 aL,aM,aN,aO,p,p,aP,aQ,aR,aS,aT,q,q,aU,aV,aW,aX,aY,r,r,aZ,a0,a1,a2,a3,s,s,a4,
 a5,a6,a7,a8,a9] H38⟩⟩⟩⟩⟩⟩⟩⟩⟩⟩⟩⟩⟩⟩⟩⟩⟩⟩⟩⟩⟩⟩⟩⟩⟩⟩⟩⟩⟩⟩⟩⟩⟩⟩⟩⟩⟩⟩⟩⟩⟩⟩⟩⟩⟩⟩⟩⟩⟩⟩⟩⟩⟩⟩⟩⟩⟩⟩⟩⟩⟩⟩∧@bnd ((some s0)) ⟨fun F=>@bnd ((some J)) ⟨fun G=>@bnd (aIndexAddr prog H 32 F G) ⟨fun
 v=>@bnd (aLoad prog H 54 v) ⟨fun I=>@bnd ((some s1)) ⟨fun z=>@bnd ((some J)) ⟨fun A=>@bnd (aIndexAddr prog H 32 z A) ⟨fun t=>@bnd (aLoad prog H 54 t) ⟨fun
 B=>@bndK false true H ⟨fun c H81=>aAlloc prog H 54=some (c,H81)⟩ ⟨fun _ H81=>aLoad prog H81 54 t=some B∧aIndexAddr prog H81 32 z A=some t∧aLoad prog H81
 54 v=some I∧aIndexAddr prog H81 32 F G=some v∧True⟩ ⟨fun c H81=>@bndK false true H81 ⟨fun d H83=>aAlloc prog H81 54=some (d,H83)⟩ ⟨fun _ H83=>aLoad prog H83
 54 t=some B∧aIndexAddr prog H83 32 z A=some t∧aLoad prog H83 54 v=some I∧aIndexAddr prog H83 32 F G=some v∧True⟩ ⟨fun d H83=>@bndK false
 true H83 ⟨fun x84 H85=>x84=undef∧aStore prog H83 54 d I=some H85⟩ ⟨fun _ H85=>aLoad prog H85 54 t=some B∧aIndexAddr prog H85 32 z A=some t∧True⟩ ⟨fun _ H85 =>
 @bndK true true H85 ⟨fun x86 H87=>x86=undef∧aStore prog H85 54 c B=some H87⟩ ⟨fun _ _=>True⟩ ⟨fun _ H87=>@bnd (aFieldAddr prog H87 54 d 0) ⟨fun bb=>@bnd (aLoad prog H87 5 bb)
 ⟨fun bc=>@bnd (aFieldAddr prog H87 54 c 0) ⟨fun bd=>@bnd (aLoad prog H87 5 bd) ⟨fun be=>@bnd (aBin2 prog H87 .neq 5 (.tmp 28) (.tmp 30) bc be) ⟨fun u=>@bnd (gif u
 false (aFieldAddr prog H87 54 d 1) undef) ⟨fun bf=>@bnd (gif u false (aLoad prog H87 5 bf) undef) ⟨fun bg=>@bnd (gif u false (aFieldAddr prog H87 54 c 1) undef) ⟨fun bh =>
 @bnd (gif u false (aLoad prog H87 5 bh) undef) ⟨fun bi=>@bnd (gif u false (aBin2 prog H87 .neq 5 (.tmp 34) (.tmp 36) bg bi) undef) ⟨fun bj=>@bnd (pickV u (.bool true) bj)
 ⟨fun l=>@bnd (gif l false (aFieldAddr prog H87 54 d 2) undef) ⟨fun bk=>@bnd (gif l false (aLoad prog H87 52 bk) undef) ⟨fun N=>@bnd (gif l false (aFieldAddr prog H87 54
 c 2) undef) ⟨fun O=>@bnd (gif l false (aLoad prog H87 52 O) undef) ⟨fun P=>@bndG l false H87 ⟨fun D H104=>ACalls prog 56 [N,P] H87 D H104⟩ ⟨fun D
 H104=>@bnd (gif l false (unV prog .not D) undef) ⟨fun Q=>@bnd (pickV l (.bool true) Q) ⟨fun e=>@bnd (gif e false (aFieldAddr prog H104 54 d 3) undef) ⟨fun R =>
 @bnd (gif e false (aLoad prog H104 3 R) undef) ⟨fun S=>@bnd (gif e false (aFieldAddr prog H104 54 c 3) undef) ⟨fun T=>@bnd (gif e false (aLoad prog H104 3 T)
 undef) ⟨fun U=>@bnd (gif e false (aBin2 prog H104 .neq 3 (.tmp 49) (.tmp 51) S U) undef) ⟨fun V=>@bnd (pickV e (.bool true) V) ⟨fun f=>@bnd (gif f false
 (aFieldAddr prog H104 54 d 4) undef) ⟨fun W=>@bnd (gif f false (aLoad prog H104 5 W) undef) ⟨fun X=>@bnd (gif f false (aFieldAddr prog H104 54 c 4) undef) ⟨fun Y =>
 @bnd (gif f false (aLoad prog H104 5 Y) undef) ⟨fun Z=>@bnd (gif f false (aBin2 prog H104 .neq 5 (.tmp 56) (.tmp 58) X Z) undef) ⟨fun aa=>@bnd (pickV f (.bool true)
 aa) ⟨fun g=>@bnd (gif g false (aFieldAddr prog H104 54 d 5) undef) ⟨fun ab=>@bnd (gif g false (aLoad prog H104 2 ab) undef) ⟨fun ac=>@bnd (gif g false (aFieldAddr
 prog H104 54 c 5) undef) ⟨fun ad=>@bnd (gif g false (aLoad prog H104 2 ad) undef) ⟨fun ae=>@bnd (gif g false (aBin2 prog H104 .neq 2 (.tmp 63) (.tmp 65) ac ae) undef)
 ⟨fun af=>@bnd (pickV g (.bool true) af) ⟨fun h=>@bnd (gif h false (aFieldAddr prog H104 54 d 6) undef) ⟨fun ag=>@bnd (gif h false (aLoad prog H104 3 ag) undef)
 ⟨fun ah=>@bnd (gif h false (aFieldAddr prog H104 54 c 6) undef) ⟨fun ai=>@bnd (gif h false (aLoad prog H104 3 ai) undef) ⟨fun aj=>@bnd (gif h false (aBin2 prog H104
 .neq 3 (.tmp 70) (.tmp 72) ah aj) undef) ⟨fun ak=>@bnd (pickV h (.bool true) ak) ⟨fun i=>@bnd (gif i false (aFieldAddr prog H104 54 d 7) undef) ⟨fun al=>@bnd (gif
 i false (aLoad prog H104 3 al) undef) ⟨fun am=>@bnd (gif i false (aFieldAddr prog H104 54 c 7) undef) ⟨fun an=>@bnd (gif i false (aLoad prog H104 3 an) undef) ⟨fun
 ao=>@bnd (gif i false (aBin2 prog H104 .neq 3 (.tmp 77) (.tmp 79) am ao) undef) ⟨fun ap=>@bnd (pickV i (.bool true) ap) ⟨fun aq=>@kifB aq ⟨k (.bool false) H104⟩ ⟨@bnd
 (aBin2 prog H104 .add 3 (.tmp 17) (.const (.int .i64 1)) J (.int .i64 1)) ⟨fun ar=>L35x0 n0  k [s0,s1,s2,s3,s4,ar,d,c,s8,s9,bl,bm,bn,J,s0,au,av,J,ar,F,G,
 v,I,z,A,t,B,bb,bc,bd,be,u,u,bf,bg,bh,bi,bj,l,l,bk,N,O,P,D,Q,e,e,
 R,S,T,U,V,f,f,W,X,Y,Z,aa,g,g,ab,ac,ad,ae,af,h,h,ag,ah,ai,aj,
 ak,i,i,al,am,an,ao,ap,aq] H104⟩⟩⟩⟩⟩⟩⟩⟩⟩⟩⟩⟩⟩⟩⟩⟩⟩⟩⟩⟩⟩⟩⟩⟩⟩⟩⟩⟩⟩⟩⟩⟩⟩⟩⟩⟩⟩⟩⟩⟩⟩⟩⟩⟩⟩⟩⟩⟩⟩⟩⟩⟩⟩⟩⟩⟩⟩⟩⟩⟩⟩⟩)⟩ ⟨k (.bool true) H⟩⟩⟩):=by kernel_rfl
end Go.Vi
namespace Go.Vi
open Go Go.Proofs Go.Proofs.Tryz
def wordO (k:Nat):List UInt8:=if k=1 then [97,110,100] else [111,114]
def notS:List UInt8:=[110,111,116]
def opN (k:UInt8) (l r:Int):Nod:=⟨k,0,[],0,0,0,l,r⟩
def kindK (k:Nat):UInt8:=if k=1 then 1 else 2
def strO (ts:List Tok):Nat→Nat→Nat→List Nod→Option (Option (List Nod × Nat))
 | 0,_,_,_=>none
 | f + 1, m, a, l =>
   if m=2 then
    if isT ts a 1 notS=true then (strO ts f 2 (a+1) l).map fun r=>r.map fun p=>(p.1++[opN 3 ((p.1.length:Int)-1) 0],p.2)
    else if isT ts a 4 [40]=true then (strO ts f 0 (a+1) l).map fun r=>r.bind fun p=>(signO ts [41] p.2).map fun c=>(p.1,c)
    else some ((cmpO ts a).map fun p=>(l++[p.1],p.2))
   else if m < 2 then (strO ts f (m+1) a l).bind fun r=>match r with
    | none=>some none
    | some p=>strO ts f (m+10) p.2 p.1
   else if isT ts a 1 (wordO (m-10))=true then (strO ts f (m-10+1) (a+1) l).bind fun r=>match r with
    | none=>some none
    | some p=>strO ts f m p.2 (p.1++[opN (kindK (m-10)) ((l.length:Int)-1) ((p.1.length:Int)-1)])
   else some (some (l,a))
theorem cmpO_lt {ts:List Tok} {a:Nat} {p:Nod × Nat} (h:cmpO ts a=some p):a < p.2:=by
 have hone:∀ {k l a b},oneO ts k l a=some b→b=a+1:=by
  intro k l a b h
  unfold oneO at h
  obtain ⟨_,_,h2⟩:=Option.bind_eq_some_iff.1 h
  split at h2<;>simp_all
 have hsign:∀ {s a b},signO ts s a=some b→b=a+1:=by
  intro s a b h
  unfold signO at h
  split at h<;>simp_all
 have hmat:∀ {a p},matO ts a=some p→p.2=a+3:=by
  intro a p h
  unfold matO at h
  obtain ⟨_,_,h2⟩:=Option.bind_eq_some_iff.1 h
  obtain ⟨_,_,h3⟩:=Option.bind_eq_some_iff.1 h2
  split at h3
  · obtain ⟨_,_,h4⟩:=Option.bind_eq_some_iff.1 h3
    rw [← Option.some.inj h4]
  · cases h3
 have hselL:∀ (f:Nat) {a acc p},selL ts f a acc=some p→a≤p.2:=by
  intro f
  induction f with
  | zero=>intro a acc p h;cases h
  | succ f ih =>
    intro a acc p h
    simp only [selL] at h
    obtain ⟨q,h1,h2⟩:=Option.bind_eq_some_iff.1 h
    have:=hmat h1
    split at h2
    · have:=ih h2;omega
    · rw [← Option.some.inj h2];simp only;omega
 have hsel:∀ {a p},selO ts a=some p→a≤p.2:=by
  intro a p h
  unfold selO at h
  obtain ⟨b,h1,h2⟩:=Option.bind_eq_some_iff.1 h
  have:=hsign h1
  split at h2
  · rw [← Option.some.inj h2];simp only;omega
  · obtain ⟨q,h3,h4⟩:=Option.bind_eq_some_iff.1 h2
    have:=hselL _ h3
    obtain ⟨c,h5,h6⟩:=Option.map_eq_some_iff.1 h4
    rw [← h6]
    unfold selE at h5
    obtain ⟨d,h7,h8⟩:=Option.bind_eq_some_iff.1 h5
    have:=hsign h7
    split at h8
    · rw [← Option.some.inj h8];simp only;omega
    · cases h8
 have hwin:∀ {a p},winO ts a=some p→p.2=a+1:=by
  intro a p h
  unfold winO at h
  obtain ⟨_,_,h2⟩:=Option.bind_eq_some_iff.1 h
  obtain ⟨_,_,h3⟩:=Option.bind_eq_some_iff.1 h2
  split at h3
  · rw [← Option.some.inj h3]
  · cases h3
 have hval:∀ {a p},valO ts a=some p→a≤p.2:=by
  intro a p h
  unfold valO at h
  obtain ⟨_,_,h2⟩:=Option.bind_eq_some_iff.1 h
  split at h2
  · rw [← Option.some.inj h2];simp only [takO];split<;>omega
  · cases h2
 unfold cmpO at h
 obtain ⟨b1,h1,h⟩:=Option.bind_eq_some_iff.1 h
 obtain ⟨b2,h2,h⟩:=Option.bind_eq_some_iff.1 h
 obtain ⟨q,h3,h⟩:=Option.bind_eq_some_iff.1 h
 obtain ⟨b3,h4,h⟩:=Option.bind_eq_some_iff.1 h
 obtain ⟨w,h5,h⟩:=Option.bind_eq_some_iff.1 h
 obtain ⟨b4,h6,h⟩:=Option.bind_eq_some_iff.1 h
 obtain ⟨b5,h7,h⟩:=Option.bind_eq_some_iff.1 h
 obtain ⟨b6,h8,h⟩:=Option.bind_eq_some_iff.1 h
 obtain ⟨v,h9,h⟩:=Option.bind_eq_some_iff.1 h
 have:=hone h1;have:=hsign h2;have:=hsel h3;have:=hsign h4;have:=hwin h5;have:=hsign h6;have:=hsign h7;have:=hone h8;have:=hval h9
 rw [← Option.some.inj h]
 simp only
 omega
theorem strO_len {ts:List Tok}:∀ (f:Nat) {m a l l' b},strO ts f m a l=some (some (l',b))→a≤b∧l.length≤l'.length∧l'.length+a≤l.length+b:=by
 intro f
 induction f with
 | zero=>intro m a l l' b h;cases h
 | succ f ih =>
   intro m a l l' b h
   simp only [strO] at h
   split at h
   · split at h
     · obtain ⟨r,h1,h2⟩:=Option.map_eq_some_iff.1 h
       obtain ⟨p,rfl,h3⟩:=Option.map_eq_some_iff.1 h2
       have:=ih h1
       simp only [Prod.mk.injEq] at h3
       obtain ⟨rfl,rfl⟩:=h3
       simp only [List.length_append,List.length_cons,List.length_nil]
       omega
     · split at h
       · obtain ⟨r,h1,h2⟩:=Option.map_eq_some_iff.1 h
         obtain ⟨p,rfl,h3⟩:=Option.bind_eq_some_iff.1 h2
         obtain ⟨c,h4,h5⟩:=Option.map_eq_some_iff.1 h3
         have:=ih h1
         unfold signO at h4
         split at h4
         · simp only [Option.some.injEq] at h4
           simp only [Prod.mk.injEq] at h5
           obtain ⟨rfl,rfl⟩:=h5
           omega
         · cases h4
       · obtain ⟨p,h1,h2⟩:=Option.map_eq_some_iff.1 (Option.some.inj h)
         have:=cmpO_lt h1
         simp only [Prod.mk.injEq] at h2
         obtain ⟨rfl,rfl⟩:=h2
         simp only [List.length_append,List.length_cons,List.length_nil]
         omega
   · split at h
     · obtain ⟨r,h1,h2⟩:=Option.bind_eq_some_iff.1 h
       cases r with
       | none=>cases h2
       | some p =>
         have:=ih h1
         have:=ih h2
         omega
     · split at h
       · obtain ⟨r,h1,h2⟩:=Option.bind_eq_some_iff.1 h
         cases r with
         | none=>cases h2
         | some p =>
           have:=ih h1
           have:=ih h2
           simp only [List.length_append,List.length_cons,List.length_nil] at this
           omega
       · simp only [Option.some.injEq,Prod.mk.injEq] at h
         obtain ⟨rfl,rfl⟩:=h
         omega
theorem nael1:aElem prog 32=some (54,8,72):=by kernel_rfl
theorem nael2:isSeq prog 32=true:=by kernel_rfl
def NL (K:AHeap) (lo:Nat) (v:Value) (ns:List Nod):Prop:=∃ cl,Gro K lo 8 54 v cl∧cl.length=ns.length∧∀ (i:Nat) n,ns[i]?=some n→∃ sv,cl[i]?=some ((n:Nod).cells sv)∧Gro K lo 3 56 sv (n.sel.map Mat.cells)∧n.sel.length≤2 ^ 41
theorem NL.nodes {K lo v ns} (h:NL K lo v ns):NodesAt K v ns:=by
 obtain ⟨cl,h1,h2,h3⟩:=h
 refine ⟨cl,h1.arr,h2,fun i n hi=>?_⟩
 obtain ⟨sv,q1,q2,q3⟩:=h3 i n hi
 exact ⟨sv,q1,q2.arr,by omega⟩
theorem NL.len {K lo v ns} (h:NL K lo v ns) (J:AHeap):aLen prog J 32 v=some (i64 ns.length):=by
 obtain ⟨cl,h1,h2,_⟩:=h
 rw [← h2];exact h1.arr.len' (e:=54) (by simp)
end Go.Vi
namespace Go.Vi
open Go Go.Proofs
theorem strO_tot {ts:List Tok}:∀ (f m a:Nat) (l:List Nod),(m≤2∨m=10∨m=11)→4*(ts.length-a)+(if m≤2 then 3-m else 1)≤f→∃ r,strO ts f m a l=some r:=by
 intro f
 induction f with
 | zero=>intro m a l hm h;split at h<;>omega
 | succ f ih =>
   intro m a l hm h
   simp only [strO]
   split
   · rename_i h2
     subst h2
     rw [if_pos (by omega)] at h
     split
     · rename_i hT
       have:=isT_lt hT
       obtain ⟨r,hr⟩:=ih 2 (a+1) l (by omega) (by simp;omega)
       exact ⟨_,by rw [hr];rfl⟩
     · split
       · rename_i hT
         have:=isT_lt hT
         obtain ⟨r,hr⟩:=ih 0 (a+1) l (by omega) (by simp;omega)
         exact ⟨_,by rw [hr];rfl⟩
       · exact ⟨_,rfl⟩
   · split
     · rename_i hm2
       rw [if_pos (by omega)] at h
       obtain ⟨r,hr⟩:=ih (m+1) a l (by omega) (by rw [if_pos (by omega)];omega)
       rw [hr]
       cases r with
       | none=>exact ⟨none,rfl⟩
       | some p =>
         have:=strO_len f hr
         exact ih (m+10) p.2 p.1 (by omega) (by rw [if_neg (by omega)];omega)
     · split
       · rename_i hT
         have:=isT_lt hT
         rw [if_neg (by omega)] at h
         obtain ⟨r,hr⟩:=ih (m-10+1) (a+1) l (by omega) (by rw [if_pos (by omega)];omega)
         rw [hr]
         cases r with
         | none=>exact ⟨none,rfl⟩
         | some p =>
           have:=strO_len f hr
           exact ih m p.2 _ hm (by rw [if_neg (by omega)];omega)
       · exact ⟨_,rfl⟩
def conO (ts:List Tok) (a:Nat):Option (List Nod × Nat):=(strO ts (4*ts.length+3) 0 a []).getD none
theorem conO_str (ts:List Tok) (a:Nat):strO ts (4*ts.length+3) 0 a []=some (conO ts a):=by
 obtain ⟨r,hr⟩:=strO_tot (ts:=ts) (4*ts.length+3) 0 a [] (by omega) (by simp;omega)
 unfold conO
 rw [hr];rfl
theorem textF_acc:∀ (f:Nat) (r acc:List UInt8) (c:Nat),r.length≤f→(textF r acc c).1.length≤acc.length+r.length:=by
 intro f
 induction f with
 | zero=>intro r acc c h;have:r=[]:=List.eq_nil_of_length_eq_zero (by omega);subst this;simp [textF]
 | succ f ih =>
   intro r acc c h
   cases r with
   | nil=>simp [textF]
   | cons b r =>
     rw [textF_cons]
     simp at h
     split
     · split
       · simp
       · split
         · cases r with
           | nil=>simp
           | cons e r =>
             simp only
             split
             · have:=ih r (acc++[e]) (c+2) (by simp at h;omega);simp at this ⊢;omega
             · simp
         · have:=ih r (acc++[b]) (c+1) (by omega);simp at this ⊢;omega
     · simp
theorem mem_takeWhile {p:UInt8→Bool}:∀ {s:List UInt8} {b:UInt8},b∈s.takeWhile p→p b=true:=by
 intro s
 induction s with
 | nil=>intro b h;simp at h
 | cons x r ih =>
   intro b h
   rw [List.takeWhile_cons] at h
   split at h
   · rcases List.mem_cons.1 h with rfl | h
     · assumption
     · exact ih h
   · simp at h
theorem runF_take (p:UInt8→Bool) (s:List UInt8):s.take (runF p s)=s.takeWhile p:=by
 unfold runF
 exact (List.prefix_iff_eq_take.1 (List.takeWhile_prefix p)).symm
theorem numLen_mem (s:List UInt8):∀ b∈s.take (numLen s),isDig b=true∨b=46:=by
 intro b hb
 unfold numLen at hb
 split at hb
 · rename_i h
   simp only [Bool.and_eq_true,Option.any_eq_true,beq_iff_eq] at h
   obtain ⟨⟨e,he,h46⟩,_⟩:=h
   rw [List.take_add] at hb
   rcases List.mem_append.1 hb with hb | hb
   · rw [runF_take] at hb;exact .inl (mem_takeWhile hb)
   · have hd:s.drop (runF isDig s)=e :: s.drop (runF isDig s+1):=by
      have hlt:=(List.getElem?_eq_some_iff.1 he).1
      rw [List.drop_eq_getElem_cons hlt,(List.getElem?_eq_some_iff.1 he).2]
     rw [hd,Nat.add_comm 1,List.take_succ_cons,runF_take] at hb
     rcases List.mem_cons.1 hb with rfl | hb
     · right
       have:b.toNat=(46:UInt8).toNat:=by have:(46:UInt8).toNat=46:=rfl;omega
       exact UInt8.toNat_inj.1 this
     · exact .inl (mem_takeWhile hb)
 · rw [runF_take] at hb;exact .inl (mem_takeWhile hb)
theorem oneF_num {s:List UInt8} {a:Nat} (hs:s.length≤4096):(oneF s a).1.text.length < 2 ^ 20∧((oneF s a).1.kind=2→(∀ b∈(oneF s a).1.text,isDig b=true∨b=46)∧∀ b r,(oneF s a).1.text=b :: r→isDig b=true):=by
 cases s with
 | nil=>simp [oneF]
 | cons b r =>
   simp only [oneF]
   simp only [List.length_cons] at hs
   split
   · exact ⟨by simp only [List.length_take,List.length_cons];omega,fun h=>by cases h⟩
   · split
     · rename_i hd
       refine ⟨by simp only [List.length_take,List.length_cons];omega,fun _=>⟨numLen_mem _,fun c q hq=>?_⟩⟩
       cases hn:numLen (b :: r) with
       | zero=>rw [hn] at hq;simp at hq
       | succ n=>rw [hn,List.take_succ_cons] at hq;cases hq;exact hd
     · split
       · have:=textF_acc r.length r [] 1 (Nat.le_refl _)
         exact ⟨by simp at this ⊢;omega,fun h=>by cases h⟩
       · exact ⟨by simp only [List.length_take,List.length_cons];omega,fun h=>by cases h⟩
theorem lexF_mem (l:List UInt8) (hl:l.length≤4096):∀ (f a:Nat),∀ t∈(lexF l f a).1,t.text.length < 2 ^ 20∧(t.kind=2→(∀ b∈t.text,isDig b=true∨b=46)∧∀ b r,t.text=b :: r→isDig b=true):=by
 intro f
 induction f with
 | zero=>intro a t h;simp [lexF] at h
 | succ f ih =>
   intro a t h
   simp only [lexF] at h
   split at h
   · split at h
     · simp at h
     · rcases List.mem_cons.1 h with rfl | h
       · exact oneF_num (by simp;omega)
       · exact ih _ t h
   · simp at h
theorem lexF_len (l:List UInt8):∀ (f a:Nat),(lexF l f a).1.length≤f:=by
 intro f
 induction f with
 | zero=>intro a;simp [lexF]
 | succ f ih =>
   intro a
   simp only [lexF]
   split
   · split
     · simp
     · have:=ih (skipN l (a+(oneF (l.drop a) a).2));simp;omega
   · simp
theorem allTok_ok {l:List UInt8}:NumTok (allTok l).1∧(allTok l).1.length≤4097:=by
 unfold allTok
 split
 · exact ⟨fun a t h=>by simp at h,by simp⟩
 · split
   · refine ⟨fun a t h=>?_,?_⟩
     · exact lexF_mem l (by omega) _ _ t (List.mem_of_getElem? h)
     · have:=lexF_len l (l.length+1) (skipN l 0);simp only;omega
   · exact ⟨fun a t h=>by simp at h,by simp⟩
end Go.Vi
namespace Go.Vi
open Go Go.Proofs Go.Proofs.Tryz
theorem acallsKo {P:Program} (hm:P.follows .mixedOrders=true) {f fn args H v K'} (hf:P.funcs[f]?=some fn) (hn:notNG fn=true) (hr:kbodyG P (drawKeep P) fn args H fun u H2=>u=v∧H2=K'):ACalls P f args H v K' :=
 acallsG_of (fun c=>@drawKeep_sound P c hm) hf hn hr
abbrev u32 (n:Int):Value:=.int .u32 n
def dgt (d:Nat):Value:=byt (UInt8.ofNat (48+d))
def putD (o:Nat):Nat→Nat→List Value→List Value
 | 0,_,cs=>cs
 | n+1,u,cs=>putD o n (u / 10) (cs.set (o+n) (dgt (u % 10)))
theorem sm_at:∀ p:Nat,p < 100→smS.data[2*p]?=some (UInt8.ofNat (48+p / 10))∧smS.data[2*p+1]?=some (UInt8.ofNat (48+p % 10)):=by decide +kernel
theorem sm_ix (_H:Nat) {p:Nat} (hp:p < 100):aIndex prog 9 (.string smS) (u32 ((2*p:Nat):Int))=some (dgt (p / 10))∧aIndex prog 9 (.string smS) (u32 ((2*p+1:Nat):Int))=some (dgt (p % 10)):=by
 obtain ⟨h1,h2⟩:=sm_at p hp
 have e:str smS.data.toList=.string smS:=rfl
 have i1:=aIndex_at (P:=prog) (T:=9) (k:=.u32) (l:=smS.data.toList) (i:=2*p) (by simp) (by rw [Array.getElem?_toList];exact h1)
 have i2:=aIndex_at (P:=prog) (T:=9) (k:=.u32) (l:=smS.data.toList) (i:=2*p+1) (by simp) (by rw [Array.getElem?_toList];exact h2)
 rw [e] at i1 i2
 exact ⟨i1,i2⟩
section
variable {P:Program} {H:AHeap} {T:TypeId} {x y:Operand} {k:IntKind} {a:Nat}
theorem remL {c:Int} {n:Nat} (hc:c=n) (h0:0 < n):aBin2 P H .rem T x y (.int k (a:Int)) (.int k c)=some (.int k ((a % n:Nat):Int)):=by
 subst hc;rw [aBin_rem _ _ _ _ _ _ _ (by omega)];rfl
theorem quoL {c:Int} {n:Nat} (hc:c=n) (h0:0 < n) (hw:k.wrap ((a / n:Nat):Int)=((a / n:Nat):Int)):aBin2 P H .quo T x y (.int k (a:Int)) (.int k c)=some (.int k ((a / n:Nat):Int)):=by
 subst hc;rw [aBin_quo _ _ _ _ _ _ _ (by omega),← hw];rfl
theorem wrap32 {n:Int} (h1:0≤n) (h2:n < 4294967296):IntKind.u32.wrap n=n:=by
 unfold IntKind.wrap
 simp only [show IntKind.u32.bits=32 from rfl,show IntKind.u32.signed=false from rfl]
 simp
 omega
theorem rem32 {n:Nat} {c:Int} (hc:c=n) (h0:0 < n):aBin2 P H .rem T x y (u32 (a:Int)) (u32 c)=some (u32 ((a % n:Nat):Int)):=remL hc h0
theorem quo32 {n:Nat} {c:Int} (hc:c=n) (h0:0 < n) (ha:a < 4294967296):aBin2 P H .quo T x y (u32 (a:Int)) (u32 c)=some (u32 ((a / n:Nat):Int)) :=
 quoL hc h0 (by have h:=Nat.div_le_self a n;generalize a / n=q at *;exact wrap32 (by omega) (by omega))
theorem mul32 (ha:a < 1000):aBin2 P H .mul T x y (u32 (a:Int)) (u32 2)=some (u32 ((2*a:Nat):Int)):=by
 rw [aBin_mul,wrap32 (by omega) (by omega)];congr 2;omega
theorem add32 (ha:a < 1000):aBin2 P H .add T x y (u32 ((2*a:Nat):Int)) (u32 1)=some (u32 ((2*a+1:Nat):Int)):=by
 rw [aBin_add,wrap32 (by omega) (by omega)];rfl
theorem subN {j:Nat} {c:Int} (hc:c=j) (hj:j≤a) (ha:a < 1000):aBin2 P H .sub T x y (i64 (a:Int)) (i64 c)=some (i64 ((a-j:Nat):Int)):=by
 subst hc;rw [aBin_sub,wrap_i64 (by omega) (by omega)];congr 2;omega
end
theorem row_at {H:AHeap} {b o nd c i:Nat} {cs:List Value} {T:TypeId} (hb:H[b]?=some (.cells cs T)) (hc:cs.length=24) (hi:i < nd) :
  aIndexAddr prog H 45 (.slice (some ⟨b,o,some 24⟩) nd c) (i64 (i:Int))=some (.pointer (some ⟨b,o+i,some 24⟩)):=by
 rw [aIndexAddr_eq (e:=5) (z:=1) (by simp) (by simp) (by simp [hlen,hb,AObj.len,hc]) (by omega) (by omega)]
 simp
theorem row_sto {H:AHeap} {b i d:Nat} {cs:List Value} {T:TypeId} (hb:H[b]?=some (.cells cs T)) (hc:cs.length=24) (hi:i < 24) :
  aStore prog H 5 (.pointer (some ⟨b,i,some 24⟩)) (dgt d)=some (H.set b (.cells (cs.set i (dgt d)) T)):=by
 have h1:(dgt d).cells = #[dgt d]:=rfl
 have h2:storable (dgt d)=true:=rfl
 simp [hb,hc,h1,h2]
 omega
theorem set_get {H:AHeap} {b:Nat} {x y:AObj} (hb:H[b]?=some x):(H.set b y)[b]?=some y:=List.getElem?_set_self (List.getElem?_eq_some_iff.1 hb).1
theorem putD_two {o n u:Nat} {cs:List Value}:putD o (n+2) u cs=putD o n (u / 100) ((cs.set (o+(n+1)) (dgt (u % 100 % 10))).set (o+n) (dgt (u % 100 / 10))):=by
 show putD o n (u / 10 / 10) ((cs.set (o+(n+1)) (dgt (u % 10))).set (o+n) (dgt (u / 10 % 10)))=_
 rw [show u / 10 / 10=u / 100 by omega,show u % 100 % 10=u % 10 by omega,show u % 100 / 10=u / 10 % 10 by omega]
theorem putD_len:∀ (n o u:Nat) (cs:List Value),(putD o n u cs).length=cs.length:=by
 intro n
 induction n with
 | zero=>intro o u cs;rfl
 | succ n ih=>intro o u cs;rw [putD,ih];simp
theorem fb_last {H:AHeap} {b o nd m0 c u:Nat} {cs:List Value} {T:TypeId} {k:Value→AHeap→Prop} (hb:H[b]?=some (.cells cs T)) (hc:cs.length=24) (ho:o+nd≤24) (hnd:nd < 2) (hu:u < 10 ^ nd) (hndc:nd≤m0)
  (hk:k (.tuple #[]) (H.set b (.cells (putD o nd u cs) T))) (s1 s2 s3 s5 s6 s7 s8 s9 aB aC aD aE aF aG aH aI aJ aK aL aM aN aO aP aQ aR aS aT aU aV aW aX aY aZ a0 a1 a2 a3 a4 a5 a6 a7 a8 a9 ba bb bc bd be bf bg bh bi bj bk bl bm bn bo bp bq br bs bt bu bv bw bx bz bA bB bC bD bE bF bG bH bI bJ bK bL bM bN bO bP bQ bR bS bT bU bV bW bX bY bZ b0 b1 b2 a f g h j l m n p q r s t v w x y z A B C D E F G I J K L M N O P Q R S U V W X Y Z aa ab ac ad ae af ag ah ai aj ak al am an ao ap aq ar au av aw ax ay az aA:Value):S66x1 k [.slice (some ⟨b,o,some 24⟩) m0 c,s1,s2,s3,i64 (nd:Int),s5,s6,s7,s8,s9,aB,aC,u32 (u:Int),aD,aE,aF,aG,aH,aI,aJ,aK,aL,aM,aN,aO,aP,aQ,aR,aS,aT,aU,aV,aW,aX,aY,aZ,a0,a1,a2,a3,a4,a5,a6,a7,a8,a9,ba,bb,bc,bd,be,bf,bg,bh,bi,bj,bk,bl,bm,bn,bo,bp,bq,br,bs,bt,bu,bv,bw,bx,bz,bA,bB,bC,bD,bE,bF,bG,bH,bI,bJ,bK,bL,bM,bN,bO,bP,bQ,bR,bS,bT,bU,bV,bW,bX,bY,bZ,b0,b1,b2,a,f,g,h,j,l,m,n,p,q,r,s,t,v,w,x,y,z,A,B,C,D,E,F,G,I,J,K,L,M,N,O,P,Q,R,S,U,V,W,X,Y,Z,aa,ab,ac,ad,ae,af,ag,ah,ai,aj,ak,al,am,an,ao,ap,aq,ar,au,av,aw,ax,ay,az,aA] H:=by
 rw [S66x1q]
 match nd,hnd,hu,hk with
 | 0, _, hu, hk =>
   simp
   rw [show H.set b (.cells (putD o 0 u cs) T)=H from set_same hb] at hk
   exact hk
 | 1, _, hu, hk =>
   have hu':u < 10:=by simpa using hu
   have w1:IntKind.u32.wrap (48+(u:Int))=((48+u:Nat):Int):=by rw [wrap32 (by omega) (by omega)];omega
   have w2:IntKind.u8.wrap (((48+u:Nat):Int))=(((UInt8.ofNat (48+u)).toNat:Nat):Int):=by
    rw [wrap_u8 (by omega) (by omega)];simp only [UInt8.toNat_ofNat'];omega
   have hix:=row_at (o:=o) (nd:=m0) (c:=c) (i:=0) hb hc (by omega)
   have hst:=row_sto (i:=o) (d:=u) hb hc (by omega)
   simp only [show ((0:Nat):Int)=0 from rfl,Nat.add_zero] at hix
   have e:putD o 1 u cs=cs.set o (dgt u):=by
    show cs.set (o+0) (dgt (u % 10))=_
    rw [Nat.add_zero,Nat.mod_eq_of_lt hu']
   rw [e] at hk
   simp only [show ((1:Nat):Int)=1 from rfl,aBin_gtr,show decide ((1:Int) > 0)=true from rfl,bnd_some,kifB_true,aBin_add,w1,convV_int tu30 tu5,w2,hix]
   rw [show (Value.int .u8 (((UInt8.ofNat (48+u)).toNat:Nat):Int))=dgt u from rfl,hst]
   simp only [bndS_some]
   exact hk
theorem set_len {cs:List Value} {i:Nat} {v:Value} (h:cs.length=24):(cs.set i v).length=24:=by simpa using h
theorem fb_two {H:AHeap} {b o nd m0 c u:Nat} {cs:List Value} {T:TypeId} {k:Value→AHeap→Prop} (hb:H[b]?=some (.cells cs T)) (hc:cs.length=24) (ho:o+nd≤24) (hnd:nd < 4) (hu:u < 10 ^ nd) (hndc:nd≤m0)
  (hk:k (.tuple #[]) (H.set b (.cells (putD o nd u cs) T))) (f e s3 s5 s6 s7 s8 s9 aL aM aN aO aP aQ aR aS aT aU aV aW aX aY aZ a1 a2 a3 a4 a5 a6 a7 a8 a9 ba bb bc bd be bf bg bh bi bj bk bl bm bn bo bp bq br bs bt bu bv bw bx bz bA bB bC bD bE bF bG bH bI bJ bK bL bM bN bO bP bQ bR bS bT bU bV bW bX bY bZ b0 b4 b5 b6 b7 b8 b9 ca cb cc cd ce cf cg g h l m p q r s t w z A B C D E F G I J K L M N O Q R S U V W Z aa ab ac ad ae af ag ah ai aj ak al am an ao ap aq ar au av aw ax ay az aA aB aC aD aE aF aG aH aI aJ aK:Value):S66x0 k [.slice (some ⟨b,o,some 24⟩) m0 c,f,e,s3,i64 (nd:Int),s5,s6,s7,s8,s9,aL,aM,u32 (u:Int),aN,aO,aP,aQ,aR,aS,aT,aU,aV,aW,aX,aY,aZ,a1,a2,a3,a4,a5,a6,a7,a8,a9,ba,bb,bc,bd,be,bf,bg,bh,bi,bj,bk,bl,bm,bn,bo,bp,bq,br,bs,bt,bu,bv,bw,bx,bz,bA,bB,bC,bD,bE,bF,bG,bH,bI,bJ,bK,bL,bM,bN,bO,bP,bQ,bR,bS,bT,bU,bV,bW,bX,bY,bZ,b0,b4,b5,b6,b7,b8,b9,ca,cb,cc,cd,ce,cf,cg,g,h,l,m,p,q,r,s,t,w,z,A,B,C,D,E,F,G,I,J,K,L,M,N,O,Q,R,S,U,V,W,Z,aa,ab,ac,ad,ae,af,ag,ah,ai,aj,ak,al,am,an,ao,ap,aq,ar,au,av,aw,ax,ay,az,aA,aB,aC,aD,aE,aF,aG,aH,aI,aJ,aK] H:=by
 rw [S66x0q]
 simp only [aBin_geq,bnd_some]
 have hu4:u < 10000:=Nat.lt_of_lt_of_le hu (Nat.pow_le_pow_right (by omega) (by omega:nd≤4))
 refine kifB_bool (fun hq=>?_) (fun hq=>?_)
 · obtain ⟨n,rfl⟩:∃ n,nd=n+2:=⟨nd-2,by simp at hq;omega⟩
   have hp:u % 100 < 100:=Nat.mod_lt _ (by omega)
   have b1:=fun (H:AHeap) (X Y:Operand)=>rem32 (P:=prog) (H:=H) (T:=30) (x:=X) (y:=Y) (a:=u) (n:=100) (c:=100) rfl (by omega)
   have b2:=fun (H:AHeap) (X Y:Operand)=>mul32 (P:=prog) (H:=H) (T:=30) (x:=X) (y:=Y) (a:=u % 100) (by omega)
   have b3:=fun (H:AHeap) (X Y:Operand)=>quo32 (P:=prog) (H:=H) (T:=30) (x:=X) (y:=Y) (a:=u) (n:=100) (c:=100) rfl (by omega) (by omega)
   have f:=fun (H:AHeap) (X Y:Operand)=>subN (P:=prog) (H:=H) (T:=3) (x:=X) (y:=Y) (a:=n+2) (j:=1) (c:=1) rfl (by omega) (by omega)
   replace f:∀ (H:AHeap) (X Y:Operand),aBin2 prog H .sub 3 X Y (i64 ((n+2:Nat):Int)) (i64 1)=some (i64 ((n+1:Nat):Int)):=f
   have e:=fun (H:AHeap) (X Y:Operand)=>subN (P:=prog) (H:=H) (T:=3) (x:=X) (y:=Y) (a:=n+2) (j:=2) (c:=2) rfl (by omega) (by omega)
   replace e:∀ (H:AHeap) (X Y:Operand),aBin2 prog H .sub 3 X Y (i64 ((n+2:Nat):Int)) (i64 2)=some (i64 ((n+0:Nat):Int)):=e
   have r0a:=row_at (o:=o) (nd:=m0) (c:=c) (i:=n+1) hb hc (by omega)
   have t0a:=row_sto (i:=o+(n+1)) (d:=(u % 100) % 10) hb hc (by omega)
   have g0a:=set_get (y:=.cells (cs.set (o+(n+1)) (dgt ((u % 100) % 10))) T) hb
   have l0a:=set_len (i:=o+(n+1)) (v:=dgt ((u % 100) % 10)) hc
   have r0b:=row_at (o:=o) (nd:=m0) (c:=c) (i:=n+0) g0a l0a (by omega)
   have t0b:=row_sto (i:=o+(n+0)) (d:=(u % 100) / 10) g0a l0a (by omega)
   have g0b:=set_get (y:=.cells ((cs.set (o+(n+1)) (dgt ((u % 100) % 10))).set (o+(n+0)) (dgt ((u % 100) / 10))) T) g0a
   have l0b:=set_len (i:=o+(n+0)) (v:=dgt ((u % 100) / 10)) l0a
   have x0:=sm_ix 0 hp
   have a0:=fun (H:AHeap) (X Y:Operand)=>add32 (P:=prog) (H:=H) (T:=30) (x:=X) (y:=Y) (a:=u % 100) (by omega)
   simp only [b1,b2,b3,bnd_some]
   simp only [bnd_some,f,e,a0,x0.1,x0.2,r0a]
   refine bndK_of ⟨rfl,t0a⟩ ⟨x0.1,e _ _ _,trivial⟩ ?_
   simp only [r0b,bnd_some]
   refine bndK_bar ⟨rfl,t0b⟩ ?_
   simp only [e,bnd_some]
   have hu':u / 100 < 10 ^ n:=by rw [Nat.div_lt_iff_lt_mul (by omega)];rw [Nat.pow_add] at hu;exact hu
   refine fb_last (nd:=n) g0b l0b (by omega) (by omega) hu' (by omega) ?_ _ _ _ _ _ _ _ _ _ _ _ _ _ _ _ _ _ _ _ _ _ _ _ _ _ _ _ _ _ _ _ _ _ _ _ _ _ _ _ _ _ _ _ _ _ _ _ _ _ _ _ _ _ _ _ _ _ _ _ _ _ _ _ _ _ _ _ _ _ _ _ _ _ _ _ _ _ _ _ _ _ _ _ _ _ _ _ _ _ _ _ _ _ _ _ _ _ _ _ _ _ _ _ _ _ _ _ _ _ _ _ _ _ _ _ _ _ _ _ _ _ _ _ _ _ _ _ _ _ _ _ _ _ _ _ _ _ _ _ _ _ _ _ _ _ _ _ _ _ _ _ _ _ _ _ _ _ _ _ _ _ _ _ _
   rw [List.set_set,List.set_set]
   rw [putD_two] at hk
   exact hk
 · dsimp only
   exact fb_last hb hc (by omega) (by simp at hq;omega) hu (by omega) hk _ _ _ _ _ _ _ _ _ _ _ _ _ _ _ _ _ _ _ _ _ _ _ _ _ _ _ _ _ _ _ _ _ _ _ _ _ _ _ _ _ _ _ _ _ _ _ _ _ _ _ _ _ _ _ _ _ _ _ _ _ _ _ _ _ _ _ _ _ _ _ _ _ _ _ _ _ _ _ _ _ _ _ _ _ _ _ _ _ _ _ _ _ _ _ _ _ _ _ _ _ _ _ _ _ _ _ _ _ _ _ _ _ _ _ _ _ _ _ _ _ _ _ _ _ _ _ _ _ _ _ _ _ _ _ _ _ _ _ _ _ _ _ _ _ _ _ _ _ _ _ _ _ _ _ _ _ _ _ _ _ _ _ _
theorem putD_four {o n u:Nat} {cs:List Value}:putD o (n+4) u cs=putD o n (u / 10000) ((((cs.set (o+(n+3)) (dgt ((u % 10000 % 100) % 10))).set (o+(n+2)) (dgt ((u % 10000 % 100) / 10))).set (o+(n+1)) (dgt ((u % 10000 / 100) % 10))).set (o+(n+0)) (dgt ((u % 10000 / 100) / 10))):=by
 rw [show n+4=(n+2)+2 from rfl,putD_two,putD_two,Nat.div_div_eq_div_mul,show u / 100 % 100=u % 10000 / 100 by omega,show u % 10000 % 100=u % 100 by omega]
 rfl
set_option maxRecDepth 20000 in
theorem fb_four {H:AHeap} {b o nd m0 c u:Nat} {cs:List Value} {T:TypeId} {k:Value→AHeap→Prop} (hb:H[b]?=some (.cells cs T)) (hc:cs.length=24) (ho:o+nd≤24) (hnd:nd < 8) (hu:u < 10 ^ nd) (hndc:nd≤m0)
  (hk:k (.tuple #[]) (H.set b (.cells (putD o nd u cs) T))) (n1:Nat) (e f s5 s6 s7 s8 s9 aM aN aO aP aQ aR aS aT aU aV aW aX aY aZ a2 a3 a4 a5 a6 a7 a8 a9 ba bb bc bd be bf bg bh bi bj bk bl bm bn bo bp bq br bs bt bu bv bw bx bz bA bB bC bD bE bF bG bH bI bJ bK bL bM bN bO bP bQ bR bS bT bU bV bW bX bY bZ b0 b7 b8 b9 ca cb cc cd ce cf cg ch ci cj ck cl cm h l m p q r s t w z A B C D E F G I J K L M N O Q R S U V W Z aa ab ac ad ae af ag ah ai aj ak al am an ao ap aq ar au av aw ax ay az aA aB aC aD aE aF aG aH aI aJ aK aL:Value):L66x0 (n1+1) k [.slice (some ⟨b,o,some 24⟩) m0 c,u64 (u:Int),e,f,i64 (nd:Int),s5,s6,s7,s8,s9,aM,aN,aO,aP,aQ,aR,aS,aT,aU,aV,aW,aX,aY,aZ,a2,a3,a4,a5,a6,a7,a8,a9,ba,bb,bc,bd,be,bf,bg,bh,bi,bj,bk,bl,bm,bn,bo,bp,bq,br,bs,bt,bu,bv,bw,bx,bz,bA,bB,bC,bD,bE,bF,bG,bH,bI,bJ,bK,bL,bM,bN,bO,bP,bQ,bR,bS,bT,bU,bV,bW,bX,bY,bZ,b0,b7,b8,b9,ca,cb,cc,cd,ce,cf,cg,ch,ci,cj,ck,cl,cm,h,l,m,p,q,r,s,t,w,z,A,B,C,D,E,F,G,I,J,K,L,M,N,O,Q,R,S,U,V,W,Z,aa,ab,ac,ad,ae,af,ag,ah,ai,aj,ak,al,am,an,ao,ap,aq,ar,au,av,aw,ax,ay,az,aA,aB,aC,aD,aE,aF,aG,aH,aI,aJ,aK,aL] H:=by
 rw [L66x0q]
 have hu8:u < 100000000:=Nat.lt_of_lt_of_le hu (Nat.pow_le_pow_right (by omega) (by omega:nd≤8))
 have h8:decide ((nd:Int) ≥ 8)=false:=by simp;omega
 have w0:IntKind.u32.wrap (u:Int)=u:=wrap32 (by omega) (by omega)
 simp only [aBin_geq,bnd_some,h8,kifB_false,convV_int tu103 tu30,w0]
 refine kifB_bool (fun hq=>?_) (fun hq=>?_)
 · obtain ⟨n,rfl⟩:∃ n,nd=n+4:=⟨nd-4,by simp at hq;omega⟩
   have hp:u % 10000 % 100 < 100:=Nat.mod_lt _ (by omega)
   have hp2:u % 10000 / 100 < 100:=by omega
   have b1:=fun (H:AHeap) (X Y:Operand)=>rem32 (P:=prog) (H:=H) (T:=30) (x:=X) (y:=Y) (a:=u) (n:=10000) (c:=10000) rfl (by omega)
   have b2:=fun (H:AHeap) (X Y:Operand)=>quo32 (P:=prog) (H:=H) (T:=30) (x:=X) (y:=Y) (a:=u) (n:=10000) (c:=10000) rfl (by omega) (by omega)
   have b3:=fun (H:AHeap) (X Y:Operand)=>quo32 (P:=prog) (H:=H) (T:=30) (x:=X) (y:=Y) (a:=u % 10000) (n:=100) (c:=100) rfl (by omega) (by omega)
   have b4:=fun (H:AHeap) (X Y:Operand)=>mul32 (P:=prog) (H:=H) (T:=30) (x:=X) (y:=Y) (a:=u % 10000 / 100) (by omega)
   have b5:=fun (H:AHeap) (X Y:Operand)=>rem32 (P:=prog) (H:=H) (T:=30) (x:=X) (y:=Y) (a:=u % 10000) (n:=100) (c:=100) rfl (by omega)
   have b6:=fun (H:AHeap) (X Y:Operand)=>mul32 (P:=prog) (H:=H) (T:=30) (x:=X) (y:=Y) (a:=u % 10000 % 100) (by omega)
   have s1:=fun (H:AHeap) (X Y:Operand)=>subN (P:=prog) (H:=H) (T:=3) (x:=X) (y:=Y) (a:=n+4) (j:=1) (c:=1) rfl (by omega) (by omega)
   replace s1:∀ (H:AHeap) (X Y:Operand),aBin2 prog H .sub 3 X Y (i64 ((n+4:Nat):Int)) (i64 1)=some (i64 ((n+3:Nat):Int)):=s1
   have e:=fun (H:AHeap) (X Y:Operand)=>subN (P:=prog) (H:=H) (T:=3) (x:=X) (y:=Y) (a:=n+4) (j:=2) (c:=2) rfl (by omega) (by omega)
   replace e:∀ (H:AHeap) (X Y:Operand),aBin2 prog H .sub 3 X Y (i64 ((n+4:Nat):Int)) (i64 2)=some (i64 ((n+2:Nat):Int)):=e
   have f:=fun (H:AHeap) (X Y:Operand)=>subN (P:=prog) (H:=H) (T:=3) (x:=X) (y:=Y) (a:=n+4) (j:=3) (c:=3) rfl (by omega) (by omega)
   replace f:∀ (H:AHeap) (X Y:Operand),aBin2 prog H .sub 3 X Y (i64 ((n+4:Nat):Int)) (i64 3)=some (i64 ((n+1:Nat):Int)):=f
   have g:=fun (H:AHeap) (X Y:Operand)=>subN (P:=prog) (H:=H) (T:=3) (x:=X) (y:=Y) (a:=n+4) (j:=4) (c:=4) rfl (by omega) (by omega)
   replace g:∀ (H:AHeap) (X Y:Operand),aBin2 prog H .sub 3 X Y (i64 ((n+4:Nat):Int)) (i64 4)=some (i64 ((n+0:Nat):Int)):=g
   have r0a:=row_at (o:=o) (nd:=m0) (c:=c) (i:=n+3) hb hc (by omega)
   have t0a:=row_sto (i:=o+(n+3)) (d:=(u % 10000 % 100) % 10) hb hc (by omega)
   have g0a:=set_get (y:=.cells (cs.set (o+(n+3)) (dgt ((u % 10000 % 100) % 10))) T) hb
   have l0a:=set_len (i:=o+(n+3)) (v:=dgt ((u % 10000 % 100) % 10)) hc
   have r0b:=row_at (o:=o) (nd:=m0) (c:=c) (i:=n+2) g0a l0a (by omega)
   have t0b:=row_sto (i:=o+(n+2)) (d:=(u % 10000 % 100) / 10) g0a l0a (by omega)
   have g0b:=set_get (y:=.cells ((cs.set (o+(n+3)) (dgt ((u % 10000 % 100) % 10))).set (o+(n+2)) (dgt ((u % 10000 % 100) / 10))) T) g0a
   have l0b:=set_len (i:=o+(n+2)) (v:=dgt ((u % 10000 % 100) / 10)) l0a
   have x0:=sm_ix 0 hp
   have a0:=fun (H:AHeap) (X Y:Operand)=>add32 (P:=prog) (H:=H) (T:=30) (x:=X) (y:=Y) (a:=u % 10000 % 100) (by omega)
   have r1a:=row_at (o:=o) (nd:=m0) (c:=c) (i:=n+1) g0b l0b (by omega)
   have t1a:=row_sto (i:=o+(n+1)) (d:=(u % 10000 / 100) % 10) g0b l0b (by omega)
   have g1a:=set_get (y:=.cells (((cs.set (o+(n+3)) (dgt ((u % 10000 % 100) % 10))).set (o+(n+2)) (dgt ((u % 10000 % 100) / 10))).set (o+(n+1)) (dgt ((u % 10000 / 100) % 10))) T) g0b
   have l1a:=set_len (i:=o+(n+1)) (v:=dgt ((u % 10000 / 100) % 10)) l0b
   have r1b:=row_at (o:=o) (nd:=m0) (c:=c) (i:=n+0) g1a l1a (by omega)
   have t1b:=row_sto (i:=o+(n+0)) (d:=(u % 10000 / 100) / 10) g1a l1a (by omega)
   have g1b:=set_get (y:=.cells ((((cs.set (o+(n+3)) (dgt ((u % 10000 % 100) % 10))).set (o+(n+2)) (dgt ((u % 10000 % 100) / 10))).set (o+(n+1)) (dgt ((u % 10000 / 100) % 10))).set (o+(n+0)) (dgt ((u % 10000 / 100) / 10))) T) g1a
   have l1b:=set_len (i:=o+(n+0)) (v:=dgt ((u % 10000 / 100) / 10)) l1a
   have x1:=sm_ix 0 hp2
   have a1:=fun (H:AHeap) (X Y:Operand)=>add32 (P:=prog) (H:=H) (T:=30) (x:=X) (y:=Y) (a:=u % 10000 / 100) (by omega)
   simp only [b1,b2,b3,b4,b5,b6,bnd_some]
   simp only [bnd_some,s1,e,a0,x0.1,x0.2,r0a]
   refine bndK_of ⟨rfl,t0a⟩ ⟨x0.1,e _ _ _,trivial⟩ ?_
   simp only [r0b,bnd_some]
   refine bndK_bar ⟨rfl,t0b⟩ ?_
   simp only [bnd_some,f,g,a1,x1.1,x1.2,r1a]
   refine bndK_of ⟨rfl,t1a⟩ ⟨x1.1,g _ _ _,trivial⟩ ?_
   simp only [r1b,bnd_some]
   refine bndK_bar ⟨rfl,t1b⟩ ?_
   simp only [g,bnd_some]
   have hu':u / 10000 < 10 ^ n:=by rw [Nat.div_lt_iff_lt_mul (by omega)];rw [Nat.pow_add] at hu;exact hu
   refine fb_two (nd:=n) g1b l1b (by omega) (by omega) hu' (by omega) ?_ _ _ _ _ _ _ _ _ _ _ _ _ _ _ _ _ _ _ _ _ _ _ _ _ _ _ _ _ _ _ _ _ _ _ _ _ _ _ _ _ _ _ _ _ _ _ _ _ _ _ _ _ _ _ _ _ _ _ _ _ _ _ _ _ _ _ _ _ _ _ _ _ _ _ _ _ _ _ _ _ _ _ _ _ _ _ _ _ _ _ _ _ _ _ _ _ _ _ _ _ _ _ _ _ _ _ _ _ _ _ _ _ _ _ _ _ _ _ _ _ _ _ _ _ _ _ _ _ _ _ _ _ _ _ _ _ _ _ _ _ _ _ _ _ _ _ _ _ _ _ _ _ _ _ _ _ _ _ _ _ _ _ _ _
   rw [List.set_set,List.set_set,List.set_set,List.set_set]
   rw [putD_four] at hk
   exact hk
 · dsimp only
   exact fb_two hb hc (by omega) (by simp at hq;omega) hu (by omega) hk _ _ _ _ _ _ _ _ _ _ _ _ _ _ _ _ _ _ _ _ _ _ _ _ _ _ _ _ _ _ _ _ _ _ _ _ _ _ _ _ _ _ _ _ _ _ _ _ _ _ _ _ _ _ _ _ _ _ _ _ _ _ _ _ _ _ _ _ _ _ _ _ _ _ _ _ _ _ _ _ _ _ _ _ _ _ _ _ _ _ _ _ _ _ _ _ _ _ _ _ _ _ _ _ _ _ _ _ _ _ _ _ _ _ _ _ _ _ _ _ _ _ _ _ _ _ _ _ _ _ _ _ _ _ _ _ _ _ _ _ _ _ _ _ _ _ _ _ _ _ _ _ _ _ _ _ _ _ _ _ _ _ _ _
theorem putD_eight {o n u:Nat} {cs:List Value}:putD o (n+8) u cs=putD o n (u / 100000000) ((((((((cs.set (o+(n+7)) (dgt ((u % 100000000 % 10000 % 100) % 10))).set (o+(n+6)) (dgt ((u % 100000000 % 10000 % 100) / 10))).set (o+(n+5)) (dgt ((u % 100000000 % 10000 / 100) % 10))).set (o+(n+4)) (dgt ((u % 100000000 % 10000 / 100) / 10))).set (o+(n+3)) (dgt ((u % 100000000 / 10000 % 100) % 10))).set (o+(n+2)) (dgt ((u % 100000000 / 10000 % 100) / 10))).set (o+(n+1)) (dgt ((u % 100000000 / 10000 / 100) % 10))).set (o+(n+0)) (dgt ((u % 100000000 / 10000 / 100) / 10))):=by
 rw [show n+8=(n+4)+4 from rfl,putD_four,putD_four,Nat.div_div_eq_div_mul,show u % 100000000 % 10000=u % 10000 by omega,show u % 100000000 / 10000=u / 10000 % 10000 by omega]
set_option maxRecDepth 20000 in
theorem fb_loop {b o m0 c:Nat} {T:TypeId} {k:Value→AHeap→Prop}:∀ (f nd u:Nat) (H:AHeap) (cs:List Value),nd < 8*f+8→H[b]?=some (.cells cs T)→cs.length=24→o+nd≤24→u < 10 ^ nd→u < 2 ^ 64→nd≤m0→k (.tuple #[]) (H.set b (.cells (putD o nd u cs) T)) →
  ∀ (g l m h p e s9 aQ aR aS aT aU aV aW aX aY aZ a4 a5 a6 a7 a8 a9 bb bc bd be bf bg bh bi bj bk bl bm bn bo bp bq br bs bt bu bv bw bx bz bA bB bC bD bE bF bG bH bI bJ bK bL bM bN bO bP bQ bR bS bT bU bV bW bX bY bZ b0 ca cb cc cd ce cf cg ch ci cj ck cl cm cn co cp cq cr ct cu cv cw cx q r s t w z A B C D E F G I J K L M N O Q R S U V W Z aa ab ac ad ae af ag ah ai aj ak al am an ao ap aq ar au av aw ax ay az aA aB aC aD aE aF aG aH aI aJ aK aL aM aN aO aP:Value),L66x0 (f+1) k [.slice (some ⟨b,o,some 24⟩) m0 c,u64 (u:Int),g,l,i64 (nd:Int),m,h,p,e,s9,aQ,aR,aS,aT,aU,aV,aW,aX,aY,aZ,a4,a5,a6,a7,a8,a9,bb,bc,bd,be,bf,bg,bh,bi,bj,bk,bl,bm,bn,bo,bp,bq,br,bs,bt,bu,bv,bw,bx,bz,bA,bB,bC,bD,bE,bF,bG,bH,bI,bJ,bK,bL,bM,bN,bO,bP,bQ,bR,bS,bT,bU,bV,bW,bX,bY,bZ,b0,ca,cb,cc,cd,ce,cf,cg,ch,ci,cj,ck,cl,cm,cn,co,cp,cq,cr,ct,cu,cv,cw,cx,q,r,s,t,w,z,A,B,C,D,E,F,G,I,J,K,L,M,N,O,Q,R,S,U,V,W,Z,aa,ab,ac,ad,ae,af,ag,ah,ai,aj,ak,al,am,an,ao,ap,aq,ar,au,av,aw,ax,ay,az,aA,aB,aC,aD,aE,aF,aG,aH,aI,aJ,aK,aL,aM,aN,aO,aP] H:=by
 intro f
 induction f with
 | zero=>intro nd u H cs hnd hb hc ho hu _ hm hk;exact fb_four hb hc ho (by omega) hu hm hk 0
 | succ f ih =>
   intro nd u H cs hnd hb hc ho hu hu64 hm hk
   by_cases h8:nd < 8
   · exact fb_four hb hc ho h8 hu hm hk (f+1)
   intro g l m h p e s9 aQ aR aS aT aU aV aW aX aY aZ a4 a5 a6 a7 a8 a9 bb bc bd be bf bg bh bi bj bk bl bm bn bo bp bq br bs bt bu bv bw bx bz bA bB bC bD bE bF bG bH bI bJ bK bL bM bN bO bP bQ bR bS bT bU bV bW bX bY bZ b0 ca cb cc cd ce cf cg ch ci cj ck cl cm cn co cp cq cr ct cu cv cw cx q r s t w z A B C D E F G I J K L M N O Q R S U V W Z aa ab ac ad ae af ag ah ai aj ak al am an ao ap aq ar au av aw ax ay az aA aB aC aD aE aF aG aH aI aJ aK aL aM aN aO aP
   rw [L66x0q]
   obtain ⟨n,rfl⟩:∃ n,nd=n+8:=⟨nd-8,by omega⟩
   have h8':decide ((((n+8:Nat):Int)) ≥ 8)=true:=by simp;omega
   have w0:IntKind.u32.wrap ((u % 100000000:Nat):Int)=((u % 100000000:Nat):Int):=wrap32 (by omega) (by omega)
   have c1:=fun (H:AHeap) (X Y:Operand)=>remL (P:=prog) (H:=H) (T:=103) (x:=X) (y:=Y) (k:=.u64) (a:=u) (n:=100000000) (c:=100000000) rfl (by omega)
   have c2:=fun (H:AHeap) (X Y:Operand)=>quoL (P:=prog) (H:=H) (T:=103) (x:=X) (y:=Y) (k:=.u64) (a:=u) (n:=100000000) (c:=100000000) rfl (by omega) (wrapU (by omega) (by omega))
   simp only [aBin_geq,bnd_some,h8',kifB_true,c1,c2,convV_int tu103 tu30,w0]
   have p0:u % 100000000 % 10000 % 100 < 100:=Nat.mod_lt _ (by omega)
   have p1:u % 100000000 % 10000 / 100 < 100:=by omega
   have p2:u % 100000000 / 10000 % 100 < 100:=Nat.mod_lt _ (by omega)
   have p3:u % 100000000 / 10000 / 100 < 100:=by omega
   have b1:=fun (H:AHeap) (X Y:Operand)=>quo32 (P:=prog) (H:=H) (T:=30) (x:=X) (y:=Y) (a:=u % 100000000) (n:=10000) (c:=10000) rfl (by omega) (by omega)
   have b2:=fun (H:AHeap) (X Y:Operand)=>rem32 (P:=prog) (H:=H) (T:=30) (x:=X) (y:=Y) (a:=u % 100000000) (n:=10000) (c:=10000) rfl (by omega)
   have b3:=fun (H:AHeap) (X Y:Operand)=>quo32 (P:=prog) (H:=H) (T:=30) (x:=X) (y:=Y) (a:=u % 100000000 % 10000) (n:=100) (c:=100) rfl (by omega) (by omega)
   have b4:=fun (H:AHeap) (X Y:Operand)=>mul32 (P:=prog) (H:=H) (T:=30) (x:=X) (y:=Y) (a:=u % 100000000 % 10000 / 100) (by omega)
   have b5:=fun (H:AHeap) (X Y:Operand)=>rem32 (P:=prog) (H:=H) (T:=30) (x:=X) (y:=Y) (a:=u % 100000000 % 10000) (n:=100) (c:=100) rfl (by omega)
   have b6:=fun (H:AHeap) (X Y:Operand)=>mul32 (P:=prog) (H:=H) (T:=30) (x:=X) (y:=Y) (a:=u % 100000000 % 10000 % 100) (by omega)
   have b7:=fun (H:AHeap) (X Y:Operand)=>quo32 (P:=prog) (H:=H) (T:=30) (x:=X) (y:=Y) (a:=u % 100000000 / 10000) (n:=100) (c:=100) rfl (by omega) (by omega)
   have b8:=fun (H:AHeap) (X Y:Operand)=>mul32 (P:=prog) (H:=H) (T:=30) (x:=X) (y:=Y) (a:=u % 100000000 / 10000 / 100) (by omega)
   have b9:=fun (H:AHeap) (X Y:Operand)=>rem32 (P:=prog) (H:=H) (T:=30) (x:=X) (y:=Y) (a:=u % 100000000 / 10000) (n:=100) (c:=100) rfl (by omega)
   have ba:=fun (H:AHeap) (X Y:Operand)=>mul32 (P:=prog) (H:=H) (T:=30) (x:=X) (y:=Y) (a:=u % 100000000 / 10000 % 100) (by omega)
   have s1:=fun (H:AHeap) (X Y:Operand)=>subN (P:=prog) (H:=H) (T:=3) (x:=X) (y:=Y) (a:=n+8) (j:=1) (c:=1) rfl (by omega) (by omega)
   replace s1:∀ (H:AHeap) (X Y:Operand),aBin2 prog H .sub 3 X Y (i64 ((n+8:Nat):Int)) (i64 1)=some (i64 ((n+7:Nat):Int)):=s1
   have g:=fun (H:AHeap) (X Y:Operand)=>subN (P:=prog) (H:=H) (T:=3) (x:=X) (y:=Y) (a:=n+8) (j:=2) (c:=2) rfl (by omega) (by omega)
   replace g:∀ (H:AHeap) (X Y:Operand),aBin2 prog H .sub 3 X Y (i64 ((n+8:Nat):Int)) (i64 2)=some (i64 ((n+6:Nat):Int)):=g
   have l:=fun (H:AHeap) (X Y:Operand)=>subN (P:=prog) (H:=H) (T:=3) (x:=X) (y:=Y) (a:=n+8) (j:=3) (c:=3) rfl (by omega) (by omega)
   replace l:∀ (H:AHeap) (X Y:Operand),aBin2 prog H .sub 3 X Y (i64 ((n+8:Nat):Int)) (i64 3)=some (i64 ((n+5:Nat):Int)):=l
   have s4:=fun (H:AHeap) (X Y:Operand)=>subN (P:=prog) (H:=H) (T:=3) (x:=X) (y:=Y) (a:=n+8) (j:=4) (c:=4) rfl (by omega) (by omega)
   replace s4:∀ (H:AHeap) (X Y:Operand),aBin2 prog H .sub 3 X Y (i64 ((n+8:Nat):Int)) (i64 4)=some (i64 ((n+4:Nat):Int)):=s4
   have m:=fun (H:AHeap) (X Y:Operand)=>subN (P:=prog) (H:=H) (T:=3) (x:=X) (y:=Y) (a:=n+8) (j:=5) (c:=5) rfl (by omega) (by omega)
   replace m:∀ (H:AHeap) (X Y:Operand),aBin2 prog H .sub 3 X Y (i64 ((n+8:Nat):Int)) (i64 5)=some (i64 ((n+3:Nat):Int)):=m
   have h:=fun (H:AHeap) (X Y:Operand)=>subN (P:=prog) (H:=H) (T:=3) (x:=X) (y:=Y) (a:=n+8) (j:=6) (c:=6) rfl (by omega) (by omega)
   replace h:∀ (H:AHeap) (X Y:Operand),aBin2 prog H .sub 3 X Y (i64 ((n+8:Nat):Int)) (i64 6)=some (i64 ((n+2:Nat):Int)):=h
   have p:=fun (H:AHeap) (X Y:Operand)=>subN (P:=prog) (H:=H) (T:=3) (x:=X) (y:=Y) (a:=n+8) (j:=7) (c:=7) rfl (by omega) (by omega)
   replace p:∀ (H:AHeap) (X Y:Operand),aBin2 prog H .sub 3 X Y (i64 ((n+8:Nat):Int)) (i64 7)=some (i64 ((n+1:Nat):Int)):=p
   have e:=fun (H:AHeap) (X Y:Operand)=>subN (P:=prog) (H:=H) (T:=3) (x:=X) (y:=Y) (a:=n+8) (j:=8) (c:=8) rfl (by omega) (by omega)
   replace e:∀ (H:AHeap) (X Y:Operand),aBin2 prog H .sub 3 X Y (i64 ((n+8:Nat):Int)) (i64 8)=some (i64 ((n+0:Nat):Int)):=e
   have r0a:=row_at (o:=o) (nd:=m0) (c:=c) (i:=n+7) hb hc (by omega)
   have t0a:=row_sto (i:=o+(n+7)) (d:=(u % 100000000 % 10000 % 100) % 10) hb hc (by omega)
   have g0a:=set_get (y:=.cells (cs.set (o+(n+7)) (dgt ((u % 100000000 % 10000 % 100) % 10))) T) hb
   have l0a:=set_len (i:=o+(n+7)) (v:=dgt ((u % 100000000 % 10000 % 100) % 10)) hc
   have r0b:=row_at (o:=o) (nd:=m0) (c:=c) (i:=n+6) g0a l0a (by omega)
   have t0b:=row_sto (i:=o+(n+6)) (d:=(u % 100000000 % 10000 % 100) / 10) g0a l0a (by omega)
   have g0b:=set_get (y:=.cells ((cs.set (o+(n+7)) (dgt ((u % 100000000 % 10000 % 100) % 10))).set (o+(n+6)) (dgt ((u % 100000000 % 10000 % 100) / 10))) T) g0a
   have l0b:=set_len (i:=o+(n+6)) (v:=dgt ((u % 100000000 % 10000 % 100) / 10)) l0a
   have x0:=sm_ix 0 p0
   have a0:=fun (H:AHeap) (X Y:Operand)=>add32 (P:=prog) (H:=H) (T:=30) (x:=X) (y:=Y) (a:=u % 100000000 % 10000 % 100) (by omega)
   have r1a:=row_at (o:=o) (nd:=m0) (c:=c) (i:=n+5) g0b l0b (by omega)
   have t1a:=row_sto (i:=o+(n+5)) (d:=(u % 100000000 % 10000 / 100) % 10) g0b l0b (by omega)
   have g1a:=set_get (y:=.cells (((cs.set (o+(n+7)) (dgt ((u % 100000000 % 10000 % 100) % 10))).set (o+(n+6)) (dgt ((u % 100000000 % 10000 % 100) / 10))).set (o+(n+5)) (dgt ((u % 100000000 % 10000 / 100) % 10))) T) g0b
   have l1a:=set_len (i:=o+(n+5)) (v:=dgt ((u % 100000000 % 10000 / 100) % 10)) l0b
   have r1b:=row_at (o:=o) (nd:=m0) (c:=c) (i:=n+4) g1a l1a (by omega)
   have t1b:=row_sto (i:=o+(n+4)) (d:=(u % 100000000 % 10000 / 100) / 10) g1a l1a (by omega)
   have g1b:=set_get (y:=.cells ((((cs.set (o+(n+7)) (dgt ((u % 100000000 % 10000 % 100) % 10))).set (o+(n+6)) (dgt ((u % 100000000 % 10000 % 100) / 10))).set (o+(n+5)) (dgt ((u % 100000000 % 10000 / 100) % 10))).set (o+(n+4)) (dgt ((u % 100000000 % 10000 / 100) / 10))) T) g1a
   have l1b:=set_len (i:=o+(n+4)) (v:=dgt ((u % 100000000 % 10000 / 100) / 10)) l1a
   have x1:=sm_ix 0 p1
   have a1:=fun (H:AHeap) (X Y:Operand)=>add32 (P:=prog) (H:=H) (T:=30) (x:=X) (y:=Y) (a:=u % 100000000 % 10000 / 100) (by omega)
   have r2a:=row_at (o:=o) (nd:=m0) (c:=c) (i:=n+3) g1b l1b (by omega)
   have t2a:=row_sto (i:=o+(n+3)) (d:=(u % 100000000 / 10000 % 100) % 10) g1b l1b (by omega)
   have g2a:=set_get (y:=.cells (((((cs.set (o+(n+7)) (dgt ((u % 100000000 % 10000 % 100) % 10))).set (o+(n+6)) (dgt ((u % 100000000 % 10000 % 100) / 10))).set (o+(n+5)) (dgt ((u % 100000000 % 10000 / 100) % 10))).set (o+(n+4)) (dgt ((u % 100000000 % 10000 / 100) / 10))).set (o+(n+3)) (dgt ((u % 100000000 / 10000 % 100) % 10))) T) g1b
   have l2a:=set_len (i:=o+(n+3)) (v:=dgt ((u % 100000000 / 10000 % 100) % 10)) l1b
   have r2b:=row_at (o:=o) (nd:=m0) (c:=c) (i:=n+2) g2a l2a (by omega)
   have t2b:=row_sto (i:=o+(n+2)) (d:=(u % 100000000 / 10000 % 100) / 10) g2a l2a (by omega)
   have g2b:=set_get (y:=.cells ((((((cs.set (o+(n+7)) (dgt ((u % 100000000 % 10000 % 100) % 10))).set (o+(n+6)) (dgt ((u % 100000000 % 10000 % 100) / 10))).set (o+(n+5)) (dgt ((u % 100000000 % 10000 / 100) % 10))).set (o+(n+4)) (dgt ((u % 100000000 % 10000 / 100) / 10))).set (o+(n+3)) (dgt ((u % 100000000 / 10000 % 100) % 10))).set (o+(n+2)) (dgt ((u % 100000000 / 10000 % 100) / 10))) T) g2a
   have l2b:=set_len (i:=o+(n+2)) (v:=dgt ((u % 100000000 / 10000 % 100) / 10)) l2a
   have x2:=sm_ix 0 p2
   have a2:=fun (H:AHeap) (X Y:Operand)=>add32 (P:=prog) (H:=H) (T:=30) (x:=X) (y:=Y) (a:=u % 100000000 / 10000 % 100) (by omega)
   have r3a:=row_at (o:=o) (nd:=m0) (c:=c) (i:=n+1) g2b l2b (by omega)
   have t3a:=row_sto (i:=o+(n+1)) (d:=(u % 100000000 / 10000 / 100) % 10) g2b l2b (by omega)
   have g3a:=set_get (y:=.cells (((((((cs.set (o+(n+7)) (dgt ((u % 100000000 % 10000 % 100) % 10))).set (o+(n+6)) (dgt ((u % 100000000 % 10000 % 100) / 10))).set (o+(n+5)) (dgt ((u % 100000000 % 10000 / 100) % 10))).set (o+(n+4)) (dgt ((u % 100000000 % 10000 / 100) / 10))).set (o+(n+3)) (dgt ((u % 100000000 / 10000 % 100) % 10))).set (o+(n+2)) (dgt ((u % 100000000 / 10000 % 100) / 10))).set (o+(n+1)) (dgt ((u % 100000000 / 10000 / 100) % 10))) T) g2b
   have l3a:=set_len (i:=o+(n+1)) (v:=dgt ((u % 100000000 / 10000 / 100) % 10)) l2b
   have r3b:=row_at (o:=o) (nd:=m0) (c:=c) (i:=n+0) g3a l3a (by omega)
   have t3b:=row_sto (i:=o+(n+0)) (d:=(u % 100000000 / 10000 / 100) / 10) g3a l3a (by omega)
   have g3b:=set_get (y:=.cells ((((((((cs.set (o+(n+7)) (dgt ((u % 100000000 % 10000 % 100) % 10))).set (o+(n+6)) (dgt ((u % 100000000 % 10000 % 100) / 10))).set (o+(n+5)) (dgt ((u % 100000000 % 10000 / 100) % 10))).set (o+(n+4)) (dgt ((u % 100000000 % 10000 / 100) / 10))).set (o+(n+3)) (dgt ((u % 100000000 / 10000 % 100) % 10))).set (o+(n+2)) (dgt ((u % 100000000 / 10000 % 100) / 10))).set (o+(n+1)) (dgt ((u % 100000000 / 10000 / 100) % 10))).set (o+(n+0)) (dgt ((u % 100000000 / 10000 / 100) / 10))) T) g3a
   have l3b:=set_len (i:=o+(n+0)) (v:=dgt ((u % 100000000 / 10000 / 100) / 10)) l3a
   have x3:=sm_ix 0 p3
   have a3:=fun (H:AHeap) (X Y:Operand)=>add32 (P:=prog) (H:=H) (T:=30) (x:=X) (y:=Y) (a:=u % 100000000 / 10000 / 100) (by omega)
   simp only [b1,b2,b3,b4,b5,b6,b7,b8,b9,ba,bnd_some]
   simp only [bnd_some,s1,g,a0,x0.1,x0.2,r0a]
   refine bndK_of ⟨rfl,t0a⟩ ⟨x0.1,g _ _ _,trivial⟩ ?_
   simp only [r0b,bnd_some]
   refine bndK_bar ⟨rfl,t0b⟩ ?_
   simp only [bnd_some,l,s4,a1,x1.1,x1.2,r1a]
   refine bndK_of ⟨rfl,t1a⟩ ⟨x1.1,s4 _ _ _,trivial⟩ ?_
   simp only [r1b,bnd_some]
   refine bndK_bar ⟨rfl,t1b⟩ ?_
   simp only [bnd_some,m,h,a2,x2.1,x2.2,r2a]
   refine bndK_of ⟨rfl,t2a⟩ ⟨x2.1,h _ _ _,trivial⟩ ?_
   simp only [r2b,bnd_some]
   refine bndK_bar ⟨rfl,t2b⟩ ?_
   simp only [bnd_some,p,e,a3,x3.1,x3.2,r3a]
   refine bndK_of ⟨rfl,t3a⟩ ⟨x3.1,e _ _ _,trivial⟩ ?_
   simp only [r3b,bnd_some]
   refine bndK_bar ⟨rfl,t3b⟩ ?_
   simp only [e,bnd_some]
   have hu':u / 100000000 < 10 ^ n:=by rw [Nat.div_lt_iff_lt_mul (by omega)];rw [Nat.pow_add] at hu;exact hu
   refine ih n (u / 100000000) _ _ (by omega) g3b l3b (by omega) hu' (by omega) (by omega) ?_ _ _ _ _ _ _ _ _ _ _ _ _ _ _ _ _ _ _ _ _ _ _ _ _ _ _ _ _ _ _ _ _ _ _ _ _ _ _ _ _ _ _ _ _ _ _ _ _ _ _ _ _ _ _ _ _ _ _ _ _ _ _ _ _ _ _ _ _ _ _ _ _ _ _ _ _ _ _ _ _ _ _ _ _ _ _ _ _ _ _ _ _ _ _ _ _ _ _ _ _ _ _ _ _ _ _ _ _ _ _ _ _ _ _ _ _ _ _ _ _ _ _ _ _ _ _ _ _ _ _ _ _ _ _ _ _ _ _ _ _ _ _ _ _ _ _ _ _ _ _ _ _ _ _ _ _ _ _ _ _ _ _ _ _
   rw [List.set_set,List.set_set,List.set_set,List.set_set,List.set_set,List.set_set,List.set_set,List.set_set]
   rw [putD_eight] at hk
   exact hk
theorem c_formatBase10 {H:AHeap} {b o nd c u:Nat} {cs:List Value} {T:TypeId} (hb:H[b]?=some (.cells cs T)) (hc:cs.length=24) (ho:o+nd≤24) (hu:u < 10 ^ nd) (hu64:u < 2 ^ 64) :
  ACalls prog 66 [.slice (some ⟨b,o,some 24⟩) nd c,u64 (u:Int)] H (.tuple #[]) (H.set b (.cells (putD o nd u cs) T)):=by
 refine acallsKo MixT func66 (by decide) ?_
 rw [d66]
 simp
 exact ⟨3+1,fb_loop 3 nd u H cs (by omega) hb hc ho hu hu64 (Nat.le_refl _) ⟨rfl,rfl⟩ _ _ _ _ _ _ _ _ _ _ _ _ _ _ _ _ _ _ _ _ _ _ _ _ _ _ _ _ _ _ _ _ _ _ _ _ _ _ _ _ _ _ _ _ _ _ _ _ _ _ _ _ _ _ _ _ _ _ _ _ _ _ _ _ _ _ _ _ _ _ _ _ _ _ _ _ _ _ _ _ _ _ _ _ _ _ _ _ _ _ _ _ _ _ _ _ _ _ _ _ _ _ _ _ _ _ _ _ _ _ _ _ _ _ _ _ _ _ _ _ _ _ _ _ _ _ _ _ _ _ _ _ _ _ _ _ _ _ _ _ _ _ _ _ _ _ _ _ _ _ _ _ _ _ _ _ _ _ _ _ _ _ _ _⟩
end Go.Vi
namespace Go.Vi
open Go Go.Proofs Go.Proofs.Tryz
def digs:Nat→Nat→List UInt8
 | 0,_=>[]
 | n+1,u=>digs n (u / 10)++[UInt8.ofNat (48+u % 10)]
theorem digs_len:∀ (n u:Nat),(digs n u).length=n:=by
 intro n
 induction n with
 | zero=>intro u;rfl
 | succ n ih=>intro u;rw [digs];simp [ih]
theorem putD_eq:∀ (n o u:Nat) (cs:List Value),o+n≤cs.length→putD o n u cs=cs.take o++bcells (digs n u)++cs.drop (o+n):=by
 intro n
 induction n with
 | zero=>intro o u cs _;simp [putD,digs,bcells]
 | succ n ih =>
   intro o u cs h
   rw [putD,ih _ _ _ (by simp;omega),digs]
   have e1:(cs.set (o+n) (dgt (u % 10))).take o=cs.take o:=by
    rw [List.take_set_of_le (by omega)]
   have e2:(cs.set (o+n) (dgt (u % 10))).drop (o+n)=dgt (u % 10) :: cs.drop (o+(n+1)):=by
    rw [List.drop_eq_getElem_cons (by simp;omega),List.getElem_set_self,List.drop_set_of_lt (by omega)]
    rfl
   rw [e1,e2]
   simp [bcells,dgt]
def natS (n:Nat):List UInt8:=if n=0 then [48] else digs (ndig n) n
def fmtS (x:Int):List UInt8:=if x < 0 then 45 :: natS x.natAbs else natS x.natAbs
theorem small_txt:(∀ n:Nat,n < 10→dgS.extract n (n+1)=⟨(natS n).toArray⟩)∧(∀ n:Nat,n < 100→10≤n→smS.extract (2*n) (2*n+2)=⟨(natS n).toArray⟩):=by
 constructor<;>decide +kernel
theorem convBytes {H:AHeap} {b o n c:Nat} {cs:List Value} {l:List UInt8} (hb:hcells H b=some cs) (hcs:(cs.drop o).take n=bcells l) (_hn:n=l.length) (hle:o+n≤cs.length) :
  convV prog H 45 9 (.slice (some ⟨b,o,some cs.length⟩) n c)=some (str l):=by
 have hu:∀ l:List UInt8,u8s (bcells l)=some (l.map fun b=>(b.toNat:Int)):=by
  intro l
  induction l with
  | nil=>rfl
  | cons x r ih=>simp only [bcells,List.map_cons,u8s];simp only [bcells] at ih;rw [ih];rfl
 have hs:∀ l:List UInt8,strOfNums (l.map fun b=>(b.toNat:Int))=⟨l.toArray⟩:=by
  intro l
  unfold strOfNums
  simp
  exact (List.map_congr_left fun b _=>by simp).trans (List.map_id _)
 simp [convV,aConv,hb,hle,hcs,hu,hs,isU8]
theorem wrapN {x:Int} (h1:-9223372036854775808≤x) (h2:x < 0):IntKind.u64.wrap (0-IntKind.u64.wrap x)=x.natAbs:=by
 have:IntKind.u64.wrap x=x+18446744073709551616:=by
  unfold IntKind.wrap
  simp [IntKind.bits,IntKind.signed]
  omega
 rw [this]
 unfold IntKind.wrap
 simp [IntKind.bits,IntKind.signed]
 omega
theorem cellFx {M:AHeap} {b:Nat} {cs:List Value} {T:TypeId} (h:M[b]?=some (.cells cs T)):hcells M b=some cs∧hlen M b=some cs.length:=by
 have:hcells M b=some cs:=by rw [hcells_eq,h];rfl
 exact ⟨this,hcells_len this⟩
set_option maxRecDepth 20000 in
theorem c_small {H:AHeap} {n:Nat} (hn:n < 100):ACalls prog 64 [i64 n] H (str (natS n)) H:=by
 refine acalls_pure MixT func64 (by decide) rfl ?_
 rw [d64]
 have w1:IntKind.i64.wrap ((n:Int)*2)=2*(n:Int):=by rw [wrap_i64 (by omega) (by omega)];omega
 have w2:IntKind.i64.wrap (2*(n:Int)+2)=2*(n:Int)+2:=wrap_i64 (by omega) (by omega)
 have hu:prog.underlying 9=some .string:=by simp
 have z1:10≤dgS.size:=by decide +kernel
 have z2:smS.size=200:=by decide +kernel
 by_cases h:n < 10
 · have hI:(n:Int) < 10:=by omega
   have hs:aSliceOp prog H 9 (.string dgS) (some (i64 n)) (some (i64 ((n:Int)+1)))=some (str (natS n)):=by
    simp only [aSliceOp,hu,aLow,aHigh]
    rw [if_pos ⟨by omega,by omega,by omega⟩]
    have e1:((n:Int)+1).toNat=n+1:=by omega
    simp only [Int.toNat_natCast,e1,small_txt.1 n h]
   simp [hI,show n+1 < 2 ^ 63 by omega,hs]
 · have hI:¬ (n:Int) < 10:=by omega
   have hs:aSliceOp prog H 9 (.string smS) (some (i64 (2*(n:Int)))) (some (i64 (2*(n:Int)+2)))=some (str (natS n)):=by
    simp only [aSliceOp,hu,aLow,aHigh,z2]
    rw [if_pos ⟨by omega,by omega,by omega⟩]
    have e1:(2*(n:Int)+2).toNat=2*n+2:=by omega
    have e2:(2*(n:Int)).toNat=2*n:=by omega
    simp only [e1,e2,small_txt.2 n hn (by omega)]
   simp [hI,w1,w2,hs]
theorem slice_arr {H:AHeap} {b m n:Nat} {e:TypeId} {T:TypeId} {lo hi:Option Value} {l h:Nat} (hu:prog.underlying T=some (.array n e)) (hs:tsize prog e=some 1) (hb:hlen H b=some m) (h1:aLow lo=some (l:Int)) (h2:aHigh n hi=some (h:Int)) (h3:l≤h) (h4:h≤n) :
  aSliceOp prog H T (.pointer (some ⟨b,0,some m⟩)) lo hi=some (.slice (some ⟨b,l,some m⟩) (h-l) (n-l)):=by
 simp only [aSliceOp,hu,h1,h2,hs,hb]
 rw [if_pos ⟨trivial,by omega,by omega,by omega⟩]
 have e1:((h:Int)-l).toNat=h-l:=by omega
 simp [e1]
theorem take_neg {D r:List Value} {z v:Value} {n:Nat} (h:D.length=n):((((z :: D)++r).set 0 v).drop 0).take (1+n)=v :: D:=by
 subst h
 simp [Nat.add_comm 1]
theorem take_pos {D r:List Value} {z:Value} {n:Nat} (h:D.length=n):(((z :: D)++r).drop 1).take n=D:=by
 subst h
 simp
theorem fi_tail {H K:AHeap} {b:Nat} {x:Int} {k:Value→AHeap→Prop} (hg:Pw K) (hb:K[b]?=some (.cells (List.replicate 24 (.int .u8 0)) 102)) (hbH:H.length≤b) (hp:Pre H K) (h0:x≠0) (h1:-9223372036854775808≤x) (h2:x < 9223372036854775808)
  (hk:∀ K,Pre H K→k (str (fmtS x)) K) (a d s3 s4 s7 s8 s9 f g j p q r s t v w y A B C D E F G I J L O Q R S U V W X Y Z aa ab ac ad ae af ag ah ai aj ak al am:Value):S47x0 k [i64 x,a,d,s3,s4,.pointer (some ⟨b,0,some 24⟩),u64 (x.natAbs:Int),s7,s8,s9,f,g,j,p,q,r,s,t,v,w,y,A,B,C,D,E,F,G,I,J,L,O,Q,R,S,U,V,W,X,Y,Z,aa,ab,ac,ad,ae,af,ag,ah,ai,aj,ak,al,am] K:=by
 have hu0:0 < x.natAbs:=by omega
 have hu1:x.natAbs < 2 ^ 64:=by omega
 obtain ⟨n1,n2,n3,n4⟩:=ndig_ok hu0 hu1
 generalize hnd:ndig x.natAbs=nd at n1 n2 n3 n4
 rw [S47x0q]
 refine bndC_of (c_numDigits hg hu0 hu1) ?_
 rw [hnd]
 have hl:hlen K b=some 24:=(cellFx hb).2.trans (by simp)
 have a:∀ K,hlen K b=some 24→aSliceOp prog K 102 (.pointer (some ⟨b,0,some 24⟩)) (some (i64 1)) (some (i64 (1+(nd:Int))))=some (.slice (some ⟨b,1,some 24⟩) nd 23):=fun K hl=>by
  have:=slice_arr (H:=K) (T:=102) (n:=24) (e:=5) (lo:=some (i64 1)) (hi:=some (i64 (1+(nd:Int)))) (l:=1) (h:=1+nd) (by simp) (by simp) hl rfl (by simp [aHigh]) (by omega) (by omega)
  simpa using this
 have w1:IntKind.i64.wrap (1+(nd:Int))=1+(nd:Int):=wrap_i64 (by omega) (by omega)
 simp [w1,a K hl]
 have hfb:=c_formatBase10 (H:=K) (b:=b) (o:=1) (nd:=nd) (c:=23) (u:=x.natAbs) hb (by simp) (by omega) n3 hu1
 refine bndC_of hfb ?_
 have hput:=putD_eq nd 1 x.natAbs (List.replicate 24 (.int .u8 0)) (by simp;omega)
 have hlen:=putD_len nd 1 x.natAbs (List.replicate 24 (.int .u8 0))
 rw [List.length_replicate] at hlen
 have hfm:natS x.natAbs=digs nd x.natAbs:=by unfold natS;rw [if_neg (by omega),hnd]
 have hdl:=digs_len nd x.natAbs
 have hput':putD 1 nd x.natAbs (List.replicate 24 (.int .u8 0))=(Value.int .u8 0 :: bcells (digs nd x.natAbs))++(List.replicate 24 (.int .u8 0)).drop (1+nd):=by rw [hput];rfl
 clear hput
 have hbl:b < K.length:=(List.getElem?_eq_some_iff.1 hb).1
 generalize putD 1 nd x.natAbs (List.replicate 24 (.int .u8 0))=cs at hput' hlen
 have hM:(K.set b (.cells cs 102))[b]?=some (.cells cs 102):=List.getElem?_set_self hbl
 have hpM:Pre H (K.set b (.cells cs 102)):=hp.set hbH
 dsimp only
 generalize K.set b (.cells cs 102)=M at hM hpM ⊢
 obtain ⟨m1,m2⟩:=cellFx hM
 rw [hlen] at m2
 by_cases hx:x < 0
 · have hf:fmtS x=45 :: digs nd x.natAbs:=by unfold fmtS;rw [if_pos hx,hfm]
   have ha:=aIndexAddr_arr (P:=prog) (H:=M) (T:=102) (n:=24) (e:=5) (b:=b) (o:=0) (m:=24) (z:=1) (k:=.i64) (i:=0) (by simp) (by simp) m2 (by omega) (by omega)
   simp at ha
   simp [hx,ha,hM,hlen]
   have hN:(M.set b (.cells (cs.set 0 (.int .u8 45)) 102))[b]?=some (.cells (cs.set 0 (.int .u8 45)) 102):=List.getElem?_set_self (List.getElem?_eq_some_iff.1 hM).1
   have hpN:Pre H (M.set b (.cells (cs.set 0 (.int .u8 45)) 102)):=hpM.set hbH
   generalize M.set b (.cells (cs.set 0 (.int .u8 45)) 102)=N at hN hpN ⊢
   obtain ⟨m3,m4⟩:=cellFx hN
   rw [List.length_set,hlen] at m4
   have d:=slice_arr (H:=N) (T:=102) (n:=24) (e:=5) (lo:=none) (hi:=some (i64 (1+(nd:Int)))) (l:=0) (h:=1+nd) (by simp) (by simp) m4 rfl (by simp [aHigh]) (by omega) (by omega)
   have c2:=convBytes (c:=24) m3 (o:=0) (n:=1+nd) (l:=fmtS x) (by rw [hf,hput'];exact take_neg (by simp [bcells,hdl])) (by rw [hf];simp [hdl];omega) (by simp [hlen];omega)
   simp [hlen] at d c2
   simp [w1,d,c2]
   exact hk N hpN
 · have hf:fmtS x=digs nd x.natAbs:=by unfold fmtS;rw [if_neg hx,hfm]
   have c2:=convBytes (c:=23) m1 (o:=1) (n:=nd) (l:=fmtS x) (by rw [hf,hput'];exact take_pos (by simp [bcells,hdl])) (by rw [hf,hdl]) (by omega)
   rw [hlen] at c2
   simp [hx,w1,a M m2,c2]
   exact hk M hpM
theorem c_formatInt0 {H:AHeap} (hg:Pw H) {x:Int} (h1:-9223372036854775808≤x) (h2:x < 9223372036854775808):ACalls prog 47 [i64 x,i64 10] H (str (fmtS x)) H:=by
 refine acalls_pure MixT func47 (by decide) rfl ?_
 rw [d47]
 by_cases hs:0≤x∧x < 100
 · obtain ⟨n,rfl⟩:∃ n:Nat,x=n:=⟨x.toNat,by omega⟩
   have hf:fmtS (n:Int)=natS n:=by unfold fmtS;rw [if_neg (by omega)];rfl
   simp [hs]
   refine bndC_of (c_small (by omega)) ?_
   rw [hf]
   exact ⟨rfl,[],by simp⟩
 · have h0:x≠0:=by omega
   have hb:(H++[AObj.cells (List.replicate 24 (.int .u8 0)) 102])[H.length]?=some (.cells (List.replicate 24 (.int .u8 0)) 102):=by simp
   by_cases hx:x < 0
   · have hx0:¬ 0≤x:=by omega
     have hw:=wrapN h1 hx
     simp [hx,hx0] at hw ⊢
     simp only [hw]
     exact fi_tail (H:=H) (b:=H.length) (x:=x) (k:=fun u H2=>u=str (fmtS x)∧∃ X,H2=H++X) (hg.more _) hb (Nat.le_refl _) (.app _ _) h0 h1 h2 (fun K p=>⟨rfl,p⟩) _ _ _ _ _ _ _ _ _ _ _ _ _ _ _ _ _ _ _ _ _ _ _ _ _ _ _ _ _ _ _ _ _ _ _ _ _ _ _ _ _ _ _ _ _ _ _ _ _ _ _
   · have hx0:0≤x:=by omega
     have hx1:¬ x < 100:=by omega
     have hw:IntKind.u64.wrap x=x.natAbs:=by rw [wrapU hx0 (by omega)];omega
     simp [hx,hx0,hx1,hw]
     exact fi_tail (H:=H) (b:=H.length) (x:=x) (k:=fun u H2=>u=str (fmtS x)∧∃ X,H2=H++X) (hg.more _) hb (Nat.le_refl _) (.app _ _) h0 h1 h2 (fun K p=>⟨rfl,p⟩) _ _ _ _ _ _ _ _ _ _ _ _ _ _ _ _ _ _ _ _ _ _ _ _ _ _ _ _ _ _ _ _ _ _ _ _ _ _ _ _ _ _ _ _ _ _ _ _ _ _ _
theorem c_formatInt {H:AHeap} (hg:Pw H) {x:Int} (h1:-9223372036854775808≤x) (h2:x < 9223372036854775808):ACalls prog 74 [i64 x,i64 10] H (str (fmtS x)) H:=by
 refine acalls_pure MixT func74 (by decide) rfl ?_
 rw [d74]
 exact bndC_of (c_formatInt0 hg h1 h2) ⟨rfl,[],by simp⟩
end Go.Vi
namespace Go.Vi
open Go Go.Proofs Go.Proofs.Tryz
theorem c_itoa0 {H:AHeap} (hg:Pw H) {x:Int} (h1:-9223372036854775808≤x) (h2:x < 9223372036854775808):ACalls prog 30 [i64 x] H (str (fmtS x)) H:=by
 refine acalls_pure MixT func30 (by decide) rfl ?_
 rw [d30]
 exact bndC_of (c_formatInt0 hg h1 h2) ⟨rfl,[],by simp⟩
theorem c_itoa {H:AHeap} (hg:Pw H) {x:Int} (h1:-9223372036854775808≤x) (h2:x < 9223372036854775808):ACalls prog 17 [i64 x] H (str (fmtS x)) H:=by
 refine acalls_pure MixT func17 (by decide) rfl ?_
 rw [d17]
 exact bndC_of (c_itoa0 hg h1 h2) ⟨rfl,[],by simp⟩
def trimR (b:UInt8):List UInt8→List UInt8
 | []=>[]
 | x :: r => match trimR b r with
   | []=>if x=b then [] else [x]
   | y :: s=>x :: y :: s
theorem trimR_snoc (b x:UInt8):∀ l,trimR b (l++[x])=if x=b then trimR b l else l++[x]:=by
 intro l
 induction l with
 | nil=>simp [trimR]
 | cons y r ih =>
   rw [List.cons_append,trimR,ih]
   by_cases h:x=b
   · simp [h,trimR]
   · simp only [h,if_false]
     cases hr:r++[x] with
     | nil=>simp at hr
     | cons z s=>simp
theorem trim_loop {H:AHeap} {b:UInt8} {k:Value→AHeap→Prop} (w:List UInt8) (hk:k (str w) H):∀ (n:Nat) (l:List UInt8) (y z A B C D E F c d f g j m o p q s t u v:Value),l.length=n→l.length < 2 ^ 62→trimR b l=w →
  L91x0 (n+1) k [str l,byt b,y,z,A,B,C,D,E,F,c,d,f,g,j,m,o,p,q,s,t,u,v] H:=by
 intro n
 induction n with
 | zero =>
   intro l y z A B C D E F c d f g j m o p q s t u v hn hl hw
   have:l=[]:=List.length_eq_zero_iff.1 hn
   subst this
   rw [L91x0q]
   simp
   rw [← hw] at hk
   exact hk
 | succ n ih =>
   intro l y z A B C D E F c d f g j m o p q s t u v hn hl hw
   obtain ⟨r,x,rfl⟩:∃ r x,l=r++[x]:=by
    rcases List.eq_nil_or_concat l with rfl | ⟨r,x,h⟩
    · simp at hn
    · exact ⟨r,x,by simpa using h⟩
   have hr:r.length=n:=by simpa using hn
   have hix:=aIndex_at (P:=prog) (T:=9) (k:=.i64) (l:=r++[x]) (i:=r.length) (b:=x) (by simp) (by simp)
   have hs:=aSliceOp_str (P:=prog) (H:=H) (T:=9) (l:=r++[x]) (lo:=none) (hi:=some (i64 r.length)) (a:=0) (b:=r.length) (by simp) rfl rfl (by omega) (by omega) (by simp;omega)
   simp at hs
   have hw0:IntKind.i64.wrap (r.length:Int)=r.length:=wrap_i64 (by omega) (by simp at hl;omega)
   rw [trimR_snoc] at hw
   rw [L91x0q]
   by_cases hx:x=b
   · rw [if_pos hx] at hw
     subst hx
     simp [hix,hs,hw0]
     exact ih r _ _ _ _ _ _ _ _ _ _ _ _ _ _ _ _ _ _ _ _ _ hr (by simp at hl;omega) hw
   · rw [if_neg hx] at hw
     have hx':((x.toNat:Int) == (b.toNat:Int))=false:=by
      rw [beq_eq_false_iff_ne]
      exact fun e=>hx (UInt8.toNat_inj.1 (by omega))
     simp [hix,hx',hw0]
     rw [← hw] at hk
     exact hk
theorem c_trimByte {H:AHeap} {b:UInt8} {l:List UInt8} (hl:l.length < 2 ^ 62):ACalls prog 91 [str l,byt b] H (str (trimR b l)) H:=by
 refine acalls_pure MixT func91 (by decide) rfl ?_
 rw [d91]
 exact ⟨l.length+1,trim_loop (trimR b l) ⟨rfl,[],by simp⟩ l.length l _ _ _ _ _ _ _ _ _ _ _ _ _ _ _ _ _ _ _ _ _ rfl hl rfl⟩
theorem c_trimRight {H:AHeap} {l:List UInt8} (hl:l.length < 2 ^ 62):ACalls prog 75 [str l,str [48]] H (str (trimR 48 l)) H:=by
 refine acalls_pure MixT func75 (by decide) rfl ?_
 rw [d75]
 have hix:=aIndex_at (P:=prog) (T:=9) (k:=.i64) (l:=[48]) (i:=0) (b:=48) (by simp) rfl
 simp at hix
 by_cases h0:l=[]
 · subst h0
   simp
   rfl
 · have h0':¬ (⟨l.toArray⟩:ByteArray)=⟨#[]⟩:=fun e=>h0 (by simpa using e)
   simp [h0',hix]
   refine bndC_of (c_trimByte hl) ⟨rfl,[],by simp⟩
def fixS (x:Int):List UInt8 :=
 (if sat x < 0 then [45] else [])++fmtS (((sat x).natAbs / 1000:Nat):Int)++if (sat x).natAbs % 1000=0 then [] else 46 :: trimR 48 ((fmtS ((1000+(sat x).natAbs % 1000:Nat):Int)).drop 1)
theorem natS_len {n:Nat} (h:n < 2 ^ 64):(natS n).length≤20:=by
 unfold natS
 split
 · simp
 · rw [digs_len];exact (ndig_ok (by omega) h).2.1
theorem fmtS_nat (n:Nat):fmtS (n:Int)=natS n:=by
 unfold fmtS;rw [if_neg (by omega)];rfl
theorem trimR_len (b:UInt8):∀ l:List UInt8,(trimR b l).length≤l.length:=by
 intro l
 induction l with
 | nil=>exact Nat.le_refl _
 | cons x r ih =>
   rw [trimR]
   split
   · split<;>simp
   · rename_i h;rw [h] at ih;simpa using ih
theorem fix_tail {H:AHeap} (hg:Pw H) {n:Nat} {sg:List UInt8} {k:Value→AHeap→Prop} (hn:n < 2 ^ 63) (hs:sg.length≤1)
  (hk:k (str (sg++fmtS ((n / 1000:Nat):Int)++if n % 1000=0 then [] else 46 :: trimR 48 ((fmtS ((1000+n % 1000:Nat):Int)).drop 1))) H) (E F G I J K L M d f g h i j o p q r s t u v w z A B C D:Value) :
  S52x0 k [i64 n,E,F,str sg,G,I,J,K,L,M,d,f,g,h,i,j,o,p,q,r,s,t,u,v,w,z,A,B,C,D] H:=by
 simp only [fmtS_nat] at hk
 have l1:=natS_len (n:=n / 1000) (by omega)
 have l2:=natS_len (n:=1000+n % 1000) (by omega)
 have l3:=trimR_len 48 ((natS (1000+n % 1000)).drop 1)
 simp only [List.length_drop] at l3
 have q1:=fun X Y=>quoL (P:=prog) (H:=H) (T:=2) (x:=X) (y:=Y) (k:=.i64) (a:=n) (c:=1000) (n:=1000) rfl (by omega) (wrap_i64 (by omega) (by omega))
 have q2:=fun X Y=>remL (P:=prog) (H:=H) (T:=2) (x:=X) (y:=Y) (k:=.i64) (a:=n) (c:=1000) (n:=1000) rfl (by omega)
 rw [S52x0q]
 simp only [q1,bnd_some]
 refine bndC_of (c_formatInt hg (by omega) (by omega)) ?_
 rw [fmtS_nat]
 have c1:=fun X Y=>aBin_str (P:=prog) (H:=H) (T:=9) (x:=X) (y:=Y) (a:=sg) (b:=natS (n / 1000)) (by omega)
 simp only [c1,bnd_some,q2]
 by_cases h0:n % 1000=0
 · simp [h0,S52x1q]
   simpa [h0] using hk
 · have hp:(0:Int) < ((n % 1000:Nat):Int):=by omega
   have hw:IntKind.i64.wrap (1000+((n % 1000:Nat):Int))=((1000+n % 1000:Nat):Int):=by rw [wrap_i64 (by omega) (by omega)];omega
   rw [if_neg h0] at hk
   have hm:n % 1000 < 1000:=Nat.mod_lt _ (by omega)
   clear q1 q2 c1
   generalize n % 1000=m at hk h0 hp hw l2 l3 hm ⊢
   have hs2:=aSliceOp_str (P:=prog) (H:=H) (T:=9) (l:=natS (1000+m)) (lo:=some (i64 1)) (hi:=none) (a:=1) (b:=(natS (1000+m)).length) (by simp) rfl rfl (by omega) (by
    have:natS (1000+m)≠[]:=by
     unfold natS;rw [if_neg (by omega)]
     intro e
     have:=congrArg List.length e
     rw [digs_len] at this
     have:=(ndig_ok (n:=1000+m) (by omega) (by omega)).1
     simp at *;omega
    have:=List.length_pos_iff.2 this
    omega) (by omega)
   have e1:(List.take (((natS (1000+m)).length:Int).toNat) (natS (1000+m))).drop ((1:Int).toNat)=(natS (1000+m)).drop 1:=by simp
   rw [e1] at hs2
   have hp':((m:Int) > 0):=hp
   simp only [aBin_gtr,bnd_some,hp',decide_true,kifB_true,aBin_add,hw]
   refine bndC_of (c_formatInt hg (by omega) (by omega)) ?_
   rw [fmtS_nat]
   simp only [hs2,bnd_some]
   refine bndC_of (c_trimRight (by simp;omega)) ?_
   generalize trimR 48 ((natS (1000+m)).drop 1)=T at l3 hk ⊢
   have c2:∀ X Y,aBin2 prog H .add 9 X Y (.string ⟨#[46]⟩) (str T)=some (str (46 :: T)):=fun X Y=>aBin_str (a:=[46]) (b:=T) (by simp only [List.length_cons,List.length_nil];omega)
   have c3:=fun X Y=>aBin_str (P:=prog) (H:=H) (T:=9) (x:=X) (y:=Y) (a:=sg++natS (n / 1000)) (b:=46 :: T) (by simp only [List.length_cons,List.length_append];omega)
   simp only [c2,c3,bnd_some,S52x1q]
   exact hk
theorem c_fixPrint {H:AHeap} (hg:Pw H) {x:Int}:ACalls prog 52 [i64 x] H (str (fixS x)) H:=by
 refine acalls_pure MixT func52 (by decide) rfl ?_
 rw [d52]
 refine bndC_of (c_sat H x) ?_
 have hb:-4611686018427387903≤sat x∧sat x≤4611686018427387903:=by unfold sat maxFix;omega
 by_cases h:sat x < 0
 · have hw:IntKind.i64.wrap (0-sat x)=((sat x).natAbs:Int):=by rw [wrap_i64 (by omega) (by omega)];omega
   simp [h] at hw ⊢
   rw [hw]
   refine fix_tail hg (sg:=[45]) (by omega) (by simp) ?_ _ _ _ _ _ _ _ _ _ _ _ _ _ _ _ _ _ _ _ _ _ _ _ _ _ _ _ _
   exact ⟨by unfold fixS;rw [if_pos h],[],by simp⟩
 · have hw:sat x=((sat x).natAbs:Int):=by omega
   have hf:fixS x=[]++fmtS (((sat x).natAbs / 1000:Nat):Int)++if (sat x).natAbs % 1000=0 then [] else 46 :: trimR 48 ((fmtS ((1000+(sat x).natAbs % 1000:Nat):Int)).drop 1):=by unfold fixS;rw [if_neg h]
   simp [h]
   rw [hf]
   generalize (sat x).natAbs=m at hw hf ⊢
   rw [hw]
   refine fix_tail hg (sg:=[]) (by omega) (by simp) ?_ _ _ _ _ _ _ _ _ _ _ _ _ _ _ _ _ _ _ _ _ _ _ _ _ _ _ _ _
   exact ⟨rfl,[],by simp⟩
end Go.Vi
namespace Go.Vi
open Go Go.Proofs Go.Proofs.Tryz
theorem c_mnz {H:AHeap} {n:Nat} (h0:0 < n) (h1:n≤2 ^ 47):ACalls prog 63 [i64 n] H (.slice (some ⟨H.length,0,some n⟩) n n) (H++[.cells (List.replicate n unkV) 5]) :=
 acalls_makeNoZero (n:=(n:Int)) (t:=45) (by omega) (by omega) (by simp) func63 (by kernel_rfl) (by decide) (by kernel_rfl) ⟨#[3],by kernel_rfl⟩
theorem c_grow1 {K:AHeap} {pb n:Nat} (h:K[pb]?=some (.cells [selfP pb,.slice none 0 0] 65)) (h0:0 < n) (h1:n≤2 ^ 46) :
  ∃ K',ACalls prog 46 [selfP pb,i64 n] K (.tuple #[]) K'∧Bld true K' pb []∧Keeps pb K K':=by
 obtain ⟨v,K',⟨rfl,q1,q2⟩,q3⟩:∃ v K',(v=.tuple #[]∧Bld true K' pb []∧Keeps pb K K')∧ACalls prog 46 [selfP pb,i64 n] K v K':=by
  refine acalls_ex MixT func46 (by decide) ?_
  rw [d46]
  obtain ⟨c1,c2⟩:=cellFx h
  simp [nilV,aIsPtr,c1,c2]
  refine bndD_same (v:=i64 0) (by simp [aBuiltin]) ?_
  have w0:IntKind.i64.wrap (n:Int)=n:=wrap_i64 (by omega) (by omega)
  simp [w0]
  refine bndD_of (c_mnz h0 (by omega)) (.inr ⟨_,rfl⟩) ?_
  have c3:hcells (K++[.cells (List.replicate n unkV) 5]) pb=some [selfP pb,.slice none 0 0]:=hcells_more c1
  have c4:hlen (K++[.cells (List.replicate n unkV) 5]) pb=some 2:=by rw [hcells_len c3];rfl
  have e1:(K++[.cells (List.replicate n unkV) 5])[K.length]?=some (.cells (List.replicate n unkV) 5):=by simp
  have e2:=get_more (X:=[.cells (List.replicate n unkV) 5]) h
  have hlt:pb < K.length:=(List.getElem?_eq_some_iff.1 h).1
  obtain ⟨d1,d2⟩:=cellFx e1
  rw [List.length_replicate] at d2
  have hs:aSliceOp prog (K++[.cells (List.replicate n unkV) 5]) 45 (.slice (some ⟨K.length,0,some n⟩) n n) none (some (i64 0))=some (.slice (some ⟨K.length,0,some n⟩) 0 n):=by
   simp [aSliceOp,aLow,aHigh,d2]
  simp [nilV,aIsPtr,c1,c2,c3,c4,hs]
  have hcp:aBuiltin prog (K++[.cells (List.replicate n unkV) 5]) .copy #[45,45] [.slice (some ⟨K.length,0,some n⟩) 0 n,.slice none 0 0]=some (i64 0,K++[.cells (List.replicate n unkV) 5]):=by
   simp [aBuiltin,aCopy,aSrc]
  rw [hcp]
  simp [nilV,aIsPtr,c4,e2]
  refine ⟨⟨selfP pb,.slice (some ⟨K.length,0,some n⟩) 0 n,by rw [List.getElem?_set_self (by simp;omega)],.inr rfl,.mk K.length 0 n (List.replicate n unkV) [] hlt ?_ (by simp) rfl (by omega) rfl (by simp) h0⟩,?_⟩
  · rw [List.getElem?_set_ne (by omega)];exact e1
  · exact Keeps.app.trans (.set (Nat.le_refl _))
 exact ⟨K',q3,q1,q2⟩
theorem c_grow {K:AHeap} {pb n:Nat} (h:K[pb]?=some (.cells [.pointer none,.slice none 0 0] 65)) (h1:n≤2 ^ 46) :
  ∃ K',ACalls prog 27 [selfP pb,i64 n] K (.tuple #[]) K'∧Bld (decide (0 < n)) K' pb []∧Keeps pb K K':=by
 obtain ⟨v,K',⟨rfl,q1,q2⟩,q3⟩:∃ v K',(v=.tuple #[]∧Bld (decide (0 < n)) K' pb []∧Keeps pb K K')∧ACalls prog 27 [selfP pb,i64 n] K v K':=by
  refine acalls_ex MixT func27 (by decide) ?_
  rw [d27]
  refine bndC_of (c_copyCheck h (.inl rfl) rfl) ?_
  have hlt:pb < K.length:=(List.getElem?_eq_some_iff.1 h).1
  have hM:(K.set pb (.cells [selfP pb,.slice none 0 0] 65))[pb]?=some (.cells [selfP pb,.slice none 0 0] 65):=List.getElem?_set_self hlt
  have hk1:Keeps pb K (K.set pb (.cells [selfP pb,.slice none 0 0] 65)):=.set (Nat.le_refl _)
  generalize K.set pb (.cells [selfP pb,.slice none 0 0] 65)=M at hM hk1 ⊢
  obtain ⟨c1,c2⟩:=cellFx hM
  have hn0:¬ (n:Int) < 0:=by omega
  simp [hn0,S27x0q,nilV,aIsPtr,c1,c2]
  refine bndD_same (v:=i64 0) (by simp [aBuiltin]) ?_
  simp [nilV,aIsPtr,c1,c2]
  by_cases h0:0 < n
  · simp [h0]
    obtain ⟨K',g1,g2,g3⟩:=c_grow1 hM h0 h1
    refine bndC_of g1 ⟨rfl,by simpa [h0] using g2,hk1.trans g3⟩
  · simp [h0]
    exact ⟨⟨selfP pb,.slice none 0 0,hM,.inr rfl,.nil⟩,hk1⟩
 exact ⟨K',q3,q1,q2⟩
inductive Parts (K:AHeap):Value→List (List UInt8)→Prop
 | nil:Parts K (.slice none 0 0) []
 | mk (b:Nat) (l:List (List UInt8)) (hb:hcells K b=some (l.map str)):Parts K (.slice (some ⟨b,0,some l.length⟩) l.length l.length) l
theorem Parts.pre {H K v l} (h:Parts H v l) (p:Pre H K):Parts K v l:=by
 cases h with
 | nil=>exact .nil
 | mk b l hb=>exact .mk b l (p.hcells hb)
theorem Parts.len {H v l} (h:Parts H v l) (K:AHeap):aLen prog K 33 v=some (i64 l.length):=by
 cases h<;>simp
theorem Parts.load {H v l} (h:Parts H v l) {i:Nat} {s:List UInt8} (hi:l[i]?=some s):∃ p,aIndexAddr prog H 33 v (i64 i)=some p∧aLoad prog H 9 p=some (str s):=by
 have ha:Arr H 1 v (strCells l):=by
  cases h with
  | nil=>exact .nil
  | mk b l hb =>
    refine .mk b 0 _ _ _ (l.map str) _ (by simp [strCells]) hb (by simp) (by omega) fun i e hi=>?_
    simp only [strCells,List.getElem?_map,Option.map_eq_some_iff] at hi
    obtain ⟨s,h1,rfl⟩:=hi
    rw [Nat.zero_add,Nat.mul_one,← List.map_drop,List.drop_eq_getElem_cons (List.getElem?_eq_some_iff.1 h1).1,List.map_cons,List.take_succ_cons,List.take_zero,(List.getElem?_eq_some_iff.1 h1).2]
 exact ha.load1 (by simp) (by simp) (by simp) (by simp [strCells,hi])
theorem Parts.tail {H v a l} (h:Parts H v (a :: l)) (hl:0 < l.length):∃ t,aSliceOp prog H 33 v (some (i64 1)) none=some t∧(∀ K,aLen prog K 33 t=some (i64 l.length)) ∧
  ∀ K,Pre H K→∀ (i:Nat) s,l[i]?=some s→∃ p,aIndexAddr prog K 33 t (i64 i)=some p∧aLoad prog K 9 p=some (str s):=by
 cases h with
 | mk b _ hb =>
   have hhl:hlen H b=some (l.length+1):=by rw [hcells_len hb];simp
   refine ⟨.slice (some ⟨b,1,some (l.length+1)⟩) l.length l.length,?_,fun K=>by simp,fun K p i s hi=>?_⟩
   · simp [aSliceOp,aLow,aHigh,hhl]
     omega
   · have ha:Arr K 1 (.slice (some ⟨b,1,some (l.length+1)⟩) l.length l.length) (strCells l):=by
      refine .mk b 1 _ _ _ ((a :: l).map str) _ (by simp [strCells]) (p.hcells hb) (by simp) (by omega) fun i e hi=>?_
      simp only [strCells,List.getElem?_map,Option.map_eq_some_iff] at hi
      obtain ⟨s,h1,rfl⟩:=hi
      rw [Nat.mul_one,Nat.add_comm,List.map_cons,List.drop_succ_cons,← List.map_drop,List.drop_eq_getElem_cons (List.getElem?_eq_some_iff.1 h1).1,List.map_cons,List.take_succ_cons,List.take_zero,(List.getElem?_eq_some_iff.1 h1).2]
     exact ha.load1 (by simp) (by simp) (by simp) (by simp [strCells,hi])
def joinS (sep:List UInt8):List (List UInt8)→List UInt8
 | []=>[]
 | a :: r=>a++(r.map (sep++·)).flatten
theorem join_w {H:AHeap} {t:Value} {sep:List UInt8} {l:List (List UInt8)} {pb:Nat} {k:Value→AHeap→Prop} (hpb:H.length≤pb) (_hlen:∀ K,aLen prog K 33 t=some (i64 l.length)) (hll:l.length < 2 ^ 62)
  (hat:∀ K,Pre H K→∀ (i:Nat) s,l[i]?=some s→∃ p,aIndexAddr prog K 33 t (i64 i)=some p∧aLoad prog K 9 p=some (str s)) (w:List UInt8) (hw46:w.length≤2 ^ 46) (hne:w≠[]) (hk:∀ K,Pre H K→k (str w) K) :
  ∀ (r : List (List UInt8)) (i : Nat) (acc : List UInt8) (g : Bool) (K : AHeap) (s0 s2 s3 s4 s5 s6 s7 s9 a b c d e f j m n o q u x y z A B C D E F G I J L M N O P Q R S T U V W X Y Z aa ab ac ad ae af ag ah ai aj ak al am an ao ap aq ar au av aw ax ay : Value), l.drop i = r → i ≤ l.length → Pre H K → Bld g K pb acc → (g = true → acc = []) → w = acc ++ (r.map (sep ++ ·)).flatten →
    L16x1 (r.length+1) k [s0,str sep,s2,s3,s4,s5,s6,s7,selfP pb,s9,a,b,c,d,e,f,j,m,n,o,q,u,x,y,z,A,B,C,D,E,F,G,I,J,L,M,N,O,P,Q,R,S,T,U,V,W,X,Y,Z,aa,ab,ac,ad,ae,af,ag,ah,ai,aj,ak,al,am,an,t,i64 l.length,i64 i,ao,ap,aq,ar,au,av,aw,ax,ay] K:=by
 intro r
 induction r with
 | nil =>
   intro i acc g K s0 s2 s3 s4 s5 s6 s7 s9 a b c d e f j m n o q u x y z A B C D E F G I J L M N O P Q R S T U V W X Y Z aa ab ac ad ae af ag ah ai aj ak al am an ao ap aq ar au av aw ax ay hd hi hp hb hg hw
   have hle:l.length≤i:=by simpa using hd
   simp at hw
   subst hw
   have hgf:g=false:=by
    cases g with
    | false=>rfl
    | true=>exact absurd (hg rfl) hne
   subst hgf
   rw [List.length_nil,L16x1q]
   have:¬ i < l.length:=by omega
   simp [this]
   obtain ⟨v,K',⟨rfl,h1⟩,h2⟩:=c_bstring hb (by omega)
   exact bndC_of h2 (hk _ (h1 H hp hpb))
 | cons s r ih =>
   intro i acc g K s0 s2 s3 s4 s5 s6 s7 s9 a b c d e f j m n o q u x y z A B C D E F G I J L M N O P Q R S T U V W X Y Z aa ab ac ad ae af ag ah ai aj ak al am an ao ap aq ar au av aw ax ay hd hi hp hb hg hw
   have hbi:l[i]?=some s:=by rw [← List.head?_drop,hd];rfl
   have hlt:i < l.length:=(List.getElem?_eq_some_iff.1 hbi).1
   have hwl:=congrArg List.length hw
   simp at hwl
   rw [List.length_cons,L16x1q]
   obtain ⟨p,e1,e2⟩:=hat K hp i s hbi
   simp [hlt,e1,e2]
   obtain ⟨v1,K1,⟨rfl,h1,h2⟩,h3⟩:=c_writeString (ys:=sep) hb (by omega)
   refine bndC_of h3 ?_
   have hp1:=h2 H hp hpb
   obtain ⟨v2,K2,⟨rfl,h4,h5⟩,h6⟩:=c_writeString (ys:=s) h1 (by simp;omega)
   refine bndC_of h6 ?_
   have hp2:=h5 H hp1 hpb
   simp [show i+1 < 2 ^ 63 by omega]
   refine ih (i+1) (acc++sep++s) _ K2 _ _ _ _ _ _ _ _ _ _ _ _ _ _ _ _ _ _ _ _ _ _ _ _ _ _ _ _ _ _ _ _ _ _ _ _ _ _ _ _ _ _ _ _ _ _ _ _ _ _ _ _ _ _ _ _ _ _ _ _ _ _ _ _ _ _ _ _ _ _ (by rw [← List.drop_drop,hd];rfl) hlt hp2 h4 (fun h=>?_) (by rw [hw];simp)
   simp at h
   rw [hg h.1.1,h.1.2,h.2];rfl
def sumL:List (List UInt8)→Nat
 | []=>0
 | a :: r=>a.length+sumL r
theorem join_len (sep a:List UInt8):∀ r:List (List UInt8),(joinS sep (a :: r)).length=sep.length*r.length+sumL (a :: r):=by
 intro r
 have h:∀ r:List (List UInt8),((r.map (sep++·)).flatten).length=sep.length*r.length+sumL r:=by
  intro r
  induction r with
  | nil=>simp [sumL]
  | cons x r ih=>rw [List.map_cons,List.flatten_cons,List.length_append,ih,List.length_append,sumL,List.length_cons,Nat.mul_add,Nat.mul_one];omega
 rw [joinS,List.length_append,h,sumL]
 omega
theorem join_n {H:AHeap} {v:Value} {sep:List UInt8} {a:List UInt8} {l:List (List UInt8)} {k:Value→AHeap→Prop} (hv:Parts H v (a :: l)) (hl:0 < l.length) (hj:(joinS sep (a :: l)).length≤2 ^ 46) (hne:joinS sep (a :: l)≠[]) (hll:l.length < 2 ^ 61)
  (hk:∀ K,Pre H K→k (str (joinS sep (a :: l))) K) :
  ∀ (r : List (List UInt8)) (i n : Nat) (s2 s3 s4 s6 s7 s8 s9 b c d e f g j m o q u w x y z A B C D E F G I J L M N O P Q R S T U V W Y Z aa ab ac ad ae af ag ah ai aj ak al am an ao ap aq ar au av aw ax ay az : Value), (a :: l).drop i = r → i ≤ l.length + 1 → n + sumL r = (joinS sep (a :: l)).length →
    L16x0 (r.length+1) k [v,str sep,s2,s3,s4,i64 n,s6,s7,s8,s9,b,c,d,e,f,g,j,m,o,q,u,w,x,y,z,A,B,C,D,E,F,G,I,J,L,M,N,O,P,v,i64 ((l.length+1:Nat):Int),i64 i,Q,R,S,T,U,V,W,Y,Z,aa,ab,ac,ad,ae,af,ag,ah,ai,aj,ak,al,am,an,ao,ap,aq,ar,au,av,aw,ax,ay,az] H:=by
 intro r
 induction r with
 | nil =>
   intro i n s2 s3 s4 s6 s7 s8 s9 b c d e f g j m o q u w x y z A B C D E F G I J L M N O P Q R S T U V W Y Z aa ab ac ad ae af ag ah ai aj ak al am an ao ap aq ar au av aw ax ay az hd hi hn
   have hle:l.length+1≤i:=by have:=congrArg List.length hd;simp at this;omega
   simp only [sumL,Nat.add_zero] at hn
   subst hn
   rw [List.length_nil,L16x0q]
   have:¬ (i:Int) < ((l.length+1:Nat):Int):=by omega
   simp only [aBin_lss,bnd_some,this,decide_false,kifB_false]
   simp
   obtain ⟨K1,g1,g2,g3⟩:=c_grow (K:=H++[.cells [.pointer none,.slice none 0 0] 65]) (pb:=H.length) (by simp) hj
   have hp1:Pre H K1:=g3 H (.app _ _) (Nat.le_refl _)
   refine bndC_of g1 ?_
   obtain ⟨p,e1,e2⟩:=(hv.pre hp1).load (i:=0) (s:=a) rfl
   simp at e1
   simp [e1,e2]
   obtain ⟨v2,K2,⟨rfl,h1,h2⟩,h3⟩:=c_writeString (ys:=a) g2 (by simp;have:=join_len sep a l;simp only [sumL] at this;omega)
   refine bndC_of h3 ?_
   have hp2:=h2 H hp1 (Nat.le_refl _)
   obtain ⟨t,t0,t2,t3⟩:=hv.tail hl
   have t1:aSliceOp prog K2 33 v (some (i64 1)) none=some t:=by
    obtain ⟨X,rfl⟩:=hp2
    exact aSliceOp_more t0
   simp [t1,t2]
   exact ⟨l.length+1,join_w (H:=H) (l:=l) (sep:=sep) (pb:=H.length) (Nat.le_refl _) t2 (by omega) t3 (joinS sep (a :: l)) hj hne hk l 0 a _ K2 _ _ _ _ _ _ _ _ _ _ _ _ _ _ _ _ _ _ _ _ _ _ _ _ _ _ _ _ _ _ _ _ _ _ _ _ _ _ _ _ _ _ _ _ _ _ _ _ _ _ _ _ _ _ _ _ _ _ _ _ _ _ _ _ _ _ _ _ _ _ rfl (by omega) hp2 (by simpa using h1) (fun h=>by simp at h;exact h.2) rfl⟩
 | cons s r ih =>
   intro i n s2 s3 s4 s6 s7 s8 s9 b c d e f g j m o q u w x y z A B C D E F G I J L M N O P Q R S T U V W Y Z aa ab ac ad ae af ag ah ai aj ak al am an ao ap aq ar au av aw ax ay az hd hi hn
   have hbi:(a :: l)[i]?=some s:=by rw [← List.head?_drop,hd];rfl
   have hlt:i < l.length+1:=by simpa using (List.getElem?_eq_some_iff.1 hbi).1
   obtain ⟨p,e1,e2⟩:=hv.load hbi
   rw [sumL] at hn
   have w1:IntKind.i64.wrap (9223372036854775807-(n:Int))=9223372036854775807-(n:Int):=wrap_i64 (by omega) (by omega)
   have w2:¬ (9223372036854775807-(n:Int) < s.length):=by omega
   have w3:IntKind.i64.wrap ((n:Int)+s.length)=((n+s.length:Nat):Int):=by rw [wrap_i64 (by omega) (by omega)];omega
   have hltI:(i:Int) < ((l.length+1:Nat):Int):=by omega
   rw [List.length_cons,L16x0q]
   simp only [aBin_lss,bnd_some,hltI,decide_true,kifB_true]
   simp [e1,e2,w1,w2,S16x2q,w3,show i+1 < 2 ^ 63 by omega]
   exact ih (i+1) (n+s.length) _ _ _ _ _ _ _ _ _ _ _ _ _ _ _ _ _ _ _ _ _ _ _ _ _ _ _ _ _ _ _ _ _ _ _ _ _ _ _ _ _ _ _ _ _ _ _ _ _ _ _ _ _ _ _ _ _ _ _ _ _ _ _ _ _ _ _ _ _ (by rw [← List.drop_drop,hd];rfl) hlt (by omega)
theorem c_join {H:AHeap} {v:Value} {sep:List UInt8} {l:List (List UInt8)} (hv:Parts H v l) (hj:(joinS sep l).length≤2 ^ 46) (hll:l.length < 2 ^ 40) (hsl:sep.length < 2 ^ 20) (hne:2≤l.length→joinS sep l≠[]) :
  ACalls prog 16 [v,str sep] H (str (joinS sep l)) H:=by
 refine acalls_pure MixT func16 (by decide) rfl ?_
 rw [d16]
 have hlen:=fun K=>hv.len K
 match l,hv with
 | [],hv=>simp [hlen];rfl
 | [a], hv =>
   obtain ⟨p,e1,e2⟩:=hv.load (i:=0) (s:=a) rfl
   simp at e1
   simp [hlen,e1,e2,joinS]
 | a :: b :: r, hv =>
   have hl2:(a :: b :: r).length=r.length+2:=rfl
   rw [hl2] at hll
   simp only [hl2] at hlen
   have w0:IntKind.i64.wrap (((r.length+2:Nat):Int)-1)=((r.length+1:Nat):Int):=by rw [wrap_i64 (by omega) (by omega)];omega
   have f0:((r.length:Int)+2 == 0)=false:=by rw [beq_eq_false_iff_ne];omega
   have f1:((r.length:Int)+2 == 1)=false:=by rw [beq_eq_false_iff_ne];omega
   have hjl:=join_len sep a (b :: r)
   have go:=fun (n:Nat) (hn:n+sumL (a :: b :: r)=(joinS sep (a :: b :: r)).length) (s2 s3 s4 s6 s7 s8 s9 d f g h j m o q t w z A B C E F G I J L M O Q R S U V W Z aa ab ac ad ae af ag ah ai aj ak al am an ao ap aq ar au av aw ax ay az aA aB aC aD aE aF aG aH aI:Value)=>join_n (H:=H) (v:=v) (sep:=sep) (k:=fun u H2=>u=str (joinS sep (a :: b :: r))∧∃ X,H2=H++X) hv (by simp) hj (hne (by simp)) (by simp;omega) (fun K p=>⟨rfl,p⟩) (a :: b :: r) 0 n s2 s3 s4 s6 s7 s8 s9 d f g h j m o q t w z A B C E F G I J L M O Q R S U V W Z aa ab ac ad ae af ag ah ai aj ak al am an ao ap aq ar au av aw ax ay az aA aB aC aD aE aF aG aH aI rfl (by omega) hn
   simp at w0
   simp [hlen,f0,f1]
   by_cases hs0:sep.length=0
   · simp [hs0,S16x1q,hlen]
     refine ⟨r.length+2+1,?_⟩
     exact go 0 (by rw [hjl,hs0];simp) _ _ _ _ _ _ _ _ _ _ _ _ _ _ _ _ _ _ _ _ _ _ _ _ _ _ _ _ _ _ _ _ _ _ _ _ _ _ _ _ _ _ _ _ _ _ _ _ _ _ _ _ _ _ _ _ _ _ _ _ _ _ _ _ _ _ _ _ _
   · have hs0':0 < sep.length:=by omega
     have hq:=fun X Y=>quoL (P:=prog) (H:=H) (T:=3) (x:=X) (y:=Y) (k:=.i64) (a:=9223372036854775807) (c:=(r.length:Int)+1) (n:=r.length+1) (by simp) (by omega) (by
      have:9223372036854775807 / (r.length+1)≤9223372036854775807:=Nat.div_le_self _ _
      generalize 9223372036854775807 / (r.length+1)=X at this ⊢
      exact wrap_i64 (by omega) (by omega))
     have hD:sep.length+1≤9223372036854775807 / (r.length+1):=by
      rw [Nat.le_div_iff_mul_le (by omega)]
      have h1:(sep.length+1)*(r.length+1)≤2 ^ 20*2 ^ 40:=Nat.mul_le_mul (by omega) (by omega)
      omega
     generalize 9223372036854775807 / (r.length+1)=D at hq hD
     have hg:¬ ((D:Int)≤sep.length):=by omega
     have hq':∀ X Y,aBin2 prog H .quo 3 X Y (.int .i64 9223372036854775807) (.int .i64 ((r.length:Int)+1))=some (i64 (D:Int)):=fun X Y=>hq X Y
     simp [hs0',w0,hlen,hq',hg]
     have hN:(joinS sep (a :: b :: r)).length=sep.length*(r.length+1)+sumL (a :: b :: r):=hjl
     have hm:IntKind.i64.wrap ((sep.length:Int)*((r.length:Int)+1))=((sep.length*(r.length+1):Nat):Int):=by
      have e:(sep.length:Int)*((r.length:Int)+1)=((sep.length*(r.length+1):Nat):Int):=by simp
      rw [e]
      generalize sep.length*(r.length+1)=N at hN ⊢
      exact wrap_i64 (by omega) (by omega)
     have hm2:IntKind.i64.wrap ((sep.length*(r.length+1):Nat):Int)=((sep.length*(r.length+1):Nat):Int):=by
      generalize sep.length*(r.length+1)=N at hN ⊢
      exact wrap_i64 (by omega) (by omega)
     have hgo:=go (sep.length*(r.length+1)) hN.symm
     clear go hq hq' hN hjl
     generalize sep.length*(r.length+1)=N at hm hm2 hgo
     simp [S16x0q,hlen,w0,hm,hm2,S16x1q]
     exact ⟨r.length+2+1,hgo _ _ _ _ _ _ _ _ _ _ _ _ _ _ _ _ _ _ _ _ _ _ _ _ _ _ _ _ _ _ _ _ _ _ _ _ _ _ _ _ _ _ _ _ _ _ _ _ _ _ _ _ _ _ _ _ _ _ _ _ _ _ _ _ _ _ _ _ _⟩
end Go.Vi
namespace Go.Vi
open Go Go.Proofs Go.Proofs.Tryz
def escB (b:UInt8):List UInt8:=if (b=34∨b=92) then [92,b] else [b]
def quoteS (v:List UInt8):List UInt8:=34 :: (v.flatMap escB)++[34]
theorem escB_len (b:UInt8):(escB b).length≤2:=by unfold escB;split<;>simp
theorem esc_len:∀ v:List UInt8,(v.flatMap escB).length≤2*v.length:=by
 intro v
 induction v with
 | nil=>simp
 | cons b r ih=>rw [List.flatMap_cons,List.length_append,List.length_cons];have:=escB_len b;omega
theorem quote_loop {H:AHeap} {l:List UInt8} {pb:Nat} {k:Value→AHeap→Prop} (hpb:H.length≤pb) (hl:l.length < 2 ^ 40) (hk:∀ K,Pre H K→k (str (quoteS l)) K) :
  ∀ (r : List UInt8) (i : Nat) (acc : List UInt8) (K : AHeap) (A B F C D E a c d f g j m n o p q s t u v w x y z : Value), l.drop i = r → i ≤ l.length → Pre H K → Bld false K pb acc → acc.length ≤ 1 + 2 * i → 34 :: l.flatMap escB = acc ++ r.flatMap escB →
    L72x0 (r.length+1) k [str l,A,B,selfP pb,F,C,D,i64 l.length,i64 i,E,a,c,d,f,g,j,m,n,o,p,q,s,t,u,v,w,x,y,z] K:=by
 intro r
 induction r with
 | nil =>
   intro i acc K A B F C D E a c d f g j m n o p q s t u v w x y z hd hi hp hb ha hw
   have hle:l.length≤i:=by simpa using hd
   rw [List.length_nil,L72x0q]
   have:¬ i < l.length:=by omega
   simp [this]
   obtain ⟨v1,K1,⟨rfl,h1,h2⟩,h3⟩:=c_writeByte (b:=34) hb (by omega)
   refine bndC_of h3 ?_
   obtain ⟨v2,K2,⟨rfl,h4⟩,h5⟩:=c_bstring h1 (by simp;omega)
   refine bndC_of h5 ?_
   have e:quoteS l=acc++[34]:=by
    unfold quoteS
    rw [show (34 :: List.flatMap escB l)=acc by simpa using hw]
   rw [← e]
   exact hk _ (h4 H (h2 H hp hpb) hpb)
 | cons b r ih =>
   intro i acc K A B F C D E a c d f g j m n o p q s t u v w x y z hd hi hp hb ha hw
   have hbi:l[i]?=some b:=by rw [← List.head?_drop,hd];rfl
   have hlt:i < l.length:=(List.getElem?_eq_some_iff.1 hbi).1
   have hix:=aIndex_at (P:=prog) (T:=9) (k:=.i64) (by simp) hbi
   have step:∀ (acc':List UInt8) (K':AHeap) (A B C D E a c d f g j m n o p q s t u v w x y z:Value),Pre H K'→Bld false K' pb acc'→acc'.length≤2+2*i→34 :: l.flatMap escB=acc'++[b]++r.flatMap escB →
     S72x0 (r.length+1) k [str l,A,B,selfP pb,i64 i,C,D,i64 l.length,i64 i,E,a,c,d,f,g,j,m,n,o,p,q,s,t,u,v,w,x,y,z] K':=by
    intro acc' K' A B C D E a c d f g j m n o p q s t u v w x y z hp' hb' ha' hw'
    rw [S72x0q]
    simp only [hix,bnd_some]
    obtain ⟨v1,K1,⟨rfl,h1,h2⟩,h3⟩:=c_writeByte (b:=b) hb' (by omega)
    refine bndC_of h3 ?_
    simp [show i+1 < 2 ^ 63 by omega]
    exact ih (i+1) (acc'++[b]) K1 _ _ _ _ _ _ _ _ _ _ _ _ _ _ _ _ _ _ _ _ _ _ _ _ _ (by rw [← List.drop_drop,hd];rfl) hlt (h2 H hp' hpb) h1 (by simp;omega) hw'
   rw [List.flatMap_cons] at hw
   rw [List.length_cons,L72x0q]
   have e34:((b.toNat:Int) == 34)=decide (b=34):=by
    rw [Bool.eq_iff_iff];simp
    exact ⟨fun e=>UInt8.toNat_inj.1 (by simp;omega),fun e=>by subst e;rfl⟩
   have e92:((b.toNat:Int) == 92)=decide (b=92):=by
    rw [Bool.eq_iff_iff];simp
    exact ⟨fun e=>UInt8.toNat_inj.1 (by simp;omega),fun e=>by subst e;rfl⟩
   by_cases hq:b=34∨b=92
   · have he:escB b=[92,b]:=by unfold escB;rw [if_pos hq]
     rw [he] at hw
     have hq':(decide (b=34) || decide (b=92))=true:=by simpa using hq
     simp +contextual [hlt,hix,e34,e92]
     refine kifB_bool (fun _=>?_) (fun h=>?_)
     · obtain ⟨v1,K1,⟨rfl,h1,h2⟩,h3⟩:=c_writeByte (b:=92) hb (by omega)
       refine bndC_of h3 ?_
       exact step (acc++[92]) K1 _ _ _ _ _ _ _ _ _ _ _ _ _ _ _ _ _ _ _ _ _ _ _ _ (h2 H hp hpb) h1 (by simp;omega) (by rw [hw];simp)
     · simp at h
       exact absurd hq (by simp [h])
   · have he:escB b=[b]:=by unfold escB;rw [if_neg hq]
     rw [he] at hw
     simp +contextual [hlt,hix,e34,e92]
     refine kifB_bool (fun h=>?_) (fun h=>?_)
     · exact absurd (by simpa using h) hq
     · exact step acc K _ _ _ _ _ _ _ _ _ _ _ _ _ _ _ _ _ _ _ _ _ _ _ _ hp hb (by omega) (by rw [hw];simp)
theorem c_quote {H:AHeap} {l:List UInt8} (hl:l.length < 2 ^ 40):ACalls prog 72 [str l] H (str (quoteS l)) H:=by
 refine acalls_pure MixT func72 (by decide) rfl ?_
 rw [d72]
 simp
 have hb0:Bld false (H++[.cells [.pointer none,.slice none 0 0] 65]) H.length []:=⟨.pointer none,.slice none 0 0,by simp,.inl rfl,.nil⟩
 obtain ⟨v1,K1,⟨rfl,h1,h2⟩,h3⟩:=c_writeByte (b:=34) hb0 (by simp)
 refine bndC_of h3 ?_
 simp
 exact ⟨l.length+1,quote_loop (H:=H) (k:=fun u H2=>u=str (quoteS l)∧∃ X,H2=H++X) (Nat.le_refl _) hl (fun K p=>⟨rfl,p⟩) l 0 [34] K1 _ _ _ _ _ _ _ _ _ _ _ _ _ _ _ _ _ _ _ _ _ _ _ _ _ rfl (by omega) (h2 H (.app _ _) (Nat.le_refl _)) h1 (by simp) rfl⟩
theorem c_joined {H:AHeap} {v:Value} {l:List (List UInt8)} (hv:Parts H v l) (hj:(joinS [] l).length≤2 ^ 46) (hll:l.length < 2 ^ 40) (hne:2≤l.length→joinS [] l≠[]):ACalls prog 71 [v] H (str (joinS [] l)) H:=by
 refine acalls_pure MixT func71 (by decide) rfl ?_
 rw [d71]
 exact bndC_of (c_join (sep:=[]) hv hj hll (by simp) hne) ⟨rfl,[],by simp⟩
def sgnS (n:Int):List UInt8:=if isOp n=true then opS n else [61]
def matS (m:Mat):List UInt8:=m.name++sgnS m.op++quoteS m.value
def selS (ms:List Mat):List UInt8:=123 :: joinS [44] (ms.map matS)++[125]
def Mat.tame (m:Mat):Prop:=m.name.length≤2 ^ 20∧m.value.length≤2 ^ 20
theorem sgnS_len (n:Int):(sgnS n).length≤2:=by
 unfold sgnS opS
 split
 · split
   · simp
   · split
     · simp
     · split<;>simp
 · simp
theorem quoteS_len (v:List UInt8):(quoteS v).length≤2*v.length+2:=by
 have:=esc_len v
 rw [quoteS,List.length_append,List.length_cons]
 simp only [List.length_cons,List.length_nil]
 omega
theorem matS_len {m:Mat} (h:m.tame):(matS m).length≤2 ^ 22-2∧2≤(matS m).length:=by
 have h1:=sgnS_len m.op
 have h2:=quoteS_len m.value
 obtain ⟨a,b⟩:=h
 have h3:2≤(quoteS m.value).length:=by simp [quoteS]
 simp only [matS,List.length_append]
 omega
theorem sumL_le {c:Nat}:∀ l:List (List UInt8),(∀ x∈l,x.length≤c)→sumL l≤c*l.length:=by
 intro l
 induction l with
 | nil=>intro _;simp [sumL]
 | cons a r ih =>
   intro h
   rw [sumL,List.length_cons,Nat.mul_add]
   have:=ih fun x hx=>h x (by simp [hx])
   have:=h a (by simp)
   omega
theorem sel_len {ms:List Mat} (hm:∀ m∈ms,m.tame) (hl:ms.length≤2 ^ 20):(joinS [44] (ms.map matS)).length≤2 ^ 43:=by
 cases h:ms.map matS with
 | nil=>simp [joinS]
 | cons a r =>
   rw [join_len]
   have hall:∀ x∈a :: r,x.length≤2 ^ 22-2:=by
    rw [← h]
    intro x hx
    obtain ⟨m,hm1,rfl⟩:=List.mem_map.1 hx
    exact (matS_len (hm m hm1)).1
   have h2:=sumL_le _ hall
   have h3:(a :: r).length≤2 ^ 20:=by rw [← h];simpa using hl
   have h4:(2 ^ 22-2)*(a :: r).length≤(2 ^ 22-2)*2 ^ 20:=Nat.mul_le_mul_left _ h3
   simp at h3 ⊢
   omega
theorem join_ne {sep a b:List UInt8} {r:List (List UInt8)} (h:sep≠[]∨a≠[]):joinS sep (a :: b :: r)≠[]:=by
 intro e
 simp [joinS] at e
 rcases h with h | h
 · exact h e.2.1
 · exact h e.1
theorem strs_lit {P:Program} {H:AHeap} {T e:TypeId} {l:List (List UInt8)} {n:Nat} (hs:aBuildSlice P H T n (enumL 0 (l.map str))=bslV e #[.string ⟨#[]⟩] H n (enumL 0 (l.map str))) (hn:n=l.length) (hb:n≤16777216) :
  sliceLit P H T n (enumL 0 (l.map str)) (.slice (some ⟨H.length,0,some n⟩) n n) (H++[.cells (l.map str) e]) :=
 sliceLit1 hs (fun v hv=>by obtain ⟨s,_,rfl⟩:=List.mem_map.1 hv;rfl) (by simpa using hn) hb
theorem Gro.parts {K lo v l} (h:Gro K lo 1 9 v (strCells l)):Parts K v l:=by
 have hf:∀ l:List (List UInt8),(strCells l).flatten=l.map str:=by
  intro l
  induction l with
  | nil=>rfl
  | cons a r ih=>simp [strCells] at ih ⊢;exact ih
 generalize hc:strCells l=cl at h
 cases h with
 | nil =>
   have:l=[]:=by simpa [strCells] using hc
   subst this;exact .nil
 | mk bb cl h1 h2 h3 h4 =>
   subst hc
   have hl:(strCells l).length=l.length:=by simp [strCells]
   rw [hl,Nat.mul_one]
   exact .mk bb l (by rw [hcells_eq,h2,hf];rfl)
theorem strel1:aElem prog 33=some (9,1,16):=by kernel_rfl
theorem strel2:isSeq prog 33=true:=by kernel_rfl
theorem mp_tail {H:AHeap} {ms:List Mat} {mb lo n0 i b6 b7:Nat} {m:Mat} {fv:Value} {k:Value→AHeap→Prop} (hm:m.tame) (hi:i+1 < 2 ^ 40) {v:Value} {acc:List (List UInt8)} {pv:Value} {K:AHeap} (hp:Pre H K) (hH:H.length≤lo) (hmap:K[mb]?=some (.map opsMap)) (hmb:mb < lo) (hlo:lo≤K.length)
  (h6:K[b6]?=some (.cells m.cells 56)) (h7:K[b7]?=some (.cells [str (sgnS m.op),fv] 113)) (hg:Gro K lo 1 9 pv (strCells acc)) (hal:acc.length≤2 ^ 20)
  (hk:∀ (K:AHeap) (pv:Value) (Q R S V W T U a b d f g h j n o p q r s t u w y z A B C D E F G I J L M N O:Value),Pre H K→K[mb]?=some (.map opsMap)→lo≤K.length→Gro K lo 1 9 pv (strCells (acc++[matS m]))→L50x0 n0 k [v,Q,R,.map (some mb),pv,S,V,W,T,U,v,i64 ms.length,i64 ((i+1:Nat):Int),a,b,d,f,g,h,j,n,o,p,q,r,s,t,u,w,y,z,A,B,C,D,E,F,G,I,J,L,M,N,O] K) (Q R S T U a b d f g h j n o p q r s t u w y z A B C D E F G I J L M N O:Value) :
  S50x0 n0 k [v,Q,R,.map (some mb),pv,S,.pointer (some ⟨b6,0,some 3⟩),.pointer (some ⟨b7,0,some 2⟩),T,U,v,i64 ms.length,i64 i,a,b,d,f,g,h,j,n,o,p,q,r,s,t,u,w,y,z,A,B,C,D,E,F,G,I,J,L,M,N,O] K:=by
 obtain ⟨c6,l6⟩:=cellFx h6
 obtain ⟨c7,l7⟩:=cellFx h7
 simp only [Mat.cells] at c6 l6
 obtain ⟨t1,t2⟩:=hm
 rw [S50x0q]
 simp [c6,l6,c7,l7]
 refine bndD_same (c_quote (by omega)) ?_
 dsimp only
 refine bndD_of (strs_lit (l:=[m.name,sgnS m.op,quoteS m.value]) (tbs33 K 3 _) rfl (by decide)) (.inl rfl) ?_
 dsimp only
 have hj:joinS [] [m.name,sgnS m.op,quoteS m.value]=matS m:=by simp [joinS,matS]
 have hml:=matS_len (m:=m) ⟨t1,t2⟩
 refine bndD_of (c_joined (v:=.slice (some ⟨K.length,0,some 3⟩) 3 3) (l:=[m.name,sgnS m.op,quoteS m.value]) (.mk _ [m.name,sgnS m.op,quoteS m.value] (by simp)) (by rw [hj];omega) (by simp) (fun _ e=>by rw [hj] at e;rw [e] at hml;simp at hml)) (.inl rfl) ?_
 dsimp only
 rw [hj]
 generalize hK1:K++[AObj.cells (List.map str [m.name,sgnS m.op,quoteS m.value]) 9]=K1
 have hg1:Gro K1 lo 1 9 pv (strCells acc):=by rw [← hK1];exact hg.app
 have hp1:Pre H K1:=by rw [← hK1];exact hp.more _
 have hm1:K1[mb]?=some (.map opsMap):=by rw [← hK1];exact get_more hmap
 have hl1:lo≤K1.length:=by rw [← hK1];simp;omega
 clear hK1
 refine bndD_of (strs_lit (l:=[matS m]) (tbs33 K1 1 _) rfl (by decide)) (.inl rfl) ?_
 dsimp only
 obtain ⟨v',K2,q1,q2,q3,q4,q5⟩:=Gro.push (P:=prog) (Ts:=33) (by_:=16) (x:=.slice (some ⟨K1.length,0,some 1⟩) 1 1) (c:=[str (matS m)]) (hg1.app (X:=[AObj.cells (List.map str [matS m]) 9])) strel1 strel2 (by rfl) (by simp;omega) (by simp [aSrc]) (by simp [strCells];omega) (by simp [strCells];omega)
 refine bndD_of q1 (.inl rfl) ?_
 simp [show i+1 < 2 ^ 63 by omega]
 refine hk K2 v' _ _ _ _ _ _ _ _ _ _ _ _ _ _ _ _ _ _ _ _ _ _ _ _ _ _ _ _ _ _ _ _ _ _ _ _ _ _ (q5 H (hp1.more _) hH) (q3 _ _ hmb (get_more hm1)) (by simp at q4;omega) ?_
 have:strCells (acc++[matS m])=strCells acc++[[str (matS m)]]:=by simp [strCells]
 rw [this];exact q2
end Go.Vi
namespace Go.Vi
open Go Go.Proofs Go.Proofs.Tryz
theorem opsLookE {K:AHeap} {mb:Nat} (h:K[mb]?=some (.map opsMap)):aLookup prog K 109 (.map (some mb)) (.int .u8 0) false=some (.agg #[str [61],opF 0]):=by
 rw [aLookup_map,h]
 simp only [tm109,Option.bind_some,mapOf_map,opsOk,keyOk,beq_self_eq_true,if_true]
 unfold mget opsMap opF
 simp [mfind,keyEq]
theorem mp_loop {H:AHeap} {ms:List Mat} {v:Value} {mb lo:Nat} {k:Value→AHeap→Prop} (hm0:MatsAt H v ms) (htm:∀ m∈ms,m.tame) (hml:ms.length≤2 ^ 20) (hH:H.length≤lo) (hmb:mb < lo) (hk:∀ K,Pre H K→k (str (selS ms)) K) :
  ∀ (r : List Mat) (i : Nat) (K : AHeap) (pv : Value) (V W X s6 s7 Y Z c d f g j n o q s u w x y z A B C D E F G I J L M N O Q R S U : Value), ms.drop i = r → i ≤ ms.length → Pre H K → K[mb]? = some (.map opsMap) → lo ≤ K.length → Gro K lo 1 9 pv (strCells ((ms.take i).map matS)) →
    L50x0 (r.length+1) k [v,V,W,.map (some mb),pv,X,s6,s7,Y,Z,v,i64 ms.length,i64 i,c,d,f,g,j,n,o,q,s,u,w,x,y,z,A,B,C,D,E,F,G,I,J,L,M,N,O,Q,R,S,U] K:=by
 intro r
 induction r with
 | nil =>
   intro i K pv V W X s6 s7 Y Z c d f g j n o q s u w x y z A B C D E F G I J L M N O Q R S U hd hi hp hmap hlo hg
   have hle:ms.length≤i:=by simpa using hd
   rw [List.take_of_length_le hle] at hg
   rw [List.length_nil,L50x0q]
   have:¬ i < ms.length:=by omega
   simp [this]
   have hsl:=sel_len htm hml
   refine bndC_of (c_join (sep:=[44]) hg.parts (by omega) (by simp;omega) (by simp) ?_) ?_
   · intro h2
     cases hms:ms.map matS with
     | nil=>rw [hms] at h2;simp at h2
     | cons a t =>
       cases t with
       | nil=>rw [hms] at h2;simp at h2
       | cons b t=>exact join_ne (.inl (by simp))
   refine bndL_lit (strs_lit (l:=[[123],joinS [44] (ms.map matS),[125]]) (tbs33 K 3 _) rfl (by decide)) ?_
   dsimp only
   have hj:joinS [] [[123],joinS [44] (ms.map matS),[125]]=selS ms:=by simp [joinS,selS]
   have hsl2:(selS ms).length≤2 ^ 46:=by simp [selS];omega
   refine bndC_of (c_joined (v:=.slice (some ⟨K.length,0,some 3⟩) 3 3) (l:=[[123],joinS [44] (ms.map matS),[125]]) (.mk _ [[123],joinS [44] (ms.map matS),[125]] (by simp)) (by rw [hj];exact hsl2) (by simp) (fun _ e=>by rw [hj] at e;simp [selS] at e)) ?_
   rw [hj]
   exact hk _ (hp.more _)
 | cons m r ih =>
   intro i K pv V W X s6 s7 Y Z c d f g j n o q s u w x y z A B C D E F G I J L M N O Q R S U hd hi hp hmap hlo hg
   have hb:ms[i]?=some m:=by rw [← List.head?_drop,hd];rfl
   have hlt:i < ms.length:=(List.getElem?_eq_some_iff.1 hb).1
   obtain ⟨p,hp1,hp2⟩:=(hm0.pre hp).load (P:=prog) (T:=52) (te:=56) (i:=i) (e:=m.cells) (by simp) (by simp) (by simp) (by simp [hb])
   have hmK:mb < K.length:=(List.getElem?_eq_some_iff.1 hmap).1
   have hlook:aLookup prog (K++[.cells m.cells 56]) 109 (.map (some mb)) (.int .u8 m.op) true=some (.tuple #[.agg #[str (opS m.op),opF m.op],.bool (isOp m.op)]):=opsLook _ (get_more hmap)
   have hgo:∀ (fv:Value) (V W X Y Z c d f g j n o q s u w x y z A B C D E F G I J L M N O Q R S U:Value),S50x0 (r.length+1) k [v,V,W,.map (some mb),pv,X,.pointer (some ⟨K.length,0,some 3⟩),.pointer (some ⟨K.length+1,0,some 2⟩),Y,Z,v,i64 ms.length,i64 i,c,d,f,g,j,n,o,q,s,u,w,x,y,z,A,B,C,D,E,F,G,I,J,L,M,N,O,Q,R,S,U] (K++[.cells m.cells 56,.cells [str (sgnS m.op),fv] 113]):=by
    intro fv V W X Y Z c d f g j n o q s u w x y z A B C D E F G I J L M N O Q R S U
    refine mp_tail (H:=H) (ms:=ms) (mb:=mb) (lo:=lo) (i:=i) (m:=m) (fv:=fv) (htm m (List.mem_of_getElem? hb)) (by omega) (acc:=(ms.take i).map matS) (hp.more _) hH (get_more hmap) hmb (by simp;omega) (by simp) (by simp) hg.app (by simp;omega) (fun K' pv' V W X s6 s7 Y Z c d f g j n o q s u w x y z A B C D E F G I J L M N O Q R S U a1 a2 a3 a4=>?_) _ _ _ _ _ _ _ _ _ _ _ _ _ _ _ _ _ _ _ _ _ _ _ _ _ _ _ _ _ _ _ _ _ _ _ _
    refine ih (i+1) K' pv' _ _ _ _ _ _ _ _ _ _ _ _ _ _ _ _ _ _ _ _ _ _ _ _ _ _ _ _ _ _ _ _ _ _ _ _ _ _ (by rw [← List.drop_drop,hd];rfl) hlt a1 a2 a3 ?_
    rw [List.take_add_one,hb]
    simpa using a4
   rw [List.length_cons,L50x0q]
   simp only [Mat.cells] at hlook hgo
   simp [hlt,hp1,hp2,Mat.cells,-aLookup_map,hlook,opF_one]
   refine kifB_bool (fun h=>?_) (fun h=>?_)
   · have hno:isOp m.op=false:=by simpa using h
     have hlook2:=opsLookE (K:=K++[.cells [str m.name,.int .u8 m.op,str m.value] 56,.cells [str (opS m.op),opF m.op] 113]) (mb:=mb) (get_more hmap)
     simp [-aLookup_map,hlook2,opF_one]
     have:=hgo (opF 0)
     simp only [sgnS,hno,Bool.false_eq_true,if_false] at this
     exact this _ _ _ _ _ _ _ _ _ _ _ _ _ _ _ _ _ _ _ _ _ _ _ _ _ _ _ _ _ _ _ _ _ _ _ _
   · have hyes:isOp m.op=true:=by simpa using h
     have:=hgo (opF m.op)
     simp only [sgnS,hyes,if_true] at this
     exact this _ _ _ _ _ _ _ _ _ _ _ _ _ _ _ _ _ _ _ _ _ _ _ _ _ _ _ _ _ _ _ _ _ _ _ _
theorem c_matPrint {H:AHeap} {v:Value} {ms:List Mat} (hm:MatsAt H v ms) (htm:∀ m∈ms,m.tame) (hml:ms.length≤2 ^ 20):ACalls prog 50 [v] H (str (selS ms)) H:=by
 refine acalls_pure MixT func50 (by decide) rfl ?_
 rw [d50]
 refine bndC_of (c_matOps H) ?_
 have hlen:=(hm.pre (.app H [.map opsMap])).len (P:=prog) (T:=52) (e:=56) (by simp)
 simp at hlen
 simp [hlen]
 exact ⟨ms.length+1,mp_loop (H:=H) (ms:=ms) (mb:=H.length) (lo:=H.length+1) hm htm hml (by omega) (by omega) (fun K p=>⟨rfl,p⟩) ms 0 _ (.slice none 0 0) _ _ _ _ _ _ _ _ _ _ _ _ _ _ _ _ _ _ _ _ _ _ _ _ _ _ _ _ _ _ _ _ _ _ _ _ _ _ rfl (by omega) (.app _ _) (by simp) (by simp) .nil⟩
end Go.Vi
namespace Go.Vi
open Go Go.Proofs Go.Proofs.Tryz
def strongI (k:UInt8):Int:=if k=2 then 0 else if k=1 then 1 else if k=3 then 2 else if k=0 then 3 else 0
def leafS (n:Nod):List UInt8:=aggs.getD n.agg.toNat []++[40]++selS n.sel++[91]++fmtS n.window++[93,41,32]++cmps.getD n.cmp.toNat []++[32]++fixS n.value
def txtF (ns:List Nod):Nat→Nat→Int→List UInt8
 | 0,_,_=>[]
 | f + 1, e, least => match ns[e]? with
   | none=>[]
   | some n =>
     let s:=if n.kind=0 then leafS n
      else if n.kind=3 then [110,111,116,32]++txtF ns f n.left.toNat 2
      else if n.kind=1 then txtF ns f n.left.toNat 1++[32,97,110,100,32]++txtF ns f n.right.toNat 2
      else if n.kind=2 then txtF ns f n.left.toNat 0++[32,111,114,32]++txtF ns f n.right.toNat 1
      else []
     if strongI n.kind < least then [40]++s++[41] else s
theorem c_strong {H:AHeap} {n:Nod} {sv:Value} (hs:sv.oneCell'=true):ACalls prog 53 [.agg (n.cells sv).toArray] H (i64 (strongI n.kind)) H:=by
 refine acalls_pure MixT func53 (by decide) rfl ?_
 rw [d53]
 simp [aNew_agg,Nod.cells,hs,keyOk,mOk,mput,mfind,keyEq]
 generalize n.kind=q
 by_cases h2:q=2
 · subst h2;simp [mget,mfind,keyEq,strongI]
 by_cases h1:q=1
 · subst h1;simp [mget,mfind,keyEq,strongI]
 by_cases h3:q=3
 · subst h3;simp [mget,mfind,keyEq,strongI]
 by_cases h0:q=0
 · subst h0;simp [mget,mfind,keyEq,strongI]
 have e:∀ m:UInt8,q≠m→¬ (q.toNat:Int)=m.toNat:=fun m hm e=>hm (UInt8.toNat_inj.1 (by omega))
 have e2:=e 2 h2
 have e1:=e 1 h1
 have e3:=e 3 h3
 have e0:=e 0 h0
 simp at e2 e1 e3 e0
 simp [mget,mfind,keyEq,strongI,e2,e1,e3,e0,h2,h1,h3,h0,cok,isLit]
theorem aggs_at {i:Nat} (h:i < 6):aggs[i]?=some (aggs.getD i []):=by
 simp only [List.getD]
 rw [List.getElem?_eq_getElem (by simpa [aggs] using h)];rfl
theorem cmps_at {i:Nat} (h:i < 6):cmps[i]?=some (cmps.getD i []):=by
 simp only [List.getD]
 rw [List.getElem?_eq_getElem (by simpa [cmps] using h)];rfl
def WF (ns:List Nod):Nat→Nat→Prop
 | 0,_=>False
 | f + 1, e => ∃ n, ns[e]? = some n ∧ (n.kind = 0 → n.agg.toNat < 6 ∧ n.cmp.toNat < 6 ∧ -9223372036854775808 ≤ n.window ∧ n.window < 9223372036854775808 ∧ (∀ m ∈ n.sel, m.tame) ∧ n.sel.length ≤ 2 ^ 20 ∧ (leafS n).length ≤ 2 ^ 10) ∧
     (n.kind=3→∃ a:Nat,n.left=a∧WF ns f a)∧(n.kind=1∨n.kind=2→(∃ a:Nat,n.left=a∧WF ns f a)∧∃ b:Nat,n.right=b∧WF ns f b)
theorem txt_len (ns:List Nod):∀ (f e:Nat) (least:Int),WF ns f e→(txtF ns f e least).length+8≤2 ^ (f+10):=by
 intro f
 induction f with
 | zero=>intro e least h;exact h.elim
 | succ f ih =>
   intro e least h
   obtain ⟨n,h1,h2,h3,h4⟩:=h
   have hp:2 ^ (f+1+10)=2*2 ^ (f+10):=by rw [show f+1+10=(f+10)+1 by omega,Nat.pow_succ];omega
   have hq:2 ^ 10≤2 ^ (f+10):=Nat.pow_le_pow_right (by omega) (by omega)
   have key:∀ s:List UInt8,s.length+10≤2 ^ (f+1+10)→(if strongI n.kind < least then [40]++s++[41] else s).length+8≤2 ^ (f+1+10):=by
    intro s hs
    split
    · simp;omega
    · omega
   rw [txtF,h1]
   refine key _ ?_
   split
   · rename_i k;have:=(h2 k).2.2.2.2.2.2;omega
   · split
     · rename_i k
       obtain ⟨a,e1,e2⟩:=h3 k
       have:=ih _ 2 e2
       rw [e1]
       simp
       omega
     · split
       · rename_i k
         obtain ⟨⟨a,e1,e2⟩,b,e3,e4⟩:=h4 (.inl k)
         have a1:=ih _ 1 e2
         have a2:=ih _ 2 e4
         rw [e1,e3]
         simp
         omega
       · split
         · rename_i k
           obtain ⟨⟨a,e1,e2⟩,b,e3,e4⟩:=h4 (.inr k)
           have a1:=ih _ 0 e2
           have a2:=ih _ 1 e4
           rw [e1,e3]
           simp
           omega
         · simp;omega
theorem row_str {K:AHeap} {b i:Nat} {l:List (List UInt8)} {s:List UInt8} {k:IntKind} (hb:hcells K b=some (l.map str)) (hi:l[i]?=some s) :
  ∃ p,aIndexAddr prog K 33 (.slice (some ⟨b,0,some l.length⟩) l.length l.length) (.int k i)=some p∧aLoad prog K 9 p=some (str s):=by
 have hl:hlen K b=some l.length:=by rw [hcells_len hb];simp
 have hlt:=(List.getElem?_eq_some_iff.1 hi).1
 refine ⟨.pointer (some ⟨b,i,some l.length⟩),?_,?_⟩
 · rw [aIndexAddr_sl]
   simp [hl,slElem]
   omega
 · simp [hb,hi]
theorem c_exprText {ns:List Nod} {H:AHeap} {v:Value} (hg:Pw H) (hn:NodesAt H v ns):∀ (f e:Nat) (least:Int),f≤40→WF ns f e→∀ K:AHeap,Pre H K→ACalls prog 33 [v,i64 e,i64 least] K (str (txtF ns f e least)) K:=by
 intro f
 induction f with
 | zero=>intro e least _ h;exact h.elim
 | succ f ih =>
   intro e least hf hw K hpK
   have htl:=txt_len ns (f+1) e
   obtain ⟨n,h1,h2,h3,h4⟩:=id hw
   obtain ⟨cl,ha,hcl,hc⟩:=hn.pre hpK
   obtain ⟨sv,hsv,hm,hml⟩:=hc _ _ h1
   obtain ⟨p,hp1,hp2⟩:=ha.load (P:=prog) (T:=32) (te:=54) (i:=e) (e:=n.cells sv) (by simp) (by simp) (by simp) hsv
   have hone:=hm.one
   refine acalls_pure MixT func33 (by decide) rfl ?_
   generalize hk0:(fun u H2=>u=str (txtF ns (f+1) e least)∧∃ Y,H2=K++Y)=k
   have hk:∀ M,Pre K M→k (str (txtF ns (f+1) e least)) M:=fun M p=>by rw [← hk0];exact ⟨rfl,p⟩
   rw [d33]
   have hpow:2 ^ (f+1+10)≤2 ^ 52:=Nat.pow_le_pow_right (by omega) (by omega)
   have hpow2:2 ^ (f+10)≤2 ^ 51:=Nat.pow_le_pow_right (by omega) (by omega)
   have hpM:Pre K (K++[.cells (n.cells sv) 54]):=.app _ _
   have hcM:hcells (K++[.cells (n.cells sv) 54]) K.length=some (n.cells sv):=by simp
   have hfin:∀ (N:AHeap) (s:List UInt8) (s0 s1 s3 s4 s5 s6 s9 d g j o q r t w y z B D E F G I J L O Q R V Z aa ab ac ad ae af ag ah ai aj ak al am an ao ap aq ar au av aw ax ay az aA aB aC aD aE aF aG aH aI aJ aK aL aM aN aO aP aQ aR aS aT aU aV aW aX aY aZ:Value),Pre (K++[.cells (n.cells sv) 54]) N→s.length≤2 ^ 60→txtF ns (f+1) e least=(if strongI n.kind < least then [40]++s++[41] else s) →
     S33x0 k [s0,s1,i64 least,s3,s4,s5,s6,.pointer (some ⟨K.length,0,some 8⟩),str s,s9,d,g,j,o,q,r,t,w,y,z,B,D,E,F,G,I,J,L,O,Q,R,V,Z,aa,ab,ac,ad,ae,af,ag,ah,ai,aj,ak,al,am,an,ao,ap,aq,ar,au,av,aw,ax,ay,az,aA,aB,aC,aD,aE,aF,aG,aH,aI,aJ,aK,aL,aM,aN,aO,aP,aQ,aR,aS,aT,aU,aV,aW,aX,aY,aZ] N:=by
    intro N s s0 s1 s3 s4 s5 s6 s9 d g j o q r t w y z B D E F G I J L O Q R V Z aa ab ac ad ae af ag ah ai aj ak al am an ao ap aq ar au av aw ax ay az aA aB aC aD aE aF aG aH aI aJ aK aL aM aN aO aP aQ aR aS aT aU aV aW aX aY aZ hN hs ht
    rw [S33x0q]
    rw [ht] at hk
    clear ht hw h2 h3 h4 ih hsv hp2 hk0 htl
    replace hcM:=hN.hcells hcM
    replace hpM:=hpM.trans hN
    clear hN
    generalize N=M at hcM hpM ⊢
    simp only [Nod.cells] at hcM
    simp [hcM]
    have hst:=c_strong (H:=M) (n:=n) (sv:=sv) hone
    simp only [Nod.cells] at hst
    refine bndC_of hst ?_
    simp
    refine kifB_bool (fun h=>?_) (fun h=>?_)
    · have hl:strongI n.kind < least:=by simpa using h
      rw [if_pos hl] at hk
      have c1:∀ X Y,aBin2 prog M .add 9 X Y (.string ⟨#[40]⟩) (str s)=some (str (40 :: s)):=fun X Y=>aBin_str (a:=[40]) (b:=s) (by simp;omega)
      have c2:∀ X Y,aBin2 prog M .add 9 X Y (str (40 :: s)) (.string ⟨#[41]⟩)=some (str (40 :: s++[41])):=fun X Y=>aBin_str (a:=40 :: s) (b:=[41]) (by simp;omega)
      simp [c1,c2]
      exact hk M hpM
    · have hl:¬ strongI n.kind < least:=by simpa using h
      rw [if_neg hl] at hk
      exact hk M hpM
   generalize hM:K++[AObj.cells (n.cells sv) 54]=M at hcM hpM hfin
   have hpHM:=hpK.trans hpM
   simp only [Nod.cells] at hcM hM
   have hlM:hlen M K.length=some 8:=by rw [hcells_len hcM];rfl
   simp [hp1,hp2,Nod.cells,hone,hM,hcM,hlM]
   by_cases k0:n.kind=0
   · obtain ⟨g1,g2,g3,g4,g5,g6,g7⟩:=h2 k0
     have e0:(n.kind.toNat:Int)=0:=by rw [k0];rfl
     have hts:txtF ns (f+1) e least=if strongI n.kind < least then [40]++leafS n++[41] else leafS n:=by rw [txtF,h1];simp only [k0,if_true]
     have hgo:∀ (N:AHeap) (s:List UInt8) (s0 s1 s3 s4 s5 s6 s9 d g j o q r t w y z B D E F G I J L O Q R V Z aa ab ac ad ae af ag ah ai aj ak al am an ao ap aq ar au av aw ax ay az aA aB aC aD aE aF aG aH aI aJ aK aL aM aN aO aP aQ aR aS aT aU aV aW aX aY aZ:Value),Pre M N→s=leafS n→S33x0 k [s0,s1,i64 least,s3,s4,s5,s6,.pointer (some ⟨K.length,0,some 8⟩),str s,s9,d,g,j,o,q,r,t,w,y,z,B,D,E,F,G,I,J,L,O,Q,R,V,Z,aa,ab,ac,ad,ae,af,ag,ah,ai,aj,ak,al,am,an,ao,ap,aq,ar,au,av,aw,ax,ay,az,aA,aB,aC,aD,aE,aF,aG,aH,aI,aJ,aK,aL,aM,aN,aO,aP,aQ,aR,aS,aT,aU,aV,aW,aX,aY,aZ] N:=fun N s s0 s1 s3 s4 s5 s6 s9 d g j o q r t w y z B D E F G I J L O Q R V Z aa ab ac ad ae af ag ah ai aj ak al am an ao ap aq ar au av aw ax ay az aA aB aC aD aE aF aG aH aI aJ aK aL aM aN aO aP aQ aR aS aT aU aV aW aX aY aZ a b=>hfin N s _ _ _ _ _ _ _ _ _ _ _ _ _ _ _ _ _ _ _ _ _ _ _ _ _ _ _ _ _ _ _ _ _ _ _ _ _ _ _ _ _ _ _ _ _ _ _ _ _ _ _ _ _ _ _ _ _ _ _ _ _ _ _ _ _ _ _ _ _ _ _ _ _ _ _ _ _ _ _ _ a (by subst b;omega) (by rw [hts,b])
     simp only [leafS,List.length_append,List.length_cons,List.length_nil] at g7
     simp only [leafS] at hgo
     clear hfin ih h3 h4 htl hw
     generalize hA:aggs.getD n.agg.toNat []=A at g7 hgo
     generalize hC:cmps.getD n.cmp.toNat []=C at g7 hgo
     have hA':aggs[n.agg.toNat]?=some A:=by rw [← hA];exact aggs_at g1
     have hC':cmps[n.cmp.toNat]?=some C:=by rw [← hC];exact cmps_at g2
     simp [e0]
     refine bndD_of (c_aggregates M) (.inr ⟨_,rfl⟩) ?_
     obtain ⟨p1,a1,a2⟩:=row_str (K:=M++[.cells (aggs.map str) 9]) (b:=M.length) (l:=aggs) (k:=.u8) (by simp) hA'
     simp only [show aggs.length=6 from rfl] at a1
     simp [hlM,hcM,a1,a2]
     generalize hM1:M++[AObj.cells (aggs.map str) 9]=M1
     have hpM1:Pre M M1:=by rw [← hM1];exact .app _ _
     clear hM1 a1 a2 hA' hA hC
     have hmp:=c_matPrint ((hm.pre hpM).pre hpM1) g5 g6
     have hit:=c_itoa (H:=M1) ((hg.trans hpHM).trans hpM1) g3 g4
     generalize selS n.sel=S at g7 hgo hmp
     generalize fmtS n.window=W at g7 hgo hit
     refine bnd_of (aBin_str (b:=[40]) (by simp;omega)) ?_
     simp [hlM,hcM]
     refine bndD_same hmp ?_
     dsimp only
     refine bnd_of (aBin_str (b:=S) (by simp;omega)) ?_
     dsimp only
     refine bnd_of (aBin_str (b:=[91]) (by simp;omega)) ?_
     simp [hlM,hcM]
     refine bndD_same hit ?_
     dsimp only
     refine bnd_of (aBin_str (b:=W) (by simp;omega)) ?_
     dsimp only
     refine bnd_of (aBin_str (b:=[93,41,32]) (by simp;omega)) ?_
     dsimp only
     refine bndD_of (c_compares M1) (.inr ⟨_,rfl⟩) ?_
     obtain ⟨p2,b1,b2⟩:=row_str (K:=M1++[.cells (cmps.map str) 9]) (b:=M1.length) (l:=cmps) (k:=.u8) (by simp) hC'
     simp only [show cmps.length=6 from rfl] at b1
     simp [hlM,hcM,b1,b2]
     have hfx:=c_fixPrint (H:=M1++[.cells (cmps.map str) 9]) (((hg.trans hpHM).trans hpM1).more _) (x:=n.value)
     have hpM2:Pre M (M1++[.cells (cmps.map str) 9]):=hpM1.more _
     clear b1 b2 hmp hit
     generalize M1++[AObj.cells (cmps.map str) 9]=M2 at hfx hpM2 ⊢
     generalize fixS n.value=X at g7 hgo hfx
     refine bnd_of (aBin_str (b:=C) (by simp;omega)) ?_
     dsimp only
     refine bnd_of (aBin_str (b:=[32]) (by simp;omega)) ?_
     simp [hlM,hcM]
     refine bndD_same hfx ?_
     dsimp only
     refine bnd_of (aBin_str (b:=X) (by simp;omega)) ?_
     dsimp only
     exact hgo M2 _ _ _ _ _ _ _ _ _ _ _ _ _ _ _ _ _ _ _ _ _ _ _ _ _ _ _ _ _ _ _ _ _ _ _ _ _ _ _ _ _ _ _ _ _ _ _ _ _ _ _ _ _ _ _ _ _ _ _ _ _ _ _ _ _ _ _ _ _ _ _ _ _ _ _ _ _ _ _ _ _ hpM2 (by simp)
   · have hkn:∀ m:UInt8,n.kind≠m→¬ (n.kind.toNat:Int)=m.toNat:=fun m hm e=>hm (UInt8.toNat_inj.1 (by omega))
     have e0:¬ (n.kind.toNat:Int)=0:=by simpa using hkn 0 k0
     have e0b:((n.kind.toNat:Int) == 0)=false:=by simpa using e0
     have hgo:∀ (N:AHeap) (s:List UInt8) (s0 s1 s3 s4 s5 s6 s9 d g j o q r t w y z B D E F G I J L O Q R V Z aa ab ac ad ae af ag ah ai aj ak al am an ao ap aq ar au av aw ax ay az aA aB aC aD aE aF aG aH aI aJ aK aL aM aN aO aP aQ aR aS aT aU aV aW aX aY aZ:Value),Pre M N→s.length≤2 ^ 60→(txtF ns (f+1) e least=if strongI n.kind < least then [40]++s++[41] else s)→S33x0 k [s0,s1,i64 least,s3,s4,s5,s6,.pointer (some ⟨K.length,0,some 8⟩),str s,s9,d,g,j,o,q,r,t,w,y,z,B,D,E,F,G,I,J,L,O,Q,R,V,Z,aa,ab,ac,ad,ae,af,ag,ah,ai,aj,ak,al,am,an,ao,ap,aq,ar,au,av,aw,ax,ay,az,aA,aB,aC,aD,aE,aF,aG,aH,aI,aJ,aK,aL,aM,aN,aO,aP,aQ,aR,aS,aT,aU,aV,aW,aX,aY,aZ] N:=fun N s s0 s1 s3 s4 s5 s6 s9 d g j o q r t w y z B D E F G I J L O Q R V Z aa ab ac ad ae af ag ah ai aj ak al am an ao ap aq ar au av aw ax ay az aA aB aC aD aE aF aG aH aI aJ aK aL aM aN aO aP aQ aR aS aT aU aV aW aX aY aZ a b c=>hfin N s _ _ _ _ _ _ _ _ _ _ _ _ _ _ _ _ _ _ _ _ _ _ _ _ _ _ _ _ _ _ _ _ _ _ _ _ _ _ _ _ _ _ _ _ _ _ _ _ _ _ _ _ _ _ _ _ _ _ _ _ _ _ _ _ _ _ _ _ _ _ _ _ _ _ _ _ _ _ _ _ a b c
     have htx:txtF ns (f+1) e least=(let s:=(if n.kind=3 then [110,111,116,32]++txtF ns f n.left.toNat 2 else if n.kind=1 then txtF ns f n.left.toNat 1++[32,97,110,100,32]++txtF ns f n.right.toNat 2 else if n.kind=2 then txtF ns f n.left.toNat 0++[32,111,114,32]++txtF ns f n.right.toNat 1 else []);(if strongI n.kind < least then [40]++s++[41] else s)):=by rw [txtF,h1];simp only [k0,if_false]
     dsimp only at htx
     by_cases k3:n.kind=3
     · obtain ⟨a,l1,l2⟩:=h3 k3
       have e3:(n.kind.toNat:Int)=3:=by rw [k3];rfl
       rw [if_pos k3,l1,Int.toNat_natCast] at htx
       have hl:=txt_len ns f a 2 l2
       have hcall:=ih a 2 (by omega) l2 M hpHM
       generalize txtF ns f a 2=T at htx hl hcall
       simp [e3,hlM,hcM,l1]
       refine bndC_of hcall ?_
       refine bnd_of (v:=str ([110,111,116,32]++T)) (aBin_str (a:=[110,111,116,32]) (b:=T) (by simp;omega)) ?_
       dsimp only
       exact hgo M _ _ _ _ _ _ _ _ _ _ _ _ _ _ _ _ _ _ _ _ _ _ _ _ _ _ _ _ _ _ _ _ _ _ _ _ _ _ _ _ _ _ _ _ _ _ _ _ _ _ _ _ _ _ _ _ _ _ _ _ _ _ _ _ _ _ _ _ _ _ _ _ _ _ _ _ _ _ _ _ _ (.refl _) (by simp;omega) htx
     · have e3:¬ (n.kind.toNat:Int)=3:=by simpa using hkn 3 k3
       have e3b:((n.kind.toNat:Int) == 3)=false:=by simpa using e3
       rw [if_neg k3] at htx
       by_cases k1:n.kind=1
       · obtain ⟨⟨a,l1,l2⟩,b,r1,r2⟩:=h4 (.inl k1)
         have e1:(n.kind.toNat:Int)=1:=by rw [k1];rfl
         rw [if_pos k1,l1,r1,Int.toNat_natCast,Int.toNat_natCast] at htx
         have hl:=txt_len ns f a 1 l2
         have hr:=txt_len ns f b 2 r2
         have hcl1:=ih a 1 (by omega) l2 M hpHM
         have hcl2:=ih b 2 (by omega) r2 M hpHM
         generalize txtF ns f a 1=T at htx hl hcl1
         generalize txtF ns f b 2=U at htx hr hcl2
         simp [e1,hlM,hcM,l1]
         refine bndD_same hcl1 ?_
         dsimp only
         refine bnd_of (aBin_str (b:=[32,97,110,100,32]) (by simp;omega)) ?_
         simp [hlM,hcM,r1]
         refine bndD_same hcl2 ?_
         dsimp only
         refine bnd_of (aBin_str (b:=U) (by simp;omega)) ?_
         dsimp only
         exact hgo M _ _ _ _ _ _ _ _ _ _ _ _ _ _ _ _ _ _ _ _ _ _ _ _ _ _ _ _ _ _ _ _ _ _ _ _ _ _ _ _ _ _ _ _ _ _ _ _ _ _ _ _ _ _ _ _ _ _ _ _ _ _ _ _ _ _ _ _ _ _ _ _ _ _ _ _ _ _ _ _ _ (.refl _) (by simp;omega) (by rw [htx])
       · have e1:¬ (n.kind.toNat:Int)=1:=by simpa using hkn 1 k1
         have e1b:((n.kind.toNat:Int) == 1)=false:=by simpa using e1
         rw [if_neg k1] at htx
         by_cases k2:n.kind=2
         · obtain ⟨⟨a,l1,l2⟩,b,r1,r2⟩:=h4 (.inr k2)
           have e2:(n.kind.toNat:Int)=2:=by rw [k2];rfl
           rw [if_pos k2,l1,r1,Int.toNat_natCast,Int.toNat_natCast] at htx
           have hl:=txt_len ns f a 0 l2
           have hr:=txt_len ns f b 1 r2
           have hcl1:=ih a 0 (by omega) l2 M hpHM
           have hcl2:=ih b 1 (by omega) r2 M hpHM
           generalize txtF ns f a 0=T at htx hl hcl1
           generalize txtF ns f b 1=U at htx hr hcl2
           simp [e2,hlM,hcM,l1]
           refine bndD_same hcl1 ?_
           dsimp only
           refine bnd_of (aBin_str (b:=[32,111,114,32]) (by simp;omega)) ?_
           simp [hlM,hcM,r1]
           refine bndD_same hcl2 ?_
           dsimp only
           refine bnd_of (aBin_str (b:=U) (by simp;omega)) ?_
           dsimp only
           exact hgo M _ _ _ _ _ _ _ _ _ _ _ _ _ _ _ _ _ _ _ _ _ _ _ _ _ _ _ _ _ _ _ _ _ _ _ _ _ _ _ _ _ _ _ _ _ _ _ _ _ _ _ _ _ _ _ _ _ _ _ _ _ _ _ _ _ _ _ _ _ _ _ _ _ _ _ _ _ _ _ _ _ (.refl _) (by simp;omega) (by rw [htx])
         · have e2:¬ (n.kind.toNat:Int)=2:=by simpa using hkn 2 k2
           have e2b:((n.kind.toNat:Int) == 2)=false:=by simpa using e2
           rw [if_neg k2] at htx
           simp [e0b,e1b,e2b,e3b]
           exact hgo M [] _ _ _ _ _ _ _ _ _ _ _ _ _ _ _ _ _ _ _ _ _ _ _ _ _ _ _ _ _ _ _ _ _ _ _ _ _ _ _ _ _ _ _ _ _ _ _ _ _ _ _ _ _ _ _ _ _ _ _ _ _ _ _ _ _ _ _ _ _ _ _ _ _ _ _ _ _ _ _ _ (.refl _) (by simp) htx
end Go.Vi
namespace Go.Vi
open Go Go.Proofs Go.Proofs.Tryz
theorem ok_len {m:Mat} (h:m.ok=true):m.tame∧(matS m).length≤84:=by
 unfold Mat.ok mayName mayM mayValue at h
 simp only [Bool.and_eq_true,Bool.or_eq_true,decide_eq_true_eq] at h
 obtain ⟨⟨_,⟨⟨_,h1⟩,_⟩,_⟩,h2⟩:=h
 have h3:m.value.length≤32:=by
  rcases h2 with h2 | h2
  · rw [h2];simp
  · exact h2.1.2
 have h4:=sgnS_len m.op
 have h5:=quoteS_len m.value
 refine ⟨⟨by omega,by omega⟩,?_⟩
 simp only [matS,List.length_append]
 omega
theorem sel_small {ms:List Mat} (h:mayMats ms=true):(∀ m∈ms,m.tame)∧ms.length≤6∧(selS ms).length≤512:=by
 unfold mayMats at h
 simp only [Bool.and_eq_true,List.all_eq_true,decide_eq_true_eq] at h
 obtain ⟨h1,h2⟩:=h
 refine ⟨fun m hm=>(ok_len (h1 m hm)).1,h2,?_⟩
 have h3:(joinS [44] (ms.map matS)).length≤510:=by
  cases h:ms.map matS with
  | nil=>simp [joinS]
  | cons a r =>
    rw [join_len]
    have hall:∀ x∈a :: r,x.length≤84:=by
     rw [← h]
     intro x hx
     obtain ⟨m,hm1,rfl⟩:=List.mem_map.1 hx
     exact (ok_len (h1 m hm1)).2
    have h4:=sumL_le _ hall
    have h5:(a :: r).length≤6:=by rw [← h];simpa using h2
    simp at h5 h4 ⊢
    omega
 simp [selS]
 omega
theorem fixS_len (x:Int):(fixS x).length≤42:=by
 have hb:-4611686018427387903≤sat x∧sat x≤4611686018427387903:=by unfold sat maxFix;omega
 unfold fixS
 rw [fmtS_nat,fmtS_nat]
 have l1:=natS_len (n:=(sat x).natAbs / 1000) (by omega)
 have l2:=natS_len (n:=1000+(sat x).natAbs % 1000) (by omega)
 have l3:=trimR_len 48 ((natS (1000+(sat x).natAbs % 1000)).drop 1)
 simp only [List.length_drop] at l3
 have l4:(if sat x < 0 then [45] else ([]:List UInt8)).length≤1:=by split<;>simp
 have l5:(if (sat x).natAbs % 1000=0 then [] else 46 :: trimR 48 ((natS (1000+(sat x).natAbs % 1000)).drop 1)).length≤21:=by
  split
  · simp
  · simp only [List.length_cons];omega
 rw [List.length_append,List.length_append]
 omega
theorem getD_len {l:List (List UInt8)} {i c:Nat} (h:∀ x∈l,x.length≤c):(l.getD i []).length≤c:=by
 simp only [List.getD]
 cases hi:l[i]? with
 | none=>simp
 | some s=>exact h s (List.mem_of_getElem? hi)
theorem plain_leaf {n:Nod} (h:n.plain=true):n.agg.toNat < 6∧n.cmp.toNat < 6∧-9223372036854775808≤n.window∧n.window < 9223372036854775808∧(∀ m∈n.sel,m.tame)∧n.sel.length≤2 ^ 20∧(leafS n).length≤2 ^ 10:=by
 unfold Nod.plain at h
 simp only [Bool.and_eq_true,decide_eq_true_eq] at h
 obtain ⟨⟨⟨⟨⟨⟨⟨h1,h2⟩,h3⟩,h4⟩,h5⟩,_⟩,_⟩,_⟩:=h
 obtain ⟨s1,s2,s3⟩:=sel_small h2
 refine ⟨by omega,by omega,by omega,by omega,s1,by omega,?_⟩
 have a1:(aggs.getD n.agg.toNat []).length≤5:=getD_len (by decide)
 have a2:(cmps.getD n.cmp.toNat []).length≤2:=getD_len (by decide)
 have a3:=fixS_len n.value
 have a4:(fmtS n.window).length≤20:=by
  obtain ⟨w,hw⟩:∃ w:Nat,n.window=w:=⟨n.window.toNat,by omega⟩
  rw [hw,fmtS_nat]
  exact natS_len (by omega)
 simp only [leafS,List.length_append,List.length_cons,List.length_nil]
 omega
theorem beg_WF (ns:List Nod):∀ (f:Nat) (e:Int),0≤beg ns f e→∃ a:Nat,e=a∧WF ns f a:=by
 intro f
 induction f with
 | zero=>intro e h;simp [beg] at h
 | succ f ih =>
   intro e h
   rw [beg] at h
   by_cases he:e < 0
   · rw [if_pos he] at h;omega
   rw [if_neg he] at h
   obtain ⟨a,rfl⟩:∃ a:Nat,e=a:=⟨e.toNat,by omega⟩
   refine ⟨a,rfl,?_⟩
   rw [Int.toNat_natCast] at h
   cases hn:ns[a]? with
   | none=>rw [hn] at h;simp at h
   | some n =>
     rw [hn] at h
     simp only at h
     have kk:∀ m:UInt8,n.kind=m→(n.kind.toNat:Int)=m.toNat:=fun m hm=>by rw [hm]
     refine ⟨n,hn,fun k=>?_,fun k=>?_,fun k=>?_⟩
     · have e0:((n.kind.toNat:Int) == 0)=true:=by rw [kk 0 k];rfl
       rw [if_pos e0] at h
       split at h
       · rename_i hp;exact plain_leaf hp
       · omega
     · have e0:¬ ((n.kind.toNat:Int) == 0)=true:=by rw [kk 3 k];decide
       have e3:((n.kind.toNat:Int) == 3)=true:=by rw [kk 3 k];rfl
       rw [if_neg e0,if_pos e3] at h
       split at h
       · rename_i hc
         simp only [Bool.and_eq_true,beq_iff_eq] at hc
         obtain ⟨b,hb1,hb2⟩:=ih _ h
         exact ⟨b,by omega,hb2⟩
       · omega
     · have e0:¬ ((n.kind.toNat:Int) == 0)=true:=by rcases k with k | k<;>rw [kk _ k]<;>decide
       have e3:¬ ((n.kind.toNat:Int) == 3)=true:=by rcases k with k | k<;>rw [kk _ k]<;>decide
       have e4:(isAnd n || isOr n)=true:=by
        unfold isAnd isOr
        rcases k with k | k<;>rw [kk _ k]<;>rfl
       rw [if_neg e0,if_neg e3,if_pos e4] at h
       split at h
       · rename_i hc
         simp only [Bool.and_eq_true,beq_iff_eq,decide_eq_true_eq] at hc
         obtain ⟨⟨⟨_,c1⟩,c2⟩,c3⟩:=hc
         obtain ⟨b,hb1,hb2⟩:=ih _ (show 0≤beg ns f ((a:Int)-1) by omega)
         obtain ⟨d,hd1,hd2⟩:=ih _ h
         exact ⟨⟨d,by omega,hd2⟩,b,by omega,hb2⟩
       · omega
def printS (ns:List Nod):List UInt8:=if right ns=true then txtF ns ns.length (ns.length-1) 0 else []
theorem right_WF {ns:List Nod} (h:right ns=true):1≤ns.length∧ns.length≤31∧WF ns ns.length (ns.length-1):=by
 unfold right at h
 simp only [Bool.and_eq_true,decide_eq_true_eq,beq_iff_eq] at h
 obtain ⟨⟨h1,h2⟩,h3⟩:=h
 obtain ⟨a,ha,hw⟩:=beg_WF ns _ _ (show 0≤beg ns ns.length ((ns.length:Int)-1) by omega)
 have:a=ns.length-1:=by omega
 subst this
 exact ⟨by omega,by omega,hw⟩
theorem src_flat2 {z:Nat} {cs:List Value}:∀ (l:List (List Value)) (o:Nat),(∀ (i:Nat) e,l[i]?=some e→(cs.drop (o+i*z)).take z=e)→(cs.drop o).take (l.length*z)=l.flatten:=by
 intro l
 induction l with
 | nil=>intro o _;simp
 | cons c r ih =>
   intro o h
   have h0:=h 0 c rfl
   have hr:=ih (o+z) fun i e hi=>by
    have:=h (i+1) e (by simpa using hi)
    rw [← this,Nat.add_mul,Nat.one_mul];congr 2;omega
   rw [List.length_cons,Nat.add_mul,Nat.one_mul,Nat.add_comm,List.take_add,List.drop_drop,hr,List.flatten_cons]
   simpa using congrArg (·++r.flatten) h0
theorem Arr.srcOf {H z v l} (h:Arr H z v l):aSrc H z v=some (l.length,l.flatten):=by
 cases h with
 | nil=>rfl
 | mk b o m n c cs l hn hcs hm hle hel =>
   subst hn
   simp only [aSrc,hcs]
   rw [if_pos ⟨hm.symm,by omega⟩,src_flat2 l o hel]
theorem aBin_slnil {H:AHeap} {T e:TypeId} {x:Operand} {c:Value} {a:Addr} {n m:Nat} (h:prog.underlying T=some (.slice e)):aBin2 prog H .eql T x (.const c) (.slice (some a) n m) (.slice none 0 0)=some (.bool false):=by
 apply aBin2_of
 simp [aBin,clos,isLit,notNil,h]
theorem nbl2:isSeq prog 32=true:=by kernel_rfl
theorem c_cloneNodes {H:AHeap} {v:Value} {ns:List Nod} (hn:NodesAt H v ns) (h1:1≤ns.length) (h2:ns.length≤2 ^ 20):∃ v' K',ACalls prog 32 [v] H v' K'∧Pre H K'∧NodesAt K' v' ns:=by
 obtain ⟨v',K',⟨q1,q2⟩,q3⟩:∃ v' K',(Pre H K'∧NodesAt K' v' ns)∧ACalls prog 32 [v] H v' K':=by
  refine acalls_ex MixT func32 (by decide) ?_
  rw [d32]
  obtain ⟨cl,ha,hcl,hc⟩:=hn
  have hsrc:=Arr.srcOf (ha.pre (.app H [.cells [] 54]))
  have hv:∃ a n c,v=.slice (some a) n c:=by
   cases ha with
   | nil=>simp at hcl;omega
   | mk b o m n c cs l=>exact ⟨_,_,_,rfl⟩
  obtain ⟨a,n,c,rfl⟩:=hv
  rw [aBin_slnil (e:=54) (by simp)]
  simp
  have hlit:sliceLit prog H 32 0 [] (.slice (some ⟨H.length,0,some 0⟩) 0 0) (H++[.cells [] 54]):=by
   refine ⟨rfl,(tbs32 H 0 []).trans ?_⟩
   simp [bslV,Instr.fill,repCells]
  refine bndL_lit hlit ?_
  have hel:∀ x∈cl,x.length=8:=by
   intro x hx
   obtain ⟨i,hi⟩:=List.getElem?_of_mem hx
   exact ha.elen hi
  have hne:cl≠[]:=by rintro rfl;simp at hcl;omega
  have happ:aBuiltin prog (H++[.cells [] 54]) .append #[32,32] [.slice (some ⟨H.length,0,some 0⟩) 0 0,.slice (some a) n c]=some (.slice (some ⟨H.length,0,some (cl.length*8)⟩) cl.length cl.length,H++[.cells cl.flatten 54]):=by
   have hl1:1≤cl.length:=by omega
   have e1:cl.length*72≤140737488355328:=by omega
   have e2:cl.length≤9223372036854775807:=by omega
   have e3:¬ cl.length=0:=by omega
   simp [aBuiltin,aAppend,nbl2,hsrc,hne,e1,e2]
  dsimp only
  rw [happ]
  simp
  refine ⟨.app _ _,cl,(Gro.mk (K:=H++[.cells cl.flatten 54]) (lo:=0) (z:=8) (T:=54) H.length cl (by omega) (by simp) hne hel).arr,hcl,fun i n hi=>?_⟩
  obtain ⟨sv,r1,r2,r3⟩:=hc i n hi
  exact ⟨sv,r1,r2.pre (.app _ _),r3⟩
 exact ⟨v',K',q3,q1,q2⟩
theorem c_exprPrint {H:AHeap} {v:Value} {ns:List Nod} (hg:Pw H) (hn:NodesAt H v ns):ACalls prog 18 [v] H (str (printS ns)) H:=by
 refine acalls_pure MixT func18 (by decide) rfl ?_
 rw [d18]
 refine bndC_of (c_right hn) ?_
 cases hr:right ns with
 | false =>
   have:printS ns=[]:=by unfold printS;rw [hr];rfl
   rw [this]
   simp
 | true =>
   have hp:printS ns=txtF ns ns.length (ns.length-1) 0:=by unfold printS;rw [if_pos hr]
   obtain ⟨h1,h2,h3⟩:=right_WF hr
   obtain ⟨v',K',g1,g2,g3⟩:=c_cloneNodes hn h1 (by omega)
   simp
   refine bndC_of g1 ?_
   have hl:=g3.len K'
   have hw:IntKind.i64.wrap ((ns.length:Int)-1)=((ns.length-1:Nat):Int):=by rw [wrap_i64 (by omega) (by omega)];omega
   simp [hl,hw]
   refine bndC_of (c_exprText (hg.trans g2) g3 ns.length (ns.length-1) 0 (by omega) h3 K' (.refl _)) ?_
   rw [hp]
   exact ⟨rfl,g2⟩
end Go.Vi
namespace Go.Vi
open Go Go.Proofs Go.Proofs.Tryz
def andI (k:IntKind) (a b:Int):Int:=k.wrap (BitVec.ofInt k.bits a &&& BitVec.ofInt k.bits b).toNat
def xorI (k:IntKind) (a b:Int):Int:=k.wrap (BitVec.ofInt k.bits a ^^^ BitVec.ofInt k.bits b).toNat
theorem aBin_and {P:Program} {H:AHeap} {T:TypeId} {x y:Operand} {k:IntKind} {a b:Int}:aBin2 P H .and T x y (.int k a) (.int k b)=some (.int k (andI k a b)):=by
 apply aBin2_of
 simp [aBin,clos,isLit,eqGuard,binOp,Op.intBits,pv_pure,andI]
theorem aBin_xor {P:Program} {H:AHeap} {T:TypeId} {x y:Operand} {k:IntKind} {a b:Int}:aBin2 P H .xor T x y (.int k a) (.int k b)=some (.int k (xorI k a b)):=by
 apply aBin2_of
 simp [aBin,clos,isLit,eqGuard,binOp,Op.intBits,pv_pure,xorI]
theorem unV_xor32 {P:Program} {a:Int}:unV P .xor (.int .u32 a)=some (.int .u32 (xorI .u32 4294967295 a)):=by kernel_rfl
def upF (p:Int):Int:=if (andI .u32 p 1 == 1)=true then xorI .u32 (p.fdiv 2) 2197175160 else p.fdiv 2
theorem c_up (H:AHeap) (p:Int):ACalls prog 76 [.int .u32 p] H (.int .u32 (upF p)) H:=by
 refine acalls_pure MixT func76 (by decide) rfl ?_
 rw [d76]
 have e:(2:Int) ^ (min 1 IntKind.u32.bits)=2:=by decide
 simp [aBin_and]
 refine kifB_bool (fun h=>?_) (fun h=>?_)
 · simp [upF,h,aBin_shr,aBin_xor,e]
 · simp [upF,h,aBin_shr,e]
def ups:Nat→Int→Int
 | 0,p=>p
 | n+1,p=>ups n (upF p)
def tabF (i:Nat):Int:=ups 8 i
def tabC (i:Nat):List Value:=(List.range i).map (fun j=>.int .u32 (tabF j))++List.replicate (256-i) (.int .u32 0)
theorem tabC_len {i:Nat} (h:i≤256):(tabC i).length=256:=by simp [tabC];omega
theorem tabC_set {i:Nat} (h:i < 256):(tabC i).set i (.int .u32 (tabF i))=tabC (i+1):=by
 unfold tabC
 rw [List.set_append_right _ _ (by simp),List.length_map,List.length_range,Nat.sub_self,show 256-i=(256-(i+1))+1 by omega,List.replicate_succ,List.set_cons_zero,List.range_succ,List.map_append]
 simp
theorem row_in {k:Value→AHeap→Prop} {H:AHeap} {n0 i:Nat} {pv:Value} (hi:i < 256) (hp:pv=.pointer (some ⟨H.length,0,some 256⟩))
  (hk:∀ (r x y s t u w A a c d f g h l q:Value),L54x0 n0 k [r,pv,x,y,i64 ((i+1:Nat):Int),s,t,u,w,A,a,c,d,f,g,h,l,q] (H++[.cells (tabC (i+1)) 118])) :
  ∀ (n j:Nat) (p:Int) (r s t u w a c d f g h l q:Value),n+j=8→ups n p=tabF i→L54x1 (n+1) n0 k [r,pv,i64 i,.int .u32 p,i64 i,s,t,u,w,i64 j,a,c,d,f,g,h,l,q] (H++[.cells (tabC i) 118]):=by
 intro n
 induction n with
 | zero =>
   intro j p r s t u w a c d f g h l q hj hu
   rw [L54x1q]
   have:¬ j < 8:=by omega
   have hl:hlen (H++[.cells (tabC i) 118]) H.length=some 256:=by simp [tabC_len (Nat.le_of_lt hi)]
   have hia:=aIndexAddr_arr (P:=prog) (H:=H++[.cells (tabC i) 118]) (T:=118) (e:=30) (b:=H.length) (o:=0) (m:=256) (z:=1) (n:=256) (k:=.i64) (i:=i) (by simp) (by simp) hl (by omega) (by omega)
   subst hp
   have w1:IntKind.i64.wrap ((i:Int)+1)=((i+1:Nat):Int):=by rw [wrap_i64 (by omega) (by omega)];omega
   simp only [ups] at hu
   subst hu
   have hge:¬ ((j:Int) < 8):=by omega
   simp [hge,hia,tabC_len (Nat.le_of_lt hi)]
   rw [if_pos (by omega),tabC_set hi]
   simp [w1]
   exact hk _ _ _ _ _ _ _ _ _ _ _ _ _ _ _ _
 | succ n ih =>
   intro j p r s t u w a c d f g h l q hj hu
   rw [L54x1q]
   have hlt:j < 8:=by omega
   have w1:IntKind.i64.wrap ((j:Int)+1)=((j+1:Nat):Int):=by rw [wrap_i64 (by omega) (by omega)];omega
   refine bnd_of (v:=.bool true) (by simp;omega) ?_
   dsimp only
   rw [kifB_true]
   dsimp only
   refine bndC_of (c_up _ p) ?_
   simp [w1]
   rw [show ((j:Int)+1)=((j+1:Nat):Int) by omega]
   exact ih (j+1) _ _ _ _ _ _ _ _ _ _ _ _ _ _ (by omega) hu
theorem alTab (H:AHeap):aAlloc prog H 118=some (.pointer (some ⟨H.length,0,some 256⟩),H++[.cells (tabC 0) 118]):=by kernel_rfl
theorem row_out {k:Value→AHeap→Prop} {H:AHeap} {pv:Value} (hp:pv=.pointer (some ⟨H.length,0,some 256⟩)) (hk:k pv (H++[.cells (tabC 256) 118])) :
  ∀ (n i:Nat) (j l m o p q r s a b c d e f g h:Value),n+i=256→L54x0 (n+1) k [j,pv,l,m,i64 i,o,p,q,r,s,a,b,c,d,e,f,g,h] (H++[.cells (tabC i) 118]):=by
 intro n
 induction n with
 | zero =>
   intro i j l m o p q r s a b c d e f g h hi
   obtain rfl:i=256:=by omega
   rw [L54x0q]
   simp
   exact hk
 | succ n ih =>
   intro i j l m o p q r s a b c d e f g h hi
   have hlt:(i:Int) < 256:=by omega
   rw [L54x0q]
   simp [hlt,convV_int]
   have w:IntKind.u32.wrap (i:Int)=i:=by
    unfold IntKind.wrap
    simp only [show IntKind.u32.bits=32 from rfl,show IntKind.u32.signed=false from rfl]
    simp
    omega
   rw [w]
   exact ⟨_,row_in (n0:=n+1) (i:=i) (by omega) hp (fun j l m o p q r s a b c d e f g h=>ih (i+1) _ _ _ _ _ _ _ _ _ _ _ _ _ _ _ _ (by omega)) 8 0 i _ _ _ _ _ _ _ _ _ _ _ _ _ rfl rfl⟩
def tabV (b:Nat):Value:=.pointer (some ⟨b,0,some 256⟩)
theorem c_row (H:AHeap):ACalls prog 54 [] H (tabV H.length) (H++[.cells (tabC 256) 118]):=by
 refine acalls_of MixT func54 (by decide) ?_
 rw [d54,alTab]
 simp
 exact ⟨_,row_out rfl ⟨rfl,rfl⟩ 256 0 _ _ _ _ _ _ _ _ _ _ _ _ _ _ _ _ rfl⟩
def onF (left:Int) (b:UInt8):Int:=xorI .u32 (tabF (xorI .u8 (IntKind.u8.wrap left) b.toNat).toNat) (left.fdiv 256)
theorem xor8_lt (a:Int) (b:UInt8):0≤xorI .u8 a b.toNat∧xorI .u8 a b.toNat < 256:=by
 unfold xorI IntKind.wrap
 simp only [show IntKind.u8.bits=8 from rfl,show IntKind.u8.signed=false from rfl]
 simp
 omega
theorem tab_at {K:AHeap} {tb:Nat} (h:hcells K tb=some (tabC 256)) {x:Int} (h0:0≤x) (h1:x < 256):∃ p,aIndexAddr prog K 118 (tabV tb) (.int .u8 x)=some p∧aLoad prog K 30 p=some (.int .u32 (tabF x.toNat)):=by
 have hl:hlen K tb=some 256:=by rw [hcells_len h,tabC_len (Nat.le_refl _)]
 refine ⟨_,aIndexAddr_arr (P:=prog) (H:=K) (T:=118) (e:=30) (b:=tb) (o:=0) (m:=256) (z:=1) (n:=256) (k:=.u8) (i:=x) (by simp) (by simp) hl h0 (by omega),?_⟩
 have hc:(tabC 256)[x.toNat]?=some (.int .u32 (tabF x.toNat)):=by
  unfold tabC
  rw [List.getElem?_append_left (by simp;omega),List.getElem?_map,List.getElem?_range (by omega)]
  rfl
 simp [h,hc,tabC_len (Nat.le_refl 256)]
theorem on_loop {H:AHeap} {tb:Nat} {v:Value} {l:List UInt8} {k:Value→AHeap→Prop} (ht:hcells H tb=some (tabC 256)) (ha:Arr H 1 v (l.map fun b=>[byt b])) (hl:l.length < 2 ^ 62) (w:Int) (hk:k (.int .u32 w) H) :
  ∀ (r : List UInt8) (i : Nat) (left : Int) (C D E F G I J a c f g h j m n o s t u y z A B : Value), l.drop i = r → i ≤ l.length → r.foldl onF left = w →
    L55x0 (r.length+1) k [.int .u32 left,tabV tb,C,D,E,F,G,I,J,v,i64 l.length,i64 i,a,c,f,g,h,j,m,n,o,s,t,u,y,z,A,B] H:=by
 intro r
 induction r with
 | nil =>
   intro i left C D E F G I J a c f g h j m n o s t u y z A B hd hi hw
   have hle:l.length≤i:=by simpa using hd
   rw [List.length_nil,L55x0q]
   have:¬ i < l.length:=by omega
   simp only [List.foldl_nil] at hw
   subst hw
   simp [this]
   exact hk
 | cons d r ih =>
   intro i left C D E F G I J a c f g h j m n o s t u y z A B hd hi hw
   have hb:l[i]?=some d:=by rw [← List.head?_drop,hd];rfl
   have hlt:i < l.length:=(List.getElem?_eq_some_iff.1 hb).1
   obtain ⟨q,hp1,hp2⟩:=ha.load1 (P:=prog) (T:=45) (te:=5) (i:=i) (x:=byt d) (by simp) (by simp) (by simp) (by rw [List.getElem?_map,hb];rfl)
   obtain ⟨x1,x2⟩:=xor8_lt (IntKind.u8.wrap left) d
   obtain ⟨p,g1,g2⟩:=tab_at ht x1 x2
   have w1:IntKind.i64.wrap ((i:Int)+1)=((i+1:Nat):Int):=by rw [wrap_i64 (by omega) (by omega)];omega
   have e:(2:Int) ^ (min 8 IntKind.u32.bits)=256:=by decide
   have nv:nilV (tabV tb)=some (tabV tb):=rfl
   rw [List.length_cons,L55x0q]
   simp [hlt,hp1,hp2,convV_int,aBin_xor,g1,g2,aBin_shr,e,w1,nv]
   rw [show ((i:Int)+1)=((i+1:Nat):Int) by omega]
   exact ih (i+1) _ _ _ _ _ _ _ _ _ _ _ _ _ _ _ _ _ _ _ _ _ _ _ _ (by rw [← List.drop_drop,hd];rfl) hlt hw
theorem c_on {H:AHeap} {tb:Nat} {v:Value} {l:List UInt8} {left:Int} (ht:hcells H tb=some (tabC 256)) (ha:Arr H 1 v (l.map fun b=>[byt b])) (hl:l.length < 2 ^ 62):ACalls prog 55 [.int .u32 left,tabV tb,v] H (.int .u32 (l.foldl onF left)) H:=by
 refine acalls_pure MixT func55 (by decide) rfl ?_
 rw [d55]
 have hlen:=ha.len (P:=prog) (T:=45) (e:=5) (by simp)
 simp at hlen
 simp [hlen]
 exact ⟨_,on_loop ht ha hl _ ⟨rfl,[],by simp⟩ l 0 left _ _ _ _ _ _ _ _ _ _ _ _ _ _ _ _ _ _ _ _ _ _ _ rfl (by omega) rfl⟩
def crcF (l:List UInt8):Int:=xorI .u32 4294967295 (l.foldl onF 4294967295)
theorem c_of {H:AHeap} {v:Value} {l:List UInt8} (ha:Arr (H++[.cells [v] 45]) 1 v (l.map fun b=>[byt b])) (_hone:v.oneCell'=true) (hl:l.length < 2 ^ 62):ACalls prog 34 [.slice (some ⟨H.length,0,some 1⟩) 1 1] (H++[.cells [v] 45]) (.int .u32 (crcF l)) (H++[.cells [v] 45]):=by
 refine acalls_pure MixT func34 (by decide) rfl ?_
 rw [d34]
 refine bndC_of (c_row _) ?_
 simp
 refine ⟨2,?_⟩
 have hpv:Arr (H++[.cells [v] 45]) 1 (.slice (some ⟨H.length,0,some 1⟩) 1 1) [[v]]:=by
  refine .mk H.length 0 1 1 1 [v] _ rfl (by simp) rfl (by omega) fun i e hi=>?_
  cases i with
  | zero=>simp at hi;subst hi;rfl
  | succ i=>simp at hi
 have hX:=hpv.pre (.app _ [AObj.cells (tabC 256) 118])
 obtain ⟨q,hq1,hq2⟩:=hX.load1 (P:=prog) (T:=90) (te:=45) (i:=0) (x:=v) (by simp) (by simp) (by simp) rfl
 have ht:hcells (H++[.cells [v] 45]++[.cells (tabC 256) 118]) (H++[AObj.cells [v] 45]).length=some (tabC 256):=by simp
 rw [L34x0q]
 simp at hq1 hq2
 simp [hq1,hq2]
 have ht2:hcells (H++[.cells [v] 45,.cells (tabC 256) 118]) (H.length+1)=some (tabC 256):=by simp
 have haX:=ha.pre (.app _ [AObj.cells (tabC 256) 118])
 rw [List.append_assoc] at haX
 refine bndC_of (c_on (left:=4294967295) ht2 haX hl) ?_
 simp
 rw [L34x0q]
 simp [unV_xor32,crcF,show IntKind.i64.wrap 1=1 by decide]
theorem c_sum {H:AHeap} {v:Value} {l:List UInt8} (ha:Arr H 1 v (l.map fun b=>[byt b])) (hl:l.length < 2 ^ 62):ACalls prog 19 [v] H (.int .u32 (crcF l)) H:=by
 refine acalls_pure MixT func19 (by decide) rfl ?_
 rw [d19]
 have hone:=ha.one
 have hlit:sliceLit prog H 90 1 [(0,v)] (.slice (some ⟨H.length,0,some 1⟩) 1 1) (H++[.cells [v] 45]):=sliceLit1 (l:=[v]) (tbs90 H 1 _) (by simp [hone]) rfl (by decide)
 refine bndL_lit hlit ?_
 refine bndC_of (c_of (l:=l) (ha.pre (.app H _)) hone hl) ?_
 simp
end Go.Vi
namespace Go.Vi
open Go Go.Proofs Go.Proofs.Tryz
theorem isLow_iff (b:UInt8):isLow b=true↔97≤(b.toNat:Int)∧(b.toNat:Int)≤122:=by simp [isLow]
theorem isDig_iff (b:UInt8):isDig b=true↔48≤(b.toNat:Int)∧(b.toNat:Int)≤57:=by simp [isDig]
theorem isSign_iff (b:UInt8):isSign b=true↔32≤(b.toNat:Int)∧(b.toNat:Int)≤126:=by simp [isSign]
theorem rPlain_loop {H:AHeap} {s:List UInt8} {k:Value→AHeap→Prop} {w:Bool} (hs:s.length < 2 ^ 62) (hk:k (.bool w) H) :
  ∀ (r:List UInt8) (i:Nat) (n o p q t u v x a c d e f g h j l m:Value),s.drop i=r→i≤s.length→w=r.all isSign→L96x0 (r.length+1) k [str s,n,o,i64 i,p,q,t,u,v,x,a,c,d,e,f,g,h,j,l,m] H:=by
 intro r
 induction r with
 | nil =>
   intro i n o p q t u v x a c d e f g h j l m hd hi hw
   have hle:s.length≤i:=by simpa using hd
   have:¬ i < s.length:=by omega
   rw [List.length_nil,L96x0q]
   simp at hw
   subst hw
   simp [this]
   exact hk
 | cons b r ih =>
   intro i n o p q t u v x a c d e f g h j l m hd hi hw
   have hb:s[i]?=some b:=by rw [← List.head?_drop,hd];rfl
   have hlt:i < s.length:=(List.getElem?_eq_some_iff.1 hb).1
   have hix:=aIndex_at (P:=prog) (T:=9) (k:=.i64) (by simp) hb
   have hdr:s.drop (i+1)=r:=by rw [← List.drop_drop,hd];rfl
   rw [List.length_cons,L96x0q]
   have hq:=isSign_iff b
   rw [List.all_cons] at hw
   by_cases h1:(b.toNat:Int) < 32
   · have:isSign b=false:=by rw [← Bool.not_eq_true];rw [hq];omega
     rw [this] at hw
     simp at hw
     subst hw
     simp [hlt,hix,h1]
     exact hk
   · by_cases h2:126 < (b.toNat:Int)
     · have:isSign b=false:=by rw [← Bool.not_eq_true];rw [hq];omega
       rw [this] at hw
       simp at hw
       subst hw
       simp [hlt,hix,h1,h2]
       exact hk
     · have:isSign b=true:=by rw [hq];omega
       rw [this,Bool.true_and] at hw
       simp [hlt,hix,h1,h2,show i+1 < 2 ^ 63 by omega]
       exact ih (i+1) _ _ _ _ _ _ _ _ _ _ _ _ _ _ _ _ _ _ hdr hlt hw
theorem r_plain (H:AHeap) {s:List UInt8} (hs:s.length < 2 ^ 62):ACalls prog 96 [str s] H (.bool (s.all isSign)) H:=by
 refine acalls_pure MixT func96 (by decide) rfl ?_
 rw [d96]
 exact ⟨s.length+1,rPlain_loop (k:=fun u H2=>u=.bool (s.all isSign)∧∃ X,H2=H++X) hs ⟨rfl,[],by simp⟩ s 0 _ _ _ _ _ _ _ _ _ _ _ _ _ _ _ _ _ _ rfl (by omega) rfl⟩
theorem rName_loop {H:AHeap} {s:List UInt8} {k:Value→AHeap→Prop} {w:Bool} (hs:s.length < 2 ^ 62) (hk:k (.bool w) H) :
  ∀ (r:List UInt8) (i:Nat) (s1 s2 s4 s5 s6 s7 s8 s9 a c d e f g h j l m n o p q t v x y z A B C D E F G I J K L M N O Q R S U V W X Y Z aa ab ac ad ae:Value),s.drop i=r→i≤s.length→w=r.all isMark→L121x0 (r.length+1) k [str s,s1,s2,i64 i,s4,s5,s6,s7,s8,s9,a,c,d,e,f,g,h,j,l,m,n,o,p,q,t,v,x,y,z,A,B,C,D,E,F,G,I,J,K,L,M,N,O,Q,R,S,U,V,W,X,Y,Z,aa,ab,ac,ad,ae] H:=by
 intro r
 induction r with
 | nil =>
   intro i s1 s2 s4 s5 s6 s7 s8 s9 a c d e f g h j l m n o p q t v x y z A B C D E F G I J K L M N O Q R S U V W X Y Z aa ab ac ad ae hd hi hw
   have hle:s.length≤i:=by simpa using hd
   have:¬ i < s.length:=by omega
   rw [List.length_nil,L121x0q]
   simp at hw
   subst hw
   simp [this]
   exact hk
 | cons b r ih =>
   intro i s1 s2 s4 s5 s6 s7 s8 s9 a c d e f g h j l m n o p q t v x y z A B C D E F G I J K L M N O Q R S U V W X Y Z aa ab ac ad ae hd hi hw
   have hb:s[i]?=some b:=by rw [← List.head?_drop,hd];rfl
   have hlt:i < s.length:=(List.getElem?_eq_some_iff.1 hb).1
   have hix:=aIndex_at (P:=prog) (T:=9) (k:=.i64) (by simp) hb
   have hdr:s.drop (i+1)=r:=by rw [← List.drop_drop,hd];rfl
   rw [List.length_cons,L121x0q]
   have hql:=isLow_iff b
   have hqd:=isDig_iff b
   rw [List.all_cons] at hw
   have go:isMark b=true→∀ (s1 s2 s4 s5 s6 s7 s8 s9 a c d e f g h j l m n o p q t v x y z A B C D E F G I J K L M N O Q R S U V W X Y Z aa ab ac ad ae:Value),L121x0 (r.length+1) k [str s,s1,s2,i64 ((i:Int)+1),s4,s5,s6,s7,s8,s9,a,c,d,e,f,g,h,j,l,m,n,o,p,q,t,v,x,y,z,A,B,C,D,E,F,G,I,J,K,L,M,N,O,Q,R,S,U,V,W,X,Y,Z,aa,ab,ac,ad,ae] H:=by
    intro hm s1 s2 s4 s5 s6 s7 s8 s9 a c d e f g h j l m n o p q t v x y z A B C D E F G I J K L M N O Q R S U V W X Y Z aa ab ac ad ae
    rw [hm,Bool.true_and] at hw
    exact ih (i+1) _ _ _ _ _ _ _ _ _ _ _ _ _ _ _ _ _ _ _ _ _ _ _ _ _ _ _ _ _ _ _ _ _ _ _ _ _ _ _ _ _ _ _ _ _ _ _ _ _ _ _ _ _ _ _ hdr hlt hw
   have no:isMark b=false→k (.bool false) H:=by
    intro hm
    rw [hm,Bool.false_and] at hw
    rw [← hw]
    exact hk
   have hi63:i+1 < 2 ^ 63:=by omega
   by_cases l1:97≤(b.toNat:Int)
   · by_cases l2:(b.toNat:Int)≤122
     · simp [hlt,hix,l1,l2,hi63]
       exact go (by simp [isMark,hql.2 ⟨l1,l2⟩]) _ _ _ _ _ _ _ _ _ _ _ _ _ _ _ _ _ _ _ _ _ _ _ _ _ _ _ _ _ _ _ _ _ _ _ _ _ _ _ _ _ _ _ _ _ _ _ _ _ _ _ _ _ _ _
     · have d2:¬ (b.toNat:Int)≤57:=by omega
       have d1:(48:Int)≤(b.toNat:Int):=by omega
       have u:((b.toNat:Int) == 95)=false:=by rw [beq_eq_false_iff_ne];omega
       simp [hlt,hix,l1,l2,d1,d2,u]
       exact no (by simp [isMark,isLow,isDig,l2,d2,u])
   · by_cases d1:(48:Int)≤(b.toNat:Int)
     · by_cases d2:(b.toNat:Int)≤57
       · simp [hlt,hix,l1,d1,d2,hi63]
         exact go (by simp [isMark,hqd.2 ⟨d1,d2⟩]) _ _ _ _ _ _ _ _ _ _ _ _ _ _ _ _ _ _ _ _ _ _ _ _ _ _ _ _ _ _ _ _ _ _ _ _ _ _ _ _ _ _ _ _ _ _ _ _ _ _ _ _ _ _ _
       · by_cases u:((b.toNat:Int) == 95)=true
         · simp [hlt,hix,l1,d1,d2,u,hi63]
           exact go (by simp [isMark,u]) _ _ _ _ _ _ _ _ _ _ _ _ _ _ _ _ _ _ _ _ _ _ _ _ _ _ _ _ _ _ _ _ _ _ _ _ _ _ _ _ _ _ _ _ _ _ _ _ _ _ _ _ _ _ _
         · have u':((b.toNat:Int) == 95)=false:=by simpa using u
           simp [hlt,hix,l1,d1,d2,u']
           exact no (by simp [isMark,isLow,isDig,l1,d2,u'])
     · have u':((b.toNat:Int) == 95)=false:=by rw [beq_eq_false_iff_ne];omega
       simp [hlt,hix,l1,d1,u']
       exact no (by simp [isMark,isLow,isDig,l1,d1,u'])
theorem r_mayName (H:AHeap) {s:List UInt8} (hs:s.length < 2 ^ 62):ACalls prog 121 [str s] H (.bool (mayName s)) H:=by
 refine acalls_pure MixT func121 (by decide) rfl ?_
 rw [d121]
 cases s with
 | nil=>simp [mayName]
 | cons b r =>
   have h0:=aIndex_at (P:=prog) (T:=9) (k:=.i64) (l:=b :: r) (i:=0) (b:=b) (by simp) rfl
   simp at h0
   by_cases h16:(16:Int) < ((b :: r).length:Nat)
   · have:mayName (b :: r)=false:=by simp [mayName];intro h;simp at h16;omega
     rw [this]
     have h16':(15:Int) < r.length:=by simp at h16;omega
     have h16'':(16:Int) < r.length+1:=by omega
     have h1:¬ (r.length:Int)+1 < 1:=by omega
     simp [h1,h16'']
   · have h16'':¬ (16:Int) < r.length+1:=by simp at h16;omega
     have h1:¬ (r.length:Int)+1 < 1:=by omega
     have hl:r.length+1≤16:=by omega
     have hql:=isLow_iff b
     by_cases l1:(b.toNat:Int) < 97
     · have:mayName (b :: r)=false:=by simp [mayName,isLow];intros;omega
       rw [this]
       simp [h1,h16'',h0,l1]
     · by_cases l2:122 < (b.toNat:Int)
       · have:mayName (b :: r)=false:=by simp [mayName,isLow];intros;omega
         rw [this]
         simp [h1,h16'',h0,l1,l2]
       · have hlow:isLow b=true:=hql.2 (by omega)
         simp [h1,h16'',h0,l1,l2]
         have hm:mayName (b :: r)=(b :: r).all isMark:=by simp [mayName,hlow,hl]
         exact ⟨(b :: r).length+1,rName_loop (k:=fun u H2=>u=.bool (mayName (b :: r))∧∃ X,H2=H++X) (by simp at hs ⊢;omega) ⟨rfl,[],by simp⟩ (b :: r) 0 _ _ _ _ _ _ _ _ _ _ _ _ _ _ _ _ _ _ _ _ _ _ _ _ _ _ _ _ _ _ _ _ _ _ _ _ _ _ _ _ _ _ _ _ _ _ _ _ _ _ _ _ _ _ _ rfl (by omega) hm⟩
theorem rDigs_loop {H:AHeap} {s:List UInt8} {k:Value→AHeap→Prop} {w:Bool} (hs:s.length < 2 ^ 62) (hk:k (.bool w) H) :
  ∀ (r:List UInt8) (i:Nat) (p q t u v x y z a c d e f g h j l m n o:Value),s.drop i=r→i≤s.length→w=(r.all isDig && !decide (s=[]))→L122x0 (r.length+1) k [str s,p,q,i64 i,t,u,v,x,y,z,a,c,d,e,f,g,h,j,l,m,n,o] H:=by
 intro r
 induction r with
 | nil =>
   intro i p q t u v x y z a c d e f g h j l m n o hd hi hw
   have hle:s.length≤i:=by simpa using hd
   have:¬ i < s.length:=by omega
   rw [List.length_nil,L122x0q]
   rw [List.all_nil,Bool.true_and] at hw
   subst hw
   simp [this]
   simpa using hk
 | cons b r ih =>
   intro i p q t u v x y z a c d e f g h j l m n o hd hi hw
   have hb:s[i]?=some b:=by rw [← List.head?_drop,hd];rfl
   have hlt:i < s.length:=(List.getElem?_eq_some_iff.1 hb).1
   have hix:=aIndex_at (P:=prog) (T:=9) (k:=.i64) (by simp) hb
   have hdr:s.drop (i+1)=r:=by rw [← List.drop_drop,hd];rfl
   rw [List.length_cons,L122x0q]
   have hq:=isDig_iff b
   rw [List.all_cons] at hw
   by_cases h1:(b.toNat:Int) < 48
   · have:isDig b=false:=by rw [← Bool.not_eq_true];rw [hq];omega
     rw [this] at hw
     simp at hw
     subst hw
     simp [hlt,hix,h1]
     exact hk
   · by_cases h2:57 < (b.toNat:Int)
     · have:isDig b=false:=by rw [← Bool.not_eq_true];rw [hq];omega
       rw [this] at hw
       simp at hw
       subst hw
       simp [hlt,hix,h1,h2]
       exact hk
     · have:isDig b=true:=by rw [hq];omega
       rw [this,Bool.true_and] at hw
       simp [hlt,hix,h1,h2,show i+1 < 2 ^ 63 by omega]
       exact ih (i+1) _ _ _ _ _ _ _ _ _ _ _ _ _ _ _ _ _ _ _ _ hdr hlt hw
def digsR (s:List UInt8):Bool:=s.all isDig && !decide (s=[])
theorem r_digits (H:AHeap) {s:List UInt8} (hs:s.length < 2 ^ 62):ACalls prog 122 [str s] H (.bool (digsR s)) H:=by
 refine acalls_pure MixT func122 (by decide) rfl ?_
 rw [d122]
 exact ⟨s.length+1,rDigs_loop (k:=fun u H2=>u=.bool (digsR s)∧∃ X,H2=H++X) hs ⟨rfl,[],by simp⟩ s 0 _ _ _ _ _ _ _ _ _ _ _ _ _ _ _ _ _ _ _ _ rfl (by omega) rfl⟩
theorem byte_all {p:UInt8→Prop} (h:∀ n,n < 256→p (UInt8.ofNat n)) (b:UInt8):p b:=by
 have:=h b.toNat b.toNat_lt
 simpa using this
theorem blanks_eq:∀ b:UInt8,hasB blanks b=((b.toNat:Int) == 32 || (b.toNat:Int) == 9 || (b.toNat:Int) == 10 || (b.toNat:Int) == 13) :=
 byte_all (by decide +kernel)
theorem r_blank (H:AHeap) (b:UInt8):ACalls prog 77 [byt b] H (.bool (hasB blanks b)) H:=by
 refine acalls_pure MixT func77 (by decide) rfl ?_
 rw [d77,blanks_eq]
 simp +contextual
theorem mayName_a:∀ b:UInt8,mayName [97,b]=isMark b:=byte_all (by decide +kernel)
def wordR (s:List UInt8):Bool:=s.all isMark && (s[0]?).any isLow
theorem rWord_loop {H:AHeap} {s:List UInt8} {k:Value→AHeap→Prop} {w:Bool} (hs:s.length < 2 ^ 60) (hk:k (.bool w) H) :
  ∀ (r:List UInt8) (i:Nat) (F G I J K L M N c d e f g h j m n o p q u v z A B C D E:Value),s.drop i=r→i≤s.length→w=(r.all isMark && (s[0]?).any isLow)→L107x0 (r.length+1) k [str s,F,G,i64 i,I,J,K,L,M,N,c,d,e,f,g,h,j,m,n,o,p,q,u,v,z,A,B,C,D,E] H:=by
 intro r
 induction r with
 | nil =>
   intro i F G I J K L M N c d e f g h j m n o p q u v z A B C D E hd hi hw
   have hle:s.length≤i:=by simpa using hd
   have:¬ i < s.length:=by omega
   rw [List.length_nil,L107x0q]
   rw [List.all_nil,Bool.true_and] at hw
   cases s with
   | nil =>
     simp at hw
     subst hw
     have:¬ (i:Int) < 0:=by omega
     simp [this]
     exact hk
   | cons b t =>
     have h0:=aIndex_at (P:=prog) (T:=9) (k:=.i64) (l:=b :: t) (i:=0) (b:=b) (by simp) rfl
     simp at h0
     simp at hw
     have hq:=isLow_iff b
     have hn:¬ (i:Int) < (t.length:Int)+1:=by simp at hle;omega
     by_cases l1:97≤(b.toNat:Int)
     · by_cases l2:(b.toNat:Int)≤122
       · rw [hq.2 ⟨l1,l2⟩] at hw
         subst hw
         simp [hn,h0,l1,l2]
         exact hk
       · have:isLow b=false:=by rw [← Bool.not_eq_true];rw [hq];omega
         rw [this] at hw
         subst hw
         simp [hn,h0,l1,l2]
         exact hk
     · have:isLow b=false:=by rw [← Bool.not_eq_true];rw [hq];omega
       rw [this] at hw
       subst hw
       simp [hn,h0,l1]
       exact hk
 | cons b r ih =>
   intro i F G I J K L M N c d e f g h j m n o p q u v z A B C D E hd hi hw
   have hb:s[i]?=some b:=by rw [← List.head?_drop,hd];rfl
   have hlt:i < s.length:=(List.getElem?_eq_some_iff.1 hb).1
   have hdr:s.drop (i+1)=r:=by rw [← List.drop_drop,hd];rfl
   have hsl:=aSliceOp_str (P:=prog) (H:=H) (T:=9) (l:=s) (lo:=some (i64 i)) (hi:=some (i64 ((i:Int)+1))) (a:=i) (b:=((i+1:Nat):Int)) (by simp) rfl rfl (by omega) (by omega) (by omega)
   have he:(s.take (i+1)).drop i=[b]:=by
    rw [List.drop_take,hd];simp
   simp only [Int.toNat_natCast,he] at hsl
   have hcat:=fun (H:AHeap) x y=>aBin_str (P:=prog) (H:=H) (T:=9) (x:=x) (y:=y) (a:=[97]) (b:=[b]) (by simp)
   rw [List.length_cons,L107x0q]
   rw [List.all_cons] at hw
   have hw1:IntKind.i64.wrap ((i:Int)+1)=(i:Int)+1:=wrap_i64 (by omega) (by omega)
   simp [hlt,hw1,hsl]
   refine bnd_of (hcat _ _ _) ?_
   simp
   have hc:=r_mayName H (s:=[97,b]) (by simp)
   rw [mayName_a] at hc
   refine bndC_of hc ?_
   simp
   cases hm:isMark b with
   | true =>
     rw [hm,Bool.true_and] at hw
     simp [hw1]
     exact ih (i+1) _ _ _ _ _ _ _ _ _ _ _ _ _ _ _ _ _ _ _ _ _ _ _ _ _ _ _ _ hdr hlt hw
   | false =>
     rw [hm] at hw
     simp at hw
     subst hw
     simp
     exact hk
theorem r_word (H:AHeap) {s:List UInt8} (hs:s.length < 2 ^ 60):ACalls prog 107 [str s] H (.bool (wordR s)) H:=by
 refine acalls_pure MixT func107 (by decide) rfl ?_
 rw [d107]
 exact ⟨s.length+1,rWord_loop (k:=fun u H2=>u=.bool (wordR s)∧∃ X,H2=H++X) hs ⟨rfl,[],by simp⟩ s 0 _ _ _ _ _ _ _ _ _ _ _ _ _ _ _ _ _ _ _ _ _ _ _ _ _ _ _ _ rfl (by omega) rfl⟩
def numG:List UInt8→List UInt8→Bool
 | p,[]=>digsR p
 | p,b :: r=>if ((b.toNat:Int) == 46)=true then digsR p && digsR r else numG (p++[b]) r
def numR (s:List UInt8):Bool:=numG [] s
theorem rNum_loop {H:AHeap} {s:List UInt8} {k:Value→AHeap→Prop} {w:Bool} (hs:s.length < 2 ^ 60) (hk:k (.bool w) H) :
  ∀ (r:List UInt8) (i:Nat) (z A B C D E F G c d e f g h j m n o p q t u v x y:Value),s.drop i=r→i≤s.length→w=numG (s.take i) r→L108x0 (r.length+1) k [str s,z,A,i64 i,B,C,D,E,F,G,c,d,e,f,g,h,j,m,n,o,p,q,t,u,v,x,y] H:=by
 intro r
 induction r with
 | nil =>
   intro i z A B C D E F G c d e f g h j m n o p q t u v x y hd hi hw
   have hle:s.length≤i:=by simpa using hd
   have:¬ i < s.length:=by omega
   rw [List.length_nil,L108x0q]
   simp only [numG,List.take_of_length_le hle] at hw
   subst hw
   simp [this]
   exact bndC_of (r_digits H (by omega)) hk
 | cons b r ih =>
   intro i z A B C D E F G c d e f g h j m n o p q t u v x y hd hi hw
   have hb:s[i]?=some b:=by rw [← List.head?_drop,hd];rfl
   have hlt:i < s.length:=(List.getElem?_eq_some_iff.1 hb).1
   have hix:=aIndex_at (P:=prog) (T:=9) (k:=.i64) (by simp) hb
   have hdr:s.drop (i+1)=r:=by rw [← List.drop_drop,hd];rfl
   have hw1:IntKind.i64.wrap ((i:Int)+1)=(i:Int)+1:=wrap_i64 (by omega) (by omega)
   have h1:=aSliceOp_str (P:=prog) (H:=H) (T:=9) (l:=s) (lo:=none) (hi:=some (i64 i)) (a:=0) (b:=i) (by simp) rfl rfl (by omega) (by omega) (by omega)
   have h2:=aSliceOp_str (P:=prog) (H:=H) (T:=9) (l:=s) (lo:=some (i64 ((i:Int)+1))) (hi:=none) (a:=((i+1:Nat):Int)) (b:=s.length) (by simp) rfl rfl (by omega) (by omega) (by omega)
   simp only [Int.toNat_natCast,List.take_length,hdr] at h1 h2
   simp at h1
   rw [List.length_cons,L108x0q]
   rw [numG] at hw
   by_cases h46:((b.toNat:Int) == 46)=true
   · rw [if_pos h46] at hw
     subst hw
     simp [hlt,hix,h46,h1]
     refine bndC_of (r_digits H (by simp;omega)) ?_
     have hrl:r.length < 2 ^ 62:=by rw [← hdr,List.length_drop];omega
     cases hp:digsR (s.take i) with
     | true =>
       rw [hp] at hk
       simp [hw1,h2]
       refine bndG_t (.bool (digsR r)) H (r_digits H hrl) ?_
       simpa using hk
     | false =>
       rw [hp] at hk
       simpa using hk
   · rw [if_neg h46] at hw
     have h46':((b.toNat:Int) == 46)=false:=by simpa using h46
     simp [hlt,hix,h46',hw1]
     refine ih (i+1) _ _ _ _ _ _ _ _ _ _ _ _ _ _ _ _ _ _ _ _ _ _ _ _ _ hdr hlt ?_
     rw [hw,List.take_add_one,hb];rfl
theorem r_number (H:AHeap) {s:List UInt8} (hs:s.length < 2 ^ 60):ACalls prog 108 [str s] H (.bool (numR s)) H:=by
 refine acalls_pure MixT func108 (by decide) rfl ?_
 rw [d108]
 exact ⟨s.length+1,rNum_loop (k:=fun u H2=>u=.bool (numR s)∧∃ X,H2=H++X) hs ⟨rfl,[],by simp⟩ s 0 _ _ _ _ _ _ _ _ _ _ _ _ _ _ _ _ _ _ _ _ _ _ _ _ _ rfl (by omega) (by simp [numR])⟩
def signsR:List (List UInt8):=[[60,61],[62,61],[61,61],[33,61],[94,61],[123],[125],[40],[41],[91],[93],[44],[58],[59],[61],[60],[62],[45]]
theorem rSign_loop {K:AHeap} {v:Value} {s:List UInt8} {k:Value→AHeap→Prop} {w:Bool} (ha:Arr K 1 v (strCells signsR)) (hk:k (.bool w) K) :
  ∀ (r:List (List UInt8)) (i:Nat) (l m n o p t u a b c d f g h j:Value),signsR.drop i=r→i≤signsR.length→w=decide (s∈r)→L109x0 (r.length+1) k [str s,l,m,v,i64 i,n,o,p,t,u,a,b,c,d,f,g,h,j] K:=by
 have hlen:=ha.len (P:=prog) (T:=33) (e:=9) (by simp)
 have hl18:signsR.length=18:=rfl
 simp [strCells] at hlen
 intro r
 induction r with
 | nil =>
   intro i l m n o p t u a b c d f g h j hd hi hw
   have hle:signsR.length≤i:=by simpa using hd
   have:¬ i < signsR.length:=by omega
   rw [List.length_nil,L109x0q]
   simp at hw
   subst hw
   simp [hlen,this]
   exact hk
 | cons x r ih =>
   intro i l m n o p t u a b c d f g h j hd hi hw
   have hb:signsR[i]?=some x:=by rw [← List.head?_drop,hd];rfl
   have hlt:i < signsR.length:=(List.getElem?_eq_some_iff.1 hb).1
   have hdr:signsR.drop (i+1)=r:=by rw [← List.drop_drop,hd];rfl
   obtain ⟨q,hp1,hp2⟩:=ha.load1 (P:=prog) (T:=33) (te:=9) (i:=i) (x:=str x) (by simp) (by simp) (by simp) (by simp [strCells,hb])
   rw [List.length_cons,L109x0q]
   by_cases he:x=s
   · have:w=true:=by rw [hw];simp [he]
     subst this
     simp [hlen,hlt,hp1,hp2,he]
     exact hk
   · have he':¬ s=x:=fun e=>he e.symm
     simp [hlen,hlt,hp1,hp2,he,show i+1 < 2 ^ 63 by omega]
     exact ih (i+1) _ _ _ _ _ _ _ _ _ _ _ _ _ _ _ hdr hlt (by rw [hw];simp [he'])
set_option maxRecDepth 20000 in
theorem r_sign (H:AHeap) (s:List UInt8):ACalls prog 109 [str s] H (.bool (decide (s∈signsR))) H:=by
 refine acalls_pure MixT func109 (by decide) rfl ?_
 rw [d109]
 have hs:=sliceLit1 (H:=H) (P:=prog) (T:=33) (e:=9) (zv:=.string ByteArray.empty) (l:=signsR.map str) (n:=18) (by kernel_rfl) (by decide) rfl (by decide)
 refine bndL_lit hs ?_
 have ha:=arr_strs (H:=H) signsR 9 18 rfl
 exact ⟨signsR.length+1,rSign_loop (k:=fun u H2=>u=.bool (decide (s∈signsR))∧∃ X,H2=H++X) ha ⟨rfl,_,rfl⟩ signsR 0 _ _ _ _ _ _ _ _ _ _ _ _ _ _ _ rfl (by decide) rfl⟩
def kindR (s:List UInt8):Int × List UInt8:=if wordR s=true then (1,s) else if numR s=true then (2,s) else if s∈signsR then (4,s) else (0,[])
theorem r_kind (H:AHeap) {s:List UInt8} (hs:s.length < 2 ^ 60):ACalls prog 97 [str s] H (.tuple #[.int .u8 (kindR s).1,str (kindR s).2]) H:=by
 refine acallsT_pure MixT func97 (by decide) rfl ?_
 rw [d97]
 refine bndC_of (r_word H hs) ?_
 unfold kindR
 cases h1:wordR s with
 | true=>simp
 | false =>
   simp
   refine bndC_of (r_number H hs) ?_
   cases h2:numR s with
   | true=>simp
   | false =>
     simp
     refine bndC_of (r_sign H s) ?_
     by_cases h3:s∈signsR
     · simp [h3]
     · simp [h3]
end Go.Vi
namespace Go.Vi
open Go Go.Proofs Go.Proofs.Tryz
def quoR:List UInt8→List UInt8→Nat→List UInt8 × Nat
 | [],_,_=>([],0)
 | b :: r, acc, c => if ((b.toNat : Int) == 34) = true then (acc, c + 1)
     else if ((b.toNat:Int) == 92)=true then match r with
      | e :: r'=>if ((e.toNat:Int) == 34 || (e.toNat:Int) == 92)=true then quoR r' (acc++[e]) (c+2) else ([],0)
      | []=>([],0)
     else quoR r (acc++[b]) (c+1)
theorem quoR_cons (b:UInt8) (r acc:List UInt8) (c:Nat):quoR (b :: r) acc c=if ((b.toNat:Int) == 34)=true then (acc,c+1)
   else if ((b.toNat:Int) == 92)=true then match r with
    | e :: r'=>if ((e.toNat:Int) == 34 || (e.toNat:Int) == 92)=true then quoR r' (acc++[e]) (c+2) else ([],0)
    | []=>([],0)
   else quoR r (acc++[b]) (c+1):=by
 cases r<;>(rw [quoR]<;>rfl)
theorem rQuo_loop {H:AHeap} {s:List UInt8} {k:Value→AHeap→Prop} {w:List UInt8 × Nat} (hs:s.length < 2 ^ 60) (hk:k (.tuple #[str w.1,i64 w.2]) H) :
  ∀ (n:Nat) (r acc:List UInt8) (i:Nat) (s1 s2 s3 s6 s7 s8 s9 c d f g h m o p q t u v z A B C D E F G I J K L M N O Q R S U V W X Y Z aa ab ac ad ae af ag ah ai:Value),r.length≤n→s.drop i=r→i≤s.length→acc.length≤i→w=quoR r acc i→L95x0 (n+1) k [str s,s1,s2,s3,str acc,i64 i,s6,s7,s8,s9,c,d,f,g,h,m,o,p,q,t,u,v,z,A,B,C,D,E,F,G,I,J,K,L,M,N,O,Q,R,S,U,V,W,X,Y,Z,aa,ab,ac,ad,ae,af,ag,ah,ai] H:=by
 intro n
 induction n with
 | zero =>
   intro r acc i s1 s2 s3 s6 s7 s8 s9 c d f g h m o p q t u v z A B C D E F G I J K L M N O Q R S U V W X Y Z aa ab ac ad ae af ag ah ai hn hd hi hac hw
   have:r=[]:=List.eq_nil_of_length_eq_zero (by omega)
   subst this
   have hle:s.length≤i:=by simpa using hd
   have:¬ i < s.length:=by omega
   rw [L95x0q]
   rw [quoR] at hw
   subst hw
   simp [this]
   exact hk
 | succ n ih =>
   intro r acc i s1 s2 s3 s6 s7 s8 s9 c d f g h m o p q t u v z A B C D E F G I J K L M N O Q R S U V W X Y Z aa ab ac ad ae af ag ah ai hn hd hi hac hw
   cases r with
   | nil =>
     have hle:s.length≤i:=by simpa using hd
     have:¬ i < s.length:=by omega
     rw [L95x0q]
     rw [quoR] at hw
     subst hw
     simp [this]
     exact hk
   | cons b r =>
     have hb:s[i]?=some b:=by rw [← List.head?_drop,hd];rfl
     have hlt:i < s.length:=(List.getElem?_eq_some_iff.1 hb).1
     have hix:=aIndex_at (P:=prog) (T:=9) (k:=.i64) (by simp) hb
     have hdr:s.drop (i+1)=r:=by rw [← List.drop_drop,hd];rfl
     have step:∀ (j:Nat) (e:UInt8) (r':List UInt8) (s1 s2 s3 s6 s7 s8 s9 c d f g h m o p q t u v z A B C D E F G I J K L M N O Q R S U V W X Y Z aa ab ac ad ae af ag ah ai:Value),s.drop j=e :: r'→i≤j→r'.length≤n→w=quoR r' (acc++[e]) (j+1)→S95x0 (n+1) k [str s,s1,s2,s3,str acc,i64 j,s6,s7,s8,s9,c,d,f,g,h,m,o,p,q,t,u,v,z,A,B,C,D,E,F,G,I,J,K,L,M,N,O,Q,R,S,U,V,W,X,Y,Z,aa,ab,ac,ad,ae,af,ag,ah,ai] H:=by
      intro j e r' s1 s2 s3 s6 s7 s8 s9 c d f g h m o p q t u v z A B C D E F G I J K L M N O Q R S U V W X Y Z aa ab ac ad ae af ag ah ai hdj hij hrl hw2
      have hjl:j < s.length:=by
       have:=congrArg List.length hdj
       simp at this
       omega
      have hdr':s.drop (j+1)=r':=by rw [← List.drop_drop,hdj];rfl
      have hw1:IntKind.i64.wrap ((j:Int)+1)=(j:Int)+1:=wrap_i64 (by omega) (by omega)
      have hsl:=aSliceOp_str (P:=prog) (H:=H) (T:=9) (l:=s) (lo:=some (i64 j)) (hi:=some (i64 ((j:Int)+1))) (a:=j) (b:=((j+1:Nat):Int)) (by simp) rfl rfl (by omega) (by omega) (by omega)
      have he:(s.take (j+1)).drop j=[e]:=by rw [List.drop_take,hdj];simp
      simp only [Int.toNat_natCast,he] at hsl
      have hcat:=fun x y=>aBin_str (P:=prog) (H:=H) (T:=9) (x:=x) (y:=y) (a:=acc) (b:=[e]) (by simp;omega)
      rw [S95x0q]
      simp [hw1,hsl,hcat]
      exact ih r' (acc++[e]) (j+1) _ _ _ _ _ _ _ _ _ _ _ _ _ _ _ _ _ _ _ _ _ _ _ _ _ _ _ _ _ _ _ _ _ _ _ _ _ _ _ _ _ _ _ _ _ _ _ _ _ _ _ _ hrl hdr' hjl (by simp;omega) hw2
     rw [L95x0q]
     rw [quoR_cons] at hw
     simp only [List.length_cons] at hn
     have hw1:IntKind.i64.wrap ((i:Int)+1)=(i:Int)+1:=wrap_i64 (by omega) (by omega)
     by_cases h34:((b.toNat:Int) == 34)=true
     · rw [if_pos h34] at hw
       subst hw
       simp [hlt,hix,h34,hw1]
       exact hk
     · have h34':((b.toNat:Int) == 34)=false:=by simpa using h34
       rw [if_neg h34] at hw
       by_cases h92:((b.toNat:Int) == 92)=true
       · rw [if_pos h92] at hw
         cases r with
         | nil =>
           have hle:s.length≤i+1:=by simpa using hdr
           have hn1:((i:Int)+1 == s.length)=true:=by rw [beq_iff_eq];omega
           simp only at hw
           subst hw
           simp [hlt,hix,h34',h92,hw1,hn1]
           exact hk
         | cons e r' =>
           have he:s[i+1]?=some e:=by rw [← List.head?_drop,hdr];rfl
           have hlt1:i+1 < s.length:=(List.getElem?_eq_some_iff.1 he).1
           have hie:=aIndex_at (P:=prog) (T:=9) (k:=.i64) (by simp) he
           have hne:¬ (i:Int)+1=s.length:=by omega
           have hneb:((i:Int)+1 == s.length)=false:=by simpa using hne
           simp only [Int.natCast_add,Int.cast_ofNat_Int] at hie
           simp only at hw
           simp only [List.length_cons] at hn
           by_cases q1:((e.toNat:Int) == 34)=true
           · rw [if_pos (by simp [q1])] at hw
             have q1':((e.toNat:Int) != 34)=false:=by simpa using q1
             simp [hlt,hix,h34',h92,hw1,hneb,hie,q1']
             exact step (i+1) e r' _ _ _ _ _ _ _ _ _ _ _ _ _ _ _ _ _ _ _ _ _ _ _ _ _ _ _ _ _ _ _ _ _ _ _ _ _ _ _ _ _ _ _ _ _ _ _ _ _ _ _ _ hdr (by omega) (by omega) hw
           · have q1':((e.toNat:Int) != 34)=true:=by simpa using q1
             by_cases q2:((e.toNat:Int) == 92)=true
             · rw [if_pos (by simp [q2])] at hw
               have q2':((e.toNat:Int) != 92)=false:=by simpa using q2
               simp [hlt,hix,h34',h92,hw1,hneb,hie,q1',q2']
               exact step (i+1) e r' _ _ _ _ _ _ _ _ _ _ _ _ _ _ _ _ _ _ _ _ _ _ _ _ _ _ _ _ _ _ _ _ _ _ _ _ _ _ _ _ _ _ _ _ _ _ _ _ _ _ _ _ hdr (by omega) (by omega) hw
             · rw [if_neg (by simp only [Bool.or_eq_true,not_or];exact ⟨q1,q2⟩)] at hw
               have q2':((e.toNat:Int) != 92)=true:=by simpa using q2
               subst hw
               simp [hlt,hix,h34',h92,hw1,hneb,hie,q1',q2']
               exact hk
       · have h92':((b.toNat:Int) == 92)=false:=by simpa using h92
         rw [if_neg h92] at hw
         simp [hlt,hix,h34',h92']
         exact step i b r _ _ _ _ _ _ _ _ _ _ _ _ _ _ _ _ _ _ _ _ _ _ _ _ _ _ _ _ _ _ _ _ _ _ _ _ _ _ _ _ _ _ _ _ _ _ _ _ _ _ _ _ hd (by omega) (by omega) hw
def quotR:List UInt8→List UInt8 × Nat
 | []=>([],0)
 | b :: r=>if ((b.toNat:Int) == 34)=true then quoR r [] 1 else ([],0)
theorem r_quoted (H:AHeap) {s:List UInt8} (hs:s.length < 2 ^ 60):ACalls prog 95 [str s] H (.tuple #[str (quotR s).1,i64 (quotR s).2]) H:=by
 refine acallsT_pure MixT func95 (by decide) rfl ?_
 rw [d95]
 cases s with
 | nil=>simp [quotR]
 | cons b r =>
   have h0:=aIndex_at (P:=prog) (T:=9) (k:=.i64) (l:=b :: r) (i:=0) (b:=b) (by simp) rfl
   simp at h0
   rw [quotR]
   by_cases h34:((b.toNat:Int) == 34)=true
   · have h34':((b.toNat:Int) != 34)=false:=by simpa using h34
     rw [if_pos h34]
     simp [h0,h34']
     exact ⟨r.length+1,rQuo_loop (k:=fun u H2=>u=.tuple #[str (quoR r [] 1).1,i64 (quoR r [] 1).2]∧∃ X,H2=H++X) hs ⟨rfl,[],by simp⟩ r.length r [] 1 _ _ _ _ _ _ _ _ _ _ _ _ _ _ _ _ _ _ _ _ _ _ _ _ _ _ _ _ _ _ _ _ _ _ _ _ _ _ _ _ _ _ _ _ _ _ _ _ _ _ _ _ (Nat.le_refl _) rfl (by simp) (by simp) rfl⟩
   · have h34':((b.toNat:Int) != 34)=true:=by simpa using h34
     rw [if_neg h34]
     simp [h0,h34']
end Go.Vi
namespace Go.Vi
open Go Go.Proofs Go.Proofs.Tryz
abbrev RT:=Option (Int × List UInt8 × Nat)
def rcl (a:Nat):RT→List Value
 | none=>[.int .u8 0,str [],i64 0,i64 0]
 | some (k,x,n)=>[.int .u8 k,str x,i64 a,i64 ((a+n:Nat):Int)]
def brk (n:Nat):RT→Bool
 | none=>decide (2 < n)
 | some (_,_,m)=>decide (m+1 < n)
def upR (t:List UInt8) (n:Nat) (o:RT):RT:=if 0 < (kindR (t.take n)).1 then some ((kindR (t.take n)).1,(kindR (t.take n)).2,n) else o
def loR (t:List UInt8):Nat→Nat→RT→RT
 | 0,_,o=>o
 | f+1,n,o=>if n≤t.length then (if brk n (upR t n o)=true then upR t n o else loR t f (n+1) (upR t n o)) else o
def okR:RT→Prop
 | none=>True
 | some (k,_,m)=>0 < k∧m≤2 ^ 60
set_option maxRecDepth 20000 in
set_option maxHeartbeats 1600000 in
theorem long_loop {H:AHeap} {s t:List UInt8} {a:Nat} {z0 z1 z2 z3:Value} {k:Value→AHeap→Prop} {w:RT} (hs:s.length < 2 ^ 60) (ht:s.drop a=t) (ha:a≤s.length) (hk:k (.agg (rcl a w).toArray) (H++[.cells (rcl a w) 122,.cells (rcl a w) 122])) :
  ∀ (f n : Nat) (o : RT) (s2 s3 s6 s7 s9 c d g h i j r u v y z A B C D E F G I J K L M N O Q R S U V W X Y Z aa ab ac ad ae af ag ah ai aj ak al am an ao ap aq ar au av aw ax ay az aA aB aC aD aE aF aG aH aI aJ aK aL aM aN aO aP aQ : Value), t.length + 1 ≤ f + n → 1 ≤ n → n ≤ t.length + 1 → okR o → w = loR t f n o →
    L78x0 (f+1) k [str s,i64 a,s2,s3,.pointer (some ⟨H.length,0,some 4⟩),.pointer (some ⟨H.length+1,0,some 4⟩),s6,s7,i64 ((a+n:Nat):Int),s9,c,d,g,h,i,j,r,u,v,y,z,A,B,C,D,E,F,G,I,J,K,L,M,N,O,Q,R,S,U,V,W,X,Y,Z,aa,ab,ac,ad,ae,af,ag,ah,ai,aj,ak,al,am,an,ao,ap,aq,ar,au,av,aw,ax,ay,az,aA,aB,aC,aD,aE,aF,aG,aH,aI,aJ,aK,aL,aM,aN,aO,aP,aQ] (H++[.cells [z0,z1,z2,z3] 122,.cells (rcl a o) 122]):=by
 have htl:t.length=s.length-a:=by rw [← ht,List.length_drop]
 have done:∀ (o:RT) (s0 s1 s2 s3 s6 s7 s8 s9 c d g h i j r u v y z A B C D E F G I J K L M N O Q R S U V W X Y Z aa ab ac ad ae af ag ah ai aj ak al am an ao ap aq ar au av aw ax ay az aA aB aC aD aE aF aG aH aI aJ aK aL aM aN aO aP aQ:Value),w=o→S78x2 k [s0,s1,s2,s3,.pointer (some ⟨H.length,0,some 4⟩),.pointer (some ⟨H.length+1,0,some 4⟩),s6,s7,s8,s9,c,d,g,h,i,j,r,u,v,y,z,A,B,C,D,E,F,G,I,J,K,L,M,N,O,Q,R,S,U,V,W,X,Y,Z,aa,ab,ac,ad,ae,af,ag,ah,ai,aj,ak,al,am,an,ao,ap,aq,ar,au,av,aw,ax,ay,az,aA,aB,aC,aD,aE,aF,aG,aH,aI,aJ,aK,aL,aM,aN,aO,aP,aQ] (H++[.cells [z0,z1,z2,z3] 122,.cells (rcl a o) 122]):=by
  intro o s0 s1 s2 s3 s6 s7 s8 s9 c d g h i j r u v y z A B C D E F G I J K L M N O Q R S U V W X Y Z aa ab ac ad ae af ag ah ai aj ak al am an ao ap aq ar au av aw ax ay az aA aB aC aD aE aF aG aH aI aJ aK aL aM aN aO aP aQ hw
  subst hw
  rw [S78x2q]
  have hr:∃ c0 c1 c2 c3,rcl a w=[c0,c1,c2,c3]∧c0.oneCell'=true∧c1.oneCell'=true∧c2.oneCell'=true∧c3.oneCell'=true:=by
   cases w with
   | none=>exact ⟨_,_,_,_,rfl,rfl,rfl,rfl,rfl⟩
   | some p=>exact ⟨_,_,_,_,rfl,rfl,rfl,rfl,rfl⟩
  obtain ⟨c0,c1,c2,c3,e,o0,o1,o2,o3⟩:=hr
  rw [e] at hk ⊢
  simp [o0,o1,o2,o3]
  exact hk
 intro f
 induction f with
 | zero =>
   intro n o s2 s3 s6 s7 s9 c d g h i j r u v y z A B C D E F G I J K L M N O Q R S U V W X Y Z aa ab ac ad ae af ag ah ai aj ak al am an ao ap aq ar au av aw ax ay az aA aB aC aD aE aF aG aH aI aJ aK aL aM aN aO aP aQ hf h1 hn ho hw
   rw [L78x0q]
   have:¬ ((a+n:Nat):Int)≤s.length:=by omega
   simp only [Int.natCast_add] at this
   simp [this]
   rw [B78x0q]
   exact done o _ _ _ _ _ _ _ _ _ _ _ _ _ _ _ _ _ _ _ _ _ _ _ _ _ _ _ _ _ _ _ _ _ _ _ _ _ _ _ _ _ _ _ _ _ _ _ _ _ _ _ _ _ _ _ _ _ _ _ _ _ _ _ _ _ _ _ _ _ _ _ _ _ _ _ _ _ _ _ _ _ _ _ hw
 | succ f ih =>
   intro n o s2 s3 s6 s7 s9 c d g h i j r u v y z A B C D E F G I J K L M N O Q R S U V W X Y Z aa ab ac ad ae af ag ah ai aj ak al am an ao ap aq ar au av aw ax ay az aA aB aC aD aE aF aG aH aI aJ aK aL aM aN aO aP aQ hf h1 hn ho hw
   rw [L78x0q]
   rw [loR] at hw
   by_cases hle:n≤t.length
   · rw [if_pos hle] at hw
     have hle':((a+n:Nat):Int)≤s.length:=by omega
     have hsl:=fun (H:AHeap)=>aSliceOp_str (P:=prog) (H:=H) (T:=9) (l:=s) (lo:=some (i64 a)) (hi:=some (i64 ((a+n:Nat):Int))) (a:=a) (b:=((a+n:Nat):Int)) (by simp) rfl rfl (by omega) (by omega) (by omega)
     have he:(s.take (a+n)).drop a=t.take n:=by rw [List.drop_take,ht];congr 1;omega
     simp only [Int.toNat_natCast,he] at hsl
     have hkd:=r_kind (H++[.cells [z0,z1,z2,z3] 122,.cells (rcl a o) 122]) (s:=t.take n) (by simp;omega)
     simp only [Int.natCast_add] at hle' hsl
     simp [hle',hsl]
     refine bndC_of hkd ?_
     simp
     have tail:∀ (o':RT) (s2 s3 s6 s7 s9 c d g h i j r u v y z A B C D E F G I J K L M N O Q R S U V W X Y Z aa ab ac ad ae af ag ah ai aj ak al am an ao ap aq ar au av aw ax ay az aA aB aC aD aE aF aG aH aI aJ aK aL aM aN aO aP aQ:Value),okR o'→w=(if brk n o'=true then o' else loR t f (n+1) o') →
       S78x1 (f+1) k [str s,i64 a,s2,s3,.pointer (some ⟨H.length,0,some 4⟩),.pointer (some ⟨H.length+1,0,some 4⟩),s6,s7,i64 ((a:Int)+n),s9,c,d,g,h,i,j,r,u,v,y,z,A,B,C,D,E,F,G,I,J,K,L,M,N,O,Q,R,S,U,V,W,X,Y,Z,aa,ab,ac,ad,ae,af,ag,ah,ai,aj,ak,al,am,an,ao,ap,aq,ar,au,av,aw,ax,ay,az,aA,aB,aC,aD,aE,aF,aG,aH,aI,aJ,aK,aL,aM,aN,aO,aP,aQ] (H++[.cells [z0,z1,z2,z3] 122,.cells (rcl a o') 122]):=by
      intro o' s2 s3 s6 s7 s9 c d g h i j r u v y z A B C D E F G I J K L M N O Q R S U V W X Y Z aa ab ac ad ae af ag ah ai aj ak al am an ao ap aq ar au av aw ax ay az aA aB aC aD aE aF aG aH aI aJ aK aL aM aN aO aP aQ ho' hw'
      rw [S78x1q]
      have wn:IntKind.i64.wrap ((a:Int)+n+1)=((a+(n+1):Nat):Int):=by rw [wrap_i64 (by omega) (by omega)];omega
      have wa:IntKind.i64.wrap ((a:Int)+2)=(a:Int)+2:=wrap_i64 (by omega) (by omega)
      cases o' with
      | none =>
        by_cases hb:2 < n
        · have hbI:(a:Int)+2 < (a:Int)+n:=by omega
          simp only [brk,hb,decide_true,if_true] at hw'
          simp [rcl,wa,hbI]
          rw [B78x1q]
          exact done none _ _ _ _ _ _ _ _ _ _ _ _ _ _ _ _ _ _ _ _ _ _ _ _ _ _ _ _ _ _ _ _ _ _ _ _ _ _ _ _ _ _ _ _ _ _ _ _ _ _ _ _ _ _ _ _ _ _ _ _ _ _ _ _ _ _ _ _ _ _ _ _ _ _ _ _ _ _ _ _ _ _ _ hw'
        · have hbI:¬ (a:Int)+2 < (a:Int)+n:=by omega
          simp only [brk,hb,decide_false,if_false,Bool.false_eq_true] at hw'
          simp [rcl,wa,hbI,wn]
          exact ih (n+1) none _ _ _ _ _ _ _ _ _ _ _ _ _ _ _ _ _ _ _ _ _ _ _ _ _ _ _ _ _ _ _ _ _ _ _ _ _ _ _ _ _ _ _ _ _ _ _ _ _ _ _ _ _ _ _ _ _ _ _ _ _ _ _ _ _ _ _ _ _ _ _ _ _ _ _ _ _ _ _ _ (by omega) (by omega) (by omega) trivial hw'
      | some q =>
        obtain ⟨kk,x,m⟩:=q
        obtain ⟨hkk,hm60⟩:0 < kk∧m≤2 ^ 60:=ho'
        have hk0:(kk == 0)=false:=by rw [beq_eq_false_iff_ne];omega
        have wm:IntKind.i64.wrap ((a:Int)+m+1)=(a:Int)+m+1:=wrap_i64 (by omega) (by omega)
        by_cases hb:m+1 < n
        · have hbI:(a:Int)+m+1 < (a:Int)+n:=by omega
          simp only [brk,hb,decide_true,if_true] at hw'
          simp [rcl,hkk,wm,hbI]
          rw [B78x1q]
          exact done (some (kk,x,m)) _ _ _ _ _ _ _ _ _ _ _ _ _ _ _ _ _ _ _ _ _ _ _ _ _ _ _ _ _ _ _ _ _ _ _ _ _ _ _ _ _ _ _ _ _ _ _ _ _ _ _ _ _ _ _ _ _ _ _ _ _ _ _ _ _ _ _ _ _ _ _ _ _ _ _ _ _ _ _ _ _ _ _ hw'
        · have hbI:¬ (a:Int)+m+1 < (a:Int)+n:=by omega
          simp only [brk,hb,decide_false,if_false,Bool.false_eq_true] at hw'
          simp [rcl,hkk,wm,hbI,hk0,wn]
          exact ih (n+1) (some (kk,x,m)) _ _ _ _ _ _ _ _ _ _ _ _ _ _ _ _ _ _ _ _ _ _ _ _ _ _ _ _ _ _ _ _ _ _ _ _ _ _ _ _ _ _ _ _ _ _ _ _ _ _ _ _ _ _ _ _ _ _ _ _ _ _ _ _ _ _ _ _ _ _ _ _ _ _ _ _ _ _ _ _ (by omega) (by omega) (by omega) ⟨hkk,hm60⟩ hw'
     by_cases hkk:0 < (kindR (t.take n)).1
     · have hu:upR t n o=some ((kindR (t.take n)).1,(kindR (t.take n)).2,n):=by unfold upR;rw [if_pos hkk]
       rw [hu] at hw
       obtain ⟨c0,c1,c2,c3,e⟩:∃ c0 c1 c2 c3,rcl a o=[c0,c1,c2,c3]:=by
        cases o with
        | none=>exact ⟨_,_,_,_,rfl⟩
        | some p=>exact ⟨_,_,_,_,rfl⟩
       simp [hkk,e]
       exact tail (some ((kindR (t.take n)).1,(kindR (t.take n)).2,n)) _ _ _ _ _ _ _ _ _ _ _ _ _ _ _ _ _ _ _ _ _ _ _ _ _ _ _ _ _ _ _ _ _ _ _ _ _ _ _ _ _ _ _ _ _ _ _ _ _ _ _ _ _ _ _ _ _ _ _ _ _ _ _ _ _ _ _ _ _ _ _ _ _ _ _ _ _ _ _ _ ⟨hkk,by omega⟩ hw
     · have hu:upR t n o=o:=by unfold upR;rw [if_neg hkk]
       rw [hu] at hw
       simp [hkk]
       exact tail o _ _ _ _ _ _ _ _ _ _ _ _ _ _ _ _ _ _ _ _ _ _ _ _ _ _ _ _ _ _ _ _ _ _ _ _ _ _ _ _ _ _ _ _ _ _ _ _ _ _ _ _ _ _ _ _ _ _ _ _ _ _ _ _ _ _ _ _ _ _ _ _ _ _ _ _ _ _ _ _ ho hw
   · rw [if_neg hle] at hw
     have:¬ ((a+n:Nat):Int)≤s.length:=by omega
     simp only [Int.natCast_add] at this
     simp [this]
     rw [B78x0q]
     exact done o _ _ _ _ _ _ _ _ _ _ _ _ _ _ _ _ _ _ _ _ _ _ _ _ _ _ _ _ _ _ _ _ _ _ _ _ _ _ _ _ _ _ _ _ _ _ _ _ _ _ _ _ _ _ _ _ _ _ _ _ _ _ _ _ _ _ _ _ _ _ _ _ _ _ _ _ _ _ _ _ _ _ _ hw
def longR (t:List UInt8):RT:=match t with
 | []=>none
 | b :: r=>if ((b.toNat:Int) == 34)=true then (if 0 < (quoR r [] 1).2∧(t.take (quoR r [] 1).2).all isSign=true then some (3,(quoR r [] 1).1,(quoR r [] 1).2) else none) else loR t (t.length) 1 none
theorem quoR_le:∀ (n:Nat) (r acc:List UInt8) (c:Nat),r.length≤n→(quoR r acc c).2≤c+r.length:=by
 intro n
 induction n with
 | zero =>
   intro r acc c h
   have:r=[]:=List.eq_nil_of_length_eq_zero (by omega)
   subst this
   rw [quoR];simp
 | succ n ih =>
   intro r acc c h
   cases r with
   | nil=>rw [quoR];simp
   | cons b r =>
     simp only [List.length_cons] at h ⊢
     rw [quoR_cons]
     split
     · simp only;omega
     · split
       · cases r with
         | nil=>simp
         | cons e r' =>
           simp only [List.length_cons] at h ⊢
           split
           · have:=ih r' (acc++[e]) (c+2) (by omega);omega
           · simp
       · have:=ih r (acc++[b]) (c+1) (by omega);omega
set_option maxRecDepth 20000 in
set_option maxHeartbeats 1600000 in
theorem r_longest (H:AHeap) {s:List UInt8} {a:Nat} (hs:s.length < 2 ^ 60) (ha:a < s.length):ACalls prog 78 [str s,i64 a] H (.agg (rcl a (longR (s.drop a))).toArray) H:=by
 have hfl:∀ o:RT,flat (.agg (rcl a o).toArray)=true:=by
  intro o
  cases o with
  | none=>rfl
  | some p=>rfl
 refine acallsT_pure MixT func78 (by decide) (hfl _) ?_
 rw [d78]
 obtain ⟨b,r,hbr⟩:∃ b r,s.drop a=b :: r:=by
  cases h:s.drop a with
  | nil=>simp at h;omega
  | cons b r=>exact ⟨b,r,rfl⟩
 have hb:s[a]?=some b:=by rw [← List.head?_drop,hbr];rfl
 have hix:=aIndex_at (P:=prog) (T:=9) (k:=.i64) (by simp) hb
 have hl:(b :: r).length=s.length-a:=by rw [← hbr,List.length_drop]
 have hw1:IntKind.i64.wrap ((a:Int)+1)=((a+1:Nat):Int):=by rw [wrap_i64 (by omega) (by omega)];omega
 rw [hbr,longR]
 by_cases h34:((b.toNat:Int) == 34)=true
 · rw [if_pos h34]
   have hq:quotR (b :: r)=quoR r [] 1:=by rw [quotR,if_pos h34]
   have hqle:=quoR_le r.length r [] 1 (Nat.le_refl _)
   generalize hQ:quoR r [] 1=Q at hq hqle
   obtain ⟨x,u⟩:=Q
   simp only at hqle
   simp only [List.length_cons] at hl
   have h1:=fun (H:AHeap)=>aSliceOp_str (P:=prog) (H:=H) (T:=9) (l:=s) (lo:=some (i64 a)) (hi:=none) (a:=a) (b:=s.length) (by simp) rfl rfl (by omega) (by omega) (by omega)
   simp only [Int.toNat_natCast,List.take_length,hbr] at h1
   have h2:=fun (H:AHeap)=>aSliceOp_str (P:=prog) (H:=H) (T:=9) (l:=s) (lo:=some (i64 a)) (hi:=some (i64 ((a:Int)+u))) (a:=a) (b:=((a+u:Nat):Int)) (by simp) rfl rfl (by omega) (by omega) (by omega)
   have he:(s.take (a+u)).drop a=(b :: r).take u:=by rw [List.drop_take,hbr];congr 1;omega
   simp only [Int.toNat_natCast,he] at h2
   have hq2:=fun (H:AHeap)=>r_quoted H (s:=b :: r) (by simp;omega)
   rw [hq] at hq2
   have hwu:IntKind.i64.wrap ((a:Int)+u)=(a:Int)+u:=wrap_i64 (by omega) (by omega)
   have done:∀ (o:RT) (s0 s1 s2 s3 s6 s7 s8 s9 c d f g i j m n q t w y z A B C D E F G I J K L M N O R S U V W Y Z aa ab ac ad ae af ag ah ai aj ak al am an ao ap aq ar au av aw ax ay az aA aB aC aD aE aF aG aH aI aJ aK aL aM aN aO aP aQ:Value),S78x0 (fun v H2=>v=.agg (rcl a o).toArray∧∃ X,H2=H++X) [s0,s1,s2,s3,.pointer (some ⟨H.length,0,some 4⟩),.pointer (some ⟨H.length+1,0,some 4⟩),s6,s7,s8,s9,c,d,f,g,i,j,m,n,q,t,w,y,z,A,B,C,D,E,F,G,I,J,K,L,M,N,O,R,S,U,V,W,Y,Z,aa,ab,ac,ad,ae,af,ag,ah,ai,aj,ak,al,am,an,ao,ap,aq,ar,au,av,aw,ax,ay,az,aA,aB,aC,aD,aE,aF,aG,aH,aI,aJ,aK,aL,aM,aN,aO,aP,aQ] (H++[.cells [.int .u8 0,str [],i64 0,i64 0] 122,.cells (rcl a o) 122]):=by
    intro o s0 s1 s2 s3 s6 s7 s8 s9 c d f g i j m n q t w y z A B C D E F G I J K L M N O R S U V W Y Z aa ab ac ad ae af ag ah ai aj ak al am an ao ap aq ar au av aw ax ay az aA aB aC aD aE aF aG aH aI aJ aK aL aM aN aO aP aQ
    rw [S78x0q]
    have hr:∃ c0 c1 c2 c3,rcl a o=[c0,c1,c2,c3]∧c0.oneCell'=true∧c1.oneCell'=true∧c2.oneCell'=true∧c3.oneCell'=true:=by
     cases o with
     | none=>exact ⟨_,_,_,_,rfl,rfl,rfl,rfl,rfl⟩
     | some p=>exact ⟨_,_,_,_,rfl,rfl,rfl,rfl,rfl⟩
    obtain ⟨c0,c1,c2,c3,e,o0,o1,o2,o3⟩:=hr
    rw [e]
    simp [o0,o1,o2,o3]
   simp [hix,h34,h1]
   refine bndC_of (hq2 _) ?_
   by_cases hu:0 < u
   · cases hp:((b :: r).take u).all isSign with
     | true =>
       have hpl:=fun (H:AHeap)=>r_plain H (s:=(b :: r).take u) (by simp;omega)
       rw [hp] at hpl
       simp [hu,hwu,h2]
       refine bndG_t (.bool true) _ (hpl _) ?_
       simp [hu,hwu]
       exact done (some (3,x,u)) _ _ _ _ _ _ _ _ _ _ _ _ _ _ _ _ _ _ _ _ _ _ _ _ _ _ _ _ _ _ _ _ _ _ _ _ _ _ _ _ _ _ _ _ _ _ _ _ _ _ _ _ _ _ _ _ _ _ _ _ _ _ _ _ _ _ _ _ _ _ _ _ _ _ _ _ _ _ _ _ _ _ _
     | false =>
       have hpl:=fun (H:AHeap)=>r_plain H (s:=(b :: r).take u) (by simp;omega)
       rw [hp] at hpl
       simp [hu,hwu,h2]
       refine bndG_t (.bool false) _ (hpl _) ?_
       simp
       exact done none _ _ _ _ _ _ _ _ _ _ _ _ _ _ _ _ _ _ _ _ _ _ _ _ _ _ _ _ _ _ _ _ _ _ _ _ _ _ _ _ _ _ _ _ _ _ _ _ _ _ _ _ _ _ _ _ _ _ _ _ _ _ _ _ _ _ _ _ _ _ _ _ _ _ _ _ _ _ _ _ _ _ _
   · have hu':u=0:=by omega
     subst hu'
     simp
     exact done none _ _ _ _ _ _ _ _ _ _ _ _ _ _ _ _ _ _ _ _ _ _ _ _ _ _ _ _ _ _ _ _ _ _ _ _ _ _ _ _ _ _ _ _ _ _ _ _ _ _ _ _ _ _ _ _ _ _ _ _ _ _ _ _ _ _ _ _ _ _ _ _ _ _ _ _ _ _ _ _ _ _ _
 · rw [if_neg h34]
   have h34':((b.toNat:Int) == 34)=false:=by simpa using h34
   simp [hix,h34',hw1]
   exact ⟨(b :: r).length+1,long_loop (H:=H) (k:=fun u H2=>u=.agg (rcl a (loR (b :: r) (b :: r).length 1 none)).toArray∧∃ X,H2=H++X) hs hbr (by omega) ⟨rfl,_,rfl⟩ (b :: r).length 1 none _ _ _ _ _ _ _ _ _ _ _ _ _ _ _ _ _ _ _ _ _ _ _ _ _ _ _ _ _ _ _ _ _ _ _ _ _ _ _ _ _ _ _ _ _ _ _ _ _ _ _ _ _ _ _ _ _ _ _ _ _ _ _ _ _ _ _ _ _ _ _ _ _ _ _ _ _ _ _ _ (by omega) (by omega) (by simp) trivial rfl⟩
end Go.Vi
namespace Go.Vi
open Go Go.Proofs
def shN (k:Nat) (n:Nod):Nod:=if n.kind=0 then n else if n.kind=3 then { n with left:=n.left+k } else { n with left:=n.left+k,right:=n.right+k }
theorem strO_mono {ts:List Tok}:∀ (f f' m a:Nat) (l:List Nod) (r:Option (List Nod × Nat)),f≤f'→strO ts f m a l=some r→strO ts f' m a l=some r:=by
 intro f
 induction f with
 | zero=>intro f' m a l r _ h;cases h
 | succ f ih =>
   intro f' m a l r hf h
   obtain ⟨f',rfl⟩:∃ g,f'=g+1:=⟨f'-1,by omega⟩
   have hf':f≤f':=by omega
   unfold strO at h ⊢
   by_cases hm:m=2
   · rw [if_pos hm] at h ⊢
     by_cases h1:isT ts a 1 notS=true
     · rw [if_pos h1] at h ⊢
       obtain ⟨q,e1,e2⟩:=Option.map_eq_some_iff.1 h
       rw [ih _ _ _ _ _ hf' e1];simp [e2]
     · rw [if_neg h1] at h ⊢
       by_cases h2:isT ts a 4 [40]=true
       · rw [if_pos h2] at h ⊢
         obtain ⟨q,e1,e2⟩:=Option.map_eq_some_iff.1 h
         rw [ih _ _ _ _ _ hf' e1];simp [e2]
       · rw [if_neg h2] at h ⊢;exact h
   · rw [if_neg hm] at h ⊢
     by_cases hm2:m < 2
     · rw [if_pos hm2] at h ⊢
       obtain ⟨q,e1,e2⟩:=Option.bind_eq_some_iff.1 h
       rw [ih _ _ _ _ _ hf' e1,Option.bind_some]
       cases q with
       | none=>exact e2
       | some p=>exact ih _ _ _ _ _ hf' e2
     · rw [if_neg hm2] at h ⊢
       by_cases hw:isT ts a 1 (wordO (m-10))=true
       · rw [if_pos hw] at h ⊢
         obtain ⟨q,e1,e2⟩:=Option.bind_eq_some_iff.1 h
         rw [ih _ _ _ _ _ hf' e1,Option.bind_some]
         cases q with
         | none=>exact e2
         | some p=>exact ih _ _ _ _ _ hf' e2
       · rw [if_neg hw] at h ⊢;exact h
theorem conO_of {ts:List Tok} {f a:Nat} {r:Option (List Nod × Nat)} (h:strO ts f 0 a []=some r):conO ts a=r:=by
 have h1:=strO_mono _ (max f (4*ts.length+3)) _ _ _ _ (by omega) h
 have h2:=strO_mono _ (max f (4*ts.length+3)) _ _ _ _ (by omega) (conO_str ts a)
 rw [h1] at h2
 exact (Option.some.inj h2).symm
theorem str_paren {ts:List Tok} {f a b:Nat} {l l':List Nod} (h:strO ts f 0 (a+1) l=some (some (l',b))) (ho:isT ts a 4 [40]=true) (hc:isT ts b 4 [41]=true):strO ts (f+1) 2 a l=some (some (l',b+1)):=by
 have h1:¬ isT ts a 1 notS=true:=by
  unfold isT at ho ⊢
  cases ht:ts[a]? with
  | none=>simp
  | some t=>simp [ht] at ho;simp [ho.1]
 unfold strO
 rw [if_pos rfl,if_neg h1,if_pos ho,h]
 simp [signO,hc]
theorem str_neg2 {ts:List Tok} {f a b:Nat} {l l1:List Nod} (h1:strO ts f 2 (a+1) l=some (some (l1,b))) (hw:isT ts a 1 notS=true):strO ts (f+1) 2 a l=some (some (l1++[opN 3 ((l1.length:Int)-1) 0],b)):=by
 unfold strO
 rw [if_pos rfl,if_pos hw,h1];rfl
end Go.Vi
namespace Go.Vi
open Go Go.Proofs
theorem runF_cons (p:UInt8→Bool) (b:UInt8) (t:List UInt8):runF p (b :: t)=if p b=true then runF p t+1 else 0:=by
 unfold runF
 rw [List.takeWhile_cons]
 split<;>simp_all
theorem all_take {p:UInt8→Bool}:∀ (t:List UInt8) (n:Nat),n≤t.length→((t.take n).all p=true↔n≤runF p t):=by
 intro t
 induction t with
 | nil=>intro n h;simp at h;subst h;simp
 | cons b t ih =>
   intro n h
   cases n with
   | zero=>simp
   | succ n =>
     simp only [List.length_cons] at h
     rw [List.take_succ_cons,List.all_cons,runF_cons]
     cases hb:p b with
     | false=>simp
     | true =>
       have:=ih n (by omega)
       simp only [Bool.true_and,if_true]
       rw [this]
       omega
theorem digs_take {t:List UInt8} {n:Nat} (h:n≤t.length):digsR (t.take n)=true↔1≤n∧n≤runF isDig t:=by
 unfold digsR
 rw [Bool.and_eq_true,all_take t n h]
 have:(!decide (t.take n=[]))=true↔1≤n:=by
  cases n with
  | zero=>simp
  | succ n => cases t with
    | nil=>simp at h
    | cons b t=>simp
 rw [this]
 exact and_comm
theorem digs_mem {p:List UInt8} {c:UInt8} (hc:isDig c=false) (h:c∈p):digsR p=false:=by
 unfold digsR
 have:p.all isDig=false:=by rw [List.all_eq_false];exact ⟨c,h,by simp [hc]⟩
 rw [this];rfl
theorem numG_mem {c:UInt8} (hc:isDig c=false):∀ (v p:List UInt8),c∈p→numG p v=false:=by
 intro v
 induction v with
 | nil=>intro p h;rw [numG];exact digs_mem hc h
 | cons b v ih =>
   intro p h
   rw [numG]
   split
   · rw [digs_mem hc h];rfl
   · exact ih _ (by simp [h])
theorem numG_bad {c:UInt8} {p v:List UInt8} (hc:isDig c=false) (h46:¬ ((c.toNat:Int) == 46)=true):numG p (c :: v)=false:=by
 rw [numG,if_neg h46]
 exact numG_mem hc v _ (by simp)
theorem dig_no46 {b:UInt8} (h:isDig b=true):¬ ((b.toNat:Int) == 46)=true:=by
 rw [isDig_iff] at h
 rw [beq_iff_eq]
 omega
theorem numG_digs:∀ (u p:List UInt8) (v:List UInt8),u.all isDig=true→numG p (u++v)=numG (p++u) v:=by
 intro u
 induction u with
 | nil=>intro p v _;simp
 | cons b u ih =>
   intro p v h
   rw [List.all_cons,Bool.and_eq_true] at h
   rw [List.cons_append,numG,if_neg (dig_no46 h.1),ih _ _ h.2]
   simp
theorem signs_ok:∀ s∈signsR,∀ b,s[0]?=some b→isLow b=false∧isDig b=false:=by
 intro s hs b hb
 simp only [signsR,List.mem_cons,List.not_mem_nil,or_false] at hs
 rcases hs with rfl | rfl | rfl | rfl | rfl | rfl | rfl | rfl | rfl | rfl | rfl | rfl | rfl | rfl | rfl | rfl | rfl | rfl<;>(cases hb;decide)
theorem signs_len:∀ s∈signsR,s.length≤2:=by decide
theorem lo_run {t:List UInt8} {m:Nat} (hm:m≤t.length):∀ (d n f:Nat) (o:RT),n+d=m→d < f→(∀ j,n≤j→j≤m→0 < (kindR (t.take j)).1) →
  loR t f n o=loR t (f-(d+1)) (m+1) (some ((kindR (t.take m)).1,(kindR (t.take m)).2,m)):=by
 intro d
 induction d with
 | zero =>
   intro n f o hd hf h
   obtain ⟨f,rfl⟩:∃ g,f=g+1:=⟨f-1,by omega⟩
   obtain rfl:n=m:=by omega
   rw [loR,if_pos hm]
   have:upR t n o=some ((kindR (t.take n)).1,(kindR (t.take n)).2,n):=by unfold upR;rw [if_pos (h n (Nat.le_refl _) (Nat.le_refl _))]
   rw [this,if_neg (by simp [brk])]
   rfl
 | succ d ih =>
   intro n f o hd hf h
   obtain ⟨f,rfl⟩:∃ g,f=g+1:=⟨f-1,by omega⟩
   rw [loR,if_pos (by omega)]
   have:upR t n o=some ((kindR (t.take n)).1,(kindR (t.take n)).2,n):=by unfold upR;rw [if_pos (h n (Nat.le_refl _) (by omega))]
   rw [this,if_neg (by simp [brk])]
   rw [ih (n+1) f _ (by omega) (by omega) (fun j h1 h2=>h j (by omega) h2)]
   congr 1
   omega
theorem lo_end {t:List UInt8} {m:Nat} {k:Int} {x:List UInt8} (h:∀ j,m < j→j≤t.length→¬ 0 < (kindR (t.take j)).1) (f:Nat):loR t f (m+1) (some (k,x,m))=some (k,x,m):=by
 have hu:∀ j,m < j→j≤t.length→upR t j (some (k,x,m))=some (k,x,m):=fun j h1 h2=>by unfold upR;rw [if_neg (h j h1 h2)]
 cases f with
 | zero=>rfl
 | succ f =>
   rw [loR]
   by_cases h1:m+1≤t.length
   · rw [if_pos h1,hu _ (by omega) h1,if_neg (by simp [brk])]
     cases f with
     | zero=>rfl
     | succ f =>
       rw [loR]
       by_cases h2:m+1+1≤t.length
       · rw [if_pos h2,hu _ (by omega) h2,if_pos (by simp [brk])]
       · rw [if_neg h2]
   · rw [if_neg h1]
theorem lo_none {t:List UInt8} (h:∀ j,1≤j→j≤t.length→¬ 0 < (kindR (t.take j)).1):∀ (f n:Nat),1≤n→loR t f n none=none:=by
 intro f
 induction f with
 | zero=>intro n _;rfl
 | succ f ih =>
   intro n hn
   rw [loR]
   by_cases h1:n≤t.length
   · have:upR t n none=none:=by unfold upR;rw [if_neg (h n hn h1)]
     rw [if_pos h1,this,ih (n+1) (by omega)]
     split<;>rfl
   · rw [if_neg h1]
theorem take_head {b:UInt8} {r:List UInt8} {j:Nat} (h:1≤j):∃ v,(b :: r).take j=b :: v:=by
 obtain ⟨j,rfl⟩:∃ i,j=i+1:=⟨j-1,by omega⟩
 exact ⟨r.take j,rfl⟩
theorem kind_low {b:UInt8} {r:List UInt8} {j:Nat} (hb:isLow b=true) (h1:1≤j) (hj:j≤(b :: r).length) :
  kindR ((b :: r).take j)=if j≤runF isMark (b :: r) then (1,(b :: r).take j) else (0,[]):=by
 obtain ⟨v,hv⟩:=take_head (b:=b) (r:=r) h1
 have hw:wordR ((b :: r).take j)=decide (j≤runF isMark (b :: r)):=by
  unfold wordR
  have h0:(((b :: r).take j)[0]?).any isLow=true:=by rw [hv];simpa using hb
  rw [h0,Bool.and_true]
  have:=all_take (p:=isMark) (b :: r) j hj
  by_cases hq:j≤runF isMark (b :: r)
  · rw [this.2 hq];simp [hq]
  · simp only [hq,decide_false]
    cases h2:((b :: r).take j).all isMark with
    | true=>exact absurd (this.1 h2) hq
    | false=>rfl
 have hnd:isDig b=false:=by
  rw [isLow_iff] at hb
  rw [← Bool.not_eq_true,isDig_iff]
  omega
 have h46:¬ ((b.toNat:Int) == 46)=true:=by
  rw [isLow_iff] at hb
  rw [beq_iff_eq]
  omega
 have hn:numR ((b :: r).take j)=false:=by rw [hv];exact numG_bad hnd h46
 have hs:¬ (b :: r).take j∈signsR:=by
  intro hm
  have:=(signs_ok _ hm b (by rw [hv];rfl)).1
  rw [this] at hb
  cases hb
 unfold kindR
 rw [hw,hn]
 by_cases hq:j≤runF isMark (b :: r)
 · simp [hq]
 · simp [hq,hs]
theorem kind_dig {b:UInt8} {r:List UInt8} {j:Nat} (hb:isDig b=true) (h1:1≤j) :
  kindR ((b :: r).take j)=if numR ((b :: r).take j)=true then (2,(b :: r).take j) else (0,[]):=by
 obtain ⟨v,hv⟩:=take_head (b:=b) (r:=r) h1
 have hnl:isLow b=false:=by
  rw [isDig_iff] at hb
  rw [← Bool.not_eq_true,isLow_iff]
  omega
 have hw:wordR ((b :: r).take j)=false:=by
  unfold wordR
  rw [hv]
  simp [hnl]
 have hs:¬ (b :: r).take j∈signsR:=by
  intro hm
  have:=(signs_ok _ hm b (by rw [hv];rfl)).2
  rw [this] at hb
  cases hb
 unfold kindR
 rw [hw]
 simp [hs]
theorem kind_sig {b:UInt8} {r:List UInt8} {j:Nat} (hl:isLow b=false) (hd:isDig b=false) (h1:1≤j) :
  kindR ((b :: r).take j)=if (b :: r).take j∈signsR then (4,(b :: r).take j) else (0,[]):=by
 obtain ⟨v,hv⟩:=take_head (b:=b) (r:=r) h1
 have hw:wordR ((b :: r).take j)=false:=by
  unfold wordR
  rw [hv]
  simp [hl]
 have hn:numR ((b :: r).take j)=false:=by
  rw [hv]
  by_cases h46:((b.toNat:Int) == 46)=true
  · unfold numR
    rw [numG,if_pos h46]
    rfl
  · exact numG_bad hd h46
 unfold kindR
 rw [hw,hn]
 simp
theorem num_take {t:List UInt8} {j:Nat} (hj:j≤t.length) (h1:1≤runF isDig t):numR (t.take j)=true↔(1≤j∧j≤runF isDig t)∨((t[runF isDig t]?).any (fun e=>(e.toNat:Int) == 46)=true∧runF isDig t+2≤j∧j≤runF isDig t+1+runF isDig (t.drop (runF isDig t+1))):=by
 have hle:=runF_le isDig t
 generalize hm:runF isDig t=m at *
 have hD:(t.take m).all isDig=true:=(all_take t m hle).2 (by omega)
 by_cases hjm:j≤m
 · have:(t.take j).all isDig=true:=(all_take t j hj).2 (by omega)
   have h2:=numG_digs (t.take j) [] [] this
   rw [List.append_nil,List.nil_append,numG] at h2
   unfold numR
   rw [h2,digs_take hj,hm]
   constructor
   · intro h;exact .inl h
   · rintro (h | ⟨_,h,_⟩)
     · exact h
     · omega
 · have hml:m < t.length:=by omega
   obtain ⟨c,hc⟩:∃ c,t[m]?=some c:=⟨_,List.getElem?_eq_getElem hml⟩
   have hdm:t.drop m=c :: t.drop (m+1):=by
    rw [List.drop_eq_getElem_cons hml]
    rw [List.getElem?_eq_getElem hml] at hc
    cases hc
    rfl
   have hcd:isDig c=false:=by
    cases hq:isDig c with
    | false=>rfl
    | true =>
      exfalso
      have h3:=(all_take (p:=isDig) t (m+1) (by omega)).1 (by
       rw [List.take_add_one,hc,List.all_append,hD]
       simp [hq])
      omega
   have hsp:t.take j=t.take m++c :: (t.drop (m+1)).take (j-m-1):=by
    have:t=t.take m++t.drop m:=(List.take_append_drop m t).symm
    conv=>lhs;rw [this]
    rw [List.take_append,hdm]
    have e1:(t.take m).length=m:=by simp;omega
    rw [e1,List.take_of_length_le (by rw [e1];omega)]
    obtain ⟨i,hi⟩:∃ i,j-m=i+1:=⟨j-m-1,by omega⟩
    rw [hi,List.take_succ_cons]
    rfl
   unfold numR
   rw [hsp,numG_digs _ _ _ hD,List.nil_append,hc]
   by_cases h46:((c.toNat:Int) == 46)=true
   · rw [numG,if_pos h46,Bool.and_eq_true,digs_take hle,digs_take (by rw [List.length_drop];omega),hm]
     have e:(some c).any (fun e=>(e.toNat:Int) == 46)=true:=h46
     constructor
     · rintro ⟨_,h2,h3⟩
       exact .inr ⟨e,by omega,by omega⟩
     · rintro (h | ⟨_,h2,h3⟩)
       · omega
       · exact ⟨by omega,by omega,by omega⟩
   · rw [numG_bad hcd h46]
     have:((c.toNat:Int) == 46)=false:=by simpa using h46
     simp only [Option.any_some,this]
     simp
     omega
theorem sigs_two:∀ b e:UInt8,[b,e]∈signsR↔((e.toNat:Int) == 61 && hasB sigs1 b)=true:=by
 intro b e
 have h1:hasB sigs1 b=decide (b=60∨b=62∨b=61∨b=33∨b=94):=byte_all (p:=fun b=>hasB sigs1 b=decide (b=60∨b=62∨b=61∨b=33∨b=94)) (by decide +kernel) b
 have h2:((e.toNat:Int) == 61)=decide (e=61):=byte_all (p:=fun e=>((e.toNat:Int) == 61)=decide (e=61)) (by decide +kernel) e
 rw [h1,h2]
 simp [signsR]
 constructor
 · rintro (⟨rfl,rfl⟩ | ⟨rfl,rfl⟩ | ⟨rfl,rfl⟩ | ⟨rfl,rfl⟩ | ⟨rfl,rfl⟩)<;>simp
 · rintro ⟨rfl,h⟩
   rcases h with rfl | rfl | rfl | rfl | rfl<;>simp
theorem sigs_one:∀ b:UInt8,([b]∈signsR)↔hasB sigs2 b=true:=by
 intro b
 have h1:hasB sigs2 b=decide (b∈sigs2):=byte_all (p:=fun b=>hasB sigs2 b=decide (b∈sigs2)) (by decide +kernel) b
 rw [h1]
 simp [signsR,sigs2]
theorem quoR_gt:∀ (n:Nat) (r acc:List UInt8) (c:Nat),r.length≤n→0 < (quoR r acc c).2→c < (quoR r acc c).2:=by
 intro n
 induction n with
 | zero =>
   intro r acc c h
   have:r=[]:=List.eq_nil_of_length_eq_zero (by omega)
   subst this
   rw [quoR];simp
 | succ n ih =>
   intro r acc c h
   cases r with
   | nil=>rw [quoR];simp
   | cons b r =>
     simp only [List.length_cons] at h
     rw [quoR_cons]
     split
     · simp
     · split
       · cases r with
         | nil=>simp
         | cons e r' =>
           simp only [List.length_cons] at h ⊢
           split
           · intro h0;have:=ih r' (acc++[e]) (c+2) (by omega) h0;omega
           · simp
       · intro h0;have:=ih r (acc++[b]) (c+1) (by omega) h0;omega
theorem text_quo:∀ (n:Nat) (r acc:List UInt8) (c:Nat),r.length≤n→0 < c+1→textF r acc c=if 0 < (quoR r acc c).2∧(r.take ((quoR r acc c).2-c)).all isSign=true then quoR r acc c else ([],0):=by
 intro n
 induction n with
 | zero =>
   intro r acc c h _
   have:r=[]:=List.eq_nil_of_length_eq_zero (by omega)
   subst this
   rw [quoR,textF];simp
 | succ n ih =>
   intro r acc c h _
   cases r with
   | nil=>rw [quoR,textF];simp
   | cons b r =>
     simp only [List.length_cons] at h
     rw [quoR_cons,textF_cons]
     by_cases h34:((b.toNat:Int) == 34)=true
     · have hsg:isSign b=true:=by rw [isSign_iff];rw [beq_iff_eq] at h34;omega
       rw [if_pos hsg,if_pos h34,if_pos h34]
       have e:c+1-c=1:=by omega
       simp [e,hsg]
     · rw [if_neg h34,if_neg h34]
       by_cases h92:((b.toNat:Int) == 92)=true
       · have hsg:isSign b=true:=by rw [isSign_iff];rw [beq_iff_eq] at h92;omega
         rw [if_pos hsg,if_pos h92,if_pos h92]
         cases r with
         | nil=>simp
         | cons e r' =>
           simp only [List.length_cons] at h ⊢
           by_cases he:((e.toNat:Int) == 34 || (e.toNat:Int) == 92)=true
           · have hse:isSign e=true:=by
              rw [isSign_iff]
              simp only [Bool.or_eq_true,beq_iff_eq] at he
              omega
             rw [if_pos he,if_pos he,ih r' (acc++[e]) (c+2) (by omega) (by omega)]
             have hgt:=quoR_gt r'.length r' (acc++[e]) (c+2) (Nat.le_refl _)
             generalize quoR r' (acc++[e]) (c+2)=q at *
             by_cases h0:0 < q.2
             · have e1:q.2-c=q.2-(c+2)+1+1:=by have:=hgt h0;omega
               rw [e1,List.take_succ_cons,List.take_succ_cons,List.all_cons,List.all_cons,hsg,hse,Bool.true_and,Bool.true_and]
             · rw [if_neg (fun h=>h0 h.1),if_neg (fun h=>h0 h.1)]
           · rw [if_neg he,if_neg he]
             simp
       · rw [if_neg h92,if_neg h92]
         have hgt:=quoR_gt r.length r (acc++[b]) (c+1) (Nat.le_refl _)
         have hih:=ih r (acc++[b]) (c+1) (by omega) (by omega)
         rw [hih]
         generalize quoR r (acc++[b]) (c+1)=q at *
         by_cases h0:0 < q.2
         · have e1:q.2-c=q.2-(c+1)+1:=by have:=hgt h0;omega
           rw [e1,List.take_succ_cons,List.all_cons]
           cases hsg:isSign b with
           | true=>simp
           | false=>simp
         · have h0':q.2=0:=by omega
           simp [h0']
theorem long_one {t:List UInt8} (h:t≠[]):longR t=if (oneF t 0).2=0 then none else some ((oneF t 0).1.kind,(oneF t 0).1.text,(oneF t 0).2):=by
 cases t with
 | nil=>exact absurd rfl h
 | cons b r =>
   rw [longR]
   have hlen:1≤(b :: r).length:=by simp
   by_cases hl:isLow b=true
   · have h34:¬ ((b.toNat:Int) == 34)=true:=by
      rw [isLow_iff] at hl;rw [beq_iff_eq];omega
     rw [if_neg h34]
     have ho:oneF (b :: r) 0=(⟨1,(b :: r).take (runF isMark (b :: r)),0⟩,runF isMark (b :: r)):=by (simp [oneF,hl]<;>rfl)
     rw [ho]
     have hm1:1≤runF isMark (b :: r):=by rw [runF_cons,if_pos (by simp [isMark,hl])];omega
     have hle:=runF_le isMark (b :: r)
     have hk:=fun j (h1:1≤j) (h2:j≤(b :: r).length)=>kind_low (r:=r) hl h1 h2
     generalize runF isMark (b :: r)=m at *
     rw [if_neg (by simp only;omega),lo_run hle (m-1) 1 _ none (by omega) (by omega) (fun j h1 h2=>by rw [hk j h1 (by omega),if_pos h2];simp),hk m hm1 hle,if_pos (Nat.le_refl _)]
     exact lo_end (fun j h1 h2=>by rw [hk j (by omega) h2,if_neg (by omega)];decide) _
   · have hl':isLow b=false:=by simpa using hl
     by_cases hd:isDig b=true
     · have h34:¬ ((b.toNat:Int) == 34)=true:=by
        rw [isDig_iff] at hd;rw [beq_iff_eq];omega
       rw [if_neg h34]
       have ho:oneF (b :: r) 0=(⟨2,(b :: r).take (numLen (b :: r)),0⟩,numLen (b :: r)):=by (simp [oneF,hl',hd]<;>rfl)
       rw [ho]
       have hm1:1≤runF isDig (b :: r):=by rw [runF_cons,if_pos hd];omega
       have hle:=runF_le isDig (b :: r)
       have hk:=fun j (h1:1≤j)=>kind_dig (r:=r) (j:=j) hd h1
       have hn:=fun j (h2:j≤(b :: r).length)=>num_take (t:=b :: r) h2 hm1
       have hnl:=numLen_le (b :: r)
       have hN:numLen (b :: r)=if ((((b :: r)[runF isDig (b :: r)]?).any (fun e=>(e.toNat:Int) == 46)) && decide (runF isDig ((b :: r).drop (runF isDig (b :: r)+1)) > 0))=true then runF isDig (b :: r)+(1+runF isDig ((b :: r).drop (runF isDig (b :: r)+1))) else runF isDig (b :: r):=rfl
       generalize numLen (b :: r)=M at *
       generalize runF isDig (b :: r)=m at *
       generalize runF isDig ((b :: r).drop (m+1))=m2 at *
       have pos:∀ j,1≤j→j≤(b :: r).length→numR ((b :: r).take j)=true→kindR ((b :: r).take j)=(2,(b :: r).take j):=fun j h1 h2 h3=>by rw [hk j h1,if_pos h3]
       have neg:∀ j,1≤j→¬ numR ((b :: r).take j)=true→kindR ((b :: r).take j)=(0,[]):=fun j h1 h3=>by rw [hk j h1,if_neg h3]
       by_cases hp:(((b :: r)[m]?).any (fun e=>(e.toNat:Int) == 46))=true
       · by_cases h2:m2 > 0
         · have hM:M=m+(1+m2):=by rw [hN,if_pos (by simp only [hp,Bool.true_and,decide_eq_true_eq];exact h2)]
           have hml:m+1+m2≤(b :: r).length:=by omega
           rw [if_neg (by simp only;omega),lo_run hle (m-1) 1 _ none (by omega) (by omega) (fun j h1 h3=>by rw [pos j h1 (by omega) ((hn j (by omega)).2 (.inl ⟨h1,h3⟩))];simp)]
           obtain ⟨f,hf⟩:∃ f,(b :: r).length-(m-1+1)=f+1:=⟨(b :: r).length-(m-1+1)-1,by omega⟩
           have hgap:¬ numR ((b :: r).take (m+1))=true:=by rw [hn (m+1) (by omega)];omega
           have hu:upR (b :: r) (m+1) (some ((kindR ((b :: r).take m)).1,(kindR ((b :: r).take m)).2,m))=some ((kindR ((b :: r).take m)).1,(kindR ((b :: r).take m)).2,m):=by
            unfold upR;rw [neg (m+1) (by omega) hgap,if_neg (by simp)]
           rw [hf,loR,if_pos (by omega),hu,if_neg (by simp [brk])]
           rw [lo_run (m:=M) (by omega) (M-(m+2)) (m+1+1) _ _ (by omega) (by omega) (fun j h1 h3=>by rw [pos j (by omega) (by omega) ((hn j (by omega)).2 (.inr ⟨hp,by omega,by omega⟩))];simp)]
           rw [pos M (by omega) (by omega) ((hn M (by omega)).2 (.inr ⟨hp,by omega,by omega⟩))]
           exact lo_end (fun j h1 h3=>by rw [neg j (by omega) (by rw [hn j h3];omega)];decide) _
         · have hM:M=m:=by rw [hN,if_neg (by simp only [hp,Bool.true_and,decide_eq_true_eq];exact h2)]
           subst hM
           rw [if_neg (by simp only;omega),lo_run hle (M-1) 1 _ none (by omega) (by omega) (fun j h1 h3=>by rw [pos j h1 (by omega) ((hn j (by omega)).2 (.inl ⟨h1,h3⟩))];simp)]
           rw [pos M (by omega) (by omega) ((hn M (by omega)).2 (.inl ⟨by omega,Nat.le_refl _⟩))]
           exact lo_end (fun j h1 h3=>by rw [neg j (by omega) (by rw [hn j h3];omega)];decide) _
       · have hM:M=m:=by rw [hN,if_neg (by simp [hp])]
         subst hM
         rw [if_neg (by simp only;omega),lo_run hle (M-1) 1 _ none (by omega) (by omega) (fun j h1 h3=>by rw [pos j h1 (by omega) ((hn j (by omega)).2 (.inl ⟨h1,h3⟩))];simp)]
         rw [pos M (by omega) (by omega) ((hn M (by omega)).2 (.inl ⟨by omega,Nat.le_refl _⟩))]
         exact lo_end (fun j h1 h3=>by rw [neg j (by omega) (by rw [hn j h3];exact fun h=>h.elim (fun h=>by omega) (fun h=>hp h.1))];decide) _
     · have hd':isDig b=false:=by simpa using hd
       by_cases h34:((b.toNat:Int) == 34)=true
       · rw [if_pos h34]
         have ho:oneF (b :: r) 0=(⟨3,(textF r [] 1).1,0⟩,(textF r [] 1).2):=by (simp [oneF,hl',hd',h34]<;>rfl)
         rw [ho,text_quo r.length r [] 1 (Nat.le_refl _) (by omega)]
         have hsg:isSign b=true:=by rw [isSign_iff];rw [beq_iff_eq] at h34;omega
         have hgt:=quoR_gt r.length r [] 1 (Nat.le_refl _)
         generalize quoR r [] 1=q at *
         by_cases h0:0 < q.2
         · have ht:((b :: r).take q.2).all isSign=(r.take (q.2-1)).all isSign:=by
            obtain ⟨i,hi⟩:∃ i,q.2=i+1:=⟨q.2-1,by omega⟩
            rw [hi,List.take_succ_cons,List.all_cons,hsg]
            rfl
           rw [ht]
           by_cases ha:(r.take (q.2-1)).all isSign=true
           · have e:(if 0 < q.2∧(r.take (q.2-1)).all isSign=true then q else ([],0))=q:=if_pos ⟨h0,ha⟩
             rw [e,if_pos ⟨h0,ha⟩,if_neg (by simp only;omega)]
           · have e:(if 0 < q.2∧(r.take (q.2-1)).all isSign=true then q else ([],0))=([],0):=if_neg (fun h=>ha h.2)
             rw [e,if_neg (fun h=>ha h.2)]
             rfl
         · have e:(if 0 < q.2∧(r.take (q.2-1)).all isSign=true then q else ([],0))=([],0):=if_neg (fun h=>h0 h.1)
           rw [e,if_neg (fun h=>h0 h.1)]
           rfl
       · rw [if_neg h34]
         have h34':((b.toNat:Int) == 34)=false:=by simpa using h34
         have ho:oneF (b :: r) 0=(⟨4,(b :: r).take (signF (b :: r)),0⟩,signF (b :: r)):=by (simp [oneF,hl',hd',h34']<;>rfl)
         rw [ho]
         have hk:=fun j (h1:1≤j)=>kind_sig (r:=r) (j:=j) hl' hd' h1
         have hk3:∀ j,2 < j→j≤(b :: r).length→¬ 0 < (kindR ((b :: r).take j)).1:=by
          intro j h1 h2
          have:¬ (b :: r).take j∈signsR:=by
           intro hm
           have:=signs_len _ hm
           rw [List.length_take] at this
           omega
          rw [hk j (by omega),if_neg this]
          decide
         have hk1:¬ hasB sigs2 b=true→¬ 0 < (kindR ((b :: r).take 1)).1:=by
          intro h
          have e:(b :: r).take 1=[b]:=by simp
          rw [hk 1 (by omega),e,if_neg (fun q=>h ((sigs_one b).1 q))]
          decide
         have hk1':hasB sigs2 b=true→kindR ((b :: r).take 1)=(4,[b]):=by
          intro h
          have e:(b :: r).take 1=[b]:=by simp
          rw [hk 1 (by omega),e,if_pos ((sigs_one b).2 h)]
         cases r with
         | nil =>
           have hs:signF [b]=if hasB sigs2 b=true then 1 else 0:=by simp only [signF,List.getElem?_nil,Option.any_none];simp
           rw [hs]
           by_cases h2:hasB sigs2 b=true
           · rw [if_pos h2,if_neg (by simp)]
             have e1:([b]:List UInt8).length=1:=rfl
             rw [e1,lo_run (m:=1) (by simp) 0 1 1 none rfl (by omega) (fun j h1 h3=>by
              obtain rfl:j=1:=by omega
              rw [hk1' h2];simp),hk1' h2]
             exact lo_end (fun j h1 h3=>by simp at h3;omega) _
           · rw [if_neg h2,if_pos rfl]
             exact lo_none (fun j h1 h3=>by
              obtain rfl:j=1:=by simp at h3;omega
              exact hk1 h2) _ _ (Nat.le_refl _)
         | cons e r =>
           have t2:(b :: e :: r).take 2=[b,e]:=by simp
           have hs:signF (b :: e :: r)=if ((e.toNat:Int) == 61 && hasB sigs1 b)=true then 2 else if hasB sigs2 b=true then 1 else 0:=by simp only [signF,List.getElem?_cons_zero,Option.any_some]
           rw [hs]
           by_cases h2:((e.toNat:Int) == 61 && hasB sigs1 b)=true
           · rw [if_pos h2,if_neg (by simp)]
             have k2:kindR ((b :: e :: r).take 2)=(4,[b,e]):=by rw [hk 2 (by omega),t2,if_pos ((sigs_two b e).2 h2)]
             have e1:(b :: e :: r).length=r.length+1+1:=rfl
             rw [e1,loR,if_pos (by simp)]
             have hb1:¬ brk 1 (upR (b :: e :: r) 1 none)=true:=by unfold upR;split<;>simp [brk]
             rw [if_neg hb1,lo_run (m:=2) (by simp) 0 2 (r.length+1) _ rfl (by omega) (fun j h1 h3=>by
              obtain rfl:j=2:=by omega
              rw [k2];simp),k2]
             exact lo_end (fun j h1 h3=>hk3 j h1 h3) _
           · have k2:¬ 0 < (kindR ((b :: e :: r).take 2)).1:=by
              rw [hk 2 (by omega),t2,if_neg (fun q=>h2 ((sigs_two b e).1 q))]
              decide
             rw [if_neg h2]
             have hk2:∀ j,1 < j→j≤(b :: e :: r).length→¬ 0 < (kindR ((b :: e :: r).take j)).1:=fun j h1 h3=>by
              by_cases hj:j=2
              · rw [hj];exact k2
              · exact hk3 j (by omega) h3
             by_cases h3:hasB sigs2 b=true
             · rw [if_pos h3,if_neg (by simp),lo_run (m:=1) (by simp) 0 1 _ none rfl (by simp) (fun j h1 h4=>by
                obtain rfl:j=1:=by omega
                rw [hk1' h3];simp),hk1' h3]
               exact lo_end hk2 _
             · rw [if_neg h3,if_pos rfl]
               exact lo_none (fun j h1 h4=>by
                by_cases hj:j=1
                · rw [hj];exact hk1 h3
                · exact hk2 j (by omega) h4) _ _ (Nat.le_refl _)
end Go.Vi
namespace Go.Vi
open Go Go.Proofs
theorem skip_fuel:∀ (f:Nat) (s:List UInt8),s.length≤f→skipF f s=skipF s.length s:=by
 intro f
 induction f using Nat.strongRecOn with
 | ind f ih =>
   intro s hs
   cases s with
   | nil=>cases f<;>rfl
   | cons b r =>
     obtain ⟨f,rfl⟩:∃ g,f=g+1:=⟨f-1,by simp at hs;omega⟩
     have hr:r.length≤f:=by simpa using hs
     simp only [List.length_cons,skipF]
     split
     · rw [ih f (by omega) r hr]
     · split
       · rename_i hb
         have h10:notNl b=true:=by simp only [beq_iff_eq] at hb;simp [notNl,hb]
         have h0:0 < runF notNl (b :: r):=by simp [runF,h10]
         have hl:((b :: r).drop (runF notNl (b :: r))).length≤r.length:=by simp;omega
         by_cases hf:f=r.length
         · rw [hf]
         · have e1:=ih f (by omega) ((b :: r).drop (runF notNl (b :: r))) (by omega)
           rw [e1]
           by_cases hlt:r.length < f+1
           · rw [ih r.length (by omega) _ hl]
           · omega
       · rfl
def skp (s:List UInt8):Nat:=skipF s.length s
theorem skp_nil:skp []=0:=rfl
theorem skp_cons (b:UInt8) (r:List UInt8):skp (b :: r)=if hasB blanks b=true then 1+skp r else if ((b.toNat:Int) == 35)=true then runF notNl (b :: r)+skp ((b :: r).drop (runF notNl (b :: r))) else 0:=by
 unfold skp
 simp only [List.length_cons,skipF]
 split
 · rfl
 · split
   · rename_i hb
     have h10:notNl b=true:=by simp only [beq_iff_eq] at hb;simp [notNl,hb]
     have h0:0 < runF notNl (b :: r):=by simp [runF,h10]
     rw [skip_fuel r.length _ (by simp;omega)]
   · rfl
theorem skipN_eq (l:List UInt8) (a:Nat):skipN l a=a+skp (l.drop a):=by unfold skipN skp;rw [List.length_drop]
inductive Lx (l:List UInt8):Nat→List Tok→Prop
 | nil (a:Nat):l.length≤a→Lx l a []
 | cons (a:Nat) (T:List Tok):a < l.length→(oneF (l.drop a) a).2≠0→Lx l (skipN l (a+(oneF (l.drop a) a).2)) T→Lx l a ((oneF (l.drop a) a).1 :: T)
theorem Lx.run {l:List UInt8} {a:Nat} {T:List Tok} (h:Lx l a T):∀ f,l.length < f+a→lexF l f a=(T,none):=by
 induction h with
 | nil a h =>
   intro f hf
   cases f with
   | zero=>rfl
   | succ f=>unfold lexF;rw [if_neg (by omega)]
 | cons a T h h0 _ ih =>
   intro f hf
   cases f with
   | zero=>omega
   | succ f =>
     unfold lexF
     have:=skipN_ge l (a+(oneF (l.drop a) a).2)
     rw [if_pos h,if_neg h0,ih f (by omega)]
theorem allTok_of {l:List UInt8} {T:List Tok} (hl:l.length≤4096) (h:Lx l (skipN l 0) T):allTok l=(T,0,0):=by
 unfold allTok
 rw [if_neg (by omega),h.run (l.length+1) (by omega)]
def kt (t:Tok):Int × List UInt8:=(t.kind,t.text)
theorem Lx.tok {l:List UInt8} {a n:Nat} {t:Tok} {T:List Tok} (ha:a < l.length) (ho:oneF (l.drop a) a=(t,n)) (h0:n≠0) (h:Lx l (skipN l (a+n)) T):Lx l a (t :: T):=by
 have:=Lx.cons (l:=l) a T ha (by rw [ho];exact h0) (by rw [ho];exact h)
 rw [ho] at this
 exact this
end Go.Vi
namespace Go.Vi
open Go Go.Proofs Go.Proofs.Tryz
theorem Gro.pushB {P:Program} {K0 X:AHeap} {lo z by_:Nat} {T Ts:TypeId} {v x:Value} {cl:List (List Value)} {c:List Value} (h:Gro K0 lo z T v cl) (hT:aElem P Ts=some (T,z,by_)) (hsq:isSeq P Ts=true) (hc:c.length=z) (hlo:lo≤K0.length)
  (hx:aSrc (K0++X) z x=some (1,c)) (hb:(cl.length+1)*by_≤140737488355328) (hn:cl.length+1≤9223372036854775807) :
  ∃ v' K',aBuiltin P (K0++X) .append #[Ts,Ts] [v,x]=some (v',K')∧Gro K' lo z T v' (cl++[c])∧(∀ H,Pre H (K0++X)→H.length≤lo→Pre H K')∧(∀ (b:Nat) o,K0.length≤b→(K0++X)[b]?=some o→K'[b]?=some o):=by
 have h':=h.app (X:=X)
 obtain ⟨v',K',h1,h2,h3,h4,h5⟩:=h'.push hT hsq hc (by simp;omega) hx hb hn
 refine ⟨v',K',h1,h2,h5,fun b o hbo ho=>?_⟩
 cases h with
 | nil =>
   have hb':by_≤140737488355328:=by simpa using hb
   simp [aBuiltin,aAppend,hT,hx,hsq,hb',hc] at h1
   rw [← h1.2,← List.append_assoc];exact get_more ho
 | mk bb cl g1 g2 g3 g4 =>
   have hfl:=flat_len g4
   have hlt:=(List.getElem?_eq_some_iff.1 g2).1
   have g2':(K0++X)[bb]?=some (.cells cl.flatten T):=get_more g2
   have e2:¬ cl.length+1≤cl.length:=by omega
   simp only [aBuiltin,aAppend,hT,hx,hsq,if_true,g2',hfl,Nat.zero_add,Nat.le_refl,and_self,e2,if_false,hb,hn,Option.some.injEq,Prod.mk.injEq] at h1
   rw [← h1.2,List.getElem?_set_ne (by omega)]
   exact ho
theorem one_at (s:List UInt8) (a:Nat):oneF s a=(⟨(oneF s 0).1.kind,(oneF s 0).1.text,a⟩,(oneF s 0).2):=by
 cases s with
 | nil=>rfl
 | cons b r=>unfold oneF;simp only;split<;>(try split)<;>(try split)<;>rfl
theorem one_kind (s:List UInt8):(oneF s 0).2≠0→((oneF s 0).1.kind == 0)=false:=by
 cases s with
 | nil=>intro h;exact absurd rfl h
 | cons b r=>intro _;unfold oneF;simp only;split<;>(try split)<;>(try split)<;>rfl
abbrev RTk:=Tok × Int
def rt (p:RTk):List Value:=p.1.cells++[i64 p.2]
theorem rtel1:aElem prog 80=some (122,4,40):=by kernel_rfl
theorem rtel2:isSeq prog 80=true:=by kernel_rfl
theorem hash_loop {s:List UInt8} {k:Value→AHeap→Prop} {K:AHeap} {n0:Nat} {v:Value} (hs:s.length < 2 ^ 60) (a':Nat) (hk:∀ (Y Z s3 s4 s7 s8 s9 c d e f g h i j l m n o p q t u w x y z A B C D E F G H I J L M N O Q R S U V W X:Value),L60x0 n0 k [str s,Y,Z,s3,s4,v,i64 a',s7,s8,s9,c,d,e,f,g,h,i,j,l,m,n,o,p,q,t,u,w,x,y,z,A,B,C,D,E,F,G,H,I,J,L,M,N,O,Q,R,S,U,V,W,X] K) :
  ∀ (r:List UInt8) (a:Nat) (Y Z s3 s4 s7 s8 s9 c d e f g h i j l m n o p q t u w x y z A B C D E F G H I J L M N O Q R S U V W X:Value),s.drop a=r→a≤s.length→a'=a+runF notNl r→L60x1 (r.length+1) n0 k [str s,Y,Z,s3,s4,v,i64 a,s7,s8,s9,c,d,e,f,g,h,i,j,l,m,n,o,p,q,t,u,w,x,y,z,A,B,C,D,E,F,G,H,I,J,L,M,N,O,Q,R,S,U,V,W,X] K:=by
 intro r
 induction r with
 | nil =>
   intro a Y Z s3 s4 s7 s8 s9 c d e f g h i j l m n o p q t u w x y z A B C D E F G H I J L M N O Q R S U V W X hd ha he
   have hle:s.length≤a:=by simpa using hd
   have:¬ a < s.length:=by omega
   rw [List.length_nil,L60x1q]
   have e0:a'=a:=by rw [he];rfl
   subst e0
   simp [this]
   exact hk _ _ _ _ _ _ _ _ _ _ _ _ _ _ _ _ _ _ _ _ _ _ _ _ _ _ _ _ _ _ _ _ _ _ _ _ _ _ _ _ _ _ _ _ _ _ _ _
 | cons b r ih =>
   intro a Y Z s3 s4 s7 s8 s9 c d e f g h i j l m n o p q t u w x y z A B C D E F G H I J L M N O Q R S U V W X hd ha he
   have hb:s[a]?=some b:=by rw [← List.head?_drop,hd];rfl
   have hlt:a < s.length:=(List.getElem?_eq_some_iff.1 hb).1
   have hix:=aIndex_at (P:=prog) (T:=9) (k:=.i64) (by simp) hb
   have hdr:s.drop (a+1)=r:=by rw [← List.drop_drop,hd];rfl
   rw [List.length_cons,L60x1q]
   rw [runF_cons] at he
   by_cases h10:((b.toNat:Int) != 10)=true
   · rw [if_pos (by exact h10)] at he
     simp [hlt,hix,h10,show a+1 < 2 ^ 63 by omega]
     exact ih (a+1) _ _ _ _ _ _ _ _ _ _ _ _ _ _ _ _ _ _ _ _ _ _ _ _ _ _ _ _ _ _ _ _ _ _ _ _ _ _ _ _ _ _ _ _ _ _ _ _ hdr hlt (by omega)
   · have h10':((b.toNat:Int) != 10)=false:=by simpa using h10
     rw [if_neg (by exact h10)] at he
     have e0:a'=a:=by omega
     subst e0
     simp [hlt,hix,h10']
     exact hk _ _ _ _ _ _ _ _ _ _ _ _ _ _ _ _ _ _ _ _ _ _ _ _ _ _ _ _ _ _ _ _ _ _ _ _ _ _ _ _ _ _ _ _ _ _ _ _
set_option maxRecDepth 20000 in
set_option maxHeartbeats 1600000 in
theorem rAll_loop {H:AHeap} {s:List UInt8} {k:Value→AHeap→Prop} (hs:s.length≤4096) :
  ∀ (n a f : Nat) (acc : List RTk) (v : Value) (K : AHeap) (s1 s2 s3 s4 s7 s8 s9 d h i j l m o q r u w y z A B C D E F G I J L M N O R S U V W Y Z aa ab ac ad ae af ag ah : Value), s.length - a < n → a ≤ s.length → s.length < f + a → acc.length ≤ a → Pre H K → Gro K H.length 4 122 v (acc.map rt) →
    ((lexF s f (skipN s a)).2=none→∀ K v (T:List RTk),Pre H K→Gro K H.length 4 122 v (T.map rt)→T.map Prod.fst=acc.map Prod.fst++(lexF s f (skipN s a)).1→k (.tuple #[v,i64 0,i64 0]) K) →
    (∀ p,(lexF s f (skipN s a)).2=some p→∀ K,Pre H K→k (.tuple #[.slice none 0 0,i64 p,i64 90]) K) →
    L60x0 n k [str s,s1,s2,s3,s4,v,i64 a,s7,s8,s9,d,h,i,j,l,m,o,q,r,u,w,y,z,A,B,C,D,E,F,G,I,J,L,M,N,O,R,S,U,V,W,Y,Z,aa,ab,ac,ad,ae,af,ag,ah] K:=by
 intro n
 induction n with
 | zero=>intro a f acc v K s1 s2 s3 s4 s7 s8 s9 d h i j l m o q r u w y z A B C D E F G I J L M N O R S U V W Y Z aa ab ac ad ae af ag ah hn;omega
 | succ n ih =>
   intro a f acc v K s1 s2 s3 s4 s7 s8 s9 d h i j l m o q r u w y z A B C D E F G I J L M N O R S U V W Y Z aa ab ac ad ae af ag ah hn ha hf hac hp hg h1 h2
   rw [L60x0q]
   by_cases hlt:a < s.length
   · obtain ⟨b,hb⟩:∃ b,s[a]?=some b:=⟨_,List.getElem?_eq_getElem hlt⟩
     have hd:s.drop a=b :: s.drop (a+1):=by
      rw [List.drop_eq_getElem_cons hlt]
      rw [List.getElem?_eq_getElem hlt] at hb
      cases hb
      rfl
     have hix:=aIndex_at (P:=prog) (T:=9) (k:=.i64) (by simp) hb
     have hsk:skipN s a=a+skp (b :: s.drop (a+1)):=by rw [skipN_eq,hd]
     have ha63:a+1 < 2 ^ 63:=by omega
     simp [hlt,hix]
     refine bndC_of (r_blank K b) ?_
     rw [skp_cons] at hsk
     cases hbl:hasB blanks b with
     | true =>
       rw [if_pos hbl] at hsk
       have e:skipN s a=skipN s (a+1):=by rw [hsk,skipN_eq];omega
       rw [e] at h1 h2
       simp [ha63]
       exact ih (a+1) f acc v K _ _ _ _ _ _ _ _ _ _ _ _ _ _ _ _ _ _ _ _ _ _ _ _ _ _ _ _ _ _ _ _ _ _ _ _ _ _ _ _ _ _ _ _ _ _ _ _ (by omega) (by omega) (by omega) (by omega) hp hg h1 h2
     | false =>
       rw [if_neg (by simp [hbl])] at hsk
       by_cases h35:((b.toNat:Int) == 35)=true
       · rw [if_pos h35] at hsk
         have hb10:notNl b=true:=by rw [beq_iff_eq] at h35;simp [notNl,h35]
         have hr1:runF notNl (b :: s.drop (a+1))=runF notNl (s.drop (a+1))+1:=by rw [runF_cons,if_pos hb10]
         have hrl:=runF_le notNl (b :: s.drop (a+1))
         rw [← hd,List.length_drop] at hrl
         have e:skipN s a=skipN s (a+runF notNl (s.drop a)):=by rw [hsk,skipN_eq s (a+runF notNl (s.drop a)),← hd,List.drop_drop];omega
         rw [e] at h1 h2
         simp [h35,hix]
         have hdl:(s.drop a).length=s.length-a:=List.length_drop
         refine ⟨(s.drop a).length+1,hash_loop (s:=s) (v:=v) (K:=K) (by omega) (a+runF notNl (s.drop a)) ?_ (s.drop a) a _ _ _ _ _ _ _ _ _ _ _ _ _ _ _ _ _ _ _ _ _ _ _ _ _ _ _ _ _ _ _ _ _ _ _ _ _ _ _ _ _ _ _ _ _ _ _ _ rfl (by omega) rfl⟩
         rw [← hd] at hr1
         intro s1 s2 s3 s4 s7 s8 s9 d h i j l m o q r u w y z A B C D E F G I J L M N O R S U V W Y Z aa ab ac ad ae af ag ah
         exact ih (a+runF notNl (s.drop a)) f acc v K _ _ _ _ _ _ _ _ _ _ _ _ _ _ _ _ _ _ _ _ _ _ _ _ _ _ _ _ _ _ _ _ _ _ _ _ _ _ _ _ _ _ _ _ _ _ _ _ (by omega) (by omega) (by omega) (by omega) hp hg h1 h2
       · have h35':((b.toNat:Int) == 35)=false:=by simpa using h35
         rw [if_neg h35,Nat.add_zero] at hsk
         rw [hsk] at h1 h2
         obtain ⟨f,rfl⟩:∃ g,f=g+1:=⟨f-1,by omega⟩
         rw [lexF,if_pos hlt,one_at] at h1 h2
         have hlo:=long_one (t:=s.drop a) (by rw [hd];simp)
         have hole:=oneF_le (s.drop a) 0
         rw [List.length_drop] at hole
         simp [h35',hix]
         refine bndC_of (r_longest K (by omega) hlt) ?_
         rw [hlo]
         have hqk:=one_kind (s.drop a)
         generalize oneF (s.drop a) 0=Q at *
         obtain ⟨⟨qk,qx,qa⟩,qn⟩:=Q
         simp only at h1 h2 hole hqk ⊢
         have hKl:H.length≤K.length:=by obtain ⟨X,rfl⟩:=hp;simp
         by_cases hq0:qn=0
         · rw [if_pos hq0] at h1 h2 ⊢
           simp [rcl]
           exact h2 a rfl _ (hp.more _)
         · rw [if_neg hq0] at h1 h2 ⊢
           have hqk:=hqk hq0
           simp [rcl,hqk]
           have hlit:=sliceLitA (c:=rt (⟨qk,qx,a⟩,(a:Int)+qn)) (tbs80 (K++[.cells (rt (⟨qk,qx,a⟩,(a:Int)+qn)) 122]) 1 _) (by rfl) (by simp [rt,Tok.cells]) (by simp)
           refine bndL_lit hlit ?_
           obtain ⟨v',K',b1,b2,b3,b4⟩:=hg.pushB (P:=prog) (X:=[.cells (rt (⟨qk,qx,a⟩,(a:Int)+qn)) 122]++[.cells (rt (⟨qk,qx,a⟩,(a:Int)+qn)) 122]) (Ts:=80) (by_:=40) (x:=.slice (some ⟨K.length+1,0,some 4⟩) 1 1) (c:=rt (⟨qk,qx,a⟩,(a:Int)+qn)) rtel1 rtel2 rfl hKl (by simp [aSrc,rt,Tok.cells]) (by simp;omega) (by simp;omega)
           have hb5:=b4 K.length (.cells (rt (⟨qk,qx,a⟩,(a:Int)+qn)) 122) (Nat.le_refl _) (by simp)
           have hc5:hcells K' K.length=some (rt (⟨qk,qx,a⟩,(a:Int)+qn)):=by simp [hcells,hb5]
           have hl5:hlen K' K.length=some 4:=by simp [hlen,hb5,rt,Tok.cells]
           simp only [rt,Tok.cells,List.cons_append,List.nil_append] at hc5
           have b1':aBuiltin prog (K++[.cells (rt (⟨qk,qx,a⟩,(a:Int)+qn)) 122]++[.cells (rt (⟨qk,qx,a⟩,(a:Int)+qn)) 122]) .append #[80,80] [v,.slice (some ⟨(K++[AObj.cells (rt (⟨qk,qx,a⟩,(a:Int)+qn)) 122]).length,0,some (rt (⟨qk,qx,a⟩,(a:Int)+qn)).length⟩) 1 1]=some (v',K'):=by
            rw [← b1];simp [rt,Tok.cells]
           dsimp only
           rw [b1']
           simp [hc5,hl5]
           have eq:(a:Int)+qn=((a+qn:Nat):Int):=by omega
           rw [eq] at b2 ⊢
           refine ih (a+qn) f (acc++[(⟨qk,qx,a⟩,((a+qn:Nat):Int))]) v' K' _ _ _ _ _ _ _ _ _ _ _ _ _ _ _ _ _ _ _ _ _ _ _ _ _ _ _ _ _ _ _ _ _ _ _ _ _ _ _ _ _ _ _ _ _ _ _ _ (by omega) (by omega) (by omega) (by simp;omega) (b3 H (hp.more _) (Nat.le_refl _)) (by simpa using b2) ?_ ?_
           · intro h0 K3 v3 T g1 g2 g3
             exact h1 h0 K3 v3 T g1 g2 (by rw [g3];simp)
           · intro p hp0 K3 g1
             exact h2 p hp0 K3 g1
   · have hsk:skipN s a=s.length:=by
      rw [skipN_eq,List.drop_eq_nil_of_le (by omega),skp_nil];omega
     have hl0:lexF s f (skipN s a)=([],none):=by
      rw [hsk]
      cases f with
      | zero=>rfl
      | succ f=>rw [lexF,if_neg (by omega)]
     simp [hlt]
     refine h1 (by rw [hl0]) K v acc hp hg (by rw [hl0];simp)
def AllP (H:AHeap) (s:List UInt8) (u:Value) (K:AHeap):Prop:=∃ v,∃ T:List RTk,u=.tuple #[v,i64 (allTok s).2.1,i64 (allTok s).2.2]∧Pre H K∧Gro K H.length 4 122 v (T.map rt)∧T.map Prod.fst=(allTok s).1
theorem r_all (H:AHeap) (s:List UInt8):∃ v K,∃ T:List RTk,ACalls prog 60 [str s] H (.tuple #[v,i64 (allTok s).2.1,i64 (allTok s).2.2]) K∧Pre H K∧Gro K H.length 4 122 v (T.map rt)∧T.map Prod.fst=(allTok s).1:=by
 have key:∃ u K,AllP H s u K∧ACalls prog 60 [str s] H u K:=by
  refine acalls_ex MixT func60 (by decide) ?_
  rw [d60]
  by_cases h4:4096 < s.length
  · have h4I:(4096:Int) < s.length:=by omega
    have ht:allTok s=([],0,3):=by unfold allTok;rw [if_pos h4]
    simp [h4I]
    exact ⟨.slice none 0 0,[],by rw [ht];rfl,.refl _,.nil,by rw [ht];rfl⟩
  · have h4I:¬ (4096:Int) < s.length:=by omega
    have ht:allTok s=match (lexF s (s.length+1) (skipN s 0)).2 with
     | none=>((lexF s (s.length+1) (skipN s 0)).1,0,0)
     | some a=>([],a,90):=by unfold allTok;(rw [if_neg h4]<;>rfl)
    simp [h4I]
    refine ⟨s.length+1,rAll_loop (H:=H) (by omega) (s.length+1) 0 (s.length+1) [] (.slice none 0 0) H _ _ _ _ _ _ _ _ _ _ _ _ _ _ _ _ _ _ _ _ _ _ _ _ _ _ _ _ _ _ _ _ _ _ _ _ _ _ _ _ _ _ _ _ _ _ _ _ (by omega) (by omega) (by omega) (by simp) (.refl _) .nil ?_ ?_⟩
    · intro h0 K v T g1 g2 g3
      rw [h0] at ht
      exact ⟨v,T,by rw [ht];rfl,g1,g2,by rw [ht];simpa using g3⟩
    · intro p h0 K g1
      rw [h0] at ht
      exact ⟨.slice none 0 0,[],by rw [ht],g1,.nil,by rw [ht];rfl⟩
 obtain ⟨u,K,⟨v,T,rfl,g1,g2,g3⟩,g4⟩:=key
 exact ⟨v,K,T,g4,g1,g2,g3⟩
end Go.Vi
