/- What the functions' bodies come to. What the functions' bodies come to. What the functions' bodies come to. What the functions' bodies come to. What the functions' bodies come to. What the functions' bodies come to. Labels: names, values. Conditions: nodes. What may be: rules, mutes, configurations. What may be: mutes, configurations; the greatest window. strings.Builder. One token. One token. All tokens. All tokens: the iterator, and the range over it. The reader of conditions: tokens. Numbers' texts. Reading a condition. Numbers' texts that are refused. Package variables, as the world lays them, in the abstract memory. Arguments: matchers, nodes, days, mutes, rules, configurations. Nodes as they are handed over, with their numbers. Numbers are written: how many digits there are. Nodes as they are handed over, with their numbers; the powers of ten as the world lays them. Arguments: rules, mutes, configurations. Rules, mutes, configurations as they are handed over, with their nodes' numbers. The reader of conditions, whatever it reads: tokens. The reader of conditions, whatever it reads: windows, values, matchers. The reader of conditions, whatever it reads: matchers. The reader of conditions, whatever it reads: comparisons. -/
import Derived.Test.YtioejminleceeaaGreatDoorJFingerAll2
import Derived.Test.YtioejminleceeaaGreatDoorChecked
import Derived.LaidSub
import Derived.Lay
import Derived.MakeChecks
import Derived.ChangeMaps5
namespace Go.Vi
open Go Go.Proofs Go.Proofs.Tryz
-- (*strings.Builder).Grow
def S27x0 (k:Value→AHeap→Prop) (sl:List Value) (H:AHeap):Prop:=kseq prog (cr (cr (cb Tryz.f27))) (kfin prog Tryz.f27 k) .normal sl H
theorem d27 (a0 a1:Value) (H:AHeap) (k:Value→AHeap→Prop):kbody prog Tryz.f27 [a0,a1] H k=(@bndC prog 45 [a0] H ⟨fun v5x1 H2=>@bnd (aBin2 prog H2 .lss 3 (.tmp 6) (.const (.int .i64 0)) a1 (.int .i64
 0)) ⟨fun v7x3=>@kifB v7x3 ⟨@bndE (none) ⟨fun _ H5=>S27x0  k [a0,a1,undef,undef,a0,v5x1,a1,v7x3,(.iface 9 (.string { data:=#[115,116,114,105,110,103,115,46,66,117,105,108,100,101,114,46,71,114,
 111,119,58,32,110,101,103,97,116,105,118,101,32,99,111,117,110,116] })),undef,undef,undef,undef,undef,undef,undef,undef,undef,undef,undef,undef,undef,undef,undef,undef] H5⟩⟩ ⟨S27x0  k [a0,a1,
 undef,undef,a0,v5x1,a1,v7x3,undef,undef,undef,undef,undef,undef,undef,undef,undef,undef,undef,undef,undef,undef,undef,undef,undef] H2⟩⟩⟩):=by kernel_rfl
theorem S27x0q (h m C D E F G I J K n o p q r s t u v w x y z A B:Value) (H:AHeap) (k:Value→AHeap→Prop):S27x0 k [h,m,C,D,E,F,G,I,J,K,n,o,p,q,r,
 s,t,u,v,w,x,y,z,A,B] H=(@bnd (nilV h) ⟨fun i=>@bnd (aFieldAddr prog H 65 i 1) ⟨fun j=>@bnd (aLoad prog H 45 j) ⟨fun l=>@bndD false H ⟨fun a H10=>aBuiltin
 prog H Builtin.cap #[45] [l]=some (a,H10)⟩ ⟨fun a H10=>@bnd (nilV h) ⟨fun b=>@bnd (aFieldAddr prog H 65 b 1) ⟨fun c=>@bnd (aLoad prog H 45 c) ⟨fun d=>@bnd (aLen
 prog H 45 d) ⟨fun e=>@bnd (aBin2 prog H10 .sub 3 (.tmp 13) (.tmp 18) a e) ⟨fun f=>@bnd (aBin2 prog H10 .lss 3 (.tmp 19) (.tmp 20) f m) ⟨fun g=>@kifB g ⟨@bndC
 prog 46 [h,m] H10 ⟨fun _ H18=>k (.tuple #[]) H18⟩⟩ ⟨k (.tuple #[]) H10⟩⟩⟩⟩⟩⟩⟩⟩⟩⟩⟩):=by kernel_rfl
-- (*strings.Builder).WriteString
theorem d28 (a0 a1:Value) (H:AHeap) (k:Value→AHeap→Prop):kbody prog Tryz.f28 [a0,a1] H k=(@bndC prog 45 [a0] H ⟨fun _ H2=>@bnd (nilV a0) ⟨fun b=>@bnd (aFieldAddr prog H2 65 b 1) ⟨fun
 c=>@bnd (aLoad prog H2 45 c) ⟨fun d=>@bndE (aBuiltin prog H2 Builtin.append #[45,9] [d,a1]) ⟨fun e H7=>@bnd (nilV a0) ⟨fun f=>@bnd (aFieldAddr prog H7 65 f 1) ⟨fun g =>
 @bndS (aStore prog H7 45 g e) ⟨fun _ H11=>@bnd (aLen prog H11 9 a1) ⟨fun a=>k (.tuple #[a,.nilIface]) H11⟩⟩⟩⟩⟩⟩⟩⟩⟩):=by kernel_rfl
-- (*strings.Builder).String
theorem d29 (a0:Value) (H:AHeap) (k:Value→AHeap→Prop):kbody prog Tryz.f29 [a0] H k=(@bnd (nilV a0) ⟨fun f=>@bnd (aFieldAddr prog H 65 f 1) ⟨fun g=>@bnd (aLoad prog H 45 g) ⟨fun h =>
 @bndD false H ⟨fun b H5=>aBuiltin prog H Builtin.unsafeSliceData #[45] [h]=some (b,H5)⟩ ⟨fun b H5=>@bnd (nilV a0) ⟨fun i=>@bnd (aFieldAddr prog H 65 i 1) ⟨fun c=>@bnd (aLoad prog
 H 45 c) ⟨fun d=>@bnd (aLen prog H 45 d) ⟨fun e=>@bndD true H5 ⟨fun a H11=>aBuiltin prog H5 Builtin.unsafeString #[85,3] [b,e]=some (a,H11)⟩ ⟨fun a H11=>k a
 H11⟩⟩⟩⟩⟩⟩⟩⟩⟩):=by kernel_rfl
-- internal/strconv.Itoa
theorem d30 (a0:Value) (H:AHeap) (k:Value→AHeap→Prop):kbody prog Tryz.f30 [a0] H k=(@bndC prog 47 [a0,(.int .i64 10)] H ⟨fun v4x1 H2=>k v4x1 H2⟩):=by kernel_rfl
-- tocsin/expr.Right
theorem d31 (a0:Value) (H:AHeap) (k:Value→AHeap→Prop):kbody prog Tryz.f31 [a0] H k=(@bnd (aLen prog H 32 a0) ⟨fun j=>@bnd (aBin2 prog H .geq 3 (.tmp 4) (.const (.int .i64 1)) j (.int .i64 1))
 ⟨fun c=>@bnd (gif c true ((some a0)) undef) ⟨fun l=>@bnd (gif c true (aLen prog H 32 l) undef) ⟨fun m=>@bnd (gif c true (aBin2 prog H .leq 3 (.tmp 8) (.const (.int .i64 31)) m (.int .i64
 31)) undef) ⟨fun n=>@bnd (pickV c n (.bool false)) ⟨fun a=>@bnd (gif a true ((some a0)) undef) ⟨fun g=>@bnd (gif a true ((some a0)) undef) ⟨fun h=>@bnd (gif a true (aLen prog H 32
 h) undef) ⟨fun i=>@bnd (gif a true (aBin2 prog H .sub 3 (.tmp 14) (.const (.int .i64 1)) i (.int .i64 1)) undef) ⟨fun d=>@bndG a true H ⟨fun b H12=>ACalls prog 48 [g,d] H
 b H12⟩ ⟨fun b H12=>@bnd (gif a true (aBin2 prog H12 .eql 3 (.tmp 16) (.const (.int .i64 0)) b (.int .i64 0)) undef) ⟨fun e=>@bnd (pickV a e (.bool false)) ⟨fun f=>k f
 H12⟩⟩⟩⟩⟩⟩⟩⟩⟩⟩⟩⟩⟩):=by kernel_rfl
-- slices.Clone[[]tocsin/api.Node,tocsin/api.Node]
theorem d32 (a0:Value) (H:AHeap) (k:Value→AHeap→Prop):kbody prog Tryz.f32 [a0] H k=(@bnd (aBin2 prog H .eql 32 (.tmp 3) (.const (.slice none 0 0)) a0 (.slice none 0 0)) ⟨fun v4x1=>@kifB v4x1 ⟨k (.slice
 none 0 0) H⟩ ⟨@bndL prog H 32 0 [] ⟨fun v5x2 H3=>@bndE (aBuiltin prog H3 Builtin.append #[32,32] [v5x2,a0]) ⟨fun v7x4 H5=>k v7x4 H5⟩⟩⟩⟩):=by kernel_rfl
-- tocsin/expr.text
def S33x0 (k:Value→AHeap→Prop) (sl:List Value) (H:AHeap):Prop:=kseq prog (cr (cr (cr (cr (cb Tryz.f33))))) (kfin prog Tryz.f33 k) .normal sl H
theorem d33 (a0 a1 a2:Value) (H:AHeap) (k:Value→AHeap→Prop):kbody prog Tryz.f33 [a0,a1,a2] H k=(@bnd (aIndexAddr prog H 32 a0 a1) ⟨fun g=>@bnd (aLoad prog H 54 g) ⟨fun h=>@bndE
 (aAlloc prog H 54) ⟨fun a H4=>@bndS (aStore prog H4 54 a h) ⟨fun _ H6=>@bnd (aFieldAddr prog H6 54 a 0) ⟨fun i=>@bnd (aLoad prog H6 5 i) ⟨fun d=>@bnd (aBin2 prog H6 .eql
 5 (.tmp 14) (.const (.int .u8 0)) d (.int .u8 0)) ⟨fun b=>@kifB b ⟨@bndD false H6 ⟨fun j H11=>ACalls prog 49 [] H6 j H11⟩ ⟨fun j H11=>@bnd (aFieldAddr prog H6 54 a 1) ⟨fun t =>
 @bnd (aLoad prog H6 5 t) ⟨fun u=>@bnd (aIndexAddr prog H11 33 j u) ⟨fun v=>@bnd (aLoad prog H11 9 v) ⟨fun w=>@bnd (aBin2 prog H11 .add 9 (.tmp 21) (.const (.string {
 data:=#[40] })) w (.string { data:=#[40] })) ⟨fun x=>@bnd (aFieldAddr prog H6 54 a 2) ⟨fun y=>@bnd (aLoad prog H6 52 y) ⟨fun z=>@bndD false H11 ⟨fun l H20=>ACalls prog
 50 [z] H11 l H20⟩ ⟨fun l H20=>@bnd (aBin2 prog H20 .add 9 (.tmp 22) (.tmp 25) x l) ⟨fun A=>@bnd (aBin2 prog H20 .add 9 (.tmp 26) (.const (.string { data:=#[91] })) A (.string {
 data:=#[91] })) ⟨fun B=>@bnd (aFieldAddr prog H6 54 a 3) ⟨fun C=>@bnd (aLoad prog H6 3 C) ⟨fun D=>@bndD false H20 ⟨fun m H26=>ACalls prog 17 [D] H20 m H26⟩ ⟨fun
 m H26=>@bnd (aBin2 prog H26 .add 9 (.tmp 27) (.tmp 30) B m) ⟨fun E=>@bnd (aBin2 prog H26 .add 9 (.tmp 31) (.const (.string { data:=#[93,41,32] })) E (.string { data:=#[93,41,32]
 })) ⟨fun F=>@bndD false H26 ⟨fun n H30=>ACalls prog 51 [] H26 n H30⟩ ⟨fun n H30=>@bnd (aFieldAddr prog H6 54 a 4) ⟨fun G=>@bnd (aLoad prog H6 5 G) ⟨fun I=>@bnd
 (aIndexAddr prog H30 33 n I) ⟨fun J=>@bnd (aLoad prog H30 9 J) ⟨fun K=>@bnd (aBin2 prog H30 .add 9 (.tmp 32) (.tmp 37) F K) ⟨fun L=>@bnd (aBin2 prog H30 .add 9
 (.tmp 38) (.const (.string { data:=#[32] })) L (.string { data:=#[32] })) ⟨fun M=>@bnd (aFieldAddr prog H6 54 a 5) ⟨fun N=>@bnd (aLoad prog H6 2 N) ⟨fun O=>@bndD false H30 ⟨fun
 o H40=>ACalls prog 52 [O] H30 o H40⟩ ⟨fun o H40=>@bnd (aBin2 prog H40 .add 9 (.tmp 39) (.tmp 42) M o) ⟨fun P=>S33x0  k [a0,a1,a2,undef,undef,undef,(.string { data:=#[]
 }),a,P,a0,a1,g,h,i,d,b,b,j,t,u,v,w,x,y,z,l,A,B,C,D,m,E,F,n,G,I,J,
 K,L,M,N,O,o,P,undef,undef,undef,undef,undef,undef,undef,undef,undef,undef,undef,undef,undef,undef,undef,undef,undef,undef,undef,undef,undef,undef,undef,undef,
 undef,undef,undef,undef,undef,undef,undef,undef,undef,undef,undef,undef,undef,undef,undef] H40⟩⟩⟩⟩⟩⟩⟩⟩⟩⟩⟩⟩⟩⟩⟩⟩⟩⟩⟩⟩⟩⟩⟩⟩⟩⟩⟩⟩ ⟨@bnd (aBin2 prog H6 .eql 5 (.tmp 14) (.const (.int .u8 3)) d (.int .u8 3)) ⟨fun
 c=>@kifB c ⟨@bnd (aFieldAddr prog H6 54 a 6) ⟨fun Q=>@bnd (aLoad prog H6 3 Q) ⟨fun R=>@bndC prog 33 [a0,R,(.int .i64 2)] H6 ⟨fun S H46=>@bnd (aBin2 prog H46
 .add 9 (.const (.string { data:=#[110,111,116,32] })) (.tmp 49) (.string { data:=#[110,111,116,32] }) S) ⟨fun T=>S33x0  k [a0,a1,a2,undef,undef,undef,(.string { data:=#[] }),a,T,a0,a1,
 g,h,i,d,b,b,undef,undef,undef,undef,undef,undef,undef,undef,undef,undef,undef,undef,undef,undef,undef,undef,undef,undef,undef,undef,undef,undef,undef,undef,undef,undef,
 undef,c,c,a0,Q,R,S,T,undef,undef,undef,undef,undef,undef,undef,undef,undef,undef,undef,undef,undef,undef,undef,undef,undef,undef,undef,undef,undef,undef,undef,undef,
 undef,undef,undef,undef,undef,undef,undef,undef] H46⟩⟩⟩⟩⟩ ⟨@bnd (aBin2 prog H6 .eql 5 (.tmp 14) (.const (.int .u8 1)) d (.int .u8 1)) ⟨fun e=>@kifB e ⟨@bnd (aFieldAddr prog H6 54 a 6) ⟨fun
 U=>@bnd (aLoad prog H6 3 U) ⟨fun V=>@bndD false H6 ⟨fun p H52=>ACalls prog 33 [a0,V,(.int .i64 1)] H6 p H52⟩ ⟨fun p H52=>@bnd (aBin2 prog H52 .add 9 (.tmp 56) (.const
 (.string { data:=#[32,97,110,100,32] })) p (.string { data:=#[32,97,110,100,32] })) ⟨fun W=>@bnd (aFieldAddr prog H6 54 a 7) ⟨fun X=>@bnd (aLoad prog H6 3 X) ⟨fun Y=>@bndD
 false H52 ⟨fun q H57=>ACalls prog 33 [a0,Y,(.int .i64 2)] H52 q H57⟩ ⟨fun q H57=>@bnd (aBin2 prog H57 .add 9 (.tmp 57) (.tmp 61) W q) ⟨fun Z=>S33x0  k [a0,a1,a2,undef,
 undef,undef,(.string { data:=#[] }),a,Z,a0,a1,g,h,i,d,b,b,undef,undef,undef,undef,undef,undef,undef,undef,undef,undef,undef,undef,undef,undef,undef,undef,undef,
 undef,undef,undef,undef,undef,undef,undef,undef,undef,undef,c,c,undef,undef,undef,undef,undef,e,e,a0,U,V,p,W,a0,X,Y,q,Z,undef,undef,
 undef,undef,undef,undef,undef,undef,undef,undef,undef,undef,undef,undef,undef,undef,undef,undef,undef,undef] H57⟩⟩⟩⟩⟩⟩⟩⟩⟩ ⟨@bnd (aBin2 prog H6 .eql 5 (.tmp 14) (.const (.int .u8 2)) d (.int .u8 2))
 ⟨fun f=>@kifB f ⟨@bnd (aFieldAddr prog H6 54 a 6) ⟨fun aa=>@bnd (aLoad prog H6 3 aa) ⟨fun ab=>@bndD false H6 ⟨fun r H63=>ACalls prog 33 [a0,ab,(.int .i64 0)] H6 r
 H63⟩ ⟨fun r H63=>@bnd (aBin2 prog H63 .add 9 (.tmp 68) (.const (.string { data:=#[32,111,114,32] })) r (.string { data:=#[32,111,114,32] })) ⟨fun ac=>@bnd (aFieldAddr prog H6 54 a 7)
 ⟨fun ad=>@bnd (aLoad prog H6 3 ad) ⟨fun ae=>@bndD false H63 ⟨fun s H68=>ACalls prog 33 [a0,ae,(.int .i64 1)] H63 s H68⟩ ⟨fun s H68=>@bnd (aBin2 prog H68 .add 9 (.tmp 69)
 (.tmp 73) ac s) ⟨fun af=>S33x0  k [a0,a1,a2,undef,undef,undef,(.string { data:=#[] }),a,af,a0,a1,g,h,i,d,b,b,undef,undef,undef,undef,undef,undef,undef,
 undef,undef,undef,undef,undef,undef,undef,undef,undef,undef,undef,undef,undef,undef,undef,undef,undef,undef,undef,undef,c,c,undef,undef,undef,undef,undef,e,e,undef,undef,undef,
 undef,undef,undef,undef,undef,undef,undef,f,f,a0,aa,ab,r,ac,a0,ad,ae,s,af,undef,undef,undef,undef,undef,undef,undef,undef] H68⟩⟩⟩⟩⟩⟩⟩⟩⟩ ⟨S33x0  k [a0,a1,
 a2,undef,undef,undef,(.string { data:=#[] }),a,(.string { data:=#[] }),a0,a1,g,h,i,d,b,b,undef,undef,undef,undef,undef,undef,undef,undef,undef,undef,undef,undef,undef,
 undef,undef,undef,undef,undef,undef,undef,undef,undef,undef,undef,undef,undef,undef,c,c,undef,undef,undef,undef,undef,e,e,undef,undef,undef,undef,undef,undef,undef,undef,undef,
 undef,f,f,undef,undef,undef,undef,undef,undef,undef,undef,undef,undef,undef,undef,undef,undef,undef,undef,undef,undef] H6⟩⟩⟩⟩⟩⟩⟩⟩⟩⟩⟩⟩⟩⟩):=by kernel_rfl
theorem S33x0q (s0 s1 g s3 s4 s5 s6 h f s9 i j l m n o p q r s t u v w x y z A B C D E F G I J K L M N O P Q R S T U V W X Y Z aa ab ac ad
 ae af ag ah ai aj ak al am an ao ap aq ar au av aw ax ay az aA aB aC aD aE aF aG:Value) (H:AHeap) (k:Value→AHeap→Prop):S33x0 k [s0,s1,g,s3,s4,s5,s6,h,f,s9,i,j,l,m,
 n,o,p,q,r,s,t,u,v,w,x,y,z,A,B,C,D,E,F,G,I,J,K,L,M,N,O,P,Q,R,S,T,U,V,W,X,Y,Z,aa,ab,ac,ad,ae,af,ag,
 ah,ai,aj,ak,al,am,an,ao,ap,aq,ar,au,av,aw,ax,ay,az,aA,aB,aC,aD,aE,aF,aG] H=(@bnd (aLoad prog H 54 h) ⟨fun a=>@bndC prog 53 [a] H ⟨fun b H72=>@bnd
 (aBin2 prog H72 .lss 3 (.tmp 76) (.tmp 77) b g) ⟨fun c=>@kifB c ⟨@bnd (aBin2 prog H72 .add 9 (.const (.string { data:=#[40] })) (.tmp 79) (.string { data:=#[40] }) f) ⟨fun d=>@bnd (aBin2
 prog H72 .add 9 (.tmp 80) (.const (.string { data:=#[41] })) d (.string { data:=#[41] })) ⟨fun e=>k e H72⟩⟩⟩ ⟨k f H72⟩⟩⟩⟩):=by kernel_rfl
end Go.Vi
namespace Go.Vi
open Go Go.Proofs Go.Proofs.Tryz
-- tocsin/crc.Of
def L34x0 (n:Nat) (k:Value→AHeap→Prop) (sl:List Value) (H:AHeap):Prop:=kit prog (cl (cl (cr (cl (cr (cr (cb Tryz.f34))))))) n (kblk 0 (kseq prog (cr (cr (cr (cb Tryz.f34)))) (kfin prog Tryz.f34 k)))
 .normal sl H
theorem d34 (a0:Value) (H:AHeap) (k:Value→AHeap→Prop):kbody prog Tryz.f34 [a0] H k=(@bndC prog 54 [] H ⟨fun v7x1 H2=>@bnd (aLen prog H2 90 a0) ⟨fun v9x3=>∃ n,L34x0 n  k [a0,undef,(.int .u32 0),
 (.int .u32 4294967295),v7x1,undef,undef,v7x1,a0,v9x3,(.int .i64 0),undef,undef,undef,undef,undef,undef,undef,undef,undef,undef] H2⟩⟩):=by kernel_rfl
theorem L34x0q (n0:Nat) (o p q h i r B s m n b t u v w x y z A j l:Value) (H:AHeap) (k:Value→AHeap→Prop):L34x0 (n0+1) k [o,p,q,h,i,r,B,s,m,n,b,t,u,v,
 w,x,y,z,A,j,l] H=(@bnd (aBin2 prog H .lss 3 (.tmp 10) (.tmp 9) b n) ⟨fun c=>@kifB c ⟨@bnd (aIndexAddr prog H 90 m b) ⟨fun d=>@bnd (aLoad prog H 45 d) ⟨fun a =>
 @bndC prog 55 [h,i,a] H ⟨fun e H8=>@bnd (aBin2 prog H8 .add 3 (.tmp 10) (.const (.int .i64 1)) b (.int .i64 1)) ⟨fun f=>L34x0 n0  k [o,p,q,e,i,r,a,s,m,n,f,c,
 d,a,h,i,a,e,f,j,l] H8⟩⟩⟩⟩⟩ ⟨@bnd (unV prog .xor h) ⟨fun g=>k g H⟩⟩⟩):=by kernel_rfl
-- tocsin/tocsinref08.Copy
theorem d36 (a0:Value) (H:AHeap) (k:Value→AHeap→Prop):kbody prog Tryz.f36 [a0] H k=(@bndE (aBuiltin prog H Builtin.append #[52,52] [(.slice none 0 0),a0]) ⟨fun v6x1 H2=>k v6x1 H2⟩):=by kernel_rfl
-- tocsin/tocsinref10.aggregate
theorem d37 (a0:Value) (H:AHeap) (k:Value→AHeap→Prop):kbody prog Tryz.f37 [a0] H k=(@bndL prog H 33 6 [(0,(.string { data:=#[99,111,117,110,116] })),(1,(.string { data:=#[115,117,109] })),(2,
 (.string { data:=#[109,105,110] })),(3,(.string { data:=#[109,97,120] })),(4,(.string { data:=#[109,101,97,110] })),(5,(.string { data:=#[108,97,115,116] }))] ⟨fun v3x1 H2=>@bnd (aIndexAddr prog
 H2 33 v3x1 a0) ⟨fun v5x3=>@bnd (aLoad prog H2 9 v5x3) ⟨fun v6x4=>k v6x4 H2⟩⟩⟩):=by kernel_rfl
-- tocsin/tocsinref08.Print
def L38x0 (n:Nat) (k:Value→AHeap→Prop) (sl:List Value) (H:AHeap):Prop:=kit prog (cl (cl (cr (cl (cr (cr (cb Tryz.f38))))))) n (kblk 0 (kseq prog (cr (cr (cr (cb Tryz.f38)))) (kfin prog Tryz.f38 k)))
 .normal sl H
def S38x0 (n0:Nat) (k:Value→AHeap→Prop) (sl:List Value) (H:AHeap):Prop:=kseq prog (cr (cl (cl (cr (cl (cl (cr (cl (cr (cr (cb Tryz.f38))))))))))) (kblk 1 (kseq prog (cr (cr (cl (cl (cr (cl (cr (cr (cb
 Tryz.f38))))))))) (kit prog (cl (cl (cr (cl (cr (cr (cb Tryz.f38))))))) n0 (kblk 0 (kseq prog (cr (cr (cr (cb Tryz.f38)))) (kfin prog Tryz.f38 k)))))) .normal sl H
theorem d38 (a0:Value) (H:AHeap) (k:Value→AHeap→Prop):kbody prog Tryz.f38 [a0] H k=(∃ n,L38x0 n  k [a0,undef,(.string { data:=#[] }),(.string { data:=#[123] }),(.int .i64 0),undef,undef,undef,
 undef,undef,undef,undef,undef,undef,undef,undef,undef,undef,undef,undef,undef,undef,undef,undef,undef,undef,undef,undef,undef,undef,undef,undef,undef,undef,undef,undef,undef,undef] H):=by
 kernel_rfl
theorem L38x0q (n0:Nat) (f K L g a P Q R S M h N O I J i j l m n o p q r s t u v w x y z A B C D E F:Value) (H:AHeap) (k:Value→AHeap→Prop):L38x0 (n0
+1) k [f,K,L,g,a,P,Q,R,S,M,h,N,O,I,J,i,j,l,m,n,o,p,q,r,s,t,u,v,w,x,y,z,A,B,C,D,E,F] H=(@bnd (aLen prog H 52 f) ⟨fun
 c=>@bnd (aBin2 prog H .lss 3 (.tmp 5) (.tmp 7) a c) ⟨fun d=>@kifB d ⟨@bnd (aBin2 prog H .gtr 3 (.tmp 11) (.const (.int .i64 0)) a (.int .i64 0)) ⟨fun b=>@kifB b ⟨@bnd (aBin2 prog H
 .add 9 (.tmp 13) (.const (.string { data:=#[44] })) g (.string { data:=#[44] })) ⟨fun e=>S38x0 n0 k [f,K,L,e,a,a,f,c,d,M,h,a,b,g,e,i,j,l,m,n,o,p,q,
 r,s,t,u,v,w,x,y,z,A,B,C,D,E,F] H⟩⟩ ⟨S38x0 n0 k [f,K,L,g,a,a,f,c,d,M,h,a,b,I,J,i,j,l,m,n,o,p,q,r,s,t,u,v,
 w,x,y,z,A,B,C,D,E,F] H⟩⟩⟩ ⟨@bnd (aBin2 prog H .add 9 (.tmp 36) (.const (.string { data:=#[125] })) g (.string { data:=#[125] })) ⟨fun G=>k G H⟩⟩⟩⟩):=by kernel_rfl
theorem S38x0q (n0:Nat) (d z A y c B C D E s9 F s t u v G I J K L M N O P Q R S T U V W X Y Z aa ab w x:Value) (H:AHeap) (k:Value→AHeap→Prop):S38x0 n0 k
 [d,z,A,y,c,B,C,D,E,s9,F,s,t,u,v,G,I,J,K,L,M,N,O,P,Q,R,S,T,U,V,W,X,Y,Z,aa,ab,w,x] H=(@bnd (aIndexAddr prog H 52 d c)
 ⟨fun o=>@bnd (aFieldAddr prog H 56 o 0) ⟨fun p=>@bnd (aLoad prog H 9 p) ⟨fun q=>@bnd (aBin2 prog H .add 9 (.tmp 15) (.tmp 20) y q) ⟨fun r=>@bnd (aIndexAddr prog H 52 d
 c) ⟨fun e=>@bnd (aFieldAddr prog H 56 e 1) ⟨fun f=>@bnd (aLoad prog H 5 f) ⟨fun g=>@bndD false H ⟨fun a H14=>ACalls prog 57 [g] H a H14⟩ ⟨fun a H14=>@bnd
 (aBin2 prog H14 .add 9 (.tmp 21) (.tmp 27) r a) ⟨fun h=>@bnd (aIndexAddr prog H 52 d c) ⟨fun i=>@bnd (aFieldAddr prog H 56 i 2) ⟨fun j=>@bnd (aLoad prog H 9 j) ⟨fun
 l=>@bndD false H14 ⟨fun b H20=>ACalls prog 58 [l] H14 b H20⟩ ⟨fun b H20=>@bnd (aBin2 prog H20 .add 9 (.tmp 28) (.tmp 34) h b) ⟨fun m=>@bnd (aBin2 prog H20 .add 3
 (.tmp 9) (.const (.int .i64 1)) c (.int .i64 1)) ⟨fun n=>L38x0 n0  k [d,z,A,m,n,B,C,D,E,c,n,s,t,u,v,y,d,c,o,p,q,r,d,c,e,f,g,
 a,h,d,c,i,j,l,b,m,w,x] H20⟩⟩⟩⟩⟩⟩⟩⟩⟩⟩⟩⟩⟩⟩⟩):=by kernel_rfl
-- tocsin/tocsinref10.decimal
def L39x0 (n:Nat) (k:Value→AHeap→Prop) (sl:List Value) (H:AHeap):Prop:=kit prog (cl (cl (cl (cr (cr (cr (cb Tryz.f39))))))) n (kblk 0 (kseq prog (cr (cr (cr (cr (cb Tryz.f39))))) (kfin prog Tryz.f39
 k))) .normal sl H
theorem d39 (a0:Value) (H:AHeap) (k:Value→AHeap→Prop):kbody prog Tryz.f39 [a0] H k=(@bnd (aBin2 prog H .lss 3 (.tmp 4) (.const (.int .i64 0)) a0 (.int .i64 0)) ⟨fun v5x1=>@kifB v5x1 ⟨k (.string { data :=
 #[45] }) H⟩ ⟨∃ n,L39x0 n  k [a0,undef,(.string { data:=#[] }),(.string { data:=#[] }),a0,v5x1,undef,undef,undef,undef,undef,undef,undef,undef,undef,undef,undef,undef,undef,undef,undef,undef,undef]
 H⟩⟩):=by kernel_rfl
theorem L39x0q (n0:Nat) (e p q m r s F G I J t u v w x y z A B C D E o:Value) (H:AHeap) (k:Value→AHeap→Prop):L39x0 (n0+1) k [e,p,q,m,r,s,F,G,I,J,t,u,
 v,w,x,y,z,A,B,C,D,E,o] H=(@bnd (aBin2 prog H .gtr 3 (.tmp 6) (.const (.int .i64 0)) e (.int .i64 0)) ⟨fun a=>@bnd (gif a false ((some m)) undef) ⟨fun n=>@bnd (gif a false
 (aBin2 prog H .eql 9 (.tmp 9) (.const (.string { data:=#[] })) n (.string { data:=#[] })) undef) ⟨fun f=>@bnd (pickV a (.bool true) f) ⟨fun g=>@kifB g ⟨@bnd (aBin2 prog H .rem 3 (.tmp 12)
 (.const (.int .i64 10)) e (.int .i64 10)) ⟨fun h=>@bnd (aBin2 prog H .add 3 (.const (.int .i64 48)) (.tmp 13) (.int .i64 48) h) ⟨fun i=>@bnd (convV prog H 3 5 i) ⟨fun j=>@bndL prog H 45
 1 [(0,j)] ⟨fun l H10=>@bnd (convV prog H10 45 9 l) ⟨fun b=>@bnd (aBin2 prog H10 .add 9 (.tmp 17) (.tmp 18) b m) ⟨fun c=>@bnd (aBin2 prog H10 .quo 3 (.tmp 20) (.const (.int .i64
 10)) e (.int .i64 10)) ⟨fun d=>L39x0 n0  k [d,p,q,c,r,s,e,a,a,n,f,g,e,h,i,j,l,b,m,c,e,d,o] H10⟩⟩⟩⟩⟩⟩⟩⟩ ⟨k m H⟩⟩⟩⟩⟩):=by
 kernel_rfl
-- tocsin/tocsinref10.compare
theorem d40 (a0:Value) (H:AHeap) (k:Value→AHeap→Prop):kbody prog Tryz.f40 [a0] H k=(@bndL prog H 33 6 [(0,(.string { data:=#[60] })),(1,(.string { data:=#[60,61] })),(2,(.string { data:=#[62]
 })),(3,(.string { data:=#[62,61] })),(4,(.string { data:=#[61,61] })),(5,(.string { data:=#[33,61] }))] ⟨fun v3x1 H2=>@bnd (aIndexAddr prog H2 33 v3x1 a0) ⟨fun v5x3=>@bnd (aLoad prog H2 9 v5x3) ⟨fun
 v6x4=>k v6x4 H2⟩⟩⟩):=by kernel_rfl
-- tocsin/tocsinref01.Print
def L41x0 (n:Nat) (k:Value→AHeap→Prop) (sl:List Value) (H:AHeap):Prop:=kit prog (cl (cl (cl (cr (cr (cr (cr (cr (cb Tryz.f41))))))))) n (kblk 0 (kseq prog (cr (cr (cr (cr (cr (cr (cb Tryz.f41)))))))
 (kfin prog Tryz.f41 k))) .normal sl H
def L41x1 (n:Nat) (k:Value→AHeap→Prop) (sl:List Value) (H:AHeap):Prop:=kit prog (cl (cl (cr (cl (cr (cr (cr (cr (cr (cr (cr (cr (cr (cb Tryz.f41)))))))))))))) n (kblk 2 (kseq prog (cr (cr (cr (cr (cr (cr
 (cr (cr (cr (cr (cb Tryz.f41))))))))))) (kfin prog Tryz.f41 k))) .normal sl H
theorem d41 (a0:Value) (H:AHeap) (k:Value→AHeap→Prop):kbody prog Tryz.f41 [a0] H k=(@bndC prog 59 [a0] H ⟨fun a H2=>@bnd (aBin2 prog H2 .lss 2 (.tmp 9) (.const (.int .i64 0)) a (.int .i64 0))
 ⟨fun b=>@kifB b ⟨@bnd (unV prog .neg a) ⟨fun d=>@bndC prog 41 [d] H2 ⟨fun e H6=>@bnd (aBin2 prog H6 .add 9 (.const (.string { data:=#[45] })) (.tmp 13) (.string { data:=#[45] })
 e) ⟨fun f=>k f H6⟩⟩⟩⟩ ⟨@bnd (aBin2 prog H2 .quo 2 (.tmp 15) (.const (.int .i64 1000)) a (.int .i64 1000)) ⟨fun c=>∃ n,L41x0 n  k [a,undef,(.string { data:=#[] }),(.string { data:=#[] }),
 c,undef,undef,a0,a,a,b,undef,undef,undef,undef,a,c,undef,undef,undef,undef,undef,undef,undef,undef,undef,undef,undef,undef,undef,undef,undef,undef,undef,undef,undef,undef,
 undef,undef,undef,undef,undef,undef,undef,undef,undef,undef,undef,undef,undef,undef,undef,undef,undef,undef,undef,undef] H2⟩⟩⟩⟩):=by kernel_rfl
theorem L41x0q (n0:Nat) (s s1 s2 r f s5 s6 s7 s8 s9 t u v w x y z aj ak al am an ao T U V W X Y Z aa ab ac ad ae af ag A ah ai B C D E F G I J K L M N O
 P Q R S:Value) (H:AHeap) (k:Value→AHeap→Prop):L41x0 (n0+1) k [s,s1,s2,r,f,s5,s6,s7,s8,s9,t,u,v,w,x,y,z,aj,ak,al,am,an,ao,T,U,V,W,X,Y,Z,
 aa,ab,ac,ad,ae,af,ag,A,ah,ai,B,C,D,E,F,G,I,J,K,L,M,N,O,P,Q,R,S] H=(@bnd (aBin2 prog H .gtr 2 (.tmp 17) (.const (.int .i64 0)) f (.int .i64 0)) ⟨fun
 a=>@bnd (gif a false ((some r)) undef) ⟨fun c=>@bnd (gif a false (aBin2 prog H .eql 9 (.tmp 20) (.const (.string { data:=#[] })) c (.string { data:=#[] })) undef) ⟨fun d=>@bnd (pickV
 a (.bool true) d) ⟨fun e=>@kifB e ⟨@bnd (aBin2 prog H .rem 2 (.tmp 23) (.const (.int .i64 10)) f (.int .i64 10)) ⟨fun g=>@bnd (aBin2 prog H .add 2 (.const (.int .i64 48)) (.tmp 24) (.int
 .i64 48) g) ⟨fun h=>@bnd (convV prog H 2 5 h) ⟨fun i=>@bndL prog H 45 1 [(0,i)] ⟨fun j H17=>@bnd (convV prog H17 45 9 j) ⟨fun l=>@bnd (aBin2 prog H17 .add 9
 (.tmp 28) (.tmp 29) l r) ⟨fun m=>@bnd (aBin2 prog H17 .quo 2 (.tmp 31) (.const (.int .i64 10)) f (.int .i64 10)) ⟨fun o=>L41x0 n0  k [s,s1,s2,m,o,s5,s6,s7,s8,s9,t,u,v,w,
 x,y,z,f,a,a,c,d,e,f,g,h,i,j,l,r,m,f,o,ad,ae,af,ag,A,ah,ai,B,C,D,E,F,G,I,J,K,L,M,N,O,
 P,Q,R,S] H17⟩⟩⟩⟩⟩⟩⟩⟩ ⟨@bnd (aBin2 prog H .rem 2 (.tmp 33) (.const (.int .i64 1000)) s (.int .i64 1000)) ⟨fun b=>@bnd (aBin2 prog H .eql 2 (.tmp 35) (.const (.int .i64 0)) b (.int .i64 0)) ⟨fun
 p=>@kifB p ⟨k r H⟩ ⟨@bnd (aBin2 prog H .add 9 (.tmp 38) (.const (.string { data:=#[46] })) r (.string { data:=#[46] })) ⟨fun q=>∃ n,L41x1 n  k [s,s1,s2,q,f,b,(.int .i64 100),s7,
 s8,s9,t,u,v,w,x,y,z,f,a,a,c,d,e,T,U,V,W,X,Y,Z,aa,ab,ac,s,b,b,p,A,r,q,B,C,D,E,F,G,I,J,K,
 L,M,N,O,P,Q,R,S] H⟩⟩⟩⟩⟩⟩⟩⟩⟩):=by kernel_rfl
theorem L41x1q (n1:Nat) (T U V m W j l X Y Z n o p q r s t u v w x y z A B C D E F G I J K L M N O P Q R aa ab ac ad ae af ag ah ai aj ak al am
 an ao ap S:Value) (H:AHeap) (k:Value→AHeap→Prop):L41x1 (n1+1) k [T,U,V,m,W,j,l,X,Y,Z,n,o,p,q,r,s,t,u,v,w,x,y,z,A,B,C,D,E,F,G,
 I,J,K,L,M,N,O,P,Q,R,aa,ab,ac,ad,ae,af,ag,ah,ai,aj,ak,al,am,an,ao,ap,S] H=(@bnd (aBin2 prog H .gtr 2 (.tmp 40) (.const (.int .i64 0)) j (.int .i64 0)) ⟨fun
 a=>@kifB a ⟨@bnd (aBin2 prog H .quo 2 (.tmp 45) (.tmp 46) j l) ⟨fun b=>@bnd (aBin2 prog H .add 2 (.const (.int .i64 48)) (.tmp 47) (.int .i64 48) b) ⟨fun c=>@bnd (convV prog H 2 5
 c) ⟨fun d=>@bndL prog H 45 1 [(0,d)] ⟨fun e H29=>@bnd (convV prog H29 45 9 e) ⟨fun f=>@bnd (aBin2 prog H29 .add 9 (.tmp 44) (.tmp 51) m f) ⟨fun g=>@bnd (aBin2
 prog H29 .rem 2 (.tmp 53) (.tmp 54) j l) ⟨fun h=>@bnd (aBin2 prog H29 .quo 2 (.tmp 42) (.const (.int .i64 10)) l (.int .i64 10)) ⟨fun i=>L41x1 n1  k [T,U,V,g,W,h,i,X,Y,
 Z,n,o,p,q,r,s,t,u,v,w,x,y,z,A,B,C,D,E,F,G,I,J,K,L,M,N,O,P,Q,R,j,a,l,i,m,j,l,b,c,d,e,
 f,g,j,l,h,S] H29⟩⟩⟩⟩⟩⟩⟩⟩⟩ ⟨k m H⟩⟩):=by kernel_rfl
-- tocsin/tocsinref10.side
theorem d42 (a0 a1 a2 a3:Value) (H:AHeap) (k:Value→AHeap→Prop):kbody prog Tryz.f42 [a0,a1,a2,a3] H k=(@kifB a3 ⟨@bnd (aIndexAddr prog H 33 a1 a2) ⟨fun a=>@bnd (aLoad prog H 9 a) ⟨fun
 b=>@bnd (aBin2 prog H .add 9 (.const (.string { data:=#[40] })) (.tmp 13) (.string { data:=#[40] }) b) ⟨fun c=>@bnd (aBin2 prog H .add 9 (.tmp 14) (.const (.string { data:=#[41] })) c
 (.string { data:=#[41] })) ⟨fun d=>k d H⟩⟩⟩⟩⟩ ⟨@bnd (aIndexAddr prog H 33 a1 a2) ⟨fun e=>@bnd (aLoad prog H 9 e) ⟨fun f=>k f H⟩⟩⟩):=by kernel_rfl
-- tocsin/tocsinref10.allTokens
def L43x0 (n:Nat) (k:Value→AHeap→Prop) (sl:List Value) (H:AHeap):Prop:=kit prog (cl (cl (cl (cr (cr (cr (cb Tryz.f43))))))) n (kblk 0 (kseq prog (cr (cr (cr (cr (cb Tryz.f43))))) (kfin prog Tryz.f43
 k))) .normal sl H
def L43x1 (n:Nat) (n0:Nat) (k:Value→AHeap→Prop) (sl:List Value) (H:AHeap):Prop:=kit prog (cl (cl (cl (cr (cr (cl (cr (cl (cl (cl (cr (cr (cr (cb Tryz.f43)))))))))))))) n (kblk 2 (kseq prog (cr (cr (cr
 (cl (cr (cl (cl (cl (cr (cr (cr (cb Tryz.f43)))))))))))) (kblk 1 (kit prog (cl (cl (cl (cr (cr (cr (cb Tryz.f43))))))) n0 (kblk 0 (kseq prog (cr (cr (cr (cr (cb Tryz.f43))))) (kfin prog Tryz.f43 k))))))) .normal
 sl H
def S43x0 (n1:Nat) (n0:Nat) (k:Value→AHeap→Prop) (sl:List Value) (H:AHeap):Prop:=kseq prog (cr (cl (cr (cl (cl (cl (cr (cr (cl (cr (cl (cl (cl (cr (cr (cr (cb Tryz.f43))))))))))))))))) (kblk 3 (kit
 prog (cl (cl (cl (cr (cr (cl (cr (cl (cl (cl (cr (cr (cr (cb Tryz.f43)))))))))))))) n1 (kblk 2 (kseq prog (cr (cr (cr (cl (cr (cl (cl (cl (cr (cr (cr (cb Tryz.f43)))))))))))) (kblk 1 (kit prog (cl (cl (cl (cr (cr
 (cr (cb Tryz.f43))))))) n0 (kblk 0 (kseq prog (cr (cr (cr (cr (cb Tryz.f43))))) (kfin prog Tryz.f43 k))))))))) .normal sl H
theorem d43 (a0:Value) (H:AHeap) (k:Value→AHeap→Prop):kbody prog Tryz.f43 [a0] H k=(∃ n,L43x0 n  k [a0,undef,(.slice none 0 0),(.int .i64 0),(.int .i64 0),(.slice none 0 0),(.int .i64 0),undef,undef,
 undef,undef,undef,undef,undef,undef,undef,undef,undef,undef,undef,undef,undef,undef,undef,undef,undef,undef,undef,undef,undef,undef,undef,undef,undef,undef,undef,undef,undef,undef,undef,undef,
 undef,undef,undef,undef,undef,undef,undef,undef,undef,undef,undef,undef,undef,undef,undef,undef,undef,undef,undef,undef,undef,undef,undef,undef,undef] H):=by kernel_rfl
theorem L43x0q (n0:Nat) (d s1 s2 s3 s4 s5 c s7 s8 s9 e f ag ah ai aj ak g h i j l m o p q r s t u v w x y z A B C D E F G I J K L M N O P Q R S
 T U V W X Y Z aa ab ac ad ae af:Value) (H:AHeap) (k:Value→AHeap→Prop):L43x0 (n0+1) k [d,s1,s2,s3,s4,s5,c,s7,s8,s9,e,f,ag,ah,ai,aj,ak,g,h,i,j,l,m,
 o,p,q,r,s,t,u,v,w,x,y,z,A,B,C,D,E,F,G,I,J,K,L,M,N,O,P,Q,R,S,T,U,V,W,X,Y,Z,aa,ab,ac,ad,ae,af] H=(@bnd
 (aLen prog H 9 d) ⟨fun a=>@bnd (aBin2 prog H .lss 3 (.tmp 12) (.tmp 14) c a) ⟨fun b=>@kifB b ⟨∃ n,L43x1 n n0 k [d,s1,s2,s3,s4,s5,c,c,(.bool false),s9,e,f,c,d,a,b,
 c,g,h,i,j,l,m,o,p,q,r,s,t,u,v,w,x,y,z,A,B,C,D,E,F,G,I,J,K,L,M,N,O,P,Q,R,S,T,U,V,W,X,Y,Z,aa,
 ab,ac,ad,ae,af] H⟩ ⟨k (.tuple #[s5,(.int .i64 0),(.int .i64 0)]) H⟩⟩⟩):=by kernel_rfl
theorem L43x1q (n1:Nat) (n0:Nat) (d s1 s2 s3 s4 s5 s6 b N s9 O P u v w x y ay az aA aB aC aD aE aF aG aH aI aJ aK au av aw ax Q R ao ap aq ar S T z A U V W X Y Z
 aa ab ac ad ae af ag ah ai B aj ak al am an C:Value) (H:AHeap) (k:Value→AHeap→Prop):L43x1 (n1+1) n0 k [d,s1,s2,s3,s4,s5,s6,b,N,s9,O,P,u,v,w,x,y,ay,az,aA,
 aB,aC,aD,aE,aF,aG,aH,aI,aJ,aK,au,av,aw,ax,Q,R,ao,ap,aq,ar,S,T,z,A,U,V,W,X,Y,Z,aa,ab,ac,ad,ae,af,ag,ah,ai,B,aj,ak,al,am,an,
 C] H=(@bnd (aLen prog H 9 d) ⟨fun j=>@bnd (aBin2 prog H .lss 3 (.tmp 17) (.tmp 19) b j) ⟨fun a=>@bnd (gif a true ((some N)) undef) ⟨fun l=>@bnd (gif a true ((some l)) undef)
 ⟨fun c=>@bnd (gif c false ((some d)) undef) ⟨fun m=>@bnd (gif c false ((some b)) undef) ⟨fun n=>@bnd (gif c false (aIndex prog 9 m n) undef) ⟨fun o=>@bnd (gif c false
 (aBin2 prog H .neq 5 (.tmp 26) (.const (.int .u8 32)) o (.int .u8 32)) undef) ⟨fun e=>@bnd (gif a true (pickV c (.bool true) e) undef) ⟨fun f=>@bnd (pickV a f (.bool false)) ⟨fun
 g=>@kifB g ⟨@bnd (aIndex prog 9 d b) ⟨fun p=>@bnd (aBin2 prog H .eql 5 (.tmp 32) (.const (.int .u8 92)) p (.int .u8 92)) ⟨fun q=>@kifB q ⟨@bnd (aBin2 prog H .add 3 (.tmp 34)
 (.const (.int .i64 1)) b (.int .i64 1)) ⟨fun D=>S43x0 n1 n0 k [d,s1,s2,s3,s4,s5,s6,D,N,s9,O,P,u,v,w,x,y,b,d,j,a,a,l,c,m,n,o,e,
 f,g,d,b,p,q,b,D,ao,ap,aq,ar,S,T,z,A,U,V,W,X,Y,Z,aa,ab,ac,ad,ae,af,ag,ah,ai,B,aj,ak,al,am,an,C] H⟩⟩ ⟨@bnd (aIndex
 prog 9 d b) ⟨fun s=>@bnd (aBin2 prog H .eql 5 (.tmp 38) (.const (.int .u8 34)) s (.int .u8 34)) ⟨fun t=>@kifB t ⟨@bnd (unV prog .not N) ⟨fun E=>S43x0 n1 n0 k [d,s1,s2,s3,s4,
 s5,s6,b,E,s9,O,P,u,v,w,x,y,b,d,j,a,a,l,c,m,n,o,e,f,g,d,b,p,q,Q,R,d,b,s,t,N,E,z,A,
 U,V,W,X,Y,Z,aa,ab,ac,ad,ae,af,ag,ah,ai,B,aj,ak,al,am,an,C] H⟩⟩ ⟨S43x0 n1 n0 k [d,s1,s2,s3,s4,s5,s6,b,N,s9,O,P,u,v,w,x,y,b,d,j,a,
 a,l,c,m,n,o,e,f,g,d,b,p,q,Q,R,d,b,s,t,S,T,z,A,U,V,W,X,Y,Z,aa,ab,ac,ad,ae,af,ag,ah,ai,B,
 aj,ak,al,am,an,C] H⟩⟩⟩⟩⟩⟩⟩ ⟨@bnd (aLen prog H 9 d) ⟨fun F=>@bnd (aBin2 prog H .gtr 3 (.tmp 44) (.tmp 46) b F) ⟨fun G=>@kifB G ⟨k (.tuple #[(.slice none 0 0),(.int .i64 0),(.int
 .i64 1)]) H⟩ ⟨@bnd (aSliceOp prog H 9 d (some s6) (some b)) ⟨fun I=>@bndC prog 60 [I] H ⟨fun h H23=>@bnd (tupV h 0) ⟨fun r=>@bnd (tupV h 1) ⟨fun J=>@bnd (tupV h 2)
 ⟨fun i=>@bnd (aBin2 prog H23 .neq 3 (.tmp 57) (.const (.int .i64 0)) i (.int .i64 0)) ⟨fun K=>@kifB K ⟨k (.tuple #[(.slice none 0 0),(.int .i64 0),i]) H23⟩ ⟨@bndE (aBuiltin prog H23
 Builtin.append #[80,80] [s5,r]) ⟨fun L H29=>@bnd (aBin2 prog H29 .add 3 (.tmp 63) (.const (.int .i64 1)) b (.int .i64 1)) ⟨fun M=>L43x0 n0  k [d,s1,s2,s3,s4,L,M,b,N,r,
 J,i,u,v,w,x,y,b,d,j,a,a,l,c,m,n,o,e,f,g,au,av,aw,ax,Q,R,ao,ap,aq,ar,S,T,z,A,b,d,F,G,
 h,d,s6,b,I,h,r,J,i,i,K,B,s5,r,L,b,M,C] H29⟩⟩⟩⟩⟩⟩⟩⟩⟩⟩⟩⟩⟩⟩⟩⟩⟩⟩⟩⟩⟩⟩⟩):=by kernel_rfl
theorem S43x0q (n1:Nat) (n0:Nat) (s0 s1 s2 s3 s4 s5 s6 s7 s8 s9 b c d e f g h i j l m n o p q r s t u v w x y z A B C D E F G I af ag J K L M N O
 P Q R S T U V W X Y Z aa ab ac ad ae:Value) (H:AHeap) (k:Value→AHeap→Prop):S43x0 n1 n0 k [s0,s1,s2,s3,s4,s5,s6,s7,s8,s9,b,c,d,e,f,g,h,i,j,l,m,
 n,o,p,q,r,s,t,u,v,w,x,y,z,A,B,C,D,E,F,G,I,af,ag,J,K,L,M,N,O,P,Q,R,S,T,U,V,W,X,Y,Z,aa,ab,ac,ad,ae] H
 = (@bnd (aBin2 prog H .add 3 (.tmp 42) (.const (.int .i64 1)) s7 (.int .i64 1)) ⟨fun a=>L43x1 n1 n0 k [s0,s1,s2,s3,s4,s5,s6,a,s8,s9,b,c,d,e,f,g,h,i,j,l,m,n,o,
 p,q,r,s,t,u,v,w,x,y,z,A,B,C,D,E,F,G,I,s7,a,J,K,L,M,N,O,P,Q,R,S,T,U,V,W,X,Y,Z,aa,ab,ac,ad,ae] H⟩):=by
 kernel_rfl
-- tocsin/tocsinref10.Condition
theorem d44 (a0 a1 a2:Value) (H:AHeap) (k:Value→AHeap→Prop):kbody prog Tryz.f44 [a0,a1,a2] H k=(@bndC prog 61 [a0,a1,a2,(.string { data:=#[111,114] })] H ⟨fun v11x1 H2=>@bnd (tupV v11x1 0) ⟨fun
 v12x3=>@bnd (tupV v11x1 1) ⟨fun v13x4=>k (.tuple #[v12x3,v13x4]) H2⟩⟩⟩):=by kernel_rfl
-- (*strings.Builder).copyCheck
theorem d45 (a0:Value) (H:AHeap) (k:Value→AHeap→Prop):kbody prog Tryz.f45 [a0] H k=(@bnd (nilV a0) ⟨fun i=>@bnd (aFieldAddr prog H 65 i 0) ⟨fun j=>@bnd (aLoad prog H 63 j) ⟨fun l =>
 @bnd (aBin2 prog H .eql 63 (.tmp 5) (.const (.pointer none)) l (.pointer none)) ⟨fun m=>@kifB m ⟨@bnd (convV prog H 63 99 a0) ⟨fun n=>@bndC prog 62 [n] H ⟨fun f H7=>@bnd (convV prog
 H7 99 63 f) ⟨fun g=>@bnd (nilV a0) ⟨fun h=>@bnd (aFieldAddr prog H7 65 h 0) ⟨fun a=>@bndS (aStore prog H7 63 a g) ⟨fun _ H12=>k (.tuple #[]) H12⟩⟩⟩⟩⟩⟩⟩ ⟨@bnd (nilV a0) ⟨fun b
=>@bnd (aFieldAddr prog H 65 b 0) ⟨fun c=>@bnd (aLoad prog H 63 c) ⟨fun d=>@bnd (aBin2 prog H .neq 63 (.tmp 17) (.tmp 18) d a0) ⟨fun e=>@kifB e ⟨False⟩ ⟨k (.tuple #[])
 H⟩⟩⟩⟩⟩⟩⟩⟩⟩⟩):=by kernel_rfl
-- (*strings.Builder).grow
theorem d46 (a0 a1:Value) (H:AHeap) (k:Value→AHeap→Prop):kbody prog Tryz.f46 [a0,a1] H k=(@bnd (nilV a0) ⟨fun p=>@bnd (aFieldAddr prog H 65 p 1) ⟨fun q=>@bnd (aLoad prog H 45 q) ⟨fun
 r=>@bndD false H ⟨fun c H5=>aBuiltin prog H Builtin.cap #[45] [r]=some (c,H5)⟩ ⟨fun c H5=>@bnd (aBin2 prog H5 .mul 3 (.const (.int .i64 2)) (.tmp 9) (.int .i64 2) c) ⟨fun n=>@bnd
 (aBin2 prog H5 .add 3 (.tmp 10) (.tmp 11) n a1) ⟨fun o=>@bndD false H5 ⟨fun a H9=>ACalls prog 63 [o] H5 a H9⟩ ⟨fun a H9=>@bnd (nilV a0) ⟨fun d=>@bnd (aFieldAddr prog H 65
 d 1) ⟨fun e=>@bnd (aLoad prog H 45 e) ⟨fun f=>@bnd (aLen prog H 45 f) ⟨fun g=>@bnd (aSliceOp prog H9 45 a none (some g)) ⟨fun b=>@bnd (nilV a0) ⟨fun h =>
 @bnd (aFieldAddr prog H9 65 h 1) ⟨fun i=>@bnd (aLoad prog H9 45 i) ⟨fun j=>@bndE (aBuiltin prog H9 Builtin.copy #[45,45] [b,j]) ⟨fun _ H19=>@bnd (nilV a0) ⟨fun l=>@bnd
 (aFieldAddr prog H19 65 l 1) ⟨fun m=>@bndS (aStore prog H19 45 m b) ⟨fun _ H23=>k (.tuple #[]) H23⟩⟩⟩⟩⟩⟩⟩⟩⟩⟩⟩⟩⟩⟩⟩⟩⟩⟩⟩):=by kernel_rfl
-- internal/strconv.FormatInt
def S47x0 (k:Value→AHeap→Prop) (sl:List Value) (H:AHeap):Prop:=kseq prog (cr (cr (cr (cr (cl (cr (cl (cr (cb Tryz.f47))))))))) (kseq prog (cr (cr (cb Tryz.f47))) (kfin prog Tryz.f47 k)) .normal sl H
theorem d47 (a0 a1:Value) (H:AHeap) (k:Value→AHeap→Prop):kbody prog Tryz.f47 [a0,a1] H k=(@bnd (aBin2 prog H .eql 3 (.tmp 10) (.const (.int .i64 10)) a1 (.int .i64 10)) ⟨fun c=>@kifB c ⟨@bnd
 (aBin2 prog H .leq 2 (.const (.int .i64 0)) (.tmp 12) (.int .i64 0) a0) ⟨fun a=>@bnd (gif a true ((some a0)) undef) ⟨fun e=>@bnd (gif a true (aBin2 prog H .lss 2 (.tmp 15) (.const (.int .i64 100))
 e (.int .i64 100)) undef) ⟨fun f=>@bnd (pickV a f (.bool false)) ⟨fun g=>@kifB g ⟨@bndC prog 64 [a0] H ⟨fun j H7=>k j H7⟩⟩ ⟨@bndE (aAlloc prog H 102) ⟨fun i H9=>@bnd (convV
 prog H9 2 103 a0) ⟨fun b=>@bnd (aBin2 prog H9 .lss 2 (.tmp 22) (.const (.int .i64 0)) a0 (.int .i64 0)) ⟨fun d=>@kifB d ⟨@bnd (unV prog .neg b) ⟨fun h=>S47x0  k [a0,a1,undef,
 undef,(.string { data:=#[] }),i,h,undef,undef,undef,a1,c,a0,a,a,e,f,g,undef,undef,a0,b,a0,d,b,h,undef,undef,undef,undef,undef,undef,undef,
 undef,undef,undef,undef,undef,undef,undef,undef,undef,undef,undef,undef,undef,undef,undef,undef,undef,undef,undef,undef,undef] H9⟩⟩ ⟨S47x0  k [a0,a1,undef,undef,(.string { data:=#[] }),i,b,
 undef,undef,undef,a1,c,a0,a,a,e,f,g,undef,undef,a0,b,a0,d,undef,undef,undef,undef,undef,undef,undef,undef,undef,undef,undef,undef,undef,undef,undef,undef,undef,
 undef,undef,undef,undef,undef,undef,undef,undef,undef,undef,undef,undef,undef] H9⟩⟩⟩⟩⟩⟩⟩⟩⟩⟩ ⟨kx prog (cr (cr (cl (cr (cb Tryz.f47))))) [a0,a1,undef,undef,(.string { data:=#[] }),undef,undef,undef,
 undef,undef,a1,c,undef,undef,undef,undef,undef,undef,undef,undef,undef,undef,undef,undef,undef,undef,undef,undef,undef,undef,undef,undef,undef,undef,undef,undef,undef,undef,undef,undef,undef,
 undef,undef,undef,undef,undef,undef,undef,undef,undef,undef,undef,undef,undef] H (kseq prog (cr (cr (cb Tryz.f47))) (kfin prog Tryz.f47 k))⟩⟩):=by kernel_rfl
theorem S47x0q (o s1 s2 s3 s4 b n s7 s8 s9 p q r s t u v w x y z A B C D E F G I J K L M N O P Q R S T U V W X Y Z aa ab ac ad ae af ag ah :
 Value) (H:AHeap) (k:Value→AHeap→Prop):S47x0 k [o,s1,s2,s3,s4,b,n,s7,s8,s9,p,q,r,s,t,u,v,w,x,y,z,A,B,C,D,E,F,G,I,J,K,L,M,N,O,P,
 Q,R,S,T,U,V,W,X,Y,Z,aa,ab,ac,ad,ae,af,ag,ah] H=(@bndC prog 65 [n] H ⟨fun a H14=>@bnd (aBin2 prog H14 .add 3 (.const (.int .i64 1)) (.tmp 28) (.int .i64 1) a)
 ⟨fun c=>@bnd (aSliceOp prog H14 102 b (some (.int .i64 1)) (some c)) ⟨fun d=>@bndC prog 66 [d,n] H14 ⟨fun _ H18=>@bnd (aBin2 prog H18 .lss 2 (.tmp 33) (.const (.int .i64 0)) o (.int
 .i64 0)) ⟨fun e=>@kifB e ⟨@bnd (aIndexAddr prog H18 102 b (.int .i64 0)) ⟨fun f=>@bndS (aStore prog H18 5 f (.int .u8 45)) ⟨fun _ H22=>@bnd (aBin2 prog H22 .add 3 (.const (.int .i64 1))
 (.tmp 36) (.int .i64 1) a) ⟨fun g=>@bnd (aSliceOp prog H22 102 b none (some g)) ⟨fun h=>@bnd (convV prog H22 45 9 h) ⟨fun i=>k i H22⟩⟩⟩⟩⟩⟩ ⟨@bnd (aBin2 prog H18 .add 3
 (.const (.int .i64 1)) (.tmp 40) (.int .i64 1) a) ⟨fun j=>@bnd (aSliceOp prog H18 102 b (some (.int .i64 1)) (some j)) ⟨fun l=>@bnd (convV prog H18 45 9 l) ⟨fun m=>k m
 H18⟩⟩⟩⟩⟩⟩⟩⟩⟩):=by kernel_rfl
-- tocsin/expr.begin
def S48x0 (k:Value→AHeap→Prop) (sl:List Value) (H:AHeap):Prop:=kseq prog (cr (cr (cr (cr (cb Tryz.f48))))) (kfin prog Tryz.f48 k) .normal sl H
def S48x1 (k:Value→AHeap→Prop) (sl:List Value) (H:AHeap):Prop:=kseq prog (cr (cr (cr (cr (cr (cl (cr (cl (cr (cr (cr (cb Tryz.f48)))))))))))) (kblk 0 (kseq prog (cr (cr (cr (cr (cb Tryz.f48))))) (kfin
 prog Tryz.f48 k))) .normal sl H
theorem d48 (a0 a1:Value) (H:AHeap) (k:Value→AHeap→Prop):kbody prog Tryz.f48 [a0,a1] H k=(@bnd (aBin2 prog H .lss 3 (.tmp 7) (.const (.int .i64 0)) a1 (.int .i64 0)) ⟨fun l=>@kifB l ⟨k (.int .i64
 (-1)) H⟩ ⟨@bnd (aIndexAddr prog H 32 a0 a1) ⟨fun g=>@bnd (aLoad prog H 54 g) ⟨fun h=>@bndE (aAlloc prog H 54) ⟨fun e H5=>@bndS (aStore prog H5 54 e h) ⟨fun _ H7=>@bnd
 (aFieldAddr prog H7 54 e 0) ⟨fun i=>@bnd (aLoad prog H7 5 i) ⟨fun d=>@bnd (aBin2 prog H7 .eql 5 (.tmp 14) (.const (.int .u8 0)) d (.int .u8 0)) ⟨fun a=>@kifB a ⟨@bnd (aLoad
 prog H7 54 e) ⟨fun m=>@bndC prog 68 [m] H7 ⟨fun n H13=>@kifB n ⟨k a1 H13⟩ ⟨S48x0  k [a0,a1,undef,undef,(.int .i64 0),e,undef,a1,l,a0,a1,g,h,i,d,a,
 a,m,n,undef,undef,undef,undef,undef,undef,undef,undef,undef,undef,undef,undef,undef,undef,undef,undef,undef,undef,undef,undef,undef,undef,undef,undef,undef,undef,undef,undef,undef,
 undef,undef,undef,undef,undef,undef,undef,undef,undef,undef,undef,undef,undef,undef,undef,undef,undef,undef,undef,undef,undef,undef,undef] H13⟩⟩⟩⟩ ⟨@bnd (aBin2 prog H7 .eql 5 (.tmp 14) (.const (.int
 .u8 3)) d (.int .u8 3)) ⟨fun c=>@kifB c ⟨@bnd (aLoad prog H7 54 e) ⟨fun o=>@bndC prog 69 [o] H7 ⟨fun b H17=>@bnd (gif b true (aFieldAddr prog H17 54 e 6) undef) ⟨fun
 p=>@bnd (gif b true (aLoad prog H17 3 p) undef) ⟨fun q=>@bnd (gif b true ((some a1)) undef) ⟨fun r=>@bnd (gif b true (aBin2 prog H17 .sub 3 (.tmp 27) (.const (.int .i64 1))
 r (.int .i64 1)) undef) ⟨fun s=>@bnd (gif b true (aBin2 prog H17 .eql 3 (.tmp 26) (.tmp 28) q s) undef) ⟨fun t=>@bnd (pickV b t (.bool false)) ⟨fun f=>@bnd (gif f
 true (aFieldAddr prog H17 54 e 7) undef) ⟨fun u=>@bnd (gif f true (aLoad prog H17 3 u) undef) ⟨fun v=>@bnd (gif f true (aBin2 prog H17 .eql 3 (.tmp 33) (.const (.int .i64 0))
 v (.int .i64 0)) undef) ⟨fun w=>@bnd (pickV f w (.bool false)) ⟨fun x=>@kifB x ⟨@bnd (aBin2 prog H17 .sub 3 (.tmp 37) (.const (.int .i64 1)) a1 (.int .i64 1)) ⟨fun z=>@bndC
 prog 48 [a0,z] H17 ⟨fun A H30=>k A H30⟩⟩⟩ ⟨S48x0  k [a0,a1,undef,undef,(.int .i64 0),e,undef,a1,l,a0,a1,g,h,i,d,a,a,undef,undef,undef,c,c,
 o,b,b,p,q,r,s,t,f,f,u,v,w,x,undef,undef,undef,undef,undef,undef,undef,undef,undef,undef,undef,undef,undef,undef,undef,undef,
 undef,undef,undef,undef,undef,undef,undef,undef,undef,undef,undef,undef,undef,undef,undef,undef,undef,undef,undef] H17⟩⟩⟩⟩⟩⟩⟩⟩⟩⟩⟩⟩⟩⟩ ⟨@bnd (aBin2 prog H7 .eql 5 (.tmp 14) (.const (.int .u8 1)) d (.int
 .u8 1)) ⟨fun j=>@kifB j ⟨S48x1  k [a0,a1,undef,undef,(.int .i64 0),e,undef,a1,l,a0,a1,g,h,i,d,a,a,undef,undef,undef,c,c,undef,undef,undef,undef,
 undef,undef,undef,undef,undef,undef,undef,undef,undef,undef,undef,undef,undef,undef,j,j,undef,undef,undef,undef,undef,undef,undef,undef,undef,undef,undef,undef,undef,undef,undef,undef,
 undef,undef,undef,undef,undef,undef,undef,undef,undef,undef,undef,undef,undef] H7⟩ ⟨@bnd (aBin2 prog H7 .eql 5 (.tmp 14) (.const (.int .u8 2)) d (.int .u8 2)) ⟨fun y=>S48x1  k [a0,a1,undef,undef,
 (.int .i64 0),e,undef,a1,l,a0,a1,g,h,i,d,a,a,undef,undef,undef,c,c,undef,undef,undef,undef,undef,undef,undef,undef,undef,undef,undef,undef,undef,undef,
 undef,undef,undef,undef,y,j,y,undef,undef,undef,undef,undef,undef,undef,undef,undef,undef,undef,undef,undef,undef,undef,undef,undef,undef,undef,undef,undef,undef,undef,undef,undef,
 undef,undef,undef] H7⟩⟩⟩⟩⟩⟩⟩⟩⟩⟩⟩⟩⟩⟩⟩):=by kernel_rfl
theorem S48x0q (s0 s1 s2 s3 s4 s5 s6 s7 s8 s9 a b c d e f g h i j l m n o p q r s t u v w x y z A B C D E F G I J K L M N O P Q R S T U V
 W X Y Z aa ab ac ad ae af ag ah ai aj ak:Value) (H:AHeap) (k:Value→AHeap→Prop):S48x0 k [s0,s1,s2,s3,s4,s5,s6,s7,s8,s9,a,b,c,d,e,f,g,h,i,j,l,m,n,
 o,p,q,r,s,t,u,v,w,x,y,z,A,B,C,D,E,F,G,I,J,K,L,M,N,O,P,Q,R,S,T,U,V,W,X,Y,Z,aa,ab,ac,ad,ae,af,ag,ah,
 ai,aj,ak] H=(k (.int .i64 (-1)) H):=by kernel_rfl
theorem S48x1q (v w s2 s3 s4 x s6 s7 s8 s9 y z A B C D E F G I J K L M N O P Q R S T U V W X Y Z aa ab ac u ad ae al am an ao ap aq ar au av aw ax ay az
 aA aB aC aD aE aF aG aH aI aJ aK af ag ah ai:Value) (H:AHeap) (k:Value→AHeap→Prop):S48x1 k [v,w,s2,s3,s4,x,s6,s7,s8,s9,y,z,A,B,C,D,E,F,G,I,J,K,L,
 M,N,O,P,Q,R,S,T,U,V,W,X,Y,Z,aa,ab,ac,u,ad,ae,al,am,an,ao,ap,aq,ar,au,av,aw,ax,ay,az,aA,aB,aC,aD,aE,aF,aG,aH,aI,aJ,aK,af,
 ag,ah,ai] H=(@kifB u ⟨@bnd (aBin2 prog H .sub 3 (.tmp 44) (.const (.int .i64 1)) w (.int .i64 1)) ⟨fun e=>@bndC prog 48 [v,e] H ⟨fun c H35=>@bnd (aLoad prog H35 54 x) ⟨fun f
=>@bndC prog 69 [f] H35 ⟨fun a H38=>@bnd (gif a true (aFieldAddr prog H38 54 x 7) undef) ⟨fun g=>@bnd (gif a true (aLoad prog H38 3 g) undef) ⟨fun h=>@bnd (gif a
 true ((some w)) undef) ⟨fun i=>@bnd (gif a true (aBin2 prog H38 .sub 3 (.tmp 52) (.const (.int .i64 1)) i (.int .i64 1)) undef) ⟨fun j=>@bnd (gif a true (aBin2 prog H38 .eql 3 (.tmp 51)
 (.tmp 53) h j) undef) ⟨fun l=>@bnd (pickV a l (.bool false)) ⟨fun d=>@bnd (gif d true ((some c)) undef) ⟨fun m=>@bnd (gif d true (aBin2 prog H38 .gtr 3 (.tmp 57)
 (.const (.int .i64 0)) m (.int .i64 0)) undef) ⟨fun n=>@bnd (pickV d n (.bool false)) ⟨fun b=>@bnd (gif b true (aFieldAddr prog H38 54 x 6) undef) ⟨fun o=>@bnd (gif b true
 (aLoad prog H38 3 o) undef) ⟨fun p=>@bnd (gif b true ((some c)) undef) ⟨fun q=>@bnd (gif b true (aBin2 prog H38 .sub 3 (.tmp 63) (.const (.int .i64 1)) q (.int .i64 1)) undef)
 ⟨fun r=>@bnd (gif b true (aBin2 prog H38 .eql 3 (.tmp 62) (.tmp 64) p r) undef) ⟨fun s=>@bnd (pickV b s (.bool false)) ⟨fun t=>@kifB t ⟨@bnd (aBin2 prog H38 .sub 3
 (.tmp 68) (.const (.int .i64 1)) c (.int .i64 1)) ⟨fun aj=>@bndC prog 48 [v,aj] H38 ⟨fun ak H56=>k ak H56⟩⟩⟩ ⟨S48x0  k [v,w,s2,s3,s4,x,c,s7,s8,s9,y,z,A,B,C,D,
 E,F,G,I,J,K,L,M,N,O,P,Q,R,S,T,U,V,W,X,Y,Z,aa,ab,ac,u,ad,ae,v,w,e,c,f,a,a,g,h,i,j,l,
 d,d,m,n,b,b,o,p,q,r,s,t,af,ag,ah,ai] H38⟩⟩⟩⟩⟩⟩⟩⟩⟩⟩⟩⟩⟩⟩⟩⟩⟩⟩⟩⟩⟩ ⟨S48x0  k [v,w,s2,s3,s4,x,s6,s7,s8,s9,y,z,A,B,C,D,E,
 F,G,I,J,K,L,M,N,O,P,Q,R,S,T,U,V,W,X,Y,Z,aa,ab,ac,u,ad,ae,al,am,an,ao,ap,aq,ar,au,av,aw,ax,ay,az,aA,aB,aC,aD,aE,aF,
 aG,aH,aI,aJ,aK,af,ag,ah,ai] H⟩):=by kernel_rfl
end Go.Vi
namespace Go.Vi
open Go Go.Proofs Go.Proofs.Tryz
-- tocsin/expr.aggregates
theorem d49 (H:AHeap) (k:Value→AHeap→Prop):kbody prog Tryz.f49 [] H k=(@bndL prog H 33 6 [(0,(.string { data:=#[99,111,117,110,116] })),(1,(.string { data:=#[115,117,109] })),(2,(.string {
 data:=#[109,105,110] })),(3,(.string { data:=#[109,97,120] })),(4,(.string { data:=#[109,101,97,110] })),(5,(.string { data:=#[108,97,115,116] }))] ⟨fun v1x1 H2=>k v1x1 H2⟩):=by kernel_rfl
-- tocsin/match.Print
def L50x0 (n:Nat) (k:Value→AHeap→Prop) (sl:List Value) (H:AHeap):Prop:=kit prog (cl (cl (cr (cl (cr (cr (cr (cb Tryz.f50)))))))) n (kblk 0 (kseq prog (cr (cr (cr (cr (cb Tryz.f50))))) (kfin prog
 Tryz.f50 k))) .normal sl H
def S50x0 (n0:Nat) (k:Value→AHeap→Prop) (sl:List Value) (H:AHeap):Prop:=kseq prog (cr (cr (cr (cl (cl (cr (cr (cl (cl (cr (cl (cr (cr (cr (cb Tryz.f50))))))))))))))) (kblk 1 (kseq prog (cr (cr (cr (cl
 (cl (cr (cl (cr (cr (cr (cb Tryz.f50))))))))))) (kit prog (cl (cl (cr (cl (cr (cr (cr (cb Tryz.f50)))))))) n0 (kblk 0 (kseq prog (cr (cr (cr (cr (cb Tryz.f50))))) (kfin prog Tryz.f50 k)))))) .normal sl H
theorem d50 (a0:Value) (H:AHeap) (k:Value→AHeap→Prop):kbody prog Tryz.f50 [a0] H k=(@bndC prog 70 [] H ⟨fun v9x1 H2=>@bnd (aLen prog H2 52 a0) ⟨fun v11x3=>∃ n,L50x0 n  k [a0,undef,(.string {
 data:=#[] }),v9x1,(.slice none 0 0),undef,undef,undef,undef,v9x1,a0,v11x3,(.int .i64 0),undef,undef,undef,undef,undef,undef,undef,undef,undef,undef,undef,undef,undef,undef,undef,undef,undef,undef,
 undef,undef,undef,undef,undef,undef,undef,undef,undef,undef,undef,undef,undef] H2⟩⟩):=by kernel_rfl
theorem L50x0q (n0:Nat) (P Q R m M S s6 s7 s8 T p q n U V W X Y Z aa ab ac ad ae af N O r s t u v w x y z A B C D E F G I:Value) (H:AHeap) (k:Value →
 AHeap→Prop):L50x0 (n0+1) k [P,Q,R,m,M,S,s6,s7,s8,T,p,q,n,U,V,W,X,Y,Z,aa,ab,ac,ad,ae,af,N,O,r,s,t,u,v,w,x,y,z,A,B,C,D,
 E,F,G,I] H=(@bnd (aBin2 prog H .lss 3 (.tmp 12) (.tmp 11) n q) ⟨fun h=>@kifB h ⟨@bnd (aIndexAddr prog H 52 p n) ⟨fun i=>@bnd (aLoad prog H 56 i) ⟨fun j=>@bndE
 (aAlloc prog H 56) ⟨fun l H8=>@bndS (aStore prog H8 56 l j) ⟨fun _ H10=>@bnd (aFieldAddr prog H10 56 l 1) ⟨fun d=>@bnd (aLoad prog H10 5 d) ⟨fun e=>@bnd (aLookup prog
 H10 109 m e true) ⟨fun b=>@bnd (tupV b 0) ⟨fun f=>@bnd (tupV b 1) ⟨fun a=>@bndE (aAlloc prog H10 113) ⟨fun c H17=>@bndS (aStore prog H17 113 c f) ⟨fun _ H19=>@bnd
 (unV prog .not a) ⟨fun g=>@kifB g ⟨@bnd (aLookup prog H19 109 m (.int .u8 0) false) ⟨fun o=>@bndS (aStore prog H19 113 c o) ⟨fun _ H23=>S50x0 n0 k [P,Q,R,m,M,S,
 l,c,a,T,p,q,n,h,i,j,b,m,d,e,b,f,a,a,g,m,o,r,s,t,u,v,w,x,y,z,A,B,C,D,E,F,G,I]
 H23⟩⟩⟩ ⟨S50x0 n0 k [P,Q,R,m,M,S,l,c,a,T,p,q,n,h,i,j,b,m,d,e,b,f,a,a,g,N,O,r,s,t,u,v,w,x,y,z,
 A,B,C,D,E,F,G,I] H19⟩⟩⟩⟩⟩⟩⟩⟩⟩⟩⟩⟩⟩⟩ ⟨@bndC prog 16 [M,(.string { data:=#[44] })] H ⟨fun J H25=>@bndL prog H25 33 3 [(0,(.string { data:=#[123] })),(1,J),(2,(.string { data
:=#[125] }))] ⟨fun K H27=>@bndC prog 71 [K] H27 ⟨fun L H29=>k L H29⟩⟩⟩⟩⟩):=by kernel_rfl
theorem S50x0q (n0:Nat) (M N O P K Q n L R S o p q r s t u v w x y z A B C D E T U V W X Y Z aa ab ac ad ae af F G I J:Value) (H:AHeap) (k:Value →
 AHeap→Prop):S50x0 n0 k [M,N,O,P,K,Q,n,L,R,S,o,p,q,r,s,t,u,v,w,x,y,z,A,B,C,D,E,T,U,V,W,X,Y,Z,aa,ab,ac,ad,ae,af,F,G,
 I,J] H=(@bnd (aFieldAddr prog H 56 n 0) ⟨fun f=>@bnd (aLoad prog H 9 f) ⟨fun g=>@bnd (aFieldAddr prog H 113 L 0) ⟨fun h=>@bnd (aLoad prog H 9 h) ⟨fun i=>@bnd
 (aFieldAddr prog H 56 n 2) ⟨fun j=>@bnd (aLoad prog H 9 j) ⟨fun l=>@bndD false H ⟨fun a H37=>ACalls prog 72 [l] H a H37⟩ ⟨fun a H37=>@bndD true H37 ⟨fun b H39 =>
 sliceLit prog H37 33 3 [(0,g),(1,i),(2,a)] b H39⟩ ⟨fun b H39=>@bndD true H39 ⟨fun c H41=>ACalls prog 71 [b] H39 c H41⟩ ⟨fun c H41=>@bndD true H41 ⟨fun d H43
=>sliceLit prog H41 33 1 [(0,c)] d H43⟩ ⟨fun d H43=>@bndD true H43 ⟨fun e H45=>aBuiltin prog H43 Builtin.append #[33,33] [K,d]=some (e,H45)⟩ ⟨fun e H45=>@bnd (aBin2
 prog H45 .add 3 (.tmp 12) (.const (.int .i64 1)) q (.int .i64 1)) ⟨fun m=>L50x0 n0  k [M,N,O,P,e,Q,n,L,R,S,o,p,m,r,s,t,u,v,w,x,y,z,A,B,C,D,
 E,K,f,g,h,i,j,l,a,b,c,d,e,m,F,G,I,J] H45⟩⟩⟩⟩⟩⟩⟩⟩⟩⟩⟩⟩):=by kernel_rfl
-- tocsin/expr.compares
theorem d51 (H:AHeap) (k:Value→AHeap→Prop):kbody prog Tryz.f51 [] H k=(@bndL prog H 33 6 [(0,(.string { data:=#[60] })),(1,(.string { data:=#[60,61] })),(2,(.string { data:=#[62] })),(3,
 (.string { data:=#[62,61] })),(4,(.string { data:=#[61,61] })),(5,(.string { data:=#[33,61] }))] ⟨fun v1x1 H2=>k v1x1 H2⟩):=by kernel_rfl
-- tocsin/fixed.Print
def S52x0 (k:Value→AHeap→Prop) (sl:List Value) (H:AHeap):Prop:=kseq prog (cr (cr (cr (cr (cb Tryz.f52))))) (kfin prog Tryz.f52 k) .normal sl H
def S52x1 (k:Value→AHeap→Prop) (sl:List Value) (H:AHeap):Prop:=kseq prog (cr (cr (cr (cr (cr (cr (cb Tryz.f52))))))) (kfin prog Tryz.f52 k) .normal sl H
theorem d52 (a0:Value) (H:AHeap) (k:Value→AHeap→Prop):kbody prog Tryz.f52 [a0] H k=(@bndC prog 73 [a0] H ⟨fun v7x1 H2=>@bnd (aBin2 prog H2 .lss 2 (.tmp 8) (.const (.int .i64 0)) v7x1 (.int .i64 0))
 ⟨fun v9x3=>@kifB v9x3 ⟨@bnd (unV prog .neg v7x1) ⟨fun v11x4=>S52x0  k [v11x4,undef,(.string { data:=#[] }),(.string { data:=#[45] }),undef,undef,a0,v7x1,v7x1,v9x3,v7x1,v11x4,undef,undef,undef,undef,
 undef,undef,undef,undef,undef,undef,undef,undef,undef,undef,undef,undef,undef,undef] H2⟩⟩ ⟨S52x0  k [v7x1,undef,(.string { data:=#[] }),(.string { data:=#[] }),undef,undef,a0,v7x1,v7x1,v9x3,undef,
 undef,undef,undef,undef,undef,undef,undef,undef,undef,undef,undef,undef,undef,undef,undef,undef,undef,undef,undef] H2⟩⟩⟩):=by kernel_rfl
theorem S52x0q (d z A n P Q B C D E o p F G I J K L M N O r s t u v w x y q:Value) (H:AHeap) (k:Value→AHeap→Prop):S52x0 k [d,z,A,n,P,Q,B,C,D,E,o,
 p,F,G,I,J,K,L,M,N,O,r,s,t,u,v,w,x,y,q] H=(@bnd (aBin2 prog H .quo 2 (.tmp 13) (.const (.int .i64 1000)) d (.int .i64 1000)) ⟨fun e=>@bndC prog 74
 [e,(.int .i64 10)] H ⟨fun f H7=>@bnd (aBin2 prog H7 .add 9 (.tmp 12) (.tmp 15) n f) ⟨fun b=>@bnd (aBin2 prog H7 .rem 2 (.tmp 17) (.const (.int .i64 1000)) d (.int .i64 1000)) ⟨fun a=>@bnd
 (aBin2 prog H7 .gtr 2 (.tmp 19) (.const (.int .i64 0)) a (.int .i64 0)) ⟨fun c=>@kifB c ⟨@bnd (aBin2 prog H7 .add 2 (.const (.int .i64 1000)) (.tmp 22) (.int .i64 1000) a) ⟨fun g=>@bndC
 prog 74 [g,(.int .i64 10)] H7 ⟨fun h H13=>@bnd (aSliceOp prog H13 9 h (some (.int .i64 1)) none) ⟨fun i=>@bndC prog 75 [i,(.string { data:=#[48] })] H13 ⟨fun j H16=>@bnd
 (aBin2 prog H16 .add 9 (.const (.string { data:=#[46] })) (.tmp 26) (.string { data:=#[46] }) j) ⟨fun l=>@bnd (aBin2 prog H16 .add 9 (.tmp 21) (.tmp 27) b l) ⟨fun m=>S52x1  k [d,z,
 A,n,m,a,B,C,D,E,o,p,n,d,e,f,b,d,a,a,c,b,a,g,h,i,j,l,m,q] H16⟩⟩⟩⟩⟩⟩⟩ ⟨S52x1  k [d,z,A,n,b,a,B,
 C,D,E,o,p,n,d,e,f,b,d,a,a,c,r,s,t,u,v,w,x,y,q] H7⟩⟩⟩⟩⟩⟩):=by kernel_rfl
theorem S52x1q (w x y z a A B C D E b c d e f g h i j l m n o p q r s t u v:Value) (H:AHeap) (k:Value→AHeap→Prop):S52x1 k [w,x,y,z,a,A,B,C,D,E,b,
 c,d,e,f,g,h,i,j,l,m,n,o,p,q,r,s,t,u,v] H=(k a H):=by kernel_rfl
-- tocsin/expr.strong
theorem d53 (a0:Value) (H:AHeap) (k:Value→AHeap→Prop):kbody prog Tryz.f53 [a0] H k=(@bndE (aNew H 54 a0) ⟨fun v1x1 H2=>@bndE (some (Value.map (some H2.length),H2++[AObj.map []])) ⟨fun v3x3 H4=>@bndS
 (aUpdate prog H4 117 v3x3 (.int .u8 2) (.int .i64 0)) ⟨fun _ H6=>@bndS (aUpdate prog H6 117 v3x3 (.int .u8 1) (.int .i64 1)) ⟨fun _ H8=>@bndS (aUpdate prog H8 117 v3x3 (.int .u8 3) (.int .i64 2)) ⟨fun _ H10
=>@bndS (aUpdate prog H10 117 v3x3 (.int .u8 0) (.int .i64 3)) ⟨fun _ H12=>@bnd (aFieldAddr prog H12 54 v1x1 0) ⟨fun v5x13=>@bnd (aLoad prog H12 5 v5x13) ⟨fun v6x14=>@bnd (aLookup prog H12 117 v3x3
 v6x14 false) ⟨fun v7x15=>k v7x15 H12⟩⟩⟩⟩⟩⟩⟩⟩⟩):=by kernel_rfl
-- tocsin/crc.row
def L54x0 (n:Nat) (k:Value→AHeap→Prop) (sl:List Value) (H:AHeap):Prop:=kit prog (cl (cl (cr (cl (cr (cr (cb Tryz.f54))))))) n (kblk 0 (kseq prog (cr (cr (cr (cb Tryz.f54)))) (kfin prog Tryz.f54 k)))
 .normal sl H
def L54x1 (n:Nat) (n0:Nat) (k:Value→AHeap→Prop) (sl:List Value) (H:AHeap):Prop:=kit prog (cl (cl (cr (cl (cr (cr (cl (cl (cr (cr (cl (cl (cr (cl (cr (cr (cb Tryz.f54))))))))))))))))) n (kblk 2 (kseq
 prog (cr (cr (cr (cl (cl (cr (cr (cl (cl (cr (cl (cr (cr (cb Tryz.f54)))))))))))))) (kblk 1 (kseq prog (cr (cr (cr (cl (cl (cr (cl (cr (cr (cb Tryz.f54)))))))))) (kit prog (cl (cl (cr (cl (cr (cr (cb
 Tryz.f54))))))) n0 (kblk 0 (kseq prog (cr (cr (cr (cb Tryz.f54)))) (kfin prog Tryz.f54 k)))))))) .normal sl H
theorem d54 (H:AHeap) (k:Value→AHeap→Prop):kbody prog Tryz.f54 [] H k=(@bndE (aAlloc prog H 118) ⟨fun v1x1 H2=>∃ n,L54x0 n  k [(.pointer none),v1x1,undef,undef,(.int .i64 0),undef,undef,undef,
 undef,undef,undef,undef,undef,undef,undef,undef,undef,undef] H2⟩):=by kernel_rfl
theorem L54x0q (n0:Nat) (o m p q a r s t u v d e f g h i j l:Value) (H:AHeap) (k:Value→AHeap→Prop):L54x0 (n0+1) k [o,m,p,q,a,r,s,t,u,v,d,e,f,g,h,i,
 j,l] H=(@bnd (aBin2 prog H .lss 3 (.tmp 4) (.const (.int .i64 256)) a (.int .i64 256)) ⟨fun b=>@kifB b ⟨@bnd (convV prog H 3 30 a) ⟨fun c=>∃ n,L54x1 n n0 k [o,m,a,c,a,b,a,a,
 c,(.int .i64 0),d,e,f,g,h,i,j,l] H⟩⟩ ⟨k m H⟩⟩):=by kernel_rfl
theorem L54x1q (n1:Nat) (n0:Nat) (r h g f s t u v w i x j l m n o p q:Value) (H:AHeap) (k:Value→AHeap→Prop):L54x1 (n1+1) n0 k [r,h,g,f,s,t,u,v,w,i,x,j,l,
 m,n,o,p,q] H=(@bnd (aBin2 prog H .lss 3 (.tmp 9) (.const (.int .i64 8)) i (.int .i64 8)) ⟨fun a=>@kifB a ⟨@bndC prog 76 [f] H ⟨fun c H7=>@bnd (aBin2 prog H7 .add 3 (.tmp 9)
 (.const (.int .i64 1)) i (.int .i64 1)) ⟨fun d=>L54x1 n1 n0 k [r,h,g,c,s,t,u,v,w,d,a,f,c,d,n,o,p,q] H7⟩⟩⟩ ⟨@bnd (aIndexAddr prog H 118 h g) ⟨fun e=>@bndS
 (aStore prog H 30 e f) ⟨fun _ H11=>@bnd (aBin2 prog H11 .add 3 (.tmp 4) (.const (.int .i64 1)) s (.int .i64 1)) ⟨fun b=>L54x0 n0  k [r,h,g,f,b,t,u,v,w,i,a,j,l,m,g,
 f,e,b] H11⟩⟩⟩⟩⟩):=by kernel_rfl
-- tocsin/crc.on
def L55x0 (n:Nat) (k:Value→AHeap→Prop) (sl:List Value) (H:AHeap):Prop:=kit prog (cl (cl (cr (cl (cr (cb Tryz.f55)))))) n (kblk 0 (kseq prog (cr (cr (cb Tryz.f55))) (kfin prog Tryz.f55 k))) .normal
 sl H
theorem d55 (a0 a1 a2:Value) (H:AHeap) (k:Value→AHeap→Prop):kbody prog Tryz.f55 [a0,a1,a2] H k=(@bnd (aLen prog H 45 a2) ⟨fun v10x1=>∃ n,L55x0 n  k [a0,a1,a2,undef,undef,undef,(.int .u32 0),
 undef,undef,a2,v10x1,(.int .i64 0),undef,undef,undef,undef,undef,undef,undef,undef,undef,undef,undef,undef,undef,undef,undef,undef] H⟩):=by kernel_rfl
theorem L55x0q (n0:Nat) (n p s t u v w x O r o e y z A B C D E F G I J K L M N q:Value) (H:AHeap) (k:Value→AHeap→Prop):L55x0 (n0+1) k [n,p,s,t,u,v,w,x,
 O,r,o,e,y,z,A,B,C,D,E,F,G,I,J,K,L,M,N,q] H=(@bnd (aBin2 prog H .lss 3 (.tmp 11) (.tmp 10) e o) ⟨fun f=>@kifB f ⟨@bnd (aIndexAddr prog H 45 r
 e) ⟨fun g=>@bnd (aLoad prog H 5 g) ⟨fun a=>@bnd (convV prog H 30 5 n) ⟨fun h=>@bnd (aBin2 prog H .xor 5 (.tmp 17) (.tmp 18) h a) ⟨fun i=>@bnd (nilV p) ⟨fun j=>@bnd
 (aIndexAddr prog H 118 j i) ⟨fun l=>@bnd (aLoad prog H 30 l) ⟨fun m=>@bnd (aBin2 prog H .shr 30 (.tmp 23) (.const (.int .u64 8)) n (.int .u64 8)) ⟨fun b=>@bnd (aBin2 prog H
 .xor 30 (.tmp 22) (.tmp 24) m b) ⟨fun c=>@bnd (aBin2 prog H .add 3 (.tmp 11) (.const (.int .i64 1)) e (.int .i64 1)) ⟨fun d=>L55x0 n0  k [c,p,s,t,u,v,w,x,a,r,o,d,
 f,g,a,p,n,h,a,i,j,l,m,n,b,c,d,q] H⟩⟩⟩⟩⟩⟩⟩⟩⟩⟩⟩ ⟨k n H⟩⟩):=by kernel_rfl
-- tocsin/tocsinref08.Same
def L56x0 (n:Nat) (k:Value→AHeap→Prop) (sl:List Value) (H:AHeap):Prop:=kit prog (cl (cl (cr (cl (cr (cr (cb Tryz.f56))))))) n (kblk 0 (kseq prog (cr (cr (cr (cb Tryz.f56)))) (kfin prog Tryz.f56 k)))
 .normal sl H
theorem d56 (a0 a1:Value) (H:AHeap) (k:Value→AHeap→Prop):kbody prog Tryz.f56 [a0,a1] H k=(@bnd (aLen prog H 52 a0) ⟨fun v7x1=>@bnd (aLen prog H 52 a1) ⟨fun v9x2=>@bnd (aBin2 prog H .neq 3
 (.tmp 7) (.tmp 9) v7x1 v9x2) ⟨fun v10x3=>@kifB v10x3 ⟨k (.bool false) H⟩ ⟨∃ n,L56x0 n  k [a0,a1,undef,undef,(.bool false),(.int .i64 0),a0,v7x1,a1,v9x2,v10x3,undef,undef,undef,undef,undef,undef,undef,undef,
 undef,undef,undef,undef,undef,undef,undef] H⟩⟩⟩⟩):=by kernel_rfl
theorem L56x0q (n0:Nat) (j l n o p a q r s t m u v w x y z A B C D E F G I J:Value) (H:AHeap) (k:Value→AHeap→Prop):L56x0 (n0+1) k [j,l,n,o,p,a,q,r,s,t,
 m,u,v,w,x,y,z,A,B,C,D,E,F,G,I,J] H=(@bnd (aLen prog H 52 j) ⟨fun d=>@bnd (aBin2 prog H .lss 3 (.tmp 11) (.tmp 13) a d) ⟨fun e=>@kifB e ⟨@bnd
 (aIndexAddr prog H 52 j a) ⟨fun f=>@bnd (aLoad prog H 56 f) ⟨fun g=>@bnd (aIndexAddr prog H 52 l a) ⟨fun h=>@bnd (aLoad prog H 56 h) ⟨fun i=>@bnd (aBin2 prog H .neq
 56 (.tmp 20) (.tmp 24) g i) ⟨fun b=>@kifB b ⟨k (.bool false) H⟩ ⟨@bnd (aBin2 prog H .add 3 (.tmp 15) (.const (.int .i64 1)) a (.int .i64 1)) ⟨fun c=>L56x0 n0  k [j,l,n,o,p,c,q,
 r,s,t,m,a,j,d,e,a,c,j,a,f,g,l,a,h,i,b] H⟩⟩⟩⟩⟩⟩⟩⟩ ⟨k (.bool true) H⟩⟩⟩):=by kernel_rfl
-- tocsin/tocsinref08.sign
theorem d57 (a0:Value) (H:AHeap) (k:Value→AHeap→Prop):kbody prog Tryz.f57 [a0] H k=(@bnd (aBin2 prog H .eql 5 (.tmp 3) (.const (.int .u8 1)) a0 (.int .u8 1)) ⟨fun v5x1=>@kifB v5x1 ⟨k (.string { data :=
 #[33,61] }) H⟩ ⟨@bnd (aBin2 prog H .eql 5 (.tmp 3) (.const (.int .u8 2)) a0 (.int .u8 2)) ⟨fun v7x2=>@kifB v7x2 ⟨k (.string { data:=#[94,61] }) H⟩ ⟨k (.string { data:=#[61] }) H⟩⟩⟩⟩):=by kernel_rfl
-- tocsin/tocsinref07.Quote
def L58x0 (n:Nat) (k:Value→AHeap→Prop) (sl:List Value) (H:AHeap):Prop:=kit prog (cl (cl (cr (cl (cr (cr (cb Tryz.f58))))))) n (kblk 0 (kseq prog (cr (cr (cr (cb Tryz.f58)))) (kfin prog Tryz.f58 k)))
 .normal sl H
def S58x0 (n0:Nat) (k:Value→AHeap→Prop) (sl:List Value) (H:AHeap):Prop:=kseq prog (cr (cl (cl (cr (cl (cl (cr (cl (cr (cr (cb Tryz.f58))))))))))) (kblk 1 (kseq prog (cr (cr (cl (cl (cr (cl (cr (cr (cb
 Tryz.f58))))))))) (kit prog (cl (cl (cr (cl (cr (cr (cb Tryz.f58))))))) n0 (kblk 0 (kseq prog (cr (cr (cr (cb Tryz.f58)))) (kfin prog Tryz.f58 k)))))) .normal sl H
theorem d58 (a0:Value) (H:AHeap) (k:Value→AHeap→Prop):kbody prog Tryz.f58 [a0] H k=(∃ n,L58x0 n  k [a0,undef,(.string { data:=#[] }),(.string { data:=#[34] }),(.int .i64 0),undef,undef,undef,undef,
 undef,undef,undef,undef,undef,undef,undef,undef,undef,undef,undef,undef,undef,undef,undef,undef,undef,undef,undef,undef,undef,undef,undef] H):=by kernel_rfl
theorem L58x0q (n0:Nat) (b B C n c P Q R S D o E F G I J K L M N O z A p q r s t u v w x:Value) (H:AHeap) (k:Value→AHeap→Prop):L58x0 (n0+1) k [b,B,C,n,
 c,P,Q,R,S,D,o,E,F,G,I,J,K,L,M,N,O,z,A,p,q,r,s,t,u,v,w,x] H=(@bnd (aLen prog H 9 b) ⟨fun l=>@bnd (aBin2 prog H .lss 3 (.tmp 5) (.tmp
 7) c l) ⟨fun m=>@kifB m ⟨@bnd (aIndex prog 9 b c) ⟨fun d=>@bnd (aBin2 prog H .eql 5 (.tmp 13) (.const (.int .u8 34)) d (.int .u8 34)) ⟨fun a=>@bnd (gif a false ((some b)) undef) ⟨fun
 e=>@bnd (gif a false ((some c)) undef) ⟨fun f=>@bnd (gif a false (aIndex prog 9 e f) undef) ⟨fun g=>@bnd (gif a false (aBin2 prog H .eql 5 (.tmp 18) (.const (.int .u8 92)) g
 (.int .u8 92)) undef) ⟨fun h=>@bnd (pickV a (.bool true) h) ⟨fun i=>@kifB i ⟨@bnd (aBin2 prog H .add 9 (.tmp 21) (.const (.string { data:=#[92] })) n (.string { data:=#[92] })) ⟨fun j =>
 S58x0 n0 k [b,B,C,j,c,c,b,l,m,D,o,b,c,d,a,a,e,f,g,h,i,n,j,p,q,r,s,t,u,v,w,x] H⟩⟩ ⟨S58x0 n0 k [b,B,C,n,c,c,
 b,l,m,D,o,b,c,d,a,a,e,f,g,h,i,z,A,p,q,r,s,t,u,v,w,x] H⟩⟩⟩⟩⟩⟩⟩⟩⟩ ⟨@bnd (aBin2 prog H .add 9 (.tmp 30) (.const (.string { data :=
 #[34] })) n (.string { data:=#[34] })) ⟨fun y=>k y H⟩⟩⟩⟩):=by kernel_rfl
theorem S58x0q (n0:Nat) (f w x v e y z A B L C g h i j l m n o p q r s D E F G I J K t u:Value) (H:AHeap) (k:Value→AHeap→Prop):S58x0 n0 k [f,w,x,v,e,
 y,z,A,B,L,C,g,h,i,j,l,m,n,o,p,q,r,s,D,E,F,G,I,J,K,t,u] H=(@bnd (aBin2 prog H .add 3 (.tmp 26) (.const (.int .i64 1)) e (.int .i64 1)) ⟨fun
 a=>@bnd (aSliceOp prog H 9 f (some e) (some a)) ⟨fun b=>@bnd (aBin2 prog H .add 9 (.tmp 23) (.tmp 28) v b) ⟨fun c=>@bnd (aBin2 prog H .add 3 (.tmp 9) (.const (.int .i64 1)) e
 (.int .i64 1)) ⟨fun d=>L58x0 n0  k [f,w,x,c,d,y,z,A,B,e,d,g,h,i,j,l,m,n,o,p,q,r,s,v,f,e,e,a,b,c,t,u] H⟩⟩⟩⟩):=by
 kernel_rfl
-- tocsin/tocsinref01.Sat
theorem d59 (a0:Value) (H:AHeap) (k:Value→AHeap→Prop):kbody prog Tryz.f59 [a0] H k=(@bnd (aBin2 prog H .gtr 2 (.tmp 3) (.const (.int .i64 4611686018427387903)) a0 (.int .i64 4611686018427387903)) ⟨fun v4x1
=>@kifB v4x1 ⟨k (.int .i64 4611686018427387903) H⟩ ⟨@bnd (aBin2 prog H .lss 2 (.tmp 5) (.const (.int .i64 (-4611686018427387903))) a0 (.int .i64 (-4611686018427387903))) ⟨fun v6x2=>@kifB v6x2 ⟨k (.int .i64
 (-4611686018427387903)) H⟩ ⟨k a0 H⟩⟩⟩⟩):=by kernel_rfl
-- tocsin/tocsinref09.All
def L60x0 (n:Nat) (k:Value→AHeap→Prop) (sl:List Value) (H:AHeap):Prop:=kit prog (cl (cl (cl (cr (cr (cr (cr (cb Tryz.f60)))))))) n (kblk 0 (kseq prog (cr (cr (cr (cr (cr (cb Tryz.f60)))))) (kfin
 prog Tryz.f60 k))) .normal sl H
def L60x1 (n:Nat) (n0:Nat) (k:Value→AHeap→Prop) (sl:List Value) (H:AHeap):Prop:=kit prog (cl (cl (cl (cl (cr (cl (cr (cl (cr (cl (cl (cl (cr (cr (cr (cr (cb Tryz.f60))))))))))))))))) n (kblk 2 (kseq
 prog (cr (cl (cr (cl (cr (cl (cr (cl (cl (cl (cr (cr (cr (cr (cb Tryz.f60))))))))))))))) (kseq prog (cr (cr (cl (cr (cl (cl (cl (cr (cr (cr (cr (cb Tryz.f60)))))))))))) (kblk 1 (kit prog (cl (cl (cl (cr (cr (cr
 (cr (cb Tryz.f60)))))))) n0 (kblk 0 (kseq prog (cr (cr (cr (cr (cr (cb Tryz.f60)))))) (kfin prog Tryz.f60 k)))))))) .normal sl H
theorem d60 (a0:Value) (H:AHeap) (k:Value→AHeap→Prop):kbody prog Tryz.f60 [a0] H k=(@bnd (aLen prog H 9 a0) ⟨fun v9x1=>@bnd (aBin2 prog H .gtr 3 (.tmp 9) (.const (.int .i64 4096)) v9x1 (.int .i64
 4096)) ⟨fun v10x2=>@kifB v10x2 ⟨k (.tuple #[(.slice none 0 0),(.int .i64 0),(.int .i64 3)]) H⟩ ⟨∃ n,L60x0 n  k [a0,undef,(.slice none 0 0),(.int .i64 0),(.int .i64 0),(.slice none 0 0),(.int .i64 0),undef,a0,v9x1,
 v10x2,undef,undef,undef,undef,undef,undef,undef,undef,undef,undef,undef,undef,undef,undef,undef,undef,undef,undef,undef,undef,undef,undef,undef,undef,undef,undef,undef,undef,undef,undef,undef,
 undef,undef,undef,undef,undef,undef,undef,undef,undef] H⟩⟩⟩):=by kernel_rfl
theorem L60x0q (n0:Nat) (b s1 s2 s3 s4 L a s7 s8 s9 u ae af ag ah ai aj ak al M N aa ab ac ad v w x y z A B C D E F G O P Q R S T I U V W X Y Z J:Value)
 (H:AHeap) (k:Value→AHeap→Prop):L60x0 (n0+1) k [b,s1,s2,s3,s4,L,a,s7,s8,s9,u,ae,af,ag,ah,ai,aj,ak,al,M,N,aa,ab,ac,ad,v,w,x,y,z,A,B,C,D,E,
 F,G,O,P,Q,R,S,T,I,U,V,W,X,Y,Z,J] H=(@bnd (aLen prog H 9 b) ⟨fun d=>@bnd (aBin2 prog H .lss 3 (.tmp 11) (.tmp 13) a d) ⟨fun e=>@kifB e ⟨@bnd
 (aIndex prog 9 b a) ⟨fun f=>@bndC prog 77 [f] H ⟨fun g H7=>@kifB g ⟨@bnd (aBin2 prog H7 .add 3 (.tmp 19) (.const (.int .i64 1)) a (.int .i64 1)) ⟨fun K=>L60x0 n0  k [b,s1,s2,s3,
 s4,L,K,s7,s8,s9,u,a,b,d,e,b,a,f,g,a,K,aa,ab,ac,ad,v,w,x,y,z,A,B,C,D,E,F,G,O,P,Q,R,S,T,I,U,V,W,X,Y,
 Z,J] H7⟩⟩ ⟨@bnd (aIndex prog 9 b a) ⟨fun i=>@bnd (aBin2 prog H7 .eql 5 (.tmp 23) (.const (.int .u8 35)) i (.int .u8 35)) ⟨fun h=>@kifB h ⟨∃ n,L60x1 n n0 k [b,s1,s2,s3,s4,L,a,s7,
 s8,s9,u,a,b,d,e,b,a,f,g,M,N,b,a,i,h,v,w,x,y,z,A,B,C,D,E,F,G,O,P,Q,R,S,T,I,U,V,W,X,Y,Z,J] H7⟩
 ⟨@bndC prog 78 [b,a] H7 ⟨fun j H12=>@bndE (aAlloc prog H12 122) ⟨fun c H14=>@bndS (aStore prog H14 122 c j) ⟨fun _ H16=>@bnd (aFieldAddr prog H16 122 c 0) ⟨fun l=>@bnd
 (aLoad prog H16 5 l) ⟨fun m=>@bnd (aBin2 prog H16 .eql 5 (.tmp 41) (.const (.int .u8 0)) m (.int .u8 0)) ⟨fun o=>@kifB o ⟨k (.tuple #[(.slice none 0 0),a,(.int .i64 90)]) H16⟩ ⟨@bnd
 (aLoad prog H16 122 c) ⟨fun p=>@bndL prog H16 80 1 [(0,p)] ⟨fun q H22=>@bndE (aBuiltin prog H22 Builtin.append #[80,80] [L,q]) ⟨fun r H24=>@bnd (aFieldAddr prog H24 122
 c 3) ⟨fun s=>@bnd (aLoad prog H24 3 s) ⟨fun t=>L60x0 n0  k [b,s1,s2,s3,s4,r,t,c,s8,s9,u,a,b,d,e,b,a,f,g,M,N,b,a,i,h,v,
 w,x,y,z,A,B,C,D,E,F,G,b,a,j,l,m,o,I,L,p,q,r,s,t,J] H24⟩⟩⟩⟩⟩⟩⟩⟩⟩⟩⟩⟩⟩⟩⟩⟩⟩⟩⟩ ⟨k (.tuple #[L,(.int .i64 0),(.int .i64 0)]) H⟩⟩⟩)
:=by kernel_rfl
theorem L60x1q (n1:Nat) (n0:Nat) (j R S T U V h W X Y l m n o p q r s t u v w x y z Z aa ab ac ad ae af ag ah ai P Q A B C D E F G I J K L M N
 O:Value) (H:AHeap) (k:Value→AHeap→Prop):L60x1 (n1+1) n0 k [j,R,S,T,U,V,h,W,X,Y,l,m,n,o,p,q,r,s,t,u,v,w,x,y,z,Z,aa,ab,ac,ad,ae,af,
 ag,ah,ai,P,Q,A,B,C,D,E,F,G,I,J,K,L,M,N,O] H=(@bnd (aLen prog H 9 j) ⟨fun b=>@bnd (aBin2 prog H .lss 3 (.tmp 25) (.tmp 27) h b) ⟨fun a=>@bnd
 (gif a true ((some j)) undef) ⟨fun c=>@bnd (gif a true ((some h)) undef) ⟨fun d=>@bnd (gif a true (aIndex prog 9 c d) undef) ⟨fun e=>@bnd (gif a true (aBin2 prog H
 .neq 5 (.tmp 32) (.const (.int .u8 10)) e (.int .u8 10)) undef) ⟨fun f=>@bnd (pickV a f (.bool false)) ⟨fun g=>@kifB g ⟨@bnd (aBin2 prog H .add 3 (.tmp 35) (.const (.int .i64 1)) h (.int
 .i64 1)) ⟨fun i=>L60x1 n1 n0 k [j,R,S,T,U,V,i,W,X,Y,l,m,n,o,p,q,r,s,t,u,v,w,x,y,z,h,j,b,a,a,c,d,e,f,
 g,h,i,A,B,C,D,E,F,G,I,J,K,L,M,N,O] H⟩⟩ ⟨L60x0 n0  k [j,R,S,T,U,V,h,W,X,Y,l,m,n,o,p,q,r,s,t,u,v,w,x,y,z,h,
 j,b,a,a,c,d,e,f,g,P,Q,A,B,C,D,E,F,G,I,J,K,L,M,N,O] H⟩⟩⟩⟩⟩⟩⟩⟩):=by kernel_rfl
-- tocsin/tocsinref10.row
def L61x0 (n:Nat) (k:Value→AHeap→Prop) (sl:List Value) (H:AHeap):Prop:=kit prog (cl (cl (cl (cr (cr (cb Tryz.f61)))))) n (kblk 0 (kseq prog (cr (cr (cr (cb Tryz.f61)))) (kfin prog Tryz.f61 k)))
 .normal sl H
def S61x0 (n0:Nat) (k:Value→AHeap→Prop) (sl:List Value) (H:AHeap):Prop:=kseq prog (cr (cr (cr (cr (cr (cl (cr (cl (cl (cl (cr (cr (cb Tryz.f61))))))))))))) (kblk 1 (kit prog (cl (cl (cl (cr (cr (cb
 Tryz.f61)))))) n0 (kblk 0 (kseq prog (cr (cr (cr (cb Tryz.f61)))) (kfin prog Tryz.f61 k))))) .normal sl H
theorem d61 (a0 a1 a2 a3:Value) (H:AHeap) (k:Value→AHeap→Prop):kbody prog Tryz.f61 [a0,a1,a2,a3] H k=(@bndC prog 79 [a0,a1,a2,a3] H ⟨fun v21x1 H2=>@bnd (tupV v21x1 0) ⟨fun v22x3=>@bnd (tupV v21x1
 1) ⟨fun v23x4=>∃ n,L61x0 n  k [a0,a1,a2,a3,undef,undef,undef,undef,(.slice none 0 0),(.int .i64 0),v22x3,v23x4,undef,undef,undef,undef,v21x1,a0,a1,a2,a3,v21x1,v22x3,v23x4,undef,undef,undef,undef,
 undef,undef,undef,undef,undef,undef,undef,undef,undef,undef,undef,undef,undef,undef,undef,undef,undef,undef,undef,undef,undef,undef,undef,undef,undef,undef,undef,undef,undef,undef,undef,undef,
 undef,undef,undef,undef,undef,undef,undef,undef,undef] H2⟩⟩⟩):=by kernel_rfl
theorem L61x0q (n0:Nat) (C U l x V W X Y Z s9 f g aa ab ac ad D E F G I J K L ae af ag ah ai aj ak al am an ao ap aq ar au av aw ax ay az aA aB aC aD aE aF aG aH aI
 aJ aK aL aM aN aO aP aQ T M N O P Q R S:Value) (H:AHeap) (k:Value→AHeap→Prop):L61x0 (n0+1) k [C,U,l,x,V,W,X,Y,Z,s9,f,g,aa,ab,ac,ad,D,E,F,G,I,
 J,K,L,ae,af,ag,ah,ai,aj,ak,al,am,an,ao,ap,aq,ar,au,av,aw,ax,ay,az,aA,aB,aC,aD,aE,aF,aG,aH,aI,aJ,aK,aL,aM,aN,aO,aP,aQ,T,M,N,O,P,
 Q,R,S] H=(@bnd (aBin2 prog H .geq 3 (.tmp 24) (.const (.int .i64 0)) g (.int .i64 0)) ⟨fun a=>@bnd (gif a true ((some C)) undef) ⟨fun y=>@bnd (gif a true ((some g)) undef) ⟨fun z =>
 @bnd (gif a true ((some x)) undef) ⟨fun A=>@bndG a true H ⟨fun h H10=>ACalls prog 80 [y,z,(.int .u8 1),A] H h H10⟩ ⟨fun h H10=>@bnd (pickV a h (.bool false)) ⟨fun
 m=>@kifB m ⟨@bnd (aLen prog H10 32 f) ⟨fun n=>@bnd (aBin2 prog H10 .add 3 (.tmp 32) (.tmp 34) l n) ⟨fun o=>@bnd (aBin2 prog H10 .sub 3 (.tmp 35) (.const (.int .i64 1)) o
 (.int .i64 1)) ⟨fun b=>@bnd (aBin2 prog H10 .add 3 (.tmp 39) (.const (.int .i64 1)) g (.int .i64 1)) ⟨fun p=>@bnd (aLen prog H10 32 f) ⟨fun q=>@bnd (aBin2 prog H10 .add 3 (.tmp 41) (.tmp
 43) l q) ⟨fun r=>@bndC prog 79 [C,p,r,x] H10 ⟨fun e H19=>@bnd (tupV e 0) ⟨fun c=>@bnd (tupV e 1) ⟨fun i=>@bndE (aBuiltin prog H19 Builtin.append #[32,32]
 [f,c]) ⟨fun d H23=>@bnd (aLen prog H23 32 d) ⟨fun s=>@bnd (aBin2 prog H23 .add 3 (.tmp 53) (.tmp 55) l s) ⟨fun t=>@bnd (aBin2 prog H23 .sub 3 (.tmp 56) (.const (.int .i64
 1)) t (.int .i64 1)) ⟨fun u=>@bnd (buildV prog 54 [(0,(.int .u8 2)),(6,b),(7,u)]) ⟨fun v=>@bndE (aAlloc prog H23 54) ⟨fun j H29=>@bndS (aStore prog H29 54 j v)
 ⟨fun _ H31=>@bnd (aBin2 prog H31 .eql 9 (.tmp 59) (.const (.string { data:=#[97,110,100] })) x (.string { data:=#[97,110,100] })) ⟨fun w=>@kifB w ⟨@bnd (aFieldAddr prog H31 54 j 0) ⟨fun
 B=>@bndS (aStore prog H31 5 B (.int .u8 1)) ⟨fun _ H35=>S61x0 n0 k [C,U,l,x,V,W,X,Y,Z,s9,d,g,b,c,i,j,D,E,F,G,I,J,K,L,g,a,
 a,y,z,A,h,m,l,f,n,o,b,e,C,g,p,l,f,q,r,x,e,c,i,f,c,d,b,l,d,s,t,u,v,
 x,w,B,M,N,O,P,Q,R,S] H35⟩⟩⟩ ⟨S61x0 n0 k [C,U,l,x,V,W,X,Y,Z,s9,d,g,b,c,i,j,D,E,F,G,I,J,K,L,g,a,a,y,
 z,A,h,m,l,f,n,o,b,e,C,g,p,l,f,q,r,x,e,c,i,f,c,d,b,l,d,s,t,u,v,x,w,
 T,M,N,O,P,Q,R,S] H31⟩⟩⟩⟩⟩⟩⟩⟩⟩⟩⟩⟩⟩⟩⟩⟩⟩⟩⟩ ⟨k (.tuple #[f,g]) H10⟩⟩⟩⟩⟩⟩⟩):=by kernel_rfl
theorem S61x0q (n0:Nat) (s0 s1 s2 s3 s4 s5 s6 s7 s8 s9 e ag g h d f i j l m n o p q r s t u v w x y z A B C D E F G I J K L M N O P Q R S T U
 V W X Y Z aa ab ac ad ah ai aj ak al ae af:Value) (H:AHeap) (k:Value→AHeap→Prop):S61x0 n0 k [s0,s1,s2,s3,s4,s5,s6,s7,s8,s9,e,ag,g,h,d,f,i,j,l,m,n,o,
 p,q,r,s,t,u,v,w,x,y,z,A,B,C,D,E,F,G,I,J,K,L,M,N,O,P,Q,R,S,T,U,V,W,X,Y,Z,aa,ab,ac,ad,ah,ai,aj,ak,al,
 ae,af] H=(@bnd (aLoad prog H 54 f) ⟨fun a=>@bndL prog H 32 1 [(0,a)] ⟨fun b H38=>@bndE (aBuiltin prog H38 Builtin.append #[32,32] [e,b]) ⟨fun c H40=>L61x0 n0  k [s0,s1,
 s2,s3,s4,s5,s6,s7,s8,s9,c,d,g,h,d,f,i,j,l,m,n,o,p,q,r,s,t,u,v,w,x,y,z,A,B,C,D,E,F,G,I,J,K,L,M,N,O,P,
 Q,R,S,T,U,V,W,X,Y,Z,aa,ab,ac,ad,e,a,b,c,d,ae,af] H40⟩⟩⟩):=by kernel_rfl
-- internal/strconv.small
theorem d64 (a0:Value) (H:AHeap) (k:Value→AHeap→Prop):kbody prog Tryz.f64 [a0] H k=(@bnd (aBin2 prog H .lss 3 (.tmp 3) (.const (.int .i64 10)) a0 (.int .i64 10)) ⟨fun e=>@kifB e ⟨@bnd (aBin2
 prog H .add 3 (.tmp 6) (.const (.int .i64 1)) a0 (.int .i64 1)) ⟨fun f=>@bnd (aSliceOp prog H 9 (.string dgS) (some a0) (some f)) ⟨fun g=>k g H⟩⟩⟩ ⟨@bnd (aBin2 prog H .mul 3 (.tmp 9) (.const (.int
 .i64 2)) a0 (.int .i64 2)) ⟨fun a=>@bnd (aBin2 prog H .mul 3 (.tmp 11) (.const (.int .i64 2)) a0 (.int .i64 2)) ⟨fun b=>@bnd (aBin2 prog H .add 3 (.tmp 12) (.const (.int .i64 2)) b (.int .i64 2)) ⟨fun
 c=>@bnd (aSliceOp prog H 9 (.string smS) (some a) (some c)) ⟨fun d=>k d H⟩⟩⟩⟩⟩⟩):=by kernel_rfl
-- internal/strconv.numDigits
theorem d65 (a0:Value) (H:AHeap) (k:Value→AHeap→Prop):kbody prog Tryz.f65 [a0] H k=(@bndC prog 82 [a0] H ⟨fun g H2=>@bndC prog 81 [g] H2 ⟨fun a H4=>@bnd (aIndexAddr prog H4 127
 (.pointer (some ⟨1,0,none⟩)) a) ⟨fun c=>@bnd (aLoad prog H4 103 c) ⟨fun d=>@bnd (aBin2 prog H4 .geq 103 (.tmp 8) (.tmp 11) a0 d) ⟨fun e=>@bndC prog 83 [e] H4 ⟨fun f H9 =>
 @bnd (aBin2 prog H9 .add 3 (.tmp 7) (.tmp 13) a f) ⟨fun b=>k b H9⟩⟩⟩⟩⟩⟩⟩):=by kernel_rfl
-- tocsin/expr.plain
theorem d68 (a0:Value) (H:AHeap) (k:Value→AHeap→Prop):kbody prog Tryz.f68 [a0] H k=(@bndE (aNew H 54 a0) ⟨fun c H2=>@bnd (aFieldAddr prog H2 54 c 1) ⟨fun N=>@bnd (aLoad prog H2 5 N)
 ⟨fun O=>@bnd (convV prog H2 5 3 O) ⟨fun P=>@bndD false H2 ⟨fun m H7=>ACalls prog 49 [] H2 m H7⟩ ⟨fun m H7=>@bnd (aLen prog H7 33 m) ⟨fun Q=>@bnd (aBin2 prog H7 .lss 3 (.tmp
 5) (.tmp 7) P Q) ⟨fun l=>@bnd (gif l true (aFieldAddr prog H7 54 c 2) undef) ⟨fun n=>@bnd (gif l true (aLoad prog H7 52 n) undef) ⟨fun o=>@bndD true H7 ⟨fun d H13=>gifp
 l true (ACalls prog 86 [o] H7 d H13) (d=undef∧H13=H7)⟩ ⟨fun d H13=>@bnd (pickV l d (.bool false)) ⟨fun e=>@bnd (gif e true (aFieldAddr prog H13 54 c 3) undef) ⟨fun
 p=>@bnd (gif e true (aLoad prog H13 3 p) undef) ⟨fun q=>@bnd (gif e true (aBin2 prog H13 .geq 3 (.tmp 16) (.const (.int .i64 1)) q (.int .i64 1)) undef) ⟨fun r=>@bnd (pickV
 e r (.bool false)) ⟨fun f=>@bnd (gif f true (aFieldAddr prog H13 54 c 3) undef) ⟨fun s=>@bnd (gif f true (aLoad prog H13 3 s) undef) ⟨fun t=>@bnd (gif f true
 (aBin2 prog H13 .leq 3 (.tmp 21) (.const (.int .i64 1000)) t (.int .i64 1000)) undef) ⟨fun u=>@bnd (pickV f u (.bool false)) ⟨fun a=>@bnd (gif a true (aFieldAddr prog H13 54 c 4)
 undef) ⟨fun v=>@bnd (gif a true (aLoad prog H13 5 v) undef) ⟨fun w=>@bnd (gif a true (convV prog H13 5 3 w) undef) ⟨fun x=>@bndD false H13 ⟨fun g H27=>gifp a true
 (ACalls prog 51 [] H13 g H27) (g=undef∧H27=H13)⟩ ⟨fun g H27=>@bnd (gif a true (aLen prog H27 33 g) undef) ⟨fun y=>@bnd (gif a true (aBin2 prog H27 .lss 3 (.tmp 27)
 (.tmp 29) x y) undef) ⟨fun z=>@bnd (pickV a z (.bool false)) ⟨fun b=>@bnd (gif b true (aFieldAddr prog H27 54 c 5) undef) ⟨fun A=>@bnd (gif b true (aLoad prog H27
 2 A) undef) ⟨fun B=>@bndD false H27 ⟨fun h H34=>gifp b true (ACalls prog 73 [B] H27 h H34) (h=undef∧H34=H27)⟩ ⟨fun h H34=>@bnd (gif b true (aFieldAddr prog H27
 54 c 5) undef) ⟨fun C=>@bnd (gif b true (aLoad prog H27 2 C) undef) ⟨fun D=>@bnd (gif b true (aBin2 prog H34 .eql 2 (.tmp 35) (.tmp 37) h D) undef) ⟨fun E=>@bnd (pickV
 b E (.bool false)) ⟨fun i=>@bnd (gif i true (aFieldAddr prog H34 54 c 6) undef) ⟨fun F=>@bnd (gif i true (aLoad prog H34 3 F) undef) ⟨fun G=>@bnd (gif i true
 (aBin2 prog H34 .eql 3 (.tmp 42) (.const (.int .i64 0)) G (.int .i64 0)) undef) ⟨fun I=>@bnd (pickV i I (.bool false)) ⟨fun j=>@bnd (gif j true (aFieldAddr prog H34 54 c 7) undef)
 ⟨fun J=>@bnd (gif j true (aLoad prog H34 3 J) undef) ⟨fun K=>@bnd (gif j true (aBin2 prog H34 .eql 3 (.tmp 47) (.const (.int .i64 0)) K (.int .i64 0)) undef) ⟨fun L=>@bnd
 (pickV j L (.bool false)) ⟨fun M=>k M H34⟩⟩⟩⟩⟩⟩⟩⟩⟩⟩⟩⟩⟩⟩⟩⟩⟩⟩⟩⟩⟩⟩⟩⟩⟩⟩⟩⟩⟩⟩⟩⟩⟩⟩⟩⟩⟩⟩⟩⟩⟩):=by kernel_rfl
end Go.Vi
namespace Go.Vi
open Go Go.Proofs Go.Proofs.Tryz
-- tocsin/expr.void
theorem d69 (a0:Value) (H:AHeap) (k:Value→AHeap→Prop):kbody prog Tryz.f69 [a0] H k=(@bndE (aNew H 54 a0) ⟨fun d H2=>@bnd (aFieldAddr prog H2 54 d 1) ⟨fun r=>@bnd (aLoad prog H2 5 r)
 ⟨fun s=>@bnd (aBin2 prog H2 .eql 5 (.tmp 4) (.const (.int .u8 0)) s (.int .u8 0)) ⟨fun e=>@bnd (gif e true (aFieldAddr prog H2 54 d 2) undef) ⟨fun t=>@bnd (gif e true (aLoad prog H2 52
 t) undef) ⟨fun u=>@bnd (gif e true (aLen prog H2 52 u) undef) ⟨fun v=>@bnd (gif e true (aBin2 prog H2 .eql 3 (.tmp 9) (.const (.int .i64 0)) v (.int .i64 0)) undef) ⟨fun q=>@bnd (pickV
 e q (.bool false)) ⟨fun a=>@bnd (gif a true (aFieldAddr prog H2 54 d 3) undef) ⟨fun f=>@bnd (gif a true (aLoad prog H2 3 f) undef) ⟨fun g=>@bnd (gif a true (aBin2
 prog H2 .eql 3 (.tmp 14) (.const (.int .i64 0)) g (.int .i64 0)) undef) ⟨fun h=>@bnd (pickV a h (.bool false)) ⟨fun b=>@bnd (gif b true (aFieldAddr prog H2 54 d 4) undef) ⟨fun
 i=>@bnd (gif b true (aLoad prog H2 5 i) undef) ⟨fun j=>@bnd (gif b true (aBin2 prog H2 .eql 5 (.tmp 19) (.const (.int .u8 0)) j (.int .u8 0)) undef) ⟨fun l=>@bnd (pickV b
 l (.bool false)) ⟨fun c=>@bnd (gif c true (aFieldAddr prog H2 54 d 5) undef) ⟨fun m=>@bnd (gif c true (aLoad prog H2 2 m) undef) ⟨fun n=>@bnd (gif c true (aBin2
 prog H2 .eql 2 (.tmp 24) (.const (.int .i64 0)) n (.int .i64 0)) undef) ⟨fun o=>@bnd (pickV c o (.bool false)) ⟨fun p=>k p H2⟩⟩⟩⟩⟩⟩⟩⟩⟩⟩⟩⟩⟩⟩⟩⟩⟩⟩⟩⟩⟩):=by kernel_rfl
-- tocsin/match.ops
theorem d70 (H:AHeap) (k:Value→AHeap→Prop):kbody prog Tryz.f70 [] H k=(@bndE (some (Value.map (some H.length),H++[AObj.map []])) ⟨fun v1x1 H2=>@bnd (buildV prog 113 [(0,(.string { data:=#[61] })),
 (1,(.func (.func 87) #[] #[]))]) ⟨fun v2x3=>@bndS (aUpdate prog H2 109 v1x1 (.int .u8 0) v2x3) ⟨fun _ H5=>@bnd (buildV prog 113 [(0,(.string { data:=#[33,61] })),(1,(.func (.func 88) #[] #[]))]) ⟨fun v3x6
=>@bndS (aUpdate prog H5 109 v1x1 (.int .u8 1) v3x6) ⟨fun _ H8=>@bnd (buildV prog 113 [(0,(.string { data:=#[94,61] })),(1,(.func (.func 89) #[] #[]))]) ⟨fun v4x9=>@bndS (aUpdate prog H8 109 v1x1 (.int
 .u8 2) v4x9) ⟨fun _ H11=>k v1x1 H11⟩⟩⟩⟩⟩⟩⟩):=by kernel_rfl
-- tocsin/match.joined
theorem d71 (a0:Value) (H:AHeap) (k:Value→AHeap→Prop):kbody prog Tryz.f71 [a0] H k=(@bndC prog 16 [a0,(.string { data:=#[] })] H ⟨fun v4x1 H2=>k v4x1 H2⟩):=by kernel_rfl
-- tocsin/labels.Quote
def L72x0 (n:Nat) (k:Value→AHeap→Prop) (sl:List Value) (H:AHeap):Prop:=kit prog (cl (cl (cr (cl (cr (cr (cr (cb Tryz.f72)))))))) n (kblk 0 (kseq prog (cr (cr (cr (cr (cb Tryz.f72))))) (kfin prog
 Tryz.f72 k))) .normal sl H
def S72x0 (n0:Nat) (k:Value→AHeap→Prop) (sl:List Value) (H:AHeap):Prop:=kseq prog (cr (cr (cl (cl (cr (cr (cl (cl (cr (cl (cr (cr (cr (cb Tryz.f72)))))))))))))) (kblk 1 (kseq prog (cr (cr (cr (cl (cl (cr
 (cl (cr (cr (cr (cb Tryz.f72))))))))))) (kit prog (cl (cl (cr (cl (cr (cr (cr (cb Tryz.f72)))))))) n0 (kblk 0 (kseq prog (cr (cr (cr (cr (cb Tryz.f72))))) (kfin prog Tryz.f72 k)))))) .normal sl H
theorem d72 (a0:Value) (H:AHeap) (k:Value→AHeap→Prop):kbody prog Tryz.f72 [a0] H k=(@bndE (aAlloc prog H 65) ⟨fun v3x1 H2=>@bndC prog 90 [v3x1,(.int .u8 34)] H2 ⟨fun v5x3 H4=>@bnd (aLen prog
 H4 9 a0) ⟨fun v7x5=>∃ n,L72x0 n  k [a0,undef,(.string { data:=#[] }),v3x1,undef,v5x3,a0,v7x5,(.int .i64 0),undef,undef,undef,undef,undef,undef,undef,undef,undef,undef,undef,undef,undef,undef,undef,
 undef,undef,undef,undef,undef] H4⟩⟩⟩):=by kernel_rfl
theorem L72x0q (n0:Nat) (i x y l N z A v b O B C D E F G I J K L M w m n o p q r s:Value) (H:AHeap) (k:Value→AHeap→Prop):L72x0 (n0+1) k [i,x,y,l,N,z,A,
 v,b,O,B,C,D,E,F,G,I,J,K,L,M,w,m,n,o,p,q,r,s] H=(@bnd (aBin2 prog H .lss 3 (.tmp 8) (.tmp 7) b v) ⟨fun j=>@kifB j ⟨@bnd (aIndex prog 9 i b)
 ⟨fun g=>@bnd (aBin2 prog H .eql 5 (.tmp 13) (.const (.int .u8 34)) g (.int .u8 34)) ⟨fun a=>@bnd (gif a false ((some i)) undef) ⟨fun h=>@bnd (gif a false ((some b)) undef) ⟨fun c =>
 @bnd (gif a false (aIndex prog 9 h c) undef) ⟨fun d=>@bnd (gif a false (aBin2 prog H .eql 5 (.tmp 18) (.const (.int .u8 92)) d (.int .u8 92)) undef) ⟨fun e=>@bnd (pickV a (.bool
 true) e) ⟨fun f=>@kifB f ⟨@bndC prog 90 [l,(.int .u8 92)] H ⟨fun t H15=>S72x0 n0 k [i,x,y,l,b,z,A,v,b,j,b,i,b,g,a,a,h,c,d,e,
 f,t,m,n,o,p,q,r,s] H15⟩⟩ ⟨S72x0 n0 k [i,x,y,l,b,z,A,v,b,j,b,i,b,g,a,a,h,c,d,e,f,w,m,n,o,p,q,r,s]
 H⟩⟩⟩⟩⟩⟩⟩⟩⟩ ⟨@bndC prog 90 [l,(.int .u8 34)] H ⟨fun _ H17=>@bndC prog 29 [l] H17 ⟨fun u H19=>k u H19⟩⟩⟩⟩):=by kernel_rfl
theorem S72x0q (n0:Nat) (d v w u e x y z A B f g h i j l m n o p q r C D E F G s t:Value) (H:AHeap) (k:Value→AHeap→Prop):S72x0 n0 k [d,v,w,u,e,x,y,z,
 A,B,f,g,h,i,j,l,m,n,o,p,q,r,C,D,E,F,G,s,t] H=(@bnd (aIndex prog 9 d e) ⟨fun a=>@bndC prog 90 [u,a] H ⟨fun c H22=>@bnd (aBin2
 prog H22 .add 3 (.tmp 8) (.const (.int .i64 1)) A (.int .i64 1)) ⟨fun b=>L72x0 n0  k [d,v,w,u,e,x,y,z,b,B,f,g,h,i,j,l,m,n,o,p,q,r,d,e,a,c,
 b,s,t] H22⟩⟩⟩):=by kernel_rfl
-- tocsin/fixed.Sat
theorem d73 (a0:Value) (H:AHeap) (k:Value→AHeap→Prop):kbody prog Tryz.f73 [a0] H k=(@bndE (aBuiltin prog H Builtin.max #[2,2] [a0,(.int .i64 (-4611686018427387903))]) ⟨fun v4x1 H2=>@bndE (aBuiltin
 prog H2 Builtin.min #[2,2] [v4x1,(.int .i64 4611686018427387903)]) ⟨fun v5x3 H4=>k v5x3 H4⟩⟩):=by kernel_rfl
-- strconv.FormatInt
theorem d74 (a0 a1:Value) (H:AHeap) (k:Value→AHeap→Prop):kbody prog Tryz.f74 [a0,a1] H k=(@bndC prog 47 [a0,a1] H ⟨fun v7x1 H2=>k v7x1 H2⟩):=by kernel_rfl
-- strings.TrimRight
theorem d75 (a0 a1:Value) (H:AHeap) (k:Value→AHeap→Prop):kbody prog Tryz.f75 [a0,a1] H k=(@bnd (aBin2 prog H .eql 9 (.tmp 7) (.const (.string { data:=#[] })) a0 (.string { data:=#[] })) ⟨fun c =>
 @bnd (gif c false ((some a1)) undef) ⟨fun m=>@bnd (gif c false (aBin2 prog H .eql 9 (.tmp 10) (.const (.string { data:=#[] })) m (.string { data:=#[] })) undef) ⟨fun n=>@bnd (pickV c (.bool
 true) n) ⟨fun o=>@kifB o ⟨k a0 H⟩ ⟨@bnd (aLen prog H 9 a1) ⟨fun p=>@bnd (aBin2 prog H .eql 3 (.tmp 15) (.const (.int .i64 1)) p (.int .i64 1)) ⟨fun a=>@bnd (gif a true ((some a1))
 undef) ⟨fun q=>@bnd (gif a true (aIndex prog 9 q (.int .i64 0)) undef) ⟨fun r=>@bnd (gif a true (aBin2 prog H .lss 5 (.tmp 19) (.const (.int .u8 128)) r (.int .u8 128)) undef) ⟨fun s =>
 @bnd (pickV a s (.bool false)) ⟨fun e=>@kifB e ⟨@bnd (aIndex prog 9 a1 (.int .i64 0)) ⟨fun f=>@bndC prog 91 [a0,f] H ⟨fun g H13=>k g H13⟩⟩⟩ ⟨@bndC prog 92 [a1] H ⟨fun
 b H15=>@bnd (tupV b 0) ⟨fun h=>@bnd (tupV b 1) ⟨fun i=>@bndE (aAlloc prog H15 135) ⟨fun d H19=>@bndS (aStore prog H19 135 d h) ⟨fun _ H21=>@kifB i ⟨@bndC prog
 93 [a0,d] H21 ⟨fun j H23=>k j H23⟩⟩ ⟨@bndC prog 94 [a0,a1] H21 ⟨fun l H25=>k l H25⟩⟩⟩⟩⟩⟩⟩⟩⟩⟩⟩⟩⟩⟩⟩⟩⟩⟩⟩):=by kernel_rfl
-- tocsin/crc.up
theorem d76 (a0:Value) (H:AHeap) (k:Value→AHeap→Prop):kbody prog Tryz.f76 [a0] H k=(@bnd (aBin2 prog H .and 30 (.tmp 3) (.const (.int .u32 1)) a0 (.int .u32 1)) ⟨fun v4x1=>@bnd (aBin2 prog H .eql 30
 (.tmp 4) (.const (.int .u32 1)) v4x1 (.int .u32 1)) ⟨fun v5x2=>@kifB v5x2 ⟨@bnd (aBin2 prog H .shr 30 (.tmp 6) (.const (.int .u64 1)) a0 (.int .u64 1)) ⟨fun v7x3=>@bnd (aBin2 prog H .xor 30 (.tmp 7) (.const (.int
 .u32 2197175160)) v7x3 (.int .u32 2197175160)) ⟨fun v8x4=>k v8x4 H⟩⟩⟩ ⟨@bnd (aBin2 prog H .shr 30 (.tmp 9) (.const (.int .u64 1)) a0 (.int .u64 1)) ⟨fun v10x5=>k v10x5 H⟩⟩⟩⟩):=by kernel_rfl
-- tocsin/tocsinref09.blank
theorem d77 (a0:Value) (H:AHeap) (k:Value→AHeap→Prop):kbody prog Tryz.f77 [a0] H k=(@bnd (aBin2 prog H .eql 5 (.tmp 3) (.const (.int .u8 32)) a0 (.int .u8 32)) ⟨fun b=>@bnd (gif b false ((some a0))
 undef) ⟨fun i=>@bnd (gif b false (aBin2 prog H .eql 5 (.tmp 6) (.const (.int .u8 9)) i (.int .u8 9)) undef) ⟨fun j=>@bnd (pickV b (.bool true) j) ⟨fun c=>@bnd (gif c false ((some a0)) undef)
 ⟨fun e=>@bnd (gif c false (aBin2 prog H .eql 5 (.tmp 10) (.const (.int .u8 10)) e (.int .u8 10)) undef) ⟨fun f=>@bnd (pickV c (.bool true) f) ⟨fun a=>@bnd (gif a false ((some a0)) undef)
 ⟨fun g=>@bnd (gif a false (aBin2 prog H .eql 5 (.tmp 14) (.const (.int .u8 13)) g (.int .u8 13)) undef) ⟨fun h=>@bnd (pickV a (.bool true) h) ⟨fun d=>k d H⟩⟩⟩⟩⟩⟩⟩⟩⟩⟩):=by kernel_rfl
-- tocsin/tocsinref09.longest
def S78x0 (k:Value→AHeap→Prop) (sl:List Value) (H:AHeap):Prop:=kseq prog (cr (cr (cl (cr (cl (cr (cr (cb Tryz.f78)))))))) (kseq prog (cr (cr (cr (cb Tryz.f78)))) (kfin prog Tryz.f78 k)) .normal sl H
def L78x0 (n:Nat) (k:Value→AHeap→Prop) (sl:List Value) (H:AHeap):Prop:=kit prog (cl (cl (cr (cl (cr (cr (cr (cb Tryz.f78)))))))) n (kblk 0 (kseq prog (cr (cr (cr (cr (cb Tryz.f78))))) (kfin prog
 Tryz.f78 k))) .normal sl H
def S78x1 (n0:Nat) (k:Value→AHeap→Prop) (sl:List Value) (H:AHeap):Prop:=kseq prog (cr (cr (cl (cl (cr (cl (cl (cr (cl (cr (cr (cr (cb Tryz.f78))))))))))))) (kblk 1 (kseq prog (cr (cr (cl (cl (cr (cl (cr
 (cr (cr (cb Tryz.f78)))))))))) (kit prog (cl (cl (cr (cl (cr (cr (cr (cb Tryz.f78)))))))) n0 (kblk 0 (kseq prog (cr (cr (cr (cr (cb Tryz.f78))))) (kfin prog Tryz.f78 k)))))) .normal sl H
def S78x2 (k:Value→AHeap→Prop) (sl:List Value) (H:AHeap):Prop:=kseq prog (cr (cr (cr (cr (cb Tryz.f78))))) (kfin prog Tryz.f78 k) .normal sl H
def B78x0 (n0:Nat) (k:Value→AHeap→Prop) (sl:List Value) (H:AHeap):Prop:=(kseq prog (cr (cl (cl (cr (cl (cr (cr (cr (cb Tryz.f78))))))))) (kit prog (cl (cl (cr (cl (cr (cr (cr (cb Tryz.f78)))))))) n0
 (kblk 0 (kseq prog (cr (cr (cr (cr (cb Tryz.f78))))) (kfin prog Tryz.f78 k))))) (.exit 0) sl H
def B78x1 (n0:Nat) (k:Value→AHeap→Prop) (sl:List Value) (H:AHeap):Prop:=(kblk 1 (kseq prog (cr (cr (cl (cl (cr (cl (cr (cr (cr (cb Tryz.f78)))))))))) (kit prog (cl (cl (cr (cl (cr (cr (cr (cb
 Tryz.f78)))))))) n0 (kblk 0 (kseq prog (cr (cr (cr (cr (cb Tryz.f78))))) (kfin prog Tryz.f78 k)))))) (.exit 0) sl H
theorem B78x0q (n0:Nat) (sl:List Value) (H:AHeap) (k:Value→AHeap→Prop):B78x0 n0 k sl H=S78x2  k sl H:=by kernel_rfl
theorem B78x1q (n0:Nat) (sl:List Value) (H:AHeap) (k:Value→AHeap→Prop):B78x1 n0 k sl H=S78x2  k sl H:=by kernel_rfl
theorem d78 (a0 a1:Value) (H:AHeap) (k:Value→AHeap→Prop):kbody prog Tryz.f78 [a0,a1] H k=(@bndE (aAlloc prog H 122) ⟨fun v H2=>@bndE (aAlloc prog H2 122) ⟨fun q H4=>@bnd (aIndex prog 9
 a0 a1) ⟨fun f=>@bnd (aBin2 prog H4 .eql 5 (.tmp 13) (.const (.int .u8 34)) f (.int .u8 34)) ⟨fun g=>@kifB g ⟨@bnd (aSliceOp prog H4 9 a0 (some a1) none) ⟨fun r=>@bndC prog 95 [r] H4
 ⟨fun e H9=>@bnd (tupV e 0) ⟨fun c=>@bnd (tupV e 1) ⟨fun b=>@bnd (aBin2 prog H9 .gtr 3 (.tmp 22) (.const (.int .i64 0)) b (.int .i64 0)) ⟨fun a=>@bnd (gif a true ((some a0))
 undef) ⟨fun h=>@bnd (gif a true ((some a1)) undef) ⟨fun i=>@bnd (gif a true ((some a1)) undef) ⟨fun j=>@bnd (gif a true ((some b)) undef) ⟨fun l=>@bnd (gif a true (aBin2
 prog H9 .add 3 (.tmp 27) (.tmp 28) j l) undef) ⟨fun m=>@bnd (gif a true (aSliceOp prog H9 9 h (some i) (some m)) undef) ⟨fun o=>@bndG a true H9 ⟨fun d H20 =>
 ACalls prog 96 [o] H9 d H20⟩ ⟨fun d H20=>@bnd (pickV a d (.bool false)) ⟨fun p=>@kifB p ⟨@bnd (aBin2 prog H20 .add 3 (.tmp 35) (.tmp 36) a1 b) ⟨fun s=>@bnd (buildV
 prog 122 [(0,(.int .u8 3)),(1,c),(2,a1),(3,s)]) ⟨fun t=>@bndS (aStore prog H20 122 q t) ⟨fun _ H25=>S78x0  k [a0,a1,undef,undef,v,q,c,b,undef,undef,undef,
 a0,a1,f,g,e,a0,a1,r,e,c,b,b,a,a,h,i,j,l,m,o,d,p,c,a1,a1,b,s,t,undef,undef,undef,undef,
 undef,undef,undef,undef,undef,undef,undef,undef,undef,undef,undef,undef,undef,undef,undef,undef,undef,undef,undef,undef,undef,undef,undef,undef,undef,undef,undef,undef,undef,undef,undef,undef,
 undef,undef,undef,undef,undef,undef,undef,undef,undef,undef] H25⟩⟩⟩⟩ ⟨S78x0  k [a0,a1,undef,undef,v,q,c,b,undef,undef,undef,a0,a1,f,g,e,a0,a1,r,e,c,b,
 b,a,a,h,i,j,l,m,o,d,p,undef,undef,undef,undef,undef,undef,undef,undef,undef,undef,undef,undef,undef,undef,undef,undef,undef,undef,undef,undef,
 undef,undef,undef,undef,undef,undef,undef,undef,undef,undef,undef,undef,undef,undef,undef,undef,undef,undef,undef,undef,undef,undef,undef,undef,undef,undef,undef,undef,undef,undef,undef,undef]
 H20⟩⟩⟩⟩⟩⟩⟩⟩⟩⟩⟩⟩⟩⟩⟩ ⟨@bnd (aBin2 prog H4 .add 3 (.tmp 40) (.const (.int .i64 1)) a1 (.int .i64 1)) ⟨fun u=>∃ n,L78x0 n  k [a0,a1,undef,undef,v,q,undef,undef,u,undef,undef,a0,a1,f,g,
 undef,undef,undef,undef,undef,undef,undef,undef,undef,undef,undef,undef,undef,undef,undef,undef,undef,undef,undef,undef,undef,undef,undef,undef,undef,a1,u,undef,undef,undef,undef,undef,
 undef,undef,undef,undef,undef,undef,undef,undef,undef,undef,undef,undef,undef,undef,undef,undef,undef,undef,undef,undef,undef,undef,undef,undef,undef,undef,undef,undef,undef,undef,undef,undef,
 undef,undef,undef,undef,undef,undef] H4⟩⟩⟩⟩⟩⟩):=by kernel_rfl
theorem S78x0q (s0 s1 s2 s3 b c s6 s7 s8 s9 d e f g h i j l m n o p q r s t u v w x y z A B C D E F G I J K L M N O P Q R S T U V W X Y
 Z aa ab ac ad ae af ag ah ai aj ak al am an ao ap aq ar au av aw ax ay az aA aB aC aD:Value) (H:AHeap) (k:Value→AHeap→Prop):S78x0 k [s0,s1,s2,s3,b,c,s6,s7,s8,s9,d,e,
 f,g,h,i,j,l,m,n,o,p,q,r,s,t,u,v,w,x,y,z,A,B,C,D,E,F,G,I,J,K,L,M,N,O,P,Q,R,S,T,U,V,W,X,Y,Z,
 aa,ab,ac,ad,ae,af,ag,ah,ai,aj,ak,al,am,an,ao,ap,aq,ar,au,av,aw,ax,ay,az,aA,aB,aC,aD] H=(@bnd (aLoad prog H 122 c) ⟨fun a=>@bndS (aStore prog H 122 b
 a) ⟨fun _ H29=>∃ r30,aLoad prog H29 122 b=some r30∧k r30 H29⟩⟩):=by kernel_rfl
theorem L78x0q (n0:Nat) (g j s2 s3 s4 s5 s6 s7 f s9 ax m n o p q r s t u v w x y z A B C D E F G I J K L M N O P Q R aI aJ aK aL S T ay az aA aB aC
 aD aE aF aG aH aq ar au av aw U V W X Y Z aa ab ac ad ae af ag ah ai aj ak al am an ao ap:Value) (H:AHeap) (k:Value→AHeap→Prop):L78x0 (n0+1) k [g,j,s2,s3,s4,s5,s6,s7,
 f,s9,ax,m,n,o,p,q,r,s,t,u,v,w,x,y,z,A,B,C,D,E,F,G,I,J,K,L,M,N,O,P,Q,R,aI,aJ,aK,aL,S,T,ay,az,aA,aB,aC,aD,
 aE,aF,aG,aH,aq,ar,au,av,aw,U,V,W,X,Y,Z,aa,ab,ac,ad,ae,af,ag,ah,ai,aj,ak,al,am,an,ao,ap] H=(@bnd (aLen prog H 9 g) ⟨fun d=>@bnd (aBin2 prog H
 .leq 3 (.tmp 42) (.tmp 44) f d) ⟨fun e=>@kifB e ⟨@bnd (aSliceOp prog H 9 g (some j) (some f)) ⟨fun h=>@bndC prog 97 [h] H ⟨fun b H35=>@bnd (tupV b 0) ⟨fun a=>@bnd
 (tupV b 1) ⟨fun c=>@bnd (aBin2 prog H35 .gtr 5 (.tmp 56) (.const (.int .u8 0)) a (.int .u8 0)) ⟨fun i=>@kifB i ⟨@bnd (buildV prog 122 [(0,a),(1,c),(2,j),(3,f)]) ⟨fun
 l=>@bndS (aStore prog H35 122 s5 l) ⟨fun _ H41=>S78x1 n0 k [g,j,s2,s3,s4,s5,s6,s7,f,a,c,m,n,o,p,q,r,s,t,u,v,w,x,y,z,A,B,C,D,E,
 F,G,I,J,K,L,M,N,O,P,Q,R,f,g,d,e,S,T,b,g,j,f,h,b,a,c,a,i,a,c,j,f,l,U,V,W,X,Y,Z,
 aa,ab,ac,ad,ae,af,ag,ah,ai,aj,ak,al,am,an,ao,ap] H41⟩⟩⟩ ⟨S78x1 n0 k [g,j,s2,s3,s4,s5,s6,s7,f,a,c,m,n,o,p,q,r,s,t,u,v,w,x,y,z,A,
 B,C,D,E,F,G,I,J,K,L,M,N,O,P,Q,R,f,g,d,e,S,T,b,g,j,f,h,b,a,c,a,i,aq,ar,au,av,aw,U,V,W,X,
 Y,Z,aa,ab,ac,ad,ae,af,ag,ah,ai,aj,ak,al,am,an,ao,ap] H35⟩⟩⟩⟩⟩⟩⟩ ⟨B78x0 n0 k [g,j,s2,s3,s4,s5,s6,s7,f,s9,ax,m,n,o,p,q,r,s,t,u,v,w,x,y,
 z,A,B,C,D,E,F,G,I,J,K,L,M,N,O,P,Q,R,f,g,d,e,S,T,ay,az,aA,aB,aC,aD,aE,aF,aG,aH,aq,ar,au,av,aw,U,V,W,X,Y,
 Z,aa,ab,ac,ad,ae,af,ag,ah,ai,aj,ak,al,am,an,ao,ap] H⟩⟩⟩):=by kernel_rfl
theorem S78x1q (n0:Nat) (s0 s1 s2 s3 s4 v s6 s7 w s9 x y z A B C D E F G I J K L M N O P Q R S T U V W X Y Z aa ab ac ad ae af ag ah aA aB ai aj ak al am
 an ao ap aq ar au av aw ax ay aC aD aE aF aG aH aI aJ aK aL aM aN aO aP aQ aR aS aT aU aV aW az:Value) (H:AHeap) (k:Value→AHeap→Prop):S78x1 n0 k [s0,s1,s2,s3,s4,v,s6,s7,w,
 s9,x,y,z,A,B,C,D,E,F,G,I,J,K,L,M,N,O,P,Q,R,S,T,U,V,W,X,Y,Z,aa,ab,ac,ad,ae,af,ag,ah,aA,aB,ai,aj,ak,al,am,an,
 ao,ap,aq,ar,au,av,aw,ax,ay,aC,aD,aE,aF,aG,aH,aI,aJ,aK,aL,aM,aN,aO,aP,aQ,aR,aS,aT,aU,aV,aW,az] H=(@bnd (aFieldAddr prog H 122 v 0) ⟨fun d=>@bnd (aLoad
 prog H 5 d) ⟨fun e=>@bnd (aBin2 prog H .gtr 5 (.tmp 64) (.const (.int .u8 0)) e (.int .u8 0)) ⟨fun a=>@bnd (gif a true ((some w)) undef) ⟨fun f=>@bnd (gif a true (aFieldAddr
 prog H 122 v 3) undef) ⟨fun g=>@bnd (gif a true (aLoad prog H 3 g) undef) ⟨fun h=>@bnd (gif a true (aBin2 prog H .add 3 (.tmp 69) (.const (.int .i64 1)) h (.int .i64 1)) undef)
 ⟨fun i=>@bnd (gif a true (aBin2 prog H .gtr 3 (.tmp 67) (.tmp 70) f i) undef) ⟨fun j=>@bnd (pickV a j (.bool false)) ⟨fun b=>@bnd (gif b false (aFieldAddr prog H 122
 v 0) undef) ⟨fun l=>@bnd (gif b false (aLoad prog H 5 l) undef) ⟨fun m=>@bnd (gif b false (aBin2 prog H .eql 5 (.tmp 75) (.const (.int .u8 0)) m (.int .u8 0)) undef) ⟨fun n =>
 @bnd (gif b false ((some n)) undef) ⟨fun c=>@bnd (gif c true ((some w)) undef) ⟨fun o=>@bnd (gif c true ((some s1)) undef) ⟨fun p=>@bnd (gif c true (aBin2 prog H .add 3 (.tmp
 79) (.const (.int .i64 2)) p (.int .i64 2)) undef) ⟨fun q=>@bnd (gif c true (aBin2 prog H .gtr 3 (.tmp 78) (.tmp 80) o q) undef) ⟨fun r=>@bnd (gif b false (pickV c r (.bool
 false)) undef) ⟨fun s=>@bnd (pickV b (.bool true) s) ⟨fun t=>@kifB t ⟨B78x1 n0 k [s0,s1,s2,s3,s4,v,s6,s7,w,s9,x,y,z,A,B,C,D,E,F,G,I,J,K,L,M,
 N,O,P,Q,R,S,T,U,V,W,X,Y,Z,aa,ab,ac,ad,ae,af,ag,ah,aA,aB,ai,aj,ak,al,am,an,ao,ap,aq,ar,au,av,aw,ax,ay,d,e,a,a,
 f,g,h,i,j,b,b,l,m,n,c,o,p,q,r,s,t,az] H⟩ ⟨@bnd (aBin2 prog H .add 3 (.tmp 46) (.const (.int .i64 1)) w (.int .i64 1))
 ⟨fun u=>L78x0 n0  k [s0,s1,s2,s3,s4,v,s6,s7,u,s9,x,y,z,A,B,C,D,E,F,G,I,J,K,L,M,N,O,P,Q,R,S,T,U,V,W,X,Y,Z,aa,ab,ac,
 ad,ae,af,ag,ah,w,u,ai,aj,ak,al,am,an,ao,ap,aq,ar,au,av,aw,ax,ay,d,e,a,a,f,g,h,i,j,b,b,l,m,n,
 c,o,p,q,r,s,t,az] H⟩⟩⟩⟩⟩⟩⟩⟩⟩⟩⟩⟩⟩⟩⟩⟩⟩⟩⟩⟩⟩):=by kernel_rfl
theorem S78x2q (s0 s1 s2 s3 b c s6 s7 s8 s9 d e f g h i j l m n o p q r s t u v w x y z A B C D E F G I J K L M N O P Q R S T U V W X Y
 Z aa ab ac ad ae af ag ah ai aj ak al am an ao ap aq ar au av aw ax ay az aA aB aC aD:Value) (H:AHeap) (k:Value→AHeap→Prop):S78x2 k [s0,s1,s2,s3,b,c,s6,s7,s8,s9,d,e,
 f,g,h,i,j,l,m,n,o,p,q,r,s,t,u,v,w,x,y,z,A,B,C,D,E,F,G,I,J,K,L,M,N,O,P,Q,R,S,T,U,V,W,X,Y,Z,
 aa,ab,ac,ad,ae,af,ag,ah,ai,aj,ak,al,am,an,ao,ap,aq,ar,au,av,aw,ax,ay,az,aA,aB,aC,aD] H=(@bnd (aLoad prog H 122 c) ⟨fun a=>@bndS (aStore prog H 122 b
 a) ⟨fun _ H64=>∃ r65,aLoad prog H64 122 b=some r65∧k r65 H64⟩⟩):=by kernel_rfl
-- tocsin/tocsinref10.part
theorem d79 (a0 a1 a2 a3:Value) (H:AHeap) (k:Value→AHeap→Prop):kbody prog Tryz.f79 [a0,a1,a2,a3] H k=(@bnd (aBin2 prog H .eql 9 (.tmp 14) (.const (.string { data:=#[111,114] })) a3 (.string { data :=
 #[111,114] })) ⟨fun B=>@kifB B ⟨@bndC prog 61 [a0,a1,a2,(.string { data:=#[97,110,100] })] H ⟨fun h H3=>@bnd (tupV h 0) ⟨fun C=>@bnd (tupV h 1) ⟨fun D=>k (.tuple #[C,D])
 H3⟩⟩⟩⟩ ⟨@bndC prog 80 [a0,a1,(.int .u8 1),(.string { data:=#[110,111,116] })] H ⟨fun E H7=>@kifB E ⟨@bnd (aBin2 prog H7 .add 3 (.tmp 27) (.const (.int .i64 1)) a1 (.int .i64 1)) ⟨fun F=>@bndC
 prog 79 [a0,F,a2,(.string { data:=#[97,110,100] })] H7 ⟨fun i H10=>@bnd (tupV i 0) ⟨fun d=>@bnd (tupV i 1) ⟨fun e=>@bnd (aBin2 prog H10 .lss 3 (.tmp 33) (.const (.int .i64 0))
 e (.int .i64 0)) ⟨fun j=>@kifB j ⟨k (.tuple #[(.slice none 0 0),(.int .i64 (-1))]) H10⟩ ⟨@bnd (aLen prog H10 32 d) ⟨fun l=>@bnd (aBin2 prog H10 .add 3 (.tmp 36) (.tmp 38) a2 l) ⟨fun
 m=>@bnd (aBin2 prog H10 .sub 3 (.tmp 39) (.const (.int .i64 1)) m (.int .i64 1)) ⟨fun n=>@bnd (buildV prog 54 [(0,(.int .u8 3)),(6,n)]) ⟨fun o=>@bndL prog H10 32 1 [(0,o)]
 ⟨fun p H19=>@bndE (aBuiltin prog H19 Builtin.append #[32,32] [d,p]) ⟨fun q H21=>k (.tuple #[q,e]) H21⟩⟩⟩⟩⟩⟩⟩⟩⟩⟩⟩⟩⟩ ⟨@bndC prog 80 [a0,a1,(.int .u8 4),(.string { data:=#[40]
 })] H7 ⟨fun r H23=>@kifB r ⟨@bnd (aBin2 prog H23 .add 3 (.tmp 51) (.const (.int .i64 1)) a1 (.int .i64 1)) ⟨fun s=>@bndC prog 44 [a0,s,a2] H23 ⟨fun f H26=>@bnd (tupV f 0) ⟨fun
 t=>@bnd (tupV f 1) ⟨fun b=>@bnd (aBin2 prog H26 .lss 3 (.tmp 57) (.const (.int .i64 0)) b (.int .i64 0)) ⟨fun a=>@bnd (gif a false ((some a0)) undef) ⟨fun u=>@bnd (gif a
 false ((some b)) undef) ⟨fun v=>@bndG a false H26 ⟨fun c H33=>ACalls prog 80 [u,v,(.int .u8 4),(.string { data:=#[41] })] H26 c H33⟩ ⟨fun c H33=>@bnd (gif a false
 (unV prog .not c) undef) ⟨fun w=>@bnd (pickV a (.bool true) w) ⟨fun x=>@kifB x ⟨k (.tuple #[(.slice none 0 0),(.int .i64 (-1))]) H33⟩ ⟨@bnd (aBin2 prog H33 .add 3 (.tmp 66) (.const
 (.int .i64 1)) b (.int .i64 1)) ⟨fun y=>k (.tuple #[t,y]) H33⟩⟩⟩⟩⟩⟩⟩⟩⟩⟩⟩⟩⟩ ⟨@bndC prog 98 [a0,a1] H23 ⟨fun g H38=>@bnd (tupV g 0) ⟨fun z=>@bnd (tupV g 1) ⟨fun A=>k
 (.tuple #[z,A]) H38⟩⟩⟩⟩⟩⟩⟩⟩⟩):=by kernel_rfl
-- tocsin/tocsinref10.is
theorem d80 (a0 a1 a2 a3:Value) (H:AHeap) (k:Value→AHeap→Prop):kbody prog Tryz.f80 [a0,a1,a2,a3] H k=(@bnd (aLen prog H 80 a0) ⟨fun p=>@bnd (aBin2 prog H .lss 3 (.tmp 9) (.tmp 11) a1 p)
 ⟨fun b=>@bnd (gif b true ((some a0)) undef) ⟨fun q=>@bnd (gif b true ((some a1)) undef) ⟨fun r=>@bnd (gif b true (aIndexAddr prog H 80 q r) undef) ⟨fun s=>@bnd (gif b true
 (aFieldAddr prog H 122 s 0) undef) ⟨fun t=>@bnd (gif b true (aLoad prog H 5 t) undef) ⟨fun u=>@bnd (gif b true ((some a2)) undef) ⟨fun v=>@bnd (gif b true (aBin2 prog H .eql
 5 (.tmp 18) (.tmp 19) u v) undef) ⟨fun w=>@bnd (pickV b w (.bool false)) ⟨fun a=>@bnd (gif a true ((some a0)) undef) ⟨fun d=>@bnd (gif a true ((some a1)) undef) ⟨fun e=>@bnd
 (gif a true (aIndexAddr prog H 80 d e) undef) ⟨fun f=>@bnd (gif a true (aFieldAddr prog H 122 f 1) undef) ⟨fun g=>@bnd (gif a true (aLoad prog H 9 g) undef) ⟨fun
 h=>@bnd (gif a true ((some a3)) undef) ⟨fun i=>@bnd (gif a true (aBin2 prog H .eql 9 (.tmp 27) (.tmp 28) h i) undef) ⟨fun j=>@bnd (gif a true ((some j)) undef) ⟨fun c
=>@bnd (gif c false ((some a3)) undef) ⟨fun l=>@bnd (gif c false (aBin2 prog H .eql 9 (.tmp 31) (.const (.string { data:=#[42] })) l (.string { data:=#[42] })) undef) ⟨fun m=>@bnd (gif
 a true (pickV c (.bool true) m) undef) ⟨fun n=>@bnd (pickV a n (.bool false)) ⟨fun o=>k o H⟩⟩⟩⟩⟩⟩⟩⟩⟩⟩⟩⟩⟩⟩⟩⟩⟩⟩⟩⟩⟩⟩):=by kernel_rfl
-- internal/strconv.log10Pow2
theorem d81 (a0:Value) (H:AHeap) (k:Value→AHeap→Prop):kbody prog Tryz.f81 [a0] H k=(@bnd (aBin2 prog H .mul 3 (.tmp 3) (.const (.int .i64 78913)) a0 (.int .i64 78913)) ⟨fun v4x1=>@bnd (aBin2 prog H
 .shr 3 (.tmp 4) (.const (.int .u64 18)) v4x1 (.int .u64 18)) ⟨fun v5x2=>k v5x2 H⟩⟩):=by kernel_rfl
-- math/bits.Len64
def S82x0 (k:Value→AHeap→Prop) (sl:List Value) (H:AHeap):Prop:=kseq prog (cr (cr (cb Tryz.f82))) (kfin prog Tryz.f82 k) .normal sl H
def S82x1 (k:Value→AHeap→Prop) (sl:List Value) (H:AHeap):Prop:=kseq prog (cr (cr (cr (cb Tryz.f82)))) (kfin prog Tryz.f82 k) .normal sl H
def S82x2 (k:Value→AHeap→Prop) (sl:List Value) (H:AHeap):Prop:=kseq prog (cr (cr (cr (cr (cb Tryz.f82))))) (kfin prog Tryz.f82 k) .normal sl H
theorem d82 (a0:Value) (H:AHeap) (k:Value→AHeap→Prop):kbody prog Tryz.f82 [a0] H k=(@bnd (aBin2 prog H .geq 103 (.tmp 3) (.const (.int .u64 4294967296)) a0 (.int .u64 4294967296)) ⟨fun v4x1=>@kifB v4x1
 ⟨@bnd (aBin2 prog H .shr 103 (.tmp 5) (.const (.int .u64 32)) a0 (.int .u64 32)) ⟨fun v6x2=>S82x0  k [v6x2,undef,(.int .i64 32),a0,v4x1,a0,v6x2,undef,undef,undef,undef,undef,undef,undef,undef,undef,undef,
 undef,undef,undef,undef,undef,undef,undef,undef] H⟩⟩ ⟨S82x0  k [a0,undef,(.int .i64 0),a0,v4x1,undef,undef,undef,undef,undef,undef,undef,undef,undef,undef,undef,undef,undef,undef,undef,undef,undef,
 undef,undef,undef] H⟩⟩):=by kernel_rfl
theorem S82x0q (a v r w x y z B C A s t u e f g h i j l m n o p q:Value) (H:AHeap) (k:Value→AHeap→Prop):S82x0 k [a,v,r,w,x,y,z,B,C,A,s,t,u,e,f,
 g,h,i,j,l,m,n,o,p,q] H=(@bnd (aBin2 prog H .geq 103 (.tmp 7) (.const (.int .u64 65536)) a (.int .u64 65536)) ⟨fun b=>@kifB b ⟨@bnd (aBin2 prog H .shr 103 (.tmp 9) (.const (.int
 .u64 16)) a (.int .u64 16)) ⟨fun c=>@bnd (aBin2 prog H .add 3 (.tmp 11) (.const (.int .i64 16)) r (.int .i64 16)) ⟨fun d=>S82x1  k [c,v,d,w,x,y,z,a,b,a,c,r,d,e,f,
 g,h,i,j,l,m,n,o,p,q] H⟩⟩⟩ ⟨S82x1  k [a,v,r,w,x,y,z,a,b,A,s,t,u,e,f,g,h,i,j,l,m,n,o,p,q] H⟩⟩):=by kernel_rfl
theorem S82x1q (b t o u v w x y z A e f g B C p q r s h i j l m n:Value) (H:AHeap) (k:Value→AHeap→Prop):S82x1 k [b,t,o,u,v,w,x,y,z,A,e,f,g,B,C,
 p,q,r,s,h,i,j,l,m,n] H=(@bnd (aBin2 prog H .geq 103 (.tmp 13) (.const (.int .u64 256)) b (.int .u64 256)) ⟨fun a=>@kifB a ⟨@bnd (aBin2 prog H .shr 103 (.tmp 15) (.const (.int
 .u64 8)) b (.int .u64 8)) ⟨fun c=>@bnd (aBin2 prog H .add 3 (.tmp 17) (.const (.int .i64 8)) o (.int .i64 8)) ⟨fun d=>S82x2  k [c,t,d,u,v,w,x,y,z,A,e,f,g,b,a,b,
 c,o,d,h,i,j,l,m,n] H⟩⟩⟩ ⟨S82x2  k [b,t,o,u,v,w,x,y,z,A,e,f,g,b,a,p,q,r,s,h,i,j,l,m,n] H⟩⟩):=by kernel_rfl
theorem S82x2q (e w f x y z A B C D g h i j l m n o p q r s t u v:Value) (H:AHeap) (k:Value→AHeap→Prop):S82x2 k [e,w,f,x,y,z,A,B,C,D,g,h,i,j,l,
 m,n,o,p,q,r,s,t,u,v] H=(@bnd (convV prog H 103 5 e) ⟨fun d=>@bnd (aIndex prog 9 (.string l8S) d) ⟨fun a=>@bnd (convV prog H 5 3 a) ⟨fun b=>@bnd (aBin2
 prog H .add 3 (.tmp 19) (.tmp 23) f b) ⟨fun c=>k c H⟩⟩⟩⟩):=by kernel_rfl
-- internal/strconv.bool2[int]
theorem d83 (a0:Value) (H:AHeap) (k:Value→AHeap→Prop):kbody prog Tryz.f83 [a0] H k=(@kifB a0 ⟨k (.int .i64 1) H⟩ ⟨k (.int .i64 0) H⟩):=by kernel_rfl
-- tocsin/match.May
def L86x0 (n:Nat) (k:Value→AHeap→Prop) (sl:List Value) (H:AHeap):Prop:=kit prog (cl (cl (cr (cl (cr (cr (cb Tryz.f86))))))) n (kblk 0 (kseq prog (cr (cr (cr (cb Tryz.f86)))) (kfin prog Tryz.f86 k)))
 .normal sl H
theorem d86 (a0:Value) (H:AHeap) (k:Value→AHeap→Prop):kbody prog Tryz.f86 [a0] H k=(@bndC prog 70 [] H ⟨fun v8x1 H2=>@bnd (aLen prog H2 52 a0) ⟨fun v10x3=>∃ n,L86x0 n  k [a0,undef,(.bool
 false),v8x1,undef,undef,undef,undef,v8x1,a0,v10x3,(.int .i64 0),undef,undef,undef,undef,undef,undef,undef,undef,undef,undef,undef,undef,undef,undef,undef,undef,undef,undef,undef,undef,undef,undef,
 undef,undef,undef,undef,undef,undef] H2⟩⟩):=by kernel_rfl
theorem L86x0q (n0:Nat) (F I J B K s5 s6 s7 L G y t M N O P Q R S T U V W X Y Z aa ab ac ad ae af ag ah ai aj ak C D E:Value) (H:AHeap) (k:Value→AHeap→Prop) :
 L86x0 (n0+1) k [F,I,J,B,K,s5,s6,s7,L,G,y,t,M,N,O,P,Q,R,S,T,U,V,W,X,Y,Z,aa,ab,ac,ad,ae,af,ag,ah,ai,aj,ak,C,D,E] H=(@bnd (aBin2
 prog H .lss 3 (.tmp 11) (.tmp 10) t y) ⟨fun u=>@kifB u ⟨@bnd (aIndexAddr prog H 52 G t) ⟨fun v=>@bnd (aLoad prog H 56 v) ⟨fun w=>@bndE (aAlloc prog H 56) ⟨fun g H8 =>
 @bndS (aStore prog H8 56 g w) ⟨fun _ H10=>@bnd (aFieldAddr prog H10 56 g 1) ⟨fun h=>@bnd (aLoad prog H10 5 h) ⟨fun i=>@bnd (aLookup prog H10 109 B i true) ⟨fun c =>
 @bnd (tupV c 0) ⟨fun j=>@bnd (tupV c 1) ⟨fun d=>@bndE (aAlloc prog H10 113) ⟨fun x H17=>@bndS (aStore prog H17 113 x j) ⟨fun _ H19=>@bnd (unV prog .not d) ⟨fun a
=>@bnd (gif a false (aFieldAddr prog H19 56 g 0) undef) ⟨fun l=>@bnd (gif a false (aLoad prog H19 9 l) undef) ⟨fun m=>@bndG a false H19 ⟨fun e H24=>ACalls prog 101
 [m] H19 e H24⟩ ⟨fun e H24=>@bnd (gif a false (unV prog .not e) undef) ⟨fun n=>@bnd (pickV a (.bool true) n) ⟨fun b=>@bnd (gif b false (aFieldAddr prog H24 56
 g 2) undef) ⟨fun o=>@bnd (gif b false (aLoad prog H24 9 o) undef) ⟨fun p=>@bndG b false H24 ⟨fun f H30=>ACalls prog 102 [p] H24 f H30⟩ ⟨fun f H30=>@bnd (gif
 b false (unV prog .not f) undef) ⟨fun q=>@bnd (pickV b (.bool true) q) ⟨fun r=>@kifB r ⟨k (.bool false) H30⟩ ⟨@bnd (aBin2 prog H30 .add 3 (.tmp 11) (.const (.int .i64 1)) t
 (.int .i64 1)) ⟨fun s=>L86x0 n0  k [F,I,J,B,K,g,x,d,L,G,y,s,u,v,w,c,B,h,i,c,j,d,d,a,a,l,m,e,
 n,b,b,o,p,f,q,r,s,C,D,E] H30⟩⟩⟩⟩⟩⟩⟩⟩⟩⟩⟩⟩⟩⟩⟩⟩⟩⟩⟩⟩⟩⟩⟩⟩⟩ ⟨@bnd (aLen prog H 52 F) ⟨fun z=>@bnd (aBin2 prog H .leq 3 (.tmp 38) (.const (.int .i64 6))
 z (.int .i64 6)) ⟨fun A=>k A H⟩⟩⟩⟩):=by kernel_rfl
end Go.Vi
namespace Go.Vi
open Go Go.Proofs Go.Proofs.Tryz
-- (*strings.Builder).WriteByte
theorem d90 (a0 a1:Value) (H:AHeap) (k:Value→AHeap→Prop):kbody prog Tryz.f90 [a0,a1] H k=(@bndC prog 45 [a0] H ⟨fun _ H2=>@bnd (nilV a0) ⟨fun g=>@bnd (aFieldAddr prog H2 65 g 1) ⟨fun c
=>@bnd (aLoad prog H2 45 c) ⟨fun d=>@bndL prog H2 45 1 [(0,a1)] ⟨fun e H7=>@bndE (aBuiltin prog H7 Builtin.append #[45,45] [d,e]) ⟨fun f H9=>@bnd (nilV a0) ⟨fun a=>@bnd
 (aFieldAddr prog H9 65 a 1) ⟨fun b=>@bndS (aStore prog H9 45 b f) ⟨fun _ H13=>k .nilIface H13⟩⟩⟩⟩⟩⟩⟩⟩⟩):=by kernel_rfl
-- strings.trimRightByte
def L91x0 (n:Nat) (k:Value→AHeap→Prop) (sl:List Value) (H:AHeap):Prop:=kit prog (cl (cl (cl (cr (cb Tryz.f91))))) n (kblk 0 (kseq prog (cr (cr (cb Tryz.f91))) (kfin prog Tryz.f91 k))) .normal sl H
theorem d91 (a0 a1:Value) (H:AHeap) (k:Value→AHeap→Prop):kbody prog Tryz.f91 [a0,a1] H k=(∃ n,L91x0 n  k [a0,a1,undef,undef,(.string { data:=#[] }),undef,undef,undef,undef,undef,undef,undef,
 undef,undef,undef,undef,undef,undef,undef,undef,undef,undef,undef] H):=by kernel_rfl
theorem L91x0q (n0:Nat) (b q r s t G I J K L u v w x y z A B C D E F p:Value) (H:AHeap) (k:Value→AHeap→Prop):L91x0 (n0+1) k [b,q,r,s,t,G,I,J,K,L,u,v,
 w,x,y,z,A,B,C,D,E,F,p] H=(@bnd (aLen prog H 9 b) ⟨fun n=>@bnd (aBin2 prog H .gtr 3 (.tmp 6) (.const (.int .i64 0)) n (.int .i64 0)) ⟨fun a=>@bnd (gif a true ((some
 b)) undef) ⟨fun o=>@bnd (gif a true ((some b)) undef) ⟨fun g=>@bnd (gif a true (aLen prog H 9 g) undef) ⟨fun h=>@bnd (gif a true (aBin2 prog H .sub 3 (.tmp 11) (.const (.int .i64 1))
 h (.int .i64 1)) undef) ⟨fun i=>@bnd (gif a true (aIndex prog 9 o i) undef) ⟨fun j=>@bnd (gif a true ((some q)) undef) ⟨fun l=>@bnd (gif a true (aBin2 prog H .eql 5 (.tmp 13)
 (.tmp 14) j l) undef) ⟨fun m=>@bnd (pickV a m (.bool false)) ⟨fun c=>@kifB c ⟨@bnd (aLen prog H 9 b) ⟨fun d=>@bnd (aBin2 prog H .sub 3 (.tmp 19) (.const (.int .i64 1)) d
 (.int .i64 1)) ⟨fun e=>@bnd (aSliceOp prog H 9 b none (some e)) ⟨fun f=>L91x0 n0  k [f,q,r,s,t,b,n,a,a,o,g,h,i,j,l,m,c,b,b,d,
 e,f,p] H⟩⟩⟩⟩ ⟨k b H⟩⟩⟩⟩⟩⟩⟩⟩⟩⟩⟩):=by kernel_rfl
-- tocsin/tocsinref07.Quoted
def L95x0 (n:Nat) (k:Value→AHeap→Prop) (sl:List Value) (H:AHeap):Prop:=kit prog (cl (cl (cr (cl (cr (cr (cr (cb Tryz.f95)))))))) n (kblk 0 (kseq prog (cr (cr (cr (cr (cb Tryz.f95))))) (kfin prog
 Tryz.f95 k))) .normal sl H
def S95x0 (n0:Nat) (k:Value→AHeap→Prop) (sl:List Value) (H:AHeap):Prop:=kseq prog (cr (cr (cl (cl (cr (cl (cl (cr (cl (cr (cr (cr (cb Tryz.f95))))))))))))) (kblk 1 (kseq prog (cr (cr (cl (cl (cr (cl (cr
 (cr (cr (cb Tryz.f95)))))))))) (kit prog (cl (cl (cr (cl (cr (cr (cr (cb Tryz.f95)))))))) n0 (kblk 0 (kseq prog (cr (cr (cr (cr (cb Tryz.f95))))) (kfin prog Tryz.f95 k)))))) .normal sl H
theorem d95 (a0:Value) (H:AHeap) (k:Value→AHeap→Prop):kbody prog Tryz.f95 [a0] H k=(@bnd (aBin2 prog H .eql 9 (.tmp 6) (.const (.string { data:=#[] })) a0 (.string { data:=#[] })) ⟨fun v7x1=>@bnd
 (gif v7x1 false ((some a0)) undef) ⟨fun v9x2=>@bnd (gif v7x1 false (aIndex prog 9 v9x2 (.int .i64 0)) undef) ⟨fun v10x3=>@bnd (gif v7x1 false (aBin2 prog H .neq 5 (.tmp 10) (.const (.int .u8 34)) v10x3 (.int .u8
 34)) undef) ⟨fun v11x4=>@bnd (pickV v7x1 (.bool true) v11x4) ⟨fun v12x5=>@kifB v12x5 ⟨k (.tuple #[(.string { data:=#[] }),(.int .i64 0)]) H⟩ ⟨∃ n,L95x0 n  k [a0,undef,(.string { data:=#[] }),(.int .i64 0),(.string
 { data:=#[] }),(.int .i64 1),a0,v7x1,v7x1,v9x2,v10x3,v11x4,v12x5,undef,undef,undef,undef,undef,undef,undef,undef,undef,undef,undef,undef,undef,undef,undef,undef,undef,undef,undef,undef,undef,
 undef,undef,undef,undef,undef,undef,undef,undef,undef,undef,undef,undef,undef,undef,undef,undef,undef,undef,undef,undef,undef] H⟩⟩⟩⟩⟩⟩):=by kernel_rfl
theorem L95x0q (n0:Nat) (d s1 s2 s3 O e s6 s7 s8 s9 x y z ah ai aj ak A B al am an ao C D E ap aq ar au P Q R S T U V W X Y Z aa ab ac ad ae af ag F G I J K
 L M:Value) (H:AHeap) (k:Value→AHeap→Prop):L95x0 (n0+1) k [d,s1,s2,s3,O,e,s6,s7,s8,s9,x,y,z,ah,ai,aj,ak,A,B,al,am,an,ao,C,D,E,ap,aq,ar,au,P,Q,
 R,S,T,U,V,W,X,Y,Z,aa,ab,ac,ad,ae,af,ag,F,G,I,J,K,L,M] H=(@bnd (aLen prog H 9 d) ⟨fun h=>@bnd (aBin2 prog H .lss 3 (.tmp 13) (.tmp 15) e h)
 ⟨fun i=>@kifB i ⟨@bnd (aIndex prog 9 d e) ⟨fun j=>@bnd (aBin2 prog H .eql 5 (.tmp 21) (.const (.int .u8 34)) j (.int .u8 34)) ⟨fun l=>@kifB l ⟨@bnd (aBin2 prog H .add 3 (.tmp 24)
 (.const (.int .i64 1)) e (.int .i64 1)) ⟨fun N=>k (.tuple #[O,N]) H⟩⟩ ⟨@bnd (aIndex prog 9 d e) ⟨fun f=>@bnd (aBin2 prog H .eql 5 (.tmp 28) (.const (.int .u8 92)) f (.int .u8 92)) ⟨fun
 g=>@kifB g ⟨@bnd (aBin2 prog H .add 3 (.tmp 30) (.const (.int .i64 1)) e (.int .i64 1)) ⟨fun b=>@bnd (aLen prog H 9 d) ⟨fun m=>@bnd (aBin2 prog H .eql 3 (.tmp 32) (.tmp 34) b
 m) ⟨fun a=>@bnd (gif a false ((some d)) undef) ⟨fun n=>@bnd (gif a false ((some b)) undef) ⟨fun o=>@bnd (gif a false (aIndex prog 9 n o) undef) ⟨fun p=>@bnd
 (gif a false (aBin2 prog H .neq 5 (.tmp 39) (.const (.int .u8 34)) p (.int .u8 34)) undef) ⟨fun q=>@bnd (gif a false ((some q)) undef) ⟨fun c=>@bnd (gif c true ((some d)) undef) ⟨fun
 r=>@bnd (gif c true ((some b)) undef) ⟨fun s=>@bnd (gif c true (aIndex prog 9 r s) undef) ⟨fun t=>@bnd (gif c true (aBin2 prog H .neq 5 (.tmp 44) (.const (.int .u8
 92)) t (.int .u8 92)) undef) ⟨fun u=>@bnd (gif a false (pickV c u (.bool false)) undef) ⟨fun v=>@bnd (pickV a (.bool true) v) ⟨fun w=>@kifB w ⟨k (.tuple #[(.string { data
:=#[] }),(.int .i64 0)]) H⟩ ⟨S95x0 n0 k [d,s1,s2,s3,O,b,s6,s7,s8,s9,x,y,z,e,d,h,i,A,B,d,e,j,l,C,D,E,d,e,f,g,e,b,b,d,m,
 a,a,n,o,p,q,c,r,s,t,u,v,w,F,G,I,J,K,L,M] H⟩⟩⟩⟩⟩⟩⟩⟩⟩⟩⟩⟩⟩⟩⟩⟩ ⟨S95x0 n0 k [d,s1,s2,s3,O,e,s6,s7,s8,s9,x,y,z,
 e,d,h,i,A,B,d,e,j,l,C,D,E,d,e,f,g,P,Q,R,S,T,U,V,W,X,Y,Z,aa,ab,ac,ad,ae,af,ag,F,G,I,J,K,L,M] H⟩⟩⟩⟩⟩⟩⟩
 ⟨k (.tuple #[(.string { data:=#[] }),(.int .i64 0)]) H⟩⟩⟩):=by kernel_rfl
theorem S95x0q (n0:Nat) (f T U V S e W X Y Z g h i j l m n aa ab o p q r s t u v w x y z A B C D E F G I J K L M N O P Q R ac ad ae af ag
 ah ai:Value) (H:AHeap) (k:Value→AHeap→Prop):S95x0 n0 k [f,T,U,V,S,e,W,X,Y,Z,g,h,i,j,l,m,n,aa,ab,o,p,q,r,s,t,u,v,w,x,y,z,A,B,
 C,D,E,F,G,I,J,K,L,M,N,O,P,Q,R,ac,ad,ae,af,ag,ah,ai] H=(@bnd (aBin2 prog H .add 3 (.tmp 51) (.const (.int .i64 1)) e (.int .i64 1)) ⟨fun a=>@bnd (aSliceOp
 prog H 9 f (some e) (some a)) ⟨fun b=>@bnd (aBin2 prog H .add 9 (.tmp 48) (.tmp 53) S b) ⟨fun c=>@bnd (aBin2 prog H .add 3 (.tmp 17) (.const (.int .i64 1)) e (.int .i64 1)) ⟨fun d
=>L95x0 n0  k [f,T,U,V,c,d,W,X,Y,Z,g,h,i,j,l,m,n,e,d,o,p,q,r,s,t,u,v,w,x,y,z,A,B,C,D,E,F,G,I,J,K,L,
 M,N,O,P,Q,R,S,f,e,e,a,b,c] H⟩⟩⟩⟩):=by kernel_rfl
-- tocsin/tocsinref07.Plain
def L96x0 (n:Nat) (k:Value→AHeap→Prop) (sl:List Value) (H:AHeap):Prop:=kit prog (cl (cl (cr (cl (cr (cb Tryz.f96)))))) n (kblk 0 (kseq prog (cr (cr (cb Tryz.f96))) (kfin prog Tryz.f96 k))) .normal
 sl H
theorem d96 (a0:Value) (H:AHeap) (k:Value→AHeap→Prop):kbody prog Tryz.f96 [a0] H k=(∃ n,L96x0 n  k [a0,undef,(.bool false),(.int .i64 0),undef,undef,undef,undef,undef,undef,undef,undef,undef,
 undef,undef,undef,undef,undef,undef,undef] H):=by kernel_rfl
theorem L96x0q (n0:Nat) (c n o b z A B C D E p q r s t u v w x y:Value) (H:AHeap) (k:Value→AHeap→Prop):L96x0 (n0+1) k [c,n,o,b,z,A,B,C,D,E,p,q,r,s,t,
 u,v,w,x,y] H=(@bnd (aLen prog H 9 c) ⟨fun l=>@bnd (aBin2 prog H .lss 3 (.tmp 4) (.tmp 6) b l) ⟨fun m=>@kifB m ⟨@bnd (aIndex prog 9 c b) ⟨fun d=>@bnd (aBin2 prog H
 .lss 5 (.tmp 12) (.const (.int .u8 32)) d (.int .u8 32)) ⟨fun a=>@bnd (gif a false ((some c)) undef) ⟨fun e=>@bnd (gif a false ((some b)) undef) ⟨fun f=>@bnd (gif a false (aIndex prog 9
 e f) undef) ⟨fun g=>@bnd (gif a false (aBin2 prog H .gtr 5 (.tmp 17) (.const (.int .u8 126)) g (.int .u8 126)) undef) ⟨fun h=>@bnd (pickV a (.bool true) h) ⟨fun i=>@kifB i ⟨k
 (.bool false) H⟩ ⟨@bnd (aBin2 prog H .add 3 (.tmp 8) (.const (.int .i64 1)) b (.int .i64 1)) ⟨fun j=>L96x0 n0  k [c,n,o,j,b,c,l,m,b,j,c,b,d,a,a,e,f,g,
 h,i] H⟩⟩⟩⟩⟩⟩⟩⟩⟩⟩ ⟨k (.bool true) H⟩⟩⟩):=by kernel_rfl
-- tocsin/tocsinref09.kind
theorem d97 (a0:Value) (H:AHeap) (k:Value→AHeap→Prop):kbody prog Tryz.f97 [a0] H k=(@bndC prog 107 [a0] H ⟨fun v6x1 H2=>@kifB v6x1 ⟨k (.tuple #[(.int .u8 1),a0]) H2⟩ ⟨@bndC prog 108 [a0] H2 ⟨fun
 v10x3 H4=>@kifB v10x3 ⟨k (.tuple #[(.int .u8 2),a0]) H4⟩ ⟨@bndC prog 109 [a0] H4 ⟨fun v14x5 H6=>@kifB v14x5 ⟨k (.tuple #[(.int .u8 4),a0]) H6⟩ ⟨k (.tuple #[(.int .u8 0),(.string { data:=#[] })]) H6⟩⟩⟩⟩⟩⟩):=by
 kernel_rfl
-- tocsin/tocsinref10.comparison
def L98x0 (n:Nat) (k:Value→AHeap→Prop) (sl:List Value) (H:AHeap):Prop:=kit prog (cl (cl (cl (cr (cr (cr (cb Tryz.f98))))))) n (kblk 0 (kseq prog (cr (cr (cr (cr (cb Tryz.f98))))) (kfin prog Tryz.f98
 k))) .normal sl H
def S98x0 (k:Value→AHeap→Prop) (sl:List Value) (H:AHeap):Prop:=kseq prog (cr (cr (cr (cr (cr (cr (cr (cr (cb Tryz.f98))))))))) (kfin prog Tryz.f98 k) .normal sl H
def L98x1 (n:Nat) (k:Value→AHeap→Prop) (sl:List Value) (H:AHeap):Prop:=kit prog (cl (cl (cr (cr (cl (cr (cr (cr (cr (cr (cr (cr (cb Tryz.f98))))))))))))) n (kblk 2 (kseq prog (cr (cr (cr (cr (cr (cr (cr
 (cr (cb Tryz.f98))))))))) (kfin prog Tryz.f98 k))) .normal sl H
def L98x2 (n:Nat) (k:Value→AHeap→Prop) (sl:List Value) (H:AHeap):Prop:=kit prog (cl (cl (cl (cr (cr (cr (cr (cr (cr (cr (cr (cr (cr (cr (cr (cb Tryz.f98)))))))))))))))) n (kblk 4 (kseq prog (cr (cr (cr
 (cr (cr (cr (cr (cr (cr (cr (cr (cr (cr (cb Tryz.f98)))))))))))))) (kfin prog Tryz.f98 k))) .normal sl H
def S98x1 (k:Value→AHeap→Prop) (sl:List Value) (H:AHeap):Prop:=kseq prog (cr (cr (cr (cr (cr (cr (cr (cr (cr (cr (cr (cr (cr (cr (cr (cr (cr (cr (cb Tryz.f98))))))))))))))))))) (kfin prog Tryz.f98 k)
 .normal sl H
def B98x0 (n1:Nat) (k:Value→AHeap→Prop) (sl:List Value) (H:AHeap):Prop:=(kseq prog (cr (cr (cr (cr (cr (cl (cl (cl (cr (cr (cl (cr (cr (cr (cr (cr (cr (cr (cb Tryz.f98))))))))))))))))))) (kblk 3 (kit
 prog (cl (cl (cr (cr (cl (cr (cr (cr (cr (cr (cr (cr (cb Tryz.f98))))))))))))) n1 (kblk 2 (kseq prog (cr (cr (cr (cr (cr (cr (cr (cr (cb Tryz.f98))))))))) (kfin prog Tryz.f98 k)))))) (.exit 2) sl H
theorem B98x0q (n1:Nat) (sl:List Value) (H:AHeap) (k:Value→AHeap→Prop):B98x0 n1 k sl H=S98x0  k sl H:=by kernel_rfl
theorem d98 (a0 a1:Value) (H:AHeap) (k:Value→AHeap→Prop):kbody prog Tryz.f98 [a0,a1] H k=(@bnd (buildV prog 54 [(0,(.int .u8 0))]) ⟨fun v13x1=>@bndE (aAlloc prog H 54) ⟨fun v6x2 H3=>@bndS
 (aStore prog H3 54 v6x2 v13x1) ⟨fun _ H5=>∃ n,L98x0 n  k [a0,a1,undef,undef,(.slice none 0 0),(.int .i64 0),v6x2,(.int .i64 0),undef,undef,undef,undef,undef,v13x1,undef,undef,undef,undef,undef,undef,
 undef,undef,undef,undef,undef,undef,undef,undef,undef,undef,undef,undef,undef,undef,undef,undef,undef,undef,undef,undef,undef,undef,undef,undef,undef,undef,undef,undef,undef,undef,undef,undef,
 undef,undef,undef,undef,undef,undef,undef,undef,undef,undef,undef,undef,undef,undef,undef,undef,undef,undef,undef,undef,undef,undef,undef,undef,undef,undef,undef,undef,undef,undef,undef,undef,
 undef,undef,undef,undef,undef,undef,undef,undef,undef,undef,undef,undef,undef,undef,undef,undef,undef,undef,undef,undef,undef,undef,undef,undef,undef,undef,undef,undef,undef,undef,undef,undef,
 undef,undef,undef,undef,undef,undef,undef,undef,undef,undef,undef,undef,undef,undef,undef,undef,undef,undef,undef,undef,undef,undef,undef,undef,undef,undef,undef,undef,undef,undef,undef,undef,
 undef,undef,undef,undef,undef,undef,undef,undef,undef,undef,undef,undef,undef,undef,undef,undef,undef,undef,undef,undef] H5⟩⟩⟩):=by kernel_rfl
theorem L98x0q (n0:Nat) (C s1 s2 s3 s4 s5 s6 i s8 s9 aY aZ a0 a1 ch ci cj ck cl cm cn co cp cq bP bQ bT bU bV bW bX bY bZ b0 b1 b2 b3 b4 b5 b6 b7 b8 b9 ca cb cc cd ce cf cg bR bS a2
 a3 a4 a5 a6 a7 a8 a9 ba bb bc bd be bf bg bh bi bj bk bl bm bn bo bp bq br bs bt bu bv bw bx bz bA bB bC bD bE bF bG bH bI bJ bK bL bM bN bO D E F G I J K L
 M N O P Q R S T U V W X Y Z aa ab ac ad ae af ag ah ai aj ak al am an ao ap aq ar au av aw ax ay az aA aB aC aD aE aF aG
 aH aI aJ aK aL aM aN aO aP aQ aR aS aT aU aV:Value) (H:AHeap) (k:Value→AHeap→Prop):L98x0 (n0+1) k [C,s1,s2,s3,s4,s5,s6,i,s8,s9,aY,aZ,a0,a1,ch,ci,cj,ck,cl,
 cm,cn,co,cp,cq,bP,bQ,bT,bU,bV,bW,bX,bY,bZ,b0,b1,b2,b3,b4,b5,b6,b7,b8,b9,ca,cb,cc,cd,ce,cf,cg,bR,bS,a2,a3,a4,a5,a6,a7,a8,a9,ba,bb,bc,bd,
 be,bf,bg,bh,bi,bj,bk,bl,bm,bn,bo,bp,bq,br,bs,bt,bu,bv,bw,bx,bz,bA,bB,bC,bD,bE,bF,bG,bH,bI,bJ,bK,bL,bM,bN,bO,D,E,F,G,I,J,K,L,
 M,N,O,P,Q,R,S,T,U,V,W,X,Y,Z,aa,ab,ac,ad,ae,af,ag,ah,ai,aj,ak,al,am,an,ao,ap,aq,ar,au,av,aw,ax,ay,az,
 aA,aB,aC,aD,aE,aF,aG,aH,aI,aJ,aK,aL,aM,aN,aO,aP,aQ,aR,aS,aT,aU,aV] H=(@bnd (aBin2 prog H .lss 3 (.tmp 14) (.const (.int .i64 6)) i (.int .i64 6)) ⟨fun
 a=>@bnd (gif a true ((some C)) undef) ⟨fun m=>@bnd (gif a true ((some s1)) undef) ⟨fun o=>@bnd (gif a true ((some i)) undef) ⟨fun p=>@bndG a true H ⟨fun e H11=>ACalls prog
 37 [p] H e H11⟩ ⟨fun e H11=>@bndG a true H11 ⟨fun f H13=>ACalls prog 80 [m,o,(.int .u8 1),e] H11 f H13⟩ ⟨fun f H13=>@bnd (gif a true (unV prog .not f)
 undef) ⟨fun j=>@bnd (pickV a j (.bool false)) ⟨fun l=>@kifB l ⟨@bnd (aBin2 prog H13 .add 3 (.tmp 24) (.const (.int .i64 1)) i (.int .i64 1)) ⟨fun aW=>L98x0 n0  k [C,s1,s2,s3,s4,s5,
 s6,aW,s8,s9,aY,aZ,a0,a1,i,a,a,m,o,p,e,f,j,l,i,aW,bT,bU,bV,bW,bX,bY,bZ,b0,b1,b2,b3,b4,b5,b6,b7,b8,b9,ca,cb,cc,cd,
 ce,cf,cg,bR,bS,a2,a3,a4,a5,a6,a7,a8,a9,ba,bb,bc,bd,be,bf,bg,bh,bi,bj,bk,bl,bm,bn,bo,bp,bq,br,bs,bt,bu,bv,bw,bx,bz,bA,bB,bC,bD,bE,bF,bG,
 bH,bI,bJ,bK,bL,bM,bN,bO,D,E,F,G,I,J,K,L,M,N,O,P,Q,R,S,T,U,V,W,X,Y,Z,aa,ab,ac,ad,ae,af,ag,ah,ai,
 aj,ak,al,am,an,ao,ap,aq,ar,au,av,aw,ax,ay,az,aA,aB,aC,aD,aE,aF,aG,aH,aI,aJ,aK,aL,aM,aN,aO,aP,aQ,aR,aS,aT,aU,aV] H13⟩⟩
 ⟨@bnd (aBin2 prog H13 .eql 3 (.tmp 26) (.const (.int .i64 6)) i (.int .i64 6)) ⟨fun b=>@bnd (gif b false ((some C)) undef) ⟨fun q=>@bnd (gif b false ((some s1)) undef) ⟨fun r=>@bnd (gif
 b false (aBin2 prog H13 .add 3 (.tmp 30) (.const (.int .i64 1)) r (.int .i64 1)) undef) ⟨fun s=>@bndG b false H13 ⟨fun g H22=>ACalls prog 80 [q,s,(.int .u8 4),(.string { data
:=#[40] })] H13 g H22⟩ ⟨fun g H22=>@bnd (gif b false (unV prog .not g) undef) ⟨fun t=>@bnd (pickV b (.bool true) t) ⟨fun c=>@bnd (gif c false ((some C)) undef) ⟨fun
 u=>@bnd (gif c false ((some s1)) undef) ⟨fun v=>@bnd (gif c false (aBin2 prog H22 .add 3 (.tmp 37) (.const (.int .i64 2)) v (.int .i64 2)) undef) ⟨fun w=>@bndG c false H22 ⟨fun
 h H29=>ACalls prog 80 [u,w,(.int .u8 4),(.string { data:=#[123] })] H22 h H29⟩ ⟨fun h H29=>@bnd (gif c false (unV prog .not h) undef) ⟨fun x=>@bnd (pickV c
 (.bool true) x) ⟨fun y=>@kifB y ⟨k (.tuple #[(.slice none 0 0),(.int .i64 (-1))]) H29⟩ ⟨@bnd (convV prog H29 3 5 i) ⟨fun z=>@bnd (aFieldAddr prog H29 54 s6 1) ⟨fun A=>@bndS (aStore
 prog H29 5 A z) ⟨fun _ H35=>@bnd (aBin2 prog H35 .add 3 (.tmp 45) (.const (.int .i64 3)) s1 (.int .i64 3)) ⟨fun d=>@bndC prog 80 [C,d,(.int .u8 4),(.string { data:=#[125] })] H35
 ⟨fun B H38=>@kifB B ⟨@bnd (aBin2 prog H38 .add 3 (.tmp 50) (.const (.int .i64 1)) d (.int .i64 1)) ⟨fun aX=>S98x0  k [C,aX,s2,s3,s4,s5,s6,i,s8,s9,aY,aZ,a0,a1,i,a,a,
 m,o,p,e,f,j,l,bP,bQ,i,b,b,q,r,s,g,t,c,c,u,v,w,h,x,y,i,z,A,s1,d,C,
 d,B,d,aX,a2,a3,a4,a5,a6,a7,a8,a9,ba,bb,bc,bd,be,bf,bg,bh,bi,bj,bk,bl,bm,bn,bo,bp,bq,br,bs,bt,bu,bv,bw,bx,bz,bA,bB,bC,bD,bE,bF,
 bG,bH,bI,bJ,bK,bL,bM,bN,bO,D,E,F,G,I,J,K,L,M,N,O,P,Q,R,S,T,U,V,W,X,Y,Z,aa,ab,ac,ad,ae,af,ag,ah,
 ai,aj,ak,al,am,an,ao,ap,aq,ar,au,av,aw,ax,ay,az,aA,aB,aC,aD,aE,aF,aG,aH,aI,aJ,aK,aL,aM,aN,aO,aP,aQ,aR,aS,aT,aU,aV]
 H38⟩⟩ ⟨∃ n,L98x1 n  k [C,d,s2,s3,s4,s5,s6,i,s8,s9,aY,aZ,a0,a1,i,a,a,m,o,p,e,f,j,l,bP,bQ,i,b,b,q,r,s,g,
 t,c,c,u,v,w,h,x,y,i,z,A,s1,d,C,d,B,bR,bS,a2,a3,a4,a5,a6,a7,a8,a9,ba,bb,bc,bd,be,bf,bg,bh,bi,bj,
 bk,bl,bm,bn,bo,bp,bq,br,bs,bt,bu,bv,bw,bx,bz,bA,bB,bC,bD,bE,bF,bG,bH,bI,bJ,bK,bL,bM,bN,bO,D,E,F,G,I,J,K,L,M,N,O,P,Q,
 R,S,T,U,V,W,X,Y,Z,aa,ab,ac,ad,ae,af,ag,ah,ai,aj,ak,al,am,an,ao,ap,aq,ar,au,av,aw,ax,ay,az,aA,aB,aC,aD,aE,
 aF,aG,aH,aI,aJ,aK,aL,aM,aN,aO,aP,aQ,aR,aS,aT,aU,aV] H38⟩⟩⟩⟩⟩⟩⟩⟩⟩⟩⟩⟩⟩⟩⟩⟩⟩⟩⟩⟩⟩⟩⟩⟩⟩⟩⟩⟩⟩):=by kernel_rfl
theorem S98x0q (x w s2 s3 s4 s5 s6 s7 s8 s9 aP aQ aR aS aT aU aV aW aX aY aZ a0 a1 a2 a3 a4 a5 a6 a7 a8 a9 ba bb bc bd be bf bg bh bi bj bk bl bm bn bo bp bq br bs bt bu bv bw bx bz
 bA bB bC bD bE bF bG bH bI bJ bK bL bM bN bO bP bQ bR bS b9 ca cb cc cd ce cf cg ch ci cj ck cl cm cn co cp cq cr cs ct cu cv cw cx bT bU bV bW bX bY bZ b0 b1 b2
 b3 b4 b5 b6 b7 b8 N O P Q R S T U V W X Y Z aa ab ac ad ae af ag ah ai aj ak al am an ao ap aq ar au av aw ax ay az aA aB
 aC aD aE aF aG aH aI aJ aK aL aM aN aO:Value) (H:AHeap) (k:Value→AHeap→Prop):S98x0 k [x,w,s2,s3,s4,s5,s6,s7,s8,s9,aP,aQ,aR,aS,aT,aU,aV,aW,aX,aY,aZ,a0,
 a1,a2,a3,a4,a5,a6,a7,a8,a9,ba,bb,bc,bd,be,bf,bg,bh,bi,bj,bk,bl,bm,bn,bo,bp,bq,br,bs,bt,bu,bv,bw,bx,bz,bA,bB,bC,bD,bE,bF,bG,bH,bI,bJ,bK,
 bL,bM,bN,bO,bP,bQ,bR,bS,b9,ca,cb,cc,cd,ce,cf,cg,ch,ci,cj,ck,cl,cm,cn,co,cp,cq,cr,cs,ct,cu,cv,cw,cx,bT,bU,bV,bW,bX,bY,bZ,b0,b1,b2,
 b3,b4,b5,b6,b7,b8,N,O,P,Q,R,S,T,U,V,W,X,Y,Z,aa,ab,ac,ad,ae,af,ag,ah,ai,aj,ak,al,am,an,ao,ap,aq,ar,au,
 av,aw,ax,ay,az,aA,aB,aC,aD,aE,aF,aG,aH,aI,aJ,aK,aL,aM,aN,aO] H=(@bnd (aFieldAddr prog H 54 s6 2) ⟨fun y=>@bnd (aLoad prog H 52 y) ⟨fun z =>
 @bndC prog 111 [z] H ⟨fun A H43=>@bnd (unV prog .not A) ⟨fun d=>@bnd (gif d false ((some x)) undef) ⟨fun B=>@bnd (gif d false ((some w)) undef) ⟨fun C=>@bndG d
 false H43 ⟨fun f H48=>ACalls prog 80 [B,C,(.int .u8 4),(.string { data:=#[91] })] H43 f H48⟩ ⟨fun f H48=>@bnd (gif d false (unV prog .not f) undef) ⟨fun D=>@bnd
 (pickV d (.bool true) D) ⟨fun a=>@bnd (gif a false ((some x)) undef) ⟨fun E=>@bnd (gif a false ((some w)) undef) ⟨fun F=>@bnd (gif a false (aBin2 prog H48 .add 3 (.tmp 87)
 (.const (.int .i64 1)) F (.int .i64 1)) undef) ⟨fun G=>@bndG a false H48 ⟨fun g H55=>ACalls prog 80 [E,G,(.int .u8 2),(.string { data:=#[42] })] H48 g H55⟩ ⟨fun g H55 =>
 @bnd (gif a false (unV prog .not g) undef) ⟨fun I=>@bnd (pickV a (.bool true) I) ⟨fun b=>@bnd (gif b false ((some x)) undef) ⟨fun J=>@bnd (gif b false ((some w)) undef)
 ⟨fun K=>@bnd (gif b false (aBin2 prog H55 .add 3 (.tmp 94) (.const (.int .i64 2)) K (.int .i64 2)) undef) ⟨fun L=>@bndG b false H55 ⟨fun h H62=>ACalls prog 80 [J,L,(.int
 .u8 4),(.string { data:=#[93] })] H55 h H62⟩ ⟨fun h H62=>@bnd (gif b false (unV prog .not h) undef) ⟨fun M=>@bnd (pickV b (.bool true) M) ⟨fun c=>@bnd (gif c false
 ((some x)) undef) ⟨fun i=>@bnd (gif c false ((some w)) undef) ⟨fun j=>@bnd (gif c false (aBin2 prog H62 .add 3 (.tmp 101) (.const (.int .i64 3)) j (.int .i64 3)) undef) ⟨fun l =>
 @bndG c false H62 ⟨fun e H69=>ACalls prog 80 [i,l,(.int .u8 4),(.string { data:=#[41] })] H62 e H69⟩ ⟨fun e H69=>@bnd (gif c false (unV prog .not e) undef) ⟨fun
 m=>@bnd (pickV c (.bool true) m) ⟨fun o=>@kifB o ⟨k (.tuple #[(.slice none 0 0),(.int .i64 (-1))]) H69⟩ ⟨@bnd (aBin2 prog H69 .add 3 (.tmp 107) (.const (.int .i64 1)) w (.int .i64 1))
 ⟨fun p=>@bnd (aIndexAddr prog H69 80 x p) ⟨fun q=>@bnd (aFieldAddr prog H69 122 q 1) ⟨fun r=>@bnd (aLoad prog H69 9 r) ⟨fun s=>@bndC prog 112 [s] H69
 ⟨fun t H77=>@bnd (aFieldAddr prog H77 54 s6 3) ⟨fun u=>@bndS (aStore prog H77 3 u t) ⟨fun _ H80=>@bnd (aBin2 prog H80 .add 3 (.tmp 114) (.const (.int .i64 4)) w (.int .i64 4)) ⟨fun
 v=>∃ n,L98x2 n  k [x,v,s2,s3,s4,s5,s6,(.int .i64 0),s8,s9,aP,aQ,aR,aS,aT,aU,aV,aW,aX,aY,aZ,a0,a1,a2,a3,a4,a5,a6,a7,a8,a9,ba,bb,bc,bd,be,bf,bg,
 bh,bi,bj,bk,bl,bm,bn,bo,bp,bq,br,bs,bt,bu,bv,bw,bx,bz,bA,bB,bC,bD,bE,bF,bG,bH,bI,bJ,bK,bL,bM,bN,bO,bP,bQ,bR,bS,y,z,A,d,d,
 B,C,f,D,a,a,E,F,G,g,I,b,b,J,K,L,h,M,c,c,i,j,l,e,m,o,x,w,
 p,q,r,s,t,u,w,v,N,O,P,Q,R,S,T,U,V,W,X,Y,Z,aa,ab,ac,ad,ae,af,ag,ah,ai,aj,ak,al,am,
 an,ao,ap,aq,ar,au,av,aw,ax,ay,az,aA,aB,aC,aD,aE,aF,aG,aH,aI,aJ,aK,aL,aM,aN,aO] H80⟩⟩⟩⟩⟩⟩⟩⟩⟩⟩⟩⟩⟩⟩⟩⟩⟩⟩⟩⟩⟩⟩⟩⟩⟩⟩⟩⟩⟩⟩⟩⟩⟩⟩⟩⟩):=by kernel_rfl
theorem L98x1q (n1:Nat) (f s1 s2 s3 s4 s5 s6 s7 s8 s9 aK aL aM aN aO aP aQ aR aS aT aU aV aW aX aY aZ a0 a1 a2 a3 a4 a5 a6 a7 a8 a9 ba bb bc bd be bf bg bh bi bj bk bl bm bn bo bp bU
 bV bW bX bY bZ b0 b1 b2 b3 b4 b5 b6 b7 b8 b9 ca cb cc bQ bR bS bT bq br bs bt bu bv bw bx bz bA bB bC bD bE bF bG bH bI bJ bK bL bM bN bO bP r s t u v w x y
 z A B C D E F G I J K L M N O P Q R S T U V W X Y Z aa ab ac ad ae af ag ah ai aj ak al am an ao ap aq ar au
 av aw ax ay az aA aB aC aD aE aF aG aH aI aJ:Value) (H:AHeap) (k:Value→AHeap→Prop):L98x1 (n1+1) k [f,s1,s2,s3,s4,s5,s6,s7,s8,s9,aK,aL,aM,aN,aO,aP,aQ,aR,aS,
 aT,aU,aV,aW,aX,aY,aZ,a0,a1,a2,a3,a4,a5,a6,a7,a8,a9,ba,bb,bc,bd,be,bf,bg,bh,bi,bj,bk,bl,bm,bn,bo,bp,bU,bV,bW,bX,bY,bZ,b0,b1,b2,b3,b4,b5,
 b6,b7,b8,b9,ca,cb,cc,bQ,bR,bS,bT,bq,br,bs,bt,bu,bv,bw,bx,bz,bA,bB,bC,bD,bE,bF,bG,bH,bI,bJ,bK,bL,bM,bN,bO,bP,r,s,t,u,v,w,x,y,
 z,A,B,C,D,E,F,G,I,J,K,L,M,N,O,P,Q,R,S,T,U,V,W,X,Y,Z,aa,ab,ac,ad,ae,af,ag,ah,ai,aj,ak,al,
 am,an,ao,ap,aq,ar,au,av,aw,ax,ay,az,aA,aB,aC,aD,aE,aF,aG,aH,aI,aJ] H=(@bndC prog 110 [f,s1] H ⟨fun b H83=>@bnd (tupV b 0) ⟨fun g=>@bnd
 (tupV b 1) ⟨fun a=>@bndE (aAlloc prog H83 56) ⟨fun e H87=>@bndS (aStore prog H87 56 e g) ⟨fun _ H89=>@bnd (aBin2 prog H89 .lss 3 (.tmp 58) (.const (.int .i64 0)) a (.int .i64 0))
 ⟨fun h=>@kifB h ⟨k (.tuple #[(.slice none 0 0),(.int .i64 (-1))]) H89⟩ ⟨@bnd (aFieldAddr prog H89 54 s6 2) ⟨fun i=>@bnd (aLoad prog H89 52 i) ⟨fun j=>@bnd (aLoad prog H89 56 e)
 ⟨fun l=>@bndL prog H89 52 1 [(0,l)] ⟨fun m H95=>@bndE (aBuiltin prog H95 Builtin.append #[52,52] [j,m]) ⟨fun n H97=>@bnd (aFieldAddr prog H97 54 s6 2) ⟨fun o=>@bndS
 (aStore prog H97 52 o n) ⟨fun _ H100=>@bnd (aBin2 prog H100 .add 3 (.tmp 66) (.const (.int .i64 1)) a (.int .i64 1)) ⟨fun c=>@bndC prog 80 [f,a,(.int .u8 4),(.string { data :=
 #[125] })] H100 ⟨fun d H103=>@kifB d ⟨B98x0 n1 k [f,c,s2,s3,s4,s5,s6,s7,e,a,aK,aL,aM,aN,aO,aP,aQ,aR,aS,aT,aU,aV,aW,aX,aY,aZ,a0,a1,a2,a3,a4,a5,
 a6,a7,a8,a9,ba,bb,bc,bd,be,bf,bg,bh,bi,bj,bk,bl,bm,bn,bo,bp,b,f,s1,b,g,a,a,h,i,j,l,m,n,o,a,c,f,
 a,d,bQ,bR,bS,bT,bq,br,bs,bt,bu,bv,bw,bx,bz,bA,bB,bC,bD,bE,bF,bG,bH,bI,bJ,bK,bL,bM,bN,bO,bP,r,s,t,u,v,w,x,y,z,A,B,
 C,D,E,F,G,I,J,K,L,M,N,O,P,Q,R,S,T,U,V,W,X,Y,Z,aa,ab,ac,ad,ae,af,ag,ah,ai,aj,ak,al,am,an,ao,
 ap,aq,ar,au,av,aw,ax,ay,az,aA,aB,aC,aD,aE,aF,aG,aH,aI,aJ] H103⟩ ⟨@bndC prog 80 [f,a,(.int .u8 4),(.string { data:=#[44] })] H103 ⟨fun p H105=>@bnd
 (unV prog .not p) ⟨fun q=>@kifB q ⟨k (.tuple #[(.slice none 0 0),(.int .i64 (-1))]) H105⟩ ⟨L98x1 n1  k [f,c,s2,s3,s4,s5,s6,s7,e,a,aK,aL,aM,aN,aO,aP,aQ,aR,aS,
 aT,aU,aV,aW,aX,aY,aZ,a0,a1,a2,a3,a4,a5,a6,a7,a8,a9,ba,bb,bc,bd,be,bf,bg,bh,bi,bj,bk,bl,bm,bn,bo,bp,b,f,s1,b,g,a,a,h,
 i,j,l,m,n,o,a,c,f,a,d,f,a,p,q,bq,br,bs,bt,bu,bv,bw,bx,bz,bA,bB,bC,bD,bE,bF,bG,bH,bI,bJ,bK,bL,bM,
 bN,bO,bP,r,s,t,u,v,w,x,y,z,A,B,C,D,E,F,G,I,J,K,L,M,N,O,P,Q,R,S,T,U,V,W,X,Y,Z,aa,
 ab,ac,ad,ae,af,ag,ah,ai,aj,ak,al,am,an,ao,ap,aq,ar,au,av,aw,ax,ay,az,aA,aB,aC,aD,aE,aF,aG,aH,aI,aJ] H105⟩⟩⟩⟩⟩⟩⟩⟩⟩⟩⟩⟩⟩⟩⟩⟩⟩⟩⟩⟩) :=
 by kernel_rfl
theorem L98x2q (n2:Nat) (s0 s1 s2 s3 s4 s5 s6 l s8 s9 b6 an ao ap aq ar au av aw ax ay az aA aB aC aD aE aF aG aH aI aJ aK aL aM aN aO aP aQ aR aS aT aU aV aW aX aY aZ a0 a1 a2 a3 a4
 a5 a6 a7 a8 a9 ba bb bc bd be bf bg bh bi bj bk bl bm bn bo bp bq br bs bt bu bv bw bx bz bA bB bC bD bE bF bG bH bI bJ bK bL bM bN bO bP bQ v w x y z A B C
 D E F G I J K L b7 b8 b9 ca cb cc cd ce cf cg aj ak bR bS bT bU bV bW bX bY bZ b0 b1 b2 b3 b4 b5 al am M N O P Q R S T
 U V W X Y Z aa ab ac ad ae af ag ah ai:Value) (H:AHeap) (k:Value→AHeap→Prop):L98x2 (n2+1) k [s0,s1,s2,s3,s4,s5,s6,l,s8,s9,b6,an,ao,ap,aq,ar,au,av,aw,
 ax,ay,az,aA,aB,aC,aD,aE,aF,aG,aH,aI,aJ,aK,aL,aM,aN,aO,aP,aQ,aR,aS,aT,aU,aV,aW,aX,aY,aZ,a0,a1,a2,a3,a4,a5,a6,a7,a8,a9,ba,bb,bc,bd,be,bf,
 bg,bh,bi,bj,bk,bl,bm,bn,bo,bp,bq,br,bs,bt,bu,bv,bw,bx,bz,bA,bB,bC,bD,bE,bF,bG,bH,bI,bJ,bK,bL,bM,bN,bO,bP,bQ,v,w,x,y,z,A,B,C,
 D,E,F,G,I,J,K,L,b7,b8,b9,ca,cb,cc,cd,ce,cf,cg,aj,ak,bR,bS,bT,bU,bV,bW,bX,bY,bZ,b0,b1,b2,b3,b4,b5,al,am,M,
 N,O,P,Q,R,S,T,U,V,W,X,Y,Z,aa,ab,ac,ad,ae,af,ag,ah,ai] H=(@bnd (aBin2 prog H .lss 3 (.tmp 116) (.const (.int .i64 6)) l (.int .i64 6)) ⟨fun
 a=>@bnd (gif a true ((some s0)) undef) ⟨fun f=>@bnd (gif a true ((some s1)) undef) ⟨fun g=>@bnd (gif a true ((some l)) undef) ⟨fun h=>@bndG a true H ⟨fun d
 H112=>ACalls prog 40 [h] H d H112⟩ ⟨fun d H112=>@bndG a true H112 ⟨fun e H114=>ACalls prog 80 [f,g,(.int .u8 4),d] H112 e H114⟩ ⟨fun e
 H114=>@bnd (gif a true (unV prog .not e) undef) ⟨fun i=>@bnd (pickV a i (.bool false)) ⟨fun j=>@kifB j ⟨@bnd (aBin2 prog H114 .add 3 (.tmp 126) (.const (.int .i64
 1)) l (.int .i64 1)) ⟨fun t=>L98x2 n2  k [s0,s1,s2,s3,s4,s5,s6,t,s8,s9,b6,an,ao,ap,aq,ar,au,av,aw,ax,ay,az,aA,aB,aC,aD,aE,aF,aG,aH,aI,aJ,aK,aL,aM,aN,
 aO,aP,aQ,aR,aS,aT,aU,aV,aW,aX,aY,aZ,a0,a1,a2,a3,a4,a5,a6,a7,a8,a9,ba,bb,bc,bd,be,bf,bg,bh,bi,bj,bk,bl,bm,bn,bo,bp,bq,br,bs,bt,bu,bv,bw,
 bx,bz,bA,bB,bC,bD,bE,bF,bG,bH,bI,bJ,bK,bL,bM,bN,bO,bP,bQ,v,w,x,y,z,A,B,C,D,E,F,G,I,J,K,L,l,a,a,f,
 g,h,d,e,i,j,l,t,bR,bS,bT,bU,bV,bW,bX,bY,bZ,b0,b1,b2,b3,b4,b5,al,am,M,N,O,P,Q,R,S,T,
 U,V,W,X,Y,Z,aa,ab,ac,ad,ae,af,ag,ah,ai] H114⟩⟩ ⟨@bnd (aBin2 prog H114 .eql 3 (.tmp 128) (.const (.int .i64 6)) l (.int .i64 6)) ⟨fun b=>@bnd (gif b false
 (aFieldAddr prog H114 54 s6 3) undef) ⟨fun m=>@bnd (gif b false (aLoad prog H114 3 m) undef) ⟨fun n=>@bnd (gif b false (aBin2 prog H114 .eql 3 (.tmp 132) (.const (.int .i64
 0)) n (.int .i64 0)) undef) ⟨fun o=>@bnd (pickV b (.bool true) o) ⟨fun p=>@kifB p ⟨k (.tuple #[(.slice none 0 0),(.int .i64 (-1))]) H114⟩ ⟨@bnd (convV prog H114 3 5 l) ⟨fun
 q=>@bnd (aFieldAddr prog H114 54 s6 4) ⟨fun r=>@bndS (aStore prog H114 5 r q) ⟨fun _ H126=>@bnd (aBin2 prog H126 .add 3 (.tmp 138) (.const (.int .i64 1)) s1 (.int .i64 1)) ⟨fun
 c=>@bndC prog 80 [s0,c,(.int .u8 4),(.string { data:=#[45] })] H126 ⟨fun s H129=>@kifB s ⟨@bnd (aBin2 prog H129 .add 3 (.tmp 143) (.const (.int .i64 1)) c (.int .i64 1))
 ⟨fun u=>S98x1  k [s0,u,s2,s3,s4,s5,s6,l,s8,s9,(.string { data:=#[45] }),an,ao,ap,aq,ar,au,av,aw,ax,ay,az,aA,aB,aC,aD,aE,aF,aG,aH,aI,aJ,aK,aL,aM,aN,
 aO,aP,aQ,aR,aS,aT,aU,aV,aW,aX,aY,aZ,a0,a1,a2,a3,a4,a5,a6,a7,a8,a9,ba,bb,bc,bd,be,bf,bg,bh,bi,bj,bk,bl,bm,bn,bo,bp,bq,br,bs,bt,bu,bv,bw,
 bx,bz,bA,bB,bC,bD,bE,bF,bG,bH,bI,bJ,bK,bL,bM,bN,bO,bP,bQ,v,w,x,y,z,A,B,C,D,E,F,G,I,J,K,L,l,a,a,f,
 g,h,d,e,i,j,aj,ak,l,b,b,m,n,o,p,l,q,r,s1,c,s0,c,s,c,u,M,
 N,O,P,Q,R,S,T,U,V,W,X,Y,Z,aa,ab,ac,ad,ae,af,ag,ah,ai] H129⟩⟩ ⟨S98x1  k [s0,c,s2,s3,s4,s5,s6,l,s8,s9,(.string { data:=#[] }),an,
 ao,ap,aq,ar,au,av,aw,ax,ay,az,aA,aB,aC,aD,aE,aF,aG,aH,aI,aJ,aK,aL,aM,aN,aO,aP,aQ,aR,aS,aT,aU,aV,aW,aX,aY,aZ,a0,a1,a2,a3,a4,a5,a6,a7,a8,
 a9,ba,bb,bc,bd,be,bf,bg,bh,bi,bj,bk,bl,bm,bn,bo,bp,bq,br,bs,bt,bu,bv,bw,bx,bz,bA,bB,bC,bD,bE,bF,bG,bH,bI,bJ,bK,bL,bM,bN,bO,bP,bQ,v,w,
 x,y,z,A,B,C,D,E,F,G,I,J,K,L,l,a,a,f,g,h,d,e,i,j,aj,ak,l,b,b,m,
 n,o,p,l,q,r,s1,c,s0,c,s,al,am,M,N,O,P,Q,R,S,T,U,V,W,X,Y,Z,aa,ab,ac,ad,ae,af,
 ag,ah,ai] H129⟩⟩⟩⟩⟩⟩⟩⟩⟩⟩⟩⟩⟩⟩⟩⟩⟩⟩⟩⟩⟩):=by kernel_rfl
theorem S98x1q (r p s2 s3 s4 s5 s s7 s8 s9 q aM aN aO aP aQ aR aS aT aU aV aW aX aY aZ a0 a1 a2 a3 a4 a5 a6 a7 a8 a9 ba bb bc bd be bf bg bh bi bj bk bl bm bn bo bp bq br bs bt bu
 bv bw bx bz bA bB bC bD bE bF bG bH bI bJ bK bL bM bN bO bP bQ bR bS bT bU bV bW bX bY bZ b0 b1 b2 b3 b4 b5 b6 b7 b8 b9 ca cb cc cd t u v w x y z A B C
 D E F G I J K L M N O P Q R S T U V W X Y Z aa ab ac ad ae af ag ah ai aj ak al am an ao ap aq ar au av aw ax ay
 az aA aB aC aD aE aF aG aH aI aJ aK aL:Value) (H:AHeap) (k:Value→AHeap→Prop):S98x1 k [r,p,s2,s3,s4,s5,s,s7,s8,s9,q,aM,aN,aO,aP,aQ,aR,aS,aT,aU,aV,aW,
 aX,aY,aZ,a0,a1,a2,a3,a4,a5,a6,a7,a8,a9,ba,bb,bc,bd,be,bf,bg,bh,bi,bj,bk,bl,bm,bn,bo,bp,bq,br,bs,bt,bu,bv,bw,bx,bz,bA,bB,bC,bD,bE,bF,bG,
 bH,bI,bJ,bK,bL,bM,bN,bO,bP,bQ,bR,bS,bT,bU,bV,bW,bX,bY,bZ,b0,b1,b2,b3,b4,b5,b6,b7,b8,b9,ca,cb,cc,cd,t,u,v,w,x,y,z,A,B,C,
 D,E,F,G,I,J,K,L,M,N,O,P,Q,R,S,T,U,V,W,X,Y,Z,aa,ab,ac,ad,ae,af,ag,ah,ai,aj,ak,al,am,an,ao,ap,
 aq,ar,au,av,aw,ax,ay,az,aA,aB,aC,aD,aE,aF,aG,aH,aI,aJ,aK,aL] H=(@bndC prog 80 [r,p,(.int .u8 2),(.string { data:=#[42] })] H ⟨fun b H132=>@bnd
 (unV prog .not b) ⟨fun c=>@kifB c ⟨k (.tuple #[(.slice none 0 0),(.int .i64 (-1))]) H132⟩ ⟨@bnd (aIndexAddr prog H132 80 r p) ⟨fun d=>@bnd (aFieldAddr prog H132 122 d 1)
 ⟨fun e=>@bnd (aLoad prog H132 9 e) ⟨fun f=>@bnd (aBin2 prog H132 .add 9 (.tmp 150) (.tmp 155) q f) ⟨fun g=>@bndC prog 113 [g] H132 ⟨fun a H139=>@bnd
 (tupV a 0) ⟨fun h=>@bnd (tupV a 1) ⟨fun i=>@bnd (aBin2 prog H139 .neq 3 (.tmp 160) (.const (.int .i64 0)) i (.int .i64 0)) ⟨fun j=>@kifB j ⟨k (.tuple #[(.slice none 0
 0),(.int .i64 (-1))]) H139⟩ ⟨@bnd (aFieldAddr prog H139 54 s 5) ⟨fun l=>@bndS (aStore prog H139 2 l h) ⟨fun _ H145=>@bnd (aLoad prog H145 54 s) ⟨fun m=>@bndL prog H145 32
 1 [(0,m)] ⟨fun n H148=>@bnd (aBin2 prog H148 .add 3 (.tmp 166) (.const (.int .i64 1)) p (.int .i64 1)) ⟨fun o=>k (.tuple #[n,o]) H148⟩⟩⟩⟩⟩⟩⟩⟩⟩⟩⟩⟩⟩⟩⟩⟩⟩):=by kernel_rfl
-- tocsin/labels.MayName
theorem d101 (a0:Value) (H:AHeap) (k:Value→AHeap→Prop):kbody prog Tryz.f101 [a0] H k=(@bnd (aLen prog H 9 a0) ⟨fun j=>@bnd (aBin2 prog H .geq 3 (.tmp 4) (.const (.int .i64 1)) j (.int .i64 1))
 ⟨fun d=>@bnd (gif d true ((some a0)) undef) ⟨fun l=>@bnd (gif d true (aLen prog H 9 l) undef) ⟨fun m=>@bnd (gif d true (aBin2 prog H .leq 3 (.tmp 8) (.const (.int .i64 16)) m (.int .i64
 16)) undef) ⟨fun n=>@bnd (pickV d n (.bool false)) ⟨fun a=>@bnd (gif a true ((some a0)) undef) ⟨fun h=>@bnd (gif a true (aIndex prog 9 h (.int .i64 0)) undef) ⟨fun i=>@bndG a
 true H ⟨fun e H10=>ACalls prog 114 [i] H e H10⟩ ⟨fun e H10=>@bnd (pickV a e (.bool false)) ⟨fun b=>@bnd (gif b true ((some a0)) undef) ⟨fun f=>@bndG b true H10 ⟨fun
 c H14=>ACalls prog 115 [f,(.func (.func 116) #[] #[])] H10 c H14⟩ ⟨fun c H14=>@bnd (pickV b c (.bool false)) ⟨fun g=>k g H14⟩⟩⟩⟩⟩⟩⟩⟩⟩⟩⟩⟩⟩):=by kernel_rfl
-- tocsin/match.may
theorem d102 (a0:Value) (H:AHeap) (k:Value→AHeap→Prop):kbody prog Tryz.f102 [a0] H k=(@bnd (aBin2 prog H .eql 9 (.tmp 3) (.const (.string { data:=#[] })) a0 (.string { data:=#[] })) ⟨fun v4x1=>@bnd
 (gif v4x1 false ((some a0)) undef) ⟨fun v6x2=>@bndG v4x1 false H ⟨fun v7x3 H4=>ACalls prog 117 [v6x2] H v7x3 H4⟩ ⟨fun v7x3 H4=>@bnd (pickV v4x1 (.bool true) v7x3) ⟨fun v8x5=>k v8x5 H4⟩⟩⟩⟩):=by kernel_rfl
-- tocsin/tocsinref09.word
def L107x0 (n:Nat) (k:Value→AHeap→Prop) (sl:List Value) (H:AHeap):Prop:=kit prog (cl (cl (cr (cl (cr (cb Tryz.f107)))))) n (kblk 0 (kseq prog (cr (cr (cb Tryz.f107))) (kfin prog Tryz.f107 k)))
 .normal sl H
theorem d107 (a0:Value) (H:AHeap) (k:Value→AHeap→Prop):kbody prog Tryz.f107 [a0] H k=(∃ n,L107x0 n  k [a0,undef,(.bool false),(.int .i64 0),undef,undef,undef,undef,undef,undef,undef,undef,undef,
 undef,undef,undef,undef,undef,undef,undef,undef,undef,undef,undef,undef,undef,undef,undef,undef,undef] H):=by kernel_rfl
theorem L107x0q (n0:Nat) (c G I d R S T U V W J K L M N O P Q u v w x y z A B C D E F:Value) (H:AHeap) (k:Value→AHeap→Prop):L107x0 (n0+1) k [c,G,I,d,R,
 S,T,U,V,W,J,K,L,M,N,O,P,Q,u,v,w,x,y,z,A,B,C,D,E,F] H=(@bnd (aLen prog H 9 c) ⟨fun j=>@bnd (aBin2 prog H .lss 3 (.tmp 4) (.tmp 6) d j)
 ⟨fun l=>@kifB l ⟨@bnd (aBin2 prog H .add 3 (.tmp 12) (.const (.int .i64 1)) d (.int .i64 1)) ⟨fun e=>@bnd (aSliceOp prog H 9 c (some d) (some e)) ⟨fun f=>@bnd (aBin2 prog H .add 9
 (.const (.string { data:=#[97] })) (.tmp 14) (.string { data:=#[97] }) f) ⟨fun g=>@bndC prog 121 [g] H ⟨fun h H7=>@bnd (unV prog .not h) ⟨fun i=>@kifB i ⟨k (.bool false) H7⟩ ⟨@bnd
 (aBin2 prog H7 .add 3 (.tmp 8) (.const (.int .i64 1)) d (.int .i64 1)) ⟨fun m=>L107x0 n0  k [c,G,I,m,d,c,j,l,d,m,c,d,d,e,f,g,h,i,u,v,w,x,y,
 z,A,B,C,D,E,F] H7⟩⟩⟩⟩⟩⟩⟩⟩ ⟨@bnd (aBin2 prog H .neq 9 (.tmp 18) (.const (.string { data:=#[] })) c (.string { data:=#[] })) ⟨fun a=>@bnd (gif a true ((some c)) undef) ⟨fun n =>
 @bnd (gif a true (aIndex prog 9 n (.int .i64 0)) undef) ⟨fun o=>@bnd (gif a true (aBin2 prog H .geq 5 (.tmp 22) (.const (.int .u8 97)) o (.int .u8 97)) undef) ⟨fun p=>@bnd (pickV
 a p (.bool false)) ⟨fun b=>@bnd (gif b true ((some c)) undef) ⟨fun q=>@bnd (gif b true (aIndex prog 9 q (.int .i64 0)) undef) ⟨fun r=>@bnd (gif b true (aBin2 prog H
 .leq 5 (.tmp 27) (.const (.int .u8 122)) r (.int .u8 122)) undef) ⟨fun s=>@bnd (pickV b s (.bool false)) ⟨fun t=>k t H⟩⟩⟩⟩⟩⟩⟩⟩⟩⟩⟩⟩):=by kernel_rfl
end Go.Vi
namespace Go.Vi
open Go Go.Proofs Go.Proofs.Tryz
-- tocsin/tocsinref09.number
def L108x0 (n:Nat) (k:Value→AHeap→Prop) (sl:List Value) (H:AHeap):Prop:=kit prog (cl (cl (cr (cl (cr (cb Tryz.f108)))))) n (kblk 0 (kseq prog (cr (cr (cb Tryz.f108))) (kfin prog Tryz.f108 k)))
 .normal sl H
theorem d108 (a0:Value) (H:AHeap) (k:Value→AHeap→Prop):kbody prog Tryz.f108 [a0] H k=(∃ n,L108x0 n  k [a0,undef,(.bool false),(.int .i64 0),undef,undef,undef,undef,undef,undef,undef,undef,undef,
 undef,undef,undef,undef,undef,undef,undef,undef,undef,undef,undef,undef,undef,undef] H):=by kernel_rfl
theorem L108x0q (n0:Nat) (c E F d L M N O P Q G I J K r s t u v w x y z A B C D:Value) (H:AHeap) (k:Value→AHeap→Prop):L108x0 (n0+1) k [c,E,F,d,L,M,N,O,
 P,Q,G,I,J,K,r,s,t,u,v,w,x,y,z,A,B,C,D] H=(@bnd (aLen prog H 9 c) ⟨fun h=>@bnd (aBin2 prog H .lss 3 (.tmp 4) (.tmp 6) d h) ⟨fun i=>@kifB i ⟨@bnd
 (aIndex prog 9 c d) ⟨fun e=>@bnd (aBin2 prog H .eql 5 (.tmp 12) (.const (.int .u8 46)) e (.int .u8 46)) ⟨fun f=>@kifB f ⟨@bnd (aSliceOp prog H 9 c none (some d)) ⟨fun o=>@bndC
 prog 122 [o] H ⟨fun a H7=>@bnd (gif a true ((some c)) undef) ⟨fun p=>@bnd (gif a true ((some d)) undef) ⟨fun q=>@bnd (gif a true (aBin2 prog H7 .add 3 (.tmp 20) (.const (.int .i64
 1)) q (.int .i64 1)) undef) ⟨fun j=>@bnd (gif a true (aSliceOp prog H7 9 p (some j) none) undef) ⟨fun l=>@bndG a true H7 ⟨fun b H13=>ACalls prog 122 [l] H7 b H13⟩
 ⟨fun b H13=>@bnd (pickV a b (.bool false)) ⟨fun m=>k m H13⟩⟩⟩⟩⟩⟩⟩⟩⟩ ⟨@bnd (aBin2 prog H .add 3 (.tmp 8) (.const (.int .i64 1)) d (.int .i64 1)) ⟨fun g=>L108x0 n0  k [c,E,F,g,
 d,c,h,i,d,g,c,d,e,f,r,s,t,u,v,w,x,y,z,A,B,C,D] H⟩⟩⟩⟩⟩ ⟨@bndC prog 122 [c] H ⟨fun n H17=>k n H17⟩⟩⟩⟩):=by kernel_rfl
-- tocsin/tocsinref09.sign
def L109x0 (n:Nat) (k:Value→AHeap→Prop) (sl:List Value) (H:AHeap):Prop:=kit prog (cl (cl (cr (cl (cr (cr (cb Tryz.f109))))))) n (kblk 0 (kseq prog (cr (cr (cr (cb Tryz.f109)))) (kfin prog Tryz.f109
 k))) .normal sl H
theorem d109 (a0:Value) (H:AHeap) (k:Value→AHeap→Prop):kbody prog Tryz.f109 [a0] H k=(@bndL prog H 33 18 [(0,(.string { data:=#[60,61] })),(1,(.string { data:=#[62,61] })),(2,(.string { data :=
 #[61,61] })),(3,(.string { data:=#[33,61] })),(4,(.string { data:=#[94,61] })),(5,(.string { data:=#[123] })),(6,(.string { data:=#[125] })),(7,(.string { data:=#[40] })),(8,(.string { data:=#[41]
 })),(9,(.string { data:=#[91] })),(10,(.string { data:=#[93] })),(11,(.string { data:=#[44] })),(12,(.string { data:=#[58] })),(13,(.string { data:=#[59] })),(14,(.string { data:=#[61] })),(15,(.string
 { data:=#[60] })),(16,(.string { data:=#[62] })),(17,(.string { data:=#[45] }))] ⟨fun v5x1 H2=>∃ n,L109x0 n  k [a0,undef,(.bool false),v5x1,(.int .i64 0),v5x1,undef,undef,undef,undef,undef,undef,undef,
 undef,undef,undef,undef,undef] H2⟩):=by kernel_rfl
theorem L109x0q (n0:Nat) (i j l f a m v w x y n o p q r s t u:Value) (H:AHeap) (k:Value→AHeap→Prop):L109x0 (n0+1) k [i,j,l,f,a,m,v,w,x,y,n,o,p,q,r,s,
 t,u] H=(@bnd (aLen prog H 33 f) ⟨fun g=>@bnd (aBin2 prog H .lss 3 (.tmp 6) (.tmp 8) a g) ⟨fun h=>@kifB h ⟨@bnd (aIndexAddr prog H 33 f a) ⟨fun b=>@bnd (aLoad prog H 9 b)
 ⟨fun c=>@bnd (aBin2 prog H .eql 9 (.tmp 15) (.tmp 16) c i) ⟨fun d=>@kifB d ⟨k (.bool true) H⟩ ⟨@bnd (aBin2 prog H .add 3 (.tmp 10) (.const (.int .i64 1)) a (.int .i64 1)) ⟨fun e=>L109x0 n0 
 k [i,j,l,f,e,m,a,f,g,h,a,e,f,a,b,c,i,d] H⟩⟩⟩⟩⟩⟩ ⟨k (.bool false) H⟩⟩⟩):=by kernel_rfl
-- tocsin/tocsinref08.May
def L111x0 (n:Nat) (k:Value→AHeap→Prop) (sl:List Value) (H:AHeap):Prop:=kit prog (cl (cl (cr (cl (cr (cb Tryz.f111)))))) n (kblk 0 (kseq prog (cr (cr (cb Tryz.f111))) (kfin prog Tryz.f111 k)))
 .normal sl H
theorem d111 (a0:Value) (H:AHeap) (k:Value→AHeap→Prop):kbody prog Tryz.f111 [a0] H k=(∃ n,L111x0 n  k [a0,undef,(.bool false),(.int .i64 0),undef,undef,undef,undef,undef,undef,undef,undef,undef,
 undef,undef,undef,undef,undef,undef,undef,undef,undef,undef,undef,undef,undef,undef,undef,undef,undef,undef,undef,undef,undef,undef,undef,undef,undef,undef,undef,undef,undef,undef,undef,undef,
 undef] H):=by kernel_rfl
theorem L111x0q (n0:Nat) (f O P g s4 s5 s6 s7 s8 s9 Q R S T U V W X Y Z aa ab ac ad ae af ag ah ai aj ak al am an ao ap aq ar au av aw ax ay L M N:Value) (H:AHeap) (k :
 Value→AHeap→Prop):L111x0 (n0+1) k [f,O,P,g,s4,s5,s6,s7,s8,s9,Q,R,S,T,U,V,W,X,Y,Z,aa,ab,ac,ad,ae,af,ag,ah,ai,aj,ak,al,am,an,ao,ap,aq,ar,au,
 av,aw,ax,ay,L,M,N] H=(@bnd (aLen prog H 52 f) ⟨fun G=>@bnd (aBin2 prog H .lss 3 (.tmp 4) (.tmp 6) g G) ⟨fun I=>@kifB I ⟨@bnd (aIndexAddr prog H 52 f g) ⟨fun z=>@bnd
 (aFieldAddr prog H 56 z 1) ⟨fun A=>@bnd (aLoad prog H 5 A) ⟨fun B=>@bnd (aBin2 prog H .gtr 5 (.tmp 14) (.const (.int .u8 2)) B (.int .u8 2)) ⟨fun c=>@bnd (gif c false ((some f))
 undef) ⟨fun C=>@bnd (gif c false ((some g)) undef) ⟨fun D=>@bnd (gif c false (aIndexAddr prog H 52 C D) undef) ⟨fun E=>@bnd (gif c false (aFieldAddr prog H 56 E 0) undef)
 ⟨fun h=>@bnd (gif c false (aLoad prog H 9 h) undef) ⟨fun i=>@bndG c false H ⟨fun d H13=>ACalls prog 121 [i] H d H13⟩ ⟨fun d H13=>@bnd (gif c false (unV prog
 .not d) undef) ⟨fun j=>@bnd (pickV c (.bool true) j) ⟨fun a=>@bnd (gif a false ((some f)) undef) ⟨fun l=>@bnd (gif a false ((some g)) undef) ⟨fun m=>@bnd (gif a false
 (aIndexAddr prog H13 52 l m) undef) ⟨fun n=>@bnd (gif a false (aFieldAddr prog H13 56 n 2) undef) ⟨fun o=>@bnd (gif a false (aLoad prog H13 9 o) undef) ⟨fun p =>
 @bnd (gif a false (aLen prog H13 9 p) undef) ⟨fun q=>@bnd (gif a false (aBin2 prog H13 .gtr 3 (.tmp 31) (.const (.int .i64 32)) q (.int .i64 32)) undef) ⟨fun r=>@bnd (pickV a
 (.bool true) r) ⟨fun b=>@bnd (gif b false ((some f)) undef) ⟨fun s=>@bnd (gif b false ((some g)) undef) ⟨fun t=>@bnd (gif b false (aIndexAddr prog H13 52 s t) undef)
 ⟨fun u=>@bnd (gif b false (aFieldAddr prog H13 56 u 2) undef) ⟨fun v=>@bnd (gif b false (aLoad prog H13 9 v) undef) ⟨fun w=>@bndG b false H13 ⟨fun e H30=>ACalls
 prog 96 [w] H13 e H30⟩ ⟨fun e H30=>@bnd (gif b false (unV prog .not e) undef) ⟨fun x=>@bnd (pickV b (.bool true) x) ⟨fun y=>@kifB y ⟨k (.bool false) H30⟩ ⟨@bnd
 (aBin2 prog H30 .add 3 (.tmp 8) (.const (.int .i64 1)) g (.int .i64 1)) ⟨fun F=>L111x0 n0  k [f,O,P,F,g,f,G,I,g,F,f,g,z,A,B,c,c,C,D,E,h,
 i,d,j,a,a,l,m,n,o,p,q,r,b,b,s,t,u,v,w,e,x,y,L,M,N] H30⟩⟩⟩⟩⟩⟩⟩⟩⟩⟩⟩⟩⟩⟩⟩⟩⟩⟩⟩⟩⟩⟩⟩⟩⟩⟩⟩⟩⟩⟩⟩
 ⟨@bnd (aLen prog H 52 f) ⟨fun J=>@bnd (aBin2 prog H .leq 3 (.tmp 44) (.const (.int .i64 6)) J (.int .i64 6)) ⟨fun K=>k K H⟩⟩⟩⟩⟩):=by kernel_rfl
-- tocsin/tocsinref10.window
def L112x0 (n:Nat) (k:Value→AHeap→Prop) (sl:List Value) (H:AHeap):Prop:=kit prog (cl (cl (cr (cl (cr (cr (cb Tryz.f112))))))) n (kblk 0 (kseq prog (cr (cr (cr (cb Tryz.f112)))) (kfin prog Tryz.f112
 k))) .normal sl H
theorem d112 (a0:Value) (H:AHeap) (k:Value→AHeap→Prop):kbody prog Tryz.f112 [a0] H k=(∃ n,L112x0 n  k [a0,undef,(.int .i64 0),(.int .i64 0),(.int .i64 0),undef,undef,undef,undef,undef,undef,undef,
 undef,undef,undef,undef,undef,undef,undef,undef,undef,undef,undef,undef,undef,undef,undef,undef,undef,undef,undef,undef,undef,undef,undef,undef] H):=by kernel_rfl
theorem L112x0q (n0:Nat) (d A B t c s5 s6 s7 s8 s9 C D E F G I J K L M N O P Q R S T U V W X Y Z x y z:Value) (H:AHeap) (k:Value→AHeap→Prop):L112x0 (n0+1) k
 [d,A,B,t,c,s5,s6,s7,s8,s9,C,D,E,F,G,I,J,K,L,M,N,O,P,Q,R,S,T,U,V,W,X,Y,Z,x,y,z] H=(@bnd (aLen prog H 9 d) ⟨fun u=>@bnd
 (aBin2 prog H .lss 3 (.tmp 5) (.tmp 7) c u) ⟨fun v=>@kifB v ⟨@bnd (aIndex prog 9 d c) ⟨fun o=>@bnd (aBin2 prog H .lss 5 (.tmp 13) (.const (.int .u8 48)) o (.int .u8 48)) ⟨fun a=>@bnd
 (gif a false ((some d)) undef) ⟨fun p=>@bnd (gif a false ((some c)) undef) ⟨fun q=>@bnd (gif a false (aIndex prog 9 p q) undef) ⟨fun r=>@bnd (gif a false (aBin2 prog H .gtr
 5 (.tmp 18) (.const (.int .u8 57)) r (.int .u8 57)) undef) ⟨fun s=>@bnd (pickV a (.bool true) s) ⟨fun b=>@bnd (gif b false ((some t)) undef) ⟨fun e=>@bnd (gif b false (aBin2 prog H
 .gtr 3 (.tmp 22) (.const (.int .i64 1000)) e (.int .i64 1000)) undef) ⟨fun f=>@bnd (pickV b (.bool true) f) ⟨fun g=>@kifB g ⟨k (.int .i64 0) H⟩ ⟨@bnd (aBin2 prog H .mul 3 (.const (.int .i64
 10)) (.tmp 25) (.int .i64 10) t) ⟨fun h=>@bnd (aIndex prog 9 d c) ⟨fun i=>@bnd (aBin2 prog H .sub 5 (.tmp 29) (.const (.int .u8 48)) i (.int .u8 48)) ⟨fun j=>@bnd (convV prog H 5 3
 j) ⟨fun l=>@bnd (aBin2 prog H .add 3 (.tmp 26) (.tmp 31) h l) ⟨fun m=>@bnd (aBin2 prog H .add 3 (.tmp 9) (.const (.int .i64 1)) c (.int .i64 1)) ⟨fun n=>L112x0 n0  k [d,A,B,
 m,n,c,d,u,v,c,n,d,c,o,a,a,p,q,r,s,b,b,e,f,g,t,h,d,c,i,j,l,m,x,y,z]
 H⟩⟩⟩⟩⟩⟩⟩⟩⟩⟩⟩⟩⟩⟩⟩⟩⟩⟩ ⟨@bnd (aBin2 prog H .gtr 3 (.tmp 33) (.const (.int .i64 1000)) t (.int .i64 1000)) ⟨fun w=>@kifB w ⟨k (.int .i64 0) H⟩ ⟨k t H⟩⟩⟩⟩⟩):=by kernel_rfl
-- tocsin/tocsinref01.Parse
def S113x0 (k:Value→AHeap→Prop) (sl:List Value) (H:AHeap):Prop:=kseq prog (cr (cr (cr (cr (cb Tryz.f113))))) (kfin prog Tryz.f113 k) .normal sl H
def L113x0 (n:Nat) (k:Value→AHeap→Prop) (sl:List Value) (H:AHeap):Prop:=kit prog (cl (cl (cl (cr (cr (cr (cr (cr (cr (cb Tryz.f113)))))))))) n (kblk 0 (kseq prog (cr (cr (cr (cr (cr (cr (cr (cb
 Tryz.f113)))))))) (kfin prog Tryz.f113 k))) .normal sl H
def L113x1 (n:Nat) (k:Value→AHeap→Prop) (sl:List Value) (H:AHeap):Prop:=kit prog (cl (cl (cl (cr (cl (cr (cl (cr (cr (cr (cr (cr (cr (cr (cr (cb Tryz.f113)))))))))))))))) n (kblk 2 (kseq prog (cr (cr (cl
 (cr (cl (cr (cr (cr (cr (cr (cr (cr (cr (cb Tryz.f113)))))))))))))) (kseq prog (cr (cr (cr (cr (cr (cr (cr (cr (cr (cb Tryz.f113)))))))))) (kfin prog Tryz.f113 k)))) .normal sl H
def S113x1 (k:Value→AHeap→Prop) (sl:List Value) (H:AHeap):Prop:=kseq prog (cr (cr (cr (cr (cr (cr (cr (cr (cr (cb Tryz.f113)))))))))) (kfin prog Tryz.f113 k) .normal sl H
def L113x2 (n:Nat) (k:Value→AHeap→Prop) (sl:List Value) (H:AHeap):Prop:=kit prog (cl (cl (cl (cr (cr (cr (cr (cr (cr (cr (cr (cr (cr (cb Tryz.f113)))))))))))))) n (kblk 4 (kseq prog (cr (cr (cr (cr (cr
 (cr (cr (cr (cr (cr (cr (cb Tryz.f113)))))))))))) (kfin prog Tryz.f113 k))) .normal sl H
theorem d113 (a0:Value) (H:AHeap) (k:Value→AHeap→Prop):kbody prog Tryz.f113 [a0] H k=(@bnd (aLen prog H 9 a0) ⟨fun c=>@bnd (aBin2 prog H .gtr 3 (.tmp 10) (.const (.int .i64 0)) c (.int .i64
 0)) ⟨fun a=>@bnd (gif a true ((some a0)) undef) ⟨fun d=>@bnd (gif a true (aIndex prog 9 d (.int .i64 0)) undef) ⟨fun e=>@bnd (gif a true (aBin2 prog H .eql 5 (.tmp 14) (.const (.int
 .u8 45)) e (.int .u8 45)) undef) ⟨fun f=>@bnd (pickV a f (.bool false)) ⟨fun b=>@kifB b ⟨S113x0  k [a0,undef,(.int .i64 0),(.int .i64 0),(.int .i64 1),b,undef,undef,undef,a0,c,
 a,a,d,e,f,b,b,undef,undef,undef,undef,undef,undef,undef,undef,undef,undef,undef,undef,undef,undef,undef,undef,undef,undef,undef,undef,undef,undef,undef,undef,undef,
 undef,undef,undef,undef,undef,undef,undef,undef,undef,undef,undef,undef,undef,undef,undef,undef,undef,undef,undef,undef,undef,undef,undef,undef,undef,undef,undef,undef,undef,undef,undef,undef,
 undef,undef,undef,undef,undef,undef,undef,undef,undef,undef,undef,undef,undef,undef,undef,undef,undef] H⟩ ⟨S113x0  k [a0,undef,(.int .i64 0),(.int .i64 0),(.int .i64 0),b,undef,undef,undef,a0,
 c,a,a,d,e,f,b,b,undef,undef,undef,undef,undef,undef,undef,undef,undef,undef,undef,undef,undef,undef,undef,undef,undef,undef,undef,undef,undef,undef,undef,undef,
 undef,undef,undef,undef,undef,undef,undef,undef,undef,undef,undef,undef,undef,undef,undef,undef,undef,undef,undef,undef,undef,undef,undef,undef,undef,undef,undef,undef,undef,undef,undef,undef,
 undef,undef,undef,undef,undef,undef,undef,undef,undef,undef,undef,undef,undef,undef,undef,undef,undef,undef] H⟩⟩⟩⟩⟩⟩⟩):=by kernel_rfl
theorem S113x0q (s0 s1 s2 s3 s4 s5 s6 s7 s8 s9 a b c d e f g h i j l m o p q r s t u v w x y z A B C D E F G I J K L M N O P Q R S T U V
 W X Y Z aa ab ac ad ae af ag ah ai aj ak al am an ao ap aq ar au av aw ax ay az aA aB aC aD aE aF aG aH aI:Value) (H:AHeap) (k:Value→AHeap→Prop):S113x0 k [s0,s1,s2,s3,s4,
 s5,s6,s7,s8,s9,a,b,c,d,e,f,g,h,i,j,l,m,o,p,q,r,s,t,u,v,w,x,y,z,A,B,C,D,E,F,G,I,J,K,L,M,N,O,P,Q,R,
 S,T,U,V,W,X,Y,Z,aa,ab,ac,ad,ae,af,ag,ah,ai,aj,ak,al,am,an,ao,ap,aq,ar,au,av,aw,ax,ay,az,aA,aB,aC,aD,aE,aF,aG,aH,aI] H=(∃ n,L113x0 n  k
 [s0,s1,s2,s3,s4,s5,(.int .i64 0),(.int .i64 0),s8,s9,a,b,c,d,e,f,g,h,i,j,l,m,o,p,q,r,s,t,u,v,w,x,y,z,A,B,C,D,E,F,G,I,J,
 K,L,M,N,O,P,Q,R,S,T,U,V,W,X,Y,Z,aa,ab,ac,ad,ae,af,ag,ah,ai,aj,ak,al,am,an,ao,ap,aq,ar,au,av,aw,ax,ay,az,aA,aB,aC,aD,aE,
 aF,aG,aH,aI] H):=by kernel_rfl
theorem L113x0q (n0:Nat) (e s1 s2 s3 d s5 s6 s7 s8 s9 x y z A B C D E aU aV aW aX aY aZ a0 a1 a2 a3 az aA aB aC aD aE aF aG aH aK aL aM aN aO aP aQ aR aS aT aI aJ F G I J
 K L M N O P Q R S T U V W X Y Z aa ab ac ad ae af ag ah ai aj ak al am an ao ap aq ar au av aw ax ay:Value) (H:AHeap) (k:Value→AHeap→Prop):L113x0 (n0+1) k
 [e,s1,s2,s3,d,s5,s6,s7,s8,s9,x,y,z,A,B,C,D,E,aU,aV,aW,aX,aY,aZ,a0,a1,a2,a3,az,aA,aB,aC,aD,aE,aF,aG,aH,aK,aL,aM,aN,aO,aP,aQ,aR,aS,aT,
 aI,aJ,F,G,I,J,K,L,M,N,O,P,Q,R,S,T,U,V,W,X,Y,Z,aa,ab,ac,ad,ae,af,ag,ah,ai,aj,ak,al,am,an,ao,ap,aq,ar,au,av,aw,ax,ay] H
 = (@bnd (aLen prog H 9 e) ⟨fun i=>@bnd (aBin2 prog H .lss 3 (.tmp 18) (.tmp 20) d i) ⟨fun a=>@bnd (gif a true ((some e)) undef) ⟨fun j=>@bnd (gif a true ((some d)) undef) ⟨fun f
=>@bnd (gif a true (aIndex prog 9 j f) undef) ⟨fun g=>@bndG a true H ⟨fun c H13=>ACalls prog 124 [g] H c H13⟩ ⟨fun c H13=>@bnd (pickV a c (.bool false)) ⟨fun
 h=>@kifB h ⟨@bnd (aIndex prog 9 e d) ⟨fun s=>@bndC prog 125 [s6,s] H13 ⟨fun t H17=>@bnd (aBin2 prog H17 .add 3 (.tmp 33) (.const (.int .i64 1)) s7 (.int .i64 1)) ⟨fun u =>
 @bnd (aBin2 prog H17 .add 3 (.tmp 35) (.const (.int .i64 1)) d (.int .i64 1)) ⟨fun v=>L113x0 n0  k [e,s1,s2,s3,v,s5,t,u,s8,s9,x,y,z,A,B,C,D,E,d,e,i,a,
 a,j,f,g,c,h,s6,e,d,s,t,s7,u,d,v,aK,aL,aM,aN,aO,aP,aQ,aR,aS,aT,aI,aJ,F,G,I,J,K,L,M,N,O,P,Q,R,S,T,
 U,V,W,X,Y,Z,aa,ab,ac,ad,ae,af,ag,ah,ai,aj,ak,al,am,an,ao,ap,aq,ar,au,av,aw,ax,ay] H17⟩⟩⟩⟩⟩ ⟨@bnd (aLen prog H13 9 e) ⟨fun l=>@bnd (aBin2 prog H13
 .lss 3 (.tmp 37) (.tmp 39) d l) ⟨fun b=>@bnd (gif b true ((some e)) undef) ⟨fun m=>@bnd (gif b true ((some d)) undef) ⟨fun o=>@bnd (gif b true (aIndex prog 9 m o)
 undef) ⟨fun p=>@bnd (gif b true (aBin2 prog H13 .eql 5 (.tmp 44) (.const (.int .u8 46)) p (.int .u8 46)) undef) ⟨fun q=>@bnd (pickV b q (.bool false)) ⟨fun r=>@kifB r ⟨@bnd
 (aBin2 prog H13 .add 3 (.tmp 47) (.const (.int .i64 1)) d (.int .i64 1)) ⟨fun w=>∃ n,L113x1 n  k [e,s1,s2,s3,w,s5,s6,s7,(.int .i64 0),s9,x,y,z,A,B,C,D,E,d,e,i,
 a,a,j,f,g,c,h,az,aA,aB,aC,aD,aE,aF,aG,aH,d,e,l,b,b,m,o,p,q,r,d,w,F,G,I,J,K,L,M,N,O,
 P,Q,R,S,T,U,V,W,X,Y,Z,aa,ab,ac,ad,ae,af,ag,ah,ai,aj,ak,al,am,an,ao,ap,aq,ar,au,av,aw,ax,ay] H13⟩⟩ ⟨S113x1  k [e,s1,s2,s3,d,s5,s6,s7,(.int
 .i64 0),s9,x,y,z,A,B,C,D,E,d,e,i,a,a,j,f,g,c,h,az,aA,aB,aC,aD,aE,aF,aG,aH,d,e,l,b,b,m,o,p,
 q,r,aI,aJ,F,G,I,J,K,L,M,N,O,P,Q,R,S,T,U,V,W,X,Y,Z,aa,ab,ac,ad,ae,af,ag,ah,ai,aj,ak,al,am,an,ao,ap,aq,ar,au,av,
 aw,ax,ay] H13⟩⟩⟩⟩⟩⟩⟩⟩⟩⟩⟩⟩⟩⟩⟩⟩):=by kernel_rfl
theorem L113x1q (n1:Nat) (i s1 s2 s3 h s5 s6 s7 p s9 q r s t u v w x y z A B C D E F G I J K L M N O P Q R S T U V W X Y Z aa ab ac ad aN aO aP aQ
 aR aS aT aU aV aW aC aD aE aF aG aH aI aJ aK aL aM ae af ag ah ai aj ak al am an ao ap aq ar au av aw ax ay az aA aB:Value) (H:AHeap) (k:Value→AHeap→Prop):L113x1 (n1+1) k
 [i,s1,s2,s3,h,s5,s6,s7,p,s9,q,r,s,t,u,v,w,x,y,z,A,B,C,D,E,F,G,I,J,K,L,M,N,O,P,Q,R,S,T,U,V,W,X,Y,Z,aa,ab,
 ac,ad,aN,aO,aP,aQ,aR,aS,aT,aU,aV,aW,aC,aD,aE,aF,aG,aH,aI,aJ,aK,aL,aM,ae,af,ag,ah,ai,aj,ak,al,am,an,ao,ap,aq,ar,au,av,aw,ax,ay,az,aA,aB] H
 = (@bnd (aLen prog H 9 i) ⟨fun c=>@bnd (aBin2 prog H .lss 3 (.tmp 49) (.tmp 51) h c) ⟨fun a=>@bnd (gif a true ((some i)) undef) ⟨fun d=>@bnd (gif a true ((some h)) undef) ⟨fun
 e=>@bnd (gif a true (aIndex prog 9 d e) undef) ⟨fun f=>@bndG a true H ⟨fun b H34=>ACalls prog 124 [f] H b H34⟩ ⟨fun b H34=>@bnd (pickV a b (.bool
 false)) ⟨fun g=>@kifB g ⟨@bnd (aIndex prog 9 i h) ⟨fun j=>@bndC prog 125 [s6,j] H34 ⟨fun l H38=>@bnd (aBin2 prog H38 .add 3 (.tmp 64) (.const (.int .i64 1)) p (.int .i64 1))
 ⟨fun m=>@bnd (aBin2 prog H38 .add 3 (.tmp 66) (.const (.int .i64 1)) h (.int .i64 1)) ⟨fun n=>L113x1 n1  k [i,s1,s2,s3,n,s5,l,s7,m,s9,q,r,s,t,u,v,w,x,y,
 z,A,B,C,D,E,F,G,I,J,K,L,M,N,O,P,Q,R,S,T,U,V,W,X,Y,Z,aa,ab,ac,ad,h,i,c,a,a,d,e,f,b,g,s6,
 i,h,j,l,p,m,h,n,aL,aM,ae,af,ag,ah,ai,aj,ak,al,am,an,ao,ap,aq,ar,au,av,aw,ax,ay,az,aA,aB] H38⟩⟩⟩⟩⟩ ⟨@bnd (aBin2 prog H34 .eql 3 (.tmp 68)
 (.const (.int .i64 0)) p (.int .i64 0)) ⟨fun o=>@kifB o ⟨k (.tuple #[(.int .i64 0),(.int .i64 10)]) H34⟩ ⟨S113x1  k [i,s1,s2,s3,h,s5,s6,s7,p,s9,q,r,s,t,u,v,w,x,y,z,A,
 B,C,D,E,F,G,I,J,K,L,M,N,O,P,Q,R,S,T,U,V,W,X,Y,Z,aa,ab,ac,ad,h,i,c,a,a,d,e,f,b,g,aC,aD,aE,
 aF,aG,aH,aI,aJ,aK,p,o,ae,af,ag,ah,ai,aj,ak,al,am,an,ao,ap,aq,ar,au,av,aw,ax,ay,az,aA,aB] H34⟩⟩⟩⟩⟩⟩⟩⟩⟩⟩):=by kernel_rfl
theorem S113x1q (s0 s1 s2 s3 s4 s5 s6 j s8 s9 l m o p q r s t u v w x y z A B C D E F G I J K L M N O P Q R S T U V W X Y Z aa ab ac ad ae af
 ag ah ai aj ak al am an ao ap aq ar au av aw aH aI aJ aK aL aM aN aO aP aQ aR aS ax ay az aA aB aC aD aE aF aG:Value) (H:AHeap) (k:Value→AHeap→Prop):S113x1 k [s0,s1,s2,s3,s4,
 s5,s6,j,s8,s9,l,m,o,p,q,r,s,t,u,v,w,x,y,z,A,B,C,D,E,F,G,I,J,K,L,M,N,O,P,Q,R,S,T,U,V,W,X,Y,Z,aa,ab,
 ac,ad,ae,af,ag,ah,ai,aj,ak,al,am,an,ao,ap,aq,ar,au,av,aw,aH,aI,aJ,aK,aL,aM,aN,aO,aP,aQ,aR,aS,ax,ay,az,aA,aB,aC,aD,aE,aF,aG] H=(@bnd (aBin2
 prog H .eql 3 (.tmp 70) (.const (.int .i64 0)) j (.int .i64 0)) ⟨fun b=>@bnd (gif b false ((some s8)) undef) ⟨fun c=>@bnd (gif b false (aBin2 prog H .gtr 3 (.tmp 73) (.const (.int .i64 3))
 c (.int .i64 3)) undef) ⟨fun d=>@bnd (pickV b (.bool true) d) ⟨fun a=>@bnd (gif a false ((some s4)) undef) ⟨fun e=>@bnd (gif a false ((some s0)) undef) ⟨fun f=>@bnd (gif
 a false (aLen prog H 9 f) undef) ⟨fun g=>@bnd (gif a false (aBin2 prog H .neq 3 (.tmp 77) (.tmp 79) e g) undef) ⟨fun h=>@bnd (pickV a (.bool true) h) ⟨fun i =>
 @kifB i ⟨k (.tuple #[(.int .i64 0),(.int .i64 10)]) H⟩ ⟨∃ n,L113x2 n  k [s0,s1,s2,s3,s4,s5,s6,j,s8,s9,l,m,o,p,q,r,s,t,u,v,w,x,y,z,A,B,C,D,E,F,G,
 I,J,K,L,M,N,O,P,Q,R,S,T,U,V,W,X,Y,Z,aa,ab,ac,ad,ae,af,ag,ah,ai,aj,ak,al,am,an,ao,ap,aq,ar,au,av,aw,j,b,b,c,
 d,a,a,e,f,g,h,i,ax,ay,az,aA,aB,aC,aD,aE,aF,aG] H⟩⟩⟩⟩⟩⟩⟩⟩⟩⟩):=by kernel_rfl
theorem L113x2q (n2:Nat) (s0 s1 s2 s3 s4 s5 d s7 e s9 g h i j l m n o p q r s t u v w x y z A B C D E F G I J K L M N O P Q R S T U V W X Y
 Z aa ab ac ad ae af ag ah ai aj ak al am an ao ap aq ar au av aw ax ay az aA aB aC aD aI aJ aK aL aM aN aE aF aG aH:Value) (H:AHeap) (k:Value→AHeap→Prop):L113x2 (n2+1) k
 [s0,s1,s2,s3,s4,s5,d,s7,e,s9,g,h,i,j,l,m,n,o,p,q,r,s,t,u,v,w,x,y,z,A,B,C,D,E,F,G,I,J,K,L,M,N,O,P,Q,R,S,
 T,U,V,W,X,Y,Z,aa,ab,ac,ad,ae,af,ag,ah,ai,aj,ak,al,am,an,ao,ap,aq,ar,au,av,aw,ax,ay,az,aA,aB,aC,aD,aI,aJ,aK,aL,aM,aN,aE,aF,aG,aH] H
 = (@bnd (aBin2 prog H .lss 3 (.tmp 82) (.const (.int .i64 3)) e (.int .i64 3)) ⟨fun a=>@kifB a ⟨@bndC prog 125 [d,(.int .u8 48)] H ⟨fun b H53=>@bnd (aBin2 prog H53 .add 3 (.tmp 86) (.const
 (.int .i64 1)) e (.int .i64 1)) ⟨fun c=>L113x2 n2  k [s0,s1,s2,s3,s4,s5,b,s7,c,s9,g,h,i,j,l,m,n,o,p,q,r,s,t,u,v,w,x,y,z,A,B,C,D,
 E,F,G,I,J,K,L,M,N,O,P,Q,R,S,T,U,V,W,X,Y,Z,aa,ab,ac,ad,ae,af,ag,ah,ai,aj,ak,al,am,an,ao,ap,aq,ar,au,av,aw,ax,ay,az,
 aA,aB,aC,aD,e,a,d,b,e,c,aE,aF,aG,aH] H53⟩⟩⟩ ⟨@kifB s5 ⟨@bnd (unV prog .neg d) ⟨fun f=>k (.tuple #[f,(.int .i64 0)]) H⟩⟩ ⟨k (.tuple #[d,(.int .i64 0)]) H⟩⟩⟩):=by
 kernel_rfl
-- tocsin/labels.letter
theorem d114 (a0:Value) (H:AHeap) (k:Value→AHeap→Prop):kbody prog Tryz.f114 [a0] H k=(@bnd (aBin2 prog H .geq 5 (.tmp 3) (.const (.int .u8 97)) a0 (.int .u8 97)) ⟨fun v4x1=>@bnd (gif v4x1 true ((some
 a0)) undef) ⟨fun v6x2=>@bnd (gif v4x1 true (aBin2 prog H .leq 5 (.tmp 6) (.const (.int .u8 122)) v6x2 (.int .u8 122)) undef) ⟨fun v7x3=>@bnd (pickV v4x1 v7x3 (.bool false)) ⟨fun v8x4=>k v8x4 H⟩⟩⟩⟩):=by kernel_rfl
-- tocsin/labels.every
def L115x0 (n:Nat) (k:Value→AHeap→Prop) (sl:List Value) (H:AHeap):Prop:=kit prog (cl (cl (cr (cl (cr (cb Tryz.f115)))))) n (kblk 0 (kseq prog (cr (cr (cb Tryz.f115))) (kfin prog Tryz.f115 k)))
 .normal sl H
theorem d115 (a0 a1:Value) (H:AHeap) (k:Value→AHeap→Prop):kbody prog Tryz.f115 [a0,a1] H k=(@bnd (aLen prog H 9 a0) ⟨fun v7x1=>∃ n,L115x0 n  k [a0,a1,undef,undef,(.bool false),undef,a0,v7x1,
 (.int .i64 0),undef,undef,undef,undef,undef,undef,undef,undef,undef] H⟩):=by kernel_rfl
theorem L115x0q (n0:Nat) (g h j l m w n i a x o p q r s t u v:Value) (H:AHeap) (k:Value→AHeap→Prop):L115x0 (n0+1) k [g,h,j,l,m,w,n,i,a,x,o,p,q,r,s,t,
 u,v] H=(@bnd (aBin2 prog H .lss 3 (.tmp 8) (.tmp 7) a i) ⟨fun f=>@kifB f ⟨@bnd (aIndex prog 9 g a) ⟨fun b=>@bndV prog h [b] H ⟨fun c H5=>@bnd (unV prog .not c) ⟨fun
 d=>@kifB d ⟨k (.bool false) H5⟩ ⟨@bnd (aBin2 prog H5 .add 3 (.tmp 8) (.const (.int .i64 1)) a (.int .i64 1)) ⟨fun e=>L115x0 n0  k [g,h,j,l,m,a,n,i,e,f,a,h,g,a,b,c,
 d,e] H5⟩⟩⟩⟩⟩⟩ ⟨k (.bool true) H⟩⟩):=by kernel_rfl
-- tocsin/labels.mark
theorem d116 (a0:Value) (H:AHeap) (k:Value→AHeap→Prop):kbody prog Tryz.f116 [a0] H k=(@bndC prog 114 [a0] H ⟨fun a H2=>@bnd (gif a false ((some a0)) undef) ⟨fun i=>@bnd (gif a false (aBin2
 prog H2 .geq 5 (.tmp 6) (.const (.int .u8 48)) i (.int .u8 48)) undef) ⟨fun j=>@bnd (gif a false ((some j)) undef) ⟨fun c=>@bnd (gif c true ((some a0)) undef) ⟨fun l=>@bnd (gif c true (aBin2
 prog H2 .leq 5 (.tmp 9) (.const (.int .u8 57)) l (.int .u8 57)) undef) ⟨fun g=>@bnd (gif a false (pickV c g (.bool false)) undef) ⟨fun h=>@bnd (pickV a (.bool true) h) ⟨fun b=>@bnd
 (gif b false ((some a0)) undef) ⟨fun d=>@bnd (gif b false (aBin2 prog H2 .eql 5 (.tmp 14) (.const (.int .u8 95)) d (.int .u8 95)) undef) ⟨fun e=>@bnd (pickV b (.bool true) e) ⟨fun f
=>k f H2⟩⟩⟩⟩⟩⟩⟩⟩⟩⟩⟩):=by kernel_rfl
-- tocsin/labels.MayValue
theorem d117 (a0:Value) (H:AHeap) (k:Value→AHeap→Prop):kbody prog Tryz.f117 [a0] H k=(@bnd (aLen prog H 9 a0) ⟨fun f=>@bnd (aBin2 prog H .geq 3 (.tmp 4) (.const (.int .i64 1)) f (.int .i64 1))
 ⟨fun a=>@bnd (gif a true ((some a0)) undef) ⟨fun g=>@bnd (gif a true (aLen prog H 9 g) undef) ⟨fun h=>@bnd (gif a true (aBin2 prog H .leq 3 (.tmp 8) (.const (.int .i64 32)) h (.int .i64
 32)) undef) ⟨fun i=>@bnd (pickV a i (.bool false)) ⟨fun b=>@bnd (gif b true ((some a0)) undef) ⟨fun e=>@bndG b true H ⟨fun c H9=>ACalls prog 115 [e,(.func (.func 126) #[] #[])] H
 c H9⟩ ⟨fun c H9=>@bnd (pickV b c (.bool false)) ⟨fun d=>k d H9⟩⟩⟩⟩⟩⟩⟩⟩⟩):=by kernel_rfl
-- tocsin/tocsinref07.MayName
def L121x0 (n:Nat) (k:Value→AHeap→Prop) (sl:List Value) (H:AHeap):Prop:=kit prog (cl (cl (cr (cl (cr (cr (cb Tryz.f121))))))) n (kblk 0 (kseq prog (cr (cr (cr (cb Tryz.f121)))) (kfin prog Tryz.f121
 k))) .normal sl H
theorem d121 (a0:Value) (H:AHeap) (k:Value→AHeap→Prop):kbody prog Tryz.f121 [a0] H k=(@bnd (aLen prog H 9 a0) ⟨fun m=>@bnd (aBin2 prog H .lss 3 (.tmp 5) (.const (.int .i64 1)) m (.int .i64 1))
 ⟨fun c=>@bnd (gif c false ((some a0)) undef) ⟨fun o=>@bnd (gif c false (aLen prog H 9 o) undef) ⟨fun p=>@bnd (gif c false (aBin2 prog H .gtr 3 (.tmp 9) (.const (.int .i64 16)) p (.int
 .i64 16)) undef) ⟨fun h=>@bnd (pickV c (.bool true) h) ⟨fun b=>@bnd (gif b false ((some a0)) undef) ⟨fun i=>@bnd (gif b false (aIndex prog 9 i (.int .i64 0)) undef) ⟨fun j=>@bnd
 (gif b false (aBin2 prog H .lss 5 (.tmp 14) (.const (.int .u8 97)) j (.int .u8 97)) undef) ⟨fun l=>@bnd (pickV b (.bool true) l) ⟨fun a=>@bnd (gif a false ((some a0)) undef) ⟨fun d =>
 @bnd (gif a false (aIndex prog 9 d (.int .i64 0)) undef) ⟨fun e=>@bnd (gif a false (aBin2 prog H .gtr 5 (.tmp 19) (.const (.int .u8 122)) e (.int .u8 122)) undef) ⟨fun f=>@bnd (pickV
 a (.bool true) f) ⟨fun g=>@kifB g ⟨k (.bool false) H⟩ ⟨∃ n,L121x0 n  k [a0,undef,(.bool false),(.int .i64 0),a0,m,c,c,o,p,h,b,b,i,j,l,a,a,
 d,e,f,g,undef,undef,undef,undef,undef,undef,undef,undef,undef,undef,undef,undef,undef,undef,undef,undef,undef,undef,undef,undef,undef,undef,undef,undef,undef,undef,undef,undef,
 undef,undef,undef,undef,undef,undef,undef] H⟩⟩⟩⟩⟩⟩⟩⟩⟩⟩⟩⟩⟩⟩⟩):=by kernel_rfl
theorem L121x0q (n0:Nat) (f R S e T U V W X Y E F G I J K L M N O P Q Z aa ab ac ad ae af ag ah ai aj ak al am an ao ap aq ar au av aw ax ay az aA aB aC aD aE aF
 aG aH aI aJ:Value) (H:AHeap) (k:Value→AHeap→Prop):L121x0 (n0+1) k [f,R,S,e,T,U,V,W,X,Y,E,F,G,I,J,K,L,M,N,O,P,Q,Z,aa,ab,ac,ad,ae,af,ag,
 ah,ai,aj,ak,al,am,an,ao,ap,aq,ar,au,av,aw,ax,ay,az,aA,aB,aC,aD,aE,aF,aG,aH,aI,aJ] H=(@bnd (aLen prog H 9 f) ⟨fun g=>@bnd (aBin2 prog H .lss 3 (.tmp 22)
 (.tmp 24) e g) ⟨fun h=>@kifB h ⟨@bnd (aIndex prog 9 f e) ⟨fun i=>@bnd (aBin2 prog H .geq 5 (.tmp 30) (.const (.int .u8 97)) i (.int .u8 97)) ⟨fun b=>@bnd (gif b true ((some
 f)) undef) ⟨fun j=>@bnd (gif b true ((some e)) undef) ⟨fun l=>@bnd (gif b true (aIndex prog 9 j l) undef) ⟨fun m=>@bnd (gif b true (aBin2 prog H .leq 5 (.tmp 35) (.const
 (.int .u8 122)) m (.int .u8 122)) undef) ⟨fun n=>@bnd (pickV b n (.bool false)) ⟨fun a=>@bnd (gif a false ((some f)) undef) ⟨fun o=>@bnd (gif a false ((some e)) undef) ⟨fun p
=>@bnd (gif a false (aIndex prog 9 o p) undef) ⟨fun q=>@bnd (gif a false (aBin2 prog H .geq 5 (.tmp 41) (.const (.int .u8 48)) q (.int .u8 48)) undef) ⟨fun r=>@bnd (gif a
 false ((some r)) undef) ⟨fun d=>@bnd (gif d true ((some f)) undef) ⟨fun s=>@bnd (gif d true ((some e)) undef) ⟨fun t=>@bnd (gif d true (aIndex prog 9 s t) undef) ⟨fun
 u=>@bnd (gif d true (aBin2 prog H .leq 5 (.tmp 46) (.const (.int .u8 57)) u (.int .u8 57)) undef) ⟨fun v=>@bnd (gif a false (pickV d v (.bool false)) undef) ⟨fun w=>@bnd (pickV
 a (.bool true) w) ⟨fun c=>@bnd (gif c false ((some f)) undef) ⟨fun x=>@bnd (gif c false ((some e)) undef) ⟨fun y=>@bnd (gif c false (aIndex prog 9 x y) undef) ⟨fun
 z=>@bnd (gif c false (aBin2 prog H .eql 5 (.tmp 53) (.const (.int .u8 95)) z (.int .u8 95)) undef) ⟨fun A=>@bnd (pickV c (.bool true) A) ⟨fun B=>@bnd (unV prog .not B)
 ⟨fun C=>@kifB C ⟨k (.bool false) H⟩ ⟨@bnd (aBin2 prog H .add 3 (.tmp 26) (.const (.int .i64 1)) e (.int .i64 1)) ⟨fun D=>L121x0 n0  k [f,R,S,D,T,U,V,W,X,Y,E,F,G,I,
 J,K,L,M,N,O,P,Q,e,f,g,h,e,D,f,e,i,b,b,j,l,m,n,a,a,o,p,q,r,d,s,t,u,v,
 w,c,c,x,y,z,A,B,C] H⟩⟩⟩⟩⟩⟩⟩⟩⟩⟩⟩⟩⟩⟩⟩⟩⟩⟩⟩⟩⟩⟩⟩⟩⟩⟩⟩ ⟨k (.bool true) H⟩⟩⟩):=by kernel_rfl
-- tocsin/tocsinref09.digits
def L122x0 (n:Nat) (k:Value→AHeap→Prop) (sl:List Value) (H:AHeap):Prop:=kit prog (cl (cl (cr (cl (cr (cb Tryz.f122)))))) n (kblk 0 (kseq prog (cr (cr (cb Tryz.f122))) (kfin prog Tryz.f122 k)))
 .normal sl H
theorem d122 (a0:Value) (H:AHeap) (k:Value→AHeap→Prop):kbody prog Tryz.f122 [a0] H k=(∃ n,L122x0 n  k [a0,undef,(.bool false),(.int .i64 0),undef,undef,undef,undef,undef,undef,undef,undef,undef,
 undef,undef,undef,undef,undef,undef,undef,undef,undef] H):=by kernel_rfl
theorem L122x0q (n0:Nat) (b q r c C D E F G I s t u v w x y z A B o p:Value) (H:AHeap) (k:Value→AHeap→Prop):L122x0 (n0+1) k [b,q,r,c,C,D,E,F,G,I,s,t,u,
 v,w,x,y,z,A,B,o,p] H=(@bnd (aLen prog H 9 b) ⟨fun l=>@bnd (aBin2 prog H .lss 3 (.tmp 4) (.tmp 6) c l) ⟨fun m=>@kifB m ⟨@bnd (aIndex prog 9 b c) ⟨fun d=>@bnd
 (aBin2 prog H .lss 5 (.tmp 12) (.const (.int .u8 48)) d (.int .u8 48)) ⟨fun a=>@bnd (gif a false ((some b)) undef) ⟨fun e=>@bnd (gif a false ((some c)) undef) ⟨fun f=>@bnd (gif a false
 (aIndex prog 9 e f) undef) ⟨fun g=>@bnd (gif a false (aBin2 prog H .gtr 5 (.tmp 17) (.const (.int .u8 57)) g (.int .u8 57)) undef) ⟨fun h=>@bnd (pickV a (.bool true) h) ⟨fun i
=>@kifB i ⟨k (.bool false) H⟩ ⟨@bnd (aBin2 prog H .add 3 (.tmp 8) (.const (.int .i64 1)) c (.int .i64 1)) ⟨fun j=>L122x0 n0  k [b,q,r,j,c,b,l,m,c,j,b,c,d,a,a,
 e,f,g,h,i,o,p] H⟩⟩⟩⟩⟩⟩⟩⟩⟩⟩ ⟨@bnd (aBin2 prog H .neq 9 (.tmp 20) (.const (.string { data:=#[] })) b (.string { data:=#[] })) ⟨fun n=>k n H⟩⟩⟩⟩):=by kernel_rfl
-- tocsin/tocsinref10.op
theorem d123 (a0:Value) (H:AHeap) (k:Value→AHeap→Prop):kbody prog Tryz.f123 [a0] H k=(@bndL prog H 33 3 [(0,(.string { data:=#[61] })),(1,(.string { data:=#[33,61] })),(2,(.string { data:=#[94,
 61] }))] ⟨fun v3x1 H2=>@bnd (aIndexAddr prog H2 33 v3x1 a0) ⟨fun v5x3=>@bnd (aLoad prog H2 9 v5x3) ⟨fun v6x4=>k v6x4 H2⟩⟩⟩):=by kernel_rfl
-- tocsin/tocsinref01.digit
theorem d124 (a0:Value) (H:AHeap) (k:Value→AHeap→Prop):kbody prog Tryz.f124 [a0] H k=(@bnd (aBin2 prog H .geq 5 (.tmp 3) (.const (.int .u8 48)) a0 (.int .u8 48)) ⟨fun v4x1=>@bnd (gif v4x1 true ((some
 a0)) undef) ⟨fun v6x2=>@bnd (gif v4x1 true (aBin2 prog H .leq 5 (.tmp 6) (.const (.int .u8 57)) v6x2 (.int .u8 57)) undef) ⟨fun v7x3=>@bnd (pickV v4x1 v7x3 (.bool false)) ⟨fun v8x4=>k v8x4 H⟩⟩⟩⟩):=by kernel_rfl
-- tocsin/tocsinref01.more
theorem d125 (a0 a1:Value) (H:AHeap) (k:Value→AHeap→Prop):kbody prog Tryz.f125 [a0,a1] H k=(@bnd (aBin2 prog H .gtr 2 (.tmp 5) (.const (.int .i64 461168601842738790)) a0 (.int .i64 461168601842738790))
 ⟨fun e=>@kifB e ⟨k (.int .i64 4611686018427387903) H⟩ ⟨@bnd (aBin2 prog H .mul 2 (.const (.int .i64 10)) (.tmp 7) (.int .i64 10) a0) ⟨fun f=>@bnd (aBin2 prog H .sub 5 (.tmp 9) (.const (.int .u8 48)) a1
 (.int .u8 48)) ⟨fun a=>@bnd (convV prog H 5 2 a) ⟨fun b=>@bnd (aBin2 prog H .add 2 (.tmp 8) (.tmp 11) f b) ⟨fun c=>@bndC prog 59 [c] H ⟨fun d H7=>k d H7⟩⟩⟩⟩⟩⟩⟩):=by
 kernel_rfl
-- tocsin/labels.sign
theorem d126 (a0:Value) (H:AHeap) (k:Value→AHeap→Prop):kbody prog Tryz.f126 [a0] H k=(@bnd (aBin2 prog H .geq 5 (.tmp 3) (.const (.int .u8 32)) a0 (.int .u8 32)) ⟨fun v4x1=>@bnd (gif v4x1 true ((some
 a0)) undef) ⟨fun v6x2=>@bnd (gif v4x1 true (aBin2 prog H .leq 5 (.tmp 6) (.const (.int .u8 126)) v6x2 (.int .u8 126)) undef) ⟨fun v7x3=>@bnd (pickV v4x1 v7x3 (.bool false)) ⟨fun v8x4=>k v8x4 H⟩⟩⟩⟩):=by kernel_rfl
end Go.Vi
namespace Go.Vi
open Go Go.Proofs Go.Proofs.Tryz
theorem MixT:prog.follows .mixedOrders=true:=by kernel_rfl
def isLow (b:UInt8):Bool:=decide (97≤(b.toNat:Int)) && decide ((b.toNat:Int)≤122)
def isDig (b:UInt8):Bool:=decide (48≤(b.toNat:Int)) && decide ((b.toNat:Int)≤57)
def isMark (b:UInt8):Bool:=isLow b || isDig b || (b.toNat:Int) == 95
def isSign (b:UInt8):Bool:=decide (32≤(b.toNat:Int)) && decide ((b.toNat:Int)≤126)
def mayName (l:List UInt8):Bool:=decide (1≤l.length) && decide (l.length≤16) && (l[0]?).any isLow && l.all isMark
def mayValue (l:List UInt8):Bool:=decide (1≤l.length) && decide (l.length≤32) && l.all isSign
theorem c_lab_letter (H:AHeap) (b:UInt8):ACalls prog 114 [byt b] H (.bool (isLow b)) H:=by
 refine acalls_pure MixT func114 (by decide) rfl ?_
 rw [d114]
 simp +contextual [isLow]
theorem c_lab_mark (H:AHeap) (b:UInt8):ACalls prog 116 [byt b] H (.bool (isMark b)) H:=by
 refine acalls_pure MixT func116 (by decide) rfl ?_
 rw [d116]
 refine bndC_of (c_lab_letter _ _) ?_
 simp +contextual [isMark,isDig]
theorem c_lab_sign (H:AHeap) (b:UInt8):ACalls prog 126 [byt b] H (.bool (isSign b)) H:=by
 refine acalls_pure MixT func126 (by decide) rfl ?_
 rw [d126]
 simp +contextual [isSign]
theorem every_loop {l:List UInt8} {g:FuncId} {p:UInt8→Bool} {H:AHeap} {k:Value→AHeap→Prop} (hp:∀ b,ACalls prog g [byt b] H (.bool (p b)) H) (hl:l.length < 2 ^ 63) :
  ∀ (r : List UInt8) (i : Nat) (o q s t u a c d e f j m n : Value), l.drop i = r → i ≤ l.length → k (.bool (r.all p)) H →
    L115x0 (r.length+1) k [str l,.func (.func g) #[] #[],o,q,s,t,str l,i64 l.length,i64 i,u,a,c,d,e,f,j,m,n] H:=by
 intro r
 induction r with
 | nil =>
   intro i o q s t u a c d e f j m n hd hi hk
   have hle:l.length≤i:=by simpa using hd
   rw [List.length_nil,L115x0q]
   have:¬ i < l.length:=by omega
   simp [this]
   simpa using hk
 | cons b r ih =>
   intro i o q s t u a c d e f j m n hd hi hk
   have hb:l[i]?=some b:=by rw [← List.head?_drop,hd];rfl
   have hlt:i < l.length:=(List.getElem?_eq_some_iff.1 hb).1
   rw [List.length_cons,L115x0q]
   simp [hlt,aIndex_at _ hb]
   refine bndV_func (by simpa using hp b) ?_
   simp
   refine kifB_bool (fun h=>?_) (fun h=>?_)
   · simp at h
     simpa [h] using hk
   · simp at h
     simp [show i+1 < 2 ^ 63 by omega]
     exact ih (i+1) _ _ _ _ _ _ _ _ _ _ _ _ _ (by rw [← List.drop_drop,hd];rfl) hlt (by simpa [h] using hk)
theorem c_every {H:AHeap} {l:List UInt8} {g:FuncId} {p:UInt8→Bool} (hp:∀ b,ACalls prog g [byt b] H (.bool (p b)) H) (hl:l.length < 2 ^ 63) :
  ACalls prog 115 [str l,.func (.func g) #[] #[]] H (.bool (l.all p)) H:=by
 refine acalls_pure MixT func115 (by decide) rfl ?_
 rw [d115]
 simp
 exact ⟨l.length+1,every_loop hp hl l 0 _ _ _ _ _ _ _ _ _ _ _ _ _ rfl (by omega) ⟨rfl,[],by simp⟩⟩
theorem c_mayName (H:AHeap) (l:List UInt8):ACalls prog 101 [str l] H (.bool (mayName l)) H:=by
 refine acalls_pure MixT func101 (by decide) rfl ?_
 rw [d101]
 cases l with
 | nil=>simp [mayName]
 | cons b r =>
   have hb:(b :: r)[0]?=some b:=rfl
   have h0:=aIndex_at (P:=prog) (T:=9) (k:=.i64) (i:=0) (by simp) hb
   simp only [Int.ofNat_zero] at h0
   simp +contextual [h0]
   refine bndG_call (.bool (isLow b)) (fun h=>?_) ?_
   · simp only [h,gsel_tt];exact c_lab_letter _ _
   simp +contextual
   refine bndG_call (.bool ((b :: r).all isMark)) (fun h=>?_) ?_
   · have hh:=h
     simp at h
     simp only [hh,gsel_tt];exact c_every (c_lab_mark _) (by simp;omega)
   · simp +contextual [mayName]
     have:decide (1≤(r.length:Int)+1)=true:=by simp;omega
     have h2:decide ((r.length:Int)+1≤16)=decide (r.length≤15):=by rw [decide_eq_decide];omega
     rw [this,h2,Bool.true_and]
theorem c_mayValue (H:AHeap) (l:List UInt8):ACalls prog 117 [str l] H (.bool (mayValue l)) H:=by
 refine acalls_pure MixT func117 (by decide) rfl ?_
 rw [d117]
 simp +contextual
 refine bndG_call (.bool (l.all isSign)) (fun h=>?_) ?_
 · have hh:=h
   simp at h
   simp only [hh,gsel_tt];exact c_every (c_lab_sign _) (by omega)
 · simp +contextual
   rw [mayValue]
   congr 2<;>rw [decide_eq_decide]<;>omega
structure Mat where
 name:List UInt8
 op:Int
 value:List UInt8
def Mat.cells (m:Mat):List Value:=[str m.name,.int .u8 m.op,str m.value]
def mayM (s:List UInt8):Bool:=decide (s=[]) || mayValue s
def Mat.ok (m:Mat):Bool:=(m.op == 0 || m.op == 1 || m.op == 2) && mayName m.name && mayM m.value
def mayMats (ms:List Mat):Bool:=ms.all Mat.ok && decide (ms.length≤6)
theorem c_matMay (H:AHeap) (l:List UInt8):ACalls prog 102 [str l] H (.bool (mayM l)) H:=by
 refine acalls_pure MixT func102 (by decide) rfl ?_
 rw [d102]
 simp +contextual
 refine bndG_call (.bool (mayValue l)) (fun h=>?_) ?_
 · simp only [h,gsel_ff];exact c_mayValue _ _
 · simp +contextual [mayM]
def opsMap:List (Value × Value):=[(.int .u8 0,.agg #[str [61],.func (.func 87) #[] #[]]),(.int .u8 1,.agg #[str [33,61],.func (.func 88) #[] #[]]),(.int .u8 2,.agg #[str [94,61],.func (.func 89) #[] #[]])]
theorem c_matOps (H:AHeap):ACalls prog 70 [] H (.map (some H.length)) (H++[.map opsMap]):=by
 refine acalls_of MixT func70 (by decide) ?_
 rw [d70]
 simp [keyOk,mOk,mput,mfind,keyEq,opsMap]
def MatsAt (H:AHeap) (v:Value) (ms:List Mat):Prop:=Arr H 3 v (ms.map Mat.cells)
theorem MatsAt.pre {H K v ms} (h:MatsAt H v ms) (p:Pre H K):MatsAt K v ms:=Arr.pre h p
def isOp (n:Int):Bool:=n == 0 || n == 1 || n == 2
def opS (n:Int):List UInt8:=if n=0 then [61] else if n=1 then [33,61] else if n=2 then [94,61] else []
def opF (n:Int):Value:=if n=0 then .func (.func 87) #[] #[] else if n=1 then .func (.func 88) #[] #[] else if n=2 then .func (.func 89) #[] #[] else .nilFunc
theorem opF_one (n:Int):(opF n).oneCell'=true:=by unfold opF;split<;>(try split)<;>(try split)<;>rfl
theorem opsOk:mOk (.int .u8) opsMap=true:=by simp [mOk,opsMap,keyOk]
theorem opsLook {K:AHeap} {mb:Nat} (n:Int) (h:K[mb]?=some (.map opsMap)):aLookup prog K 109 (.map (some mb)) (.int .u8 n) true=some (.tuple #[.agg #[str (opS n),opF n],.bool (isOp n)]):=by
 rw [aLookup_map,h]
 simp only [tm109,Option.bind_some,mapOf_map,opsOk,keyOk,beq_self_eq_true,if_true]
 unfold mget opsMap opS opF isOp
 simp only [mfind,keyEq]
 by_cases h0:n=0
 · simp [h0]
 · by_cases h1:n=1
   · simp [h1]
   · by_cases h2:n=2
     · simp [h2]
     · simp [h0,h1,h2,cok,isLit]
theorem matMay_loop {v:Value} {ms:List Mat} {H:AHeap} {w:Bool} {mb:Nat} {k:Value→AHeap→Prop} (hl:ms.length < 2 ^ 63) (hk:∀ K,Pre H K→k (.bool w) K) :
  ∀ (r : List Mat) (i : Nat) (K : AHeap) (N O Q R S U V a b c d f g j l n o q s t u x y z A B C D E F G I J L M : Value), ms.drop i = r → i ≤ ms.length → Pre H K → MatsAt K v ms → K[mb]? = some (.map opsMap) →
    w=(r.all Mat.ok && decide (ms.length≤6)) →
    L86x0 (r.length+1) k [v,N,O,.map (some mb),Q,R,S,U,V,v,i64 ms.length,i64 i,a,b,c,d,f,g,j,l,n,o,q,s,t,u,x,y,z,A,B,C,D,E,F,G,I,J,L,M] K:=by
 intro r
 induction r with
 | nil =>
   intro i K N O Q R S U V a b c d f g j l n o q s t u x y z A B C D E F G I J L M hd hi hp hm hmap hw
   have hle:ms.length≤i:=by simpa using hd
   rw [List.length_nil,L86x0q]
   have:¬ i < ms.length:=by omega
   have hlen:=hm.len (P:=prog) (T:=52) (e:=56) (by simp)
   simp at hlen
   simp [this,hlen]
   have:=hk K hp
   rw [hw] at this
   have e:decide ((ms.length:Int)≤6)=decide (ms.length≤6):=by rw [decide_eq_decide];omega
   rw [e];simpa using this
 | cons m r ih =>
   intro i K N O Q R S U V a b c d f g j l n o q s t u x y z A B C D E F G I J L M hd hi hp hm hmap hw
   have hb:ms[i]?=some m:=by rw [← List.head?_drop,hd];rfl
   have hlt:i < ms.length:=(List.getElem?_eq_some_iff.1 hb).1
   obtain ⟨p,hp1,hp2⟩:=hm.load (P:=prog) (T:=52) (te:=56) (i:=i) (e:=m.cells) (by simp) (by simp) (by simp) (by simp [hb])
   have hmb:mb < K.length:=(List.getElem?_eq_some_iff.1 hmap).1
   have hg:∀ X:AHeap,(K++X)[mb]?=some (.map opsMap):=fun X=>get_more hmap
   rw [List.length_cons,L86x0q]
   have hlook:∀ X:AHeap,aLookup prog (K++X) 109 (.map (some mb)) (.int .u8 m.op) true=some (.tuple #[.agg #[str (opS m.op),opF m.op],.bool (isOp m.op)]):=fun X=>opsLook _ (hg X)
   simp +contextual [hlt,hp1,hp2,Mat.cells,-aLookup_map,hlook,opF_one]
   refine bndG_call (.bool (mayName m.name)) (fun h=>?_) ?_
   · simp only [h,gsel_ff];exact c_mayName _ _
   simp +contextual
   refine bndG_call (.bool (mayM m.value)) (fun h=>?_) ?_
   · simp only [h,gsel_ff];exact c_matMay _ _
   simp +contextual
   have hok:m.ok=(isOp m.op && mayName m.name && mayM m.value):=by simp [Mat.ok,isOp]
   refine kifB_bool (fun h=>?_) (fun h=>?_)
   · have:w=false:=by
      rw [hw,List.all_cons,hok]
      revert h;cases isOp m.op<;>cases mayName m.name<;>cases mayM m.value<;>simp
     rw [← this]
     exact hk _ (hp.more _)
   · have h1:m.ok=true:=by
      rw [hok]
      revert h;cases isOp m.op<;>cases mayName m.name<;>cases mayM m.value<;>simp
     simp [show i+1 < 2 ^ 63 by omega]
     exact ih (i+1) _ _ _ _ _ _ _ _ _ _ _ _ _ _ _ _ _ _ _ _ _ _ _ _ _ _ _ _ _ _ _ _ _ _ _ _ (by rw [← List.drop_drop,hd];rfl) hlt (hp.more _) (hm.pre (.app _ _)) (hg _) (by rw [hw,List.all_cons,h1,Bool.true_and])
theorem c_matchMay {H:AHeap} {v:Value} {ms:List Mat} (hm:MatsAt H v ms) (hl:ms.length < 2 ^ 63):ACalls prog 86 [v] H (.bool (mayMats ms)) H:=by
 refine acalls_pure MixT func86 (by decide) rfl ?_
 rw [d86]
 refine bndC_of (c_matOps H) ?_
 have hlen:=(hm.pre (.app H [.map opsMap])).len (P:=prog) (T:=52) (e:=56) (by simp)
 simp at hlen
 simp [hlen]
 exact ⟨ms.length+1,matMay_loop (H:=H) hl (fun K p=>⟨rfl,p⟩) ms 0 _ _ _ _ _ _ _ _ _ _ _ _ _ _ _ _ _ _ _ _ _ _ _ _ _ _ _ _ _ _ _ _ _ _ _ _ rfl (by omega) (.app _ _) (hm.pre (.app _ _)) (by simp) rfl⟩
end Go.Vi
namespace Go.Vi
open Go Go.Proofs Go.Proofs.Tryz
structure Nod where
 kind:UInt8
 agg:UInt8
 sel:List Mat
 window:Int
 cmp:UInt8
 value:Int
 left:Int
 right:Int
def Nod.cells (n:Nod) (sv:Value):List Value:=[byt n.kind,byt n.agg,sv,i64 n.window,byt n.cmp,i64 n.value,i64 n.left,i64 n.right]
def maxFix:Int:=4611686018427387903
def sat (x:Int):Int:=min (max x (-maxFix)) maxFix
theorem c_sat (H:AHeap) (x:Int):ACalls prog 73 [i64 x] H (i64 (sat x)) H:=by
 refine acalls_pure MixT func73 (by decide) rfl ?_
 rw [d73]
 simp [sat,maxFix]
 split<;>split<;>omega
def aggs:List (List UInt8):=[[99,111,117,110,116],[115,117,109],[109,105,110],[109,97,120],[109,101,97,110],[108,97,115,116]]
def cmps:List (List UInt8):=[[60],[60,61],[62],[62,61],[61,61],[33,61]]
theorem c_aggregates (H:AHeap):ACalls prog 49 [] H (.slice (some ⟨H.length,0,some 6⟩) 6 6) (H++[.cells (aggs.map str) 9]):=by
 refine acalls_of MixT func49 (by decide) ?_
 rw [d49]
 exact bndL_of (by decide) (by kernel_rfl) ⟨rfl,rfl⟩
theorem c_compares (H:AHeap):ACalls prog 51 [] H (.slice (some ⟨H.length,0,some 6⟩) 6 6) (H++[.cells (cmps.map str) 9]):=by
 refine acalls_of MixT func51 (by decide) ?_
 rw [d51]
 exact bndL_of (by decide) (by kernel_rfl) ⟨rfl,rfl⟩
def Nod.plain (n:Nod):Bool:=decide ((n.agg.toNat:Int) < 6) && mayMats n.sel && decide (n.window ≥ 1) && decide (n.window≤1000) && decide ((n.cmp.toNat:Int) < 6) && (sat n.value == n.value) && (n.left == 0) && (n.right == 0)
def Nod.void (n:Nod):Bool:=((n.agg.toNat:Int) == 0) && ((n.sel.length:Int) == 0) && (n.window == 0) && ((n.cmp.toNat:Int) == 0) && (n.value == 0)
theorem MatsAt.one {H v ms} (h:MatsAt H v ms):v.oneCell'=true:=Arr.one h
theorem c_void {H:AHeap} {n:Nod} {sv:Value} (hs:MatsAt H sv n.sel):ACalls prog 69 [.agg (n.cells sv).toArray] H (.bool n.void) H:=by
 refine acalls_pure MixT func69 (by decide) rfl ?_
 rw [d69]
 have h1:=hs.one
 have hl:=fun X=>(hs.pre (.app H X)).len (P:=prog) (T:=52) (e:=56) (by simp)
 simp at hl
 simp +contextual [aNew_agg,Nod.cells,Nod.void,h1,hl]
theorem c_plain {H:AHeap} {n:Nod} {sv:Value} (hs:MatsAt H sv n.sel) (hsl:n.sel.length < 2 ^ 63):ACalls prog 68 [.agg (n.cells sv).toArray] H (.bool n.plain) H:=by
 refine acalls_pure MixT func68 (by decide) rfl ?_
 rw [d68]
 have h1:=hs.one
 simp +contextual [aNew_agg,Nod.cells,h1]
 refine bndD_of (c_aggregates _) (.inr ⟨_,rfl⟩) ?_
 simp +contextual
 refine bndD_gcall (.bool (mayMats n.sel)) (by simp) (fun h=>?_) ?_
 · simp only [h,gsel_tt];rw [List.append_assoc];exact c_matchMay (hs.pre (.app _ _)) hsl
 simp +contextual
 refine bndD_gcases _ _ (by simp) (fun h=>?_) (fun _=>c_compares _) (.inr ⟨_,by simp;rfl⟩) (fun h=>?_)
 · have e:n.plain=false:=by simp only [Nod.plain,ge_iff_le,h,Bool.false_and]
   simp [h,e]
 · simp +contextual [h]
   refine bndD_gcall (i64 (sat n.value)) (by simp) (fun h=>?_) ?_
   · simp only [h,gsel_tt];exact c_sat _ _
   simp +contextual
   simp only [Nod.plain,ge_iff_le,h,Bool.true_and]
def NodesAt (H:AHeap) (v:Value) (ns:List Nod):Prop:=∃ cl:List (List Value),Arr H 8 v cl∧cl.length=ns.length∧∀ (i:Nat) n,ns[i]?=some n→∃ sv,cl[i]?=some (n.cells sv)∧MatsAt H sv n.sel∧n.sel.length < 2 ^ 63
theorem NodesAt.pre {H K v ns} (h:NodesAt H v ns) (p:Pre H K):NodesAt K v ns:=by
 obtain ⟨cl,h1,h2,h3⟩:=h
 refine ⟨cl,h1.pre p,h2,fun i n hi=>?_⟩
 obtain ⟨sv,q1,q2,q3⟩:=h3 i n hi
 exact ⟨sv,q1,q2.pre p,q3⟩
theorem NodesAt.len {H v ns} (h:NodesAt H v ns) (K:AHeap):aLen prog K 32 v=some (i64 ns.length):=by
 obtain ⟨cl,h1,h2,_⟩:=h
 rw [← h2]
 exact h1.len' (e:=54) (by simp)
def isAnd (n:Nod):Bool:=(n.kind.toNat:Int) == 1
def isOr (n:Nod):Bool:=(n.kind.toNat:Int) == 2
def beg (ns:List Nod):Nat→Int→Int
 | 0,_=>-1
 | f + 1, e => if e < 0 then -1 else match ns[e.toNat]? with
   | none=>-1
   | some n =>
     if ((n.kind.toNat:Int) == 0)=true then (if n.plain=true then e else -1)
     else if ((n.kind.toNat:Int) == 3)=true then (if (n.void && n.left == e-1 && n.right == 0)=true then beg ns f (e-1) else -1)
     else if (isAnd n || isOr n)=true then
      (if (n.void && n.right == e-1 && decide (beg ns f (e-1) > 0) && n.left == beg ns f (e-1)-1)=true then beg ns f (beg ns f (e-1)-1) else -1)
     else -1
theorem beg_range (ns:List Nod):∀ (f:Nat) (e:Int),-1≤e→-1≤beg ns f e∧beg ns f e≤e:=by
 intro f
 induction f with
 | zero=>intro e h;exact ⟨Int.le_refl _,h⟩
 | succ f ih =>
   intro e h
   simp only [beg]
   split
   · omega
   · split
     · omega
     · split
       · split<;>omega
       · split
         · split
           · have:=ih (e-1) (by omega);omega
           · omega
         · split
           · split
             · rename_i n _ _ _ _ hc
               simp only [Bool.and_eq_true,decide_eq_true_eq] at hc
               have h1:=ih (e-1) (by omega)
               have:=ih (beg ns f (e-1)-1) (by omega)
               omega
             · omega
           · omega
attribute [local simp] S48x0q S48x1q
theorem c_begin {ns:List Nod} {v:Value} (hlen:ns.length < 2 ^ 40):∀ (f:Nat) (H:AHeap) (e:Int),NodesAt H v ns→-1≤e→e < ns.length→e < f→ACalls prog 48 [v,i64 e] H (i64 (beg ns f e)) H:=by
 intro f
 induction f with
 | zero =>
   intro H e hn h1 h2 h3
   refine acalls_pure MixT func48 (by decide) rfl ?_
   rw [d48]
   have:e = -1:=by omega
   subst this
   simp [beg]
 | succ f ih =>
   intro H e hn h1 h2 h3
   refine acalls_pure MixT func48 (by decide) rfl ?_
   rw [d48]
   by_cases h0:e < 0
   · simp [beg,h0]
   obtain ⟨cl,ha,hcl,hc⟩:=hn
   obtain ⟨n,hnd⟩:∃ n,ns[e.toNat]?=some n:=⟨_,List.getElem?_eq_getElem (by omega)⟩
   obtain ⟨sv,hsv,hm,hml⟩:=hc _ _ hnd
   obtain ⟨p,hp1,hp2⟩:=ha.load (P:=prog) (T:=32) (te:=54) (i:=e.toNat) (e:=n.cells sv) (by simp) (by simp) (by simp) hsv
   have het:((e.toNat:Nat):Int)=e:=by omega
   rw [het] at hp1
   have hone:=hm.one
   simp [h0,hp1,hp2,Nod.cells,hone]
   have hK:∀ X:AHeap,NodesAt (H++X) v ns:=fun X=>NodesAt.pre ⟨cl,ha,hcl,hc⟩ (.app _ _)
   have hpl:=fun X:AHeap=>c_plain (H:=H++X) (hm.pre (.app _ _)) hml
   have hvo:=fun X:AHeap=>c_void (H:=H++X) (hm.pre (.app _ _))
   have hw:IntKind.i64.wrap (e-1)=e-1:=wrap_i64 (by omega) (by omega)
   have hr:=ih (H++[AObj.cells [byt n.kind,byt n.agg,sv,i64 n.window,byt n.cmp,i64 n.value,i64 n.left,i64 n.right] 54]) (e-1) (hK _) (by omega) (by omega) (by omega)
   obtain ⟨rb1,rb2⟩:=beg_range ns f (e-1) (by omega)
   have hw2:IntKind.i64.wrap (beg ns f (e-1)-1)=beg ns f (e-1)-1:=wrap_i64 (by omega) (by omega)
   simp only [Nod.cells] at hpl hvo
   have hbeg:beg ns (f+1) e=if ((n.kind.toNat:Int) == 0)=true then (if n.plain=true then e else -1)
    else if ((n.kind.toNat:Int) == 3)=true then (if (n.void && n.left == e-1 && n.right == 0)=true then beg ns f (e-1) else -1)
    else if (isAnd n || isOr n)=true then
     (if (n.void && n.right == e-1 && decide (beg ns f (e-1) > 0) && n.left == beg ns f (e-1)-1)=true then beg ns f (beg ns f (e-1)-1) else -1)
    else -1:=by rw [beg,if_neg h0,hnd]
   generalize beg ns (f+1) e=res at hbeg ⊢
   refine kifB_bool (fun hk=>?_) (fun hk=>?_)
   · rw [hk,if_pos rfl] at hbeg
     simp
     refine bndC_of (hpl _) ?_
     refine kifB_bool (fun hq=>?_) (fun hq=>?_)<;>simp [hq,hbeg]
   rw [hk,if_neg (by simp)] at hbeg
   simp
   refine kifB_bool (fun hk3=>?_) (fun hk3=>?_)
   · rw [hk3,if_pos rfl] at hbeg
     simp
     refine bndC_of (hvo _) ?_
     simp +contextual [hw]
     refine kifB_bool (fun hq=>?_) (fun hq=>?_)
     · rw [hq,if_pos rfl] at hbeg
       simp [hw]
       exact bndC_of hr (by simp [hbeg])
     · rw [hq,if_neg (by simp)] at hbeg
       simp [hbeg]
   rw [hk3,if_neg (by simp)] at hbeg
   simp
   refine kifB_bool (fun hk1=>?_) (fun hk1=>?_)
   · rw [show (isAnd n || isOr n)=true by simp only [isAnd,hk1,Bool.true_or],if_pos rfl] at hbeg
     simp only [S48x1q,kifB_true,aBin_sub,hw,bnd_some,hk1]
     refine bndC_of hr ?_
     simp
     refine bndC_of (hvo _) ?_
     simp +contextual [hw,hw2]
     refine kifB_bool (fun hq=>?_) (fun hq=>?_)
     · rw [hq,if_pos rfl] at hbeg
       have hpos:beg ns f (e-1) > 0:=by
        revert hq;cases hd:decide (beg ns f (e-1) > 0)
        · simp
        · intro _;simpa using hd
       simp [hw2]
       exact bndC_of (ih _ (beg ns f (e-1)-1) (hK _) (by omega) (by omega) (by omega)) (by simp [hbeg])
     · rw [hq,if_neg (by simp)] at hbeg
       simp [hbeg]
   · simp
     refine kifB_bool (fun hk2=>?_) (fun hk2=>?_)
     · rw [show (isAnd n || isOr n)=true by simp only [isOr,hk2,Bool.or_true],if_pos rfl] at hbeg
       simp only [aBin_sub,hw,bnd_some]
       refine bndC_of hr ?_
       simp
       refine bndC_of (hvo _) ?_
       simp +contextual [hw,hw2]
       refine kifB_bool (fun hq=>?_) (fun hq=>?_)
       · rw [hq,if_pos rfl] at hbeg
         have hpos:beg ns f (e-1) > 0:=by
          revert hq;cases hd:decide (beg ns f (e-1) > 0)
          · simp
          · intro _;simpa using hd
         simp [hw2]
         exact bndC_of (ih _ (beg ns f (e-1)-1) (hK _) (by omega) (by omega) (by omega)) (by simp [hbeg])
       · rw [hq,if_neg (by simp)] at hbeg
         simp [hbeg]
     · rw [show (isAnd n || isOr n)=false by simp only [isAnd,isOr,hk1,hk2,Bool.or_self],if_neg (by simp)] at hbeg
       simp [hbeg]
def right (ns:List Nod):Bool:=decide ((ns.length:Int) ≥ 1) && decide ((ns.length:Int)≤31) && (beg ns ns.length ((ns.length:Int)-1) == 0)
theorem c_right {H:AHeap} {ns:List Nod} {v:Value} (hn:NodesAt H v ns):ACalls prog 31 [v] H (.bool (right ns)) H:=by
 refine acalls_pure MixT func31 (by decide) rfl ?_
 rw [d31]
 have hl:=hn.len H
 simp +contextual [hl]
 refine bndG_call (i64 (beg ns ns.length ((ns.length:Int)-1))) (fun h=>?_) ?_
 · simp only [h,gsel_tt]
   simp at h
   have:IntKind.i64.wrap ((ns.length:Int)-1)=(ns.length:Int)-1:=wrap_i64 (by omega) (by omega)
   rw [this]
   exact c_begin (by omega) _ _ _ hn (by omega) (by omega) (by omega)
 · simp +contextual [right]
end Go.Vi
namespace Go.Vi
open Go Go.Proofs
def strCells (l:List (List UInt8)):List (List Value):=l.map fun s=>[str s]
structure Rul where
 name:List UInt8
 byL:List UInt8
 nodes:List Nod
 forM:Int
 every:Int
 repeatM:Int
 mutes:List (List UInt8)
 route:List UInt8
def Rul.cells (r:Rul) (nv mv:Value):List Value:=[str r.name,str r.byL,nv,i64 r.forM,i64 r.every,i64 r.repeatM,mv,str r.route]
end Go.Vi
namespace Go.Vi
open Go Go.Proofs
structure Mut where
 name:List UInt8
 days:List Bool
 fromM:Int
 toM:Int
def Mut.cells (m:Mut):List Value:=str m.name :: (m.days.map .bool++[i64 m.fromM,i64 m.toM])
def MutesAt (H:AHeap) (v:Value) (ms:List Mut):Prop:=Arr H 10 v (ms.map Mut.cells)∧∀ m∈ms,m.days.length=7
theorem MutesAt.pre {H K v ms} (h:MutesAt H v ms) (p:Pre H K):MutesAt K v ms:=⟨h.1.pre p,h.2⟩
def RulesAt (H:AHeap) (v:Value) (rs:List Rul):Prop:=∃ cl:List (List Value),Arr H 8 v cl∧cl.length=rs.length∧∀ (i:Nat) r,rs[i]?=some r→∃ nv mv,cl[i]?=some (r.cells nv mv)∧NodesAt H nv r.nodes∧Arr H 1 mv (strCells r.mutes)∧r.mutes.length < 2 ^ 63
theorem RulesAt.pre {H K v rs} (h:RulesAt H v rs) (p:Pre H K):RulesAt K v rs:=by
 obtain ⟨cl,h1,h2,h3⟩:=h
 refine ⟨cl,h1.pre p,h2,fun i r hi=>?_⟩
 obtain ⟨nv,mv,q1,q2,q3,q4⟩:=h3 i r hi
 exact ⟨nv,mv,q1,q2.pre p,q3.pre p,q4⟩
structure Cfg where
 rules:List Rul
 mutes:List Mut
 late:Int
 limit:Int
def Cfg.cells (c:Cfg) (rv mv:Value):List Value:=[rv,mv,i64 c.late,i64 c.limit]
end Go.Vi
namespace Go.Vi
open Go Go.Proofs Go.Proofs.Tryz
def bcells (s:List UInt8):List Value:=s.map byt
abbrev selfP (pb:Nat):Value:=.pointer (some ⟨pb,0,some 2⟩)
inductive Buf (g:Bool) (K:AHeap) (pb:Nat):Value→List UInt8→Prop
 | nil:Buf g K pb (.slice none 0 0) []
 | mk (bb n c:Nat) (cs:List Value) (s:List UInt8) (h1:pb < bb) (h2:K[bb]?=some (.cells cs 5)) (h3:cs.length=c) (h4:n=s.length) (h5:n≤c) (h6:cs.take n=bcells s) (h7:g=false→s≠[]) (h8:0 < c):Buf g K pb (.slice (some ⟨bb,0,some c⟩) n c) s
def Bld (g:Bool) (K:AHeap) (pb:Nat) (s:List UInt8):Prop:=∃ ad bv,K[pb]?=some (.cells [ad,bv] 65)∧(ad=.pointer none∨ad=selfP pb)∧Buf g K pb bv s
def Keeps (pb:Nat) (K K':AHeap):Prop:=∀ H,Pre H K→H.length≤pb→Pre H K'
theorem Keeps.refl (pb:Nat) (K:AHeap):Keeps pb K K:=fun _ h _=>h
theorem Keeps.trans {pb K K' K''} (h:Keeps pb K K') (k:Keeps pb K' K''):Keeps pb K K'':=fun H p q=>k H (h H p q) q
theorem Keeps.set {pb b:Nat} {K:AHeap} {o:AObj} (h:pb≤b):Keeps pb K (K.set b o):=fun _ p q=>p.set (by omega)
theorem Keeps.app {pb:Nat} {K X:AHeap}:Keeps pb K (K++X):=fun _ p _=>p.more _
theorem Buf.one {g K pb v s} (h:Buf g K pb v s):v.oneCell'=true:=by cases h<;>rfl
theorem Buf.setPb {g K pb v s} {o:AObj} (h:Buf g K pb v s):Buf g (K.set pb o) pb v s:=by
 cases h with
 | nil=>exact .nil
 | mk bb n c cs s h1 h2 h3 h4 h5 h6 h7 h8=>exact .mk bb n c cs s h1 (by rw [List.getElem?_set_ne (by omega)];exact h2) h3 h4 h5 h6 h7 h8
theorem Buf.app {g K pb v s} {X:AHeap} (h:Buf g K pb v s):Buf g (K++X) pb v s:=by
 cases h with
 | nil=>exact .nil
 | mk bb n c cs s h1 h2 h3 h4 h5 h6 h7 h8=>exact .mk bb n c cs s h1 (get_more h2) h3 h4 h5 h6 h7 h8
theorem c_noEscape (H:AHeap) (v:Value):ACalls prog 62 [v] H v H :=
 acalls_noEscape func62 (by decide) (by decide) (by kernel_rfl) (by kernel_rfl)
theorem c_copyCheck {K:AHeap} {pb:Nat} {ad bv:Value} (h1:K[pb]?=some (.cells [ad,bv] 65)) (h2:ad=.pointer none∨ad=selfP pb) (_hone:bv.oneCell'=true) :
  ACalls prog 45 [selfP pb] K (.tuple #[]) (K.set pb (.cells [selfP pb,bv] 65)):=by
 refine acalls_of MixT func45 (by decide) ?_
 rw [d45]
 have hh:hcells K pb=some [ad,bv]:=by simp [hcells,h1]
 have hl:hlen K pb=some 2:=by rw [hcells_len hh];rfl
 have hlt:pb < K.length:=(List.getElem?_eq_some_iff.1 h1).1
 rcases h2 with rfl | rfl
 · simp [nilV,aIsPtr,hh,hl,aBin_nilptr (P:=prog) (T:=63) (e:=65) (by simp)]
   have hcv:convV prog K 63 99 (selfP pb)=some (selfP pb):=by simp [convV,aConv,aPtrConv,h1]
   have hcv2:convV prog K 99 63 (selfP pb)=some (selfP pb):=by
    have:prog.cellsOf 65=2:=by kernel_rfl
    simp [convV,aConv,aPtrConv,h1,this]
   simp only [hcv,bnd_some]
   refine bndC_of (c_noEscape _ _) ?_
   simp only [hcv2,bnd_some]
   simp [nilV,aIsPtr,hl,h1]
 · simp [nilV,aIsPtr,hh,hl,aBin_ptrnil (P:=prog) (T:=63) (e:=65) (by simp)]
   have:=aBin_ptrne (P:=prog) (H:=K) (T:=63) (x:=Operand.tmp 17) (y:=Operand.tmp 18) (e:=65) (b:=pb) (o:=0) (m:=2) (z:=1) (by simp) (by simp) hl
   simp [this]
   exact (set_same h1).symm
theorem Buf.add {g:Bool} {K:AHeap} {pb:Nat} {v:Value} {s ys:List UInt8} {t2:TypeId} {x:Value} (h:Buf g K pb v s) (hpb:pb < K.length) (hx:aSrc K 1 x=some (ys.length,bcells ys)) (ht:isSeq prog t2=true) (hne:ys≠[]) (hlen:s.length+ys.length≤2 ^ 46) :
  ∃ v' K',aBuiltin prog K .append #[45,t2] [v,x]=some (v',K')∧Buf false K' pb v' (s++ys)∧Keeps pb K K'∧K'[pb]?=K[pb]?:=by
 have hy:ys.length≠0:=by simpa using hne
 cases h with
 | nil =>
   refine ⟨.slice (some ⟨K.length,0,some ys.length⟩) ys.length ys.length,K++[.cells (bcells ys) 5],?_,?_,.app,by rw [List.getElem?_append_left hpb]⟩
   · have:ys.length≤140737488355328:=by simp at hlen;omega
     have h2:ys.length≤9223372036854775807:=by omega
     simp [aBuiltin,aAppend,hx,ht,hne,this,h2,bcells]
   · refine .mk K.length ys.length ys.length (bcells ys) ys hpb (by simp) (by simp [bcells]) rfl (Nat.le_refl _) (by rw [List.take_of_length_le (by simp [bcells])]) (fun _=>hne) (by omega)
 | mk bb n c cs s h1 h2 h3 h4 h5 h6 h7 h8 =>
   subst h4
   by_cases hfit:s.length+ys.length≤c
   · refine ⟨.slice (some ⟨bb,0,some c⟩) (s.length+ys.length) c,K.set bb (.cells (putCells cs (0+s.length*1) (bcells ys)) 5),?_,?_,.set (by omega),by rw [List.getElem?_set_ne (by omega)]⟩
     · simp [aBuiltin,aAppend,hx,ht,h2,h3,h5,hfit]
     · have hlt:=(List.getElem?_eq_some_iff.1 h2).1
       have e:putCells cs (0+s.length*1) (bcells ys)=cs.take s.length++bcells ys++cs.drop (s.length+ys.length):=by
        rw [putCells_eq _ _ _ (by simp [bcells];omega)]
        simp [bcells]
       rw [e]
       refine .mk bb (s.length+ys.length) c _ (s++ys) h1 (List.getElem?_set_self hlt) (by simp [bcells];omega) (by simp) hfit ?_ (fun _=>by simp [hne]) h8
       rw [h6,List.take_append_of_le_length (by simp [bcells]),List.take_of_length_le (by simp [bcells])]
       simp [bcells]
   · refine ⟨.slice (some ⟨bb,0,some ((s.length+ys.length)*1)⟩) (s.length+ys.length) (s.length+ys.length),K.set bb (.cells (cs.take (s.length*1)++bcells ys) 5),?_,?_,.set (by omega),by rw [List.getElem?_set_ne (by omega)]⟩
     · have q:(s.length+ys.length)*1≤140737488355328:=by simp at hlen;omega
       have q2:s.length+ys.length≤9223372036854775807:=by omega
       simp at q
       simp [aBuiltin,aAppend,hx,ht,h2,h3,h5,hfit,q,q2]
     · have hlt:=(List.getElem?_eq_some_iff.1 h2).1
       simp only [Nat.mul_one]
       refine .mk bb (s.length+ys.length) _ _ (s++ys) h1 (List.getElem?_set_self hlt) (by simp [bcells];omega) (by simp) (Nat.le_refl _) ?_ (fun _=>by simp [hne]) (by omega)
       rw [List.take_of_length_le (by simp [bcells];omega),h6]
       simp [bcells]
theorem c_writeByte {g:Bool} {K:AHeap} {pb:Nat} {s:List UInt8} {b:UInt8} (hb:Bld g K pb s) (hsl:s.length < 2 ^ 46) :
  ∃ v K',(v=.nilIface∧Bld false K' pb (s++[b])∧Keeps pb K K')∧ACalls prog 90 [selfP pb,byt b] K v K':=by
 refine acalls_ex MixT func90 (by decide) ?_
 rw [d90]
 obtain ⟨ad,bv,h1,h2,h3⟩:=hb
 refine bndC_of (c_copyCheck h1 h2 h3.one) ?_
 have hlt:pb < K.length:=(List.getElem?_eq_some_iff.1 h1).1
 generalize hK:K.set pb (.cells [selfP pb,bv] 65)=K1
 have g1:K1[pb]?=some (.cells [selfP pb,bv] 65):=by rw [← hK];exact get_set h1
 have g3:Buf g K1 pb bv s:=by rw [← hK];exact h3.setPb
 have hk1:Keeps pb K K1:=by rw [← hK];exact .set (Nat.le_refl _)
 have hlt1:pb < K1.length:=(List.getElem?_eq_some_iff.1 g1).1
 have hh:hcells K1 pb=some [selfP pb,bv]:=by simp [hcells,g1]
 have hl:hlen K1 pb=some 2:=by rw [hcells_len hh];rfl
 simp [nilV,aIsPtr,hh,hl]
 have hlit:=sliceLit1 (P:=prog) (H:=K1) (T:=45) (e:=5) (zv:=.int .u8 0) (n:=1) (l:=[byt b]) (by simp) (by simp) rfl (by simp)
 refine bndL_lit hlit ?_
 obtain ⟨v',K',q1,q2,q3,q4⟩:=(g3.app (X:=[.cells [byt b] 5])).add (t2:=45) (x:=.slice (some ⟨K1.length,0,some 1⟩) 1 1) (ys:=[b]) (by simp;omega) (by simp [aSrc,bcells]) (by simp [isSeq]) (by simp) (by simp;omega)
 simp only [q1,bndE_some]
 have g4:K'[pb]?=some (.cells [selfP pb,bv] 65):=by rw [q4];exact get_more g1
 have hl2:hlen K' pb=some 2:=by simp [hlen,g4]
 simp [nilV,aIsPtr,hl2,g4,q2.one,cells_one,stor_one]
 refine ⟨⟨selfP pb,v',by rw [List.getElem?_set_self (List.getElem?_eq_some_iff.1 g4).1],.inr rfl,q2.setPb⟩,?_⟩
 exact hk1.trans (Keeps.app.trans (q3.trans (.set (Nat.le_refl _))))
theorem u8l_bcells (s:List UInt8):u8l (bcells s)=some s:=u8l_map s
theorem c_bstring {K:AHeap} {pb:Nat} {s:List UInt8} (hb:Bld false K pb s) (hsl:s.length < 2 ^ 47) :
  ∃ v K',(v=str s∧Keeps pb K K')∧ACalls prog 29 [selfP pb] K v K':=by
 refine acalls_ex MixT func29 (by decide) ?_
 rw [d29]
 obtain ⟨ad,bv,h1,h2,h3⟩:=hb
 have hh:hcells K pb=some [ad,bv]:=by simp [hcells,h1]
 have hl:hlen K pb=some 2:=by rw [hcells_len hh];rfl
 simp [nilV,aIsPtr,hh,hl]
 cases h3 with
 | nil =>
   refine bndD_same (v:=.pointer none) (by simp [aBuiltin,aSliceData]) ?_
   simp [nilV,aIsPtr,hh,hl]
   refine bndD_of (v:=.string .empty) (H':=K) (by simp [aBuiltin,aUnsafeString]) (.inl rfl) ?_
   exact ⟨rfl,.refl _ _⟩
 | mk bb n c cs s q1 q2 q3 q4 q5 q6 q7 q8 =>
   have hl2:hlen K bb=some c:=by simp [hlen,q2,AObj.len,q3]
   refine bndD_same (v:=.pointer (some ⟨bb,0,some c⟩)) (by simp [aBuiltin,aSliceData,q8,hl2]) ?_
   simp [nilV,aIsPtr,hh,hl]
   have hne:=q7 rfl
   have hn:0 < n:=by rw [q4];exact List.length_pos_iff.2 hne
   have hce:prog.cellsOf 5=1:=by kernel_rfl
   have hu:u8l (cs.take n)=some s:=by rw [q6];exact u8l_bcells s
   refine bndD_of (v:=str s) (H':=K.set bb (.ro cs)) ?_ (.inl rfl) ?_
   · have e1:(n:Int)≤(c:Int):=by omega
     have e2:(n:Int)≤9223372036854775807:=by omega
     simp [aBuiltin,aUnsafeString,q2,q3,hce,hn,e1,e2,hu]
   · exact ⟨rfl,.set (by omega)⟩
theorem c_writeString {g:Bool} {K:AHeap} {pb:Nat} {s ys:List UInt8} (hb:Bld g K pb s) (hlm:s.length+ys.length≤2 ^ 46) :
  ∃ v K',(v=.tuple #[i64 ys.length,.nilIface]∧Bld (g && decide (ys=[])) K' pb (s++ys)∧Keeps pb K K')∧ACalls prog 28 [selfP pb,str ys] K v K':=by
 refine acalls_ex MixT func28 (by decide) ?_
 rw [d28]
 obtain ⟨ad,bv,h1,h2,h3⟩:=hb
 refine bndC_of (c_copyCheck h1 h2 h3.one) ?_
 have hlt:pb < K.length:=(List.getElem?_eq_some_iff.1 h1).1
 generalize hK:K.set pb (.cells [selfP pb,bv] 65)=K1
 have g1:K1[pb]?=some (.cells [selfP pb,bv] 65):=by rw [← hK];exact get_set h1
 have g3:Buf g K1 pb bv s:=by rw [← hK];exact h3.setPb
 have hk1:Keeps pb K K1:=by rw [← hK];exact .set (Nat.le_refl _)
 have hlt1:pb < K1.length:=(List.getElem?_eq_some_iff.1 g1).1
 have hh:hcells K1 pb=some [selfP pb,bv]:=by simp [hcells,g1]
 have hl:hlen K1 pb=some 2:=by rw [hcells_len hh];rfl
 simp [nilV,aIsPtr,hh,hl]
 by_cases hne:ys=[]
 · subst hne
   have happ:aBuiltin prog K1 .append #[45,9] [bv,str []]=some (bv,K1):=by
    cases g3 with
    | nil=>simp [aBuiltin,aAppend,aSrc,isSeq,bytesL]
    | mk bb n c cs s p1 p2 p3 p4 p5 p6 p7 p8 =>
      simp [aBuiltin,aAppend,aSrc,isSeq,bytesL,p2,p3,p5]
      rw [putCells_eq _ _ _ (by simp;omega)]
      simp
      exact set_same p2
   simp only [happ,bndE_some]
   simp [nilV,aIsPtr,hl,g1,g3.one,cells_one,stor_one]
   exact ⟨⟨selfP pb,bv,by rw [List.getElem?_set_self hlt1],.inr rfl,g3.setPb⟩,hk1.trans (.set (Nat.le_refl _))⟩
 · obtain ⟨v',K',q1,q2,q3,q4⟩:=g3.add (t2:=9) (x:=str ys) (ys:=ys) hlt1 (by simp [aSrc,bcells,bytesL]) (by simp [isSeq]) hne hlm
   simp only [q1,bndE_some]
   have g4:K'[pb]?=some (.cells [selfP pb,bv] 65):=by rw [q4];exact g1
   have hl2:hlen K' pb=some 2:=by simp [hlen,g4]
   simp [nilV,aIsPtr,hl2,g4,q2.one,cells_one,stor_one,hne]
   exact ⟨⟨selfP pb,v',by rw [List.getElem?_set_self (List.getElem?_eq_some_iff.1 g4).1],.inr rfl,q2.setPb⟩,hk1.trans (q3.trans (.set (Nat.le_refl _)))⟩
end Go.Vi
namespace Go.Vi
open Go Go.Proofs
def textF:List UInt8→List UInt8→Nat→List UInt8 × Nat
 | [],_,_=>([],0)
 | b :: r, acc, c => if isSign b = true then
     (if ((b.toNat:Int) == 34)=true then (acc,c+1)
      else if ((b.toNat:Int) == 92)=true then match r with
       | e :: r'=>if ((e.toNat:Int) == 34 || (e.toNat:Int) == 92)=true then textF r' (acc++[e]) (c+2) else ([],0)
       | []=>([],0)
      else textF r (acc++[b]) (c+1))
   else ([],0)
theorem textF_cons (b:UInt8) (r acc:List UInt8) (c:Nat):textF (b :: r) acc c=if isSign b=true then
   (if ((b.toNat:Int) == 34)=true then (acc,c+1)
    else if ((b.toNat:Int) == 92)=true then match r with
     | e :: r'=>if ((e.toNat:Int) == 34 || (e.toNat:Int) == 92)=true then textF r' (acc++[e]) (c+2) else ([],0)
     | []=>([],0)
    else textF r (acc++[b]) (c+1))
  else ([],0):=by rw [textF.eq_def]
theorem textF_len:∀ (f:Nat) (r acc:List UInt8) (c:Nat),r.length≤f→(textF r acc c).2≤c+r.length:=by
 intro f
 induction f with
 | zero=>intro r acc c h;have:r=[]:=List.eq_nil_of_length_eq_zero (by omega);subst this;simp [textF]
 | succ f ih =>
   intro r acc c h
   cases r with
   | nil=>simp [textF]
   | cons b r =>
     rw [textF_cons]
     simp at h
     split
     · split
       · simp<;>omega
       · split
         · cases r with
           | nil=>simp
           | cons e r =>
             simp only
             split
             · have:=ih r (acc++[e]) (c+2) (by simp at h;omega);simp;omega
             · simp
         · have:=ih r (acc++[b]) (c+1) (by omega);simp;omega
     · simp
def sigs1:List UInt8:=[60,62,61,33,94]
def sigs2:List UInt8:=[123,125,40,41,91,93,44,58,59,61,60,62,45]
def hasB (l:List UInt8) (b:UInt8):Bool:=decide (Lib.indexByte l b ≥ 0)
def signF:List UInt8→Nat
 | []=>0
 | b :: r=>if ((r[0]?).any (fun e=>(e.toNat:Int) == 61) && hasB sigs1 b)=true then 2 else if hasB sigs2 b=true then 1 else 0
end Go.Vi
namespace Go.Vi
open Go Go.Proofs
structure Tok where
 kind:Int
 text:List UInt8
 at':Int
def Tok.cells (t:Tok):List Value:=[.int .u8 t.kind,str t.text,i64 t.at']
def runF (p:UInt8→Bool) (s:List UInt8):Nat:=(s.takeWhile p).length
def numLen (s:List UInt8):Nat :=
 if ((s[runF isDig s]?).any (fun e=>(e.toNat:Int) == 46) && decide (runF isDig (s.drop (runF isDig s+1)) > 0))=true then runF isDig s+(1+runF isDig (s.drop (runF isDig s+1))) else runF isDig s
def oneF (s:List UInt8) (a:Nat):Tok × Nat:=match s with
 | []=>(⟨0,[],a⟩,0)
 | b :: r => if isLow b = true then (⟨1, s.take (runF isMark s), a⟩, runF isMark s)
   else if isDig b=true then (⟨2,s.take (numLen s),a⟩,numLen s)
   else if ((b.toNat:Int) == 34)=true then (⟨3,(textF r [] 1).1,a⟩,(textF r [] 1).2)
   else (⟨4,s.take (signF s),a⟩,signF s)
theorem runF_le (p:UInt8→Bool) (s:List UInt8):runF p s≤s.length:=by
 unfold runF;exact List.IsPrefix.length_le (List.takeWhile_prefix p)
theorem numLen_le (s:List UInt8):numLen s≤s.length:=by
 unfold numLen
 have h1:=runF_le isDig s
 have h2:=runF_le isDig (s.drop (runF isDig s+1))
 rw [List.length_drop] at h2
 split
 · rename_i h
   simp only [Bool.and_eq_true,Option.any_eq_true] at h
   obtain ⟨⟨e,he,_⟩,_⟩:=h
   have:=(List.getElem?_eq_some_iff.1 he).1
   omega
 · exact h1
theorem signF_le (s:List UInt8):signF s≤s.length:=by
 cases s with
 | nil=>simp [signF]
 | cons b r =>
   simp only [signF]
   split
   · rename_i h
     simp only [Bool.and_eq_true,Option.any_eq_true] at h
     obtain ⟨⟨e,he,_⟩,_⟩:=h
     have:=(List.getElem?_eq_some_iff.1 he).1
     simp;omega
   · split<;>simp
end Go.Vi
namespace Go.Vi
open Go Go.Proofs
def blanks:List UInt8:=[32,9,10,13]
def notNl (b:UInt8):Bool:=(b.toNat:Int) != 10
def skipF:Nat→List UInt8→Nat
 | 0,_=>0
 | _+1,[]=>0
 | f + 1, b :: r => if hasB blanks b = true then 1 + skipF f r
   else if ((b.toNat:Int) == 35)=true then runF notNl (b :: r)+skipF f ((b :: r).drop (runF notNl (b :: r)))
   else 0
def skipN (l:List UInt8) (a:Nat):Nat:=a+skipF (l.length-a) (l.drop a)
section
variable {P:Program}
variable {D:DrawK}
end
theorem foldl_put:∀ (c:List Value) (k:Nat) (cells:List Value),k+c.length≤cells.length →
  (c.zipIdx k).foldl (fun (cs:Array Value) (p:Value × Nat)=>cs.setIfInBounds p.2 p.1) cells.toArray=(cells.take k++c++cells.drop (k+c.length)).toArray:=by
 intro c
 induction c with
 | nil=>intro k cells _;simp
 | cons v r ih =>
   intro k cells h
   simp only [List.length_cons] at h
   simp only [List.zipIdx_cons,List.foldl_cons,List.setIfInBounds_toArray]
   have:=ih (k+1) (cells.set k v) (by simp;omega)
   rw [this]
   congr 1
   rw [List.take_set,List.set_eq_take_append_cons_drop,if_pos (by rw [List.length_take];omega),List.drop_set_of_lt (by omega)]
   simp [List.take_take,Nat.add_assoc,Nat.add_comm 1]
theorem sliceLitA {P:Program} {H:AHeap} {T e:TypeId} {zs:Array Value} {c:List Value} (hs:aBuildSlice P H T 1 [(0,.agg c.toArray)]=bslV e zs H 1 [(0,.agg c.toArray)]) (hz:c.length=zs.size) (ho:∀ v∈c,v.oneCell'=true) (hb:zs.size≤16777216) :
  sliceLit P H T 1 [(0,.agg c.toArray)] (.slice (some ⟨H.length,0,some c.length⟩) 1 1) (H++[.cells c e]):=by
 refine ⟨?_,?_⟩
 · simpa [storable] using ho
 · rw [hs]
   unfold bslV
   have hr:(repCells zs (1*zs.size)).size=zs.size:=by simp [repCells]
   have hf:Instr.fill (fun i=>some (i*zs.size,zs.size)) (repCells zs (1*zs.size)) [(0,.agg c.toArray)]=some c.toArray:=by
    generalize hR:repCells zs (1*zs.size)=R at hr
    obtain ⟨R⟩:=R
    simp only [List.size_toArray] at hr
    simp only [Instr.fill,cells_agg,List.size_toArray,hz,Nat.zero_mul]
    rw [if_neg (by simp;omega)]
    have:=foldl_put c 0 R (by omega)
    rw [List.take_zero,List.nil_append,Nat.zero_add,List.drop_eq_nil_of_le (by omega),List.append_nil] at this
    refine congrArg some (Eq.trans ?_ this)
    rw [← Array.foldl_toList]
    simp
   rw [hf,if_pos (by omega)]
   simp only [List.size_toArray]
   rw [if_pos ⟨by omega,by simpa using ho⟩]
inductive Gro (K:AHeap) (lo z:Nat) (T:TypeId):Value→List (List Value)→Prop
 | nil:Gro K lo z T (.slice none 0 0) []
 | mk (bb:Nat) (cl:List (List Value)) (h1:lo≤bb) (h2:K[bb]?=some (.cells cl.flatten T)) (h3:cl≠[]) (h4:∀ c∈cl,c.length=z):Gro K lo z T (.slice (some ⟨bb,0,some (cl.length*z)⟩) cl.length cl.length) cl
theorem Gro.one {K lo z T v cl} (h:Gro K lo z T v cl):v.oneCell'=true:=by cases h<;>rfl
theorem Gro.cells {K lo z T v cl} (h:Gro K lo z T v cl):v.cells = #[v]:=by cases h<;>rfl
theorem Gro.stor {K lo z T v cl} (h:Gro K lo z T v cl):storable v=true:=by cases h<;>rfl
theorem Gro.app {K lo z T v cl} {X:AHeap} (h:Gro K lo z T v cl):Gro (K++X) lo z T v cl:=by
 cases h with
 | nil=>exact .nil
 | mk bb cl h1 h2 h3 h4=>exact .mk bb cl h1 (get_more h2) h3 h4
theorem Gro.set {K lo z T v cl} {b:Nat} {o:AObj} (h:Gro K lo z T v cl) (hb:b < lo):Gro (K.set b o) lo z T v cl:=by
 cases h with
 | nil=>exact .nil
 | mk bb cl h1 h2 h3 h4=>exact .mk bb cl h1 (by rw [List.getElem?_set_ne (by omega)];exact h2) h3 h4
theorem flat_len {z:Nat}:∀ {cl:List (List Value)},(∀ c∈cl,c.length=z)→cl.flatten.length=cl.length*z:=by
 intro cl
 induction cl with
 | nil=>intro _;simp
 | cons c r ih =>
   intro h
   rw [List.flatten_cons,List.length_append,ih fun x hx=>h x (by simp [hx]),h c (by simp),List.length_cons,Nat.add_mul]
   omega
theorem flat_at {z:Nat}:∀ {cl:List (List Value)} {i:Nat} {e:List Value},(∀ c∈cl,c.length=z)→cl[i]?=some e→(cl.flatten.drop (i*z)).take z=e:=by
 intro cl
 induction cl with
 | nil=>intro i e _ h;simp at h
 | cons c r ih =>
   intro i e h hi
   have hc:=h c (by simp)
   cases i with
   | zero =>
     simp at hi
     subst hi
     rw [Nat.zero_mul,List.drop_zero,List.flatten_cons,List.take_append_of_le_length (by omega),List.take_of_length_le (by omega)]
   | succ i =>
     have:=ih (fun x hx=>h x (by simp [hx])) (by simpa using hi:r[i]?=some e)
     rw [List.flatten_cons,Nat.add_mul,Nat.one_mul,Nat.add_comm,← List.drop_drop,List.drop_append_of_le_length (by omega)]
     rw [show c.drop z=[] by simp;omega,List.nil_append]
     exact this
theorem Gro.arr {K lo z T v cl} (h:Gro K lo z T v cl):Arr K z v cl:=by
 cases h with
 | nil=>exact .nil
 | mk bb cl h1 h2 h3 h4 =>
   refine .mk bb 0 _ _ _ cl.flatten cl rfl (by simp [hcells,h2]) (flat_len h4) (by omega) fun i e hi=>?_
   rw [Nat.zero_add]
   exact flat_at h4 hi
theorem Gro.push {P:Program} {K:AHeap} {lo z by_:Nat} {T Ts:TypeId} {v x:Value} {cl:List (List Value)} {c:List Value} (h:Gro K lo z T v cl) (hT:aElem P Ts=some (T,z,by_)) (hsq:isSeq P Ts=true) (hc:c.length=z) (hlo:lo≤K.length)
  (hx:aSrc K z x=some (1,c)) (hb:(cl.length+1)*by_≤140737488355328) (hn:cl.length+1≤9223372036854775807) :
  ∃ v' K',aBuiltin P K .append #[Ts,Ts] [v,x]=some (v',K')∧Gro K' lo z T v' (cl++[c])∧(∀ b o,b < lo→K[b]?=some o→K'[b]?=some o)∧K.length≤K'.length∧(∀ H,Pre H K→H.length≤lo→Pre H K'):=by
 cases h with
 | nil =>
   refine ⟨.slice (some ⟨K.length,0,some z⟩) 1 1,K++[.cells c T],?_,?_,fun b o hb ho=>get_more ho,by simp,fun H p _=>p.more _⟩
   · have hb':by_≤140737488355328:=by simpa using hb
     simp [aBuiltin,aAppend,hT,hx,hsq,hb',hc]
   · have:=Gro.mk (K:=K++[.cells c T]) (lo:=lo) (z:=z) (T:=T) K.length [c] hlo (by simp) (by simp) (by simpa using hc)
     simpa using this
 | mk bb cl h1 h2 h3 h4 =>
   have hfl:=flat_len h4
   have hlt:=(List.getElem?_eq_some_iff.1 h2).1
   refine ⟨.slice (some ⟨bb,0,some ((cl.length+1)*z)⟩) (cl.length+1) (cl.length+1),K.set bb (.cells (cl++[c]).flatten T),?_,?_,fun b o hb ho=>by rw [List.getElem?_set_ne (by omega)];exact ho,by simp,fun H p hH=>p.set (by omega)⟩
   · have e1:cl.length*z=cl.flatten.length:=hfl.symm
     have e2:¬ cl.length+1≤cl.length:=by omega
     simp only [aBuiltin,aAppend,hT,hx,hsq,if_true,h2,hfl,Nat.zero_add,Nat.le_refl,and_self,e2,if_false,hb,hn]
     have e3:(cl.flatten.take (cl.length*z))=cl.flatten:=List.take_of_length_le (by omega)
     rw [e3]
     simp
   · have:=Gro.mk (K:=K.set bb (.cells (cl++[c]).flatten T)) (lo:=lo) (z:=z) (T:=T) bb (cl++[c]) h1 (List.getElem?_set_self hlt) (by simp) (by
      intro x hx
      rw [List.mem_append] at hx
      rcases hx with hx | hx
      · exact h4 x hx
      · simp at hx;rw [hx];exact hc)
     simpa using this
end Go.Vi
namespace Go.Vi
open Go Go.Proofs
def lexF (l:List UInt8):Nat→Nat→List Tok × Option Nat
 | 0,_=>([],none)
 | f + 1, a => if a < l.length then
     (if (oneF (l.drop a) a).2=0 then ([],some a)
      else ((oneF (l.drop a) a).1 :: (lexF l f (skipN l (a+(oneF (l.drop a) a).2))).1,(lexF l f (skipN l (a+(oneF (l.drop a) a).2))).2))
   else ([],none)
theorem oneF_le (s:List UInt8) (a:Nat):(oneF s a).2≤s.length:=by
 unfold oneF
 cases s with
 | nil=>simp
 | cons b r =>
   simp only
   split
   · exact runF_le _ _
   · split
     · exact numLen_le _
     · split
       · have:=textF_len r.length r [] 1 (Nat.le_refl _);simp;omega
       · exact signF_le (b :: r)
theorem skipN_ge (l:List UInt8) (a:Nat):a≤skipN l a:=by unfold skipN;omega
def allTok (l:List UInt8):List Tok × Nat × Int :=
 if 4096 < l.length then ([],0,3) else match (lexF l (l.length+1) (skipN l 0)).2 with
  | none=>((lexF l (l.length+1) (skipN l 0)).1,0,0)
  | some a=>([],a,90)
end Go.Vi
namespace Go.Vi
open Go Go.Proofs
@[simp] theorem nilV_ptr (b o m:Nat):nilV (.pointer (some ⟨b,o,some m⟩))=some (.pointer (some ⟨b,o,some m⟩)):=rfl
def isT (ts:List Tok) (a:Nat) (k:Int) (s:List UInt8):Bool:=(ts[a]?).any fun t=>t.kind == k && t.text == s
theorem isT_lt {ts a k s} (h:isT ts a k s=true):a < ts.length:=by
 unfold isT at h
 by_cases ha:a < ts.length
 · exact ha
 · rw [List.getElem?_eq_none (by omega)] at h;cases h
end Go.Vi
namespace Go.Vi
open Go Go.Proofs
theorem bnd_of {x:Option Value} {v:Value} {q:QV} (h:x=some v) (k:q.f v):@bnd x q:=by rw [h,bnd_some];exact k
def hasPre (l p:List UInt8):Bool:=decide (p.length≤l.length) && decide (l.take p.length=p)
def cutPre (l p:List UInt8):List UInt8:=if hasPre l p=true then l.drop p.length else l
def scanF:List UInt8→Nat→Int→Int × Bool
 | [],_,pt=>(pt,true)
 | b :: r,i,pt=>if isDig b=true then scanF r (i+1) pt else if ((b.toNat:Int) == 46 && decide (pt < 0))=true then scanF r (i+1) i else (pt,false)
def cutT (s:List UInt8) (pt:Int) (ok:Bool):List UInt8 × List UInt8 × Bool :=
 if pt < 0 then (s,[],ok) else (s.take pt.toNat,s.drop (pt.toNat+1),ok && !decide (s.take pt.toNat=[]) && !decide (s.drop (pt.toNat+1)=[]) && decide ((s.drop (pt.toNat+1)).length≤3))
def cutF (s:List UInt8):List UInt8 × List UInt8 × Bool:=cutT s (scanF s 0 (-1)).1 ((scanF s 0 (-1)).2 && !s.isEmpty)
def digF (x:Int):List UInt8→Int
 | []=>x
 | d :: r=>if x > (maxFix-((d.toNat:Int)-48)).tdiv 10 then maxFix else digF (10*x+((d.toNat:Int)-48)) r
def parF (s:List UInt8):Int × Int :=
 let c:=cutF (cutPre s [45])
 if c.2.2=true then
  let x:=digF 0 (c.1++c.2.1++List.replicate (3-c.2.1.length) 48)
  (if hasPre s [45]=true then -x else x,0)
 else (0,10)
theorem scanF_pt:∀ (r:List UInt8) (i:Nat) (pt:Int),0≤pt→(scanF r i pt).2=true→(scanF r i pt).1=pt∧∀ b∈r,isDig b=true:=by
 intro r
 induction r with
 | nil=>intro i pt _ _;simp [scanF]
 | cons b r ih =>
   intro i pt hp h
   have hp':¬ pt < 0:=by omega
   rw [scanF] at h ⊢
   by_cases hd:isDig b=true
   · rw [if_pos hd] at h ⊢
     obtain ⟨h1,h2⟩:=ih _ _ hp h
     refine ⟨h1,fun c hc=>?_⟩
     rcases List.mem_cons.1 hc with rfl | hc
     · exact hd
     · exact h2 c hc
   · rw [if_neg hd] at h
     simp [hp'] at h
theorem scanF_none:∀ (r:List UInt8) (i:Nat),(scanF r i (-1)).2=true→((scanF r i (-1)).1 = -1∧∀ b∈r,isDig b=true) ∨
  ∃ j:Nat,(scanF r i (-1)).1=((i+j:Nat):Int)∧j < r.length∧(∀ b∈r.take j,isDig b=true)∧∀ b∈r.drop (j+1),isDig b=true:=by
 intro r
 induction r with
 | nil=>intro i _;left;simp [scanF]
 | cons b r ih =>
   intro i h
   rw [scanF] at h ⊢
   by_cases hd:isDig b=true
   · rw [if_pos hd] at h ⊢
     rcases ih _ h with ⟨h1,h2⟩ | ⟨j,h1,h2,h3,h4⟩
     · left
       refine ⟨h1,fun c hc=>?_⟩
       rcases List.mem_cons.1 hc with rfl | hc
       · exact hd
       · exact h2 c hc
     · right
       refine ⟨j+1,by rw [h1];congr 1;omega,by simp;omega,fun c hc=>?_,by simpa using h4⟩
       rw [List.take_succ_cons] at hc
       rcases List.mem_cons.1 hc with rfl | hc
       · exact hd
       · exact h3 c hc
   · rw [if_neg hd] at h ⊢
     split at h
     · rename_i hq
       rw [if_pos hq]
       obtain ⟨h1,h2⟩:=scanF_pt r (i+1) i (by omega) h
       exact .inr ⟨0,by rw [h1];rfl,by simp,by simp,by simpa using h2⟩
     · cases h
theorem cutF_ok {s:List UInt8} (h:(cutF s).2.2=true):(∀ b∈(cutF s).1++(cutF s).2.1,isDig b=true)∧(cutF s).2.1.length≤3∧(cutF s).1.length+(cutF s).2.1.length≤s.length:=by
 unfold cutF cutT at *
 by_cases hp:(scanF s 0 (-1)).1 < 0
 · simp only [if_pos hp] at h ⊢
   simp only [Bool.and_eq_true] at h
   rcases scanF_none s 0 h.1 with ⟨h1,h2⟩ | ⟨j,h1,_⟩
   · simp;exact h2
   · rw [h1] at hp;omega
 · simp only [if_neg hp] at h ⊢
   simp only [Bool.and_eq_true,decide_eq_true_eq] at h
   rcases scanF_none s 0 h.1.1.1.1 with ⟨h1,h2⟩ | ⟨j,h1,h2,h3,h4⟩
   · rw [h1] at hp;omega
   · rw [h1] at h ⊢
     simp only [Nat.zero_add,Int.toNat_natCast] at h ⊢
     refine ⟨fun b hb=>?_,h.2,?_⟩
     · rcases List.mem_append.1 hb with hb | hb
       · exact h3 b hb
       · exact h4 b hb
     · simp;omega
theorem digF_range:∀ (l:List UInt8) (x:Int),(∀ b∈l,isDig b=true)→0≤x→x≤maxFix→0≤digF x l∧digF x l≤maxFix:=by
 intro l
 induction l with
 | nil=>intro x _ h1 h2;exact ⟨h1,h2⟩
 | cons d r ih =>
   intro x hd h1 h2
   have h:=hd d (by simp)
   simp only [isDig,Bool.and_eq_true,decide_eq_true_eq] at h
   rw [digF]
   split
   · simp [maxFix]
   · rename_i hx
     have:x≤(maxFix-((d.toNat:Int)-48)).tdiv 10:=by omega
     have h3:(maxFix-((d.toNat:Int)-48)).tdiv 10*10≤maxFix-((d.toNat:Int)-48):=by
      rw [Int.tdiv_eq_ediv_of_nonneg (by simp [maxFix];omega)];omega
     exact ih _ (fun b hb=>hd b (by simp [hb])) (by omega) (by omega)
end Go.Vi
namespace Go.Vi
open Go Go.Proofs
def natF (n:Int):List UInt8→Int
 | []=>n
 | d :: r=>natF (10*n+((d.toNat:Int)-48)) r
theorem arr_strs {H:AHeap} (l:List (List UInt8)) (T:TypeId) (n:Nat) (hn:n=l.length):Arr (H++[AObj.cells (l.map str) T]) 1 (.slice (some ⟨H.length,0,some n⟩) n n) (strCells l):=by
 subst hn
 refine .mk H.length 0 _ _ _ (l.map str) _ (by simp [strCells]) (by simp [hcells_eq,AObj.rcells]) (by simp) (by simp) fun i e hi=>?_
 simp [strCells] at hi
 obtain ⟨b,hb,rfl⟩:=hi
 rw [Nat.zero_add,Nat.mul_one,← List.map_drop,← List.map_take]
 have:(l.drop i).take 1=[b]:=by
  have hlt:=(List.getElem?_eq_some_iff.1 hb).1
  rw [List.drop_eq_getElem_cons hlt,(List.getElem?_eq_some_iff.1 hb).2];rfl
 rw [this];rfl
end Go.Vi
namespace Go.Vi
open Go Go.Proofs
theorem aIndexAddr_gl {P:Program} {H:AHeap} {T:TypeId} {g o b n:Nat} {x:Value} (h:gFind H g 0=some (b,n)):aIndexAddr P H T (.pointer (some ⟨g,o,none⟩)) x=aIndexAddr P H T (.pointer (some ⟨b,o,some n⟩)) x:=by
 unfold aIndexAddr deG;simp only [h]
def pow10s:List Value:=(List.range 20).map fun i=>.int .u64 (10 ^ i)
def atoF (l:List UInt8):Option Int:=if l≠[]∧l.all isDig=true∧natF 0 l≤9223372036854775807 then some (natF 0 l) else none
theorem natF_ge:∀ (l:List UInt8) (n:Int),0≤n→l.all isDig=true→0≤natF n l:=by
 intro l
 induction l with
 | nil=>intro n h _;exact h
 | cons d r ih =>
   intro n h hd
   simp only [List.all_cons,Bool.and_eq_true] at hd
   have hdd:=hd.1
   simp only [isDig,Bool.and_eq_true,decide_eq_true_eq] at hdd
   exact ih _ (by omega) hd.2
end Go.Vi
namespace Go.Vi
open Go Go.RowKit Go.ChangeShapes Go.WideShapes Go.Proofs
variable {P:Program}
theorem WRel.pushGl {w0 s H w} (h:WRel w0 s H w) (hn:NoOwn H) (cs:List Value) (g:Nat) (ho:One cs) (hg:g < w.heap.size)
  (hv:∀ (i:Nat) v,cs[i]?=some v→∃ v',w.cell? ⟨g,i,none⟩=some v'∧VRel s H v v') :
  WRel w0 (upd s H.length ⟨g,0,0⟩) (H++[.gl g cs]) w∧NoOwn (H++[.gl g cs]):=by
 have e:=Ext.push s H (.gl g cs) ⟨g,0,0⟩
 have hno:NoOwn (H++[.gl g cs]):=by
  intro b o hb
  rcases getElem_append_old hb with ⟨_,h1⟩ | ⟨_,rfl⟩
  · exact hn b o h1
  · rfl
 refine ⟨⟨⟨fun b x hx=>?_,fun b b' o o' hb hb' _ ho1 _=>?_⟩,h.b,h.o.push _ (by rintro _ ⟨rfl⟩;exact ho)⟩,hno⟩
 · rcases getElem_append_old hx with ⟨hb,hx'⟩ | ⟨rfl,rfl⟩
   · exact (h.h.obj b x hx').keep e (fun _=>upd_ne _ _ (by omega)) (fun _ _=>rfl)
   · refine ⟨by rw [upd_self],by rw [upd_self],hg,fun i v hi=>?_⟩
     obtain ⟨v',h1,h2⟩:=hv i v hi
     exact ⟨v',h1,h2.mono e⟩
 · rw [hno b o hb] at ho1;cases ho1
theorem var_cell {w:World} {n:String} {g:Nat} {cs:Array Value} (hg:P.globalNamed n=some g) (h:w.var? P n=some cs):∀ (i:Nat) v,cs[i]?=some v→g < w.heap.size∧w.cell? ⟨g,i,none⟩=some v:=by
 intro i v hi
 unfold World.var? at h
 rw [hg] at h
 simp only [Option.bind_some] at h
 split at h
 · rename_i q
   cases h
   refine ⟨(Array.getElem?_eq_some_iff.1 q).1,?_⟩
   unfold World.cell?
   simp [q,hi]
 · cases h
theorem laid_find {w:World} {n:String} {d:DataW Unit}:∀ {l:List (String × DataW Unit)} {ps},DataW.LaidVars P w l ps→(n,d)∈l→∃ g t cs fuel p,P.globalNamed n=some g∧(P.globals[g]?).map (·.type)=some t∧w.var? P n=some cs∧DataW.trod (fun _=>()) P w 0 (fun _=>true) false fuel t cs.toList=some (d,p):=by
 intro l
 induction l with
 | nil=>intro ps _ h;simp at h
 | cons x r ih =>
   intro ps h hm
   obtain ⟨m,e⟩:=x
   obtain ⟨g,t,cs,fuel,p,q,h1,h2,h3,h4,h5,_⟩:=h
   rcases List.mem_cons.1 hm with hx | hm
   · cases hx
     exact ⟨g,t,cs,fuel,p,h1,h2,h3,h4⟩
   · exact ih h5 hm
end Go.Vi
namespace Go.Vi
open Go Go.Proofs Go.Proofs.Tryz
theorem max_lt {n:Nat} (h:n≤maxLen):n < 2 ^ 63:=by unfold maxLen at h;omega
theorem map_ex {α β:Type} {g:α→β}:∀ {l:List β},(∀ x∈l,∃ m,x=g m)→∃ ms:List α,l=ms.map g:=by
 intro l
 induction l with
 | nil=>intro _;exact ⟨[],rfl⟩
 | cons x r ih =>
   intro h
   obtain ⟨m,rfl⟩:=h x (by simp)
   obtain ⟨ms,rfl⟩:=ih fun y hy=>h y (by simp [hy])
   exact ⟨m :: ms,rfl⟩
theorem len3 {α:Type} {l:List α} (h:l.length=3):∃ a b c,l=[a,b,c]:=match l,h with
 | [a,b,c],_=>⟨a,b,c,rfl⟩
theorem len8 {α:Type} {l:List α} (h:l.length=8):∃ a b c d e f g i,l=[a,b,c,d,e,f,g,i]:=match l,h with
 | [a,b,c,d,e,f,g,i],_=>⟨a,b,c,d,e,f,g,i,rfl⟩
theorem ce_str:prog.cellsOf 9=1:=by kernel_rfl
theorem ce_u8:prog.cellsOf 5=1:=by kernel_rfl
theorem ce_int:prog.cellsOf 3=1:=by kernel_rfl
theorem ce_i64:prog.cellsOf 2=1:=by kernel_rfl
theorem ce_mats:prog.cellsOf 52=1:=by kernel_rfl
theorem ce_mat:prog.cellsOf 56=3:=by kernel_rfl
theorem ce_node:prog.cellsOf 54=8:=by kernel_rfl
section
variable {H:AHeap} {f:Nat} {v:Value} {cs:List Value}
theorem rd_mat (h:Rd prog H (f+2) 56 cs):∃ m:Mat,cs=m.cells:=by
 obtain ⟨hl,hp⟩:=h.parts (ps:=[(9,0),(5,1),(9,2)]) (by kernel_rfl)
 rw [ce_mat] at hl
 obtain ⟨x,y,z,rfl⟩:=len3 hl
 simp only [List.forall_mem_cons,ce_str,ce_u8] at hp
 obtain ⟨h0,h1,h2,_⟩:=hp
 obtain ⟨l0,e0,_⟩:=h0.str underlying9
 obtain ⟨b,e1,_⟩:=h1.int underlying5
 obtain ⟨l2,e2,_⟩:=h2.str underlying9
 simp at e0 e1 e2
 exact ⟨⟨l0,b,l2⟩,by simp [Mat.cells,e0,e1,e2]⟩
theorem rd_mats (h:Rd prog H (f+3) 52 [v]):∃ ms,MatsAt H v ms∧ms.length < 2 ^ 63:=by
 obtain ⟨v',l,h1,h2,h3,h4⟩:=h.slice underlying52
 cases h1
 rw [ce_mat] at h2
 obtain ⟨ms,rfl⟩:=map_ex fun x hx=>rd_mat (h4 x hx)
 exact ⟨ms,h2,by simpa using max_lt h3⟩
theorem rd_list {α:Type} {R:List Value→α→Prop}:∀ {l:List (List Value)},(∀ x∈l,∃ a,R x a)→∃ q:List α,l.length=q.length∧∀ (i:Nat) a,q[i]?=some a→∃ c,l[i]?=some c∧R c a:=by
 intro l
 induction l with
 | nil=>intro _;exact ⟨[],rfl,fun i a h=>by simp at h⟩
 | cons x r ih =>
   intro h
   obtain ⟨a,ha⟩:=h x (by simp)
   obtain ⟨q,h1,h2⟩:=ih fun y hy=>h y (by simp [hy])
   refine ⟨a :: q,by simp [h1],fun i b hb=>?_⟩
   cases i with
   | zero=>simp at hb;subst hb;exact ⟨x,rfl,ha⟩
   | succ i=>exact h2 i b (by simpa using hb)
end
end Go.Vi
namespace Go.Vi
open Go Go.RowKit Go.ChangeShapes Go.WideShapes Go.Proofs Go.Proofs.Tryz
theorem word_le {n:Int} (h:(Lit.int .i64 n).wf=true):n < 2 ^ 63:=by
 have e2:IntKind.i64.max=9223372036854775807:=by decide
 simp only [Lit.wf,Bool.and_eq_true,decide_eq_true_eq,e2] at h
 omega
section
variable {H:AHeap} {f:Nat} {v:Value} {cs:List Value}
theorem rd_nodeW (h:Rd prog H (f+4) 54 cs):∃ (n:Nod) (sv:Value),cs=n.cells sv∧MatsAt H sv n.sel∧n.sel.length < 2 ^ 63∧n.window < 2 ^ 63:=by
 obtain ⟨hl,hp⟩:=h.parts (ps:=[(5,0),(5,1),(52,2),(3,3),(5,4),(2,5),(3,6),(3,7)]) (by kernel_rfl)
 rw [ce_node] at hl
 obtain ⟨x0,x1,x2,x3,x4,x5,x6,x7,rfl⟩:=len8 hl
 simp only [List.forall_mem_cons,ce_u8,ce_int,ce_i64,ce_mats] at hp
 obtain ⟨h0,h1,h2,h3,h4,h5,h6,h7,_⟩:=hp
 obtain ⟨b0,e0⟩:=h0.byte underlying5
 obtain ⟨b1,e1⟩:=h1.byte underlying5
 obtain ⟨ms,e2,e2'⟩:=rd_mats h2
 obtain ⟨b3,e3,w3⟩:=h3.int underlying3
 obtain ⟨b4,e4⟩:=h4.byte underlying5
 obtain ⟨b5,e5,_⟩:=h5.int underlying2
 obtain ⟨b6,e6,_⟩:=h6.int underlying3
 obtain ⟨b7,e7,_⟩:=h7.int underlying3
 simp at e0 e1 e3 e4 e5 e6 e7
 exact ⟨⟨b0,b1,ms,b3,b4,b5,b6,b7⟩,x2,by simp [Nod.cells,e0,e1,e3,e4,e5,e6,e7],e2,e2',word_le w3⟩
theorem rd_nodesW (h:Rd prog H (f+5) 32 [v]):∃ ns,NodesAt H v ns∧∀ n∈ns,n.window < 2 ^ 63:=by
 obtain ⟨v',l,h1,h2,h3,h4⟩:=h.slice underlying32
 cases h1
 rw [ce_node] at h2
 obtain ⟨ns,q1,q2⟩:=rd_list (R:=fun cs (n:Nod)=>∃ sv,cs=n.cells sv∧MatsAt H sv n.sel∧n.sel.length < 2 ^ 63∧n.window < 2 ^ 63) fun x hx=>rd_nodeW (h4 x hx)
 refine ⟨ns,⟨l,h2,q1,fun i n hi=>?_⟩,fun n hn=>?_⟩
 · obtain ⟨c,c1,sv,rfl,c2,c3,_⟩:=q2 i n hi
   exact ⟨sv,c1,c2,c3⟩
 · obtain ⟨i,hi⟩:=List.getElem?_of_mem hn
   obtain ⟨c,c1,sv,rfl,c2,c3,c4⟩:=q2 i n hi
   exact c4
end
end Go.Vi
namespace Go.Vi
open Go Go.Proofs Go.Proofs.Tryz
def len2 (n:Nat):Nat:=if n=0 then 0 else Nat.log2 n+1
theorem len2_half {n:Nat} (h:2≤n):len2 n=len2 (n / 2)+1:=by
 unfold len2
 rw [if_neg (by omega),if_neg (by omega),Nat.log2_def n,if_pos h]
theorem len2_shift:∀ (k n:Nat),2 ^ k≤n→len2 n=len2 (n / 2 ^ k)+k:=by
 intro k
 induction k with
 | zero=>intro n _;simp
 | succ k ih =>
   intro n h
   have h2:2≤n:=by
    have:=Nat.one_le_two_pow (n:=k)
    rw [Nat.pow_succ] at h;omega
   rw [len2_half h2,ih (n / 2) (by rw [Nat.pow_succ] at h;omega),Nat.div_div_eq_div_mul,Nat.pow_succ,Nat.mul_comm 2]
   omega
theorem len2_bd {n:Nat} (h:0 < n):2 ^ (len2 n-1)≤n∧n < 2 ^ len2 n∧1≤len2 n:=by
 unfold len2
 rw [if_neg (by omega)]
 exact ⟨by simpa using Nat.log2_self_le (by omega),Nat.lt_log2_self,by omega⟩
abbrev u64 (n:Int):Value:=.int .u64 n
theorem wrapU {x:Int} (h1:0≤x) (h2:x≤18446744073709551615):IntKind.u64.wrap x=x:=by
 unfold IntKind.wrap
 simp only [show IntKind.u64.bits=64 from rfl,show IntKind.u64.signed=false from rfl]
 simp
 omega
theorem shrN {P:Program} {H:AHeap} {T:TypeId} {x y:Operand} {n k:Nat} (hk:k≤64):aBin2 P H .shr T x y (u64 n) (u64 k)=some (u64 ((n / 2 ^ k:Nat):Int)):=by
 rw [aBin_shr _ _ _ _ _ _ _ (by omega)]
 congr 2
 rw [show min ((k:Int)).toNat IntKind.u64.bits=k by simp only [Int.toNat_natCast];exact Nat.min_eq_left hk]
 rw [Int.fdiv_eq_ediv_of_nonneg _ (Int.le_of_lt (Int.pow_pos (by omega)))]
 norm_cast
theorem len8_at:∀ b:Nat,b < 256→l8S.data[b]?=some (UInt8.ofNat (len2 b))∧len2 b≤8:=by decide +kernel
set_option maxRecDepth 20000 in
theorem c_len64 (H:AHeap) {n:Nat} (hn:n < 2 ^ 64):ACalls prog 82 [u64 n] H (i64 (len2 n)) H:=by
 refine acalls_pure MixT func82 (by decide) rfl ?_
 rw [d82]
 have tail:∀ (x c:Nat) (y z A B C D E F a b d f g h j m o p q r s v w:Value),x < 256→c≤56→len2 n=len2 x+c→S82x2 (fun u H2=>u=i64 (len2 n)∧∃ X,H2=H++X) [u64 x,y,i64 c,z,A,B,C,D,E,F,a,b,d,f,g,h,j,m,o,p,q,r,s,v,w] H:=by
  intro x c y z A B C D E F a b d f g h j m o p q r s v w hx hc hl
  rw [S82x2q]
  obtain ⟨q1,q2⟩:=len8_at x hx
  have w1:IntKind.u8.wrap (x:Int)=x:=wrap_u8 (by omega) (by omega)
  have hq:l8S.data.toList[x]?=some (UInt8.ofNat (len2 x)):=by simpa using q1
  have hi:=aIndex_at (P:=prog) (T:=9) (k:=.u8) (l:=l8S.data.toList) (i:=x) (by simp) hq
  have e:str l8S.data.toList=.string l8S:=rfl
  rw [e] at hi
  have w2:IntKind.i64.wrap ((len2 x:Int) % 256)=(len2 x:Int):=by
   rw [wrap_i64 (by omega) (by omega)];omega
  have w3:IntKind.i64.wrap ((c:Int)+len2 x)=len2 n:=by rw [hl,wrap_i64 (by omega) (by omega)];omega
  simp [convV_int,w1,hi,w2,w3]
 have mid:∀ (x c:Nat) (y z A B C D E F a b d f g h j m o p q r s v w:Value),x < 2 ^ 16→c≤48→len2 n=len2 x+c→S82x1 (fun u H2=>u=i64 (len2 n)∧∃ X,H2=H++X) [u64 x,y,i64 c,z,A,B,C,D,E,F,a,b,d,f,g,h,j,m,o,p,q,r,s,v,w] H:=by
  intro x c y z A B C D E F a b d f g h j m o p q r s v w hx hc hl
  rw [S82x1q]
  simp
  refine kifB_bool (fun hq=>?_) (fun hq=>?_)
  · have hq:2 ^ 8≤x:=by simp at hq;omega
    have w1:IntKind.i64.wrap ((c:Int)+8)=((c+8:Nat):Int):=by rw [wrap_i64 (by omega) (by omega)];omega
    have hs':∀ X Y,aBin2 prog H .shr 103 X Y (.int .u64 x) (.int .u64 8)=some (u64 ((x / 2 ^ 8:Nat):Int)):=fun X Y=>shrN (k:=8) (by omega)
    simp only [hs',bnd_some,aBin_add,w1]
    exact tail (x / 2 ^ 8) (c+8) _ _ _ _ _ _ _ _ _ _ _ _ _ _ _ _ _ _ _ _ _ _ _ (by omega) (by omega) (by rw [hl,len2_shift 8 x hq];omega)
  · dsimp only
    exact tail x c _ _ _ _ _ _ _ _ _ _ _ _ _ _ _ _ _ _ _ _ _ _ _ (by simp at hq;omega) (by omega) hl
 have top:∀ (x c:Nat) (y z A B C D E F a b d f g h j m o p q r s v w:Value),x < 2 ^ 32→c≤32→len2 n=len2 x+c→S82x0 (fun u H2=>u=i64 (len2 n)∧∃ X,H2=H++X) [u64 x,y,i64 c,z,A,B,C,D,E,F,a,b,d,f,g,h,j,m,o,p,q,r,s,v,w] H:=by
  intro x c y z A B C D E F a b d f g h j m o p q r s v w hx hc hl
  rw [S82x0q]
  simp
  refine kifB_bool (fun hq=>?_) (fun hq=>?_)
  · have hq:2 ^ 16≤x:=by simp at hq;omega
    have w1:IntKind.i64.wrap ((c:Int)+16)=((c+16:Nat):Int):=by rw [wrap_i64 (by omega) (by omega)];omega
    have hs':∀ X Y,aBin2 prog H .shr 103 X Y (.int .u64 x) (.int .u64 16)=some (u64 ((x / 2 ^ 16:Nat):Int)):=fun X Y=>shrN (k:=16) (by omega)
    simp only [hs',bnd_some,aBin_add,w1]
    exact mid (x / 2 ^ 16) (c+16) _ _ _ _ _ _ _ _ _ _ _ _ _ _ _ _ _ _ _ _ _ _ _ (by omega) (by omega) (by rw [hl,len2_shift 16 x hq];omega)
  · dsimp only
    exact mid x c _ _ _ _ _ _ _ _ _ _ _ _ _ _ _ _ _ _ _ _ _ _ _ (by simp at hq;omega) (by omega) hl
 simp
 refine kifB_bool (fun hq=>?_) (fun hq=>?_)
 · have hq:2 ^ 32≤n:=by simp at hq;omega
   have hs':∀ X Y,aBin2 prog H .shr 103 X Y (.int .u64 n) (.int .u64 32)=some (u64 ((n / 2 ^ 32:Nat):Int)):=fun X Y=>shrN (k:=32) (by omega)
   simp only [hs',bnd_some]
   have t:=fun a0 a1 a2 a3 a4 a5 a6 a7 a8 a9 b0 b1 b2 b3 b4 b5 b6 b7 b8 b9 c0 c1 c2=>top (n / 2 ^ 32) 32 a0 a1 a2 a3 a4 a5 a6 a7 a8 a9 b0 b1 b2 b3 b4 b5 b6 b7 b8 b9 c0 c1 c2 (by omega) (by omega) (len2_shift 32 n hq)
   rw [show ((32:Nat):Int)=32 from rfl] at t
   exact t _ _ _ _ _ _ _ _ _ _ _ _ _ _ _ _ _ _ _ _ _ _ _
 · dsimp only
   exact top n 0 _ _ _ _ _ _ _ _ _ _ _ _ _ _ _ _ _ _ _ _ _ _ _ (by simp at hq;omega) (by omega) (by omega)
theorem aIndexAddr_arr {P:Program} {H:AHeap} {T e:TypeId} {b o m z n:Nat} {k:IntKind} {i:Int} (hu:P.underlying T=some (.array n e)) (hs:tsize P e=some z) (hl:hlen H b=some m) (h0:0≤i) (h1:i < n) :
  aIndexAddr P H T (.pointer (some ⟨b,o,some m⟩)) (.int k i)=some (.pointer (some ⟨b,o+i.toNat*z,some m⟩)):=by
 show aIndexAddr0 P H T (.pointer (some ⟨b,o,some m⟩)) (.int k i)=_
 simp [aIndexAddr0,hl,h0,h1,hu,hs]
def nlog (L:Nat):Nat:=L*78913 / 2 ^ 18
theorem nlog_ok:∀ L:Nat,L < 65→1≤L→nlog L < 20∧2 ^ L≤10 ^ (nlog L+1)∧10 ^ (nlog L-1)≤2 ^ (L-1)∧(nlog L=0→L≤3):=by decide +kernel
def ndig (n:Nat):Nat:=nlog (len2 n)+if 10 ^ nlog (len2 n)≤n then 1 else 0
theorem ndig_ok {n:Nat} (h0:0 < n) (hn:n < 2 ^ 64):1≤ndig n∧ndig n≤20∧n < 10 ^ ndig n∧10 ^ (ndig n-1)≤n:=by
 obtain ⟨h1,h2,h3⟩:=len2_bd h0
 have hL:len2 n < 65:=by
  rcases Nat.lt_or_ge (len2 n) 65 with h | h
  · exact h
  · have:=Nat.pow_le_pow_right (by omega:0 < 2) (show 64≤len2 n-1 by omega)
    omega
 obtain ⟨q1,q2,q3,q4⟩:=nlog_ok _ hL h3
 unfold ndig
 by_cases hc:10 ^ nlog (len2 n)≤n
 · rw [if_pos hc]
   exact ⟨by omega,by omega,by omega,by simpa using hc⟩
 · rw [if_neg hc,Nat.add_zero]
   refine ⟨?_,by omega,by omega,by omega⟩
   rcases Nat.eq_zero_or_pos (nlog (len2 n)) with hz | hz
   · rw [hz] at hc;simp at hc;omega
   · exact hz
def Pw (H:AHeap):Prop:=∃ b,gFind H 1 0=some (b,20)∧hcells H b=some pow10s
theorem Pw.trans {H K:AHeap} (h:Pw H) (p:Pre H K):Pw K:=by
 obtain ⟨b,h1,h2⟩:=h
 obtain ⟨X,rfl⟩:=p
 exact ⟨b,gFind_app h1,hcells_more h2⟩
theorem Pw.more {H:AHeap} (h:Pw H) (X:AHeap):Pw (H++X):=h.trans (.app H X)
set_option maxRecDepth 20000 in
theorem c_numDigits {H:AHeap} (hg:Pw H) {n:Nat} (h0:0 < n) (hn:n < 2 ^ 64):ACalls prog 65 [u64 n] H (i64 (ndig n)) H:=by
 refine acalls_pure MixT func65 (by decide) rfl ?_
 rw [d65]
 refine bndC_of (c_len64 H hn) ?_
 obtain ⟨h1,h2,h3⟩:=len2_bd h0
 have hL:len2 n < 65:=by
  rcases Nat.lt_or_ge (len2 n) 65 with h | h
  · exact h
  · have:=Nat.pow_le_pow_right (by omega:0 < 2) (show 64≤len2 n-1 by omega)
    omega
 obtain ⟨q1,q2,q3,q4⟩:=nlog_ok _ hL h3
 have hlog:ACalls prog 81 [i64 (len2 n)] H (i64 (nlog (len2 n))) H:=by
  refine acalls_pure MixT func81 (by decide) rfl ?_
  rw [d81]
  have w1:IntKind.i64.wrap ((len2 n:Int)*78913)=((len2 n*78913:Nat):Int):=by rw [wrap_i64 (by omega) (by omega)];omega
  have hs:∀ X Y,aBin2 prog H .shr 3 X Y (.int .i64 ((len2 n*78913:Nat):Int)) (.int .u64 18)=some (i64 (nlog (len2 n))):=fun X Y=>by
   rw [aBin_shr _ _ _ _ _ _ _ (by omega)]
   congr 2
   rw [show min ((18:Int)).toNat IntKind.i64.bits=18 from rfl,Int.fdiv_eq_ediv_of_nonneg _ (Int.le_of_lt (Int.pow_pos (by omega)))]
   unfold nlog
   norm_cast
  simp only [Int.natCast_mul,show ((78913:Nat):Int)=78913 from rfl] at w1 hs
  simp [w1,hs]
 refine bndC_of hlog ?_
 obtain ⟨pb,g1,g2⟩:=hg
 have hll:hlen H pb=some 20:=by rw [hcells_len g2];rfl
 have hia:=aIndexAddr_arr (P:=prog) (T:=127) (e:=103) (z:=1) (n:=20) (k:=.i64) (o:=0) (i:=(nlog (len2 n):Int)) (by simp) (by simp) hll (by omega) (by omega)
 have hp:pow10s[nlog (len2 n)]?=some (u64 ((10 ^ nlog (len2 n):Nat):Int)):=by
  have:∀ i:Nat,i < 20→pow10s[i]?=some (u64 ((10 ^ i:Nat):Int)):=by
   intro i hi
   simp [pow10s,hi]
  exact this _ q1
 have hb:∀ c:Bool,ACalls prog 83 [.bool c] H (i64 (if c=true then 1 else 0)) H:=by
  intro c
  refine acalls_pure MixT func83 (by decide) rfl ?_
  rw [d83]
  cases c<;>simp
 simp only [aIndexAddr_gl g1,hia,bnd_some]
 have h20:pow10s.length=20:=rfl
 simp only [Int.natCast_pow,show ((10:Nat):Int)=10 from rfl] at hp
 simp [g2,hp,h20]
 refine bndC_of (hb _) ?_
 have hd:decide ((10:Int) ^ nlog (len2 n)≤n)=decide (10 ^ nlog (len2 n)≤n):=by
  rw [decide_eq_decide];norm_cast
 have hnd:IntKind.i64.wrap ((nlog (len2 n):Int)+(if 10 ^ nlog (len2 n)≤n then 1 else 0))=(ndig n:Int):=by
  rw [wrap_i64 (by split<;>omega) (by split<;>omega)]
  unfold ndig
  split<;>simp
 simp [hd,hnd]
end Go.Vi
namespace Go.Vi
open Go Go.RowKit Go.ChangeShapes Go.WideShapes Go.Proofs Go.Proofs.Tryz
def Gp:AHeap:=[.gl 1 pow10s]
theorem pw_gp {H:AHeap} (h:Pre Gp H):Pw H:=by
 obtain ⟨X,rfl⟩:=h
 exact ⟨0,gFind_app (by rfl),hcells_more (by rfl)⟩
theorem start_pw {w:World} {l:List (String × DataW Unit)} (h:laidMetH prog l w)
  (h3 : ("internal/strconv.uint64pow10", DataW.agg ((List.range 20).map fun i => .lit (.int .u64 (10 ^ i)))) ∈ l.filter fun x => x.2.handleName?.isNone) : ∃ s, Got prog w (fun _ => ⟨0, 0, 0⟩) [] s Gp := by
 obtain ⟨ps,hl,_,_⟩:laidMet prog (l.filter fun x=>x.2.handleName?.isNone) w:=(laidMetH_iff.1 h).1
 obtain ⟨g3,t3,c3,f3,p3,a3,b3,v3,r3⟩:=laid_find hl h3
 obtain rfl : 1 = g3 := Option.some.inj ((show prog.globalNamed "internal/strconv.uint64pow10" = some 1 by kernel_rfl).symm.trans a3)
 obtain rfl:127=t3:=Option.some.inj ((show (prog.globals[1]?).map (·.type)=some 127 by kernel_rfl).symm.trans b3)
 obtain ⟨xs,m,_,q1,q2,q3,q4⟩:=DataW.trod_array underlying127 r3
 have k3:∀ i:Nat,i < 20→c3[i]?=some (.int .u64 (10 ^ i)):=by
  intro i hi
  have h4:=q4 i hi
  rw [show prog.cellsOf 103=1 by kernel_rfl,Nat.mul_one] at h4
  rw [List.getElem?_eq_getElem (by omega)] at h4
  obtain ⟨n,z1,z2,_⟩:=DataW.trod_int underlying103 h4
  have hq:(List.range 20).map (fun i=>(DataW.lit (.int .u64 (10 ^ i)):DataW Unit))=xs.map (·.1):=by
   have:=congrArg Prod.fst q1
   simpa using this
  have hqi:=congrArg (fun l=>l[i]?) hq
  simp only [List.getElem?_map,List.getElem?_eq_getElem (show i < xs.length by omega),List.getElem?_range hi,Option.map_some,z2] at hqi
  injection hqi with e
  injection e with e
  injection e with _ e
  rw [← e] at z1
  have:(List.take 1 (List.drop i c3.toList))[0]?=some (Value.int .u64 (10 ^ i)):=by rw [z1];rfl
  rw [List.getElem?_take_of_lt (by omega),List.getElem?_drop,Nat.add_zero] at this
  rw [← Array.getElem?_toList]
  exact this
 have W0:WRel w (fun _=>⟨0,0,0⟩) [] w:=WRel.refl w _
 have hc3:=fun (i:Nat) (hi:i < 20)=>var_cell a3 v3 i _ (k3 i hi)
 obtain ⟨W3,N3⟩:=W0.pushGl NoOwn.nil pow10s 1 (fun v hv=>by
  simp only [pow10s,List.mem_map] at hv
  obtain ⟨i,_,rfl⟩:=hv
  rfl) (hc3 0 (by omega)).1 (fun i v hi=>by
  simp only [pow10s,List.getElem?_map,Option.map_eq_some_iff] at hi
  obtain ⟨j,hj,rfl⟩:=hi
  have hij:=List.getElem?_eq_some_iff.1 hj
  obtain ⟨hlt,rfl⟩:=hij
  simp only [List.length_range] at hlt
  simp only [List.getElem_range]
  exact ⟨_,(hc3 i hlt).2,.lit _ rfl⟩)
 exact ⟨_,W3,N3,Ext.push _ _ _ _,⟨Gp,rfl⟩⟩
end Go.Vi
namespace Go.Vi
open Go Go.Proofs Go.Proofs.Tryz
theorem ce_strs:prog.cellsOf 33=1:=by kernel_rfl
theorem ce_nodes:prog.cellsOf 32=1:=by kernel_rfl
theorem ce_rule:prog.cellsOf 35=8:=by kernel_rfl
abbrev parts_rule:List (TypeId × Nat):=[(9,0),(9,1),(32,2),(3,3),(3,4),(3,5),(33,6),(9,7)]
section
variable {H:AHeap} {f:Nat} {v:Value} {cs:List Value}
theorem rd_strs (h:Rd prog H (f+2) 33 [v]):∃ l,Arr H 1 v (strCells l)∧l.length < 2 ^ 63:=by
 obtain ⟨v',l,h1,h2,h3,h4⟩:=h.slice underlying33
 cases h1
 rw [ce_str] at h2
 obtain ⟨ms,rfl⟩:=map_ex (g:=fun s:List UInt8=>[Vi.str s]) fun x hx=>by
  obtain ⟨s,e,_⟩:=(h4 x hx).str underlying9
  exact ⟨s,e⟩
 exact ⟨ms,h2,by simpa using max_lt h3⟩
end
end Go.Vi
namespace Go.Vi
open Go Go.Proofs
def Rul.win (r:Rul):Prop:=∀ n∈r.nodes,n.window < 2 ^ 63
section
variable {H:AHeap} {f:Nat} {v:Value} {cs:List Value}
end
end Go.Vi
namespace Go.Vi
open Go Go.Proofs
theorem Gro.weak {K lo lo' z T v cl} (h:Gro K lo z T v cl) (hl:lo'≤lo):Gro K lo' z T v cl:=by
 cases h with
 | nil=>exact .nil
 | mk bb cl h1 h2 h3 h4=>exact .mk bb cl (by omega) h2 h3 h4
def takO (ts:List Tok) (k:Int) (s:List UInt8) (a:Nat):Nat:=if isT ts a k s=true then a+1 else a
def signO (ts:List Tok) (s:List UInt8) (a:Nat):Option Nat:=if isT ts a 4 s=true then some (a+1) else none
def tokK (ts:List Tok) (k:Int) (a:Nat):Option (List UInt8):=(ts[a]?).bind fun t=>if t.kind=k then some t.text else none
def idxS (l:List (List UInt8)) (s:List UInt8):Nat:=if s∈l then l.idxOf s else 0
def oneO (ts:List Tok) (k:Int) (l:List (List UInt8)) (a:Nat):Option Nat:=(tokK ts k a).bind fun s=>if s∈l then some (a+1) else none
end Go.Vi
namespace Go.Vi
open Go Go.Proofs
def NumTok (ts:List Tok):Prop:=∀ (a:Nat) t,ts[a]?=some t→t.text.length < 2 ^ 20∧(t.kind=2→(∀ b∈t.text,isDig b=true∨b=46)∧∀ b r,t.text=b :: r→isDig b=true)
def winO (ts:List Tok) (a:Nat):Option (Int × Nat):=(tokK ts 2 a).bind fun s=>(atoF s).bind fun n=>if 1≤n∧n≤1000 then some (n,a+1) else none
def valP (ts:List Tok) (a:Nat):List UInt8:=if isT ts a 4 [45]=true then [45] else []
def valO (ts:List Tok) (a:Nat):Option (Int × Nat):=(tokK ts 2 (takO ts 4 [45] a)).bind fun s=>if (parF (valP ts a++s)).2=0 then some ((parF (valP ts a++s)).1,takO ts 4 [45] a+1) else none
end Go.Vi
namespace Go.Vi
open Go Go.Proofs Go.Proofs.Tryz
def opsL:List (List UInt8):=[[61],[33,61],[94,61]]
theorem mael1:aElem prog 52=some (56,3,40):=by kernel_rfl
theorem mael2:isSeq prog 52=true:=by kernel_rfl
def matO (ts:List Tok) (a:Nat):Option (Mat × Nat):=(tokK ts 1 a).bind fun n=>(tokK ts 4 (a+1)).bind fun o=>if o∈opsL then (tokK ts 3 (a+2)).bind fun v=>some (⟨n,idxS opsL o,v⟩,a+3) else none
def selL (ts:List Tok):Nat→Nat→List Mat→Option (List Mat × Nat)
 | 0,_,_=>none
 | f+1,a,acc=>(matO ts a).bind fun p=>if isT ts p.2 4 [44]=true then selL ts f (p.2+1) (acc++[p.1]) else some (acc++[p.1],p.2)
def selE (ts:List Tok) (ms:List Mat) (a:Nat):Option Nat:=(signO ts [125] a).bind fun c=>if mayMats ms=true then some c else none
def selO (ts:List Tok) (a:Nat):Option (List Mat × Nat):=(signO ts [123] a).bind fun a1 =>
 if isT ts a1 4 [125]=true then some ([],a1+1) else (selL ts (ts.length+1) a1 []).bind fun p=>(selE ts p.1 p.2).map fun c=>(p.1,c)
end Go.Vi
namespace Go.Vi
open Go Go.Proofs
def txtK (ts:List Tok) (k:Int) (a:Nat):List UInt8:=(tokK ts k a).getD []
def cmpO (ts:List Tok) (a:Nat):Option (Nod × Nat):=(oneO ts 1 aggs a).bind fun b1=>(signO ts [40] b1).bind fun b2=>(selO ts b2).bind fun p=>(signO ts [91] p.2).bind fun b3=>(winO ts b3).bind fun w =>
 (signO ts [93] w.2).bind fun b4=>(signO ts [41] b4).bind fun b5=>(oneO ts 4 cmps b5).bind fun b6=>(valO ts b6).bind fun v =>
  some (⟨0,UInt8.ofNat (idxS aggs (txtK ts 1 a)),p.1,w.1,UInt8.ofNat (idxS cmps (txtK ts 4 b5)),v.1,0,0⟩,v.2)
theorem u8_of {n:Nat} (h:n < 256):((UInt8.ofNat n).toNat:Int)=n:=by simp only [UInt8.toNat_ofNat'];omega
end Go.Vi
