/- What the functions' bodies come to. What the functions' bodies come to. What the functions' bodies come to. What the functions' bodies come to. What the functions' bodies come to. What the functions' bodies come to. Labels: names, values. Conditions: nodes. (The check's contracts are not asked of this seat.) Arguments: matchers, nodes, days, mutes, rules, configurations. Tokens. strings.Builder. One token. One token. All tokens. -/
import Derived.Test.YtpkdgmcfojjfjaaGreatDoorJFingerText2
import Derived.Test.YtpkdgmcfojjfjaaGreatDoorChecked
namespace Go.Vi
open Go Go.Proofs Go.Proofs.Tryz
-- strings.Join
def S46x0 (k:Value→AHeap→Prop) (sl:List Value) (H:AHeap):Prop:=kseq prog (cr (cl (cr (cl (cr (cr (cr (cb Tryz.f46)))))))) (kseq prog (cr (cr (cr (cr (cb Tryz.f46))))) (kfin prog Tryz.f46 k)) .normal
 sl H
def S46x1 (k:Value→AHeap→Prop) (sl:List Value) (H:AHeap):Prop:=kseq prog (cr (cr (cr (cr (cb Tryz.f46))))) (kfin prog Tryz.f46 k) .normal sl H
def L46x0 (n:Nat) (k:Value→AHeap→Prop) (sl:List Value) (H:AHeap):Prop:=kit prog (cl (cl (cr (cl (cr (cr (cr (cr (cb Tryz.f46))))))))) n (kblk 1 (kseq prog (cr (cr (cr (cr (cr (cb Tryz.f46)))))) (kfin
 prog Tryz.f46 k))) .normal sl H
def S46x2 (n0:Nat) (k:Value→AHeap→Prop) (sl:List Value) (H:AHeap):Prop:=kseq prog (cr (cr (cl (cl (cr (cr (cl (cl (cr (cl (cr (cr (cr (cr (cb Tryz.f46))))))))))))))) (kblk 2 (kseq prog (cr (cr (cr (cl
 (cl (cr (cl (cr (cr (cr (cr (cb Tryz.f46)))))))))))) (kit prog (cl (cl (cr (cl (cr (cr (cr (cr (cb Tryz.f46))))))))) n0 (kblk 1 (kseq prog (cr (cr (cr (cr (cr (cb Tryz.f46)))))) (kfin prog Tryz.f46 k))))))
 .normal sl H
def L46x1 (n:Nat) (k:Value→AHeap→Prop) (sl:List Value) (H:AHeap):Prop:=kit prog (cl (cl (cr (cl (cr (cr (cr (cr (cr (cr (cr (cr (cb Tryz.f46))))))))))))) n (kblk 3 (kseq prog (cr (cr (cr (cr (cr (cr (cr
 (cr (cr (cb Tryz.f46)))))))))) (kfin prog Tryz.f46 k))) .normal sl H
theorem d46 (a0 a1:Value) (H:AHeap) (k:Value→AHeap→Prop):kbody prog Tryz.f46 [a0,a1] H k=(@bnd (aLen prog H 42 a0) ⟨fun c=>@bnd (aBin2 prog H .eql 3 (.tmp 12) (.const (.int .i64 0)) c (.int
 .i64 0)) ⟨fun a=>@kifB a ⟨k (.string { data:=#[] }) H⟩ ⟨@bnd (aBin2 prog H .eql 3 (.tmp 12) (.const (.int .i64 1)) c (.int .i64 1)) ⟨fun b=>@kifB b ⟨@bnd (aIndexAddr prog H 42 a0 (.int .i64
 0)) ⟨fun l=>@bnd (aLoad prog H 9 l) ⟨fun m=>k m H⟩⟩⟩ ⟨@bnd (aLen prog H 9 a1) ⟨fun d=>@bnd (aBin2 prog H .gtr 3 (.tmp 21) (.const (.int .i64 0)) d (.int .i64 0)) ⟨fun e=>@kifB
 e ⟨@bnd (aLen prog H 9 a1) ⟨fun i=>@bnd (aLen prog H 42 a0) ⟨fun j=>@bnd (aBin2 prog H .sub 3 (.tmp 26) (.const (.int .i64 1)) j (.int .i64 1)) ⟨fun f=>@bnd (aBin2 prog H .quo 3
 (.const (.int .i64 9223372036854775807)) (.tmp 27) (.int .i64 9223372036854775807) f) ⟨fun g=>@bnd (aBin2 prog H .geq 3 (.tmp 24) (.tmp 28) i g) ⟨fun h=>@kifB h ⟨@bndE (none) ⟨fun _ H14 =>
 S46x0  k [a0,a1,undef,undef,(.string { data:=#[] }),(.int .i64 0),undef,undef,undef,undef,undef,a0,c,a,a,b,b,undef,undef,undef,a1,d,e,a1,i,a0,j,f,g,
 h,(.iface 9 (.string { data:=#[115,116,114,105,110,103,115,58,32,74,111,105,110,32,111,117,116,112,117,116,32,108,101,110,103,116,104,32,111,118,101,114,102,108,111,119] })),undef,
 undef,undef,undef,undef,undef,undef,undef,undef,undef,undef,undef,undef,undef,undef,undef,undef,undef,undef,undef,undef,undef,undef,undef,undef,undef,undef,undef,undef,undef,undef,undef,undef,
 undef,undef,undef,undef,undef,undef,undef,undef,undef,undef,undef] H14⟩⟩ ⟨S46x0  k [a0,a1,undef,undef,(.string { data:=#[] }),(.int .i64 0),undef,undef,undef,undef,undef,a0,c,a,a,b,
 b,undef,undef,undef,a1,d,e,a1,i,a0,j,f,g,h,undef,undef,undef,undef,undef,undef,undef,undef,undef,undef,undef,undef,undef,undef,undef,undef,undef,undef,undef,
 undef,undef,undef,undef,undef,undef,undef,undef,undef,undef,undef,undef,undef,undef,undef,undef,undef,undef,undef,undef,undef,undef,undef,undef,undef,undef] H⟩⟩⟩⟩⟩⟩⟩ ⟨S46x1  k [a0,a1,undef,undef,
 (.string { data:=#[] }),(.int .i64 0),undef,undef,undef,undef,undef,a0,c,a,a,b,b,undef,undef,undef,a1,d,e,undef,undef,undef,undef,undef,undef,undef,undef,undef,undef,
 undef,undef,undef,undef,undef,undef,undef,undef,undef,undef,undef,undef,undef,undef,undef,undef,undef,undef,undef,undef,undef,undef,undef,undef,undef,undef,undef,undef,undef,undef,undef,undef,
 undef,undef,undef,undef,undef,undef,undef,undef,undef,undef] H⟩⟩⟩⟩⟩⟩⟩⟩):=by kernel_rfl
theorem S46x0q (f g s2 s3 s4 s5 s6 s7 s8 s9 h i j l m n o p q r s t u v w x y z A B C ao ap aq ar au av aw ax D E F G I J K L M N O P Q R S T U
 V W X Y Z aa ab ac ad ae af ag ah ai aj ak al am an:Value) (H:AHeap) (k:Value→AHeap→Prop):S46x0 k [f,g,s2,s3,s4,s5,s6,s7,s8,s9,h,i,j,l,m,n,o,p,q,r,
 s,t,u,v,w,x,y,z,A,B,C,ao,ap,aq,ar,au,av,aw,ax,D,E,F,G,I,J,K,L,M,N,O,P,Q,R,S,T,U,V,W,X,Y,Z,aa,ab,ac,ad,
 ae,af,ag,ah,ai,aj,ak,al,am,an] H=(@bnd (aLen prog H 9 g) ⟨fun a=>@bnd (aLen prog H 42 f) ⟨fun b=>@bnd (aBin2 prog H .sub 3 (.tmp 35) (.const (.int .i64 1)) b (.int .i64
 1)) ⟨fun c=>@bnd (aBin2 prog H .mul 3 (.tmp 33) (.tmp 36) a c) ⟨fun d=>@bnd (aBin2 prog H .add 3 (.tmp 31) (.tmp 37) s5 d) ⟨fun e=>S46x1  k [f,g,s2,s3,s4,e,s6,s7,s8,
 s9,h,i,j,l,m,n,o,p,q,r,s,t,u,v,w,x,y,z,A,B,C,s5,g,a,f,b,c,d,e,D,E,F,G,I,J,K,L,M,N,O,P,Q,
 R,S,T,U,V,W,X,Y,Z,aa,ab,ac,ad,ae,af,ag,ah,ai,aj,ak,al,am,an] H⟩⟩⟩⟩⟩):=by kernel_rfl
theorem S46x1q (b s1 s2 s3 s4 s5 s6 s7 s8 s9 c d e f g h i j l m o p q r s t u v w x y z A B C D E F G ap aq ar I J K L M N O P Q R S T U V
 W X Y Z aa ab ac ad ae af ag ah ai aj ak al am an ao:Value) (H:AHeap) (k:Value→AHeap→Prop):S46x1 k [b,s1,s2,s3,s4,s5,s6,s7,s8,s9,c,d,e,f,g,h,i,j,l,m,
 o,p,q,r,s,t,u,v,w,x,y,z,A,B,C,D,E,F,G,ap,aq,ar,I,J,K,L,M,N,O,P,Q,R,S,T,U,V,W,X,Y,Z,aa,ab,ac,ad,ae,
 af,ag,ah,ai,aj,ak,al,am,an,ao] H=(@bnd (aLen prog H 42 b) ⟨fun a=>∃ n,L46x0 n  k [b,s1,s2,s3,s4,s5,s6,s7,s8,s9,c,d,e,f,g,h,i,j,l,m,o,p,q,r,
 s,t,u,v,w,x,y,z,A,B,C,D,E,F,G,b,a,(.int .i64 0),I,J,K,L,M,N,O,P,Q,R,S,T,U,V,W,X,Y,Z,aa,ab,ac,ad,ae,af,ag,
 ah,ai,aj,ak,al,am,an,ao] H⟩):=by kernel_rfl
theorem L46x0q (n0:Nat) (j s1 s2 s3 s4 h s6 s7 s8 s9 r s t u v w x y z A B C D E F G I J K L M N O P Q R S T U l m g aG az aA aB aC aD aE aF aj V W
 X Y Z ak al am an ao ap aq ar au av aa ab ac ad ae af ag ah ai:Value) (H:AHeap) (k:Value→AHeap→Prop):L46x0 (n0+1) k [j,s1,s2,s3,s4,h,s6,s7,s8,s9,r,s,t,u,v,w,
 x,y,z,A,B,C,D,E,F,G,I,J,K,L,M,N,O,P,Q,R,S,T,U,l,m,g,aG,az,aA,aB,aC,aD,aE,aF,aj,V,W,X,Y,Z,ak,al,am,an,ao,
 ap,aq,ar,au,av,aa,ab,ac,ad,ae,af,ag,ah,ai] H=(@bnd (aBin2 prog H .lss 3 (.tmp 41) (.tmp 40) g m) ⟨fun b=>@kifB b ⟨@bnd (aIndexAddr prog H 42 l g) ⟨fun c=>@bnd
 (aLoad prog H 9 c) ⟨fun a=>@bnd (aLen prog H 9 a) ⟨fun d=>@bnd (aBin2 prog H .sub 3 (.const (.int .i64 9223372036854775807)) (.tmp 47) (.int .i64 9223372036854775807) h) ⟨fun e =>
 @bnd (aBin2 prog H .gtr 3 (.tmp 46) (.tmp 48) d e) ⟨fun f=>@kifB f ⟨@bndE (none) ⟨fun _ H28=>S46x2 n0 k [j,s1,s2,s3,s4,h,s6,a,s8,s9,r,s,t,u,v,w,x,y,z,A,
 B,C,D,E,F,G,I,J,K,L,M,N,O,P,Q,R,S,T,U,l,m,g,b,c,a,a,d,h,e,f,(.iface 9 (.string { data:=#[115,116,114,105,110,
 103,115,58,32,74,111,105,110,32,111,117,116,112,117,116,32,108,101,110,103,116,104,32,111,118,101,114,102,108,111,119] })),V,W,X,Y,Z,ak,al,am,an,ao,ap,aq,ar,au,
 av,aa,ab,ac,ad,ae,af,ag,ah,ai] H28⟩⟩ ⟨S46x2 n0 k [j,s1,s2,s3,s4,h,s6,a,s8,s9,r,s,t,u,v,w,x,y,z,A,B,C,D,E,F,G,I,J,K,L,M,N,O,
 P,Q,R,S,T,U,l,m,g,b,c,a,a,d,h,e,f,aj,V,W,X,Y,Z,ak,al,am,an,ao,ap,aq,ar,au,av,aa,ab,ac,ad,ae,af,ag,ah,
 ai] H⟩⟩⟩⟩⟩⟩⟩ ⟨@bndE (aAlloc prog H 116) ⟨fun i H30=>@bndC prog 78 [i,h] H30 ⟨fun aw H32=>@bnd (aIndexAddr prog H32 42 j (.int .i64 0)) ⟨fun o=>@bnd (aLoad prog H32 9 o) ⟨fun
 p=>@bndC prog 79 [i,p] H32 ⟨fun ax H36=>@bnd (aSliceOp prog H36 42 j (some (.int .i64 1)) none) ⟨fun q=>@bnd (aLen prog H36 42 q) ⟨fun ay=>∃ n,L46x1 n  k [j,s1,s2,
 s3,s4,h,s6,s7,i,s9,r,s,t,u,v,w,x,y,z,A,B,C,D,E,F,G,I,J,K,L,M,N,O,P,Q,R,S,T,U,l,m,g,b,az,aA,aB,aC,aD,
 aE,aF,aj,V,W,X,Y,Z,h,aw,j,o,p,ax,j,q,ay,(.int .i64 0),aa,ab,ac,ad,ae,af,ag,ah,ai] H36⟩⟩⟩⟩⟩⟩⟩⟩⟩):=by kernel_rfl
theorem S46x2q (n0:Nat) (s0 s1 s2 s3 s4 s5 s6 d s8 s9 e f g h i j l m n o p q r s t u v w x y z A B C D E F G I J K L M N O P Q R S T U ao ap
 aq ar au V W X Y Z aa ab ac ad ae af ag ah ai aj ak al am an:Value) (H:AHeap) (k:Value→AHeap→Prop):S46x2 n0 k [s0,s1,s2,s3,s4,s5,s6,d,s8,s9,e,f,g,h,i,j,l,
 m,n,o,p,q,r,s,t,u,v,w,x,y,z,A,B,C,D,E,F,G,I,J,K,L,M,N,O,P,Q,R,S,T,U,ao,ap,aq,ar,au,V,W,X,Y,Z,aa,
 ab,ac,ad,ae,af,ag,ah,ai,aj,ak,al,am,an] H=(@bnd (aLen prog H 9 d) ⟨fun a=>@bnd (aBin2 prog H .add 3 (.tmp 51) (.tmp 53) s5 a) ⟨fun b=>@bnd (aBin2 prog H .add 3 (.tmp
 41) (.const (.int .i64 1)) L (.int .i64 1)) ⟨fun c=>L46x0 n0  k [s0,s1,s2,s3,s4,b,s6,d,s8,s9,e,f,g,h,i,j,l,m,n,o,p,q,r,s,t,u,v,w,x,y,z,A,
 B,C,D,E,F,G,I,J,K,c,M,N,O,P,Q,R,S,T,U,s5,d,a,b,c,V,W,X,Y,Z,aa,ab,ac,ad,ae,af,ag,ah,ai,aj,ak,al,am,an]
 H⟩⟩⟩):=by kernel_rfl
theorem L46x1q (n1:Nat) (s0 m s2 s3 s4 s5 s6 s7 f s9 ap n o p q r s t u v w x y z A B C D E F G I J K L M N O P Q R S T U V W X Y Z aa ab ac ad
 ae af ag ah ai aj ak al am an g h e aq ar au av aw ax ay az ao:Value) (H:AHeap) (k:Value→AHeap→Prop):L46x1 (n1+1) k [s0,m,s2,s3,s4,s5,s6,s7,f,s9,ap,n,o,p,q,r,
 s,t,u,v,w,x,y,z,A,B,C,D,E,F,G,I,J,K,L,M,N,O,P,Q,R,S,T,U,V,W,X,Y,Z,aa,ab,ac,ad,ae,af,ag,ah,ai,aj,ak,al,
 am,an,g,h,e,aq,ar,au,av,aw,ax,ay,az,ao] H=(@bnd (aBin2 prog H .lss 3 (.tmp 65) (.tmp 64) e h) ⟨fun b=>@kifB b ⟨@bnd (aIndexAddr prog H 42 g e) ⟨fun c=>@bnd
 (aLoad prog H 9 c) ⟨fun a=>@bndC prog 79 [f,m] H ⟨fun i H46=>@bndC prog 79 [f,a] H46 ⟨fun j H48=>@bnd (aBin2 prog H48 .add 3 (.tmp 65) (.const (.int .i64 1)) e (.int
 .i64 1)) ⟨fun d=>L46x1 n1  k [s0,m,s2,s3,s4,s5,s6,s7,f,s9,a,n,o,p,q,r,s,t,u,v,w,x,y,z,A,B,C,D,E,F,G,I,J,K,L,M,N,O,P,
 Q,R,S,T,U,V,W,X,Y,Z,aa,ab,ac,ad,ae,af,ag,ah,ai,aj,ak,al,am,an,g,h,d,b,c,a,m,i,a,j,d,ao] H48⟩⟩⟩⟩⟩⟩ ⟨@bndC
 prog 80 [f] H ⟨fun l H51=>k l H51⟩⟩⟩):=by kernel_rfl
-- strconv.Itoa
theorem d47 (a0:Value) (H:AHeap) (k:Value→AHeap→Prop):kbody prog Tryz.f47 [a0] H k=(@bndC prog 81 [a0] H ⟨fun v4x1 H2=>k v4x1 H2⟩):=by kernel_rfl
-- tocsin/crc.Of
def L48x0 (n:Nat) (k:Value→AHeap→Prop) (sl:List Value) (H:AHeap):Prop:=kit prog (cl (cl (cr (cl (cr (cr (cb Tryz.f48))))))) n (kblk 0 (kseq prog (cr (cr (cr (cb Tryz.f48)))) (kfin prog Tryz.f48 k)))
 .normal sl H
theorem d48 (a0:Value) (H:AHeap) (k:Value→AHeap→Prop):kbody prog Tryz.f48 [a0] H k=(@bndC prog 82 [] H ⟨fun v7x1 H2=>@bnd (aLen prog H2 122 a0) ⟨fun v9x3=>∃ n,L48x0 n  k [a0,undef,(.int .u32
 0),(.int .u32 4294967295),v7x1,undef,undef,v7x1,a0,v9x3,(.int .i64 0),undef,undef,undef,undef,undef,undef,undef,undef,undef,undef] H2⟩⟩):=by kernel_rfl
theorem L48x0q (n0:Nat) (o p q h i r B s m n b t u v w x y z A j l:Value) (H:AHeap) (k:Value→AHeap→Prop):L48x0 (n0+1) k [o,p,q,h,i,r,B,s,m,n,b,t,u,v,
 w,x,y,z,A,j,l] H=(@bnd (aBin2 prog H .lss 3 (.tmp 10) (.tmp 9) b n) ⟨fun c=>@kifB c ⟨@bnd (aIndexAddr prog H 122 m b) ⟨fun d=>@bnd (aLoad prog H 55 d) ⟨fun a =>
 @bndC prog 83 [h,i,a] H ⟨fun e H8=>@bnd (aBin2 prog H8 .add 3 (.tmp 10) (.const (.int .i64 1)) b (.int .i64 1)) ⟨fun f=>L48x0 n0  k [o,p,q,e,i,r,a,s,m,n,f,c,
 d,a,h,i,a,e,f,j,l] H8⟩⟩⟩⟩⟩ ⟨@bnd (unV prog .xor h) ⟨fun g=>k g H⟩⟩⟩):=by kernel_rfl
-- tocsin/lex.Tell$1
def L64x0 (n:Nat) (k:Value→AHeap→Prop) (sl:List Value) (H:AHeap):Prop:=kit prog (cl (cl (cr (cr (cb Tryz.f64))))) n (kblk 0 (kfin prog Tryz.f64 k)) .normal sl H
theorem d64 (a0 a1:Value) (H:AHeap) (k:Value→AHeap→Prop):kbody prog Tryz.f64 [a0,a1] H k=(@bnd (aLoad prog H 9 a1) ⟨fun c=>@bnd (aLen prog H 9 c) ⟨fun d=>@bnd (aBin2 prog H .gtr 3
 (.tmp 7) (.const (.int .i64 4096)) d (.int .i64 4096)) ⟨fun e=>@kifB e ⟨@bnd (buildV prog 70 []) ⟨fun f=>@bndV prog a0 [f,(.int .i64 3)] H ⟨fun _ H6=>k (.tuple #[]) H6⟩⟩⟩ ⟨@bnd (aLoad prog
 H 9 a1) ⟨fun a=>@bndC prog 65 [a,(.int .i64 0)] H ⟨fun b H9=>∃ n,L64x0 n  k [a0,a1,undef,b,undef,undef,c,d,e,undef,undef,undef,a,b,undef,undef,undef,undef,undef,
 undef,undef,undef,undef,undef,undef,undef,undef,undef,undef,undef,undef,undef,undef,undef,undef,undef,undef,undef,undef,undef] H9⟩⟩⟩⟩⟩⟩):=by kernel_rfl
theorem L64x0q (n0:Nat) (r s C e s4 s5 D E F G u v w x I J K L M N O P Q R S T U V W y z A B X Y Z aa ab ac ad:Value) (H:AHeap) (k:Value→AHeap→Prop) :
 L64x0 (n0+1) k [r,s,C,e,s4,s5,D,E,F,G,u,v,w,x,I,J,K,L,M,N,O,P,Q,R,S,T,U,V,W,y,z,A,B,X,Y,Z,aa,ab,ac,ad] H=(@bnd (aLoad
 prog H 9 s) ⟨fun f=>@bnd (aLen prog H 9 f) ⟨fun g=>@bnd (aBin2 prog H .lss 3 (.tmp 14) (.tmp 16) e g) ⟨fun h=>@kifB h ⟨@bnd (aLoad prog H 9 s) ⟨fun i=>@bndC
 prog 66 [i,e] H ⟨fun b H15=>@bnd (tupV b 0) ⟨fun j=>@bnd (tupV b 1) ⟨fun a=>@bndE (aAlloc prog H15 70) ⟨fun d H19=>@bndS (aStore prog H19 70 d j) ⟨fun _ H21 =>
 @bnd (aBin2 prog H21 .eql 3 (.tmp 27) (.const (.int .i64 0)) a (.int .i64 0)) ⟨fun l=>@kifB l ⟨@bnd (buildV prog 70 [(2,e)]) ⟨fun t=>@bndV prog r [t,(.int .i64 90)] H21 ⟨fun _ H25
=>k (.tuple #[]) H25⟩⟩⟩ ⟨@bnd (aLoad prog H21 70 d) ⟨fun m=>@bndV prog r [m,(.int .i64 0)] H21 ⟨fun n H28=>@bnd (unV prog .not n) ⟨fun o=>@kifB o ⟨k (.tuple #[]) H28⟩
 ⟨@bnd (aBin2 prog H28 .add 3 (.tmp 37) (.tmp 38) e a) ⟨fun c=>@bnd (aLoad prog H28 9 s) ⟨fun p=>@bndC prog 65 [p,c] H28 ⟨fun q H33=>L64x0 n0  k [r,s,C,q,d,
 a,D,E,F,G,u,v,w,x,e,f,g,h,p,c,q,b,i,e,b,j,a,a,l,y,z,A,B,r,m,n,o,e,a,c]
 H33⟩⟩⟩⟩⟩⟩⟩⟩⟩⟩⟩⟩⟩⟩⟩⟩ ⟨k (.tuple #[]) H⟩⟩⟩⟩):=by kernel_rfl
-- tocsin/lex.skip
def L65x0 (n:Nat) (k:Value→AHeap→Prop) (sl:List Value) (H:AHeap):Prop:=kit prog (cl (cl (cl (cr (cb Tryz.f65))))) n (kblk 0 (kseq prog (cr (cr (cb Tryz.f65))) (kfin prog Tryz.f65 k))) .normal sl H
theorem d65 (a0 a1:Value) (H:AHeap) (k:Value→AHeap→Prop):kbody prog Tryz.f65 [a0,a1] H k=(∃ n,L65x0 n  k [a0,a1,undef,undef,(.int .i64 0),undef,undef,undef,undef,undef,undef,undef,undef,undef,
 undef,undef,undef,undef,undef,undef,undef,undef,undef,undef,undef,undef,undef,undef,undef] H):=by kernel_rfl
theorem L65x0q (n0:Nat) (c a A B C L M N O D E F G I J K o p q r s t u v w x y z n:Value) (H:AHeap) (k:Value→AHeap→Prop):L65x0 (n0+1) k [c,a,A,B,C,L,M,
 N,O,D,E,F,G,I,J,K,o,p,q,r,s,t,u,v,w,x,y,z,n] H=(@bnd (aLen prog H 9 c) ⟨fun i=>@bnd (aBin2 prog H .lss 3 (.tmp 5) (.tmp 7) a i) ⟨fun j =>
 @kifB j ⟨@bnd (aIndex prog 9 c a) ⟨fun d=>@bndC prog 96 [(.string { data:=#[32,9,10,13] }),d] H ⟨fun e H5=>@bnd (aBin2 prog H5 .geq 3 (.tmp 14) (.const (.int .i64 0)) e (.int .i64
 0)) ⟨fun b=>@kifB b ⟨@bnd (aBin2 prog H5 .add 3 (.tmp 16) (.const (.int .i64 1)) a (.int .i64 1)) ⟨fun l=>L65x0 n0  k [c,l,A,B,C,a,c,i,j,D,b,c,a,d,e,b,a,
 l,q,r,s,t,u,v,w,x,y,z,n] H5⟩⟩ ⟨@bnd (aIndex prog 9 c a) ⟨fun m=>@bnd (aBin2 prog H5 .eql 5 (.tmp 21) (.const (.int .u8 35)) m (.int .u8 35)) ⟨fun f=>@kifB f
 ⟨@bndC prog 97 [c,a,(.func (.func 98) #[] #[])] H5 ⟨fun g H11=>@bnd (aBin2 prog H11 .add 3 (.tmp 23) (.tmp 26) a g) ⟨fun h=>L65x0 n0  k [c,h,A,B,C,a,c,i,j,D,b,
 c,a,d,e,b,o,p,f,c,a,m,f,a,c,a,g,h,n] H11⟩⟩⟩ ⟨k a H5⟩⟩⟩⟩⟩⟩⟩⟩ ⟨k a H⟩⟩⟩):=by kernel_rfl
-- tocsin/lex.one
def S66x0 (k:Value→AHeap→Prop) (sl:List Value) (H:AHeap):Prop:=kseq prog (cr (cr (cr (cr (cb Tryz.f66))))) (kfin prog Tryz.f66 k) .normal sl H
theorem d66 (a0 a1:Value) (H:AHeap) (k:Value→AHeap→Prop):kbody prog Tryz.f66 [a0,a1] H k=(@bndE (aAlloc prog H 70) ⟨fun l H2=>@bnd (buildV prog 70 [(2,a1)]) ⟨fun h=>@bndE (aAlloc
 prog H2 70) ⟨fun d H5=>@bndS (aStore prog H5 70 d h) ⟨fun _ H7=>@bnd (aIndex prog 9 a0 a1) ⟨fun i=>@bndC prog 99 [i] H7 ⟨fun c H10=>@kifB c ⟨@bndC prog 97 [a0,a1,
 (.func (.func 100) #[] #[])] H10 ⟨fun B H12=>@bnd (aFieldAddr prog H12 70 d 0) ⟨fun C=>@bndS (aStore prog H12 5 C (.int .u8 1)) ⟨fun _ H15=>S66x0  k [a0,a1,undef,undef,l,(.int .i64 0),
 d,B,undef,a1,h,undef,undef,undef,undef,c,a0,a1,i,c,a0,a1,B,C,undef,undef,undef,undef,undef,undef,undef,undef,undef,undef,undef,undef,undef,undef,undef,undef,
 undef,undef,undef,undef,undef,undef,undef,undef,undef,undef,undef,undef,undef,undef,undef,undef,undef,undef,undef,undef,undef,undef,undef,undef,undef,undef,undef,undef,undef,undef,undef,undef,
 undef,undef,undef,undef,undef,undef,undef,undef,undef,undef,undef,undef,undef] H15⟩⟩⟩⟩ ⟨@bnd (aIndex prog 9 a0 a1) ⟨fun j=>@bndC prog 101 [j] H10 ⟨fun e H18=>@kifB e ⟨@bndC
 prog 97 [a0,a1,(.func (.func 101) #[] #[])] H18 ⟨fun a H20=>@bnd (aFieldAddr prog H20 70 d 0) ⟨fun m=>@bndS (aStore prog H20 5 m (.int .u8 2)) ⟨fun _ H23=>@bnd (aBin2 prog H23 .add
 3 (.tmp 34) (.tmp 35) a1 a) ⟨fun n=>@bnd (aBin2 prog H23 .add 3 (.tmp 36) (.const (.int .i64 1)) n (.int .i64 1)) ⟨fun o=>@bndC prog 97 [a0,o,(.func (.func 101) #[] #[])] H23 ⟨fun f
 H27=>@bnd (aBin2 prog H27 .add 3 (.tmp 39) (.tmp 40) a1 a) ⟨fun p=>@bnd (aLen prog H27 9 a0) ⟨fun q=>@bnd (aBin2 prog H27 .lss 3 (.tmp 41) (.tmp 43) p q) ⟨fun b=>@bnd (gif
 b true ((some a0)) undef) ⟨fun r=>@bnd (gif b true ((some a1)) undef) ⟨fun s=>@bnd (gif b true ((some a)) undef) ⟨fun t=>@bnd (gif b true (aBin2 prog H27 .add 3 (.tmp 47) (.tmp
 48) s t) undef) ⟨fun u=>@bnd (gif b true (aIndex prog 9 r u) undef) ⟨fun v=>@bnd (gif b true (aBin2 prog H27 .eql 5 (.tmp 50) (.const (.int .u8 46)) v (.int .u8 46))
 undef) ⟨fun w=>@bnd (pickV b w (.bool false)) ⟨fun g=>@bnd (gif g true ((some f)) undef) ⟨fun x=>@bnd (gif g true (aBin2 prog H27 .gtr 3 (.tmp 54) (.const (.int .i64 0)) x
 (.int .i64 0)) undef) ⟨fun y=>@bnd (pickV g y (.bool false)) ⟨fun z=>@kifB z ⟨@bnd (aBin2 prog H27 .add 3 (.const (.int .i64 1)) (.tmp 58) (.int .i64 1) f) ⟨fun D=>@bnd (aBin2
 prog H27 .add 3 (.tmp 57) (.tmp 59) a D) ⟨fun E=>S66x0  k [a0,a1,undef,undef,l,(.int .i64 0),d,E,f,a1,h,undef,undef,undef,undef,c,a0,a1,i,c,undef,undef,
 undef,undef,e,a0,a1,j,e,a0,a1,a,m,a0,a1,a,n,o,f,a1,a,p,a0,q,b,b,r,s,t,u,v,w,g,g,
 x,y,z,a,f,D,E,undef,undef,undef,undef,undef,undef,undef,undef,undef,undef,undef,undef,undef,undef,undef,undef,undef,undef,undef,undef,undef,undef,undef,undef]
 H27⟩⟩⟩ ⟨S66x0  k [a0,a1,undef,undef,l,(.int .i64 0),d,a,f,a1,h,undef,undef,undef,undef,c,a0,a1,i,c,undef,undef,undef,undef,e,a0,a1,j,e,a0,a1,a,
 m,a0,a1,a,n,o,f,a1,a,p,a0,q,b,b,r,s,t,u,v,w,g,g,x,y,z,undef,undef,undef,undef,undef,undef,
 undef,undef,undef,undef,undef,undef,undef,undef,undef,undef,undef,undef,undef,undef,undef,undef,undef,undef,undef,undef,undef,undef] H27⟩⟩⟩⟩⟩⟩⟩⟩⟩⟩⟩⟩⟩⟩⟩⟩⟩⟩⟩⟩⟩ ⟨@bnd (aIndex prog 9 a0 a1) ⟨fun F =>
 @bnd (aBin2 prog H18 .eql 5 (.tmp 64) (.const (.int .u8 34)) F (.int .u8 34)) ⟨fun A=>@kifB A ⟨@bnd (aFieldAddr prog H18 70 d 0) ⟨fun K=>@bndS (aStore prog H18 5 K (.int .u8 3))
 ⟨fun _ H47=>@bndC prog 102 [a0,a1] H47 ⟨fun G H49=>@bnd (tupV G 0) ⟨fun L=>@bnd (tupV G 1) ⟨fun M=>@bnd (aFieldAddr prog H49 70 d 1) ⟨fun N=>@bndS (aStore prog H49 9
 N L) ⟨fun _ H54=>@bnd (aLoad prog H54 70 d) ⟨fun O=>@bndS (aStore prog H54 70 l O) ⟨fun _ H57=>∃ r58,aLoad prog H57 70 l=some r58∧k (.tuple #[r58,M]) H57⟩⟩⟩⟩⟩⟩⟩⟩⟩⟩
 ⟨@bndC prog 103 [a0,a1] H18 ⟨fun I H60=>@bnd (aFieldAddr prog H60 70 d 0) ⟨fun J=>@bndS (aStore prog H60 5 J (.int .u8 4)) ⟨fun _ H63=>S66x0  k [a0,a1,undef,undef,l,(.int .i64 0),
 d,I,undef,a1,h,a0,a1,I,J,c,a0,a1,i,c,undef,undef,undef,undef,e,a0,a1,j,e,undef,undef,undef,undef,undef,undef,undef,undef,undef,undef,undef,
 undef,undef,undef,undef,undef,undef,undef,undef,undef,undef,undef,undef,undef,undef,undef,undef,undef,undef,undef,undef,undef,A,a0,a1,F,A,undef,undef,undef,undef,undef,undef,undef,
 undef,undef,undef,undef,undef,undef,undef,undef,undef,undef,undef,undef] H63⟩⟩⟩⟩⟩⟩⟩⟩⟩⟩⟩⟩⟩⟩⟩⟩):=by kernel_rfl
theorem S66x0q (i e s2 s3 f s5 g h s8 s9 j l m n o p q r s t u v w x y z A B C D E F G I J K L M N O P Q R S T U V W X Y Z aa ab ac ad ae
 af ag ah ai aj ak al am an ao ap aq ar au av aw ax ay az aA aB aC aD aE aF aG aH aI aJ:Value) (H:AHeap) (k:Value→AHeap→Prop):S66x0 k [i,e,s2,s3,f,s5,g,h,s8,s9,j,l,
 m,n,o,p,q,r,s,t,u,v,w,x,y,z,A,B,C,D,E,F,G,I,J,K,L,M,N,O,P,Q,R,S,T,U,V,W,X,Y,Z,aa,ab,ac,ad,ae,af,
 ag,ah,ai,aj,ak,al,am,an,ao,ap,aq,ar,au,av,aw,ax,ay,az,aA,aB,aC,aD,aE,aF,aG,aH,aI,aJ] H=(@bnd (aBin2 prog H .add 3 (.tmp 78) (.tmp 79) e h) ⟨fun a=>@bnd
 (aSliceOp prog H 9 i (some e) (some a)) ⟨fun b=>@bnd (aFieldAddr prog H 70 g 1) ⟨fun c=>@bndS (aStore prog H 9 c b) ⟨fun _ H68=>@bnd (aLoad prog H68 70 g) ⟨fun d =>
 @bndS (aStore prog H68 70 f d) ⟨fun _ H71=>∃ r72,aLoad prog H71 70 f=some r72∧k (.tuple #[r72,h]) H71⟩⟩⟩⟩⟩⟩):=by kernel_rfl
-- (*tocsin/expr.reader).takes
def S68x0 (k:Value→AHeap→Prop) (sl:List Value) (H:AHeap):Prop:=kseq prog (cr (cr (cr (cb Tryz.f68)))) (kfin prog Tryz.f68 k) .normal sl H
theorem d68 (a0 a1 a2:Value) (H:AHeap) (k:Value→AHeap→Prop):kbody prog Tryz.f68 [a0,a1,a2] H k=(@bndC prog 104 [a0,a1,a2] H ⟨fun a H2=>@kifB a ⟨@bnd (nilV a0) ⟨fun b=>@bnd (aFieldAddr
 prog H2 81 b 1) ⟨fun c=>@bnd (aLoad prog H2 3 c) ⟨fun d=>@bnd (aBin2 prog H2 .add 3 (.tmp 16) (.const (.int .i64 1)) d (.int .i64 1)) ⟨fun e=>@bnd (nilV a0) ⟨fun f=>@bnd
 (aFieldAddr prog H2 81 f 1) ⟨fun g=>@bndS (aStore prog H2 3 g e) ⟨fun _ H10=>S68x0  k [a0,a1,a2,undef,undef,undef,(.bool false),a,a0,a1,a2,a,a,a0,b,c,d,
 e,f,g,undef] H10⟩⟩⟩⟩⟩⟩⟩⟩ ⟨S68x0  k [a0,a1,a2,undef,undef,undef,(.bool false),a,a0,a1,a2,a,a,undef,undef,undef,undef,undef,undef,undef,undef] H2⟩⟩):=by kernel_rfl
theorem S68x0q (n o p q r s t a u v b c d e f g h i j l m:Value) (H:AHeap) (k:Value→AHeap→Prop):S68x0 k [n,o,p,q,r,s,t,a,u,v,b,c,d,e,f,g,h,i,
 j,l,m] H=(k a H):=by kernel_rfl
-- (*tocsin/expr.reader).sign
theorem d69 (a0 a1:Value) (H:AHeap) (k:Value→AHeap→Prop):kbody prog Tryz.f69 [a0,a1] H k=(@bndC prog 68 [a0,(.int .u8 4),a1] H ⟨fun v7x1 H2=>@bnd (nilV a0) ⟨fun v8x3=>@bnd (aFieldAddr prog H2
 81 v8x3 2) ⟨fun v9x4=>@bndS (aStore prog H2 4 v9x4 v7x1) ⟨fun _ H6=>k (.tuple #[]) H6⟩⟩⟩⟩):=by kernel_rfl
-- (*tocsin/expr.reader).comparison
theorem d70 (a0:Value) (H:AHeap) (k:Value→AHeap→Prop):kbody prog Tryz.f70 [a0] H k=(@bndE (aAlloc prog H 37) ⟨fun b H2=>@bndC prog 71 [] H2 ⟨fun n H4=>@bndC prog 105 [a0,(.int .u8 1),
 n] H4 ⟨fun o H6=>@bnd (buildV prog 37 [(0,(.int .u8 0)),(1,o)]) ⟨fun p=>@bndE (aAlloc prog H6 37) ⟨fun a H9=>@bndS (aStore prog H9 37 a p) ⟨fun _ H11=>@bndC prog 69 [a0,
 (.string { data:=#[40] })] H11 ⟨fun _ H13=>@bndC prog 106 [a0] H13 ⟨fun c H15=>@bnd (aFieldAddr prog H15 37 a 2) ⟨fun d=>@bndS (aStore prog H15 35 d c) ⟨fun _ H18=>@bndC prog
 69 [a0,(.string { data:=#[91] })] H18 ⟨fun _ H20=>@bndC prog 107 [a0] H20 ⟨fun e H22=>@bnd (aFieldAddr prog H22 37 a 3) ⟨fun f=>@bndS (aStore prog H22 3 f e) ⟨fun _ H25=>@bndC
 prog 69 [a0,(.string { data:=#[93] })] H25 ⟨fun _ H27=>@bndC prog 69 [a0,(.string { data:=#[41] })] H27 ⟨fun _ H29=>@bndC prog 73 [] H29 ⟨fun g H31=>@bndC prog 105 [a0,(.int .u8 4),g]
 H31 ⟨fun h H33=>@bnd (aFieldAddr prog H33 37 a 4) ⟨fun i=>@bndS (aStore prog H33 5 i h) ⟨fun _ H36=>@bndC prog 108 [a0] H36 ⟨fun j H38=>@bnd (aFieldAddr prog H38 37 a
 5) ⟨fun l=>@bndS (aStore prog H38 2 l j) ⟨fun _ H41=>@bnd (aLoad prog H41 37 a) ⟨fun m=>@bndS (aStore prog H41 37 b m) ⟨fun _ H44=>∃ r45,aLoad prog H44 37 b=some
 r45∧k r45 H44⟩⟩⟩⟩⟩⟩⟩⟩⟩⟩⟩⟩⟩⟩⟩⟩⟩⟩⟩⟩⟩⟩⟩⟩⟩):=by kernel_rfl
-- tocsin/expr.aggregates
theorem d71 (H:AHeap) (k:Value→AHeap→Prop):kbody prog Tryz.f71 [] H k=(@bndL prog H 42 6 [(0,(.string { data:=#[99,111,117,110,116] })),(1,(.string { data:=#[115,117,109] })),(2,(.string {
 data:=#[109,105,110] })),(3,(.string { data:=#[109,97,120] })),(4,(.string { data:=#[109,101,97,110] })),(5,(.string { data:=#[108,97,115,116] }))] ⟨fun v1x1 H2=>k v1x1 H2⟩):=by kernel_rfl
-- tocsin/match.Print
def L72x0 (n:Nat) (k:Value→AHeap→Prop) (sl:List Value) (H:AHeap):Prop:=kit prog (cl (cl (cr (cl (cr (cr (cr (cb Tryz.f72)))))))) n (kblk 0 (kseq prog (cr (cr (cr (cr (cb Tryz.f72))))) (kfin prog
 Tryz.f72 k))) .normal sl H
def S72x0 (n0:Nat) (k:Value→AHeap→Prop) (sl:List Value) (H:AHeap):Prop:=kseq prog (cr (cr (cr (cl (cl (cr (cr (cl (cl (cr (cl (cr (cr (cr (cb Tryz.f72))))))))))))))) (kblk 1 (kseq prog (cr (cr (cr (cl
 (cl (cr (cl (cr (cr (cr (cb Tryz.f72))))))))))) (kit prog (cl (cl (cr (cl (cr (cr (cr (cb Tryz.f72)))))))) n0 (kblk 0 (kseq prog (cr (cr (cr (cr (cb Tryz.f72))))) (kfin prog Tryz.f72 k)))))) .normal sl H
theorem d72 (a0:Value) (H:AHeap) (k:Value→AHeap→Prop):kbody prog Tryz.f72 [a0] H k=(@bndC prog 109 [] H ⟨fun v9x1 H2=>@bnd (aLen prog H2 35 a0) ⟨fun v11x3=>∃ n,L72x0 n  k [a0,undef,(.string {
 data:=#[] }),v9x1,(.slice none 0 0),undef,undef,undef,undef,v9x1,a0,v11x3,(.int .i64 0),undef,undef,undef,undef,undef,undef,undef,undef,undef,undef,undef,undef,undef,undef,undef,undef,undef,undef,
 undef,undef,undef,undef,undef,undef,undef,undef,undef,undef,undef,undef,undef] H2⟩⟩):=by kernel_rfl
theorem L72x0q (n0:Nat) (P Q R m M S s6 s7 s8 T p q n U V W X Y Z aa ab ac ad ae af N O r s t u v w x y z A B C D E F G I:Value) (H:AHeap) (k:Value →
 AHeap→Prop):L72x0 (n0+1) k [P,Q,R,m,M,S,s6,s7,s8,T,p,q,n,U,V,W,X,Y,Z,aa,ab,ac,ad,ae,af,N,O,r,s,t,u,v,w,x,y,z,A,B,C,D,
 E,F,G,I] H=(@bnd (aBin2 prog H .lss 3 (.tmp 12) (.tmp 11) n q) ⟨fun h=>@kifB h ⟨@bnd (aIndexAddr prog H 35 p n) ⟨fun i=>@bnd (aLoad prog H 75 i) ⟨fun j=>@bndE
 (aAlloc prog H 75) ⟨fun l H8=>@bndS (aStore prog H8 75 l j) ⟨fun _ H10=>@bnd (aFieldAddr prog H10 75 l 1) ⟨fun d=>@bnd (aLoad prog H10 5 d) ⟨fun e=>@bnd (aLookup prog
 H10 146 m e true) ⟨fun b=>@bnd (tupV b 0) ⟨fun f=>@bnd (tupV b 1) ⟨fun a=>@bndE (aAlloc prog H10 150) ⟨fun c H17=>@bndS (aStore prog H17 150 c f) ⟨fun _ H19=>@bnd
 (unV prog .not a) ⟨fun g=>@kifB g ⟨@bnd (aLookup prog H19 146 m (.int .u8 0) false) ⟨fun o=>@bndS (aStore prog H19 150 c o) ⟨fun _ H23=>S72x0 n0 k [P,Q,R,m,M,S,
 l,c,a,T,p,q,n,h,i,j,b,m,d,e,b,f,a,a,g,m,o,r,s,t,u,v,w,x,y,z,A,B,C,D,E,F,G,I]
 H23⟩⟩⟩ ⟨S72x0 n0 k [P,Q,R,m,M,S,l,c,a,T,p,q,n,h,i,j,b,m,d,e,b,f,a,a,g,N,O,r,s,t,u,v,w,x,y,z,
 A,B,C,D,E,F,G,I] H19⟩⟩⟩⟩⟩⟩⟩⟩⟩⟩⟩⟩⟩⟩ ⟨@bndC prog 46 [M,(.string { data:=#[44] })] H ⟨fun J H25=>@bndL prog H25 42 3 [(0,(.string { data:=#[123] })),(1,J),(2,(.string { data
:=#[125] }))] ⟨fun K H27=>@bndC prog 110 [K] H27 ⟨fun L H29=>k L H29⟩⟩⟩⟩⟩):=by kernel_rfl
theorem S72x0q (n0:Nat) (M N O P K Q n L R S o p q r s t u v w x y z A B C D E T U V W X Y Z aa ab ac ad ae af F G I J:Value) (H:AHeap) (k:Value →
 AHeap→Prop):S72x0 n0 k [M,N,O,P,K,Q,n,L,R,S,o,p,q,r,s,t,u,v,w,x,y,z,A,B,C,D,E,T,U,V,W,X,Y,Z,aa,ab,ac,ad,ae,af,F,G,
 I,J] H=(@bnd (aFieldAddr prog H 75 n 0) ⟨fun f=>@bnd (aLoad prog H 9 f) ⟨fun g=>@bnd (aFieldAddr prog H 150 L 0) ⟨fun h=>@bnd (aLoad prog H 9 h) ⟨fun i=>@bnd
 (aFieldAddr prog H 75 n 2) ⟨fun j=>@bnd (aLoad prog H 9 j) ⟨fun l=>@bndD false H ⟨fun a H37=>ACalls prog 111 [l] H a H37⟩ ⟨fun a H37=>@bndD true H37 ⟨fun b H39 =>
 sliceLit prog H37 42 3 [(0,g),(1,i),(2,a)] b H39⟩ ⟨fun b H39=>@bndD true H39 ⟨fun c H41=>ACalls prog 110 [b] H39 c H41⟩ ⟨fun c H41=>@bndD true H41 ⟨fun d
 H43=>sliceLit prog H41 42 1 [(0,c)] d H43⟩ ⟨fun d H43=>@bndD true H43 ⟨fun e H45=>aBuiltin prog H43 Builtin.append #[42,42] [K,d]=some (e,H45)⟩ ⟨fun e H45=>@bnd (aBin2
 prog H45 .add 3 (.tmp 12) (.const (.int .i64 1)) q (.int .i64 1)) ⟨fun m=>L72x0 n0  k [M,N,O,P,e,Q,n,L,R,S,o,p,m,r,s,t,u,v,w,x,y,z,A,B,C,D,
 E,K,f,g,h,i,j,l,a,b,c,d,e,m,F,G,I,J] H45⟩⟩⟩⟩⟩⟩⟩⟩⟩⟩⟩⟩):=by kernel_rfl
end Go.Vi
namespace Go.Vi
open Go Go.Proofs Go.Proofs.Tryz
-- tocsin/expr.compares
theorem d73 (H:AHeap) (k:Value→AHeap→Prop):kbody prog Tryz.f73 [] H k=(@bndL prog H 42 6 [(0,(.string { data:=#[60] })),(1,(.string { data:=#[60,61] })),(2,(.string { data:=#[62] })),(3,
 (.string { data:=#[62,61] })),(4,(.string { data:=#[61,61] })),(5,(.string { data:=#[33,61] }))] ⟨fun v1x1 H2=>k v1x1 H2⟩):=by kernel_rfl
-- tocsin/fixed.Print
def S74x0 (k:Value→AHeap→Prop) (sl:List Value) (H:AHeap):Prop:=kseq prog (cr (cr (cr (cr (cb Tryz.f74))))) (kfin prog Tryz.f74 k) .normal sl H
def S74x1 (k:Value→AHeap→Prop) (sl:List Value) (H:AHeap):Prop:=kseq prog (cr (cr (cr (cr (cr (cr (cb Tryz.f74))))))) (kfin prog Tryz.f74 k) .normal sl H
theorem d74 (a0:Value) (H:AHeap) (k:Value→AHeap→Prop):kbody prog Tryz.f74 [a0] H k=(@bndC prog 112 [a0] H ⟨fun v7x1 H2=>@bnd (aBin2 prog H2 .lss 2 (.tmp 8) (.const (.int .i64 0)) v7x1 (.int .i64 0))
 ⟨fun v9x3=>@kifB v9x3 ⟨@bnd (unV prog .neg v7x1) ⟨fun v11x4=>S74x0  k [v11x4,undef,(.string { data:=#[] }),(.string { data:=#[45] }),undef,undef,a0,v7x1,v7x1,v9x3,v7x1,v11x4,undef,undef,undef,undef,
 undef,undef,undef,undef,undef,undef,undef,undef,undef,undef,undef,undef,undef,undef] H2⟩⟩ ⟨S74x0  k [v7x1,undef,(.string { data:=#[] }),(.string { data:=#[] }),undef,undef,a0,v7x1,v7x1,v9x3,undef,
 undef,undef,undef,undef,undef,undef,undef,undef,undef,undef,undef,undef,undef,undef,undef,undef,undef,undef,undef] H2⟩⟩⟩):=by kernel_rfl
theorem S74x0q (d z A n P Q B C D E o p F G I J K L M N O r s t u v w x y q:Value) (H:AHeap) (k:Value→AHeap→Prop):S74x0 k [d,z,A,n,P,Q,B,C,D,E,o,
 p,F,G,I,J,K,L,M,N,O,r,s,t,u,v,w,x,y,q] H=(@bnd (aBin2 prog H .quo 2 (.tmp 13) (.const (.int .i64 1000)) d (.int .i64 1000)) ⟨fun e=>@bndC prog 113
 [e,(.int .i64 10)] H ⟨fun f H7=>@bnd (aBin2 prog H7 .add 9 (.tmp 12) (.tmp 15) n f) ⟨fun b=>@bnd (aBin2 prog H7 .rem 2 (.tmp 17) (.const (.int .i64 1000)) d (.int .i64 1000)) ⟨fun a=>@bnd
 (aBin2 prog H7 .gtr 2 (.tmp 19) (.const (.int .i64 0)) a (.int .i64 0)) ⟨fun c=>@kifB c ⟨@bnd (aBin2 prog H7 .add 2 (.const (.int .i64 1000)) (.tmp 22) (.int .i64 1000) a) ⟨fun g=>@bndC
 prog 113 [g,(.int .i64 10)] H7 ⟨fun h H13=>@bnd (aSliceOp prog H13 9 h (some (.int .i64 1)) none) ⟨fun i=>@bndC prog 114 [i,(.string { data:=#[48] })] H13 ⟨fun j H16=>@bnd
 (aBin2 prog H16 .add 9 (.const (.string { data:=#[46] })) (.tmp 26) (.string { data:=#[46] }) j) ⟨fun l=>@bnd (aBin2 prog H16 .add 9 (.tmp 21) (.tmp 27) b l) ⟨fun m=>S74x1  k [d,z,
 A,n,m,a,B,C,D,E,o,p,n,d,e,f,b,d,a,a,c,b,a,g,h,i,j,l,m,q] H16⟩⟩⟩⟩⟩⟩⟩ ⟨S74x1  k [d,z,A,n,b,a,B,
 C,D,E,o,p,n,d,e,f,b,d,a,a,c,r,s,t,u,v,w,x,y,q] H7⟩⟩⟩⟩⟩⟩):=by kernel_rfl
theorem S74x1q (w x y z a A B C D E b c d e f g h i j l m n o p q r s t u v:Value) (H:AHeap) (k:Value→AHeap→Prop):S74x1 k [w,x,y,z,a,A,B,C,D,E,b,
 c,d,e,f,g,h,i,j,l,m,n,o,p,q,r,s,t,u,v] H=(k a H):=by kernel_rfl
-- tocsin/expr.strong
theorem d75 (a0:Value) (H:AHeap) (k:Value→AHeap→Prop):kbody prog Tryz.f75 [a0] H k=(@bndE (aNew H 37 a0) ⟨fun v1x1 H2=>@bndE (some (Value.map (some H2.length),H2++[AObj.map []])) ⟨fun v3x3 H4=>@bndS
 (aUpdate prog H4 155 v3x3 (.int .u8 2) (.int .i64 0)) ⟨fun _ H6=>@bndS (aUpdate prog H6 155 v3x3 (.int .u8 1) (.int .i64 1)) ⟨fun _ H8=>@bndS (aUpdate prog H8 155 v3x3 (.int .u8 3) (.int .i64 2)) ⟨fun _ H10
=>@bndS (aUpdate prog H10 155 v3x3 (.int .u8 0) (.int .i64 3)) ⟨fun _ H12=>@bnd (aFieldAddr prog H12 37 v1x1 0) ⟨fun v5x13=>@bnd (aLoad prog H12 5 v5x13) ⟨fun v6x14=>@bnd (aLookup prog H12 155 v3x3
 v6x14 false) ⟨fun v7x15=>k v7x15 H12⟩⟩⟩⟩⟩⟩⟩⟩⟩):=by kernel_rfl
-- tocsin/expr.plain
theorem d76 (a0:Value) (H:AHeap) (k:Value→AHeap→Prop):kbody prog Tryz.f76 [a0] H k=(@bndE (aNew H 37 a0) ⟨fun c H2=>@bnd (aFieldAddr prog H2 37 c 1) ⟨fun N=>@bnd (aLoad prog H2 5 N)
 ⟨fun O=>@bnd (convV prog H2 5 3 O) ⟨fun P=>@bndD false H2 ⟨fun m H7=>ACalls prog 71 [] H2 m H7⟩ ⟨fun m H7=>@bnd (aLen prog H7 42 m) ⟨fun Q=>@bnd (aBin2 prog H7 .lss 3 (.tmp
 5) (.tmp 7) P Q) ⟨fun l=>@bnd (gif l true (aFieldAddr prog H7 37 c 2) undef) ⟨fun n=>@bnd (gif l true (aLoad prog H7 35 n) undef) ⟨fun o=>@bndD true H7 ⟨fun d H13=>gifp
 l true (ACalls prog 115 [o] H7 d H13) (d=undef∧H13=H7)⟩ ⟨fun d H13=>@bnd (pickV l d (.bool false)) ⟨fun e=>@bnd (gif e true (aFieldAddr prog H13 37 c 3) undef)
 ⟨fun p=>@bnd (gif e true (aLoad prog H13 3 p) undef) ⟨fun q=>@bnd (gif e true (aBin2 prog H13 .geq 3 (.tmp 16) (.const (.int .i64 1)) q (.int .i64 1)) undef) ⟨fun r=>@bnd
 (pickV e r (.bool false)) ⟨fun f=>@bnd (gif f true (aFieldAddr prog H13 37 c 3) undef) ⟨fun s=>@bnd (gif f true (aLoad prog H13 3 s) undef) ⟨fun t=>@bnd (gif f
 true (aBin2 prog H13 .leq 3 (.tmp 21) (.const (.int .i64 1000)) t (.int .i64 1000)) undef) ⟨fun u=>@bnd (pickV f u (.bool false)) ⟨fun a=>@bnd (gif a true (aFieldAddr prog H13 37 c
 4) undef) ⟨fun v=>@bnd (gif a true (aLoad prog H13 5 v) undef) ⟨fun w=>@bnd (gif a true (convV prog H13 5 3 w) undef) ⟨fun x=>@bndD false H13 ⟨fun g H27=>gifp a
 true (ACalls prog 73 [] H13 g H27) (g=undef∧H27=H13)⟩ ⟨fun g H27=>@bnd (gif a true (aLen prog H27 42 g) undef) ⟨fun y=>@bnd (gif a true (aBin2 prog H27 .lss 3 (.tmp
 27) (.tmp 29) x y) undef) ⟨fun z=>@bnd (pickV a z (.bool false)) ⟨fun b=>@bnd (gif b true (aFieldAddr prog H27 37 c 5) undef) ⟨fun A=>@bnd (gif b true (aLoad prog
 H27 2 A) undef) ⟨fun B=>@bndD false H27 ⟨fun h H34=>gifp b true (ACalls prog 112 [B] H27 h H34) (h=undef∧H34=H27)⟩ ⟨fun h H34=>@bnd (gif b true (aFieldAddr prog
 H27 37 c 5) undef) ⟨fun C=>@bnd (gif b true (aLoad prog H27 2 C) undef) ⟨fun D=>@bnd (gif b true (aBin2 prog H34 .eql 2 (.tmp 35) (.tmp 37) h D) undef) ⟨fun E=>@bnd
 (pickV b E (.bool false)) ⟨fun i=>@bnd (gif i true (aFieldAddr prog H34 37 c 6) undef) ⟨fun F=>@bnd (gif i true (aLoad prog H34 3 F) undef) ⟨fun G=>@bnd (gif i
 true (aBin2 prog H34 .eql 3 (.tmp 42) (.const (.int .i64 0)) G (.int .i64 0)) undef) ⟨fun I=>@bnd (pickV i I (.bool false)) ⟨fun j=>@bnd (gif j true (aFieldAddr prog H34 37 c 7)
 undef) ⟨fun J=>@bnd (gif j true (aLoad prog H34 3 J) undef) ⟨fun K=>@bnd (gif j true (aBin2 prog H34 .eql 3 (.tmp 47) (.const (.int .i64 0)) K (.int .i64 0)) undef) ⟨fun L =>
 @bnd (pickV j L (.bool false)) ⟨fun M=>k M H34⟩⟩⟩⟩⟩⟩⟩⟩⟩⟩⟩⟩⟩⟩⟩⟩⟩⟩⟩⟩⟩⟩⟩⟩⟩⟩⟩⟩⟩⟩⟩⟩⟩⟩⟩⟩⟩⟩⟩⟩⟩):=by kernel_rfl
-- tocsin/expr.void
theorem d77 (a0:Value) (H:AHeap) (k:Value→AHeap→Prop):kbody prog Tryz.f77 [a0] H k=(@bndE (aNew H 37 a0) ⟨fun d H2=>@bnd (aFieldAddr prog H2 37 d 1) ⟨fun r=>@bnd (aLoad prog H2 5 r)
 ⟨fun s=>@bnd (aBin2 prog H2 .eql 5 (.tmp 4) (.const (.int .u8 0)) s (.int .u8 0)) ⟨fun e=>@bnd (gif e true (aFieldAddr prog H2 37 d 2) undef) ⟨fun t=>@bnd (gif e true (aLoad prog H2 35
 t) undef) ⟨fun u=>@bnd (gif e true (aLen prog H2 35 u) undef) ⟨fun v=>@bnd (gif e true (aBin2 prog H2 .eql 3 (.tmp 9) (.const (.int .i64 0)) v (.int .i64 0)) undef) ⟨fun q=>@bnd (pickV
 e q (.bool false)) ⟨fun a=>@bnd (gif a true (aFieldAddr prog H2 37 d 3) undef) ⟨fun f=>@bnd (gif a true (aLoad prog H2 3 f) undef) ⟨fun g=>@bnd (gif a true (aBin2
 prog H2 .eql 3 (.tmp 14) (.const (.int .i64 0)) g (.int .i64 0)) undef) ⟨fun h=>@bnd (pickV a h (.bool false)) ⟨fun b=>@bnd (gif b true (aFieldAddr prog H2 37 d 4) undef) ⟨fun
 i=>@bnd (gif b true (aLoad prog H2 5 i) undef) ⟨fun j=>@bnd (gif b true (aBin2 prog H2 .eql 5 (.tmp 19) (.const (.int .u8 0)) j (.int .u8 0)) undef) ⟨fun l=>@bnd (pickV b
 l (.bool false)) ⟨fun c=>@bnd (gif c true (aFieldAddr prog H2 37 d 5) undef) ⟨fun m=>@bnd (gif c true (aLoad prog H2 2 m) undef) ⟨fun n=>@bnd (gif c true (aBin2
 prog H2 .eql 2 (.tmp 24) (.const (.int .i64 0)) n (.int .i64 0)) undef) ⟨fun o=>@bnd (pickV c o (.bool false)) ⟨fun p=>k p H2⟩⟩⟩⟩⟩⟩⟩⟩⟩⟩⟩⟩⟩⟩⟩⟩⟩⟩⟩⟩⟩):=by kernel_rfl
-- (*strings.Builder).Grow
def S78x0 (k:Value→AHeap→Prop) (sl:List Value) (H:AHeap):Prop:=kseq prog (cr (cr (cb Tryz.f78))) (kfin prog Tryz.f78 k) .normal sl H
theorem d78 (a0 a1:Value) (H:AHeap) (k:Value→AHeap→Prop):kbody prog Tryz.f78 [a0,a1] H k=(@bndC prog 116 [a0] H ⟨fun v5x1 H2=>@bnd (aBin2 prog H2 .lss 3 (.tmp 6) (.const (.int .i64 0)) a1 (.int
 .i64 0)) ⟨fun v7x3=>@kifB v7x3 ⟨@bndE (none) ⟨fun _ H5=>S78x0  k [a0,a1,undef,undef,a0,v5x1,a1,v7x3,(.iface 9 (.string { data:=#[115,116,114,105,110,103,115,46,66,117,105,108,100,101,114,46,71,
 114,111,119,58,32,110,101,103,97,116,105,118,101,32,99,111,117,110,116] })),undef,undef,undef,undef,undef,undef,undef,undef,undef,undef,undef,undef,undef,undef,undef,undef] H5⟩⟩ ⟨S78x0  k [a0,
 a1,undef,undef,a0,v5x1,a1,v7x3,undef,undef,undef,undef,undef,undef,undef,undef,undef,undef,undef,undef,undef,undef,undef,undef,undef] H2⟩⟩⟩):=by kernel_rfl
theorem S78x0q (h m C D E F G I J K n o p q r s t u v w x y z A B:Value) (H:AHeap) (k:Value→AHeap→Prop):S78x0 k [h,m,C,D,E,F,G,I,J,K,n,o,p,q,r,
 s,t,u,v,w,x,y,z,A,B] H=(@bnd (nilV h) ⟨fun i=>@bnd (aFieldAddr prog H 116 i 1) ⟨fun j=>@bnd (aLoad prog H 55 j) ⟨fun l=>@bndD false H ⟨fun a H10 =>
 aBuiltin prog H Builtin.cap #[55] [l]=some (a,H10)⟩ ⟨fun a H10=>@bnd (nilV h) ⟨fun b=>@bnd (aFieldAddr prog H 116 b 1) ⟨fun c=>@bnd (aLoad prog H 55 c) ⟨fun d =>
 @bnd (aLen prog H 55 d) ⟨fun e=>@bnd (aBin2 prog H10 .sub 3 (.tmp 13) (.tmp 18) a e) ⟨fun f=>@bnd (aBin2 prog H10 .lss 3 (.tmp 19) (.tmp 20) f m) ⟨fun g=>@kifB g
 ⟨@bndC prog 117 [h,m] H10 ⟨fun _ H18=>k (.tuple #[]) H18⟩⟩ ⟨k (.tuple #[]) H10⟩⟩⟩⟩⟩⟩⟩⟩⟩⟩⟩):=by kernel_rfl
-- (*strings.Builder).WriteString
theorem d79 (a0 a1:Value) (H:AHeap) (k:Value→AHeap→Prop):kbody prog Tryz.f79 [a0,a1] H k=(@bndC prog 116 [a0] H ⟨fun _ H2=>@bnd (nilV a0) ⟨fun b=>@bnd (aFieldAddr prog H2 116 b 1) ⟨fun
 c=>@bnd (aLoad prog H2 55 c) ⟨fun d=>@bndE (aBuiltin prog H2 Builtin.append #[55,9] [d,a1]) ⟨fun e H7=>@bnd (nilV a0) ⟨fun f=>@bnd (aFieldAddr prog H7 116 f 1) ⟨fun g =>
 @bndS (aStore prog H7 55 g e) ⟨fun _ H11=>@bnd (aLen prog H11 9 a1) ⟨fun a=>k (.tuple #[a,.nilIface]) H11⟩⟩⟩⟩⟩⟩⟩⟩⟩):=by kernel_rfl
-- (*strings.Builder).String
theorem d80 (a0:Value) (H:AHeap) (k:Value→AHeap→Prop):kbody prog Tryz.f80 [a0] H k=(@bnd (nilV a0) ⟨fun f=>@bnd (aFieldAddr prog H 116 f 1) ⟨fun g=>@bnd (aLoad prog H 55 g) ⟨fun h
=>@bndD false H ⟨fun b H5=>aBuiltin prog H Builtin.unsafeSliceData #[55] [h]=some (b,H5)⟩ ⟨fun b H5=>@bnd (nilV a0) ⟨fun i=>@bnd (aFieldAddr prog H 116 i 1) ⟨fun c=>@bnd (aLoad
 prog H 55 c) ⟨fun d=>@bnd (aLen prog H 55 d) ⟨fun e=>@bndD true H5 ⟨fun a H11=>aBuiltin prog H5 Builtin.unsafeString #[157,3] [b,e]=some (a,H11)⟩ ⟨fun a H11=>k
 a H11⟩⟩⟩⟩⟩⟩⟩⟩⟩):=by kernel_rfl
-- internal/strconv.Itoa
theorem d81 (a0:Value) (H:AHeap) (k:Value→AHeap→Prop):kbody prog Tryz.f81 [a0] H k=(@bndC prog 118 [a0,(.int .i64 10)] H ⟨fun v4x1 H2=>k v4x1 H2⟩):=by kernel_rfl
-- tocsin/crc.row
def L82x0 (n:Nat) (k:Value→AHeap→Prop) (sl:List Value) (H:AHeap):Prop:=kit prog (cl (cl (cr (cl (cr (cr (cb Tryz.f82))))))) n (kblk 0 (kseq prog (cr (cr (cr (cb Tryz.f82)))) (kfin prog Tryz.f82 k)))
 .normal sl H
def L82x1 (n:Nat) (n0:Nat) (k:Value→AHeap→Prop) (sl:List Value) (H:AHeap):Prop:=kit prog (cl (cl (cr (cl (cr (cr (cl (cl (cr (cr (cl (cl (cr (cl (cr (cr (cb Tryz.f82))))))))))))))))) n (kblk 2 (kseq
 prog (cr (cr (cr (cl (cl (cr (cr (cl (cl (cr (cl (cr (cr (cb Tryz.f82)))))))))))))) (kblk 1 (kseq prog (cr (cr (cr (cl (cl (cr (cl (cr (cr (cb Tryz.f82)))))))))) (kit prog (cl (cl (cr (cl (cr (cr (cb
 Tryz.f82))))))) n0 (kblk 0 (kseq prog (cr (cr (cr (cb Tryz.f82)))) (kfin prog Tryz.f82 k)))))))) .normal sl H
theorem d82 (H:AHeap) (k:Value→AHeap→Prop):kbody prog Tryz.f82 [] H k=(@bndE (aAlloc prog H 158) ⟨fun v1x1 H2=>∃ n,L82x0 n  k [(.pointer none),v1x1,undef,undef,(.int .i64 0),undef,undef,undef,
 undef,undef,undef,undef,undef,undef,undef,undef,undef,undef] H2⟩):=by kernel_rfl
theorem L82x0q (n0:Nat) (o m p q a r s t u v d e f g h i j l:Value) (H:AHeap) (k:Value→AHeap→Prop):L82x0 (n0+1) k [o,m,p,q,a,r,s,t,u,v,d,e,f,g,h,i,
 j,l] H=(@bnd (aBin2 prog H .lss 3 (.tmp 4) (.const (.int .i64 256)) a (.int .i64 256)) ⟨fun b=>@kifB b ⟨@bnd (convV prog H 3 50 a) ⟨fun c=>∃ n,L82x1 n n0 k [o,m,a,c,a,b,a,a,
 c,(.int .i64 0),d,e,f,g,h,i,j,l] H⟩⟩ ⟨k m H⟩⟩):=by kernel_rfl
theorem L82x1q (n1:Nat) (n0:Nat) (r h g f s t u v w i x j l m n o p q:Value) (H:AHeap) (k:Value→AHeap→Prop):L82x1 (n1+1) n0 k [r,h,g,f,s,t,u,v,w,i,x,j,l,
 m,n,o,p,q] H=(@bnd (aBin2 prog H .lss 3 (.tmp 9) (.const (.int .i64 8)) i (.int .i64 8)) ⟨fun a=>@kifB a ⟨@bndC prog 119 [f] H ⟨fun c H7=>@bnd (aBin2 prog H7 .add 3 (.tmp 9)
 (.const (.int .i64 1)) i (.int .i64 1)) ⟨fun d=>L82x1 n1 n0 k [r,h,g,c,s,t,u,v,w,d,a,f,c,d,n,o,p,q] H7⟩⟩⟩ ⟨@bnd (aIndexAddr prog H 158 h g) ⟨fun e=>@bndS
 (aStore prog H 50 e f) ⟨fun _ H11=>@bnd (aBin2 prog H11 .add 3 (.tmp 4) (.const (.int .i64 1)) s (.int .i64 1)) ⟨fun b=>L82x0 n0  k [r,h,g,f,b,t,u,v,w,i,a,j,l,m,g,
 f,e,b] H11⟩⟩⟩⟩⟩):=by kernel_rfl
-- tocsin/crc.on
def L83x0 (n:Nat) (k:Value→AHeap→Prop) (sl:List Value) (H:AHeap):Prop:=kit prog (cl (cl (cr (cl (cr (cb Tryz.f83)))))) n (kblk 0 (kseq prog (cr (cr (cb Tryz.f83))) (kfin prog Tryz.f83 k))) .normal
 sl H
theorem d83 (a0 a1 a2:Value) (H:AHeap) (k:Value→AHeap→Prop):kbody prog Tryz.f83 [a0,a1,a2] H k=(@bnd (aLen prog H 55 a2) ⟨fun v10x1=>∃ n,L83x0 n  k [a0,a1,a2,undef,undef,undef,(.int .u32 0),
 undef,undef,a2,v10x1,(.int .i64 0),undef,undef,undef,undef,undef,undef,undef,undef,undef,undef,undef,undef,undef,undef,undef,undef] H⟩):=by kernel_rfl
theorem L83x0q (n0:Nat) (n p s t u v w x O r o e y z A B C D E F G I J K L M N q:Value) (H:AHeap) (k:Value→AHeap→Prop):L83x0 (n0+1) k [n,p,s,t,u,v,w,x,
 O,r,o,e,y,z,A,B,C,D,E,F,G,I,J,K,L,M,N,q] H=(@bnd (aBin2 prog H .lss 3 (.tmp 11) (.tmp 10) e o) ⟨fun f=>@kifB f ⟨@bnd (aIndexAddr prog H 55 r
 e) ⟨fun g=>@bnd (aLoad prog H 5 g) ⟨fun a=>@bnd (convV prog H 50 5 n) ⟨fun h=>@bnd (aBin2 prog H .xor 5 (.tmp 17) (.tmp 18) h a) ⟨fun i=>@bnd (nilV p) ⟨fun j=>@bnd
 (aIndexAddr prog H 158 j i) ⟨fun l=>@bnd (aLoad prog H 50 l) ⟨fun m=>@bnd (aBin2 prog H .shr 50 (.tmp 23) (.const (.int .u64 8)) n (.int .u64 8)) ⟨fun b=>@bnd (aBin2 prog H
 .xor 50 (.tmp 22) (.tmp 24) m b) ⟨fun c=>@bnd (aBin2 prog H .add 3 (.tmp 11) (.const (.int .i64 1)) e (.int .i64 1)) ⟨fun d=>L83x0 n0  k [c,p,s,t,u,v,w,x,a,r,o,d,
 f,g,a,p,n,h,a,i,j,l,m,n,b,c,d,q] H⟩⟩⟩⟩⟩⟩⟩⟩⟩⟩⟩ ⟨k n H⟩⟩):=by kernel_rfl
-- strings.IndexByte
theorem d96 (a0 a1:Value) (H:AHeap) (k:Value→AHeap→Prop):kbody prog Tryz.f96 [a0,a1] H k=(@bndC prog 124 [a0,a1] H ⟨fun v7x1 H2=>k v7x1 H2⟩):=by kernel_rfl
-- tocsin/lex.run
def L97x0 (n:Nat) (k:Value→AHeap→Prop) (sl:List Value) (H:AHeap):Prop:=kit prog (cl (cl (cl (cr (cr (cb Tryz.f97)))))) n (kblk 0 (kseq prog (cr (cr (cr (cb Tryz.f97)))) (kfin prog Tryz.f97 k)))
 .normal sl H
theorem d97 (a0 a1 a2:Value) (H:AHeap) (k:Value→AHeap→Prop):kbody prog Tryz.f97 [a0,a1,a2] H k=(∃ n,L97x0 n  k [a0,a1,a2,undef,undef,undef,(.int .i64 0),(.int .i64 0),undef,undef,undef,undef,
 undef,undef,undef,undef,undef,undef,undef,undef,undef,undef,undef,undef,undef,undef] H):=by kernel_rfl
theorem L97x0q (n0:Nat) (o p r s t u v e M N w x y z A B C D E F G I J K L q:Value) (H:AHeap) (k:Value→AHeap→Prop):L97x0 (n0+1) k [o,p,r,s,t,u,v,e,M,N,
 w,x,y,z,A,B,C,D,E,F,G,I,J,K,L,q] H=(@bnd (aBin2 prog H .add 3 (.tmp 8) (.tmp 9) p e) ⟨fun f=>@bnd (aLen prog H 9 o) ⟨fun g=>@bnd (aBin2 prog H .lss
 3 (.tmp 10) (.tmp 12) f g) ⟨fun a=>@bnd (gif a true ((some r)) undef) ⟨fun h=>@bnd (gif a true ((some o)) undef) ⟨fun i=>@bnd (gif a true ((some p)) undef) ⟨fun j=>@bnd (gif a
 true ((some e)) undef) ⟨fun l=>@bnd (gif a true (aBin2 prog H .add 3 (.tmp 17) (.tmp 18) j l) undef) ⟨fun m=>@bnd (gif a true (aIndex prog 9 i m) undef) ⟨fun n=>@bndG a
 true H ⟨fun b H11=>callV prog h [n] H b H11⟩ ⟨fun b H11=>@bnd (pickV a b (.bool false)) ⟨fun c=>@kifB c ⟨@bnd (aBin2 prog H11 .add 3 (.tmp 23) (.const (.int .i64 1)) e
 (.int .i64 1)) ⟨fun d=>L97x0 n0  k [o,p,r,s,t,u,v,d,p,e,f,o,g,a,a,h,i,j,l,m,n,b,c,e,d,q] H11⟩⟩ ⟨k e H11⟩⟩⟩⟩⟩⟩⟩⟩⟩⟩⟩⟩) :=
 by kernel_rfl
-- tocsin/lex.skip$1
theorem d98 (a0:Value) (H:AHeap) (k:Value→AHeap→Prop):kbody prog Tryz.f98 [a0] H k=(@bnd (aBin2 prog H .neq 5 (.tmp 3) (.const (.int .u8 10)) a0 (.int .u8 10)) ⟨fun v4x1=>k v4x1 H⟩):=by kernel_rfl
-- tocsin/lex.letter
theorem d99 (a0:Value) (H:AHeap) (k:Value→AHeap→Prop):kbody prog Tryz.f99 [a0] H k=(@bnd (aBin2 prog H .geq 5 (.tmp 3) (.const (.int .u8 97)) a0 (.int .u8 97)) ⟨fun v4x1=>@bnd (gif v4x1 true ((some a0))
 undef) ⟨fun v6x2=>@bnd (gif v4x1 true (aBin2 prog H .leq 5 (.tmp 6) (.const (.int .u8 122)) v6x2 (.int .u8 122)) undef) ⟨fun v7x3=>@bnd (pickV v4x1 v7x3 (.bool false)) ⟨fun v8x4=>k v8x4 H⟩⟩⟩⟩):=by kernel_rfl
-- tocsin/lex.mark
theorem d100 (a0:Value) (H:AHeap) (k:Value→AHeap→Prop):kbody prog Tryz.f100 [a0] H k=(@bndC prog 99 [a0] H ⟨fun a H2=>@bnd (gif a false ((some a0)) undef) ⟨fun g=>@bndG a false H2 ⟨fun b
 H5=>ACalls prog 101 [g] H2 b H5⟩ ⟨fun b H5=>@bnd (pickV a (.bool true) b) ⟨fun c=>@bnd (gif c false ((some a0)) undef) ⟨fun d=>@bnd (gif c false (aBin2 prog H5 .eql 5 (.tmp 10)
 (.const (.int .u8 95)) d (.int .u8 95)) undef) ⟨fun e=>@bnd (pickV c (.bool true) e) ⟨fun f=>k f H5⟩⟩⟩⟩⟩⟩⟩):=by kernel_rfl
-- tocsin/lex.digit
theorem d101 (a0:Value) (H:AHeap) (k:Value→AHeap→Prop):kbody prog Tryz.f101 [a0] H k=(@bnd (aBin2 prog H .geq 5 (.tmp 3) (.const (.int .u8 48)) a0 (.int .u8 48)) ⟨fun v4x1=>@bnd (gif v4x1 true ((some
 a0)) undef) ⟨fun v6x2=>@bnd (gif v4x1 true (aBin2 prog H .leq 5 (.tmp 6) (.const (.int .u8 57)) v6x2 (.int .u8 57)) undef) ⟨fun v7x3=>@bnd (pickV v4x1 v7x3 (.bool false)) ⟨fun v8x4=>k v8x4 H⟩⟩⟩⟩):=by kernel_rfl
-- tocsin/lex.text
def L102x0 (n:Nat) (k:Value→AHeap→Prop) (sl:List Value) (H:AHeap):Prop:=kit prog (cl (cl (cr (cl (cr (cr (cb Tryz.f102))))))) n (kblk 0 (kseq prog (cr (cr (cr (cb Tryz.f102)))) (kfin prog Tryz.f102
 k))) .normal sl H
def S102x0 (n0:Nat) (k:Value→AHeap→Prop) (sl:List Value) (H:AHeap):Prop:=kseq prog (cr (cl (cl (cr (cl (cl (cr (cl (cr (cr (cb Tryz.f102))))))))))) (kblk 1 (kseq prog (cr (cr (cl (cl (cr (cl (cr (cr (cb
 Tryz.f102))))))))) (kit prog (cl (cl (cr (cl (cr (cr (cb Tryz.f102))))))) n0 (kblk 0 (kseq prog (cr (cr (cr (cb Tryz.f102)))) (kfin prog Tryz.f102 k)))))) .normal sl H
theorem d102 (a0 a1:Value) (H:AHeap) (k:Value→AHeap→Prop):kbody prog Tryz.f102 [a0,a1] H k=(@bndE (aAlloc prog H 116) ⟨fun v6x1 H2=>@bnd (aBin2 prog H2 .add 3 (.tmp 8) (.const (.int .i64 1)) a1
 (.int .i64 1)) ⟨fun v9x3=>∃ n,L102x0 n  k [a0,a1,undef,undef,(.string { data:=#[] }),(.int .i64 0),v6x1,v9x3,a1,v9x3,undef,undef,undef,undef,undef,undef,undef,undef,undef,undef,undef,undef,undef,
 undef,undef,undef,undef,undef,undef,undef,undef,undef,undef,undef,undef,undef,undef,undef,undef,undef,undef,undef,undef,undef,undef,undef,undef,undef,undef,undef,undef,undef,undef,undef,undef,
 undef,undef,undef,undef,undef,undef,undef,undef,undef,undef,undef,undef,undef,undef,undef,undef,undef,undef,undef,undef] H2⟩⟩):=by kernel_rfl
theorem L102x0q (n0:Nat) (g s1 s2 s3 s4 s5 s6 f s8 s9 al am an ao ap aq ar au av aw ax ay az aA aB aC Q R aD aE aF aG aH S T U V W aI aJ aK aL aM aN aO aP aQ aR aS aT aU aV aW
 aX aY aZ a0 a1 a2 a3 a4 a5 a6 a7 ae af ag ah ai aj ak X Y Z aa:Value) (H:AHeap) (k:Value→AHeap→Prop):L102x0 (n0+1) k [g,s1,s2,s3,s4,s5,s6,f,s8,s9,al,am,an,ao,ap,aq,
 ar,au,av,aw,ax,ay,az,aA,aB,aC,Q,R,aD,aE,aF,aG,aH,S,T,U,V,W,aI,aJ,aK,aL,aM,aN,aO,aP,aQ,aR,aS,aT,aU,aV,aW,aX,aY,aZ,a0,a1,a2,a3,a4,
 a5,a6,a7,ae,af,ag,ah,ai,aj,ak,X,Y,Z,aa] H=(@bnd (aLen prog H 9 g) ⟨fun J=>@bnd (aBin2 prog H .lss 3 (.tmp 10) (.tmp 12) f J) ⟨fun e=>@bnd (gif e true ((some g))
 undef) ⟨fun K=>@bnd (gif e true ((some f)) undef) ⟨fun L=>@bnd (gif e true (aIndex prog 9 K L) undef) ⟨fun M=>@bnd (gif e true (aBin2 prog H .geq 5 (.tmp 17) (.const (.int .u8
 32)) M (.int .u8 32)) undef) ⟨fun N=>@bnd (pickV e N (.bool false)) ⟨fun c=>@bnd (gif c true ((some g)) undef) ⟨fun j=>@bnd (gif c true ((some f)) undef) ⟨fun l=>@bnd (gif
 c true (aIndex prog 9 j l) undef) ⟨fun m=>@bnd (gif c true (aBin2 prog H .leq 5 (.tmp 23) (.const (.int .u8 126)) m (.int .u8 126)) undef) ⟨fun n=>@bnd (pickV c n
 (.bool false)) ⟨fun o=>@kifB o ⟨@bnd (aIndex prog 9 g f) ⟨fun p=>@bnd (aBin2 prog H .eql 5 (.tmp 31) (.const (.int .u8 34)) p (.int .u8 34)) ⟨fun h=>@kifB h ⟨@bndC prog 80
 [s6] H ⟨fun ab H19=>@bnd (aBin2 prog H19 .add 3 (.tmp 34) (.const (.int .i64 1)) f (.int .i64 1)) ⟨fun ac=>@bnd (aBin2 prog H19 .sub 3 (.tmp 35) (.tmp 36) ac s1) ⟨fun ad=>k (.tuple #[ab,
 ad]) H19⟩⟩⟩⟩ ⟨@bnd (aIndex prog 9 g f) ⟨fun q=>@bnd (aBin2 prog H .eql 5 (.tmp 41) (.const (.int .u8 92)) q (.int .u8 92)) ⟨fun b=>@bnd (gif b true ((some f)) undef) ⟨fun r=>@bnd
 (gif b true (aBin2 prog H .add 3 (.tmp 44) (.const (.int .i64 1)) r (.int .i64 1)) undef) ⟨fun s=>@bnd (gif b true ((some g)) undef) ⟨fun t=>@bnd (gif b true (aLen prog H 9 t)
 undef) ⟨fun u=>@bnd (gif b true (aBin2 prog H .lss 3 (.tmp 45) (.tmp 47) s u) undef) ⟨fun v=>@bnd (pickV b v (.bool false)) ⟨fun a=>@bnd (gif a true ((some g)) undef)
 ⟨fun w=>@bnd (gif a true ((some f)) undef) ⟨fun x=>@bnd (gif a true (aBin2 prog H .add 3 (.tmp 52) (.const (.int .i64 1)) x (.int .i64 1)) undef) ⟨fun y=>@bnd (gif a true (aIndex
 prog 9 w y) undef) ⟨fun z=>@bnd (gif a true (aBin2 prog H .eql 5 (.tmp 54) (.const (.int .u8 34)) z (.int .u8 34)) undef) ⟨fun A=>@bnd (gif a true ((some A)) undef) ⟨fun
 d=>@bnd (gif d false ((some g)) undef) ⟨fun B=>@bnd (gif d false ((some f)) undef) ⟨fun C=>@bnd (gif d false (aBin2 prog H .add 3 (.tmp 58) (.const (.int .i64 1)) C (.int .i64 1))
 undef) ⟨fun D=>@bnd (gif d false (aIndex prog 9 B D) undef) ⟨fun E=>@bnd (gif d false (aBin2 prog H .eql 5 (.tmp 60) (.const (.int .u8 92)) E (.int .u8 92)) undef) ⟨fun F =>
 @bnd (gif a true (pickV d (.bool true) F) undef) ⟨fun G=>@bnd (pickV a G (.bool false)) ⟨fun i=>@kifB i ⟨@bnd (aBin2 prog H .add 3 (.tmp 64) (.const (.int .i64 1)) f (.int .i64
 1)) ⟨fun O=>S102x0 n0 k [g,s1,s2,s3,s4,s5,s6,O,s8,s9,f,g,J,e,e,K,L,M,N,c,c,j,l,m,n,o,Q,R,h,g,f,p,
 h,S,T,U,V,W,i,g,f,q,b,b,r,s,t,u,v,a,a,w,x,y,z,A,d,B,C,D,E,F,G,
 i,f,O,ag,ah,ai,aj,ak,X,Y,Z,aa] H⟩⟩ ⟨@bnd (aIndex prog 9 g f) ⟨fun P=>@bnd (aBin2 prog H .eql 5 (.tmp 69) (.const (.int .u8 92)) P (.int .u8 92)) ⟨fun I=>@kifB
 I ⟨k (.tuple #[(.string { data:=#[] }),(.int .i64 0)]) H⟩ ⟨S102x0 n0 k [g,s1,s2,s3,s4,s5,s6,f,s8,s9,f,g,J,e,e,K,L,M,N,c,c,j,l,m,n,
 o,Q,R,h,g,f,p,h,S,T,U,V,W,i,g,f,q,b,b,r,s,t,u,v,a,a,w,x,y,z,A,d,B,
 C,D,E,F,G,i,ae,af,I,g,f,P,I,X,Y,Z,aa] H⟩⟩⟩⟩⟩⟩⟩⟩⟩⟩⟩⟩⟩⟩⟩⟩⟩⟩⟩⟩⟩⟩⟩⟩⟩⟩⟩⟩⟩ ⟨k (.tuple #[(.string { data:=#[] }),(.int .i64 0)]) H⟩⟩⟩⟩⟩⟩⟩⟩⟩⟩⟩⟩⟩):=by
 kernel_rfl
theorem S102x0q (n0:Nat) (e s1 s2 s3 s4 s5 s6 c s8 s9 f g h i j l m n o p q r s t u v ao ap w x y z A B C D E F G I J K L M N O P Q R S T U V
 W X Y Z aa ab ac ad ae af ag ah ai aj ak al am an aq ar au av:Value) (H:AHeap) (k:Value→AHeap→Prop):S102x0 n0 k [e,s1,s2,s3,s4,s5,s6,c,s8,s9,f,g,h,i,j,l,m,
 n,o,p,q,r,s,t,u,v,ao,ap,w,x,y,z,A,B,C,D,E,F,G,I,J,K,L,M,N,O,P,Q,R,S,T,U,V,W,X,Y,Z,aa,ab,ac,ad,ae,
 af,ag,ah,ai,aj,ak,al,am,an,aq,ar,au,av] H=(@bnd (aIndex prog 9 e c) ⟨fun a=>@bndC prog 125 [s6,a] H ⟨fun d H48=>@bnd (aBin2 prog H48 .add 3 (.tmp 26) (.const (.int
 .i64 1)) c (.int .i64 1)) ⟨fun b=>L102x0 n0  k [e,s1,s2,s3,s4,s5,s6,b,s8,s9,f,g,h,i,j,l,m,n,o,p,q,r,s,t,u,v,c,b,w,x,y,z,A,B,C,
 D,E,F,G,I,J,K,L,M,N,O,P,Q,R,S,T,U,V,W,X,Y,Z,aa,ab,ac,ad,ae,af,ag,ah,ai,aj,ak,al,am,an,e,c,a,d] H48⟩⟩⟩):=by kernel_rfl
-- tocsin/lex.sign
theorem d103 (a0 a1:Value) (H:AHeap) (k:Value→AHeap→Prop):kbody prog Tryz.f103 [a0,a1] H k=(@bnd (aBin2 prog H .add 3 (.tmp 5) (.const (.int .i64 1)) a1 (.int .i64 1)) ⟨fun r=>@bnd (aLen prog H
 9 a0) ⟨fun s=>@bnd (aBin2 prog H .lss 3 (.tmp 6) (.tmp 8) r s) ⟨fun b=>@bnd (gif b true ((some a0)) undef) ⟨fun m=>@bnd (gif b true ((some a1)) undef) ⟨fun n=>@bnd (gif b true (aBin2
 prog H .add 3 (.tmp 12) (.const (.int .i64 1)) n (.int .i64 1)) undef) ⟨fun o=>@bnd (gif b true (aIndex prog 9 m o) undef) ⟨fun p=>@bnd (gif b true (aBin2 prog H .eql 5 (.tmp 14)
 (.const (.int .u8 61)) p (.int .u8 61)) undef) ⟨fun q=>@bnd (pickV b q (.bool false)) ⟨fun a=>@bnd (gif a true ((some a0)) undef) ⟨fun d=>@bnd (gif a true ((some a1)) undef) ⟨fun e =>
 @bnd (gif a true (aIndex prog 9 d e) undef) ⟨fun f=>@bndG a true H ⟨fun c H14=>ACalls prog 96 [(.string { data:=#[60,62,61,33,94] }),f] H c H14⟩ ⟨fun c H14=>@bnd
 (gif a true (aBin2 prog H14 .geq 3 (.tmp 21) (.const (.int .i64 0)) c (.int .i64 0)) undef) ⟨fun g=>@bnd (pickV a g (.bool false)) ⟨fun h=>@kifB h ⟨k (.int .i64 2) H14⟩ ⟨@bnd (aIndex
 prog 9 a0 a1) ⟨fun i=>@bndC prog 96 [(.string { data:=#[123,125,40,41,91,93,44,58,59,61,60,62,45] }),i] H14 ⟨fun j H19=>@bnd (aBin2 prog H19 .geq 3 (.tmp 27) (.const (.int .i64
 0)) j (.int .i64 0)) ⟨fun l=>@kifB l ⟨k (.int .i64 1) H19⟩ ⟨k (.int .i64 0) H19⟩⟩⟩⟩⟩⟩⟩⟩⟩⟩⟩⟩⟩⟩⟩⟩⟩⟩⟩⟩):=by kernel_rfl
-- (*tocsin/expr.reader).is
theorem d104 (a0 a1 a2:Value) (H:AHeap) (k:Value→AHeap→Prop):kbody prog Tryz.f104 [a0,a1,a2] H k=(@bnd (nilV a0) ⟨fun Q=>@bnd (aFieldAddr prog H 81 Q 2) ⟨fun R=>@bnd (aLoad prog H 4
 R) ⟨fun c=>@bnd (gif c true ((some a0)) undef) ⟨fun K=>@bnd (gif c true (nilV K) undef) ⟨fun L=>@bnd (gif c true (aFieldAddr prog H 81 L 1) undef) ⟨fun M=>@bnd (gif c true
 (aLoad prog H 3 M) undef) ⟨fun N=>@bnd (gif c true ((some a0)) undef) ⟨fun O=>@bnd (gif c true (nilV O) undef) ⟨fun P=>@bnd (gif c true (aFieldAddr prog H 81 P 0) undef) ⟨fun
 d=>@bnd (gif c true (aLoad prog H 23 d) undef) ⟨fun e=>@bnd (gif c true (aLen prog H 23 e) undef) ⟨fun f=>@bnd (gif c true (aBin2 prog H .lss 3 (.tmp 15) (.tmp 20) N
 f) undef) ⟨fun g=>@bnd (pickV c g (.bool false)) ⟨fun a=>@bnd (gif a true ((some a0)) undef) ⟨fun h=>@bnd (gif a true (nilV h) undef) ⟨fun i=>@bnd (gif a true
 (aFieldAddr prog H 81 i 0) undef) ⟨fun j=>@bnd (gif a true (aLoad prog H 23 j) undef) ⟨fun l=>@bnd (gif a true ((some a0)) undef) ⟨fun m=>@bnd (gif a true (nilV m)
 undef) ⟨fun n=>@bnd (gif a true (aFieldAddr prog H 81 n 1) undef) ⟨fun o=>@bnd (gif a true (aLoad prog H 3 o) undef) ⟨fun p=>@bnd (gif a true (aIndexAddr prog H 23
 l p) undef) ⟨fun q=>@bnd (gif a true (aFieldAddr prog H 70 q 0) undef) ⟨fun r=>@bnd (gif a true (aLoad prog H 5 r) undef) ⟨fun s=>@bnd (gif a true ((some a1))
 undef) ⟨fun t=>@bnd (gif a true (aBin2 prog H .eql 5 (.tmp 34) (.tmp 35) s t) undef) ⟨fun u=>@bnd (pickV a u (.bool false)) ⟨fun b=>@bnd (gif b true ((some a0)) undef)
 ⟨fun v=>@bnd (gif b true (nilV v) undef) ⟨fun w=>@bnd (gif b true (aFieldAddr prog H 81 w 0) undef) ⟨fun x=>@bnd (gif b true (aLoad prog H 23 x) undef) ⟨fun y =>
 @bnd (gif b true ((some a0)) undef) ⟨fun z=>@bnd (gif b true (nilV z) undef) ⟨fun A=>@bnd (gif b true (aFieldAddr prog H 81 A 1) undef) ⟨fun B=>@bnd (gif b true (aLoad
 prog H 3 B) undef) ⟨fun C=>@bnd (gif b true (aIndexAddr prog H 23 y C) undef) ⟨fun D=>@bnd (gif b true (aFieldAddr prog H 70 D 1) undef) ⟨fun E=>@bnd (gif b
 true (aLoad prog H 9 E) undef) ⟨fun F=>@bnd (gif b true ((some a2)) undef) ⟨fun G=>@bnd (gif b true (aBin2 prog H .eql 9 (.tmp 49) (.tmp 50) F G) undef) ⟨fun I=>@bnd
 (pickV b I (.bool false)) ⟨fun J=>k J H⟩⟩⟩⟩⟩⟩⟩⟩⟩⟩⟩⟩⟩⟩⟩⟩⟩⟩⟩⟩⟩⟩⟩⟩⟩⟩⟩⟩⟩⟩⟩⟩⟩⟩⟩⟩⟩⟩⟩⟩⟩⟩):=by kernel_rfl
end Go.Vi
namespace Go.Vi
open Go Go.Proofs Go.Proofs.Tryz
-- (*tocsin/expr.reader).one
theorem d105 (a0 a1 a2:Value) (H:AHeap) (k:Value→AHeap→Prop):kbody prog Tryz.f105 [a0,a1,a2] H k=(@bndC prog 126 [a2] H ⟨fun h H2=>@bndC prog 127 [a0,a1] H2 ⟨fun i H4=>@bnd (aLookup
 prog H4 163 h i true) ⟨fun b=>@bnd (tupV b 0) ⟨fun j=>@bnd (tupV b 1) ⟨fun l=>@bnd (nilV a0) ⟨fun m=>@bnd (aFieldAddr prog H4 81 m 2) ⟨fun n=>@bnd (aLoad prog H4
 4 n) ⟨fun a=>@bnd (gif a true ((some l)) undef) ⟨fun c=>@bnd (pickV a c (.bool false)) ⟨fun d=>@bnd (nilV a0) ⟨fun e=>@bnd (aFieldAddr prog H4 81 e 2) ⟨fun f =>
 @bndS (aStore prog H4 4 f d) ⟨fun _ H16=>@bnd (convV prog H16 3 5 j) ⟨fun g=>k g H16⟩⟩⟩⟩⟩⟩⟩⟩⟩⟩⟩⟩⟩⟩):=by kernel_rfl
-- (*tocsin/expr.reader).selects
def L106x0 (n:Nat) (k:Value→AHeap→Prop) (sl:List Value) (H:AHeap):Prop:=kit prog (cl (cl (cr (cl (cr (cr (cr (cr (cb Tryz.f106))))))))) n (kblk 0 (kseq prog (cr (cr (cr (cr (cr (cb Tryz.f106)))))) (kfin
 prog Tryz.f106 k))) .normal sl H
theorem d106 (a0:Value) (H:AHeap) (k:Value→AHeap→Prop):kbody prog Tryz.f106 [a0] H k=(@bndC prog 69 [a0,(.string { data:=#[123] })] H ⟨fun v6x1 H2=>@bndC prog 68 [a0,(.int .u8 4),(.string {
 data:=#[125] })] H2 ⟨fun v8x3 H4=>@kifB v8x3 ⟨k (.slice none 0 0) H4⟩ ⟨∃ n,L106x0 n  k [a0,undef,(.slice none 0 0),(.slice none 0 0),(.bool true),a0,v6x1,a0,v8x3,undef,undef,undef,undef,undef,undef,undef,
 undef,undef,undef,undef,undef,undef,undef,undef,undef,undef,undef,undef,undef,undef,undef,undef,undef,undef,undef,undef,undef,undef,undef,undef,undef,undef,undef] H4⟩⟩⟩):=by kernel_rfl
theorem L106x0q (n0:Nat) (a O P s d Q R S T s9 U V W X Y Z aa ab ac ad ae af ag ah ai aj ak al am z A B C D E F G I J K L M N:Value) (H:AHeap) (k:Value→AHeap
→Prop):L106x0 (n0+1) k [a,O,P,s,d,Q,R,S,T,s9,U,V,W,X,Y,Z,aa,ab,ac,ad,ae,af,ag,ah,ai,aj,ak,al,am,z,A,B,C,D,E,F,G,I,J,K,L,
 M,N] H=(@bnd (gif d true ((some a)) undef) ⟨fun n=>@bnd (gif d true (nilV n) undef) ⟨fun o=>@bnd (gif d true (aFieldAddr prog H 81 o 2) undef) ⟨fun p=>@bnd (gif d true (aLoad prog
 H 4 p) undef) ⟨fun q=>@bnd (pickV d q (.bool false)) ⟨fun r=>@kifB r ⟨@bndC prog 127 [a,(.int .u8 1)] H ⟨fun e H11=>@bndC prog 128 [] H11 ⟨fun f H13=>@bndC prog 105 [a,
 (.int .u8 4),f] H13 ⟨fun g H15=>@bndC prog 127 [a,(.int .u8 3)] H15 ⟨fun h H17=>@bnd (buildV prog 75 [(0,e),(1,g),(2,h)]) ⟨fun i=>@bndL prog H17 35 1 [(0,i)]
 ⟨fun j H20=>@bndE (aBuiltin prog H20 Builtin.append #[35,35] [s,j]) ⟨fun l H22=>@bndC prog 68 [a,(.int .u8 4),(.string { data:=#[44] })] H22 ⟨fun m H24=>L106x0 n0  k [a,O,P,
 l,m,Q,R,S,T,d,d,n,o,p,q,r,a,m,s,a,e,a,f,g,a,h,i,j,l,z,A,B,C,D,E,F,G,I,J,K,L,M,
 N] H24⟩⟩⟩⟩⟩⟩⟩⟩⟩ ⟨@bndC prog 69 [a,(.string { data:=#[125] })] H ⟨fun _ H26=>@bnd (nilV a) ⟨fun t=>@bnd (aFieldAddr prog H26 81 t 2) ⟨fun u=>@bnd (aLoad prog H26 4 u) ⟨fun b
=>@bnd (gif b true ((some s)) undef) ⟨fun v=>@bndG b true H26 ⟨fun c H32=>ACalls prog 115 [v] H26 c H32⟩ ⟨fun c H32=>@bnd (pickV b c (.bool false)) ⟨fun w=>@bnd
 (nilV a) ⟨fun x=>@bnd (aFieldAddr prog H32 81 x 2) ⟨fun y=>@bndS (aStore prog H32 4 y w) ⟨fun _ H37=>k s H37⟩⟩⟩⟩⟩⟩⟩⟩⟩⟩⟩⟩⟩⟩⟩⟩):=by kernel_rfl
-- (*tocsin/expr.reader).window
theorem d107 (a0:Value) (H:AHeap) (k:Value→AHeap→Prop):kbody prog Tryz.f107 [a0] H k=(@bndC prog 127 [a0,(.int .u8 2)] H ⟨fun s H2=>@bndC prog 129 [s] H2 ⟨fun e H4=>@bnd (tupV e 0)
 ⟨fun d=>@bnd (tupV e 1) ⟨fun p=>@bnd (nilV a0) ⟨fun q=>@bnd (aFieldAddr prog H4 81 q 2) ⟨fun r=>@bnd (aLoad prog H4 4 r) ⟨fun c=>@bnd (gif c true ((some p)) undef) ⟨fun
 f=>@bnd (gif c true (aBin2 prog H4 .eql 118 (.tmp 17) (.const .nilIface) f .nilIface) undef) ⟨fun g=>@bnd (pickV c g (.bool false)) ⟨fun a=>@bnd (gif a true ((some d)) undef)
 ⟨fun h=>@bnd (gif a true (aBin2 prog H4 .geq 3 (.tmp 21) (.const (.int .i64 1)) h (.int .i64 1)) undef) ⟨fun i=>@bnd (pickV a i (.bool false)) ⟨fun b=>@bnd (gif b true ((some
 d)) undef) ⟨fun j=>@bnd (gif b true (aBin2 prog H4 .leq 3 (.tmp 25) (.const (.int .i64 1000)) j (.int .i64 1000)) undef) ⟨fun l=>@bnd (pickV b l (.bool false)) ⟨fun m=>@bnd (nilV
 a0) ⟨fun n=>@bnd (aFieldAddr prog H4 81 n 2) ⟨fun o=>@bndS (aStore prog H4 4 o m) ⟨fun _ H22=>k d H22⟩⟩⟩⟩⟩⟩⟩⟩⟩⟩⟩⟩⟩⟩⟩⟩⟩⟩⟩):=by kernel_rfl
-- (*tocsin/expr.reader).value
def S108x0 (k:Value→AHeap→Prop) (sl:List Value) (H:AHeap):Prop:=kseq prog (cr (cr (cr (cb Tryz.f108)))) (kfin prog Tryz.f108 k) .normal sl H
theorem d108 (a0:Value) (H:AHeap) (k:Value→AHeap→Prop):kbody prog Tryz.f108 [a0] H k=(@bndC prog 68 [a0,(.int .u8 4),(.string { data:=#[45] })] H ⟨fun v7x1 H2=>@kifB v7x1 ⟨S108x0  k [a0,undef,(.int
 .i64 0),(.string { data:=#[45] }),undef,undef,a0,v7x1,undef,undef,undef,undef,undef,undef,undef,undef,undef,undef,undef,undef,undef,undef,undef,undef,undef,undef,undef,undef] H2⟩ ⟨S108x0  k [a0,
 undef,(.int .i64 0),(.string { data:=#[] }),undef,undef,a0,v7x1,undef,undef,undef,undef,undef,undef,undef,undef,undef,undef,undef,undef,undef,undef,undef,undef,undef,undef,undef,undef] H2⟩⟩):=by
 kernel_rfl
theorem S108x0q (j J K p L M N O P Q q r s t u v w x y z A B C D E F G I:Value) (H:AHeap) (k:Value→AHeap→Prop):S108x0 k [j,J,K,p,L,M,N,O,P,Q,q,r,
 s,t,u,v,w,x,y,z,A,B,C,D,E,F,G,I] H=(@bndC prog 127 [j,(.int .u8 2)] H ⟨fun l H4=>@bnd (aBin2 prog H4 .add 9 (.tmp 9) (.tmp 11) p l) ⟨fun m=>@bndC
 prog 130 [m] H4 ⟨fun b H7=>@bnd (tupV b 0) ⟨fun n=>@bnd (tupV b 1) ⟨fun o=>@bnd (nilV j) ⟨fun c=>@bnd (aFieldAddr prog H7 81 c 2) ⟨fun d=>@bnd (aLoad prog H7 4
 d) ⟨fun a=>@bnd (gif a true ((some o)) undef) ⟨fun e=>@bnd (gif a true (aBin2 prog H7 .eql 24 (.tmp 22) (.const (.int .i64 0)) e (.int .i64 0)) undef) ⟨fun f=>@bnd (pickV a
 f (.bool false)) ⟨fun g=>@bnd (nilV j) ⟨fun h=>@bnd (aFieldAddr prog H7 81 h 2) ⟨fun i=>@bndS (aStore prog H7 4 i g) ⟨fun _ H19=>k n H19⟩⟩⟩⟩⟩⟩⟩⟩⟩⟩⟩⟩⟩⟩):=by kernel_rfl
-- tocsin/match.ops
theorem d109 (H:AHeap) (k:Value→AHeap→Prop):kbody prog Tryz.f109 [] H k=(@bndE (some (Value.map (some H.length),H++[AObj.map []])) ⟨fun v1x1 H2=>@bnd (buildV prog 150 [(0,(.string { data:=#[61] })),
 (1,(.func (.func 131) #[] #[]))]) ⟨fun v2x3=>@bndS (aUpdate prog H2 146 v1x1 (.int .u8 0) v2x3) ⟨fun _ H5=>@bnd (buildV prog 150 [(0,(.string { data:=#[33,61] })),(1,(.func (.func 132) #[] #[]))]) ⟨fun v3x6
=>@bndS (aUpdate prog H5 146 v1x1 (.int .u8 1) v3x6) ⟨fun _ H8=>@bnd (buildV prog 150 [(0,(.string { data:=#[94,61] })),(1,(.func (.func 133) #[] #[]))]) ⟨fun v4x9=>@bndS (aUpdate prog H8 146 v1x1
 (.int .u8 2) v4x9) ⟨fun _ H11=>k v1x1 H11⟩⟩⟩⟩⟩⟩⟩):=by kernel_rfl
-- tocsin/match.joined
theorem d110 (a0:Value) (H:AHeap) (k:Value→AHeap→Prop):kbody prog Tryz.f110 [a0] H k=(@bndC prog 46 [a0,(.string { data:=#[] })] H ⟨fun v4x1 H2=>k v4x1 H2⟩):=by kernel_rfl
-- tocsin/labels.Quote
def L111x0 (n:Nat) (k:Value→AHeap→Prop) (sl:List Value) (H:AHeap):Prop:=kit prog (cl (cl (cr (cl (cr (cr (cr (cb Tryz.f111)))))))) n (kblk 0 (kseq prog (cr (cr (cr (cr (cb Tryz.f111))))) (kfin prog
 Tryz.f111 k))) .normal sl H
def S111x0 (n0:Nat) (k:Value→AHeap→Prop) (sl:List Value) (H:AHeap):Prop:=kseq prog (cr (cr (cl (cl (cr (cr (cl (cl (cr (cl (cr (cr (cr (cb Tryz.f111)))))))))))))) (kblk 1 (kseq prog (cr (cr (cr (cl (cl
 (cr (cl (cr (cr (cr (cb Tryz.f111))))))))))) (kit prog (cl (cl (cr (cl (cr (cr (cr (cb Tryz.f111)))))))) n0 (kblk 0 (kseq prog (cr (cr (cr (cr (cb Tryz.f111))))) (kfin prog Tryz.f111 k)))))) .normal sl H
theorem d111 (a0:Value) (H:AHeap) (k:Value→AHeap→Prop):kbody prog Tryz.f111 [a0] H k=(@bndE (aAlloc prog H 116) ⟨fun v3x1 H2=>@bndC prog 125 [v3x1,(.int .u8 34)] H2 ⟨fun v5x3 H4=>@bnd (aLen
 prog H4 9 a0) ⟨fun v7x5=>∃ n,L111x0 n  k [a0,undef,(.string { data:=#[] }),v3x1,undef,v5x3,a0,v7x5,(.int .i64 0),undef,undef,undef,undef,undef,undef,undef,undef,undef,undef,undef,undef,undef,
 undef,undef,undef,undef,undef,undef,undef] H4⟩⟩⟩):=by kernel_rfl
theorem L111x0q (n0:Nat) (i x y l N z A v b O B C D E F G I J K L M w m n o p q r s:Value) (H:AHeap) (k:Value→AHeap→Prop):L111x0 (n0+1) k [i,x,y,l,N,z,
 A,v,b,O,B,C,D,E,F,G,I,J,K,L,M,w,m,n,o,p,q,r,s] H=(@bnd (aBin2 prog H .lss 3 (.tmp 8) (.tmp 7) b v) ⟨fun j=>@kifB j ⟨@bnd (aIndex prog 9 i
 b) ⟨fun g=>@bnd (aBin2 prog H .eql 5 (.tmp 13) (.const (.int .u8 34)) g (.int .u8 34)) ⟨fun a=>@bnd (gif a false ((some i)) undef) ⟨fun h=>@bnd (gif a false ((some b)) undef) ⟨fun c =>
 @bnd (gif a false (aIndex prog 9 h c) undef) ⟨fun d=>@bnd (gif a false (aBin2 prog H .eql 5 (.tmp 18) (.const (.int .u8 92)) d (.int .u8 92)) undef) ⟨fun e=>@bnd (pickV a (.bool
 true) e) ⟨fun f=>@kifB f ⟨@bndC prog 125 [l,(.int .u8 92)] H ⟨fun t H15=>S111x0 n0 k [i,x,y,l,b,z,A,v,b,j,b,i,b,g,a,a,h,c,d,e,
 f,t,m,n,o,p,q,r,s] H15⟩⟩ ⟨S111x0 n0 k [i,x,y,l,b,z,A,v,b,j,b,i,b,g,a,a,h,c,d,e,f,w,m,n,o,p,q,r,s]
 H⟩⟩⟩⟩⟩⟩⟩⟩⟩ ⟨@bndC prog 125 [l,(.int .u8 34)] H ⟨fun _ H17=>@bndC prog 80 [l] H17 ⟨fun u H19=>k u H19⟩⟩⟩⟩):=by kernel_rfl
theorem S111x0q (n0:Nat) (d v w u e x y z A B f g h i j l m n o p q r C D E F G s t:Value) (H:AHeap) (k:Value→AHeap→Prop):S111x0 n0 k [d,v,w,u,e,x,y,z,
 A,B,f,g,h,i,j,l,m,n,o,p,q,r,C,D,E,F,G,s,t] H=(@bnd (aIndex prog 9 d e) ⟨fun a=>@bndC prog 125 [u,a] H ⟨fun c H22=>@bnd (aBin2
 prog H22 .add 3 (.tmp 8) (.const (.int .i64 1)) A (.int .i64 1)) ⟨fun b=>L111x0 n0  k [d,v,w,u,e,x,y,z,b,B,f,g,h,i,j,l,m,n,o,p,q,r,d,e,a,c,
 b,s,t] H22⟩⟩⟩):=by kernel_rfl
-- tocsin/fixed.Sat
theorem d112 (a0:Value) (H:AHeap) (k:Value→AHeap→Prop):kbody prog Tryz.f112 [a0] H k=(@bndE (aBuiltin prog H Builtin.max #[2,2] [a0,(.int .i64 (-4611686018427387903))]) ⟨fun v4x1 H2=>@bndE (aBuiltin
 prog H2 Builtin.min #[2,2] [v4x1,(.int .i64 4611686018427387903)]) ⟨fun v5x3 H4=>k v5x3 H4⟩⟩):=by kernel_rfl
-- strconv.FormatInt
theorem d113 (a0 a1:Value) (H:AHeap) (k:Value→AHeap→Prop):kbody prog Tryz.f113 [a0,a1] H k=(@bndC prog 118 [a0,a1] H ⟨fun v7x1 H2=>k v7x1 H2⟩):=by kernel_rfl
-- strings.TrimRight
theorem d114 (a0 a1:Value) (H:AHeap) (k:Value→AHeap→Prop):kbody prog Tryz.f114 [a0,a1] H k=(@bnd (aBin2 prog H .eql 9 (.tmp 7) (.const (.string { data:=#[] })) a0 (.string { data:=#[] })) ⟨fun c =>
 @bnd (gif c false ((some a1)) undef) ⟨fun m=>@bnd (gif c false (aBin2 prog H .eql 9 (.tmp 10) (.const (.string { data:=#[] })) m (.string { data:=#[] })) undef) ⟨fun n=>@bnd (pickV c (.bool
 true) n) ⟨fun o=>@kifB o ⟨k a0 H⟩ ⟨@bnd (aLen prog H 9 a1) ⟨fun p=>@bnd (aBin2 prog H .eql 3 (.tmp 15) (.const (.int .i64 1)) p (.int .i64 1)) ⟨fun a=>@bnd (gif a true ((some a1))
 undef) ⟨fun q=>@bnd (gif a true (aIndex prog 9 q (.int .i64 0)) undef) ⟨fun r=>@bnd (gif a true (aBin2 prog H .lss 5 (.tmp 19) (.const (.int .u8 128)) r (.int .u8 128)) undef) ⟨fun s =>
 @bnd (pickV a s (.bool false)) ⟨fun e=>@kifB e ⟨@bnd (aIndex prog 9 a1 (.int .i64 0)) ⟨fun f=>@bndC prog 134 [a0,f] H ⟨fun g H13=>k g H13⟩⟩⟩ ⟨@bndC prog 135 [a1] H
 ⟨fun b H15=>@bnd (tupV b 0) ⟨fun h=>@bnd (tupV b 1) ⟨fun i=>@bndE (aAlloc prog H15 169) ⟨fun d H19=>@bndS (aStore prog H19 169 d h) ⟨fun _ H21=>@kifB i ⟨@bndC
 prog 136 [a0,d] H21 ⟨fun j H23=>k j H23⟩⟩ ⟨@bndC prog 137 [a0,a1] H21 ⟨fun l H25=>k l H25⟩⟩⟩⟩⟩⟩⟩⟩⟩⟩⟩⟩⟩⟩⟩⟩⟩⟩⟩):=by kernel_rfl
-- tocsin/match.May
def L115x0 (n:Nat) (k:Value→AHeap→Prop) (sl:List Value) (H:AHeap):Prop:=kit prog (cl (cl (cr (cl (cr (cr (cb Tryz.f115))))))) n (kblk 0 (kseq prog (cr (cr (cr (cb Tryz.f115)))) (kfin prog Tryz.f115
 k))) .normal sl H
theorem d115 (a0:Value) (H:AHeap) (k:Value→AHeap→Prop):kbody prog Tryz.f115 [a0] H k=(@bndC prog 109 [] H ⟨fun v8x1 H2=>@bnd (aLen prog H2 35 a0) ⟨fun v10x3=>∃ n,L115x0 n  k [a0,undef,(.bool
 false),v8x1,undef,undef,undef,undef,v8x1,a0,v10x3,(.int .i64 0),undef,undef,undef,undef,undef,undef,undef,undef,undef,undef,undef,undef,undef,undef,undef,undef,undef,undef,undef,undef,undef,undef,
 undef,undef,undef,undef,undef,undef] H2⟩⟩):=by kernel_rfl
theorem L115x0q (n0:Nat) (F I J B K s5 s6 s7 L G y t M N O P Q R S T U V W X Y Z aa ab ac ad ae af ag ah ai aj ak C D E:Value) (H:AHeap) (k:Value→AHeap→Prop) :
 L115x0 (n0+1) k [F,I,J,B,K,s5,s6,s7,L,G,y,t,M,N,O,P,Q,R,S,T,U,V,W,X,Y,Z,aa,ab,ac,ad,ae,af,ag,ah,ai,aj,ak,C,D,E] H=(@bnd (aBin2
 prog H .lss 3 (.tmp 11) (.tmp 10) t y) ⟨fun u=>@kifB u ⟨@bnd (aIndexAddr prog H 35 G t) ⟨fun v=>@bnd (aLoad prog H 75 v) ⟨fun w=>@bndE (aAlloc prog H 75) ⟨fun g H8 =>
 @bndS (aStore prog H8 75 g w) ⟨fun _ H10=>@bnd (aFieldAddr prog H10 75 g 1) ⟨fun h=>@bnd (aLoad prog H10 5 h) ⟨fun i=>@bnd (aLookup prog H10 146 B i true) ⟨fun c =>
 @bnd (tupV c 0) ⟨fun j=>@bnd (tupV c 1) ⟨fun d=>@bndE (aAlloc prog H10 150) ⟨fun x H17=>@bndS (aStore prog H17 150 x j) ⟨fun _ H19=>@bnd (unV prog .not d) ⟨fun a
=>@bnd (gif a false (aFieldAddr prog H19 75 g 0) undef) ⟨fun l=>@bnd (gif a false (aLoad prog H19 9 l) undef) ⟨fun m=>@bndG a false H19 ⟨fun e H24=>ACalls prog 138
 [m] H19 e H24⟩ ⟨fun e H24=>@bnd (gif a false (unV prog .not e) undef) ⟨fun n=>@bnd (pickV a (.bool true) n) ⟨fun b=>@bnd (gif b false (aFieldAddr prog H24 75
 g 2) undef) ⟨fun o=>@bnd (gif b false (aLoad prog H24 9 o) undef) ⟨fun p=>@bndG b false H24 ⟨fun f H30=>ACalls prog 139 [p] H24 f H30⟩ ⟨fun f H30=>@bnd (gif
 b false (unV prog .not f) undef) ⟨fun q=>@bnd (pickV b (.bool true) q) ⟨fun r=>@kifB r ⟨k (.bool false) H30⟩ ⟨@bnd (aBin2 prog H30 .add 3 (.tmp 11) (.const (.int .i64 1)) t
 (.int .i64 1)) ⟨fun s=>L115x0 n0  k [F,I,J,B,K,g,x,d,L,G,y,s,u,v,w,c,B,h,i,c,j,d,d,a,a,l,m,e,
 n,b,b,o,p,f,q,r,s,C,D,E] H30⟩⟩⟩⟩⟩⟩⟩⟩⟩⟩⟩⟩⟩⟩⟩⟩⟩⟩⟩⟩⟩⟩⟩⟩⟩ ⟨@bnd (aLen prog H 35 F) ⟨fun z=>@bnd (aBin2 prog H .leq 3 (.tmp 38) (.const (.int .i64 6))
 z (.int .i64 6)) ⟨fun A=>k A H⟩⟩⟩⟩):=by kernel_rfl
-- (*strings.Builder).copyCheck
theorem d116 (a0:Value) (H:AHeap) (k:Value→AHeap→Prop):kbody prog Tryz.f116 [a0] H k=(@bnd (nilV a0) ⟨fun i=>@bnd (aFieldAddr prog H 116 i 0) ⟨fun j=>@bnd (aLoad prog H 114 j) ⟨fun
 l=>@bnd (aBin2 prog H .eql 114 (.tmp 5) (.const (.pointer none)) l (.pointer none)) ⟨fun m=>@kifB m ⟨@bnd (convV prog H 114 174 a0) ⟨fun n=>@bndC prog 140 [n] H ⟨fun f H7=>@bnd
 (convV prog H7 174 114 f) ⟨fun g=>@bnd (nilV a0) ⟨fun h=>@bnd (aFieldAddr prog H7 116 h 0) ⟨fun a=>@bndS (aStore prog H7 114 a g) ⟨fun _ H12=>k (.tuple #[]) H12⟩⟩⟩⟩⟩⟩⟩ ⟨@bnd
 (nilV a0) ⟨fun b=>@bnd (aFieldAddr prog H 116 b 0) ⟨fun c=>@bnd (aLoad prog H 114 c) ⟨fun d=>@bnd (aBin2 prog H .neq 114 (.tmp 17) (.tmp 18) d a0) ⟨fun e=>@kifB e
 ⟨False⟩ ⟨k (.tuple #[]) H⟩⟩⟩⟩⟩⟩⟩⟩⟩⟩):=by kernel_rfl
-- (*strings.Builder).grow
theorem d117 (a0 a1:Value) (H:AHeap) (k:Value→AHeap→Prop):kbody prog Tryz.f117 [a0,a1] H k=(@bnd (nilV a0) ⟨fun p=>@bnd (aFieldAddr prog H 116 p 1) ⟨fun q=>@bnd (aLoad prog H 55 q)
 ⟨fun r=>@bndD false H ⟨fun c H5=>aBuiltin prog H Builtin.cap #[55] [r]=some (c,H5)⟩ ⟨fun c H5=>@bnd (aBin2 prog H5 .mul 3 (.const (.int .i64 2)) (.tmp 9) (.int .i64 2) c) ⟨fun n=>@bnd
 (aBin2 prog H5 .add 3 (.tmp 10) (.tmp 11) n a1) ⟨fun o=>@bndD false H5 ⟨fun a H9=>ACalls prog 141 [o] H5 a H9⟩ ⟨fun a H9=>@bnd (nilV a0) ⟨fun d=>@bnd (aFieldAddr prog H 116
 d 1) ⟨fun e=>@bnd (aLoad prog H 55 e) ⟨fun f=>@bnd (aLen prog H 55 f) ⟨fun g=>@bnd (aSliceOp prog H9 55 a none (some g)) ⟨fun b=>@bnd (nilV a0) ⟨fun h =>
 @bnd (aFieldAddr prog H9 116 h 1) ⟨fun i=>@bnd (aLoad prog H9 55 i) ⟨fun j=>@bndE (aBuiltin prog H9 Builtin.copy #[55,55] [b,j]) ⟨fun _ H19=>@bnd (nilV a0) ⟨fun l =>
 @bnd (aFieldAddr prog H19 116 l 1) ⟨fun m=>@bndS (aStore prog H19 55 m b) ⟨fun _ H23=>k (.tuple #[]) H23⟩⟩⟩⟩⟩⟩⟩⟩⟩⟩⟩⟩⟩⟩⟩⟩⟩⟩⟩):=by kernel_rfl
-- internal/strconv.FormatInt
def S118x0 (k:Value→AHeap→Prop) (sl:List Value) (H:AHeap):Prop:=kseq prog (cr (cr (cr (cr (cl (cr (cl (cr (cb Tryz.f118))))))))) (kseq prog (cr (cr (cb Tryz.f118))) (kfin prog Tryz.f118 k)) .normal sl
 H
theorem d118 (a0 a1:Value) (H:AHeap) (k:Value→AHeap→Prop):kbody prog Tryz.f118 [a0,a1] H k=(@bnd (aBin2 prog H .eql 3 (.tmp 10) (.const (.int .i64 10)) a1 (.int .i64 10)) ⟨fun c=>@kifB c ⟨@bnd
 (aBin2 prog H .leq 2 (.const (.int .i64 0)) (.tmp 12) (.int .i64 0) a0) ⟨fun a=>@bnd (gif a true ((some a0)) undef) ⟨fun e=>@bnd (gif a true (aBin2 prog H .lss 2 (.tmp 15) (.const (.int .i64 100))
 e (.int .i64 100)) undef) ⟨fun f=>@bnd (pickV a f (.bool false)) ⟨fun g=>@kifB g ⟨@bndC prog 142 [a0] H ⟨fun j H7=>k j H7⟩⟩ ⟨@bndE (aAlloc prog H 177) ⟨fun i H9=>@bnd (convV
 prog H9 2 178 a0) ⟨fun b=>@bnd (aBin2 prog H9 .lss 2 (.tmp 22) (.const (.int .i64 0)) a0 (.int .i64 0)) ⟨fun d=>@kifB d ⟨@bnd (unV prog .neg b) ⟨fun h=>S118x0  k [a0,a1,undef,
 undef,(.string { data:=#[] }),i,h,undef,undef,undef,a1,c,a0,a,a,e,f,g,undef,undef,a0,b,a0,d,b,h,undef,undef,undef,undef,undef,undef,undef,
 undef,undef,undef,undef,undef,undef,undef,undef,undef,undef,undef,undef,undef,undef,undef,undef,undef,undef,undef,undef,undef] H9⟩⟩ ⟨S118x0  k [a0,a1,undef,undef,(.string { data:=#[] }),i,b,
 undef,undef,undef,a1,c,a0,a,a,e,f,g,undef,undef,a0,b,a0,d,undef,undef,undef,undef,undef,undef,undef,undef,undef,undef,undef,undef,undef,undef,undef,undef,undef,
 undef,undef,undef,undef,undef,undef,undef,undef,undef,undef,undef,undef,undef] H9⟩⟩⟩⟩⟩⟩⟩⟩⟩⟩ ⟨kx prog (cr (cr (cl (cr (cb Tryz.f118))))) [a0,a1,undef,undef,(.string { data:=#[] }),undef,undef,undef,
 undef,undef,a1,c,undef,undef,undef,undef,undef,undef,undef,undef,undef,undef,undef,undef,undef,undef,undef,undef,undef,undef,undef,undef,undef,undef,undef,undef,undef,undef,undef,undef,undef,
 undef,undef,undef,undef,undef,undef,undef,undef,undef,undef,undef,undef,undef] H (kseq prog (cr (cr (cb Tryz.f118))) (kfin prog Tryz.f118 k))⟩⟩):=by kernel_rfl
theorem S118x0q (o s1 s2 s3 s4 b n s7 s8 s9 p q r s t u v w x y z A B C D E F G I J K L M N O P Q R S T U V W X Y Z aa ab ac ad ae af ag ah :
 Value) (H:AHeap) (k:Value→AHeap→Prop):S118x0 k [o,s1,s2,s3,s4,b,n,s7,s8,s9,p,q,r,s,t,u,v,w,x,y,z,A,B,C,D,E,F,G,I,J,K,L,M,N,O,P,
 Q,R,S,T,U,V,W,X,Y,Z,aa,ab,ac,ad,ae,af,ag,ah] H=(@bndC prog 143 [n] H ⟨fun a H14=>@bnd (aBin2 prog H14 .add 3 (.const (.int .i64 1)) (.tmp 28) (.int .i64 1)
 a) ⟨fun c=>@bnd (aSliceOp prog H14 177 b (some (.int .i64 1)) (some c)) ⟨fun d=>@bndC prog 144 [d,n] H14 ⟨fun _ H18=>@bnd (aBin2 prog H18 .lss 2 (.tmp 33) (.const (.int .i64 0))
 o (.int .i64 0)) ⟨fun e=>@kifB e ⟨@bnd (aIndexAddr prog H18 177 b (.int .i64 0)) ⟨fun f=>@bndS (aStore prog H18 5 f (.int .u8 45)) ⟨fun _ H22=>@bnd (aBin2 prog H22 .add 3 (.const (.int
 .i64 1)) (.tmp 36) (.int .i64 1) a) ⟨fun g=>@bnd (aSliceOp prog H22 177 b none (some g)) ⟨fun h=>@bnd (convV prog H22 55 9 h) ⟨fun i=>k i H22⟩⟩⟩⟩⟩⟩ ⟨@bnd (aBin2 prog H18
 .add 3 (.const (.int .i64 1)) (.tmp 40) (.int .i64 1) a) ⟨fun j=>@bnd (aSliceOp prog H18 177 b (some (.int .i64 1)) (some j)) ⟨fun l=>@bnd (convV prog H18 55 9 l) ⟨fun m=>k m
 H18⟩⟩⟩⟩⟩⟩⟩⟩⟩):=by kernel_rfl
-- tocsin/crc.up
theorem d119 (a0:Value) (H:AHeap) (k:Value→AHeap→Prop):kbody prog Tryz.f119 [a0] H k=(@bnd (aBin2 prog H .and 50 (.tmp 3) (.const (.int .u32 1)) a0 (.int .u32 1)) ⟨fun v4x1=>@bnd (aBin2 prog H .eql
 50 (.tmp 4) (.const (.int .u32 1)) v4x1 (.int .u32 1)) ⟨fun v5x2=>@kifB v5x2 ⟨@bnd (aBin2 prog H .shr 50 (.tmp 6) (.const (.int .u64 1)) a0 (.int .u64 1)) ⟨fun v7x3=>@bnd (aBin2 prog H .xor 50 (.tmp 7) (.const
 (.int .u32 2197175160)) v7x3 (.int .u32 2197175160)) ⟨fun v8x4=>k v8x4 H⟩⟩⟩ ⟨@bnd (aBin2 prog H .shr 50 (.tmp 9) (.const (.int .u64 1)) a0 (.int .u64 1)) ⟨fun v10x5=>k v10x5 H⟩⟩⟩⟩):=by kernel_rfl
-- internal/stringslite.IndexByte
theorem d124 (a0 a1:Value) (H:AHeap) (k:Value→AHeap→Prop):kbody prog Tryz.f124 [a0,a1] H k=(@bndC prog 152 [a0,a1] H ⟨fun v7x1 H2=>k v7x1 H2⟩):=by kernel_rfl
-- (*strings.Builder).WriteByte
theorem d125 (a0 a1:Value) (H:AHeap) (k:Value→AHeap→Prop):kbody prog Tryz.f125 [a0,a1] H k=(@bndC prog 116 [a0] H ⟨fun _ H2=>@bnd (nilV a0) ⟨fun g=>@bnd (aFieldAddr prog H2 116 g 1) ⟨fun
 c=>@bnd (aLoad prog H2 55 c) ⟨fun d=>@bndL prog H2 55 1 [(0,a1)] ⟨fun e H7=>@bndE (aBuiltin prog H7 Builtin.append #[55,55] [d,e]) ⟨fun f H9=>@bnd (nilV a0) ⟨fun a =>
 @bnd (aFieldAddr prog H9 116 a 1) ⟨fun b=>@bndS (aStore prog H9 55 b f) ⟨fun _ H13=>k .nilIface H13⟩⟩⟩⟩⟩⟩⟩⟩⟩):=by kernel_rfl
-- tocsin/expr.named
def L126x0 (n:Nat) (k:Value→AHeap→Prop) (sl:List Value) (H:AHeap):Prop:=kit prog (cl (cl (cr (cl (cr (cr (cb Tryz.f126))))))) n (kblk 0 (kseq prog (cr (cr (cr (cb Tryz.f126)))) (kfin prog Tryz.f126
 k))) .normal sl H
theorem d126 (a0:Value) (H:AHeap) (k:Value→AHeap→Prop):kbody prog Tryz.f126 [a0] H k=(@bndE (some (Value.map (some H.length),H++[AObj.map []])) ⟨fun v6x1 H2=>@bnd (aLen prog H2 42 a0) ⟨fun v8x3=>∃
 n,L126x0 n  k [a0,undef,(.map none),v6x1,undef,undef,v6x1,a0,v8x3,(.int .i64 0),undef,undef,undef,undef,undef,undef,undef,undef,undef] H2⟩⟩):=by kernel_rfl
theorem L126x0q (n0:Nat) (j l m f w x n h i b o p q r s t u v g:Value) (H:AHeap) (k:Value→AHeap→Prop):L126x0 (n0+1) k [j,l,m,f,w,x,n,h,i,b,o,p,q,r,s,
 t,u,v,g] H=(@bnd (aBin2 prog H .lss 3 (.tmp 9) (.tmp 8) b i) ⟨fun c=>@kifB c ⟨@bnd (aIndexAddr prog H 42 h b) ⟨fun d=>@bnd (aLoad prog H 9 d) ⟨fun a=>@bndS (aUpdate
 prog H 163 f a b) ⟨fun _ H8=>@bnd (aBin2 prog H8 .add 3 (.tmp 9) (.const (.int .i64 1)) b (.int .i64 1)) ⟨fun e=>L126x0 n0  k [j,l,m,f,b,a,n,h,i,e,c,b,d,a,f,
 a,b,e,g] H8⟩⟩⟩⟩⟩ ⟨k f H⟩⟩):=by kernel_rfl
end Go.Vi
namespace Go.Vi
open Go Go.Proofs Go.Proofs.Tryz
-- (*tocsin/expr.reader).take
theorem d127 (a0 a1:Value) (H:AHeap) (k:Value→AHeap→Prop):kbody prog Tryz.f127 [a0,a1] H k=(@bnd (nilV a0) ⟨fun U=>@bnd (aFieldAddr prog H 81 U 2) ⟨fun V=>@bnd (aLoad prog H 4 V) ⟨fun
 W=>@bnd (unV prog .not W) ⟨fun b=>@bnd (gif b false ((some a0)) undef) ⟨fun P=>@bnd (gif b false (nilV P) undef) ⟨fun Q=>@bnd (gif b false (aFieldAddr prog H 81 Q 1) undef)
 ⟨fun R=>@bnd (gif b false (aLoad prog H 3 R) undef) ⟨fun S=>@bnd (gif b false ((some a0)) undef) ⟨fun T=>@bnd (gif b false (nilV T) undef) ⟨fun c=>@bnd (gif b false (aFieldAddr
 prog H 81 c 0) undef) ⟨fun d=>@bnd (gif b false (aLoad prog H 23 d) undef) ⟨fun e=>@bnd (gif b false (aLen prog H 23 e) undef) ⟨fun f=>@bnd (gif b false (aBin2
 prog H .geq 3 (.tmp 14) (.tmp 19) S f) undef) ⟨fun g=>@bnd (pickV b (.bool true) g) ⟨fun a=>@bnd (gif a false ((some a0)) undef) ⟨fun h=>@bnd (gif a false (nilV h)
 undef) ⟨fun i=>@bnd (gif a false (aFieldAddr prog H 81 i 0) undef) ⟨fun j=>@bnd (gif a false (aLoad prog H 23 j) undef) ⟨fun l=>@bnd (gif a false ((some a0)) undef) ⟨fun
 m=>@bnd (gif a false (nilV m) undef) ⟨fun n=>@bnd (gif a false (aFieldAddr prog H 81 n 1) undef) ⟨fun o=>@bnd (gif a false (aLoad prog H 3 o) undef) ⟨fun p =>
 @bnd (gif a false (aIndexAddr prog H 23 l p) undef) ⟨fun q=>@bnd (gif a false (aFieldAddr prog H 70 q 0) undef) ⟨fun r=>@bnd (gif a false (aLoad prog H 5 r) undef)
 ⟨fun s=>@bnd (gif a false ((some a1)) undef) ⟨fun t=>@bnd (gif a false (aBin2 prog H .neq 5 (.tmp 33) (.tmp 34) s t) undef) ⟨fun u=>@bnd (pickV a (.bool true) u) ⟨fun
 v=>@kifB v ⟨@bnd (nilV a0) ⟨fun w=>@bnd (aFieldAddr prog H 81 w 2) ⟨fun x=>@bndS (aStore prog H 4 x (.bool false)) ⟨fun _ H33=>k (.string { data:=#[] }) H33⟩⟩⟩⟩ ⟨@bnd (nilV a0)
 ⟨fun y=>@bnd (aFieldAddr prog H 81 y 1) ⟨fun z=>@bnd (aLoad prog H 3 z) ⟨fun A=>@bnd (aBin2 prog H .add 3 (.tmp 43) (.const (.int .i64 1)) A (.int .i64 1)) ⟨fun B=>@bnd
 (nilV a0) ⟨fun C=>@bnd (aFieldAddr prog H 81 C 1) ⟨fun D=>@bndS (aStore prog H 3 D B) ⟨fun _ H41=>@bnd (nilV a0) ⟨fun E=>@bnd (aFieldAddr prog H41 81 E 0) ⟨fun F =>
 @bnd (aLoad prog H41 23 F) ⟨fun G=>@bnd (nilV a0) ⟨fun I=>@bnd (aFieldAddr prog H41 81 I 1) ⟨fun J=>@bnd (aLoad prog H41 3 J) ⟨fun K=>@bnd (aBin2 prog H41 .sub 3
 (.tmp 54) (.const (.int .i64 1)) K (.int .i64 1)) ⟨fun L=>@bnd (aIndexAddr prog H41 23 G L) ⟨fun M=>@bnd (aFieldAddr prog H41 70 M 1) ⟨fun N=>@bnd (aLoad prog H41 9
 N) ⟨fun O=>k O H41⟩⟩⟩⟩⟩⟩⟩⟩⟩⟩⟩⟩⟩⟩⟩⟩⟩⟩⟩⟩⟩⟩⟩⟩⟩⟩⟩⟩⟩⟩⟩⟩⟩⟩⟩⟩⟩⟩⟩⟩⟩⟩⟩⟩⟩⟩⟩):=by kernel_rfl
-- tocsin/expr.ops
theorem d128 (H:AHeap) (k:Value→AHeap→Prop):kbody prog Tryz.f128 [] H k=(@bndL prog H 42 3 [(0,(.string { data:=#[61] })),(1,(.string { data:=#[33,61] })),(2,(.string { data:=#[94,61] }))] ⟨fun
 v1x1 H2=>k v1x1 H2⟩):=by kernel_rfl
-- strconv.Atoi
theorem d129 (a0:Value) (H:AHeap) (k:Value→AHeap→Prop):kbody prog Tryz.f129 [a0] H k=(@bndC prog 153 [a0] H ⟨fun v8x1 H2=>@bnd (tupV v8x1 0) ⟨fun v9x3=>@bnd (tupV v8x1 1) ⟨fun v10x4=>@bnd (aBin2
 prog H2 .neq 118 (.tmp 11) (.const .nilIface) v10x4 .nilIface) ⟨fun v12x5=>@kifB v12x5 ⟨@bndC prog 154 [(.string { data:=#[65,116,111,105] }),a0,(.int .i64 0),(.int .i64 0),v10x4] H2 ⟨fun v16x6 H7=>k
 (.tuple #[v9x3,v16x6]) H7⟩⟩ ⟨k (.tuple #[v9x3,.nilIface]) H2⟩⟩⟩⟩⟩):=by kernel_rfl
-- tocsin/fixed.Parse
def L130x0 (n:Nat) (k:Value→AHeap→Prop) (sl:List Value) (H:AHeap):Prop:=kit prog (cl (cl (cr (cl (cr (cr (cr (cr (cr (cb Tryz.f130)))))))))) n (kblk 0 (kseq prog (cr (cr (cr (cr (cr (cr (cb
 Tryz.f130))))))) (kfin prog Tryz.f130 k))) .normal sl H
def S130x0 (k:Value→AHeap→Prop) (sl:List Value) (H:AHeap):Prop:=kseq prog (cr (cr (cr (cr (cr (cr (cb Tryz.f130))))))) (kfin prog Tryz.f130 k) .normal sl H
def S130x1 (k:Value→AHeap→Prop) (sl:List Value) (H:AHeap):Prop:=kseq prog (cr (cr (cr (cr (cr (cr (cr (cb Tryz.f130)))))))) (kfin prog Tryz.f130 k) .normal sl H
def B130x0 (n0:Nat) (k:Value→AHeap→Prop) (sl:List Value) (H:AHeap):Prop:=(kseq prog (cr (cr (cl (cl (cr (cr (cl (cl (cr (cl (cr (cr (cr (cr (cr (cb Tryz.f130)))))))))))))))) (kblk 1 (kseq prog (cr (cr
 (cr (cl (cl (cr (cl (cr (cr (cr (cr (cr (cb Tryz.f130))))))))))))) (kit prog (cl (cl (cr (cl (cr (cr (cr (cr (cr (cb Tryz.f130)))))))))) n0 (kblk 0 (kseq prog (cr (cr (cr (cr (cr (cr (cb Tryz.f130))))))) (kfin
 prog Tryz.f130 k))))))) (.exit 0) sl H
def B130x1 (n0:Nat) (k:Value→AHeap→Prop) (sl:List Value) (H:AHeap):Prop:=(kseq prog (cr (cr (cl (cl (cr (cl (cr (cr (cr (cr (cr (cb Tryz.f130)))))))))))) (kit prog (cl (cl (cr (cl (cr (cr (cr (cr (cr (cb
 Tryz.f130)))))))))) n0 (kblk 0 (kseq prog (cr (cr (cr (cr (cr (cr (cb Tryz.f130))))))) (kfin prog Tryz.f130 k))))) (.exit 0) sl H
theorem B130x0q (n0:Nat) (sl:List Value) (H:AHeap) (k:Value→AHeap→Prop):B130x0 n0 k sl H=S130x0  k sl H:=by kernel_rfl
theorem B130x1q (n0:Nat) (sl:List Value) (H:AHeap) (k:Value→AHeap→Prop):B130x1 n0 k sl H=S130x0  k sl H:=by kernel_rfl
theorem d130 (a0:Value) (H:AHeap) (k:Value→AHeap→Prop):kbody prog Tryz.f130 [a0] H k=(@bndC prog 155 [a0,(.string { data:=#[45] })] H ⟨fun c H2=>@bnd (tupV c 0) ⟨fun d=>@bnd (tupV c
 1) ⟨fun p=>@bndC prog 156 [d] H2 ⟨fun b H6=>@bnd (tupV b 0) ⟨fun e=>@bnd (tupV b 1) ⟨fun a=>@bnd (tupV b 2) ⟨fun f=>@bnd (unV prog .not f) ⟨fun g=>@kifB g
 ⟨k (.tuple #[(.int .i64 0),(.int .i64 10)]) H6⟩ ⟨@bnd (aBin2 prog H6 .add 9 (.tmp 25) (.tmp 26) e a) ⟨fun h=>@bnd (aLen prog H6 9 a) ⟨fun i=>@bnd (aBin2 prog H6 .sub 3 (.const (.int
 .i64 3)) (.tmp 29) (.int .i64 3) i) ⟨fun j=>@bndC prog 157 [(.string { data:=#[48] }),j] H6 ⟨fun l H15=>@bnd (aBin2 prog H15 .add 9 (.tmp 27) (.tmp 31) h l) ⟨fun m=>@bndE
 (aConv prog H15 9 55 m) ⟨fun o H18=>@bnd (aLen prog H18 55 o) ⟨fun q=>∃ n,L130x0 n  k [a0,undef,(.int .i64 0),(.int .i64 0),d,p,e,a,f,(.int .i64 0),undef,undef,
 c,a0,c,d,p,b,d,b,e,a,f,f,g,e,a,h,a,i,j,l,m,o,q,(.int .i64 0),undef,undef,undef,undef,undef,undef,
 undef,undef,undef,undef,undef,undef,undef,undef,undef,undef,undef,undef,undef,undef,undef] H18⟩⟩⟩⟩⟩⟩⟩⟩⟩⟩⟩⟩⟩⟩⟩⟩):=by kernel_rfl
theorem L130x0q (n0:Nat) (s0 s1 s2 s3 s4 s5 s6 s7 s8 r s aa t u v w x y z A B C D E F G I J K L M N O j l i ak ab ac ad ae af ag ah ai aj T U V W X Y Z
 P Q R S:Value) (H:AHeap) (k:Value→AHeap→Prop):L130x0 (n0+1) k [s0,s1,s2,s3,s4,s5,s6,s7,s8,r,s,aa,t,u,v,w,x,y,z,A,B,C,D,E,F,G,I,J,K,L,
 M,N,O,j,l,i,ak,ab,ac,ad,ae,af,ag,ah,ai,aj,T,U,V,W,X,Y,Z,P,Q,R,S] H=(@bnd (aBin2 prog H .lss 3 (.tmp 35) (.tmp 34) i l) ⟨fun b=>@kifB b
 ⟨@bnd (aIndexAddr prog H 55 j i) ⟨fun c=>@bnd (aLoad prog H 5 c) ⟨fun a=>@bnd (aBin2 prog H .sub 5 (.tmp 40) (.const (.int .u8 48)) a (.int .u8 48)) ⟨fun d=>@bnd (convV
 prog H 5 2 d) ⟨fun e=>@bnd (aBin2 prog H .sub 2 (.const (.int .i64 4611686018427387903)) (.tmp 42) (.int .i64 4611686018427387903) e) ⟨fun f=>@bnd (aBin2 prog H .quo 2 (.tmp 43) (.const
 (.int .i64 10)) f (.int .i64 10)) ⟨fun g=>@bnd (aBin2 prog H .gtr 2 (.tmp 39) (.tmp 44) r g) ⟨fun h=>@kifB h ⟨B130x0 n0 k [s0,s1,s2,s3,s4,s5,s6,s7,s8,(.int .i64 4611686018427387903),
 s,a,t,u,v,w,x,y,z,A,B,C,D,E,F,G,I,J,K,L,M,N,O,j,l,i,b,c,a,r,a,d,e,f,g,h,T,U,V,
 W,X,Y,Z,P,Q,R,S] H⟩ ⟨@bnd (aBin2 prog H .mul 2 (.const (.int .i64 10)) (.tmp 46) (.int .i64 10) r) ⟨fun m=>@bnd (aBin2 prog H .sub 5 (.tmp 48) (.const (.int .u8 48)) a (.int .u8
 48)) ⟨fun n=>@bnd (convV prog H 5 2 n) ⟨fun o=>@bnd (aBin2 prog H .add 2 (.tmp 47) (.tmp 50) m o) ⟨fun p=>@bnd (aBin2 prog H .add 3 (.tmp 35) (.const (.int .i64 1)) i (.int
 .i64 1)) ⟨fun q=>L130x0 n0  k [s0,s1,s2,s3,s4,s5,s6,s7,s8,p,s,a,t,u,v,w,x,y,z,A,B,C,D,E,F,G,I,J,K,L,M,N,O,j,l,q,b,
 c,a,r,a,d,e,f,g,h,r,m,a,n,o,p,q,P,Q,R,S] H⟩⟩⟩⟩⟩⟩⟩⟩⟩⟩⟩⟩⟩⟩ ⟨B130x1 n0 k [s0,s1,s2,s3,s4,s5,s6,s7,s8,r,s,aa,t,
 u,v,w,x,y,z,A,B,C,D,E,F,G,I,J,K,L,M,N,O,j,l,i,b,ab,ac,ad,ae,af,ag,ah,ai,aj,T,U,V,W,X,Y,Z,P,Q,R,S] H⟩⟩)
:=by kernel_rfl
theorem S130x0q (Z s1 s2 s3 s4 b s6 s7 s8 W c d e f g h i j l m n o p q r s t u v w x y z A B C D E F G I J K L M N O P Q R S T U aa X
 Y V:Value) (H:AHeap) (k:Value→AHeap→Prop):S130x0 k [Z,s1,s2,s3,s4,b,s6,s7,s8,W,c,d,e,f,g,h,i,j,l,m,n,o,p,q,r,s,t,u,v,w,x,y,z,A,
 B,C,D,E,F,G,I,J,K,L,M,N,O,P,Q,R,S,T,U,aa,X,Y,V] H=(@kifB b ⟨@bnd (unV prog .neg W) ⟨fun a=>S130x1  k [Z,s1,s2,s3,s4,b,s6,s7,s8,
 a,c,d,e,f,g,h,i,j,l,m,n,o,p,q,r,s,t,u,v,w,x,y,z,A,B,C,D,E,F,G,I,J,K,L,M,N,O,P,Q,R,S,T,U,b,
 W,a,V] H⟩⟩ ⟨S130x1  k [Z,s1,s2,s3,s4,b,s6,s7,s8,W,c,d,e,f,g,h,i,j,l,m,n,o,p,q,r,s,t,u,v,w,x,y,z,A,B,C,D,E,F,G,I,
 J,K,L,M,N,O,P,Q,R,S,T,U,b,X,Y,V] H⟩):=by kernel_rfl
theorem S130x1q (Y Z s2 s3 s4 s5 s6 s7 s8 a b c d e f g h i j l m n o p q r s t u v w x y z A B C D E F G I J K L M N O P Q R S T U V
 W X:Value) (H:AHeap) (k:Value→AHeap→Prop):S130x1 k [Y,Z,s2,s3,s4,s5,s6,s7,s8,a,b,c,d,e,f,g,h,i,j,l,m,n,o,p,q,r,s,t,u,v,w,x,y,z,
 A,B,C,D,E,F,G,I,J,K,L,M,N,O,P,Q,R,S,T,U,V,W,X] H=(k (.tuple #[a,(.int .i64 0)]) H):=by kernel_rfl
-- strings.HasPrefix
theorem d133 (a0 a1:Value) (H:AHeap) (k:Value→AHeap→Prop):kbody prog Tryz.f133 [a0,a1] H k=(@bndC prog 158 [a0,a1] H ⟨fun v7x1 H2=>k v7x1 H2⟩):=by kernel_rfl
-- strings.trimRightByte
def L134x0 (n:Nat) (k:Value→AHeap→Prop) (sl:List Value) (H:AHeap):Prop:=kit prog (cl (cl (cl (cr (cb Tryz.f134))))) n (kblk 0 (kseq prog (cr (cr (cb Tryz.f134))) (kfin prog Tryz.f134 k))) .normal sl
 H
theorem d134 (a0 a1:Value) (H:AHeap) (k:Value→AHeap→Prop):kbody prog Tryz.f134 [a0,a1] H k=(∃ n,L134x0 n  k [a0,a1,undef,undef,(.string { data:=#[] }),undef,undef,undef,undef,undef,undef,undef,
 undef,undef,undef,undef,undef,undef,undef,undef,undef,undef,undef] H):=by kernel_rfl
theorem L134x0q (n0:Nat) (b q r s t G I J K L u v w x y z A B C D E F p:Value) (H:AHeap) (k:Value→AHeap→Prop):L134x0 (n0+1) k [b,q,r,s,t,G,I,J,K,L,u,v,
 w,x,y,z,A,B,C,D,E,F,p] H=(@bnd (aLen prog H 9 b) ⟨fun n=>@bnd (aBin2 prog H .gtr 3 (.tmp 6) (.const (.int .i64 0)) n (.int .i64 0)) ⟨fun a=>@bnd (gif a true ((some
 b)) undef) ⟨fun o=>@bnd (gif a true ((some b)) undef) ⟨fun g=>@bnd (gif a true (aLen prog H 9 g) undef) ⟨fun h=>@bnd (gif a true (aBin2 prog H .sub 3 (.tmp 11) (.const (.int .i64 1))
 h (.int .i64 1)) undef) ⟨fun i=>@bnd (gif a true (aIndex prog 9 o i) undef) ⟨fun j=>@bnd (gif a true ((some q)) undef) ⟨fun l=>@bnd (gif a true (aBin2 prog H .eql 5 (.tmp 13)
 (.tmp 14) j l) undef) ⟨fun m=>@bnd (pickV a m (.bool false)) ⟨fun c=>@kifB c ⟨@bnd (aLen prog H 9 b) ⟨fun d=>@bnd (aBin2 prog H .sub 3 (.tmp 19) (.const (.int .i64 1)) d
 (.int .i64 1)) ⟨fun e=>@bnd (aSliceOp prog H 9 b none (some e)) ⟨fun f=>L134x0 n0  k [f,q,r,s,t,b,n,a,a,o,g,h,i,j,l,m,c,b,b,
 d,e,f,p] H⟩⟩⟩⟩ ⟨k b H⟩⟩⟩⟩⟩⟩⟩⟩⟩⟩⟩):=by kernel_rfl
-- tocsin/labels.MayName
theorem d138 (a0:Value) (H:AHeap) (k:Value→AHeap→Prop):kbody prog Tryz.f138 [a0] H k=(@bnd (aLen prog H 9 a0) ⟨fun j=>@bnd (aBin2 prog H .geq 3 (.tmp 4) (.const (.int .i64 1)) j (.int .i64 1))
 ⟨fun d=>@bnd (gif d true ((some a0)) undef) ⟨fun l=>@bnd (gif d true (aLen prog H 9 l) undef) ⟨fun m=>@bnd (gif d true (aBin2 prog H .leq 3 (.tmp 8) (.const (.int .i64 16)) m (.int .i64
 16)) undef) ⟨fun n=>@bnd (pickV d n (.bool false)) ⟨fun a=>@bnd (gif a true ((some a0)) undef) ⟨fun h=>@bnd (gif a true (aIndex prog 9 h (.int .i64 0)) undef) ⟨fun i=>@bndG a
 true H ⟨fun e H10=>ACalls prog 162 [i] H e H10⟩ ⟨fun e H10=>@bnd (pickV a e (.bool false)) ⟨fun b=>@bnd (gif b true ((some a0)) undef) ⟨fun f=>@bndG b true H10 ⟨fun
 c H14=>ACalls prog 163 [f,(.func (.func 164) #[] #[])] H10 c H14⟩ ⟨fun c H14=>@bnd (pickV b c (.bool false)) ⟨fun g=>k g H14⟩⟩⟩⟩⟩⟩⟩⟩⟩⟩⟩⟩⟩):=by kernel_rfl
-- tocsin/match.may
theorem d139 (a0:Value) (H:AHeap) (k:Value→AHeap→Prop):kbody prog Tryz.f139 [a0] H k=(@bnd (aBin2 prog H .eql 9 (.tmp 3) (.const (.string { data:=#[] })) a0 (.string { data:=#[] })) ⟨fun v4x1=>@bnd
 (gif v4x1 false ((some a0)) undef) ⟨fun v6x2=>@bndG v4x1 false H ⟨fun v7x3 H4=>ACalls prog 165 [v6x2] H v7x3 H4⟩ ⟨fun v7x3 H4=>@bnd (pickV v4x1 (.bool true) v7x3) ⟨fun v8x5=>k v8x5 H4⟩⟩⟩⟩):=by kernel_rfl
-- internal/strconv.small
theorem d142 (a0:Value) (H:AHeap) (k:Value→AHeap→Prop):kbody prog Tryz.f142 [a0] H k=(@bnd (aBin2 prog H .lss 3 (.tmp 3) (.const (.int .i64 10)) a0 (.int .i64 10)) ⟨fun e=>@kifB e ⟨@bnd (aBin2
 prog H .add 3 (.tmp 6) (.const (.int .i64 1)) a0 (.int .i64 1)) ⟨fun f=>@bnd (aSliceOp prog H 9 (.string dgS) (some a0) (some f)) ⟨fun g=>k g H⟩⟩⟩ ⟨@bnd (aBin2 prog H .mul 3 (.tmp 9) (.const (.int
 .i64 2)) a0 (.int .i64 2)) ⟨fun a=>@bnd (aBin2 prog H .mul 3 (.tmp 11) (.const (.int .i64 2)) a0 (.int .i64 2)) ⟨fun b=>@bnd (aBin2 prog H .add 3 (.tmp 12) (.const (.int .i64 2)) b (.int .i64 2)) ⟨fun
 c=>@bnd (aSliceOp prog H 9 (.string smS) (some a) (some c)) ⟨fun d=>k d H⟩⟩⟩⟩⟩⟩):=by kernel_rfl
-- internal/strconv.numDigits
theorem d143 (a0:Value) (H:AHeap) (k:Value→AHeap→Prop):kbody prog Tryz.f143 [a0] H k=(@bndC prog 167 [a0] H ⟨fun g H2=>@bndC prog 166 [g] H2 ⟨fun a H4=>@bnd (aIndexAddr prog H4 200
 (.pointer (some ⟨1,0,none⟩)) a) ⟨fun c=>@bnd (aLoad prog H4 178 c) ⟨fun d=>@bnd (aBin2 prog H4 .geq 178 (.tmp 8) (.tmp 11) a0 d) ⟨fun e=>@bndC prog 168 [e] H4 ⟨fun f H9 =>
 @bnd (aBin2 prog H9 .add 3 (.tmp 7) (.tmp 13) a f) ⟨fun b=>k b H9⟩⟩⟩⟩⟩⟩⟩):=by kernel_rfl
-- internal/strconv.Atoi
def S153x0 (k:Value→AHeap→Prop) (sl:List Value) (H:AHeap):Prop:=kseq prog (cr (cr (cl (cr (cl (cr (cr (cb Tryz.f153)))))))) (kseq prog (cr (cr (cr (cb Tryz.f153)))) (kfin prog Tryz.f153 k)) .normal sl
 H
def L153x0 (n:Nat) (k:Value→AHeap→Prop) (sl:List Value) (H:AHeap):Prop:=kit prog (cl (cl (cr (cl (cr (cr (cr (cl (cr (cl (cr (cr (cb Tryz.f153))))))))))))) n (kblk 0 (kseq prog (cr (cr (cr (cr (cl (cr
 (cl (cr (cr (cb Tryz.f153)))))))))) (kseq prog (cr (cr (cr (cb Tryz.f153)))) (kfin prog Tryz.f153 k)))) .normal sl H
def S153x1 (k:Value→AHeap→Prop) (sl:List Value) (H:AHeap):Prop:=kseq prog (cr (cr (cr (cr (cr (cl (cr (cl (cr (cr (cb Tryz.f153))))))))))) (kseq prog (cr (cr (cr (cb Tryz.f153)))) (kfin prog Tryz.f153
 k)) .normal sl H
theorem d153 (a0:Value) (H:AHeap) (k:Value→AHeap→Prop):kbody prog Tryz.f153 [a0] H k=(@bnd (aLen prog H 9 a0) ⟨fun b=>@bnd (gif (.bool false) true ((some b)) undef) ⟨fun t=>@bnd (gif (.bool
 false) true (aBin2 prog H .lss 3 (.const (.int .i64 0)) (.tmp 14) (.int .i64 0) t) undef) ⟨fun u=>@bnd (gif (.bool false) true ((some u)) undef) ⟨fun f=>@bnd (gif f true ((some b)) undef) ⟨fun
 v=>@bnd (gif f true (aBin2 prog H .lss 3 (.tmp 17) (.const (.int .i64 10)) v (.int .i64 10)) undef) ⟨fun w=>@bnd (gif (.bool false) true (pickV f w (.bool false)) undef) ⟨fun x=>@bnd
 (pickV (.bool false) x (.bool false)) ⟨fun c=>@bnd (gif c false ((some (.bool true))) undef) ⟨fun d=>@bnd (gif d true ((some b)) undef) ⟨fun g=>@bnd (gif d true (aBin2 prog H .lss 3
 (.const (.int .i64 0)) (.tmp 23) (.int .i64 0) g) undef) ⟨fun h=>@bnd (gif d true ((some h)) undef) ⟨fun e=>@bnd (gif e true ((some b)) undef) ⟨fun i=>@bnd (gif e true (aBin2
 prog H .lss 3 (.tmp 26) (.const (.int .i64 19)) i (.int .i64 19)) undef) ⟨fun j=>@bnd (gif d true (pickV e j (.bool false)) undef) ⟨fun l=>@bnd (gif c false (pickV d l (.bool
 false)) undef) ⟨fun m=>@bnd (pickV c (.bool true) m) ⟨fun n=>@kifB n ⟨@bnd (aIndex prog 9 a0 (.int .i64 0)) ⟨fun o=>@bnd (aBin2 prog H .eql 5 (.tmp 33) (.const (.int .u8 45)) o
 (.int .u8 45)) ⟨fun a=>@bnd (gif a false ((some a0)) undef) ⟨fun p=>@bnd (gif a false (aIndex prog 9 p (.int .i64 0)) undef) ⟨fun q=>@bnd (gif a false (aBin2 prog H .eql 5
 (.tmp 37) (.const (.int .u8 43)) q (.int .u8 43)) undef) ⟨fun r=>@bnd (pickV a (.bool true) r) ⟨fun s=>@kifB s ⟨kx prog (cl (cr (cl (cr (cl (cr (cl (cr (cr (cb Tryz.f153)))))))))) [a0,
 undef,(.int .i64 0),.nilIface,b,a0,undef,undef,undef,undef,undef,a0,b,(.bool false),t,u,f,v,w,x,c,c,d,g,h,e,i,j,l,m,
 n,a0,a0,o,a,a,p,q,r,s,undef,undef,undef,undef,undef,undef,undef,undef,undef,undef,undef,undef,undef,undef,undef,undef,undef,undef,undef,undef,undef,undef,
 undef,undef,undef,undef,undef,undef,undef,undef,undef,undef,undef,undef,undef,undef,undef] H (kseq prog (cr (cr (cl (cr (cl (cr (cr (cb Tryz.f153)))))))) (kseq prog (cr (cr (cr (cb Tryz.f153)))) (kfin
 prog Tryz.f153 k)))⟩ ⟨S153x0  k [a0,undef,(.int .i64 0),.nilIface,b,a0,undef,undef,undef,undef,undef,a0,b,(.bool false),t,u,f,v,w,x,c,c,d,g,h,
 e,i,j,l,m,n,a0,a0,o,a,a,p,q,r,s,undef,undef,undef,undef,undef,undef,undef,undef,undef,undef,undef,undef,undef,undef,undef,undef,
 undef,undef,undef,undef,undef,undef,undef,undef,undef,undef,undef,undef,undef,undef,undef,undef,undef,undef,undef,undef,undef] H⟩⟩⟩⟩⟩⟩⟩⟩ ⟨@bndC prog 174 [a0,(.int .i64 10),(.int .i64 0)] H ⟨fun y
 H25=>@bnd (tupV y 0) ⟨fun z=>@bnd (tupV y 1) ⟨fun A=>k (.tuple #[z,A]) H25⟩⟩⟩⟩⟩⟩⟩⟩⟩⟩⟩⟩⟩⟩⟩⟩⟩⟩⟩⟩⟩):=by kernel_rfl
theorem S153x0q (c s1 s2 s3 s4 s5 s6 s7 s8 s9 d e f g h i j l m o p q r s t u v w x y z A B C D E F G I J K L M N O P ar au av aw Q R S T U
 V W X Y Z aa ab ac ad ae af ag ah ai aj ak al am an ao ap aq:Value) (H:AHeap) (k:Value→AHeap→Prop):S153x0 k [c,s1,s2,s3,s4,s5,s6,s7,s8,s9,d,e,f,g,h,i,j,l,
 m,o,p,q,r,s,t,u,v,w,x,y,z,A,B,C,D,E,F,G,I,J,K,L,M,N,O,P,ar,au,av,aw,Q,R,S,T,U,V,W,X,Y,Z,aa,ab,ac,
 ad,ae,af,ag,ah,ai,aj,ak,al,am,an,ao,ap,aq] H=(@bndE (aConv prog H 9 55 c) ⟨fun a H29=>@bnd (aLen prog H29 55 a) ⟨fun b=>∃ n,L153x0 n  k [c,s1,s2,s3,s4,s5,(.int
 .i64 0),s7,s8,s9,d,e,f,g,h,i,j,l,m,o,p,q,r,s,t,u,v,w,x,y,z,A,B,C,D,E,F,G,I,J,K,L,M,N,O,P,c,a,b,(.int
 .i64 0),Q,R,S,T,U,V,W,X,Y,Z,aa,ab,ac,ad,ae,af,ag,ah,ai,aj,ak,al,am,an,ao,ap,aq] H29⟩⟩):=by kernel_rfl
theorem L153x0q (n0:Nat) (s0 s1 s2 s3 s4 p s6 s7 s8 s9 q r s t u v w x y z A B C D E F G I J K L M N O P Q R S T U V W X Y Z aa ab g h f aE an ao
 ap aq ar au ac av aw ax ay az aA aB aC aD ad ae af ag ah ai aj ak al am:Value) (H:AHeap) (k:Value→AHeap→Prop):L153x0 (n0+1) k [s0,s1,s2,s3,s4,p,s6,s7,s8,s9,q,r,s,t,
 u,v,w,x,y,z,A,B,C,D,E,F,G,I,J,K,L,M,N,O,P,Q,R,S,T,U,V,W,X,Y,Z,aa,ab,g,h,f,aE,an,ao,ap,aq,ar,au,ac,av,
 aw,ax,ay,az,aA,aB,aC,aD,ad,ae,af,ag,ah,ai,aj,ak,al,am] H=(@bnd (aBin2 prog H .lss 3 (.tmp 49) (.tmp 48) f h) ⟨fun b=>@kifB b ⟨@bnd (aIndexAddr prog H 55 g f)
 ⟨fun i=>@bnd (aLoad prog H 5 i) ⟨fun c=>@bnd (aBin2 prog H .sub 5 (.tmp 53) (.const (.int .u8 48)) c (.int .u8 48)) ⟨fun a=>@bnd (aBin2 prog H .gtr 5 (.tmp 55) (.const (.int .u8 9))
 a (.int .u8 9)) ⟨fun j=>@kifB j ⟨k (.tuple #[(.int .i64 0),(.iface 205 (.int .i64 2))]) H⟩ ⟨@bnd (aBin2 prog H .mul 3 (.tmp 58) (.const (.int .i64 10)) s6 (.int .i64 10)) ⟨fun l=>@bnd (convV
 prog H 5 3 a) ⟨fun m=>@bnd (aBin2 prog H .add 3 (.tmp 59) (.tmp 61) l m) ⟨fun n=>@bnd (aBin2 prog H .add 3 (.tmp 49) (.const (.int .i64 1)) f (.int .i64 1)) ⟨fun o=>L153x0 n0
  k [s0,s1,s2,s3,s4,p,n,s7,a,s9,q,r,s,t,u,v,w,x,y,z,A,B,C,D,E,F,G,I,J,K,L,M,N,O,P,Q,R,S,T,U,V,W,X,Y,Z,
 aa,ab,g,h,o,b,i,c,c,a,a,j,ac,s6,l,a,m,n,o,aB,aC,aD,ad,ae,af,ag,ah,ai,aj,ak,al,am] H⟩⟩⟩⟩⟩⟩⟩⟩⟩⟩ ⟨@bnd (aIndex
 prog 9 p (.int .i64 0)) ⟨fun d=>@bnd (aBin2 prog H .eql 5 (.tmp 65) (.const (.int .u8 45)) d (.int .u8 45)) ⟨fun e=>@kifB e ⟨kx prog (cl (cr (cl (cr (cr (cr (cr (cl (cr (cl (cr (cr (cb
 Tryz.f153))))))))))))) [s0,s1,s2,s3,s4,p,s6,s7,s8,s9,q,r,s,t,u,v,w,x,y,z,A,B,C,D,E,F,G,I,J,K,L,M,N,O,P,Q,R,S,T,U,V,W,
 X,Y,Z,aa,ab,g,h,f,b,an,ao,ap,aq,ar,au,ac,av,aw,ax,ay,az,aA,p,d,e,ad,ae,af,ag,ah,ai,aj,ak,al,am] H (kseq prog (cr (cr (cr (cr (cr (cl
 (cr (cl (cr (cr (cb Tryz.f153))))))))))) (kseq prog (cr (cr (cr (cb Tryz.f153)))) (kfin prog Tryz.f153 k)))⟩ ⟨S153x1  k [s0,s1,s2,s3,s4,p,s6,s7,s8,s9,q,r,s,t,u,v,w,x,y,z,A,
 B,C,D,E,F,G,I,J,K,L,M,N,O,P,Q,R,S,T,U,V,W,X,Y,Z,aa,ab,g,h,f,b,an,ao,ap,aq,ar,au,ac,av,aw,ax,ay,az,aA,p,
 d,e,ad,ae,af,ag,ah,ai,aj,ak,al,am] H⟩⟩⟩⟩⟩):=by kernel_rfl
theorem S153x1q (s0 s1 s2 s3 s4 s5 a s7 s8 s9 b c d e f g h i j l m n o p q r s t u v w x y z A B C D E F G I J K L M N O P Q R S T U V
 W X Y Z aa ab ac ad ae af ag ah ai aj ak al am an ao ap aq ar:Value) (H:AHeap) (k:Value→AHeap→Prop):S153x1 k [s0,s1,s2,s3,s4,s5,a,s7,s8,s9,b,c,d,e,f,g,h,i,
 j,l,m,n,o,p,q,r,s,t,u,v,w,x,y,z,A,B,C,D,E,F,G,I,J,K,L,M,N,O,P,Q,R,S,T,U,V,W,X,Y,Z,aa,ab,ac,ad,
 ae,af,ag,ah,ai,aj,ak,al,am,an,ao,ap,aq,ar] H=(k (.tuple #[a,.nilIface]) H):=by kernel_rfl
-- strconv.toError
theorem d154 (a0 a1 a2 a3 a4:Value) (H:AHeap) (k:Value→AHeap→Prop):kbody prog Tryz.f154 [a0,a1,a2,a3,a4] H k=(@bnd (aBin2 prog H .eql 118 (.tmp 11) (.tmp 13) a4 (.iface 205 (.int .i64 2))) ⟨fun v14x1
=>@kifB v14x1 ⟨@bndC prog 175 [a0,a1] H ⟨fun v17x2 H3=>k (.iface 208 v17x2) H3⟩⟩ ⟨@bnd (aBin2 prog H .eql 118 (.tmp 11) (.tmp 20) a4 (.iface 205 (.int .i64 1))) ⟨fun v21x4=>@kifB v21x4 ⟨@bndC prog 176 [a0,
 a1] H ⟨fun v24x5 H6=>k (.iface 208 v24x5) H6⟩⟩ ⟨kx prog (cr (cr (cr (cr (cl (cr (cl (cr (cb Tryz.f154))))))))) [a0,a1,a2,a3,a4,undef,undef,undef,undef,undef,.nilIface,a4,v14x1,(.iface 205 (.int .i64 2)),
 v14x1,undef,undef,undef,undef,v21x4,(.iface 205 (.int .i64 1)),v21x4,undef,undef,undef,undef,undef,undef,undef,undef,undef,undef,undef,undef,undef,undef,undef,undef,undef,undef,undef,undef,undef] H
 (kblk 0 (kseq prog (cr (cr (cb Tryz.f154))) (kfin prog Tryz.f154 k)))⟩⟩⟩⟩):=by kernel_rfl
-- strings.CutPrefix
theorem d155 (a0 a1:Value) (H:AHeap) (k:Value→AHeap→Prop):kbody prog Tryz.f155 [a0,a1] H k=(@bndC prog 179 [a0,a1] H ⟨fun v8x1 H2=>@bnd (tupV v8x1 0) ⟨fun v9x3=>@bnd (tupV v8x1 1) ⟨fun v10x4=>k
 (.tuple #[v9x3,v10x4]) H2⟩⟩⟩):=by kernel_rfl
-- tocsin/fixed.cut
def L156x0 (n:Nat) (k:Value→AHeap→Prop) (sl:List Value) (H:AHeap):Prop:=kit prog (cl (cl (cr (cl (cr (cr (cl (cr (cb Tryz.f156))))))))) n (kblk 0 (kseq prog (cr (cr (cr (cl (cr (cb Tryz.f156)))))) (kfin
 prog Tryz.f156 k))) .normal sl H
def S156x0 (n0:Nat) (k:Value→AHeap→Prop) (sl:List Value) (H:AHeap):Prop:=kseq prog (cr (cr (cl (cl (cr (cr (cl (cl (cr (cl (cr (cr (cl (cr (cb Tryz.f156))))))))))))))) (kblk 1 (kseq prog (cr (cr (cr (cl
 (cl (cr (cl (cr (cr (cl (cr (cb Tryz.f156)))))))))))) (kit prog (cl (cl (cr (cl (cr (cr (cl (cr (cb Tryz.f156))))))))) n0 (kblk 0 (kseq prog (cr (cr (cr (cl (cr (cb Tryz.f156)))))) (kfin prog Tryz.f156 k))))))
 .normal sl H
def S156x1 (k:Value→AHeap→Prop) (sl:List Value) (H:AHeap):Prop:=kseq prog (cr (cr (cr (cl (cr (cb Tryz.f156)))))) (kfin prog Tryz.f156 k) .normal sl H
def S156x2 (n0:Nat) (k:Value→AHeap→Prop) (sl:List Value) (H:AHeap):Prop:=kseq prog (cr (cr (cr (cl (cl (cr (cl (cr (cr (cl (cr (cb Tryz.f156)))))))))))) (kit prog (cl (cl (cr (cl (cr (cr (cl (cr (cb
 Tryz.f156))))))))) n0 (kblk 0 (kseq prog (cr (cr (cr (cl (cr (cb Tryz.f156)))))) (kfin prog Tryz.f156 k)))) .normal sl H
def B156x0 (n0:Nat) (k:Value→AHeap→Prop) (sl:List Value) (H:AHeap):Prop:=(kblk 2 (kseq prog (cr (cr (cl (cl (cr (cr (cl (cl (cr (cl (cr (cr (cl (cr (cb Tryz.f156))))))))))))))) (kblk 1 (kseq prog (cr (cr
 (cr (cl (cl (cr (cl (cr (cr (cl (cr (cb Tryz.f156)))))))))))) (kit prog (cl (cl (cr (cl (cr (cr (cl (cr (cb Tryz.f156))))))))) n0 (kblk 0 (kseq prog (cr (cr (cr (cl (cr (cb Tryz.f156)))))) (kfin prog Tryz.f156
 k)))))))) (.exit 0) sl H
def B156x1 (n0:Nat) (k:Value→AHeap→Prop) (sl:List Value) (H:AHeap):Prop:=(kseq prog (cr (cr (cl (cl (cr (cl (cr (cr (cl (cr (cb Tryz.f156))))))))))) (kit prog (cl (cl (cr (cl (cr (cr (cl (cr (cb
 Tryz.f156))))))))) n0 (kblk 0 (kseq prog (cr (cr (cr (cl (cr (cb Tryz.f156)))))) (kfin prog Tryz.f156 k))))) (.exit 0) sl H
theorem B156x0q (n0:Nat) (sl:List Value) (H:AHeap) (k:Value→AHeap→Prop):B156x0 n0 k sl H=S156x1  k sl H:=by kernel_rfl
theorem B156x1q (n0:Nat) (sl:List Value) (H:AHeap) (k:Value→AHeap→Prop):B156x1 n0 k sl H=S156x1  k sl H:=by kernel_rfl
theorem d156 (a0:Value) (H:AHeap) (k:Value→AHeap→Prop):kbody prog Tryz.f156 [a0] H k=(@bnd (aLen prog H 9 a0) ⟨fun v8x1=>∃ n,L156x0 n  k [a0,undef,(.string { data:=#[] }),(.string { data:=#[] }),
 (.bool false),(.int .i64 (-1)),undef,a0,v8x1,(.int .i64 0),undef,undef,undef,undef,undef,undef,undef,undef,undef,undef,undef,undef,undef,undef,undef,undef,undef,undef,undef,undef,undef,undef,undef,
 undef,undef,undef,undef,undef,undef,undef,undef,undef,undef,undef,undef,undef,undef,undef,undef,undef,undef,undef,undef,undef,undef,undef,undef,undef,undef,undef,undef,undef,undef,undef,undef,
 undef] H⟩):=by kernel_rfl
theorem L156x0q (n0:Nat) (g s1 s2 s3 s4 s5 s6 s7 Z c ax aj ak al am an ao ap aq ar au av aw aa ab ac ad ae af ag ah ai Y q r s t u v w x y z A B C D E F G I J K
 L M N O P Q R S T U V W X:Value) (H:AHeap) (k:Value→AHeap→Prop):L156x0 (n0+1) k [g,s1,s2,s3,s4,s5,s6,s7,Z,c,ax,aj,ak,al,am,an,ao,ap,aq,ar,au,av,aw,
 aa,ab,ac,ad,ae,af,ag,ah,ai,Y,q,r,s,t,u,v,w,x,y,z,A,B,C,D,E,F,G,I,J,K,L,M,N,O,P,Q,R,S,T,U,V,W,X] H=(@bnd
 (aBin2 prog H .lss 3 (.tmp 9) (.tmp 8) c Z) ⟨fun f=>@kifB f ⟨@bnd (aIndex prog 9 g c) ⟨fun h=>@bnd (aBin2 prog H .geq 5 (.tmp 15) (.const (.int .u8 48)) h (.int .u8 48)) ⟨fun a=>@bnd
 (gif a true ((some g)) undef) ⟨fun i=>@bnd (gif a true ((some c)) undef) ⟨fun j=>@bnd (gif a true (aIndex prog 9 i j) undef) ⟨fun l=>@bnd (gif a true (aBin2 prog H .leq 5
 (.tmp 20) (.const (.int .u8 57)) l (.int .u8 57)) undef) ⟨fun m=>@bnd (pickV a m (.bool false)) ⟨fun d=>@kifB d ⟨S156x0 n0 k [g,s1,s2,s3,s4,s5,c,s7,Z,c,f,c,d,g,c,h,
 a,a,i,j,l,m,d,aa,ab,ac,ad,ae,af,ag,ah,ai,Y,q,r,s,t,u,v,w,x,y,z,A,B,C,D,E,F,G,I,J,K,L,M,N,O,P,
 Q,R,S,T,U,V,W,X] H⟩ ⟨@bnd (aIndex prog 9 g c) ⟨fun n=>@bnd (aBin2 prog H .eql 5 (.tmp 26) (.const (.int .u8 46)) n (.int .u8 46)) ⟨fun b=>@bnd (gif b true ((some s5))
 undef) ⟨fun o=>@bnd (gif b true (aBin2 prog H .lss 3 (.tmp 29) (.const (.int .i64 0)) o (.int .i64 0)) undef) ⟨fun p=>@bnd (pickV b p (.bool false)) ⟨fun e=>@kifB e ⟨S156x0 n0
 k [g,s1,s2,s3,s4,c,c,s7,Z,c,f,c,d,g,c,h,a,a,i,j,l,m,d,e,g,c,n,b,b,o,p,e,c,q,r,s,t,u,v,w,
 x,y,z,A,B,C,D,E,F,G,I,J,K,L,M,N,O,P,Q,R,S,T,U,V,W,X] H⟩ ⟨B156x0 n0 k [g,s1,s2,s3,s4,s5,c,s7,Z,c,f,c,d,g,c,h,a,
 a,i,j,l,m,d,e,g,c,n,b,b,o,p,e,Y,q,r,s,t,u,v,w,x,y,z,A,B,C,D,E,F,G,I,J,K,L,M,N,
 O,P,Q,R,S,T,U,V,W,X] H⟩⟩⟩⟩⟩⟩⟩⟩⟩⟩⟩⟩⟩⟩⟩ ⟨B156x1 n0 k [g,s1,s2,s3,s4,s5,s6,s7,Z,c,f,aj,ak,al,am,an,ao,ap,aq,ar,au,av,aw,aa,ab,ac,ad,ae,af,ag,ah,
 ai,Y,q,r,s,t,u,v,w,x,y,z,A,B,C,D,E,F,G,I,J,K,L,M,N,O,P,Q,R,S,T,U,V,W,X] H⟩⟩):=by kernel_rfl
theorem S156x0q (n0:Nat) (d s1 s2 s3 s4 s5 e s7 s8 s9 f g h i j l m n o p q r s t u v w x y z A B C ag ah ai aj ak D E F G I J K L M N O P Q R S
 T U V W X Y Z aa ab ac ad ae af:Value) (H:AHeap) (k:Value→AHeap→Prop):S156x0 n0 k [d,s1,s2,s3,s4,s5,e,s7,s8,s9,f,g,h,i,j,l,m,n,o,p,q,r,s,t,
 u,v,w,x,y,z,A,B,C,ag,ah,ai,aj,ak,D,E,F,G,I,J,K,L,M,N,O,P,Q,R,S,T,U,V,W,X,Y,Z,aa,ab,ac,ad,ae,af] H=(@bnd (aLen
 prog H 9 d) ⟨fun a=>@bnd (aBin2 prog H .sub 3 (.tmp 35) (.const (.int .i64 1)) a (.int .i64 1)) ⟨fun b=>@bnd (aBin2 prog H .eql 3 (.tmp 33) (.tmp 36) e b) ⟨fun c=>@kifB c
 ⟨S156x2 n0 k [d,s1,s2,s3,(.bool true),s5,e,s7,s8,s9,f,g,h,i,j,l,m,n,o,p,q,r,s,t,u,v,w,x,y,z,A,B,C,e,d,a,b,c,D,E,F,
 G,I,J,K,L,M,N,O,P,Q,R,S,T,U,V,W,X,Y,Z,aa,ab,ac,ad,ae,af] H⟩ ⟨S156x2 n0 k [d,s1,s2,s3,s4,s5,e,s7,s8,s9,f,g,h,i,j,l,m,n,o,
 p,q,r,s,t,u,v,w,x,y,z,A,B,C,e,d,a,b,c,D,E,F,G,I,J,K,L,M,N,O,P,Q,R,S,T,U,V,W,X,Y,Z,aa,ab,ac,
 ad,ae,af] H⟩⟩⟩⟩):=by kernel_rfl
theorem S156x1q (q s1 s2 s3 e r s6 s7 s8 s9 s t u v w x y z A B C D E F G I J K L M N O P Q R S T U V W X Y Z aa ab ac ad ae af ag ah ai aj ak al
 am an ao ap aq ar au av aw ax ay:Value) (H:AHeap) (k:Value→AHeap→Prop):S156x1 k [q,s1,s2,s3,e,r,s6,s7,s8,s9,s,t,u,v,w,x,y,z,A,B,C,D,E,F,G,I,
 J,K,L,M,N,O,P,Q,R,S,T,U,V,W,X,Y,Z,aa,ab,ac,ad,ae,af,ag,ah,ai,aj,ak,al,am,an,ao,ap,aq,ar,au,av,aw,ax,ay] H=(@bnd (aBin2 prog
 H .lss 3 (.tmp 39) (.const (.int .i64 0)) r (.int .i64 0)) ⟨fun f=>@kifB f ⟨k (.tuple #[q,(.string { data:=#[] }),e]) H⟩ ⟨@bnd (aSliceOp prog H 9 q none (some r)) ⟨fun d=>@bnd (aBin2 prog H
 .add 3 (.tmp 47) (.const (.int .i64 1)) r (.int .i64 1)) ⟨fun g=>@bnd (aSliceOp prog H 9 q (some g) none) ⟨fun b=>@bnd (gif e true ((some d)) undef) ⟨fun h=>@bnd (gif e true (aBin2
 prog H .neq 9 (.tmp 54) (.const (.string { data:=#[] })) h (.string { data:=#[] })) undef) ⟨fun i=>@bnd (pickV e i (.bool false)) ⟨fun c=>@bnd (gif c true ((some b)) undef) ⟨fun
 j=>@bnd (gif c true (aBin2 prog H .neq 9 (.tmp 58) (.const (.string { data:=#[] })) j (.string { data:=#[] })) undef) ⟨fun l=>@bnd (pickV c l (.bool false)) ⟨fun a=>@bnd (gif
 a true ((some b)) undef) ⟨fun m=>@bnd (gif a true (aLen prog H 9 m) undef) ⟨fun n=>@bnd (gif a true (aBin2 prog H .leq 3 (.tmp 63) (.const (.int .i64 3)) n (.int .i64 3))
 undef) ⟨fun o=>@bnd (pickV a o (.bool false)) ⟨fun p=>k (.tuple #[d,b,p]) H⟩⟩⟩⟩⟩⟩⟩⟩⟩⟩⟩⟩⟩⟩⟩):=by kernel_rfl
theorem S156x2q (n0:Nat) (s0 s1 s2 s3 s4 s5 s6 s7 s8 s9 b c d e f g h i j l m n o p q r s t u v w x y z A B C D ag E F G I J K L M N O P Q R S
 T U V W X Y Z aa ab ac ad ae af:Value) (H:AHeap) (k:Value→AHeap→Prop):S156x2 n0 k [s0,s1,s2,s3,s4,s5,s6,s7,s8,s9,b,c,d,e,f,g,h,i,j,l,m,n,o,p,
 q,r,s,t,u,v,w,x,y,z,A,B,C,D,ag,E,F,G,I,J,K,L,M,N,O,P,Q,R,S,T,U,V,W,X,Y,Z,aa,ab,ac,ad,ae,af] H=(@bnd (aBin2
 prog H .add 3 (.tmp 9) (.const (.int .i64 1)) s9 (.int .i64 1)) ⟨fun a=>L156x0 n0  k [s0,s1,s2,s3,s4,s5,s6,s7,s8,a,b,c,d,e,f,g,h,i,j,l,m,n,o,p,q,r,s,
 t,u,v,w,x,y,z,A,B,C,D,a,E,F,G,I,J,K,L,M,N,O,P,Q,R,S,T,U,V,W,X,Y,Z,aa,ab,ac,ad,ae,af] H⟩):=by kernel_rfl
end Go.Vi
namespace Go.Vi
open Go Go.Proofs Go.Proofs.Tryz
-- strings.Repeat
def S157x0 (k:Value→AHeap→Prop) (sl:List Value) (H:AHeap):Prop:=kseq prog (cr (cr (cr (cb Tryz.f157)))) (kfin prog Tryz.f157 k) .normal sl H
def S157x1 (k:Value→AHeap→Prop) (sl:List Value) (H:AHeap):Prop:=kseq prog (cr (cr (cr (cr (cr (cb Tryz.f157)))))) (kfin prog Tryz.f157 k) .normal sl H
def S157x2 (k:Value→AHeap→Prop) (sl:List Value) (H:AHeap):Prop:=kseq prog (cr (cl (cr (cl (cr (cr (cr (cr (cr (cr (cr (cb Tryz.f157)))))))))))) (kblk 1 (kseq prog (cr (cr (cr (cr (cr (cr (cr (cr (cb
 Tryz.f157))))))))) (kfin prog Tryz.f157 k))) .normal sl H
def S157x3 (k:Value→AHeap→Prop) (sl:List Value) (H:AHeap):Prop:=kseq prog (cr (cr (cr (cr (cr (cr (cr (cr (cb Tryz.f157))))))))) (kfin prog Tryz.f157 k) .normal sl H
theorem d157 (a0 a1:Value) (H:AHeap) (k:Value→AHeap→Prop):kbody prog Tryz.f157 [a0,a1] H k=(@bnd (aBin2 prog H .eql 3 (.tmp 11) (.const (.int .i64 0)) a1 (.int .i64 0)) ⟨fun v13x1=>@kifB v13x1 ⟨k
 (.string { data:=#[] }) H⟩ ⟨@bnd (aBin2 prog H .eql 3 (.tmp 11) (.const (.int .i64 1)) a1 (.int .i64 1)) ⟨fun v15x2=>@kifB v15x2 ⟨k a0 H⟩ ⟨@bnd (aBin2 prog H .lss 3 (.tmp 17) (.const (.int .i64 0)) a1 (.int .i64
 0)) ⟨fun v18x3=>@kifB v18x3 ⟨@bndE (none) ⟨fun _ H5=>S157x0  k [a0,a1,undef,undef,(.string { data:=#[] }),undef,undef,undef,undef,undef,undef,a1,v13x1,v13x1,v15x2,v15x2,undef,a1,v18x3,(.iface 9 (.string
 { data:=#[115,116,114,105,110,103,115,58,32,110,101,103,97,116,105,118,101,32,82,101,112,101,97,116,32,99,111,117,110,116] })),undef,undef,undef,undef,undef,undef,undef,undef,undef,
 undef,undef,undef,undef,undef,undef,undef,undef,undef,undef,undef,undef,undef,undef,undef,undef,undef,undef,undef,undef,undef,undef,undef,undef,undef,undef,undef,undef,undef,undef,undef,undef,
 undef,undef,undef,undef,undef,undef,undef,undef,undef,undef,undef,undef,undef,undef,undef,undef,undef,undef,undef,undef,undef,undef,undef,undef,undef,undef,undef,undef,undef,undef,undef,undef,
 undef,undef,undef,undef,undef,undef,undef,undef,undef,undef,undef,undef,undef,undef,undef,undef,undef,undef,undef,undef,undef,undef,undef,undef,undef,undef,undef,undef,undef,undef,undef,undef]
 H5⟩⟩ ⟨S157x0  k [a0,a1,undef,undef,(.string { data:=#[] }),undef,undef,undef,undef,undef,undef,a1,v13x1,v13x1,v15x2,v15x2,undef,a1,v18x3,undef,undef,undef,undef,undef,undef,undef,undef,undef,undef,
 undef,undef,undef,undef,undef,undef,undef,undef,undef,undef,undef,undef,undef,undef,undef,undef,undef,undef,undef,undef,undef,undef,undef,undef,undef,undef,undef,undef,undef,undef,undef,undef,
 undef,undef,undef,undef,undef,undef,undef,undef,undef,undef,undef,undef,undef,undef,undef,undef,undef,undef,undef,undef,undef,undef,undef,undef,undef,undef,undef,undef,undef,undef,undef,undef,
 undef,undef,undef,undef,undef,undef,undef,undef,undef,undef,undef,undef,undef,undef,undef,undef,undef,undef,undef,undef,undef,undef,undef,undef,undef,undef,undef,undef,undef,undef,undef,undef]
 H⟩⟩⟩⟩⟩⟩):=by kernel_rfl
theorem S157x0q (L M s2 s3 s4 s5 s6 s7 s8 s9 N O P Q R S T U V W bc bd be bf bg bh bi bj bk bl bm bn bo bp bq bb X Y Z aa ab ac ad ae af ag ah ai aj ak al am an ao ap
 aq ar au av aw ax ay az aA aB aC aD aE aF aG aH aI aJ aK aL aM aN aO aP aQ aR aS aT aU aV aW aX aY aZ a0 a1 a2 a3 a4 a5 a6 a7 a8 a9 ba l m n o p q r s t
 u v w x y z A B C D E F G I J K:Value) (H:AHeap) (k:Value→AHeap→Prop):S157x0 k [L,M,s2,s3,s4,s5,s6,s7,s8,s9,N,O,P,Q,R,S,T,U,V,
 W,bc,bd,be,bf,bg,bh,bi,bj,bk,bl,bm,bn,bo,bp,bq,bb,X,Y,Z,aa,ab,ac,ad,ae,af,ag,ah,ai,aj,ak,al,am,an,ao,ap,aq,ar,au,av,aw,ax,ay,az,aA,
 aB,aC,aD,aE,aF,aG,aH,aI,aJ,aK,aL,aM,aN,aO,aP,aQ,aR,aS,aT,aU,aV,aW,aX,aY,aZ,a0,a1,a2,a3,a4,a5,a6,a7,a8,a9,ba,l,m,n,o,p,q,r,s,
 t,u,v,w,x,y,z,A,B,C,D,E,F,G,I,J,K] H=(@bnd (aLen prog H 9 L) ⟨fun h=>@bnd (convV prog H 3 132 h) ⟨fun i=>@bnd (convV prog H 3
 132 M) ⟨fun j=>@bndC prog 180 [i,j] H ⟨fun d H10=>@bnd (tupV d 0) ⟨fun a=>@bnd (tupV d 1) ⟨fun c=>@bnd (aBin2 prog H10 .gtr 132 (.tmp 29) (.const (.int .u64 0)) a (.int
 .u64 0)) ⟨fun b=>@bnd (gif b false ((some c)) undef) ⟨fun e=>@bnd (gif b false (aBin2 prog H10 .gtr 132 (.tmp 32) (.const (.int .u64 9223372036854775807)) e (.int .u64
 9223372036854775807)) undef) ⟨fun f=>@bnd (pickV b (.bool true) f) ⟨fun g=>@kifB g ⟨@bndE (none) ⟨fun _ H18=>S157x1  k [L,M,s2,s3,s4,a,c,s7,s8,s9,N,O,P,Q,R,
 S,T,U,V,W,d,L,h,i,M,j,d,a,c,a,b,b,e,f,g,(.iface 9 (.string { data:=#[115,116,114,105,110,103,115,58,32,82,101,112,101,
 97,116,32,111,117,116,112,117,116,32,108,101,110,103,116,104,32,111,118,101,114,102,108,111,119] })),X,Y,Z,aa,ab,ac,ad,ae,af,ag,ah,ai,aj,ak,al,am,an,ao,ap,aq,
 ar,au,av,aw,ax,ay,az,aA,aB,aC,aD,aE,aF,aG,aH,aI,aJ,aK,aL,aM,aN,aO,aP,aQ,aR,aS,aT,aU,aV,aW,aX,aY,aZ,a0,a1,a2,a3,a4,a5,a6,a7,a8,a9,ba,l,
 m,n,o,p,q,r,s,t,u,v,w,x,y,z,A,B,C,D,E,F,G,I,J,K] H18⟩⟩ ⟨S157x1  k [L,M,s2,s3,s4,a,c,s7,s8,s9,N,O,P,
 Q,R,S,T,U,V,W,d,L,h,i,M,j,d,a,c,a,b,b,e,f,g,bb,X,Y,Z,aa,ab,ac,ad,ae,af,ag,ah,ai,aj,ak,al,am,
 an,ao,ap,aq,ar,au,av,aw,ax,ay,az,aA,aB,aC,aD,aE,aF,aG,aH,aI,aJ,aK,aL,aM,aN,aO,aP,aQ,aR,aS,aT,aU,aV,aW,aX,aY,aZ,a0,a1,a2,a3,a4,a5,a6,a7,
 a8,a9,ba,l,m,n,o,p,q,r,s,t,u,v,w,x,y,z,A,B,C,D,E,F,G,I,J,K] H10⟩⟩⟩⟩⟩⟩⟩⟩⟩⟩⟩):=by kernel_rfl
theorem S157x1q (g s1 s2 s3 s4 s5 K s7 s8 s9 L M N O P Q R S T U V W X Y Z aa ab ac ad ae af ag ah ai aj ak bh bi bj bk bl bm bn bo bp bg bf be bc al am an ao ap aq
 ar au av aw ax ay az aA aB aC aD aE aF aG aH aI aJ aK aL aM aN aO aP aQ aR aS aT aU aV aW aX aY aZ a0 a1 a2 a3 a4 a5 a6 a7 a8 a9 ba bb j l m n o p q r s
 t u v w x y z A B C D E F G I J:Value) (H:AHeap) (k:Value→AHeap→Prop):S157x1 k [g,s1,s2,s3,s4,s5,K,s7,s8,s9,L,M,N,O,P,Q,R,S,T,
 U,V,W,X,Y,Z,aa,ab,ac,ad,ae,af,ag,ah,ai,aj,ak,bh,bi,bj,bk,bl,bm,bn,bo,bp,bg,bf,be,bc,al,am,an,ao,ap,aq,ar,au,av,aw,ax,ay,az,aA,aB,
 aC,aD,aE,aF,aG,aH,aI,aJ,aK,aL,aM,aN,aO,aP,aQ,aR,aS,aT,aU,aV,aW,aX,aY,aZ,a0,a1,a2,a3,a4,a5,a6,a7,a8,a9,ba,bb,j,l,m,n,o,p,q,r,
 s,t,u,v,w,x,y,z,A,B,C,D,E,F,G,I,J] H=(@bnd (convV prog H 132 3 K) ⟨fun a=>@bnd (aLen prog H 9 g) ⟨fun d=>@bnd (aBin2 prog H
 .eql 3 (.tmp 39) (.const (.int .i64 0)) d (.int .i64 0)) ⟨fun e=>@kifB e ⟨k (.string { data:=#[] }) H⟩ ⟨@bnd (aIndex prog 9 g (.int .i64 0)) ⟨fun b=>@bnd (aBin2 prog H .eql 5 (.tmp 42)
 (.const (.int .u8 32)) b (.int .u8 32)) ⟨fun c=>@kifB c ⟨S157x2  k [g,s1,s2,s3,s4,s5,K,a,s8,s9,L,M,N,O,P,Q,R,S,T,U,V,W,X,Y,Z,aa,ab,ac,ad,
 ae,af,ag,ah,ai,aj,ak,K,a,g,d,e,g,b,c,c,bg,bf,be,bc,al,am,an,ao,ap,aq,ar,au,av,aw,ax,ay,az,aA,aB,aC,aD,aE,aF,aG,aH,aI,
 aJ,aK,aL,aM,aN,aO,aP,aQ,aR,aS,aT,aU,aV,aW,aX,aY,aZ,a0,a1,a2,a3,a4,a5,a6,a7,a8,a9,ba,bb,j,l,m,n,o,p,q,r,s,t,u,v,w,
 x,y,z,A,B,C,D,E,F,G,I,J] H⟩ ⟨@bnd (aBin2 prog H .eql 5 (.tmp 42) (.const (.int .u8 45)) b (.int .u8 45)) ⟨fun f=>@kifB f ⟨S157x2  k [g,s1,s2,s3,s4,s5,
 K,a,s8,s9,L,M,N,O,P,Q,R,S,T,U,V,W,X,Y,Z,aa,ab,ac,ad,ae,af,ag,ah,ai,aj,ak,K,a,g,d,e,g,b,f,c,f,bf,be,
 bc,al,am,an,ao,ap,aq,ar,au,av,aw,ax,ay,az,aA,aB,aC,aD,aE,aF,aG,aH,aI,aJ,aK,aL,aM,aN,aO,aP,aQ,aR,aS,aT,aU,aV,aW,aX,aY,aZ,a0,a1,a2,a3,a4,
 a5,a6,a7,a8,a9,ba,bb,j,l,m,n,o,p,q,r,s,t,u,v,w,x,y,z,A,B,C,D,E,F,G,I,J] H⟩ ⟨@bnd (aBin2 prog H .eql 5 (.tmp
 42) (.const (.int .u8 48)) b (.int .u8 48)) ⟨fun h=>@kifB h ⟨S157x2  k [g,s1,s2,s3,s4,s5,K,a,s8,s9,L,M,N,O,P,Q,R,S,T,U,V,W,X,Y,Z,aa,ab,ac,ad,
 ae,af,ag,ah,ai,aj,ak,K,a,g,d,e,g,b,h,c,f,h,be,bc,al,am,an,ao,ap,aq,ar,au,av,aw,ax,ay,az,aA,aB,aC,aD,aE,aF,aG,aH,
 aI,aJ,aK,aL,aM,aN,aO,aP,aQ,aR,aS,aT,aU,aV,aW,aX,aY,aZ,a0,a1,a2,a3,a4,a5,a6,a7,a8,a9,ba,bb,j,l,m,n,o,p,q,r,s,t,u,v,w,
 x,y,z,A,B,C,D,E,F,G,I,J] H⟩ ⟨@bnd (aBin2 prog H .eql 5 (.tmp 42) (.const (.int .u8 61)) b (.int .u8 61)) ⟨fun i=>@kifB i ⟨S157x2  k [g,s1,s2,s3,s4,s5,
 K,a,s8,s9,L,M,N,O,P,Q,R,S,T,U,V,W,X,Y,Z,aa,ab,ac,ad,ae,af,ag,ah,ai,aj,ak,K,a,g,d,e,g,b,i,c,f,h,
 i,bc,al,am,an,ao,ap,aq,ar,au,av,aw,ax,ay,az,aA,aB,aC,aD,aE,aF,aG,aH,aI,aJ,aK,aL,aM,aN,aO,aP,aQ,aR,aS,aT,aU,aV,aW,aX,aY,aZ,a0,a1,a2,a3,
 a4,a5,a6,a7,a8,a9,ba,bb,j,l,m,n,o,p,q,r,s,t,u,v,w,x,y,z,A,B,C,D,E,F,G,I,J] H⟩ ⟨@bnd (aBin2 prog H .eql 5
 (.tmp 42) (.const (.int .u8 9)) b (.int .u8 9)) ⟨fun bd=>S157x2  k [g,s1,s2,s3,s4,s5,K,a,s8,s9,L,M,N,O,P,Q,R,S,T,U,V,W,X,Y,Z,aa,ab,ac,ad,ae,af,
 ag,ah,ai,aj,ak,K,a,g,d,e,g,b,bd,c,f,h,i,bd,al,am,an,ao,ap,aq,ar,au,av,aw,ax,ay,az,aA,aB,aC,aD,aE,aF,aG,aH,aI,
 aJ,aK,aL,aM,aN,aO,aP,aQ,aR,aS,aT,aU,aV,aW,aX,aY,aZ,a0,a1,a2,a3,a4,a5,a6,a7,a8,a9,ba,bb,j,l,m,n,o,p,q,r,s,t,u,v,w,
 x,y,z,A,B,C,D,E,F,G,I,J] H⟩⟩⟩⟩⟩⟩⟩⟩⟩⟩⟩⟩⟩⟩):=by kernel_rfl
theorem S157x2q (r s1 s2 s3 s4 s5 s6 a s8 s9 Y Z aa ab ac ad ae af ag ah ai aj ak al am an ao ap aq ar au av aw ax ay az aA aB aC aD aE aF aG X aH aI aJ aK aL a7 a8 a9 ba bb bc
 bd aM aN be bf bg bh bi bj bk aO aP bl bm bn bo bp bq br aQ aR bs bt bu bv bw bx bz aS aT bA bB bC bD bE bF bG aU aV aW aX aY aZ a0 a1 x y z A B C D E F
 G I J K L M N O P Q R S T U V W:Value) (H:AHeap) (k:Value→AHeap→Prop):S157x2 k [r,s1,s2,s3,s4,s5,s6,a,s8,s9,Y,Z,aa,ab,ac,ad,ae,af,ag,
 ah,ai,aj,ak,al,am,an,ao,ap,aq,ar,au,av,aw,ax,ay,az,aA,aB,aC,aD,aE,aF,aG,X,aH,aI,aJ,aK,aL,a7,a8,a9,ba,bb,bc,bd,aM,aN,be,bf,bg,bh,bi,bj,
 bk,aO,aP,bl,bm,bn,bo,bp,bq,br,aQ,aR,bs,bt,bu,bv,bw,bx,bz,aS,aT,bA,bB,bC,bD,bE,bF,bG,aU,aV,aW,aX,aY,aZ,a0,a1,x,y,z,A,B,C,D,E,
 F,G,I,J,K,L,M,N,O,P,Q,R,S,T,U,V,W] H=(@kifB X ⟨@bnd (aBin2 prog H .leq 3 (.tmp 50) (.const (.int .i64 128)) a (.int .i64 128)) ⟨fun b=>@bnd
 (gif b true ((some r)) undef) ⟨fun s=>@bndG b true H ⟨fun g H31=>ACalls prog 133 [(.string { data:=#[32,32,32,32,32,32,32,32,32,32,32,32,32,32,32,32,32,32,32,32,32,32,32,
 32,32,32,32,32,32,32,32,32,32,32,32,32,32,32,32,32,32,32,32,32,32,32,32,32,32,32,32,32,32,32,32,32,32,32,32,32,32,32,32,32,32,32,32,32,32,32,32,32,32,32,32,32,32,32,32,32,
 32,32,32,32,32,32,32,32,32,32,32,32,32,32,32,32,32,32,32,32,32,32,32,32,32,32,32,32,32,32,32,32,32,32,32,32,32,32,32,32,32,32,32,32,32,32,32,32] }),s] H g H31⟩ ⟨fun
 g H31=>@bnd (pickV b g (.bool false)) ⟨fun m=>@kifB m ⟨@bnd (aSliceOp prog H31 9 (.string { data:=#[32,32,32,32,32,32,32,32,32,32,32,32,32,32,32,32,32,32,32,32,32,32,32,
 32,32,32,32,32,32,32,32,32,32,32,32,32,32,32,32,32,32,32,32,32,32,32,32,32,32,32,32,32,32,32,32,32,32,32,32,32,32,32,32,32,32,32,32,32,32,32,32,32,32,32,32,32,32,32,32,32,
 32,32,32,32,32,32,32,32,32,32,32,32,32,32,32,32,32,32,32,32,32,32,32,32,32,32,32,32,32,32,32,32,32,32,32,32,32,32,32,32,32,32,32,32,32,32,32,32] }) none (some a)) ⟨fun a2=>k
 a2 H31⟩⟩ ⟨@bnd (aBin2 prog H31 .leq 3 (.tmp 59) (.const (.int .i64 128)) a (.int .i64 128)) ⟨fun c=>@bnd (gif c true ((some r)) undef) ⟨fun t=>@bndG c true H31 ⟨fun h H37=>ACalls
 prog 133 [(.string { data:=#[45,45,45,45,45,45,45,45,45,45,45,45,45,45,45,45,45,45,45,45,45,45,45,45,45,45,45,45,45,45,45,45,45,45,45,45,45,45,45,45,45,45,45,45,45,45,45,45,
 45,45,45,45,45,45,45,45,45,45,45,45,45,45,45,45,45,45,45,45,45,45,45,45,45,45,45,45,45,45,45,45,45,45,45,45,45,45,45,45,45,45,45,45,45,45,45,45,45,45,45,45,45,45,45,45,45,
 45,45,45,45,45,45,45,45,45,45,45,45,45,45,45,45,45,45,45,45,45,45,45] }),t] H31 h H37⟩ ⟨fun h H37=>@bnd (pickV c h (.bool false)) ⟨fun n=>@kifB n ⟨@bnd (aSliceOp
 prog H37 9 (.string { data:=#[45,45,45,45,45,45,45,45,45,45,45,45,45,45,45,45,45,45,45,45,45,45,45,45,45,45,45,45,45,45,45,45,45,45,45,45,45,45,45,45,45,45,45,45,45,45,45,
 45,45,45,45,45,45,45,45,45,45,45,45,45,45,45,45,45,45,45,45,45,45,45,45,45,45,45,45,45,45,45,45,45,45,45,45,45,45,45,45,45,45,45,45,45,45,45,45,45,45,45,45,45,45,45,45,45,
 45,45,45,45,45,45,45,45,45,45,45,45,45,45,45,45,45,45,45,45,45,45,45,45] }) none (some a)) ⟨fun a3=>k a3 H37⟩⟩ ⟨@bnd (aBin2 prog H37 .leq 3 (.tmp 68) (.const (.int .i64 64)) a (.int .i64
 64)) ⟨fun d=>@bnd (gif d true ((some r)) undef) ⟨fun u=>@bndG d true H37 ⟨fun i H43=>ACalls prog 133 [(.string { data:=#[48,48,48,48,48,48,48,48,48,48,48,48,48,48,48,48,48,
 48,48,48,48,48,48,48,48,48,48,48,48,48,48,48,48,48,48,48,48,48,48,48,48,48,48,48,48,48,48,48,48,48,48,48,48,48,48,48,48,48,48,48,48,48,48,48] }),u] H37 i H43⟩ ⟨fun i
 H43=>@bnd (pickV d i (.bool false)) ⟨fun o=>@kifB o ⟨@bnd (aSliceOp prog H43 9 (.string { data:=#[48,48,48,48,48,48,48,48,48,48,48,48,48,48,48,48,48,48,48,48,48,48,48,48,
 48,48,48,48,48,48,48,48,48,48,48,48,48,48,48,48,48,48,48,48,48,48,48,48,48,48,48,48,48,48,48,48,48,48,48,48,48,48,48,48] }) none (some a)) ⟨fun a4=>k a4 H43⟩⟩ ⟨@bnd (aBin2
 prog H43 .leq 3 (.tmp 77) (.const (.int .i64 128)) a (.int .i64 128)) ⟨fun e=>@bnd (gif e true ((some r)) undef) ⟨fun v=>@bndG e true H43 ⟨fun j H49=>ACalls prog 133 [(.string { data
:=#[61,61,61,61,61,61,61,61,61,61,61,61,61,61,61,61,61,61,61,61,61,61,61,61,61,61,61,61,61,61,61,61,61,61,61,61,61,61,61,61,61,61,61,61,61,61,61,61,61,61,61,61,61,61,61,
 61,61,61,61,61,61,61,61,61,61,61,61,61,61,61,61,61,61,61,61,61,61,61,61,61,61,61,61,61,61,61,61,61,61,61,61,61,61,61,61,61,61,61,61,61,61,61,61,61,61,61,61,61,61,61,61,61,
 61,61,61,61,61,61,61,61,61,61,61,61,61,61,61,61] }),v] H43 j H49⟩ ⟨fun j H49=>@bnd (pickV e j (.bool false)) ⟨fun p=>@kifB p ⟨@bnd (aSliceOp prog H49 9 (.string { data
:=#[61,61,61,61,61,61,61,61,61,61,61,61,61,61,61,61,61,61,61,61,61,61,61,61,61,61,61,61,61,61,61,61,61,61,61,61,61,61,61,61,61,61,61,61,61,61,61,61,61,61,61,61,61,61,61,
 61,61,61,61,61,61,61,61,61,61,61,61,61,61,61,61,61,61,61,61,61,61,61,61,61,61,61,61,61,61,61,61,61,61,61,61,61,61,61,61,61,61,61,61,61,61,61,61,61,61,61,61,61,61,61,61,61,
 61,61,61,61,61,61,61,61,61,61,61,61,61,61,61,61] }) none (some a)) ⟨fun a5=>k a5 H49⟩⟩ ⟨@bnd (aBin2 prog H49 .leq 3 (.tmp 86) (.const (.int .i64 64)) a (.int .i64 64)) ⟨fun f=>@bnd (gif
 f true ((some r)) undef) ⟨fun w=>@bndG f true H49 ⟨fun l H55=>ACalls prog 133 [(.string { data:=#[9,9,9,9,9,9,9,9,9,9,9,9,9,9,9,9,9,9,9,9,9,9,9,9,9,9,9,9,9,9,9,9,
 9,9,9,9,9,9,9,9,9,9,9,9,9,9,9,9,9,9,9,9,9,9,9,9,9,9,9,9,9,9,9,9] }),w] H49 l H55⟩ ⟨fun l H55=>@bnd (pickV f l (.bool false)) ⟨fun q=>@kifB q ⟨@bnd (aSliceOp
 prog H55 9 (.string { data:=#[9,9,9,9,9,9,9,9,9,9,9,9,9,9,9,9,9,9,9,9,9,9,9,9,9,9,9,9,9,9,9,9,9,9,9,9,9,9,9,9,9,9,9,9,9,9,9,9,9,9,9,9,9,9,9,9,9,9,9,9,9,9,9,
 9] }) none (some a)) ⟨fun a6=>k a6 H55⟩⟩ ⟨S157x3  k [r,s1,s2,s3,s4,s5,s6,a,s8,s9,Y,Z,aa,ab,ac,ad,ae,af,ag,ah,ai,aj,ak,al,am,an,ao,ap,aq,ar,au,av,aw,ax,
 ay,az,aA,aB,aC,aD,aE,aF,aG,X,aH,aI,aJ,aK,aL,m,a,b,b,s,g,m,aM,aN,n,a,c,c,t,h,n,aO,aP,o,a,d,d,
 u,i,o,aQ,aR,p,a,e,e,v,j,p,aS,aT,q,a,f,f,w,l,q,aU,aV,aW,aX,aY,aZ,a0,a1,x,y,z,A,B,C,
 D,E,F,G,I,J,K,L,M,N,O,P,Q,R,S,T,U,V,W] H55⟩⟩⟩⟩⟩⟩⟩⟩⟩⟩⟩⟩⟩⟩⟩⟩⟩⟩⟩⟩⟩⟩⟩⟩⟩⟩ ⟨S157x3  k [r,s1,s2,s3,s4,s5,s6,a,s8,s9,Y,Z,aa,ab,ac,ad,
 ae,af,ag,ah,ai,aj,ak,al,am,an,ao,ap,aq,ar,au,av,aw,ax,ay,az,aA,aB,aC,aD,aE,aF,aG,X,aH,aI,aJ,aK,aL,a7,a8,a9,ba,bb,bc,bd,aM,aN,be,bf,bg,
 bh,bi,bj,bk,aO,aP,bl,bm,bn,bo,bp,bq,br,aQ,aR,bs,bt,bu,bv,bw,bx,bz,aS,aT,bA,bB,bC,bD,bE,bF,bG,aU,aV,aW,aX,aY,aZ,a0,a1,x,y,z,A,B,
 C,D,E,F,G,I,J,K,L,M,N,O,P,Q,R,S,T,U,V,W] H⟩):=by kernel_rfl
theorem d158 (a0 a1:Value) (H:AHeap) (k:Value→AHeap→Prop):kbody prog Tryz.f158 [a0,a1] H k=(@bnd (aLen prog H 9 a0) ⟨fun i=>@bnd (aLen prog H 9 a1) ⟨fun j=>@bnd (aBin2 prog H .geq 3
 (.tmp 6) (.tmp 8) i j) ⟨fun a=>@bnd (gif a true ((some a0)) undef) ⟨fun c=>@bnd (gif a true ((some a1)) undef) ⟨fun d=>@bnd (gif a true (aLen prog H 9 d) undef) ⟨fun e=>@bnd (gif
 a true (aSliceOp prog H 9 c none (some e)) undef) ⟨fun f=>@bnd (gif a true ((some a1)) undef) ⟨fun g=>@bnd (gif a true (aBin2 prog H .eql 9 (.tmp 14) (.tmp 15) f g) undef) ⟨fun
 h=>@bnd (pickV a h (.bool false)) ⟨fun b=>k b H⟩⟩⟩⟩⟩⟩⟩⟩⟩⟩):=by kernel_rfl
-- tocsin/labels.letter
theorem d162 (a0:Value) (H:AHeap) (k:Value→AHeap→Prop):kbody prog Tryz.f162 [a0] H k=(@bnd (aBin2 prog H .geq 5 (.tmp 3) (.const (.int .u8 97)) a0 (.int .u8 97)) ⟨fun v4x1=>@bnd (gif v4x1 true ((some
 a0)) undef) ⟨fun v6x2=>@bnd (gif v4x1 true (aBin2 prog H .leq 5 (.tmp 6) (.const (.int .u8 122)) v6x2 (.int .u8 122)) undef) ⟨fun v7x3=>@bnd (pickV v4x1 v7x3 (.bool false)) ⟨fun v8x4=>k v8x4 H⟩⟩⟩⟩):=by kernel_rfl
-- tocsin/labels.every
def L163x0 (n:Nat) (k:Value→AHeap→Prop) (sl:List Value) (H:AHeap):Prop:=kit prog (cl (cl (cr (cl (cr (cb Tryz.f163)))))) n (kblk 0 (kseq prog (cr (cr (cb Tryz.f163))) (kfin prog Tryz.f163 k)))
 .normal sl H
theorem d163 (a0 a1:Value) (H:AHeap) (k:Value→AHeap→Prop):kbody prog Tryz.f163 [a0,a1] H k=(@bnd (aLen prog H 9 a0) ⟨fun v7x1=>∃ n,L163x0 n  k [a0,a1,undef,undef,(.bool false),undef,a0,v7x1,
 (.int .i64 0),undef,undef,undef,undef,undef,undef,undef,undef,undef] H⟩):=by kernel_rfl
theorem L163x0q (n0:Nat) (g h j l m w n i a x o p q r s t u v:Value) (H:AHeap) (k:Value→AHeap→Prop):L163x0 (n0+1) k [g,h,j,l,m,w,n,i,a,x,o,p,q,r,s,t,
 u,v] H=(@bnd (aBin2 prog H .lss 3 (.tmp 8) (.tmp 7) a i) ⟨fun f=>@kifB f ⟨@bnd (aIndex prog 9 g a) ⟨fun b=>@bndV prog h [b] H ⟨fun c H5=>@bnd (unV prog .not c) ⟨fun
 d=>@kifB d ⟨k (.bool false) H5⟩ ⟨@bnd (aBin2 prog H5 .add 3 (.tmp 8) (.const (.int .i64 1)) a (.int .i64 1)) ⟨fun e=>L163x0 n0  k [g,h,j,l,m,a,n,i,e,f,a,h,g,a,b,c,
 d,e] H5⟩⟩⟩⟩⟩⟩ ⟨k (.bool true) H⟩⟩):=by kernel_rfl
-- tocsin/labels.mark
theorem d164 (a0:Value) (H:AHeap) (k:Value→AHeap→Prop):kbody prog Tryz.f164 [a0] H k=(@bndC prog 162 [a0] H ⟨fun a H2=>@bnd (gif a false ((some a0)) undef) ⟨fun i=>@bnd (gif a false (aBin2
 prog H2 .geq 5 (.tmp 6) (.const (.int .u8 48)) i (.int .u8 48)) undef) ⟨fun j=>@bnd (gif a false ((some j)) undef) ⟨fun c=>@bnd (gif c true ((some a0)) undef) ⟨fun l=>@bnd (gif c true (aBin2
 prog H2 .leq 5 (.tmp 9) (.const (.int .u8 57)) l (.int .u8 57)) undef) ⟨fun g=>@bnd (gif a false (pickV c g (.bool false)) undef) ⟨fun h=>@bnd (pickV a (.bool true) h) ⟨fun b=>@bnd
 (gif b false ((some a0)) undef) ⟨fun d=>@bnd (gif b false (aBin2 prog H2 .eql 5 (.tmp 14) (.const (.int .u8 95)) d (.int .u8 95)) undef) ⟨fun e=>@bnd (pickV b (.bool true) e) ⟨fun f
=>k f H2⟩⟩⟩⟩⟩⟩⟩⟩⟩⟩⟩):=by kernel_rfl
-- tocsin/labels.MayValue
theorem d165 (a0:Value) (H:AHeap) (k:Value→AHeap→Prop):kbody prog Tryz.f165 [a0] H k=(@bnd (aLen prog H 9 a0) ⟨fun f=>@bnd (aBin2 prog H .geq 3 (.tmp 4) (.const (.int .i64 1)) f (.int .i64 1))
 ⟨fun a=>@bnd (gif a true ((some a0)) undef) ⟨fun g=>@bnd (gif a true (aLen prog H 9 g) undef) ⟨fun h=>@bnd (gif a true (aBin2 prog H .leq 3 (.tmp 8) (.const (.int .i64 32)) h (.int .i64
 32)) undef) ⟨fun i=>@bnd (pickV a i (.bool false)) ⟨fun b=>@bnd (gif b true ((some a0)) undef) ⟨fun e=>@bndG b true H ⟨fun c H9=>ACalls prog 163 [e,(.func (.func 185) #[] #[])] H
 c H9⟩ ⟨fun c H9=>@bnd (pickV b c (.bool false)) ⟨fun d=>k d H9⟩⟩⟩⟩⟩⟩⟩⟩⟩):=by kernel_rfl
-- internal/strconv.log10Pow2
theorem d166 (a0:Value) (H:AHeap) (k:Value→AHeap→Prop):kbody prog Tryz.f166 [a0] H k=(@bnd (aBin2 prog H .mul 3 (.tmp 3) (.const (.int .i64 78913)) a0 (.int .i64 78913)) ⟨fun v4x1=>@bnd (aBin2 prog
 H .shr 3 (.tmp 4) (.const (.int .u64 18)) v4x1 (.int .u64 18)) ⟨fun v5x2=>k v5x2 H⟩⟩):=by kernel_rfl
-- math/bits.Len64
def S167x0 (k:Value→AHeap→Prop) (sl:List Value) (H:AHeap):Prop:=kseq prog (cr (cr (cb Tryz.f167))) (kfin prog Tryz.f167 k) .normal sl H
def S167x1 (k:Value→AHeap→Prop) (sl:List Value) (H:AHeap):Prop:=kseq prog (cr (cr (cr (cb Tryz.f167)))) (kfin prog Tryz.f167 k) .normal sl H
def S167x2 (k:Value→AHeap→Prop) (sl:List Value) (H:AHeap):Prop:=kseq prog (cr (cr (cr (cr (cb Tryz.f167))))) (kfin prog Tryz.f167 k) .normal sl H
theorem d167 (a0:Value) (H:AHeap) (k:Value→AHeap→Prop):kbody prog Tryz.f167 [a0] H k=(@bnd (aBin2 prog H .geq 178 (.tmp 3) (.const (.int .u64 4294967296)) a0 (.int .u64 4294967296)) ⟨fun v4x1=>@kifB v4x1
 ⟨@bnd (aBin2 prog H .shr 178 (.tmp 5) (.const (.int .u64 32)) a0 (.int .u64 32)) ⟨fun v6x2=>S167x0  k [v6x2,undef,(.int .i64 32),a0,v4x1,a0,v6x2,undef,undef,undef,undef,undef,undef,undef,undef,undef,
 undef,undef,undef,undef,undef,undef,undef,undef,undef] H⟩⟩ ⟨S167x0  k [a0,undef,(.int .i64 0),a0,v4x1,undef,undef,undef,undef,undef,undef,undef,undef,undef,undef,undef,undef,undef,undef,undef,undef,
 undef,undef,undef,undef] H⟩⟩):=by kernel_rfl
theorem S167x0q (a v r w x y z B C A s t u e f g h i j l m n o p q:Value) (H:AHeap) (k:Value→AHeap→Prop):S167x0 k [a,v,r,w,x,y,z,B,C,A,s,t,u,e,
 f,g,h,i,j,l,m,n,o,p,q] H=(@bnd (aBin2 prog H .geq 178 (.tmp 7) (.const (.int .u64 65536)) a (.int .u64 65536)) ⟨fun b=>@kifB b ⟨@bnd (aBin2 prog H .shr 178 (.tmp 9) (.const
 (.int .u64 16)) a (.int .u64 16)) ⟨fun c=>@bnd (aBin2 prog H .add 3 (.tmp 11) (.const (.int .i64 16)) r (.int .i64 16)) ⟨fun d=>S167x1  k [c,v,d,w,x,y,z,a,b,a,c,r,d,
 e,f,g,h,i,j,l,m,n,o,p,q] H⟩⟩⟩ ⟨S167x1  k [a,v,r,w,x,y,z,a,b,A,s,t,u,e,f,g,h,i,j,l,m,n,o,p,q] H⟩⟩):=by kernel_rfl
theorem S167x1q (b t o u v w x y z A e f g B C p q r s h i j l m n:Value) (H:AHeap) (k:Value→AHeap→Prop):S167x1 k [b,t,o,u,v,w,x,y,z,A,e,f,g,B,
 C,p,q,r,s,h,i,j,l,m,n] H=(@bnd (aBin2 prog H .geq 178 (.tmp 13) (.const (.int .u64 256)) b (.int .u64 256)) ⟨fun a=>@kifB a ⟨@bnd (aBin2 prog H .shr 178 (.tmp 15) (.const
 (.int .u64 8)) b (.int .u64 8)) ⟨fun c=>@bnd (aBin2 prog H .add 3 (.tmp 17) (.const (.int .i64 8)) o (.int .i64 8)) ⟨fun d=>S167x2  k [c,t,d,u,v,w,x,y,z,A,e,f,g,b,a,
 b,c,o,d,h,i,j,l,m,n] H⟩⟩⟩ ⟨S167x2  k [b,t,o,u,v,w,x,y,z,A,e,f,g,b,a,p,q,r,s,h,i,j,l,m,n] H⟩⟩):=by kernel_rfl
theorem S167x2q (e w f x y z A B C D g h i j l m n o p q r s t u v:Value) (H:AHeap) (k:Value→AHeap→Prop):S167x2 k [e,w,f,x,y,z,A,B,C,D,g,h,i,j,
 l,m,n,o,p,q,r,s,t,u,v] H=(@bnd (convV prog H 178 5 e) ⟨fun d=>@bnd (aIndex prog 9 (.string l8S) d) ⟨fun a=>@bnd (convV prog H 5 3 a) ⟨fun b=>@bnd
 (aBin2 prog H .add 3 (.tmp 19) (.tmp 23) f b) ⟨fun c=>k c H⟩⟩⟩⟩):=by kernel_rfl
-- internal/strconv.bool2[int]
theorem d168 (a0:Value) (H:AHeap) (k:Value→AHeap→Prop):kbody prog Tryz.f168 [a0] H k=(@kifB a0 ⟨k (.int .i64 1) H⟩ ⟨k (.int .i64 0) H⟩):=by kernel_rfl
-- internal/strconv.ParseInt
def S174x0 (k:Value→AHeap→Prop) (sl:List Value) (H:AHeap):Prop:=kseq prog (cr (cr (cr (cr (cb Tryz.f174))))) (kfin prog Tryz.f174 k) .normal sl H
def S174x1 (k:Value→AHeap→Prop) (sl:List Value) (H:AHeap):Prop:=kseq prog (cr (cr (cr (cr (cr (cr (cr (cr (cb Tryz.f174))))))))) (kfin prog Tryz.f174 k) .normal sl H
def S174x2 (k:Value→AHeap→Prop) (sl:List Value) (H:AHeap):Prop:=kseq prog (cr (cr (cr (cr (cr (cr (cr (cr (cr (cr (cr (cr (cr (cb Tryz.f174)))))))))))))) (kfin prog Tryz.f174 k) .normal sl H
theorem d174 (a0 a1 a2:Value) (H:AHeap) (k:Value→AHeap→Prop):kbody prog Tryz.f174 [a0,a1,a2] H k=(@bnd (aBin2 prog H .eql 9 (.tmp 12) (.const (.string { data:=#[] })) a0 (.string { data:=#[] })) ⟨fun
 v13x1=>@kifB v13x1 ⟨k (.tuple #[(.int .i64 0),(.iface 205 (.int .i64 2))]) H⟩ ⟨@bnd (aIndex prog 9 a0 (.int .i64 0)) ⟨fun v16x2=>@bnd (aBin2 prog H .eql 5 (.tmp 16) (.const (.int .u8 43)) v16x2 (.int .u8 43))
 ⟨fun v18x3=>@kifB v18x3 ⟨kx prog (cl (cr (cl (cr (cl (cr (cr (cr (cb Tryz.f174))))))))) [a0,a1,a2,undef,undef,undef,(.int .i64 0),.nilIface,(.bool false),undef,undef,undef,a0,v13x1,undef,a0,v16x2,v18x3,
 v18x3,undef,undef,undef,undef,undef,undef,undef,undef,undef,undef,undef,undef,undef,undef,undef,undef,undef,undef,undef,undef,undef,undef,undef,undef,undef,undef,undef,undef,undef,undef,undef,
 undef,undef,undef,undef,undef,undef,undef,undef,undef,undef,undef,undef,undef,undef,undef,undef,undef,undef,undef,undef,undef,undef,undef] H (kblk 0 (kseq prog (cr (cr (cr (cr (cb Tryz.f174))))) (kfin
 prog Tryz.f174 k)))⟩ ⟨@bnd (aBin2 prog H .eql 5 (.tmp 16) (.const (.int .u8 45)) v16x2 (.int .u8 45)) ⟨fun v22x4=>@kifB v22x4 ⟨kx prog (cl (cr (cr (cr (cl (cr (cl (cr (cr (cr (cb Tryz.f174))))))))))) [a0,a1,
 a2,undef,undef,undef,(.int .i64 0),.nilIface,(.bool false),undef,undef,undef,a0,v13x1,undef,a0,v16x2,v18x3,v18x3,undef,undef,v22x4,v22x4,undef,undef,undef,undef,undef,undef,undef,undef,undef,undef,
 undef,undef,undef,undef,undef,undef,undef,undef,undef,undef,undef,undef,undef,undef,undef,undef,undef,undef,undef,undef,undef,undef,undef,undef,undef,undef,undef,undef,undef,undef,undef,undef,
 undef,undef,undef,undef,undef,undef,undef,undef] H (kblk 0 (kseq prog (cr (cr (cr (cr (cb Tryz.f174))))) (kfin prog Tryz.f174 k)))⟩ ⟨S174x0  k [a0,a1,a2,undef,undef,undef,(.int .i64 0),.nilIface,(.bool
 false),undef,undef,undef,a0,v13x1,undef,a0,v16x2,v18x3,v18x3,undef,undef,v22x4,v22x4,undef,undef,undef,undef,undef,undef,undef,undef,undef,undef,undef,undef,undef,undef,undef,undef,undef,undef,
 undef,undef,undef,undef,undef,undef,undef,undef,undef,undef,undef,undef,undef,undef,undef,undef,undef,undef,undef,undef,undef,undef,undef,undef,undef,undef,undef,undef,undef,undef,undef,undef]
 H⟩⟩⟩⟩⟩⟩⟩):=by kernel_rfl
theorem S174x0q (l m j s3 s4 s5 s6 s7 s8 s9 n o p q r s t u v w x y z A B aj ak al am an ao ap aq ar au av aw ax ay C az aA D E F G I J K L M N O P Q
 R S T U V W X Y Z aa ab ac ad ae af ag ah ai:Value) (H:AHeap) (k:Value→AHeap→Prop):S174x0 k [l,m,j,s3,s4,s5,s6,s7,s8,s9,n,o,p,q,r,s,t,u,v,w,x,
 y,z,A,B,aj,ak,al,am,an,ao,ap,aq,ar,au,av,aw,ax,ay,C,az,aA,D,E,F,G,I,J,K,L,M,N,O,P,Q,R,S,T,U,V,W,X,Y,Z,aa,ab,
 ac,ad,ae,af,ag,ah,ai] H=(@bndC prog 188 [l,m,j] H ⟨fun c H6=>@bnd (tupV c 0) ⟨fun d=>@bnd (tupV c 1) ⟨fun a=>@bnd (aBin2 prog H6 .neq 118 (.tmp 32) (.const .nilIface)
 a .nilIface) ⟨fun b=>@bnd (gif b true ((some a)) undef) ⟨fun e=>@bnd (gif b true (ifaceV prog 205 (.int .i64 1)) undef) ⟨fun f=>@bnd (gif b true (aBin2 prog H6 .neq 118 (.tmp
 35) (.tmp 36) e f) undef) ⟨fun g=>@bnd (pickV b g (.bool false)) ⟨fun h=>@kifB h ⟨k (.tuple #[(.int .i64 0),a]) H6⟩ ⟨@bnd (aBin2 prog H6 .eql 3 (.tmp 40) (.const (.int .i64 0)) j
 (.int .i64 0)) ⟨fun i=>@kifB i ⟨S174x1  k [l,m,(.int .i64 64),s3,s4,s5,s6,a,s8,d,n,o,p,q,r,s,t,u,v,w,x,y,z,A,B,c,l,m,j,c,d,a,
 a,b,b,e,f,g,h,C,j,i,D,E,F,G,I,J,K,L,M,N,O,P,Q,R,S,T,U,V,W,X,Y,Z,aa,ab,ac,ad,ae,af,ag,ah,ai]
 H6⟩ ⟨S174x1  k [l,m,j,s3,s4,s5,s6,a,s8,d,n,o,p,q,r,s,t,u,v,w,x,y,z,A,B,c,l,m,j,c,d,a,a,b,b,e,f,g,
 h,C,j,i,D,E,F,G,I,J,K,L,M,N,O,P,Q,R,S,T,U,V,W,X,Y,Z,aa,ab,ac,ad,ae,af,ag,ah,ai] H6⟩⟩⟩⟩⟩⟩⟩⟩⟩⟩⟩):=by kernel_rfl
theorem S174x1q (s0 s1 q s3 s4 s5 s6 s7 c p an aj r s t u v w x y z A B C D E F G I J K L M N O P Q R S T U V ao ap aq ar au av aw ax ay az aA W X
 Y Z aB aC aD aE aF aG aa ab ac ad ak al am ae af ag:Value) (H:AHeap) (k:Value→AHeap→Prop):S174x1 k [s0,s1,q,s3,s4,s5,s6,s7,c,p,an,aj,r,s,t,u,v,w,x,y,z,
 A,B,C,D,E,F,G,I,J,K,L,M,N,O,P,Q,R,S,T,U,V,ao,ap,aq,ar,au,av,aw,ax,ay,az,aA,W,X,Y,Z,aB,aC,aD,aE,aF,aG,aa,ab,ac,
 ad,ak,al,am,ae,af,ag] H=(@bnd (aBin2 prog H .sub 3 (.tmp 42) (.const (.int .i64 1)) q (.int .i64 1)) ⟨fun d=>@bnd (convV prog H 3 132 d) ⟨fun e=>@bnd (aBin2 prog H .shl 178
 (.const (.int .u64 1)) (.tmp 44) (.int .u64 1) e) ⟨fun b=>@bnd (unV prog .not c) ⟨fun a=>@bnd (gif a true ((some p)) undef) ⟨fun f=>@bnd (gif a true ((some b)) undef) ⟨fun g
=>@bnd (gif a true (aBin2 prog H .geq 178 (.tmp 49) (.tmp 50) f g) undef) ⟨fun h=>@bnd (pickV a h (.bool false)) ⟨fun i=>@kifB i ⟨@bnd (aBin2 prog H .sub 178 (.tmp 53)
 (.const (.int .u64 1)) b (.int .u64 1)) ⟨fun ah=>@bnd (convV prog H 178 2 ah) ⟨fun ai=>k (.tuple #[ai,(.iface 205 (.int .i64 1))]) H⟩⟩⟩ ⟨@bnd (gif c true ((some p)) undef) ⟨fun j=>@bnd
 (gif c true ((some b)) undef) ⟨fun l=>@bnd (gif c true (aBin2 prog H .gtr 178 (.tmp 59) (.tmp 60) j l) undef) ⟨fun m=>@bnd (pickV c m (.bool false)) ⟨fun n=>@kifB n ⟨kx
 prog (cl (cr (cl (cr (cr (cr (cr (cr (cr (cr (cr (cr (cr (cb Tryz.f174)))))))))))))) [s0,s1,q,s3,s4,s5,s6,s7,c,p,b,aj,r,s,t,u,v,w,x,y,z,A,B,C,D,E,F,G,
 I,J,K,L,M,N,O,P,Q,R,S,T,U,V,q,d,e,b,c,a,a,f,g,h,i,W,X,Y,Z,c,c,j,l,m,n,aa,ab,ac,
 ad,ak,al,am,ae,af,ag] H (kseq prog (cr (cr (cr (cr (cr (cr (cr (cr (cr (cr (cr (cb Tryz.f174)))))))))))) (kfin prog Tryz.f174 k))⟩ ⟨@bnd (convV prog H 178 2 p) ⟨fun o=>@kifB c ⟨kx prog
 (cl (cr (cl (cr (cr (cr (cr (cr (cr (cr (cr (cr (cr (cr (cr (cb Tryz.f174)))))))))))))))) [s0,s1,q,s3,s4,s5,s6,s7,c,p,b,o,r,s,t,u,v,w,x,y,z,A,B,C,D,E,F,G,
 I,J,K,L,M,N,O,P,Q,R,S,T,U,V,q,d,e,b,c,a,a,f,g,h,i,W,X,Y,Z,c,c,j,l,m,n,aa,ab,ac,
 ad,p,o,c,ae,af,ag] H (kseq prog (cr (cr (cr (cr (cr (cr (cr (cr (cr (cr (cr (cr (cr (cb Tryz.f174)))))))))))))) (kfin prog Tryz.f174 k))⟩ ⟨S174x2  k [s0,s1,q,s3,s4,s5,s6,s7,c,p,b,
 o,r,s,t,u,v,w,x,y,z,A,B,C,D,E,F,G,I,J,K,L,M,N,O,P,Q,R,S,T,U,V,q,d,e,b,c,a,a,f,g,
 h,i,W,X,Y,Z,c,c,j,l,m,n,aa,ab,ac,ad,p,o,c,ae,af,ag] H⟩⟩⟩⟩⟩⟩⟩⟩⟩⟩⟩⟩⟩⟩⟩⟩):=by kernel_rfl
theorem S174x2q (s0 s1 s2 s3 s4 s5 s6 s7 s8 s9 b a c d e f g h i j l m n o p q r s t u v w x y z A B C D E F G I J K L M N O P Q R S T U
 V W X Y Z aa ab ac ad ae af ag ah ai aj ak al am:Value) (H:AHeap) (k:Value→AHeap→Prop):S174x2 k [s0,s1,s2,s3,s4,s5,s6,s7,s8,s9,b,a,c,d,e,f,g,h,i,j,l,
 m,n,o,p,q,r,s,t,u,v,w,x,y,z,A,B,C,D,E,F,G,I,J,K,L,M,N,O,P,Q,R,S,T,U,V,W,X,Y,Z,aa,ab,ac,ad,ae,af,
 ag,ah,ai,aj,ak,al,am] H=(k (.tuple #[a,.nilIface]) H):=by kernel_rfl
end Go.Vi
namespace Go.Vi
open Go Go.Proofs Go.Proofs.Tryz
-- strconv.syntaxError
theorem d175 (a0 a1:Value) (H:AHeap) (k:Value→AHeap→Prop):kbody prog Tryz.f175 [a0,a1] H k=(@bndD false H ⟨fun v7x1 H2=>ACalls prog 189 [a1] H v7x1 H2⟩ ⟨fun v7x1 H2=>@bnd (aLoad prog H 118
 (.pointer (some ⟨2,0,none⟩))) ⟨fun v8x3=>@bnd (buildV prog 218 [(0,a0),(1,v7x1),(2,v8x3)]) ⟨fun v9x4=>@bndD true H2 ⟨fun v10x5 H6=>aNew H2 218 v9x4=some (v10x5,H6)⟩ ⟨fun v10x5 H6=>k v10x5 H6⟩⟩⟩⟩):=by
 kernel_rfl
-- strconv.rangeError
theorem d176 (a0 a1:Value) (H:AHeap) (k:Value→AHeap→Prop):kbody prog Tryz.f176 [a0,a1] H k=(@bndD false H ⟨fun v7x1 H2=>ACalls prog 189 [a1] H v7x1 H2⟩ ⟨fun v7x1 H2=>@bnd (aLoad prog H 118
 (.pointer (some ⟨3,0,none⟩))) ⟨fun v8x3=>@bnd (buildV prog 218 [(0,a0),(1,v7x1),(2,v8x3)]) ⟨fun v9x4=>@bndD true H2 ⟨fun v10x5 H6=>aNew H2 218 v9x4=some (v10x5,H6)⟩ ⟨fun v10x5 H6=>k v10x5 H6⟩⟩⟩⟩):=by
 kernel_rfl
-- internal/stringslite.CutPrefix
theorem d179 (a0 a1:Value) (H:AHeap) (k:Value→AHeap→Prop):kbody prog Tryz.f179 [a0,a1] H k=(@bndC prog 158 [a0,a1] H ⟨fun v8x1 H2=>@bnd (unV prog .not v8x1) ⟨fun v9x3=>@kifB v9x3 ⟨k (.tuple
 #[a0,(.bool false)]) H2⟩ ⟨@bnd (aLen prog H2 9 a1) ⟨fun v13x4=>@bnd (aSliceOp prog H2 9 a0 (some v13x4) none) ⟨fun v14x5=>k (.tuple #[v14x5,(.bool true)]) H2⟩⟩⟩⟩⟩):=by kernel_rfl
-- math/bits.Mul
theorem d180 (a0 a1:Value) (H:AHeap) (k:Value→AHeap→Prop):kbody prog Tryz.f180 [a0,a1] H k=(@kifB (.bool false) ⟨@bnd (convV prog H 132 50 a0) ⟨fun e=>@bnd (convV prog H 132 50 a1) ⟨fun f
=>@bndC prog 191 [e,f] H ⟨fun a H4=>@bnd (tupV a 0) ⟨fun g=>@bnd (tupV a 1) ⟨fun h=>@bnd (convV prog H4 50 132 g) ⟨fun i=>@bnd (convV prog H4 50 132 h) ⟨fun j
=>k (.tuple #[i,j]) H4⟩⟩⟩⟩⟩⟩⟩⟩ ⟨@bndC prog 192 [a0,a1] H ⟨fun b H10=>@bnd (tupV b 0) ⟨fun c=>@bnd (tupV b 1) ⟨fun d=>k (.tuple #[c,d]) H10⟩⟩⟩⟩):=by kernel_rfl
-- tocsin/labels.sign
theorem d185 (a0:Value) (H:AHeap) (k:Value→AHeap→Prop):kbody prog Tryz.f185 [a0] H k=(@bnd (aBin2 prog H .geq 5 (.tmp 3) (.const (.int .u8 32)) a0 (.int .u8 32)) ⟨fun v4x1=>@bnd (gif v4x1 true ((some
 a0)) undef) ⟨fun v6x2=>@bnd (gif v4x1 true (aBin2 prog H .leq 5 (.tmp 6) (.const (.int .u8 126)) v6x2 (.int .u8 126)) undef) ⟨fun v7x3=>@bnd (pickV v4x1 v7x3 (.bool false)) ⟨fun v8x4=>k v8x4 H⟩⟩⟩⟩):=by kernel_rfl
-- internal/strconv.ParseUint
def S188x0 (k:Value→AHeap→Prop) (sl:List Value) (H:AHeap):Prop:=kseq prog (cr (cr (cr (cr (cr (cb Tryz.f188)))))) (kfin prog Tryz.f188 k) .normal sl H
def S188x1 (k:Value→AHeap→Prop) (sl:List Value) (H:AHeap):Prop:=kseq prog (cr (cr (cr (cr (cr (cr (cb Tryz.f188))))))) (kfin prog Tryz.f188 k) .normal sl H
def S188x2 (k:Value→AHeap→Prop) (sl:List Value) (H:AHeap):Prop:=kseq prog (cr (cr (cr (cr (cr (cr (cr (cr (cb Tryz.f188))))))))) (kfin prog Tryz.f188 k) .normal sl H
def L188x0 (n:Nat) (k:Value→AHeap→Prop) (sl:List Value) (H:AHeap):Prop:=kit prog (cl (cl (cr (cl (cr (cr (cr (cr (cr (cr (cr (cr (cr (cr (cr (cb Tryz.f188)))))))))))))))) n (kblk 3 (kseq prog (cr (cr (cr
 (cr (cr (cr (cr (cr (cr (cr (cr (cr (cb Tryz.f188))))))))))))) (kfin prog Tryz.f188 k))) .normal sl H
def S188x3 (n0:Nat) (k:Value→AHeap→Prop) (sl:List Value) (H:AHeap):Prop:=kseq prog (cr (cr (cr (cl (cl (cr (cr (cl (cl (cr (cl (cr (cr (cr (cr (cr (cr (cr (cr (cr (cr (cr (cb Tryz.f188)))))))))))))))))))))))
 (kblk 4 (kseq prog (cr (cr (cr (cl (cl (cr (cl (cr (cr (cr (cr (cr (cr (cr (cr (cr (cr (cr (cb Tryz.f188))))))))))))))))))) (kit prog (cl (cl (cr (cl (cr (cr (cr (cr (cr (cr (cr (cr (cr (cr (cr (cb
 Tryz.f188)))))))))))))))) n0 (kblk 3 (kseq prog (cr (cr (cr (cr (cr (cr (cr (cr (cr (cr (cr (cr (cb Tryz.f188))))))))))))) (kfin prog Tryz.f188 k)))))) .normal sl H
def S188x4 (n0:Nat) (k:Value→AHeap→Prop) (sl:List Value) (H:AHeap):Prop:=kseq prog (cr (cr (cr (cl (cl (cr (cl (cr (cr (cr (cr (cr (cr (cr (cr (cr (cr (cr (cb Tryz.f188))))))))))))))))))) (kit prog (cl
 (cl (cr (cl (cr (cr (cr (cr (cr (cr (cr (cr (cr (cr (cr (cb Tryz.f188)))))))))))))))) n0 (kblk 3 (kseq prog (cr (cr (cr (cr (cr (cr (cr (cr (cr (cr (cr (cr (cb Tryz.f188))))))))))))) (kfin prog Tryz.f188 k)))) .normal
 sl H
theorem d188 (a0 a1 a2:Value) (H:AHeap) (k:Value→AHeap→Prop):kbody prog Tryz.f188 [a0,a1,a2] H k=(@bnd (aBin2 prog H .eql 9 (.tmp 18) (.const (.string { data:=#[] })) a0 (.string { data:=#[] })) ⟨fun
 d=>@kifB d ⟨k (.tuple #[(.int .u64 0),(.iface 205 (.int .i64 2))]) H⟩ ⟨@bnd (aBin2 prog H .eql 3 (.tmp 21) (.const (.int .i64 0)) a1 (.int .i64 0)) ⟨fun c=>@bnd (aBin2 prog H .leq 3 (.const (.int .i64
 2)) (.tmp 26) (.int .i64 2) a1) ⟨fun a=>@bnd (gif a true ((some a1)) undef) ⟨fun e=>@bnd (gif a true (aBin2 prog H .leq 3 (.tmp 29) (.const (.int .i64 36)) e (.int .i64 36)) undef) ⟨fun f =>
 @bnd (pickV a f (.bool false)) ⟨fun b=>@kifB b ⟨S188x0  k [a0,a1,a2,undef,undef,undef,(.int .u64 0),.nilIface,c,a0,undef,undef,undef,undef,undef,undef,undef,undef,a0,d,undef,a1,
 c,a0,undef,b,a1,a,a,e,f,b,undef,undef,undef,undef,undef,undef,undef,undef,undef,undef,undef,undef,undef,undef,undef,undef,undef,undef,undef,undef,undef,undef,undef,
 undef,undef,undef,undef,undef,undef,undef,undef,undef,undef,undef,undef,undef,undef,undef,undef,undef,undef,undef,undef,undef,undef,undef,undef,undef,undef,undef,undef,undef,undef,undef,undef,
 undef,undef,undef,undef,undef,undef,undef,undef,undef,undef,undef,undef,undef,undef,undef,undef,undef,undef,undef,undef,undef,undef,undef,undef,undef,undef,undef,undef,undef,undef,undef,undef,
 undef,undef,undef,undef,undef,undef,undef,undef,undef,undef,undef,undef,undef,undef,undef,undef,undef,undef,undef,undef,undef,undef,undef,undef,undef,undef,undef,undef,undef,undef,undef,undef,
 undef,undef,undef,undef,undef,undef,undef,undef,undef,undef,undef,undef,undef,undef,undef,undef,undef,undef,undef,undef,undef] H⟩ ⟨kx prog (cr (cr (cl (cl (cr (cr (cr (cr (cb Tryz.f188))))))))) [a0,a1,
 a2,undef,undef,undef,(.int .u64 0),.nilIface,c,a0,undef,undef,undef,undef,undef,undef,undef,undef,a0,d,undef,a1,c,a0,undef,b,a1,a,a,e,f,b,undef,undef,undef,
 undef,undef,undef,undef,undef,undef,undef,undef,undef,undef,undef,undef,undef,undef,undef,undef,undef,undef,undef,undef,undef,undef,undef,undef,undef,undef,undef,undef,undef,undef,undef,undef,
 undef,undef,undef,undef,undef,undef,undef,undef,undef,undef,undef,undef,undef,undef,undef,undef,undef,undef,undef,undef,undef,undef,undef,undef,undef,undef,undef,undef,undef,undef,undef,undef,
 undef,undef,undef,undef,undef,undef,undef,undef,undef,undef,undef,undef,undef,undef,undef,undef,undef,undef,undef,undef,undef,undef,undef,undef,undef,undef,undef,undef,undef,undef,undef,undef,
 undef,undef,undef,undef,undef,undef,undef,undef,undef,undef,undef,undef,undef,undef,undef,undef,undef,undef,undef,undef,undef,undef,undef,undef,undef,undef,undef,undef,undef,undef,undef,undef,
 undef,undef,undef,undef,undef,undef,undef,undef,undef] H (kblk 0 (kseq prog (cr (cr (cr (cr (cr (cb Tryz.f188)))))) (kfin prog Tryz.f188 k)))⟩⟩⟩⟩⟩⟩⟩⟩):=by kernel_rfl
theorem S188x0q (s0 s1 s2 s3 s4 s5 s6 s7 s8 s9 az aA aB aC aD aE aF aG aH aI aJ aK aL aM aN aO aP aQ aR aS aT aU aV aW aX aY aZ a0 a1 a2 a3 a4 a5 a6 a7 a8 a9 ba bb bc bd be bf bg bh
 bi bj bk bl bm bn bo bp bq br bs bt bu bv bw bx bz bA bB bC bD b0 b1 bE bF bG bH bI bJ bK bL bM bN bO bP bQ bR bS bT bU bV bW bX bY bZ b c d e f g h i j
 l m n o p q r s t u v w x y z A B C D E F G I J K L M N O P Q R S T U V W X Y Z aa ab ac ad ae
 af ag ah ai aj ak al am an ao ap aq ar au av aw ax ay:Value) (H:AHeap) (k:Value→AHeap→Prop):S188x0 k [s0,s1,s2,s3,s4,s5,s6,s7,s8,s9,az,aA,aB,aC,aD,aE,aF,
 aG,aH,aI,aJ,aK,aL,aM,aN,aO,aP,aQ,aR,aS,aT,aU,aV,aW,aX,aY,aZ,a0,a1,a2,a3,a4,a5,a6,a7,a8,a9,ba,bb,bc,bd,be,bf,bg,bh,bi,bj,bk,bl,bm,bn,bo,
 bp,bq,br,bs,bt,bu,bv,bw,bx,bz,bA,bB,bC,bD,b0,b1,bE,bF,bG,bH,bI,bJ,bK,bL,bM,bN,bO,bP,bQ,bR,bS,bT,bU,bV,bW,bX,bY,bZ,b,c,d,e,f,g,
 h,i,j,l,m,n,o,p,q,r,s,t,u,v,w,x,y,z,A,B,C,D,E,F,G,I,J,K,L,M,N,O,P,Q,R,S,T,U,
 V,W,X,Y,Z,aa,ab,ac,ad,ae,af,ag,ah,ai,aj,ak,al,am,an,ao,ap,aq,ar,au,av,aw,ax,ay] H=(@bnd (aBin2 prog H .eql 3 (.tmp 76) (.const (.int
 .i64 0)) s2 (.int .i64 0)) ⟨fun a=>@kifB a ⟨S188x1  k [s0,s1,(.int .i64 64),s3,s4,s5,s6,s7,s8,s9,az,aA,aB,aC,aD,aE,aF,aG,aH,aI,aJ,aK,aL,aM,aN,aO,aP,aQ,aR,aS,aT,aU,
 aV,aW,aX,aY,aZ,a0,a1,a2,a3,a4,a5,a6,a7,a8,a9,ba,bb,bc,bd,be,bf,bg,bh,bi,bj,bk,bl,bm,bn,bo,bp,bq,br,bs,bt,bu,bv,bw,bx,bz,bA,bB,bC,bD,s2,
 a,bE,bF,bG,bH,bI,bJ,bK,bL,bM,bN,bO,bP,bQ,bR,bS,bT,bU,bV,bW,bX,bY,bZ,b,c,d,e,f,g,h,i,j,l,m,n,o,p,q,r,s,t,
 u,v,w,x,y,z,A,B,C,D,E,F,G,I,J,K,L,M,N,O,P,Q,R,S,T,U,V,W,X,Y,Z,aa,ab,ac,ad,ae,af,ag,
 ah,ai,aj,ak,al,am,an,ao,ap,aq,ar,au,av,aw,ax,ay] H⟩ ⟨kx prog (cr (cr (cl (cr (cr (cr (cr (cr (cb Tryz.f188))))))))) [s0,s1,s2,s3,s4,s5,s6,s7,s8,s9,az,aA,aB,
 aC,aD,aE,aF,aG,aH,aI,aJ,aK,aL,aM,aN,aO,aP,aQ,aR,aS,aT,aU,aV,aW,aX,aY,aZ,a0,a1,a2,a3,a4,a5,a6,a7,a8,a9,ba,bb,bc,bd,be,bf,bg,bh,bi,bj,bk,
 bl,bm,bn,bo,bp,bq,br,bs,bt,bu,bv,bw,bx,bz,bA,bB,bC,bD,s2,a,bE,bF,bG,bH,bI,bJ,bK,bL,bM,bN,bO,bP,bQ,bR,bS,bT,bU,bV,bW,bX,bY,bZ,b,c,
 d,e,f,g,h,i,j,l,m,n,o,p,q,r,s,t,u,v,w,x,y,z,A,B,C,D,E,F,G,I,J,K,L,M,N,O,P,Q,
 R,S,T,U,V,W,X,Y,Z,aa,ab,ac,ad,ae,af,ag,ah,ai,aj,ak,al,am,an,ao,ap,aq,ar,au,av,aw,ax,ay] H (kseq prog (cr (cr (cr (cr
 (cr (cr (cb Tryz.f188))))))) (kfin prog Tryz.f188 k))⟩⟩):=by kernel_rfl
theorem S188x1q (s0 s1 s2 s3 s4 s5 s6 s7 s8 s9 bY az aA aB aC aD aE aF aG aH aI aJ aK aL aM aN aO aP aQ aR aS aT aU aV aW aX aY aZ a0 a1 a2 a3 a4 a5 a6 a7 a8 a9 ba bb bc bd be bf bg
 bh bi bj bk bl bm bn bo bp bq br bs bt bu bv bw bx bz bA bB bC bD bE bF bG bH bI bJ bK bL bZ bM bN bO bP b0 b1 bQ bR bS bT bU bV bW bX b c d e f g h i j
 l m n o p q r s t u v w x y z A B C D E F G I J K L M N O P Q R S T U V W X Y Z aa ab ac ad ae
 af ag ah ai aj ak al am an ao ap aq ar au av aw ax ay:Value) (H:AHeap) (k:Value→AHeap→Prop):S188x1 k [s0,s1,s2,s3,s4,s5,s6,s7,s8,s9,bY,az,aA,aB,aC,aD,aE,
 aF,aG,aH,aI,aJ,aK,aL,aM,aN,aO,aP,aQ,aR,aS,aT,aU,aV,aW,aX,aY,aZ,a0,a1,a2,a3,a4,a5,a6,a7,a8,a9,ba,bb,bc,bd,be,bf,bg,bh,bi,bj,bk,bl,bm,bn,
 bo,bp,bq,br,bs,bt,bu,bv,bw,bx,bz,bA,bB,bC,bD,bE,bF,bG,bH,bI,bJ,bK,bL,bZ,bM,bN,bO,bP,b0,b1,bQ,bR,bS,bT,bU,bV,bW,bX,b,c,d,e,f,g,
 h,i,j,l,m,n,o,p,q,r,s,t,u,v,w,x,y,z,A,B,C,D,E,F,G,I,J,K,L,M,N,O,P,Q,R,S,T,U,
 V,W,X,Y,Z,aa,ab,ac,ad,ae,af,ag,ah,ai,aj,ak,al,am,an,ao,ap,aq,ar,au,av,aw,ax,ay] H=(@bnd (aBin2 prog H .eql 3 (.tmp 85) (.const (.int
 .i64 10)) s1 (.int .i64 10)) ⟨fun a=>@kifB a ⟨S188x2  k [s0,s1,s2,s3,s4,s5,s6,s7,s8,s9,(.int .u64 1844674407370955162),az,aA,aB,aC,aD,aE,aF,aG,aH,aI,aJ,aK,aL,aM,aN,aO,aP,
 aQ,aR,aS,aT,aU,aV,aW,aX,aY,aZ,a0,a1,a2,a3,a4,a5,a6,a7,a8,a9,ba,bb,bc,bd,be,bf,bg,bh,bi,bj,bk,bl,bm,bn,bo,bp,bq,br,bs,bt,bu,bv,bw,bx,bz,
 bA,bB,bC,bD,bE,bF,bG,bH,bI,bJ,bK,bL,s1,bM,bN,bO,bP,a,a,bQ,bR,bS,bT,bU,bV,bW,bX,b,c,d,e,f,g,h,i,j,l,m,n,o,p,q,
 r,s,t,u,v,w,x,y,z,A,B,C,D,E,F,G,I,J,K,L,M,N,O,P,Q,R,S,T,U,V,W,X,Y,Z,aa,ab,ac,ad,
 ae,af,ag,ah,ai,aj,ak,al,am,an,ao,ap,aq,ar,au,av,aw,ax,ay] H⟩ ⟨kx prog (cr (cr (cl (cr (cl (cr (cr (cr (cr (cr (cr (cr (cb Tryz.f188))))))))))))) [s0,s1,s2,s3,s4,
 s5,s6,s7,s8,s9,(.int .u64 0),az,aA,aB,aC,aD,aE,aF,aG,aH,aI,aJ,aK,aL,aM,aN,aO,aP,aQ,aR,aS,aT,aU,aV,aW,aX,aY,aZ,a0,a1,a2,a3,a4,a5,a6,a7,a8,a9,ba,
 bb,bc,bd,be,bf,bg,bh,bi,bj,bk,bl,bm,bn,bo,bp,bq,br,bs,bt,bu,bv,bw,bx,bz,bA,bB,bC,bD,bE,bF,bG,bH,bI,bJ,bK,bL,s1,bM,bN,bO,bP,a,a,bQ,bR,
 bS,bT,bU,bV,bW,bX,b,c,d,e,f,g,h,i,j,l,m,n,o,p,q,r,s,t,u,v,w,x,y,z,A,B,C,D,E,F,G,I,J,
 K,L,M,N,O,P,Q,R,S,T,U,V,W,X,Y,Z,aa,ab,ac,ad,ae,af,ag,ah,ai,aj,ak,al,am,an,ao,ap,aq,ar,au,av,aw,ax,
 ay] H (kblk 2 (kseq prog (cr (cr (cr (cr (cr (cr (cr (cr (cb Tryz.f188))))))))) (kfin prog Tryz.f188 k)))⟩⟩):=by kernel_rfl
theorem S188x2q (s0 s1 s2 s3 s4 s5 s6 s7 s8 s9 aC bY bZ b0 aD aE aF aG aH aI aJ aK aL aM aN aO aP aQ aR aS aT aU aV aW aX aY aZ a0 a1 a2 a3 a4 a5 a6 a7 a8 a9 ba bb bc bd be bf bg bh
 bi bj bk bl bm bn bo bp bq br bs bt bu bv bw bx bz bA bB bC bD bE bF bG bH bI bJ bK bL bM bN bO bP bQ bR bS bT bU bV b1 b2 b3 b4 b5 b6 bW bX f g h i j l m
 o p q r s t u v w x y z A B C D E F G I J K L M N O P Q R S T U V W X Y Z aa ab ac ad ae af ag ah
 ai aj ak al am an ao ap aq ar au av aw ax ay az aA aB:Value) (H:AHeap) (k:Value→AHeap→Prop):S188x2 k [s0,s1,s2,s3,s4,s5,s6,s7,s8,s9,aC,bY,bZ,b0,aD,aE,aF,
 aG,aH,aI,aJ,aK,aL,aM,aN,aO,aP,aQ,aR,aS,aT,aU,aV,aW,aX,aY,aZ,a0,a1,a2,a3,a4,a5,a6,a7,a8,a9,ba,bb,bc,bd,be,bf,bg,bh,bi,bj,bk,bl,bm,bn,bo,
 bp,bq,br,bs,bt,bu,bv,bw,bx,bz,bA,bB,bC,bD,bE,bF,bG,bH,bI,bJ,bK,bL,bM,bN,bO,bP,bQ,bR,bS,bT,bU,bV,b1,b2,b3,b4,b5,b6,bW,bX,f,g,h,i,
 j,l,m,o,p,q,r,s,t,u,v,w,x,y,z,A,B,C,D,E,F,G,I,J,K,L,M,N,O,P,Q,R,S,T,U,V,W,X,
 Y,Z,aa,ab,ac,ad,ae,af,ag,ah,ai,aj,ak,al,am,an,ao,ap,aq,ar,au,av,aw,ax,ay,az,aA,aB] H=(@bnd (convV prog H 3 132 s2) ⟨fun d=>@bnd
 (aBin2 prog H .shl 178 (.const (.int .u64 1)) (.tmp 95) (.int .u64 1) d) ⟨fun a=>@bnd (aBin2 prog H .sub 178 (.tmp 96) (.const (.int .u64 1)) a (.int .u64 1)) ⟨fun b=>@bndE (aConv prog H 9
 55 s0) ⟨fun c H13=>@bnd (aLen prog H13 55 c) ⟨fun e=>∃ n,L188x0 n  k [s0,s1,s2,s3,s4,s5,s6,s7,s8,s9,aC,b,(.bool false),(.int .u64 0),aD,aE,aF,aG,aH,aI,aJ,aK,aL,
 aM,aN,aO,aP,aQ,aR,aS,aT,aU,aV,aW,aX,aY,aZ,a0,a1,a2,a3,a4,a5,a6,a7,a8,a9,ba,bb,bc,bd,be,bf,bg,bh,bi,bj,bk,bl,bm,bn,bo,bp,bq,br,bs,bt,bu,
 bv,bw,bx,bz,bA,bB,bC,bD,bE,bF,bG,bH,bI,bJ,bK,bL,bM,bN,bO,bP,bQ,bR,bS,bT,bU,bV,s2,d,a,b,s0,c,e,(.int .i64 0),f,g,h,i,j,
 l,m,o,p,q,r,s,t,u,v,w,x,y,z,A,B,C,D,E,F,G,I,J,K,L,M,N,O,P,Q,R,S,T,U,V,W,X,Y,
 Z,aa,ab,ac,ad,ae,af,ag,ah,ai,aj,ak,al,am,an,ao,ap,aq,ar,au,av,aw,ax,ay,az,aA,aB] H13⟩⟩⟩⟩⟩):=by kernel_rfl
theorem L188x0q (n0:Nat) (s0 s1 s2 s3 s4 s5 s6 s7 s8 s9 aD aE q ao aF cm cn aG aH aI aJ aK aL aM aN aO aP aQ aR aS aT aU aV aW aX aY aZ a0 a1 a2 a3 a4 a5 a6 a7 a8 a9 ba bb bc bd be bf
 bg bh bi bj bk bl bm bn bo bp bq br bs bt bu bv bw bx bz bA bB bC bD bE bF bG bH bI bJ bK bL bM bN bO bP bQ bR bS bT bU bV bW bX bY bZ b0 ap r l cc cd ce w cf cg
 ch ci cj ck b4 b5 b6 b7 b8 b9 ca aq ar au av aw ax ay az aA aB aC x y z A B C D E F G I J K L M N O P Q R S T U
 V W X Y Z aa ab ac ad ae af ag ah ai aj ak al am an:Value) (H:AHeap) (k:Value→AHeap→Prop):L188x0 (n0+1) k [s0,s1,s2,s3,s4,s5,s6,s7,s8,s9,aD,aE,q,ao,
 aF,cm,cn,aG,aH,aI,aJ,aK,aL,aM,aN,aO,aP,aQ,aR,aS,aT,aU,aV,aW,aX,aY,aZ,a0,a1,a2,a3,a4,a5,a6,a7,a8,a9,ba,bb,bc,bd,be,bf,bg,bh,bi,bj,bk,bl,
 bm,bn,bo,bp,bq,br,bs,bt,bu,bv,bw,bx,bz,bA,bB,bC,bD,bE,bF,bG,bH,bI,bJ,bK,bL,bM,bN,bO,bP,bQ,bR,bS,bT,bU,bV,bW,bX,bY,bZ,b0,ap,r,l,cc,
 cd,ce,w,cf,cg,ch,ci,cj,ck,b4,b5,b6,b7,b8,b9,ca,aq,ar,au,av,aw,ax,ay,az,aA,aB,aC,x,y,z,A,B,C,D,E,F,G,I,
 J,K,L,M,N,O,P,Q,R,S,T,U,V,W,X,Y,Z,aa,ab,ac,ad,ae,af,ag,ah,ai,aj,ak,al,am,an] H=(@bnd (aBin2 prog H .lss 3 (.tmp
 101) (.tmp 100) l r) ⟨fun g=>@kifB g ⟨@bnd (aIndexAddr prog H 55 ap l) ⟨fun h=>@bnd (aLoad prog H 5 h) ⟨fun a=>@bnd (aBin2 prog H .eql 5 (.tmp 107) (.const (.int .u8
 95)) a (.int .u8 95)) ⟨fun b=>@bnd (gif b true ((some s8)) undef) ⟨fun i=>@bnd (pickV b i (.bool false)) ⟨fun c=>@kifB c ⟨kx prog (cl (cr (cl (cl (cr (cr (cl (cl (cr
 (cr (cl (cl (cr (cl (cr (cr (cr (cr (cr (cr (cr (cr (cr (cr (cr (cb Tryz.f188)))))))))))))))))))))))))) [s0,s1,s2,s3,s4,s5,s6,s7,s8,s9,aD,aE,q,ao,aF,a,(.int .u8 0),aG,aH,aI,aJ,aK,aL,aM,
 aN,aO,aP,aQ,aR,aS,aT,aU,aV,aW,aX,aY,aZ,a0,a1,a2,a3,a4,a5,a6,a7,a8,a9,ba,bb,bc,bd,be,bf,bg,bh,bi,bj,bk,bl,bm,bn,bo,bp,bq,br,bs,bt,bu,bv,
 bw,bx,bz,bA,bB,bC,bD,bE,bF,bG,bH,bI,bJ,bK,bL,bM,bN,bO,bP,bQ,bR,bS,bT,bU,bV,bW,bX,bY,bZ,b0,ap,r,l,g,h,a,w,c,a,b,
 b,i,c,b4,b5,b6,b7,b8,b9,ca,aq,ar,au,av,aw,ax,ay,az,aA,aB,aC,x,y,z,A,B,C,D,E,F,G,I,J,K,L,M,
 N,O,P,Q,R,S,T,U,V,W,X,Y,Z,aa,ab,ac,ad,ae,af,ag,ah,ai,aj,ak,al,am,an] H (kblk 5 (kseq prog (cr (cr (cr (cl (cl (cr (cr (cl (cl (cr
 (cl (cr (cr (cr (cr (cr (cr (cr (cr (cr (cr (cr (cb Tryz.f188))))))))))))))))))))))) (kblk 4 (kseq prog (cr (cr (cr (cl (cl (cr (cl (cr (cr (cr (cr (cr (cr (cr (cr (cr (cr (cr (cb Tryz.f188))))))))))))))))))) (kit
 prog (cl (cl (cr (cl (cr (cr (cr (cr (cr (cr (cr (cr (cr (cr (cr (cb Tryz.f188)))))))))))))))) n0 (kblk 3 (kseq prog (cr (cr (cr (cr (cr (cr (cr (cr (cr (cr (cr (cr (cb Tryz.f188))))))))))))) (kfin prog Tryz.f188
 k))))))))⟩ ⟨@bnd (aBin2 prog H .leq 5 (.const (.int .u8 48)) (.tmp 113) (.int .u8 48) a) ⟨fun d=>@bnd (gif d true ((some a)) undef) ⟨fun m=>@bnd (gif d true (aBin2 prog H .leq 5
 (.tmp 116) (.const (.int .u8 57)) m (.int .u8 57)) undef) ⟨fun n=>@bnd (pickV d n (.bool false)) ⟨fun f=>@kifB f ⟨@bnd (aBin2 prog H .sub 5 (.tmp 119) (.const (.int .u8 48)) a
 (.int .u8 48)) ⟨fun s=>S188x3 n0 k [s0,s1,s2,s3,s4,s5,s6,s7,s8,s9,aD,aE,q,ao,aF,a,s,aG,aH,aI,aJ,aK,aL,aM,aN,aO,aP,aQ,aR,aS,aT,aU,aV,aW,aX,aY,aZ,
 a0,a1,a2,a3,a4,a5,a6,a7,a8,a9,ba,bb,bc,bd,be,bf,bg,bh,bi,bj,bk,bl,bm,bn,bo,bp,bq,br,bs,bt,bu,bv,bw,bx,bz,bA,bB,bC,bD,bE,bF,bG,bH,bI,bJ,
 bK,bL,bM,bN,bO,bP,bQ,bR,bS,bT,bU,bV,bW,bX,bY,bZ,b0,ap,r,l,g,h,a,w,c,a,b,b,i,c,f,a,d,d,
 m,n,f,a,s,au,av,aw,ax,ay,az,aA,aB,aC,x,y,z,A,B,C,D,E,F,G,I,J,K,L,M,N,O,P,Q,R,S,
 T,U,V,W,X,Y,Z,aa,ab,ac,ad,ae,af,ag,ah,ai,aj,ak,al,am,an] H⟩⟩ ⟨@bndC prog 197 [a] H ⟨fun t H27=>@bnd (aBin2 prog H27 .leq 5 (.const
 (.int .u8 97)) (.tmp 123) (.int .u8 97) t) ⟨fun e=>@bnd (gif e true ((some a)) undef) ⟨fun u=>@bndG e true H27 ⟨fun j H31=>ACalls prog 197 [u] H27 j H31⟩ ⟨fun
 j H31=>@bnd (gif e true (aBin2 prog H31 .leq 5 (.tmp 127) (.const (.int .u8 122)) j (.int .u8 122)) undef) ⟨fun v=>@bnd (pickV e v (.bool false)) ⟨fun o=>@kifB o ⟨kx
 prog (cl (cr (cr (cr (cr (cr (cl (cl (cr (cr (cl (cl (cr (cr (cl (cl (cr (cl (cr (cr (cr (cr (cr (cr (cr (cr (cr (cr (cr (cb Tryz.f188)))))))))))))))))))))))))))))) [s0,s1,s2,s3,s4,s5,s6,s7,s8,s9,aD,aE,q,
 ao,aF,a,(.int .u8 0),aG,aH,aI,aJ,aK,aL,aM,aN,aO,aP,aQ,aR,aS,aT,aU,aV,aW,aX,aY,aZ,a0,a1,a2,a3,a4,a5,a6,a7,a8,a9,ba,bb,bc,bd,be,bf,bg,bh,bi,
 bj,bk,bl,bm,bn,bo,bp,bq,br,bs,bt,bu,bv,bw,bx,bz,bA,bB,bC,bD,bE,bF,bG,bH,bI,bJ,bK,bL,bM,bN,bO,bP,bQ,bR,bS,bT,bU,bV,bW,bX,bY,bZ,b0,ap,r,
 l,g,h,a,w,c,a,b,b,i,c,f,a,d,d,m,n,f,aq,ar,o,a,t,e,e,u,
 j,v,o,x,y,z,A,B,C,D,E,F,G,I,J,K,L,M,N,O,P,Q,R,S,T,U,V,W,X,Y,Z,aa,ab,ac,ad,ae,
 af,ag,ah,ai,aj,ak,al,am,an] H31 (kblk 5 (kseq prog (cr (cr (cr (cl (cl (cr (cr (cl (cl (cr (cl (cr (cr (cr (cr (cr (cr (cr (cr (cr (cr (cr (cb Tryz.f188))))))))))))))))))))))) (kblk 4 (kseq
 prog (cr (cr (cr (cl (cl (cr (cl (cr (cr (cr (cr (cr (cr (cr (cr (cr (cr (cr (cb Tryz.f188))))))))))))))))))) (kit prog (cl (cl (cr (cl (cr (cr (cr (cr (cr (cr (cr (cr (cr (cr (cr (cb Tryz.f188)))))))))))))))) n0
 (kblk 3 (kseq prog (cr (cr (cr (cr (cr (cr (cr (cr (cr (cr (cr (cr (cb Tryz.f188))))))))))))) (kfin prog Tryz.f188 k))))))))⟩ ⟨k (.tuple #[(.int .u64 0),(.iface 205 (.int .i64 2))]) H31⟩⟩⟩⟩⟩⟩⟩⟩⟩⟩⟩⟩⟩⟩⟩⟩⟩⟩⟩ ⟨@bnd (gif
 q true ((some s9)) undef) ⟨fun b1=>@bndG q true H ⟨fun p H36=>ACalls prog 198 [b1] H p H36⟩ ⟨fun p H36=>@bnd (gif q true (unV prog .not p) undef) ⟨fun b2=>@bnd
 (pickV q b2 (.bool false)) ⟨fun b3=>@kifB b3 ⟨k (.tuple #[(.int .u64 0),(.iface 205 (.int .i64 2))]) H36⟩ ⟨k (.tuple #[ao,.nilIface]) H36⟩⟩⟩⟩⟩⟩⟩):=by kernel_rfl
theorem S188x3q (n0:Nat) (s0 r s2 s3 s4 s5 s6 s7 s8 s9 q o ap p aq ar d cd au av aw ax ay az aA aB aC aD aE aF aG aH aI aJ aK aL aM aN aO aP aQ aR aS aT aU aV aW aX aY aZ a0 a1 a2
 a3 a4 a5 a6 a7 a8 a9 ba bb bc bd be bf bg bh bi bj bk bl bm bn bo bp bq br bs bt bu bv bw bx bz bA bB bC bD bE bF bG bH bI bJ bK bL bM bN bO s t u v w x y z
 A B C D E F G I J K L M N O P Q R S T U V W X Y Z aa bP bQ bR bS ab bT bU bV ac ad bW bX bY bZ b0 b1 b2 b3 b4
 b5 b6 b7 b8 b9 ca cb ae af cc ag ah ai aj ak al am an ao:Value) (H:AHeap) (k:Value→AHeap→Prop):S188x3 n0 k [s0,r,s2,s3,s4,s5,s6,s7,s8,s9,q,o,ap,p,aq,ar,
 d,cd,au,av,aw,ax,ay,az,aA,aB,aC,aD,aE,aF,aG,aH,aI,aJ,aK,aL,aM,aN,aO,aP,aQ,aR,aS,aT,aU,aV,aW,aX,aY,aZ,a0,a1,a2,a3,a4,a5,a6,a7,a8,a9,ba,
 bb,bc,bd,be,bf,bg,bh,bi,bj,bk,bl,bm,bn,bo,bp,bq,br,bs,bt,bu,bv,bw,bx,bz,bA,bB,bC,bD,bE,bF,bG,bH,bI,bJ,bK,bL,bM,bN,bO,s,t,u,v,w,
 x,y,z,A,B,C,D,E,F,G,I,J,K,L,M,N,O,P,Q,R,S,T,U,V,W,X,Y,Z,aa,bP,bQ,bR,bS,ab,bT,bU,bV,ac,
 ad,bW,bX,bY,bZ,b0,b1,b2,b3,b4,b5,b6,b7,b8,b9,ca,cb,ae,af,cc,ag,ah,ai,aj,ak,al,am,an,ao] H=(@bnd (convV prog H 3 5 r) ⟨fun e =>
 @bnd (aBin2 prog H .geq 5 (.tmp 134) (.tmp 136) d e) ⟨fun f=>@kifB f ⟨k (.tuple #[(.int .u64 0),(.iface 205 (.int .i64 2))]) H⟩ ⟨@bnd (aBin2 prog H .geq 178 (.tmp 139) (.tmp 140) p q) ⟨fun
 g=>@kifB g ⟨k (.tuple #[o,(.iface 205 (.int .i64 1))]) H⟩ ⟨@bnd (convV prog H 3 178 r) ⟨fun h=>@bnd (aBin2 prog H .mul 178 (.tmp 144) (.tmp 146) p h) ⟨fun c=>@bnd (convV
 prog H 5 178 d) ⟨fun i=>@bnd (aBin2 prog H .add 178 (.tmp 148) (.tmp 150) c i) ⟨fun a=>@bnd (aBin2 prog H .lss 178 (.tmp 152) (.tmp 153) a c) ⟨fun b=>@bnd (gif
 b false ((some a)) undef) ⟨fun j=>@bnd (gif b false ((some o)) undef) ⟨fun l=>@bnd (gif b false (aBin2 prog H .gtr 178 (.tmp 156) (.tmp 157) j l) undef) ⟨fun m =>
 @bnd (pickV b (.bool true) m) ⟨fun n=>@kifB n ⟨k (.tuple #[o,(.iface 205 (.int .i64 1))]) H⟩ ⟨S188x4 n0 k [s0,r,s2,s3,s4,s5,s6,s7,s8,s9,q,o,ap,a,aq,ar,d,a,
 au,av,aw,ax,ay,az,aA,aB,aC,aD,aE,aF,aG,aH,aI,aJ,aK,aL,aM,aN,aO,aP,aQ,aR,aS,aT,aU,aV,aW,aX,aY,aZ,a0,a1,a2,a3,a4,a5,a6,a7,a8,a9,ba,bb,bc,
 bd,be,bf,bg,bh,bi,bj,bk,bl,bm,bn,bo,bp,bq,br,bs,bt,bu,bv,bw,bx,bz,bA,bB,bC,bD,bE,bF,bG,bH,bI,bJ,bK,bL,bM,bN,bO,s,t,u,v,w,x,y,
 z,A,B,C,D,E,F,G,I,J,K,L,M,N,O,P,Q,R,S,T,U,V,W,X,Y,Z,aa,d,r,e,f,ab,p,q,g,ac,ad,
 p,r,h,c,c,d,i,a,a,c,b,b,j,l,m,n,ae,af,a,ag,ah,ai,aj,ak,al,am,an,ao] H⟩⟩⟩⟩⟩⟩⟩⟩⟩⟩⟩⟩⟩⟩⟩) :=
 by kernel_rfl
theorem S188x4q (n0:Nat) (s0 s1 s2 s3 s4 s5 s6 s7 s8 s9 ay az aA aB aC aD aE aF aG aH aI aJ aK aL aM aN aO aP aQ aR aS aT aU aV aW aX aY aZ a0 a1 a2 a3 a4 a5 a6 a7 a8 a9 ba bb bc bd be
 bf bg bh bi bj bk bl bm bn bo bp bq br bs bt bu bv bw bx bz bA bB bC bD bE bF bG bH bI bJ bK bL bM bN bO bP bQ bR bS bT bU bV bW bX bY bZ b0 b c d e f g h i
 j l m n o p q r s t u v w x y z A B C D E F G I J K L M N O P Q R S T U V W X Y Z aa ab ac ad
 ae af ag ah ai aj ak al am an b1 ao ap aq ar au av aw ax:Value) (H:AHeap) (k:Value→AHeap→Prop):S188x4 n0 k [s0,s1,s2,s3,s4,s5,s6,s7,s8,s9,ay,az,aA,aB,aC,aD,
 aE,aF,aG,aH,aI,aJ,aK,aL,aM,aN,aO,aP,aQ,aR,aS,aT,aU,aV,aW,aX,aY,aZ,a0,a1,a2,a3,a4,a5,a6,a7,a8,a9,ba,bb,bc,bd,be,bf,bg,bh,bi,bj,bk,bl,bm,
 bn,bo,bp,bq,br,bs,bt,bu,bv,bw,bx,bz,bA,bB,bC,bD,bE,bF,bG,bH,bI,bJ,bK,bL,bM,bN,bO,bP,bQ,bR,bS,bT,bU,bV,bW,bX,bY,bZ,b0,b,c,d,e,f,
 g,h,i,j,l,m,n,o,p,q,r,s,t,u,v,w,x,y,z,A,B,C,D,E,F,G,I,J,K,L,M,N,O,P,Q,R,S,T,
 U,V,W,X,Y,Z,aa,ab,ac,ad,ae,af,ag,ah,ai,aj,ak,al,am,an,b1,ao,ap,aq,ar,au,av,aw,ax] H=(@bnd (aBin2 prog H .add 3 (.tmp 101)
 (.const (.int .i64 1)) c (.int .i64 1)) ⟨fun a=>L188x0 n0  k [s0,s1,s2,s3,s4,s5,s6,s7,s8,s9,ay,az,aA,aB,aC,aD,aE,aF,aG,aH,aI,aJ,aK,aL,aM,aN,aO,aP,aQ,aR,aS,aT,aU,
 aV,aW,aX,aY,aZ,a0,a1,a2,a3,a4,a5,a6,a7,a8,a9,ba,bb,bc,bd,be,bf,bg,bh,bi,bj,bk,bl,bm,bn,bo,bp,bq,br,bs,bt,bu,bv,bw,bx,bz,bA,bB,bC,bD,bE,
 bF,bG,bH,bI,bJ,bK,bL,bM,bN,bO,bP,bQ,bR,bS,bT,bU,bV,bW,bX,bY,bZ,b0,b,a,d,e,f,g,h,i,j,l,m,n,o,p,q,r,s,t,u,
 v,w,x,y,z,A,B,C,D,E,F,G,I,J,K,L,M,N,O,P,Q,R,S,T,U,V,W,X,Y,Z,aa,ab,ac,ad,ae,af,ag,ah,
 ai,aj,ak,al,am,an,a,ao,ap,aq,ar,au,av,aw,ax] H⟩):=by kernel_rfl
-- internal/stringslite.Clone
theorem d189 (a0:Value) (H:AHeap) (k:Value→AHeap→Prop):kbody prog Tryz.f189 [a0] H k=(@bnd (aLen prog H 9 a0) ⟨fun f=>@bnd (aBin2 prog H .eql 3 (.tmp 5) (.const (.int .i64 0)) f (.int .i64 0))
 ⟨fun g=>@kifB g ⟨k (.string { data:=#[] }) H⟩ ⟨@bnd (aLen prog H 9 a0) ⟨fun b=>@bndE (aMake prog H 55 b b) ⟨fun a H5=>@bndE (aBuiltin prog H5 Builtin.copy #[55,9] [a,a0]) ⟨fun _ H7
=>@bnd (aIndexAddr prog H7 55 a (.int .i64 0)) ⟨fun d=>@bnd (aLen prog H7 55 a) ⟨fun e=>@bndE (aBuiltin prog H7 Builtin.unsafeString #[157,3] [d,e]) ⟨fun c H11=>k c
 H11⟩⟩⟩⟩⟩⟩⟩⟩⟩):=by kernel_rfl
-- math/bits.Mul64
theorem d192 (a0 a1:Value) (H:AHeap) (k:Value→AHeap→Prop):kbody prog Tryz.f192 [a0,a1] H k=(@bnd (aBin2 prog H .and 178 (.tmp 14) (.const (.int .u64 4294967295)) a0 (.int .u64 4294967295)) ⟨fun a =>
 @bnd (aBin2 prog H .shr 178 (.tmp 16) (.const (.int .u64 32)) a0 (.int .u64 32)) ⟨fun b=>@bnd (aBin2 prog H .and 178 (.tmp 18) (.const (.int .u64 4294967295)) a1 (.int .u64 4294967295)) ⟨fun c=>@bnd (aBin2
 prog H .shr 178 (.tmp 20) (.const (.int .u64 32)) a1 (.int .u64 32)) ⟨fun d=>@bnd (aBin2 prog H .mul 178 (.tmp 22) (.tmp 23) a c) ⟨fun o=>@bnd (aBin2 prog H .mul 178 (.tmp 25) (.tmp 26) b
 c) ⟨fun p=>@bnd (aBin2 prog H .shr 178 (.tmp 28) (.const (.int .u64 32)) o (.int .u64 32)) ⟨fun q=>@bnd (aBin2 prog H .add 178 (.tmp 27) (.tmp 29) p q) ⟨fun e=>@bnd (aBin2 prog H
 .and 178 (.tmp 31) (.const (.int .u64 4294967295)) e (.int .u64 4294967295)) ⟨fun r=>@bnd (aBin2 prog H .shr 178 (.tmp 33) (.const (.int .u64 32)) e (.int .u64 32)) ⟨fun f=>@bnd (aBin2 prog H .mul
 178 (.tmp 36) (.tmp 37) a d) ⟨fun g=>@bnd (aBin2 prog H .add 178 (.tmp 35) (.tmp 38) r g) ⟨fun h=>@bnd (aBin2 prog H .mul 178 (.tmp 40) (.tmp 41) b d) ⟨fun i=>@bnd (aBin2
 prog H .add 178 (.tmp 42) (.tmp 43) i f) ⟨fun j=>@bnd (aBin2 prog H .shr 178 (.tmp 45) (.const (.int .u64 32)) h (.int .u64 32)) ⟨fun l=>@bnd (aBin2 prog H .add 178 (.tmp 44) (.tmp
 46) j l) ⟨fun m=>@bnd (aBin2 prog H .mul 178 (.tmp 48) (.tmp 49) a0 a1) ⟨fun n=>k (.tuple #[m,n]) H⟩⟩⟩⟩⟩⟩⟩⟩⟩⟩⟩⟩⟩⟩⟩⟩⟩):=by kernel_rfl
-- internal/strconv.lower
theorem d197 (a0:Value) (H:AHeap) (k:Value→AHeap→Prop):kbody prog Tryz.f197 [a0] H k=(@bnd (aBin2 prog H .or 5 (.tmp 3) (.const (.int .u8 32)) a0 (.int .u8 32)) ⟨fun v4x1=>k v4x1 H⟩):=by kernel_rfl
end Go.Vi
namespace Go.Vi
open Go Go.Proofs Go.Proofs.Tryz
theorem MixT:prog.follows .mixedOrders=true:=by kernel_rfl
def isLow (b:UInt8):Bool:=decide (97≤(b.toNat:Int)) && decide ((b.toNat:Int)≤122)
def isDig (b:UInt8):Bool:=decide (48≤(b.toNat:Int)) && decide ((b.toNat:Int)≤57)
def isMark (b:UInt8):Bool:=isLow b || isDig b || (b.toNat:Int) == 95
def isSign (b:UInt8):Bool:=decide (32≤(b.toNat:Int)) && decide ((b.toNat:Int)≤126)
def mayName (l:List UInt8):Bool:=decide (1≤l.length) && decide (l.length≤16) && (l[0]?).any isLow && l.all isMark
def mayValue (l:List UInt8):Bool:=decide (1≤l.length) && decide (l.length≤32) && l.all isSign
theorem c_lab_letter (H:AHeap) (b:UInt8):ACalls prog 162 [byt b] H (.bool (isLow b)) H:=by
 refine acalls_pure MixT func162 (by decide) rfl ?_
 rw [d162]
 simp +contextual [isLow]
theorem c_lab_mark (H:AHeap) (b:UInt8):ACalls prog 164 [byt b] H (.bool (isMark b)) H:=by
 refine acalls_pure MixT func164 (by decide) rfl ?_
 rw [d164]
 refine bndC_of (c_lab_letter _ _) ?_
 simp +contextual [isMark,isDig]
theorem c_lab_sign (H:AHeap) (b:UInt8):ACalls prog 185 [byt b] H (.bool (isSign b)) H:=by
 refine acalls_pure MixT func185 (by decide) rfl ?_
 rw [d185]
 simp +contextual [isSign]
theorem every_loop {l:List UInt8} {g:FuncId} {p:UInt8→Bool} {H:AHeap} {k:Value→AHeap→Prop} (hp:∀ b,ACalls prog g [byt b] H (.bool (p b)) H) (hl:l.length < 2 ^ 63) :
  ∀ (r : List UInt8) (i : Nat) (o q s t u a c d e f j m n : Value), l.drop i = r → i ≤ l.length → k (.bool (r.all p)) H →
    L163x0 (r.length+1) k [str l,.func (.func g) #[] #[],o,q,s,t,str l,i64 l.length,i64 i,u,a,c,d,e,f,j,m,n] H:=by
 intro r
 induction r with
 | nil =>
   intro i o q s t u a c d e f j m n hd hi hk
   have hle:l.length≤i:=by simpa using hd
   rw [List.length_nil,L163x0q]
   have:¬ i < l.length:=by omega
   simp [this]
   simpa using hk
 | cons b r ih =>
   intro i o q s t u a c d e f j m n hd hi hk
   have hb:l[i]?=some b:=by rw [← List.head?_drop,hd];rfl
   have hlt:i < l.length:=(List.getElem?_eq_some_iff.1 hb).1
   rw [List.length_cons,L163x0q]
   simp [hlt,aIndex_at _ hb]
   refine bndV_func (by simpa using hp b) ?_
   simp
   refine kifB_bool (fun h=>?_) (fun h=>?_)
   · simp at h
     simpa [h] using hk
   · simp at h
     simp [show i+1 < 2 ^ 63 by omega]
     exact ih (i+1) _ _ _ _ _ _ _ _ _ _ _ _ _ (by rw [← List.drop_drop,hd];rfl) hlt (by simpa [h] using hk)
theorem c_every {H:AHeap} {l:List UInt8} {g:FuncId} {p:UInt8→Bool} (hp:∀ b,ACalls prog g [byt b] H (.bool (p b)) H) (hl:l.length < 2 ^ 63) :
  ACalls prog 163 [str l,.func (.func g) #[] #[]] H (.bool (l.all p)) H:=by
 refine acalls_pure MixT func163 (by decide) rfl ?_
 rw [d163]
 simp
 exact ⟨l.length+1,every_loop hp hl l 0 _ _ _ _ _ _ _ _ _ _ _ _ _ rfl (by omega) ⟨rfl,[],by simp⟩⟩
theorem c_mayName (H:AHeap) (l:List UInt8):ACalls prog 138 [str l] H (.bool (mayName l)) H:=by
 refine acalls_pure MixT func138 (by decide) rfl ?_
 rw [d138]
 cases l with
 | nil=>simp [mayName]
 | cons b r =>
   have hb:(b :: r)[0]?=some b:=rfl
   have h0:=aIndex_at (P:=prog) (T:=9) (k:=.i64) (i:=0) (by simp) hb
   simp only [Int.ofNat_zero] at h0
   simp +contextual [h0]
   refine bndG_call (.bool (isLow b)) (fun h=>?_) ?_
   · simp only [h,gsel_tt];exact c_lab_letter _ _
   simp +contextual
   refine bndG_call (.bool ((b :: r).all isMark)) (fun h=>?_) ?_
   · have hh:=h
     simp at h
     simp only [hh,gsel_tt];exact c_every (c_lab_mark _) (by simp;omega)
   · simp +contextual [mayName]
     have:decide (1≤(r.length:Int)+1)=true:=by simp;omega
     have h2:decide ((r.length:Int)+1≤16)=decide (r.length≤15):=by rw [decide_eq_decide];omega
     rw [this,h2,Bool.true_and]
theorem c_mayValue (H:AHeap) (l:List UInt8):ACalls prog 165 [str l] H (.bool (mayValue l)) H:=by
 refine acalls_pure MixT func165 (by decide) rfl ?_
 rw [d165]
 simp +contextual
 refine bndG_call (.bool (l.all isSign)) (fun h=>?_) ?_
 · have hh:=h
   simp at h
   simp only [hh,gsel_tt];exact c_every (c_lab_sign _) (by omega)
 · simp +contextual
   rw [mayValue]
   congr 2<;>rw [decide_eq_decide]<;>omega
structure Mat where
 name:List UInt8
 op:Int
 value:List UInt8
def Mat.cells (m:Mat):List Value:=[str m.name,.int .u8 m.op,str m.value]
def mayM (s:List UInt8):Bool:=decide (s=[]) || mayValue s
def Mat.ok (m:Mat):Bool:=(m.op == 0 || m.op == 1 || m.op == 2) && mayName m.name && mayM m.value
def mayMats (ms:List Mat):Bool:=ms.all Mat.ok && decide (ms.length≤6)
theorem c_matMay (H:AHeap) (l:List UInt8):ACalls prog 139 [str l] H (.bool (mayM l)) H:=by
 refine acalls_pure MixT func139 (by decide) rfl ?_
 rw [d139]
 simp +contextual
 refine bndG_call (.bool (mayValue l)) (fun h=>?_) ?_
 · simp only [h,gsel_ff];exact c_mayValue _ _
 · simp +contextual [mayM]
def opsMap:List (Value × Value):=[(.int .u8 0,.agg #[str [61],.func (.func 131) #[] #[]]),(.int .u8 1,.agg #[str [33,61],.func (.func 132) #[] #[]]),(.int .u8 2,.agg #[str [94,61],.func (.func 133) #[] #[]])]
theorem c_matOps (H:AHeap):ACalls prog 109 [] H (.map (some H.length)) (H++[.map opsMap]):=by
 refine acalls_of MixT func109 (by decide) ?_
 rw [d109]
 simp [keyOk,mOk,mput,mfind,keyEq,opsMap]
def MatsAt (H:AHeap) (v:Value) (ms:List Mat):Prop:=Arr H 3 v (ms.map Mat.cells)
theorem MatsAt.pre {H K v ms} (h:MatsAt H v ms) (p:Pre H K):MatsAt K v ms:=Arr.pre h p
def isOp (n:Int):Bool:=n == 0 || n == 1 || n == 2
def opS (n:Int):List UInt8:=if n=0 then [61] else if n=1 then [33,61] else if n=2 then [94,61] else []
def opF (n:Int):Value:=if n=0 then .func (.func 131) #[] #[] else if n=1 then .func (.func 132) #[] #[] else if n=2 then .func (.func 133) #[] #[] else .nilFunc
theorem opF_one (n:Int):(opF n).oneCell'=true:=by unfold opF;split<;>(try split)<;>(try split)<;>rfl
theorem opsOk:mOk (.int .u8) opsMap=true:=by simp [mOk,opsMap,keyOk]
theorem opsLook {K:AHeap} {mb:Nat} (n:Int) (h:K[mb]?=some (.map opsMap)):aLookup prog K 146 (.map (some mb)) (.int .u8 n) true=some (.tuple #[.agg #[str (opS n),opF n],.bool (isOp n)]):=by
 rw [aLookup_map,h]
 simp only [tm146,Option.bind_some,mapOf_map,opsOk,keyOk,beq_self_eq_true,if_true]
 unfold mget opsMap opS opF isOp
 simp only [mfind,keyEq]
 by_cases h0:n=0
 · simp [h0]
 · by_cases h1:n=1
   · simp [h1]
   · by_cases h2:n=2
     · simp [h2]
     · simp [h0,h1,h2,cok,isLit]
theorem matMay_loop {v:Value} {ms:List Mat} {H:AHeap} {w:Bool} {mb:Nat} {k:Value→AHeap→Prop} (hl:ms.length < 2 ^ 63) (hk:∀ K,Pre H K→k (.bool w) K) :
  ∀ (r : List Mat) (i : Nat) (K : AHeap) (N O Q R S U V a b c d f g j l n o q s t u x y z A B C D E F G I J L M : Value), ms.drop i = r → i ≤ ms.length → Pre H K → MatsAt K v ms → K[mb]? = some (.map opsMap) →
    w=(r.all Mat.ok && decide (ms.length≤6)) →
    L115x0 (r.length+1) k [v,N,O,.map (some mb),Q,R,S,U,V,v,i64 ms.length,i64 i,a,b,c,d,f,g,j,l,n,o,q,s,t,u,x,y,z,A,B,C,D,E,F,G,I,J,L,M] K:=by
 intro r
 induction r with
 | nil =>
   intro i K N O Q R S U V a b c d f g j l n o q s t u x y z A B C D E F G I J L M hd hi hp hm hmap hw
   have hle:ms.length≤i:=by simpa using hd
   rw [List.length_nil,L115x0q]
   have:¬ i < ms.length:=by omega
   have hlen:=hm.len (P:=prog) (T:=35) (e:=75) (by simp)
   simp at hlen
   simp [this,hlen]
   have:=hk K hp
   rw [hw] at this
   have e:decide ((ms.length:Int)≤6)=decide (ms.length≤6):=by rw [decide_eq_decide];omega
   rw [e];simpa using this
 | cons m r ih =>
   intro i K N O Q R S U V a b c d f g j l n o q s t u x y z A B C D E F G I J L M hd hi hp hm hmap hw
   have hb:ms[i]?=some m:=by rw [← List.head?_drop,hd];rfl
   have hlt:i < ms.length:=(List.getElem?_eq_some_iff.1 hb).1
   obtain ⟨p,hp1,hp2⟩:=hm.load (P:=prog) (T:=35) (te:=75) (i:=i) (e:=m.cells) (by simp) (by simp) (by simp) (by simp [hb])
   have hmb:mb < K.length:=(List.getElem?_eq_some_iff.1 hmap).1
   have hg:∀ X:AHeap,(K++X)[mb]?=some (.map opsMap):=fun X=>get_more hmap
   rw [List.length_cons,L115x0q]
   have hlook:∀ X:AHeap,aLookup prog (K++X) 146 (.map (some mb)) (.int .u8 m.op) true=some (.tuple #[.agg #[str (opS m.op),opF m.op],.bool (isOp m.op)]):=fun X=>opsLook _ (hg X)
   simp +contextual [hlt,hp1,hp2,Mat.cells,-aLookup_map,hlook,opF_one]
   refine bndG_call (.bool (mayName m.name)) (fun h=>?_) ?_
   · simp only [h,gsel_ff];exact c_mayName _ _
   simp +contextual
   refine bndG_call (.bool (mayM m.value)) (fun h=>?_) ?_
   · simp only [h,gsel_ff];exact c_matMay _ _
   simp +contextual
   have hok:m.ok=(isOp m.op && mayName m.name && mayM m.value):=by simp [Mat.ok,isOp]
   refine kifB_bool (fun h=>?_) (fun h=>?_)
   · have:w=false:=by
      rw [hw,List.all_cons,hok]
      revert h;cases isOp m.op<;>cases mayName m.name<;>cases mayM m.value<;>simp
     rw [← this]
     exact hk _ (hp.more _)
   · have h1:m.ok=true:=by
      rw [hok]
      revert h;cases isOp m.op<;>cases mayName m.name<;>cases mayM m.value<;>simp
     simp [show i+1 < 2 ^ 63 by omega]
     exact ih (i+1) _ _ _ _ _ _ _ _ _ _ _ _ _ _ _ _ _ _ _ _ _ _ _ _ _ _ _ _ _ _ _ _ _ _ _ _ (by rw [← List.drop_drop,hd];rfl) hlt (hp.more _) (hm.pre (.app _ _)) (hg _) (by rw [hw,List.all_cons,h1,Bool.true_and])
theorem c_matchMay {H:AHeap} {v:Value} {ms:List Mat} (hm:MatsAt H v ms) (hl:ms.length < 2 ^ 63):ACalls prog 115 [v] H (.bool (mayMats ms)) H:=by
 refine acalls_pure MixT func115 (by decide) rfl ?_
 rw [d115]
 refine bndC_of (c_matOps H) ?_
 have hlen:=(hm.pre (.app H [.map opsMap])).len (P:=prog) (T:=35) (e:=75) (by simp)
 simp at hlen
 simp [hlen]
 exact ⟨ms.length+1,matMay_loop (H:=H) hl (fun K p=>⟨rfl,p⟩) ms 0 _ _ _ _ _ _ _ _ _ _ _ _ _ _ _ _ _ _ _ _ _ _ _ _ _ _ _ _ _ _ _ _ _ _ _ _ rfl (by omega) (.app _ _) (hm.pre (.app _ _)) (by simp) rfl⟩
end Go.Vi
namespace Go.Vi
open Go Go.Proofs Go.Proofs.Tryz
structure Nod where
 kind:UInt8
 agg:UInt8
 sel:List Mat
 window:Int
 cmp:UInt8
 value:Int
 left:Int
 right:Int
def Nod.cells (n:Nod) (sv:Value):List Value:=[byt n.kind,byt n.agg,sv,i64 n.window,byt n.cmp,i64 n.value,i64 n.left,i64 n.right]
def maxFix:Int:=4611686018427387903
def sat (x:Int):Int:=min (max x (-maxFix)) maxFix
theorem c_sat (H:AHeap) (x:Int):ACalls prog 112 [i64 x] H (i64 (sat x)) H:=by
 refine acalls_pure MixT func112 (by decide) rfl ?_
 rw [d112]
 simp [sat,maxFix]
 split<;>split<;>omega
def aggs:List (List UInt8):=[[99,111,117,110,116],[115,117,109],[109,105,110],[109,97,120],[109,101,97,110],[108,97,115,116]]
def cmps:List (List UInt8):=[[60],[60,61],[62],[62,61],[61,61],[33,61]]
theorem c_aggregates (H:AHeap):ACalls prog 71 [] H (.slice (some ⟨H.length,0,some 6⟩) 6 6) (H++[.cells (aggs.map str) 9]):=by
 refine acalls_of MixT func71 (by decide) ?_
 rw [d71]
 exact bndL_of (by decide) (by kernel_rfl) ⟨rfl,rfl⟩
theorem c_compares (H:AHeap):ACalls prog 73 [] H (.slice (some ⟨H.length,0,some 6⟩) 6 6) (H++[.cells (cmps.map str) 9]):=by
 refine acalls_of MixT func73 (by decide) ?_
 rw [d73]
 exact bndL_of (by decide) (by kernel_rfl) ⟨rfl,rfl⟩
def Nod.plain (n:Nod):Bool:=decide ((n.agg.toNat:Int) < 6) && mayMats n.sel && decide (n.window ≥ 1) && decide (n.window≤1000) && decide ((n.cmp.toNat:Int) < 6) && (sat n.value == n.value) && (n.left == 0) && (n.right == 0)
def Nod.void (n:Nod):Bool:=((n.agg.toNat:Int) == 0) && ((n.sel.length:Int) == 0) && (n.window == 0) && ((n.cmp.toNat:Int) == 0) && (n.value == 0)
theorem MatsAt.one {H v ms} (h:MatsAt H v ms):v.oneCell'=true:=Arr.one h
theorem c_void {H:AHeap} {n:Nod} {sv:Value} (hs:MatsAt H sv n.sel):ACalls prog 77 [.agg (n.cells sv).toArray] H (.bool n.void) H:=by
 refine acalls_pure MixT func77 (by decide) rfl ?_
 rw [d77]
 have h1:=hs.one
 have hl:=fun X=>(hs.pre (.app H X)).len (P:=prog) (T:=35) (e:=75) (by simp)
 simp at hl
 simp +contextual [aNew_agg,Nod.cells,Nod.void,h1,hl]
theorem c_plain {H:AHeap} {n:Nod} {sv:Value} (hs:MatsAt H sv n.sel) (hsl:n.sel.length < 2 ^ 63):ACalls prog 76 [.agg (n.cells sv).toArray] H (.bool n.plain) H:=by
 refine acalls_pure MixT func76 (by decide) rfl ?_
 rw [d76]
 have h1:=hs.one
 simp +contextual [aNew_agg,Nod.cells,h1]
 refine bndD_of (c_aggregates _) (.inr ⟨_,rfl⟩) ?_
 simp +contextual
 refine bndD_gcall (.bool (mayMats n.sel)) (by simp) (fun h=>?_) ?_
 · simp only [h,gsel_tt];rw [List.append_assoc];exact c_matchMay (hs.pre (.app _ _)) hsl
 simp +contextual
 refine bndD_gcases _ _ (by simp) (fun h=>?_) (fun _=>c_compares _) (.inr ⟨_,by simp;rfl⟩) (fun h=>?_)
 · have e:n.plain=false:=by simp only [Nod.plain,ge_iff_le,h,Bool.false_and]
   simp [h,e]
 · simp +contextual [h]
   refine bndD_gcall (i64 (sat n.value)) (by simp) (fun h=>?_) ?_
   · simp only [h,gsel_tt];exact c_sat _ _
   simp +contextual
   simp only [Nod.plain,ge_iff_le,h,Bool.true_and]
def NodesAt (H:AHeap) (v:Value) (ns:List Nod):Prop:=∃ cl:List (List Value),Arr H 8 v cl∧cl.length=ns.length∧∀ (i:Nat) n,ns[i]?=some n→∃ sv,cl[i]?=some (n.cells sv)∧MatsAt H sv n.sel∧n.sel.length < 2 ^ 63
theorem NodesAt.pre {H K v ns} (h:NodesAt H v ns) (p:Pre H K):NodesAt K v ns:=by
 obtain ⟨cl,h1,h2,h3⟩:=h
 refine ⟨cl,h1.pre p,h2,fun i n hi=>?_⟩
 obtain ⟨sv,q1,q2,q3⟩:=h3 i n hi
 exact ⟨sv,q1,q2.pre p,q3⟩
theorem NodesAt.len {H v ns} (h:NodesAt H v ns) (K:AHeap):aLen prog K 27 v=some (i64 ns.length):=by
 obtain ⟨cl,h1,h2,_⟩:=h
 rw [← h2]
 exact h1.len' (e:=37) (by simp)
def isAnd (n:Nod):Bool:=(n.kind.toNat:Int) == 1
def isOr (n:Nod):Bool:=(n.kind.toNat:Int) == 2
def beg (ns:List Nod):Nat→Int→Int
 | 0,_=>-1
 | f + 1, e => if e < 0 then -1 else match ns[e.toNat]? with
   | none=>-1
   | some n =>
     if ((n.kind.toNat:Int) == 0)=true then (if n.plain=true then e else -1)
     else if ((n.kind.toNat:Int) == 3)=true then (if (n.void && n.left == e-1 && n.right == 0)=true then beg ns f (e-1) else -1)
     else if (isAnd n || isOr n)=true then
      (if (n.void && n.right == e-1 && decide (beg ns f (e-1) > 0) && n.left == beg ns f (e-1)-1)=true then beg ns f (beg ns f (e-1)-1) else -1)
     else -1
theorem beg_range (ns:List Nod):∀ (f:Nat) (e:Int),-1≤e→-1≤beg ns f e∧beg ns f e≤e:=by
 intro f
 induction f with
 | zero=>intro e h;exact ⟨Int.le_refl _,h⟩
 | succ f ih =>
   intro e h
   simp only [beg]
   split
   · omega
   · split
     · omega
     · split
       · split<;>omega
       · split
         · split
           · have:=ih (e-1) (by omega);omega
           · omega
         · split
           · split
             · rename_i n _ _ _ _ hc
               simp only [Bool.and_eq_true,decide_eq_true_eq] at hc
               have h1:=ih (e-1) (by omega)
               have:=ih (beg ns f (e-1)-1) (by omega)
               omega
             · omega
           · omega
attribute [local simp] S44x0q S44x1q
theorem c_begin {ns:List Nod} {v:Value} (hlen:ns.length < 2 ^ 40):∀ (f:Nat) (H:AHeap) (e:Int),NodesAt H v ns→-1≤e→e < ns.length→e < f→ACalls prog 44 [v,i64 e] H (i64 (beg ns f e)) H:=by
 intro f
 induction f with
 | zero =>
   intro H e hn h1 h2 h3
   refine acalls_pure MixT func44 (by decide) rfl ?_
   rw [d44]
   have:e = -1:=by omega
   subst this
   simp [beg]
 | succ f ih =>
   intro H e hn h1 h2 h3
   refine acalls_pure MixT func44 (by decide) rfl ?_
   rw [d44]
   by_cases h0:e < 0
   · simp [beg,h0]
   obtain ⟨cl,ha,hcl,hc⟩:=hn
   obtain ⟨n,hnd⟩:∃ n,ns[e.toNat]?=some n:=⟨_,List.getElem?_eq_getElem (by omega)⟩
   obtain ⟨sv,hsv,hm,hml⟩:=hc _ _ hnd
   obtain ⟨p,hp1,hp2⟩:=ha.load (P:=prog) (T:=27) (te:=37) (i:=e.toNat) (e:=n.cells sv) (by simp) (by simp) (by simp) hsv
   have het:((e.toNat:Nat):Int)=e:=by omega
   rw [het] at hp1
   have hone:=hm.one
   simp [h0,hp1,hp2,Nod.cells,hone]
   have hK:∀ X:AHeap,NodesAt (H++X) v ns:=fun X=>NodesAt.pre ⟨cl,ha,hcl,hc⟩ (.app _ _)
   have hpl:=fun X:AHeap=>c_plain (H:=H++X) (hm.pre (.app _ _)) hml
   have hvo:=fun X:AHeap=>c_void (H:=H++X) (hm.pre (.app _ _))
   have hw:IntKind.i64.wrap (e-1)=e-1:=wrap_i64 (by omega) (by omega)
   have hr:=ih (H++[AObj.cells [byt n.kind,byt n.agg,sv,i64 n.window,byt n.cmp,i64 n.value,i64 n.left,i64 n.right] 37]) (e-1) (hK _) (by omega) (by omega) (by omega)
   obtain ⟨rb1,rb2⟩:=beg_range ns f (e-1) (by omega)
   have hw2:IntKind.i64.wrap (beg ns f (e-1)-1)=beg ns f (e-1)-1:=wrap_i64 (by omega) (by omega)
   simp only [Nod.cells] at hpl hvo
   have hbeg:beg ns (f+1) e=if ((n.kind.toNat:Int) == 0)=true then (if n.plain=true then e else -1)
    else if ((n.kind.toNat:Int) == 3)=true then (if (n.void && n.left == e-1 && n.right == 0)=true then beg ns f (e-1) else -1)
    else if (isAnd n || isOr n)=true then
     (if (n.void && n.right == e-1 && decide (beg ns f (e-1) > 0) && n.left == beg ns f (e-1)-1)=true then beg ns f (beg ns f (e-1)-1) else -1)
    else -1:=by rw [beg,if_neg h0,hnd]
   generalize beg ns (f+1) e=res at hbeg ⊢
   refine kifB_bool (fun hk=>?_) (fun hk=>?_)
   · rw [hk,if_pos rfl] at hbeg
     simp
     refine bndC_of (hpl _) ?_
     refine kifB_bool (fun hq=>?_) (fun hq=>?_)<;>simp [hq,hbeg]
   rw [hk,if_neg (by simp)] at hbeg
   simp
   refine kifB_bool (fun hk3=>?_) (fun hk3=>?_)
   · rw [hk3,if_pos rfl] at hbeg
     simp
     refine bndC_of (hvo _) ?_
     simp +contextual [hw]
     refine kifB_bool (fun hq=>?_) (fun hq=>?_)
     · rw [hq,if_pos rfl] at hbeg
       simp [hw]
       exact bndC_of hr (by simp [hbeg])
     · rw [hq,if_neg (by simp)] at hbeg
       simp [hbeg]
   rw [hk3,if_neg (by simp)] at hbeg
   simp
   refine kifB_bool (fun hk1=>?_) (fun hk1=>?_)
   · rw [show (isAnd n || isOr n)=true by simp only [isAnd,hk1,Bool.true_or],if_pos rfl] at hbeg
     simp only [S44x1q,kifB_true,aBin_sub,hw,bnd_some,hk1]
     refine bndC_of hr ?_
     simp
     refine bndC_of (hvo _) ?_
     simp +contextual [hw,hw2]
     refine kifB_bool (fun hq=>?_) (fun hq=>?_)
     · rw [hq,if_pos rfl] at hbeg
       have hpos:beg ns f (e-1) > 0:=by
        revert hq;cases hd:decide (beg ns f (e-1) > 0)
        · simp
        · intro _;simpa using hd
       simp [hw2]
       exact bndC_of (ih _ (beg ns f (e-1)-1) (hK _) (by omega) (by omega) (by omega)) (by simp [hbeg])
     · rw [hq,if_neg (by simp)] at hbeg
       simp [hbeg]
   · simp
     refine kifB_bool (fun hk2=>?_) (fun hk2=>?_)
     · rw [show (isAnd n || isOr n)=true by simp only [isOr,hk2,Bool.or_true],if_pos rfl] at hbeg
       simp only [aBin_sub,hw,bnd_some]
       refine bndC_of hr ?_
       simp
       refine bndC_of (hvo _) ?_
       simp +contextual [hw,hw2]
       refine kifB_bool (fun hq=>?_) (fun hq=>?_)
       · rw [hq,if_pos rfl] at hbeg
         have hpos:beg ns f (e-1) > 0:=by
          revert hq;cases hd:decide (beg ns f (e-1) > 0)
          · simp
          · intro _;simpa using hd
         simp [hw2]
         exact bndC_of (ih _ (beg ns f (e-1)-1) (hK _) (by omega) (by omega) (by omega)) (by simp [hbeg])
       · rw [hq,if_neg (by simp)] at hbeg
         simp [hbeg]
     · rw [show (isAnd n || isOr n)=false by simp only [isAnd,isOr,hk1,hk2,Bool.or_self],if_neg (by simp)] at hbeg
       simp [hbeg]
def right (ns:List Nod):Bool:=decide ((ns.length:Int) ≥ 1) && decide ((ns.length:Int)≤31) && (beg ns ns.length ((ns.length:Int)-1) == 0)
theorem c_right {H:AHeap} {ns:List Nod} {v:Value} (hn:NodesAt H v ns):ACalls prog 22 [v] H (.bool (right ns)) H:=by
 refine acalls_pure MixT func22 (by decide) rfl ?_
 rw [d22]
 have hl:=hn.len H
 simp +contextual [hl]
 refine bndG_call (i64 (beg ns ns.length ((ns.length:Int)-1))) (fun h=>?_) ?_
 · simp only [h,gsel_tt]
   simp at h
   have:IntKind.i64.wrap ((ns.length:Int)-1)=(ns.length:Int)-1:=wrap_i64 (by omega) (by omega)
   rw [this]
   exact c_begin (by omega) _ _ _ hn (by omega) (by omega) (by omega)
 · simp +contextual [right]
end Go.Vi
namespace Go.Vi
open Go Go.Proofs
def strCells (l:List (List UInt8)):List (List Value):=l.map fun s=>[str s]
end Go.Vi
namespace Go.Vi
open Go Go.Proofs Go.Proofs.Tryz
theorem max_lt {n:Nat} (h:n≤maxLen):n < 2 ^ 63:=by unfold maxLen at h;omega
theorem map_ex {α β:Type} {g:α→β}:∀ {l:List β},(∀ x∈l,∃ m,x=g m)→∃ ms:List α,l=ms.map g:=by
 intro l
 induction l with
 | nil=>intro _;exact ⟨[],rfl⟩
 | cons x r ih =>
   intro h
   obtain ⟨m,rfl⟩:=h x (by simp)
   obtain ⟨ms,rfl⟩:=ih fun y hy=>h y (by simp [hy])
   exact ⟨m :: ms,rfl⟩
theorem len3 {α:Type} {l:List α} (h:l.length=3):∃ a b c,l=[a,b,c]:=match l,h with
 | [a,b,c],_=>⟨a,b,c,rfl⟩
theorem len8 {α:Type} {l:List α} (h:l.length=8):∃ a b c d e f g i,l=[a,b,c,d,e,f,g,i]:=match l,h with
 | [a,b,c,d,e,f,g,i],_=>⟨a,b,c,d,e,f,g,i,rfl⟩
theorem ce_str:prog.cellsOf 9=1:=by kernel_rfl
theorem ce_u8:prog.cellsOf 5=1:=by kernel_rfl
theorem ce_int:prog.cellsOf 3=1:=by kernel_rfl
theorem ce_i64:prog.cellsOf 2=1:=by kernel_rfl
theorem ce_mats:prog.cellsOf 35=1:=by kernel_rfl
theorem ce_mat:prog.cellsOf 75=3:=by kernel_rfl
theorem ce_node:prog.cellsOf 37=8:=by kernel_rfl
section
variable {H:AHeap} {f:Nat} {v:Value} {cs:List Value}
theorem rd_mat (h:Rd prog H (f+2) 75 cs):∃ m:Mat,cs=m.cells:=by
 obtain ⟨hl,hp⟩:=h.parts (ps:=[(9,0),(5,1),(9,2)]) (by kernel_rfl)
 rw [ce_mat] at hl
 obtain ⟨x,y,z,rfl⟩:=len3 hl
 simp only [List.forall_mem_cons,ce_str,ce_u8] at hp
 obtain ⟨h0,h1,h2,_⟩:=hp
 obtain ⟨l0,e0,_⟩:=h0.str underlying9
 obtain ⟨b,e1,_⟩:=h1.int underlying5
 obtain ⟨l2,e2,_⟩:=h2.str underlying9
 simp at e0 e1 e2
 exact ⟨⟨l0,b,l2⟩,by simp [Mat.cells,e0,e1,e2]⟩
theorem rd_mats (h:Rd prog H (f+3) 35 [v]):∃ ms,MatsAt H v ms∧ms.length < 2 ^ 63:=by
 obtain ⟨v',l,h1,h2,h3,h4⟩:=h.slice underlying35
 cases h1
 rw [ce_mat] at h2
 obtain ⟨ms,rfl⟩:=map_ex fun x hx=>rd_mat (h4 x hx)
 exact ⟨ms,h2,by simpa using max_lt h3⟩
theorem rd_node (h:Rd prog H (f+4) 37 cs):∃ (n:Nod) (sv:Value),cs=n.cells sv∧MatsAt H sv n.sel∧n.sel.length < 2 ^ 63:=by
 obtain ⟨hl,hp⟩:=h.parts (ps:=[(5,0),(5,1),(35,2),(3,3),(5,4),(2,5),(3,6),(3,7)]) (by kernel_rfl)
 rw [ce_node] at hl
 obtain ⟨x0,x1,x2,x3,x4,x5,x6,x7,rfl⟩:=len8 hl
 simp only [List.forall_mem_cons,ce_u8,ce_int,ce_i64,ce_mats] at hp
 obtain ⟨h0,h1,h2,h3,h4,h5,h6,h7,_⟩:=hp
 obtain ⟨b0,e0⟩:=h0.byte underlying5
 obtain ⟨b1,e1⟩:=h1.byte underlying5
 obtain ⟨ms,e2,e2'⟩:=rd_mats h2
 obtain ⟨b3,e3,_⟩:=h3.int underlying3
 obtain ⟨b4,e4⟩:=h4.byte underlying5
 obtain ⟨b5,e5,_⟩:=h5.int underlying2
 obtain ⟨b6,e6,_⟩:=h6.int underlying3
 obtain ⟨b7,e7,_⟩:=h7.int underlying3
 simp at e0 e1 e3 e4 e5 e6 e7
 exact ⟨⟨b0,b1,ms,b3,b4,b5,b6,b7⟩,x2,by simp [Nod.cells,e0,e1,e3,e4,e5,e6,e7],e2,e2'⟩
theorem rd_list {α:Type} {R:List Value→α→Prop}:∀ {l:List (List Value)},(∀ x∈l,∃ a,R x a)→∃ q:List α,l.length=q.length∧∀ (i:Nat) a,q[i]?=some a→∃ c,l[i]?=some c∧R c a:=by
 intro l
 induction l with
 | nil=>intro _;exact ⟨[],rfl,fun i a h=>by simp at h⟩
 | cons x r ih =>
   intro h
   obtain ⟨a,ha⟩:=h x (by simp)
   obtain ⟨q,h1,h2⟩:=ih fun y hy=>h y (by simp [hy])
   refine ⟨a :: q,by simp [h1],fun i b hb=>?_⟩
   cases i with
   | zero=>simp at hb;subst hb;exact ⟨x,rfl,ha⟩
   | succ i=>exact h2 i b (by simpa using hb)
theorem rd_nodes (h:Rd prog H (f+5) 27 [v]):∃ ns,NodesAt H v ns∧ns.length < 2 ^ 63:=by
 obtain ⟨v',l,h1,h2,h3,h4⟩:=h.slice underlying27
 cases h1
 rw [ce_node] at h2
 obtain ⟨ns,q1,q2⟩:=rd_list (R:=fun cs (n:Nod)=>∃ sv,cs=n.cells sv∧MatsAt H sv n.sel∧n.sel.length < 2 ^ 63) fun x hx=>rd_node (h4 x hx)
 refine ⟨ns,⟨l,h2,q1,fun i n hi=>?_⟩,by rw [← q1];exact max_lt h3⟩
 obtain ⟨c,c1,sv,rfl,c2,c3⟩:=q2 i n hi
 exact ⟨sv,c1,c2,c3⟩
end
end Go.Vi
namespace Go.Vi
open Go Go.Proofs Go.Proofs.Tryz
theorem c_indexByteN (H:AHeap) (l:List UInt8) (b:UInt8):ACalls prog 152 [str l,byt b] H (i64 (Lib.indexByte l b)) H:=by
 have:=acalls_indexByte (P:=prog) (H:=H) (st:=⟨l.toArray⟩) (c:=b.toNat) (f:=152) func152 (by decide) (by decide) (by kernel_rfl) (by kernel_rfl)
 simpa using this
theorem c_indexByte (H:AHeap) (l:List UInt8) (b:UInt8):ACalls prog 96 [str l,byt b] H (i64 (Lib.indexByte l b)) H:=by
 refine acalls_pure MixT func96 (by decide) rfl ?_
 rw [d96]
 refine bndC_of (v:=i64 (Lib.indexByte l b)) (H':=H) ?_ ⟨rfl,[],by simp⟩
 refine acalls_pure MixT func124 (by decide) rfl ?_
 rw [d124]
 exact bndC_of (c_indexByteN H l b) ⟨rfl,[],by simp⟩
theorem c_lex_letter (H:AHeap) (b:UInt8):ACalls prog 99 [byt b] H (.bool (isLow b)) H:=by
 refine acalls_pure MixT func99 (by decide) rfl ?_
 rw [d99]
 simp +contextual [isLow]
theorem c_lex_digit (H:AHeap) (b:UInt8):ACalls prog 101 [byt b] H (.bool (isDig b)) H:=by
 refine acalls_pure MixT func101 (by decide) rfl ?_
 rw [d101]
 simp +contextual [isDig]
theorem c_lex_mark (H:AHeap) (b:UInt8):ACalls prog 100 [byt b] H (.bool (isMark b)) H:=by
 refine acalls_pure MixT func100 (by decide) rfl ?_
 rw [d100]
 refine bndC_of (c_lex_letter _ _) ?_
 simp
 refine bndG_call (.bool (isDig b)) (fun h=>?_) ?_
 · simp only [h,gsel_ff];exact c_lex_digit _ _
 simp +contextual [isMark]
theorem c_skip1 (H:AHeap) (b:UInt8):ACalls prog 98 [byt b] H (.bool ((b.toNat:Int) != 10)) H:=by
 refine acalls_pure MixT func98 (by decide) rfl ?_
 rw [d98]
 simp
def runN (p:UInt8→Bool) (l:List UInt8) (at':Nat):Nat:=((l.drop at').takeWhile p).length
theorem run_loop {l:List UInt8} {g:FuncId} {p:UInt8→Bool} {H:AHeap} {k:Value→AHeap→Prop} (hp:∀ b,ACalls prog g [byt b] H (.bool (p b)) H) (hl:l.length < 2 ^ 61) (a:Nat) (ha:a≤l.length+1) (w:Nat) (hk:k (i64 w) H) :
  ∀ (r : List UInt8) (n : Nat) (A B C D E F c d e f i j m o q s t u v x y z : Value), (l.drop a).drop n = r → a + n ≤ l.length + 1 → w = n + (r.takeWhile p).length →
    L97x0 (r.length+1) k [str l,i64 a,.func (.func g) #[] #[],A,B,C,D,i64 n,E,F,c,d,e,f,i,j,m,o,q,s,t,u,v,x,y,z] H:=by
 intro r
 induction r with
 | nil =>
   intro n A B C D E F c d e f i j m o q s t u v x y z hd hn hw
   have hle:l.length≤a+n:=by rw [List.drop_drop] at hd;simpa using hd
   rw [List.length_nil,L97x0q]
   have hwr:IntKind.i64.wrap ((a:Int)+n)=((a+n:Nat):Int):=by rw [wrap_i64 (by omega) (by omega)];simp
   have:¬ ((a:Int)+n < l.length):=by omega
   simp only [aBin_add,hwr,bnd_some]
   simp [this]
   simp at hw
   rw [← hw];exact hk
 | cons b r ih =>
   intro n A B C D E F c d e f i j m o q s t u v x y z hd hn hw
   have hb:l[a+n]?=some b:=by rw [List.drop_drop] at hd;rw [← List.head?_drop,hd];rfl
   have hlt:a+n < l.length:=(List.getElem?_eq_some_iff.1 hb).1
   have hwr:IntKind.i64.wrap ((a:Int)+n)=((a+n:Nat):Int):=by rw [wrap_i64 (by omega) (by omega)];simp
   have hix:=aIndex_at (P:=prog) (T:=9) (k:=.i64) (by simp) hb
   rw [List.length_cons,L97x0q]
   have hlen:aLen prog H 9 (str l)=some (i64 l.length):=by simp
   simp only [aBin_add,hwr,bnd_some,hlen,aBin_lss,Int.ofNat_lt,hlt,decide_true,gif_tt,hix]
   refine bndG_t _ _ (callV_func (by simpa using hp b)) ?_
   simp
   rw [List.takeWhile_cons] at hw
   refine kifB_bool (fun h=>?_) (fun h=>?_)
   · rw [if_pos h] at hw
     simp [show n+1 < 2 ^ 63 by omega]
     exact ih (n+1) _ _ _ _ _ _ _ _ _ _ _ _ _ _ _ _ _ _ _ _ _ _ (by rw [← List.drop_drop,hd];rfl) (by omega) (by simp at hw;omega)
   · rw [if_neg (by simp [h])] at hw
     simp at hw
     rw [← hw];exact hk
theorem c_run {l:List UInt8} {g:FuncId} {p:UInt8→Bool} {H:AHeap} {a:Nat} (hp:∀ b,ACalls prog g [byt b] H (.bool (p b)) H) (hl:l.length < 2 ^ 61) (ha:a≤l.length+1) :
  ACalls prog 97 [str l,i64 a,.func (.func g) #[] #[]] H (i64 (runN p l a)) H:=by
 refine acalls_pure MixT func97 (by decide) rfl ?_
 rw [d97]
 exact ⟨_,run_loop (k:=Same (i64 (runN p l a)) H) hp hl a ha (runN p l a) ⟨rfl,[],by simp⟩ (l.drop a) 0 _ _ _ _ _ _ _ _ _ _ _ _ _ _ _ _ _ _ _ _ _ _ rfl (by omega) (by simp [runN])⟩
end Go.Vi
namespace Go.Vi
open Go Go.Proofs Go.Proofs.Tryz
def bcells (s:List UInt8):List Value:=s.map byt
abbrev selfP (pb:Nat):Value:=.pointer (some ⟨pb,0,some 2⟩)
inductive Buf (g:Bool) (K:AHeap) (pb:Nat):Value→List UInt8→Prop
 | nil:Buf g K pb (.slice none 0 0) []
 | mk (bb n c:Nat) (cs:List Value) (s:List UInt8) (h1:pb < bb) (h2:K[bb]?=some (.cells cs 5)) (h3:cs.length=c) (h4:n=s.length) (h5:n≤c) (h6:cs.take n=bcells s) (h7:g=false→s≠[]) (h8:0 < c):Buf g K pb (.slice (some ⟨bb,0,some c⟩) n c) s
def Bld (g:Bool) (K:AHeap) (pb:Nat) (s:List UInt8):Prop:=∃ ad bv,K[pb]?=some (.cells [ad,bv] 116)∧(ad=.pointer none∨ad=selfP pb)∧Buf g K pb bv s
def Keeps (pb:Nat) (K K':AHeap):Prop:=∀ H,Pre H K→H.length≤pb→Pre H K'
theorem Keeps.refl (pb:Nat) (K:AHeap):Keeps pb K K:=fun _ h _=>h
theorem Keeps.trans {pb K K' K''} (h:Keeps pb K K') (k:Keeps pb K' K''):Keeps pb K K'':=fun H p q=>k H (h H p q) q
theorem Keeps.set {pb b:Nat} {K:AHeap} {o:AObj} (h:pb≤b):Keeps pb K (K.set b o):=fun _ p q=>p.set (by omega)
theorem Keeps.app {pb:Nat} {K X:AHeap}:Keeps pb K (K++X):=fun _ p _=>p.more _
theorem Buf.one {g K pb v s} (h:Buf g K pb v s):v.oneCell'=true:=by cases h<;>rfl
theorem Buf.setPb {g K pb v s} {o:AObj} (h:Buf g K pb v s):Buf g (K.set pb o) pb v s:=by
 cases h with
 | nil=>exact .nil
 | mk bb n c cs s h1 h2 h3 h4 h5 h6 h7 h8=>exact .mk bb n c cs s h1 (by rw [List.getElem?_set_ne (by omega)];exact h2) h3 h4 h5 h6 h7 h8
theorem Buf.app {g K pb v s} {X:AHeap} (h:Buf g K pb v s):Buf g (K++X) pb v s:=by
 cases h with
 | nil=>exact .nil
 | mk bb n c cs s h1 h2 h3 h4 h5 h6 h7 h8=>exact .mk bb n c cs s h1 (get_more h2) h3 h4 h5 h6 h7 h8
theorem c_noEscape (H:AHeap) (v:Value):ACalls prog 140 [v] H v H :=
 acalls_noEscape func140 (by decide) (by decide) (by kernel_rfl) (by kernel_rfl)
theorem c_copyCheck {K:AHeap} {pb:Nat} {ad bv:Value} (h1:K[pb]?=some (.cells [ad,bv] 116)) (h2:ad=.pointer none∨ad=selfP pb) (_hone:bv.oneCell'=true) :
  ACalls prog 116 [selfP pb] K (.tuple #[]) (K.set pb (.cells [selfP pb,bv] 116)):=by
 refine acalls_of MixT func116 (by decide) ?_
 rw [d116]
 have hh:hcells K pb=some [ad,bv]:=by simp [hcells,h1]
 have hl:hlen K pb=some 2:=by rw [hcells_len hh];rfl
 have hlt:pb < K.length:=(List.getElem?_eq_some_iff.1 h1).1
 rcases h2 with rfl | rfl
 · simp [nilV,aIsPtr,hh,hl,aBin_nilptr (P:=prog) (T:=114) (e:=116) (by simp)]
   have hcv:convV prog K 114 174 (selfP pb)=some (selfP pb):=by simp [convV,aConv,aPtrConv,h1]
   have hcv2:convV prog K 174 114 (selfP pb)=some (selfP pb):=by
    have:prog.cellsOf 116=2:=by kernel_rfl
    simp [convV,aConv,aPtrConv,h1,this]
   simp only [hcv,bnd_some]
   refine bndC_of (c_noEscape _ _) ?_
   simp only [hcv2,bnd_some]
   simp [nilV,aIsPtr,hl,h1]
 · simp [nilV,aIsPtr,hh,hl,aBin_ptrnil (P:=prog) (T:=114) (e:=116) (by simp)]
   have:=aBin_ptrne (P:=prog) (H:=K) (T:=114) (x:=Operand.tmp 17) (y:=Operand.tmp 18) (e:=116) (b:=pb) (o:=0) (m:=2) (z:=1) (by simp) (by simp) hl
   simp [this]
   exact (set_same h1).symm
theorem Buf.add {g:Bool} {K:AHeap} {pb:Nat} {v:Value} {s ys:List UInt8} {t2:TypeId} {x:Value} (h:Buf g K pb v s) (hpb:pb < K.length) (hx:aSrc K 1 x=some (ys.length,bcells ys)) (ht:isSeq prog t2=true) (hne:ys≠[]) (hlen:s.length+ys.length≤2 ^ 46) :
  ∃ v' K',aBuiltin prog K .append #[55,t2] [v,x]=some (v',K')∧Buf false K' pb v' (s++ys)∧Keeps pb K K'∧K'[pb]?=K[pb]?:=by
 have hy:ys.length≠0:=by simpa using hne
 cases h with
 | nil =>
   refine ⟨.slice (some ⟨K.length,0,some ys.length⟩) ys.length ys.length,K++[.cells (bcells ys) 5],?_,?_,.app,by rw [List.getElem?_append_left hpb]⟩
   · have:ys.length≤140737488355328:=by simp at hlen;omega
     have h2:ys.length≤9223372036854775807:=by omega
     simp [aBuiltin,aAppend,hx,ht,hne,this,h2,bcells]
   · refine .mk K.length ys.length ys.length (bcells ys) ys hpb (by simp) (by simp [bcells]) rfl (Nat.le_refl _) (by rw [List.take_of_length_le (by simp [bcells])]) (fun _=>hne) (by omega)
 | mk bb n c cs s h1 h2 h3 h4 h5 h6 h7 h8 =>
   subst h4
   by_cases hfit:s.length+ys.length≤c
   · refine ⟨.slice (some ⟨bb,0,some c⟩) (s.length+ys.length) c,K.set bb (.cells (putCells cs (0+s.length*1) (bcells ys)) 5),?_,?_,.set (by omega),by rw [List.getElem?_set_ne (by omega)]⟩
     · simp [aBuiltin,aAppend,hx,ht,h2,h3,h5,hfit]
     · have hlt:=(List.getElem?_eq_some_iff.1 h2).1
       have e:putCells cs (0+s.length*1) (bcells ys)=cs.take s.length++bcells ys++cs.drop (s.length+ys.length):=by
        rw [putCells_eq _ _ _ (by simp [bcells];omega)]
        simp [bcells]
       rw [e]
       refine .mk bb (s.length+ys.length) c _ (s++ys) h1 (List.getElem?_set_self hlt) (by simp [bcells];omega) (by simp) hfit ?_ (fun _=>by simp [hne]) h8
       rw [h6,List.take_append_of_le_length (by simp [bcells]),List.take_of_length_le (by simp [bcells])]
       simp [bcells]
   · refine ⟨.slice (some ⟨bb,0,some ((s.length+ys.length)*1)⟩) (s.length+ys.length) (s.length+ys.length),K.set bb (.cells (cs.take (s.length*1)++bcells ys) 5),?_,?_,.set (by omega),by rw [List.getElem?_set_ne (by omega)]⟩
     · have q:(s.length+ys.length)*1≤140737488355328:=by simp at hlen;omega
       have q2:s.length+ys.length≤9223372036854775807:=by omega
       simp at q
       simp [aBuiltin,aAppend,hx,ht,h2,h3,h5,hfit,q,q2]
     · have hlt:=(List.getElem?_eq_some_iff.1 h2).1
       simp only [Nat.mul_one]
       refine .mk bb (s.length+ys.length) _ _ (s++ys) h1 (List.getElem?_set_self hlt) (by simp [bcells];omega) (by simp) (Nat.le_refl _) ?_ (fun _=>by simp [hne]) (by omega)
       rw [List.take_of_length_le (by simp [bcells];omega),h6]
       simp [bcells]
theorem c_writeByte {g:Bool} {K:AHeap} {pb:Nat} {s:List UInt8} {b:UInt8} (hb:Bld g K pb s) (hsl:s.length < 2 ^ 46) :
  ∃ v K',(v=.nilIface∧Bld false K' pb (s++[b])∧Keeps pb K K')∧ACalls prog 125 [selfP pb,byt b] K v K':=by
 refine acalls_ex MixT func125 (by decide) ?_
 rw [d125]
 obtain ⟨ad,bv,h1,h2,h3⟩:=hb
 refine bndC_of (c_copyCheck h1 h2 h3.one) ?_
 have hlt:pb < K.length:=(List.getElem?_eq_some_iff.1 h1).1
 generalize hK:K.set pb (.cells [selfP pb,bv] 116)=K1
 have g1:K1[pb]?=some (.cells [selfP pb,bv] 116):=by rw [← hK];exact get_set h1
 have g3:Buf g K1 pb bv s:=by rw [← hK];exact h3.setPb
 have hk1:Keeps pb K K1:=by rw [← hK];exact .set (Nat.le_refl _)
 have hlt1:pb < K1.length:=(List.getElem?_eq_some_iff.1 g1).1
 have hh:hcells K1 pb=some [selfP pb,bv]:=by simp [hcells,g1]
 have hl:hlen K1 pb=some 2:=by rw [hcells_len hh];rfl
 simp [nilV,aIsPtr,hh,hl]
 have hlit:=sliceLit1 (P:=prog) (H:=K1) (T:=55) (e:=5) (zv:=.int .u8 0) (n:=1) (l:=[byt b]) (by simp) (by simp) rfl (by simp)
 refine bndL_lit hlit ?_
 obtain ⟨v',K',q1,q2,q3,q4⟩:=(g3.app (X:=[.cells [byt b] 5])).add (t2:=55) (x:=.slice (some ⟨K1.length,0,some 1⟩) 1 1) (ys:=[b]) (by simp;omega) (by simp [aSrc,bcells]) (by simp [isSeq]) (by simp) (by simp;omega)
 simp only [q1,bndE_some]
 have g4:K'[pb]?=some (.cells [selfP pb,bv] 116):=by rw [q4];exact get_more g1
 have hl2:hlen K' pb=some 2:=by simp [hlen,g4]
 simp [nilV,aIsPtr,hl2,g4,q2.one,cells_one,stor_one]
 refine ⟨⟨selfP pb,v',by rw [List.getElem?_set_self (List.getElem?_eq_some_iff.1 g4).1],.inr rfl,q2.setPb⟩,?_⟩
 exact hk1.trans (Keeps.app.trans (q3.trans (.set (Nat.le_refl _))))
theorem u8l_bcells (s:List UInt8):u8l (bcells s)=some s:=u8l_map s
theorem c_bstring {K:AHeap} {pb:Nat} {s:List UInt8} (hb:Bld false K pb s) (hsl:s.length < 2 ^ 47) :
  ∃ v K',(v=str s∧Keeps pb K K')∧ACalls prog 80 [selfP pb] K v K':=by
 refine acalls_ex MixT func80 (by decide) ?_
 rw [d80]
 obtain ⟨ad,bv,h1,h2,h3⟩:=hb
 have hh:hcells K pb=some [ad,bv]:=by simp [hcells,h1]
 have hl:hlen K pb=some 2:=by rw [hcells_len hh];rfl
 simp [nilV,aIsPtr,hh,hl]
 cases h3 with
 | nil =>
   refine bndD_same (v:=.pointer none) (by simp [aBuiltin,aSliceData]) ?_
   simp [nilV,aIsPtr,hh,hl]
   refine bndD_of (v:=.string .empty) (H':=K) (by simp [aBuiltin,aUnsafeString]) (.inl rfl) ?_
   exact ⟨rfl,.refl _ _⟩
 | mk bb n c cs s q1 q2 q3 q4 q5 q6 q7 q8 =>
   have hl2:hlen K bb=some c:=by simp [hlen,q2,AObj.len,q3]
   refine bndD_same (v:=.pointer (some ⟨bb,0,some c⟩)) (by simp [aBuiltin,aSliceData,q8,hl2]) ?_
   simp [nilV,aIsPtr,hh,hl]
   have hne:=q7 rfl
   have hn:0 < n:=by rw [q4];exact List.length_pos_iff.2 hne
   have hce:prog.cellsOf 5=1:=by kernel_rfl
   have hu:u8l (cs.take n)=some s:=by rw [q6];exact u8l_bcells s
   refine bndD_of (v:=str s) (H':=K.set bb (.ro cs)) ?_ (.inl rfl) ?_
   · have e1:(n:Int)≤(c:Int):=by omega
     have e2:(n:Int)≤9223372036854775807:=by omega
     simp [aBuiltin,aUnsafeString,q2,q3,hce,hn,e1,e2,hu]
   · exact ⟨rfl,.set (by omega)⟩
theorem c_writeString {g:Bool} {K:AHeap} {pb:Nat} {s ys:List UInt8} (hb:Bld g K pb s) (hlm:s.length+ys.length≤2 ^ 46) :
  ∃ v K',(v=.tuple #[i64 ys.length,.nilIface]∧Bld (g && decide (ys=[])) K' pb (s++ys)∧Keeps pb K K')∧ACalls prog 79 [selfP pb,str ys] K v K':=by
 refine acalls_ex MixT func79 (by decide) ?_
 rw [d79]
 obtain ⟨ad,bv,h1,h2,h3⟩:=hb
 refine bndC_of (c_copyCheck h1 h2 h3.one) ?_
 have hlt:pb < K.length:=(List.getElem?_eq_some_iff.1 h1).1
 generalize hK:K.set pb (.cells [selfP pb,bv] 116)=K1
 have g1:K1[pb]?=some (.cells [selfP pb,bv] 116):=by rw [← hK];exact get_set h1
 have g3:Buf g K1 pb bv s:=by rw [← hK];exact h3.setPb
 have hk1:Keeps pb K K1:=by rw [← hK];exact .set (Nat.le_refl _)
 have hlt1:pb < K1.length:=(List.getElem?_eq_some_iff.1 g1).1
 have hh:hcells K1 pb=some [selfP pb,bv]:=by simp [hcells,g1]
 have hl:hlen K1 pb=some 2:=by rw [hcells_len hh];rfl
 simp [nilV,aIsPtr,hh,hl]
 by_cases hne:ys=[]
 · subst hne
   have happ:aBuiltin prog K1 .append #[55,9] [bv,str []]=some (bv,K1):=by
    cases g3 with
    | nil=>simp [aBuiltin,aAppend,aSrc,isSeq,bytesL]
    | mk bb n c cs s p1 p2 p3 p4 p5 p6 p7 p8 =>
      simp [aBuiltin,aAppend,aSrc,isSeq,bytesL,p2,p3,p5]
      rw [putCells_eq _ _ _ (by simp;omega)]
      simp
      exact set_same p2
   simp only [happ,bndE_some]
   simp [nilV,aIsPtr,hl,g1,g3.one,cells_one,stor_one]
   exact ⟨⟨selfP pb,bv,by rw [List.getElem?_set_self hlt1],.inr rfl,g3.setPb⟩,hk1.trans (.set (Nat.le_refl _))⟩
 · obtain ⟨v',K',q1,q2,q3,q4⟩:=g3.add (t2:=9) (x:=str ys) (ys:=ys) hlt1 (by simp [aSrc,bcells,bytesL]) (by simp [isSeq]) hne hlm
   simp only [q1,bndE_some]
   have g4:K'[pb]?=some (.cells [selfP pb,bv] 116):=by rw [q4];exact g1
   have hl2:hlen K' pb=some 2:=by simp [hlen,g4]
   simp [nilV,aIsPtr,hl2,g4,q2.one,cells_one,stor_one,hne]
   exact ⟨⟨selfP pb,v',by rw [List.getElem?_set_self (List.getElem?_eq_some_iff.1 g4).1],.inr rfl,q2.setPb⟩,hk1.trans (q3.trans (.set (Nat.le_refl _)))⟩
end Go.Vi
namespace Go.Vi
open Go Go.Proofs Go.Proofs.Tryz
def textF:List UInt8→List UInt8→Nat→List UInt8 × Nat
 | [],_,_=>([],0)
 | b :: r, acc, c => if isSign b = true then
     (if ((b.toNat:Int) == 34)=true then (acc,c+1)
      else if ((b.toNat:Int) == 92)=true then match r with
       | e :: r'=>if ((e.toNat:Int) == 34 || (e.toNat:Int) == 92)=true then textF r' (acc++[e]) (c+2) else ([],0)
       | []=>([],0)
      else textF r (acc++[b]) (c+1))
   else ([],0)
theorem textF_cons (b:UInt8) (r acc:List UInt8) (c:Nat):textF (b :: r) acc c=if isSign b=true then
   (if ((b.toNat:Int) == 34)=true then (acc,c+1)
    else if ((b.toNat:Int) == 92)=true then match r with
     | e :: r'=>if ((e.toNat:Int) == 34 || (e.toNat:Int) == 92)=true then textF r' (acc++[e]) (c+2) else ([],0)
     | []=>([],0)
    else textF r (acc++[b]) (c+1))
  else ([],0):=by rw [textF.eq_def]
theorem text_loop {l:List UInt8} {H:AHeap} {a:Nat} {k:Value→AHeap→Prop} (hl:l.length < 2 ^ 40) (w:List UInt8 × Nat) (hk:∀ K,Pre H K→k (.tuple #[str w.1,i64 w.2]) K) :
  ∀ (f : Nat) (r : List UInt8) (i c : Nat) (acc : List UInt8) (K : AHeap) (s2 s3 s4 s5 s8 s9 d g h j m n o p q s t u v x y z A B C D E F G I J L M N O Q R S U V W X Y Z aa ab ac ad ae af ag ah ai aj ak al am an ao ap aq ar au av aw ax ay az aA aB aC : Value), r.length ≤ f → l.drop i = r → i = a + c → i ≤ l.length → acc.length ≤ i → Pre H K → Bld false K H.length acc → w = textF r acc c →
    L102x0 (f+1) k [str l,i64 a,s2,s3,s4,s5,selfP H.length,i64 i,s8,s9,d,g,h,j,m,n,o,p,q,s,t,u,v,x,y,z,A,B,C,D,E,F,G,I,J,L,M,N,O,Q,R,S,U,V,W,X,Y,Z,aa,ab,ac,ad,ae,af,ag,ah,ai,aj,ak,al,am,an,ao,ap,aq,ar,au,av,aw,ax,ay,az,aA,aB,aC] K:=by
 intro f
 induction f with
 | zero =>
   intro r i c acc K s2 s3 s4 s5 s8 s9 d g h j m n o p q s t u v x y z A B C D E F G I J L M N O Q R S U V W X Y Z aa ab ac ad ae af ag ah ai aj ak al am an ao ap aq ar au av aw ax ay az aA aB aC hf hd hi hle hac hp hb hw
   have hr:r=[]:=List.eq_nil_of_length_eq_zero (by omega)
   subst hr
   have hle:l.length≤i:=by simpa using hd
   rw [L102x0q]
   have:¬ (i < l.length):=by omega
   simp [this]
   rw [hw] at hk
   exact hk K hp
 | succ f ih =>
   intro r i c acc K s2 s3 s4 s5 s8 s9 d g h j m n o p q s t u v x y z A B C D E F G I J L M N O Q R S U V W X Y Z aa ab ac ad ae af ag ah ai aj ak al am an ao ap aq ar au av aw ax ay az aA aB aC hf hd hi hle hac hp hb hw
   cases r with
   | nil =>
     have hle:l.length≤i:=by simpa using hd
     rw [L102x0q]
     have:¬ (i < l.length):=by omega
     simp [this]
     rw [hw] at hk
     exact hk K hp
   | cons b r =>
     have hbx:l[i]?=some b:=by rw [← List.head?_drop,hd];rfl
     have hlt:i < l.length:=(List.getElem?_eq_some_iff.1 hbx).1
     have hix:=aIndex_at (P:=prog) (T:=9) (k:=.i64) (by simp) hbx
     have hwr:IntKind.i64.wrap ((i:Int)+1)=((i+1:Nat):Int):=wrap_succ (by omega)
     have hd1:l.drop (i+1)=r:=by rw [← List.drop_drop,hd];rfl
     have tail:∀ (i2 c2:Nat) (ch:UInt8) (r2:List UInt8) (s2 s3 s4 s5 s8 s9 d g h j m n o p q s t u v x y z A B C D E F G I J L M N O Q R S U V W X Y Z aa ab ac ad ae af ag ah ai aj ak al am an ao ap aq ar au av aw ax ay az aA aB aC:Value),l[i2]?=some ch→l.drop (i2+1)=r2→i2+1=a+c2→r2.length≤f→i≤i2→w=textF r2 (acc++[ch]) c2 →
       S102x0 (f+1) k [str l,i64 a,s2,s3,s4,s5,selfP H.length,i64 i2,s8,s9,d,g,h,j,m,n,o,p,q,s,t,u,v,x,y,z,A,B,C,D,E,F,G,I,J,L,M,N,O,Q,R,S,U,V,W,X,Y,Z,aa,ab,ac,ad,ae,af,ag,ah,ai,aj,ak,al,am,an,ao,ap,aq,ar,au,av,aw,ax,ay,az,aA,aB,aC] K:=by
      intro i2 c2 ch r2 s2 s3 s4 s5 s8 s9 d g h j m n o p q s t u v x y z A B C D E F G I J L M N O Q R S U V W X Y Z aa ab ac ad ae af ag ah ai aj ak al am an ao ap aq ar au av aw ax ay az aA aB aC e1 e2 e3 e4 e5 e6
      have hlt2:i2 < l.length:=(List.getElem?_eq_some_iff.1 e1).1
      have hix2:=aIndex_at (P:=prog) (T:=9) (k:=.i64) (by simp) e1
      rw [S102x0q]
      obtain ⟨_,K',⟨rfl,hb',hkp⟩,hc⟩:=c_writeByte (b:=ch) hb (by omega)
      simp only [hix2,bnd_some]
      refine bndC_of hc ?_
      simp only [aBin_add,wrap_succ (show i2+1 < 2 ^ 63 by omega),bnd_some]
      exact ih r2 (i2+1) c2 (acc++[ch]) K' _ _ _ _ _ _ _ _ _ _ _ _ _ _ _ _ _ _ _ _ _ _ _ _ _ _ _ _ _ _ _ _ _ _ _ _ _ _ _ _ _ _ _ _ _ _ _ _ _ _ _ _ _ _ _ _ _ _ _ _ _ _ _ _ _ _ _ _ _ _ _ e4 e2 e3 hlt2 (by simp;omega) (hkp H hp (Nat.le_refl _)) hb' e6
     rw [L102x0q]
     rw [textF_cons] at hw
     simp +contextual [hlt,hix]
     refine kifB_bool (fun hs=>?_) (fun hs=>?_)
     case refine_2 =>
      rw [if_neg (by simpa [isSign] using hs)] at hw
      rw [hw] at hk
      simp
      exact hk K hp
     rw [if_pos (show isSign b=true by simpa [isSign] using hs)] at hw
     simp [hix]
     refine kifB_bool (fun hq=>?_) (fun hq=>?_)
     · rw [if_pos hq] at hw
       obtain ⟨_,K',⟨rfl,hkp⟩,hc⟩:=c_bstring hb (by omega)
       refine bndC_of hc ?_
       have hsub:IntKind.i64.wrap (((i+1:Nat):Int)-a)=((c+1:Nat):Int):=by rw [wrap_i64 (by omega) (by omega)];omega
       simp only [aBin_add,hwr,bnd_some,aBin_sub,hsub]
       rw [hw] at hk
       exact hk K' (hkp H hp (Nat.le_refl _))
     rw [if_neg (by simp [hq])] at hw
     cases r with
     | nil =>
       have hle1 : ¬ (i + 1 < l.length) := by have : l.length ≤ i + 1 := by simpa using hd1
                                              omega
       have hle1I:¬ ((i:Int)+1 < l.length):=by omega
       cases h9:((b.toNat:Int) == 92) with
       | true =>
         rw [h9,if_pos rfl] at hw
         rw [hw] at hk
         simp [hix,h9,hwr,hle1I]
         exact hk K hp
       | false =>
         rw [h9,if_neg (by simp)] at hw
         simp [hix,h9]
         exact tail i (c+1) b [] _ _ _ _ _ _ _ _ _ _ _ _ _ _ _ _ _ _ _ _ _ _ _ _ _ _ _ _ _ _ _ _ _ _ _ _ _ _ _ _ _ _ _ _ _ _ _ _ _ _ _ _ _ _ _ _ _ _ _ _ _ _ _ _ _ _ _ _ _ _ _ hbx hd1 (by omega) (by simp) (Nat.le_refl _) hw
     | cons e r =>
       have hex:l[i+1]?=some e:=by rw [← List.head?_drop,hd1];rfl
       have hlt1:i+1 < l.length:=(List.getElem?_eq_some_iff.1 hex).1
       have hlt1I:(i:Int)+1 < l.length:=by omega
       have hie:=aIndex_at (P:=prog) (T:=9) (k:=.i64) (by simp) hex
       simp only [Int.natCast_add,Int.cast_ofNat_Int] at hie hwr
       cases h9:((b.toNat:Int) == 92) with
       | true =>
         rw [h9,if_pos rfl] at hw
         dsimp only at hw
         simp +contextual [hix,h9,hwr,hlt1I,hie]
         refine kifB_bool (fun he=>?_) (fun he=>?_)
         · rw [if_pos (by simpa using he)] at hw
           simp [hwr]
           have hcast:(i:Int)+1=((i+1:Nat):Int):=by omega
           rw [hcast]
           exact tail (i+1) (c+2) e r _ _ _ _ _ _ _ _ _ _ _ _ _ _ _ _ _ _ _ _ _ _ _ _ _ _ _ _ _ _ _ _ _ _ _ _ _ _ _ _ _ _ _ _ _ _ _ _ _ _ _ _ _ _ _ _ _ _ _ _ _ _ _ _ _ _ _ _ _ _ _ hex (by rw [← List.drop_drop,hd1];rfl) (by omega) (by simp at hf;omega) (by omega) hw
         · rw [if_neg (by simpa using he)] at hw
           rw [hw] at hk
           simp [hix,h9]
           exact hk K hp
       | false =>
         rw [h9,if_neg (by simp)] at hw
         simp [hix,h9]
         exact tail i (c+1) b (e :: r) _ _ _ _ _ _ _ _ _ _ _ _ _ _ _ _ _ _ _ _ _ _ _ _ _ _ _ _ _ _ _ _ _ _ _ _ _ _ _ _ _ _ _ _ _ _ _ _ _ _ _ _ _ _ _ _ _ _ _ _ _ _ _ _ _ _ _ _ _ _ _ hbx hd1 (by omega) (by simp at hf ⊢;omega) (Nat.le_refl _) hw
theorem textF_len:∀ (f:Nat) (r acc:List UInt8) (c:Nat),r.length≤f→(textF r acc c).2≤c+r.length:=by
 intro f
 induction f with
 | zero=>intro r acc c h;have:r=[]:=List.eq_nil_of_length_eq_zero (by omega);subst this;simp [textF]
 | succ f ih =>
   intro r acc c h
   cases r with
   | nil=>simp [textF]
   | cons b r =>
     rw [textF_cons]
     simp at h
     split
     · split
       · simp<;>omega
       · split
         · cases r with
           | nil=>simp
           | cons e r =>
             simp only
             split
             · have:=ih r (acc++[e]) (c+2) (by simp at h;omega);simp;omega
             · simp
         · have:=ih r (acc++[b]) (c+1) (by omega);simp;omega
     · simp
theorem c_text {H:AHeap} {l:List UInt8} {a:Nat} (hl:l.length < 2 ^ 40) (ha:a < l.length) :
  ACalls prog 102 [str l,i64 a] H (.tuple #[str (textF (l.drop (a+1)) [] 1).1,i64 (textF (l.drop (a+1)) [] 1).2]) H:=by
 refine acallsT_pure MixT func102 (by decide) rfl ?_
 rw [d102]
 simp [show a+1 < 2 ^ 63 by omega]
 have hcast:(a:Int)+1=((a+1:Nat):Int):=by omega
 rw [hcast]
 refine ⟨l.length+1,text_loop hl _ (fun K p=>⟨rfl,p⟩) l.length (l.drop (a+1)) (a+1) 1 [] _ _ _ _ _ _ _ _ _ _ _ _ _ _ _ _ _ _ _ _ _ _ _ _ _ _ _ _ _ _ _ _ _ _ _ _ _ _ _ _ _ _ _ _ _ _ _ _ _ _ _ _ _ _ _ _ _ _ _ _ _ _ _ _ _ _ _ _ _ _ _ _ (by simp) rfl rfl (by omega) (by simp) (.app _ _) ⟨.pointer none,.slice none 0 0,by simp,.inl rfl,.nil⟩ rfl⟩
def sigs1:List UInt8:=[60,62,61,33,94]
def sigs2:List UInt8:=[123,125,40,41,91,93,44,58,59,61,60,62,45]
def hasB (l:List UInt8) (b:UInt8):Bool:=decide (Lib.indexByte l b ≥ 0)
def signF:List UInt8→Nat
 | []=>0
 | b :: r=>if ((r[0]?).any (fun e=>(e.toNat:Int) == 61) && hasB sigs1 b)=true then 2 else if hasB sigs2 b=true then 1 else 0
theorem c_sign {H:AHeap} {l:List UInt8} {a:Nat} (hl:l.length < 2 ^ 40) (ha:a < l.length):ACalls prog 103 [str l,i64 a] H (i64 (signF (l.drop a))) H:=by
 refine acalls_pure MixT func103 (by decide) rfl ?_
 rw [d103]
 obtain ⟨b,r,hbr⟩:∃ b r,l.drop a=b :: r:=by
  cases h:l.drop a with
  | nil=>simp at h;omega
  | cons b r=>exact ⟨b,r,rfl⟩
 have hb:l[a]?=some b:=by rw [← List.head?_drop,hbr];rfl
 have hix:=aIndex_at (P:=prog) (T:=9) (k:=.i64) (by simp) hb
 have hd1:l.drop (a+1)=r:=by rw [← List.drop_drop,hbr];rfl
 have hwr:IntKind.i64.wrap ((a:Int)+1)=(a:Int)+1:=wrap_i64 (by omega) (by omega)
 rw [hbr]
 cases r with
 | nil =>
   have hle:l.length≤a+1:=by simpa using hd1
   have:¬ ((a:Int)+1 < l.length):=by omega
   simp [hwr,this,hix]
   refine bndC_of (c_indexByte _ _ _) ?_
   simp
   refine kifB_bool (fun h=>?_) (fun h=>?_)
   · have h3:hasB sigs2 b=true:=by simpa [hasB,sigs2] using h
     have:signF [b]=1:=by simp only [signF,List.getElem?_nil,Option.any_none,h3];simp
     simp [this]
   · have h3:hasB sigs2 b=false:=by simpa [hasB,sigs2] using h
     have:signF [b]=0:=by simp only [signF,List.getElem?_nil,Option.any_none,h3];simp
     simp [this]
 | cons e r =>
   have he:l[a+1]?=some e:=by rw [← List.head?_drop,hd1];rfl
   have hie:=aIndex_at (P:=prog) (T:=9) (k:=.i64) (by simp) he
   have hlt:a+1 < l.length:=(List.getElem?_eq_some_iff.1 he).1
   have hltI:(a:Int)+1 < l.length:=by omega
   simp only [Int.natCast_add,Int.cast_ofNat_Int] at hie
   simp +contextual [hwr,hltI,hix,hie]
   refine bndG_call (i64 (Lib.indexByte [60,62,61,33,94] b)) (fun h=>?_) ?_
   · simp only [h,gsel_tt];exact c_indexByte _ _ _
   simp +contextual
   refine kifB_bool (fun h=>?_) (fun h=>?_)
   · have h':((e.toNat:Int) == 61 && hasB sigs1 b)=true:=by simpa [hasB,sigs1] using h
     have:signF (b :: e :: r)=2:=by simp only [signF,List.getElem?_cons_zero,Option.any_some,h'];simp
     simp [this]
   · simp [hix]
     refine bndC_of (c_indexByte _ _ _) ?_
     simp
     have h':((e.toNat:Int) == 61 && hasB sigs1 b)=false:=by simpa [hasB,sigs1] using h
     refine kifB_bool (fun h2=>?_) (fun h2=>?_)
     · have:signF (b :: e :: r)=1:=by
        have h3:hasB sigs2 b=true:=by simpa [hasB,sigs2] using h2
        simp only [signF,List.getElem?_cons_zero,Option.any_some,h',h3];simp
       simp [this]
     · have:signF (b :: e :: r)=0:=by
        have h3:hasB sigs2 b=false:=by simpa [hasB,sigs2] using h2
        simp only [signF,List.getElem?_cons_zero,Option.any_some,h',h3];simp
       simp [this]
end Go.Vi
namespace Go.Vi
open Go Go.Proofs Go.Proofs.Tryz
structure Tok where
 kind:Int
 text:List UInt8
 at':Int
def Tok.cells (t:Tok):List Value:=[.int .u8 t.kind,str t.text,i64 t.at']
def runF (p:UInt8→Bool) (s:List UInt8):Nat:=(s.takeWhile p).length
def numLen (s:List UInt8):Nat :=
 if ((s[runF isDig s]?).any (fun e=>(e.toNat:Int) == 46) && decide (runF isDig (s.drop (runF isDig s+1)) > 0))=true then runF isDig s+(1+runF isDig (s.drop (runF isDig s+1))) else runF isDig s
def oneF (s:List UInt8) (a:Nat):Tok × Nat:=match s with
 | []=>(⟨0,[],a⟩,0)
 | b :: r => if isLow b = true then (⟨1, s.take (runF isMark s), a⟩, runF isMark s)
   else if isDig b=true then (⟨2,s.take (numLen s),a⟩,numLen s)
   else if ((b.toNat:Int) == 34)=true then (⟨3,(textF r [] 1).1,a⟩,(textF r [] 1).2)
   else (⟨4,s.take (signF s),a⟩,signF s)
theorem runN_eq (p:UInt8→Bool) (l:List UInt8) (a:Nat):runN p l a=runF p (l.drop a):=rfl
theorem runF_le (p:UInt8→Bool) (s:List UInt8):runF p s≤s.length:=by
 unfold runF;exact List.IsPrefix.length_le (List.takeWhile_prefix p)
theorem numLen_le (s:List UInt8):numLen s≤s.length:=by
 unfold numLen
 have h1:=runF_le isDig s
 have h2:=runF_le isDig (s.drop (runF isDig s+1))
 rw [List.length_drop] at h2
 split
 · rename_i h
   simp only [Bool.and_eq_true,Option.any_eq_true] at h
   obtain ⟨⟨e,he,_⟩,_⟩:=h
   have:=(List.getElem?_eq_some_iff.1 he).1
   omega
 · exact h1
theorem signF_le (s:List UInt8):signF s≤s.length:=by
 cases s with
 | nil=>simp [signF]
 | cons b r =>
   simp only [signF]
   split
   · rename_i h
     simp only [Bool.and_eq_true,Option.any_eq_true] at h
     obtain ⟨⟨e,he,_⟩,_⟩:=h
     have:=(List.getElem?_eq_some_iff.1 he).1
     simp;omega
   · split<;>simp
theorem one_tail {H:AHeap} {l:List UInt8} {a n:Nat} {kd:Int} {old:Value} {k:Value→AHeap→Prop} (hl:l.length < 2 ^ 40) (ha:a+n≤l.length) (_ho:old.oneCell'=true)
  (hk:∀ K,Pre H K→k (.tuple #[.agg (⟨kd,(l.drop a).take n,a⟩:Tok).cells.toArray,i64 n]) K) (X:AHeap) (c0 c1 c2:Value) (s2 s3 s5 s8 s9 c d e f g h i j m o p q r s t u v w x y z A B C D E F G I J L M N O P Q R S T U V W Y Z aa ab ac ad ae af ag ah ai aj ak al am an ao ap aq ar au av aw ax ay az aA aB aC aD aE aF aG:Value) :
  S66x0 k [str l,i64 a,s2,s3,.pointer (some ⟨H.length,0,some 3⟩),s5,.pointer (some ⟨H.length+1,0,some 3⟩),i64 n,s8,s9,c,d,e,f,g,h,i,j,m,o,p,q,r,s,t,u,v,w,x,y,z,A,B,C,D,E,F,G,I,J,L,M,N,O,P,Q,R,S,T,U,V,W,Y,Z,aa,ab,ac,ad,ae,af,ag,ah,ai,aj,ak,al,am,an,ao,ap,aq,ar,au,av,aw,ax,ay,az,aA,aB,aC,aD,aE,aF,aG] (H++.cells [c0,c1,c2] 70 :: .cells [.int .u8 kd,old,i64 a] 70 :: X):=by
 rw [S66x0q]
 have hwr:IntKind.i64.wrap ((a:Int)+n)=((a+n:Nat):Int):=by rw [wrap_i64 (by omega) (by omega)];simp
 have hs:aSliceOp prog (H++.cells [c0,c1,c2] 70 :: .cells [.int .u8 kd,old,i64 a] 70 :: X) 9 (str l) (some (i64 a)) (some (i64 ((a+n:Nat):Int)))=some (str ((l.drop a).take n)):=by
  rw [aSliceOp_str (a:=a) (b:=((a+n:Nat):Int)) (by simp) rfl rfl (by omega) (by omega) (by omega)]
  simp only [Int.toNat_natCast,List.drop_take,Nat.add_sub_cancel_left]
 simp only [aBin_add,hwr,bnd_some,hs]
 simp [Tok.cells] at hk ⊢
 exact hk _ (.app _ _)
theorem c_one {H:AHeap} {l:List UInt8} {a:Nat} (hl:l.length < 2 ^ 40) (ha:a < l.length) :
  ACalls prog 66 [str l,i64 a] H (.tuple #[.agg (oneF (l.drop a) a).1.cells.toArray,i64 (oneF (l.drop a) a).2]) H:=by
 refine acallsT_pure MixT func66 (by decide) (by simp [flat,clos,Tok.cells,isLit]) ?_
 rw [d66]
 obtain ⟨b,r,hbr⟩:∃ b r,l.drop a=b :: r:=by
  cases h:l.drop a with
  | nil=>simp at h;omega
  | cons b r=>exact ⟨b,r,rfl⟩
 have hb:l[a]?=some b:=by rw [← List.head?_drop,hbr];rfl
 have hix:=aIndex_at (P:=prog) (T:=9) (k:=.i64) (by simp) hb
 have hd1:l.drop (a+1)=r:=by rw [← List.drop_drop,hbr];rfl
 have hdl:(l.drop a).length=l.length-a:=by simp
 generalize hw:oneF (l.drop a) a=w
 rw [hbr] at hw
 simp only [oneF] at hw
 simp [hix]
 refine bndC_of (c_lex_letter _ _) ?_
 refine kifB_bool (fun h1=>?_) (fun h1=>?_)
 · rw [if_pos h1] at hw
   refine bndC_of (c_run (c_lex_mark _) (by omega) (by omega)) ?_
   simp
   have hle:=runF_le isMark (l.drop a)
   refine one_tail (n:=runN isMark l a) hl (by rw [runN_eq];omega) rfl ?_ [] _ _ _ _ _ _ _ _ _ _ _ _ _ _ _ _ _ _ _ _ _ _ _ _ _ _ _ _ _ _ _ _ _ _ _ _ _ _ _ _ _ _ _ _ _ _ _ _ _ _ _ _ _ _ _ _ _ _ _ _ _ _ _ _ _ _ _ _ _ _ _ _ _ _ _ _ _ _ _ _ _ _ _
   intro K hp
   refine ⟨?_,hp⟩
   rw [← hw,runN_eq,hbr]
 rw [if_neg (by simp [h1])] at hw
 simp [hix]
 refine bndC_of (c_lex_digit _ _) ?_
 refine kifB_bool (fun h2=>?_) (fun h2=>?_)
 · rw [if_pos h2] at hw
   refine bndC_of (c_run (c_lex_digit _) (by omega) (by omega)) ?_
   simp
   have hle:=runF_le isDig (l.drop a)
   rw [runN_eq]
   generalize hn:runF isDig (l.drop a)=n at hle
   have hwr:IntKind.i64.wrap ((a:Int)+n)=((a+n:Nat):Int):=by rw [wrap_i64 (by omega) (by omega)];simp
   have hwr2:IntKind.i64.wrap (((a+n:Nat):Int)+1)=((a+n+1:Nat):Int):=wrap_succ (by omega)
   simp only [hwr,hwr2]
   have hcr:=fun K:AHeap=>c_run (H:=K) (l:=l) (a:=a+n+1) (c_lex_digit K) (by omega) (by omega)
   refine bndC_of (hcr _) ?_
   rw [runN_eq]
   have hpt:runF isDig (l.drop (a+n+1))=runF isDig ((l.drop a).drop (n+1)):=by rw [List.drop_drop,Nat.add_assoc]
   have hnl:numLen (l.drop a)=if (((l.drop a)[n]?).any (fun e=>(e.toNat:Int) == 46) && decide (runF isDig (l.drop (a+n+1)) > 0))=true then n+(1+runF isDig (l.drop (a+n+1))) else n:=by
    unfold numLen
    rw [hn,hpt]
   have hnle:=numLen_le (l.drop a)
   rw [← hbr] at hw
   have hpl:=runF_le isDig (l.drop (a+n+1))
   rw [List.length_drop] at hpl
   generalize runF isDig (l.drop (a+n+1))=part at hnl hpl
   have fin:∀ (m:Nat) (X:AHeap) (c0 c1 c2:Value) (s2 s3 s5 s8 s9 c d f g i j o p q s t u v x y z A B C D E F G I J L M N O Q R S U V W Y Z aa ab ac ad ae af ag ah ai aj ak al am an ao ap aq ar au av aw ax ay az aA aB aC aD aE aF aG aH aI aJ aK aL aM aN:Value),numLen (l.drop a)=m →
     S66x0 (Same (.tuple #[.agg w.1.cells.toArray,i64 w.2]) H) [str l,i64 a,s2,s3,.pointer (some ⟨H.length,0,some 3⟩),s5,.pointer (some ⟨H.length+1,0,some 3⟩),i64 m,s8,s9,c,d,f,g,i,j,o,p,q,s,t,u,v,x,y,z,A,B,C,D,E,F,G,I,J,L,M,N,O,Q,R,S,U,V,W,Y,Z,aa,ab,ac,ad,ae,af,ag,ah,ai,aj,ak,al,am,an,ao,ap,aq,ar,au,av,aw,ax,ay,az,aA,aB,aC,aD,aE,aF,aG,aH,aI,aJ,aK,aL,aM,aN] (H++.cells [c0,c1,c2] 70 :: .cells [.int .u8 2,str [],i64 a] 70 :: X):=by
    intro m X c0 c1 c2 s2 s3 s5 s8 s9 c d f g i j o p q s t u v x y z A B C D E F G I J L M N O Q R S U V W Y Z aa ab ac ad ae af ag ah ai aj ak al am an ao ap aq ar au av aw ax ay az aA aB aC aD aE aF aG aH aI aJ aK aL aM aN hm
    refine one_tail (n:=m) hl (by omega) rfl ?_ X _ _ _ _ _ _ _ _ _ _ _ _ _ _ _ _ _ _ _ _ _ _ _ _ _ _ _ _ _ _ _ _ _ _ _ _ _ _ _ _ _ _ _ _ _ _ _ _ _ _ _ _ _ _ _ _ _ _ _ _ _ _ _ _ _ _ _ _ _ _ _ _ _ _ _ _ _ _ _ _ _ _ _
    intro K hp
    refine ⟨?_,hp⟩
    rw [← hw,hm]
   rw [List.getElem?_drop] at hnl
   by_cases hlt:a+n < l.length
   · have hlI:(a:Int)+n < l.length:=by omega
     obtain ⟨e,he⟩:∃ e,l[a+n]?=some e:=⟨_,List.getElem?_eq_getElem hlt⟩
     have hie:=aIndex_at (P:=prog) (T:=9) (k:=.i64) (by simp) he
     rw [he] at hnl
     simp only [Int.natCast_add] at hwr hie
     simp +contextual [hwr,hlI,hie]
     refine kifB_bool (fun h=>?_) (fun h=>?_)
     · rw [if_pos (by simpa using h)] at hnl
       have w1:IntKind.i64.wrap (1+(part:Int))=((1+part:Nat):Int):=by rw [wrap_i64 (by omega) (by omega)];simp
       have w2:IntKind.i64.wrap ((n:Int)+((1+part:Nat):Int))=((n+(1+part):Nat):Int):=by rw [wrap_i64 (by omega) (by omega)];simp
       simp only [aBin_add,w1,w2,bnd_some]
       exact fin _ [] _ _ _ _ _ _ _ _ _ _ _ _ _ _ _ _ _ _ _ _ _ _ _ _ _ _ _ _ _ _ _ _ _ _ _ _ _ _ _ _ _ _ _ _ _ _ _ _ _ _ _ _ _ _ _ _ _ _ _ _ _ _ _ _ _ _ _ _ _ _ _ _ _ _ _ _ _ _ _ _ _ _ _ hnl
     · rw [if_neg (by simpa using h)] at hnl
       exact fin _ [] _ _ _ _ _ _ _ _ _ _ _ _ _ _ _ _ _ _ _ _ _ _ _ _ _ _ _ _ _ _ _ _ _ _ _ _ _ _ _ _ _ _ _ _ _ _ _ _ _ _ _ _ _ _ _ _ _ _ _ _ _ _ _ _ _ _ _ _ _ _ _ _ _ _ _ _ _ _ _ _ _ _ _ hnl
   · have hlI:¬ ((a:Int)+n < l.length):=by omega
     have:l[a+n]?=none:=List.getElem?_eq_none (by omega)
     rw [this] at hnl
     simp at hnl
     simp only [Int.natCast_add] at hwr
     simp [hwr,hlI]
     exact fin _ [] _ _ _ _ _ _ _ _ _ _ _ _ _ _ _ _ _ _ _ _ _ _ _ _ _ _ _ _ _ _ _ _ _ _ _ _ _ _ _ _ _ _ _ _ _ _ _ _ _ _ _ _ _ _ _ _ _ _ _ _ _ _ _ _ _ _ _ _ _ _ _ _ _ _ _ _ _ _ _ _ _ _ _ hnl
 rw [if_neg (by simp [h2])] at hw
 simp [hix]
 refine kifB_bool (fun h3=>?_) (fun h3=>?_)
 · rw [if_pos h3] at hw
   simp
   have ht:=fun K:AHeap=>c_text (H:=K) (l:=l) (a:=a) hl ha
   rw [hd1] at ht
   refine bndC_of (ht _) ?_
   simp [Tok.cells]
   rw [← hw]
   exact ⟨⟨rfl,rfl,rfl⟩,rfl⟩
 · rw [if_neg (by simp [h3])] at hw
   simp
   refine bndC_of (c_sign hl ha) ?_
   simp
   have hle:=signF_le (l.drop a)
   refine one_tail (n:=signF (l.drop a)) hl (by omega) rfl ?_ [] _ _ _ _ _ _ _ _ _ _ _ _ _ _ _ _ _ _ _ _ _ _ _ _ _ _ _ _ _ _ _ _ _ _ _ _ _ _ _ _ _ _ _ _ _ _ _ _ _ _ _ _ _ _ _ _ _ _ _ _ _ _ _ _ _ _ _ _ _ _ _ _ _ _ _ _ _ _ _ _ _ _ _
   intro K hp
   refine ⟨?_,hp⟩
   rw [← hw,← hbr]
end Go.Vi
namespace Go.Vi
open Go Go.Proofs Go.Proofs.Tryz
def blanks:List UInt8:=[32,9,10,13]
def notNl (b:UInt8):Bool:=(b.toNat:Int) != 10
def skipF:Nat→List UInt8→Nat
 | 0,_=>0
 | _+1,[]=>0
 | f + 1, b :: r => if hasB blanks b = true then 1 + skipF f r
   else if ((b.toNat:Int) == 35)=true then runF notNl (b :: r)+skipF f ((b :: r).drop (runF notNl (b :: r)))
   else 0
theorem skipF_le:∀ (f:Nat) (s:List UInt8),skipF f s≤s.length:=by
 intro f
 induction f with
 | zero=>intro s;simp [skipF]
 | succ f ih =>
   intro s
   cases s with
   | nil=>simp [skipF]
   | cons b r =>
     simp only [skipF]
     split
     · have:=ih r;simp;omega
     · split
       · have h1:=ih ((b :: r).drop (runF notNl (b :: r)))
         have h2:=runF_le notNl (b :: r)
         rw [List.length_drop] at h1
         omega
       · simp
theorem skip_loop {l:List UInt8} {H:AHeap} {k:Value→AHeap→Prop} (hl:l.length < 2 ^ 40) (w:Nat) (hk:k (i64 w) H) :
  ∀ (f : Nat) (a : Nat) (D E F G I J K L c d e g i j n o q s t u v x y z A B C : Value), (l.drop a).length ≤ f → a ≤ l.length → w = a + skipF f (l.drop a) →
    L65x0 (f+1) k [str l,i64 a,D,E,F,G,I,J,K,L,c,d,e,g,i,j,n,o,q,s,t,u,v,x,y,z,A,B,C] H:=by
 intro f
 induction f with
 | zero =>
   intro a D E F G I J K L c d e g i j n o q s t u v x y z A B C hf ha hw
   rw [List.length_drop] at hf
   rw [L65x0q]
   have:¬ a < l.length:=by omega
   simp [this]
   simp [skipF] at hw
   rw [← hw];exact hk
 | succ f ih =>
   intro a D E F G I J K L c d e g i j n o q s t u v x y z A B C hf ha hw
   rw [L65x0q]
   by_cases hlt:a < l.length
   · obtain ⟨b,r,hbr⟩:∃ b r,l.drop a=b :: r:=by
      cases h:l.drop a with
      | nil=>simp at h;omega
      | cons b r=>exact ⟨b,r,rfl⟩
     have hb:l[a]?=some b:=by rw [← List.head?_drop,hbr];rfl
     have hix:=aIndex_at (P:=prog) (T:=9) (k:=.i64) (by simp) hb
     have hd1:l.drop (a+1)=r:=by rw [← List.drop_drop,hbr];rfl
     rw [hbr,skipF] at hw
     simp [hlt,hix]
     refine bndC_of (c_indexByte _ _ _) ?_
     simp
     refine kifB_bool (fun h=>?_) (fun h=>?_)
     · rw [if_pos (by simpa [hasB,blanks] using h)] at hw
       simp [show a+1 < 2 ^ 63 by omega]
       exact ih (a+1) _ _ _ _ _ _ _ _ _ _ _ _ _ _ _ _ _ _ _ _ _ _ _ _ _ _ _ (by rw [hbr] at hf;rw [hd1];simp at hf;exact hf) hlt (by rw [hw,hd1];omega)
     rw [if_neg (by simpa [hasB,blanks] using h)] at hw
     simp [hix]
     refine kifB_bool (fun h=>?_) (fun h=>?_)
     · rw [if_pos h] at hw
       refine bndC_of (c_run (p:=notNl) (c_skip1 _) (by omega) (by omega)) ?_
       have hrl:=runF_le notNl (l.drop a)
       rw [List.length_drop] at hrl
       have hpos:1≤runF notNl (l.drop a):=by
        rw [hbr]
        have:notNl b=true:=by
         have:(b.toNat:Int)=35:=by simpa using h
         simp [notNl,this]
        simp [runF,this]
       rw [runN_eq]
       rw [← hbr] at hw
       generalize hm:runF notNl (l.drop a)=m at hw hrl hpos
       have hwr:IntKind.i64.wrap ((a:Int)+m)=((a+m:Nat):Int):=by rw [wrap_i64 (by omega) (by omega)];simp
       simp only [aBin_add,hwr,bnd_some]
       rw [List.drop_drop] at hw
       exact ih (a+m) _ _ _ _ _ _ _ _ _ _ _ _ _ _ _ _ _ _ _ _ _ _ _ _ _ _ _ (by rw [List.length_drop] at hf ⊢;omega) (by omega) (by rw [hw];omega)
     · rw [if_neg (by simp [h])] at hw
       simp at hw
       simp
       rw [← hw];exact hk
   · have:l.drop a=[]:=by simp;omega
     rw [this,skipF] at hw
     simp [hlt]
     simp at hw
     rw [← hw];exact hk
def skipN (l:List UInt8) (a:Nat):Nat:=a+skipF (l.length-a) (l.drop a)
theorem skipN_le {l:List UInt8} {a:Nat} (h:a≤l.length):skipN l a≤l.length:=by
 have:=skipF_le (l.length-a) (l.drop a)
 rw [List.length_drop] at this
 unfold skipN;omega
theorem c_skip {H:AHeap} {l:List UInt8} {a:Nat} (hl:l.length < 2 ^ 40) (ha:a≤l.length):ACalls prog 65 [str l,i64 a] H (i64 (skipN l a)) H:=by
 refine acalls_pure MixT func65 (by decide) rfl ?_
 rw [d65]
 exact ⟨_,skip_loop (k:=Same (i64 (skipN l a)) H) hl (skipN l a) ⟨rfl,[],by simp⟩ (l.length-a) a _ _ _ _ _ _ _ _ _ _ _ _ _ _ _ _ _ _ _ _ _ _ _ _ _ _ _ (by simp) ha rfl⟩
theorem kround_one {P:Program} {b args H} {k:Value→AHeap→Prop} (h:kround P b args H k):∃ v H',k v H'∧kround P b args H fun u H2=>u=v∧H2=H':=by
 unfold kround at h
 split at h
 case h_2=>cases h
 rename_i sl ps assign body pe hb
 obtain ⟨hl,hx⟩:=h
 obtain ⟨e1,s1,H1,⟨rfl,hb1,hx1⟩,hy⟩:=kx_one _ hx
 obtain ⟨e2,s2,H2,⟨hb2,hk⟩,hz⟩:=kx_one _ hx1
 refine ⟨_,_,hk,?_⟩
 unfold kround
 rw [hb]
 refine ⟨hl,kx_mono _ ?_ hy⟩
 rintro e sl H ⟨rfl,rfl,rfl⟩
 refine ⟨rfl,hb1,kx_mono _ ?_ hz⟩
 rintro e sl H ⟨rfl,rfl,rfl⟩
 exact ⟨hb2,rfl,rfl⟩
theorem ayields_ex {P:Program} (hm:P.follows .mixedOrders=true) {b args H} {k:Value→AHeap→Prop} (h:kround P b args H k):∃ v H',k v H'∧AYields P b args H v H':=by
 obtain ⟨v,H',h1,h2⟩:=kround_one h
 exact ⟨v,H',h1,ayields_of hm h2⟩
structure OneD (D:DrawK):Prop where
 mono:∀ {ops} {k k':List Value→AHeap→Prop} {sl H},(∀ s h,k s h→k' s h)→D ops k sl H→D ops k' sl H
 one:∀ {ops} {k:List Value→AHeap→Prop} {sl H},D ops k sl H→∃ sl' H',k sl' H'∧D ops (fun s h=>s=sl'∧h=H') sl H
section
variable {P:Program}
theorem drawStd_one:OneD (drawStd P):=by
 constructor
 · intro ops k k' sl H hk h
   unfold drawStd at h ⊢
   split at h
   · exact kdraw_mono hk _ _ h
   · cases h
 · intro ops k sl H h
   unfold drawStd at h ⊢
   split at h
   · exact kdraw_one _ _ h
   · cases h
variable {D:DrawK}
theorem kloopG_mono {f:List Value→AHeap→List Nat→KontG→Prop} (hm:∀ {sl H m} {k k':KontG},(∀ e sl H m,k e sl H m→k' e sl H m)→f sl H m k→f sl H m k') :
  ∀ (n:Nat) {sl H m} {k k':KontG},(∀ e sl H m,k e sl H m→k' e sl H m)→kloopG f n sl H m k→kloopG f n sl H m k':=by
 intro n
 induction n with
 | zero=>intro sl H m k k' _ h;cases h
 | succ n ih =>
   intro sl H m k k' hk h
   simp only [kloopG] at h ⊢
   refine hm ?_ h
   intro e sl H m h
   cases e with
   | normal=>exact ih hk h
   | exit i=>exact hk _ _ _ _ h
   | ret=>exact hk _ _ _ _ h
theorem kjump_mono {k k':KontG} (hk:∀ e sl H m,k e sl H m→k' e sl H m) {sl H m pe} (h:kjump k sl H m pe):kjump k' sl H m pe:=by
 unfold kjump at h ⊢
 split at h
 · exact hk _ _ _ _ h
 · exact hk _ _ _ _ h
 · exact hk _ _ _ _ h
 · cases h
theorem kxG_mono (hD:OneD D):∀ (c:Code) {sl H m} {k k':KontG},(∀ e sl H m,k e sl H m→k' e sl H m)→kxG P D c sl H m k→kxG P D c sl H m k':=by
 intro c
 induction c with
 | skip=>intro sl H m k k' hk h;exact hk _ _ _ _ h
 | label l=>intro sl H m k k' hk h;exact hk _ _ _ _ h
 | region id ops draw =>
   intro sl H m k k' hk h
   cases draw with
   | false=>exact kops_mono (fun s h=>hk .normal s h m) _ h
   | true=>exact hD.mono (fun s h=>hk .normal s h m) h
 | seq x y ihx ihy =>
   intro sl H m k k' hk h
   refine ihx ?_ h
   intro e sl H m h
   cases e with
   | normal=>exact ihy hk h
   | exit i=>exact hk _ _ _ _ h
   | ret=>exact hk _ _ _ _ h
 | cond c x y ihx ihy =>
   intro sl H m k k' hk h
   simp only [kxG] at h ⊢
   split at h
   · unfold kif at h ⊢
     split at h
     · split at h
       · rename_i q;simp only [if_pos q];exact ihx hk h
       · rename_i q;simp only [if_neg q];exact ihy hk h
     · cases h
   · cases h
 | block id c ih =>
   intro sl H m k k' hk h
   refine ih ?_ h
   intro e sl H m h
   cases e with
   | normal=>exact hk _ _ _ _ h
   | exit i =>
     simp only [kblkG] at h ⊢
     split at h
     · rename_i q;rw [if_pos q];exact hk _ _ _ _ h
     · rename_i q;rw [if_neg q];exact hk _ _ _ _ h
   | ret=>exact hk _ _ _ _ h
 | exit id=>intro sl H m k k' hk h;exact hk _ _ _ _ h
 | ret=>intro sl H m k k' hk h;exact hk _ _ _ _ h
 | loop c ih =>
   intro sl H m k k' hk h
   obtain ⟨n,h⟩:=h
   exact ⟨n,kloopG_mono (f:=kxG P D c) (fun hk h=>ih hk h) n hk h⟩
 | rangeFunc g ps assign body _ _ =>
   intro sl H m k k' hk h
   simp only [kxG] at h ⊢
   split at h
   · unfold krange at h ⊢
     split at h
     · obtain ⟨h1,h2,v,H',h3,h4⟩:=h
       refine ⟨h1,h2,v,H',h3,?_⟩
       unfold rngEnd at h4 ⊢
       split at h4
       · exact ⟨h4.1,kjump_mono hk h4.2⟩
       · cases h4
     · cases h
   · cases h
 | _=>intro sl H m k k' hk h;cases h
def kisG (e:AExit) (sl:List Value) (H:AHeap) (m:List Nat):KontG:=fun e2 s2 h2 m2=>e2=e∧s2=sl∧h2=H∧m2=m
theorem kloopG_one {f:List Value→AHeap→List Nat→KontG→Prop} (hf:∀ {sl H m} {k:KontG},f sl H m k→∃ e sl' H' m',k e sl' H' m'∧f sl H m (kisG e sl' H' m'))
  (hm:∀ {sl H m} {k k':KontG},(∀ e sl H m,k e sl H m→k' e sl H m)→f sl H m k→f sl H m k') :
  ∀ (n:Nat) {sl H m} {k:KontG},kloopG f n sl H m k→∃ e sl' H' m',k e sl' H' m'∧kloopG f n sl H m (kisG e sl' H' m'):=by
 intro n
 induction n with
 | zero=>intro sl H m k h;cases h
 | succ n ih =>
   intro sl H m k h
   simp only [kloopG] at h
   obtain ⟨e,s1,h1,m1,hk,hf1⟩:=hf h
   cases e with
   | normal =>
     obtain ⟨e2,s2,h2,m2,hk2,hf2⟩:=ih hk
     refine ⟨e2,s2,h2,m2,hk2,?_⟩
     simp only [kloopG]
     refine hm ?_ hf1
     rintro e sl H m ⟨rfl,rfl,rfl,rfl⟩
     exact hf2
   | exit i =>
     refine ⟨.exit i,s1,h1,m1,hk,?_⟩
     simp only [kloopG]
     refine hm ?_ hf1
     rintro e sl H m ⟨rfl,rfl,rfl,rfl⟩
     exact ⟨rfl,rfl,rfl,rfl⟩
   | ret =>
     refine ⟨.ret,s1,h1,m1,hk,?_⟩
     simp only [kloopG]
     refine hm ?_ hf1
     rintro e sl H m ⟨rfl,rfl,rfl,rfl⟩
     exact ⟨rfl,rfl,rfl,rfl⟩
theorem kxG_one (hD:OneD D):∀ (c:Code) {sl H m} {k:KontG},kxG P D c sl H m k→∃ e sl' H' m',k e sl' H' m'∧kxG P D c sl H m (kisG e sl' H' m'):=by
 intro c
 induction c with
 | skip=>intro sl H m k h;exact ⟨_,_,_,_,h,rfl,rfl,rfl,rfl⟩
 | label l=>intro sl H m k h;exact ⟨_,_,_,_,h,rfl,rfl,rfl,rfl⟩
 | region id ops draw =>
   intro sl H m k h
   cases draw with
   | false =>
     obtain ⟨a,b,h1,h2⟩:=kops_one (k:=fun s h=>k .normal s h m) _ h
     exact ⟨.normal,a,b,m,h1,kops_mono (fun _ _ q=>⟨rfl,q.1,q.2,rfl⟩) _ h2⟩
   | true =>
     obtain ⟨a,b,h1,h2⟩:=hD.one h
     exact ⟨.normal,a,b,m,h1,hD.mono (fun _ _ q=>⟨rfl,q.1,q.2,rfl⟩) h2⟩
 | seq x y ihx ihy =>
   intro sl H m k h
   obtain ⟨e,s1,h1,m1,hk,hx⟩:=ihx h
   cases e with
   | normal =>
     obtain ⟨e2,s2,h2,m2,hk2,hy⟩:=ihy hk
     refine ⟨e2,s2,h2,m2,hk2,kxG_mono hD x ?_ hx⟩
     rintro e sl H m ⟨rfl,rfl,rfl,rfl⟩
     exact hy
   | exit i =>
     refine ⟨.exit i,s1,h1,m1,hk,kxG_mono hD x ?_ hx⟩
     rintro e sl H m ⟨rfl,rfl,rfl,rfl⟩
     exact ⟨rfl,rfl,rfl,rfl⟩
   | ret =>
     refine ⟨.ret,s1,h1,m1,hk,kxG_mono hD x ?_ hx⟩
     rintro e sl H m ⟨rfl,rfl,rfl,rfl⟩
     exact ⟨rfl,rfl,rfl,rfl⟩
 | cond c x y ihx ihy =>
   intro sl H m k h
   simp only [kxG] at h
   split at h
   · rename_i v hv
     unfold kif at h
     split at h
     · split at h
       · rename_i q
         obtain ⟨e,s1,h1,m1,hk,hx⟩:=ihx h
         refine ⟨e,s1,h1,m1,hk,?_⟩
         simp only [kxG,hv,kif,if_pos q];exact hx
       · rename_i q
         obtain ⟨e,s1,h1,m1,hk,hx⟩:=ihy h
         refine ⟨e,s1,h1,m1,hk,?_⟩
         simp only [kxG,hv,kif,if_neg q];exact hx
     · cases h
   · cases h
 | block id c ih =>
   intro sl H m k h
   obtain ⟨e,s1,h1,m1,hk,hx⟩:=ih h
   cases e with
   | normal =>
     refine ⟨.normal,s1,h1,m1,hk,kxG_mono hD c ?_ hx⟩
     rintro e sl H m ⟨rfl,rfl,rfl,rfl⟩
     exact ⟨rfl,rfl,rfl,rfl⟩
   | exit i =>
     simp only [kblkG] at hk
     split at hk
     · rename_i q
       refine ⟨.normal,s1,h1,m1,hk,kxG_mono hD c ?_ hx⟩
       rintro e sl H m ⟨rfl,rfl,rfl,rfl⟩
       simp only [kblkG,if_pos q]
       exact ⟨rfl,rfl,rfl,rfl⟩
     · rename_i q
       refine ⟨.exit i,s1,h1,m1,hk,kxG_mono hD c ?_ hx⟩
       rintro e sl H m ⟨rfl,rfl,rfl,rfl⟩
       simp only [kblkG,if_neg q]
       exact ⟨rfl,rfl,rfl,rfl⟩
   | ret =>
     refine ⟨.ret,s1,h1,m1,hk,kxG_mono hD c ?_ hx⟩
     rintro e sl H m ⟨rfl,rfl,rfl,rfl⟩
     exact ⟨rfl,rfl,rfl,rfl⟩
 | exit id=>intro sl H m k h;exact ⟨_,_,_,_,h,rfl,rfl,rfl,rfl⟩
 | ret=>intro sl H m k h;exact ⟨_,_,_,_,h,rfl,rfl,rfl,rfl⟩
 | loop c ih =>
   intro sl H m k h
   obtain ⟨n,h⟩:=h
   obtain ⟨e,s1,h1,m1,hk,hx⟩:=kloopG_one (f:=kxG P D c) (fun h=>ih h) (fun hk h=>kxG_mono hD c hk h) n h
   exact ⟨e,s1,h1,m1,hk,n,hx⟩
 | rangeFunc g ps assign body _ _ =>
   intro sl H m k h
   simp only [kxG] at h
   split at h
   · rename_i gv hg
     unfold krange at h
     split at h
     · obtain ⟨h1,h2,v,H',h3,h4⟩:=h
       unfold rngEnd at h4
       split at h4
       · rename_i hob
         obtain ⟨hst,hj⟩:=h4
         unfold kjump at hj
         have mk:∀ (e:AExit),(∀ (k:KontG) sl H m,kjump k sl H m (jumpOf e)=k e sl H m)→True:=fun _ _=>trivial
         split at hj
         · refine ⟨_,_,_,_,hj,?_⟩
           simp only [kxG,hg,krange]
           refine ⟨h1,h2,v,H',h3,?_⟩
           unfold rngEnd
           rw [hob]
           exact ⟨hst,rfl,rfl,rfl,rfl⟩
         · refine ⟨_,_,_,_,hj,?_⟩
           simp only [kxG,hg,krange]
           refine ⟨h1,h2,v,H',h3,?_⟩
           unfold rngEnd
           rw [hob]
           exact ⟨hst,rfl,rfl,rfl,rfl⟩
         · refine ⟨_,_,_,_,hj,?_⟩
           simp only [kxG,hg,krange]
           refine ⟨h1,h2,v,H',h3,?_⟩
           unfold rngEnd
           rw [hob]
           exact ⟨hst,rfl,rfl,rfl,rfl⟩
         · cases hj
       · cases h4
     · cases h
   · cases h
 | _=>intro sl H m k h;cases h
theorem kmarks_one {k:AHeap→Prop}:∀ (m:List Nat) {H},kmarks k m H→∃ H',k H'∧kmarks (fun h=>h=H') m H:=by
 intro m
 induction m with
 | nil=>intro H h;exact ⟨H,h,rfl⟩
 | cons b r ih =>
   intro H h
   obtain ⟨h1,h2⟩:=h
   obtain ⟨H',q1,q2⟩:=ih h2
   exact ⟨H',q1,h1,q2⟩
theorem kmarks_mono {k k':AHeap→Prop} (hk:∀ h,k h→k' h):∀ (m:List Nat) {H},kmarks k m H→kmarks k' m H:=by
 intro m
 induction m with
 | nil=>intro H h;exact hk _ h
 | cons b r ih=>intro H h;exact ⟨h.1,ih h.2⟩
theorem kbodyG_one (hD:OneD D) {fn args H} {k:Value→AHeap→Prop} (h:kbodyG P D fn args H k):∃ v H',k v H'∧kbodyG P D fn args H fun u H2=>u=v∧H2=H':=by
 unfold kbodyG at h
 split at h
 · rename_i c hb
   obtain ⟨e,s1,h1,m1,hk,hx⟩:=kxG_one hD c h
   have fin:∀ {e},kxG P D c (args++List.replicate (fn.ntmps-args.length) undef) H [] (kisG e s1 h1 m1)→(e=.normal∨e=.ret)→kmarks (fun H2=>kres P s1 H2 fn.results.toList fun l=>k (retV l) H2) m1 h1 →
     ∃ v H',k v H'∧kbodyG P D fn args H fun u H2=>u=v∧H2=H':=by
    intro e hx he hk
    obtain ⟨H2,q1,q2⟩:=kmarks_one _ hk
    obtain ⟨l,q3,q4⟩:=kres_one _ q1
    refine ⟨retV l,H2,q3,?_⟩
    unfold kbodyG
    rw [hb]
    refine kxG_mono hD c ?_ hx
    rintro e2 sl H3 m3 ⟨rfl,rfl,rfl,rfl⟩
    have key:kmarks (fun H2=>kres P sl H2 fn.results.toList fun l'=>retV l'=retV l∧H2=H2) m3 H3→True:=fun _=>trivial
    rcases he with rfl | rfl<;>exact kmarks_mono (fun h hh=>by subst hh;exact kres_weak _ (fun l' h=>⟨by rw [h],rfl⟩) q4) _ q2
   cases e with
   | normal=>exact fin hx (.inl rfl) hk
   | ret=>exact fin hx (.inr rfl) hk
   | exit i=>cases hk
 · cases h
theorem acallsG_ex (hm:P.follows .mixedOrders=true) {f fn args H} {k:Value→AHeap→Prop} (hf:P.funcs[f]?=some fn) (hn:notNG fn=true) (hr:kbodyG P (drawStd P) fn args H k):∃ v H',k v H'∧ACalls P f args H v H':=by
 obtain ⟨v,H',h1,h2⟩:=kbodyG_one drawStd_one hr
 exact ⟨v,H',h1,acallsG_of (fun c=>@drawStd_sound P c hm) hf hn h2⟩
end
theorem foldl_put:∀ (c:List Value) (k:Nat) (cells:List Value),k+c.length≤cells.length →
  (c.zipIdx k).foldl (fun (cs:Array Value) (p:Value × Nat)=>cs.setIfInBounds p.2 p.1) cells.toArray=(cells.take k++c++cells.drop (k+c.length)).toArray:=by
 intro c
 induction c with
 | nil=>intro k cells _;simp
 | cons v r ih =>
   intro k cells h
   simp only [List.length_cons] at h
   simp only [List.zipIdx_cons,List.foldl_cons,List.setIfInBounds_toArray]
   have:=ih (k+1) (cells.set k v) (by simp;omega)
   rw [this]
   congr 1
   rw [List.take_set,List.set_eq_take_append_cons_drop,if_pos (by rw [List.length_take];omega),List.drop_set_of_lt (by omega)]
   simp [List.take_take,Nat.add_assoc,Nat.add_comm 1]
theorem sliceLitA {P:Program} {H:AHeap} {T e:TypeId} {zs:Array Value} {c:List Value} (hs:aBuildSlice P H T 1 [(0,.agg c.toArray)]=bslV e zs H 1 [(0,.agg c.toArray)]) (hz:c.length=zs.size) (ho:∀ v∈c,v.oneCell'=true) (hb:zs.size≤16777216) :
  sliceLit P H T 1 [(0,.agg c.toArray)] (.slice (some ⟨H.length,0,some c.length⟩) 1 1) (H++[.cells c e]):=by
 refine ⟨?_,?_⟩
 · simpa [storable] using ho
 · rw [hs]
   unfold bslV
   have hr:(repCells zs (1*zs.size)).size=zs.size:=by simp [repCells]
   have hf:Instr.fill (fun i=>some (i*zs.size,zs.size)) (repCells zs (1*zs.size)) [(0,.agg c.toArray)]=some c.toArray:=by
    generalize hR:repCells zs (1*zs.size)=R at hr
    obtain ⟨R⟩:=R
    simp only [List.size_toArray] at hr
    simp only [Instr.fill,cells_agg,List.size_toArray,hz,Nat.zero_mul]
    rw [if_neg (by simp;omega)]
    have:=foldl_put c 0 R (by omega)
    rw [List.take_zero,List.nil_append,Nat.zero_add,List.drop_eq_nil_of_le (by omega),List.append_nil] at this
    refine congrArg some (Eq.trans ?_ this)
    rw [← Array.foldl_toList]
    simp
   rw [hf,if_pos (by omega)]
   simp only [List.size_toArray]
   rw [if_pos ⟨by omega,by simpa using ho⟩]
inductive Gro (K:AHeap) (lo z:Nat) (T:TypeId):Value→List (List Value)→Prop
 | nil:Gro K lo z T (.slice none 0 0) []
 | mk (bb:Nat) (cl:List (List Value)) (h1:lo≤bb) (h2:K[bb]?=some (.cells cl.flatten T)) (h3:cl≠[]) (h4:∀ c∈cl,c.length=z):Gro K lo z T (.slice (some ⟨bb,0,some (cl.length*z)⟩) cl.length cl.length) cl
theorem Gro.one {K lo z T v cl} (h:Gro K lo z T v cl):v.oneCell'=true:=by cases h<;>rfl
theorem Gro.cells {K lo z T v cl} (h:Gro K lo z T v cl):v.cells = #[v]:=by cases h<;>rfl
theorem Gro.stor {K lo z T v cl} (h:Gro K lo z T v cl):storable v=true:=by cases h<;>rfl
theorem Gro.app {K lo z T v cl} {X:AHeap} (h:Gro K lo z T v cl):Gro (K++X) lo z T v cl:=by
 cases h with
 | nil=>exact .nil
 | mk bb cl h1 h2 h3 h4=>exact .mk bb cl h1 (get_more h2) h3 h4
theorem Gro.set {K lo z T v cl} {b:Nat} {o:AObj} (h:Gro K lo z T v cl) (hb:b < lo):Gro (K.set b o) lo z T v cl:=by
 cases h with
 | nil=>exact .nil
 | mk bb cl h1 h2 h3 h4=>exact .mk bb cl h1 (by rw [List.getElem?_set_ne (by omega)];exact h2) h3 h4
theorem flat_len {z:Nat}:∀ {cl:List (List Value)},(∀ c∈cl,c.length=z)→cl.flatten.length=cl.length*z:=by
 intro cl
 induction cl with
 | nil=>intro _;simp
 | cons c r ih =>
   intro h
   rw [List.flatten_cons,List.length_append,ih fun x hx=>h x (by simp [hx]),h c (by simp),List.length_cons,Nat.add_mul]
   omega
theorem flat_at {z:Nat}:∀ {cl:List (List Value)} {i:Nat} {e:List Value},(∀ c∈cl,c.length=z)→cl[i]?=some e→(cl.flatten.drop (i*z)).take z=e:=by
 intro cl
 induction cl with
 | nil=>intro i e _ h;simp at h
 | cons c r ih =>
   intro i e h hi
   have hc:=h c (by simp)
   cases i with
   | zero =>
     simp at hi
     subst hi
     rw [Nat.zero_mul,List.drop_zero,List.flatten_cons,List.take_append_of_le_length (by omega),List.take_of_length_le (by omega)]
   | succ i =>
     have:=ih (fun x hx=>h x (by simp [hx])) (by simpa using hi:r[i]?=some e)
     rw [List.flatten_cons,Nat.add_mul,Nat.one_mul,Nat.add_comm,← List.drop_drop,List.drop_append_of_le_length (by omega)]
     rw [show c.drop z=[] by simp;omega,List.nil_append]
     exact this
theorem Gro.arr {K lo z T v cl} (h:Gro K lo z T v cl):Arr K z v cl:=by
 cases h with
 | nil=>exact .nil
 | mk bb cl h1 h2 h3 h4 =>
   refine .mk bb 0 _ _ _ cl.flatten cl rfl (by simp [hcells,h2]) (flat_len h4) (by omega) fun i e hi=>?_
   rw [Nat.zero_add]
   exact flat_at h4 hi
theorem Gro.push {P:Program} {K:AHeap} {lo z by_:Nat} {T Ts:TypeId} {v x:Value} {cl:List (List Value)} {c:List Value} (h:Gro K lo z T v cl) (hT:aElem P Ts=some (T,z,by_)) (hsq:isSeq P Ts=true) (hc:c.length=z) (hlo:lo≤K.length)
  (hx:aSrc K z x=some (1,c)) (hb:(cl.length+1)*by_≤140737488355328) (hn:cl.length+1≤9223372036854775807) :
  ∃ v' K',aBuiltin P K .append #[Ts,Ts] [v,x]=some (v',K')∧Gro K' lo z T v' (cl++[c])∧(∀ b o,b < lo→K[b]?=some o→K'[b]?=some o)∧K.length≤K'.length∧(∀ H,Pre H K→H.length≤lo→Pre H K'):=by
 cases h with
 | nil =>
   refine ⟨.slice (some ⟨K.length,0,some z⟩) 1 1,K++[.cells c T],?_,?_,fun b o hb ho=>get_more ho,by simp,fun H p _=>p.more _⟩
   · have hb':by_≤140737488355328:=by simpa using hb
     simp [aBuiltin,aAppend,hT,hx,hsq,hb',hc]
   · have:=Gro.mk (K:=K++[.cells c T]) (lo:=lo) (z:=z) (T:=T) K.length [c] hlo (by simp) (by simp) (by simpa using hc)
     simpa using this
 | mk bb cl h1 h2 h3 h4 =>
   have hfl:=flat_len h4
   have hlt:=(List.getElem?_eq_some_iff.1 h2).1
   refine ⟨.slice (some ⟨bb,0,some ((cl.length+1)*z)⟩) (cl.length+1) (cl.length+1),K.set bb (.cells (cl++[c]).flatten T),?_,?_,fun b o hb ho=>by rw [List.getElem?_set_ne (by omega)];exact ho,by simp,fun H p hH=>p.set (by omega)⟩
   · have e1:cl.length*z=cl.flatten.length:=hfl.symm
     have e2:¬ cl.length+1≤cl.length:=by omega
     simp only [aBuiltin,aAppend,hT,hx,hsq,if_true,h2,hfl,Nat.zero_add,Nat.le_refl,and_self,e2,if_false,hb,hn]
     have e3:(cl.flatten.take (cl.length*z))=cl.flatten:=List.take_of_length_le (by omega)
     rw [e3]
     simp
   · have:=Gro.mk (K:=K.set bb (.cells (cl++[c]).flatten T)) (lo:=lo) (z:=z) (T:=T) bb (cl++[c]) h1 (List.getElem?_set_self hlt) (by simp) (by
      intro x hx
      rw [List.mem_append] at hx
      rcases hx with hx | hx
      · exact h4 x hx
      · simp at hx;rw [hx];exact hc)
     simpa using this
end Go.Vi
