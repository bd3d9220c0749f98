/- What the functions' bodies come to. What the functions' bodies come to. What the functions' bodies come to. What the functions' bodies come to. What the functions' bodies come to. What the functions' bodies come to. Labels: names, values. Conditions: nodes. (The check's contracts are not asked of this seat.) strings.Builder. One token. One token. -/
import Derived.Test.YtpkdgmcfojjfjaaGreatDoorJExprPrints2
import Derived.Test.YtpkdgmcfojjfjaaGreatDoorChecked
namespace Go.Vi
open Go Go.Proofs Go.Proofs.Tryz
-- tocsin/tocsinref10.Right
theorem d31 (a0 : Value) (H : AHeap) (k : Value → AHeap → Prop) : kbody prog Tryz.f31 [a0] H k = (@bndC prog 30 [a0] H ⟨fun v4x1 H2 => @bnd (aBin2 prog H2 .neq 9 (.tmp 4) (.const (.string { data := #[] })) v4x1
 (.string { data := #[] })) ⟨fun v5x3 => k v5x3 H2⟩⟩) := by kernel_rfl
-- tocsin/tocsinref09.All
def L36x0 (n : Nat) (k : Value → AHeap → Prop) (sl : List Value) (H : AHeap) : Prop := kit prog (cl (cl (cl (cr (cr (cr (cr (cb Tryz.f36)))))))) n (kblk 0 (kseq prog (cr (cr (cr (cr (cr (cb Tryz.f36)))))) (kfin
 prog Tryz.f36 k))) .normal sl H
def L36x1 (n : Nat) (n0 : Nat) (k : Value → AHeap → Prop) (sl : List Value) (H : AHeap) : Prop := kit prog (cl (cl (cl (cl (cr (cl (cr (cl (cr (cl (cl (cl (cr (cr (cr (cr (cb Tryz.f36))))))))))))))))) n (kblk 2 (kseq
 prog (cr (cl (cr (cl (cr (cl (cr (cl (cl (cl (cr (cr (cr (cr (cb Tryz.f36))))))))))))))) (kseq prog (cr (cr (cl (cr (cl (cl (cl (cr (cr (cr (cr (cb Tryz.f36)))))))))))) (kblk 1 (kit prog (cl (cl (cl (cr (cr (cr
 (cr (cb Tryz.f36)))))))) n0 (kblk 0 (kseq prog (cr (cr (cr (cr (cr (cb Tryz.f36)))))) (kfin prog Tryz.f36 k)))))))) .normal sl H
theorem d36 (a0 : Value) (H : AHeap) (k : Value → AHeap → Prop) : kbody prog Tryz.f36 [a0] H k = (@bnd (aLen prog H 9 a0) ⟨fun v9x1 => @bnd (aBin2 prog H .gtr 3 (.tmp 9) (.const (.int .i64 4096)) v9x1 (.int .i64
 4096)) ⟨fun v10x2 => @kifB v10x2 ⟨k (.tuple #[(.slice none 0 0),(.int .i64 0),(.int .i64 3)]) H⟩ ⟨∃ n,L36x0 n  k [a0,undef,(.slice none 0 0),(.int .i64 0),(.int .i64 0),(.slice none 0 0),(.int .i64 0),undef,a0,v9x1,
 v10x2,undef,undef,undef,undef,undef,undef,undef,undef,undef,undef,undef,undef,undef,undef,undef,undef,undef,undef,undef,undef,undef,undef,undef,undef,undef,undef,undef,undef,undef,undef,undef,
 undef,undef,undef,undef,undef,undef,undef,undef,undef] H⟩⟩⟩) := by kernel_rfl
theorem L36x0q (n0 : Nat) (s0 s1 s2 s3 s4 s5 s6 s7 s8 s9 s10 s11 s12 s13 s14 s15 s16 s17 s18 s19 s20 s21 s22 s23 s24 s25 s26 s27 s28 s29 s30 s31 s32 s33 s34 s35 s36 s37 s38 s39 s40 s41 s42 s43 s44 s45 s46 s47 s48 s49 s50 : Value)
 (H : AHeap) (k : Value → AHeap → Prop) : L36x0 (n0 + 1) k [s0,s1,s2,s3,s4,s5,s6,s7,s8,s9,s10,s11,s12,s13,s14,s15,s16,s17,s18,s19,s20,s21,s22,s23,s24,s25,s26,s27,s28,s29,s30,s31,s32,s33,s34,
 s35,s36,s37,s38,s39,s40,s41,s42,s43,s44,s45,s46,s47,s48,s49,s50] H = (@bnd (aLen prog H 9 s0) ⟨fun v13x3 => @bnd (aBin2 prog H .lss 3 (.tmp 11) (.tmp 13) s6 v13x3) ⟨fun v14x4 => @kifB v14x4 ⟨@bnd
 (aIndex prog 9 s0 s6) ⟨fun v17x5 => @bndC prog 61 [v17x5] H ⟨fun v18x6 H7 => @kifB v18x6 ⟨@bnd (aBin2 prog H7 .add 3 (.tmp 19) (.const (.int .i64 1)) s6 (.int .i64 1)) ⟨fun v20x8 => L36x0 n0  k [s0,s1,s2,s3,
 s4,s5,v20x8,s7,s8,s9,s10,s6,s0,v13x3,v14x4,s0,s6,v17x5,v18x6,s6,v20x8,s21,s22,s23,s24,s25,s26,s27,s28,s29,s30,s31,s32,s33,s34,s35,s36,s37,s38,s39,s40,s41,s42,s43,s44,s45,s46,s47,s48,
 s49,s50] H7⟩⟩ ⟨@bnd (aIndex prog 9 s0 s6) ⟨fun v23x9 => @bnd (aBin2 prog H7 .eql 5 (.tmp 23) (.const (.int .u8 35)) v23x9 (.int .u8 35)) ⟨fun v24x10 => @kifB v24x10 ⟨∃ n,L36x1 n n0 k [s0,s1,s2,s3,s4,s5,s6,s7,
 s8,s9,s10,s6,s0,v13x3,v14x4,s0,s6,v17x5,v18x6,s19,s20,s0,s6,v23x9,v24x10,s25,s26,s27,s28,s29,s30,s31,s32,s33,s34,s35,s36,s37,s38,s39,s40,s41,s42,s43,s44,s45,s46,s47,s48,s49,s50] H7⟩
 ⟨@bndC prog 62 [s0,s6] H7 ⟨fun v39x11 H12 => @bndE (aAlloc prog H12 72) ⟨fun v7x13 H14 => @bndS (aStore prog H14 72 v7x13 v39x11) ⟨fun _ H16 => @bnd (aFieldAddr prog H16 72 v7x13 0) ⟨fun v40x17 => @bnd
 (aLoad prog H16 5 v40x17) ⟨fun v41x18 => @bnd (aBin2 prog H16 .eql 5 (.tmp 41) (.const (.int .u8 0)) v41x18 (.int .u8 0)) ⟨fun v42x19 => @kifB v42x19 ⟨k (.tuple #[(.slice none 0 0),s6,(.int .i64 90)]) H16⟩ ⟨@bnd
 (aLoad prog H16 72 v7x13) ⟨fun v45x20 => @bndL prog H16 64 1 [(0,v45x20)] ⟨fun v46x21 H22 => @bndE (aBuiltin prog H22 Builtin.append #[64,64] [s5,v46x21]) ⟨fun v47x23 H24 => @bnd (aFieldAddr prog H24 72
 v7x13 3) ⟨fun v48x25 => @bnd (aLoad prog H24 3 v48x25) ⟨fun v49x26 => L36x0 n0  k [s0,s1,s2,s3,s4,v47x23,v49x26,v7x13,s8,s9,s10,s6,s0,v13x3,v14x4,s0,s6,v17x5,v18x6,s19,s20,s0,s6,v23x9,v24x10,s25,
 s26,s27,s28,s29,s30,s31,s32,s33,s34,s35,s36,s0,s6,v39x11,v40x17,v41x18,v42x19,s43,s5,v45x20,v46x21,v47x23,v48x25,v49x26,s50] H24⟩⟩⟩⟩⟩⟩⟩⟩⟩⟩⟩⟩⟩⟩⟩⟩⟩⟩⟩ ⟨k (.tuple #[s5,(.int .i64 0),(.int .i64 0)]) H⟩⟩⟩)
 := by kernel_rfl
theorem L36x1q (n1 : Nat) (n0 : Nat) (s0 s1 s2 s3 s4 s5 s6 s7 s8 s9 s10 s11 s12 s13 s14 s15 s16 s17 s18 s19 s20 s21 s22 s23 s24 s25 s26 s27 s28 s29 s30 s31 s32 s33 s34 s35 s36 s37 s38 s39 s40 s41 s42 s43 s44 s45 s46 s47 s48 s49
 s50 : Value) (H : AHeap) (k : Value → AHeap → Prop) : L36x1 (n1 + 1) n0 k [s0,s1,s2,s3,s4,s5,s6,s7,s8,s9,s10,s11,s12,s13,s14,s15,s16,s17,s18,s19,s20,s21,s22,s23,s24,s25,s26,s27,s28,s29,s30,s31,
 s32,s33,s34,s35,s36,s37,s38,s39,s40,s41,s42,s43,s44,s45,s46,s47,s48,s49,s50] H = (@bnd (aLen prog H 9 s0) ⟨fun v27x27 => @bnd (aBin2 prog H .lss 3 (.tmp 25) (.tmp 27) s6 v27x27) ⟨fun v28x28 => @bnd
 (gif v28x28 true ((some s0)) undef) ⟨fun v30x29 => @bnd (gif v28x28 true ((some s6)) undef) ⟨fun v31x30 => @bnd (gif v28x28 true (aIndex prog 9 v30x29 v31x30) undef) ⟨fun v32x31 => @bnd (gif v28x28 true (aBin2 prog H
 .neq 5 (.tmp 32) (.const (.int .u8 10)) v32x31 (.int .u8 10)) undef) ⟨fun v33x32 => @bnd (pickV v28x28 v33x32 (.bool false)) ⟨fun v34x33 => @kifB v34x33 ⟨@bnd (aBin2 prog H .add 3 (.tmp 35) (.const (.int .i64 1)) s6 (.int
 .i64 1)) ⟨fun v36x34 => L36x1 n1 n0 k [s0,s1,s2,s3,s4,s5,v36x34,s7,s8,s9,s10,s11,s12,s13,s14,s15,s16,s17,s18,s19,s20,s21,s22,s23,s24,s6,s0,v27x27,v28x28,v28x28,v30x29,v31x30,v32x31,v33x32,
 v34x33,s6,v36x34,s37,s38,s39,s40,s41,s42,s43,s44,s45,s46,s47,s48,s49,s50] H⟩⟩ ⟨L36x0 n0  k [s0,s1,s2,s3,s4,s5,s6,s7,s8,s9,s10,s11,s12,s13,s14,s15,s16,s17,s18,s19,s20,s21,s22,s23,s24,s6,
 s0,v27x27,v28x28,v28x28,v30x29,v31x30,v32x31,v33x32,v34x33,s35,s36,s37,s38,s39,s40,s41,s42,s43,s44,s45,s46,s47,s48,s49,s50] H⟩⟩⟩⟩⟩⟩⟩⟩) := by kernel_rfl
-- tocsin/tocsinref10.Condition
theorem d37 (a0 a1 a2 : Value) (H : AHeap) (k : Value → AHeap → Prop) : kbody prog Tryz.f37 [a0,a1,a2] H k = (@bndC prog 63 [a0,a1,a2,(.string { data := #[111,114] })] H ⟨fun v11x1 H2 => @bnd (tupV v11x1 0) ⟨fun
 v12x3 => @bnd (tupV v11x1 1) ⟨fun v13x4 => k (.tuple #[v12x3,v13x4]) H2⟩⟩⟩) := by kernel_rfl
-- tocsin/tocsinref10.Parse
def L41x0 (n : Nat) (k : Value → AHeap → Prop) (sl : List Value) (H : AHeap) : Prop := kit prog (cl (cl (cr (cl (cr (cr (cb Tryz.f41))))))) n (kblk 0 (kseq prog (cr (cr (cr (cb Tryz.f41)))) (kfin prog Tryz.f41 k)))
 .normal sl H
theorem d41 (a0 a1 : Value) (H : AHeap) (k : Value → AHeap → Prop) : kbody prog Tryz.f41 [a0,a1] H k = (@bnd (aLen prog H 35 a0) ⟨fun v7x1 => @bnd (aLen prog H 35 a1) ⟨fun v9x2 => @bnd (aBin2 prog H .neq 3
 (.tmp 7) (.tmp 9) v7x1 v9x2) ⟨fun v10x3 => @kifB v10x3 ⟨k (.bool false) H⟩ ⟨∃ n,L41x0 n  k [a0,a1,undef,undef,(.bool false),(.int .i64 0),a0,v7x1,a1,v9x2,v10x3,undef,undef,undef,undef,undef,undef,undef,undef,
 undef,undef,undef,undef,undef,undef,undef] H⟩⟩⟩⟩) := by kernel_rfl
theorem L41x0q (n0 : Nat) (s0 s1 s2 s3 s4 s5 s6 s7 s8 s9 s10 s11 s12 s13 s14 s15 s16 s17 s18 s19 s20 s21 s22 s23 s24 s25 : Value) (H : AHeap) (k : Value → AHeap → Prop) : L41x0 (n0 + 1) k [s0,s1,s2,s3,s4,s5,s6,s7,s8,s9,
 s10,s11,s12,s13,s14,s15,s16,s17,s18,s19,s20,s21,s22,s23,s24,s25] H = (@bnd (aLen prog H 35 s0) ⟨fun v13x4 => @bnd (aBin2 prog H .lss 3 (.tmp 11) (.tmp 13) s5 v13x4) ⟨fun v14x5 => @kifB v14x5 ⟨@bnd
 (aIndexAddr prog H 35 s0 s5) ⟨fun v19x6 => @bnd (aLoad prog H 75 v19x6) ⟨fun v20x7 => @bnd (aIndexAddr prog H 35 s1 s5) ⟨fun v23x8 => @bnd (aLoad prog H 75 v23x8) ⟨fun v24x9 => @bnd (aBin2 prog H .neq
 75 (.tmp 20) (.tmp 24) v20x7 v24x9) ⟨fun v25x10 => @kifB v25x10 ⟨k (.bool false) H⟩ ⟨@bnd (aBin2 prog H .add 3 (.tmp 15) (.const (.int .i64 1)) s5 (.int .i64 1)) ⟨fun v16x11 => L41x0 n0  k [s0,s1,s2,s3,s4,v16x11,s6,
 s7,s8,s9,s10,s5,s0,v13x4,v14x5,s5,v16x11,s0,s5,v19x6,v20x7,s1,s5,v23x8,v24x9,v25x10] H⟩⟩⟩⟩⟩⟩⟩⟩ ⟨k (.bool true) H⟩⟩⟩) := by kernel_rfl
-- slices.Clone[[]tocsin/api.Node,tocsin/api.Node]
theorem d42 (a0 : Value) (H : AHeap) (k : Value → AHeap → Prop) : kbody prog Tryz.f42 [a0] H k = (@bnd (aBin2 prog H .eql 27 (.tmp 3) (.const (.slice none 0 0)) a0 (.slice none 0 0)) ⟨fun v4x1 => @kifB v4x1 ⟨k (.slice
 none 0 0) H⟩ ⟨@bndL prog H 27 0 [] ⟨fun v5x2 H3 => @bndE (aBuiltin prog H3 Builtin.append #[27,27] [v5x2,a0]) ⟨fun v7x4 H5 => k v7x4 H5⟩⟩⟩⟩) := by kernel_rfl
-- tocsin/expr.text
def S43x0 (k : Value → AHeap → Prop) (sl : List Value) (H : AHeap) : Prop := kseq prog (cr (cr (cr (cr (cb Tryz.f43))))) (kfin prog Tryz.f43 k) .normal sl H
theorem d43 (a0 a1 a2 : Value) (H : AHeap) (k : Value → AHeap → Prop) : kbody prog Tryz.f43 [a0,a1,a2] H k = (@bnd (aIndexAddr prog H 27 a0 a1) ⟨fun v11x1 => @bnd (aLoad prog H 37 v11x1) ⟨fun v12x2 => @bndE
 (aAlloc prog H 37) ⟨fun v7x3 H4 => @bndS (aStore prog H4 37 v7x3 v12x2) ⟨fun _ H6 => @bnd (aFieldAddr prog H6 37 v7x3 0) ⟨fun v13x7 => @bnd (aLoad prog H6 5 v13x7) ⟨fun v14x8 => @bnd (aBin2 prog H6 .eql
 5 (.tmp 14) (.const (.int .u8 0)) v14x8 (.int .u8 0)) ⟨fun v16x9 => @kifB v16x9 ⟨@bndD false H6 ⟨fun v17x10 H11 => ACalls prog 71 [] H6 v17x10 H11⟩ ⟨fun v17x10 H11 => @bnd (aFieldAddr prog H6 37 v7x3 1) ⟨fun v18x12 =>
 @bnd (aLoad prog H6 5 v18x12) ⟨fun v19x13 => @bnd (aIndexAddr prog H11 42 v17x10 v19x13) ⟨fun v20x14 => @bnd (aLoad prog H11 9 v20x14) ⟨fun v21x15 => @bnd (aBin2 prog H11 .add 9 (.tmp 21) (.const (.string {
 data := #[40] })) v21x15 (.string { data := #[40] })) ⟨fun v22x16 => @bnd (aFieldAddr prog H6 37 v7x3 2) ⟨fun v23x17 => @bnd (aLoad prog H6 35 v23x17) ⟨fun v24x18 => @bndD false H11 ⟨fun v25x19 H20 => ACalls prog
 72 [v24x18] H11 v25x19 H20⟩ ⟨fun v25x19 H20 => @bnd (aBin2 prog H20 .add 9 (.tmp 22) (.tmp 25) v22x16 v25x19) ⟨fun v26x21 => @bnd (aBin2 prog H20 .add 9 (.tmp 26) (.const (.string { data := #[91] })) v26x21 (.string {
 data := #[91] })) ⟨fun v27x22 => @bnd (aFieldAddr prog H6 37 v7x3 3) ⟨fun v28x23 => @bnd (aLoad prog H6 3 v28x23) ⟨fun v29x24 => @bndD false H20 ⟨fun v30x25 H26 => ACalls prog 47 [v29x24] H20 v30x25 H26⟩ ⟨fun
 v30x25 H26 => @bnd (aBin2 prog H26 .add 9 (.tmp 27) (.tmp 30) v27x22 v30x25) ⟨fun v31x27 => @bnd (aBin2 prog H26 .add 9 (.tmp 31) (.const (.string { data := #[93,41,32] })) v31x27 (.string { data := #[93,41,32]
 })) ⟨fun v32x28 => @bndD false H26 ⟨fun v33x29 H30 => ACalls prog 73 [] H26 v33x29 H30⟩ ⟨fun v33x29 H30 => @bnd (aFieldAddr prog H6 37 v7x3 4) ⟨fun v34x31 => @bnd (aLoad prog H6 5 v34x31) ⟨fun v35x32 => @bnd
 (aIndexAddr prog H30 42 v33x29 v35x32) ⟨fun v36x33 => @bnd (aLoad prog H30 9 v36x33) ⟨fun v37x34 => @bnd (aBin2 prog H30 .add 9 (.tmp 32) (.tmp 37) v32x28 v37x34) ⟨fun v38x35 => @bnd (aBin2 prog H30 .add 9
 (.tmp 38) (.const (.string { data := #[32] })) v38x35 (.string { data := #[32] })) ⟨fun v39x36 => @bnd (aFieldAddr prog H6 37 v7x3 5) ⟨fun v40x37 => @bnd (aLoad prog H6 2 v40x37) ⟨fun v41x38 => @bndD false H30 ⟨fun
 v42x39 H40 => ACalls prog 74 [v41x38] H30 v42x39 H40⟩ ⟨fun v42x39 H40 => @bnd (aBin2 prog H40 .add 9 (.tmp 39) (.tmp 42) v39x36 v42x39) ⟨fun v43x41 => S43x0  k [a0,a1,a2,undef,undef,undef,(.string { data := #[]
 }),v7x3,v43x41,a0,a1,v11x1,v12x2,v13x7,v14x8,v16x9,v16x9,v17x10,v18x12,v19x13,v20x14,v21x15,v22x16,v23x17,v24x18,v25x19,v26x21,v27x22,v28x23,v29x24,v30x25,v31x27,v32x28,v33x29,v34x31,v35x32,v36x33,
 v37x34,v38x35,v39x36,v40x37,v41x38,v42x39,v43x41,undef,undef,undef,undef,undef,undef,undef,undef,undef,undef,undef,undef,undef,undef,undef,undef,undef,undef,undef,undef,undef,undef,undef,undef,
 undef,undef,undef,undef,undef,undef,undef,undef,undef,undef,undef,undef,undef,undef,undef] H40⟩⟩⟩⟩⟩⟩⟩⟩⟩⟩⟩⟩⟩⟩⟩⟩⟩⟩⟩⟩⟩⟩⟩⟩⟩⟩⟩⟩ ⟨@bnd (aBin2 prog H6 .eql 5 (.tmp 14) (.const (.int .u8 3)) v14x8 (.int .u8 3)) ⟨fun
 v45x42 => @kifB v45x42 ⟨@bnd (aFieldAddr prog H6 37 v7x3 6) ⟨fun v47x43 => @bnd (aLoad prog H6 3 v47x43) ⟨fun v48x44 => @bndC prog 43 [a0,v48x44,(.int .i64 2)] H6 ⟨fun v49x45 H46 => @bnd (aBin2 prog H46
 .add 9 (.const (.string { data := #[110,111,116,32] })) (.tmp 49) (.string { data := #[110,111,116,32] }) v49x45) ⟨fun v50x47 => S43x0  k [a0,a1,a2,undef,undef,undef,(.string { data := #[] }),v7x3,v50x47,a0,a1,
 v11x1,v12x2,v13x7,v14x8,v16x9,v16x9,undef,undef,undef,undef,undef,undef,undef,undef,undef,undef,undef,undef,undef,undef,undef,undef,undef,undef,undef,undef,undef,undef,undef,undef,undef,undef,
 undef,v45x42,v45x42,a0,v47x43,v48x44,v49x45,v50x47,undef,undef,undef,undef,undef,undef,undef,undef,undef,undef,undef,undef,undef,undef,undef,undef,undef,undef,undef,undef,undef,undef,undef,undef,
 undef,undef,undef,undef,undef,undef,undef,undef] H46⟩⟩⟩⟩⟩ ⟨@bnd (aBin2 prog H6 .eql 5 (.tmp 14) (.const (.int .u8 1)) v14x8 (.int .u8 1)) ⟨fun v52x48 => @kifB v52x48 ⟨@bnd (aFieldAddr prog H6 37 v7x3 6) ⟨fun
 v54x49 => @bnd (aLoad prog H6 3 v54x49) ⟨fun v55x50 => @bndD false H6 ⟨fun v56x51 H52 => ACalls prog 43 [a0,v55x50,(.int .i64 1)] H6 v56x51 H52⟩ ⟨fun v56x51 H52 => @bnd (aBin2 prog H52 .add 9 (.tmp 56) (.const
 (.string { data := #[32,97,110,100,32] })) v56x51 (.string { data := #[32,97,110,100,32] })) ⟨fun v57x53 => @bnd (aFieldAddr prog H6 37 v7x3 7) ⟨fun v59x54 => @bnd (aLoad prog H6 3 v59x54) ⟨fun v60x55 => @bndD
 false H52 ⟨fun v61x56 H57 => ACalls prog 43 [a0,v60x55,(.int .i64 2)] H52 v61x56 H57⟩ ⟨fun v61x56 H57 => @bnd (aBin2 prog H57 .add 9 (.tmp 57) (.tmp 61) v57x53 v61x56) ⟨fun v62x58 => S43x0  k [a0,a1,a2,undef,
 undef,undef,(.string { data := #[] }),v7x3,v62x58,a0,a1,v11x1,v12x2,v13x7,v14x8,v16x9,v16x9,undef,undef,undef,undef,undef,undef,undef,undef,undef,undef,undef,undef,undef,undef,undef,undef,undef,
 undef,undef,undef,undef,undef,undef,undef,undef,undef,undef,v45x42,v45x42,undef,undef,undef,undef,undef,v52x48,v52x48,a0,v54x49,v55x50,v56x51,v57x53,a0,v59x54,v60x55,v61x56,v62x58,undef,undef,
 undef,undef,undef,undef,undef,undef,undef,undef,undef,undef,undef,undef,undef,undef,undef,undef,undef,undef] H57⟩⟩⟩⟩⟩⟩⟩⟩⟩ ⟨@bnd (aBin2 prog H6 .eql 5 (.tmp 14) (.const (.int .u8 2)) v14x8 (.int .u8 2))
 ⟨fun v64x59 => @kifB v64x59 ⟨@bnd (aFieldAddr prog H6 37 v7x3 6) ⟨fun v66x60 => @bnd (aLoad prog H6 3 v66x60) ⟨fun v67x61 => @bndD false H6 ⟨fun v68x62 H63 => ACalls prog 43 [a0,v67x61,(.int .i64 0)] H6 v68x62
 H63⟩ ⟨fun v68x62 H63 => @bnd (aBin2 prog H63 .add 9 (.tmp 68) (.const (.string { data := #[32,111,114,32] })) v68x62 (.string { data := #[32,111,114,32] })) ⟨fun v69x64 => @bnd (aFieldAddr prog H6 37 v7x3 7)
 ⟨fun v71x65 => @bnd (aLoad prog H6 3 v71x65) ⟨fun v72x66 => @bndD false H63 ⟨fun v73x67 H68 => ACalls prog 43 [a0,v72x66,(.int .i64 1)] H63 v73x67 H68⟩ ⟨fun v73x67 H68 => @bnd (aBin2 prog H68 .add 9 (.tmp 69)
 (.tmp 73) v69x64 v73x67) ⟨fun v74x69 => S43x0  k [a0,a1,a2,undef,undef,undef,(.string { data := #[] }),v7x3,v74x69,a0,a1,v11x1,v12x2,v13x7,v14x8,v16x9,v16x9,undef,undef,undef,undef,undef,undef,undef,
 undef,undef,undef,undef,undef,undef,undef,undef,undef,undef,undef,undef,undef,undef,undef,undef,undef,undef,undef,undef,v45x42,v45x42,undef,undef,undef,undef,undef,v52x48,v52x48,undef,undef,undef,
 undef,undef,undef,undef,undef,undef,undef,v64x59,v64x59,a0,v66x60,v67x61,v68x62,v69x64,a0,v71x65,v72x66,v73x67,v74x69,undef,undef,undef,undef,undef,undef,undef,undef] H68⟩⟩⟩⟩⟩⟩⟩⟩⟩ ⟨S43x0  k [a0,a1,
 a2,undef,undef,undef,(.string { data := #[] }),v7x3,(.string { data := #[] }),a0,a1,v11x1,v12x2,v13x7,v14x8,v16x9,v16x9,undef,undef,undef,undef,undef,undef,undef,undef,undef,undef,undef,undef,undef,
 undef,undef,undef,undef,undef,undef,undef,undef,undef,undef,undef,undef,undef,undef,v45x42,v45x42,undef,undef,undef,undef,undef,v52x48,v52x48,undef,undef,undef,undef,undef,undef,undef,undef,undef,
 undef,v64x59,v64x59,undef,undef,undef,undef,undef,undef,undef,undef,undef,undef,undef,undef,undef,undef,undef,undef,undef,undef] H6⟩⟩⟩⟩⟩⟩⟩⟩⟩⟩⟩⟩⟩⟩) := by kernel_rfl
theorem S43x0q (s0 s1 s2 s3 s4 s5 s6 s7 s8 s9 s10 s11 s12 s13 s14 s15 s16 s17 s18 s19 s20 s21 s22 s23 s24 s25 s26 s27 s28 s29 s30 s31 s32 s33 s34 s35 s36 s37 s38 s39 s40 s41 s42 s43 s44 s45 s46 s47 s48 s49 s50 s51 s52 s53 s54 s55
 s56 s57 s58 s59 s60 s61 s62 s63 s64 s65 s66 s67 s68 s69 s70 s71 s72 s73 s74 s75 s76 s77 s78 s79 s80 s81 s82 : Value) (H : AHeap) (k : Value → AHeap → Prop) : S43x0 k [s0,s1,s2,s3,s4,s5,s6,s7,s8,s9,s10,s11,s12,s13,
 s14,s15,s16,s17,s18,s19,s20,s21,s22,s23,s24,s25,s26,s27,s28,s29,s30,s31,s32,s33,s34,s35,s36,s37,s38,s39,s40,s41,s42,s43,s44,s45,s46,s47,s48,s49,s50,s51,s52,s53,s54,s55,s56,s57,s58,
 s59,s60,s61,s62,s63,s64,s65,s66,s67,s68,s69,s70,s71,s72,s73,s74,s75,s76,s77,s78,s79,s80,s81,s82] H = (@bnd (aLoad prog H 37 s7) ⟨fun v75x70 => @bndC prog 75 [v75x70] H ⟨fun v76x71 H72 => @bnd
 (aBin2 prog H72 .lss 3 (.tmp 76) (.tmp 77) v76x71 s2) ⟨fun v78x73 => @kifB v78x73 ⟨@bnd (aBin2 prog H72 .add 9 (.const (.string { data := #[40] })) (.tmp 79) (.string { data := #[40] }) s8) ⟨fun v80x74 => @bnd (aBin2
 prog H72 .add 9 (.tmp 80) (.const (.string { data := #[41] })) v80x74 (.string { data := #[41] })) ⟨fun v81x75 => k v81x75 H72⟩⟩⟩ ⟨k s8 H72⟩⟩⟩⟩) := by kernel_rfl
-- tocsin/expr.begin
def S44x0 (k : Value → AHeap → Prop) (sl : List Value) (H : AHeap) : Prop := kseq prog (cr (cr (cr (cr (cb Tryz.f44))))) (kfin prog Tryz.f44 k) .normal sl H
def S44x1 (k : Value → AHeap → Prop) (sl : List Value) (H : AHeap) : Prop := kseq prog (cr (cr (cr (cr (cr (cl (cr (cl (cr (cr (cr (cb Tryz.f44)))))))))))) (kblk 0 (kseq prog (cr (cr (cr (cr (cb Tryz.f44))))) (kfin
 prog Tryz.f44 k))) .normal sl H
theorem d44 (a0 a1 : Value) (H : AHeap) (k : Value → AHeap → Prop) : kbody prog Tryz.f44 [a0,a1] H k = (@bnd (aBin2 prog H .lss 3 (.tmp 7) (.const (.int .i64 0)) a1 (.int .i64 0)) ⟨fun v8x1 => @kifB v8x1 ⟨k (.int .i64
 (-1)) H⟩ ⟨@bnd (aIndexAddr prog H 27 a0 a1) ⟨fun v11x2 => @bnd (aLoad prog H 37 v11x2) ⟨fun v12x3 => @bndE (aAlloc prog H 37) ⟨fun v5x4 H5 => @bndS (aStore prog H5 37 v5x4 v12x3) ⟨fun _ H7 => @bnd
 (aFieldAddr prog H7 37 v5x4 0) ⟨fun v13x8 => @bnd (aLoad prog H7 5 v13x8) ⟨fun v14x9 => @bnd (aBin2 prog H7 .eql 5 (.tmp 14) (.const (.int .u8 0)) v14x9 (.int .u8 0)) ⟨fun v16x10 => @kifB v16x10 ⟨@bnd (aLoad
 prog H7 37 v5x4) ⟨fun v17x11 => @bndC prog 76 [v17x11] H7 ⟨fun v18x12 H13 => @kifB v18x12 ⟨k a1 H13⟩ ⟨S44x0  k [a0,a1,undef,undef,(.int .i64 0),v5x4,undef,a1,v8x1,a0,a1,v11x2,v12x3,v13x8,v14x9,v16x10,
 v16x10,v17x11,v18x12,undef,undef,undef,undef,undef,undef,undef,undef,undef,undef,undef,undef,undef,undef,undef,undef,undef,undef,undef,undef,undef,undef,undef,undef,undef,undef,undef,undef,undef,
 undef,undef,undef,undef,undef,undef,undef,undef,undef,undef,undef,undef,undef,undef,undef,undef,undef,undef,undef,undef,undef,undef,undef] H13⟩⟩⟩⟩ ⟨@bnd (aBin2 prog H7 .eql 5 (.tmp 14) (.const (.int
 .u8 3)) v14x9 (.int .u8 3)) ⟨fun v21x14 => @kifB v21x14 ⟨@bnd (aLoad prog H7 37 v5x4) ⟨fun v22x15 => @bndC prog 77 [v22x15] H7 ⟨fun v23x16 H17 => @bnd (gif v23x16 true (aFieldAddr prog H17 37 v5x4 6) undef) ⟨fun
 v25x18 => @bnd (gif v23x16 true (aLoad prog H17 3 v25x18) undef) ⟨fun v26x19 => @bnd (gif v23x16 true ((some a1)) undef) ⟨fun v27x20 => @bnd (gif v23x16 true (aBin2 prog H17 .sub 3 (.tmp 27) (.const (.int .i64 1))
 v27x20 (.int .i64 1)) undef) ⟨fun v28x21 => @bnd (gif v23x16 true (aBin2 prog H17 .eql 3 (.tmp 26) (.tmp 28) v26x19 v28x21) undef) ⟨fun v29x22 => @bnd (pickV v23x16 v29x22 (.bool false)) ⟨fun v30x23 => @bnd (gif v30x23
 true (aFieldAddr prog H17 37 v5x4 7) undef) ⟨fun v32x24 => @bnd (gif v30x23 true (aLoad prog H17 3 v32x24) undef) ⟨fun v33x25 => @bnd (gif v30x23 true (aBin2 prog H17 .eql 3 (.tmp 33) (.const (.int .i64 0))
 v33x25 (.int .i64 0)) undef) ⟨fun v34x26 => @bnd (pickV v30x23 v34x26 (.bool false)) ⟨fun v35x27 => @kifB v35x27 ⟨@bnd (aBin2 prog H17 .sub 3 (.tmp 37) (.const (.int .i64 1)) a1 (.int .i64 1)) ⟨fun v38x28 => @bndC
 prog 44 [a0,v38x28] H17 ⟨fun v39x29 H30 => k v39x29 H30⟩⟩⟩ ⟨S44x0  k [a0,a1,undef,undef,(.int .i64 0),v5x4,undef,a1,v8x1,a0,a1,v11x2,v12x3,v13x8,v14x9,v16x10,v16x10,undef,undef,undef,v21x14,v21x14,
 v22x15,v23x16,v23x16,v25x18,v26x19,v27x20,v28x21,v29x22,v30x23,v30x23,v32x24,v33x25,v34x26,v35x27,undef,undef,undef,undef,undef,undef,undef,undef,undef,undef,undef,undef,undef,undef,undef,undef,
 undef,undef,undef,undef,undef,undef,undef,undef,undef,undef,undef,undef,undef,undef,undef,undef,undef,undef,undef] H17⟩⟩⟩⟩⟩⟩⟩⟩⟩⟩⟩⟩⟩⟩ ⟨@bnd (aBin2 prog H7 .eql 5 (.tmp 14) (.const (.int .u8 1)) v14x9 (.int
 .u8 1)) ⟨fun v41x31 => @kifB v41x31 ⟨S44x1  k [a0,a1,undef,undef,(.int .i64 0),v5x4,undef,a1,v8x1,a0,a1,v11x2,v12x3,v13x8,v14x9,v16x10,v16x10,undef,undef,undef,v21x14,v21x14,undef,undef,undef,undef,
 undef,undef,undef,undef,undef,undef,undef,undef,undef,undef,undef,undef,undef,undef,v41x31,v41x31,undef,undef,undef,undef,undef,undef,undef,undef,undef,undef,undef,undef,undef,undef,undef,undef,
 undef,undef,undef,undef,undef,undef,undef,undef,undef,undef,undef,undef,undef] H7⟩ ⟨@bnd (aBin2 prog H7 .eql 5 (.tmp 14) (.const (.int .u8 2)) v14x9 (.int .u8 2)) ⟨fun v42x32 => S44x1  k [a0,a1,undef,undef,
 (.int .i64 0),v5x4,undef,a1,v8x1,a0,a1,v11x2,v12x3,v13x8,v14x9,v16x10,v16x10,undef,undef,undef,v21x14,v21x14,undef,undef,undef,undef,undef,undef,undef,undef,undef,undef,undef,undef,undef,undef,
 undef,undef,undef,undef,v42x32,v41x31,v42x32,undef,undef,undef,undef,undef,undef,undef,undef,undef,undef,undef,undef,undef,undef,undef,undef,undef,undef,undef,undef,undef,undef,undef,undef,undef,
 undef,undef,undef] H7⟩⟩⟩⟩⟩⟩⟩⟩⟩⟩⟩⟩⟩⟩⟩) := by kernel_rfl
theorem S44x0q (s0 s1 s2 s3 s4 s5 s6 s7 s8 s9 s10 s11 s12 s13 s14 s15 s16 s17 s18 s19 s20 s21 s22 s23 s24 s25 s26 s27 s28 s29 s30 s31 s32 s33 s34 s35 s36 s37 s38 s39 s40 s41 s42 s43 s44 s45 s46 s47 s48 s49 s50 s51 s52 s53 s54 s55
 s56 s57 s58 s59 s60 s61 s62 s63 s64 s65 s66 s67 s68 s69 s70 : Value) (H : AHeap) (k : Value → AHeap → Prop) : S44x0 k [s0,s1,s2,s3,s4,s5,s6,s7,s8,s9,s10,s11,s12,s13,s14,s15,s16,s17,s18,s19,s20,s21,s22,
 s23,s24,s25,s26,s27,s28,s29,s30,s31,s32,s33,s34,s35,s36,s37,s38,s39,s40,s41,s42,s43,s44,s45,s46,s47,s48,s49,s50,s51,s52,s53,s54,s55,s56,s57,s58,s59,s60,s61,s62,s63,s64,s65,s66,s67,
 s68,s69,s70] H = (k (.int .i64 (-1)) H) := by kernel_rfl
theorem S44x1q (s0 s1 s2 s3 s4 s5 s6 s7 s8 s9 s10 s11 s12 s13 s14 s15 s16 s17 s18 s19 s20 s21 s22 s23 s24 s25 s26 s27 s28 s29 s30 s31 s32 s33 s34 s35 s36 s37 s38 s39 s40 s41 s42 s43 s44 s45 s46 s47 s48 s49 s50 s51 s52 s53 s54 s55
 s56 s57 s58 s59 s60 s61 s62 s63 s64 s65 s66 s67 s68 s69 s70 : Value) (H : AHeap) (k : Value → AHeap → Prop) : S44x1 k [s0,s1,s2,s3,s4,s5,s6,s7,s8,s9,s10,s11,s12,s13,s14,s15,s16,s17,s18,s19,s20,s21,s22,
 s23,s24,s25,s26,s27,s28,s29,s30,s31,s32,s33,s34,s35,s36,s37,s38,s39,s40,s41,s42,s43,s44,s45,s46,s47,s48,s49,s50,s51,s52,s53,s54,s55,s56,s57,s58,s59,s60,s61,s62,s63,s64,s65,s66,s67,
 s68,s69,s70] H = (@kifB s40 ⟨@bnd (aBin2 prog H .sub 3 (.tmp 44) (.const (.int .i64 1)) s1 (.int .i64 1)) ⟨fun v45x33 => @bndC prog 44 [s0,v45x33] H ⟨fun v46x34 H35 => @bnd (aLoad prog H35 37 s5) ⟨fun v47x36
 => @bndC prog 77 [v47x36] H35 ⟨fun v48x37 H38 => @bnd (gif v48x37 true (aFieldAddr prog H38 37 s5 7) undef) ⟨fun v50x39 => @bnd (gif v48x37 true (aLoad prog H38 3 v50x39) undef) ⟨fun v51x40 => @bnd (gif v48x37
 true ((some s1)) undef) ⟨fun v52x41 => @bnd (gif v48x37 true (aBin2 prog H38 .sub 3 (.tmp 52) (.const (.int .i64 1)) v52x41 (.int .i64 1)) undef) ⟨fun v53x42 => @bnd (gif v48x37 true (aBin2 prog H38 .eql 3 (.tmp 51)
 (.tmp 53) v51x40 v53x42) undef) ⟨fun v54x43 => @bnd (pickV v48x37 v54x43 (.bool false)) ⟨fun v55x44 => @bnd (gif v55x44 true ((some v46x34)) undef) ⟨fun v57x45 => @bnd (gif v55x44 true (aBin2 prog H38 .gtr 3 (.tmp 57)
 (.const (.int .i64 0)) v57x45 (.int .i64 0)) undef) ⟨fun v58x46 => @bnd (pickV v55x44 v58x46 (.bool false)) ⟨fun v59x47 => @bnd (gif v59x47 true (aFieldAddr prog H38 37 s5 6) undef) ⟨fun v61x48 => @bnd (gif v59x47 true
 (aLoad prog H38 3 v61x48) undef) ⟨fun v62x49 => @bnd (gif v59x47 true ((some v46x34)) undef) ⟨fun v63x50 => @bnd (gif v59x47 true (aBin2 prog H38 .sub 3 (.tmp 63) (.const (.int .i64 1)) v63x50 (.int .i64 1)) undef)
 ⟨fun v64x51 => @bnd (gif v59x47 true (aBin2 prog H38 .eql 3 (.tmp 62) (.tmp 64) v62x49 v64x51) undef) ⟨fun v65x52 => @bnd (pickV v59x47 v65x52 (.bool false)) ⟨fun v66x53 => @kifB v66x53 ⟨@bnd (aBin2 prog H38 .sub 3
 (.tmp 68) (.const (.int .i64 1)) v46x34 (.int .i64 1)) ⟨fun v69x54 => @bndC prog 44 [s0,v69x54] H38 ⟨fun v70x55 H56 => k v70x55 H56⟩⟩⟩ ⟨S44x0  k [s0,s1,s2,s3,s4,s5,v46x34,s7,s8,s9,s10,s11,s12,s13,s14,s15,
 s16,s17,s18,s19,s20,s21,s22,s23,s24,s25,s26,s27,s28,s29,s30,s31,s32,s33,s34,s35,s36,s37,s38,s39,s40,s41,s42,s0,s1,v45x33,v46x34,v47x36,v48x37,v48x37,v50x39,v51x40,v52x41,v53x42,v54x43,
 v55x44,v55x44,v57x45,v58x46,v59x47,v59x47,v61x48,v62x49,v63x50,v64x51,v65x52,v66x53,s67,s68,s69,s70] H38⟩⟩⟩⟩⟩⟩⟩⟩⟩⟩⟩⟩⟩⟩⟩⟩⟩⟩⟩⟩⟩ ⟨S44x0  k [s0,s1,s2,s3,s4,s5,s6,s7,s8,s9,s10,s11,s12,s13,s14,s15,s16,
 s17,s18,s19,s20,s21,s22,s23,s24,s25,s26,s27,s28,s29,s30,s31,s32,s33,s34,s35,s36,s37,s38,s39,s40,s41,s42,s43,s44,s45,s46,s47,s48,s49,s50,s51,s52,s53,s54,s55,s56,s57,s58,s59,s60,s61,
 s62,s63,s64,s65,s66,s67,s68,s69,s70] H⟩) := by kernel_rfl
-- tocsin/tocsinlaw11.big
end Go.Vi
namespace Go.Vi
open Go Go.Proofs Go.Proofs.Tryz
-- strings.Join
def S46x0 (k : Value → AHeap → Prop) (sl : List Value) (H : AHeap) : Prop := kseq prog (cr (cl (cr (cl (cr (cr (cr (cb Tryz.f46)))))))) (kseq prog (cr (cr (cr (cr (cb Tryz.f46))))) (kfin prog Tryz.f46 k)) .normal
 sl H
def S46x1 (k : Value → AHeap → Prop) (sl : List Value) (H : AHeap) : Prop := kseq prog (cr (cr (cr (cr (cb Tryz.f46))))) (kfin prog Tryz.f46 k) .normal sl H
def L46x0 (n : Nat) (k : Value → AHeap → Prop) (sl : List Value) (H : AHeap) : Prop := kit prog (cl (cl (cr (cl (cr (cr (cr (cr (cb Tryz.f46))))))))) n (kblk 1 (kseq prog (cr (cr (cr (cr (cr (cb Tryz.f46)))))) (kfin
 prog Tryz.f46 k))) .normal sl H
def S46x2 (n0 : Nat) (k : Value → AHeap → Prop) (sl : List Value) (H : AHeap) : Prop := kseq prog (cr (cr (cl (cl (cr (cr (cl (cl (cr (cl (cr (cr (cr (cr (cb Tryz.f46))))))))))))))) (kblk 2 (kseq prog (cr (cr (cr (cl
 (cl (cr (cl (cr (cr (cr (cr (cb Tryz.f46)))))))))))) (kit prog (cl (cl (cr (cl (cr (cr (cr (cr (cb Tryz.f46))))))))) n0 (kblk 1 (kseq prog (cr (cr (cr (cr (cr (cb Tryz.f46)))))) (kfin prog Tryz.f46 k))))))
 .normal sl H
def L46x1 (n : Nat) (k : Value → AHeap → Prop) (sl : List Value) (H : AHeap) : Prop := kit prog (cl (cl (cr (cl (cr (cr (cr (cr (cr (cr (cr (cr (cb Tryz.f46))))))))))))) n (kblk 3 (kseq prog (cr (cr (cr (cr (cr (cr (cr
 (cr (cr (cb Tryz.f46)))))))))) (kfin prog Tryz.f46 k))) .normal sl H
theorem d46 (a0 a1 : Value) (H : AHeap) (k : Value → AHeap → Prop) : kbody prog Tryz.f46 [a0,a1] H k = (@bnd (aLen prog H 42 a0) ⟨fun v12x1 => @bnd (aBin2 prog H .eql 3 (.tmp 12) (.const (.int .i64 0)) v12x1 (.int
 .i64 0)) ⟨fun v14x2 => @kifB v14x2 ⟨k (.string { data := #[] }) H⟩ ⟨@bnd (aBin2 prog H .eql 3 (.tmp 12) (.const (.int .i64 1)) v12x1 (.int .i64 1)) ⟨fun v16x3 => @kifB v16x3 ⟨@bnd (aIndexAddr prog H 42 a0 (.int .i64
 0)) ⟨fun v18x4 => @bnd (aLoad prog H 9 v18x4) ⟨fun v19x5 => k v19x5 H⟩⟩⟩ ⟨@bnd (aLen prog H 9 a1) ⟨fun v21x6 => @bnd (aBin2 prog H .gtr 3 (.tmp 21) (.const (.int .i64 0)) v21x6 (.int .i64 0)) ⟨fun v22x7 => @kifB
 v22x7 ⟨@bnd (aLen prog H 9 a1) ⟨fun v24x8 => @bnd (aLen prog H 42 a0) ⟨fun v26x9 => @bnd (aBin2 prog H .sub 3 (.tmp 26) (.const (.int .i64 1)) v26x9 (.int .i64 1)) ⟨fun v27x10 => @bnd (aBin2 prog H .quo 3
 (.const (.int .i64 9223372036854775807)) (.tmp 27) (.int .i64 9223372036854775807) v27x10) ⟨fun v28x11 => @bnd (aBin2 prog H .geq 3 (.tmp 24) (.tmp 28) v24x8 v28x11) ⟨fun v29x12 => @kifB v29x12 ⟨@bndE (none) ⟨fun _ H14 =>
 S46x0  k [a0,a1,undef,undef,(.string { data := #[] }),(.int .i64 0),undef,undef,undef,undef,undef,a0,v12x1,v14x2,v14x2,v16x3,v16x3,undef,undef,undef,a1,v21x6,v22x7,a1,v24x8,a0,v26x9,v27x10,v28x11,
 v29x12,(.iface 9 (.string { data := #[115,116,114,105,110,103,115,58,32,74,111,105,110,32,111,117,116,112,117,116,32,108,101,110,103,116,104,32,111,118,101,114,102,108,111,119] })),undef,
 undef,undef,undef,undef,undef,undef,undef,undef,undef,undef,undef,undef,undef,undef,undef,undef,undef,undef,undef,undef,undef,undef,undef,undef,undef,undef,undef,undef,undef,undef,undef,undef,
 undef,undef,undef,undef,undef,undef,undef,undef,undef,undef,undef] H14⟩⟩ ⟨S46x0  k [a0,a1,undef,undef,(.string { data := #[] }),(.int .i64 0),undef,undef,undef,undef,undef,a0,v12x1,v14x2,v14x2,v16x3,
 v16x3,undef,undef,undef,a1,v21x6,v22x7,a1,v24x8,a0,v26x9,v27x10,v28x11,v29x12,undef,undef,undef,undef,undef,undef,undef,undef,undef,undef,undef,undef,undef,undef,undef,undef,undef,undef,undef,
 undef,undef,undef,undef,undef,undef,undef,undef,undef,undef,undef,undef,undef,undef,undef,undef,undef,undef,undef,undef,undef,undef,undef,undef,undef,undef] H⟩⟩⟩⟩⟩⟩⟩ ⟨S46x1  k [a0,a1,undef,undef,
 (.string { data := #[] }),(.int .i64 0),undef,undef,undef,undef,undef,a0,v12x1,v14x2,v14x2,v16x3,v16x3,undef,undef,undef,a1,v21x6,v22x7,undef,undef,undef,undef,undef,undef,undef,undef,undef,undef,
 undef,undef,undef,undef,undef,undef,undef,undef,undef,undef,undef,undef,undef,undef,undef,undef,undef,undef,undef,undef,undef,undef,undef,undef,undef,undef,undef,undef,undef,undef,undef,undef,
 undef,undef,undef,undef,undef,undef,undef,undef,undef,undef] H⟩⟩⟩⟩⟩⟩⟩⟩) := by kernel_rfl
theorem S46x0q (s0 s1 s2 s3 s4 s5 s6 s7 s8 s9 s10 s11 s12 s13 s14 s15 s16 s17 s18 s19 s20 s21 s22 s23 s24 s25 s26 s27 s28 s29 s30 s31 s32 s33 s34 s35 s36 s37 s38 s39 s40 s41 s42 s43 s44 s45 s46 s47 s48 s49 s50 s51 s52 s53 s54 s55
 s56 s57 s58 s59 s60 s61 s62 s63 s64 s65 s66 s67 s68 s69 s70 s71 s72 s73 s74 : Value) (H : AHeap) (k : Value → AHeap → Prop) : S46x0 k [s0,s1,s2,s3,s4,s5,s6,s7,s8,s9,s10,s11,s12,s13,s14,s15,s16,s17,s18,s19,
 s20,s21,s22,s23,s24,s25,s26,s27,s28,s29,s30,s31,s32,s33,s34,s35,s36,s37,s38,s39,s40,s41,s42,s43,s44,s45,s46,s47,s48,s49,s50,s51,s52,s53,s54,s55,s56,s57,s58,s59,s60,s61,s62,s63,s64,
 s65,s66,s67,s68,s69,s70,s71,s72,s73,s74] H = (@bnd (aLen prog H 9 s1) ⟨fun v33x15 => @bnd (aLen prog H 42 s0) ⟨fun v35x16 => @bnd (aBin2 prog H .sub 3 (.tmp 35) (.const (.int .i64 1)) v35x16 (.int .i64
 1)) ⟨fun v36x17 => @bnd (aBin2 prog H .mul 3 (.tmp 33) (.tmp 36) v33x15 v36x17) ⟨fun v37x18 => @bnd (aBin2 prog H .add 3 (.tmp 31) (.tmp 37) s5 v37x18) ⟨fun v38x19 => S46x1  k [s0,s1,s2,s3,s4,v38x19,s6,s7,s8,
 s9,s10,s11,s12,s13,s14,s15,s16,s17,s18,s19,s20,s21,s22,s23,s24,s25,s26,s27,s28,s29,s30,s5,s1,v33x15,s0,v35x16,v36x17,v37x18,v38x19,s39,s40,s41,s42,s43,s44,s45,s46,s47,s48,s49,s50,s51,
 s52,s53,s54,s55,s56,s57,s58,s59,s60,s61,s62,s63,s64,s65,s66,s67,s68,s69,s70,s71,s72,s73,s74] H⟩⟩⟩⟩⟩) := by kernel_rfl
theorem S46x1q (s0 s1 s2 s3 s4 s5 s6 s7 s8 s9 s10 s11 s12 s13 s14 s15 s16 s17 s18 s19 s20 s21 s22 s23 s24 s25 s26 s27 s28 s29 s30 s31 s32 s33 s34 s35 s36 s37 s38 s39 s40 s41 s42 s43 s44 s45 s46 s47 s48 s49 s50 s51 s52 s53 s54 s55
 s56 s57 s58 s59 s60 s61 s62 s63 s64 s65 s66 s67 s68 s69 s70 s71 s72 s73 s74 : Value) (H : AHeap) (k : Value → AHeap → Prop) : S46x1 k [s0,s1,s2,s3,s4,s5,s6,s7,s8,s9,s10,s11,s12,s13,s14,s15,s16,s17,s18,s19,
 s20,s21,s22,s23,s24,s25,s26,s27,s28,s29,s30,s31,s32,s33,s34,s35,s36,s37,s38,s39,s40,s41,s42,s43,s44,s45,s46,s47,s48,s49,s50,s51,s52,s53,s54,s55,s56,s57,s58,s59,s60,s61,s62,s63,s64,
 s65,s66,s67,s68,s69,s70,s71,s72,s73,s74] H = (@bnd (aLen prog H 42 s0) ⟨fun v40x20 => ∃ n,L46x0 n  k [s0,s1,s2,s3,s4,s5,s6,s7,s8,s9,s10,s11,s12,s13,s14,s15,s16,s17,s18,s19,s20,s21,s22,s23,
 s24,s25,s26,s27,s28,s29,s30,s31,s32,s33,s34,s35,s36,s37,s38,s0,v40x20,(.int .i64 0),s42,s43,s44,s45,s46,s47,s48,s49,s50,s51,s52,s53,s54,s55,s56,s57,s58,s59,s60,s61,s62,s63,s64,s65,s66,
 s67,s68,s69,s70,s71,s72,s73,s74] H⟩) := by kernel_rfl
theorem L46x0q (n0 : Nat) (s0 s1 s2 s3 s4 s5 s6 s7 s8 s9 s10 s11 s12 s13 s14 s15 s16 s17 s18 s19 s20 s21 s22 s23 s24 s25 s26 s27 s28 s29 s30 s31 s32 s33 s34 s35 s36 s37 s38 s39 s40 s41 s42 s43 s44 s45 s46 s47 s48 s49 s50 s51 s52
 s53 s54 s55 s56 s57 s58 s59 s60 s61 s62 s63 s64 s65 s66 s67 s68 s69 s70 s71 s72 s73 s74 : Value) (H : AHeap) (k : Value → AHeap → Prop) : L46x0 (n0 + 1) k [s0,s1,s2,s3,s4,s5,s6,s7,s8,s9,s10,s11,s12,s13,s14,s15,
 s16,s17,s18,s19,s20,s21,s22,s23,s24,s25,s26,s27,s28,s29,s30,s31,s32,s33,s34,s35,s36,s37,s38,s39,s40,s41,s42,s43,s44,s45,s46,s47,s48,s49,s50,s51,s52,s53,s54,s55,s56,s57,s58,s59,s60,
 s61,s62,s63,s64,s65,s66,s67,s68,s69,s70,s71,s72,s73,s74] H = (@bnd (aBin2 prog H .lss 3 (.tmp 41) (.tmp 40) s41 s40) ⟨fun v42x21 => @kifB v42x21 ⟨@bnd (aIndexAddr prog H 42 s39 s41) ⟨fun v43x22 => @bnd
 (aLoad prog H 9 v43x22) ⟨fun v44x23 => @bnd (aLen prog H 9 v44x23) ⟨fun v46x24 => @bnd (aBin2 prog H .sub 3 (.const (.int .i64 9223372036854775807)) (.tmp 47) (.int .i64 9223372036854775807) s5) ⟨fun v48x25 =>
 @bnd (aBin2 prog H .gtr 3 (.tmp 46) (.tmp 48) v46x24 v48x25) ⟨fun v49x26 => @kifB v49x26 ⟨@bndE (none) ⟨fun _ H28 => S46x2 n0 k [s0,s1,s2,s3,s4,s5,s6,v44x23,s8,s9,s10,s11,s12,s13,s14,s15,s16,s17,s18,s19,
 s20,s21,s22,s23,s24,s25,s26,s27,s28,s29,s30,s31,s32,s33,s34,s35,s36,s37,s38,s39,s40,s41,v42x21,v43x22,v44x23,v44x23,v46x24,s5,v48x25,v49x26,(.iface 9 (.string { data := #[115,116,114,105,110,
 103,115,58,32,74,111,105,110,32,111,117,116,112,117,116,32,108,101,110,103,116,104,32,111,118,101,114,102,108,111,119] })),s51,s52,s53,s54,s55,s56,s57,s58,s59,s60,s61,s62,s63,s64,
 s65,s66,s67,s68,s69,s70,s71,s72,s73,s74] H28⟩⟩ ⟨S46x2 n0 k [s0,s1,s2,s3,s4,s5,s6,v44x23,s8,s9,s10,s11,s12,s13,s14,s15,s16,s17,s18,s19,s20,s21,s22,s23,s24,s25,s26,s27,s28,s29,s30,s31,s32,
 s33,s34,s35,s36,s37,s38,s39,s40,s41,v42x21,v43x22,v44x23,v44x23,v46x24,s5,v48x25,v49x26,s50,s51,s52,s53,s54,s55,s56,s57,s58,s59,s60,s61,s62,s63,s64,s65,s66,s67,s68,s69,s70,s71,s72,s73,
 s74] H⟩⟩⟩⟩⟩⟩⟩ ⟨@bndE (aAlloc prog H 116) ⟨fun v8x29 H30 => @bndC prog 78 [v8x29,s5] H30 ⟨fun v57x31 H32 => @bnd (aIndexAddr prog H32 42 s0 (.int .i64 0)) ⟨fun v59x33 => @bnd (aLoad prog H32 9 v59x33) ⟨fun
 v60x34 => @bndC prog 79 [v8x29,v60x34] H32 ⟨fun v61x35 H36 => @bnd (aSliceOp prog H36 42 s0 (some (.int .i64 1)) none) ⟨fun v63x37 => @bnd (aLen prog H36 42 v63x37) ⟨fun v64x38 => ∃ n,L46x1 n  k [s0,s1,s2,
 s3,s4,s5,s6,s7,v8x29,s9,s10,s11,s12,s13,s14,s15,s16,s17,s18,s19,s20,s21,s22,s23,s24,s25,s26,s27,s28,s29,s30,s31,s32,s33,s34,s35,s36,s37,s38,s39,s40,s41,v42x21,s43,s44,s45,s46,s47,
 s48,s49,s50,s51,s52,s53,s54,s55,s5,v57x31,s0,v59x33,v60x34,v61x35,s0,v63x37,v64x38,(.int .i64 0),s66,s67,s68,s69,s70,s71,s72,s73,s74] H36⟩⟩⟩⟩⟩⟩⟩⟩⟩) := by kernel_rfl
theorem S46x2q (n0 : Nat) (s0 s1 s2 s3 s4 s5 s6 s7 s8 s9 s10 s11 s12 s13 s14 s15 s16 s17 s18 s19 s20 s21 s22 s23 s24 s25 s26 s27 s28 s29 s30 s31 s32 s33 s34 s35 s36 s37 s38 s39 s40 s41 s42 s43 s44 s45 s46 s47 s48 s49 s50 s51 s52
 s53 s54 s55 s56 s57 s58 s59 s60 s61 s62 s63 s64 s65 s66 s67 s68 s69 s70 s71 s72 s73 s74 : Value) (H : AHeap) (k : Value → AHeap → Prop) : S46x2 n0 k [s0,s1,s2,s3,s4,s5,s6,s7,s8,s9,s10,s11,s12,s13,s14,s15,s16,
 s17,s18,s19,s20,s21,s22,s23,s24,s25,s26,s27,s28,s29,s30,s31,s32,s33,s34,s35,s36,s37,s38,s39,s40,s41,s42,s43,s44,s45,s46,s47,s48,s49,s50,s51,s52,s53,s54,s55,s56,s57,s58,s59,s60,s61,
 s62,s63,s64,s65,s66,s67,s68,s69,s70,s71,s72,s73,s74] H = (@bnd (aLen prog H 9 s7) ⟨fun v53x39 => @bnd (aBin2 prog H .add 3 (.tmp 51) (.tmp 53) s5 v53x39) ⟨fun v54x40 => @bnd (aBin2 prog H .add 3 (.tmp
 41) (.const (.int .i64 1)) s41 (.int .i64 1)) ⟨fun v55x41 => L46x0 n0  k [s0,s1,s2,s3,s4,v54x40,s6,s7,s8,s9,s10,s11,s12,s13,s14,s15,s16,s17,s18,s19,s20,s21,s22,s23,s24,s25,s26,s27,s28,s29,s30,s31,
 s32,s33,s34,s35,s36,s37,s38,s39,s40,v55x41,s42,s43,s44,s45,s46,s47,s48,s49,s50,s5,s7,v53x39,v54x40,v55x41,s56,s57,s58,s59,s60,s61,s62,s63,s64,s65,s66,s67,s68,s69,s70,s71,s72,s73,s74]
 H⟩⟩⟩) := by kernel_rfl
theorem L46x1q (n1 : Nat) (s0 s1 s2 s3 s4 s5 s6 s7 s8 s9 s10 s11 s12 s13 s14 s15 s16 s17 s18 s19 s20 s21 s22 s23 s24 s25 s26 s27 s28 s29 s30 s31 s32 s33 s34 s35 s36 s37 s38 s39 s40 s41 s42 s43 s44 s45 s46 s47 s48 s49 s50 s51 s52
 s53 s54 s55 s56 s57 s58 s59 s60 s61 s62 s63 s64 s65 s66 s67 s68 s69 s70 s71 s72 s73 s74 : Value) (H : AHeap) (k : Value → AHeap → Prop) : L46x1 (n1 + 1) k [s0,s1,s2,s3,s4,s5,s6,s7,s8,s9,s10,s11,s12,s13,s14,s15,
 s16,s17,s18,s19,s20,s21,s22,s23,s24,s25,s26,s27,s28,s29,s30,s31,s32,s33,s34,s35,s36,s37,s38,s39,s40,s41,s42,s43,s44,s45,s46,s47,s48,s49,s50,s51,s52,s53,s54,s55,s56,s57,s58,s59,s60,
 s61,s62,s63,s64,s65,s66,s67,s68,s69,s70,s71,s72,s73,s74] H = (@bnd (aBin2 prog H .lss 3 (.tmp 65) (.tmp 64) s65 s64) ⟨fun v66x42 => @kifB v66x42 ⟨@bnd (aIndexAddr prog H 42 s63 s65) ⟨fun v67x43 => @bnd
 (aLoad prog H 9 v67x43) ⟨fun v68x44 => @bndC prog 79 [s8,s1] H ⟨fun v70x45 H46 => @bndC prog 79 [s8,v68x44] H46 ⟨fun v72x47 H48 => @bnd (aBin2 prog H48 .add 3 (.tmp 65) (.const (.int .i64 1)) s65 (.int
 .i64 1)) ⟨fun v73x49 => L46x1 n1  k [s0,s1,s2,s3,s4,s5,s6,s7,s8,s9,v68x44,s11,s12,s13,s14,s15,s16,s17,s18,s19,s20,s21,s22,s23,s24,s25,s26,s27,s28,s29,s30,s31,s32,s33,s34,s35,s36,s37,s38,
 s39,s40,s41,s42,s43,s44,s45,s46,s47,s48,s49,s50,s51,s52,s53,s54,s55,s56,s57,s58,s59,s60,s61,s62,s63,s64,v73x49,v66x42,v67x43,v68x44,s1,v70x45,v68x44,v72x47,v73x49,s74] H48⟩⟩⟩⟩⟩⟩ ⟨@bndC
 prog 80 [s8] H ⟨fun v74x50 H51 => k v74x50 H51⟩⟩⟩) := by kernel_rfl
-- strconv.Itoa
theorem d47 (a0 : Value) (H : AHeap) (k : Value → AHeap → Prop) : kbody prog Tryz.f47 [a0] H k = (@bndC prog 81 [a0] H ⟨fun v4x1 H2 => k v4x1 H2⟩) := by kernel_rfl
-- tocsin/crc.Of
theorem d49 (a0 : Value) (H : AHeap) (k : Value → AHeap → Prop) : kbody prog Tryz.f49 [a0] H k = (@bndE (aBuiltin prog H Builtin.append #[35,35] [(.slice none 0 0),a0]) ⟨fun v6x1 H2 => k v6x1 H2⟩) := by kernel_rfl
-- tocsin/tocsinref10.aggregate
theorem d50 (a0 : Value) (H : AHeap) (k : Value → AHeap → Prop) : kbody prog Tryz.f50 [a0] H k = (@bndL prog H 42 6 [(0,(.string { data := #[99,111,117,110,116] })),(1,(.string { data := #[115,117,109] })),(2,
 (.string { data := #[109,105,110] })),(3,(.string { data := #[109,97,120] })),(4,(.string { data := #[109,101,97,110] })),(5,(.string { data := #[108,97,115,116] }))] ⟨fun v3x1 H2 => @bnd (aIndexAddr prog
 H2 42 v3x1 a0) ⟨fun v5x3 => @bnd (aLoad prog H2 9 v5x3) ⟨fun v6x4 => k v6x4 H2⟩⟩⟩) := by kernel_rfl
-- tocsin/tocsinref08.Print
def L51x0 (n : Nat) (k : Value → AHeap → Prop) (sl : List Value) (H : AHeap) : Prop := kit prog (cl (cl (cr (cl (cr (cr (cb Tryz.f51))))))) n (kblk 0 (kseq prog (cr (cr (cr (cb Tryz.f51)))) (kfin prog Tryz.f51 k)))
 .normal sl H
def S51x0 (n0 : Nat) (k : Value → AHeap → Prop) (sl : List Value) (H : AHeap) : Prop := kseq prog (cr (cl (cl (cr (cl (cl (cr (cl (cr (cr (cb Tryz.f51))))))))))) (kblk 1 (kseq prog (cr (cr (cl (cl (cr (cl (cr (cr (cb
 Tryz.f51))))))))) (kit prog (cl (cl (cr (cl (cr (cr (cb Tryz.f51))))))) n0 (kblk 0 (kseq prog (cr (cr (cr (cb Tryz.f51)))) (kfin prog Tryz.f51 k)))))) .normal sl H
theorem d51 (a0 : Value) (H : AHeap) (k : Value → AHeap → Prop) : kbody prog Tryz.f51 [a0] H k = (∃ n,L51x0 n  k [a0,undef,(.string { data := #[] }),(.string { data := #[123] }),(.int .i64 0),undef,undef,undef,
 undef,undef,undef,undef,undef,undef,undef,undef,undef,undef,undef,undef,undef,undef,undef,undef,undef,undef,undef,undef,undef,undef,undef,undef,undef,undef,undef,undef,undef,undef] H) := by
 kernel_rfl
theorem L51x0q (n0 : Nat) (s0 s1 s2 s3 s4 s5 s6 s7 s8 s9 s10 s11 s12 s13 s14 s15 s16 s17 s18 s19 s20 s21 s22 s23 s24 s25 s26 s27 s28 s29 s30 s31 s32 s33 s34 s35 s36 s37 : Value) (H : AHeap) (k : Value → AHeap → Prop) : L51x0 (n0
 + 1) k [s0,s1,s2,s3,s4,s5,s6,s7,s8,s9,s10,s11,s12,s13,s14,s15,s16,s17,s18,s19,s20,s21,s22,s23,s24,s25,s26,s27,s28,s29,s30,s31,s32,s33,s34,s35,s36,s37] H = (@bnd (aLen prog H 35 s0) ⟨fun
 v7x1 => @bnd (aBin2 prog H .lss 3 (.tmp 5) (.tmp 7) s4 v7x1) ⟨fun v8x2 => @kifB v8x2 ⟨@bnd (aBin2 prog H .gtr 3 (.tmp 11) (.const (.int .i64 0)) s4 (.int .i64 0)) ⟨fun v12x3 => @kifB v12x3 ⟨@bnd (aBin2 prog H
 .add 9 (.tmp 13) (.const (.string { data := #[44] })) s3 (.string { data := #[44] })) ⟨fun v14x4 => S51x0 n0 k [s0,s1,s2,v14x4,s4,s4,s0,v7x1,v8x2,s9,s10,s4,v12x3,s3,v14x4,s15,s16,s17,s18,s19,s20,s21,s22,
 s23,s24,s25,s26,s27,s28,s29,s30,s31,s32,s33,s34,s35,s36,s37] H⟩⟩ ⟨S51x0 n0 k [s0,s1,s2,s3,s4,s4,s0,v7x1,v8x2,s9,s10,s4,v12x3,s13,s14,s15,s16,s17,s18,s19,s20,s21,s22,s23,s24,s25,s26,s27,
 s28,s29,s30,s31,s32,s33,s34,s35,s36,s37] H⟩⟩⟩ ⟨@bnd (aBin2 prog H .add 9 (.tmp 36) (.const (.string { data := #[125] })) s3 (.string { data := #[125] })) ⟨fun v37x5 => k v37x5 H⟩⟩⟩⟩) := by kernel_rfl
theorem S51x0q (n0 : Nat) (s0 s1 s2 s3 s4 s5 s6 s7 s8 s9 s10 s11 s12 s13 s14 s15 s16 s17 s18 s19 s20 s21 s22 s23 s24 s25 s26 s27 s28 s29 s30 s31 s32 s33 s34 s35 s36 s37 : Value) (H : AHeap) (k : Value → AHeap → Prop) : S51x0 n0 k
 [s0,s1,s2,s3,s4,s5,s6,s7,s8,s9,s10,s11,s12,s13,s14,s15,s16,s17,s18,s19,s20,s21,s22,s23,s24,s25,s26,s27,s28,s29,s30,s31,s32,s33,s34,s35,s36,s37] H = (@bnd (aIndexAddr prog H 35 s0 s4)
 ⟨fun v18x6 => @bnd (aFieldAddr prog H 75 v18x6 0) ⟨fun v19x7 => @bnd (aLoad prog H 9 v19x7) ⟨fun v20x8 => @bnd (aBin2 prog H .add 9 (.tmp 15) (.tmp 20) s3 v20x8) ⟨fun v21x9 => @bnd (aIndexAddr prog H 35 s0
 s4) ⟨fun v24x10 => @bnd (aFieldAddr prog H 75 v24x10 1) ⟨fun v25x11 => @bnd (aLoad prog H 5 v25x11) ⟨fun v26x12 => @bndD false H ⟨fun v27x13 H14 => ACalls prog 84 [v26x12] H v27x13 H14⟩ ⟨fun v27x13 H14 => @bnd
 (aBin2 prog H14 .add 9 (.tmp 21) (.tmp 27) v21x9 v27x13) ⟨fun v28x15 => @bnd (aIndexAddr prog H 35 s0 s4) ⟨fun v31x16 => @bnd (aFieldAddr prog H 75 v31x16 2) ⟨fun v32x17 => @bnd (aLoad prog H 9 v32x17) ⟨fun
 v33x18 => @bndD false H14 ⟨fun v34x19 H20 => ACalls prog 85 [v33x18] H14 v34x19 H20⟩ ⟨fun v34x19 H20 => @bnd (aBin2 prog H20 .add 9 (.tmp 28) (.tmp 34) v28x15 v34x19) ⟨fun v35x21 => @bnd (aBin2 prog H20 .add 3
 (.tmp 9) (.const (.int .i64 1)) s4 (.int .i64 1)) ⟨fun v10x22 => L51x0 n0  k [s0,s1,s2,v35x21,v10x22,s5,s6,s7,s8,s4,v10x22,s11,s12,s13,s14,s3,s0,s4,v18x6,v19x7,v20x8,v21x9,s0,s4,v24x10,v25x11,v26x12,
 v27x13,v28x15,s0,s4,v31x16,v32x17,v33x18,v34x19,v35x21,s36,s37] H20⟩⟩⟩⟩⟩⟩⟩⟩⟩⟩⟩⟩⟩⟩⟩) := by kernel_rfl
-- tocsin/tocsinref10.decimal
def L52x0 (n : Nat) (k : Value → AHeap → Prop) (sl : List Value) (H : AHeap) : Prop := kit prog (cl (cl (cl (cr (cr (cr (cb Tryz.f52))))))) n (kblk 0 (kseq prog (cr (cr (cr (cr (cb Tryz.f52))))) (kfin prog Tryz.f52
 k))) .normal sl H
theorem d52 (a0 : Value) (H : AHeap) (k : Value → AHeap → Prop) : kbody prog Tryz.f52 [a0] H k = (@bnd (aBin2 prog H .lss 3 (.tmp 4) (.const (.int .i64 0)) a0 (.int .i64 0)) ⟨fun v5x1 => @kifB v5x1 ⟨k (.string { data :=
 #[45] }) H⟩ ⟨∃ n,L52x0 n  k [a0,undef,(.string { data := #[] }),(.string { data := #[] }),a0,v5x1,undef,undef,undef,undef,undef,undef,undef,undef,undef,undef,undef,undef,undef,undef,undef,undef,undef]
 H⟩⟩) := by kernel_rfl
theorem L52x0q (n0 : Nat) (s0 s1 s2 s3 s4 s5 s6 s7 s8 s9 s10 s11 s12 s13 s14 s15 s16 s17 s18 s19 s20 s21 s22 : Value) (H : AHeap) (k : Value → AHeap → Prop) : L52x0 (n0 + 1) k [s0,s1,s2,s3,s4,s5,s6,s7,s8,s9,s10,s11,
 s12,s13,s14,s15,s16,s17,s18,s19,s20,s21,s22] H = (@bnd (aBin2 prog H .gtr 3 (.tmp 6) (.const (.int .i64 0)) s0 (.int .i64 0)) ⟨fun v7x2 => @bnd (gif v7x2 false ((some s3)) undef) ⟨fun v9x3 => @bnd (gif v7x2 false
 (aBin2 prog H .eql 9 (.tmp 9) (.const (.string { data := #[] })) v9x3 (.string { data := #[] })) undef) ⟨fun v10x4 => @bnd (pickV v7x2 (.bool true) v10x4) ⟨fun v11x5 => @kifB v11x5 ⟨@bnd (aBin2 prog H .rem 3 (.tmp 12)
 (.const (.int .i64 10)) s0 (.int .i64 10)) ⟨fun v13x6 => @bnd (aBin2 prog H .add 3 (.const (.int .i64 48)) (.tmp 13) (.int .i64 48) v13x6) ⟨fun v14x7 => @bnd (convV prog H 3 5 v14x7) ⟨fun v15x8 => @bndL prog H 55
 1 [(0,v15x8)] ⟨fun v16x9 H10 => @bnd (convV prog H10 55 9 v16x9) ⟨fun v17x11 => @bnd (aBin2 prog H10 .add 9 (.tmp 17) (.tmp 18) v17x11 s3) ⟨fun v19x12 => @bnd (aBin2 prog H10 .quo 3 (.tmp 20) (.const (.int .i64
 10)) s0 (.int .i64 10)) ⟨fun v21x13 => L52x0 n0  k [v21x13,s1,s2,v19x12,s4,s5,s0,v7x2,v7x2,v9x3,v10x4,v11x5,s0,v13x6,v14x7,v15x8,v16x9,v17x11,s3,v19x12,s0,v21x13,s22] H10⟩⟩⟩⟩⟩⟩⟩⟩ ⟨k s3 H⟩⟩⟩⟩⟩) := by
 kernel_rfl
-- tocsin/tocsinref10.compare
theorem d53 (a0 : Value) (H : AHeap) (k : Value → AHeap → Prop) : kbody prog Tryz.f53 [a0] H k = (@bndL prog H 42 6 [(0,(.string { data := #[60] })),(1,(.string { data := #[60,61] })),(2,(.string { data := #[62]
 })),(3,(.string { data := #[62,61] })),(4,(.string { data := #[61,61] })),(5,(.string { data := #[33,61] }))] ⟨fun v3x1 H2 => @bnd (aIndexAddr prog H2 42 v3x1 a0) ⟨fun v5x3 => @bnd (aLoad prog H2 9 v5x3) ⟨fun
 v6x4 => k v6x4 H2⟩⟩⟩) := by kernel_rfl
-- tocsin/tocsinref01.Print
def L54x0 (n : Nat) (k : Value → AHeap → Prop) (sl : List Value) (H : AHeap) : Prop := kit prog (cl (cl (cl (cr (cr (cr (cr (cr (cb Tryz.f54))))))))) n (kblk 0 (kseq prog (cr (cr (cr (cr (cr (cr (cb Tryz.f54)))))))
 (kfin prog Tryz.f54 k))) .normal sl H
def L54x1 (n : Nat) (k : Value → AHeap → Prop) (sl : List Value) (H : AHeap) : Prop := kit prog (cl (cl (cr (cl (cr (cr (cr (cr (cr (cr (cr (cr (cr (cb Tryz.f54)))))))))))))) n (kblk 2 (kseq prog (cr (cr (cr (cr (cr (cr
 (cr (cr (cr (cr (cb Tryz.f54))))))))))) (kfin prog Tryz.f54 k))) .normal sl H
theorem d54 (a0 : Value) (H : AHeap) (k : Value → AHeap → Prop) : kbody prog Tryz.f54 [a0] H k = (@bndC prog 86 [a0] H ⟨fun v8x1 H2 => @bnd (aBin2 prog H2 .lss 2 (.tmp 9) (.const (.int .i64 0)) v8x1 (.int .i64 0))
 ⟨fun v10x3 => @kifB v10x3 ⟨@bnd (unV prog .neg v8x1) ⟨fun v12x4 => @bndC prog 54 [v12x4] H2 ⟨fun v13x5 H6 => @bnd (aBin2 prog H6 .add 9 (.const (.string { data := #[45] })) (.tmp 13) (.string { data := #[45] })
 v13x5) ⟨fun v14x7 => k v14x7 H6⟩⟩⟩⟩ ⟨@bnd (aBin2 prog H2 .quo 2 (.tmp 15) (.const (.int .i64 1000)) v8x1 (.int .i64 1000)) ⟨fun v16x8 => ∃ n,L54x0 n  k [v8x1,undef,(.string { data := #[] }),(.string { data := #[] }),
 v16x8,undef,undef,a0,v8x1,v8x1,v10x3,undef,undef,undef,undef,v8x1,v16x8,undef,undef,undef,undef,undef,undef,undef,undef,undef,undef,undef,undef,undef,undef,undef,undef,undef,undef,undef,undef,
 undef,undef,undef,undef,undef,undef,undef,undef,undef,undef,undef,undef,undef,undef,undef,undef,undef,undef,undef,undef] H2⟩⟩⟩⟩) := by kernel_rfl
theorem L54x0q (n0 : Nat) (s0 s1 s2 s3 s4 s5 s6 s7 s8 s9 s10 s11 s12 s13 s14 s15 s16 s17 s18 s19 s20 s21 s22 s23 s24 s25 s26 s27 s28 s29 s30 s31 s32 s33 s34 s35 s36 s37 s38 s39 s40 s41 s42 s43 s44 s45 s46 s47 s48 s49 s50 s51 s52
 s53 s54 s55 s56 : Value) (H : AHeap) (k : Value → AHeap → Prop) : L54x0 (n0 + 1) k [s0,s1,s2,s3,s4,s5,s6,s7,s8,s9,s10,s11,s12,s13,s14,s15,s16,s17,s18,s19,s20,s21,s22,s23,s24,s25,s26,s27,s28,s29,
 s30,s31,s32,s33,s34,s35,s36,s37,s38,s39,s40,s41,s42,s43,s44,s45,s46,s47,s48,s49,s50,s51,s52,s53,s54,s55,s56] H = (@bnd (aBin2 prog H .gtr 2 (.tmp 17) (.const (.int .i64 0)) s4 (.int .i64 0)) ⟨fun
 v18x9 => @bnd (gif v18x9 false ((some s3)) undef) ⟨fun v20x10 => @bnd (gif v18x9 false (aBin2 prog H .eql 9 (.tmp 20) (.const (.string { data := #[] })) v20x10 (.string { data := #[] })) undef) ⟨fun v21x11 => @bnd (pickV
 v18x9 (.bool true) v21x11) ⟨fun v22x12 => @kifB v22x12 ⟨@bnd (aBin2 prog H .rem 2 (.tmp 23) (.const (.int .i64 10)) s4 (.int .i64 10)) ⟨fun v24x13 => @bnd (aBin2 prog H .add 2 (.const (.int .i64 48)) (.tmp 24) (.int
 .i64 48) v24x13) ⟨fun v25x14 => @bnd (convV prog H 2 5 v25x14) ⟨fun v26x15 => @bndL prog H 55 1 [(0,v26x15)] ⟨fun v27x16 H17 => @bnd (convV prog H17 55 9 v27x16) ⟨fun v28x18 => @bnd (aBin2 prog H17 .add 9
 (.tmp 28) (.tmp 29) v28x18 s3) ⟨fun v30x19 => @bnd (aBin2 prog H17 .quo 2 (.tmp 31) (.const (.int .i64 10)) s4 (.int .i64 10)) ⟨fun v32x20 => L54x0 n0  k [s0,s1,s2,v30x19,v32x20,s5,s6,s7,s8,s9,s10,s11,s12,s13,
 s14,s15,s16,s4,v18x9,v18x9,v20x10,v21x11,v22x12,s4,v24x13,v25x14,v26x15,v27x16,v28x18,s3,v30x19,s4,v32x20,s33,s34,s35,s36,s37,s38,s39,s40,s41,s42,s43,s44,s45,s46,s47,s48,s49,s50,s51,s52,
 s53,s54,s55,s56] H17⟩⟩⟩⟩⟩⟩⟩⟩ ⟨@bnd (aBin2 prog H .rem 2 (.tmp 33) (.const (.int .i64 1000)) s0 (.int .i64 1000)) ⟨fun v34x21 => @bnd (aBin2 prog H .eql 2 (.tmp 35) (.const (.int .i64 0)) v34x21 (.int .i64 0)) ⟨fun
 v36x22 => @kifB v36x22 ⟨k s3 H⟩ ⟨@bnd (aBin2 prog H .add 9 (.tmp 38) (.const (.string { data := #[46] })) s3 (.string { data := #[46] })) ⟨fun v39x23 => ∃ n,L54x1 n  k [s0,s1,s2,v39x23,s4,v34x21,(.int .i64 100),s7,
 s8,s9,s10,s11,s12,s13,s14,s15,s16,s4,v18x9,v18x9,v20x10,v21x11,v22x12,s23,s24,s25,s26,s27,s28,s29,s30,s31,s32,s0,v34x21,v34x21,v36x22,s37,s3,v39x23,s40,s41,s42,s43,s44,s45,s46,s47,s48,
 s49,s50,s51,s52,s53,s54,s55,s56] H⟩⟩⟩⟩⟩⟩⟩⟩⟩) := by kernel_rfl
theorem L54x1q (n1 : Nat) (s0 s1 s2 s3 s4 s5 s6 s7 s8 s9 s10 s11 s12 s13 s14 s15 s16 s17 s18 s19 s20 s21 s22 s23 s24 s25 s26 s27 s28 s29 s30 s31 s32 s33 s34 s35 s36 s37 s38 s39 s40 s41 s42 s43 s44 s45 s46 s47 s48 s49 s50 s51 s52
 s53 s54 s55 s56 : Value) (H : AHeap) (k : Value → AHeap → Prop) : L54x1 (n1 + 1) k [s0,s1,s2,s3,s4,s5,s6,s7,s8,s9,s10,s11,s12,s13,s14,s15,s16,s17,s18,s19,s20,s21,s22,s23,s24,s25,s26,s27,s28,s29,
 s30,s31,s32,s33,s34,s35,s36,s37,s38,s39,s40,s41,s42,s43,s44,s45,s46,s47,s48,s49,s50,s51,s52,s53,s54,s55,s56] H = (@bnd (aBin2 prog H .gtr 2 (.tmp 40) (.const (.int .i64 0)) s5 (.int .i64 0)) ⟨fun
 v41x24 => @kifB v41x24 ⟨@bnd (aBin2 prog H .quo 2 (.tmp 45) (.tmp 46) s5 s6) ⟨fun v47x25 => @bnd (aBin2 prog H .add 2 (.const (.int .i64 48)) (.tmp 47) (.int .i64 48) v47x25) ⟨fun v48x26 => @bnd (convV prog H 2 5
 v48x26) ⟨fun v49x27 => @bndL prog H 55 1 [(0,v49x27)] ⟨fun v50x28 H29 => @bnd (convV prog H29 55 9 v50x28) ⟨fun v51x30 => @bnd (aBin2 prog H29 .add 9 (.tmp 44) (.tmp 51) s3 v51x30) ⟨fun v52x31 => @bnd (aBin2
 prog H29 .rem 2 (.tmp 53) (.tmp 54) s5 s6) ⟨fun v55x32 => @bnd (aBin2 prog H29 .quo 2 (.tmp 42) (.const (.int .i64 10)) s6 (.int .i64 10)) ⟨fun v43x33 => L54x1 n1  k [s0,s1,s2,v52x31,s4,v55x32,v43x33,s7,s8,
 s9,s10,s11,s12,s13,s14,s15,s16,s17,s18,s19,s20,s21,s22,s23,s24,s25,s26,s27,s28,s29,s30,s31,s32,s33,s34,s35,s36,s37,s38,s39,s5,v41x24,s6,v43x33,s3,s5,s6,v47x25,v48x26,v49x27,v50x28,
 v51x30,v52x31,s5,s6,v55x32,s56] H29⟩⟩⟩⟩⟩⟩⟩⟩⟩ ⟨k s3 H⟩⟩) := by kernel_rfl
-- tocsin/tocsinref10.side
theorem d55 (a0 a1 a2 a3 : Value) (H : AHeap) (k : Value → AHeap → Prop) : kbody prog Tryz.f55 [a0,a1,a2,a3] H k = (@kifB a3 ⟨@bnd (aIndexAddr prog H 42 a1 a2) ⟨fun v12x1 => @bnd (aLoad prog H 9 v12x1) ⟨fun
 v13x2 => @bnd (aBin2 prog H .add 9 (.const (.string { data := #[40] })) (.tmp 13) (.string { data := #[40] }) v13x2) ⟨fun v14x3 => @bnd (aBin2 prog H .add 9 (.tmp 14) (.const (.string { data := #[41] })) v14x3
 (.string { data := #[41] })) ⟨fun v15x4 => k v15x4 H⟩⟩⟩⟩⟩ ⟨@bnd (aIndexAddr prog H 42 a1 a2) ⟨fun v18x5 => @bnd (aLoad prog H 9 v18x5) ⟨fun v19x6 => k v19x6 H⟩⟩⟩) := by kernel_rfl
-- tocsin/tocsinref10.allTokens
def L56x0 (n : Nat) (k : Value → AHeap → Prop) (sl : List Value) (H : AHeap) : Prop := kit prog (cl (cl (cl (cr (cr (cr (cb Tryz.f56))))))) n (kblk 0 (kseq prog (cr (cr (cr (cr (cb Tryz.f56))))) (kfin prog Tryz.f56
 k))) .normal sl H
def L56x1 (n : Nat) (n0 : Nat) (k : Value → AHeap → Prop) (sl : List Value) (H : AHeap) : Prop := kit prog (cl (cl (cl (cr (cr (cl (cr (cl (cl (cl (cr (cr (cr (cb Tryz.f56)))))))))))))) n (kblk 2 (kseq prog (cr (cr (cr
 (cl (cr (cl (cl (cl (cr (cr (cr (cb Tryz.f56)))))))))))) (kblk 1 (kit prog (cl (cl (cl (cr (cr (cr (cb Tryz.f56))))))) n0 (kblk 0 (kseq prog (cr (cr (cr (cr (cb Tryz.f56))))) (kfin prog Tryz.f56 k))))))) .normal
 sl H
def S56x0 (n1 : Nat) (n0 : Nat) (k : Value → AHeap → Prop) (sl : List Value) (H : AHeap) : Prop := kseq prog (cr (cl (cr (cl (cl (cl (cr (cr (cl (cr (cl (cl (cl (cr (cr (cr (cb Tryz.f56))))))))))))))))) (kblk 3 (kit
 prog (cl (cl (cl (cr (cr (cl (cr (cl (cl (cl (cr (cr (cr (cb Tryz.f56)))))))))))))) n1 (kblk 2 (kseq prog (cr (cr (cr (cl (cr (cl (cl (cl (cr (cr (cr (cb Tryz.f56)))))))))))) (kblk 1 (kit prog (cl (cl (cl (cr (cr
 (cr (cb Tryz.f56))))))) n0 (kblk 0 (kseq prog (cr (cr (cr (cr (cb Tryz.f56))))) (kfin prog Tryz.f56 k))))))))) .normal sl H
theorem d56 (a0 : Value) (H : AHeap) (k : Value → AHeap → Prop) : kbody prog Tryz.f56 [a0] H k = (∃ n,L56x0 n  k [a0,undef,(.slice none 0 0),(.int .i64 0),(.int .i64 0),(.slice none 0 0),(.int .i64 0),undef,undef,
 undef,undef,undef,undef,undef,undef,undef,undef,undef,undef,undef,undef,undef,undef,undef,undef,undef,undef,undef,undef,undef,undef,undef,undef,undef,undef,undef,undef,undef,undef,undef,undef,
 undef,undef,undef,undef,undef,undef,undef,undef,undef,undef,undef,undef,undef,undef,undef,undef,undef,undef,undef,undef,undef,undef,undef,undef,undef] H) := by kernel_rfl
theorem L56x0q (n0 : Nat) (s0 s1 s2 s3 s4 s5 s6 s7 s8 s9 s10 s11 s12 s13 s14 s15 s16 s17 s18 s19 s20 s21 s22 s23 s24 s25 s26 s27 s28 s29 s30 s31 s32 s33 s34 s35 s36 s37 s38 s39 s40 s41 s42 s43 s44 s45 s46 s47 s48 s49 s50 s51 s52
 s53 s54 s55 s56 s57 s58 s59 s60 s61 s62 s63 s64 s65 : Value) (H : AHeap) (k : Value → AHeap → Prop) : L56x0 (n0 + 1) k [s0,s1,s2,s3,s4,s5,s6,s7,s8,s9,s10,s11,s12,s13,s14,s15,s16,s17,s18,s19,s20,s21,s22,
 s23,s24,s25,s26,s27,s28,s29,s30,s31,s32,s33,s34,s35,s36,s37,s38,s39,s40,s41,s42,s43,s44,s45,s46,s47,s48,s49,s50,s51,s52,s53,s54,s55,s56,s57,s58,s59,s60,s61,s62,s63,s64,s65] H = (@bnd
 (aLen prog H 9 s0) ⟨fun v14x1 => @bnd (aBin2 prog H .lss 3 (.tmp 12) (.tmp 14) s6 v14x1) ⟨fun v15x2 => @kifB v15x2 ⟨∃ n,L56x1 n n0 k [s0,s1,s2,s3,s4,s5,s6,s6,(.bool false),s9,s10,s11,s6,s0,v14x1,v15x2,
 s6,s17,s18,s19,s20,s21,s22,s23,s24,s25,s26,s27,s28,s29,s30,s31,s32,s33,s34,s35,s36,s37,s38,s39,s40,s41,s42,s43,s44,s45,s46,s47,s48,s49,s50,s51,s52,s53,s54,s55,s56,s57,s58,s59,s60,
 s61,s62,s63,s64,s65] H⟩ ⟨k (.tuple #[s5,(.int .i64 0),(.int .i64 0)]) H⟩⟩⟩) := by kernel_rfl
theorem L56x1q (n1 : Nat) (n0 : Nat) (s0 s1 s2 s3 s4 s5 s6 s7 s8 s9 s10 s11 s12 s13 s14 s15 s16 s17 s18 s19 s20 s21 s22 s23 s24 s25 s26 s27 s28 s29 s30 s31 s32 s33 s34 s35 s36 s37 s38 s39 s40 s41 s42 s43 s44 s45 s46 s47 s48 s49
 s50 s51 s52 s53 s54 s55 s56 s57 s58 s59 s60 s61 s62 s63 s64 s65 : Value) (H : AHeap) (k : Value → AHeap → Prop) : L56x1 (n1 + 1) n0 k [s0,s1,s2,s3,s4,s5,s6,s7,s8,s9,s10,s11,s12,s13,s14,s15,s16,s17,s18,s19,
 s20,s21,s22,s23,s24,s25,s26,s27,s28,s29,s30,s31,s32,s33,s34,s35,s36,s37,s38,s39,s40,s41,s42,s43,s44,s45,s46,s47,s48,s49,s50,s51,s52,s53,s54,s55,s56,s57,s58,s59,s60,s61,s62,s63,s64,
 s65] H = (@bnd (aLen prog H 9 s0) ⟨fun v19x3 => @bnd (aBin2 prog H .lss 3 (.tmp 17) (.tmp 19) s7 v19x3) ⟨fun v20x4 => @bnd (gif v20x4 true ((some s8)) undef) ⟨fun v22x5 => @bnd (gif v20x4 true ((some v22x5)) undef)
 ⟨fun v23x6 => @bnd (gif v23x6 false ((some s0)) undef) ⟨fun v24x7 => @bnd (gif v23x6 false ((some s7)) undef) ⟨fun v25x8 => @bnd (gif v23x6 false (aIndex prog 9 v24x7 v25x8) undef) ⟨fun v26x9 => @bnd (gif v23x6 false
 (aBin2 prog H .neq 5 (.tmp 26) (.const (.int .u8 32)) v26x9 (.int .u8 32)) undef) ⟨fun v27x10 => @bnd (gif v20x4 true (pickV v23x6 (.bool true) v27x10) undef) ⟨fun v28x11 => @bnd (pickV v20x4 v28x11 (.bool false)) ⟨fun
 v29x12 => @kifB v29x12 ⟨@bnd (aIndex prog 9 s0 s7) ⟨fun v32x13 => @bnd (aBin2 prog H .eql 5 (.tmp 32) (.const (.int .u8 92)) v32x13 (.int .u8 92)) ⟨fun v33x14 => @kifB v33x14 ⟨@bnd (aBin2 prog H .add 3 (.tmp 34)
 (.const (.int .i64 1)) s7 (.int .i64 1)) ⟨fun v35x15 => S56x0 n1 n0 k [s0,s1,s2,s3,s4,s5,s6,v35x15,s8,s9,s10,s11,s12,s13,s14,s15,s16,s7,s0,v19x3,v20x4,v20x4,v22x5,v23x6,v24x7,v25x8,v26x9,v27x10,
 v28x11,v29x12,s0,s7,v32x13,v33x14,s7,v35x15,s36,s37,s38,s39,s40,s41,s42,s43,s44,s45,s46,s47,s48,s49,s50,s51,s52,s53,s54,s55,s56,s57,s58,s59,s60,s61,s62,s63,s64,s65] H⟩⟩ ⟨@bnd (aIndex
 prog 9 s0 s7) ⟨fun v38x16 => @bnd (aBin2 prog H .eql 5 (.tmp 38) (.const (.int .u8 34)) v38x16 (.int .u8 34)) ⟨fun v39x17 => @kifB v39x17 ⟨@bnd (unV prog .not s8) ⟨fun v41x18 => S56x0 n1 n0 k [s0,s1,s2,s3,s4,
 s5,s6,s7,v41x18,s9,s10,s11,s12,s13,s14,s15,s16,s7,s0,v19x3,v20x4,v20x4,v22x5,v23x6,v24x7,v25x8,v26x9,v27x10,v28x11,v29x12,s0,s7,v32x13,v33x14,s34,s35,s0,s7,v38x16,v39x17,s8,v41x18,s42,s43,
 s44,s45,s46,s47,s48,s49,s50,s51,s52,s53,s54,s55,s56,s57,s58,s59,s60,s61,s62,s63,s64,s65] H⟩⟩ ⟨S56x0 n1 n0 k [s0,s1,s2,s3,s4,s5,s6,s7,s8,s9,s10,s11,s12,s13,s14,s15,s16,s7,s0,v19x3,v20x4,
 v20x4,v22x5,v23x6,v24x7,v25x8,v26x9,v27x10,v28x11,v29x12,s0,s7,v32x13,v33x14,s34,s35,s0,s7,v38x16,v39x17,s40,s41,s42,s43,s44,s45,s46,s47,s48,s49,s50,s51,s52,s53,s54,s55,s56,s57,s58,s59,
 s60,s61,s62,s63,s64,s65] H⟩⟩⟩⟩⟩⟩⟩ ⟨@bnd (aLen prog H 9 s0) ⟨fun v46x19 => @bnd (aBin2 prog H .gtr 3 (.tmp 44) (.tmp 46) s7 v46x19) ⟨fun v47x20 => @kifB v47x20 ⟨k (.tuple #[(.slice none 0 0),(.int .i64 0),(.int
 .i64 1)]) H⟩ ⟨@bnd (aSliceOp prog H 9 s0 (some s6) (some s7)) ⟨fun v52x21 => @bndC prog 36 [v52x21] H ⟨fun v53x22 H23 => @bnd (tupV v53x22 0) ⟨fun v54x24 => @bnd (tupV v53x22 1) ⟨fun v55x25 => @bnd (tupV v53x22 2)
 ⟨fun v56x26 => @bnd (aBin2 prog H23 .neq 3 (.tmp 57) (.const (.int .i64 0)) v56x26 (.int .i64 0)) ⟨fun v58x27 => @kifB v58x27 ⟨k (.tuple #[(.slice none 0 0),(.int .i64 0),v56x26]) H23⟩ ⟨@bndE (aBuiltin prog H23
 Builtin.append #[64,64] [s5,v54x24]) ⟨fun v62x28 H29 => @bnd (aBin2 prog H29 .add 3 (.tmp 63) (.const (.int .i64 1)) s7 (.int .i64 1)) ⟨fun v64x30 => L56x0 n0  k [s0,s1,s2,s3,s4,v62x28,v64x30,s7,s8,v54x24,
 v55x25,v56x26,s12,s13,s14,s15,s16,s7,s0,v19x3,v20x4,v20x4,v22x5,v23x6,v24x7,v25x8,v26x9,v27x10,v28x11,v29x12,s30,s31,s32,s33,s34,s35,s36,s37,s38,s39,s40,s41,s42,s43,s7,s0,v46x19,v47x20,
 v53x22,s0,s6,s7,v52x21,v53x22,v54x24,v55x25,v56x26,v56x26,v58x27,s59,s5,v54x24,v62x28,s7,v64x30,s65] H29⟩⟩⟩⟩⟩⟩⟩⟩⟩⟩⟩⟩⟩⟩⟩⟩⟩⟩⟩⟩⟩⟩⟩) := by kernel_rfl
theorem S56x0q (n1 : Nat) (n0 : Nat) (s0 s1 s2 s3 s4 s5 s6 s7 s8 s9 s10 s11 s12 s13 s14 s15 s16 s17 s18 s19 s20 s21 s22 s23 s24 s25 s26 s27 s28 s29 s30 s31 s32 s33 s34 s35 s36 s37 s38 s39 s40 s41 s42 s43 s44 s45 s46 s47 s48 s49
 s50 s51 s52 s53 s54 s55 s56 s57 s58 s59 s60 s61 s62 s63 s64 s65 : Value) (H : AHeap) (k : Value → AHeap → Prop) : S56x0 n1 n0 k [s0,s1,s2,s3,s4,s5,s6,s7,s8,s9,s10,s11,s12,s13,s14,s15,s16,s17,s18,s19,s20,
 s21,s22,s23,s24,s25,s26,s27,s28,s29,s30,s31,s32,s33,s34,s35,s36,s37,s38,s39,s40,s41,s42,s43,s44,s45,s46,s47,s48,s49,s50,s51,s52,s53,s54,s55,s56,s57,s58,s59,s60,s61,s62,s63,s64,s65] H
 = (@bnd (aBin2 prog H .add 3 (.tmp 42) (.const (.int .i64 1)) s7 (.int .i64 1)) ⟨fun v43x31 => L56x1 n1 n0 k [s0,s1,s2,s3,s4,s5,s6,v43x31,s8,s9,s10,s11,s12,s13,s14,s15,s16,s17,s18,s19,s20,s21,s22,
 s23,s24,s25,s26,s27,s28,s29,s30,s31,s32,s33,s34,s35,s36,s37,s38,s39,s40,s41,s7,v43x31,s44,s45,s46,s47,s48,s49,s50,s51,s52,s53,s54,s55,s56,s57,s58,s59,s60,s61,s62,s63,s64,s65] H⟩) := by
 kernel_rfl
-- tocsin/tocsinref09.blank
theorem d61 (a0 : Value) (H : AHeap) (k : Value → AHeap → Prop) : kbody prog Tryz.f61 [a0] H k = (@bnd (aBin2 prog H .eql 5 (.tmp 3) (.const (.int .u8 32)) a0 (.int .u8 32)) ⟨fun v4x1 => @bnd (gif v4x1 false ((some a0))
 undef) ⟨fun v6x2 => @bnd (gif v4x1 false (aBin2 prog H .eql 5 (.tmp 6) (.const (.int .u8 9)) v6x2 (.int .u8 9)) undef) ⟨fun v7x3 => @bnd (pickV v4x1 (.bool true) v7x3) ⟨fun v8x4 => @bnd (gif v8x4 false ((some a0)) undef)
 ⟨fun v10x5 => @bnd (gif v8x4 false (aBin2 prog H .eql 5 (.tmp 10) (.const (.int .u8 10)) v10x5 (.int .u8 10)) undef) ⟨fun v11x6 => @bnd (pickV v8x4 (.bool true) v11x6) ⟨fun v12x7 => @bnd (gif v12x7 false ((some a0)) undef)
 ⟨fun v14x8 => @bnd (gif v12x7 false (aBin2 prog H .eql 5 (.tmp 14) (.const (.int .u8 13)) v14x8 (.int .u8 13)) undef) ⟨fun v15x9 => @bnd (pickV v12x7 (.bool true) v15x9) ⟨fun v16x10 => k v16x10 H⟩⟩⟩⟩⟩⟩⟩⟩⟩⟩) := by kernel_rfl
-- tocsin/tocsinref09.longest
def S62x0 (k : Value → AHeap → Prop) (sl : List Value) (H : AHeap) : Prop := kseq prog (cr (cr (cl (cr (cl (cr (cr (cb Tryz.f62)))))))) (kseq prog (cr (cr (cr (cb Tryz.f62)))) (kfin prog Tryz.f62 k)) .normal sl H
def L62x0 (n : Nat) (k : Value → AHeap → Prop) (sl : List Value) (H : AHeap) : Prop := kit prog (cl (cl (cr (cl (cr (cr (cr (cb Tryz.f62)))))))) n (kblk 0 (kseq prog (cr (cr (cr (cr (cb Tryz.f62))))) (kfin prog
 Tryz.f62 k))) .normal sl H
def S62x1 (n0 : Nat) (k : Value → AHeap → Prop) (sl : List Value) (H : AHeap) : Prop := kseq prog (cr (cr (cl (cl (cr (cl (cl (cr (cl (cr (cr (cr (cb Tryz.f62))))))))))))) (kblk 1 (kseq prog (cr (cr (cl (cl (cr (cl (cr
 (cr (cr (cb Tryz.f62)))))))))) (kit prog (cl (cl (cr (cl (cr (cr (cr (cb Tryz.f62)))))))) n0 (kblk 0 (kseq prog (cr (cr (cr (cr (cb Tryz.f62))))) (kfin prog Tryz.f62 k)))))) .normal sl H
def S62x2 (k : Value → AHeap → Prop) (sl : List Value) (H : AHeap) : Prop := kseq prog (cr (cr (cr (cr (cb Tryz.f62))))) (kfin prog Tryz.f62 k) .normal sl H
def B62x0 (n0 : Nat) (k : Value → AHeap → Prop) (sl : List Value) (H : AHeap) : Prop := (kseq prog (cr (cl (cl (cr (cl (cr (cr (cr (cb Tryz.f62))))))))) (kit prog (cl (cl (cr (cl (cr (cr (cr (cb Tryz.f62)))))))) n0
 (kblk 0 (kseq prog (cr (cr (cr (cr (cb Tryz.f62))))) (kfin prog Tryz.f62 k))))) (.exit 0) sl H
def B62x1 (n0 : Nat) (k : Value → AHeap → Prop) (sl : List Value) (H : AHeap) : Prop := (kblk 1 (kseq prog (cr (cr (cl (cl (cr (cl (cr (cr (cr (cb Tryz.f62)))))))))) (kit prog (cl (cl (cr (cl (cr (cr (cr (cb
 Tryz.f62)))))))) n0 (kblk 0 (kseq prog (cr (cr (cr (cr (cb Tryz.f62))))) (kfin prog Tryz.f62 k)))))) (.exit 0) sl H
theorem B62x0q (n0 : Nat) (sl : List Value) (H : AHeap) (k : Value → AHeap → Prop) : B62x0 n0 k sl H = S62x2  k sl H := by kernel_rfl
theorem B62x1q (n0 : Nat) (sl : List Value) (H : AHeap) (k : Value → AHeap → Prop) : B62x1 n0 k sl H = S62x2  k sl H := by kernel_rfl
theorem d62 (a0 a1 : Value) (H : AHeap) (k : Value → AHeap → Prop) : kbody prog Tryz.f62 [a0,a1] H k = (@bndE (aAlloc prog H 72) ⟨fun v4x1 H2 => @bndE (aAlloc prog H2 72) ⟨fun v5x3 H4 => @bnd (aIndex prog 9
 a0 a1) ⟨fun v13x5 => @bnd (aBin2 prog H4 .eql 5 (.tmp 13) (.const (.int .u8 34)) v13x5 (.int .u8 34)) ⟨fun v14x6 => @kifB v14x6 ⟨@bnd (aSliceOp prog H4 9 a0 (some a1) none) ⟨fun v18x7 => @bndC prog 91 [v18x7] H4
 ⟨fun v19x8 H9 => @bnd (tupV v19x8 0) ⟨fun v20x10 => @bnd (tupV v19x8 1) ⟨fun v21x11 => @bnd (aBin2 prog H9 .gtr 3 (.tmp 22) (.const (.int .i64 0)) v21x11 (.int .i64 0)) ⟨fun v23x12 => @bnd (gif v23x12 true ((some a0))
 undef) ⟨fun v25x13 => @bnd (gif v23x12 true ((some a1)) undef) ⟨fun v26x14 => @bnd (gif v23x12 true ((some a1)) undef) ⟨fun v27x15 => @bnd (gif v23x12 true ((some v21x11)) undef) ⟨fun v28x16 => @bnd (gif v23x12 true (aBin2
 prog H9 .add 3 (.tmp 27) (.tmp 28) v27x15 v28x16) undef) ⟨fun v29x17 => @bnd (gif v23x12 true (aSliceOp prog H9 9 v25x13 (some v26x14) (some v29x17)) undef) ⟨fun v30x18 => @bndG v23x12 true H9 ⟨fun v31x19 H20 =>
 ACalls prog 92 [v30x18] H9 v31x19 H20⟩ ⟨fun v31x19 H20 => @bnd (pickV v23x12 v31x19 (.bool false)) ⟨fun v32x21 => @kifB v32x21 ⟨@bnd (aBin2 prog H20 .add 3 (.tmp 35) (.tmp 36) a1 v21x11) ⟨fun v37x22 => @bnd (buildV
 prog 72 [(0,(.int .u8 3)),(1,v20x10),(2,a1),(3,v37x22)]) ⟨fun v38x23 => @bndS (aStore prog H20 72 v5x3 v38x23) ⟨fun _ H25 => S62x0  k [a0,a1,undef,undef,v4x1,v5x3,v20x10,v21x11,undef,undef,undef,a0,
 a1,v13x5,v14x6,v19x8,a0,a1,v18x7,v19x8,v20x10,v21x11,v21x11,v23x12,v23x12,v25x13,v26x14,v27x15,v28x16,v29x17,v30x18,v31x19,v32x21,v20x10,a1,a1,v21x11,v37x22,v38x23,undef,undef,undef,undef,undef,
 undef,undef,undef,undef,undef,undef,undef,undef,undef,undef,undef,undef,undef,undef,undef,undef,undef,undef,undef,undef,undef,undef,undef,undef,undef,undef,undef,undef,undef,undef,undef,undef,
 undef,undef,undef,undef,undef,undef,undef,undef,undef] H25⟩⟩⟩⟩ ⟨S62x0  k [a0,a1,undef,undef,v4x1,v5x3,v20x10,v21x11,undef,undef,undef,a0,a1,v13x5,v14x6,v19x8,a0,a1,v18x7,v19x8,v20x10,v21x11,v21x11,
 v23x12,v23x12,v25x13,v26x14,v27x15,v28x16,v29x17,v30x18,v31x19,v32x21,undef,undef,undef,undef,undef,undef,undef,undef,undef,undef,undef,undef,undef,undef,undef,undef,undef,undef,undef,undef,undef,
 undef,undef,undef,undef,undef,undef,undef,undef,undef,undef,undef,undef,undef,undef,undef,undef,undef,undef,undef,undef,undef,undef,undef,undef,undef,undef,undef,undef,undef,undef,undef]
 H20⟩⟩⟩⟩⟩⟩⟩⟩⟩⟩⟩⟩⟩⟩⟩ ⟨@bnd (aBin2 prog H4 .add 3 (.tmp 40) (.const (.int .i64 1)) a1 (.int .i64 1)) ⟨fun v41x26 => ∃ n,L62x0 n  k [a0,a1,undef,undef,v4x1,v5x3,undef,undef,v41x26,undef,undef,a0,a1,v13x5,v14x6,
 undef,undef,undef,undef,undef,undef,undef,undef,undef,undef,undef,undef,undef,undef,undef,undef,undef,undef,undef,undef,undef,undef,undef,undef,undef,a1,v41x26,undef,undef,undef,undef,undef,
 undef,undef,undef,undef,undef,undef,undef,undef,undef,undef,undef,undef,undef,undef,undef,undef,undef,undef,undef,undef,undef,undef,undef,undef,undef,undef,undef,undef,undef,undef,undef,undef,
 undef,undef,undef,undef,undef,undef] H4⟩⟩⟩⟩⟩⟩) := by kernel_rfl
theorem S62x0q (s0 s1 s2 s3 s4 s5 s6 s7 s8 s9 s10 s11 s12 s13 s14 s15 s16 s17 s18 s19 s20 s21 s22 s23 s24 s25 s26 s27 s28 s29 s30 s31 s32 s33 s34 s35 s36 s37 s38 s39 s40 s41 s42 s43 s44 s45 s46 s47 s48 s49 s50 s51 s52 s53 s54 s55
 s56 s57 s58 s59 s60 s61 s62 s63 s64 s65 s66 s67 s68 s69 s70 s71 s72 s73 s74 s75 s76 s77 s78 s79 s80 s81 s82 s83 s84 : Value) (H : AHeap) (k : Value → AHeap → Prop) : S62x0 k [s0,s1,s2,s3,s4,s5,s6,s7,s8,s9,s10,s11,
 s12,s13,s14,s15,s16,s17,s18,s19,s20,s21,s22,s23,s24,s25,s26,s27,s28,s29,s30,s31,s32,s33,s34,s35,s36,s37,s38,s39,s40,s41,s42,s43,s44,s45,s46,s47,s48,s49,s50,s51,s52,s53,s54,s55,s56,
 s57,s58,s59,s60,s61,s62,s63,s64,s65,s66,s67,s68,s69,s70,s71,s72,s73,s74,s75,s76,s77,s78,s79,s80,s81,s82,s83,s84] H = (@bnd (aLoad prog H 72 s5) ⟨fun v39x27 => @bndS (aStore prog H 72 s4
 v39x27) ⟨fun _ H29 => ∃ r30,aLoad prog H29 72 s4 = some r30 ∧ k r30 H29⟩⟩) := by kernel_rfl
theorem L62x0q (n0 : Nat) (s0 s1 s2 s3 s4 s5 s6 s7 s8 s9 s10 s11 s12 s13 s14 s15 s16 s17 s18 s19 s20 s21 s22 s23 s24 s25 s26 s27 s28 s29 s30 s31 s32 s33 s34 s35 s36 s37 s38 s39 s40 s41 s42 s43 s44 s45 s46 s47 s48 s49 s50 s51 s52
 s53 s54 s55 s56 s57 s58 s59 s60 s61 s62 s63 s64 s65 s66 s67 s68 s69 s70 s71 s72 s73 s74 s75 s76 s77 s78 s79 s80 s81 s82 s83 s84 : Value) (H : AHeap) (k : Value → AHeap → Prop) : L62x0 (n0 + 1) k [s0,s1,s2,s3,s4,s5,s6,s7,
 s8,s9,s10,s11,s12,s13,s14,s15,s16,s17,s18,s19,s20,s21,s22,s23,s24,s25,s26,s27,s28,s29,s30,s31,s32,s33,s34,s35,s36,s37,s38,s39,s40,s41,s42,s43,s44,s45,s46,s47,s48,s49,s50,s51,s52,s53,
 s54,s55,s56,s57,s58,s59,s60,s61,s62,s63,s64,s65,s66,s67,s68,s69,s70,s71,s72,s73,s74,s75,s76,s77,s78,s79,s80,s81,s82,s83,s84] H = (@bnd (aLen prog H 9 s0) ⟨fun v44x31 => @bnd (aBin2 prog H
 .leq 3 (.tmp 42) (.tmp 44) s8 v44x31) ⟨fun v45x32 => @kifB v45x32 ⟨@bnd (aSliceOp prog H 9 s0 (some s1) (some s8)) ⟨fun v52x33 => @bndC prog 93 [v52x33] H ⟨fun v53x34 H35 => @bnd (tupV v53x34 0) ⟨fun v54x36 => @bnd
 (tupV v53x34 1) ⟨fun v55x37 => @bnd (aBin2 prog H35 .gtr 5 (.tmp 56) (.const (.int .u8 0)) v54x36 (.int .u8 0)) ⟨fun v57x38 => @kifB v57x38 ⟨@bnd (buildV prog 72 [(0,v54x36),(1,v55x37),(2,s1),(3,s8)]) ⟨fun
 v62x39 => @bndS (aStore prog H35 72 s5 v62x39) ⟨fun _ H41 => S62x1 n0 k [s0,s1,s2,s3,s4,s5,s6,s7,s8,v54x36,v55x37,s11,s12,s13,s14,s15,s16,s17,s18,s19,s20,s21,s22,s23,s24,s25,s26,s27,s28,s29,
 s30,s31,s32,s33,s34,s35,s36,s37,s38,s39,s40,s41,s8,s0,v44x31,v45x32,s46,s47,v53x34,s0,s1,s8,v52x33,v53x34,v54x36,v55x37,v54x36,v57x38,v54x36,v55x37,s1,s8,v62x39,s63,s64,s65,s66,s67,s68,
 s69,s70,s71,s72,s73,s74,s75,s76,s77,s78,s79,s80,s81,s82,s83,s84] H41⟩⟩⟩ ⟨S62x1 n0 k [s0,s1,s2,s3,s4,s5,s6,s7,s8,v54x36,v55x37,s11,s12,s13,s14,s15,s16,s17,s18,s19,s20,s21,s22,s23,s24,s25,
 s26,s27,s28,s29,s30,s31,s32,s33,s34,s35,s36,s37,s38,s39,s40,s41,s8,s0,v44x31,v45x32,s46,s47,v53x34,s0,s1,s8,v52x33,v53x34,v54x36,v55x37,v54x36,v57x38,s58,s59,s60,s61,s62,s63,s64,s65,s66,
 s67,s68,s69,s70,s71,s72,s73,s74,s75,s76,s77,s78,s79,s80,s81,s82,s83,s84] H35⟩⟩⟩⟩⟩⟩⟩ ⟨B62x0 n0 k [s0,s1,s2,s3,s4,s5,s6,s7,s8,s9,s10,s11,s12,s13,s14,s15,s16,s17,s18,s19,s20,s21,s22,s23,
 s24,s25,s26,s27,s28,s29,s30,s31,s32,s33,s34,s35,s36,s37,s38,s39,s40,s41,s8,s0,v44x31,v45x32,s46,s47,s48,s49,s50,s51,s52,s53,s54,s55,s56,s57,s58,s59,s60,s61,s62,s63,s64,s65,s66,s67,
 s68,s69,s70,s71,s72,s73,s74,s75,s76,s77,s78,s79,s80,s81,s82,s83,s84] H⟩⟩⟩) := by kernel_rfl
theorem S62x1q (n0 : Nat) (s0 s1 s2 s3 s4 s5 s6 s7 s8 s9 s10 s11 s12 s13 s14 s15 s16 s17 s18 s19 s20 s21 s22 s23 s24 s25 s26 s27 s28 s29 s30 s31 s32 s33 s34 s35 s36 s37 s38 s39 s40 s41 s42 s43 s44 s45 s46 s47 s48 s49 s50 s51 s52
 s53 s54 s55 s56 s57 s58 s59 s60 s61 s62 s63 s64 s65 s66 s67 s68 s69 s70 s71 s72 s73 s74 s75 s76 s77 s78 s79 s80 s81 s82 s83 s84 : Value) (H : AHeap) (k : Value → AHeap → Prop) : S62x1 n0 k [s0,s1,s2,s3,s4,s5,s6,s7,s8,
 s9,s10,s11,s12,s13,s14,s15,s16,s17,s18,s19,s20,s21,s22,s23,s24,s25,s26,s27,s28,s29,s30,s31,s32,s33,s34,s35,s36,s37,s38,s39,s40,s41,s42,s43,s44,s45,s46,s47,s48,s49,s50,s51,s52,s53,
 s54,s55,s56,s57,s58,s59,s60,s61,s62,s63,s64,s65,s66,s67,s68,s69,s70,s71,s72,s73,s74,s75,s76,s77,s78,s79,s80,s81,s82,s83,s84] H = (@bnd (aFieldAddr prog H 72 s5 0) ⟨fun v63x42 => @bnd (aLoad
 prog H 5 v63x42) ⟨fun v64x43 => @bnd (aBin2 prog H .gtr 5 (.tmp 64) (.const (.int .u8 0)) v64x43 (.int .u8 0)) ⟨fun v65x44 => @bnd (gif v65x44 true ((some s8)) undef) ⟨fun v67x45 => @bnd (gif v65x44 true (aFieldAddr
 prog H 72 s5 3) undef) ⟨fun v68x46 => @bnd (gif v65x44 true (aLoad prog H 3 v68x46) undef) ⟨fun v69x47 => @bnd (gif v65x44 true (aBin2 prog H .add 3 (.tmp 69) (.const (.int .i64 1)) v69x47 (.int .i64 1)) undef)
 ⟨fun v70x48 => @bnd (gif v65x44 true (aBin2 prog H .gtr 3 (.tmp 67) (.tmp 70) v67x45 v70x48) undef) ⟨fun v71x49 => @bnd (pickV v65x44 v71x49 (.bool false)) ⟨fun v72x50 => @bnd (gif v72x50 false (aFieldAddr prog H 72
 s5 0) undef) ⟨fun v74x51 => @bnd (gif v72x50 false (aLoad prog H 5 v74x51) undef) ⟨fun v75x52 => @bnd (gif v72x50 false (aBin2 prog H .eql 5 (.tmp 75) (.const (.int .u8 0)) v75x52 (.int .u8 0)) undef) ⟨fun v76x53 =>
 @bnd (gif v72x50 false ((some v76x53)) undef) ⟨fun v77x54 => @bnd (gif v77x54 true ((some s8)) undef) ⟨fun v78x55 => @bnd (gif v77x54 true ((some s1)) undef) ⟨fun v79x56 => @bnd (gif v77x54 true (aBin2 prog H .add 3 (.tmp
 79) (.const (.int .i64 2)) v79x56 (.int .i64 2)) undef) ⟨fun v80x57 => @bnd (gif v77x54 true (aBin2 prog H .gtr 3 (.tmp 78) (.tmp 80) v78x55 v80x57) undef) ⟨fun v81x58 => @bnd (gif v72x50 false (pickV v77x54 v81x58 (.bool
 false)) undef) ⟨fun v82x59 => @bnd (pickV v72x50 (.bool true) v82x59) ⟨fun v83x60 => @kifB v83x60 ⟨B62x1 n0 k [s0,s1,s2,s3,s4,s5,s6,s7,s8,s9,s10,s11,s12,s13,s14,s15,s16,s17,s18,s19,s20,s21,s22,s23,s24,
 s25,s26,s27,s28,s29,s30,s31,s32,s33,s34,s35,s36,s37,s38,s39,s40,s41,s42,s43,s44,s45,s46,s47,s48,s49,s50,s51,s52,s53,s54,s55,s56,s57,s58,s59,s60,s61,s62,v63x42,v64x43,v65x44,v65x44,
 v67x45,v68x46,v69x47,v70x48,v71x49,v72x50,v72x50,v74x51,v75x52,v76x53,v77x54,v78x55,v79x56,v80x57,v81x58,v82x59,v83x60,s84] H⟩ ⟨@bnd (aBin2 prog H .add 3 (.tmp 46) (.const (.int .i64 1)) s8 (.int .i64 1))
 ⟨fun v47x61 => L62x0 n0  k [s0,s1,s2,s3,s4,s5,s6,s7,v47x61,s9,s10,s11,s12,s13,s14,s15,s16,s17,s18,s19,s20,s21,s22,s23,s24,s25,s26,s27,s28,s29,s30,s31,s32,s33,s34,s35,s36,s37,s38,s39,s40,
 s41,s42,s43,s44,s45,s8,v47x61,s48,s49,s50,s51,s52,s53,s54,s55,s56,s57,s58,s59,s60,s61,s62,v63x42,v64x43,v65x44,v65x44,v67x45,v68x46,v69x47,v70x48,v71x49,v72x50,v72x50,v74x51,v75x52,v76x53,
 v77x54,v78x55,v79x56,v80x57,v81x58,v82x59,v83x60,s84] H⟩⟩⟩⟩⟩⟩⟩⟩⟩⟩⟩⟩⟩⟩⟩⟩⟩⟩⟩⟩⟩) := by kernel_rfl
theorem S62x2q (s0 s1 s2 s3 s4 s5 s6 s7 s8 s9 s10 s11 s12 s13 s14 s15 s16 s17 s18 s19 s20 s21 s22 s23 s24 s25 s26 s27 s28 s29 s30 s31 s32 s33 s34 s35 s36 s37 s38 s39 s40 s41 s42 s43 s44 s45 s46 s47 s48 s49 s50 s51 s52 s53 s54 s55
 s56 s57 s58 s59 s60 s61 s62 s63 s64 s65 s66 s67 s68 s69 s70 s71 s72 s73 s74 s75 s76 s77 s78 s79 s80 s81 s82 s83 s84 : Value) (H : AHeap) (k : Value → AHeap → Prop) : S62x2 k [s0,s1,s2,s3,s4,s5,s6,s7,s8,s9,s10,s11,
 s12,s13,s14,s15,s16,s17,s18,s19,s20,s21,s22,s23,s24,s25,s26,s27,s28,s29,s30,s31,s32,s33,s34,s35,s36,s37,s38,s39,s40,s41,s42,s43,s44,s45,s46,s47,s48,s49,s50,s51,s52,s53,s54,s55,s56,
 s57,s58,s59,s60,s61,s62,s63,s64,s65,s66,s67,s68,s69,s70,s71,s72,s73,s74,s75,s76,s77,s78,s79,s80,s81,s82,s83,s84] H = (@bnd (aLoad prog H 72 s5) ⟨fun v84x62 => @bndS (aStore prog H 72 s4
 v84x62) ⟨fun _ H64 => ∃ r65,aLoad prog H64 72 s4 = some r65 ∧ k r65 H64⟩⟩) := by kernel_rfl
-- tocsin/tocsinref10.row
def L63x0 (n : Nat) (k : Value → AHeap → Prop) (sl : List Value) (H : AHeap) : Prop := kit prog (cl (cl (cl (cr (cr (cb Tryz.f63)))))) n (kblk 0 (kseq prog (cr (cr (cr (cb Tryz.f63)))) (kfin prog Tryz.f63 k)))
 .normal sl H
def S63x0 (n0 : Nat) (k : Value → AHeap → Prop) (sl : List Value) (H : AHeap) : Prop := kseq prog (cr (cr (cr (cr (cr (cl (cr (cl (cl (cl (cr (cr (cb Tryz.f63))))))))))))) (kblk 1 (kit prog (cl (cl (cl (cr (cr (cb
 Tryz.f63)))))) n0 (kblk 0 (kseq prog (cr (cr (cr (cb Tryz.f63)))) (kfin prog Tryz.f63 k))))) .normal sl H
theorem d63 (a0 a1 a2 a3 : Value) (H : AHeap) (k : Value → AHeap → Prop) : kbody prog Tryz.f63 [a0,a1,a2,a3] H k = (@bndC prog 94 [a0,a1,a2,a3] H ⟨fun v21x1 H2 => @bnd (tupV v21x1 0) ⟨fun v22x3 => @bnd (tupV v21x1
 1) ⟨fun v23x4 => ∃ n,L63x0 n  k [a0,a1,a2,a3,undef,undef,undef,undef,(.slice none 0 0),(.int .i64 0),v22x3,v23x4,undef,undef,undef,undef,v21x1,a0,a1,a2,a3,v21x1,v22x3,v23x4,undef,undef,undef,undef,
 undef,undef,undef,undef,undef,undef,undef,undef,undef,undef,undef,undef,undef,undef,undef,undef,undef,undef,undef,undef,undef,undef,undef,undef,undef,undef,undef,undef,undef,undef,undef,undef,
 undef,undef,undef,undef,undef,undef,undef,undef,undef] H2⟩⟩⟩) := by kernel_rfl
theorem L63x0q (n0 : Nat) (s0 s1 s2 s3 s4 s5 s6 s7 s8 s9 s10 s11 s12 s13 s14 s15 s16 s17 s18 s19 s20 s21 s22 s23 s24 s25 s26 s27 s28 s29 s30 s31 s32 s33 s34 s35 s36 s37 s38 s39 s40 s41 s42 s43 s44 s45 s46 s47 s48 s49 s50 s51 s52
 s53 s54 s55 s56 s57 s58 s59 s60 s61 s62 s63 s64 s65 s66 s67 s68 : Value) (H : AHeap) (k : Value → AHeap → Prop) : L63x0 (n0 + 1) k [s0,s1,s2,s3,s4,s5,s6,s7,s8,s9,s10,s11,s12,s13,s14,s15,s16,s17,s18,s19,s20,
 s21,s22,s23,s24,s25,s26,s27,s28,s29,s30,s31,s32,s33,s34,s35,s36,s37,s38,s39,s40,s41,s42,s43,s44,s45,s46,s47,s48,s49,s50,s51,s52,s53,s54,s55,s56,s57,s58,s59,s60,s61,s62,s63,s64,s65,
 s66,s67,s68] H = (@bnd (aBin2 prog H .geq 3 (.tmp 24) (.const (.int .i64 0)) s11 (.int .i64 0)) ⟨fun v25x5 => @bnd (gif v25x5 true ((some s0)) undef) ⟨fun v27x6 => @bnd (gif v25x5 true ((some s11)) undef) ⟨fun v28x7 =>
 @bnd (gif v25x5 true ((some s3)) undef) ⟨fun v29x8 => @bndG v25x5 true H ⟨fun v30x9 H10 => ACalls prog 95 [v27x6,v28x7,(.int .u8 1),v29x8] H v30x9 H10⟩ ⟨fun v30x9 H10 => @bnd (pickV v25x5 v30x9 (.bool false)) ⟨fun
 v31x11 => @kifB v31x11 ⟨@bnd (aLen prog H10 27 s10) ⟨fun v34x12 => @bnd (aBin2 prog H10 .add 3 (.tmp 32) (.tmp 34) s2 v34x12) ⟨fun v35x13 => @bnd (aBin2 prog H10 .sub 3 (.tmp 35) (.const (.int .i64 1)) v35x13
 (.int .i64 1)) ⟨fun v36x14 => @bnd (aBin2 prog H10 .add 3 (.tmp 39) (.const (.int .i64 1)) s11 (.int .i64 1)) ⟨fun v40x15 => @bnd (aLen prog H10 27 s10) ⟨fun v43x16 => @bnd (aBin2 prog H10 .add 3 (.tmp 41) (.tmp
 43) s2 v43x16) ⟨fun v44x17 => @bndC prog 94 [s0,v40x15,v44x17,s3] H10 ⟨fun v46x18 H19 => @bnd (tupV v46x18 0) ⟨fun v47x20 => @bnd (tupV v46x18 1) ⟨fun v48x21 => @bndE (aBuiltin prog H19 Builtin.append #[27,27]
 [s10,v47x20]) ⟨fun v51x22 H23 => @bnd (aLen prog H23 27 v51x22) ⟨fun v55x24 => @bnd (aBin2 prog H23 .add 3 (.tmp 53) (.tmp 55) s2 v55x24) ⟨fun v56x25 => @bnd (aBin2 prog H23 .sub 3 (.tmp 56) (.const (.int .i64
 1)) v56x25 (.int .i64 1)) ⟨fun v57x26 => @bnd (buildV prog 37 [(0,(.int .u8 2)),(6,v36x14),(7,v57x26)]) ⟨fun v58x27 => @bndE (aAlloc prog H23 37) ⟨fun v15x28 H29 => @bndS (aStore prog H29 37 v15x28 v58x27)
 ⟨fun _ H31 => @bnd (aBin2 prog H31 .eql 9 (.tmp 59) (.const (.string { data := #[97,110,100] })) s3 (.string { data := #[97,110,100] })) ⟨fun v60x32 => @kifB v60x32 ⟨@bnd (aFieldAddr prog H31 37 v15x28 0) ⟨fun
 v61x33 => @bndS (aStore prog H31 5 v61x33 (.int .u8 1)) ⟨fun _ H35 => S63x0 n0 k [s0,s1,s2,s3,s4,s5,s6,s7,s8,s9,v51x22,s11,v36x14,v47x20,v48x21,v15x28,s16,s17,s18,s19,s20,s21,s22,s23,s11,v25x5,
 v25x5,v27x6,v28x7,v29x8,v30x9,v31x11,s2,s10,v34x12,v35x13,v36x14,v46x18,s0,s11,v40x15,s2,s10,v43x16,v44x17,s3,v46x18,v47x20,v48x21,s10,v47x20,v51x22,v36x14,s2,v51x22,v55x24,v56x25,v57x26,v58x27,
 s3,v60x32,v61x33,s62,s63,s64,s65,s66,s67,s68] H35⟩⟩⟩ ⟨S63x0 n0 k [s0,s1,s2,s3,s4,s5,s6,s7,s8,s9,v51x22,s11,v36x14,v47x20,v48x21,v15x28,s16,s17,s18,s19,s20,s21,s22,s23,s11,v25x5,v25x5,v27x6,
 v28x7,v29x8,v30x9,v31x11,s2,s10,v34x12,v35x13,v36x14,v46x18,s0,s11,v40x15,s2,s10,v43x16,v44x17,s3,v46x18,v47x20,v48x21,s10,v47x20,v51x22,v36x14,s2,v51x22,v55x24,v56x25,v57x26,v58x27,s3,v60x32,
 s61,s62,s63,s64,s65,s66,s67,s68] H31⟩⟩⟩⟩⟩⟩⟩⟩⟩⟩⟩⟩⟩⟩⟩⟩⟩⟩⟩ ⟨k (.tuple #[s10,s11]) H10⟩⟩⟩⟩⟩⟩⟩) := by kernel_rfl
theorem S63x0q (n0 : Nat) (s0 s1 s2 s3 s4 s5 s6 s7 s8 s9 s10 s11 s12 s13 s14 s15 s16 s17 s18 s19 s20 s21 s22 s23 s24 s25 s26 s27 s28 s29 s30 s31 s32 s33 s34 s35 s36 s37 s38 s39 s40 s41 s42 s43 s44 s45 s46 s47 s48 s49 s50 s51 s52
 s53 s54 s55 s56 s57 s58 s59 s60 s61 s62 s63 s64 s65 s66 s67 s68 : Value) (H : AHeap) (k : Value → AHeap → Prop) : S63x0 n0 k [s0,s1,s2,s3,s4,s5,s6,s7,s8,s9,s10,s11,s12,s13,s14,s15,s16,s17,s18,s19,s20,s21,
 s22,s23,s24,s25,s26,s27,s28,s29,s30,s31,s32,s33,s34,s35,s36,s37,s38,s39,s40,s41,s42,s43,s44,s45,s46,s47,s48,s49,s50,s51,s52,s53,s54,s55,s56,s57,s58,s59,s60,s61,s62,s63,s64,s65,s66,
 s67,s68] H = (@bnd (aLoad prog H 37 s15) ⟨fun v63x36 => @bndL prog H 27 1 [(0,v63x36)] ⟨fun v64x37 H38 => @bndE (aBuiltin prog H38 Builtin.append #[27,27] [s10,v64x37]) ⟨fun v65x39 H40 => L63x0 n0  k [s0,s1,
 s2,s3,s4,s5,s6,s7,s8,s9,v65x39,s14,s12,s13,s14,s15,s16,s17,s18,s19,s20,s21,s22,s23,s24,s25,s26,s27,s28,s29,s30,s31,s32,s33,s34,s35,s36,s37,s38,s39,s40,s41,s42,s43,s44,s45,s46,s47,
 s48,s49,s50,s51,s52,s53,s54,s55,s56,s57,s58,s59,s60,s61,s10,v63x36,v64x37,v65x39,s14,s67,s68] H40⟩⟩⟩) := by kernel_rfl
-- tocsin/lex.Tell$1
end Go.Vi
namespace Go.Vi
open Go Go.Proofs Go.Proofs.Tryz
-- (*tocsin/expr.reader).comparison
theorem d71 (H : AHeap) (k : Value → AHeap → Prop) : kbody prog Tryz.f71 [] H k = (@bndL prog H 42 6 [(0,(.string { data := #[99,111,117,110,116] })),(1,(.string { data := #[115,117,109] })),(2,(.string {
 data := #[109,105,110] })),(3,(.string { data := #[109,97,120] })),(4,(.string { data := #[109,101,97,110] })),(5,(.string { data := #[108,97,115,116] }))] ⟨fun v1x1 H2 => k v1x1 H2⟩) := by kernel_rfl
-- tocsin/match.Print
def L72x0 (n : Nat) (k : Value → AHeap → Prop) (sl : List Value) (H : AHeap) : Prop := kit prog (cl (cl (cr (cl (cr (cr (cr (cb Tryz.f72)))))))) n (kblk 0 (kseq prog (cr (cr (cr (cr (cb Tryz.f72))))) (kfin prog
 Tryz.f72 k))) .normal sl H
def S72x0 (n0 : Nat) (k : Value → AHeap → Prop) (sl : List Value) (H : AHeap) : Prop := kseq prog (cr (cr (cr (cl (cl (cr (cr (cl (cl (cr (cl (cr (cr (cr (cb Tryz.f72))))))))))))))) (kblk 1 (kseq prog (cr (cr (cr (cl
 (cl (cr (cl (cr (cr (cr (cb Tryz.f72))))))))))) (kit prog (cl (cl (cr (cl (cr (cr (cr (cb Tryz.f72)))))))) n0 (kblk 0 (kseq prog (cr (cr (cr (cr (cb Tryz.f72))))) (kfin prog Tryz.f72 k)))))) .normal sl H
theorem d72 (a0 : Value) (H : AHeap) (k : Value → AHeap → Prop) : kbody prog Tryz.f72 [a0] H k = (@bndC prog 109 [] H ⟨fun v9x1 H2 => @bnd (aLen prog H2 35 a0) ⟨fun v11x3 => ∃ n,L72x0 n  k [a0,undef,(.string {
 data := #[] }),v9x1,(.slice none 0 0),undef,undef,undef,undef,v9x1,a0,v11x3,(.int .i64 0),undef,undef,undef,undef,undef,undef,undef,undef,undef,undef,undef,undef,undef,undef,undef,undef,undef,undef,
 undef,undef,undef,undef,undef,undef,undef,undef,undef,undef,undef,undef,undef] H2⟩⟩) := by kernel_rfl
theorem L72x0q (n0 : Nat) (s0 s1 s2 s3 s4 s5 s6 s7 s8 s9 s10 s11 s12 s13 s14 s15 s16 s17 s18 s19 s20 s21 s22 s23 s24 s25 s26 s27 s28 s29 s30 s31 s32 s33 s34 s35 s36 s37 s38 s39 s40 s41 s42 s43 : Value) (H : AHeap) (k : Value →
 AHeap → Prop) : L72x0 (n0 + 1) k [s0,s1,s2,s3,s4,s5,s6,s7,s8,s9,s10,s11,s12,s13,s14,s15,s16,s17,s18,s19,s20,s21,s22,s23,s24,s25,s26,s27,s28,s29,s30,s31,s32,s33,s34,s35,s36,s37,s38,s39,
 s40,s41,s42,s43] H = (@bnd (aBin2 prog H .lss 3 (.tmp 12) (.tmp 11) s12 s11) ⟨fun v13x4 => @kifB v13x4 ⟨@bnd (aIndexAddr prog H 35 s10 s12) ⟨fun v14x5 => @bnd (aLoad prog H 75 v14x5) ⟨fun v15x6 => @bndE
 (aAlloc prog H 75) ⟨fun v6x7 H8 => @bndS (aStore prog H8 75 v6x7 v15x6) ⟨fun _ H10 => @bnd (aFieldAddr prog H10 75 v6x7 1) ⟨fun v18x11 => @bnd (aLoad prog H10 5 v18x11) ⟨fun v19x12 => @bnd (aLookup prog
 H10 146 s3 v19x12 true) ⟨fun v20x13 => @bnd (tupV v20x13 0) ⟨fun v21x14 => @bnd (tupV v20x13 1) ⟨fun v22x15 => @bndE (aAlloc prog H10 150) ⟨fun v7x16 H17 => @bndS (aStore prog H17 150 v7x16 v21x14) ⟨fun _ H19 => @bnd
 (unV prog .not v22x15) ⟨fun v24x20 => @kifB v24x20 ⟨@bnd (aLookup prog H19 146 s3 (.int .u8 0) false) ⟨fun v26x21 => @bndS (aStore prog H19 150 v7x16 v26x21) ⟨fun _ H23 => S72x0 n0 k [s0,s1,s2,s3,s4,s5,
 v6x7,v7x16,v22x15,s9,s10,s11,s12,v13x4,v14x5,v15x6,v20x13,s3,v18x11,v19x12,v20x13,v21x14,v22x15,v22x15,v24x20,s3,v26x21,s27,s28,s29,s30,s31,s32,s33,s34,s35,s36,s37,s38,s39,s40,s41,s42,s43]
 H23⟩⟩⟩ ⟨S72x0 n0 k [s0,s1,s2,s3,s4,s5,v6x7,v7x16,v22x15,s9,s10,s11,s12,v13x4,v14x5,v15x6,v20x13,s3,v18x11,v19x12,v20x13,v21x14,v22x15,v22x15,v24x20,s25,s26,s27,s28,s29,s30,s31,s32,s33,s34,s35,
 s36,s37,s38,s39,s40,s41,s42,s43] H19⟩⟩⟩⟩⟩⟩⟩⟩⟩⟩⟩⟩⟩⟩ ⟨@bndC prog 46 [s4,(.string { data := #[44] })] H ⟨fun v41x24 H25 => @bndL prog H25 42 3 [(0,(.string { data := #[123] })),(1,v41x24),(2,(.string { data
 := #[125] }))] ⟨fun v42x26 H27 => @bndC prog 110 [v42x26] H27 ⟨fun v43x28 H29 => k v43x28 H29⟩⟩⟩⟩⟩) := by kernel_rfl
theorem S72x0q (n0 : Nat) (s0 s1 s2 s3 s4 s5 s6 s7 s8 s9 s10 s11 s12 s13 s14 s15 s16 s17 s18 s19 s20 s21 s22 s23 s24 s25 s26 s27 s28 s29 s30 s31 s32 s33 s34 s35 s36 s37 s38 s39 s40 s41 s42 s43 : Value) (H : AHeap) (k : Value →
 AHeap → Prop) : S72x0 n0 k [s0,s1,s2,s3,s4,s5,s6,s7,s8,s9,s10,s11,s12,s13,s14,s15,s16,s17,s18,s19,s20,s21,s22,s23,s24,s25,s26,s27,s28,s29,s30,s31,s32,s33,s34,s35,s36,s37,s38,s39,s40,s41,
 s42,s43] H = (@bnd (aFieldAddr prog H 75 s6 0) ⟨fun v28x30 => @bnd (aLoad prog H 9 v28x30) ⟨fun v29x31 => @bnd (aFieldAddr prog H 150 s7 0) ⟨fun v30x32 => @bnd (aLoad prog H 9 v30x32) ⟨fun v31x33 => @bnd
 (aFieldAddr prog H 75 s6 2) ⟨fun v32x34 => @bnd (aLoad prog H 9 v32x34) ⟨fun v33x35 => @bndD false H ⟨fun v34x36 H37 => ACalls prog 111 [v33x35] H v34x36 H37⟩ ⟨fun v34x36 H37 => @bndD true H37 ⟨fun v35x38 H39 =>
 sliceLit prog H37 42 3 [(0,v29x31),(1,v31x33),(2,v34x36)] v35x38 H39⟩ ⟨fun v35x38 H39 => @bndD true H39 ⟨fun v36x40 H41 => ACalls prog 110 [v35x38] H39 v36x40 H41⟩ ⟨fun v36x40 H41 => @bndD true H41 ⟨fun v37x42
 H43 => sliceLit prog H41 42 1 [(0,v36x40)] v37x42 H43⟩ ⟨fun v37x42 H43 => @bndD true H43 ⟨fun v38x44 H45 => aBuiltin prog H43 Builtin.append #[42,42] [s4,v37x42] = some (v38x44,H45)⟩ ⟨fun v38x44 H45 => @bnd (aBin2
 prog H45 .add 3 (.tmp 12) (.const (.int .i64 1)) s12 (.int .i64 1)) ⟨fun v39x46 => L72x0 n0  k [s0,s1,s2,s3,v38x44,s5,s6,s7,s8,s9,s10,s11,v39x46,s13,s14,s15,s16,s17,s18,s19,s20,s21,s22,s23,s24,s25,
 s26,s4,v28x30,v29x31,v30x32,v31x33,v32x34,v33x35,v34x36,v35x38,v36x40,v37x42,v38x44,v39x46,s40,s41,s42,s43] H45⟩⟩⟩⟩⟩⟩⟩⟩⟩⟩⟩⟩) := by kernel_rfl
-- tocsin/expr.compares
theorem d73 (H : AHeap) (k : Value → AHeap → Prop) : kbody prog Tryz.f73 [] H k = (@bndL prog H 42 6 [(0,(.string { data := #[60] })),(1,(.string { data := #[60,61] })),(2,(.string { data := #[62] })),(3,
 (.string { data := #[62,61] })),(4,(.string { data := #[61,61] })),(5,(.string { data := #[33,61] }))] ⟨fun v1x1 H2 => k v1x1 H2⟩) := by kernel_rfl
-- tocsin/fixed.Print
def S74x0 (k : Value → AHeap → Prop) (sl : List Value) (H : AHeap) : Prop := kseq prog (cr (cr (cr (cr (cb Tryz.f74))))) (kfin prog Tryz.f74 k) .normal sl H
def S74x1 (k : Value → AHeap → Prop) (sl : List Value) (H : AHeap) : Prop := kseq prog (cr (cr (cr (cr (cr (cr (cb Tryz.f74))))))) (kfin prog Tryz.f74 k) .normal sl H
theorem d74 (a0 : Value) (H : AHeap) (k : Value → AHeap → Prop) : kbody prog Tryz.f74 [a0] H k = (@bndC prog 112 [a0] H ⟨fun v7x1 H2 => @bnd (aBin2 prog H2 .lss 2 (.tmp 8) (.const (.int .i64 0)) v7x1 (.int .i64 0))
 ⟨fun v9x3 => @kifB v9x3 ⟨@bnd (unV prog .neg v7x1) ⟨fun v11x4 => S74x0  k [v11x4,undef,(.string { data := #[] }),(.string { data := #[45] }),undef,undef,a0,v7x1,v7x1,v9x3,v7x1,v11x4,undef,undef,undef,undef,
 undef,undef,undef,undef,undef,undef,undef,undef,undef,undef,undef,undef,undef,undef] H2⟩⟩ ⟨S74x0  k [v7x1,undef,(.string { data := #[] }),(.string { data := #[] }),undef,undef,a0,v7x1,v7x1,v9x3,undef,
 undef,undef,undef,undef,undef,undef,undef,undef,undef,undef,undef,undef,undef,undef,undef,undef,undef,undef,undef] H2⟩⟩⟩) := by kernel_rfl
theorem S74x0q (s0 s1 s2 s3 s4 s5 s6 s7 s8 s9 s10 s11 s12 s13 s14 s15 s16 s17 s18 s19 s20 s21 s22 s23 s24 s25 s26 s27 s28 s29 : Value) (H : AHeap) (k : Value → AHeap → Prop) : S74x0 k [s0,s1,s2,s3,s4,s5,s6,s7,s8,s9,s10,
 s11,s12,s13,s14,s15,s16,s17,s18,s19,s20,s21,s22,s23,s24,s25,s26,s27,s28,s29] H = (@bnd (aBin2 prog H .quo 2 (.tmp 13) (.const (.int .i64 1000)) s0 (.int .i64 1000)) ⟨fun v14x5 => @bndC prog 113
 [v14x5,(.int .i64 10)] H ⟨fun v15x6 H7 => @bnd (aBin2 prog H7 .add 9 (.tmp 12) (.tmp 15) s3 v15x6) ⟨fun v16x8 => @bnd (aBin2 prog H7 .rem 2 (.tmp 17) (.const (.int .i64 1000)) s0 (.int .i64 1000)) ⟨fun v18x9 => @bnd
 (aBin2 prog H7 .gtr 2 (.tmp 19) (.const (.int .i64 0)) v18x9 (.int .i64 0)) ⟨fun v20x10 => @kifB v20x10 ⟨@bnd (aBin2 prog H7 .add 2 (.const (.int .i64 1000)) (.tmp 22) (.int .i64 1000) v18x9) ⟨fun v23x11 => @bndC
 prog 113 [v23x11,(.int .i64 10)] H7 ⟨fun v24x12 H13 => @bnd (aSliceOp prog H13 9 v24x12 (some (.int .i64 1)) none) ⟨fun v25x14 => @bndC prog 114 [v25x14,(.string { data := #[48] })] H13 ⟨fun v26x15 H16 => @bnd
 (aBin2 prog H16 .add 9 (.const (.string { data := #[46] })) (.tmp 26) (.string { data := #[46] }) v26x15) ⟨fun v27x17 => @bnd (aBin2 prog H16 .add 9 (.tmp 21) (.tmp 27) v16x8 v27x17) ⟨fun v28x18 => S74x1  k [s0,s1,
 s2,s3,v28x18,v18x9,s6,s7,s8,s9,s10,s11,s3,s0,v14x5,v15x6,v16x8,s0,v18x9,v18x9,v20x10,v16x8,v18x9,v23x11,v24x12,v25x14,v26x15,v27x17,v28x18,s29] H16⟩⟩⟩⟩⟩⟩⟩ ⟨S74x1  k [s0,s1,s2,s3,v16x8,v18x9,s6,
 s7,s8,s9,s10,s11,s3,s0,v14x5,v15x6,v16x8,s0,v18x9,v18x9,v20x10,s21,s22,s23,s24,s25,s26,s27,s28,s29] H7⟩⟩⟩⟩⟩⟩) := by kernel_rfl
theorem S74x1q (s0 s1 s2 s3 s4 s5 s6 s7 s8 s9 s10 s11 s12 s13 s14 s15 s16 s17 s18 s19 s20 s21 s22 s23 s24 s25 s26 s27 s28 s29 : Value) (H : AHeap) (k : Value → AHeap → Prop) : S74x1 k [s0,s1,s2,s3,s4,s5,s6,s7,s8,s9,s10,
 s11,s12,s13,s14,s15,s16,s17,s18,s19,s20,s21,s22,s23,s24,s25,s26,s27,s28,s29] H = (k s4 H) := by kernel_rfl
-- tocsin/expr.strong
theorem d75 (a0 : Value) (H : AHeap) (k : Value → AHeap → Prop) : kbody prog Tryz.f75 [a0] H k = (@bndE (aNew H 37 a0) ⟨fun v1x1 H2 => @bndE (some (Value.map (some H2.length),H2 ++ [AObj.map []])) ⟨fun v3x3 H4 => @bndS
 (aUpdate prog H4 155 v3x3 (.int .u8 2) (.int .i64 0)) ⟨fun _ H6 => @bndS (aUpdate prog H6 155 v3x3 (.int .u8 1) (.int .i64 1)) ⟨fun _ H8 => @bndS (aUpdate prog H8 155 v3x3 (.int .u8 3) (.int .i64 2)) ⟨fun _ H10
 => @bndS (aUpdate prog H10 155 v3x3 (.int .u8 0) (.int .i64 3)) ⟨fun _ H12 => @bnd (aFieldAddr prog H12 37 v1x1 0) ⟨fun v5x13 => @bnd (aLoad prog H12 5 v5x13) ⟨fun v6x14 => @bnd (aLookup prog H12 155 v3x3
 v6x14 false) ⟨fun v7x15 => k v7x15 H12⟩⟩⟩⟩⟩⟩⟩⟩⟩) := by kernel_rfl
-- tocsin/expr.plain
theorem d76 (a0 : Value) (H : AHeap) (k : Value → AHeap → Prop) : kbody prog Tryz.f76 [a0] H k = (@bndE (aNew H 37 a0) ⟨fun v1x1 H2 => @bnd (aFieldAddr prog H2 37 v1x1 1) ⟨fun v3x3 => @bnd (aLoad prog H2 5 v3x3)
 ⟨fun v4x4 => @bnd (convV prog H2 5 3 v4x4) ⟨fun v5x5 => @bndD false H2 ⟨fun v6x6 H7 => ACalls prog 71 [] H2 v6x6 H7⟩ ⟨fun v6x6 H7 => @bnd (aLen prog H7 42 v6x6) ⟨fun v7x8 => @bnd (aBin2 prog H7 .lss 3 (.tmp
 5) (.tmp 7) v5x5 v7x8) ⟨fun v8x9 => @bnd (gif v8x9 true (aFieldAddr prog H7 37 v1x1 2) undef) ⟨fun v10x10 => @bnd (gif v8x9 true (aLoad prog H7 35 v10x10) undef) ⟨fun v11x11 => @bndD true H7 ⟨fun v12x12 H13 => gifp
 v8x9 true (ACalls prog 115 [v11x11] H7 v12x12 H13) (v12x12 = undef ∧ H13 = H7)⟩ ⟨fun v12x12 H13 => @bnd (pickV v8x9 v12x12 (.bool false)) ⟨fun v13x14 => @bnd (gif v13x14 true (aFieldAddr prog H13 37 v1x1 3) undef)
 ⟨fun v15x15 => @bnd (gif v13x14 true (aLoad prog H13 3 v15x15) undef) ⟨fun v16x16 => @bnd (gif v13x14 true (aBin2 prog H13 .geq 3 (.tmp 16) (.const (.int .i64 1)) v16x16 (.int .i64 1)) undef) ⟨fun v17x17 => @bnd
 (pickV v13x14 v17x17 (.bool false)) ⟨fun v18x18 => @bnd (gif v18x18 true (aFieldAddr prog H13 37 v1x1 3) undef) ⟨fun v20x19 => @bnd (gif v18x18 true (aLoad prog H13 3 v20x19) undef) ⟨fun v21x20 => @bnd (gif v18x18
 true (aBin2 prog H13 .leq 3 (.tmp 21) (.const (.int .i64 1000)) v21x20 (.int .i64 1000)) undef) ⟨fun v22x21 => @bnd (pickV v18x18 v22x21 (.bool false)) ⟨fun v23x22 => @bnd (gif v23x22 true (aFieldAddr prog H13 37 v1x1
 4) undef) ⟨fun v25x23 => @bnd (gif v23x22 true (aLoad prog H13 5 v25x23) undef) ⟨fun v26x24 => @bnd (gif v23x22 true (convV prog H13 5 3 v26x24) undef) ⟨fun v27x25 => @bndD false H13 ⟨fun v28x26 H27 => gifp v23x22
 true (ACalls prog 73 [] H13 v28x26 H27) (v28x26 = undef ∧ H27 = H13)⟩ ⟨fun v28x26 H27 => @bnd (gif v23x22 true (aLen prog H27 42 v28x26) undef) ⟨fun v29x28 => @bnd (gif v23x22 true (aBin2 prog H27 .lss 3 (.tmp
 27) (.tmp 29) v27x25 v29x28) undef) ⟨fun v30x29 => @bnd (pickV v23x22 v30x29 (.bool false)) ⟨fun v31x30 => @bnd (gif v31x30 true (aFieldAddr prog H27 37 v1x1 5) undef) ⟨fun v33x31 => @bnd (gif v31x30 true (aLoad prog
 H27 2 v33x31) undef) ⟨fun v34x32 => @bndD false H27 ⟨fun v35x33 H34 => gifp v31x30 true (ACalls prog 112 [v34x32] H27 v35x33 H34) (v35x33 = undef ∧ H34 = H27)⟩ ⟨fun v35x33 H34 => @bnd (gif v31x30 true (aFieldAddr prog
 H27 37 v1x1 5) undef) ⟨fun v36x35 => @bnd (gif v31x30 true (aLoad prog H27 2 v36x35) undef) ⟨fun v37x36 => @bnd (gif v31x30 true (aBin2 prog H34 .eql 2 (.tmp 35) (.tmp 37) v35x33 v37x36) undef) ⟨fun v38x37 => @bnd
 (pickV v31x30 v38x37 (.bool false)) ⟨fun v39x38 => @bnd (gif v39x38 true (aFieldAddr prog H34 37 v1x1 6) undef) ⟨fun v41x39 => @bnd (gif v39x38 true (aLoad prog H34 3 v41x39) undef) ⟨fun v42x40 => @bnd (gif v39x38
 true (aBin2 prog H34 .eql 3 (.tmp 42) (.const (.int .i64 0)) v42x40 (.int .i64 0)) undef) ⟨fun v43x41 => @bnd (pickV v39x38 v43x41 (.bool false)) ⟨fun v44x42 => @bnd (gif v44x42 true (aFieldAddr prog H34 37 v1x1 7)
 undef) ⟨fun v46x43 => @bnd (gif v44x42 true (aLoad prog H34 3 v46x43) undef) ⟨fun v47x44 => @bnd (gif v44x42 true (aBin2 prog H34 .eql 3 (.tmp 47) (.const (.int .i64 0)) v47x44 (.int .i64 0)) undef) ⟨fun v48x45 =>
 @bnd (pickV v44x42 v48x45 (.bool false)) ⟨fun v49x46 => k v49x46 H34⟩⟩⟩⟩⟩⟩⟩⟩⟩⟩⟩⟩⟩⟩⟩⟩⟩⟩⟩⟩⟩⟩⟩⟩⟩⟩⟩⟩⟩⟩⟩⟩⟩⟩⟩⟩⟩⟩⟩⟩⟩) := by kernel_rfl
-- tocsin/expr.void
theorem d77 (a0 : Value) (H : AHeap) (k : Value → AHeap → Prop) : kbody prog Tryz.f77 [a0] H k = (@bndE (aNew H 37 a0) ⟨fun v1x1 H2 => @bnd (aFieldAddr prog H2 37 v1x1 1) ⟨fun v3x3 => @bnd (aLoad prog H2 5 v3x3)
 ⟨fun v4x4 => @bnd (aBin2 prog H2 .eql 5 (.tmp 4) (.const (.int .u8 0)) v4x4 (.int .u8 0)) ⟨fun v5x5 => @bnd (gif v5x5 true (aFieldAddr prog H2 37 v1x1 2) undef) ⟨fun v7x6 => @bnd (gif v5x5 true (aLoad prog H2 35
 v7x6) undef) ⟨fun v8x7 => @bnd (gif v5x5 true (aLen prog H2 35 v8x7) undef) ⟨fun v9x8 => @bnd (gif v5x5 true (aBin2 prog H2 .eql 3 (.tmp 9) (.const (.int .i64 0)) v9x8 (.int .i64 0)) undef) ⟨fun v10x9 => @bnd (pickV
 v5x5 v10x9 (.bool false)) ⟨fun v11x10 => @bnd (gif v11x10 true (aFieldAddr prog H2 37 v1x1 3) undef) ⟨fun v13x11 => @bnd (gif v11x10 true (aLoad prog H2 3 v13x11) undef) ⟨fun v14x12 => @bnd (gif v11x10 true (aBin2
 prog H2 .eql 3 (.tmp 14) (.const (.int .i64 0)) v14x12 (.int .i64 0)) undef) ⟨fun v15x13 => @bnd (pickV v11x10 v15x13 (.bool false)) ⟨fun v16x14 => @bnd (gif v16x14 true (aFieldAddr prog H2 37 v1x1 4) undef) ⟨fun
 v18x15 => @bnd (gif v16x14 true (aLoad prog H2 5 v18x15) undef) ⟨fun v19x16 => @bnd (gif v16x14 true (aBin2 prog H2 .eql 5 (.tmp 19) (.const (.int .u8 0)) v19x16 (.int .u8 0)) undef) ⟨fun v20x17 => @bnd (pickV v16x14
 v20x17 (.bool false)) ⟨fun v21x18 => @bnd (gif v21x18 true (aFieldAddr prog H2 37 v1x1 5) undef) ⟨fun v23x19 => @bnd (gif v21x18 true (aLoad prog H2 2 v23x19) undef) ⟨fun v24x20 => @bnd (gif v21x18 true (aBin2
 prog H2 .eql 2 (.tmp 24) (.const (.int .i64 0)) v24x20 (.int .i64 0)) undef) ⟨fun v25x21 => @bnd (pickV v21x18 v25x21 (.bool false)) ⟨fun v26x22 => k v26x22 H2⟩⟩⟩⟩⟩⟩⟩⟩⟩⟩⟩⟩⟩⟩⟩⟩⟩⟩⟩⟩⟩) := by kernel_rfl
-- (*strings.Builder).Grow
def S78x0 (k : Value → AHeap → Prop) (sl : List Value) (H : AHeap) : Prop := kseq prog (cr (cr (cb Tryz.f78))) (kfin prog Tryz.f78 k) .normal sl H
theorem d78 (a0 a1 : Value) (H : AHeap) (k : Value → AHeap → Prop) : kbody prog Tryz.f78 [a0,a1] H k = (@bndC prog 116 [a0] H ⟨fun v5x1 H2 => @bnd (aBin2 prog H2 .lss 3 (.tmp 6) (.const (.int .i64 0)) a1 (.int
 .i64 0)) ⟨fun v7x3 => @kifB v7x3 ⟨@bndE (none) ⟨fun _ H5 => S78x0  k [a0,a1,undef,undef,a0,v5x1,a1,v7x3,(.iface 9 (.string { data := #[115,116,114,105,110,103,115,46,66,117,105,108,100,101,114,46,71,
 114,111,119,58,32,110,101,103,97,116,105,118,101,32,99,111,117,110,116] })),undef,undef,undef,undef,undef,undef,undef,undef,undef,undef,undef,undef,undef,undef,undef,undef] H5⟩⟩ ⟨S78x0  k [a0,
 a1,undef,undef,a0,v5x1,a1,v7x3,undef,undef,undef,undef,undef,undef,undef,undef,undef,undef,undef,undef,undef,undef,undef,undef,undef] H2⟩⟩⟩) := by kernel_rfl
theorem S78x0q (s0 s1 s2 s3 s4 s5 s6 s7 s8 s9 s10 s11 s12 s13 s14 s15 s16 s17 s18 s19 s20 s21 s22 s23 s24 : Value) (H : AHeap) (k : Value → AHeap → Prop) : S78x0 k [s0,s1,s2,s3,s4,s5,s6,s7,s8,s9,s10,s11,s12,s13,s14,
 s15,s16,s17,s18,s19,s20,s21,s22,s23,s24] H = (@bnd (nilV s0) ⟨fun v10x6 => @bnd (aFieldAddr prog H 116 v10x6 1) ⟨fun v11x7 => @bnd (aLoad prog H 55 v11x7) ⟨fun v12x8 => @bndD false H ⟨fun v13x9 H10 =>
 aBuiltin prog H Builtin.cap #[55] [v12x8] = some (v13x9,H10)⟩ ⟨fun v13x9 H10 => @bnd (nilV s0) ⟨fun v15x11 => @bnd (aFieldAddr prog H 116 v15x11 1) ⟨fun v16x12 => @bnd (aLoad prog H 55 v16x12) ⟨fun v17x13 =>
 @bnd (aLen prog H 55 v17x13) ⟨fun v18x14 => @bnd (aBin2 prog H10 .sub 3 (.tmp 13) (.tmp 18) v13x9 v18x14) ⟨fun v19x15 => @bnd (aBin2 prog H10 .lss 3 (.tmp 19) (.tmp 20) v19x15 s1) ⟨fun v21x16 => @kifB v21x16
 ⟨@bndC prog 117 [s0,s1] H10 ⟨fun _ H18 => k (.tuple #[]) H18⟩⟩ ⟨k (.tuple #[]) H10⟩⟩⟩⟩⟩⟩⟩⟩⟩⟩⟩) := by kernel_rfl
-- (*strings.Builder).WriteString
theorem d79 (a0 a1 : Value) (H : AHeap) (k : Value → AHeap → Prop) : kbody prog Tryz.f79 [a0,a1] H k = (@bndC prog 116 [a0] H ⟨fun _ H2 => @bnd (nilV a0) ⟨fun v10x3 => @bnd (aFieldAddr prog H2 116 v10x3 1) ⟨fun
 v11x4 => @bnd (aLoad prog H2 55 v11x4) ⟨fun v12x5 => @bndE (aBuiltin prog H2 Builtin.append #[55,9] [v12x5,a1]) ⟨fun v14x6 H7 => @bnd (nilV a0) ⟨fun v15x8 => @bnd (aFieldAddr prog H7 116 v15x8 1) ⟨fun v16x9 =>
 @bndS (aStore prog H7 55 v16x9 v14x6) ⟨fun _ H11 => @bnd (aLen prog H11 9 a1) ⟨fun v18x12 => k (.tuple #[v18x12,.nilIface]) H11⟩⟩⟩⟩⟩⟩⟩⟩⟩) := by kernel_rfl
-- (*strings.Builder).String
theorem d80 (a0 : Value) (H : AHeap) (k : Value → AHeap → Prop) : kbody prog Tryz.f80 [a0] H k = (@bnd (nilV a0) ⟨fun v4x1 => @bnd (aFieldAddr prog H 116 v4x1 1) ⟨fun v5x2 => @bnd (aLoad prog H 55 v5x2) ⟨fun v6x3
 => @bndD false H ⟨fun v7x4 H5 => aBuiltin prog H Builtin.unsafeSliceData #[55] [v6x3] = some (v7x4,H5)⟩ ⟨fun v7x4 H5 => @bnd (nilV a0) ⟨fun v9x6 => @bnd (aFieldAddr prog H 116 v9x6 1) ⟨fun v10x7 => @bnd (aLoad
 prog H 55 v10x7) ⟨fun v11x8 => @bnd (aLen prog H 55 v11x8) ⟨fun v12x9 => @bndD true H5 ⟨fun v13x10 H11 => aBuiltin prog H5 Builtin.unsafeString #[157,3] [v7x4,v12x9] = some (v13x10,H11)⟩ ⟨fun v13x10 H11 => k
 v13x10 H11⟩⟩⟩⟩⟩⟩⟩⟩⟩) := by kernel_rfl
-- internal/strconv.Itoa
theorem d81 (a0 : Value) (H : AHeap) (k : Value → AHeap → Prop) : kbody prog Tryz.f81 [a0] H k = (@bndC prog 118 [a0,(.int .i64 10)] H ⟨fun v4x1 H2 => k v4x1 H2⟩) := by kernel_rfl
-- tocsin/crc.row
theorem d84 (a0 : Value) (H : AHeap) (k : Value → AHeap → Prop) : kbody prog Tryz.f84 [a0] H k = (@bnd (aBin2 prog H .eql 5 (.tmp 3) (.const (.int .u8 1)) a0 (.int .u8 1)) ⟨fun v5x1 => @kifB v5x1 ⟨k (.string { data :=
 #[33,61] }) H⟩ ⟨@bnd (aBin2 prog H .eql 5 (.tmp 3) (.const (.int .u8 2)) a0 (.int .u8 2)) ⟨fun v7x2 => @kifB v7x2 ⟨k (.string { data := #[94,61] }) H⟩ ⟨k (.string { data := #[61] }) H⟩⟩⟩⟩) := by kernel_rfl
-- tocsin/tocsinref07.Quote
def L85x0 (n : Nat) (k : Value → AHeap → Prop) (sl : List Value) (H : AHeap) : Prop := kit prog (cl (cl (cr (cl (cr (cr (cb Tryz.f85))))))) n (kblk 0 (kseq prog (cr (cr (cr (cb Tryz.f85)))) (kfin prog Tryz.f85 k)))
 .normal sl H
def S85x0 (n0 : Nat) (k : Value → AHeap → Prop) (sl : List Value) (H : AHeap) : Prop := kseq prog (cr (cl (cl (cr (cl (cl (cr (cl (cr (cr (cb Tryz.f85))))))))))) (kblk 1 (kseq prog (cr (cr (cl (cl (cr (cl (cr (cr (cb
 Tryz.f85))))))))) (kit prog (cl (cl (cr (cl (cr (cr (cb Tryz.f85))))))) n0 (kblk 0 (kseq prog (cr (cr (cr (cb Tryz.f85)))) (kfin prog Tryz.f85 k)))))) .normal sl H
theorem d85 (a0 : Value) (H : AHeap) (k : Value → AHeap → Prop) : kbody prog Tryz.f85 [a0] H k = (∃ n,L85x0 n  k [a0,undef,(.string { data := #[] }),(.string { data := #[34] }),(.int .i64 0),undef,undef,undef,undef,
 undef,undef,undef,undef,undef,undef,undef,undef,undef,undef,undef,undef,undef,undef,undef,undef,undef,undef,undef,undef,undef,undef,undef] H) := by kernel_rfl
theorem L85x0q (n0 : Nat) (s0 s1 s2 s3 s4 s5 s6 s7 s8 s9 s10 s11 s12 s13 s14 s15 s16 s17 s18 s19 s20 s21 s22 s23 s24 s25 s26 s27 s28 s29 s30 s31 : Value) (H : AHeap) (k : Value → AHeap → Prop) : L85x0 (n0 + 1) k [s0,s1,s2,s3,
 s4,s5,s6,s7,s8,s9,s10,s11,s12,s13,s14,s15,s16,s17,s18,s19,s20,s21,s22,s23,s24,s25,s26,s27,s28,s29,s30,s31] H = (@bnd (aLen prog H 9 s0) ⟨fun v7x1 => @bnd (aBin2 prog H .lss 3 (.tmp 5) (.tmp
 7) s4 v7x1) ⟨fun v8x2 => @kifB v8x2 ⟨@bnd (aIndex prog 9 s0 s4) ⟨fun v13x3 => @bnd (aBin2 prog H .eql 5 (.tmp 13) (.const (.int .u8 34)) v13x3 (.int .u8 34)) ⟨fun v14x4 => @bnd (gif v14x4 false ((some s0)) undef) ⟨fun
 v16x5 => @bnd (gif v14x4 false ((some s4)) undef) ⟨fun v17x6 => @bnd (gif v14x4 false (aIndex prog 9 v16x5 v17x6) undef) ⟨fun v18x7 => @bnd (gif v14x4 false (aBin2 prog H .eql 5 (.tmp 18) (.const (.int .u8 92)) v18x7
 (.int .u8 92)) undef) ⟨fun v19x8 => @bnd (pickV v14x4 (.bool true) v19x8) ⟨fun v20x9 => @kifB v20x9 ⟨@bnd (aBin2 prog H .add 9 (.tmp 21) (.const (.string { data := #[92] })) s3 (.string { data := #[92] })) ⟨fun v22x10 =>
 S85x0 n0 k [s0,s1,s2,v22x10,s4,s4,s0,v7x1,v8x2,s9,s10,s0,s4,v13x3,v14x4,v14x4,v16x5,v17x6,v18x7,v19x8,v20x9,s3,v22x10,s23,s24,s25,s26,s27,s28,s29,s30,s31] H⟩⟩ ⟨S85x0 n0 k [s0,s1,s2,s3,s4,s4,
 s0,v7x1,v8x2,s9,s10,s0,s4,v13x3,v14x4,v14x4,v16x5,v17x6,v18x7,v19x8,v20x9,s21,s22,s23,s24,s25,s26,s27,s28,s29,s30,s31] H⟩⟩⟩⟩⟩⟩⟩⟩⟩ ⟨@bnd (aBin2 prog H .add 9 (.tmp 30) (.const (.string { data :=
 #[34] })) s3 (.string { data := #[34] })) ⟨fun v31x11 => k v31x11 H⟩⟩⟩⟩) := by kernel_rfl
theorem S85x0q (n0 : Nat) (s0 s1 s2 s3 s4 s5 s6 s7 s8 s9 s10 s11 s12 s13 s14 s15 s16 s17 s18 s19 s20 s21 s22 s23 s24 s25 s26 s27 s28 s29 s30 s31 : Value) (H : AHeap) (k : Value → AHeap → Prop) : S85x0 n0 k [s0,s1,s2,s3,s4,
 s5,s6,s7,s8,s9,s10,s11,s12,s13,s14,s15,s16,s17,s18,s19,s20,s21,s22,s23,s24,s25,s26,s27,s28,s29,s30,s31] H = (@bnd (aBin2 prog H .add 3 (.tmp 26) (.const (.int .i64 1)) s4 (.int .i64 1)) ⟨fun
 v27x12 => @bnd (aSliceOp prog H 9 s0 (some s4) (some v27x12)) ⟨fun v28x13 => @bnd (aBin2 prog H .add 9 (.tmp 23) (.tmp 28) s3 v28x13) ⟨fun v29x14 => @bnd (aBin2 prog H .add 3 (.tmp 9) (.const (.int .i64 1)) s4
 (.int .i64 1)) ⟨fun v10x15 => L85x0 n0  k [s0,s1,s2,v29x14,v10x15,s5,s6,s7,s8,s4,v10x15,s11,s12,s13,s14,s15,s16,s17,s18,s19,s20,s21,s22,s3,s0,s4,s4,v27x12,v28x13,v29x14,s30,s31] H⟩⟩⟩⟩) := by
 kernel_rfl
-- tocsin/tocsinref01.Sat
theorem d86 (a0 : Value) (H : AHeap) (k : Value → AHeap → Prop) : kbody prog Tryz.f86 [a0] H k = (@bnd (aBin2 prog H .gtr 2 (.tmp 3) (.const (.int .i64 4611686018427387903)) a0 (.int .i64 4611686018427387903)) ⟨fun v4x1
 => @kifB v4x1 ⟨k (.int .i64 4611686018427387903) H⟩ ⟨@bnd (aBin2 prog H .lss 2 (.tmp 5) (.const (.int .i64 (-4611686018427387903))) a0 (.int .i64 (-4611686018427387903))) ⟨fun v6x2 => @kifB v6x2 ⟨k (.int .i64
 (-4611686018427387903)) H⟩ ⟨k a0 H⟩⟩⟩⟩) := by kernel_rfl
-- tocsin/tocsinref07.Quoted
def L91x0 (n : Nat) (k : Value → AHeap → Prop) (sl : List Value) (H : AHeap) : Prop := kit prog (cl (cl (cr (cl (cr (cr (cr (cb Tryz.f91)))))))) n (kblk 0 (kseq prog (cr (cr (cr (cr (cb Tryz.f91))))) (kfin prog
 Tryz.f91 k))) .normal sl H
def S91x0 (n0 : Nat) (k : Value → AHeap → Prop) (sl : List Value) (H : AHeap) : Prop := kseq prog (cr (cr (cl (cl (cr (cl (cl (cr (cl (cr (cr (cr (cb Tryz.f91))))))))))))) (kblk 1 (kseq prog (cr (cr (cl (cl (cr (cl (cr
 (cr (cr (cb Tryz.f91)))))))))) (kit prog (cl (cl (cr (cl (cr (cr (cr (cb Tryz.f91)))))))) n0 (kblk 0 (kseq prog (cr (cr (cr (cr (cb Tryz.f91))))) (kfin prog Tryz.f91 k)))))) .normal sl H
theorem d91 (a0 : Value) (H : AHeap) (k : Value → AHeap → Prop) : kbody prog Tryz.f91 [a0] H k = (@bnd (aBin2 prog H .eql 9 (.tmp 6) (.const (.string { data := #[] })) a0 (.string { data := #[] })) ⟨fun v7x1 => @bnd
 (gif v7x1 false ((some a0)) undef) ⟨fun v9x2 => @bnd (gif v7x1 false (aIndex prog 9 v9x2 (.int .i64 0)) undef) ⟨fun v10x3 => @bnd (gif v7x1 false (aBin2 prog H .neq 5 (.tmp 10) (.const (.int .u8 34)) v10x3 (.int .u8
 34)) undef) ⟨fun v11x4 => @bnd (pickV v7x1 (.bool true) v11x4) ⟨fun v12x5 => @kifB v12x5 ⟨k (.tuple #[(.string { data := #[] }),(.int .i64 0)]) H⟩ ⟨∃ n,L91x0 n  k [a0,undef,(.string { data := #[] }),(.int .i64 0),(.string
 { data := #[] }),(.int .i64 1),a0,v7x1,v7x1,v9x2,v10x3,v11x4,v12x5,undef,undef,undef,undef,undef,undef,undef,undef,undef,undef,undef,undef,undef,undef,undef,undef,undef,undef,undef,undef,undef,
 undef,undef,undef,undef,undef,undef,undef,undef,undef,undef,undef,undef,undef,undef,undef,undef,undef,undef,undef,undef,undef] H⟩⟩⟩⟩⟩⟩) := by kernel_rfl
theorem L91x0q (n0 : Nat) (s0 s1 s2 s3 s4 s5 s6 s7 s8 s9 s10 s11 s12 s13 s14 s15 s16 s17 s18 s19 s20 s21 s22 s23 s24 s25 s26 s27 s28 s29 s30 s31 s32 s33 s34 s35 s36 s37 s38 s39 s40 s41 s42 s43 s44 s45 s46 s47 s48 s49 s50 s51 s52
 s53 s54 : Value) (H : AHeap) (k : Value → AHeap → Prop) : L91x0 (n0 + 1) k [s0,s1,s2,s3,s4,s5,s6,s7,s8,s9,s10,s11,s12,s13,s14,s15,s16,s17,s18,s19,s20,s21,s22,s23,s24,s25,s26,s27,s28,s29,s30,s31,
 s32,s33,s34,s35,s36,s37,s38,s39,s40,s41,s42,s43,s44,s45,s46,s47,s48,s49,s50,s51,s52,s53,s54] H = (@bnd (aLen prog H 9 s0) ⟨fun v15x6 => @bnd (aBin2 prog H .lss 3 (.tmp 13) (.tmp 15) s5 v15x6)
 ⟨fun v16x7 => @kifB v16x7 ⟨@bnd (aIndex prog 9 s0 s5) ⟨fun v21x8 => @bnd (aBin2 prog H .eql 5 (.tmp 21) (.const (.int .u8 34)) v21x8 (.int .u8 34)) ⟨fun v22x9 => @kifB v22x9 ⟨@bnd (aBin2 prog H .add 3 (.tmp 24)
 (.const (.int .i64 1)) s5 (.int .i64 1)) ⟨fun v25x10 => k (.tuple #[s4,v25x10]) H⟩⟩ ⟨@bnd (aIndex prog 9 s0 s5) ⟨fun v28x11 => @bnd (aBin2 prog H .eql 5 (.tmp 28) (.const (.int .u8 92)) v28x11 (.int .u8 92)) ⟨fun
 v29x12 => @kifB v29x12 ⟨@bnd (aBin2 prog H .add 3 (.tmp 30) (.const (.int .i64 1)) s5 (.int .i64 1)) ⟨fun v31x13 => @bnd (aLen prog H 9 s0) ⟨fun v34x14 => @bnd (aBin2 prog H .eql 3 (.tmp 32) (.tmp 34) v31x13
 v34x14) ⟨fun v35x15 => @bnd (gif v35x15 false ((some s0)) undef) ⟨fun v37x16 => @bnd (gif v35x15 false ((some v31x13)) undef) ⟨fun v38x17 => @bnd (gif v35x15 false (aIndex prog 9 v37x16 v38x17) undef) ⟨fun v39x18 => @bnd
 (gif v35x15 false (aBin2 prog H .neq 5 (.tmp 39) (.const (.int .u8 34)) v39x18 (.int .u8 34)) undef) ⟨fun v40x19 => @bnd (gif v35x15 false ((some v40x19)) undef) ⟨fun v41x20 => @bnd (gif v41x20 true ((some s0)) undef) ⟨fun
 v42x21 => @bnd (gif v41x20 true ((some v31x13)) undef) ⟨fun v43x22 => @bnd (gif v41x20 true (aIndex prog 9 v42x21 v43x22) undef) ⟨fun v44x23 => @bnd (gif v41x20 true (aBin2 prog H .neq 5 (.tmp 44) (.const (.int .u8
 92)) v44x23 (.int .u8 92)) undef) ⟨fun v45x24 => @bnd (gif v35x15 false (pickV v41x20 v45x24 (.bool false)) undef) ⟨fun v46x25 => @bnd (pickV v35x15 (.bool true) v46x25) ⟨fun v47x26 => @kifB v47x26 ⟨k (.tuple #[(.string { data
 := #[] }),(.int .i64 0)]) H⟩ ⟨S91x0 n0 k [s0,s1,s2,s3,s4,v31x13,s6,s7,s8,s9,s10,s11,s12,s5,s0,v15x6,v16x7,s17,s18,s0,s5,v21x8,v22x9,s23,s24,s25,s0,s5,v28x11,v29x12,s5,v31x13,v31x13,s0,v34x14,
 v35x15,v35x15,v37x16,v38x17,v39x18,v40x19,v41x20,v42x21,v43x22,v44x23,v45x24,v46x25,v47x26,s48,s49,s50,s51,s52,s53,s54] H⟩⟩⟩⟩⟩⟩⟩⟩⟩⟩⟩⟩⟩⟩⟩⟩ ⟨S91x0 n0 k [s0,s1,s2,s3,s4,s5,s6,s7,s8,s9,s10,s11,s12,
 s5,s0,v15x6,v16x7,s17,s18,s0,s5,v21x8,v22x9,s23,s24,s25,s0,s5,v28x11,v29x12,s30,s31,s32,s33,s34,s35,s36,s37,s38,s39,s40,s41,s42,s43,s44,s45,s46,s47,s48,s49,s50,s51,s52,s53,s54] H⟩⟩⟩⟩⟩⟩⟩
 ⟨k (.tuple #[(.string { data := #[] }),(.int .i64 0)]) H⟩⟩⟩) := by kernel_rfl
theorem S91x0q (n0 : Nat) (s0 s1 s2 s3 s4 s5 s6 s7 s8 s9 s10 s11 s12 s13 s14 s15 s16 s17 s18 s19 s20 s21 s22 s23 s24 s25 s26 s27 s28 s29 s30 s31 s32 s33 s34 s35 s36 s37 s38 s39 s40 s41 s42 s43 s44 s45 s46 s47 s48 s49 s50 s51 s52
 s53 s54 : Value) (H : AHeap) (k : Value → AHeap → Prop) : S91x0 n0 k [s0,s1,s2,s3,s4,s5,s6,s7,s8,s9,s10,s11,s12,s13,s14,s15,s16,s17,s18,s19,s20,s21,s22,s23,s24,s25,s26,s27,s28,s29,s30,s31,s32,
 s33,s34,s35,s36,s37,s38,s39,s40,s41,s42,s43,s44,s45,s46,s47,s48,s49,s50,s51,s52,s53,s54] H = (@bnd (aBin2 prog H .add 3 (.tmp 51) (.const (.int .i64 1)) s5 (.int .i64 1)) ⟨fun v52x27 => @bnd (aSliceOp
 prog H 9 s0 (some s5) (some v52x27)) ⟨fun v53x28 => @bnd (aBin2 prog H .add 9 (.tmp 48) (.tmp 53) s4 v53x28) ⟨fun v54x29 => @bnd (aBin2 prog H .add 3 (.tmp 17) (.const (.int .i64 1)) s5 (.int .i64 1)) ⟨fun v18x30
 => L91x0 n0  k [s0,s1,s2,s3,v54x29,v18x30,s6,s7,s8,s9,s10,s11,s12,s13,s14,s15,s16,s5,v18x30,s19,s20,s21,s22,s23,s24,s25,s26,s27,s28,s29,s30,s31,s32,s33,s34,s35,s36,s37,s38,s39,s40,s41,
 s42,s43,s44,s45,s46,s47,s4,s0,s5,s5,v52x27,v53x28,v54x29] H⟩⟩⟩⟩) := by kernel_rfl
-- tocsin/tocsinref07.Plain
def L92x0 (n : Nat) (k : Value → AHeap → Prop) (sl : List Value) (H : AHeap) : Prop := kit prog (cl (cl (cr (cl (cr (cb Tryz.f92)))))) n (kblk 0 (kseq prog (cr (cr (cb Tryz.f92))) (kfin prog Tryz.f92 k))) .normal
 sl H
theorem d92 (a0 : Value) (H : AHeap) (k : Value → AHeap → Prop) : kbody prog Tryz.f92 [a0] H k = (∃ n,L92x0 n  k [a0,undef,(.bool false),(.int .i64 0),undef,undef,undef,undef,undef,undef,undef,undef,undef,
 undef,undef,undef,undef,undef,undef,undef] H) := by kernel_rfl
theorem L92x0q (n0 : Nat) (s0 s1 s2 s3 s4 s5 s6 s7 s8 s9 s10 s11 s12 s13 s14 s15 s16 s17 s18 s19 : Value) (H : AHeap) (k : Value → AHeap → Prop) : L92x0 (n0 + 1) k [s0,s1,s2,s3,s4,s5,s6,s7,s8,s9,s10,s11,s12,s13,s14,
 s15,s16,s17,s18,s19] H = (@bnd (aLen prog H 9 s0) ⟨fun v6x1 => @bnd (aBin2 prog H .lss 3 (.tmp 4) (.tmp 6) s3 v6x1) ⟨fun v7x2 => @kifB v7x2 ⟨@bnd (aIndex prog 9 s0 s3) ⟨fun v12x3 => @bnd (aBin2 prog H
 .lss 5 (.tmp 12) (.const (.int .u8 32)) v12x3 (.int .u8 32)) ⟨fun v13x4 => @bnd (gif v13x4 false ((some s0)) undef) ⟨fun v15x5 => @bnd (gif v13x4 false ((some s3)) undef) ⟨fun v16x6 => @bnd (gif v13x4 false (aIndex prog 9
 v15x5 v16x6) undef) ⟨fun v17x7 => @bnd (gif v13x4 false (aBin2 prog H .gtr 5 (.tmp 17) (.const (.int .u8 126)) v17x7 (.int .u8 126)) undef) ⟨fun v18x8 => @bnd (pickV v13x4 (.bool true) v18x8) ⟨fun v19x9 => @kifB v19x9 ⟨k
 (.bool false) H⟩ ⟨@bnd (aBin2 prog H .add 3 (.tmp 8) (.const (.int .i64 1)) s3 (.int .i64 1)) ⟨fun v9x10 => L92x0 n0  k [s0,s1,s2,v9x10,s3,s0,v6x1,v7x2,s3,v9x10,s0,s3,v12x3,v13x4,v13x4,v15x5,v16x6,v17x7,
 v18x8,v19x9] H⟩⟩⟩⟩⟩⟩⟩⟩⟩⟩ ⟨k (.bool true) H⟩⟩⟩) := by kernel_rfl
-- tocsin/tocsinref09.kind
theorem d93 (a0 : Value) (H : AHeap) (k : Value → AHeap → Prop) : kbody prog Tryz.f93 [a0] H k = (@bndC prog 120 [a0] H ⟨fun v6x1 H2 => @kifB v6x1 ⟨k (.tuple #[(.int .u8 1),a0]) H2⟩ ⟨@bndC prog 121 [a0] H2 ⟨fun
 v10x3 H4 => @kifB v10x3 ⟨k (.tuple #[(.int .u8 2),a0]) H4⟩ ⟨@bndC prog 122 [a0] H4 ⟨fun v14x5 H6 => @kifB v14x5 ⟨k (.tuple #[(.int .u8 4),a0]) H6⟩ ⟨k (.tuple #[(.int .u8 0),(.string { data := #[] })]) H6⟩⟩⟩⟩⟩⟩) := by
 kernel_rfl
-- tocsin/tocsinref10.part
theorem d94 (a0 a1 a2 a3 : Value) (H : AHeap) (k : Value → AHeap → Prop) : kbody prog Tryz.f94 [a0,a1,a2,a3] H k = (@bnd (aBin2 prog H .eql 9 (.tmp 14) (.const (.string { data := #[111,114] })) a3 (.string { data :=
 #[111,114] })) ⟨fun v15x1 => @kifB v15x1 ⟨@bndC prog 63 [a0,a1,a2,(.string { data := #[97,110,100] })] H ⟨fun v19x2 H3 => @bnd (tupV v19x2 0) ⟨fun v20x4 => @bnd (tupV v19x2 1) ⟨fun v21x5 => k (.tuple #[v20x4,v21x5])
 H3⟩⟩⟩⟩ ⟨@bndC prog 95 [a0,a1,(.int .u8 1),(.string { data := #[110,111,116] })] H ⟨fun v24x6 H7 => @kifB v24x6 ⟨@bnd (aBin2 prog H7 .add 3 (.tmp 27) (.const (.int .i64 1)) a1 (.int .i64 1)) ⟨fun v28x8 => @bndC
 prog 94 [a0,v28x8,a2,(.string { data := #[97,110,100] })] H7 ⟨fun v30x9 H10 => @bnd (tupV v30x9 0) ⟨fun v31x11 => @bnd (tupV v30x9 1) ⟨fun v32x12 => @bnd (aBin2 prog H10 .lss 3 (.tmp 33) (.const (.int .i64 0))
 v32x12 (.int .i64 0)) ⟨fun v34x13 => @kifB v34x13 ⟨k (.tuple #[(.slice none 0 0),(.int .i64 (-1))]) H10⟩ ⟨@bnd (aLen prog H10 27 v31x11) ⟨fun v38x14 => @bnd (aBin2 prog H10 .add 3 (.tmp 36) (.tmp 38) a2 v38x14) ⟨fun
 v39x15 => @bnd (aBin2 prog H10 .sub 3 (.tmp 39) (.const (.int .i64 1)) v39x15 (.int .i64 1)) ⟨fun v40x16 => @bnd (buildV prog 37 [(0,(.int .u8 3)),(6,v40x16)]) ⟨fun v41x17 => @bndL prog H10 27 1 [(0,v41x17)]
 ⟨fun v42x18 H19 => @bndE (aBuiltin prog H19 Builtin.append #[27,27] [v31x11,v42x18]) ⟨fun v43x20 H21 => k (.tuple #[v43x20,v32x12]) H21⟩⟩⟩⟩⟩⟩⟩⟩⟩⟩⟩⟩⟩ ⟨@bndC prog 95 [a0,a1,(.int .u8 4),(.string { data := #[40]
 })] H7 ⟨fun v48x22 H23 => @kifB v48x22 ⟨@bnd (aBin2 prog H23 .add 3 (.tmp 51) (.const (.int .i64 1)) a1 (.int .i64 1)) ⟨fun v52x24 => @bndC prog 37 [a0,v52x24,a2] H23 ⟨fun v54x25 H26 => @bnd (tupV v54x25 0) ⟨fun
 v55x27 => @bnd (tupV v54x25 1) ⟨fun v56x28 => @bnd (aBin2 prog H26 .lss 3 (.tmp 57) (.const (.int .i64 0)) v56x28 (.int .i64 0)) ⟨fun v58x29 => @bnd (gif v58x29 false ((some a0)) undef) ⟨fun v60x30 => @bnd (gif v58x29
 false ((some v56x28)) undef) ⟨fun v61x31 => @bndG v58x29 false H26 ⟨fun v62x32 H33 => ACalls prog 95 [v60x30,v61x31,(.int .u8 4),(.string { data := #[41] })] H26 v62x32 H33⟩ ⟨fun v62x32 H33 => @bnd (gif v58x29 false
 (unV prog .not v62x32) undef) ⟨fun v63x34 => @bnd (pickV v58x29 (.bool true) v63x34) ⟨fun v64x35 => @kifB v64x35 ⟨k (.tuple #[(.slice none 0 0),(.int .i64 (-1))]) H33⟩ ⟨@bnd (aBin2 prog H33 .add 3 (.tmp 66) (.const
 (.int .i64 1)) v56x28 (.int .i64 1)) ⟨fun v67x36 => k (.tuple #[v55x27,v67x36]) H33⟩⟩⟩⟩⟩⟩⟩⟩⟩⟩⟩⟩⟩ ⟨@bndC prog 123 [a0,a1] H23 ⟨fun v70x37 H38 => @bnd (tupV v70x37 0) ⟨fun v71x39 => @bnd (tupV v70x37 1) ⟨fun v72x40 => k
 (.tuple #[v71x39,v72x40]) H38⟩⟩⟩⟩⟩⟩⟩⟩⟩) := by kernel_rfl
-- tocsin/tocsinref10.is
theorem d95 (a0 a1 a2 a3 : Value) (H : AHeap) (k : Value → AHeap → Prop) : kbody prog Tryz.f95 [a0,a1,a2,a3] H k = (@bnd (aLen prog H 64 a0) ⟨fun v11x1 => @bnd (aBin2 prog H .lss 3 (.tmp 9) (.tmp 11) a1 v11x1)
 ⟨fun v12x2 => @bnd (gif v12x2 true ((some a0)) undef) ⟨fun v14x3 => @bnd (gif v12x2 true ((some a1)) undef) ⟨fun v15x4 => @bnd (gif v12x2 true (aIndexAddr prog H 64 v14x3 v15x4) undef) ⟨fun v16x5 => @bnd (gif v12x2 true
 (aFieldAddr prog H 72 v16x5 0) undef) ⟨fun v17x6 => @bnd (gif v12x2 true (aLoad prog H 5 v17x6) undef) ⟨fun v18x7 => @bnd (gif v12x2 true ((some a2)) undef) ⟨fun v19x8 => @bnd (gif v12x2 true (aBin2 prog H .eql 5
 (.tmp 18) (.tmp 19) v18x7 v19x8) undef) ⟨fun v20x9 => @bnd (pickV v12x2 v20x9 (.bool false)) ⟨fun v21x10 => @bnd (gif v21x10 true ((some a0)) undef) ⟨fun v23x11 => @bnd (gif v21x10 true ((some a1)) undef) ⟨fun v24x12 => @bnd
 (gif v21x10 true (aIndexAddr prog H 64 v23x11 v24x12) undef) ⟨fun v25x13 => @bnd (gif v21x10 true (aFieldAddr prog H 72 v25x13 1) undef) ⟨fun v26x14 => @bnd (gif v21x10 true (aLoad prog H 9 v26x14) undef) ⟨fun
 v27x15 => @bnd (gif v21x10 true ((some a3)) undef) ⟨fun v28x16 => @bnd (gif v21x10 true (aBin2 prog H .eql 9 (.tmp 27) (.tmp 28) v27x15 v28x16) undef) ⟨fun v29x17 => @bnd (gif v21x10 true ((some v29x17)) undef) ⟨fun v30x18
 => @bnd (gif v30x18 false ((some a3)) undef) ⟨fun v31x19 => @bnd (gif v30x18 false (aBin2 prog H .eql 9 (.tmp 31) (.const (.string { data := #[42] })) v31x19 (.string { data := #[42] })) undef) ⟨fun v32x20 => @bnd (gif
 v21x10 true (pickV v30x18 (.bool true) v32x20) undef) ⟨fun v33x21 => @bnd (pickV v21x10 v33x21 (.bool false)) ⟨fun v34x22 => k v34x22 H⟩⟩⟩⟩⟩⟩⟩⟩⟩⟩⟩⟩⟩⟩⟩⟩⟩⟩⟩⟩⟩⟩) := by kernel_rfl
-- strings.IndexByte
end Go.Vi
namespace Go.Vi
open Go Go.Proofs Go.Proofs.Tryz
-- (*tocsin/expr.reader).one
theorem d109 (H : AHeap) (k : Value → AHeap → Prop) : kbody prog Tryz.f109 [] H k = (@bndE (some (Value.map (some H.length),H ++ [AObj.map []])) ⟨fun v1x1 H2 => @bnd (buildV prog 150 [(0,(.string { data := #[61] })),
 (1,(.func (.func 131) #[] #[]))]) ⟨fun v2x3 => @bndS (aUpdate prog H2 146 v1x1 (.int .u8 0) v2x3) ⟨fun _ H5 => @bnd (buildV prog 150 [(0,(.string { data := #[33,61] })),(1,(.func (.func 132) #[] #[]))]) ⟨fun v3x6
 => @bndS (aUpdate prog H5 146 v1x1 (.int .u8 1) v3x6) ⟨fun _ H8 => @bnd (buildV prog 150 [(0,(.string { data := #[94,61] })),(1,(.func (.func 133) #[] #[]))]) ⟨fun v4x9 => @bndS (aUpdate prog H8 146 v1x1
 (.int .u8 2) v4x9) ⟨fun _ H11 => k v1x1 H11⟩⟩⟩⟩⟩⟩⟩) := by kernel_rfl
-- tocsin/match.joined
theorem d110 (a0 : Value) (H : AHeap) (k : Value → AHeap → Prop) : kbody prog Tryz.f110 [a0] H k = (@bndC prog 46 [a0,(.string { data := #[] })] H ⟨fun v4x1 H2 => k v4x1 H2⟩) := by kernel_rfl
-- tocsin/labels.Quote
def L111x0 (n : Nat) (k : Value → AHeap → Prop) (sl : List Value) (H : AHeap) : Prop := kit prog (cl (cl (cr (cl (cr (cr (cr (cb Tryz.f111)))))))) n (kblk 0 (kseq prog (cr (cr (cr (cr (cb Tryz.f111))))) (kfin prog
 Tryz.f111 k))) .normal sl H
def S111x0 (n0 : Nat) (k : Value → AHeap → Prop) (sl : List Value) (H : AHeap) : Prop := kseq prog (cr (cr (cl (cl (cr (cr (cl (cl (cr (cl (cr (cr (cr (cb Tryz.f111)))))))))))))) (kblk 1 (kseq prog (cr (cr (cr (cl (cl
 (cr (cl (cr (cr (cr (cb Tryz.f111))))))))))) (kit prog (cl (cl (cr (cl (cr (cr (cr (cb Tryz.f111)))))))) n0 (kblk 0 (kseq prog (cr (cr (cr (cr (cb Tryz.f111))))) (kfin prog Tryz.f111 k)))))) .normal sl H
theorem d111 (a0 : Value) (H : AHeap) (k : Value → AHeap → Prop) : kbody prog Tryz.f111 [a0] H k = (@bndE (aAlloc prog H 116) ⟨fun v3x1 H2 => @bndC prog 125 [v3x1,(.int .u8 34)] H2 ⟨fun v5x3 H4 => @bnd (aLen
 prog H4 9 a0) ⟨fun v7x5 => ∃ n,L111x0 n  k [a0,undef,(.string { data := #[] }),v3x1,undef,v5x3,a0,v7x5,(.int .i64 0),undef,undef,undef,undef,undef,undef,undef,undef,undef,undef,undef,undef,undef,
 undef,undef,undef,undef,undef,undef,undef] H4⟩⟩⟩) := by kernel_rfl
theorem L111x0q (n0 : Nat) (s0 s1 s2 s3 s4 s5 s6 s7 s8 s9 s10 s11 s12 s13 s14 s15 s16 s17 s18 s19 s20 s21 s22 s23 s24 s25 s26 s27 s28 : Value) (H : AHeap) (k : Value → AHeap → Prop) : L111x0 (n0 + 1) k [s0,s1,s2,s3,s4,s5,
 s6,s7,s8,s9,s10,s11,s12,s13,s14,s15,s16,s17,s18,s19,s20,s21,s22,s23,s24,s25,s26,s27,s28] H = (@bnd (aBin2 prog H .lss 3 (.tmp 8) (.tmp 7) s8 s7) ⟨fun v9x6 => @kifB v9x6 ⟨@bnd (aIndex prog 9 s0
 s8) ⟨fun v13x7 => @bnd (aBin2 prog H .eql 5 (.tmp 13) (.const (.int .u8 34)) v13x7 (.int .u8 34)) ⟨fun v14x8 => @bnd (gif v14x8 false ((some s0)) undef) ⟨fun v16x9 => @bnd (gif v14x8 false ((some s8)) undef) ⟨fun v17x10 =>
 @bnd (gif v14x8 false (aIndex prog 9 v16x9 v17x10) undef) ⟨fun v18x11 => @bnd (gif v14x8 false (aBin2 prog H .eql 5 (.tmp 18) (.const (.int .u8 92)) v18x11 (.int .u8 92)) undef) ⟨fun v19x12 => @bnd (pickV v14x8 (.bool
 true) v19x12) ⟨fun v20x13 => @kifB v20x13 ⟨@bndC prog 125 [s3,(.int .u8 92)] H ⟨fun v21x14 H15 => S111x0 n0 k [s0,s1,s2,s3,s8,s5,s6,s7,s8,v9x6,s8,s0,s8,v13x7,v14x8,v14x8,v16x9,v17x10,v18x11,v19x12,
 v20x13,v21x14,s22,s23,s24,s25,s26,s27,s28] H15⟩⟩ ⟨S111x0 n0 k [s0,s1,s2,s3,s8,s5,s6,s7,s8,v9x6,s8,s0,s8,v13x7,v14x8,v14x8,v16x9,v17x10,v18x11,v19x12,v20x13,s21,s22,s23,s24,s25,s26,s27,s28]
 H⟩⟩⟩⟩⟩⟩⟩⟩⟩ ⟨@bndC prog 125 [s3,(.int .u8 34)] H ⟨fun _ H17 => @bndC prog 80 [s3] H17 ⟨fun v28x18 H19 => k v28x18 H19⟩⟩⟩⟩) := by kernel_rfl
theorem S111x0q (n0 : Nat) (s0 s1 s2 s3 s4 s5 s6 s7 s8 s9 s10 s11 s12 s13 s14 s15 s16 s17 s18 s19 s20 s21 s22 s23 s24 s25 s26 s27 s28 : Value) (H : AHeap) (k : Value → AHeap → Prop) : S111x0 n0 k [s0,s1,s2,s3,s4,s5,s6,s7,
 s8,s9,s10,s11,s12,s13,s14,s15,s16,s17,s18,s19,s20,s21,s22,s23,s24,s25,s26,s27,s28] H = (@bnd (aIndex prog 9 s0 s4) ⟨fun v24x20 => @bndC prog 125 [s3,v24x20] H ⟨fun v25x21 H22 => @bnd (aBin2
 prog H22 .add 3 (.tmp 8) (.const (.int .i64 1)) s8 (.int .i64 1)) ⟨fun v26x23 => L111x0 n0  k [s0,s1,s2,s3,s4,s5,s6,s7,v26x23,s9,s10,s11,s12,s13,s14,s15,s16,s17,s18,s19,s20,s21,s0,s4,v24x20,v25x21,
 v26x23,s27,s28] H22⟩⟩⟩) := by kernel_rfl
-- tocsin/fixed.Sat
theorem d112 (a0 : Value) (H : AHeap) (k : Value → AHeap → Prop) : kbody prog Tryz.f112 [a0] H k = (@bndE (aBuiltin prog H Builtin.max #[2,2] [a0,(.int .i64 (-4611686018427387903))]) ⟨fun v4x1 H2 => @bndE (aBuiltin
 prog H2 Builtin.min #[2,2] [v4x1,(.int .i64 4611686018427387903)]) ⟨fun v5x3 H4 => k v5x3 H4⟩⟩) := by kernel_rfl
-- strconv.FormatInt
theorem d113 (a0 a1 : Value) (H : AHeap) (k : Value → AHeap → Prop) : kbody prog Tryz.f113 [a0,a1] H k = (@bndC prog 118 [a0,a1] H ⟨fun v7x1 H2 => k v7x1 H2⟩) := by kernel_rfl
-- strings.TrimRight
theorem d114 (a0 a1 : Value) (H : AHeap) (k : Value → AHeap → Prop) : kbody prog Tryz.f114 [a0,a1] H k = (@bnd (aBin2 prog H .eql 9 (.tmp 7) (.const (.string { data := #[] })) a0 (.string { data := #[] })) ⟨fun v8x1 =>
 @bnd (gif v8x1 false ((some a1)) undef) ⟨fun v10x2 => @bnd (gif v8x1 false (aBin2 prog H .eql 9 (.tmp 10) (.const (.string { data := #[] })) v10x2 (.string { data := #[] })) undef) ⟨fun v11x3 => @bnd (pickV v8x1 (.bool
 true) v11x3) ⟨fun v12x4 => @kifB v12x4 ⟨k a0 H⟩ ⟨@bnd (aLen prog H 9 a1) ⟨fun v15x5 => @bnd (aBin2 prog H .eql 3 (.tmp 15) (.const (.int .i64 1)) v15x5 (.int .i64 1)) ⟨fun v16x6 => @bnd (gif v16x6 true ((some a1))
 undef) ⟨fun v18x7 => @bnd (gif v16x6 true (aIndex prog 9 v18x7 (.int .i64 0)) undef) ⟨fun v19x8 => @bnd (gif v16x6 true (aBin2 prog H .lss 5 (.tmp 19) (.const (.int .u8 128)) v19x8 (.int .u8 128)) undef) ⟨fun v20x9 =>
 @bnd (pickV v16x6 v20x9 (.bool false)) ⟨fun v21x10 => @kifB v21x10 ⟨@bnd (aIndex prog 9 a1 (.int .i64 0)) ⟨fun v24x11 => @bndC prog 134 [a0,v24x11] H ⟨fun v25x12 H13 => k v25x12 H13⟩⟩⟩ ⟨@bndC prog 135 [a1] H
 ⟨fun v28x14 H15 => @bnd (tupV v28x14 0) ⟨fun v29x16 => @bnd (tupV v28x14 1) ⟨fun v30x17 => @bndE (aAlloc prog H15 169) ⟨fun v5x18 H19 => @bndS (aStore prog H19 169 v5x18 v29x16) ⟨fun _ H21 => @kifB v30x17 ⟨@bndC
 prog 136 [a0,v5x18] H21 ⟨fun v33x22 H23 => k v33x22 H23⟩⟩ ⟨@bndC prog 137 [a0,a1] H21 ⟨fun v36x24 H25 => k v36x24 H25⟩⟩⟩⟩⟩⟩⟩⟩⟩⟩⟩⟩⟩⟩⟩⟩⟩⟩⟩) := by kernel_rfl
-- tocsin/match.May
def L115x0 (n : Nat) (k : Value → AHeap → Prop) (sl : List Value) (H : AHeap) : Prop := kit prog (cl (cl (cr (cl (cr (cr (cb Tryz.f115))))))) n (kblk 0 (kseq prog (cr (cr (cr (cb Tryz.f115)))) (kfin prog Tryz.f115
 k))) .normal sl H
theorem d115 (a0 : Value) (H : AHeap) (k : Value → AHeap → Prop) : kbody prog Tryz.f115 [a0] H k = (@bndC prog 109 [] H ⟨fun v8x1 H2 => @bnd (aLen prog H2 35 a0) ⟨fun v10x3 => ∃ n,L115x0 n  k [a0,undef,(.bool
 false),v8x1,undef,undef,undef,undef,v8x1,a0,v10x3,(.int .i64 0),undef,undef,undef,undef,undef,undef,undef,undef,undef,undef,undef,undef,undef,undef,undef,undef,undef,undef,undef,undef,undef,undef,
 undef,undef,undef,undef,undef,undef] H2⟩⟩) := by kernel_rfl
theorem L115x0q (n0 : Nat) (s0 s1 s2 s3 s4 s5 s6 s7 s8 s9 s10 s11 s12 s13 s14 s15 s16 s17 s18 s19 s20 s21 s22 s23 s24 s25 s26 s27 s28 s29 s30 s31 s32 s33 s34 s35 s36 s37 s38 s39 : Value) (H : AHeap) (k : Value → AHeap → Prop) :
 L115x0 (n0 + 1) k [s0,s1,s2,s3,s4,s5,s6,s7,s8,s9,s10,s11,s12,s13,s14,s15,s16,s17,s18,s19,s20,s21,s22,s23,s24,s25,s26,s27,s28,s29,s30,s31,s32,s33,s34,s35,s36,s37,s38,s39] H = (@bnd (aBin2
 prog H .lss 3 (.tmp 11) (.tmp 10) s11 s10) ⟨fun v12x4 => @kifB v12x4 ⟨@bnd (aIndexAddr prog H 35 s9 s11) ⟨fun v13x5 => @bnd (aLoad prog H 75 v13x5) ⟨fun v14x6 => @bndE (aAlloc prog H 75) ⟨fun v5x7 H8 =>
 @bndS (aStore prog H8 75 v5x7 v14x6) ⟨fun _ H10 => @bnd (aFieldAddr prog H10 75 v5x7 1) ⟨fun v17x11 => @bnd (aLoad prog H10 5 v17x11) ⟨fun v18x12 => @bnd (aLookup prog H10 146 s3 v18x12 true) ⟨fun v19x13 =>
 @bnd (tupV v19x13 0) ⟨fun v20x14 => @bnd (tupV v19x13 1) ⟨fun v21x15 => @bndE (aAlloc prog H10 150) ⟨fun v6x16 H17 => @bndS (aStore prog H17 150 v6x16 v20x14) ⟨fun _ H19 => @bnd (unV prog .not v21x15) ⟨fun v23x20
 => @bnd (gif v23x20 false (aFieldAddr prog H19 75 v5x7 0) undef) ⟨fun v25x21 => @bnd (gif v23x20 false (aLoad prog H19 9 v25x21) undef) ⟨fun v26x22 => @bndG v23x20 false H19 ⟨fun v27x23 H24 => ACalls prog 138
 [v26x22] H19 v27x23 H24⟩ ⟨fun v27x23 H24 => @bnd (gif v23x20 false (unV prog .not v27x23) undef) ⟨fun v28x25 => @bnd (pickV v23x20 (.bool true) v28x25) ⟨fun v29x26 => @bnd (gif v29x26 false (aFieldAddr prog H24 75
 v5x7 2) undef) ⟨fun v31x27 => @bnd (gif v29x26 false (aLoad prog H24 9 v31x27) undef) ⟨fun v32x28 => @bndG v29x26 false H24 ⟨fun v33x29 H30 => ACalls prog 139 [v32x28] H24 v33x29 H30⟩ ⟨fun v33x29 H30 => @bnd (gif
 v29x26 false (unV prog .not v33x29) undef) ⟨fun v34x31 => @bnd (pickV v29x26 (.bool true) v34x31) ⟨fun v35x32 => @kifB v35x32 ⟨k (.bool false) H30⟩ ⟨@bnd (aBin2 prog H30 .add 3 (.tmp 11) (.const (.int .i64 1)) s11
 (.int .i64 1)) ⟨fun v36x33 => L115x0 n0  k [s0,s1,s2,s3,s4,v5x7,v6x16,v21x15,s8,s9,s10,v36x33,v12x4,v13x5,v14x6,v19x13,s3,v17x11,v18x12,v19x13,v20x14,v21x15,v21x15,v23x20,v23x20,v25x21,v26x22,v27x23,
 v28x25,v29x26,v29x26,v31x27,v32x28,v33x29,v34x31,v35x32,v36x33,s37,s38,s39] H30⟩⟩⟩⟩⟩⟩⟩⟩⟩⟩⟩⟩⟩⟩⟩⟩⟩⟩⟩⟩⟩⟩⟩⟩⟩ ⟨@bnd (aLen prog H 35 s0) ⟨fun v38x34 => @bnd (aBin2 prog H .leq 3 (.tmp 38) (.const (.int .i64 6))
 v38x34 (.int .i64 6)) ⟨fun v39x35 => k v39x35 H⟩⟩⟩⟩) := by kernel_rfl
-- (*strings.Builder).copyCheck
theorem d116 (a0 : Value) (H : AHeap) (k : Value → AHeap → Prop) : kbody prog Tryz.f116 [a0] H k = (@bnd (nilV a0) ⟨fun v3x1 => @bnd (aFieldAddr prog H 116 v3x1 0) ⟨fun v4x2 => @bnd (aLoad prog H 114 v4x2) ⟨fun
 v5x3 => @bnd (aBin2 prog H .eql 114 (.tmp 5) (.const (.pointer none)) v5x3 (.pointer none)) ⟨fun v6x4 => @kifB v6x4 ⟨@bnd (convV prog H 114 174 a0) ⟨fun v9x5 => @bndC prog 140 [v9x5] H ⟨fun v10x6 H7 => @bnd
 (convV prog H7 174 114 v10x6) ⟨fun v11x8 => @bnd (nilV a0) ⟨fun v12x9 => @bnd (aFieldAddr prog H7 116 v12x9 0) ⟨fun v13x10 => @bndS (aStore prog H7 114 v13x10 v11x8) ⟨fun _ H12 => k (.tuple #[]) H12⟩⟩⟩⟩⟩⟩⟩ ⟨@bnd
 (nilV a0) ⟨fun v15x13 => @bnd (aFieldAddr prog H 116 v15x13 0) ⟨fun v16x14 => @bnd (aLoad prog H 114 v16x14) ⟨fun v17x15 => @bnd (aBin2 prog H .neq 114 (.tmp 17) (.tmp 18) v17x15 a0) ⟨fun v19x16 => @kifB v19x16
 ⟨False⟩ ⟨k (.tuple #[]) H⟩⟩⟩⟩⟩⟩⟩⟩⟩⟩) := by kernel_rfl
-- (*strings.Builder).grow
theorem d117 (a0 a1 : Value) (H : AHeap) (k : Value → AHeap → Prop) : kbody prog Tryz.f117 [a0,a1] H k = (@bnd (nilV a0) ⟨fun v6x1 => @bnd (aFieldAddr prog H 116 v6x1 1) ⟨fun v7x2 => @bnd (aLoad prog H 55 v7x2)
 ⟨fun v8x3 => @bndD false H ⟨fun v9x4 H5 => aBuiltin prog H Builtin.cap #[55] [v8x3] = some (v9x4,H5)⟩ ⟨fun v9x4 H5 => @bnd (aBin2 prog H5 .mul 3 (.const (.int .i64 2)) (.tmp 9) (.int .i64 2) v9x4) ⟨fun v10x6 => @bnd
 (aBin2 prog H5 .add 3 (.tmp 10) (.tmp 11) v10x6 a1) ⟨fun v12x7 => @bndD false H5 ⟨fun v13x8 H9 => ACalls prog 141 [v12x7] H5 v13x8 H9⟩ ⟨fun v13x8 H9 => @bnd (nilV a0) ⟨fun v15x10 => @bnd (aFieldAddr prog H 116
 v15x10 1) ⟨fun v16x11 => @bnd (aLoad prog H 55 v16x11) ⟨fun v17x12 => @bnd (aLen prog H 55 v17x12) ⟨fun v18x13 => @bnd (aSliceOp prog H9 55 v13x8 none (some v18x13)) ⟨fun v19x14 => @bnd (nilV a0) ⟨fun v22x15 =>
 @bnd (aFieldAddr prog H9 116 v22x15 1) ⟨fun v23x16 => @bnd (aLoad prog H9 55 v23x16) ⟨fun v24x17 => @bndE (aBuiltin prog H9 Builtin.copy #[55,55] [v19x14,v24x17]) ⟨fun _ H19 => @bnd (nilV a0) ⟨fun v28x20 =>
 @bnd (aFieldAddr prog H19 116 v28x20 1) ⟨fun v29x21 => @bndS (aStore prog H19 55 v29x21 v19x14) ⟨fun _ H23 => k (.tuple #[]) H23⟩⟩⟩⟩⟩⟩⟩⟩⟩⟩⟩⟩⟩⟩⟩⟩⟩⟩⟩) := by kernel_rfl
-- internal/strconv.FormatInt
def S118x0 (k : Value → AHeap → Prop) (sl : List Value) (H : AHeap) : Prop := kseq prog (cr (cr (cr (cr (cl (cr (cl (cr (cb Tryz.f118))))))))) (kseq prog (cr (cr (cb Tryz.f118))) (kfin prog Tryz.f118 k)) .normal sl
 H
theorem d118 (a0 a1 : Value) (H : AHeap) (k : Value → AHeap → Prop) : kbody prog Tryz.f118 [a0,a1] H k = (@bnd (aBin2 prog H .eql 3 (.tmp 10) (.const (.int .i64 10)) a1 (.int .i64 10)) ⟨fun v11x1 => @kifB v11x1 ⟨@bnd
 (aBin2 prog H .leq 2 (.const (.int .i64 0)) (.tmp 12) (.int .i64 0) a0) ⟨fun v13x2 => @bnd (gif v13x2 true ((some a0)) undef) ⟨fun v15x3 => @bnd (gif v13x2 true (aBin2 prog H .lss 2 (.tmp 15) (.const (.int .i64 100))
 v15x3 (.int .i64 100)) undef) ⟨fun v16x4 => @bnd (pickV v13x2 v16x4 (.bool false)) ⟨fun v17x5 => @kifB v17x5 ⟨@bndC prog 142 [a0] H ⟨fun v19x6 H7 => k v19x6 H7⟩⟩ ⟨@bndE (aAlloc prog H 177) ⟨fun v5x8 H9 => @bnd (convV
 prog H9 2 178 a0) ⟨fun v21x10 => @bnd (aBin2 prog H9 .lss 2 (.tmp 22) (.const (.int .i64 0)) a0 (.int .i64 0)) ⟨fun v23x11 => @kifB v23x11 ⟨@bnd (unV prog .neg v21x10) ⟨fun v25x12 => S118x0  k [a0,a1,undef,
 undef,(.string { data := #[] }),v5x8,v25x12,undef,undef,undef,a1,v11x1,a0,v13x2,v13x2,v15x3,v16x4,v17x5,undef,undef,a0,v21x10,a0,v23x11,v21x10,v25x12,undef,undef,undef,undef,undef,undef,undef,
 undef,undef,undef,undef,undef,undef,undef,undef,undef,undef,undef,undef,undef,undef,undef,undef,undef,undef,undef,undef,undef] H9⟩⟩ ⟨S118x0  k [a0,a1,undef,undef,(.string { data := #[] }),v5x8,v21x10,
 undef,undef,undef,a1,v11x1,a0,v13x2,v13x2,v15x3,v16x4,v17x5,undef,undef,a0,v21x10,a0,v23x11,undef,undef,undef,undef,undef,undef,undef,undef,undef,undef,undef,undef,undef,undef,undef,undef,undef,
 undef,undef,undef,undef,undef,undef,undef,undef,undef,undef,undef,undef,undef] H9⟩⟩⟩⟩⟩⟩⟩⟩⟩⟩ ⟨kx prog (cr (cr (cl (cr (cb Tryz.f118))))) [a0,a1,undef,undef,(.string { data := #[] }),undef,undef,undef,
 undef,undef,a1,v11x1,undef,undef,undef,undef,undef,undef,undef,undef,undef,undef,undef,undef,undef,undef,undef,undef,undef,undef,undef,undef,undef,undef,undef,undef,undef,undef,undef,undef,undef,
 undef,undef,undef,undef,undef,undef,undef,undef,undef,undef,undef,undef,undef] H (kseq prog (cr (cr (cb Tryz.f118))) (kfin prog Tryz.f118 k))⟩⟩) := by kernel_rfl
theorem S118x0q (s0 s1 s2 s3 s4 s5 s6 s7 s8 s9 s10 s11 s12 s13 s14 s15 s16 s17 s18 s19 s20 s21 s22 s23 s24 s25 s26 s27 s28 s29 s30 s31 s32 s33 s34 s35 s36 s37 s38 s39 s40 s41 s42 s43 s44 s45 s46 s47 s48 s49 s50 s51 s52 s53 :
 Value) (H : AHeap) (k : Value → AHeap → Prop) : S118x0 k [s0,s1,s2,s3,s4,s5,s6,s7,s8,s9,s10,s11,s12,s13,s14,s15,s16,s17,s18,s19,s20,s21,s22,s23,s24,s25,s26,s27,s28,s29,s30,s31,s32,s33,s34,s35,
 s36,s37,s38,s39,s40,s41,s42,s43,s44,s45,s46,s47,s48,s49,s50,s51,s52,s53] H = (@bndC prog 143 [s6] H ⟨fun v27x13 H14 => @bnd (aBin2 prog H14 .add 3 (.const (.int .i64 1)) (.tmp 28) (.int .i64 1)
 v27x13) ⟨fun v29x15 => @bnd (aSliceOp prog H14 177 s5 (some (.int .i64 1)) (some v29x15)) ⟨fun v30x16 => @bndC prog 144 [v30x16,s6] H14 ⟨fun _ H18 => @bnd (aBin2 prog H18 .lss 2 (.tmp 33) (.const (.int .i64 0))
 s0 (.int .i64 0)) ⟨fun v34x19 => @kifB v34x19 ⟨@bnd (aIndexAddr prog H18 177 s5 (.int .i64 0)) ⟨fun v35x20 => @bndS (aStore prog H18 5 v35x20 (.int .u8 45)) ⟨fun _ H22 => @bnd (aBin2 prog H22 .add 3 (.const (.int
 .i64 1)) (.tmp 36) (.int .i64 1) v27x13) ⟨fun v37x23 => @bnd (aSliceOp prog H22 177 s5 none (some v37x23)) ⟨fun v38x24 => @bnd (convV prog H22 55 9 v38x24) ⟨fun v39x25 => k v39x25 H22⟩⟩⟩⟩⟩⟩ ⟨@bnd (aBin2 prog H18
 .add 3 (.const (.int .i64 1)) (.tmp 40) (.int .i64 1) v27x13) ⟨fun v41x26 => @bnd (aSliceOp prog H18 177 s5 (some (.int .i64 1)) (some v41x26)) ⟨fun v42x27 => @bnd (convV prog H18 55 9 v42x27) ⟨fun v43x28 => k v43x28
 H18⟩⟩⟩⟩⟩⟩⟩⟩⟩) := by kernel_rfl
-- tocsin/crc.up
def L120x0 (n : Nat) (k : Value → AHeap → Prop) (sl : List Value) (H : AHeap) : Prop := kit prog (cl (cl (cr (cl (cr (cb Tryz.f120)))))) n (kblk 0 (kseq prog (cr (cr (cb Tryz.f120))) (kfin prog Tryz.f120 k)))
 .normal sl H
theorem d120 (a0 : Value) (H : AHeap) (k : Value → AHeap → Prop) : kbody prog Tryz.f120 [a0] H k = (∃ n,L120x0 n  k [a0,undef,(.bool false),(.int .i64 0),undef,undef,undef,undef,undef,undef,undef,undef,undef,
 undef,undef,undef,undef,undef,undef,undef,undef,undef,undef,undef,undef,undef,undef,undef,undef,undef] H) := by kernel_rfl
theorem L120x0q (n0 : Nat) (s0 s1 s2 s3 s4 s5 s6 s7 s8 s9 s10 s11 s12 s13 s14 s15 s16 s17 s18 s19 s20 s21 s22 s23 s24 s25 s26 s27 s28 s29 : Value) (H : AHeap) (k : Value → AHeap → Prop) : L120x0 (n0 + 1) k [s0,s1,s2,s3,s4,
 s5,s6,s7,s8,s9,s10,s11,s12,s13,s14,s15,s16,s17,s18,s19,s20,s21,s22,s23,s24,s25,s26,s27,s28,s29] H = (@bnd (aLen prog H 9 s0) ⟨fun v6x1 => @bnd (aBin2 prog H .lss 3 (.tmp 4) (.tmp 6) s3 v6x1)
 ⟨fun v7x2 => @kifB v7x2 ⟨@bnd (aBin2 prog H .add 3 (.tmp 12) (.const (.int .i64 1)) s3 (.int .i64 1)) ⟨fun v13x3 => @bnd (aSliceOp prog H 9 s0 (some s3) (some v13x3)) ⟨fun v14x4 => @bnd (aBin2 prog H .add 9
 (.const (.string { data := #[97] })) (.tmp 14) (.string { data := #[97] }) v14x4) ⟨fun v15x5 => @bndC prog 146 [v15x5] H ⟨fun v16x6 H7 => @bnd (unV prog .not v16x6) ⟨fun v17x8 => @kifB v17x8 ⟨k (.bool false) H7⟩ ⟨@bnd
 (aBin2 prog H7 .add 3 (.tmp 8) (.const (.int .i64 1)) s3 (.int .i64 1)) ⟨fun v9x9 => L120x0 n0  k [s0,s1,s2,v9x9,s3,s0,v6x1,v7x2,s3,v9x9,s0,s3,s3,v13x3,v14x4,v15x5,v16x6,v17x8,s18,s19,s20,s21,s22,
 s23,s24,s25,s26,s27,s28,s29] H7⟩⟩⟩⟩⟩⟩⟩⟩ ⟨@bnd (aBin2 prog H .neq 9 (.tmp 18) (.const (.string { data := #[] })) s0 (.string { data := #[] })) ⟨fun v19x10 => @bnd (gif v19x10 true ((some s0)) undef) ⟨fun v21x11 =>
 @bnd (gif v19x10 true (aIndex prog 9 v21x11 (.int .i64 0)) undef) ⟨fun v22x12 => @bnd (gif v19x10 true (aBin2 prog H .geq 5 (.tmp 22) (.const (.int .u8 97)) v22x12 (.int .u8 97)) undef) ⟨fun v23x13 => @bnd (pickV
 v19x10 v23x13 (.bool false)) ⟨fun v24x14 => @bnd (gif v24x14 true ((some s0)) undef) ⟨fun v26x15 => @bnd (gif v24x14 true (aIndex prog 9 v26x15 (.int .i64 0)) undef) ⟨fun v27x16 => @bnd (gif v24x14 true (aBin2 prog H
 .leq 5 (.tmp 27) (.const (.int .u8 122)) v27x16 (.int .u8 122)) undef) ⟨fun v28x17 => @bnd (pickV v24x14 v28x17 (.bool false)) ⟨fun v29x18 => k v29x18 H⟩⟩⟩⟩⟩⟩⟩⟩⟩⟩⟩⟩) := by kernel_rfl
-- tocsin/tocsinref09.number
def L121x0 (n : Nat) (k : Value → AHeap → Prop) (sl : List Value) (H : AHeap) : Prop := kit prog (cl (cl (cr (cl (cr (cb Tryz.f121)))))) n (kblk 0 (kseq prog (cr (cr (cb Tryz.f121))) (kfin prog Tryz.f121 k)))
 .normal sl H
theorem d121 (a0 : Value) (H : AHeap) (k : Value → AHeap → Prop) : kbody prog Tryz.f121 [a0] H k = (∃ n,L121x0 n  k [a0,undef,(.bool false),(.int .i64 0),undef,undef,undef,undef,undef,undef,undef,undef,undef,
 undef,undef,undef,undef,undef,undef,undef,undef,undef,undef,undef,undef,undef,undef] H) := by kernel_rfl
theorem L121x0q (n0 : Nat) (s0 s1 s2 s3 s4 s5 s6 s7 s8 s9 s10 s11 s12 s13 s14 s15 s16 s17 s18 s19 s20 s21 s22 s23 s24 s25 s26 : Value) (H : AHeap) (k : Value → AHeap → Prop) : L121x0 (n0 + 1) k [s0,s1,s2,s3,s4,s5,s6,s7,
 s8,s9,s10,s11,s12,s13,s14,s15,s16,s17,s18,s19,s20,s21,s22,s23,s24,s25,s26] H = (@bnd (aLen prog H 9 s0) ⟨fun v6x1 => @bnd (aBin2 prog H .lss 3 (.tmp 4) (.tmp 6) s3 v6x1) ⟨fun v7x2 => @kifB v7x2 ⟨@bnd
 (aIndex prog 9 s0 s3) ⟨fun v12x3 => @bnd (aBin2 prog H .eql 5 (.tmp 12) (.const (.int .u8 46)) v12x3 (.int .u8 46)) ⟨fun v13x4 => @kifB v13x4 ⟨@bnd (aSliceOp prog H 9 s0 none (some s3)) ⟨fun v16x5 => @bndC
 prog 147 [v16x5] H ⟨fun v17x6 H7 => @bnd (gif v17x6 true ((some s0)) undef) ⟨fun v19x8 => @bnd (gif v17x6 true ((some s3)) undef) ⟨fun v20x9 => @bnd (gif v17x6 true (aBin2 prog H7 .add 3 (.tmp 20) (.const (.int .i64
 1)) v20x9 (.int .i64 1)) undef) ⟨fun v21x10 => @bnd (gif v17x6 true (aSliceOp prog H7 9 v19x8 (some v21x10) none) undef) ⟨fun v22x11 => @bndG v17x6 true H7 ⟨fun v23x12 H13 => ACalls prog 147 [v22x11] H7 v23x12 H13⟩
 ⟨fun v23x12 H13 => @bnd (pickV v17x6 v23x12 (.bool false)) ⟨fun v24x14 => k v24x14 H13⟩⟩⟩⟩⟩⟩⟩⟩⟩ ⟨@bnd (aBin2 prog H .add 3 (.tmp 8) (.const (.int .i64 1)) s3 (.int .i64 1)) ⟨fun v9x15 => L121x0 n0  k [s0,s1,s2,v9x15,
 s3,s0,v6x1,v7x2,s3,v9x15,s0,s3,v12x3,v13x4,s14,s15,s16,s17,s18,s19,s20,s21,s22,s23,s24,s25,s26] H⟩⟩⟩⟩⟩ ⟨@bndC prog 147 [s0] H ⟨fun v26x16 H17 => k v26x16 H17⟩⟩⟩⟩) := by kernel_rfl
-- tocsin/tocsinref09.sign
def L122x0 (n : Nat) (k : Value → AHeap → Prop) (sl : List Value) (H : AHeap) : Prop := kit prog (cl (cl (cr (cl (cr (cr (cb Tryz.f122))))))) n (kblk 0 (kseq prog (cr (cr (cr (cb Tryz.f122)))) (kfin prog Tryz.f122
 k))) .normal sl H
theorem d122 (a0 : Value) (H : AHeap) (k : Value → AHeap → Prop) : kbody prog Tryz.f122 [a0] H k = (@bndL prog H 42 18 [(0,(.string { data := #[60,61] })),(1,(.string { data := #[62,61] })),(2,(.string { data :=
 #[61,61] })),(3,(.string { data := #[33,61] })),(4,(.string { data := #[94,61] })),(5,(.string { data := #[123] })),(6,(.string { data := #[125] })),(7,(.string { data := #[40] })),(8,(.string { data := #[41]
 })),(9,(.string { data := #[91] })),(10,(.string { data := #[93] })),(11,(.string { data := #[44] })),(12,(.string { data := #[58] })),(13,(.string { data := #[59] })),(14,(.string { data := #[61] })),(15,(.string
 { data := #[60] })),(16,(.string { data := #[62] })),(17,(.string { data := #[45] }))] ⟨fun v5x1 H2 => ∃ n,L122x0 n  k [a0,undef,(.bool false),v5x1,(.int .i64 0),v5x1,undef,undef,undef,undef,undef,undef,undef,
 undef,undef,undef,undef,undef] H2⟩) := by kernel_rfl
theorem L122x0q (n0 : Nat) (s0 s1 s2 s3 s4 s5 s6 s7 s8 s9 s10 s11 s12 s13 s14 s15 s16 s17 : Value) (H : AHeap) (k : Value → AHeap → Prop) : L122x0 (n0 + 1) k [s0,s1,s2,s3,s4,s5,s6,s7,s8,s9,s10,s11,s12,s13,s14,s15,
 s16,s17] H = (@bnd (aLen prog H 42 s3) ⟨fun v8x3 => @bnd (aBin2 prog H .lss 3 (.tmp 6) (.tmp 8) s4 v8x3) ⟨fun v9x4 => @kifB v9x4 ⟨@bnd (aIndexAddr prog H 42 s3 s4) ⟨fun v14x5 => @bnd (aLoad prog H 9 v14x5)
 ⟨fun v15x6 => @bnd (aBin2 prog H .eql 9 (.tmp 15) (.tmp 16) v15x6 s0) ⟨fun v17x7 => @kifB v17x7 ⟨k (.bool true) H⟩ ⟨@bnd (aBin2 prog H .add 3 (.tmp 10) (.const (.int .i64 1)) s4 (.int .i64 1)) ⟨fun v11x8 => L122x0 n0 
 k [s0,s1,s2,s3,v11x8,s5,s4,s3,v8x3,v9x4,s4,v11x8,s3,s4,v14x5,v15x6,s0,v17x7] H⟩⟩⟩⟩⟩⟩ ⟨k (.bool false) H⟩⟩⟩) := by kernel_rfl
-- tocsin/tocsinref10.comparison
def L123x0 (n : Nat) (k : Value → AHeap → Prop) (sl : List Value) (H : AHeap) : Prop := kit prog (cl (cl (cl (cr (cr (cr (cb Tryz.f123))))))) n (kblk 0 (kseq prog (cr (cr (cr (cr (cb Tryz.f123))))) (kfin prog
 Tryz.f123 k))) .normal sl H
def S123x0 (k : Value → AHeap → Prop) (sl : List Value) (H : AHeap) : Prop := kseq prog (cr (cr (cr (cr (cr (cr (cr (cr (cb Tryz.f123))))))))) (kfin prog Tryz.f123 k) .normal sl H
def L123x1 (n : Nat) (k : Value → AHeap → Prop) (sl : List Value) (H : AHeap) : Prop := kit prog (cl (cl (cr (cr (cl (cr (cr (cr (cr (cr (cr (cr (cb Tryz.f123))))))))))))) n (kblk 2 (kseq prog (cr (cr (cr (cr (cr (cr
 (cr (cr (cb Tryz.f123))))))))) (kfin prog Tryz.f123 k))) .normal sl H
def L123x2 (n : Nat) (k : Value → AHeap → Prop) (sl : List Value) (H : AHeap) : Prop := kit prog (cl (cl (cl (cr (cr (cr (cr (cr (cr (cr (cr (cr (cr (cr (cr (cb Tryz.f123)))))))))))))))) n (kblk 4 (kseq prog (cr (cr (cr
 (cr (cr (cr (cr (cr (cr (cr (cr (cr (cr (cb Tryz.f123)))))))))))))) (kfin prog Tryz.f123 k))) .normal sl H
def S123x1 (k : Value → AHeap → Prop) (sl : List Value) (H : AHeap) : Prop := kseq prog (cr (cr (cr (cr (cr (cr (cr (cr (cr (cr (cr (cr (cr (cr (cr (cr (cr (cr (cb Tryz.f123))))))))))))))))))) (kfin prog Tryz.f123 k)
 .normal sl H
def B123x0 (n1 : Nat) (k : Value → AHeap → Prop) (sl : List Value) (H : AHeap) : Prop := (kseq prog (cr (cr (cr (cr (cr (cl (cl (cl (cr (cr (cl (cr (cr (cr (cr (cr (cr (cr (cb Tryz.f123))))))))))))))))))) (kblk 3 (kit
 prog (cl (cl (cr (cr (cl (cr (cr (cr (cr (cr (cr (cr (cb Tryz.f123))))))))))))) n1 (kblk 2 (kseq prog (cr (cr (cr (cr (cr (cr (cr (cr (cb Tryz.f123))))))))) (kfin prog Tryz.f123 k)))))) (.exit 2) sl H
theorem B123x0q (n1 : Nat) (sl : List Value) (H : AHeap) (k : Value → AHeap → Prop) : B123x0 n1 k sl H = S123x0  k sl H := by kernel_rfl
theorem d123 (a0 a1 : Value) (H : AHeap) (k : Value → AHeap → Prop) : kbody prog Tryz.f123 [a0,a1] H k = (@bnd (buildV prog 37 [(0,(.int .u8 0))]) ⟨fun v13x1 => @bndE (aAlloc prog H 37) ⟨fun v6x2 H3 => @bndS
 (aStore prog H3 37 v6x2 v13x1) ⟨fun _ H5 => ∃ n,L123x0 n  k [a0,a1,undef,undef,(.slice none 0 0),(.int .i64 0),v6x2,(.int .i64 0),undef,undef,undef,undef,undef,v13x1,undef,undef,undef,undef,undef,undef,
 undef,undef,undef,undef,undef,undef,undef,undef,undef,undef,undef,undef,undef,undef,undef,undef,undef,undef,undef,undef,undef,undef,undef,undef,undef,undef,undef,undef,undef,undef,undef,undef,
 undef,undef,undef,undef,undef,undef,undef,undef,undef,undef,undef,undef,undef,undef,undef,undef,undef,undef,undef,undef,undef,undef,undef,undef,undef,undef,undef,undef,undef,undef,undef,undef,
 undef,undef,undef,undef,undef,undef,undef,undef,undef,undef,undef,undef,undef,undef,undef,undef,undef,undef,undef,undef,undef,undef,undef,undef,undef,undef,undef,undef,undef,undef,undef,undef,
 undef,undef,undef,undef,undef,undef,undef,undef,undef,undef,undef,undef,undef,undef,undef,undef,undef,undef,undef,undef,undef,undef,undef,undef,undef,undef,undef,undef,undef,undef,undef,undef,
 undef,undef,undef,undef,undef,undef,undef,undef,undef,undef,undef,undef,undef,undef,undef,undef,undef,undef,undef,undef] H5⟩⟩⟩) := by kernel_rfl
theorem L123x0q (n0 : Nat) (s0 s1 s2 s3 s4 s5 s6 s7 s8 s9 s10 s11 s12 s13 s14 s15 s16 s17 s18 s19 s20 s21 s22 s23 s24 s25 s26 s27 s28 s29 s30 s31 s32 s33 s34 s35 s36 s37 s38 s39 s40 s41 s42 s43 s44 s45 s46 s47 s48 s49 s50 s51 s52
 s53 s54 s55 s56 s57 s58 s59 s60 s61 s62 s63 s64 s65 s66 s67 s68 s69 s70 s71 s72 s73 s74 s75 s76 s77 s78 s79 s80 s81 s82 s83 s84 s85 s86 s87 s88 s89 s90 s91 s92 s93 s94 s95 s96 s97 s98 s99 s100 s101 s102 s103 s104 s105 s106 s107
 s108 s109 s110 s111 s112 s113 s114 s115 s116 s117 s118 s119 s120 s121 s122 s123 s124 s125 s126 s127 s128 s129 s130 s131 s132 s133 s134 s135 s136 s137 s138 s139 s140 s141 s142 s143 s144 s145 s146 s147 s148 s149 s150 s151 s152
 s153 s154 s155 s156 s157 s158 s159 s160 s161 s162 s163 s164 s165 s166 s167 : Value) (H : AHeap) (k : Value → AHeap → Prop) : L123x0 (n0 + 1) k [s0,s1,s2,s3,s4,s5,s6,s7,s8,s9,s10,s11,s12,s13,s14,s15,s16,s17,
 s18,s19,s20,s21,s22,s23,s24,s25,s26,s27,s28,s29,s30,s31,s32,s33,s34,s35,s36,s37,s38,s39,s40,s41,s42,s43,s44,s45,s46,s47,s48,s49,s50,s51,s52,s53,s54,s55,s56,s57,s58,s59,s60,s61,s62,
 s63,s64,s65,s66,s67,s68,s69,s70,s71,s72,s73,s74,s75,s76,s77,s78,s79,s80,s81,s82,s83,s84,s85,s86,s87,s88,s89,s90,s91,s92,s93,s94,s95,s96,s97,s98,s99,s100,s101,s102,s103,s104,s105,s106,
 s107,s108,s109,s110,s111,s112,s113,s114,s115,s116,s117,s118,s119,s120,s121,s122,s123,s124,s125,s126,s127,s128,s129,s130,s131,s132,s133,s134,s135,s136,s137,s138,s139,s140,s141,s142,s143,s144,
 s145,s146,s147,s148,s149,s150,s151,s152,s153,s154,s155,s156,s157,s158,s159,s160,s161,s162,s163,s164,s165,s166,s167] H = (@bnd (aBin2 prog H .lss 3 (.tmp 14) (.const (.int .i64 6)) s7 (.int .i64 6))
 ⟨fun v15x6 => @bnd (gif v15x6 true ((some s0)) undef) ⟨fun v17x7 => @bnd (gif v15x6 true ((some s1)) undef) ⟨fun v18x8 => @bnd (gif v15x6 true ((some s7)) undef) ⟨fun v19x9 => @bndG v15x6 true H ⟨fun v20x10 H11 => ACalls
 prog 50 [v19x9] H v20x10 H11⟩ ⟨fun v20x10 H11 => @bndG v15x6 true H11 ⟨fun v21x12 H13 => ACalls prog 95 [v17x7,v18x8,(.int .u8 1),v20x10] H11 v21x12 H13⟩ ⟨fun v21x12 H13 => @bnd (gif v15x6 true (unV prog .not
 v21x12) undef) ⟨fun v22x14 => @bnd (pickV v15x6 v22x14 (.bool false)) ⟨fun v23x15 => @kifB v23x15 ⟨@bnd (aBin2 prog H13 .add 3 (.tmp 24) (.const (.int .i64 1)) s7 (.int .i64 1)) ⟨fun v25x16 => L123x0 n0  k [s0,s1,s2,s3,
 s4,s5,s6,v25x16,s8,s9,s10,s11,s12,s13,s7,v15x6,v15x6,v17x7,v18x8,v19x9,v20x10,v21x12,v22x14,v23x15,s7,v25x16,s26,s27,s28,s29,s30,s31,s32,s33,s34,s35,s36,s37,s38,s39,s40,s41,s42,s43,s44,
 s45,s46,s47,s48,s49,s50,s51,s52,s53,s54,s55,s56,s57,s58,s59,s60,s61,s62,s63,s64,s65,s66,s67,s68,s69,s70,s71,s72,s73,s74,s75,s76,s77,s78,s79,s80,s81,s82,s83,s84,s85,s86,s87,s88,s89,
 s90,s91,s92,s93,s94,s95,s96,s97,s98,s99,s100,s101,s102,s103,s104,s105,s106,s107,s108,s109,s110,s111,s112,s113,s114,s115,s116,s117,s118,s119,s120,s121,s122,s123,s124,s125,s126,s127,s128,
 s129,s130,s131,s132,s133,s134,s135,s136,s137,s138,s139,s140,s141,s142,s143,s144,s145,s146,s147,s148,s149,s150,s151,s152,s153,s154,s155,s156,s157,s158,s159,s160,s161,s162,s163,s164,s165,s166,
 s167] H13⟩⟩ ⟨@bnd (aBin2 prog H13 .eql 3 (.tmp 26) (.const (.int .i64 6)) s7 (.int .i64 6)) ⟨fun v27x17 => @bnd (gif v27x17 false ((some s0)) undef) ⟨fun v29x18 => @bnd (gif v27x17 false ((some s1)) undef) ⟨fun v30x19 =>
 @bnd (gif v27x17 false (aBin2 prog H13 .add 3 (.tmp 30) (.const (.int .i64 1)) v30x19 (.int .i64 1)) undef) ⟨fun v31x20 => @bndG v27x17 false H13 ⟨fun v32x21 H22 => ACalls prog 95 [v29x18,v31x20,(.int .u8 4),
 (.string { data := #[40] })] H13 v32x21 H22⟩ ⟨fun v32x21 H22 => @bnd (gif v27x17 false (unV prog .not v32x21) undef) ⟨fun v33x23 => @bnd (pickV v27x17 (.bool true) v33x23) ⟨fun v34x24 => @bnd (gif v34x24 false ((some s0))
 undef) ⟨fun v36x25 => @bnd (gif v34x24 false ((some s1)) undef) ⟨fun v37x26 => @bnd (gif v34x24 false (aBin2 prog H22 .add 3 (.tmp 37) (.const (.int .i64 2)) v37x26 (.int .i64 2)) undef) ⟨fun v38x27 => @bndG v34x24 false
 H22 ⟨fun v39x28 H29 => ACalls prog 95 [v36x25,v38x27,(.int .u8 4),(.string { data := #[123] })] H22 v39x28 H29⟩ ⟨fun v39x28 H29 => @bnd (gif v34x24 false (unV prog .not v39x28) undef) ⟨fun v40x30 => @bnd (pickV
 v34x24 (.bool true) v40x30) ⟨fun v41x31 => @kifB v41x31 ⟨k (.tuple #[(.slice none 0 0),(.int .i64 (-1))]) H29⟩ ⟨@bnd (convV prog H29 3 5 s7) ⟨fun v43x32 => @bnd (aFieldAddr prog H29 37 s6 1) ⟨fun v44x33 => @bndS
 (aStore prog H29 5 v44x33 v43x32) ⟨fun _ H35 => @bnd (aBin2 prog H35 .add 3 (.tmp 45) (.const (.int .i64 3)) s1 (.int .i64 3)) ⟨fun v46x36 => @bndC prog 95 [s0,v46x36,(.int .u8 4),(.string { data := #[125] })]
 H35 ⟨fun v49x37 H38 => @kifB v49x37 ⟨@bnd (aBin2 prog H38 .add 3 (.tmp 50) (.const (.int .i64 1)) v46x36 (.int .i64 1)) ⟨fun v51x39 => S123x0  k [s0,v51x39,s2,s3,s4,s5,s6,s7,s8,s9,s10,s11,s12,s13,s7,v15x6,
 v15x6,v17x7,v18x8,v19x9,v20x10,v21x12,v22x14,v23x15,s24,s25,s7,v27x17,v27x17,v29x18,v30x19,v31x20,v32x21,v33x23,v34x24,v34x24,v36x25,v37x26,v38x27,v39x28,v40x30,v41x31,s7,v43x32,v44x33,s1,v46x36,
 s0,v46x36,v49x37,v46x36,v51x39,s52,s53,s54,s55,s56,s57,s58,s59,s60,s61,s62,s63,s64,s65,s66,s67,s68,s69,s70,s71,s72,s73,s74,s75,s76,s77,s78,s79,s80,s81,s82,s83,s84,s85,s86,s87,s88,s89,
 s90,s91,s92,s93,s94,s95,s96,s97,s98,s99,s100,s101,s102,s103,s104,s105,s106,s107,s108,s109,s110,s111,s112,s113,s114,s115,s116,s117,s118,s119,s120,s121,s122,s123,s124,s125,s126,s127,s128,
 s129,s130,s131,s132,s133,s134,s135,s136,s137,s138,s139,s140,s141,s142,s143,s144,s145,s146,s147,s148,s149,s150,s151,s152,s153,s154,s155,s156,s157,s158,s159,s160,s161,s162,s163,s164,s165,s166,
 s167] H38⟩⟩ ⟨∃ n,L123x1 n  k [s0,v46x36,s2,s3,s4,s5,s6,s7,s8,s9,s10,s11,s12,s13,s7,v15x6,v15x6,v17x7,v18x8,v19x9,v20x10,v21x12,v22x14,v23x15,s24,s25,s7,v27x17,v27x17,v29x18,v30x19,v31x20,v32x21,
 v33x23,v34x24,v34x24,v36x25,v37x26,v38x27,v39x28,v40x30,v41x31,s7,v43x32,v44x33,s1,v46x36,s0,v46x36,v49x37,s50,s51,s52,s53,s54,s55,s56,s57,s58,s59,s60,s61,s62,s63,s64,s65,s66,s67,s68,s69,
 s70,s71,s72,s73,s74,s75,s76,s77,s78,s79,s80,s81,s82,s83,s84,s85,s86,s87,s88,s89,s90,s91,s92,s93,s94,s95,s96,s97,s98,s99,s100,s101,s102,s103,s104,s105,s106,s107,s108,s109,s110,s111,s112,
 s113,s114,s115,s116,s117,s118,s119,s120,s121,s122,s123,s124,s125,s126,s127,s128,s129,s130,s131,s132,s133,s134,s135,s136,s137,s138,s139,s140,s141,s142,s143,s144,s145,s146,s147,s148,s149,s150,
 s151,s152,s153,s154,s155,s156,s157,s158,s159,s160,s161,s162,s163,s164,s165,s166,s167] H38⟩⟩⟩⟩⟩⟩⟩⟩⟩⟩⟩⟩⟩⟩⟩⟩⟩⟩⟩⟩⟩⟩⟩⟩⟩⟩⟩⟩⟩) := by kernel_rfl
theorem S123x0q (s0 s1 s2 s3 s4 s5 s6 s7 s8 s9 s10 s11 s12 s13 s14 s15 s16 s17 s18 s19 s20 s21 s22 s23 s24 s25 s26 s27 s28 s29 s30 s31 s32 s33 s34 s35 s36 s37 s38 s39 s40 s41 s42 s43 s44 s45 s46 s47 s48 s49 s50 s51 s52 s53 s54
 s55 s56 s57 s58 s59 s60 s61 s62 s63 s64 s65 s66 s67 s68 s69 s70 s71 s72 s73 s74 s75 s76 s77 s78 s79 s80 s81 s82 s83 s84 s85 s86 s87 s88 s89 s90 s91 s92 s93 s94 s95 s96 s97 s98 s99 s100 s101 s102 s103 s104 s105 s106 s107 s108
 s109 s110 s111 s112 s113 s114 s115 s116 s117 s118 s119 s120 s121 s122 s123 s124 s125 s126 s127 s128 s129 s130 s131 s132 s133 s134 s135 s136 s137 s138 s139 s140 s141 s142 s143 s144 s145 s146 s147 s148 s149 s150 s151 s152 s153
 s154 s155 s156 s157 s158 s159 s160 s161 s162 s163 s164 s165 s166 s167 : Value) (H : AHeap) (k : Value → AHeap → Prop) : S123x0 k [s0,s1,s2,s3,s4,s5,s6,s7,s8,s9,s10,s11,s12,s13,s14,s15,s16,s17,s18,s19,s20,
 s21,s22,s23,s24,s25,s26,s27,s28,s29,s30,s31,s32,s33,s34,s35,s36,s37,s38,s39,s40,s41,s42,s43,s44,s45,s46,s47,s48,s49,s50,s51,s52,s53,s54,s55,s56,s57,s58,s59,s60,s61,s62,s63,s64,s65,
 s66,s67,s68,s69,s70,s71,s72,s73,s74,s75,s76,s77,s78,s79,s80,s81,s82,s83,s84,s85,s86,s87,s88,s89,s90,s91,s92,s93,s94,s95,s96,s97,s98,s99,s100,s101,s102,s103,s104,s105,s106,s107,s108,
 s109,s110,s111,s112,s113,s114,s115,s116,s117,s118,s119,s120,s121,s122,s123,s124,s125,s126,s127,s128,s129,s130,s131,s132,s133,s134,s135,s136,s137,s138,s139,s140,s141,s142,s143,s144,s145,s146,
 s147,s148,s149,s150,s151,s152,s153,s154,s155,s156,s157,s158,s159,s160,s161,s162,s163,s164,s165,s166,s167] H = (@bnd (aFieldAddr prog H 37 s6 2) ⟨fun v75x40 => @bnd (aLoad prog H 35 v75x40) ⟨fun
 v76x41 => @bndC prog 149 [v76x41] H ⟨fun v77x42 H43 => @bnd (unV prog .not v77x42) ⟨fun v78x44 => @bnd (gif v78x44 false ((some s0)) undef) ⟨fun v80x45 => @bnd (gif v78x44 false ((some s1)) undef) ⟨fun v81x46 => @bndG
 v78x44 false H43 ⟨fun v82x47 H48 => ACalls prog 95 [v80x45,v81x46,(.int .u8 4),(.string { data := #[91] })] H43 v82x47 H48⟩ ⟨fun v82x47 H48 => @bnd (gif v78x44 false (unV prog .not v82x47) undef) ⟨fun v83x49 =>
 @bnd (pickV v78x44 (.bool true) v83x49) ⟨fun v84x50 => @bnd (gif v84x50 false ((some s0)) undef) ⟨fun v86x51 => @bnd (gif v84x50 false ((some s1)) undef) ⟨fun v87x52 => @bnd (gif v84x50 false (aBin2 prog H48 .add 3 (.tmp
 87) (.const (.int .i64 1)) v87x52 (.int .i64 1)) undef) ⟨fun v88x53 => @bndG v84x50 false H48 ⟨fun v89x54 H55 => ACalls prog 95 [v86x51,v88x53,(.int .u8 2),(.string { data := #[42] })] H48 v89x54 H55⟩ ⟨fun v89x54 H55 =>
 @bnd (gif v84x50 false (unV prog .not v89x54) undef) ⟨fun v90x56 => @bnd (pickV v84x50 (.bool true) v90x56) ⟨fun v91x57 => @bnd (gif v91x57 false ((some s0)) undef) ⟨fun v93x58 => @bnd (gif v91x57 false ((some s1)) undef)
 ⟨fun v94x59 => @bnd (gif v91x57 false (aBin2 prog H55 .add 3 (.tmp 94) (.const (.int .i64 2)) v94x59 (.int .i64 2)) undef) ⟨fun v95x60 => @bndG v91x57 false H55 ⟨fun v96x61 H62 => ACalls prog 95 [v93x58,v95x60,(.int
 .u8 4),(.string { data := #[93] })] H55 v96x61 H62⟩ ⟨fun v96x61 H62 => @bnd (gif v91x57 false (unV prog .not v96x61) undef) ⟨fun v97x63 => @bnd (pickV v91x57 (.bool true) v97x63) ⟨fun v98x64 => @bnd (gif v98x64 false
 ((some s0)) undef) ⟨fun v100x65 => @bnd (gif v98x64 false ((some s1)) undef) ⟨fun v101x66 => @bnd (gif v98x64 false (aBin2 prog H62 .add 3 (.tmp 101) (.const (.int .i64 3)) v101x66 (.int .i64 3)) undef) ⟨fun v102x67 =>
 @bndG v98x64 false H62 ⟨fun v103x68 H69 => ACalls prog 95 [v100x65,v102x67,(.int .u8 4),(.string { data := #[41] })] H62 v103x68 H69⟩ ⟨fun v103x68 H69 => @bnd (gif v98x64 false (unV prog .not v103x68) undef) ⟨fun
 v104x70 => @bnd (pickV v98x64 (.bool true) v104x70) ⟨fun v105x71 => @kifB v105x71 ⟨k (.tuple #[(.slice none 0 0),(.int .i64 (-1))]) H69⟩ ⟨@bnd (aBin2 prog H69 .add 3 (.tmp 107) (.const (.int .i64 1)) s1 (.int .i64 1))
 ⟨fun v108x72 => @bnd (aIndexAddr prog H69 64 s0 v108x72) ⟨fun v109x73 => @bnd (aFieldAddr prog H69 72 v109x73 1) ⟨fun v110x74 => @bnd (aLoad prog H69 9 v110x74) ⟨fun v111x75 => @bndC prog 150 [v111x75] H69
 ⟨fun v112x76 H77 => @bnd (aFieldAddr prog H77 37 s6 3) ⟨fun v113x78 => @bndS (aStore prog H77 3 v113x78 v112x76) ⟨fun _ H80 => @bnd (aBin2 prog H80 .add 3 (.tmp 114) (.const (.int .i64 4)) s1 (.int .i64 4)) ⟨fun
 v115x81 => ∃ n,L123x2 n  k [s0,v115x81,s2,s3,s4,s5,s6,(.int .i64 0),s8,s9,s10,s11,s12,s13,s14,s15,s16,s17,s18,s19,s20,s21,s22,s23,s24,s25,s26,s27,s28,s29,s30,s31,s32,s33,s34,s35,s36,s37,
 s38,s39,s40,s41,s42,s43,s44,s45,s46,s47,s48,s49,s50,s51,s52,s53,s54,s55,s56,s57,s58,s59,s60,s61,s62,s63,s64,s65,s66,s67,s68,s69,s70,s71,s72,s73,s74,v75x40,v76x41,v77x42,v78x44,v78x44,
 v80x45,v81x46,v82x47,v83x49,v84x50,v84x50,v86x51,v87x52,v88x53,v89x54,v90x56,v91x57,v91x57,v93x58,v94x59,v95x60,v96x61,v97x63,v98x64,v98x64,v100x65,v101x66,v102x67,v103x68,v104x70,v105x71,s0,s1,
 v108x72,v109x73,v110x74,v111x75,v112x76,v113x78,s1,v115x81,s116,s117,s118,s119,s120,s121,s122,s123,s124,s125,s126,s127,s128,s129,s130,s131,s132,s133,s134,s135,s136,s137,s138,s139,s140,s141,
 s142,s143,s144,s145,s146,s147,s148,s149,s150,s151,s152,s153,s154,s155,s156,s157,s158,s159,s160,s161,s162,s163,s164,s165,s166,s167] H80⟩⟩⟩⟩⟩⟩⟩⟩⟩⟩⟩⟩⟩⟩⟩⟩⟩⟩⟩⟩⟩⟩⟩⟩⟩⟩⟩⟩⟩⟩⟩⟩⟩⟩⟩⟩) := by kernel_rfl
theorem L123x1q (n1 : Nat) (s0 s1 s2 s3 s4 s5 s6 s7 s8 s9 s10 s11 s12 s13 s14 s15 s16 s17 s18 s19 s20 s21 s22 s23 s24 s25 s26 s27 s28 s29 s30 s31 s32 s33 s34 s35 s36 s37 s38 s39 s40 s41 s42 s43 s44 s45 s46 s47 s48 s49 s50 s51 s52
 s53 s54 s55 s56 s57 s58 s59 s60 s61 s62 s63 s64 s65 s66 s67 s68 s69 s70 s71 s72 s73 s74 s75 s76 s77 s78 s79 s80 s81 s82 s83 s84 s85 s86 s87 s88 s89 s90 s91 s92 s93 s94 s95 s96 s97 s98 s99 s100 s101 s102 s103 s104 s105 s106 s107
 s108 s109 s110 s111 s112 s113 s114 s115 s116 s117 s118 s119 s120 s121 s122 s123 s124 s125 s126 s127 s128 s129 s130 s131 s132 s133 s134 s135 s136 s137 s138 s139 s140 s141 s142 s143 s144 s145 s146 s147 s148 s149 s150 s151 s152
 s153 s154 s155 s156 s157 s158 s159 s160 s161 s162 s163 s164 s165 s166 s167 : Value) (H : AHeap) (k : Value → AHeap → Prop) : L123x1 (n1 + 1) k [s0,s1,s2,s3,s4,s5,s6,s7,s8,s9,s10,s11,s12,s13,s14,s15,s16,s17,
 s18,s19,s20,s21,s22,s23,s24,s25,s26,s27,s28,s29,s30,s31,s32,s33,s34,s35,s36,s37,s38,s39,s40,s41,s42,s43,s44,s45,s46,s47,s48,s49,s50,s51,s52,s53,s54,s55,s56,s57,s58,s59,s60,s61,s62,
 s63,s64,s65,s66,s67,s68,s69,s70,s71,s72,s73,s74,s75,s76,s77,s78,s79,s80,s81,s82,s83,s84,s85,s86,s87,s88,s89,s90,s91,s92,s93,s94,s95,s96,s97,s98,s99,s100,s101,s102,s103,s104,s105,s106,
 s107,s108,s109,s110,s111,s112,s113,s114,s115,s116,s117,s118,s119,s120,s121,s122,s123,s124,s125,s126,s127,s128,s129,s130,s131,s132,s133,s134,s135,s136,s137,s138,s139,s140,s141,s142,s143,s144,
 s145,s146,s147,s148,s149,s150,s151,s152,s153,s154,s155,s156,s157,s158,s159,s160,s161,s162,s163,s164,s165,s166,s167] H = (@bndC prog 148 [s0,s1] H ⟨fun v55x82 H83 => @bnd (tupV v55x82 0) ⟨fun v56x84
 => @bnd (tupV v55x82 1) ⟨fun v57x85 => @bndE (aAlloc prog H83 75) ⟨fun v8x86 H87 => @bndS (aStore prog H87 75 v8x86 v56x84) ⟨fun _ H89 => @bnd (aBin2 prog H89 .lss 3 (.tmp 58) (.const (.int .i64 0)) v57x85 (.int
 .i64 0)) ⟨fun v59x90 => @kifB v59x90 ⟨k (.tuple #[(.slice none 0 0),(.int .i64 (-1))]) H89⟩ ⟨@bnd (aFieldAddr prog H89 37 s6 2) ⟨fun v60x91 => @bnd (aLoad prog H89 35 v60x91) ⟨fun v61x92 => @bnd (aLoad prog H89
 75 v8x86) ⟨fun v62x93 => @bndL prog H89 35 1 [(0,v62x93)] ⟨fun v63x94 H95 => @bndE (aBuiltin prog H95 Builtin.append #[35,35] [v61x92,v63x94]) ⟨fun v64x96 H97 => @bnd (aFieldAddr prog H97 37 s6 2) ⟨fun v65x98
 => @bndS (aStore prog H97 35 v65x98 v64x96) ⟨fun _ H100 => @bnd (aBin2 prog H100 .add 3 (.tmp 66) (.const (.int .i64 1)) v57x85 (.int .i64 1)) ⟨fun v67x101 => @bndC prog 95 [s0,v57x85,(.int .u8 4),(.string {
 data := #[125] })] H100 ⟨fun v70x102 H103 => @kifB v70x102 ⟨B123x0 n1 k [s0,v67x101,s2,s3,s4,s5,s6,s7,v8x86,v57x85,s10,s11,s12,s13,s14,s15,s16,s17,s18,s19,s20,s21,s22,s23,s24,s25,s26,s27,s28,s29,
 s30,s31,s32,s33,s34,s35,s36,s37,s38,s39,s40,s41,s42,s43,s44,s45,s46,s47,s48,s49,s50,s51,v55x82,s0,s1,v55x82,v56x84,v57x85,v57x85,v59x90,v60x91,v61x92,v62x93,v63x94,v64x96,v65x98,v57x85,
 v67x101,s0,v57x85,v70x102,s71,s72,s73,s74,s75,s76,s77,s78,s79,s80,s81,s82,s83,s84,s85,s86,s87,s88,s89,s90,s91,s92,s93,s94,s95,s96,s97,s98,s99,s100,s101,s102,s103,s104,s105,s106,s107,
 s108,s109,s110,s111,s112,s113,s114,s115,s116,s117,s118,s119,s120,s121,s122,s123,s124,s125,s126,s127,s128,s129,s130,s131,s132,s133,s134,s135,s136,s137,s138,s139,s140,s141,s142,s143,s144,s145,
 s146,s147,s148,s149,s150,s151,s152,s153,s154,s155,s156,s157,s158,s159,s160,s161,s162,s163,s164,s165,s166,s167] H103⟩ ⟨@bndC prog 95 [s0,v57x85,(.int .u8 4),(.string { data := #[44] })] H103 ⟨fun
 v73x104 H105 => @bnd (unV prog .not v73x104) ⟨fun v74x106 => @kifB v74x106 ⟨k (.tuple #[(.slice none 0 0),(.int .i64 (-1))]) H105⟩ ⟨L123x1 n1  k [s0,v67x101,s2,s3,s4,s5,s6,s7,v8x86,v57x85,s10,s11,s12,s13,
 s14,s15,s16,s17,s18,s19,s20,s21,s22,s23,s24,s25,s26,s27,s28,s29,s30,s31,s32,s33,s34,s35,s36,s37,s38,s39,s40,s41,s42,s43,s44,s45,s46,s47,s48,s49,s50,s51,v55x82,s0,s1,v55x82,v56x84,
 v57x85,v57x85,v59x90,v60x91,v61x92,v62x93,v63x94,v64x96,v65x98,v57x85,v67x101,s0,v57x85,v70x102,s0,v57x85,v73x104,v74x106,s75,s76,s77,s78,s79,s80,s81,s82,s83,s84,s85,s86,s87,s88,s89,s90,s91,
 s92,s93,s94,s95,s96,s97,s98,s99,s100,s101,s102,s103,s104,s105,s106,s107,s108,s109,s110,s111,s112,s113,s114,s115,s116,s117,s118,s119,s120,s121,s122,s123,s124,s125,s126,s127,s128,s129,s130,
 s131,s132,s133,s134,s135,s136,s137,s138,s139,s140,s141,s142,s143,s144,s145,s146,s147,s148,s149,s150,s151,s152,s153,s154,s155,s156,s157,s158,s159,s160,s161,s162,s163,s164,s165,s166,s167]
 H105⟩⟩⟩⟩⟩⟩⟩⟩⟩⟩⟩⟩⟩⟩⟩⟩⟩⟩⟩⟩) := by kernel_rfl
theorem L123x2q (n2 : Nat) (s0 s1 s2 s3 s4 s5 s6 s7 s8 s9 s10 s11 s12 s13 s14 s15 s16 s17 s18 s19 s20 s21 s22 s23 s24 s25 s26 s27 s28 s29 s30 s31 s32 s33 s34 s35 s36 s37 s38 s39 s40 s41 s42 s43 s44 s45 s46 s47 s48 s49 s50 s51 s52
 s53 s54 s55 s56 s57 s58 s59 s60 s61 s62 s63 s64 s65 s66 s67 s68 s69 s70 s71 s72 s73 s74 s75 s76 s77 s78 s79 s80 s81 s82 s83 s84 s85 s86 s87 s88 s89 s90 s91 s92 s93 s94 s95 s96 s97 s98 s99 s100 s101 s102 s103 s104 s105 s106 s107
 s108 s109 s110 s111 s112 s113 s114 s115 s116 s117 s118 s119 s120 s121 s122 s123 s124 s125 s126 s127 s128 s129 s130 s131 s132 s133 s134 s135 s136 s137 s138 s139 s140 s141 s142 s143 s144 s145 s146 s147 s148 s149 s150 s151 s152
 s153 s154 s155 s156 s157 s158 s159 s160 s161 s162 s163 s164 s165 s166 s167 : Value) (H : AHeap) (k : Value → AHeap → Prop) : L123x2 (n2 + 1) k [s0,s1,s2,s3,s4,s5,s6,s7,s8,s9,s10,s11,s12,s13,s14,s15,s16,s17,
 s18,s19,s20,s21,s22,s23,s24,s25,s26,s27,s28,s29,s30,s31,s32,s33,s34,s35,s36,s37,s38,s39,s40,s41,s42,s43,s44,s45,s46,s47,s48,s49,s50,s51,s52,s53,s54,s55,s56,s57,s58,s59,s60,s61,s62,
 s63,s64,s65,s66,s67,s68,s69,s70,s71,s72,s73,s74,s75,s76,s77,s78,s79,s80,s81,s82,s83,s84,s85,s86,s87,s88,s89,s90,s91,s92,s93,s94,s95,s96,s97,s98,s99,s100,s101,s102,s103,s104,s105,s106,
 s107,s108,s109,s110,s111,s112,s113,s114,s115,s116,s117,s118,s119,s120,s121,s122,s123,s124,s125,s126,s127,s128,s129,s130,s131,s132,s133,s134,s135,s136,s137,s138,s139,s140,s141,s142,s143,s144,
 s145,s146,s147,s148,s149,s150,s151,s152,s153,s154,s155,s156,s157,s158,s159,s160,s161,s162,s163,s164,s165,s166,s167] H = (@bnd (aBin2 prog H .lss 3 (.tmp 116) (.const (.int .i64 6)) s7 (.int .i64 6))
 ⟨fun v117x107 => @bnd (gif v117x107 true ((some s0)) undef) ⟨fun v119x108 => @bnd (gif v117x107 true ((some s1)) undef) ⟨fun v120x109 => @bnd (gif v117x107 true ((some s7)) undef) ⟨fun v121x110 => @bndG v117x107 true H ⟨fun
 v122x111 H112 => ACalls prog 53 [v121x110] H v122x111 H112⟩ ⟨fun v122x111 H112 => @bndG v117x107 true H112 ⟨fun v123x113 H114 => ACalls prog 95 [v119x108,v120x109,(.int .u8 4),v122x111] H112 v123x113 H114⟩ ⟨fun
 v123x113 H114 => @bnd (gif v117x107 true (unV prog .not v123x113) undef) ⟨fun v124x115 => @bnd (pickV v117x107 v124x115 (.bool false)) ⟨fun v125x116 => @kifB v125x116 ⟨@bnd (aBin2 prog H114 .add 3 (.tmp 126) (.const
 (.int .i64 1)) s7 (.int .i64 1)) ⟨fun v127x117 => L123x2 n2  k [s0,s1,s2,s3,s4,s5,s6,v127x117,s8,s9,s10,s11,s12,s13,s14,s15,s16,s17,s18,s19,s20,s21,s22,s23,s24,s25,s26,s27,s28,s29,s30,s31,s32,
 s33,s34,s35,s36,s37,s38,s39,s40,s41,s42,s43,s44,s45,s46,s47,s48,s49,s50,s51,s52,s53,s54,s55,s56,s57,s58,s59,s60,s61,s62,s63,s64,s65,s66,s67,s68,s69,s70,s71,s72,s73,s74,s75,s76,s77,
 s78,s79,s80,s81,s82,s83,s84,s85,s86,s87,s88,s89,s90,s91,s92,s93,s94,s95,s96,s97,s98,s99,s100,s101,s102,s103,s104,s105,s106,s107,s108,s109,s110,s111,s112,s113,s114,s115,s7,v117x107,
 v117x107,v119x108,v120x109,v121x110,v122x111,v123x113,v124x115,v125x116,s7,v127x117,s128,s129,s130,s131,s132,s133,s134,s135,s136,s137,s138,s139,s140,s141,s142,s143,s144,s145,s146,s147,s148,s149,
 s150,s151,s152,s153,s154,s155,s156,s157,s158,s159,s160,s161,s162,s163,s164,s165,s166,s167] H114⟩⟩ ⟨@bnd (aBin2 prog H114 .eql 3 (.tmp 128) (.const (.int .i64 6)) s7 (.int .i64 6)) ⟨fun v129x118 => @bnd
 (gif v129x118 false (aFieldAddr prog H114 37 s6 3) undef) ⟨fun v131x119 => @bnd (gif v129x118 false (aLoad prog H114 3 v131x119) undef) ⟨fun v132x120 => @bnd (gif v129x118 false (aBin2 prog H114 .eql 3 (.tmp 132)
 (.const (.int .i64 0)) v132x120 (.int .i64 0)) undef) ⟨fun v133x121 => @bnd (pickV v129x118 (.bool true) v133x121) ⟨fun v134x122 => @kifB v134x122 ⟨k (.tuple #[(.slice none 0 0),(.int .i64 (-1))]) H114⟩ ⟨@bnd (convV prog
 H114 3 5 s7) ⟨fun v136x123 => @bnd (aFieldAddr prog H114 37 s6 4) ⟨fun v137x124 => @bndS (aStore prog H114 5 v137x124 v136x123) ⟨fun _ H126 => @bnd (aBin2 prog H126 .add 3 (.tmp 138) (.const (.int .i64 1)) s1
 (.int .i64 1)) ⟨fun v139x127 => @bndC prog 95 [s0,v139x127,(.int .u8 4),(.string { data := #[45] })] H126 ⟨fun v142x128 H129 => @kifB v142x128 ⟨@bnd (aBin2 prog H129 .add 3 (.tmp 143) (.const (.int .i64 1))
 v139x127 (.int .i64 1)) ⟨fun v144x130 => S123x1  k [s0,v144x130,s2,s3,s4,s5,s6,s7,s8,s9,(.string { data := #[45] }),s11,s12,s13,s14,s15,s16,s17,s18,s19,s20,s21,s22,s23,s24,s25,s26,s27,s28,s29,s30,
 s31,s32,s33,s34,s35,s36,s37,s38,s39,s40,s41,s42,s43,s44,s45,s46,s47,s48,s49,s50,s51,s52,s53,s54,s55,s56,s57,s58,s59,s60,s61,s62,s63,s64,s65,s66,s67,s68,s69,s70,s71,s72,s73,s74,s75,
 s76,s77,s78,s79,s80,s81,s82,s83,s84,s85,s86,s87,s88,s89,s90,s91,s92,s93,s94,s95,s96,s97,s98,s99,s100,s101,s102,s103,s104,s105,s106,s107,s108,s109,s110,s111,s112,s113,s114,s115,s7,
 v117x107,v117x107,v119x108,v120x109,v121x110,v122x111,v123x113,v124x115,v125x116,s126,s127,s7,v129x118,v129x118,v131x119,v132x120,v133x121,v134x122,s7,v136x123,v137x124,s1,v139x127,s0,v139x127,v142x128,
 v139x127,v144x130,s145,s146,s147,s148,s149,s150,s151,s152,s153,s154,s155,s156,s157,s158,s159,s160,s161,s162,s163,s164,s165,s166,s167] H129⟩⟩ ⟨S123x1  k [s0,v139x127,s2,s3,s4,s5,s6,s7,s8,s9,
 (.string { data := #[] }),s11,s12,s13,s14,s15,s16,s17,s18,s19,s20,s21,s22,s23,s24,s25,s26,s27,s28,s29,s30,s31,s32,s33,s34,s35,s36,s37,s38,s39,s40,s41,s42,s43,s44,s45,s46,s47,s48,s49,s50,
 s51,s52,s53,s54,s55,s56,s57,s58,s59,s60,s61,s62,s63,s64,s65,s66,s67,s68,s69,s70,s71,s72,s73,s74,s75,s76,s77,s78,s79,s80,s81,s82,s83,s84,s85,s86,s87,s88,s89,s90,s91,s92,s93,s94,s95,
 s96,s97,s98,s99,s100,s101,s102,s103,s104,s105,s106,s107,s108,s109,s110,s111,s112,s113,s114,s115,s7,v117x107,v117x107,v119x108,v120x109,v121x110,v122x111,v123x113,v124x115,v125x116,s126,s127,s7,
 v129x118,v129x118,v131x119,v132x120,v133x121,v134x122,s7,v136x123,v137x124,s1,v139x127,s0,v139x127,v142x128,s143,s144,s145,s146,s147,s148,s149,s150,s151,s152,s153,s154,s155,s156,s157,s158,s159,
 s160,s161,s162,s163,s164,s165,s166,s167] H129⟩⟩⟩⟩⟩⟩⟩⟩⟩⟩⟩⟩⟩⟩⟩⟩⟩⟩⟩⟩⟩) := by kernel_rfl
theorem S123x1q (s0 s1 s2 s3 s4 s5 s6 s7 s8 s9 s10 s11 s12 s13 s14 s15 s16 s17 s18 s19 s20 s21 s22 s23 s24 s25 s26 s27 s28 s29 s30 s31 s32 s33 s34 s35 s36 s37 s38 s39 s40 s41 s42 s43 s44 s45 s46 s47 s48 s49 s50 s51 s52 s53 s54
 s55 s56 s57 s58 s59 s60 s61 s62 s63 s64 s65 s66 s67 s68 s69 s70 s71 s72 s73 s74 s75 s76 s77 s78 s79 s80 s81 s82 s83 s84 s85 s86 s87 s88 s89 s90 s91 s92 s93 s94 s95 s96 s97 s98 s99 s100 s101 s102 s103 s104 s105 s106 s107 s108
 s109 s110 s111 s112 s113 s114 s115 s116 s117 s118 s119 s120 s121 s122 s123 s124 s125 s126 s127 s128 s129 s130 s131 s132 s133 s134 s135 s136 s137 s138 s139 s140 s141 s142 s143 s144 s145 s146 s147 s148 s149 s150 s151 s152 s153
 s154 s155 s156 s157 s158 s159 s160 s161 s162 s163 s164 s165 s166 s167 : Value) (H : AHeap) (k : Value → AHeap → Prop) : S123x1 k [s0,s1,s2,s3,s4,s5,s6,s7,s8,s9,s10,s11,s12,s13,s14,s15,s16,s17,s18,s19,s20,
 s21,s22,s23,s24,s25,s26,s27,s28,s29,s30,s31,s32,s33,s34,s35,s36,s37,s38,s39,s40,s41,s42,s43,s44,s45,s46,s47,s48,s49,s50,s51,s52,s53,s54,s55,s56,s57,s58,s59,s60,s61,s62,s63,s64,s65,
 s66,s67,s68,s69,s70,s71,s72,s73,s74,s75,s76,s77,s78,s79,s80,s81,s82,s83,s84,s85,s86,s87,s88,s89,s90,s91,s92,s93,s94,s95,s96,s97,s98,s99,s100,s101,s102,s103,s104,s105,s106,s107,s108,
 s109,s110,s111,s112,s113,s114,s115,s116,s117,s118,s119,s120,s121,s122,s123,s124,s125,s126,s127,s128,s129,s130,s131,s132,s133,s134,s135,s136,s137,s138,s139,s140,s141,s142,s143,s144,s145,s146,
 s147,s148,s149,s150,s151,s152,s153,s154,s155,s156,s157,s158,s159,s160,s161,s162,s163,s164,s165,s166,s167] H = (@bndC prog 95 [s0,s1,(.int .u8 2),(.string { data := #[42] })] H ⟨fun v147x131 H132 =>
 @bnd (unV prog .not v147x131) ⟨fun v148x133 => @kifB v148x133 ⟨k (.tuple #[(.slice none 0 0),(.int .i64 (-1))]) H132⟩ ⟨@bnd (aIndexAddr prog H132 64 s0 s1) ⟨fun v153x134 => @bnd (aFieldAddr prog H132 72 v153x134
 1) ⟨fun v154x135 => @bnd (aLoad prog H132 9 v154x135) ⟨fun v155x136 => @bnd (aBin2 prog H132 .add 9 (.tmp 150) (.tmp 155) s10 v155x136) ⟨fun v156x137 => @bndC prog 151 [v156x137] H132 ⟨fun v157x138 H139 => @bnd
 (tupV v157x138 0) ⟨fun v158x140 => @bnd (tupV v157x138 1) ⟨fun v159x141 => @bnd (aBin2 prog H139 .neq 3 (.tmp 160) (.const (.int .i64 0)) v159x141 (.int .i64 0)) ⟨fun v161x142 => @kifB v161x142 ⟨k (.tuple #[(.slice none 0
 0),(.int .i64 (-1))]) H139⟩ ⟨@bnd (aFieldAddr prog H139 37 s6 5) ⟨fun v163x143 => @bndS (aStore prog H139 2 v163x143 v158x140) ⟨fun _ H145 => @bnd (aLoad prog H145 37 s6) ⟨fun v164x146 => @bndL prog H145 27
 1 [(0,v164x146)] ⟨fun v165x147 H148 => @bnd (aBin2 prog H148 .add 3 (.tmp 166) (.const (.int .i64 1)) s1 (.int .i64 1)) ⟨fun v167x149 => k (.tuple #[v165x147,v167x149]) H148⟩⟩⟩⟩⟩⟩⟩⟩⟩⟩⟩⟩⟩⟩⟩⟩⟩) := by kernel_rfl
-- internal/stringslite.IndexByte
theorem d125 (a0 a1 : Value) (H : AHeap) (k : Value → AHeap → Prop) : kbody prog Tryz.f125 [a0,a1] H k = (@bndC prog 116 [a0] H ⟨fun _ H2 => @bnd (nilV a0) ⟨fun v9x3 => @bnd (aFieldAddr prog H2 116 v9x3 1) ⟨fun
 v10x4 => @bnd (aLoad prog H2 55 v10x4) ⟨fun v11x5 => @bndL prog H2 55 1 [(0,a1)] ⟨fun v13x6 H7 => @bndE (aBuiltin prog H7 Builtin.append #[55,55] [v11x5,v13x6]) ⟨fun v14x8 H9 => @bnd (nilV a0) ⟨fun v15x10 =>
 @bnd (aFieldAddr prog H9 116 v15x10 1) ⟨fun v16x11 => @bndS (aStore prog H9 55 v16x11 v14x8) ⟨fun _ H13 => k .nilIface H13⟩⟩⟩⟩⟩⟩⟩⟩⟩) := by kernel_rfl
-- tocsin/expr.named
end Go.Vi
namespace Go.Vi
open Go Go.Proofs Go.Proofs.Tryz
-- tocsin/expr.ops
def L134x0 (n : Nat) (k : Value → AHeap → Prop) (sl : List Value) (H : AHeap) : Prop := kit prog (cl (cl (cl (cr (cb Tryz.f134))))) n (kblk 0 (kseq prog (cr (cr (cb Tryz.f134))) (kfin prog Tryz.f134 k))) .normal sl
 H
theorem d134 (a0 a1 : Value) (H : AHeap) (k : Value → AHeap → Prop) : kbody prog Tryz.f134 [a0,a1] H k = (∃ n,L134x0 n  k [a0,a1,undef,undef,(.string { data := #[] }),undef,undef,undef,undef,undef,undef,undef,
 undef,undef,undef,undef,undef,undef,undef,undef,undef,undef,undef] H) := by kernel_rfl
theorem L134x0q (n0 : Nat) (s0 s1 s2 s3 s4 s5 s6 s7 s8 s9 s10 s11 s12 s13 s14 s15 s16 s17 s18 s19 s20 s21 s22 : Value) (H : AHeap) (k : Value → AHeap → Prop) : L134x0 (n0 + 1) k [s0,s1,s2,s3,s4,s5,s6,s7,s8,s9,s10,s11,
 s12,s13,s14,s15,s16,s17,s18,s19,s20,s21,s22] H = (@bnd (aLen prog H 9 s0) ⟨fun v6x1 => @bnd (aBin2 prog H .gtr 3 (.tmp 6) (.const (.int .i64 0)) v6x1 (.int .i64 0)) ⟨fun v7x2 => @bnd (gif v7x2 true ((some
 s0)) undef) ⟨fun v9x3 => @bnd (gif v7x2 true ((some s0)) undef) ⟨fun v10x4 => @bnd (gif v7x2 true (aLen prog H 9 v10x4) undef) ⟨fun v11x5 => @bnd (gif v7x2 true (aBin2 prog H .sub 3 (.tmp 11) (.const (.int .i64 1))
 v11x5 (.int .i64 1)) undef) ⟨fun v12x6 => @bnd (gif v7x2 true (aIndex prog 9 v9x3 v12x6) undef) ⟨fun v13x7 => @bnd (gif v7x2 true ((some s1)) undef) ⟨fun v14x8 => @bnd (gif v7x2 true (aBin2 prog H .eql 5 (.tmp 13)
 (.tmp 14) v13x7 v14x8) undef) ⟨fun v15x9 => @bnd (pickV v7x2 v15x9 (.bool false)) ⟨fun v16x10 => @kifB v16x10 ⟨@bnd (aLen prog H 9 s0) ⟨fun v19x11 => @bnd (aBin2 prog H .sub 3 (.tmp 19) (.const (.int .i64 1)) v19x11
 (.int .i64 1)) ⟨fun v20x12 => @bnd (aSliceOp prog H 9 s0 none (some v20x12)) ⟨fun v21x13 => L134x0 n0  k [v21x13,s1,s2,s3,s4,s0,v6x1,v7x2,v7x2,v9x3,v10x4,v11x5,v12x6,v13x7,v14x8,v15x9,v16x10,s0,s0,
 v19x11,v20x12,v21x13,s22] H⟩⟩⟩⟩ ⟨k s0 H⟩⟩⟩⟩⟩⟩⟩⟩⟩⟩⟩) := by kernel_rfl
-- tocsin/labels.MayName
theorem d138 (a0 : Value) (H : AHeap) (k : Value → AHeap → Prop) : kbody prog Tryz.f138 [a0] H k = (@bnd (aLen prog H 9 a0) ⟨fun v4x1 => @bnd (aBin2 prog H .geq 3 (.tmp 4) (.const (.int .i64 1)) v4x1 (.int .i64 1))
 ⟨fun v5x2 => @bnd (gif v5x2 true ((some a0)) undef) ⟨fun v7x3 => @bnd (gif v5x2 true (aLen prog H 9 v7x3) undef) ⟨fun v8x4 => @bnd (gif v5x2 true (aBin2 prog H .leq 3 (.tmp 8) (.const (.int .i64 16)) v8x4 (.int .i64
 16)) undef) ⟨fun v9x5 => @bnd (pickV v5x2 v9x5 (.bool false)) ⟨fun v10x6 => @bnd (gif v10x6 true ((some a0)) undef) ⟨fun v12x7 => @bnd (gif v10x6 true (aIndex prog 9 v12x7 (.int .i64 0)) undef) ⟨fun v13x8 => @bndG v10x6
 true H ⟨fun v14x9 H10 => ACalls prog 162 [v13x8] H v14x9 H10⟩ ⟨fun v14x9 H10 => @bnd (pickV v10x6 v14x9 (.bool false)) ⟨fun v15x11 => @bnd (gif v15x11 true ((some a0)) undef) ⟨fun v17x12 => @bndG v15x11 true H10 ⟨fun
 v18x13 H14 => ACalls prog 163 [v17x12,(.func (.func 164) #[] #[])] H10 v18x13 H14⟩ ⟨fun v18x13 H14 => @bnd (pickV v15x11 v18x13 (.bool false)) ⟨fun v19x15 => k v19x15 H14⟩⟩⟩⟩⟩⟩⟩⟩⟩⟩⟩⟩⟩) := by kernel_rfl
-- tocsin/match.may
theorem d139 (a0 : Value) (H : AHeap) (k : Value → AHeap → Prop) : kbody prog Tryz.f139 [a0] H k = (@bnd (aBin2 prog H .eql 9 (.tmp 3) (.const (.string { data := #[] })) a0 (.string { data := #[] })) ⟨fun v4x1 => @bnd
 (gif v4x1 false ((some a0)) undef) ⟨fun v6x2 => @bndG v4x1 false H ⟨fun v7x3 H4 => ACalls prog 165 [v6x2] H v7x3 H4⟩ ⟨fun v7x3 H4 => @bnd (pickV v4x1 (.bool true) v7x3) ⟨fun v8x5 => k v8x5 H4⟩⟩⟩⟩) := by kernel_rfl
-- internal/strconv.small
theorem d142 (a0 : Value) (H : AHeap) (k : Value → AHeap → Prop) : kbody prog Tryz.f142 [a0] H k = (@bnd (aBin2 prog H .lss 3 (.tmp 3) (.const (.int .i64 10)) a0 (.int .i64 10)) ⟨fun v4x1 => @kifB v4x1 ⟨@bnd (aBin2
 prog H .add 3 (.tmp 6) (.const (.int .i64 1)) a0 (.int .i64 1)) ⟨fun v7x2 => @bnd (aSliceOp prog H 9 (.string dgS) (some a0) (some v7x2)) ⟨fun v8x3 => k v8x3 H⟩⟩⟩ ⟨@bnd (aBin2 prog H .mul 3 (.tmp 9) (.const (.int
 .i64 2)) a0 (.int .i64 2)) ⟨fun v10x4 => @bnd (aBin2 prog H .mul 3 (.tmp 11) (.const (.int .i64 2)) a0 (.int .i64 2)) ⟨fun v12x5 => @bnd (aBin2 prog H .add 3 (.tmp 12) (.const (.int .i64 2)) v12x5 (.int .i64 2)) ⟨fun
 v13x6 => @bnd (aSliceOp prog H 9 (.string smS) (some v10x4) (some v13x6)) ⟨fun v14x7 => k v14x7 H⟩⟩⟩⟩⟩⟩) := by kernel_rfl
-- internal/strconv.numDigits
theorem d143 (a0 : Value) (H : AHeap) (k : Value → AHeap → Prop) : kbody prog Tryz.f143 [a0] H k = (@bndC prog 167 [a0] H ⟨fun v5x1 H2 => @bndC prog 166 [v5x1] H2 ⟨fun v6x3 H4 => @bnd (aIndexAddr prog H4 200
 (.pointer (some ⟨1,0,none⟩)) v6x3) ⟨fun v10x5 => @bnd (aLoad prog H4 178 v10x5) ⟨fun v11x6 => @bnd (aBin2 prog H4 .geq 178 (.tmp 8) (.tmp 11) a0 v11x6) ⟨fun v12x7 => @bndC prog 168 [v12x7] H4 ⟨fun v13x8 H9 =>
 @bnd (aBin2 prog H9 .add 3 (.tmp 7) (.tmp 13) v6x3 v13x8) ⟨fun v14x10 => k v14x10 H9⟩⟩⟩⟩⟩⟩⟩) := by kernel_rfl
-- tocsin/tocsinref07.MayName
def L146x0 (n : Nat) (k : Value → AHeap → Prop) (sl : List Value) (H : AHeap) : Prop := kit prog (cl (cl (cr (cl (cr (cr (cb Tryz.f146))))))) n (kblk 0 (kseq prog (cr (cr (cr (cb Tryz.f146)))) (kfin prog Tryz.f146
 k))) .normal sl H
theorem d146 (a0 : Value) (H : AHeap) (k : Value → AHeap → Prop) : kbody prog Tryz.f146 [a0] H k = (@bnd (aLen prog H 9 a0) ⟨fun v5x1 => @bnd (aBin2 prog H .lss 3 (.tmp 5) (.const (.int .i64 1)) v5x1 (.int .i64 1))
 ⟨fun v6x2 => @bnd (gif v6x2 false ((some a0)) undef) ⟨fun v8x3 => @bnd (gif v6x2 false (aLen prog H 9 v8x3) undef) ⟨fun v9x4 => @bnd (gif v6x2 false (aBin2 prog H .gtr 3 (.tmp 9) (.const (.int .i64 16)) v9x4 (.int
 .i64 16)) undef) ⟨fun v10x5 => @bnd (pickV v6x2 (.bool true) v10x5) ⟨fun v11x6 => @bnd (gif v11x6 false ((some a0)) undef) ⟨fun v13x7 => @bnd (gif v11x6 false (aIndex prog 9 v13x7 (.int .i64 0)) undef) ⟨fun v14x8 => @bnd
 (gif v11x6 false (aBin2 prog H .lss 5 (.tmp 14) (.const (.int .u8 97)) v14x8 (.int .u8 97)) undef) ⟨fun v15x9 => @bnd (pickV v11x6 (.bool true) v15x9) ⟨fun v16x10 => @bnd (gif v16x10 false ((some a0)) undef) ⟨fun v18x11 =>
 @bnd (gif v16x10 false (aIndex prog 9 v18x11 (.int .i64 0)) undef) ⟨fun v19x12 => @bnd (gif v16x10 false (aBin2 prog H .gtr 5 (.tmp 19) (.const (.int .u8 122)) v19x12 (.int .u8 122)) undef) ⟨fun v20x13 => @bnd (pickV
 v16x10 (.bool true) v20x13) ⟨fun v21x14 => @kifB v21x14 ⟨k (.bool false) H⟩ ⟨∃ n,L146x0 n  k [a0,undef,(.bool false),(.int .i64 0),a0,v5x1,v6x2,v6x2,v8x3,v9x4,v10x5,v11x6,v11x6,v13x7,v14x8,v15x9,v16x10,v16x10,
 v18x11,v19x12,v20x13,v21x14,undef,undef,undef,undef,undef,undef,undef,undef,undef,undef,undef,undef,undef,undef,undef,undef,undef,undef,undef,undef,undef,undef,undef,undef,undef,undef,undef,undef,
 undef,undef,undef,undef,undef,undef,undef] H⟩⟩⟩⟩⟩⟩⟩⟩⟩⟩⟩⟩⟩⟩⟩) := by kernel_rfl
theorem L146x0q (n0 : Nat) (s0 s1 s2 s3 s4 s5 s6 s7 s8 s9 s10 s11 s12 s13 s14 s15 s16 s17 s18 s19 s20 s21 s22 s23 s24 s25 s26 s27 s28 s29 s30 s31 s32 s33 s34 s35 s36 s37 s38 s39 s40 s41 s42 s43 s44 s45 s46 s47 s48 s49 s50 s51 s52
 s53 s54 s55 s56 : Value) (H : AHeap) (k : Value → AHeap → Prop) : L146x0 (n0 + 1) k [s0,s1,s2,s3,s4,s5,s6,s7,s8,s9,s10,s11,s12,s13,s14,s15,s16,s17,s18,s19,s20,s21,s22,s23,s24,s25,s26,s27,s28,s29,
 s30,s31,s32,s33,s34,s35,s36,s37,s38,s39,s40,s41,s42,s43,s44,s45,s46,s47,s48,s49,s50,s51,s52,s53,s54,s55,s56] H = (@bnd (aLen prog H 9 s0) ⟨fun v24x15 => @bnd (aBin2 prog H .lss 3 (.tmp 22)
 (.tmp 24) s3 v24x15) ⟨fun v25x16 => @kifB v25x16 ⟨@bnd (aIndex prog 9 s0 s3) ⟨fun v30x17 => @bnd (aBin2 prog H .geq 5 (.tmp 30) (.const (.int .u8 97)) v30x17 (.int .u8 97)) ⟨fun v31x18 => @bnd (gif v31x18 true ((some
 s0)) undef) ⟨fun v33x19 => @bnd (gif v31x18 true ((some s3)) undef) ⟨fun v34x20 => @bnd (gif v31x18 true (aIndex prog 9 v33x19 v34x20) undef) ⟨fun v35x21 => @bnd (gif v31x18 true (aBin2 prog H .leq 5 (.tmp 35) (.const
 (.int .u8 122)) v35x21 (.int .u8 122)) undef) ⟨fun v36x22 => @bnd (pickV v31x18 v36x22 (.bool false)) ⟨fun v37x23 => @bnd (gif v37x23 false ((some s0)) undef) ⟨fun v39x24 => @bnd (gif v37x23 false ((some s3)) undef) ⟨fun v40x25
 => @bnd (gif v37x23 false (aIndex prog 9 v39x24 v40x25) undef) ⟨fun v41x26 => @bnd (gif v37x23 false (aBin2 prog H .geq 5 (.tmp 41) (.const (.int .u8 48)) v41x26 (.int .u8 48)) undef) ⟨fun v42x27 => @bnd (gif v37x23
 false ((some v42x27)) undef) ⟨fun v43x28 => @bnd (gif v43x28 true ((some s0)) undef) ⟨fun v44x29 => @bnd (gif v43x28 true ((some s3)) undef) ⟨fun v45x30 => @bnd (gif v43x28 true (aIndex prog 9 v44x29 v45x30) undef) ⟨fun
 v46x31 => @bnd (gif v43x28 true (aBin2 prog H .leq 5 (.tmp 46) (.const (.int .u8 57)) v46x31 (.int .u8 57)) undef) ⟨fun v47x32 => @bnd (gif v37x23 false (pickV v43x28 v47x32 (.bool false)) undef) ⟨fun v48x33 => @bnd (pickV
 v37x23 (.bool true) v48x33) ⟨fun v49x34 => @bnd (gif v49x34 false ((some s0)) undef) ⟨fun v51x35 => @bnd (gif v49x34 false ((some s3)) undef) ⟨fun v52x36 => @bnd (gif v49x34 false (aIndex prog 9 v51x35 v52x36) undef) ⟨fun
 v53x37 => @bnd (gif v49x34 false (aBin2 prog H .eql 5 (.tmp 53) (.const (.int .u8 95)) v53x37 (.int .u8 95)) undef) ⟨fun v54x38 => @bnd (pickV v49x34 (.bool true) v54x38) ⟨fun v55x39 => @bnd (unV prog .not v55x39)
 ⟨fun v56x40 => @kifB v56x40 ⟨k (.bool false) H⟩ ⟨@bnd (aBin2 prog H .add 3 (.tmp 26) (.const (.int .i64 1)) s3 (.int .i64 1)) ⟨fun v27x41 => L146x0 n0  k [s0,s1,s2,v27x41,s4,s5,s6,s7,s8,s9,s10,s11,s12,s13,
 s14,s15,s16,s17,s18,s19,s20,s21,s3,s0,v24x15,v25x16,s3,v27x41,s0,s3,v30x17,v31x18,v31x18,v33x19,v34x20,v35x21,v36x22,v37x23,v37x23,v39x24,v40x25,v41x26,v42x27,v43x28,v44x29,v45x30,v46x31,v47x32,
 v48x33,v49x34,v49x34,v51x35,v52x36,v53x37,v54x38,v55x39,v56x40] H⟩⟩⟩⟩⟩⟩⟩⟩⟩⟩⟩⟩⟩⟩⟩⟩⟩⟩⟩⟩⟩⟩⟩⟩⟩⟩⟩ ⟨k (.bool true) H⟩⟩⟩) := by kernel_rfl
-- tocsin/tocsinref09.digits
def L147x0 (n : Nat) (k : Value → AHeap → Prop) (sl : List Value) (H : AHeap) : Prop := kit prog (cl (cl (cr (cl (cr (cb Tryz.f147)))))) n (kblk 0 (kseq prog (cr (cr (cb Tryz.f147))) (kfin prog Tryz.f147 k)))
 .normal sl H
theorem d147 (a0 : Value) (H : AHeap) (k : Value → AHeap → Prop) : kbody prog Tryz.f147 [a0] H k = (∃ n,L147x0 n  k [a0,undef,(.bool false),(.int .i64 0),undef,undef,undef,undef,undef,undef,undef,undef,undef,
 undef,undef,undef,undef,undef,undef,undef,undef,undef] H) := by kernel_rfl
theorem L147x0q (n0 : Nat) (s0 s1 s2 s3 s4 s5 s6 s7 s8 s9 s10 s11 s12 s13 s14 s15 s16 s17 s18 s19 s20 s21 : Value) (H : AHeap) (k : Value → AHeap → Prop) : L147x0 (n0 + 1) k [s0,s1,s2,s3,s4,s5,s6,s7,s8,s9,s10,s11,s12,
 s13,s14,s15,s16,s17,s18,s19,s20,s21] H = (@bnd (aLen prog H 9 s0) ⟨fun v6x1 => @bnd (aBin2 prog H .lss 3 (.tmp 4) (.tmp 6) s3 v6x1) ⟨fun v7x2 => @kifB v7x2 ⟨@bnd (aIndex prog 9 s0 s3) ⟨fun v12x3 => @bnd
 (aBin2 prog H .lss 5 (.tmp 12) (.const (.int .u8 48)) v12x3 (.int .u8 48)) ⟨fun v13x4 => @bnd (gif v13x4 false ((some s0)) undef) ⟨fun v15x5 => @bnd (gif v13x4 false ((some s3)) undef) ⟨fun v16x6 => @bnd (gif v13x4 false
 (aIndex prog 9 v15x5 v16x6) undef) ⟨fun v17x7 => @bnd (gif v13x4 false (aBin2 prog H .gtr 5 (.tmp 17) (.const (.int .u8 57)) v17x7 (.int .u8 57)) undef) ⟨fun v18x8 => @bnd (pickV v13x4 (.bool true) v18x8) ⟨fun v19x9
 => @kifB v19x9 ⟨k (.bool false) H⟩ ⟨@bnd (aBin2 prog H .add 3 (.tmp 8) (.const (.int .i64 1)) s3 (.int .i64 1)) ⟨fun v9x10 => L147x0 n0  k [s0,s1,s2,v9x10,s3,s0,v6x1,v7x2,s3,v9x10,s0,s3,v12x3,v13x4,v13x4,
 v15x5,v16x6,v17x7,v18x8,v19x9,s20,s21] H⟩⟩⟩⟩⟩⟩⟩⟩⟩⟩ ⟨@bnd (aBin2 prog H .neq 9 (.tmp 20) (.const (.string { data := #[] })) s0 (.string { data := #[] })) ⟨fun v21x11 => k v21x11 H⟩⟩⟩⟩) := by kernel_rfl
-- tocsin/tocsinref08.May
def L149x0 (n : Nat) (k : Value → AHeap → Prop) (sl : List Value) (H : AHeap) : Prop := kit prog (cl (cl (cr (cl (cr (cb Tryz.f149)))))) n (kblk 0 (kseq prog (cr (cr (cb Tryz.f149))) (kfin prog Tryz.f149 k)))
 .normal sl H
theorem d149 (a0 : Value) (H : AHeap) (k : Value → AHeap → Prop) : kbody prog Tryz.f149 [a0] H k = (∃ n,L149x0 n  k [a0,undef,(.bool false),(.int .i64 0),undef,undef,undef,undef,undef,undef,undef,undef,undef,
 undef,undef,undef,undef,undef,undef,undef,undef,undef,undef,undef,undef,undef,undef,undef,undef,undef,undef,undef,undef,undef,undef,undef,undef,undef,undef,undef,undef,undef,undef,undef,undef,
 undef] H) := by kernel_rfl
theorem L149x0q (n0 : Nat) (s0 s1 s2 s3 s4 s5 s6 s7 s8 s9 s10 s11 s12 s13 s14 s15 s16 s17 s18 s19 s20 s21 s22 s23 s24 s25 s26 s27 s28 s29 s30 s31 s32 s33 s34 s35 s36 s37 s38 s39 s40 s41 s42 s43 s44 s45 : Value) (H : AHeap) (k :
 Value → AHeap → Prop) : L149x0 (n0 + 1) k [s0,s1,s2,s3,s4,s5,s6,s7,s8,s9,s10,s11,s12,s13,s14,s15,s16,s17,s18,s19,s20,s21,s22,s23,s24,s25,s26,s27,s28,s29,s30,s31,s32,s33,s34,s35,s36,s37,s38,
 s39,s40,s41,s42,s43,s44,s45] H = (@bnd (aLen prog H 35 s0) ⟨fun v6x1 => @bnd (aBin2 prog H .lss 3 (.tmp 4) (.tmp 6) s3 v6x1) ⟨fun v7x2 => @kifB v7x2 ⟨@bnd (aIndexAddr prog H 35 s0 s3) ⟨fun v12x3 => @bnd
 (aFieldAddr prog H 75 v12x3 1) ⟨fun v13x4 => @bnd (aLoad prog H 5 v13x4) ⟨fun v14x5 => @bnd (aBin2 prog H .gtr 5 (.tmp 14) (.const (.int .u8 2)) v14x5 (.int .u8 2)) ⟨fun v15x6 => @bnd (gif v15x6 false ((some s0))
 undef) ⟨fun v17x7 => @bnd (gif v15x6 false ((some s3)) undef) ⟨fun v18x8 => @bnd (gif v15x6 false (aIndexAddr prog H 35 v17x7 v18x8) undef) ⟨fun v19x9 => @bnd (gif v15x6 false (aFieldAddr prog H 75 v19x9 0) undef)
 ⟨fun v20x10 => @bnd (gif v15x6 false (aLoad prog H 9 v20x10) undef) ⟨fun v21x11 => @bndG v15x6 false H ⟨fun v22x12 H13 => ACalls prog 146 [v21x11] H v22x12 H13⟩ ⟨fun v22x12 H13 => @bnd (gif v15x6 false (unV prog
 .not v22x12) undef) ⟨fun v23x14 => @bnd (pickV v15x6 (.bool true) v23x14) ⟨fun v24x15 => @bnd (gif v24x15 false ((some s0)) undef) ⟨fun v26x16 => @bnd (gif v24x15 false ((some s3)) undef) ⟨fun v27x17 => @bnd (gif v24x15 false
 (aIndexAddr prog H13 35 v26x16 v27x17) undef) ⟨fun v28x18 => @bnd (gif v24x15 false (aFieldAddr prog H13 75 v28x18 2) undef) ⟨fun v29x19 => @bnd (gif v24x15 false (aLoad prog H13 9 v29x19) undef) ⟨fun v30x20 =>
 @bnd (gif v24x15 false (aLen prog H13 9 v30x20) undef) ⟨fun v31x21 => @bnd (gif v24x15 false (aBin2 prog H13 .gtr 3 (.tmp 31) (.const (.int .i64 32)) v31x21 (.int .i64 32)) undef) ⟨fun v32x22 => @bnd (pickV v24x15
 (.bool true) v32x22) ⟨fun v33x23 => @bnd (gif v33x23 false ((some s0)) undef) ⟨fun v35x24 => @bnd (gif v33x23 false ((some s3)) undef) ⟨fun v36x25 => @bnd (gif v33x23 false (aIndexAddr prog H13 35 v35x24 v36x25) undef)
 ⟨fun v37x26 => @bnd (gif v33x23 false (aFieldAddr prog H13 75 v37x26 2) undef) ⟨fun v38x27 => @bnd (gif v33x23 false (aLoad prog H13 9 v38x27) undef) ⟨fun v39x28 => @bndG v33x23 false H13 ⟨fun v40x29 H30 => ACalls
 prog 92 [v39x28] H13 v40x29 H30⟩ ⟨fun v40x29 H30 => @bnd (gif v33x23 false (unV prog .not v40x29) undef) ⟨fun v41x31 => @bnd (pickV v33x23 (.bool true) v41x31) ⟨fun v42x32 => @kifB v42x32 ⟨k (.bool false) H30⟩ ⟨@bnd
 (aBin2 prog H30 .add 3 (.tmp 8) (.const (.int .i64 1)) s3 (.int .i64 1)) ⟨fun v9x33 => L149x0 n0  k [s0,s1,s2,v9x33,s3,s0,v6x1,v7x2,s3,v9x33,s0,s3,v12x3,v13x4,v14x5,v15x6,v15x6,v17x7,v18x8,v19x9,v20x10,
 v21x11,v22x12,v23x14,v24x15,v24x15,v26x16,v27x17,v28x18,v29x19,v30x20,v31x21,v32x22,v33x23,v33x23,v35x24,v36x25,v37x26,v38x27,v39x28,v40x29,v41x31,v42x32,s43,s44,s45] H30⟩⟩⟩⟩⟩⟩⟩⟩⟩⟩⟩⟩⟩⟩⟩⟩⟩⟩⟩⟩⟩⟩⟩⟩⟩⟩⟩⟩⟩⟩⟩
 ⟨@bnd (aLen prog H 35 s0) ⟨fun v44x34 => @bnd (aBin2 prog H .leq 3 (.tmp 44) (.const (.int .i64 6)) v44x34 (.int .i64 6)) ⟨fun v45x35 => k v45x35 H⟩⟩⟩⟩⟩) := by kernel_rfl
-- tocsin/tocsinref10.window
def L150x0 (n : Nat) (k : Value → AHeap → Prop) (sl : List Value) (H : AHeap) : Prop := kit prog (cl (cl (cr (cl (cr (cr (cb Tryz.f150))))))) n (kblk 0 (kseq prog (cr (cr (cr (cb Tryz.f150)))) (kfin prog Tryz.f150
 k))) .normal sl H
theorem d150 (a0 : Value) (H : AHeap) (k : Value → AHeap → Prop) : kbody prog Tryz.f150 [a0] H k = (∃ n,L150x0 n  k [a0,undef,(.int .i64 0),(.int .i64 0),(.int .i64 0),undef,undef,undef,undef,undef,undef,undef,
 undef,undef,undef,undef,undef,undef,undef,undef,undef,undef,undef,undef,undef,undef,undef,undef,undef,undef,undef,undef,undef,undef,undef,undef] H) := by kernel_rfl
theorem L150x0q (n0 : Nat) (s0 s1 s2 s3 s4 s5 s6 s7 s8 s9 s10 s11 s12 s13 s14 s15 s16 s17 s18 s19 s20 s21 s22 s23 s24 s25 s26 s27 s28 s29 s30 s31 s32 s33 s34 s35 : Value) (H : AHeap) (k : Value → AHeap → Prop) : L150x0 (n0 + 1) k
 [s0,s1,s2,s3,s4,s5,s6,s7,s8,s9,s10,s11,s12,s13,s14,s15,s16,s17,s18,s19,s20,s21,s22,s23,s24,s25,s26,s27,s28,s29,s30,s31,s32,s33,s34,s35] H = (@bnd (aLen prog H 9 s0) ⟨fun v7x1 => @bnd
 (aBin2 prog H .lss 3 (.tmp 5) (.tmp 7) s4 v7x1) ⟨fun v8x2 => @kifB v8x2 ⟨@bnd (aIndex prog 9 s0 s4) ⟨fun v13x3 => @bnd (aBin2 prog H .lss 5 (.tmp 13) (.const (.int .u8 48)) v13x3 (.int .u8 48)) ⟨fun v14x4 => @bnd
 (gif v14x4 false ((some s0)) undef) ⟨fun v16x5 => @bnd (gif v14x4 false ((some s4)) undef) ⟨fun v17x6 => @bnd (gif v14x4 false (aIndex prog 9 v16x5 v17x6) undef) ⟨fun v18x7 => @bnd (gif v14x4 false (aBin2 prog H .gtr
 5 (.tmp 18) (.const (.int .u8 57)) v18x7 (.int .u8 57)) undef) ⟨fun v19x8 => @bnd (pickV v14x4 (.bool true) v19x8) ⟨fun v20x9 => @bnd (gif v20x9 false ((some s3)) undef) ⟨fun v22x10 => @bnd (gif v20x9 false (aBin2 prog H
 .gtr 3 (.tmp 22) (.const (.int .i64 1000)) v22x10 (.int .i64 1000)) undef) ⟨fun v23x11 => @bnd (pickV v20x9 (.bool true) v23x11) ⟨fun v24x12 => @kifB v24x12 ⟨k (.int .i64 0) H⟩ ⟨@bnd (aBin2 prog H .mul 3 (.const (.int .i64
 10)) (.tmp 25) (.int .i64 10) s3) ⟨fun v26x13 => @bnd (aIndex prog 9 s0 s4) ⟨fun v29x14 => @bnd (aBin2 prog H .sub 5 (.tmp 29) (.const (.int .u8 48)) v29x14 (.int .u8 48)) ⟨fun v30x15 => @bnd (convV prog H 5 3
 v30x15) ⟨fun v31x16 => @bnd (aBin2 prog H .add 3 (.tmp 26) (.tmp 31) v26x13 v31x16) ⟨fun v32x17 => @bnd (aBin2 prog H .add 3 (.tmp 9) (.const (.int .i64 1)) s4 (.int .i64 1)) ⟨fun v10x18 => L150x0 n0  k [s0,s1,s2,
 v32x17,v10x18,s4,s0,v7x1,v8x2,s4,v10x18,s0,s4,v13x3,v14x4,v14x4,v16x5,v17x6,v18x7,v19x8,v20x9,v20x9,v22x10,v23x11,v24x12,s3,v26x13,s0,s4,v29x14,v30x15,v31x16,v32x17,s33,s34,s35]
 H⟩⟩⟩⟩⟩⟩⟩⟩⟩⟩⟩⟩⟩⟩⟩⟩⟩⟩ ⟨@bnd (aBin2 prog H .gtr 3 (.tmp 33) (.const (.int .i64 1000)) s3 (.int .i64 1000)) ⟨fun v34x19 => @kifB v34x19 ⟨k (.int .i64 0) H⟩ ⟨k s3 H⟩⟩⟩⟩⟩) := by kernel_rfl
-- tocsin/tocsinref01.Parse
def S151x0 (k : Value → AHeap → Prop) (sl : List Value) (H : AHeap) : Prop := kseq prog (cr (cr (cr (cr (cb Tryz.f151))))) (kfin prog Tryz.f151 k) .normal sl H
def L151x0 (n : Nat) (k : Value → AHeap → Prop) (sl : List Value) (H : AHeap) : Prop := kit prog (cl (cl (cl (cr (cr (cr (cr (cr (cr (cb Tryz.f151)))))))))) n (kblk 0 (kseq prog (cr (cr (cr (cr (cr (cr (cr (cb
 Tryz.f151)))))))) (kfin prog Tryz.f151 k))) .normal sl H
def L151x1 (n : Nat) (k : Value → AHeap → Prop) (sl : List Value) (H : AHeap) : Prop := kit prog (cl (cl (cl (cr (cl (cr (cl (cr (cr (cr (cr (cr (cr (cr (cr (cb Tryz.f151)))))))))))))))) n (kblk 2 (kseq prog (cr (cr (cl
 (cr (cl (cr (cr (cr (cr (cr (cr (cr (cr (cb Tryz.f151)))))))))))))) (kseq prog (cr (cr (cr (cr (cr (cr (cr (cr (cr (cb Tryz.f151)))))))))) (kfin prog Tryz.f151 k)))) .normal sl H
def S151x1 (k : Value → AHeap → Prop) (sl : List Value) (H : AHeap) : Prop := kseq prog (cr (cr (cr (cr (cr (cr (cr (cr (cr (cb Tryz.f151)))))))))) (kfin prog Tryz.f151 k) .normal sl H
def L151x2 (n : Nat) (k : Value → AHeap → Prop) (sl : List Value) (H : AHeap) : Prop := kit prog (cl (cl (cl (cr (cr (cr (cr (cr (cr (cr (cr (cr (cr (cb Tryz.f151)))))))))))))) n (kblk 4 (kseq prog (cr (cr (cr (cr (cr
 (cr (cr (cr (cr (cr (cr (cb Tryz.f151)))))))))))) (kfin prog Tryz.f151 k))) .normal sl H
theorem d151 (a0 : Value) (H : AHeap) (k : Value → AHeap → Prop) : kbody prog Tryz.f151 [a0] H k = (@bnd (aLen prog H 9 a0) ⟨fun v10x1 => @bnd (aBin2 prog H .gtr 3 (.tmp 10) (.const (.int .i64 0)) v10x1 (.int .i64
 0)) ⟨fun v11x2 => @bnd (gif v11x2 true ((some a0)) undef) ⟨fun v13x3 => @bnd (gif v11x2 true (aIndex prog 9 v13x3 (.int .i64 0)) undef) ⟨fun v14x4 => @bnd (gif v11x2 true (aBin2 prog H .eql 5 (.tmp 14) (.const (.int
 .u8 45)) v14x4 (.int .u8 45)) undef) ⟨fun v15x5 => @bnd (pickV v11x2 v15x5 (.bool false)) ⟨fun v16x6 => @kifB v16x6 ⟨S151x0  k [a0,undef,(.int .i64 0),(.int .i64 0),(.int .i64 1),v16x6,undef,undef,undef,a0,v10x1,
 v11x2,v11x2,v13x3,v14x4,v15x5,v16x6,v16x6,undef,undef,undef,undef,undef,undef,undef,undef,undef,undef,undef,undef,undef,undef,undef,undef,undef,undef,undef,undef,undef,undef,undef,undef,undef,
 undef,undef,undef,undef,undef,undef,undef,undef,undef,undef,undef,undef,undef,undef,undef,undef,undef,undef,undef,undef,undef,undef,undef,undef,undef,undef,undef,undef,undef,undef,undef,undef,
 undef,undef,undef,undef,undef,undef,undef,undef,undef,undef,undef,undef,undef,undef,undef,undef,undef] H⟩ ⟨S151x0  k [a0,undef,(.int .i64 0),(.int .i64 0),(.int .i64 0),v16x6,undef,undef,undef,a0,
 v10x1,v11x2,v11x2,v13x3,v14x4,v15x5,v16x6,v16x6,undef,undef,undef,undef,undef,undef,undef,undef,undef,undef,undef,undef,undef,undef,undef,undef,undef,undef,undef,undef,undef,undef,undef,undef,
 undef,undef,undef,undef,undef,undef,undef,undef,undef,undef,undef,undef,undef,undef,undef,undef,undef,undef,undef,undef,undef,undef,undef,undef,undef,undef,undef,undef,undef,undef,undef,undef,
 undef,undef,undef,undef,undef,undef,undef,undef,undef,undef,undef,undef,undef,undef,undef,undef,undef,undef] H⟩⟩⟩⟩⟩⟩⟩) := by kernel_rfl
theorem S151x0q (s0 s1 s2 s3 s4 s5 s6 s7 s8 s9 s10 s11 s12 s13 s14 s15 s16 s17 s18 s19 s20 s21 s22 s23 s24 s25 s26 s27 s28 s29 s30 s31 s32 s33 s34 s35 s36 s37 s38 s39 s40 s41 s42 s43 s44 s45 s46 s47 s48 s49 s50 s51 s52 s53 s54
 s55 s56 s57 s58 s59 s60 s61 s62 s63 s64 s65 s66 s67 s68 s69 s70 s71 s72 s73 s74 s75 s76 s77 s78 s79 s80 s81 s82 s83 s84 s85 s86 s87 s88 s89 s90 s91 : Value) (H : AHeap) (k : Value → AHeap → Prop) : S151x0 k [s0,s1,s2,s3,s4,
 s5,s6,s7,s8,s9,s10,s11,s12,s13,s14,s15,s16,s17,s18,s19,s20,s21,s22,s23,s24,s25,s26,s27,s28,s29,s30,s31,s32,s33,s34,s35,s36,s37,s38,s39,s40,s41,s42,s43,s44,s45,s46,s47,s48,s49,s50,
 s51,s52,s53,s54,s55,s56,s57,s58,s59,s60,s61,s62,s63,s64,s65,s66,s67,s68,s69,s70,s71,s72,s73,s74,s75,s76,s77,s78,s79,s80,s81,s82,s83,s84,s85,s86,s87,s88,s89,s90,s91] H = (∃ n,L151x0 n  k
 [s0,s1,s2,s3,s4,s5,(.int .i64 0),(.int .i64 0),s8,s9,s10,s11,s12,s13,s14,s15,s16,s17,s18,s19,s20,s21,s22,s23,s24,s25,s26,s27,s28,s29,s30,s31,s32,s33,s34,s35,s36,s37,s38,s39,s40,s41,s42,
 s43,s44,s45,s46,s47,s48,s49,s50,s51,s52,s53,s54,s55,s56,s57,s58,s59,s60,s61,s62,s63,s64,s65,s66,s67,s68,s69,s70,s71,s72,s73,s74,s75,s76,s77,s78,s79,s80,s81,s82,s83,s84,s85,s86,s87,
 s88,s89,s90,s91] H) := by kernel_rfl
theorem L151x0q (n0 : Nat) (s0 s1 s2 s3 s4 s5 s6 s7 s8 s9 s10 s11 s12 s13 s14 s15 s16 s17 s18 s19 s20 s21 s22 s23 s24 s25 s26 s27 s28 s29 s30 s31 s32 s33 s34 s35 s36 s37 s38 s39 s40 s41 s42 s43 s44 s45 s46 s47 s48 s49 s50 s51 s52
 s53 s54 s55 s56 s57 s58 s59 s60 s61 s62 s63 s64 s65 s66 s67 s68 s69 s70 s71 s72 s73 s74 s75 s76 s77 s78 s79 s80 s81 s82 s83 s84 s85 s86 s87 s88 s89 s90 s91 : Value) (H : AHeap) (k : Value → AHeap → Prop) : L151x0 (n0 + 1) k
 [s0,s1,s2,s3,s4,s5,s6,s7,s8,s9,s10,s11,s12,s13,s14,s15,s16,s17,s18,s19,s20,s21,s22,s23,s24,s25,s26,s27,s28,s29,s30,s31,s32,s33,s34,s35,s36,s37,s38,s39,s40,s41,s42,s43,s44,s45,s46,
 s47,s48,s49,s50,s51,s52,s53,s54,s55,s56,s57,s58,s59,s60,s61,s62,s63,s64,s65,s66,s67,s68,s69,s70,s71,s72,s73,s74,s75,s76,s77,s78,s79,s80,s81,s82,s83,s84,s85,s86,s87,s88,s89,s90,s91] H
 = (@bnd (aLen prog H 9 s0) ⟨fun v20x7 => @bnd (aBin2 prog H .lss 3 (.tmp 18) (.tmp 20) s4 v20x7) ⟨fun v21x8 => @bnd (gif v21x8 true ((some s0)) undef) ⟨fun v23x9 => @bnd (gif v21x8 true ((some s4)) undef) ⟨fun v24x10
 => @bnd (gif v21x8 true (aIndex prog 9 v23x9 v24x10) undef) ⟨fun v25x11 => @bndG v21x8 true H ⟨fun v26x12 H13 => ACalls prog 172 [v25x11] H v26x12 H13⟩ ⟨fun v26x12 H13 => @bnd (pickV v21x8 v26x12 (.bool false)) ⟨fun
 v27x14 => @kifB v27x14 ⟨@bnd (aIndex prog 9 s0 s4) ⟨fun v31x15 => @bndC prog 173 [s6,v31x15] H13 ⟨fun v32x16 H17 => @bnd (aBin2 prog H17 .add 3 (.tmp 33) (.const (.int .i64 1)) s7 (.int .i64 1)) ⟨fun v34x18 =>
 @bnd (aBin2 prog H17 .add 3 (.tmp 35) (.const (.int .i64 1)) s4 (.int .i64 1)) ⟨fun v36x19 => L151x0 n0  k [s0,s1,s2,s3,v36x19,s5,v32x16,v34x18,s8,s9,s10,s11,s12,s13,s14,s15,s16,s17,s4,s0,v20x7,v21x8,
 v21x8,v23x9,v24x10,v25x11,v26x12,v27x14,s6,s0,s4,v31x15,v32x16,s7,v34x18,s4,v36x19,s37,s38,s39,s40,s41,s42,s43,s44,s45,s46,s47,s48,s49,s50,s51,s52,s53,s54,s55,s56,s57,s58,s59,s60,s61,s62,
 s63,s64,s65,s66,s67,s68,s69,s70,s71,s72,s73,s74,s75,s76,s77,s78,s79,s80,s81,s82,s83,s84,s85,s86,s87,s88,s89,s90,s91] H17⟩⟩⟩⟩⟩ ⟨@bnd (aLen prog H13 9 s0) ⟨fun v39x20 => @bnd (aBin2 prog H13
 .lss 3 (.tmp 37) (.tmp 39) s4 v39x20) ⟨fun v40x21 => @bnd (gif v40x21 true ((some s0)) undef) ⟨fun v42x22 => @bnd (gif v40x21 true ((some s4)) undef) ⟨fun v43x23 => @bnd (gif v40x21 true (aIndex prog 9 v42x22 v43x23)
 undef) ⟨fun v44x24 => @bnd (gif v40x21 true (aBin2 prog H13 .eql 5 (.tmp 44) (.const (.int .u8 46)) v44x24 (.int .u8 46)) undef) ⟨fun v45x25 => @bnd (pickV v40x21 v45x25 (.bool false)) ⟨fun v46x26 => @kifB v46x26 ⟨@bnd
 (aBin2 prog H13 .add 3 (.tmp 47) (.const (.int .i64 1)) s4 (.int .i64 1)) ⟨fun v48x27 => ∃ n,L151x1 n  k [s0,s1,s2,s3,v48x27,s5,s6,s7,(.int .i64 0),s9,s10,s11,s12,s13,s14,s15,s16,s17,s4,s0,v20x7,
 v21x8,v21x8,v23x9,v24x10,v25x11,v26x12,v27x14,s28,s29,s30,s31,s32,s33,s34,s35,s36,s4,s0,v39x20,v40x21,v40x21,v42x22,v43x23,v44x24,v45x25,v46x26,s4,v48x27,s49,s50,s51,s52,s53,s54,s55,s56,s57,
 s58,s59,s60,s61,s62,s63,s64,s65,s66,s67,s68,s69,s70,s71,s72,s73,s74,s75,s76,s77,s78,s79,s80,s81,s82,s83,s84,s85,s86,s87,s88,s89,s90,s91] H13⟩⟩ ⟨S151x1  k [s0,s1,s2,s3,s4,s5,s6,s7,(.int
 .i64 0),s9,s10,s11,s12,s13,s14,s15,s16,s17,s4,s0,v20x7,v21x8,v21x8,v23x9,v24x10,v25x11,v26x12,v27x14,s28,s29,s30,s31,s32,s33,s34,s35,s36,s4,s0,v39x20,v40x21,v40x21,v42x22,v43x23,v44x24,
 v45x25,v46x26,s47,s48,s49,s50,s51,s52,s53,s54,s55,s56,s57,s58,s59,s60,s61,s62,s63,s64,s65,s66,s67,s68,s69,s70,s71,s72,s73,s74,s75,s76,s77,s78,s79,s80,s81,s82,s83,s84,s85,s86,s87,s88,
 s89,s90,s91] H13⟩⟩⟩⟩⟩⟩⟩⟩⟩⟩⟩⟩⟩⟩⟩⟩) := by kernel_rfl
theorem L151x1q (n1 : Nat) (s0 s1 s2 s3 s4 s5 s6 s7 s8 s9 s10 s11 s12 s13 s14 s15 s16 s17 s18 s19 s20 s21 s22 s23 s24 s25 s26 s27 s28 s29 s30 s31 s32 s33 s34 s35 s36 s37 s38 s39 s40 s41 s42 s43 s44 s45 s46 s47 s48 s49 s50 s51 s52
 s53 s54 s55 s56 s57 s58 s59 s60 s61 s62 s63 s64 s65 s66 s67 s68 s69 s70 s71 s72 s73 s74 s75 s76 s77 s78 s79 s80 s81 s82 s83 s84 s85 s86 s87 s88 s89 s90 s91 : Value) (H : AHeap) (k : Value → AHeap → Prop) : L151x1 (n1 + 1) k
 [s0,s1,s2,s3,s4,s5,s6,s7,s8,s9,s10,s11,s12,s13,s14,s15,s16,s17,s18,s19,s20,s21,s22,s23,s24,s25,s26,s27,s28,s29,s30,s31,s32,s33,s34,s35,s36,s37,s38,s39,s40,s41,s42,s43,s44,s45,s46,
 s47,s48,s49,s50,s51,s52,s53,s54,s55,s56,s57,s58,s59,s60,s61,s62,s63,s64,s65,s66,s67,s68,s69,s70,s71,s72,s73,s74,s75,s76,s77,s78,s79,s80,s81,s82,s83,s84,s85,s86,s87,s88,s89,s90,s91] H
 = (@bnd (aLen prog H 9 s0) ⟨fun v51x28 => @bnd (aBin2 prog H .lss 3 (.tmp 49) (.tmp 51) s4 v51x28) ⟨fun v52x29 => @bnd (gif v52x29 true ((some s0)) undef) ⟨fun v54x30 => @bnd (gif v52x29 true ((some s4)) undef) ⟨fun
 v55x31 => @bnd (gif v52x29 true (aIndex prog 9 v54x30 v55x31) undef) ⟨fun v56x32 => @bndG v52x29 true H ⟨fun v57x33 H34 => ACalls prog 172 [v56x32] H v57x33 H34⟩ ⟨fun v57x33 H34 => @bnd (pickV v52x29 v57x33 (.bool
 false)) ⟨fun v58x35 => @kifB v58x35 ⟨@bnd (aIndex prog 9 s0 s4) ⟨fun v62x36 => @bndC prog 173 [s6,v62x36] H34 ⟨fun v63x37 H38 => @bnd (aBin2 prog H38 .add 3 (.tmp 64) (.const (.int .i64 1)) s8 (.int .i64 1))
 ⟨fun v65x39 => @bnd (aBin2 prog H38 .add 3 (.tmp 66) (.const (.int .i64 1)) s4 (.int .i64 1)) ⟨fun v67x40 => L151x1 n1  k [s0,s1,s2,s3,v67x40,s5,v63x37,s7,v65x39,s9,s10,s11,s12,s13,s14,s15,s16,s17,s18,
 s19,s20,s21,s22,s23,s24,s25,s26,s27,s28,s29,s30,s31,s32,s33,s34,s35,s36,s37,s38,s39,s40,s41,s42,s43,s44,s45,s46,s47,s48,s4,s0,v51x28,v52x29,v52x29,v54x30,v55x31,v56x32,v57x33,v58x35,s6,
 s0,s4,v62x36,v63x37,s8,v65x39,s4,v67x40,s68,s69,s70,s71,s72,s73,s74,s75,s76,s77,s78,s79,s80,s81,s82,s83,s84,s85,s86,s87,s88,s89,s90,s91] H38⟩⟩⟩⟩⟩ ⟨@bnd (aBin2 prog H34 .eql 3 (.tmp 68)
 (.const (.int .i64 0)) s8 (.int .i64 0)) ⟨fun v69x41 => @kifB v69x41 ⟨k (.tuple #[(.int .i64 0),(.int .i64 10)]) H34⟩ ⟨S151x1  k [s0,s1,s2,s3,s4,s5,s6,s7,s8,s9,s10,s11,s12,s13,s14,s15,s16,s17,s18,s19,s20,
 s21,s22,s23,s24,s25,s26,s27,s28,s29,s30,s31,s32,s33,s34,s35,s36,s37,s38,s39,s40,s41,s42,s43,s44,s45,s46,s47,s48,s4,s0,v51x28,v52x29,v52x29,v54x30,v55x31,v56x32,v57x33,v58x35,s59,s60,s61,
 s62,s63,s64,s65,s66,s67,s8,v69x41,s70,s71,s72,s73,s74,s75,s76,s77,s78,s79,s80,s81,s82,s83,s84,s85,s86,s87,s88,s89,s90,s91] H34⟩⟩⟩⟩⟩⟩⟩⟩⟩⟩) := by kernel_rfl
theorem S151x1q (s0 s1 s2 s3 s4 s5 s6 s7 s8 s9 s10 s11 s12 s13 s14 s15 s16 s17 s18 s19 s20 s21 s22 s23 s24 s25 s26 s27 s28 s29 s30 s31 s32 s33 s34 s35 s36 s37 s38 s39 s40 s41 s42 s43 s44 s45 s46 s47 s48 s49 s50 s51 s52 s53 s54
 s55 s56 s57 s58 s59 s60 s61 s62 s63 s64 s65 s66 s67 s68 s69 s70 s71 s72 s73 s74 s75 s76 s77 s78 s79 s80 s81 s82 s83 s84 s85 s86 s87 s88 s89 s90 s91 : Value) (H : AHeap) (k : Value → AHeap → Prop) : S151x1 k [s0,s1,s2,s3,s4,
 s5,s6,s7,s8,s9,s10,s11,s12,s13,s14,s15,s16,s17,s18,s19,s20,s21,s22,s23,s24,s25,s26,s27,s28,s29,s30,s31,s32,s33,s34,s35,s36,s37,s38,s39,s40,s41,s42,s43,s44,s45,s46,s47,s48,s49,s50,
 s51,s52,s53,s54,s55,s56,s57,s58,s59,s60,s61,s62,s63,s64,s65,s66,s67,s68,s69,s70,s71,s72,s73,s74,s75,s76,s77,s78,s79,s80,s81,s82,s83,s84,s85,s86,s87,s88,s89,s90,s91] H = (@bnd (aBin2
 prog H .eql 3 (.tmp 70) (.const (.int .i64 0)) s7 (.int .i64 0)) ⟨fun v71x42 => @bnd (gif v71x42 false ((some s8)) undef) ⟨fun v73x43 => @bnd (gif v71x42 false (aBin2 prog H .gtr 3 (.tmp 73) (.const (.int .i64 3))
 v73x43 (.int .i64 3)) undef) ⟨fun v74x44 => @bnd (pickV v71x42 (.bool true) v74x44) ⟨fun v75x45 => @bnd (gif v75x45 false ((some s4)) undef) ⟨fun v77x46 => @bnd (gif v75x45 false ((some s0)) undef) ⟨fun v78x47 => @bnd (gif
 v75x45 false (aLen prog H 9 v78x47) undef) ⟨fun v79x48 => @bnd (gif v75x45 false (aBin2 prog H .neq 3 (.tmp 77) (.tmp 79) v77x46 v79x48) undef) ⟨fun v80x49 => @bnd (pickV v75x45 (.bool true) v80x49) ⟨fun v81x50 =>
 @kifB v81x50 ⟨k (.tuple #[(.int .i64 0),(.int .i64 10)]) H⟩ ⟨∃ n,L151x2 n  k [s0,s1,s2,s3,s4,s5,s6,s7,s8,s9,s10,s11,s12,s13,s14,s15,s16,s17,s18,s19,s20,s21,s22,s23,s24,s25,s26,s27,s28,s29,s30,
 s31,s32,s33,s34,s35,s36,s37,s38,s39,s40,s41,s42,s43,s44,s45,s46,s47,s48,s49,s50,s51,s52,s53,s54,s55,s56,s57,s58,s59,s60,s61,s62,s63,s64,s65,s66,s67,s68,s69,s7,v71x42,v71x42,v73x43,
 v74x44,v75x45,v75x45,v77x46,v78x47,v79x48,v80x49,v81x50,s82,s83,s84,s85,s86,s87,s88,s89,s90,s91] H⟩⟩⟩⟩⟩⟩⟩⟩⟩⟩) := by kernel_rfl
theorem L151x2q (n2 : Nat) (s0 s1 s2 s3 s4 s5 s6 s7 s8 s9 s10 s11 s12 s13 s14 s15 s16 s17 s18 s19 s20 s21 s22 s23 s24 s25 s26 s27 s28 s29 s30 s31 s32 s33 s34 s35 s36 s37 s38 s39 s40 s41 s42 s43 s44 s45 s46 s47 s48 s49 s50 s51 s52
 s53 s54 s55 s56 s57 s58 s59 s60 s61 s62 s63 s64 s65 s66 s67 s68 s69 s70 s71 s72 s73 s74 s75 s76 s77 s78 s79 s80 s81 s82 s83 s84 s85 s86 s87 s88 s89 s90 s91 : Value) (H : AHeap) (k : Value → AHeap → Prop) : L151x2 (n2 + 1) k
 [s0,s1,s2,s3,s4,s5,s6,s7,s8,s9,s10,s11,s12,s13,s14,s15,s16,s17,s18,s19,s20,s21,s22,s23,s24,s25,s26,s27,s28,s29,s30,s31,s32,s33,s34,s35,s36,s37,s38,s39,s40,s41,s42,s43,s44,s45,s46,
 s47,s48,s49,s50,s51,s52,s53,s54,s55,s56,s57,s58,s59,s60,s61,s62,s63,s64,s65,s66,s67,s68,s69,s70,s71,s72,s73,s74,s75,s76,s77,s78,s79,s80,s81,s82,s83,s84,s85,s86,s87,s88,s89,s90,s91] H
 = (@bnd (aBin2 prog H .lss 3 (.tmp 82) (.const (.int .i64 3)) s8 (.int .i64 3)) ⟨fun v83x51 => @kifB v83x51 ⟨@bndC prog 173 [s6,(.int .u8 48)] H ⟨fun v85x52 H53 => @bnd (aBin2 prog H53 .add 3 (.tmp 86) (.const
 (.int .i64 1)) s8 (.int .i64 1)) ⟨fun v87x54 => L151x2 n2  k [s0,s1,s2,s3,s4,s5,v85x52,s7,v87x54,s9,s10,s11,s12,s13,s14,s15,s16,s17,s18,s19,s20,s21,s22,s23,s24,s25,s26,s27,s28,s29,s30,s31,s32,
 s33,s34,s35,s36,s37,s38,s39,s40,s41,s42,s43,s44,s45,s46,s47,s48,s49,s50,s51,s52,s53,s54,s55,s56,s57,s58,s59,s60,s61,s62,s63,s64,s65,s66,s67,s68,s69,s70,s71,s72,s73,s74,s75,s76,s77,
 s78,s79,s80,s81,s8,v83x51,s6,v85x52,s8,v87x54,s88,s89,s90,s91] H53⟩⟩⟩ ⟨@kifB s5 ⟨@bnd (unV prog .neg s6) ⟨fun v90x55 => k (.tuple #[v90x55,(.int .i64 0)]) H⟩⟩ ⟨k (.tuple #[s6,(.int .i64 0)]) H⟩⟩⟩) := by
 kernel_rfl
-- internal/strconv.Atoi
end Go.Vi
namespace Go.Vi
open Go Go.Proofs Go.Proofs.Tryz
-- internal/stringslite.HasPrefix
theorem d162 (a0 : Value) (H : AHeap) (k : Value → AHeap → Prop) : kbody prog Tryz.f162 [a0] H k = (@bnd (aBin2 prog H .geq 5 (.tmp 3) (.const (.int .u8 97)) a0 (.int .u8 97)) ⟨fun v4x1 => @bnd (gif v4x1 true ((some
 a0)) undef) ⟨fun v6x2 => @bnd (gif v4x1 true (aBin2 prog H .leq 5 (.tmp 6) (.const (.int .u8 122)) v6x2 (.int .u8 122)) undef) ⟨fun v7x3 => @bnd (pickV v4x1 v7x3 (.bool false)) ⟨fun v8x4 => k v8x4 H⟩⟩⟩⟩) := by kernel_rfl
-- tocsin/labels.every
def L163x0 (n : Nat) (k : Value → AHeap → Prop) (sl : List Value) (H : AHeap) : Prop := kit prog (cl (cl (cr (cl (cr (cb Tryz.f163)))))) n (kblk 0 (kseq prog (cr (cr (cb Tryz.f163))) (kfin prog Tryz.f163 k)))
 .normal sl H
theorem d163 (a0 a1 : Value) (H : AHeap) (k : Value → AHeap → Prop) : kbody prog Tryz.f163 [a0,a1] H k = (@bnd (aLen prog H 9 a0) ⟨fun v7x1 => ∃ n,L163x0 n  k [a0,a1,undef,undef,(.bool false),undef,a0,v7x1,
 (.int .i64 0),undef,undef,undef,undef,undef,undef,undef,undef,undef] H⟩) := by kernel_rfl
theorem L163x0q (n0 : Nat) (s0 s1 s2 s3 s4 s5 s6 s7 s8 s9 s10 s11 s12 s13 s14 s15 s16 s17 : Value) (H : AHeap) (k : Value → AHeap → Prop) : L163x0 (n0 + 1) k [s0,s1,s2,s3,s4,s5,s6,s7,s8,s9,s10,s11,s12,s13,s14,s15,
 s16,s17] H = (@bnd (aBin2 prog H .lss 3 (.tmp 8) (.tmp 7) s8 s7) ⟨fun v9x2 => @kifB v9x2 ⟨@bnd (aIndex prog 9 s0 s8) ⟨fun v14x3 => @bndV prog s1 [v14x3] H ⟨fun v15x4 H5 => @bnd (unV prog .not v15x4) ⟨fun
 v16x6 => @kifB v16x6 ⟨k (.bool false) H5⟩ ⟨@bnd (aBin2 prog H5 .add 3 (.tmp 8) (.const (.int .i64 1)) s8 (.int .i64 1)) ⟨fun v17x7 => L163x0 n0  k [s0,s1,s2,s3,s4,s8,s6,s7,v17x7,v9x2,s8,s1,s0,s8,v14x3,v15x4,
 v16x6,v17x7] H5⟩⟩⟩⟩⟩⟩ ⟨k (.bool true) H⟩⟩) := by kernel_rfl
-- tocsin/labels.mark
theorem d164 (a0 : Value) (H : AHeap) (k : Value → AHeap → Prop) : kbody prog Tryz.f164 [a0] H k = (@bndC prog 162 [a0] H ⟨fun v4x1 H2 => @bnd (gif v4x1 false ((some a0)) undef) ⟨fun v6x3 => @bnd (gif v4x1 false (aBin2
 prog H2 .geq 5 (.tmp 6) (.const (.int .u8 48)) v6x3 (.int .u8 48)) undef) ⟨fun v7x4 => @bnd (gif v4x1 false ((some v7x4)) undef) ⟨fun v8x5 => @bnd (gif v8x5 true ((some a0)) undef) ⟨fun v9x6 => @bnd (gif v8x5 true (aBin2
 prog H2 .leq 5 (.tmp 9) (.const (.int .u8 57)) v9x6 (.int .u8 57)) undef) ⟨fun v10x7 => @bnd (gif v4x1 false (pickV v8x5 v10x7 (.bool false)) undef) ⟨fun v11x8 => @bnd (pickV v4x1 (.bool true) v11x8) ⟨fun v12x9 => @bnd
 (gif v12x9 false ((some a0)) undef) ⟨fun v14x10 => @bnd (gif v12x9 false (aBin2 prog H2 .eql 5 (.tmp 14) (.const (.int .u8 95)) v14x10 (.int .u8 95)) undef) ⟨fun v15x11 => @bnd (pickV v12x9 (.bool true) v15x11) ⟨fun v16x12
 => k v16x12 H2⟩⟩⟩⟩⟩⟩⟩⟩⟩⟩⟩) := by kernel_rfl
-- tocsin/labels.MayValue
theorem d165 (a0 : Value) (H : AHeap) (k : Value → AHeap → Prop) : kbody prog Tryz.f165 [a0] H k = (@bnd (aLen prog H 9 a0) ⟨fun v4x1 => @bnd (aBin2 prog H .geq 3 (.tmp 4) (.const (.int .i64 1)) v4x1 (.int .i64 1))
 ⟨fun v5x2 => @bnd (gif v5x2 true ((some a0)) undef) ⟨fun v7x3 => @bnd (gif v5x2 true (aLen prog H 9 v7x3) undef) ⟨fun v8x4 => @bnd (gif v5x2 true (aBin2 prog H .leq 3 (.tmp 8) (.const (.int .i64 32)) v8x4 (.int .i64
 32)) undef) ⟨fun v9x5 => @bnd (pickV v5x2 v9x5 (.bool false)) ⟨fun v10x6 => @bnd (gif v10x6 true ((some a0)) undef) ⟨fun v12x7 => @bndG v10x6 true H ⟨fun v13x8 H9 => ACalls prog 163 [v12x7,(.func (.func 185) #[] #[])] H
 v13x8 H9⟩ ⟨fun v13x8 H9 => @bnd (pickV v10x6 v13x8 (.bool false)) ⟨fun v14x10 => k v14x10 H9⟩⟩⟩⟩⟩⟩⟩⟩⟩) := by kernel_rfl
-- internal/strconv.log10Pow2
theorem d166 (a0 : Value) (H : AHeap) (k : Value → AHeap → Prop) : kbody prog Tryz.f166 [a0] H k = (@bnd (aBin2 prog H .mul 3 (.tmp 3) (.const (.int .i64 78913)) a0 (.int .i64 78913)) ⟨fun v4x1 => @bnd (aBin2 prog
 H .shr 3 (.tmp 4) (.const (.int .u64 18)) v4x1 (.int .u64 18)) ⟨fun v5x2 => k v5x2 H⟩⟩) := by kernel_rfl
-- math/bits.Len64
def S167x0 (k : Value → AHeap → Prop) (sl : List Value) (H : AHeap) : Prop := kseq prog (cr (cr (cb Tryz.f167))) (kfin prog Tryz.f167 k) .normal sl H
def S167x1 (k : Value → AHeap → Prop) (sl : List Value) (H : AHeap) : Prop := kseq prog (cr (cr (cr (cb Tryz.f167)))) (kfin prog Tryz.f167 k) .normal sl H
def S167x2 (k : Value → AHeap → Prop) (sl : List Value) (H : AHeap) : Prop := kseq prog (cr (cr (cr (cr (cb Tryz.f167))))) (kfin prog Tryz.f167 k) .normal sl H
theorem d167 (a0 : Value) (H : AHeap) (k : Value → AHeap → Prop) : kbody prog Tryz.f167 [a0] H k = (@bnd (aBin2 prog H .geq 178 (.tmp 3) (.const (.int .u64 4294967296)) a0 (.int .u64 4294967296)) ⟨fun v4x1 => @kifB v4x1
 ⟨@bnd (aBin2 prog H .shr 178 (.tmp 5) (.const (.int .u64 32)) a0 (.int .u64 32)) ⟨fun v6x2 => S167x0  k [v6x2,undef,(.int .i64 32),a0,v4x1,a0,v6x2,undef,undef,undef,undef,undef,undef,undef,undef,undef,
 undef,undef,undef,undef,undef,undef,undef,undef,undef] H⟩⟩ ⟨S167x0  k [a0,undef,(.int .i64 0),a0,v4x1,undef,undef,undef,undef,undef,undef,undef,undef,undef,undef,undef,undef,undef,undef,undef,undef,
 undef,undef,undef,undef] H⟩⟩) := by kernel_rfl
theorem S167x0q (s0 s1 s2 s3 s4 s5 s6 s7 s8 s9 s10 s11 s12 s13 s14 s15 s16 s17 s18 s19 s20 s21 s22 s23 s24 : Value) (H : AHeap) (k : Value → AHeap → Prop) : S167x0 k [s0,s1,s2,s3,s4,s5,s6,s7,s8,s9,s10,s11,s12,s13,
 s14,s15,s16,s17,s18,s19,s20,s21,s22,s23,s24] H = (@bnd (aBin2 prog H .geq 178 (.tmp 7) (.const (.int .u64 65536)) s0 (.int .u64 65536)) ⟨fun v8x3 => @kifB v8x3 ⟨@bnd (aBin2 prog H .shr 178 (.tmp 9) (.const
 (.int .u64 16)) s0 (.int .u64 16)) ⟨fun v10x4 => @bnd (aBin2 prog H .add 3 (.tmp 11) (.const (.int .i64 16)) s2 (.int .i64 16)) ⟨fun v12x5 => S167x1  k [v10x4,s1,v12x5,s3,s4,s5,s6,s0,v8x3,s0,v10x4,s2,v12x5,
 s13,s14,s15,s16,s17,s18,s19,s20,s21,s22,s23,s24] H⟩⟩⟩ ⟨S167x1  k [s0,s1,s2,s3,s4,s5,s6,s0,v8x3,s9,s10,s11,s12,s13,s14,s15,s16,s17,s18,s19,s20,s21,s22,s23,s24] H⟩⟩) := by kernel_rfl
theorem S167x1q (s0 s1 s2 s3 s4 s5 s6 s7 s8 s9 s10 s11 s12 s13 s14 s15 s16 s17 s18 s19 s20 s21 s22 s23 s24 : Value) (H : AHeap) (k : Value → AHeap → Prop) : S167x1 k [s0,s1,s2,s3,s4,s5,s6,s7,s8,s9,s10,s11,s12,s13,
 s14,s15,s16,s17,s18,s19,s20,s21,s22,s23,s24] H = (@bnd (aBin2 prog H .geq 178 (.tmp 13) (.const (.int .u64 256)) s0 (.int .u64 256)) ⟨fun v14x6 => @kifB v14x6 ⟨@bnd (aBin2 prog H .shr 178 (.tmp 15) (.const
 (.int .u64 8)) s0 (.int .u64 8)) ⟨fun v16x7 => @bnd (aBin2 prog H .add 3 (.tmp 17) (.const (.int .i64 8)) s2 (.int .i64 8)) ⟨fun v18x8 => S167x2  k [v16x7,s1,v18x8,s3,s4,s5,s6,s7,s8,s9,s10,s11,s12,s0,v14x6,
 s0,v16x7,s2,v18x8,s19,s20,s21,s22,s23,s24] H⟩⟩⟩ ⟨S167x2  k [s0,s1,s2,s3,s4,s5,s6,s7,s8,s9,s10,s11,s12,s0,v14x6,s15,s16,s17,s18,s19,s20,s21,s22,s23,s24] H⟩⟩) := by kernel_rfl
theorem S167x2q (s0 s1 s2 s3 s4 s5 s6 s7 s8 s9 s10 s11 s12 s13 s14 s15 s16 s17 s18 s19 s20 s21 s22 s23 s24 : Value) (H : AHeap) (k : Value → AHeap → Prop) : S167x2 k [s0,s1,s2,s3,s4,s5,s6,s7,s8,s9,s10,s11,s12,s13,
 s14,s15,s16,s17,s18,s19,s20,s21,s22,s23,s24] H = (@bnd (convV prog H 178 5 s0) ⟨fun v21x9 => @bnd (aIndex prog 9 (.string l8S) v21x9) ⟨fun v22x10 => @bnd (convV prog H 5 3 v22x10) ⟨fun v23x11 => @bnd
 (aBin2 prog H .add 3 (.tmp 19) (.tmp 23) s2 v23x11) ⟨fun v24x12 => k v24x12 H⟩⟩⟩⟩) := by kernel_rfl
-- internal/strconv.bool2[int]
theorem d168 (a0 : Value) (H : AHeap) (k : Value → AHeap → Prop) : kbody prog Tryz.f168 [a0] H k = (@kifB a0 ⟨k (.int .i64 1) H⟩ ⟨k (.int .i64 0) H⟩) := by kernel_rfl
-- tocsin/tocsinref10.op
theorem d171 (a0 : Value) (H : AHeap) (k : Value → AHeap → Prop) : kbody prog Tryz.f171 [a0] H k = (@bndL prog H 42 3 [(0,(.string { data := #[61] })),(1,(.string { data := #[33,61] })),(2,(.string { data := #[94,
 61] }))] ⟨fun v3x1 H2 => @bnd (aIndexAddr prog H2 42 v3x1 a0) ⟨fun v5x3 => @bnd (aLoad prog H2 9 v5x3) ⟨fun v6x4 => k v6x4 H2⟩⟩⟩) := by kernel_rfl
-- tocsin/tocsinref01.digit
theorem d172 (a0 : Value) (H : AHeap) (k : Value → AHeap → Prop) : kbody prog Tryz.f172 [a0] H k = (@bnd (aBin2 prog H .geq 5 (.tmp 3) (.const (.int .u8 48)) a0 (.int .u8 48)) ⟨fun v4x1 => @bnd (gif v4x1 true ((some
 a0)) undef) ⟨fun v6x2 => @bnd (gif v4x1 true (aBin2 prog H .leq 5 (.tmp 6) (.const (.int .u8 57)) v6x2 (.int .u8 57)) undef) ⟨fun v7x3 => @bnd (pickV v4x1 v7x3 (.bool false)) ⟨fun v8x4 => k v8x4 H⟩⟩⟩⟩) := by kernel_rfl
-- tocsin/tocsinref01.more
theorem d173 (a0 a1 : Value) (H : AHeap) (k : Value → AHeap → Prop) : kbody prog Tryz.f173 [a0,a1] H k = (@bnd (aBin2 prog H .gtr 2 (.tmp 5) (.const (.int .i64 461168601842738790)) a0 (.int .i64 461168601842738790))
 ⟨fun v6x1 => @kifB v6x1 ⟨k (.int .i64 4611686018427387903) H⟩ ⟨@bnd (aBin2 prog H .mul 2 (.const (.int .i64 10)) (.tmp 7) (.int .i64 10) a0) ⟨fun v8x2 => @bnd (aBin2 prog H .sub 5 (.tmp 9) (.const (.int .u8 48)) a1
 (.int .u8 48)) ⟨fun v10x3 => @bnd (convV prog H 5 2 v10x3) ⟨fun v11x4 => @bnd (aBin2 prog H .add 2 (.tmp 8) (.tmp 11) v8x2 v11x4) ⟨fun v12x5 => @bndC prog 86 [v12x5] H ⟨fun v13x6 H7 => k v13x6 H7⟩⟩⟩⟩⟩⟩⟩) := by
 kernel_rfl
-- internal/strconv.ParseInt
theorem d185 (a0 : Value) (H : AHeap) (k : Value → AHeap → Prop) : kbody prog Tryz.f185 [a0] H k = (@bnd (aBin2 prog H .geq 5 (.tmp 3) (.const (.int .u8 32)) a0 (.int .u8 32)) ⟨fun v4x1 => @bnd (gif v4x1 true ((some
 a0)) undef) ⟨fun v6x2 => @bnd (gif v4x1 true (aBin2 prog H .leq 5 (.tmp 6) (.const (.int .u8 126)) v6x2 (.int .u8 126)) undef) ⟨fun v7x3 => @bnd (pickV v4x1 v7x3 (.bool false)) ⟨fun v8x4 => k v8x4 H⟩⟩⟩⟩) := by kernel_rfl
-- internal/strconv.ParseUint
end Go.Vi
namespace Go.Vi
open Go Go.Proofs Go.Proofs.Tryz
theorem MixT : prog.follows .mixedOrders = true := by kernel_rfl
def isLow (b : UInt8) : Bool := decide (97 ≤ (b.toNat : Int)) && decide ((b.toNat : Int) ≤ 122)
def isDig (b : UInt8) : Bool := decide (48 ≤ (b.toNat : Int)) && decide ((b.toNat : Int) ≤ 57)
def isMark (b : UInt8) : Bool := isLow b || isDig b || (b.toNat : Int) == 95
def isSign (b : UInt8) : Bool := decide (32 ≤ (b.toNat : Int)) && decide ((b.toNat : Int) ≤ 126)
def mayName (l : List UInt8) : Bool := decide (1 ≤ l.length) && decide (l.length ≤ 16) && (l[0]?).any isLow && l.all isMark
def mayValue (l : List UInt8) : Bool := decide (1 ≤ l.length) && decide (l.length ≤ 32) && l.all isSign
theorem c_lab_letter (H : AHeap) (b : UInt8) : ACalls prog 162 [byt b] H (.bool (isLow b)) H := by
 refine acalls_pure MixT func162 (by decide) rfl ?_
 rw [d162]
 simp +contextual [isLow]
theorem c_lab_mark (H : AHeap) (b : UInt8) : ACalls prog 164 [byt b] H (.bool (isMark b)) H := by
 refine acalls_pure MixT func164 (by decide) rfl ?_
 rw [d164]
 refine bndC_of (c_lab_letter _ _) ?_
 simp +contextual [isMark,isDig]
theorem c_lab_sign (H : AHeap) (b : UInt8) : ACalls prog 185 [byt b] H (.bool (isSign b)) H := by
 refine acalls_pure MixT func185 (by decide) rfl ?_
 rw [d185]
 simp +contextual [isSign]
theorem every_loop {l : List UInt8} {g : FuncId} {p : UInt8 → Bool} {H : AHeap} {k : Value → AHeap → Prop} (hp : ∀ b,ACalls prog g [byt b] H (.bool (p b)) H) (hl : l.length < 2 ^ 63) :
  ∀ (r : List UInt8) (i : Nat) (s2 s3 s4 s5 s9 s10 s11 s12 s13 s14 s15 s16 s17 : Value), l.drop i = r → i ≤ l.length → k (.bool (r.all p)) H →
    L163x0 (r.length + 1) k [str l,.func (.func g) #[] #[],s2,s3,s4,s5,str l,i64 l.length,i64 i,s9,s10,s11,s12,s13,s14,s15,s16,s17] H := by
 intro r
 induction r with
 | nil =>
   intro i s2 s3 s4 s5 s9 s10 s11 s12 s13 s14 s15 s16 s17 hd hi hk
   have hle : l.length ≤ i := by simpa using hd
   rw [List.length_nil,L163x0q]
   have : ¬ i < l.length := by omega
   simp [this]
   simpa using hk
 | cons b r ih =>
   intro i s2 s3 s4 s5 s9 s10 s11 s12 s13 s14 s15 s16 s17 hd hi hk
   have hb : l[i]? = some b := by rw [← List.head?_drop,hd]; rfl
   have hlt : i < l.length := (List.getElem?_eq_some_iff.1 hb).1
   rw [List.length_cons,L163x0q]
   simp [hlt,aIndex_at _ hb]
   refine bndV_func (by simpa using hp b) ?_
   simp
   refine kifB_bool (fun h => ?_) (fun h => ?_)
   · simp at h
     simpa [h] using hk
   · simp at h
     simp [show i + 1 < 2 ^ 63 by omega]
     exact ih (i + 1) _ _ _ _ _ _ _ _ _ _ _ _ _ (by rw [← List.drop_drop,hd]; rfl) hlt (by simpa [h] using hk)
theorem c_every {H : AHeap} {l : List UInt8} {g : FuncId} {p : UInt8 → Bool} (hp : ∀ b,ACalls prog g [byt b] H (.bool (p b)) H) (hl : l.length < 2 ^ 63) :
  ACalls prog 163 [str l,.func (.func g) #[] #[]] H (.bool (l.all p)) H := by
 refine acalls_pure MixT func163 (by decide) rfl ?_
 rw [d163]
 simp
 exact ⟨l.length + 1,every_loop hp hl l 0 _ _ _ _ _ _ _ _ _ _ _ _ _ rfl (by omega) ⟨rfl,[],by simp⟩⟩
theorem c_mayName (H : AHeap) (l : List UInt8) : ACalls prog 138 [str l] H (.bool (mayName l)) H := by
 refine acalls_pure MixT func138 (by decide) rfl ?_
 rw [d138]
 cases l with
 | nil => simp [mayName]
 | cons b r =>
   have hb : (b :: r)[0]? = some b := rfl
   have h0 := aIndex_at (P := prog) (T := 9) (k := .i64) (i := 0) (by simp) hb
   simp only [Int.ofNat_zero] at h0
   simp +contextual [h0]
   refine bndG_call (.bool (isLow b)) (fun h => ?_) ?_
   · simp only [h,gsel_tt]; exact c_lab_letter _ _
   simp +contextual
   refine bndG_call (.bool ((b :: r).all isMark)) (fun h => ?_) ?_
   · have hh := h
     simp at h
     simp only [hh,gsel_tt]; exact c_every (c_lab_mark _) (by simp; omega)
   · simp +contextual [mayName]
     have : decide (1 ≤ (r.length : Int) + 1) = true := by simp; omega
     have h2 : decide ((r.length : Int) + 1 ≤ 16) = decide (r.length ≤ 15) := by rw [decide_eq_decide]; omega
     rw [this,h2,Bool.true_and]
theorem c_mayValue (H : AHeap) (l : List UInt8) : ACalls prog 165 [str l] H (.bool (mayValue l)) H := by
 refine acalls_pure MixT func165 (by decide) rfl ?_
 rw [d165]
 simp +contextual
 refine bndG_call (.bool (l.all isSign)) (fun h => ?_) ?_
 · have hh := h
   simp at h
   simp only [hh,gsel_tt]; exact c_every (c_lab_sign _) (by omega)
 · simp +contextual
   rw [mayValue]
   congr 2 <;> rw [decide_eq_decide] <;> omega
structure Mat where
 name : List UInt8
 op : Int
 value : List UInt8
def Mat.cells (m : Mat) : List Value := [str m.name,.int .u8 m.op,str m.value]
def mayM (s : List UInt8) : Bool := decide (s = []) || mayValue s
def Mat.ok (m : Mat) : Bool := (m.op == 0 || m.op == 1 || m.op == 2) && mayName m.name && mayM m.value
def mayMats (ms : List Mat) : Bool := ms.all Mat.ok && decide (ms.length ≤ 6)
theorem c_matMay (H : AHeap) (l : List UInt8) : ACalls prog 139 [str l] H (.bool (mayM l)) H := by
 refine acalls_pure MixT func139 (by decide) rfl ?_
 rw [d139]
 simp +contextual
 refine bndG_call (.bool (mayValue l)) (fun h => ?_) ?_
 · simp only [h,gsel_ff]; exact c_mayValue _ _
 · simp +contextual [mayM]
def opsMap : List (Value × Value) := [(.int .u8 0,.agg #[str [61],.func (.func 131) #[] #[]]),(.int .u8 1,.agg #[str [33,61],.func (.func 132) #[] #[]]),(.int .u8 2,.agg #[str [94,61],.func (.func 133) #[] #[]])]
theorem c_matOps (H : AHeap) : ACalls prog 109 [] H (.map (some H.length)) (H ++ [.map opsMap]) := by
 refine acalls_of MixT func109 (by decide) ?_
 rw [d109]
 simp [keyOk,mOk,mput,mfind,keyEq,opsMap]
def MatsAt (H : AHeap) (v : Value) (ms : List Mat) : Prop := Arr H 3 v (ms.map Mat.cells)
theorem MatsAt.pre {H K v ms} (h : MatsAt H v ms) (p : Pre H K) : MatsAt K v ms := Arr.pre h p
def isOp (n : Int) : Bool := n == 0 || n == 1 || n == 2
def opS (n : Int) : List UInt8 := if n = 0 then [61] else if n = 1 then [33,61] else if n = 2 then [94,61] else []
def opF (n : Int) : Value := if n = 0 then .func (.func 131) #[] #[] else if n = 1 then .func (.func 132) #[] #[] else if n = 2 then .func (.func 133) #[] #[] else .nilFunc
theorem opF_one (n : Int) : (opF n).oneCell' = true := by unfold opF; split <;> (try split) <;> (try split) <;> rfl
theorem opsOk : mOk (.int .u8) opsMap = true := by simp [mOk,opsMap,keyOk]
theorem opsLook {K : AHeap} {mb : Nat} (n : Int) (h : K[mb]? = some (.map opsMap)) : aLookup prog K 146 (.map (some mb)) (.int .u8 n) true = some (.tuple #[.agg #[str (opS n),opF n],.bool (isOp n)]) := by
 rw [aLookup_map,h]
 simp only [tm146,Option.bind_some,mapOf_map,opsOk,keyOk,beq_self_eq_true,if_true]
 unfold mget opsMap opS opF isOp
 simp only [mfind,keyEq]
 by_cases h0 : n = 0
 · simp [h0]
 · by_cases h1 : n = 1
   · simp [h1]
   · by_cases h2 : n = 2
     · simp [h2]
     · simp [h0,h1,h2,cok,isLit]
theorem matMay_loop {v : Value} {ms : List Mat} {H : AHeap} {w : Bool} {mb : Nat} {k : Value → AHeap → Prop} (hl : ms.length < 2 ^ 63) (hk : ∀ K,Pre H K → k (.bool w) K) :
  ∀ (r : List Mat) (i : Nat) (K : AHeap) (s1 s2 s4 s5 s6 s7 s8 s12 s13 s14 s15 s16 s17 s18 s19 s20 s21 s22 s23 s24 s25 s26 s27 s28 s29 s30 s31 s32 s33 s34 s35 s36 s37 s38 s39 : Value), ms.drop i = r → i ≤ ms.length → Pre H K → MatsAt K v ms → K[mb]? = some (.map opsMap) →
    w = (r.all Mat.ok && decide (ms.length ≤ 6)) →
    L115x0 (r.length + 1) k [v,s1,s2,.map (some mb),s4,s5,s6,s7,s8,v,i64 ms.length,i64 i,s12,s13,s14,s15,s16,s17,s18,s19,s20,s21,s22,s23,s24,s25,s26,s27,s28,s29,s30,s31,s32,s33,s34,s35,s36,s37,s38,s39] K := by
 intro r
 induction r with
 | nil =>
   intro i K s1 s2 s4 s5 s6 s7 s8 s12 s13 s14 s15 s16 s17 s18 s19 s20 s21 s22 s23 s24 s25 s26 s27 s28 s29 s30 s31 s32 s33 s34 s35 s36 s37 s38 s39 hd hi hp hm hmap hw
   have hle : ms.length ≤ i := by simpa using hd
   rw [List.length_nil,L115x0q]
   have : ¬ i < ms.length := by omega
   have hlen := hm.len (P := prog) (T := 35) (e := 75) (by simp)
   simp at hlen
   simp [this,hlen]
   have := hk K hp
   rw [hw] at this
   have e : decide ((ms.length : Int) ≤ 6) = decide (ms.length ≤ 6) := by rw [decide_eq_decide]; omega
   rw [e]; simpa using this
 | cons m r ih =>
   intro i K s1 s2 s4 s5 s6 s7 s8 s12 s13 s14 s15 s16 s17 s18 s19 s20 s21 s22 s23 s24 s25 s26 s27 s28 s29 s30 s31 s32 s33 s34 s35 s36 s37 s38 s39 hd hi hp hm hmap hw
   have hb : ms[i]? = some m := by rw [← List.head?_drop,hd]; rfl
   have hlt : i < ms.length := (List.getElem?_eq_some_iff.1 hb).1
   obtain ⟨p,hp1,hp2⟩ := hm.load (P := prog) (T := 35) (te := 75) (i := i) (e := m.cells) (by simp) (by simp) (by simp) (by simp [hb])
   have hmb : mb < K.length := (List.getElem?_eq_some_iff.1 hmap).1
   have hg : ∀ X : AHeap,(K ++ X)[mb]? = some (.map opsMap) := fun X => get_more hmap
   rw [List.length_cons,L115x0q]
   have hlook : ∀ X : AHeap,aLookup prog (K ++ X) 146 (.map (some mb)) (.int .u8 m.op) true = some (.tuple #[.agg #[str (opS m.op),opF m.op],.bool (isOp m.op)]) := fun X => opsLook _ (hg X)
   simp +contextual [hlt,hp1,hp2,Mat.cells,-aLookup_map,hlook,opF_one]
   refine bndG_call (.bool (mayName m.name)) (fun h => ?_) ?_
   · simp only [h,gsel_ff]; exact c_mayName _ _
   simp +contextual
   refine bndG_call (.bool (mayM m.value)) (fun h => ?_) ?_
   · simp only [h,gsel_ff]; exact c_matMay _ _
   simp +contextual
   have hok : m.ok = (isOp m.op && mayName m.name && mayM m.value) := by simp [Mat.ok,isOp]
   refine kifB_bool (fun h => ?_) (fun h => ?_)
   · have : w = false := by
      rw [hw,List.all_cons,hok]
      revert h; cases isOp m.op <;> cases mayName m.name <;> cases mayM m.value <;> simp
     rw [← this]
     exact hk _ (hp.more _)
   · have h1 : m.ok = true := by
      rw [hok]
      revert h; cases isOp m.op <;> cases mayName m.name <;> cases mayM m.value <;> simp
     simp [show i + 1 < 2 ^ 63 by omega]
     exact ih (i + 1) _ _ _ _ _ _ _ _ _ _ _ _ _ _ _ _ _ _ _ _ _ _ _ _ _ _ _ _ _ _ _ _ _ _ _ _ (by rw [← List.drop_drop,hd]; rfl) hlt (hp.more _) (hm.pre (.app _ _)) (hg _) (by rw [hw,List.all_cons,h1,Bool.true_and])
theorem c_matchMay {H : AHeap} {v : Value} {ms : List Mat} (hm : MatsAt H v ms) (hl : ms.length < 2 ^ 63) : ACalls prog 115 [v] H (.bool (mayMats ms)) H := by
 refine acalls_pure MixT func115 (by decide) rfl ?_
 rw [d115]
 refine bndC_of (c_matOps H) ?_
 have hlen := (hm.pre (.app H [.map opsMap])).len (P := prog) (T := 35) (e := 75) (by simp)
 simp at hlen
 simp [hlen]
 exact ⟨ms.length + 1,matMay_loop (H := H) hl (fun K p => ⟨rfl,p⟩) ms 0 _ _ _ _ _ _ _ _ _ _ _ _ _ _ _ _ _ _ _ _ _ _ _ _ _ _ _ _ _ _ _ _ _ _ _ _ rfl (by omega) (.app _ _) (hm.pre (.app _ _)) (by simp) rfl⟩
end Go.Vi
namespace Go.Vi
open Go Go.Proofs Go.Proofs.Tryz
structure Nod where
 kind : UInt8
 agg : UInt8
 sel : List Mat
 window : Int
 cmp : UInt8
 value : Int
 left : Int
 right : Int
def Nod.cells (n : Nod) (sv : Value) : List Value := [byt n.kind,byt n.agg,sv,i64 n.window,byt n.cmp,i64 n.value,i64 n.left,i64 n.right]
def maxFix : Int := 4611686018427387903
def sat (x : Int) : Int := min (max x (-maxFix)) maxFix
theorem c_sat (H : AHeap) (x : Int) : ACalls prog 112 [i64 x] H (i64 (sat x)) H := by
 refine acalls_pure MixT func112 (by decide) rfl ?_
 rw [d112]
 simp [sat,maxFix]
 split <;> split <;> omega
def aggs : List (List UInt8) := [[99,111,117,110,116],[115,117,109],[109,105,110],[109,97,120],[109,101,97,110],[108,97,115,116]]
def cmps : List (List UInt8) := [[60],[60,61],[62],[62,61],[61,61],[33,61]]
theorem c_aggregates (H : AHeap) : ACalls prog 71 [] H (.slice (some ⟨H.length,0,some 6⟩) 6 6) (H ++ [.cells (aggs.map str) 9]) := by
 refine acalls_of MixT func71 (by decide) ?_
 rw [d71]
 exact bndL_of (by decide) (by kernel_rfl) ⟨rfl,rfl⟩
theorem c_compares (H : AHeap) : ACalls prog 73 [] H (.slice (some ⟨H.length,0,some 6⟩) 6 6) (H ++ [.cells (cmps.map str) 9]) := by
 refine acalls_of MixT func73 (by decide) ?_
 rw [d73]
 exact bndL_of (by decide) (by kernel_rfl) ⟨rfl,rfl⟩
def Nod.plain (n : Nod) : Bool := decide ((n.agg.toNat : Int) < 6) && mayMats n.sel && decide (n.window ≥ 1) && decide (n.window ≤ 1000) && decide ((n.cmp.toNat : Int) < 6) && (sat n.value == n.value) && (n.left == 0) && (n.right == 0)
def Nod.void (n : Nod) : Bool := ((n.agg.toNat : Int) == 0) && ((n.sel.length : Int) == 0) && (n.window == 0) && ((n.cmp.toNat : Int) == 0) && (n.value == 0)
theorem MatsAt.one {H v ms} (h : MatsAt H v ms) : v.oneCell' = true := Arr.one h
theorem c_void {H : AHeap} {n : Nod} {sv : Value} (hs : MatsAt H sv n.sel) : ACalls prog 77 [.agg (n.cells sv).toArray] H (.bool n.void) H := by
 refine acalls_pure MixT func77 (by decide) rfl ?_
 rw [d77]
 have h1 := hs.one
 have hl := fun X => (hs.pre (.app H X)).len (P := prog) (T := 35) (e := 75) (by simp)
 simp at hl
 simp +contextual [aNew_agg,Nod.cells,Nod.void,h1,hl]
theorem c_plain {H : AHeap} {n : Nod} {sv : Value} (hs : MatsAt H sv n.sel) (hsl : n.sel.length < 2 ^ 63) : ACalls prog 76 [.agg (n.cells sv).toArray] H (.bool n.plain) H := by
 refine acalls_pure MixT func76 (by decide) rfl ?_
 rw [d76]
 have h1 := hs.one
 simp +contextual [aNew_agg,Nod.cells,h1]
 refine bndD_of (c_aggregates _) (.inr ⟨_,rfl⟩) ?_
 simp +contextual
 refine bndD_gcall (.bool (mayMats n.sel)) (by simp) (fun h => ?_) ?_
 · simp only [h,gsel_tt]; rw [List.append_assoc]; exact c_matchMay (hs.pre (.app _ _)) hsl
 simp +contextual
 refine bndD_gcases _ _ (by simp) (fun h => ?_) (fun _ => c_compares _) (.inr ⟨_,by simp; rfl⟩) (fun h => ?_)
 · have e : n.plain = false := by simp only [Nod.plain,ge_iff_le,h,Bool.false_and]
   simp [h,e]
 · simp +contextual [h]
   refine bndD_gcall (i64 (sat n.value)) (by simp) (fun h => ?_) ?_
   · simp only [h,gsel_tt]; exact c_sat _ _
   simp +contextual
   simp only [Nod.plain,ge_iff_le,h,Bool.true_and]
def NodesAt (H : AHeap) (v : Value) (ns : List Nod) : Prop := ∃ cl : List (List Value),Arr H 8 v cl ∧ cl.length = ns.length ∧ ∀ (i : Nat) n,ns[i]? = some n → ∃ sv,cl[i]? = some (n.cells sv) ∧ MatsAt H sv n.sel ∧ n.sel.length < 2 ^ 63
theorem NodesAt.pre {H K v ns} (h : NodesAt H v ns) (p : Pre H K) : NodesAt K v ns := by
 obtain ⟨cl,h1,h2,h3⟩ := h
 refine ⟨cl,h1.pre p,h2,fun i n hi => ?_⟩
 obtain ⟨sv,q1,q2,q3⟩ := h3 i n hi
 exact ⟨sv,q1,q2.pre p,q3⟩
theorem NodesAt.len {H v ns} (h : NodesAt H v ns) (K : AHeap) : aLen prog K 27 v = some (i64 ns.length) := by
 obtain ⟨cl,h1,h2,_⟩ := h
 rw [← h2]
 exact h1.len' (e := 37) (by simp)
def isAnd (n : Nod) : Bool := (n.kind.toNat : Int) == 1
def isOr (n : Nod) : Bool := (n.kind.toNat : Int) == 2
def beg (ns : List Nod) : Nat → Int → Int
 | 0,_ => -1
 | f + 1, e => if e < 0 then -1 else match ns[e.toNat]? with
   | none => -1
   | some n =>
     if ((n.kind.toNat : Int) == 0) = true then (if n.plain = true then e else -1)
     else if ((n.kind.toNat : Int) == 3) = true then (if (n.void && n.left == e - 1 && n.right == 0) = true then beg ns f (e - 1) else -1)
     else if (isAnd n || isOr n) = true then
      (if (n.void && n.right == e - 1 && decide (beg ns f (e - 1) > 0) && n.left == beg ns f (e - 1) - 1) = true then beg ns f (beg ns f (e - 1) - 1) else -1)
     else -1
theorem beg_range (ns : List Nod) : ∀ (f : Nat) (e : Int),-1 ≤ e → -1 ≤ beg ns f e ∧ beg ns f e ≤ e := by
 intro f
 induction f with
 | zero => intro e h; exact ⟨Int.le_refl _,h⟩
 | succ f ih =>
   intro e h
   simp only [beg]
   split
   · omega
   · split
     · omega
     · split
       · split <;> omega
       · split
         · split
           · have := ih (e - 1) (by omega); omega
           · omega
         · split
           · split
             · rename_i n _ _ _ _ hc
               simp only [Bool.and_eq_true,decide_eq_true_eq] at hc
               have h1 := ih (e - 1) (by omega)
               have := ih (beg ns f (e - 1) - 1) (by omega)
               omega
             · omega
           · omega
attribute [local simp] S44x0q S44x1q
theorem c_begin {ns : List Nod} {v : Value} (hlen : ns.length < 2 ^ 40) : ∀ (f : Nat) (H : AHeap) (e : Int),NodesAt H v ns → -1 ≤ e → e < ns.length → e < f → ACalls prog 44 [v,i64 e] H (i64 (beg ns f e)) H := by
 intro f
 induction f with
 | zero =>
   intro H e hn h1 h2 h3
   refine acalls_pure MixT func44 (by decide) rfl ?_
   rw [d44]
   have : e = -1 := by omega
   subst this
   simp [beg]
 | succ f ih =>
   intro H e hn h1 h2 h3
   refine acalls_pure MixT func44 (by decide) rfl ?_
   rw [d44]
   by_cases h0 : e < 0
   · simp [beg,h0]
   obtain ⟨cl,ha,hcl,hc⟩ := hn
   obtain ⟨n,hnd⟩ : ∃ n,ns[e.toNat]? = some n := ⟨_,List.getElem?_eq_getElem (by omega)⟩
   obtain ⟨sv,hsv,hm,hml⟩ := hc _ _ hnd
   obtain ⟨p,hp1,hp2⟩ := ha.load (P := prog) (T := 27) (te := 37) (i := e.toNat) (e := n.cells sv) (by simp) (by simp) (by simp) hsv
   have het : ((e.toNat : Nat) : Int) = e := by omega
   rw [het] at hp1
   have hone := hm.one
   simp [h0,hp1,hp2,Nod.cells,hone]
   have hK : ∀ X : AHeap,NodesAt (H ++ X) v ns := fun X => NodesAt.pre ⟨cl,ha,hcl,hc⟩ (.app _ _)
   have hpl := fun X : AHeap => c_plain (H := H ++ X) (hm.pre (.app _ _)) hml
   have hvo := fun X : AHeap => c_void (H := H ++ X) (hm.pre (.app _ _))
   have hw : IntKind.i64.wrap (e - 1) = e - 1 := wrap_i64 (by omega) (by omega)
   have hr := ih (H ++ [AObj.cells [byt n.kind,byt n.agg,sv,i64 n.window,byt n.cmp,i64 n.value,i64 n.left,i64 n.right] 37]) (e - 1) (hK _) (by omega) (by omega) (by omega)
   obtain ⟨rb1,rb2⟩ := beg_range ns f (e - 1) (by omega)
   have hw2 : IntKind.i64.wrap (beg ns f (e - 1) - 1) = beg ns f (e - 1) - 1 := wrap_i64 (by omega) (by omega)
   simp only [Nod.cells] at hpl hvo
   have hbeg : beg ns (f + 1) e = if ((n.kind.toNat : Int) == 0) = true then (if n.plain = true then e else -1)
    else if ((n.kind.toNat : Int) == 3) = true then (if (n.void && n.left == e - 1 && n.right == 0) = true then beg ns f (e - 1) else -1)
    else if (isAnd n || isOr n) = true then
     (if (n.void && n.right == e - 1 && decide (beg ns f (e - 1) > 0) && n.left == beg ns f (e - 1) - 1) = true then beg ns f (beg ns f (e - 1) - 1) else -1)
    else -1 := by rw [beg,if_neg h0,hnd]
   generalize beg ns (f + 1) e = res at hbeg ⊢
   refine kifB_bool (fun hk => ?_) (fun hk => ?_)
   · rw [hk,if_pos rfl] at hbeg
     simp
     refine bndC_of (hpl _) ?_
     refine kifB_bool (fun hq => ?_) (fun hq => ?_) <;> simp [hq,hbeg]
   rw [hk,if_neg (by simp)] at hbeg
   simp
   refine kifB_bool (fun hk3 => ?_) (fun hk3 => ?_)
   · rw [hk3,if_pos rfl] at hbeg
     simp
     refine bndC_of (hvo _) ?_
     simp +contextual [hw]
     refine kifB_bool (fun hq => ?_) (fun hq => ?_)
     · rw [hq,if_pos rfl] at hbeg
       simp [hw]
       exact bndC_of hr (by simp [hbeg])
     · rw [hq,if_neg (by simp)] at hbeg
       simp [hbeg]
   rw [hk3,if_neg (by simp)] at hbeg
   simp
   refine kifB_bool (fun hk1 => ?_) (fun hk1 => ?_)
   · rw [show (isAnd n || isOr n) = true by simp only [isAnd,hk1,Bool.true_or],if_pos rfl] at hbeg
     simp only [S44x1q,kifB_true,aBin_sub,hw,bnd_some,hk1]
     refine bndC_of hr ?_
     simp
     refine bndC_of (hvo _) ?_
     simp +contextual [hw,hw2]
     refine kifB_bool (fun hq => ?_) (fun hq => ?_)
     · rw [hq,if_pos rfl] at hbeg
       have hpos : beg ns f (e - 1) > 0 := by
        revert hq; cases hd : decide (beg ns f (e - 1) > 0)
        · simp
        · intro _; simpa using hd
       simp [hw2]
       exact bndC_of (ih _ (beg ns f (e - 1) - 1) (hK _) (by omega) (by omega) (by omega)) (by simp [hbeg])
     · rw [hq,if_neg (by simp)] at hbeg
       simp [hbeg]
   · simp
     refine kifB_bool (fun hk2 => ?_) (fun hk2 => ?_)
     · rw [show (isAnd n || isOr n) = true by simp only [isOr,hk2,Bool.or_true],if_pos rfl] at hbeg
       simp only [aBin_sub,hw,bnd_some]
       refine bndC_of hr ?_
       simp
       refine bndC_of (hvo _) ?_
       simp +contextual [hw,hw2]
       refine kifB_bool (fun hq => ?_) (fun hq => ?_)
       · rw [hq,if_pos rfl] at hbeg
         have hpos : beg ns f (e - 1) > 0 := by
          revert hq; cases hd : decide (beg ns f (e - 1) > 0)
          · simp
          · intro _; simpa using hd
         simp [hw2]
         exact bndC_of (ih _ (beg ns f (e - 1) - 1) (hK _) (by omega) (by omega) (by omega)) (by simp [hbeg])
       · rw [hq,if_neg (by simp)] at hbeg
         simp [hbeg]
     · rw [show (isAnd n || isOr n) = false by simp only [isAnd,isOr,hk1,hk2,Bool.or_self],if_neg (by simp)] at hbeg
       simp [hbeg]
def right (ns : List Nod) : Bool := decide ((ns.length : Int) ≥ 1) && decide ((ns.length : Int) ≤ 31) && (beg ns ns.length ((ns.length : Int) - 1) == 0)
theorem c_right {H : AHeap} {ns : List Nod} {v : Value} (hn : NodesAt H v ns) : ACalls prog 22 [v] H (.bool (right ns)) H := by
 refine acalls_pure MixT func22 (by decide) rfl ?_
 rw [d22]
 have hl := hn.len H
 simp +contextual [hl]
 refine bndG_call (i64 (beg ns ns.length ((ns.length : Int) - 1))) (fun h => ?_) ?_
 · simp only [h,gsel_tt]
   simp at h
   have : IntKind.i64.wrap ((ns.length : Int) - 1) = (ns.length : Int) - 1 := wrap_i64 (by omega) (by omega)
   rw [this]
   exact c_begin (by omega) _ _ _ hn (by omega) (by omega) (by omega)
 · simp +contextual [right]
end Go.Vi
namespace Go.Vi
open Go Go.Proofs
def strCells (l : List (List UInt8)) : List (List Value) := l.map fun s => [str s]
end Go.Vi
namespace Go.Vi
open Go Go.Proofs Go.Proofs.Tryz
def bcells (s : List UInt8) : List Value := s.map byt
abbrev selfP (pb : Nat) : Value := .pointer (some ⟨pb,0,some 2⟩)
inductive Buf (g : Bool) (K : AHeap) (pb : Nat) : Value → List UInt8 → Prop
 | nil : Buf g K pb (.slice none 0 0) []
 | mk (bb n c : Nat) (cs : List Value) (s : List UInt8) (h1 : pb < bb) (h2 : K[bb]? = some (.cells cs 5)) (h3 : cs.length = c) (h4 : n = s.length) (h5 : n ≤ c) (h6 : cs.take n = bcells s) (h7 : g = false → s ≠ []) (h8 : 0 < c) : Buf g K pb (.slice (some ⟨bb,0,some c⟩) n c) s
def Bld (g : Bool) (K : AHeap) (pb : Nat) (s : List UInt8) : Prop := ∃ ad bv,K[pb]? = some (.cells [ad,bv] 116) ∧ (ad = .pointer none ∨ ad = selfP pb) ∧ Buf g K pb bv s
def Keeps (pb : Nat) (K K' : AHeap) : Prop := ∀ H,Pre H K → H.length ≤ pb → Pre H K'
theorem Keeps.refl (pb : Nat) (K : AHeap) : Keeps pb K K := fun _ h _ => h
theorem Keeps.trans {pb K K' K''} (h : Keeps pb K K') (k : Keeps pb K' K'') : Keeps pb K K'' := fun H p q => k H (h H p q) q
theorem Keeps.set {pb b : Nat} {K : AHeap} {o : AObj} (h : pb ≤ b) : Keeps pb K (K.set b o) := fun _ p q => p.set (by omega)
theorem Keeps.app {pb : Nat} {K X : AHeap} : Keeps pb K (K ++ X) := fun _ p _ => p.more _
theorem Buf.one {g K pb v s} (h : Buf g K pb v s) : v.oneCell' = true := by cases h <;> rfl
theorem Buf.setPb {g K pb v s} {o : AObj} (h : Buf g K pb v s) : Buf g (K.set pb o) pb v s := by
 cases h with
 | nil => exact .nil
 | mk bb n c cs s h1 h2 h3 h4 h5 h6 h7 h8 => exact .mk bb n c cs s h1 (by rw [List.getElem?_set_ne (by omega)]; exact h2) h3 h4 h5 h6 h7 h8
theorem Buf.app {g K pb v s} {X : AHeap} (h : Buf g K pb v s) : Buf g (K ++ X) pb v s := by
 cases h with
 | nil => exact .nil
 | mk bb n c cs s h1 h2 h3 h4 h5 h6 h7 h8 => exact .mk bb n c cs s h1 (get_more h2) h3 h4 h5 h6 h7 h8
theorem c_noEscape (H : AHeap) (v : Value) : ACalls prog 140 [v] H v H :=
 acalls_noEscape func140 (by decide) (by decide) (by kernel_rfl) (by kernel_rfl)
theorem c_copyCheck {K : AHeap} {pb : Nat} {ad bv : Value} (h1 : K[pb]? = some (.cells [ad,bv] 116)) (h2 : ad = .pointer none ∨ ad = selfP pb) (_hone : bv.oneCell' = true) :
  ACalls prog 116 [selfP pb] K (.tuple #[]) (K.set pb (.cells [selfP pb,bv] 116)) := by
 refine acalls_of MixT func116 (by decide) ?_
 rw [d116]
 have hh : hcells K pb = some [ad,bv] := by simp [hcells,h1]
 have hl : hlen K pb = some 2 := by rw [hcells_len hh]; rfl
 have hlt : pb < K.length := (List.getElem?_eq_some_iff.1 h1).1
 rcases h2 with rfl | rfl
 · simp [nilV,aIsPtr,hh,hl,aBin_nilptr (P := prog) (T := 114) (e := 116) (by simp)]
   have hcv : convV prog K 114 174 (selfP pb) = some (selfP pb) := by simp [convV,aConv,aPtrConv,h1]
   have hcv2 : convV prog K 174 114 (selfP pb) = some (selfP pb) := by
    have : prog.cellsOf 116 = 2 := by kernel_rfl
    simp [convV,aConv,aPtrConv,h1,this]
   simp only [hcv,bnd_some]
   refine bndC_of (c_noEscape _ _) ?_
   simp only [hcv2,bnd_some]
   simp [nilV,aIsPtr,hl,h1]
 · simp [nilV,aIsPtr,hh,hl,aBin_ptrnil (P := prog) (T := 114) (e := 116) (by simp)]
   have := aBin_ptrne (P := prog) (H := K) (T := 114) (x := Operand.tmp 17) (y := Operand.tmp 18) (e := 116) (b := pb) (o := 0) (m := 2) (z := 1) (by simp) (by simp) hl
   simp [this]
   exact (set_same h1).symm
theorem Buf.add {g : Bool} {K : AHeap} {pb : Nat} {v : Value} {s ys : List UInt8} {t2 : TypeId} {x : Value} (h : Buf g K pb v s) (hpb : pb < K.length) (hx : aSrc K 1 x = some (ys.length,bcells ys)) (ht : isSeq prog t2 = true) (hne : ys ≠ []) (hlen : s.length + ys.length ≤ 2 ^ 46) :
  ∃ v' K',aBuiltin prog K .append #[55,t2] [v,x] = some (v',K') ∧ Buf false K' pb v' (s ++ ys) ∧ Keeps pb K K' ∧ K'[pb]? = K[pb]? := by
 have hy : ys.length ≠ 0 := by simpa using hne
 cases h with
 | nil =>
   refine ⟨.slice (some ⟨K.length,0,some ys.length⟩) ys.length ys.length,K ++ [.cells (bcells ys) 5],?_,?_,.app,by rw [List.getElem?_append_left hpb]⟩
   · have : ys.length ≤ 140737488355328 := by simp at hlen; omega
     have h2 : ys.length ≤ 9223372036854775807 := by omega
     simp [aBuiltin,aAppend,hx,ht,hne,this,h2,bcells]
   · refine .mk K.length ys.length ys.length (bcells ys) ys hpb (by simp) (by simp [bcells]) rfl (Nat.le_refl _) (by rw [List.take_of_length_le (by simp [bcells])]) (fun _ => hne) (by omega)
 | mk bb n c cs s h1 h2 h3 h4 h5 h6 h7 h8 =>
   subst h4
   by_cases hfit : s.length + ys.length ≤ c
   · refine ⟨.slice (some ⟨bb,0,some c⟩) (s.length + ys.length) c,K.set bb (.cells (putCells cs (0 + s.length * 1) (bcells ys)) 5),?_,?_,.set (by omega),by rw [List.getElem?_set_ne (by omega)]⟩
     · simp [aBuiltin,aAppend,hx,ht,h2,h3,h5,hfit]
     · have hlt := (List.getElem?_eq_some_iff.1 h2).1
       have e : putCells cs (0 + s.length * 1) (bcells ys) = cs.take s.length ++ bcells ys ++ cs.drop (s.length + ys.length) := by
        rw [putCells_eq _ _ _ (by simp [bcells]; omega)]
        simp [bcells]
       rw [e]
       refine .mk bb (s.length + ys.length) c _ (s ++ ys) h1 (List.getElem?_set_self hlt) (by simp [bcells]; omega) (by simp) hfit ?_ (fun _ => by simp [hne]) h8
       rw [h6,List.take_append_of_le_length (by simp [bcells]),List.take_of_length_le (by simp [bcells])]
       simp [bcells]
   · refine ⟨.slice (some ⟨bb,0,some ((s.length + ys.length) * 1)⟩) (s.length + ys.length) (s.length + ys.length),K.set bb (.cells (cs.take (s.length * 1) ++ bcells ys) 5),?_,?_,.set (by omega),by rw [List.getElem?_set_ne (by omega)]⟩
     · have q : (s.length + ys.length) * 1 ≤ 140737488355328 := by simp at hlen; omega
       have q2 : s.length + ys.length ≤ 9223372036854775807 := by omega
       simp at q
       simp [aBuiltin,aAppend,hx,ht,h2,h3,h5,hfit,q,q2]
     · have hlt := (List.getElem?_eq_some_iff.1 h2).1
       simp only [Nat.mul_one]
       refine .mk bb (s.length + ys.length) _ _ (s ++ ys) h1 (List.getElem?_set_self hlt) (by simp [bcells]; omega) (by simp) (Nat.le_refl _) ?_ (fun _ => by simp [hne]) (by omega)
       rw [List.take_of_length_le (by simp [bcells]; omega),h6]
       simp [bcells]
theorem c_writeByte {g : Bool} {K : AHeap} {pb : Nat} {s : List UInt8} {b : UInt8} (hb : Bld g K pb s) (hsl : s.length < 2 ^ 46) :
  ∃ v K',(v = .nilIface ∧ Bld false K' pb (s ++ [b]) ∧ Keeps pb K K') ∧ ACalls prog 125 [selfP pb,byt b] K v K' := by
 refine acalls_ex MixT func125 (by decide) ?_
 rw [d125]
 obtain ⟨ad,bv,h1,h2,h3⟩ := hb
 refine bndC_of (c_copyCheck h1 h2 h3.one) ?_
 have hlt : pb < K.length := (List.getElem?_eq_some_iff.1 h1).1
 generalize hK : K.set pb (.cells [selfP pb,bv] 116) = K1
 have g1 : K1[pb]? = some (.cells [selfP pb,bv] 116) := by rw [← hK]; exact get_set h1
 have g3 : Buf g K1 pb bv s := by rw [← hK]; exact h3.setPb
 have hk1 : Keeps pb K K1 := by rw [← hK]; exact .set (Nat.le_refl _)
 have hlt1 : pb < K1.length := (List.getElem?_eq_some_iff.1 g1).1
 have hh : hcells K1 pb = some [selfP pb,bv] := by simp [hcells,g1]
 have hl : hlen K1 pb = some 2 := by rw [hcells_len hh]; rfl
 simp [nilV,aIsPtr,hh,hl]
 have hlit := sliceLit1 (P := prog) (H := K1) (T := 55) (e := 5) (zv := .int .u8 0) (n := 1) (l := [byt b]) (by simp) (by simp) rfl (by simp)
 refine bndL_lit hlit ?_
 obtain ⟨v',K',q1,q2,q3,q4⟩ := (g3.app (X := [.cells [byt b] 5])).add (t2 := 55) (x := .slice (some ⟨K1.length,0,some 1⟩) 1 1) (ys := [b]) (by simp; omega) (by simp [aSrc,bcells]) (by simp [isSeq]) (by simp) (by simp; omega)
 simp only [q1,bndE_some]
 have g4 : K'[pb]? = some (.cells [selfP pb,bv] 116) := by rw [q4]; exact get_more g1
 have hl2 : hlen K' pb = some 2 := by simp [hlen,g4]
 simp [nilV,aIsPtr,hl2,g4,q2.one,cells_one,stor_one]
 refine ⟨⟨selfP pb,v',by rw [List.getElem?_set_self (List.getElem?_eq_some_iff.1 g4).1],.inr rfl,q2.setPb⟩,?_⟩
 exact hk1.trans (Keeps.app.trans (q3.trans (.set (Nat.le_refl _))))
theorem u8l_bcells (s : List UInt8) : u8l (bcells s) = some s := u8l_map s
theorem c_bstring {K : AHeap} {pb : Nat} {s : List UInt8} (hb : Bld false K pb s) (hsl : s.length < 2 ^ 47) :
  ∃ v K',(v = str s ∧ Keeps pb K K') ∧ ACalls prog 80 [selfP pb] K v K' := by
 refine acalls_ex MixT func80 (by decide) ?_
 rw [d80]
 obtain ⟨ad,bv,h1,h2,h3⟩ := hb
 have hh : hcells K pb = some [ad,bv] := by simp [hcells,h1]
 have hl : hlen K pb = some 2 := by rw [hcells_len hh]; rfl
 simp [nilV,aIsPtr,hh,hl]
 cases h3 with
 | nil =>
   refine bndD_same (v := .pointer none) (by simp [aBuiltin,aSliceData]) ?_
   simp [nilV,aIsPtr,hh,hl]
   refine bndD_of (v := .string .empty) (H' := K) (by simp [aBuiltin,aUnsafeString]) (.inl rfl) ?_
   exact ⟨rfl,.refl _ _⟩
 | mk bb n c cs s q1 q2 q3 q4 q5 q6 q7 q8 =>
   have hl2 : hlen K bb = some c := by simp [hlen,q2,AObj.len,q3]
   refine bndD_same (v := .pointer (some ⟨bb,0,some c⟩)) (by simp [aBuiltin,aSliceData,q8,hl2]) ?_
   simp [nilV,aIsPtr,hh,hl]
   have hne := q7 rfl
   have hn : 0 < n := by rw [q4]; exact List.length_pos_iff.2 hne
   have hce : prog.cellsOf 5 = 1 := by kernel_rfl
   have hu : u8l (cs.take n) = some s := by rw [q6]; exact u8l_bcells s
   refine bndD_of (v := str s) (H' := K.set bb (.ro cs)) ?_ (.inl rfl) ?_
   · have e1 : (n : Int) ≤ (c : Int) := by omega
     have e2 : (n : Int) ≤ 9223372036854775807 := by omega
     simp [aBuiltin,aUnsafeString,q2,q3,hce,hn,e1,e2,hu]
   · exact ⟨rfl,.set (by omega)⟩
theorem c_writeString {g : Bool} {K : AHeap} {pb : Nat} {s ys : List UInt8} (hb : Bld g K pb s) (hlm : s.length + ys.length ≤ 2 ^ 46) :
  ∃ v K',(v = .tuple #[i64 ys.length,.nilIface] ∧ Bld (g && decide (ys = [])) K' pb (s ++ ys) ∧ Keeps pb K K') ∧ ACalls prog 79 [selfP pb,str ys] K v K' := by
 refine acalls_ex MixT func79 (by decide) ?_
 rw [d79]
 obtain ⟨ad,bv,h1,h2,h3⟩ := hb
 refine bndC_of (c_copyCheck h1 h2 h3.one) ?_
 have hlt : pb < K.length := (List.getElem?_eq_some_iff.1 h1).1
 generalize hK : K.set pb (.cells [selfP pb,bv] 116) = K1
 have g1 : K1[pb]? = some (.cells [selfP pb,bv] 116) := by rw [← hK]; exact get_set h1
 have g3 : Buf g K1 pb bv s := by rw [← hK]; exact h3.setPb
 have hk1 : Keeps pb K K1 := by rw [← hK]; exact .set (Nat.le_refl _)
 have hlt1 : pb < K1.length := (List.getElem?_eq_some_iff.1 g1).1
 have hh : hcells K1 pb = some [selfP pb,bv] := by simp [hcells,g1]
 have hl : hlen K1 pb = some 2 := by rw [hcells_len hh]; rfl
 simp [nilV,aIsPtr,hh,hl]
 by_cases hne : ys = []
 · subst hne
   have happ : aBuiltin prog K1 .append #[55,9] [bv,str []] = some (bv,K1) := by
    cases g3 with
    | nil => simp [aBuiltin,aAppend,aSrc,isSeq,bytesL]
    | mk bb n c cs s p1 p2 p3 p4 p5 p6 p7 p8 =>
      simp [aBuiltin,aAppend,aSrc,isSeq,bytesL,p2,p3,p5]
      rw [putCells_eq _ _ _ (by simp; omega)]
      simp
      exact set_same p2
   simp only [happ,bndE_some]
   simp [nilV,aIsPtr,hl,g1,g3.one,cells_one,stor_one]
   exact ⟨⟨selfP pb,bv,by rw [List.getElem?_set_self hlt1],.inr rfl,g3.setPb⟩,hk1.trans (.set (Nat.le_refl _))⟩
 · obtain ⟨v',K',q1,q2,q3,q4⟩ := g3.add (t2 := 9) (x := str ys) (ys := ys) hlt1 (by simp [aSrc,bcells,bytesL]) (by simp [isSeq]) hne hlm
   simp only [q1,bndE_some]
   have g4 : K'[pb]? = some (.cells [selfP pb,bv] 116) := by rw [q4]; exact g1
   have hl2 : hlen K' pb = some 2 := by simp [hlen,g4]
   simp [nilV,aIsPtr,hl2,g4,q2.one,cells_one,stor_one,hne]
   exact ⟨⟨selfP pb,v',by rw [List.getElem?_set_self (List.getElem?_eq_some_iff.1 g4).1],.inr rfl,q2.setPb⟩,hk1.trans (q3.trans (.set (Nat.le_refl _)))⟩
end Go.Vi
namespace Go.Vi
open Go Go.Proofs
def textF : List UInt8 → List UInt8 → Nat → List UInt8 × Nat
 | [],_,_ => ([],0)
 | b :: r, acc, c => if isSign b = true then
     (if ((b.toNat : Int) == 34) = true then (acc,c + 1)
      else if ((b.toNat : Int) == 92) = true then match r with
       | e :: r' => if ((e.toNat : Int) == 34 || (e.toNat : Int) == 92) = true then textF r' (acc ++ [e]) (c + 2) else ([],0)
       | [] => ([],0)
      else textF r (acc ++ [b]) (c + 1))
   else ([],0)
theorem textF_cons (b : UInt8) (r acc : List UInt8) (c : Nat) : textF (b :: r) acc c = if isSign b = true then
   (if ((b.toNat : Int) == 34) = true then (acc,c + 1)
    else if ((b.toNat : Int) == 92) = true then match r with
     | e :: r' => if ((e.toNat : Int) == 34 || (e.toNat : Int) == 92) = true then textF r' (acc ++ [e]) (c + 2) else ([],0)
     | [] => ([],0)
    else textF r (acc ++ [b]) (c + 1))
  else ([],0) := by rw [textF.eq_def]
theorem textF_len : ∀ (f : Nat) (r acc : List UInt8) (c : Nat),r.length ≤ f → (textF r acc c).2 ≤ c + r.length := by
 intro f
 induction f with
 | zero => intro r acc c h; have : r = [] := List.eq_nil_of_length_eq_zero (by omega); subst this; simp [textF]
 | succ f ih =>
   intro r acc c h
   cases r with
   | nil => simp [textF]
   | cons b r =>
     rw [textF_cons]
     simp at h
     split
     · split
       · simp <;> omega
       · split
         · cases r with
           | nil => simp
           | cons e r =>
             simp only
             split
             · have := ih r (acc ++ [e]) (c + 2) (by simp at h; omega); simp; omega
             · simp
         · have := ih r (acc ++ [b]) (c + 1) (by omega); simp; omega
     · simp
def sigs1 : List UInt8 := [60,62,61,33,94]
def sigs2 : List UInt8 := [123,125,40,41,91,93,44,58,59,61,60,62,45]
def hasB (l : List UInt8) (b : UInt8) : Bool := decide (Lib.indexByte l b ≥ 0)
def signF : List UInt8 → Nat
 | [] => 0
 | b :: r => if ((r[0]?).any (fun e => (e.toNat : Int) == 61) && hasB sigs1 b) = true then 2 else if hasB sigs2 b = true then 1 else 0
end Go.Vi
namespace Go.Vi
open Go Go.Proofs
structure Tok where
 kind : Int
 text : List UInt8
 at' : Int
def Tok.cells (t : Tok) : List Value := [.int .u8 t.kind,str t.text,i64 t.at']
def runF (p : UInt8 → Bool) (s : List UInt8) : Nat := (s.takeWhile p).length
def numLen (s : List UInt8) : Nat :=
 if ((s[runF isDig s]?).any (fun e => (e.toNat : Int) == 46) && decide (runF isDig (s.drop (runF isDig s + 1)) > 0)) = true then runF isDig s + (1 + runF isDig (s.drop (runF isDig s + 1))) else runF isDig s
def oneF (s : List UInt8) (a : Nat) : Tok × Nat := match s with
 | [] => (⟨0,[],a⟩,0)
 | b :: r => if isLow b = true then (⟨1, s.take (runF isMark s), a⟩, runF isMark s)
   else if isDig b = true then (⟨2,s.take (numLen s),a⟩,numLen s)
   else if ((b.toNat : Int) == 34) = true then (⟨3,(textF r [] 1).1,a⟩,(textF r [] 1).2)
   else (⟨4,s.take (signF s),a⟩,signF s)
theorem runF_le (p : UInt8 → Bool) (s : List UInt8) : runF p s ≤ s.length := by
 unfold runF; exact List.IsPrefix.length_le (List.takeWhile_prefix p)
theorem numLen_le (s : List UInt8) : numLen s ≤ s.length := by
 unfold numLen
 have h1 := runF_le isDig s
 have h2 := runF_le isDig (s.drop (runF isDig s + 1))
 rw [List.length_drop] at h2
 split
 · rename_i h
   simp only [Bool.and_eq_true,Option.any_eq_true] at h
   obtain ⟨⟨e,he,_⟩,_⟩ := h
   have := (List.getElem?_eq_some_iff.1 he).1
   omega
 · exact h1
theorem signF_le (s : List UInt8) : signF s ≤ s.length := by
 cases s with
 | nil => simp [signF]
 | cons b r =>
   simp only [signF]
   split
   · rename_i h
     simp only [Bool.and_eq_true,Option.any_eq_true] at h
     obtain ⟨⟨e,he,_⟩,_⟩ := h
     have := (List.getElem?_eq_some_iff.1 he).1
     simp; omega
   · split <;> simp
end Go.Vi
