/- What the functions' bodies come to. What the functions' bodies come to. What the functions' bodies come to. What the functions' bodies come to. What the functions' bodies come to. What the functions' bodies come to. -/
import Derived.Test.YtgekefehilgkeaaJCheckConfigs2
import Derived.Test.YtgekefehilgkeaaChecked
namespace Go.Vi
open Go Go.Proofs Go.Proofs.Try
-- tocsin/tocsinlaw11.Big
def L14x0 (n : Nat) (k : Value → AHeap → Prop) (sl : List Value) (H : AHeap) : Prop := kit prog (cl (cl (cr (cl (cr (cr (cb Try.f14))))))) n (kblk 0 (kseq prog (cr (cr (cr (cb Try.f14)))) (kfin prog Try.f14 k)))
 .normal sl H
def L14x1 (n : Nat) (k : Value → AHeap → Prop) (sl : List Value) (H : AHeap) : Prop := kit prog (cl (cl (cr (cl (cr (cr (cr (cb Try.f14)))))))) n (kblk 2 (kseq prog (cr (cr (cr (cr (cb Try.f14))))) (kfin prog Try.f14
 k))) .normal sl H
theorem d14 (a0 : Value) (H : AHeap) (k : Value → AHeap → Prop) : kbody prog Try.f14 [a0] H k = (@bndE (aNew H 42 a0) ⟨fun v1x1 H2 => @bnd (aFieldAddr prog H2 42 v1x1 0) ⟨fun v5x3 => @bnd (aLoad prog H2 39 v5x3) ⟨fun
 v6x4 => @bnd (aLen prog H2 39 v6x4) ⟨fun v7x5 => @bnd (aBin2 prog H2 .gtr 3 (.tmp 7) (.const (.int .i64 20)) v7x5 (.int .i64 20)) ⟨fun v8x6 => @bnd (gif v8x6 false (aFieldAddr prog H2 42 v1x1 1) undef) ⟨fun v10x7 =>
 @bnd (gif v8x6 false (aLoad prog H2 40 v10x7) undef) ⟨fun v11x8 => @bnd (gif v8x6 false (aLen prog H2 40 v11x8) undef) ⟨fun v12x9 => @bnd (gif v8x6 false (aBin2 prog H2 .gtr 3 (.tmp 12) (.const (.int .i64 50)) v12x9
 (.int .i64 50)) undef) ⟨fun v13x10 => @bnd (pickV v8x6 (.bool true) v13x10) ⟨fun v14x11 => @kifB v14x11 ⟨k (.bool true) H2⟩ ⟨∃ n,L14x0 n  k [a0,v1x1,(.bool false),(.int .i64 0),undef,v5x3,v6x4,v7x5,v8x6,v8x6,v10x7,
 v11x8,v12x9,v13x10,v14x11,undef,undef,undef,undef,undef,undef,undef,undef,undef,undef,undef,undef,undef,undef,undef,undef,undef,undef,undef,undef,undef,undef,undef,undef,undef,undef,undef,undef]
 H2⟩⟩⟩⟩⟩⟩⟩⟩⟩⟩⟩) := by kernel_rfl
theorem L14x0q (n0 : Nat) (s0 s1 s2 s3 s4 s5 s6 s7 s8 s9 s10 s11 s12 s13 s14 s15 s16 s17 s18 s19 s20 s21 s22 s23 s24 s25 s26 s27 s28 s29 s30 s31 s32 s33 s34 s35 s36 s37 s38 s39 s40 s41 s42 : Value) (H : AHeap) (k : Value → AHeap
 → Prop) : L14x0 (n0 + 1) k [s0,s1,s2,s3,s4,s5,s6,s7,s8,s9,s10,s11,s12,s13,s14,s15,s16,s17,s18,s19,s20,s21,s22,s23,s24,s25,s26,s27,s28,s29,s30,s31,s32,s33,s34,s35,s36,s37,s38,s39,s40,s41,
 s42] H = (@bnd (aFieldAddr prog H 42 s1 0) ⟨fun v16x12 => @bnd (aLoad prog H 39 v16x12) ⟨fun v17x13 => @bnd (aLen prog H 39 v17x13) ⟨fun v18x14 => @bnd (aBin2 prog H .lss 3 (.tmp 15) (.tmp 18) s3 v18x14) ⟨fun
 v19x15 => @kifB v19x15 ⟨@bnd (aFieldAddr prog H 42 s1 0) ⟨fun v22x16 => @bnd (aLoad prog H 39 v22x16) ⟨fun v23x17 => @bnd (aIndexAddr prog H 39 v23x17 s3) ⟨fun v25x18 => @bnd (aLoad prog H 25 v25x18) ⟨fun v26x19
 => @bndC prog 5 [v26x19] H ⟨fun v27x20 H21 => @kifB v27x20 ⟨k (.bool true) H21⟩ ⟨@bnd (aBin2 prog H21 .add 3 (.tmp 20) (.const (.int .i64 1)) s3 (.int .i64 1)) ⟨fun v21x22 => L14x0 n0  k [s0,s1,s2,v21x22,s4,s5,s6,
 s7,s8,s9,s10,s11,s12,s13,s14,s3,v16x12,v17x13,v18x14,v19x15,s3,v21x22,v22x16,v23x17,s3,v25x18,v26x19,v27x20,s28,s29,s30,s31,s32,s33,s34,s35,s36,s37,s38,s39,s40,s41,s42] H21⟩⟩⟩⟩⟩⟩⟩⟩ ⟨∃ n,L14x1
 n  k [s0,s1,s2,s3,(.int .i64 0),s5,s6,s7,s8,s9,s10,s11,s12,s13,s14,s3,v16x12,v17x13,v18x14,v19x15,s20,s21,s22,s23,s24,s25,s26,s27,s28,s29,s30,s31,s32,s33,s34,s35,s36,s37,s38,s39,s40,s41,
 s42] H⟩⟩⟩⟩⟩) := by kernel_rfl
theorem L14x1q (n1 : Nat) (s0 s1 s2 s3 s4 s5 s6 s7 s8 s9 s10 s11 s12 s13 s14 s15 s16 s17 s18 s19 s20 s21 s22 s23 s24 s25 s26 s27 s28 s29 s30 s31 s32 s33 s34 s35 s36 s37 s38 s39 s40 s41 s42 : Value) (H : AHeap) (k : Value → AHeap
 → Prop) : L14x1 (n1 + 1) k [s0,s1,s2,s3,s4,s5,s6,s7,s8,s9,s10,s11,s12,s13,s14,s15,s16,s17,s18,s19,s20,s21,s22,s23,s24,s25,s26,s27,s28,s29,s30,s31,s32,s33,s34,s35,s36,s37,s38,s39,s40,s41,
 s42] H = (@bnd (aFieldAddr prog H 42 s1 1) ⟨fun v29x23 => @bnd (aLoad prog H 40 v29x23) ⟨fun v30x24 => @bnd (aLen prog H 40 v30x24) ⟨fun v31x25 => @bnd (aBin2 prog H .lss 3 (.tmp 28) (.tmp 31) s4 v31x25) ⟨fun
 v32x26 => @kifB v32x26 ⟨@bnd (aFieldAddr prog H 42 s1 1) ⟨fun v35x27 => @bnd (aLoad prog H 40 v35x27) ⟨fun v36x28 => @bnd (aIndexAddr prog H 40 v36x28 s4) ⟨fun v38x29 => @bnd (aFieldAddr prog H 28 v38x29 0) ⟨fun
 v39x30 => @bnd (aLoad prog H 9 v39x30) ⟨fun v40x31 => @bnd (aLen prog H 9 v40x31) ⟨fun v41x32 => @bnd (aBin2 prog H .gtr 3 (.tmp 41) (.const (.int .i64 1000)) v41x32 (.int .i64 1000)) ⟨fun v42x33 => @kifB v42x33 ⟨k
 (.bool true) H⟩ ⟨@bnd (aBin2 prog H .add 3 (.tmp 33) (.const (.int .i64 1)) s4 (.int .i64 1)) ⟨fun v34x34 => L14x1 n1  k [s0,s1,s2,s3,v34x34,s5,s6,s7,s8,s9,s10,s11,s12,s13,s14,s15,s16,s17,s18,s19,s20,
 s21,s22,s23,s24,s25,s26,s27,s4,v29x23,v30x24,v31x25,v32x26,s4,v34x34,v35x27,v36x28,s4,v38x29,v39x30,v40x31,v41x32,v42x33] H⟩⟩⟩⟩⟩⟩⟩⟩⟩⟩ ⟨k (.bool false) H⟩⟩⟩⟩⟩) := by kernel_rfl
-- tocsin/tocsinref11.Copy
def L15x0 (n : Nat) (k : Value → AHeap → Prop) (sl : List Value) (H : AHeap) : Prop := kit prog (cl (cl (cr (cl (cr (cr (cb Try.f15))))))) n (kblk 0 (kseq prog (cr (cr (cr (cb Try.f15)))) (kfin prog Try.f15 k)))
 .normal sl H
theorem d15 (a0 : Value) (H : AHeap) (k : Value → AHeap → Prop) : kbody prog Try.f15 [a0] H k = (@bndE (aNew H 42 a0) ⟨fun v1x1 H2 => @bndE (aAlloc prog H2 42) ⟨fun v2x3 H4 => @bnd (aFieldAddr prog H4 42 v1x1 2) ⟨fun
 v5x5 => @bnd (aLoad prog H4 3 v5x5) ⟨fun v6x6 => @bnd (aFieldAddr prog H4 42 v1x1 3) ⟨fun v7x7 => @bnd (aLoad prog H4 3 v7x7) ⟨fun v8x8 => @bnd (buildV prog 42 [(2,v6x6),(3,v8x8)]) ⟨fun v9x9 => @bndE (aAlloc
 prog H4 42) ⟨fun v3x10 H11 => @bndS (aStore prog H11 42 v3x10 v9x9) ⟨fun _ H13 => ∃ n,L15x0 n  k [a0,v1x1,v2x3,v3x10,(.int .i64 0),v5x5,v6x6,v7x7,v8x8,v9x9,undef,undef,undef,undef,undef,undef,undef,
 undef,undef,undef,undef,undef,undef,undef,undef,undef,undef,undef,undef,undef,undef,undef,undef,undef,undef] H13⟩⟩⟩⟩⟩⟩⟩⟩⟩) := by kernel_rfl
theorem L15x0q (n0 : Nat) (s0 s1 s2 s3 s4 s5 s6 s7 s8 s9 s10 s11 s12 s13 s14 s15 s16 s17 s18 s19 s20 s21 s22 s23 s24 s25 s26 s27 s28 s29 s30 s31 s32 s33 s34 : Value) (H : AHeap) (k : Value → AHeap → Prop) : L15x0 (n0 + 1) k [s0,
 s1,s2,s3,s4,s5,s6,s7,s8,s9,s10,s11,s12,s13,s14,s15,s16,s17,s18,s19,s20,s21,s22,s23,s24,s25,s26,s27,s28,s29,s30,s31,s32,s33,s34] H = (@bnd (aFieldAddr prog H 42 s1 0) ⟨fun v11x14 => @bnd
 (aLoad prog H 39 v11x14) ⟨fun v12x15 => @bnd (aLen prog H 39 v12x15) ⟨fun v13x16 => @bnd (aBin2 prog H .lss 3 (.tmp 10) (.tmp 13) s4 v13x16) ⟨fun v14x17 => @kifB v14x17 ⟨@bnd (aFieldAddr prog H 42 s3 0) ⟨fun
 v17x18 => @bnd (aLoad prog H 39 v17x18) ⟨fun v18x19 => @bnd (aFieldAddr prog H 42 s1 0) ⟨fun v19x20 => @bnd (aLoad prog H 39 v19x20) ⟨fun v20x21 => @bnd (aIndexAddr prog H 39 v20x21 s4) ⟨fun v22x22 => @bnd
 (aLoad prog H 25 v22x22) ⟨fun v23x23 => @bndD false H ⟨fun v24x24 H25 => ACalls prog 6 [v23x23] H v24x24 H25⟩ ⟨fun v24x24 H25 => @bndD false H25 ⟨fun v25x26 H27 => sliceLit prog H25 39 1 [(0,v24x24)] v25x26 H27⟩
 ⟨fun v25x26 H27 => @bndD true H27 ⟨fun v26x28 H29 => aBuiltin prog H27 Builtin.append #[39,39] [v18x19,v25x26] = some (v26x28,H29)⟩ ⟨fun v26x28 H29 => @bnd (aFieldAddr prog H29 42 s3 0) ⟨fun v27x30 => @bndD true H29
 ⟨fun x31 H32 => x31 = undef ∧ aStore prog H29 39 v27x30 v26x28 = some H32⟩ ⟨fun _ H32 => @bnd (aBin2 prog H32 .add 3 (.tmp 15) (.const (.int .i64 1)) s4 (.int .i64 1)) ⟨fun v16x33 => L15x0 n0  k [s0,s1,s2,s3,v16x33,
 s5,s6,s7,s8,s9,s4,v11x14,v12x15,v13x16,v14x17,s4,v16x33,v17x18,v18x19,v19x20,v20x21,s4,v22x22,v23x23,v24x24,v25x26,v26x28,v27x30,s28,s29,s30,s31,s32,s33,s34] H32⟩⟩⟩⟩⟩⟩⟩⟩⟩⟩⟩⟩⟩ ⟨@bnd (aFieldAddr
 prog H 42 s3 1) ⟨fun v28x34 => @bnd (aLoad prog H 40 v28x34) ⟨fun v29x35 => @bnd (aFieldAddr prog H 42 s1 1) ⟨fun v30x36 => @bnd (aLoad prog H 40 v30x36) ⟨fun v31x37 => @bndE (aBuiltin prog H Builtin.append
 #[40,40] [v29x35,v31x37]) ⟨fun v32x38 H39 => @bnd (aFieldAddr prog H39 42 s3 1) ⟨fun v33x40 => @bndS (aStore prog H39 40 v33x40 v32x38) ⟨fun _ H42 => @bnd (aLoad prog H42 42 s3) ⟨fun v34x43 => @bndS (aStore
 prog H42 42 s2 v34x43) ⟨fun _ H45 => ∃ r46,aLoad prog H45 42 s2 = some r46 ∧ k r46 H45⟩⟩⟩⟩⟩⟩⟩⟩⟩⟩⟩⟩⟩⟩) := by kernel_rfl
-- tocsin/check.Config
def L16x0 (n : Nat) (k : Value → AHeap → Prop) (sl : List Value) (H : AHeap) : Prop := kit prog (cl (cl (cr (cl (cr (cr (cr (cb Try.f16)))))))) n (kblk 0 (kseq prog (cr (cr (cr (cr (cb Try.f16))))) (kfin prog Try.f16
 k))) .normal sl H
def L16x1 (n : Nat) (k : Value → AHeap → Prop) (sl : List Value) (H : AHeap) : Prop := kit prog (cl (cl (cr (cl (cr (cr (cr (cr (cb Try.f16))))))))) n (kblk 2 (kseq prog (cr (cr (cr (cr (cr (cb Try.f16)))))) (kfin
 prog Try.f16 k))) .normal sl H
def L16x2 (n : Nat) (n1 : Nat) (k : Value → AHeap → Prop) (sl : List Value) (H : AHeap) : Prop := kit prog (cl (cl (cr (cr (cr (cl (cl (cr (cr (cl (cl (cr (cl (cr (cr (cr (cr (cb Try.f16)))))))))))))))))) n (kblk 4 (kblk 3
 (kseq prog (cr (cr (cr (cl (cl (cr (cl (cr (cr (cr (cr (cb Try.f16)))))))))))) (kit prog (cl (cl (cr (cl (cr (cr (cr (cr (cb Try.f16))))))))) n1 (kblk 2 (kseq prog (cr (cr (cr (cr (cr (cb Try.f16)))))) (kfin
 prog Try.f16 k))))))) .normal sl H
def S16x0 (n2 : Nat) (n1 : Nat) (k : Value → AHeap → Prop) (sl : List Value) (H : AHeap) : Prop := kseq prog (cr (cr (cr (cl (cl (cr (cr (cr (cl (cl (cr (cr (cl (cl (cr (cl (cr (cr (cr (cr (cb Try.f16)))))))))))))))))))))
 (kit prog (cl (cl (cr (cr (cr (cl (cl (cr (cr (cl (cl (cr (cl (cr (cr (cr (cr (cb Try.f16)))))))))))))))))) n2 (kblk 4 (kblk 3 (kseq prog (cr (cr (cr (cl (cl (cr (cl (cr (cr (cr (cr (cb Try.f16)))))))))))) (kit prog
 (cl (cl (cr (cl (cr (cr (cr (cr (cb Try.f16))))))))) n1 (kblk 2 (kseq prog (cr (cr (cr (cr (cr (cb Try.f16)))))) (kfin prog Try.f16 k)))))))) .normal sl H
theorem d16 (a0 : Value) (H : AHeap) (k : Value → AHeap → Prop) : kbody prog Try.f16 [a0] H k = (@bndE (aNew H 42 a0) ⟨fun v1x1 H2 => @bnd (aFieldAddr prog H2 42 v1x1 0) ⟨fun v10x3 => @bnd (aLoad prog H2 39 v10x3)
 ⟨fun v11x4 => @bnd (aLen prog H2 39 v11x4) ⟨fun v12x5 => @bnd (aBin2 prog H2 .gtr 3 (.tmp 12) (.const (.int .i64 8)) v12x5 (.int .i64 8)) ⟨fun v13x6 => @bnd (gif v13x6 false (aFieldAddr prog H2 42 v1x1 1) undef)
 ⟨fun v15x7 => @bnd (gif v13x6 false (aLoad prog H2 40 v15x7) undef) ⟨fun v16x8 => @bnd (gif v13x6 false (aLen prog H2 40 v16x8) undef) ⟨fun v17x9 => @bnd (gif v13x6 false (aBin2 prog H2 .gtr 3 (.tmp 17) (.const
 (.int .i64 4)) v17x9 (.int .i64 4)) undef) ⟨fun v18x10 => @bnd (pickV v13x6 (.bool true) v18x10) ⟨fun v19x11 => @kifB v19x11 ⟨k (.int .i64 110) H2⟩ ⟨@bnd (aFieldAddr prog H2 42 v1x1 2) ⟨fun v20x12 => @bnd (aLoad prog H2
 3 v20x12) ⟨fun v21x13 => @bndD false H2 ⟨fun v22x14 H15 => ACalls prog 22 [v21x13,(.int .i64 0),(.int .i64 100)] H2 v22x14 H15⟩ ⟨fun v22x14 H15 => @bnd (aFieldAddr prog H2 42 v1x1 3) ⟨fun v23x16 => @bnd (aLoad
 prog H2 3 v23x16) ⟨fun v24x17 => @bndD false H15 ⟨fun v25x18 H19 => ACalls prog 22 [v24x17,(.int .i64 1),(.int .i64 1000)] H15 v25x18 H19⟩ ⟨fun v25x18 H19 => @bnd (aFieldAddr prog H2 42 v1x1 0) ⟨fun v26x20 => @bnd
 (aLoad prog H2 39 v26x20) ⟨fun v27x21 => @bndD false H19 ⟨fun v28x22 H23 => ACalls prog 33 [v27x21,(.func (.func 34) #[] #[])] H19 v28x22 H23⟩ ⟨fun v28x22 H23 => @bnd (aFieldAddr prog H2 42 v1x1 1) ⟨fun v29x24 =>
 @bnd (aLoad prog H2 40 v29x24) ⟨fun v30x25 => @bndD true H23 ⟨fun v31x26 H27 => ACalls prog 35 [v30x25,(.func (.func 36) #[] #[])] H23 v31x26 H27⟩ ⟨fun v31x26 H27 => @bndD true H27 ⟨fun v32x28 H29 => sliceLit prog
 H27 63 4 [(0,v22x14),(1,v25x18),(2,v28x22),(3,v31x26)] v32x28 H29⟩ ⟨fun v32x28 H29 => @bndD true H29 ⟨fun v33x30 H31 => ACalls prog 20 [v32x28] H29 v33x30 H31⟩ ⟨fun v33x30 H31 => @bnd (aFieldAddr prog H31 42 v1x1
 1) ⟨fun v34x32 => @bnd (aLoad prog H31 40 v34x32) ⟨fun v35x33 => @bnd (aLen prog H31 40 v35x33) ⟨fun v36x34 => ∃ n,L16x0 n  k [a0,v1x1,(.int .i64 0),v33x30,undef,undef,undef,undef,undef,undef,v10x3,v11x4,
 v12x5,v13x6,v13x6,v15x7,v16x8,v17x9,v18x10,v19x11,v20x12,v21x13,v22x14,v23x16,v24x17,v25x18,v26x20,v27x21,v28x22,v29x24,v30x25,v31x26,v32x28,v33x30,v34x32,v35x33,v36x34,(.int .i64 0),undef,undef,
 undef,undef,undef,undef,undef,undef,undef,undef,undef,undef,undef,undef,undef,undef,undef,undef,undef,undef,undef,undef,undef,undef,undef,undef,undef,undef,undef,undef,undef,undef,undef,undef]
 H31⟩⟩⟩⟩⟩⟩⟩⟩⟩⟩⟩⟩⟩⟩⟩⟩⟩⟩⟩⟩⟩⟩⟩⟩⟩⟩⟩⟩) := by kernel_rfl
theorem L16x0q (n0 : Nat) (s0 s1 s2 s3 s4 s5 s6 s7 s8 s9 s10 s11 s12 s13 s14 s15 s16 s17 s18 s19 s20 s21 s22 s23 s24 s25 s26 s27 s28 s29 s30 s31 s32 s33 s34 s35 s36 s37 s38 s39 s40 s41 s42 s43 s44 s45 s46 s47 s48 s49 s50 s51 s52
 s53 s54 s55 s56 s57 s58 s59 s60 s61 s62 s63 s64 s65 s66 s67 s68 s69 s70 s71 : Value) (H : AHeap) (k : Value → AHeap → Prop) : L16x0 (n0 + 1) k [s0,s1,s2,s3,s4,s5,s6,s7,s8,s9,s10,s11,s12,s13,s14,s15,s16,s17,
 s18,s19,s20,s21,s22,s23,s24,s25,s26,s27,s28,s29,s30,s31,s32,s33,s34,s35,s36,s37,s38,s39,s40,s41,s42,s43,s44,s45,s46,s47,s48,s49,s50,s51,s52,s53,s54,s55,s56,s57,s58,s59,s60,s61,s62,
 s63,s64,s65,s66,s67,s68,s69,s70,s71] H = (@bnd (aBin2 prog H .lss 3 (.tmp 37) (.tmp 36) s37 s36) ⟨fun v38x35 => @kifB v38x35 ⟨@bnd (aIndexAddr prog H 40 s35 s37) ⟨fun v39x36 => @bnd (aLoad prog H 28 v39x36)
 ⟨fun v40x37 => @bndE (aAlloc prog H 28) ⟨fun v5x38 H39 => @bndS (aStore prog H39 28 v5x38 v40x37) ⟨fun _ H41 => @bnd (aLoad prog H41 28 v5x38) ⟨fun v42x42 => @bndC prog 9 [v42x42] H41 ⟨fun v43x43 H44 => @bndE
 (aBuiltin prog H44 Builtin.max #[31,31] [s3,v43x43]) ⟨fun v44x45 H46 => @bnd (aBin2 prog H46 .add 3 (.tmp 37) (.const (.int .i64 1)) s37 (.int .i64 1)) ⟨fun v45x47 => L16x0 n0  k [s0,s1,s2,v44x45,s4,v5x38,s6,
 s7,s8,s9,s10,s11,s12,s13,s14,s15,s16,s17,s18,s19,s20,s21,s22,s23,s24,s25,s26,s27,s28,s29,s30,s31,s32,s33,s34,s35,s36,v45x47,v38x35,v39x36,v40x37,s3,v42x42,v43x43,v44x45,v45x47,s46,s47,
 s48,s49,s50,s51,s52,s53,s54,s55,s56,s57,s58,s59,s60,s61,s62,s63,s64,s65,s66,s67,s68,s69,s70,s71] H46⟩⟩⟩⟩⟩⟩⟩⟩⟩ ⟨@bnd (aFieldAddr prog H 42 s1 0) ⟨fun v46x48 => @bnd (aLoad prog H 39 v46x48) ⟨fun
 v47x49 => @bnd (aLen prog H 39 v47x49) ⟨fun v48x50 => ∃ n,L16x1 n  k [s0,s1,s2,s3,s4,s5,s6,s7,s8,s9,s10,s11,s12,s13,s14,s15,s16,s17,s18,s19,s20,s21,s22,s23,s24,s25,s26,s27,s28,s29,s30,s31,
 s32,s33,s34,s35,s36,s37,v38x35,s39,s40,s41,s42,s43,s44,s45,v46x48,v47x49,v48x50,(.int .i64 0),s50,s51,s52,s53,s54,s55,s56,s57,s58,s59,s60,s61,s62,s63,s64,s65,s66,s67,s68,s69,s70,s71]
 H⟩⟩⟩⟩⟩) := by kernel_rfl
theorem L16x1q (n1 : Nat) (s0 s1 s2 s3 s4 s5 s6 s7 s8 s9 s10 s11 s12 s13 s14 s15 s16 s17 s18 s19 s20 s21 s22 s23 s24 s25 s26 s27 s28 s29 s30 s31 s32 s33 s34 s35 s36 s37 s38 s39 s40 s41 s42 s43 s44 s45 s46 s47 s48 s49 s50 s51 s52
 s53 s54 s55 s56 s57 s58 s59 s60 s61 s62 s63 s64 s65 s66 s67 s68 s69 s70 s71 : Value) (H : AHeap) (k : Value → AHeap → Prop) : L16x1 (n1 + 1) k [s0,s1,s2,s3,s4,s5,s6,s7,s8,s9,s10,s11,s12,s13,s14,s15,s16,s17,
 s18,s19,s20,s21,s22,s23,s24,s25,s26,s27,s28,s29,s30,s31,s32,s33,s34,s35,s36,s37,s38,s39,s40,s41,s42,s43,s44,s45,s46,s47,s48,s49,s50,s51,s52,s53,s54,s55,s56,s57,s58,s59,s60,s61,s62,
 s63,s64,s65,s66,s67,s68,s69,s70,s71] H = (@bnd (aBin2 prog H .lss 3 (.tmp 49) (.tmp 48) s49 s48) ⟨fun v50x51 => @kifB v50x51 ⟨@bnd (aIndexAddr prog H 39 s47 s49) ⟨fun v51x52 => @bnd (aLoad prog H 25 v51x52)
 ⟨fun v52x53 => @bndE (aAlloc prog H 25) ⟨fun v7x54 H55 => @bndS (aStore prog H55 25 v7x54 v52x53) ⟨fun _ H57 => @bnd (aLoad prog H57 25 v7x54) ⟨fun v54x58 => @bndC prog 7 [v54x58] H57 ⟨fun v55x59 H60 => @bndE
 (aBuiltin prog H60 Builtin.max #[31,31] [s3,v55x59]) ⟨fun v56x61 H62 => @bnd (aFieldAddr prog H62 25 v7x54 6) ⟨fun v57x63 => @bnd (aLoad prog H62 23 v57x63) ⟨fun v58x64 => @bnd (aLen prog H62 23 v58x64) ⟨fun
 v59x65 => ∃ n,L16x2 n n1 k [s0,s1,s2,v56x61,s4,s5,s6,v7x54,s8,s9,s10,s11,s12,s13,s14,s15,s16,s17,s18,s19,s20,s21,s22,s23,s24,s25,s26,s27,s28,s29,s30,s31,s32,s33,s34,s35,s36,s37,s38,s39,
 s40,s41,s42,s43,s44,s45,s46,s47,s48,s49,v50x51,v51x52,v52x53,s3,v54x58,v55x59,v56x61,v57x63,v58x64,v59x65,(.int .i64 0),s61,s62,s63,s64,s65,s66,s67,s68,s69,s70,s71] H62⟩⟩⟩⟩⟩⟩⟩⟩⟩⟩⟩ ⟨k s3 H⟩⟩) := by
 kernel_rfl
theorem L16x2q (n2 : Nat) (n1 : Nat) (s0 s1 s2 s3 s4 s5 s6 s7 s8 s9 s10 s11 s12 s13 s14 s15 s16 s17 s18 s19 s20 s21 s22 s23 s24 s25 s26 s27 s28 s29 s30 s31 s32 s33 s34 s35 s36 s37 s38 s39 s40 s41 s42 s43 s44 s45 s46 s47 s48 s49
 s50 s51 s52 s53 s54 s55 s56 s57 s58 s59 s60 s61 s62 s63 s64 s65 s66 s67 s68 s69 s70 s71 : Value) (H : AHeap) (k : Value → AHeap → Prop) : L16x2 (n2 + 1) n1 k [s0,s1,s2,s3,s4,s5,s6,s7,s8,s9,s10,s11,s12,s13,s14,
 s15,s16,s17,s18,s19,s20,s21,s22,s23,s24,s25,s26,s27,s28,s29,s30,s31,s32,s33,s34,s35,s36,s37,s38,s39,s40,s41,s42,s43,s44,s45,s46,s47,s48,s49,s50,s51,s52,s53,s54,s55,s56,s57,s58,s59,
 s60,s61,s62,s63,s64,s65,s66,s67,s68,s69,s70,s71] H = (@bnd (aBin2 prog H .lss 3 (.tmp 60) (.tmp 59) s60 s59) ⟨fun v61x66 => @kifB v61x66 ⟨@bnd (aIndexAddr prog H 23 s58 s60) ⟨fun v62x67 => @bnd (aLoad
 prog H 9 v62x67) ⟨fun v63x68 => @bndE (aAlloc prog H 9) ⟨fun v9x69 H70 => @bndS (aStore prog H70 9 v9x69 v63x68) ⟨fun _ H72 => @bnd (aFieldAddr prog H72 42 s1 1) ⟨fun v64x73 => @bnd (aLoad prog H72 40
 v64x73) ⟨fun v65x74 => @bndC prog 37 [v65x74,(.func (Fn.func 38) #[] #[v9x69])] H72 ⟨fun v67x75 H76 => @bnd (unV prog .not v67x75) ⟨fun v68x77 => @kifB v68x77 ⟨S16x0 n2 n1 k [s0,s1,s2,(.int .i64 110),s4,s5,s6,
 s7,s8,v9x69,s10,s11,s12,s13,s14,s15,s16,s17,s18,s19,s20,s21,s22,s23,s24,s25,s26,s27,s28,s29,s30,s31,s32,s33,s34,s35,s36,s37,s38,s39,s40,s41,s42,s43,s44,s45,s46,s47,s48,s49,s50,s51,
 s52,s53,s54,s55,s56,s57,s58,s59,s60,v61x66,v62x67,v63x68,v64x73,v65x74,(.func (Fn.func 38) #[] #[v9x69]),v67x75,v68x77,s69,s70,s71] H76⟩ ⟨S16x0 n2 n1 k [s0,s1,s2,s3,s4,s5,s6,s7,s8,v9x69,s10,s11,
 s12,s13,s14,s15,s16,s17,s18,s19,s20,s21,s22,s23,s24,s25,s26,s27,s28,s29,s30,s31,s32,s33,s34,s35,s36,s37,s38,s39,s40,s41,s42,s43,s44,s45,s46,s47,s48,s49,s50,s51,s52,s53,s54,s55,s56,
 s57,s58,s59,s60,v61x66,v62x67,v63x68,v64x73,v65x74,(.func (Fn.func 38) #[] #[v9x69]),v67x75,v68x77,s69,s70,s71] H76⟩⟩⟩⟩⟩⟩⟩⟩⟩⟩ ⟨@bnd (aBin2 prog H .add 3 (.tmp 49) (.const (.int .i64 1)) s49 (.int .i64 1)) ⟨fun
 v70x78 => L16x1 n1  k [s0,s1,s2,s3,s4,s5,s6,s7,s8,s9,s10,s11,s12,s13,s14,s15,s16,s17,s18,s19,s20,s21,s22,s23,s24,s25,s26,s27,s28,s29,s30,s31,s32,s33,s34,s35,s36,s37,s38,s39,s40,s41,s42,
 s43,s44,s45,s46,s47,s48,v70x78,s50,s51,s52,s53,s54,s55,s56,s57,s58,s59,s60,v61x66,s62,s63,s64,s65,s66,s67,s68,s69,v70x78,s71] H⟩⟩⟩) := by kernel_rfl
theorem S16x0q (n2 : Nat) (n1 : Nat) (s0 s1 s2 s3 s4 s5 s6 s7 s8 s9 s10 s11 s12 s13 s14 s15 s16 s17 s18 s19 s20 s21 s22 s23 s24 s25 s26 s27 s28 s29 s30 s31 s32 s33 s34 s35 s36 s37 s38 s39 s40 s41 s42 s43 s44 s45 s46 s47 s48 s49
 s50 s51 s52 s53 s54 s55 s56 s57 s58 s59 s60 s61 s62 s63 s64 s65 s66 s67 s68 s69 s70 s71 : Value) (H : AHeap) (k : Value → AHeap → Prop) : S16x0 n2 n1 k [s0,s1,s2,s3,s4,s5,s6,s7,s8,s9,s10,s11,s12,s13,s14,s15,s16,
 s17,s18,s19,s20,s21,s22,s23,s24,s25,s26,s27,s28,s29,s30,s31,s32,s33,s34,s35,s36,s37,s38,s39,s40,s41,s42,s43,s44,s45,s46,s47,s48,s49,s50,s51,s52,s53,s54,s55,s56,s57,s58,s59,s60,s61,
 s62,s63,s64,s65,s66,s67,s68,s69,s70,s71] H = (@bnd (aBin2 prog H .add 3 (.tmp 60) (.const (.int .i64 1)) s60 (.int .i64 1)) ⟨fun v69x79 => L16x2 n2 n1 k [s0,s1,s2,s3,s4,s5,s6,s7,s8,s9,s10,s11,s12,s13,
 s14,s15,s16,s17,s18,s19,s20,s21,s22,s23,s24,s25,s26,s27,s28,s29,s30,s31,s32,s33,s34,s35,s36,s37,s38,s39,s40,s41,s42,s43,s44,s45,s46,s47,s48,s49,s50,s51,s52,s53,s54,s55,s56,s57,s58,
 s59,v69x79,s61,s62,s63,s64,s65,s66,s67,s68,v69x79,s70,s71] H⟩) := by kernel_rfl
-- tocsin/tocsinref11.Config
theorem d17 (a0 : Value) (H : AHeap) (k : Value → AHeap → Prop) : kbody prog Try.f17 [a0] H k = (@bndE (aNew H 42 a0) ⟨fun v1x1 H2 => @bnd (aLoad prog H2 42 v1x1) ⟨fun v3x3 => @bndC prog 39 [v3x3] H2 ⟨fun v4x4 H5 =>
 @bndC prog 28 [v4x4] H5 ⟨fun v5x6 H7 => k v5x6 H7⟩⟩⟩⟩) := by kernel_rfl
-- tocsin/tocsinref11.Same
def L18x0 (n : Nat) (k : Value → AHeap → Prop) (sl : List Value) (H : AHeap) : Prop := kit prog (cl (cl (cr (cl (cr (cr (cb Try.f18))))))) n (kblk 0 (kseq prog (cr (cr (cr (cb Try.f18)))) (kfin prog Try.f18 k)))
 .normal sl H
def L18x1 (n : Nat) (k : Value → AHeap → Prop) (sl : List Value) (H : AHeap) : Prop := kit prog (cl (cl (cr (cl (cr (cr (cr (cb Try.f18)))))))) n (kblk 2 (kseq prog (cr (cr (cr (cr (cb Try.f18))))) (kfin prog Try.f18
 k))) .normal sl H
theorem d18 (a0 a1 : Value) (H : AHeap) (k : Value → AHeap → Prop) : kbody prog Try.f18 [a0,a1] H k = (@bndE (aNew H 42 a0) ⟨fun v2x1 H2 => @bndE (aNew H2 42 a1) ⟨fun v3x3 H4 => @bnd (aFieldAddr prog H4 42 v2x1 0) ⟨fun
 v7x5 => @bnd (aLoad prog H4 39 v7x5) ⟨fun v8x6 => @bnd (aLen prog H4 39 v8x6) ⟨fun v9x7 => @bnd (aFieldAddr prog H4 42 v3x3 0) ⟨fun v10x8 => @bnd (aLoad prog H4 39 v10x8) ⟨fun v11x9 => @bnd (aLen prog H4 39
 v11x9) ⟨fun v12x10 => @bnd (aBin2 prog H4 .neq 3 (.tmp 9) (.tmp 12) v9x7 v12x10) ⟨fun v13x11 => @bnd (gif v13x11 false (aFieldAddr prog H4 42 v2x1 1) undef) ⟨fun v15x12 => @bnd (gif v13x11 false (aLoad prog H4 40
 v15x12) undef) ⟨fun v16x13 => @bnd (gif v13x11 false (aLen prog H4 40 v16x13) undef) ⟨fun v17x14 => @bnd (gif v13x11 false (aFieldAddr prog H4 42 v3x3 1) undef) ⟨fun v18x15 => @bnd (gif v13x11 false (aLoad prog H4
 40 v18x15) undef) ⟨fun v19x16 => @bnd (gif v13x11 false (aLen prog H4 40 v19x16) undef) ⟨fun v20x17 => @bnd (gif v13x11 false (aBin2 prog H4 .neq 3 (.tmp 17) (.tmp 20) v17x14 v20x17) undef) ⟨fun v21x18 => @bnd (pickV
 v13x11 (.bool true) v21x18) ⟨fun v22x19 => @bnd (gif v22x19 false (aFieldAddr prog H4 42 v2x1 2) undef) ⟨fun v24x20 => @bnd (gif v22x19 false (aLoad prog H4 3 v24x20) undef) ⟨fun v25x21 => @bnd (gif v22x19 false
 (aFieldAddr prog H4 42 v3x3 2) undef) ⟨fun v26x22 => @bnd (gif v22x19 false (aLoad prog H4 3 v26x22) undef) ⟨fun v27x23 => @bnd (gif v22x19 false (aBin2 prog H4 .neq 3 (.tmp 25) (.tmp 27) v25x21 v27x23) undef) ⟨fun
 v28x24 => @bnd (pickV v22x19 (.bool true) v28x24) ⟨fun v29x25 => @bnd (gif v29x25 false (aFieldAddr prog H4 42 v2x1 3) undef) ⟨fun v31x26 => @bnd (gif v29x25 false (aLoad prog H4 3 v31x26) undef) ⟨fun v32x27 => @bnd
 (gif v29x25 false (aFieldAddr prog H4 42 v3x3 3) undef) ⟨fun v33x28 => @bnd (gif v29x25 false (aLoad prog H4 3 v33x28) undef) ⟨fun v34x29 => @bnd (gif v29x25 false (aBin2 prog H4 .neq 3 (.tmp 32) (.tmp 34) v32x27
 v34x29) undef) ⟨fun v35x30 => @bnd (pickV v29x25 (.bool true) v35x30) ⟨fun v36x31 => @kifB v36x31 ⟨k (.bool false) H4⟩ ⟨∃ n,L18x0 n  k [a0,a1,v2x1,v3x3,(.bool false),(.int .i64 0),undef,v7x5,v8x6,v9x7,v10x8,v11x9,
 v12x10,v13x11,v13x11,v15x12,v16x13,v17x14,v18x15,v19x16,v20x17,v21x18,v22x19,v22x19,v24x20,v25x21,v26x22,v27x23,v28x24,v29x25,v29x25,v31x26,v32x27,v33x28,v34x29,v35x30,v36x31,undef,undef,undef,undef,
 undef,undef,undef,undef,undef,undef,undef,undef,undef,undef,undef,undef,undef,undef,undef,undef,undef,undef,undef,undef,undef,undef,undef,undef,undef,undef,undef,undef,undef,undef,undef,undef,
 undef] H4⟩⟩⟩⟩⟩⟩⟩⟩⟩⟩⟩⟩⟩⟩⟩⟩⟩⟩⟩⟩⟩⟩⟩⟩⟩⟩⟩⟩⟩⟩) := by kernel_rfl
theorem L18x0q (n0 : Nat) (s0 s1 s2 s3 s4 s5 s6 s7 s8 s9 s10 s11 s12 s13 s14 s15 s16 s17 s18 s19 s20 s21 s22 s23 s24 s25 s26 s27 s28 s29 s30 s31 s32 s33 s34 s35 s36 s37 s38 s39 s40 s41 s42 s43 s44 s45 s46 s47 s48 s49 s50 s51 s52
 s53 s54 s55 s56 s57 s58 s59 s60 s61 s62 s63 s64 s65 s66 s67 s68 s69 s70 s71 s72 s73 : Value) (H : AHeap) (k : Value → AHeap → Prop) : L18x0 (n0 + 1) k [s0,s1,s2,s3,s4,s5,s6,s7,s8,s9,s10,s11,s12,s13,s14,s15,s16,
 s17,s18,s19,s20,s21,s22,s23,s24,s25,s26,s27,s28,s29,s30,s31,s32,s33,s34,s35,s36,s37,s38,s39,s40,s41,s42,s43,s44,s45,s46,s47,s48,s49,s50,s51,s52,s53,s54,s55,s56,s57,s58,s59,s60,s61,
 s62,s63,s64,s65,s66,s67,s68,s69,s70,s71,s72,s73] H = (@bnd (aFieldAddr prog H 42 s2 0) ⟨fun v38x32 => @bnd (aLoad prog H 39 v38x32) ⟨fun v39x33 => @bnd (aLen prog H 39 v39x33) ⟨fun v40x34 => @bnd (aBin2
 prog H .lss 3 (.tmp 37) (.tmp 40) s5 v40x34) ⟨fun v41x35 => @kifB v41x35 ⟨@bnd (aFieldAddr prog H 42 s2 0) ⟨fun v44x36 => @bnd (aLoad prog H 39 v44x36) ⟨fun v45x37 => @bnd (aIndexAddr prog H 39 v45x37 s5) ⟨fun
 v47x38 => @bnd (aLoad prog H 25 v47x38) ⟨fun v48x39 => @bnd (aFieldAddr prog H 42 s3 0) ⟨fun v49x40 => @bnd (aLoad prog H 39 v49x40) ⟨fun v50x41 => @bnd (aIndexAddr prog H 39 v50x41 s5) ⟨fun v52x42 => @bnd
 (aLoad prog H 25 v52x42) ⟨fun v53x43 => @bndD true H ⟨fun v54x44 H45 => ACalls prog 13 [v48x39,v53x43] H v54x44 H45⟩ ⟨fun v54x44 H45 => @bnd (unV prog .not v54x44) ⟨fun v55x46 => @kifB v55x46 ⟨k (.bool false) H45⟩
 ⟨@bnd (aBin2 prog H45 .add 3 (.tmp 42) (.const (.int .i64 1)) s5 (.int .i64 1)) ⟨fun v43x47 => L18x0 n0  k [s0,s1,s2,s3,s4,v43x47,s6,s7,s8,s9,s10,s11,s12,s13,s14,s15,s16,s17,s18,s19,s20,s21,s22,s23,
 s24,s25,s26,s27,s28,s29,s30,s31,s32,s33,s34,s35,s36,s5,v38x32,v39x33,v40x34,v41x35,s5,v43x47,v44x36,v45x37,s5,v47x38,v48x39,v49x40,v50x41,s5,v52x42,v53x43,v54x44,v55x46,s56,s57,s58,s59,s60,
 s61,s62,s63,s64,s65,s66,s67,s68,s69,s70,s71,s72,s73] H45⟩⟩⟩⟩⟩⟩⟩⟩⟩⟩⟩⟩⟩ ⟨∃ n,L18x1 n  k [s0,s1,s2,s3,s4,s5,(.int .i64 0),s7,s8,s9,s10,s11,s12,s13,s14,s15,s16,s17,s18,s19,s20,s21,s22,s23,s24,
 s25,s26,s27,s28,s29,s30,s31,s32,s33,s34,s35,s36,s5,v38x32,v39x33,v40x34,v41x35,s42,s43,s44,s45,s46,s47,s48,s49,s50,s51,s52,s53,s54,s55,s56,s57,s58,s59,s60,s61,s62,s63,s64,s65,s66,s67,
 s68,s69,s70,s71,s72,s73] H⟩⟩⟩⟩⟩) := by kernel_rfl
theorem L18x1q (n1 : Nat) (s0 s1 s2 s3 s4 s5 s6 s7 s8 s9 s10 s11 s12 s13 s14 s15 s16 s17 s18 s19 s20 s21 s22 s23 s24 s25 s26 s27 s28 s29 s30 s31 s32 s33 s34 s35 s36 s37 s38 s39 s40 s41 s42 s43 s44 s45 s46 s47 s48 s49 s50 s51 s52
 s53 s54 s55 s56 s57 s58 s59 s60 s61 s62 s63 s64 s65 s66 s67 s68 s69 s70 s71 s72 s73 : Value) (H : AHeap) (k : Value → AHeap → Prop) : L18x1 (n1 + 1) k [s0,s1,s2,s3,s4,s5,s6,s7,s8,s9,s10,s11,s12,s13,s14,s15,s16,
 s17,s18,s19,s20,s21,s22,s23,s24,s25,s26,s27,s28,s29,s30,s31,s32,s33,s34,s35,s36,s37,s38,s39,s40,s41,s42,s43,s44,s45,s46,s47,s48,s49,s50,s51,s52,s53,s54,s55,s56,s57,s58,s59,s60,s61,
 s62,s63,s64,s65,s66,s67,s68,s69,s70,s71,s72,s73] H = (@bnd (aFieldAddr prog H 42 s2 1) ⟨fun v57x48 => @bnd (aLoad prog H 40 v57x48) ⟨fun v58x49 => @bnd (aLen prog H 40 v58x49) ⟨fun v59x50 => @bnd (aBin2
 prog H .lss 3 (.tmp 56) (.tmp 59) s6 v59x50) ⟨fun v60x51 => @kifB v60x51 ⟨@bnd (aFieldAddr prog H 42 s2 1) ⟨fun v63x52 => @bnd (aLoad prog H 40 v63x52) ⟨fun v64x53 => @bnd (aIndexAddr prog H 40 v64x53 s6) ⟨fun
 v66x54 => @bnd (aLoad prog H 28 v66x54) ⟨fun v67x55 => @bnd (aFieldAddr prog H 42 s3 1) ⟨fun v68x56 => @bnd (aLoad prog H 40 v68x56) ⟨fun v69x57 => @bnd (aIndexAddr prog H 40 v69x57 s6) ⟨fun v71x58 => @bnd
 (aLoad prog H 28 v71x58) ⟨fun v72x59 => @bnd (aBin2 prog H .neq 28 (.tmp 67) (.tmp 72) v67x55 v72x59) ⟨fun v73x60 => @kifB v73x60 ⟨k (.bool false) H⟩ ⟨@bnd (aBin2 prog H .add 3 (.tmp 61) (.const (.int .i64 1)) s6
 (.int .i64 1)) ⟨fun v62x61 => L18x1 n1  k [s0,s1,s2,s3,s4,s5,v62x61,s7,s8,s9,s10,s11,s12,s13,s14,s15,s16,s17,s18,s19,s20,s21,s22,s23,s24,s25,s26,s27,s28,s29,s30,s31,s32,s33,s34,s35,s36,s37,
 s38,s39,s40,s41,s42,s43,s44,s45,s46,s47,s48,s49,s50,s51,s52,s53,s54,s55,s6,v57x48,v58x49,v59x50,v60x51,s6,v62x61,v63x52,v64x53,s6,v66x54,v67x55,v68x56,v69x57,s6,v71x58,v72x59,v73x60]
 H⟩⟩⟩⟩⟩⟩⟩⟩⟩⟩⟩⟩ ⟨k (.bool true) H⟩⟩⟩⟩⟩) := by kernel_rfl
-- tocsin/tocsinref10.Copy
def L19x0 (n : Nat) (k : Value → AHeap → Prop) (sl : List Value) (H : AHeap) : Prop := kit prog (cl (cl (cr (cl (cr (cr (cb Try.f19))))))) n (kblk 0 (kseq prog (cr (cr (cr (cb Try.f19)))) (kfin prog Try.f19 k)))
 .normal sl H
theorem d19 (a0 : Value) (H : AHeap) (k : Value → AHeap → Prop) : kbody prog Try.f19 [a0] H k = (∃ n,L19x0 n  k [a0,undef,(.slice none 0 0),(.slice none 0 0),(.int .i64 0),undef,undef,undef,undef,undef,undef,
 undef,undef,undef,undef,undef,undef,undef,undef,undef,undef,undef,undef,undef,undef,undef,undef,undef] H) := by kernel_rfl
theorem L19x0q (n0 : Nat) (s0 s1 s2 s3 s4 s5 s6 s7 s8 s9 s10 s11 s12 s13 s14 s15 s16 s17 s18 s19 s20 s21 s22 s23 s24 s25 s26 s27 : Value) (H : AHeap) (k : Value → AHeap → Prop) : L19x0 (n0 + 1) k [s0,s1,s2,s3,s4,s5,s6,s7,
 s8,s9,s10,s11,s12,s13,s14,s15,s16,s17,s18,s19,s20,s21,s22,s23,s24,s25,s26,s27] H = (@bnd (aLen prog H 22 s0) ⟨fun v8x1 => @bnd (aBin2 prog H .lss 3 (.tmp 6) (.tmp 8) s4 v8x1) ⟨fun v9x2 => @kifB v9x2
 ⟨@bnd (aIndexAddr prog H 22 s0 s4) ⟨fun v14x3 => @bnd (aLoad prog H 50 v14x3) ⟨fun v15x4 => @bndE (aAlloc prog H 50) ⟨fun v5x5 H6 => @bndS (aStore prog H6 50 v5x5 v15x4) ⟨fun _ H8 => @bnd (aIndexAddr prog H8
 22 s0 s4) ⟨fun v18x9 => @bnd (aFieldAddr prog H8 50 v18x9 2) ⟨fun v19x10 => @bnd (aLoad prog H8 48 v19x10) ⟨fun v20x11 => @bndC prog 40 [v20x11] H8 ⟨fun v21x12 H13 => @bnd (aFieldAddr prog H13 50 v5x5 2) ⟨fun
 v22x14 => @bndS (aStore prog H13 48 v22x14 v21x12) ⟨fun _ H16 => @bnd (aLoad prog H16 50 v5x5) ⟨fun v24x17 => @bndL prog H16 22 1 [(0,v24x17)] ⟨fun v25x18 H19 => @bndE (aBuiltin prog H19 Builtin.append #[22,
 22] [s3,v25x18]) ⟨fun v26x20 H21 => @bnd (aBin2 prog H21 .add 3 (.tmp 10) (.const (.int .i64 1)) s4 (.int .i64 1)) ⟨fun v11x22 => L19x0 n0  k [s0,s1,s2,v26x20,v11x22,v5x5,s4,s0,v8x1,v9x2,s4,v11x22,s0,s4,
 v14x3,v15x4,s0,s4,v18x9,v19x10,v20x11,v21x12,v22x14,s3,v24x17,v25x18,v26x20,s27] H21⟩⟩⟩⟩⟩⟩⟩⟩⟩⟩⟩⟩⟩⟩⟩ ⟨k s3 H⟩⟩⟩) := by kernel_rfl
-- tocsin/check.all
theorem d20 (a0 : Value) (H : AHeap) (k : Value → AHeap → Prop) : kbody prog Try.f20 [a0] H k = (@bndC prog 30 [a0,(.bool false)] H ⟨fun v4x1 H2 => @kifB v4x1 ⟨k (.int .i64 110) H2⟩ ⟨k (.int .i64 0) H2⟩⟩) := by kernel_rfl
-- tocsin/labels.MayName
theorem d21 (a0 : Value) (H : AHeap) (k : Value → AHeap → Prop) : kbody prog Try.f21 [a0] H k = (@bnd (aLen prog H 9 a0) ⟨fun v4x1 => @bnd (aBin2 prog H .geq 3 (.tmp 4) (.const (.int .i64 1)) v4x1 (.int .i64 1)) ⟨fun
 v5x2 => @bnd (gif v5x2 true ((some a0)) undef) ⟨fun v7x3 => @bnd (gif v5x2 true (aLen prog H 9 v7x3) undef) ⟨fun v8x4 => @bnd (gif v5x2 true (aBin2 prog H .leq 3 (.tmp 8) (.const (.int .i64 16)) v8x4 (.int .i64 16))
 undef) ⟨fun v9x5 => @bnd (pickV v5x2 v9x5 (.bool false)) ⟨fun v10x6 => @bnd (gif v10x6 true ((some a0)) undef) ⟨fun v12x7 => @bnd (gif v10x6 true (aIndex prog 9 v12x7 (.int .i64 0)) undef) ⟨fun v13x8 => @bndG v10x6 true H
 ⟨fun v14x9 H10 => ACalls prog 41 [v13x8] H v14x9 H10⟩ ⟨fun v14x9 H10 => @bnd (pickV v10x6 v14x9 (.bool false)) ⟨fun v15x11 => @bnd (gif v15x11 true ((some a0)) undef) ⟨fun v17x12 => @bndG v15x11 true H10 ⟨fun v18x13 H14 =>
 ACalls prog 42 [v17x12,(.func (.func 43) #[] #[])] H10 v18x13 H14⟩ ⟨fun v18x13 H14 => @bnd (pickV v15x11 v18x13 (.bool false)) ⟨fun v19x15 => k v19x15 H14⟩⟩⟩⟩⟩⟩⟩⟩⟩⟩⟩⟩⟩) := by kernel_rfl
-- tocsin/check.among
theorem d22 (a0 a1 a2 : Value) (H : AHeap) (k : Value → AHeap → Prop) : kbody prog Try.f22 [a0,a1,a2] H k = (@bnd (aBin2 prog H .geq 3 (.tmp 7) (.tmp 8) a0 a1) ⟨fun v9x1 => @bnd (gif v9x1 true ((some a0)) undef) ⟨fun
 v11x2 => @bnd (gif v9x1 true ((some a2)) undef) ⟨fun v12x3 => @bnd (gif v9x1 true (aBin2 prog H .leq 3 (.tmp 11) (.tmp 12) v11x2 v12x3) undef) ⟨fun v13x4 => @bnd (pickV v9x1 v13x4 (.bool false)) ⟨fun v14x5 => k v14x5
 H⟩⟩⟩⟩⟩) := by kernel_rfl
-- slices.ContainsFunc[[]string,string]
theorem d23 (a0 a1 : Value) (H : AHeap) (k : Value → AHeap → Prop) : kbody prog Try.f23 [a0,a1] H k = (@bndC prog 44 [a0,a1] H ⟨fun v7x1 H2 => @bnd (aBin2 prog H2 .geq 3 (.tmp 7) (.const (.int .i64 0)) v7x1 (.int
 .i64 0)) ⟨fun v8x3 => k v8x3 H2⟩⟩) := by kernel_rfl
-- tocsin/check.Rule$1
theorem d24 (a0 : Value) (H : AHeap) (k : Value → AHeap → Prop) : kbody prog Try.f24 [a0] H k = (@bndC prog 21 [a0] H ⟨fun v4x1 H2 => @bnd (unV prog .not v4x1) ⟨fun v5x3 => k v5x3 H2⟩⟩) := by kernel_rfl
-- tocsin/check.once[string]
def L25x0 (n : Nat) (k : Value → AHeap → Prop) (sl : List Value) (H : AHeap) : Prop := kit prog (cl (cl (cr (cl (cr (cr (cb Try.f25))))))) n (kblk 0 (kseq prog (cr (cr (cr (cb Try.f25)))) (kfin prog Try.f25 k)))
 .normal sl H
theorem d25 (a0 a1 : Value) (H : AHeap) (k : Value → AHeap → Prop) : kbody prog Try.f25 [a0,a1] H k = (@bndE (some (Value.map (some H.length),H ++ [AObj.map []])) ⟨fun v8x1 H2 => @bnd (aLen prog H2 23 a0) ⟨fun v10x3 =>
 ∃ n,L25x0 n  k [a0,a1,undef,undef,(.bool false),v8x1,undef,undef,v8x1,a0,v10x3,(.int .i64 0),undef,undef,undef,undef,undef,undef,undef,undef,undef,undef,undef,undef,undef,undef,undef] H2⟩⟩) := by
 kernel_rfl
theorem L25x0q (n0 : Nat) (s0 s1 s2 s3 s4 s5 s6 s7 s8 s9 s10 s11 s12 s13 s14 s15 s16 s17 s18 s19 s20 s21 s22 s23 s24 s25 s26 : Value) (H : AHeap) (k : Value → AHeap → Prop) : L25x0 (n0 + 1) k [s0,s1,s2,s3,s4,s5,s6,s7,s8,
 s9,s10,s11,s12,s13,s14,s15,s16,s17,s18,s19,s20,s21,s22,s23,s24,s25,s26] H = (@bnd (aBin2 prog H .lss 3 (.tmp 11) (.tmp 10) s11 s10) ⟨fun v12x4 => @kifB v12x4 ⟨@bnd (aIndexAddr prog H 23 s9 s11) ⟨fun
 v13x5 => @bnd (aLoad prog H 9 v13x5) ⟨fun v14x6 => @bndV prog s1 [v14x6] H ⟨fun v18x7 H8 => @bnd (aLookup prog H8 75 s5 v18x7 false) ⟨fun v19x9 => @bnd (aBin2 prog H8 .add 3 (.tmp 19) (.const (.int .i64 1))
 v19x9 (.int .i64 1)) ⟨fun v20x10 => @bndS (aUpdate prog H8 75 s5 v18x7 v20x10) ⟨fun _ H12 => @bnd (aBin2 prog H12 .add 3 (.tmp 11) (.const (.int .i64 1)) s11 (.int .i64 1)) ⟨fun v21x13 => L25x0 n0  k [s0,s1,s2,s3,
 s4,s5,s6,v14x6,s8,s9,s10,v21x13,v12x4,v13x5,v14x6,s5,s1,v14x6,v18x7,v19x9,v20x10,v21x13,s22,s23,s24,s25,s26] H12⟩⟩⟩⟩⟩⟩⟩⟩ ⟨@bnd (aLen prog H 75 s5) ⟨fun v23x14 => @bnd (aLen prog H 23 s0) ⟨fun
 v25x15 => @bnd (aBin2 prog H .eql 3 (.tmp 23) (.tmp 25) v23x14 v25x15) ⟨fun v26x16 => k v26x16 H⟩⟩⟩⟩⟩) := by kernel_rfl
-- tocsin/check.itself
theorem d26 (a0 : Value) (H : AHeap) (k : Value → AHeap → Prop) : kbody prog Try.f26 [a0] H k = (k a0 H) := by kernel_rfl
-- tocsin/expr.Right
theorem d27 (a0 : Value) (H : AHeap) (k : Value → AHeap → Prop) : kbody prog Try.f27 [a0] H k = (@bnd (aLen prog H 22 a0) ⟨fun v4x1 => @bnd (aBin2 prog H .geq 3 (.tmp 4) (.const (.int .i64 1)) v4x1 (.int .i64 1)) ⟨fun
 v5x2 => @bnd (gif v5x2 true ((some a0)) undef) ⟨fun v7x3 => @bnd (gif v5x2 true (aLen prog H 22 v7x3) undef) ⟨fun v8x4 => @bnd (gif v5x2 true (aBin2 prog H .leq 3 (.tmp 8) (.const (.int .i64 31)) v8x4 (.int .i64 31))
 undef) ⟨fun v9x5 => @bnd (pickV v5x2 v9x5 (.bool false)) ⟨fun v10x6 => @bnd (gif v10x6 true ((some a0)) undef) ⟨fun v12x7 => @bnd (gif v10x6 true ((some a0)) undef) ⟨fun v13x8 => @bnd (gif v10x6 true (aLen prog H 22 v13x8)
 undef) ⟨fun v14x9 => @bnd (gif v10x6 true (aBin2 prog H .sub 3 (.tmp 14) (.const (.int .i64 1)) v14x9 (.int .i64 1)) undef) ⟨fun v15x10 => @bndG v10x6 true H ⟨fun v16x11 H12 => ACalls prog 45 [v12x7,v15x10] H v16x11
 H12⟩ ⟨fun v16x11 H12 => @bnd (gif v10x6 true (aBin2 prog H12 .eql 3 (.tmp 16) (.const (.int .i64 0)) v16x11 (.int .i64 0)) undef) ⟨fun v17x13 => @bnd (pickV v10x6 v17x13 (.bool false)) ⟨fun v18x14 => k v18x14
 H12⟩⟩⟩⟩⟩⟩⟩⟩⟩⟩⟩⟩⟩) := by kernel_rfl
-- tocsin/tocsinref11.Errno
theorem d28 (a0 : Value) (H : AHeap) (k : Value → AHeap → Prop) : kbody prog Try.f28 [a0] H k = (@kifB a0 ⟨k (.int .i64 0) H⟩ ⟨k (.int .i64 110) H⟩) := by kernel_rfl
-- tocsin/tocsinref11.MayRule
def L29x0 (n : Nat) (k : Value → AHeap → Prop) (sl : List Value) (H : AHeap) : Prop := kit prog (cl (cl (cr (cl (cr (cr (cr (cb Try.f29)))))))) n (kblk 0 (kseq prog (cr (cr (cr (cr (cb Try.f29))))) (kfin prog Try.f29
 k))) .normal sl H
def L29x1 (n : Nat) (n0 : Nat) (k : Value → AHeap → Prop) (sl : List Value) (H : AHeap) : Prop := kit prog (cl (cl (cr (cr (cl (cl (cr (cl (cl (cr (cl (cr (cr (cr (cb Try.f29))))))))))))))) n (kblk 2 (kblk 1 (kseq prog
 (cr (cr (cl (cl (cr (cl (cr (cr (cr (cb Try.f29)))))))))) (kit prog (cl (cl (cr (cl (cr (cr (cr (cb Try.f29)))))))) n0 (kblk 0 (kseq prog (cr (cr (cr (cr (cb Try.f29))))) (kfin prog Try.f29 k))))))) .normal sl H
theorem d29 (a0 : Value) (H : AHeap) (k : Value → AHeap → Prop) : kbody prog Try.f29 [a0] H k = (@bndE (aNew H 25 a0) ⟨fun v1x1 H2 => @bnd (aFieldAddr prog H2 25 v1x1 0) ⟨fun v5x3 => @bnd (aLoad prog H2 9 v5x3) ⟨fun
 v6x4 => @bndC prog 46 [v6x4] H2 ⟨fun v7x5 H6 => @bnd (unV prog .not v7x5) ⟨fun v8x7 => @bnd (gif v8x7 false (aFieldAddr prog H6 25 v1x1 1) undef) ⟨fun v10x8 => @bnd (gif v8x7 false (aLoad prog H6 9 v10x8) undef)
 ⟨fun v11x9 => @bnd (gif v8x7 false (aBin2 prog H6 .neq 9 (.tmp 11) (.const (.string { data := #[] })) v11x9 (.string { data := #[] })) undef) ⟨fun v12x10 => @bnd (gif v8x7 false ((some v12x10)) undef) ⟨fun v13x11 => @bnd
 (gif v13x11 true (aFieldAddr prog H6 25 v1x1 1) undef) ⟨fun v14x12 => @bnd (gif v13x11 true (aLoad prog H6 9 v14x12) undef) ⟨fun v15x13 => @bndG v13x11 true H6 ⟨fun v16x14 H15 => ACalls prog 46 [v15x13] H6 v16x14
 H15⟩ ⟨fun v16x14 H15 => @bnd (gif v13x11 true (unV prog .not v16x14) undef) ⟨fun v17x16 => @bnd (gif v8x7 false (pickV v13x11 v17x16 (.bool false)) undef) ⟨fun v18x17 => @bnd (pickV v8x7 (.bool true) v18x17) ⟨fun v19x18 =>
 @bnd (gif v19x18 false (aFieldAddr prog H15 25 v1x1 7) undef) ⟨fun v21x19 => @bnd (gif v19x18 false (aLoad prog H15 9 v21x19) undef) ⟨fun v22x20 => @bndG v19x18 false H15 ⟨fun v23x21 H22 => ACalls prog 46 [v22x20]
 H15 v23x21 H22⟩ ⟨fun v23x21 H22 => @bnd (gif v19x18 false (unV prog .not v23x21) undef) ⟨fun v24x23 => @bnd (pickV v19x18 (.bool true) v24x23) ⟨fun v25x24 => @bnd (gif v25x24 false (aFieldAddr prog H22 25 v1x1 7) undef)
 ⟨fun v27x25 => @bnd (gif v25x24 false (aLoad prog H22 9 v27x25) undef) ⟨fun v28x26 => @bnd (gif v25x24 false (aBin2 prog H22 .eql 9 (.tmp 28) (.const (.string { data := #[109,101,116,97] })) v28x26 (.string { data :=
 #[109,101,116,97] })) undef) ⟨fun v29x27 => @bnd (pickV v25x24 (.bool true) v29x27) ⟨fun v30x28 => @kifB v30x28 ⟨k (.bool false) H22⟩ ⟨@bnd (aFieldAddr prog H22 25 v1x1 3) ⟨fun v31x29 => @bnd (aLoad prog H22 3
 v31x29) ⟨fun v32x30 => @bnd (aBin2 prog H22 .lss 3 (.tmp 32) (.const (.int .i64 0)) v32x30 (.int .i64 0)) ⟨fun v33x31 => @bnd (gif v33x31 false (aFieldAddr prog H22 25 v1x1 3) undef) ⟨fun v35x32 => @bnd (gif v33x31
 false (aLoad prog H22 3 v35x32) undef) ⟨fun v36x33 => @bnd (gif v33x31 false (aBin2 prog H22 .gtr 3 (.tmp 36) (.const (.int .i64 1000)) v36x33 (.int .i64 1000)) undef) ⟨fun v37x34 => @bnd (pickV v33x31 (.bool true)
 v37x34) ⟨fun v38x35 => @bnd (gif v38x35 false (aFieldAddr prog H22 25 v1x1 4) undef) ⟨fun v40x36 => @bnd (gif v38x35 false (aLoad prog H22 3 v40x36) undef) ⟨fun v41x37 => @bnd (gif v38x35 false (aBin2 prog H22 .lss
 3 (.tmp 41) (.const (.int .i64 1)) v41x37 (.int .i64 1)) undef) ⟨fun v42x38 => @bnd (pickV v38x35 (.bool true) v42x38) ⟨fun v43x39 => @bnd (gif v43x39 false (aFieldAddr prog H22 25 v1x1 4) undef) ⟨fun v45x40 => @bnd (gif
 v43x39 false (aLoad prog H22 3 v45x40) undef) ⟨fun v46x41 => @bnd (gif v43x39 false (aBin2 prog H22 .gtr 3 (.tmp 46) (.const (.int .i64 100)) v46x41 (.int .i64 100)) undef) ⟨fun v47x42 => @bnd (pickV v43x39 (.bool true)
 v47x42) ⟨fun v48x43 => @bnd (gif v48x43 false (aFieldAddr prog H22 25 v1x1 5) undef) ⟨fun v50x44 => @bnd (gif v48x43 false (aLoad prog H22 3 v50x44) undef) ⟨fun v51x45 => @bnd (gif v48x43 false (aBin2 prog H22 .lss
 3 (.tmp 51) (.const (.int .i64 1)) v51x45 (.int .i64 1)) undef) ⟨fun v52x46 => @bnd (pickV v48x43 (.bool true) v52x46) ⟨fun v53x47 => @bnd (gif v53x47 false (aFieldAddr prog H22 25 v1x1 5) undef) ⟨fun v55x48 => @bnd (gif
 v53x47 false (aLoad prog H22 3 v55x48) undef) ⟨fun v56x49 => @bnd (gif v53x47 false (aBin2 prog H22 .gtr 3 (.tmp 56) (.const (.int .i64 10000)) v56x49 (.int .i64 10000)) undef) ⟨fun v57x50 => @bnd (pickV v53x47 (.bool
 true) v57x50) ⟨fun v58x51 => @bnd (gif v58x51 false (aFieldAddr prog H22 25 v1x1 6) undef) ⟨fun v60x52 => @bnd (gif v58x51 false (aLoad prog H22 23 v60x52) undef) ⟨fun v61x53 => @bnd (gif v58x51 false (aLen prog H22
 23 v61x53) undef) ⟨fun v62x54 => @bnd (gif v58x51 false (aBin2 prog H22 .gtr 3 (.tmp 62) (.const (.int .i64 4)) v62x54 (.int .i64 4)) undef) ⟨fun v63x55 => @bnd (pickV v58x51 (.bool true) v63x55) ⟨fun v64x56 => @kifB v64x56
 ⟨k (.bool false) H22⟩ ⟨∃ n,L29x0 n  k [a0,v1x1,(.bool false),(.int .i64 0),undef,v5x3,v6x4,v7x5,v8x7,v8x7,v10x8,v11x9,v12x10,v13x11,v14x12,v15x13,v16x14,v17x16,v18x17,v19x18,v19x18,v21x19,v22x20,v23x21,
 v24x23,v25x24,v25x24,v27x25,v28x26,v29x27,v30x28,v31x29,v32x30,v33x31,v33x31,v35x32,v36x33,v37x34,v38x35,v38x35,v40x36,v41x37,v42x38,v43x39,v43x39,v45x40,v46x41,v47x42,v48x43,v48x43,v50x44,v51x45,
 v52x46,v53x47,v53x47,v55x48,v56x49,v57x50,v58x51,v58x51,v60x52,v61x53,v62x54,v63x55,v64x56,undef,undef,undef,undef,undef,undef,undef,undef,undef,undef,undef,undef,undef,undef,undef,undef,undef,
 undef,undef,undef,undef,undef,undef,undef,undef,undef,undef,undef,undef,undef,undef,undef,undef] H22⟩⟩⟩⟩⟩⟩⟩⟩⟩⟩⟩⟩⟩⟩⟩⟩⟩⟩⟩⟩⟩⟩⟩⟩⟩⟩⟩⟩⟩⟩⟩⟩⟩⟩⟩⟩⟩⟩⟩⟩⟩⟩⟩⟩⟩⟩⟩⟩⟩⟩⟩⟩⟩⟩) := by kernel_rfl
theorem L29x0q (n0 : Nat) (s0 s1 s2 s3 s4 s5 s6 s7 s8 s9 s10 s11 s12 s13 s14 s15 s16 s17 s18 s19 s20 s21 s22 s23 s24 s25 s26 s27 s28 s29 s30 s31 s32 s33 s34 s35 s36 s37 s38 s39 s40 s41 s42 s43 s44 s45 s46 s47 s48 s49 s50 s51 s52
 s53 s54 s55 s56 s57 s58 s59 s60 s61 s62 s63 s64 s65 s66 s67 s68 s69 s70 s71 s72 s73 s74 s75 s76 s77 s78 s79 s80 s81 s82 s83 s84 s85 s86 s87 s88 s89 s90 s91 s92 s93 s94 s95 s96 s97 : Value) (H : AHeap) (k : Value → AHeap → Prop)
 : L29x0 (n0 + 1) k [s0,s1,s2,s3,s4,s5,s6,s7,s8,s9,s10,s11,s12,s13,s14,s15,s16,s17,s18,s19,s20,s21,s22,s23,s24,s25,s26,s27,s28,s29,s30,s31,s32,s33,s34,s35,s36,s37,s38,s39,s40,s41,s42,
 s43,s44,s45,s46,s47,s48,s49,s50,s51,s52,s53,s54,s55,s56,s57,s58,s59,s60,s61,s62,s63,s64,s65,s66,s67,s68,s69,s70,s71,s72,s73,s74,s75,s76,s77,s78,s79,s80,s81,s82,s83,s84,s85,s86,s87,
 s88,s89,s90,s91,s92,s93,s94,s95,s96,s97] H = (@bnd (aFieldAddr prog H 25 s1 6) ⟨fun v66x57 => @bnd (aLoad prog H 23 v66x57) ⟨fun v67x58 => @bnd (aLen prog H 23 v67x58) ⟨fun v68x59 => @bnd (aBin2 prog H
 .lss 3 (.tmp 65) (.tmp 68) s3 v68x59) ⟨fun v69x60 => @kifB v69x60 ⟨@bnd (aFieldAddr prog H 25 s1 6) ⟨fun v72x61 => @bnd (aLoad prog H 23 v72x61) ⟨fun v73x62 => @bnd (aIndexAddr prog H 23 v73x62 s3) ⟨fun v75x63 =>
 @bnd (aLoad prog H 9 v75x63) ⟨fun v76x64 => @bndC prog 46 [v76x64] H ⟨fun v77x65 H66 => @bnd (unV prog .not v77x65) ⟨fun v78x67 => @kifB v78x67 ⟨k (.bool false) H66⟩ ⟨∃ n,L29x1 n n0 k [s0,s1,s2,s3,(.int .i64
 0),s5,s6,s7,s8,s9,s10,s11,s12,s13,s14,s15,s16,s17,s18,s19,s20,s21,s22,s23,s24,s25,s26,s27,s28,s29,s30,s31,s32,s33,s34,s35,s36,s37,s38,s39,s40,s41,s42,s43,s44,s45,s46,s47,s48,s49,
 s50,s51,s52,s53,s54,s55,s56,s57,s58,s59,s60,s61,s62,s63,s64,s3,v66x57,v67x58,v68x59,v69x60,s70,s71,v72x61,v73x62,s3,v75x63,v76x64,v77x65,v78x67,s79,s80,s81,s82,s83,s84,s85,s86,s87,s88,s89,
 s90,s91,s92,s93,s94,s95,s96,s97] H66⟩⟩⟩⟩⟩⟩⟩⟩ ⟨@bnd (aFieldAddr prog H 25 s1 2) ⟨fun v95x68 => @bnd (aLoad prog H 22 v95x68) ⟨fun v96x69 => @bndC prog 47 [v96x69] H ⟨fun v97x70 H71 => k v97x70 H71⟩⟩⟩⟩⟩⟩⟩⟩) :=
 by kernel_rfl
theorem L29x1q (n1 : Nat) (n0 : Nat) (s0 s1 s2 s3 s4 s5 s6 s7 s8 s9 s10 s11 s12 s13 s14 s15 s16 s17 s18 s19 s20 s21 s22 s23 s24 s25 s26 s27 s28 s29 s30 s31 s32 s33 s34 s35 s36 s37 s38 s39 s40 s41 s42 s43 s44 s45 s46 s47 s48 s49
 s50 s51 s52 s53 s54 s55 s56 s57 s58 s59 s60 s61 s62 s63 s64 s65 s66 s67 s68 s69 s70 s71 s72 s73 s74 s75 s76 s77 s78 s79 s80 s81 s82 s83 s84 s85 s86 s87 s88 s89 s90 s91 s92 s93 s94 s95 s96 s97 : Value) (H : AHeap) (k : Value →
 AHeap → Prop) : L29x1 (n1 + 1) n0 k [s0,s1,s2,s3,s4,s5,s6,s7,s8,s9,s10,s11,s12,s13,s14,s15,s16,s17,s18,s19,s20,s21,s22,s23,s24,s25,s26,s27,s28,s29,s30,s31,s32,s33,s34,s35,s36,s37,s38,s39,
 s40,s41,s42,s43,s44,s45,s46,s47,s48,s49,s50,s51,s52,s53,s54,s55,s56,s57,s58,s59,s60,s61,s62,s63,s64,s65,s66,s67,s68,s69,s70,s71,s72,s73,s74,s75,s76,s77,s78,s79,s80,s81,s82,s83,s84,
 s85,s86,s87,s88,s89,s90,s91,s92,s93,s94,s95,s96,s97] H = (@bnd (aBin2 prog H .lss 3 (.tmp 79) (.tmp 80) s4 s3) ⟨fun v81x72 => @kifB v81x72 ⟨@bnd (aFieldAddr prog H 25 s1 6) ⟨fun v84x73 => @bnd (aLoad
 prog H 23 v84x73) ⟨fun v85x74 => @bnd (aIndexAddr prog H 23 v85x74 s3) ⟨fun v87x75 => @bnd (aLoad prog H 9 v87x75) ⟨fun v88x76 => @bnd (aFieldAddr prog H 25 s1 6) ⟨fun v89x77 => @bnd (aLoad prog H 23 v89x77)
 ⟨fun v90x78 => @bnd (aIndexAddr prog H 23 v90x78 s4) ⟨fun v92x79 => @bnd (aLoad prog H 9 v92x79) ⟨fun v93x80 => @bnd (aBin2 prog H .eql 9 (.tmp 88) (.tmp 93) v88x76 v93x80) ⟨fun v94x81 => @kifB v94x81 ⟨k (.bool
 false) H⟩ ⟨@bnd (aBin2 prog H .add 3 (.tmp 82) (.const (.int .i64 1)) s4 (.int .i64 1)) ⟨fun v83x82 => L29x1 n1 n0 k [s0,s1,s2,s3,v83x82,s5,s6,s7,s8,s9,s10,s11,s12,s13,s14,s15,s16,s17,s18,s19,s20,s21,
 s22,s23,s24,s25,s26,s27,s28,s29,s30,s31,s32,s33,s34,s35,s36,s37,s38,s39,s40,s41,s42,s43,s44,s45,s46,s47,s48,s49,s50,s51,s52,s53,s54,s55,s56,s57,s58,s59,s60,s61,s62,s63,s64,s65,s66,
 s67,s68,s69,s70,s71,s72,s73,s74,s75,s76,s77,s78,s4,s3,v81x72,s4,v83x82,v84x73,v85x74,s3,v87x75,v88x76,v89x77,v90x78,s4,v92x79,v93x80,v94x81,s95,s96,s97] H⟩⟩⟩⟩⟩⟩⟩⟩⟩⟩⟩⟩ ⟨@bnd (aBin2 prog H .add 3
 (.tmp 70) (.const (.int .i64 1)) s3 (.int .i64 1)) ⟨fun v71x83 => L29x0 n0  k [s0,s1,s2,v71x83,s4,s5,s6,s7,s8,s9,s10,s11,s12,s13,s14,s15,s16,s17,s18,s19,s20,s21,s22,s23,s24,s25,s26,s27,s28,s29,s30,
 s31,s32,s33,s34,s35,s36,s37,s38,s39,s40,s41,s42,s43,s44,s45,s46,s47,s48,s49,s50,s51,s52,s53,s54,s55,s56,s57,s58,s59,s60,s61,s62,s63,s64,s65,s66,s67,s68,s69,s3,v71x83,s72,s73,s74,s75,
 s76,s77,s78,s4,s3,v81x72,s82,s83,s84,s85,s86,s87,s88,s89,s90,s91,s92,s93,s94,s95,s96,s97] H⟩⟩⟩) := by kernel_rfl
end Go.Vi
namespace Go.Vi
open Go Go.Proofs Go.Proofs.Try
-- slices.Contains[[]bool,bool]
theorem d30 (a0 a1 : Value) (H : AHeap) (k : Value → AHeap → Prop) : kbody prog Try.f30 [a0,a1] H k = (@bndC prog 48 [a0,a1] H ⟨fun v7x1 H2 => @bnd (aBin2 prog H2 .geq 3 (.tmp 7) (.const (.int .i64 0)) v7x1 (.int
 .i64 0)) ⟨fun v8x3 => k v8x3 H2⟩⟩) := by kernel_rfl
-- tocsin/tocsinref11.MayMute
def L31x0 (n : Nat) (k : Value → AHeap → Prop) (sl : List Value) (H : AHeap) : Prop := kit prog (cl (cl (cr (cl (cr (cr (cb Try.f31))))))) n (kblk 0 (kseq prog (cr (cr (cr (cb Try.f31)))) (kfin prog Try.f31 k)))
 .normal sl H
theorem d31 (a0 : Value) (H : AHeap) (k : Value → AHeap → Prop) : kbody prog Try.f31 [a0] H k = (@bndE (aNew H 28 a0) ⟨fun v1x1 H2 => ∃ n,L31x0 n  k [a0,v1x1,(.bool false),(.bool false),(.int .i64 0),undef,undef,
 undef,undef,undef,undef,undef,undef,undef,undef,undef,undef,undef,undef,undef,undef,undef,undef,undef,undef,undef,undef,undef,undef,undef,undef,undef,undef,undef,undef,undef,undef,undef,undef,
 undef,undef,undef,undef,undef,undef,undef,undef,undef,undef] H2⟩) := by kernel_rfl
theorem L31x0q (n0 : Nat) (s0 s1 s2 s3 s4 s5 s6 s7 s8 s9 s10 s11 s12 s13 s14 s15 s16 s17 s18 s19 s20 s21 s22 s23 s24 s25 s26 s27 s28 s29 s30 s31 s32 s33 s34 s35 s36 s37 s38 s39 s40 s41 s42 s43 s44 s45 s46 s47 s48 : Value) (H :
 AHeap) (k : Value → AHeap → Prop) : L31x0 (n0 + 1) k [s0,s1,s2,s3,s4,s5,s6,s7,s8,s9,s10,s11,s12,s13,s14,s15,s16,s17,s18,s19,s20,s21,s22,s23,s24,s25,s26,s27,s28,s29,s30,s31,s32,s33,s34,s35,
 s36,s37,s38,s39,s40,s41,s42,s43,s44,s45,s46,s47,s48] H = (@bnd (aBin2 prog H .lss 3 (.tmp 5) (.const (.int .i64 7)) s4 (.int .i64 7)) ⟨fun v6x3 => @kifB v6x3 ⟨@bnd (gif s3 false ((some s4)) undef) ⟨fun v11x4 =>
 @bnd (gif s3 false (aFieldAddr prog H 28 s1 1) undef) ⟨fun v12x5 => @bnd (gif s3 false (aIndexAddr prog H 26 v12x5 v11x4) undef) ⟨fun v13x6 => @bnd (gif s3 false (aLoad prog H 4 v13x6) undef) ⟨fun v14x7 => @bnd
 (pickV s3 (.bool true) v14x7) ⟨fun v15x8 => @bnd (aBin2 prog H .add 3 (.tmp 7) (.const (.int .i64 1)) s4 (.int .i64 1)) ⟨fun v8x9 => L31x0 n0  k [s0,s1,s2,v15x8,v8x9,s4,v6x3,s4,v8x9,s3,s3,v11x4,v12x5,v13x6,
 v14x7,v15x8,s16,s17,s18,s19,s20,s21,s22,s23,s24,s25,s26,s27,s28,s29,s30,s31,s32,s33,s34,s35,s36,s37,s38,s39,s40,s41,s42,s43,s44,s45,s46,s47,s48] H⟩⟩⟩⟩⟩⟩⟩ ⟨@bnd (aFieldAddr prog H 28 s1 0)
 ⟨fun v16x10 => @bnd (aLoad prog H 9 v16x10) ⟨fun v17x11 => @bndC prog 46 [v17x11] H ⟨fun v18x12 H13 => @bnd (gif v18x12 true ((some s3)) undef) ⟨fun v20x14 => @bnd (pickV v18x12 v20x14 (.bool false)) ⟨fun v21x15 => @bnd
 (gif v21x15 true (aFieldAddr prog H13 28 s1 2) undef) ⟨fun v23x16 => @bnd (gif v21x15 true (aLoad prog H13 3 v23x16) undef) ⟨fun v24x17 => @bnd (gif v21x15 true (aBin2 prog H13 .geq 3 (.tmp 24) (.const (.int .i64
 0)) v24x17 (.int .i64 0)) undef) ⟨fun v25x18 => @bnd (pickV v21x15 v25x18 (.bool false)) ⟨fun v26x19 => @bnd (gif v26x19 true (aFieldAddr prog H13 28 s1 2) undef) ⟨fun v28x20 => @bnd (gif v26x19 true (aLoad prog H13 3
 v28x20) undef) ⟨fun v29x21 => @bnd (gif v26x19 true (aBin2 prog H13 .lss 3 (.tmp 29) (.const (.int .i64 1440)) v29x21 (.int .i64 1440)) undef) ⟨fun v30x22 => @bnd (pickV v26x19 v30x22 (.bool false)) ⟨fun v31x23 => @bnd (gif
 v31x23 true (aFieldAddr prog H13 28 s1 3) undef) ⟨fun v33x24 => @bnd (gif v31x23 true (aLoad prog H13 3 v33x24) undef) ⟨fun v34x25 => @bnd (gif v31x23 true (aBin2 prog H13 .geq 3 (.tmp 34) (.const (.int .i64 1))
 v34x25 (.int .i64 1)) undef) ⟨fun v35x26 => @bnd (pickV v31x23 v35x26 (.bool false)) ⟨fun v36x27 => @bnd (gif v36x27 true (aFieldAddr prog H13 28 s1 3) undef) ⟨fun v38x28 => @bnd (gif v36x27 true (aLoad prog H13 3
 v38x28) undef) ⟨fun v39x29 => @bnd (gif v36x27 true (aBin2 prog H13 .leq 3 (.tmp 39) (.const (.int .i64 1440)) v39x29 (.int .i64 1440)) undef) ⟨fun v40x30 => @bnd (pickV v36x27 v40x30 (.bool false)) ⟨fun v41x31 => @bnd (gif
 v41x31 true (aFieldAddr prog H13 28 s1 2) undef) ⟨fun v43x32 => @bnd (gif v41x31 true (aLoad prog H13 3 v43x32) undef) ⟨fun v44x33 => @bnd (gif v41x31 true (aFieldAddr prog H13 28 s1 3) undef) ⟨fun v45x34 => @bnd
 (gif v41x31 true (aLoad prog H13 3 v45x34) undef) ⟨fun v46x35 => @bnd (gif v41x31 true (aBin2 prog H13 .neq 3 (.tmp 44) (.tmp 46) v44x33 v46x35) undef) ⟨fun v47x36 => @bnd (pickV v41x31 v47x36 (.bool false)) ⟨fun v48x37
 => k v48x37 H13⟩⟩⟩⟩⟩⟩⟩⟩⟩⟩⟩⟩⟩⟩⟩⟩⟩⟩⟩⟩⟩⟩⟩⟩⟩⟩⟩⟩⟩) := by kernel_rfl
-- tocsin/check.once[tocsin/api.Rule]
def L33x0 (n : Nat) (k : Value → AHeap → Prop) (sl : List Value) (H : AHeap) : Prop := kit prog (cl (cl (cr (cl (cr (cr (cb Try.f33))))))) n (kblk 0 (kseq prog (cr (cr (cr (cb Try.f33)))) (kfin prog Try.f33 k)))
 .normal sl H
theorem d33 (a0 a1 : Value) (H : AHeap) (k : Value → AHeap → Prop) : kbody prog Try.f33 [a0,a1] H k = (@bndE (some (Value.map (some H.length),H ++ [AObj.map []])) ⟨fun v8x1 H2 => @bnd (aLen prog H2 39 a0) ⟨fun v10x3 =>
 ∃ n,L33x0 n  k [a0,a1,undef,undef,(.bool false),v8x1,undef,undef,v8x1,a0,v10x3,(.int .i64 0),undef,undef,undef,undef,undef,undef,undef,undef,undef,undef,undef,undef,undef,undef,undef] H2⟩⟩) := by
 kernel_rfl
theorem L33x0q (n0 : Nat) (s0 s1 s2 s3 s4 s5 s6 s7 s8 s9 s10 s11 s12 s13 s14 s15 s16 s17 s18 s19 s20 s21 s22 s23 s24 s25 s26 : Value) (H : AHeap) (k : Value → AHeap → Prop) : L33x0 (n0 + 1) k [s0,s1,s2,s3,s4,s5,s6,s7,s8,
 s9,s10,s11,s12,s13,s14,s15,s16,s17,s18,s19,s20,s21,s22,s23,s24,s25,s26] H = (@bnd (aBin2 prog H .lss 3 (.tmp 11) (.tmp 10) s11 s10) ⟨fun v12x4 => @kifB v12x4 ⟨@bnd (aIndexAddr prog H 39 s9 s11) ⟨fun
 v13x5 => @bnd (aLoad prog H 25 v13x5) ⟨fun v14x6 => @bndE (aAlloc prog H 25) ⟨fun v7x7 H8 => @bndS (aStore prog H8 25 v7x7 v14x6) ⟨fun _ H10 => @bnd (aLoad prog H10 25 v7x7) ⟨fun v17x11 => @bndV prog s1
 [v17x11] H10 ⟨fun v18x12 H13 => @bnd (aLookup prog H13 75 s5 v18x12 false) ⟨fun v19x14 => @bnd (aBin2 prog H13 .add 3 (.tmp 19) (.const (.int .i64 1)) v19x14 (.int .i64 1)) ⟨fun v20x15 => @bndS (aUpdate prog H13 75
 s5 v18x12 v20x15) ⟨fun _ H17 => @bnd (aBin2 prog H17 .add 3 (.tmp 11) (.const (.int .i64 1)) s11 (.int .i64 1)) ⟨fun v21x18 => L33x0 n0  k [s0,s1,s2,s3,s4,s5,s6,v7x7,s8,s9,s10,v21x18,v12x4,v13x5,v14x6,s5,s1,
 v17x11,v18x12,v19x14,v20x15,v21x18,s22,s23,s24,s25,s26] H17⟩⟩⟩⟩⟩⟩⟩⟩⟩⟩⟩ ⟨@bnd (aLen prog H 75 s5) ⟨fun v23x19 => @bnd (aLen prog H 39 s0) ⟨fun v25x20 => @bnd (aBin2 prog H .eql 3 (.tmp 23) (.tmp 25) v23x19
 v25x20) ⟨fun v26x21 => k v26x21 H⟩⟩⟩⟩⟩) := by kernel_rfl
-- tocsin/check.Config$1
theorem d34 (a0 : Value) (H : AHeap) (k : Value → AHeap → Prop) : kbody prog Try.f34 [a0] H k = (@bndE (aNew H 25 a0) ⟨fun v1x1 H2 => @bnd (aFieldAddr prog H2 25 v1x1 0) ⟨fun v3x3 => @bnd (aLoad prog H2 9 v3x3) ⟨fun
 v4x4 => k v4x4 H2⟩⟩⟩) := by kernel_rfl
-- tocsin/check.once[tocsin/api.Mute]
def L35x0 (n : Nat) (k : Value → AHeap → Prop) (sl : List Value) (H : AHeap) : Prop := kit prog (cl (cl (cr (cl (cr (cr (cb Try.f35))))))) n (kblk 0 (kseq prog (cr (cr (cr (cb Try.f35)))) (kfin prog Try.f35 k)))
 .normal sl H
theorem d35 (a0 a1 : Value) (H : AHeap) (k : Value → AHeap → Prop) : kbody prog Try.f35 [a0,a1] H k = (@bndE (some (Value.map (some H.length),H ++ [AObj.map []])) ⟨fun v8x1 H2 => @bnd (aLen prog H2 40 a0) ⟨fun v10x3 =>
 ∃ n,L35x0 n  k [a0,a1,undef,undef,(.bool false),v8x1,undef,undef,v8x1,a0,v10x3,(.int .i64 0),undef,undef,undef,undef,undef,undef,undef,undef,undef,undef,undef,undef,undef,undef,undef] H2⟩⟩) := by
 kernel_rfl
theorem L35x0q (n0 : Nat) (s0 s1 s2 s3 s4 s5 s6 s7 s8 s9 s10 s11 s12 s13 s14 s15 s16 s17 s18 s19 s20 s21 s22 s23 s24 s25 s26 : Value) (H : AHeap) (k : Value → AHeap → Prop) : L35x0 (n0 + 1) k [s0,s1,s2,s3,s4,s5,s6,s7,s8,
 s9,s10,s11,s12,s13,s14,s15,s16,s17,s18,s19,s20,s21,s22,s23,s24,s25,s26] H = (@bnd (aBin2 prog H .lss 3 (.tmp 11) (.tmp 10) s11 s10) ⟨fun v12x4 => @kifB v12x4 ⟨@bnd (aIndexAddr prog H 40 s9 s11) ⟨fun
 v13x5 => @bnd (aLoad prog H 28 v13x5) ⟨fun v14x6 => @bndE (aAlloc prog H 28) ⟨fun v7x7 H8 => @bndS (aStore prog H8 28 v7x7 v14x6) ⟨fun _ H10 => @bnd (aLoad prog H10 28 v7x7) ⟨fun v17x11 => @bndV prog s1
 [v17x11] H10 ⟨fun v18x12 H13 => @bnd (aLookup prog H13 75 s5 v18x12 false) ⟨fun v19x14 => @bnd (aBin2 prog H13 .add 3 (.tmp 19) (.const (.int .i64 1)) v19x14 (.int .i64 1)) ⟨fun v20x15 => @bndS (aUpdate prog H13 75
 s5 v18x12 v20x15) ⟨fun _ H17 => @bnd (aBin2 prog H17 .add 3 (.tmp 11) (.const (.int .i64 1)) s11 (.int .i64 1)) ⟨fun v21x18 => L35x0 n0  k [s0,s1,s2,s3,s4,s5,s6,v7x7,s8,s9,s10,v21x18,v12x4,v13x5,v14x6,s5,s1,
 v17x11,v18x12,v19x14,v20x15,v21x18,s22,s23,s24,s25,s26] H17⟩⟩⟩⟩⟩⟩⟩⟩⟩⟩⟩ ⟨@bnd (aLen prog H 75 s5) ⟨fun v23x19 => @bnd (aLen prog H 40 s0) ⟨fun v25x20 => @bnd (aBin2 prog H .eql 3 (.tmp 23) (.tmp 25) v23x19
 v25x20) ⟨fun v26x21 => k v26x21 H⟩⟩⟩⟩⟩) := by kernel_rfl
-- tocsin/check.Config$2
theorem d36 (a0 : Value) (H : AHeap) (k : Value → AHeap → Prop) : kbody prog Try.f36 [a0] H k = (@bndE (aNew H 28 a0) ⟨fun v1x1 H2 => @bnd (aFieldAddr prog H2 28 v1x1 0) ⟨fun v3x3 => @bnd (aLoad prog H2 9 v3x3) ⟨fun
 v4x4 => k v4x4 H2⟩⟩⟩) := by kernel_rfl
-- slices.ContainsFunc[[]tocsin/api.Mute,tocsin/api.Mute]
theorem d37 (a0 a1 : Value) (H : AHeap) (k : Value → AHeap → Prop) : kbody prog Try.f37 [a0,a1] H k = (@bndC prog 50 [a0,a1] H ⟨fun v7x1 H2 => @bnd (aBin2 prog H2 .geq 3 (.tmp 7) (.const (.int .i64 0)) v7x1 (.int
 .i64 0)) ⟨fun v8x3 => k v8x3 H2⟩⟩) := by kernel_rfl
-- tocsin/check.Config$3
theorem d38 (a0 a1 : Value) (H : AHeap) (k : Value → AHeap → Prop) : kbody prog Try.f38 [a0,a1] H k = (@bndE (aNew H 28 a0) ⟨fun v2x1 H2 => @bnd (aFieldAddr prog H2 28 v2x1 0) ⟨fun v4x3 => @bnd (aLoad prog H2 9 v4x3)
 ⟨fun v5x4 => @bnd (aLoad prog H2 9 a1) ⟨fun v6x5 => @bnd (aBin2 prog H2 .eql 9 (.tmp 5) (.tmp 6) v5x4 v6x5) ⟨fun v7x6 => k v7x6 H2⟩⟩⟩⟩⟩) := by kernel_rfl
-- tocsin/tocsinref11.MayConfig
def L39x0 (n : Nat) (k : Value → AHeap → Prop) (sl : List Value) (H : AHeap) : Prop := kit prog (cl (cl (cr (cl (cr (cr (cb Try.f39))))))) n (kblk 0 (kseq prog (cr (cr (cr (cb Try.f39)))) (kfin prog Try.f39 k)))
 .normal sl H
def L39x1 (n : Nat) (k : Value → AHeap → Prop) (sl : List Value) (H : AHeap) : Prop := kit prog (cl (cl (cr (cl (cr (cr (cr (cb Try.f39)))))))) n (kblk 2 (kseq prog (cr (cr (cr (cr (cb Try.f39))))) (kfin prog Try.f39
 k))) .normal sl H
def L39x2 (n : Nat) (n1 : Nat) (k : Value → AHeap → Prop) (sl : List Value) (H : AHeap) : Prop := kit prog (cl (cl (cr (cl (cr (cl (cl (cr (cl (cl (cr (cl (cr (cr (cr (cb Try.f39)))))))))))))))) n (kblk 4 (kseq prog (cr
 (cr (cl (cl (cr (cl (cl (cr (cl (cr (cr (cr (cb Try.f39))))))))))))) (kblk 3 (kseq prog (cr (cr (cl (cl (cr (cl (cr (cr (cr (cb Try.f39)))))))))) (kit prog (cl (cl (cr (cl (cr (cr (cr (cb Try.f39)))))))) n1 (kblk 2
 (kseq prog (cr (cr (cr (cr (cb Try.f39))))) (kfin prog Try.f39 k)))))))) .normal sl H
def L39x3 (n : Nat) (n1 : Nat) (k : Value → AHeap → Prop) (sl : List Value) (H : AHeap) : Prop := kit prog (cl (cl (cr (cr (cr (cl (cl (cr (cl (cl (cr (cl (cr (cr (cr (cb Try.f39)))))))))))))))) n (kblk 6 (kblk 3 (kseq
 prog (cr (cr (cl (cl (cr (cl (cr (cr (cr (cb Try.f39)))))))))) (kit prog (cl (cl (cr (cl (cr (cr (cr (cb Try.f39)))))))) n1 (kblk 2 (kseq prog (cr (cr (cr (cr (cb Try.f39))))) (kfin prog Try.f39 k))))))) .normal
 sl H
theorem d39 (a0 : Value) (H : AHeap) (k : Value → AHeap → Prop) : kbody prog Try.f39 [a0] H k = (@bndE (aNew H 42 a0) ⟨fun v1x1 H2 => @bnd (aFieldAddr prog H2 42 v1x1 0) ⟨fun v7x3 => @bnd (aLoad prog H2 39 v7x3) ⟨fun
 v8x4 => @bnd (aLen prog H2 39 v8x4) ⟨fun v9x5 => @bnd (aBin2 prog H2 .gtr 3 (.tmp 9) (.const (.int .i64 8)) v9x5 (.int .i64 8)) ⟨fun v10x6 => @bnd (gif v10x6 false (aFieldAddr prog H2 42 v1x1 1) undef) ⟨fun v12x7 =>
 @bnd (gif v10x6 false (aLoad prog H2 40 v12x7) undef) ⟨fun v13x8 => @bnd (gif v10x6 false (aLen prog H2 40 v13x8) undef) ⟨fun v14x9 => @bnd (gif v10x6 false (aBin2 prog H2 .gtr 3 (.tmp 14) (.const (.int .i64 4))
 v14x9 (.int .i64 4)) undef) ⟨fun v15x10 => @bnd (pickV v10x6 (.bool true) v15x10) ⟨fun v16x11 => @bnd (gif v16x11 false (aFieldAddr prog H2 42 v1x1 2) undef) ⟨fun v18x12 => @bnd (gif v16x11 false (aLoad prog H2 3
 v18x12) undef) ⟨fun v19x13 => @bnd (gif v16x11 false (aBin2 prog H2 .lss 3 (.tmp 19) (.const (.int .i64 0)) v19x13 (.int .i64 0)) undef) ⟨fun v20x14 => @bnd (pickV v16x11 (.bool true) v20x14) ⟨fun v21x15 => @bnd (gif v21x15
 false (aFieldAddr prog H2 42 v1x1 2) undef) ⟨fun v23x16 => @bnd (gif v21x15 false (aLoad prog H2 3 v23x16) undef) ⟨fun v24x17 => @bnd (gif v21x15 false (aBin2 prog H2 .gtr 3 (.tmp 24) (.const (.int .i64 100)) v24x17
 (.int .i64 100)) undef) ⟨fun v25x18 => @bnd (pickV v21x15 (.bool true) v25x18) ⟨fun v26x19 => @bnd (gif v26x19 false (aFieldAddr prog H2 42 v1x1 3) undef) ⟨fun v28x20 => @bnd (gif v26x19 false (aLoad prog H2 3 v28x20)
 undef) ⟨fun v29x21 => @bnd (gif v26x19 false (aBin2 prog H2 .lss 3 (.tmp 29) (.const (.int .i64 1)) v29x21 (.int .i64 1)) undef) ⟨fun v30x22 => @bnd (pickV v26x19 (.bool true) v30x22) ⟨fun v31x23 => @bnd (gif v31x23 false
 (aFieldAddr prog H2 42 v1x1 3) undef) ⟨fun v33x24 => @bnd (gif v31x23 false (aLoad prog H2 3 v33x24) undef) ⟨fun v34x25 => @bnd (gif v31x23 false (aBin2 prog H2 .gtr 3 (.tmp 34) (.const (.int .i64 1000)) v34x25
 (.int .i64 1000)) undef) ⟨fun v35x26 => @bnd (pickV v31x23 (.bool true) v35x26) ⟨fun v36x27 => @kifB v36x27 ⟨k (.bool false) H2⟩ ⟨∃ n,L39x0 n  k [a0,v1x1,(.bool false),(.int .i64 0),undef,undef,undef,v7x3,v8x4,v9x5,
 v10x6,v10x6,v12x7,v13x8,v14x9,v15x10,v16x11,v16x11,v18x12,v19x13,v20x14,v21x15,v21x15,v23x16,v24x17,v25x18,v26x19,v26x19,v28x20,v29x21,v30x22,v31x23,v31x23,v33x24,v34x25,v35x26,v36x27,undef,undef,
 undef,undef,undef,undef,undef,undef,undef,undef,undef,undef,undef,undef,undef,undef,undef,undef,undef,undef,undef,undef,undef,undef,undef,undef,undef,undef,undef,undef,undef,undef,undef,undef,
 undef,undef,undef,undef,undef,undef,undef,undef,undef,undef,undef,undef,undef,undef,undef,undef,undef,undef,undef,undef,undef,undef,undef,undef,undef,undef,undef,undef,undef,undef,undef,undef,
 undef,undef,undef,undef,undef,undef,undef,undef,undef,undef,undef,undef,undef,undef,undef,undef,undef] H2⟩⟩⟩⟩⟩⟩⟩⟩⟩⟩⟩⟩⟩⟩⟩⟩⟩⟩⟩⟩⟩⟩⟩⟩⟩⟩⟩) := by kernel_rfl
theorem L39x0q (n0 : Nat) (s0 s1 s2 s3 s4 s5 s6 s7 s8 s9 s10 s11 s12 s13 s14 s15 s16 s17 s18 s19 s20 s21 s22 s23 s24 s25 s26 s27 s28 s29 s30 s31 s32 s33 s34 s35 s36 s37 s38 s39 s40 s41 s42 s43 s44 s45 s46 s47 s48 s49 s50 s51 s52
 s53 s54 s55 s56 s57 s58 s59 s60 s61 s62 s63 s64 s65 s66 s67 s68 s69 s70 s71 s72 s73 s74 s75 s76 s77 s78 s79 s80 s81 s82 s83 s84 s85 s86 s87 s88 s89 s90 s91 s92 s93 s94 s95 s96 s97 s98 s99 s100 s101 s102 s103 s104 s105 s106 s107
 s108 s109 s110 s111 s112 s113 s114 s115 s116 s117 s118 s119 : Value) (H : AHeap) (k : Value → AHeap → Prop) : L39x0 (n0 + 1) k [s0,s1,s2,s3,s4,s5,s6,s7,s8,s9,s10,s11,s12,s13,s14,s15,s16,s17,s18,s19,s20,s21,
 s22,s23,s24,s25,s26,s27,s28,s29,s30,s31,s32,s33,s34,s35,s36,s37,s38,s39,s40,s41,s42,s43,s44,s45,s46,s47,s48,s49,s50,s51,s52,s53,s54,s55,s56,s57,s58,s59,s60,s61,s62,s63,s64,s65,s66,
 s67,s68,s69,s70,s71,s72,s73,s74,s75,s76,s77,s78,s79,s80,s81,s82,s83,s84,s85,s86,s87,s88,s89,s90,s91,s92,s93,s94,s95,s96,s97,s98,s99,s100,s101,s102,s103,s104,s105,s106,s107,s108,s109,
 s110,s111,s112,s113,s114,s115,s116,s117,s118,s119] H = (@bnd (aFieldAddr prog H 42 s1 1) ⟨fun v38x28 => @bnd (aLoad prog H 40 v38x28) ⟨fun v39x29 => @bnd (aLen prog H 40 v39x29) ⟨fun v40x30 => @bnd (aBin2
 prog H .lss 3 (.tmp 37) (.tmp 40) s3 v40x30) ⟨fun v41x31 => @kifB v41x31 ⟨@bnd (aFieldAddr prog H 42 s1 1) ⟨fun v44x32 => @bnd (aLoad prog H 40 v44x32) ⟨fun v45x33 => @bnd (aIndexAddr prog H 40 v45x33 s3) ⟨fun
 v47x34 => @bnd (aLoad prog H 28 v47x34) ⟨fun v48x35 => @bndD true H ⟨fun v49x36 H37 => ACalls prog 31 [v48x35] H v49x36 H37⟩ ⟨fun v49x36 H37 => @bnd (unV prog .not v49x36) ⟨fun v50x38 => @bnd (gif v50x38 false
 (aFieldAddr prog H37 42 s1 1) undef) ⟨fun v52x39 => @bnd (gif v50x38 false (aLoad prog H37 40 v52x39) undef) ⟨fun v53x40 => @bnd (gif v50x38 false (aFieldAddr prog H37 42 s1 1) undef) ⟨fun v54x41 => @bnd (gif v50x38
 false (aLoad prog H37 40 v54x41) undef) ⟨fun v55x42 => @bnd (gif v50x38 false ((some s3)) undef) ⟨fun v56x43 => @bnd (gif v50x38 false (aIndexAddr prog H37 40 v55x42 v56x43) undef) ⟨fun v57x44 => @bnd (gif v50x38 false
 (aFieldAddr prog H37 28 v57x44 0) undef) ⟨fun v58x45 => @bnd (gif v50x38 false (aLoad prog H37 9 v58x45) undef) ⟨fun v59x46 => @bndD true H37 ⟨fun v60x47 H48 => gifp v50x38 false (ACalls prog 51 [v53x40,v59x46] H37
 v60x47 H48) (v60x47 = undef ∧ H48 = H37)⟩ ⟨fun v60x47 H48 => @bnd (gif v50x38 false ((some s3)) undef) ⟨fun v61x49 => @bnd (gif v50x38 false (aBin2 prog H48 .neq 3 (.tmp 60) (.tmp 61) v60x47 v61x49) undef) ⟨fun v62x50 =>
 @bnd (pickV v50x38 (.bool true) v62x50) ⟨fun v63x51 => @kifB v63x51 ⟨k (.bool false) H48⟩ ⟨@bnd (aBin2 prog H48 .add 3 (.tmp 42) (.const (.int .i64 1)) s3 (.int .i64 1)) ⟨fun v43x52 => L39x0 n0  k [s0,s1,s2,v43x52,s4,
 s5,s6,s7,s8,s9,s10,s11,s12,s13,s14,s15,s16,s17,s18,s19,s20,s21,s22,s23,s24,s25,s26,s27,s28,s29,s30,s31,s32,s33,s34,s35,s36,s3,v38x28,v39x29,v40x30,v41x31,s3,v43x52,v44x32,v45x33,s3,
 v47x34,v48x35,v49x36,v50x38,v50x38,v52x39,v53x40,v54x41,v55x42,v56x43,v57x44,v58x45,v59x46,v60x47,v61x49,v62x50,v63x51,s64,s65,s66,s67,s68,s69,s70,s71,s72,s73,s74,s75,s76,s77,s78,s79,s80,s81,
 s82,s83,s84,s85,s86,s87,s88,s89,s90,s91,s92,s93,s94,s95,s96,s97,s98,s99,s100,s101,s102,s103,s104,s105,s106,s107,s108,s109,s110,s111,s112,s113,s114,s115,s116,s117,s118,s119]
 H48⟩⟩⟩⟩⟩⟩⟩⟩⟩⟩⟩⟩⟩⟩⟩⟩⟩⟩⟩⟩⟩ ⟨∃ n,L39x1 n  k [s0,s1,s2,s3,(.int .i64 0),s5,s6,s7,s8,s9,s10,s11,s12,s13,s14,s15,s16,s17,s18,s19,s20,s21,s22,s23,s24,s25,s26,s27,s28,s29,s30,s31,s32,s33,s34,s35,
 s36,s3,v38x28,v39x29,v40x30,v41x31,s42,s43,s44,s45,s46,s47,s48,s49,s50,s51,s52,s53,s54,s55,s56,s57,s58,s59,s60,s61,s62,s63,s64,s65,s66,s67,s68,s69,s70,s71,s72,s73,s74,s75,s76,s77,s78,
 s79,s80,s81,s82,s83,s84,s85,s86,s87,s88,s89,s90,s91,s92,s93,s94,s95,s96,s97,s98,s99,s100,s101,s102,s103,s104,s105,s106,s107,s108,s109,s110,s111,s112,s113,s114,s115,s116,s117,s118,s119]
 H⟩⟩⟩⟩⟩) := by kernel_rfl
theorem L39x1q (n1 : Nat) (s0 s1 s2 s3 s4 s5 s6 s7 s8 s9 s10 s11 s12 s13 s14 s15 s16 s17 s18 s19 s20 s21 s22 s23 s24 s25 s26 s27 s28 s29 s30 s31 s32 s33 s34 s35 s36 s37 s38 s39 s40 s41 s42 s43 s44 s45 s46 s47 s48 s49 s50 s51 s52
 s53 s54 s55 s56 s57 s58 s59 s60 s61 s62 s63 s64 s65 s66 s67 s68 s69 s70 s71 s72 s73 s74 s75 s76 s77 s78 s79 s80 s81 s82 s83 s84 s85 s86 s87 s88 s89 s90 s91 s92 s93 s94 s95 s96 s97 s98 s99 s100 s101 s102 s103 s104 s105 s106 s107
 s108 s109 s110 s111 s112 s113 s114 s115 s116 s117 s118 s119 : Value) (H : AHeap) (k : Value → AHeap → Prop) : L39x1 (n1 + 1) k [s0,s1,s2,s3,s4,s5,s6,s7,s8,s9,s10,s11,s12,s13,s14,s15,s16,s17,s18,s19,s20,s21,
 s22,s23,s24,s25,s26,s27,s28,s29,s30,s31,s32,s33,s34,s35,s36,s37,s38,s39,s40,s41,s42,s43,s44,s45,s46,s47,s48,s49,s50,s51,s52,s53,s54,s55,s56,s57,s58,s59,s60,s61,s62,s63,s64,s65,s66,
 s67,s68,s69,s70,s71,s72,s73,s74,s75,s76,s77,s78,s79,s80,s81,s82,s83,s84,s85,s86,s87,s88,s89,s90,s91,s92,s93,s94,s95,s96,s97,s98,s99,s100,s101,s102,s103,s104,s105,s106,s107,s108,s109,
 s110,s111,s112,s113,s114,s115,s116,s117,s118,s119] H = (@bnd (aFieldAddr prog H 42 s1 0) ⟨fun v65x53 => @bnd (aLoad prog H 39 v65x53) ⟨fun v66x54 => @bnd (aLen prog H 39 v66x54) ⟨fun v67x55 => @bnd (aBin2
 prog H .lss 3 (.tmp 64) (.tmp 67) s4 v67x55) ⟨fun v68x56 => @kifB v68x56 ⟨@bnd (aFieldAddr prog H 42 s1 0) ⟨fun v71x57 => @bnd (aLoad prog H 39 v71x57) ⟨fun v72x58 => @bnd (aIndexAddr prog H 39 v72x58 s4) ⟨fun
 v74x59 => @bnd (aLoad prog H 25 v74x59) ⟨fun v75x60 => @bndC prog 29 [v75x60] H ⟨fun v76x61 H62 => @bnd (unV prog .not v76x61) ⟨fun v77x63 => @kifB v77x63 ⟨k (.bool false) H62⟩ ⟨∃ n,L39x2 n n1 k [s0,s1,s2,s3,
 s4,(.int .i64 0),s6,s7,s8,s9,s10,s11,s12,s13,s14,s15,s16,s17,s18,s19,s20,s21,s22,s23,s24,s25,s26,s27,s28,s29,s30,s31,s32,s33,s34,s35,s36,s37,s38,s39,s40,s41,s42,s43,s44,s45,s46,s47,
 s48,s49,s50,s51,s52,s53,s54,s55,s56,s57,s58,s59,s60,s61,s62,s63,s4,v65x53,v66x54,v67x55,v68x56,s69,s70,v71x57,v72x58,s4,v74x59,v75x60,v76x61,v77x63,s78,s79,s80,s81,s82,s83,s84,s85,s86,s87,
 s88,s89,s90,s91,s92,s93,s94,s95,s96,s97,s98,s99,s100,s101,s102,s103,s104,s105,s106,s107,s108,s109,s110,s111,s112,s113,s114,s115,s116,s117,s118,s119] H62⟩⟩⟩⟩⟩⟩⟩⟩ ⟨k (.bool true) H⟩⟩⟩⟩⟩) := by
 kernel_rfl
theorem L39x2q (n2 : Nat) (n1 : Nat) (s0 s1 s2 s3 s4 s5 s6 s7 s8 s9 s10 s11 s12 s13 s14 s15 s16 s17 s18 s19 s20 s21 s22 s23 s24 s25 s26 s27 s28 s29 s30 s31 s32 s33 s34 s35 s36 s37 s38 s39 s40 s41 s42 s43 s44 s45 s46 s47 s48 s49
 s50 s51 s52 s53 s54 s55 s56 s57 s58 s59 s60 s61 s62 s63 s64 s65 s66 s67 s68 s69 s70 s71 s72 s73 s74 s75 s76 s77 s78 s79 s80 s81 s82 s83 s84 s85 s86 s87 s88 s89 s90 s91 s92 s93 s94 s95 s96 s97 s98 s99 s100 s101 s102 s103 s104
 s105 s106 s107 s108 s109 s110 s111 s112 s113 s114 s115 s116 s117 s118 s119 : Value) (H : AHeap) (k : Value → AHeap → Prop) : L39x2 (n2 + 1) n1 k [s0,s1,s2,s3,s4,s5,s6,s7,s8,s9,s10,s11,s12,s13,s14,s15,s16,s17,
 s18,s19,s20,s21,s22,s23,s24,s25,s26,s27,s28,s29,s30,s31,s32,s33,s34,s35,s36,s37,s38,s39,s40,s41,s42,s43,s44,s45,s46,s47,s48,s49,s50,s51,s52,s53,s54,s55,s56,s57,s58,s59,s60,s61,s62,
 s63,s64,s65,s66,s67,s68,s69,s70,s71,s72,s73,s74,s75,s76,s77,s78,s79,s80,s81,s82,s83,s84,s85,s86,s87,s88,s89,s90,s91,s92,s93,s94,s95,s96,s97,s98,s99,s100,s101,s102,s103,s104,s105,s106,
 s107,s108,s109,s110,s111,s112,s113,s114,s115,s116,s117,s118,s119] H = (@bnd (aBin2 prog H .lss 3 (.tmp 78) (.tmp 79) s5 s4) ⟨fun v80x64 => @kifB v80x64 ⟨@bnd (aFieldAddr prog H 42 s1 0) ⟨fun v83x65 => @bnd
 (aLoad prog H 39 v83x65) ⟨fun v84x66 => @bnd (aIndexAddr prog H 39 v84x66 s4) ⟨fun v86x67 => @bnd (aFieldAddr prog H 25 v86x67 0) ⟨fun v87x68 => @bnd (aLoad prog H 9 v87x68) ⟨fun v88x69 => @bnd (aFieldAddr
 prog H 42 s1 0) ⟨fun v89x70 => @bnd (aLoad prog H 39 v89x70) ⟨fun v90x71 => @bnd (aIndexAddr prog H 39 v90x71 s5) ⟨fun v92x72 => @bnd (aFieldAddr prog H 25 v92x72 0) ⟨fun v93x73 => @bnd (aLoad prog H 9
 v93x73) ⟨fun v94x74 => @bnd (aBin2 prog H .eql 9 (.tmp 88) (.tmp 94) v88x69 v94x74) ⟨fun v95x75 => @kifB v95x75 ⟨k (.bool false) H⟩ ⟨@bnd (aBin2 prog H .add 3 (.tmp 81) (.const (.int .i64 1)) s5 (.int .i64 1)) ⟨fun
 v82x76 => L39x2 n2 n1 k [s0,s1,s2,s3,s4,v82x76,s6,s7,s8,s9,s10,s11,s12,s13,s14,s15,s16,s17,s18,s19,s20,s21,s22,s23,s24,s25,s26,s27,s28,s29,s30,s31,s32,s33,s34,s35,s36,s37,s38,s39,s40,
 s41,s42,s43,s44,s45,s46,s47,s48,s49,s50,s51,s52,s53,s54,s55,s56,s57,s58,s59,s60,s61,s62,s63,s64,s65,s66,s67,s68,s69,s70,s71,s72,s73,s74,s75,s76,s77,s5,s4,v80x64,s5,v82x76,v83x65,
 v84x66,s4,v86x67,v87x68,v88x69,v89x70,v90x71,s5,v92x72,v93x73,v94x74,v95x75,s96,s97,s98,s99,s100,s101,s102,s103,s104,s105,s106,s107,s108,s109,s110,s111,s112,s113,s114,s115,s116,s117,s118,s119]
 H⟩⟩⟩⟩⟩⟩⟩⟩⟩⟩⟩⟩⟩⟩ ⟨∃ n,L39x3 n n1 k [s0,s1,s2,s3,s4,s5,(.int .i64 0),s7,s8,s9,s10,s11,s12,s13,s14,s15,s16,s17,s18,s19,s20,s21,s22,s23,s24,s25,s26,s27,s28,s29,s30,s31,s32,s33,s34,s35,s36,s37,
 s38,s39,s40,s41,s42,s43,s44,s45,s46,s47,s48,s49,s50,s51,s52,s53,s54,s55,s56,s57,s58,s59,s60,s61,s62,s63,s64,s65,s66,s67,s68,s69,s70,s71,s72,s73,s74,s75,s76,s77,s5,s4,v80x64,s81,s82,
 s83,s84,s85,s86,s87,s88,s89,s90,s91,s92,s93,s94,s95,s96,s97,s98,s99,s100,s101,s102,s103,s104,s105,s106,s107,s108,s109,s110,s111,s112,s113,s114,s115,s116,s117,s118,s119] H⟩⟩) := by kernel_rfl
theorem L39x3q (n3 : Nat) (n1 : Nat) (s0 s1 s2 s3 s4 s5 s6 s7 s8 s9 s10 s11 s12 s13 s14 s15 s16 s17 s18 s19 s20 s21 s22 s23 s24 s25 s26 s27 s28 s29 s30 s31 s32 s33 s34 s35 s36 s37 s38 s39 s40 s41 s42 s43 s44 s45 s46 s47 s48 s49
 s50 s51 s52 s53 s54 s55 s56 s57 s58 s59 s60 s61 s62 s63 s64 s65 s66 s67 s68 s69 s70 s71 s72 s73 s74 s75 s76 s77 s78 s79 s80 s81 s82 s83 s84 s85 s86 s87 s88 s89 s90 s91 s92 s93 s94 s95 s96 s97 s98 s99 s100 s101 s102 s103 s104
 s105 s106 s107 s108 s109 s110 s111 s112 s113 s114 s115 s116 s117 s118 s119 : Value) (H : AHeap) (k : Value → AHeap → Prop) : L39x3 (n3 + 1) n1 k [s0,s1,s2,s3,s4,s5,s6,s7,s8,s9,s10,s11,s12,s13,s14,s15,s16,s17,
 s18,s19,s20,s21,s22,s23,s24,s25,s26,s27,s28,s29,s30,s31,s32,s33,s34,s35,s36,s37,s38,s39,s40,s41,s42,s43,s44,s45,s46,s47,s48,s49,s50,s51,s52,s53,s54,s55,s56,s57,s58,s59,s60,s61,s62,
 s63,s64,s65,s66,s67,s68,s69,s70,s71,s72,s73,s74,s75,s76,s77,s78,s79,s80,s81,s82,s83,s84,s85,s86,s87,s88,s89,s90,s91,s92,s93,s94,s95,s96,s97,s98,s99,s100,s101,s102,s103,s104,s105,s106,
 s107,s108,s109,s110,s111,s112,s113,s114,s115,s116,s117,s118,s119] H = (@bnd (aFieldAddr prog H 42 s1 0) ⟨fun v97x77 => @bnd (aLoad prog H 39 v97x77) ⟨fun v98x78 => @bnd (aIndexAddr prog H 39 v98x78 s4)
 ⟨fun v100x79 => @bnd (aFieldAddr prog H 25 v100x79 6) ⟨fun v101x80 => @bnd (aLoad prog H 23 v101x80) ⟨fun v102x81 => @bnd (aLen prog H 23 v102x81) ⟨fun v103x82 => @bnd (aBin2 prog H .lss 3 (.tmp 96) (.tmp 103)
 s6 v103x82) ⟨fun v104x83 => @kifB v104x83 ⟨@bnd (aFieldAddr prog H 42 s1 1) ⟨fun v107x84 => @bnd (aLoad prog H 40 v107x84) ⟨fun v108x85 => @bnd (aFieldAddr prog H 42 s1 0) ⟨fun v109x86 => @bnd (aLoad prog H 39
 v109x86) ⟨fun v110x87 => @bnd (aIndexAddr prog H 39 v110x87 s4) ⟨fun v112x88 => @bnd (aFieldAddr prog H 25 v112x88 6) ⟨fun v113x89 => @bnd (aLoad prog H 23 v113x89) ⟨fun v114x90 => @bnd (aIndexAddr prog H 23
 v114x90 s6) ⟨fun v116x91 => @bnd (aLoad prog H 9 v116x91) ⟨fun v117x92 => @bndD true H ⟨fun v118x93 H94 => ACalls prog 51 [v108x85,v117x92] H v118x93 H94⟩ ⟨fun v118x93 H94 => @bnd (aBin2 prog H94 .lss 3 (.tmp 118)
 (.const (.int .i64 0)) v118x93 (.int .i64 0)) ⟨fun v119x95 => @kifB v119x95 ⟨k (.bool false) H94⟩ ⟨@bnd (aBin2 prog H94 .add 3 (.tmp 105) (.const (.int .i64 1)) s6 (.int .i64 1)) ⟨fun v106x96 => L39x3 n3 n1 k [s0,s1,s2,
 s3,s4,s5,v106x96,s7,s8,s9,s10,s11,s12,s13,s14,s15,s16,s17,s18,s19,s20,s21,s22,s23,s24,s25,s26,s27,s28,s29,s30,s31,s32,s33,s34,s35,s36,s37,s38,s39,s40,s41,s42,s43,s44,s45,s46,s47,s48,
 s49,s50,s51,s52,s53,s54,s55,s56,s57,s58,s59,s60,s61,s62,s63,s64,s65,s66,s67,s68,s69,s70,s71,s72,s73,s74,s75,s76,s77,s78,s79,s80,s81,s82,s83,s84,s85,s86,s87,s88,s89,s90,s91,s92,s93,
 s94,s95,s6,v97x77,v98x78,s4,v100x79,v101x80,v102x81,v103x82,v104x83,s6,v106x96,v107x84,v108x85,v109x86,v110x87,s4,v112x88,v113x89,v114x90,s6,v116x91,v117x92,v118x93,v119x95] H94⟩⟩⟩⟩⟩⟩⟩⟩⟩⟩⟩⟩⟩⟩ ⟨@bnd
 (aBin2 prog H .add 3 (.tmp 69) (.const (.int .i64 1)) s4 (.int .i64 1)) ⟨fun v70x97 => L39x1 n1  k [s0,s1,s2,s3,v70x97,s5,s6,s7,s8,s9,s10,s11,s12,s13,s14,s15,s16,s17,s18,s19,s20,s21,s22,s23,s24,s25,
 s26,s27,s28,s29,s30,s31,s32,s33,s34,s35,s36,s37,s38,s39,s40,s41,s42,s43,s44,s45,s46,s47,s48,s49,s50,s51,s52,s53,s54,s55,s56,s57,s58,s59,s60,s61,s62,s63,s64,s65,s66,s67,s68,s4,v70x97,
 s71,s72,s73,s74,s75,s76,s77,s78,s79,s80,s81,s82,s83,s84,s85,s86,s87,s88,s89,s90,s91,s92,s93,s94,s95,s6,v97x77,v98x78,s4,v100x79,v101x80,v102x81,v103x82,v104x83,s105,s106,s107,s108,s109,
 s110,s111,s112,s113,s114,s115,s116,s117,s118,s119] H⟩⟩⟩⟩⟩⟩⟩⟩⟩) := by kernel_rfl
-- tocsin/tocsinref08.Copy
theorem d40 (a0 : Value) (H : AHeap) (k : Value → AHeap → Prop) : kbody prog Try.f40 [a0] H k = (@bndE (aBuiltin prog H Builtin.append #[48,48] [(.slice none 0 0),a0]) ⟨fun v6x1 H2 => k v6x1 H2⟩) := by kernel_rfl
-- tocsin/labels.letter
theorem d41 (a0 : Value) (H : AHeap) (k : Value → AHeap → Prop) : kbody prog Try.f41 [a0] H k = (@bnd (aBin2 prog H .geq 5 (.tmp 3) (.const (.int .u8 97)) a0 (.int .u8 97)) ⟨fun v4x1 => @bnd (gif v4x1 true ((some a0))
 undef) ⟨fun v6x2 => @bnd (gif v4x1 true (aBin2 prog H .leq 5 (.tmp 6) (.const (.int .u8 122)) v6x2 (.int .u8 122)) undef) ⟨fun v7x3 => @bnd (pickV v4x1 v7x3 (.bool false)) ⟨fun v8x4 => k v8x4 H⟩⟩⟩⟩) := by kernel_rfl
-- tocsin/labels.every
def L42x0 (n : Nat) (k : Value → AHeap → Prop) (sl : List Value) (H : AHeap) : Prop := kit prog (cl (cl (cr (cl (cr (cb Try.f42)))))) n (kblk 0 (kseq prog (cr (cr (cb Try.f42))) (kfin prog Try.f42 k))) .normal sl H
theorem d42 (a0 a1 : Value) (H : AHeap) (k : Value → AHeap → Prop) : kbody prog Try.f42 [a0,a1] H k = (@bnd (aLen prog H 9 a0) ⟨fun v7x1 => ∃ n,L42x0 n  k [a0,a1,undef,undef,(.bool false),undef,a0,v7x1,(.int
 .i64 0),undef,undef,undef,undef,undef,undef,undef,undef,undef] H⟩) := by kernel_rfl
theorem L42x0q (n0 : Nat) (s0 s1 s2 s3 s4 s5 s6 s7 s8 s9 s10 s11 s12 s13 s14 s15 s16 s17 : Value) (H : AHeap) (k : Value → AHeap → Prop) : L42x0 (n0 + 1) k [s0,s1,s2,s3,s4,s5,s6,s7,s8,s9,s10,s11,s12,s13,s14,s15,
 s16,s17] H = (@bnd (aBin2 prog H .lss 3 (.tmp 8) (.tmp 7) s8 s7) ⟨fun v9x2 => @kifB v9x2 ⟨@bnd (aIndex prog 9 s0 s8) ⟨fun v14x3 => @bndV prog s1 [v14x3] H ⟨fun v15x4 H5 => @bnd (unV prog .not v15x4) ⟨fun v16x6
 => @kifB v16x6 ⟨k (.bool false) H5⟩ ⟨@bnd (aBin2 prog H5 .add 3 (.tmp 8) (.const (.int .i64 1)) s8 (.int .i64 1)) ⟨fun v17x7 => L42x0 n0  k [s0,s1,s2,s3,s4,s8,s6,s7,v17x7,v9x2,s8,s1,s0,s8,v14x3,v15x4,v16x6,
 v17x7] H5⟩⟩⟩⟩⟩⟩ ⟨k (.bool true) H⟩⟩) := by kernel_rfl
-- tocsin/labels.mark
theorem d43 (a0 : Value) (H : AHeap) (k : Value → AHeap → Prop) : kbody prog Try.f43 [a0] H k = (@bndC prog 41 [a0] H ⟨fun v4x1 H2 => @bnd (gif v4x1 false ((some a0)) undef) ⟨fun v6x3 => @bnd (gif v4x1 false (aBin2
 prog H2 .geq 5 (.tmp 6) (.const (.int .u8 48)) v6x3 (.int .u8 48)) undef) ⟨fun v7x4 => @bnd (gif v4x1 false ((some v7x4)) undef) ⟨fun v8x5 => @bnd (gif v8x5 true ((some a0)) undef) ⟨fun v9x6 => @bnd (gif v8x5 true (aBin2
 prog H2 .leq 5 (.tmp 9) (.const (.int .u8 57)) v9x6 (.int .u8 57)) undef) ⟨fun v10x7 => @bnd (gif v4x1 false (pickV v8x5 v10x7 (.bool false)) undef) ⟨fun v11x8 => @bnd (pickV v4x1 (.bool true) v11x8) ⟨fun v12x9 => @bnd (gif
 v12x9 false ((some a0)) undef) ⟨fun v14x10 => @bnd (gif v12x9 false (aBin2 prog H2 .eql 5 (.tmp 14) (.const (.int .u8 95)) v14x10 (.int .u8 95)) undef) ⟨fun v15x11 => @bnd (pickV v12x9 (.bool true) v15x11) ⟨fun v16x12 => k
 v16x12 H2⟩⟩⟩⟩⟩⟩⟩⟩⟩⟩⟩) := by kernel_rfl
-- slices.IndexFunc[[]string,string]
def L44x0 (n : Nat) (k : Value → AHeap → Prop) (sl : List Value) (H : AHeap) : Prop := kit prog (cl (cl (cr (cl (cr (cb Try.f44)))))) n (kblk 0 (kseq prog (cr (cr (cb Try.f44))) (kfin prog Try.f44 k))) .normal sl H
theorem d44 (a0 a1 : Value) (H : AHeap) (k : Value → AHeap → Prop) : kbody prog Try.f44 [a0,a1] H k = (@bnd (aLen prog H 23 a0) ⟨fun v7x1 => ∃ n,L44x0 n  k [a0,a1,undef,undef,(.int .i64 0),undef,a0,v7x1,(.int
 .i64 0),undef,undef,undef,undef,undef,undef,undef,undef,undef,undef] H⟩) := by kernel_rfl
theorem L44x0q (n0 : Nat) (s0 s1 s2 s3 s4 s5 s6 s7 s8 s9 s10 s11 s12 s13 s14 s15 s16 s17 s18 : Value) (H : AHeap) (k : Value → AHeap → Prop) : L44x0 (n0 + 1) k [s0,s1,s2,s3,s4,s5,s6,s7,s8,s9,s10,s11,s12,s13,s14,
 s15,s16,s17,s18] H = (@bnd (aBin2 prog H .lss 3 (.tmp 8) (.tmp 7) s8 s7) ⟨fun v9x2 => @kifB v9x2 ⟨@bnd (aIndexAddr prog H 23 s0 s8) ⟨fun v14x3 => @bnd (aLoad prog H 9 v14x3) ⟨fun v15x4 => @bndV prog s1
 [v15x4] H ⟨fun v16x5 H6 => @kifB v16x5 ⟨k s8 H6⟩ ⟨@bnd (aBin2 prog H6 .add 3 (.tmp 8) (.const (.int .i64 1)) s8 (.int .i64 1)) ⟨fun v18x7 => L44x0 n0  k [s0,s1,s2,s3,s4,s8,s6,s7,v18x7,v9x2,s8,s1,s0,s8,v14x3,
 v15x4,v16x5,s17,v18x7] H6⟩⟩⟩⟩⟩⟩ ⟨k (.int .i64 (-1)) H⟩⟩) := by kernel_rfl
-- tocsin/expr.begin
def S45x0 (k : Value → AHeap → Prop) (sl : List Value) (H : AHeap) : Prop := kseq prog (cr (cr (cr (cr (cb Try.f45))))) (kfin prog Try.f45 k) .normal sl H
def S45x1 (k : Value → AHeap → Prop) (sl : List Value) (H : AHeap) : Prop := kseq prog (cr (cr (cr (cr (cr (cl (cr (cl (cr (cr (cr (cb Try.f45)))))))))))) (kblk 0 (kseq prog (cr (cr (cr (cr (cb Try.f45))))) (kfin prog
 Try.f45 k))) .normal sl H
theorem d45 (a0 a1 : Value) (H : AHeap) (k : Value → AHeap → Prop) : kbody prog Try.f45 [a0,a1] H k = (@bnd (aBin2 prog H .lss 3 (.tmp 7) (.const (.int .i64 0)) a1 (.int .i64 0)) ⟨fun v8x1 => @kifB v8x1 ⟨k (.int .i64
 (-1)) H⟩ ⟨@bnd (aIndexAddr prog H 22 a0 a1) ⟨fun v11x2 => @bnd (aLoad prog H 50 v11x2) ⟨fun v12x3 => @bndE (aAlloc prog H 50) ⟨fun v5x4 H5 => @bndS (aStore prog H5 50 v5x4 v12x3) ⟨fun _ H7 => @bnd (aFieldAddr
 prog H7 50 v5x4 0) ⟨fun v13x8 => @bnd (aLoad prog H7 5 v13x8) ⟨fun v14x9 => @bnd (aBin2 prog H7 .eql 5 (.tmp 14) (.const (.int .u8 0)) v14x9 (.int .u8 0)) ⟨fun v16x10 => @kifB v16x10 ⟨@bnd (aLoad prog H7 50
 v5x4) ⟨fun v17x11 => @bndC prog 52 [v17x11] H7 ⟨fun v18x12 H13 => @kifB v18x12 ⟨k a1 H13⟩ ⟨S45x0  k [a0,a1,undef,undef,(.int .i64 0),v5x4,undef,a1,v8x1,a0,a1,v11x2,v12x3,v13x8,v14x9,v16x10,v16x10,v17x11,
 v18x12,undef,undef,undef,undef,undef,undef,undef,undef,undef,undef,undef,undef,undef,undef,undef,undef,undef,undef,undef,undef,undef,undef,undef,undef,undef,undef,undef,undef,undef,undef,undef,
 undef,undef,undef,undef,undef,undef,undef,undef,undef,undef,undef,undef,undef,undef,undef,undef,undef,undef,undef,undef,undef] H13⟩⟩⟩⟩ ⟨@bnd (aBin2 prog H7 .eql 5 (.tmp 14) (.const (.int .u8 3)) v14x9
 (.int .u8 3)) ⟨fun v21x14 => @kifB v21x14 ⟨@bnd (aLoad prog H7 50 v5x4) ⟨fun v22x15 => @bndC prog 53 [v22x15] H7 ⟨fun v23x16 H17 => @bnd (gif v23x16 true (aFieldAddr prog H17 50 v5x4 6) undef) ⟨fun v25x18 => @bnd
 (gif v23x16 true (aLoad prog H17 3 v25x18) undef) ⟨fun v26x19 => @bnd (gif v23x16 true ((some a1)) undef) ⟨fun v27x20 => @bnd (gif v23x16 true (aBin2 prog H17 .sub 3 (.tmp 27) (.const (.int .i64 1)) v27x20 (.int .i64
 1)) undef) ⟨fun v28x21 => @bnd (gif v23x16 true (aBin2 prog H17 .eql 3 (.tmp 26) (.tmp 28) v26x19 v28x21) undef) ⟨fun v29x22 => @bnd (pickV v23x16 v29x22 (.bool false)) ⟨fun v30x23 => @bnd (gif v30x23 true (aFieldAddr
 prog H17 50 v5x4 7) undef) ⟨fun v32x24 => @bnd (gif v30x23 true (aLoad prog H17 3 v32x24) undef) ⟨fun v33x25 => @bnd (gif v30x23 true (aBin2 prog H17 .eql 3 (.tmp 33) (.const (.int .i64 0)) v33x25 (.int .i64 0))
 undef) ⟨fun v34x26 => @bnd (pickV v30x23 v34x26 (.bool false)) ⟨fun v35x27 => @kifB v35x27 ⟨@bnd (aBin2 prog H17 .sub 3 (.tmp 37) (.const (.int .i64 1)) a1 (.int .i64 1)) ⟨fun v38x28 => @bndC prog 45 [a0,v38x28] H17
 ⟨fun v39x29 H30 => k v39x29 H30⟩⟩⟩ ⟨S45x0  k [a0,a1,undef,undef,(.int .i64 0),v5x4,undef,a1,v8x1,a0,a1,v11x2,v12x3,v13x8,v14x9,v16x10,v16x10,undef,undef,undef,v21x14,v21x14,v22x15,v23x16,v23x16,v25x18,
 v26x19,v27x20,v28x21,v29x22,v30x23,v30x23,v32x24,v33x25,v34x26,v35x27,undef,undef,undef,undef,undef,undef,undef,undef,undef,undef,undef,undef,undef,undef,undef,undef,undef,undef,undef,undef,undef,
 undef,undef,undef,undef,undef,undef,undef,undef,undef,undef,undef,undef,undef,undef] H17⟩⟩⟩⟩⟩⟩⟩⟩⟩⟩⟩⟩⟩⟩ ⟨@bnd (aBin2 prog H7 .eql 5 (.tmp 14) (.const (.int .u8 1)) v14x9 (.int .u8 1)) ⟨fun v41x31 => @kifB v41x31
 ⟨S45x1  k [a0,a1,undef,undef,(.int .i64 0),v5x4,undef,a1,v8x1,a0,a1,v11x2,v12x3,v13x8,v14x9,v16x10,v16x10,undef,undef,undef,v21x14,v21x14,undef,undef,undef,undef,undef,undef,undef,undef,undef,
 undef,undef,undef,undef,undef,undef,undef,undef,undef,v41x31,v41x31,undef,undef,undef,undef,undef,undef,undef,undef,undef,undef,undef,undef,undef,undef,undef,undef,undef,undef,undef,undef,undef,
 undef,undef,undef,undef,undef,undef,undef,undef] H7⟩ ⟨@bnd (aBin2 prog H7 .eql 5 (.tmp 14) (.const (.int .u8 2)) v14x9 (.int .u8 2)) ⟨fun v42x32 => S45x1  k [a0,a1,undef,undef,(.int .i64 0),v5x4,undef,a1,
 v8x1,a0,a1,v11x2,v12x3,v13x8,v14x9,v16x10,v16x10,undef,undef,undef,v21x14,v21x14,undef,undef,undef,undef,undef,undef,undef,undef,undef,undef,undef,undef,undef,undef,undef,undef,undef,undef,
 v42x32,v41x31,v42x32,undef,undef,undef,undef,undef,undef,undef,undef,undef,undef,undef,undef,undef,undef,undef,undef,undef,undef,undef,undef,undef,undef,undef,undef,undef,undef,undef,undef]
 H7⟩⟩⟩⟩⟩⟩⟩⟩⟩⟩⟩⟩⟩⟩⟩) := by kernel_rfl
theorem S45x0q (s0 s1 s2 s3 s4 s5 s6 s7 s8 s9 s10 s11 s12 s13 s14 s15 s16 s17 s18 s19 s20 s21 s22 s23 s24 s25 s26 s27 s28 s29 s30 s31 s32 s33 s34 s35 s36 s37 s38 s39 s40 s41 s42 s43 s44 s45 s46 s47 s48 s49 s50 s51 s52 s53 s54 s55
 s56 s57 s58 s59 s60 s61 s62 s63 s64 s65 s66 s67 s68 s69 s70 : Value) (H : AHeap) (k : Value → AHeap → Prop) : S45x0 k [s0,s1,s2,s3,s4,s5,s6,s7,s8,s9,s10,s11,s12,s13,s14,s15,s16,s17,s18,s19,s20,s21,s22,
 s23,s24,s25,s26,s27,s28,s29,s30,s31,s32,s33,s34,s35,s36,s37,s38,s39,s40,s41,s42,s43,s44,s45,s46,s47,s48,s49,s50,s51,s52,s53,s54,s55,s56,s57,s58,s59,s60,s61,s62,s63,s64,s65,s66,s67,
 s68,s69,s70] H = (k (.int .i64 (-1)) H) := by kernel_rfl
theorem S45x1q (s0 s1 s2 s3 s4 s5 s6 s7 s8 s9 s10 s11 s12 s13 s14 s15 s16 s17 s18 s19 s20 s21 s22 s23 s24 s25 s26 s27 s28 s29 s30 s31 s32 s33 s34 s35 s36 s37 s38 s39 s40 s41 s42 s43 s44 s45 s46 s47 s48 s49 s50 s51 s52 s53 s54 s55
 s56 s57 s58 s59 s60 s61 s62 s63 s64 s65 s66 s67 s68 s69 s70 : Value) (H : AHeap) (k : Value → AHeap → Prop) : S45x1 k [s0,s1,s2,s3,s4,s5,s6,s7,s8,s9,s10,s11,s12,s13,s14,s15,s16,s17,s18,s19,s20,s21,s22,
 s23,s24,s25,s26,s27,s28,s29,s30,s31,s32,s33,s34,s35,s36,s37,s38,s39,s40,s41,s42,s43,s44,s45,s46,s47,s48,s49,s50,s51,s52,s53,s54,s55,s56,s57,s58,s59,s60,s61,s62,s63,s64,s65,s66,s67,
 s68,s69,s70] H = (@kifB s40 ⟨@bnd (aBin2 prog H .sub 3 (.tmp 44) (.const (.int .i64 1)) s1 (.int .i64 1)) ⟨fun v45x33 => @bndC prog 45 [s0,v45x33] H ⟨fun v46x34 H35 => @bnd (aLoad prog H35 50 s5) ⟨fun v47x36 =>
 @bndC prog 53 [v47x36] H35 ⟨fun v48x37 H38 => @bnd (gif v48x37 true (aFieldAddr prog H38 50 s5 7) undef) ⟨fun v50x39 => @bnd (gif v48x37 true (aLoad prog H38 3 v50x39) undef) ⟨fun v51x40 => @bnd (gif v48x37 true
 ((some s1)) undef) ⟨fun v52x41 => @bnd (gif v48x37 true (aBin2 prog H38 .sub 3 (.tmp 52) (.const (.int .i64 1)) v52x41 (.int .i64 1)) undef) ⟨fun v53x42 => @bnd (gif v48x37 true (aBin2 prog H38 .eql 3 (.tmp 51) (.tmp
 53) v51x40 v53x42) undef) ⟨fun v54x43 => @bnd (pickV v48x37 v54x43 (.bool false)) ⟨fun v55x44 => @bnd (gif v55x44 true ((some v46x34)) undef) ⟨fun v57x45 => @bnd (gif v55x44 true (aBin2 prog H38 .gtr 3 (.tmp 57) (.const
 (.int .i64 0)) v57x45 (.int .i64 0)) undef) ⟨fun v58x46 => @bnd (pickV v55x44 v58x46 (.bool false)) ⟨fun v59x47 => @bnd (gif v59x47 true (aFieldAddr prog H38 50 s5 6) undef) ⟨fun v61x48 => @bnd (gif v59x47 true (aLoad
 prog H38 3 v61x48) undef) ⟨fun v62x49 => @bnd (gif v59x47 true ((some v46x34)) undef) ⟨fun v63x50 => @bnd (gif v59x47 true (aBin2 prog H38 .sub 3 (.tmp 63) (.const (.int .i64 1)) v63x50 (.int .i64 1)) undef) ⟨fun v64x51
 => @bnd (gif v59x47 true (aBin2 prog H38 .eql 3 (.tmp 62) (.tmp 64) v62x49 v64x51) undef) ⟨fun v65x52 => @bnd (pickV v59x47 v65x52 (.bool false)) ⟨fun v66x53 => @kifB v66x53 ⟨@bnd (aBin2 prog H38 .sub 3 (.tmp 68)
 (.const (.int .i64 1)) v46x34 (.int .i64 1)) ⟨fun v69x54 => @bndC prog 45 [s0,v69x54] H38 ⟨fun v70x55 H56 => k v70x55 H56⟩⟩⟩ ⟨S45x0  k [s0,s1,s2,s3,s4,s5,v46x34,s7,s8,s9,s10,s11,s12,s13,s14,s15,s16,s17,
 s18,s19,s20,s21,s22,s23,s24,s25,s26,s27,s28,s29,s30,s31,s32,s33,s34,s35,s36,s37,s38,s39,s40,s41,s42,s0,s1,v45x33,v46x34,v47x36,v48x37,v48x37,v50x39,v51x40,v52x41,v53x42,v54x43,v55x44,
 v55x44,v57x45,v58x46,v59x47,v59x47,v61x48,v62x49,v63x50,v64x51,v65x52,v66x53,s67,s68,s69,s70] H38⟩⟩⟩⟩⟩⟩⟩⟩⟩⟩⟩⟩⟩⟩⟩⟩⟩⟩⟩⟩⟩ ⟨S45x0  k [s0,s1,s2,s3,s4,s5,s6,s7,s8,s9,s10,s11,s12,s13,s14,s15,s16,s17,
 s18,s19,s20,s21,s22,s23,s24,s25,s26,s27,s28,s29,s30,s31,s32,s33,s34,s35,s36,s37,s38,s39,s40,s41,s42,s43,s44,s45,s46,s47,s48,s49,s50,s51,s52,s53,s54,s55,s56,s57,s58,s59,s60,s61,s62,
 s63,s64,s65,s66,s67,s68,s69,s70] H⟩) := by kernel_rfl
end Go.Vi
namespace Go.Vi
open Go Go.Proofs Go.Proofs.Try
-- tocsin/tocsinref07.MayName
def L46x0 (n : Nat) (k : Value → AHeap → Prop) (sl : List Value) (H : AHeap) : Prop := kit prog (cl (cl (cr (cl (cr (cr (cb Try.f46))))))) n (kblk 0 (kseq prog (cr (cr (cr (cb Try.f46)))) (kfin prog Try.f46 k)))
 .normal sl H
theorem d46 (a0 : Value) (H : AHeap) (k : Value → AHeap → Prop) : kbody prog Try.f46 [a0] H k = (@bnd (aLen prog H 9 a0) ⟨fun v5x1 => @bnd (aBin2 prog H .lss 3 (.tmp 5) (.const (.int .i64 1)) v5x1 (.int .i64 1)) ⟨fun
 v6x2 => @bnd (gif v6x2 false ((some a0)) undef) ⟨fun v8x3 => @bnd (gif v6x2 false (aLen prog H 9 v8x3) undef) ⟨fun v9x4 => @bnd (gif v6x2 false (aBin2 prog H .gtr 3 (.tmp 9) (.const (.int .i64 16)) v9x4 (.int .i64 16))
 undef) ⟨fun v10x5 => @bnd (pickV v6x2 (.bool true) v10x5) ⟨fun v11x6 => @bnd (gif v11x6 false ((some a0)) undef) ⟨fun v13x7 => @bnd (gif v11x6 false (aIndex prog 9 v13x7 (.int .i64 0)) undef) ⟨fun v14x8 => @bnd (gif v11x6
 false (aBin2 prog H .lss 5 (.tmp 14) (.const (.int .u8 97)) v14x8 (.int .u8 97)) undef) ⟨fun v15x9 => @bnd (pickV v11x6 (.bool true) v15x9) ⟨fun v16x10 => @bnd (gif v16x10 false ((some a0)) undef) ⟨fun v18x11 => @bnd (gif
 v16x10 false (aIndex prog 9 v18x11 (.int .i64 0)) undef) ⟨fun v19x12 => @bnd (gif v16x10 false (aBin2 prog H .gtr 5 (.tmp 19) (.const (.int .u8 122)) v19x12 (.int .u8 122)) undef) ⟨fun v20x13 => @bnd (pickV v16x10
 (.bool true) v20x13) ⟨fun v21x14 => @kifB v21x14 ⟨k (.bool false) H⟩ ⟨∃ n,L46x0 n  k [a0,undef,(.bool false),(.int .i64 0),a0,v5x1,v6x2,v6x2,v8x3,v9x4,v10x5,v11x6,v11x6,v13x7,v14x8,v15x9,v16x10,v16x10,v18x11,
 v19x12,v20x13,v21x14,undef,undef,undef,undef,undef,undef,undef,undef,undef,undef,undef,undef,undef,undef,undef,undef,undef,undef,undef,undef,undef,undef,undef,undef,undef,undef,undef,undef,undef,
 undef,undef,undef,undef,undef,undef] H⟩⟩⟩⟩⟩⟩⟩⟩⟩⟩⟩⟩⟩⟩⟩) := by kernel_rfl
theorem L46x0q (n0 : Nat) (s0 s1 s2 s3 s4 s5 s6 s7 s8 s9 s10 s11 s12 s13 s14 s15 s16 s17 s18 s19 s20 s21 s22 s23 s24 s25 s26 s27 s28 s29 s30 s31 s32 s33 s34 s35 s36 s37 s38 s39 s40 s41 s42 s43 s44 s45 s46 s47 s48 s49 s50 s51 s52
 s53 s54 s55 s56 : Value) (H : AHeap) (k : Value → AHeap → Prop) : L46x0 (n0 + 1) k [s0,s1,s2,s3,s4,s5,s6,s7,s8,s9,s10,s11,s12,s13,s14,s15,s16,s17,s18,s19,s20,s21,s22,s23,s24,s25,s26,s27,s28,s29,
 s30,s31,s32,s33,s34,s35,s36,s37,s38,s39,s40,s41,s42,s43,s44,s45,s46,s47,s48,s49,s50,s51,s52,s53,s54,s55,s56] H = (@bnd (aLen prog H 9 s0) ⟨fun v24x15 => @bnd (aBin2 prog H .lss 3 (.tmp 22)
 (.tmp 24) s3 v24x15) ⟨fun v25x16 => @kifB v25x16 ⟨@bnd (aIndex prog 9 s0 s3) ⟨fun v30x17 => @bnd (aBin2 prog H .geq 5 (.tmp 30) (.const (.int .u8 97)) v30x17 (.int .u8 97)) ⟨fun v31x18 => @bnd (gif v31x18 true ((some
 s0)) undef) ⟨fun v33x19 => @bnd (gif v31x18 true ((some s3)) undef) ⟨fun v34x20 => @bnd (gif v31x18 true (aIndex prog 9 v33x19 v34x20) undef) ⟨fun v35x21 => @bnd (gif v31x18 true (aBin2 prog H .leq 5 (.tmp 35) (.const
 (.int .u8 122)) v35x21 (.int .u8 122)) undef) ⟨fun v36x22 => @bnd (pickV v31x18 v36x22 (.bool false)) ⟨fun v37x23 => @bnd (gif v37x23 false ((some s0)) undef) ⟨fun v39x24 => @bnd (gif v37x23 false ((some s3)) undef) ⟨fun v40x25
 => @bnd (gif v37x23 false (aIndex prog 9 v39x24 v40x25) undef) ⟨fun v41x26 => @bnd (gif v37x23 false (aBin2 prog H .geq 5 (.tmp 41) (.const (.int .u8 48)) v41x26 (.int .u8 48)) undef) ⟨fun v42x27 => @bnd (gif v37x23
 false ((some v42x27)) undef) ⟨fun v43x28 => @bnd (gif v43x28 true ((some s0)) undef) ⟨fun v44x29 => @bnd (gif v43x28 true ((some s3)) undef) ⟨fun v45x30 => @bnd (gif v43x28 true (aIndex prog 9 v44x29 v45x30) undef) ⟨fun
 v46x31 => @bnd (gif v43x28 true (aBin2 prog H .leq 5 (.tmp 46) (.const (.int .u8 57)) v46x31 (.int .u8 57)) undef) ⟨fun v47x32 => @bnd (gif v37x23 false (pickV v43x28 v47x32 (.bool false)) undef) ⟨fun v48x33 => @bnd (pickV
 v37x23 (.bool true) v48x33) ⟨fun v49x34 => @bnd (gif v49x34 false ((some s0)) undef) ⟨fun v51x35 => @bnd (gif v49x34 false ((some s3)) undef) ⟨fun v52x36 => @bnd (gif v49x34 false (aIndex prog 9 v51x35 v52x36) undef) ⟨fun
 v53x37 => @bnd (gif v49x34 false (aBin2 prog H .eql 5 (.tmp 53) (.const (.int .u8 95)) v53x37 (.int .u8 95)) undef) ⟨fun v54x38 => @bnd (pickV v49x34 (.bool true) v54x38) ⟨fun v55x39 => @bnd (unV prog .not v55x39) ⟨fun
 v56x40 => @kifB v56x40 ⟨k (.bool false) H⟩ ⟨@bnd (aBin2 prog H .add 3 (.tmp 26) (.const (.int .i64 1)) s3 (.int .i64 1)) ⟨fun v27x41 => L46x0 n0  k [s0,s1,s2,v27x41,s4,s5,s6,s7,s8,s9,s10,s11,s12,s13,s14,s15,
 s16,s17,s18,s19,s20,s21,s3,s0,v24x15,v25x16,s3,v27x41,s0,s3,v30x17,v31x18,v31x18,v33x19,v34x20,v35x21,v36x22,v37x23,v37x23,v39x24,v40x25,v41x26,v42x27,v43x28,v44x29,v45x30,v46x31,v47x32,v48x33,
 v49x34,v49x34,v51x35,v52x36,v53x37,v54x38,v55x39,v56x40] H⟩⟩⟩⟩⟩⟩⟩⟩⟩⟩⟩⟩⟩⟩⟩⟩⟩⟩⟩⟩⟩⟩⟩⟩⟩⟩⟩ ⟨k (.bool true) H⟩⟩⟩) := by kernel_rfl
-- tocsin/tocsinref10.Right
theorem d47 (a0 : Value) (H : AHeap) (k : Value → AHeap → Prop) : kbody prog Try.f47 [a0] H k = (@bndC prog 54 [a0] H ⟨fun v4x1 H2 => @bnd (aBin2 prog H2 .neq 9 (.tmp 4) (.const (.string { data := #[] })) v4x1
 (.string { data := #[] })) ⟨fun v5x3 => k v5x3 H2⟩⟩) := by kernel_rfl
-- slices.Index[[]bool,bool]
def L48x0 (n : Nat) (k : Value → AHeap → Prop) (sl : List Value) (H : AHeap) : Prop := kit prog (cl (cl (cr (cl (cr (cb Try.f48)))))) n (kblk 0 (kseq prog (cr (cr (cb Try.f48))) (kfin prog Try.f48 k))) .normal sl H
theorem d48 (a0 a1 : Value) (H : AHeap) (k : Value → AHeap → Prop) : kbody prog Try.f48 [a0,a1] H k = (@bnd (aLen prog H 63 a0) ⟨fun v7x1 => ∃ n,L48x0 n  k [a0,a1,undef,undef,(.int .i64 0),undef,a0,v7x1,(.int
 .i64 0),undef,undef,undef,undef,undef,undef,undef,undef,undef,undef] H⟩) := by kernel_rfl
theorem L48x0q (n0 : Nat) (s0 s1 s2 s3 s4 s5 s6 s7 s8 s9 s10 s11 s12 s13 s14 s15 s16 s17 s18 : Value) (H : AHeap) (k : Value → AHeap → Prop) : L48x0 (n0 + 1) k [s0,s1,s2,s3,s4,s5,s6,s7,s8,s9,s10,s11,s12,s13,s14,
 s15,s16,s17,s18] H = (@bnd (aBin2 prog H .lss 3 (.tmp 8) (.tmp 7) s8 s7) ⟨fun v9x2 => @kifB v9x2 ⟨@bnd (aIndexAddr prog H 63 s0 s8) ⟨fun v14x3 => @bnd (aLoad prog H 4 v14x3) ⟨fun v15x4 => @bnd (aBin2 prog H
 .eql 4 (.tmp 11) (.tmp 15) s1 v15x4) ⟨fun v16x5 => @kifB v16x5 ⟨k s8 H⟩ ⟨@bnd (aBin2 prog H .add 3 (.tmp 8) (.const (.int .i64 1)) s8 (.int .i64 1)) ⟨fun v18x6 => L48x0 n0  k [s0,s1,s2,s3,s4,s8,s6,s7,v18x6,v9x2,
 s8,s1,s0,s8,v14x3,v15x4,v16x5,s17,v18x6] H⟩⟩⟩⟩⟩⟩ ⟨k (.int .i64 (-1)) H⟩⟩) := by kernel_rfl
-- tocsin/tocsinref08.Same
def L49x0 (n : Nat) (k : Value → AHeap → Prop) (sl : List Value) (H : AHeap) : Prop := kit prog (cl (cl (cr (cl (cr (cr (cb Try.f49))))))) n (kblk 0 (kseq prog (cr (cr (cr (cb Try.f49)))) (kfin prog Try.f49 k)))
 .normal sl H
theorem d49 (a0 a1 : Value) (H : AHeap) (k : Value → AHeap → Prop) : kbody prog Try.f49 [a0,a1] H k = (@bnd (aLen prog H 48 a0) ⟨fun v7x1 => @bnd (aLen prog H 48 a1) ⟨fun v9x2 => @bnd (aBin2 prog H .neq 3 (.tmp
 7) (.tmp 9) v7x1 v9x2) ⟨fun v10x3 => @kifB v10x3 ⟨k (.bool false) H⟩ ⟨∃ n,L49x0 n  k [a0,a1,undef,undef,(.bool false),(.int .i64 0),a0,v7x1,a1,v9x2,v10x3,undef,undef,undef,undef,undef,undef,undef,undef,
 undef,undef,undef,undef,undef,undef,undef] H⟩⟩⟩⟩) := by kernel_rfl
theorem L49x0q (n0 : Nat) (s0 s1 s2 s3 s4 s5 s6 s7 s8 s9 s10 s11 s12 s13 s14 s15 s16 s17 s18 s19 s20 s21 s22 s23 s24 s25 : Value) (H : AHeap) (k : Value → AHeap → Prop) : L49x0 (n0 + 1) k [s0,s1,s2,s3,s4,s5,s6,s7,s8,s9,
 s10,s11,s12,s13,s14,s15,s16,s17,s18,s19,s20,s21,s22,s23,s24,s25] H = (@bnd (aLen prog H 48 s0) ⟨fun v13x4 => @bnd (aBin2 prog H .lss 3 (.tmp 11) (.tmp 13) s5 v13x4) ⟨fun v14x5 => @kifB v14x5 ⟨@bnd
 (aIndexAddr prog H 48 s0 s5) ⟨fun v19x6 => @bnd (aLoad prog H 52 v19x6) ⟨fun v20x7 => @bnd (aIndexAddr prog H 48 s1 s5) ⟨fun v23x8 => @bnd (aLoad prog H 52 v23x8) ⟨fun v24x9 => @bnd (aBin2 prog H .neq 52
 (.tmp 20) (.tmp 24) v20x7 v24x9) ⟨fun v25x10 => @kifB v25x10 ⟨k (.bool false) H⟩ ⟨@bnd (aBin2 prog H .add 3 (.tmp 15) (.const (.int .i64 1)) s5 (.int .i64 1)) ⟨fun v16x11 => L49x0 n0  k [s0,s1,s2,s3,s4,v16x11,s6,s7,
 s8,s9,s10,s5,s0,v13x4,v14x5,s5,v16x11,s0,s5,v19x6,v20x7,s1,s5,v23x8,v24x9,v25x10] H⟩⟩⟩⟩⟩⟩⟩⟩ ⟨k (.bool true) H⟩⟩⟩) := by kernel_rfl
-- slices.IndexFunc[[]tocsin/api.Mute,tocsin/api.Mute]
def L50x0 (n : Nat) (k : Value → AHeap → Prop) (sl : List Value) (H : AHeap) : Prop := kit prog (cl (cl (cr (cl (cr (cb Try.f50)))))) n (kblk 0 (kseq prog (cr (cr (cb Try.f50))) (kfin prog Try.f50 k))) .normal sl H
theorem d50 (a0 a1 : Value) (H : AHeap) (k : Value → AHeap → Prop) : kbody prog Try.f50 [a0,a1] H k = (@bnd (aLen prog H 40 a0) ⟨fun v7x1 => ∃ n,L50x0 n  k [a0,a1,undef,undef,(.int .i64 0),undef,a0,v7x1,(.int
 .i64 0),undef,undef,undef,undef,undef,undef,undef,undef,undef,undef] H⟩) := by kernel_rfl
theorem L50x0q (n0 : Nat) (s0 s1 s2 s3 s4 s5 s6 s7 s8 s9 s10 s11 s12 s13 s14 s15 s16 s17 s18 : Value) (H : AHeap) (k : Value → AHeap → Prop) : L50x0 (n0 + 1) k [s0,s1,s2,s3,s4,s5,s6,s7,s8,s9,s10,s11,s12,s13,s14,
 s15,s16,s17,s18] H = (@bnd (aBin2 prog H .lss 3 (.tmp 8) (.tmp 7) s8 s7) ⟨fun v9x2 => @kifB v9x2 ⟨@bnd (aIndexAddr prog H 40 s0 s8) ⟨fun v14x3 => @bnd (aLoad prog H 28 v14x3) ⟨fun v15x4 => @bndV prog s1
 [v15x4] H ⟨fun v16x5 H6 => @kifB v16x5 ⟨k s8 H6⟩ ⟨@bnd (aBin2 prog H6 .add 3 (.tmp 8) (.const (.int .i64 1)) s8 (.int .i64 1)) ⟨fun v18x7 => L50x0 n0  k [s0,s1,s2,s3,s4,s8,s6,s7,v18x7,v9x2,s8,s1,s0,s8,v14x3,
 v15x4,v16x5,s17,v18x7] H6⟩⟩⟩⟩⟩⟩ ⟨k (.int .i64 (-1)) H⟩⟩) := by kernel_rfl
-- tocsin/tocsinref11.Find
def L51x0 (n : Nat) (k : Value → AHeap → Prop) (sl : List Value) (H : AHeap) : Prop := kit prog (cl (cl (cr (cl (cr (cb Try.f51)))))) n (kblk 0 (kseq prog (cr (cr (cb Try.f51))) (kfin prog Try.f51 k))) .normal sl H
theorem d51 (a0 a1 : Value) (H : AHeap) (k : Value → AHeap → Prop) : kbody prog Try.f51 [a0,a1] H k = (∃ n,L51x0 n  k [a0,a1,undef,undef,(.int .i64 0),(.int .i64 0),undef,undef,undef,undef,undef,undef,undef,
 undef,undef,undef,undef,undef,undef,undef] H) := by kernel_rfl
theorem L51x0q (n0 : Nat) (s0 s1 s2 s3 s4 s5 s6 s7 s8 s9 s10 s11 s12 s13 s14 s15 s16 s17 s18 s19 : Value) (H : AHeap) (k : Value → AHeap → Prop) : L51x0 (n0 + 1) k [s0,s1,s2,s3,s4,s5,s6,s7,s8,s9,s10,s11,s12,s13,s14,
 s15,s16,s17,s18,s19] H = (@bnd (aLen prog H 40 s0) ⟨fun v8x1 => @bnd (aBin2 prog H .lss 3 (.tmp 6) (.tmp 8) s5 v8x1) ⟨fun v9x2 => @kifB v9x2 ⟨@bnd (aIndexAddr prog H 40 s0 s5) ⟨fun v14x3 => @bnd (aFieldAddr
 prog H 28 v14x3 0) ⟨fun v15x4 => @bnd (aLoad prog H 9 v15x4) ⟨fun v16x5 => @bnd (aBin2 prog H .eql 9 (.tmp 16) (.tmp 17) v16x5 s1) ⟨fun v18x6 => @kifB v18x6 ⟨k s5 H⟩ ⟨@bnd (aBin2 prog H .add 3 (.tmp 10) (.const
 (.int .i64 1)) s5 (.int .i64 1)) ⟨fun v11x7 => L51x0 n0  k [s0,s1,s2,s3,s4,v11x7,s5,s0,v8x1,v9x2,s5,v11x7,s0,s5,v14x3,v15x4,v16x5,s1,v18x6,s19] H⟩⟩⟩⟩⟩⟩⟩ ⟨k (.int .i64 (-1)) H⟩⟩⟩) := by kernel_rfl
-- tocsin/expr.plain
theorem d52 (a0 : Value) (H : AHeap) (k : Value → AHeap → Prop) : kbody prog Try.f52 [a0] H k = (@bndE (aNew H 50 a0) ⟨fun v1x1 H2 => @bnd (aFieldAddr prog H2 50 v1x1 1) ⟨fun v3x3 => @bnd (aLoad prog H2 5 v3x3) ⟨fun
 v4x4 => @bnd (convV prog H2 5 3 v4x4) ⟨fun v5x5 => @bndD false H2 ⟨fun v6x6 H7 => ACalls prog 55 [] H2 v6x6 H7⟩ ⟨fun v6x6 H7 => @bnd (aLen prog H7 23 v6x6) ⟨fun v7x8 => @bnd (aBin2 prog H7 .lss 3 (.tmp 5) (.tmp
 7) v5x5 v7x8) ⟨fun v8x9 => @bnd (gif v8x9 true (aFieldAddr prog H7 50 v1x1 2) undef) ⟨fun v10x10 => @bnd (gif v8x9 true (aLoad prog H7 48 v10x10) undef) ⟨fun v11x11 => @bndD true H7 ⟨fun v12x12 H13 => gifp v8x9 true
 (ACalls prog 56 [v11x11] H7 v12x12 H13) (v12x12 = undef ∧ H13 = H7)⟩ ⟨fun v12x12 H13 => @bnd (pickV v8x9 v12x12 (.bool false)) ⟨fun v13x14 => @bnd (gif v13x14 true (aFieldAddr prog H13 50 v1x1 3) undef) ⟨fun v15x15 =>
 @bnd (gif v13x14 true (aLoad prog H13 3 v15x15) undef) ⟨fun v16x16 => @bnd (gif v13x14 true (aBin2 prog H13 .geq 3 (.tmp 16) (.const (.int .i64 1)) v16x16 (.int .i64 1)) undef) ⟨fun v17x17 => @bnd (pickV v13x14 v17x17
 (.bool false)) ⟨fun v18x18 => @bnd (gif v18x18 true (aFieldAddr prog H13 50 v1x1 3) undef) ⟨fun v20x19 => @bnd (gif v18x18 true (aLoad prog H13 3 v20x19) undef) ⟨fun v21x20 => @bnd (gif v18x18 true (aBin2 prog H13
 .leq 3 (.tmp 21) (.const (.int .i64 1000)) v21x20 (.int .i64 1000)) undef) ⟨fun v22x21 => @bnd (pickV v18x18 v22x21 (.bool false)) ⟨fun v23x22 => @bnd (gif v23x22 true (aFieldAddr prog H13 50 v1x1 4) undef) ⟨fun v25x23 =>
 @bnd (gif v23x22 true (aLoad prog H13 5 v25x23) undef) ⟨fun v26x24 => @bnd (gif v23x22 true (convV prog H13 5 3 v26x24) undef) ⟨fun v27x25 => @bndD false H13 ⟨fun v28x26 H27 => gifp v23x22 true (ACalls prog 57 []
 H13 v28x26 H27) (v28x26 = undef ∧ H27 = H13)⟩ ⟨fun v28x26 H27 => @bnd (gif v23x22 true (aLen prog H27 23 v28x26) undef) ⟨fun v29x28 => @bnd (gif v23x22 true (aBin2 prog H27 .lss 3 (.tmp 27) (.tmp 29) v27x25 v29x28)
 undef) ⟨fun v30x29 => @bnd (pickV v23x22 v30x29 (.bool false)) ⟨fun v31x30 => @bnd (gif v31x30 true (aFieldAddr prog H27 50 v1x1 5) undef) ⟨fun v33x31 => @bnd (gif v31x30 true (aLoad prog H27 2 v33x31) undef) ⟨fun
 v34x32 => @bndD false H27 ⟨fun v35x33 H34 => gifp v31x30 true (ACalls prog 58 [v34x32] H27 v35x33 H34) (v35x33 = undef ∧ H34 = H27)⟩ ⟨fun v35x33 H34 => @bnd (gif v31x30 true (aFieldAddr prog H27 50 v1x1 5) undef) ⟨fun
 v36x35 => @bnd (gif v31x30 true (aLoad prog H27 2 v36x35) undef) ⟨fun v37x36 => @bnd (gif v31x30 true (aBin2 prog H34 .eql 2 (.tmp 35) (.tmp 37) v35x33 v37x36) undef) ⟨fun v38x37 => @bnd (pickV v31x30 v38x37 (.bool
 false)) ⟨fun v39x38 => @bnd (gif v39x38 true (aFieldAddr prog H34 50 v1x1 6) undef) ⟨fun v41x39 => @bnd (gif v39x38 true (aLoad prog H34 3 v41x39) undef) ⟨fun v42x40 => @bnd (gif v39x38 true (aBin2 prog H34 .eql 3
 (.tmp 42) (.const (.int .i64 0)) v42x40 (.int .i64 0)) undef) ⟨fun v43x41 => @bnd (pickV v39x38 v43x41 (.bool false)) ⟨fun v44x42 => @bnd (gif v44x42 true (aFieldAddr prog H34 50 v1x1 7) undef) ⟨fun v46x43 => @bnd (gif
 v44x42 true (aLoad prog H34 3 v46x43) undef) ⟨fun v47x44 => @bnd (gif v44x42 true (aBin2 prog H34 .eql 3 (.tmp 47) (.const (.int .i64 0)) v47x44 (.int .i64 0)) undef) ⟨fun v48x45 => @bnd (pickV v44x42 v48x45 (.bool
 false)) ⟨fun v49x46 => k v49x46 H34⟩⟩⟩⟩⟩⟩⟩⟩⟩⟩⟩⟩⟩⟩⟩⟩⟩⟩⟩⟩⟩⟩⟩⟩⟩⟩⟩⟩⟩⟩⟩⟩⟩⟩⟩⟩⟩⟩⟩⟩⟩) := by kernel_rfl
-- tocsin/expr.void
theorem d53 (a0 : Value) (H : AHeap) (k : Value → AHeap → Prop) : kbody prog Try.f53 [a0] H k = (@bndE (aNew H 50 a0) ⟨fun v1x1 H2 => @bnd (aFieldAddr prog H2 50 v1x1 1) ⟨fun v3x3 => @bnd (aLoad prog H2 5 v3x3) ⟨fun
 v4x4 => @bnd (aBin2 prog H2 .eql 5 (.tmp 4) (.const (.int .u8 0)) v4x4 (.int .u8 0)) ⟨fun v5x5 => @bnd (gif v5x5 true (aFieldAddr prog H2 50 v1x1 2) undef) ⟨fun v7x6 => @bnd (gif v5x5 true (aLoad prog H2 48 v7x6)
 undef) ⟨fun v8x7 => @bnd (gif v5x5 true (aLen prog H2 48 v8x7) undef) ⟨fun v9x8 => @bnd (gif v5x5 true (aBin2 prog H2 .eql 3 (.tmp 9) (.const (.int .i64 0)) v9x8 (.int .i64 0)) undef) ⟨fun v10x9 => @bnd (pickV v5x5
 v10x9 (.bool false)) ⟨fun v11x10 => @bnd (gif v11x10 true (aFieldAddr prog H2 50 v1x1 3) undef) ⟨fun v13x11 => @bnd (gif v11x10 true (aLoad prog H2 3 v13x11) undef) ⟨fun v14x12 => @bnd (gif v11x10 true (aBin2 prog
 H2 .eql 3 (.tmp 14) (.const (.int .i64 0)) v14x12 (.int .i64 0)) undef) ⟨fun v15x13 => @bnd (pickV v11x10 v15x13 (.bool false)) ⟨fun v16x14 => @bnd (gif v16x14 true (aFieldAddr prog H2 50 v1x1 4) undef) ⟨fun v18x15 => @bnd
 (gif v16x14 true (aLoad prog H2 5 v18x15) undef) ⟨fun v19x16 => @bnd (gif v16x14 true (aBin2 prog H2 .eql 5 (.tmp 19) (.const (.int .u8 0)) v19x16 (.int .u8 0)) undef) ⟨fun v20x17 => @bnd (pickV v16x14 v20x17 (.bool
 false)) ⟨fun v21x18 => @bnd (gif v21x18 true (aFieldAddr prog H2 50 v1x1 5) undef) ⟨fun v23x19 => @bnd (gif v21x18 true (aLoad prog H2 2 v23x19) undef) ⟨fun v24x20 => @bnd (gif v21x18 true (aBin2 prog H2 .eql 2
 (.tmp 24) (.const (.int .i64 0)) v24x20 (.int .i64 0)) undef) ⟨fun v25x21 => @bnd (pickV v21x18 v25x21 (.bool false)) ⟨fun v26x22 => k v26x22 H2⟩⟩⟩⟩⟩⟩⟩⟩⟩⟩⟩⟩⟩⟩⟩⟩⟩⟩⟩⟩⟩) := by kernel_rfl
-- tocsin/tocsinref10.Print
def L54x0 (n : Nat) (k : Value → AHeap → Prop) (sl : List Value) (H : AHeap) : Prop := kit prog (cl (cl (cr (cl (cr (cr (cb Try.f54))))))) n (kblk 0 (kseq prog (cr (cr (cr (cb Try.f54)))) (kfin prog Try.f54 k)))
 .normal sl H
def L54x1 (n : Nat) (k : Value → AHeap → Prop) (sl : List Value) (H : AHeap) : Prop := kit prog (cl (cl (cr (cl (cr (cr (cr (cr (cb Try.f54))))))))) n (kblk 2 (kseq prog (cr (cr (cr (cr (cr (cb Try.f54)))))) (kfin
 prog Try.f54 k))) .normal sl H
def S54x0 (n1 : Nat) (k : Value → AHeap → Prop) (sl : List Value) (H : AHeap) : Prop := kseq prog (cr (cr (cl (cl (cr (cl (cl (cr (cl (cr (cr (cr (cr (cb Try.f54)))))))))))))) (kblk 3 (kseq prog (cr (cr (cl (cl (cr (cl
 (cr (cr (cr (cr (cb Try.f54))))))))))) (kit prog (cl (cl (cr (cl (cr (cr (cr (cr (cb Try.f54))))))))) n1 (kblk 2 (kseq prog (cr (cr (cr (cr (cr (cb Try.f54)))))) (kfin prog Try.f54 k)))))) .normal sl H
theorem d54 (a0 : Value) (H : AHeap) (k : Value → AHeap → Prop) : kbody prog Try.f54 [a0] H k = (@bnd (aLen prog H 22 a0) ⟨fun v15x1 => @bnd (aBin2 prog H .lss 3 (.tmp 15) (.const (.int .i64 1)) v15x1 (.int .i64 1))
 ⟨fun v16x2 => @bnd (gif v16x2 false ((some a0)) undef) ⟨fun v18x3 => @bnd (gif v16x2 false (aLen prog H 22 v18x3) undef) ⟨fun v19x4 => @bnd (gif v16x2 false (aBin2 prog H .gtr 3 (.tmp 19) (.const (.int .i64 31)) v19x4
 (.int .i64 31)) undef) ⟨fun v20x5 => @bnd (pickV v16x2 (.bool true) v20x5) ⟨fun v21x6 => @kifB v21x6 ⟨k (.string { data := #[] }) H⟩ ⟨∃ n,L54x0 n  k [a0,undef,(.string { data := #[] }),(.int .i64 0),undef,undef,undef,
 undef,undef,undef,undef,undef,undef,undef,a0,v15x1,v16x2,v16x2,v18x3,v19x4,v20x5,v21x6,undef,undef,undef,undef,undef,undef,undef,undef,undef,undef,undef,undef,undef,undef,undef,undef,undef,undef,
 undef,undef,undef,undef,undef,undef,undef,undef,undef,undef,undef,undef,undef,undef,undef,undef,undef,undef,undef,undef,undef,undef,undef,undef,undef,undef,undef,undef,undef,undef,undef,undef,
 undef,undef,undef,undef,undef,undef,undef,undef,undef,undef,undef,undef,undef,undef,undef,undef,undef,undef,undef,undef,undef,undef,undef,undef,undef,undef,undef,undef,undef,undef,undef,undef,
 undef,undef,undef,undef,undef,undef,undef,undef,undef,undef,undef,undef,undef,undef,undef,undef,undef,undef,undef,undef,undef,undef,undef,undef,undef,undef,undef,undef,undef,undef,undef,undef,
 undef,undef,undef,undef,undef,undef,undef,undef,undef,undef,undef,undef,undef,undef,undef,undef,undef,undef,undef,undef,undef,undef,undef,undef,undef,undef,undef,undef,undef,undef,undef,undef,
 undef,undef,undef,undef,undef,undef,undef,undef,undef,undef,undef,undef,undef,undef,undef,undef,undef,undef,undef,undef,undef,undef,undef,undef,undef,undef,undef,undef,undef,undef,undef,undef,
 undef,undef,undef,undef,undef,undef,undef,undef,undef,undef,undef,undef,undef,undef,undef,undef,undef,undef,undef,undef,undef,undef,undef,undef,undef,undef,undef,undef,undef,undef,undef,undef,
 undef,undef,undef,undef,undef,undef,undef,undef,undef,undef,undef,undef,undef,undef,undef,undef,undef,undef,undef,undef,undef,undef,undef,undef] H⟩⟩⟩⟩⟩⟩⟩) := by kernel_rfl
theorem L54x0q (n0 : Nat) (s0 s1 s2 s3 s4 s5 s6 s7 s8 s9 s10 s11 s12 s13 s14 s15 s16 s17 s18 s19 s20 s21 s22 s23 s24 s25 s26 s27 s28 s29 s30 s31 s32 s33 s34 s35 s36 s37 s38 s39 s40 s41 s42 s43 s44 s45 s46 s47 s48 s49 s50 s51 s52
 s53 s54 s55 s56 s57 s58 s59 s60 s61 s62 s63 s64 s65 s66 s67 s68 s69 s70 s71 s72 s73 s74 s75 s76 s77 s78 s79 s80 s81 s82 s83 s84 s85 s86 s87 s88 s89 s90 s91 s92 s93 s94 s95 s96 s97 s98 s99 s100 s101 s102 s103 s104 s105 s106 s107
 s108 s109 s110 s111 s112 s113 s114 s115 s116 s117 s118 s119 s120 s121 s122 s123 s124 s125 s126 s127 s128 s129 s130 s131 s132 s133 s134 s135 s136 s137 s138 s139 s140 s141 s142 s143 s144 s145 s146 s147 s148 s149 s150 s151 s152
 s153 s154 s155 s156 s157 s158 s159 s160 s161 s162 s163 s164 s165 s166 s167 s168 s169 s170 s171 s172 s173 s174 s175 s176 s177 s178 s179 s180 s181 s182 s183 s184 s185 s186 s187 s188 s189 s190 s191 s192 s193 s194 s195 s196 s197
 s198 s199 s200 s201 s202 s203 s204 s205 s206 s207 s208 s209 s210 s211 s212 s213 s214 s215 s216 s217 s218 s219 s220 s221 s222 s223 s224 s225 s226 s227 s228 s229 s230 s231 s232 s233 s234 s235 s236 s237 s238 s239 s240 s241 s242
 s243 s244 s245 s246 s247 s248 s249 s250 s251 s252 s253 s254 s255 : Value) (H : AHeap) (k : Value → AHeap → Prop) : L54x0 (n0 + 1) k [s0,s1,s2,s3,s4,s5,s6,s7,s8,s9,s10,s11,s12,s13,s14,s15,s16,s17,s18,s19,s20,
 s21,s22,s23,s24,s25,s26,s27,s28,s29,s30,s31,s32,s33,s34,s35,s36,s37,s38,s39,s40,s41,s42,s43,s44,s45,s46,s47,s48,s49,s50,s51,s52,s53,s54,s55,s56,s57,s58,s59,s60,s61,s62,s63,s64,s65,
 s66,s67,s68,s69,s70,s71,s72,s73,s74,s75,s76,s77,s78,s79,s80,s81,s82,s83,s84,s85,s86,s87,s88,s89,s90,s91,s92,s93,s94,s95,s96,s97,s98,s99,s100,s101,s102,s103,s104,s105,s106,s107,s108,
 s109,s110,s111,s112,s113,s114,s115,s116,s117,s118,s119,s120,s121,s122,s123,s124,s125,s126,s127,s128,s129,s130,s131,s132,s133,s134,s135,s136,s137,s138,s139,s140,s141,s142,s143,s144,s145,s146,
 s147,s148,s149,s150,s151,s152,s153,s154,s155,s156,s157,s158,s159,s160,s161,s162,s163,s164,s165,s166,s167,s168,s169,s170,s171,s172,s173,s174,s175,s176,s177,s178,s179,s180,s181,s182,s183,s184,
 s185,s186,s187,s188,s189,s190,s191,s192,s193,s194,s195,s196,s197,s198,s199,s200,s201,s202,s203,s204,s205,s206,s207,s208,s209,s210,s211,s212,s213,s214,s215,s216,s217,s218,s219,s220,s221,s222,
 s223,s224,s225,s226,s227,s228,s229,s230,s231,s232,s233,s234,s235,s236,s237,s238,s239,s240,s241,s242,s243,s244,s245,s246,s247,s248,s249,s250,s251,s252,s253,s254,s255] H = (@bnd (aLen prog H 22
 s0) ⟨fun v24x7 => @bnd (aBin2 prog H .lss 3 (.tmp 22) (.tmp 24) s3 v24x7) ⟨fun v25x8 => @kifB v25x8 ⟨@bnd (aIndexAddr prog H 22 s0 s3) ⟨fun v30x9 => @bnd (aLoad prog H 50 v30x9) ⟨fun v31x10 => @bndE (aAlloc prog
 H 50) ⟨fun v4x11 H12 => @bndS (aStore prog H12 50 v4x11 v31x10) ⟨fun _ H14 => @bnd (aFieldAddr prog H14 50 v4x11 0) ⟨fun v32x15 => @bnd (aLoad prog H14 5 v32x15) ⟨fun v33x16 => @bnd (aBin2 prog H14 .gtr 5 (.tmp
 33) (.const (.int .u8 3)) v33x16 (.int .u8 3)) ⟨fun v34x17 => @bnd (gif v34x17 false (aFieldAddr prog H14 50 v4x11 0) undef) ⟨fun v36x18 => @bnd (gif v34x17 false (aLoad prog H14 5 v36x18) undef) ⟨fun v37x19 => @bnd
 (gif v34x17 false (aBin2 prog H14 .eql 5 (.tmp 37) (.const (.int .u8 0)) v37x19 (.int .u8 0)) undef) ⟨fun v38x20 => @bnd (gif v34x17 false ((some v38x20)) undef) ⟨fun v39x21 => @bnd (gif v39x21 true (aFieldAddr prog H14
 50 v4x11 1) undef) ⟨fun v40x22 => @bnd (gif v39x21 true (aLoad prog H14 5 v40x22) undef) ⟨fun v41x23 => @bnd (gif v39x21 true (aBin2 prog H14 .gtr 5 (.tmp 41) (.const (.int .u8 5)) v41x23 (.int .u8 5)) undef) ⟨fun
 v42x24 => @bnd (gif v39x21 true ((some v42x24)) undef) ⟨fun v43x25 => @bnd (gif v43x25 false (aFieldAddr prog H14 50 v4x11 4) undef) ⟨fun v44x26 => @bnd (gif v43x25 false (aLoad prog H14 5 v44x26) undef) ⟨fun v45x27 =>
 @bnd (gif v43x25 false (aBin2 prog H14 .gtr 5 (.tmp 45) (.const (.int .u8 5)) v45x27 (.int .u8 5)) undef) ⟨fun v46x28 => @bnd (gif v39x21 true (pickV v43x25 (.bool true) v46x28) undef) ⟨fun v47x29 => @bnd (gif v34x17 false
 (pickV v39x21 v47x29 (.bool false)) undef) ⟨fun v48x30 => @bnd (pickV v34x17 (.bool true) v48x30) ⟨fun v49x31 => @bnd (gif v49x31 false (aFieldAddr prog H14 50 v4x11 0) undef) ⟨fun v51x32 => @bnd (gif v49x31 false (aLoad
 prog H14 5 v51x32) undef) ⟨fun v52x33 => @bnd (gif v49x31 false (aBin2 prog H14 .gtr 5 (.tmp 52) (.const (.int .u8 0)) v52x33 (.int .u8 0)) undef) ⟨fun v53x34 => @bnd (gif v49x31 false ((some v53x34)) undef) ⟨fun v54x35
 => @bnd (gif v54x35 true (aFieldAddr prog H14 50 v4x11 6) undef) ⟨fun v55x36 => @bnd (gif v54x35 true (aLoad prog H14 3 v55x36) undef) ⟨fun v56x37 => @bnd (gif v54x35 true (aBin2 prog H14 .lss 3 (.tmp 56) (.const
 (.int .i64 0)) v56x37 (.int .i64 0)) undef) ⟨fun v57x38 => @bnd (gif v54x35 true ((some v57x38)) undef) ⟨fun v58x39 => @bnd (gif v58x39 false (aFieldAddr prog H14 50 v4x11 6) undef) ⟨fun v59x40 => @bnd (gif v58x39 false
 (aLoad prog H14 3 v59x40) undef) ⟨fun v60x41 => @bnd (gif v58x39 false ((some s3)) undef) ⟨fun v61x42 => @bnd (gif v58x39 false (aBin2 prog H14 .geq 3 (.tmp 60) (.tmp 61) v60x41 v61x42) undef) ⟨fun v62x43 => @bnd (gif
 v54x35 true (pickV v58x39 (.bool true) v62x43) undef) ⟨fun v63x44 => @bnd (gif v54x35 true ((some v63x44)) undef) ⟨fun v64x45 => @bnd (gif v64x45 false (aFieldAddr prog H14 50 v4x11 7) undef) ⟨fun v65x46 => @bnd (gif v64x45
 false (aLoad prog H14 3 v65x46) undef) ⟨fun v66x47 => @bnd (gif v64x45 false (aBin2 prog H14 .lss 3 (.tmp 66) (.const (.int .i64 0)) v66x47 (.int .i64 0)) undef) ⟨fun v67x48 => @bnd (gif v54x35 true (pickV v64x45 (.bool
 true) v67x48) undef) ⟨fun v68x49 => @bnd (gif v54x35 true ((some v68x49)) undef) ⟨fun v69x50 => @bnd (gif v69x50 false (aFieldAddr prog H14 50 v4x11 7) undef) ⟨fun v70x51 => @bnd (gif v69x50 false (aLoad prog H14 3
 v70x51) undef) ⟨fun v71x52 => @bnd (gif v69x50 false ((some s3)) undef) ⟨fun v72x53 => @bnd (gif v69x50 false (aBin2 prog H14 .geq 3 (.tmp 71) (.tmp 72) v71x52 v72x53) undef) ⟨fun v73x54 => @bnd (gif v69x50 false ((some
 v73x54)) undef) ⟨fun v74x55 => @bnd (gif v74x55 true (aFieldAddr prog H14 50 v4x11 0) undef) ⟨fun v75x56 => @bnd (gif v74x55 true (aLoad prog H14 5 v75x56) undef) ⟨fun v76x57 => @bnd (gif v74x55 true (aBin2 prog H14
 .neq 5 (.tmp 76) (.const (.int .u8 3)) v76x57 (.int .u8 3)) undef) ⟨fun v77x58 => @bnd (gif v69x50 false (pickV v74x55 v77x58 (.bool false)) undef) ⟨fun v78x59 => @bnd (gif v54x35 true (pickV v69x50 (.bool true) v78x59) undef)
 ⟨fun v79x60 => @bnd (gif v49x31 false (pickV v54x35 v79x60 (.bool false)) undef) ⟨fun v80x61 => @bnd (pickV v49x31 (.bool true) v80x61) ⟨fun v81x62 => @kifB v81x62 ⟨k (.string { data := #[] }) H14⟩ ⟨@bnd (aBin2 prog H14
 .add 3 (.tmp 26) (.const (.int .i64 1)) s3 (.int .i64 1)) ⟨fun v27x63 => L54x0 n0  k [s0,s1,s2,v27x63,v4x11,s5,s6,s7,s8,s9,s10,s11,s12,s13,s14,s15,s16,s17,s18,s19,s20,s21,s3,s0,v24x7,v25x8,s3,v27x63,
 s0,s3,v30x9,v31x10,v32x15,v33x16,v34x17,v34x17,v36x18,v37x19,v38x20,v39x21,v40x22,v41x23,v42x24,v43x25,v44x26,v45x27,v46x28,v47x29,v48x30,v49x31,v49x31,v51x32,v52x33,v53x34,v54x35,v55x36,v56x37,
 v57x38,v58x39,v59x40,v60x41,v61x42,v62x43,v63x44,v64x45,v65x46,v66x47,v67x48,v68x49,v69x50,v70x51,v71x52,v72x53,v73x54,v74x55,v75x56,v76x57,v77x58,v78x59,v79x60,v80x61,v81x62,s82,s83,s84,s85,s86,
 s87,s88,s89,s90,s91,s92,s93,s94,s95,s96,s97,s98,s99,s100,s101,s102,s103,s104,s105,s106,s107,s108,s109,s110,s111,s112,s113,s114,s115,s116,s117,s118,s119,s120,s121,s122,s123,s124,s125,s126,
 s127,s128,s129,s130,s131,s132,s133,s134,s135,s136,s137,s138,s139,s140,s141,s142,s143,s144,s145,s146,s147,s148,s149,s150,s151,s152,s153,s154,s155,s156,s157,s158,s159,s160,s161,s162,s163,s164,
 s165,s166,s167,s168,s169,s170,s171,s172,s173,s174,s175,s176,s177,s178,s179,s180,s181,s182,s183,s184,s185,s186,s187,s188,s189,s190,s191,s192,s193,s194,s195,s196,s197,s198,s199,s200,s201,s202,
 s203,s204,s205,s206,s207,s208,s209,s210,s211,s212,s213,s214,s215,s216,s217,s218,s219,s220,s221,s222,s223,s224,s225,s226,s227,s228,s229,s230,s231,s232,s233,s234,s235,s236,s237,s238,s239,s240,
 s241,s242,s243,s244,s245,s246,s247,s248,s249,s250,s251,s252,s253,s254,s255] H14⟩⟩⟩⟩⟩⟩⟩⟩⟩⟩⟩⟩⟩⟩⟩⟩⟩⟩⟩⟩⟩⟩⟩⟩⟩⟩⟩⟩⟩⟩⟩⟩⟩⟩⟩⟩⟩⟩⟩⟩⟩⟩⟩⟩⟩⟩⟩⟩⟩⟩⟩⟩⟩⟩⟩ ⟨@bnd (aLen prog H 22 s0) ⟨fun v83x64 => @bndE (aMake prog H 23 v83x64
 v83x64) ⟨fun v84x65 H66 => ∃ n,L54x1 n  k [s0,s1,s2,s3,s4,v84x65,(.int .i64 0),s7,s8,s9,s10,s11,s12,s13,s14,s15,s16,s17,s18,s19,s20,s21,s3,s0,v24x7,v25x8,s26,s27,s28,s29,s30,s31,s32,s33,s34,
 s35,s36,s37,s38,s39,s40,s41,s42,s43,s44,s45,s46,s47,s48,s49,s50,s51,s52,s53,s54,s55,s56,s57,s58,s59,s60,s61,s62,s63,s64,s65,s66,s67,s68,s69,s70,s71,s72,s73,s74,s75,s76,s77,s78,s79,
 s80,s81,s0,v83x64,v84x65,s85,s86,s87,s88,s89,s90,s91,s92,s93,s94,s95,s96,s97,s98,s99,s100,s101,s102,s103,s104,s105,s106,s107,s108,s109,s110,s111,s112,s113,s114,s115,s116,s117,s118,s119,
 s120,s121,s122,s123,s124,s125,s126,s127,s128,s129,s130,s131,s132,s133,s134,s135,s136,s137,s138,s139,s140,s141,s142,s143,s144,s145,s146,s147,s148,s149,s150,s151,s152,s153,s154,s155,s156,s157,
 s158,s159,s160,s161,s162,s163,s164,s165,s166,s167,s168,s169,s170,s171,s172,s173,s174,s175,s176,s177,s178,s179,s180,s181,s182,s183,s184,s185,s186,s187,s188,s189,s190,s191,s192,s193,s194,s195,
 s196,s197,s198,s199,s200,s201,s202,s203,s204,s205,s206,s207,s208,s209,s210,s211,s212,s213,s214,s215,s216,s217,s218,s219,s220,s221,s222,s223,s224,s225,s226,s227,s228,s229,s230,s231,s232,s233,
 s234,s235,s236,s237,s238,s239,s240,s241,s242,s243,s244,s245,s246,s247,s248,s249,s250,s251,s252,s253,s254,s255] H66⟩⟩⟩⟩⟩) := by kernel_rfl
theorem L54x1q (n1 : Nat) (s0 s1 s2 s3 s4 s5 s6 s7 s8 s9 s10 s11 s12 s13 s14 s15 s16 s17 s18 s19 s20 s21 s22 s23 s24 s25 s26 s27 s28 s29 s30 s31 s32 s33 s34 s35 s36 s37 s38 s39 s40 s41 s42 s43 s44 s45 s46 s47 s48 s49 s50 s51 s52
 s53 s54 s55 s56 s57 s58 s59 s60 s61 s62 s63 s64 s65 s66 s67 s68 s69 s70 s71 s72 s73 s74 s75 s76 s77 s78 s79 s80 s81 s82 s83 s84 s85 s86 s87 s88 s89 s90 s91 s92 s93 s94 s95 s96 s97 s98 s99 s100 s101 s102 s103 s104 s105 s106 s107
 s108 s109 s110 s111 s112 s113 s114 s115 s116 s117 s118 s119 s120 s121 s122 s123 s124 s125 s126 s127 s128 s129 s130 s131 s132 s133 s134 s135 s136 s137 s138 s139 s140 s141 s142 s143 s144 s145 s146 s147 s148 s149 s150 s151 s152
 s153 s154 s155 s156 s157 s158 s159 s160 s161 s162 s163 s164 s165 s166 s167 s168 s169 s170 s171 s172 s173 s174 s175 s176 s177 s178 s179 s180 s181 s182 s183 s184 s185 s186 s187 s188 s189 s190 s191 s192 s193 s194 s195 s196 s197
 s198 s199 s200 s201 s202 s203 s204 s205 s206 s207 s208 s209 s210 s211 s212 s213 s214 s215 s216 s217 s218 s219 s220 s221 s222 s223 s224 s225 s226 s227 s228 s229 s230 s231 s232 s233 s234 s235 s236 s237 s238 s239 s240 s241 s242
 s243 s244 s245 s246 s247 s248 s249 s250 s251 s252 s253 s254 s255 : Value) (H : AHeap) (k : Value → AHeap → Prop) : L54x1 (n1 + 1) k [s0,s1,s2,s3,s4,s5,s6,s7,s8,s9,s10,s11,s12,s13,s14,s15,s16,s17,s18,s19,s20,
 s21,s22,s23,s24,s25,s26,s27,s28,s29,s30,s31,s32,s33,s34,s35,s36,s37,s38,s39,s40,s41,s42,s43,s44,s45,s46,s47,s48,s49,s50,s51,s52,s53,s54,s55,s56,s57,s58,s59,s60,s61,s62,s63,s64,s65,
 s66,s67,s68,s69,s70,s71,s72,s73,s74,s75,s76,s77,s78,s79,s80,s81,s82,s83,s84,s85,s86,s87,s88,s89,s90,s91,s92,s93,s94,s95,s96,s97,s98,s99,s100,s101,s102,s103,s104,s105,s106,s107,s108,
 s109,s110,s111,s112,s113,s114,s115,s116,s117,s118,s119,s120,s121,s122,s123,s124,s125,s126,s127,s128,s129,s130,s131,s132,s133,s134,s135,s136,s137,s138,s139,s140,s141,s142,s143,s144,s145,s146,
 s147,s148,s149,s150,s151,s152,s153,s154,s155,s156,s157,s158,s159,s160,s161,s162,s163,s164,s165,s166,s167,s168,s169,s170,s171,s172,s173,s174,s175,s176,s177,s178,s179,s180,s181,s182,s183,s184,
 s185,s186,s187,s188,s189,s190,s191,s192,s193,s194,s195,s196,s197,s198,s199,s200,s201,s202,s203,s204,s205,s206,s207,s208,s209,s210,s211,s212,s213,s214,s215,s216,s217,s218,s219,s220,s221,s222,
 s223,s224,s225,s226,s227,s228,s229,s230,s231,s232,s233,s234,s235,s236,s237,s238,s239,s240,s241,s242,s243,s244,s245,s246,s247,s248,s249,s250,s251,s252,s253,s254,s255] H = (@bnd (aLen prog H 22
 s0) ⟨fun v87x67 => @bnd (aBin2 prog H .lss 3 (.tmp 85) (.tmp 87) s6 v87x67) ⟨fun v88x68 => @kifB v88x68 ⟨@bnd (aIndexAddr prog H 22 s0 s6) ⟨fun v93x69 => @bnd (aLoad prog H 50 v93x69) ⟨fun v94x70 => @bndE (aAlloc
 prog H 50) ⟨fun v7x71 H72 => @bndS (aStore prog H72 50 v7x71 v94x70) ⟨fun _ H74 => @bnd (aFieldAddr prog H74 50 v7x71 0) ⟨fun v95x75 => @bnd (aLoad prog H74 5 v95x75) ⟨fun v96x76 => @bnd (aBin2 prog H74 .eql
 5 (.tmp 96) (.const (.int .u8 0)) v96x76 (.int .u8 0)) ⟨fun v98x77 => @kifB v98x77 ⟨@bnd (aFieldAddr prog H74 50 v7x71 1) ⟨fun v101x78 => @bnd (aLoad prog H74 5 v101x78) ⟨fun v102x79 => @bnd (convV prog H74 5 3
 v102x79) ⟨fun v103x80 => @bndD false H74 ⟨fun v104x81 H82 => ACalls prog 59 [v103x80] H74 v104x81 H82⟩ ⟨fun v104x81 H82 => @bnd (aBin2 prog H82 .add 9 (.tmp 104) (.const (.string { data := #[40] })) v104x81 (.string {
 data := #[40] })) ⟨fun v105x83 => @bnd (aFieldAddr prog H74 50 v7x71 2) ⟨fun v106x84 => @bnd (aLoad prog H74 48 v106x84) ⟨fun v107x85 => @bndD false H82 ⟨fun v108x86 H87 => ACalls prog 60 [v107x85] H82 v108x86 H87⟩
 ⟨fun v108x86 H87 => @bnd (aBin2 prog H87 .add 9 (.tmp 105) (.tmp 108) v105x83 v108x86) ⟨fun v109x88 => @bnd (aBin2 prog H87 .add 9 (.tmp 109) (.const (.string { data := #[91] })) v109x88 (.string { data := #[91] }))
 ⟨fun v110x89 => @bnd (aFieldAddr prog H74 50 v7x71 3) ⟨fun v111x90 => @bnd (aLoad prog H74 3 v111x90) ⟨fun v112x91 => @bndD false H87 ⟨fun v113x92 H93 => ACalls prog 61 [v112x91] H87 v113x92 H93⟩ ⟨fun v113x92 H93 =>
 @bnd (aBin2 prog H93 .add 9 (.tmp 110) (.tmp 113) v110x89 v113x92) ⟨fun v114x94 => @bnd (aBin2 prog H93 .add 9 (.tmp 114) (.const (.string { data := #[93,41,32] })) v114x94 (.string { data := #[93,41,32] })) ⟨fun
 v115x95 => @bnd (aFieldAddr prog H74 50 v7x71 4) ⟨fun v116x96 => @bnd (aLoad prog H74 5 v116x96) ⟨fun v117x97 => @bnd (convV prog H74 5 3 v117x97) ⟨fun v118x98 => @bndD false H93 ⟨fun v119x99 H100 => ACalls prog
 62 [v118x98] H93 v119x99 H100⟩ ⟨fun v119x99 H100 => @bnd (aBin2 prog H100 .add 9 (.tmp 115) (.tmp 119) v115x95 v119x99) ⟨fun v120x101 => @bnd (aBin2 prog H100 .add 9 (.tmp 120) (.const (.string { data := #[32] }))
 v120x101 (.string { data := #[32] })) ⟨fun v121x102 => @bnd (aFieldAddr prog H74 50 v7x71 5) ⟨fun v122x103 => @bnd (aLoad prog H74 2 v122x103) ⟨fun v123x104 => @bndD false H100 ⟨fun v124x105 H106 => ACalls prog 63
 [v123x104] H100 v124x105 H106⟩ ⟨fun v124x105 H106 => @bnd (aBin2 prog H106 .add 9 (.tmp 121) (.tmp 124) v121x102 v124x105) ⟨fun v125x107 => @bnd (aIndexAddr prog H106 23 s5 s6) ⟨fun v126x108 => @bndD true H106 ⟨fun x109
 H110 => x109 = undef ∧ aStore prog H106 9 v126x108 v125x107 = some H110⟩ ⟨fun _ H110 => S54x0 n1 k [s0,s1,s2,s3,s4,s5,s6,v7x71,s8,s9,s10,s11,s12,s13,s14,s15,s16,s17,s18,s19,s20,s21,s22,s23,s24,s25,
 s26,s27,s28,s29,s30,s31,s32,s33,s34,s35,s36,s37,s38,s39,s40,s41,s42,s43,s44,s45,s46,s47,s48,s49,s50,s51,s52,s53,s54,s55,s56,s57,s58,s59,s60,s61,s62,s63,s64,s65,s66,s67,s68,s69,s70,
 s71,s72,s73,s74,s75,s76,s77,s78,s79,s80,s81,s82,s83,s84,s6,s0,v87x67,v88x68,s89,s90,s0,s6,v93x69,v94x70,v95x75,v96x76,v98x77,v98x77,s5,s6,v101x78,v102x79,v103x80,v104x81,v105x83,v106x84,
 v107x85,v108x86,v109x88,v110x89,v111x90,v112x91,v113x92,v114x94,v115x95,v116x96,v117x97,v118x98,v119x99,v120x101,v121x102,v122x103,v123x104,v124x105,v125x107,v126x108,s127,s128,s129,s130,s131,s132,
 s133,s134,s135,s136,s137,s138,s139,s140,s141,s142,s143,s144,s145,s146,s147,s148,s149,s150,s151,s152,s153,s154,s155,s156,s157,s158,s159,s160,s161,s162,s163,s164,s165,s166,s167,s168,s169,s170,
 s171,s172,s173,s174,s175,s176,s177,s178,s179,s180,s181,s182,s183,s184,s185,s186,s187,s188,s189,s190,s191,s192,s193,s194,s195,s196,s197,s198,s199,s200,s201,s202,s203,s204,s205,s206,s207,s208,
 s209,s210,s211,s212,s213,s214,s215,s216,s217,s218,s219,s220,s221,s222,s223,s224,s225,s226,s227,s228,s229,s230,s231,s232,s233,s234,s235,s236,s237,s238,s239,s240,s241,s242,s243,s244,s245,s246,
 s247,s248,s249,s250,s251,s252,s253,s254,s255] H110⟩⟩⟩⟩⟩⟩⟩⟩⟩⟩⟩⟩⟩⟩⟩⟩⟩⟩⟩⟩⟩⟩⟩⟩⟩⟩⟩⟩ ⟨@bnd (aBin2 prog H74 .eql 5 (.tmp 96) (.const (.int .u8 1)) v96x76 (.int .u8 1)) ⟨fun v128x111 => @kifB v128x111 ⟨@bnd (aFieldAddr
 prog H74 50 v7x71 6) ⟨fun v133x112 => @bnd (aLoad prog H74 3 v133x112) ⟨fun v134x113 => @bnd (aFieldAddr prog H74 50 v7x71 6) ⟨fun v136x114 => @bnd (aLoad prog H74 3 v136x114) ⟨fun v137x115 => @bnd (aIndexAddr
 prog H74 22 s0 v137x115) ⟨fun v138x116 => @bnd (aFieldAddr prog H74 50 v138x116 0) ⟨fun v139x117 => @bnd (aLoad prog H74 5 v139x117) ⟨fun v140x118 => @bnd (aBin2 prog H74 .eql 5 (.tmp 140) (.const (.int .u8 2))
 v140x118 (.int .u8 2)) ⟨fun v141x119 => @bndD false H74 ⟨fun v142x120 H121 => ACalls prog 64 [s0,s5,v134x113,v141x119] H74 v142x120 H121⟩ ⟨fun v142x120 H121 => @bnd (aBin2 prog H121 .add 9 (.tmp 142) (.const (.string
 { data := #[32,97,110,100,32] })) v142x120 (.string { data := #[32,97,110,100,32] })) ⟨fun v143x122 => @bnd (aFieldAddr prog H74 50 v7x71 7) ⟨fun v146x123 => @bnd (aLoad prog H74 3 v146x123) ⟨fun v147x124 =>
 @bnd (aFieldAddr prog H74 50 v7x71 7) ⟨fun v149x125 => @bnd (aLoad prog H74 3 v149x125) ⟨fun v150x126 => @bnd (aIndexAddr prog H74 22 s0 v150x126) ⟨fun v151x127 => @bnd (aFieldAddr prog H74 50 v151x127 0) ⟨fun
 v152x128 => @bnd (aLoad prog H74 5 v152x128) ⟨fun v153x129 => @bnd (aBin2 prog H74 .eql 5 (.tmp 153) (.const (.int .u8 1)) v153x129 (.int .u8 1)) ⟨fun v154x130 => @bnd (gif v154x130 false ((some s0)) undef) ⟨fun
 v156x131 => @bnd (gif v154x130 false (aFieldAddr prog H121 50 v7x71 7) undef) ⟨fun v157x132 => @bnd (gif v154x130 false (aLoad prog H121 3 v157x132) undef) ⟨fun v158x133 => @bnd (gif v154x130 false (aIndexAddr prog
 H121 22 v156x131 v158x133) undef) ⟨fun v159x134 => @bnd (gif v154x130 false (aFieldAddr prog H121 50 v159x134 0) undef) ⟨fun v160x135 => @bnd (gif v154x130 false (aLoad prog H121 5 v160x135) undef) ⟨fun v161x136 => @bnd
 (gif v154x130 false (aBin2 prog H121 .eql 5 (.tmp 161) (.const (.int .u8 2)) v161x136 (.int .u8 2)) undef) ⟨fun v162x137 => @bnd (pickV v154x130 (.bool true) v162x137) ⟨fun v163x138 => @bndD false H121 ⟨fun v164x139 H140 =>
 ACalls prog 64 [s0,s5,v147x124,v163x138] H121 v164x139 H140⟩ ⟨fun v164x139 H140 => @bnd (aBin2 prog H140 .add 9 (.tmp 143) (.tmp 164) v143x122 v164x139) ⟨fun v165x141 => @bnd (aIndexAddr prog H140 23 s5 s6) ⟨fun
 v166x142 => @bndD true H140 ⟨fun x143 H144 => x143 = undef ∧ aStore prog H140 9 v166x142 v165x141 = some H144⟩ ⟨fun _ H144 => S54x0 n1 k [s0,s1,s2,s3,s4,s5,s6,v7x71,s8,s9,s10,s11,s12,s13,s14,s15,s16,s17,
 s18,s19,s20,s21,s22,s23,s24,s25,s26,s27,s28,s29,s30,s31,s32,s33,s34,s35,s36,s37,s38,s39,s40,s41,s42,s43,s44,s45,s46,s47,s48,s49,s50,s51,s52,s53,s54,s55,s56,s57,s58,s59,s60,s61,s62,
 s63,s64,s65,s66,s67,s68,s69,s70,s71,s72,s73,s74,s75,s76,s77,s78,s79,s80,s81,s82,s83,s84,s6,s0,v87x67,v88x68,s89,s90,s0,s6,v93x69,v94x70,v95x75,v96x76,v98x77,v98x77,s99,s100,s101,s102,
 s103,s104,s105,s106,s107,s108,s109,s110,s111,s112,s113,s114,s115,s116,s117,s118,s119,s120,s121,s122,s123,s124,s125,s126,v128x111,v128x111,s5,s6,s0,s5,v133x112,v134x113,s0,v136x114,v137x115,
 v138x116,v139x117,v140x118,v141x119,v142x120,v143x122,s0,s5,v146x123,v147x124,s0,v149x125,v150x126,v151x127,v152x128,v153x129,v154x130,v154x130,v156x131,v157x132,v158x133,v159x134,v160x135,v161x136,
 v162x137,v163x138,v164x139,v165x141,v166x142,s167,s168,s169,s170,s171,s172,s173,s174,s175,s176,s177,s178,s179,s180,s181,s182,s183,s184,s185,s186,s187,s188,s189,s190,s191,s192,s193,s194,s195,
 s196,s197,s198,s199,s200,s201,s202,s203,s204,s205,s206,s207,s208,s209,s210,s211,s212,s213,s214,s215,s216,s217,s218,s219,s220,s221,s222,s223,s224,s225,s226,s227,s228,s229,s230,s231,s232,s233,
 s234,s235,s236,s237,s238,s239,s240,s241,s242,s243,s244,s245,s246,s247,s248,s249,s250,s251,s252,s253,s254,s255] H144⟩⟩⟩⟩⟩⟩⟩⟩⟩⟩⟩⟩⟩⟩⟩⟩⟩⟩⟩⟩⟩⟩⟩⟩⟩⟩⟩⟩⟩⟩⟩ ⟨@bnd (aBin2 prog H74 .eql 5 (.tmp 96) (.const (.int
 .u8 2)) v96x76 (.int .u8 2)) ⟨fun v168x145 => @kifB v168x145 ⟨@bnd (aFieldAddr prog H74 50 v7x71 6) ⟨fun v172x146 => @bnd (aLoad prog H74 3 v172x146) ⟨fun v173x147 => @bnd (aIndexAddr prog H74 23 s5 v173x147) ⟨fun
 v174x148 => @bnd (aLoad prog H74 9 v174x148) ⟨fun v175x149 => @bnd (aBin2 prog H74 .add 9 (.tmp 175) (.const (.string { data := #[32,111,114,32] })) v175x149 (.string { data := #[32,111,114,32] })) ⟨fun v176x150
 => @bnd (aFieldAddr prog H74 50 v7x71 7) ⟨fun v179x151 => @bnd (aLoad prog H74 3 v179x151) ⟨fun v180x152 => @bnd (aFieldAddr prog H74 50 v7x71 7) ⟨fun v182x153 => @bnd (aLoad prog H74 3 v182x153) ⟨fun v183x154
 => @bnd (aIndexAddr prog H74 22 s0 v183x154) ⟨fun v184x155 => @bnd (aFieldAddr prog H74 50 v184x155 0) ⟨fun v185x156 => @bnd (aLoad prog H74 5 v185x156) ⟨fun v186x157 => @bnd (aBin2 prog H74 .eql 5 (.tmp 186)
 (.const (.int .u8 2)) v186x157 (.int .u8 2)) ⟨fun v187x158 => @bndD false H74 ⟨fun v188x159 H160 => ACalls prog 64 [s0,s5,v180x152,v187x158] H74 v188x159 H160⟩ ⟨fun v188x159 H160 => @bnd (aBin2 prog H160 .add 9 (.tmp
 176) (.tmp 188) v176x150 v188x159) ⟨fun v189x161 => @bnd (aIndexAddr prog H160 23 s5 s6) ⟨fun v190x162 => @bndD true H160 ⟨fun x163 H164 => x163 = undef ∧ aStore prog H160 9 v190x162 v189x161 = some H164⟩ ⟨fun _ H164 =>
 S54x0 n1 k [s0,s1,s2,s3,s4,s5,s6,v7x71,s8,s9,s10,s11,s12,s13,s14,s15,s16,s17,s18,s19,s20,s21,s22,s23,s24,s25,s26,s27,s28,s29,s30,s31,s32,s33,s34,s35,s36,s37,s38,s39,s40,s41,s42,s43,
 s44,s45,s46,s47,s48,s49,s50,s51,s52,s53,s54,s55,s56,s57,s58,s59,s60,s61,s62,s63,s64,s65,s66,s67,s68,s69,s70,s71,s72,s73,s74,s75,s76,s77,s78,s79,s80,s81,s82,s83,s84,s6,s0,v87x67,
 v88x68,s89,s90,s0,s6,v93x69,v94x70,v95x75,v96x76,v98x77,v98x77,s99,s100,s101,s102,s103,s104,s105,s106,s107,s108,s109,s110,s111,s112,s113,s114,s115,s116,s117,s118,s119,s120,s121,s122,s123,
 s124,s125,s126,v128x111,v128x111,s129,s130,s131,s132,s133,s134,s135,s136,s137,s138,s139,s140,s141,s142,s143,s144,s145,s146,s147,s148,s149,s150,s151,s152,s153,s154,s155,s156,s157,s158,s159,
 s160,s161,s162,s163,s164,s165,s166,v168x145,v168x145,s5,s6,s5,v172x146,v173x147,v174x148,v175x149,v176x150,s0,s5,v179x151,v180x152,s0,v182x153,v183x154,v184x155,v185x156,v186x157,v187x158,v188x159,
 v189x161,v190x162,s191,s192,s193,s194,s195,s196,s197,s198,s199,s200,s201,s202,s203,s204,s205,s206,s207,s208,s209,s210,s211,s212,s213,s214,s215,s216,s217,s218,s219,s220,s221,s222,s223,s224,
 s225,s226,s227,s228,s229,s230,s231,s232,s233,s234,s235,s236,s237,s238,s239,s240,s241,s242,s243,s244,s245,s246,s247,s248,s249,s250,s251,s252,s253,s254,s255] H164⟩⟩⟩⟩⟩⟩⟩⟩⟩⟩⟩⟩⟩⟩⟩⟩⟩⟩ ⟨@bnd (aBin2
 prog H74 .eql 5 (.tmp 96) (.const (.int .u8 3)) v96x76 (.int .u8 3)) ⟨fun v192x165 => @kifB v192x165 ⟨@bnd (aFieldAddr prog H74 50 v7x71 6) ⟨fun v197x166 => @bnd (aLoad prog H74 3 v197x166) ⟨fun v198x167 => @bnd
 (aFieldAddr prog H74 50 v7x71 6) ⟨fun v200x168 => @bnd (aLoad prog H74 3 v200x168) ⟨fun v201x169 => @bnd (aIndexAddr prog H74 22 s0 v201x169) ⟨fun v202x170 => @bnd (aFieldAddr prog H74 50 v202x170 0) ⟨fun
 v203x171 => @bnd (aLoad prog H74 5 v203x171) ⟨fun v204x172 => @bnd (aBin2 prog H74 .eql 5 (.tmp 204) (.const (.int .u8 1)) v204x172 (.int .u8 1)) ⟨fun v205x173 => @bnd (gif v205x173 false ((some s0)) undef) ⟨fun
 v207x174 => @bnd (gif v205x173 false (aFieldAddr prog H74 50 v7x71 6) undef) ⟨fun v208x175 => @bnd (gif v205x173 false (aLoad prog H74 3 v208x175) undef) ⟨fun v209x176 => @bnd (gif v205x173 false (aIndexAddr prog
 H74 22 v207x174 v209x176) undef) ⟨fun v210x177 => @bnd (gif v205x173 false (aFieldAddr prog H74 50 v210x177 0) undef) ⟨fun v211x178 => @bnd (gif v205x173 false (aLoad prog H74 5 v211x178) undef) ⟨fun v212x179 => @bnd
 (gif v205x173 false (aBin2 prog H74 .eql 5 (.tmp 212) (.const (.int .u8 2)) v212x179 (.int .u8 2)) undef) ⟨fun v213x180 => @bnd (pickV v205x173 (.bool true) v213x180) ⟨fun v214x181 => @bndD true H74 ⟨fun v215x182 H183 =>
 ACalls prog 64 [s0,s5,v198x167,v214x181] H74 v215x182 H183⟩ ⟨fun v215x182 H183 => @bnd (aBin2 prog H183 .add 9 (.const (.string { data := #[110,111,116,32] })) (.tmp 215) (.string { data := #[110,111,116,32] })
 v215x182) ⟨fun v216x184 => @bnd (aIndexAddr prog H183 23 s5 s6) ⟨fun v217x185 => @bndD true H183 ⟨fun x186 H187 => x186 = undef ∧ aStore prog H183 9 v217x185 v216x184 = some H187⟩ ⟨fun _ H187 => S54x0 n1 k [s0,s1,s2,
 s3,s4,s5,s6,v7x71,s8,s9,s10,s11,s12,s13,s14,s15,s16,s17,s18,s19,s20,s21,s22,s23,s24,s25,s26,s27,s28,s29,s30,s31,s32,s33,s34,s35,s36,s37,s38,s39,s40,s41,s42,s43,s44,s45,s46,s47,s48,
 s49,s50,s51,s52,s53,s54,s55,s56,s57,s58,s59,s60,s61,s62,s63,s64,s65,s66,s67,s68,s69,s70,s71,s72,s73,s74,s75,s76,s77,s78,s79,s80,s81,s82,s83,s84,s6,s0,v87x67,v88x68,s89,s90,s0,s6,
 v93x69,v94x70,v95x75,v96x76,v98x77,v98x77,s99,s100,s101,s102,s103,s104,s105,s106,s107,s108,s109,s110,s111,s112,s113,s114,s115,s116,s117,s118,s119,s120,s121,s122,s123,s124,s125,s126,v128x111,
 v128x111,s129,s130,s131,s132,s133,s134,s135,s136,s137,s138,s139,s140,s141,s142,s143,s144,s145,s146,s147,s148,s149,s150,s151,s152,s153,s154,s155,s156,s157,s158,s159,s160,s161,s162,s163,s164,
 s165,s166,v168x145,v168x145,s169,s170,s171,s172,s173,s174,s175,s176,s177,s178,s179,s180,s181,s182,s183,s184,s185,s186,s187,s188,s189,s190,v192x165,v192x165,s5,s6,s0,s5,v197x166,v198x167,s0,
 v200x168,v201x169,v202x170,v203x171,v204x172,v205x173,v205x173,v207x174,v208x175,v209x176,v210x177,v211x178,v212x179,v213x180,v214x181,v215x182,v216x184,v217x185,s218,s219,s220,s221,s222,s223,s224,s225,
 s226,s227,s228,s229,s230,s231,s232,s233,s234,s235,s236,s237,s238,s239,s240,s241,s242,s243,s244,s245,s246,s247,s248,s249,s250,s251,s252,s253,s254,s255] H187⟩⟩⟩⟩⟩⟩⟩⟩⟩⟩⟩⟩⟩⟩⟩⟩⟩⟩⟩⟩⟩ ⟨S54x0 n1 k [s0,s1,
 s2,s3,s4,s5,s6,v7x71,s8,s9,s10,s11,s12,s13,s14,s15,s16,s17,s18,s19,s20,s21,s22,s23,s24,s25,s26,s27,s28,s29,s30,s31,s32,s33,s34,s35,s36,s37,s38,s39,s40,s41,s42,s43,s44,s45,s46,s47,
 s48,s49,s50,s51,s52,s53,s54,s55,s56,s57,s58,s59,s60,s61,s62,s63,s64,s65,s66,s67,s68,s69,s70,s71,s72,s73,s74,s75,s76,s77,s78,s79,s80,s81,s82,s83,s84,s6,s0,v87x67,v88x68,s89,s90,s0,s6,
 v93x69,v94x70,v95x75,v96x76,v98x77,v98x77,s99,s100,s101,s102,s103,s104,s105,s106,s107,s108,s109,s110,s111,s112,s113,s114,s115,s116,s117,s118,s119,s120,s121,s122,s123,s124,s125,s126,v128x111,
 v128x111,s129,s130,s131,s132,s133,s134,s135,s136,s137,s138,s139,s140,s141,s142,s143,s144,s145,s146,s147,s148,s149,s150,s151,s152,s153,s154,s155,s156,s157,s158,s159,s160,s161,s162,s163,s164,
 s165,s166,v168x145,v168x145,s169,s170,s171,s172,s173,s174,s175,s176,s177,s178,s179,s180,s181,s182,s183,s184,s185,s186,s187,s188,s189,s190,v192x165,v192x165,s193,s194,s195,s196,s197,s198,s199,
 s200,s201,s202,s203,s204,s205,s206,s207,s208,s209,s210,s211,s212,s213,s214,s215,s216,s217,s218,s219,s220,s221,s222,s223,s224,s225,s226,s227,s228,s229,s230,s231,s232,s233,s234,s235,s236,s237,
 s238,s239,s240,s241,s242,s243,s244,s245,s246,s247,s248,s249,s250,s251,s252,s253,s254,s255] H74⟩⟩⟩⟩⟩⟩⟩⟩⟩⟩⟩⟩⟩⟩⟩ ⟨@bnd (aLen prog H 22 s0) ⟨fun v226x188 => @bnd (aBin2 prog H .sub 3 (.tmp 226) (.const
 (.int .i64 1)) v226x188 (.int .i64 1)) ⟨fun v227x189 => @bnd (aIndexAddr prog H 23 s5 v227x189) ⟨fun v228x190 => @bnd (aLoad prog H 9 v228x190) ⟨fun v229x191 => @bndC prog 65 [v229x191] H ⟨fun v232x192 H193 => @bnd
 (tupV v232x192 0) ⟨fun v233x194 => @bnd (tupV v232x192 1) ⟨fun _ => @bnd (tupV v232x192 2) ⟨fun v235x196 => @bndC prog 66 [v233x194,(.int .i64 0),(.int .i64 0)] H193 ⟨fun v238x197 H198 => @bnd (tupV v238x197 0) ⟨fun
 v239x199 => @bnd (tupV v238x197 1) ⟨fun v240x200 => @bnd (aBin2 prog H198 .neq 3 (.tmp 241) (.const (.int .i64 0)) v235x196 (.int .i64 0)) ⟨fun v242x201 => @bnd (gif v242x201 false ((some v240x200)) undef) ⟨fun v244x202 =>
 @bnd (gif v242x201 false ((some v233x194)) undef) ⟨fun v245x203 => @bnd (gif v242x201 false (aLen prog H198 90 v245x203) undef) ⟨fun v246x204 => @bnd (gif v242x201 false (aBin2 prog H198 .neq 3 (.tmp 244) (.tmp 246)
 v244x202 v246x204) undef) ⟨fun v247x205 => @bnd (pickV v242x201 (.bool true) v247x205) ⟨fun v248x206 => @bnd (gif v248x206 false ((some v239x199)) undef) ⟨fun v250x207 => @bnd (gif v248x206 false ((some s0)) undef) ⟨fun
 v251x208 => @bndG v248x206 false H198 ⟨fun v252x209 H210 => ACalls prog 32 [v250x207,v251x208] H198 v252x209 H210⟩ ⟨fun v252x209 H210 => @bnd (gif v248x206 false (unV prog .not v252x209) undef) ⟨fun v253x211 => @bnd
 (pickV v248x206 (.bool true) v253x211) ⟨fun v254x212 => @kifB v254x212 ⟨k (.string { data := #[] }) H210⟩ ⟨k v229x191 H210⟩⟩⟩⟩⟩⟩⟩⟩⟩⟩⟩⟩⟩⟩⟩⟩⟩⟩⟩⟩⟩⟩⟩⟩⟩⟩) := by kernel_rfl
theorem S54x0q (n1 : Nat) (s0 s1 s2 s3 s4 s5 s6 s7 s8 s9 s10 s11 s12 s13 s14 s15 s16 s17 s18 s19 s20 s21 s22 s23 s24 s25 s26 s27 s28 s29 s30 s31 s32 s33 s34 s35 s36 s37 s38 s39 s40 s41 s42 s43 s44 s45 s46 s47 s48 s49 s50 s51 s52
 s53 s54 s55 s56 s57 s58 s59 s60 s61 s62 s63 s64 s65 s66 s67 s68 s69 s70 s71 s72 s73 s74 s75 s76 s77 s78 s79 s80 s81 s82 s83 s84 s85 s86 s87 s88 s89 s90 s91 s92 s93 s94 s95 s96 s97 s98 s99 s100 s101 s102 s103 s104 s105 s106 s107
 s108 s109 s110 s111 s112 s113 s114 s115 s116 s117 s118 s119 s120 s121 s122 s123 s124 s125 s126 s127 s128 s129 s130 s131 s132 s133 s134 s135 s136 s137 s138 s139 s140 s141 s142 s143 s144 s145 s146 s147 s148 s149 s150 s151 s152
 s153 s154 s155 s156 s157 s158 s159 s160 s161 s162 s163 s164 s165 s166 s167 s168 s169 s170 s171 s172 s173 s174 s175 s176 s177 s178 s179 s180 s181 s182 s183 s184 s185 s186 s187 s188 s189 s190 s191 s192 s193 s194 s195 s196 s197
 s198 s199 s200 s201 s202 s203 s204 s205 s206 s207 s208 s209 s210 s211 s212 s213 s214 s215 s216 s217 s218 s219 s220 s221 s222 s223 s224 s225 s226 s227 s228 s229 s230 s231 s232 s233 s234 s235 s236 s237 s238 s239 s240 s241 s242
 s243 s244 s245 s246 s247 s248 s249 s250 s251 s252 s253 s254 s255 : Value) (H : AHeap) (k : Value → AHeap → Prop) : S54x0 n1 k [s0,s1,s2,s3,s4,s5,s6,s7,s8,s9,s10,s11,s12,s13,s14,s15,s16,s17,s18,s19,s20,s21,
 s22,s23,s24,s25,s26,s27,s28,s29,s30,s31,s32,s33,s34,s35,s36,s37,s38,s39,s40,s41,s42,s43,s44,s45,s46,s47,s48,s49,s50,s51,s52,s53,s54,s55,s56,s57,s58,s59,s60,s61,s62,s63,s64,s65,s66,
 s67,s68,s69,s70,s71,s72,s73,s74,s75,s76,s77,s78,s79,s80,s81,s82,s83,s84,s85,s86,s87,s88,s89,s90,s91,s92,s93,s94,s95,s96,s97,s98,s99,s100,s101,s102,s103,s104,s105,s106,s107,s108,s109,
 s110,s111,s112,s113,s114,s115,s116,s117,s118,s119,s120,s121,s122,s123,s124,s125,s126,s127,s128,s129,s130,s131,s132,s133,s134,s135,s136,s137,s138,s139,s140,s141,s142,s143,s144,s145,s146,s147,
 s148,s149,s150,s151,s152,s153,s154,s155,s156,s157,s158,s159,s160,s161,s162,s163,s164,s165,s166,s167,s168,s169,s170,s171,s172,s173,s174,s175,s176,s177,s178,s179,s180,s181,s182,s183,s184,s185,
 s186,s187,s188,s189,s190,s191,s192,s193,s194,s195,s196,s197,s198,s199,s200,s201,s202,s203,s204,s205,s206,s207,s208,s209,s210,s211,s212,s213,s214,s215,s216,s217,s218,s219,s220,s221,s222,s223,
 s224,s225,s226,s227,s228,s229,s230,s231,s232,s233,s234,s235,s236,s237,s238,s239,s240,s241,s242,s243,s244,s245,s246,s247,s248,s249,s250,s251,s252,s253,s254,s255] H = (@bnd (aIndexAddr prog H 23
 s5 s6) ⟨fun v220x213 => @bnd (aLoad prog H 9 v220x213) ⟨fun v221x214 => @bnd (aLen prog H 9 v221x214) ⟨fun v222x215 => @bnd (aBin2 prog H .gtr 3 (.tmp 222) (.const (.int .i64 20000)) v222x215 (.int .i64 20000)) ⟨fun
 v223x216 => @kifB v223x216 ⟨k (.string { data := #[] }) H⟩ ⟨@bnd (aBin2 prog H .add 3 (.tmp 89) (.const (.int .i64 1)) s6 (.int .i64 1)) ⟨fun v90x217 => L54x1 n1  k [s0,s1,s2,s3,s4,s5,v90x217,s7,s8,s9,s10,s11,
 s12,s13,s14,s15,s16,s17,s18,s19,s20,s21,s22,s23,s24,s25,s26,s27,s28,s29,s30,s31,s32,s33,s34,s35,s36,s37,s38,s39,s40,s41,s42,s43,s44,s45,s46,s47,s48,s49,s50,s51,s52,s53,s54,s55,s56,
 s57,s58,s59,s60,s61,s62,s63,s64,s65,s66,s67,s68,s69,s70,s71,s72,s73,s74,s75,s76,s77,s78,s79,s80,s81,s82,s83,s84,s85,s86,s87,s88,s6,v90x217,s91,s92,s93,s94,s95,s96,s97,s98,s99,s100,
 s101,s102,s103,s104,s105,s106,s107,s108,s109,s110,s111,s112,s113,s114,s115,s116,s117,s118,s119,s120,s121,s122,s123,s124,s125,s126,s127,s128,s129,s130,s131,s132,s133,s134,s135,s136,s137,s138,
 s139,s140,s141,s142,s143,s144,s145,s146,s147,s148,s149,s150,s151,s152,s153,s154,s155,s156,s157,s158,s159,s160,s161,s162,s163,s164,s165,s166,s167,s168,s169,s170,s171,s172,s173,s174,s175,s176,
 s177,s178,s179,s180,s181,s182,s183,s184,s185,s186,s187,s188,s189,s190,s191,s192,s193,s194,s195,s196,s197,s198,s199,s200,s201,s202,s203,s204,s205,s206,s207,s208,s209,s210,s211,s212,s213,s214,
 s215,s216,s217,s5,s6,v220x213,v221x214,v222x215,v223x216,s224,s225,s226,s227,s228,s229,s230,s231,s232,s233,s234,s235,s236,s237,s238,s239,s240,s241,s242,s243,s244,s245,s246,s247,s248,s249,s250,
 s251,s252,s253,s254,s255] H⟩⟩⟩⟩⟩⟩) := by kernel_rfl
end Go.Vi
namespace Go.Vi
open Go Go.Proofs Go.Proofs.Try
-- tocsin/expr.aggregates
theorem d55 (H : AHeap) (k : Value → AHeap → Prop) : kbody prog Try.f55 [] H k = (@bndL prog H 23 6 [(0,(.string { data := #[99,111,117,110,116] })),(1,(.string { data := #[115,117,109] })),(2,(.string { data
 := #[109,105,110] })),(3,(.string { data := #[109,97,120] })),(4,(.string { data := #[109,101,97,110] })),(5,(.string { data := #[108,97,115,116] }))] ⟨fun v1x1 H2 => k v1x1 H2⟩) := by kernel_rfl
-- tocsin/match.May
def L56x0 (n : Nat) (k : Value → AHeap → Prop) (sl : List Value) (H : AHeap) : Prop := kit prog (cl (cl (cr (cl (cr (cr (cb Try.f56))))))) n (kblk 0 (kseq prog (cr (cr (cr (cb Try.f56)))) (kfin prog Try.f56 k)))
 .normal sl H
theorem d56 (a0 : Value) (H : AHeap) (k : Value → AHeap → Prop) : kbody prog Try.f56 [a0] H k = (@bndC prog 67 [] H ⟨fun v8x1 H2 => @bnd (aLen prog H2 48 a0) ⟨fun v10x3 => ∃ n,L56x0 n  k [a0,undef,(.bool false),
 v8x1,undef,undef,undef,undef,v8x1,a0,v10x3,(.int .i64 0),undef,undef,undef,undef,undef,undef,undef,undef,undef,undef,undef,undef,undef,undef,undef,undef,undef,undef,undef,undef,undef,undef,undef,
 undef,undef,undef,undef,undef] H2⟩⟩) := by kernel_rfl
theorem L56x0q (n0 : Nat) (s0 s1 s2 s3 s4 s5 s6 s7 s8 s9 s10 s11 s12 s13 s14 s15 s16 s17 s18 s19 s20 s21 s22 s23 s24 s25 s26 s27 s28 s29 s30 s31 s32 s33 s34 s35 s36 s37 s38 s39 : Value) (H : AHeap) (k : Value → AHeap → Prop) :
 L56x0 (n0 + 1) k [s0,s1,s2,s3,s4,s5,s6,s7,s8,s9,s10,s11,s12,s13,s14,s15,s16,s17,s18,s19,s20,s21,s22,s23,s24,s25,s26,s27,s28,s29,s30,s31,s32,s33,s34,s35,s36,s37,s38,s39] H = (@bnd (aBin2
 prog H .lss 3 (.tmp 11) (.tmp 10) s11 s10) ⟨fun v12x4 => @kifB v12x4 ⟨@bnd (aIndexAddr prog H 48 s9 s11) ⟨fun v13x5 => @bnd (aLoad prog H 52 v13x5) ⟨fun v14x6 => @bndE (aAlloc prog H 52) ⟨fun v5x7 H8 => @bndS
 (aStore prog H8 52 v5x7 v14x6) ⟨fun _ H10 => @bnd (aFieldAddr prog H10 52 v5x7 1) ⟨fun v17x11 => @bnd (aLoad prog H10 5 v17x11) ⟨fun v18x12 => @bnd (aLookup prog H10 95 s3 v18x12 true) ⟨fun v19x13 => @bnd (tupV
 v19x13 0) ⟨fun v20x14 => @bnd (tupV v19x13 1) ⟨fun v21x15 => @bndE (aAlloc prog H10 99) ⟨fun v6x16 H17 => @bndS (aStore prog H17 99 v6x16 v20x14) ⟨fun _ H19 => @bnd (unV prog .not v21x15) ⟨fun v23x20 => @bnd (gif
 v23x20 false (aFieldAddr prog H19 52 v5x7 0) undef) ⟨fun v25x21 => @bnd (gif v23x20 false (aLoad prog H19 9 v25x21) undef) ⟨fun v26x22 => @bndG v23x20 false H19 ⟨fun v27x23 H24 => ACalls prog 21 [v26x22] H19 v27x23
 H24⟩ ⟨fun v27x23 H24 => @bnd (gif v23x20 false (unV prog .not v27x23) undef) ⟨fun v28x25 => @bnd (pickV v23x20 (.bool true) v28x25) ⟨fun v29x26 => @bnd (gif v29x26 false (aFieldAddr prog H24 52 v5x7 2) undef) ⟨fun
 v31x27 => @bnd (gif v29x26 false (aLoad prog H24 9 v31x27) undef) ⟨fun v32x28 => @bndG v29x26 false H24 ⟨fun v33x29 H30 => ACalls prog 68 [v32x28] H24 v33x29 H30⟩ ⟨fun v33x29 H30 => @bnd (gif v29x26 false (unV prog
 .not v33x29) undef) ⟨fun v34x31 => @bnd (pickV v29x26 (.bool true) v34x31) ⟨fun v35x32 => @kifB v35x32 ⟨k (.bool false) H30⟩ ⟨@bnd (aBin2 prog H30 .add 3 (.tmp 11) (.const (.int .i64 1)) s11 (.int .i64 1)) ⟨fun v36x33 =>
 L56x0 n0  k [s0,s1,s2,s3,s4,v5x7,v6x16,v21x15,s8,s9,s10,v36x33,v12x4,v13x5,v14x6,v19x13,s3,v17x11,v18x12,v19x13,v20x14,v21x15,v21x15,v23x20,v23x20,v25x21,v26x22,v27x23,v28x25,v29x26,v29x26,v31x27,
 v32x28,v33x29,v34x31,v35x32,v36x33,s37,s38,s39] H30⟩⟩⟩⟩⟩⟩⟩⟩⟩⟩⟩⟩⟩⟩⟩⟩⟩⟩⟩⟩⟩⟩⟩⟩⟩ ⟨@bnd (aLen prog H 48 s0) ⟨fun v38x34 => @bnd (aBin2 prog H .leq 3 (.tmp 38) (.const (.int .i64 6)) v38x34 (.int .i64 6)) ⟨fun v39x35
 => k v39x35 H⟩⟩⟩⟩) := by kernel_rfl
-- tocsin/expr.compares
theorem d57 (H : AHeap) (k : Value → AHeap → Prop) : kbody prog Try.f57 [] H k = (@bndL prog H 23 6 [(0,(.string { data := #[60] })),(1,(.string { data := #[60,61] })),(2,(.string { data := #[62] })),(3,(.string {
 data := #[62,61] })),(4,(.string { data := #[61,61] })),(5,(.string { data := #[33,61] }))] ⟨fun v1x1 H2 => k v1x1 H2⟩) := by kernel_rfl
-- tocsin/fixed.Sat
theorem d58 (a0 : Value) (H : AHeap) (k : Value → AHeap → Prop) : kbody prog Try.f58 [a0] H k = (@bndE (aBuiltin prog H Builtin.max #[2,2] [a0,(.int .i64 (-4611686018427387903))]) ⟨fun v4x1 H2 => @bndE (aBuiltin
 prog H2 Builtin.min #[2,2] [v4x1,(.int .i64 4611686018427387903)]) ⟨fun v5x3 H4 => k v5x3 H4⟩⟩) := by kernel_rfl
-- tocsin/tocsinref10.aggregate
theorem d59 (a0 : Value) (H : AHeap) (k : Value → AHeap → Prop) : kbody prog Try.f59 [a0] H k = (@bndL prog H 23 6 [(0,(.string { data := #[99,111,117,110,116] })),(1,(.string { data := #[115,117,109] })),(2,
 (.string { data := #[109,105,110] })),(3,(.string { data := #[109,97,120] })),(4,(.string { data := #[109,101,97,110] })),(5,(.string { data := #[108,97,115,116] }))] ⟨fun v3x1 H2 => @bnd (aIndexAddr prog H2
 23 v3x1 a0) ⟨fun v5x3 => @bnd (aLoad prog H2 9 v5x3) ⟨fun v6x4 => k v6x4 H2⟩⟩⟩) := by kernel_rfl
-- tocsin/tocsinref08.Print
def L60x0 (n : Nat) (k : Value → AHeap → Prop) (sl : List Value) (H : AHeap) : Prop := kit prog (cl (cl (cr (cl (cr (cr (cb Try.f60))))))) n (kblk 0 (kseq prog (cr (cr (cr (cb Try.f60)))) (kfin prog Try.f60 k)))
 .normal sl H
def S60x0 (n0 : Nat) (k : Value → AHeap → Prop) (sl : List Value) (H : AHeap) : Prop := kseq prog (cr (cl (cl (cr (cl (cl (cr (cl (cr (cr (cb Try.f60))))))))))) (kblk 1 (kseq prog (cr (cr (cl (cl (cr (cl (cr (cr (cb
 Try.f60))))))))) (kit prog (cl (cl (cr (cl (cr (cr (cb Try.f60))))))) n0 (kblk 0 (kseq prog (cr (cr (cr (cb Try.f60)))) (kfin prog Try.f60 k)))))) .normal sl H
theorem d60 (a0 : Value) (H : AHeap) (k : Value → AHeap → Prop) : kbody prog Try.f60 [a0] H k = (∃ n,L60x0 n  k [a0,undef,(.string { data := #[] }),(.string { data := #[123] }),(.int .i64 0),undef,undef,undef,undef,
 undef,undef,undef,undef,undef,undef,undef,undef,undef,undef,undef,undef,undef,undef,undef,undef,undef,undef,undef,undef,undef,undef,undef,undef,undef,undef,undef,undef,undef] H) := by kernel_rfl
theorem L60x0q (n0 : Nat) (s0 s1 s2 s3 s4 s5 s6 s7 s8 s9 s10 s11 s12 s13 s14 s15 s16 s17 s18 s19 s20 s21 s22 s23 s24 s25 s26 s27 s28 s29 s30 s31 s32 s33 s34 s35 s36 s37 : Value) (H : AHeap) (k : Value → AHeap → Prop) : L60x0 (n0
 + 1) k [s0,s1,s2,s3,s4,s5,s6,s7,s8,s9,s10,s11,s12,s13,s14,s15,s16,s17,s18,s19,s20,s21,s22,s23,s24,s25,s26,s27,s28,s29,s30,s31,s32,s33,s34,s35,s36,s37] H = (@bnd (aLen prog H 48 s0) ⟨fun
 v7x1 => @bnd (aBin2 prog H .lss 3 (.tmp 5) (.tmp 7) s4 v7x1) ⟨fun v8x2 => @kifB v8x2 ⟨@bnd (aBin2 prog H .gtr 3 (.tmp 11) (.const (.int .i64 0)) s4 (.int .i64 0)) ⟨fun v12x3 => @kifB v12x3 ⟨@bnd (aBin2 prog H .add 9
 (.tmp 13) (.const (.string { data := #[44] })) s3 (.string { data := #[44] })) ⟨fun v14x4 => S60x0 n0 k [s0,s1,s2,v14x4,s4,s4,s0,v7x1,v8x2,s9,s10,s4,v12x3,s3,v14x4,s15,s16,s17,s18,s19,s20,s21,s22,s23,
 s24,s25,s26,s27,s28,s29,s30,s31,s32,s33,s34,s35,s36,s37] H⟩⟩ ⟨S60x0 n0 k [s0,s1,s2,s3,s4,s4,s0,v7x1,v8x2,s9,s10,s4,v12x3,s13,s14,s15,s16,s17,s18,s19,s20,s21,s22,s23,s24,s25,s26,s27,s28,
 s29,s30,s31,s32,s33,s34,s35,s36,s37] H⟩⟩⟩ ⟨@bnd (aBin2 prog H .add 9 (.tmp 36) (.const (.string { data := #[125] })) s3 (.string { data := #[125] })) ⟨fun v37x5 => k v37x5 H⟩⟩⟩⟩) := by kernel_rfl
theorem S60x0q (n0 : Nat) (s0 s1 s2 s3 s4 s5 s6 s7 s8 s9 s10 s11 s12 s13 s14 s15 s16 s17 s18 s19 s20 s21 s22 s23 s24 s25 s26 s27 s28 s29 s30 s31 s32 s33 s34 s35 s36 s37 : Value) (H : AHeap) (k : Value → AHeap → Prop) : S60x0 n0 k
 [s0,s1,s2,s3,s4,s5,s6,s7,s8,s9,s10,s11,s12,s13,s14,s15,s16,s17,s18,s19,s20,s21,s22,s23,s24,s25,s26,s27,s28,s29,s30,s31,s32,s33,s34,s35,s36,s37] H = (@bnd (aIndexAddr prog H 48 s0 s4)
 ⟨fun v18x6 => @bnd (aFieldAddr prog H 52 v18x6 0) ⟨fun v19x7 => @bnd (aLoad prog H 9 v19x7) ⟨fun v20x8 => @bnd (aBin2 prog H .add 9 (.tmp 15) (.tmp 20) s3 v20x8) ⟨fun v21x9 => @bnd (aIndexAddr prog H 48 s0 s4)
 ⟨fun v24x10 => @bnd (aFieldAddr prog H 52 v24x10 1) ⟨fun v25x11 => @bnd (aLoad prog H 5 v25x11) ⟨fun v26x12 => @bndD false H ⟨fun v27x13 H14 => ACalls prog 69 [v26x12] H v27x13 H14⟩ ⟨fun v27x13 H14 => @bnd (aBin2
 prog H14 .add 9 (.tmp 21) (.tmp 27) v21x9 v27x13) ⟨fun v28x15 => @bnd (aIndexAddr prog H 48 s0 s4) ⟨fun v31x16 => @bnd (aFieldAddr prog H 52 v31x16 2) ⟨fun v32x17 => @bnd (aLoad prog H 9 v32x17) ⟨fun v33x18 =>
 @bndD false H14 ⟨fun v34x19 H20 => ACalls prog 70 [v33x18] H14 v34x19 H20⟩ ⟨fun v34x19 H20 => @bnd (aBin2 prog H20 .add 9 (.tmp 28) (.tmp 34) v28x15 v34x19) ⟨fun v35x21 => @bnd (aBin2 prog H20 .add 3 (.tmp 9)
 (.const (.int .i64 1)) s4 (.int .i64 1)) ⟨fun v10x22 => L60x0 n0  k [s0,s1,s2,v35x21,v10x22,s5,s6,s7,s8,s4,v10x22,s11,s12,s13,s14,s3,s0,s4,v18x6,v19x7,v20x8,v21x9,s0,s4,v24x10,v25x11,v26x12,v27x13,
 v28x15,s0,s4,v31x16,v32x17,v33x18,v34x19,v35x21,s36,s37] H20⟩⟩⟩⟩⟩⟩⟩⟩⟩⟩⟩⟩⟩⟩⟩) := by kernel_rfl
-- tocsin/tocsinref10.decimal
def L61x0 (n : Nat) (k : Value → AHeap → Prop) (sl : List Value) (H : AHeap) : Prop := kit prog (cl (cl (cl (cr (cr (cr (cb Try.f61))))))) n (kblk 0 (kseq prog (cr (cr (cr (cr (cb Try.f61))))) (kfin prog Try.f61 k)))
 .normal sl H
theorem d61 (a0 : Value) (H : AHeap) (k : Value → AHeap → Prop) : kbody prog Try.f61 [a0] H k = (@bnd (aBin2 prog H .lss 3 (.tmp 4) (.const (.int .i64 0)) a0 (.int .i64 0)) ⟨fun v5x1 => @kifB v5x1 ⟨k (.string { data :=
 #[45] }) H⟩ ⟨∃ n,L61x0 n  k [a0,undef,(.string { data := #[] }),(.string { data := #[] }),a0,v5x1,undef,undef,undef,undef,undef,undef,undef,undef,undef,undef,undef,undef,undef,undef,undef,undef,undef]
 H⟩⟩) := by kernel_rfl
theorem L61x0q (n0 : Nat) (s0 s1 s2 s3 s4 s5 s6 s7 s8 s9 s10 s11 s12 s13 s14 s15 s16 s17 s18 s19 s20 s21 s22 : Value) (H : AHeap) (k : Value → AHeap → Prop) : L61x0 (n0 + 1) k [s0,s1,s2,s3,s4,s5,s6,s7,s8,s9,s10,s11,
 s12,s13,s14,s15,s16,s17,s18,s19,s20,s21,s22] H = (@bnd (aBin2 prog H .gtr 3 (.tmp 6) (.const (.int .i64 0)) s0 (.int .i64 0)) ⟨fun v7x2 => @bnd (gif v7x2 false ((some s3)) undef) ⟨fun v9x3 => @bnd (gif v7x2 false
 (aBin2 prog H .eql 9 (.tmp 9) (.const (.string { data := #[] })) v9x3 (.string { data := #[] })) undef) ⟨fun v10x4 => @bnd (pickV v7x2 (.bool true) v10x4) ⟨fun v11x5 => @kifB v11x5 ⟨@bnd (aBin2 prog H .rem 3 (.tmp 12)
 (.const (.int .i64 10)) s0 (.int .i64 10)) ⟨fun v13x6 => @bnd (aBin2 prog H .add 3 (.const (.int .i64 48)) (.tmp 13) (.int .i64 48) v13x6) ⟨fun v14x7 => @bnd (convV prog H 3 5 v14x7) ⟨fun v15x8 => @bndL prog H 102 1
 [(0,v15x8)] ⟨fun v16x9 H10 => @bnd (convV prog H10 102 9 v16x9) ⟨fun v17x11 => @bnd (aBin2 prog H10 .add 9 (.tmp 17) (.tmp 18) v17x11 s3) ⟨fun v19x12 => @bnd (aBin2 prog H10 .quo 3 (.tmp 20) (.const (.int .i64 10))
 s0 (.int .i64 10)) ⟨fun v21x13 => L61x0 n0  k [v21x13,s1,s2,v19x12,s4,s5,s0,v7x2,v7x2,v9x3,v10x4,v11x5,s0,v13x6,v14x7,v15x8,v16x9,v17x11,s3,v19x12,s0,v21x13,s22] H10⟩⟩⟩⟩⟩⟩⟩⟩ ⟨k s3 H⟩⟩⟩⟩⟩) := by kernel_rfl
-- tocsin/tocsinref10.compare
theorem d62 (a0 : Value) (H : AHeap) (k : Value → AHeap → Prop) : kbody prog Try.f62 [a0] H k = (@bndL prog H 23 6 [(0,(.string { data := #[60] })),(1,(.string { data := #[60,61] })),(2,(.string { data := #[62] })),
 (3,(.string { data := #[62,61] })),(4,(.string { data := #[61,61] })),(5,(.string { data := #[33,61] }))] ⟨fun v3x1 H2 => @bnd (aIndexAddr prog H2 23 v3x1 a0) ⟨fun v5x3 => @bnd (aLoad prog H2 9 v5x3) ⟨fun v6x4
 => k v6x4 H2⟩⟩⟩) := by kernel_rfl
-- tocsin/tocsinref01.Print
def L63x0 (n : Nat) (k : Value → AHeap → Prop) (sl : List Value) (H : AHeap) : Prop := kit prog (cl (cl (cl (cr (cr (cr (cr (cr (cb Try.f63))))))))) n (kblk 0 (kseq prog (cr (cr (cr (cr (cr (cr (cb Try.f63))))))) (kfin
 prog Try.f63 k))) .normal sl H
def L63x1 (n : Nat) (k : Value → AHeap → Prop) (sl : List Value) (H : AHeap) : Prop := kit prog (cl (cl (cr (cl (cr (cr (cr (cr (cr (cr (cr (cr (cr (cb Try.f63)))))))))))))) n (kblk 2 (kseq prog (cr (cr (cr (cr (cr (cr
 (cr (cr (cr (cr (cb Try.f63))))))))))) (kfin prog Try.f63 k))) .normal sl H
theorem d63 (a0 : Value) (H : AHeap) (k : Value → AHeap → Prop) : kbody prog Try.f63 [a0] H k = (@bndC prog 71 [a0] H ⟨fun v8x1 H2 => @bnd (aBin2 prog H2 .lss 2 (.tmp 9) (.const (.int .i64 0)) v8x1 (.int .i64 0)) ⟨fun
 v10x3 => @kifB v10x3 ⟨@bnd (unV prog .neg v8x1) ⟨fun v12x4 => @bndC prog 63 [v12x4] H2 ⟨fun v13x5 H6 => @bnd (aBin2 prog H6 .add 9 (.const (.string { data := #[45] })) (.tmp 13) (.string { data := #[45] }) v13x5)
 ⟨fun v14x7 => k v14x7 H6⟩⟩⟩⟩ ⟨@bnd (aBin2 prog H2 .quo 2 (.tmp 15) (.const (.int .i64 1000)) v8x1 (.int .i64 1000)) ⟨fun v16x8 => ∃ n,L63x0 n  k [v8x1,undef,(.string { data := #[] }),(.string { data := #[] }),v16x8,
 undef,undef,a0,v8x1,v8x1,v10x3,undef,undef,undef,undef,v8x1,v16x8,undef,undef,undef,undef,undef,undef,undef,undef,undef,undef,undef,undef,undef,undef,undef,undef,undef,undef,undef,undef,undef,
 undef,undef,undef,undef,undef,undef,undef,undef,undef,undef,undef,undef,undef,undef,undef,undef,undef,undef,undef] H2⟩⟩⟩⟩) := by kernel_rfl
theorem L63x0q (n0 : Nat) (s0 s1 s2 s3 s4 s5 s6 s7 s8 s9 s10 s11 s12 s13 s14 s15 s16 s17 s18 s19 s20 s21 s22 s23 s24 s25 s26 s27 s28 s29 s30 s31 s32 s33 s34 s35 s36 s37 s38 s39 s40 s41 s42 s43 s44 s45 s46 s47 s48 s49 s50 s51 s52
 s53 s54 s55 s56 : Value) (H : AHeap) (k : Value → AHeap → Prop) : L63x0 (n0 + 1) k [s0,s1,s2,s3,s4,s5,s6,s7,s8,s9,s10,s11,s12,s13,s14,s15,s16,s17,s18,s19,s20,s21,s22,s23,s24,s25,s26,s27,s28,s29,
 s30,s31,s32,s33,s34,s35,s36,s37,s38,s39,s40,s41,s42,s43,s44,s45,s46,s47,s48,s49,s50,s51,s52,s53,s54,s55,s56] H = (@bnd (aBin2 prog H .gtr 2 (.tmp 17) (.const (.int .i64 0)) s4 (.int .i64 0)) ⟨fun
 v18x9 => @bnd (gif v18x9 false ((some s3)) undef) ⟨fun v20x10 => @bnd (gif v18x9 false (aBin2 prog H .eql 9 (.tmp 20) (.const (.string { data := #[] })) v20x10 (.string { data := #[] })) undef) ⟨fun v21x11 => @bnd (pickV
 v18x9 (.bool true) v21x11) ⟨fun v22x12 => @kifB v22x12 ⟨@bnd (aBin2 prog H .rem 2 (.tmp 23) (.const (.int .i64 10)) s4 (.int .i64 10)) ⟨fun v24x13 => @bnd (aBin2 prog H .add 2 (.const (.int .i64 48)) (.tmp 24) (.int
 .i64 48) v24x13) ⟨fun v25x14 => @bnd (convV prog H 2 5 v25x14) ⟨fun v26x15 => @bndL prog H 102 1 [(0,v26x15)] ⟨fun v27x16 H17 => @bnd (convV prog H17 102 9 v27x16) ⟨fun v28x18 => @bnd (aBin2 prog H17 .add 9
 (.tmp 28) (.tmp 29) v28x18 s3) ⟨fun v30x19 => @bnd (aBin2 prog H17 .quo 2 (.tmp 31) (.const (.int .i64 10)) s4 (.int .i64 10)) ⟨fun v32x20 => L63x0 n0  k [s0,s1,s2,v30x19,v32x20,s5,s6,s7,s8,s9,s10,s11,s12,s13,
 s14,s15,s16,s4,v18x9,v18x9,v20x10,v21x11,v22x12,s4,v24x13,v25x14,v26x15,v27x16,v28x18,s3,v30x19,s4,v32x20,s33,s34,s35,s36,s37,s38,s39,s40,s41,s42,s43,s44,s45,s46,s47,s48,s49,s50,s51,s52,
 s53,s54,s55,s56] H17⟩⟩⟩⟩⟩⟩⟩⟩ ⟨@bnd (aBin2 prog H .rem 2 (.tmp 33) (.const (.int .i64 1000)) s0 (.int .i64 1000)) ⟨fun v34x21 => @bnd (aBin2 prog H .eql 2 (.tmp 35) (.const (.int .i64 0)) v34x21 (.int .i64 0)) ⟨fun
 v36x22 => @kifB v36x22 ⟨k s3 H⟩ ⟨@bnd (aBin2 prog H .add 9 (.tmp 38) (.const (.string { data := #[46] })) s3 (.string { data := #[46] })) ⟨fun v39x23 => ∃ n,L63x1 n  k [s0,s1,s2,v39x23,s4,v34x21,(.int .i64 100),s7,
 s8,s9,s10,s11,s12,s13,s14,s15,s16,s4,v18x9,v18x9,v20x10,v21x11,v22x12,s23,s24,s25,s26,s27,s28,s29,s30,s31,s32,s0,v34x21,v34x21,v36x22,s37,s3,v39x23,s40,s41,s42,s43,s44,s45,s46,s47,s48,
 s49,s50,s51,s52,s53,s54,s55,s56] H⟩⟩⟩⟩⟩⟩⟩⟩⟩) := by kernel_rfl
theorem L63x1q (n1 : Nat) (s0 s1 s2 s3 s4 s5 s6 s7 s8 s9 s10 s11 s12 s13 s14 s15 s16 s17 s18 s19 s20 s21 s22 s23 s24 s25 s26 s27 s28 s29 s30 s31 s32 s33 s34 s35 s36 s37 s38 s39 s40 s41 s42 s43 s44 s45 s46 s47 s48 s49 s50 s51 s52
 s53 s54 s55 s56 : Value) (H : AHeap) (k : Value → AHeap → Prop) : L63x1 (n1 + 1) k [s0,s1,s2,s3,s4,s5,s6,s7,s8,s9,s10,s11,s12,s13,s14,s15,s16,s17,s18,s19,s20,s21,s22,s23,s24,s25,s26,s27,s28,s29,
 s30,s31,s32,s33,s34,s35,s36,s37,s38,s39,s40,s41,s42,s43,s44,s45,s46,s47,s48,s49,s50,s51,s52,s53,s54,s55,s56] H = (@bnd (aBin2 prog H .gtr 2 (.tmp 40) (.const (.int .i64 0)) s5 (.int .i64 0)) ⟨fun
 v41x24 => @kifB v41x24 ⟨@bnd (aBin2 prog H .quo 2 (.tmp 45) (.tmp 46) s5 s6) ⟨fun v47x25 => @bnd (aBin2 prog H .add 2 (.const (.int .i64 48)) (.tmp 47) (.int .i64 48) v47x25) ⟨fun v48x26 => @bnd (convV prog H 2 5
 v48x26) ⟨fun v49x27 => @bndL prog H 102 1 [(0,v49x27)] ⟨fun v50x28 H29 => @bnd (convV prog H29 102 9 v50x28) ⟨fun v51x30 => @bnd (aBin2 prog H29 .add 9 (.tmp 44) (.tmp 51) s3 v51x30) ⟨fun v52x31 => @bnd (aBin2
 prog H29 .rem 2 (.tmp 53) (.tmp 54) s5 s6) ⟨fun v55x32 => @bnd (aBin2 prog H29 .quo 2 (.tmp 42) (.const (.int .i64 10)) s6 (.int .i64 10)) ⟨fun v43x33 => L63x1 n1  k [s0,s1,s2,v52x31,s4,v55x32,v43x33,s7,s8,s9,
 s10,s11,s12,s13,s14,s15,s16,s17,s18,s19,s20,s21,s22,s23,s24,s25,s26,s27,s28,s29,s30,s31,s32,s33,s34,s35,s36,s37,s38,s39,s5,v41x24,s6,v43x33,s3,s5,s6,v47x25,v48x26,v49x27,v50x28,v51x30,
 v52x31,s5,s6,v55x32,s56] H29⟩⟩⟩⟩⟩⟩⟩⟩⟩ ⟨k s3 H⟩⟩) := by kernel_rfl
-- tocsin/tocsinref10.side
theorem d64 (a0 a1 a2 a3 : Value) (H : AHeap) (k : Value → AHeap → Prop) : kbody prog Try.f64 [a0,a1,a2,a3] H k = (@kifB a3 ⟨@bnd (aIndexAddr prog H 23 a1 a2) ⟨fun v12x1 => @bnd (aLoad prog H 9 v12x1) ⟨fun v13x2 =>
 @bnd (aBin2 prog H .add 9 (.const (.string { data := #[40] })) (.tmp 13) (.string { data := #[40] }) v13x2) ⟨fun v14x3 => @bnd (aBin2 prog H .add 9 (.tmp 14) (.const (.string { data := #[41] })) v14x3 (.string { data :=
 #[41] })) ⟨fun v15x4 => k v15x4 H⟩⟩⟩⟩⟩ ⟨@bnd (aIndexAddr prog H 23 a1 a2) ⟨fun v18x5 => @bnd (aLoad prog H 9 v18x5) ⟨fun v19x6 => k v19x6 H⟩⟩⟩) := by kernel_rfl
-- tocsin/tocsinref10.allTokens
def L65x0 (n : Nat) (k : Value → AHeap → Prop) (sl : List Value) (H : AHeap) : Prop := kit prog (cl (cl (cl (cr (cr (cr (cb Try.f65))))))) n (kblk 0 (kseq prog (cr (cr (cr (cr (cb Try.f65))))) (kfin prog Try.f65 k)))
 .normal sl H
def L65x1 (n : Nat) (n0 : Nat) (k : Value → AHeap → Prop) (sl : List Value) (H : AHeap) : Prop := kit prog (cl (cl (cl (cr (cr (cl (cr (cl (cl (cl (cr (cr (cr (cb Try.f65)))))))))))))) n (kblk 2 (kseq prog (cr (cr (cr (cl
 (cr (cl (cl (cl (cr (cr (cr (cb Try.f65)))))))))))) (kblk 1 (kit prog (cl (cl (cl (cr (cr (cr (cb Try.f65))))))) n0 (kblk 0 (kseq prog (cr (cr (cr (cr (cb Try.f65))))) (kfin prog Try.f65 k))))))) .normal sl H
def S65x0 (n1 : Nat) (n0 : Nat) (k : Value → AHeap → Prop) (sl : List Value) (H : AHeap) : Prop := kseq prog (cr (cl (cr (cl (cl (cl (cr (cr (cl (cr (cl (cl (cl (cr (cr (cr (cb Try.f65))))))))))))))))) (kblk 3 (kit prog
 (cl (cl (cl (cr (cr (cl (cr (cl (cl (cl (cr (cr (cr (cb Try.f65)))))))))))))) n1 (kblk 2 (kseq prog (cr (cr (cr (cl (cr (cl (cl (cl (cr (cr (cr (cb Try.f65)))))))))))) (kblk 1 (kit prog (cl (cl (cl (cr (cr (cr (cb
 Try.f65))))))) n0 (kblk 0 (kseq prog (cr (cr (cr (cr (cb Try.f65))))) (kfin prog Try.f65 k))))))))) .normal sl H
theorem d65 (a0 : Value) (H : AHeap) (k : Value → AHeap → Prop) : kbody prog Try.f65 [a0] H k = (∃ n,L65x0 n  k [a0,undef,(.slice none 0 0),(.int .i64 0),(.int .i64 0),(.slice none 0 0),(.int .i64 0),undef,undef,
 undef,undef,undef,undef,undef,undef,undef,undef,undef,undef,undef,undef,undef,undef,undef,undef,undef,undef,undef,undef,undef,undef,undef,undef,undef,undef,undef,undef,undef,undef,undef,undef,
 undef,undef,undef,undef,undef,undef,undef,undef,undef,undef,undef,undef,undef,undef,undef,undef,undef,undef,undef,undef,undef,undef,undef,undef,undef] H) := by kernel_rfl
theorem L65x0q (n0 : Nat) (s0 s1 s2 s3 s4 s5 s6 s7 s8 s9 s10 s11 s12 s13 s14 s15 s16 s17 s18 s19 s20 s21 s22 s23 s24 s25 s26 s27 s28 s29 s30 s31 s32 s33 s34 s35 s36 s37 s38 s39 s40 s41 s42 s43 s44 s45 s46 s47 s48 s49 s50 s51 s52
 s53 s54 s55 s56 s57 s58 s59 s60 s61 s62 s63 s64 s65 : Value) (H : AHeap) (k : Value → AHeap → Prop) : L65x0 (n0 + 1) k [s0,s1,s2,s3,s4,s5,s6,s7,s8,s9,s10,s11,s12,s13,s14,s15,s16,s17,s18,s19,s20,s21,s22,
 s23,s24,s25,s26,s27,s28,s29,s30,s31,s32,s33,s34,s35,s36,s37,s38,s39,s40,s41,s42,s43,s44,s45,s46,s47,s48,s49,s50,s51,s52,s53,s54,s55,s56,s57,s58,s59,s60,s61,s62,s63,s64,s65] H = (@bnd
 (aLen prog H 9 s0) ⟨fun v14x1 => @bnd (aBin2 prog H .lss 3 (.tmp 12) (.tmp 14) s6 v14x1) ⟨fun v15x2 => @kifB v15x2 ⟨∃ n,L65x1 n n0 k [s0,s1,s2,s3,s4,s5,s6,s6,(.bool false),s9,s10,s11,s6,s0,v14x1,v15x2,
 s6,s17,s18,s19,s20,s21,s22,s23,s24,s25,s26,s27,s28,s29,s30,s31,s32,s33,s34,s35,s36,s37,s38,s39,s40,s41,s42,s43,s44,s45,s46,s47,s48,s49,s50,s51,s52,s53,s54,s55,s56,s57,s58,s59,s60,
 s61,s62,s63,s64,s65] H⟩ ⟨k (.tuple #[s5,(.int .i64 0),(.int .i64 0)]) H⟩⟩⟩) := by kernel_rfl
theorem L65x1q (n1 : Nat) (n0 : Nat) (s0 s1 s2 s3 s4 s5 s6 s7 s8 s9 s10 s11 s12 s13 s14 s15 s16 s17 s18 s19 s20 s21 s22 s23 s24 s25 s26 s27 s28 s29 s30 s31 s32 s33 s34 s35 s36 s37 s38 s39 s40 s41 s42 s43 s44 s45 s46 s47 s48 s49
 s50 s51 s52 s53 s54 s55 s56 s57 s58 s59 s60 s61 s62 s63 s64 s65 : Value) (H : AHeap) (k : Value → AHeap → Prop) : L65x1 (n1 + 1) n0 k [s0,s1,s2,s3,s4,s5,s6,s7,s8,s9,s10,s11,s12,s13,s14,s15,s16,s17,s18,s19,
 s20,s21,s22,s23,s24,s25,s26,s27,s28,s29,s30,s31,s32,s33,s34,s35,s36,s37,s38,s39,s40,s41,s42,s43,s44,s45,s46,s47,s48,s49,s50,s51,s52,s53,s54,s55,s56,s57,s58,s59,s60,s61,s62,s63,s64,
 s65] H = (@bnd (aLen prog H 9 s0) ⟨fun v19x3 => @bnd (aBin2 prog H .lss 3 (.tmp 17) (.tmp 19) s7 v19x3) ⟨fun v20x4 => @bnd (gif v20x4 true ((some s8)) undef) ⟨fun v22x5 => @bnd (gif v20x4 true ((some v22x5)) undef) ⟨fun
 v23x6 => @bnd (gif v23x6 false ((some s0)) undef) ⟨fun v24x7 => @bnd (gif v23x6 false ((some s7)) undef) ⟨fun v25x8 => @bnd (gif v23x6 false (aIndex prog 9 v24x7 v25x8) undef) ⟨fun v26x9 => @bnd (gif v23x6 false (aBin2
 prog H .neq 5 (.tmp 26) (.const (.int .u8 32)) v26x9 (.int .u8 32)) undef) ⟨fun v27x10 => @bnd (gif v20x4 true (pickV v23x6 (.bool true) v27x10) undef) ⟨fun v28x11 => @bnd (pickV v20x4 v28x11 (.bool false)) ⟨fun v29x12 =>
 @kifB v29x12 ⟨@bnd (aIndex prog 9 s0 s7) ⟨fun v32x13 => @bnd (aBin2 prog H .eql 5 (.tmp 32) (.const (.int .u8 92)) v32x13 (.int .u8 92)) ⟨fun v33x14 => @kifB v33x14 ⟨@bnd (aBin2 prog H .add 3 (.tmp 34) (.const (.int
 .i64 1)) s7 (.int .i64 1)) ⟨fun v35x15 => S65x0 n1 n0 k [s0,s1,s2,s3,s4,s5,s6,v35x15,s8,s9,s10,s11,s12,s13,s14,s15,s16,s7,s0,v19x3,v20x4,v20x4,v22x5,v23x6,v24x7,v25x8,v26x9,v27x10,v28x11,v29x12,s0,
 s7,v32x13,v33x14,s7,v35x15,s36,s37,s38,s39,s40,s41,s42,s43,s44,s45,s46,s47,s48,s49,s50,s51,s52,s53,s54,s55,s56,s57,s58,s59,s60,s61,s62,s63,s64,s65] H⟩⟩ ⟨@bnd (aIndex prog 9 s0 s7) ⟨fun
 v38x16 => @bnd (aBin2 prog H .eql 5 (.tmp 38) (.const (.int .u8 34)) v38x16 (.int .u8 34)) ⟨fun v39x17 => @kifB v39x17 ⟨@bnd (unV prog .not s8) ⟨fun v41x18 => S65x0 n1 n0 k [s0,s1,s2,s3,s4,s5,s6,s7,v41x18,s9,
 s10,s11,s12,s13,s14,s15,s16,s7,s0,v19x3,v20x4,v20x4,v22x5,v23x6,v24x7,v25x8,v26x9,v27x10,v28x11,v29x12,s0,s7,v32x13,v33x14,s34,s35,s0,s7,v38x16,v39x17,s8,v41x18,s42,s43,s44,s45,s46,s47,s48,
 s49,s50,s51,s52,s53,s54,s55,s56,s57,s58,s59,s60,s61,s62,s63,s64,s65] H⟩⟩ ⟨S65x0 n1 n0 k [s0,s1,s2,s3,s4,s5,s6,s7,s8,s9,s10,s11,s12,s13,s14,s15,s16,s7,s0,v19x3,v20x4,v20x4,v22x5,v23x6,
 v24x7,v25x8,v26x9,v27x10,v28x11,v29x12,s0,s7,v32x13,v33x14,s34,s35,s0,s7,v38x16,v39x17,s40,s41,s42,s43,s44,s45,s46,s47,s48,s49,s50,s51,s52,s53,s54,s55,s56,s57,s58,s59,s60,s61,s62,s63,s64,
 s65] H⟩⟩⟩⟩⟩⟩⟩ ⟨@bnd (aLen prog H 9 s0) ⟨fun v46x19 => @bnd (aBin2 prog H .gtr 3 (.tmp 44) (.tmp 46) s7 v46x19) ⟨fun v47x20 => @kifB v47x20 ⟨k (.tuple #[(.slice none 0 0),(.int .i64 0),(.int .i64 1)]) H⟩ ⟨@bnd
 (aSliceOp prog H 9 s0 (some s6) (some s7)) ⟨fun v52x21 => @bndC prog 72 [v52x21] H ⟨fun v53x22 H23 => @bnd (tupV v53x22 0) ⟨fun v54x24 => @bnd (tupV v53x22 1) ⟨fun v55x25 => @bnd (tupV v53x22 2) ⟨fun v56x26 => @bnd
 (aBin2 prog H23 .neq 3 (.tmp 57) (.const (.int .i64 0)) v56x26 (.int .i64 0)) ⟨fun v58x27 => @kifB v58x27 ⟨k (.tuple #[(.slice none 0 0),(.int .i64 0),v56x26]) H23⟩ ⟨@bndE (aBuiltin prog H23 Builtin.append #[90,90]
 [s5,v54x24]) ⟨fun v62x28 H29 => @bnd (aBin2 prog H29 .add 3 (.tmp 63) (.const (.int .i64 1)) s7 (.int .i64 1)) ⟨fun v64x30 => L65x0 n0  k [s0,s1,s2,s3,s4,v62x28,v64x30,s7,s8,v54x24,v55x25,v56x26,s12,s13,s14,
 s15,s16,s7,s0,v19x3,v20x4,v20x4,v22x5,v23x6,v24x7,v25x8,v26x9,v27x10,v28x11,v29x12,s30,s31,s32,s33,s34,s35,s36,s37,s38,s39,s40,s41,s42,s43,s7,s0,v46x19,v47x20,v53x22,s0,s6,s7,v52x21,v53x22,
 v54x24,v55x25,v56x26,v56x26,v58x27,s59,s5,v54x24,v62x28,s7,v64x30,s65] H29⟩⟩⟩⟩⟩⟩⟩⟩⟩⟩⟩⟩⟩⟩⟩⟩⟩⟩⟩⟩⟩⟩⟩) := by kernel_rfl
theorem S65x0q (n1 : Nat) (n0 : Nat) (s0 s1 s2 s3 s4 s5 s6 s7 s8 s9 s10 s11 s12 s13 s14 s15 s16 s17 s18 s19 s20 s21 s22 s23 s24 s25 s26 s27 s28 s29 s30 s31 s32 s33 s34 s35 s36 s37 s38 s39 s40 s41 s42 s43 s44 s45 s46 s47 s48 s49
 s50 s51 s52 s53 s54 s55 s56 s57 s58 s59 s60 s61 s62 s63 s64 s65 : Value) (H : AHeap) (k : Value → AHeap → Prop) : S65x0 n1 n0 k [s0,s1,s2,s3,s4,s5,s6,s7,s8,s9,s10,s11,s12,s13,s14,s15,s16,s17,s18,s19,s20,
 s21,s22,s23,s24,s25,s26,s27,s28,s29,s30,s31,s32,s33,s34,s35,s36,s37,s38,s39,s40,s41,s42,s43,s44,s45,s46,s47,s48,s49,s50,s51,s52,s53,s54,s55,s56,s57,s58,s59,s60,s61,s62,s63,s64,s65] H
 = (@bnd (aBin2 prog H .add 3 (.tmp 42) (.const (.int .i64 1)) s7 (.int .i64 1)) ⟨fun v43x31 => L65x1 n1 n0 k [s0,s1,s2,s3,s4,s5,s6,v43x31,s8,s9,s10,s11,s12,s13,s14,s15,s16,s17,s18,s19,s20,s21,s22,s23,
 s24,s25,s26,s27,s28,s29,s30,s31,s32,s33,s34,s35,s36,s37,s38,s39,s40,s41,s7,v43x31,s44,s45,s46,s47,s48,s49,s50,s51,s52,s53,s54,s55,s56,s57,s58,s59,s60,s61,s62,s63,s64,s65] H⟩) := by
 kernel_rfl
end Go.Vi
namespace Go.Vi
open Go Go.Proofs Go.Proofs.Try
-- tocsin/tocsinref10.Condition
theorem d66 (a0 a1 a2 : Value) (H : AHeap) (k : Value → AHeap → Prop) : kbody prog Try.f66 [a0,a1,a2] H k = (@bndC prog 73 [a0,a1,a2,(.string { data := #[111,114] })] H ⟨fun v11x1 H2 => @bnd (tupV v11x1 0) ⟨fun
 v12x3 => @bnd (tupV v11x1 1) ⟨fun v13x4 => k (.tuple #[v12x3,v13x4]) H2⟩⟩⟩) := by kernel_rfl
-- tocsin/match.ops
theorem d67 (H : AHeap) (k : Value → AHeap → Prop) : kbody prog Try.f67 [] H k = (@bndE (some (Value.map (some H.length),H ++ [AObj.map []])) ⟨fun v1x1 H2 => @bnd (buildV prog 99 [(0,(.string { data := #[61] })),(1,
 (.func (.func 74) #[] #[]))]) ⟨fun v2x3 => @bndS (aUpdate prog H2 95 v1x1 (.int .u8 0) v2x3) ⟨fun _ H5 => @bnd (buildV prog 99 [(0,(.string { data := #[33,61] })),(1,(.func (.func 75) #[] #[]))]) ⟨fun v3x6 => @bndS
 (aUpdate prog H5 95 v1x1 (.int .u8 1) v3x6) ⟨fun _ H8 => @bnd (buildV prog 99 [(0,(.string { data := #[94,61] })),(1,(.func (.func 76) #[] #[]))]) ⟨fun v4x9 => @bndS (aUpdate prog H8 95 v1x1 (.int .u8 2) v4x9)
 ⟨fun _ H11 => k v1x1 H11⟩⟩⟩⟩⟩⟩⟩) := by kernel_rfl
-- tocsin/match.may
theorem d68 (a0 : Value) (H : AHeap) (k : Value → AHeap → Prop) : kbody prog Try.f68 [a0] H k = (@bnd (aBin2 prog H .eql 9 (.tmp 3) (.const (.string { data := #[] })) a0 (.string { data := #[] })) ⟨fun v4x1 => @bnd (gif
 v4x1 false ((some a0)) undef) ⟨fun v6x2 => @bndG v4x1 false H ⟨fun v7x3 H4 => ACalls prog 77 [v6x2] H v7x3 H4⟩ ⟨fun v7x3 H4 => @bnd (pickV v4x1 (.bool true) v7x3) ⟨fun v8x5 => k v8x5 H4⟩⟩⟩⟩) := by kernel_rfl
-- tocsin/tocsinref08.sign
theorem d69 (a0 : Value) (H : AHeap) (k : Value → AHeap → Prop) : kbody prog Try.f69 [a0] H k = (@bnd (aBin2 prog H .eql 5 (.tmp 3) (.const (.int .u8 1)) a0 (.int .u8 1)) ⟨fun v5x1 => @kifB v5x1 ⟨k (.string { data :=
 #[33,61] }) H⟩ ⟨@bnd (aBin2 prog H .eql 5 (.tmp 3) (.const (.int .u8 2)) a0 (.int .u8 2)) ⟨fun v7x2 => @kifB v7x2 ⟨k (.string { data := #[94,61] }) H⟩ ⟨k (.string { data := #[61] }) H⟩⟩⟩⟩) := by kernel_rfl
-- tocsin/tocsinref07.Quote
def L70x0 (n : Nat) (k : Value → AHeap → Prop) (sl : List Value) (H : AHeap) : Prop := kit prog (cl (cl (cr (cl (cr (cr (cb Try.f70))))))) n (kblk 0 (kseq prog (cr (cr (cr (cb Try.f70)))) (kfin prog Try.f70 k)))
 .normal sl H
def S70x0 (n0 : Nat) (k : Value → AHeap → Prop) (sl : List Value) (H : AHeap) : Prop := kseq prog (cr (cl (cl (cr (cl (cl (cr (cl (cr (cr (cb Try.f70))))))))))) (kblk 1 (kseq prog (cr (cr (cl (cl (cr (cl (cr (cr (cb
 Try.f70))))))))) (kit prog (cl (cl (cr (cl (cr (cr (cb Try.f70))))))) n0 (kblk 0 (kseq prog (cr (cr (cr (cb Try.f70)))) (kfin prog Try.f70 k)))))) .normal sl H
theorem d70 (a0 : Value) (H : AHeap) (k : Value → AHeap → Prop) : kbody prog Try.f70 [a0] H k = (∃ n,L70x0 n  k [a0,undef,(.string { data := #[] }),(.string { data := #[34] }),(.int .i64 0),undef,undef,undef,undef,
 undef,undef,undef,undef,undef,undef,undef,undef,undef,undef,undef,undef,undef,undef,undef,undef,undef,undef,undef,undef,undef,undef,undef] H) := by kernel_rfl
theorem L70x0q (n0 : Nat) (s0 s1 s2 s3 s4 s5 s6 s7 s8 s9 s10 s11 s12 s13 s14 s15 s16 s17 s18 s19 s20 s21 s22 s23 s24 s25 s26 s27 s28 s29 s30 s31 : Value) (H : AHeap) (k : Value → AHeap → Prop) : L70x0 (n0 + 1) k [s0,s1,s2,s3,
 s4,s5,s6,s7,s8,s9,s10,s11,s12,s13,s14,s15,s16,s17,s18,s19,s20,s21,s22,s23,s24,s25,s26,s27,s28,s29,s30,s31] H = (@bnd (aLen prog H 9 s0) ⟨fun v7x1 => @bnd (aBin2 prog H .lss 3 (.tmp 5) (.tmp 7)
 s4 v7x1) ⟨fun v8x2 => @kifB v8x2 ⟨@bnd (aIndex prog 9 s0 s4) ⟨fun v13x3 => @bnd (aBin2 prog H .eql 5 (.tmp 13) (.const (.int .u8 34)) v13x3 (.int .u8 34)) ⟨fun v14x4 => @bnd (gif v14x4 false ((some s0)) undef) ⟨fun
 v16x5 => @bnd (gif v14x4 false ((some s4)) undef) ⟨fun v17x6 => @bnd (gif v14x4 false (aIndex prog 9 v16x5 v17x6) undef) ⟨fun v18x7 => @bnd (gif v14x4 false (aBin2 prog H .eql 5 (.tmp 18) (.const (.int .u8 92)) v18x7
 (.int .u8 92)) undef) ⟨fun v19x8 => @bnd (pickV v14x4 (.bool true) v19x8) ⟨fun v20x9 => @kifB v20x9 ⟨@bnd (aBin2 prog H .add 9 (.tmp 21) (.const (.string { data := #[92] })) s3 (.string { data := #[92] })) ⟨fun v22x10 =>
 S70x0 n0 k [s0,s1,s2,v22x10,s4,s4,s0,v7x1,v8x2,s9,s10,s0,s4,v13x3,v14x4,v14x4,v16x5,v17x6,v18x7,v19x8,v20x9,s3,v22x10,s23,s24,s25,s26,s27,s28,s29,s30,s31] H⟩⟩ ⟨S70x0 n0 k [s0,s1,s2,s3,s4,s4,
 s0,v7x1,v8x2,s9,s10,s0,s4,v13x3,v14x4,v14x4,v16x5,v17x6,v18x7,v19x8,v20x9,s21,s22,s23,s24,s25,s26,s27,s28,s29,s30,s31] H⟩⟩⟩⟩⟩⟩⟩⟩⟩ ⟨@bnd (aBin2 prog H .add 9 (.tmp 30) (.const (.string { data :=
 #[34] })) s3 (.string { data := #[34] })) ⟨fun v31x11 => k v31x11 H⟩⟩⟩⟩) := by kernel_rfl
theorem S70x0q (n0 : Nat) (s0 s1 s2 s3 s4 s5 s6 s7 s8 s9 s10 s11 s12 s13 s14 s15 s16 s17 s18 s19 s20 s21 s22 s23 s24 s25 s26 s27 s28 s29 s30 s31 : Value) (H : AHeap) (k : Value → AHeap → Prop) : S70x0 n0 k [s0,s1,s2,s3,s4,
 s5,s6,s7,s8,s9,s10,s11,s12,s13,s14,s15,s16,s17,s18,s19,s20,s21,s22,s23,s24,s25,s26,s27,s28,s29,s30,s31] H = (@bnd (aBin2 prog H .add 3 (.tmp 26) (.const (.int .i64 1)) s4 (.int .i64 1)) ⟨fun v27x12
 => @bnd (aSliceOp prog H 9 s0 (some s4) (some v27x12)) ⟨fun v28x13 => @bnd (aBin2 prog H .add 9 (.tmp 23) (.tmp 28) s3 v28x13) ⟨fun v29x14 => @bnd (aBin2 prog H .add 3 (.tmp 9) (.const (.int .i64 1)) s4 (.int .i64
 1)) ⟨fun v10x15 => L70x0 n0  k [s0,s1,s2,v29x14,v10x15,s5,s6,s7,s8,s4,v10x15,s11,s12,s13,s14,s15,s16,s17,s18,s19,s20,s21,s22,s3,s0,s4,s4,v27x12,v28x13,v29x14,s30,s31] H⟩⟩⟩⟩) := by kernel_rfl
-- tocsin/tocsinref01.Sat
theorem d71 (a0 : Value) (H : AHeap) (k : Value → AHeap → Prop) : kbody prog Try.f71 [a0] H k = (@bnd (aBin2 prog H .gtr 2 (.tmp 3) (.const (.int .i64 4611686018427387903)) a0 (.int .i64 4611686018427387903)) ⟨fun v4x1 =>
 @kifB v4x1 ⟨k (.int .i64 4611686018427387903) H⟩ ⟨@bnd (aBin2 prog H .lss 2 (.tmp 5) (.const (.int .i64 (-4611686018427387903))) a0 (.int .i64 (-4611686018427387903))) ⟨fun v6x2 => @kifB v6x2 ⟨k (.int .i64
 (-4611686018427387903)) H⟩ ⟨k a0 H⟩⟩⟩⟩) := by kernel_rfl
-- tocsin/tocsinref09.All
def L72x0 (n : Nat) (k : Value → AHeap → Prop) (sl : List Value) (H : AHeap) : Prop := kit prog (cl (cl (cl (cr (cr (cr (cr (cb Try.f72)))))))) n (kblk 0 (kseq prog (cr (cr (cr (cr (cr (cb Try.f72)))))) (kfin prog
 Try.f72 k))) .normal sl H
def L72x1 (n : Nat) (n0 : Nat) (k : Value → AHeap → Prop) (sl : List Value) (H : AHeap) : Prop := kit prog (cl (cl (cl (cl (cr (cl (cr (cl (cr (cl (cl (cl (cr (cr (cr (cr (cb Try.f72))))))))))))))))) n (kblk 2 (kseq prog
 (cr (cl (cr (cl (cr (cl (cr (cl (cl (cl (cr (cr (cr (cr (cb Try.f72))))))))))))))) (kseq prog (cr (cr (cl (cr (cl (cl (cl (cr (cr (cr (cr (cb Try.f72)))))))))))) (kblk 1 (kit prog (cl (cl (cl (cr (cr (cr (cr (cb
 Try.f72)))))))) n0 (kblk 0 (kseq prog (cr (cr (cr (cr (cr (cb Try.f72)))))) (kfin prog Try.f72 k)))))))) .normal sl H
theorem d72 (a0 : Value) (H : AHeap) (k : Value → AHeap → Prop) : kbody prog Try.f72 [a0] H k = (@bnd (aLen prog H 9 a0) ⟨fun v9x1 => @bnd (aBin2 prog H .gtr 3 (.tmp 9) (.const (.int .i64 4096)) v9x1 (.int .i64 4096))
 ⟨fun v10x2 => @kifB v10x2 ⟨k (.tuple #[(.slice none 0 0),(.int .i64 0),(.int .i64 3)]) H⟩ ⟨∃ n,L72x0 n  k [a0,undef,(.slice none 0 0),(.int .i64 0),(.int .i64 0),(.slice none 0 0),(.int .i64 0),undef,a0,v9x1,v10x2,
 undef,undef,undef,undef,undef,undef,undef,undef,undef,undef,undef,undef,undef,undef,undef,undef,undef,undef,undef,undef,undef,undef,undef,undef,undef,undef,undef,undef,undef,undef,undef,undef,
 undef,undef,undef,undef,undef,undef,undef,undef] H⟩⟩⟩) := by kernel_rfl
theorem L72x0q (n0 : Nat) (s0 s1 s2 s3 s4 s5 s6 s7 s8 s9 s10 s11 s12 s13 s14 s15 s16 s17 s18 s19 s20 s21 s22 s23 s24 s25 s26 s27 s28 s29 s30 s31 s32 s33 s34 s35 s36 s37 s38 s39 s40 s41 s42 s43 s44 s45 s46 s47 s48 s49 s50 : Value)
 (H : AHeap) (k : Value → AHeap → Prop) : L72x0 (n0 + 1) k [s0,s1,s2,s3,s4,s5,s6,s7,s8,s9,s10,s11,s12,s13,s14,s15,s16,s17,s18,s19,s20,s21,s22,s23,s24,s25,s26,s27,s28,s29,s30,s31,s32,s33,s34,
 s35,s36,s37,s38,s39,s40,s41,s42,s43,s44,s45,s46,s47,s48,s49,s50] H = (@bnd (aLen prog H 9 s0) ⟨fun v13x3 => @bnd (aBin2 prog H .lss 3 (.tmp 11) (.tmp 13) s6 v13x3) ⟨fun v14x4 => @kifB v14x4 ⟨@bnd (aIndex
 prog 9 s0 s6) ⟨fun v17x5 => @bndC prog 78 [v17x5] H ⟨fun v18x6 H7 => @kifB v18x6 ⟨@bnd (aBin2 prog H7 .add 3 (.tmp 19) (.const (.int .i64 1)) s6 (.int .i64 1)) ⟨fun v20x8 => L72x0 n0  k [s0,s1,s2,s3,s4,s5,
 v20x8,s7,s8,s9,s10,s6,s0,v13x3,v14x4,s0,s6,v17x5,v18x6,s6,v20x8,s21,s22,s23,s24,s25,s26,s27,s28,s29,s30,s31,s32,s33,s34,s35,s36,s37,s38,s39,s40,s41,s42,s43,s44,s45,s46,s47,s48,s49,
 s50] H7⟩⟩ ⟨@bnd (aIndex prog 9 s0 s6) ⟨fun v23x9 => @bnd (aBin2 prog H7 .eql 5 (.tmp 23) (.const (.int .u8 35)) v23x9 (.int .u8 35)) ⟨fun v24x10 => @kifB v24x10 ⟨∃ n,L72x1 n n0 k [s0,s1,s2,s3,s4,s5,s6,s7,s8,
 s9,s10,s6,s0,v13x3,v14x4,s0,s6,v17x5,v18x6,s19,s20,s0,s6,v23x9,v24x10,s25,s26,s27,s28,s29,s30,s31,s32,s33,s34,s35,s36,s37,s38,s39,s40,s41,s42,s43,s44,s45,s46,s47,s48,s49,s50] H7⟩ ⟨@bndC
 prog 79 [s0,s6] H7 ⟨fun v39x11 H12 => @bndE (aAlloc prog H12 105) ⟨fun v7x13 H14 => @bndS (aStore prog H14 105 v7x13 v39x11) ⟨fun _ H16 => @bnd (aFieldAddr prog H16 105 v7x13 0) ⟨fun v40x17 => @bnd (aLoad
 prog H16 5 v40x17) ⟨fun v41x18 => @bnd (aBin2 prog H16 .eql 5 (.tmp 41) (.const (.int .u8 0)) v41x18 (.int .u8 0)) ⟨fun v42x19 => @kifB v42x19 ⟨k (.tuple #[(.slice none 0 0),s6,(.int .i64 90)]) H16⟩ ⟨@bnd (aLoad
 prog H16 105 v7x13) ⟨fun v45x20 => @bndL prog H16 90 1 [(0,v45x20)] ⟨fun v46x21 H22 => @bndE (aBuiltin prog H22 Builtin.append #[90,90] [s5,v46x21]) ⟨fun v47x23 H24 => @bnd (aFieldAddr prog H24 105 v7x13 3)
 ⟨fun v48x25 => @bnd (aLoad prog H24 3 v48x25) ⟨fun v49x26 => L72x0 n0  k [s0,s1,s2,s3,s4,v47x23,v49x26,v7x13,s8,s9,s10,s6,s0,v13x3,v14x4,s0,s6,v17x5,v18x6,s19,s20,s0,s6,v23x9,v24x10,s25,s26,s27,
 s28,s29,s30,s31,s32,s33,s34,s35,s36,s0,s6,v39x11,v40x17,v41x18,v42x19,s43,s5,v45x20,v46x21,v47x23,v48x25,v49x26,s50] H24⟩⟩⟩⟩⟩⟩⟩⟩⟩⟩⟩⟩⟩⟩⟩⟩⟩⟩⟩ ⟨k (.tuple #[s5,(.int .i64 0),(.int .i64 0)]) H⟩⟩⟩) := by
 kernel_rfl
theorem L72x1q (n1 : Nat) (n0 : Nat) (s0 s1 s2 s3 s4 s5 s6 s7 s8 s9 s10 s11 s12 s13 s14 s15 s16 s17 s18 s19 s20 s21 s22 s23 s24 s25 s26 s27 s28 s29 s30 s31 s32 s33 s34 s35 s36 s37 s38 s39 s40 s41 s42 s43 s44 s45 s46 s47 s48 s49
 s50 : Value) (H : AHeap) (k : Value → AHeap → Prop) : L72x1 (n1 + 1) n0 k [s0,s1,s2,s3,s4,s5,s6,s7,s8,s9,s10,s11,s12,s13,s14,s15,s16,s17,s18,s19,s20,s21,s22,s23,s24,s25,s26,s27,s28,s29,s30,s31,
 s32,s33,s34,s35,s36,s37,s38,s39,s40,s41,s42,s43,s44,s45,s46,s47,s48,s49,s50] H = (@bnd (aLen prog H 9 s0) ⟨fun v27x27 => @bnd (aBin2 prog H .lss 3 (.tmp 25) (.tmp 27) s6 v27x27) ⟨fun v28x28 => @bnd
 (gif v28x28 true ((some s0)) undef) ⟨fun v30x29 => @bnd (gif v28x28 true ((some s6)) undef) ⟨fun v31x30 => @bnd (gif v28x28 true (aIndex prog 9 v30x29 v31x30) undef) ⟨fun v32x31 => @bnd (gif v28x28 true (aBin2 prog H
 .neq 5 (.tmp 32) (.const (.int .u8 10)) v32x31 (.int .u8 10)) undef) ⟨fun v33x32 => @bnd (pickV v28x28 v33x32 (.bool false)) ⟨fun v34x33 => @kifB v34x33 ⟨@bnd (aBin2 prog H .add 3 (.tmp 35) (.const (.int .i64 1)) s6 (.int
 .i64 1)) ⟨fun v36x34 => L72x1 n1 n0 k [s0,s1,s2,s3,s4,s5,v36x34,s7,s8,s9,s10,s11,s12,s13,s14,s15,s16,s17,s18,s19,s20,s21,s22,s23,s24,s6,s0,v27x27,v28x28,v28x28,v30x29,v31x30,v32x31,v33x32,
 v34x33,s6,v36x34,s37,s38,s39,s40,s41,s42,s43,s44,s45,s46,s47,s48,s49,s50] H⟩⟩ ⟨L72x0 n0  k [s0,s1,s2,s3,s4,s5,s6,s7,s8,s9,s10,s11,s12,s13,s14,s15,s16,s17,s18,s19,s20,s21,s22,s23,s24,s6,
 s0,v27x27,v28x28,v28x28,v30x29,v31x30,v32x31,v33x32,v34x33,s35,s36,s37,s38,s39,s40,s41,s42,s43,s44,s45,s46,s47,s48,s49,s50] H⟩⟩⟩⟩⟩⟩⟩⟩) := by kernel_rfl
-- tocsin/tocsinref10.row
def L73x0 (n : Nat) (k : Value → AHeap → Prop) (sl : List Value) (H : AHeap) : Prop := kit prog (cl (cl (cl (cr (cr (cb Try.f73)))))) n (kblk 0 (kseq prog (cr (cr (cr (cb Try.f73)))) (kfin prog Try.f73 k))) .normal sl
 H
def S73x0 (n0 : Nat) (k : Value → AHeap → Prop) (sl : List Value) (H : AHeap) : Prop := kseq prog (cr (cr (cr (cr (cr (cl (cr (cl (cl (cl (cr (cr (cb Try.f73))))))))))))) (kblk 1 (kit prog (cl (cl (cl (cr (cr (cb
 Try.f73)))))) n0 (kblk 0 (kseq prog (cr (cr (cr (cb Try.f73)))) (kfin prog Try.f73 k))))) .normal sl H
theorem d73 (a0 a1 a2 a3 : Value) (H : AHeap) (k : Value → AHeap → Prop) : kbody prog Try.f73 [a0,a1,a2,a3] H k = (@bndC prog 80 [a0,a1,a2,a3] H ⟨fun v21x1 H2 => @bnd (tupV v21x1 0) ⟨fun v22x3 => @bnd (tupV v21x1 1)
 ⟨fun v23x4 => ∃ n,L73x0 n  k [a0,a1,a2,a3,undef,undef,undef,undef,(.slice none 0 0),(.int .i64 0),v22x3,v23x4,undef,undef,undef,undef,v21x1,a0,a1,a2,a3,v21x1,v22x3,v23x4,undef,undef,undef,undef,
 undef,undef,undef,undef,undef,undef,undef,undef,undef,undef,undef,undef,undef,undef,undef,undef,undef,undef,undef,undef,undef,undef,undef,undef,undef,undef,undef,undef,undef,undef,undef,undef,
 undef,undef,undef,undef,undef,undef,undef,undef,undef] H2⟩⟩⟩) := by kernel_rfl
theorem L73x0q (n0 : Nat) (s0 s1 s2 s3 s4 s5 s6 s7 s8 s9 s10 s11 s12 s13 s14 s15 s16 s17 s18 s19 s20 s21 s22 s23 s24 s25 s26 s27 s28 s29 s30 s31 s32 s33 s34 s35 s36 s37 s38 s39 s40 s41 s42 s43 s44 s45 s46 s47 s48 s49 s50 s51 s52
 s53 s54 s55 s56 s57 s58 s59 s60 s61 s62 s63 s64 s65 s66 s67 s68 : Value) (H : AHeap) (k : Value → AHeap → Prop) : L73x0 (n0 + 1) k [s0,s1,s2,s3,s4,s5,s6,s7,s8,s9,s10,s11,s12,s13,s14,s15,s16,s17,s18,s19,s20,
 s21,s22,s23,s24,s25,s26,s27,s28,s29,s30,s31,s32,s33,s34,s35,s36,s37,s38,s39,s40,s41,s42,s43,s44,s45,s46,s47,s48,s49,s50,s51,s52,s53,s54,s55,s56,s57,s58,s59,s60,s61,s62,s63,s64,s65,
 s66,s67,s68] H = (@bnd (aBin2 prog H .geq 3 (.tmp 24) (.const (.int .i64 0)) s11 (.int .i64 0)) ⟨fun v25x5 => @bnd (gif v25x5 true ((some s0)) undef) ⟨fun v27x6 => @bnd (gif v25x5 true ((some s11)) undef) ⟨fun v28x7 =>
 @bnd (gif v25x5 true ((some s3)) undef) ⟨fun v29x8 => @bndG v25x5 true H ⟨fun v30x9 H10 => ACalls prog 81 [v27x6,v28x7,(.int .u8 1),v29x8] H v30x9 H10⟩ ⟨fun v30x9 H10 => @bnd (pickV v25x5 v30x9 (.bool false)) ⟨fun v31x11
 => @kifB v31x11 ⟨@bnd (aLen prog H10 22 s10) ⟨fun v34x12 => @bnd (aBin2 prog H10 .add 3 (.tmp 32) (.tmp 34) s2 v34x12) ⟨fun v35x13 => @bnd (aBin2 prog H10 .sub 3 (.tmp 35) (.const (.int .i64 1)) v35x13 (.int .i64
 1)) ⟨fun v36x14 => @bnd (aBin2 prog H10 .add 3 (.tmp 39) (.const (.int .i64 1)) s11 (.int .i64 1)) ⟨fun v40x15 => @bnd (aLen prog H10 22 s10) ⟨fun v43x16 => @bnd (aBin2 prog H10 .add 3 (.tmp 41) (.tmp 43) s2 v43x16)
 ⟨fun v44x17 => @bndC prog 80 [s0,v40x15,v44x17,s3] H10 ⟨fun v46x18 H19 => @bnd (tupV v46x18 0) ⟨fun v47x20 => @bnd (tupV v46x18 1) ⟨fun v48x21 => @bndE (aBuiltin prog H19 Builtin.append #[22,22] [s10,v47x20]) ⟨fun
 v51x22 H23 => @bnd (aLen prog H23 22 v51x22) ⟨fun v55x24 => @bnd (aBin2 prog H23 .add 3 (.tmp 53) (.tmp 55) s2 v55x24) ⟨fun v56x25 => @bnd (aBin2 prog H23 .sub 3 (.tmp 56) (.const (.int .i64 1)) v56x25 (.int .i64
 1)) ⟨fun v57x26 => @bnd (buildV prog 50 [(0,(.int .u8 2)),(6,v36x14),(7,v57x26)]) ⟨fun v58x27 => @bndE (aAlloc prog H23 50) ⟨fun v15x28 H29 => @bndS (aStore prog H29 50 v15x28 v58x27) ⟨fun _ H31 => @bnd (aBin2
 prog H31 .eql 9 (.tmp 59) (.const (.string { data := #[97,110,100] })) s3 (.string { data := #[97,110,100] })) ⟨fun v60x32 => @kifB v60x32 ⟨@bnd (aFieldAddr prog H31 50 v15x28 0) ⟨fun v61x33 => @bndS (aStore
 prog H31 5 v61x33 (.int .u8 1)) ⟨fun _ H35 => S73x0 n0 k [s0,s1,s2,s3,s4,s5,s6,s7,s8,s9,v51x22,s11,v36x14,v47x20,v48x21,v15x28,s16,s17,s18,s19,s20,s21,s22,s23,s11,v25x5,v25x5,v27x6,v28x7,v29x8,
 v30x9,v31x11,s2,s10,v34x12,v35x13,v36x14,v46x18,s0,s11,v40x15,s2,s10,v43x16,v44x17,s3,v46x18,v47x20,v48x21,s10,v47x20,v51x22,v36x14,s2,v51x22,v55x24,v56x25,v57x26,v58x27,s3,v60x32,v61x33,s62,
 s63,s64,s65,s66,s67,s68] H35⟩⟩⟩ ⟨S73x0 n0 k [s0,s1,s2,s3,s4,s5,s6,s7,s8,s9,v51x22,s11,v36x14,v47x20,v48x21,v15x28,s16,s17,s18,s19,s20,s21,s22,s23,s11,v25x5,v25x5,v27x6,v28x7,v29x8,v30x9,
 v31x11,s2,s10,v34x12,v35x13,v36x14,v46x18,s0,s11,v40x15,s2,s10,v43x16,v44x17,s3,v46x18,v47x20,v48x21,s10,v47x20,v51x22,v36x14,s2,v51x22,v55x24,v56x25,v57x26,v58x27,s3,v60x32,s61,s62,s63,s64,
 s65,s66,s67,s68] H31⟩⟩⟩⟩⟩⟩⟩⟩⟩⟩⟩⟩⟩⟩⟩⟩⟩⟩⟩ ⟨k (.tuple #[s10,s11]) H10⟩⟩⟩⟩⟩⟩⟩) := by kernel_rfl
theorem S73x0q (n0 : Nat) (s0 s1 s2 s3 s4 s5 s6 s7 s8 s9 s10 s11 s12 s13 s14 s15 s16 s17 s18 s19 s20 s21 s22 s23 s24 s25 s26 s27 s28 s29 s30 s31 s32 s33 s34 s35 s36 s37 s38 s39 s40 s41 s42 s43 s44 s45 s46 s47 s48 s49 s50 s51 s52
 s53 s54 s55 s56 s57 s58 s59 s60 s61 s62 s63 s64 s65 s66 s67 s68 : Value) (H : AHeap) (k : Value → AHeap → Prop) : S73x0 n0 k [s0,s1,s2,s3,s4,s5,s6,s7,s8,s9,s10,s11,s12,s13,s14,s15,s16,s17,s18,s19,s20,s21,
 s22,s23,s24,s25,s26,s27,s28,s29,s30,s31,s32,s33,s34,s35,s36,s37,s38,s39,s40,s41,s42,s43,s44,s45,s46,s47,s48,s49,s50,s51,s52,s53,s54,s55,s56,s57,s58,s59,s60,s61,s62,s63,s64,s65,s66,
 s67,s68] H = (@bnd (aLoad prog H 50 s15) ⟨fun v63x36 => @bndL prog H 22 1 [(0,v63x36)] ⟨fun v64x37 H38 => @bndE (aBuiltin prog H38 Builtin.append #[22,22] [s10,v64x37]) ⟨fun v65x39 H40 => L73x0 n0  k [s0,s1,
 s2,s3,s4,s5,s6,s7,s8,s9,v65x39,s14,s12,s13,s14,s15,s16,s17,s18,s19,s20,s21,s22,s23,s24,s25,s26,s27,s28,s29,s30,s31,s32,s33,s34,s35,s36,s37,s38,s39,s40,s41,s42,s43,s44,s45,s46,s47,
 s48,s49,s50,s51,s52,s53,s54,s55,s56,s57,s58,s59,s60,s61,s10,v63x36,v64x37,v65x39,s14,s67,s68] H40⟩⟩⟩) := by kernel_rfl
-- tocsin/labels.MayValue
theorem d77 (a0 : Value) (H : AHeap) (k : Value → AHeap → Prop) : kbody prog Try.f77 [a0] H k = (@bnd (aLen prog H 9 a0) ⟨fun v4x1 => @bnd (aBin2 prog H .geq 3 (.tmp 4) (.const (.int .i64 1)) v4x1 (.int .i64 1)) ⟨fun
 v5x2 => @bnd (gif v5x2 true ((some a0)) undef) ⟨fun v7x3 => @bnd (gif v5x2 true (aLen prog H 9 v7x3) undef) ⟨fun v8x4 => @bnd (gif v5x2 true (aBin2 prog H .leq 3 (.tmp 8) (.const (.int .i64 32)) v8x4 (.int .i64 32))
 undef) ⟨fun v9x5 => @bnd (pickV v5x2 v9x5 (.bool false)) ⟨fun v10x6 => @bnd (gif v10x6 true ((some a0)) undef) ⟨fun v12x7 => @bndG v10x6 true H ⟨fun v13x8 H9 => ACalls prog 42 [v12x7,(.func (.func 83) #[] #[])] H v13x8 H9⟩
 ⟨fun v13x8 H9 => @bnd (pickV v10x6 v13x8 (.bool false)) ⟨fun v14x10 => k v14x10 H9⟩⟩⟩⟩⟩⟩⟩⟩⟩) := by kernel_rfl
-- tocsin/tocsinref09.blank
theorem d78 (a0 : Value) (H : AHeap) (k : Value → AHeap → Prop) : kbody prog Try.f78 [a0] H k = (@bnd (aBin2 prog H .eql 5 (.tmp 3) (.const (.int .u8 32)) a0 (.int .u8 32)) ⟨fun v4x1 => @bnd (gif v4x1 false ((some a0))
 undef) ⟨fun v6x2 => @bnd (gif v4x1 false (aBin2 prog H .eql 5 (.tmp 6) (.const (.int .u8 9)) v6x2 (.int .u8 9)) undef) ⟨fun v7x3 => @bnd (pickV v4x1 (.bool true) v7x3) ⟨fun v8x4 => @bnd (gif v8x4 false ((some a0)) undef)
 ⟨fun v10x5 => @bnd (gif v8x4 false (aBin2 prog H .eql 5 (.tmp 10) (.const (.int .u8 10)) v10x5 (.int .u8 10)) undef) ⟨fun v11x6 => @bnd (pickV v8x4 (.bool true) v11x6) ⟨fun v12x7 => @bnd (gif v12x7 false ((some a0)) undef)
 ⟨fun v14x8 => @bnd (gif v12x7 false (aBin2 prog H .eql 5 (.tmp 14) (.const (.int .u8 13)) v14x8 (.int .u8 13)) undef) ⟨fun v15x9 => @bnd (pickV v12x7 (.bool true) v15x9) ⟨fun v16x10 => k v16x10 H⟩⟩⟩⟩⟩⟩⟩⟩⟩⟩) := by kernel_rfl
-- tocsin/tocsinref09.longest
def S79x0 (k : Value → AHeap → Prop) (sl : List Value) (H : AHeap) : Prop := kseq prog (cr (cr (cl (cr (cl (cr (cr (cb Try.f79)))))))) (kseq prog (cr (cr (cr (cb Try.f79)))) (kfin prog Try.f79 k)) .normal sl H
def L79x0 (n : Nat) (k : Value → AHeap → Prop) (sl : List Value) (H : AHeap) : Prop := kit prog (cl (cl (cr (cl (cr (cr (cr (cb Try.f79)))))))) n (kblk 0 (kseq prog (cr (cr (cr (cr (cb Try.f79))))) (kfin prog Try.f79
 k))) .normal sl H
def S79x1 (n0 : Nat) (k : Value → AHeap → Prop) (sl : List Value) (H : AHeap) : Prop := kseq prog (cr (cr (cl (cl (cr (cl (cl (cr (cl (cr (cr (cr (cb Try.f79))))))))))))) (kblk 1 (kseq prog (cr (cr (cl (cl (cr (cl (cr (cr
 (cr (cb Try.f79)))))))))) (kit prog (cl (cl (cr (cl (cr (cr (cr (cb Try.f79)))))))) n0 (kblk 0 (kseq prog (cr (cr (cr (cr (cb Try.f79))))) (kfin prog Try.f79 k)))))) .normal sl H
def S79x2 (k : Value → AHeap → Prop) (sl : List Value) (H : AHeap) : Prop := kseq prog (cr (cr (cr (cr (cb Try.f79))))) (kfin prog Try.f79 k) .normal sl H
def B79x0 (n0 : Nat) (k : Value → AHeap → Prop) (sl : List Value) (H : AHeap) : Prop := (kseq prog (cr (cl (cl (cr (cl (cr (cr (cr (cb Try.f79))))))))) (kit prog (cl (cl (cr (cl (cr (cr (cr (cb Try.f79)))))))) n0 (kblk 0
 (kseq prog (cr (cr (cr (cr (cb Try.f79))))) (kfin prog Try.f79 k))))) (.exit 0) sl H
def B79x1 (n0 : Nat) (k : Value → AHeap → Prop) (sl : List Value) (H : AHeap) : Prop := (kblk 1 (kseq prog (cr (cr (cl (cl (cr (cl (cr (cr (cr (cb Try.f79)))))))))) (kit prog (cl (cl (cr (cl (cr (cr (cr (cb
 Try.f79)))))))) n0 (kblk 0 (kseq prog (cr (cr (cr (cr (cb Try.f79))))) (kfin prog Try.f79 k)))))) (.exit 0) sl H
theorem B79x0q (n0 : Nat) (sl : List Value) (H : AHeap) (k : Value → AHeap → Prop) : B79x0 n0 k sl H = S79x2  k sl H := by kernel_rfl
theorem B79x1q (n0 : Nat) (sl : List Value) (H : AHeap) (k : Value → AHeap → Prop) : B79x1 n0 k sl H = S79x2  k sl H := by kernel_rfl
theorem d79 (a0 a1 : Value) (H : AHeap) (k : Value → AHeap → Prop) : kbody prog Try.f79 [a0,a1] H k = (@bndE (aAlloc prog H 105) ⟨fun v4x1 H2 => @bndE (aAlloc prog H2 105) ⟨fun v5x3 H4 => @bnd (aIndex prog 9 a0
 a1) ⟨fun v13x5 => @bnd (aBin2 prog H4 .eql 5 (.tmp 13) (.const (.int .u8 34)) v13x5 (.int .u8 34)) ⟨fun v14x6 => @kifB v14x6 ⟨@bnd (aSliceOp prog H4 9 a0 (some a1) none) ⟨fun v18x7 => @bndC prog 84 [v18x7] H4 ⟨fun
 v19x8 H9 => @bnd (tupV v19x8 0) ⟨fun v20x10 => @bnd (tupV v19x8 1) ⟨fun v21x11 => @bnd (aBin2 prog H9 .gtr 3 (.tmp 22) (.const (.int .i64 0)) v21x11 (.int .i64 0)) ⟨fun v23x12 => @bnd (gif v23x12 true ((some a0)) undef)
 ⟨fun v25x13 => @bnd (gif v23x12 true ((some a1)) undef) ⟨fun v26x14 => @bnd (gif v23x12 true ((some a1)) undef) ⟨fun v27x15 => @bnd (gif v23x12 true ((some v21x11)) undef) ⟨fun v28x16 => @bnd (gif v23x12 true (aBin2 prog H9
 .add 3 (.tmp 27) (.tmp 28) v27x15 v28x16) undef) ⟨fun v29x17 => @bnd (gif v23x12 true (aSliceOp prog H9 9 v25x13 (some v26x14) (some v29x17)) undef) ⟨fun v30x18 => @bndG v23x12 true H9 ⟨fun v31x19 H20 => ACalls prog 85
 [v30x18] H9 v31x19 H20⟩ ⟨fun v31x19 H20 => @bnd (pickV v23x12 v31x19 (.bool false)) ⟨fun v32x21 => @kifB v32x21 ⟨@bnd (aBin2 prog H20 .add 3 (.tmp 35) (.tmp 36) a1 v21x11) ⟨fun v37x22 => @bnd (buildV prog 105 [(0,(.int
 .u8 3)),(1,v20x10),(2,a1),(3,v37x22)]) ⟨fun v38x23 => @bndS (aStore prog H20 105 v5x3 v38x23) ⟨fun _ H25 => S79x0  k [a0,a1,undef,undef,v4x1,v5x3,v20x10,v21x11,undef,undef,undef,a0,a1,v13x5,v14x6,v19x8,
 a0,a1,v18x7,v19x8,v20x10,v21x11,v21x11,v23x12,v23x12,v25x13,v26x14,v27x15,v28x16,v29x17,v30x18,v31x19,v32x21,v20x10,a1,a1,v21x11,v37x22,v38x23,undef,undef,undef,undef,undef,undef,undef,undef,
 undef,undef,undef,undef,undef,undef,undef,undef,undef,undef,undef,undef,undef,undef,undef,undef,undef,undef,undef,undef,undef,undef,undef,undef,undef,undef,undef,undef,undef,undef,undef,undef,
 undef,undef,undef,undef,undef,undef] H25⟩⟩⟩⟩ ⟨S79x0  k [a0,a1,undef,undef,v4x1,v5x3,v20x10,v21x11,undef,undef,undef,a0,a1,v13x5,v14x6,v19x8,a0,a1,v18x7,v19x8,v20x10,v21x11,v21x11,v23x12,v23x12,
 v25x13,v26x14,v27x15,v28x16,v29x17,v30x18,v31x19,v32x21,undef,undef,undef,undef,undef,undef,undef,undef,undef,undef,undef,undef,undef,undef,undef,undef,undef,undef,undef,undef,undef,undef,undef,
 undef,undef,undef,undef,undef,undef,undef,undef,undef,undef,undef,undef,undef,undef,undef,undef,undef,undef,undef,undef,undef,undef,undef,undef,undef,undef,undef,undef,undef] H20⟩⟩⟩⟩⟩⟩⟩⟩⟩⟩⟩⟩⟩⟩⟩ ⟨@bnd
 (aBin2 prog H4 .add 3 (.tmp 40) (.const (.int .i64 1)) a1 (.int .i64 1)) ⟨fun v41x26 => ∃ n,L79x0 n  k [a0,a1,undef,undef,v4x1,v5x3,undef,undef,v41x26,undef,undef,a0,a1,v13x5,v14x6,undef,undef,undef,
 undef,undef,undef,undef,undef,undef,undef,undef,undef,undef,undef,undef,undef,undef,undef,undef,undef,undef,undef,undef,undef,undef,a1,v41x26,undef,undef,undef,undef,undef,undef,undef,undef,
 undef,undef,undef,undef,undef,undef,undef,undef,undef,undef,undef,undef,undef,undef,undef,undef,undef,undef,undef,undef,undef,undef,undef,undef,undef,undef,undef,undef,undef,undef,undef,undef,
 undef,undef,undef] H4⟩⟩⟩⟩⟩⟩) := by kernel_rfl
theorem S79x0q (s0 s1 s2 s3 s4 s5 s6 s7 s8 s9 s10 s11 s12 s13 s14 s15 s16 s17 s18 s19 s20 s21 s22 s23 s24 s25 s26 s27 s28 s29 s30 s31 s32 s33 s34 s35 s36 s37 s38 s39 s40 s41 s42 s43 s44 s45 s46 s47 s48 s49 s50 s51 s52 s53 s54 s55
 s56 s57 s58 s59 s60 s61 s62 s63 s64 s65 s66 s67 s68 s69 s70 s71 s72 s73 s74 s75 s76 s77 s78 s79 s80 s81 s82 s83 s84 : Value) (H : AHeap) (k : Value → AHeap → Prop) : S79x0 k [s0,s1,s2,s3,s4,s5,s6,s7,s8,s9,s10,s11,
 s12,s13,s14,s15,s16,s17,s18,s19,s20,s21,s22,s23,s24,s25,s26,s27,s28,s29,s30,s31,s32,s33,s34,s35,s36,s37,s38,s39,s40,s41,s42,s43,s44,s45,s46,s47,s48,s49,s50,s51,s52,s53,s54,s55,s56,
 s57,s58,s59,s60,s61,s62,s63,s64,s65,s66,s67,s68,s69,s70,s71,s72,s73,s74,s75,s76,s77,s78,s79,s80,s81,s82,s83,s84] H = (@bnd (aLoad prog H 105 s5) ⟨fun v39x27 => @bndS (aStore prog H 105 s4
 v39x27) ⟨fun _ H29 => ∃ r30,aLoad prog H29 105 s4 = some r30 ∧ k r30 H29⟩⟩) := by kernel_rfl
theorem L79x0q (n0 : Nat) (s0 s1 s2 s3 s4 s5 s6 s7 s8 s9 s10 s11 s12 s13 s14 s15 s16 s17 s18 s19 s20 s21 s22 s23 s24 s25 s26 s27 s28 s29 s30 s31 s32 s33 s34 s35 s36 s37 s38 s39 s40 s41 s42 s43 s44 s45 s46 s47 s48 s49 s50 s51 s52
 s53 s54 s55 s56 s57 s58 s59 s60 s61 s62 s63 s64 s65 s66 s67 s68 s69 s70 s71 s72 s73 s74 s75 s76 s77 s78 s79 s80 s81 s82 s83 s84 : Value) (H : AHeap) (k : Value → AHeap → Prop) : L79x0 (n0 + 1) k [s0,s1,s2,s3,s4,s5,s6,s7,
 s8,s9,s10,s11,s12,s13,s14,s15,s16,s17,s18,s19,s20,s21,s22,s23,s24,s25,s26,s27,s28,s29,s30,s31,s32,s33,s34,s35,s36,s37,s38,s39,s40,s41,s42,s43,s44,s45,s46,s47,s48,s49,s50,s51,s52,s53,
 s54,s55,s56,s57,s58,s59,s60,s61,s62,s63,s64,s65,s66,s67,s68,s69,s70,s71,s72,s73,s74,s75,s76,s77,s78,s79,s80,s81,s82,s83,s84] H = (@bnd (aLen prog H 9 s0) ⟨fun v44x31 => @bnd (aBin2 prog H
 .leq 3 (.tmp 42) (.tmp 44) s8 v44x31) ⟨fun v45x32 => @kifB v45x32 ⟨@bnd (aSliceOp prog H 9 s0 (some s1) (some s8)) ⟨fun v52x33 => @bndC prog 86 [v52x33] H ⟨fun v53x34 H35 => @bnd (tupV v53x34 0) ⟨fun v54x36 => @bnd
 (tupV v53x34 1) ⟨fun v55x37 => @bnd (aBin2 prog H35 .gtr 5 (.tmp 56) (.const (.int .u8 0)) v54x36 (.int .u8 0)) ⟨fun v57x38 => @kifB v57x38 ⟨@bnd (buildV prog 105 [(0,v54x36),(1,v55x37),(2,s1),(3,s8)]) ⟨fun
 v62x39 => @bndS (aStore prog H35 105 s5 v62x39) ⟨fun _ H41 => S79x1 n0 k [s0,s1,s2,s3,s4,s5,s6,s7,s8,v54x36,v55x37,s11,s12,s13,s14,s15,s16,s17,s18,s19,s20,s21,s22,s23,s24,s25,s26,s27,s28,s29,
 s30,s31,s32,s33,s34,s35,s36,s37,s38,s39,s40,s41,s8,s0,v44x31,v45x32,s46,s47,v53x34,s0,s1,s8,v52x33,v53x34,v54x36,v55x37,v54x36,v57x38,v54x36,v55x37,s1,s8,v62x39,s63,s64,s65,s66,s67,s68,
 s69,s70,s71,s72,s73,s74,s75,s76,s77,s78,s79,s80,s81,s82,s83,s84] H41⟩⟩⟩ ⟨S79x1 n0 k [s0,s1,s2,s3,s4,s5,s6,s7,s8,v54x36,v55x37,s11,s12,s13,s14,s15,s16,s17,s18,s19,s20,s21,s22,s23,s24,s25,
 s26,s27,s28,s29,s30,s31,s32,s33,s34,s35,s36,s37,s38,s39,s40,s41,s8,s0,v44x31,v45x32,s46,s47,v53x34,s0,s1,s8,v52x33,v53x34,v54x36,v55x37,v54x36,v57x38,s58,s59,s60,s61,s62,s63,s64,s65,s66,
 s67,s68,s69,s70,s71,s72,s73,s74,s75,s76,s77,s78,s79,s80,s81,s82,s83,s84] H35⟩⟩⟩⟩⟩⟩⟩ ⟨B79x0 n0 k [s0,s1,s2,s3,s4,s5,s6,s7,s8,s9,s10,s11,s12,s13,s14,s15,s16,s17,s18,s19,s20,s21,s22,s23,
 s24,s25,s26,s27,s28,s29,s30,s31,s32,s33,s34,s35,s36,s37,s38,s39,s40,s41,s8,s0,v44x31,v45x32,s46,s47,s48,s49,s50,s51,s52,s53,s54,s55,s56,s57,s58,s59,s60,s61,s62,s63,s64,s65,s66,s67,
 s68,s69,s70,s71,s72,s73,s74,s75,s76,s77,s78,s79,s80,s81,s82,s83,s84] H⟩⟩⟩) := by kernel_rfl
theorem S79x1q (n0 : Nat) (s0 s1 s2 s3 s4 s5 s6 s7 s8 s9 s10 s11 s12 s13 s14 s15 s16 s17 s18 s19 s20 s21 s22 s23 s24 s25 s26 s27 s28 s29 s30 s31 s32 s33 s34 s35 s36 s37 s38 s39 s40 s41 s42 s43 s44 s45 s46 s47 s48 s49 s50 s51 s52
 s53 s54 s55 s56 s57 s58 s59 s60 s61 s62 s63 s64 s65 s66 s67 s68 s69 s70 s71 s72 s73 s74 s75 s76 s77 s78 s79 s80 s81 s82 s83 s84 : Value) (H : AHeap) (k : Value → AHeap → Prop) : S79x1 n0 k [s0,s1,s2,s3,s4,s5,s6,s7,s8,
 s9,s10,s11,s12,s13,s14,s15,s16,s17,s18,s19,s20,s21,s22,s23,s24,s25,s26,s27,s28,s29,s30,s31,s32,s33,s34,s35,s36,s37,s38,s39,s40,s41,s42,s43,s44,s45,s46,s47,s48,s49,s50,s51,s52,s53,
 s54,s55,s56,s57,s58,s59,s60,s61,s62,s63,s64,s65,s66,s67,s68,s69,s70,s71,s72,s73,s74,s75,s76,s77,s78,s79,s80,s81,s82,s83,s84] H = (@bnd (aFieldAddr prog H 105 s5 0) ⟨fun v63x42 => @bnd (aLoad
 prog H 5 v63x42) ⟨fun v64x43 => @bnd (aBin2 prog H .gtr 5 (.tmp 64) (.const (.int .u8 0)) v64x43 (.int .u8 0)) ⟨fun v65x44 => @bnd (gif v65x44 true ((some s8)) undef) ⟨fun v67x45 => @bnd (gif v65x44 true (aFieldAddr
 prog H 105 s5 3) undef) ⟨fun v68x46 => @bnd (gif v65x44 true (aLoad prog H 3 v68x46) undef) ⟨fun v69x47 => @bnd (gif v65x44 true (aBin2 prog H .add 3 (.tmp 69) (.const (.int .i64 1)) v69x47 (.int .i64 1)) undef)
 ⟨fun v70x48 => @bnd (gif v65x44 true (aBin2 prog H .gtr 3 (.tmp 67) (.tmp 70) v67x45 v70x48) undef) ⟨fun v71x49 => @bnd (pickV v65x44 v71x49 (.bool false)) ⟨fun v72x50 => @bnd (gif v72x50 false (aFieldAddr prog H 105 s5
 0) undef) ⟨fun v74x51 => @bnd (gif v72x50 false (aLoad prog H 5 v74x51) undef) ⟨fun v75x52 => @bnd (gif v72x50 false (aBin2 prog H .eql 5 (.tmp 75) (.const (.int .u8 0)) v75x52 (.int .u8 0)) undef) ⟨fun v76x53 => @bnd
 (gif v72x50 false ((some v76x53)) undef) ⟨fun v77x54 => @bnd (gif v77x54 true ((some s8)) undef) ⟨fun v78x55 => @bnd (gif v77x54 true ((some s1)) undef) ⟨fun v79x56 => @bnd (gif v77x54 true (aBin2 prog H .add 3 (.tmp 79)
 (.const (.int .i64 2)) v79x56 (.int .i64 2)) undef) ⟨fun v80x57 => @bnd (gif v77x54 true (aBin2 prog H .gtr 3 (.tmp 78) (.tmp 80) v78x55 v80x57) undef) ⟨fun v81x58 => @bnd (gif v72x50 false (pickV v77x54 v81x58 (.bool
 false)) undef) ⟨fun v82x59 => @bnd (pickV v72x50 (.bool true) v82x59) ⟨fun v83x60 => @kifB v83x60 ⟨B79x1 n0 k [s0,s1,s2,s3,s4,s5,s6,s7,s8,s9,s10,s11,s12,s13,s14,s15,s16,s17,s18,s19,s20,s21,s22,s23,s24,
 s25,s26,s27,s28,s29,s30,s31,s32,s33,s34,s35,s36,s37,s38,s39,s40,s41,s42,s43,s44,s45,s46,s47,s48,s49,s50,s51,s52,s53,s54,s55,s56,s57,s58,s59,s60,s61,s62,v63x42,v64x43,v65x44,v65x44,
 v67x45,v68x46,v69x47,v70x48,v71x49,v72x50,v72x50,v74x51,v75x52,v76x53,v77x54,v78x55,v79x56,v80x57,v81x58,v82x59,v83x60,s84] H⟩ ⟨@bnd (aBin2 prog H .add 3 (.tmp 46) (.const (.int .i64 1)) s8 (.int .i64 1))
 ⟨fun v47x61 => L79x0 n0  k [s0,s1,s2,s3,s4,s5,s6,s7,v47x61,s9,s10,s11,s12,s13,s14,s15,s16,s17,s18,s19,s20,s21,s22,s23,s24,s25,s26,s27,s28,s29,s30,s31,s32,s33,s34,s35,s36,s37,s38,s39,s40,
 s41,s42,s43,s44,s45,s8,v47x61,s48,s49,s50,s51,s52,s53,s54,s55,s56,s57,s58,s59,s60,s61,s62,v63x42,v64x43,v65x44,v65x44,v67x45,v68x46,v69x47,v70x48,v71x49,v72x50,v72x50,v74x51,v75x52,v76x53,
 v77x54,v78x55,v79x56,v80x57,v81x58,v82x59,v83x60,s84] H⟩⟩⟩⟩⟩⟩⟩⟩⟩⟩⟩⟩⟩⟩⟩⟩⟩⟩⟩⟩⟩) := by kernel_rfl
theorem S79x2q (s0 s1 s2 s3 s4 s5 s6 s7 s8 s9 s10 s11 s12 s13 s14 s15 s16 s17 s18 s19 s20 s21 s22 s23 s24 s25 s26 s27 s28 s29 s30 s31 s32 s33 s34 s35 s36 s37 s38 s39 s40 s41 s42 s43 s44 s45 s46 s47 s48 s49 s50 s51 s52 s53 s54 s55
 s56 s57 s58 s59 s60 s61 s62 s63 s64 s65 s66 s67 s68 s69 s70 s71 s72 s73 s74 s75 s76 s77 s78 s79 s80 s81 s82 s83 s84 : Value) (H : AHeap) (k : Value → AHeap → Prop) : S79x2 k [s0,s1,s2,s3,s4,s5,s6,s7,s8,s9,s10,s11,
 s12,s13,s14,s15,s16,s17,s18,s19,s20,s21,s22,s23,s24,s25,s26,s27,s28,s29,s30,s31,s32,s33,s34,s35,s36,s37,s38,s39,s40,s41,s42,s43,s44,s45,s46,s47,s48,s49,s50,s51,s52,s53,s54,s55,s56,
 s57,s58,s59,s60,s61,s62,s63,s64,s65,s66,s67,s68,s69,s70,s71,s72,s73,s74,s75,s76,s77,s78,s79,s80,s81,s82,s83,s84] H = (@bnd (aLoad prog H 105 s5) ⟨fun v84x62 => @bndS (aStore prog H 105 s4
 v84x62) ⟨fun _ H64 => ∃ r65,aLoad prog H64 105 s4 = some r65 ∧ k r65 H64⟩⟩) := by kernel_rfl
end Go.Vi
namespace Go.Vi
open Go Go.Proofs Go.Proofs.Try
-- tocsin/tocsinref10.part
theorem d80 (a0 a1 a2 a3 : Value) (H : AHeap) (k : Value → AHeap → Prop) : kbody prog Try.f80 [a0,a1,a2,a3] H k = (@bnd (aBin2 prog H .eql 9 (.tmp 14) (.const (.string { data := #[111,114] })) a3 (.string { data :=
 #[111,114] })) ⟨fun v15x1 => @kifB v15x1 ⟨@bndC prog 73 [a0,a1,a2,(.string { data := #[97,110,100] })] H ⟨fun v19x2 H3 => @bnd (tupV v19x2 0) ⟨fun v20x4 => @bnd (tupV v19x2 1) ⟨fun v21x5 => k (.tuple #[v20x4,v21x5])
 H3⟩⟩⟩⟩ ⟨@bndC prog 81 [a0,a1,(.int .u8 1),(.string { data := #[110,111,116] })] H ⟨fun v24x6 H7 => @kifB v24x6 ⟨@bnd (aBin2 prog H7 .add 3 (.tmp 27) (.const (.int .i64 1)) a1 (.int .i64 1)) ⟨fun v28x8 => @bndC
 prog 80 [a0,v28x8,a2,(.string { data := #[97,110,100] })] H7 ⟨fun v30x9 H10 => @bnd (tupV v30x9 0) ⟨fun v31x11 => @bnd (tupV v30x9 1) ⟨fun v32x12 => @bnd (aBin2 prog H10 .lss 3 (.tmp 33) (.const (.int .i64 0))
 v32x12 (.int .i64 0)) ⟨fun v34x13 => @kifB v34x13 ⟨k (.tuple #[(.slice none 0 0),(.int .i64 (-1))]) H10⟩ ⟨@bnd (aLen prog H10 22 v31x11) ⟨fun v38x14 => @bnd (aBin2 prog H10 .add 3 (.tmp 36) (.tmp 38) a2 v38x14) ⟨fun
 v39x15 => @bnd (aBin2 prog H10 .sub 3 (.tmp 39) (.const (.int .i64 1)) v39x15 (.int .i64 1)) ⟨fun v40x16 => @bnd (buildV prog 50 [(0,(.int .u8 3)),(6,v40x16)]) ⟨fun v41x17 => @bndL prog H10 22 1 [(0,v41x17)]
 ⟨fun v42x18 H19 => @bndE (aBuiltin prog H19 Builtin.append #[22,22] [v31x11,v42x18]) ⟨fun v43x20 H21 => k (.tuple #[v43x20,v32x12]) H21⟩⟩⟩⟩⟩⟩⟩⟩⟩⟩⟩⟩⟩ ⟨@bndC prog 81 [a0,a1,(.int .u8 4),(.string { data := #[40] })]
 H7 ⟨fun v48x22 H23 => @kifB v48x22 ⟨@bnd (aBin2 prog H23 .add 3 (.tmp 51) (.const (.int .i64 1)) a1 (.int .i64 1)) ⟨fun v52x24 => @bndC prog 66 [a0,v52x24,a2] H23 ⟨fun v54x25 H26 => @bnd (tupV v54x25 0) ⟨fun v55x27 =>
 @bnd (tupV v54x25 1) ⟨fun v56x28 => @bnd (aBin2 prog H26 .lss 3 (.tmp 57) (.const (.int .i64 0)) v56x28 (.int .i64 0)) ⟨fun v58x29 => @bnd (gif v58x29 false ((some a0)) undef) ⟨fun v60x30 => @bnd (gif v58x29 false ((some
 v56x28)) undef) ⟨fun v61x31 => @bndG v58x29 false H26 ⟨fun v62x32 H33 => ACalls prog 81 [v60x30,v61x31,(.int .u8 4),(.string { data := #[41] })] H26 v62x32 H33⟩ ⟨fun v62x32 H33 => @bnd (gif v58x29 false (unV prog
 .not v62x32) undef) ⟨fun v63x34 => @bnd (pickV v58x29 (.bool true) v63x34) ⟨fun v64x35 => @kifB v64x35 ⟨k (.tuple #[(.slice none 0 0),(.int .i64 (-1))]) H33⟩ ⟨@bnd (aBin2 prog H33 .add 3 (.tmp 66) (.const (.int .i64 1))
 v56x28 (.int .i64 1)) ⟨fun v67x36 => k (.tuple #[v55x27,v67x36]) H33⟩⟩⟩⟩⟩⟩⟩⟩⟩⟩⟩⟩⟩ ⟨@bndC prog 87 [a0,a1] H23 ⟨fun v70x37 H38 => @bnd (tupV v70x37 0) ⟨fun v71x39 => @bnd (tupV v70x37 1) ⟨fun v72x40 => k (.tuple #[v71x39,
 v72x40]) H38⟩⟩⟩⟩⟩⟩⟩⟩⟩) := by kernel_rfl
-- tocsin/tocsinref10.is
theorem d81 (a0 a1 a2 a3 : Value) (H : AHeap) (k : Value → AHeap → Prop) : kbody prog Try.f81 [a0,a1,a2,a3] H k = (@bnd (aLen prog H 90 a0) ⟨fun v11x1 => @bnd (aBin2 prog H .lss 3 (.tmp 9) (.tmp 11) a1 v11x1) ⟨fun
 v12x2 => @bnd (gif v12x2 true ((some a0)) undef) ⟨fun v14x3 => @bnd (gif v12x2 true ((some a1)) undef) ⟨fun v15x4 => @bnd (gif v12x2 true (aIndexAddr prog H 90 v14x3 v15x4) undef) ⟨fun v16x5 => @bnd (gif v12x2 true
 (aFieldAddr prog H 105 v16x5 0) undef) ⟨fun v17x6 => @bnd (gif v12x2 true (aLoad prog H 5 v17x6) undef) ⟨fun v18x7 => @bnd (gif v12x2 true ((some a2)) undef) ⟨fun v19x8 => @bnd (gif v12x2 true (aBin2 prog H .eql 5
 (.tmp 18) (.tmp 19) v18x7 v19x8) undef) ⟨fun v20x9 => @bnd (pickV v12x2 v20x9 (.bool false)) ⟨fun v21x10 => @bnd (gif v21x10 true ((some a0)) undef) ⟨fun v23x11 => @bnd (gif v21x10 true ((some a1)) undef) ⟨fun v24x12 => @bnd
 (gif v21x10 true (aIndexAddr prog H 90 v23x11 v24x12) undef) ⟨fun v25x13 => @bnd (gif v21x10 true (aFieldAddr prog H 105 v25x13 1) undef) ⟨fun v26x14 => @bnd (gif v21x10 true (aLoad prog H 9 v26x14) undef) ⟨fun
 v27x15 => @bnd (gif v21x10 true ((some a3)) undef) ⟨fun v28x16 => @bnd (gif v21x10 true (aBin2 prog H .eql 9 (.tmp 27) (.tmp 28) v27x15 v28x16) undef) ⟨fun v29x17 => @bnd (gif v21x10 true ((some v29x17)) undef) ⟨fun v30x18
 => @bnd (gif v30x18 false ((some a3)) undef) ⟨fun v31x19 => @bnd (gif v30x18 false (aBin2 prog H .eql 9 (.tmp 31) (.const (.string { data := #[42] })) v31x19 (.string { data := #[42] })) undef) ⟨fun v32x20 => @bnd (gif
 v21x10 true (pickV v30x18 (.bool true) v32x20) undef) ⟨fun v33x21 => @bnd (pickV v21x10 v33x21 (.bool false)) ⟨fun v34x22 => k v34x22 H⟩⟩⟩⟩⟩⟩⟩⟩⟩⟩⟩⟩⟩⟩⟩⟩⟩⟩⟩⟩⟩⟩) := by kernel_rfl
-- tocsin/labels.sign
theorem d83 (a0 : Value) (H : AHeap) (k : Value → AHeap → Prop) : kbody prog Try.f83 [a0] H k = (@bnd (aBin2 prog H .geq 5 (.tmp 3) (.const (.int .u8 32)) a0 (.int .u8 32)) ⟨fun v4x1 => @bnd (gif v4x1 true ((some a0))
 undef) ⟨fun v6x2 => @bnd (gif v4x1 true (aBin2 prog H .leq 5 (.tmp 6) (.const (.int .u8 126)) v6x2 (.int .u8 126)) undef) ⟨fun v7x3 => @bnd (pickV v4x1 v7x3 (.bool false)) ⟨fun v8x4 => k v8x4 H⟩⟩⟩⟩) := by kernel_rfl
-- tocsin/tocsinref07.Quoted
def L84x0 (n : Nat) (k : Value → AHeap → Prop) (sl : List Value) (H : AHeap) : Prop := kit prog (cl (cl (cr (cl (cr (cr (cr (cb Try.f84)))))))) n (kblk 0 (kseq prog (cr (cr (cr (cr (cb Try.f84))))) (kfin prog Try.f84
 k))) .normal sl H
def S84x0 (n0 : Nat) (k : Value → AHeap → Prop) (sl : List Value) (H : AHeap) : Prop := kseq prog (cr (cr (cl (cl (cr (cl (cl (cr (cl (cr (cr (cr (cb Try.f84))))))))))))) (kblk 1 (kseq prog (cr (cr (cl (cl (cr (cl (cr (cr
 (cr (cb Try.f84)))))))))) (kit prog (cl (cl (cr (cl (cr (cr (cr (cb Try.f84)))))))) n0 (kblk 0 (kseq prog (cr (cr (cr (cr (cb Try.f84))))) (kfin prog Try.f84 k)))))) .normal sl H
theorem d84 (a0 : Value) (H : AHeap) (k : Value → AHeap → Prop) : kbody prog Try.f84 [a0] H k = (@bnd (aBin2 prog H .eql 9 (.tmp 6) (.const (.string { data := #[] })) a0 (.string { data := #[] })) ⟨fun v7x1 => @bnd (gif
 v7x1 false ((some a0)) undef) ⟨fun v9x2 => @bnd (gif v7x1 false (aIndex prog 9 v9x2 (.int .i64 0)) undef) ⟨fun v10x3 => @bnd (gif v7x1 false (aBin2 prog H .neq 5 (.tmp 10) (.const (.int .u8 34)) v10x3 (.int .u8 34))
 undef) ⟨fun v11x4 => @bnd (pickV v7x1 (.bool true) v11x4) ⟨fun v12x5 => @kifB v12x5 ⟨k (.tuple #[(.string { data := #[] }),(.int .i64 0)]) H⟩ ⟨∃ n,L84x0 n  k [a0,undef,(.string { data := #[] }),(.int .i64 0),(.string {
 data := #[] }),(.int .i64 1),a0,v7x1,v7x1,v9x2,v10x3,v11x4,v12x5,undef,undef,undef,undef,undef,undef,undef,undef,undef,undef,undef,undef,undef,undef,undef,undef,undef,undef,undef,undef,undef,undef,
 undef,undef,undef,undef,undef,undef,undef,undef,undef,undef,undef,undef,undef,undef,undef,undef,undef,undef,undef,undef] H⟩⟩⟩⟩⟩⟩) := by kernel_rfl
theorem L84x0q (n0 : Nat) (s0 s1 s2 s3 s4 s5 s6 s7 s8 s9 s10 s11 s12 s13 s14 s15 s16 s17 s18 s19 s20 s21 s22 s23 s24 s25 s26 s27 s28 s29 s30 s31 s32 s33 s34 s35 s36 s37 s38 s39 s40 s41 s42 s43 s44 s45 s46 s47 s48 s49 s50 s51 s52
 s53 s54 : Value) (H : AHeap) (k : Value → AHeap → Prop) : L84x0 (n0 + 1) k [s0,s1,s2,s3,s4,s5,s6,s7,s8,s9,s10,s11,s12,s13,s14,s15,s16,s17,s18,s19,s20,s21,s22,s23,s24,s25,s26,s27,s28,s29,s30,s31,
 s32,s33,s34,s35,s36,s37,s38,s39,s40,s41,s42,s43,s44,s45,s46,s47,s48,s49,s50,s51,s52,s53,s54] H = (@bnd (aLen prog H 9 s0) ⟨fun v15x6 => @bnd (aBin2 prog H .lss 3 (.tmp 13) (.tmp 15) s5 v15x6) ⟨fun
 v16x7 => @kifB v16x7 ⟨@bnd (aIndex prog 9 s0 s5) ⟨fun v21x8 => @bnd (aBin2 prog H .eql 5 (.tmp 21) (.const (.int .u8 34)) v21x8 (.int .u8 34)) ⟨fun v22x9 => @kifB v22x9 ⟨@bnd (aBin2 prog H .add 3 (.tmp 24) (.const
 (.int .i64 1)) s5 (.int .i64 1)) ⟨fun v25x10 => k (.tuple #[s4,v25x10]) H⟩⟩ ⟨@bnd (aIndex prog 9 s0 s5) ⟨fun v28x11 => @bnd (aBin2 prog H .eql 5 (.tmp 28) (.const (.int .u8 92)) v28x11 (.int .u8 92)) ⟨fun v29x12 =>
 @kifB v29x12 ⟨@bnd (aBin2 prog H .add 3 (.tmp 30) (.const (.int .i64 1)) s5 (.int .i64 1)) ⟨fun v31x13 => @bnd (aLen prog H 9 s0) ⟨fun v34x14 => @bnd (aBin2 prog H .eql 3 (.tmp 32) (.tmp 34) v31x13 v34x14) ⟨fun
 v35x15 => @bnd (gif v35x15 false ((some s0)) undef) ⟨fun v37x16 => @bnd (gif v35x15 false ((some v31x13)) undef) ⟨fun v38x17 => @bnd (gif v35x15 false (aIndex prog 9 v37x16 v38x17) undef) ⟨fun v39x18 => @bnd (gif v35x15
 false (aBin2 prog H .neq 5 (.tmp 39) (.const (.int .u8 34)) v39x18 (.int .u8 34)) undef) ⟨fun v40x19 => @bnd (gif v35x15 false ((some v40x19)) undef) ⟨fun v41x20 => @bnd (gif v41x20 true ((some s0)) undef) ⟨fun v42x21 =>
 @bnd (gif v41x20 true ((some v31x13)) undef) ⟨fun v43x22 => @bnd (gif v41x20 true (aIndex prog 9 v42x21 v43x22) undef) ⟨fun v44x23 => @bnd (gif v41x20 true (aBin2 prog H .neq 5 (.tmp 44) (.const (.int .u8 92)) v44x23
 (.int .u8 92)) undef) ⟨fun v45x24 => @bnd (gif v35x15 false (pickV v41x20 v45x24 (.bool false)) undef) ⟨fun v46x25 => @bnd (pickV v35x15 (.bool true) v46x25) ⟨fun v47x26 => @kifB v47x26 ⟨k (.tuple #[(.string { data := #[] }),
 (.int .i64 0)]) H⟩ ⟨S84x0 n0 k [s0,s1,s2,s3,s4,v31x13,s6,s7,s8,s9,s10,s11,s12,s5,s0,v15x6,v16x7,s17,s18,s0,s5,v21x8,v22x9,s23,s24,s25,s0,s5,v28x11,v29x12,s5,v31x13,v31x13,s0,v34x14,v35x15,
 v35x15,v37x16,v38x17,v39x18,v40x19,v41x20,v42x21,v43x22,v44x23,v45x24,v46x25,v47x26,s48,s49,s50,s51,s52,s53,s54] H⟩⟩⟩⟩⟩⟩⟩⟩⟩⟩⟩⟩⟩⟩⟩⟩ ⟨S84x0 n0 k [s0,s1,s2,s3,s4,s5,s6,s7,s8,s9,s10,s11,s12,s5,s0,
 v15x6,v16x7,s17,s18,s0,s5,v21x8,v22x9,s23,s24,s25,s0,s5,v28x11,v29x12,s30,s31,s32,s33,s34,s35,s36,s37,s38,s39,s40,s41,s42,s43,s44,s45,s46,s47,s48,s49,s50,s51,s52,s53,s54] H⟩⟩⟩⟩⟩⟩⟩ ⟨k
 (.tuple #[(.string { data := #[] }),(.int .i64 0)]) H⟩⟩⟩) := by kernel_rfl
theorem S84x0q (n0 : Nat) (s0 s1 s2 s3 s4 s5 s6 s7 s8 s9 s10 s11 s12 s13 s14 s15 s16 s17 s18 s19 s20 s21 s22 s23 s24 s25 s26 s27 s28 s29 s30 s31 s32 s33 s34 s35 s36 s37 s38 s39 s40 s41 s42 s43 s44 s45 s46 s47 s48 s49 s50 s51 s52
 s53 s54 : Value) (H : AHeap) (k : Value → AHeap → Prop) : S84x0 n0 k [s0,s1,s2,s3,s4,s5,s6,s7,s8,s9,s10,s11,s12,s13,s14,s15,s16,s17,s18,s19,s20,s21,s22,s23,s24,s25,s26,s27,s28,s29,s30,s31,s32,
 s33,s34,s35,s36,s37,s38,s39,s40,s41,s42,s43,s44,s45,s46,s47,s48,s49,s50,s51,s52,s53,s54] H = (@bnd (aBin2 prog H .add 3 (.tmp 51) (.const (.int .i64 1)) s5 (.int .i64 1)) ⟨fun v52x27 => @bnd (aSliceOp
 prog H 9 s0 (some s5) (some v52x27)) ⟨fun v53x28 => @bnd (aBin2 prog H .add 9 (.tmp 48) (.tmp 53) s4 v53x28) ⟨fun v54x29 => @bnd (aBin2 prog H .add 3 (.tmp 17) (.const (.int .i64 1)) s5 (.int .i64 1)) ⟨fun v18x30 =>
 L84x0 n0  k [s0,s1,s2,s3,v54x29,v18x30,s6,s7,s8,s9,s10,s11,s12,s13,s14,s15,s16,s5,v18x30,s19,s20,s21,s22,s23,s24,s25,s26,s27,s28,s29,s30,s31,s32,s33,s34,s35,s36,s37,s38,s39,s40,s41,s42,
 s43,s44,s45,s46,s47,s4,s0,s5,s5,v52x27,v53x28,v54x29] H⟩⟩⟩⟩) := by kernel_rfl
-- tocsin/tocsinref07.Plain
def L85x0 (n : Nat) (k : Value → AHeap → Prop) (sl : List Value) (H : AHeap) : Prop := kit prog (cl (cl (cr (cl (cr (cb Try.f85)))))) n (kblk 0 (kseq prog (cr (cr (cb Try.f85))) (kfin prog Try.f85 k))) .normal sl H
theorem d85 (a0 : Value) (H : AHeap) (k : Value → AHeap → Prop) : kbody prog Try.f85 [a0] H k = (∃ n,L85x0 n  k [a0,undef,(.bool false),(.int .i64 0),undef,undef,undef,undef,undef,undef,undef,undef,undef,undef,
 undef,undef,undef,undef,undef,undef] H) := by kernel_rfl
theorem L85x0q (n0 : Nat) (s0 s1 s2 s3 s4 s5 s6 s7 s8 s9 s10 s11 s12 s13 s14 s15 s16 s17 s18 s19 : Value) (H : AHeap) (k : Value → AHeap → Prop) : L85x0 (n0 + 1) k [s0,s1,s2,s3,s4,s5,s6,s7,s8,s9,s10,s11,s12,s13,s14,
 s15,s16,s17,s18,s19] H = (@bnd (aLen prog H 9 s0) ⟨fun v6x1 => @bnd (aBin2 prog H .lss 3 (.tmp 4) (.tmp 6) s3 v6x1) ⟨fun v7x2 => @kifB v7x2 ⟨@bnd (aIndex prog 9 s0 s3) ⟨fun v12x3 => @bnd (aBin2 prog H .lss 5
 (.tmp 12) (.const (.int .u8 32)) v12x3 (.int .u8 32)) ⟨fun v13x4 => @bnd (gif v13x4 false ((some s0)) undef) ⟨fun v15x5 => @bnd (gif v13x4 false ((some s3)) undef) ⟨fun v16x6 => @bnd (gif v13x4 false (aIndex prog 9 v15x5
 v16x6) undef) ⟨fun v17x7 => @bnd (gif v13x4 false (aBin2 prog H .gtr 5 (.tmp 17) (.const (.int .u8 126)) v17x7 (.int .u8 126)) undef) ⟨fun v18x8 => @bnd (pickV v13x4 (.bool true) v18x8) ⟨fun v19x9 => @kifB v19x9 ⟨k (.bool
 false) H⟩ ⟨@bnd (aBin2 prog H .add 3 (.tmp 8) (.const (.int .i64 1)) s3 (.int .i64 1)) ⟨fun v9x10 => L85x0 n0  k [s0,s1,s2,v9x10,s3,s0,v6x1,v7x2,s3,v9x10,s0,s3,v12x3,v13x4,v13x4,v15x5,v16x6,v17x7,v18x8,
 v19x9] H⟩⟩⟩⟩⟩⟩⟩⟩⟩⟩ ⟨k (.bool true) H⟩⟩⟩) := by kernel_rfl
-- tocsin/tocsinref09.kind
theorem d86 (a0 : Value) (H : AHeap) (k : Value → AHeap → Prop) : kbody prog Try.f86 [a0] H k = (@bndC prog 88 [a0] H ⟨fun v6x1 H2 => @kifB v6x1 ⟨k (.tuple #[(.int .u8 1),a0]) H2⟩ ⟨@bndC prog 89 [a0] H2 ⟨fun v10x3 H4
 => @kifB v10x3 ⟨k (.tuple #[(.int .u8 2),a0]) H4⟩ ⟨@bndC prog 90 [a0] H4 ⟨fun v14x5 H6 => @kifB v14x5 ⟨k (.tuple #[(.int .u8 4),a0]) H6⟩ ⟨k (.tuple #[(.int .u8 0),(.string { data := #[] })]) H6⟩⟩⟩⟩⟩⟩) := by kernel_rfl
-- tocsin/tocsinref10.comparison
def L87x0 (n : Nat) (k : Value → AHeap → Prop) (sl : List Value) (H : AHeap) : Prop := kit prog (cl (cl (cl (cr (cr (cr (cb Try.f87))))))) n (kblk 0 (kseq prog (cr (cr (cr (cr (cb Try.f87))))) (kfin prog Try.f87 k)))
 .normal sl H
def S87x0 (k : Value → AHeap → Prop) (sl : List Value) (H : AHeap) : Prop := kseq prog (cr (cr (cr (cr (cr (cr (cr (cr (cb Try.f87))))))))) (kfin prog Try.f87 k) .normal sl H
def L87x1 (n : Nat) (k : Value → AHeap → Prop) (sl : List Value) (H : AHeap) : Prop := kit prog (cl (cl (cr (cr (cl (cr (cr (cr (cr (cr (cr (cr (cb Try.f87))))))))))))) n (kblk 2 (kseq prog (cr (cr (cr (cr (cr (cr (cr (cr
 (cb Try.f87))))))))) (kfin prog Try.f87 k))) .normal sl H
def L87x2 (n : Nat) (k : Value → AHeap → Prop) (sl : List Value) (H : AHeap) : Prop := kit prog (cl (cl (cl (cr (cr (cr (cr (cr (cr (cr (cr (cr (cr (cr (cr (cb Try.f87)))))))))))))))) n (kblk 4 (kseq prog (cr (cr (cr (cr
 (cr (cr (cr (cr (cr (cr (cr (cr (cr (cb Try.f87)))))))))))))) (kfin prog Try.f87 k))) .normal sl H
def S87x1 (k : Value → AHeap → Prop) (sl : List Value) (H : AHeap) : Prop := kseq prog (cr (cr (cr (cr (cr (cr (cr (cr (cr (cr (cr (cr (cr (cr (cr (cr (cr (cr (cb Try.f87))))))))))))))))))) (kfin prog Try.f87 k) .normal
 sl H
def B87x0 (n1 : Nat) (k : Value → AHeap → Prop) (sl : List Value) (H : AHeap) : Prop := (kseq prog (cr (cr (cr (cr (cr (cl (cl (cl (cr (cr (cl (cr (cr (cr (cr (cr (cr (cr (cb Try.f87))))))))))))))))))) (kblk 3 (kit prog
 (cl (cl (cr (cr (cl (cr (cr (cr (cr (cr (cr (cr (cb Try.f87))))))))))))) n1 (kblk 2 (kseq prog (cr (cr (cr (cr (cr (cr (cr (cr (cb Try.f87))))))))) (kfin prog Try.f87 k)))))) (.exit 2) sl H
theorem B87x0q (n1 : Nat) (sl : List Value) (H : AHeap) (k : Value → AHeap → Prop) : B87x0 n1 k sl H = S87x0  k sl H := by kernel_rfl
theorem d87 (a0 a1 : Value) (H : AHeap) (k : Value → AHeap → Prop) : kbody prog Try.f87 [a0,a1] H k = (@bnd (buildV prog 50 [(0,(.int .u8 0))]) ⟨fun v13x1 => @bndE (aAlloc prog H 50) ⟨fun v6x2 H3 => @bndS (aStore
 prog H3 50 v6x2 v13x1) ⟨fun _ H5 => ∃ n,L87x0 n  k [a0,a1,undef,undef,(.slice none 0 0),(.int .i64 0),v6x2,(.int .i64 0),undef,undef,undef,undef,undef,v13x1,undef,undef,undef,undef,undef,undef,undef,
 undef,undef,undef,undef,undef,undef,undef,undef,undef,undef,undef,undef,undef,undef,undef,undef,undef,undef,undef,undef,undef,undef,undef,undef,undef,undef,undef,undef,undef,undef,undef,undef,
 undef,undef,undef,undef,undef,undef,undef,undef,undef,undef,undef,undef,undef,undef,undef,undef,undef,undef,undef,undef,undef,undef,undef,undef,undef,undef,undef,undef,undef,undef,undef,undef,
 undef,undef,undef,undef,undef,undef,undef,undef,undef,undef,undef,undef,undef,undef,undef,undef,undef,undef,undef,undef,undef,undef,undef,undef,undef,undef,undef,undef,undef,undef,undef,undef,
 undef,undef,undef,undef,undef,undef,undef,undef,undef,undef,undef,undef,undef,undef,undef,undef,undef,undef,undef,undef,undef,undef,undef,undef,undef,undef,undef,undef,undef,undef,undef,undef,
 undef,undef,undef,undef,undef,undef,undef,undef,undef,undef,undef,undef,undef,undef,undef,undef,undef,undef,undef] H5⟩⟩⟩) := by kernel_rfl
theorem L87x0q (n0 : Nat) (s0 s1 s2 s3 s4 s5 s6 s7 s8 s9 s10 s11 s12 s13 s14 s15 s16 s17 s18 s19 s20 s21 s22 s23 s24 s25 s26 s27 s28 s29 s30 s31 s32 s33 s34 s35 s36 s37 s38 s39 s40 s41 s42 s43 s44 s45 s46 s47 s48 s49 s50 s51 s52
 s53 s54 s55 s56 s57 s58 s59 s60 s61 s62 s63 s64 s65 s66 s67 s68 s69 s70 s71 s72 s73 s74 s75 s76 s77 s78 s79 s80 s81 s82 s83 s84 s85 s86 s87 s88 s89 s90 s91 s92 s93 s94 s95 s96 s97 s98 s99 s100 s101 s102 s103 s104 s105 s106 s107
 s108 s109 s110 s111 s112 s113 s114 s115 s116 s117 s118 s119 s120 s121 s122 s123 s124 s125 s126 s127 s128 s129 s130 s131 s132 s133 s134 s135 s136 s137 s138 s139 s140 s141 s142 s143 s144 s145 s146 s147 s148 s149 s150 s151 s152
 s153 s154 s155 s156 s157 s158 s159 s160 s161 s162 s163 s164 s165 s166 s167 : Value) (H : AHeap) (k : Value → AHeap → Prop) : L87x0 (n0 + 1) k [s0,s1,s2,s3,s4,s5,s6,s7,s8,s9,s10,s11,s12,s13,s14,s15,s16,s17,s18,
 s19,s20,s21,s22,s23,s24,s25,s26,s27,s28,s29,s30,s31,s32,s33,s34,s35,s36,s37,s38,s39,s40,s41,s42,s43,s44,s45,s46,s47,s48,s49,s50,s51,s52,s53,s54,s55,s56,s57,s58,s59,s60,s61,s62,s63,
 s64,s65,s66,s67,s68,s69,s70,s71,s72,s73,s74,s75,s76,s77,s78,s79,s80,s81,s82,s83,s84,s85,s86,s87,s88,s89,s90,s91,s92,s93,s94,s95,s96,s97,s98,s99,s100,s101,s102,s103,s104,s105,s106,s107,
 s108,s109,s110,s111,s112,s113,s114,s115,s116,s117,s118,s119,s120,s121,s122,s123,s124,s125,s126,s127,s128,s129,s130,s131,s132,s133,s134,s135,s136,s137,s138,s139,s140,s141,s142,s143,s144,s145,
 s146,s147,s148,s149,s150,s151,s152,s153,s154,s155,s156,s157,s158,s159,s160,s161,s162,s163,s164,s165,s166,s167] H = (@bnd (aBin2 prog H .lss 3 (.tmp 14) (.const (.int .i64 6)) s7 (.int .i64 6)) ⟨fun
 v15x6 => @bnd (gif v15x6 true ((some s0)) undef) ⟨fun v17x7 => @bnd (gif v15x6 true ((some s1)) undef) ⟨fun v18x8 => @bnd (gif v15x6 true ((some s7)) undef) ⟨fun v19x9 => @bndG v15x6 true H ⟨fun v20x10 H11 => ACalls prog 59
 [v19x9] H v20x10 H11⟩ ⟨fun v20x10 H11 => @bndG v15x6 true H11 ⟨fun v21x12 H13 => ACalls prog 81 [v17x7,v18x8,(.int .u8 1),v20x10] H11 v21x12 H13⟩ ⟨fun v21x12 H13 => @bnd (gif v15x6 true (unV prog .not v21x12) undef)
 ⟨fun v22x14 => @bnd (pickV v15x6 v22x14 (.bool false)) ⟨fun v23x15 => @kifB v23x15 ⟨@bnd (aBin2 prog H13 .add 3 (.tmp 24) (.const (.int .i64 1)) s7 (.int .i64 1)) ⟨fun v25x16 => L87x0 n0  k [s0,s1,s2,s3,s4,s5,s6,
 v25x16,s8,s9,s10,s11,s12,s13,s7,v15x6,v15x6,v17x7,v18x8,v19x9,v20x10,v21x12,v22x14,v23x15,s7,v25x16,s26,s27,s28,s29,s30,s31,s32,s33,s34,s35,s36,s37,s38,s39,s40,s41,s42,s43,s44,s45,s46,
 s47,s48,s49,s50,s51,s52,s53,s54,s55,s56,s57,s58,s59,s60,s61,s62,s63,s64,s65,s66,s67,s68,s69,s70,s71,s72,s73,s74,s75,s76,s77,s78,s79,s80,s81,s82,s83,s84,s85,s86,s87,s88,s89,s90,s91,
 s92,s93,s94,s95,s96,s97,s98,s99,s100,s101,s102,s103,s104,s105,s106,s107,s108,s109,s110,s111,s112,s113,s114,s115,s116,s117,s118,s119,s120,s121,s122,s123,s124,s125,s126,s127,s128,s129,s130,
 s131,s132,s133,s134,s135,s136,s137,s138,s139,s140,s141,s142,s143,s144,s145,s146,s147,s148,s149,s150,s151,s152,s153,s154,s155,s156,s157,s158,s159,s160,s161,s162,s163,s164,s165,s166,s167] H13⟩⟩
 ⟨@bnd (aBin2 prog H13 .eql 3 (.tmp 26) (.const (.int .i64 6)) s7 (.int .i64 6)) ⟨fun v27x17 => @bnd (gif v27x17 false ((some s0)) undef) ⟨fun v29x18 => @bnd (gif v27x17 false ((some s1)) undef) ⟨fun v30x19 => @bnd (gif
 v27x17 false (aBin2 prog H13 .add 3 (.tmp 30) (.const (.int .i64 1)) v30x19 (.int .i64 1)) undef) ⟨fun v31x20 => @bndG v27x17 false H13 ⟨fun v32x21 H22 => ACalls prog 81 [v29x18,v31x20,(.int .u8 4),(.string { data :=
 #[40] })] H13 v32x21 H22⟩ ⟨fun v32x21 H22 => @bnd (gif v27x17 false (unV prog .not v32x21) undef) ⟨fun v33x23 => @bnd (pickV v27x17 (.bool true) v33x23) ⟨fun v34x24 => @bnd (gif v34x24 false ((some s0)) undef) ⟨fun v36x25
 => @bnd (gif v34x24 false ((some s1)) undef) ⟨fun v37x26 => @bnd (gif v34x24 false (aBin2 prog H22 .add 3 (.tmp 37) (.const (.int .i64 2)) v37x26 (.int .i64 2)) undef) ⟨fun v38x27 => @bndG v34x24 false H22 ⟨fun v39x28 H29
 => ACalls prog 81 [v36x25,v38x27,(.int .u8 4),(.string { data := #[123] })] H22 v39x28 H29⟩ ⟨fun v39x28 H29 => @bnd (gif v34x24 false (unV prog .not v39x28) undef) ⟨fun v40x30 => @bnd (pickV v34x24 (.bool true)
 v40x30) ⟨fun v41x31 => @kifB v41x31 ⟨k (.tuple #[(.slice none 0 0),(.int .i64 (-1))]) H29⟩ ⟨@bnd (convV prog H29 3 5 s7) ⟨fun v43x32 => @bnd (aFieldAddr prog H29 50 s6 1) ⟨fun v44x33 => @bndS (aStore prog H29 5
 v44x33 v43x32) ⟨fun _ H35 => @bnd (aBin2 prog H35 .add 3 (.tmp 45) (.const (.int .i64 3)) s1 (.int .i64 3)) ⟨fun v46x36 => @bndC prog 81 [s0,v46x36,(.int .u8 4),(.string { data := #[125] })] H35 ⟨fun v49x37 H38 =>
 @kifB v49x37 ⟨@bnd (aBin2 prog H38 .add 3 (.tmp 50) (.const (.int .i64 1)) v46x36 (.int .i64 1)) ⟨fun v51x39 => S87x0  k [s0,v51x39,s2,s3,s4,s5,s6,s7,s8,s9,s10,s11,s12,s13,s7,v15x6,v15x6,v17x7,v18x8,
 v19x9,v20x10,v21x12,v22x14,v23x15,s24,s25,s7,v27x17,v27x17,v29x18,v30x19,v31x20,v32x21,v33x23,v34x24,v34x24,v36x25,v37x26,v38x27,v39x28,v40x30,v41x31,s7,v43x32,v44x33,s1,v46x36,s0,v46x36,v49x37,
 v46x36,v51x39,s52,s53,s54,s55,s56,s57,s58,s59,s60,s61,s62,s63,s64,s65,s66,s67,s68,s69,s70,s71,s72,s73,s74,s75,s76,s77,s78,s79,s80,s81,s82,s83,s84,s85,s86,s87,s88,s89,s90,s91,s92,s93,
 s94,s95,s96,s97,s98,s99,s100,s101,s102,s103,s104,s105,s106,s107,s108,s109,s110,s111,s112,s113,s114,s115,s116,s117,s118,s119,s120,s121,s122,s123,s124,s125,s126,s127,s128,s129,s130,s131,s132,
 s133,s134,s135,s136,s137,s138,s139,s140,s141,s142,s143,s144,s145,s146,s147,s148,s149,s150,s151,s152,s153,s154,s155,s156,s157,s158,s159,s160,s161,s162,s163,s164,s165,s166,s167] H38⟩⟩ ⟨∃ n,L87x1
 n  k [s0,v46x36,s2,s3,s4,s5,s6,s7,s8,s9,s10,s11,s12,s13,s7,v15x6,v15x6,v17x7,v18x8,v19x9,v20x10,v21x12,v22x14,v23x15,s24,s25,s7,v27x17,v27x17,v29x18,v30x19,v31x20,v32x21,v33x23,v34x24,v34x24,
 v36x25,v37x26,v38x27,v39x28,v40x30,v41x31,s7,v43x32,v44x33,s1,v46x36,s0,v46x36,v49x37,s50,s51,s52,s53,s54,s55,s56,s57,s58,s59,s60,s61,s62,s63,s64,s65,s66,s67,s68,s69,s70,s71,s72,s73,s74,
 s75,s76,s77,s78,s79,s80,s81,s82,s83,s84,s85,s86,s87,s88,s89,s90,s91,s92,s93,s94,s95,s96,s97,s98,s99,s100,s101,s102,s103,s104,s105,s106,s107,s108,s109,s110,s111,s112,s113,s114,s115,s116,
 s117,s118,s119,s120,s121,s122,s123,s124,s125,s126,s127,s128,s129,s130,s131,s132,s133,s134,s135,s136,s137,s138,s139,s140,s141,s142,s143,s144,s145,s146,s147,s148,s149,s150,s151,s152,s153,s154,
 s155,s156,s157,s158,s159,s160,s161,s162,s163,s164,s165,s166,s167] H38⟩⟩⟩⟩⟩⟩⟩⟩⟩⟩⟩⟩⟩⟩⟩⟩⟩⟩⟩⟩⟩⟩⟩⟩⟩⟩⟩⟩⟩) := by kernel_rfl
theorem S87x0q (s0 s1 s2 s3 s4 s5 s6 s7 s8 s9 s10 s11 s12 s13 s14 s15 s16 s17 s18 s19 s20 s21 s22 s23 s24 s25 s26 s27 s28 s29 s30 s31 s32 s33 s34 s35 s36 s37 s38 s39 s40 s41 s42 s43 s44 s45 s46 s47 s48 s49 s50 s51 s52 s53 s54 s55
 s56 s57 s58 s59 s60 s61 s62 s63 s64 s65 s66 s67 s68 s69 s70 s71 s72 s73 s74 s75 s76 s77 s78 s79 s80 s81 s82 s83 s84 s85 s86 s87 s88 s89 s90 s91 s92 s93 s94 s95 s96 s97 s98 s99 s100 s101 s102 s103 s104 s105 s106 s107 s108 s109
 s110 s111 s112 s113 s114 s115 s116 s117 s118 s119 s120 s121 s122 s123 s124 s125 s126 s127 s128 s129 s130 s131 s132 s133 s134 s135 s136 s137 s138 s139 s140 s141 s142 s143 s144 s145 s146 s147 s148 s149 s150 s151 s152 s153 s154
 s155 s156 s157 s158 s159 s160 s161 s162 s163 s164 s165 s166 s167 : Value) (H : AHeap) (k : Value → AHeap → Prop) : S87x0 k [s0,s1,s2,s3,s4,s5,s6,s7,s8,s9,s10,s11,s12,s13,s14,s15,s16,s17,s18,s19,s20,s21,
 s22,s23,s24,s25,s26,s27,s28,s29,s30,s31,s32,s33,s34,s35,s36,s37,s38,s39,s40,s41,s42,s43,s44,s45,s46,s47,s48,s49,s50,s51,s52,s53,s54,s55,s56,s57,s58,s59,s60,s61,s62,s63,s64,s65,s66,
 s67,s68,s69,s70,s71,s72,s73,s74,s75,s76,s77,s78,s79,s80,s81,s82,s83,s84,s85,s86,s87,s88,s89,s90,s91,s92,s93,s94,s95,s96,s97,s98,s99,s100,s101,s102,s103,s104,s105,s106,s107,s108,s109,
 s110,s111,s112,s113,s114,s115,s116,s117,s118,s119,s120,s121,s122,s123,s124,s125,s126,s127,s128,s129,s130,s131,s132,s133,s134,s135,s136,s137,s138,s139,s140,s141,s142,s143,s144,s145,s146,s147,
 s148,s149,s150,s151,s152,s153,s154,s155,s156,s157,s158,s159,s160,s161,s162,s163,s164,s165,s166,s167] H = (@bnd (aFieldAddr prog H 50 s6 2) ⟨fun v75x40 => @bnd (aLoad prog H 48 v75x40) ⟨fun v76x41 =>
 @bndC prog 92 [v76x41] H ⟨fun v77x42 H43 => @bnd (unV prog .not v77x42) ⟨fun v78x44 => @bnd (gif v78x44 false ((some s0)) undef) ⟨fun v80x45 => @bnd (gif v78x44 false ((some s1)) undef) ⟨fun v81x46 => @bndG v78x44 false
 H43 ⟨fun v82x47 H48 => ACalls prog 81 [v80x45,v81x46,(.int .u8 4),(.string { data := #[91] })] H43 v82x47 H48⟩ ⟨fun v82x47 H48 => @bnd (gif v78x44 false (unV prog .not v82x47) undef) ⟨fun v83x49 => @bnd (pickV v78x44
 (.bool true) v83x49) ⟨fun v84x50 => @bnd (gif v84x50 false ((some s0)) undef) ⟨fun v86x51 => @bnd (gif v84x50 false ((some s1)) undef) ⟨fun v87x52 => @bnd (gif v84x50 false (aBin2 prog H48 .add 3 (.tmp 87) (.const (.int
 .i64 1)) v87x52 (.int .i64 1)) undef) ⟨fun v88x53 => @bndG v84x50 false H48 ⟨fun v89x54 H55 => ACalls prog 81 [v86x51,v88x53,(.int .u8 2),(.string { data := #[42] })] H48 v89x54 H55⟩ ⟨fun v89x54 H55 => @bnd (gif v84x50
 false (unV prog .not v89x54) undef) ⟨fun v90x56 => @bnd (pickV v84x50 (.bool true) v90x56) ⟨fun v91x57 => @bnd (gif v91x57 false ((some s0)) undef) ⟨fun v93x58 => @bnd (gif v91x57 false ((some s1)) undef) ⟨fun v94x59 =>
 @bnd (gif v91x57 false (aBin2 prog H55 .add 3 (.tmp 94) (.const (.int .i64 2)) v94x59 (.int .i64 2)) undef) ⟨fun v95x60 => @bndG v91x57 false H55 ⟨fun v96x61 H62 => ACalls prog 81 [v93x58,v95x60,(.int .u8 4),(.string
 { data := #[93] })] H55 v96x61 H62⟩ ⟨fun v96x61 H62 => @bnd (gif v91x57 false (unV prog .not v96x61) undef) ⟨fun v97x63 => @bnd (pickV v91x57 (.bool true) v97x63) ⟨fun v98x64 => @bnd (gif v98x64 false ((some s0)) undef)
 ⟨fun v100x65 => @bnd (gif v98x64 false ((some s1)) undef) ⟨fun v101x66 => @bnd (gif v98x64 false (aBin2 prog H62 .add 3 (.tmp 101) (.const (.int .i64 3)) v101x66 (.int .i64 3)) undef) ⟨fun v102x67 => @bndG v98x64 false H62
 ⟨fun v103x68 H69 => ACalls prog 81 [v100x65,v102x67,(.int .u8 4),(.string { data := #[41] })] H62 v103x68 H69⟩ ⟨fun v103x68 H69 => @bnd (gif v98x64 false (unV prog .not v103x68) undef) ⟨fun v104x70 => @bnd (pickV
 v98x64 (.bool true) v104x70) ⟨fun v105x71 => @kifB v105x71 ⟨k (.tuple #[(.slice none 0 0),(.int .i64 (-1))]) H69⟩ ⟨@bnd (aBin2 prog H69 .add 3 (.tmp 107) (.const (.int .i64 1)) s1 (.int .i64 1)) ⟨fun v108x72 => @bnd
 (aIndexAddr prog H69 90 s0 v108x72) ⟨fun v109x73 => @bnd (aFieldAddr prog H69 105 v109x73 1) ⟨fun v110x74 => @bnd (aLoad prog H69 9 v110x74) ⟨fun v111x75 => @bndC prog 93 [v111x75] H69 ⟨fun v112x76 H77 => @bnd
 (aFieldAddr prog H77 50 s6 3) ⟨fun v113x78 => @bndS (aStore prog H77 3 v113x78 v112x76) ⟨fun _ H80 => @bnd (aBin2 prog H80 .add 3 (.tmp 114) (.const (.int .i64 4)) s1 (.int .i64 4)) ⟨fun v115x81 => ∃ n,L87x2 n  k
 [s0,v115x81,s2,s3,s4,s5,s6,(.int .i64 0),s8,s9,s10,s11,s12,s13,s14,s15,s16,s17,s18,s19,s20,s21,s22,s23,s24,s25,s26,s27,s28,s29,s30,s31,s32,s33,s34,s35,s36,s37,s38,s39,s40,s41,s42,s43,
 s44,s45,s46,s47,s48,s49,s50,s51,s52,s53,s54,s55,s56,s57,s58,s59,s60,s61,s62,s63,s64,s65,s66,s67,s68,s69,s70,s71,s72,s73,s74,v75x40,v76x41,v77x42,v78x44,v78x44,v80x45,v81x46,v82x47,v83x49,
 v84x50,v84x50,v86x51,v87x52,v88x53,v89x54,v90x56,v91x57,v91x57,v93x58,v94x59,v95x60,v96x61,v97x63,v98x64,v98x64,v100x65,v101x66,v102x67,v103x68,v104x70,v105x71,s0,s1,v108x72,v109x73,v110x74,v111x75,
 v112x76,v113x78,s1,v115x81,s116,s117,s118,s119,s120,s121,s122,s123,s124,s125,s126,s127,s128,s129,s130,s131,s132,s133,s134,s135,s136,s137,s138,s139,s140,s141,s142,s143,s144,s145,s146,s147,
 s148,s149,s150,s151,s152,s153,s154,s155,s156,s157,s158,s159,s160,s161,s162,s163,s164,s165,s166,s167] H80⟩⟩⟩⟩⟩⟩⟩⟩⟩⟩⟩⟩⟩⟩⟩⟩⟩⟩⟩⟩⟩⟩⟩⟩⟩⟩⟩⟩⟩⟩⟩⟩⟩⟩⟩⟩) := by kernel_rfl
theorem L87x1q (n1 : Nat) (s0 s1 s2 s3 s4 s5 s6 s7 s8 s9 s10 s11 s12 s13 s14 s15 s16 s17 s18 s19 s20 s21 s22 s23 s24 s25 s26 s27 s28 s29 s30 s31 s32 s33 s34 s35 s36 s37 s38 s39 s40 s41 s42 s43 s44 s45 s46 s47 s48 s49 s50 s51 s52
 s53 s54 s55 s56 s57 s58 s59 s60 s61 s62 s63 s64 s65 s66 s67 s68 s69 s70 s71 s72 s73 s74 s75 s76 s77 s78 s79 s80 s81 s82 s83 s84 s85 s86 s87 s88 s89 s90 s91 s92 s93 s94 s95 s96 s97 s98 s99 s100 s101 s102 s103 s104 s105 s106 s107
 s108 s109 s110 s111 s112 s113 s114 s115 s116 s117 s118 s119 s120 s121 s122 s123 s124 s125 s126 s127 s128 s129 s130 s131 s132 s133 s134 s135 s136 s137 s138 s139 s140 s141 s142 s143 s144 s145 s146 s147 s148 s149 s150 s151 s152
 s153 s154 s155 s156 s157 s158 s159 s160 s161 s162 s163 s164 s165 s166 s167 : Value) (H : AHeap) (k : Value → AHeap → Prop) : L87x1 (n1 + 1) k [s0,s1,s2,s3,s4,s5,s6,s7,s8,s9,s10,s11,s12,s13,s14,s15,s16,s17,s18,
 s19,s20,s21,s22,s23,s24,s25,s26,s27,s28,s29,s30,s31,s32,s33,s34,s35,s36,s37,s38,s39,s40,s41,s42,s43,s44,s45,s46,s47,s48,s49,s50,s51,s52,s53,s54,s55,s56,s57,s58,s59,s60,s61,s62,s63,
 s64,s65,s66,s67,s68,s69,s70,s71,s72,s73,s74,s75,s76,s77,s78,s79,s80,s81,s82,s83,s84,s85,s86,s87,s88,s89,s90,s91,s92,s93,s94,s95,s96,s97,s98,s99,s100,s101,s102,s103,s104,s105,s106,s107,
 s108,s109,s110,s111,s112,s113,s114,s115,s116,s117,s118,s119,s120,s121,s122,s123,s124,s125,s126,s127,s128,s129,s130,s131,s132,s133,s134,s135,s136,s137,s138,s139,s140,s141,s142,s143,s144,s145,
 s146,s147,s148,s149,s150,s151,s152,s153,s154,s155,s156,s157,s158,s159,s160,s161,s162,s163,s164,s165,s166,s167] H = (@bndC prog 91 [s0,s1] H ⟨fun v55x82 H83 => @bnd (tupV v55x82 0) ⟨fun v56x84 => @bnd
 (tupV v55x82 1) ⟨fun v57x85 => @bndE (aAlloc prog H83 52) ⟨fun v8x86 H87 => @bndS (aStore prog H87 52 v8x86 v56x84) ⟨fun _ H89 => @bnd (aBin2 prog H89 .lss 3 (.tmp 58) (.const (.int .i64 0)) v57x85 (.int .i64 0))
 ⟨fun v59x90 => @kifB v59x90 ⟨k (.tuple #[(.slice none 0 0),(.int .i64 (-1))]) H89⟩ ⟨@bnd (aFieldAddr prog H89 50 s6 2) ⟨fun v60x91 => @bnd (aLoad prog H89 48 v60x91) ⟨fun v61x92 => @bnd (aLoad prog H89 52 v8x86)
 ⟨fun v62x93 => @bndL prog H89 48 1 [(0,v62x93)] ⟨fun v63x94 H95 => @bndE (aBuiltin prog H95 Builtin.append #[48,48] [v61x92,v63x94]) ⟨fun v64x96 H97 => @bnd (aFieldAddr prog H97 50 s6 2) ⟨fun v65x98 => @bndS
 (aStore prog H97 48 v65x98 v64x96) ⟨fun _ H100 => @bnd (aBin2 prog H100 .add 3 (.tmp 66) (.const (.int .i64 1)) v57x85 (.int .i64 1)) ⟨fun v67x101 => @bndC prog 81 [s0,v57x85,(.int .u8 4),(.string { data :=
 #[125] })] H100 ⟨fun v70x102 H103 => @kifB v70x102 ⟨B87x0 n1 k [s0,v67x101,s2,s3,s4,s5,s6,s7,v8x86,v57x85,s10,s11,s12,s13,s14,s15,s16,s17,s18,s19,s20,s21,s22,s23,s24,s25,s26,s27,s28,s29,s30,s31,
 s32,s33,s34,s35,s36,s37,s38,s39,s40,s41,s42,s43,s44,s45,s46,s47,s48,s49,s50,s51,v55x82,s0,s1,v55x82,v56x84,v57x85,v57x85,v59x90,v60x91,v61x92,v62x93,v63x94,v64x96,v65x98,v57x85,v67x101,s0,
 v57x85,v70x102,s71,s72,s73,s74,s75,s76,s77,s78,s79,s80,s81,s82,s83,s84,s85,s86,s87,s88,s89,s90,s91,s92,s93,s94,s95,s96,s97,s98,s99,s100,s101,s102,s103,s104,s105,s106,s107,s108,s109,s110,
 s111,s112,s113,s114,s115,s116,s117,s118,s119,s120,s121,s122,s123,s124,s125,s126,s127,s128,s129,s130,s131,s132,s133,s134,s135,s136,s137,s138,s139,s140,s141,s142,s143,s144,s145,s146,s147,s148,
 s149,s150,s151,s152,s153,s154,s155,s156,s157,s158,s159,s160,s161,s162,s163,s164,s165,s166,s167] H103⟩ ⟨@bndC prog 81 [s0,v57x85,(.int .u8 4),(.string { data := #[44] })] H103 ⟨fun v73x104 H105 => @bnd
 (unV prog .not v73x104) ⟨fun v74x106 => @kifB v74x106 ⟨k (.tuple #[(.slice none 0 0),(.int .i64 (-1))]) H105⟩ ⟨L87x1 n1  k [s0,v67x101,s2,s3,s4,s5,s6,s7,v8x86,v57x85,s10,s11,s12,s13,s14,s15,s16,s17,s18,
 s19,s20,s21,s22,s23,s24,s25,s26,s27,s28,s29,s30,s31,s32,s33,s34,s35,s36,s37,s38,s39,s40,s41,s42,s43,s44,s45,s46,s47,s48,s49,s50,s51,v55x82,s0,s1,v55x82,v56x84,v57x85,v57x85,v59x90,
 v60x91,v61x92,v62x93,v63x94,v64x96,v65x98,v57x85,v67x101,s0,v57x85,v70x102,s0,v57x85,v73x104,v74x106,s75,s76,s77,s78,s79,s80,s81,s82,s83,s84,s85,s86,s87,s88,s89,s90,s91,s92,s93,s94,s95,s96,
 s97,s98,s99,s100,s101,s102,s103,s104,s105,s106,s107,s108,s109,s110,s111,s112,s113,s114,s115,s116,s117,s118,s119,s120,s121,s122,s123,s124,s125,s126,s127,s128,s129,s130,s131,s132,s133,s134,
 s135,s136,s137,s138,s139,s140,s141,s142,s143,s144,s145,s146,s147,s148,s149,s150,s151,s152,s153,s154,s155,s156,s157,s158,s159,s160,s161,s162,s163,s164,s165,s166,s167] H105⟩⟩⟩⟩⟩⟩⟩⟩⟩⟩⟩⟩⟩⟩⟩⟩⟩⟩⟩⟩) :=
 by kernel_rfl
theorem L87x2q (n2 : Nat) (s0 s1 s2 s3 s4 s5 s6 s7 s8 s9 s10 s11 s12 s13 s14 s15 s16 s17 s18 s19 s20 s21 s22 s23 s24 s25 s26 s27 s28 s29 s30 s31 s32 s33 s34 s35 s36 s37 s38 s39 s40 s41 s42 s43 s44 s45 s46 s47 s48 s49 s50 s51 s52
 s53 s54 s55 s56 s57 s58 s59 s60 s61 s62 s63 s64 s65 s66 s67 s68 s69 s70 s71 s72 s73 s74 s75 s76 s77 s78 s79 s80 s81 s82 s83 s84 s85 s86 s87 s88 s89 s90 s91 s92 s93 s94 s95 s96 s97 s98 s99 s100 s101 s102 s103 s104 s105 s106 s107
 s108 s109 s110 s111 s112 s113 s114 s115 s116 s117 s118 s119 s120 s121 s122 s123 s124 s125 s126 s127 s128 s129 s130 s131 s132 s133 s134 s135 s136 s137 s138 s139 s140 s141 s142 s143 s144 s145 s146 s147 s148 s149 s150 s151 s152
 s153 s154 s155 s156 s157 s158 s159 s160 s161 s162 s163 s164 s165 s166 s167 : Value) (H : AHeap) (k : Value → AHeap → Prop) : L87x2 (n2 + 1) k [s0,s1,s2,s3,s4,s5,s6,s7,s8,s9,s10,s11,s12,s13,s14,s15,s16,s17,s18,
 s19,s20,s21,s22,s23,s24,s25,s26,s27,s28,s29,s30,s31,s32,s33,s34,s35,s36,s37,s38,s39,s40,s41,s42,s43,s44,s45,s46,s47,s48,s49,s50,s51,s52,s53,s54,s55,s56,s57,s58,s59,s60,s61,s62,s63,
 s64,s65,s66,s67,s68,s69,s70,s71,s72,s73,s74,s75,s76,s77,s78,s79,s80,s81,s82,s83,s84,s85,s86,s87,s88,s89,s90,s91,s92,s93,s94,s95,s96,s97,s98,s99,s100,s101,s102,s103,s104,s105,s106,s107,
 s108,s109,s110,s111,s112,s113,s114,s115,s116,s117,s118,s119,s120,s121,s122,s123,s124,s125,s126,s127,s128,s129,s130,s131,s132,s133,s134,s135,s136,s137,s138,s139,s140,s141,s142,s143,s144,s145,
 s146,s147,s148,s149,s150,s151,s152,s153,s154,s155,s156,s157,s158,s159,s160,s161,s162,s163,s164,s165,s166,s167] H = (@bnd (aBin2 prog H .lss 3 (.tmp 116) (.const (.int .i64 6)) s7 (.int .i64 6)) ⟨fun
 v117x107 => @bnd (gif v117x107 true ((some s0)) undef) ⟨fun v119x108 => @bnd (gif v117x107 true ((some s1)) undef) ⟨fun v120x109 => @bnd (gif v117x107 true ((some s7)) undef) ⟨fun v121x110 => @bndG v117x107 true H ⟨fun v122x111
 H112 => ACalls prog 62 [v121x110] H v122x111 H112⟩ ⟨fun v122x111 H112 => @bndG v117x107 true H112 ⟨fun v123x113 H114 => ACalls prog 81 [v119x108,v120x109,(.int .u8 4),v122x111] H112 v123x113 H114⟩ ⟨fun v123x113 H114
 => @bnd (gif v117x107 true (unV prog .not v123x113) undef) ⟨fun v124x115 => @bnd (pickV v117x107 v124x115 (.bool false)) ⟨fun v125x116 => @kifB v125x116 ⟨@bnd (aBin2 prog H114 .add 3 (.tmp 126) (.const (.int .i64 1)) s7
 (.int .i64 1)) ⟨fun v127x117 => L87x2 n2  k [s0,s1,s2,s3,s4,s5,s6,v127x117,s8,s9,s10,s11,s12,s13,s14,s15,s16,s17,s18,s19,s20,s21,s22,s23,s24,s25,s26,s27,s28,s29,s30,s31,s32,s33,s34,s35,s36,
 s37,s38,s39,s40,s41,s42,s43,s44,s45,s46,s47,s48,s49,s50,s51,s52,s53,s54,s55,s56,s57,s58,s59,s60,s61,s62,s63,s64,s65,s66,s67,s68,s69,s70,s71,s72,s73,s74,s75,s76,s77,s78,s79,s80,s81,
 s82,s83,s84,s85,s86,s87,s88,s89,s90,s91,s92,s93,s94,s95,s96,s97,s98,s99,s100,s101,s102,s103,s104,s105,s106,s107,s108,s109,s110,s111,s112,s113,s114,s115,s7,v117x107,v117x107,v119x108,
 v120x109,v121x110,v122x111,v123x113,v124x115,v125x116,s7,v127x117,s128,s129,s130,s131,s132,s133,s134,s135,s136,s137,s138,s139,s140,s141,s142,s143,s144,s145,s146,s147,s148,s149,s150,s151,s152,
 s153,s154,s155,s156,s157,s158,s159,s160,s161,s162,s163,s164,s165,s166,s167] H114⟩⟩ ⟨@bnd (aBin2 prog H114 .eql 3 (.tmp 128) (.const (.int .i64 6)) s7 (.int .i64 6)) ⟨fun v129x118 => @bnd (gif v129x118 false
 (aFieldAddr prog H114 50 s6 3) undef) ⟨fun v131x119 => @bnd (gif v129x118 false (aLoad prog H114 3 v131x119) undef) ⟨fun v132x120 => @bnd (gif v129x118 false (aBin2 prog H114 .eql 3 (.tmp 132) (.const (.int .i64 0))
 v132x120 (.int .i64 0)) undef) ⟨fun v133x121 => @bnd (pickV v129x118 (.bool true) v133x121) ⟨fun v134x122 => @kifB v134x122 ⟨k (.tuple #[(.slice none 0 0),(.int .i64 (-1))]) H114⟩ ⟨@bnd (convV prog H114 3 5 s7) ⟨fun
 v136x123 => @bnd (aFieldAddr prog H114 50 s6 4) ⟨fun v137x124 => @bndS (aStore prog H114 5 v137x124 v136x123) ⟨fun _ H126 => @bnd (aBin2 prog H126 .add 3 (.tmp 138) (.const (.int .i64 1)) s1 (.int .i64 1)) ⟨fun
 v139x127 => @bndC prog 81 [s0,v139x127,(.int .u8 4),(.string { data := #[45] })] H126 ⟨fun v142x128 H129 => @kifB v142x128 ⟨@bnd (aBin2 prog H129 .add 3 (.tmp 143) (.const (.int .i64 1)) v139x127 (.int .i64 1)) ⟨fun
 v144x130 => S87x1  k [s0,v144x130,s2,s3,s4,s5,s6,s7,s8,s9,(.string { data := #[45] }),s11,s12,s13,s14,s15,s16,s17,s18,s19,s20,s21,s22,s23,s24,s25,s26,s27,s28,s29,s30,s31,s32,s33,s34,s35,s36,
 s37,s38,s39,s40,s41,s42,s43,s44,s45,s46,s47,s48,s49,s50,s51,s52,s53,s54,s55,s56,s57,s58,s59,s60,s61,s62,s63,s64,s65,s66,s67,s68,s69,s70,s71,s72,s73,s74,s75,s76,s77,s78,s79,s80,s81,
 s82,s83,s84,s85,s86,s87,s88,s89,s90,s91,s92,s93,s94,s95,s96,s97,s98,s99,s100,s101,s102,s103,s104,s105,s106,s107,s108,s109,s110,s111,s112,s113,s114,s115,s7,v117x107,v117x107,v119x108,
 v120x109,v121x110,v122x111,v123x113,v124x115,v125x116,s126,s127,s7,v129x118,v129x118,v131x119,v132x120,v133x121,v134x122,s7,v136x123,v137x124,s1,v139x127,s0,v139x127,v142x128,v139x127,v144x130,s145,
 s146,s147,s148,s149,s150,s151,s152,s153,s154,s155,s156,s157,s158,s159,s160,s161,s162,s163,s164,s165,s166,s167] H129⟩⟩ ⟨S87x1  k [s0,v139x127,s2,s3,s4,s5,s6,s7,s8,s9,(.string { data := #[] }),s11,
 s12,s13,s14,s15,s16,s17,s18,s19,s20,s21,s22,s23,s24,s25,s26,s27,s28,s29,s30,s31,s32,s33,s34,s35,s36,s37,s38,s39,s40,s41,s42,s43,s44,s45,s46,s47,s48,s49,s50,s51,s52,s53,s54,s55,s56,
 s57,s58,s59,s60,s61,s62,s63,s64,s65,s66,s67,s68,s69,s70,s71,s72,s73,s74,s75,s76,s77,s78,s79,s80,s81,s82,s83,s84,s85,s86,s87,s88,s89,s90,s91,s92,s93,s94,s95,s96,s97,s98,s99,s100,s101,
 s102,s103,s104,s105,s106,s107,s108,s109,s110,s111,s112,s113,s114,s115,s7,v117x107,v117x107,v119x108,v120x109,v121x110,v122x111,v123x113,v124x115,v125x116,s126,s127,s7,v129x118,v129x118,v131x119,
 v132x120,v133x121,v134x122,s7,v136x123,v137x124,s1,v139x127,s0,v139x127,v142x128,s143,s144,s145,s146,s147,s148,s149,s150,s151,s152,s153,s154,s155,s156,s157,s158,s159,s160,s161,s162,s163,s164,
 s165,s166,s167] H129⟩⟩⟩⟩⟩⟩⟩⟩⟩⟩⟩⟩⟩⟩⟩⟩⟩⟩⟩⟩⟩) := by kernel_rfl
theorem S87x1q (s0 s1 s2 s3 s4 s5 s6 s7 s8 s9 s10 s11 s12 s13 s14 s15 s16 s17 s18 s19 s20 s21 s22 s23 s24 s25 s26 s27 s28 s29 s30 s31 s32 s33 s34 s35 s36 s37 s38 s39 s40 s41 s42 s43 s44 s45 s46 s47 s48 s49 s50 s51 s52 s53 s54 s55
 s56 s57 s58 s59 s60 s61 s62 s63 s64 s65 s66 s67 s68 s69 s70 s71 s72 s73 s74 s75 s76 s77 s78 s79 s80 s81 s82 s83 s84 s85 s86 s87 s88 s89 s90 s91 s92 s93 s94 s95 s96 s97 s98 s99 s100 s101 s102 s103 s104 s105 s106 s107 s108 s109
 s110 s111 s112 s113 s114 s115 s116 s117 s118 s119 s120 s121 s122 s123 s124 s125 s126 s127 s128 s129 s130 s131 s132 s133 s134 s135 s136 s137 s138 s139 s140 s141 s142 s143 s144 s145 s146 s147 s148 s149 s150 s151 s152 s153 s154
 s155 s156 s157 s158 s159 s160 s161 s162 s163 s164 s165 s166 s167 : Value) (H : AHeap) (k : Value → AHeap → Prop) : S87x1 k [s0,s1,s2,s3,s4,s5,s6,s7,s8,s9,s10,s11,s12,s13,s14,s15,s16,s17,s18,s19,s20,s21,
 s22,s23,s24,s25,s26,s27,s28,s29,s30,s31,s32,s33,s34,s35,s36,s37,s38,s39,s40,s41,s42,s43,s44,s45,s46,s47,s48,s49,s50,s51,s52,s53,s54,s55,s56,s57,s58,s59,s60,s61,s62,s63,s64,s65,s66,
 s67,s68,s69,s70,s71,s72,s73,s74,s75,s76,s77,s78,s79,s80,s81,s82,s83,s84,s85,s86,s87,s88,s89,s90,s91,s92,s93,s94,s95,s96,s97,s98,s99,s100,s101,s102,s103,s104,s105,s106,s107,s108,s109,
 s110,s111,s112,s113,s114,s115,s116,s117,s118,s119,s120,s121,s122,s123,s124,s125,s126,s127,s128,s129,s130,s131,s132,s133,s134,s135,s136,s137,s138,s139,s140,s141,s142,s143,s144,s145,s146,s147,
 s148,s149,s150,s151,s152,s153,s154,s155,s156,s157,s158,s159,s160,s161,s162,s163,s164,s165,s166,s167] H = (@bndC prog 81 [s0,s1,(.int .u8 2),(.string { data := #[42] })] H ⟨fun v147x131 H132 => @bnd
 (unV prog .not v147x131) ⟨fun v148x133 => @kifB v148x133 ⟨k (.tuple #[(.slice none 0 0),(.int .i64 (-1))]) H132⟩ ⟨@bnd (aIndexAddr prog H132 90 s0 s1) ⟨fun v153x134 => @bnd (aFieldAddr prog H132 105 v153x134 1)
 ⟨fun v154x135 => @bnd (aLoad prog H132 9 v154x135) ⟨fun v155x136 => @bnd (aBin2 prog H132 .add 9 (.tmp 150) (.tmp 155) s10 v155x136) ⟨fun v156x137 => @bndC prog 94 [v156x137] H132 ⟨fun v157x138 H139 => @bnd (tupV
 v157x138 0) ⟨fun v158x140 => @bnd (tupV v157x138 1) ⟨fun v159x141 => @bnd (aBin2 prog H139 .neq 3 (.tmp 160) (.const (.int .i64 0)) v159x141 (.int .i64 0)) ⟨fun v161x142 => @kifB v161x142 ⟨k (.tuple #[(.slice none 0 0),
 (.int .i64 (-1))]) H139⟩ ⟨@bnd (aFieldAddr prog H139 50 s6 5) ⟨fun v163x143 => @bndS (aStore prog H139 2 v163x143 v158x140) ⟨fun _ H145 => @bnd (aLoad prog H145 50 s6) ⟨fun v164x146 => @bndL prog H145 22 1 [(0,
 v164x146)] ⟨fun v165x147 H148 => @bnd (aBin2 prog H148 .add 3 (.tmp 166) (.const (.int .i64 1)) s1 (.int .i64 1)) ⟨fun v167x149 => k (.tuple #[v165x147,v167x149]) H148⟩⟩⟩⟩⟩⟩⟩⟩⟩⟩⟩⟩⟩⟩⟩⟩⟩) := by kernel_rfl
end Go.Vi
