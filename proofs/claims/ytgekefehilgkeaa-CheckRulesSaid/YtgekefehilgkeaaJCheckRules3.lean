/- What the functions' bodies come to. What the functions' bodies come to. What the functions' bodies come to. What the functions' bodies come to. What the functions' bodies come to. What the functions' bodies come to. Labels: names, values. Conditions: nodes. What may be: rules, mutes, configurations. What may be: mutes, configurations; the greatest window. Arguments: matchers, nodes, days, mutes, rules, configurations. Arguments: rules, mutes, configurations. Nodes as they are handed over, with their numbers. Rules, mutes, configurations as they are handed over, with their nodes' numbers. strings.Builder. -/
import Derived.Test.YtgekefehilgkeaaJCheckRules2
import Derived.Test.YtgekefehilgkeaaChecked
namespace Go.Vi
open Go Go.Proofs Go.Proofs.Try
-- slices.Contains[[]bool,bool]
theorem d30 (a0 a1 : Value) (H : AHeap) (k : Value → AHeap → Prop) : kbody prog Try.f30 [a0,a1] H k = (@bndC prog 48 [a0,a1] H ⟨fun v7x1 H2 => @bnd (aBin2 prog H2 .geq 3 (.tmp 7) (.const (.int .i64 0)) v7x1 (.int
 .i64 0)) ⟨fun v8x3 => k v8x3 H2⟩⟩) := by kernel_rfl
-- tocsin/tocsinref11.MayMute
def L31x0 (n : Nat) (k : Value → AHeap → Prop) (sl : List Value) (H : AHeap) : Prop := kit prog (cl (cl (cr (cl (cr (cr (cb Try.f31))))))) n (kblk 0 (kseq prog (cr (cr (cr (cb Try.f31)))) (kfin prog Try.f31 k)))
 .normal sl H
theorem d31 (a0 : Value) (H : AHeap) (k : Value → AHeap → Prop) : kbody prog Try.f31 [a0] H k = (@bndE (aNew H 28 a0) ⟨fun v1x1 H2 => ∃ n,L31x0 n  k [a0,v1x1,(.bool false),(.bool false),(.int .i64 0),undef,undef,
 undef,undef,undef,undef,undef,undef,undef,undef,undef,undef,undef,undef,undef,undef,undef,undef,undef,undef,undef,undef,undef,undef,undef,undef,undef,undef,undef,undef,undef,undef,undef,undef,
 undef,undef,undef,undef,undef,undef,undef,undef,undef,undef] H2⟩) := by kernel_rfl
theorem L31x0q (n0 : Nat) (s0 s1 s2 s3 s4 s5 s6 s7 s8 s9 s10 s11 s12 s13 s14 s15 s16 s17 s18 s19 s20 s21 s22 s23 s24 s25 s26 s27 s28 s29 s30 s31 s32 s33 s34 s35 s36 s37 s38 s39 s40 s41 s42 s43 s44 s45 s46 s47 s48 : Value) (H :
 AHeap) (k : Value → AHeap → Prop) : L31x0 (n0 + 1) k [s0,s1,s2,s3,s4,s5,s6,s7,s8,s9,s10,s11,s12,s13,s14,s15,s16,s17,s18,s19,s20,s21,s22,s23,s24,s25,s26,s27,s28,s29,s30,s31,s32,s33,s34,s35,
 s36,s37,s38,s39,s40,s41,s42,s43,s44,s45,s46,s47,s48] H = (@bnd (aBin2 prog H .lss 3 (.tmp 5) (.const (.int .i64 7)) s4 (.int .i64 7)) ⟨fun v6x3 => @kifB v6x3 ⟨@bnd (gif s3 false ((some s4)) undef) ⟨fun v11x4 =>
 @bnd (gif s3 false (aFieldAddr prog H 28 s1 1) undef) ⟨fun v12x5 => @bnd (gif s3 false (aIndexAddr prog H 26 v12x5 v11x4) undef) ⟨fun v13x6 => @bnd (gif s3 false (aLoad prog H 4 v13x6) undef) ⟨fun v14x7 => @bnd
 (pickV s3 (.bool true) v14x7) ⟨fun v15x8 => @bnd (aBin2 prog H .add 3 (.tmp 7) (.const (.int .i64 1)) s4 (.int .i64 1)) ⟨fun v8x9 => L31x0 n0  k [s0,s1,s2,v15x8,v8x9,s4,v6x3,s4,v8x9,s3,s3,v11x4,v12x5,v13x6,
 v14x7,v15x8,s16,s17,s18,s19,s20,s21,s22,s23,s24,s25,s26,s27,s28,s29,s30,s31,s32,s33,s34,s35,s36,s37,s38,s39,s40,s41,s42,s43,s44,s45,s46,s47,s48] H⟩⟩⟩⟩⟩⟩⟩ ⟨@bnd (aFieldAddr prog H 28 s1 0)
 ⟨fun v16x10 => @bnd (aLoad prog H 9 v16x10) ⟨fun v17x11 => @bndC prog 46 [v17x11] H ⟨fun v18x12 H13 => @bnd (gif v18x12 true ((some s3)) undef) ⟨fun v20x14 => @bnd (pickV v18x12 v20x14 (.bool false)) ⟨fun v21x15 => @bnd
 (gif v21x15 true (aFieldAddr prog H13 28 s1 2) undef) ⟨fun v23x16 => @bnd (gif v21x15 true (aLoad prog H13 3 v23x16) undef) ⟨fun v24x17 => @bnd (gif v21x15 true (aBin2 prog H13 .geq 3 (.tmp 24) (.const (.int .i64
 0)) v24x17 (.int .i64 0)) undef) ⟨fun v25x18 => @bnd (pickV v21x15 v25x18 (.bool false)) ⟨fun v26x19 => @bnd (gif v26x19 true (aFieldAddr prog H13 28 s1 2) undef) ⟨fun v28x20 => @bnd (gif v26x19 true (aLoad prog H13 3
 v28x20) undef) ⟨fun v29x21 => @bnd (gif v26x19 true (aBin2 prog H13 .lss 3 (.tmp 29) (.const (.int .i64 1440)) v29x21 (.int .i64 1440)) undef) ⟨fun v30x22 => @bnd (pickV v26x19 v30x22 (.bool false)) ⟨fun v31x23 => @bnd (gif
 v31x23 true (aFieldAddr prog H13 28 s1 3) undef) ⟨fun v33x24 => @bnd (gif v31x23 true (aLoad prog H13 3 v33x24) undef) ⟨fun v34x25 => @bnd (gif v31x23 true (aBin2 prog H13 .geq 3 (.tmp 34) (.const (.int .i64 1))
 v34x25 (.int .i64 1)) undef) ⟨fun v35x26 => @bnd (pickV v31x23 v35x26 (.bool false)) ⟨fun v36x27 => @bnd (gif v36x27 true (aFieldAddr prog H13 28 s1 3) undef) ⟨fun v38x28 => @bnd (gif v36x27 true (aLoad prog H13 3
 v38x28) undef) ⟨fun v39x29 => @bnd (gif v36x27 true (aBin2 prog H13 .leq 3 (.tmp 39) (.const (.int .i64 1440)) v39x29 (.int .i64 1440)) undef) ⟨fun v40x30 => @bnd (pickV v36x27 v40x30 (.bool false)) ⟨fun v41x31 => @bnd (gif
 v41x31 true (aFieldAddr prog H13 28 s1 2) undef) ⟨fun v43x32 => @bnd (gif v41x31 true (aLoad prog H13 3 v43x32) undef) ⟨fun v44x33 => @bnd (gif v41x31 true (aFieldAddr prog H13 28 s1 3) undef) ⟨fun v45x34 => @bnd
 (gif v41x31 true (aLoad prog H13 3 v45x34) undef) ⟨fun v46x35 => @bnd (gif v41x31 true (aBin2 prog H13 .neq 3 (.tmp 44) (.tmp 46) v44x33 v46x35) undef) ⟨fun v47x36 => @bnd (pickV v41x31 v47x36 (.bool false)) ⟨fun v48x37
 => k v48x37 H13⟩⟩⟩⟩⟩⟩⟩⟩⟩⟩⟩⟩⟩⟩⟩⟩⟩⟩⟩⟩⟩⟩⟩⟩⟩⟩⟩⟩⟩) := by kernel_rfl
-- tocsin/check.once[tocsin/api.Rule]
theorem d40 (a0 : Value) (H : AHeap) (k : Value → AHeap → Prop) : kbody prog Try.f40 [a0] H k = (@bndE (aBuiltin prog H Builtin.append #[48,48] [(.slice none 0 0),a0]) ⟨fun v6x1 H2 => k v6x1 H2⟩) := by kernel_rfl
-- tocsin/labels.letter
theorem d41 (a0 : Value) (H : AHeap) (k : Value → AHeap → Prop) : kbody prog Try.f41 [a0] H k = (@bnd (aBin2 prog H .geq 5 (.tmp 3) (.const (.int .u8 97)) a0 (.int .u8 97)) ⟨fun v4x1 => @bnd (gif v4x1 true ((some a0))
 undef) ⟨fun v6x2 => @bnd (gif v4x1 true (aBin2 prog H .leq 5 (.tmp 6) (.const (.int .u8 122)) v6x2 (.int .u8 122)) undef) ⟨fun v7x3 => @bnd (pickV v4x1 v7x3 (.bool false)) ⟨fun v8x4 => k v8x4 H⟩⟩⟩⟩) := by kernel_rfl
-- tocsin/labels.every
def L42x0 (n : Nat) (k : Value → AHeap → Prop) (sl : List Value) (H : AHeap) : Prop := kit prog (cl (cl (cr (cl (cr (cb Try.f42)))))) n (kblk 0 (kseq prog (cr (cr (cb Try.f42))) (kfin prog Try.f42 k))) .normal sl H
theorem d42 (a0 a1 : Value) (H : AHeap) (k : Value → AHeap → Prop) : kbody prog Try.f42 [a0,a1] H k = (@bnd (aLen prog H 9 a0) ⟨fun v7x1 => ∃ n,L42x0 n  k [a0,a1,undef,undef,(.bool false),undef,a0,v7x1,(.int
 .i64 0),undef,undef,undef,undef,undef,undef,undef,undef,undef] H⟩) := by kernel_rfl
theorem L42x0q (n0 : Nat) (s0 s1 s2 s3 s4 s5 s6 s7 s8 s9 s10 s11 s12 s13 s14 s15 s16 s17 : Value) (H : AHeap) (k : Value → AHeap → Prop) : L42x0 (n0 + 1) k [s0,s1,s2,s3,s4,s5,s6,s7,s8,s9,s10,s11,s12,s13,s14,s15,
 s16,s17] H = (@bnd (aBin2 prog H .lss 3 (.tmp 8) (.tmp 7) s8 s7) ⟨fun v9x2 => @kifB v9x2 ⟨@bnd (aIndex prog 9 s0 s8) ⟨fun v14x3 => @bndV prog s1 [v14x3] H ⟨fun v15x4 H5 => @bnd (unV prog .not v15x4) ⟨fun v16x6
 => @kifB v16x6 ⟨k (.bool false) H5⟩ ⟨@bnd (aBin2 prog H5 .add 3 (.tmp 8) (.const (.int .i64 1)) s8 (.int .i64 1)) ⟨fun v17x7 => L42x0 n0  k [s0,s1,s2,s3,s4,s8,s6,s7,v17x7,v9x2,s8,s1,s0,s8,v14x3,v15x4,v16x6,
 v17x7] H5⟩⟩⟩⟩⟩⟩ ⟨k (.bool true) H⟩⟩) := by kernel_rfl
-- tocsin/labels.mark
theorem d43 (a0 : Value) (H : AHeap) (k : Value → AHeap → Prop) : kbody prog Try.f43 [a0] H k = (@bndC prog 41 [a0] H ⟨fun v4x1 H2 => @bnd (gif v4x1 false ((some a0)) undef) ⟨fun v6x3 => @bnd (gif v4x1 false (aBin2
 prog H2 .geq 5 (.tmp 6) (.const (.int .u8 48)) v6x3 (.int .u8 48)) undef) ⟨fun v7x4 => @bnd (gif v4x1 false ((some v7x4)) undef) ⟨fun v8x5 => @bnd (gif v8x5 true ((some a0)) undef) ⟨fun v9x6 => @bnd (gif v8x5 true (aBin2
 prog H2 .leq 5 (.tmp 9) (.const (.int .u8 57)) v9x6 (.int .u8 57)) undef) ⟨fun v10x7 => @bnd (gif v4x1 false (pickV v8x5 v10x7 (.bool false)) undef) ⟨fun v11x8 => @bnd (pickV v4x1 (.bool true) v11x8) ⟨fun v12x9 => @bnd (gif
 v12x9 false ((some a0)) undef) ⟨fun v14x10 => @bnd (gif v12x9 false (aBin2 prog H2 .eql 5 (.tmp 14) (.const (.int .u8 95)) v14x10 (.int .u8 95)) undef) ⟨fun v15x11 => @bnd (pickV v12x9 (.bool true) v15x11) ⟨fun v16x12 => k
 v16x12 H2⟩⟩⟩⟩⟩⟩⟩⟩⟩⟩⟩) := by kernel_rfl
-- slices.IndexFunc[[]string,string]
def L44x0 (n : Nat) (k : Value → AHeap → Prop) (sl : List Value) (H : AHeap) : Prop := kit prog (cl (cl (cr (cl (cr (cb Try.f44)))))) n (kblk 0 (kseq prog (cr (cr (cb Try.f44))) (kfin prog Try.f44 k))) .normal sl H
theorem d44 (a0 a1 : Value) (H : AHeap) (k : Value → AHeap → Prop) : kbody prog Try.f44 [a0,a1] H k = (@bnd (aLen prog H 23 a0) ⟨fun v7x1 => ∃ n,L44x0 n  k [a0,a1,undef,undef,(.int .i64 0),undef,a0,v7x1,(.int
 .i64 0),undef,undef,undef,undef,undef,undef,undef,undef,undef,undef] H⟩) := by kernel_rfl
theorem L44x0q (n0 : Nat) (s0 s1 s2 s3 s4 s5 s6 s7 s8 s9 s10 s11 s12 s13 s14 s15 s16 s17 s18 : Value) (H : AHeap) (k : Value → AHeap → Prop) : L44x0 (n0 + 1) k [s0,s1,s2,s3,s4,s5,s6,s7,s8,s9,s10,s11,s12,s13,s14,
 s15,s16,s17,s18] H = (@bnd (aBin2 prog H .lss 3 (.tmp 8) (.tmp 7) s8 s7) ⟨fun v9x2 => @kifB v9x2 ⟨@bnd (aIndexAddr prog H 23 s0 s8) ⟨fun v14x3 => @bnd (aLoad prog H 9 v14x3) ⟨fun v15x4 => @bndV prog s1
 [v15x4] H ⟨fun v16x5 H6 => @kifB v16x5 ⟨k s8 H6⟩ ⟨@bnd (aBin2 prog H6 .add 3 (.tmp 8) (.const (.int .i64 1)) s8 (.int .i64 1)) ⟨fun v18x7 => L44x0 n0  k [s0,s1,s2,s3,s4,s8,s6,s7,v18x7,v9x2,s8,s1,s0,s8,v14x3,
 v15x4,v16x5,s17,v18x7] H6⟩⟩⟩⟩⟩⟩ ⟨k (.int .i64 (-1)) H⟩⟩) := by kernel_rfl
-- tocsin/expr.begin
def S45x0 (k : Value → AHeap → Prop) (sl : List Value) (H : AHeap) : Prop := kseq prog (cr (cr (cr (cr (cb Try.f45))))) (kfin prog Try.f45 k) .normal sl H
def S45x1 (k : Value → AHeap → Prop) (sl : List Value) (H : AHeap) : Prop := kseq prog (cr (cr (cr (cr (cr (cl (cr (cl (cr (cr (cr (cb Try.f45)))))))))))) (kblk 0 (kseq prog (cr (cr (cr (cr (cb Try.f45))))) (kfin prog
 Try.f45 k))) .normal sl H
theorem d45 (a0 a1 : Value) (H : AHeap) (k : Value → AHeap → Prop) : kbody prog Try.f45 [a0,a1] H k = (@bnd (aBin2 prog H .lss 3 (.tmp 7) (.const (.int .i64 0)) a1 (.int .i64 0)) ⟨fun v8x1 => @kifB v8x1 ⟨k (.int .i64
 (-1)) H⟩ ⟨@bnd (aIndexAddr prog H 22 a0 a1) ⟨fun v11x2 => @bnd (aLoad prog H 50 v11x2) ⟨fun v12x3 => @bndE (aAlloc prog H 50) ⟨fun v5x4 H5 => @bndS (aStore prog H5 50 v5x4 v12x3) ⟨fun _ H7 => @bnd (aFieldAddr
 prog H7 50 v5x4 0) ⟨fun v13x8 => @bnd (aLoad prog H7 5 v13x8) ⟨fun v14x9 => @bnd (aBin2 prog H7 .eql 5 (.tmp 14) (.const (.int .u8 0)) v14x9 (.int .u8 0)) ⟨fun v16x10 => @kifB v16x10 ⟨@bnd (aLoad prog H7 50
 v5x4) ⟨fun v17x11 => @bndC prog 52 [v17x11] H7 ⟨fun v18x12 H13 => @kifB v18x12 ⟨k a1 H13⟩ ⟨S45x0  k [a0,a1,undef,undef,(.int .i64 0),v5x4,undef,a1,v8x1,a0,a1,v11x2,v12x3,v13x8,v14x9,v16x10,v16x10,v17x11,
 v18x12,undef,undef,undef,undef,undef,undef,undef,undef,undef,undef,undef,undef,undef,undef,undef,undef,undef,undef,undef,undef,undef,undef,undef,undef,undef,undef,undef,undef,undef,undef,undef,
 undef,undef,undef,undef,undef,undef,undef,undef,undef,undef,undef,undef,undef,undef,undef,undef,undef,undef,undef,undef,undef] H13⟩⟩⟩⟩ ⟨@bnd (aBin2 prog H7 .eql 5 (.tmp 14) (.const (.int .u8 3)) v14x9
 (.int .u8 3)) ⟨fun v21x14 => @kifB v21x14 ⟨@bnd (aLoad prog H7 50 v5x4) ⟨fun v22x15 => @bndC prog 53 [v22x15] H7 ⟨fun v23x16 H17 => @bnd (gif v23x16 true (aFieldAddr prog H17 50 v5x4 6) undef) ⟨fun v25x18 => @bnd
 (gif v23x16 true (aLoad prog H17 3 v25x18) undef) ⟨fun v26x19 => @bnd (gif v23x16 true ((some a1)) undef) ⟨fun v27x20 => @bnd (gif v23x16 true (aBin2 prog H17 .sub 3 (.tmp 27) (.const (.int .i64 1)) v27x20 (.int .i64
 1)) undef) ⟨fun v28x21 => @bnd (gif v23x16 true (aBin2 prog H17 .eql 3 (.tmp 26) (.tmp 28) v26x19 v28x21) undef) ⟨fun v29x22 => @bnd (pickV v23x16 v29x22 (.bool false)) ⟨fun v30x23 => @bnd (gif v30x23 true (aFieldAddr
 prog H17 50 v5x4 7) undef) ⟨fun v32x24 => @bnd (gif v30x23 true (aLoad prog H17 3 v32x24) undef) ⟨fun v33x25 => @bnd (gif v30x23 true (aBin2 prog H17 .eql 3 (.tmp 33) (.const (.int .i64 0)) v33x25 (.int .i64 0))
 undef) ⟨fun v34x26 => @bnd (pickV v30x23 v34x26 (.bool false)) ⟨fun v35x27 => @kifB v35x27 ⟨@bnd (aBin2 prog H17 .sub 3 (.tmp 37) (.const (.int .i64 1)) a1 (.int .i64 1)) ⟨fun v38x28 => @bndC prog 45 [a0,v38x28] H17
 ⟨fun v39x29 H30 => k v39x29 H30⟩⟩⟩ ⟨S45x0  k [a0,a1,undef,undef,(.int .i64 0),v5x4,undef,a1,v8x1,a0,a1,v11x2,v12x3,v13x8,v14x9,v16x10,v16x10,undef,undef,undef,v21x14,v21x14,v22x15,v23x16,v23x16,v25x18,
 v26x19,v27x20,v28x21,v29x22,v30x23,v30x23,v32x24,v33x25,v34x26,v35x27,undef,undef,undef,undef,undef,undef,undef,undef,undef,undef,undef,undef,undef,undef,undef,undef,undef,undef,undef,undef,undef,
 undef,undef,undef,undef,undef,undef,undef,undef,undef,undef,undef,undef,undef,undef] H17⟩⟩⟩⟩⟩⟩⟩⟩⟩⟩⟩⟩⟩⟩ ⟨@bnd (aBin2 prog H7 .eql 5 (.tmp 14) (.const (.int .u8 1)) v14x9 (.int .u8 1)) ⟨fun v41x31 => @kifB v41x31
 ⟨S45x1  k [a0,a1,undef,undef,(.int .i64 0),v5x4,undef,a1,v8x1,a0,a1,v11x2,v12x3,v13x8,v14x9,v16x10,v16x10,undef,undef,undef,v21x14,v21x14,undef,undef,undef,undef,undef,undef,undef,undef,undef,
 undef,undef,undef,undef,undef,undef,undef,undef,undef,v41x31,v41x31,undef,undef,undef,undef,undef,undef,undef,undef,undef,undef,undef,undef,undef,undef,undef,undef,undef,undef,undef,undef,undef,
 undef,undef,undef,undef,undef,undef,undef,undef] H7⟩ ⟨@bnd (aBin2 prog H7 .eql 5 (.tmp 14) (.const (.int .u8 2)) v14x9 (.int .u8 2)) ⟨fun v42x32 => S45x1  k [a0,a1,undef,undef,(.int .i64 0),v5x4,undef,a1,
 v8x1,a0,a1,v11x2,v12x3,v13x8,v14x9,v16x10,v16x10,undef,undef,undef,v21x14,v21x14,undef,undef,undef,undef,undef,undef,undef,undef,undef,undef,undef,undef,undef,undef,undef,undef,undef,undef,
 v42x32,v41x31,v42x32,undef,undef,undef,undef,undef,undef,undef,undef,undef,undef,undef,undef,undef,undef,undef,undef,undef,undef,undef,undef,undef,undef,undef,undef,undef,undef,undef,undef]
 H7⟩⟩⟩⟩⟩⟩⟩⟩⟩⟩⟩⟩⟩⟩⟩) := by kernel_rfl
theorem S45x0q (s0 s1 s2 s3 s4 s5 s6 s7 s8 s9 s10 s11 s12 s13 s14 s15 s16 s17 s18 s19 s20 s21 s22 s23 s24 s25 s26 s27 s28 s29 s30 s31 s32 s33 s34 s35 s36 s37 s38 s39 s40 s41 s42 s43 s44 s45 s46 s47 s48 s49 s50 s51 s52 s53 s54 s55
 s56 s57 s58 s59 s60 s61 s62 s63 s64 s65 s66 s67 s68 s69 s70 : Value) (H : AHeap) (k : Value → AHeap → Prop) : S45x0 k [s0,s1,s2,s3,s4,s5,s6,s7,s8,s9,s10,s11,s12,s13,s14,s15,s16,s17,s18,s19,s20,s21,s22,
 s23,s24,s25,s26,s27,s28,s29,s30,s31,s32,s33,s34,s35,s36,s37,s38,s39,s40,s41,s42,s43,s44,s45,s46,s47,s48,s49,s50,s51,s52,s53,s54,s55,s56,s57,s58,s59,s60,s61,s62,s63,s64,s65,s66,s67,
 s68,s69,s70] H = (k (.int .i64 (-1)) H) := by kernel_rfl
theorem S45x1q (s0 s1 s2 s3 s4 s5 s6 s7 s8 s9 s10 s11 s12 s13 s14 s15 s16 s17 s18 s19 s20 s21 s22 s23 s24 s25 s26 s27 s28 s29 s30 s31 s32 s33 s34 s35 s36 s37 s38 s39 s40 s41 s42 s43 s44 s45 s46 s47 s48 s49 s50 s51 s52 s53 s54 s55
 s56 s57 s58 s59 s60 s61 s62 s63 s64 s65 s66 s67 s68 s69 s70 : Value) (H : AHeap) (k : Value → AHeap → Prop) : S45x1 k [s0,s1,s2,s3,s4,s5,s6,s7,s8,s9,s10,s11,s12,s13,s14,s15,s16,s17,s18,s19,s20,s21,s22,
 s23,s24,s25,s26,s27,s28,s29,s30,s31,s32,s33,s34,s35,s36,s37,s38,s39,s40,s41,s42,s43,s44,s45,s46,s47,s48,s49,s50,s51,s52,s53,s54,s55,s56,s57,s58,s59,s60,s61,s62,s63,s64,s65,s66,s67,
 s68,s69,s70] H = (@kifB s40 ⟨@bnd (aBin2 prog H .sub 3 (.tmp 44) (.const (.int .i64 1)) s1 (.int .i64 1)) ⟨fun v45x33 => @bndC prog 45 [s0,v45x33] H ⟨fun v46x34 H35 => @bnd (aLoad prog H35 50 s5) ⟨fun v47x36 =>
 @bndC prog 53 [v47x36] H35 ⟨fun v48x37 H38 => @bnd (gif v48x37 true (aFieldAddr prog H38 50 s5 7) undef) ⟨fun v50x39 => @bnd (gif v48x37 true (aLoad prog H38 3 v50x39) undef) ⟨fun v51x40 => @bnd (gif v48x37 true
 ((some s1)) undef) ⟨fun v52x41 => @bnd (gif v48x37 true (aBin2 prog H38 .sub 3 (.tmp 52) (.const (.int .i64 1)) v52x41 (.int .i64 1)) undef) ⟨fun v53x42 => @bnd (gif v48x37 true (aBin2 prog H38 .eql 3 (.tmp 51) (.tmp
 53) v51x40 v53x42) undef) ⟨fun v54x43 => @bnd (pickV v48x37 v54x43 (.bool false)) ⟨fun v55x44 => @bnd (gif v55x44 true ((some v46x34)) undef) ⟨fun v57x45 => @bnd (gif v55x44 true (aBin2 prog H38 .gtr 3 (.tmp 57) (.const
 (.int .i64 0)) v57x45 (.int .i64 0)) undef) ⟨fun v58x46 => @bnd (pickV v55x44 v58x46 (.bool false)) ⟨fun v59x47 => @bnd (gif v59x47 true (aFieldAddr prog H38 50 s5 6) undef) ⟨fun v61x48 => @bnd (gif v59x47 true (aLoad
 prog H38 3 v61x48) undef) ⟨fun v62x49 => @bnd (gif v59x47 true ((some v46x34)) undef) ⟨fun v63x50 => @bnd (gif v59x47 true (aBin2 prog H38 .sub 3 (.tmp 63) (.const (.int .i64 1)) v63x50 (.int .i64 1)) undef) ⟨fun v64x51
 => @bnd (gif v59x47 true (aBin2 prog H38 .eql 3 (.tmp 62) (.tmp 64) v62x49 v64x51) undef) ⟨fun v65x52 => @bnd (pickV v59x47 v65x52 (.bool false)) ⟨fun v66x53 => @kifB v66x53 ⟨@bnd (aBin2 prog H38 .sub 3 (.tmp 68)
 (.const (.int .i64 1)) v46x34 (.int .i64 1)) ⟨fun v69x54 => @bndC prog 45 [s0,v69x54] H38 ⟨fun v70x55 H56 => k v70x55 H56⟩⟩⟩ ⟨S45x0  k [s0,s1,s2,s3,s4,s5,v46x34,s7,s8,s9,s10,s11,s12,s13,s14,s15,s16,s17,
 s18,s19,s20,s21,s22,s23,s24,s25,s26,s27,s28,s29,s30,s31,s32,s33,s34,s35,s36,s37,s38,s39,s40,s41,s42,s0,s1,v45x33,v46x34,v47x36,v48x37,v48x37,v50x39,v51x40,v52x41,v53x42,v54x43,v55x44,
 v55x44,v57x45,v58x46,v59x47,v59x47,v61x48,v62x49,v63x50,v64x51,v65x52,v66x53,s67,s68,s69,s70] H38⟩⟩⟩⟩⟩⟩⟩⟩⟩⟩⟩⟩⟩⟩⟩⟩⟩⟩⟩⟩⟩ ⟨S45x0  k [s0,s1,s2,s3,s4,s5,s6,s7,s8,s9,s10,s11,s12,s13,s14,s15,s16,s17,
 s18,s19,s20,s21,s22,s23,s24,s25,s26,s27,s28,s29,s30,s31,s32,s33,s34,s35,s36,s37,s38,s39,s40,s41,s42,s43,s44,s45,s46,s47,s48,s49,s50,s51,s52,s53,s54,s55,s56,s57,s58,s59,s60,s61,s62,
 s63,s64,s65,s66,s67,s68,s69,s70] H⟩) := by kernel_rfl
-- tocsin/tocsinref07.MayName
def L46x0 (n : Nat) (k : Value → AHeap → Prop) (sl : List Value) (H : AHeap) : Prop := kit prog (cl (cl (cr (cl (cr (cr (cb Try.f46))))))) n (kblk 0 (kseq prog (cr (cr (cr (cb Try.f46)))) (kfin prog Try.f46 k)))
 .normal sl H
theorem d46 (a0 : Value) (H : AHeap) (k : Value → AHeap → Prop) : kbody prog Try.f46 [a0] H k = (@bnd (aLen prog H 9 a0) ⟨fun v5x1 => @bnd (aBin2 prog H .lss 3 (.tmp 5) (.const (.int .i64 1)) v5x1 (.int .i64 1)) ⟨fun
 v6x2 => @bnd (gif v6x2 false ((some a0)) undef) ⟨fun v8x3 => @bnd (gif v6x2 false (aLen prog H 9 v8x3) undef) ⟨fun v9x4 => @bnd (gif v6x2 false (aBin2 prog H .gtr 3 (.tmp 9) (.const (.int .i64 16)) v9x4 (.int .i64 16))
 undef) ⟨fun v10x5 => @bnd (pickV v6x2 (.bool true) v10x5) ⟨fun v11x6 => @bnd (gif v11x6 false ((some a0)) undef) ⟨fun v13x7 => @bnd (gif v11x6 false (aIndex prog 9 v13x7 (.int .i64 0)) undef) ⟨fun v14x8 => @bnd (gif v11x6
 false (aBin2 prog H .lss 5 (.tmp 14) (.const (.int .u8 97)) v14x8 (.int .u8 97)) undef) ⟨fun v15x9 => @bnd (pickV v11x6 (.bool true) v15x9) ⟨fun v16x10 => @bnd (gif v16x10 false ((some a0)) undef) ⟨fun v18x11 => @bnd (gif
 v16x10 false (aIndex prog 9 v18x11 (.int .i64 0)) undef) ⟨fun v19x12 => @bnd (gif v16x10 false (aBin2 prog H .gtr 5 (.tmp 19) (.const (.int .u8 122)) v19x12 (.int .u8 122)) undef) ⟨fun v20x13 => @bnd (pickV v16x10
 (.bool true) v20x13) ⟨fun v21x14 => @kifB v21x14 ⟨k (.bool false) H⟩ ⟨∃ n,L46x0 n  k [a0,undef,(.bool false),(.int .i64 0),a0,v5x1,v6x2,v6x2,v8x3,v9x4,v10x5,v11x6,v11x6,v13x7,v14x8,v15x9,v16x10,v16x10,v18x11,
 v19x12,v20x13,v21x14,undef,undef,undef,undef,undef,undef,undef,undef,undef,undef,undef,undef,undef,undef,undef,undef,undef,undef,undef,undef,undef,undef,undef,undef,undef,undef,undef,undef,undef,
 undef,undef,undef,undef,undef,undef] H⟩⟩⟩⟩⟩⟩⟩⟩⟩⟩⟩⟩⟩⟩⟩) := by kernel_rfl
theorem L46x0q (n0 : Nat) (s0 s1 s2 s3 s4 s5 s6 s7 s8 s9 s10 s11 s12 s13 s14 s15 s16 s17 s18 s19 s20 s21 s22 s23 s24 s25 s26 s27 s28 s29 s30 s31 s32 s33 s34 s35 s36 s37 s38 s39 s40 s41 s42 s43 s44 s45 s46 s47 s48 s49 s50 s51 s52
 s53 s54 s55 s56 : Value) (H : AHeap) (k : Value → AHeap → Prop) : L46x0 (n0 + 1) k [s0,s1,s2,s3,s4,s5,s6,s7,s8,s9,s10,s11,s12,s13,s14,s15,s16,s17,s18,s19,s20,s21,s22,s23,s24,s25,s26,s27,s28,s29,
 s30,s31,s32,s33,s34,s35,s36,s37,s38,s39,s40,s41,s42,s43,s44,s45,s46,s47,s48,s49,s50,s51,s52,s53,s54,s55,s56] H = (@bnd (aLen prog H 9 s0) ⟨fun v24x15 => @bnd (aBin2 prog H .lss 3 (.tmp 22)
 (.tmp 24) s3 v24x15) ⟨fun v25x16 => @kifB v25x16 ⟨@bnd (aIndex prog 9 s0 s3) ⟨fun v30x17 => @bnd (aBin2 prog H .geq 5 (.tmp 30) (.const (.int .u8 97)) v30x17 (.int .u8 97)) ⟨fun v31x18 => @bnd (gif v31x18 true ((some
 s0)) undef) ⟨fun v33x19 => @bnd (gif v31x18 true ((some s3)) undef) ⟨fun v34x20 => @bnd (gif v31x18 true (aIndex prog 9 v33x19 v34x20) undef) ⟨fun v35x21 => @bnd (gif v31x18 true (aBin2 prog H .leq 5 (.tmp 35) (.const
 (.int .u8 122)) v35x21 (.int .u8 122)) undef) ⟨fun v36x22 => @bnd (pickV v31x18 v36x22 (.bool false)) ⟨fun v37x23 => @bnd (gif v37x23 false ((some s0)) undef) ⟨fun v39x24 => @bnd (gif v37x23 false ((some s3)) undef) ⟨fun v40x25
 => @bnd (gif v37x23 false (aIndex prog 9 v39x24 v40x25) undef) ⟨fun v41x26 => @bnd (gif v37x23 false (aBin2 prog H .geq 5 (.tmp 41) (.const (.int .u8 48)) v41x26 (.int .u8 48)) undef) ⟨fun v42x27 => @bnd (gif v37x23
 false ((some v42x27)) undef) ⟨fun v43x28 => @bnd (gif v43x28 true ((some s0)) undef) ⟨fun v44x29 => @bnd (gif v43x28 true ((some s3)) undef) ⟨fun v45x30 => @bnd (gif v43x28 true (aIndex prog 9 v44x29 v45x30) undef) ⟨fun
 v46x31 => @bnd (gif v43x28 true (aBin2 prog H .leq 5 (.tmp 46) (.const (.int .u8 57)) v46x31 (.int .u8 57)) undef) ⟨fun v47x32 => @bnd (gif v37x23 false (pickV v43x28 v47x32 (.bool false)) undef) ⟨fun v48x33 => @bnd (pickV
 v37x23 (.bool true) v48x33) ⟨fun v49x34 => @bnd (gif v49x34 false ((some s0)) undef) ⟨fun v51x35 => @bnd (gif v49x34 false ((some s3)) undef) ⟨fun v52x36 => @bnd (gif v49x34 false (aIndex prog 9 v51x35 v52x36) undef) ⟨fun
 v53x37 => @bnd (gif v49x34 false (aBin2 prog H .eql 5 (.tmp 53) (.const (.int .u8 95)) v53x37 (.int .u8 95)) undef) ⟨fun v54x38 => @bnd (pickV v49x34 (.bool true) v54x38) ⟨fun v55x39 => @bnd (unV prog .not v55x39) ⟨fun
 v56x40 => @kifB v56x40 ⟨k (.bool false) H⟩ ⟨@bnd (aBin2 prog H .add 3 (.tmp 26) (.const (.int .i64 1)) s3 (.int .i64 1)) ⟨fun v27x41 => L46x0 n0  k [s0,s1,s2,v27x41,s4,s5,s6,s7,s8,s9,s10,s11,s12,s13,s14,s15,
 s16,s17,s18,s19,s20,s21,s3,s0,v24x15,v25x16,s3,v27x41,s0,s3,v30x17,v31x18,v31x18,v33x19,v34x20,v35x21,v36x22,v37x23,v37x23,v39x24,v40x25,v41x26,v42x27,v43x28,v44x29,v45x30,v46x31,v47x32,v48x33,
 v49x34,v49x34,v51x35,v52x36,v53x37,v54x38,v55x39,v56x40] H⟩⟩⟩⟩⟩⟩⟩⟩⟩⟩⟩⟩⟩⟩⟩⟩⟩⟩⟩⟩⟩⟩⟩⟩⟩⟩⟩ ⟨k (.bool true) H⟩⟩⟩) := by kernel_rfl
-- tocsin/tocsinref10.Right
theorem d47 (a0 : Value) (H : AHeap) (k : Value → AHeap → Prop) : kbody prog Try.f47 [a0] H k = (@bndC prog 54 [a0] H ⟨fun v4x1 H2 => @bnd (aBin2 prog H2 .neq 9 (.tmp 4) (.const (.string { data := #[] })) v4x1
 (.string { data := #[] })) ⟨fun v5x3 => k v5x3 H2⟩⟩) := by kernel_rfl
-- slices.Index[[]bool,bool]
def L48x0 (n : Nat) (k : Value → AHeap → Prop) (sl : List Value) (H : AHeap) : Prop := kit prog (cl (cl (cr (cl (cr (cb Try.f48)))))) n (kblk 0 (kseq prog (cr (cr (cb Try.f48))) (kfin prog Try.f48 k))) .normal sl H
theorem d48 (a0 a1 : Value) (H : AHeap) (k : Value → AHeap → Prop) : kbody prog Try.f48 [a0,a1] H k = (@bnd (aLen prog H 63 a0) ⟨fun v7x1 => ∃ n,L48x0 n  k [a0,a1,undef,undef,(.int .i64 0),undef,a0,v7x1,(.int
 .i64 0),undef,undef,undef,undef,undef,undef,undef,undef,undef,undef] H⟩) := by kernel_rfl
theorem L48x0q (n0 : Nat) (s0 s1 s2 s3 s4 s5 s6 s7 s8 s9 s10 s11 s12 s13 s14 s15 s16 s17 s18 : Value) (H : AHeap) (k : Value → AHeap → Prop) : L48x0 (n0 + 1) k [s0,s1,s2,s3,s4,s5,s6,s7,s8,s9,s10,s11,s12,s13,s14,
 s15,s16,s17,s18] H = (@bnd (aBin2 prog H .lss 3 (.tmp 8) (.tmp 7) s8 s7) ⟨fun v9x2 => @kifB v9x2 ⟨@bnd (aIndexAddr prog H 63 s0 s8) ⟨fun v14x3 => @bnd (aLoad prog H 4 v14x3) ⟨fun v15x4 => @bnd (aBin2 prog H
 .eql 4 (.tmp 11) (.tmp 15) s1 v15x4) ⟨fun v16x5 => @kifB v16x5 ⟨k s8 H⟩ ⟨@bnd (aBin2 prog H .add 3 (.tmp 8) (.const (.int .i64 1)) s8 (.int .i64 1)) ⟨fun v18x6 => L48x0 n0  k [s0,s1,s2,s3,s4,s8,s6,s7,v18x6,v9x2,
 s8,s1,s0,s8,v14x3,v15x4,v16x5,s17,v18x6] H⟩⟩⟩⟩⟩⟩ ⟨k (.int .i64 (-1)) H⟩⟩) := by kernel_rfl
-- tocsin/tocsinref08.Same
def L49x0 (n : Nat) (k : Value → AHeap → Prop) (sl : List Value) (H : AHeap) : Prop := kit prog (cl (cl (cr (cl (cr (cr (cb Try.f49))))))) n (kblk 0 (kseq prog (cr (cr (cr (cb Try.f49)))) (kfin prog Try.f49 k)))
 .normal sl H
theorem d49 (a0 a1 : Value) (H : AHeap) (k : Value → AHeap → Prop) : kbody prog Try.f49 [a0,a1] H k = (@bnd (aLen prog H 48 a0) ⟨fun v7x1 => @bnd (aLen prog H 48 a1) ⟨fun v9x2 => @bnd (aBin2 prog H .neq 3 (.tmp
 7) (.tmp 9) v7x1 v9x2) ⟨fun v10x3 => @kifB v10x3 ⟨k (.bool false) H⟩ ⟨∃ n,L49x0 n  k [a0,a1,undef,undef,(.bool false),(.int .i64 0),a0,v7x1,a1,v9x2,v10x3,undef,undef,undef,undef,undef,undef,undef,undef,
 undef,undef,undef,undef,undef,undef,undef] H⟩⟩⟩⟩) := by kernel_rfl
theorem L49x0q (n0 : Nat) (s0 s1 s2 s3 s4 s5 s6 s7 s8 s9 s10 s11 s12 s13 s14 s15 s16 s17 s18 s19 s20 s21 s22 s23 s24 s25 : Value) (H : AHeap) (k : Value → AHeap → Prop) : L49x0 (n0 + 1) k [s0,s1,s2,s3,s4,s5,s6,s7,s8,s9,
 s10,s11,s12,s13,s14,s15,s16,s17,s18,s19,s20,s21,s22,s23,s24,s25] H = (@bnd (aLen prog H 48 s0) ⟨fun v13x4 => @bnd (aBin2 prog H .lss 3 (.tmp 11) (.tmp 13) s5 v13x4) ⟨fun v14x5 => @kifB v14x5 ⟨@bnd
 (aIndexAddr prog H 48 s0 s5) ⟨fun v19x6 => @bnd (aLoad prog H 52 v19x6) ⟨fun v20x7 => @bnd (aIndexAddr prog H 48 s1 s5) ⟨fun v23x8 => @bnd (aLoad prog H 52 v23x8) ⟨fun v24x9 => @bnd (aBin2 prog H .neq 52
 (.tmp 20) (.tmp 24) v20x7 v24x9) ⟨fun v25x10 => @kifB v25x10 ⟨k (.bool false) H⟩ ⟨@bnd (aBin2 prog H .add 3 (.tmp 15) (.const (.int .i64 1)) s5 (.int .i64 1)) ⟨fun v16x11 => L49x0 n0  k [s0,s1,s2,s3,s4,v16x11,s6,s7,
 s8,s9,s10,s5,s0,v13x4,v14x5,s5,v16x11,s0,s5,v19x6,v20x7,s1,s5,v23x8,v24x9,v25x10] H⟩⟩⟩⟩⟩⟩⟩⟩ ⟨k (.bool true) H⟩⟩⟩) := by kernel_rfl
-- slices.IndexFunc[[]tocsin/api.Mute,tocsin/api.Mute]
end Go.Vi
namespace Go.Vi
open Go Go.Proofs Go.Proofs.Try
-- tocsin/expr.plain
theorem d52 (a0 : Value) (H : AHeap) (k : Value → AHeap → Prop) : kbody prog Try.f52 [a0] H k = (@bndE (aNew H 50 a0) ⟨fun v1x1 H2 => @bnd (aFieldAddr prog H2 50 v1x1 1) ⟨fun v3x3 => @bnd (aLoad prog H2 5 v3x3) ⟨fun
 v4x4 => @bnd (convV prog H2 5 3 v4x4) ⟨fun v5x5 => @bndD false H2 ⟨fun v6x6 H7 => ACalls prog 55 [] H2 v6x6 H7⟩ ⟨fun v6x6 H7 => @bnd (aLen prog H7 23 v6x6) ⟨fun v7x8 => @bnd (aBin2 prog H7 .lss 3 (.tmp 5) (.tmp
 7) v5x5 v7x8) ⟨fun v8x9 => @bnd (gif v8x9 true (aFieldAddr prog H7 50 v1x1 2) undef) ⟨fun v10x10 => @bnd (gif v8x9 true (aLoad prog H7 48 v10x10) undef) ⟨fun v11x11 => @bndD true H7 ⟨fun v12x12 H13 => gifp v8x9 true
 (ACalls prog 56 [v11x11] H7 v12x12 H13) (v12x12 = undef ∧ H13 = H7)⟩ ⟨fun v12x12 H13 => @bnd (pickV v8x9 v12x12 (.bool false)) ⟨fun v13x14 => @bnd (gif v13x14 true (aFieldAddr prog H13 50 v1x1 3) undef) ⟨fun v15x15 =>
 @bnd (gif v13x14 true (aLoad prog H13 3 v15x15) undef) ⟨fun v16x16 => @bnd (gif v13x14 true (aBin2 prog H13 .geq 3 (.tmp 16) (.const (.int .i64 1)) v16x16 (.int .i64 1)) undef) ⟨fun v17x17 => @bnd (pickV v13x14 v17x17
 (.bool false)) ⟨fun v18x18 => @bnd (gif v18x18 true (aFieldAddr prog H13 50 v1x1 3) undef) ⟨fun v20x19 => @bnd (gif v18x18 true (aLoad prog H13 3 v20x19) undef) ⟨fun v21x20 => @bnd (gif v18x18 true (aBin2 prog H13
 .leq 3 (.tmp 21) (.const (.int .i64 1000)) v21x20 (.int .i64 1000)) undef) ⟨fun v22x21 => @bnd (pickV v18x18 v22x21 (.bool false)) ⟨fun v23x22 => @bnd (gif v23x22 true (aFieldAddr prog H13 50 v1x1 4) undef) ⟨fun v25x23 =>
 @bnd (gif v23x22 true (aLoad prog H13 5 v25x23) undef) ⟨fun v26x24 => @bnd (gif v23x22 true (convV prog H13 5 3 v26x24) undef) ⟨fun v27x25 => @bndD false H13 ⟨fun v28x26 H27 => gifp v23x22 true (ACalls prog 57 []
 H13 v28x26 H27) (v28x26 = undef ∧ H27 = H13)⟩ ⟨fun v28x26 H27 => @bnd (gif v23x22 true (aLen prog H27 23 v28x26) undef) ⟨fun v29x28 => @bnd (gif v23x22 true (aBin2 prog H27 .lss 3 (.tmp 27) (.tmp 29) v27x25 v29x28)
 undef) ⟨fun v30x29 => @bnd (pickV v23x22 v30x29 (.bool false)) ⟨fun v31x30 => @bnd (gif v31x30 true (aFieldAddr prog H27 50 v1x1 5) undef) ⟨fun v33x31 => @bnd (gif v31x30 true (aLoad prog H27 2 v33x31) undef) ⟨fun
 v34x32 => @bndD false H27 ⟨fun v35x33 H34 => gifp v31x30 true (ACalls prog 58 [v34x32] H27 v35x33 H34) (v35x33 = undef ∧ H34 = H27)⟩ ⟨fun v35x33 H34 => @bnd (gif v31x30 true (aFieldAddr prog H27 50 v1x1 5) undef) ⟨fun
 v36x35 => @bnd (gif v31x30 true (aLoad prog H27 2 v36x35) undef) ⟨fun v37x36 => @bnd (gif v31x30 true (aBin2 prog H34 .eql 2 (.tmp 35) (.tmp 37) v35x33 v37x36) undef) ⟨fun v38x37 => @bnd (pickV v31x30 v38x37 (.bool
 false)) ⟨fun v39x38 => @bnd (gif v39x38 true (aFieldAddr prog H34 50 v1x1 6) undef) ⟨fun v41x39 => @bnd (gif v39x38 true (aLoad prog H34 3 v41x39) undef) ⟨fun v42x40 => @bnd (gif v39x38 true (aBin2 prog H34 .eql 3
 (.tmp 42) (.const (.int .i64 0)) v42x40 (.int .i64 0)) undef) ⟨fun v43x41 => @bnd (pickV v39x38 v43x41 (.bool false)) ⟨fun v44x42 => @bnd (gif v44x42 true (aFieldAddr prog H34 50 v1x1 7) undef) ⟨fun v46x43 => @bnd (gif
 v44x42 true (aLoad prog H34 3 v46x43) undef) ⟨fun v47x44 => @bnd (gif v44x42 true (aBin2 prog H34 .eql 3 (.tmp 47) (.const (.int .i64 0)) v47x44 (.int .i64 0)) undef) ⟨fun v48x45 => @bnd (pickV v44x42 v48x45 (.bool
 false)) ⟨fun v49x46 => k v49x46 H34⟩⟩⟩⟩⟩⟩⟩⟩⟩⟩⟩⟩⟩⟩⟩⟩⟩⟩⟩⟩⟩⟩⟩⟩⟩⟩⟩⟩⟩⟩⟩⟩⟩⟩⟩⟩⟩⟩⟩⟩⟩) := by kernel_rfl
-- tocsin/expr.void
theorem d53 (a0 : Value) (H : AHeap) (k : Value → AHeap → Prop) : kbody prog Try.f53 [a0] H k = (@bndE (aNew H 50 a0) ⟨fun v1x1 H2 => @bnd (aFieldAddr prog H2 50 v1x1 1) ⟨fun v3x3 => @bnd (aLoad prog H2 5 v3x3) ⟨fun
 v4x4 => @bnd (aBin2 prog H2 .eql 5 (.tmp 4) (.const (.int .u8 0)) v4x4 (.int .u8 0)) ⟨fun v5x5 => @bnd (gif v5x5 true (aFieldAddr prog H2 50 v1x1 2) undef) ⟨fun v7x6 => @bnd (gif v5x5 true (aLoad prog H2 48 v7x6)
 undef) ⟨fun v8x7 => @bnd (gif v5x5 true (aLen prog H2 48 v8x7) undef) ⟨fun v9x8 => @bnd (gif v5x5 true (aBin2 prog H2 .eql 3 (.tmp 9) (.const (.int .i64 0)) v9x8 (.int .i64 0)) undef) ⟨fun v10x9 => @bnd (pickV v5x5
 v10x9 (.bool false)) ⟨fun v11x10 => @bnd (gif v11x10 true (aFieldAddr prog H2 50 v1x1 3) undef) ⟨fun v13x11 => @bnd (gif v11x10 true (aLoad prog H2 3 v13x11) undef) ⟨fun v14x12 => @bnd (gif v11x10 true (aBin2 prog
 H2 .eql 3 (.tmp 14) (.const (.int .i64 0)) v14x12 (.int .i64 0)) undef) ⟨fun v15x13 => @bnd (pickV v11x10 v15x13 (.bool false)) ⟨fun v16x14 => @bnd (gif v16x14 true (aFieldAddr prog H2 50 v1x1 4) undef) ⟨fun v18x15 => @bnd
 (gif v16x14 true (aLoad prog H2 5 v18x15) undef) ⟨fun v19x16 => @bnd (gif v16x14 true (aBin2 prog H2 .eql 5 (.tmp 19) (.const (.int .u8 0)) v19x16 (.int .u8 0)) undef) ⟨fun v20x17 => @bnd (pickV v16x14 v20x17 (.bool
 false)) ⟨fun v21x18 => @bnd (gif v21x18 true (aFieldAddr prog H2 50 v1x1 5) undef) ⟨fun v23x19 => @bnd (gif v21x18 true (aLoad prog H2 2 v23x19) undef) ⟨fun v24x20 => @bnd (gif v21x18 true (aBin2 prog H2 .eql 2
 (.tmp 24) (.const (.int .i64 0)) v24x20 (.int .i64 0)) undef) ⟨fun v25x21 => @bnd (pickV v21x18 v25x21 (.bool false)) ⟨fun v26x22 => k v26x22 H2⟩⟩⟩⟩⟩⟩⟩⟩⟩⟩⟩⟩⟩⟩⟩⟩⟩⟩⟩⟩⟩) := by kernel_rfl
-- tocsin/tocsinref10.Print
def L54x0 (n : Nat) (k : Value → AHeap → Prop) (sl : List Value) (H : AHeap) : Prop := kit prog (cl (cl (cr (cl (cr (cr (cb Try.f54))))))) n (kblk 0 (kseq prog (cr (cr (cr (cb Try.f54)))) (kfin prog Try.f54 k)))
 .normal sl H
def L54x1 (n : Nat) (k : Value → AHeap → Prop) (sl : List Value) (H : AHeap) : Prop := kit prog (cl (cl (cr (cl (cr (cr (cr (cr (cb Try.f54))))))))) n (kblk 2 (kseq prog (cr (cr (cr (cr (cr (cb Try.f54)))))) (kfin
 prog Try.f54 k))) .normal sl H
def S54x0 (n1 : Nat) (k : Value → AHeap → Prop) (sl : List Value) (H : AHeap) : Prop := kseq prog (cr (cr (cl (cl (cr (cl (cl (cr (cl (cr (cr (cr (cr (cb Try.f54)))))))))))))) (kblk 3 (kseq prog (cr (cr (cl (cl (cr (cl
 (cr (cr (cr (cr (cb Try.f54))))))))))) (kit prog (cl (cl (cr (cl (cr (cr (cr (cr (cb Try.f54))))))))) n1 (kblk 2 (kseq prog (cr (cr (cr (cr (cr (cb Try.f54)))))) (kfin prog Try.f54 k)))))) .normal sl H
theorem d54 (a0 : Value) (H : AHeap) (k : Value → AHeap → Prop) : kbody prog Try.f54 [a0] H k = (@bnd (aLen prog H 22 a0) ⟨fun v15x1 => @bnd (aBin2 prog H .lss 3 (.tmp 15) (.const (.int .i64 1)) v15x1 (.int .i64 1))
 ⟨fun v16x2 => @bnd (gif v16x2 false ((some a0)) undef) ⟨fun v18x3 => @bnd (gif v16x2 false (aLen prog H 22 v18x3) undef) ⟨fun v19x4 => @bnd (gif v16x2 false (aBin2 prog H .gtr 3 (.tmp 19) (.const (.int .i64 31)) v19x4
 (.int .i64 31)) undef) ⟨fun v20x5 => @bnd (pickV v16x2 (.bool true) v20x5) ⟨fun v21x6 => @kifB v21x6 ⟨k (.string { data := #[] }) H⟩ ⟨∃ n,L54x0 n  k [a0,undef,(.string { data := #[] }),(.int .i64 0),undef,undef,undef,
 undef,undef,undef,undef,undef,undef,undef,a0,v15x1,v16x2,v16x2,v18x3,v19x4,v20x5,v21x6,undef,undef,undef,undef,undef,undef,undef,undef,undef,undef,undef,undef,undef,undef,undef,undef,undef,undef,
 undef,undef,undef,undef,undef,undef,undef,undef,undef,undef,undef,undef,undef,undef,undef,undef,undef,undef,undef,undef,undef,undef,undef,undef,undef,undef,undef,undef,undef,undef,undef,undef,
 undef,undef,undef,undef,undef,undef,undef,undef,undef,undef,undef,undef,undef,undef,undef,undef,undef,undef,undef,undef,undef,undef,undef,undef,undef,undef,undef,undef,undef,undef,undef,undef,
 undef,undef,undef,undef,undef,undef,undef,undef,undef,undef,undef,undef,undef,undef,undef,undef,undef,undef,undef,undef,undef,undef,undef,undef,undef,undef,undef,undef,undef,undef,undef,undef,
 undef,undef,undef,undef,undef,undef,undef,undef,undef,undef,undef,undef,undef,undef,undef,undef,undef,undef,undef,undef,undef,undef,undef,undef,undef,undef,undef,undef,undef,undef,undef,undef,
 undef,undef,undef,undef,undef,undef,undef,undef,undef,undef,undef,undef,undef,undef,undef,undef,undef,undef,undef,undef,undef,undef,undef,undef,undef,undef,undef,undef,undef,undef,undef,undef,
 undef,undef,undef,undef,undef,undef,undef,undef,undef,undef,undef,undef,undef,undef,undef,undef,undef,undef,undef,undef,undef,undef,undef,undef,undef,undef,undef,undef,undef,undef,undef,undef,
 undef,undef,undef,undef,undef,undef,undef,undef,undef,undef,undef,undef,undef,undef,undef,undef,undef,undef,undef,undef,undef,undef,undef,undef] H⟩⟩⟩⟩⟩⟩⟩) := by kernel_rfl
theorem L54x0q (n0 : Nat) (s0 s1 s2 s3 s4 s5 s6 s7 s8 s9 s10 s11 s12 s13 s14 s15 s16 s17 s18 s19 s20 s21 s22 s23 s24 s25 s26 s27 s28 s29 s30 s31 s32 s33 s34 s35 s36 s37 s38 s39 s40 s41 s42 s43 s44 s45 s46 s47 s48 s49 s50 s51 s52
 s53 s54 s55 s56 s57 s58 s59 s60 s61 s62 s63 s64 s65 s66 s67 s68 s69 s70 s71 s72 s73 s74 s75 s76 s77 s78 s79 s80 s81 s82 s83 s84 s85 s86 s87 s88 s89 s90 s91 s92 s93 s94 s95 s96 s97 s98 s99 s100 s101 s102 s103 s104 s105 s106 s107
 s108 s109 s110 s111 s112 s113 s114 s115 s116 s117 s118 s119 s120 s121 s122 s123 s124 s125 s126 s127 s128 s129 s130 s131 s132 s133 s134 s135 s136 s137 s138 s139 s140 s141 s142 s143 s144 s145 s146 s147 s148 s149 s150 s151 s152
 s153 s154 s155 s156 s157 s158 s159 s160 s161 s162 s163 s164 s165 s166 s167 s168 s169 s170 s171 s172 s173 s174 s175 s176 s177 s178 s179 s180 s181 s182 s183 s184 s185 s186 s187 s188 s189 s190 s191 s192 s193 s194 s195 s196 s197
 s198 s199 s200 s201 s202 s203 s204 s205 s206 s207 s208 s209 s210 s211 s212 s213 s214 s215 s216 s217 s218 s219 s220 s221 s222 s223 s224 s225 s226 s227 s228 s229 s230 s231 s232 s233 s234 s235 s236 s237 s238 s239 s240 s241 s242
 s243 s244 s245 s246 s247 s248 s249 s250 s251 s252 s253 s254 s255 : Value) (H : AHeap) (k : Value → AHeap → Prop) : L54x0 (n0 + 1) k [s0,s1,s2,s3,s4,s5,s6,s7,s8,s9,s10,s11,s12,s13,s14,s15,s16,s17,s18,s19,s20,
 s21,s22,s23,s24,s25,s26,s27,s28,s29,s30,s31,s32,s33,s34,s35,s36,s37,s38,s39,s40,s41,s42,s43,s44,s45,s46,s47,s48,s49,s50,s51,s52,s53,s54,s55,s56,s57,s58,s59,s60,s61,s62,s63,s64,s65,
 s66,s67,s68,s69,s70,s71,s72,s73,s74,s75,s76,s77,s78,s79,s80,s81,s82,s83,s84,s85,s86,s87,s88,s89,s90,s91,s92,s93,s94,s95,s96,s97,s98,s99,s100,s101,s102,s103,s104,s105,s106,s107,s108,
 s109,s110,s111,s112,s113,s114,s115,s116,s117,s118,s119,s120,s121,s122,s123,s124,s125,s126,s127,s128,s129,s130,s131,s132,s133,s134,s135,s136,s137,s138,s139,s140,s141,s142,s143,s144,s145,s146,
 s147,s148,s149,s150,s151,s152,s153,s154,s155,s156,s157,s158,s159,s160,s161,s162,s163,s164,s165,s166,s167,s168,s169,s170,s171,s172,s173,s174,s175,s176,s177,s178,s179,s180,s181,s182,s183,s184,
 s185,s186,s187,s188,s189,s190,s191,s192,s193,s194,s195,s196,s197,s198,s199,s200,s201,s202,s203,s204,s205,s206,s207,s208,s209,s210,s211,s212,s213,s214,s215,s216,s217,s218,s219,s220,s221,s222,
 s223,s224,s225,s226,s227,s228,s229,s230,s231,s232,s233,s234,s235,s236,s237,s238,s239,s240,s241,s242,s243,s244,s245,s246,s247,s248,s249,s250,s251,s252,s253,s254,s255] H = (@bnd (aLen prog H 22
 s0) ⟨fun v24x7 => @bnd (aBin2 prog H .lss 3 (.tmp 22) (.tmp 24) s3 v24x7) ⟨fun v25x8 => @kifB v25x8 ⟨@bnd (aIndexAddr prog H 22 s0 s3) ⟨fun v30x9 => @bnd (aLoad prog H 50 v30x9) ⟨fun v31x10 => @bndE (aAlloc prog
 H 50) ⟨fun v4x11 H12 => @bndS (aStore prog H12 50 v4x11 v31x10) ⟨fun _ H14 => @bnd (aFieldAddr prog H14 50 v4x11 0) ⟨fun v32x15 => @bnd (aLoad prog H14 5 v32x15) ⟨fun v33x16 => @bnd (aBin2 prog H14 .gtr 5 (.tmp
 33) (.const (.int .u8 3)) v33x16 (.int .u8 3)) ⟨fun v34x17 => @bnd (gif v34x17 false (aFieldAddr prog H14 50 v4x11 0) undef) ⟨fun v36x18 => @bnd (gif v34x17 false (aLoad prog H14 5 v36x18) undef) ⟨fun v37x19 => @bnd
 (gif v34x17 false (aBin2 prog H14 .eql 5 (.tmp 37) (.const (.int .u8 0)) v37x19 (.int .u8 0)) undef) ⟨fun v38x20 => @bnd (gif v34x17 false ((some v38x20)) undef) ⟨fun v39x21 => @bnd (gif v39x21 true (aFieldAddr prog H14
 50 v4x11 1) undef) ⟨fun v40x22 => @bnd (gif v39x21 true (aLoad prog H14 5 v40x22) undef) ⟨fun v41x23 => @bnd (gif v39x21 true (aBin2 prog H14 .gtr 5 (.tmp 41) (.const (.int .u8 5)) v41x23 (.int .u8 5)) undef) ⟨fun
 v42x24 => @bnd (gif v39x21 true ((some v42x24)) undef) ⟨fun v43x25 => @bnd (gif v43x25 false (aFieldAddr prog H14 50 v4x11 4) undef) ⟨fun v44x26 => @bnd (gif v43x25 false (aLoad prog H14 5 v44x26) undef) ⟨fun v45x27 =>
 @bnd (gif v43x25 false (aBin2 prog H14 .gtr 5 (.tmp 45) (.const (.int .u8 5)) v45x27 (.int .u8 5)) undef) ⟨fun v46x28 => @bnd (gif v39x21 true (pickV v43x25 (.bool true) v46x28) undef) ⟨fun v47x29 => @bnd (gif v34x17 false
 (pickV v39x21 v47x29 (.bool false)) undef) ⟨fun v48x30 => @bnd (pickV v34x17 (.bool true) v48x30) ⟨fun v49x31 => @bnd (gif v49x31 false (aFieldAddr prog H14 50 v4x11 0) undef) ⟨fun v51x32 => @bnd (gif v49x31 false (aLoad
 prog H14 5 v51x32) undef) ⟨fun v52x33 => @bnd (gif v49x31 false (aBin2 prog H14 .gtr 5 (.tmp 52) (.const (.int .u8 0)) v52x33 (.int .u8 0)) undef) ⟨fun v53x34 => @bnd (gif v49x31 false ((some v53x34)) undef) ⟨fun v54x35
 => @bnd (gif v54x35 true (aFieldAddr prog H14 50 v4x11 6) undef) ⟨fun v55x36 => @bnd (gif v54x35 true (aLoad prog H14 3 v55x36) undef) ⟨fun v56x37 => @bnd (gif v54x35 true (aBin2 prog H14 .lss 3 (.tmp 56) (.const
 (.int .i64 0)) v56x37 (.int .i64 0)) undef) ⟨fun v57x38 => @bnd (gif v54x35 true ((some v57x38)) undef) ⟨fun v58x39 => @bnd (gif v58x39 false (aFieldAddr prog H14 50 v4x11 6) undef) ⟨fun v59x40 => @bnd (gif v58x39 false
 (aLoad prog H14 3 v59x40) undef) ⟨fun v60x41 => @bnd (gif v58x39 false ((some s3)) undef) ⟨fun v61x42 => @bnd (gif v58x39 false (aBin2 prog H14 .geq 3 (.tmp 60) (.tmp 61) v60x41 v61x42) undef) ⟨fun v62x43 => @bnd (gif
 v54x35 true (pickV v58x39 (.bool true) v62x43) undef) ⟨fun v63x44 => @bnd (gif v54x35 true ((some v63x44)) undef) ⟨fun v64x45 => @bnd (gif v64x45 false (aFieldAddr prog H14 50 v4x11 7) undef) ⟨fun v65x46 => @bnd (gif v64x45
 false (aLoad prog H14 3 v65x46) undef) ⟨fun v66x47 => @bnd (gif v64x45 false (aBin2 prog H14 .lss 3 (.tmp 66) (.const (.int .i64 0)) v66x47 (.int .i64 0)) undef) ⟨fun v67x48 => @bnd (gif v54x35 true (pickV v64x45 (.bool
 true) v67x48) undef) ⟨fun v68x49 => @bnd (gif v54x35 true ((some v68x49)) undef) ⟨fun v69x50 => @bnd (gif v69x50 false (aFieldAddr prog H14 50 v4x11 7) undef) ⟨fun v70x51 => @bnd (gif v69x50 false (aLoad prog H14 3
 v70x51) undef) ⟨fun v71x52 => @bnd (gif v69x50 false ((some s3)) undef) ⟨fun v72x53 => @bnd (gif v69x50 false (aBin2 prog H14 .geq 3 (.tmp 71) (.tmp 72) v71x52 v72x53) undef) ⟨fun v73x54 => @bnd (gif v69x50 false ((some
 v73x54)) undef) ⟨fun v74x55 => @bnd (gif v74x55 true (aFieldAddr prog H14 50 v4x11 0) undef) ⟨fun v75x56 => @bnd (gif v74x55 true (aLoad prog H14 5 v75x56) undef) ⟨fun v76x57 => @bnd (gif v74x55 true (aBin2 prog H14
 .neq 5 (.tmp 76) (.const (.int .u8 3)) v76x57 (.int .u8 3)) undef) ⟨fun v77x58 => @bnd (gif v69x50 false (pickV v74x55 v77x58 (.bool false)) undef) ⟨fun v78x59 => @bnd (gif v54x35 true (pickV v69x50 (.bool true) v78x59) undef)
 ⟨fun v79x60 => @bnd (gif v49x31 false (pickV v54x35 v79x60 (.bool false)) undef) ⟨fun v80x61 => @bnd (pickV v49x31 (.bool true) v80x61) ⟨fun v81x62 => @kifB v81x62 ⟨k (.string { data := #[] }) H14⟩ ⟨@bnd (aBin2 prog H14
 .add 3 (.tmp 26) (.const (.int .i64 1)) s3 (.int .i64 1)) ⟨fun v27x63 => L54x0 n0  k [s0,s1,s2,v27x63,v4x11,s5,s6,s7,s8,s9,s10,s11,s12,s13,s14,s15,s16,s17,s18,s19,s20,s21,s3,s0,v24x7,v25x8,s3,v27x63,
 s0,s3,v30x9,v31x10,v32x15,v33x16,v34x17,v34x17,v36x18,v37x19,v38x20,v39x21,v40x22,v41x23,v42x24,v43x25,v44x26,v45x27,v46x28,v47x29,v48x30,v49x31,v49x31,v51x32,v52x33,v53x34,v54x35,v55x36,v56x37,
 v57x38,v58x39,v59x40,v60x41,v61x42,v62x43,v63x44,v64x45,v65x46,v66x47,v67x48,v68x49,v69x50,v70x51,v71x52,v72x53,v73x54,v74x55,v75x56,v76x57,v77x58,v78x59,v79x60,v80x61,v81x62,s82,s83,s84,s85,s86,
 s87,s88,s89,s90,s91,s92,s93,s94,s95,s96,s97,s98,s99,s100,s101,s102,s103,s104,s105,s106,s107,s108,s109,s110,s111,s112,s113,s114,s115,s116,s117,s118,s119,s120,s121,s122,s123,s124,s125,s126,
 s127,s128,s129,s130,s131,s132,s133,s134,s135,s136,s137,s138,s139,s140,s141,s142,s143,s144,s145,s146,s147,s148,s149,s150,s151,s152,s153,s154,s155,s156,s157,s158,s159,s160,s161,s162,s163,s164,
 s165,s166,s167,s168,s169,s170,s171,s172,s173,s174,s175,s176,s177,s178,s179,s180,s181,s182,s183,s184,s185,s186,s187,s188,s189,s190,s191,s192,s193,s194,s195,s196,s197,s198,s199,s200,s201,s202,
 s203,s204,s205,s206,s207,s208,s209,s210,s211,s212,s213,s214,s215,s216,s217,s218,s219,s220,s221,s222,s223,s224,s225,s226,s227,s228,s229,s230,s231,s232,s233,s234,s235,s236,s237,s238,s239,s240,
 s241,s242,s243,s244,s245,s246,s247,s248,s249,s250,s251,s252,s253,s254,s255] H14⟩⟩⟩⟩⟩⟩⟩⟩⟩⟩⟩⟩⟩⟩⟩⟩⟩⟩⟩⟩⟩⟩⟩⟩⟩⟩⟩⟩⟩⟩⟩⟩⟩⟩⟩⟩⟩⟩⟩⟩⟩⟩⟩⟩⟩⟩⟩⟩⟩⟩⟩⟩⟩⟩⟩ ⟨@bnd (aLen prog H 22 s0) ⟨fun v83x64 => @bndE (aMake prog H 23 v83x64
 v83x64) ⟨fun v84x65 H66 => ∃ n,L54x1 n  k [s0,s1,s2,s3,s4,v84x65,(.int .i64 0),s7,s8,s9,s10,s11,s12,s13,s14,s15,s16,s17,s18,s19,s20,s21,s3,s0,v24x7,v25x8,s26,s27,s28,s29,s30,s31,s32,s33,s34,
 s35,s36,s37,s38,s39,s40,s41,s42,s43,s44,s45,s46,s47,s48,s49,s50,s51,s52,s53,s54,s55,s56,s57,s58,s59,s60,s61,s62,s63,s64,s65,s66,s67,s68,s69,s70,s71,s72,s73,s74,s75,s76,s77,s78,s79,
 s80,s81,s0,v83x64,v84x65,s85,s86,s87,s88,s89,s90,s91,s92,s93,s94,s95,s96,s97,s98,s99,s100,s101,s102,s103,s104,s105,s106,s107,s108,s109,s110,s111,s112,s113,s114,s115,s116,s117,s118,s119,
 s120,s121,s122,s123,s124,s125,s126,s127,s128,s129,s130,s131,s132,s133,s134,s135,s136,s137,s138,s139,s140,s141,s142,s143,s144,s145,s146,s147,s148,s149,s150,s151,s152,s153,s154,s155,s156,s157,
 s158,s159,s160,s161,s162,s163,s164,s165,s166,s167,s168,s169,s170,s171,s172,s173,s174,s175,s176,s177,s178,s179,s180,s181,s182,s183,s184,s185,s186,s187,s188,s189,s190,s191,s192,s193,s194,s195,
 s196,s197,s198,s199,s200,s201,s202,s203,s204,s205,s206,s207,s208,s209,s210,s211,s212,s213,s214,s215,s216,s217,s218,s219,s220,s221,s222,s223,s224,s225,s226,s227,s228,s229,s230,s231,s232,s233,
 s234,s235,s236,s237,s238,s239,s240,s241,s242,s243,s244,s245,s246,s247,s248,s249,s250,s251,s252,s253,s254,s255] H66⟩⟩⟩⟩⟩) := by kernel_rfl
theorem L54x1q (n1 : Nat) (s0 s1 s2 s3 s4 s5 s6 s7 s8 s9 s10 s11 s12 s13 s14 s15 s16 s17 s18 s19 s20 s21 s22 s23 s24 s25 s26 s27 s28 s29 s30 s31 s32 s33 s34 s35 s36 s37 s38 s39 s40 s41 s42 s43 s44 s45 s46 s47 s48 s49 s50 s51 s52
 s53 s54 s55 s56 s57 s58 s59 s60 s61 s62 s63 s64 s65 s66 s67 s68 s69 s70 s71 s72 s73 s74 s75 s76 s77 s78 s79 s80 s81 s82 s83 s84 s85 s86 s87 s88 s89 s90 s91 s92 s93 s94 s95 s96 s97 s98 s99 s100 s101 s102 s103 s104 s105 s106 s107
 s108 s109 s110 s111 s112 s113 s114 s115 s116 s117 s118 s119 s120 s121 s122 s123 s124 s125 s126 s127 s128 s129 s130 s131 s132 s133 s134 s135 s136 s137 s138 s139 s140 s141 s142 s143 s144 s145 s146 s147 s148 s149 s150 s151 s152
 s153 s154 s155 s156 s157 s158 s159 s160 s161 s162 s163 s164 s165 s166 s167 s168 s169 s170 s171 s172 s173 s174 s175 s176 s177 s178 s179 s180 s181 s182 s183 s184 s185 s186 s187 s188 s189 s190 s191 s192 s193 s194 s195 s196 s197
 s198 s199 s200 s201 s202 s203 s204 s205 s206 s207 s208 s209 s210 s211 s212 s213 s214 s215 s216 s217 s218 s219 s220 s221 s222 s223 s224 s225 s226 s227 s228 s229 s230 s231 s232 s233 s234 s235 s236 s237 s238 s239 s240 s241 s242
 s243 s244 s245 s246 s247 s248 s249 s250 s251 s252 s253 s254 s255 : Value) (H : AHeap) (k : Value → AHeap → Prop) : L54x1 (n1 + 1) k [s0,s1,s2,s3,s4,s5,s6,s7,s8,s9,s10,s11,s12,s13,s14,s15,s16,s17,s18,s19,s20,
 s21,s22,s23,s24,s25,s26,s27,s28,s29,s30,s31,s32,s33,s34,s35,s36,s37,s38,s39,s40,s41,s42,s43,s44,s45,s46,s47,s48,s49,s50,s51,s52,s53,s54,s55,s56,s57,s58,s59,s60,s61,s62,s63,s64,s65,
 s66,s67,s68,s69,s70,s71,s72,s73,s74,s75,s76,s77,s78,s79,s80,s81,s82,s83,s84,s85,s86,s87,s88,s89,s90,s91,s92,s93,s94,s95,s96,s97,s98,s99,s100,s101,s102,s103,s104,s105,s106,s107,s108,
 s109,s110,s111,s112,s113,s114,s115,s116,s117,s118,s119,s120,s121,s122,s123,s124,s125,s126,s127,s128,s129,s130,s131,s132,s133,s134,s135,s136,s137,s138,s139,s140,s141,s142,s143,s144,s145,s146,
 s147,s148,s149,s150,s151,s152,s153,s154,s155,s156,s157,s158,s159,s160,s161,s162,s163,s164,s165,s166,s167,s168,s169,s170,s171,s172,s173,s174,s175,s176,s177,s178,s179,s180,s181,s182,s183,s184,
 s185,s186,s187,s188,s189,s190,s191,s192,s193,s194,s195,s196,s197,s198,s199,s200,s201,s202,s203,s204,s205,s206,s207,s208,s209,s210,s211,s212,s213,s214,s215,s216,s217,s218,s219,s220,s221,s222,
 s223,s224,s225,s226,s227,s228,s229,s230,s231,s232,s233,s234,s235,s236,s237,s238,s239,s240,s241,s242,s243,s244,s245,s246,s247,s248,s249,s250,s251,s252,s253,s254,s255] H = (@bnd (aLen prog H 22
 s0) ⟨fun v87x67 => @bnd (aBin2 prog H .lss 3 (.tmp 85) (.tmp 87) s6 v87x67) ⟨fun v88x68 => @kifB v88x68 ⟨@bnd (aIndexAddr prog H 22 s0 s6) ⟨fun v93x69 => @bnd (aLoad prog H 50 v93x69) ⟨fun v94x70 => @bndE (aAlloc
 prog H 50) ⟨fun v7x71 H72 => @bndS (aStore prog H72 50 v7x71 v94x70) ⟨fun _ H74 => @bnd (aFieldAddr prog H74 50 v7x71 0) ⟨fun v95x75 => @bnd (aLoad prog H74 5 v95x75) ⟨fun v96x76 => @bnd (aBin2 prog H74 .eql
 5 (.tmp 96) (.const (.int .u8 0)) v96x76 (.int .u8 0)) ⟨fun v98x77 => @kifB v98x77 ⟨@bnd (aFieldAddr prog H74 50 v7x71 1) ⟨fun v101x78 => @bnd (aLoad prog H74 5 v101x78) ⟨fun v102x79 => @bnd (convV prog H74 5 3
 v102x79) ⟨fun v103x80 => @bndD false H74 ⟨fun v104x81 H82 => ACalls prog 59 [v103x80] H74 v104x81 H82⟩ ⟨fun v104x81 H82 => @bnd (aBin2 prog H82 .add 9 (.tmp 104) (.const (.string { data := #[40] })) v104x81 (.string {
 data := #[40] })) ⟨fun v105x83 => @bnd (aFieldAddr prog H74 50 v7x71 2) ⟨fun v106x84 => @bnd (aLoad prog H74 48 v106x84) ⟨fun v107x85 => @bndD false H82 ⟨fun v108x86 H87 => ACalls prog 60 [v107x85] H82 v108x86 H87⟩
 ⟨fun v108x86 H87 => @bnd (aBin2 prog H87 .add 9 (.tmp 105) (.tmp 108) v105x83 v108x86) ⟨fun v109x88 => @bnd (aBin2 prog H87 .add 9 (.tmp 109) (.const (.string { data := #[91] })) v109x88 (.string { data := #[91] }))
 ⟨fun v110x89 => @bnd (aFieldAddr prog H74 50 v7x71 3) ⟨fun v111x90 => @bnd (aLoad prog H74 3 v111x90) ⟨fun v112x91 => @bndD false H87 ⟨fun v113x92 H93 => ACalls prog 61 [v112x91] H87 v113x92 H93⟩ ⟨fun v113x92 H93 =>
 @bnd (aBin2 prog H93 .add 9 (.tmp 110) (.tmp 113) v110x89 v113x92) ⟨fun v114x94 => @bnd (aBin2 prog H93 .add 9 (.tmp 114) (.const (.string { data := #[93,41,32] })) v114x94 (.string { data := #[93,41,32] })) ⟨fun
 v115x95 => @bnd (aFieldAddr prog H74 50 v7x71 4) ⟨fun v116x96 => @bnd (aLoad prog H74 5 v116x96) ⟨fun v117x97 => @bnd (convV prog H74 5 3 v117x97) ⟨fun v118x98 => @bndD false H93 ⟨fun v119x99 H100 => ACalls prog
 62 [v118x98] H93 v119x99 H100⟩ ⟨fun v119x99 H100 => @bnd (aBin2 prog H100 .add 9 (.tmp 115) (.tmp 119) v115x95 v119x99) ⟨fun v120x101 => @bnd (aBin2 prog H100 .add 9 (.tmp 120) (.const (.string { data := #[32] }))
 v120x101 (.string { data := #[32] })) ⟨fun v121x102 => @bnd (aFieldAddr prog H74 50 v7x71 5) ⟨fun v122x103 => @bnd (aLoad prog H74 2 v122x103) ⟨fun v123x104 => @bndD false H100 ⟨fun v124x105 H106 => ACalls prog 63
 [v123x104] H100 v124x105 H106⟩ ⟨fun v124x105 H106 => @bnd (aBin2 prog H106 .add 9 (.tmp 121) (.tmp 124) v121x102 v124x105) ⟨fun v125x107 => @bnd (aIndexAddr prog H106 23 s5 s6) ⟨fun v126x108 => @bndD true H106 ⟨fun x109
 H110 => x109 = undef ∧ aStore prog H106 9 v126x108 v125x107 = some H110⟩ ⟨fun _ H110 => S54x0 n1 k [s0,s1,s2,s3,s4,s5,s6,v7x71,s8,s9,s10,s11,s12,s13,s14,s15,s16,s17,s18,s19,s20,s21,s22,s23,s24,s25,
 s26,s27,s28,s29,s30,s31,s32,s33,s34,s35,s36,s37,s38,s39,s40,s41,s42,s43,s44,s45,s46,s47,s48,s49,s50,s51,s52,s53,s54,s55,s56,s57,s58,s59,s60,s61,s62,s63,s64,s65,s66,s67,s68,s69,s70,
 s71,s72,s73,s74,s75,s76,s77,s78,s79,s80,s81,s82,s83,s84,s6,s0,v87x67,v88x68,s89,s90,s0,s6,v93x69,v94x70,v95x75,v96x76,v98x77,v98x77,s5,s6,v101x78,v102x79,v103x80,v104x81,v105x83,v106x84,
 v107x85,v108x86,v109x88,v110x89,v111x90,v112x91,v113x92,v114x94,v115x95,v116x96,v117x97,v118x98,v119x99,v120x101,v121x102,v122x103,v123x104,v124x105,v125x107,v126x108,s127,s128,s129,s130,s131,s132,
 s133,s134,s135,s136,s137,s138,s139,s140,s141,s142,s143,s144,s145,s146,s147,s148,s149,s150,s151,s152,s153,s154,s155,s156,s157,s158,s159,s160,s161,s162,s163,s164,s165,s166,s167,s168,s169,s170,
 s171,s172,s173,s174,s175,s176,s177,s178,s179,s180,s181,s182,s183,s184,s185,s186,s187,s188,s189,s190,s191,s192,s193,s194,s195,s196,s197,s198,s199,s200,s201,s202,s203,s204,s205,s206,s207,s208,
 s209,s210,s211,s212,s213,s214,s215,s216,s217,s218,s219,s220,s221,s222,s223,s224,s225,s226,s227,s228,s229,s230,s231,s232,s233,s234,s235,s236,s237,s238,s239,s240,s241,s242,s243,s244,s245,s246,
 s247,s248,s249,s250,s251,s252,s253,s254,s255] H110⟩⟩⟩⟩⟩⟩⟩⟩⟩⟩⟩⟩⟩⟩⟩⟩⟩⟩⟩⟩⟩⟩⟩⟩⟩⟩⟩⟩ ⟨@bnd (aBin2 prog H74 .eql 5 (.tmp 96) (.const (.int .u8 1)) v96x76 (.int .u8 1)) ⟨fun v128x111 => @kifB v128x111 ⟨@bnd (aFieldAddr
 prog H74 50 v7x71 6) ⟨fun v133x112 => @bnd (aLoad prog H74 3 v133x112) ⟨fun v134x113 => @bnd (aFieldAddr prog H74 50 v7x71 6) ⟨fun v136x114 => @bnd (aLoad prog H74 3 v136x114) ⟨fun v137x115 => @bnd (aIndexAddr
 prog H74 22 s0 v137x115) ⟨fun v138x116 => @bnd (aFieldAddr prog H74 50 v138x116 0) ⟨fun v139x117 => @bnd (aLoad prog H74 5 v139x117) ⟨fun v140x118 => @bnd (aBin2 prog H74 .eql 5 (.tmp 140) (.const (.int .u8 2))
 v140x118 (.int .u8 2)) ⟨fun v141x119 => @bndD false H74 ⟨fun v142x120 H121 => ACalls prog 64 [s0,s5,v134x113,v141x119] H74 v142x120 H121⟩ ⟨fun v142x120 H121 => @bnd (aBin2 prog H121 .add 9 (.tmp 142) (.const (.string
 { data := #[32,97,110,100,32] })) v142x120 (.string { data := #[32,97,110,100,32] })) ⟨fun v143x122 => @bnd (aFieldAddr prog H74 50 v7x71 7) ⟨fun v146x123 => @bnd (aLoad prog H74 3 v146x123) ⟨fun v147x124 =>
 @bnd (aFieldAddr prog H74 50 v7x71 7) ⟨fun v149x125 => @bnd (aLoad prog H74 3 v149x125) ⟨fun v150x126 => @bnd (aIndexAddr prog H74 22 s0 v150x126) ⟨fun v151x127 => @bnd (aFieldAddr prog H74 50 v151x127 0) ⟨fun
 v152x128 => @bnd (aLoad prog H74 5 v152x128) ⟨fun v153x129 => @bnd (aBin2 prog H74 .eql 5 (.tmp 153) (.const (.int .u8 1)) v153x129 (.int .u8 1)) ⟨fun v154x130 => @bnd (gif v154x130 false ((some s0)) undef) ⟨fun
 v156x131 => @bnd (gif v154x130 false (aFieldAddr prog H121 50 v7x71 7) undef) ⟨fun v157x132 => @bnd (gif v154x130 false (aLoad prog H121 3 v157x132) undef) ⟨fun v158x133 => @bnd (gif v154x130 false (aIndexAddr prog
 H121 22 v156x131 v158x133) undef) ⟨fun v159x134 => @bnd (gif v154x130 false (aFieldAddr prog H121 50 v159x134 0) undef) ⟨fun v160x135 => @bnd (gif v154x130 false (aLoad prog H121 5 v160x135) undef) ⟨fun v161x136 => @bnd
 (gif v154x130 false (aBin2 prog H121 .eql 5 (.tmp 161) (.const (.int .u8 2)) v161x136 (.int .u8 2)) undef) ⟨fun v162x137 => @bnd (pickV v154x130 (.bool true) v162x137) ⟨fun v163x138 => @bndD false H121 ⟨fun v164x139 H140 =>
 ACalls prog 64 [s0,s5,v147x124,v163x138] H121 v164x139 H140⟩ ⟨fun v164x139 H140 => @bnd (aBin2 prog H140 .add 9 (.tmp 143) (.tmp 164) v143x122 v164x139) ⟨fun v165x141 => @bnd (aIndexAddr prog H140 23 s5 s6) ⟨fun
 v166x142 => @bndD true H140 ⟨fun x143 H144 => x143 = undef ∧ aStore prog H140 9 v166x142 v165x141 = some H144⟩ ⟨fun _ H144 => S54x0 n1 k [s0,s1,s2,s3,s4,s5,s6,v7x71,s8,s9,s10,s11,s12,s13,s14,s15,s16,s17,
 s18,s19,s20,s21,s22,s23,s24,s25,s26,s27,s28,s29,s30,s31,s32,s33,s34,s35,s36,s37,s38,s39,s40,s41,s42,s43,s44,s45,s46,s47,s48,s49,s50,s51,s52,s53,s54,s55,s56,s57,s58,s59,s60,s61,s62,
 s63,s64,s65,s66,s67,s68,s69,s70,s71,s72,s73,s74,s75,s76,s77,s78,s79,s80,s81,s82,s83,s84,s6,s0,v87x67,v88x68,s89,s90,s0,s6,v93x69,v94x70,v95x75,v96x76,v98x77,v98x77,s99,s100,s101,s102,
 s103,s104,s105,s106,s107,s108,s109,s110,s111,s112,s113,s114,s115,s116,s117,s118,s119,s120,s121,s122,s123,s124,s125,s126,v128x111,v128x111,s5,s6,s0,s5,v133x112,v134x113,s0,v136x114,v137x115,
 v138x116,v139x117,v140x118,v141x119,v142x120,v143x122,s0,s5,v146x123,v147x124,s0,v149x125,v150x126,v151x127,v152x128,v153x129,v154x130,v154x130,v156x131,v157x132,v158x133,v159x134,v160x135,v161x136,
 v162x137,v163x138,v164x139,v165x141,v166x142,s167,s168,s169,s170,s171,s172,s173,s174,s175,s176,s177,s178,s179,s180,s181,s182,s183,s184,s185,s186,s187,s188,s189,s190,s191,s192,s193,s194,s195,
 s196,s197,s198,s199,s200,s201,s202,s203,s204,s205,s206,s207,s208,s209,s210,s211,s212,s213,s214,s215,s216,s217,s218,s219,s220,s221,s222,s223,s224,s225,s226,s227,s228,s229,s230,s231,s232,s233,
 s234,s235,s236,s237,s238,s239,s240,s241,s242,s243,s244,s245,s246,s247,s248,s249,s250,s251,s252,s253,s254,s255] H144⟩⟩⟩⟩⟩⟩⟩⟩⟩⟩⟩⟩⟩⟩⟩⟩⟩⟩⟩⟩⟩⟩⟩⟩⟩⟩⟩⟩⟩⟩⟩ ⟨@bnd (aBin2 prog H74 .eql 5 (.tmp 96) (.const (.int
 .u8 2)) v96x76 (.int .u8 2)) ⟨fun v168x145 => @kifB v168x145 ⟨@bnd (aFieldAddr prog H74 50 v7x71 6) ⟨fun v172x146 => @bnd (aLoad prog H74 3 v172x146) ⟨fun v173x147 => @bnd (aIndexAddr prog H74 23 s5 v173x147) ⟨fun
 v174x148 => @bnd (aLoad prog H74 9 v174x148) ⟨fun v175x149 => @bnd (aBin2 prog H74 .add 9 (.tmp 175) (.const (.string { data := #[32,111,114,32] })) v175x149 (.string { data := #[32,111,114,32] })) ⟨fun v176x150
 => @bnd (aFieldAddr prog H74 50 v7x71 7) ⟨fun v179x151 => @bnd (aLoad prog H74 3 v179x151) ⟨fun v180x152 => @bnd (aFieldAddr prog H74 50 v7x71 7) ⟨fun v182x153 => @bnd (aLoad prog H74 3 v182x153) ⟨fun v183x154
 => @bnd (aIndexAddr prog H74 22 s0 v183x154) ⟨fun v184x155 => @bnd (aFieldAddr prog H74 50 v184x155 0) ⟨fun v185x156 => @bnd (aLoad prog H74 5 v185x156) ⟨fun v186x157 => @bnd (aBin2 prog H74 .eql 5 (.tmp 186)
 (.const (.int .u8 2)) v186x157 (.int .u8 2)) ⟨fun v187x158 => @bndD false H74 ⟨fun v188x159 H160 => ACalls prog 64 [s0,s5,v180x152,v187x158] H74 v188x159 H160⟩ ⟨fun v188x159 H160 => @bnd (aBin2 prog H160 .add 9 (.tmp
 176) (.tmp 188) v176x150 v188x159) ⟨fun v189x161 => @bnd (aIndexAddr prog H160 23 s5 s6) ⟨fun v190x162 => @bndD true H160 ⟨fun x163 H164 => x163 = undef ∧ aStore prog H160 9 v190x162 v189x161 = some H164⟩ ⟨fun _ H164 =>
 S54x0 n1 k [s0,s1,s2,s3,s4,s5,s6,v7x71,s8,s9,s10,s11,s12,s13,s14,s15,s16,s17,s18,s19,s20,s21,s22,s23,s24,s25,s26,s27,s28,s29,s30,s31,s32,s33,s34,s35,s36,s37,s38,s39,s40,s41,s42,s43,
 s44,s45,s46,s47,s48,s49,s50,s51,s52,s53,s54,s55,s56,s57,s58,s59,s60,s61,s62,s63,s64,s65,s66,s67,s68,s69,s70,s71,s72,s73,s74,s75,s76,s77,s78,s79,s80,s81,s82,s83,s84,s6,s0,v87x67,
 v88x68,s89,s90,s0,s6,v93x69,v94x70,v95x75,v96x76,v98x77,v98x77,s99,s100,s101,s102,s103,s104,s105,s106,s107,s108,s109,s110,s111,s112,s113,s114,s115,s116,s117,s118,s119,s120,s121,s122,s123,
 s124,s125,s126,v128x111,v128x111,s129,s130,s131,s132,s133,s134,s135,s136,s137,s138,s139,s140,s141,s142,s143,s144,s145,s146,s147,s148,s149,s150,s151,s152,s153,s154,s155,s156,s157,s158,s159,
 s160,s161,s162,s163,s164,s165,s166,v168x145,v168x145,s5,s6,s5,v172x146,v173x147,v174x148,v175x149,v176x150,s0,s5,v179x151,v180x152,s0,v182x153,v183x154,v184x155,v185x156,v186x157,v187x158,v188x159,
 v189x161,v190x162,s191,s192,s193,s194,s195,s196,s197,s198,s199,s200,s201,s202,s203,s204,s205,s206,s207,s208,s209,s210,s211,s212,s213,s214,s215,s216,s217,s218,s219,s220,s221,s222,s223,s224,
 s225,s226,s227,s228,s229,s230,s231,s232,s233,s234,s235,s236,s237,s238,s239,s240,s241,s242,s243,s244,s245,s246,s247,s248,s249,s250,s251,s252,s253,s254,s255] H164⟩⟩⟩⟩⟩⟩⟩⟩⟩⟩⟩⟩⟩⟩⟩⟩⟩⟩ ⟨@bnd (aBin2
 prog H74 .eql 5 (.tmp 96) (.const (.int .u8 3)) v96x76 (.int .u8 3)) ⟨fun v192x165 => @kifB v192x165 ⟨@bnd (aFieldAddr prog H74 50 v7x71 6) ⟨fun v197x166 => @bnd (aLoad prog H74 3 v197x166) ⟨fun v198x167 => @bnd
 (aFieldAddr prog H74 50 v7x71 6) ⟨fun v200x168 => @bnd (aLoad prog H74 3 v200x168) ⟨fun v201x169 => @bnd (aIndexAddr prog H74 22 s0 v201x169) ⟨fun v202x170 => @bnd (aFieldAddr prog H74 50 v202x170 0) ⟨fun
 v203x171 => @bnd (aLoad prog H74 5 v203x171) ⟨fun v204x172 => @bnd (aBin2 prog H74 .eql 5 (.tmp 204) (.const (.int .u8 1)) v204x172 (.int .u8 1)) ⟨fun v205x173 => @bnd (gif v205x173 false ((some s0)) undef) ⟨fun
 v207x174 => @bnd (gif v205x173 false (aFieldAddr prog H74 50 v7x71 6) undef) ⟨fun v208x175 => @bnd (gif v205x173 false (aLoad prog H74 3 v208x175) undef) ⟨fun v209x176 => @bnd (gif v205x173 false (aIndexAddr prog
 H74 22 v207x174 v209x176) undef) ⟨fun v210x177 => @bnd (gif v205x173 false (aFieldAddr prog H74 50 v210x177 0) undef) ⟨fun v211x178 => @bnd (gif v205x173 false (aLoad prog H74 5 v211x178) undef) ⟨fun v212x179 => @bnd
 (gif v205x173 false (aBin2 prog H74 .eql 5 (.tmp 212) (.const (.int .u8 2)) v212x179 (.int .u8 2)) undef) ⟨fun v213x180 => @bnd (pickV v205x173 (.bool true) v213x180) ⟨fun v214x181 => @bndD true H74 ⟨fun v215x182 H183 =>
 ACalls prog 64 [s0,s5,v198x167,v214x181] H74 v215x182 H183⟩ ⟨fun v215x182 H183 => @bnd (aBin2 prog H183 .add 9 (.const (.string { data := #[110,111,116,32] })) (.tmp 215) (.string { data := #[110,111,116,32] })
 v215x182) ⟨fun v216x184 => @bnd (aIndexAddr prog H183 23 s5 s6) ⟨fun v217x185 => @bndD true H183 ⟨fun x186 H187 => x186 = undef ∧ aStore prog H183 9 v217x185 v216x184 = some H187⟩ ⟨fun _ H187 => S54x0 n1 k [s0,s1,s2,
 s3,s4,s5,s6,v7x71,s8,s9,s10,s11,s12,s13,s14,s15,s16,s17,s18,s19,s20,s21,s22,s23,s24,s25,s26,s27,s28,s29,s30,s31,s32,s33,s34,s35,s36,s37,s38,s39,s40,s41,s42,s43,s44,s45,s46,s47,s48,
 s49,s50,s51,s52,s53,s54,s55,s56,s57,s58,s59,s60,s61,s62,s63,s64,s65,s66,s67,s68,s69,s70,s71,s72,s73,s74,s75,s76,s77,s78,s79,s80,s81,s82,s83,s84,s6,s0,v87x67,v88x68,s89,s90,s0,s6,
 v93x69,v94x70,v95x75,v96x76,v98x77,v98x77,s99,s100,s101,s102,s103,s104,s105,s106,s107,s108,s109,s110,s111,s112,s113,s114,s115,s116,s117,s118,s119,s120,s121,s122,s123,s124,s125,s126,v128x111,
 v128x111,s129,s130,s131,s132,s133,s134,s135,s136,s137,s138,s139,s140,s141,s142,s143,s144,s145,s146,s147,s148,s149,s150,s151,s152,s153,s154,s155,s156,s157,s158,s159,s160,s161,s162,s163,s164,
 s165,s166,v168x145,v168x145,s169,s170,s171,s172,s173,s174,s175,s176,s177,s178,s179,s180,s181,s182,s183,s184,s185,s186,s187,s188,s189,s190,v192x165,v192x165,s5,s6,s0,s5,v197x166,v198x167,s0,
 v200x168,v201x169,v202x170,v203x171,v204x172,v205x173,v205x173,v207x174,v208x175,v209x176,v210x177,v211x178,v212x179,v213x180,v214x181,v215x182,v216x184,v217x185,s218,s219,s220,s221,s222,s223,s224,s225,
 s226,s227,s228,s229,s230,s231,s232,s233,s234,s235,s236,s237,s238,s239,s240,s241,s242,s243,s244,s245,s246,s247,s248,s249,s250,s251,s252,s253,s254,s255] H187⟩⟩⟩⟩⟩⟩⟩⟩⟩⟩⟩⟩⟩⟩⟩⟩⟩⟩⟩⟩⟩ ⟨S54x0 n1 k [s0,s1,
 s2,s3,s4,s5,s6,v7x71,s8,s9,s10,s11,s12,s13,s14,s15,s16,s17,s18,s19,s20,s21,s22,s23,s24,s25,s26,s27,s28,s29,s30,s31,s32,s33,s34,s35,s36,s37,s38,s39,s40,s41,s42,s43,s44,s45,s46,s47,
 s48,s49,s50,s51,s52,s53,s54,s55,s56,s57,s58,s59,s60,s61,s62,s63,s64,s65,s66,s67,s68,s69,s70,s71,s72,s73,s74,s75,s76,s77,s78,s79,s80,s81,s82,s83,s84,s6,s0,v87x67,v88x68,s89,s90,s0,s6,
 v93x69,v94x70,v95x75,v96x76,v98x77,v98x77,s99,s100,s101,s102,s103,s104,s105,s106,s107,s108,s109,s110,s111,s112,s113,s114,s115,s116,s117,s118,s119,s120,s121,s122,s123,s124,s125,s126,v128x111,
 v128x111,s129,s130,s131,s132,s133,s134,s135,s136,s137,s138,s139,s140,s141,s142,s143,s144,s145,s146,s147,s148,s149,s150,s151,s152,s153,s154,s155,s156,s157,s158,s159,s160,s161,s162,s163,s164,
 s165,s166,v168x145,v168x145,s169,s170,s171,s172,s173,s174,s175,s176,s177,s178,s179,s180,s181,s182,s183,s184,s185,s186,s187,s188,s189,s190,v192x165,v192x165,s193,s194,s195,s196,s197,s198,s199,
 s200,s201,s202,s203,s204,s205,s206,s207,s208,s209,s210,s211,s212,s213,s214,s215,s216,s217,s218,s219,s220,s221,s222,s223,s224,s225,s226,s227,s228,s229,s230,s231,s232,s233,s234,s235,s236,s237,
 s238,s239,s240,s241,s242,s243,s244,s245,s246,s247,s248,s249,s250,s251,s252,s253,s254,s255] H74⟩⟩⟩⟩⟩⟩⟩⟩⟩⟩⟩⟩⟩⟩⟩ ⟨@bnd (aLen prog H 22 s0) ⟨fun v226x188 => @bnd (aBin2 prog H .sub 3 (.tmp 226) (.const
 (.int .i64 1)) v226x188 (.int .i64 1)) ⟨fun v227x189 => @bnd (aIndexAddr prog H 23 s5 v227x189) ⟨fun v228x190 => @bnd (aLoad prog H 9 v228x190) ⟨fun v229x191 => @bndC prog 65 [v229x191] H ⟨fun v232x192 H193 => @bnd
 (tupV v232x192 0) ⟨fun v233x194 => @bnd (tupV v232x192 1) ⟨fun _ => @bnd (tupV v232x192 2) ⟨fun v235x196 => @bndC prog 66 [v233x194,(.int .i64 0),(.int .i64 0)] H193 ⟨fun v238x197 H198 => @bnd (tupV v238x197 0) ⟨fun
 v239x199 => @bnd (tupV v238x197 1) ⟨fun v240x200 => @bnd (aBin2 prog H198 .neq 3 (.tmp 241) (.const (.int .i64 0)) v235x196 (.int .i64 0)) ⟨fun v242x201 => @bnd (gif v242x201 false ((some v240x200)) undef) ⟨fun v244x202 =>
 @bnd (gif v242x201 false ((some v233x194)) undef) ⟨fun v245x203 => @bnd (gif v242x201 false (aLen prog H198 90 v245x203) undef) ⟨fun v246x204 => @bnd (gif v242x201 false (aBin2 prog H198 .neq 3 (.tmp 244) (.tmp 246)
 v244x202 v246x204) undef) ⟨fun v247x205 => @bnd (pickV v242x201 (.bool true) v247x205) ⟨fun v248x206 => @bnd (gif v248x206 false ((some v239x199)) undef) ⟨fun v250x207 => @bnd (gif v248x206 false ((some s0)) undef) ⟨fun
 v251x208 => @bndG v248x206 false H198 ⟨fun v252x209 H210 => ACalls prog 32 [v250x207,v251x208] H198 v252x209 H210⟩ ⟨fun v252x209 H210 => @bnd (gif v248x206 false (unV prog .not v252x209) undef) ⟨fun v253x211 => @bnd
 (pickV v248x206 (.bool true) v253x211) ⟨fun v254x212 => @kifB v254x212 ⟨k (.string { data := #[] }) H210⟩ ⟨k v229x191 H210⟩⟩⟩⟩⟩⟩⟩⟩⟩⟩⟩⟩⟩⟩⟩⟩⟩⟩⟩⟩⟩⟩⟩⟩⟩⟩) := by kernel_rfl
theorem S54x0q (n1 : Nat) (s0 s1 s2 s3 s4 s5 s6 s7 s8 s9 s10 s11 s12 s13 s14 s15 s16 s17 s18 s19 s20 s21 s22 s23 s24 s25 s26 s27 s28 s29 s30 s31 s32 s33 s34 s35 s36 s37 s38 s39 s40 s41 s42 s43 s44 s45 s46 s47 s48 s49 s50 s51 s52
 s53 s54 s55 s56 s57 s58 s59 s60 s61 s62 s63 s64 s65 s66 s67 s68 s69 s70 s71 s72 s73 s74 s75 s76 s77 s78 s79 s80 s81 s82 s83 s84 s85 s86 s87 s88 s89 s90 s91 s92 s93 s94 s95 s96 s97 s98 s99 s100 s101 s102 s103 s104 s105 s106 s107
 s108 s109 s110 s111 s112 s113 s114 s115 s116 s117 s118 s119 s120 s121 s122 s123 s124 s125 s126 s127 s128 s129 s130 s131 s132 s133 s134 s135 s136 s137 s138 s139 s140 s141 s142 s143 s144 s145 s146 s147 s148 s149 s150 s151 s152
 s153 s154 s155 s156 s157 s158 s159 s160 s161 s162 s163 s164 s165 s166 s167 s168 s169 s170 s171 s172 s173 s174 s175 s176 s177 s178 s179 s180 s181 s182 s183 s184 s185 s186 s187 s188 s189 s190 s191 s192 s193 s194 s195 s196 s197
 s198 s199 s200 s201 s202 s203 s204 s205 s206 s207 s208 s209 s210 s211 s212 s213 s214 s215 s216 s217 s218 s219 s220 s221 s222 s223 s224 s225 s226 s227 s228 s229 s230 s231 s232 s233 s234 s235 s236 s237 s238 s239 s240 s241 s242
 s243 s244 s245 s246 s247 s248 s249 s250 s251 s252 s253 s254 s255 : Value) (H : AHeap) (k : Value → AHeap → Prop) : S54x0 n1 k [s0,s1,s2,s3,s4,s5,s6,s7,s8,s9,s10,s11,s12,s13,s14,s15,s16,s17,s18,s19,s20,s21,
 s22,s23,s24,s25,s26,s27,s28,s29,s30,s31,s32,s33,s34,s35,s36,s37,s38,s39,s40,s41,s42,s43,s44,s45,s46,s47,s48,s49,s50,s51,s52,s53,s54,s55,s56,s57,s58,s59,s60,s61,s62,s63,s64,s65,s66,
 s67,s68,s69,s70,s71,s72,s73,s74,s75,s76,s77,s78,s79,s80,s81,s82,s83,s84,s85,s86,s87,s88,s89,s90,s91,s92,s93,s94,s95,s96,s97,s98,s99,s100,s101,s102,s103,s104,s105,s106,s107,s108,s109,
 s110,s111,s112,s113,s114,s115,s116,s117,s118,s119,s120,s121,s122,s123,s124,s125,s126,s127,s128,s129,s130,s131,s132,s133,s134,s135,s136,s137,s138,s139,s140,s141,s142,s143,s144,s145,s146,s147,
 s148,s149,s150,s151,s152,s153,s154,s155,s156,s157,s158,s159,s160,s161,s162,s163,s164,s165,s166,s167,s168,s169,s170,s171,s172,s173,s174,s175,s176,s177,s178,s179,s180,s181,s182,s183,s184,s185,
 s186,s187,s188,s189,s190,s191,s192,s193,s194,s195,s196,s197,s198,s199,s200,s201,s202,s203,s204,s205,s206,s207,s208,s209,s210,s211,s212,s213,s214,s215,s216,s217,s218,s219,s220,s221,s222,s223,
 s224,s225,s226,s227,s228,s229,s230,s231,s232,s233,s234,s235,s236,s237,s238,s239,s240,s241,s242,s243,s244,s245,s246,s247,s248,s249,s250,s251,s252,s253,s254,s255] H = (@bnd (aIndexAddr prog H 23
 s5 s6) ⟨fun v220x213 => @bnd (aLoad prog H 9 v220x213) ⟨fun v221x214 => @bnd (aLen prog H 9 v221x214) ⟨fun v222x215 => @bnd (aBin2 prog H .gtr 3 (.tmp 222) (.const (.int .i64 20000)) v222x215 (.int .i64 20000)) ⟨fun
 v223x216 => @kifB v223x216 ⟨k (.string { data := #[] }) H⟩ ⟨@bnd (aBin2 prog H .add 3 (.tmp 89) (.const (.int .i64 1)) s6 (.int .i64 1)) ⟨fun v90x217 => L54x1 n1  k [s0,s1,s2,s3,s4,s5,v90x217,s7,s8,s9,s10,s11,
 s12,s13,s14,s15,s16,s17,s18,s19,s20,s21,s22,s23,s24,s25,s26,s27,s28,s29,s30,s31,s32,s33,s34,s35,s36,s37,s38,s39,s40,s41,s42,s43,s44,s45,s46,s47,s48,s49,s50,s51,s52,s53,s54,s55,s56,
 s57,s58,s59,s60,s61,s62,s63,s64,s65,s66,s67,s68,s69,s70,s71,s72,s73,s74,s75,s76,s77,s78,s79,s80,s81,s82,s83,s84,s85,s86,s87,s88,s6,v90x217,s91,s92,s93,s94,s95,s96,s97,s98,s99,s100,
 s101,s102,s103,s104,s105,s106,s107,s108,s109,s110,s111,s112,s113,s114,s115,s116,s117,s118,s119,s120,s121,s122,s123,s124,s125,s126,s127,s128,s129,s130,s131,s132,s133,s134,s135,s136,s137,s138,
 s139,s140,s141,s142,s143,s144,s145,s146,s147,s148,s149,s150,s151,s152,s153,s154,s155,s156,s157,s158,s159,s160,s161,s162,s163,s164,s165,s166,s167,s168,s169,s170,s171,s172,s173,s174,s175,s176,
 s177,s178,s179,s180,s181,s182,s183,s184,s185,s186,s187,s188,s189,s190,s191,s192,s193,s194,s195,s196,s197,s198,s199,s200,s201,s202,s203,s204,s205,s206,s207,s208,s209,s210,s211,s212,s213,s214,
 s215,s216,s217,s5,s6,v220x213,v221x214,v222x215,v223x216,s224,s225,s226,s227,s228,s229,s230,s231,s232,s233,s234,s235,s236,s237,s238,s239,s240,s241,s242,s243,s244,s245,s246,s247,s248,s249,s250,
 s251,s252,s253,s254,s255] H⟩⟩⟩⟩⟩⟩) := by kernel_rfl
end Go.Vi
namespace Go.Vi
open Go Go.Proofs Go.Proofs.Try
-- tocsin/expr.aggregates
theorem d55 (H : AHeap) (k : Value → AHeap → Prop) : kbody prog Try.f55 [] H k = (@bndL prog H 23 6 [(0,(.string { data := #[99,111,117,110,116] })),(1,(.string { data := #[115,117,109] })),(2,(.string { data
 := #[109,105,110] })),(3,(.string { data := #[109,97,120] })),(4,(.string { data := #[109,101,97,110] })),(5,(.string { data := #[108,97,115,116] }))] ⟨fun v1x1 H2 => k v1x1 H2⟩) := by kernel_rfl
-- tocsin/match.May
def L56x0 (n : Nat) (k : Value → AHeap → Prop) (sl : List Value) (H : AHeap) : Prop := kit prog (cl (cl (cr (cl (cr (cr (cb Try.f56))))))) n (kblk 0 (kseq prog (cr (cr (cr (cb Try.f56)))) (kfin prog Try.f56 k)))
 .normal sl H
theorem d56 (a0 : Value) (H : AHeap) (k : Value → AHeap → Prop) : kbody prog Try.f56 [a0] H k = (@bndC prog 67 [] H ⟨fun v8x1 H2 => @bnd (aLen prog H2 48 a0) ⟨fun v10x3 => ∃ n,L56x0 n  k [a0,undef,(.bool false),
 v8x1,undef,undef,undef,undef,v8x1,a0,v10x3,(.int .i64 0),undef,undef,undef,undef,undef,undef,undef,undef,undef,undef,undef,undef,undef,undef,undef,undef,undef,undef,undef,undef,undef,undef,undef,
 undef,undef,undef,undef,undef] H2⟩⟩) := by kernel_rfl
theorem L56x0q (n0 : Nat) (s0 s1 s2 s3 s4 s5 s6 s7 s8 s9 s10 s11 s12 s13 s14 s15 s16 s17 s18 s19 s20 s21 s22 s23 s24 s25 s26 s27 s28 s29 s30 s31 s32 s33 s34 s35 s36 s37 s38 s39 : Value) (H : AHeap) (k : Value → AHeap → Prop) :
 L56x0 (n0 + 1) k [s0,s1,s2,s3,s4,s5,s6,s7,s8,s9,s10,s11,s12,s13,s14,s15,s16,s17,s18,s19,s20,s21,s22,s23,s24,s25,s26,s27,s28,s29,s30,s31,s32,s33,s34,s35,s36,s37,s38,s39] H = (@bnd (aBin2
 prog H .lss 3 (.tmp 11) (.tmp 10) s11 s10) ⟨fun v12x4 => @kifB v12x4 ⟨@bnd (aIndexAddr prog H 48 s9 s11) ⟨fun v13x5 => @bnd (aLoad prog H 52 v13x5) ⟨fun v14x6 => @bndE (aAlloc prog H 52) ⟨fun v5x7 H8 => @bndS
 (aStore prog H8 52 v5x7 v14x6) ⟨fun _ H10 => @bnd (aFieldAddr prog H10 52 v5x7 1) ⟨fun v17x11 => @bnd (aLoad prog H10 5 v17x11) ⟨fun v18x12 => @bnd (aLookup prog H10 95 s3 v18x12 true) ⟨fun v19x13 => @bnd (tupV
 v19x13 0) ⟨fun v20x14 => @bnd (tupV v19x13 1) ⟨fun v21x15 => @bndE (aAlloc prog H10 99) ⟨fun v6x16 H17 => @bndS (aStore prog H17 99 v6x16 v20x14) ⟨fun _ H19 => @bnd (unV prog .not v21x15) ⟨fun v23x20 => @bnd (gif
 v23x20 false (aFieldAddr prog H19 52 v5x7 0) undef) ⟨fun v25x21 => @bnd (gif v23x20 false (aLoad prog H19 9 v25x21) undef) ⟨fun v26x22 => @bndG v23x20 false H19 ⟨fun v27x23 H24 => ACalls prog 21 [v26x22] H19 v27x23
 H24⟩ ⟨fun v27x23 H24 => @bnd (gif v23x20 false (unV prog .not v27x23) undef) ⟨fun v28x25 => @bnd (pickV v23x20 (.bool true) v28x25) ⟨fun v29x26 => @bnd (gif v29x26 false (aFieldAddr prog H24 52 v5x7 2) undef) ⟨fun
 v31x27 => @bnd (gif v29x26 false (aLoad prog H24 9 v31x27) undef) ⟨fun v32x28 => @bndG v29x26 false H24 ⟨fun v33x29 H30 => ACalls prog 68 [v32x28] H24 v33x29 H30⟩ ⟨fun v33x29 H30 => @bnd (gif v29x26 false (unV prog
 .not v33x29) undef) ⟨fun v34x31 => @bnd (pickV v29x26 (.bool true) v34x31) ⟨fun v35x32 => @kifB v35x32 ⟨k (.bool false) H30⟩ ⟨@bnd (aBin2 prog H30 .add 3 (.tmp 11) (.const (.int .i64 1)) s11 (.int .i64 1)) ⟨fun v36x33 =>
 L56x0 n0  k [s0,s1,s2,s3,s4,v5x7,v6x16,v21x15,s8,s9,s10,v36x33,v12x4,v13x5,v14x6,v19x13,s3,v17x11,v18x12,v19x13,v20x14,v21x15,v21x15,v23x20,v23x20,v25x21,v26x22,v27x23,v28x25,v29x26,v29x26,v31x27,
 v32x28,v33x29,v34x31,v35x32,v36x33,s37,s38,s39] H30⟩⟩⟩⟩⟩⟩⟩⟩⟩⟩⟩⟩⟩⟩⟩⟩⟩⟩⟩⟩⟩⟩⟩⟩⟩ ⟨@bnd (aLen prog H 48 s0) ⟨fun v38x34 => @bnd (aBin2 prog H .leq 3 (.tmp 38) (.const (.int .i64 6)) v38x34 (.int .i64 6)) ⟨fun v39x35
 => k v39x35 H⟩⟩⟩⟩) := by kernel_rfl
-- tocsin/expr.compares
theorem d57 (H : AHeap) (k : Value → AHeap → Prop) : kbody prog Try.f57 [] H k = (@bndL prog H 23 6 [(0,(.string { data := #[60] })),(1,(.string { data := #[60,61] })),(2,(.string { data := #[62] })),(3,(.string {
 data := #[62,61] })),(4,(.string { data := #[61,61] })),(5,(.string { data := #[33,61] }))] ⟨fun v1x1 H2 => k v1x1 H2⟩) := by kernel_rfl
-- tocsin/fixed.Sat
theorem d58 (a0 : Value) (H : AHeap) (k : Value → AHeap → Prop) : kbody prog Try.f58 [a0] H k = (@bndE (aBuiltin prog H Builtin.max #[2,2] [a0,(.int .i64 (-4611686018427387903))]) ⟨fun v4x1 H2 => @bndE (aBuiltin
 prog H2 Builtin.min #[2,2] [v4x1,(.int .i64 4611686018427387903)]) ⟨fun v5x3 H4 => k v5x3 H4⟩⟩) := by kernel_rfl
-- tocsin/tocsinref10.aggregate
theorem d59 (a0 : Value) (H : AHeap) (k : Value → AHeap → Prop) : kbody prog Try.f59 [a0] H k = (@bndL prog H 23 6 [(0,(.string { data := #[99,111,117,110,116] })),(1,(.string { data := #[115,117,109] })),(2,
 (.string { data := #[109,105,110] })),(3,(.string { data := #[109,97,120] })),(4,(.string { data := #[109,101,97,110] })),(5,(.string { data := #[108,97,115,116] }))] ⟨fun v3x1 H2 => @bnd (aIndexAddr prog H2
 23 v3x1 a0) ⟨fun v5x3 => @bnd (aLoad prog H2 9 v5x3) ⟨fun v6x4 => k v6x4 H2⟩⟩⟩) := by kernel_rfl
-- tocsin/tocsinref08.Print
def L60x0 (n : Nat) (k : Value → AHeap → Prop) (sl : List Value) (H : AHeap) : Prop := kit prog (cl (cl (cr (cl (cr (cr (cb Try.f60))))))) n (kblk 0 (kseq prog (cr (cr (cr (cb Try.f60)))) (kfin prog Try.f60 k)))
 .normal sl H
def S60x0 (n0 : Nat) (k : Value → AHeap → Prop) (sl : List Value) (H : AHeap) : Prop := kseq prog (cr (cl (cl (cr (cl (cl (cr (cl (cr (cr (cb Try.f60))))))))))) (kblk 1 (kseq prog (cr (cr (cl (cl (cr (cl (cr (cr (cb
 Try.f60))))))))) (kit prog (cl (cl (cr (cl (cr (cr (cb Try.f60))))))) n0 (kblk 0 (kseq prog (cr (cr (cr (cb Try.f60)))) (kfin prog Try.f60 k)))))) .normal sl H
theorem d60 (a0 : Value) (H : AHeap) (k : Value → AHeap → Prop) : kbody prog Try.f60 [a0] H k = (∃ n,L60x0 n  k [a0,undef,(.string { data := #[] }),(.string { data := #[123] }),(.int .i64 0),undef,undef,undef,undef,
 undef,undef,undef,undef,undef,undef,undef,undef,undef,undef,undef,undef,undef,undef,undef,undef,undef,undef,undef,undef,undef,undef,undef,undef,undef,undef,undef,undef,undef] H) := by kernel_rfl
theorem L60x0q (n0 : Nat) (s0 s1 s2 s3 s4 s5 s6 s7 s8 s9 s10 s11 s12 s13 s14 s15 s16 s17 s18 s19 s20 s21 s22 s23 s24 s25 s26 s27 s28 s29 s30 s31 s32 s33 s34 s35 s36 s37 : Value) (H : AHeap) (k : Value → AHeap → Prop) : L60x0 (n0
 + 1) k [s0,s1,s2,s3,s4,s5,s6,s7,s8,s9,s10,s11,s12,s13,s14,s15,s16,s17,s18,s19,s20,s21,s22,s23,s24,s25,s26,s27,s28,s29,s30,s31,s32,s33,s34,s35,s36,s37] H = (@bnd (aLen prog H 48 s0) ⟨fun
 v7x1 => @bnd (aBin2 prog H .lss 3 (.tmp 5) (.tmp 7) s4 v7x1) ⟨fun v8x2 => @kifB v8x2 ⟨@bnd (aBin2 prog H .gtr 3 (.tmp 11) (.const (.int .i64 0)) s4 (.int .i64 0)) ⟨fun v12x3 => @kifB v12x3 ⟨@bnd (aBin2 prog H .add 9
 (.tmp 13) (.const (.string { data := #[44] })) s3 (.string { data := #[44] })) ⟨fun v14x4 => S60x0 n0 k [s0,s1,s2,v14x4,s4,s4,s0,v7x1,v8x2,s9,s10,s4,v12x3,s3,v14x4,s15,s16,s17,s18,s19,s20,s21,s22,s23,
 s24,s25,s26,s27,s28,s29,s30,s31,s32,s33,s34,s35,s36,s37] H⟩⟩ ⟨S60x0 n0 k [s0,s1,s2,s3,s4,s4,s0,v7x1,v8x2,s9,s10,s4,v12x3,s13,s14,s15,s16,s17,s18,s19,s20,s21,s22,s23,s24,s25,s26,s27,s28,
 s29,s30,s31,s32,s33,s34,s35,s36,s37] H⟩⟩⟩ ⟨@bnd (aBin2 prog H .add 9 (.tmp 36) (.const (.string { data := #[125] })) s3 (.string { data := #[125] })) ⟨fun v37x5 => k v37x5 H⟩⟩⟩⟩) := by kernel_rfl
theorem S60x0q (n0 : Nat) (s0 s1 s2 s3 s4 s5 s6 s7 s8 s9 s10 s11 s12 s13 s14 s15 s16 s17 s18 s19 s20 s21 s22 s23 s24 s25 s26 s27 s28 s29 s30 s31 s32 s33 s34 s35 s36 s37 : Value) (H : AHeap) (k : Value → AHeap → Prop) : S60x0 n0 k
 [s0,s1,s2,s3,s4,s5,s6,s7,s8,s9,s10,s11,s12,s13,s14,s15,s16,s17,s18,s19,s20,s21,s22,s23,s24,s25,s26,s27,s28,s29,s30,s31,s32,s33,s34,s35,s36,s37] H = (@bnd (aIndexAddr prog H 48 s0 s4)
 ⟨fun v18x6 => @bnd (aFieldAddr prog H 52 v18x6 0) ⟨fun v19x7 => @bnd (aLoad prog H 9 v19x7) ⟨fun v20x8 => @bnd (aBin2 prog H .add 9 (.tmp 15) (.tmp 20) s3 v20x8) ⟨fun v21x9 => @bnd (aIndexAddr prog H 48 s0 s4)
 ⟨fun v24x10 => @bnd (aFieldAddr prog H 52 v24x10 1) ⟨fun v25x11 => @bnd (aLoad prog H 5 v25x11) ⟨fun v26x12 => @bndD false H ⟨fun v27x13 H14 => ACalls prog 69 [v26x12] H v27x13 H14⟩ ⟨fun v27x13 H14 => @bnd (aBin2
 prog H14 .add 9 (.tmp 21) (.tmp 27) v21x9 v27x13) ⟨fun v28x15 => @bnd (aIndexAddr prog H 48 s0 s4) ⟨fun v31x16 => @bnd (aFieldAddr prog H 52 v31x16 2) ⟨fun v32x17 => @bnd (aLoad prog H 9 v32x17) ⟨fun v33x18 =>
 @bndD false H14 ⟨fun v34x19 H20 => ACalls prog 70 [v33x18] H14 v34x19 H20⟩ ⟨fun v34x19 H20 => @bnd (aBin2 prog H20 .add 9 (.tmp 28) (.tmp 34) v28x15 v34x19) ⟨fun v35x21 => @bnd (aBin2 prog H20 .add 3 (.tmp 9)
 (.const (.int .i64 1)) s4 (.int .i64 1)) ⟨fun v10x22 => L60x0 n0  k [s0,s1,s2,v35x21,v10x22,s5,s6,s7,s8,s4,v10x22,s11,s12,s13,s14,s3,s0,s4,v18x6,v19x7,v20x8,v21x9,s0,s4,v24x10,v25x11,v26x12,v27x13,
 v28x15,s0,s4,v31x16,v32x17,v33x18,v34x19,v35x21,s36,s37] H20⟩⟩⟩⟩⟩⟩⟩⟩⟩⟩⟩⟩⟩⟩⟩) := by kernel_rfl
-- tocsin/tocsinref10.decimal
def L61x0 (n : Nat) (k : Value → AHeap → Prop) (sl : List Value) (H : AHeap) : Prop := kit prog (cl (cl (cl (cr (cr (cr (cb Try.f61))))))) n (kblk 0 (kseq prog (cr (cr (cr (cr (cb Try.f61))))) (kfin prog Try.f61 k)))
 .normal sl H
theorem d61 (a0 : Value) (H : AHeap) (k : Value → AHeap → Prop) : kbody prog Try.f61 [a0] H k = (@bnd (aBin2 prog H .lss 3 (.tmp 4) (.const (.int .i64 0)) a0 (.int .i64 0)) ⟨fun v5x1 => @kifB v5x1 ⟨k (.string { data :=
 #[45] }) H⟩ ⟨∃ n,L61x0 n  k [a0,undef,(.string { data := #[] }),(.string { data := #[] }),a0,v5x1,undef,undef,undef,undef,undef,undef,undef,undef,undef,undef,undef,undef,undef,undef,undef,undef,undef]
 H⟩⟩) := by kernel_rfl
theorem L61x0q (n0 : Nat) (s0 s1 s2 s3 s4 s5 s6 s7 s8 s9 s10 s11 s12 s13 s14 s15 s16 s17 s18 s19 s20 s21 s22 : Value) (H : AHeap) (k : Value → AHeap → Prop) : L61x0 (n0 + 1) k [s0,s1,s2,s3,s4,s5,s6,s7,s8,s9,s10,s11,
 s12,s13,s14,s15,s16,s17,s18,s19,s20,s21,s22] H = (@bnd (aBin2 prog H .gtr 3 (.tmp 6) (.const (.int .i64 0)) s0 (.int .i64 0)) ⟨fun v7x2 => @bnd (gif v7x2 false ((some s3)) undef) ⟨fun v9x3 => @bnd (gif v7x2 false
 (aBin2 prog H .eql 9 (.tmp 9) (.const (.string { data := #[] })) v9x3 (.string { data := #[] })) undef) ⟨fun v10x4 => @bnd (pickV v7x2 (.bool true) v10x4) ⟨fun v11x5 => @kifB v11x5 ⟨@bnd (aBin2 prog H .rem 3 (.tmp 12)
 (.const (.int .i64 10)) s0 (.int .i64 10)) ⟨fun v13x6 => @bnd (aBin2 prog H .add 3 (.const (.int .i64 48)) (.tmp 13) (.int .i64 48) v13x6) ⟨fun v14x7 => @bnd (convV prog H 3 5 v14x7) ⟨fun v15x8 => @bndL prog H 102 1
 [(0,v15x8)] ⟨fun v16x9 H10 => @bnd (convV prog H10 102 9 v16x9) ⟨fun v17x11 => @bnd (aBin2 prog H10 .add 9 (.tmp 17) (.tmp 18) v17x11 s3) ⟨fun v19x12 => @bnd (aBin2 prog H10 .quo 3 (.tmp 20) (.const (.int .i64 10))
 s0 (.int .i64 10)) ⟨fun v21x13 => L61x0 n0  k [v21x13,s1,s2,v19x12,s4,s5,s0,v7x2,v7x2,v9x3,v10x4,v11x5,s0,v13x6,v14x7,v15x8,v16x9,v17x11,s3,v19x12,s0,v21x13,s22] H10⟩⟩⟩⟩⟩⟩⟩⟩ ⟨k s3 H⟩⟩⟩⟩⟩) := by kernel_rfl
-- tocsin/tocsinref10.compare
theorem d62 (a0 : Value) (H : AHeap) (k : Value → AHeap → Prop) : kbody prog Try.f62 [a0] H k = (@bndL prog H 23 6 [(0,(.string { data := #[60] })),(1,(.string { data := #[60,61] })),(2,(.string { data := #[62] })),
 (3,(.string { data := #[62,61] })),(4,(.string { data := #[61,61] })),(5,(.string { data := #[33,61] }))] ⟨fun v3x1 H2 => @bnd (aIndexAddr prog H2 23 v3x1 a0) ⟨fun v5x3 => @bnd (aLoad prog H2 9 v5x3) ⟨fun v6x4
 => k v6x4 H2⟩⟩⟩) := by kernel_rfl
-- tocsin/tocsinref01.Print
def L63x0 (n : Nat) (k : Value → AHeap → Prop) (sl : List Value) (H : AHeap) : Prop := kit prog (cl (cl (cl (cr (cr (cr (cr (cr (cb Try.f63))))))))) n (kblk 0 (kseq prog (cr (cr (cr (cr (cr (cr (cb Try.f63))))))) (kfin
 prog Try.f63 k))) .normal sl H
def L63x1 (n : Nat) (k : Value → AHeap → Prop) (sl : List Value) (H : AHeap) : Prop := kit prog (cl (cl (cr (cl (cr (cr (cr (cr (cr (cr (cr (cr (cr (cb Try.f63)))))))))))))) n (kblk 2 (kseq prog (cr (cr (cr (cr (cr (cr
 (cr (cr (cr (cr (cb Try.f63))))))))))) (kfin prog Try.f63 k))) .normal sl H
theorem d63 (a0 : Value) (H : AHeap) (k : Value → AHeap → Prop) : kbody prog Try.f63 [a0] H k = (@bndC prog 71 [a0] H ⟨fun v8x1 H2 => @bnd (aBin2 prog H2 .lss 2 (.tmp 9) (.const (.int .i64 0)) v8x1 (.int .i64 0)) ⟨fun
 v10x3 => @kifB v10x3 ⟨@bnd (unV prog .neg v8x1) ⟨fun v12x4 => @bndC prog 63 [v12x4] H2 ⟨fun v13x5 H6 => @bnd (aBin2 prog H6 .add 9 (.const (.string { data := #[45] })) (.tmp 13) (.string { data := #[45] }) v13x5)
 ⟨fun v14x7 => k v14x7 H6⟩⟩⟩⟩ ⟨@bnd (aBin2 prog H2 .quo 2 (.tmp 15) (.const (.int .i64 1000)) v8x1 (.int .i64 1000)) ⟨fun v16x8 => ∃ n,L63x0 n  k [v8x1,undef,(.string { data := #[] }),(.string { data := #[] }),v16x8,
 undef,undef,a0,v8x1,v8x1,v10x3,undef,undef,undef,undef,v8x1,v16x8,undef,undef,undef,undef,undef,undef,undef,undef,undef,undef,undef,undef,undef,undef,undef,undef,undef,undef,undef,undef,undef,
 undef,undef,undef,undef,undef,undef,undef,undef,undef,undef,undef,undef,undef,undef,undef,undef,undef,undef,undef] H2⟩⟩⟩⟩) := by kernel_rfl
theorem L63x0q (n0 : Nat) (s0 s1 s2 s3 s4 s5 s6 s7 s8 s9 s10 s11 s12 s13 s14 s15 s16 s17 s18 s19 s20 s21 s22 s23 s24 s25 s26 s27 s28 s29 s30 s31 s32 s33 s34 s35 s36 s37 s38 s39 s40 s41 s42 s43 s44 s45 s46 s47 s48 s49 s50 s51 s52
 s53 s54 s55 s56 : Value) (H : AHeap) (k : Value → AHeap → Prop) : L63x0 (n0 + 1) k [s0,s1,s2,s3,s4,s5,s6,s7,s8,s9,s10,s11,s12,s13,s14,s15,s16,s17,s18,s19,s20,s21,s22,s23,s24,s25,s26,s27,s28,s29,
 s30,s31,s32,s33,s34,s35,s36,s37,s38,s39,s40,s41,s42,s43,s44,s45,s46,s47,s48,s49,s50,s51,s52,s53,s54,s55,s56] H = (@bnd (aBin2 prog H .gtr 2 (.tmp 17) (.const (.int .i64 0)) s4 (.int .i64 0)) ⟨fun
 v18x9 => @bnd (gif v18x9 false ((some s3)) undef) ⟨fun v20x10 => @bnd (gif v18x9 false (aBin2 prog H .eql 9 (.tmp 20) (.const (.string { data := #[] })) v20x10 (.string { data := #[] })) undef) ⟨fun v21x11 => @bnd (pickV
 v18x9 (.bool true) v21x11) ⟨fun v22x12 => @kifB v22x12 ⟨@bnd (aBin2 prog H .rem 2 (.tmp 23) (.const (.int .i64 10)) s4 (.int .i64 10)) ⟨fun v24x13 => @bnd (aBin2 prog H .add 2 (.const (.int .i64 48)) (.tmp 24) (.int
 .i64 48) v24x13) ⟨fun v25x14 => @bnd (convV prog H 2 5 v25x14) ⟨fun v26x15 => @bndL prog H 102 1 [(0,v26x15)] ⟨fun v27x16 H17 => @bnd (convV prog H17 102 9 v27x16) ⟨fun v28x18 => @bnd (aBin2 prog H17 .add 9
 (.tmp 28) (.tmp 29) v28x18 s3) ⟨fun v30x19 => @bnd (aBin2 prog H17 .quo 2 (.tmp 31) (.const (.int .i64 10)) s4 (.int .i64 10)) ⟨fun v32x20 => L63x0 n0  k [s0,s1,s2,v30x19,v32x20,s5,s6,s7,s8,s9,s10,s11,s12,s13,
 s14,s15,s16,s4,v18x9,v18x9,v20x10,v21x11,v22x12,s4,v24x13,v25x14,v26x15,v27x16,v28x18,s3,v30x19,s4,v32x20,s33,s34,s35,s36,s37,s38,s39,s40,s41,s42,s43,s44,s45,s46,s47,s48,s49,s50,s51,s52,
 s53,s54,s55,s56] H17⟩⟩⟩⟩⟩⟩⟩⟩ ⟨@bnd (aBin2 prog H .rem 2 (.tmp 33) (.const (.int .i64 1000)) s0 (.int .i64 1000)) ⟨fun v34x21 => @bnd (aBin2 prog H .eql 2 (.tmp 35) (.const (.int .i64 0)) v34x21 (.int .i64 0)) ⟨fun
 v36x22 => @kifB v36x22 ⟨k s3 H⟩ ⟨@bnd (aBin2 prog H .add 9 (.tmp 38) (.const (.string { data := #[46] })) s3 (.string { data := #[46] })) ⟨fun v39x23 => ∃ n,L63x1 n  k [s0,s1,s2,v39x23,s4,v34x21,(.int .i64 100),s7,
 s8,s9,s10,s11,s12,s13,s14,s15,s16,s4,v18x9,v18x9,v20x10,v21x11,v22x12,s23,s24,s25,s26,s27,s28,s29,s30,s31,s32,s0,v34x21,v34x21,v36x22,s37,s3,v39x23,s40,s41,s42,s43,s44,s45,s46,s47,s48,
 s49,s50,s51,s52,s53,s54,s55,s56] H⟩⟩⟩⟩⟩⟩⟩⟩⟩) := by kernel_rfl
theorem L63x1q (n1 : Nat) (s0 s1 s2 s3 s4 s5 s6 s7 s8 s9 s10 s11 s12 s13 s14 s15 s16 s17 s18 s19 s20 s21 s22 s23 s24 s25 s26 s27 s28 s29 s30 s31 s32 s33 s34 s35 s36 s37 s38 s39 s40 s41 s42 s43 s44 s45 s46 s47 s48 s49 s50 s51 s52
 s53 s54 s55 s56 : Value) (H : AHeap) (k : Value → AHeap → Prop) : L63x1 (n1 + 1) k [s0,s1,s2,s3,s4,s5,s6,s7,s8,s9,s10,s11,s12,s13,s14,s15,s16,s17,s18,s19,s20,s21,s22,s23,s24,s25,s26,s27,s28,s29,
 s30,s31,s32,s33,s34,s35,s36,s37,s38,s39,s40,s41,s42,s43,s44,s45,s46,s47,s48,s49,s50,s51,s52,s53,s54,s55,s56] H = (@bnd (aBin2 prog H .gtr 2 (.tmp 40) (.const (.int .i64 0)) s5 (.int .i64 0)) ⟨fun
 v41x24 => @kifB v41x24 ⟨@bnd (aBin2 prog H .quo 2 (.tmp 45) (.tmp 46) s5 s6) ⟨fun v47x25 => @bnd (aBin2 prog H .add 2 (.const (.int .i64 48)) (.tmp 47) (.int .i64 48) v47x25) ⟨fun v48x26 => @bnd (convV prog H 2 5
 v48x26) ⟨fun v49x27 => @bndL prog H 102 1 [(0,v49x27)] ⟨fun v50x28 H29 => @bnd (convV prog H29 102 9 v50x28) ⟨fun v51x30 => @bnd (aBin2 prog H29 .add 9 (.tmp 44) (.tmp 51) s3 v51x30) ⟨fun v52x31 => @bnd (aBin2
 prog H29 .rem 2 (.tmp 53) (.tmp 54) s5 s6) ⟨fun v55x32 => @bnd (aBin2 prog H29 .quo 2 (.tmp 42) (.const (.int .i64 10)) s6 (.int .i64 10)) ⟨fun v43x33 => L63x1 n1  k [s0,s1,s2,v52x31,s4,v55x32,v43x33,s7,s8,s9,
 s10,s11,s12,s13,s14,s15,s16,s17,s18,s19,s20,s21,s22,s23,s24,s25,s26,s27,s28,s29,s30,s31,s32,s33,s34,s35,s36,s37,s38,s39,s5,v41x24,s6,v43x33,s3,s5,s6,v47x25,v48x26,v49x27,v50x28,v51x30,
 v52x31,s5,s6,v55x32,s56] H29⟩⟩⟩⟩⟩⟩⟩⟩⟩ ⟨k s3 H⟩⟩) := by kernel_rfl
-- tocsin/tocsinref10.side
theorem d64 (a0 a1 a2 a3 : Value) (H : AHeap) (k : Value → AHeap → Prop) : kbody prog Try.f64 [a0,a1,a2,a3] H k = (@kifB a3 ⟨@bnd (aIndexAddr prog H 23 a1 a2) ⟨fun v12x1 => @bnd (aLoad prog H 9 v12x1) ⟨fun v13x2 =>
 @bnd (aBin2 prog H .add 9 (.const (.string { data := #[40] })) (.tmp 13) (.string { data := #[40] }) v13x2) ⟨fun v14x3 => @bnd (aBin2 prog H .add 9 (.tmp 14) (.const (.string { data := #[41] })) v14x3 (.string { data :=
 #[41] })) ⟨fun v15x4 => k v15x4 H⟩⟩⟩⟩⟩ ⟨@bnd (aIndexAddr prog H 23 a1 a2) ⟨fun v18x5 => @bnd (aLoad prog H 9 v18x5) ⟨fun v19x6 => k v19x6 H⟩⟩⟩) := by kernel_rfl
-- tocsin/tocsinref10.allTokens
def L65x0 (n : Nat) (k : Value → AHeap → Prop) (sl : List Value) (H : AHeap) : Prop := kit prog (cl (cl (cl (cr (cr (cr (cb Try.f65))))))) n (kblk 0 (kseq prog (cr (cr (cr (cr (cb Try.f65))))) (kfin prog Try.f65 k)))
 .normal sl H
def L65x1 (n : Nat) (n0 : Nat) (k : Value → AHeap → Prop) (sl : List Value) (H : AHeap) : Prop := kit prog (cl (cl (cl (cr (cr (cl (cr (cl (cl (cl (cr (cr (cr (cb Try.f65)))))))))))))) n (kblk 2 (kseq prog (cr (cr (cr (cl
 (cr (cl (cl (cl (cr (cr (cr (cb Try.f65)))))))))))) (kblk 1 (kit prog (cl (cl (cl (cr (cr (cr (cb Try.f65))))))) n0 (kblk 0 (kseq prog (cr (cr (cr (cr (cb Try.f65))))) (kfin prog Try.f65 k))))))) .normal sl H
def S65x0 (n1 : Nat) (n0 : Nat) (k : Value → AHeap → Prop) (sl : List Value) (H : AHeap) : Prop := kseq prog (cr (cl (cr (cl (cl (cl (cr (cr (cl (cr (cl (cl (cl (cr (cr (cr (cb Try.f65))))))))))))))))) (kblk 3 (kit prog
 (cl (cl (cl (cr (cr (cl (cr (cl (cl (cl (cr (cr (cr (cb Try.f65)))))))))))))) n1 (kblk 2 (kseq prog (cr (cr (cr (cl (cr (cl (cl (cl (cr (cr (cr (cb Try.f65)))))))))))) (kblk 1 (kit prog (cl (cl (cl (cr (cr (cr (cb
 Try.f65))))))) n0 (kblk 0 (kseq prog (cr (cr (cr (cr (cb Try.f65))))) (kfin prog Try.f65 k))))))))) .normal sl H
theorem d65 (a0 : Value) (H : AHeap) (k : Value → AHeap → Prop) : kbody prog Try.f65 [a0] H k = (∃ n,L65x0 n  k [a0,undef,(.slice none 0 0),(.int .i64 0),(.int .i64 0),(.slice none 0 0),(.int .i64 0),undef,undef,
 undef,undef,undef,undef,undef,undef,undef,undef,undef,undef,undef,undef,undef,undef,undef,undef,undef,undef,undef,undef,undef,undef,undef,undef,undef,undef,undef,undef,undef,undef,undef,undef,
 undef,undef,undef,undef,undef,undef,undef,undef,undef,undef,undef,undef,undef,undef,undef,undef,undef,undef,undef,undef,undef,undef,undef,undef,undef] H) := by kernel_rfl
theorem L65x0q (n0 : Nat) (s0 s1 s2 s3 s4 s5 s6 s7 s8 s9 s10 s11 s12 s13 s14 s15 s16 s17 s18 s19 s20 s21 s22 s23 s24 s25 s26 s27 s28 s29 s30 s31 s32 s33 s34 s35 s36 s37 s38 s39 s40 s41 s42 s43 s44 s45 s46 s47 s48 s49 s50 s51 s52
 s53 s54 s55 s56 s57 s58 s59 s60 s61 s62 s63 s64 s65 : Value) (H : AHeap) (k : Value → AHeap → Prop) : L65x0 (n0 + 1) k [s0,s1,s2,s3,s4,s5,s6,s7,s8,s9,s10,s11,s12,s13,s14,s15,s16,s17,s18,s19,s20,s21,s22,
 s23,s24,s25,s26,s27,s28,s29,s30,s31,s32,s33,s34,s35,s36,s37,s38,s39,s40,s41,s42,s43,s44,s45,s46,s47,s48,s49,s50,s51,s52,s53,s54,s55,s56,s57,s58,s59,s60,s61,s62,s63,s64,s65] H = (@bnd
 (aLen prog H 9 s0) ⟨fun v14x1 => @bnd (aBin2 prog H .lss 3 (.tmp 12) (.tmp 14) s6 v14x1) ⟨fun v15x2 => @kifB v15x2 ⟨∃ n,L65x1 n n0 k [s0,s1,s2,s3,s4,s5,s6,s6,(.bool false),s9,s10,s11,s6,s0,v14x1,v15x2,
 s6,s17,s18,s19,s20,s21,s22,s23,s24,s25,s26,s27,s28,s29,s30,s31,s32,s33,s34,s35,s36,s37,s38,s39,s40,s41,s42,s43,s44,s45,s46,s47,s48,s49,s50,s51,s52,s53,s54,s55,s56,s57,s58,s59,s60,
 s61,s62,s63,s64,s65] H⟩ ⟨k (.tuple #[s5,(.int .i64 0),(.int .i64 0)]) H⟩⟩⟩) := by kernel_rfl
theorem L65x1q (n1 : Nat) (n0 : Nat) (s0 s1 s2 s3 s4 s5 s6 s7 s8 s9 s10 s11 s12 s13 s14 s15 s16 s17 s18 s19 s20 s21 s22 s23 s24 s25 s26 s27 s28 s29 s30 s31 s32 s33 s34 s35 s36 s37 s38 s39 s40 s41 s42 s43 s44 s45 s46 s47 s48 s49
 s50 s51 s52 s53 s54 s55 s56 s57 s58 s59 s60 s61 s62 s63 s64 s65 : Value) (H : AHeap) (k : Value → AHeap → Prop) : L65x1 (n1 + 1) n0 k [s0,s1,s2,s3,s4,s5,s6,s7,s8,s9,s10,s11,s12,s13,s14,s15,s16,s17,s18,s19,
 s20,s21,s22,s23,s24,s25,s26,s27,s28,s29,s30,s31,s32,s33,s34,s35,s36,s37,s38,s39,s40,s41,s42,s43,s44,s45,s46,s47,s48,s49,s50,s51,s52,s53,s54,s55,s56,s57,s58,s59,s60,s61,s62,s63,s64,
 s65] H = (@bnd (aLen prog H 9 s0) ⟨fun v19x3 => @bnd (aBin2 prog H .lss 3 (.tmp 17) (.tmp 19) s7 v19x3) ⟨fun v20x4 => @bnd (gif v20x4 true ((some s8)) undef) ⟨fun v22x5 => @bnd (gif v20x4 true ((some v22x5)) undef) ⟨fun
 v23x6 => @bnd (gif v23x6 false ((some s0)) undef) ⟨fun v24x7 => @bnd (gif v23x6 false ((some s7)) undef) ⟨fun v25x8 => @bnd (gif v23x6 false (aIndex prog 9 v24x7 v25x8) undef) ⟨fun v26x9 => @bnd (gif v23x6 false (aBin2
 prog H .neq 5 (.tmp 26) (.const (.int .u8 32)) v26x9 (.int .u8 32)) undef) ⟨fun v27x10 => @bnd (gif v20x4 true (pickV v23x6 (.bool true) v27x10) undef) ⟨fun v28x11 => @bnd (pickV v20x4 v28x11 (.bool false)) ⟨fun v29x12 =>
 @kifB v29x12 ⟨@bnd (aIndex prog 9 s0 s7) ⟨fun v32x13 => @bnd (aBin2 prog H .eql 5 (.tmp 32) (.const (.int .u8 92)) v32x13 (.int .u8 92)) ⟨fun v33x14 => @kifB v33x14 ⟨@bnd (aBin2 prog H .add 3 (.tmp 34) (.const (.int
 .i64 1)) s7 (.int .i64 1)) ⟨fun v35x15 => S65x0 n1 n0 k [s0,s1,s2,s3,s4,s5,s6,v35x15,s8,s9,s10,s11,s12,s13,s14,s15,s16,s7,s0,v19x3,v20x4,v20x4,v22x5,v23x6,v24x7,v25x8,v26x9,v27x10,v28x11,v29x12,s0,
 s7,v32x13,v33x14,s7,v35x15,s36,s37,s38,s39,s40,s41,s42,s43,s44,s45,s46,s47,s48,s49,s50,s51,s52,s53,s54,s55,s56,s57,s58,s59,s60,s61,s62,s63,s64,s65] H⟩⟩ ⟨@bnd (aIndex prog 9 s0 s7) ⟨fun
 v38x16 => @bnd (aBin2 prog H .eql 5 (.tmp 38) (.const (.int .u8 34)) v38x16 (.int .u8 34)) ⟨fun v39x17 => @kifB v39x17 ⟨@bnd (unV prog .not s8) ⟨fun v41x18 => S65x0 n1 n0 k [s0,s1,s2,s3,s4,s5,s6,s7,v41x18,s9,
 s10,s11,s12,s13,s14,s15,s16,s7,s0,v19x3,v20x4,v20x4,v22x5,v23x6,v24x7,v25x8,v26x9,v27x10,v28x11,v29x12,s0,s7,v32x13,v33x14,s34,s35,s0,s7,v38x16,v39x17,s8,v41x18,s42,s43,s44,s45,s46,s47,s48,
 s49,s50,s51,s52,s53,s54,s55,s56,s57,s58,s59,s60,s61,s62,s63,s64,s65] H⟩⟩ ⟨S65x0 n1 n0 k [s0,s1,s2,s3,s4,s5,s6,s7,s8,s9,s10,s11,s12,s13,s14,s15,s16,s7,s0,v19x3,v20x4,v20x4,v22x5,v23x6,
 v24x7,v25x8,v26x9,v27x10,v28x11,v29x12,s0,s7,v32x13,v33x14,s34,s35,s0,s7,v38x16,v39x17,s40,s41,s42,s43,s44,s45,s46,s47,s48,s49,s50,s51,s52,s53,s54,s55,s56,s57,s58,s59,s60,s61,s62,s63,s64,
 s65] H⟩⟩⟩⟩⟩⟩⟩ ⟨@bnd (aLen prog H 9 s0) ⟨fun v46x19 => @bnd (aBin2 prog H .gtr 3 (.tmp 44) (.tmp 46) s7 v46x19) ⟨fun v47x20 => @kifB v47x20 ⟨k (.tuple #[(.slice none 0 0),(.int .i64 0),(.int .i64 1)]) H⟩ ⟨@bnd
 (aSliceOp prog H 9 s0 (some s6) (some s7)) ⟨fun v52x21 => @bndC prog 72 [v52x21] H ⟨fun v53x22 H23 => @bnd (tupV v53x22 0) ⟨fun v54x24 => @bnd (tupV v53x22 1) ⟨fun v55x25 => @bnd (tupV v53x22 2) ⟨fun v56x26 => @bnd
 (aBin2 prog H23 .neq 3 (.tmp 57) (.const (.int .i64 0)) v56x26 (.int .i64 0)) ⟨fun v58x27 => @kifB v58x27 ⟨k (.tuple #[(.slice none 0 0),(.int .i64 0),v56x26]) H23⟩ ⟨@bndE (aBuiltin prog H23 Builtin.append #[90,90]
 [s5,v54x24]) ⟨fun v62x28 H29 => @bnd (aBin2 prog H29 .add 3 (.tmp 63) (.const (.int .i64 1)) s7 (.int .i64 1)) ⟨fun v64x30 => L65x0 n0  k [s0,s1,s2,s3,s4,v62x28,v64x30,s7,s8,v54x24,v55x25,v56x26,s12,s13,s14,
 s15,s16,s7,s0,v19x3,v20x4,v20x4,v22x5,v23x6,v24x7,v25x8,v26x9,v27x10,v28x11,v29x12,s30,s31,s32,s33,s34,s35,s36,s37,s38,s39,s40,s41,s42,s43,s7,s0,v46x19,v47x20,v53x22,s0,s6,s7,v52x21,v53x22,
 v54x24,v55x25,v56x26,v56x26,v58x27,s59,s5,v54x24,v62x28,s7,v64x30,s65] H29⟩⟩⟩⟩⟩⟩⟩⟩⟩⟩⟩⟩⟩⟩⟩⟩⟩⟩⟩⟩⟩⟩⟩) := by kernel_rfl
theorem S65x0q (n1 : Nat) (n0 : Nat) (s0 s1 s2 s3 s4 s5 s6 s7 s8 s9 s10 s11 s12 s13 s14 s15 s16 s17 s18 s19 s20 s21 s22 s23 s24 s25 s26 s27 s28 s29 s30 s31 s32 s33 s34 s35 s36 s37 s38 s39 s40 s41 s42 s43 s44 s45 s46 s47 s48 s49
 s50 s51 s52 s53 s54 s55 s56 s57 s58 s59 s60 s61 s62 s63 s64 s65 : Value) (H : AHeap) (k : Value → AHeap → Prop) : S65x0 n1 n0 k [s0,s1,s2,s3,s4,s5,s6,s7,s8,s9,s10,s11,s12,s13,s14,s15,s16,s17,s18,s19,s20,
 s21,s22,s23,s24,s25,s26,s27,s28,s29,s30,s31,s32,s33,s34,s35,s36,s37,s38,s39,s40,s41,s42,s43,s44,s45,s46,s47,s48,s49,s50,s51,s52,s53,s54,s55,s56,s57,s58,s59,s60,s61,s62,s63,s64,s65] H
 = (@bnd (aBin2 prog H .add 3 (.tmp 42) (.const (.int .i64 1)) s7 (.int .i64 1)) ⟨fun v43x31 => L65x1 n1 n0 k [s0,s1,s2,s3,s4,s5,s6,v43x31,s8,s9,s10,s11,s12,s13,s14,s15,s16,s17,s18,s19,s20,s21,s22,s23,
 s24,s25,s26,s27,s28,s29,s30,s31,s32,s33,s34,s35,s36,s37,s38,s39,s40,s41,s7,v43x31,s44,s45,s46,s47,s48,s49,s50,s51,s52,s53,s54,s55,s56,s57,s58,s59,s60,s61,s62,s63,s64,s65] H⟩) := by
 kernel_rfl
-- tocsin/tocsinref10.Condition
theorem d66 (a0 a1 a2 : Value) (H : AHeap) (k : Value → AHeap → Prop) : kbody prog Try.f66 [a0,a1,a2] H k = (@bndC prog 73 [a0,a1,a2,(.string { data := #[111,114] })] H ⟨fun v11x1 H2 => @bnd (tupV v11x1 0) ⟨fun
 v12x3 => @bnd (tupV v11x1 1) ⟨fun v13x4 => k (.tuple #[v12x3,v13x4]) H2⟩⟩⟩) := by kernel_rfl
end Go.Vi
namespace Go.Vi
open Go Go.Proofs Go.Proofs.Try
-- tocsin/match.ops
theorem d67 (H : AHeap) (k : Value → AHeap → Prop) : kbody prog Try.f67 [] H k = (@bndE (some (Value.map (some H.length),H ++ [AObj.map []])) ⟨fun v1x1 H2 => @bnd (buildV prog 99 [(0,(.string { data := #[61] })),(1,
 (.func (.func 74) #[] #[]))]) ⟨fun v2x3 => @bndS (aUpdate prog H2 95 v1x1 (.int .u8 0) v2x3) ⟨fun _ H5 => @bnd (buildV prog 99 [(0,(.string { data := #[33,61] })),(1,(.func (.func 75) #[] #[]))]) ⟨fun v3x6 => @bndS
 (aUpdate prog H5 95 v1x1 (.int .u8 1) v3x6) ⟨fun _ H8 => @bnd (buildV prog 99 [(0,(.string { data := #[94,61] })),(1,(.func (.func 76) #[] #[]))]) ⟨fun v4x9 => @bndS (aUpdate prog H8 95 v1x1 (.int .u8 2) v4x9)
 ⟨fun _ H11 => k v1x1 H11⟩⟩⟩⟩⟩⟩⟩) := by kernel_rfl
-- tocsin/match.may
theorem d68 (a0 : Value) (H : AHeap) (k : Value → AHeap → Prop) : kbody prog Try.f68 [a0] H k = (@bnd (aBin2 prog H .eql 9 (.tmp 3) (.const (.string { data := #[] })) a0 (.string { data := #[] })) ⟨fun v4x1 => @bnd (gif
 v4x1 false ((some a0)) undef) ⟨fun v6x2 => @bndG v4x1 false H ⟨fun v7x3 H4 => ACalls prog 77 [v6x2] H v7x3 H4⟩ ⟨fun v7x3 H4 => @bnd (pickV v4x1 (.bool true) v7x3) ⟨fun v8x5 => k v8x5 H4⟩⟩⟩⟩) := by kernel_rfl
-- tocsin/tocsinref08.sign
theorem d69 (a0 : Value) (H : AHeap) (k : Value → AHeap → Prop) : kbody prog Try.f69 [a0] H k = (@bnd (aBin2 prog H .eql 5 (.tmp 3) (.const (.int .u8 1)) a0 (.int .u8 1)) ⟨fun v5x1 => @kifB v5x1 ⟨k (.string { data :=
 #[33,61] }) H⟩ ⟨@bnd (aBin2 prog H .eql 5 (.tmp 3) (.const (.int .u8 2)) a0 (.int .u8 2)) ⟨fun v7x2 => @kifB v7x2 ⟨k (.string { data := #[94,61] }) H⟩ ⟨k (.string { data := #[61] }) H⟩⟩⟩⟩) := by kernel_rfl
-- tocsin/tocsinref07.Quote
def L70x0 (n : Nat) (k : Value → AHeap → Prop) (sl : List Value) (H : AHeap) : Prop := kit prog (cl (cl (cr (cl (cr (cr (cb Try.f70))))))) n (kblk 0 (kseq prog (cr (cr (cr (cb Try.f70)))) (kfin prog Try.f70 k)))
 .normal sl H
def S70x0 (n0 : Nat) (k : Value → AHeap → Prop) (sl : List Value) (H : AHeap) : Prop := kseq prog (cr (cl (cl (cr (cl (cl (cr (cl (cr (cr (cb Try.f70))))))))))) (kblk 1 (kseq prog (cr (cr (cl (cl (cr (cl (cr (cr (cb
 Try.f70))))))))) (kit prog (cl (cl (cr (cl (cr (cr (cb Try.f70))))))) n0 (kblk 0 (kseq prog (cr (cr (cr (cb Try.f70)))) (kfin prog Try.f70 k)))))) .normal sl H
theorem d70 (a0 : Value) (H : AHeap) (k : Value → AHeap → Prop) : kbody prog Try.f70 [a0] H k = (∃ n,L70x0 n  k [a0,undef,(.string { data := #[] }),(.string { data := #[34] }),(.int .i64 0),undef,undef,undef,undef,
 undef,undef,undef,undef,undef,undef,undef,undef,undef,undef,undef,undef,undef,undef,undef,undef,undef,undef,undef,undef,undef,undef,undef] H) := by kernel_rfl
theorem L70x0q (n0 : Nat) (s0 s1 s2 s3 s4 s5 s6 s7 s8 s9 s10 s11 s12 s13 s14 s15 s16 s17 s18 s19 s20 s21 s22 s23 s24 s25 s26 s27 s28 s29 s30 s31 : Value) (H : AHeap) (k : Value → AHeap → Prop) : L70x0 (n0 + 1) k [s0,s1,s2,s3,
 s4,s5,s6,s7,s8,s9,s10,s11,s12,s13,s14,s15,s16,s17,s18,s19,s20,s21,s22,s23,s24,s25,s26,s27,s28,s29,s30,s31] H = (@bnd (aLen prog H 9 s0) ⟨fun v7x1 => @bnd (aBin2 prog H .lss 3 (.tmp 5) (.tmp 7)
 s4 v7x1) ⟨fun v8x2 => @kifB v8x2 ⟨@bnd (aIndex prog 9 s0 s4) ⟨fun v13x3 => @bnd (aBin2 prog H .eql 5 (.tmp 13) (.const (.int .u8 34)) v13x3 (.int .u8 34)) ⟨fun v14x4 => @bnd (gif v14x4 false ((some s0)) undef) ⟨fun
 v16x5 => @bnd (gif v14x4 false ((some s4)) undef) ⟨fun v17x6 => @bnd (gif v14x4 false (aIndex prog 9 v16x5 v17x6) undef) ⟨fun v18x7 => @bnd (gif v14x4 false (aBin2 prog H .eql 5 (.tmp 18) (.const (.int .u8 92)) v18x7
 (.int .u8 92)) undef) ⟨fun v19x8 => @bnd (pickV v14x4 (.bool true) v19x8) ⟨fun v20x9 => @kifB v20x9 ⟨@bnd (aBin2 prog H .add 9 (.tmp 21) (.const (.string { data := #[92] })) s3 (.string { data := #[92] })) ⟨fun v22x10 =>
 S70x0 n0 k [s0,s1,s2,v22x10,s4,s4,s0,v7x1,v8x2,s9,s10,s0,s4,v13x3,v14x4,v14x4,v16x5,v17x6,v18x7,v19x8,v20x9,s3,v22x10,s23,s24,s25,s26,s27,s28,s29,s30,s31] H⟩⟩ ⟨S70x0 n0 k [s0,s1,s2,s3,s4,s4,
 s0,v7x1,v8x2,s9,s10,s0,s4,v13x3,v14x4,v14x4,v16x5,v17x6,v18x7,v19x8,v20x9,s21,s22,s23,s24,s25,s26,s27,s28,s29,s30,s31] H⟩⟩⟩⟩⟩⟩⟩⟩⟩ ⟨@bnd (aBin2 prog H .add 9 (.tmp 30) (.const (.string { data :=
 #[34] })) s3 (.string { data := #[34] })) ⟨fun v31x11 => k v31x11 H⟩⟩⟩⟩) := by kernel_rfl
theorem S70x0q (n0 : Nat) (s0 s1 s2 s3 s4 s5 s6 s7 s8 s9 s10 s11 s12 s13 s14 s15 s16 s17 s18 s19 s20 s21 s22 s23 s24 s25 s26 s27 s28 s29 s30 s31 : Value) (H : AHeap) (k : Value → AHeap → Prop) : S70x0 n0 k [s0,s1,s2,s3,s4,
 s5,s6,s7,s8,s9,s10,s11,s12,s13,s14,s15,s16,s17,s18,s19,s20,s21,s22,s23,s24,s25,s26,s27,s28,s29,s30,s31] H = (@bnd (aBin2 prog H .add 3 (.tmp 26) (.const (.int .i64 1)) s4 (.int .i64 1)) ⟨fun v27x12
 => @bnd (aSliceOp prog H 9 s0 (some s4) (some v27x12)) ⟨fun v28x13 => @bnd (aBin2 prog H .add 9 (.tmp 23) (.tmp 28) s3 v28x13) ⟨fun v29x14 => @bnd (aBin2 prog H .add 3 (.tmp 9) (.const (.int .i64 1)) s4 (.int .i64
 1)) ⟨fun v10x15 => L70x0 n0  k [s0,s1,s2,v29x14,v10x15,s5,s6,s7,s8,s4,v10x15,s11,s12,s13,s14,s15,s16,s17,s18,s19,s20,s21,s22,s3,s0,s4,s4,v27x12,v28x13,v29x14,s30,s31] H⟩⟩⟩⟩) := by kernel_rfl
-- tocsin/tocsinref01.Sat
theorem d71 (a0 : Value) (H : AHeap) (k : Value → AHeap → Prop) : kbody prog Try.f71 [a0] H k = (@bnd (aBin2 prog H .gtr 2 (.tmp 3) (.const (.int .i64 4611686018427387903)) a0 (.int .i64 4611686018427387903)) ⟨fun v4x1 =>
 @kifB v4x1 ⟨k (.int .i64 4611686018427387903) H⟩ ⟨@bnd (aBin2 prog H .lss 2 (.tmp 5) (.const (.int .i64 (-4611686018427387903))) a0 (.int .i64 (-4611686018427387903))) ⟨fun v6x2 => @kifB v6x2 ⟨k (.int .i64
 (-4611686018427387903)) H⟩ ⟨k a0 H⟩⟩⟩⟩) := by kernel_rfl
-- tocsin/tocsinref09.All
def L72x0 (n : Nat) (k : Value → AHeap → Prop) (sl : List Value) (H : AHeap) : Prop := kit prog (cl (cl (cl (cr (cr (cr (cr (cb Try.f72)))))))) n (kblk 0 (kseq prog (cr (cr (cr (cr (cr (cb Try.f72)))))) (kfin prog
 Try.f72 k))) .normal sl H
def L72x1 (n : Nat) (n0 : Nat) (k : Value → AHeap → Prop) (sl : List Value) (H : AHeap) : Prop := kit prog (cl (cl (cl (cl (cr (cl (cr (cl (cr (cl (cl (cl (cr (cr (cr (cr (cb Try.f72))))))))))))))))) n (kblk 2 (kseq prog
 (cr (cl (cr (cl (cr (cl (cr (cl (cl (cl (cr (cr (cr (cr (cb Try.f72))))))))))))))) (kseq prog (cr (cr (cl (cr (cl (cl (cl (cr (cr (cr (cr (cb Try.f72)))))))))))) (kblk 1 (kit prog (cl (cl (cl (cr (cr (cr (cr (cb
 Try.f72)))))))) n0 (kblk 0 (kseq prog (cr (cr (cr (cr (cr (cb Try.f72)))))) (kfin prog Try.f72 k)))))))) .normal sl H
theorem d72 (a0 : Value) (H : AHeap) (k : Value → AHeap → Prop) : kbody prog Try.f72 [a0] H k = (@bnd (aLen prog H 9 a0) ⟨fun v9x1 => @bnd (aBin2 prog H .gtr 3 (.tmp 9) (.const (.int .i64 4096)) v9x1 (.int .i64 4096))
 ⟨fun v10x2 => @kifB v10x2 ⟨k (.tuple #[(.slice none 0 0),(.int .i64 0),(.int .i64 3)]) H⟩ ⟨∃ n,L72x0 n  k [a0,undef,(.slice none 0 0),(.int .i64 0),(.int .i64 0),(.slice none 0 0),(.int .i64 0),undef,a0,v9x1,v10x2,
 undef,undef,undef,undef,undef,undef,undef,undef,undef,undef,undef,undef,undef,undef,undef,undef,undef,undef,undef,undef,undef,undef,undef,undef,undef,undef,undef,undef,undef,undef,undef,undef,
 undef,undef,undef,undef,undef,undef,undef,undef] H⟩⟩⟩) := by kernel_rfl
theorem L72x0q (n0 : Nat) (s0 s1 s2 s3 s4 s5 s6 s7 s8 s9 s10 s11 s12 s13 s14 s15 s16 s17 s18 s19 s20 s21 s22 s23 s24 s25 s26 s27 s28 s29 s30 s31 s32 s33 s34 s35 s36 s37 s38 s39 s40 s41 s42 s43 s44 s45 s46 s47 s48 s49 s50 : Value)
 (H : AHeap) (k : Value → AHeap → Prop) : L72x0 (n0 + 1) k [s0,s1,s2,s3,s4,s5,s6,s7,s8,s9,s10,s11,s12,s13,s14,s15,s16,s17,s18,s19,s20,s21,s22,s23,s24,s25,s26,s27,s28,s29,s30,s31,s32,s33,s34,
 s35,s36,s37,s38,s39,s40,s41,s42,s43,s44,s45,s46,s47,s48,s49,s50] H = (@bnd (aLen prog H 9 s0) ⟨fun v13x3 => @bnd (aBin2 prog H .lss 3 (.tmp 11) (.tmp 13) s6 v13x3) ⟨fun v14x4 => @kifB v14x4 ⟨@bnd (aIndex
 prog 9 s0 s6) ⟨fun v17x5 => @bndC prog 78 [v17x5] H ⟨fun v18x6 H7 => @kifB v18x6 ⟨@bnd (aBin2 prog H7 .add 3 (.tmp 19) (.const (.int .i64 1)) s6 (.int .i64 1)) ⟨fun v20x8 => L72x0 n0  k [s0,s1,s2,s3,s4,s5,
 v20x8,s7,s8,s9,s10,s6,s0,v13x3,v14x4,s0,s6,v17x5,v18x6,s6,v20x8,s21,s22,s23,s24,s25,s26,s27,s28,s29,s30,s31,s32,s33,s34,s35,s36,s37,s38,s39,s40,s41,s42,s43,s44,s45,s46,s47,s48,s49,
 s50] H7⟩⟩ ⟨@bnd (aIndex prog 9 s0 s6) ⟨fun v23x9 => @bnd (aBin2 prog H7 .eql 5 (.tmp 23) (.const (.int .u8 35)) v23x9 (.int .u8 35)) ⟨fun v24x10 => @kifB v24x10 ⟨∃ n,L72x1 n n0 k [s0,s1,s2,s3,s4,s5,s6,s7,s8,
 s9,s10,s6,s0,v13x3,v14x4,s0,s6,v17x5,v18x6,s19,s20,s0,s6,v23x9,v24x10,s25,s26,s27,s28,s29,s30,s31,s32,s33,s34,s35,s36,s37,s38,s39,s40,s41,s42,s43,s44,s45,s46,s47,s48,s49,s50] H7⟩ ⟨@bndC
 prog 79 [s0,s6] H7 ⟨fun v39x11 H12 => @bndE (aAlloc prog H12 105) ⟨fun v7x13 H14 => @bndS (aStore prog H14 105 v7x13 v39x11) ⟨fun _ H16 => @bnd (aFieldAddr prog H16 105 v7x13 0) ⟨fun v40x17 => @bnd (aLoad
 prog H16 5 v40x17) ⟨fun v41x18 => @bnd (aBin2 prog H16 .eql 5 (.tmp 41) (.const (.int .u8 0)) v41x18 (.int .u8 0)) ⟨fun v42x19 => @kifB v42x19 ⟨k (.tuple #[(.slice none 0 0),s6,(.int .i64 90)]) H16⟩ ⟨@bnd (aLoad
 prog H16 105 v7x13) ⟨fun v45x20 => @bndL prog H16 90 1 [(0,v45x20)] ⟨fun v46x21 H22 => @bndE (aBuiltin prog H22 Builtin.append #[90,90] [s5,v46x21]) ⟨fun v47x23 H24 => @bnd (aFieldAddr prog H24 105 v7x13 3)
 ⟨fun v48x25 => @bnd (aLoad prog H24 3 v48x25) ⟨fun v49x26 => L72x0 n0  k [s0,s1,s2,s3,s4,v47x23,v49x26,v7x13,s8,s9,s10,s6,s0,v13x3,v14x4,s0,s6,v17x5,v18x6,s19,s20,s0,s6,v23x9,v24x10,s25,s26,s27,
 s28,s29,s30,s31,s32,s33,s34,s35,s36,s0,s6,v39x11,v40x17,v41x18,v42x19,s43,s5,v45x20,v46x21,v47x23,v48x25,v49x26,s50] H24⟩⟩⟩⟩⟩⟩⟩⟩⟩⟩⟩⟩⟩⟩⟩⟩⟩⟩⟩ ⟨k (.tuple #[s5,(.int .i64 0),(.int .i64 0)]) H⟩⟩⟩) := by
 kernel_rfl
theorem L72x1q (n1 : Nat) (n0 : Nat) (s0 s1 s2 s3 s4 s5 s6 s7 s8 s9 s10 s11 s12 s13 s14 s15 s16 s17 s18 s19 s20 s21 s22 s23 s24 s25 s26 s27 s28 s29 s30 s31 s32 s33 s34 s35 s36 s37 s38 s39 s40 s41 s42 s43 s44 s45 s46 s47 s48 s49
 s50 : Value) (H : AHeap) (k : Value → AHeap → Prop) : L72x1 (n1 + 1) n0 k [s0,s1,s2,s3,s4,s5,s6,s7,s8,s9,s10,s11,s12,s13,s14,s15,s16,s17,s18,s19,s20,s21,s22,s23,s24,s25,s26,s27,s28,s29,s30,s31,
 s32,s33,s34,s35,s36,s37,s38,s39,s40,s41,s42,s43,s44,s45,s46,s47,s48,s49,s50] H = (@bnd (aLen prog H 9 s0) ⟨fun v27x27 => @bnd (aBin2 prog H .lss 3 (.tmp 25) (.tmp 27) s6 v27x27) ⟨fun v28x28 => @bnd
 (gif v28x28 true ((some s0)) undef) ⟨fun v30x29 => @bnd (gif v28x28 true ((some s6)) undef) ⟨fun v31x30 => @bnd (gif v28x28 true (aIndex prog 9 v30x29 v31x30) undef) ⟨fun v32x31 => @bnd (gif v28x28 true (aBin2 prog H
 .neq 5 (.tmp 32) (.const (.int .u8 10)) v32x31 (.int .u8 10)) undef) ⟨fun v33x32 => @bnd (pickV v28x28 v33x32 (.bool false)) ⟨fun v34x33 => @kifB v34x33 ⟨@bnd (aBin2 prog H .add 3 (.tmp 35) (.const (.int .i64 1)) s6 (.int
 .i64 1)) ⟨fun v36x34 => L72x1 n1 n0 k [s0,s1,s2,s3,s4,s5,v36x34,s7,s8,s9,s10,s11,s12,s13,s14,s15,s16,s17,s18,s19,s20,s21,s22,s23,s24,s6,s0,v27x27,v28x28,v28x28,v30x29,v31x30,v32x31,v33x32,
 v34x33,s6,v36x34,s37,s38,s39,s40,s41,s42,s43,s44,s45,s46,s47,s48,s49,s50] H⟩⟩ ⟨L72x0 n0  k [s0,s1,s2,s3,s4,s5,s6,s7,s8,s9,s10,s11,s12,s13,s14,s15,s16,s17,s18,s19,s20,s21,s22,s23,s24,s6,
 s0,v27x27,v28x28,v28x28,v30x29,v31x30,v32x31,v33x32,v34x33,s35,s36,s37,s38,s39,s40,s41,s42,s43,s44,s45,s46,s47,s48,s49,s50] H⟩⟩⟩⟩⟩⟩⟩⟩) := by kernel_rfl
-- tocsin/tocsinref10.row
def L73x0 (n : Nat) (k : Value → AHeap → Prop) (sl : List Value) (H : AHeap) : Prop := kit prog (cl (cl (cl (cr (cr (cb Try.f73)))))) n (kblk 0 (kseq prog (cr (cr (cr (cb Try.f73)))) (kfin prog Try.f73 k))) .normal sl
 H
def S73x0 (n0 : Nat) (k : Value → AHeap → Prop) (sl : List Value) (H : AHeap) : Prop := kseq prog (cr (cr (cr (cr (cr (cl (cr (cl (cl (cl (cr (cr (cb Try.f73))))))))))))) (kblk 1 (kit prog (cl (cl (cl (cr (cr (cb
 Try.f73)))))) n0 (kblk 0 (kseq prog (cr (cr (cr (cb Try.f73)))) (kfin prog Try.f73 k))))) .normal sl H
theorem d73 (a0 a1 a2 a3 : Value) (H : AHeap) (k : Value → AHeap → Prop) : kbody prog Try.f73 [a0,a1,a2,a3] H k = (@bndC prog 80 [a0,a1,a2,a3] H ⟨fun v21x1 H2 => @bnd (tupV v21x1 0) ⟨fun v22x3 => @bnd (tupV v21x1 1)
 ⟨fun v23x4 => ∃ n,L73x0 n  k [a0,a1,a2,a3,undef,undef,undef,undef,(.slice none 0 0),(.int .i64 0),v22x3,v23x4,undef,undef,undef,undef,v21x1,a0,a1,a2,a3,v21x1,v22x3,v23x4,undef,undef,undef,undef,
 undef,undef,undef,undef,undef,undef,undef,undef,undef,undef,undef,undef,undef,undef,undef,undef,undef,undef,undef,undef,undef,undef,undef,undef,undef,undef,undef,undef,undef,undef,undef,undef,
 undef,undef,undef,undef,undef,undef,undef,undef,undef] H2⟩⟩⟩) := by kernel_rfl
theorem L73x0q (n0 : Nat) (s0 s1 s2 s3 s4 s5 s6 s7 s8 s9 s10 s11 s12 s13 s14 s15 s16 s17 s18 s19 s20 s21 s22 s23 s24 s25 s26 s27 s28 s29 s30 s31 s32 s33 s34 s35 s36 s37 s38 s39 s40 s41 s42 s43 s44 s45 s46 s47 s48 s49 s50 s51 s52
 s53 s54 s55 s56 s57 s58 s59 s60 s61 s62 s63 s64 s65 s66 s67 s68 : Value) (H : AHeap) (k : Value → AHeap → Prop) : L73x0 (n0 + 1) k [s0,s1,s2,s3,s4,s5,s6,s7,s8,s9,s10,s11,s12,s13,s14,s15,s16,s17,s18,s19,s20,
 s21,s22,s23,s24,s25,s26,s27,s28,s29,s30,s31,s32,s33,s34,s35,s36,s37,s38,s39,s40,s41,s42,s43,s44,s45,s46,s47,s48,s49,s50,s51,s52,s53,s54,s55,s56,s57,s58,s59,s60,s61,s62,s63,s64,s65,
 s66,s67,s68] H = (@bnd (aBin2 prog H .geq 3 (.tmp 24) (.const (.int .i64 0)) s11 (.int .i64 0)) ⟨fun v25x5 => @bnd (gif v25x5 true ((some s0)) undef) ⟨fun v27x6 => @bnd (gif v25x5 true ((some s11)) undef) ⟨fun v28x7 =>
 @bnd (gif v25x5 true ((some s3)) undef) ⟨fun v29x8 => @bndG v25x5 true H ⟨fun v30x9 H10 => ACalls prog 81 [v27x6,v28x7,(.int .u8 1),v29x8] H v30x9 H10⟩ ⟨fun v30x9 H10 => @bnd (pickV v25x5 v30x9 (.bool false)) ⟨fun v31x11
 => @kifB v31x11 ⟨@bnd (aLen prog H10 22 s10) ⟨fun v34x12 => @bnd (aBin2 prog H10 .add 3 (.tmp 32) (.tmp 34) s2 v34x12) ⟨fun v35x13 => @bnd (aBin2 prog H10 .sub 3 (.tmp 35) (.const (.int .i64 1)) v35x13 (.int .i64
 1)) ⟨fun v36x14 => @bnd (aBin2 prog H10 .add 3 (.tmp 39) (.const (.int .i64 1)) s11 (.int .i64 1)) ⟨fun v40x15 => @bnd (aLen prog H10 22 s10) ⟨fun v43x16 => @bnd (aBin2 prog H10 .add 3 (.tmp 41) (.tmp 43) s2 v43x16)
 ⟨fun v44x17 => @bndC prog 80 [s0,v40x15,v44x17,s3] H10 ⟨fun v46x18 H19 => @bnd (tupV v46x18 0) ⟨fun v47x20 => @bnd (tupV v46x18 1) ⟨fun v48x21 => @bndE (aBuiltin prog H19 Builtin.append #[22,22] [s10,v47x20]) ⟨fun
 v51x22 H23 => @bnd (aLen prog H23 22 v51x22) ⟨fun v55x24 => @bnd (aBin2 prog H23 .add 3 (.tmp 53) (.tmp 55) s2 v55x24) ⟨fun v56x25 => @bnd (aBin2 prog H23 .sub 3 (.tmp 56) (.const (.int .i64 1)) v56x25 (.int .i64
 1)) ⟨fun v57x26 => @bnd (buildV prog 50 [(0,(.int .u8 2)),(6,v36x14),(7,v57x26)]) ⟨fun v58x27 => @bndE (aAlloc prog H23 50) ⟨fun v15x28 H29 => @bndS (aStore prog H29 50 v15x28 v58x27) ⟨fun _ H31 => @bnd (aBin2
 prog H31 .eql 9 (.tmp 59) (.const (.string { data := #[97,110,100] })) s3 (.string { data := #[97,110,100] })) ⟨fun v60x32 => @kifB v60x32 ⟨@bnd (aFieldAddr prog H31 50 v15x28 0) ⟨fun v61x33 => @bndS (aStore
 prog H31 5 v61x33 (.int .u8 1)) ⟨fun _ H35 => S73x0 n0 k [s0,s1,s2,s3,s4,s5,s6,s7,s8,s9,v51x22,s11,v36x14,v47x20,v48x21,v15x28,s16,s17,s18,s19,s20,s21,s22,s23,s11,v25x5,v25x5,v27x6,v28x7,v29x8,
 v30x9,v31x11,s2,s10,v34x12,v35x13,v36x14,v46x18,s0,s11,v40x15,s2,s10,v43x16,v44x17,s3,v46x18,v47x20,v48x21,s10,v47x20,v51x22,v36x14,s2,v51x22,v55x24,v56x25,v57x26,v58x27,s3,v60x32,v61x33,s62,
 s63,s64,s65,s66,s67,s68] H35⟩⟩⟩ ⟨S73x0 n0 k [s0,s1,s2,s3,s4,s5,s6,s7,s8,s9,v51x22,s11,v36x14,v47x20,v48x21,v15x28,s16,s17,s18,s19,s20,s21,s22,s23,s11,v25x5,v25x5,v27x6,v28x7,v29x8,v30x9,
 v31x11,s2,s10,v34x12,v35x13,v36x14,v46x18,s0,s11,v40x15,s2,s10,v43x16,v44x17,s3,v46x18,v47x20,v48x21,s10,v47x20,v51x22,v36x14,s2,v51x22,v55x24,v56x25,v57x26,v58x27,s3,v60x32,s61,s62,s63,s64,
 s65,s66,s67,s68] H31⟩⟩⟩⟩⟩⟩⟩⟩⟩⟩⟩⟩⟩⟩⟩⟩⟩⟩⟩ ⟨k (.tuple #[s10,s11]) H10⟩⟩⟩⟩⟩⟩⟩) := by kernel_rfl
theorem S73x0q (n0 : Nat) (s0 s1 s2 s3 s4 s5 s6 s7 s8 s9 s10 s11 s12 s13 s14 s15 s16 s17 s18 s19 s20 s21 s22 s23 s24 s25 s26 s27 s28 s29 s30 s31 s32 s33 s34 s35 s36 s37 s38 s39 s40 s41 s42 s43 s44 s45 s46 s47 s48 s49 s50 s51 s52
 s53 s54 s55 s56 s57 s58 s59 s60 s61 s62 s63 s64 s65 s66 s67 s68 : Value) (H : AHeap) (k : Value → AHeap → Prop) : S73x0 n0 k [s0,s1,s2,s3,s4,s5,s6,s7,s8,s9,s10,s11,s12,s13,s14,s15,s16,s17,s18,s19,s20,s21,
 s22,s23,s24,s25,s26,s27,s28,s29,s30,s31,s32,s33,s34,s35,s36,s37,s38,s39,s40,s41,s42,s43,s44,s45,s46,s47,s48,s49,s50,s51,s52,s53,s54,s55,s56,s57,s58,s59,s60,s61,s62,s63,s64,s65,s66,
 s67,s68] H = (@bnd (aLoad prog H 50 s15) ⟨fun v63x36 => @bndL prog H 22 1 [(0,v63x36)] ⟨fun v64x37 H38 => @bndE (aBuiltin prog H38 Builtin.append #[22,22] [s10,v64x37]) ⟨fun v65x39 H40 => L73x0 n0  k [s0,s1,
 s2,s3,s4,s5,s6,s7,s8,s9,v65x39,s14,s12,s13,s14,s15,s16,s17,s18,s19,s20,s21,s22,s23,s24,s25,s26,s27,s28,s29,s30,s31,s32,s33,s34,s35,s36,s37,s38,s39,s40,s41,s42,s43,s44,s45,s46,s47,
 s48,s49,s50,s51,s52,s53,s54,s55,s56,s57,s58,s59,s60,s61,s10,v63x36,v64x37,v65x39,s14,s67,s68] H40⟩⟩⟩) := by kernel_rfl
-- tocsin/labels.MayValue
theorem d77 (a0 : Value) (H : AHeap) (k : Value → AHeap → Prop) : kbody prog Try.f77 [a0] H k = (@bnd (aLen prog H 9 a0) ⟨fun v4x1 => @bnd (aBin2 prog H .geq 3 (.tmp 4) (.const (.int .i64 1)) v4x1 (.int .i64 1)) ⟨fun
 v5x2 => @bnd (gif v5x2 true ((some a0)) undef) ⟨fun v7x3 => @bnd (gif v5x2 true (aLen prog H 9 v7x3) undef) ⟨fun v8x4 => @bnd (gif v5x2 true (aBin2 prog H .leq 3 (.tmp 8) (.const (.int .i64 32)) v8x4 (.int .i64 32))
 undef) ⟨fun v9x5 => @bnd (pickV v5x2 v9x5 (.bool false)) ⟨fun v10x6 => @bnd (gif v10x6 true ((some a0)) undef) ⟨fun v12x7 => @bndG v10x6 true H ⟨fun v13x8 H9 => ACalls prog 42 [v12x7,(.func (.func 83) #[] #[])] H v13x8 H9⟩
 ⟨fun v13x8 H9 => @bnd (pickV v10x6 v13x8 (.bool false)) ⟨fun v14x10 => k v14x10 H9⟩⟩⟩⟩⟩⟩⟩⟩⟩) := by kernel_rfl
-- tocsin/tocsinref09.blank
theorem d78 (a0 : Value) (H : AHeap) (k : Value → AHeap → Prop) : kbody prog Try.f78 [a0] H k = (@bnd (aBin2 prog H .eql 5 (.tmp 3) (.const (.int .u8 32)) a0 (.int .u8 32)) ⟨fun v4x1 => @bnd (gif v4x1 false ((some a0))
 undef) ⟨fun v6x2 => @bnd (gif v4x1 false (aBin2 prog H .eql 5 (.tmp 6) (.const (.int .u8 9)) v6x2 (.int .u8 9)) undef) ⟨fun v7x3 => @bnd (pickV v4x1 (.bool true) v7x3) ⟨fun v8x4 => @bnd (gif v8x4 false ((some a0)) undef)
 ⟨fun v10x5 => @bnd (gif v8x4 false (aBin2 prog H .eql 5 (.tmp 10) (.const (.int .u8 10)) v10x5 (.int .u8 10)) undef) ⟨fun v11x6 => @bnd (pickV v8x4 (.bool true) v11x6) ⟨fun v12x7 => @bnd (gif v12x7 false ((some a0)) undef)
 ⟨fun v14x8 => @bnd (gif v12x7 false (aBin2 prog H .eql 5 (.tmp 14) (.const (.int .u8 13)) v14x8 (.int .u8 13)) undef) ⟨fun v15x9 => @bnd (pickV v12x7 (.bool true) v15x9) ⟨fun v16x10 => k v16x10 H⟩⟩⟩⟩⟩⟩⟩⟩⟩⟩) := by kernel_rfl
-- tocsin/tocsinref09.longest
def S79x0 (k : Value → AHeap → Prop) (sl : List Value) (H : AHeap) : Prop := kseq prog (cr (cr (cl (cr (cl (cr (cr (cb Try.f79)))))))) (kseq prog (cr (cr (cr (cb Try.f79)))) (kfin prog Try.f79 k)) .normal sl H
def L79x0 (n : Nat) (k : Value → AHeap → Prop) (sl : List Value) (H : AHeap) : Prop := kit prog (cl (cl (cr (cl (cr (cr (cr (cb Try.f79)))))))) n (kblk 0 (kseq prog (cr (cr (cr (cr (cb Try.f79))))) (kfin prog Try.f79
 k))) .normal sl H
def S79x1 (n0 : Nat) (k : Value → AHeap → Prop) (sl : List Value) (H : AHeap) : Prop := kseq prog (cr (cr (cl (cl (cr (cl (cl (cr (cl (cr (cr (cr (cb Try.f79))))))))))))) (kblk 1 (kseq prog (cr (cr (cl (cl (cr (cl (cr (cr
 (cr (cb Try.f79)))))))))) (kit prog (cl (cl (cr (cl (cr (cr (cr (cb Try.f79)))))))) n0 (kblk 0 (kseq prog (cr (cr (cr (cr (cb Try.f79))))) (kfin prog Try.f79 k)))))) .normal sl H
def S79x2 (k : Value → AHeap → Prop) (sl : List Value) (H : AHeap) : Prop := kseq prog (cr (cr (cr (cr (cb Try.f79))))) (kfin prog Try.f79 k) .normal sl H
def B79x0 (n0 : Nat) (k : Value → AHeap → Prop) (sl : List Value) (H : AHeap) : Prop := (kseq prog (cr (cl (cl (cr (cl (cr (cr (cr (cb Try.f79))))))))) (kit prog (cl (cl (cr (cl (cr (cr (cr (cb Try.f79)))))))) n0 (kblk 0
 (kseq prog (cr (cr (cr (cr (cb Try.f79))))) (kfin prog Try.f79 k))))) (.exit 0) sl H
def B79x1 (n0 : Nat) (k : Value → AHeap → Prop) (sl : List Value) (H : AHeap) : Prop := (kblk 1 (kseq prog (cr (cr (cl (cl (cr (cl (cr (cr (cr (cb Try.f79)))))))))) (kit prog (cl (cl (cr (cl (cr (cr (cr (cb
 Try.f79)))))))) n0 (kblk 0 (kseq prog (cr (cr (cr (cr (cb Try.f79))))) (kfin prog Try.f79 k)))))) (.exit 0) sl H
theorem B79x0q (n0 : Nat) (sl : List Value) (H : AHeap) (k : Value → AHeap → Prop) : B79x0 n0 k sl H = S79x2  k sl H := by kernel_rfl
theorem B79x1q (n0 : Nat) (sl : List Value) (H : AHeap) (k : Value → AHeap → Prop) : B79x1 n0 k sl H = S79x2  k sl H := by kernel_rfl
theorem d79 (a0 a1 : Value) (H : AHeap) (k : Value → AHeap → Prop) : kbody prog Try.f79 [a0,a1] H k = (@bndE (aAlloc prog H 105) ⟨fun v4x1 H2 => @bndE (aAlloc prog H2 105) ⟨fun v5x3 H4 => @bnd (aIndex prog 9 a0
 a1) ⟨fun v13x5 => @bnd (aBin2 prog H4 .eql 5 (.tmp 13) (.const (.int .u8 34)) v13x5 (.int .u8 34)) ⟨fun v14x6 => @kifB v14x6 ⟨@bnd (aSliceOp prog H4 9 a0 (some a1) none) ⟨fun v18x7 => @bndC prog 84 [v18x7] H4 ⟨fun
 v19x8 H9 => @bnd (tupV v19x8 0) ⟨fun v20x10 => @bnd (tupV v19x8 1) ⟨fun v21x11 => @bnd (aBin2 prog H9 .gtr 3 (.tmp 22) (.const (.int .i64 0)) v21x11 (.int .i64 0)) ⟨fun v23x12 => @bnd (gif v23x12 true ((some a0)) undef)
 ⟨fun v25x13 => @bnd (gif v23x12 true ((some a1)) undef) ⟨fun v26x14 => @bnd (gif v23x12 true ((some a1)) undef) ⟨fun v27x15 => @bnd (gif v23x12 true ((some v21x11)) undef) ⟨fun v28x16 => @bnd (gif v23x12 true (aBin2 prog H9
 .add 3 (.tmp 27) (.tmp 28) v27x15 v28x16) undef) ⟨fun v29x17 => @bnd (gif v23x12 true (aSliceOp prog H9 9 v25x13 (some v26x14) (some v29x17)) undef) ⟨fun v30x18 => @bndG v23x12 true H9 ⟨fun v31x19 H20 => ACalls prog 85
 [v30x18] H9 v31x19 H20⟩ ⟨fun v31x19 H20 => @bnd (pickV v23x12 v31x19 (.bool false)) ⟨fun v32x21 => @kifB v32x21 ⟨@bnd (aBin2 prog H20 .add 3 (.tmp 35) (.tmp 36) a1 v21x11) ⟨fun v37x22 => @bnd (buildV prog 105 [(0,(.int
 .u8 3)),(1,v20x10),(2,a1),(3,v37x22)]) ⟨fun v38x23 => @bndS (aStore prog H20 105 v5x3 v38x23) ⟨fun _ H25 => S79x0  k [a0,a1,undef,undef,v4x1,v5x3,v20x10,v21x11,undef,undef,undef,a0,a1,v13x5,v14x6,v19x8,
 a0,a1,v18x7,v19x8,v20x10,v21x11,v21x11,v23x12,v23x12,v25x13,v26x14,v27x15,v28x16,v29x17,v30x18,v31x19,v32x21,v20x10,a1,a1,v21x11,v37x22,v38x23,undef,undef,undef,undef,undef,undef,undef,undef,
 undef,undef,undef,undef,undef,undef,undef,undef,undef,undef,undef,undef,undef,undef,undef,undef,undef,undef,undef,undef,undef,undef,undef,undef,undef,undef,undef,undef,undef,undef,undef,undef,
 undef,undef,undef,undef,undef,undef] H25⟩⟩⟩⟩ ⟨S79x0  k [a0,a1,undef,undef,v4x1,v5x3,v20x10,v21x11,undef,undef,undef,a0,a1,v13x5,v14x6,v19x8,a0,a1,v18x7,v19x8,v20x10,v21x11,v21x11,v23x12,v23x12,
 v25x13,v26x14,v27x15,v28x16,v29x17,v30x18,v31x19,v32x21,undef,undef,undef,undef,undef,undef,undef,undef,undef,undef,undef,undef,undef,undef,undef,undef,undef,undef,undef,undef,undef,undef,undef,
 undef,undef,undef,undef,undef,undef,undef,undef,undef,undef,undef,undef,undef,undef,undef,undef,undef,undef,undef,undef,undef,undef,undef,undef,undef,undef,undef,undef,undef] H20⟩⟩⟩⟩⟩⟩⟩⟩⟩⟩⟩⟩⟩⟩⟩ ⟨@bnd
 (aBin2 prog H4 .add 3 (.tmp 40) (.const (.int .i64 1)) a1 (.int .i64 1)) ⟨fun v41x26 => ∃ n,L79x0 n  k [a0,a1,undef,undef,v4x1,v5x3,undef,undef,v41x26,undef,undef,a0,a1,v13x5,v14x6,undef,undef,undef,
 undef,undef,undef,undef,undef,undef,undef,undef,undef,undef,undef,undef,undef,undef,undef,undef,undef,undef,undef,undef,undef,undef,a1,v41x26,undef,undef,undef,undef,undef,undef,undef,undef,
 undef,undef,undef,undef,undef,undef,undef,undef,undef,undef,undef,undef,undef,undef,undef,undef,undef,undef,undef,undef,undef,undef,undef,undef,undef,undef,undef,undef,undef,undef,undef,undef,
 undef,undef,undef] H4⟩⟩⟩⟩⟩⟩) := by kernel_rfl
theorem S79x0q (s0 s1 s2 s3 s4 s5 s6 s7 s8 s9 s10 s11 s12 s13 s14 s15 s16 s17 s18 s19 s20 s21 s22 s23 s24 s25 s26 s27 s28 s29 s30 s31 s32 s33 s34 s35 s36 s37 s38 s39 s40 s41 s42 s43 s44 s45 s46 s47 s48 s49 s50 s51 s52 s53 s54 s55
 s56 s57 s58 s59 s60 s61 s62 s63 s64 s65 s66 s67 s68 s69 s70 s71 s72 s73 s74 s75 s76 s77 s78 s79 s80 s81 s82 s83 s84 : Value) (H : AHeap) (k : Value → AHeap → Prop) : S79x0 k [s0,s1,s2,s3,s4,s5,s6,s7,s8,s9,s10,s11,
 s12,s13,s14,s15,s16,s17,s18,s19,s20,s21,s22,s23,s24,s25,s26,s27,s28,s29,s30,s31,s32,s33,s34,s35,s36,s37,s38,s39,s40,s41,s42,s43,s44,s45,s46,s47,s48,s49,s50,s51,s52,s53,s54,s55,s56,
 s57,s58,s59,s60,s61,s62,s63,s64,s65,s66,s67,s68,s69,s70,s71,s72,s73,s74,s75,s76,s77,s78,s79,s80,s81,s82,s83,s84] H = (@bnd (aLoad prog H 105 s5) ⟨fun v39x27 => @bndS (aStore prog H 105 s4
 v39x27) ⟨fun _ H29 => ∃ r30,aLoad prog H29 105 s4 = some r30 ∧ k r30 H29⟩⟩) := by kernel_rfl
theorem L79x0q (n0 : Nat) (s0 s1 s2 s3 s4 s5 s6 s7 s8 s9 s10 s11 s12 s13 s14 s15 s16 s17 s18 s19 s20 s21 s22 s23 s24 s25 s26 s27 s28 s29 s30 s31 s32 s33 s34 s35 s36 s37 s38 s39 s40 s41 s42 s43 s44 s45 s46 s47 s48 s49 s50 s51 s52
 s53 s54 s55 s56 s57 s58 s59 s60 s61 s62 s63 s64 s65 s66 s67 s68 s69 s70 s71 s72 s73 s74 s75 s76 s77 s78 s79 s80 s81 s82 s83 s84 : Value) (H : AHeap) (k : Value → AHeap → Prop) : L79x0 (n0 + 1) k [s0,s1,s2,s3,s4,s5,s6,s7,
 s8,s9,s10,s11,s12,s13,s14,s15,s16,s17,s18,s19,s20,s21,s22,s23,s24,s25,s26,s27,s28,s29,s30,s31,s32,s33,s34,s35,s36,s37,s38,s39,s40,s41,s42,s43,s44,s45,s46,s47,s48,s49,s50,s51,s52,s53,
 s54,s55,s56,s57,s58,s59,s60,s61,s62,s63,s64,s65,s66,s67,s68,s69,s70,s71,s72,s73,s74,s75,s76,s77,s78,s79,s80,s81,s82,s83,s84] H = (@bnd (aLen prog H 9 s0) ⟨fun v44x31 => @bnd (aBin2 prog H
 .leq 3 (.tmp 42) (.tmp 44) s8 v44x31) ⟨fun v45x32 => @kifB v45x32 ⟨@bnd (aSliceOp prog H 9 s0 (some s1) (some s8)) ⟨fun v52x33 => @bndC prog 86 [v52x33] H ⟨fun v53x34 H35 => @bnd (tupV v53x34 0) ⟨fun v54x36 => @bnd
 (tupV v53x34 1) ⟨fun v55x37 => @bnd (aBin2 prog H35 .gtr 5 (.tmp 56) (.const (.int .u8 0)) v54x36 (.int .u8 0)) ⟨fun v57x38 => @kifB v57x38 ⟨@bnd (buildV prog 105 [(0,v54x36),(1,v55x37),(2,s1),(3,s8)]) ⟨fun
 v62x39 => @bndS (aStore prog H35 105 s5 v62x39) ⟨fun _ H41 => S79x1 n0 k [s0,s1,s2,s3,s4,s5,s6,s7,s8,v54x36,v55x37,s11,s12,s13,s14,s15,s16,s17,s18,s19,s20,s21,s22,s23,s24,s25,s26,s27,s28,s29,
 s30,s31,s32,s33,s34,s35,s36,s37,s38,s39,s40,s41,s8,s0,v44x31,v45x32,s46,s47,v53x34,s0,s1,s8,v52x33,v53x34,v54x36,v55x37,v54x36,v57x38,v54x36,v55x37,s1,s8,v62x39,s63,s64,s65,s66,s67,s68,
 s69,s70,s71,s72,s73,s74,s75,s76,s77,s78,s79,s80,s81,s82,s83,s84] H41⟩⟩⟩ ⟨S79x1 n0 k [s0,s1,s2,s3,s4,s5,s6,s7,s8,v54x36,v55x37,s11,s12,s13,s14,s15,s16,s17,s18,s19,s20,s21,s22,s23,s24,s25,
 s26,s27,s28,s29,s30,s31,s32,s33,s34,s35,s36,s37,s38,s39,s40,s41,s8,s0,v44x31,v45x32,s46,s47,v53x34,s0,s1,s8,v52x33,v53x34,v54x36,v55x37,v54x36,v57x38,s58,s59,s60,s61,s62,s63,s64,s65,s66,
 s67,s68,s69,s70,s71,s72,s73,s74,s75,s76,s77,s78,s79,s80,s81,s82,s83,s84] H35⟩⟩⟩⟩⟩⟩⟩ ⟨B79x0 n0 k [s0,s1,s2,s3,s4,s5,s6,s7,s8,s9,s10,s11,s12,s13,s14,s15,s16,s17,s18,s19,s20,s21,s22,s23,
 s24,s25,s26,s27,s28,s29,s30,s31,s32,s33,s34,s35,s36,s37,s38,s39,s40,s41,s8,s0,v44x31,v45x32,s46,s47,s48,s49,s50,s51,s52,s53,s54,s55,s56,s57,s58,s59,s60,s61,s62,s63,s64,s65,s66,s67,
 s68,s69,s70,s71,s72,s73,s74,s75,s76,s77,s78,s79,s80,s81,s82,s83,s84] H⟩⟩⟩) := by kernel_rfl
theorem S79x1q (n0 : Nat) (s0 s1 s2 s3 s4 s5 s6 s7 s8 s9 s10 s11 s12 s13 s14 s15 s16 s17 s18 s19 s20 s21 s22 s23 s24 s25 s26 s27 s28 s29 s30 s31 s32 s33 s34 s35 s36 s37 s38 s39 s40 s41 s42 s43 s44 s45 s46 s47 s48 s49 s50 s51 s52
 s53 s54 s55 s56 s57 s58 s59 s60 s61 s62 s63 s64 s65 s66 s67 s68 s69 s70 s71 s72 s73 s74 s75 s76 s77 s78 s79 s80 s81 s82 s83 s84 : Value) (H : AHeap) (k : Value → AHeap → Prop) : S79x1 n0 k [s0,s1,s2,s3,s4,s5,s6,s7,s8,
 s9,s10,s11,s12,s13,s14,s15,s16,s17,s18,s19,s20,s21,s22,s23,s24,s25,s26,s27,s28,s29,s30,s31,s32,s33,s34,s35,s36,s37,s38,s39,s40,s41,s42,s43,s44,s45,s46,s47,s48,s49,s50,s51,s52,s53,
 s54,s55,s56,s57,s58,s59,s60,s61,s62,s63,s64,s65,s66,s67,s68,s69,s70,s71,s72,s73,s74,s75,s76,s77,s78,s79,s80,s81,s82,s83,s84] H = (@bnd (aFieldAddr prog H 105 s5 0) ⟨fun v63x42 => @bnd (aLoad
 prog H 5 v63x42) ⟨fun v64x43 => @bnd (aBin2 prog H .gtr 5 (.tmp 64) (.const (.int .u8 0)) v64x43 (.int .u8 0)) ⟨fun v65x44 => @bnd (gif v65x44 true ((some s8)) undef) ⟨fun v67x45 => @bnd (gif v65x44 true (aFieldAddr
 prog H 105 s5 3) undef) ⟨fun v68x46 => @bnd (gif v65x44 true (aLoad prog H 3 v68x46) undef) ⟨fun v69x47 => @bnd (gif v65x44 true (aBin2 prog H .add 3 (.tmp 69) (.const (.int .i64 1)) v69x47 (.int .i64 1)) undef)
 ⟨fun v70x48 => @bnd (gif v65x44 true (aBin2 prog H .gtr 3 (.tmp 67) (.tmp 70) v67x45 v70x48) undef) ⟨fun v71x49 => @bnd (pickV v65x44 v71x49 (.bool false)) ⟨fun v72x50 => @bnd (gif v72x50 false (aFieldAddr prog H 105 s5
 0) undef) ⟨fun v74x51 => @bnd (gif v72x50 false (aLoad prog H 5 v74x51) undef) ⟨fun v75x52 => @bnd (gif v72x50 false (aBin2 prog H .eql 5 (.tmp 75) (.const (.int .u8 0)) v75x52 (.int .u8 0)) undef) ⟨fun v76x53 => @bnd
 (gif v72x50 false ((some v76x53)) undef) ⟨fun v77x54 => @bnd (gif v77x54 true ((some s8)) undef) ⟨fun v78x55 => @bnd (gif v77x54 true ((some s1)) undef) ⟨fun v79x56 => @bnd (gif v77x54 true (aBin2 prog H .add 3 (.tmp 79)
 (.const (.int .i64 2)) v79x56 (.int .i64 2)) undef) ⟨fun v80x57 => @bnd (gif v77x54 true (aBin2 prog H .gtr 3 (.tmp 78) (.tmp 80) v78x55 v80x57) undef) ⟨fun v81x58 => @bnd (gif v72x50 false (pickV v77x54 v81x58 (.bool
 false)) undef) ⟨fun v82x59 => @bnd (pickV v72x50 (.bool true) v82x59) ⟨fun v83x60 => @kifB v83x60 ⟨B79x1 n0 k [s0,s1,s2,s3,s4,s5,s6,s7,s8,s9,s10,s11,s12,s13,s14,s15,s16,s17,s18,s19,s20,s21,s22,s23,s24,
 s25,s26,s27,s28,s29,s30,s31,s32,s33,s34,s35,s36,s37,s38,s39,s40,s41,s42,s43,s44,s45,s46,s47,s48,s49,s50,s51,s52,s53,s54,s55,s56,s57,s58,s59,s60,s61,s62,v63x42,v64x43,v65x44,v65x44,
 v67x45,v68x46,v69x47,v70x48,v71x49,v72x50,v72x50,v74x51,v75x52,v76x53,v77x54,v78x55,v79x56,v80x57,v81x58,v82x59,v83x60,s84] H⟩ ⟨@bnd (aBin2 prog H .add 3 (.tmp 46) (.const (.int .i64 1)) s8 (.int .i64 1))
 ⟨fun v47x61 => L79x0 n0  k [s0,s1,s2,s3,s4,s5,s6,s7,v47x61,s9,s10,s11,s12,s13,s14,s15,s16,s17,s18,s19,s20,s21,s22,s23,s24,s25,s26,s27,s28,s29,s30,s31,s32,s33,s34,s35,s36,s37,s38,s39,s40,
 s41,s42,s43,s44,s45,s8,v47x61,s48,s49,s50,s51,s52,s53,s54,s55,s56,s57,s58,s59,s60,s61,s62,v63x42,v64x43,v65x44,v65x44,v67x45,v68x46,v69x47,v70x48,v71x49,v72x50,v72x50,v74x51,v75x52,v76x53,
 v77x54,v78x55,v79x56,v80x57,v81x58,v82x59,v83x60,s84] H⟩⟩⟩⟩⟩⟩⟩⟩⟩⟩⟩⟩⟩⟩⟩⟩⟩⟩⟩⟩⟩) := by kernel_rfl
theorem S79x2q (s0 s1 s2 s3 s4 s5 s6 s7 s8 s9 s10 s11 s12 s13 s14 s15 s16 s17 s18 s19 s20 s21 s22 s23 s24 s25 s26 s27 s28 s29 s30 s31 s32 s33 s34 s35 s36 s37 s38 s39 s40 s41 s42 s43 s44 s45 s46 s47 s48 s49 s50 s51 s52 s53 s54 s55
 s56 s57 s58 s59 s60 s61 s62 s63 s64 s65 s66 s67 s68 s69 s70 s71 s72 s73 s74 s75 s76 s77 s78 s79 s80 s81 s82 s83 s84 : Value) (H : AHeap) (k : Value → AHeap → Prop) : S79x2 k [s0,s1,s2,s3,s4,s5,s6,s7,s8,s9,s10,s11,
 s12,s13,s14,s15,s16,s17,s18,s19,s20,s21,s22,s23,s24,s25,s26,s27,s28,s29,s30,s31,s32,s33,s34,s35,s36,s37,s38,s39,s40,s41,s42,s43,s44,s45,s46,s47,s48,s49,s50,s51,s52,s53,s54,s55,s56,
 s57,s58,s59,s60,s61,s62,s63,s64,s65,s66,s67,s68,s69,s70,s71,s72,s73,s74,s75,s76,s77,s78,s79,s80,s81,s82,s83,s84] H = (@bnd (aLoad prog H 105 s5) ⟨fun v84x62 => @bndS (aStore prog H 105 s4
 v84x62) ⟨fun _ H64 => ∃ r65,aLoad prog H64 105 s4 = some r65 ∧ k r65 H64⟩⟩) := by kernel_rfl
-- tocsin/tocsinref10.part
theorem d80 (a0 a1 a2 a3 : Value) (H : AHeap) (k : Value → AHeap → Prop) : kbody prog Try.f80 [a0,a1,a2,a3] H k = (@bnd (aBin2 prog H .eql 9 (.tmp 14) (.const (.string { data := #[111,114] })) a3 (.string { data :=
 #[111,114] })) ⟨fun v15x1 => @kifB v15x1 ⟨@bndC prog 73 [a0,a1,a2,(.string { data := #[97,110,100] })] H ⟨fun v19x2 H3 => @bnd (tupV v19x2 0) ⟨fun v20x4 => @bnd (tupV v19x2 1) ⟨fun v21x5 => k (.tuple #[v20x4,v21x5])
 H3⟩⟩⟩⟩ ⟨@bndC prog 81 [a0,a1,(.int .u8 1),(.string { data := #[110,111,116] })] H ⟨fun v24x6 H7 => @kifB v24x6 ⟨@bnd (aBin2 prog H7 .add 3 (.tmp 27) (.const (.int .i64 1)) a1 (.int .i64 1)) ⟨fun v28x8 => @bndC
 prog 80 [a0,v28x8,a2,(.string { data := #[97,110,100] })] H7 ⟨fun v30x9 H10 => @bnd (tupV v30x9 0) ⟨fun v31x11 => @bnd (tupV v30x9 1) ⟨fun v32x12 => @bnd (aBin2 prog H10 .lss 3 (.tmp 33) (.const (.int .i64 0))
 v32x12 (.int .i64 0)) ⟨fun v34x13 => @kifB v34x13 ⟨k (.tuple #[(.slice none 0 0),(.int .i64 (-1))]) H10⟩ ⟨@bnd (aLen prog H10 22 v31x11) ⟨fun v38x14 => @bnd (aBin2 prog H10 .add 3 (.tmp 36) (.tmp 38) a2 v38x14) ⟨fun
 v39x15 => @bnd (aBin2 prog H10 .sub 3 (.tmp 39) (.const (.int .i64 1)) v39x15 (.int .i64 1)) ⟨fun v40x16 => @bnd (buildV prog 50 [(0,(.int .u8 3)),(6,v40x16)]) ⟨fun v41x17 => @bndL prog H10 22 1 [(0,v41x17)]
 ⟨fun v42x18 H19 => @bndE (aBuiltin prog H19 Builtin.append #[22,22] [v31x11,v42x18]) ⟨fun v43x20 H21 => k (.tuple #[v43x20,v32x12]) H21⟩⟩⟩⟩⟩⟩⟩⟩⟩⟩⟩⟩⟩ ⟨@bndC prog 81 [a0,a1,(.int .u8 4),(.string { data := #[40] })]
 H7 ⟨fun v48x22 H23 => @kifB v48x22 ⟨@bnd (aBin2 prog H23 .add 3 (.tmp 51) (.const (.int .i64 1)) a1 (.int .i64 1)) ⟨fun v52x24 => @bndC prog 66 [a0,v52x24,a2] H23 ⟨fun v54x25 H26 => @bnd (tupV v54x25 0) ⟨fun v55x27 =>
 @bnd (tupV v54x25 1) ⟨fun v56x28 => @bnd (aBin2 prog H26 .lss 3 (.tmp 57) (.const (.int .i64 0)) v56x28 (.int .i64 0)) ⟨fun v58x29 => @bnd (gif v58x29 false ((some a0)) undef) ⟨fun v60x30 => @bnd (gif v58x29 false ((some
 v56x28)) undef) ⟨fun v61x31 => @bndG v58x29 false H26 ⟨fun v62x32 H33 => ACalls prog 81 [v60x30,v61x31,(.int .u8 4),(.string { data := #[41] })] H26 v62x32 H33⟩ ⟨fun v62x32 H33 => @bnd (gif v58x29 false (unV prog
 .not v62x32) undef) ⟨fun v63x34 => @bnd (pickV v58x29 (.bool true) v63x34) ⟨fun v64x35 => @kifB v64x35 ⟨k (.tuple #[(.slice none 0 0),(.int .i64 (-1))]) H33⟩ ⟨@bnd (aBin2 prog H33 .add 3 (.tmp 66) (.const (.int .i64 1))
 v56x28 (.int .i64 1)) ⟨fun v67x36 => k (.tuple #[v55x27,v67x36]) H33⟩⟩⟩⟩⟩⟩⟩⟩⟩⟩⟩⟩⟩ ⟨@bndC prog 87 [a0,a1] H23 ⟨fun v70x37 H38 => @bnd (tupV v70x37 0) ⟨fun v71x39 => @bnd (tupV v70x37 1) ⟨fun v72x40 => k (.tuple #[v71x39,
 v72x40]) H38⟩⟩⟩⟩⟩⟩⟩⟩⟩) := by kernel_rfl
end Go.Vi
namespace Go.Vi
open Go Go.Proofs Go.Proofs.Try
-- tocsin/tocsinref10.is
theorem d81 (a0 a1 a2 a3 : Value) (H : AHeap) (k : Value → AHeap → Prop) : kbody prog Try.f81 [a0,a1,a2,a3] H k = (@bnd (aLen prog H 90 a0) ⟨fun v11x1 => @bnd (aBin2 prog H .lss 3 (.tmp 9) (.tmp 11) a1 v11x1) ⟨fun
 v12x2 => @bnd (gif v12x2 true ((some a0)) undef) ⟨fun v14x3 => @bnd (gif v12x2 true ((some a1)) undef) ⟨fun v15x4 => @bnd (gif v12x2 true (aIndexAddr prog H 90 v14x3 v15x4) undef) ⟨fun v16x5 => @bnd (gif v12x2 true
 (aFieldAddr prog H 105 v16x5 0) undef) ⟨fun v17x6 => @bnd (gif v12x2 true (aLoad prog H 5 v17x6) undef) ⟨fun v18x7 => @bnd (gif v12x2 true ((some a2)) undef) ⟨fun v19x8 => @bnd (gif v12x2 true (aBin2 prog H .eql 5
 (.tmp 18) (.tmp 19) v18x7 v19x8) undef) ⟨fun v20x9 => @bnd (pickV v12x2 v20x9 (.bool false)) ⟨fun v21x10 => @bnd (gif v21x10 true ((some a0)) undef) ⟨fun v23x11 => @bnd (gif v21x10 true ((some a1)) undef) ⟨fun v24x12 => @bnd
 (gif v21x10 true (aIndexAddr prog H 90 v23x11 v24x12) undef) ⟨fun v25x13 => @bnd (gif v21x10 true (aFieldAddr prog H 105 v25x13 1) undef) ⟨fun v26x14 => @bnd (gif v21x10 true (aLoad prog H 9 v26x14) undef) ⟨fun
 v27x15 => @bnd (gif v21x10 true ((some a3)) undef) ⟨fun v28x16 => @bnd (gif v21x10 true (aBin2 prog H .eql 9 (.tmp 27) (.tmp 28) v27x15 v28x16) undef) ⟨fun v29x17 => @bnd (gif v21x10 true ((some v29x17)) undef) ⟨fun v30x18
 => @bnd (gif v30x18 false ((some a3)) undef) ⟨fun v31x19 => @bnd (gif v30x18 false (aBin2 prog H .eql 9 (.tmp 31) (.const (.string { data := #[42] })) v31x19 (.string { data := #[42] })) undef) ⟨fun v32x20 => @bnd (gif
 v21x10 true (pickV v30x18 (.bool true) v32x20) undef) ⟨fun v33x21 => @bnd (pickV v21x10 v33x21 (.bool false)) ⟨fun v34x22 => k v34x22 H⟩⟩⟩⟩⟩⟩⟩⟩⟩⟩⟩⟩⟩⟩⟩⟩⟩⟩⟩⟩⟩⟩) := by kernel_rfl
-- tocsin/labels.sign
theorem d83 (a0 : Value) (H : AHeap) (k : Value → AHeap → Prop) : kbody prog Try.f83 [a0] H k = (@bnd (aBin2 prog H .geq 5 (.tmp 3) (.const (.int .u8 32)) a0 (.int .u8 32)) ⟨fun v4x1 => @bnd (gif v4x1 true ((some a0))
 undef) ⟨fun v6x2 => @bnd (gif v4x1 true (aBin2 prog H .leq 5 (.tmp 6) (.const (.int .u8 126)) v6x2 (.int .u8 126)) undef) ⟨fun v7x3 => @bnd (pickV v4x1 v7x3 (.bool false)) ⟨fun v8x4 => k v8x4 H⟩⟩⟩⟩) := by kernel_rfl
-- tocsin/tocsinref07.Quoted
def L84x0 (n : Nat) (k : Value → AHeap → Prop) (sl : List Value) (H : AHeap) : Prop := kit prog (cl (cl (cr (cl (cr (cr (cr (cb Try.f84)))))))) n (kblk 0 (kseq prog (cr (cr (cr (cr (cb Try.f84))))) (kfin prog Try.f84
 k))) .normal sl H
def S84x0 (n0 : Nat) (k : Value → AHeap → Prop) (sl : List Value) (H : AHeap) : Prop := kseq prog (cr (cr (cl (cl (cr (cl (cl (cr (cl (cr (cr (cr (cb Try.f84))))))))))))) (kblk 1 (kseq prog (cr (cr (cl (cl (cr (cl (cr (cr
 (cr (cb Try.f84)))))))))) (kit prog (cl (cl (cr (cl (cr (cr (cr (cb Try.f84)))))))) n0 (kblk 0 (kseq prog (cr (cr (cr (cr (cb Try.f84))))) (kfin prog Try.f84 k)))))) .normal sl H
theorem d84 (a0 : Value) (H : AHeap) (k : Value → AHeap → Prop) : kbody prog Try.f84 [a0] H k = (@bnd (aBin2 prog H .eql 9 (.tmp 6) (.const (.string { data := #[] })) a0 (.string { data := #[] })) ⟨fun v7x1 => @bnd (gif
 v7x1 false ((some a0)) undef) ⟨fun v9x2 => @bnd (gif v7x1 false (aIndex prog 9 v9x2 (.int .i64 0)) undef) ⟨fun v10x3 => @bnd (gif v7x1 false (aBin2 prog H .neq 5 (.tmp 10) (.const (.int .u8 34)) v10x3 (.int .u8 34))
 undef) ⟨fun v11x4 => @bnd (pickV v7x1 (.bool true) v11x4) ⟨fun v12x5 => @kifB v12x5 ⟨k (.tuple #[(.string { data := #[] }),(.int .i64 0)]) H⟩ ⟨∃ n,L84x0 n  k [a0,undef,(.string { data := #[] }),(.int .i64 0),(.string {
 data := #[] }),(.int .i64 1),a0,v7x1,v7x1,v9x2,v10x3,v11x4,v12x5,undef,undef,undef,undef,undef,undef,undef,undef,undef,undef,undef,undef,undef,undef,undef,undef,undef,undef,undef,undef,undef,undef,
 undef,undef,undef,undef,undef,undef,undef,undef,undef,undef,undef,undef,undef,undef,undef,undef,undef,undef,undef,undef] H⟩⟩⟩⟩⟩⟩) := by kernel_rfl
theorem L84x0q (n0 : Nat) (s0 s1 s2 s3 s4 s5 s6 s7 s8 s9 s10 s11 s12 s13 s14 s15 s16 s17 s18 s19 s20 s21 s22 s23 s24 s25 s26 s27 s28 s29 s30 s31 s32 s33 s34 s35 s36 s37 s38 s39 s40 s41 s42 s43 s44 s45 s46 s47 s48 s49 s50 s51 s52
 s53 s54 : Value) (H : AHeap) (k : Value → AHeap → Prop) : L84x0 (n0 + 1) k [s0,s1,s2,s3,s4,s5,s6,s7,s8,s9,s10,s11,s12,s13,s14,s15,s16,s17,s18,s19,s20,s21,s22,s23,s24,s25,s26,s27,s28,s29,s30,s31,
 s32,s33,s34,s35,s36,s37,s38,s39,s40,s41,s42,s43,s44,s45,s46,s47,s48,s49,s50,s51,s52,s53,s54] H = (@bnd (aLen prog H 9 s0) ⟨fun v15x6 => @bnd (aBin2 prog H .lss 3 (.tmp 13) (.tmp 15) s5 v15x6) ⟨fun
 v16x7 => @kifB v16x7 ⟨@bnd (aIndex prog 9 s0 s5) ⟨fun v21x8 => @bnd (aBin2 prog H .eql 5 (.tmp 21) (.const (.int .u8 34)) v21x8 (.int .u8 34)) ⟨fun v22x9 => @kifB v22x9 ⟨@bnd (aBin2 prog H .add 3 (.tmp 24) (.const
 (.int .i64 1)) s5 (.int .i64 1)) ⟨fun v25x10 => k (.tuple #[s4,v25x10]) H⟩⟩ ⟨@bnd (aIndex prog 9 s0 s5) ⟨fun v28x11 => @bnd (aBin2 prog H .eql 5 (.tmp 28) (.const (.int .u8 92)) v28x11 (.int .u8 92)) ⟨fun v29x12 =>
 @kifB v29x12 ⟨@bnd (aBin2 prog H .add 3 (.tmp 30) (.const (.int .i64 1)) s5 (.int .i64 1)) ⟨fun v31x13 => @bnd (aLen prog H 9 s0) ⟨fun v34x14 => @bnd (aBin2 prog H .eql 3 (.tmp 32) (.tmp 34) v31x13 v34x14) ⟨fun
 v35x15 => @bnd (gif v35x15 false ((some s0)) undef) ⟨fun v37x16 => @bnd (gif v35x15 false ((some v31x13)) undef) ⟨fun v38x17 => @bnd (gif v35x15 false (aIndex prog 9 v37x16 v38x17) undef) ⟨fun v39x18 => @bnd (gif v35x15
 false (aBin2 prog H .neq 5 (.tmp 39) (.const (.int .u8 34)) v39x18 (.int .u8 34)) undef) ⟨fun v40x19 => @bnd (gif v35x15 false ((some v40x19)) undef) ⟨fun v41x20 => @bnd (gif v41x20 true ((some s0)) undef) ⟨fun v42x21 =>
 @bnd (gif v41x20 true ((some v31x13)) undef) ⟨fun v43x22 => @bnd (gif v41x20 true (aIndex prog 9 v42x21 v43x22) undef) ⟨fun v44x23 => @bnd (gif v41x20 true (aBin2 prog H .neq 5 (.tmp 44) (.const (.int .u8 92)) v44x23
 (.int .u8 92)) undef) ⟨fun v45x24 => @bnd (gif v35x15 false (pickV v41x20 v45x24 (.bool false)) undef) ⟨fun v46x25 => @bnd (pickV v35x15 (.bool true) v46x25) ⟨fun v47x26 => @kifB v47x26 ⟨k (.tuple #[(.string { data := #[] }),
 (.int .i64 0)]) H⟩ ⟨S84x0 n0 k [s0,s1,s2,s3,s4,v31x13,s6,s7,s8,s9,s10,s11,s12,s5,s0,v15x6,v16x7,s17,s18,s0,s5,v21x8,v22x9,s23,s24,s25,s0,s5,v28x11,v29x12,s5,v31x13,v31x13,s0,v34x14,v35x15,
 v35x15,v37x16,v38x17,v39x18,v40x19,v41x20,v42x21,v43x22,v44x23,v45x24,v46x25,v47x26,s48,s49,s50,s51,s52,s53,s54] H⟩⟩⟩⟩⟩⟩⟩⟩⟩⟩⟩⟩⟩⟩⟩⟩ ⟨S84x0 n0 k [s0,s1,s2,s3,s4,s5,s6,s7,s8,s9,s10,s11,s12,s5,s0,
 v15x6,v16x7,s17,s18,s0,s5,v21x8,v22x9,s23,s24,s25,s0,s5,v28x11,v29x12,s30,s31,s32,s33,s34,s35,s36,s37,s38,s39,s40,s41,s42,s43,s44,s45,s46,s47,s48,s49,s50,s51,s52,s53,s54] H⟩⟩⟩⟩⟩⟩⟩ ⟨k
 (.tuple #[(.string { data := #[] }),(.int .i64 0)]) H⟩⟩⟩) := by kernel_rfl
theorem S84x0q (n0 : Nat) (s0 s1 s2 s3 s4 s5 s6 s7 s8 s9 s10 s11 s12 s13 s14 s15 s16 s17 s18 s19 s20 s21 s22 s23 s24 s25 s26 s27 s28 s29 s30 s31 s32 s33 s34 s35 s36 s37 s38 s39 s40 s41 s42 s43 s44 s45 s46 s47 s48 s49 s50 s51 s52
 s53 s54 : Value) (H : AHeap) (k : Value → AHeap → Prop) : S84x0 n0 k [s0,s1,s2,s3,s4,s5,s6,s7,s8,s9,s10,s11,s12,s13,s14,s15,s16,s17,s18,s19,s20,s21,s22,s23,s24,s25,s26,s27,s28,s29,s30,s31,s32,
 s33,s34,s35,s36,s37,s38,s39,s40,s41,s42,s43,s44,s45,s46,s47,s48,s49,s50,s51,s52,s53,s54] H = (@bnd (aBin2 prog H .add 3 (.tmp 51) (.const (.int .i64 1)) s5 (.int .i64 1)) ⟨fun v52x27 => @bnd (aSliceOp
 prog H 9 s0 (some s5) (some v52x27)) ⟨fun v53x28 => @bnd (aBin2 prog H .add 9 (.tmp 48) (.tmp 53) s4 v53x28) ⟨fun v54x29 => @bnd (aBin2 prog H .add 3 (.tmp 17) (.const (.int .i64 1)) s5 (.int .i64 1)) ⟨fun v18x30 =>
 L84x0 n0  k [s0,s1,s2,s3,v54x29,v18x30,s6,s7,s8,s9,s10,s11,s12,s13,s14,s15,s16,s5,v18x30,s19,s20,s21,s22,s23,s24,s25,s26,s27,s28,s29,s30,s31,s32,s33,s34,s35,s36,s37,s38,s39,s40,s41,s42,
 s43,s44,s45,s46,s47,s4,s0,s5,s5,v52x27,v53x28,v54x29] H⟩⟩⟩⟩) := by kernel_rfl
-- tocsin/tocsinref07.Plain
def L85x0 (n : Nat) (k : Value → AHeap → Prop) (sl : List Value) (H : AHeap) : Prop := kit prog (cl (cl (cr (cl (cr (cb Try.f85)))))) n (kblk 0 (kseq prog (cr (cr (cb Try.f85))) (kfin prog Try.f85 k))) .normal sl H
theorem d85 (a0 : Value) (H : AHeap) (k : Value → AHeap → Prop) : kbody prog Try.f85 [a0] H k = (∃ n,L85x0 n  k [a0,undef,(.bool false),(.int .i64 0),undef,undef,undef,undef,undef,undef,undef,undef,undef,undef,
 undef,undef,undef,undef,undef,undef] H) := by kernel_rfl
theorem L85x0q (n0 : Nat) (s0 s1 s2 s3 s4 s5 s6 s7 s8 s9 s10 s11 s12 s13 s14 s15 s16 s17 s18 s19 : Value) (H : AHeap) (k : Value → AHeap → Prop) : L85x0 (n0 + 1) k [s0,s1,s2,s3,s4,s5,s6,s7,s8,s9,s10,s11,s12,s13,s14,
 s15,s16,s17,s18,s19] H = (@bnd (aLen prog H 9 s0) ⟨fun v6x1 => @bnd (aBin2 prog H .lss 3 (.tmp 4) (.tmp 6) s3 v6x1) ⟨fun v7x2 => @kifB v7x2 ⟨@bnd (aIndex prog 9 s0 s3) ⟨fun v12x3 => @bnd (aBin2 prog H .lss 5
 (.tmp 12) (.const (.int .u8 32)) v12x3 (.int .u8 32)) ⟨fun v13x4 => @bnd (gif v13x4 false ((some s0)) undef) ⟨fun v15x5 => @bnd (gif v13x4 false ((some s3)) undef) ⟨fun v16x6 => @bnd (gif v13x4 false (aIndex prog 9 v15x5
 v16x6) undef) ⟨fun v17x7 => @bnd (gif v13x4 false (aBin2 prog H .gtr 5 (.tmp 17) (.const (.int .u8 126)) v17x7 (.int .u8 126)) undef) ⟨fun v18x8 => @bnd (pickV v13x4 (.bool true) v18x8) ⟨fun v19x9 => @kifB v19x9 ⟨k (.bool
 false) H⟩ ⟨@bnd (aBin2 prog H .add 3 (.tmp 8) (.const (.int .i64 1)) s3 (.int .i64 1)) ⟨fun v9x10 => L85x0 n0  k [s0,s1,s2,v9x10,s3,s0,v6x1,v7x2,s3,v9x10,s0,s3,v12x3,v13x4,v13x4,v15x5,v16x6,v17x7,v18x8,
 v19x9] H⟩⟩⟩⟩⟩⟩⟩⟩⟩⟩ ⟨k (.bool true) H⟩⟩⟩) := by kernel_rfl
-- tocsin/tocsinref09.kind
theorem d86 (a0 : Value) (H : AHeap) (k : Value → AHeap → Prop) : kbody prog Try.f86 [a0] H k = (@bndC prog 88 [a0] H ⟨fun v6x1 H2 => @kifB v6x1 ⟨k (.tuple #[(.int .u8 1),a0]) H2⟩ ⟨@bndC prog 89 [a0] H2 ⟨fun v10x3 H4
 => @kifB v10x3 ⟨k (.tuple #[(.int .u8 2),a0]) H4⟩ ⟨@bndC prog 90 [a0] H4 ⟨fun v14x5 H6 => @kifB v14x5 ⟨k (.tuple #[(.int .u8 4),a0]) H6⟩ ⟨k (.tuple #[(.int .u8 0),(.string { data := #[] })]) H6⟩⟩⟩⟩⟩⟩) := by kernel_rfl
-- tocsin/tocsinref10.comparison
def L87x0 (n : Nat) (k : Value → AHeap → Prop) (sl : List Value) (H : AHeap) : Prop := kit prog (cl (cl (cl (cr (cr (cr (cb Try.f87))))))) n (kblk 0 (kseq prog (cr (cr (cr (cr (cb Try.f87))))) (kfin prog Try.f87 k)))
 .normal sl H
def S87x0 (k : Value → AHeap → Prop) (sl : List Value) (H : AHeap) : Prop := kseq prog (cr (cr (cr (cr (cr (cr (cr (cr (cb Try.f87))))))))) (kfin prog Try.f87 k) .normal sl H
def L87x1 (n : Nat) (k : Value → AHeap → Prop) (sl : List Value) (H : AHeap) : Prop := kit prog (cl (cl (cr (cr (cl (cr (cr (cr (cr (cr (cr (cr (cb Try.f87))))))))))))) n (kblk 2 (kseq prog (cr (cr (cr (cr (cr (cr (cr (cr
 (cb Try.f87))))))))) (kfin prog Try.f87 k))) .normal sl H
def L87x2 (n : Nat) (k : Value → AHeap → Prop) (sl : List Value) (H : AHeap) : Prop := kit prog (cl (cl (cl (cr (cr (cr (cr (cr (cr (cr (cr (cr (cr (cr (cr (cb Try.f87)))))))))))))))) n (kblk 4 (kseq prog (cr (cr (cr (cr
 (cr (cr (cr (cr (cr (cr (cr (cr (cr (cb Try.f87)))))))))))))) (kfin prog Try.f87 k))) .normal sl H
def S87x1 (k : Value → AHeap → Prop) (sl : List Value) (H : AHeap) : Prop := kseq prog (cr (cr (cr (cr (cr (cr (cr (cr (cr (cr (cr (cr (cr (cr (cr (cr (cr (cr (cb Try.f87))))))))))))))))))) (kfin prog Try.f87 k) .normal
 sl H
def B87x0 (n1 : Nat) (k : Value → AHeap → Prop) (sl : List Value) (H : AHeap) : Prop := (kseq prog (cr (cr (cr (cr (cr (cl (cl (cl (cr (cr (cl (cr (cr (cr (cr (cr (cr (cr (cb Try.f87))))))))))))))))))) (kblk 3 (kit prog
 (cl (cl (cr (cr (cl (cr (cr (cr (cr (cr (cr (cr (cb Try.f87))))))))))))) n1 (kblk 2 (kseq prog (cr (cr (cr (cr (cr (cr (cr (cr (cb Try.f87))))))))) (kfin prog Try.f87 k)))))) (.exit 2) sl H
theorem B87x0q (n1 : Nat) (sl : List Value) (H : AHeap) (k : Value → AHeap → Prop) : B87x0 n1 k sl H = S87x0  k sl H := by kernel_rfl
theorem d87 (a0 a1 : Value) (H : AHeap) (k : Value → AHeap → Prop) : kbody prog Try.f87 [a0,a1] H k = (@bnd (buildV prog 50 [(0,(.int .u8 0))]) ⟨fun v13x1 => @bndE (aAlloc prog H 50) ⟨fun v6x2 H3 => @bndS (aStore
 prog H3 50 v6x2 v13x1) ⟨fun _ H5 => ∃ n,L87x0 n  k [a0,a1,undef,undef,(.slice none 0 0),(.int .i64 0),v6x2,(.int .i64 0),undef,undef,undef,undef,undef,v13x1,undef,undef,undef,undef,undef,undef,undef,
 undef,undef,undef,undef,undef,undef,undef,undef,undef,undef,undef,undef,undef,undef,undef,undef,undef,undef,undef,undef,undef,undef,undef,undef,undef,undef,undef,undef,undef,undef,undef,undef,
 undef,undef,undef,undef,undef,undef,undef,undef,undef,undef,undef,undef,undef,undef,undef,undef,undef,undef,undef,undef,undef,undef,undef,undef,undef,undef,undef,undef,undef,undef,undef,undef,
 undef,undef,undef,undef,undef,undef,undef,undef,undef,undef,undef,undef,undef,undef,undef,undef,undef,undef,undef,undef,undef,undef,undef,undef,undef,undef,undef,undef,undef,undef,undef,undef,
 undef,undef,undef,undef,undef,undef,undef,undef,undef,undef,undef,undef,undef,undef,undef,undef,undef,undef,undef,undef,undef,undef,undef,undef,undef,undef,undef,undef,undef,undef,undef,undef,
 undef,undef,undef,undef,undef,undef,undef,undef,undef,undef,undef,undef,undef,undef,undef,undef,undef,undef,undef] H5⟩⟩⟩) := by kernel_rfl
theorem L87x0q (n0 : Nat) (s0 s1 s2 s3 s4 s5 s6 s7 s8 s9 s10 s11 s12 s13 s14 s15 s16 s17 s18 s19 s20 s21 s22 s23 s24 s25 s26 s27 s28 s29 s30 s31 s32 s33 s34 s35 s36 s37 s38 s39 s40 s41 s42 s43 s44 s45 s46 s47 s48 s49 s50 s51 s52
 s53 s54 s55 s56 s57 s58 s59 s60 s61 s62 s63 s64 s65 s66 s67 s68 s69 s70 s71 s72 s73 s74 s75 s76 s77 s78 s79 s80 s81 s82 s83 s84 s85 s86 s87 s88 s89 s90 s91 s92 s93 s94 s95 s96 s97 s98 s99 s100 s101 s102 s103 s104 s105 s106 s107
 s108 s109 s110 s111 s112 s113 s114 s115 s116 s117 s118 s119 s120 s121 s122 s123 s124 s125 s126 s127 s128 s129 s130 s131 s132 s133 s134 s135 s136 s137 s138 s139 s140 s141 s142 s143 s144 s145 s146 s147 s148 s149 s150 s151 s152
 s153 s154 s155 s156 s157 s158 s159 s160 s161 s162 s163 s164 s165 s166 s167 : Value) (H : AHeap) (k : Value → AHeap → Prop) : L87x0 (n0 + 1) k [s0,s1,s2,s3,s4,s5,s6,s7,s8,s9,s10,s11,s12,s13,s14,s15,s16,s17,s18,
 s19,s20,s21,s22,s23,s24,s25,s26,s27,s28,s29,s30,s31,s32,s33,s34,s35,s36,s37,s38,s39,s40,s41,s42,s43,s44,s45,s46,s47,s48,s49,s50,s51,s52,s53,s54,s55,s56,s57,s58,s59,s60,s61,s62,s63,
 s64,s65,s66,s67,s68,s69,s70,s71,s72,s73,s74,s75,s76,s77,s78,s79,s80,s81,s82,s83,s84,s85,s86,s87,s88,s89,s90,s91,s92,s93,s94,s95,s96,s97,s98,s99,s100,s101,s102,s103,s104,s105,s106,s107,
 s108,s109,s110,s111,s112,s113,s114,s115,s116,s117,s118,s119,s120,s121,s122,s123,s124,s125,s126,s127,s128,s129,s130,s131,s132,s133,s134,s135,s136,s137,s138,s139,s140,s141,s142,s143,s144,s145,
 s146,s147,s148,s149,s150,s151,s152,s153,s154,s155,s156,s157,s158,s159,s160,s161,s162,s163,s164,s165,s166,s167] H = (@bnd (aBin2 prog H .lss 3 (.tmp 14) (.const (.int .i64 6)) s7 (.int .i64 6)) ⟨fun
 v15x6 => @bnd (gif v15x6 true ((some s0)) undef) ⟨fun v17x7 => @bnd (gif v15x6 true ((some s1)) undef) ⟨fun v18x8 => @bnd (gif v15x6 true ((some s7)) undef) ⟨fun v19x9 => @bndG v15x6 true H ⟨fun v20x10 H11 => ACalls prog 59
 [v19x9] H v20x10 H11⟩ ⟨fun v20x10 H11 => @bndG v15x6 true H11 ⟨fun v21x12 H13 => ACalls prog 81 [v17x7,v18x8,(.int .u8 1),v20x10] H11 v21x12 H13⟩ ⟨fun v21x12 H13 => @bnd (gif v15x6 true (unV prog .not v21x12) undef)
 ⟨fun v22x14 => @bnd (pickV v15x6 v22x14 (.bool false)) ⟨fun v23x15 => @kifB v23x15 ⟨@bnd (aBin2 prog H13 .add 3 (.tmp 24) (.const (.int .i64 1)) s7 (.int .i64 1)) ⟨fun v25x16 => L87x0 n0  k [s0,s1,s2,s3,s4,s5,s6,
 v25x16,s8,s9,s10,s11,s12,s13,s7,v15x6,v15x6,v17x7,v18x8,v19x9,v20x10,v21x12,v22x14,v23x15,s7,v25x16,s26,s27,s28,s29,s30,s31,s32,s33,s34,s35,s36,s37,s38,s39,s40,s41,s42,s43,s44,s45,s46,
 s47,s48,s49,s50,s51,s52,s53,s54,s55,s56,s57,s58,s59,s60,s61,s62,s63,s64,s65,s66,s67,s68,s69,s70,s71,s72,s73,s74,s75,s76,s77,s78,s79,s80,s81,s82,s83,s84,s85,s86,s87,s88,s89,s90,s91,
 s92,s93,s94,s95,s96,s97,s98,s99,s100,s101,s102,s103,s104,s105,s106,s107,s108,s109,s110,s111,s112,s113,s114,s115,s116,s117,s118,s119,s120,s121,s122,s123,s124,s125,s126,s127,s128,s129,s130,
 s131,s132,s133,s134,s135,s136,s137,s138,s139,s140,s141,s142,s143,s144,s145,s146,s147,s148,s149,s150,s151,s152,s153,s154,s155,s156,s157,s158,s159,s160,s161,s162,s163,s164,s165,s166,s167] H13⟩⟩
 ⟨@bnd (aBin2 prog H13 .eql 3 (.tmp 26) (.const (.int .i64 6)) s7 (.int .i64 6)) ⟨fun v27x17 => @bnd (gif v27x17 false ((some s0)) undef) ⟨fun v29x18 => @bnd (gif v27x17 false ((some s1)) undef) ⟨fun v30x19 => @bnd (gif
 v27x17 false (aBin2 prog H13 .add 3 (.tmp 30) (.const (.int .i64 1)) v30x19 (.int .i64 1)) undef) ⟨fun v31x20 => @bndG v27x17 false H13 ⟨fun v32x21 H22 => ACalls prog 81 [v29x18,v31x20,(.int .u8 4),(.string { data :=
 #[40] })] H13 v32x21 H22⟩ ⟨fun v32x21 H22 => @bnd (gif v27x17 false (unV prog .not v32x21) undef) ⟨fun v33x23 => @bnd (pickV v27x17 (.bool true) v33x23) ⟨fun v34x24 => @bnd (gif v34x24 false ((some s0)) undef) ⟨fun v36x25
 => @bnd (gif v34x24 false ((some s1)) undef) ⟨fun v37x26 => @bnd (gif v34x24 false (aBin2 prog H22 .add 3 (.tmp 37) (.const (.int .i64 2)) v37x26 (.int .i64 2)) undef) ⟨fun v38x27 => @bndG v34x24 false H22 ⟨fun v39x28 H29
 => ACalls prog 81 [v36x25,v38x27,(.int .u8 4),(.string { data := #[123] })] H22 v39x28 H29⟩ ⟨fun v39x28 H29 => @bnd (gif v34x24 false (unV prog .not v39x28) undef) ⟨fun v40x30 => @bnd (pickV v34x24 (.bool true)
 v40x30) ⟨fun v41x31 => @kifB v41x31 ⟨k (.tuple #[(.slice none 0 0),(.int .i64 (-1))]) H29⟩ ⟨@bnd (convV prog H29 3 5 s7) ⟨fun v43x32 => @bnd (aFieldAddr prog H29 50 s6 1) ⟨fun v44x33 => @bndS (aStore prog H29 5
 v44x33 v43x32) ⟨fun _ H35 => @bnd (aBin2 prog H35 .add 3 (.tmp 45) (.const (.int .i64 3)) s1 (.int .i64 3)) ⟨fun v46x36 => @bndC prog 81 [s0,v46x36,(.int .u8 4),(.string { data := #[125] })] H35 ⟨fun v49x37 H38 =>
 @kifB v49x37 ⟨@bnd (aBin2 prog H38 .add 3 (.tmp 50) (.const (.int .i64 1)) v46x36 (.int .i64 1)) ⟨fun v51x39 => S87x0  k [s0,v51x39,s2,s3,s4,s5,s6,s7,s8,s9,s10,s11,s12,s13,s7,v15x6,v15x6,v17x7,v18x8,
 v19x9,v20x10,v21x12,v22x14,v23x15,s24,s25,s7,v27x17,v27x17,v29x18,v30x19,v31x20,v32x21,v33x23,v34x24,v34x24,v36x25,v37x26,v38x27,v39x28,v40x30,v41x31,s7,v43x32,v44x33,s1,v46x36,s0,v46x36,v49x37,
 v46x36,v51x39,s52,s53,s54,s55,s56,s57,s58,s59,s60,s61,s62,s63,s64,s65,s66,s67,s68,s69,s70,s71,s72,s73,s74,s75,s76,s77,s78,s79,s80,s81,s82,s83,s84,s85,s86,s87,s88,s89,s90,s91,s92,s93,
 s94,s95,s96,s97,s98,s99,s100,s101,s102,s103,s104,s105,s106,s107,s108,s109,s110,s111,s112,s113,s114,s115,s116,s117,s118,s119,s120,s121,s122,s123,s124,s125,s126,s127,s128,s129,s130,s131,s132,
 s133,s134,s135,s136,s137,s138,s139,s140,s141,s142,s143,s144,s145,s146,s147,s148,s149,s150,s151,s152,s153,s154,s155,s156,s157,s158,s159,s160,s161,s162,s163,s164,s165,s166,s167] H38⟩⟩ ⟨∃ n,L87x1
 n  k [s0,v46x36,s2,s3,s4,s5,s6,s7,s8,s9,s10,s11,s12,s13,s7,v15x6,v15x6,v17x7,v18x8,v19x9,v20x10,v21x12,v22x14,v23x15,s24,s25,s7,v27x17,v27x17,v29x18,v30x19,v31x20,v32x21,v33x23,v34x24,v34x24,
 v36x25,v37x26,v38x27,v39x28,v40x30,v41x31,s7,v43x32,v44x33,s1,v46x36,s0,v46x36,v49x37,s50,s51,s52,s53,s54,s55,s56,s57,s58,s59,s60,s61,s62,s63,s64,s65,s66,s67,s68,s69,s70,s71,s72,s73,s74,
 s75,s76,s77,s78,s79,s80,s81,s82,s83,s84,s85,s86,s87,s88,s89,s90,s91,s92,s93,s94,s95,s96,s97,s98,s99,s100,s101,s102,s103,s104,s105,s106,s107,s108,s109,s110,s111,s112,s113,s114,s115,s116,
 s117,s118,s119,s120,s121,s122,s123,s124,s125,s126,s127,s128,s129,s130,s131,s132,s133,s134,s135,s136,s137,s138,s139,s140,s141,s142,s143,s144,s145,s146,s147,s148,s149,s150,s151,s152,s153,s154,
 s155,s156,s157,s158,s159,s160,s161,s162,s163,s164,s165,s166,s167] H38⟩⟩⟩⟩⟩⟩⟩⟩⟩⟩⟩⟩⟩⟩⟩⟩⟩⟩⟩⟩⟩⟩⟩⟩⟩⟩⟩⟩⟩) := by kernel_rfl
theorem S87x0q (s0 s1 s2 s3 s4 s5 s6 s7 s8 s9 s10 s11 s12 s13 s14 s15 s16 s17 s18 s19 s20 s21 s22 s23 s24 s25 s26 s27 s28 s29 s30 s31 s32 s33 s34 s35 s36 s37 s38 s39 s40 s41 s42 s43 s44 s45 s46 s47 s48 s49 s50 s51 s52 s53 s54 s55
 s56 s57 s58 s59 s60 s61 s62 s63 s64 s65 s66 s67 s68 s69 s70 s71 s72 s73 s74 s75 s76 s77 s78 s79 s80 s81 s82 s83 s84 s85 s86 s87 s88 s89 s90 s91 s92 s93 s94 s95 s96 s97 s98 s99 s100 s101 s102 s103 s104 s105 s106 s107 s108 s109
 s110 s111 s112 s113 s114 s115 s116 s117 s118 s119 s120 s121 s122 s123 s124 s125 s126 s127 s128 s129 s130 s131 s132 s133 s134 s135 s136 s137 s138 s139 s140 s141 s142 s143 s144 s145 s146 s147 s148 s149 s150 s151 s152 s153 s154
 s155 s156 s157 s158 s159 s160 s161 s162 s163 s164 s165 s166 s167 : Value) (H : AHeap) (k : Value → AHeap → Prop) : S87x0 k [s0,s1,s2,s3,s4,s5,s6,s7,s8,s9,s10,s11,s12,s13,s14,s15,s16,s17,s18,s19,s20,s21,
 s22,s23,s24,s25,s26,s27,s28,s29,s30,s31,s32,s33,s34,s35,s36,s37,s38,s39,s40,s41,s42,s43,s44,s45,s46,s47,s48,s49,s50,s51,s52,s53,s54,s55,s56,s57,s58,s59,s60,s61,s62,s63,s64,s65,s66,
 s67,s68,s69,s70,s71,s72,s73,s74,s75,s76,s77,s78,s79,s80,s81,s82,s83,s84,s85,s86,s87,s88,s89,s90,s91,s92,s93,s94,s95,s96,s97,s98,s99,s100,s101,s102,s103,s104,s105,s106,s107,s108,s109,
 s110,s111,s112,s113,s114,s115,s116,s117,s118,s119,s120,s121,s122,s123,s124,s125,s126,s127,s128,s129,s130,s131,s132,s133,s134,s135,s136,s137,s138,s139,s140,s141,s142,s143,s144,s145,s146,s147,
 s148,s149,s150,s151,s152,s153,s154,s155,s156,s157,s158,s159,s160,s161,s162,s163,s164,s165,s166,s167] H = (@bnd (aFieldAddr prog H 50 s6 2) ⟨fun v75x40 => @bnd (aLoad prog H 48 v75x40) ⟨fun v76x41 =>
 @bndC prog 92 [v76x41] H ⟨fun v77x42 H43 => @bnd (unV prog .not v77x42) ⟨fun v78x44 => @bnd (gif v78x44 false ((some s0)) undef) ⟨fun v80x45 => @bnd (gif v78x44 false ((some s1)) undef) ⟨fun v81x46 => @bndG v78x44 false
 H43 ⟨fun v82x47 H48 => ACalls prog 81 [v80x45,v81x46,(.int .u8 4),(.string { data := #[91] })] H43 v82x47 H48⟩ ⟨fun v82x47 H48 => @bnd (gif v78x44 false (unV prog .not v82x47) undef) ⟨fun v83x49 => @bnd (pickV v78x44
 (.bool true) v83x49) ⟨fun v84x50 => @bnd (gif v84x50 false ((some s0)) undef) ⟨fun v86x51 => @bnd (gif v84x50 false ((some s1)) undef) ⟨fun v87x52 => @bnd (gif v84x50 false (aBin2 prog H48 .add 3 (.tmp 87) (.const (.int
 .i64 1)) v87x52 (.int .i64 1)) undef) ⟨fun v88x53 => @bndG v84x50 false H48 ⟨fun v89x54 H55 => ACalls prog 81 [v86x51,v88x53,(.int .u8 2),(.string { data := #[42] })] H48 v89x54 H55⟩ ⟨fun v89x54 H55 => @bnd (gif v84x50
 false (unV prog .not v89x54) undef) ⟨fun v90x56 => @bnd (pickV v84x50 (.bool true) v90x56) ⟨fun v91x57 => @bnd (gif v91x57 false ((some s0)) undef) ⟨fun v93x58 => @bnd (gif v91x57 false ((some s1)) undef) ⟨fun v94x59 =>
 @bnd (gif v91x57 false (aBin2 prog H55 .add 3 (.tmp 94) (.const (.int .i64 2)) v94x59 (.int .i64 2)) undef) ⟨fun v95x60 => @bndG v91x57 false H55 ⟨fun v96x61 H62 => ACalls prog 81 [v93x58,v95x60,(.int .u8 4),(.string
 { data := #[93] })] H55 v96x61 H62⟩ ⟨fun v96x61 H62 => @bnd (gif v91x57 false (unV prog .not v96x61) undef) ⟨fun v97x63 => @bnd (pickV v91x57 (.bool true) v97x63) ⟨fun v98x64 => @bnd (gif v98x64 false ((some s0)) undef)
 ⟨fun v100x65 => @bnd (gif v98x64 false ((some s1)) undef) ⟨fun v101x66 => @bnd (gif v98x64 false (aBin2 prog H62 .add 3 (.tmp 101) (.const (.int .i64 3)) v101x66 (.int .i64 3)) undef) ⟨fun v102x67 => @bndG v98x64 false H62
 ⟨fun v103x68 H69 => ACalls prog 81 [v100x65,v102x67,(.int .u8 4),(.string { data := #[41] })] H62 v103x68 H69⟩ ⟨fun v103x68 H69 => @bnd (gif v98x64 false (unV prog .not v103x68) undef) ⟨fun v104x70 => @bnd (pickV
 v98x64 (.bool true) v104x70) ⟨fun v105x71 => @kifB v105x71 ⟨k (.tuple #[(.slice none 0 0),(.int .i64 (-1))]) H69⟩ ⟨@bnd (aBin2 prog H69 .add 3 (.tmp 107) (.const (.int .i64 1)) s1 (.int .i64 1)) ⟨fun v108x72 => @bnd
 (aIndexAddr prog H69 90 s0 v108x72) ⟨fun v109x73 => @bnd (aFieldAddr prog H69 105 v109x73 1) ⟨fun v110x74 => @bnd (aLoad prog H69 9 v110x74) ⟨fun v111x75 => @bndC prog 93 [v111x75] H69 ⟨fun v112x76 H77 => @bnd
 (aFieldAddr prog H77 50 s6 3) ⟨fun v113x78 => @bndS (aStore prog H77 3 v113x78 v112x76) ⟨fun _ H80 => @bnd (aBin2 prog H80 .add 3 (.tmp 114) (.const (.int .i64 4)) s1 (.int .i64 4)) ⟨fun v115x81 => ∃ n,L87x2 n  k
 [s0,v115x81,s2,s3,s4,s5,s6,(.int .i64 0),s8,s9,s10,s11,s12,s13,s14,s15,s16,s17,s18,s19,s20,s21,s22,s23,s24,s25,s26,s27,s28,s29,s30,s31,s32,s33,s34,s35,s36,s37,s38,s39,s40,s41,s42,s43,
 s44,s45,s46,s47,s48,s49,s50,s51,s52,s53,s54,s55,s56,s57,s58,s59,s60,s61,s62,s63,s64,s65,s66,s67,s68,s69,s70,s71,s72,s73,s74,v75x40,v76x41,v77x42,v78x44,v78x44,v80x45,v81x46,v82x47,v83x49,
 v84x50,v84x50,v86x51,v87x52,v88x53,v89x54,v90x56,v91x57,v91x57,v93x58,v94x59,v95x60,v96x61,v97x63,v98x64,v98x64,v100x65,v101x66,v102x67,v103x68,v104x70,v105x71,s0,s1,v108x72,v109x73,v110x74,v111x75,
 v112x76,v113x78,s1,v115x81,s116,s117,s118,s119,s120,s121,s122,s123,s124,s125,s126,s127,s128,s129,s130,s131,s132,s133,s134,s135,s136,s137,s138,s139,s140,s141,s142,s143,s144,s145,s146,s147,
 s148,s149,s150,s151,s152,s153,s154,s155,s156,s157,s158,s159,s160,s161,s162,s163,s164,s165,s166,s167] H80⟩⟩⟩⟩⟩⟩⟩⟩⟩⟩⟩⟩⟩⟩⟩⟩⟩⟩⟩⟩⟩⟩⟩⟩⟩⟩⟩⟩⟩⟩⟩⟩⟩⟩⟩⟩) := by kernel_rfl
theorem L87x1q (n1 : Nat) (s0 s1 s2 s3 s4 s5 s6 s7 s8 s9 s10 s11 s12 s13 s14 s15 s16 s17 s18 s19 s20 s21 s22 s23 s24 s25 s26 s27 s28 s29 s30 s31 s32 s33 s34 s35 s36 s37 s38 s39 s40 s41 s42 s43 s44 s45 s46 s47 s48 s49 s50 s51 s52
 s53 s54 s55 s56 s57 s58 s59 s60 s61 s62 s63 s64 s65 s66 s67 s68 s69 s70 s71 s72 s73 s74 s75 s76 s77 s78 s79 s80 s81 s82 s83 s84 s85 s86 s87 s88 s89 s90 s91 s92 s93 s94 s95 s96 s97 s98 s99 s100 s101 s102 s103 s104 s105 s106 s107
 s108 s109 s110 s111 s112 s113 s114 s115 s116 s117 s118 s119 s120 s121 s122 s123 s124 s125 s126 s127 s128 s129 s130 s131 s132 s133 s134 s135 s136 s137 s138 s139 s140 s141 s142 s143 s144 s145 s146 s147 s148 s149 s150 s151 s152
 s153 s154 s155 s156 s157 s158 s159 s160 s161 s162 s163 s164 s165 s166 s167 : Value) (H : AHeap) (k : Value → AHeap → Prop) : L87x1 (n1 + 1) k [s0,s1,s2,s3,s4,s5,s6,s7,s8,s9,s10,s11,s12,s13,s14,s15,s16,s17,s18,
 s19,s20,s21,s22,s23,s24,s25,s26,s27,s28,s29,s30,s31,s32,s33,s34,s35,s36,s37,s38,s39,s40,s41,s42,s43,s44,s45,s46,s47,s48,s49,s50,s51,s52,s53,s54,s55,s56,s57,s58,s59,s60,s61,s62,s63,
 s64,s65,s66,s67,s68,s69,s70,s71,s72,s73,s74,s75,s76,s77,s78,s79,s80,s81,s82,s83,s84,s85,s86,s87,s88,s89,s90,s91,s92,s93,s94,s95,s96,s97,s98,s99,s100,s101,s102,s103,s104,s105,s106,s107,
 s108,s109,s110,s111,s112,s113,s114,s115,s116,s117,s118,s119,s120,s121,s122,s123,s124,s125,s126,s127,s128,s129,s130,s131,s132,s133,s134,s135,s136,s137,s138,s139,s140,s141,s142,s143,s144,s145,
 s146,s147,s148,s149,s150,s151,s152,s153,s154,s155,s156,s157,s158,s159,s160,s161,s162,s163,s164,s165,s166,s167] H = (@bndC prog 91 [s0,s1] H ⟨fun v55x82 H83 => @bnd (tupV v55x82 0) ⟨fun v56x84 => @bnd
 (tupV v55x82 1) ⟨fun v57x85 => @bndE (aAlloc prog H83 52) ⟨fun v8x86 H87 => @bndS (aStore prog H87 52 v8x86 v56x84) ⟨fun _ H89 => @bnd (aBin2 prog H89 .lss 3 (.tmp 58) (.const (.int .i64 0)) v57x85 (.int .i64 0))
 ⟨fun v59x90 => @kifB v59x90 ⟨k (.tuple #[(.slice none 0 0),(.int .i64 (-1))]) H89⟩ ⟨@bnd (aFieldAddr prog H89 50 s6 2) ⟨fun v60x91 => @bnd (aLoad prog H89 48 v60x91) ⟨fun v61x92 => @bnd (aLoad prog H89 52 v8x86)
 ⟨fun v62x93 => @bndL prog H89 48 1 [(0,v62x93)] ⟨fun v63x94 H95 => @bndE (aBuiltin prog H95 Builtin.append #[48,48] [v61x92,v63x94]) ⟨fun v64x96 H97 => @bnd (aFieldAddr prog H97 50 s6 2) ⟨fun v65x98 => @bndS
 (aStore prog H97 48 v65x98 v64x96) ⟨fun _ H100 => @bnd (aBin2 prog H100 .add 3 (.tmp 66) (.const (.int .i64 1)) v57x85 (.int .i64 1)) ⟨fun v67x101 => @bndC prog 81 [s0,v57x85,(.int .u8 4),(.string { data :=
 #[125] })] H100 ⟨fun v70x102 H103 => @kifB v70x102 ⟨B87x0 n1 k [s0,v67x101,s2,s3,s4,s5,s6,s7,v8x86,v57x85,s10,s11,s12,s13,s14,s15,s16,s17,s18,s19,s20,s21,s22,s23,s24,s25,s26,s27,s28,s29,s30,s31,
 s32,s33,s34,s35,s36,s37,s38,s39,s40,s41,s42,s43,s44,s45,s46,s47,s48,s49,s50,s51,v55x82,s0,s1,v55x82,v56x84,v57x85,v57x85,v59x90,v60x91,v61x92,v62x93,v63x94,v64x96,v65x98,v57x85,v67x101,s0,
 v57x85,v70x102,s71,s72,s73,s74,s75,s76,s77,s78,s79,s80,s81,s82,s83,s84,s85,s86,s87,s88,s89,s90,s91,s92,s93,s94,s95,s96,s97,s98,s99,s100,s101,s102,s103,s104,s105,s106,s107,s108,s109,s110,
 s111,s112,s113,s114,s115,s116,s117,s118,s119,s120,s121,s122,s123,s124,s125,s126,s127,s128,s129,s130,s131,s132,s133,s134,s135,s136,s137,s138,s139,s140,s141,s142,s143,s144,s145,s146,s147,s148,
 s149,s150,s151,s152,s153,s154,s155,s156,s157,s158,s159,s160,s161,s162,s163,s164,s165,s166,s167] H103⟩ ⟨@bndC prog 81 [s0,v57x85,(.int .u8 4),(.string { data := #[44] })] H103 ⟨fun v73x104 H105 => @bnd
 (unV prog .not v73x104) ⟨fun v74x106 => @kifB v74x106 ⟨k (.tuple #[(.slice none 0 0),(.int .i64 (-1))]) H105⟩ ⟨L87x1 n1  k [s0,v67x101,s2,s3,s4,s5,s6,s7,v8x86,v57x85,s10,s11,s12,s13,s14,s15,s16,s17,s18,
 s19,s20,s21,s22,s23,s24,s25,s26,s27,s28,s29,s30,s31,s32,s33,s34,s35,s36,s37,s38,s39,s40,s41,s42,s43,s44,s45,s46,s47,s48,s49,s50,s51,v55x82,s0,s1,v55x82,v56x84,v57x85,v57x85,v59x90,
 v60x91,v61x92,v62x93,v63x94,v64x96,v65x98,v57x85,v67x101,s0,v57x85,v70x102,s0,v57x85,v73x104,v74x106,s75,s76,s77,s78,s79,s80,s81,s82,s83,s84,s85,s86,s87,s88,s89,s90,s91,s92,s93,s94,s95,s96,
 s97,s98,s99,s100,s101,s102,s103,s104,s105,s106,s107,s108,s109,s110,s111,s112,s113,s114,s115,s116,s117,s118,s119,s120,s121,s122,s123,s124,s125,s126,s127,s128,s129,s130,s131,s132,s133,s134,
 s135,s136,s137,s138,s139,s140,s141,s142,s143,s144,s145,s146,s147,s148,s149,s150,s151,s152,s153,s154,s155,s156,s157,s158,s159,s160,s161,s162,s163,s164,s165,s166,s167] H105⟩⟩⟩⟩⟩⟩⟩⟩⟩⟩⟩⟩⟩⟩⟩⟩⟩⟩⟩⟩) :=
 by kernel_rfl
theorem L87x2q (n2 : Nat) (s0 s1 s2 s3 s4 s5 s6 s7 s8 s9 s10 s11 s12 s13 s14 s15 s16 s17 s18 s19 s20 s21 s22 s23 s24 s25 s26 s27 s28 s29 s30 s31 s32 s33 s34 s35 s36 s37 s38 s39 s40 s41 s42 s43 s44 s45 s46 s47 s48 s49 s50 s51 s52
 s53 s54 s55 s56 s57 s58 s59 s60 s61 s62 s63 s64 s65 s66 s67 s68 s69 s70 s71 s72 s73 s74 s75 s76 s77 s78 s79 s80 s81 s82 s83 s84 s85 s86 s87 s88 s89 s90 s91 s92 s93 s94 s95 s96 s97 s98 s99 s100 s101 s102 s103 s104 s105 s106 s107
 s108 s109 s110 s111 s112 s113 s114 s115 s116 s117 s118 s119 s120 s121 s122 s123 s124 s125 s126 s127 s128 s129 s130 s131 s132 s133 s134 s135 s136 s137 s138 s139 s140 s141 s142 s143 s144 s145 s146 s147 s148 s149 s150 s151 s152
 s153 s154 s155 s156 s157 s158 s159 s160 s161 s162 s163 s164 s165 s166 s167 : Value) (H : AHeap) (k : Value → AHeap → Prop) : L87x2 (n2 + 1) k [s0,s1,s2,s3,s4,s5,s6,s7,s8,s9,s10,s11,s12,s13,s14,s15,s16,s17,s18,
 s19,s20,s21,s22,s23,s24,s25,s26,s27,s28,s29,s30,s31,s32,s33,s34,s35,s36,s37,s38,s39,s40,s41,s42,s43,s44,s45,s46,s47,s48,s49,s50,s51,s52,s53,s54,s55,s56,s57,s58,s59,s60,s61,s62,s63,
 s64,s65,s66,s67,s68,s69,s70,s71,s72,s73,s74,s75,s76,s77,s78,s79,s80,s81,s82,s83,s84,s85,s86,s87,s88,s89,s90,s91,s92,s93,s94,s95,s96,s97,s98,s99,s100,s101,s102,s103,s104,s105,s106,s107,
 s108,s109,s110,s111,s112,s113,s114,s115,s116,s117,s118,s119,s120,s121,s122,s123,s124,s125,s126,s127,s128,s129,s130,s131,s132,s133,s134,s135,s136,s137,s138,s139,s140,s141,s142,s143,s144,s145,
 s146,s147,s148,s149,s150,s151,s152,s153,s154,s155,s156,s157,s158,s159,s160,s161,s162,s163,s164,s165,s166,s167] H = (@bnd (aBin2 prog H .lss 3 (.tmp 116) (.const (.int .i64 6)) s7 (.int .i64 6)) ⟨fun
 v117x107 => @bnd (gif v117x107 true ((some s0)) undef) ⟨fun v119x108 => @bnd (gif v117x107 true ((some s1)) undef) ⟨fun v120x109 => @bnd (gif v117x107 true ((some s7)) undef) ⟨fun v121x110 => @bndG v117x107 true H ⟨fun v122x111
 H112 => ACalls prog 62 [v121x110] H v122x111 H112⟩ ⟨fun v122x111 H112 => @bndG v117x107 true H112 ⟨fun v123x113 H114 => ACalls prog 81 [v119x108,v120x109,(.int .u8 4),v122x111] H112 v123x113 H114⟩ ⟨fun v123x113 H114
 => @bnd (gif v117x107 true (unV prog .not v123x113) undef) ⟨fun v124x115 => @bnd (pickV v117x107 v124x115 (.bool false)) ⟨fun v125x116 => @kifB v125x116 ⟨@bnd (aBin2 prog H114 .add 3 (.tmp 126) (.const (.int .i64 1)) s7
 (.int .i64 1)) ⟨fun v127x117 => L87x2 n2  k [s0,s1,s2,s3,s4,s5,s6,v127x117,s8,s9,s10,s11,s12,s13,s14,s15,s16,s17,s18,s19,s20,s21,s22,s23,s24,s25,s26,s27,s28,s29,s30,s31,s32,s33,s34,s35,s36,
 s37,s38,s39,s40,s41,s42,s43,s44,s45,s46,s47,s48,s49,s50,s51,s52,s53,s54,s55,s56,s57,s58,s59,s60,s61,s62,s63,s64,s65,s66,s67,s68,s69,s70,s71,s72,s73,s74,s75,s76,s77,s78,s79,s80,s81,
 s82,s83,s84,s85,s86,s87,s88,s89,s90,s91,s92,s93,s94,s95,s96,s97,s98,s99,s100,s101,s102,s103,s104,s105,s106,s107,s108,s109,s110,s111,s112,s113,s114,s115,s7,v117x107,v117x107,v119x108,
 v120x109,v121x110,v122x111,v123x113,v124x115,v125x116,s7,v127x117,s128,s129,s130,s131,s132,s133,s134,s135,s136,s137,s138,s139,s140,s141,s142,s143,s144,s145,s146,s147,s148,s149,s150,s151,s152,
 s153,s154,s155,s156,s157,s158,s159,s160,s161,s162,s163,s164,s165,s166,s167] H114⟩⟩ ⟨@bnd (aBin2 prog H114 .eql 3 (.tmp 128) (.const (.int .i64 6)) s7 (.int .i64 6)) ⟨fun v129x118 => @bnd (gif v129x118 false
 (aFieldAddr prog H114 50 s6 3) undef) ⟨fun v131x119 => @bnd (gif v129x118 false (aLoad prog H114 3 v131x119) undef) ⟨fun v132x120 => @bnd (gif v129x118 false (aBin2 prog H114 .eql 3 (.tmp 132) (.const (.int .i64 0))
 v132x120 (.int .i64 0)) undef) ⟨fun v133x121 => @bnd (pickV v129x118 (.bool true) v133x121) ⟨fun v134x122 => @kifB v134x122 ⟨k (.tuple #[(.slice none 0 0),(.int .i64 (-1))]) H114⟩ ⟨@bnd (convV prog H114 3 5 s7) ⟨fun
 v136x123 => @bnd (aFieldAddr prog H114 50 s6 4) ⟨fun v137x124 => @bndS (aStore prog H114 5 v137x124 v136x123) ⟨fun _ H126 => @bnd (aBin2 prog H126 .add 3 (.tmp 138) (.const (.int .i64 1)) s1 (.int .i64 1)) ⟨fun
 v139x127 => @bndC prog 81 [s0,v139x127,(.int .u8 4),(.string { data := #[45] })] H126 ⟨fun v142x128 H129 => @kifB v142x128 ⟨@bnd (aBin2 prog H129 .add 3 (.tmp 143) (.const (.int .i64 1)) v139x127 (.int .i64 1)) ⟨fun
 v144x130 => S87x1  k [s0,v144x130,s2,s3,s4,s5,s6,s7,s8,s9,(.string { data := #[45] }),s11,s12,s13,s14,s15,s16,s17,s18,s19,s20,s21,s22,s23,s24,s25,s26,s27,s28,s29,s30,s31,s32,s33,s34,s35,s36,
 s37,s38,s39,s40,s41,s42,s43,s44,s45,s46,s47,s48,s49,s50,s51,s52,s53,s54,s55,s56,s57,s58,s59,s60,s61,s62,s63,s64,s65,s66,s67,s68,s69,s70,s71,s72,s73,s74,s75,s76,s77,s78,s79,s80,s81,
 s82,s83,s84,s85,s86,s87,s88,s89,s90,s91,s92,s93,s94,s95,s96,s97,s98,s99,s100,s101,s102,s103,s104,s105,s106,s107,s108,s109,s110,s111,s112,s113,s114,s115,s7,v117x107,v117x107,v119x108,
 v120x109,v121x110,v122x111,v123x113,v124x115,v125x116,s126,s127,s7,v129x118,v129x118,v131x119,v132x120,v133x121,v134x122,s7,v136x123,v137x124,s1,v139x127,s0,v139x127,v142x128,v139x127,v144x130,s145,
 s146,s147,s148,s149,s150,s151,s152,s153,s154,s155,s156,s157,s158,s159,s160,s161,s162,s163,s164,s165,s166,s167] H129⟩⟩ ⟨S87x1  k [s0,v139x127,s2,s3,s4,s5,s6,s7,s8,s9,(.string { data := #[] }),s11,
 s12,s13,s14,s15,s16,s17,s18,s19,s20,s21,s22,s23,s24,s25,s26,s27,s28,s29,s30,s31,s32,s33,s34,s35,s36,s37,s38,s39,s40,s41,s42,s43,s44,s45,s46,s47,s48,s49,s50,s51,s52,s53,s54,s55,s56,
 s57,s58,s59,s60,s61,s62,s63,s64,s65,s66,s67,s68,s69,s70,s71,s72,s73,s74,s75,s76,s77,s78,s79,s80,s81,s82,s83,s84,s85,s86,s87,s88,s89,s90,s91,s92,s93,s94,s95,s96,s97,s98,s99,s100,s101,
 s102,s103,s104,s105,s106,s107,s108,s109,s110,s111,s112,s113,s114,s115,s7,v117x107,v117x107,v119x108,v120x109,v121x110,v122x111,v123x113,v124x115,v125x116,s126,s127,s7,v129x118,v129x118,v131x119,
 v132x120,v133x121,v134x122,s7,v136x123,v137x124,s1,v139x127,s0,v139x127,v142x128,s143,s144,s145,s146,s147,s148,s149,s150,s151,s152,s153,s154,s155,s156,s157,s158,s159,s160,s161,s162,s163,s164,
 s165,s166,s167] H129⟩⟩⟩⟩⟩⟩⟩⟩⟩⟩⟩⟩⟩⟩⟩⟩⟩⟩⟩⟩⟩) := by kernel_rfl
theorem S87x1q (s0 s1 s2 s3 s4 s5 s6 s7 s8 s9 s10 s11 s12 s13 s14 s15 s16 s17 s18 s19 s20 s21 s22 s23 s24 s25 s26 s27 s28 s29 s30 s31 s32 s33 s34 s35 s36 s37 s38 s39 s40 s41 s42 s43 s44 s45 s46 s47 s48 s49 s50 s51 s52 s53 s54 s55
 s56 s57 s58 s59 s60 s61 s62 s63 s64 s65 s66 s67 s68 s69 s70 s71 s72 s73 s74 s75 s76 s77 s78 s79 s80 s81 s82 s83 s84 s85 s86 s87 s88 s89 s90 s91 s92 s93 s94 s95 s96 s97 s98 s99 s100 s101 s102 s103 s104 s105 s106 s107 s108 s109
 s110 s111 s112 s113 s114 s115 s116 s117 s118 s119 s120 s121 s122 s123 s124 s125 s126 s127 s128 s129 s130 s131 s132 s133 s134 s135 s136 s137 s138 s139 s140 s141 s142 s143 s144 s145 s146 s147 s148 s149 s150 s151 s152 s153 s154
 s155 s156 s157 s158 s159 s160 s161 s162 s163 s164 s165 s166 s167 : Value) (H : AHeap) (k : Value → AHeap → Prop) : S87x1 k [s0,s1,s2,s3,s4,s5,s6,s7,s8,s9,s10,s11,s12,s13,s14,s15,s16,s17,s18,s19,s20,s21,
 s22,s23,s24,s25,s26,s27,s28,s29,s30,s31,s32,s33,s34,s35,s36,s37,s38,s39,s40,s41,s42,s43,s44,s45,s46,s47,s48,s49,s50,s51,s52,s53,s54,s55,s56,s57,s58,s59,s60,s61,s62,s63,s64,s65,s66,
 s67,s68,s69,s70,s71,s72,s73,s74,s75,s76,s77,s78,s79,s80,s81,s82,s83,s84,s85,s86,s87,s88,s89,s90,s91,s92,s93,s94,s95,s96,s97,s98,s99,s100,s101,s102,s103,s104,s105,s106,s107,s108,s109,
 s110,s111,s112,s113,s114,s115,s116,s117,s118,s119,s120,s121,s122,s123,s124,s125,s126,s127,s128,s129,s130,s131,s132,s133,s134,s135,s136,s137,s138,s139,s140,s141,s142,s143,s144,s145,s146,s147,
 s148,s149,s150,s151,s152,s153,s154,s155,s156,s157,s158,s159,s160,s161,s162,s163,s164,s165,s166,s167] H = (@bndC prog 81 [s0,s1,(.int .u8 2),(.string { data := #[42] })] H ⟨fun v147x131 H132 => @bnd
 (unV prog .not v147x131) ⟨fun v148x133 => @kifB v148x133 ⟨k (.tuple #[(.slice none 0 0),(.int .i64 (-1))]) H132⟩ ⟨@bnd (aIndexAddr prog H132 90 s0 s1) ⟨fun v153x134 => @bnd (aFieldAddr prog H132 105 v153x134 1)
 ⟨fun v154x135 => @bnd (aLoad prog H132 9 v154x135) ⟨fun v155x136 => @bnd (aBin2 prog H132 .add 9 (.tmp 150) (.tmp 155) s10 v155x136) ⟨fun v156x137 => @bndC prog 94 [v156x137] H132 ⟨fun v157x138 H139 => @bnd (tupV
 v157x138 0) ⟨fun v158x140 => @bnd (tupV v157x138 1) ⟨fun v159x141 => @bnd (aBin2 prog H139 .neq 3 (.tmp 160) (.const (.int .i64 0)) v159x141 (.int .i64 0)) ⟨fun v161x142 => @kifB v161x142 ⟨k (.tuple #[(.slice none 0 0),
 (.int .i64 (-1))]) H139⟩ ⟨@bnd (aFieldAddr prog H139 50 s6 5) ⟨fun v163x143 => @bndS (aStore prog H139 2 v163x143 v158x140) ⟨fun _ H145 => @bnd (aLoad prog H145 50 s6) ⟨fun v164x146 => @bndL prog H145 22 1 [(0,
 v164x146)] ⟨fun v165x147 H148 => @bnd (aBin2 prog H148 .add 3 (.tmp 166) (.const (.int .i64 1)) s1 (.int .i64 1)) ⟨fun v167x149 => k (.tuple #[v165x147,v167x149]) H148⟩⟩⟩⟩⟩⟩⟩⟩⟩⟩⟩⟩⟩⟩⟩⟩⟩) := by kernel_rfl
end Go.Vi
namespace Go.Vi
open Go Go.Proofs Go.Proofs.Try
-- tocsin/tocsinref09.word
def L88x0 (n : Nat) (k : Value → AHeap → Prop) (sl : List Value) (H : AHeap) : Prop := kit prog (cl (cl (cr (cl (cr (cb Try.f88)))))) n (kblk 0 (kseq prog (cr (cr (cb Try.f88))) (kfin prog Try.f88 k))) .normal sl H
theorem d88 (a0 : Value) (H : AHeap) (k : Value → AHeap → Prop) : kbody prog Try.f88 [a0] H k = (∃ n,L88x0 n  k [a0,undef,(.bool false),(.int .i64 0),undef,undef,undef,undef,undef,undef,undef,undef,undef,undef,
 undef,undef,undef,undef,undef,undef,undef,undef,undef,undef,undef,undef,undef,undef,undef,undef] H) := by kernel_rfl
theorem L88x0q (n0 : Nat) (s0 s1 s2 s3 s4 s5 s6 s7 s8 s9 s10 s11 s12 s13 s14 s15 s16 s17 s18 s19 s20 s21 s22 s23 s24 s25 s26 s27 s28 s29 : Value) (H : AHeap) (k : Value → AHeap → Prop) : L88x0 (n0 + 1) k [s0,s1,s2,s3,s4,s5,
 s6,s7,s8,s9,s10,s11,s12,s13,s14,s15,s16,s17,s18,s19,s20,s21,s22,s23,s24,s25,s26,s27,s28,s29] H = (@bnd (aLen prog H 9 s0) ⟨fun v6x1 => @bnd (aBin2 prog H .lss 3 (.tmp 4) (.tmp 6) s3 v6x1) ⟨fun
 v7x2 => @kifB v7x2 ⟨@bnd (aBin2 prog H .add 3 (.tmp 12) (.const (.int .i64 1)) s3 (.int .i64 1)) ⟨fun v13x3 => @bnd (aSliceOp prog H 9 s0 (some s3) (some v13x3)) ⟨fun v14x4 => @bnd (aBin2 prog H .add 9 (.const
 (.string { data := #[97] })) (.tmp 14) (.string { data := #[97] }) v14x4) ⟨fun v15x5 => @bndC prog 46 [v15x5] H ⟨fun v16x6 H7 => @bnd (unV prog .not v16x6) ⟨fun v17x8 => @kifB v17x8 ⟨k (.bool false) H7⟩ ⟨@bnd (aBin2
 prog H7 .add 3 (.tmp 8) (.const (.int .i64 1)) s3 (.int .i64 1)) ⟨fun v9x9 => L88x0 n0  k [s0,s1,s2,v9x9,s3,s0,v6x1,v7x2,s3,v9x9,s0,s3,s3,v13x3,v14x4,v15x5,v16x6,v17x8,s18,s19,s20,s21,s22,s23,s24,
 s25,s26,s27,s28,s29] H7⟩⟩⟩⟩⟩⟩⟩⟩ ⟨@bnd (aBin2 prog H .neq 9 (.tmp 18) (.const (.string { data := #[] })) s0 (.string { data := #[] })) ⟨fun v19x10 => @bnd (gif v19x10 true ((some s0)) undef) ⟨fun v21x11 => @bnd (gif
 v19x10 true (aIndex prog 9 v21x11 (.int .i64 0)) undef) ⟨fun v22x12 => @bnd (gif v19x10 true (aBin2 prog H .geq 5 (.tmp 22) (.const (.int .u8 97)) v22x12 (.int .u8 97)) undef) ⟨fun v23x13 => @bnd (pickV v19x10 v23x13
 (.bool false)) ⟨fun v24x14 => @bnd (gif v24x14 true ((some s0)) undef) ⟨fun v26x15 => @bnd (gif v24x14 true (aIndex prog 9 v26x15 (.int .i64 0)) undef) ⟨fun v27x16 => @bnd (gif v24x14 true (aBin2 prog H .leq 5 (.tmp 27)
 (.const (.int .u8 122)) v27x16 (.int .u8 122)) undef) ⟨fun v28x17 => @bnd (pickV v24x14 v28x17 (.bool false)) ⟨fun v29x18 => k v29x18 H⟩⟩⟩⟩⟩⟩⟩⟩⟩⟩⟩⟩) := by kernel_rfl
-- tocsin/tocsinref09.number
def L89x0 (n : Nat) (k : Value → AHeap → Prop) (sl : List Value) (H : AHeap) : Prop := kit prog (cl (cl (cr (cl (cr (cb Try.f89)))))) n (kblk 0 (kseq prog (cr (cr (cb Try.f89))) (kfin prog Try.f89 k))) .normal sl H
theorem d89 (a0 : Value) (H : AHeap) (k : Value → AHeap → Prop) : kbody prog Try.f89 [a0] H k = (∃ n,L89x0 n  k [a0,undef,(.bool false),(.int .i64 0),undef,undef,undef,undef,undef,undef,undef,undef,undef,undef,
 undef,undef,undef,undef,undef,undef,undef,undef,undef,undef,undef,undef,undef] H) := by kernel_rfl
theorem L89x0q (n0 : Nat) (s0 s1 s2 s3 s4 s5 s6 s7 s8 s9 s10 s11 s12 s13 s14 s15 s16 s17 s18 s19 s20 s21 s22 s23 s24 s25 s26 : Value) (H : AHeap) (k : Value → AHeap → Prop) : L89x0 (n0 + 1) k [s0,s1,s2,s3,s4,s5,s6,s7,s8,
 s9,s10,s11,s12,s13,s14,s15,s16,s17,s18,s19,s20,s21,s22,s23,s24,s25,s26] H = (@bnd (aLen prog H 9 s0) ⟨fun v6x1 => @bnd (aBin2 prog H .lss 3 (.tmp 4) (.tmp 6) s3 v6x1) ⟨fun v7x2 => @kifB v7x2 ⟨@bnd
 (aIndex prog 9 s0 s3) ⟨fun v12x3 => @bnd (aBin2 prog H .eql 5 (.tmp 12) (.const (.int .u8 46)) v12x3 (.int .u8 46)) ⟨fun v13x4 => @kifB v13x4 ⟨@bnd (aSliceOp prog H 9 s0 none (some s3)) ⟨fun v16x5 => @bndC prog
 95 [v16x5] H ⟨fun v17x6 H7 => @bnd (gif v17x6 true ((some s0)) undef) ⟨fun v19x8 => @bnd (gif v17x6 true ((some s3)) undef) ⟨fun v20x9 => @bnd (gif v17x6 true (aBin2 prog H7 .add 3 (.tmp 20) (.const (.int .i64 1)) v20x9
 (.int .i64 1)) undef) ⟨fun v21x10 => @bnd (gif v17x6 true (aSliceOp prog H7 9 v19x8 (some v21x10) none) undef) ⟨fun v22x11 => @bndG v17x6 true H7 ⟨fun v23x12 H13 => ACalls prog 95 [v22x11] H7 v23x12 H13⟩ ⟨fun v23x12 H13
 => @bnd (pickV v17x6 v23x12 (.bool false)) ⟨fun v24x14 => k v24x14 H13⟩⟩⟩⟩⟩⟩⟩⟩⟩ ⟨@bnd (aBin2 prog H .add 3 (.tmp 8) (.const (.int .i64 1)) s3 (.int .i64 1)) ⟨fun v9x15 => L89x0 n0  k [s0,s1,s2,v9x15,s3,s0,v6x1,v7x2,
 s3,v9x15,s0,s3,v12x3,v13x4,s14,s15,s16,s17,s18,s19,s20,s21,s22,s23,s24,s25,s26] H⟩⟩⟩⟩⟩ ⟨@bndC prog 95 [s0] H ⟨fun v26x16 H17 => k v26x16 H17⟩⟩⟩⟩) := by kernel_rfl
-- tocsin/tocsinref09.sign
def L90x0 (n : Nat) (k : Value → AHeap → Prop) (sl : List Value) (H : AHeap) : Prop := kit prog (cl (cl (cr (cl (cr (cr (cb Try.f90))))))) n (kblk 0 (kseq prog (cr (cr (cr (cb Try.f90)))) (kfin prog Try.f90 k)))
 .normal sl H
theorem d90 (a0 : Value) (H : AHeap) (k : Value → AHeap → Prop) : kbody prog Try.f90 [a0] H k = (@bndL prog H 23 18 [(0,(.string { data := #[60,61] })),(1,(.string { data := #[62,61] })),(2,(.string { data := #[61,
 61] })),(3,(.string { data := #[33,61] })),(4,(.string { data := #[94,61] })),(5,(.string { data := #[123] })),(6,(.string { data := #[125] })),(7,(.string { data := #[40] })),(8,(.string { data := #[41] })),(9,
 (.string { data := #[91] })),(10,(.string { data := #[93] })),(11,(.string { data := #[44] })),(12,(.string { data := #[58] })),(13,(.string { data := #[59] })),(14,(.string { data := #[61] })),(15,(.string { data
 := #[60] })),(16,(.string { data := #[62] })),(17,(.string { data := #[45] }))] ⟨fun v5x1 H2 => ∃ n,L90x0 n  k [a0,undef,(.bool false),v5x1,(.int .i64 0),v5x1,undef,undef,undef,undef,undef,undef,undef,undef,
 undef,undef,undef,undef] H2⟩) := by kernel_rfl
theorem L90x0q (n0 : Nat) (s0 s1 s2 s3 s4 s5 s6 s7 s8 s9 s10 s11 s12 s13 s14 s15 s16 s17 : Value) (H : AHeap) (k : Value → AHeap → Prop) : L90x0 (n0 + 1) k [s0,s1,s2,s3,s4,s5,s6,s7,s8,s9,s10,s11,s12,s13,s14,s15,
 s16,s17] H = (@bnd (aLen prog H 23 s3) ⟨fun v8x3 => @bnd (aBin2 prog H .lss 3 (.tmp 6) (.tmp 8) s4 v8x3) ⟨fun v9x4 => @kifB v9x4 ⟨@bnd (aIndexAddr prog H 23 s3 s4) ⟨fun v14x5 => @bnd (aLoad prog H 9 v14x5) ⟨fun
 v15x6 => @bnd (aBin2 prog H .eql 9 (.tmp 15) (.tmp 16) v15x6 s0) ⟨fun v17x7 => @kifB v17x7 ⟨k (.bool true) H⟩ ⟨@bnd (aBin2 prog H .add 3 (.tmp 10) (.const (.int .i64 1)) s4 (.int .i64 1)) ⟨fun v11x8 => L90x0 n0  k [s0,
 s1,s2,s3,v11x8,s5,s4,s3,v8x3,v9x4,s4,v11x8,s3,s4,v14x5,v15x6,s0,v17x7] H⟩⟩⟩⟩⟩⟩ ⟨k (.bool false) H⟩⟩⟩) := by kernel_rfl
-- tocsin/tocsinref08.May
def L92x0 (n : Nat) (k : Value → AHeap → Prop) (sl : List Value) (H : AHeap) : Prop := kit prog (cl (cl (cr (cl (cr (cb Try.f92)))))) n (kblk 0 (kseq prog (cr (cr (cb Try.f92))) (kfin prog Try.f92 k))) .normal sl H
theorem d92 (a0 : Value) (H : AHeap) (k : Value → AHeap → Prop) : kbody prog Try.f92 [a0] H k = (∃ n,L92x0 n  k [a0,undef,(.bool false),(.int .i64 0),undef,undef,undef,undef,undef,undef,undef,undef,undef,undef,
 undef,undef,undef,undef,undef,undef,undef,undef,undef,undef,undef,undef,undef,undef,undef,undef,undef,undef,undef,undef,undef,undef,undef,undef,undef,undef,undef,undef,undef,undef,undef,undef] H)
 := by kernel_rfl
theorem L92x0q (n0 : Nat) (s0 s1 s2 s3 s4 s5 s6 s7 s8 s9 s10 s11 s12 s13 s14 s15 s16 s17 s18 s19 s20 s21 s22 s23 s24 s25 s26 s27 s28 s29 s30 s31 s32 s33 s34 s35 s36 s37 s38 s39 s40 s41 s42 s43 s44 s45 : Value) (H : AHeap) (k :
 Value → AHeap → Prop) : L92x0 (n0 + 1) k [s0,s1,s2,s3,s4,s5,s6,s7,s8,s9,s10,s11,s12,s13,s14,s15,s16,s17,s18,s19,s20,s21,s22,s23,s24,s25,s26,s27,s28,s29,s30,s31,s32,s33,s34,s35,s36,s37,s38,
 s39,s40,s41,s42,s43,s44,s45] H = (@bnd (aLen prog H 48 s0) ⟨fun v6x1 => @bnd (aBin2 prog H .lss 3 (.tmp 4) (.tmp 6) s3 v6x1) ⟨fun v7x2 => @kifB v7x2 ⟨@bnd (aIndexAddr prog H 48 s0 s3) ⟨fun v12x3 => @bnd
 (aFieldAddr prog H 52 v12x3 1) ⟨fun v13x4 => @bnd (aLoad prog H 5 v13x4) ⟨fun v14x5 => @bnd (aBin2 prog H .gtr 5 (.tmp 14) (.const (.int .u8 2)) v14x5 (.int .u8 2)) ⟨fun v15x6 => @bnd (gif v15x6 false ((some s0))
 undef) ⟨fun v17x7 => @bnd (gif v15x6 false ((some s3)) undef) ⟨fun v18x8 => @bnd (gif v15x6 false (aIndexAddr prog H 48 v17x7 v18x8) undef) ⟨fun v19x9 => @bnd (gif v15x6 false (aFieldAddr prog H 52 v19x9 0) undef) ⟨fun
 v20x10 => @bnd (gif v15x6 false (aLoad prog H 9 v20x10) undef) ⟨fun v21x11 => @bndG v15x6 false H ⟨fun v22x12 H13 => ACalls prog 46 [v21x11] H v22x12 H13⟩ ⟨fun v22x12 H13 => @bnd (gif v15x6 false (unV prog .not
 v22x12) undef) ⟨fun v23x14 => @bnd (pickV v15x6 (.bool true) v23x14) ⟨fun v24x15 => @bnd (gif v24x15 false ((some s0)) undef) ⟨fun v26x16 => @bnd (gif v24x15 false ((some s3)) undef) ⟨fun v27x17 => @bnd (gif v24x15 false
 (aIndexAddr prog H13 48 v26x16 v27x17) undef) ⟨fun v28x18 => @bnd (gif v24x15 false (aFieldAddr prog H13 52 v28x18 2) undef) ⟨fun v29x19 => @bnd (gif v24x15 false (aLoad prog H13 9 v29x19) undef) ⟨fun v30x20 => @bnd
 (gif v24x15 false (aLen prog H13 9 v30x20) undef) ⟨fun v31x21 => @bnd (gif v24x15 false (aBin2 prog H13 .gtr 3 (.tmp 31) (.const (.int .i64 32)) v31x21 (.int .i64 32)) undef) ⟨fun v32x22 => @bnd (pickV v24x15 (.bool
 true) v32x22) ⟨fun v33x23 => @bnd (gif v33x23 false ((some s0)) undef) ⟨fun v35x24 => @bnd (gif v33x23 false ((some s3)) undef) ⟨fun v36x25 => @bnd (gif v33x23 false (aIndexAddr prog H13 48 v35x24 v36x25) undef) ⟨fun v37x26
 => @bnd (gif v33x23 false (aFieldAddr prog H13 52 v37x26 2) undef) ⟨fun v38x27 => @bnd (gif v33x23 false (aLoad prog H13 9 v38x27) undef) ⟨fun v39x28 => @bndG v33x23 false H13 ⟨fun v40x29 H30 => ACalls prog 85
 [v39x28] H13 v40x29 H30⟩ ⟨fun v40x29 H30 => @bnd (gif v33x23 false (unV prog .not v40x29) undef) ⟨fun v41x31 => @bnd (pickV v33x23 (.bool true) v41x31) ⟨fun v42x32 => @kifB v42x32 ⟨k (.bool false) H30⟩ ⟨@bnd (aBin2 prog
 H30 .add 3 (.tmp 8) (.const (.int .i64 1)) s3 (.int .i64 1)) ⟨fun v9x33 => L92x0 n0  k [s0,s1,s2,v9x33,s3,s0,v6x1,v7x2,s3,v9x33,s0,s3,v12x3,v13x4,v14x5,v15x6,v15x6,v17x7,v18x8,v19x9,v20x10,v21x11,v22x12,
 v23x14,v24x15,v24x15,v26x16,v27x17,v28x18,v29x19,v30x20,v31x21,v32x22,v33x23,v33x23,v35x24,v36x25,v37x26,v38x27,v39x28,v40x29,v41x31,v42x32,s43,s44,s45] H30⟩⟩⟩⟩⟩⟩⟩⟩⟩⟩⟩⟩⟩⟩⟩⟩⟩⟩⟩⟩⟩⟩⟩⟩⟩⟩⟩⟩⟩⟩⟩ ⟨@bnd (aLen
 prog H 48 s0) ⟨fun v44x34 => @bnd (aBin2 prog H .leq 3 (.tmp 44) (.const (.int .i64 6)) v44x34 (.int .i64 6)) ⟨fun v45x35 => k v45x35 H⟩⟩⟩⟩⟩) := by kernel_rfl
-- tocsin/tocsinref10.window
def L93x0 (n : Nat) (k : Value → AHeap → Prop) (sl : List Value) (H : AHeap) : Prop := kit prog (cl (cl (cr (cl (cr (cr (cb Try.f93))))))) n (kblk 0 (kseq prog (cr (cr (cr (cb Try.f93)))) (kfin prog Try.f93 k)))
 .normal sl H
theorem d93 (a0 : Value) (H : AHeap) (k : Value → AHeap → Prop) : kbody prog Try.f93 [a0] H k = (∃ n,L93x0 n  k [a0,undef,(.int .i64 0),(.int .i64 0),(.int .i64 0),undef,undef,undef,undef,undef,undef,undef,undef,
 undef,undef,undef,undef,undef,undef,undef,undef,undef,undef,undef,undef,undef,undef,undef,undef,undef,undef,undef,undef,undef,undef,undef] H) := by kernel_rfl
theorem L93x0q (n0 : Nat) (s0 s1 s2 s3 s4 s5 s6 s7 s8 s9 s10 s11 s12 s13 s14 s15 s16 s17 s18 s19 s20 s21 s22 s23 s24 s25 s26 s27 s28 s29 s30 s31 s32 s33 s34 s35 : Value) (H : AHeap) (k : Value → AHeap → Prop) : L93x0 (n0 + 1) k
 [s0,s1,s2,s3,s4,s5,s6,s7,s8,s9,s10,s11,s12,s13,s14,s15,s16,s17,s18,s19,s20,s21,s22,s23,s24,s25,s26,s27,s28,s29,s30,s31,s32,s33,s34,s35] H = (@bnd (aLen prog H 9 s0) ⟨fun v7x1 => @bnd
 (aBin2 prog H .lss 3 (.tmp 5) (.tmp 7) s4 v7x1) ⟨fun v8x2 => @kifB v8x2 ⟨@bnd (aIndex prog 9 s0 s4) ⟨fun v13x3 => @bnd (aBin2 prog H .lss 5 (.tmp 13) (.const (.int .u8 48)) v13x3 (.int .u8 48)) ⟨fun v14x4 => @bnd
 (gif v14x4 false ((some s0)) undef) ⟨fun v16x5 => @bnd (gif v14x4 false ((some s4)) undef) ⟨fun v17x6 => @bnd (gif v14x4 false (aIndex prog 9 v16x5 v17x6) undef) ⟨fun v18x7 => @bnd (gif v14x4 false (aBin2 prog H .gtr 5
 (.tmp 18) (.const (.int .u8 57)) v18x7 (.int .u8 57)) undef) ⟨fun v19x8 => @bnd (pickV v14x4 (.bool true) v19x8) ⟨fun v20x9 => @bnd (gif v20x9 false ((some s3)) undef) ⟨fun v22x10 => @bnd (gif v20x9 false (aBin2 prog H .gtr
 3 (.tmp 22) (.const (.int .i64 1000)) v22x10 (.int .i64 1000)) undef) ⟨fun v23x11 => @bnd (pickV v20x9 (.bool true) v23x11) ⟨fun v24x12 => @kifB v24x12 ⟨k (.int .i64 0) H⟩ ⟨@bnd (aBin2 prog H .mul 3 (.const (.int .i64 10))
 (.tmp 25) (.int .i64 10) s3) ⟨fun v26x13 => @bnd (aIndex prog 9 s0 s4) ⟨fun v29x14 => @bnd (aBin2 prog H .sub 5 (.tmp 29) (.const (.int .u8 48)) v29x14 (.int .u8 48)) ⟨fun v30x15 => @bnd (convV prog H 5 3 v30x15)
 ⟨fun v31x16 => @bnd (aBin2 prog H .add 3 (.tmp 26) (.tmp 31) v26x13 v31x16) ⟨fun v32x17 => @bnd (aBin2 prog H .add 3 (.tmp 9) (.const (.int .i64 1)) s4 (.int .i64 1)) ⟨fun v10x18 => L93x0 n0  k [s0,s1,s2,v32x17,
 v10x18,s4,s0,v7x1,v8x2,s4,v10x18,s0,s4,v13x3,v14x4,v14x4,v16x5,v17x6,v18x7,v19x8,v20x9,v20x9,v22x10,v23x11,v24x12,s3,v26x13,s0,s4,v29x14,v30x15,v31x16,v32x17,s33,s34,s35] H⟩⟩⟩⟩⟩⟩⟩⟩⟩⟩⟩⟩⟩⟩⟩⟩⟩⟩ ⟨@bnd
 (aBin2 prog H .gtr 3 (.tmp 33) (.const (.int .i64 1000)) s3 (.int .i64 1000)) ⟨fun v34x19 => @kifB v34x19 ⟨k (.int .i64 0) H⟩ ⟨k s3 H⟩⟩⟩⟩⟩) := by kernel_rfl
-- tocsin/tocsinref01.Parse
def S94x0 (k : Value → AHeap → Prop) (sl : List Value) (H : AHeap) : Prop := kseq prog (cr (cr (cr (cr (cb Try.f94))))) (kfin prog Try.f94 k) .normal sl H
def L94x0 (n : Nat) (k : Value → AHeap → Prop) (sl : List Value) (H : AHeap) : Prop := kit prog (cl (cl (cl (cr (cr (cr (cr (cr (cr (cb Try.f94)))))))))) n (kblk 0 (kseq prog (cr (cr (cr (cr (cr (cr (cr (cb
 Try.f94)))))))) (kfin prog Try.f94 k))) .normal sl H
def L94x1 (n : Nat) (k : Value → AHeap → Prop) (sl : List Value) (H : AHeap) : Prop := kit prog (cl (cl (cl (cr (cl (cr (cl (cr (cr (cr (cr (cr (cr (cr (cr (cb Try.f94)))))))))))))))) n (kblk 2 (kseq prog (cr (cr (cl (cr
 (cl (cr (cr (cr (cr (cr (cr (cr (cr (cb Try.f94)))))))))))))) (kseq prog (cr (cr (cr (cr (cr (cr (cr (cr (cr (cb Try.f94)))))))))) (kfin prog Try.f94 k)))) .normal sl H
def S94x1 (k : Value → AHeap → Prop) (sl : List Value) (H : AHeap) : Prop := kseq prog (cr (cr (cr (cr (cr (cr (cr (cr (cr (cb Try.f94)))))))))) (kfin prog Try.f94 k) .normal sl H
def L94x2 (n : Nat) (k : Value → AHeap → Prop) (sl : List Value) (H : AHeap) : Prop := kit prog (cl (cl (cl (cr (cr (cr (cr (cr (cr (cr (cr (cr (cr (cb Try.f94)))))))))))))) n (kblk 4 (kseq prog (cr (cr (cr (cr (cr (cr
 (cr (cr (cr (cr (cr (cb Try.f94)))))))))))) (kfin prog Try.f94 k))) .normal sl H
theorem d94 (a0 : Value) (H : AHeap) (k : Value → AHeap → Prop) : kbody prog Try.f94 [a0] H k = (@bnd (aLen prog H 9 a0) ⟨fun v10x1 => @bnd (aBin2 prog H .gtr 3 (.tmp 10) (.const (.int .i64 0)) v10x1 (.int .i64 0))
 ⟨fun v11x2 => @bnd (gif v11x2 true ((some a0)) undef) ⟨fun v13x3 => @bnd (gif v11x2 true (aIndex prog 9 v13x3 (.int .i64 0)) undef) ⟨fun v14x4 => @bnd (gif v11x2 true (aBin2 prog H .eql 5 (.tmp 14) (.const (.int .u8
 45)) v14x4 (.int .u8 45)) undef) ⟨fun v15x5 => @bnd (pickV v11x2 v15x5 (.bool false)) ⟨fun v16x6 => @kifB v16x6 ⟨S94x0  k [a0,undef,(.int .i64 0),(.int .i64 0),(.int .i64 1),v16x6,undef,undef,undef,a0,v10x1,v11x2,
 v11x2,v13x3,v14x4,v15x5,v16x6,v16x6,undef,undef,undef,undef,undef,undef,undef,undef,undef,undef,undef,undef,undef,undef,undef,undef,undef,undef,undef,undef,undef,undef,undef,undef,undef,undef,
 undef,undef,undef,undef,undef,undef,undef,undef,undef,undef,undef,undef,undef,undef,undef,undef,undef,undef,undef,undef,undef,undef,undef,undef,undef,undef,undef,undef,undef,undef,undef,undef,
 undef,undef,undef,undef,undef,undef,undef,undef,undef,undef,undef,undef,undef,undef,undef,undef] H⟩ ⟨S94x0  k [a0,undef,(.int .i64 0),(.int .i64 0),(.int .i64 0),v16x6,undef,undef,undef,a0,v10x1,v11x2,
 v11x2,v13x3,v14x4,v15x5,v16x6,v16x6,undef,undef,undef,undef,undef,undef,undef,undef,undef,undef,undef,undef,undef,undef,undef,undef,undef,undef,undef,undef,undef,undef,undef,undef,undef,undef,
 undef,undef,undef,undef,undef,undef,undef,undef,undef,undef,undef,undef,undef,undef,undef,undef,undef,undef,undef,undef,undef,undef,undef,undef,undef,undef,undef,undef,undef,undef,undef,undef,
 undef,undef,undef,undef,undef,undef,undef,undef,undef,undef,undef,undef,undef,undef,undef,undef] H⟩⟩⟩⟩⟩⟩⟩) := by kernel_rfl
theorem S94x0q (s0 s1 s2 s3 s4 s5 s6 s7 s8 s9 s10 s11 s12 s13 s14 s15 s16 s17 s18 s19 s20 s21 s22 s23 s24 s25 s26 s27 s28 s29 s30 s31 s32 s33 s34 s35 s36 s37 s38 s39 s40 s41 s42 s43 s44 s45 s46 s47 s48 s49 s50 s51 s52 s53 s54 s55
 s56 s57 s58 s59 s60 s61 s62 s63 s64 s65 s66 s67 s68 s69 s70 s71 s72 s73 s74 s75 s76 s77 s78 s79 s80 s81 s82 s83 s84 s85 s86 s87 s88 s89 s90 s91 : Value) (H : AHeap) (k : Value → AHeap → Prop) : S94x0 k [s0,s1,s2,s3,s4,s5,
 s6,s7,s8,s9,s10,s11,s12,s13,s14,s15,s16,s17,s18,s19,s20,s21,s22,s23,s24,s25,s26,s27,s28,s29,s30,s31,s32,s33,s34,s35,s36,s37,s38,s39,s40,s41,s42,s43,s44,s45,s46,s47,s48,s49,s50,s51,
 s52,s53,s54,s55,s56,s57,s58,s59,s60,s61,s62,s63,s64,s65,s66,s67,s68,s69,s70,s71,s72,s73,s74,s75,s76,s77,s78,s79,s80,s81,s82,s83,s84,s85,s86,s87,s88,s89,s90,s91] H = (∃ n,L94x0 n  k [s0,
 s1,s2,s3,s4,s5,(.int .i64 0),(.int .i64 0),s8,s9,s10,s11,s12,s13,s14,s15,s16,s17,s18,s19,s20,s21,s22,s23,s24,s25,s26,s27,s28,s29,s30,s31,s32,s33,s34,s35,s36,s37,s38,s39,s40,s41,s42,s43,
 s44,s45,s46,s47,s48,s49,s50,s51,s52,s53,s54,s55,s56,s57,s58,s59,s60,s61,s62,s63,s64,s65,s66,s67,s68,s69,s70,s71,s72,s73,s74,s75,s76,s77,s78,s79,s80,s81,s82,s83,s84,s85,s86,s87,s88,
 s89,s90,s91] H) := by kernel_rfl
theorem L94x0q (n0 : Nat) (s0 s1 s2 s3 s4 s5 s6 s7 s8 s9 s10 s11 s12 s13 s14 s15 s16 s17 s18 s19 s20 s21 s22 s23 s24 s25 s26 s27 s28 s29 s30 s31 s32 s33 s34 s35 s36 s37 s38 s39 s40 s41 s42 s43 s44 s45 s46 s47 s48 s49 s50 s51 s52
 s53 s54 s55 s56 s57 s58 s59 s60 s61 s62 s63 s64 s65 s66 s67 s68 s69 s70 s71 s72 s73 s74 s75 s76 s77 s78 s79 s80 s81 s82 s83 s84 s85 s86 s87 s88 s89 s90 s91 : Value) (H : AHeap) (k : Value → AHeap → Prop) : L94x0 (n0 + 1) k [s0,
 s1,s2,s3,s4,s5,s6,s7,s8,s9,s10,s11,s12,s13,s14,s15,s16,s17,s18,s19,s20,s21,s22,s23,s24,s25,s26,s27,s28,s29,s30,s31,s32,s33,s34,s35,s36,s37,s38,s39,s40,s41,s42,s43,s44,s45,s46,s47,
 s48,s49,s50,s51,s52,s53,s54,s55,s56,s57,s58,s59,s60,s61,s62,s63,s64,s65,s66,s67,s68,s69,s70,s71,s72,s73,s74,s75,s76,s77,s78,s79,s80,s81,s82,s83,s84,s85,s86,s87,s88,s89,s90,s91] H =
 (@bnd (aLen prog H 9 s0) ⟨fun v20x7 => @bnd (aBin2 prog H .lss 3 (.tmp 18) (.tmp 20) s4 v20x7) ⟨fun v21x8 => @bnd (gif v21x8 true ((some s0)) undef) ⟨fun v23x9 => @bnd (gif v21x8 true ((some s4)) undef) ⟨fun v24x10 =>
 @bnd (gif v21x8 true (aIndex prog 9 v23x9 v24x10) undef) ⟨fun v25x11 => @bndG v21x8 true H ⟨fun v26x12 H13 => ACalls prog 97 [v25x11] H v26x12 H13⟩ ⟨fun v26x12 H13 => @bnd (pickV v21x8 v26x12 (.bool false)) ⟨fun v27x14
 => @kifB v27x14 ⟨@bnd (aIndex prog 9 s0 s4) ⟨fun v31x15 => @bndC prog 98 [s6,v31x15] H13 ⟨fun v32x16 H17 => @bnd (aBin2 prog H17 .add 3 (.tmp 33) (.const (.int .i64 1)) s7 (.int .i64 1)) ⟨fun v34x18 => @bnd (aBin2
 prog H17 .add 3 (.tmp 35) (.const (.int .i64 1)) s4 (.int .i64 1)) ⟨fun v36x19 => L94x0 n0  k [s0,s1,s2,s3,v36x19,s5,v32x16,v34x18,s8,s9,s10,s11,s12,s13,s14,s15,s16,s17,s4,s0,v20x7,v21x8,v21x8,v23x9,
 v24x10,v25x11,v26x12,v27x14,s6,s0,s4,v31x15,v32x16,s7,v34x18,s4,v36x19,s37,s38,s39,s40,s41,s42,s43,s44,s45,s46,s47,s48,s49,s50,s51,s52,s53,s54,s55,s56,s57,s58,s59,s60,s61,s62,s63,s64,
 s65,s66,s67,s68,s69,s70,s71,s72,s73,s74,s75,s76,s77,s78,s79,s80,s81,s82,s83,s84,s85,s86,s87,s88,s89,s90,s91] H17⟩⟩⟩⟩⟩ ⟨@bnd (aLen prog H13 9 s0) ⟨fun v39x20 => @bnd (aBin2 prog H13 .lss 3 (.tmp
 37) (.tmp 39) s4 v39x20) ⟨fun v40x21 => @bnd (gif v40x21 true ((some s0)) undef) ⟨fun v42x22 => @bnd (gif v40x21 true ((some s4)) undef) ⟨fun v43x23 => @bnd (gif v40x21 true (aIndex prog 9 v42x22 v43x23) undef) ⟨fun v44x24
 => @bnd (gif v40x21 true (aBin2 prog H13 .eql 5 (.tmp 44) (.const (.int .u8 46)) v44x24 (.int .u8 46)) undef) ⟨fun v45x25 => @bnd (pickV v40x21 v45x25 (.bool false)) ⟨fun v46x26 => @kifB v46x26 ⟨@bnd (aBin2 prog H13
 .add 3 (.tmp 47) (.const (.int .i64 1)) s4 (.int .i64 1)) ⟨fun v48x27 => ∃ n,L94x1 n  k [s0,s1,s2,s3,v48x27,s5,s6,s7,(.int .i64 0),s9,s10,s11,s12,s13,s14,s15,s16,s17,s4,s0,v20x7,v21x8,v21x8,v23x9,
 v24x10,v25x11,v26x12,v27x14,s28,s29,s30,s31,s32,s33,s34,s35,s36,s4,s0,v39x20,v40x21,v40x21,v42x22,v43x23,v44x24,v45x25,v46x26,s4,v48x27,s49,s50,s51,s52,s53,s54,s55,s56,s57,s58,s59,s60,s61,
 s62,s63,s64,s65,s66,s67,s68,s69,s70,s71,s72,s73,s74,s75,s76,s77,s78,s79,s80,s81,s82,s83,s84,s85,s86,s87,s88,s89,s90,s91] H13⟩⟩ ⟨S94x1  k [s0,s1,s2,s3,s4,s5,s6,s7,(.int .i64 0),s9,s10,s11,
 s12,s13,s14,s15,s16,s17,s4,s0,v20x7,v21x8,v21x8,v23x9,v24x10,v25x11,v26x12,v27x14,s28,s29,s30,s31,s32,s33,s34,s35,s36,s4,s0,v39x20,v40x21,v40x21,v42x22,v43x23,v44x24,v45x25,v46x26,s47,s48,
 s49,s50,s51,s52,s53,s54,s55,s56,s57,s58,s59,s60,s61,s62,s63,s64,s65,s66,s67,s68,s69,s70,s71,s72,s73,s74,s75,s76,s77,s78,s79,s80,s81,s82,s83,s84,s85,s86,s87,s88,s89,s90,s91]
 H13⟩⟩⟩⟩⟩⟩⟩⟩⟩⟩⟩⟩⟩⟩⟩⟩) := by kernel_rfl
theorem L94x1q (n1 : Nat) (s0 s1 s2 s3 s4 s5 s6 s7 s8 s9 s10 s11 s12 s13 s14 s15 s16 s17 s18 s19 s20 s21 s22 s23 s24 s25 s26 s27 s28 s29 s30 s31 s32 s33 s34 s35 s36 s37 s38 s39 s40 s41 s42 s43 s44 s45 s46 s47 s48 s49 s50 s51 s52
 s53 s54 s55 s56 s57 s58 s59 s60 s61 s62 s63 s64 s65 s66 s67 s68 s69 s70 s71 s72 s73 s74 s75 s76 s77 s78 s79 s80 s81 s82 s83 s84 s85 s86 s87 s88 s89 s90 s91 : Value) (H : AHeap) (k : Value → AHeap → Prop) : L94x1 (n1 + 1) k [s0,
 s1,s2,s3,s4,s5,s6,s7,s8,s9,s10,s11,s12,s13,s14,s15,s16,s17,s18,s19,s20,s21,s22,s23,s24,s25,s26,s27,s28,s29,s30,s31,s32,s33,s34,s35,s36,s37,s38,s39,s40,s41,s42,s43,s44,s45,s46,s47,
 s48,s49,s50,s51,s52,s53,s54,s55,s56,s57,s58,s59,s60,s61,s62,s63,s64,s65,s66,s67,s68,s69,s70,s71,s72,s73,s74,s75,s76,s77,s78,s79,s80,s81,s82,s83,s84,s85,s86,s87,s88,s89,s90,s91] H =
 (@bnd (aLen prog H 9 s0) ⟨fun v51x28 => @bnd (aBin2 prog H .lss 3 (.tmp 49) (.tmp 51) s4 v51x28) ⟨fun v52x29 => @bnd (gif v52x29 true ((some s0)) undef) ⟨fun v54x30 => @bnd (gif v52x29 true ((some s4)) undef) ⟨fun
 v55x31 => @bnd (gif v52x29 true (aIndex prog 9 v54x30 v55x31) undef) ⟨fun v56x32 => @bndG v52x29 true H ⟨fun v57x33 H34 => ACalls prog 97 [v56x32] H v57x33 H34⟩ ⟨fun v57x33 H34 => @bnd (pickV v52x29 v57x33 (.bool
 false)) ⟨fun v58x35 => @kifB v58x35 ⟨@bnd (aIndex prog 9 s0 s4) ⟨fun v62x36 => @bndC prog 98 [s6,v62x36] H34 ⟨fun v63x37 H38 => @bnd (aBin2 prog H38 .add 3 (.tmp 64) (.const (.int .i64 1)) s8 (.int .i64 1)) ⟨fun
 v65x39 => @bnd (aBin2 prog H38 .add 3 (.tmp 66) (.const (.int .i64 1)) s4 (.int .i64 1)) ⟨fun v67x40 => L94x1 n1  k [s0,s1,s2,s3,v67x40,s5,v63x37,s7,v65x39,s9,s10,s11,s12,s13,s14,s15,s16,s17,s18,s19,s20,
 s21,s22,s23,s24,s25,s26,s27,s28,s29,s30,s31,s32,s33,s34,s35,s36,s37,s38,s39,s40,s41,s42,s43,s44,s45,s46,s47,s48,s4,s0,v51x28,v52x29,v52x29,v54x30,v55x31,v56x32,v57x33,v58x35,s6,s0,s4,
 v62x36,v63x37,s8,v65x39,s4,v67x40,s68,s69,s70,s71,s72,s73,s74,s75,s76,s77,s78,s79,s80,s81,s82,s83,s84,s85,s86,s87,s88,s89,s90,s91] H38⟩⟩⟩⟩⟩ ⟨@bnd (aBin2 prog H34 .eql 3 (.tmp 68) (.const (.int
 .i64 0)) s8 (.int .i64 0)) ⟨fun v69x41 => @kifB v69x41 ⟨k (.tuple #[(.int .i64 0),(.int .i64 10)]) H34⟩ ⟨S94x1  k [s0,s1,s2,s3,s4,s5,s6,s7,s8,s9,s10,s11,s12,s13,s14,s15,s16,s17,s18,s19,s20,s21,s22,s23,
 s24,s25,s26,s27,s28,s29,s30,s31,s32,s33,s34,s35,s36,s37,s38,s39,s40,s41,s42,s43,s44,s45,s46,s47,s48,s4,s0,v51x28,v52x29,v52x29,v54x30,v55x31,v56x32,v57x33,v58x35,s59,s60,s61,s62,s63,s64,
 s65,s66,s67,s8,v69x41,s70,s71,s72,s73,s74,s75,s76,s77,s78,s79,s80,s81,s82,s83,s84,s85,s86,s87,s88,s89,s90,s91] H34⟩⟩⟩⟩⟩⟩⟩⟩⟩⟩) := by kernel_rfl
theorem S94x1q (s0 s1 s2 s3 s4 s5 s6 s7 s8 s9 s10 s11 s12 s13 s14 s15 s16 s17 s18 s19 s20 s21 s22 s23 s24 s25 s26 s27 s28 s29 s30 s31 s32 s33 s34 s35 s36 s37 s38 s39 s40 s41 s42 s43 s44 s45 s46 s47 s48 s49 s50 s51 s52 s53 s54 s55
 s56 s57 s58 s59 s60 s61 s62 s63 s64 s65 s66 s67 s68 s69 s70 s71 s72 s73 s74 s75 s76 s77 s78 s79 s80 s81 s82 s83 s84 s85 s86 s87 s88 s89 s90 s91 : Value) (H : AHeap) (k : Value → AHeap → Prop) : S94x1 k [s0,s1,s2,s3,s4,s5,
 s6,s7,s8,s9,s10,s11,s12,s13,s14,s15,s16,s17,s18,s19,s20,s21,s22,s23,s24,s25,s26,s27,s28,s29,s30,s31,s32,s33,s34,s35,s36,s37,s38,s39,s40,s41,s42,s43,s44,s45,s46,s47,s48,s49,s50,s51,
 s52,s53,s54,s55,s56,s57,s58,s59,s60,s61,s62,s63,s64,s65,s66,s67,s68,s69,s70,s71,s72,s73,s74,s75,s76,s77,s78,s79,s80,s81,s82,s83,s84,s85,s86,s87,s88,s89,s90,s91] H = (@bnd (aBin2 prog H
 .eql 3 (.tmp 70) (.const (.int .i64 0)) s7 (.int .i64 0)) ⟨fun v71x42 => @bnd (gif v71x42 false ((some s8)) undef) ⟨fun v73x43 => @bnd (gif v71x42 false (aBin2 prog H .gtr 3 (.tmp 73) (.const (.int .i64 3)) v73x43 (.int
 .i64 3)) undef) ⟨fun v74x44 => @bnd (pickV v71x42 (.bool true) v74x44) ⟨fun v75x45 => @bnd (gif v75x45 false ((some s4)) undef) ⟨fun v77x46 => @bnd (gif v75x45 false ((some s0)) undef) ⟨fun v78x47 => @bnd (gif v75x45 false
 (aLen prog H 9 v78x47) undef) ⟨fun v79x48 => @bnd (gif v75x45 false (aBin2 prog H .neq 3 (.tmp 77) (.tmp 79) v77x46 v79x48) undef) ⟨fun v80x49 => @bnd (pickV v75x45 (.bool true) v80x49) ⟨fun v81x50 => @kifB v81x50 ⟨k
 (.tuple #[(.int .i64 0),(.int .i64 10)]) H⟩ ⟨∃ n,L94x2 n  k [s0,s1,s2,s3,s4,s5,s6,s7,s8,s9,s10,s11,s12,s13,s14,s15,s16,s17,s18,s19,s20,s21,s22,s23,s24,s25,s26,s27,s28,s29,s30,s31,s32,s33,s34,
 s35,s36,s37,s38,s39,s40,s41,s42,s43,s44,s45,s46,s47,s48,s49,s50,s51,s52,s53,s54,s55,s56,s57,s58,s59,s60,s61,s62,s63,s64,s65,s66,s67,s68,s69,s7,v71x42,v71x42,v73x43,v74x44,v75x45,v75x45,
 v77x46,v78x47,v79x48,v80x49,v81x50,s82,s83,s84,s85,s86,s87,s88,s89,s90,s91] H⟩⟩⟩⟩⟩⟩⟩⟩⟩⟩) := by kernel_rfl
theorem L94x2q (n2 : Nat) (s0 s1 s2 s3 s4 s5 s6 s7 s8 s9 s10 s11 s12 s13 s14 s15 s16 s17 s18 s19 s20 s21 s22 s23 s24 s25 s26 s27 s28 s29 s30 s31 s32 s33 s34 s35 s36 s37 s38 s39 s40 s41 s42 s43 s44 s45 s46 s47 s48 s49 s50 s51 s52
 s53 s54 s55 s56 s57 s58 s59 s60 s61 s62 s63 s64 s65 s66 s67 s68 s69 s70 s71 s72 s73 s74 s75 s76 s77 s78 s79 s80 s81 s82 s83 s84 s85 s86 s87 s88 s89 s90 s91 : Value) (H : AHeap) (k : Value → AHeap → Prop) : L94x2 (n2 + 1) k [s0,
 s1,s2,s3,s4,s5,s6,s7,s8,s9,s10,s11,s12,s13,s14,s15,s16,s17,s18,s19,s20,s21,s22,s23,s24,s25,s26,s27,s28,s29,s30,s31,s32,s33,s34,s35,s36,s37,s38,s39,s40,s41,s42,s43,s44,s45,s46,s47,
 s48,s49,s50,s51,s52,s53,s54,s55,s56,s57,s58,s59,s60,s61,s62,s63,s64,s65,s66,s67,s68,s69,s70,s71,s72,s73,s74,s75,s76,s77,s78,s79,s80,s81,s82,s83,s84,s85,s86,s87,s88,s89,s90,s91] H =
 (@bnd (aBin2 prog H .lss 3 (.tmp 82) (.const (.int .i64 3)) s8 (.int .i64 3)) ⟨fun v83x51 => @kifB v83x51 ⟨@bndC prog 98 [s6,(.int .u8 48)] H ⟨fun v85x52 H53 => @bnd (aBin2 prog H53 .add 3 (.tmp 86) (.const (.int
 .i64 1)) s8 (.int .i64 1)) ⟨fun v87x54 => L94x2 n2  k [s0,s1,s2,s3,s4,s5,v85x52,s7,v87x54,s9,s10,s11,s12,s13,s14,s15,s16,s17,s18,s19,s20,s21,s22,s23,s24,s25,s26,s27,s28,s29,s30,s31,s32,s33,s34,
 s35,s36,s37,s38,s39,s40,s41,s42,s43,s44,s45,s46,s47,s48,s49,s50,s51,s52,s53,s54,s55,s56,s57,s58,s59,s60,s61,s62,s63,s64,s65,s66,s67,s68,s69,s70,s71,s72,s73,s74,s75,s76,s77,s78,s79,
 s80,s81,s8,v83x51,s6,v85x52,s8,v87x54,s88,s89,s90,s91] H53⟩⟩⟩ ⟨@kifB s5 ⟨@bnd (unV prog .neg s6) ⟨fun v90x55 => k (.tuple #[v90x55,(.int .i64 0)]) H⟩⟩ ⟨k (.tuple #[s6,(.int .i64 0)]) H⟩⟩⟩) := by kernel_rfl
-- tocsin/tocsinref09.digits
def L95x0 (n : Nat) (k : Value → AHeap → Prop) (sl : List Value) (H : AHeap) : Prop := kit prog (cl (cl (cr (cl (cr (cb Try.f95)))))) n (kblk 0 (kseq prog (cr (cr (cb Try.f95))) (kfin prog Try.f95 k))) .normal sl H
theorem d95 (a0 : Value) (H : AHeap) (k : Value → AHeap → Prop) : kbody prog Try.f95 [a0] H k = (∃ n,L95x0 n  k [a0,undef,(.bool false),(.int .i64 0),undef,undef,undef,undef,undef,undef,undef,undef,undef,undef,
 undef,undef,undef,undef,undef,undef,undef,undef] H) := by kernel_rfl
theorem L95x0q (n0 : Nat) (s0 s1 s2 s3 s4 s5 s6 s7 s8 s9 s10 s11 s12 s13 s14 s15 s16 s17 s18 s19 s20 s21 : Value) (H : AHeap) (k : Value → AHeap → Prop) : L95x0 (n0 + 1) k [s0,s1,s2,s3,s4,s5,s6,s7,s8,s9,s10,s11,s12,
 s13,s14,s15,s16,s17,s18,s19,s20,s21] H = (@bnd (aLen prog H 9 s0) ⟨fun v6x1 => @bnd (aBin2 prog H .lss 3 (.tmp 4) (.tmp 6) s3 v6x1) ⟨fun v7x2 => @kifB v7x2 ⟨@bnd (aIndex prog 9 s0 s3) ⟨fun v12x3 => @bnd
 (aBin2 prog H .lss 5 (.tmp 12) (.const (.int .u8 48)) v12x3 (.int .u8 48)) ⟨fun v13x4 => @bnd (gif v13x4 false ((some s0)) undef) ⟨fun v15x5 => @bnd (gif v13x4 false ((some s3)) undef) ⟨fun v16x6 => @bnd (gif v13x4 false
 (aIndex prog 9 v15x5 v16x6) undef) ⟨fun v17x7 => @bnd (gif v13x4 false (aBin2 prog H .gtr 5 (.tmp 17) (.const (.int .u8 57)) v17x7 (.int .u8 57)) undef) ⟨fun v18x8 => @bnd (pickV v13x4 (.bool true) v18x8) ⟨fun v19x9 =>
 @kifB v19x9 ⟨k (.bool false) H⟩ ⟨@bnd (aBin2 prog H .add 3 (.tmp 8) (.const (.int .i64 1)) s3 (.int .i64 1)) ⟨fun v9x10 => L95x0 n0  k [s0,s1,s2,v9x10,s3,s0,v6x1,v7x2,s3,v9x10,s0,s3,v12x3,v13x4,v13x4,v15x5,
 v16x6,v17x7,v18x8,v19x9,s20,s21] H⟩⟩⟩⟩⟩⟩⟩⟩⟩⟩ ⟨@bnd (aBin2 prog H .neq 9 (.tmp 20) (.const (.string { data := #[] })) s0 (.string { data := #[] })) ⟨fun v21x11 => k v21x11 H⟩⟩⟩⟩) := by kernel_rfl
-- tocsin/tocsinref10.op
theorem d96 (a0 : Value) (H : AHeap) (k : Value → AHeap → Prop) : kbody prog Try.f96 [a0] H k = (@bndL prog H 23 3 [(0,(.string { data := #[61] })),(1,(.string { data := #[33,61] })),(2,(.string { data := #[94,61]
 }))] ⟨fun v3x1 H2 => @bnd (aIndexAddr prog H2 23 v3x1 a0) ⟨fun v5x3 => @bnd (aLoad prog H2 9 v5x3) ⟨fun v6x4 => k v6x4 H2⟩⟩⟩) := by kernel_rfl
-- tocsin/tocsinref01.digit
theorem d97 (a0 : Value) (H : AHeap) (k : Value → AHeap → Prop) : kbody prog Try.f97 [a0] H k = (@bnd (aBin2 prog H .geq 5 (.tmp 3) (.const (.int .u8 48)) a0 (.int .u8 48)) ⟨fun v4x1 => @bnd (gif v4x1 true ((some a0))
 undef) ⟨fun v6x2 => @bnd (gif v4x1 true (aBin2 prog H .leq 5 (.tmp 6) (.const (.int .u8 57)) v6x2 (.int .u8 57)) undef) ⟨fun v7x3 => @bnd (pickV v4x1 v7x3 (.bool false)) ⟨fun v8x4 => k v8x4 H⟩⟩⟩⟩) := by kernel_rfl
-- tocsin/tocsinref01.more
theorem d98 (a0 a1 : Value) (H : AHeap) (k : Value → AHeap → Prop) : kbody prog Try.f98 [a0,a1] H k = (@bnd (aBin2 prog H .gtr 2 (.tmp 5) (.const (.int .i64 461168601842738790)) a0 (.int .i64 461168601842738790)) ⟨fun
 v6x1 => @kifB v6x1 ⟨k (.int .i64 4611686018427387903) H⟩ ⟨@bnd (aBin2 prog H .mul 2 (.const (.int .i64 10)) (.tmp 7) (.int .i64 10) a0) ⟨fun v8x2 => @bnd (aBin2 prog H .sub 5 (.tmp 9) (.const (.int .u8 48)) a1 (.int .u8
 48)) ⟨fun v10x3 => @bnd (convV prog H 5 2 v10x3) ⟨fun v11x4 => @bnd (aBin2 prog H .add 2 (.tmp 8) (.tmp 11) v8x2 v11x4) ⟨fun v12x5 => @bndC prog 71 [v12x5] H ⟨fun v13x6 H7 => k v13x6 H7⟩⟩⟩⟩⟩⟩⟩) := by kernel_rfl
end Go.Vi
namespace Go.Vi
open Go Go.Proofs Go.Proofs.Try
theorem MixT : prog.follows .mixedOrders = true := by kernel_rfl
def isLow (b : UInt8) : Bool := decide (97 ≤ (b.toNat : Int)) && decide ((b.toNat : Int) ≤ 122)
def isDig (b : UInt8) : Bool := decide (48 ≤ (b.toNat : Int)) && decide ((b.toNat : Int) ≤ 57)
def isMark (b : UInt8) : Bool := isLow b || isDig b || (b.toNat : Int) == 95
def isSign (b : UInt8) : Bool := decide (32 ≤ (b.toNat : Int)) && decide ((b.toNat : Int) ≤ 126)
def mayName (l : List UInt8) : Bool := decide (1 ≤ l.length) && decide (l.length ≤ 16) && (l[0]?).any isLow && l.all isMark
def mayValue (l : List UInt8) : Bool := decide (1 ≤ l.length) && decide (l.length ≤ 32) && l.all isSign
theorem c_lab_letter (H : AHeap) (b : UInt8) : ACalls prog 41 [byt b] H (.bool (isLow b)) H := by
 refine acalls_pure MixT func41 (by decide) rfl ?_
 rw [d41]
 simp +contextual [isLow]
theorem c_lab_mark (H : AHeap) (b : UInt8) : ACalls prog 43 [byt b] H (.bool (isMark b)) H := by
 refine acalls_pure MixT func43 (by decide) rfl ?_
 rw [d43]
 refine bndC_of (c_lab_letter _ _) ?_
 simp +contextual [isMark,isDig]
theorem c_lab_sign (H : AHeap) (b : UInt8) : ACalls prog 83 [byt b] H (.bool (isSign b)) H := by
 refine acalls_pure MixT func83 (by decide) rfl ?_
 rw [d83]
 simp +contextual [isSign]
theorem every_loop {l : List UInt8} {g : FuncId} {p : UInt8 → Bool} {H : AHeap} {k : Value → AHeap → Prop} (hp : ∀ b,ACalls prog g [byt b] H (.bool (p b)) H) (hl : l.length < 2 ^ 63) :
  ∀ (r : List UInt8) (i : Nat) (s2 s3 s4 s5 s9 s10 s11 s12 s13 s14 s15 s16 s17 : Value), l.drop i = r → i ≤ l.length → k (.bool (r.all p)) H →
    L42x0 (r.length + 1) k [str l,.func (.func g) #[] #[],s2,s3,s4,s5,str l,i64 l.length,i64 i,s9,s10,s11,s12,s13,s14,s15,s16,s17] H := by
 intro r
 induction r with
 | nil =>
   intro i s2 s3 s4 s5 s9 s10 s11 s12 s13 s14 s15 s16 s17 hd hi hk
   have hle : l.length ≤ i := by simpa using hd
   rw [List.length_nil,L42x0q]
   have : ¬ i < l.length := by omega
   simp [this]
   simpa using hk
 | cons b r ih =>
   intro i s2 s3 s4 s5 s9 s10 s11 s12 s13 s14 s15 s16 s17 hd hi hk
   have hb : l[i]? = some b := by rw [← List.head?_drop,hd]; rfl
   have hlt : i < l.length := (List.getElem?_eq_some_iff.1 hb).1
   rw [List.length_cons,L42x0q]
   simp [hlt,aIndex_at _ hb]
   refine bndV_func (by simpa using hp b) ?_
   simp
   refine kifB_bool (fun h => ?_) (fun h => ?_)
   · simp at h
     simpa [h] using hk
   · simp at h
     simp [show i + 1 < 2 ^ 63 by omega]
     exact ih (i + 1) _ _ _ _ _ _ _ _ _ _ _ _ _ (by rw [← List.drop_drop,hd]; rfl) hlt (by simpa [h] using hk)
theorem c_every {H : AHeap} {l : List UInt8} {g : FuncId} {p : UInt8 → Bool} (hp : ∀ b,ACalls prog g [byt b] H (.bool (p b)) H) (hl : l.length < 2 ^ 63) :
  ACalls prog 42 [str l,.func (.func g) #[] #[]] H (.bool (l.all p)) H := by
 refine acalls_pure MixT func42 (by decide) rfl ?_
 rw [d42]
 simp
 exact ⟨l.length + 1,every_loop hp hl l 0 _ _ _ _ _ _ _ _ _ _ _ _ _ rfl (by omega) ⟨rfl,[],by simp⟩⟩
theorem c_mayName (H : AHeap) (l : List UInt8) : ACalls prog 21 [str l] H (.bool (mayName l)) H := by
 refine acalls_pure MixT func21 (by decide) rfl ?_
 rw [d21]
 cases l with
 | nil => simp [mayName]
 | cons b r =>
   have hb : (b :: r)[0]? = some b := rfl
   have h0 := aIndex_at (P := prog) (T := 9) (k := .i64) (i := 0) (by simp) hb
   simp only [Int.ofNat_zero] at h0
   simp +contextual [h0]
   refine bndG_call (.bool (isLow b)) (fun h => ?_) ?_
   · simp only [h,gsel_tt]; exact c_lab_letter _ _
   simp +contextual
   refine bndG_call (.bool ((b :: r).all isMark)) (fun h => ?_) ?_
   · have hh := h
     simp at h
     simp only [hh,gsel_tt]; exact c_every (c_lab_mark _) (by simp; omega)
   · simp +contextual [mayName]
     have : decide (1 ≤ (r.length : Int) + 1) = true := by simp; omega
     have h2 : decide ((r.length : Int) + 1 ≤ 16) = decide (r.length ≤ 15) := by rw [decide_eq_decide]; omega
     rw [this,h2,Bool.true_and]
theorem c_mayValue (H : AHeap) (l : List UInt8) : ACalls prog 77 [str l] H (.bool (mayValue l)) H := by
 refine acalls_pure MixT func77 (by decide) rfl ?_
 rw [d77]
 simp +contextual
 refine bndG_call (.bool (l.all isSign)) (fun h => ?_) ?_
 · have hh := h
   simp at h
   simp only [hh,gsel_tt]; exact c_every (c_lab_sign _) (by omega)
 · simp +contextual
   rw [mayValue]
   congr 2 <;> rw [decide_eq_decide] <;> omega
structure Mat where
 name : List UInt8
 op : Int
 value : List UInt8
def Mat.cells (m : Mat) : List Value := [str m.name,.int .u8 m.op,str m.value]
def mayM (s : List UInt8) : Bool := decide (s = []) || mayValue s
def Mat.ok (m : Mat) : Bool := (m.op == 0 || m.op == 1 || m.op == 2) && mayName m.name && mayM m.value
def mayMats (ms : List Mat) : Bool := ms.all Mat.ok && decide (ms.length ≤ 6)
theorem c_matMay (H : AHeap) (l : List UInt8) : ACalls prog 68 [str l] H (.bool (mayM l)) H := by
 refine acalls_pure MixT func68 (by decide) rfl ?_
 rw [d68]
 simp +contextual
 refine bndG_call (.bool (mayValue l)) (fun h => ?_) ?_
 · simp only [h,gsel_ff]; exact c_mayValue _ _
 · simp +contextual [mayM]
def opsMap : List (Value × Value) := [(.int .u8 0,.agg #[str [61],.func (.func 74) #[] #[]]),(.int .u8 1,.agg #[str [33,61],.func (.func 75) #[] #[]]),(.int .u8 2,.agg #[str [94,61],.func (.func 76) #[] #[]])]
theorem c_matOps (H : AHeap) : ACalls prog 67 [] H (.map (some H.length)) (H ++ [.map opsMap]) := by
 refine acalls_of MixT func67 (by decide) ?_
 rw [d67]
 simp [keyOk,mOk,mput,mfind,keyEq,opsMap]
def MatsAt (H : AHeap) (v : Value) (ms : List Mat) : Prop := Arr H 3 v (ms.map Mat.cells)
theorem MatsAt.pre {H K v ms} (h : MatsAt H v ms) (p : Pre H K) : MatsAt K v ms := Arr.pre h p
def isOp (n : Int) : Bool := n == 0 || n == 1 || n == 2
def opS (n : Int) : List UInt8 := if n = 0 then [61] else if n = 1 then [33,61] else if n = 2 then [94,61] else []
def opF (n : Int) : Value := if n = 0 then .func (.func 74) #[] #[] else if n = 1 then .func (.func 75) #[] #[] else if n = 2 then .func (.func 76) #[] #[] else .nilFunc
theorem opF_one (n : Int) : (opF n).oneCell' = true := by unfold opF; split <;> (try split) <;> (try split) <;> rfl
theorem opsOk : mOk (.int .u8) opsMap = true := by simp [mOk,opsMap,keyOk]
theorem opsLook {K : AHeap} {mb : Nat} (n : Int) (h : K[mb]? = some (.map opsMap)) : aLookup prog K 95 (.map (some mb)) (.int .u8 n) true = some (.tuple #[.agg #[str (opS n),opF n],.bool (isOp n)]) := by
 rw [aLookup_map,h]
 simp only [tm95,Option.bind_some,mapOf_map,opsOk,keyOk,beq_self_eq_true,if_true]
 unfold mget opsMap opS opF isOp
 simp only [mfind,keyEq]
 by_cases h0 : n = 0
 · simp [h0]
 · by_cases h1 : n = 1
   · simp [h1]
   · by_cases h2 : n = 2
     · simp [h2]
     · simp [h0,h1,h2,cok,isLit]
theorem matMay_loop {v : Value} {ms : List Mat} {H : AHeap} {w : Bool} {mb : Nat} {k : Value → AHeap → Prop} (hl : ms.length < 2 ^ 63) (hk : ∀ K,Pre H K → k (.bool w) K) :
  ∀ (r : List Mat) (i : Nat) (K : AHeap) (s1 s2 s4 s5 s6 s7 s8 s12 s13 s14 s15 s16 s17 s18 s19 s20 s21 s22 s23 s24 s25 s26 s27 s28 s29 s30 s31 s32 s33 s34 s35 s36 s37 s38 s39 : Value), ms.drop i = r → i ≤ ms.length → Pre H K → MatsAt K v ms → K[mb]? = some (.map opsMap) →
    w = (r.all Mat.ok && decide (ms.length ≤ 6)) →
    L56x0 (r.length + 1) k [v,s1,s2,.map (some mb),s4,s5,s6,s7,s8,v,i64 ms.length,i64 i,s12,s13,s14,s15,s16,s17,s18,s19,s20,s21,s22,s23,s24,s25,s26,s27,s28,s29,s30,s31,s32,s33,s34,s35,s36,s37,s38,s39] K := by
 intro r
 induction r with
 | nil =>
   intro i K s1 s2 s4 s5 s6 s7 s8 s12 s13 s14 s15 s16 s17 s18 s19 s20 s21 s22 s23 s24 s25 s26 s27 s28 s29 s30 s31 s32 s33 s34 s35 s36 s37 s38 s39 hd hi hp hm hmap hw
   have hle : ms.length ≤ i := by simpa using hd
   rw [List.length_nil,L56x0q]
   have : ¬ i < ms.length := by omega
   have hlen := hm.len (P := prog) (T := 48) (e := 52) (by simp)
   simp at hlen
   simp [this,hlen]
   have := hk K hp
   rw [hw] at this
   have e : decide ((ms.length : Int) ≤ 6) = decide (ms.length ≤ 6) := by rw [decide_eq_decide]; omega
   rw [e]; simpa using this
 | cons m r ih =>
   intro i K s1 s2 s4 s5 s6 s7 s8 s12 s13 s14 s15 s16 s17 s18 s19 s20 s21 s22 s23 s24 s25 s26 s27 s28 s29 s30 s31 s32 s33 s34 s35 s36 s37 s38 s39 hd hi hp hm hmap hw
   have hb : ms[i]? = some m := by rw [← List.head?_drop,hd]; rfl
   have hlt : i < ms.length := (List.getElem?_eq_some_iff.1 hb).1
   obtain ⟨p,hp1,hp2⟩ := hm.load (P := prog) (T := 48) (te := 52) (i := i) (e := m.cells) (by simp) (by simp) (by simp) (by simp [hb])
   have hmb : mb < K.length := (List.getElem?_eq_some_iff.1 hmap).1
   have hg : ∀ X : AHeap,(K ++ X)[mb]? = some (.map opsMap) := fun X => get_more hmap
   rw [List.length_cons,L56x0q]
   have hlook : ∀ X : AHeap,aLookup prog (K ++ X) 95 (.map (some mb)) (.int .u8 m.op) true = some (.tuple #[.agg #[str (opS m.op),opF m.op],.bool (isOp m.op)]) := fun X => opsLook _ (hg X)
   simp +contextual [hlt,hp1,hp2,Mat.cells,-aLookup_map,hlook,opF_one]
   refine bndG_call (.bool (mayName m.name)) (fun h => ?_) ?_
   · simp only [h,gsel_ff]; exact c_mayName _ _
   simp +contextual
   refine bndG_call (.bool (mayM m.value)) (fun h => ?_) ?_
   · simp only [h,gsel_ff]; exact c_matMay _ _
   simp +contextual
   have hok : m.ok = (isOp m.op && mayName m.name && mayM m.value) := by simp [Mat.ok,isOp]
   refine kifB_bool (fun h => ?_) (fun h => ?_)
   · have : w = false := by
      rw [hw,List.all_cons,hok]
      revert h; cases isOp m.op <;> cases mayName m.name <;> cases mayM m.value <;> simp
     rw [← this]
     exact hk _ (hp.more _)
   · have h1 : m.ok = true := by
      rw [hok]
      revert h; cases isOp m.op <;> cases mayName m.name <;> cases mayM m.value <;> simp
     simp [show i + 1 < 2 ^ 63 by omega]
     exact ih (i + 1) _ _ _ _ _ _ _ _ _ _ _ _ _ _ _ _ _ _ _ _ _ _ _ _ _ _ _ _ _ _ _ _ _ _ _ _ (by rw [← List.drop_drop,hd]; rfl) hlt (hp.more _) (hm.pre (.app _ _)) (hg _) (by rw [hw,List.all_cons,h1,Bool.true_and])
theorem c_matchMay {H : AHeap} {v : Value} {ms : List Mat} (hm : MatsAt H v ms) (hl : ms.length < 2 ^ 63) : ACalls prog 56 [v] H (.bool (mayMats ms)) H := by
 refine acalls_pure MixT func56 (by decide) rfl ?_
 rw [d56]
 refine bndC_of (c_matOps H) ?_
 have hlen := (hm.pre (.app H [.map opsMap])).len (P := prog) (T := 48) (e := 52) (by simp)
 simp at hlen
 simp [hlen]
 exact ⟨ms.length + 1,matMay_loop (H := H) hl (fun K p => ⟨rfl,p⟩) ms 0 _ _ _ _ _ _ _ _ _ _ _ _ _ _ _ _ _ _ _ _ _ _ _ _ _ _ _ _ _ _ _ _ _ _ _ _ rfl (by omega) (.app _ _) (hm.pre (.app _ _)) (by simp) rfl⟩
end Go.Vi
namespace Go.Vi
open Go Go.Proofs Go.Proofs.Try
structure Nod where
 kind : UInt8
 agg : UInt8
 sel : List Mat
 window : Int
 cmp : UInt8
 value : Int
 left : Int
 right : Int
def Nod.cells (n : Nod) (sv : Value) : List Value := [byt n.kind,byt n.agg,sv,i64 n.window,byt n.cmp,i64 n.value,i64 n.left,i64 n.right]
def maxFix : Int := 4611686018427387903
def sat (x : Int) : Int := min (max x (-maxFix)) maxFix
theorem c_sat (H : AHeap) (x : Int) : ACalls prog 58 [i64 x] H (i64 (sat x)) H := by
 refine acalls_pure MixT func58 (by decide) rfl ?_
 rw [d58]
 simp [sat,maxFix]
 split <;> split <;> omega
def aggs : List (List UInt8) := [[99,111,117,110,116],[115,117,109],[109,105,110],[109,97,120],[109,101,97,110],[108,97,115,116]]
def cmps : List (List UInt8) := [[60],[60,61],[62],[62,61],[61,61],[33,61]]
theorem c_aggregates (H : AHeap) : ACalls prog 55 [] H (.slice (some ⟨H.length,0,some 6⟩) 6 6) (H ++ [.cells (aggs.map str) 9]) := by
 refine acalls_of MixT func55 (by decide) ?_
 rw [d55]
 exact bndL_of (by decide) (by kernel_rfl) ⟨rfl,rfl⟩
theorem c_compares (H : AHeap) : ACalls prog 57 [] H (.slice (some ⟨H.length,0,some 6⟩) 6 6) (H ++ [.cells (cmps.map str) 9]) := by
 refine acalls_of MixT func57 (by decide) ?_
 rw [d57]
 exact bndL_of (by decide) (by kernel_rfl) ⟨rfl,rfl⟩
def Nod.plain (n : Nod) : Bool := decide ((n.agg.toNat : Int) < 6) && mayMats n.sel && decide (n.window ≥ 1) && decide (n.window ≤ 1000) && decide ((n.cmp.toNat : Int) < 6) && (sat n.value == n.value) && (n.left == 0) && (n.right == 0)
def Nod.void (n : Nod) : Bool := ((n.agg.toNat : Int) == 0) && ((n.sel.length : Int) == 0) && (n.window == 0) && ((n.cmp.toNat : Int) == 0) && (n.value == 0)
theorem MatsAt.one {H v ms} (h : MatsAt H v ms) : v.oneCell' = true := Arr.one h
theorem c_void {H : AHeap} {n : Nod} {sv : Value} (hs : MatsAt H sv n.sel) : ACalls prog 53 [.agg (n.cells sv).toArray] H (.bool n.void) H := by
 refine acalls_pure MixT func53 (by decide) rfl ?_
 rw [d53]
 have h1 := hs.one
 have hl := fun X => (hs.pre (.app H X)).len (P := prog) (T := 48) (e := 52) (by simp)
 simp at hl
 simp +contextual [aNew_agg,Nod.cells,Nod.void,h1,hl]
theorem c_plain {H : AHeap} {n : Nod} {sv : Value} (hs : MatsAt H sv n.sel) (hsl : n.sel.length < 2 ^ 63) : ACalls prog 52 [.agg (n.cells sv).toArray] H (.bool n.plain) H := by
 refine acalls_pure MixT func52 (by decide) rfl ?_
 rw [d52]
 have h1 := hs.one
 simp +contextual [aNew_agg,Nod.cells,h1]
 refine bndD_of (c_aggregates _) (.inr ⟨_,rfl⟩) ?_
 simp +contextual
 refine bndD_gcall (.bool (mayMats n.sel)) (by simp) (fun h => ?_) ?_
 · simp only [h,gsel_tt]; rw [List.append_assoc]; exact c_matchMay (hs.pre (.app _ _)) hsl
 simp +contextual
 refine bndD_gcases _ _ (by simp) (fun h => ?_) (fun _ => c_compares _) (.inr ⟨_,by simp; rfl⟩) (fun h => ?_)
 · have e : n.plain = false := by simp only [Nod.plain,ge_iff_le,h,Bool.false_and]
   simp [h,e]
 · simp +contextual [h]
   refine bndD_gcall (i64 (sat n.value)) (by simp) (fun h => ?_) ?_
   · simp only [h,gsel_tt]; exact c_sat _ _
   simp +contextual
   simp only [Nod.plain,ge_iff_le,h,Bool.true_and]
def NodesAt (H : AHeap) (v : Value) (ns : List Nod) : Prop := ∃ cl : List (List Value),Arr H 8 v cl ∧ cl.length = ns.length ∧ ∀ (i : Nat) n,ns[i]? = some n → ∃ sv,cl[i]? = some (n.cells sv) ∧ MatsAt H sv n.sel ∧ n.sel.length < 2 ^ 63
theorem NodesAt.pre {H K v ns} (h : NodesAt H v ns) (p : Pre H K) : NodesAt K v ns := by
 obtain ⟨cl,h1,h2,h3⟩ := h
 refine ⟨cl,h1.pre p,h2,fun i n hi => ?_⟩
 obtain ⟨sv,q1,q2,q3⟩ := h3 i n hi
 exact ⟨sv,q1,q2.pre p,q3⟩
theorem NodesAt.len {H v ns} (h : NodesAt H v ns) (K : AHeap) : aLen prog K 22 v = some (i64 ns.length) := by
 obtain ⟨cl,h1,h2,_⟩ := h
 rw [← h2]
 exact h1.len' (e := 50) (by simp)
def isAnd (n : Nod) : Bool := (n.kind.toNat : Int) == 1
def isOr (n : Nod) : Bool := (n.kind.toNat : Int) == 2
def beg (ns : List Nod) : Nat → Int → Int
 | 0,_ => -1
 | f + 1, e => if e < 0 then -1 else match ns[e.toNat]? with
   | none => -1
   | some n =>
     if ((n.kind.toNat : Int) == 0) = true then (if n.plain = true then e else -1)
     else if ((n.kind.toNat : Int) == 3) = true then (if (n.void && n.left == e - 1 && n.right == 0) = true then beg ns f (e - 1) else -1)
     else if (isAnd n || isOr n) = true then
      (if (n.void && n.right == e - 1 && decide (beg ns f (e - 1) > 0) && n.left == beg ns f (e - 1) - 1) = true then beg ns f (beg ns f (e - 1) - 1) else -1)
     else -1
theorem beg_range (ns : List Nod) : ∀ (f : Nat) (e : Int),-1 ≤ e → -1 ≤ beg ns f e ∧ beg ns f e ≤ e := by
 intro f
 induction f with
 | zero => intro e h; exact ⟨Int.le_refl _,h⟩
 | succ f ih =>
   intro e h
   simp only [beg]
   split
   · omega
   · split
     · omega
     · split
       · split <;> omega
       · split
         · split
           · have := ih (e - 1) (by omega); omega
           · omega
         · split
           · split
             · rename_i n _ _ _ _ hc
               simp only [Bool.and_eq_true,decide_eq_true_eq] at hc
               have h1 := ih (e - 1) (by omega)
               have := ih (beg ns f (e - 1) - 1) (by omega)
               omega
             · omega
           · omega
attribute [local simp] S45x0q S45x1q
theorem c_begin {ns : List Nod} {v : Value} (hlen : ns.length < 2 ^ 40) : ∀ (f : Nat) (H : AHeap) (e : Int),NodesAt H v ns → -1 ≤ e → e < ns.length → e < f → ACalls prog 45 [v,i64 e] H (i64 (beg ns f e)) H := by
 intro f
 induction f with
 | zero =>
   intro H e hn h1 h2 h3
   refine acalls_pure MixT func45 (by decide) rfl ?_
   rw [d45]
   have : e = -1 := by omega
   subst this
   simp [beg]
 | succ f ih =>
   intro H e hn h1 h2 h3
   refine acalls_pure MixT func45 (by decide) rfl ?_
   rw [d45]
   by_cases h0 : e < 0
   · simp [beg,h0]
   obtain ⟨cl,ha,hcl,hc⟩ := hn
   obtain ⟨n,hnd⟩ : ∃ n,ns[e.toNat]? = some n := ⟨_,List.getElem?_eq_getElem (by omega)⟩
   obtain ⟨sv,hsv,hm,hml⟩ := hc _ _ hnd
   obtain ⟨p,hp1,hp2⟩ := ha.load (P := prog) (T := 22) (te := 50) (i := e.toNat) (e := n.cells sv) (by simp) (by simp) (by simp) hsv
   have het : ((e.toNat : Nat) : Int) = e := by omega
   rw [het] at hp1
   have hone := hm.one
   simp [h0,hp1,hp2,Nod.cells,hone]
   have hK : ∀ X : AHeap,NodesAt (H ++ X) v ns := fun X => NodesAt.pre ⟨cl,ha,hcl,hc⟩ (.app _ _)
   have hpl := fun X : AHeap => c_plain (H := H ++ X) (hm.pre (.app _ _)) hml
   have hvo := fun X : AHeap => c_void (H := H ++ X) (hm.pre (.app _ _))
   have hw : IntKind.i64.wrap (e - 1) = e - 1 := wrap_i64 (by omega) (by omega)
   have hr := ih (H ++ [AObj.cells [byt n.kind,byt n.agg,sv,i64 n.window,byt n.cmp,i64 n.value,i64 n.left,i64 n.right] 50]) (e - 1) (hK _) (by omega) (by omega) (by omega)
   obtain ⟨rb1,rb2⟩ := beg_range ns f (e - 1) (by omega)
   have hw2 : IntKind.i64.wrap (beg ns f (e - 1) - 1) = beg ns f (e - 1) - 1 := wrap_i64 (by omega) (by omega)
   simp only [Nod.cells] at hpl hvo
   have hbeg : beg ns (f + 1) e = if ((n.kind.toNat : Int) == 0) = true then (if n.plain = true then e else -1)
    else if ((n.kind.toNat : Int) == 3) = true then (if (n.void && n.left == e - 1 && n.right == 0) = true then beg ns f (e - 1) else -1)
    else if (isAnd n || isOr n) = true then
     (if (n.void && n.right == e - 1 && decide (beg ns f (e - 1) > 0) && n.left == beg ns f (e - 1) - 1) = true then beg ns f (beg ns f (e - 1) - 1) else -1)
    else -1 := by rw [beg,if_neg h0,hnd]
   generalize beg ns (f + 1) e = res at hbeg ⊢
   refine kifB_bool (fun hk => ?_) (fun hk => ?_)
   · rw [hk,if_pos rfl] at hbeg
     simp
     refine bndC_of (hpl _) ?_
     refine kifB_bool (fun hq => ?_) (fun hq => ?_) <;> simp [hq,hbeg]
   rw [hk,if_neg (by simp)] at hbeg
   simp
   refine kifB_bool (fun hk3 => ?_) (fun hk3 => ?_)
   · rw [hk3,if_pos rfl] at hbeg
     simp
     refine bndC_of (hvo _) ?_
     simp +contextual [hw]
     refine kifB_bool (fun hq => ?_) (fun hq => ?_)
     · rw [hq,if_pos rfl] at hbeg
       simp [hw]
       exact bndC_of hr (by simp [hbeg])
     · rw [hq,if_neg (by simp)] at hbeg
       simp [hbeg]
   rw [hk3,if_neg (by simp)] at hbeg
   simp
   refine kifB_bool (fun hk1 => ?_) (fun hk1 => ?_)
   · rw [show (isAnd n || isOr n) = true by simp only [isAnd,hk1,Bool.true_or],if_pos rfl] at hbeg
     simp only [S45x1q,kifB_true,aBin_sub,hw,bnd_some,hk1]
     refine bndC_of hr ?_
     simp
     refine bndC_of (hvo _) ?_
     simp +contextual [hw,hw2]
     refine kifB_bool (fun hq => ?_) (fun hq => ?_)
     · rw [hq,if_pos rfl] at hbeg
       have hpos : beg ns f (e - 1) > 0 := by
        revert hq; cases hd : decide (beg ns f (e - 1) > 0)
        · simp
        · intro _; simpa using hd
       simp [hw2]
       exact bndC_of (ih _ (beg ns f (e - 1) - 1) (hK _) (by omega) (by omega) (by omega)) (by simp [hbeg])
     · rw [hq,if_neg (by simp)] at hbeg
       simp [hbeg]
   · simp
     refine kifB_bool (fun hk2 => ?_) (fun hk2 => ?_)
     · rw [show (isAnd n || isOr n) = true by simp only [isOr,hk2,Bool.or_true],if_pos rfl] at hbeg
       simp only [aBin_sub,hw,bnd_some]
       refine bndC_of hr ?_
       simp
       refine bndC_of (hvo _) ?_
       simp +contextual [hw,hw2]
       refine kifB_bool (fun hq => ?_) (fun hq => ?_)
       · rw [hq,if_pos rfl] at hbeg
         have hpos : beg ns f (e - 1) > 0 := by
          revert hq; cases hd : decide (beg ns f (e - 1) > 0)
          · simp
          · intro _; simpa using hd
         simp [hw2]
         exact bndC_of (ih _ (beg ns f (e - 1) - 1) (hK _) (by omega) (by omega) (by omega)) (by simp [hbeg])
       · rw [hq,if_neg (by simp)] at hbeg
         simp [hbeg]
     · rw [show (isAnd n || isOr n) = false by simp only [isAnd,isOr,hk1,hk2,Bool.or_self],if_neg (by simp)] at hbeg
       simp [hbeg]
def right (ns : List Nod) : Bool := decide ((ns.length : Int) ≥ 1) && decide ((ns.length : Int) ≤ 31) && (beg ns ns.length ((ns.length : Int) - 1) == 0)
theorem c_right {H : AHeap} {ns : List Nod} {v : Value} (hn : NodesAt H v ns) : ACalls prog 27 [v] H (.bool (right ns)) H := by
 refine acalls_pure MixT func27 (by decide) rfl ?_
 rw [d27]
 have hl := hn.len H
 simp +contextual [hl]
 refine bndG_call (i64 (beg ns ns.length ((ns.length : Int) - 1))) (fun h => ?_) ?_
 · simp only [h,gsel_tt]
   simp at h
   have : IntKind.i64.wrap ((ns.length : Int) - 1) = (ns.length : Int) - 1 := wrap_i64 (by omega) (by omega)
   rw [this]
   exact c_begin (by omega) _ _ _ hn (by omega) (by omega) (by omega)
 · simp +contextual [right]
end Go.Vi
namespace Go.Vi
open Go Go.Proofs Go.Proofs.Try
theorem c_among (H : AHeap) (n a b : Int) : ACalls prog 22 [i64 n,i64 a,i64 b] H (.bool (decide (n ≥ a) && decide (n ≤ b))) H := by
 refine acalls_pure MixT func22 (by decide) rfl ?_
 rw [d22]
 simp +contextual
def boolCells (l : List Bool) : List (List Value) := l.map fun b => [.bool b]
theorem idxB_loop {l : List Bool} {x : Bool} {H : AHeap} {v : Value} {k : Value → AHeap → Prop} (ha : Arr H 1 v (boolCells l)) (hl : l.length < 2 ^ 63) :
  ∀ (r : List Bool) (i : Nat) (s2 s3 s4 s5 s9 s10 s11 s12 s13 s14 s15 s16 s17 s18 : Value), l.drop i = r → i ≤ l.length → k (i64 (offI i (idxF (x == ·) r))) H →
    L48x0 (r.length + 1) k [v,.bool x,s2,s3,s4,s5,v,i64 l.length,i64 i,s9,s10,s11,s12,s13,s14,s15,s16,s17,s18] H := by
 intro r
 induction r with
 | nil =>
   intro i s2 s3 s4 s5 s9 s10 s11 s12 s13 s14 s15 s16 s17 s18 hd hi hk
   have hle : l.length ≤ i := by simpa using hd
   rw [List.length_nil,L48x0q]
   have : ¬ i < l.length := by omega
   simp [this]
   simpa [idxF,offI] using hk
 | cons b r ih =>
   intro i s2 s3 s4 s5 s9 s10 s11 s12 s13 s14 s15 s16 s17 s18 hd hi hk
   have hb : l[i]? = some b := by rw [← List.head?_drop,hd]; rfl
   have hlt : i < l.length := (List.getElem?_eq_some_iff.1 hb).1
   obtain ⟨p,hp1,hp2⟩ := ha.load1 (P := prog) (T := 63) (te := 4) (i := i) (x := .bool b) (by simp) (by simp) (by simp) (by simp [boolCells,hb])
   rw [List.length_cons,L48x0q]
   have hcmp : ∀ o1 o2,aBin2 prog H .eql 4 o1 o2 (.bool x) (.bool b) = some (.bool (x == b)) := fun o1 o2 => aBin_beq2 (by simp)
   simp only [aBin_lss,bnd_some,Int.ofNat_lt,hlt,decide_true,kifB_true,hp1,hp2,hcmp]
   rw [offI_cons] at hk
   refine kifB_bool (fun h => ?_) (fun h => ?_)
   · rw [if_pos h] at hk
     exact hk
   · rw [if_neg (by simp [h])] at hk
     simp [show i + 1 < 2 ^ 63 by omega]
     exact ih (i + 1) _ _ _ _ _ _ _ _ _ _ _ _ _ _ (by rw [← List.drop_drop,hd]; rfl) hlt hk
theorem c_indexB {l : List Bool} {x : Bool} {H : AHeap} {v : Value} (ha : Arr H 1 v (boolCells l)) (hl : l.length < 2 ^ 63) : ACalls prog 48 [v,.bool x] H (i64 (idxF (x == ·) l)) H := by
 refine acalls_pure MixT func48 (by decide) rfl ?_
 rw [d48]
 have hlen := ha.len (P := prog) (T := 63) (e := 4) (by simp)
 simp [boolCells] at hlen
 simp [hlen]
 refine ⟨l.length + 1,idxB_loop ha hl l 0 _ _ _ _ _ _ _ _ _ _ _ _ _ _ rfl (by omega) ⟨?_,[],by simp⟩⟩
 unfold offI
 split <;> simp [*]
theorem c_containsB {l : List Bool} {x : Bool} {H : AHeap} {v : Value} (ha : Arr H 1 v (boolCells l)) (hl : l.length < 2 ^ 63) : ACalls prog 30 [v,.bool x] H (.bool (l.any (x == ·))) H := by
 refine acalls_pure MixT func30 (by decide) rfl ?_
 rw [d30]
 refine bndC_of (c_indexB ha hl) ?_
 simp
 exact idxF_any _ _
def errno (ok : Bool) : Int := if ok = true then 0 else 110
theorem c_all {l : List Bool} {H : AHeap} {v : Value} (ha : Arr H 1 v (boolCells l)) (hl : l.length < 2 ^ 63) : ACalls prog 20 [v] H (i64 (errno (l.all id))) H := by
 refine acalls_pure MixT func20 (by decide) rfl ?_
 rw [d20]
 refine bndC_of (c_containsB ha hl) ?_
 have e : ∀ l : List Bool,l.any (false == ·) = !(l.all id) := by
  intro l
  induction l with
  | nil => rfl
  | cons b r ih => rw [List.any_cons,List.all_cons,ih]; cases b <;> simp
 rw [e]
 cases h : l.all id <;> simp [errno]
def strCells (l : List (List UInt8)) : List (List Value) := l.map fun s => [str s]
theorem idxS_loop {l : List (List UInt8)} {p : List UInt8 → Bool} {g : FuncId} {H : AHeap} {v : Value} {k : Value → AHeap → Prop} (ha : Arr H 1 v (strCells l)) (hl : l.length < 2 ^ 63) (hp : ∀ s,ACalls prog g [str s] H (.bool (p s)) H) :
  ∀ (r : List (List UInt8)) (i : Nat) (s2 s3 s4 s5 s9 s10 s11 s12 s13 s14 s15 s16 s17 s18 : Value), l.drop i = r → i ≤ l.length → k (i64 (offI i (idxF p r))) H →
    L44x0 (r.length + 1) k [v,.func (.func g) #[] #[],s2,s3,s4,s5,v,i64 l.length,i64 i,s9,s10,s11,s12,s13,s14,s15,s16,s17,s18] H := by
 intro r
 induction r with
 | nil =>
   intro i s2 s3 s4 s5 s9 s10 s11 s12 s13 s14 s15 s16 s17 s18 hd hi hk
   have hle : l.length ≤ i := by simpa using hd
   rw [List.length_nil,L44x0q]
   have : ¬ i < l.length := by omega
   simp [this]
   simpa [idxF,offI] using hk
 | cons b r ih =>
   intro i s2 s3 s4 s5 s9 s10 s11 s12 s13 s14 s15 s16 s17 s18 hd hi hk
   have hb : l[i]? = some b := by rw [← List.head?_drop,hd]; rfl
   have hlt : i < l.length := (List.getElem?_eq_some_iff.1 hb).1
   obtain ⟨q,hp1,hp2⟩ := ha.load1 (P := prog) (T := 23) (te := 9) (i := i) (x := str b) (by simp) (by simp) (by simp) (by simp [strCells,hb])
   rw [List.length_cons,L44x0q]
   simp only [aBin_lss,bnd_some,Int.ofNat_lt,hlt,decide_true,kifB_true,hp1,hp2]
   refine bndV_func (by simpa using hp b) ?_
   rw [offI_cons] at hk
   refine kifB_bool (fun h => ?_) (fun h => ?_)
   · rw [if_pos h] at hk
     exact hk
   · rw [if_neg (by simp [h])] at hk
     simp [show i + 1 < 2 ^ 63 by omega]
     exact ih (i + 1) _ _ _ _ _ _ _ _ _ _ _ _ _ _ (by rw [← List.drop_drop,hd]; rfl) hlt hk
theorem c_containsS {l : List (List UInt8)} {p : List UInt8 → Bool} {g : FuncId} {H : AHeap} {v : Value} (ha : Arr H 1 v (strCells l)) (hl : l.length < 2 ^ 63) (hp : ∀ s,ACalls prog g [str s] H (.bool (p s)) H) :
  ACalls prog 23 [v,.func (.func g) #[] #[]] H (.bool (l.any p)) H := by
 refine acalls_pure MixT func23 (by decide) rfl ?_
 rw [d23]
 have hi : ACalls prog 44 [v,.func (.func g) #[] #[]] H (i64 (idxF p l)) H := by
  refine acalls_pure MixT func44 (by decide) rfl ?_
  rw [d44]
  have hlen := ha.len (P := prog) (T := 23) (e := 9) (by simp)
  simp [strCells] at hlen
  simp [hlen]
  refine ⟨l.length + 1,idxS_loop ha hl hp l 0 _ _ _ _ _ _ _ _ _ _ _ _ _ _ rfl (by omega) ⟨?_,[],by simp⟩⟩
  unfold offI
  split <;> simp [*]
 refine bndC_of hi ?_
 simp
 exact idxF_any _ _
theorem c_rule1 (H : AHeap) (s : List UInt8) : ACalls prog 24 [str s] H (.bool (!mayName s)) H := by
 refine acalls_pure MixT func24 (by decide) rfl ?_
 rw [d24]
 refine bndC_of (c_mayName _ _) ?_
 simp
theorem c_itself (H : AHeap) (s : List UInt8) : ACalls prog 26 [str s] H (str s) H := by
 refine acalls_pure MixT func26 (by decide) rfl ?_
 rw [d26]
 exact ⟨rfl,[],by simp⟩
def keysOf {α : Type} [DecidableEq α] (l : List α) : List α := l.foldl addKey []
def onceB {α : Type} [DecidableEq α] (l : List α) : Bool := ((keysOf l).length : Int) == (l.length : Int)
def QCount : List UInt8 → Value → Prop := fun _ v => ∃ n,v = i64 n
theorem onceS_loop {l : List (List UInt8)} {H : AHeap} {v : Value} {k : Value → AHeap → Prop} (hl : l.length < 2 ^ 63) (w : Bool) (hw : w = onceB l) (hk : ∀ K,Pre H K → k (.bool w) K) (b : Nat) (hbH : H.length ≤ b) :
  ∀ (r : List (List UInt8)) (i : Nat) (es : List (Value × Value)) (ks : List (List UInt8)) (K : AHeap) (s2 s3 s4 s6 s7 s8 s12 s13 s14 s15 s16 s17 s18 s19 s20 s21 s22 s23 s24 s25 s26 : Value), l.drop i = r → i ≤ l.length → Pre H K → Arr K 1 v (strCells l) → K[b]? = some (.map es) → SMap QCount es ks → r.foldl addKey ks = keysOf l →
    L25x0 (r.length + 1) k [v,.func (.func 26) #[] #[],s2,s3,s4,.map (some b),s6,s7,s8,v,i64 l.length,i64 i,s12,s13,s14,s15,s16,s17,s18,s19,s20,s21,s22,s23,s24,s25,s26] K := by
 intro r
 induction r with
 | nil =>
   intro i es ks K s2 s3 s4 s6 s7 s8 s12 s13 s14 s15 s16 s17 s18 s19 s20 s21 s22 s23 s24 s25 s26 hd hi hp ha hm hs hf
   have hle : l.length ≤ i := by simpa using hd
   rw [List.length_nil,L25x0q]
   have : ¬ i < l.length := by omega
   have hlen := ha.len (P := prog) (T := 23) (e := 9) (by simp)
   simp [strCells] at hlen
   have hml : aLen prog K 75 (.map (some b)) = some (i64 es.length) := by simp [aLen,hm]
   simp [this,hlen,hml]
   have := hk K hp
   rw [hw,onceB,← hf,List.foldl_nil,← hs.len] at this
   exact this
 | cons s r ih =>
   intro i es ks K s2 s3 s4 s6 s7 s8 s12 s13 s14 s15 s16 s17 s18 s19 s20 s21 s22 s23 s24 s25 s26 hd hi hp ha hm hs hf
   have hb : l[i]? = some s := by rw [← List.head?_drop,hd]; rfl
   have hlt : i < l.length := (List.getElem?_eq_some_iff.1 hb).1
   obtain ⟨q,hp1,hp2⟩ := ha.load1 (P := prog) (T := 23) (te := 9) (i := i) (x := str s) (by simp) (by simp) (by simp) (by simp [strCells,hb])
   rw [List.length_cons,L25x0q]
   simp only [aBin_lss,bnd_some,Int.ofNat_lt,hlt,decide_true,kifB_true,hp1,hp2]
   refine bndV_func (by simpa using c_itself K s) ?_
   obtain ⟨x,hx⟩ : ∃ n,aLookup prog K 75 (.map (some b)) (str s) false = some (i64 n) := by
    rw [aLookup_map,hm]
    simp only [tm75,Option.bind_some,mapOf_map,keyOk,if_true,hs.ok]
    rcases hs.get (k := s) with ⟨_,v,g1,n,rfl⟩ | ⟨_,g1⟩
    · rw [g1]; exact ⟨n,by simp⟩
    · rw [g1]; exact ⟨0,by simp [cok,isLit]⟩
   simp only [hx,bnd_some,aBin_add,aUpdate_map,hm,tm75,Option.bind_some,mapOf_map,keyOk,hs.ok,and_self,if_true,bndS_some,wrap_succ (show i + 1 < 2 ^ 63 by omega)]
   exact ih (i + 1) _ (addKey ks s) _ _ _ _ _ _ _ _ _ _ _ _ _ _ _ _ _ _ _ _ _ _ (by rw [← List.drop_drop,hd]; rfl) hlt (hp.set hbH) (ha.set (hcells_map hm)) (get_set hm) (hs.put ⟨_,rfl⟩) hf
theorem c_onceS {l : List (List UInt8)} {H : AHeap} {v : Value} (ha : Arr H 1 v (strCells l)) (hl : l.length < 2 ^ 63) : ACalls prog 25 [v,.func (.func 26) #[] #[]] H (.bool (onceB l)) H := by
 refine acalls_pure MixT func25 (by decide) rfl ?_
 rw [d25]
 have hlen := (ha.pre (.app H [.map []])).len (P := prog) (T := 23) (e := 9) (by simp)
 simp [strCells] at hlen
 simp [hlen]
 exact ⟨l.length + 1,onceS_loop (H := H) hl _ rfl (fun K p => ⟨rfl,p⟩) H.length (Nat.le_refl _) l 0 [] [] _ _ _ _ _ _ _ _ _ _ _ _ _ _ _ _ _ _ _ _ _ _ rfl (by omega) (.app _ _) (ha.pre (.app _ _)) (by simp) trivial rfl⟩
structure Rul where
 name : List UInt8
 byL : List UInt8
 nodes : List Nod
 forM : Int
 every : Int
 repeatM : Int
 mutes : List (List UInt8)
 route : List UInt8
def Rul.cells (r : Rul) (nv mv : Value) : List Value := [str r.name,str r.byL,nv,i64 r.forM,i64 r.every,i64 r.repeatM,mv,str r.route]
def Rul.mayB (r : Rul) : Bool := [mayName r.name,decide (r.byL = []) || mayName r.byL,mayName r.route,!decide (r.route = [109,101,116,97]),decide (r.forM ≥ 0) && decide (r.forM ≤ 1000),decide (r.every ≥ 1) && decide (r.every ≤ 100),
 decide (r.repeatM ≥ 1) && decide (r.repeatM ≤ 10000),decide ((r.mutes.length : Int) ≤ 4),!(r.mutes.any fun s => !mayName s),onceB r.mutes,right r.nodes].all id
theorem all_lit {H : AHeap} {l : List Bool} (hl : l.length < 2 ^ 63) : ACalls prog 20 [.slice (some ⟨H.length,0,some l.length⟩) l.length l.length] (H ++ [.cells (l.map .bool) 4]) (i64 (errno (l.all id))) (H ++ [.cells (l.map .bool) 4]) := by
 have := arr1_new (H := H) (T := 4) (l.map Value.bool) []
 simp only [List.length_map,List.map_map] at this
 exact c_all (l := l) (by simpa [boolCells,Function.comp_def] using this) hl
theorem c_rule {H : AHeap} {r : Rul} {nv mv : Value} (hn : NodesAt H nv r.nodes) (hm : Arr H 1 mv (strCells r.mutes)) (hml : r.mutes.length < 2 ^ 63) : ACalls prog 7 [.agg (r.cells nv mv).toArray] H (i64 (errno r.mayB)) H := by
 refine acalls_pure MixT func7 (by decide) rfl ?_
 rw [d7]
 have h1 : nv.oneCell' = true := by obtain ⟨cl,h,_⟩ := hn; exact h.one
 have h2 := hm.one
 have hlen := fun X => (hm.pre (.app H X)).len (P := prog) (T := 23) (e := 9) (by simp)
 simp [strCells] at hlen
 simp [aNew_agg,Rul.cells,h1,h2]
 refine bndD_same (c_mayName _ _) ?_
 simp +contextual
 refine bndD_gcall (.bool (mayName r.byL)) (by simp) (fun h => ?_) ?_
 · simp only [h,gsel_ff]; exact c_mayName _ _
 simp +contextual
 refine bndD_same (c_mayName _ _) ?_
 simp
 refine bndD_same (c_among _ _ _ _) ?_
 simp
 refine bndD_same (c_among _ _ _ _) ?_
 simp
 refine bndD_same (c_among _ _ _ _) ?_
 simp [hlen]
 refine bndD_same (c_containsS (hm.pre (.app _ _)) hml (c_rule1 _)) ?_
 simp
 refine bndD_same (c_onceS (hm.pre (.app _ _)) hml) ?_
 simp
 refine bndD_same (c_right (hn.pre (.app _ _))) ?_
 refine bndD_of (sliceLit1 (e := 4) (zv := .bool false) (l := [mayName r.name,decide (r.byL = []) || mayName r.byL,mayName r.route,!decide (r.route = [109,101,116,97]),decide (r.forM ≥ 0) && decide (r.forM ≤ 1000),decide (r.every ≥ 1) && decide (r.every ≤ 100),
  decide (r.repeatM ≥ 1) && decide (r.repeatM ≤ 10000),decide ((r.mutes.length : Int) ≤ 4),!(r.mutes.any fun s => !mayName s),onceB r.mutes,right r.nodes].map .bool) (by simp) (by simp) rfl (by simp)) (.inl rfl) ?_
 refine bndD_of (all_lit (by simp)) (.inl rfl) ?_
 exact ⟨rfl,_,List.append_assoc _ _ _⟩
end Go.Vi
namespace Go.Vi
open Go Go.Proofs Go.Proofs.Try
structure Mut where
 name : List UInt8
 days : List Bool
 fromM : Int
 toM : Int
def Mut.cells (m : Mut) : List Value := str m.name :: (m.days.map .bool ++ [i64 m.fromM,i64 m.toM])
def Mut.mayB (m : Mut) : Bool := [mayName m.name,m.days.any (true == ·),decide (m.fromM ≥ 0) && decide (m.fromM ≤ 1439),decide (m.toM ≥ 1) && decide (m.toM ≤ 1440),m.fromM != m.toM].all id
theorem Mut.one (m : Mut) : ∀ v ∈ m.cells,v.oneCell' = true := by
 intro v hv
 simp only [Mut.cells,List.mem_cons,List.mem_append,List.mem_map,List.not_mem_nil,or_false] at hv
 rcases hv with rfl | ⟨b,_,rfl⟩ | rfl | rfl <;> rfl
theorem c_mute {H : AHeap} {m : Mut} (hd : m.days.length = 7) : ACalls prog 9 [.agg m.cells.toArray] H (i64 (errno m.mayB)) H := by
 refine acalls_pure MixT func9 (by decide) rfl ?_
 rw [d9]
 obtain ⟨name,days,fr,to⟩ := m
 simp only at hd
 match days,hd with
 | [d0, d1, d2, d3, d4, d5, d6], _ =>
   simp [aNew_agg,Mut.cells]
   refine bndD_same (c_mayName _ _) ?_
   simp [aSliceOp,aLow,aHigh]
   refine bndD_same (c_containsB (l := [d0,d1,d2,d3,d4,d5,d6]) ?_ (by simp)) ?_
   · refine .mk _ _ _ _ _ _ _ rfl (by simp; rfl) rfl (by simp) fun i e he => ?_
     match i,he with
     | 0,he | 1,he | 2,he | 3,he | 4,he | 5,he | 6,he => simp [boolCells] at he; subst he; rfl
     | n + 7,he => simp [boolCells] at he
   simp
   refine bndD_same (c_among _ _ _ _) ?_
   simp
   refine bndD_same (c_among _ _ _ _) ?_
   simp
   refine bndD_of (sliceLit1 (e := 4) (zv := .bool false) (l := [mayName name,[d0,d1,d2,d3,d4,d5,d6].any (true == ·),decide (fr ≥ 0) && decide (fr ≤ 1439),decide (to ≥ 1) && decide (to ≤ 1440),fr != to].map .bool) (by simp) (by simp) rfl (by simp)) (.inl rfl) ?_
   refine bndD_of (all_lit (by simp)) (.inl rfl) ?_
   exact ⟨rfl,_,List.append_assoc _ _ _⟩
def widest (most : Int) : List Nod → Int
 | [] => most
 | n :: r => widest (if ((n.kind.toNat : Int) == 0) = true then (if n.window > most then n.window else most) else most) r
attribute [local simp] S11x0q
theorem window_loop {ns : List Nod} {H : AHeap} {v : Value} {k : Value → AHeap → Prop} (hl : ns.length < 2 ^ 63) (w : Int) (hk : ∀ K,Pre H K → k (i64 w) K) :
  ∀ (r : List Nod) (i : Nat) (most : Int) (K : AHeap) (s1 s2 s4 s5 s9 s10 s11 s12 s13 s14 s15 s16 s17 s18 s19 s20 : Value), ns.drop i = r → i ≤ ns.length → Pre H K → NodesAt K v ns → widest most r = w →
    L11x0 (r.length + 1) k [v,s1,s2,i64 most,s4,s5,v,i64 ns.length,i64 i,s9,s10,s11,s12,s13,s14,s15,s16,s17,s18,s19,s20] K := by
 intro r
 induction r with
 | nil =>
   intro i most K s1 s2 s4 s5 s9 s10 s11 s12 s13 s14 s15 s16 s17 s18 s19 s20 hd hi hp hn hw
   have hle : ns.length ≤ i := by simpa using hd
   rw [List.length_nil,L11x0q]
   have : ¬ i < ns.length := by omega
   simp [this]
   rw [← hw] at hk
   exact hk K hp
 | cons n r ih =>
   intro i most K s1 s2 s4 s5 s9 s10 s11 s12 s13 s14 s15 s16 s17 s18 s19 s20 hd hi hp hn hw
   have hb : ns[i]? = some n := by rw [← List.head?_drop,hd]; rfl
   have hlt : i < ns.length := (List.getElem?_eq_some_iff.1 hb).1
   have hnn := hn
   obtain ⟨cl,ha,hcl,hc⟩ := hn
   obtain ⟨sv,hsv,hm,hml⟩ := hc _ _ hb
   obtain ⟨p,hp1,hp2⟩ := ha.load (P := prog) (T := 22) (te := 50) (i := i) (e := n.cells sv) (by simp) (by simp) (by simp) hsv
   have hone := hm.one
   rw [List.length_cons,L11x0q]
   simp [hlt,hp1,hp2,Nod.cells,hone]
   simp only [widest] at hw
   refine kifB_bool (fun h => ?_) (fun h => ?_)
   · simp [show i + 1 < 2 ^ 63 by omega]
     exact ih (i + 1) _ _ _ _ _ _ _ _ _ _ _ _ _ _ _ _ _ _ (by rw [← List.drop_drop,hd]; rfl) hlt (hp.more _) (hnn.pre (.app _ _)) (by rw [h,if_pos rfl] at hw; exact hw)
   · simp [show i + 1 < 2 ^ 63 by omega]
     exact ih (i + 1) _ _ _ _ _ _ _ _ _ _ _ _ _ _ _ _ _ _ (by rw [← List.drop_drop,hd]; rfl) hlt (hp.more _) (hnn.pre (.app _ _)) (by rw [h,if_neg (by simp)] at hw; exact hw)
theorem c_window {ns : List Nod} {H : AHeap} {v : Value} (hn : NodesAt H v ns) (hl : ns.length < 2 ^ 63) : ACalls prog 11 [v] H (i64 (widest 0 ns)) H := by
 refine acalls_pure MixT func11 (by decide) rfl ?_
 rw [d11]
 simp [hn.len]
 exact ⟨ns.length + 1,window_loop (H := H) hl _ (fun K p => ⟨rfl,p⟩) ns 0 0 _ _ _ _ _ _ _ _ _ _ _ _ _ _ _ _ _ rfl (by omega) (.refl _) hn rfl⟩
structure Cfg where
 rules : List Rul
 mutes : List Mut
 late : Int
 limit : Int
end Go.Vi
namespace Go.Vi
open Go Go.Proofs Go.Proofs.Try
theorem max_lt {n : Nat} (h : n ≤ maxLen) : n < 2 ^ 63 := by unfold maxLen at h; omega
theorem map_ex {α β : Type} {g : α → β} : ∀ {l : List β},(∀ x ∈ l,∃ m,x = g m) → ∃ ms : List α,l = ms.map g := by
 intro l
 induction l with
 | nil => intro _; exact ⟨[],rfl⟩
 | cons x r ih =>
   intro h
   obtain ⟨m,rfl⟩ := h x (by simp)
   obtain ⟨ms,rfl⟩ := ih fun y hy => h y (by simp [hy])
   exact ⟨m :: ms,rfl⟩
theorem len3 {α : Type} {l : List α} (h : l.length = 3) : ∃ a b c,l = [a,b,c] := match l,h with
 | [a,b,c],_ => ⟨a,b,c,rfl⟩
theorem len7 {α : Type} {l : List α} (h : l.length = 7) : ∃ a b c d e f g,l = [a,b,c,d,e,f,g] := match l,h with
 | [a,b,c,d,e,f,g],_ => ⟨a,b,c,d,e,f,g,rfl⟩
theorem len8 {α : Type} {l : List α} (h : l.length = 8) : ∃ a b c d e f g i,l = [a,b,c,d,e,f,g,i] := match l,h with
 | [a,b,c,d,e,f,g,i],_ => ⟨a,b,c,d,e,f,g,i,rfl⟩
theorem ce_str : prog.cellsOf 9 = 1 := by kernel_rfl
theorem ce_u8 : prog.cellsOf 5 = 1 := by kernel_rfl
theorem ce_int : prog.cellsOf 3 = 1 := by kernel_rfl
theorem ce_i64 : prog.cellsOf 2 = 1 := by kernel_rfl
theorem ce_bool : prog.cellsOf 4 = 1 := by kernel_rfl
theorem ce_mats : prog.cellsOf 48 = 1 := by kernel_rfl
theorem ce_mat : prog.cellsOf 52 = 3 := by kernel_rfl
theorem ce_node : prog.cellsOf 50 = 8 := by kernel_rfl
theorem ce_days : prog.cellsOf 26 = 7 := by kernel_rfl
section
variable {H : AHeap} {f : Nat} {v : Value} {cs : List Value}
theorem rd_mat (h : Rd prog H (f + 2) 52 cs) : ∃ m : Mat,cs = m.cells := by
 obtain ⟨hl,hp⟩ := h.parts (ps := [(9,0),(5,1),(9,2)]) (by kernel_rfl)
 rw [ce_mat] at hl
 obtain ⟨x,y,z,rfl⟩ := len3 hl
 simp only [List.forall_mem_cons,ce_str,ce_u8] at hp
 obtain ⟨h0,h1,h2,_⟩ := hp
 obtain ⟨l0,e0,_⟩ := h0.str underlying9
 obtain ⟨b,e1,_⟩ := h1.int underlying5
 obtain ⟨l2,e2,_⟩ := h2.str underlying9
 simp at e0 e1 e2
 exact ⟨⟨l0,b,l2⟩,by simp [Mat.cells,e0,e1,e2]⟩
theorem rd_mats (h : Rd prog H (f + 3) 48 [v]) : ∃ ms,MatsAt H v ms ∧ ms.length < 2 ^ 63 := by
 obtain ⟨v',l,h1,h2,h3,h4⟩ := h.slice underlying48
 cases h1
 rw [ce_mat] at h2
 obtain ⟨ms,rfl⟩ := map_ex fun x hx => rd_mat (h4 x hx)
 exact ⟨ms,h2,by simpa using max_lt h3⟩
theorem rd_list {α : Type} {R : List Value → α → Prop} : ∀ {l : List (List Value)},(∀ x ∈ l,∃ a,R x a) → ∃ q : List α,l.length = q.length ∧ ∀ (i : Nat) a,q[i]? = some a → ∃ c,l[i]? = some c ∧ R c a := by
 intro l
 induction l with
 | nil => intro _; exact ⟨[],rfl,fun i a h => by simp at h⟩
 | cons x r ih =>
   intro h
   obtain ⟨a,ha⟩ := h x (by simp)
   obtain ⟨q,h1,h2⟩ := ih fun y hy => h y (by simp [hy])
   refine ⟨a :: q,by simp [h1],fun i b hb => ?_⟩
   cases i with
   | zero => simp at hb; subst hb; exact ⟨x,rfl,ha⟩
   | succ i => exact h2 i b (by simpa using hb)
abbrev parts_days : List (TypeId × Nat) := [(4,0),(4,1),(4,2),(4,3),(4,4),(4,5),(4,6)]
theorem rd_days (h : Rd prog H (f + 2) 26 cs) : ∃ d : List Bool,cs = d.map .bool ∧ d.length = 7 := by
 obtain ⟨hl,hp⟩ := h.parts (ps := parts_days) (by kernel_rfl)
 rw [ce_days] at hl
 obtain ⟨x0,x1,x2,x3,x4,x5,x6,rfl⟩ := len7 hl
 simp only [parts_days,List.forall_mem_cons,ce_bool] at hp
 obtain ⟨h0,h1,h2,h3,h4,h5,h6,_⟩ := hp
 obtain ⟨b0,e0⟩ := h0.bool underlying4
 obtain ⟨b1,e1⟩ := h1.bool underlying4
 obtain ⟨b2,e2⟩ := h2.bool underlying4
 obtain ⟨b3,e3⟩ := h3.bool underlying4
 obtain ⟨b4,e4⟩ := h4.bool underlying4
 obtain ⟨b5,e5⟩ := h5.bool underlying4
 obtain ⟨b6,e6⟩ := h6.bool underlying4
 simp at e0 e1 e2 e3 e4 e5 e6
 exact ⟨[b0,b1,b2,b3,b4,b5,b6],by simp [e0,e1,e2,e3,e4,e5,e6],rfl⟩
end
end Go.Vi
namespace Go.Vi
open Go Go.Proofs Go.Proofs.Try
theorem len10 {α : Type} {l : List α} (h : l.length = 10) : ∃ a d b c,l = a :: (d ++ [b,c]) ∧ d.length = 7 := match l,h with
 | [a,d0,d1,d2,d3,d4,d5,d6,b,c],_ => ⟨a,[d0,d1,d2,d3,d4,d5,d6],b,c,rfl,rfl⟩
theorem ce_strs : prog.cellsOf 23 = 1 := by kernel_rfl
theorem ce_nodes : prog.cellsOf 22 = 1 := by kernel_rfl
theorem ce_rule : prog.cellsOf 25 = 8 := by kernel_rfl
theorem ce_mute : prog.cellsOf 28 = 10 := by kernel_rfl
abbrev parts_rule : List (TypeId × Nat) := [(9,0),(9,1),(22,2),(3,3),(3,4),(3,5),(23,6),(9,7)]
abbrev parts_mute : List (TypeId × Nat) := [(9,0),(26,1),(3,8),(3,9)]
section
variable {H : AHeap} {f : Nat} {v : Value} {cs : List Value}
theorem rd_strs (h : Rd prog H (f + 2) 23 [v]) : ∃ l,Arr H 1 v (strCells l) ∧ l.length < 2 ^ 63 := by
 obtain ⟨v',l,h1,h2,h3,h4⟩ := h.slice underlying23
 cases h1
 rw [ce_str] at h2
 obtain ⟨ms,rfl⟩ := map_ex (g := fun s : List UInt8 => [Vi.str s]) fun x hx => by
  obtain ⟨s,e,_⟩ := (h4 x hx).str underlying9
  exact ⟨s,e⟩
 exact ⟨ms,h2,by simpa using max_lt h3⟩
theorem rd_mute (h : Rd prog H (f + 3) 28 cs) : ∃ m : Mut,cs = m.cells ∧ m.days.length = 7 := by
 obtain ⟨hl,hp⟩ := h.parts (ps := parts_mute) (by kernel_rfl)
 rw [ce_mute] at hl
 obtain ⟨x0,d,x2,x3,rfl,hd⟩ := len10 hl
 simp only [parts_mute,List.forall_mem_cons,ce_str,ce_int,ce_days] at hp
 obtain ⟨h0,h1,h2,h3,_⟩ := hp
 obtain ⟨b0,e0,_⟩ := h0.str underlying9
 have e1 : ((x0 :: (d ++ [x2,x3])).drop 1).take 7 = d := by simp [hd]
 rw [e1] at h1
 obtain ⟨ds,rfl,e1'⟩ := rd_days h1
 obtain ⟨b2,e2,_⟩ := h2.int underlying3
 obtain ⟨b3,e3,_⟩ := h3.int underlying3
 have e2' : ((x0 :: (ds.map Value.bool ++ [x2,x3])).drop 8).take 1 = [x2] := by simp at hd; simp [hd]
 have e3' : ((x0 :: (ds.map Value.bool ++ [x2,x3])).drop 9).take 1 = [x3] := by
  obtain ⟨d0,d1,d2,d3,d4,d5,d6,rfl⟩ := len7 e1'
  rfl
 rw [e2'] at e2
 rw [e3'] at e3
 simp at e0 e2 e3
 exact ⟨⟨b0,ds,b2,b3⟩,by simp [Mut.cells,e0,e2,e3],e1'⟩
end
end Go.Vi
namespace Go.Vi
open Go Go.RowKit Go.ChangeShapes Go.WideShapes Go.Proofs Go.Proofs.Try
theorem word_le {n : Int} (h : (Lit.int .i64 n).wf = true) : n < 2 ^ 63 := by
 have e2 : IntKind.i64.max = 9223372036854775807 := by decide
 simp only [Lit.wf,Bool.and_eq_true,decide_eq_true_eq,e2] at h
 omega
section
variable {H : AHeap} {f : Nat} {v : Value} {cs : List Value}
theorem rd_nodeW (h : Rd prog H (f + 4) 50 cs) : ∃ (n : Nod) (sv : Value),cs = n.cells sv ∧ MatsAt H sv n.sel ∧ n.sel.length < 2 ^ 63 ∧ n.window < 2 ^ 63 := by
 obtain ⟨hl,hp⟩ := h.parts (ps := [(5,0),(5,1),(48,2),(3,3),(5,4),(2,5),(3,6),(3,7)]) (by kernel_rfl)
 rw [ce_node] at hl
 obtain ⟨x0,x1,x2,x3,x4,x5,x6,x7,rfl⟩ := len8 hl
 simp only [List.forall_mem_cons,ce_u8,ce_int,ce_i64,ce_mats] at hp
 obtain ⟨h0,h1,h2,h3,h4,h5,h6,h7,_⟩ := hp
 obtain ⟨b0,e0⟩ := h0.byte underlying5
 obtain ⟨b1,e1⟩ := h1.byte underlying5
 obtain ⟨ms,e2,e2'⟩ := rd_mats h2
 obtain ⟨b3,e3,w3⟩ := h3.int underlying3
 obtain ⟨b4,e4⟩ := h4.byte underlying5
 obtain ⟨b5,e5,_⟩ := h5.int underlying2
 obtain ⟨b6,e6,_⟩ := h6.int underlying3
 obtain ⟨b7,e7,_⟩ := h7.int underlying3
 simp at e0 e1 e3 e4 e5 e6 e7
 exact ⟨⟨b0,b1,ms,b3,b4,b5,b6,b7⟩,x2,by simp [Nod.cells,e0,e1,e3,e4,e5,e6,e7],e2,e2',word_le w3⟩
theorem rd_nodesW (h : Rd prog H (f + 5) 22 [v]) : ∃ ns,NodesAt H v ns ∧ ∀ n ∈ ns,n.window < 2 ^ 63 := by
 obtain ⟨v',l,h1,h2,h3,h4⟩ := h.slice underlying22
 cases h1
 rw [ce_node] at h2
 obtain ⟨ns,q1,q2⟩ := rd_list (R := fun cs (n : Nod) => ∃ sv,cs = n.cells sv ∧ MatsAt H sv n.sel ∧ n.sel.length < 2 ^ 63 ∧ n.window < 2 ^ 63) fun x hx => rd_nodeW (h4 x hx)
 refine ⟨ns,⟨l,h2,q1,fun i n hi => ?_⟩,fun n hn => ?_⟩
 · obtain ⟨c,c1,sv,rfl,c2,c3,_⟩ := q2 i n hi
   exact ⟨sv,c1,c2,c3⟩
 · obtain ⟨i,hi⟩ := List.getElem?_of_mem hn
   obtain ⟨c,c1,sv,rfl,c2,c3,c4⟩ := q2 i n hi
   exact c4
end
end Go.Vi
namespace Go.Vi
open Go Go.Proofs Go.Proofs.Try
def Rul.win (r : Rul) : Prop := ∀ n ∈ r.nodes,n.window < 2 ^ 63
abbrev parts_ruleW := parts_rule
abbrev parts_muteW := parts_mute
section
variable {H : AHeap} {f : Nat} {v : Value} {cs : List Value}
theorem rd_ruleX (h : Rd prog H (f + 6) 25 cs) : ∃ (r : Rul) (nv mv : Value),cs = r.cells nv mv ∧ (NodesAt H nv r.nodes ∧ Arr H 1 mv (strCells r.mutes) ∧ r.mutes.length < 2 ^ 63) ∧ r.win := by
 obtain ⟨hl,hp⟩ := h.parts (ps := parts_rule) (by kernel_rfl)
 rw [ce_rule] at hl
 obtain ⟨x0,x1,x2,x3,x4,x5,x6,x7,rfl⟩ := len8 hl
 simp only [parts_rule,List.forall_mem_cons,ce_str,ce_int,ce_nodes,ce_strs] at hp
 obtain ⟨h0,h1,h2,h3,h4,h5,h6,h7,_⟩ := hp
 obtain ⟨b0,e0,_⟩ := h0.str underlying9
 obtain ⟨b1,e1,_⟩ := h1.str underlying9
 obtain ⟨ns,e2,w2⟩ := rd_nodesW h2
 obtain ⟨b3,e3,_⟩ := h3.int underlying3
 obtain ⟨b4,e4,_⟩ := h4.int underlying3
 obtain ⟨b5,e5,_⟩ := h5.int underlying3
 obtain ⟨ms,e6,e6'⟩ := rd_strs h6
 obtain ⟨b7,e7,_⟩ := h7.str underlying9
 simp at e0 e1 e3 e4 e5 e7
 exact ⟨⟨b0,b1,ns,b3,b4,b5,ms,b7⟩,x2,x6,by simp [Rul.cells,e0,e1,e3,e4,e5,e7],⟨e2,e6,e6'⟩,w2⟩
theorem rd_ruleW (h : Rd prog H (f + 6) 25 cs) : ∃ x : Rul × Value × Value,cs = x.1.cells x.2.1 x.2.2 ∧ (NodesAt H x.2.1 x.1.nodes ∧ Arr H 1 x.2.2 (strCells x.1.mutes) ∧ x.1.mutes.length < 2 ^ 63) ∧ x.1.win := by
 obtain ⟨r,nv,mv,h1,h2⟩ := rd_ruleX h
 exact ⟨⟨r,nv,mv⟩,h1,h2⟩
theorem rd_muteW (h : Rd prog H (f + 3) 28 cs) : ∃ m : Mut,cs = m.cells ∧ m.days.length = 7 := rd_mute h
end
end Go.Vi
namespace Go.Vi
open Go Go.Proofs
def bcells (s : List UInt8) : List Value := s.map byt
end Go.Vi
