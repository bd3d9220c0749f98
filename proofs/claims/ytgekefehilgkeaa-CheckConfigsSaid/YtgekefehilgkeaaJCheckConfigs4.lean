/- What the functions' bodies come to. Labels: names, values. Conditions: nodes. What may be: rules, mutes, configurations. What may be: mutes, configurations; the greatest window. Arguments: matchers, nodes, days, mutes, rules, configurations. Arguments: rules, mutes, configurations. Nodes as they are handed over, with their numbers. Rules, mutes, configurations as they are handed over, with their nodes' numbers. strings.Builder. One token. One token. All tokens. All tokens: the iterator, and the range over it. The reader of conditions: tokens. Numbers' texts. Reading a condition. Numbers' texts that are refused. Numbers are written: how many digits there are. What the functions' bodies come to. Numbers are written: digits. Numbers are written: their texts. Numbers are written: Itoa, TrimRight, fixed.Print. strings.Builder grows ahead; strings.Join. Matchers are written. Conditions are written. Right nodes are written: Print. The reader of conditions, whatever it reads: tokens. The reader of conditions, whatever it reads: windows, values, matchers. The reader of conditions, whatever it reads: matchers. The reader of conditions, whatever it reads: comparisons. Conditions, whatever is read. Read and Parse, whatever they read. The document's own answer: sorts of texts. The document's own answer: the longest token. The document's own answer: the longest token, by trial. A condition within a longer text: what the parser tells there. -/
import Derived.Test.YtgekefehilgkeaaJCheckConfigs2
import Derived.Test.YtgekefehilgkeaaChecked
import Derived.Test.YtgekefehilgkeaaJCheckConfigs3
namespace Go.Vi
open Go Go.Proofs Go.Proofs.Try
-- tocsin/tocsinref09.word
def L88x0 (n : Nat) (k : Value → AHeap → Prop) (sl : List Value) (H : AHeap) : Prop := kit prog (cl (cl (cr (cl (cr (cb Try.f88)))))) n (kblk 0 (kseq prog (cr (cr (cb Try.f88))) (kfin prog Try.f88 k))) .normal sl H
theorem d88 (a0 : Value) (H : AHeap) (k : Value → AHeap → Prop) : kbody prog Try.f88 [a0] H k = (∃ n,L88x0 n  k [a0,undef,(.bool false),(.int .i64 0),undef,undef,undef,undef,undef,undef,undef,undef,undef,undef,
 undef,undef,undef,undef,undef,undef,undef,undef,undef,undef,undef,undef,undef,undef,undef,undef] H) := by kernel_rfl
theorem L88x0q (n0 : Nat) (s0 s1 s2 s3 s4 s5 s6 s7 s8 s9 s10 s11 s12 s13 s14 s15 s16 s17 s18 s19 s20 s21 s22 s23 s24 s25 s26 s27 s28 s29 : Value) (H : AHeap) (k : Value → AHeap → Prop) : L88x0 (n0 + 1) k [s0,s1,s2,s3,s4,s5,
 s6,s7,s8,s9,s10,s11,s12,s13,s14,s15,s16,s17,s18,s19,s20,s21,s22,s23,s24,s25,s26,s27,s28,s29] H = (@bnd (aLen prog H 9 s0) ⟨fun v6x1 => @bnd (aBin2 prog H .lss 3 (.tmp 4) (.tmp 6) s3 v6x1) ⟨fun
 v7x2 => @kifB v7x2 ⟨@bnd (aBin2 prog H .add 3 (.tmp 12) (.const (.int .i64 1)) s3 (.int .i64 1)) ⟨fun v13x3 => @bnd (aSliceOp prog H 9 s0 (some s3) (some v13x3)) ⟨fun v14x4 => @bnd (aBin2 prog H .add 9 (.const
 (.string { data := #[97] })) (.tmp 14) (.string { data := #[97] }) v14x4) ⟨fun v15x5 => @bndC prog 46 [v15x5] H ⟨fun v16x6 H7 => @bnd (unV prog .not v16x6) ⟨fun v17x8 => @kifB v17x8 ⟨k (.bool false) H7⟩ ⟨@bnd (aBin2
 prog H7 .add 3 (.tmp 8) (.const (.int .i64 1)) s3 (.int .i64 1)) ⟨fun v9x9 => L88x0 n0  k [s0,s1,s2,v9x9,s3,s0,v6x1,v7x2,s3,v9x9,s0,s3,s3,v13x3,v14x4,v15x5,v16x6,v17x8,s18,s19,s20,s21,s22,s23,s24,
 s25,s26,s27,s28,s29] H7⟩⟩⟩⟩⟩⟩⟩⟩ ⟨@bnd (aBin2 prog H .neq 9 (.tmp 18) (.const (.string { data := #[] })) s0 (.string { data := #[] })) ⟨fun v19x10 => @bnd (gif v19x10 true ((some s0)) undef) ⟨fun v21x11 => @bnd (gif
 v19x10 true (aIndex prog 9 v21x11 (.int .i64 0)) undef) ⟨fun v22x12 => @bnd (gif v19x10 true (aBin2 prog H .geq 5 (.tmp 22) (.const (.int .u8 97)) v22x12 (.int .u8 97)) undef) ⟨fun v23x13 => @bnd (pickV v19x10 v23x13
 (.bool false)) ⟨fun v24x14 => @bnd (gif v24x14 true ((some s0)) undef) ⟨fun v26x15 => @bnd (gif v24x14 true (aIndex prog 9 v26x15 (.int .i64 0)) undef) ⟨fun v27x16 => @bnd (gif v24x14 true (aBin2 prog H .leq 5 (.tmp 27)
 (.const (.int .u8 122)) v27x16 (.int .u8 122)) undef) ⟨fun v28x17 => @bnd (pickV v24x14 v28x17 (.bool false)) ⟨fun v29x18 => k v29x18 H⟩⟩⟩⟩⟩⟩⟩⟩⟩⟩⟩⟩) := by kernel_rfl
-- tocsin/tocsinref09.number
def L89x0 (n : Nat) (k : Value → AHeap → Prop) (sl : List Value) (H : AHeap) : Prop := kit prog (cl (cl (cr (cl (cr (cb Try.f89)))))) n (kblk 0 (kseq prog (cr (cr (cb Try.f89))) (kfin prog Try.f89 k))) .normal sl H
theorem d89 (a0 : Value) (H : AHeap) (k : Value → AHeap → Prop) : kbody prog Try.f89 [a0] H k = (∃ n,L89x0 n  k [a0,undef,(.bool false),(.int .i64 0),undef,undef,undef,undef,undef,undef,undef,undef,undef,undef,
 undef,undef,undef,undef,undef,undef,undef,undef,undef,undef,undef,undef,undef] H) := by kernel_rfl
theorem L89x0q (n0 : Nat) (s0 s1 s2 s3 s4 s5 s6 s7 s8 s9 s10 s11 s12 s13 s14 s15 s16 s17 s18 s19 s20 s21 s22 s23 s24 s25 s26 : Value) (H : AHeap) (k : Value → AHeap → Prop) : L89x0 (n0 + 1) k [s0,s1,s2,s3,s4,s5,s6,s7,s8,
 s9,s10,s11,s12,s13,s14,s15,s16,s17,s18,s19,s20,s21,s22,s23,s24,s25,s26] H = (@bnd (aLen prog H 9 s0) ⟨fun v6x1 => @bnd (aBin2 prog H .lss 3 (.tmp 4) (.tmp 6) s3 v6x1) ⟨fun v7x2 => @kifB v7x2 ⟨@bnd
 (aIndex prog 9 s0 s3) ⟨fun v12x3 => @bnd (aBin2 prog H .eql 5 (.tmp 12) (.const (.int .u8 46)) v12x3 (.int .u8 46)) ⟨fun v13x4 => @kifB v13x4 ⟨@bnd (aSliceOp prog H 9 s0 none (some s3)) ⟨fun v16x5 => @bndC prog
 95 [v16x5] H ⟨fun v17x6 H7 => @bnd (gif v17x6 true ((some s0)) undef) ⟨fun v19x8 => @bnd (gif v17x6 true ((some s3)) undef) ⟨fun v20x9 => @bnd (gif v17x6 true (aBin2 prog H7 .add 3 (.tmp 20) (.const (.int .i64 1)) v20x9
 (.int .i64 1)) undef) ⟨fun v21x10 => @bnd (gif v17x6 true (aSliceOp prog H7 9 v19x8 (some v21x10) none) undef) ⟨fun v22x11 => @bndG v17x6 true H7 ⟨fun v23x12 H13 => ACalls prog 95 [v22x11] H7 v23x12 H13⟩ ⟨fun v23x12 H13
 => @bnd (pickV v17x6 v23x12 (.bool false)) ⟨fun v24x14 => k v24x14 H13⟩⟩⟩⟩⟩⟩⟩⟩⟩ ⟨@bnd (aBin2 prog H .add 3 (.tmp 8) (.const (.int .i64 1)) s3 (.int .i64 1)) ⟨fun v9x15 => L89x0 n0  k [s0,s1,s2,v9x15,s3,s0,v6x1,v7x2,
 s3,v9x15,s0,s3,v12x3,v13x4,s14,s15,s16,s17,s18,s19,s20,s21,s22,s23,s24,s25,s26] H⟩⟩⟩⟩⟩ ⟨@bndC prog 95 [s0] H ⟨fun v26x16 H17 => k v26x16 H17⟩⟩⟩⟩) := by kernel_rfl
-- tocsin/tocsinref09.sign
def L90x0 (n : Nat) (k : Value → AHeap → Prop) (sl : List Value) (H : AHeap) : Prop := kit prog (cl (cl (cr (cl (cr (cr (cb Try.f90))))))) n (kblk 0 (kseq prog (cr (cr (cr (cb Try.f90)))) (kfin prog Try.f90 k)))
 .normal sl H
theorem d90 (a0 : Value) (H : AHeap) (k : Value → AHeap → Prop) : kbody prog Try.f90 [a0] H k = (@bndL prog H 23 18 [(0,(.string { data := #[60,61] })),(1,(.string { data := #[62,61] })),(2,(.string { data := #[61,
 61] })),(3,(.string { data := #[33,61] })),(4,(.string { data := #[94,61] })),(5,(.string { data := #[123] })),(6,(.string { data := #[125] })),(7,(.string { data := #[40] })),(8,(.string { data := #[41] })),(9,
 (.string { data := #[91] })),(10,(.string { data := #[93] })),(11,(.string { data := #[44] })),(12,(.string { data := #[58] })),(13,(.string { data := #[59] })),(14,(.string { data := #[61] })),(15,(.string { data
 := #[60] })),(16,(.string { data := #[62] })),(17,(.string { data := #[45] }))] ⟨fun v5x1 H2 => ∃ n,L90x0 n  k [a0,undef,(.bool false),v5x1,(.int .i64 0),v5x1,undef,undef,undef,undef,undef,undef,undef,undef,
 undef,undef,undef,undef] H2⟩) := by kernel_rfl
theorem L90x0q (n0 : Nat) (s0 s1 s2 s3 s4 s5 s6 s7 s8 s9 s10 s11 s12 s13 s14 s15 s16 s17 : Value) (H : AHeap) (k : Value → AHeap → Prop) : L90x0 (n0 + 1) k [s0,s1,s2,s3,s4,s5,s6,s7,s8,s9,s10,s11,s12,s13,s14,s15,
 s16,s17] H = (@bnd (aLen prog H 23 s3) ⟨fun v8x3 => @bnd (aBin2 prog H .lss 3 (.tmp 6) (.tmp 8) s4 v8x3) ⟨fun v9x4 => @kifB v9x4 ⟨@bnd (aIndexAddr prog H 23 s3 s4) ⟨fun v14x5 => @bnd (aLoad prog H 9 v14x5) ⟨fun
 v15x6 => @bnd (aBin2 prog H .eql 9 (.tmp 15) (.tmp 16) v15x6 s0) ⟨fun v17x7 => @kifB v17x7 ⟨k (.bool true) H⟩ ⟨@bnd (aBin2 prog H .add 3 (.tmp 10) (.const (.int .i64 1)) s4 (.int .i64 1)) ⟨fun v11x8 => L90x0 n0  k [s0,
 s1,s2,s3,v11x8,s5,s4,s3,v8x3,v9x4,s4,v11x8,s3,s4,v14x5,v15x6,s0,v17x7] H⟩⟩⟩⟩⟩⟩ ⟨k (.bool false) H⟩⟩⟩) := by kernel_rfl
-- tocsin/tocsinref08.May
def L92x0 (n : Nat) (k : Value → AHeap → Prop) (sl : List Value) (H : AHeap) : Prop := kit prog (cl (cl (cr (cl (cr (cb Try.f92)))))) n (kblk 0 (kseq prog (cr (cr (cb Try.f92))) (kfin prog Try.f92 k))) .normal sl H
theorem d92 (a0 : Value) (H : AHeap) (k : Value → AHeap → Prop) : kbody prog Try.f92 [a0] H k = (∃ n,L92x0 n  k [a0,undef,(.bool false),(.int .i64 0),undef,undef,undef,undef,undef,undef,undef,undef,undef,undef,
 undef,undef,undef,undef,undef,undef,undef,undef,undef,undef,undef,undef,undef,undef,undef,undef,undef,undef,undef,undef,undef,undef,undef,undef,undef,undef,undef,undef,undef,undef,undef,undef] H)
 := by kernel_rfl
theorem L92x0q (n0 : Nat) (s0 s1 s2 s3 s4 s5 s6 s7 s8 s9 s10 s11 s12 s13 s14 s15 s16 s17 s18 s19 s20 s21 s22 s23 s24 s25 s26 s27 s28 s29 s30 s31 s32 s33 s34 s35 s36 s37 s38 s39 s40 s41 s42 s43 s44 s45 : Value) (H : AHeap) (k :
 Value → AHeap → Prop) : L92x0 (n0 + 1) k [s0,s1,s2,s3,s4,s5,s6,s7,s8,s9,s10,s11,s12,s13,s14,s15,s16,s17,s18,s19,s20,s21,s22,s23,s24,s25,s26,s27,s28,s29,s30,s31,s32,s33,s34,s35,s36,s37,s38,
 s39,s40,s41,s42,s43,s44,s45] H = (@bnd (aLen prog H 48 s0) ⟨fun v6x1 => @bnd (aBin2 prog H .lss 3 (.tmp 4) (.tmp 6) s3 v6x1) ⟨fun v7x2 => @kifB v7x2 ⟨@bnd (aIndexAddr prog H 48 s0 s3) ⟨fun v12x3 => @bnd
 (aFieldAddr prog H 52 v12x3 1) ⟨fun v13x4 => @bnd (aLoad prog H 5 v13x4) ⟨fun v14x5 => @bnd (aBin2 prog H .gtr 5 (.tmp 14) (.const (.int .u8 2)) v14x5 (.int .u8 2)) ⟨fun v15x6 => @bnd (gif v15x6 false ((some s0))
 undef) ⟨fun v17x7 => @bnd (gif v15x6 false ((some s3)) undef) ⟨fun v18x8 => @bnd (gif v15x6 false (aIndexAddr prog H 48 v17x7 v18x8) undef) ⟨fun v19x9 => @bnd (gif v15x6 false (aFieldAddr prog H 52 v19x9 0) undef) ⟨fun
 v20x10 => @bnd (gif v15x6 false (aLoad prog H 9 v20x10) undef) ⟨fun v21x11 => @bndG v15x6 false H ⟨fun v22x12 H13 => ACalls prog 46 [v21x11] H v22x12 H13⟩ ⟨fun v22x12 H13 => @bnd (gif v15x6 false (unV prog .not
 v22x12) undef) ⟨fun v23x14 => @bnd (pickV v15x6 (.bool true) v23x14) ⟨fun v24x15 => @bnd (gif v24x15 false ((some s0)) undef) ⟨fun v26x16 => @bnd (gif v24x15 false ((some s3)) undef) ⟨fun v27x17 => @bnd (gif v24x15 false
 (aIndexAddr prog H13 48 v26x16 v27x17) undef) ⟨fun v28x18 => @bnd (gif v24x15 false (aFieldAddr prog H13 52 v28x18 2) undef) ⟨fun v29x19 => @bnd (gif v24x15 false (aLoad prog H13 9 v29x19) undef) ⟨fun v30x20 => @bnd
 (gif v24x15 false (aLen prog H13 9 v30x20) undef) ⟨fun v31x21 => @bnd (gif v24x15 false (aBin2 prog H13 .gtr 3 (.tmp 31) (.const (.int .i64 32)) v31x21 (.int .i64 32)) undef) ⟨fun v32x22 => @bnd (pickV v24x15 (.bool
 true) v32x22) ⟨fun v33x23 => @bnd (gif v33x23 false ((some s0)) undef) ⟨fun v35x24 => @bnd (gif v33x23 false ((some s3)) undef) ⟨fun v36x25 => @bnd (gif v33x23 false (aIndexAddr prog H13 48 v35x24 v36x25) undef) ⟨fun v37x26
 => @bnd (gif v33x23 false (aFieldAddr prog H13 52 v37x26 2) undef) ⟨fun v38x27 => @bnd (gif v33x23 false (aLoad prog H13 9 v38x27) undef) ⟨fun v39x28 => @bndG v33x23 false H13 ⟨fun v40x29 H30 => ACalls prog 85
 [v39x28] H13 v40x29 H30⟩ ⟨fun v40x29 H30 => @bnd (gif v33x23 false (unV prog .not v40x29) undef) ⟨fun v41x31 => @bnd (pickV v33x23 (.bool true) v41x31) ⟨fun v42x32 => @kifB v42x32 ⟨k (.bool false) H30⟩ ⟨@bnd (aBin2 prog
 H30 .add 3 (.tmp 8) (.const (.int .i64 1)) s3 (.int .i64 1)) ⟨fun v9x33 => L92x0 n0  k [s0,s1,s2,v9x33,s3,s0,v6x1,v7x2,s3,v9x33,s0,s3,v12x3,v13x4,v14x5,v15x6,v15x6,v17x7,v18x8,v19x9,v20x10,v21x11,v22x12,
 v23x14,v24x15,v24x15,v26x16,v27x17,v28x18,v29x19,v30x20,v31x21,v32x22,v33x23,v33x23,v35x24,v36x25,v37x26,v38x27,v39x28,v40x29,v41x31,v42x32,s43,s44,s45] H30⟩⟩⟩⟩⟩⟩⟩⟩⟩⟩⟩⟩⟩⟩⟩⟩⟩⟩⟩⟩⟩⟩⟩⟩⟩⟩⟩⟩⟩⟩⟩ ⟨@bnd (aLen
 prog H 48 s0) ⟨fun v44x34 => @bnd (aBin2 prog H .leq 3 (.tmp 44) (.const (.int .i64 6)) v44x34 (.int .i64 6)) ⟨fun v45x35 => k v45x35 H⟩⟩⟩⟩⟩) := by kernel_rfl
-- tocsin/tocsinref10.window
def L93x0 (n : Nat) (k : Value → AHeap → Prop) (sl : List Value) (H : AHeap) : Prop := kit prog (cl (cl (cr (cl (cr (cr (cb Try.f93))))))) n (kblk 0 (kseq prog (cr (cr (cr (cb Try.f93)))) (kfin prog Try.f93 k)))
 .normal sl H
theorem d93 (a0 : Value) (H : AHeap) (k : Value → AHeap → Prop) : kbody prog Try.f93 [a0] H k = (∃ n,L93x0 n  k [a0,undef,(.int .i64 0),(.int .i64 0),(.int .i64 0),undef,undef,undef,undef,undef,undef,undef,undef,
 undef,undef,undef,undef,undef,undef,undef,undef,undef,undef,undef,undef,undef,undef,undef,undef,undef,undef,undef,undef,undef,undef,undef] H) := by kernel_rfl
theorem L93x0q (n0 : Nat) (s0 s1 s2 s3 s4 s5 s6 s7 s8 s9 s10 s11 s12 s13 s14 s15 s16 s17 s18 s19 s20 s21 s22 s23 s24 s25 s26 s27 s28 s29 s30 s31 s32 s33 s34 s35 : Value) (H : AHeap) (k : Value → AHeap → Prop) : L93x0 (n0 + 1) k
 [s0,s1,s2,s3,s4,s5,s6,s7,s8,s9,s10,s11,s12,s13,s14,s15,s16,s17,s18,s19,s20,s21,s22,s23,s24,s25,s26,s27,s28,s29,s30,s31,s32,s33,s34,s35] H = (@bnd (aLen prog H 9 s0) ⟨fun v7x1 => @bnd
 (aBin2 prog H .lss 3 (.tmp 5) (.tmp 7) s4 v7x1) ⟨fun v8x2 => @kifB v8x2 ⟨@bnd (aIndex prog 9 s0 s4) ⟨fun v13x3 => @bnd (aBin2 prog H .lss 5 (.tmp 13) (.const (.int .u8 48)) v13x3 (.int .u8 48)) ⟨fun v14x4 => @bnd
 (gif v14x4 false ((some s0)) undef) ⟨fun v16x5 => @bnd (gif v14x4 false ((some s4)) undef) ⟨fun v17x6 => @bnd (gif v14x4 false (aIndex prog 9 v16x5 v17x6) undef) ⟨fun v18x7 => @bnd (gif v14x4 false (aBin2 prog H .gtr 5
 (.tmp 18) (.const (.int .u8 57)) v18x7 (.int .u8 57)) undef) ⟨fun v19x8 => @bnd (pickV v14x4 (.bool true) v19x8) ⟨fun v20x9 => @bnd (gif v20x9 false ((some s3)) undef) ⟨fun v22x10 => @bnd (gif v20x9 false (aBin2 prog H .gtr
 3 (.tmp 22) (.const (.int .i64 1000)) v22x10 (.int .i64 1000)) undef) ⟨fun v23x11 => @bnd (pickV v20x9 (.bool true) v23x11) ⟨fun v24x12 => @kifB v24x12 ⟨k (.int .i64 0) H⟩ ⟨@bnd (aBin2 prog H .mul 3 (.const (.int .i64 10))
 (.tmp 25) (.int .i64 10) s3) ⟨fun v26x13 => @bnd (aIndex prog 9 s0 s4) ⟨fun v29x14 => @bnd (aBin2 prog H .sub 5 (.tmp 29) (.const (.int .u8 48)) v29x14 (.int .u8 48)) ⟨fun v30x15 => @bnd (convV prog H 5 3 v30x15)
 ⟨fun v31x16 => @bnd (aBin2 prog H .add 3 (.tmp 26) (.tmp 31) v26x13 v31x16) ⟨fun v32x17 => @bnd (aBin2 prog H .add 3 (.tmp 9) (.const (.int .i64 1)) s4 (.int .i64 1)) ⟨fun v10x18 => L93x0 n0  k [s0,s1,s2,v32x17,
 v10x18,s4,s0,v7x1,v8x2,s4,v10x18,s0,s4,v13x3,v14x4,v14x4,v16x5,v17x6,v18x7,v19x8,v20x9,v20x9,v22x10,v23x11,v24x12,s3,v26x13,s0,s4,v29x14,v30x15,v31x16,v32x17,s33,s34,s35] H⟩⟩⟩⟩⟩⟩⟩⟩⟩⟩⟩⟩⟩⟩⟩⟩⟩⟩ ⟨@bnd
 (aBin2 prog H .gtr 3 (.tmp 33) (.const (.int .i64 1000)) s3 (.int .i64 1000)) ⟨fun v34x19 => @kifB v34x19 ⟨k (.int .i64 0) H⟩ ⟨k s3 H⟩⟩⟩⟩⟩) := by kernel_rfl
-- tocsin/tocsinref01.Parse
def S94x0 (k : Value → AHeap → Prop) (sl : List Value) (H : AHeap) : Prop := kseq prog (cr (cr (cr (cr (cb Try.f94))))) (kfin prog Try.f94 k) .normal sl H
def L94x0 (n : Nat) (k : Value → AHeap → Prop) (sl : List Value) (H : AHeap) : Prop := kit prog (cl (cl (cl (cr (cr (cr (cr (cr (cr (cb Try.f94)))))))))) n (kblk 0 (kseq prog (cr (cr (cr (cr (cr (cr (cr (cb
 Try.f94)))))))) (kfin prog Try.f94 k))) .normal sl H
def L94x1 (n : Nat) (k : Value → AHeap → Prop) (sl : List Value) (H : AHeap) : Prop := kit prog (cl (cl (cl (cr (cl (cr (cl (cr (cr (cr (cr (cr (cr (cr (cr (cb Try.f94)))))))))))))))) n (kblk 2 (kseq prog (cr (cr (cl (cr
 (cl (cr (cr (cr (cr (cr (cr (cr (cr (cb Try.f94)))))))))))))) (kseq prog (cr (cr (cr (cr (cr (cr (cr (cr (cr (cb Try.f94)))))))))) (kfin prog Try.f94 k)))) .normal sl H
def S94x1 (k : Value → AHeap → Prop) (sl : List Value) (H : AHeap) : Prop := kseq prog (cr (cr (cr (cr (cr (cr (cr (cr (cr (cb Try.f94)))))))))) (kfin prog Try.f94 k) .normal sl H
def L94x2 (n : Nat) (k : Value → AHeap → Prop) (sl : List Value) (H : AHeap) : Prop := kit prog (cl (cl (cl (cr (cr (cr (cr (cr (cr (cr (cr (cr (cr (cb Try.f94)))))))))))))) n (kblk 4 (kseq prog (cr (cr (cr (cr (cr (cr
 (cr (cr (cr (cr (cr (cb Try.f94)))))))))))) (kfin prog Try.f94 k))) .normal sl H
theorem d94 (a0 : Value) (H : AHeap) (k : Value → AHeap → Prop) : kbody prog Try.f94 [a0] H k = (@bnd (aLen prog H 9 a0) ⟨fun v10x1 => @bnd (aBin2 prog H .gtr 3 (.tmp 10) (.const (.int .i64 0)) v10x1 (.int .i64 0))
 ⟨fun v11x2 => @bnd (gif v11x2 true ((some a0)) undef) ⟨fun v13x3 => @bnd (gif v11x2 true (aIndex prog 9 v13x3 (.int .i64 0)) undef) ⟨fun v14x4 => @bnd (gif v11x2 true (aBin2 prog H .eql 5 (.tmp 14) (.const (.int .u8
 45)) v14x4 (.int .u8 45)) undef) ⟨fun v15x5 => @bnd (pickV v11x2 v15x5 (.bool false)) ⟨fun v16x6 => @kifB v16x6 ⟨S94x0  k [a0,undef,(.int .i64 0),(.int .i64 0),(.int .i64 1),v16x6,undef,undef,undef,a0,v10x1,v11x2,
 v11x2,v13x3,v14x4,v15x5,v16x6,v16x6,undef,undef,undef,undef,undef,undef,undef,undef,undef,undef,undef,undef,undef,undef,undef,undef,undef,undef,undef,undef,undef,undef,undef,undef,undef,undef,
 undef,undef,undef,undef,undef,undef,undef,undef,undef,undef,undef,undef,undef,undef,undef,undef,undef,undef,undef,undef,undef,undef,undef,undef,undef,undef,undef,undef,undef,undef,undef,undef,
 undef,undef,undef,undef,undef,undef,undef,undef,undef,undef,undef,undef,undef,undef,undef,undef] H⟩ ⟨S94x0  k [a0,undef,(.int .i64 0),(.int .i64 0),(.int .i64 0),v16x6,undef,undef,undef,a0,v10x1,v11x2,
 v11x2,v13x3,v14x4,v15x5,v16x6,v16x6,undef,undef,undef,undef,undef,undef,undef,undef,undef,undef,undef,undef,undef,undef,undef,undef,undef,undef,undef,undef,undef,undef,undef,undef,undef,undef,
 undef,undef,undef,undef,undef,undef,undef,undef,undef,undef,undef,undef,undef,undef,undef,undef,undef,undef,undef,undef,undef,undef,undef,undef,undef,undef,undef,undef,undef,undef,undef,undef,
 undef,undef,undef,undef,undef,undef,undef,undef,undef,undef,undef,undef,undef,undef,undef,undef] H⟩⟩⟩⟩⟩⟩⟩) := by kernel_rfl
theorem S94x0q (s0 s1 s2 s3 s4 s5 s6 s7 s8 s9 s10 s11 s12 s13 s14 s15 s16 s17 s18 s19 s20 s21 s22 s23 s24 s25 s26 s27 s28 s29 s30 s31 s32 s33 s34 s35 s36 s37 s38 s39 s40 s41 s42 s43 s44 s45 s46 s47 s48 s49 s50 s51 s52 s53 s54 s55
 s56 s57 s58 s59 s60 s61 s62 s63 s64 s65 s66 s67 s68 s69 s70 s71 s72 s73 s74 s75 s76 s77 s78 s79 s80 s81 s82 s83 s84 s85 s86 s87 s88 s89 s90 s91 : Value) (H : AHeap) (k : Value → AHeap → Prop) : S94x0 k [s0,s1,s2,s3,s4,s5,
 s6,s7,s8,s9,s10,s11,s12,s13,s14,s15,s16,s17,s18,s19,s20,s21,s22,s23,s24,s25,s26,s27,s28,s29,s30,s31,s32,s33,s34,s35,s36,s37,s38,s39,s40,s41,s42,s43,s44,s45,s46,s47,s48,s49,s50,s51,
 s52,s53,s54,s55,s56,s57,s58,s59,s60,s61,s62,s63,s64,s65,s66,s67,s68,s69,s70,s71,s72,s73,s74,s75,s76,s77,s78,s79,s80,s81,s82,s83,s84,s85,s86,s87,s88,s89,s90,s91] H = (∃ n,L94x0 n  k [s0,
 s1,s2,s3,s4,s5,(.int .i64 0),(.int .i64 0),s8,s9,s10,s11,s12,s13,s14,s15,s16,s17,s18,s19,s20,s21,s22,s23,s24,s25,s26,s27,s28,s29,s30,s31,s32,s33,s34,s35,s36,s37,s38,s39,s40,s41,s42,s43,
 s44,s45,s46,s47,s48,s49,s50,s51,s52,s53,s54,s55,s56,s57,s58,s59,s60,s61,s62,s63,s64,s65,s66,s67,s68,s69,s70,s71,s72,s73,s74,s75,s76,s77,s78,s79,s80,s81,s82,s83,s84,s85,s86,s87,s88,
 s89,s90,s91] H) := by kernel_rfl
theorem L94x0q (n0 : Nat) (s0 s1 s2 s3 s4 s5 s6 s7 s8 s9 s10 s11 s12 s13 s14 s15 s16 s17 s18 s19 s20 s21 s22 s23 s24 s25 s26 s27 s28 s29 s30 s31 s32 s33 s34 s35 s36 s37 s38 s39 s40 s41 s42 s43 s44 s45 s46 s47 s48 s49 s50 s51 s52
 s53 s54 s55 s56 s57 s58 s59 s60 s61 s62 s63 s64 s65 s66 s67 s68 s69 s70 s71 s72 s73 s74 s75 s76 s77 s78 s79 s80 s81 s82 s83 s84 s85 s86 s87 s88 s89 s90 s91 : Value) (H : AHeap) (k : Value → AHeap → Prop) : L94x0 (n0 + 1) k [s0,
 s1,s2,s3,s4,s5,s6,s7,s8,s9,s10,s11,s12,s13,s14,s15,s16,s17,s18,s19,s20,s21,s22,s23,s24,s25,s26,s27,s28,s29,s30,s31,s32,s33,s34,s35,s36,s37,s38,s39,s40,s41,s42,s43,s44,s45,s46,s47,
 s48,s49,s50,s51,s52,s53,s54,s55,s56,s57,s58,s59,s60,s61,s62,s63,s64,s65,s66,s67,s68,s69,s70,s71,s72,s73,s74,s75,s76,s77,s78,s79,s80,s81,s82,s83,s84,s85,s86,s87,s88,s89,s90,s91] H =
 (@bnd (aLen prog H 9 s0) ⟨fun v20x7 => @bnd (aBin2 prog H .lss 3 (.tmp 18) (.tmp 20) s4 v20x7) ⟨fun v21x8 => @bnd (gif v21x8 true ((some s0)) undef) ⟨fun v23x9 => @bnd (gif v21x8 true ((some s4)) undef) ⟨fun v24x10 =>
 @bnd (gif v21x8 true (aIndex prog 9 v23x9 v24x10) undef) ⟨fun v25x11 => @bndG v21x8 true H ⟨fun v26x12 H13 => ACalls prog 97 [v25x11] H v26x12 H13⟩ ⟨fun v26x12 H13 => @bnd (pickV v21x8 v26x12 (.bool false)) ⟨fun v27x14
 => @kifB v27x14 ⟨@bnd (aIndex prog 9 s0 s4) ⟨fun v31x15 => @bndC prog 98 [s6,v31x15] H13 ⟨fun v32x16 H17 => @bnd (aBin2 prog H17 .add 3 (.tmp 33) (.const (.int .i64 1)) s7 (.int .i64 1)) ⟨fun v34x18 => @bnd (aBin2
 prog H17 .add 3 (.tmp 35) (.const (.int .i64 1)) s4 (.int .i64 1)) ⟨fun v36x19 => L94x0 n0  k [s0,s1,s2,s3,v36x19,s5,v32x16,v34x18,s8,s9,s10,s11,s12,s13,s14,s15,s16,s17,s4,s0,v20x7,v21x8,v21x8,v23x9,
 v24x10,v25x11,v26x12,v27x14,s6,s0,s4,v31x15,v32x16,s7,v34x18,s4,v36x19,s37,s38,s39,s40,s41,s42,s43,s44,s45,s46,s47,s48,s49,s50,s51,s52,s53,s54,s55,s56,s57,s58,s59,s60,s61,s62,s63,s64,
 s65,s66,s67,s68,s69,s70,s71,s72,s73,s74,s75,s76,s77,s78,s79,s80,s81,s82,s83,s84,s85,s86,s87,s88,s89,s90,s91] H17⟩⟩⟩⟩⟩ ⟨@bnd (aLen prog H13 9 s0) ⟨fun v39x20 => @bnd (aBin2 prog H13 .lss 3 (.tmp
 37) (.tmp 39) s4 v39x20) ⟨fun v40x21 => @bnd (gif v40x21 true ((some s0)) undef) ⟨fun v42x22 => @bnd (gif v40x21 true ((some s4)) undef) ⟨fun v43x23 => @bnd (gif v40x21 true (aIndex prog 9 v42x22 v43x23) undef) ⟨fun v44x24
 => @bnd (gif v40x21 true (aBin2 prog H13 .eql 5 (.tmp 44) (.const (.int .u8 46)) v44x24 (.int .u8 46)) undef) ⟨fun v45x25 => @bnd (pickV v40x21 v45x25 (.bool false)) ⟨fun v46x26 => @kifB v46x26 ⟨@bnd (aBin2 prog H13
 .add 3 (.tmp 47) (.const (.int .i64 1)) s4 (.int .i64 1)) ⟨fun v48x27 => ∃ n,L94x1 n  k [s0,s1,s2,s3,v48x27,s5,s6,s7,(.int .i64 0),s9,s10,s11,s12,s13,s14,s15,s16,s17,s4,s0,v20x7,v21x8,v21x8,v23x9,
 v24x10,v25x11,v26x12,v27x14,s28,s29,s30,s31,s32,s33,s34,s35,s36,s4,s0,v39x20,v40x21,v40x21,v42x22,v43x23,v44x24,v45x25,v46x26,s4,v48x27,s49,s50,s51,s52,s53,s54,s55,s56,s57,s58,s59,s60,s61,
 s62,s63,s64,s65,s66,s67,s68,s69,s70,s71,s72,s73,s74,s75,s76,s77,s78,s79,s80,s81,s82,s83,s84,s85,s86,s87,s88,s89,s90,s91] H13⟩⟩ ⟨S94x1  k [s0,s1,s2,s3,s4,s5,s6,s7,(.int .i64 0),s9,s10,s11,
 s12,s13,s14,s15,s16,s17,s4,s0,v20x7,v21x8,v21x8,v23x9,v24x10,v25x11,v26x12,v27x14,s28,s29,s30,s31,s32,s33,s34,s35,s36,s4,s0,v39x20,v40x21,v40x21,v42x22,v43x23,v44x24,v45x25,v46x26,s47,s48,
 s49,s50,s51,s52,s53,s54,s55,s56,s57,s58,s59,s60,s61,s62,s63,s64,s65,s66,s67,s68,s69,s70,s71,s72,s73,s74,s75,s76,s77,s78,s79,s80,s81,s82,s83,s84,s85,s86,s87,s88,s89,s90,s91]
 H13⟩⟩⟩⟩⟩⟩⟩⟩⟩⟩⟩⟩⟩⟩⟩⟩) := by kernel_rfl
theorem L94x1q (n1 : Nat) (s0 s1 s2 s3 s4 s5 s6 s7 s8 s9 s10 s11 s12 s13 s14 s15 s16 s17 s18 s19 s20 s21 s22 s23 s24 s25 s26 s27 s28 s29 s30 s31 s32 s33 s34 s35 s36 s37 s38 s39 s40 s41 s42 s43 s44 s45 s46 s47 s48 s49 s50 s51 s52
 s53 s54 s55 s56 s57 s58 s59 s60 s61 s62 s63 s64 s65 s66 s67 s68 s69 s70 s71 s72 s73 s74 s75 s76 s77 s78 s79 s80 s81 s82 s83 s84 s85 s86 s87 s88 s89 s90 s91 : Value) (H : AHeap) (k : Value → AHeap → Prop) : L94x1 (n1 + 1) k [s0,
 s1,s2,s3,s4,s5,s6,s7,s8,s9,s10,s11,s12,s13,s14,s15,s16,s17,s18,s19,s20,s21,s22,s23,s24,s25,s26,s27,s28,s29,s30,s31,s32,s33,s34,s35,s36,s37,s38,s39,s40,s41,s42,s43,s44,s45,s46,s47,
 s48,s49,s50,s51,s52,s53,s54,s55,s56,s57,s58,s59,s60,s61,s62,s63,s64,s65,s66,s67,s68,s69,s70,s71,s72,s73,s74,s75,s76,s77,s78,s79,s80,s81,s82,s83,s84,s85,s86,s87,s88,s89,s90,s91] H =
 (@bnd (aLen prog H 9 s0) ⟨fun v51x28 => @bnd (aBin2 prog H .lss 3 (.tmp 49) (.tmp 51) s4 v51x28) ⟨fun v52x29 => @bnd (gif v52x29 true ((some s0)) undef) ⟨fun v54x30 => @bnd (gif v52x29 true ((some s4)) undef) ⟨fun
 v55x31 => @bnd (gif v52x29 true (aIndex prog 9 v54x30 v55x31) undef) ⟨fun v56x32 => @bndG v52x29 true H ⟨fun v57x33 H34 => ACalls prog 97 [v56x32] H v57x33 H34⟩ ⟨fun v57x33 H34 => @bnd (pickV v52x29 v57x33 (.bool
 false)) ⟨fun v58x35 => @kifB v58x35 ⟨@bnd (aIndex prog 9 s0 s4) ⟨fun v62x36 => @bndC prog 98 [s6,v62x36] H34 ⟨fun v63x37 H38 => @bnd (aBin2 prog H38 .add 3 (.tmp 64) (.const (.int .i64 1)) s8 (.int .i64 1)) ⟨fun
 v65x39 => @bnd (aBin2 prog H38 .add 3 (.tmp 66) (.const (.int .i64 1)) s4 (.int .i64 1)) ⟨fun v67x40 => L94x1 n1  k [s0,s1,s2,s3,v67x40,s5,v63x37,s7,v65x39,s9,s10,s11,s12,s13,s14,s15,s16,s17,s18,s19,s20,
 s21,s22,s23,s24,s25,s26,s27,s28,s29,s30,s31,s32,s33,s34,s35,s36,s37,s38,s39,s40,s41,s42,s43,s44,s45,s46,s47,s48,s4,s0,v51x28,v52x29,v52x29,v54x30,v55x31,v56x32,v57x33,v58x35,s6,s0,s4,
 v62x36,v63x37,s8,v65x39,s4,v67x40,s68,s69,s70,s71,s72,s73,s74,s75,s76,s77,s78,s79,s80,s81,s82,s83,s84,s85,s86,s87,s88,s89,s90,s91] H38⟩⟩⟩⟩⟩ ⟨@bnd (aBin2 prog H34 .eql 3 (.tmp 68) (.const (.int
 .i64 0)) s8 (.int .i64 0)) ⟨fun v69x41 => @kifB v69x41 ⟨k (.tuple #[(.int .i64 0),(.int .i64 10)]) H34⟩ ⟨S94x1  k [s0,s1,s2,s3,s4,s5,s6,s7,s8,s9,s10,s11,s12,s13,s14,s15,s16,s17,s18,s19,s20,s21,s22,s23,
 s24,s25,s26,s27,s28,s29,s30,s31,s32,s33,s34,s35,s36,s37,s38,s39,s40,s41,s42,s43,s44,s45,s46,s47,s48,s4,s0,v51x28,v52x29,v52x29,v54x30,v55x31,v56x32,v57x33,v58x35,s59,s60,s61,s62,s63,s64,
 s65,s66,s67,s8,v69x41,s70,s71,s72,s73,s74,s75,s76,s77,s78,s79,s80,s81,s82,s83,s84,s85,s86,s87,s88,s89,s90,s91] H34⟩⟩⟩⟩⟩⟩⟩⟩⟩⟩) := by kernel_rfl
theorem S94x1q (s0 s1 s2 s3 s4 s5 s6 s7 s8 s9 s10 s11 s12 s13 s14 s15 s16 s17 s18 s19 s20 s21 s22 s23 s24 s25 s26 s27 s28 s29 s30 s31 s32 s33 s34 s35 s36 s37 s38 s39 s40 s41 s42 s43 s44 s45 s46 s47 s48 s49 s50 s51 s52 s53 s54 s55
 s56 s57 s58 s59 s60 s61 s62 s63 s64 s65 s66 s67 s68 s69 s70 s71 s72 s73 s74 s75 s76 s77 s78 s79 s80 s81 s82 s83 s84 s85 s86 s87 s88 s89 s90 s91 : Value) (H : AHeap) (k : Value → AHeap → Prop) : S94x1 k [s0,s1,s2,s3,s4,s5,
 s6,s7,s8,s9,s10,s11,s12,s13,s14,s15,s16,s17,s18,s19,s20,s21,s22,s23,s24,s25,s26,s27,s28,s29,s30,s31,s32,s33,s34,s35,s36,s37,s38,s39,s40,s41,s42,s43,s44,s45,s46,s47,s48,s49,s50,s51,
 s52,s53,s54,s55,s56,s57,s58,s59,s60,s61,s62,s63,s64,s65,s66,s67,s68,s69,s70,s71,s72,s73,s74,s75,s76,s77,s78,s79,s80,s81,s82,s83,s84,s85,s86,s87,s88,s89,s90,s91] H = (@bnd (aBin2 prog H
 .eql 3 (.tmp 70) (.const (.int .i64 0)) s7 (.int .i64 0)) ⟨fun v71x42 => @bnd (gif v71x42 false ((some s8)) undef) ⟨fun v73x43 => @bnd (gif v71x42 false (aBin2 prog H .gtr 3 (.tmp 73) (.const (.int .i64 3)) v73x43 (.int
 .i64 3)) undef) ⟨fun v74x44 => @bnd (pickV v71x42 (.bool true) v74x44) ⟨fun v75x45 => @bnd (gif v75x45 false ((some s4)) undef) ⟨fun v77x46 => @bnd (gif v75x45 false ((some s0)) undef) ⟨fun v78x47 => @bnd (gif v75x45 false
 (aLen prog H 9 v78x47) undef) ⟨fun v79x48 => @bnd (gif v75x45 false (aBin2 prog H .neq 3 (.tmp 77) (.tmp 79) v77x46 v79x48) undef) ⟨fun v80x49 => @bnd (pickV v75x45 (.bool true) v80x49) ⟨fun v81x50 => @kifB v81x50 ⟨k
 (.tuple #[(.int .i64 0),(.int .i64 10)]) H⟩ ⟨∃ n,L94x2 n  k [s0,s1,s2,s3,s4,s5,s6,s7,s8,s9,s10,s11,s12,s13,s14,s15,s16,s17,s18,s19,s20,s21,s22,s23,s24,s25,s26,s27,s28,s29,s30,s31,s32,s33,s34,
 s35,s36,s37,s38,s39,s40,s41,s42,s43,s44,s45,s46,s47,s48,s49,s50,s51,s52,s53,s54,s55,s56,s57,s58,s59,s60,s61,s62,s63,s64,s65,s66,s67,s68,s69,s7,v71x42,v71x42,v73x43,v74x44,v75x45,v75x45,
 v77x46,v78x47,v79x48,v80x49,v81x50,s82,s83,s84,s85,s86,s87,s88,s89,s90,s91] H⟩⟩⟩⟩⟩⟩⟩⟩⟩⟩) := by kernel_rfl
theorem L94x2q (n2 : Nat) (s0 s1 s2 s3 s4 s5 s6 s7 s8 s9 s10 s11 s12 s13 s14 s15 s16 s17 s18 s19 s20 s21 s22 s23 s24 s25 s26 s27 s28 s29 s30 s31 s32 s33 s34 s35 s36 s37 s38 s39 s40 s41 s42 s43 s44 s45 s46 s47 s48 s49 s50 s51 s52
 s53 s54 s55 s56 s57 s58 s59 s60 s61 s62 s63 s64 s65 s66 s67 s68 s69 s70 s71 s72 s73 s74 s75 s76 s77 s78 s79 s80 s81 s82 s83 s84 s85 s86 s87 s88 s89 s90 s91 : Value) (H : AHeap) (k : Value → AHeap → Prop) : L94x2 (n2 + 1) k [s0,
 s1,s2,s3,s4,s5,s6,s7,s8,s9,s10,s11,s12,s13,s14,s15,s16,s17,s18,s19,s20,s21,s22,s23,s24,s25,s26,s27,s28,s29,s30,s31,s32,s33,s34,s35,s36,s37,s38,s39,s40,s41,s42,s43,s44,s45,s46,s47,
 s48,s49,s50,s51,s52,s53,s54,s55,s56,s57,s58,s59,s60,s61,s62,s63,s64,s65,s66,s67,s68,s69,s70,s71,s72,s73,s74,s75,s76,s77,s78,s79,s80,s81,s82,s83,s84,s85,s86,s87,s88,s89,s90,s91] H =
 (@bnd (aBin2 prog H .lss 3 (.tmp 82) (.const (.int .i64 3)) s8 (.int .i64 3)) ⟨fun v83x51 => @kifB v83x51 ⟨@bndC prog 98 [s6,(.int .u8 48)] H ⟨fun v85x52 H53 => @bnd (aBin2 prog H53 .add 3 (.tmp 86) (.const (.int
 .i64 1)) s8 (.int .i64 1)) ⟨fun v87x54 => L94x2 n2  k [s0,s1,s2,s3,s4,s5,v85x52,s7,v87x54,s9,s10,s11,s12,s13,s14,s15,s16,s17,s18,s19,s20,s21,s22,s23,s24,s25,s26,s27,s28,s29,s30,s31,s32,s33,s34,
 s35,s36,s37,s38,s39,s40,s41,s42,s43,s44,s45,s46,s47,s48,s49,s50,s51,s52,s53,s54,s55,s56,s57,s58,s59,s60,s61,s62,s63,s64,s65,s66,s67,s68,s69,s70,s71,s72,s73,s74,s75,s76,s77,s78,s79,
 s80,s81,s8,v83x51,s6,v85x52,s8,v87x54,s88,s89,s90,s91] H53⟩⟩⟩ ⟨@kifB s5 ⟨@bnd (unV prog .neg s6) ⟨fun v90x55 => k (.tuple #[v90x55,(.int .i64 0)]) H⟩⟩ ⟨k (.tuple #[s6,(.int .i64 0)]) H⟩⟩⟩) := by kernel_rfl
-- tocsin/tocsinref09.digits
def L95x0 (n : Nat) (k : Value → AHeap → Prop) (sl : List Value) (H : AHeap) : Prop := kit prog (cl (cl (cr (cl (cr (cb Try.f95)))))) n (kblk 0 (kseq prog (cr (cr (cb Try.f95))) (kfin prog Try.f95 k))) .normal sl H
theorem d95 (a0 : Value) (H : AHeap) (k : Value → AHeap → Prop) : kbody prog Try.f95 [a0] H k = (∃ n,L95x0 n  k [a0,undef,(.bool false),(.int .i64 0),undef,undef,undef,undef,undef,undef,undef,undef,undef,undef,
 undef,undef,undef,undef,undef,undef,undef,undef] H) := by kernel_rfl
theorem L95x0q (n0 : Nat) (s0 s1 s2 s3 s4 s5 s6 s7 s8 s9 s10 s11 s12 s13 s14 s15 s16 s17 s18 s19 s20 s21 : Value) (H : AHeap) (k : Value → AHeap → Prop) : L95x0 (n0 + 1) k [s0,s1,s2,s3,s4,s5,s6,s7,s8,s9,s10,s11,s12,
 s13,s14,s15,s16,s17,s18,s19,s20,s21] H = (@bnd (aLen prog H 9 s0) ⟨fun v6x1 => @bnd (aBin2 prog H .lss 3 (.tmp 4) (.tmp 6) s3 v6x1) ⟨fun v7x2 => @kifB v7x2 ⟨@bnd (aIndex prog 9 s0 s3) ⟨fun v12x3 => @bnd
 (aBin2 prog H .lss 5 (.tmp 12) (.const (.int .u8 48)) v12x3 (.int .u8 48)) ⟨fun v13x4 => @bnd (gif v13x4 false ((some s0)) undef) ⟨fun v15x5 => @bnd (gif v13x4 false ((some s3)) undef) ⟨fun v16x6 => @bnd (gif v13x4 false
 (aIndex prog 9 v15x5 v16x6) undef) ⟨fun v17x7 => @bnd (gif v13x4 false (aBin2 prog H .gtr 5 (.tmp 17) (.const (.int .u8 57)) v17x7 (.int .u8 57)) undef) ⟨fun v18x8 => @bnd (pickV v13x4 (.bool true) v18x8) ⟨fun v19x9 =>
 @kifB v19x9 ⟨k (.bool false) H⟩ ⟨@bnd (aBin2 prog H .add 3 (.tmp 8) (.const (.int .i64 1)) s3 (.int .i64 1)) ⟨fun v9x10 => L95x0 n0  k [s0,s1,s2,v9x10,s3,s0,v6x1,v7x2,s3,v9x10,s0,s3,v12x3,v13x4,v13x4,v15x5,
 v16x6,v17x7,v18x8,v19x9,s20,s21] H⟩⟩⟩⟩⟩⟩⟩⟩⟩⟩ ⟨@bnd (aBin2 prog H .neq 9 (.tmp 20) (.const (.string { data := #[] })) s0 (.string { data := #[] })) ⟨fun v21x11 => k v21x11 H⟩⟩⟩⟩) := by kernel_rfl
-- tocsin/tocsinref10.op
theorem d96 (a0 : Value) (H : AHeap) (k : Value → AHeap → Prop) : kbody prog Try.f96 [a0] H k = (@bndL prog H 23 3 [(0,(.string { data := #[61] })),(1,(.string { data := #[33,61] })),(2,(.string { data := #[94,61]
 }))] ⟨fun v3x1 H2 => @bnd (aIndexAddr prog H2 23 v3x1 a0) ⟨fun v5x3 => @bnd (aLoad prog H2 9 v5x3) ⟨fun v6x4 => k v6x4 H2⟩⟩⟩) := by kernel_rfl
-- tocsin/tocsinref01.digit
theorem d97 (a0 : Value) (H : AHeap) (k : Value → AHeap → Prop) : kbody prog Try.f97 [a0] H k = (@bnd (aBin2 prog H .geq 5 (.tmp 3) (.const (.int .u8 48)) a0 (.int .u8 48)) ⟨fun v4x1 => @bnd (gif v4x1 true ((some a0))
 undef) ⟨fun v6x2 => @bnd (gif v4x1 true (aBin2 prog H .leq 5 (.tmp 6) (.const (.int .u8 57)) v6x2 (.int .u8 57)) undef) ⟨fun v7x3 => @bnd (pickV v4x1 v7x3 (.bool false)) ⟨fun v8x4 => k v8x4 H⟩⟩⟩⟩) := by kernel_rfl
-- tocsin/tocsinref01.more
theorem d98 (a0 a1 : Value) (H : AHeap) (k : Value → AHeap → Prop) : kbody prog Try.f98 [a0,a1] H k = (@bnd (aBin2 prog H .gtr 2 (.tmp 5) (.const (.int .i64 461168601842738790)) a0 (.int .i64 461168601842738790)) ⟨fun
 v6x1 => @kifB v6x1 ⟨k (.int .i64 4611686018427387903) H⟩ ⟨@bnd (aBin2 prog H .mul 2 (.const (.int .i64 10)) (.tmp 7) (.int .i64 10) a0) ⟨fun v8x2 => @bnd (aBin2 prog H .sub 5 (.tmp 9) (.const (.int .u8 48)) a1 (.int .u8
 48)) ⟨fun v10x3 => @bnd (convV prog H 5 2 v10x3) ⟨fun v11x4 => @bnd (aBin2 prog H .add 2 (.tmp 8) (.tmp 11) v8x2 v11x4) ⟨fun v12x5 => @bndC prog 71 [v12x5] H ⟨fun v13x6 H7 => k v13x6 H7⟩⟩⟩⟩⟩⟩⟩) := by kernel_rfl
end Go.Vi
namespace Go.Vi
open Go Go.Proofs Go.Proofs.Try
theorem MixT : prog.follows .mixedOrders = true := by kernel_rfl
def isLow (b : UInt8) : Bool := decide (97 ≤ (b.toNat : Int)) && decide ((b.toNat : Int) ≤ 122)
def isDig (b : UInt8) : Bool := decide (48 ≤ (b.toNat : Int)) && decide ((b.toNat : Int) ≤ 57)
def isMark (b : UInt8) : Bool := isLow b || isDig b || (b.toNat : Int) == 95
def isSign (b : UInt8) : Bool := decide (32 ≤ (b.toNat : Int)) && decide ((b.toNat : Int) ≤ 126)
def mayName (l : List UInt8) : Bool := decide (1 ≤ l.length) && decide (l.length ≤ 16) && (l[0]?).any isLow && l.all isMark
def mayValue (l : List UInt8) : Bool := decide (1 ≤ l.length) && decide (l.length ≤ 32) && l.all isSign
theorem c_lab_letter (H : AHeap) (b : UInt8) : ACalls prog 41 [byt b] H (.bool (isLow b)) H := by
 refine acalls_pure MixT func41 (by decide) rfl ?_
 rw [d41]
 simp +contextual [isLow]
theorem c_lab_mark (H : AHeap) (b : UInt8) : ACalls prog 43 [byt b] H (.bool (isMark b)) H := by
 refine acalls_pure MixT func43 (by decide) rfl ?_
 rw [d43]
 refine bndC_of (c_lab_letter _ _) ?_
 simp +contextual [isMark,isDig]
theorem c_lab_sign (H : AHeap) (b : UInt8) : ACalls prog 83 [byt b] H (.bool (isSign b)) H := by
 refine acalls_pure MixT func83 (by decide) rfl ?_
 rw [d83]
 simp +contextual [isSign]
theorem every_loop {l : List UInt8} {g : FuncId} {p : UInt8 → Bool} {H : AHeap} {k : Value → AHeap → Prop} (hp : ∀ b,ACalls prog g [byt b] H (.bool (p b)) H) (hl : l.length < 2 ^ 63) :
  ∀ (r : List UInt8) (i : Nat) (s2 s3 s4 s5 s9 s10 s11 s12 s13 s14 s15 s16 s17 : Value), l.drop i = r → i ≤ l.length → k (.bool (r.all p)) H →
    L42x0 (r.length + 1) k [str l,.func (.func g) #[] #[],s2,s3,s4,s5,str l,i64 l.length,i64 i,s9,s10,s11,s12,s13,s14,s15,s16,s17] H := by
 intro r
 induction r with
 | nil =>
   intro i s2 s3 s4 s5 s9 s10 s11 s12 s13 s14 s15 s16 s17 hd hi hk
   have hle : l.length ≤ i := by simpa using hd
   rw [List.length_nil,L42x0q]
   have : ¬ i < l.length := by omega
   simp [this]
   simpa using hk
 | cons b r ih =>
   intro i s2 s3 s4 s5 s9 s10 s11 s12 s13 s14 s15 s16 s17 hd hi hk
   have hb : l[i]? = some b := by rw [← List.head?_drop,hd]; rfl
   have hlt : i < l.length := (List.getElem?_eq_some_iff.1 hb).1
   rw [List.length_cons,L42x0q]
   simp [hlt,aIndex_at _ hb]
   refine bndV_func (by simpa using hp b) ?_
   simp
   refine kifB_bool (fun h => ?_) (fun h => ?_)
   · simp at h
     simpa [h] using hk
   · simp at h
     simp [show i + 1 < 2 ^ 63 by omega]
     exact ih (i + 1) _ _ _ _ _ _ _ _ _ _ _ _ _ (by rw [← List.drop_drop,hd]; rfl) hlt (by simpa [h] using hk)
theorem c_every {H : AHeap} {l : List UInt8} {g : FuncId} {p : UInt8 → Bool} (hp : ∀ b,ACalls prog g [byt b] H (.bool (p b)) H) (hl : l.length < 2 ^ 63) :
  ACalls prog 42 [str l,.func (.func g) #[] #[]] H (.bool (l.all p)) H := by
 refine acalls_pure MixT func42 (by decide) rfl ?_
 rw [d42]
 simp
 exact ⟨l.length + 1,every_loop hp hl l 0 _ _ _ _ _ _ _ _ _ _ _ _ _ rfl (by omega) ⟨rfl,[],by simp⟩⟩
theorem c_mayName (H : AHeap) (l : List UInt8) : ACalls prog 21 [str l] H (.bool (mayName l)) H := by
 refine acalls_pure MixT func21 (by decide) rfl ?_
 rw [d21]
 cases l with
 | nil => simp [mayName]
 | cons b r =>
   have hb : (b :: r)[0]? = some b := rfl
   have h0 := aIndex_at (P := prog) (T := 9) (k := .i64) (i := 0) (by simp) hb
   simp only [Int.ofNat_zero] at h0
   simp +contextual [h0]
   refine bndG_call (.bool (isLow b)) (fun h => ?_) ?_
   · simp only [h,gsel_tt]; exact c_lab_letter _ _
   simp +contextual
   refine bndG_call (.bool ((b :: r).all isMark)) (fun h => ?_) ?_
   · have hh := h
     simp at h
     simp only [hh,gsel_tt]; exact c_every (c_lab_mark _) (by simp; omega)
   · simp +contextual [mayName]
     have : decide (1 ≤ (r.length : Int) + 1) = true := by simp; omega
     have h2 : decide ((r.length : Int) + 1 ≤ 16) = decide (r.length ≤ 15) := by rw [decide_eq_decide]; omega
     rw [this,h2,Bool.true_and]
theorem c_mayValue (H : AHeap) (l : List UInt8) : ACalls prog 77 [str l] H (.bool (mayValue l)) H := by
 refine acalls_pure MixT func77 (by decide) rfl ?_
 rw [d77]
 simp +contextual
 refine bndG_call (.bool (l.all isSign)) (fun h => ?_) ?_
 · have hh := h
   simp at h
   simp only [hh,gsel_tt]; exact c_every (c_lab_sign _) (by omega)
 · simp +contextual
   rw [mayValue]
   congr 2 <;> rw [decide_eq_decide] <;> omega
structure Mat where
 name : List UInt8
 op : Int
 value : List UInt8
def Mat.cells (m : Mat) : List Value := [str m.name,.int .u8 m.op,str m.value]
def mayM (s : List UInt8) : Bool := decide (s = []) || mayValue s
def Mat.ok (m : Mat) : Bool := (m.op == 0 || m.op == 1 || m.op == 2) && mayName m.name && mayM m.value
def mayMats (ms : List Mat) : Bool := ms.all Mat.ok && decide (ms.length ≤ 6)
theorem c_matMay (H : AHeap) (l : List UInt8) : ACalls prog 68 [str l] H (.bool (mayM l)) H := by
 refine acalls_pure MixT func68 (by decide) rfl ?_
 rw [d68]
 simp +contextual
 refine bndG_call (.bool (mayValue l)) (fun h => ?_) ?_
 · simp only [h,gsel_ff]; exact c_mayValue _ _
 · simp +contextual [mayM]
def opsMap : List (Value × Value) := [(.int .u8 0,.agg #[str [61],.func (.func 74) #[] #[]]),(.int .u8 1,.agg #[str [33,61],.func (.func 75) #[] #[]]),(.int .u8 2,.agg #[str [94,61],.func (.func 76) #[] #[]])]
theorem c_matOps (H : AHeap) : ACalls prog 67 [] H (.map (some H.length)) (H ++ [.map opsMap]) := by
 refine acalls_of MixT func67 (by decide) ?_
 rw [d67]
 simp [keyOk,mOk,mput,mfind,keyEq,opsMap]
def MatsAt (H : AHeap) (v : Value) (ms : List Mat) : Prop := Arr H 3 v (ms.map Mat.cells)
theorem MatsAt.pre {H K v ms} (h : MatsAt H v ms) (p : Pre H K) : MatsAt K v ms := Arr.pre h p
def isOp (n : Int) : Bool := n == 0 || n == 1 || n == 2
def opS (n : Int) : List UInt8 := if n = 0 then [61] else if n = 1 then [33,61] else if n = 2 then [94,61] else []
def opF (n : Int) : Value := if n = 0 then .func (.func 74) #[] #[] else if n = 1 then .func (.func 75) #[] #[] else if n = 2 then .func (.func 76) #[] #[] else .nilFunc
theorem opF_one (n : Int) : (opF n).oneCell' = true := by unfold opF; split <;> (try split) <;> (try split) <;> rfl
theorem opsOk : mOk (.int .u8) opsMap = true := by simp [mOk,opsMap,keyOk]
theorem opsLook {K : AHeap} {mb : Nat} (n : Int) (h : K[mb]? = some (.map opsMap)) : aLookup prog K 95 (.map (some mb)) (.int .u8 n) true = some (.tuple #[.agg #[str (opS n),opF n],.bool (isOp n)]) := by
 rw [aLookup_map,h]
 simp only [tm95,Option.bind_some,mapOf_map,opsOk,keyOk,beq_self_eq_true,if_true]
 unfold mget opsMap opS opF isOp
 simp only [mfind,keyEq]
 by_cases h0 : n = 0
 · simp [h0]
 · by_cases h1 : n = 1
   · simp [h1]
   · by_cases h2 : n = 2
     · simp [h2]
     · simp [h0,h1,h2,cok,isLit]
theorem matMay_loop {v : Value} {ms : List Mat} {H : AHeap} {w : Bool} {mb : Nat} {k : Value → AHeap → Prop} (hl : ms.length < 2 ^ 63) (hk : ∀ K,Pre H K → k (.bool w) K) :
  ∀ (r : List Mat) (i : Nat) (K : AHeap) (s1 s2 s4 s5 s6 s7 s8 s12 s13 s14 s15 s16 s17 s18 s19 s20 s21 s22 s23 s24 s25 s26 s27 s28 s29 s30 s31 s32 s33 s34 s35 s36 s37 s38 s39 : Value), ms.drop i = r → i ≤ ms.length → Pre H K → MatsAt K v ms → K[mb]? = some (.map opsMap) →
    w = (r.all Mat.ok && decide (ms.length ≤ 6)) →
    L56x0 (r.length + 1) k [v,s1,s2,.map (some mb),s4,s5,s6,s7,s8,v,i64 ms.length,i64 i,s12,s13,s14,s15,s16,s17,s18,s19,s20,s21,s22,s23,s24,s25,s26,s27,s28,s29,s30,s31,s32,s33,s34,s35,s36,s37,s38,s39] K := by
 intro r
 induction r with
 | nil =>
   intro i K s1 s2 s4 s5 s6 s7 s8 s12 s13 s14 s15 s16 s17 s18 s19 s20 s21 s22 s23 s24 s25 s26 s27 s28 s29 s30 s31 s32 s33 s34 s35 s36 s37 s38 s39 hd hi hp hm hmap hw
   have hle : ms.length ≤ i := by simpa using hd
   rw [List.length_nil,L56x0q]
   have : ¬ i < ms.length := by omega
   have hlen := hm.len (P := prog) (T := 48) (e := 52) (by simp)
   simp at hlen
   simp [this,hlen]
   have := hk K hp
   rw [hw] at this
   have e : decide ((ms.length : Int) ≤ 6) = decide (ms.length ≤ 6) := by rw [decide_eq_decide]; omega
   rw [e]; simpa using this
 | cons m r ih =>
   intro i K s1 s2 s4 s5 s6 s7 s8 s12 s13 s14 s15 s16 s17 s18 s19 s20 s21 s22 s23 s24 s25 s26 s27 s28 s29 s30 s31 s32 s33 s34 s35 s36 s37 s38 s39 hd hi hp hm hmap hw
   have hb : ms[i]? = some m := by rw [← List.head?_drop,hd]; rfl
   have hlt : i < ms.length := (List.getElem?_eq_some_iff.1 hb).1
   obtain ⟨p,hp1,hp2⟩ := hm.load (P := prog) (T := 48) (te := 52) (i := i) (e := m.cells) (by simp) (by simp) (by simp) (by simp [hb])
   have hmb : mb < K.length := (List.getElem?_eq_some_iff.1 hmap).1
   have hg : ∀ X : AHeap,(K ++ X)[mb]? = some (.map opsMap) := fun X => get_more hmap
   rw [List.length_cons,L56x0q]
   have hlook : ∀ X : AHeap,aLookup prog (K ++ X) 95 (.map (some mb)) (.int .u8 m.op) true = some (.tuple #[.agg #[str (opS m.op),opF m.op],.bool (isOp m.op)]) := fun X => opsLook _ (hg X)
   simp +contextual [hlt,hp1,hp2,Mat.cells,-aLookup_map,hlook,opF_one]
   refine bndG_call (.bool (mayName m.name)) (fun h => ?_) ?_
   · simp only [h,gsel_ff]; exact c_mayName _ _
   simp +contextual
   refine bndG_call (.bool (mayM m.value)) (fun h => ?_) ?_
   · simp only [h,gsel_ff]; exact c_matMay _ _
   simp +contextual
   have hok : m.ok = (isOp m.op && mayName m.name && mayM m.value) := by simp [Mat.ok,isOp]
   refine kifB_bool (fun h => ?_) (fun h => ?_)
   · have : w = false := by
      rw [hw,List.all_cons,hok]
      revert h; cases isOp m.op <;> cases mayName m.name <;> cases mayM m.value <;> simp
     rw [← this]
     exact hk _ (hp.more _)
   · have h1 : m.ok = true := by
      rw [hok]
      revert h; cases isOp m.op <;> cases mayName m.name <;> cases mayM m.value <;> simp
     simp [show i + 1 < 2 ^ 63 by omega]
     exact ih (i + 1) _ _ _ _ _ _ _ _ _ _ _ _ _ _ _ _ _ _ _ _ _ _ _ _ _ _ _ _ _ _ _ _ _ _ _ _ (by rw [← List.drop_drop,hd]; rfl) hlt (hp.more _) (hm.pre (.app _ _)) (hg _) (by rw [hw,List.all_cons,h1,Bool.true_and])
theorem c_matchMay {H : AHeap} {v : Value} {ms : List Mat} (hm : MatsAt H v ms) (hl : ms.length < 2 ^ 63) : ACalls prog 56 [v] H (.bool (mayMats ms)) H := by
 refine acalls_pure MixT func56 (by decide) rfl ?_
 rw [d56]
 refine bndC_of (c_matOps H) ?_
 have hlen := (hm.pre (.app H [.map opsMap])).len (P := prog) (T := 48) (e := 52) (by simp)
 simp at hlen
 simp [hlen]
 exact ⟨ms.length + 1,matMay_loop (H := H) hl (fun K p => ⟨rfl,p⟩) ms 0 _ _ _ _ _ _ _ _ _ _ _ _ _ _ _ _ _ _ _ _ _ _ _ _ _ _ _ _ _ _ _ _ _ _ _ _ rfl (by omega) (.app _ _) (hm.pre (.app _ _)) (by simp) rfl⟩
end Go.Vi
namespace Go.Vi
open Go Go.Proofs Go.Proofs.Try
structure Nod where
 kind : UInt8
 agg : UInt8
 sel : List Mat
 window : Int
 cmp : UInt8
 value : Int
 left : Int
 right : Int
def Nod.cells (n : Nod) (sv : Value) : List Value := [byt n.kind,byt n.agg,sv,i64 n.window,byt n.cmp,i64 n.value,i64 n.left,i64 n.right]
def maxFix : Int := 4611686018427387903
def sat (x : Int) : Int := min (max x (-maxFix)) maxFix
theorem c_sat (H : AHeap) (x : Int) : ACalls prog 58 [i64 x] H (i64 (sat x)) H := by
 refine acalls_pure MixT func58 (by decide) rfl ?_
 rw [d58]
 simp [sat,maxFix]
 split <;> split <;> omega
def aggs : List (List UInt8) := [[99,111,117,110,116],[115,117,109],[109,105,110],[109,97,120],[109,101,97,110],[108,97,115,116]]
def cmps : List (List UInt8) := [[60],[60,61],[62],[62,61],[61,61],[33,61]]
theorem c_aggregates (H : AHeap) : ACalls prog 55 [] H (.slice (some ⟨H.length,0,some 6⟩) 6 6) (H ++ [.cells (aggs.map str) 9]) := by
 refine acalls_of MixT func55 (by decide) ?_
 rw [d55]
 exact bndL_of (by decide) (by kernel_rfl) ⟨rfl,rfl⟩
theorem c_compares (H : AHeap) : ACalls prog 57 [] H (.slice (some ⟨H.length,0,some 6⟩) 6 6) (H ++ [.cells (cmps.map str) 9]) := by
 refine acalls_of MixT func57 (by decide) ?_
 rw [d57]
 exact bndL_of (by decide) (by kernel_rfl) ⟨rfl,rfl⟩
def Nod.plain (n : Nod) : Bool := decide ((n.agg.toNat : Int) < 6) && mayMats n.sel && decide (n.window ≥ 1) && decide (n.window ≤ 1000) && decide ((n.cmp.toNat : Int) < 6) && (sat n.value == n.value) && (n.left == 0) && (n.right == 0)
def Nod.void (n : Nod) : Bool := ((n.agg.toNat : Int) == 0) && ((n.sel.length : Int) == 0) && (n.window == 0) && ((n.cmp.toNat : Int) == 0) && (n.value == 0)
theorem MatsAt.one {H v ms} (h : MatsAt H v ms) : v.oneCell' = true := Arr.one h
theorem c_void {H : AHeap} {n : Nod} {sv : Value} (hs : MatsAt H sv n.sel) : ACalls prog 53 [.agg (n.cells sv).toArray] H (.bool n.void) H := by
 refine acalls_pure MixT func53 (by decide) rfl ?_
 rw [d53]
 have h1 := hs.one
 have hl := fun X => (hs.pre (.app H X)).len (P := prog) (T := 48) (e := 52) (by simp)
 simp at hl
 simp +contextual [aNew_agg,Nod.cells,Nod.void,h1,hl]
theorem c_plain {H : AHeap} {n : Nod} {sv : Value} (hs : MatsAt H sv n.sel) (hsl : n.sel.length < 2 ^ 63) : ACalls prog 52 [.agg (n.cells sv).toArray] H (.bool n.plain) H := by
 refine acalls_pure MixT func52 (by decide) rfl ?_
 rw [d52]
 have h1 := hs.one
 simp +contextual [aNew_agg,Nod.cells,h1]
 refine bndD_of (c_aggregates _) (.inr ⟨_,rfl⟩) ?_
 simp +contextual
 refine bndD_gcall (.bool (mayMats n.sel)) (by simp) (fun h => ?_) ?_
 · simp only [h,gsel_tt]; rw [List.append_assoc]; exact c_matchMay (hs.pre (.app _ _)) hsl
 simp +contextual
 refine bndD_gcases _ _ (by simp) (fun h => ?_) (fun _ => c_compares _) (.inr ⟨_,by simp; rfl⟩) (fun h => ?_)
 · have e : n.plain = false := by simp only [Nod.plain,ge_iff_le,h,Bool.false_and]
   simp [h,e]
 · simp +contextual [h]
   refine bndD_gcall (i64 (sat n.value)) (by simp) (fun h => ?_) ?_
   · simp only [h,gsel_tt]; exact c_sat _ _
   simp +contextual
   simp only [Nod.plain,ge_iff_le,h,Bool.true_and]
def NodesAt (H : AHeap) (v : Value) (ns : List Nod) : Prop := ∃ cl : List (List Value),Arr H 8 v cl ∧ cl.length = ns.length ∧ ∀ (i : Nat) n,ns[i]? = some n → ∃ sv,cl[i]? = some (n.cells sv) ∧ MatsAt H sv n.sel ∧ n.sel.length < 2 ^ 63
theorem NodesAt.pre {H K v ns} (h : NodesAt H v ns) (p : Pre H K) : NodesAt K v ns := by
 obtain ⟨cl,h1,h2,h3⟩ := h
 refine ⟨cl,h1.pre p,h2,fun i n hi => ?_⟩
 obtain ⟨sv,q1,q2,q3⟩ := h3 i n hi
 exact ⟨sv,q1,q2.pre p,q3⟩
theorem NodesAt.len {H v ns} (h : NodesAt H v ns) (K : AHeap) : aLen prog K 22 v = some (i64 ns.length) := by
 obtain ⟨cl,h1,h2,_⟩ := h
 rw [← h2]
 exact h1.len' (e := 50) (by simp)
def isAnd (n : Nod) : Bool := (n.kind.toNat : Int) == 1
def isOr (n : Nod) : Bool := (n.kind.toNat : Int) == 2
def beg (ns : List Nod) : Nat → Int → Int
 | 0,_ => -1
 | f + 1, e => if e < 0 then -1 else match ns[e.toNat]? with
   | none => -1
   | some n =>
     if ((n.kind.toNat : Int) == 0) = true then (if n.plain = true then e else -1)
     else if ((n.kind.toNat : Int) == 3) = true then (if (n.void && n.left == e - 1 && n.right == 0) = true then beg ns f (e - 1) else -1)
     else if (isAnd n || isOr n) = true then
      (if (n.void && n.right == e - 1 && decide (beg ns f (e - 1) > 0) && n.left == beg ns f (e - 1) - 1) = true then beg ns f (beg ns f (e - 1) - 1) else -1)
     else -1
theorem beg_range (ns : List Nod) : ∀ (f : Nat) (e : Int),-1 ≤ e → -1 ≤ beg ns f e ∧ beg ns f e ≤ e := by
 intro f
 induction f with
 | zero => intro e h; exact ⟨Int.le_refl _,h⟩
 | succ f ih =>
   intro e h
   simp only [beg]
   split
   · omega
   · split
     · omega
     · split
       · split <;> omega
       · split
         · split
           · have := ih (e - 1) (by omega); omega
           · omega
         · split
           · split
             · rename_i n _ _ _ _ hc
               simp only [Bool.and_eq_true,decide_eq_true_eq] at hc
               have h1 := ih (e - 1) (by omega)
               have := ih (beg ns f (e - 1) - 1) (by omega)
               omega
             · omega
           · omega
attribute [local simp] S45x0q S45x1q
theorem c_begin {ns : List Nod} {v : Value} (hlen : ns.length < 2 ^ 40) : ∀ (f : Nat) (H : AHeap) (e : Int),NodesAt H v ns → -1 ≤ e → e < ns.length → e < f → ACalls prog 45 [v,i64 e] H (i64 (beg ns f e)) H := by
 intro f
 induction f with
 | zero =>
   intro H e hn h1 h2 h3
   refine acalls_pure MixT func45 (by decide) rfl ?_
   rw [d45]
   have : e = -1 := by omega
   subst this
   simp [beg]
 | succ f ih =>
   intro H e hn h1 h2 h3
   refine acalls_pure MixT func45 (by decide) rfl ?_
   rw [d45]
   by_cases h0 : e < 0
   · simp [beg,h0]
   obtain ⟨cl,ha,hcl,hc⟩ := hn
   obtain ⟨n,hnd⟩ : ∃ n,ns[e.toNat]? = some n := ⟨_,List.getElem?_eq_getElem (by omega)⟩
   obtain ⟨sv,hsv,hm,hml⟩ := hc _ _ hnd
   obtain ⟨p,hp1,hp2⟩ := ha.load (P := prog) (T := 22) (te := 50) (i := e.toNat) (e := n.cells sv) (by simp) (by simp) (by simp) hsv
   have het : ((e.toNat : Nat) : Int) = e := by omega
   rw [het] at hp1
   have hone := hm.one
   simp [h0,hp1,hp2,Nod.cells,hone]
   have hK : ∀ X : AHeap,NodesAt (H ++ X) v ns := fun X => NodesAt.pre ⟨cl,ha,hcl,hc⟩ (.app _ _)
   have hpl := fun X : AHeap => c_plain (H := H ++ X) (hm.pre (.app _ _)) hml
   have hvo := fun X : AHeap => c_void (H := H ++ X) (hm.pre (.app _ _))
   have hw : IntKind.i64.wrap (e - 1) = e - 1 := wrap_i64 (by omega) (by omega)
   have hr := ih (H ++ [AObj.cells [byt n.kind,byt n.agg,sv,i64 n.window,byt n.cmp,i64 n.value,i64 n.left,i64 n.right] 50]) (e - 1) (hK _) (by omega) (by omega) (by omega)
   obtain ⟨rb1,rb2⟩ := beg_range ns f (e - 1) (by omega)
   have hw2 : IntKind.i64.wrap (beg ns f (e - 1) - 1) = beg ns f (e - 1) - 1 := wrap_i64 (by omega) (by omega)
   simp only [Nod.cells] at hpl hvo
   have hbeg : beg ns (f + 1) e = if ((n.kind.toNat : Int) == 0) = true then (if n.plain = true then e else -1)
    else if ((n.kind.toNat : Int) == 3) = true then (if (n.void && n.left == e - 1 && n.right == 0) = true then beg ns f (e - 1) else -1)
    else if (isAnd n || isOr n) = true then
     (if (n.void && n.right == e - 1 && decide (beg ns f (e - 1) > 0) && n.left == beg ns f (e - 1) - 1) = true then beg ns f (beg ns f (e - 1) - 1) else -1)
    else -1 := by rw [beg,if_neg h0,hnd]
   generalize beg ns (f + 1) e = res at hbeg ⊢
   refine kifB_bool (fun hk => ?_) (fun hk => ?_)
   · rw [hk,if_pos rfl] at hbeg
     simp
     refine bndC_of (hpl _) ?_
     refine kifB_bool (fun hq => ?_) (fun hq => ?_) <;> simp [hq,hbeg]
   rw [hk,if_neg (by simp)] at hbeg
   simp
   refine kifB_bool (fun hk3 => ?_) (fun hk3 => ?_)
   · rw [hk3,if_pos rfl] at hbeg
     simp
     refine bndC_of (hvo _) ?_
     simp +contextual [hw]
     refine kifB_bool (fun hq => ?_) (fun hq => ?_)
     · rw [hq,if_pos rfl] at hbeg
       simp [hw]
       exact bndC_of hr (by simp [hbeg])
     · rw [hq,if_neg (by simp)] at hbeg
       simp [hbeg]
   rw [hk3,if_neg (by simp)] at hbeg
   simp
   refine kifB_bool (fun hk1 => ?_) (fun hk1 => ?_)
   · rw [show (isAnd n || isOr n) = true by simp only [isAnd,hk1,Bool.true_or],if_pos rfl] at hbeg
     simp only [S45x1q,kifB_true,aBin_sub,hw,bnd_some,hk1]
     refine bndC_of hr ?_
     simp
     refine bndC_of (hvo _) ?_
     simp +contextual [hw,hw2]
     refine kifB_bool (fun hq => ?_) (fun hq => ?_)
     · rw [hq,if_pos rfl] at hbeg
       have hpos : beg ns f (e - 1) > 0 := by
        revert hq; cases hd : decide (beg ns f (e - 1) > 0)
        · simp
        · intro _; simpa using hd
       simp [hw2]
       exact bndC_of (ih _ (beg ns f (e - 1) - 1) (hK _) (by omega) (by omega) (by omega)) (by simp [hbeg])
     · rw [hq,if_neg (by simp)] at hbeg
       simp [hbeg]
   · simp
     refine kifB_bool (fun hk2 => ?_) (fun hk2 => ?_)
     · rw [show (isAnd n || isOr n) = true by simp only [isOr,hk2,Bool.or_true],if_pos rfl] at hbeg
       simp only [aBin_sub,hw,bnd_some]
       refine bndC_of hr ?_
       simp
       refine bndC_of (hvo _) ?_
       simp +contextual [hw,hw2]
       refine kifB_bool (fun hq => ?_) (fun hq => ?_)
       · rw [hq,if_pos rfl] at hbeg
         have hpos : beg ns f (e - 1) > 0 := by
          revert hq; cases hd : decide (beg ns f (e - 1) > 0)
          · simp
          · intro _; simpa using hd
         simp [hw2]
         exact bndC_of (ih _ (beg ns f (e - 1) - 1) (hK _) (by omega) (by omega) (by omega)) (by simp [hbeg])
       · rw [hq,if_neg (by simp)] at hbeg
         simp [hbeg]
     · rw [show (isAnd n || isOr n) = false by simp only [isAnd,isOr,hk1,hk2,Bool.or_self],if_neg (by simp)] at hbeg
       simp [hbeg]
def right (ns : List Nod) : Bool := decide ((ns.length : Int) ≥ 1) && decide ((ns.length : Int) ≤ 31) && (beg ns ns.length ((ns.length : Int) - 1) == 0)
theorem c_right {H : AHeap} {ns : List Nod} {v : Value} (hn : NodesAt H v ns) : ACalls prog 27 [v] H (.bool (right ns)) H := by
 refine acalls_pure MixT func27 (by decide) rfl ?_
 rw [d27]
 have hl := hn.len H
 simp +contextual [hl]
 refine bndG_call (i64 (beg ns ns.length ((ns.length : Int) - 1))) (fun h => ?_) ?_
 · simp only [h,gsel_tt]
   simp at h
   have : IntKind.i64.wrap ((ns.length : Int) - 1) = (ns.length : Int) - 1 := wrap_i64 (by omega) (by omega)
   rw [this]
   exact c_begin (by omega) _ _ _ hn (by omega) (by omega) (by omega)
 · simp +contextual [right]
end Go.Vi
namespace Go.Vi
open Go Go.Proofs Go.Proofs.Try
theorem c_among (H : AHeap) (n a b : Int) : ACalls prog 22 [i64 n,i64 a,i64 b] H (.bool (decide (n ≥ a) && decide (n ≤ b))) H := by
 refine acalls_pure MixT func22 (by decide) rfl ?_
 rw [d22]
 simp +contextual
def boolCells (l : List Bool) : List (List Value) := l.map fun b => [.bool b]
theorem idxB_loop {l : List Bool} {x : Bool} {H : AHeap} {v : Value} {k : Value → AHeap → Prop} (ha : Arr H 1 v (boolCells l)) (hl : l.length < 2 ^ 63) :
  ∀ (r : List Bool) (i : Nat) (s2 s3 s4 s5 s9 s10 s11 s12 s13 s14 s15 s16 s17 s18 : Value), l.drop i = r → i ≤ l.length → k (i64 (offI i (idxF (x == ·) r))) H →
    L48x0 (r.length + 1) k [v,.bool x,s2,s3,s4,s5,v,i64 l.length,i64 i,s9,s10,s11,s12,s13,s14,s15,s16,s17,s18] H := by
 intro r
 induction r with
 | nil =>
   intro i s2 s3 s4 s5 s9 s10 s11 s12 s13 s14 s15 s16 s17 s18 hd hi hk
   have hle : l.length ≤ i := by simpa using hd
   rw [List.length_nil,L48x0q]
   have : ¬ i < l.length := by omega
   simp [this]
   simpa [idxF,offI] using hk
 | cons b r ih =>
   intro i s2 s3 s4 s5 s9 s10 s11 s12 s13 s14 s15 s16 s17 s18 hd hi hk
   have hb : l[i]? = some b := by rw [← List.head?_drop,hd]; rfl
   have hlt : i < l.length := (List.getElem?_eq_some_iff.1 hb).1
   obtain ⟨p,hp1,hp2⟩ := ha.load1 (P := prog) (T := 63) (te := 4) (i := i) (x := .bool b) (by simp) (by simp) (by simp) (by simp [boolCells,hb])
   rw [List.length_cons,L48x0q]
   have hcmp : ∀ o1 o2,aBin2 prog H .eql 4 o1 o2 (.bool x) (.bool b) = some (.bool (x == b)) := fun o1 o2 => aBin_beq2 (by simp)
   simp only [aBin_lss,bnd_some,Int.ofNat_lt,hlt,decide_true,kifB_true,hp1,hp2,hcmp]
   rw [offI_cons] at hk
   refine kifB_bool (fun h => ?_) (fun h => ?_)
   · rw [if_pos h] at hk
     exact hk
   · rw [if_neg (by simp [h])] at hk
     simp [show i + 1 < 2 ^ 63 by omega]
     exact ih (i + 1) _ _ _ _ _ _ _ _ _ _ _ _ _ _ (by rw [← List.drop_drop,hd]; rfl) hlt hk
theorem c_indexB {l : List Bool} {x : Bool} {H : AHeap} {v : Value} (ha : Arr H 1 v (boolCells l)) (hl : l.length < 2 ^ 63) : ACalls prog 48 [v,.bool x] H (i64 (idxF (x == ·) l)) H := by
 refine acalls_pure MixT func48 (by decide) rfl ?_
 rw [d48]
 have hlen := ha.len (P := prog) (T := 63) (e := 4) (by simp)
 simp [boolCells] at hlen
 simp [hlen]
 refine ⟨l.length + 1,idxB_loop ha hl l 0 _ _ _ _ _ _ _ _ _ _ _ _ _ _ rfl (by omega) ⟨?_,[],by simp⟩⟩
 unfold offI
 split <;> simp [*]
theorem c_containsB {l : List Bool} {x : Bool} {H : AHeap} {v : Value} (ha : Arr H 1 v (boolCells l)) (hl : l.length < 2 ^ 63) : ACalls prog 30 [v,.bool x] H (.bool (l.any (x == ·))) H := by
 refine acalls_pure MixT func30 (by decide) rfl ?_
 rw [d30]
 refine bndC_of (c_indexB ha hl) ?_
 simp
 exact idxF_any _ _
def errno (ok : Bool) : Int := if ok = true then 0 else 110
theorem c_all {l : List Bool} {H : AHeap} {v : Value} (ha : Arr H 1 v (boolCells l)) (hl : l.length < 2 ^ 63) : ACalls prog 20 [v] H (i64 (errno (l.all id))) H := by
 refine acalls_pure MixT func20 (by decide) rfl ?_
 rw [d20]
 refine bndC_of (c_containsB ha hl) ?_
 have e : ∀ l : List Bool,l.any (false == ·) = !(l.all id) := by
  intro l
  induction l with
  | nil => rfl
  | cons b r ih => rw [List.any_cons,List.all_cons,ih]; cases b <;> simp
 rw [e]
 cases h : l.all id <;> simp [errno]
def strCells (l : List (List UInt8)) : List (List Value) := l.map fun s => [str s]
theorem idxS_loop {l : List (List UInt8)} {p : List UInt8 → Bool} {g : FuncId} {H : AHeap} {v : Value} {k : Value → AHeap → Prop} (ha : Arr H 1 v (strCells l)) (hl : l.length < 2 ^ 63) (hp : ∀ s,ACalls prog g [str s] H (.bool (p s)) H) :
  ∀ (r : List (List UInt8)) (i : Nat) (s2 s3 s4 s5 s9 s10 s11 s12 s13 s14 s15 s16 s17 s18 : Value), l.drop i = r → i ≤ l.length → k (i64 (offI i (idxF p r))) H →
    L44x0 (r.length + 1) k [v,.func (.func g) #[] #[],s2,s3,s4,s5,v,i64 l.length,i64 i,s9,s10,s11,s12,s13,s14,s15,s16,s17,s18] H := by
 intro r
 induction r with
 | nil =>
   intro i s2 s3 s4 s5 s9 s10 s11 s12 s13 s14 s15 s16 s17 s18 hd hi hk
   have hle : l.length ≤ i := by simpa using hd
   rw [List.length_nil,L44x0q]
   have : ¬ i < l.length := by omega
   simp [this]
   simpa [idxF,offI] using hk
 | cons b r ih =>
   intro i s2 s3 s4 s5 s9 s10 s11 s12 s13 s14 s15 s16 s17 s18 hd hi hk
   have hb : l[i]? = some b := by rw [← List.head?_drop,hd]; rfl
   have hlt : i < l.length := (List.getElem?_eq_some_iff.1 hb).1
   obtain ⟨q,hp1,hp2⟩ := ha.load1 (P := prog) (T := 23) (te := 9) (i := i) (x := str b) (by simp) (by simp) (by simp) (by simp [strCells,hb])
   rw [List.length_cons,L44x0q]
   simp only [aBin_lss,bnd_some,Int.ofNat_lt,hlt,decide_true,kifB_true,hp1,hp2]
   refine bndV_func (by simpa using hp b) ?_
   rw [offI_cons] at hk
   refine kifB_bool (fun h => ?_) (fun h => ?_)
   · rw [if_pos h] at hk
     exact hk
   · rw [if_neg (by simp [h])] at hk
     simp [show i + 1 < 2 ^ 63 by omega]
     exact ih (i + 1) _ _ _ _ _ _ _ _ _ _ _ _ _ _ (by rw [← List.drop_drop,hd]; rfl) hlt hk
theorem c_containsS {l : List (List UInt8)} {p : List UInt8 → Bool} {g : FuncId} {H : AHeap} {v : Value} (ha : Arr H 1 v (strCells l)) (hl : l.length < 2 ^ 63) (hp : ∀ s,ACalls prog g [str s] H (.bool (p s)) H) :
  ACalls prog 23 [v,.func (.func g) #[] #[]] H (.bool (l.any p)) H := by
 refine acalls_pure MixT func23 (by decide) rfl ?_
 rw [d23]
 have hi : ACalls prog 44 [v,.func (.func g) #[] #[]] H (i64 (idxF p l)) H := by
  refine acalls_pure MixT func44 (by decide) rfl ?_
  rw [d44]
  have hlen := ha.len (P := prog) (T := 23) (e := 9) (by simp)
  simp [strCells] at hlen
  simp [hlen]
  refine ⟨l.length + 1,idxS_loop ha hl hp l 0 _ _ _ _ _ _ _ _ _ _ _ _ _ _ rfl (by omega) ⟨?_,[],by simp⟩⟩
  unfold offI
  split <;> simp [*]
 refine bndC_of hi ?_
 simp
 exact idxF_any _ _
theorem c_rule1 (H : AHeap) (s : List UInt8) : ACalls prog 24 [str s] H (.bool (!mayName s)) H := by
 refine acalls_pure MixT func24 (by decide) rfl ?_
 rw [d24]
 refine bndC_of (c_mayName _ _) ?_
 simp
theorem c_itself (H : AHeap) (s : List UInt8) : ACalls prog 26 [str s] H (str s) H := by
 refine acalls_pure MixT func26 (by decide) rfl ?_
 rw [d26]
 exact ⟨rfl,[],by simp⟩
def keysOf {α : Type} [DecidableEq α] (l : List α) : List α := l.foldl addKey []
def onceB {α : Type} [DecidableEq α] (l : List α) : Bool := ((keysOf l).length : Int) == (l.length : Int)
def QCount : List UInt8 → Value → Prop := fun _ v => ∃ n,v = i64 n
theorem onceS_loop {l : List (List UInt8)} {H : AHeap} {v : Value} {k : Value → AHeap → Prop} (hl : l.length < 2 ^ 63) (w : Bool) (hw : w = onceB l) (hk : ∀ K,Pre H K → k (.bool w) K) (b : Nat) (hbH : H.length ≤ b) :
  ∀ (r : List (List UInt8)) (i : Nat) (es : List (Value × Value)) (ks : List (List UInt8)) (K : AHeap) (s2 s3 s4 s6 s7 s8 s12 s13 s14 s15 s16 s17 s18 s19 s20 s21 s22 s23 s24 s25 s26 : Value), l.drop i = r → i ≤ l.length → Pre H K → Arr K 1 v (strCells l) → K[b]? = some (.map es) → SMap QCount es ks → r.foldl addKey ks = keysOf l →
    L25x0 (r.length + 1) k [v,.func (.func 26) #[] #[],s2,s3,s4,.map (some b),s6,s7,s8,v,i64 l.length,i64 i,s12,s13,s14,s15,s16,s17,s18,s19,s20,s21,s22,s23,s24,s25,s26] K := by
 intro r
 induction r with
 | nil =>
   intro i es ks K s2 s3 s4 s6 s7 s8 s12 s13 s14 s15 s16 s17 s18 s19 s20 s21 s22 s23 s24 s25 s26 hd hi hp ha hm hs hf
   have hle : l.length ≤ i := by simpa using hd
   rw [List.length_nil,L25x0q]
   have : ¬ i < l.length := by omega
   have hlen := ha.len (P := prog) (T := 23) (e := 9) (by simp)
   simp [strCells] at hlen
   have hml : aLen prog K 75 (.map (some b)) = some (i64 es.length) := by simp [aLen,hm]
   simp [this,hlen,hml]
   have := hk K hp
   rw [hw,onceB,← hf,List.foldl_nil,← hs.len] at this
   exact this
 | cons s r ih =>
   intro i es ks K s2 s3 s4 s6 s7 s8 s12 s13 s14 s15 s16 s17 s18 s19 s20 s21 s22 s23 s24 s25 s26 hd hi hp ha hm hs hf
   have hb : l[i]? = some s := by rw [← List.head?_drop,hd]; rfl
   have hlt : i < l.length := (List.getElem?_eq_some_iff.1 hb).1
   obtain ⟨q,hp1,hp2⟩ := ha.load1 (P := prog) (T := 23) (te := 9) (i := i) (x := str s) (by simp) (by simp) (by simp) (by simp [strCells,hb])
   rw [List.length_cons,L25x0q]
   simp only [aBin_lss,bnd_some,Int.ofNat_lt,hlt,decide_true,kifB_true,hp1,hp2]
   refine bndV_func (by simpa using c_itself K s) ?_
   obtain ⟨x,hx⟩ : ∃ n,aLookup prog K 75 (.map (some b)) (str s) false = some (i64 n) := by
    rw [aLookup_map,hm]
    simp only [tm75,Option.bind_some,mapOf_map,keyOk,if_true,hs.ok]
    rcases hs.get (k := s) with ⟨_,v,g1,n,rfl⟩ | ⟨_,g1⟩
    · rw [g1]; exact ⟨n,by simp⟩
    · rw [g1]; exact ⟨0,by simp [cok,isLit]⟩
   simp only [hx,bnd_some,aBin_add,aUpdate_map,hm,tm75,Option.bind_some,mapOf_map,keyOk,hs.ok,and_self,if_true,bndS_some,wrap_succ (show i + 1 < 2 ^ 63 by omega)]
   exact ih (i + 1) _ (addKey ks s) _ _ _ _ _ _ _ _ _ _ _ _ _ _ _ _ _ _ _ _ _ _ (by rw [← List.drop_drop,hd]; rfl) hlt (hp.set hbH) (ha.set (hcells_map hm)) (get_set hm) (hs.put ⟨_,rfl⟩) hf
theorem c_onceS {l : List (List UInt8)} {H : AHeap} {v : Value} (ha : Arr H 1 v (strCells l)) (hl : l.length < 2 ^ 63) : ACalls prog 25 [v,.func (.func 26) #[] #[]] H (.bool (onceB l)) H := by
 refine acalls_pure MixT func25 (by decide) rfl ?_
 rw [d25]
 have hlen := (ha.pre (.app H [.map []])).len (P := prog) (T := 23) (e := 9) (by simp)
 simp [strCells] at hlen
 simp [hlen]
 exact ⟨l.length + 1,onceS_loop (H := H) hl _ rfl (fun K p => ⟨rfl,p⟩) H.length (Nat.le_refl _) l 0 [] [] _ _ _ _ _ _ _ _ _ _ _ _ _ _ _ _ _ _ _ _ _ _ rfl (by omega) (.app _ _) (ha.pre (.app _ _)) (by simp) trivial rfl⟩
structure Rul where
 name : List UInt8
 byL : List UInt8
 nodes : List Nod
 forM : Int
 every : Int
 repeatM : Int
 mutes : List (List UInt8)
 route : List UInt8
def Rul.cells (r : Rul) (nv mv : Value) : List Value := [str r.name,str r.byL,nv,i64 r.forM,i64 r.every,i64 r.repeatM,mv,str r.route]
def Rul.mayB (r : Rul) : Bool := [mayName r.name,decide (r.byL = []) || mayName r.byL,mayName r.route,!decide (r.route = [109,101,116,97]),decide (r.forM ≥ 0) && decide (r.forM ≤ 1000),decide (r.every ≥ 1) && decide (r.every ≤ 100),
 decide (r.repeatM ≥ 1) && decide (r.repeatM ≤ 10000),decide ((r.mutes.length : Int) ≤ 4),!(r.mutes.any fun s => !mayName s),onceB r.mutes,right r.nodes].all id
theorem all_lit {H : AHeap} {l : List Bool} (hl : l.length < 2 ^ 63) : ACalls prog 20 [.slice (some ⟨H.length,0,some l.length⟩) l.length l.length] (H ++ [.cells (l.map .bool) 4]) (i64 (errno (l.all id))) (H ++ [.cells (l.map .bool) 4]) := by
 have := arr1_new (H := H) (T := 4) (l.map Value.bool) []
 simp only [List.length_map,List.map_map] at this
 exact c_all (l := l) (by simpa [boolCells,Function.comp_def] using this) hl
theorem c_rule {H : AHeap} {r : Rul} {nv mv : Value} (hn : NodesAt H nv r.nodes) (hm : Arr H 1 mv (strCells r.mutes)) (hml : r.mutes.length < 2 ^ 63) : ACalls prog 7 [.agg (r.cells nv mv).toArray] H (i64 (errno r.mayB)) H := by
 refine acalls_pure MixT func7 (by decide) rfl ?_
 rw [d7]
 have h1 : nv.oneCell' = true := by obtain ⟨cl,h,_⟩ := hn; exact h.one
 have h2 := hm.one
 have hlen := fun X => (hm.pre (.app H X)).len (P := prog) (T := 23) (e := 9) (by simp)
 simp [strCells] at hlen
 simp [aNew_agg,Rul.cells,h1,h2]
 refine bndD_same (c_mayName _ _) ?_
 simp +contextual
 refine bndD_gcall (.bool (mayName r.byL)) (by simp) (fun h => ?_) ?_
 · simp only [h,gsel_ff]; exact c_mayName _ _
 simp +contextual
 refine bndD_same (c_mayName _ _) ?_
 simp
 refine bndD_same (c_among _ _ _ _) ?_
 simp
 refine bndD_same (c_among _ _ _ _) ?_
 simp
 refine bndD_same (c_among _ _ _ _) ?_
 simp [hlen]
 refine bndD_same (c_containsS (hm.pre (.app _ _)) hml (c_rule1 _)) ?_
 simp
 refine bndD_same (c_onceS (hm.pre (.app _ _)) hml) ?_
 simp
 refine bndD_same (c_right (hn.pre (.app _ _))) ?_
 refine bndD_of (sliceLit1 (e := 4) (zv := .bool false) (l := [mayName r.name,decide (r.byL = []) || mayName r.byL,mayName r.route,!decide (r.route = [109,101,116,97]),decide (r.forM ≥ 0) && decide (r.forM ≤ 1000),decide (r.every ≥ 1) && decide (r.every ≤ 100),
  decide (r.repeatM ≥ 1) && decide (r.repeatM ≤ 10000),decide ((r.mutes.length : Int) ≤ 4),!(r.mutes.any fun s => !mayName s),onceB r.mutes,right r.nodes].map .bool) (by simp) (by simp) rfl (by simp)) (.inl rfl) ?_
 refine bndD_of (all_lit (by simp)) (.inl rfl) ?_
 exact ⟨rfl,_,List.append_assoc _ _ _⟩
end Go.Vi
namespace Go.Vi
open Go Go.Proofs Go.Proofs.Try
structure Mut where
 name : List UInt8
 days : List Bool
 fromM : Int
 toM : Int
def Mut.cells (m : Mut) : List Value := str m.name :: (m.days.map .bool ++ [i64 m.fromM,i64 m.toM])
def Mut.mayB (m : Mut) : Bool := [mayName m.name,m.days.any (true == ·),decide (m.fromM ≥ 0) && decide (m.fromM ≤ 1439),decide (m.toM ≥ 1) && decide (m.toM ≤ 1440),m.fromM != m.toM].all id
theorem Mut.one (m : Mut) : ∀ v ∈ m.cells,v.oneCell' = true := by
 intro v hv
 simp only [Mut.cells,List.mem_cons,List.mem_append,List.mem_map,List.not_mem_nil,or_false] at hv
 rcases hv with rfl | ⟨b,_,rfl⟩ | rfl | rfl <;> rfl
theorem c_mute {H : AHeap} {m : Mut} (hd : m.days.length = 7) : ACalls prog 9 [.agg m.cells.toArray] H (i64 (errno m.mayB)) H := by
 refine acalls_pure MixT func9 (by decide) rfl ?_
 rw [d9]
 obtain ⟨name,days,fr,to⟩ := m
 simp only at hd
 match days,hd with
 | [d0, d1, d2, d3, d4, d5, d6], _ =>
   simp [aNew_agg,Mut.cells]
   refine bndD_same (c_mayName _ _) ?_
   simp [aSliceOp,aLow,aHigh]
   refine bndD_same (c_containsB (l := [d0,d1,d2,d3,d4,d5,d6]) ?_ (by simp)) ?_
   · refine .mk _ _ _ _ _ _ _ rfl (by simp; rfl) rfl (by simp) fun i e he => ?_
     match i,he with
     | 0,he | 1,he | 2,he | 3,he | 4,he | 5,he | 6,he => simp [boolCells] at he; subst he; rfl
     | n + 7,he => simp [boolCells] at he
   simp
   refine bndD_same (c_among _ _ _ _) ?_
   simp
   refine bndD_same (c_among _ _ _ _) ?_
   simp
   refine bndD_of (sliceLit1 (e := 4) (zv := .bool false) (l := [mayName name,[d0,d1,d2,d3,d4,d5,d6].any (true == ·),decide (fr ≥ 0) && decide (fr ≤ 1439),decide (to ≥ 1) && decide (to ≤ 1440),fr != to].map .bool) (by simp) (by simp) rfl (by simp)) (.inl rfl) ?_
   refine bndD_of (all_lit (by simp)) (.inl rfl) ?_
   exact ⟨rfl,_,List.append_assoc _ _ _⟩
def MutesAt (H : AHeap) (v : Value) (ms : List Mut) : Prop := Arr H 10 v (ms.map Mut.cells) ∧ ∀ m ∈ ms,m.days.length = 7
theorem MutesAt.pre {H K v ms} (h : MutesAt H v ms) (p : Pre H K) : MutesAt K v ms := ⟨h.1.pre p,h.2⟩
theorem idxM_loop {l : List Mut} {p : Mut → Bool} {g : FuncId} {cap : Array Value} {H : AHeap} {v : Value} {k : Value → AHeap → Prop} (ha : MutesAt H v l) (hl : l.length < 2 ^ 63) (hp : ∀ m ∈ l,ACalls prog g ([.agg m.cells.toArray] ++ cap.toList) H (.bool (p m)) H) :
  ∀ (r : List Mut) (i : Nat) (s2 s3 s4 s5 s9 s10 s11 s12 s13 s14 s15 s16 s17 s18 : Value), l.drop i = r → i ≤ l.length → k (i64 (offI i (idxF p r))) H →
    L50x0 (r.length + 1) k [v,.func (.func g) #[] cap,s2,s3,s4,s5,v,i64 l.length,i64 i,s9,s10,s11,s12,s13,s14,s15,s16,s17,s18] H := by
 intro r
 induction r with
 | nil =>
   intro i s2 s3 s4 s5 s9 s10 s11 s12 s13 s14 s15 s16 s17 s18 hd hi hk
   have hle : l.length ≤ i := by simpa using hd
   rw [List.length_nil,L50x0q]
   have : ¬ i < l.length := by omega
   simp [this]
   simpa [idxF,offI] using hk
 | cons b r ih =>
   intro i s2 s3 s4 s5 s9 s10 s11 s12 s13 s14 s15 s16 s17 s18 hd hi hk
   have hb : l[i]? = some b := by rw [← List.head?_drop,hd]; rfl
   have hlt : i < l.length := (List.getElem?_eq_some_iff.1 hb).1
   obtain ⟨q,hp1,hp2⟩ := ha.1.load (P := prog) (T := 40) (te := 28) (i := i) (e := b.cells) (by simp) (by simp) (by simp) (by simp [hb])
   rw [List.length_cons,L50x0q]
   simp only [aBin_lss,bnd_some,Int.ofNat_lt,hlt,decide_true,kifB_true,hp1,hp2]
   refine bndV_func (by simpa using hp b (List.mem_of_getElem? hb)) ?_
   rw [offI_cons] at hk
   refine kifB_bool (fun h => ?_) (fun h => ?_)
   · rw [if_pos h] at hk
     exact hk
   · rw [if_neg (by simp [h])] at hk
     simp [show i + 1 < 2 ^ 63 by omega]
     exact ih (i + 1) _ _ _ _ _ _ _ _ _ _ _ _ _ _ (by rw [← List.drop_drop,hd]; rfl) hlt hk
theorem c_containsM {l : List Mut} {p : Mut → Bool} {g : FuncId} {cap : Array Value} {H : AHeap} {v : Value} (ha : MutesAt H v l) (hl : l.length < 2 ^ 63) (hp : ∀ m ∈ l,ACalls prog g ([.agg m.cells.toArray] ++ cap.toList) H (.bool (p m)) H) :
  ACalls prog 37 [v,.func (.func g) #[] cap] H (.bool (l.any p)) H := by
 refine acalls_pure MixT func37 (by decide) rfl ?_
 rw [d37]
 have hi : ACalls prog 50 [v,.func (.func g) #[] cap] H (i64 (idxF p l)) H := by
  refine acalls_pure MixT func50 (by decide) rfl ?_
  rw [d50]
  have hlen := ha.1.len (P := prog) (T := 40) (e := 28) (by simp)
  simp at hlen
  simp [hlen]
  refine ⟨l.length + 1,idxM_loop ha hl hp l 0 _ _ _ _ _ _ _ _ _ _ _ _ _ _ rfl (by omega) ⟨?_,[],by simp⟩⟩
  unfold offI
  split <;> simp [*]
 refine bndC_of hi ?_
 simp
 exact idxF_any _ _
theorem onceR_loop {cl : List (List Value)} {names : List (List UInt8)} {g : FuncId} {H : AHeap} {v : Value} {k : Value → AHeap → Prop} (hl : cl.length < 2 ^ 63) (hnl : names.length = cl.length) (hone : ∀ c ∈ cl,∀ v ∈ c,v.oneCell' = true)
  (hg : ∀ (i : Nat) c s K,cl[i]? = some c → names[i]? = some s → ACalls prog g [.agg c.toArray] K (str s) K) (w : Bool) (hw : w = onceB names) (hk : ∀ K,Pre H K → k (.bool w) K) (b : Nat) (hbH : H.length ≤ b) :
  ∀ (r : List (List UInt8)) (i : Nat) (es : List (Value × Value)) (ks : List (List UInt8)) (K : AHeap) (s2 s3 s4 s6 s7 s8 s12 s13 s14 s15 s16 s17 s18 s19 s20 s21 s22 s23 s24 s25 s26 : Value), names.drop i = r → i ≤ names.length → Pre H K → Arr K 8 v cl → K[b]? = some (.map es) → SMap QCount es ks → r.foldl addKey ks = keysOf names →
    L33x0 (r.length + 1) k [v,.func (.func g) #[] #[],s2,s3,s4,.map (some b),s6,s7,s8,v,i64 cl.length,i64 i,s12,s13,s14,s15,s16,s17,s18,s19,s20,s21,s22,s23,s24,s25,s26] K := by
 intro r
 induction r with
 | nil =>
   intro i es ks K s2 s3 s4 s6 s7 s8 s12 s13 s14 s15 s16 s17 s18 s19 s20 s21 s22 s23 s24 s25 s26 hd hi hp ha hm hs hf
   have hle : names.length ≤ i := by simpa using hd
   rw [List.length_nil,L33x0q]
   have : ¬ i < cl.length := by omega
   have hlen := ha.len (P := prog) (T := 39) (e := 25) (by simp)
   have hml : aLen prog K 75 (.map (some b)) = some (i64 es.length) := by simp [aLen,hm]
   simp [this,hlen,hml]
   have := hk K hp
   rw [hw,onceB,← hf,List.foldl_nil,← hs.len,hnl] at this
   exact this
 | cons s r ih =>
   intro i es ks K s2 s3 s4 s6 s7 s8 s12 s13 s14 s15 s16 s17 s18 s19 s20 s21 s22 s23 s24 s25 s26 hd hi hp ha hm hs hf
   have hb : names[i]? = some s := by rw [← List.head?_drop,hd]; rfl
   have hlt : i < cl.length := by have := (List.getElem?_eq_some_iff.1 hb).1; omega
   have hc : cl[i]? = some cl[i] := List.getElem?_eq_getElem hlt
   generalize cl[i] = c at hc
   obtain ⟨q,hp1,hp2⟩ := ha.load (P := prog) (T := 39) (te := 25) (i := i) (e := c) (by simp) (by simp) (by simp) hc
   have hz : c.length = 8 := ha.elen hc
   have hst : ∀ v ∈ c,v.oneCell' = true := hone c (List.mem_of_getElem? hc)
   have hbl : b < K.length := (List.getElem?_eq_some_iff.1 hm).1
   rw [List.length_cons,L33x0q]
   simp only [aBin_lss,bnd_some,Int.ofNat_lt,hlt,decide_true,kifB_true,hp1,hp2]
   have hstA : storable (.agg c.toArray) = true := by simpa [storable] using hst
   simp [hz,hstA]
   rw [show (8 : Nat) = c.length from hz.symm,List.take_length]
   refine bndV_func (by simpa using hg i c s _ hc hb) ?_
   obtain ⟨x,hx⟩ : ∃ n,aLookup prog (K ++ [.cells c 25]) 75 (.map (some b)) (str s) false = some (i64 n) := by
    rw [aLookup_map,get_more hm]
    simp only [tm75,Option.bind_some,mapOf_map,keyOk,if_true,hs.ok]
    rcases hs.get (k := s) with ⟨_,v,g1,n,rfl⟩ | ⟨_,g1⟩
    · rw [g1]; exact ⟨n,by simp⟩
    · rw [g1]; exact ⟨0,by simp [cok,isLit]⟩
   simp only [hx,bnd_some,aBin_add,aUpdate_map,get_more hm,tm75,Option.bind_some,mapOf_map,keyOk,hs.ok,and_self,if_true,bndS_some,wrap_succ (show i + 1 < 2 ^ 63 by omega)]
   exact ih (i + 1) _ (addKey ks s) _ _ _ _ _ _ _ _ _ _ _ _ _ _ _ _ _ _ _ _ _ _ (by rw [← List.drop_drop,hd]; rfl) (by omega) ((hp.more _).set hbH) ((ha.pre (.app _ _)).set (hcells_map (get_more hm))) (get_set (get_more hm)) (hs.put ⟨_,rfl⟩) hf
theorem c_onceR {cl : List (List Value)} {names : List (List UInt8)} {g : FuncId} {H : AHeap} {v : Value} (hl : cl.length < 2 ^ 63) (hnl : names.length = cl.length) (hone : ∀ c ∈ cl,∀ v ∈ c,v.oneCell' = true)
  (hg : ∀ (i : Nat) c s K,cl[i]? = some c → names[i]? = some s → ACalls prog g [.agg c.toArray] K (str s) K) (ha : Arr H 8 v cl) : ACalls prog 33 [v,.func (.func g) #[] #[]] H (.bool (onceB names)) H := by
 refine acalls_pure MixT func33 (by decide) rfl ?_
 rw [d33]
 have hlen := (ha.pre (.app H [.map []])).len (P := prog) (T := 39) (e := 25) (by simp)
 simp [hlen]
 exact ⟨names.length + 1,onceR_loop (H := H) hl hnl hone hg _ rfl (fun K p => ⟨rfl,p⟩) H.length (Nat.le_refl _) names 0 [] [] _ _ _ _ _ _ _ _ _ _ _ _ _ _ _ _ _ _ _ _ _ _ rfl (by omega) (.app _ _) (ha.pre (.app _ _)) (by simp) trivial rfl⟩
theorem onceM_loop {cl : List (List Value)} {names : List (List UInt8)} {g : FuncId} {H : AHeap} {v : Value} {k : Value → AHeap → Prop} (hl : cl.length < 2 ^ 63) (hnl : names.length = cl.length) (hone : ∀ c ∈ cl,∀ v ∈ c,v.oneCell' = true)
  (hg : ∀ (i : Nat) c s K,cl[i]? = some c → names[i]? = some s → ACalls prog g [.agg c.toArray] K (str s) K) (w : Bool) (hw : w = onceB names) (hk : ∀ K,Pre H K → k (.bool w) K) (b : Nat) (hbH : H.length ≤ b) :
  ∀ (r : List (List UInt8)) (i : Nat) (es : List (Value × Value)) (ks : List (List UInt8)) (K : AHeap) (s2 s3 s4 s6 s7 s8 s12 s13 s14 s15 s16 s17 s18 s19 s20 s21 s22 s23 s24 s25 s26 : Value), names.drop i = r → i ≤ names.length → Pre H K → Arr K 10 v cl → K[b]? = some (.map es) → SMap QCount es ks → r.foldl addKey ks = keysOf names →
    L35x0 (r.length + 1) k [v,.func (.func g) #[] #[],s2,s3,s4,.map (some b),s6,s7,s8,v,i64 cl.length,i64 i,s12,s13,s14,s15,s16,s17,s18,s19,s20,s21,s22,s23,s24,s25,s26] K := by
 intro r
 induction r with
 | nil =>
   intro i es ks K s2 s3 s4 s6 s7 s8 s12 s13 s14 s15 s16 s17 s18 s19 s20 s21 s22 s23 s24 s25 s26 hd hi hp ha hm hs hf
   have hle : names.length ≤ i := by simpa using hd
   rw [List.length_nil,L35x0q]
   have : ¬ i < cl.length := by omega
   have hlen := ha.len (P := prog) (T := 40) (e := 28) (by simp)
   have hml : aLen prog K 75 (.map (some b)) = some (i64 es.length) := by simp [aLen,hm]
   simp [this,hlen,hml]
   have := hk K hp
   rw [hw,onceB,← hf,List.foldl_nil,← hs.len,hnl] at this
   exact this
 | cons s r ih =>
   intro i es ks K s2 s3 s4 s6 s7 s8 s12 s13 s14 s15 s16 s17 s18 s19 s20 s21 s22 s23 s24 s25 s26 hd hi hp ha hm hs hf
   have hb : names[i]? = some s := by rw [← List.head?_drop,hd]; rfl
   have hlt : i < cl.length := by have := (List.getElem?_eq_some_iff.1 hb).1; omega
   have hc : cl[i]? = some cl[i] := List.getElem?_eq_getElem hlt
   generalize cl[i] = c at hc
   obtain ⟨q,hp1,hp2⟩ := ha.load (P := prog) (T := 40) (te := 28) (i := i) (e := c) (by simp) (by simp) (by simp) hc
   have hz : c.length = 10 := ha.elen hc
   have hst : ∀ v ∈ c,v.oneCell' = true := hone c (List.mem_of_getElem? hc)
   have hbl : b < K.length := (List.getElem?_eq_some_iff.1 hm).1
   rw [List.length_cons,L35x0q]
   simp only [aBin_lss,bnd_some,Int.ofNat_lt,hlt,decide_true,kifB_true,hp1,hp2]
   have hstA : storable (.agg c.toArray) = true := by simpa [storable] using hst
   simp [hz,hstA]
   rw [show (10 : Nat) = c.length from hz.symm,List.take_length]
   refine bndV_func (by simpa using hg i c s _ hc hb) ?_
   obtain ⟨x,hx⟩ : ∃ n,aLookup prog (K ++ [.cells c 28]) 75 (.map (some b)) (str s) false = some (i64 n) := by
    rw [aLookup_map,get_more hm]
    simp only [tm75,Option.bind_some,mapOf_map,keyOk,if_true,hs.ok]
    rcases hs.get (k := s) with ⟨_,v,g1,n,rfl⟩ | ⟨_,g1⟩
    · rw [g1]; exact ⟨n,by simp⟩
    · rw [g1]; exact ⟨0,by simp [cok,isLit]⟩
   simp only [hx,bnd_some,aBin_add,aUpdate_map,get_more hm,tm75,Option.bind_some,mapOf_map,keyOk,hs.ok,and_self,if_true,bndS_some,wrap_succ (show i + 1 < 2 ^ 63 by omega)]
   exact ih (i + 1) _ (addKey ks s) _ _ _ _ _ _ _ _ _ _ _ _ _ _ _ _ _ _ _ _ _ _ (by rw [← List.drop_drop,hd]; rfl) (by omega) ((hp.more _).set hbH) ((ha.pre (.app _ _)).set (hcells_map (get_more hm))) (get_set (get_more hm)) (hs.put ⟨_,rfl⟩) hf
theorem c_onceM {cl : List (List Value)} {names : List (List UInt8)} {g : FuncId} {H : AHeap} {v : Value} (hl : cl.length < 2 ^ 63) (hnl : names.length = cl.length) (hone : ∀ c ∈ cl,∀ v ∈ c,v.oneCell' = true)
  (hg : ∀ (i : Nat) c s K,cl[i]? = some c → names[i]? = some s → ACalls prog g [.agg c.toArray] K (str s) K) (ha : Arr H 10 v cl) : ACalls prog 35 [v,.func (.func g) #[] #[]] H (.bool (onceB names)) H := by
 refine acalls_pure MixT func35 (by decide) rfl ?_
 rw [d35]
 have hlen := (ha.pre (.app H [.map []])).len (P := prog) (T := 40) (e := 28) (by simp)
 simp [hlen]
 exact ⟨names.length + 1,onceM_loop (H := H) hl hnl hone hg _ rfl (fun K p => ⟨rfl,p⟩) H.length (Nat.le_refl _) names 0 [] [] _ _ _ _ _ _ _ _ _ _ _ _ _ _ _ _ _ _ _ _ _ _ rfl (by omega) (.app _ _) (ha.pre (.app _ _)) (by simp) trivial rfl⟩
theorem c_cfg1 {H : AHeap} {r : Rul} {nv mv : Value} (h1 : nv.oneCell' = true) (h2 : mv.oneCell' = true) : ACalls prog 34 [.agg (r.cells nv mv).toArray] H (str r.name) H := by
 refine acalls_pure MixT func34 (by decide) rfl ?_
 rw [d34]
 simp [aNew_agg,Rul.cells,h1,h2]
theorem c_cfg2 {H : AHeap} {m : Mut} (hd : m.days.length = 7) : ACalls prog 36 [.agg m.cells.toArray] H (str m.name) H := by
 refine acalls_pure MixT func36 (by decide) rfl ?_
 rw [d36]
 obtain ⟨name,days,fr,to⟩ := m
 simp only at hd
 match days,hd with
 | [d0,d1,d2,d3,d4,d5,d6],_ => simp [aNew_agg,Mut.cells]
theorem c_cfg3 {H : AHeap} {m : Mut} {b : Nat} {s : List UInt8} (hd : m.days.length = 7) (hb : hcells H b = some [str s]) : ACalls prog 38 [.agg m.cells.toArray,.pointer (some ⟨b,0,some 1⟩)] H (.bool (decide (m.name = s))) H := by
 refine acalls_pure MixT func38 (by decide) rfl ?_
 rw [d38]
 have hX := fun X : AHeap => hcells_more (X := X) hb
 obtain ⟨name,days,fr,to⟩ := m
 simp only at hd
 match days,hd with
 | [d0,d1,d2,d3,d4,d5,d6],_ => simp [aNew_agg,Mut.cells,hX]
def RulesAt (H : AHeap) (v : Value) (rs : List Rul) : Prop := ∃ cl : List (List Value),Arr H 8 v cl ∧ cl.length = rs.length ∧ ∀ (i : Nat) r,rs[i]? = some r → ∃ nv mv,cl[i]? = some (r.cells nv mv) ∧ NodesAt H nv r.nodes ∧ Arr H 1 mv (strCells r.mutes) ∧ r.mutes.length < 2 ^ 63
theorem RulesAt.pre {H K v rs} (h : RulesAt H v rs) (p : Pre H K) : RulesAt K v rs := by
 obtain ⟨cl,h1,h2,h3⟩ := h
 refine ⟨cl,h1.pre p,h2,fun i r hi => ?_⟩
 obtain ⟨nv,mv,q1,q2,q3,q4⟩ := h3 i r hi
 exact ⟨nv,mv,q1,q2.pre p,q3.pre p,q4⟩
structure Cfg where
 rules : List Rul
 mutes : List Mut
 late : Int
 limit : Int
def Cfg.cells (c : Cfg) (rv mv : Value) : List Value := [rv,mv,i64 c.late,i64 c.limit]
def Cfg.head (c : Cfg) : Bool := [decide (c.late ≥ 0) && decide (c.late ≤ 100),decide (c.limit ≥ 1) && decide (c.limit ≤ 1000),onceB (c.rules.map (·.name)),onceB (c.mutes.map (·.name))].all id
def Cfg.ruleOk (c : Cfg) (r : Rul) : Bool := r.mayB && r.mutes.all fun s => c.mutes.any fun m => decide (m.name = s)
def Cfg.mayB (c : Cfg) : Bool := if (decide ((c.rules.length : Int) > 8) || decide ((c.mutes.length : Int) > 4)) = true then false else c.head && c.mutes.all Mut.mayB && c.rules.all c.ruleOk
theorem max_errno (a b : Bool) : (if errno b > errno a then errno b else errno a) = errno (a && b) := by cases a <;> cases b <;> simp [errno]
attribute [local simp] S16x0q
theorem cfg_inner {c : Cfg} {H : AHeap} {rv mv sv : Value} {cb : Nat} {l : List (List UInt8)} {n1 : Nat} {k : Value → AHeap → Prop} (hl : l.length < 2 ^ 63) (hml : c.mutes.length < 2 ^ 63) (j : Nat) (hj : j + 1 < 2 ^ 63) (w : Bool)
  (hk : ∀ K (s0 s2 s4 s5 s6 s7 s8 s9 s10 s11 s12 s13 s14 s15 s16 s17 s18 s19 s20 s21 s22 s23 s24 s25 s26 s27 s28 s29 s30 s31 s32 s33 s34 s35 s36 s37 s38 s39 s40 s41 s42 s43 s44 s45 s46 s50 s51 s52 s53 s54 s55 s56 s57 s58 s59 s60 s61 s62 s63 s64 s65 s66 s67 s68 s69 s70 s71 : Value),Pre H K → MutesAt K mv c.mutes → hcells K cb = some (c.cells rv mv) → L16x1 n1 k [s0,.pointer (some ⟨cb,0,some 4⟩),s2,i64 (errno w),s4,s5,s6,s7,s8,s9,s10,s11,s12,s13,s14,s15,s16,s17,s18,s19,s20,s21,s22,s23,s24,s25,s26,s27,s28,s29,s30,s31,s32,s33,s34,s35,s36,s37,s38,s39,s40,s41,s42,s43,s44,s45,s46,rv,i64 c.rules.length,i64 ((j + 1 : Nat) : Int),s50,s51,s52,s53,s54,s55,s56,s57,s58,s59,s60,s61,s62,s63,s64,s65,s66,s67,s68,s69,s70,s71] K) :
  ∀ (r : List (List UInt8)) (i : Nat) (ok : Bool) (K : AHeap) (s0 s2 s4 s5 s6 s7 s8 s9 s10 s11 s12 s13 s14 s15 s16 s17 s18 s19 s20 s21 s22 s23 s24 s25 s26 s27 s28 s29 s30 s31 s32 s33 s34 s35 s36 s37 s38 s39 s40 s41 s42 s43 s44 s45 s46 s50 s51 s52 s53 s54 s55 s56 s57 s61 s62 s63 s64 s65 s66 s67 s68 s69 s70 s71 : Value), l.drop i = r → i ≤ l.length → Pre H K → MutesAt K mv c.mutes → hcells K cb = some (c.cells rv mv) → Arr K 1 sv (strCells l) →
    w = (ok && r.all fun s => c.mutes.any fun m => decide (m.name = s)) →
    L16x2 (r.length + 1) n1 k [s0,.pointer (some ⟨cb,0,some 4⟩),s2,i64 (errno ok),s4,s5,s6,s7,s8,s9,s10,s11,s12,s13,s14,s15,s16,s17,s18,s19,s20,s21,s22,s23,s24,s25,s26,s27,s28,s29,s30,s31,s32,s33,s34,s35,s36,s37,s38,s39,s40,s41,s42,s43,s44,s45,s46,rv,i64 c.rules.length,i64 j,s50,s51,s52,s53,s54,s55,s56,s57,sv,i64 l.length,i64 i,s61,s62,s63,s64,s65,s66,s67,s68,s69,s70,s71] K := by
 intro r
 induction r with
 | nil =>
   intro i ok K s0 s2 s4 s5 s6 s7 s8 s9 s10 s11 s12 s13 s14 s15 s16 s17 s18 s19 s20 s21 s22 s23 s24 s25 s26 s27 s28 s29 s30 s31 s32 s33 s34 s35 s36 s37 s38 s39 s40 s41 s42 s43 s44 s45 s46 s50 s51 s52 s53 s54 s55 s56 s57 s61 s62 s63 s64 s65 s66 s67 s68 s69 s70 s71 hd hi hp hm hc ha hw
   have hle : l.length ≤ i := by simpa using hd
   rw [List.length_nil,L16x2q]
   have : ¬ i < l.length := by omega
   simp [this,hj]
   simp at hw
   rw [← hw]
   exact hk K _ _ _ _ _ _ _ _ _ _ _ _ _ _ _ _ _ _ _ _ _ _ _ _ _ _ _ _ _ _ _ _ _ _ _ _ _ _ _ _ _ _ _ _ _ _ _ _ _ _ _ _ _ _ _ _ _ _ _ _ _ _ _ _ _ _ _ hp hm hc
 | cons s r ih =>
   intro i ok K s0 s2 s4 s5 s6 s7 s8 s9 s10 s11 s12 s13 s14 s15 s16 s17 s18 s19 s20 s21 s22 s23 s24 s25 s26 s27 s28 s29 s30 s31 s32 s33 s34 s35 s36 s37 s38 s39 s40 s41 s42 s43 s44 s45 s46 s50 s51 s52 s53 s54 s55 s56 s57 s61 s62 s63 s64 s65 s66 s67 s68 s69 s70 s71 hd hi hp hm hc ha hw
   have hb : l[i]? = some s := by rw [← List.head?_drop,hd]; rfl
   have hlt : i < l.length := (List.getElem?_eq_some_iff.1 hb).1
   obtain ⟨q,hp1,hp2⟩ := ha.load1 (P := prog) (T := 23) (te := 9) (i := i) (x := str s) (by simp) (by simp) (by simp) (by simp [strCells,hb])
   have hX := fun X : AHeap => hcells_more (X := X) hc
   have hlX : ∀ X : AHeap,hlen (K ++ X) cb = some 4 := fun X => by rw [hcells_len (hX X)]; rfl
   rw [List.length_cons,L16x2q]
   simp [hlt,hp1,hp2,hX,hlX,Cfg.cells]
   refine bndC_of (c_containsM (p := fun m => decide (m.name = s)) (hm.pre (.app _ _)) hml fun m hmm => ?_) ?_
   · exact c_cfg3 (hm.2 m hmm) (by simp)
   simp
   rw [List.all_cons] at hw
   refine kifB_bool (fun h => ?_) (fun h => ?_)
   · simp [show i + 1 < 2 ^ 63 by omega]
     have h' : (c.mutes.any fun m => decide (m.name = s)) = false := by simpa using h
     rw [h',Bool.false_and,Bool.and_false] at hw
     exact ih (i + 1) false _ _ _ _ _ _ _ _ _ _ _ _ _ _ _ _ _ _ _ _ _ _ _ _ _ _ _ _ _ _ _ _ _ _ _ _ _ _ _ _ _ _ _ _ _ _ _ _ _ _ _ _ _ _ _ _ _ _ _ _ _ _ _ _ _ (by rw [← List.drop_drop,hd]; rfl) hlt (hp.more _) (hm.pre (.app _ _)) (hX _) (ha.pre (.app _ _)) (by simp [hw])
   · simp [show i + 1 < 2 ^ 63 by omega]
     have h' : (c.mutes.any fun m => decide (m.name = s)) = true := by simpa using h
     rw [h',Bool.true_and] at hw
     exact ih (i + 1) ok _ _ _ _ _ _ _ _ _ _ _ _ _ _ _ _ _ _ _ _ _ _ _ _ _ _ _ _ _ _ _ _ _ _ _ _ _ _ _ _ _ _ _ _ _ _ _ _ _ _ _ _ _ _ _ _ _ _ _ _ _ _ _ _ _ (by rw [← List.drop_drop,hd]; rfl) hlt (hp.more _) (hm.pre (.app _ _)) (hX _) (ha.pre (.app _ _)) hw
theorem cfg_rules {c : Cfg} {H : AHeap} {rv mv : Value} {cb : Nat} {k : Value → AHeap → Prop} (hrl : c.rules.length < 2 ^ 63) (hml : c.mutes.length < 2 ^ 63) (hr0 : RulesAt H rv c.rules) (w : Bool) (hk : ∀ K,Pre H K → k (i64 (errno w)) K) :
  ∀ (r : List Rul) (i : Nat) (ok : Bool) (K : AHeap) (s0 s2 s4 s5 s6 s7 s8 s9 s10 s11 s12 s13 s14 s15 s16 s17 s18 s19 s20 s21 s22 s23 s24 s25 s26 s27 s28 s29 s30 s31 s32 s33 s34 s35 s36 s37 s38 s39 s40 s41 s42 s43 s44 s45 s46 s50 s51 s52 s53 s54 s55 s56 s57 s58 s59 s60 s61 s62 s63 s64 s65 s66 s67 s68 s69 s70 s71 : Value), c.rules.drop i = r → i ≤ c.rules.length → Pre H K → MutesAt K mv c.mutes → hcells K cb = some (c.cells rv mv) →
    w = (ok && r.all c.ruleOk) →
    L16x1 (r.length + 1) k [s0,.pointer (some ⟨cb,0,some 4⟩),s2,i64 (errno ok),s4,s5,s6,s7,s8,s9,s10,s11,s12,s13,s14,s15,s16,s17,s18,s19,s20,s21,s22,s23,s24,s25,s26,s27,s28,s29,s30,s31,s32,s33,s34,s35,s36,s37,s38,s39,s40,s41,s42,s43,s44,s45,s46,rv,i64 c.rules.length,i64 i,s50,s51,s52,s53,s54,s55,s56,s57,s58,s59,s60,s61,s62,s63,s64,s65,s66,s67,s68,s69,s70,s71] K := by
 intro r
 induction r with
 | nil =>
   intro i ok K s0 s2 s4 s5 s6 s7 s8 s9 s10 s11 s12 s13 s14 s15 s16 s17 s18 s19 s20 s21 s22 s23 s24 s25 s26 s27 s28 s29 s30 s31 s32 s33 s34 s35 s36 s37 s38 s39 s40 s41 s42 s43 s44 s45 s46 s50 s51 s52 s53 s54 s55 s56 s57 s58 s59 s60 s61 s62 s63 s64 s65 s66 s67 s68 s69 s70 s71 hd hi hp hm hc hw
   have hle : c.rules.length ≤ i := by simpa using hd
   rw [List.length_nil,L16x1q]
   have : ¬ i < c.rules.length := by omega
   simp [this]
   simp at hw
   rw [← hw]
   exact hk K hp
 | cons x r ih =>
   intro i ok K s0 s2 s4 s5 s6 s7 s8 s9 s10 s11 s12 s13 s14 s15 s16 s17 s18 s19 s20 s21 s22 s23 s24 s25 s26 s27 s28 s29 s30 s31 s32 s33 s34 s35 s36 s37 s38 s39 s40 s41 s42 s43 s44 s45 s46 s50 s51 s52 s53 s54 s55 s56 s57 s58 s59 s60 s61 s62 s63 s64 s65 s66 s67 s68 s69 s70 s71 hd hi hp hm hc hw
   have hb : c.rules[i]? = some x := by rw [← List.head?_drop,hd]; rfl
   have hlt : i < c.rules.length := (List.getElem?_eq_some_iff.1 hb).1
   obtain ⟨cl,ha,hcl,hcc⟩ := hr0.pre hp
   obtain ⟨nv,xv,hx,hn,hxm,hxl⟩ := hcc _ _ hb
   obtain ⟨q,hp1,hp2⟩ := ha.load (P := prog) (T := 39) (te := 25) (i := i) (e := x.cells nv xv) (by simp) (by simp) (by simp) hx
   have h1 : nv.oneCell' = true := by obtain ⟨_,h,_⟩ := hn; exact h.one
   have h2 := hxm.one
   have hX := fun X : AHeap => hcells_more (X := X) hc
   have hlen := fun X : AHeap => (hxm.pre (.app K X)).len (P := prog) (T := 23) (e := 9) (by simp)
   simp [strCells] at hlen
   rw [List.length_cons,L16x1q]
   simp [hlt,hp1,hp2,Rul.cells,h1,h2]
   refine bndC_of (c_rule (r := x) (hn.pre (.app _ _)) (hxm.pre (.app _ _)) hxl) ?_
   simp [hlen,max_errno]
   rw [List.all_cons] at hw
   refine ⟨x.mutes.length + 1,cfg_inner (H := H) (c := c) (l := x.mutes) (sv := xv) hxl hml i (by omega) (ok && c.ruleOk x) ?_ x.mutes 0 (ok && x.mayB) _ _ _ _ _ _ _ _ _ _ _ _ _ _ _ _ _ _ _ _ _ _ _ _ _ _ _ _ _ _ _ _ _ _ _ _ _ _ _ _ _ _ _ _ _ _ _ _ _ _ _ _ _ _ _ _ _ _ _ _ _ _ _ _ _ rfl (by omega) (hp.more _) (hm.pre (.app _ _)) (hX _) (hxm.pre (.app _ _)) ?_⟩
   · intro K2 s0 s2 s4 s5 s6 s7 s8 s9 s10 s11 s12 s13 s14 s15 s16 s17 s18 s19 s20 s21 s22 s23 s24 s25 s26 s27 s28 s29 s30 s31 s32 s33 s34 s35 s36 s37 s38 s39 s40 s41 s42 s43 s44 s45 s46 s50 s51 s52 s53 s54 s55 s56 s57 s58 s59 s60 s61 s62 s63 s64 s65 s66 s67 s68 s69 s70 s71 hp2 hm2 hc2
     exact ih (i + 1) (ok && c.ruleOk x) K2 _ _ _ _ _ _ _ _ _ _ _ _ _ _ _ _ _ _ _ _ _ _ _ _ _ _ _ _ _ _ _ _ _ _ _ _ _ _ _ _ _ _ _ _ _ _ _ _ _ _ _ _ _ _ _ _ _ _ _ _ _ _ _ _ _ _ _ (by rw [← List.drop_drop,hd]; rfl) hlt hp2 hm2 hc2 (by rw [hw,Bool.and_assoc])
   · simp only [Cfg.ruleOk,Bool.and_assoc]
theorem cfg_mutes {c : Cfg} {H : AHeap} {rv mv : Value} {cb : Nat} {k : Value → AHeap → Prop} (hrl : c.rules.length < 2 ^ 63) (hml : c.mutes.length < 2 ^ 63) (hr0 : RulesAt H rv c.rules) (hm0 : MutesAt H mv c.mutes) (w : Bool) (hk : ∀ K,Pre H K → k (i64 (errno w)) K) :
  ∀ (r : List Mut) (i : Nat) (ok : Bool) (K : AHeap) (s0 s2 s4 s5 s6 s7 s8 s9 s10 s11 s12 s13 s14 s15 s16 s17 s18 s19 s20 s21 s22 s23 s24 s25 s26 s27 s28 s29 s30 s31 s32 s33 s34 s38 s39 s40 s41 s42 s43 s44 s45 s46 s47 s48 s49 s50 s51 s52 s53 s54 s55 s56 s57 s58 s59 s60 s61 s62 s63 s64 s65 s66 s67 s68 s69 s70 s71 : Value), c.mutes.drop i = r → i ≤ c.mutes.length → Pre H K → hcells K cb = some (c.cells rv mv) →
    w = (ok && r.all Mut.mayB && c.rules.all c.ruleOk) →
    L16x0 (r.length + 1) k [s0,.pointer (some ⟨cb,0,some 4⟩),s2,i64 (errno ok),s4,s5,s6,s7,s8,s9,s10,s11,s12,s13,s14,s15,s16,s17,s18,s19,s20,s21,s22,s23,s24,s25,s26,s27,s28,s29,s30,s31,s32,s33,s34,mv,i64 c.mutes.length,i64 i,s38,s39,s40,s41,s42,s43,s44,s45,s46,s47,s48,s49,s50,s51,s52,s53,s54,s55,s56,s57,s58,s59,s60,s61,s62,s63,s64,s65,s66,s67,s68,s69,s70,s71] K := by
 intro r
 induction r with
 | nil =>
   intro i ok K s0 s2 s4 s5 s6 s7 s8 s9 s10 s11 s12 s13 s14 s15 s16 s17 s18 s19 s20 s21 s22 s23 s24 s25 s26 s27 s28 s29 s30 s31 s32 s33 s34 s38 s39 s40 s41 s42 s43 s44 s45 s46 s47 s48 s49 s50 s51 s52 s53 s54 s55 s56 s57 s58 s59 s60 s61 s62 s63 s64 s65 s66 s67 s68 s69 s70 s71 hd hi hp hc hw
   have hle : c.mutes.length ≤ i := by simpa using hd
   rw [List.length_nil,L16x0q]
   have : ¬ i < c.mutes.length := by omega
   have hl4 : hlen K cb = some 4 := by rw [hcells_len hc]; rfl
   obtain ⟨cl,ha,hcl,hcc⟩ := hr0.pre hp
   have hlen := ha.len (P := prog) (T := 39) (e := 25) (by simp)
   rw [hcl] at hlen
   simp [this,hc,hl4,Cfg.cells,hlen]
   exact ⟨c.rules.length + 1,cfg_rules hrl hml hr0 w hk c.rules 0 ok K _ _ _ _ _ _ _ _ _ _ _ _ _ _ _ _ _ _ _ _ _ _ _ _ _ _ _ _ _ _ _ _ _ _ _ _ _ _ _ _ _ _ _ _ _ _ _ _ _ _ _ _ _ _ _ _ _ _ _ _ _ _ _ _ _ _ _ rfl (by omega) hp (hm0.pre hp) hc (by simpa using hw)⟩
 | cons x r ih =>
   intro i ok K s0 s2 s4 s5 s6 s7 s8 s9 s10 s11 s12 s13 s14 s15 s16 s17 s18 s19 s20 s21 s22 s23 s24 s25 s26 s27 s28 s29 s30 s31 s32 s33 s34 s38 s39 s40 s41 s42 s43 s44 s45 s46 s47 s48 s49 s50 s51 s52 s53 s54 s55 s56 s57 s58 s59 s60 s61 s62 s63 s64 s65 s66 s67 s68 s69 s70 s71 hd hi hp hc hw
   have hb : c.mutes[i]? = some x := by rw [← List.head?_drop,hd]; rfl
   have hlt : i < c.mutes.length := (List.getElem?_eq_some_iff.1 hb).1
   have hm := hm0.pre hp
   obtain ⟨q,hp1,hp2⟩ := hm.1.load (P := prog) (T := 40) (te := 28) (i := i) (e := x.cells) (by simp) (by simp) (by simp) (by simp [hb])
   have hX := fun X : AHeap => hcells_more (X := X) hc
   have hz : x.cells.length = 10 := by have := hm.1.elen (i := i) (e := x.cells) (by simp [hb]); exact this
   have hstA : storable (.agg x.cells.toArray) = true := by have := x.one; simpa [storable] using this
   rw [List.length_cons,L16x0q]
   simp [hlt,hp1,hp2,hz,hstA]
   rw [show (10 : Nat) = x.cells.length from hz.symm,List.take_length]
   refine bndC_of (c_mute (m := x) (hm.2 x (List.mem_of_getElem? hb))) ?_
   simp [max_errno,show i + 1 < 2 ^ 63 by omega]
   rw [List.all_cons] at hw
   exact ih (i + 1) (ok && x.mayB) _ _ _ _ _ _ _ _ _ _ _ _ _ _ _ _ _ _ _ _ _ _ _ _ _ _ _ _ _ _ _ _ _ _ _ _ _ _ _ _ _ _ _ _ _ _ _ _ _ _ _ _ _ _ _ _ _ _ _ _ _ _ _ _ _ _ _ _ (by rw [← List.drop_drop,hd]; rfl) hlt (hp.more _) (hX _) (by rw [hw]; simp only [Bool.and_assoc])
theorem c_config {c : Cfg} {H : AHeap} {rv mv : Value} (hrl : c.rules.length < 2 ^ 63) (hml : c.mutes.length < 2 ^ 63) (hr : RulesAt H rv c.rules) (hm : MutesAt H mv c.mutes) : ACalls prog 16 [.agg (c.cells rv mv).toArray] H (i64 (errno c.mayB)) H := by
 refine acalls_pure MixT func16 (by decide) rfl ?_
 rw [d16]
 have h1 : rv.oneCell' = true := by obtain ⟨_,h,_⟩ := hr; exact h.one
 have h2 : mv.oneCell' = true := hm.1.one
 have hrX := fun X : AHeap => hr.pre (.app H X)
 have hmX := fun X : AHeap => hm.pre (.app H X)
 have hlr : ∀ X : AHeap,aLen prog (H ++ X) 39 rv = some (i64 c.rules.length) := fun X => by
  obtain ⟨cl,ha,hcl,_⟩ := hrX X
  rw [← hcl]; exact ha.len (e := 25) (by simp)
 have hlm : ∀ X : AHeap,aLen prog (H ++ X) 40 mv = some (i64 c.mutes.length) := fun X => by
  have := (hmX X).1.len (P := prog) (T := 40) (e := 28) (by simp)
  simpa using this
 simp +contextual [aNew_agg,Cfg.cells,h1,h2,hlr,hlm]
 refine kifB_bool (fun h => ?_) (fun h => ?_)
 · have : c.mayB = false := by
    unfold Cfg.mayB
    rw [if_pos (by simpa using h)]
   simp [this,errno]
 simp
 refine bndD_same (c_among _ _ _ _) ?_
 simp
 refine bndD_same (c_among _ _ _ _) ?_
 simp
 obtain ⟨cl,ha,hcl,hcc⟩ := hrX [.cells [rv,mv,i64 c.late,i64 c.limit] 42]
 refine bndD_same (c_onceR (cl := cl) (names := c.rules.map (·.name)) (by omega) (by simp [hcl]) ?_ ?_ ha) ?_
 · intro x hx
   obtain ⟨i,hi,rfl⟩ := List.getElem_of_mem hx
   have hb : c.rules[i]? = some c.rules[i] := List.getElem?_eq_getElem (by omega)
   obtain ⟨nv,xv,e1,e2,e3,_⟩ := hcc i _ hb
   rw [List.getElem?_eq_getElem hi] at e1
   rw [Option.some.inj e1]
   have q1 : nv.oneCell' = true := by obtain ⟨_,h,_⟩ := e2; exact h.one
   have q2 := e3.one
   intro v hv
   simp only [Rul.cells,List.mem_cons,List.not_mem_nil,or_false] at hv
   rcases hv with rfl | rfl | rfl | rfl | rfl | rfl | rfl | rfl <;> first | rfl | assumption
 · intro i x s K hx hs
   rw [List.getElem?_map] at hs
   cases hb : c.rules[i]? with
   | none => simp [hb] at hs
   | some r =>
     simp [hb] at hs
     subst hs
     obtain ⟨nv,xv,e1,e2,e3,_⟩ := hcc i _ hb
     rw [hx] at e1
     cases e1
     exact c_cfg1 (by obtain ⟨_,h,_⟩ := e2; exact h.one) e3.one
 simp
 refine bndD_same (c_onceM (cl := c.mutes.map Mut.cells) (names := c.mutes.map (·.name)) (by simpa using hml) (by simp) ?_ ?_ (hmX _).1) ?_
 · intro x hx
   obtain ⟨m,_,rfl⟩ := List.mem_map.1 hx
   exact m.one
 · intro i x s K hx hs
   rw [List.getElem?_map] at hs hx
   cases hb : c.mutes[i]? with
   | none => simp [hb] at hs
   | some m =>
     simp [hb] at hs hx
     subst hs hx
     exact c_cfg2 (hm.2 m (List.mem_of_getElem? hb))
 have hsl := sliceLit1 (P := prog) (H := H ++ [.cells [rv,mv,i64 c.late,i64 c.limit] 42]) (T := 63) (e := 4) (zv := .bool false) (n := 4) (l := [decide (c.late ≥ 0) && decide (c.late ≤ 100),decide (c.limit ≥ 1) && decide (c.limit ≤ 1000),onceB (c.rules.map (·.name)),onceB (c.mutes.map (·.name))].map .bool) (by simp) (by simp) rfl (by simp)
 refine bndD_of hsl (.inl rfl) ?_
 have hal := all_lit (H := H ++ [.cells [rv,mv,i64 c.late,i64 c.limit] 42]) (l := [decide (c.late ≥ 0) && decide (c.late ≤ 100),decide (c.limit ≥ 1) && decide (c.limit ≤ 1000),onceB (c.rules.map (·.name)),onceB (c.mutes.map (·.name))]) (by simp only [List.length_cons,List.length_nil]; omega)
 rw [show ([decide (c.late ≥ 0) && decide (c.late ≤ 100),decide (c.limit ≥ 1) && decide (c.limit ≤ 1000),onceB (c.rules.map (·.name)),onceB (c.mutes.map (·.name))]).all id = c.head from rfl] at hal
 refine bndD_of hal (.inl rfl) ?_
 have hw : c.mayB = (c.head && c.mutes.all Mut.mayB && c.rules.all c.ruleOk) := by
  unfold Cfg.mayB
  rw [if_neg (by simpa using h)]
 have hc : ∀ X : AHeap,hcells (H ++ .cells [rv,mv,i64 c.late,i64 c.limit] 42 :: X) H.length = some (c.cells rv mv) := fun X => by simp [Cfg.cells]
 simp [hlm]
 rw [hw]
 have hfin := cfg_mutes (H := H) (cb := H.length) (k := Same (i64 (errno (c.head && c.mutes.all Mut.mayB && c.rules.all c.ruleOk))) H) hrl hml hr hm (c.head && c.mutes.all Mut.mayB && c.rules.all c.ruleOk) (fun K p => ⟨rfl,p⟩) c.mutes 0 c.head
 refine ⟨c.mutes.length + 1,hfin _ _ _ _ _ _ _ _ _ _ _ _ _ _ _ _ _ _ _ _ _ _ _ _ _ _ _ _ _ _ _ _ _ _ _ _ _ _ _ _ _ _ _ _ _ _ _ _ _ _ _ _ _ _ _ _ _ _ _ _ _ _ _ _ _ _ _ _ rfl (by omega) (.app _ _) (hc _) rfl⟩
end Go.Vi
namespace Go.Vi
open Go Go.Proofs Go.Proofs.Try
theorem max_lt {n : Nat} (h : n ≤ maxLen) : n < 2 ^ 63 := by unfold maxLen at h; omega
theorem map_ex {α β : Type} {g : α → β} : ∀ {l : List β},(∀ x ∈ l,∃ m,x = g m) → ∃ ms : List α,l = ms.map g := by
 intro l
 induction l with
 | nil => intro _; exact ⟨[],rfl⟩
 | cons x r ih =>
   intro h
   obtain ⟨m,rfl⟩ := h x (by simp)
   obtain ⟨ms,rfl⟩ := ih fun y hy => h y (by simp [hy])
   exact ⟨m :: ms,rfl⟩
theorem len3 {α : Type} {l : List α} (h : l.length = 3) : ∃ a b c,l = [a,b,c] := match l,h with
 | [a,b,c],_ => ⟨a,b,c,rfl⟩
theorem len7 {α : Type} {l : List α} (h : l.length = 7) : ∃ a b c d e f g,l = [a,b,c,d,e,f,g] := match l,h with
 | [a,b,c,d,e,f,g],_ => ⟨a,b,c,d,e,f,g,rfl⟩
theorem len8 {α : Type} {l : List α} (h : l.length = 8) : ∃ a b c d e f g i,l = [a,b,c,d,e,f,g,i] := match l,h with
 | [a,b,c,d,e,f,g,i],_ => ⟨a,b,c,d,e,f,g,i,rfl⟩
theorem ce_str : prog.cellsOf 9 = 1 := by kernel_rfl
theorem ce_u8 : prog.cellsOf 5 = 1 := by kernel_rfl
theorem ce_int : prog.cellsOf 3 = 1 := by kernel_rfl
theorem ce_i64 : prog.cellsOf 2 = 1 := by kernel_rfl
theorem ce_bool : prog.cellsOf 4 = 1 := by kernel_rfl
theorem ce_mats : prog.cellsOf 48 = 1 := by kernel_rfl
theorem ce_mat : prog.cellsOf 52 = 3 := by kernel_rfl
theorem ce_node : prog.cellsOf 50 = 8 := by kernel_rfl
theorem ce_days : prog.cellsOf 26 = 7 := by kernel_rfl
section
variable {H : AHeap} {f : Nat} {v : Value} {cs : List Value}
theorem rd_mat (h : Rd prog H (f + 2) 52 cs) : ∃ m : Mat,cs = m.cells := by
 obtain ⟨hl,hp⟩ := h.parts (ps := [(9,0),(5,1),(9,2)]) (by kernel_rfl)
 rw [ce_mat] at hl
 obtain ⟨x,y,z,rfl⟩ := len3 hl
 simp only [List.forall_mem_cons,ce_str,ce_u8] at hp
 obtain ⟨h0,h1,h2,_⟩ := hp
 obtain ⟨l0,e0,_⟩ := h0.str underlying9
 obtain ⟨b,e1,_⟩ := h1.int underlying5
 obtain ⟨l2,e2,_⟩ := h2.str underlying9
 simp at e0 e1 e2
 exact ⟨⟨l0,b,l2⟩,by simp [Mat.cells,e0,e1,e2]⟩
theorem rd_mats (h : Rd prog H (f + 3) 48 [v]) : ∃ ms,MatsAt H v ms ∧ ms.length < 2 ^ 63 := by
 obtain ⟨v',l,h1,h2,h3,h4⟩ := h.slice underlying48
 cases h1
 rw [ce_mat] at h2
 obtain ⟨ms,rfl⟩ := map_ex fun x hx => rd_mat (h4 x hx)
 exact ⟨ms,h2,by simpa using max_lt h3⟩
theorem rd_list {α : Type} {R : List Value → α → Prop} : ∀ {l : List (List Value)},(∀ x ∈ l,∃ a,R x a) → ∃ q : List α,l.length = q.length ∧ ∀ (i : Nat) a,q[i]? = some a → ∃ c,l[i]? = some c ∧ R c a := by
 intro l
 induction l with
 | nil => intro _; exact ⟨[],rfl,fun i a h => by simp at h⟩
 | cons x r ih =>
   intro h
   obtain ⟨a,ha⟩ := h x (by simp)
   obtain ⟨q,h1,h2⟩ := ih fun y hy => h y (by simp [hy])
   refine ⟨a :: q,by simp [h1],fun i b hb => ?_⟩
   cases i with
   | zero => simp at hb; subst hb; exact ⟨x,rfl,ha⟩
   | succ i => exact h2 i b (by simpa using hb)
abbrev parts_days : List (TypeId × Nat) := [(4,0),(4,1),(4,2),(4,3),(4,4),(4,5),(4,6)]
theorem rd_days (h : Rd prog H (f + 2) 26 cs) : ∃ d : List Bool,cs = d.map .bool ∧ d.length = 7 := by
 obtain ⟨hl,hp⟩ := h.parts (ps := parts_days) (by kernel_rfl)
 rw [ce_days] at hl
 obtain ⟨x0,x1,x2,x3,x4,x5,x6,rfl⟩ := len7 hl
 simp only [parts_days,List.forall_mem_cons,ce_bool] at hp
 obtain ⟨h0,h1,h2,h3,h4,h5,h6,_⟩ := hp
 obtain ⟨b0,e0⟩ := h0.bool underlying4
 obtain ⟨b1,e1⟩ := h1.bool underlying4
 obtain ⟨b2,e2⟩ := h2.bool underlying4
 obtain ⟨b3,e3⟩ := h3.bool underlying4
 obtain ⟨b4,e4⟩ := h4.bool underlying4
 obtain ⟨b5,e5⟩ := h5.bool underlying4
 obtain ⟨b6,e6⟩ := h6.bool underlying4
 simp at e0 e1 e2 e3 e4 e5 e6
 exact ⟨[b0,b1,b2,b3,b4,b5,b6],by simp [e0,e1,e2,e3,e4,e5,e6],rfl⟩
end
end Go.Vi
namespace Go.Vi
open Go Go.Proofs Go.Proofs.Try
theorem len10 {α : Type} {l : List α} (h : l.length = 10) : ∃ a d b c,l = a :: (d ++ [b,c]) ∧ d.length = 7 := match l,h with
 | [a,d0,d1,d2,d3,d4,d5,d6,b,c],_ => ⟨a,[d0,d1,d2,d3,d4,d5,d6],b,c,rfl,rfl⟩
theorem len4 {α : Type} {l : List α} (h : l.length = 4) : ∃ a b c d,l = [a,b,c,d] := match l,h with
 | [a,b,c,d],_ => ⟨a,b,c,d,rfl⟩
theorem ce_strs : prog.cellsOf 23 = 1 := by kernel_rfl
theorem ce_nodes : prog.cellsOf 22 = 1 := by kernel_rfl
theorem ce_rules : prog.cellsOf 39 = 1 := by kernel_rfl
theorem ce_mutes : prog.cellsOf 40 = 1 := by kernel_rfl
theorem ce_rule : prog.cellsOf 25 = 8 := by kernel_rfl
theorem ce_mute : prog.cellsOf 28 = 10 := by kernel_rfl
theorem ce_cfg : prog.cellsOf 42 = 4 := by kernel_rfl
abbrev parts_cfg : List (TypeId × Nat) := [(39,0),(40,1),(3,2),(3,3)]
abbrev parts_rule : List (TypeId × Nat) := [(9,0),(9,1),(22,2),(3,3),(3,4),(3,5),(23,6),(9,7)]
abbrev parts_mute : List (TypeId × Nat) := [(9,0),(26,1),(3,8),(3,9)]
section
variable {H : AHeap} {f : Nat} {v : Value} {cs : List Value}
theorem rd_strs (h : Rd prog H (f + 2) 23 [v]) : ∃ l,Arr H 1 v (strCells l) ∧ l.length < 2 ^ 63 := by
 obtain ⟨v',l,h1,h2,h3,h4⟩ := h.slice underlying23
 cases h1
 rw [ce_str] at h2
 obtain ⟨ms,rfl⟩ := map_ex (g := fun s : List UInt8 => [Vi.str s]) fun x hx => by
  obtain ⟨s,e,_⟩ := (h4 x hx).str underlying9
  exact ⟨s,e⟩
 exact ⟨ms,h2,by simpa using max_lt h3⟩
theorem rd_mute (h : Rd prog H (f + 3) 28 cs) : ∃ m : Mut,cs = m.cells ∧ m.days.length = 7 := by
 obtain ⟨hl,hp⟩ := h.parts (ps := parts_mute) (by kernel_rfl)
 rw [ce_mute] at hl
 obtain ⟨x0,d,x2,x3,rfl,hd⟩ := len10 hl
 simp only [parts_mute,List.forall_mem_cons,ce_str,ce_int,ce_days] at hp
 obtain ⟨h0,h1,h2,h3,_⟩ := hp
 obtain ⟨b0,e0,_⟩ := h0.str underlying9
 have e1 : ((x0 :: (d ++ [x2,x3])).drop 1).take 7 = d := by simp [hd]
 rw [e1] at h1
 obtain ⟨ds,rfl,e1'⟩ := rd_days h1
 obtain ⟨b2,e2,_⟩ := h2.int underlying3
 obtain ⟨b3,e3,_⟩ := h3.int underlying3
 have e2' : ((x0 :: (ds.map Value.bool ++ [x2,x3])).drop 8).take 1 = [x2] := by simp at hd; simp [hd]
 have e3' : ((x0 :: (ds.map Value.bool ++ [x2,x3])).drop 9).take 1 = [x3] := by
  obtain ⟨d0,d1,d2,d3,d4,d5,d6,rfl⟩ := len7 e1'
  rfl
 rw [e2'] at e2
 rw [e3'] at e3
 simp at e0 e2 e3
 exact ⟨⟨b0,ds,b2,b3⟩,by simp [Mut.cells,e0,e2,e3],e1'⟩
theorem rd_mutes (h : Rd prog H (f + 4) 40 [v]) : ∃ ms,MutesAt H v ms ∧ ms.length < 2 ^ 63 := by
 obtain ⟨v',l,h1,h2,h3,h4⟩ := h.slice underlying40
 cases h1
 rw [ce_mute] at h2
 obtain ⟨ms,q1,q2⟩ := rd_list (R := fun cs (m : Mut) => cs = m.cells ∧ m.days.length = 7) fun x hx => rd_mute (h4 x hx)
 have hl : l = ms.map Mut.cells := by
  refine List.ext_getElem? fun i => ?_
  rw [List.getElem?_map]
  cases hi : ms[i]? with
  | none => rw [List.getElem?_eq_none_iff] at hi; simp; omega
  | some m => obtain ⟨c,c1,c2,_⟩ := q2 i m hi; rw [c1,c2]; rfl
 subst hl
 refine ⟨ms,⟨h2,fun m hm => ?_⟩,by simpa using max_lt h3⟩
 obtain ⟨i,hi⟩ := List.getElem?_of_mem hm
 obtain ⟨c,_,_,c3⟩ := q2 i m hi
 exact c3
end
end Go.Vi
namespace Go.Vi
open Go Go.RowKit Go.ChangeShapes Go.WideShapes Go.Proofs Go.Proofs.Try
theorem word_le {n : Int} (h : (Lit.int .i64 n).wf = true) : n < 2 ^ 63 := by
 have e2 : IntKind.i64.max = 9223372036854775807 := by decide
 simp only [Lit.wf,Bool.and_eq_true,decide_eq_true_eq,e2] at h
 omega
section
variable {H : AHeap} {f : Nat} {v : Value} {cs : List Value}
theorem rd_nodeW (h : Rd prog H (f + 4) 50 cs) : ∃ (n : Nod) (sv : Value),cs = n.cells sv ∧ MatsAt H sv n.sel ∧ n.sel.length < 2 ^ 63 ∧ n.window < 2 ^ 63 := by
 obtain ⟨hl,hp⟩ := h.parts (ps := [(5,0),(5,1),(48,2),(3,3),(5,4),(2,5),(3,6),(3,7)]) (by kernel_rfl)
 rw [ce_node] at hl
 obtain ⟨x0,x1,x2,x3,x4,x5,x6,x7,rfl⟩ := len8 hl
 simp only [List.forall_mem_cons,ce_u8,ce_int,ce_i64,ce_mats] at hp
 obtain ⟨h0,h1,h2,h3,h4,h5,h6,h7,_⟩ := hp
 obtain ⟨b0,e0⟩ := h0.byte underlying5
 obtain ⟨b1,e1⟩ := h1.byte underlying5
 obtain ⟨ms,e2,e2'⟩ := rd_mats h2
 obtain ⟨b3,e3,w3⟩ := h3.int underlying3
 obtain ⟨b4,e4⟩ := h4.byte underlying5
 obtain ⟨b5,e5,_⟩ := h5.int underlying2
 obtain ⟨b6,e6,_⟩ := h6.int underlying3
 obtain ⟨b7,e7,_⟩ := h7.int underlying3
 simp at e0 e1 e3 e4 e5 e6 e7
 exact ⟨⟨b0,b1,ms,b3,b4,b5,b6,b7⟩,x2,by simp [Nod.cells,e0,e1,e3,e4,e5,e6,e7],e2,e2',word_le w3⟩
theorem rd_nodesW (h : Rd prog H (f + 5) 22 [v]) : ∃ ns,NodesAt H v ns ∧ ∀ n ∈ ns,n.window < 2 ^ 63 := by
 obtain ⟨v',l,h1,h2,h3,h4⟩ := h.slice underlying22
 cases h1
 rw [ce_node] at h2
 obtain ⟨ns,q1,q2⟩ := rd_list (R := fun cs (n : Nod) => ∃ sv,cs = n.cells sv ∧ MatsAt H sv n.sel ∧ n.sel.length < 2 ^ 63 ∧ n.window < 2 ^ 63) fun x hx => rd_nodeW (h4 x hx)
 refine ⟨ns,⟨l,h2,q1,fun i n hi => ?_⟩,fun n hn => ?_⟩
 · obtain ⟨c,c1,sv,rfl,c2,c3,_⟩ := q2 i n hi
   exact ⟨sv,c1,c2,c3⟩
 · obtain ⟨i,hi⟩ := List.getElem?_of_mem hn
   obtain ⟨c,c1,sv,rfl,c2,c3,c4⟩ := q2 i n hi
   exact c4
end
end Go.Vi
namespace Go.Vi
open Go Go.Proofs Go.Proofs.Try
def Rul.win (r : Rul) : Prop := ∀ n ∈ r.nodes,n.window < 2 ^ 63
abbrev parts_cfgW := parts_cfg
section
variable {H : AHeap} {f : Nat} {v : Value} {cs : List Value}
theorem rd_ruleX (h : Rd prog H (f + 6) 25 cs) : ∃ (r : Rul) (nv mv : Value),cs = r.cells nv mv ∧ (NodesAt H nv r.nodes ∧ Arr H 1 mv (strCells r.mutes) ∧ r.mutes.length < 2 ^ 63) ∧ r.win := by
 obtain ⟨hl,hp⟩ := h.parts (ps := parts_rule) (by kernel_rfl)
 rw [ce_rule] at hl
 obtain ⟨x0,x1,x2,x3,x4,x5,x6,x7,rfl⟩ := len8 hl
 simp only [parts_rule,List.forall_mem_cons,ce_str,ce_int,ce_nodes,ce_strs] at hp
 obtain ⟨h0,h1,h2,h3,h4,h5,h6,h7,_⟩ := hp
 obtain ⟨b0,e0,_⟩ := h0.str underlying9
 obtain ⟨b1,e1,_⟩ := h1.str underlying9
 obtain ⟨ns,e2,w2⟩ := rd_nodesW h2
 obtain ⟨b3,e3,_⟩ := h3.int underlying3
 obtain ⟨b4,e4,_⟩ := h4.int underlying3
 obtain ⟨b5,e5,_⟩ := h5.int underlying3
 obtain ⟨ms,e6,e6'⟩ := rd_strs h6
 obtain ⟨b7,e7,_⟩ := h7.str underlying9
 simp at e0 e1 e3 e4 e5 e7
 exact ⟨⟨b0,b1,ns,b3,b4,b5,ms,b7⟩,x2,x6,by simp [Rul.cells,e0,e1,e3,e4,e5,e7],⟨e2,e6,e6'⟩,w2⟩
theorem rd_rulesW (h : Rd prog H (f + 7) 39 [v]) : ∃ rs,RulesAt H v rs ∧ ∀ r ∈ rs,r.win := by
 obtain ⟨v',l,h1,h2,h3,h4⟩ := h.slice underlying39
 cases h1
 rw [ce_rule] at h2
 obtain ⟨rs,q1,q2⟩ := rd_list (R := fun cs (r : Rul) => ∃ nv mv,cs = r.cells nv mv ∧ (NodesAt H nv r.nodes ∧ Arr H 1 mv (strCells r.mutes) ∧ r.mutes.length < 2 ^ 63) ∧ r.win) fun x hx => rd_ruleX (h4 x hx)
 refine ⟨rs,⟨l,h2,q1,fun i n hi => ?_⟩,fun r hr => ?_⟩
 · obtain ⟨c,c1,nv,mv,rfl,c2,_⟩ := q2 i n hi
   exact ⟨nv,mv,c1,c2⟩
 · obtain ⟨i,hi⟩ := List.getElem?_of_mem hr
   obtain ⟨c,c1,nv,mv,rfl,_,c3⟩ := q2 i r hi
   exact c3
theorem rd_cfgW (h : Rd prog H (f + 8) 42 cs) : ∃ x : Cfg × Value × Value,cs = x.1.cells x.2.1 x.2.2 ∧ (RulesAt H x.2.1 x.1.rules ∧ MutesAt H x.2.2 x.1.mutes) ∧ ∀ r ∈ x.1.rules,r.win := by
 obtain ⟨hl,hp⟩ := h.parts (ps := parts_cfg) (by kernel_rfl)
 rw [ce_cfg] at hl
 obtain ⟨x0,x1,x2,x3,rfl⟩ := len4 hl
 simp only [parts_cfg,List.forall_mem_cons,ce_int,ce_rules,ce_mutes] at hp
 obtain ⟨h0,h1,h2,h3,_⟩ := hp
 obtain ⟨rs,e0,w0⟩ := rd_rulesW h0
 obtain ⟨ms,e1,_⟩ := rd_mutes h1
 obtain ⟨b2,e2,_⟩ := h2.int underlying3
 obtain ⟨b3,e3,_⟩ := h3.int underlying3
 simp at e2 e3
 exact ⟨⟨⟨rs,ms,b2,b3⟩,x0,x1⟩,by simp [Cfg.cells,e2,e3],⟨e0,e1⟩,w0⟩
end
end Go.Vi
namespace Go.Vi
open Go Go.Proofs
def bcells (s : List UInt8) : List Value := s.map byt
end Go.Vi
namespace Go.Vi
open Go Go.Proofs
def textF : List UInt8 → List UInt8 → Nat → List UInt8 × Nat
 | [],_,_ => ([],0)
 | b :: r, acc, c => if isSign b = true then
     (if ((b.toNat : Int) == 34) = true then (acc,c + 1)
      else if ((b.toNat : Int) == 92) = true then match r with
       | e :: r' => if ((e.toNat : Int) == 34 || (e.toNat : Int) == 92) = true then textF r' (acc ++ [e]) (c + 2) else ([],0)
       | [] => ([],0)
      else textF r (acc ++ [b]) (c + 1))
   else ([],0)
theorem textF_cons (b : UInt8) (r acc : List UInt8) (c : Nat) : textF (b :: r) acc c = if isSign b = true then
   (if ((b.toNat : Int) == 34) = true then (acc,c + 1)
    else if ((b.toNat : Int) == 92) = true then match r with
     | e :: r' => if ((e.toNat : Int) == 34 || (e.toNat : Int) == 92) = true then textF r' (acc ++ [e]) (c + 2) else ([],0)
     | [] => ([],0)
    else textF r (acc ++ [b]) (c + 1))
  else ([],0) := by rw [textF.eq_def]
theorem textF_len : ∀ (f : Nat) (r acc : List UInt8) (c : Nat),r.length ≤ f → (textF r acc c).2 ≤ c + r.length := by
 intro f
 induction f with
 | zero => intro r acc c h; have : r = [] := List.eq_nil_of_length_eq_zero (by omega); subst this; simp [textF]
 | succ f ih =>
   intro r acc c h
   cases r with
   | nil => simp [textF]
   | cons b r =>
     rw [textF_cons]
     simp at h
     split
     · split
       · simp <;> omega
       · split
         · cases r with
           | nil => simp
           | cons e r =>
             simp only
             split
             · have := ih r (acc ++ [e]) (c + 2) (by simp at h; omega); simp; omega
             · simp
         · have := ih r (acc ++ [b]) (c + 1) (by omega); simp; omega
     · simp
def sigs1 : List UInt8 := [60,62,61,33,94]
def sigs2 : List UInt8 := [123,125,40,41,91,93,44,58,59,61,60,62,45]
def hasB (l : List UInt8) (b : UInt8) : Bool := decide (Lib.indexByte l b ≥ 0)
def signF : List UInt8 → Nat
 | [] => 0
 | b :: r => if ((r[0]?).any (fun e => (e.toNat : Int) == 61) && hasB sigs1 b) = true then 2 else if hasB sigs2 b = true then 1 else 0
end Go.Vi
namespace Go.Vi
open Go Go.Proofs
structure Tok where
 kind : Int
 text : List UInt8
 at' : Int
def Tok.cells (t : Tok) : List Value := [.int .u8 t.kind,str t.text,i64 t.at']
def runF (p : UInt8 → Bool) (s : List UInt8) : Nat := (s.takeWhile p).length
def numLen (s : List UInt8) : Nat :=
 if ((s[runF isDig s]?).any (fun e => (e.toNat : Int) == 46) && decide (runF isDig (s.drop (runF isDig s + 1)) > 0)) = true then runF isDig s + (1 + runF isDig (s.drop (runF isDig s + 1))) else runF isDig s
def oneF (s : List UInt8) (a : Nat) : Tok × Nat := match s with
 | [] => (⟨0,[],a⟩,0)
 | b :: r => if isLow b = true then (⟨1, s.take (runF isMark s), a⟩, runF isMark s)
   else if isDig b = true then (⟨2,s.take (numLen s),a⟩,numLen s)
   else if ((b.toNat : Int) == 34) = true then (⟨3,(textF r [] 1).1,a⟩,(textF r [] 1).2)
   else (⟨4,s.take (signF s),a⟩,signF s)
theorem runF_le (p : UInt8 → Bool) (s : List UInt8) : runF p s ≤ s.length := by
 unfold runF; exact List.IsPrefix.length_le (List.takeWhile_prefix p)
theorem numLen_le (s : List UInt8) : numLen s ≤ s.length := by
 unfold numLen
 have h1 := runF_le isDig s
 have h2 := runF_le isDig (s.drop (runF isDig s + 1))
 rw [List.length_drop] at h2
 split
 · rename_i h
   simp only [Bool.and_eq_true,Option.any_eq_true] at h
   obtain ⟨⟨e,he,_⟩,_⟩ := h
   have := (List.getElem?_eq_some_iff.1 he).1
   omega
 · exact h1
theorem signF_le (s : List UInt8) : signF s ≤ s.length := by
 cases s with
 | nil => simp [signF]
 | cons b r =>
   simp only [signF]
   split
   · rename_i h
     simp only [Bool.and_eq_true,Option.any_eq_true] at h
     obtain ⟨⟨e,he,_⟩,_⟩ := h
     have := (List.getElem?_eq_some_iff.1 he).1
     simp; omega
   · split <;> simp
end Go.Vi
namespace Go.Vi
open Go Go.Proofs
def blanks : List UInt8 := [32,9,10,13]
def notNl (b : UInt8) : Bool := (b.toNat : Int) != 10
def skipF : Nat → List UInt8 → Nat
 | 0,_ => 0
 | _ + 1,[] => 0
 | f + 1, b :: r => if hasB blanks b = true then 1 + skipF f r
   else if ((b.toNat : Int) == 35) = true then runF notNl (b :: r) + skipF f ((b :: r).drop (runF notNl (b :: r)))
   else 0
def skipN (l : List UInt8) (a : Nat) : Nat := a + skipF (l.length - a) (l.drop a)
section
variable {P : Program}
variable {D : DrawK}
end
theorem foldl_put : ∀ (c : List Value) (k : Nat) (cells : List Value),k + c.length ≤ cells.length →
  (c.zipIdx k).foldl (fun (cs : Array Value) (p : Value × Nat) => cs.setIfInBounds p.2 p.1) cells.toArray = (cells.take k ++ c ++ cells.drop (k + c.length)).toArray := by
 intro c
 induction c with
 | nil => intro k cells _; simp
 | cons v r ih =>
   intro k cells h
   simp only [List.length_cons] at h
   simp only [List.zipIdx_cons,List.foldl_cons,List.setIfInBounds_toArray]
   have := ih (k + 1) (cells.set k v) (by simp; omega)
   rw [this]
   congr 1
   rw [List.take_set,List.set_eq_take_append_cons_drop,if_pos (by rw [List.length_take]; omega),List.drop_set_of_lt (by omega)]
   simp [List.take_take,Nat.add_assoc,Nat.add_comm 1]
theorem sliceLitA {P : Program} {H : AHeap} {T e : TypeId} {zs : Array Value} {c : List Value} (hs : aBuildSlice P H T 1 [(0,.agg c.toArray)] = bslV e zs H 1 [(0,.agg c.toArray)]) (hz : c.length = zs.size) (ho : ∀ v ∈ c,v.oneCell' = true) (hb : zs.size ≤ 16777216) :
  sliceLit P H T 1 [(0,.agg c.toArray)] (.slice (some ⟨H.length,0,some c.length⟩) 1 1) (H ++ [.cells c e]) := by
 refine ⟨?_,?_⟩
 · simpa [storable] using ho
 · rw [hs]
   unfold bslV
   have hr : (repCells zs (1 * zs.size)).size = zs.size := by simp [repCells]
   have hf : Instr.fill (fun i => some (i * zs.size,zs.size)) (repCells zs (1 * zs.size)) [(0,.agg c.toArray)] = some c.toArray := by
    generalize hR : repCells zs (1 * zs.size) = R at hr
    obtain ⟨R⟩ := R
    simp only [List.size_toArray] at hr
    simp only [Instr.fill,cells_agg,List.size_toArray,hz,Nat.zero_mul]
    rw [if_neg (by simp; omega)]
    have := foldl_put c 0 R (by omega)
    rw [List.take_zero,List.nil_append,Nat.zero_add,List.drop_eq_nil_of_le (by omega),List.append_nil] at this
    refine congrArg some (Eq.trans ?_ this)
    rw [← Array.foldl_toList]
    simp
   rw [hf,if_pos (by omega)]
   simp only [List.size_toArray]
   rw [if_pos ⟨by omega,by simpa using ho⟩]
inductive Gro (K : AHeap) (lo z : Nat) (T : TypeId) : Value → List (List Value) → Prop
 | nil : Gro K lo z T (.slice none 0 0) []
 | mk (bb : Nat) (cl : List (List Value)) (h1 : lo ≤ bb) (h2 : K[bb]? = some (.cells cl.flatten T)) (h3 : cl ≠ []) (h4 : ∀ c ∈ cl,c.length = z) : Gro K lo z T (.slice (some ⟨bb,0,some (cl.length * z)⟩) cl.length cl.length) cl
theorem Gro.one {K lo z T v cl} (h : Gro K lo z T v cl) : v.oneCell' = true := by cases h <;> rfl
theorem Gro.cells {K lo z T v cl} (h : Gro K lo z T v cl) : v.cells = #[v] := by cases h <;> rfl
theorem Gro.stor {K lo z T v cl} (h : Gro K lo z T v cl) : storable v = true := by cases h <;> rfl
theorem Gro.app {K lo z T v cl} {X : AHeap} (h : Gro K lo z T v cl) : Gro (K ++ X) lo z T v cl := by
 cases h with
 | nil => exact .nil
 | mk bb cl h1 h2 h3 h4 => exact .mk bb cl h1 (get_more h2) h3 h4
theorem Gro.set {K lo z T v cl} {b : Nat} {o : AObj} (h : Gro K lo z T v cl) (hb : b < lo) : Gro (K.set b o) lo z T v cl := by
 cases h with
 | nil => exact .nil
 | mk bb cl h1 h2 h3 h4 => exact .mk bb cl h1 (by rw [List.getElem?_set_ne (by omega)]; exact h2) h3 h4
theorem flat_len {z : Nat} : ∀ {cl : List (List Value)},(∀ c ∈ cl,c.length = z) → cl.flatten.length = cl.length * z := by
 intro cl
 induction cl with
 | nil => intro _; simp
 | cons c r ih =>
   intro h
   rw [List.flatten_cons,List.length_append,ih fun x hx => h x (by simp [hx]),h c (by simp),List.length_cons,Nat.add_mul]
   omega
theorem flat_at {z : Nat} : ∀ {cl : List (List Value)} {i : Nat} {e : List Value},(∀ c ∈ cl,c.length = z) → cl[i]? = some e → (cl.flatten.drop (i * z)).take z = e := by
 intro cl
 induction cl with
 | nil => intro i e _ h; simp at h
 | cons c r ih =>
   intro i e h hi
   have hc := h c (by simp)
   cases i with
   | zero =>
     simp at hi
     subst hi
     rw [Nat.zero_mul,List.drop_zero,List.flatten_cons,List.take_append_of_le_length (by omega),List.take_of_length_le (by omega)]
   | succ i =>
     have := ih (fun x hx => h x (by simp [hx])) (by simpa using hi : r[i]? = some e)
     rw [List.flatten_cons,Nat.add_mul,Nat.one_mul,Nat.add_comm,← List.drop_drop,List.drop_append_of_le_length (by omega)]
     rw [show c.drop z = [] by simp; omega,List.nil_append]
     exact this
theorem Gro.arr {K lo z T v cl} (h : Gro K lo z T v cl) : Arr K z v cl := by
 cases h with
 | nil => exact .nil
 | mk bb cl h1 h2 h3 h4 =>
   refine .mk bb 0 _ _ _ cl.flatten cl rfl (by simp [hcells,h2]) (flat_len h4) (by omega) fun i e hi => ?_
   rw [Nat.zero_add]
   exact flat_at h4 hi
theorem Gro.push {P : Program} {K : AHeap} {lo z by_ : Nat} {T Ts : TypeId} {v x : Value} {cl : List (List Value)} {c : List Value} (h : Gro K lo z T v cl) (hT : aElem P Ts = some (T,z,by_)) (hsq : isSeq P Ts = true) (hc : c.length = z) (hlo : lo ≤ K.length)
  (hx : aSrc K z x = some (1,c)) (hb : (cl.length + 1) * by_ ≤ 140737488355328) (hn : cl.length + 1 ≤ 9223372036854775807) :
  ∃ v' K',aBuiltin P K .append #[Ts,Ts] [v,x] = some (v',K') ∧ Gro K' lo z T v' (cl ++ [c]) ∧ (∀ b o,b < lo → K[b]? = some o → K'[b]? = some o) ∧ K.length ≤ K'.length ∧ (∀ H,Pre H K → H.length ≤ lo → Pre H K') := by
 cases h with
 | nil =>
   refine ⟨.slice (some ⟨K.length,0,some z⟩) 1 1,K ++ [.cells c T],?_,?_,fun b o hb ho => get_more ho,by simp,fun H p _ => p.more _⟩
   · have hb' : by_ ≤ 140737488355328 := by simpa using hb
     simp [aBuiltin,aAppend,hT,hx,hsq,hb',hc]
   · have := Gro.mk (K := K ++ [.cells c T]) (lo := lo) (z := z) (T := T) K.length [c] hlo (by simp) (by simp) (by simpa using hc)
     simpa using this
 | mk bb cl h1 h2 h3 h4 =>
   have hfl := flat_len h4
   have hlt := (List.getElem?_eq_some_iff.1 h2).1
   refine ⟨.slice (some ⟨bb,0,some ((cl.length + 1) * z)⟩) (cl.length + 1) (cl.length + 1),K.set bb (.cells (cl ++ [c]).flatten T),?_,?_,fun b o hb ho => by rw [List.getElem?_set_ne (by omega)]; exact ho,by simp,fun H p hH => p.set (by omega)⟩
   · have e1 : cl.length * z = cl.flatten.length := hfl.symm
     have e2 : ¬ cl.length + 1 ≤ cl.length := by omega
     simp only [aBuiltin,aAppend,hT,hx,hsq,if_true,h2,hfl,Nat.zero_add,Nat.le_refl,and_self,e2,if_false,hb,hn]
     have e3 : (cl.flatten.take (cl.length * z)) = cl.flatten := List.take_of_length_le (by omega)
     rw [e3]
     simp
   · have := Gro.mk (K := K.set bb (.cells (cl ++ [c]).flatten T)) (lo := lo) (z := z) (T := T) bb (cl ++ [c]) h1 (List.getElem?_set_self hlt) (by simp) (by
      intro x hx
      rw [List.mem_append] at hx
      rcases hx with hx | hx
      · exact h4 x hx
      · simp at hx; rw [hx]; exact hc)
     simpa using this
end Go.Vi
namespace Go.Vi
open Go Go.Proofs
def lexF (l : List UInt8) : Nat → Nat → List Tok × Option Nat
 | 0,_ => ([],none)
 | f + 1, a => if a < l.length then
     (if (oneF (l.drop a) a).2 = 0 then ([],some a)
      else ((oneF (l.drop a) a).1 :: (lexF l f (skipN l (a + (oneF (l.drop a) a).2))).1,(lexF l f (skipN l (a + (oneF (l.drop a) a).2))).2))
   else ([],none)
theorem oneF_le (s : List UInt8) (a : Nat) : (oneF s a).2 ≤ s.length := by
 unfold oneF
 cases s with
 | nil => simp
 | cons b r =>
   simp only
   split
   · exact runF_le _ _
   · split
     · exact numLen_le _
     · split
       · have := textF_len r.length r [] 1 (Nat.le_refl _); simp; omega
       · exact signF_le (b :: r)
theorem skipN_ge (l : List UInt8) (a : Nat) : a ≤ skipN l a := by unfold skipN; omega
def allTok (l : List UInt8) : List Tok × Nat × Int :=
 if 4096 < l.length then ([],0,3) else match (lexF l (l.length + 1) (skipN l 0)).2 with
  | none => ((lexF l (l.length + 1) (skipN l 0)).1,0,0)
  | some a => ([],a,90)
end Go.Vi
namespace Go.Vi
open Go Go.Proofs
@[simp] theorem nilV_ptr (b o m : Nat) : nilV (.pointer (some ⟨b,o,some m⟩)) = some (.pointer (some ⟨b,o,some m⟩)) := rfl
def isT (ts : List Tok) (a : Nat) (k : Int) (s : List UInt8) : Bool := (ts[a]?).any fun t => t.kind == k && t.text == s
theorem isT_lt {ts a k s} (h : isT ts a k s = true) : a < ts.length := by
 unfold isT at h
 by_cases ha : a < ts.length
 · exact ha
 · rw [List.getElem?_eq_none (by omega)] at h; cases h
end Go.Vi
namespace Go.Vi
open Go Go.Proofs
theorem bnd_of {x : Option Value} {v : Value} {q : QV} (h : x = some v) (k : q.f v) : @bnd x q := by rw [h,bnd_some]; exact k
def hasPre (l p : List UInt8) : Bool := decide (p.length ≤ l.length) && decide (l.take p.length = p)
def cutPre (l p : List UInt8) : List UInt8 := if hasPre l p = true then l.drop p.length else l
def scanF : List UInt8 → Nat → Int → Int × Bool
 | [],_,pt => (pt,true)
 | b :: r,i,pt => if isDig b = true then scanF r (i + 1) pt else if ((b.toNat : Int) == 46 && decide (pt < 0)) = true then scanF r (i + 1) i else (pt,false)
def cutT (s : List UInt8) (pt : Int) (ok : Bool) : List UInt8 × List UInt8 × Bool :=
 if pt < 0 then (s,[],ok) else (s.take pt.toNat,s.drop (pt.toNat + 1),ok && !decide (s.take pt.toNat = []) && !decide (s.drop (pt.toNat + 1) = []) && decide ((s.drop (pt.toNat + 1)).length ≤ 3))
def cutF (s : List UInt8) : List UInt8 × List UInt8 × Bool := cutT s (scanF s 0 (-1)).1 ((scanF s 0 (-1)).2 && !s.isEmpty)
def digF (x : Int) : List UInt8 → Int
 | [] => x
 | d :: r => if x > (maxFix - ((d.toNat : Int) - 48)).tdiv 10 then maxFix else digF (10 * x + ((d.toNat : Int) - 48)) r
def parF (s : List UInt8) : Int × Int :=
 let c := cutF (cutPre s [45])
 if c.2.2 = true then
  let x := digF 0 (c.1 ++ c.2.1 ++ List.replicate (3 - c.2.1.length) 48)
  (if hasPre s [45] = true then -x else x,0)
 else (0,10)
theorem scanF_pt : ∀ (r : List UInt8) (i : Nat) (pt : Int),0 ≤ pt → (scanF r i pt).2 = true → (scanF r i pt).1 = pt ∧ ∀ b ∈ r,isDig b = true := by
 intro r
 induction r with
 | nil => intro i pt _ _; simp [scanF]
 | cons b r ih =>
   intro i pt hp h
   have hp' : ¬ pt < 0 := by omega
   rw [scanF] at h ⊢
   by_cases hd : isDig b = true
   · rw [if_pos hd] at h ⊢
     obtain ⟨h1,h2⟩ := ih _ _ hp h
     refine ⟨h1,fun c hc => ?_⟩
     rcases List.mem_cons.1 hc with rfl | hc
     · exact hd
     · exact h2 c hc
   · rw [if_neg hd] at h
     simp [hp'] at h
theorem scanF_none : ∀ (r : List UInt8) (i : Nat),(scanF r i (-1)).2 = true → ((scanF r i (-1)).1 = -1 ∧ ∀ b ∈ r,isDig b = true) ∨
  ∃ j : Nat,(scanF r i (-1)).1 = ((i + j : Nat) : Int) ∧ j < r.length ∧ (∀ b ∈ r.take j,isDig b = true) ∧ ∀ b ∈ r.drop (j + 1),isDig b = true := by
 intro r
 induction r with
 | nil => intro i _; left; simp [scanF]
 | cons b r ih =>
   intro i h
   rw [scanF] at h ⊢
   by_cases hd : isDig b = true
   · rw [if_pos hd] at h ⊢
     rcases ih _ h with ⟨h1,h2⟩ | ⟨j,h1,h2,h3,h4⟩
     · left
       refine ⟨h1,fun c hc => ?_⟩
       rcases List.mem_cons.1 hc with rfl | hc
       · exact hd
       · exact h2 c hc
     · right
       refine ⟨j + 1,by rw [h1]; congr 1; omega,by simp; omega,fun c hc => ?_,by simpa using h4⟩
       rw [List.take_succ_cons] at hc
       rcases List.mem_cons.1 hc with rfl | hc
       · exact hd
       · exact h3 c hc
   · rw [if_neg hd] at h ⊢
     split at h
     · rename_i hq
       rw [if_pos hq]
       obtain ⟨h1,h2⟩ := scanF_pt r (i + 1) i (by omega) h
       exact .inr ⟨0,by rw [h1]; rfl,by simp,by simp,by simpa using h2⟩
     · cases h
theorem cutF_ok {s : List UInt8} (h : (cutF s).2.2 = true) : (∀ b ∈ (cutF s).1 ++ (cutF s).2.1,isDig b = true) ∧ (cutF s).2.1.length ≤ 3 ∧ (cutF s).1.length + (cutF s).2.1.length ≤ s.length := by
 unfold cutF cutT at *
 by_cases hp : (scanF s 0 (-1)).1 < 0
 · simp only [if_pos hp] at h ⊢
   simp only [Bool.and_eq_true] at h
   rcases scanF_none s 0 h.1 with ⟨h1,h2⟩ | ⟨j,h1,_⟩
   · simp; exact h2
   · rw [h1] at hp; omega
 · simp only [if_neg hp] at h ⊢
   simp only [Bool.and_eq_true,decide_eq_true_eq] at h
   rcases scanF_none s 0 h.1.1.1.1 with ⟨h1,h2⟩ | ⟨j,h1,h2,h3,h4⟩
   · rw [h1] at hp; omega
   · rw [h1] at h ⊢
     simp only [Nat.zero_add,Int.toNat_natCast] at h ⊢
     refine ⟨fun b hb => ?_,h.2,?_⟩
     · rcases List.mem_append.1 hb with hb | hb
       · exact h3 b hb
       · exact h4 b hb
     · simp; omega
theorem digF_range : ∀ (l : List UInt8) (x : Int),(∀ b ∈ l,isDig b = true) → 0 ≤ x → x ≤ maxFix → 0 ≤ digF x l ∧ digF x l ≤ maxFix := by
 intro l
 induction l with
 | nil => intro x _ h1 h2; exact ⟨h1,h2⟩
 | cons d r ih =>
   intro x hd h1 h2
   have h := hd d (by simp)
   simp only [isDig,Bool.and_eq_true,decide_eq_true_eq] at h
   rw [digF]
   split
   · simp [maxFix]
   · rename_i hx
     have : x ≤ (maxFix - ((d.toNat : Int) - 48)).tdiv 10 := by omega
     have h3 : (maxFix - ((d.toNat : Int) - 48)).tdiv 10 * 10 ≤ maxFix - ((d.toNat : Int) - 48) := by
      rw [Int.tdiv_eq_ediv_of_nonneg (by simp [maxFix]; omega)]; omega
     exact ih _ (fun b hb => hd b (by simp [hb])) (by omega) (by omega)
end Go.Vi
namespace Go.Vi
open Go Go.Proofs
def natF (n : Int) : List UInt8 → Int
 | [] => n
 | d :: r => natF (10 * n + ((d.toNat : Int) - 48)) r
theorem arr_strs {H : AHeap} (l : List (List UInt8)) (T : TypeId) (n : Nat) (hn : n = l.length) : Arr (H ++ [AObj.cells (l.map str) T]) 1 (.slice (some ⟨H.length,0,some n⟩) n n) (strCells l) := by
 subst hn
 refine .mk H.length 0 _ _ _ (l.map str) _ (by simp [strCells]) (by simp [hcells_eq,AObj.rcells]) (by simp) (by simp) fun i e hi => ?_
 simp [strCells] at hi
 obtain ⟨b,hb,rfl⟩ := hi
 rw [Nat.zero_add,Nat.mul_one,← List.map_drop,← List.map_take]
 have : (l.drop i).take 1 = [b] := by
  have hlt := (List.getElem?_eq_some_iff.1 hb).1
  rw [List.drop_eq_getElem_cons hlt,(List.getElem?_eq_some_iff.1 hb).2]; rfl
 rw [this]; rfl
end Go.Vi
namespace Go.Vi
open Go Go.Proofs
def atoF (l : List UInt8) : Option Int := if l ≠ [] ∧ l.all isDig = true ∧ natF 0 l ≤ 9223372036854775807 then some (natF 0 l) else none
theorem natF_ge : ∀ (l : List UInt8) (n : Int),0 ≤ n → l.all isDig = true → 0 ≤ natF n l := by
 intro l
 induction l with
 | nil => intro n h _; exact h
 | cons d r ih =>
   intro n h hd
   simp only [List.all_cons,Bool.and_eq_true] at hd
   have hdd := hd.1
   simp only [isDig,Bool.and_eq_true,decide_eq_true_eq] at hdd
   exact ih _ (by omega) hd.2
end Go.Vi
namespace Go.Vi
open Go Go.Proofs
def len2 (n : Nat) : Nat := if n = 0 then 0 else Nat.log2 n + 1
theorem len2_bd {n : Nat} (h : 0 < n) : 2 ^ (len2 n - 1) ≤ n ∧ n < 2 ^ len2 n ∧ 1 ≤ len2 n := by
 unfold len2
 rw [if_neg (by omega)]
 exact ⟨by simpa using Nat.log2_self_le (by omega),Nat.lt_log2_self,by omega⟩
def nlog (L : Nat) : Nat := L * 78913 / 2 ^ 18
theorem nlog_ok : ∀ L : Nat,L < 65 → 1 ≤ L → nlog L < 20 ∧ 2 ^ L ≤ 10 ^ (nlog L + 1) ∧ 10 ^ (nlog L - 1) ≤ 2 ^ (L - 1) ∧ (nlog L = 0 → L ≤ 3) := by decide +kernel
def ndig (n : Nat) : Nat := nlog (len2 n) + if 10 ^ nlog (len2 n) ≤ n then 1 else 0
theorem ndig_ok {n : Nat} (h0 : 0 < n) (hn : n < 2 ^ 64) : 1 ≤ ndig n ∧ ndig n ≤ 20 ∧ n < 10 ^ ndig n ∧ 10 ^ (ndig n - 1) ≤ n := by
 obtain ⟨h1,h2,h3⟩ := len2_bd h0
 have hL : len2 n < 65 := by
  rcases Nat.lt_or_ge (len2 n) 65 with h | h
  · exact h
  · have := Nat.pow_le_pow_right (by omega : 0 < 2) (show 64 ≤ len2 n - 1 by omega)
    omega
 obtain ⟨q1,q2,q3,q4⟩ := nlog_ok _ hL h3
 unfold ndig
 by_cases hc : 10 ^ nlog (len2 n) ≤ n
 · rw [if_pos hc]
   exact ⟨by omega,by omega,by omega,by simpa using hc⟩
 · rw [if_neg hc,Nat.add_zero]
   refine ⟨?_,by omega,by omega,by omega⟩
   rcases Nat.eq_zero_or_pos (nlog (len2 n)) with hz | hz
   · rw [hz] at hc; simp at hc; omega
   · exact hz
end Go.Vi
namespace Go.Vi
open Go Go.Proofs Go.Proofs.Try
-- tocsin/tocsinref10.matcher
def L91x0 (n : Nat) (k : Value → AHeap → Prop) (sl : List Value) (H : AHeap) : Prop := kitG prog (drawKeep prog) (cl (cl (cr (cl (cr (cb Try.f91)))))) n (kblkG 0 (kseqG prog (drawKeep prog) (cr (cr (cb Try.f91)))
 (kfinG prog Try.f91 k))) .normal sl H []
theorem d91 (a0 a1 : Value) (H : AHeap) (k : Value → AHeap → Prop) : kbodyG prog (drawKeep prog) Try.f91 [a0,a1] H k = (@bndE (aAlloc prog H 52) ⟨fun v4x1 H2 => ∃ n,L91x0 n  k [a0,a1,undef,undef,v4x1,(.int .i64
 0),(.int .i64 0),undef,undef,undef,undef,undef,undef,undef,undef,undef,undef,undef,undef,undef,undef,undef,undef,undef,undef,undef,undef,undef,undef,undef,undef,undef,undef,undef,undef,undef,
 undef,undef,undef,undef,undef,undef,undef,undef,undef] H2⟩) := by kernel_rfl
theorem L91x0q (n0 : Nat) (s0 s1 s2 s3 s4 s5 s6 s7 s8 s9 s10 s11 s12 s13 s14 s15 s16 s17 s18 s19 s20 s21 s22 s23 s24 s25 s26 s27 s28 s29 s30 s31 s32 s33 s34 s35 s36 s37 s38 s39 s40 s41 s42 s43 s44 : Value) (H : AHeap) (k : Value
 → AHeap → Prop) : L91x0 (n0 + 1) k [s0,s1,s2,s3,s4,s5,s6,s7,s8,s9,s10,s11,s12,s13,s14,s15,s16,s17,s18,s19,s20,s21,s22,s23,s24,s25,s26,s27,s28,s29,s30,s31,s32,s33,s34,s35,s36,s37,s38,s39,
 s40,s41,s42,s43,s44] H = (@bnd (aBin2 prog H .lss 3 (.tmp 7) (.const (.int .i64 3)) s6 (.int .i64 3)) ⟨fun v8x3 => @kifB v8x3 ⟨@bndC prog 81 [s0,s1,(.int .u8 1),(.string { data := #[42] })] H ⟨fun v13x4 H5 =>
 @bnd (gif v13x4 true ((some s0)) undef) ⟨fun v15x6 => @bnd (gif v13x4 true ((some s1)) undef) ⟨fun v16x7 => @bnd (gif v13x4 true (aBin2 prog H5 .add 3 (.tmp 16) (.const (.int .i64 1)) v16x7 (.int .i64 1)) undef) ⟨fun v17x8
 => @bnd (gif v13x4 true ((some s6)) undef) ⟨fun v18x9 => @bndG v13x4 true H5 ⟨fun v19x10 H11 => ACalls prog 96 [v18x9] H5 v19x10 H11⟩ ⟨fun v19x10 H11 => @bndG v13x4 true H11 ⟨fun v20x12 H13 => ACalls prog 81 [v15x6,
 v17x8,(.int .u8 4),v19x10] H11 v20x12 H13⟩ ⟨fun v20x12 H13 => @bnd (pickV v13x4 v20x12 (.bool false)) ⟨fun v21x14 => @bnd (gif v21x14 true ((some s0)) undef) ⟨fun v23x15 => @bnd (gif v21x14 true ((some s1)) undef) ⟨fun v24x16
 => @bnd (gif v21x14 true (aBin2 prog H13 .add 3 (.tmp 24) (.const (.int .i64 2)) v24x16 (.int .i64 2)) undef) ⟨fun v25x17 => @bndG v21x14 true H13 ⟨fun v26x18 H19 => ACalls prog 81 [v23x15,v25x17,(.int .u8 3),
 (.string { data := #[42] })] H13 v26x18 H19⟩ ⟨fun v26x18 H19 => @bnd (pickV v21x14 v26x18 (.bool false)) ⟨fun v27x20 => @kifB v27x20 ⟨@bnd ((some s0)) ⟨fun v28x21 => @bnd ((some s1)) ⟨fun v29x22 => @bnd (aIndexAddr prog H19
 90 v28x21 v29x22) ⟨fun v30x23 => @bnd (aFieldAddr prog H19 105 v30x23 1) ⟨fun v31x24 => @bnd (aLoad prog H19 9 v31x24) ⟨fun v32x25 => @bnd ((some s6)) ⟨fun v33x26 => @bnd (convV prog H19 3 5 v33x26) ⟨fun v34x27 =>
 @bnd ((some s0)) ⟨fun v35x28 => @bnd ((some s1)) ⟨fun v36x29 => @bnd (aBin2 prog H19 .add 3 (.tmp 36) (.const (.int .i64 2)) v36x29 (.int .i64 2)) ⟨fun v37x30 => @bnd (aIndexAddr prog H19 90 v35x28 v37x30) ⟨fun v38x31
 => @bnd (aFieldAddr prog H19 105 v38x31 1) ⟨fun v39x32 => @bnd (aLoad prog H19 9 v39x32) ⟨fun v40x33 => @bnd (buildV prog 52 [(0,v32x25),(1,v34x27),(2,v40x33)]) ⟨fun v41x34 => @bnd ((some s1)) ⟨fun v42x35 =>
 @bnd (aBin2 prog H19 .add 3 (.tmp 42) (.const (.int .i64 3)) v42x35 (.int .i64 3)) ⟨fun v43x36 => @bndK false true H19 ⟨fun x37 H38 => x37 = undef ∧ aStore prog H19 52 s4 v41x34 = some H38⟩ ⟨fun _ H38 => aBin2 prog
 H38 .add 3 (.tmp 42) (.const (.int .i64 3)) v42x35 (.int .i64 3) = some v43x36 ∧ True⟩ ⟨fun _ H38 => @bnd ((some v43x36)) ⟨fun v5x39 => ∃ r40,aLoad prog H38 52 s4 = some r40 ∧ k (.tuple #[r40,v5x39])
 H38⟩⟩⟩⟩⟩⟩⟩⟩⟩⟩⟩⟩⟩⟩⟩⟩⟩⟩⟩ ⟨@bnd (aBin2 prog H19 .add 3 (.tmp 9) (.const (.int .i64 1)) s6 (.int .i64 1)) ⟨fun v10x41 => L91x0 n0  k [s0,s1,s2,s3,s4,s5,v10x41,s6,v8x3,s6,v10x41,s0,s1,v13x4,v13x4,v15x6,v16x7,
 v17x8,v18x9,v19x10,v20x12,v21x14,v21x14,v23x15,v24x16,v25x17,v26x18,v27x20,s28,s29,s30,s31,s32,s33,s34,s35,s36,s37,s38,s39,s40,s41,s42,s43,s44] H19⟩⟩⟩⟩⟩⟩⟩⟩⟩⟩⟩⟩⟩⟩⟩⟩ ⟨@bnd (buildV prog 52 []) ⟨fun
 v44x42 => @bndS (aStore prog H 52 s4 v44x42) ⟨fun _ H44 => ∃ r45,aLoad prog H44 52 s4 = some r45 ∧ k (.tuple #[r45,(.int .i64 (-1))]) H44⟩⟩⟩⟩) := by kernel_rfl
-- tocsin/tocsinref10.Same
def L32x0 (n : Nat) (k : Value → AHeap → Prop) (sl : List Value) (H : AHeap) : Prop := kitG prog (drawPairK prog) (cl (cl (cr (cl (cr (cr (cb Try.f32))))))) n (kblkG 0 (kseqG prog (drawPairK prog) (cr (cr (cr (cb
 Try.f32)))) (kfinG prog Try.f32 k))) .normal sl H []
theorem d32 (a0 a1 : Value) (H : AHeap) (k : Value → AHeap → Prop) : kbodyG prog (drawPairK prog) Try.f32 [a0,a1] H k = (@bnd (aLen prog H 22 a0) ⟨fun v9x1 => @bnd (aLen prog H 22 a1) ⟨fun v11x2 => @bnd (aBin2
 prog H .neq 3 (.tmp 9) (.tmp 11) v9x1 v11x2) ⟨fun v12x3 => @kifB v12x3 ⟨k (.bool false) H⟩ ⟨∃ n,L32x0 n  k [a0,a1,undef,undef,(.bool false),(.int .i64 0),undef,undef,a0,v9x1,a1,v11x2,v12x3,undef,undef,undef,
 undef,undef,undef,undef,undef,undef,undef,undef,undef,undef,undef,undef,undef,undef,undef,undef,undef,undef,undef,undef,undef,undef,undef,undef,undef,undef,undef,undef,undef,undef,undef,undef,
 undef,undef,undef,undef,undef,undef,undef,undef,undef,undef,undef,undef,undef,undef,undef,undef,undef,undef,undef,undef,undef,undef,undef,undef,undef,undef,undef,undef,undef,undef,undef,undef,
 undef,undef] H⟩⟩⟩⟩) := by kernel_rfl
theorem L32x0q (n0 : Nat) (s0 s1 s2 s3 s4 s5 s6 s7 s8 s9 s10 s11 s12 s13 s14 s15 s16 s17 s18 s19 s20 s21 s22 s23 s24 s25 s26 s27 s28 s29 s30 s31 s32 s33 s34 s35 s36 s37 s38 s39 s40 s41 s42 s43 s44 s45 s46 s47 s48 s49 s50 s51 s52
 s53 s54 s55 s56 s57 s58 s59 s60 s61 s62 s63 s64 s65 s66 s67 s68 s69 s70 s71 s72 s73 s74 s75 s76 s77 s78 s79 s80 s81 : Value) (H : AHeap) (k : Value → AHeap → Prop) : L32x0 (n0 + 1) k [s0,s1,s2,s3,s4,s5,s6,s7,s8,s9,
 s10,s11,s12,s13,s14,s15,s16,s17,s18,s19,s20,s21,s22,s23,s24,s25,s26,s27,s28,s29,s30,s31,s32,s33,s34,s35,s36,s37,s38,s39,s40,s41,s42,s43,s44,s45,s46,s47,s48,s49,s50,s51,s52,s53,s54,
 s55,s56,s57,s58,s59,s60,s61,s62,s63,s64,s65,s66,s67,s68,s69,s70,s71,s72,s73,s74,s75,s76,s77,s78,s79,s80,s81] H = (@bnd (aLen prog H 22 s0) ⟨fun v15x4 => @bnd (aBin2 prog H .lss 3 (.tmp 13)
 (.tmp 15) s5 v15x4) ⟨fun v16x5 => @kifB v16x5 ⟨(@bnd ((some s0)) ⟨fun v19x6 => @bnd ((some s5)) ⟨fun v20x7 => @bnd (aIndexAddr prog H 22 v19x6 v20x7) ⟨fun v21x8 => @bnd (aLoad prog H 50 v21x8) ⟨fun v22x9 => @bnd ((some
 s1)) ⟨fun v23x10 => @bnd ((some s5)) ⟨fun v24x11 => @bnd (aIndexAddr prog H 22 v23x10 v24x11) ⟨fun v25x12 => @bnd (aLoad prog H 50 v25x12) ⟨fun v26x13 => @bndK false true H ⟨fun v6x14 H15 => aAlloc prog H 50 = some
 (v6x14,H15)⟩ ⟨fun _ H15 => aLoad prog H15 50 v25x12 = some v26x13 ∧ aIndexAddr prog H15 22 v23x10 v24x11 = some v25x12 ∧ aLoad prog H15 50 v21x8 = some v22x9 ∧ aIndexAddr prog H15 22 v19x6 v20x7 = some v21x8 ∧
 True⟩ ⟨fun v6x14 H15 => @bndK false true H15 ⟨fun v7x16 H17 => aAlloc prog H15 50 = some (v7x16,H17)⟩ ⟨fun _ H17 => aLoad prog H17 50 v25x12 = some v26x13 ∧ aIndexAddr prog H17 22 v23x10 v24x11 = some v25x12 ∧
 aLoad prog H17 50 v21x8 = some v22x9 ∧ aIndexAddr prog H17 22 v19x6 v20x7 = some v21x8 ∧ True⟩ ⟨fun v7x16 H17 => @bndK false true H17 ⟨fun x18 H19 => x18 = undef ∧ aStore prog H17 50 v6x14 v22x9 = some H19⟩ ⟨fun _
 H19 => aLoad prog H19 50 v25x12 = some v26x13 ∧ aIndexAddr prog H19 22 v23x10 v24x11 = some v25x12 ∧ True⟩ ⟨fun _ H19 => @bndK true true H19 ⟨fun x20 H21 => x20 = undef ∧ aStore prog H19 50 v7x16 v26x13 = some H21⟩
 ⟨fun _ _ => True⟩ ⟨fun _ H21 => @bnd (aFieldAddr prog H21 50 v6x14 0) ⟨fun v27x22 => @bnd (aLoad prog H21 5 v27x22) ⟨fun v28x23 => @bnd (aFieldAddr prog H21 50 v7x16 0) ⟨fun v29x24 => @bnd (aLoad prog H21 5
 v29x24) ⟨fun v30x25 => @bnd (aBin2 prog H21 .neq 5 (.tmp 28) (.tmp 30) v28x23 v30x25) ⟨fun v31x26 => @bnd (gif v31x26 false (aFieldAddr prog H21 50 v6x14 1) undef) ⟨fun v33x27 => @bnd (gif v31x26 false (aLoad prog
 H21 5 v33x27) undef) ⟨fun v34x28 => @bnd (gif v31x26 false (aFieldAddr prog H21 50 v7x16 1) undef) ⟨fun v35x29 => @bnd (gif v31x26 false (aLoad prog H21 5 v35x29) undef) ⟨fun v36x30 => @bnd (gif v31x26 false (aBin2
 prog H21 .neq 5 (.tmp 34) (.tmp 36) v34x28 v36x30) undef) ⟨fun v37x31 => @bnd (pickV v31x26 (.bool true) v37x31) ⟨fun v38x32 => @bnd (gif v38x32 false (aFieldAddr prog H21 50 v6x14 2) undef) ⟨fun v40x33 => @bnd (gif
 v38x32 false (aLoad prog H21 48 v40x33) undef) ⟨fun v41x34 => @bnd (gif v38x32 false (aFieldAddr prog H21 50 v7x16 2) undef) ⟨fun v42x35 => @bnd (gif v38x32 false (aLoad prog H21 48 v42x35) undef) ⟨fun v43x36 =>
 @bndG v38x32 false H21 ⟨fun v44x37 H38 => ACalls prog 49 [v41x34,v43x36] H21 v44x37 H38⟩ ⟨fun v44x37 H38 => @bnd (gif v38x32 false (unV prog .not v44x37) undef) ⟨fun v45x39 => @bnd (pickV v38x32 (.bool true) v45x39)
 ⟨fun v46x40 => @bnd (gif v46x40 false (aFieldAddr prog H38 50 v6x14 3) undef) ⟨fun v48x41 => @bnd (gif v46x40 false (aLoad prog H38 3 v48x41) undef) ⟨fun v49x42 => @bnd (gif v46x40 false (aFieldAddr prog H38 50
 v7x16 3) undef) ⟨fun v50x43 => @bnd (gif v46x40 false (aLoad prog H38 3 v50x43) undef) ⟨fun v51x44 => @bnd (gif v46x40 false (aBin2 prog H38 .neq 3 (.tmp 49) (.tmp 51) v49x42 v51x44) undef) ⟨fun v52x45 => @bnd (pickV
 v46x40 (.bool true) v52x45) ⟨fun v53x46 => @bnd (gif v53x46 false (aFieldAddr prog H38 50 v6x14 4) undef) ⟨fun v55x47 => @bnd (gif v53x46 false (aLoad prog H38 5 v55x47) undef) ⟨fun v56x48 => @bnd (gif v53x46 false
 (aFieldAddr prog H38 50 v7x16 4) undef) ⟨fun v57x49 => @bnd (gif v53x46 false (aLoad prog H38 5 v57x49) undef) ⟨fun v58x50 => @bnd (gif v53x46 false (aBin2 prog H38 .neq 5 (.tmp 56) (.tmp 58) v56x48 v58x50) undef)
 ⟨fun v59x51 => @bnd (pickV v53x46 (.bool true) v59x51) ⟨fun v60x52 => @bnd (gif v60x52 false (aFieldAddr prog H38 50 v6x14 5) undef) ⟨fun v62x53 => @bnd (gif v60x52 false (aLoad prog H38 2 v62x53) undef) ⟨fun v63x54 =>
 @bnd (gif v60x52 false (aFieldAddr prog H38 50 v7x16 5) undef) ⟨fun v64x55 => @bnd (gif v60x52 false (aLoad prog H38 2 v64x55) undef) ⟨fun v65x56 => @bnd (gif v60x52 false (aBin2 prog H38 .neq 2 (.tmp 63) (.tmp 65)
 v63x54 v65x56) undef) ⟨fun v66x57 => @bnd (pickV v60x52 (.bool true) v66x57) ⟨fun v67x58 => @bnd (gif v67x58 false (aFieldAddr prog H38 50 v6x14 6) undef) ⟨fun v69x59 => @bnd (gif v67x58 false (aLoad prog H38 3 v69x59)
 undef) ⟨fun v70x60 => @bnd (gif v67x58 false (aFieldAddr prog H38 50 v7x16 6) undef) ⟨fun v71x61 => @bnd (gif v67x58 false (aLoad prog H38 3 v71x61) undef) ⟨fun v72x62 => @bnd (gif v67x58 false (aBin2 prog H38 .neq
 3 (.tmp 70) (.tmp 72) v70x60 v72x62) undef) ⟨fun v73x63 => @bnd (pickV v67x58 (.bool true) v73x63) ⟨fun v74x64 => @bnd (gif v74x64 false (aFieldAddr prog H38 50 v6x14 7) undef) ⟨fun v76x65 => @bnd (gif v74x64 false (aLoad
 prog H38 3 v76x65) undef) ⟨fun v77x66 => @bnd (gif v74x64 false (aFieldAddr prog H38 50 v7x16 7) undef) ⟨fun v78x67 => @bnd (gif v74x64 false (aLoad prog H38 3 v78x67) undef) ⟨fun v79x68 => @bnd (gif v74x64 false
 (aBin2 prog H38 .neq 3 (.tmp 77) (.tmp 79) v77x66 v79x68) undef) ⟨fun v80x69 => @bnd (pickV v74x64 (.bool true) v80x69) ⟨fun v81x70 => @kifB v81x70 ⟨k (.bool false) H38⟩ ⟨@bnd (aBin2 prog H38 .add 3 (.tmp 17) (.const
 (.int .i64 1)) s5 (.int .i64 1)) ⟨fun v18x71 => L32x0 n0  k [s0,s1,s2,s3,s4,v18x71,v6x14,v7x16,s8,s9,s10,s11,s12,s5,s0,v15x4,v16x5,s5,v18x71,v19x6,v20x7,v21x8,v22x9,v23x10,v24x11,v25x12,v26x13,v27x22,
 v28x23,v29x24,v30x25,v31x26,v31x26,v33x27,v34x28,v35x29,v36x30,v37x31,v38x32,v38x32,v40x33,v41x34,v42x35,v43x36,v44x37,v45x39,v46x40,v46x40,v48x41,v49x42,v50x43,v51x44,v52x45,v53x46,v53x46,v55x47,
 v56x48,v57x49,v58x50,v59x51,v60x52,v60x52,v62x53,v63x54,v64x55,v65x56,v66x57,v67x58,v67x58,v69x59,v70x60,v71x61,v72x62,v73x63,v74x64,v74x64,v76x65,v77x66,v78x67,v79x68,v80x69,v81x70]
 H38⟩⟩⟩⟩⟩⟩⟩⟩⟩⟩⟩⟩⟩⟩⟩⟩⟩⟩⟩⟩⟩⟩⟩⟩⟩⟩⟩⟩⟩⟩⟩⟩⟩⟩⟩⟩⟩⟩⟩⟩⟩⟩⟩⟩⟩⟩⟩⟩⟩⟩⟩⟩⟩⟩⟩⟩⟩⟩⟩⟩⟩⟩ ∧ @bnd ((some s0)) ⟨fun v19x72 => @bnd ((some s5)) ⟨fun v20x73 => @bnd (aIndexAddr prog H 22 v19x72 v20x73) ⟨fun v21x74 => @bnd (aLoad prog H 50 v21x74)
 ⟨fun v22x75 => @bnd ((some s1)) ⟨fun v23x76 => @bnd ((some s5)) ⟨fun v24x77 => @bnd (aIndexAddr prog H 22 v23x76 v24x77) ⟨fun v25x78 => @bnd (aLoad prog H 50 v25x78) ⟨fun v26x79 => @bndK false true H ⟨fun v7x80 H81 =>
 aAlloc prog H 50 = some (v7x80,H81)⟩ ⟨fun _ H81 => aLoad prog H81 50 v25x78 = some v26x79 ∧ aIndexAddr prog H81 22 v23x76 v24x77 = some v25x78 ∧ aLoad prog H81 50 v21x74 = some v22x75 ∧ aIndexAddr prog H81
 22 v19x72 v20x73 = some v21x74 ∧ True⟩ ⟨fun v7x80 H81 => @bndK false true H81 ⟨fun v6x82 H83 => aAlloc prog H81 50 = some (v6x82,H83)⟩ ⟨fun _ H83 => aLoad prog H83 50 v25x78 = some v26x79 ∧ aIndexAddr prog H83 22
 v23x76 v24x77 = some v25x78 ∧ aLoad prog H83 50 v21x74 = some v22x75 ∧ aIndexAddr prog H83 22 v19x72 v20x73 = some v21x74 ∧ True⟩ ⟨fun v6x82 H83 => @bndK false true H83 ⟨fun x84 H85 => x84 = undef ∧ aStore prog H83
 50 v6x82 v22x75 = some H85⟩ ⟨fun _ H85 => aLoad prog H85 50 v25x78 = some v26x79 ∧ aIndexAddr prog H85 22 v23x76 v24x77 = some v25x78 ∧ True⟩ ⟨fun _ H85 => @bndK true true H85 ⟨fun x86 H87 => x86 = undef ∧ aStore
 prog H85 50 v7x80 v26x79 = some H87⟩ ⟨fun _ _ => True⟩ ⟨fun _ H87 => @bnd (aFieldAddr prog H87 50 v6x82 0) ⟨fun v27x88 => @bnd (aLoad prog H87 5 v27x88) ⟨fun v28x89 => @bnd (aFieldAddr prog H87 50 v7x80 0) ⟨fun
 v29x90 => @bnd (aLoad prog H87 5 v29x90) ⟨fun v30x91 => @bnd (aBin2 prog H87 .neq 5 (.tmp 28) (.tmp 30) v28x89 v30x91) ⟨fun v31x92 => @bnd (gif v31x92 false (aFieldAddr prog H87 50 v6x82 1) undef) ⟨fun v33x93 =>
 @bnd (gif v31x92 false (aLoad prog H87 5 v33x93) undef) ⟨fun v34x94 => @bnd (gif v31x92 false (aFieldAddr prog H87 50 v7x80 1) undef) ⟨fun v35x95 => @bnd (gif v31x92 false (aLoad prog H87 5 v35x95) undef) ⟨fun
 v36x96 => @bnd (gif v31x92 false (aBin2 prog H87 .neq 5 (.tmp 34) (.tmp 36) v34x94 v36x96) undef) ⟨fun v37x97 => @bnd (pickV v31x92 (.bool true) v37x97) ⟨fun v38x98 => @bnd (gif v38x98 false (aFieldAddr prog H87 50
 v6x82 2) undef) ⟨fun v40x99 => @bnd (gif v38x98 false (aLoad prog H87 48 v40x99) undef) ⟨fun v41x100 => @bnd (gif v38x98 false (aFieldAddr prog H87 50 v7x80 2) undef) ⟨fun v42x101 => @bnd (gif v38x98 false (aLoad
 prog H87 48 v42x101) undef) ⟨fun v43x102 => @bndG v38x98 false H87 ⟨fun v44x103 H104 => ACalls prog 49 [v41x100,v43x102] H87 v44x103 H104⟩ ⟨fun v44x103 H104 => @bnd (gif v38x98 false (unV prog .not v44x103) undef)
 ⟨fun v45x105 => @bnd (pickV v38x98 (.bool true) v45x105) ⟨fun v46x106 => @bnd (gif v46x106 false (aFieldAddr prog H104 50 v6x82 3) undef) ⟨fun v48x107 => @bnd (gif v46x106 false (aLoad prog H104 3 v48x107) undef) ⟨fun
 v49x108 => @bnd (gif v46x106 false (aFieldAddr prog H104 50 v7x80 3) undef) ⟨fun v50x109 => @bnd (gif v46x106 false (aLoad prog H104 3 v50x109) undef) ⟨fun v51x110 => @bnd (gif v46x106 false (aBin2 prog H104 .neq 3
 (.tmp 49) (.tmp 51) v49x108 v51x110) undef) ⟨fun v52x111 => @bnd (pickV v46x106 (.bool true) v52x111) ⟨fun v53x112 => @bnd (gif v53x112 false (aFieldAddr prog H104 50 v6x82 4) undef) ⟨fun v55x113 => @bnd (gif v53x112 false
 (aLoad prog H104 5 v55x113) undef) ⟨fun v56x114 => @bnd (gif v53x112 false (aFieldAddr prog H104 50 v7x80 4) undef) ⟨fun v57x115 => @bnd (gif v53x112 false (aLoad prog H104 5 v57x115) undef) ⟨fun v58x116 => @bnd
 (gif v53x112 false (aBin2 prog H104 .neq 5 (.tmp 56) (.tmp 58) v56x114 v58x116) undef) ⟨fun v59x117 => @bnd (pickV v53x112 (.bool true) v59x117) ⟨fun v60x118 => @bnd (gif v60x118 false (aFieldAddr prog H104 50 v6x82 5)
 undef) ⟨fun v62x119 => @bnd (gif v60x118 false (aLoad prog H104 2 v62x119) undef) ⟨fun v63x120 => @bnd (gif v60x118 false (aFieldAddr prog H104 50 v7x80 5) undef) ⟨fun v64x121 => @bnd (gif v60x118 false (aLoad prog
 H104 2 v64x121) undef) ⟨fun v65x122 => @bnd (gif v60x118 false (aBin2 prog H104 .neq 2 (.tmp 63) (.tmp 65) v63x120 v65x122) undef) ⟨fun v66x123 => @bnd (pickV v60x118 (.bool true) v66x123) ⟨fun v67x124 => @bnd (gif v67x124
 false (aFieldAddr prog H104 50 v6x82 6) undef) ⟨fun v69x125 => @bnd (gif v67x124 false (aLoad prog H104 3 v69x125) undef) ⟨fun v70x126 => @bnd (gif v67x124 false (aFieldAddr prog H104 50 v7x80 6) undef) ⟨fun v71x127
 => @bnd (gif v67x124 false (aLoad prog H104 3 v71x127) undef) ⟨fun v72x128 => @bnd (gif v67x124 false (aBin2 prog H104 .neq 3 (.tmp 70) (.tmp 72) v70x126 v72x128) undef) ⟨fun v73x129 => @bnd (pickV v67x124 (.bool true)
 v73x129) ⟨fun v74x130 => @bnd (gif v74x130 false (aFieldAddr prog H104 50 v6x82 7) undef) ⟨fun v76x131 => @bnd (gif v74x130 false (aLoad prog H104 3 v76x131) undef) ⟨fun v77x132 => @bnd (gif v74x130 false (aFieldAddr
 prog H104 50 v7x80 7) undef) ⟨fun v78x133 => @bnd (gif v74x130 false (aLoad prog H104 3 v78x133) undef) ⟨fun v79x134 => @bnd (gif v74x130 false (aBin2 prog H104 .neq 3 (.tmp 77) (.tmp 79) v77x132 v79x134) undef)
 ⟨fun v80x135 => @bnd (pickV v74x130 (.bool true) v80x135) ⟨fun v81x136 => @kifB v81x136 ⟨k (.bool false) H104⟩ ⟨@bnd (aBin2 prog H104 .add 3 (.tmp 17) (.const (.int .i64 1)) s5 (.int .i64 1)) ⟨fun v18x137 => L32x0 n0  k
 [s0,s1,s2,s3,s4,v18x137,v6x82,v7x80,s8,s9,s10,s11,s12,s5,s0,v15x4,v16x5,s5,v18x137,v19x72,v20x73,v21x74,v22x75,v23x76,v24x77,v25x78,v26x79,v27x88,v28x89,v29x90,v30x91,v31x92,v31x92,v33x93,
 v34x94,v35x95,v36x96,v37x97,v38x98,v38x98,v40x99,v41x100,v42x101,v43x102,v44x103,v45x105,v46x106,v46x106,v48x107,v49x108,v50x109,v51x110,v52x111,v53x112,v53x112,v55x113,v56x114,v57x115,v58x116,v59x117,
 v60x118,v60x118,v62x119,v63x120,v64x121,v65x122,v66x123,v67x124,v67x124,v69x125,v70x126,v71x127,v72x128,v73x129,v74x130,v74x130,v76x131,v77x132,v78x133,v79x134,v80x135,v81x136]
 H104⟩⟩⟩⟩⟩⟩⟩⟩⟩⟩⟩⟩⟩⟩⟩⟩⟩⟩⟩⟩⟩⟩⟩⟩⟩⟩⟩⟩⟩⟩⟩⟩⟩⟩⟩⟩⟩⟩⟩⟩⟩⟩⟩⟩⟩⟩⟩⟩⟩⟩⟩⟩⟩⟩⟩⟩⟩⟩⟩⟩⟩⟩)⟩ ⟨k (.bool true) H⟩⟩⟩) := by kernel_rfl
end Go.Vi
namespace Go.Vi
open Go Go.Proofs
section
variable {P : Program} {H : AHeap} {T : TypeId} {x y : Operand} {k : IntKind} {a : Nat}
theorem remL {c : Int} {n : Nat} (hc : c = n) (h0 : 0 < n) : aBin2 P H .rem T x y (.int k (a : Int)) (.int k c) = some (.int k ((a % n : Nat) : Int)) := by
 subst hc; rw [aBin_rem _ _ _ _ _ _ _ (by omega)]; rfl
theorem quoL {c : Int} {n : Nat} (hc : c = n) (h0 : 0 < n) (hw : k.wrap ((a / n : Nat) : Int) = ((a / n : Nat) : Int)) : aBin2 P H .quo T x y (.int k (a : Int)) (.int k c) = some (.int k ((a / n : Nat) : Int)) := by
 subst hc; rw [aBin_quo _ _ _ _ _ _ _ (by omega),← hw]; rfl
end
end Go.Vi
namespace Go.Vi
open Go Go.Proofs Go.Proofs.Try
def digs : Nat → Nat → List UInt8
 | 0,_ => []
 | n + 1,u => digs n (u / 10) ++ [UInt8.ofNat (48 + u % 10)]
theorem digs_len : ∀ (n u : Nat),(digs n u).length = n := by
 intro n
 induction n with
 | zero => intro u; rfl
 | succ n ih => intro u; rw [digs]; simp [ih]
def natS (n : Nat) : List UInt8 := if n = 0 then [48] else digs (ndig n) n
def fmtS (x : Int) : List UInt8 := if x < 0 then 45 :: natS x.natAbs else natS x.natAbs
theorem convBytes {H : AHeap} {b o n c : Nat} {cs : List Value} {l : List UInt8} (hb : hcells H b = some cs) (hcs : (cs.drop o).take n = bcells l) (_hn : n = l.length) (hle : o + n ≤ cs.length) :
  convV prog H 102 9 (.slice (some ⟨b,o,some cs.length⟩) n c) = some (str l) := by
 have hu : ∀ l : List UInt8,u8s (bcells l) = some (l.map fun b => (b.toNat : Int)) := by
  intro l
  induction l with
  | nil => rfl
  | cons x r ih => simp only [bcells,List.map_cons,u8s]; simp only [bcells] at ih; rw [ih]; rfl
 have hs : ∀ l : List UInt8,strOfNums (l.map fun b => (b.toNat : Int)) = ⟨l.toArray⟩ := by
  intro l
  unfold strOfNums
  simp
  exact (List.map_congr_left fun b _ => by simp).trans (List.map_id _)
 simp [convV,aConv,hb,hle,hcs,hu,hs,isU8]
end Go.Vi
namespace Go.Vi
open Go Go.Proofs
def trimR (b : UInt8) : List UInt8 → List UInt8
 | [] => []
 | x :: r => match trimR b r with
   | [] => if x = b then [] else [x]
   | y :: s => x :: y :: s
def fixS (x : Int) : List UInt8 :=
 (if sat x < 0 then [45] else []) ++ fmtS (((sat x).natAbs / 1000 : Nat) : Int) ++ if (sat x).natAbs % 1000 = 0 then [] else 46 :: trimR 48 ((fmtS ((1000 + (sat x).natAbs % 1000 : Nat) : Int)).drop 1)
theorem natS_len {n : Nat} (h : n < 2 ^ 64) : (natS n).length ≤ 20 := by
 unfold natS
 split
 · simp
 · rw [digs_len]; exact (ndig_ok (by omega) h).2.1
theorem fmtS_nat (n : Nat) : fmtS (n : Int) = natS n := by
 unfold fmtS; rw [if_neg (by omega)]; rfl
theorem trimR_len (b : UInt8) : ∀ l : List UInt8,(trimR b l).length ≤ l.length := by
 intro l
 induction l with
 | nil => exact Nat.le_refl _
 | cons x r ih =>
   rw [trimR]
   split
   · split <;> simp
   · rename_i h; rw [h] at ih; simpa using ih
end Go.Vi
namespace Go.Vi
open Go Go.Proofs
def joinS (sep : List UInt8) : List (List UInt8) → List UInt8
 | [] => []
 | a :: r => a ++ (r.map (sep ++ ·)).flatten
def sumL : List (List UInt8) → Nat
 | [] => 0
 | a :: r => a.length + sumL r
theorem join_len (sep a : List UInt8) : ∀ r : List (List UInt8),(joinS sep (a :: r)).length = sep.length * r.length + sumL (a :: r) := by
 intro r
 have h : ∀ r : List (List UInt8),((r.map (sep ++ ·)).flatten).length = sep.length * r.length + sumL r := by
  intro r
  induction r with
  | nil => simp [sumL]
  | cons x r ih => rw [List.map_cons,List.flatten_cons,List.length_append,ih,List.length_append,sumL,List.length_cons,Nat.mul_add,Nat.mul_one]; omega
 rw [joinS,List.length_append,h,sumL]
 omega
end Go.Vi
namespace Go.Vi
open Go Go.Proofs
def escB (b : UInt8) : List UInt8 := if (b = 34 ∨ b = 92) then [92,b] else [b]
def quoteS (v : List UInt8) : List UInt8 := 34 :: (v.flatMap escB) ++ [34]
theorem escB_len (b : UInt8) : (escB b).length ≤ 2 := by unfold escB; split <;> simp
theorem esc_len : ∀ v : List UInt8,(v.flatMap escB).length ≤ 2 * v.length := by
 intro v
 induction v with
 | nil => simp
 | cons b r ih => rw [List.flatMap_cons,List.length_append,List.length_cons]; have := escB_len b; omega
def sgnS (n : Int) : List UInt8 := if isOp n = true then opS n else [61]
def matS (m : Mat) : List UInt8 := m.name ++ sgnS m.op ++ quoteS m.value
def selS (ms : List Mat) : List UInt8 := 123 :: joinS [44] (ms.map matS) ++ [125]
def Mat.tame (m : Mat) : Prop := m.name.length ≤ 2 ^ 20 ∧ m.value.length ≤ 2 ^ 20
theorem sgnS_len (n : Int) : (sgnS n).length ≤ 2 := by
 unfold sgnS opS
 split
 · split
   · simp
   · split
     · simp
     · split <;> simp
 · simp
theorem quoteS_len (v : List UInt8) : (quoteS v).length ≤ 2 * v.length + 2 := by
 have := esc_len v
 rw [quoteS,List.length_append,List.length_cons]
 simp only [List.length_cons,List.length_nil]
 omega
theorem sumL_le {c : Nat} : ∀ l : List (List UInt8),(∀ x ∈ l,x.length ≤ c) → sumL l ≤ c * l.length := by
 intro l
 induction l with
 | nil => intro _; simp [sumL]
 | cons a r ih =>
   intro h
   rw [sumL,List.length_cons,Nat.mul_add]
   have := ih fun x hx => h x (by simp [hx])
   have := h a (by simp)
   omega
end Go.Vi
namespace Go.Vi
open Go Go.Proofs Go.Proofs.Try
def strongI (k : UInt8) : Int := if k = 2 then 0 else if k = 1 then 1 else if k = 3 then 2 else if k = 0 then 3 else 0
def leafS (n : Nod) : List UInt8 := aggs.getD n.agg.toNat [] ++ [40] ++ selS n.sel ++ [91] ++ fmtS n.window ++ [93,41,32] ++ cmps.getD n.cmp.toNat [] ++ [32] ++ fixS n.value
def txtF (ns : List Nod) : Nat → Nat → Int → List UInt8
 | 0,_,_ => []
 | f + 1, e, least => match ns[e]? with
   | none => []
   | some n =>
     let s := if n.kind = 0 then leafS n
      else if n.kind = 3 then [110,111,116,32] ++ txtF ns f n.left.toNat 2
      else if n.kind = 1 then txtF ns f n.left.toNat 1 ++ [32,97,110,100,32] ++ txtF ns f n.right.toNat 2
      else if n.kind = 2 then txtF ns f n.left.toNat 0 ++ [32,111,114,32] ++ txtF ns f n.right.toNat 1
      else []
     if strongI n.kind < least then [40] ++ s ++ [41] else s
theorem row_str {K : AHeap} {b i : Nat} {l : List (List UInt8)} {s : List UInt8} {k : IntKind} (hb : hcells K b = some (l.map str)) (hi : l[i]? = some s) :
  ∃ p,aIndexAddr prog K 23 (.slice (some ⟨b,0,some l.length⟩) l.length l.length) (.int k i) = some p ∧ aLoad prog K 9 p = some (str s) := by
 have hl : hlen K b = some l.length := by rw [hcells_len hb]; simp
 have hlt := (List.getElem?_eq_some_iff.1 hi).1
 refine ⟨.pointer (some ⟨b,i,some l.length⟩),?_,?_⟩
 · rw [aIndexAddr_sl]
   simp [hl,slElem]
   omega
 · simp [hb,hi]
end Go.Vi
namespace Go.Vi
open Go Go.Proofs
theorem ok_len {m : Mat} (h : m.ok = true) : m.tame ∧ (matS m).length ≤ 84 := by
 unfold Mat.ok mayName mayM mayValue at h
 simp only [Bool.and_eq_true,Bool.or_eq_true,decide_eq_true_eq] at h
 obtain ⟨⟨_,⟨⟨_,h1⟩,_⟩,_⟩,h2⟩ := h
 have h3 : m.value.length ≤ 32 := by
  rcases h2 with h2 | h2
  · rw [h2]; simp
  · exact h2.1.2
 have h4 := sgnS_len m.op
 have h5 := quoteS_len m.value
 refine ⟨⟨by omega,by omega⟩,?_⟩
 simp only [matS,List.length_append]
 omega
theorem sel_small {ms : List Mat} (h : mayMats ms = true) : (∀ m ∈ ms,m.tame) ∧ ms.length ≤ 6 ∧ (selS ms).length ≤ 512 := by
 unfold mayMats at h
 simp only [Bool.and_eq_true,List.all_eq_true,decide_eq_true_eq] at h
 obtain ⟨h1,h2⟩ := h
 refine ⟨fun m hm => (ok_len (h1 m hm)).1,h2,?_⟩
 have h3 : (joinS [44] (ms.map matS)).length ≤ 510 := by
  cases h : ms.map matS with
  | nil => simp [joinS]
  | cons a r =>
    rw [join_len]
    have hall : ∀ x ∈ a :: r,x.length ≤ 84 := by
     rw [← h]
     intro x hx
     obtain ⟨m,hm1,rfl⟩ := List.mem_map.1 hx
     exact (ok_len (h1 m hm1)).2
    have h4 := sumL_le _ hall
    have h5 : (a :: r).length ≤ 6 := by rw [← h]; simpa using h2
    simp at h5 h4 ⊢
    omega
 simp [selS]
 omega
theorem fixS_len (x : Int) : (fixS x).length ≤ 42 := by
 have hb : -4611686018427387903 ≤ sat x ∧ sat x ≤ 4611686018427387903 := by unfold sat maxFix; omega
 unfold fixS
 rw [fmtS_nat,fmtS_nat]
 have l1 := natS_len (n := (sat x).natAbs / 1000) (by omega)
 have l2 := natS_len (n := 1000 + (sat x).natAbs % 1000) (by omega)
 have l3 := trimR_len 48 ((natS (1000 + (sat x).natAbs % 1000)).drop 1)
 simp only [List.length_drop] at l3
 have l4 : (if sat x < 0 then [45] else ([] : List UInt8)).length ≤ 1 := by split <;> simp
 have l5 : (if (sat x).natAbs % 1000 = 0 then [] else 46 :: trimR 48 ((natS (1000 + (sat x).natAbs % 1000)).drop 1)).length ≤ 21 := by
  split
  · simp
  · simp only [List.length_cons]; omega
 rw [List.length_append,List.length_append]
 omega
theorem getD_len {l : List (List UInt8)} {i c : Nat} (h : ∀ x ∈ l,x.length ≤ c) : (l.getD i []).length ≤ c := by
 simp only [List.getD]
 cases hi : l[i]? with
 | none => simp
 | some s => exact h s (List.mem_of_getElem? hi)
theorem plain_leaf {n : Nod} (h : n.plain = true) : n.agg.toNat < 6 ∧ n.cmp.toNat < 6 ∧ -9223372036854775808 ≤ n.window ∧ n.window < 9223372036854775808 ∧ (∀ m ∈ n.sel,m.tame) ∧ n.sel.length ≤ 2 ^ 20 ∧ (leafS n).length ≤ 2 ^ 10 := by
 unfold Nod.plain at h
 simp only [Bool.and_eq_true,decide_eq_true_eq] at h
 obtain ⟨⟨⟨⟨⟨⟨⟨h1,h2⟩,h3⟩,h4⟩,h5⟩,_⟩,_⟩,_⟩ := h
 obtain ⟨s1,s2,s3⟩ := sel_small h2
 refine ⟨by omega,by omega,by omega,by omega,s1,by omega,?_⟩
 have a1 : (aggs.getD n.agg.toNat []).length ≤ 5 := getD_len (by decide)
 have a2 : (cmps.getD n.cmp.toNat []).length ≤ 2 := getD_len (by decide)
 have a3 := fixS_len n.value
 have a4 : (fmtS n.window).length ≤ 20 := by
  obtain ⟨w,hw⟩ : ∃ w : Nat,n.window = w := ⟨n.window.toNat,by omega⟩
  rw [hw,fmtS_nat]
  exact natS_len (by omega)
 simp only [leafS,List.length_append,List.length_cons,List.length_nil]
 omega
def printS (ns : List Nod) : List UInt8 := if right ns = true then txtF ns ns.length (ns.length - 1) 0 else []
end Go.Vi
namespace Go.Vi
open Go Go.Proofs
theorem Gro.weak {K lo lo' z T v cl} (h : Gro K lo z T v cl) (hl : lo' ≤ lo) : Gro K lo' z T v cl := by
 cases h with
 | nil => exact .nil
 | mk bb cl h1 h2 h3 h4 => exact .mk bb cl (by omega) h2 h3 h4
def takO (ts : List Tok) (k : Int) (s : List UInt8) (a : Nat) : Nat := if isT ts a k s = true then a + 1 else a
def signO (ts : List Tok) (s : List UInt8) (a : Nat) : Option Nat := if isT ts a 4 s = true then some (a + 1) else none
def tokK (ts : List Tok) (k : Int) (a : Nat) : Option (List UInt8) := (ts[a]?).bind fun t => if t.kind = k then some t.text else none
def idxS (l : List (List UInt8)) (s : List UInt8) : Nat := if s ∈ l then l.idxOf s else 0
def oneO (ts : List Tok) (k : Int) (l : List (List UInt8)) (a : Nat) : Option Nat := (tokK ts k a).bind fun s => if s ∈ l then some (a + 1) else none
end Go.Vi
namespace Go.Vi
open Go Go.Proofs
def NumTok (ts : List Tok) : Prop := ∀ (a : Nat) t,ts[a]? = some t → t.text.length < 2 ^ 20 ∧ (t.kind = 2 → (∀ b ∈ t.text,isDig b = true ∨ b = 46) ∧ ∀ b r,t.text = b :: r → isDig b = true)
def winO (ts : List Tok) (a : Nat) : Option (Int × Nat) := (tokK ts 2 a).bind fun s => (atoF s).bind fun n => if 1 ≤ n ∧ n ≤ 1000 then some (n,a + 1) else none
def valP (ts : List Tok) (a : Nat) : List UInt8 := if isT ts a 4 [45] = true then [45] else []
def valO (ts : List Tok) (a : Nat) : Option (Int × Nat) := (tokK ts 2 (takO ts 4 [45] a)).bind fun s => if (parF (valP ts a ++ s)).2 = 0 then some ((parF (valP ts a ++ s)).1,takO ts 4 [45] a + 1) else none
end Go.Vi
namespace Go.Vi
open Go Go.Proofs Go.Proofs.Try
def opsL : List (List UInt8) := [[61],[33,61],[94,61]]
theorem mael1 : aElem prog 48 = some (52,3,40) := by kernel_rfl
theorem mael2 : isSeq prog 48 = true := by kernel_rfl
def matO (ts : List Tok) (a : Nat) : Option (Mat × Nat) := (tokK ts 1 a).bind fun n => (tokK ts 4 (a + 1)).bind fun o => if o ∈ opsL then (tokK ts 3 (a + 2)).bind fun v => some (⟨n,idxS opsL o,v⟩,a + 3) else none
def selL (ts : List Tok) : Nat → Nat → List Mat → Option (List Mat × Nat)
 | 0,_,_ => none
 | f + 1,a,acc => (matO ts a).bind fun p => if isT ts p.2 4 [44] = true then selL ts f (p.2 + 1) (acc ++ [p.1]) else some (acc ++ [p.1],p.2)
def selE (ts : List Tok) (ms : List Mat) (a : Nat) : Option Nat := (signO ts [125] a).bind fun c => if mayMats ms = true then some c else none
def selO (ts : List Tok) (a : Nat) : Option (List Mat × Nat) := (signO ts [123] a).bind fun a1 =>
 if isT ts a1 4 [125] = true then some ([],a1 + 1) else (selL ts (ts.length + 1) a1 []).bind fun p => (selE ts p.1 p.2).map fun c => (p.1,c)
end Go.Vi
namespace Go.Vi
open Go Go.Proofs
def txtK (ts : List Tok) (k : Int) (a : Nat) : List UInt8 := (tokK ts k a).getD []
def cmpO (ts : List Tok) (a : Nat) : Option (Nod × Nat) := (oneO ts 1 aggs a).bind fun b1 => (signO ts [40] b1).bind fun b2 => (selO ts b2).bind fun p => (signO ts [91] p.2).bind fun b3 => (winO ts b3).bind fun w =>
 (signO ts [93] w.2).bind fun b4 => (signO ts [41] b4).bind fun b5 => (oneO ts 4 cmps b5).bind fun b6 => (valO ts b6).bind fun v =>
  some (⟨0,UInt8.ofNat (idxS aggs (txtK ts 1 a)),p.1,w.1,UInt8.ofNat (idxS cmps (txtK ts 4 b5)),v.1,0,0⟩,v.2)
theorem u8_of {n : Nat} (h : n < 256) : ((UInt8.ofNat n).toNat : Int) = n := by simp only [UInt8.toNat_ofNat']; omega
end Go.Vi
namespace Go.Vi
open Go Go.Proofs Go.Proofs.Try
def wordO (k : Nat) : List UInt8 := if k = 1 then [97,110,100] else [111,114]
def notS : List UInt8 := [110,111,116]
def opN (k : UInt8) (l r : Int) : Nod := ⟨k,0,[],0,0,0,l,r⟩
def kindK (k : Nat) : UInt8 := if k = 1 then 1 else 2
def strO (ts : List Tok) : Nat → Nat → Nat → List Nod → Option (Option (List Nod × Nat))
 | 0,_,_,_ => none
 | f + 1, m, a, l =>
   if m = 2 then
    if isT ts a 1 notS = true then (strO ts f 2 (a + 1) l).map fun r => r.map fun p => (p.1 ++ [opN 3 ((p.1.length : Int) - 1) 0],p.2)
    else if isT ts a 4 [40] = true then (strO ts f 0 (a + 1) l).map fun r => r.bind fun p => (signO ts [41] p.2).map fun c => (p.1,c)
    else some ((cmpO ts a).map fun p => (l ++ [p.1],p.2))
   else if m < 2 then (strO ts f (m + 1) a l).bind fun r => match r with
    | none => some none
    | some p => strO ts f (m + 10) p.2 p.1
   else if isT ts a 1 (wordO (m - 10)) = true then (strO ts f (m - 10 + 1) (a + 1) l).bind fun r => match r with
    | none => some none
    | some p => strO ts f m p.2 (p.1 ++ [opN (kindK (m - 10)) ((l.length : Int) - 1) ((p.1.length : Int) - 1)])
   else some (some (l,a))
theorem cmpO_lt {ts : List Tok} {a : Nat} {p : Nod × Nat} (h : cmpO ts a = some p) : a < p.2 := by
 have hone : ∀ {k l a b},oneO ts k l a = some b → b = a + 1 := by
  intro k l a b h
  unfold oneO at h
  obtain ⟨_,_,h2⟩ := Option.bind_eq_some_iff.1 h
  split at h2 <;> simp_all
 have hsign : ∀ {s a b},signO ts s a = some b → b = a + 1 := by
  intro s a b h
  unfold signO at h
  split at h <;> simp_all
 have hmat : ∀ {a p},matO ts a = some p → p.2 = a + 3 := by
  intro a p h
  unfold matO at h
  obtain ⟨_,_,h2⟩ := Option.bind_eq_some_iff.1 h
  obtain ⟨_,_,h3⟩ := Option.bind_eq_some_iff.1 h2
  split at h3
  · obtain ⟨_,_,h4⟩ := Option.bind_eq_some_iff.1 h3
    rw [← Option.some.inj h4]
  · cases h3
 have hselL : ∀ (f : Nat) {a acc p},selL ts f a acc = some p → a ≤ p.2 := by
  intro f
  induction f with
  | zero => intro a acc p h; cases h
  | succ f ih =>
    intro a acc p h
    simp only [selL] at h
    obtain ⟨q,h1,h2⟩ := Option.bind_eq_some_iff.1 h
    have := hmat h1
    split at h2
    · have := ih h2; omega
    · rw [← Option.some.inj h2]; simp only; omega
 have hsel : ∀ {a p},selO ts a = some p → a ≤ p.2 := by
  intro a p h
  unfold selO at h
  obtain ⟨b,h1,h2⟩ := Option.bind_eq_some_iff.1 h
  have := hsign h1
  split at h2
  · rw [← Option.some.inj h2]; simp only; omega
  · obtain ⟨q,h3,h4⟩ := Option.bind_eq_some_iff.1 h2
    have := hselL _ h3
    obtain ⟨c,h5,h6⟩ := Option.map_eq_some_iff.1 h4
    rw [← h6]
    unfold selE at h5
    obtain ⟨d,h7,h8⟩ := Option.bind_eq_some_iff.1 h5
    have := hsign h7
    split at h8
    · rw [← Option.some.inj h8]; simp only; omega
    · cases h8
 have hwin : ∀ {a p},winO ts a = some p → p.2 = a + 1 := by
  intro a p h
  unfold winO at h
  obtain ⟨_,_,h2⟩ := Option.bind_eq_some_iff.1 h
  obtain ⟨_,_,h3⟩ := Option.bind_eq_some_iff.1 h2
  split at h3
  · rw [← Option.some.inj h3]
  · cases h3
 have hval : ∀ {a p},valO ts a = some p → a ≤ p.2 := by
  intro a p h
  unfold valO at h
  obtain ⟨_,_,h2⟩ := Option.bind_eq_some_iff.1 h
  split at h2
  · rw [← Option.some.inj h2]; simp only [takO]; split <;> omega
  · cases h2
 unfold cmpO at h
 obtain ⟨b1,h1,h⟩ := Option.bind_eq_some_iff.1 h
 obtain ⟨b2,h2,h⟩ := Option.bind_eq_some_iff.1 h
 obtain ⟨q,h3,h⟩ := Option.bind_eq_some_iff.1 h
 obtain ⟨b3,h4,h⟩ := Option.bind_eq_some_iff.1 h
 obtain ⟨w,h5,h⟩ := Option.bind_eq_some_iff.1 h
 obtain ⟨b4,h6,h⟩ := Option.bind_eq_some_iff.1 h
 obtain ⟨b5,h7,h⟩ := Option.bind_eq_some_iff.1 h
 obtain ⟨b6,h8,h⟩ := Option.bind_eq_some_iff.1 h
 obtain ⟨v,h9,h⟩ := Option.bind_eq_some_iff.1 h
 have := hone h1; have := hsign h2; have := hsel h3; have := hsign h4; have := hwin h5; have := hsign h6; have := hsign h7; have := hone h8; have := hval h9
 rw [← Option.some.inj h]
 simp only
 omega
theorem strO_len {ts : List Tok} : ∀ (f : Nat) {m a l l' b},strO ts f m a l = some (some (l',b)) → a ≤ b ∧ l.length ≤ l'.length ∧ l'.length + a ≤ l.length + b := by
 intro f
 induction f with
 | zero => intro m a l l' b h; cases h
 | succ f ih =>
   intro m a l l' b h
   simp only [strO] at h
   split at h
   · split at h
     · obtain ⟨r,h1,h2⟩ := Option.map_eq_some_iff.1 h
       obtain ⟨p,rfl,h3⟩ := Option.map_eq_some_iff.1 h2
       have := ih h1
       simp only [Prod.mk.injEq] at h3
       obtain ⟨rfl,rfl⟩ := h3
       simp only [List.length_append,List.length_cons,List.length_nil]
       omega
     · split at h
       · obtain ⟨r,h1,h2⟩ := Option.map_eq_some_iff.1 h
         obtain ⟨p,rfl,h3⟩ := Option.bind_eq_some_iff.1 h2
         obtain ⟨c,h4,h5⟩ := Option.map_eq_some_iff.1 h3
         have := ih h1
         unfold signO at h4
         split at h4
         · simp only [Option.some.injEq] at h4
           simp only [Prod.mk.injEq] at h5
           obtain ⟨rfl,rfl⟩ := h5
           omega
         · cases h4
       · obtain ⟨p,h1,h2⟩ := Option.map_eq_some_iff.1 (Option.some.inj h)
         have := cmpO_lt h1
         simp only [Prod.mk.injEq] at h2
         obtain ⟨rfl,rfl⟩ := h2
         simp only [List.length_append,List.length_cons,List.length_nil]
         omega
   · split at h
     · obtain ⟨r,h1,h2⟩ := Option.bind_eq_some_iff.1 h
       cases r with
       | none => cases h2
       | some p =>
         have := ih h1
         have := ih h2
         omega
     · split at h
       · obtain ⟨r,h1,h2⟩ := Option.bind_eq_some_iff.1 h
         cases r with
         | none => cases h2
         | some p =>
           have := ih h1
           have := ih h2
           simp only [List.length_append,List.length_cons,List.length_nil] at this
           omega
       · simp only [Option.some.injEq,Prod.mk.injEq] at h
         obtain ⟨rfl,rfl⟩ := h
         omega
theorem nael1 : aElem prog 22 = some (50,8,72) := by kernel_rfl
theorem nael2 : isSeq prog 22 = true := by kernel_rfl
def NL (K : AHeap) (lo : Nat) (v : Value) (ns : List Nod) : Prop := ∃ cl,Gro K lo 8 50 v cl ∧ cl.length = ns.length ∧ ∀ (i : Nat) n,ns[i]? = some n → ∃ sv,cl[i]? = some ((n : Nod).cells sv) ∧ Gro K lo 3 52 sv (n.sel.map Mat.cells) ∧ n.sel.length ≤ 2 ^ 41
theorem NL.nodes {K lo v ns} (h : NL K lo v ns) : NodesAt K v ns := by
 obtain ⟨cl,h1,h2,h3⟩ := h
 refine ⟨cl,h1.arr,h2,fun i n hi => ?_⟩
 obtain ⟨sv,q1,q2,q3⟩ := h3 i n hi
 exact ⟨sv,q1,q2.arr,by omega⟩
theorem NL.len {K lo v ns} (h : NL K lo v ns) (J : AHeap) : aLen prog J 22 v = some (i64 ns.length) := by
 obtain ⟨cl,h1,h2,_⟩ := h
 rw [← h2]; exact h1.arr.len' (e := 50) (by simp)
end Go.Vi
namespace Go.Vi
open Go Go.Proofs
theorem strO_tot {ts : List Tok} : ∀ (f m a : Nat) (l : List Nod),(m ≤ 2 ∨ m = 10 ∨ m = 11) → 4 * (ts.length - a) + (if m ≤ 2 then 3 - m else 1) ≤ f → ∃ r,strO ts f m a l = some r := by
 intro f
 induction f with
 | zero => intro m a l hm h; split at h <;> omega
 | succ f ih =>
   intro m a l hm h
   simp only [strO]
   split
   · rename_i h2
     subst h2
     rw [if_pos (by omega)] at h
     split
     · rename_i hT
       have := isT_lt hT
       obtain ⟨r,hr⟩ := ih 2 (a + 1) l (by omega) (by simp; omega)
       exact ⟨_,by rw [hr]; rfl⟩
     · split
       · rename_i hT
         have := isT_lt hT
         obtain ⟨r,hr⟩ := ih 0 (a + 1) l (by omega) (by simp; omega)
         exact ⟨_,by rw [hr]; rfl⟩
       · exact ⟨_,rfl⟩
   · split
     · rename_i hm2
       rw [if_pos (by omega)] at h
       obtain ⟨r,hr⟩ := ih (m + 1) a l (by omega) (by rw [if_pos (by omega)]; omega)
       rw [hr]
       cases r with
       | none => exact ⟨none,rfl⟩
       | some p =>
         have := strO_len f hr
         exact ih (m + 10) p.2 p.1 (by omega) (by rw [if_neg (by omega)]; omega)
     · split
       · rename_i hT
         have := isT_lt hT
         rw [if_neg (by omega)] at h
         obtain ⟨r,hr⟩ := ih (m - 10 + 1) (a + 1) l (by omega) (by rw [if_pos (by omega)]; omega)
         rw [hr]
         cases r with
         | none => exact ⟨none,rfl⟩
         | some p =>
           have := strO_len f hr
           exact ih m p.2 _ hm (by rw [if_neg (by omega)]; omega)
       · exact ⟨_,rfl⟩
def conO (ts : List Tok) (a : Nat) : Option (List Nod × Nat) := (strO ts (4 * ts.length + 3) 0 a []).getD none
theorem conO_str (ts : List Tok) (a : Nat) : strO ts (4 * ts.length + 3) 0 a [] = some (conO ts a) := by
 obtain ⟨r,hr⟩ := strO_tot (ts := ts) (4 * ts.length + 3) 0 a [] (by omega) (by simp; omega)
 unfold conO
 rw [hr]; rfl
theorem textF_acc : ∀ (f : Nat) (r acc : List UInt8) (c : Nat),r.length ≤ f → (textF r acc c).1.length ≤ acc.length + r.length := by
 intro f
 induction f with
 | zero => intro r acc c h; have : r = [] := List.eq_nil_of_length_eq_zero (by omega); subst this; simp [textF]
 | succ f ih =>
   intro r acc c h
   cases r with
   | nil => simp [textF]
   | cons b r =>
     rw [textF_cons]
     simp at h
     split
     · split
       · simp
       · split
         · cases r with
           | nil => simp
           | cons e r =>
             simp only
             split
             · have := ih r (acc ++ [e]) (c + 2) (by simp at h; omega); simp at this ⊢; omega
             · simp
         · have := ih r (acc ++ [b]) (c + 1) (by omega); simp at this ⊢; omega
     · simp
theorem mem_takeWhile {p : UInt8 → Bool} : ∀ {s : List UInt8} {b : UInt8},b ∈ s.takeWhile p → p b = true := by
 intro s
 induction s with
 | nil => intro b h; simp at h
 | cons x r ih =>
   intro b h
   rw [List.takeWhile_cons] at h
   split at h
   · rcases List.mem_cons.1 h with rfl | h
     · assumption
     · exact ih h
   · simp at h
theorem runF_take (p : UInt8 → Bool) (s : List UInt8) : s.take (runF p s) = s.takeWhile p := by
 unfold runF
 exact (List.prefix_iff_eq_take.1 (List.takeWhile_prefix p)).symm
theorem numLen_mem (s : List UInt8) : ∀ b ∈ s.take (numLen s),isDig b = true ∨ b = 46 := by
 intro b hb
 unfold numLen at hb
 split at hb
 · rename_i h
   simp only [Bool.and_eq_true,Option.any_eq_true,beq_iff_eq] at h
   obtain ⟨⟨e,he,h46⟩,_⟩ := h
   rw [List.take_add] at hb
   rcases List.mem_append.1 hb with hb | hb
   · rw [runF_take] at hb; exact .inl (mem_takeWhile hb)
   · have hd : s.drop (runF isDig s) = e :: s.drop (runF isDig s + 1) := by
      have hlt := (List.getElem?_eq_some_iff.1 he).1
      rw [List.drop_eq_getElem_cons hlt,(List.getElem?_eq_some_iff.1 he).2]
     rw [hd,Nat.add_comm 1,List.take_succ_cons,runF_take] at hb
     rcases List.mem_cons.1 hb with rfl | hb
     · right
       have : b.toNat = (46 : UInt8).toNat := by have : (46 : UInt8).toNat = 46 := rfl; omega
       exact UInt8.toNat_inj.1 this
     · exact .inl (mem_takeWhile hb)
 · rw [runF_take] at hb; exact .inl (mem_takeWhile hb)
theorem oneF_num {s : List UInt8} {a : Nat} (hs : s.length ≤ 4096) : (oneF s a).1.text.length < 2 ^ 20 ∧ ((oneF s a).1.kind = 2 → (∀ b ∈ (oneF s a).1.text,isDig b = true ∨ b = 46) ∧ ∀ b r,(oneF s a).1.text = b :: r → isDig b = true) := by
 cases s with
 | nil => simp [oneF]
 | cons b r =>
   simp only [oneF]
   simp only [List.length_cons] at hs
   split
   · exact ⟨by simp only [List.length_take,List.length_cons]; omega,fun h => by cases h⟩
   · split
     · rename_i hd
       refine ⟨by simp only [List.length_take,List.length_cons]; omega,fun _ => ⟨numLen_mem _,fun c q hq => ?_⟩⟩
       cases hn : numLen (b :: r) with
       | zero => rw [hn] at hq; simp at hq
       | succ n => rw [hn,List.take_succ_cons] at hq; cases hq; exact hd
     · split
       · have := textF_acc r.length r [] 1 (Nat.le_refl _)
         exact ⟨by simp at this ⊢; omega,fun h => by cases h⟩
       · exact ⟨by simp only [List.length_take,List.length_cons]; omega,fun h => by cases h⟩
theorem lexF_mem (l : List UInt8) (hl : l.length ≤ 4096) : ∀ (f a : Nat),∀ t ∈ (lexF l f a).1,t.text.length < 2 ^ 20 ∧ (t.kind = 2 → (∀ b ∈ t.text,isDig b = true ∨ b = 46) ∧ ∀ b r,t.text = b :: r → isDig b = true) := by
 intro f
 induction f with
 | zero => intro a t h; simp [lexF] at h
 | succ f ih =>
   intro a t h
   simp only [lexF] at h
   split at h
   · split at h
     · simp at h
     · rcases List.mem_cons.1 h with rfl | h
       · exact oneF_num (by simp; omega)
       · exact ih _ t h
   · simp at h
theorem lexF_len (l : List UInt8) : ∀ (f a : Nat),(lexF l f a).1.length ≤ f := by
 intro f
 induction f with
 | zero => intro a; simp [lexF]
 | succ f ih =>
   intro a
   simp only [lexF]
   split
   · split
     · simp
     · have := ih (skipN l (a + (oneF (l.drop a) a).2)); simp; omega
   · simp
theorem allTok_ok {l : List UInt8} : NumTok (allTok l).1 ∧ (allTok l).1.length ≤ 4097 := by
 unfold allTok
 split
 · exact ⟨fun a t h => by simp at h,by simp⟩
 · split
   · refine ⟨fun a t h => ?_,?_⟩
     · exact lexF_mem l (by omega) _ _ t (List.mem_of_getElem? h)
     · have := lexF_len l (l.length + 1) (skipN l 0); simp only; omega
   · exact ⟨fun a t h => by simp at h,by simp⟩
end Go.Vi
namespace Go.Vi
open Go Go.Proofs Go.Proofs.Try
theorem isLow_iff (b : UInt8) : isLow b = true ↔ 97 ≤ (b.toNat : Int) ∧ (b.toNat : Int) ≤ 122 := by simp [isLow]
theorem isDig_iff (b : UInt8) : isDig b = true ↔ 48 ≤ (b.toNat : Int) ∧ (b.toNat : Int) ≤ 57 := by simp [isDig]
theorem isSign_iff (b : UInt8) : isSign b = true ↔ 32 ≤ (b.toNat : Int) ∧ (b.toNat : Int) ≤ 126 := by simp [isSign]
theorem rPlain_loop {H : AHeap} {s : List UInt8} {k : Value → AHeap → Prop} {w : Bool} (hs : s.length < 2 ^ 62) (hk : k (.bool w) H) :
  ∀ (r : List UInt8) (i : Nat) (s1 s2 s4 s5 s6 s7 s8 s9 s10 s11 s12 s13 s14 s15 s16 s17 s18 s19 : Value),s.drop i = r → i ≤ s.length → w = r.all isSign → L85x0 (r.length + 1) k [str s,s1,s2,i64 i,s4,s5,s6,s7,s8,s9,s10,s11,s12,s13,s14,s15,s16,s17,s18,s19] H := by
 intro r
 induction r with
 | nil =>
   intro i s1 s2 s4 s5 s6 s7 s8 s9 s10 s11 s12 s13 s14 s15 s16 s17 s18 s19 hd hi hw
   have hle : s.length ≤ i := by simpa using hd
   have : ¬ i < s.length := by omega
   rw [List.length_nil,L85x0q]
   simp at hw
   subst hw
   simp [this]
   exact hk
 | cons b r ih =>
   intro i s1 s2 s4 s5 s6 s7 s8 s9 s10 s11 s12 s13 s14 s15 s16 s17 s18 s19 hd hi hw
   have hb : s[i]? = some b := by rw [← List.head?_drop,hd]; rfl
   have hlt : i < s.length := (List.getElem?_eq_some_iff.1 hb).1
   have hix := aIndex_at (P := prog) (T := 9) (k := .i64) (by simp) hb
   have hdr : s.drop (i + 1) = r := by rw [← List.drop_drop,hd]; rfl
   rw [List.length_cons,L85x0q]
   have hq := isSign_iff b
   rw [List.all_cons] at hw
   by_cases h1 : (b.toNat : Int) < 32
   · have : isSign b = false := by rw [← Bool.not_eq_true]; rw [hq]; omega
     rw [this] at hw
     simp at hw
     subst hw
     simp [hlt,hix,h1]
     exact hk
   · by_cases h2 : 126 < (b.toNat : Int)
     · have : isSign b = false := by rw [← Bool.not_eq_true]; rw [hq]; omega
       rw [this] at hw
       simp at hw
       subst hw
       simp [hlt,hix,h1,h2]
       exact hk
     · have : isSign b = true := by rw [hq]; omega
       rw [this,Bool.true_and] at hw
       simp [hlt,hix,h1,h2,show i + 1 < 2 ^ 63 by omega]
       exact ih (i + 1) _ _ _ _ _ _ _ _ _ _ _ _ _ _ _ _ _ _ hdr hlt hw
theorem r_plain (H : AHeap) {s : List UInt8} (hs : s.length < 2 ^ 62) : ACalls prog 85 [str s] H (.bool (s.all isSign)) H := by
 refine acalls_pure MixT func85 (by decide) rfl ?_
 rw [d85]
 exact ⟨s.length + 1,rPlain_loop (k := fun u H2 => u = .bool (s.all isSign) ∧ ∃ X,H2 = H ++ X) hs ⟨rfl,[],by simp⟩ s 0 _ _ _ _ _ _ _ _ _ _ _ _ _ _ _ _ _ _ rfl (by omega) rfl⟩
theorem rName_loop {H : AHeap} {s : List UInt8} {k : Value → AHeap → Prop} {w : Bool} (hs : s.length < 2 ^ 62) (hk : k (.bool w) H) :
  ∀ (r : List UInt8) (i : Nat) (s1 s2 s4 s5 s6 s7 s8 s9 s10 s11 s12 s13 s14 s15 s16 s17 s18 s19 s20 s21 s22 s23 s24 s25 s26 s27 s28 s29 s30 s31 s32 s33 s34 s35 s36 s37 s38 s39 s40 s41 s42 s43 s44 s45 s46 s47 s48 s49 s50 s51 s52 s53 s54 s55 s56 : Value),s.drop i = r → i ≤ s.length → w = r.all isMark → L46x0 (r.length + 1) k [str s,s1,s2,i64 i,s4,s5,s6,s7,s8,s9,s10,s11,s12,s13,s14,s15,s16,s17,s18,s19,s20,s21,s22,s23,s24,s25,s26,s27,s28,s29,s30,s31,s32,s33,s34,s35,s36,s37,s38,s39,s40,s41,s42,s43,s44,s45,s46,s47,s48,s49,s50,s51,s52,s53,s54,s55,s56] H := by
 intro r
 induction r with
 | nil =>
   intro i s1 s2 s4 s5 s6 s7 s8 s9 s10 s11 s12 s13 s14 s15 s16 s17 s18 s19 s20 s21 s22 s23 s24 s25 s26 s27 s28 s29 s30 s31 s32 s33 s34 s35 s36 s37 s38 s39 s40 s41 s42 s43 s44 s45 s46 s47 s48 s49 s50 s51 s52 s53 s54 s55 s56 hd hi hw
   have hle : s.length ≤ i := by simpa using hd
   have : ¬ i < s.length := by omega
   rw [List.length_nil,L46x0q]
   simp at hw
   subst hw
   simp [this]
   exact hk
 | cons b r ih =>
   intro i s1 s2 s4 s5 s6 s7 s8 s9 s10 s11 s12 s13 s14 s15 s16 s17 s18 s19 s20 s21 s22 s23 s24 s25 s26 s27 s28 s29 s30 s31 s32 s33 s34 s35 s36 s37 s38 s39 s40 s41 s42 s43 s44 s45 s46 s47 s48 s49 s50 s51 s52 s53 s54 s55 s56 hd hi hw
   have hb : s[i]? = some b := by rw [← List.head?_drop,hd]; rfl
   have hlt : i < s.length := (List.getElem?_eq_some_iff.1 hb).1
   have hix := aIndex_at (P := prog) (T := 9) (k := .i64) (by simp) hb
   have hdr : s.drop (i + 1) = r := by rw [← List.drop_drop,hd]; rfl
   rw [List.length_cons,L46x0q]
   have hql := isLow_iff b
   have hqd := isDig_iff b
   rw [List.all_cons] at hw
   have go : isMark b = true → ∀ (s1 s2 s4 s5 s6 s7 s8 s9 s10 s11 s12 s13 s14 s15 s16 s17 s18 s19 s20 s21 s22 s23 s24 s25 s26 s27 s28 s29 s30 s31 s32 s33 s34 s35 s36 s37 s38 s39 s40 s41 s42 s43 s44 s45 s46 s47 s48 s49 s50 s51 s52 s53 s54 s55 s56 : Value),L46x0 (r.length + 1) k [str s,s1,s2,i64 ((i : Int) + 1),s4,s5,s6,s7,s8,s9,s10,s11,s12,s13,s14,s15,s16,s17,s18,s19,s20,s21,s22,s23,s24,s25,s26,s27,s28,s29,s30,s31,s32,s33,s34,s35,s36,s37,s38,s39,s40,s41,s42,s43,s44,s45,s46,s47,s48,s49,s50,s51,s52,s53,s54,s55,s56] H := by
    intro hm s1 s2 s4 s5 s6 s7 s8 s9 s10 s11 s12 s13 s14 s15 s16 s17 s18 s19 s20 s21 s22 s23 s24 s25 s26 s27 s28 s29 s30 s31 s32 s33 s34 s35 s36 s37 s38 s39 s40 s41 s42 s43 s44 s45 s46 s47 s48 s49 s50 s51 s52 s53 s54 s55 s56
    rw [hm,Bool.true_and] at hw
    exact ih (i + 1) _ _ _ _ _ _ _ _ _ _ _ _ _ _ _ _ _ _ _ _ _ _ _ _ _ _ _ _ _ _ _ _ _ _ _ _ _ _ _ _ _ _ _ _ _ _ _ _ _ _ _ _ _ _ _ hdr hlt hw
   have no : isMark b = false → k (.bool false) H := by
    intro hm
    rw [hm,Bool.false_and] at hw
    rw [← hw]
    exact hk
   have hi63 : i + 1 < 2 ^ 63 := by omega
   by_cases l1 : 97 ≤ (b.toNat : Int)
   · by_cases l2 : (b.toNat : Int) ≤ 122
     · simp [hlt,hix,l1,l2,hi63]
       exact go (by simp [isMark,hql.2 ⟨l1,l2⟩]) _ _ _ _ _ _ _ _ _ _ _ _ _ _ _ _ _ _ _ _ _ _ _ _ _ _ _ _ _ _ _ _ _ _ _ _ _ _ _ _ _ _ _ _ _ _ _ _ _ _ _ _ _ _ _
     · have d2 : ¬ (b.toNat : Int) ≤ 57 := by omega
       have d1 : (48 : Int) ≤ (b.toNat : Int) := by omega
       have u : ((b.toNat : Int) == 95) = false := by rw [beq_eq_false_iff_ne]; omega
       simp [hlt,hix,l1,l2,d1,d2,u]
       exact no (by simp [isMark,isLow,isDig,l2,d2,u])
   · by_cases d1 : (48 : Int) ≤ (b.toNat : Int)
     · by_cases d2 : (b.toNat : Int) ≤ 57
       · simp [hlt,hix,l1,d1,d2,hi63]
         exact go (by simp [isMark,hqd.2 ⟨d1,d2⟩]) _ _ _ _ _ _ _ _ _ _ _ _ _ _ _ _ _ _ _ _ _ _ _ _ _ _ _ _ _ _ _ _ _ _ _ _ _ _ _ _ _ _ _ _ _ _ _ _ _ _ _ _ _ _ _
       · by_cases u : ((b.toNat : Int) == 95) = true
         · simp [hlt,hix,l1,d1,d2,u,hi63]
           exact go (by simp [isMark,u]) _ _ _ _ _ _ _ _ _ _ _ _ _ _ _ _ _ _ _ _ _ _ _ _ _ _ _ _ _ _ _ _ _ _ _ _ _ _ _ _ _ _ _ _ _ _ _ _ _ _ _ _ _ _ _
         · have u' : ((b.toNat : Int) == 95) = false := by simpa using u
           simp [hlt,hix,l1,d1,d2,u']
           exact no (by simp [isMark,isLow,isDig,l1,d2,u'])
     · have u' : ((b.toNat : Int) == 95) = false := by rw [beq_eq_false_iff_ne]; omega
       simp [hlt,hix,l1,d1,u']
       exact no (by simp [isMark,isLow,isDig,l1,d1,u'])
theorem r_mayName (H : AHeap) {s : List UInt8} (hs : s.length < 2 ^ 62) : ACalls prog 46 [str s] H (.bool (mayName s)) H := by
 refine acalls_pure MixT func46 (by decide) rfl ?_
 rw [d46]
 cases s with
 | nil => simp [mayName]
 | cons b r =>
   have h0 := aIndex_at (P := prog) (T := 9) (k := .i64) (l := b :: r) (i := 0) (b := b) (by simp) rfl
   simp at h0
   by_cases h16 : (16 : Int) < ((b :: r).length : Nat)
   · have : mayName (b :: r) = false := by simp [mayName]; intro h; simp at h16; omega
     rw [this]
     have h16' : (15 : Int) < r.length := by simp at h16; omega
     have h16'' : (16 : Int) < r.length + 1 := by omega
     have h1 : ¬ (r.length : Int) + 1 < 1 := by omega
     simp [h1,h16'']
   · have h16'' : ¬ (16 : Int) < r.length + 1 := by simp at h16; omega
     have h1 : ¬ (r.length : Int) + 1 < 1 := by omega
     have hl : r.length + 1 ≤ 16 := by omega
     have hql := isLow_iff b
     by_cases l1 : (b.toNat : Int) < 97
     · have : mayName (b :: r) = false := by simp [mayName,isLow]; intros; omega
       rw [this]
       simp [h1,h16'',h0,l1]
     · by_cases l2 : 122 < (b.toNat : Int)
       · have : mayName (b :: r) = false := by simp [mayName,isLow]; intros; omega
         rw [this]
         simp [h1,h16'',h0,l1,l2]
       · have hlow : isLow b = true := hql.2 (by omega)
         simp [h1,h16'',h0,l1,l2]
         have hm : mayName (b :: r) = (b :: r).all isMark := by simp [mayName,hlow,hl]
         exact ⟨(b :: r).length + 1,rName_loop (k := fun u H2 => u = .bool (mayName (b :: r)) ∧ ∃ X,H2 = H ++ X) (by simp at hs ⊢; omega) ⟨rfl,[],by simp⟩ (b :: r) 0 _ _ _ _ _ _ _ _ _ _ _ _ _ _ _ _ _ _ _ _ _ _ _ _ _ _ _ _ _ _ _ _ _ _ _ _ _ _ _ _ _ _ _ _ _ _ _ _ _ _ _ _ _ _ _ rfl (by omega) hm⟩
theorem rDigs_loop {H : AHeap} {s : List UInt8} {k : Value → AHeap → Prop} {w : Bool} (hs : s.length < 2 ^ 62) (hk : k (.bool w) H) :
  ∀ (r : List UInt8) (i : Nat) (s1 s2 s4 s5 s6 s7 s8 s9 s10 s11 s12 s13 s14 s15 s16 s17 s18 s19 s20 s21 : Value),s.drop i = r → i ≤ s.length → w = (r.all isDig && !decide (s = [])) → L95x0 (r.length + 1) k [str s,s1,s2,i64 i,s4,s5,s6,s7,s8,s9,s10,s11,s12,s13,s14,s15,s16,s17,s18,s19,s20,s21] H := by
 intro r
 induction r with
 | nil =>
   intro i s1 s2 s4 s5 s6 s7 s8 s9 s10 s11 s12 s13 s14 s15 s16 s17 s18 s19 s20 s21 hd hi hw
   have hle : s.length ≤ i := by simpa using hd
   have : ¬ i < s.length := by omega
   rw [List.length_nil,L95x0q]
   rw [List.all_nil,Bool.true_and] at hw
   subst hw
   simp [this]
   simpa using hk
 | cons b r ih =>
   intro i s1 s2 s4 s5 s6 s7 s8 s9 s10 s11 s12 s13 s14 s15 s16 s17 s18 s19 s20 s21 hd hi hw
   have hb : s[i]? = some b := by rw [← List.head?_drop,hd]; rfl
   have hlt : i < s.length := (List.getElem?_eq_some_iff.1 hb).1
   have hix := aIndex_at (P := prog) (T := 9) (k := .i64) (by simp) hb
   have hdr : s.drop (i + 1) = r := by rw [← List.drop_drop,hd]; rfl
   rw [List.length_cons,L95x0q]
   have hq := isDig_iff b
   rw [List.all_cons] at hw
   by_cases h1 : (b.toNat : Int) < 48
   · have : isDig b = false := by rw [← Bool.not_eq_true]; rw [hq]; omega
     rw [this] at hw
     simp at hw
     subst hw
     simp [hlt,hix,h1]
     exact hk
   · by_cases h2 : 57 < (b.toNat : Int)
     · have : isDig b = false := by rw [← Bool.not_eq_true]; rw [hq]; omega
       rw [this] at hw
       simp at hw
       subst hw
       simp [hlt,hix,h1,h2]
       exact hk
     · have : isDig b = true := by rw [hq]; omega
       rw [this,Bool.true_and] at hw
       simp [hlt,hix,h1,h2,show i + 1 < 2 ^ 63 by omega]
       exact ih (i + 1) _ _ _ _ _ _ _ _ _ _ _ _ _ _ _ _ _ _ _ _ hdr hlt hw
def digsR (s : List UInt8) : Bool := s.all isDig && !decide (s = [])
theorem r_digits (H : AHeap) {s : List UInt8} (hs : s.length < 2 ^ 62) : ACalls prog 95 [str s] H (.bool (digsR s)) H := by
 refine acalls_pure MixT func95 (by decide) rfl ?_
 rw [d95]
 exact ⟨s.length + 1,rDigs_loop (k := fun u H2 => u = .bool (digsR s) ∧ ∃ X,H2 = H ++ X) hs ⟨rfl,[],by simp⟩ s 0 _ _ _ _ _ _ _ _ _ _ _ _ _ _ _ _ _ _ _ _ rfl (by omega) rfl⟩
theorem byte_all {p : UInt8 → Prop} (h : ∀ n,n < 256 → p (UInt8.ofNat n)) (b : UInt8) : p b := by
 have := h b.toNat b.toNat_lt
 simpa using this
theorem blanks_eq : ∀ b : UInt8,hasB blanks b = ((b.toNat : Int) == 32 || (b.toNat : Int) == 9 || (b.toNat : Int) == 10 || (b.toNat : Int) == 13) :=
 byte_all (by decide +kernel)
theorem r_blank (H : AHeap) (b : UInt8) : ACalls prog 78 [byt b] H (.bool (hasB blanks b)) H := by
 refine acalls_pure MixT func78 (by decide) rfl ?_
 rw [d78,blanks_eq]
 simp +contextual
theorem mayName_a : ∀ b : UInt8,mayName [97,b] = isMark b := byte_all (by decide +kernel)
def wordR (s : List UInt8) : Bool := s.all isMark && (s[0]?).any isLow
theorem rWord_loop {H : AHeap} {s : List UInt8} {k : Value → AHeap → Prop} {w : Bool} (hs : s.length < 2 ^ 60) (hk : k (.bool w) H) :
  ∀ (r : List UInt8) (i : Nat) (s1 s2 s4 s5 s6 s7 s8 s9 s10 s11 s12 s13 s14 s15 s16 s17 s18 s19 s20 s21 s22 s23 s24 s25 s26 s27 s28 s29 : Value),s.drop i = r → i ≤ s.length → w = (r.all isMark && (s[0]?).any isLow) → L88x0 (r.length + 1) k [str s,s1,s2,i64 i,s4,s5,s6,s7,s8,s9,s10,s11,s12,s13,s14,s15,s16,s17,s18,s19,s20,s21,s22,s23,s24,s25,s26,s27,s28,s29] H := by
 intro r
 induction r with
 | nil =>
   intro i s1 s2 s4 s5 s6 s7 s8 s9 s10 s11 s12 s13 s14 s15 s16 s17 s18 s19 s20 s21 s22 s23 s24 s25 s26 s27 s28 s29 hd hi hw
   have hle : s.length ≤ i := by simpa using hd
   have : ¬ i < s.length := by omega
   rw [List.length_nil,L88x0q]
   rw [List.all_nil,Bool.true_and] at hw
   cases s with
   | nil =>
     simp at hw
     subst hw
     have : ¬ (i : Int) < 0 := by omega
     simp [this]
     exact hk
   | cons b t =>
     have h0 := aIndex_at (P := prog) (T := 9) (k := .i64) (l := b :: t) (i := 0) (b := b) (by simp) rfl
     simp at h0
     simp at hw
     have hq := isLow_iff b
     have hn : ¬ (i : Int) < (t.length : Int) + 1 := by simp at hle; omega
     by_cases l1 : 97 ≤ (b.toNat : Int)
     · by_cases l2 : (b.toNat : Int) ≤ 122
       · rw [hq.2 ⟨l1,l2⟩] at hw
         subst hw
         simp [hn,h0,l1,l2]
         exact hk
       · have : isLow b = false := by rw [← Bool.not_eq_true]; rw [hq]; omega
         rw [this] at hw
         subst hw
         simp [hn,h0,l1,l2]
         exact hk
     · have : isLow b = false := by rw [← Bool.not_eq_true]; rw [hq]; omega
       rw [this] at hw
       subst hw
       simp [hn,h0,l1]
       exact hk
 | cons b r ih =>
   intro i s1 s2 s4 s5 s6 s7 s8 s9 s10 s11 s12 s13 s14 s15 s16 s17 s18 s19 s20 s21 s22 s23 s24 s25 s26 s27 s28 s29 hd hi hw
   have hb : s[i]? = some b := by rw [← List.head?_drop,hd]; rfl
   have hlt : i < s.length := (List.getElem?_eq_some_iff.1 hb).1
   have hdr : s.drop (i + 1) = r := by rw [← List.drop_drop,hd]; rfl
   have hsl := aSliceOp_str (P := prog) (H := H) (T := 9) (l := s) (lo := some (i64 i)) (hi := some (i64 ((i : Int) + 1))) (a := i) (b := ((i + 1 : Nat) : Int)) (by simp) rfl rfl (by omega) (by omega) (by omega)
   have he : (s.take (i + 1)).drop i = [b] := by
    rw [List.drop_take,hd]; simp
   simp only [Int.toNat_natCast,he] at hsl
   have hcat := fun (H : AHeap) x y => aBin_str (P := prog) (H := H) (T := 9) (x := x) (y := y) (a := [97]) (b := [b]) (by simp)
   rw [List.length_cons,L88x0q]
   rw [List.all_cons] at hw
   have hw1 : IntKind.i64.wrap ((i : Int) + 1) = (i : Int) + 1 := wrap_i64 (by omega) (by omega)
   simp [hlt,hw1,hsl]
   refine bnd_of (hcat _ _ _) ?_
   simp
   have hc := r_mayName H (s := [97,b]) (by simp)
   rw [mayName_a] at hc
   refine bndC_of hc ?_
   simp
   cases hm : isMark b with
   | true =>
     rw [hm,Bool.true_and] at hw
     simp [hw1]
     exact ih (i + 1) _ _ _ _ _ _ _ _ _ _ _ _ _ _ _ _ _ _ _ _ _ _ _ _ _ _ _ _ hdr hlt hw
   | false =>
     rw [hm] at hw
     simp at hw
     subst hw
     simp
     exact hk
theorem r_word (H : AHeap) {s : List UInt8} (hs : s.length < 2 ^ 60) : ACalls prog 88 [str s] H (.bool (wordR s)) H := by
 refine acalls_pure MixT func88 (by decide) rfl ?_
 rw [d88]
 exact ⟨s.length + 1,rWord_loop (k := fun u H2 => u = .bool (wordR s) ∧ ∃ X,H2 = H ++ X) hs ⟨rfl,[],by simp⟩ s 0 _ _ _ _ _ _ _ _ _ _ _ _ _ _ _ _ _ _ _ _ _ _ _ _ _ _ _ _ rfl (by omega) rfl⟩
def numG : List UInt8 → List UInt8 → Bool
 | p,[] => digsR p
 | p,b :: r => if ((b.toNat : Int) == 46) = true then digsR p && digsR r else numG (p ++ [b]) r
def numR (s : List UInt8) : Bool := numG [] s
theorem rNum_loop {H : AHeap} {s : List UInt8} {k : Value → AHeap → Prop} {w : Bool} (hs : s.length < 2 ^ 60) (hk : k (.bool w) H) :
  ∀ (r : List UInt8) (i : Nat) (s1 s2 s4 s5 s6 s7 s8 s9 s10 s11 s12 s13 s14 s15 s16 s17 s18 s19 s20 s21 s22 s23 s24 s25 s26 : Value),s.drop i = r → i ≤ s.length → w = numG (s.take i) r → L89x0 (r.length + 1) k [str s,s1,s2,i64 i,s4,s5,s6,s7,s8,s9,s10,s11,s12,s13,s14,s15,s16,s17,s18,s19,s20,s21,s22,s23,s24,s25,s26] H := by
 intro r
 induction r with
 | nil =>
   intro i s1 s2 s4 s5 s6 s7 s8 s9 s10 s11 s12 s13 s14 s15 s16 s17 s18 s19 s20 s21 s22 s23 s24 s25 s26 hd hi hw
   have hle : s.length ≤ i := by simpa using hd
   have : ¬ i < s.length := by omega
   rw [List.length_nil,L89x0q]
   simp only [numG,List.take_of_length_le hle] at hw
   subst hw
   simp [this]
   exact bndC_of (r_digits H (by omega)) hk
 | cons b r ih =>
   intro i s1 s2 s4 s5 s6 s7 s8 s9 s10 s11 s12 s13 s14 s15 s16 s17 s18 s19 s20 s21 s22 s23 s24 s25 s26 hd hi hw
   have hb : s[i]? = some b := by rw [← List.head?_drop,hd]; rfl
   have hlt : i < s.length := (List.getElem?_eq_some_iff.1 hb).1
   have hix := aIndex_at (P := prog) (T := 9) (k := .i64) (by simp) hb
   have hdr : s.drop (i + 1) = r := by rw [← List.drop_drop,hd]; rfl
   have hw1 : IntKind.i64.wrap ((i : Int) + 1) = (i : Int) + 1 := wrap_i64 (by omega) (by omega)
   have h1 := aSliceOp_str (P := prog) (H := H) (T := 9) (l := s) (lo := none) (hi := some (i64 i)) (a := 0) (b := i) (by simp) rfl rfl (by omega) (by omega) (by omega)
   have h2 := aSliceOp_str (P := prog) (H := H) (T := 9) (l := s) (lo := some (i64 ((i : Int) + 1))) (hi := none) (a := ((i + 1 : Nat) : Int)) (b := s.length) (by simp) rfl rfl (by omega) (by omega) (by omega)
   simp only [Int.toNat_natCast,List.take_length,hdr] at h1 h2
   simp at h1
   rw [List.length_cons,L89x0q]
   rw [numG] at hw
   by_cases h46 : ((b.toNat : Int) == 46) = true
   · rw [if_pos h46] at hw
     subst hw
     simp [hlt,hix,h46,h1]
     refine bndC_of (r_digits H (by simp; omega)) ?_
     have hrl : r.length < 2 ^ 62 := by rw [← hdr,List.length_drop]; omega
     cases hp : digsR (s.take i) with
     | true =>
       rw [hp] at hk
       simp [hw1,h2]
       refine bndG_t (.bool (digsR r)) H (r_digits H hrl) ?_
       simpa using hk
     | false =>
       rw [hp] at hk
       simpa using hk
   · rw [if_neg h46] at hw
     have h46' : ((b.toNat : Int) == 46) = false := by simpa using h46
     simp [hlt,hix,h46',hw1]
     refine ih (i + 1) _ _ _ _ _ _ _ _ _ _ _ _ _ _ _ _ _ _ _ _ _ _ _ _ _ hdr hlt ?_
     rw [hw,List.take_add_one,hb]; rfl
theorem r_number (H : AHeap) {s : List UInt8} (hs : s.length < 2 ^ 60) : ACalls prog 89 [str s] H (.bool (numR s)) H := by
 refine acalls_pure MixT func89 (by decide) rfl ?_
 rw [d89]
 exact ⟨s.length + 1,rNum_loop (k := fun u H2 => u = .bool (numR s) ∧ ∃ X,H2 = H ++ X) hs ⟨rfl,[],by simp⟩ s 0 _ _ _ _ _ _ _ _ _ _ _ _ _ _ _ _ _ _ _ _ _ _ _ _ _ rfl (by omega) (by simp [numR])⟩
def signsR : List (List UInt8) := [[60,61],[62,61],[61,61],[33,61],[94,61],[123],[125],[40],[41],[91],[93],[44],[58],[59],[61],[60],[62],[45]]
theorem rSign_loop {K : AHeap} {v : Value} {s : List UInt8} {k : Value → AHeap → Prop} {w : Bool} (ha : Arr K 1 v (strCells signsR)) (hk : k (.bool w) K) :
  ∀ (r : List (List UInt8)) (i : Nat) (s1 s2 s5 s6 s7 s8 s9 s10 s11 s12 s13 s14 s15 s16 s17 : Value),signsR.drop i = r → i ≤ signsR.length → w = decide (s ∈ r) → L90x0 (r.length + 1) k [str s,s1,s2,v,i64 i,s5,s6,s7,s8,s9,s10,s11,s12,s13,s14,s15,s16,s17] K := by
 have hlen := ha.len (P := prog) (T := 23) (e := 9) (by simp)
 have hl18 : signsR.length = 18 := rfl
 simp [strCells] at hlen
 intro r
 induction r with
 | nil =>
   intro i s1 s2 s5 s6 s7 s8 s9 s10 s11 s12 s13 s14 s15 s16 s17 hd hi hw
   have hle : signsR.length ≤ i := by simpa using hd
   have : ¬ i < signsR.length := by omega
   rw [List.length_nil,L90x0q]
   simp at hw
   subst hw
   simp [hlen,this]
   exact hk
 | cons x r ih =>
   intro i s1 s2 s5 s6 s7 s8 s9 s10 s11 s12 s13 s14 s15 s16 s17 hd hi hw
   have hb : signsR[i]? = some x := by rw [← List.head?_drop,hd]; rfl
   have hlt : i < signsR.length := (List.getElem?_eq_some_iff.1 hb).1
   have hdr : signsR.drop (i + 1) = r := by rw [← List.drop_drop,hd]; rfl
   obtain ⟨q,hp1,hp2⟩ := ha.load1 (P := prog) (T := 23) (te := 9) (i := i) (x := str x) (by simp) (by simp) (by simp) (by simp [strCells,hb])
   rw [List.length_cons,L90x0q]
   by_cases he : x = s
   · have : w = true := by rw [hw]; simp [he]
     subst this
     simp [hlen,hlt,hp1,hp2,he]
     exact hk
   · have he' : ¬ s = x := fun e => he e.symm
     simp [hlen,hlt,hp1,hp2,he,show i + 1 < 2 ^ 63 by omega]
     exact ih (i + 1) _ _ _ _ _ _ _ _ _ _ _ _ _ _ _ hdr hlt (by rw [hw]; simp [he'])
set_option maxRecDepth 20000 in
theorem r_sign (H : AHeap) (s : List UInt8) : ACalls prog 90 [str s] H (.bool (decide (s ∈ signsR))) H := by
 refine acalls_pure MixT func90 (by decide) rfl ?_
 rw [d90]
 have hs := sliceLit1 (H := H) (P := prog) (T := 23) (e := 9) (zv := .string ByteArray.empty) (l := signsR.map str) (n := 18) (by kernel_rfl) (by decide) rfl (by decide)
 refine bndL_lit hs ?_
 have ha := arr_strs (H := H) signsR 9 18 rfl
 exact ⟨signsR.length + 1,rSign_loop (k := fun u H2 => u = .bool (decide (s ∈ signsR)) ∧ ∃ X,H2 = H ++ X) ha ⟨rfl,_,rfl⟩ signsR 0 _ _ _ _ _ _ _ _ _ _ _ _ _ _ _ rfl (by decide) rfl⟩
def kindR (s : List UInt8) : Int × List UInt8 := if wordR s = true then (1,s) else if numR s = true then (2,s) else if s ∈ signsR then (4,s) else (0,[])
theorem r_kind (H : AHeap) {s : List UInt8} (hs : s.length < 2 ^ 60) : ACalls prog 86 [str s] H (.tuple #[.int .u8 (kindR s).1,str (kindR s).2]) H := by
 refine acallsT_pure MixT func86 (by decide) rfl ?_
 rw [d86]
 refine bndC_of (r_word H hs) ?_
 unfold kindR
 cases h1 : wordR s with
 | true => simp
 | false =>
   simp
   refine bndC_of (r_number H hs) ?_
   cases h2 : numR s with
   | true => simp
   | false =>
     simp
     refine bndC_of (r_sign H s) ?_
     by_cases h3 : s ∈ signsR
     · simp [h3]
     · simp [h3]
end Go.Vi
namespace Go.Vi
open Go Go.Proofs Go.Proofs.Try
def quoR : List UInt8 → List UInt8 → Nat → List UInt8 × Nat
 | [],_,_ => ([],0)
 | b :: r, acc, c => if ((b.toNat : Int) == 34) = true then (acc, c + 1)
     else if ((b.toNat : Int) == 92) = true then match r with
      | e :: r' => if ((e.toNat : Int) == 34 || (e.toNat : Int) == 92) = true then quoR r' (acc ++ [e]) (c + 2) else ([],0)
      | [] => ([],0)
     else quoR r (acc ++ [b]) (c + 1)
theorem quoR_cons (b : UInt8) (r acc : List UInt8) (c : Nat) : quoR (b :: r) acc c = if ((b.toNat : Int) == 34) = true then (acc,c + 1)
   else if ((b.toNat : Int) == 92) = true then match r with
    | e :: r' => if ((e.toNat : Int) == 34 || (e.toNat : Int) == 92) = true then quoR r' (acc ++ [e]) (c + 2) else ([],0)
    | [] => ([],0)
   else quoR r (acc ++ [b]) (c + 1) := by
 cases r <;> (rw [quoR] <;> rfl)
theorem rQuo_loop {H : AHeap} {s : List UInt8} {k : Value → AHeap → Prop} {w : List UInt8 × Nat} (hs : s.length < 2 ^ 60) (hk : k (.tuple #[str w.1,i64 w.2]) H) :
  ∀ (n : Nat) (r acc : List UInt8) (i : Nat) (s1 s2 s3 s6 s7 s8 s9 s10 s11 s12 s13 s14 s15 s16 s17 s18 s19 s20 s21 s22 s23 s24 s25 s26 s27 s28 s29 s30 s31 s32 s33 s34 s35 s36 s37 s38 s39 s40 s41 s42 s43 s44 s45 s46 s47 s48 s49 s50 s51 s52 s53 s54 : Value),r.length ≤ n → s.drop i = r → i ≤ s.length → acc.length ≤ i → w = quoR r acc i → L84x0 (n + 1) k [str s,s1,s2,s3,str acc,i64 i,s6,s7,s8,s9,s10,s11,s12,s13,s14,s15,s16,s17,s18,s19,s20,s21,s22,s23,s24,s25,s26,s27,s28,s29,s30,s31,s32,s33,s34,s35,s36,s37,s38,s39,s40,s41,s42,s43,s44,s45,s46,s47,s48,s49,s50,s51,s52,s53,s54] H := by
 intro n
 induction n with
 | zero =>
   intro r acc i s1 s2 s3 s6 s7 s8 s9 s10 s11 s12 s13 s14 s15 s16 s17 s18 s19 s20 s21 s22 s23 s24 s25 s26 s27 s28 s29 s30 s31 s32 s33 s34 s35 s36 s37 s38 s39 s40 s41 s42 s43 s44 s45 s46 s47 s48 s49 s50 s51 s52 s53 s54 hn hd hi hac hw
   have : r = [] := List.eq_nil_of_length_eq_zero (by omega)
   subst this
   have hle : s.length ≤ i := by simpa using hd
   have : ¬ i < s.length := by omega
   rw [L84x0q]
   rw [quoR] at hw
   subst hw
   simp [this]
   exact hk
 | succ n ih =>
   intro r acc i s1 s2 s3 s6 s7 s8 s9 s10 s11 s12 s13 s14 s15 s16 s17 s18 s19 s20 s21 s22 s23 s24 s25 s26 s27 s28 s29 s30 s31 s32 s33 s34 s35 s36 s37 s38 s39 s40 s41 s42 s43 s44 s45 s46 s47 s48 s49 s50 s51 s52 s53 s54 hn hd hi hac hw
   cases r with
   | nil =>
     have hle : s.length ≤ i := by simpa using hd
     have : ¬ i < s.length := by omega
     rw [L84x0q]
     rw [quoR] at hw
     subst hw
     simp [this]
     exact hk
   | cons b r =>
     have hb : s[i]? = some b := by rw [← List.head?_drop,hd]; rfl
     have hlt : i < s.length := (List.getElem?_eq_some_iff.1 hb).1
     have hix := aIndex_at (P := prog) (T := 9) (k := .i64) (by simp) hb
     have hdr : s.drop (i + 1) = r := by rw [← List.drop_drop,hd]; rfl
     have step : ∀ (j : Nat) (e : UInt8) (r' : List UInt8) (s1 s2 s3 s6 s7 s8 s9 s10 s11 s12 s13 s14 s15 s16 s17 s18 s19 s20 s21 s22 s23 s24 s25 s26 s27 s28 s29 s30 s31 s32 s33 s34 s35 s36 s37 s38 s39 s40 s41 s42 s43 s44 s45 s46 s47 s48 s49 s50 s51 s52 s53 s54 : Value),s.drop j = e :: r' → i ≤ j → r'.length ≤ n → w = quoR r' (acc ++ [e]) (j + 1) → S84x0 (n + 1) k [str s,s1,s2,s3,str acc,i64 j,s6,s7,s8,s9,s10,s11,s12,s13,s14,s15,s16,s17,s18,s19,s20,s21,s22,s23,s24,s25,s26,s27,s28,s29,s30,s31,s32,s33,s34,s35,s36,s37,s38,s39,s40,s41,s42,s43,s44,s45,s46,s47,s48,s49,s50,s51,s52,s53,s54] H := by
      intro j e r' s1 s2 s3 s6 s7 s8 s9 s10 s11 s12 s13 s14 s15 s16 s17 s18 s19 s20 s21 s22 s23 s24 s25 s26 s27 s28 s29 s30 s31 s32 s33 s34 s35 s36 s37 s38 s39 s40 s41 s42 s43 s44 s45 s46 s47 s48 s49 s50 s51 s52 s53 s54 hdj hij hrl hw2
      have hjl : j < s.length := by
       have := congrArg List.length hdj
       simp at this
       omega
      have hdr' : s.drop (j + 1) = r' := by rw [← List.drop_drop,hdj]; rfl
      have hw1 : IntKind.i64.wrap ((j : Int) + 1) = (j : Int) + 1 := wrap_i64 (by omega) (by omega)
      have hsl := aSliceOp_str (P := prog) (H := H) (T := 9) (l := s) (lo := some (i64 j)) (hi := some (i64 ((j : Int) + 1))) (a := j) (b := ((j + 1 : Nat) : Int)) (by simp) rfl rfl (by omega) (by omega) (by omega)
      have he : (s.take (j + 1)).drop j = [e] := by rw [List.drop_take,hdj]; simp
      simp only [Int.toNat_natCast,he] at hsl
      have hcat := fun x y => aBin_str (P := prog) (H := H) (T := 9) (x := x) (y := y) (a := acc) (b := [e]) (by simp; omega)
      rw [S84x0q]
      simp [hw1,hsl,hcat]
      exact ih r' (acc ++ [e]) (j + 1) _ _ _ _ _ _ _ _ _ _ _ _ _ _ _ _ _ _ _ _ _ _ _ _ _ _ _ _ _ _ _ _ _ _ _ _ _ _ _ _ _ _ _ _ _ _ _ _ _ _ _ _ hrl hdr' hjl (by simp; omega) hw2
     rw [L84x0q]
     rw [quoR_cons] at hw
     simp only [List.length_cons] at hn
     have hw1 : IntKind.i64.wrap ((i : Int) + 1) = (i : Int) + 1 := wrap_i64 (by omega) (by omega)
     by_cases h34 : ((b.toNat : Int) == 34) = true
     · rw [if_pos h34] at hw
       subst hw
       simp [hlt,hix,h34,hw1]
       exact hk
     · have h34' : ((b.toNat : Int) == 34) = false := by simpa using h34
       rw [if_neg h34] at hw
       by_cases h92 : ((b.toNat : Int) == 92) = true
       · rw [if_pos h92] at hw
         cases r with
         | nil =>
           have hle : s.length ≤ i + 1 := by simpa using hdr
           have hn1 : ((i : Int) + 1 == s.length) = true := by rw [beq_iff_eq]; omega
           simp only at hw
           subst hw
           simp [hlt,hix,h34',h92,hw1,hn1]
           exact hk
         | cons e r' =>
           have he : s[i + 1]? = some e := by rw [← List.head?_drop,hdr]; rfl
           have hlt1 : i + 1 < s.length := (List.getElem?_eq_some_iff.1 he).1
           have hie := aIndex_at (P := prog) (T := 9) (k := .i64) (by simp) he
           have hne : ¬ (i : Int) + 1 = s.length := by omega
           have hneb : ((i : Int) + 1 == s.length) = false := by simpa using hne
           simp only [Int.natCast_add,Int.cast_ofNat_Int] at hie
           simp only at hw
           simp only [List.length_cons] at hn
           by_cases q1 : ((e.toNat : Int) == 34) = true
           · rw [if_pos (by simp [q1])] at hw
             have q1' : ((e.toNat : Int) != 34) = false := by simpa using q1
             simp [hlt,hix,h34',h92,hw1,hneb,hie,q1']
             exact step (i + 1) e r' _ _ _ _ _ _ _ _ _ _ _ _ _ _ _ _ _ _ _ _ _ _ _ _ _ _ _ _ _ _ _ _ _ _ _ _ _ _ _ _ _ _ _ _ _ _ _ _ _ _ _ _ hdr (by omega) (by omega) hw
           · have q1' : ((e.toNat : Int) != 34) = true := by simpa using q1
             by_cases q2 : ((e.toNat : Int) == 92) = true
             · rw [if_pos (by simp [q2])] at hw
               have q2' : ((e.toNat : Int) != 92) = false := by simpa using q2
               simp [hlt,hix,h34',h92,hw1,hneb,hie,q1',q2']
               exact step (i + 1) e r' _ _ _ _ _ _ _ _ _ _ _ _ _ _ _ _ _ _ _ _ _ _ _ _ _ _ _ _ _ _ _ _ _ _ _ _ _ _ _ _ _ _ _ _ _ _ _ _ _ _ _ _ hdr (by omega) (by omega) hw
             · rw [if_neg (by simp only [Bool.or_eq_true,not_or]; exact ⟨q1,q2⟩)] at hw
               have q2' : ((e.toNat : Int) != 92) = true := by simpa using q2
               subst hw
               simp [hlt,hix,h34',h92,hw1,hneb,hie,q1',q2']
               exact hk
       · have h92' : ((b.toNat : Int) == 92) = false := by simpa using h92
         rw [if_neg h92] at hw
         simp [hlt,hix,h34',h92']
         exact step i b r _ _ _ _ _ _ _ _ _ _ _ _ _ _ _ _ _ _ _ _ _ _ _ _ _ _ _ _ _ _ _ _ _ _ _ _ _ _ _ _ _ _ _ _ _ _ _ _ _ _ _ _ hd (by omega) (by omega) hw
def quotR : List UInt8 → List UInt8 × Nat
 | [] => ([],0)
 | b :: r => if ((b.toNat : Int) == 34) = true then quoR r [] 1 else ([],0)
theorem r_quoted (H : AHeap) {s : List UInt8} (hs : s.length < 2 ^ 60) : ACalls prog 84 [str s] H (.tuple #[str (quotR s).1,i64 (quotR s).2]) H := by
 refine acallsT_pure MixT func84 (by decide) rfl ?_
 rw [d84]
 cases s with
 | nil => simp [quotR]
 | cons b r =>
   have h0 := aIndex_at (P := prog) (T := 9) (k := .i64) (l := b :: r) (i := 0) (b := b) (by simp) rfl
   simp at h0
   rw [quotR]
   by_cases h34 : ((b.toNat : Int) == 34) = true
   · have h34' : ((b.toNat : Int) != 34) = false := by simpa using h34
     rw [if_pos h34]
     simp [h0,h34']
     exact ⟨r.length + 1,rQuo_loop (k := fun u H2 => u = .tuple #[str (quoR r [] 1).1,i64 (quoR r [] 1).2] ∧ ∃ X,H2 = H ++ X) hs ⟨rfl,[],by simp⟩ r.length r [] 1 _ _ _ _ _ _ _ _ _ _ _ _ _ _ _ _ _ _ _ _ _ _ _ _ _ _ _ _ _ _ _ _ _ _ _ _ _ _ _ _ _ _ _ _ _ _ _ _ _ _ _ _ (Nat.le_refl _) rfl (by simp) (by simp) rfl⟩
   · have h34' : ((b.toNat : Int) != 34) = true := by simpa using h34
     rw [if_neg h34]
     simp [h0,h34']
end Go.Vi
namespace Go.Vi
open Go Go.Proofs Go.Proofs.Try
abbrev RT := Option (Int × List UInt8 × Nat)
def rcl (a : Nat) : RT → List Value
 | none => [.int .u8 0,str [],i64 0,i64 0]
 | some (k,x,n) => [.int .u8 k,str x,i64 a,i64 ((a + n : Nat) : Int)]
def brk (n : Nat) : RT → Bool
 | none => decide (2 < n)
 | some (_,_,m) => decide (m + 1 < n)
def upR (t : List UInt8) (n : Nat) (o : RT) : RT := if 0 < (kindR (t.take n)).1 then some ((kindR (t.take n)).1,(kindR (t.take n)).2,n) else o
def loR (t : List UInt8) : Nat → Nat → RT → RT
 | 0,_,o => o
 | f + 1,n,o => if n ≤ t.length then (if brk n (upR t n o) = true then upR t n o else loR t f (n + 1) (upR t n o)) else o
def okR : RT → Prop
 | none => True
 | some (k,_,m) => 0 < k ∧ m ≤ 2 ^ 60
set_option maxRecDepth 20000 in
set_option maxHeartbeats 1600000 in
theorem long_loop {H : AHeap} {s t : List UInt8} {a : Nat} {z0 z1 z2 z3 : Value} {k : Value → AHeap → Prop} {w : RT} (hs : s.length < 2 ^ 60) (ht : s.drop a = t) (ha : a ≤ s.length) (hk : k (.agg (rcl a w).toArray) (H ++ [.cells (rcl a w) 105,.cells (rcl a w) 105])) :
  ∀ (f n : Nat) (o : RT) (s2 s3 s6 s7 s9 s10 s11 s12 s13 s14 s15 s16 s17 s18 s19 s20 s21 s22 s23 s24 s25 s26 s27 s28 s29 s30 s31 s32 s33 s34 s35 s36 s37 s38 s39 s40 s41 s42 s43 s44 s45 s46 s47 s48 s49 s50 s51 s52 s53 s54 s55 s56 s57 s58 s59 s60 s61 s62 s63 s64 s65 s66 s67 s68 s69 s70 s71 s72 s73 s74 s75 s76 s77 s78 s79 s80 s81 s82 s83 s84 : Value), t.length + 1 ≤ f + n → 1 ≤ n → n ≤ t.length + 1 → okR o → w = loR t f n o →
    L79x0 (f + 1) k [str s,i64 a,s2,s3,.pointer (some ⟨H.length,0,some 4⟩),.pointer (some ⟨H.length + 1,0,some 4⟩),s6,s7,i64 ((a + n : Nat) : Int),s9,s10,s11,s12,s13,s14,s15,s16,s17,s18,s19,s20,s21,s22,s23,s24,s25,s26,s27,s28,s29,s30,s31,s32,s33,s34,s35,s36,s37,s38,s39,s40,s41,s42,s43,s44,s45,s46,s47,s48,s49,s50,s51,s52,s53,s54,s55,s56,s57,s58,s59,s60,s61,s62,s63,s64,s65,s66,s67,s68,s69,s70,s71,s72,s73,s74,s75,s76,s77,s78,s79,s80,s81,s82,s83,s84] (H ++ [.cells [z0,z1,z2,z3] 105,.cells (rcl a o) 105]) := by
 have htl : t.length = s.length - a := by rw [← ht,List.length_drop]
 have done : ∀ (o : RT) (s0 s1 s2 s3 s6 s7 s8 s9 s10 s11 s12 s13 s14 s15 s16 s17 s18 s19 s20 s21 s22 s23 s24 s25 s26 s27 s28 s29 s30 s31 s32 s33 s34 s35 s36 s37 s38 s39 s40 s41 s42 s43 s44 s45 s46 s47 s48 s49 s50 s51 s52 s53 s54 s55 s56 s57 s58 s59 s60 s61 s62 s63 s64 s65 s66 s67 s68 s69 s70 s71 s72 s73 s74 s75 s76 s77 s78 s79 s80 s81 s82 s83 s84 : Value),w = o → S79x2 k [s0,s1,s2,s3,.pointer (some ⟨H.length,0,some 4⟩),.pointer (some ⟨H.length + 1,0,some 4⟩),s6,s7,s8,s9,s10,s11,s12,s13,s14,s15,s16,s17,s18,s19,s20,s21,s22,s23,s24,s25,s26,s27,s28,s29,s30,s31,s32,s33,s34,s35,s36,s37,s38,s39,s40,s41,s42,s43,s44,s45,s46,s47,s48,s49,s50,s51,s52,s53,s54,s55,s56,s57,s58,s59,s60,s61,s62,s63,s64,s65,s66,s67,s68,s69,s70,s71,s72,s73,s74,s75,s76,s77,s78,s79,s80,s81,s82,s83,s84] (H ++ [.cells [z0,z1,z2,z3] 105,.cells (rcl a o) 105]) := by
  intro o s0 s1 s2 s3 s6 s7 s8 s9 s10 s11 s12 s13 s14 s15 s16 s17 s18 s19 s20 s21 s22 s23 s24 s25 s26 s27 s28 s29 s30 s31 s32 s33 s34 s35 s36 s37 s38 s39 s40 s41 s42 s43 s44 s45 s46 s47 s48 s49 s50 s51 s52 s53 s54 s55 s56 s57 s58 s59 s60 s61 s62 s63 s64 s65 s66 s67 s68 s69 s70 s71 s72 s73 s74 s75 s76 s77 s78 s79 s80 s81 s82 s83 s84 hw
  subst hw
  rw [S79x2q]
  have hr : ∃ c0 c1 c2 c3,rcl a w = [c0,c1,c2,c3] ∧ c0.oneCell' = true ∧ c1.oneCell' = true ∧ c2.oneCell' = true ∧ c3.oneCell' = true := by
   cases w with
   | none => exact ⟨_,_,_,_,rfl,rfl,rfl,rfl,rfl⟩
   | some p => exact ⟨_,_,_,_,rfl,rfl,rfl,rfl,rfl⟩
  obtain ⟨c0,c1,c2,c3,e,o0,o1,o2,o3⟩ := hr
  rw [e] at hk ⊢
  simp [o0,o1,o2,o3]
  exact hk
 intro f
 induction f with
 | zero =>
   intro n o s2 s3 s6 s7 s9 s10 s11 s12 s13 s14 s15 s16 s17 s18 s19 s20 s21 s22 s23 s24 s25 s26 s27 s28 s29 s30 s31 s32 s33 s34 s35 s36 s37 s38 s39 s40 s41 s42 s43 s44 s45 s46 s47 s48 s49 s50 s51 s52 s53 s54 s55 s56 s57 s58 s59 s60 s61 s62 s63 s64 s65 s66 s67 s68 s69 s70 s71 s72 s73 s74 s75 s76 s77 s78 s79 s80 s81 s82 s83 s84 hf h1 hn ho hw
   rw [L79x0q]
   have : ¬ ((a + n : Nat) : Int) ≤ s.length := by omega
   simp only [Int.natCast_add] at this
   simp [this]
   rw [B79x0q]
   exact done o _ _ _ _ _ _ _ _ _ _ _ _ _ _ _ _ _ _ _ _ _ _ _ _ _ _ _ _ _ _ _ _ _ _ _ _ _ _ _ _ _ _ _ _ _ _ _ _ _ _ _ _ _ _ _ _ _ _ _ _ _ _ _ _ _ _ _ _ _ _ _ _ _ _ _ _ _ _ _ _ _ _ _ hw
 | succ f ih =>
   intro n o s2 s3 s6 s7 s9 s10 s11 s12 s13 s14 s15 s16 s17 s18 s19 s20 s21 s22 s23 s24 s25 s26 s27 s28 s29 s30 s31 s32 s33 s34 s35 s36 s37 s38 s39 s40 s41 s42 s43 s44 s45 s46 s47 s48 s49 s50 s51 s52 s53 s54 s55 s56 s57 s58 s59 s60 s61 s62 s63 s64 s65 s66 s67 s68 s69 s70 s71 s72 s73 s74 s75 s76 s77 s78 s79 s80 s81 s82 s83 s84 hf h1 hn ho hw
   rw [L79x0q]
   rw [loR] at hw
   by_cases hle : n ≤ t.length
   · rw [if_pos hle] at hw
     have hle' : ((a + n : Nat) : Int) ≤ s.length := by omega
     have hsl := fun (H : AHeap) => aSliceOp_str (P := prog) (H := H) (T := 9) (l := s) (lo := some (i64 a)) (hi := some (i64 ((a + n : Nat) : Int))) (a := a) (b := ((a + n : Nat) : Int)) (by simp) rfl rfl (by omega) (by omega) (by omega)
     have he : (s.take (a + n)).drop a = t.take n := by rw [List.drop_take,ht]; congr 1; omega
     simp only [Int.toNat_natCast,he] at hsl
     have hkd := r_kind (H ++ [.cells [z0,z1,z2,z3] 105,.cells (rcl a o) 105]) (s := t.take n) (by simp; omega)
     simp only [Int.natCast_add] at hle' hsl
     simp [hle',hsl]
     refine bndC_of hkd ?_
     simp
     have tail : ∀ (o' : RT) (s2 s3 s6 s7 s9 s10 s11 s12 s13 s14 s15 s16 s17 s18 s19 s20 s21 s22 s23 s24 s25 s26 s27 s28 s29 s30 s31 s32 s33 s34 s35 s36 s37 s38 s39 s40 s41 s42 s43 s44 s45 s46 s47 s48 s49 s50 s51 s52 s53 s54 s55 s56 s57 s58 s59 s60 s61 s62 s63 s64 s65 s66 s67 s68 s69 s70 s71 s72 s73 s74 s75 s76 s77 s78 s79 s80 s81 s82 s83 s84 : Value),okR o' → w = (if brk n o' = true then o' else loR t f (n + 1) o') →
       S79x1 (f + 1) k [str s,i64 a,s2,s3,.pointer (some ⟨H.length,0,some 4⟩),.pointer (some ⟨H.length + 1,0,some 4⟩),s6,s7,i64 ((a : Int) + n),s9,s10,s11,s12,s13,s14,s15,s16,s17,s18,s19,s20,s21,s22,s23,s24,s25,s26,s27,s28,s29,s30,s31,s32,s33,s34,s35,s36,s37,s38,s39,s40,s41,s42,s43,s44,s45,s46,s47,s48,s49,s50,s51,s52,s53,s54,s55,s56,s57,s58,s59,s60,s61,s62,s63,s64,s65,s66,s67,s68,s69,s70,s71,s72,s73,s74,s75,s76,s77,s78,s79,s80,s81,s82,s83,s84] (H ++ [.cells [z0,z1,z2,z3] 105,.cells (rcl a o') 105]) := by
      intro o' s2 s3 s6 s7 s9 s10 s11 s12 s13 s14 s15 s16 s17 s18 s19 s20 s21 s22 s23 s24 s25 s26 s27 s28 s29 s30 s31 s32 s33 s34 s35 s36 s37 s38 s39 s40 s41 s42 s43 s44 s45 s46 s47 s48 s49 s50 s51 s52 s53 s54 s55 s56 s57 s58 s59 s60 s61 s62 s63 s64 s65 s66 s67 s68 s69 s70 s71 s72 s73 s74 s75 s76 s77 s78 s79 s80 s81 s82 s83 s84 ho' hw'
      rw [S79x1q]
      have wn : IntKind.i64.wrap ((a : Int) + n + 1) = ((a + (n + 1) : Nat) : Int) := by rw [wrap_i64 (by omega) (by omega)]; omega
      have wa : IntKind.i64.wrap ((a : Int) + 2) = (a : Int) + 2 := wrap_i64 (by omega) (by omega)
      cases o' with
      | none =>
        by_cases hb : 2 < n
        · have hbI : (a : Int) + 2 < (a : Int) + n := by omega
          simp only [brk,hb,decide_true,if_true] at hw'
          simp [rcl,wa,hbI]
          rw [B79x1q]
          exact done none _ _ _ _ _ _ _ _ _ _ _ _ _ _ _ _ _ _ _ _ _ _ _ _ _ _ _ _ _ _ _ _ _ _ _ _ _ _ _ _ _ _ _ _ _ _ _ _ _ _ _ _ _ _ _ _ _ _ _ _ _ _ _ _ _ _ _ _ _ _ _ _ _ _ _ _ _ _ _ _ _ _ _ hw'
        · have hbI : ¬ (a : Int) + 2 < (a : Int) + n := by omega
          simp only [brk,hb,decide_false,if_false,Bool.false_eq_true] at hw'
          simp [rcl,wa,hbI,wn]
          exact ih (n + 1) none _ _ _ _ _ _ _ _ _ _ _ _ _ _ _ _ _ _ _ _ _ _ _ _ _ _ _ _ _ _ _ _ _ _ _ _ _ _ _ _ _ _ _ _ _ _ _ _ _ _ _ _ _ _ _ _ _ _ _ _ _ _ _ _ _ _ _ _ _ _ _ _ _ _ _ _ _ _ _ _ (by omega) (by omega) (by omega) trivial hw'
      | some q =>
        obtain ⟨kk,x,m⟩ := q
        obtain ⟨hkk,hm60⟩ : 0 < kk ∧ m ≤ 2 ^ 60 := ho'
        have hk0 : (kk == 0) = false := by rw [beq_eq_false_iff_ne]; omega
        have wm : IntKind.i64.wrap ((a : Int) + m + 1) = (a : Int) + m + 1 := wrap_i64 (by omega) (by omega)
        by_cases hb : m + 1 < n
        · have hbI : (a : Int) + m + 1 < (a : Int) + n := by omega
          simp only [brk,hb,decide_true,if_true] at hw'
          simp [rcl,hkk,wm,hbI]
          rw [B79x1q]
          exact done (some (kk,x,m)) _ _ _ _ _ _ _ _ _ _ _ _ _ _ _ _ _ _ _ _ _ _ _ _ _ _ _ _ _ _ _ _ _ _ _ _ _ _ _ _ _ _ _ _ _ _ _ _ _ _ _ _ _ _ _ _ _ _ _ _ _ _ _ _ _ _ _ _ _ _ _ _ _ _ _ _ _ _ _ _ _ _ _ hw'
        · have hbI : ¬ (a : Int) + m + 1 < (a : Int) + n := by omega
          simp only [brk,hb,decide_false,if_false,Bool.false_eq_true] at hw'
          simp [rcl,hkk,wm,hbI,hk0,wn]
          exact ih (n + 1) (some (kk,x,m)) _ _ _ _ _ _ _ _ _ _ _ _ _ _ _ _ _ _ _ _ _ _ _ _ _ _ _ _ _ _ _ _ _ _ _ _ _ _ _ _ _ _ _ _ _ _ _ _ _ _ _ _ _ _ _ _ _ _ _ _ _ _ _ _ _ _ _ _ _ _ _ _ _ _ _ _ _ _ _ _ (by omega) (by omega) (by omega) ⟨hkk,hm60⟩ hw'
     by_cases hkk : 0 < (kindR (t.take n)).1
     · have hu : upR t n o = some ((kindR (t.take n)).1,(kindR (t.take n)).2,n) := by unfold upR; rw [if_pos hkk]
       rw [hu] at hw
       obtain ⟨c0,c1,c2,c3,e⟩ : ∃ c0 c1 c2 c3,rcl a o = [c0,c1,c2,c3] := by
        cases o with
        | none => exact ⟨_,_,_,_,rfl⟩
        | some p => exact ⟨_,_,_,_,rfl⟩
       simp [hkk,e]
       exact tail (some ((kindR (t.take n)).1,(kindR (t.take n)).2,n)) _ _ _ _ _ _ _ _ _ _ _ _ _ _ _ _ _ _ _ _ _ _ _ _ _ _ _ _ _ _ _ _ _ _ _ _ _ _ _ _ _ _ _ _ _ _ _ _ _ _ _ _ _ _ _ _ _ _ _ _ _ _ _ _ _ _ _ _ _ _ _ _ _ _ _ _ _ _ _ _ ⟨hkk,by omega⟩ hw
     · have hu : upR t n o = o := by unfold upR; rw [if_neg hkk]
       rw [hu] at hw
       simp [hkk]
       exact tail o _ _ _ _ _ _ _ _ _ _ _ _ _ _ _ _ _ _ _ _ _ _ _ _ _ _ _ _ _ _ _ _ _ _ _ _ _ _ _ _ _ _ _ _ _ _ _ _ _ _ _ _ _ _ _ _ _ _ _ _ _ _ _ _ _ _ _ _ _ _ _ _ _ _ _ _ _ _ _ _ ho hw
   · rw [if_neg hle] at hw
     have : ¬ ((a + n : Nat) : Int) ≤ s.length := by omega
     simp only [Int.natCast_add] at this
     simp [this]
     rw [B79x0q]
     exact done o _ _ _ _ _ _ _ _ _ _ _ _ _ _ _ _ _ _ _ _ _ _ _ _ _ _ _ _ _ _ _ _ _ _ _ _ _ _ _ _ _ _ _ _ _ _ _ _ _ _ _ _ _ _ _ _ _ _ _ _ _ _ _ _ _ _ _ _ _ _ _ _ _ _ _ _ _ _ _ _ _ _ _ hw
def longR (t : List UInt8) : RT := match t with
 | [] => none
 | b :: r => if ((b.toNat : Int) == 34) = true then (if 0 < (quoR r [] 1).2 ∧ (t.take (quoR r [] 1).2).all isSign = true then some (3,(quoR r [] 1).1,(quoR r [] 1).2) else none) else loR t (t.length) 1 none
theorem quoR_le : ∀ (n : Nat) (r acc : List UInt8) (c : Nat),r.length ≤ n → (quoR r acc c).2 ≤ c + r.length := by
 intro n
 induction n with
 | zero =>
   intro r acc c h
   have : r = [] := List.eq_nil_of_length_eq_zero (by omega)
   subst this
   rw [quoR]; simp
 | succ n ih =>
   intro r acc c h
   cases r with
   | nil => rw [quoR]; simp
   | cons b r =>
     simp only [List.length_cons] at h ⊢
     rw [quoR_cons]
     split
     · simp only; omega
     · split
       · cases r with
         | nil => simp
         | cons e r' =>
           simp only [List.length_cons] at h ⊢
           split
           · have := ih r' (acc ++ [e]) (c + 2) (by omega); omega
           · simp
       · have := ih r (acc ++ [b]) (c + 1) (by omega); omega
set_option maxRecDepth 20000 in
set_option maxHeartbeats 1600000 in
theorem r_longest (H : AHeap) {s : List UInt8} {a : Nat} (hs : s.length < 2 ^ 60) (ha : a < s.length) : ACalls prog 79 [str s,i64 a] H (.agg (rcl a (longR (s.drop a))).toArray) H := by
 have hfl : ∀ o : RT,flat (.agg (rcl a o).toArray) = true := by
  intro o
  cases o with
  | none => rfl
  | some p => rfl
 refine acallsT_pure MixT func79 (by decide) (hfl _) ?_
 rw [d79]
 obtain ⟨b,r,hbr⟩ : ∃ b r,s.drop a = b :: r := by
  cases h : s.drop a with
  | nil => simp at h; omega
  | cons b r => exact ⟨b,r,rfl⟩
 have hb : s[a]? = some b := by rw [← List.head?_drop,hbr]; rfl
 have hix := aIndex_at (P := prog) (T := 9) (k := .i64) (by simp) hb
 have hl : (b :: r).length = s.length - a := by rw [← hbr,List.length_drop]
 have hw1 : IntKind.i64.wrap ((a : Int) + 1) = ((a + 1 : Nat) : Int) := by rw [wrap_i64 (by omega) (by omega)]; omega
 rw [hbr,longR]
 by_cases h34 : ((b.toNat : Int) == 34) = true
 · rw [if_pos h34]
   have hq : quotR (b :: r) = quoR r [] 1 := by rw [quotR,if_pos h34]
   have hqle := quoR_le r.length r [] 1 (Nat.le_refl _)
   generalize hQ : quoR r [] 1 = Q at hq hqle
   obtain ⟨x,u⟩ := Q
   simp only at hqle
   simp only [List.length_cons] at hl
   have h1 := fun (H : AHeap) => aSliceOp_str (P := prog) (H := H) (T := 9) (l := s) (lo := some (i64 a)) (hi := none) (a := a) (b := s.length) (by simp) rfl rfl (by omega) (by omega) (by omega)
   simp only [Int.toNat_natCast,List.take_length,hbr] at h1
   have h2 := fun (H : AHeap) => aSliceOp_str (P := prog) (H := H) (T := 9) (l := s) (lo := some (i64 a)) (hi := some (i64 ((a : Int) + u))) (a := a) (b := ((a + u : Nat) : Int)) (by simp) rfl rfl (by omega) (by omega) (by omega)
   have he : (s.take (a + u)).drop a = (b :: r).take u := by rw [List.drop_take,hbr]; congr 1; omega
   simp only [Int.toNat_natCast,he] at h2
   have hq2 := fun (H : AHeap) => r_quoted H (s := b :: r) (by simp; omega)
   rw [hq] at hq2
   have hwu : IntKind.i64.wrap ((a : Int) + u) = (a : Int) + u := wrap_i64 (by omega) (by omega)
   have done : ∀ (o : RT) (s0 s1 s2 s3 s6 s7 s8 s9 s10 s11 s12 s13 s14 s15 s16 s17 s18 s19 s20 s21 s22 s23 s24 s25 s26 s27 s28 s29 s30 s31 s32 s33 s34 s35 s36 s37 s38 s39 s40 s41 s42 s43 s44 s45 s46 s47 s48 s49 s50 s51 s52 s53 s54 s55 s56 s57 s58 s59 s60 s61 s62 s63 s64 s65 s66 s67 s68 s69 s70 s71 s72 s73 s74 s75 s76 s77 s78 s79 s80 s81 s82 s83 s84 : Value),S79x0 (fun v H2 => v = .agg (rcl a o).toArray ∧ ∃ X,H2 = H ++ X) [s0,s1,s2,s3,.pointer (some ⟨H.length,0,some 4⟩),.pointer (some ⟨H.length + 1,0,some 4⟩),s6,s7,s8,s9,s10,s11,s12,s13,s14,s15,s16,s17,s18,s19,s20,s21,s22,s23,s24,s25,s26,s27,s28,s29,s30,s31,s32,s33,s34,s35,s36,s37,s38,s39,s40,s41,s42,s43,s44,s45,s46,s47,s48,s49,s50,s51,s52,s53,s54,s55,s56,s57,s58,s59,s60,s61,s62,s63,s64,s65,s66,s67,s68,s69,s70,s71,s72,s73,s74,s75,s76,s77,s78,s79,s80,s81,s82,s83,s84] (H ++ [.cells [.int .u8 0,str [],i64 0,i64 0] 105,.cells (rcl a o) 105]) := by
    intro o s0 s1 s2 s3 s6 s7 s8 s9 s10 s11 s12 s13 s14 s15 s16 s17 s18 s19 s20 s21 s22 s23 s24 s25 s26 s27 s28 s29 s30 s31 s32 s33 s34 s35 s36 s37 s38 s39 s40 s41 s42 s43 s44 s45 s46 s47 s48 s49 s50 s51 s52 s53 s54 s55 s56 s57 s58 s59 s60 s61 s62 s63 s64 s65 s66 s67 s68 s69 s70 s71 s72 s73 s74 s75 s76 s77 s78 s79 s80 s81 s82 s83 s84
    rw [S79x0q]
    have hr : ∃ c0 c1 c2 c3,rcl a o = [c0,c1,c2,c3] ∧ c0.oneCell' = true ∧ c1.oneCell' = true ∧ c2.oneCell' = true ∧ c3.oneCell' = true := by
     cases o with
     | none => exact ⟨_,_,_,_,rfl,rfl,rfl,rfl,rfl⟩
     | some p => exact ⟨_,_,_,_,rfl,rfl,rfl,rfl,rfl⟩
    obtain ⟨c0,c1,c2,c3,e,o0,o1,o2,o3⟩ := hr
    rw [e]
    simp [o0,o1,o2,o3]
   simp [hix,h34,h1]
   refine bndC_of (hq2 _) ?_
   by_cases hu : 0 < u
   · cases hp : ((b :: r).take u).all isSign with
     | true =>
       have hpl := fun (H : AHeap) => r_plain H (s := (b :: r).take u) (by simp; omega)
       rw [hp] at hpl
       simp [hu,hwu,h2]
       refine bndG_t (.bool true) _ (hpl _) ?_
       simp [hu,hwu]
       exact done (some (3,x,u)) _ _ _ _ _ _ _ _ _ _ _ _ _ _ _ _ _ _ _ _ _ _ _ _ _ _ _ _ _ _ _ _ _ _ _ _ _ _ _ _ _ _ _ _ _ _ _ _ _ _ _ _ _ _ _ _ _ _ _ _ _ _ _ _ _ _ _ _ _ _ _ _ _ _ _ _ _ _ _ _ _ _ _
     | false =>
       have hpl := fun (H : AHeap) => r_plain H (s := (b :: r).take u) (by simp; omega)
       rw [hp] at hpl
       simp [hu,hwu,h2]
       refine bndG_t (.bool false) _ (hpl _) ?_
       simp
       exact done none _ _ _ _ _ _ _ _ _ _ _ _ _ _ _ _ _ _ _ _ _ _ _ _ _ _ _ _ _ _ _ _ _ _ _ _ _ _ _ _ _ _ _ _ _ _ _ _ _ _ _ _ _ _ _ _ _ _ _ _ _ _ _ _ _ _ _ _ _ _ _ _ _ _ _ _ _ _ _ _ _ _ _
   · have hu' : u = 0 := by omega
     subst hu'
     simp
     exact done none _ _ _ _ _ _ _ _ _ _ _ _ _ _ _ _ _ _ _ _ _ _ _ _ _ _ _ _ _ _ _ _ _ _ _ _ _ _ _ _ _ _ _ _ _ _ _ _ _ _ _ _ _ _ _ _ _ _ _ _ _ _ _ _ _ _ _ _ _ _ _ _ _ _ _ _ _ _ _ _ _ _ _
 · rw [if_neg h34]
   have h34' : ((b.toNat : Int) == 34) = false := by simpa using h34
   simp [hix,h34',hw1]
   exact ⟨(b :: r).length + 1,long_loop (H := H) (k := fun u H2 => u = .agg (rcl a (loR (b :: r) (b :: r).length 1 none)).toArray ∧ ∃ X,H2 = H ++ X) hs hbr (by omega) ⟨rfl,_,rfl⟩ (b :: r).length 1 none _ _ _ _ _ _ _ _ _ _ _ _ _ _ _ _ _ _ _ _ _ _ _ _ _ _ _ _ _ _ _ _ _ _ _ _ _ _ _ _ _ _ _ _ _ _ _ _ _ _ _ _ _ _ _ _ _ _ _ _ _ _ _ _ _ _ _ _ _ _ _ _ _ _ _ _ _ _ _ _ (by omega) (by omega) (by simp) trivial rfl⟩
end Go.Vi
namespace Go.Vi
open Go Go.Proofs
def shN (k : Nat) (n : Nod) : Nod := if n.kind = 0 then n else if n.kind = 3 then { n with left := n.left + k } else { n with left := n.left + k,right := n.right + k }
theorem strO_mono {ts : List Tok} : ∀ (f f' m a : Nat) (l : List Nod) (r : Option (List Nod × Nat)),f ≤ f' → strO ts f m a l = some r → strO ts f' m a l = some r := by
 intro f
 induction f with
 | zero => intro f' m a l r _ h; cases h
 | succ f ih =>
   intro f' m a l r hf h
   obtain ⟨f',rfl⟩ : ∃ g,f' = g + 1 := ⟨f' - 1,by omega⟩
   have hf' : f ≤ f' := by omega
   unfold strO at h ⊢
   by_cases hm : m = 2
   · rw [if_pos hm] at h ⊢
     by_cases h1 : isT ts a 1 notS = true
     · rw [if_pos h1] at h ⊢
       obtain ⟨q,e1,e2⟩ := Option.map_eq_some_iff.1 h
       rw [ih _ _ _ _ _ hf' e1]; simp [e2]
     · rw [if_neg h1] at h ⊢
       by_cases h2 : isT ts a 4 [40] = true
       · rw [if_pos h2] at h ⊢
         obtain ⟨q,e1,e2⟩ := Option.map_eq_some_iff.1 h
         rw [ih _ _ _ _ _ hf' e1]; simp [e2]
       · rw [if_neg h2] at h ⊢; exact h
   · rw [if_neg hm] at h ⊢
     by_cases hm2 : m < 2
     · rw [if_pos hm2] at h ⊢
       obtain ⟨q,e1,e2⟩ := Option.bind_eq_some_iff.1 h
       rw [ih _ _ _ _ _ hf' e1,Option.bind_some]
       cases q with
       | none => exact e2
       | some p => exact ih _ _ _ _ _ hf' e2
     · rw [if_neg hm2] at h ⊢
       by_cases hw : isT ts a 1 (wordO (m - 10)) = true
       · rw [if_pos hw] at h ⊢
         obtain ⟨q,e1,e2⟩ := Option.bind_eq_some_iff.1 h
         rw [ih _ _ _ _ _ hf' e1,Option.bind_some]
         cases q with
         | none => exact e2
         | some p => exact ih _ _ _ _ _ hf' e2
       · rw [if_neg hw] at h ⊢; exact h
theorem conO_of {ts : List Tok} {f a : Nat} {r : Option (List Nod × Nat)} (h : strO ts f 0 a [] = some r) : conO ts a = r := by
 have h1 := strO_mono _ (max f (4 * ts.length + 3)) _ _ _ _ (by omega) h
 have h2 := strO_mono _ (max f (4 * ts.length + 3)) _ _ _ _ (by omega) (conO_str ts a)
 rw [h1] at h2
 exact (Option.some.inj h2).symm
theorem str_paren {ts : List Tok} {f a b : Nat} {l l' : List Nod} (h : strO ts f 0 (a + 1) l = some (some (l',b))) (ho : isT ts a 4 [40] = true) (hc : isT ts b 4 [41] = true) : strO ts (f + 1) 2 a l = some (some (l',b + 1)) := by
 have h1 : ¬ isT ts a 1 notS = true := by
  unfold isT at ho ⊢
  cases ht : ts[a]? with
  | none => simp
  | some t => simp [ht] at ho; simp [ho.1]
 unfold strO
 rw [if_pos rfl,if_neg h1,if_pos ho,h]
 simp [signO,hc]
theorem str_neg2 {ts : List Tok} {f a b : Nat} {l l1 : List Nod} (h1 : strO ts f 2 (a + 1) l = some (some (l1,b))) (hw : isT ts a 1 notS = true) : strO ts (f + 1) 2 a l = some (some (l1 ++ [opN 3 ((l1.length : Int) - 1) 0],b)) := by
 unfold strO
 rw [if_pos rfl,if_pos hw,h1]; rfl
end Go.Vi
