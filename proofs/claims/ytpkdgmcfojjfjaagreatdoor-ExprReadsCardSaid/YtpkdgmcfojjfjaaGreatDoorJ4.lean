/- What the functions' bodies come to. What the functions' bodies come to. Labels: names, values. Conditions: nodes. (The check's contracts are not asked of this seat.) (The check's contracts are not asked of this seat.) Arguments: matchers, nodes, days, mutes, rules, configurations. Tokens. strings.Builder. One token. One token. All tokens. All tokens: the iterator, and the range over it. -/
import Derived.Test.YtpkdgmcfojjfjaaGreatDoorJ2
import Derived.Test.YtpkdgmcfojjfjaaGreatDoorChecked
import Derived.Test.YtpkdgmcfojjfjaaGreatDoorJ3
namespace Go.Vi
open Go Go.Proofs
-- internal/strconv.numDigits
def L146x0 (n : Nat) (k : Value → AHeap → Prop) (sl : List Value) (H : AHeap) : Prop := kit Tryz.prog (cl (cl (cr (cl (cr (cr (cb Tryz.f146))))))) n (kblk 0 (kseq Tryz.prog (cr (cr (cr (cb Tryz.f146)))) (kfin Tryz.prog Tryz.f146
  k))) .normal sl H
theorem d146 (a0 : Value) (H : AHeap) (k : Value → AHeap → Prop) : kbody Tryz.prog Tryz.f146 [a0] H k = (@bnd (aLen Tryz.prog H 9 a0) ⟨fun v5x1 => @bnd (aBin2 Tryz.prog H .lss 3 (.tmp 5) (.const (.int .i64 1)) v5x1 (.int .i64 1))
  ⟨fun v6x2 => @bnd (gif v6x2 false ((some a0)) undef) ⟨fun v8x3 => @bnd (gif v6x2 false (aLen Tryz.prog H 9 v8x3) undef) ⟨fun v9x4 => @bnd (gif v6x2 false (aBin2 Tryz.prog H .gtr 3 (.tmp 9) (.const (.int .i64 16)) v9x4 (.int
  .i64 16)) undef) ⟨fun v10x5 => @bnd (pickV v6x2 (.bool true) v10x5) ⟨fun v11x6 => @bnd (gif v11x6 false ((some a0)) undef) ⟨fun v13x7 => @bnd (gif v11x6 false (aIndex Tryz.prog 9 v13x7 (.int .i64 0)) undef) ⟨fun v14x8 => @bnd
  (gif v11x6 false (aBin2 Tryz.prog H .lss 5 (.tmp 14) (.const (.int .u8 97)) v14x8 (.int .u8 97)) undef) ⟨fun v15x9 => @bnd (pickV v11x6 (.bool true) v15x9) ⟨fun v16x10 => @bnd (gif v16x10 false ((some a0)) undef) ⟨fun v18x11 =>
  @bnd (gif v16x10 false (aIndex Tryz.prog 9 v18x11 (.int .i64 0)) undef) ⟨fun v19x12 => @bnd (gif v16x10 false (aBin2 Tryz.prog H .gtr 5 (.tmp 19) (.const (.int .u8 122)) v19x12 (.int .u8 122)) undef) ⟨fun v20x13 => @bnd (pickV
  v16x10 (.bool true) v20x13) ⟨fun v21x14 => @kifB v21x14 ⟨k (.bool false) H⟩ ⟨∃ n, L146x0 n  k [a0, undef, (.bool false), (.int .i64 0), a0, v5x1, v6x2, v6x2, v8x3, v9x4, v10x5, v11x6, v11x6, v13x7, v14x8, v15x9, v16x10, v16x10,
  v18x11, v19x12, v20x13, v21x14, undef, undef, undef, undef, undef, undef, undef, undef, undef, undef, undef, undef, undef, undef, undef, undef, undef, undef, undef, undef, undef, undef, undef, undef, undef, undef, undef, undef,
  undef, undef, undef, undef, undef, undef, undef] H⟩⟩⟩⟩⟩⟩⟩⟩⟩⟩⟩⟩⟩⟩⟩) := by kernel_rfl
theorem L146x0q (n0 : Nat) (s0 s1 s2 s3 s4 s5 s6 s7 s8 s9 s10 s11 s12 s13 s14 s15 s16 s17 s18 s19 s20 s21 s22 s23 s24 s25 s26 s27 s28 s29 s30 s31 s32 s33 s34 s35 s36 s37 s38 s39 s40 s41 s42 s43 s44 s45 s46 s47 s48 s49 s50 s51 s52
  s53 s54 s55 s56 : Value) (H : AHeap) (k : Value → AHeap → Prop) : L146x0 (n0 + 1) k [s0, s1, s2, s3, s4, s5, s6, s7, s8, s9, s10, s11, s12, s13, s14, s15, s16, s17, s18, s19, s20, s21, s22, s23, s24, s25, s26, s27, s28, s29,
  s30, s31, s32, s33, s34, s35, s36, s37, s38, s39, s40, s41, s42, s43, s44, s45, s46, s47, s48, s49, s50, s51, s52, s53, s54, s55, s56] H = (@bnd (aLen Tryz.prog H 9 s0) ⟨fun v24x15 => @bnd (aBin2 Tryz.prog H .lss 3 (.tmp 22)
  (.tmp 24) s3 v24x15) ⟨fun v25x16 => @kifB v25x16 ⟨@bnd (aIndex Tryz.prog 9 s0 s3) ⟨fun v30x17 => @bnd (aBin2 Tryz.prog H .geq 5 (.tmp 30) (.const (.int .u8 97)) v30x17 (.int .u8 97)) ⟨fun v31x18 => @bnd (gif v31x18 true ((some
  s0)) undef) ⟨fun v33x19 => @bnd (gif v31x18 true ((some s3)) undef) ⟨fun v34x20 => @bnd (gif v31x18 true (aIndex Tryz.prog 9 v33x19 v34x20) undef) ⟨fun v35x21 => @bnd (gif v31x18 true (aBin2 Tryz.prog H .leq 5 (.tmp 35) (.const
  (.int .u8 122)) v35x21 (.int .u8 122)) undef) ⟨fun v36x22 => @bnd (pickV v31x18 v36x22 (.bool false)) ⟨fun v37x23 => @bnd (gif v37x23 false ((some s0)) undef) ⟨fun v39x24 => @bnd (gif v37x23 false ((some s3)) undef) ⟨fun v40x25
  => @bnd (gif v37x23 false (aIndex Tryz.prog 9 v39x24 v40x25) undef) ⟨fun v41x26 => @bnd (gif v37x23 false (aBin2 Tryz.prog H .geq 5 (.tmp 41) (.const (.int .u8 48)) v41x26 (.int .u8 48)) undef) ⟨fun v42x27 => @bnd (gif v37x23
  false ((some v42x27)) undef) ⟨fun v43x28 => @bnd (gif v43x28 true ((some s0)) undef) ⟨fun v44x29 => @bnd (gif v43x28 true ((some s3)) undef) ⟨fun v45x30 => @bnd (gif v43x28 true (aIndex Tryz.prog 9 v44x29 v45x30) undef) ⟨fun
  v46x31 => @bnd (gif v43x28 true (aBin2 Tryz.prog H .leq 5 (.tmp 46) (.const (.int .u8 57)) v46x31 (.int .u8 57)) undef) ⟨fun v47x32 => @bnd (gif v37x23 false (pickV v43x28 v47x32 (.bool false)) undef) ⟨fun v48x33 => @bnd (pickV
  v37x23 (.bool true) v48x33) ⟨fun v49x34 => @bnd (gif v49x34 false ((some s0)) undef) ⟨fun v51x35 => @bnd (gif v49x34 false ((some s3)) undef) ⟨fun v52x36 => @bnd (gif v49x34 false (aIndex Tryz.prog 9 v51x35 v52x36) undef) ⟨fun
  v53x37 => @bnd (gif v49x34 false (aBin2 Tryz.prog H .eql 5 (.tmp 53) (.const (.int .u8 95)) v53x37 (.int .u8 95)) undef) ⟨fun v54x38 => @bnd (pickV v49x34 (.bool true) v54x38) ⟨fun v55x39 => @bnd (unV Tryz.prog .not v55x39)
  ⟨fun v56x40 => @kifB v56x40 ⟨k (.bool false) H⟩ ⟨@bnd (aBin2 Tryz.prog H .add 3 (.tmp 26) (.const (.int .i64 1)) s3 (.int .i64 1)) ⟨fun v27x41 => L146x0 n0  k [s0, s1, s2, v27x41, s4, s5, s6, s7, s8, s9, s10, s11, s12, s13,
  s14, s15, s16, s17, s18, s19, s20, s21, s3, s0, v24x15, v25x16, s3, v27x41, s0, s3, v30x17, v31x18, v31x18, v33x19, v34x20, v35x21, v36x22, v37x23, v37x23, v39x24, v40x25, v41x26, v42x27, v43x28, v44x29, v45x30, v46x31, v47x32,
  v48x33, v49x34, v49x34, v51x35, v52x36, v53x37, v54x38, v55x39, v56x40] H⟩⟩⟩⟩⟩⟩⟩⟩⟩⟩⟩⟩⟩⟩⟩⟩⟩⟩⟩⟩⟩⟩⟩⟩⟩⟩⟩ ⟨k (.bool true) H⟩⟩⟩) := by kernel_rfl
-- tocsin/tocsinref09.digits
def L147x0 (n : Nat) (k : Value → AHeap → Prop) (sl : List Value) (H : AHeap) : Prop := kit Tryz.prog (cl (cl (cr (cl (cr (cb Tryz.f147)))))) n (kblk 0 (kseq Tryz.prog (cr (cr (cb Tryz.f147))) (kfin Tryz.prog Tryz.f147 k)))
  .normal sl H
theorem d147 (a0 : Value) (H : AHeap) (k : Value → AHeap → Prop) : kbody Tryz.prog Tryz.f147 [a0] H k = (∃ n, L147x0 n  k [a0, undef, (.bool false), (.int .i64 0), undef, undef, undef, undef, undef, undef, undef, undef, undef,
  undef, undef, undef, undef, undef, undef, undef, undef, undef] H) := by kernel_rfl
theorem L147x0q (n0 : Nat) (s0 s1 s2 s3 s4 s5 s6 s7 s8 s9 s10 s11 s12 s13 s14 s15 s16 s17 s18 s19 s20 s21 : Value) (H : AHeap) (k : Value → AHeap → Prop) : L147x0 (n0 + 1) k [s0, s1, s2, s3, s4, s5, s6, s7, s8, s9, s10, s11, s12,
  s13, s14, s15, s16, s17, s18, s19, s20, s21] H = (@bnd (aLen Tryz.prog H 9 s0) ⟨fun v6x1 => @bnd (aBin2 Tryz.prog H .lss 3 (.tmp 4) (.tmp 6) s3 v6x1) ⟨fun v7x2 => @kifB v7x2 ⟨@bnd (aIndex Tryz.prog 9 s0 s3) ⟨fun v12x3 => @bnd
  (aBin2 Tryz.prog H .lss 5 (.tmp 12) (.const (.int .u8 48)) v12x3 (.int .u8 48)) ⟨fun v13x4 => @bnd (gif v13x4 false ((some s0)) undef) ⟨fun v15x5 => @bnd (gif v13x4 false ((some s3)) undef) ⟨fun v16x6 => @bnd (gif v13x4 false
  (aIndex Tryz.prog 9 v15x5 v16x6) undef) ⟨fun v17x7 => @bnd (gif v13x4 false (aBin2 Tryz.prog H .gtr 5 (.tmp 17) (.const (.int .u8 57)) v17x7 (.int .u8 57)) undef) ⟨fun v18x8 => @bnd (pickV v13x4 (.bool true) v18x8) ⟨fun v19x9
  => @kifB v19x9 ⟨k (.bool false) H⟩ ⟨@bnd (aBin2 Tryz.prog H .add 3 (.tmp 8) (.const (.int .i64 1)) s3 (.int .i64 1)) ⟨fun v9x10 => L147x0 n0  k [s0, s1, s2, v9x10, s3, s0, v6x1, v7x2, s3, v9x10, s0, s3, v12x3, v13x4, v13x4,
  v15x5, v16x6, v17x7, v18x8, v19x9, s20, s21] H⟩⟩⟩⟩⟩⟩⟩⟩⟩⟩ ⟨@bnd (aBin2 Tryz.prog H .neq 9 (.tmp 20) (.const (.string { data := #[] })) s0 (.string { data := #[] })) ⟨fun v21x11 => k v21x11 H⟩⟩⟩⟩) := by kernel_rfl
-- tocsin/tocsinref08.May
def L149x0 (n : Nat) (k : Value → AHeap → Prop) (sl : List Value) (H : AHeap) : Prop := kit Tryz.prog (cl (cl (cr (cl (cr (cb Tryz.f149)))))) n (kblk 0 (kseq Tryz.prog (cr (cr (cb Tryz.f149))) (kfin Tryz.prog Tryz.f149 k)))
  .normal sl H
theorem d149 (a0 : Value) (H : AHeap) (k : Value → AHeap → Prop) : kbody Tryz.prog Tryz.f149 [a0] H k = (∃ n, L149x0 n  k [a0, undef, (.bool false), (.int .i64 0), undef, undef, undef, undef, undef, undef, undef, undef, undef,
  undef, undef, undef, undef, undef, undef, undef, undef, undef, undef, undef, undef, undef, undef, undef, undef, undef, undef, undef, undef, undef, undef, undef, undef, undef, undef, undef, undef, undef, undef, undef, undef,
  undef] H) := by kernel_rfl
theorem L149x0q (n0 : Nat) (s0 s1 s2 s3 s4 s5 s6 s7 s8 s9 s10 s11 s12 s13 s14 s15 s16 s17 s18 s19 s20 s21 s22 s23 s24 s25 s26 s27 s28 s29 s30 s31 s32 s33 s34 s35 s36 s37 s38 s39 s40 s41 s42 s43 s44 s45 : Value) (H : AHeap) (k :
  Value → AHeap → Prop) : L149x0 (n0 + 1) k [s0, s1, s2, s3, s4, s5, s6, s7, s8, s9, s10, s11, s12, s13, s14, s15, s16, s17, s18, s19, s20, s21, s22, s23, s24, s25, s26, s27, s28, s29, s30, s31, s32, s33, s34, s35, s36, s37, s38,
  s39, s40, s41, s42, s43, s44, s45] H = (@bnd (aLen Tryz.prog H 35 s0) ⟨fun v6x1 => @bnd (aBin2 Tryz.prog H .lss 3 (.tmp 4) (.tmp 6) s3 v6x1) ⟨fun v7x2 => @kifB v7x2 ⟨@bnd (aIndexAddr Tryz.prog H 35 s0 s3) ⟨fun v12x3 => @bnd
  (aFieldAddr Tryz.prog H 75 v12x3 1) ⟨fun v13x4 => @bnd (aLoad Tryz.prog H 5 v13x4) ⟨fun v14x5 => @bnd (aBin2 Tryz.prog H .gtr 5 (.tmp 14) (.const (.int .u8 2)) v14x5 (.int .u8 2)) ⟨fun v15x6 => @bnd (gif v15x6 false ((some s0))
  undef) ⟨fun v17x7 => @bnd (gif v15x6 false ((some s3)) undef) ⟨fun v18x8 => @bnd (gif v15x6 false (aIndexAddr Tryz.prog H 35 v17x7 v18x8) undef) ⟨fun v19x9 => @bnd (gif v15x6 false (aFieldAddr Tryz.prog H 75 v19x9 0) undef)
  ⟨fun v20x10 => @bnd (gif v15x6 false (aLoad Tryz.prog H 9 v20x10) undef) ⟨fun v21x11 => @bndG v15x6 false H ⟨fun v22x12 H13 => ACalls Tryz.prog 146 [v21x11] H v22x12 H13⟩ ⟨fun v22x12 H13 => @bnd (gif v15x6 false (unV Tryz.prog
  .not v22x12) undef) ⟨fun v23x14 => @bnd (pickV v15x6 (.bool true) v23x14) ⟨fun v24x15 => @bnd (gif v24x15 false ((some s0)) undef) ⟨fun v26x16 => @bnd (gif v24x15 false ((some s3)) undef) ⟨fun v27x17 => @bnd (gif v24x15 false
  (aIndexAddr Tryz.prog H13 35 v26x16 v27x17) undef) ⟨fun v28x18 => @bnd (gif v24x15 false (aFieldAddr Tryz.prog H13 75 v28x18 2) undef) ⟨fun v29x19 => @bnd (gif v24x15 false (aLoad Tryz.prog H13 9 v29x19) undef) ⟨fun v30x20 =>
  @bnd (gif v24x15 false (aLen Tryz.prog H13 9 v30x20) undef) ⟨fun v31x21 => @bnd (gif v24x15 false (aBin2 Tryz.prog H13 .gtr 3 (.tmp 31) (.const (.int .i64 32)) v31x21 (.int .i64 32)) undef) ⟨fun v32x22 => @bnd (pickV v24x15
  (.bool true) v32x22) ⟨fun v33x23 => @bnd (gif v33x23 false ((some s0)) undef) ⟨fun v35x24 => @bnd (gif v33x23 false ((some s3)) undef) ⟨fun v36x25 => @bnd (gif v33x23 false (aIndexAddr Tryz.prog H13 35 v35x24 v36x25) undef)
  ⟨fun v37x26 => @bnd (gif v33x23 false (aFieldAddr Tryz.prog H13 75 v37x26 2) undef) ⟨fun v38x27 => @bnd (gif v33x23 false (aLoad Tryz.prog H13 9 v38x27) undef) ⟨fun v39x28 => @bndG v33x23 false H13 ⟨fun v40x29 H30 => ACalls
  Tryz.prog 92 [v39x28] H13 v40x29 H30⟩ ⟨fun v40x29 H30 => @bnd (gif v33x23 false (unV Tryz.prog .not v40x29) undef) ⟨fun v41x31 => @bnd (pickV v33x23 (.bool true) v41x31) ⟨fun v42x32 => @kifB v42x32 ⟨k (.bool false) H30⟩ ⟨@bnd
  (aBin2 Tryz.prog H30 .add 3 (.tmp 8) (.const (.int .i64 1)) s3 (.int .i64 1)) ⟨fun v9x33 => L149x0 n0  k [s0, s1, s2, v9x33, s3, s0, v6x1, v7x2, s3, v9x33, s0, s3, v12x3, v13x4, v14x5, v15x6, v15x6, v17x7, v18x8, v19x9, v20x10,
  v21x11, v22x12, v23x14, v24x15, v24x15, v26x16, v27x17, v28x18, v29x19, v30x20, v31x21, v32x22, v33x23, v33x23, v35x24, v36x25, v37x26, v38x27, v39x28, v40x29, v41x31, v42x32, s43, s44, s45] H30⟩⟩⟩⟩⟩⟩⟩⟩⟩⟩⟩⟩⟩⟩⟩⟩⟩⟩⟩⟩⟩⟩⟩⟩⟩⟩⟩⟩⟩⟩⟩
  ⟨@bnd (aLen Tryz.prog H 35 s0) ⟨fun v44x34 => @bnd (aBin2 Tryz.prog H .leq 3 (.tmp 44) (.const (.int .i64 6)) v44x34 (.int .i64 6)) ⟨fun v45x35 => k v45x35 H⟩⟩⟩⟩⟩) := by kernel_rfl
-- tocsin/tocsinref10.window
def L150x0 (n : Nat) (k : Value → AHeap → Prop) (sl : List Value) (H : AHeap) : Prop := kit Tryz.prog (cl (cl (cr (cl (cr (cr (cb Tryz.f150))))))) n (kblk 0 (kseq Tryz.prog (cr (cr (cr (cb Tryz.f150)))) (kfin Tryz.prog Tryz.f150
  k))) .normal sl H
theorem d150 (a0 : Value) (H : AHeap) (k : Value → AHeap → Prop) : kbody Tryz.prog Tryz.f150 [a0] H k = (∃ n, L150x0 n  k [a0, undef, (.int .i64 0), (.int .i64 0), (.int .i64 0), undef, undef, undef, undef, undef, undef, undef,
  undef, undef, undef, undef, undef, undef, undef, undef, undef, undef, undef, undef, undef, undef, undef, undef, undef, undef, undef, undef, undef, undef, undef, undef] H) := by kernel_rfl
theorem L150x0q (n0 : Nat) (s0 s1 s2 s3 s4 s5 s6 s7 s8 s9 s10 s11 s12 s13 s14 s15 s16 s17 s18 s19 s20 s21 s22 s23 s24 s25 s26 s27 s28 s29 s30 s31 s32 s33 s34 s35 : Value) (H : AHeap) (k : Value → AHeap → Prop) : L150x0 (n0 + 1) k
  [s0, s1, s2, s3, s4, s5, s6, s7, s8, s9, s10, s11, s12, s13, s14, s15, s16, s17, s18, s19, s20, s21, s22, s23, s24, s25, s26, s27, s28, s29, s30, s31, s32, s33, s34, s35] H = (@bnd (aLen Tryz.prog H 9 s0) ⟨fun v7x1 => @bnd
  (aBin2 Tryz.prog H .lss 3 (.tmp 5) (.tmp 7) s4 v7x1) ⟨fun v8x2 => @kifB v8x2 ⟨@bnd (aIndex Tryz.prog 9 s0 s4) ⟨fun v13x3 => @bnd (aBin2 Tryz.prog H .lss 5 (.tmp 13) (.const (.int .u8 48)) v13x3 (.int .u8 48)) ⟨fun v14x4 => @bnd
  (gif v14x4 false ((some s0)) undef) ⟨fun v16x5 => @bnd (gif v14x4 false ((some s4)) undef) ⟨fun v17x6 => @bnd (gif v14x4 false (aIndex Tryz.prog 9 v16x5 v17x6) undef) ⟨fun v18x7 => @bnd (gif v14x4 false (aBin2 Tryz.prog H .gtr
  5 (.tmp 18) (.const (.int .u8 57)) v18x7 (.int .u8 57)) undef) ⟨fun v19x8 => @bnd (pickV v14x4 (.bool true) v19x8) ⟨fun v20x9 => @bnd (gif v20x9 false ((some s3)) undef) ⟨fun v22x10 => @bnd (gif v20x9 false (aBin2 Tryz.prog H
  .gtr 3 (.tmp 22) (.const (.int .i64 1000)) v22x10 (.int .i64 1000)) undef) ⟨fun v23x11 => @bnd (pickV v20x9 (.bool true) v23x11) ⟨fun v24x12 => @kifB v24x12 ⟨k (.int .i64 0) H⟩ ⟨@bnd (aBin2 Tryz.prog H .mul 3 (.const (.int .i64
  10)) (.tmp 25) (.int .i64 10) s3) ⟨fun v26x13 => @bnd (aIndex Tryz.prog 9 s0 s4) ⟨fun v29x14 => @bnd (aBin2 Tryz.prog H .sub 5 (.tmp 29) (.const (.int .u8 48)) v29x14 (.int .u8 48)) ⟨fun v30x15 => @bnd (convV Tryz.prog H 5 3
  v30x15) ⟨fun v31x16 => @bnd (aBin2 Tryz.prog H .add 3 (.tmp 26) (.tmp 31) v26x13 v31x16) ⟨fun v32x17 => @bnd (aBin2 Tryz.prog H .add 3 (.tmp 9) (.const (.int .i64 1)) s4 (.int .i64 1)) ⟨fun v10x18 => L150x0 n0  k [s0, s1, s2,
  v32x17, v10x18, s4, s0, v7x1, v8x2, s4, v10x18, s0, s4, v13x3, v14x4, v14x4, v16x5, v17x6, v18x7, v19x8, v20x9, v20x9, v22x10, v23x11, v24x12, s3, v26x13, s0, s4, v29x14, v30x15, v31x16, v32x17, s33, s34, s35]
  H⟩⟩⟩⟩⟩⟩⟩⟩⟩⟩⟩⟩⟩⟩⟩⟩⟩⟩ ⟨@bnd (aBin2 Tryz.prog H .gtr 3 (.tmp 33) (.const (.int .i64 1000)) s3 (.int .i64 1000)) ⟨fun v34x19 => @kifB v34x19 ⟨k (.int .i64 0) H⟩ ⟨k s3 H⟩⟩⟩⟩⟩) := by kernel_rfl
-- tocsin/tocsinref01.Parse
def S151x0 (k : Value → AHeap → Prop) (sl : List Value) (H : AHeap) : Prop := kseq Tryz.prog (cr (cr (cr (cr (cb Tryz.f151))))) (kfin Tryz.prog Tryz.f151 k) .normal sl H
def L151x0 (n : Nat) (k : Value → AHeap → Prop) (sl : List Value) (H : AHeap) : Prop := kit Tryz.prog (cl (cl (cl (cr (cr (cr (cr (cr (cr (cb Tryz.f151)))))))))) n (kblk 0 (kseq Tryz.prog (cr (cr (cr (cr (cr (cr (cr (cb
  Tryz.f151)))))))) (kfin Tryz.prog Tryz.f151 k))) .normal sl H
def L151x1 (n : Nat) (k : Value → AHeap → Prop) (sl : List Value) (H : AHeap) : Prop := kit Tryz.prog (cl (cl (cl (cr (cl (cr (cl (cr (cr (cr (cr (cr (cr (cr (cr (cb Tryz.f151)))))))))))))))) n (kblk 2 (kseq Tryz.prog (cr (cr (cl
  (cr (cl (cr (cr (cr (cr (cr (cr (cr (cr (cb Tryz.f151)))))))))))))) (kseq Tryz.prog (cr (cr (cr (cr (cr (cr (cr (cr (cr (cb Tryz.f151)))))))))) (kfin Tryz.prog Tryz.f151 k)))) .normal sl H
def S151x1 (k : Value → AHeap → Prop) (sl : List Value) (H : AHeap) : Prop := kseq Tryz.prog (cr (cr (cr (cr (cr (cr (cr (cr (cr (cb Tryz.f151)))))))))) (kfin Tryz.prog Tryz.f151 k) .normal sl H
def L151x2 (n : Nat) (k : Value → AHeap → Prop) (sl : List Value) (H : AHeap) : Prop := kit Tryz.prog (cl (cl (cl (cr (cr (cr (cr (cr (cr (cr (cr (cr (cr (cb Tryz.f151)))))))))))))) n (kblk 4 (kseq Tryz.prog (cr (cr (cr (cr (cr
  (cr (cr (cr (cr (cr (cr (cb Tryz.f151)))))))))))) (kfin Tryz.prog Tryz.f151 k))) .normal sl H
theorem d151 (a0 : Value) (H : AHeap) (k : Value → AHeap → Prop) : kbody Tryz.prog Tryz.f151 [a0] H k = (@bnd (aLen Tryz.prog H 9 a0) ⟨fun v10x1 => @bnd (aBin2 Tryz.prog H .gtr 3 (.tmp 10) (.const (.int .i64 0)) v10x1 (.int .i64
  0)) ⟨fun v11x2 => @bnd (gif v11x2 true ((some a0)) undef) ⟨fun v13x3 => @bnd (gif v11x2 true (aIndex Tryz.prog 9 v13x3 (.int .i64 0)) undef) ⟨fun v14x4 => @bnd (gif v11x2 true (aBin2 Tryz.prog H .eql 5 (.tmp 14) (.const (.int
  .u8 45)) v14x4 (.int .u8 45)) undef) ⟨fun v15x5 => @bnd (pickV v11x2 v15x5 (.bool false)) ⟨fun v16x6 => @kifB v16x6 ⟨S151x0  k [a0, undef, (.int .i64 0), (.int .i64 0), (.int .i64 1), v16x6, undef, undef, undef, a0, v10x1,
  v11x2, v11x2, v13x3, v14x4, v15x5, v16x6, v16x6, undef, undef, undef, undef, undef, undef, undef, undef, undef, undef, undef, undef, undef, undef, undef, undef, undef, undef, undef, undef, undef, undef, undef, undef, undef,
  undef, undef, undef, undef, undef, undef, undef, undef, undef, undef, undef, undef, undef, undef, undef, undef, undef, undef, undef, undef, undef, undef, undef, undef, undef, undef, undef, undef, undef, undef, undef, undef,
  undef, undef, undef, undef, undef, undef, undef, undef, undef, undef, undef, undef, undef, undef, undef, undef, undef] H⟩ ⟨S151x0  k [a0, undef, (.int .i64 0), (.int .i64 0), (.int .i64 0), v16x6, undef, undef, undef, a0,
  v10x1, v11x2, v11x2, v13x3, v14x4, v15x5, v16x6, v16x6, undef, undef, undef, undef, undef, undef, undef, undef, undef, undef, undef, undef, undef, undef, undef, undef, undef, undef, undef, undef, undef, undef, undef, undef,
  undef, undef, undef, undef, undef, undef, undef, undef, undef, undef, undef, undef, undef, undef, undef, undef, undef, undef, undef, undef, undef, undef, undef, undef, undef, undef, undef, undef, undef, undef, undef, undef,
  undef, undef, undef, undef, undef, undef, undef, undef, undef, undef, undef, undef, undef, undef, undef, undef, undef, undef] H⟩⟩⟩⟩⟩⟩⟩) := by kernel_rfl
theorem S151x0q (s0 s1 s2 s3 s4 s5 s6 s7 s8 s9 s10 s11 s12 s13 s14 s15 s16 s17 s18 s19 s20 s21 s22 s23 s24 s25 s26 s27 s28 s29 s30 s31 s32 s33 s34 s35 s36 s37 s38 s39 s40 s41 s42 s43 s44 s45 s46 s47 s48 s49 s50 s51 s52 s53 s54
  s55 s56 s57 s58 s59 s60 s61 s62 s63 s64 s65 s66 s67 s68 s69 s70 s71 s72 s73 s74 s75 s76 s77 s78 s79 s80 s81 s82 s83 s84 s85 s86 s87 s88 s89 s90 s91 : Value) (H : AHeap) (k : Value → AHeap → Prop) : S151x0 k [s0, s1, s2, s3, s4,
  s5, s6, s7, s8, s9, s10, s11, s12, s13, s14, s15, s16, s17, s18, s19, s20, s21, s22, s23, s24, s25, s26, s27, s28, s29, s30, s31, s32, s33, s34, s35, s36, s37, s38, s39, s40, s41, s42, s43, s44, s45, s46, s47, s48, s49, s50,
  s51, s52, s53, s54, s55, s56, s57, s58, s59, s60, s61, s62, s63, s64, s65, s66, s67, s68, s69, s70, s71, s72, s73, s74, s75, s76, s77, s78, s79, s80, s81, s82, s83, s84, s85, s86, s87, s88, s89, s90, s91] H = (∃ n, L151x0 n  k
  [s0, s1, s2, s3, s4, s5, (.int .i64 0), (.int .i64 0), s8, s9, s10, s11, s12, s13, s14, s15, s16, s17, s18, s19, s20, s21, s22, s23, s24, s25, s26, s27, s28, s29, s30, s31, s32, s33, s34, s35, s36, s37, s38, s39, s40, s41, s42,
  s43, s44, s45, s46, s47, s48, s49, s50, s51, s52, s53, s54, s55, s56, s57, s58, s59, s60, s61, s62, s63, s64, s65, s66, s67, s68, s69, s70, s71, s72, s73, s74, s75, s76, s77, s78, s79, s80, s81, s82, s83, s84, s85, s86, s87,
  s88, s89, s90, s91] H) := by kernel_rfl
theorem L151x0q (n0 : Nat) (s0 s1 s2 s3 s4 s5 s6 s7 s8 s9 s10 s11 s12 s13 s14 s15 s16 s17 s18 s19 s20 s21 s22 s23 s24 s25 s26 s27 s28 s29 s30 s31 s32 s33 s34 s35 s36 s37 s38 s39 s40 s41 s42 s43 s44 s45 s46 s47 s48 s49 s50 s51 s52
  s53 s54 s55 s56 s57 s58 s59 s60 s61 s62 s63 s64 s65 s66 s67 s68 s69 s70 s71 s72 s73 s74 s75 s76 s77 s78 s79 s80 s81 s82 s83 s84 s85 s86 s87 s88 s89 s90 s91 : Value) (H : AHeap) (k : Value → AHeap → Prop) : L151x0 (n0 + 1) k
  [s0, s1, s2, s3, s4, s5, s6, s7, s8, s9, s10, s11, s12, s13, s14, s15, s16, s17, s18, s19, s20, s21, s22, s23, s24, s25, s26, s27, s28, s29, s30, s31, s32, s33, s34, s35, s36, s37, s38, s39, s40, s41, s42, s43, s44, s45, s46,
  s47, s48, s49, s50, s51, s52, s53, s54, s55, s56, s57, s58, s59, s60, s61, s62, s63, s64, s65, s66, s67, s68, s69, s70, s71, s72, s73, s74, s75, s76, s77, s78, s79, s80, s81, s82, s83, s84, s85, s86, s87, s88, s89, s90, s91] H
  = (@bnd (aLen Tryz.prog H 9 s0) ⟨fun v20x7 => @bnd (aBin2 Tryz.prog H .lss 3 (.tmp 18) (.tmp 20) s4 v20x7) ⟨fun v21x8 => @bnd (gif v21x8 true ((some s0)) undef) ⟨fun v23x9 => @bnd (gif v21x8 true ((some s4)) undef) ⟨fun v24x10
  => @bnd (gif v21x8 true (aIndex Tryz.prog 9 v23x9 v24x10) undef) ⟨fun v25x11 => @bndG v21x8 true H ⟨fun v26x12 H13 => ACalls Tryz.prog 172 [v25x11] H v26x12 H13⟩ ⟨fun v26x12 H13 => @bnd (pickV v21x8 v26x12 (.bool false)) ⟨fun
  v27x14 => @kifB v27x14 ⟨@bnd (aIndex Tryz.prog 9 s0 s4) ⟨fun v31x15 => @bndC Tryz.prog 173 [s6, v31x15] H13 ⟨fun v32x16 H17 => @bnd (aBin2 Tryz.prog H17 .add 3 (.tmp 33) (.const (.int .i64 1)) s7 (.int .i64 1)) ⟨fun v34x18 =>
  @bnd (aBin2 Tryz.prog H17 .add 3 (.tmp 35) (.const (.int .i64 1)) s4 (.int .i64 1)) ⟨fun v36x19 => L151x0 n0  k [s0, s1, s2, s3, v36x19, s5, v32x16, v34x18, s8, s9, s10, s11, s12, s13, s14, s15, s16, s17, s4, s0, v20x7, v21x8,
  v21x8, v23x9, v24x10, v25x11, v26x12, v27x14, s6, s0, s4, v31x15, v32x16, s7, v34x18, s4, v36x19, s37, s38, s39, s40, s41, s42, s43, s44, s45, s46, s47, s48, s49, s50, s51, s52, s53, s54, s55, s56, s57, s58, s59, s60, s61, s62,
  s63, s64, s65, s66, s67, s68, s69, s70, s71, s72, s73, s74, s75, s76, s77, s78, s79, s80, s81, s82, s83, s84, s85, s86, s87, s88, s89, s90, s91] H17⟩⟩⟩⟩⟩ ⟨@bnd (aLen Tryz.prog H13 9 s0) ⟨fun v39x20 => @bnd (aBin2 Tryz.prog H13
  .lss 3 (.tmp 37) (.tmp 39) s4 v39x20) ⟨fun v40x21 => @bnd (gif v40x21 true ((some s0)) undef) ⟨fun v42x22 => @bnd (gif v40x21 true ((some s4)) undef) ⟨fun v43x23 => @bnd (gif v40x21 true (aIndex Tryz.prog 9 v42x22 v43x23)
  undef) ⟨fun v44x24 => @bnd (gif v40x21 true (aBin2 Tryz.prog H13 .eql 5 (.tmp 44) (.const (.int .u8 46)) v44x24 (.int .u8 46)) undef) ⟨fun v45x25 => @bnd (pickV v40x21 v45x25 (.bool false)) ⟨fun v46x26 => @kifB v46x26 ⟨@bnd
  (aBin2 Tryz.prog H13 .add 3 (.tmp 47) (.const (.int .i64 1)) s4 (.int .i64 1)) ⟨fun v48x27 => ∃ n, L151x1 n  k [s0, s1, s2, s3, v48x27, s5, s6, s7, (.int .i64 0), s9, s10, s11, s12, s13, s14, s15, s16, s17, s4, s0, v20x7,
  v21x8, v21x8, v23x9, v24x10, v25x11, v26x12, v27x14, s28, s29, s30, s31, s32, s33, s34, s35, s36, s4, s0, v39x20, v40x21, v40x21, v42x22, v43x23, v44x24, v45x25, v46x26, s4, v48x27, s49, s50, s51, s52, s53, s54, s55, s56, s57,
  s58, s59, s60, s61, s62, s63, s64, s65, s66, s67, s68, s69, s70, s71, s72, s73, s74, s75, s76, s77, s78, s79, s80, s81, s82, s83, s84, s85, s86, s87, s88, s89, s90, s91] H13⟩⟩ ⟨S151x1  k [s0, s1, s2, s3, s4, s5, s6, s7, (.int
  .i64 0), s9, s10, s11, s12, s13, s14, s15, s16, s17, s4, s0, v20x7, v21x8, v21x8, v23x9, v24x10, v25x11, v26x12, v27x14, s28, s29, s30, s31, s32, s33, s34, s35, s36, s4, s0, v39x20, v40x21, v40x21, v42x22, v43x23, v44x24,
  v45x25, v46x26, s47, s48, s49, s50, s51, s52, s53, s54, s55, s56, s57, s58, s59, s60, s61, s62, s63, s64, s65, s66, s67, s68, s69, s70, s71, s72, s73, s74, s75, s76, s77, s78, s79, s80, s81, s82, s83, s84, s85, s86, s87, s88,
  s89, s90, s91] H13⟩⟩⟩⟩⟩⟩⟩⟩⟩⟩⟩⟩⟩⟩⟩⟩) := by kernel_rfl
theorem L151x1q (n1 : Nat) (s0 s1 s2 s3 s4 s5 s6 s7 s8 s9 s10 s11 s12 s13 s14 s15 s16 s17 s18 s19 s20 s21 s22 s23 s24 s25 s26 s27 s28 s29 s30 s31 s32 s33 s34 s35 s36 s37 s38 s39 s40 s41 s42 s43 s44 s45 s46 s47 s48 s49 s50 s51 s52
  s53 s54 s55 s56 s57 s58 s59 s60 s61 s62 s63 s64 s65 s66 s67 s68 s69 s70 s71 s72 s73 s74 s75 s76 s77 s78 s79 s80 s81 s82 s83 s84 s85 s86 s87 s88 s89 s90 s91 : Value) (H : AHeap) (k : Value → AHeap → Prop) : L151x1 (n1 + 1) k
  [s0, s1, s2, s3, s4, s5, s6, s7, s8, s9, s10, s11, s12, s13, s14, s15, s16, s17, s18, s19, s20, s21, s22, s23, s24, s25, s26, s27, s28, s29, s30, s31, s32, s33, s34, s35, s36, s37, s38, s39, s40, s41, s42, s43, s44, s45, s46,
  s47, s48, s49, s50, s51, s52, s53, s54, s55, s56, s57, s58, s59, s60, s61, s62, s63, s64, s65, s66, s67, s68, s69, s70, s71, s72, s73, s74, s75, s76, s77, s78, s79, s80, s81, s82, s83, s84, s85, s86, s87, s88, s89, s90, s91] H
  = (@bnd (aLen Tryz.prog H 9 s0) ⟨fun v51x28 => @bnd (aBin2 Tryz.prog H .lss 3 (.tmp 49) (.tmp 51) s4 v51x28) ⟨fun v52x29 => @bnd (gif v52x29 true ((some s0)) undef) ⟨fun v54x30 => @bnd (gif v52x29 true ((some s4)) undef) ⟨fun
  v55x31 => @bnd (gif v52x29 true (aIndex Tryz.prog 9 v54x30 v55x31) undef) ⟨fun v56x32 => @bndG v52x29 true H ⟨fun v57x33 H34 => ACalls Tryz.prog 172 [v56x32] H v57x33 H34⟩ ⟨fun v57x33 H34 => @bnd (pickV v52x29 v57x33 (.bool
  false)) ⟨fun v58x35 => @kifB v58x35 ⟨@bnd (aIndex Tryz.prog 9 s0 s4) ⟨fun v62x36 => @bndC Tryz.prog 173 [s6, v62x36] H34 ⟨fun v63x37 H38 => @bnd (aBin2 Tryz.prog H38 .add 3 (.tmp 64) (.const (.int .i64 1)) s8 (.int .i64 1))
  ⟨fun v65x39 => @bnd (aBin2 Tryz.prog H38 .add 3 (.tmp 66) (.const (.int .i64 1)) s4 (.int .i64 1)) ⟨fun v67x40 => L151x1 n1  k [s0, s1, s2, s3, v67x40, s5, v63x37, s7, v65x39, s9, s10, s11, s12, s13, s14, s15, s16, s17, s18,
  s19, s20, s21, s22, s23, s24, s25, s26, s27, s28, s29, s30, s31, s32, s33, s34, s35, s36, s37, s38, s39, s40, s41, s42, s43, s44, s45, s46, s47, s48, s4, s0, v51x28, v52x29, v52x29, v54x30, v55x31, v56x32, v57x33, v58x35, s6,
  s0, s4, v62x36, v63x37, s8, v65x39, s4, v67x40, s68, s69, s70, s71, s72, s73, s74, s75, s76, s77, s78, s79, s80, s81, s82, s83, s84, s85, s86, s87, s88, s89, s90, s91] H38⟩⟩⟩⟩⟩ ⟨@bnd (aBin2 Tryz.prog H34 .eql 3 (.tmp 68)
  (.const (.int .i64 0)) s8 (.int .i64 0)) ⟨fun v69x41 => @kifB v69x41 ⟨k (.tuple #[(.int .i64 0), (.int .i64 10)]) H34⟩ ⟨S151x1  k [s0, s1, s2, s3, s4, s5, s6, s7, s8, s9, s10, s11, s12, s13, s14, s15, s16, s17, s18, s19, s20,
  s21, s22, s23, s24, s25, s26, s27, s28, s29, s30, s31, s32, s33, s34, s35, s36, s37, s38, s39, s40, s41, s42, s43, s44, s45, s46, s47, s48, s4, s0, v51x28, v52x29, v52x29, v54x30, v55x31, v56x32, v57x33, v58x35, s59, s60, s61,
  s62, s63, s64, s65, s66, s67, s8, v69x41, s70, s71, s72, s73, s74, s75, s76, s77, s78, s79, s80, s81, s82, s83, s84, s85, s86, s87, s88, s89, s90, s91] H34⟩⟩⟩⟩⟩⟩⟩⟩⟩⟩) := by kernel_rfl
theorem S151x1q (s0 s1 s2 s3 s4 s5 s6 s7 s8 s9 s10 s11 s12 s13 s14 s15 s16 s17 s18 s19 s20 s21 s22 s23 s24 s25 s26 s27 s28 s29 s30 s31 s32 s33 s34 s35 s36 s37 s38 s39 s40 s41 s42 s43 s44 s45 s46 s47 s48 s49 s50 s51 s52 s53 s54
  s55 s56 s57 s58 s59 s60 s61 s62 s63 s64 s65 s66 s67 s68 s69 s70 s71 s72 s73 s74 s75 s76 s77 s78 s79 s80 s81 s82 s83 s84 s85 s86 s87 s88 s89 s90 s91 : Value) (H : AHeap) (k : Value → AHeap → Prop) : S151x1 k [s0, s1, s2, s3, s4,
  s5, s6, s7, s8, s9, s10, s11, s12, s13, s14, s15, s16, s17, s18, s19, s20, s21, s22, s23, s24, s25, s26, s27, s28, s29, s30, s31, s32, s33, s34, s35, s36, s37, s38, s39, s40, s41, s42, s43, s44, s45, s46, s47, s48, s49, s50,
  s51, s52, s53, s54, s55, s56, s57, s58, s59, s60, s61, s62, s63, s64, s65, s66, s67, s68, s69, s70, s71, s72, s73, s74, s75, s76, s77, s78, s79, s80, s81, s82, s83, s84, s85, s86, s87, s88, s89, s90, s91] H = (@bnd (aBin2
  Tryz.prog H .eql 3 (.tmp 70) (.const (.int .i64 0)) s7 (.int .i64 0)) ⟨fun v71x42 => @bnd (gif v71x42 false ((some s8)) undef) ⟨fun v73x43 => @bnd (gif v71x42 false (aBin2 Tryz.prog H .gtr 3 (.tmp 73) (.const (.int .i64 3))
  v73x43 (.int .i64 3)) undef) ⟨fun v74x44 => @bnd (pickV v71x42 (.bool true) v74x44) ⟨fun v75x45 => @bnd (gif v75x45 false ((some s4)) undef) ⟨fun v77x46 => @bnd (gif v75x45 false ((some s0)) undef) ⟨fun v78x47 => @bnd (gif
  v75x45 false (aLen Tryz.prog H 9 v78x47) undef) ⟨fun v79x48 => @bnd (gif v75x45 false (aBin2 Tryz.prog H .neq 3 (.tmp 77) (.tmp 79) v77x46 v79x48) undef) ⟨fun v80x49 => @bnd (pickV v75x45 (.bool true) v80x49) ⟨fun v81x50 =>
  @kifB v81x50 ⟨k (.tuple #[(.int .i64 0), (.int .i64 10)]) H⟩ ⟨∃ n, L151x2 n  k [s0, s1, s2, s3, s4, s5, s6, s7, s8, s9, s10, s11, s12, s13, s14, s15, s16, s17, s18, s19, s20, s21, s22, s23, s24, s25, s26, s27, s28, s29, s30,
  s31, s32, s33, s34, s35, s36, s37, s38, s39, s40, s41, s42, s43, s44, s45, s46, s47, s48, s49, s50, s51, s52, s53, s54, s55, s56, s57, s58, s59, s60, s61, s62, s63, s64, s65, s66, s67, s68, s69, s7, v71x42, v71x42, v73x43,
  v74x44, v75x45, v75x45, v77x46, v78x47, v79x48, v80x49, v81x50, s82, s83, s84, s85, s86, s87, s88, s89, s90, s91] H⟩⟩⟩⟩⟩⟩⟩⟩⟩⟩) := by kernel_rfl
theorem L151x2q (n2 : Nat) (s0 s1 s2 s3 s4 s5 s6 s7 s8 s9 s10 s11 s12 s13 s14 s15 s16 s17 s18 s19 s20 s21 s22 s23 s24 s25 s26 s27 s28 s29 s30 s31 s32 s33 s34 s35 s36 s37 s38 s39 s40 s41 s42 s43 s44 s45 s46 s47 s48 s49 s50 s51 s52
  s53 s54 s55 s56 s57 s58 s59 s60 s61 s62 s63 s64 s65 s66 s67 s68 s69 s70 s71 s72 s73 s74 s75 s76 s77 s78 s79 s80 s81 s82 s83 s84 s85 s86 s87 s88 s89 s90 s91 : Value) (H : AHeap) (k : Value → AHeap → Prop) : L151x2 (n2 + 1) k
  [s0, s1, s2, s3, s4, s5, s6, s7, s8, s9, s10, s11, s12, s13, s14, s15, s16, s17, s18, s19, s20, s21, s22, s23, s24, s25, s26, s27, s28, s29, s30, s31, s32, s33, s34, s35, s36, s37, s38, s39, s40, s41, s42, s43, s44, s45, s46,
  s47, s48, s49, s50, s51, s52, s53, s54, s55, s56, s57, s58, s59, s60, s61, s62, s63, s64, s65, s66, s67, s68, s69, s70, s71, s72, s73, s74, s75, s76, s77, s78, s79, s80, s81, s82, s83, s84, s85, s86, s87, s88, s89, s90, s91] H
  = (@bnd (aBin2 Tryz.prog H .lss 3 (.tmp 82) (.const (.int .i64 3)) s8 (.int .i64 3)) ⟨fun v83x51 => @kifB v83x51 ⟨@bndC Tryz.prog 173 [s6, (.int .u8 48)] H ⟨fun v85x52 H53 => @bnd (aBin2 Tryz.prog H53 .add 3 (.tmp 86) (.const
  (.int .i64 1)) s8 (.int .i64 1)) ⟨fun v87x54 => L151x2 n2  k [s0, s1, s2, s3, s4, s5, v85x52, s7, v87x54, s9, s10, s11, s12, s13, s14, s15, s16, s17, s18, s19, s20, s21, s22, s23, s24, s25, s26, s27, s28, s29, s30, s31, s32,
  s33, s34, s35, s36, s37, s38, s39, s40, s41, s42, s43, s44, s45, s46, s47, s48, s49, s50, s51, s52, s53, s54, s55, s56, s57, s58, s59, s60, s61, s62, s63, s64, s65, s66, s67, s68, s69, s70, s71, s72, s73, s74, s75, s76, s77,
  s78, s79, s80, s81, s8, v83x51, s6, v85x52, s8, v87x54, s88, s89, s90, s91] H53⟩⟩⟩ ⟨@kifB s5 ⟨@bnd (unV Tryz.prog .neg s6) ⟨fun v90x55 => k (.tuple #[v90x55, (.int .i64 0)]) H⟩⟩ ⟨k (.tuple #[s6, (.int .i64 0)]) H⟩⟩⟩) := by
  kernel_rfl
-- internal/strconv.Atoi
def S153x0 (k : Value → AHeap → Prop) (sl : List Value) (H : AHeap) : Prop := kseq Tryz.prog (cr (cr (cl (cr (cl (cr (cr (cb Tryz.f153)))))))) (kseq Tryz.prog (cr (cr (cr (cb Tryz.f153)))) (kfin Tryz.prog Tryz.f153 k)) .normal sl
  H
def L153x0 (n : Nat) (k : Value → AHeap → Prop) (sl : List Value) (H : AHeap) : Prop := kit Tryz.prog (cl (cl (cr (cl (cr (cr (cr (cl (cr (cl (cr (cr (cb Tryz.f153))))))))))))) n (kblk 0 (kseq Tryz.prog (cr (cr (cr (cr (cl (cr
  (cl (cr (cr (cb Tryz.f153)))))))))) (kseq Tryz.prog (cr (cr (cr (cb Tryz.f153)))) (kfin Tryz.prog Tryz.f153 k)))) .normal sl H
def S153x1 (k : Value → AHeap → Prop) (sl : List Value) (H : AHeap) : Prop := kseq Tryz.prog (cr (cr (cr (cr (cr (cl (cr (cl (cr (cr (cb Tryz.f153))))))))))) (kseq Tryz.prog (cr (cr (cr (cb Tryz.f153)))) (kfin Tryz.prog Tryz.f153
  k)) .normal sl H
theorem d153 (a0 : Value) (H : AHeap) (k : Value → AHeap → Prop) : kbody Tryz.prog Tryz.f153 [a0] H k = (@bnd (aLen Tryz.prog H 9 a0) ⟨fun v12x1 => @bnd (gif (.bool false) true ((some v12x1)) undef) ⟨fun v14x2 => @bnd (gif (.bool
  false) true (aBin2 Tryz.prog H .lss 3 (.const (.int .i64 0)) (.tmp 14) (.int .i64 0) v14x2) undef) ⟨fun v15x3 => @bnd (gif (.bool false) true ((some v15x3)) undef) ⟨fun v16x4 => @bnd (gif v16x4 true ((some v12x1)) undef) ⟨fun
  v17x5 => @bnd (gif v16x4 true (aBin2 Tryz.prog H .lss 3 (.tmp 17) (.const (.int .i64 10)) v17x5 (.int .i64 10)) undef) ⟨fun v18x6 => @bnd (gif (.bool false) true (pickV v16x4 v18x6 (.bool false)) undef) ⟨fun v19x7 => @bnd
  (pickV (.bool false) v19x7 (.bool false)) ⟨fun v20x8 => @bnd (gif v20x8 false ((some (.bool true))) undef) ⟨fun v22x9 => @bnd (gif v22x9 true ((some v12x1)) undef) ⟨fun v23x10 => @bnd (gif v22x9 true (aBin2 Tryz.prog H .lss 3
  (.const (.int .i64 0)) (.tmp 23) (.int .i64 0) v23x10) undef) ⟨fun v24x11 => @bnd (gif v22x9 true ((some v24x11)) undef) ⟨fun v25x12 => @bnd (gif v25x12 true ((some v12x1)) undef) ⟨fun v26x13 => @bnd (gif v25x12 true (aBin2
  Tryz.prog H .lss 3 (.tmp 26) (.const (.int .i64 19)) v26x13 (.int .i64 19)) undef) ⟨fun v27x14 => @bnd (gif v22x9 true (pickV v25x12 v27x14 (.bool false)) undef) ⟨fun v28x15 => @bnd (gif v20x8 false (pickV v22x9 v28x15 (.bool
  false)) undef) ⟨fun v29x16 => @bnd (pickV v20x8 (.bool true) v29x16) ⟨fun v30x17 => @kifB v30x17 ⟨@bnd (aIndex Tryz.prog 9 a0 (.int .i64 0)) ⟨fun v33x18 => @bnd (aBin2 Tryz.prog H .eql 5 (.tmp 33) (.const (.int .u8 45)) v33x18
  (.int .u8 45)) ⟨fun v34x19 => @bnd (gif v34x19 false ((some a0)) undef) ⟨fun v36x20 => @bnd (gif v34x19 false (aIndex Tryz.prog 9 v36x20 (.int .i64 0)) undef) ⟨fun v37x21 => @bnd (gif v34x19 false (aBin2 Tryz.prog H .eql 5
  (.tmp 37) (.const (.int .u8 43)) v37x21 (.int .u8 43)) undef) ⟨fun v38x22 => @bnd (pickV v34x19 (.bool true) v38x22) ⟨fun v39x23 => @kifB v39x23 ⟨kx Tryz.prog (cl (cr (cl (cr (cl (cr (cl (cr (cr (cb Tryz.f153)))))))))) [a0,
  undef, (.int .i64 0), .nilIface, v12x1, a0, undef, undef, undef, undef, undef, a0, v12x1, (.bool false), v14x2, v15x3, v16x4, v17x5, v18x6, v19x7, v20x8, v20x8, v22x9, v23x10, v24x11, v25x12, v26x13, v27x14, v28x15, v29x16,
  v30x17, a0, a0, v33x18, v34x19, v34x19, v36x20, v37x21, v38x22, v39x23, undef, undef, undef, undef, undef, undef, undef, undef, undef, undef, undef, undef, undef, undef, undef, undef, undef, undef, undef, undef, undef, undef,
  undef, undef, undef, undef, undef, undef, undef, undef, undef, undef, undef, undef, undef, undef, undef] H (kseq Tryz.prog (cr (cr (cl (cr (cl (cr (cr (cb Tryz.f153)))))))) (kseq Tryz.prog (cr (cr (cr (cb Tryz.f153)))) (kfin
  Tryz.prog Tryz.f153 k)))⟩ ⟨S153x0  k [a0, undef, (.int .i64 0), .nilIface, v12x1, a0, undef, undef, undef, undef, undef, a0, v12x1, (.bool false), v14x2, v15x3, v16x4, v17x5, v18x6, v19x7, v20x8, v20x8, v22x9, v23x10, v24x11,
  v25x12, v26x13, v27x14, v28x15, v29x16, v30x17, a0, a0, v33x18, v34x19, v34x19, v36x20, v37x21, v38x22, v39x23, undef, undef, undef, undef, undef, undef, undef, undef, undef, undef, undef, undef, undef, undef, undef, undef,
  undef, undef, undef, undef, undef, undef, undef, undef, undef, undef, undef, undef, undef, undef, undef, undef, undef, undef, undef, undef, undef] H⟩⟩⟩⟩⟩⟩⟩⟩ ⟨@bndC Tryz.prog 174 [a0, (.int .i64 10), (.int .i64 0)] H ⟨fun v72x24
  H25 => @bnd (tupV v72x24 0) ⟨fun v73x26 => @bnd (tupV v72x24 1) ⟨fun v74x27 => k (.tuple #[v73x26, v74x27]) H25⟩⟩⟩⟩⟩⟩⟩⟩⟩⟩⟩⟩⟩⟩⟩⟩⟩⟩⟩⟩⟩) := by kernel_rfl
theorem S153x0q (s0 s1 s2 s3 s4 s5 s6 s7 s8 s9 s10 s11 s12 s13 s14 s15 s16 s17 s18 s19 s20 s21 s22 s23 s24 s25 s26 s27 s28 s29 s30 s31 s32 s33 s34 s35 s36 s37 s38 s39 s40 s41 s42 s43 s44 s45 s46 s47 s48 s49 s50 s51 s52 s53 s54
  s55 s56 s57 s58 s59 s60 s61 s62 s63 s64 s65 s66 s67 s68 s69 s70 s71 s72 s73 s74 s75 s76 : Value) (H : AHeap) (k : Value → AHeap → Prop) : S153x0 k [s0, s1, s2, s3, s4, s5, s6, s7, s8, s9, s10, s11, s12, s13, s14, s15, s16, s17,
  s18, s19, s20, s21, s22, s23, s24, s25, s26, s27, s28, s29, s30, s31, s32, s33, s34, s35, s36, s37, s38, s39, s40, s41, s42, s43, s44, s45, s46, s47, s48, s49, s50, s51, s52, s53, s54, s55, s56, s57, s58, s59, s60, s61, s62,
  s63, s64, s65, s66, s67, s68, s69, s70, s71, s72, s73, s74, s75, s76] H = (@bndE (aConv Tryz.prog H 9 55 s0) ⟨fun v47x28 H29 => @bnd (aLen Tryz.prog H29 55 v47x28) ⟨fun v48x30 => ∃ n, L153x0 n  k [s0, s1, s2, s3, s4, s5, (.int
  .i64 0), s7, s8, s9, s10, s11, s12, s13, s14, s15, s16, s17, s18, s19, s20, s21, s22, s23, s24, s25, s26, s27, s28, s29, s30, s31, s32, s33, s34, s35, s36, s37, s38, s39, s40, s41, s42, s43, s44, s45, s0, v47x28, v48x30, (.int
  .i64 0), s50, s51, s52, s53, s54, s55, s56, s57, s58, s59, s60, s61, s62, s63, s64, s65, s66, s67, s68, s69, s70, s71, s72, s73, s74, s75, s76] H29⟩⟩) := by kernel_rfl
theorem L153x0q (n0 : Nat) (s0 s1 s2 s3 s4 s5 s6 s7 s8 s9 s10 s11 s12 s13 s14 s15 s16 s17 s18 s19 s20 s21 s22 s23 s24 s25 s26 s27 s28 s29 s30 s31 s32 s33 s34 s35 s36 s37 s38 s39 s40 s41 s42 s43 s44 s45 s46 s47 s48 s49 s50 s51 s52
  s53 s54 s55 s56 s57 s58 s59 s60 s61 s62 s63 s64 s65 s66 s67 s68 s69 s70 s71 s72 s73 s74 s75 s76 : Value) (H : AHeap) (k : Value → AHeap → Prop) : L153x0 (n0 + 1) k [s0, s1, s2, s3, s4, s5, s6, s7, s8, s9, s10, s11, s12, s13,
  s14, s15, s16, s17, s18, s19, s20, s21, s22, s23, s24, s25, s26, s27, s28, s29, s30, s31, s32, s33, s34, s35, s36, s37, s38, s39, s40, s41, s42, s43, s44, s45, s46, s47, s48, s49, s50, s51, s52, s53, s54, s55, s56, s57, s58,
  s59, s60, s61, s62, s63, s64, s65, s66, s67, s68, s69, s70, s71, s72, s73, s74, s75, s76] H = (@bnd (aBin2 Tryz.prog H .lss 3 (.tmp 49) (.tmp 48) s49 s48) ⟨fun v50x31 => @kifB v50x31 ⟨@bnd (aIndexAddr Tryz.prog H 55 s47 s49)
  ⟨fun v51x32 => @bnd (aLoad Tryz.prog H 5 v51x32) ⟨fun v52x33 => @bnd (aBin2 Tryz.prog H .sub 5 (.tmp 53) (.const (.int .u8 48)) v52x33 (.int .u8 48)) ⟨fun v54x34 => @bnd (aBin2 Tryz.prog H .gtr 5 (.tmp 55) (.const (.int .u8 9))
  v54x34 (.int .u8 9)) ⟨fun v56x35 => @kifB v56x35 ⟨k (.tuple #[(.int .i64 0), (.iface 205 (.int .i64 2))]) H⟩ ⟨@bnd (aBin2 Tryz.prog H .mul 3 (.tmp 58) (.const (.int .i64 10)) s6 (.int .i64 10)) ⟨fun v59x36 => @bnd (convV
  Tryz.prog H 5 3 v54x34) ⟨fun v61x37 => @bnd (aBin2 Tryz.prog H .add 3 (.tmp 59) (.tmp 61) v59x36 v61x37) ⟨fun v62x38 => @bnd (aBin2 Tryz.prog H .add 3 (.tmp 49) (.const (.int .i64 1)) s49 (.int .i64 1)) ⟨fun v63x39 => L153x0 n0
   k [s0, s1, s2, s3, s4, s5, v62x38, s7, v54x34, s9, s10, s11, s12, s13, s14, s15, s16, s17, s18, s19, s20, s21, s22, s23, s24, s25, s26, s27, s28, s29, s30, s31, s32, s33, s34, s35, s36, s37, s38, s39, s40, s41, s42, s43, s44,
  s45, s46, s47, s48, v63x39, v50x31, v51x32, v52x33, v52x33, v54x34, v54x34, v56x35, s57, s6, v59x36, v54x34, v61x37, v62x38, v63x39, s64, s65, s66, s67, s68, s69, s70, s71, s72, s73, s74, s75, s76] H⟩⟩⟩⟩⟩⟩⟩⟩⟩⟩ ⟨@bnd (aIndex
  Tryz.prog 9 s5 (.int .i64 0)) ⟨fun v65x40 => @bnd (aBin2 Tryz.prog H .eql 5 (.tmp 65) (.const (.int .u8 45)) v65x40 (.int .u8 45)) ⟨fun v66x41 => @kifB v66x41 ⟨kx Tryz.prog (cl (cr (cl (cr (cr (cr (cr (cl (cr (cl (cr (cr (cb
  Tryz.f153))))))))))))) [s0, s1, s2, s3, s4, s5, s6, s7, s8, s9, s10, s11, s12, s13, s14, s15, s16, s17, s18, s19, s20, s21, s22, s23, s24, s25, s26, s27, s28, s29, s30, s31, s32, s33, s34, s35, s36, s37, s38, s39, s40, s41,
  s42, s43, s44, s45, s46, s47, s48, s49, v50x31, s51, s52, s53, s54, s55, s56, s57, s58, s59, s60, s61, s62, s63, s5, v65x40, v66x41, s67, s68, s69, s70, s71, s72, s73, s74, s75, s76] H (kseq Tryz.prog (cr (cr (cr (cr (cr (cl
  (cr (cl (cr (cr (cb Tryz.f153))))))))))) (kseq Tryz.prog (cr (cr (cr (cb Tryz.f153)))) (kfin Tryz.prog Tryz.f153 k)))⟩ ⟨S153x1  k [s0, s1, s2, s3, s4, s5, s6, s7, s8, s9, s10, s11, s12, s13, s14, s15, s16, s17, s18, s19, s20,
  s21, s22, s23, s24, s25, s26, s27, s28, s29, s30, s31, s32, s33, s34, s35, s36, s37, s38, s39, s40, s41, s42, s43, s44, s45, s46, s47, s48, s49, v50x31, s51, s52, s53, s54, s55, s56, s57, s58, s59, s60, s61, s62, s63, s5,
  v65x40, v66x41, s67, s68, s69, s70, s71, s72, s73, s74, s75, s76] H⟩⟩⟩⟩⟩) := by kernel_rfl
theorem S153x1q (s0 s1 s2 s3 s4 s5 s6 s7 s8 s9 s10 s11 s12 s13 s14 s15 s16 s17 s18 s19 s20 s21 s22 s23 s24 s25 s26 s27 s28 s29 s30 s31 s32 s33 s34 s35 s36 s37 s38 s39 s40 s41 s42 s43 s44 s45 s46 s47 s48 s49 s50 s51 s52 s53 s54
  s55 s56 s57 s58 s59 s60 s61 s62 s63 s64 s65 s66 s67 s68 s69 s70 s71 s72 s73 s74 s75 s76 : Value) (H : AHeap) (k : Value → AHeap → Prop) : S153x1 k [s0, s1, s2, s3, s4, s5, s6, s7, s8, s9, s10, s11, s12, s13, s14, s15, s16, s17,
  s18, s19, s20, s21, s22, s23, s24, s25, s26, s27, s28, s29, s30, s31, s32, s33, s34, s35, s36, s37, s38, s39, s40, s41, s42, s43, s44, s45, s46, s47, s48, s49, s50, s51, s52, s53, s54, s55, s56, s57, s58, s59, s60, s61, s62,
  s63, s64, s65, s66, s67, s68, s69, s70, s71, s72, s73, s74, s75, s76] H = (k (.tuple #[s6, .nilIface]) H) := by kernel_rfl
-- strconv.toError
theorem d154 (a0 a1 a2 a3 a4 : Value) (H : AHeap) (k : Value → AHeap → Prop) : kbody Tryz.prog Tryz.f154 [a0, a1, a2, a3, a4] H k = (@bnd (aBin2 Tryz.prog H .eql 118 (.tmp 11) (.tmp 13) a4 (.iface 205 (.int .i64 2))) ⟨fun v14x1
  => @kifB v14x1 ⟨@bndC Tryz.prog 175 [a0, a1] H ⟨fun v17x2 H3 => k (.iface 208 v17x2) H3⟩⟩ ⟨@bnd (aBin2 Tryz.prog H .eql 118 (.tmp 11) (.tmp 20) a4 (.iface 205 (.int .i64 1))) ⟨fun v21x4 => @kifB v21x4 ⟨@bndC Tryz.prog 176 [a0,
  a1] H ⟨fun v24x5 H6 => k (.iface 208 v24x5) H6⟩⟩ ⟨kx Tryz.prog (cr (cr (cr (cr (cl (cr (cl (cr (cb Tryz.f154))))))))) [a0, a1, a2, a3, a4, undef, undef, undef, undef, undef, .nilIface, a4, v14x1, (.iface 205 (.int .i64 2)),
  v14x1, undef, undef, undef, undef, v21x4, (.iface 205 (.int .i64 1)), v21x4, undef, undef, undef, undef, undef, undef, undef, undef, undef, undef, undef, undef, undef, undef, undef, undef, undef, undef, undef, undef, undef] H
  (kblk 0 (kseq Tryz.prog (cr (cr (cb Tryz.f154))) (kfin Tryz.prog Tryz.f154 k)))⟩⟩⟩⟩) := by kernel_rfl
-- strings.CutPrefix
theorem d155 (a0 a1 : Value) (H : AHeap) (k : Value → AHeap → Prop) : kbody Tryz.prog Tryz.f155 [a0, a1] H k = (@bndC Tryz.prog 179 [a0, a1] H ⟨fun v8x1 H2 => @bnd (tupV v8x1 0) ⟨fun v9x3 => @bnd (tupV v8x1 1) ⟨fun v10x4 => k
  (.tuple #[v9x3, v10x4]) H2⟩⟩⟩) := by kernel_rfl
-- tocsin/fixed.cut
def L156x0 (n : Nat) (k : Value → AHeap → Prop) (sl : List Value) (H : AHeap) : Prop := kit Tryz.prog (cl (cl (cr (cl (cr (cr (cl (cr (cb Tryz.f156))))))))) n (kblk 0 (kseq Tryz.prog (cr (cr (cr (cl (cr (cb Tryz.f156)))))) (kfin
  Tryz.prog Tryz.f156 k))) .normal sl H
def S156x0 (n0 : Nat) (k : Value → AHeap → Prop) (sl : List Value) (H : AHeap) : Prop := kseq Tryz.prog (cr (cr (cl (cl (cr (cr (cl (cl (cr (cl (cr (cr (cl (cr (cb Tryz.f156))))))))))))))) (kblk 1 (kseq Tryz.prog (cr (cr (cr (cl
  (cl (cr (cl (cr (cr (cl (cr (cb Tryz.f156)))))))))))) (kit Tryz.prog (cl (cl (cr (cl (cr (cr (cl (cr (cb Tryz.f156))))))))) n0 (kblk 0 (kseq Tryz.prog (cr (cr (cr (cl (cr (cb Tryz.f156)))))) (kfin Tryz.prog Tryz.f156 k))))))
  .normal sl H
def S156x1 (k : Value → AHeap → Prop) (sl : List Value) (H : AHeap) : Prop := kseq Tryz.prog (cr (cr (cr (cl (cr (cb Tryz.f156)))))) (kfin Tryz.prog Tryz.f156 k) .normal sl H
def S156x2 (n0 : Nat) (k : Value → AHeap → Prop) (sl : List Value) (H : AHeap) : Prop := kseq Tryz.prog (cr (cr (cr (cl (cl (cr (cl (cr (cr (cl (cr (cb Tryz.f156)))))))))))) (kit Tryz.prog (cl (cl (cr (cl (cr (cr (cl (cr (cb
  Tryz.f156))))))))) n0 (kblk 0 (kseq Tryz.prog (cr (cr (cr (cl (cr (cb Tryz.f156)))))) (kfin Tryz.prog Tryz.f156 k)))) .normal sl H
def B156x0 (n0 : Nat) (k : Value → AHeap → Prop) (sl : List Value) (H : AHeap) : Prop := (kblk 2 (kseq Tryz.prog (cr (cr (cl (cl (cr (cr (cl (cl (cr (cl (cr (cr (cl (cr (cb Tryz.f156))))))))))))))) (kblk 1 (kseq Tryz.prog (cr (cr
  (cr (cl (cl (cr (cl (cr (cr (cl (cr (cb Tryz.f156)))))))))))) (kit Tryz.prog (cl (cl (cr (cl (cr (cr (cl (cr (cb Tryz.f156))))))))) n0 (kblk 0 (kseq Tryz.prog (cr (cr (cr (cl (cr (cb Tryz.f156)))))) (kfin Tryz.prog Tryz.f156
  k)))))))) (.exit 0) sl H
def B156x1 (n0 : Nat) (k : Value → AHeap → Prop) (sl : List Value) (H : AHeap) : Prop := (kseq Tryz.prog (cr (cr (cl (cl (cr (cl (cr (cr (cl (cr (cb Tryz.f156))))))))))) (kit Tryz.prog (cl (cl (cr (cl (cr (cr (cl (cr (cb
  Tryz.f156))))))))) n0 (kblk 0 (kseq Tryz.prog (cr (cr (cr (cl (cr (cb Tryz.f156)))))) (kfin Tryz.prog Tryz.f156 k))))) (.exit 0) sl H
theorem B156x0q (n0 : Nat) (sl : List Value) (H : AHeap) (k : Value → AHeap → Prop) : B156x0 n0 k sl H = S156x1  k sl H := by kernel_rfl
theorem B156x1q (n0 : Nat) (sl : List Value) (H : AHeap) (k : Value → AHeap → Prop) : B156x1 n0 k sl H = S156x1  k sl H := by kernel_rfl
theorem d156 (a0 : Value) (H : AHeap) (k : Value → AHeap → Prop) : kbody Tryz.prog Tryz.f156 [a0] H k = (@bnd (aLen Tryz.prog H 9 a0) ⟨fun v8x1 => ∃ n, L156x0 n  k [a0, undef, (.string { data := #[] }), (.string { data := #[] }),
  (.bool false), (.int .i64 (-1)), undef, a0, v8x1, (.int .i64 0), undef, undef, undef, undef, undef, undef, undef, undef, undef, undef, undef, undef, undef, undef, undef, undef, undef, undef, undef, undef, undef, undef, undef,
  undef, undef, undef, undef, undef, undef, undef, undef, undef, undef, undef, undef, undef, undef, undef, undef, undef, undef, undef, undef, undef, undef, undef, undef, undef, undef, undef, undef, undef, undef, undef, undef,
  undef] H⟩) := by kernel_rfl
theorem L156x0q (n0 : Nat) (s0 s1 s2 s3 s4 s5 s6 s7 s8 s9 s10 s11 s12 s13 s14 s15 s16 s17 s18 s19 s20 s21 s22 s23 s24 s25 s26 s27 s28 s29 s30 s31 s32 s33 s34 s35 s36 s37 s38 s39 s40 s41 s42 s43 s44 s45 s46 s47 s48 s49 s50 s51 s52
  s53 s54 s55 s56 s57 s58 s59 s60 s61 s62 s63 s64 s65 : Value) (H : AHeap) (k : Value → AHeap → Prop) : L156x0 (n0 + 1) k [s0, s1, s2, s3, s4, s5, s6, s7, s8, s9, s10, s11, s12, s13, s14, s15, s16, s17, s18, s19, s20, s21, s22,
  s23, s24, s25, s26, s27, s28, s29, s30, s31, s32, s33, s34, s35, s36, s37, s38, s39, s40, s41, s42, s43, s44, s45, s46, s47, s48, s49, s50, s51, s52, s53, s54, s55, s56, s57, s58, s59, s60, s61, s62, s63, s64, s65] H = (@bnd
  (aBin2 Tryz.prog H .lss 3 (.tmp 9) (.tmp 8) s9 s8) ⟨fun v10x2 => @kifB v10x2 ⟨@bnd (aIndex Tryz.prog 9 s0 s9) ⟨fun v15x3 => @bnd (aBin2 Tryz.prog H .geq 5 (.tmp 15) (.const (.int .u8 48)) v15x3 (.int .u8 48)) ⟨fun v16x4 => @bnd
  (gif v16x4 true ((some s0)) undef) ⟨fun v18x5 => @bnd (gif v16x4 true ((some s9)) undef) ⟨fun v19x6 => @bnd (gif v16x4 true (aIndex Tryz.prog 9 v18x5 v19x6) undef) ⟨fun v20x7 => @bnd (gif v16x4 true (aBin2 Tryz.prog H .leq 5
  (.tmp 20) (.const (.int .u8 57)) v20x7 (.int .u8 57)) undef) ⟨fun v21x8 => @bnd (pickV v16x4 v21x8 (.bool false)) ⟨fun v22x9 => @kifB v22x9 ⟨S156x0 n0 k [s0, s1, s2, s3, s4, s5, s9, s7, s8, s9, v10x2, s9, v22x9, s0, s9, v15x3,
  v16x4, v16x4, v18x5, v19x6, v20x7, v21x8, v22x9, s23, s24, s25, s26, s27, s28, s29, s30, s31, s32, s33, s34, s35, s36, s37, s38, s39, s40, s41, s42, s43, s44, s45, s46, s47, s48, s49, s50, s51, s52, s53, s54, s55, s56, s57,
  s58, s59, s60, s61, s62, s63, s64, s65] H⟩ ⟨@bnd (aIndex Tryz.prog 9 s0 s9) ⟨fun v26x10 => @bnd (aBin2 Tryz.prog H .eql 5 (.tmp 26) (.const (.int .u8 46)) v26x10 (.int .u8 46)) ⟨fun v27x11 => @bnd (gif v27x11 true ((some s5))
  undef) ⟨fun v29x12 => @bnd (gif v27x11 true (aBin2 Tryz.prog H .lss 3 (.tmp 29) (.const (.int .i64 0)) v29x12 (.int .i64 0)) undef) ⟨fun v30x13 => @bnd (pickV v27x11 v30x13 (.bool false)) ⟨fun v31x14 => @kifB v31x14 ⟨S156x0 n0
  k [s0, s1, s2, s3, s4, s9, s9, s7, s8, s9, v10x2, s9, v22x9, s0, s9, v15x3, v16x4, v16x4, v18x5, v19x6, v20x7, v21x8, v22x9, v31x14, s0, s9, v26x10, v27x11, v27x11, v29x12, v30x13, v31x14, s9, s33, s34, s35, s36, s37, s38, s39,
  s40, s41, s42, s43, s44, s45, s46, s47, s48, s49, s50, s51, s52, s53, s54, s55, s56, s57, s58, s59, s60, s61, s62, s63, s64, s65] H⟩ ⟨B156x0 n0 k [s0, s1, s2, s3, s4, s5, s9, s7, s8, s9, v10x2, s9, v22x9, s0, s9, v15x3, v16x4,
  v16x4, v18x5, v19x6, v20x7, v21x8, v22x9, v31x14, s0, s9, v26x10, v27x11, v27x11, v29x12, v30x13, v31x14, s32, s33, s34, s35, s36, s37, s38, s39, s40, s41, s42, s43, s44, s45, s46, s47, s48, s49, s50, s51, s52, s53, s54, s55,
  s56, s57, s58, s59, s60, s61, s62, s63, s64, s65] H⟩⟩⟩⟩⟩⟩⟩⟩⟩⟩⟩⟩⟩⟩⟩ ⟨B156x1 n0 k [s0, s1, s2, s3, s4, s5, s6, s7, s8, s9, v10x2, s11, s12, s13, s14, s15, s16, s17, s18, s19, s20, s21, s22, s23, s24, s25, s26, s27, s28, s29, s30,
  s31, s32, s33, s34, s35, s36, s37, s38, s39, s40, s41, s42, s43, s44, s45, s46, s47, s48, s49, s50, s51, s52, s53, s54, s55, s56, s57, s58, s59, s60, s61, s62, s63, s64, s65] H⟩⟩) := by kernel_rfl
theorem S156x0q (n0 : Nat) (s0 s1 s2 s3 s4 s5 s6 s7 s8 s9 s10 s11 s12 s13 s14 s15 s16 s17 s18 s19 s20 s21 s22 s23 s24 s25 s26 s27 s28 s29 s30 s31 s32 s33 s34 s35 s36 s37 s38 s39 s40 s41 s42 s43 s44 s45 s46 s47 s48 s49 s50 s51 s52
  s53 s54 s55 s56 s57 s58 s59 s60 s61 s62 s63 s64 s65 : Value) (H : AHeap) (k : Value → AHeap → Prop) : S156x0 n0 k [s0, s1, s2, s3, s4, s5, s6, s7, s8, s9, s10, s11, s12, s13, s14, s15, s16, s17, s18, s19, s20, s21, s22, s23,
  s24, s25, s26, s27, s28, s29, s30, s31, s32, s33, s34, s35, s36, s37, s38, s39, s40, s41, s42, s43, s44, s45, s46, s47, s48, s49, s50, s51, s52, s53, s54, s55, s56, s57, s58, s59, s60, s61, s62, s63, s64, s65] H = (@bnd (aLen
  Tryz.prog H 9 s0) ⟨fun v35x15 => @bnd (aBin2 Tryz.prog H .sub 3 (.tmp 35) (.const (.int .i64 1)) v35x15 (.int .i64 1)) ⟨fun v36x16 => @bnd (aBin2 Tryz.prog H .eql 3 (.tmp 33) (.tmp 36) s6 v36x16) ⟨fun v37x17 => @kifB v37x17
  ⟨S156x2 n0 k [s0, s1, s2, s3, (.bool true), s5, s6, s7, s8, s9, s10, s11, s12, s13, s14, s15, s16, s17, s18, s19, s20, s21, s22, s23, s24, s25, s26, s27, s28, s29, s30, s31, s32, s6, s0, v35x15, v36x16, v37x17, s38, s39, s40,
  s41, s42, s43, s44, s45, s46, s47, s48, s49, s50, s51, s52, s53, s54, s55, s56, s57, s58, s59, s60, s61, s62, s63, s64, s65] H⟩ ⟨S156x2 n0 k [s0, s1, s2, s3, s4, s5, s6, s7, s8, s9, s10, s11, s12, s13, s14, s15, s16, s17, s18,
  s19, s20, s21, s22, s23, s24, s25, s26, s27, s28, s29, s30, s31, s32, s6, s0, v35x15, v36x16, v37x17, s38, s39, s40, s41, s42, s43, s44, s45, s46, s47, s48, s49, s50, s51, s52, s53, s54, s55, s56, s57, s58, s59, s60, s61, s62,
  s63, s64, s65] H⟩⟩⟩⟩) := by kernel_rfl
theorem S156x1q (s0 s1 s2 s3 s4 s5 s6 s7 s8 s9 s10 s11 s12 s13 s14 s15 s16 s17 s18 s19 s20 s21 s22 s23 s24 s25 s26 s27 s28 s29 s30 s31 s32 s33 s34 s35 s36 s37 s38 s39 s40 s41 s42 s43 s44 s45 s46 s47 s48 s49 s50 s51 s52 s53 s54
  s55 s56 s57 s58 s59 s60 s61 s62 s63 s64 s65 : Value) (H : AHeap) (k : Value → AHeap → Prop) : S156x1 k [s0, s1, s2, s3, s4, s5, s6, s7, s8, s9, s10, s11, s12, s13, s14, s15, s16, s17, s18, s19, s20, s21, s22, s23, s24, s25,
  s26, s27, s28, s29, s30, s31, s32, s33, s34, s35, s36, s37, s38, s39, s40, s41, s42, s43, s44, s45, s46, s47, s48, s49, s50, s51, s52, s53, s54, s55, s56, s57, s58, s59, s60, s61, s62, s63, s64, s65] H = (@bnd (aBin2 Tryz.prog
  H .lss 3 (.tmp 39) (.const (.int .i64 0)) s5 (.int .i64 0)) ⟨fun v40x18 => @kifB v40x18 ⟨k (.tuple #[s0, (.string { data := #[] }), s4]) H⟩ ⟨@bnd (aSliceOp Tryz.prog H 9 s0 none (some s5)) ⟨fun v45x19 => @bnd (aBin2 Tryz.prog H
  .add 3 (.tmp 47) (.const (.int .i64 1)) s5 (.int .i64 1)) ⟨fun v48x20 => @bnd (aSliceOp Tryz.prog H 9 s0 (some v48x20) none) ⟨fun v49x21 => @bnd (gif s4 true ((some v45x19)) undef) ⟨fun v54x22 => @bnd (gif s4 true (aBin2
  Tryz.prog H .neq 9 (.tmp 54) (.const (.string { data := #[] })) v54x22 (.string { data := #[] })) undef) ⟨fun v55x23 => @bnd (pickV s4 v55x23 (.bool false)) ⟨fun v56x24 => @bnd (gif v56x24 true ((some v49x21)) undef) ⟨fun
  v58x25 => @bnd (gif v56x24 true (aBin2 Tryz.prog H .neq 9 (.tmp 58) (.const (.string { data := #[] })) v58x25 (.string { data := #[] })) undef) ⟨fun v59x26 => @bnd (pickV v56x24 v59x26 (.bool false)) ⟨fun v60x27 => @bnd (gif
  v60x27 true ((some v49x21)) undef) ⟨fun v62x28 => @bnd (gif v60x27 true (aLen Tryz.prog H 9 v62x28) undef) ⟨fun v63x29 => @bnd (gif v60x27 true (aBin2 Tryz.prog H .leq 3 (.tmp 63) (.const (.int .i64 3)) v63x29 (.int .i64 3))
  undef) ⟨fun v64x30 => @bnd (pickV v60x27 v64x30 (.bool false)) ⟨fun v65x31 => k (.tuple #[v45x19, v49x21, v65x31]) H⟩⟩⟩⟩⟩⟩⟩⟩⟩⟩⟩⟩⟩⟩⟩) := by kernel_rfl
theorem S156x2q (n0 : Nat) (s0 s1 s2 s3 s4 s5 s6 s7 s8 s9 s10 s11 s12 s13 s14 s15 s16 s17 s18 s19 s20 s21 s22 s23 s24 s25 s26 s27 s28 s29 s30 s31 s32 s33 s34 s35 s36 s37 s38 s39 s40 s41 s42 s43 s44 s45 s46 s47 s48 s49 s50 s51 s52
  s53 s54 s55 s56 s57 s58 s59 s60 s61 s62 s63 s64 s65 : Value) (H : AHeap) (k : Value → AHeap → Prop) : S156x2 n0 k [s0, s1, s2, s3, s4, s5, s6, s7, s8, s9, s10, s11, s12, s13, s14, s15, s16, s17, s18, s19, s20, s21, s22, s23,
  s24, s25, s26, s27, s28, s29, s30, s31, s32, s33, s34, s35, s36, s37, s38, s39, s40, s41, s42, s43, s44, s45, s46, s47, s48, s49, s50, s51, s52, s53, s54, s55, s56, s57, s58, s59, s60, s61, s62, s63, s64, s65] H = (@bnd (aBin2
  Tryz.prog H .add 3 (.tmp 9) (.const (.int .i64 1)) s9 (.int .i64 1)) ⟨fun v38x32 => L156x0 n0  k [s0, s1, s2, s3, s4, s5, s6, s7, s8, v38x32, s10, s11, s12, s13, s14, s15, s16, s17, s18, s19, s20, s21, s22, s23, s24, s25, s26,
  s27, s28, s29, s30, s31, s32, s33, s34, s35, s36, s37, v38x32, s39, s40, s41, s42, s43, s44, s45, s46, s47, s48, s49, s50, s51, s52, s53, s54, s55, s56, s57, s58, s59, s60, s61, s62, s63, s64, s65] H⟩) := by kernel_rfl
-- strings.Repeat
def S157x0 (k : Value → AHeap → Prop) (sl : List Value) (H : AHeap) : Prop := kseq Tryz.prog (cr (cr (cr (cb Tryz.f157)))) (kfin Tryz.prog Tryz.f157 k) .normal sl H
def S157x1 (k : Value → AHeap → Prop) (sl : List Value) (H : AHeap) : Prop := kseq Tryz.prog (cr (cr (cr (cr (cr (cb Tryz.f157)))))) (kfin Tryz.prog Tryz.f157 k) .normal sl H
def S157x2 (k : Value → AHeap → Prop) (sl : List Value) (H : AHeap) : Prop := kseq Tryz.prog (cr (cl (cr (cl (cr (cr (cr (cr (cr (cr (cr (cb Tryz.f157)))))))))))) (kblk 1 (kseq Tryz.prog (cr (cr (cr (cr (cr (cr (cr (cr (cb
  Tryz.f157))))))))) (kfin Tryz.prog Tryz.f157 k))) .normal sl H
def S157x3 (k : Value → AHeap → Prop) (sl : List Value) (H : AHeap) : Prop := kseq Tryz.prog (cr (cr (cr (cr (cr (cr (cr (cr (cb Tryz.f157))))))))) (kfin Tryz.prog Tryz.f157 k) .normal sl H
theorem d157 (a0 a1 : Value) (H : AHeap) (k : Value → AHeap → Prop) : kbody Tryz.prog Tryz.f157 [a0, a1] H k = (@bnd (aBin2 Tryz.prog H .eql 3 (.tmp 11) (.const (.int .i64 0)) a1 (.int .i64 0)) ⟨fun v13x1 => @kifB v13x1 ⟨k
  (.string { data := #[] }) H⟩ ⟨@bnd (aBin2 Tryz.prog H .eql 3 (.tmp 11) (.const (.int .i64 1)) a1 (.int .i64 1)) ⟨fun v15x2 => @kifB v15x2 ⟨k a0 H⟩ ⟨@bnd (aBin2 Tryz.prog H .lss 3 (.tmp 17) (.const (.int .i64 0)) a1 (.int .i64
  0)) ⟨fun v18x3 => @kifB v18x3 ⟨@bndE (none) ⟨fun _ H5 => S157x0  k [a0, a1, undef, undef, (.string { data := #[] }), undef, undef, undef, undef, undef, undef, a1, v13x1, v13x1, v15x2, v15x2, undef, a1, v18x3, (.iface 9 (.string
  { data := #[115, 116, 114, 105, 110, 103, 115, 58, 32, 110, 101, 103, 97, 116, 105, 118, 101, 32, 82, 101, 112, 101, 97, 116, 32, 99, 111, 117, 110, 116] })), undef, undef, undef, undef, undef, undef, undef, undef, undef,
  undef, undef, undef, undef, undef, undef, undef, undef, undef, undef, undef, undef, undef, undef, undef, undef, undef, undef, undef, undef, undef, undef, undef, undef, undef, undef, undef, undef, undef, undef, undef, undef,
  undef, undef, undef, undef, undef, undef, undef, undef, undef, undef, undef, undef, undef, undef, undef, undef, undef, undef, undef, undef, undef, undef, undef, undef, undef, undef, undef, undef, undef, undef, undef, undef,
  undef, undef, undef, undef, undef, undef, undef, undef, undef, undef, undef, undef, undef, undef, undef, undef, undef, undef, undef, undef, undef, undef, undef, undef, undef, undef, undef, undef, undef, undef, undef, undef]
  H5⟩⟩ ⟨S157x0  k [a0, a1, undef, undef, (.string { data := #[] }), undef, undef, undef, undef, undef, undef, a1, v13x1, v13x1, v15x2, v15x2, undef, a1, v18x3, undef, undef, undef, undef, undef, undef, undef, undef, undef, undef,
  undef, undef, undef, undef, undef, undef, undef, undef, undef, undef, undef, undef, undef, undef, undef, undef, undef, undef, undef, undef, undef, undef, undef, undef, undef, undef, undef, undef, undef, undef, undef, undef,
  undef, undef, undef, undef, undef, undef, undef, undef, undef, undef, undef, undef, undef, undef, undef, undef, undef, undef, undef, undef, undef, undef, undef, undef, undef, undef, undef, undef, undef, undef, undef, undef,
  undef, undef, undef, undef, undef, undef, undef, undef, undef, undef, undef, undef, undef, undef, undef, undef, undef, undef, undef, undef, undef, undef, undef, undef, undef, undef, undef, undef, undef, undef, undef, undef]
  H⟩⟩⟩⟩⟩⟩) := by kernel_rfl
theorem S157x0q (s0 s1 s2 s3 s4 s5 s6 s7 s8 s9 s10 s11 s12 s13 s14 s15 s16 s17 s18 s19 s20 s21 s22 s23 s24 s25 s26 s27 s28 s29 s30 s31 s32 s33 s34 s35 s36 s37 s38 s39 s40 s41 s42 s43 s44 s45 s46 s47 s48 s49 s50 s51 s52 s53 s54
  s55 s56 s57 s58 s59 s60 s61 s62 s63 s64 s65 s66 s67 s68 s69 s70 s71 s72 s73 s74 s75 s76 s77 s78 s79 s80 s81 s82 s83 s84 s85 s86 s87 s88 s89 s90 s91 s92 s93 s94 s95 s96 s97 s98 s99 s100 s101 s102 s103 s104 s105 s106 s107 s108
  s109 s110 s111 s112 s113 s114 s115 s116 s117 s118 s119 s120 s121 s122 s123 s124 : Value) (H : AHeap) (k : Value → AHeap → Prop) : S157x0 k [s0, s1, s2, s3, s4, s5, s6, s7, s8, s9, s10, s11, s12, s13, s14, s15, s16, s17, s18,
  s19, s20, s21, s22, s23, s24, s25, s26, s27, s28, s29, s30, s31, s32, s33, s34, s35, s36, s37, s38, s39, s40, s41, s42, s43, s44, s45, s46, s47, s48, s49, s50, s51, s52, s53, s54, s55, s56, s57, s58, s59, s60, s61, s62, s63,
  s64, s65, s66, s67, s68, s69, s70, s71, s72, s73, s74, s75, s76, s77, s78, s79, s80, s81, s82, s83, s84, s85, s86, s87, s88, s89, s90, s91, s92, s93, s94, s95, s96, s97, s98, s99, s100, s101, s102, s103, s104, s105, s106, s107,
  s108, s109, s110, s111, s112, s113, s114, s115, s116, s117, s118, s119, s120, s121, s122, s123, s124] H = (@bnd (aLen Tryz.prog H 9 s0) ⟨fun v22x6 => @bnd (convV Tryz.prog H 3 132 v22x6) ⟨fun v23x7 => @bnd (convV Tryz.prog H 3
  132 s1) ⟨fun v25x8 => @bndC Tryz.prog 180 [v23x7, v25x8] H ⟨fun v26x9 H10 => @bnd (tupV v26x9 0) ⟨fun v27x11 => @bnd (tupV v26x9 1) ⟨fun v28x12 => @bnd (aBin2 Tryz.prog H10 .gtr 132 (.tmp 29) (.const (.int .u64 0)) v27x11 (.int
  .u64 0)) ⟨fun v30x13 => @bnd (gif v30x13 false ((some v28x12)) undef) ⟨fun v32x14 => @bnd (gif v30x13 false (aBin2 Tryz.prog H10 .gtr 132 (.tmp 32) (.const (.int .u64 9223372036854775807)) v32x14 (.int .u64
  9223372036854775807)) undef) ⟨fun v33x15 => @bnd (pickV v30x13 (.bool true) v33x15) ⟨fun v34x16 => @kifB v34x16 ⟨@bndE (none) ⟨fun _ H18 => S157x1  k [s0, s1, s2, s3, s4, v27x11, v28x12, s7, s8, s9, s10, s11, s12, s13, s14,
  s15, s16, s17, s18, s19, v26x9, s0, v22x6, v23x7, s1, v25x8, v26x9, v27x11, v28x12, v27x11, v30x13, v30x13, v32x14, v33x15, v34x16, (.iface 9 (.string { data := #[115, 116, 114, 105, 110, 103, 115, 58, 32, 82, 101, 112, 101,
  97, 116, 32, 111, 117, 116, 112, 117, 116, 32, 108, 101, 110, 103, 116, 104, 32, 111, 118, 101, 114, 102, 108, 111, 119] })), s36, s37, s38, s39, s40, s41, s42, s43, s44, s45, s46, s47, s48, s49, s50, s51, s52, s53, s54, s55,
  s56, s57, s58, s59, s60, s61, s62, s63, s64, s65, s66, s67, s68, s69, s70, s71, s72, s73, s74, s75, s76, s77, s78, s79, s80, s81, s82, s83, s84, s85, s86, s87, s88, s89, s90, s91, s92, s93, s94, s95, s96, s97, s98, s99, s100,
  s101, s102, s103, s104, s105, s106, s107, s108, s109, s110, s111, s112, s113, s114, s115, s116, s117, s118, s119, s120, s121, s122, s123, s124] H18⟩⟩ ⟨S157x1  k [s0, s1, s2, s3, s4, v27x11, v28x12, s7, s8, s9, s10, s11, s12,
  s13, s14, s15, s16, s17, s18, s19, v26x9, s0, v22x6, v23x7, s1, v25x8, v26x9, v27x11, v28x12, v27x11, v30x13, v30x13, v32x14, v33x15, v34x16, s35, s36, s37, s38, s39, s40, s41, s42, s43, s44, s45, s46, s47, s48, s49, s50, s51,
  s52, s53, s54, s55, s56, s57, s58, s59, s60, s61, s62, s63, s64, s65, s66, s67, s68, s69, s70, s71, s72, s73, s74, s75, s76, s77, s78, s79, s80, s81, s82, s83, s84, s85, s86, s87, s88, s89, s90, s91, s92, s93, s94, s95, s96,
  s97, s98, s99, s100, s101, s102, s103, s104, s105, s106, s107, s108, s109, s110, s111, s112, s113, s114, s115, s116, s117, s118, s119, s120, s121, s122, s123, s124] H10⟩⟩⟩⟩⟩⟩⟩⟩⟩⟩⟩) := by kernel_rfl
theorem S157x1q (s0 s1 s2 s3 s4 s5 s6 s7 s8 s9 s10 s11 s12 s13 s14 s15 s16 s17 s18 s19 s20 s21 s22 s23 s24 s25 s26 s27 s28 s29 s30 s31 s32 s33 s34 s35 s36 s37 s38 s39 s40 s41 s42 s43 s44 s45 s46 s47 s48 s49 s50 s51 s52 s53 s54
  s55 s56 s57 s58 s59 s60 s61 s62 s63 s64 s65 s66 s67 s68 s69 s70 s71 s72 s73 s74 s75 s76 s77 s78 s79 s80 s81 s82 s83 s84 s85 s86 s87 s88 s89 s90 s91 s92 s93 s94 s95 s96 s97 s98 s99 s100 s101 s102 s103 s104 s105 s106 s107 s108
  s109 s110 s111 s112 s113 s114 s115 s116 s117 s118 s119 s120 s121 s122 s123 s124 : Value) (H : AHeap) (k : Value → AHeap → Prop) : S157x1 k [s0, s1, s2, s3, s4, s5, s6, s7, s8, s9, s10, s11, s12, s13, s14, s15, s16, s17, s18,
  s19, s20, s21, s22, s23, s24, s25, s26, s27, s28, s29, s30, s31, s32, s33, s34, s35, s36, s37, s38, s39, s40, s41, s42, s43, s44, s45, s46, s47, s48, s49, s50, s51, s52, s53, s54, s55, s56, s57, s58, s59, s60, s61, s62, s63,
  s64, s65, s66, s67, s68, s69, s70, s71, s72, s73, s74, s75, s76, s77, s78, s79, s80, s81, s82, s83, s84, s85, s86, s87, s88, s89, s90, s91, s92, s93, s94, s95, s96, s97, s98, s99, s100, s101, s102, s103, s104, s105, s106, s107,
  s108, s109, s110, s111, s112, s113, s114, s115, s116, s117, s118, s119, s120, s121, s122, s123, s124] H = (@bnd (convV Tryz.prog H 132 3 s6) ⟨fun v37x19 => @bnd (aLen Tryz.prog H 9 s0) ⟨fun v39x20 => @bnd (aBin2 Tryz.prog H
  .eql 3 (.tmp 39) (.const (.int .i64 0)) v39x20 (.int .i64 0)) ⟨fun v40x21 => @kifB v40x21 ⟨k (.string { data := #[] }) H⟩ ⟨@bnd (aIndex Tryz.prog 9 s0 (.int .i64 0)) ⟨fun v42x22 => @bnd (aBin2 Tryz.prog H .eql 5 (.tmp 42)
  (.const (.int .u8 32)) v42x22 (.int .u8 32)) ⟨fun v44x23 => @kifB v44x23 ⟨S157x2  k [s0, s1, s2, s3, s4, s5, s6, v37x19, s8, s9, s10, s11, s12, s13, s14, s15, s16, s17, s18, s19, s20, s21, s22, s23, s24, s25, s26, s27, s28,
  s29, s30, s31, s32, s33, s34, s35, s6, v37x19, s0, v39x20, v40x21, s0, v42x22, v44x23, v44x23, s45, s46, s47, s48, s49, s50, s51, s52, s53, s54, s55, s56, s57, s58, s59, s60, s61, s62, s63, s64, s65, s66, s67, s68, s69, s70,
  s71, s72, s73, s74, s75, s76, s77, s78, s79, s80, s81, s82, s83, s84, s85, s86, s87, s88, s89, s90, s91, s92, s93, s94, s95, s96, s97, s98, s99, s100, s101, s102, s103, s104, s105, s106, s107, s108, s109, s110, s111, s112,
  s113, s114, s115, s116, s117, s118, s119, s120, s121, s122, s123, s124] H⟩ ⟨@bnd (aBin2 Tryz.prog H .eql 5 (.tmp 42) (.const (.int .u8 45)) v42x22 (.int .u8 45)) ⟨fun v45x24 => @kifB v45x24 ⟨S157x2  k [s0, s1, s2, s3, s4, s5,
  s6, v37x19, s8, s9, s10, s11, s12, s13, s14, s15, s16, s17, s18, s19, s20, s21, s22, s23, s24, s25, s26, s27, s28, s29, s30, s31, s32, s33, s34, s35, s6, v37x19, s0, v39x20, v40x21, s0, v42x22, v45x24, v44x23, v45x24, s46, s47,
  s48, s49, s50, s51, s52, s53, s54, s55, s56, s57, s58, s59, s60, s61, s62, s63, s64, s65, s66, s67, s68, s69, s70, s71, s72, s73, s74, s75, s76, s77, s78, s79, s80, s81, s82, s83, s84, s85, s86, s87, s88, s89, s90, s91, s92,
  s93, s94, s95, s96, s97, s98, s99, s100, s101, s102, s103, s104, s105, s106, s107, s108, s109, s110, s111, s112, s113, s114, s115, s116, s117, s118, s119, s120, s121, s122, s123, s124] H⟩ ⟨@bnd (aBin2 Tryz.prog H .eql 5 (.tmp
  42) (.const (.int .u8 48)) v42x22 (.int .u8 48)) ⟨fun v46x25 => @kifB v46x25 ⟨S157x2  k [s0, s1, s2, s3, s4, s5, s6, v37x19, s8, s9, s10, s11, s12, s13, s14, s15, s16, s17, s18, s19, s20, s21, s22, s23, s24, s25, s26, s27, s28,
  s29, s30, s31, s32, s33, s34, s35, s6, v37x19, s0, v39x20, v40x21, s0, v42x22, v46x25, v44x23, v45x24, v46x25, s47, s48, s49, s50, s51, s52, s53, s54, s55, s56, s57, s58, s59, s60, s61, s62, s63, s64, s65, s66, s67, s68, s69,
  s70, s71, s72, s73, s74, s75, s76, s77, s78, s79, s80, s81, s82, s83, s84, s85, s86, s87, s88, s89, s90, s91, s92, s93, s94, s95, s96, s97, s98, s99, s100, s101, s102, s103, s104, s105, s106, s107, s108, s109, s110, s111, s112,
  s113, s114, s115, s116, s117, s118, s119, s120, s121, s122, s123, s124] H⟩ ⟨@bnd (aBin2 Tryz.prog H .eql 5 (.tmp 42) (.const (.int .u8 61)) v42x22 (.int .u8 61)) ⟨fun v47x26 => @kifB v47x26 ⟨S157x2  k [s0, s1, s2, s3, s4, s5,
  s6, v37x19, s8, s9, s10, s11, s12, s13, s14, s15, s16, s17, s18, s19, s20, s21, s22, s23, s24, s25, s26, s27, s28, s29, s30, s31, s32, s33, s34, s35, s6, v37x19, s0, v39x20, v40x21, s0, v42x22, v47x26, v44x23, v45x24, v46x25,
  v47x26, s48, s49, s50, s51, s52, s53, s54, s55, s56, s57, s58, s59, s60, s61, s62, s63, s64, s65, s66, s67, s68, s69, s70, s71, s72, s73, s74, s75, s76, s77, s78, s79, s80, s81, s82, s83, s84, s85, s86, s87, s88, s89, s90, s91,
  s92, s93, s94, s95, s96, s97, s98, s99, s100, s101, s102, s103, s104, s105, s106, s107, s108, s109, s110, s111, s112, s113, s114, s115, s116, s117, s118, s119, s120, s121, s122, s123, s124] H⟩ ⟨@bnd (aBin2 Tryz.prog H .eql 5
  (.tmp 42) (.const (.int .u8 9)) v42x22 (.int .u8 9)) ⟨fun v48x27 => S157x2  k [s0, s1, s2, s3, s4, s5, s6, v37x19, s8, s9, s10, s11, s12, s13, s14, s15, s16, s17, s18, s19, s20, s21, s22, s23, s24, s25, s26, s27, s28, s29, s30,
  s31, s32, s33, s34, s35, s6, v37x19, s0, v39x20, v40x21, s0, v42x22, v48x27, v44x23, v45x24, v46x25, v47x26, v48x27, s49, s50, s51, s52, s53, s54, s55, s56, s57, s58, s59, s60, s61, s62, s63, s64, s65, s66, s67, s68, s69, s70,
  s71, s72, s73, s74, s75, s76, s77, s78, s79, s80, s81, s82, s83, s84, s85, s86, s87, s88, s89, s90, s91, s92, s93, s94, s95, s96, s97, s98, s99, s100, s101, s102, s103, s104, s105, s106, s107, s108, s109, s110, s111, s112,
  s113, s114, s115, s116, s117, s118, s119, s120, s121, s122, s123, s124] H⟩⟩⟩⟩⟩⟩⟩⟩⟩⟩⟩⟩⟩⟩) := by kernel_rfl
theorem S157x2q (s0 s1 s2 s3 s4 s5 s6 s7 s8 s9 s10 s11 s12 s13 s14 s15 s16 s17 s18 s19 s20 s21 s22 s23 s24 s25 s26 s27 s28 s29 s30 s31 s32 s33 s34 s35 s36 s37 s38 s39 s40 s41 s42 s43 s44 s45 s46 s47 s48 s49 s50 s51 s52 s53 s54
  s55 s56 s57 s58 s59 s60 s61 s62 s63 s64 s65 s66 s67 s68 s69 s70 s71 s72 s73 s74 s75 s76 s77 s78 s79 s80 s81 s82 s83 s84 s85 s86 s87 s88 s89 s90 s91 s92 s93 s94 s95 s96 s97 s98 s99 s100 s101 s102 s103 s104 s105 s106 s107 s108
  s109 s110 s111 s112 s113 s114 s115 s116 s117 s118 s119 s120 s121 s122 s123 s124 : Value) (H : AHeap) (k : Value → AHeap → Prop) : S157x2 k [s0, s1, s2, s3, s4, s5, s6, s7, s8, s9, s10, s11, s12, s13, s14, s15, s16, s17, s18,
  s19, s20, s21, s22, s23, s24, s25, s26, s27, s28, s29, s30, s31, s32, s33, s34, s35, s36, s37, s38, s39, s40, s41, s42, s43, s44, s45, s46, s47, s48, s49, s50, s51, s52, s53, s54, s55, s56, s57, s58, s59, s60, s61, s62, s63,
  s64, s65, s66, s67, s68, s69, s70, s71, s72, s73, s74, s75, s76, s77, s78, s79, s80, s81, s82, s83, s84, s85, s86, s87, s88, s89, s90, s91, s92, s93, s94, s95, s96, s97, s98, s99, s100, s101, s102, s103, s104, s105, s106, s107,
  s108, s109, s110, s111, s112, s113, s114, s115, s116, s117, s118, s119, s120, s121, s122, s123, s124] H = (@kifB s43 ⟨@bnd (aBin2 Tryz.prog H .leq 3 (.tmp 50) (.const (.int .i64 128)) s7 (.int .i64 128)) ⟨fun v51x28 => @bnd
  (gif v51x28 true ((some s0)) undef) ⟨fun v53x29 => @bndG v51x28 true H ⟨fun v54x30 H31 => ACalls Tryz.prog 133 [(.string { data := #[32, 32, 32, 32, 32, 32, 32, 32, 32, 32, 32, 32, 32, 32, 32, 32, 32, 32, 32, 32, 32, 32, 32,
  32, 32, 32, 32, 32, 32, 32, 32, 32, 32, 32, 32, 32, 32, 32, 32, 32, 32, 32, 32, 32, 32, 32, 32, 32, 32, 32, 32, 32, 32, 32, 32, 32, 32, 32, 32, 32, 32, 32, 32, 32, 32, 32, 32, 32, 32, 32, 32, 32, 32, 32, 32, 32, 32, 32, 32, 32,
  32, 32, 32, 32, 32, 32, 32, 32, 32, 32, 32, 32, 32, 32, 32, 32, 32, 32, 32, 32, 32, 32, 32, 32, 32, 32, 32, 32, 32, 32, 32, 32, 32, 32, 32, 32, 32, 32, 32, 32, 32, 32, 32, 32, 32, 32, 32, 32] }), v53x29] H v54x30 H31⟩ ⟨fun
  v54x30 H31 => @bnd (pickV v51x28 v54x30 (.bool false)) ⟨fun v55x32 => @kifB v55x32 ⟨@bnd (aSliceOp Tryz.prog H31 9 (.string { data := #[32, 32, 32, 32, 32, 32, 32, 32, 32, 32, 32, 32, 32, 32, 32, 32, 32, 32, 32, 32, 32, 32, 32,
  32, 32, 32, 32, 32, 32, 32, 32, 32, 32, 32, 32, 32, 32, 32, 32, 32, 32, 32, 32, 32, 32, 32, 32, 32, 32, 32, 32, 32, 32, 32, 32, 32, 32, 32, 32, 32, 32, 32, 32, 32, 32, 32, 32, 32, 32, 32, 32, 32, 32, 32, 32, 32, 32, 32, 32, 32,
  32, 32, 32, 32, 32, 32, 32, 32, 32, 32, 32, 32, 32, 32, 32, 32, 32, 32, 32, 32, 32, 32, 32, 32, 32, 32, 32, 32, 32, 32, 32, 32, 32, 32, 32, 32, 32, 32, 32, 32, 32, 32, 32, 32, 32, 32, 32, 32] }) none (some s7)) ⟨fun v57x33 => k
  v57x33 H31⟩⟩ ⟨@bnd (aBin2 Tryz.prog H31 .leq 3 (.tmp 59) (.const (.int .i64 128)) s7 (.int .i64 128)) ⟨fun v60x34 => @bnd (gif v60x34 true ((some s0)) undef) ⟨fun v62x35 => @bndG v60x34 true H31 ⟨fun v63x36 H37 => ACalls
  Tryz.prog 133 [(.string { data := #[45, 45, 45, 45, 45, 45, 45, 45, 45, 45, 45, 45, 45, 45, 45, 45, 45, 45, 45, 45, 45, 45, 45, 45, 45, 45, 45, 45, 45, 45, 45, 45, 45, 45, 45, 45, 45, 45, 45, 45, 45, 45, 45, 45, 45, 45, 45, 45,
  45, 45, 45, 45, 45, 45, 45, 45, 45, 45, 45, 45, 45, 45, 45, 45, 45, 45, 45, 45, 45, 45, 45, 45, 45, 45, 45, 45, 45, 45, 45, 45, 45, 45, 45, 45, 45, 45, 45, 45, 45, 45, 45, 45, 45, 45, 45, 45, 45, 45, 45, 45, 45, 45, 45, 45, 45,
  45, 45, 45, 45, 45, 45, 45, 45, 45, 45, 45, 45, 45, 45, 45, 45, 45, 45, 45, 45, 45, 45, 45] }), v62x35] H31 v63x36 H37⟩ ⟨fun v63x36 H37 => @bnd (pickV v60x34 v63x36 (.bool false)) ⟨fun v64x38 => @kifB v64x38 ⟨@bnd (aSliceOp
  Tryz.prog H37 9 (.string { data := #[45, 45, 45, 45, 45, 45, 45, 45, 45, 45, 45, 45, 45, 45, 45, 45, 45, 45, 45, 45, 45, 45, 45, 45, 45, 45, 45, 45, 45, 45, 45, 45, 45, 45, 45, 45, 45, 45, 45, 45, 45, 45, 45, 45, 45, 45, 45,
  45, 45, 45, 45, 45, 45, 45, 45, 45, 45, 45, 45, 45, 45, 45, 45, 45, 45, 45, 45, 45, 45, 45, 45, 45, 45, 45, 45, 45, 45, 45, 45, 45, 45, 45, 45, 45, 45, 45, 45, 45, 45, 45, 45, 45, 45, 45, 45, 45, 45, 45, 45, 45, 45, 45, 45, 45,
  45, 45, 45, 45, 45, 45, 45, 45, 45, 45, 45, 45, 45, 45, 45, 45, 45, 45, 45, 45, 45, 45, 45, 45] }) none (some s7)) ⟨fun v66x39 => k v66x39 H37⟩⟩ ⟨@bnd (aBin2 Tryz.prog H37 .leq 3 (.tmp 68) (.const (.int .i64 64)) s7 (.int .i64
  64)) ⟨fun v69x40 => @bnd (gif v69x40 true ((some s0)) undef) ⟨fun v71x41 => @bndG v69x40 true H37 ⟨fun v72x42 H43 => ACalls Tryz.prog 133 [(.string { data := #[48, 48, 48, 48, 48, 48, 48, 48, 48, 48, 48, 48, 48, 48, 48, 48, 48,
  48, 48, 48, 48, 48, 48, 48, 48, 48, 48, 48, 48, 48, 48, 48, 48, 48, 48, 48, 48, 48, 48, 48, 48, 48, 48, 48, 48, 48, 48, 48, 48, 48, 48, 48, 48, 48, 48, 48, 48, 48, 48, 48, 48, 48, 48, 48] }), v71x41] H37 v72x42 H43⟩ ⟨fun v72x42
  H43 => @bnd (pickV v69x40 v72x42 (.bool false)) ⟨fun v73x44 => @kifB v73x44 ⟨@bnd (aSliceOp Tryz.prog H43 9 (.string { data := #[48, 48, 48, 48, 48, 48, 48, 48, 48, 48, 48, 48, 48, 48, 48, 48, 48, 48, 48, 48, 48, 48, 48, 48,
  48, 48, 48, 48, 48, 48, 48, 48, 48, 48, 48, 48, 48, 48, 48, 48, 48, 48, 48, 48, 48, 48, 48, 48, 48, 48, 48, 48, 48, 48, 48, 48, 48, 48, 48, 48, 48, 48, 48, 48] }) none (some s7)) ⟨fun v75x45 => k v75x45 H43⟩⟩ ⟨@bnd (aBin2
  Tryz.prog H43 .leq 3 (.tmp 77) (.const (.int .i64 128)) s7 (.int .i64 128)) ⟨fun v78x46 => @bnd (gif v78x46 true ((some s0)) undef) ⟨fun v80x47 => @bndG v78x46 true H43 ⟨fun v81x48 H49 => ACalls Tryz.prog 133 [(.string { data
  := #[61, 61, 61, 61, 61, 61, 61, 61, 61, 61, 61, 61, 61, 61, 61, 61, 61, 61, 61, 61, 61, 61, 61, 61, 61, 61, 61, 61, 61, 61, 61, 61, 61, 61, 61, 61, 61, 61, 61, 61, 61, 61, 61, 61, 61, 61, 61, 61, 61, 61, 61, 61, 61, 61, 61,
  61, 61, 61, 61, 61, 61, 61, 61, 61, 61, 61, 61, 61, 61, 61, 61, 61, 61, 61, 61, 61, 61, 61, 61, 61, 61, 61, 61, 61, 61, 61, 61, 61, 61, 61, 61, 61, 61, 61, 61, 61, 61, 61, 61, 61, 61, 61, 61, 61, 61, 61, 61, 61, 61, 61, 61, 61,
  61, 61, 61, 61, 61, 61, 61, 61, 61, 61, 61, 61, 61, 61, 61, 61] }), v80x47] H43 v81x48 H49⟩ ⟨fun v81x48 H49 => @bnd (pickV v78x46 v81x48 (.bool false)) ⟨fun v82x50 => @kifB v82x50 ⟨@bnd (aSliceOp Tryz.prog H49 9 (.string { data
  := #[61, 61, 61, 61, 61, 61, 61, 61, 61, 61, 61, 61, 61, 61, 61, 61, 61, 61, 61, 61, 61, 61, 61, 61, 61, 61, 61, 61, 61, 61, 61, 61, 61, 61, 61, 61, 61, 61, 61, 61, 61, 61, 61, 61, 61, 61, 61, 61, 61, 61, 61, 61, 61, 61, 61,
  61, 61, 61, 61, 61, 61, 61, 61, 61, 61, 61, 61, 61, 61, 61, 61, 61, 61, 61, 61, 61, 61, 61, 61, 61, 61, 61, 61, 61, 61, 61, 61, 61, 61, 61, 61, 61, 61, 61, 61, 61, 61, 61, 61, 61, 61, 61, 61, 61, 61, 61, 61, 61, 61, 61, 61, 61,
  61, 61, 61, 61, 61, 61, 61, 61, 61, 61, 61, 61, 61, 61, 61, 61] }) none (some s7)) ⟨fun v84x51 => k v84x51 H49⟩⟩ ⟨@bnd (aBin2 Tryz.prog H49 .leq 3 (.tmp 86) (.const (.int .i64 64)) s7 (.int .i64 64)) ⟨fun v87x52 => @bnd (gif
  v87x52 true ((some s0)) undef) ⟨fun v89x53 => @bndG v87x52 true H49 ⟨fun v90x54 H55 => ACalls Tryz.prog 133 [(.string { data := #[9, 9, 9, 9, 9, 9, 9, 9, 9, 9, 9, 9, 9, 9, 9, 9, 9, 9, 9, 9, 9, 9, 9, 9, 9, 9, 9, 9, 9, 9, 9, 9,
  9, 9, 9, 9, 9, 9, 9, 9, 9, 9, 9, 9, 9, 9, 9, 9, 9, 9, 9, 9, 9, 9, 9, 9, 9, 9, 9, 9, 9, 9, 9, 9] }), v89x53] H49 v90x54 H55⟩ ⟨fun v90x54 H55 => @bnd (pickV v87x52 v90x54 (.bool false)) ⟨fun v91x56 => @kifB v91x56 ⟨@bnd (aSliceOp
  Tryz.prog H55 9 (.string { data := #[9, 9, 9, 9, 9, 9, 9, 9, 9, 9, 9, 9, 9, 9, 9, 9, 9, 9, 9, 9, 9, 9, 9, 9, 9, 9, 9, 9, 9, 9, 9, 9, 9, 9, 9, 9, 9, 9, 9, 9, 9, 9, 9, 9, 9, 9, 9, 9, 9, 9, 9, 9, 9, 9, 9, 9, 9, 9, 9, 9, 9, 9, 9,
  9] }) none (some s7)) ⟨fun v93x57 => k v93x57 H55⟩⟩ ⟨S157x3  k [s0, s1, s2, s3, s4, s5, s6, s7, s8, s9, s10, s11, s12, s13, s14, s15, s16, s17, s18, s19, s20, s21, s22, s23, s24, s25, s26, s27, s28, s29, s30, s31, s32, s33,
  s34, s35, s36, s37, s38, s39, s40, s41, s42, s43, s44, s45, s46, s47, s48, v55x32, s7, v51x28, v51x28, v53x29, v54x30, v55x32, s56, s57, v64x38, s7, v60x34, v60x34, v62x35, v63x36, v64x38, s65, s66, v73x44, s7, v69x40, v69x40,
  v71x41, v72x42, v73x44, s74, s75, v82x50, s7, v78x46, v78x46, v80x47, v81x48, v82x50, s83, s84, v91x56, s7, v87x52, v87x52, v89x53, v90x54, v91x56, s92, s93, s94, s95, s96, s97, s98, s99, s100, s101, s102, s103, s104, s105,
  s106, s107, s108, s109, s110, s111, s112, s113, s114, s115, s116, s117, s118, s119, s120, s121, s122, s123, s124] H55⟩⟩⟩⟩⟩⟩⟩⟩⟩⟩⟩⟩⟩⟩⟩⟩⟩⟩⟩⟩⟩⟩⟩⟩⟩⟩ ⟨S157x3  k [s0, s1, s2, s3, s4, s5, s6, s7, s8, s9, s10, s11, s12, s13, s14, s15,
  s16, s17, s18, s19, s20, s21, s22, s23, s24, s25, s26, s27, s28, s29, s30, s31, s32, s33, s34, s35, s36, s37, s38, s39, s40, s41, s42, s43, s44, s45, s46, s47, s48, s49, s50, s51, s52, s53, s54, s55, s56, s57, s58, s59, s60,
  s61, s62, s63, s64, s65, s66, s67, s68, s69, s70, s71, s72, s73, s74, s75, s76, s77, s78, s79, s80, s81, s82, s83, s84, s85, s86, s87, s88, s89, s90, s91, s92, s93, s94, s95, s96, s97, s98, s99, s100, s101, s102, s103, s104,
  s105, s106, s107, s108, s109, s110, s111, s112, s113, s114, s115, s116, s117, s118, s119, s120, s121, s122, s123, s124] H⟩) := by kernel_rfl
end Go.Vi
namespace Go.Vi
open Go Go.Proofs
-- internal/stringslite.HasPrefix
theorem d158 (a0 a1 : Value) (H : AHeap) (k : Value → AHeap → Prop) : kbody Tryz.prog Tryz.f158 [a0, a1] H k = (@bnd (aLen Tryz.prog H 9 a0) ⟨fun v6x1 => @bnd (aLen Tryz.prog H 9 a1) ⟨fun v8x2 => @bnd (aBin2 Tryz.prog H .geq 3
  (.tmp 6) (.tmp 8) v6x1 v8x2) ⟨fun v9x3 => @bnd (gif v9x3 true ((some a0)) undef) ⟨fun v11x4 => @bnd (gif v9x3 true ((some a1)) undef) ⟨fun v12x5 => @bnd (gif v9x3 true (aLen Tryz.prog H 9 v12x5) undef) ⟨fun v13x6 => @bnd (gif
  v9x3 true (aSliceOp Tryz.prog H 9 v11x4 none (some v13x6)) undef) ⟨fun v14x7 => @bnd (gif v9x3 true ((some a1)) undef) ⟨fun v15x8 => @bnd (gif v9x3 true (aBin2 Tryz.prog H .eql 9 (.tmp 14) (.tmp 15) v14x7 v15x8) undef) ⟨fun
  v16x9 => @bnd (pickV v9x3 v16x9 (.bool false)) ⟨fun v17x10 => k v17x10 H⟩⟩⟩⟩⟩⟩⟩⟩⟩⟩) := by kernel_rfl
-- tocsin/labels.letter
theorem d162 (a0 : Value) (H : AHeap) (k : Value → AHeap → Prop) : kbody Tryz.prog Tryz.f162 [a0] H k = (@bnd (aBin2 Tryz.prog H .geq 5 (.tmp 3) (.const (.int .u8 97)) a0 (.int .u8 97)) ⟨fun v4x1 => @bnd (gif v4x1 true ((some
  a0)) undef) ⟨fun v6x2 => @bnd (gif v4x1 true (aBin2 Tryz.prog H .leq 5 (.tmp 6) (.const (.int .u8 122)) v6x2 (.int .u8 122)) undef) ⟨fun v7x3 => @bnd (pickV v4x1 v7x3 (.bool false)) ⟨fun v8x4 => k v8x4 H⟩⟩⟩⟩) := by kernel_rfl
-- tocsin/labels.every
def L163x0 (n : Nat) (k : Value → AHeap → Prop) (sl : List Value) (H : AHeap) : Prop := kit Tryz.prog (cl (cl (cr (cl (cr (cb Tryz.f163)))))) n (kblk 0 (kseq Tryz.prog (cr (cr (cb Tryz.f163))) (kfin Tryz.prog Tryz.f163 k)))
  .normal sl H
theorem d163 (a0 a1 : Value) (H : AHeap) (k : Value → AHeap → Prop) : kbody Tryz.prog Tryz.f163 [a0, a1] H k = (@bnd (aLen Tryz.prog H 9 a0) ⟨fun v7x1 => ∃ n, L163x0 n  k [a0, a1, undef, undef, (.bool false), undef, a0, v7x1,
  (.int .i64 0), undef, undef, undef, undef, undef, undef, undef, undef, undef] H⟩) := by kernel_rfl
theorem L163x0q (n0 : Nat) (s0 s1 s2 s3 s4 s5 s6 s7 s8 s9 s10 s11 s12 s13 s14 s15 s16 s17 : Value) (H : AHeap) (k : Value → AHeap → Prop) : L163x0 (n0 + 1) k [s0, s1, s2, s3, s4, s5, s6, s7, s8, s9, s10, s11, s12, s13, s14, s15,
  s16, s17] H = (@bnd (aBin2 Tryz.prog H .lss 3 (.tmp 8) (.tmp 7) s8 s7) ⟨fun v9x2 => @kifB v9x2 ⟨@bnd (aIndex Tryz.prog 9 s0 s8) ⟨fun v14x3 => @bndV Tryz.prog s1 [v14x3] H ⟨fun v15x4 H5 => @bnd (unV Tryz.prog .not v15x4) ⟨fun
  v16x6 => @kifB v16x6 ⟨k (.bool false) H5⟩ ⟨@bnd (aBin2 Tryz.prog H5 .add 3 (.tmp 8) (.const (.int .i64 1)) s8 (.int .i64 1)) ⟨fun v17x7 => L163x0 n0  k [s0, s1, s2, s3, s4, s8, s6, s7, v17x7, v9x2, s8, s1, s0, s8, v14x3, v15x4,
  v16x6, v17x7] H5⟩⟩⟩⟩⟩⟩ ⟨k (.bool true) H⟩⟩) := by kernel_rfl
-- tocsin/labels.mark
theorem d164 (a0 : Value) (H : AHeap) (k : Value → AHeap → Prop) : kbody Tryz.prog Tryz.f164 [a0] H k = (@bndC Tryz.prog 162 [a0] H ⟨fun v4x1 H2 => @bnd (gif v4x1 false ((some a0)) undef) ⟨fun v6x3 => @bnd (gif v4x1 false (aBin2
  Tryz.prog H2 .geq 5 (.tmp 6) (.const (.int .u8 48)) v6x3 (.int .u8 48)) undef) ⟨fun v7x4 => @bnd (gif v4x1 false ((some v7x4)) undef) ⟨fun v8x5 => @bnd (gif v8x5 true ((some a0)) undef) ⟨fun v9x6 => @bnd (gif v8x5 true (aBin2
  Tryz.prog H2 .leq 5 (.tmp 9) (.const (.int .u8 57)) v9x6 (.int .u8 57)) undef) ⟨fun v10x7 => @bnd (gif v4x1 false (pickV v8x5 v10x7 (.bool false)) undef) ⟨fun v11x8 => @bnd (pickV v4x1 (.bool true) v11x8) ⟨fun v12x9 => @bnd
  (gif v12x9 false ((some a0)) undef) ⟨fun v14x10 => @bnd (gif v12x9 false (aBin2 Tryz.prog H2 .eql 5 (.tmp 14) (.const (.int .u8 95)) v14x10 (.int .u8 95)) undef) ⟨fun v15x11 => @bnd (pickV v12x9 (.bool true) v15x11) ⟨fun v16x12
  => k v16x12 H2⟩⟩⟩⟩⟩⟩⟩⟩⟩⟩⟩) := by kernel_rfl
-- tocsin/labels.MayValue
theorem d165 (a0 : Value) (H : AHeap) (k : Value → AHeap → Prop) : kbody Tryz.prog Tryz.f165 [a0] H k = (@bnd (aLen Tryz.prog H 9 a0) ⟨fun v4x1 => @bnd (aBin2 Tryz.prog H .geq 3 (.tmp 4) (.const (.int .i64 1)) v4x1 (.int .i64 1))
  ⟨fun v5x2 => @bnd (gif v5x2 true ((some a0)) undef) ⟨fun v7x3 => @bnd (gif v5x2 true (aLen Tryz.prog H 9 v7x3) undef) ⟨fun v8x4 => @bnd (gif v5x2 true (aBin2 Tryz.prog H .leq 3 (.tmp 8) (.const (.int .i64 32)) v8x4 (.int .i64
  32)) undef) ⟨fun v9x5 => @bnd (pickV v5x2 v9x5 (.bool false)) ⟨fun v10x6 => @bnd (gif v10x6 true ((some a0)) undef) ⟨fun v12x7 => @bndG v10x6 true H ⟨fun v13x8 H9 => ACalls Tryz.prog 163 [v12x7, (.func (.func 185) #[] #[])] H
  v13x8 H9⟩ ⟨fun v13x8 H9 => @bnd (pickV v10x6 v13x8 (.bool false)) ⟨fun v14x10 => k v14x10 H9⟩⟩⟩⟩⟩⟩⟩⟩⟩) := by kernel_rfl
-- internal/strconv.log10Pow2
theorem d171 (a0 : Value) (H : AHeap) (k : Value → AHeap → Prop) : kbody Tryz.prog Tryz.f171 [a0] H k = (@bndL Tryz.prog H 42 3 [(0, (.string { data := #[61] })), (1, (.string { data := #[33, 61] })), (2, (.string { data := #[94,
  61] }))] ⟨fun v3x1 H2 => @bnd (aIndexAddr Tryz.prog H2 42 v3x1 a0) ⟨fun v5x3 => @bnd (aLoad Tryz.prog H2 9 v5x3) ⟨fun v6x4 => k v6x4 H2⟩⟩⟩) := by kernel_rfl
-- tocsin/tocsinref01.digit
theorem d172 (a0 : Value) (H : AHeap) (k : Value → AHeap → Prop) : kbody Tryz.prog Tryz.f172 [a0] H k = (@bnd (aBin2 Tryz.prog H .geq 5 (.tmp 3) (.const (.int .u8 48)) a0 (.int .u8 48)) ⟨fun v4x1 => @bnd (gif v4x1 true ((some
  a0)) undef) ⟨fun v6x2 => @bnd (gif v4x1 true (aBin2 Tryz.prog H .leq 5 (.tmp 6) (.const (.int .u8 57)) v6x2 (.int .u8 57)) undef) ⟨fun v7x3 => @bnd (pickV v4x1 v7x3 (.bool false)) ⟨fun v8x4 => k v8x4 H⟩⟩⟩⟩) := by kernel_rfl
-- tocsin/tocsinref01.more
theorem d173 (a0 a1 : Value) (H : AHeap) (k : Value → AHeap → Prop) : kbody Tryz.prog Tryz.f173 [a0, a1] H k = (@bnd (aBin2 Tryz.prog H .gtr 2 (.tmp 5) (.const (.int .i64 461168601842738790)) a0 (.int .i64 461168601842738790))
  ⟨fun v6x1 => @kifB v6x1 ⟨k (.int .i64 4611686018427387903) H⟩ ⟨@bnd (aBin2 Tryz.prog H .mul 2 (.const (.int .i64 10)) (.tmp 7) (.int .i64 10) a0) ⟨fun v8x2 => @bnd (aBin2 Tryz.prog H .sub 5 (.tmp 9) (.const (.int .u8 48)) a1
  (.int .u8 48)) ⟨fun v10x3 => @bnd (convV Tryz.prog H 5 2 v10x3) ⟨fun v11x4 => @bnd (aBin2 Tryz.prog H .add 2 (.tmp 8) (.tmp 11) v8x2 v11x4) ⟨fun v12x5 => @bndC Tryz.prog 86 [v12x5] H ⟨fun v13x6 H7 => k v13x6 H7⟩⟩⟩⟩⟩⟩⟩) := by
  kernel_rfl
-- internal/strconv.ParseInt
def S174x0 (k : Value → AHeap → Prop) (sl : List Value) (H : AHeap) : Prop := kseq Tryz.prog (cr (cr (cr (cr (cb Tryz.f174))))) (kfin Tryz.prog Tryz.f174 k) .normal sl H
def S174x1 (k : Value → AHeap → Prop) (sl : List Value) (H : AHeap) : Prop := kseq Tryz.prog (cr (cr (cr (cr (cr (cr (cr (cr (cb Tryz.f174))))))))) (kfin Tryz.prog Tryz.f174 k) .normal sl H
def S174x2 (k : Value → AHeap → Prop) (sl : List Value) (H : AHeap) : Prop := kseq Tryz.prog (cr (cr (cr (cr (cr (cr (cr (cr (cr (cr (cr (cr (cr (cb Tryz.f174)))))))))))))) (kfin Tryz.prog Tryz.f174 k) .normal sl H
theorem d174 (a0 a1 a2 : Value) (H : AHeap) (k : Value → AHeap → Prop) : kbody Tryz.prog Tryz.f174 [a0, a1, a2] H k = (@bnd (aBin2 Tryz.prog H .eql 9 (.tmp 12) (.const (.string { data := #[] })) a0 (.string { data := #[] })) ⟨fun
  v13x1 => @kifB v13x1 ⟨k (.tuple #[(.int .i64 0), (.iface 205 (.int .i64 2))]) H⟩ ⟨@bnd (aIndex Tryz.prog 9 a0 (.int .i64 0)) ⟨fun v16x2 => @bnd (aBin2 Tryz.prog H .eql 5 (.tmp 16) (.const (.int .u8 43)) v16x2 (.int .u8 43))
  ⟨fun v18x3 => @kifB v18x3 ⟨kx Tryz.prog (cl (cr (cl (cr (cl (cr (cr (cr (cb Tryz.f174))))))))) [a0, a1, a2, undef, undef, undef, (.int .i64 0), .nilIface, (.bool false), undef, undef, undef, a0, v13x1, undef, a0, v16x2, v18x3,
  v18x3, undef, undef, undef, undef, undef, undef, undef, undef, undef, undef, undef, undef, undef, undef, undef, undef, undef, undef, undef, undef, undef, undef, undef, undef, undef, undef, undef, undef, undef, undef, undef,
  undef, undef, undef, undef, undef, undef, undef, undef, undef, undef, undef, undef, undef, undef, undef, undef, undef, undef, undef, undef, undef, undef, undef] H (kblk 0 (kseq Tryz.prog (cr (cr (cr (cr (cb Tryz.f174))))) (kfin
  Tryz.prog Tryz.f174 k)))⟩ ⟨@bnd (aBin2 Tryz.prog H .eql 5 (.tmp 16) (.const (.int .u8 45)) v16x2 (.int .u8 45)) ⟨fun v22x4 => @kifB v22x4 ⟨kx Tryz.prog (cl (cr (cr (cr (cl (cr (cl (cr (cr (cr (cb Tryz.f174))))))))))) [a0, a1,
  a2, undef, undef, undef, (.int .i64 0), .nilIface, (.bool false), undef, undef, undef, a0, v13x1, undef, a0, v16x2, v18x3, v18x3, undef, undef, v22x4, v22x4, undef, undef, undef, undef, undef, undef, undef, undef, undef, undef,
  undef, undef, undef, undef, undef, undef, undef, undef, undef, undef, undef, undef, undef, undef, undef, undef, undef, undef, undef, undef, undef, undef, undef, undef, undef, undef, undef, undef, undef, undef, undef, undef,
  undef, undef, undef, undef, undef, undef, undef, undef] H (kblk 0 (kseq Tryz.prog (cr (cr (cr (cr (cb Tryz.f174))))) (kfin Tryz.prog Tryz.f174 k)))⟩ ⟨S174x0  k [a0, a1, a2, undef, undef, undef, (.int .i64 0), .nilIface, (.bool
  false), undef, undef, undef, a0, v13x1, undef, a0, v16x2, v18x3, v18x3, undef, undef, v22x4, v22x4, undef, undef, undef, undef, undef, undef, undef, undef, undef, undef, undef, undef, undef, undef, undef, undef, undef, undef,
  undef, undef, undef, undef, undef, undef, undef, undef, undef, undef, undef, undef, undef, undef, undef, undef, undef, undef, undef, undef, undef, undef, undef, undef, undef, undef, undef, undef, undef, undef, undef, undef]
  H⟩⟩⟩⟩⟩⟩⟩) := by kernel_rfl
theorem S174x0q (s0 s1 s2 s3 s4 s5 s6 s7 s8 s9 s10 s11 s12 s13 s14 s15 s16 s17 s18 s19 s20 s21 s22 s23 s24 s25 s26 s27 s28 s29 s30 s31 s32 s33 s34 s35 s36 s37 s38 s39 s40 s41 s42 s43 s44 s45 s46 s47 s48 s49 s50 s51 s52 s53 s54
  s55 s56 s57 s58 s59 s60 s61 s62 s63 s64 s65 s66 s67 s68 s69 s70 s71 s72 : Value) (H : AHeap) (k : Value → AHeap → Prop) : S174x0 k [s0, s1, s2, s3, s4, s5, s6, s7, s8, s9, s10, s11, s12, s13, s14, s15, s16, s17, s18, s19, s20,
  s21, s22, s23, s24, s25, s26, s27, s28, s29, s30, s31, s32, s33, s34, s35, s36, s37, s38, s39, s40, s41, s42, s43, s44, s45, s46, s47, s48, s49, s50, s51, s52, s53, s54, s55, s56, s57, s58, s59, s60, s61, s62, s63, s64, s65,
  s66, s67, s68, s69, s70, s71, s72] H = (@bndC Tryz.prog 188 [s0, s1, s2] H ⟨fun v29x5 H6 => @bnd (tupV v29x5 0) ⟨fun v30x7 => @bnd (tupV v29x5 1) ⟨fun v31x8 => @bnd (aBin2 Tryz.prog H6 .neq 118 (.tmp 32) (.const .nilIface)
  v31x8 .nilIface) ⟨fun v33x9 => @bnd (gif v33x9 true ((some v31x8)) undef) ⟨fun v35x10 => @bnd (gif v33x9 true (ifaceV Tryz.prog 205 (.int .i64 1)) undef) ⟨fun v36x11 => @bnd (gif v33x9 true (aBin2 Tryz.prog H6 .neq 118 (.tmp
  35) (.tmp 36) v35x10 v36x11) undef) ⟨fun v37x12 => @bnd (pickV v33x9 v37x12 (.bool false)) ⟨fun v38x13 => @kifB v38x13 ⟨k (.tuple #[(.int .i64 0), v31x8]) H6⟩ ⟨@bnd (aBin2 Tryz.prog H6 .eql 3 (.tmp 40) (.const (.int .i64 0)) s2
  (.int .i64 0)) ⟨fun v41x14 => @kifB v41x14 ⟨S174x1  k [s0, s1, (.int .i64 64), s3, s4, s5, s6, v31x8, s8, v30x7, s10, s11, s12, s13, s14, s15, s16, s17, s18, s19, s20, s21, s22, s23, s24, v29x5, s0, s1, s2, v29x5, v30x7, v31x8,
  v31x8, v33x9, v33x9, v35x10, v36x11, v37x12, v38x13, s39, s2, v41x14, s42, s43, s44, s45, s46, s47, s48, s49, s50, s51, s52, s53, s54, s55, s56, s57, s58, s59, s60, s61, s62, s63, s64, s65, s66, s67, s68, s69, s70, s71, s72]
  H6⟩ ⟨S174x1  k [s0, s1, s2, s3, s4, s5, s6, v31x8, s8, v30x7, s10, s11, s12, s13, s14, s15, s16, s17, s18, s19, s20, s21, s22, s23, s24, v29x5, s0, s1, s2, v29x5, v30x7, v31x8, v31x8, v33x9, v33x9, v35x10, v36x11, v37x12,
  v38x13, s39, s2, v41x14, s42, s43, s44, s45, s46, s47, s48, s49, s50, s51, s52, s53, s54, s55, s56, s57, s58, s59, s60, s61, s62, s63, s64, s65, s66, s67, s68, s69, s70, s71, s72] H6⟩⟩⟩⟩⟩⟩⟩⟩⟩⟩⟩) := by kernel_rfl
theorem S174x1q (s0 s1 s2 s3 s4 s5 s6 s7 s8 s9 s10 s11 s12 s13 s14 s15 s16 s17 s18 s19 s20 s21 s22 s23 s24 s25 s26 s27 s28 s29 s30 s31 s32 s33 s34 s35 s36 s37 s38 s39 s40 s41 s42 s43 s44 s45 s46 s47 s48 s49 s50 s51 s52 s53 s54
  s55 s56 s57 s58 s59 s60 s61 s62 s63 s64 s65 s66 s67 s68 s69 s70 s71 s72 : Value) (H : AHeap) (k : Value → AHeap → Prop) : S174x1 k [s0, s1, s2, s3, s4, s5, s6, s7, s8, s9, s10, s11, s12, s13, s14, s15, s16, s17, s18, s19, s20,
  s21, s22, s23, s24, s25, s26, s27, s28, s29, s30, s31, s32, s33, s34, s35, s36, s37, s38, s39, s40, s41, s42, s43, s44, s45, s46, s47, s48, s49, s50, s51, s52, s53, s54, s55, s56, s57, s58, s59, s60, s61, s62, s63, s64, s65,
  s66, s67, s68, s69, s70, s71, s72] H = (@bnd (aBin2 Tryz.prog H .sub 3 (.tmp 42) (.const (.int .i64 1)) s2 (.int .i64 1)) ⟨fun v43x15 => @bnd (convV Tryz.prog H 3 132 v43x15) ⟨fun v44x16 => @bnd (aBin2 Tryz.prog H .shl 178
  (.const (.int .u64 1)) (.tmp 44) (.int .u64 1) v44x16) ⟨fun v45x17 => @bnd (unV Tryz.prog .not s8) ⟨fun v47x18 => @bnd (gif v47x18 true ((some s9)) undef) ⟨fun v49x19 => @bnd (gif v47x18 true ((some v45x17)) undef) ⟨fun v50x20
  => @bnd (gif v47x18 true (aBin2 Tryz.prog H .geq 178 (.tmp 49) (.tmp 50) v49x19 v50x20) undef) ⟨fun v51x21 => @bnd (pickV v47x18 v51x21 (.bool false)) ⟨fun v52x22 => @kifB v52x22 ⟨@bnd (aBin2 Tryz.prog H .sub 178 (.tmp 53)
  (.const (.int .u64 1)) v45x17 (.int .u64 1)) ⟨fun v54x23 => @bnd (convV Tryz.prog H 178 2 v54x23) ⟨fun v55x24 => k (.tuple #[v55x24, (.iface 205 (.int .i64 1))]) H⟩⟩⟩ ⟨@bnd (gif s8 true ((some s9)) undef) ⟨fun v59x25 => @bnd
  (gif s8 true ((some v45x17)) undef) ⟨fun v60x26 => @bnd (gif s8 true (aBin2 Tryz.prog H .gtr 178 (.tmp 59) (.tmp 60) v59x25 v60x26) undef) ⟨fun v61x27 => @bnd (pickV s8 v61x27 (.bool false)) ⟨fun v62x28 => @kifB v62x28 ⟨kx
  Tryz.prog (cl (cr (cl (cr (cr (cr (cr (cr (cr (cr (cr (cr (cr (cb Tryz.f174)))))))))))))) [s0, s1, s2, s3, s4, s5, s6, s7, s8, s9, v45x17, s11, s12, s13, s14, s15, s16, s17, s18, s19, s20, s21, s22, s23, s24, s25, s26, s27,
  s28, s29, s30, s31, s32, s33, s34, s35, s36, s37, s38, s39, s40, s41, s2, v43x15, v44x16, v45x17, s8, v47x18, v47x18, v49x19, v50x20, v51x21, v52x22, s53, s54, s55, s56, s8, s8, v59x25, v60x26, v61x27, v62x28, s63, s64, s65,
  s66, s67, s68, s69, s70, s71, s72] H (kseq Tryz.prog (cr (cr (cr (cr (cr (cr (cr (cr (cr (cr (cr (cb Tryz.f174)))))))))))) (kfin Tryz.prog Tryz.f174 k))⟩ ⟨@bnd (convV Tryz.prog H 178 2 s9) ⟨fun v68x29 => @kifB s8 ⟨kx Tryz.prog
  (cl (cr (cl (cr (cr (cr (cr (cr (cr (cr (cr (cr (cr (cr (cr (cb Tryz.f174)))))))))))))))) [s0, s1, s2, s3, s4, s5, s6, s7, s8, s9, v45x17, v68x29, s12, s13, s14, s15, s16, s17, s18, s19, s20, s21, s22, s23, s24, s25, s26, s27,
  s28, s29, s30, s31, s32, s33, s34, s35, s36, s37, s38, s39, s40, s41, s2, v43x15, v44x16, v45x17, s8, v47x18, v47x18, v49x19, v50x20, v51x21, v52x22, s53, s54, s55, s56, s8, s8, v59x25, v60x26, v61x27, v62x28, s63, s64, s65,
  s66, s9, v68x29, s8, s70, s71, s72] H (kseq Tryz.prog (cr (cr (cr (cr (cr (cr (cr (cr (cr (cr (cr (cr (cr (cb Tryz.f174)))))))))))))) (kfin Tryz.prog Tryz.f174 k))⟩ ⟨S174x2  k [s0, s1, s2, s3, s4, s5, s6, s7, s8, s9, v45x17,
  v68x29, s12, s13, s14, s15, s16, s17, s18, s19, s20, s21, s22, s23, s24, s25, s26, s27, s28, s29, s30, s31, s32, s33, s34, s35, s36, s37, s38, s39, s40, s41, s2, v43x15, v44x16, v45x17, s8, v47x18, v47x18, v49x19, v50x20,
  v51x21, v52x22, s53, s54, s55, s56, s8, s8, v59x25, v60x26, v61x27, v62x28, s63, s64, s65, s66, s9, v68x29, s8, s70, s71, s72] H⟩⟩⟩⟩⟩⟩⟩⟩⟩⟩⟩⟩⟩⟩⟩⟩) := by kernel_rfl
theorem S174x2q (s0 s1 s2 s3 s4 s5 s6 s7 s8 s9 s10 s11 s12 s13 s14 s15 s16 s17 s18 s19 s20 s21 s22 s23 s24 s25 s26 s27 s28 s29 s30 s31 s32 s33 s34 s35 s36 s37 s38 s39 s40 s41 s42 s43 s44 s45 s46 s47 s48 s49 s50 s51 s52 s53 s54
  s55 s56 s57 s58 s59 s60 s61 s62 s63 s64 s65 s66 s67 s68 s69 s70 s71 s72 : Value) (H : AHeap) (k : Value → AHeap → Prop) : S174x2 k [s0, s1, s2, s3, s4, s5, s6, s7, s8, s9, s10, s11, s12, s13, s14, s15, s16, s17, s18, s19, s20,
  s21, s22, s23, s24, s25, s26, s27, s28, s29, s30, s31, s32, s33, s34, s35, s36, s37, s38, s39, s40, s41, s42, s43, s44, s45, s46, s47, s48, s49, s50, s51, s52, s53, s54, s55, s56, s57, s58, s59, s60, s61, s62, s63, s64, s65,
  s66, s67, s68, s69, s70, s71, s72] H = (k (.tuple #[s11, .nilIface]) H) := by kernel_rfl
-- strconv.syntaxError
theorem d175 (a0 a1 : Value) (H : AHeap) (k : Value → AHeap → Prop) : kbody Tryz.prog Tryz.f175 [a0, a1] H k = (@bndD false H ⟨fun v7x1 H2 => ACalls Tryz.prog 189 [a1] H v7x1 H2⟩ ⟨fun v7x1 H2 => @bnd (aLoad Tryz.prog H 118
  (.pointer (some ⟨2, 0, none⟩))) ⟨fun v8x3 => @bnd (buildV Tryz.prog 218 [(0, a0), (1, v7x1), (2, v8x3)]) ⟨fun v9x4 => @bndD true H2 ⟨fun v10x5 H6 => aNew H2 218 v9x4 = some (v10x5, H6)⟩ ⟨fun v10x5 H6 => k v10x5 H6⟩⟩⟩⟩) := by
  kernel_rfl
-- strconv.rangeError
theorem d176 (a0 a1 : Value) (H : AHeap) (k : Value → AHeap → Prop) : kbody Tryz.prog Tryz.f176 [a0, a1] H k = (@bndD false H ⟨fun v7x1 H2 => ACalls Tryz.prog 189 [a1] H v7x1 H2⟩ ⟨fun v7x1 H2 => @bnd (aLoad Tryz.prog H 118
  (.pointer (some ⟨3, 0, none⟩))) ⟨fun v8x3 => @bnd (buildV Tryz.prog 218 [(0, a0), (1, v7x1), (2, v8x3)]) ⟨fun v9x4 => @bndD true H2 ⟨fun v10x5 H6 => aNew H2 218 v9x4 = some (v10x5, H6)⟩ ⟨fun v10x5 H6 => k v10x5 H6⟩⟩⟩⟩) := by
  kernel_rfl
-- internal/stringslite.CutPrefix
theorem d179 (a0 a1 : Value) (H : AHeap) (k : Value → AHeap → Prop) : kbody Tryz.prog Tryz.f179 [a0, a1] H k = (@bndC Tryz.prog 158 [a0, a1] H ⟨fun v8x1 H2 => @bnd (unV Tryz.prog .not v8x1) ⟨fun v9x3 => @kifB v9x3 ⟨k (.tuple
  #[a0, (.bool false)]) H2⟩ ⟨@bnd (aLen Tryz.prog H2 9 a1) ⟨fun v13x4 => @bnd (aSliceOp Tryz.prog H2 9 a0 (some v13x4) none) ⟨fun v14x5 => k (.tuple #[v14x5, (.bool true)]) H2⟩⟩⟩⟩⟩) := by kernel_rfl
-- math/bits.Mul
theorem d180 (a0 a1 : Value) (H : AHeap) (k : Value → AHeap → Prop) : kbody Tryz.prog Tryz.f180 [a0, a1] H k = (@kifB (.bool false) ⟨@bnd (convV Tryz.prog H 132 50 a0) ⟨fun v12x1 => @bnd (convV Tryz.prog H 132 50 a1) ⟨fun v14x2
  => @bndC Tryz.prog 191 [v12x1, v14x2] H ⟨fun v15x3 H4 => @bnd (tupV v15x3 0) ⟨fun v16x5 => @bnd (tupV v15x3 1) ⟨fun v17x6 => @bnd (convV Tryz.prog H4 50 132 v16x5) ⟨fun v19x7 => @bnd (convV Tryz.prog H4 50 132 v17x6) ⟨fun v21x8
  => k (.tuple #[v19x7, v21x8]) H4⟩⟩⟩⟩⟩⟩⟩⟩ ⟨@bndC Tryz.prog 192 [a0, a1] H ⟨fun v25x9 H10 => @bnd (tupV v25x9 0) ⟨fun v26x11 => @bnd (tupV v25x9 1) ⟨fun v27x12 => k (.tuple #[v26x11, v27x12]) H10⟩⟩⟩⟩) := by kernel_rfl
-- tocsin/labels.sign
theorem d185 (a0 : Value) (H : AHeap) (k : Value → AHeap → Prop) : kbody Tryz.prog Tryz.f185 [a0] H k = (@bnd (aBin2 Tryz.prog H .geq 5 (.tmp 3) (.const (.int .u8 32)) a0 (.int .u8 32)) ⟨fun v4x1 => @bnd (gif v4x1 true ((some
  a0)) undef) ⟨fun v6x2 => @bnd (gif v4x1 true (aBin2 Tryz.prog H .leq 5 (.tmp 6) (.const (.int .u8 126)) v6x2 (.int .u8 126)) undef) ⟨fun v7x3 => @bnd (pickV v4x1 v7x3 (.bool false)) ⟨fun v8x4 => k v8x4 H⟩⟩⟩⟩) := by kernel_rfl
-- internal/strconv.ParseUint
def S188x0 (k : Value → AHeap → Prop) (sl : List Value) (H : AHeap) : Prop := kseq Tryz.prog (cr (cr (cr (cr (cr (cb Tryz.f188)))))) (kfin Tryz.prog Tryz.f188 k) .normal sl H
def S188x1 (k : Value → AHeap → Prop) (sl : List Value) (H : AHeap) : Prop := kseq Tryz.prog (cr (cr (cr (cr (cr (cr (cb Tryz.f188))))))) (kfin Tryz.prog Tryz.f188 k) .normal sl H
def S188x2 (k : Value → AHeap → Prop) (sl : List Value) (H : AHeap) : Prop := kseq Tryz.prog (cr (cr (cr (cr (cr (cr (cr (cr (cb Tryz.f188))))))))) (kfin Tryz.prog Tryz.f188 k) .normal sl H
def L188x0 (n : Nat) (k : Value → AHeap → Prop) (sl : List Value) (H : AHeap) : Prop := kit Tryz.prog (cl (cl (cr (cl (cr (cr (cr (cr (cr (cr (cr (cr (cr (cr (cr (cb Tryz.f188)))))))))))))))) n (kblk 3 (kseq Tryz.prog (cr (cr (cr
  (cr (cr (cr (cr (cr (cr (cr (cr (cr (cb Tryz.f188))))))))))))) (kfin Tryz.prog Tryz.f188 k))) .normal sl H
def S188x3 (n0 : Nat) (k : Value → AHeap → Prop) (sl : List Value) (H : AHeap) : Prop := kseq Tryz.prog (cr (cr (cr (cl (cl (cr (cr (cl (cl (cr (cl (cr (cr (cr (cr (cr (cr (cr (cr (cr (cr (cr (cb Tryz.f188)))))))))))))))))))))))
  (kblk 4 (kseq Tryz.prog (cr (cr (cr (cl (cl (cr (cl (cr (cr (cr (cr (cr (cr (cr (cr (cr (cr (cr (cb Tryz.f188))))))))))))))))))) (kit Tryz.prog (cl (cl (cr (cl (cr (cr (cr (cr (cr (cr (cr (cr (cr (cr (cr (cb
  Tryz.f188)))))))))))))))) n0 (kblk 3 (kseq Tryz.prog (cr (cr (cr (cr (cr (cr (cr (cr (cr (cr (cr (cr (cb Tryz.f188))))))))))))) (kfin Tryz.prog Tryz.f188 k)))))) .normal sl H
def S188x4 (n0 : Nat) (k : Value → AHeap → Prop) (sl : List Value) (H : AHeap) : Prop := kseq Tryz.prog (cr (cr (cr (cl (cl (cr (cl (cr (cr (cr (cr (cr (cr (cr (cr (cr (cr (cr (cb Tryz.f188))))))))))))))))))) (kit Tryz.prog (cl
  (cl (cr (cl (cr (cr (cr (cr (cr (cr (cr (cr (cr (cr (cr (cb Tryz.f188)))))))))))))))) n0 (kblk 3 (kseq Tryz.prog (cr (cr (cr (cr (cr (cr (cr (cr (cr (cr (cr (cr (cb Tryz.f188))))))))))))) (kfin Tryz.prog Tryz.f188 k)))) .normal
  sl H
theorem d188 (a0 a1 a2 : Value) (H : AHeap) (k : Value → AHeap → Prop) : kbody Tryz.prog Tryz.f188 [a0, a1, a2] H k = (@bnd (aBin2 Tryz.prog H .eql 9 (.tmp 18) (.const (.string { data := #[] })) a0 (.string { data := #[] })) ⟨fun
  v19x1 => @kifB v19x1 ⟨k (.tuple #[(.int .u64 0), (.iface 205 (.int .i64 2))]) H⟩ ⟨@bnd (aBin2 Tryz.prog H .eql 3 (.tmp 21) (.const (.int .i64 0)) a1 (.int .i64 0)) ⟨fun v22x2 => @bnd (aBin2 Tryz.prog H .leq 3 (.const (.int .i64
  2)) (.tmp 26) (.int .i64 2) a1) ⟨fun v27x3 => @bnd (gif v27x3 true ((some a1)) undef) ⟨fun v29x4 => @bnd (gif v27x3 true (aBin2 Tryz.prog H .leq 3 (.tmp 29) (.const (.int .i64 36)) v29x4 (.int .i64 36)) undef) ⟨fun v30x5 =>
  @bnd (pickV v27x3 v30x5 (.bool false)) ⟨fun v31x6 => @kifB v31x6 ⟨S188x0  k [a0, a1, a2, undef, undef, undef, (.int .u64 0), .nilIface, v22x2, a0, undef, undef, undef, undef, undef, undef, undef, undef, a0, v19x1, undef, a1,
  v22x2, a0, undef, v31x6, a1, v27x3, v27x3, v29x4, v30x5, v31x6, undef, undef, undef, undef, undef, undef, undef, undef, undef, undef, undef, undef, undef, undef, undef, undef, undef, undef, undef, undef, undef, undef, undef,
  undef, undef, undef, undef, undef, undef, undef, undef, undef, undef, undef, undef, undef, undef, undef, undef, undef, undef, undef, undef, undef, undef, undef, undef, undef, undef, undef, undef, undef, undef, undef, undef,
  undef, undef, undef, undef, undef, undef, undef, undef, undef, undef, undef, undef, undef, undef, undef, undef, undef, undef, undef, undef, undef, undef, undef, undef, undef, undef, undef, undef, undef, undef, undef, undef,
  undef, undef, undef, undef, undef, undef, undef, undef, undef, undef, undef, undef, undef, undef, undef, undef, undef, undef, undef, undef, undef, undef, undef, undef, undef, undef, undef, undef, undef, undef, undef, undef,
  undef, undef, undef, undef, undef, undef, undef, undef, undef, undef, undef, undef, undef, undef, undef, undef, undef, undef, undef, undef, undef] H⟩ ⟨kx Tryz.prog (cr (cr (cl (cl (cr (cr (cr (cr (cb Tryz.f188))))))))) [a0, a1,
  a2, undef, undef, undef, (.int .u64 0), .nilIface, v22x2, a0, undef, undef, undef, undef, undef, undef, undef, undef, a0, v19x1, undef, a1, v22x2, a0, undef, v31x6, a1, v27x3, v27x3, v29x4, v30x5, v31x6, undef, undef, undef,
  undef, undef, undef, undef, undef, undef, undef, undef, undef, undef, undef, undef, undef, undef, undef, undef, undef, undef, undef, undef, undef, undef, undef, undef, undef, undef, undef, undef, undef, undef, undef, undef,
  undef, undef, undef, undef, undef, undef, undef, undef, undef, undef, undef, undef, undef, undef, undef, undef, undef, undef, undef, undef, undef, undef, undef, undef, undef, undef, undef, undef, undef, undef, undef, undef,
  undef, undef, undef, undef, undef, undef, undef, undef, undef, undef, undef, undef, undef, undef, undef, undef, undef, undef, undef, undef, undef, undef, undef, undef, undef, undef, undef, undef, undef, undef, undef, undef,
  undef, undef, undef, undef, undef, undef, undef, undef, undef, undef, undef, undef, undef, undef, undef, undef, undef, undef, undef, undef, undef, undef, undef, undef, undef, undef, undef, undef, undef, undef, undef, undef,
  undef, undef, undef, undef, undef, undef, undef, undef, undef] H (kblk 0 (kseq Tryz.prog (cr (cr (cr (cr (cr (cb Tryz.f188)))))) (kfin Tryz.prog Tryz.f188 k)))⟩⟩⟩⟩⟩⟩⟩⟩) := by kernel_rfl
theorem S188x0q (s0 s1 s2 s3 s4 s5 s6 s7 s8 s9 s10 s11 s12 s13 s14 s15 s16 s17 s18 s19 s20 s21 s22 s23 s24 s25 s26 s27 s28 s29 s30 s31 s32 s33 s34 s35 s36 s37 s38 s39 s40 s41 s42 s43 s44 s45 s46 s47 s48 s49 s50 s51 s52 s53 s54
  s55 s56 s57 s58 s59 s60 s61 s62 s63 s64 s65 s66 s67 s68 s69 s70 s71 s72 s73 s74 s75 s76 s77 s78 s79 s80 s81 s82 s83 s84 s85 s86 s87 s88 s89 s90 s91 s92 s93 s94 s95 s96 s97 s98 s99 s100 s101 s102 s103 s104 s105 s106 s107 s108
  s109 s110 s111 s112 s113 s114 s115 s116 s117 s118 s119 s120 s121 s122 s123 s124 s125 s126 s127 s128 s129 s130 s131 s132 s133 s134 s135 s136 s137 s138 s139 s140 s141 s142 s143 s144 s145 s146 s147 s148 s149 s150 s151 s152 s153
  s154 s155 s156 s157 s158 s159 s160 s161 s162 s163 s164 s165 s166 s167 s168 s169 s170 s171 : Value) (H : AHeap) (k : Value → AHeap → Prop) : S188x0 k [s0, s1, s2, s3, s4, s5, s6, s7, s8, s9, s10, s11, s12, s13, s14, s15, s16,
  s17, s18, s19, s20, s21, s22, s23, s24, s25, s26, s27, s28, s29, s30, s31, s32, s33, s34, s35, s36, s37, s38, s39, s40, s41, s42, s43, s44, s45, s46, s47, s48, s49, s50, s51, s52, s53, s54, s55, s56, s57, s58, s59, s60, s61,
  s62, s63, s64, s65, s66, s67, s68, s69, s70, s71, s72, s73, s74, s75, s76, s77, s78, s79, s80, s81, s82, s83, s84, s85, s86, s87, s88, s89, s90, s91, s92, s93, s94, s95, s96, s97, s98, s99, s100, s101, s102, s103, s104, s105,
  s106, s107, s108, s109, s110, s111, s112, s113, s114, s115, s116, s117, s118, s119, s120, s121, s122, s123, s124, s125, s126, s127, s128, s129, s130, s131, s132, s133, s134, s135, s136, s137, s138, s139, s140, s141, s142, s143,
  s144, s145, s146, s147, s148, s149, s150, s151, s152, s153, s154, s155, s156, s157, s158, s159, s160, s161, s162, s163, s164, s165, s166, s167, s168, s169, s170, s171] H = (@bnd (aBin2 Tryz.prog H .eql 3 (.tmp 76) (.const (.int
  .i64 0)) s2 (.int .i64 0)) ⟨fun v77x7 => @kifB v77x7 ⟨S188x1  k [s0, s1, (.int .i64 64), s3, s4, s5, s6, s7, s8, s9, s10, s11, s12, s13, s14, s15, s16, s17, s18, s19, s20, s21, s22, s23, s24, s25, s26, s27, s28, s29, s30, s31,
  s32, s33, s34, s35, s36, s37, s38, s39, s40, s41, s42, s43, s44, s45, s46, s47, s48, s49, s50, s51, s52, s53, s54, s55, s56, s57, s58, s59, s60, s61, s62, s63, s64, s65, s66, s67, s68, s69, s70, s71, s72, s73, s74, s75, s2,
  v77x7, s78, s79, s80, s81, s82, s83, s84, s85, s86, s87, s88, s89, s90, s91, s92, s93, s94, s95, s96, s97, s98, s99, s100, s101, s102, s103, s104, s105, s106, s107, s108, s109, s110, s111, s112, s113, s114, s115, s116, s117,
  s118, s119, s120, s121, s122, s123, s124, s125, s126, s127, s128, s129, s130, s131, s132, s133, s134, s135, s136, s137, s138, s139, s140, s141, s142, s143, s144, s145, s146, s147, s148, s149, s150, s151, s152, s153, s154, s155,
  s156, s157, s158, s159, s160, s161, s162, s163, s164, s165, s166, s167, s168, s169, s170, s171] H⟩ ⟨kx Tryz.prog (cr (cr (cl (cr (cr (cr (cr (cr (cb Tryz.f188))))))))) [s0, s1, s2, s3, s4, s5, s6, s7, s8, s9, s10, s11, s12,
  s13, s14, s15, s16, s17, s18, s19, s20, s21, s22, s23, s24, s25, s26, s27, s28, s29, s30, s31, s32, s33, s34, s35, s36, s37, s38, s39, s40, s41, s42, s43, s44, s45, s46, s47, s48, s49, s50, s51, s52, s53, s54, s55, s56, s57,
  s58, s59, s60, s61, s62, s63, s64, s65, s66, s67, s68, s69, s70, s71, s72, s73, s74, s75, s2, v77x7, s78, s79, s80, s81, s82, s83, s84, s85, s86, s87, s88, s89, s90, s91, s92, s93, s94, s95, s96, s97, s98, s99, s100, s101,
  s102, s103, s104, s105, s106, s107, s108, s109, s110, s111, s112, s113, s114, s115, s116, s117, s118, s119, s120, s121, s122, s123, s124, s125, s126, s127, s128, s129, s130, s131, s132, s133, s134, s135, s136, s137, s138, s139,
  s140, s141, s142, s143, s144, s145, s146, s147, s148, s149, s150, s151, s152, s153, s154, s155, s156, s157, s158, s159, s160, s161, s162, s163, s164, s165, s166, s167, s168, s169, s170, s171] H (kseq Tryz.prog (cr (cr (cr (cr
  (cr (cr (cb Tryz.f188))))))) (kfin Tryz.prog Tryz.f188 k))⟩⟩) := by kernel_rfl
theorem S188x1q (s0 s1 s2 s3 s4 s5 s6 s7 s8 s9 s10 s11 s12 s13 s14 s15 s16 s17 s18 s19 s20 s21 s22 s23 s24 s25 s26 s27 s28 s29 s30 s31 s32 s33 s34 s35 s36 s37 s38 s39 s40 s41 s42 s43 s44 s45 s46 s47 s48 s49 s50 s51 s52 s53 s54
  s55 s56 s57 s58 s59 s60 s61 s62 s63 s64 s65 s66 s67 s68 s69 s70 s71 s72 s73 s74 s75 s76 s77 s78 s79 s80 s81 s82 s83 s84 s85 s86 s87 s88 s89 s90 s91 s92 s93 s94 s95 s96 s97 s98 s99 s100 s101 s102 s103 s104 s105 s106 s107 s108
  s109 s110 s111 s112 s113 s114 s115 s116 s117 s118 s119 s120 s121 s122 s123 s124 s125 s126 s127 s128 s129 s130 s131 s132 s133 s134 s135 s136 s137 s138 s139 s140 s141 s142 s143 s144 s145 s146 s147 s148 s149 s150 s151 s152 s153
  s154 s155 s156 s157 s158 s159 s160 s161 s162 s163 s164 s165 s166 s167 s168 s169 s170 s171 : Value) (H : AHeap) (k : Value → AHeap → Prop) : S188x1 k [s0, s1, s2, s3, s4, s5, s6, s7, s8, s9, s10, s11, s12, s13, s14, s15, s16,
  s17, s18, s19, s20, s21, s22, s23, s24, s25, s26, s27, s28, s29, s30, s31, s32, s33, s34, s35, s36, s37, s38, s39, s40, s41, s42, s43, s44, s45, s46, s47, s48, s49, s50, s51, s52, s53, s54, s55, s56, s57, s58, s59, s60, s61,
  s62, s63, s64, s65, s66, s67, s68, s69, s70, s71, s72, s73, s74, s75, s76, s77, s78, s79, s80, s81, s82, s83, s84, s85, s86, s87, s88, s89, s90, s91, s92, s93, s94, s95, s96, s97, s98, s99, s100, s101, s102, s103, s104, s105,
  s106, s107, s108, s109, s110, s111, s112, s113, s114, s115, s116, s117, s118, s119, s120, s121, s122, s123, s124, s125, s126, s127, s128, s129, s130, s131, s132, s133, s134, s135, s136, s137, s138, s139, s140, s141, s142, s143,
  s144, s145, s146, s147, s148, s149, s150, s151, s152, s153, s154, s155, s156, s157, s158, s159, s160, s161, s162, s163, s164, s165, s166, s167, s168, s169, s170, s171] H = (@bnd (aBin2 Tryz.prog H .eql 3 (.tmp 85) (.const (.int
  .i64 10)) s1 (.int .i64 10)) ⟨fun v91x8 => @kifB v91x8 ⟨S188x2  k [s0, s1, s2, s3, s4, s5, s6, s7, s8, s9, (.int .u64 1844674407370955162), s11, s12, s13, s14, s15, s16, s17, s18, s19, s20, s21, s22, s23, s24, s25, s26, s27,
  s28, s29, s30, s31, s32, s33, s34, s35, s36, s37, s38, s39, s40, s41, s42, s43, s44, s45, s46, s47, s48, s49, s50, s51, s52, s53, s54, s55, s56, s57, s58, s59, s60, s61, s62, s63, s64, s65, s66, s67, s68, s69, s70, s71, s72,
  s73, s74, s75, s76, s77, s78, s79, s80, s81, s82, s83, s84, s1, s86, s87, s88, s89, v91x8, v91x8, s92, s93, s94, s95, s96, s97, s98, s99, s100, s101, s102, s103, s104, s105, s106, s107, s108, s109, s110, s111, s112, s113, s114,
  s115, s116, s117, s118, s119, s120, s121, s122, s123, s124, s125, s126, s127, s128, s129, s130, s131, s132, s133, s134, s135, s136, s137, s138, s139, s140, s141, s142, s143, s144, s145, s146, s147, s148, s149, s150, s151, s152,
  s153, s154, s155, s156, s157, s158, s159, s160, s161, s162, s163, s164, s165, s166, s167, s168, s169, s170, s171] H⟩ ⟨kx Tryz.prog (cr (cr (cl (cr (cl (cr (cr (cr (cr (cr (cr (cr (cb Tryz.f188))))))))))))) [s0, s1, s2, s3, s4,
  s5, s6, s7, s8, s9, (.int .u64 0), s11, s12, s13, s14, s15, s16, s17, s18, s19, s20, s21, s22, s23, s24, s25, s26, s27, s28, s29, s30, s31, s32, s33, s34, s35, s36, s37, s38, s39, s40, s41, s42, s43, s44, s45, s46, s47, s48,
  s49, s50, s51, s52, s53, s54, s55, s56, s57, s58, s59, s60, s61, s62, s63, s64, s65, s66, s67, s68, s69, s70, s71, s72, s73, s74, s75, s76, s77, s78, s79, s80, s81, s82, s83, s84, s1, s86, s87, s88, s89, v91x8, v91x8, s92, s93,
  s94, s95, s96, s97, s98, s99, s100, s101, s102, s103, s104, s105, s106, s107, s108, s109, s110, s111, s112, s113, s114, s115, s116, s117, s118, s119, s120, s121, s122, s123, s124, s125, s126, s127, s128, s129, s130, s131, s132,
  s133, s134, s135, s136, s137, s138, s139, s140, s141, s142, s143, s144, s145, s146, s147, s148, s149, s150, s151, s152, s153, s154, s155, s156, s157, s158, s159, s160, s161, s162, s163, s164, s165, s166, s167, s168, s169, s170,
  s171] H (kblk 2 (kseq Tryz.prog (cr (cr (cr (cr (cr (cr (cr (cr (cb Tryz.f188))))))))) (kfin Tryz.prog Tryz.f188 k)))⟩⟩) := by kernel_rfl
theorem S188x2q (s0 s1 s2 s3 s4 s5 s6 s7 s8 s9 s10 s11 s12 s13 s14 s15 s16 s17 s18 s19 s20 s21 s22 s23 s24 s25 s26 s27 s28 s29 s30 s31 s32 s33 s34 s35 s36 s37 s38 s39 s40 s41 s42 s43 s44 s45 s46 s47 s48 s49 s50 s51 s52 s53 s54
  s55 s56 s57 s58 s59 s60 s61 s62 s63 s64 s65 s66 s67 s68 s69 s70 s71 s72 s73 s74 s75 s76 s77 s78 s79 s80 s81 s82 s83 s84 s85 s86 s87 s88 s89 s90 s91 s92 s93 s94 s95 s96 s97 s98 s99 s100 s101 s102 s103 s104 s105 s106 s107 s108
  s109 s110 s111 s112 s113 s114 s115 s116 s117 s118 s119 s120 s121 s122 s123 s124 s125 s126 s127 s128 s129 s130 s131 s132 s133 s134 s135 s136 s137 s138 s139 s140 s141 s142 s143 s144 s145 s146 s147 s148 s149 s150 s151 s152 s153
  s154 s155 s156 s157 s158 s159 s160 s161 s162 s163 s164 s165 s166 s167 s168 s169 s170 s171 : Value) (H : AHeap) (k : Value → AHeap → Prop) : S188x2 k [s0, s1, s2, s3, s4, s5, s6, s7, s8, s9, s10, s11, s12, s13, s14, s15, s16,
  s17, s18, s19, s20, s21, s22, s23, s24, s25, s26, s27, s28, s29, s30, s31, s32, s33, s34, s35, s36, s37, s38, s39, s40, s41, s42, s43, s44, s45, s46, s47, s48, s49, s50, s51, s52, s53, s54, s55, s56, s57, s58, s59, s60, s61,
  s62, s63, s64, s65, s66, s67, s68, s69, s70, s71, s72, s73, s74, s75, s76, s77, s78, s79, s80, s81, s82, s83, s84, s85, s86, s87, s88, s89, s90, s91, s92, s93, s94, s95, s96, s97, s98, s99, s100, s101, s102, s103, s104, s105,
  s106, s107, s108, s109, s110, s111, s112, s113, s114, s115, s116, s117, s118, s119, s120, s121, s122, s123, s124, s125, s126, s127, s128, s129, s130, s131, s132, s133, s134, s135, s136, s137, s138, s139, s140, s141, s142, s143,
  s144, s145, s146, s147, s148, s149, s150, s151, s152, s153, s154, s155, s156, s157, s158, s159, s160, s161, s162, s163, s164, s165, s166, s167, s168, s169, s170, s171] H = (@bnd (convV Tryz.prog H 3 132 s2) ⟨fun v95x9 => @bnd
  (aBin2 Tryz.prog H .shl 178 (.const (.int .u64 1)) (.tmp 95) (.int .u64 1) v95x9) ⟨fun v96x10 => @bnd (aBin2 Tryz.prog H .sub 178 (.tmp 96) (.const (.int .u64 1)) v96x10 (.int .u64 1)) ⟨fun v97x11 => @bndE (aConv Tryz.prog H 9
  55 s0) ⟨fun v99x12 H13 => @bnd (aLen Tryz.prog H13 55 v99x12) ⟨fun v100x14 => ∃ n, L188x0 n  k [s0, s1, s2, s3, s4, s5, s6, s7, s8, s9, s10, v97x11, (.bool false), (.int .u64 0), s14, s15, s16, s17, s18, s19, s20, s21, s22,
  s23, s24, s25, s26, s27, s28, s29, s30, s31, s32, s33, s34, s35, s36, s37, s38, s39, s40, s41, s42, s43, s44, s45, s46, s47, s48, s49, s50, s51, s52, s53, s54, s55, s56, s57, s58, s59, s60, s61, s62, s63, s64, s65, s66, s67,
  s68, s69, s70, s71, s72, s73, s74, s75, s76, s77, s78, s79, s80, s81, s82, s83, s84, s85, s86, s87, s88, s89, s90, s91, s92, s93, s2, v95x9, v96x10, v97x11, s0, v99x12, v100x14, (.int .i64 0), s102, s103, s104, s105, s106,
  s107, s108, s109, s110, s111, s112, s113, s114, s115, s116, s117, s118, s119, s120, s121, s122, s123, s124, s125, s126, s127, s128, s129, s130, s131, s132, s133, s134, s135, s136, s137, s138, s139, s140, s141, s142, s143, s144,
  s145, s146, s147, s148, s149, s150, s151, s152, s153, s154, s155, s156, s157, s158, s159, s160, s161, s162, s163, s164, s165, s166, s167, s168, s169, s170, s171] H13⟩⟩⟩⟩⟩) := by kernel_rfl
theorem L188x0q (n0 : Nat) (s0 s1 s2 s3 s4 s5 s6 s7 s8 s9 s10 s11 s12 s13 s14 s15 s16 s17 s18 s19 s20 s21 s22 s23 s24 s25 s26 s27 s28 s29 s30 s31 s32 s33 s34 s35 s36 s37 s38 s39 s40 s41 s42 s43 s44 s45 s46 s47 s48 s49 s50 s51 s52
  s53 s54 s55 s56 s57 s58 s59 s60 s61 s62 s63 s64 s65 s66 s67 s68 s69 s70 s71 s72 s73 s74 s75 s76 s77 s78 s79 s80 s81 s82 s83 s84 s85 s86 s87 s88 s89 s90 s91 s92 s93 s94 s95 s96 s97 s98 s99 s100 s101 s102 s103 s104 s105 s106 s107
  s108 s109 s110 s111 s112 s113 s114 s115 s116 s117 s118 s119 s120 s121 s122 s123 s124 s125 s126 s127 s128 s129 s130 s131 s132 s133 s134 s135 s136 s137 s138 s139 s140 s141 s142 s143 s144 s145 s146 s147 s148 s149 s150 s151 s152
  s153 s154 s155 s156 s157 s158 s159 s160 s161 s162 s163 s164 s165 s166 s167 s168 s169 s170 s171 : Value) (H : AHeap) (k : Value → AHeap → Prop) : L188x0 (n0 + 1) k [s0, s1, s2, s3, s4, s5, s6, s7, s8, s9, s10, s11, s12, s13,
  s14, s15, s16, s17, s18, s19, s20, s21, s22, s23, s24, s25, s26, s27, s28, s29, s30, s31, s32, s33, s34, s35, s36, s37, s38, s39, s40, s41, s42, s43, s44, s45, s46, s47, s48, s49, s50, s51, s52, s53, s54, s55, s56, s57, s58,
  s59, s60, s61, s62, s63, s64, s65, s66, s67, s68, s69, s70, s71, s72, s73, s74, s75, s76, s77, s78, s79, s80, s81, s82, s83, s84, s85, s86, s87, s88, s89, s90, s91, s92, s93, s94, s95, s96, s97, s98, s99, s100, s101, s102,
  s103, s104, s105, s106, s107, s108, s109, s110, s111, s112, s113, s114, s115, s116, s117, s118, s119, s120, s121, s122, s123, s124, s125, s126, s127, s128, s129, s130, s131, s132, s133, s134, s135, s136, s137, s138, s139, s140,
  s141, s142, s143, s144, s145, s146, s147, s148, s149, s150, s151, s152, s153, s154, s155, s156, s157, s158, s159, s160, s161, s162, s163, s164, s165, s166, s167, s168, s169, s170, s171] H = (@bnd (aBin2 Tryz.prog H .lss 3 (.tmp
  101) (.tmp 100) s101 s100) ⟨fun v102x15 => @kifB v102x15 ⟨@bnd (aIndexAddr Tryz.prog H 55 s99 s101) ⟨fun v103x16 => @bnd (aLoad Tryz.prog H 5 v103x16) ⟨fun v104x17 => @bnd (aBin2 Tryz.prog H .eql 5 (.tmp 107) (.const (.int .u8
  95)) v104x17 (.int .u8 95)) ⟨fun v108x18 => @bnd (gif v108x18 true ((some s8)) undef) ⟨fun v110x19 => @bnd (pickV v108x18 v110x19 (.bool false)) ⟨fun v111x20 => @kifB v111x20 ⟨kx Tryz.prog (cl (cr (cl (cl (cr (cr (cl (cl (cr
  (cr (cl (cl (cr (cl (cr (cr (cr (cr (cr (cr (cr (cr (cr (cr (cr (cb Tryz.f188)))))))))))))))))))))))))) [s0, s1, s2, s3, s4, s5, s6, s7, s8, s9, s10, s11, s12, s13, s14, v104x17, (.int .u8 0), s17, s18, s19, s20, s21, s22, s23,
  s24, s25, s26, s27, s28, s29, s30, s31, s32, s33, s34, s35, s36, s37, s38, s39, s40, s41, s42, s43, s44, s45, s46, s47, s48, s49, s50, s51, s52, s53, s54, s55, s56, s57, s58, s59, s60, s61, s62, s63, s64, s65, s66, s67, s68,
  s69, s70, s71, s72, s73, s74, s75, s76, s77, s78, s79, s80, s81, s82, s83, s84, s85, s86, s87, s88, s89, s90, s91, s92, s93, s94, s95, s96, s97, s98, s99, s100, s101, v102x15, v103x16, v104x17, s105, v111x20, v104x17, v108x18,
  v108x18, v110x19, v111x20, s112, s113, s114, s115, s116, s117, s118, s119, s120, s121, s122, s123, s124, s125, s126, s127, s128, s129, s130, s131, s132, s133, s134, s135, s136, s137, s138, s139, s140, s141, s142, s143, s144,
  s145, s146, s147, s148, s149, s150, s151, s152, s153, s154, s155, s156, s157, s158, s159, s160, s161, s162, s163, s164, s165, s166, s167, s168, s169, s170, s171] H (kblk 5 (kseq Tryz.prog (cr (cr (cr (cl (cl (cr (cr (cl (cl (cr
  (cl (cr (cr (cr (cr (cr (cr (cr (cr (cr (cr (cr (cb Tryz.f188))))))))))))))))))))))) (kblk 4 (kseq Tryz.prog (cr (cr (cr (cl (cl (cr (cl (cr (cr (cr (cr (cr (cr (cr (cr (cr (cr (cr (cb Tryz.f188))))))))))))))))))) (kit
  Tryz.prog (cl (cl (cr (cl (cr (cr (cr (cr (cr (cr (cr (cr (cr (cr (cr (cb Tryz.f188)))))))))))))))) n0 (kblk 3 (kseq Tryz.prog (cr (cr (cr (cr (cr (cr (cr (cr (cr (cr (cr (cr (cb Tryz.f188))))))))))))) (kfin Tryz.prog Tryz.f188
  k))))))))⟩ ⟨@bnd (aBin2 Tryz.prog H .leq 5 (.const (.int .u8 48)) (.tmp 113) (.int .u8 48) v104x17) ⟨fun v114x21 => @bnd (gif v114x21 true ((some v104x17)) undef) ⟨fun v116x22 => @bnd (gif v114x21 true (aBin2 Tryz.prog H .leq 5
  (.tmp 116) (.const (.int .u8 57)) v116x22 (.int .u8 57)) undef) ⟨fun v117x23 => @bnd (pickV v114x21 v117x23 (.bool false)) ⟨fun v118x24 => @kifB v118x24 ⟨@bnd (aBin2 Tryz.prog H .sub 5 (.tmp 119) (.const (.int .u8 48)) v104x17
  (.int .u8 48)) ⟨fun v120x25 => S188x3 n0 k [s0, s1, s2, s3, s4, s5, s6, s7, s8, s9, s10, s11, s12, s13, s14, v104x17, v120x25, s17, s18, s19, s20, s21, s22, s23, s24, s25, s26, s27, s28, s29, s30, s31, s32, s33, s34, s35, s36,
  s37, s38, s39, s40, s41, s42, s43, s44, s45, s46, s47, s48, s49, s50, s51, s52, s53, s54, s55, s56, s57, s58, s59, s60, s61, s62, s63, s64, s65, s66, s67, s68, s69, s70, s71, s72, s73, s74, s75, s76, s77, s78, s79, s80, s81,
  s82, s83, s84, s85, s86, s87, s88, s89, s90, s91, s92, s93, s94, s95, s96, s97, s98, s99, s100, s101, v102x15, v103x16, v104x17, s105, v111x20, v104x17, v108x18, v108x18, v110x19, v111x20, v118x24, v104x17, v114x21, v114x21,
  v116x22, v117x23, v118x24, v104x17, v120x25, s121, s122, s123, s124, s125, s126, s127, s128, s129, s130, s131, s132, s133, s134, s135, s136, s137, s138, s139, s140, s141, s142, s143, s144, s145, s146, s147, s148, s149, s150,
  s151, s152, s153, s154, s155, s156, s157, s158, s159, s160, s161, s162, s163, s164, s165, s166, s167, s168, s169, s170, s171] H⟩⟩ ⟨@bndC Tryz.prog 197 [v104x17] H ⟨fun v123x26 H27 => @bnd (aBin2 Tryz.prog H27 .leq 5 (.const
  (.int .u8 97)) (.tmp 123) (.int .u8 97) v123x26) ⟨fun v124x28 => @bnd (gif v124x28 true ((some v104x17)) undef) ⟨fun v126x29 => @bndG v124x28 true H27 ⟨fun v127x30 H31 => ACalls Tryz.prog 197 [v126x29] H27 v127x30 H31⟩ ⟨fun
  v127x30 H31 => @bnd (gif v124x28 true (aBin2 Tryz.prog H31 .leq 5 (.tmp 127) (.const (.int .u8 122)) v127x30 (.int .u8 122)) undef) ⟨fun v128x32 => @bnd (pickV v124x28 v128x32 (.bool false)) ⟨fun v129x33 => @kifB v129x33 ⟨kx
  Tryz.prog (cl (cr (cr (cr (cr (cr (cl (cl (cr (cr (cl (cl (cr (cr (cl (cl (cr (cl (cr (cr (cr (cr (cr (cr (cr (cr (cr (cr (cr (cb Tryz.f188)))))))))))))))))))))))))))))) [s0, s1, s2, s3, s4, s5, s6, s7, s8, s9, s10, s11, s12,
  s13, s14, v104x17, (.int .u8 0), s17, s18, s19, s20, s21, s22, s23, s24, s25, s26, s27, s28, s29, s30, s31, s32, s33, s34, s35, s36, s37, s38, s39, s40, s41, s42, s43, s44, s45, s46, s47, s48, s49, s50, s51, s52, s53, s54, s55,
  s56, s57, s58, s59, s60, s61, s62, s63, s64, s65, s66, s67, s68, s69, s70, s71, s72, s73, s74, s75, s76, s77, s78, s79, s80, s81, s82, s83, s84, s85, s86, s87, s88, s89, s90, s91, s92, s93, s94, s95, s96, s97, s98, s99, s100,
  s101, v102x15, v103x16, v104x17, s105, v111x20, v104x17, v108x18, v108x18, v110x19, v111x20, v118x24, v104x17, v114x21, v114x21, v116x22, v117x23, v118x24, s119, s120, v129x33, v104x17, v123x26, v124x28, v124x28, v126x29,
  v127x30, v128x32, v129x33, s130, s131, s132, s133, s134, s135, s136, s137, s138, s139, s140, s141, s142, s143, s144, s145, s146, s147, s148, s149, s150, s151, s152, s153, s154, s155, s156, s157, s158, s159, s160, s161, s162,
  s163, s164, s165, s166, s167, s168, s169, s170, s171] H31 (kblk 5 (kseq Tryz.prog (cr (cr (cr (cl (cl (cr (cr (cl (cl (cr (cl (cr (cr (cr (cr (cr (cr (cr (cr (cr (cr (cr (cb Tryz.f188))))))))))))))))))))))) (kblk 4 (kseq
  Tryz.prog (cr (cr (cr (cl (cl (cr (cl (cr (cr (cr (cr (cr (cr (cr (cr (cr (cr (cr (cb Tryz.f188))))))))))))))))))) (kit Tryz.prog (cl (cl (cr (cl (cr (cr (cr (cr (cr (cr (cr (cr (cr (cr (cr (cb Tryz.f188)))))))))))))))) n0
  (kblk 3 (kseq Tryz.prog (cr (cr (cr (cr (cr (cr (cr (cr (cr (cr (cr (cr (cb Tryz.f188))))))))))))) (kfin Tryz.prog Tryz.f188 k))))))))⟩ ⟨k (.tuple #[(.int .u64 0), (.iface 205 (.int .i64 2))]) H31⟩⟩⟩⟩⟩⟩⟩⟩⟩⟩⟩⟩⟩⟩⟩⟩⟩⟩⟩ ⟨@bnd (gif
  s12 true ((some s9)) undef) ⟨fun v166x34 => @bndG s12 true H ⟨fun v167x35 H36 => ACalls Tryz.prog 198 [v166x34] H v167x35 H36⟩ ⟨fun v167x35 H36 => @bnd (gif s12 true (unV Tryz.prog .not v167x35) undef) ⟨fun v168x37 => @bnd
  (pickV s12 v168x37 (.bool false)) ⟨fun v169x38 => @kifB v169x38 ⟨k (.tuple #[(.int .u64 0), (.iface 205 (.int .i64 2))]) H36⟩ ⟨k (.tuple #[s13, .nilIface]) H36⟩⟩⟩⟩⟩⟩⟩) := by kernel_rfl
theorem S188x3q (n0 : Nat) (s0 s1 s2 s3 s4 s5 s6 s7 s8 s9 s10 s11 s12 s13 s14 s15 s16 s17 s18 s19 s20 s21 s22 s23 s24 s25 s26 s27 s28 s29 s30 s31 s32 s33 s34 s35 s36 s37 s38 s39 s40 s41 s42 s43 s44 s45 s46 s47 s48 s49 s50 s51 s52
  s53 s54 s55 s56 s57 s58 s59 s60 s61 s62 s63 s64 s65 s66 s67 s68 s69 s70 s71 s72 s73 s74 s75 s76 s77 s78 s79 s80 s81 s82 s83 s84 s85 s86 s87 s88 s89 s90 s91 s92 s93 s94 s95 s96 s97 s98 s99 s100 s101 s102 s103 s104 s105 s106 s107
  s108 s109 s110 s111 s112 s113 s114 s115 s116 s117 s118 s119 s120 s121 s122 s123 s124 s125 s126 s127 s128 s129 s130 s131 s132 s133 s134 s135 s136 s137 s138 s139 s140 s141 s142 s143 s144 s145 s146 s147 s148 s149 s150 s151 s152
  s153 s154 s155 s156 s157 s158 s159 s160 s161 s162 s163 s164 s165 s166 s167 s168 s169 s170 s171 : Value) (H : AHeap) (k : Value → AHeap → Prop) : S188x3 n0 k [s0, s1, s2, s3, s4, s5, s6, s7, s8, s9, s10, s11, s12, s13, s14, s15,
  s16, s17, s18, s19, s20, s21, s22, s23, s24, s25, s26, s27, s28, s29, s30, s31, s32, s33, s34, s35, s36, s37, s38, s39, s40, s41, s42, s43, s44, s45, s46, s47, s48, s49, s50, s51, s52, s53, s54, s55, s56, s57, s58, s59, s60,
  s61, s62, s63, s64, s65, s66, s67, s68, s69, s70, s71, s72, s73, s74, s75, s76, s77, s78, s79, s80, s81, s82, s83, s84, s85, s86, s87, s88, s89, s90, s91, s92, s93, s94, s95, s96, s97, s98, s99, s100, s101, s102, s103, s104,
  s105, s106, s107, s108, s109, s110, s111, s112, s113, s114, s115, s116, s117, s118, s119, s120, s121, s122, s123, s124, s125, s126, s127, s128, s129, s130, s131, s132, s133, s134, s135, s136, s137, s138, s139, s140, s141, s142,
  s143, s144, s145, s146, s147, s148, s149, s150, s151, s152, s153, s154, s155, s156, s157, s158, s159, s160, s161, s162, s163, s164, s165, s166, s167, s168, s169, s170, s171] H = (@bnd (convV Tryz.prog H 3 5 s1) ⟨fun v136x39 =>
  @bnd (aBin2 Tryz.prog H .geq 5 (.tmp 134) (.tmp 136) s16 v136x39) ⟨fun v137x40 => @kifB v137x40 ⟨k (.tuple #[(.int .u64 0), (.iface 205 (.int .i64 2))]) H⟩ ⟨@bnd (aBin2 Tryz.prog H .geq 178 (.tmp 139) (.tmp 140) s13 s10) ⟨fun
  v141x41 => @kifB v141x41 ⟨k (.tuple #[s11, (.iface 205 (.int .i64 1))]) H⟩ ⟨@bnd (convV Tryz.prog H 3 178 s1) ⟨fun v146x42 => @bnd (aBin2 Tryz.prog H .mul 178 (.tmp 144) (.tmp 146) s13 v146x42) ⟨fun v147x43 => @bnd (convV
  Tryz.prog H 5 178 s16) ⟨fun v150x44 => @bnd (aBin2 Tryz.prog H .add 178 (.tmp 148) (.tmp 150) v147x43 v150x44) ⟨fun v151x45 => @bnd (aBin2 Tryz.prog H .lss 178 (.tmp 152) (.tmp 153) v151x45 v147x43) ⟨fun v154x46 => @bnd (gif
  v154x46 false ((some v151x45)) undef) ⟨fun v156x47 => @bnd (gif v154x46 false ((some s11)) undef) ⟨fun v157x48 => @bnd (gif v154x46 false (aBin2 Tryz.prog H .gtr 178 (.tmp 156) (.tmp 157) v156x47 v157x48) undef) ⟨fun v158x49 =>
  @bnd (pickV v154x46 (.bool true) v158x49) ⟨fun v159x50 => @kifB v159x50 ⟨k (.tuple #[s11, (.iface 205 (.int .i64 1))]) H⟩ ⟨S188x4 n0 k [s0, s1, s2, s3, s4, s5, s6, s7, s8, s9, s10, s11, s12, v151x45, s14, s15, s16, v151x45,
  s18, s19, s20, s21, s22, s23, s24, s25, s26, s27, s28, s29, s30, s31, s32, s33, s34, s35, s36, s37, s38, s39, s40, s41, s42, s43, s44, s45, s46, s47, s48, s49, s50, s51, s52, s53, s54, s55, s56, s57, s58, s59, s60, s61, s62,
  s63, s64, s65, s66, s67, s68, s69, s70, s71, s72, s73, s74, s75, s76, s77, s78, s79, s80, s81, s82, s83, s84, s85, s86, s87, s88, s89, s90, s91, s92, s93, s94, s95, s96, s97, s98, s99, s100, s101, s102, s103, s104, s105, s106,
  s107, s108, s109, s110, s111, s112, s113, s114, s115, s116, s117, s118, s119, s120, s121, s122, s123, s124, s125, s126, s127, s128, s129, s130, s131, s132, s133, s16, s1, v136x39, v137x40, s138, s13, s10, v141x41, s142, s143,
  s13, s1, v146x42, v147x43, v147x43, s16, v150x44, v151x45, v151x45, v147x43, v154x46, v154x46, v156x47, v157x48, v158x49, v159x50, s160, s161, v151x45, s163, s164, s165, s166, s167, s168, s169, s170, s171] H⟩⟩⟩⟩⟩⟩⟩⟩⟩⟩⟩⟩⟩⟩⟩) :=
  by kernel_rfl
theorem S188x4q (n0 : Nat) (s0 s1 s2 s3 s4 s5 s6 s7 s8 s9 s10 s11 s12 s13 s14 s15 s16 s17 s18 s19 s20 s21 s22 s23 s24 s25 s26 s27 s28 s29 s30 s31 s32 s33 s34 s35 s36 s37 s38 s39 s40 s41 s42 s43 s44 s45 s46 s47 s48 s49 s50 s51 s52
  s53 s54 s55 s56 s57 s58 s59 s60 s61 s62 s63 s64 s65 s66 s67 s68 s69 s70 s71 s72 s73 s74 s75 s76 s77 s78 s79 s80 s81 s82 s83 s84 s85 s86 s87 s88 s89 s90 s91 s92 s93 s94 s95 s96 s97 s98 s99 s100 s101 s102 s103 s104 s105 s106 s107
  s108 s109 s110 s111 s112 s113 s114 s115 s116 s117 s118 s119 s120 s121 s122 s123 s124 s125 s126 s127 s128 s129 s130 s131 s132 s133 s134 s135 s136 s137 s138 s139 s140 s141 s142 s143 s144 s145 s146 s147 s148 s149 s150 s151 s152
  s153 s154 s155 s156 s157 s158 s159 s160 s161 s162 s163 s164 s165 s166 s167 s168 s169 s170 s171 : Value) (H : AHeap) (k : Value → AHeap → Prop) : S188x4 n0 k [s0, s1, s2, s3, s4, s5, s6, s7, s8, s9, s10, s11, s12, s13, s14, s15,
  s16, s17, s18, s19, s20, s21, s22, s23, s24, s25, s26, s27, s28, s29, s30, s31, s32, s33, s34, s35, s36, s37, s38, s39, s40, s41, s42, s43, s44, s45, s46, s47, s48, s49, s50, s51, s52, s53, s54, s55, s56, s57, s58, s59, s60,
  s61, s62, s63, s64, s65, s66, s67, s68, s69, s70, s71, s72, s73, s74, s75, s76, s77, s78, s79, s80, s81, s82, s83, s84, s85, s86, s87, s88, s89, s90, s91, s92, s93, s94, s95, s96, s97, s98, s99, s100, s101, s102, s103, s104,
  s105, s106, s107, s108, s109, s110, s111, s112, s113, s114, s115, s116, s117, s118, s119, s120, s121, s122, s123, s124, s125, s126, s127, s128, s129, s130, s131, s132, s133, s134, s135, s136, s137, s138, s139, s140, s141, s142,
  s143, s144, s145, s146, s147, s148, s149, s150, s151, s152, s153, s154, s155, s156, s157, s158, s159, s160, s161, s162, s163, s164, s165, s166, s167, s168, s169, s170, s171] H = (@bnd (aBin2 Tryz.prog H .add 3 (.tmp 101)
  (.const (.int .i64 1)) s101 (.int .i64 1)) ⟨fun v163x51 => L188x0 n0  k [s0, s1, s2, s3, s4, s5, s6, s7, s8, s9, s10, s11, s12, s13, s14, s15, s16, s17, s18, s19, s20, s21, s22, s23, s24, s25, s26, s27, s28, s29, s30, s31, s32,
  s33, s34, s35, s36, s37, s38, s39, s40, s41, s42, s43, s44, s45, s46, s47, s48, s49, s50, s51, s52, s53, s54, s55, s56, s57, s58, s59, s60, s61, s62, s63, s64, s65, s66, s67, s68, s69, s70, s71, s72, s73, s74, s75, s76, s77,
  s78, s79, s80, s81, s82, s83, s84, s85, s86, s87, s88, s89, s90, s91, s92, s93, s94, s95, s96, s97, s98, s99, s100, v163x51, s102, s103, s104, s105, s106, s107, s108, s109, s110, s111, s112, s113, s114, s115, s116, s117, s118,
  s119, s120, s121, s122, s123, s124, s125, s126, s127, s128, s129, s130, s131, s132, s133, s134, s135, s136, s137, s138, s139, s140, s141, s142, s143, s144, s145, s146, s147, s148, s149, s150, s151, s152, s153, s154, s155, s156,
  s157, s158, s159, s160, s161, s162, v163x51, s164, s165, s166, s167, s168, s169, s170, s171] H⟩) := by kernel_rfl
-- internal/stringslite.Clone
theorem d189 (a0 : Value) (H : AHeap) (k : Value → AHeap → Prop) : kbody Tryz.prog Tryz.f189 [a0] H k = (@bnd (aLen Tryz.prog H 9 a0) ⟨fun v5x1 => @bnd (aBin2 Tryz.prog H .eql 3 (.tmp 5) (.const (.int .i64 0)) v5x1 (.int .i64 0))
  ⟨fun v6x2 => @kifB v6x2 ⟨k (.string { data := #[] }) H⟩ ⟨@bnd (aLen Tryz.prog H 9 a0) ⟨fun v8x3 => @bndE (aMake Tryz.prog H 55 v8x3 v8x3) ⟨fun v9x4 H5 => @bndE (aBuiltin Tryz.prog H5 Builtin.copy #[55, 9] [v9x4, a0]) ⟨fun _ H7
  => @bnd (aIndexAddr Tryz.prog H7 55 v9x4 (.int .i64 0)) ⟨fun v14x8 => @bnd (aLen Tryz.prog H7 55 v9x4) ⟨fun v16x9 => @bndE (aBuiltin Tryz.prog H7 Builtin.unsafeString #[157, 3] [v14x8, v16x9]) ⟨fun v17x10 H11 => k v17x10
  H11⟩⟩⟩⟩⟩⟩⟩⟩⟩) := by kernel_rfl
-- math/bits.Mul64
theorem d192 (a0 a1 : Value) (H : AHeap) (k : Value → AHeap → Prop) : kbody Tryz.prog Tryz.f192 [a0, a1] H k = (@bnd (aBin2 Tryz.prog H .and 178 (.tmp 14) (.const (.int .u64 4294967295)) a0 (.int .u64 4294967295)) ⟨fun v15x1 =>
  @bnd (aBin2 Tryz.prog H .shr 178 (.tmp 16) (.const (.int .u64 32)) a0 (.int .u64 32)) ⟨fun v17x2 => @bnd (aBin2 Tryz.prog H .and 178 (.tmp 18) (.const (.int .u64 4294967295)) a1 (.int .u64 4294967295)) ⟨fun v19x3 => @bnd (aBin2
  Tryz.prog H .shr 178 (.tmp 20) (.const (.int .u64 32)) a1 (.int .u64 32)) ⟨fun v21x4 => @bnd (aBin2 Tryz.prog H .mul 178 (.tmp 22) (.tmp 23) v15x1 v19x3) ⟨fun v24x5 => @bnd (aBin2 Tryz.prog H .mul 178 (.tmp 25) (.tmp 26) v17x2
  v19x3) ⟨fun v27x6 => @bnd (aBin2 Tryz.prog H .shr 178 (.tmp 28) (.const (.int .u64 32)) v24x5 (.int .u64 32)) ⟨fun v29x7 => @bnd (aBin2 Tryz.prog H .add 178 (.tmp 27) (.tmp 29) v27x6 v29x7) ⟨fun v30x8 => @bnd (aBin2 Tryz.prog H
  .and 178 (.tmp 31) (.const (.int .u64 4294967295)) v30x8 (.int .u64 4294967295)) ⟨fun v32x9 => @bnd (aBin2 Tryz.prog H .shr 178 (.tmp 33) (.const (.int .u64 32)) v30x8 (.int .u64 32)) ⟨fun v34x10 => @bnd (aBin2 Tryz.prog H .mul
  178 (.tmp 36) (.tmp 37) v15x1 v21x4) ⟨fun v38x11 => @bnd (aBin2 Tryz.prog H .add 178 (.tmp 35) (.tmp 38) v32x9 v38x11) ⟨fun v39x12 => @bnd (aBin2 Tryz.prog H .mul 178 (.tmp 40) (.tmp 41) v17x2 v21x4) ⟨fun v42x13 => @bnd (aBin2
  Tryz.prog H .add 178 (.tmp 42) (.tmp 43) v42x13 v34x10) ⟨fun v44x14 => @bnd (aBin2 Tryz.prog H .shr 178 (.tmp 45) (.const (.int .u64 32)) v39x12 (.int .u64 32)) ⟨fun v46x15 => @bnd (aBin2 Tryz.prog H .add 178 (.tmp 44) (.tmp
  46) v44x14 v46x15) ⟨fun v47x16 => @bnd (aBin2 Tryz.prog H .mul 178 (.tmp 48) (.tmp 49) a0 a1) ⟨fun v50x17 => k (.tuple #[v47x16, v50x17]) H⟩⟩⟩⟩⟩⟩⟩⟩⟩⟩⟩⟩⟩⟩⟩⟩⟩) := by kernel_rfl
-- internal/strconv.lower
theorem d197 (a0 : Value) (H : AHeap) (k : Value → AHeap → Prop) : kbody Tryz.prog Tryz.f197 [a0] H k = (@bnd (aBin2 Tryz.prog H .or 5 (.tmp 3) (.const (.int .u8 32)) a0 (.int .u8 32)) ⟨fun v4x1 => k v4x1 H⟩) := by kernel_rfl

end Go.Vi
namespace Go.Vi
open Go Go.Proofs

theorem MixT : Tryz.prog.follows .mixedOrders = true := by kernel_rfl
def isLow (b : UInt8) : Bool := decide (97 ≤ (b.toNat : Int)) && decide ((b.toNat : Int) ≤ 122)
def isDig (b : UInt8) : Bool := decide (48 ≤ (b.toNat : Int)) && decide ((b.toNat : Int) ≤ 57)
def isMark (b : UInt8) : Bool := isLow b || isDig b || (b.toNat : Int) == 95
def isSign (b : UInt8) : Bool := decide (32 ≤ (b.toNat : Int)) && decide ((b.toNat : Int) ≤ 126)
def mayName (l : List UInt8) : Bool := decide (1 ≤ l.length) && decide (l.length ≤ 16) && (l[0]?).any isLow && l.all isMark
def mayValue (l : List UInt8) : Bool := decide (1 ≤ l.length) && decide (l.length ≤ 32) && l.all isSign
theorem c_lab_letter (H : AHeap) (b : UInt8) : ACalls Tryz.prog 162 [byt b] H (.bool (isLow b)) H := by
  refine acalls_pure MixT Tryz.func162 (by decide) rfl ?_
  rw [d162]
  simp +contextual [isLow]
theorem c_lab_mark (H : AHeap) (b : UInt8) : ACalls Tryz.prog 164 [byt b] H (.bool (isMark b)) H := by
  refine acalls_pure MixT Tryz.func164 (by decide) rfl ?_
  rw [d164]
  refine bndC_of (c_lab_letter _ _) ?_
  simp +contextual [isMark, isDig]
theorem c_lab_sign (H : AHeap) (b : UInt8) : ACalls Tryz.prog 185 [byt b] H (.bool (isSign b)) H := by
  refine acalls_pure MixT Tryz.func185 (by decide) rfl ?_
  rw [d185]
  simp +contextual [isSign]
theorem every_loop {l : List UInt8} {g : FuncId} {p : UInt8 → Bool} {H : AHeap} {k : Value → AHeap → Prop} (hp : ∀ b, ACalls Tryz.prog g [byt b] H (.bool (p b)) H) (hl : l.length < 2 ^ 63) :
    ∀ (r : List UInt8) (i : Nat) (s2 s3 s4 s5 s9 s10 s11 s12 s13 s14 s15 s16 s17 : Value), l.drop i = r → i ≤ l.length → k (.bool (r.all p)) H →
      L163x0 (r.length + 1) k [str l, .func (.func g) #[] #[], s2, s3, s4, s5, str l, i64 l.length, i64 i, s9, s10, s11, s12, s13, s14, s15, s16, s17] H := by
  intro r
  induction r with
  | nil =>
    intro i s2 s3 s4 s5 s9 s10 s11 s12 s13 s14 s15 s16 s17 hd hi hk
    have hle : l.length ≤ i := by simpa using hd
    rw [List.length_nil, L163x0q]
    have : ¬ i < l.length := by omega
    simp [this]
    simpa using hk
  | cons b r ih =>
    intro i s2 s3 s4 s5 s9 s10 s11 s12 s13 s14 s15 s16 s17 hd hi hk
    have hb : l[i]? = some b := by rw [← List.head?_drop, hd]; rfl
    have hlt : i < l.length := (List.getElem?_eq_some_iff.1 hb).1
    rw [List.length_cons, L163x0q]
    simp [hlt, aIndex_at _ hb]
    refine bndV_func (by simpa using hp b) ?_
    simp
    refine kifB_bool (fun h => ?_) (fun h => ?_)
    · simp at h
      simpa [h] using hk
    · simp at h
      simp [show i + 1 < 2 ^ 63 by omega]
      exact ih (i + 1) _ _ _ _ _ _ _ _ _ _ _ _ _ (by rw [← List.drop_drop, hd]; rfl) hlt (by simpa [h] using hk)
theorem c_every {H : AHeap} {l : List UInt8} {g : FuncId} {p : UInt8 → Bool} (hp : ∀ b, ACalls Tryz.prog g [byt b] H (.bool (p b)) H) (hl : l.length < 2 ^ 63) :
    ACalls Tryz.prog 163 [str l, .func (.func g) #[] #[]] H (.bool (l.all p)) H := by
  refine acalls_pure MixT Tryz.func163 (by decide) rfl ?_
  rw [d163]
  simp
  exact ⟨l.length + 1, every_loop hp hl l 0 _ _ _ _ _ _ _ _ _ _ _ _ _ rfl (by omega) ⟨rfl, [], by simp⟩⟩
theorem c_mayName (H : AHeap) (l : List UInt8) : ACalls Tryz.prog 138 [str l] H (.bool (mayName l)) H := by
  refine acalls_pure MixT Tryz.func138 (by decide) rfl ?_
  rw [d138]
  cases l with
  | nil => simp [mayName]
  | cons b r =>
    have hb : (b :: r)[0]? = some b := rfl
    have h0 := aIndex_at (P := Tryz.prog) (T := 9) (k := .i64) (i := 0) (by simp) hb
    simp only [Int.ofNat_zero] at h0
    simp +contextual [h0]
    refine bndG_call (.bool (isLow b)) (fun h => ?_) ?_
    · simp only [h, gsel_tt]; exact c_lab_letter _ _
    simp +contextual
    refine bndG_call (.bool ((b :: r).all isMark)) (fun h => ?_) ?_
    · have hh := h
      simp at h
      simp only [hh, gsel_tt]; exact c_every (c_lab_mark _) (by simp; omega)
    · simp +contextual [mayName]
      have : decide (1 ≤ (r.length : Int) + 1) = true := by simp; omega
      have h2 : decide ((r.length : Int) + 1 ≤ 16) = decide (r.length ≤ 15) := by rw [decide_eq_decide]; omega
      rw [this, h2, Bool.true_and]

theorem c_mayValue (H : AHeap) (l : List UInt8) : ACalls Tryz.prog 165 [str l] H (.bool (mayValue l)) H := by
  refine acalls_pure MixT Tryz.func165 (by decide) rfl ?_
  rw [d165]
  simp +contextual
  refine bndG_call (.bool (l.all isSign)) (fun h => ?_) ?_
  · have hh := h
    simp at h
    simp only [hh, gsel_tt]; exact c_every (c_lab_sign _) (by omega)
  · simp +contextual
    rw [mayValue]
    congr 2 <;> rw [decide_eq_decide] <;> omega

structure Mat where
  name : List UInt8
  op : Int
  value : List UInt8
def Mat.cells (m : Mat) : List Value := [str m.name, .int .u8 m.op, str m.value]
def mayM (s : List UInt8) : Bool := decide (s = []) || mayValue s
def Mat.ok (m : Mat) : Bool := (m.op == 0 || m.op == 1 || m.op == 2) && mayName m.name && mayM m.value
def mayMats (ms : List Mat) : Bool := ms.all Mat.ok && decide (ms.length ≤ 6)
theorem c_matMay (H : AHeap) (l : List UInt8) : ACalls Tryz.prog 139 [str l] H (.bool (mayM l)) H := by
  refine acalls_pure MixT Tryz.func139 (by decide) rfl ?_
  rw [d139]
  simp +contextual
  refine bndG_call (.bool (mayValue l)) (fun h => ?_) ?_
  · simp only [h, gsel_ff]; exact c_mayValue _ _
  · simp +contextual [mayM]
def opsMap : List (Value × Value) := [(.int .u8 0, .agg #[str [61], .func (.func 131) #[] #[]]), (.int .u8 1, .agg #[str [33, 61], .func (.func 132) #[] #[]]), (.int .u8 2, .agg #[str [94, 61], .func (.func 133) #[] #[]])]
theorem c_matOps (H : AHeap) : ACalls Tryz.prog 109 [] H (.map (some H.length)) (H ++ [.map opsMap]) := by
  refine acalls_of MixT Tryz.func109 (by decide) ?_
  rw [d109]
  simp [keyOk, mOk, mput, mfind, keyEq, opsMap]
def MatsAt (H : AHeap) (v : Value) (ms : List Mat) : Prop := Arr H 3 v (ms.map Mat.cells)
theorem MatsAt.pre {H K v ms} (h : MatsAt H v ms) (p : Pre H K) : MatsAt K v ms := Arr.pre h p
def isOp (n : Int) : Bool := n == 0 || n == 1 || n == 2
def opS (n : Int) : List UInt8 := if n = 0 then [61] else if n = 1 then [33, 61] else if n = 2 then [94, 61] else []
def opF (n : Int) : Value := if n = 0 then .func (.func 131) #[] #[] else if n = 1 then .func (.func 132) #[] #[] else if n = 2 then .func (.func 133) #[] #[] else .nilFunc
theorem opF_one (n : Int) : (opF n).oneCell' = true := by unfold opF; split <;> (try split) <;> (try split) <;> rfl
theorem opsOk : mOk (.int .u8) opsMap = true := by simp [mOk, opsMap, keyOk]
theorem opsLook {K : AHeap} {mb : Nat} (n : Int) (h : K[mb]? = some (.map opsMap)) : aLookup Tryz.prog K 146 (.map (some mb)) (.int .u8 n) true = some (.tuple #[.agg #[str (opS n), opF n], .bool (isOp n)]) := by
  rw [aLookup_map, h]
  simp only [tm146, Option.bind_some, mapOf_map, opsOk, keyOk, beq_self_eq_true, if_true]
  unfold mget opsMap opS opF isOp
  simp only [mfind, keyEq]
  by_cases h0 : n = 0
  · simp [h0]
  · by_cases h1 : n = 1
    · simp [h1]
    · by_cases h2 : n = 2
      · simp [h2]
      · simp [h0, h1, h2, cok, isLit]
theorem matMay_loop {v : Value} {ms : List Mat} {H : AHeap} {w : Bool} {mb : Nat} {k : Value → AHeap → Prop} (hl : ms.length < 2 ^ 63) (hk : ∀ K, Pre H K → k (.bool w) K) :
    ∀ (r : List Mat) (i : Nat) (K : AHeap) (s1 s2 s4 s5 s6 s7 s8 s12 s13 s14 s15 s16 s17 s18 s19 s20 s21 s22 s23 s24 s25 s26 s27 s28 s29 s30 s31 s32 s33 s34 s35 s36 s37 s38 s39 : Value), ms.drop i = r → i ≤ ms.length → Pre H K → MatsAt K v ms → K[mb]? = some (.map opsMap) →
      w = (r.all Mat.ok && decide (ms.length ≤ 6)) →
      L115x0 (r.length + 1) k [v, s1, s2, .map (some mb), s4, s5, s6, s7, s8, v, i64 ms.length, i64 i, s12, s13, s14, s15, s16, s17, s18, s19, s20, s21, s22, s23, s24, s25, s26, s27, s28, s29, s30, s31, s32, s33, s34, s35, s36, s37, s38, s39] K := by
  intro r
  induction r with
  | nil =>
    intro i K s1 s2 s4 s5 s6 s7 s8 s12 s13 s14 s15 s16 s17 s18 s19 s20 s21 s22 s23 s24 s25 s26 s27 s28 s29 s30 s31 s32 s33 s34 s35 s36 s37 s38 s39 hd hi hp hm hmap hw
    have hle : ms.length ≤ i := by simpa using hd
    rw [List.length_nil, L115x0q]
    have : ¬ i < ms.length := by omega
    have hlen := hm.len (P := Tryz.prog) (T := 35) (e := 75) (by simp)
    simp at hlen
    simp [this, hlen]
    have := hk K hp
    rw [hw] at this
    have e : decide ((ms.length : Int) ≤ 6) = decide (ms.length ≤ 6) := by rw [decide_eq_decide]; omega
    rw [e]; simpa using this
  | cons m r ih =>
    intro i K s1 s2 s4 s5 s6 s7 s8 s12 s13 s14 s15 s16 s17 s18 s19 s20 s21 s22 s23 s24 s25 s26 s27 s28 s29 s30 s31 s32 s33 s34 s35 s36 s37 s38 s39 hd hi hp hm hmap hw
    have hb : ms[i]? = some m := by rw [← List.head?_drop, hd]; rfl
    have hlt : i < ms.length := (List.getElem?_eq_some_iff.1 hb).1
    obtain ⟨p, hp1, hp2⟩ := hm.load (P := Tryz.prog) (T := 35) (te := 75) (i := i) (e := m.cells) (by simp) (by simp) (by simp) (by simp [hb])
    have hmb : mb < K.length := (List.getElem?_eq_some_iff.1 hmap).1
    have hg : ∀ X : AHeap, (K ++ X)[mb]? = some (.map opsMap) := fun X => get_more hmap
    rw [List.length_cons, L115x0q]
    have hlook : ∀ X : AHeap, aLookup Tryz.prog (K ++ X) 146 (.map (some mb)) (.int .u8 m.op) true = some (.tuple #[.agg #[str (opS m.op), opF m.op], .bool (isOp m.op)]) := fun X => opsLook _ (hg X)
    simp +contextual [hlt, hp1, hp2, Mat.cells, -aLookup_map, hlook, opF_one]
    refine bndG_call (.bool (mayName m.name)) (fun h => ?_) ?_
    · simp only [h, gsel_ff]; exact c_mayName _ _
    simp +contextual
    refine bndG_call (.bool (mayM m.value)) (fun h => ?_) ?_
    · simp only [h, gsel_ff]; exact c_matMay _ _
    simp +contextual
    have hok : m.ok = (isOp m.op && mayName m.name && mayM m.value) := by simp [Mat.ok, isOp]
    refine kifB_bool (fun h => ?_) (fun h => ?_)
    · have : w = false := by
        rw [hw, List.all_cons, hok]
        revert h; cases isOp m.op <;> cases mayName m.name <;> cases mayM m.value <;> simp
      rw [← this]
      exact hk _ (hp.more _)
    · have h1 : m.ok = true := by
        rw [hok]
        revert h; cases isOp m.op <;> cases mayName m.name <;> cases mayM m.value <;> simp
      simp [show i + 1 < 2 ^ 63 by omega]
      exact ih (i + 1) _ _ _ _ _ _ _ _ _ _ _ _ _ _ _ _ _ _ _ _ _ _ _ _ _ _ _ _ _ _ _ _ _ _ _ _ (by rw [← List.drop_drop, hd]; rfl) hlt (hp.more _) (hm.pre (.app _ _)) (hg _) (by rw [hw, List.all_cons, h1, Bool.true_and])
theorem c_matchMay {H : AHeap} {v : Value} {ms : List Mat} (hm : MatsAt H v ms) (hl : ms.length < 2 ^ 63) : ACalls Tryz.prog 115 [v] H (.bool (mayMats ms)) H := by
  refine acalls_pure MixT Tryz.func115 (by decide) rfl ?_
  rw [d115]
  refine bndC_of (c_matOps H) ?_
  have hlen := (hm.pre (.app H [.map opsMap])).len (P := Tryz.prog) (T := 35) (e := 75) (by simp)
  simp at hlen
  simp [hlen]
  exact ⟨ms.length + 1, matMay_loop (H := H) hl (fun K p => ⟨rfl, p⟩) ms 0 _ _ _ _ _ _ _ _ _ _ _ _ _ _ _ _ _ _ _ _ _ _ _ _ _ _ _ _ _ _ _ _ _ _ _ _ rfl (by omega) (.app _ _) (hm.pre (.app _ _)) (by simp) rfl⟩
end Go.Vi
namespace Go.Vi
open Go Go.Proofs

structure Nod where
  kind : UInt8
  agg : UInt8
  sel : List Mat
  window : Int
  cmp : UInt8
  value : Int
  left : Int
  right : Int
def Nod.cells (n : Nod) (sv : Value) : List Value := [byt n.kind, byt n.agg, sv, i64 n.window, byt n.cmp, i64 n.value, i64 n.left, i64 n.right]
def maxFix : Int := 4611686018427387903
def sat (x : Int) : Int := min (max x (-maxFix)) maxFix
def aggs : List (List UInt8) := [[99, 111, 117, 110, 116], [115, 117, 109], [109, 105, 110], [109, 97, 120], [109, 101, 97, 110], [108, 97, 115, 116]]
def cmps : List (List UInt8) := [[60], [60, 61], [62], [62, 61], [61, 61], [33, 61]]
theorem c_aggregates (H : AHeap) : ACalls Tryz.prog 71 [] H (.slice (some ⟨H.length, 0, some 6⟩) 6 6) (H ++ [.cells (aggs.map str) 9]) := by
  refine acalls_of MixT Tryz.func71 (by decide) ?_
  rw [d71]
  exact bndL_of (by decide) (by kernel_rfl) ⟨rfl, rfl⟩
theorem c_compares (H : AHeap) : ACalls Tryz.prog 73 [] H (.slice (some ⟨H.length, 0, some 6⟩) 6 6) (H ++ [.cells (cmps.map str) 9]) := by
  refine acalls_of MixT Tryz.func73 (by decide) ?_
  rw [d73]
  exact bndL_of (by decide) (by kernel_rfl) ⟨rfl, rfl⟩
def Nod.plain (n : Nod) : Bool := decide ((n.agg.toNat : Int) < 6) && mayMats n.sel && decide (n.window ≥ 1) && decide (n.window ≤ 1000) && decide ((n.cmp.toNat : Int) < 6) && (sat n.value == n.value) && (n.left == 0) && (n.right == 0)
def Nod.void (n : Nod) : Bool := ((n.agg.toNat : Int) == 0) && ((n.sel.length : Int) == 0) && (n.window == 0) && ((n.cmp.toNat : Int) == 0) && (n.value == 0)
theorem MatsAt.one {H v ms} (h : MatsAt H v ms) : v.oneCell' = true := Arr.one h
def NodesAt (H : AHeap) (v : Value) (ns : List Nod) : Prop := ∃ cl : List (List Value), Arr H 8 v cl ∧ cl.length = ns.length ∧ ∀ (i : Nat) n, ns[i]? = some n → ∃ sv, cl[i]? = some (n.cells sv) ∧ MatsAt H sv n.sel ∧ n.sel.length < 2 ^ 63
theorem NodesAt.pre {H K v ns} (h : NodesAt H v ns) (p : Pre H K) : NodesAt K v ns := by
  obtain ⟨cl, h1, h2, h3⟩ := h
  refine ⟨cl, h1.pre p, h2, fun i n hi => ?_⟩
  obtain ⟨sv, q1, q2, q3⟩ := h3 i n hi
  exact ⟨sv, q1, q2.pre p, q3⟩
theorem NodesAt.len {H v ns} (h : NodesAt H v ns) (K : AHeap) : aLen Tryz.prog K 27 v = some (i64 ns.length) := by
  obtain ⟨cl, h1, h2, _⟩ := h
  rw [← h2]
  exact h1.len' (e := 37) (by simp)
def isAnd (n : Nod) : Bool := (n.kind.toNat : Int) == 1
def isOr (n : Nod) : Bool := (n.kind.toNat : Int) == 2
def beg (ns : List Nod) : Nat → Int → Int
  | 0, _ => -1
  | f + 1, e => if e < 0 then -1 else match ns[e.toNat]? with
    | none => -1
    | some n =>
      if ((n.kind.toNat : Int) == 0) = true then (if n.plain = true then e else -1)
      else if ((n.kind.toNat : Int) == 3) = true then (if (n.void && n.left == e - 1 && n.right == 0) = true then beg ns f (e - 1) else -1)
      else if (isAnd n || isOr n) = true then
        (if (n.void && n.right == e - 1 && decide (beg ns f (e - 1) > 0) && n.left == beg ns f (e - 1) - 1) = true then beg ns f (beg ns f (e - 1) - 1) else -1)
      else -1
attribute [local simp] S44x0q S44x1q
def right (ns : List Nod) : Bool := decide ((ns.length : Int) ≥ 1) && decide ((ns.length : Int) ≤ 31) && (beg ns ns.length ((ns.length : Int) - 1) == 0)
end Go.Vi
namespace Go.Vi
open Go Go.Proofs

def strCells (l : List (List UInt8)) : List (List Value) := l.map fun s => [str s]
end Go.Vi
namespace Go.Vi
open Go Go.Proofs

end Go.Vi
namespace Go.Vi
open Go Go.Proofs

section
variable {H : AHeap} {f : Nat} {v : Value} {cs : List Value}
end
end Go.Vi
namespace Go.Vi
open Go Go.Proofs

theorem c_indexByteN (H : AHeap) (l : List UInt8) (b : UInt8) : ACalls Tryz.prog 152 [str l, byt b] H (i64 (Lib.indexByte l b)) H := by
  have := acalls_indexByte (P := Tryz.prog) (H := H) (st := ⟨l.toArray⟩) (c := b.toNat) (f := 152) Tryz.func152 (by decide) (by decide) (by kernel_rfl) (by kernel_rfl)
  simpa using this
theorem c_indexByte (H : AHeap) (l : List UInt8) (b : UInt8) : ACalls Tryz.prog 96 [str l, byt b] H (i64 (Lib.indexByte l b)) H := by
  refine acalls_pure MixT Tryz.func96 (by decide) rfl ?_
  rw [d96]
  refine bndC_of (v := i64 (Lib.indexByte l b)) (H' := H) ?_ ⟨rfl, [], by simp⟩
  refine acalls_pure MixT Tryz.func124 (by decide) rfl ?_
  rw [d124]
  exact bndC_of (c_indexByteN H l b) ⟨rfl, [], by simp⟩
theorem c_lex_letter (H : AHeap) (b : UInt8) : ACalls Tryz.prog 99 [byt b] H (.bool (isLow b)) H := by
  refine acalls_pure MixT Tryz.func99 (by decide) rfl ?_
  rw [d99]
  simp +contextual [isLow]
theorem c_lex_digit (H : AHeap) (b : UInt8) : ACalls Tryz.prog 101 [byt b] H (.bool (isDig b)) H := by
  refine acalls_pure MixT Tryz.func101 (by decide) rfl ?_
  rw [d101]
  simp +contextual [isDig]
theorem c_lex_mark (H : AHeap) (b : UInt8) : ACalls Tryz.prog 100 [byt b] H (.bool (isMark b)) H := by
  refine acalls_pure MixT Tryz.func100 (by decide) rfl ?_
  rw [d100]
  refine bndC_of (c_lex_letter _ _) ?_
  simp
  refine bndG_call (.bool (isDig b)) (fun h => ?_) ?_
  · simp only [h, gsel_ff]; exact c_lex_digit _ _
  simp +contextual [isMark]
theorem c_skip1 (H : AHeap) (b : UInt8) : ACalls Tryz.prog 98 [byt b] H (.bool ((b.toNat : Int) != 10)) H := by
  refine acalls_pure MixT Tryz.func98 (by decide) rfl ?_
  rw [d98]
  simp
def runN (p : UInt8 → Bool) (l : List UInt8) (at' : Nat) : Nat := ((l.drop at').takeWhile p).length
theorem run_loop {l : List UInt8} {g : FuncId} {p : UInt8 → Bool} {H : AHeap} {k : Value → AHeap → Prop} (hp : ∀ b, ACalls Tryz.prog g [byt b] H (.bool (p b)) H) (hl : l.length < 2 ^ 61) (a : Nat) (ha : a ≤ l.length + 1) (w : Nat) (hk : k (i64 w) H) :
    ∀ (r : List UInt8) (n : Nat) (s3 s4 s5 s6 s8 s9 s10 s11 s12 s13 s14 s15 s16 s17 s18 s19 s20 s21 s22 s23 s24 s25 : Value), (l.drop a).drop n = r → a + n ≤ l.length + 1 → w = n + (r.takeWhile p).length →
      L97x0 (r.length + 1) k [str l, i64 a, .func (.func g) #[] #[], s3, s4, s5, s6, i64 n, s8, s9, s10, s11, s12, s13, s14, s15, s16, s17, s18, s19, s20, s21, s22, s23, s24, s25] H := by
  intro r
  induction r with
  | nil =>
    intro n s3 s4 s5 s6 s8 s9 s10 s11 s12 s13 s14 s15 s16 s17 s18 s19 s20 s21 s22 s23 s24 s25 hd hn hw
    have hle : l.length ≤ a + n := by rw [List.drop_drop] at hd; simpa using hd
    rw [List.length_nil, L97x0q]
    have hwr : IntKind.i64.wrap ((a : Int) + n) = ((a + n : Nat) : Int) := by rw [wrap_i64 (by omega) (by omega)]; simp
    have : ¬ ((a : Int) + n < l.length) := by omega
    simp only [aBin_add, hwr, bnd_some]
    simp [this]
    simp at hw
    rw [← hw]; exact hk
  | cons b r ih =>
    intro n s3 s4 s5 s6 s8 s9 s10 s11 s12 s13 s14 s15 s16 s17 s18 s19 s20 s21 s22 s23 s24 s25 hd hn hw
    have hb : l[a + n]? = some b := by rw [List.drop_drop] at hd; rw [← List.head?_drop, hd]; rfl
    have hlt : a + n < l.length := (List.getElem?_eq_some_iff.1 hb).1
    have hwr : IntKind.i64.wrap ((a : Int) + n) = ((a + n : Nat) : Int) := by rw [wrap_i64 (by omega) (by omega)]; simp
    have hix := aIndex_at (P := Tryz.prog) (T := 9) (k := .i64) (by simp) hb
    rw [List.length_cons, L97x0q]
    have hlen : aLen Tryz.prog H 9 (str l) = some (i64 l.length) := by simp
    simp only [aBin_add, hwr, bnd_some, hlen, aBin_lss, Int.ofNat_lt, hlt, decide_true, gif_tt, hix]
    refine bndG_t _ _ (callV_func (by simpa using hp b)) ?_
    simp
    rw [List.takeWhile_cons] at hw
    refine kifB_bool (fun h => ?_) (fun h => ?_)
    · rw [if_pos h] at hw
      simp [show n + 1 < 2 ^ 63 by omega]
      exact ih (n + 1) _ _ _ _ _ _ _ _ _ _ _ _ _ _ _ _ _ _ _ _ _ _ (by rw [← List.drop_drop, hd]; rfl) (by omega) (by simp at hw; omega)
    · rw [if_neg (by simp [h])] at hw
      simp at hw
      rw [← hw]; exact hk
theorem c_run {l : List UInt8} {g : FuncId} {p : UInt8 → Bool} {H : AHeap} {a : Nat} (hp : ∀ b, ACalls Tryz.prog g [byt b] H (.bool (p b)) H) (hl : l.length < 2 ^ 61) (ha : a ≤ l.length + 1) :
    ACalls Tryz.prog 97 [str l, i64 a, .func (.func g) #[] #[]] H (i64 (runN p l a)) H := by
  refine acalls_pure MixT Tryz.func97 (by decide) rfl ?_
  rw [d97]
  exact ⟨_, run_loop (k := Same (i64 (runN p l a)) H) hp hl a ha (runN p l a) ⟨rfl, [], by simp⟩ (l.drop a) 0 _ _ _ _ _ _ _ _ _ _ _ _ _ _ _ _ _ _ _ _ _ _ rfl (by omega) (by simp [runN])⟩
end Go.Vi
namespace Go.Vi
open Go Go.Proofs

def bcells (s : List UInt8) : List Value := s.map byt
abbrev selfP (pb : Nat) : Value := .pointer (some ⟨pb, 0, some 2⟩)
inductive Buf (g : Bool) (K : AHeap) (pb : Nat) : Value → List UInt8 → Prop
  | nil : Buf g K pb (.slice none 0 0) []
  | mk (bb n c : Nat) (cs : List Value) (s : List UInt8) (h1 : pb < bb) (h2 : K[bb]? = some (.cells cs 5)) (h3 : cs.length = c) (h4 : n = s.length) (h5 : n ≤ c) (h6 : cs.take n = bcells s) (h7 : g = false → s ≠ []) (h8 : 0 < c) : Buf g K pb (.slice (some ⟨bb, 0, some c⟩) n c) s
def Bld (g : Bool) (K : AHeap) (pb : Nat) (s : List UInt8) : Prop := ∃ ad bv, K[pb]? = some (.cells [ad, bv] 116) ∧ (ad = .pointer none ∨ ad = selfP pb) ∧ Buf g K pb bv s
def Keeps (pb : Nat) (K K' : AHeap) : Prop := ∀ H, Pre H K → H.length ≤ pb → Pre H K'
theorem Keeps.refl (pb : Nat) (K : AHeap) : Keeps pb K K := fun _ h _ => h
theorem Keeps.trans {pb K K' K''} (h : Keeps pb K K') (k : Keeps pb K' K'') : Keeps pb K K'' := fun H p q => k H (h H p q) q
theorem Keeps.set {pb b : Nat} {K : AHeap} {o : AObj} (h : pb ≤ b) : Keeps pb K (K.set b o) := fun _ p q => p.set (by omega)
theorem Keeps.app {pb : Nat} {K X : AHeap} : Keeps pb K (K ++ X) := fun _ p _ => p.more _
theorem Buf.one {g K pb v s} (h : Buf g K pb v s) : v.oneCell' = true := by cases h <;> rfl
theorem Buf.setPb {g K pb v s} {o : AObj} (h : Buf g K pb v s) : Buf g (K.set pb o) pb v s := by
  cases h with
  | nil => exact .nil
  | mk bb n c cs s h1 h2 h3 h4 h5 h6 h7 h8 => exact .mk bb n c cs s h1 (by rw [List.getElem?_set_ne (by omega)]; exact h2) h3 h4 h5 h6 h7 h8
theorem Buf.app {g K pb v s} {X : AHeap} (h : Buf g K pb v s) : Buf g (K ++ X) pb v s := by
  cases h with
  | nil => exact .nil
  | mk bb n c cs s h1 h2 h3 h4 h5 h6 h7 h8 => exact .mk bb n c cs s h1 (get_more h2) h3 h4 h5 h6 h7 h8
theorem c_noEscape (H : AHeap) (v : Value) : ACalls Tryz.prog 140 [v] H v H :=
  acalls_noEscape Tryz.func140 (by decide) (by decide) (by kernel_rfl) (by kernel_rfl)
theorem c_copyCheck {K : AHeap} {pb : Nat} {ad bv : Value} (h1 : K[pb]? = some (.cells [ad, bv] 116)) (h2 : ad = .pointer none ∨ ad = selfP pb) (_hone : bv.oneCell' = true) :
    ACalls Tryz.prog 116 [selfP pb] K (.tuple #[]) (K.set pb (.cells [selfP pb, bv] 116)) := by
  refine acalls_of MixT Tryz.func116 (by decide) ?_
  rw [d116]
  have hh : hcells K pb = some [ad, bv] := by simp [hcells, h1]
  have hl : hlen K pb = some 2 := by rw [hcells_len hh]; rfl
  have hlt : pb < K.length := (List.getElem?_eq_some_iff.1 h1).1
  rcases h2 with rfl | rfl
  · simp [nilV, aIsPtr, hh, hl, aBin_nilptr (P := Tryz.prog) (T := 114) (e := 116) (by simp)]
    have hcv : convV Tryz.prog K 114 174 (selfP pb) = some (selfP pb) := by simp [convV, aConv, aPtrConv, h1]
    have hcv2 : convV Tryz.prog K 174 114 (selfP pb) = some (selfP pb) := by
      have : Tryz.prog.cellsOf 116 = 2 := by kernel_rfl
      simp [convV, aConv, aPtrConv, h1, this]
    simp only [hcv, bnd_some]
    refine bndC_of (c_noEscape _ _) ?_
    simp only [hcv2, bnd_some]
    simp [nilV, aIsPtr, hl, h1]
  · simp [nilV, aIsPtr, hh, hl, aBin_ptrnil (P := Tryz.prog) (T := 114) (e := 116) (by simp)]
    have := aBin_ptrne (P := Tryz.prog) (H := K) (T := 114) (x := Operand.tmp 17) (y := Operand.tmp 18) (e := 116) (b := pb) (o := 0) (m := 2) (z := 1) (by simp) (by simp) hl
    simp [this]
    exact (set_same h1).symm

theorem Buf.len {g K pb v s} (h : Buf g K pb v s) (J : AHeap) : aLen Tryz.prog J 55 v = some (i64 s.length) := by
  cases h with
  | nil => simp
  | mk bb n c cs s h1 h2 h3 h4 => subst h4; simp
theorem Buf.add {g : Bool} {K : AHeap} {pb : Nat} {v : Value} {s ys : List UInt8} {t2 : TypeId} {x : Value} (h : Buf g K pb v s) (hpb : pb < K.length) (hx : aSrc K 1 x = some (ys.length, bcells ys)) (ht : isSeq Tryz.prog t2 = true) (hne : ys ≠ []) (hlen : s.length + ys.length ≤ 2 ^ 46) :
    ∃ v' K', aBuiltin Tryz.prog K .append #[55, t2] [v, x] = some (v', K') ∧ Buf false K' pb v' (s ++ ys) ∧ Keeps pb K K' ∧ K'[pb]? = K[pb]? := by
  have hy : ys.length ≠ 0 := by simpa using hne
  cases h with
  | nil =>
    refine ⟨.slice (some ⟨K.length, 0, some ys.length⟩) ys.length ys.length, K ++ [.cells (bcells ys) 5], ?_, ?_, .app, by rw [List.getElem?_append_left hpb]⟩
    · have : ys.length ≤ 140737488355328 := by simp at hlen; omega
      have h2 : ys.length ≤ 9223372036854775807 := by omega
      simp [aBuiltin, aAppend, hx, ht, hne, this, h2, bcells]
    · refine .mk K.length ys.length ys.length (bcells ys) ys hpb (by simp) (by simp [bcells]) rfl (Nat.le_refl _) (by rw [List.take_of_length_le (by simp [bcells])]) (fun _ => hne) (by omega)
  | mk bb n c cs s h1 h2 h3 h4 h5 h6 h7 h8 =>
    subst h4
    by_cases hfit : s.length + ys.length ≤ c
    · refine ⟨.slice (some ⟨bb, 0, some c⟩) (s.length + ys.length) c, K.set bb (.cells (putCells cs (0 + s.length * 1) (bcells ys)) 5), ?_, ?_, .set (by omega), by rw [List.getElem?_set_ne (by omega)]⟩
      · simp [aBuiltin, aAppend, hx, ht, h2, h3, h5, hfit]
      · have hlt := (List.getElem?_eq_some_iff.1 h2).1
        have e : putCells cs (0 + s.length * 1) (bcells ys) = cs.take s.length ++ bcells ys ++ cs.drop (s.length + ys.length) := by
          rw [putCells_eq _ _ _ (by simp [bcells]; omega)]
          simp [bcells]
        rw [e]
        refine .mk bb (s.length + ys.length) c _ (s ++ ys) h1 (List.getElem?_set_self hlt) (by simp [bcells]; omega) (by simp) hfit ?_ (fun _ => by simp [hne]) h8
        rw [h6, List.take_append_of_le_length (by simp [bcells]), List.take_of_length_le (by simp [bcells])]
        simp [bcells]
    · refine ⟨.slice (some ⟨bb, 0, some ((s.length + ys.length) * 1)⟩) (s.length + ys.length) (s.length + ys.length), K.set bb (.cells (cs.take (s.length * 1) ++ bcells ys) 5), ?_, ?_, .set (by omega), by rw [List.getElem?_set_ne (by omega)]⟩
      · have q : (s.length + ys.length) * 1 ≤ 140737488355328 := by simp at hlen; omega
        have q2 : s.length + ys.length ≤ 9223372036854775807 := by omega
        simp at q
        simp [aBuiltin, aAppend, hx, ht, h2, h3, h5, hfit, q, q2]
      · have hlt := (List.getElem?_eq_some_iff.1 h2).1
        simp only [Nat.mul_one]
        refine .mk bb (s.length + ys.length) _ _ (s ++ ys) h1 (List.getElem?_set_self hlt) (by simp [bcells]; omega) (by simp) (Nat.le_refl _) ?_ (fun _ => by simp [hne]) (by omega)
        rw [List.take_of_length_le (by simp [bcells]; omega), h6]
        simp [bcells]
theorem c_writeByte {g : Bool} {K : AHeap} {pb : Nat} {s : List UInt8} {b : UInt8} (hb : Bld g K pb s) (hsl : s.length < 2 ^ 46) :
    ∃ v K', (v = .nilIface ∧ Bld false K' pb (s ++ [b]) ∧ Keeps pb K K') ∧ ACalls Tryz.prog 125 [selfP pb, byt b] K v K' := by
  refine acalls_ex MixT Tryz.func125 (by decide) ?_
  rw [d125]
  obtain ⟨ad, bv, h1, h2, h3⟩ := hb
  refine bndC_of (c_copyCheck h1 h2 h3.one) ?_
  have hlt : pb < K.length := (List.getElem?_eq_some_iff.1 h1).1
  generalize hK : K.set pb (.cells [selfP pb, bv] 116) = K1
  have g1 : K1[pb]? = some (.cells [selfP pb, bv] 116) := by rw [← hK]; exact get_set h1
  have g3 : Buf g K1 pb bv s := by rw [← hK]; exact h3.setPb
  have hk1 : Keeps pb K K1 := by rw [← hK]; exact .set (Nat.le_refl _)
  have hlt1 : pb < K1.length := (List.getElem?_eq_some_iff.1 g1).1
  have hh : hcells K1 pb = some [selfP pb, bv] := by simp [hcells, g1]
  have hl : hlen K1 pb = some 2 := by rw [hcells_len hh]; rfl
  simp [nilV, aIsPtr, hh, hl]
  have hlit := sliceLit1 (P := Tryz.prog) (H := K1) (T := 55) (e := 5) (zv := .int .u8 0) (n := 1) (l := [byt b]) (by simp) (by simp) rfl (by simp)
  refine bndL_lit hlit ?_
  obtain ⟨v', K', q1, q2, q3, q4⟩ := (g3.app (X := [.cells [byt b] 5])).add (t2 := 55) (x := .slice (some ⟨K1.length, 0, some 1⟩) 1 1) (ys := [b]) (by simp; omega) (by simp [aSrc, bcells]) (by simp [isSeq]) (by simp) (by simp; omega)
  simp only [q1, bndE_some]
  have g4 : K'[pb]? = some (.cells [selfP pb, bv] 116) := by rw [q4]; exact get_more g1
  have hl2 : hlen K' pb = some 2 := by simp [hlen, g4]
  simp [nilV, aIsPtr, hl2, g4, q2.one, cells_one, stor_one]
  refine ⟨⟨selfP pb, v', by rw [List.getElem?_set_self (List.getElem?_eq_some_iff.1 g4).1], .inr rfl, q2.setPb⟩, ?_⟩
  exact hk1.trans (Keeps.app.trans (q3.trans (.set (Nat.le_refl _))))

theorem u8l_bcells (s : List UInt8) : u8l (bcells s) = some s := u8l_map s
theorem c_bstring {K : AHeap} {pb : Nat} {s : List UInt8} (hb : Bld false K pb s) (hsl : s.length < 2 ^ 47) :
    ∃ v K', (v = str s ∧ Keeps pb K K') ∧ ACalls Tryz.prog 80 [selfP pb] K v K' := by
  refine acalls_ex MixT Tryz.func80 (by decide) ?_
  rw [d80]
  obtain ⟨ad, bv, h1, h2, h3⟩ := hb
  have hh : hcells K pb = some [ad, bv] := by simp [hcells, h1]
  have hl : hlen K pb = some 2 := by rw [hcells_len hh]; rfl
  simp [nilV, aIsPtr, hh, hl]
  cases h3 with
  | nil =>
    refine bndD_same (v := .pointer none) (by simp [aBuiltin, aSliceData]) ?_
    simp [nilV, aIsPtr, hh, hl]
    refine bndD_of (v := .string .empty) (H' := K) (by simp [aBuiltin, aUnsafeString]) (.inl rfl) ?_
    exact ⟨rfl, .refl _ _⟩
  | mk bb n c cs s q1 q2 q3 q4 q5 q6 q7 q8 =>
    have hl2 : hlen K bb = some c := by simp [hlen, q2, AObj.len, q3]
    refine bndD_same (v := .pointer (some ⟨bb, 0, some c⟩)) (by simp [aBuiltin, aSliceData, q8, hl2]) ?_
    simp [nilV, aIsPtr, hh, hl]
    have hne := q7 rfl
    have hn : 0 < n := by rw [q4]; exact List.length_pos_iff.2 hne
    have hce : Tryz.prog.cellsOf 5 = 1 := by kernel_rfl
    have hu : u8l (cs.take n) = some s := by rw [q6]; exact u8l_bcells s
    refine bndD_of (v := str s) (H' := K.set bb (.ro cs)) ?_ (.inl rfl) ?_
    · have e1 : (n : Int) ≤ (c : Int) := by omega
      have e2 : (n : Int) ≤ 9223372036854775807 := by omega
      simp [aBuiltin, aUnsafeString, q2, q3, hce, hn, e1, e2, hu]
    · exact ⟨rfl, .set (by omega)⟩
end Go.Vi
namespace Go.Vi
open Go Go.Proofs

def textF : List UInt8 → List UInt8 → Nat → List UInt8 × Nat
  | [], _, _ => ([], 0)
  | b :: r, acc, c => if isSign b = true then
      (if ((b.toNat : Int) == 34) = true then (acc, c + 1)
       else if ((b.toNat : Int) == 92) = true then match r with
        | e :: r' => if ((e.toNat : Int) == 34 || (e.toNat : Int) == 92) = true then textF r' (acc ++ [e]) (c + 2) else ([], 0)
        | [] => ([], 0)
       else textF r (acc ++ [b]) (c + 1))
    else ([], 0)
theorem textF_cons (b : UInt8) (r acc : List UInt8) (c : Nat) : textF (b :: r) acc c = if isSign b = true then
      (if ((b.toNat : Int) == 34) = true then (acc, c + 1)
       else if ((b.toNat : Int) == 92) = true then match r with
        | e :: r' => if ((e.toNat : Int) == 34 || (e.toNat : Int) == 92) = true then textF r' (acc ++ [e]) (c + 2) else ([], 0)
        | [] => ([], 0)
       else textF r (acc ++ [b]) (c + 1))
    else ([], 0) := by rw [textF.eq_def]
theorem text_loop {l : List UInt8} {H : AHeap} {a : Nat} {k : Value → AHeap → Prop} (hl : l.length < 2 ^ 40) (w : List UInt8 × Nat) (hk : ∀ K, Pre H K → k (.tuple #[str w.1, i64 w.2]) K) :
    ∀ (f : Nat) (r : List UInt8) (i c : Nat) (acc : List UInt8) (K : AHeap) (s2 s3 s4 s5 s8 s9 s10 s11 s12 s13 s14 s15 s16 s17 s18 s19 s20 s21 s22 s23 s24 s25 s26 s27 s28 s29 s30 s31 s32 s33 s34 s35 s36 s37 s38 s39 s40 s41 s42 s43 s44 s45 s46 s47 s48 s49 s50 s51 s52 s53 s54 s55 s56 s57 s58 s59 s60 s61 s62 s63 s64 s65 s66 s67 s68 s69 s70 s71 s72 s73 s74 : Value), r.length ≤ f → l.drop i = r → i = a + c → i ≤ l.length → acc.length ≤ i → Pre H K → Bld false K H.length acc → w = textF r acc c →
      L102x0 (f + 1) k [str l, i64 a, s2, s3, s4, s5, selfP H.length, i64 i, s8, s9, s10, s11, s12, s13, s14, s15, s16, s17, s18, s19, s20, s21, s22, s23, s24, s25, s26, s27, s28, s29, s30, s31, s32, s33, s34, s35, s36, s37, s38, s39, s40, s41, s42, s43, s44, s45, s46, s47, s48, s49, s50, s51, s52, s53, s54, s55, s56, s57, s58, s59, s60, s61, s62, s63, s64, s65, s66, s67, s68, s69, s70, s71, s72, s73, s74] K := by
  intro f
  induction f with
  | zero =>
    intro r i c acc K s2 s3 s4 s5 s8 s9 s10 s11 s12 s13 s14 s15 s16 s17 s18 s19 s20 s21 s22 s23 s24 s25 s26 s27 s28 s29 s30 s31 s32 s33 s34 s35 s36 s37 s38 s39 s40 s41 s42 s43 s44 s45 s46 s47 s48 s49 s50 s51 s52 s53 s54 s55 s56 s57 s58 s59 s60 s61 s62 s63 s64 s65 s66 s67 s68 s69 s70 s71 s72 s73 s74 hf hd hi hle hac hp hb hw
    have hr : r = [] := List.eq_nil_of_length_eq_zero (by omega)
    subst hr
    have hle : l.length ≤ i := by simpa using hd
    rw [L102x0q]
    have : ¬ (i < l.length) := by omega
    simp [this]
    rw [hw] at hk
    exact hk K hp
  | succ f ih =>
    intro r i c acc K s2 s3 s4 s5 s8 s9 s10 s11 s12 s13 s14 s15 s16 s17 s18 s19 s20 s21 s22 s23 s24 s25 s26 s27 s28 s29 s30 s31 s32 s33 s34 s35 s36 s37 s38 s39 s40 s41 s42 s43 s44 s45 s46 s47 s48 s49 s50 s51 s52 s53 s54 s55 s56 s57 s58 s59 s60 s61 s62 s63 s64 s65 s66 s67 s68 s69 s70 s71 s72 s73 s74 hf hd hi hle hac hp hb hw
    cases r with
    | nil =>
      have hle : l.length ≤ i := by simpa using hd
      rw [L102x0q]
      have : ¬ (i < l.length) := by omega
      simp [this]
      rw [hw] at hk
      exact hk K hp
    | cons b r =>
      have hbx : l[i]? = some b := by rw [← List.head?_drop, hd]; rfl
      have hlt : i < l.length := (List.getElem?_eq_some_iff.1 hbx).1
      have hix := aIndex_at (P := Tryz.prog) (T := 9) (k := .i64) (by simp) hbx
      have hwr : IntKind.i64.wrap ((i : Int) + 1) = ((i + 1 : Nat) : Int) := wrap_succ (by omega)
      have hd1 : l.drop (i + 1) = r := by rw [← List.drop_drop, hd]; rfl
      have tail : ∀ (i2 c2 : Nat) (ch : UInt8) (r2 : List UInt8) (s2 s3 s4 s5 s8 s9 s10 s11 s12 s13 s14 s15 s16 s17 s18 s19 s20 s21 s22 s23 s24 s25 s26 s27 s28 s29 s30 s31 s32 s33 s34 s35 s36 s37 s38 s39 s40 s41 s42 s43 s44 s45 s46 s47 s48 s49 s50 s51 s52 s53 s54 s55 s56 s57 s58 s59 s60 s61 s62 s63 s64 s65 s66 s67 s68 s69 s70 s71 s72 s73 s74 : Value), l[i2]? = some ch → l.drop (i2 + 1) = r2 → i2 + 1 = a + c2 → r2.length ≤ f → i ≤ i2 → w = textF r2 (acc ++ [ch]) c2 →
          S102x0 (f + 1) k [str l, i64 a, s2, s3, s4, s5, selfP H.length, i64 i2, s8, s9, s10, s11, s12, s13, s14, s15, s16, s17, s18, s19, s20, s21, s22, s23, s24, s25, s26, s27, s28, s29, s30, s31, s32, s33, s34, s35, s36, s37, s38, s39, s40, s41, s42, s43, s44, s45, s46, s47, s48, s49, s50, s51, s52, s53, s54, s55, s56, s57, s58, s59, s60, s61, s62, s63, s64, s65, s66, s67, s68, s69, s70, s71, s72, s73, s74] K := by
        intro i2 c2 ch r2 s2 s3 s4 s5 s8 s9 s10 s11 s12 s13 s14 s15 s16 s17 s18 s19 s20 s21 s22 s23 s24 s25 s26 s27 s28 s29 s30 s31 s32 s33 s34 s35 s36 s37 s38 s39 s40 s41 s42 s43 s44 s45 s46 s47 s48 s49 s50 s51 s52 s53 s54 s55 s56 s57 s58 s59 s60 s61 s62 s63 s64 s65 s66 s67 s68 s69 s70 s71 s72 s73 s74 e1 e2 e3 e4 e5 e6
        have hlt2 : i2 < l.length := (List.getElem?_eq_some_iff.1 e1).1
        have hix2 := aIndex_at (P := Tryz.prog) (T := 9) (k := .i64) (by simp) e1
        rw [S102x0q]
        obtain ⟨_, K', ⟨rfl, hb', hkp⟩, hc⟩ := c_writeByte (b := ch) hb (by omega)
        simp only [hix2, bnd_some]
        refine bndC_of hc ?_
        simp only [aBin_add, wrap_succ (show i2 + 1 < 2 ^ 63 by omega), bnd_some]
        exact ih r2 (i2 + 1) c2 (acc ++ [ch]) K' _ _ _ _ _ _ _ _ _ _ _ _ _ _ _ _ _ _ _ _ _ _ _ _ _ _ _ _ _ _ _ _ _ _ _ _ _ _ _ _ _ _ _ _ _ _ _ _ _ _ _ _ _ _ _ _ _ _ _ _ _ _ _ _ _ _ _ _ _ _ _ e4 e2 e3 hlt2 (by simp; omega) (hkp H hp (Nat.le_refl _)) hb' e6
      rw [L102x0q]
      rw [textF_cons] at hw
      simp +contextual [hlt, hix]
      refine kifB_bool (fun hs => ?_) (fun hs => ?_)
      case refine_2 =>
        rw [if_neg (by simpa [isSign] using hs)] at hw
        rw [hw] at hk
        simp
        exact hk K hp
      rw [if_pos (show isSign b = true by simpa [isSign] using hs)] at hw
      simp [hix]
      refine kifB_bool (fun hq => ?_) (fun hq => ?_)
      · rw [if_pos hq] at hw
        obtain ⟨_, K', ⟨rfl, hkp⟩, hc⟩ := c_bstring hb (by omega)
        refine bndC_of hc ?_
        have hsub : IntKind.i64.wrap (((i + 1 : Nat) : Int) - a) = ((c + 1 : Nat) : Int) := by rw [wrap_i64 (by omega) (by omega)]; omega
        simp only [aBin_add, hwr, bnd_some, aBin_sub, hsub]
        rw [hw] at hk
        exact hk K' (hkp H hp (Nat.le_refl _))
      rw [if_neg (by simp [hq])] at hw
      cases r with
      | nil =>
        have hle1 : ¬ (i + 1 < l.length) := by have : l.length ≤ i + 1 := by simpa using hd1
                                               omega
        have hle1I : ¬ ((i : Int) + 1 < l.length) := by omega
        cases h9 : ((b.toNat : Int) == 92) with
        | true =>
          rw [h9, if_pos rfl] at hw
          rw [hw] at hk
          simp [hix, h9, hwr, hle1I]
          exact hk K hp
        | false =>
          rw [h9, if_neg (by simp)] at hw
          simp [hix, h9]
          exact tail i (c + 1) b [] _ _ _ _ _ _ _ _ _ _ _ _ _ _ _ _ _ _ _ _ _ _ _ _ _ _ _ _ _ _ _ _ _ _ _ _ _ _ _ _ _ _ _ _ _ _ _ _ _ _ _ _ _ _ _ _ _ _ _ _ _ _ _ _ _ _ _ _ _ _ _ hbx hd1 (by omega) (by simp) (Nat.le_refl _) hw
      | cons e r =>
        have hex : l[i + 1]? = some e := by rw [← List.head?_drop, hd1]; rfl
        have hlt1 : i + 1 < l.length := (List.getElem?_eq_some_iff.1 hex).1
        have hlt1I : (i : Int) + 1 < l.length := by omega
        have hie := aIndex_at (P := Tryz.prog) (T := 9) (k := .i64) (by simp) hex
        simp only [Int.natCast_add, Int.cast_ofNat_Int] at hie hwr
        cases h9 : ((b.toNat : Int) == 92) with
        | true =>
          rw [h9, if_pos rfl] at hw
          dsimp only at hw
          simp +contextual [hix, h9, hwr, hlt1I, hie]
          refine kifB_bool (fun he => ?_) (fun he => ?_)
          · rw [if_pos (by simpa using he)] at hw
            simp [hwr]
            have hcast : (i : Int) + 1 = ((i + 1 : Nat) : Int) := by omega
            rw [hcast]
            exact tail (i + 1) (c + 2) e r _ _ _ _ _ _ _ _ _ _ _ _ _ _ _ _ _ _ _ _ _ _ _ _ _ _ _ _ _ _ _ _ _ _ _ _ _ _ _ _ _ _ _ _ _ _ _ _ _ _ _ _ _ _ _ _ _ _ _ _ _ _ _ _ _ _ _ _ _ _ _ hex (by rw [← List.drop_drop, hd1]; rfl) (by omega) (by simp at hf; omega) (by omega) hw
          · rw [if_neg (by simpa using he)] at hw
            rw [hw] at hk
            simp [hix, h9]
            exact hk K hp
        | false =>
          rw [h9, if_neg (by simp)] at hw
          simp [hix, h9]
          exact tail i (c + 1) b (e :: r) _ _ _ _ _ _ _ _ _ _ _ _ _ _ _ _ _ _ _ _ _ _ _ _ _ _ _ _ _ _ _ _ _ _ _ _ _ _ _ _ _ _ _ _ _ _ _ _ _ _ _ _ _ _ _ _ _ _ _ _ _ _ _ _ _ _ _ _ _ _ _ hbx hd1 (by omega) (by simp at hf ⊢; omega) (Nat.le_refl _) hw

theorem textF_len : ∀ (f : Nat) (r acc : List UInt8) (c : Nat), r.length ≤ f → (textF r acc c).2 ≤ c + r.length := by
  intro f
  induction f with
  | zero => intro r acc c h; have : r = [] := List.eq_nil_of_length_eq_zero (by omega); subst this; simp [textF]
  | succ f ih =>
    intro r acc c h
    cases r with
    | nil => simp [textF]
    | cons b r =>
      rw [textF_cons]
      simp at h
      split
      · split
        · simp <;> omega
        · split
          · cases r with
            | nil => simp
            | cons e r =>
              simp only
              split
              · have := ih r (acc ++ [e]) (c + 2) (by simp at h; omega); simp; omega
              · simp
          · have := ih r (acc ++ [b]) (c + 1) (by omega); simp; omega
      · simp
theorem c_text {H : AHeap} {l : List UInt8} {a : Nat} (hl : l.length < 2 ^ 40) (ha : a < l.length) :
    ACalls Tryz.prog 102 [str l, i64 a] H (.tuple #[str (textF (l.drop (a + 1)) [] 1).1, i64 (textF (l.drop (a + 1)) [] 1).2]) H := by
  refine acallsT_pure MixT Tryz.func102 (by decide) rfl ?_
  rw [d102]
  simp [show a + 1 < 2 ^ 63 by omega]
  have hcast : (a : Int) + 1 = ((a + 1 : Nat) : Int) := by omega
  rw [hcast]
  refine ⟨l.length + 1, text_loop hl _ (fun K p => ⟨rfl, p⟩) l.length (l.drop (a + 1)) (a + 1) 1 [] _ _ _ _ _ _ _ _ _ _ _ _ _ _ _ _ _ _ _ _ _ _ _ _ _ _ _ _ _ _ _ _ _ _ _ _ _ _ _ _ _ _ _ _ _ _ _ _ _ _ _ _ _ _ _ _ _ _ _ _ _ _ _ _ _ _ _ _ _ _ _ _ (by simp) rfl rfl (by omega) (by simp) (.app _ _) ⟨.pointer none, .slice none 0 0, by simp, .inl rfl, .nil⟩ rfl⟩
def sigs1 : List UInt8 := [60, 62, 61, 33, 94]
def sigs2 : List UInt8 := [123, 125, 40, 41, 91, 93, 44, 58, 59, 61, 60, 62, 45]
def hasB (l : List UInt8) (b : UInt8) : Bool := decide (Lib.indexByte l b ≥ 0)
def signF : List UInt8 → Nat
  | [] => 0
  | b :: r => if ((r[0]?).any (fun e => (e.toNat : Int) == 61) && hasB sigs1 b) = true then 2 else if hasB sigs2 b = true then 1 else 0
theorem c_sign {H : AHeap} {l : List UInt8} {a : Nat} (hl : l.length < 2 ^ 40) (ha : a < l.length) : ACalls Tryz.prog 103 [str l, i64 a] H (i64 (signF (l.drop a))) H := by
  refine acalls_pure MixT Tryz.func103 (by decide) rfl ?_
  rw [d103]
  obtain ⟨b, r, hbr⟩ : ∃ b r, l.drop a = b :: r := by
    cases h : l.drop a with
    | nil => simp at h; omega
    | cons b r => exact ⟨b, r, rfl⟩
  have hb : l[a]? = some b := by rw [← List.head?_drop, hbr]; rfl
  have hix := aIndex_at (P := Tryz.prog) (T := 9) (k := .i64) (by simp) hb
  have hd1 : l.drop (a + 1) = r := by rw [← List.drop_drop, hbr]; rfl
  have hwr : IntKind.i64.wrap ((a : Int) + 1) = (a : Int) + 1 := wrap_i64 (by omega) (by omega)
  rw [hbr]
  cases r with
  | nil =>
    have hle : l.length ≤ a + 1 := by simpa using hd1
    have : ¬ ((a : Int) + 1 < l.length) := by omega
    simp [hwr, this, hix]
    refine bndC_of (c_indexByte _ _ _) ?_
    simp
    refine kifB_bool (fun h => ?_) (fun h => ?_)
    · have h3 : hasB sigs2 b = true := by simpa [hasB, sigs2] using h
      have : signF [b] = 1 := by simp only [signF, List.getElem?_nil, Option.any_none, h3]; simp
      simp [this]
    · have h3 : hasB sigs2 b = false := by simpa [hasB, sigs2] using h
      have : signF [b] = 0 := by simp only [signF, List.getElem?_nil, Option.any_none, h3]; simp
      simp [this]
  | cons e r =>
    have he : l[a + 1]? = some e := by rw [← List.head?_drop, hd1]; rfl
    have hie := aIndex_at (P := Tryz.prog) (T := 9) (k := .i64) (by simp) he
    have hlt : a + 1 < l.length := (List.getElem?_eq_some_iff.1 he).1
    have hltI : (a : Int) + 1 < l.length := by omega
    simp only [Int.natCast_add, Int.cast_ofNat_Int] at hie
    simp +contextual [hwr, hltI, hix, hie]
    refine bndG_call (i64 (Lib.indexByte [60, 62, 61, 33, 94] b)) (fun h => ?_) ?_
    · simp only [h, gsel_tt]; exact c_indexByte _ _ _
    simp +contextual
    refine kifB_bool (fun h => ?_) (fun h => ?_)
    · have h' : ((e.toNat : Int) == 61 && hasB sigs1 b) = true := by simpa [hasB, sigs1] using h
      have : signF (b :: e :: r) = 2 := by simp only [signF, List.getElem?_cons_zero, Option.any_some, h']; simp
      simp [this]
    · simp [hix]
      refine bndC_of (c_indexByte _ _ _) ?_
      simp
      have h' : ((e.toNat : Int) == 61 && hasB sigs1 b) = false := by simpa [hasB, sigs1] using h
      refine kifB_bool (fun h2 => ?_) (fun h2 => ?_)
      · have : signF (b :: e :: r) = 1 := by
          have h3 : hasB sigs2 b = true := by simpa [hasB, sigs2] using h2
          simp only [signF, List.getElem?_cons_zero, Option.any_some, h', h3]; simp
        simp [this]
      · have : signF (b :: e :: r) = 0 := by
          have h3 : hasB sigs2 b = false := by simpa [hasB, sigs2] using h2
          simp only [signF, List.getElem?_cons_zero, Option.any_some, h', h3]; simp
        simp [this]
end Go.Vi
namespace Go.Vi
open Go Go.Proofs

structure Tok where
  kind : Int
  text : List UInt8
  at' : Int
def Tok.cells (t : Tok) : List Value := [.int .u8 t.kind, str t.text, i64 t.at']
def runF (p : UInt8 → Bool) (s : List UInt8) : Nat := (s.takeWhile p).length
def numLen (s : List UInt8) : Nat :=
  if ((s[runF isDig s]?).any (fun e => (e.toNat : Int) == 46) && decide (runF isDig (s.drop (runF isDig s + 1)) > 0)) = true then runF isDig s + (1 + runF isDig (s.drop (runF isDig s + 1))) else runF isDig s
def oneF (s : List UInt8) (a : Nat) : Tok × Nat := match s with
  | [] => (⟨0, [], a⟩, 0)
  | b :: r => if isLow b = true then (⟨1, s.take (runF isMark s), a⟩, runF isMark s)
    else if isDig b = true then (⟨2, s.take (numLen s), a⟩, numLen s)
    else if ((b.toNat : Int) == 34) = true then (⟨3, (textF r [] 1).1, a⟩, (textF r [] 1).2)
    else (⟨4, s.take (signF s), a⟩, signF s)
theorem runN_eq (p : UInt8 → Bool) (l : List UInt8) (a : Nat) : runN p l a = runF p (l.drop a) := rfl
theorem runF_le (p : UInt8 → Bool) (s : List UInt8) : runF p s ≤ s.length := by
  unfold runF; exact List.IsPrefix.length_le (List.takeWhile_prefix p)
theorem numLen_le (s : List UInt8) : numLen s ≤ s.length := by
  unfold numLen
  have h1 := runF_le isDig s
  have h2 := runF_le isDig (s.drop (runF isDig s + 1))
  rw [List.length_drop] at h2
  split
  · rename_i h
    simp only [Bool.and_eq_true, Option.any_eq_true] at h
    obtain ⟨⟨e, he, _⟩, _⟩ := h
    have := (List.getElem?_eq_some_iff.1 he).1
    omega
  · exact h1
theorem signF_le (s : List UInt8) : signF s ≤ s.length := by
  cases s with
  | nil => simp [signF]
  | cons b r =>
    simp only [signF]
    split
    · rename_i h
      simp only [Bool.and_eq_true, Option.any_eq_true] at h
      obtain ⟨⟨e, he, _⟩, _⟩ := h
      have := (List.getElem?_eq_some_iff.1 he).1
      simp; omega
    · split <;> simp
theorem one_tail {H : AHeap} {l : List UInt8} {a n : Nat} {kd : Int} {old : Value} {k : Value → AHeap → Prop} (hl : l.length < 2 ^ 40) (ha : a + n ≤ l.length) (_ho : old.oneCell' = true)
    (hk : ∀ K, Pre H K → k (.tuple #[.agg (⟨kd, (l.drop a).take n, a⟩ : Tok).cells.toArray, i64 n]) K) (X : AHeap) (c0 c1 c2 : Value) (s2 s3 s5 s8 s9 s10 s11 s12 s13 s14 s15 s16 s17 s18 s19 s20 s21 s22 s23 s24 s25 s26 s27 s28 s29 s30 s31 s32 s33 s34 s35 s36 s37 s38 s39 s40 s41 s42 s43 s44 s45 s46 s47 s48 s49 s50 s51 s52 s53 s54 s55 s56 s57 s58 s59 s60 s61 s62 s63 s64 s65 s66 s67 s68 s69 s70 s71 s72 s73 s74 s75 s76 s77 s78 s79 s80 s81 s82 s83 s84 : Value) :
    S66x0 k [str l, i64 a, s2, s3, .pointer (some ⟨H.length, 0, some 3⟩), s5, .pointer (some ⟨H.length + 1, 0, some 3⟩), i64 n, s8, s9, s10, s11, s12, s13, s14, s15, s16, s17, s18, s19, s20, s21, s22, s23, s24, s25, s26, s27, s28, s29, s30, s31, s32, s33, s34, s35, s36, s37, s38, s39, s40, s41, s42, s43, s44, s45, s46, s47, s48, s49, s50, s51, s52, s53, s54, s55, s56, s57, s58, s59, s60, s61, s62, s63, s64, s65, s66, s67, s68, s69, s70, s71, s72, s73, s74, s75, s76, s77, s78, s79, s80, s81, s82, s83, s84] (H ++ .cells [c0, c1, c2] 70 :: .cells [.int .u8 kd, old, i64 a] 70 :: X) := by
  rw [S66x0q]
  have hwr : IntKind.i64.wrap ((a : Int) + n) = ((a + n : Nat) : Int) := by rw [wrap_i64 (by omega) (by omega)]; simp
  have hs : aSliceOp Tryz.prog (H ++ .cells [c0, c1, c2] 70 :: .cells [.int .u8 kd, old, i64 a] 70 :: X) 9 (str l) (some (i64 a)) (some (i64 ((a + n : Nat) : Int))) = some (str ((l.drop a).take n)) := by
    rw [aSliceOp_str (a := a) (b := ((a + n : Nat) : Int)) (by simp) rfl rfl (by omega) (by omega) (by omega)]
    simp only [Int.toNat_natCast, List.drop_take, Nat.add_sub_cancel_left]
  simp only [aBin_add, hwr, bnd_some, hs]
  simp [Tok.cells] at hk ⊢
  exact hk _ (.app _ _)
theorem c_one {H : AHeap} {l : List UInt8} {a : Nat} (hl : l.length < 2 ^ 40) (ha : a < l.length) :
    ACalls Tryz.prog 66 [str l, i64 a] H (.tuple #[.agg (oneF (l.drop a) a).1.cells.toArray, i64 (oneF (l.drop a) a).2]) H := by
  refine acallsT_pure MixT Tryz.func66 (by decide) (by simp [flat, clos, Tok.cells, isLit]) ?_
  rw [d66]
  obtain ⟨b, r, hbr⟩ : ∃ b r, l.drop a = b :: r := by
    cases h : l.drop a with
    | nil => simp at h; omega
    | cons b r => exact ⟨b, r, rfl⟩
  have hb : l[a]? = some b := by rw [← List.head?_drop, hbr]; rfl
  have hix := aIndex_at (P := Tryz.prog) (T := 9) (k := .i64) (by simp) hb
  have hd1 : l.drop (a + 1) = r := by rw [← List.drop_drop, hbr]; rfl
  have hdl : (l.drop a).length = l.length - a := by simp
  generalize hw : oneF (l.drop a) a = w
  rw [hbr] at hw
  simp only [oneF] at hw
  simp [hix]
  refine bndC_of (c_lex_letter _ _) ?_
  refine kifB_bool (fun h1 => ?_) (fun h1 => ?_)
  · rw [if_pos h1] at hw
    refine bndC_of (c_run (c_lex_mark _) (by omega) (by omega)) ?_
    simp
    have hle := runF_le isMark (l.drop a)
    refine one_tail (n := runN isMark l a) hl (by rw [runN_eq]; omega) rfl ?_ [] _ _ _ _ _ _ _ _ _ _ _ _ _ _ _ _ _ _ _ _ _ _ _ _ _ _ _ _ _ _ _ _ _ _ _ _ _ _ _ _ _ _ _ _ _ _ _ _ _ _ _ _ _ _ _ _ _ _ _ _ _ _ _ _ _ _ _ _ _ _ _ _ _ _ _ _ _ _ _ _ _ _ _
    intro K hp
    refine ⟨?_, hp⟩
    rw [← hw, runN_eq, hbr]
  rw [if_neg (by simp [h1])] at hw
  simp [hix]
  refine bndC_of (c_lex_digit _ _) ?_
  refine kifB_bool (fun h2 => ?_) (fun h2 => ?_)
  · rw [if_pos h2] at hw
    refine bndC_of (c_run (c_lex_digit _) (by omega) (by omega)) ?_
    simp
    have hle := runF_le isDig (l.drop a)
    rw [runN_eq]
    generalize hn : runF isDig (l.drop a) = n at hle
    have hwr : IntKind.i64.wrap ((a : Int) + n) = ((a + n : Nat) : Int) := by rw [wrap_i64 (by omega) (by omega)]; simp
    have hwr2 : IntKind.i64.wrap (((a + n : Nat) : Int) + 1) = ((a + n + 1 : Nat) : Int) := wrap_succ (by omega)
    simp only [hwr, hwr2]
    have hcr := fun K : AHeap => c_run (H := K) (l := l) (a := a + n + 1) (c_lex_digit K) (by omega) (by omega)
    refine bndC_of (hcr _) ?_
    rw [runN_eq]
    have hpt : runF isDig (l.drop (a + n + 1)) = runF isDig ((l.drop a).drop (n + 1)) := by rw [List.drop_drop, Nat.add_assoc]
    have hnl : numLen (l.drop a) = if (((l.drop a)[n]?).any (fun e => (e.toNat : Int) == 46) && decide (runF isDig (l.drop (a + n + 1)) > 0)) = true then n + (1 + runF isDig (l.drop (a + n + 1))) else n := by
      unfold numLen
      rw [hn, hpt]
    have hnle := numLen_le (l.drop a)
    rw [← hbr] at hw
    have hpl := runF_le isDig (l.drop (a + n + 1))
    rw [List.length_drop] at hpl
    generalize runF isDig (l.drop (a + n + 1)) = part at hnl hpl
    have fin : ∀ (m : Nat) (X : AHeap) (c0 c1 c2 : Value) (s2 s3 s5 s8 s9 s10 s11 s12 s13 s14 s15 s16 s17 s18 s19 s20 s21 s22 s23 s24 s25 s26 s27 s28 s29 s30 s31 s32 s33 s34 s35 s36 s37 s38 s39 s40 s41 s42 s43 s44 s45 s46 s47 s48 s49 s50 s51 s52 s53 s54 s55 s56 s57 s58 s59 s60 s61 s62 s63 s64 s65 s66 s67 s68 s69 s70 s71 s72 s73 s74 s75 s76 s77 s78 s79 s80 s81 s82 s83 s84 : Value), numLen (l.drop a) = m →
        S66x0 (Same (.tuple #[.agg w.1.cells.toArray, i64 w.2]) H) [str l, i64 a, s2, s3, .pointer (some ⟨H.length, 0, some 3⟩), s5, .pointer (some ⟨H.length + 1, 0, some 3⟩), i64 m, s8, s9, s10, s11, s12, s13, s14, s15, s16, s17, s18, s19, s20, s21, s22, s23, s24, s25, s26, s27, s28, s29, s30, s31, s32, s33, s34, s35, s36, s37, s38, s39, s40, s41, s42, s43, s44, s45, s46, s47, s48, s49, s50, s51, s52, s53, s54, s55, s56, s57, s58, s59, s60, s61, s62, s63, s64, s65, s66, s67, s68, s69, s70, s71, s72, s73, s74, s75, s76, s77, s78, s79, s80, s81, s82, s83, s84] (H ++ .cells [c0, c1, c2] 70 :: .cells [.int .u8 2, str [], i64 a] 70 :: X) := by
      intro m X c0 c1 c2 s2 s3 s5 s8 s9 s10 s11 s12 s13 s14 s15 s16 s17 s18 s19 s20 s21 s22 s23 s24 s25 s26 s27 s28 s29 s30 s31 s32 s33 s34 s35 s36 s37 s38 s39 s40 s41 s42 s43 s44 s45 s46 s47 s48 s49 s50 s51 s52 s53 s54 s55 s56 s57 s58 s59 s60 s61 s62 s63 s64 s65 s66 s67 s68 s69 s70 s71 s72 s73 s74 s75 s76 s77 s78 s79 s80 s81 s82 s83 s84 hm
      refine one_tail (n := m) hl (by omega) rfl ?_ X _ _ _ _ _ _ _ _ _ _ _ _ _ _ _ _ _ _ _ _ _ _ _ _ _ _ _ _ _ _ _ _ _ _ _ _ _ _ _ _ _ _ _ _ _ _ _ _ _ _ _ _ _ _ _ _ _ _ _ _ _ _ _ _ _ _ _ _ _ _ _ _ _ _ _ _ _ _ _ _ _ _ _
      intro K hp
      refine ⟨?_, hp⟩
      rw [← hw, hm]
    rw [List.getElem?_drop] at hnl
    by_cases hlt : a + n < l.length
    · have hlI : (a : Int) + n < l.length := by omega
      obtain ⟨e, he⟩ : ∃ e, l[a + n]? = some e := ⟨_, List.getElem?_eq_getElem hlt⟩
      have hie := aIndex_at (P := Tryz.prog) (T := 9) (k := .i64) (by simp) he
      rw [he] at hnl
      simp only [Int.natCast_add] at hwr hie
      simp +contextual [hwr, hlI, hie]
      refine kifB_bool (fun h => ?_) (fun h => ?_)
      · rw [if_pos (by simpa using h)] at hnl
        have w1 : IntKind.i64.wrap (1 + (part : Int)) = ((1 + part : Nat) : Int) := by rw [wrap_i64 (by omega) (by omega)]; simp
        have w2 : IntKind.i64.wrap ((n : Int) + ((1 + part : Nat) : Int)) = ((n + (1 + part) : Nat) : Int) := by rw [wrap_i64 (by omega) (by omega)]; simp
        simp only [aBin_add, w1, w2, bnd_some]
        exact fin _ [] _ _ _ _ _ _ _ _ _ _ _ _ _ _ _ _ _ _ _ _ _ _ _ _ _ _ _ _ _ _ _ _ _ _ _ _ _ _ _ _ _ _ _ _ _ _ _ _ _ _ _ _ _ _ _ _ _ _ _ _ _ _ _ _ _ _ _ _ _ _ _ _ _ _ _ _ _ _ _ _ _ _ _ hnl
      · rw [if_neg (by simpa using h)] at hnl
        exact fin _ [] _ _ _ _ _ _ _ _ _ _ _ _ _ _ _ _ _ _ _ _ _ _ _ _ _ _ _ _ _ _ _ _ _ _ _ _ _ _ _ _ _ _ _ _ _ _ _ _ _ _ _ _ _ _ _ _ _ _ _ _ _ _ _ _ _ _ _ _ _ _ _ _ _ _ _ _ _ _ _ _ _ _ _ hnl
    · have hlI : ¬ ((a : Int) + n < l.length) := by omega
      have : l[a + n]? = none := List.getElem?_eq_none (by omega)
      rw [this] at hnl
      simp at hnl
      simp only [Int.natCast_add] at hwr
      simp [hwr, hlI]
      exact fin _ [] _ _ _ _ _ _ _ _ _ _ _ _ _ _ _ _ _ _ _ _ _ _ _ _ _ _ _ _ _ _ _ _ _ _ _ _ _ _ _ _ _ _ _ _ _ _ _ _ _ _ _ _ _ _ _ _ _ _ _ _ _ _ _ _ _ _ _ _ _ _ _ _ _ _ _ _ _ _ _ _ _ _ _ hnl
  rw [if_neg (by simp [h2])] at hw
  simp [hix]
  refine kifB_bool (fun h3 => ?_) (fun h3 => ?_)
  · rw [if_pos h3] at hw
    simp
    have ht := fun K : AHeap => c_text (H := K) (l := l) (a := a) hl ha
    rw [hd1] at ht
    refine bndC_of (ht _) ?_
    simp [Tok.cells]
    rw [← hw]
    exact ⟨⟨rfl, rfl, rfl⟩, rfl⟩
  · rw [if_neg (by simp [h3])] at hw
    simp
    refine bndC_of (c_sign hl ha) ?_
    simp
    have hle := signF_le (l.drop a)
    refine one_tail (n := signF (l.drop a)) hl (by omega) rfl ?_ [] _ _ _ _ _ _ _ _ _ _ _ _ _ _ _ _ _ _ _ _ _ _ _ _ _ _ _ _ _ _ _ _ _ _ _ _ _ _ _ _ _ _ _ _ _ _ _ _ _ _ _ _ _ _ _ _ _ _ _ _ _ _ _ _ _ _ _ _ _ _ _ _ _ _ _ _ _ _ _ _ _ _ _
    intro K hp
    refine ⟨?_, hp⟩
    rw [← hw, ← hbr]
end Go.Vi
namespace Go.Vi
open Go Go.Proofs

def blanks : List UInt8 := [32, 9, 10, 13]
def notNl (b : UInt8) : Bool := (b.toNat : Int) != 10
def skipF : Nat → List UInt8 → Nat
  | 0, _ => 0
  | _ + 1, [] => 0
  | f + 1, b :: r => if hasB blanks b = true then 1 + skipF f r
    else if ((b.toNat : Int) == 35) = true then runF notNl (b :: r) + skipF f ((b :: r).drop (runF notNl (b :: r)))
    else 0
theorem skipF_le : ∀ (f : Nat) (s : List UInt8), skipF f s ≤ s.length := by
  intro f
  induction f with
  | zero => intro s; simp [skipF]
  | succ f ih =>
    intro s
    cases s with
    | nil => simp [skipF]
    | cons b r =>
      simp only [skipF]
      split
      · have := ih r; simp; omega
      · split
        · have h1 := ih ((b :: r).drop (runF notNl (b :: r)))
          have h2 := runF_le notNl (b :: r)
          rw [List.length_drop] at h1
          omega
        · simp
theorem skip_loop {l : List UInt8} {H : AHeap} {k : Value → AHeap → Prop} (hl : l.length < 2 ^ 40) (w : Nat) (hk : k (i64 w) H) :
    ∀ (f : Nat) (a : Nat) (s2 s3 s4 s5 s6 s7 s8 s9 s10 s11 s12 s13 s14 s15 s16 s17 s18 s19 s20 s21 s22 s23 s24 s25 s26 s27 s28 : Value), (l.drop a).length ≤ f → a ≤ l.length → w = a + skipF f (l.drop a) →
      L65x0 (f + 1) k [str l, i64 a, s2, s3, s4, s5, s6, s7, s8, s9, s10, s11, s12, s13, s14, s15, s16, s17, s18, s19, s20, s21, s22, s23, s24, s25, s26, s27, s28] H := by
  intro f
  induction f with
  | zero =>
    intro a s2 s3 s4 s5 s6 s7 s8 s9 s10 s11 s12 s13 s14 s15 s16 s17 s18 s19 s20 s21 s22 s23 s24 s25 s26 s27 s28 hf ha hw
    rw [List.length_drop] at hf
    rw [L65x0q]
    have : ¬ a < l.length := by omega
    simp [this]
    simp [skipF] at hw
    rw [← hw]; exact hk
  | succ f ih =>
    intro a s2 s3 s4 s5 s6 s7 s8 s9 s10 s11 s12 s13 s14 s15 s16 s17 s18 s19 s20 s21 s22 s23 s24 s25 s26 s27 s28 hf ha hw
    rw [L65x0q]
    by_cases hlt : a < l.length
    · obtain ⟨b, r, hbr⟩ : ∃ b r, l.drop a = b :: r := by
        cases h : l.drop a with
        | nil => simp at h; omega
        | cons b r => exact ⟨b, r, rfl⟩
      have hb : l[a]? = some b := by rw [← List.head?_drop, hbr]; rfl
      have hix := aIndex_at (P := Tryz.prog) (T := 9) (k := .i64) (by simp) hb
      have hd1 : l.drop (a + 1) = r := by rw [← List.drop_drop, hbr]; rfl
      rw [hbr, skipF] at hw
      simp [hlt, hix]
      refine bndC_of (c_indexByte _ _ _) ?_
      simp
      refine kifB_bool (fun h => ?_) (fun h => ?_)
      · rw [if_pos (by simpa [hasB, blanks] using h)] at hw
        simp [show a + 1 < 2 ^ 63 by omega]
        exact ih (a + 1) _ _ _ _ _ _ _ _ _ _ _ _ _ _ _ _ _ _ _ _ _ _ _ _ _ _ _ (by rw [hbr] at hf; rw [hd1]; simp at hf; exact hf) hlt (by rw [hw, hd1]; omega)
      rw [if_neg (by simpa [hasB, blanks] using h)] at hw
      simp [hix]
      refine kifB_bool (fun h => ?_) (fun h => ?_)
      · rw [if_pos h] at hw
        refine bndC_of (c_run (p := notNl) (c_skip1 _) (by omega) (by omega)) ?_
        have hrl := runF_le notNl (l.drop a)
        rw [List.length_drop] at hrl
        have hpos : 1 ≤ runF notNl (l.drop a) := by
          rw [hbr]
          have : notNl b = true := by
            have : (b.toNat : Int) = 35 := by simpa using h
            simp [notNl, this]
          simp [runF, this]
        rw [runN_eq]
        rw [← hbr] at hw
        generalize hm : runF notNl (l.drop a) = m at hw hrl hpos
        have hwr : IntKind.i64.wrap ((a : Int) + m) = ((a + m : Nat) : Int) := by rw [wrap_i64 (by omega) (by omega)]; simp
        simp only [aBin_add, hwr, bnd_some]
        rw [List.drop_drop] at hw
        exact ih (a + m) _ _ _ _ _ _ _ _ _ _ _ _ _ _ _ _ _ _ _ _ _ _ _ _ _ _ _ (by rw [List.length_drop] at hf ⊢; omega) (by omega) (by rw [hw]; omega)
      · rw [if_neg (by simp [h])] at hw
        simp at hw
        simp
        rw [← hw]; exact hk
    · have : l.drop a = [] := by simp; omega
      rw [this, skipF] at hw
      simp [hlt]
      simp at hw
      rw [← hw]; exact hk
def skipN (l : List UInt8) (a : Nat) : Nat := a + skipF (l.length - a) (l.drop a)
theorem skipN_le {l : List UInt8} {a : Nat} (h : a ≤ l.length) : skipN l a ≤ l.length := by
  have := skipF_le (l.length - a) (l.drop a)
  rw [List.length_drop] at this
  unfold skipN; omega
theorem c_skip {H : AHeap} {l : List UInt8} {a : Nat} (hl : l.length < 2 ^ 40) (ha : a ≤ l.length) : ACalls Tryz.prog 65 [str l, i64 a] H (i64 (skipN l a)) H := by
  refine acalls_pure MixT Tryz.func65 (by decide) rfl ?_
  rw [d65]
  exact ⟨_, skip_loop (k := Same (i64 (skipN l a)) H) hl (skipN l a) ⟨rfl, [], by simp⟩ (l.length - a) a _ _ _ _ _ _ _ _ _ _ _ _ _ _ _ _ _ _ _ _ _ _ _ _ _ _ _ (by simp) ha rfl⟩

theorem kround_one {P : Program} {b args H} {k : Value → AHeap → Prop} (h : kround P b args H k) : ∃ v H', k v H' ∧ kround P b args H fun u H2 => u = v ∧ H2 = H' := by
  unfold kround at h
  split at h
  case h_2 => cases h
  rename_i sl ps assign body pe hb
  obtain ⟨hl, hx⟩ := h
  obtain ⟨e1, s1, H1, ⟨rfl, hb1, hx1⟩, hy⟩ := kx_one _ hx
  obtain ⟨e2, s2, H2, ⟨hb2, hk⟩, hz⟩ := kx_one _ hx1
  refine ⟨_, _, hk, ?_⟩
  unfold kround
  rw [hb]
  refine ⟨hl, kx_mono _ ?_ hy⟩
  rintro e sl H ⟨rfl, rfl, rfl⟩
  refine ⟨rfl, hb1, kx_mono _ ?_ hz⟩
  rintro e sl H ⟨rfl, rfl, rfl⟩
  exact ⟨hb2, rfl, rfl⟩
theorem ayields_ex {P : Program} (hm : P.follows .mixedOrders = true) {b args H} {k : Value → AHeap → Prop} (h : kround P b args H k) : ∃ v H', k v H' ∧ AYields P b args H v H' := by
  obtain ⟨v, H', h1, h2⟩ := kround_one h
  exact ⟨v, H', h1, ayields_of hm h2⟩

structure OneD (D : DrawK) : Prop where
  mono : ∀ {ops} {k k' : List Value → AHeap → Prop} {sl H}, (∀ s h, k s h → k' s h) → D ops k sl H → D ops k' sl H
  one : ∀ {ops} {k : List Value → AHeap → Prop} {sl H}, D ops k sl H → ∃ sl' H', k sl' H' ∧ D ops (fun s h => s = sl' ∧ h = H') sl H
section
variable {P : Program}
theorem drawStd_one : OneD (drawStd P) := by
  constructor
  · intro ops k k' sl H hk h
    unfold drawStd at h ⊢
    split at h
    · exact kdraw_mono hk _ _ h
    · cases h
  · intro ops k sl H h
    unfold drawStd at h ⊢
    split at h
    · exact kdraw_one _ _ h
    · cases h
variable {D : DrawK}
theorem kloopG_mono {f : List Value → AHeap → List Nat → KontG → Prop} (hm : ∀ {sl H m} {k k' : KontG}, (∀ e sl H m, k e sl H m → k' e sl H m) → f sl H m k → f sl H m k') :
    ∀ (n : Nat) {sl H m} {k k' : KontG}, (∀ e sl H m, k e sl H m → k' e sl H m) → kloopG f n sl H m k → kloopG f n sl H m k' := by
  intro n
  induction n with
  | zero => intro sl H m k k' _ h; cases h
  | succ n ih =>
    intro sl H m k k' hk h
    simp only [kloopG] at h ⊢
    refine hm ?_ h
    intro e sl H m h
    cases e with
    | normal => exact ih hk h
    | exit i => exact hk _ _ _ _ h
    | ret => exact hk _ _ _ _ h
theorem kjump_mono {k k' : KontG} (hk : ∀ e sl H m, k e sl H m → k' e sl H m) {sl H m pe} (h : kjump k sl H m pe) : kjump k' sl H m pe := by
  unfold kjump at h ⊢
  split at h
  · exact hk _ _ _ _ h
  · exact hk _ _ _ _ h
  · exact hk _ _ _ _ h
  · cases h
theorem kxG_mono (hD : OneD D) : ∀ (c : Code) {sl H m} {k k' : KontG}, (∀ e sl H m, k e sl H m → k' e sl H m) → kxG P D c sl H m k → kxG P D c sl H m k' := by
  intro c
  induction c with
  | skip => intro sl H m k k' hk h; exact hk _ _ _ _ h
  | label l => intro sl H m k k' hk h; exact hk _ _ _ _ h
  | region id ops draw =>
    intro sl H m k k' hk h
    cases draw with
    | false => exact kops_mono (fun s h => hk .normal s h m) _ h
    | true => exact hD.mono (fun s h => hk .normal s h m) h
  | seq x y ihx ihy =>
    intro sl H m k k' hk h
    refine ihx ?_ h
    intro e sl H m h
    cases e with
    | normal => exact ihy hk h
    | exit i => exact hk _ _ _ _ h
    | ret => exact hk _ _ _ _ h
  | cond c x y ihx ihy =>
    intro sl H m k k' hk h
    simp only [kxG] at h ⊢
    split at h
    · unfold kif at h ⊢
      split at h
      · split at h
        · rename_i q; simp only [if_pos q]; exact ihx hk h
        · rename_i q; simp only [if_neg q]; exact ihy hk h
      · cases h
    · cases h
  | block id c ih =>
    intro sl H m k k' hk h
    refine ih ?_ h
    intro e sl H m h
    cases e with
    | normal => exact hk _ _ _ _ h
    | exit i =>
      simp only [kblkG] at h ⊢
      split at h
      · rename_i q; rw [if_pos q]; exact hk _ _ _ _ h
      · rename_i q; rw [if_neg q]; exact hk _ _ _ _ h
    | ret => exact hk _ _ _ _ h
  | exit id => intro sl H m k k' hk h; exact hk _ _ _ _ h
  | ret => intro sl H m k k' hk h; exact hk _ _ _ _ h
  | loop c ih =>
    intro sl H m k k' hk h
    obtain ⟨n, h⟩ := h
    exact ⟨n, kloopG_mono (f := kxG P D c) (fun hk h => ih hk h) n hk h⟩
  | rangeFunc g ps assign body _ _ =>
    intro sl H m k k' hk h
    simp only [kxG] at h ⊢
    split at h
    · unfold krange at h ⊢
      split at h
      · obtain ⟨h1, h2, v, H', h3, h4⟩ := h
        refine ⟨h1, h2, v, H', h3, ?_⟩
        unfold rngEnd at h4 ⊢
        split at h4
        · exact ⟨h4.1, kjump_mono hk h4.2⟩
        · cases h4
      · cases h
    · cases h
  | _ => intro sl H m k k' hk h; cases h
def kisG (e : AExit) (sl : List Value) (H : AHeap) (m : List Nat) : KontG := fun e2 s2 h2 m2 => e2 = e ∧ s2 = sl ∧ h2 = H ∧ m2 = m
theorem kloopG_one {f : List Value → AHeap → List Nat → KontG → Prop} (hf : ∀ {sl H m} {k : KontG}, f sl H m k → ∃ e sl' H' m', k e sl' H' m' ∧ f sl H m (kisG e sl' H' m'))
    (hm : ∀ {sl H m} {k k' : KontG}, (∀ e sl H m, k e sl H m → k' e sl H m) → f sl H m k → f sl H m k') :
    ∀ (n : Nat) {sl H m} {k : KontG}, kloopG f n sl H m k → ∃ e sl' H' m', k e sl' H' m' ∧ kloopG f n sl H m (kisG e sl' H' m') := by
  intro n
  induction n with
  | zero => intro sl H m k h; cases h
  | succ n ih =>
    intro sl H m k h
    simp only [kloopG] at h
    obtain ⟨e, s1, h1, m1, hk, hf1⟩ := hf h
    cases e with
    | normal =>
      obtain ⟨e2, s2, h2, m2, hk2, hf2⟩ := ih hk
      refine ⟨e2, s2, h2, m2, hk2, ?_⟩
      simp only [kloopG]
      refine hm ?_ hf1
      rintro e sl H m ⟨rfl, rfl, rfl, rfl⟩
      exact hf2
    | exit i =>
      refine ⟨.exit i, s1, h1, m1, hk, ?_⟩
      simp only [kloopG]
      refine hm ?_ hf1
      rintro e sl H m ⟨rfl, rfl, rfl, rfl⟩
      exact ⟨rfl, rfl, rfl, rfl⟩
    | ret =>
      refine ⟨.ret, s1, h1, m1, hk, ?_⟩
      simp only [kloopG]
      refine hm ?_ hf1
      rintro e sl H m ⟨rfl, rfl, rfl, rfl⟩
      exact ⟨rfl, rfl, rfl, rfl⟩
theorem kxG_one (hD : OneD D) : ∀ (c : Code) {sl H m} {k : KontG}, kxG P D c sl H m k → ∃ e sl' H' m', k e sl' H' m' ∧ kxG P D c sl H m (kisG e sl' H' m') := by
  intro c
  induction c with
  | skip => intro sl H m k h; exact ⟨_, _, _, _, h, rfl, rfl, rfl, rfl⟩
  | label l => intro sl H m k h; exact ⟨_, _, _, _, h, rfl, rfl, rfl, rfl⟩
  | region id ops draw =>
    intro sl H m k h
    cases draw with
    | false =>
      obtain ⟨a, b, h1, h2⟩ := kops_one (k := fun s h => k .normal s h m) _ h
      exact ⟨.normal, a, b, m, h1, kops_mono (fun _ _ q => ⟨rfl, q.1, q.2, rfl⟩) _ h2⟩
    | true =>
      obtain ⟨a, b, h1, h2⟩ := hD.one h
      exact ⟨.normal, a, b, m, h1, hD.mono (fun _ _ q => ⟨rfl, q.1, q.2, rfl⟩) h2⟩
  | seq x y ihx ihy =>
    intro sl H m k h
    obtain ⟨e, s1, h1, m1, hk, hx⟩ := ihx h
    cases e with
    | normal =>
      obtain ⟨e2, s2, h2, m2, hk2, hy⟩ := ihy hk
      refine ⟨e2, s2, h2, m2, hk2, kxG_mono hD x ?_ hx⟩
      rintro e sl H m ⟨rfl, rfl, rfl, rfl⟩
      exact hy
    | exit i =>
      refine ⟨.exit i, s1, h1, m1, hk, kxG_mono hD x ?_ hx⟩
      rintro e sl H m ⟨rfl, rfl, rfl, rfl⟩
      exact ⟨rfl, rfl, rfl, rfl⟩
    | ret =>
      refine ⟨.ret, s1, h1, m1, hk, kxG_mono hD x ?_ hx⟩
      rintro e sl H m ⟨rfl, rfl, rfl, rfl⟩
      exact ⟨rfl, rfl, rfl, rfl⟩
  | cond c x y ihx ihy =>
    intro sl H m k h
    simp only [kxG] at h
    split at h
    · rename_i v hv
      unfold kif at h
      split at h
      · split at h
        · rename_i q
          obtain ⟨e, s1, h1, m1, hk, hx⟩ := ihx h
          refine ⟨e, s1, h1, m1, hk, ?_⟩
          simp only [kxG, hv, kif, if_pos q]; exact hx
        · rename_i q
          obtain ⟨e, s1, h1, m1, hk, hx⟩ := ihy h
          refine ⟨e, s1, h1, m1, hk, ?_⟩
          simp only [kxG, hv, kif, if_neg q]; exact hx
      · cases h
    · cases h
  | block id c ih =>
    intro sl H m k h
    obtain ⟨e, s1, h1, m1, hk, hx⟩ := ih h
    cases e with
    | normal =>
      refine ⟨.normal, s1, h1, m1, hk, kxG_mono hD c ?_ hx⟩
      rintro e sl H m ⟨rfl, rfl, rfl, rfl⟩
      exact ⟨rfl, rfl, rfl, rfl⟩
    | exit i =>
      simp only [kblkG] at hk
      split at hk
      · rename_i q
        refine ⟨.normal, s1, h1, m1, hk, kxG_mono hD c ?_ hx⟩
        rintro e sl H m ⟨rfl, rfl, rfl, rfl⟩
        simp only [kblkG, if_pos q]
        exact ⟨rfl, rfl, rfl, rfl⟩
      · rename_i q
        refine ⟨.exit i, s1, h1, m1, hk, kxG_mono hD c ?_ hx⟩
        rintro e sl H m ⟨rfl, rfl, rfl, rfl⟩
        simp only [kblkG, if_neg q]
        exact ⟨rfl, rfl, rfl, rfl⟩
    | ret =>
      refine ⟨.ret, s1, h1, m1, hk, kxG_mono hD c ?_ hx⟩
      rintro e sl H m ⟨rfl, rfl, rfl, rfl⟩
      exact ⟨rfl, rfl, rfl, rfl⟩
  | exit id => intro sl H m k h; exact ⟨_, _, _, _, h, rfl, rfl, rfl, rfl⟩
  | ret => intro sl H m k h; exact ⟨_, _, _, _, h, rfl, rfl, rfl, rfl⟩
  | loop c ih =>
    intro sl H m k h
    obtain ⟨n, h⟩ := h
    obtain ⟨e, s1, h1, m1, hk, hx⟩ := kloopG_one (f := kxG P D c) (fun h => ih h) (fun hk h => kxG_mono hD c hk h) n h
    exact ⟨e, s1, h1, m1, hk, n, hx⟩
  | rangeFunc g ps assign body _ _ =>
    intro sl H m k h
    simp only [kxG] at h
    split at h
    · rename_i gv hg
      unfold krange at h
      split at h
      · obtain ⟨h1, h2, v, H', h3, h4⟩ := h
        unfold rngEnd at h4
        split at h4
        · rename_i hob
          obtain ⟨hst, hj⟩ := h4
          unfold kjump at hj
          have mk : ∀ (e : AExit), (∀ (k : KontG) sl H m, kjump k sl H m (jumpOf e) = k e sl H m) → True := fun _ _ => trivial
          split at hj
          · refine ⟨_, _, _, _, hj, ?_⟩
            simp only [kxG, hg, krange]
            refine ⟨h1, h2, v, H', h3, ?_⟩
            unfold rngEnd
            rw [hob]
            exact ⟨hst, rfl, rfl, rfl, rfl⟩
          · refine ⟨_, _, _, _, hj, ?_⟩
            simp only [kxG, hg, krange]
            refine ⟨h1, h2, v, H', h3, ?_⟩
            unfold rngEnd
            rw [hob]
            exact ⟨hst, rfl, rfl, rfl, rfl⟩
          · refine ⟨_, _, _, _, hj, ?_⟩
            simp only [kxG, hg, krange]
            refine ⟨h1, h2, v, H', h3, ?_⟩
            unfold rngEnd
            rw [hob]
            exact ⟨hst, rfl, rfl, rfl, rfl⟩
          · cases hj
        · cases h4
      · cases h
    · cases h
  | _ => intro sl H m k h; cases h
theorem kmarks_one {k : AHeap → Prop} : ∀ (m : List Nat) {H}, kmarks k m H → ∃ H', k H' ∧ kmarks (fun h => h = H') m H := by
  intro m
  induction m with
  | nil => intro H h; exact ⟨H, h, rfl⟩
  | cons b r ih =>
    intro H h
    obtain ⟨h1, h2⟩ := h
    obtain ⟨H', q1, q2⟩ := ih h2
    exact ⟨H', q1, h1, q2⟩
theorem kmarks_mono {k k' : AHeap → Prop} (hk : ∀ h, k h → k' h) : ∀ (m : List Nat) {H}, kmarks k m H → kmarks k' m H := by
  intro m
  induction m with
  | nil => intro H h; exact hk _ h
  | cons b r ih => intro H h; exact ⟨h.1, ih h.2⟩
theorem kbodyG_one (hD : OneD D) {fn args H} {k : Value → AHeap → Prop} (h : kbodyG P D fn args H k) : ∃ v H', k v H' ∧ kbodyG P D fn args H fun u H2 => u = v ∧ H2 = H' := by
  unfold kbodyG at h
  split at h
  · rename_i c hb
    obtain ⟨e, s1, h1, m1, hk, hx⟩ := kxG_one hD c h
    have fin : ∀ {e}, kxG P D c (args ++ List.replicate (fn.ntmps - args.length) undef) H [] (kisG e s1 h1 m1) → (e = .normal ∨ e = .ret) → kmarks (fun H2 => kres P s1 H2 fn.results.toList fun l => k (retV l) H2) m1 h1 →
        ∃ v H', k v H' ∧ kbodyG P D fn args H fun u H2 => u = v ∧ H2 = H' := by
      intro e hx he hk
      obtain ⟨H2, q1, q2⟩ := kmarks_one _ hk
      obtain ⟨l, q3, q4⟩ := kres_one _ q1
      refine ⟨retV l, H2, q3, ?_⟩
      unfold kbodyG
      rw [hb]
      refine kxG_mono hD c ?_ hx
      rintro e2 sl H3 m3 ⟨rfl, rfl, rfl, rfl⟩
      have key : kmarks (fun H2 => kres P sl H2 fn.results.toList fun l' => retV l' = retV l ∧ H2 = H2) m3 H3 → True := fun _ => trivial
      rcases he with rfl | rfl <;> exact kmarks_mono (fun h hh => by subst hh; exact kres_weak _ (fun l' h => ⟨by rw [h], rfl⟩) q4) _ q2
    cases e with
    | normal => exact fin hx (.inl rfl) hk
    | ret => exact fin hx (.inr rfl) hk
    | exit i => cases hk
  · cases h
theorem acallsG_ex (hm : P.follows .mixedOrders = true) {f fn args H} {k : Value → AHeap → Prop} (hf : P.funcs[f]? = some fn) (hn : notNG fn = true) (hr : kbodyG P (drawStd P) fn args H k) : ∃ v H', k v H' ∧ ACalls P f args H v H' := by
  obtain ⟨v, H', h1, h2⟩ := kbodyG_one drawStd_one hr
  exact ⟨v, H', h1, acallsG_of (fun c => @drawStd_sound P c hm) hf hn h2⟩
end

theorem foldl_put : ∀ (c : List Value) (k : Nat) (cells : List Value), k + c.length ≤ cells.length →
    (c.zipIdx k).foldl (fun (cs : Array Value) (p : Value × Nat) => cs.setIfInBounds p.2 p.1) cells.toArray = (cells.take k ++ c ++ cells.drop (k + c.length)).toArray := by
  intro c
  induction c with
  | nil => intro k cells _; simp
  | cons v r ih =>
    intro k cells h
    simp only [List.length_cons] at h
    simp only [List.zipIdx_cons, List.foldl_cons, List.setIfInBounds_toArray]
    have := ih (k + 1) (cells.set k v) (by simp; omega)
    rw [this]
    congr 1
    rw [List.take_set, List.set_eq_take_append_cons_drop, if_pos (by rw [List.length_take]; omega), List.drop_set_of_lt (by omega)]
    simp [List.take_take, Nat.add_assoc, Nat.add_comm 1]
theorem sliceLitA {P : Program} {H : AHeap} {T e : TypeId} {zs : Array Value} {c : List Value} (hs : aBuildSlice P H T 1 [(0, .agg c.toArray)] = bslV e zs H 1 [(0, .agg c.toArray)]) (hz : c.length = zs.size) (ho : ∀ v ∈ c, v.oneCell' = true) (hb : zs.size ≤ 16777216) :
    sliceLit P H T 1 [(0, .agg c.toArray)] (.slice (some ⟨H.length, 0, some c.length⟩) 1 1) (H ++ [.cells c e]) := by
  refine ⟨?_, ?_⟩
  · simpa [storable] using ho
  · rw [hs]
    unfold bslV
    have hr : (repCells zs (1 * zs.size)).size = zs.size := by simp [repCells]
    have hf : Instr.fill (fun i => some (i * zs.size, zs.size)) (repCells zs (1 * zs.size)) [(0, .agg c.toArray)] = some c.toArray := by
      generalize hR : repCells zs (1 * zs.size) = R at hr
      obtain ⟨R⟩ := R
      simp only [List.size_toArray] at hr
      simp only [Instr.fill, cells_agg, List.size_toArray, hz, Nat.zero_mul]
      rw [if_neg (by simp; omega)]
      have := foldl_put c 0 R (by omega)
      rw [List.take_zero, List.nil_append, Nat.zero_add, List.drop_eq_nil_of_le (by omega), List.append_nil] at this
      refine congrArg some (Eq.trans ?_ this)
      rw [← Array.foldl_toList]
      simp
    rw [hf, if_pos (by omega)]
    simp only [List.size_toArray]
    rw [if_pos ⟨by omega, by simpa using ho⟩]

inductive Gro (K : AHeap) (lo z : Nat) (T : TypeId) : Value → List (List Value) → Prop
  | nil : Gro K lo z T (.slice none 0 0) []
  | mk (bb : Nat) (cl : List (List Value)) (h1 : lo ≤ bb) (h2 : K[bb]? = some (.cells cl.flatten T)) (h3 : cl ≠ []) (h4 : ∀ c ∈ cl, c.length = z) : Gro K lo z T (.slice (some ⟨bb, 0, some (cl.length * z)⟩) cl.length cl.length) cl
theorem Gro.one {K lo z T v cl} (h : Gro K lo z T v cl) : v.oneCell' = true := by cases h <;> rfl
theorem Gro.cells {K lo z T v cl} (h : Gro K lo z T v cl) : v.cells = #[v] := by cases h <;> rfl
theorem Gro.stor {K lo z T v cl} (h : Gro K lo z T v cl) : storable v = true := by cases h <;> rfl
theorem Gro.app {K lo z T v cl} {X : AHeap} (h : Gro K lo z T v cl) : Gro (K ++ X) lo z T v cl := by
  cases h with
  | nil => exact .nil
  | mk bb cl h1 h2 h3 h4 => exact .mk bb cl h1 (get_more h2) h3 h4
theorem Gro.set {K lo z T v cl} {b : Nat} {o : AObj} (h : Gro K lo z T v cl) (hb : b < lo) : Gro (K.set b o) lo z T v cl := by
  cases h with
  | nil => exact .nil
  | mk bb cl h1 h2 h3 h4 => exact .mk bb cl h1 (by rw [List.getElem?_set_ne (by omega)]; exact h2) h3 h4
theorem flat_len {z : Nat} : ∀ {cl : List (List Value)}, (∀ c ∈ cl, c.length = z) → cl.flatten.length = cl.length * z := by
  intro cl
  induction cl with
  | nil => intro _; simp
  | cons c r ih =>
    intro h
    rw [List.flatten_cons, List.length_append, ih fun x hx => h x (by simp [hx]), h c (by simp), List.length_cons, Nat.add_mul]
    omega
theorem flat_at {z : Nat} : ∀ {cl : List (List Value)} {i : Nat} {e : List Value}, (∀ c ∈ cl, c.length = z) → cl[i]? = some e → (cl.flatten.drop (i * z)).take z = e := by
  intro cl
  induction cl with
  | nil => intro i e _ h; simp at h
  | cons c r ih =>
    intro i e h hi
    have hc := h c (by simp)
    cases i with
    | zero =>
      simp at hi
      subst hi
      rw [Nat.zero_mul, List.drop_zero, List.flatten_cons, List.take_append_of_le_length (by omega), List.take_of_length_le (by omega)]
    | succ i =>
      have := ih (fun x hx => h x (by simp [hx])) (by simpa using hi : r[i]? = some e)
      rw [List.flatten_cons, Nat.add_mul, Nat.one_mul, Nat.add_comm, ← List.drop_drop, List.drop_append_of_le_length (by omega)]
      rw [show c.drop z = [] by simp; omega, List.nil_append]
      exact this
theorem Gro.arr {K lo z T v cl} (h : Gro K lo z T v cl) : Arr K z v cl := by
  cases h with
  | nil => exact .nil
  | mk bb cl h1 h2 h3 h4 =>
    refine .mk bb 0 _ _ _ cl.flatten cl rfl (by simp [hcells, h2]) (flat_len h4) (by omega) fun i e hi => ?_
    rw [Nat.zero_add]
    exact flat_at h4 hi
theorem Gro.push {P : Program} {K : AHeap} {lo z by_ : Nat} {T Ts : TypeId} {v x : Value} {cl : List (List Value)} {c : List Value} (h : Gro K lo z T v cl) (hT : aElem P Ts = some (T, z, by_)) (hsq : isSeq P Ts = true) (hc : c.length = z) (hlo : lo ≤ K.length)
    (hx : aSrc K z x = some (1, c)) (hb : (cl.length + 1) * by_ ≤ 140737488355328) (hn : cl.length + 1 ≤ 9223372036854775807) :
    ∃ v' K', aBuiltin P K .append #[Ts, Ts] [v, x] = some (v', K') ∧ Gro K' lo z T v' (cl ++ [c]) ∧ (∀ b o, b < lo → K[b]? = some o → K'[b]? = some o) ∧ K.length ≤ K'.length ∧ (∀ H, Pre H K → H.length ≤ lo → Pre H K') := by
  cases h with
  | nil =>
    refine ⟨.slice (some ⟨K.length, 0, some z⟩) 1 1, K ++ [.cells c T], ?_, ?_, fun b o hb ho => get_more ho, by simp, fun H p _ => p.more _⟩
    · have hb' : by_ ≤ 140737488355328 := by simpa using hb
      simp [aBuiltin, aAppend, hT, hx, hsq, hb', hc]
    · have := Gro.mk (K := K ++ [.cells c T]) (lo := lo) (z := z) (T := T) K.length [c] hlo (by simp) (by simp) (by simpa using hc)
      simpa using this
  | mk bb cl h1 h2 h3 h4 =>
    have hfl := flat_len h4
    have hlt := (List.getElem?_eq_some_iff.1 h2).1
    refine ⟨.slice (some ⟨bb, 0, some ((cl.length + 1) * z)⟩) (cl.length + 1) (cl.length + 1), K.set bb (.cells (cl ++ [c]).flatten T), ?_, ?_, fun b o hb ho => by rw [List.getElem?_set_ne (by omega)]; exact ho, by simp, fun H p hH => p.set (by omega)⟩
    · have e1 : cl.length * z = cl.flatten.length := hfl.symm
      have e2 : ¬ cl.length + 1 ≤ cl.length := by omega
      simp only [aBuiltin, aAppend, hT, hx, hsq, if_true, h2, hfl, Nat.zero_add, Nat.le_refl, and_self, e2, if_false, hb, hn]
      have e3 : (cl.flatten.take (cl.length * z)) = cl.flatten := List.take_of_length_le (by omega)
      rw [e3]
      simp
    · have := Gro.mk (K := K.set bb (.cells (cl ++ [c]).flatten T)) (lo := lo) (z := z) (T := T) bb (cl ++ [c]) h1 (List.getElem?_set_self hlt) (by simp) (by
        intro x hx
        rw [List.mem_append] at hx
        rcases hx with hx | hx
        · exact h4 x hx
        · simp at hx; rw [hx]; exact hc)
      simpa using this
end Go.Vi
namespace Go.Vi
open Go Go.Proofs

def lexF (l : List UInt8) : Nat → Nat → List Tok × Option Nat
  | 0, _ => ([], none)
  | f + 1, a => if a < l.length then
      (if (oneF (l.drop a) a).2 = 0 then ([], some a)
       else ((oneF (l.drop a) a).1 :: (lexF l f (skipN l (a + (oneF (l.drop a) a).2))).1, (lexF l f (skipN l (a + (oneF (l.drop a) a).2))).2))
    else ([], none)
theorem oneF_le (s : List UInt8) (a : Nat) : (oneF s a).2 ≤ s.length := by
  unfold oneF
  cases s with
  | nil => simp
  | cons b r =>
    simp only
    split
    · exact runF_le _ _
    · split
      · exact numLen_le _
      · split
        · have := textF_len r.length r [] 1 (Nat.le_refl _); simp; omega
        · exact signF_le (b :: r)
theorem skipN_ge (l : List UInt8) (a : Nat) : a ≤ skipN l a := by unfold skipN; omega
theorem tell_loop {l : List UInt8} {sp : Nat} {rb : Nat} {J : List Tok → AHeap → Prop} {Jx : Nat → AHeap → Prop} {k : Value → AHeap → Prop} (hl : l.length ≤ 4096)
    (hJs : ∀ ts K, J ts K → hcells K sp = some [str l]) (hJr : ∀ ts K, J ts K → ∃ r, K[rb]? = some (.loop r)) (hJa : ∀ ts K X, J ts K → J ts (K ++ X))
    (hy : ∀ ts t K, J ts K → ts.length < 4096 → ∃ K', AYields Tryz.prog rb [.agg (Tok.cells t).toArray, i64 0] K (.bool true) K' ∧ J (ts ++ [t]) K')
    (hx : ∀ ts (a : Nat) K, J ts K → ∃ K', AYields Tryz.prog rb [.agg (Tok.cells ⟨0, [], a⟩).toArray, i64 90] K (.bool false) K' ∧ Jx a K')
    (w : List Tok × Option Nat) (hk1 : ∀ K, w.2 = none → J w.1 K → k (.tuple #[]) K) (hk2 : ∀ K a, w.2 = some a → Jx a K → k (.tuple #[]) K) :
    ∀ (f : Nat) (a : Nat) (ts : List Tok) (K : AHeap) (s2 s4 s5 s6 s7 s8 s9 s10 s11 s12 s13 s14 s15 s16 s17 s18 s19 s20 s21 s22 s23 s24 s25 s26 s27 s28 s29 s30 s31 s32 s33 s34 s35 s36 s37 s38 s39 : Value), l.length - a ≤ f → a ≤ l.length → ts.length ≤ a → J ts K → w = (ts ++ (lexF l f a).1, (lexF l f a).2) →
      L64x0 (f + 1) k [yval rb, .pointer (some ⟨sp, 0, some 1⟩), s2, i64 a, s4, s5, s6, s7, s8, s9, s10, s11, s12, s13, s14, s15, s16, s17, s18, s19, s20, s21, s22, s23, s24, s25, s26, s27, s28, s29, s30, s31, s32, s33, s34, s35, s36, s37, s38, s39] K := by
  intro f
  induction f with
  | zero =>
    intro a ts K s2 s4 s5 s6 s7 s8 s9 s10 s11 s12 s13 s14 s15 s16 s17 s18 s19 s20 s21 s22 s23 s24 s25 s26 s27 s28 s29 s30 s31 s32 s33 s34 s35 s36 s37 s38 s39 hf ha hts hJ hw
    have hc := hJs ts K hJ
    rw [L64x0q]
    have : ¬ a < l.length := by omega
    simp [hc, this]
    refine hk1 K ?_ ?_
    · rw [hw]; rfl
    · rw [hw]; simpa [lexF] using hJ
  | succ f ih =>
    intro a ts K s2 s4 s5 s6 s7 s8 s9 s10 s11 s12 s13 s14 s15 s16 s17 s18 s19 s20 s21 s22 s23 s24 s25 s26 s27 s28 s29 s30 s31 s32 s33 s34 s35 s36 s37 s38 s39 hf ha hts hJ hw
    have hc := hJs ts K hJ
    rw [L64x0q]
    by_cases hlt : a < l.length
    · simp [hc, hlt]
      refine bndC_of (c_one (by omega) hlt) ?_
      have hle := oneF_le (l.drop a) a
      rw [List.length_drop] at hle
      rw [lexF, if_pos hlt] at hw
      generalize oneF (l.drop a) a = o at hw hle ⊢
      obtain ⟨t, n⟩ := o
      simp only at hw hle
      simp [Tok.cells]
      refine kifB_bool (fun h => ?_) (fun h => ?_)
      · have hn : n = 0 := by simpa using h
        rw [if_pos hn] at hw
        obtain ⟨K', q1, q2⟩ := hx ts a _ (hJa ts K [.cells t.cells 70] hJ)
        simp
        refine bndV_yield (hJr ts _ (hJa ts K _ hJ)) (by simpa [Tok.cells] using q1) ?_
        exact hk2 K' a (by rw [hw]) q2
      · have hn : n ≠ 0 := by simpa using h
        rw [if_neg hn] at hw
        obtain ⟨K', q1, q2⟩ := hy ts t _ (hJa ts K [.cells t.cells 70] hJ) (by omega)
        simp
        refine bndV_yield (hJr ts _ (hJa ts K _ hJ)) (by simpa [Tok.cells] using q1) ?_
        have hc' := hJs _ K' q2
        have hwr : IntKind.i64.wrap ((a : Int) + n) = ((a + n : Nat) : Int) := by rw [wrap_i64 (by omega) (by omega)]; simp
        simp only [unV_not, bnd_some, Bool.not_true, kifB_false, aBin_add, hwr]
        simp [hc']
        refine bndC_of (c_skip (by omega) (by omega)) ?_
        have h1 := skipN_le (l := l) (a := a + n) (by omega)
        have h2 := skipN_ge l (a + n)
        exact ih (skipN l (a + n)) (ts ++ [t]) K' _ _ _ _ _ _ _ _ _ _ _ _ _ _ _ _ _ _ _ _ _ _ _ _ _ _ _ _ _ _ _ _ _ _ _ _ _ (by omega) h1 (by simp; omega) q2 (by rw [hw]; simp)
    · rw [lexF, if_neg hlt] at hw
      simp [hc, hlt]
      refine hk1 K ?_ ?_
      · rw [hw]
      · rw [hw]; simpa using hJ

theorem c_tell (H : AHeap) (l : List UInt8) : ACalls Tryz.prog 39 [str l] H (.func (.func 64) #[] #[.pointer (some ⟨H.length, 0, some 1⟩)]) (H ++ [.cells [str l] 9]) := by
  refine acalls_of MixT Tryz.func39 (by decide) ?_
  rw [d39]
  simp [aNew]
def allTok (l : List UInt8) : List Tok × Nat × Int :=
  if 4096 < l.length then ([], 0, 3) else match (lexF l (l.length + 1) (skipN l 0)).2 with
    | none => ((lexF l (l.length + 1) (skipN l 0)).1, 0, 0)
    | some a => ([], a, 90)
theorem c_tell1 {l : List UInt8} {sp : Nat} {rb : Nat} {J : List Tok → AHeap → Prop} {Jx : Nat → Int → AHeap → Prop} {K : AHeap} 
    (hJs : ∀ ts K, J ts K → hcells K sp = some [str l]) (hJr : ∀ ts K, J ts K → ∃ r, K[rb]? = some (.loop r)) (hJa : ∀ ts K X, J ts K → J ts (K ++ X))
    (hy : ∀ ts t K, J ts K → ts.length < 4096 → ∃ K', AYields Tryz.prog rb [.agg (Tok.cells t).toArray, i64 0] K (.bool true) K' ∧ J (ts ++ [t]) K')
    (hx : ∀ ts (a : Nat) (e : Int) K, e ≠ 0 → J ts K → ∃ K', AYields Tryz.prog rb [.agg (Tok.cells ⟨0, [], a⟩).toArray, i64 e] K (.bool false) K' ∧ Jx a e K') (hJ : J [] K) :
    ∃ v K', (((allTok l).2.2 = 0 ∧ J (allTok l).1 K') ∨ ((allTok l).1 = [] ∧ (allTok l).2.2 ≠ 0 ∧ Jx (allTok l).2.1 (allTok l).2.2 K')) ∧ ACalls Tryz.prog 64 [yval rb, .pointer (some ⟨sp, 0, some 1⟩)] K v K' := by
  refine acalls_ex MixT Tryz.func64 (by decide) ?_
  rw [d64]
  have hc := hJs [] K hJ
  by_cases h4 : 4096 < l.length
  · have h4I : (4096 : Int) < l.length := by omega
    simp [hc, h4I]
    obtain ⟨K', q1, q2⟩ := hx [] 0 3 K (by simp) hJ
    refine bndV_yield (hJr [] K hJ) (by simpa [Tok.cells] using q1) ?_
    right
    simp [allTok, h4]
    exact q2
  · have h4I : ¬ (4096 : Int) < l.length := by omega
    simp [hc, h4I]
    have hs := c_skip (H := K) (l := l) (a := 0) (by omega) (by omega)
    rw [show ((0 : Nat) : Int) = 0 from rfl] at hs
    refine bndC_of hs ?_
    have h1 := skipN_le (l := l) (a := 0) (by omega)
    refine ⟨l.length + 1 + 1, tell_loop (J := J) (Jx := fun a K => Jx a 90 K) (by omega) hJs hJr hJa hy (fun ts a K h => hx ts a 90 K (by simp) h) (lexF l (l.length + 1) (skipN l 0)) ?_ ?_ (l.length + 1) (skipN l 0) [] K _ _ _ _ _ _ _ _ _ _ _ _ _ _ _ _ _ _ _ _ _ _ _ _ _ _ _ _ _ _ _ _ _ _ _ _ _ (by omega) h1 (by simp) hJ (by simp)⟩
    · intro K' e1 e2
      left
      simp [allTok, h4, e1]
      exact e2
    · intro K' a e1 e2
      right
      simp [allTok, h4, e1]
      exact e2

def ToksAt (H : AHeap) (v : Value) (ts : List Tok) : Prop := Arr H 3 v (ts.map Tok.cells)
structure AllJ (H : AHeap) (l : List UInt8) (sl : List Value) (ps : Array Tmp) (assign body : Code) (ts : List Tok) (K : AHeap) : Prop where
  pre : Pre H K
  len : H.length + 7 ≤ K.length
  r1 : K[H.length]? = some (.cells [.slice none 0 0] 23)
  r2 : K[H.length + 1]? = some (.cells [i64 0] 3)
  r3 : K[H.length + 2]? = some (.cells [i64 0] 24)
  r4 : ∃ lv, K[H.length + 3]? = some (.cells [lv] 23) ∧ Gro K (H.length + 7) 3 70 lv (ts.map Tok.cells)
  r5 : K[H.length + 4]? = some (.cells [str l] 9)
  r6 : K[H.length + 5]? = some (.loop .blk)
  r7 : K[H.length + 6]? = some (.loop (.run sl ps assign body .ready none))
theorem AllJ.app {H l sl ps assign body ts K} (h : AllJ H l sl ps assign body ts K) (X : AHeap) : AllJ H l sl ps assign body ts (K ++ X) := by
  obtain ⟨lv, g1, g2⟩ := h.r4
  exact ⟨h.pre.more X, by have := h.len; simp; omega, get_more h.r1, get_more h.r2, get_more h.r3, ⟨lv, get_more g1, g2.app⟩, get_more h.r5, get_more h.r6, get_more h.r7⟩
structure AllX (H : AHeap) (sl : List Value) (ps : Array Tmp) (assign body : Code) (a : Nat) (e : Int) (K : AHeap) : Prop where
  pre : Pre H K
  r1 : K[H.length]? = some (.cells [.slice none 0 0] 23)
  r2 : K[H.length + 1]? = some (.cells [i64 a] 3)
  r3 : K[H.length + 2]? = some (.cells [i64 e] 24)
  r6 : K[H.length + 5]? = some (.loop .blk)
  r7 : K[H.length + 6]? = some (.loop (.run sl ps assign body .done (some .ret)))
noncomputable abbrev allA : Code := cl (cl (cr (cl (cr (cr (cb Tryz.f16))))))
noncomputable abbrev allB : Code := cr (cl (cr (cl (cr (cr (cb Tryz.f16))))))
def allSl (H : AHeap) (l : List UInt8) (fv : Value) : List Value := [str l, undef, .pointer (some ⟨H.length, 0, some 1⟩), .pointer (some ⟨H.length + 1, 0, some 1⟩), .pointer (some ⟨H.length + 2, 0, some 1⟩), .pointer (some ⟨H.length + 3, 0, some 1⟩), undef, undef, str l, fv, undef, undef, undef, undef, undef, undef, undef, undef, undef, undef, undef, undef]
theorem tel1 : aElem Tryz.prog 23 = some (70, 3, 32) := by kernel_rfl
theorem tel2 : isSeq Tryz.prog 23 = true := by kernel_rfl
theorem all_yield {H : AHeap} {l : List UInt8} {fv : Value} {ts : List Tok} {t : Tok} {K : AHeap} (hJ : AllJ H l (allSl H l fv) #[10, 11] allA allB ts K) (hts : ts.length < 4096) :
    ∃ K', AYields Tryz.prog (H.length + 6) [.agg t.cells.toArray, i64 0] K (.bool true) K' ∧ AllJ H l (allSl H l fv) #[10, 11] allA allB (ts ++ [t]) K' := by
  have key : ∃ v K', (v = .bool true ∧ AllJ H l (allSl H l fv) #[10, 11] allA allB (ts ++ [t]) K') ∧ AYields Tryz.prog (H.length + 6) [.agg t.cells.toArray, i64 0] K v K' := by
    refine ayields_ex MixT ?_
    unfold kround
    have h7 := hJ.r7
    rw [h7]
    refine ⟨rfl, ?_⟩
    have hsl : yput (allSl H l fv) (#[10, 11] : Array Tmp).toList [.agg t.cells.toArray, i64 0] = [str l, undef, .pointer (some ⟨H.length, 0, some 1⟩), .pointer (some ⟨H.length + 1, 0, some 1⟩), .pointer (some ⟨H.length + 2, 0, some 1⟩), .pointer (some ⟨H.length + 3, 0, some 1⟩), undef, undef, str l, fv, .agg t.cells.toArray, i64 0, undef, undef, undef, undef, undef, undef, undef, undef, undef, undef] := rfl
    rw [hsl, R16x0A]
    simp [Tok.cells]
    refine ⟨get_more h7, ?_⟩
    rw [R16x0B]
    have hKl := hJ.len
    generalize hB : AObj.loop (.run (allSl H l fv) #[10, 11] allA allB .busy none) = bus
    generalize hK1 : (K ++ [AObj.cells [.int .u8 t.kind, str t.text, i64 t.at'] 70]).set (H.length + 6) bus = K1
    have hL1 : K1.length = K.length + 1 := by rw [← hK1]; simp
    have hget : ∀ (b : Nat) (o : AObj), b ≠ H.length + 6 → K[b]? = some o → K1[b]? = some o := fun b o hb ho => by rw [← hK1, List.getElem?_set_ne (by omega)]; exact get_more ho
    have hx : K1[K.length]? = some (.cells [.int .u8 t.kind, str t.text, i64 t.at'] 70) := by rw [← hK1, List.getElem?_set_ne (by omega)]; simp
    have hbus : K1[H.length + 6]? = some bus := by rw [← hK1]; rw [List.getElem?_set_self (by simp; omega)]
    obtain ⟨lv, g1, g2⟩ := hJ.r4
    have g1' := hget _ _ (by omega) g1
    have g2' : Gro K1 (H.length + 7) 3 70 lv (ts.map Tok.cells) := by rw [← hK1]; exact g2.app.set (by omega)
    have hc1 : hcells K1 (H.length + 3) = some [lv] := by simp [hcells, g1']
    have hc2 : hcells K1 K.length = some [.int .u8 t.kind, str t.text, i64 t.at'] := by simp [hcells, hx]
    simp [hc1, hc2]
    have hlit := sliceLitA (c := t.cells) (tbs23 K1 1 _) (by rfl) (by simp [Tok.cells]) (by simp)
    simp only [Tok.cells, List.length_cons, List.length_nil] at hlit
    refine bndL_lit hlit ?_
    have hp1 : Pre H K1 := by rw [← hK1]; exact (hJ.pre.more _).set (by omega)
    have g2'' := g2'.app (X := [AObj.cells [.int .u8 t.kind, str t.text, i64 t.at'] 70])
    obtain ⟨v', K2, p1, p2, p3, p4, p5⟩ := Gro.push (P := Tryz.prog) (Ts := 23) (by_ := 32) (x := .slice (some ⟨K1.length, 0, some 3⟩) 1 1) (c := t.cells) g2'' tel1 tel2 (by rfl) (by simp; omega) (by simp [aSrc, Tok.cells]) (by simp; omega) (by simp; omega)
    have p6 := p3 (H.length + 3) _ (by omega) (get_more g1')
    have hv1 : v'.oneCell' = true := p2.one
    simp [p1, p6, Gro.cells p2, Gro.stor p2]
    have hj : jumpOf AExit.normal = none := rfl
    have hL2 : K1.length < K2.length := by have := p4; simp at this; omega
    refine ⟨p3 _ _ (by omega) (get_more hbus), hj, ?_⟩
    simp only [hj, if_true]
    have hg : ∀ (b : Nat) (o : AObj) (x y : AObj), b < H.length + 7 → b ≠ H.length + 6 → b ≠ H.length + 3 → K[b]? = some o → ((K2.set (H.length + 3) x).set (H.length + 6) y)[b]? = some o := fun b o x y h1 h2 h3 h4 => by
      rw [List.getElem?_set_ne (by omega), List.getElem?_set_ne (by omega)]
      exact p3 _ _ h1 (get_more (hget _ _ h2 h4))
    refine ⟨((p5 H (hp1.more _) (by omega)).set (by omega)).set (by omega), by simp; omega, hg _ _ _ _ (by omega) (by omega) (by omega) hJ.r1, hg _ _ _ _ (by omega) (by omega) (by omega) hJ.r2, hg _ _ _ _ (by omega) (by omega) (by omega) hJ.r3, ⟨v', ?_, ?_⟩, hg _ _ _ _ (by omega) (by omega) (by omega) hJ.r5, hg _ _ _ _ (by omega) (by omega) (by omega) hJ.r6, ?_⟩
    · rw [List.getElem?_set_ne (by omega), List.getElem?_set_self (by omega)]
    · rw [List.map_append]
      exact (p2.set (by omega)).set (by omega)
    · rw [List.getElem?_set_self (by simp; omega)]
  obtain ⟨v, K', ⟨rfl, h⟩, hy⟩ := key
  exact ⟨K', hy, h⟩

theorem all_err {H : AHeap} {l : List UInt8} {fv : Value} {ts : List Tok} {a : Nat} {e : Int} {K : AHeap} (he : e ≠ 0) (hJ : AllJ H l (allSl H l fv) #[10, 11] allA allB ts K) :
    ∃ K', AYields Tryz.prog (H.length + 6) [.agg (Tok.cells ⟨0, [], a⟩).toArray, i64 e] K (.bool false) K' ∧ AllX H (allSl H l fv) #[10, 11] allA allB a e K' := by
  have key : ∃ v K', (v = .bool false ∧ AllX H (allSl H l fv) #[10, 11] allA allB a e K') ∧ AYields Tryz.prog (H.length + 6) [.agg (Tok.cells ⟨0, [], a⟩).toArray, i64 e] K v K' := by
    refine ayields_ex MixT ?_
    unfold kround
    have h7 := hJ.r7
    rw [h7]
    refine ⟨rfl, ?_⟩
    have hsl : yput (allSl H l fv) (#[10, 11] : Array Tmp).toList [.agg (Tok.cells ⟨0, [], a⟩).toArray, i64 e] = [str l, undef, .pointer (some ⟨H.length, 0, some 1⟩), .pointer (some ⟨H.length + 1, 0, some 1⟩), .pointer (some ⟨H.length + 2, 0, some 1⟩), .pointer (some ⟨H.length + 3, 0, some 1⟩), undef, undef, str l, fv, .agg (Tok.cells ⟨0, [], a⟩).toArray, i64 e, undef, undef, undef, undef, undef, undef, undef, undef, undef, undef] := rfl
    rw [hsl, R16x0A]
    simp [Tok.cells]
    refine ⟨get_more h7, ?_⟩
    rw [R16x0B]
    have hKl := hJ.len
    have heb : (e != 0) = true := by simpa using he
    simp
    generalize hB : AObj.loop (.run (allSl H l fv) #[10, 11] allA allB .busy none) = bus
    generalize hK1 : (K ++ [AObj.cells [.int .u8 0, str [], i64 a] 70]).set (H.length + 6) bus = K1
    have hL1 : K1.length = K.length + 1 := by rw [← hK1]; simp
    have hget : ∀ (b : Nat) (o : AObj), b ≠ H.length + 6 → K[b]? = some o → K1[b]? = some o := fun b o hb ho => by rw [← hK1, List.getElem?_set_ne (by omega)]; exact get_more ho
    have hx : K1[K.length]? = some (.cells [.int .u8 0, str [], i64 a] 70) := by rw [← hK1, List.getElem?_set_ne (by omega)]; simp
    have hc2 : hcells K1 K.length = some [.int .u8 0, str [], i64 a] := by simp [hcells, hx]
    have q1 := hget _ _ (by omega) hJ.r1
    have q2 := hget _ _ (by omega) hJ.r2
    have q3 := hget _ _ (by omega) hJ.r3
    have q6 := hget _ _ (by omega) hJ.r6
    have hl2 : hlen K1 K.length = some 3 := by simp [hlen, hx]
    rw [heb]
    simp [hc2, hl2]
    have hs1 : aStore Tryz.prog K1 23 (.pointer (some ⟨H.length, 0, some 1⟩)) (.slice none 0 0) = some K1 := by
      simp [q1]
      exact set_same q1
    refine bndD_of ⟨rfl, hs1⟩ (.inr ⟨[], by simp⟩) ?_
    refine bndD_of (v := undef) (H' := K1.set (H.length + 1) (.cells [i64 a] 3)) ⟨rfl, by simp [q2]⟩ (.inl rfl) ?_
    have hne : ∀ (b c : Nat) (x : AObj), b ≠ c → (K1.set b x)[c]? = K1[c]? := fun b c x h => List.getElem?_set_ne h
    refine bndD_of (v := undef) (H' := (K1.set (H.length + 1) (.cells [i64 a] 3)).set (H.length + 2) (.cells [i64 e] 24)) ⟨rfl, by simp [q3, hne]⟩ (.inl rfl) ?_
    simp
    have hj : jumpOf AExit.ret = some .ret := rfl
    have hbus : K1[H.length + 6]? = some bus := by rw [← hK1]; rw [List.getElem?_set_self (by simp; omega)]
    have hp1 : Pre H K1 := by rw [← hK1]; exact (hJ.pre.more _).set (by omega)
    refine ⟨hbus, by rw [hj]; rfl, ?_⟩
    simp only [hj, reduceCtorEq, if_false]
    refine ⟨((hp1.set (by omega)).set (by omega)).set (by omega), ?_, ?_, ?_, ?_, ?_⟩
    · simp [q1]
    · rw [List.getElem?_set_ne (by omega), List.getElem?_set_ne (by omega), List.getElem?_set_self (by omega)]
    · rw [List.getElem?_set_ne (by omega), List.getElem?_set_self (by simp; omega)]
    · simp [q6]
    · rw [List.getElem?_set_self (by simp; omega)]
  obtain ⟨v, K', ⟨rfl, h⟩, hy⟩ := key
  exact ⟨K', hy, h⟩
theorem allTok_zero {l : List UInt8} (h : (allTok l).2.2 = 0) : (allTok l).2.1 = 0 := by
  unfold allTok at *
  by_cases h4 : 4096 < l.length
  · simp [h4] at h
  · rw [if_neg h4] at h ⊢
    split at h <;> first | rfl | simp at h
theorem c_lexAll (H : AHeap) (l : List UInt8) : ∃ v K', (∃ lv, v = .tuple #[lv, i64 (allTok l).2.1, i64 (allTok l).2.2] ∧ Pre H K' ∧ ToksAt K' lv (allTok l).1) ∧ ACalls Tryz.prog 16 [str l] H v K' := by
  refine acallsG_ex MixT Tryz.func16 (by decide) ?_
  rw [d16]
  simp
  refine bndC_of (c_tell _ _) ?_
  simp [krange]
  refine ⟨by kernel_rfl, ?_⟩
  rw [show H.length + 5 + 1 = H.length + 6 from rfl]
  generalize hfv : Value.func (Fn.func 64) #[] #[Value.pointer (some { block := H.length + 4, off := 0, spot := some 1 })] = fv
  generalize hK0 : (H ++ _ : AHeap) = K0
  have hJ : AllJ H l (allSl H l fv) #[10, 11] allA allB [] K0 := by
    subst hK0
    refine ⟨.app _ _, by simp, ?_, ?_, ?_, ⟨_, ?_, .nil⟩, ?_, ?_, ?_⟩ <;> simp <;> rfl
  obtain ⟨v, K', hd, hc⟩ := c_tell1 (l := l) (sp := H.length + 4) (rb := H.length + 6) (J := fun ts K => AllJ H l (allSl H l fv) #[10, 11] allA allB ts K) (Jx := fun a e K => AllX H (allSl H l fv) #[10, 11] allA allB a e K)
    (fun ts K h => by simp [hcells, h.r5]) (fun ts K h => ⟨_, h.r7⟩) (fun ts K X h => h.app X) (fun ts t K h ht => all_yield h ht) (fun ts a e K he h => all_err he h) hJ
  refine ⟨v, K', hc, ?_⟩
  rcases hd with ⟨e0, h⟩ | ⟨e1, e0, h⟩
  · obtain ⟨lv, g1, g2⟩ := h.r4
    have hL := h.len
    have hne : ∀ (b c : Nat) (x : AObj) (K : AHeap), b ≠ c → (K.set b x)[c]? = K[c]? := fun b c x K h => List.getElem?_set_ne h
    have hnc : ∀ (b c : Nat) (x : AObj) (K : AHeap), b ≠ c → hcells (K.set b x) c = hcells K c := fun b c x K h => by rw [hcells_eq, hcells_eq, hne _ _ _ _ h]
    have c1 : hcells K' (H.length + 3) = some [lv] := by simp [hcells_eq, g1]
    have hst := g2.stor
    unfold rngEnd
    simp [h.r7, kjump, allSl]
    rw [R16x0n]
    have hself0 : ∀ X (cs : List Value) (T : TypeId), hcells ((K'.set (H.length + 6) X).set H.length (.cells cs T)) H.length = some cs := fun X cs T => by
      rw [hcells_eq, List.getElem?_set_self (by simp; omega)]; rfl
    have hself1 : ∀ X Y (cs : List Value) (T : TypeId), hcells (((K'.set (H.length + 6) X).set H.length Y).set (H.length + 1) (.cells cs T)) (H.length + 1) = some cs := fun X Y cs T => by
      rw [hcells_eq, List.getElem?_set_self (by simp; omega)]; rfl
    have hself2 : ∀ X Y Z (cs : List Value) (T : TypeId), hcells ((((K'.set (H.length + 6) X).set H.length Y).set (H.length + 1) Z).set (H.length + 2) (.cells cs T)) (H.length + 2) = some cs := fun X Y Z cs T => by
      rw [hcells_eq, List.getElem?_set_self (by simp; omega)]; rfl
    simp [hne, hnc, hself0, hself1, hself2, c1, h.r1, h.r2, h.r3, h.r6, g2.cells, hst]
    exact ⟨lv, ⟨rfl, by rw [allTok_zero e0]; rfl, e0.symm⟩, ((((h.pre.set (by omega)).set (by omega)).set (by omega)).set (by omega)).set (by omega), (((((g2.set (by omega)).set (by omega)).set (by omega)).set (by omega)).set (by omega)).arr⟩
  · have hne : ∀ (b c : Nat) (x : AObj) (K : AHeap), b ≠ c → (K.set b x)[c]? = K[c]? := fun b c x K h => List.getElem?_set_ne h
    have hnc : ∀ (b c : Nat) (x : AObj) (K : AHeap), b ≠ c → hcells (K.set b x) c = hcells K c := fun b c x K h => by rw [hcells_eq, hcells_eq, hne _ _ _ _ h]
    have c1 : hcells K' (H.length) = some [.slice none 0 0] := by simp [hcells_eq, h.r1]
    have c2 : hcells K' (H.length + 1) = some [i64 (allTok l).2.1] := by simp [hcells_eq, h.r2]
    have c3 : hcells K' (H.length + 2) = some [i64 (allTok l).2.2] := by simp [hcells_eq, h.r3]
    unfold rngEnd
    simp [h.r7, kjump, allSl]
    rw [R16x0r]
    simp [hne, hnc, c1, c2, c3, h.r6, e1]
    exact ⟨(h.pre.set (by omega)).set (by omega), .nil⟩
end Go.Vi
