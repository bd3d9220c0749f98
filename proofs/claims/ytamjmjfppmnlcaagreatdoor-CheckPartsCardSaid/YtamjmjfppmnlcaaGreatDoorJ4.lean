/- What the functions' bodies come to. What the functions' bodies come to. What the functions' bodies come to. What the functions' bodies come to. What the functions' bodies come to. Labels: names, values. Conditions: nodes. What may be: rules, mutes, configurations. What may be: mutes, configurations; the greatest window. Arguments: matchers, nodes, days, mutes, rules, configurations. -/
import Derived.Test.YtamjmjfppmnlcaaGreatDoorJ3
import Derived.Test.YtamjmjfppmnlcaaGreatDoorChecked
import Derived.Test.YtamjmjfppmnlcaaGreatDoorJ2
namespace Go.Vi
open Go Go.Proofs
-- (*tocsin/expr.reader).condition
theorem d47 (a0 : Value) (H : AHeap) (k : Value → AHeap → Prop) : kbody Tryz.prog Tryz.f47 [a0] H k = (@bndE (aNew H 87 a0) ⟨fun v1x1 H2 => @bndE (aAlloc Tryz.prog H2 31) ⟨fun v3x3 H4 => @bndE (aAlloc Tryz.prog H4 103) ⟨fun v4x5
  H6 => @bndS (aStore Tryz.prog H6 103 v4x5 (.func (Fn.func 68) #[] #[v1x1, v4x5, v3x3])) ⟨fun _ H8 => @bnd (aLoad Tryz.prog H8 103 v4x5) ⟨fun v6x9 => @bndV Tryz.prog v6x9 [(Value.int IntKind.i64 0)] H8 ⟨fun _ H11 => @bnd (aLoad
  Tryz.prog H11 31 v3x3) ⟨fun v8x12 => k v8x12 H11⟩⟩⟩⟩⟩⟩⟩) := by kernel_rfl
-- slices.IndexFunc[[]tocsin/api.Mute,tocsin/api.Mute]
def L48x0 (n : Nat) (k : Value → AHeap → Prop) (sl : List Value) (H : AHeap) : Prop := kit Tryz.prog (cl (cl (cr (cl (cr (cb Tryz.f48)))))) n (kblk 0 (kseq Tryz.prog (cr (cr (cb Tryz.f48))) (kfin Tryz.prog Tryz.f48 k))) .normal
  sl H
theorem d48 (a0 a1 : Value) (H : AHeap) (k : Value → AHeap → Prop) : kbody Tryz.prog Tryz.f48 [a0, a1] H k = (@bnd (aLen Tryz.prog H 23 a0) ⟨fun v7x1 => ∃ n, L48x0 n  k [a0, a1, undef, undef, (Value.int IntKind.i64 0), undef, a0,
  v7x1, (Value.int IntKind.i64 0), undef, undef, undef, undef, undef, undef, undef, undef, undef, undef] H⟩) := by kernel_rfl
theorem L48x0q (n0 : Nat) (s0 s1 s2 s3 s4 s5 s6 s7 s8 s9 s10 s11 s12 s13 s14 s15 s16 s17 s18 : Value) (H : AHeap) (k : Value → AHeap → Prop) : L48x0 (n0 + 1) k [s0, s1, s2, s3, s4, s5, s6, s7, s8, s9, s10, s11, s12, s13, s14,
  s15, s16, s17, s18] H = (@bnd (aBin2 Tryz.prog H BinOp.lss 3 (Operand.tmp 8) (Operand.tmp 7) s8 s7) ⟨fun v9x2 => @kifB v9x2 ⟨@bnd (aIndexAddr Tryz.prog H 23 s0 s8) ⟨fun v14x3 => @bnd (aLoad Tryz.prog H 38 v14x3) ⟨fun v15x4 =>
  @bndV Tryz.prog s1 [v15x4] H ⟨fun v16x5 H6 => @kifB v16x5 ⟨k s8 H6⟩ ⟨@bnd (aBin2 Tryz.prog H6 BinOp.add 3 (Operand.tmp 8) (Operand.const (Value.int IntKind.i64 1)) s8 (Value.int IntKind.i64 1)) ⟨fun v18x7 => L48x0 n0  k [s0,
  s1, s2, s3, s4, s8, s6, s7, v18x7, v9x2, s8, s1, s0, s8, v14x3, v15x4, v16x5, s17, v18x7] H6⟩⟩⟩⟩⟩⟩ ⟨k (Value.int IntKind.i64 (-1)) H⟩⟩) := by kernel_rfl
-- tocsin/labels.letter
theorem d49 (a0 : Value) (H : AHeap) (k : Value → AHeap → Prop) : kbody Tryz.prog Tryz.f49 [a0] H k = (@bnd (aBin2 Tryz.prog H BinOp.geq 5 (Operand.tmp 3) (Operand.const (Value.int IntKind.u8 97)) a0 (Value.int IntKind.u8 97))
  ⟨fun v4x1 => @bnd (gif v4x1 true ((some a0)) undef) ⟨fun v6x2 => @bnd (gif v4x1 true (aBin2 Tryz.prog H BinOp.leq 5 (Operand.tmp 6) (Operand.const (Value.int IntKind.u8 122)) v6x2 (Value.int IntKind.u8 122)) undef) ⟨fun v7x3 =>
  @bnd (pickV v4x1 v7x3 (Value.bool false)) ⟨fun v8x4 => k v8x4 H⟩⟩⟩⟩) := by kernel_rfl
-- tocsin/labels.every
def L50x0 (n : Nat) (k : Value → AHeap → Prop) (sl : List Value) (H : AHeap) : Prop := kit Tryz.prog (cl (cl (cr (cl (cr (cb Tryz.f50)))))) n (kblk 0 (kseq Tryz.prog (cr (cr (cb Tryz.f50))) (kfin Tryz.prog Tryz.f50 k))) .normal
  sl H
theorem d50 (a0 a1 : Value) (H : AHeap) (k : Value → AHeap → Prop) : kbody Tryz.prog Tryz.f50 [a0, a1] H k = (@bnd (aLen Tryz.prog H 9 a0) ⟨fun v7x1 => ∃ n, L50x0 n  k [a0, a1, undef, undef, (Value.bool false), undef, a0, v7x1,
  (Value.int IntKind.i64 0), undef, undef, undef, undef, undef, undef, undef, undef, undef] H⟩) := by kernel_rfl
theorem L50x0q (n0 : Nat) (s0 s1 s2 s3 s4 s5 s6 s7 s8 s9 s10 s11 s12 s13 s14 s15 s16 s17 : Value) (H : AHeap) (k : Value → AHeap → Prop) : L50x0 (n0 + 1) k [s0, s1, s2, s3, s4, s5, s6, s7, s8, s9, s10, s11, s12, s13, s14, s15,
  s16, s17] H = (@bnd (aBin2 Tryz.prog H BinOp.lss 3 (Operand.tmp 8) (Operand.tmp 7) s8 s7) ⟨fun v9x2 => @kifB v9x2 ⟨@bnd (aIndex Tryz.prog 9 s0 s8) ⟨fun v14x3 => @bndV Tryz.prog s1 [v14x3] H ⟨fun v15x4 H5 => @bnd (unV Tryz.prog
  UnOp.not v15x4) ⟨fun v16x6 => @kifB v16x6 ⟨k (Value.bool false) H5⟩ ⟨@bnd (aBin2 Tryz.prog H5 BinOp.add 3 (Operand.tmp 8) (Operand.const (Value.int IntKind.i64 1)) s8 (Value.int IntKind.i64 1)) ⟨fun v17x7 => L50x0 n0  k [s0,
  s1, s2, s3, s4, s8, s6, s7, v17x7, v9x2, s8, s1, s0, s8, v14x3, v15x4, v16x6, v17x7] H5⟩⟩⟩⟩⟩⟩ ⟨k (Value.bool true) H⟩⟩) := by kernel_rfl
-- tocsin/labels.mark
theorem d51 (a0 : Value) (H : AHeap) (k : Value → AHeap → Prop) : kbody Tryz.prog Tryz.f51 [a0] H k = (@bndC Tryz.prog 49 [a0] H ⟨fun v4x1 H2 => @bnd (gif v4x1 false ((some a0)) undef) ⟨fun v6x3 => @bnd (gif v4x1 false (aBin2
  Tryz.prog H2 BinOp.geq 5 (Operand.tmp 6) (Operand.const (Value.int IntKind.u8 48)) v6x3 (Value.int IntKind.u8 48)) undef) ⟨fun v7x4 => @bnd (gif v4x1 false ((some v7x4)) undef) ⟨fun v8x5 => @bnd (gif v8x5 true ((some a0))
  undef) ⟨fun v9x6 => @bnd (gif v8x5 true (aBin2 Tryz.prog H2 BinOp.leq 5 (Operand.tmp 9) (Operand.const (Value.int IntKind.u8 57)) v9x6 (Value.int IntKind.u8 57)) undef) ⟨fun v10x7 => @bnd (gif v4x1 false (pickV v8x5 v10x7
  (Value.bool false)) undef) ⟨fun v11x8 => @bnd (pickV v4x1 (Value.bool true) v11x8) ⟨fun v12x9 => @bnd (gif v12x9 false ((some a0)) undef) ⟨fun v14x10 => @bnd (gif v12x9 false (aBin2 Tryz.prog H2 BinOp.eql 5 (Operand.tmp 14)
  (Operand.const (Value.int IntKind.u8 95)) v14x10 (Value.int IntKind.u8 95)) undef) ⟨fun v15x11 => @bnd (pickV v12x9 (Value.bool true) v15x11) ⟨fun v16x12 => k v16x12 H2⟩⟩⟩⟩⟩⟩⟩⟩⟩⟩⟩) := by kernel_rfl
-- slices.IndexFunc[[]string,string]
def L52x0 (n : Nat) (k : Value → AHeap → Prop) (sl : List Value) (H : AHeap) : Prop := kit Tryz.prog (cl (cl (cr (cl (cr (cb Tryz.f52)))))) n (kblk 0 (kseq Tryz.prog (cr (cr (cb Tryz.f52))) (kfin Tryz.prog Tryz.f52 k))) .normal
  sl H
theorem d52 (a0 a1 : Value) (H : AHeap) (k : Value → AHeap → Prop) : kbody Tryz.prog Tryz.f52 [a0, a1] H k = (@bnd (aLen Tryz.prog H 32 a0) ⟨fun v7x1 => ∃ n, L52x0 n  k [a0, a1, undef, undef, (Value.int IntKind.i64 0), undef, a0,
  v7x1, (Value.int IntKind.i64 0), undef, undef, undef, undef, undef, undef, undef, undef, undef, undef] H⟩) := by kernel_rfl
theorem L52x0q (n0 : Nat) (s0 s1 s2 s3 s4 s5 s6 s7 s8 s9 s10 s11 s12 s13 s14 s15 s16 s17 s18 : Value) (H : AHeap) (k : Value → AHeap → Prop) : L52x0 (n0 + 1) k [s0, s1, s2, s3, s4, s5, s6, s7, s8, s9, s10, s11, s12, s13, s14,
  s15, s16, s17, s18] H = (@bnd (aBin2 Tryz.prog H BinOp.lss 3 (Operand.tmp 8) (Operand.tmp 7) s8 s7) ⟨fun v9x2 => @kifB v9x2 ⟨@bnd (aIndexAddr Tryz.prog H 32 s0 s8) ⟨fun v14x3 => @bnd (aLoad Tryz.prog H 9 v14x3) ⟨fun v15x4 =>
  @bndV Tryz.prog s1 [v15x4] H ⟨fun v16x5 H6 => @kifB v16x5 ⟨k s8 H6⟩ ⟨@bnd (aBin2 Tryz.prog H6 BinOp.add 3 (Operand.tmp 8) (Operand.const (Value.int IntKind.i64 1)) s8 (Value.int IntKind.i64 1)) ⟨fun v18x7 => L52x0 n0  k [s0,
  s1, s2, s3, s4, s8, s6, s7, v18x7, v9x2, s8, s1, s0, s8, v14x3, v15x4, v16x5, s17, v18x7] H6⟩⟩⟩⟩⟩⟩ ⟨k (Value.int IntKind.i64 (-1)) H⟩⟩) := by kernel_rfl
-- tocsin/expr.begin
def S53x0 (k : Value → AHeap → Prop) (sl : List Value) (H : AHeap) : Prop := kseq Tryz.prog (cr (cr (cr (cr (cb Tryz.f53))))) (kfin Tryz.prog Tryz.f53 k) .normal sl H
def S53x1 (k : Value → AHeap → Prop) (sl : List Value) (H : AHeap) : Prop := kseq Tryz.prog (cr (cr (cr (cr (cr (cl (cr (cl (cr (cr (cr (cb Tryz.f53)))))))))))) (kblk 0 (kseq Tryz.prog (cr (cr (cr (cr (cb Tryz.f53))))) (kfin
  Tryz.prog Tryz.f53 k))) .normal sl H
theorem d53 (a0 a1 : Value) (H : AHeap) (k : Value → AHeap → Prop) : kbody Tryz.prog Tryz.f53 [a0, a1] H k = (@bnd (aBin2 Tryz.prog H BinOp.lss 3 (Operand.tmp 7) (Operand.const (Value.int IntKind.i64 0)) a1 (Value.int IntKind.i64
  0)) ⟨fun v8x1 => @kifB v8x1 ⟨k (Value.int IntKind.i64 (-1)) H⟩ ⟨@bnd (aIndexAddr Tryz.prog H 31 a0 a1) ⟨fun v11x2 => @bnd (aLoad Tryz.prog H 75 v11x2) ⟨fun v12x3 => @bndE (aAlloc Tryz.prog H 75) ⟨fun v5x4 H5 => @bndS (aStore
  Tryz.prog H5 75 v5x4 v12x3) ⟨fun _ H7 => @bnd (aFieldAddr Tryz.prog H7 75 v5x4 0) ⟨fun v13x8 => @bnd (aLoad Tryz.prog H7 5 v13x8) ⟨fun v14x9 => @bnd (aBin2 Tryz.prog H7 BinOp.eql 5 (Operand.tmp 14) (Operand.const (Value.int
  IntKind.u8 0)) v14x9 (Value.int IntKind.u8 0)) ⟨fun v16x10 => @kifB v16x10 ⟨@bnd (aLoad Tryz.prog H7 75 v5x4) ⟨fun v17x11 => @bndC Tryz.prog 72 [v17x11] H7 ⟨fun v18x12 H13 => @kifB v18x12 ⟨k a1 H13⟩ ⟨S53x0  k [a0, a1, undef,
  undef, (Value.int IntKind.i64 0), v5x4, undef, a1, v8x1, a0, a1, v11x2, v12x3, v13x8, v14x9, v16x10, v16x10, v17x11, v18x12, undef, undef, undef, undef, undef, undef, undef, undef, undef, undef, undef, undef, undef, undef,
  undef, undef, undef, undef, undef, undef, undef, undef, undef, undef, undef, undef, undef, undef, undef, undef, undef, undef, undef, undef, undef, undef, undef, undef, undef, undef, undef, undef, undef, undef, undef, undef,
  undef, undef, undef, undef, undef, undef] H13⟩⟩⟩⟩ ⟨@bnd (aBin2 Tryz.prog H7 BinOp.eql 5 (Operand.tmp 14) (Operand.const (Value.int IntKind.u8 3)) v14x9 (Value.int IntKind.u8 3)) ⟨fun v21x14 => @kifB v21x14 ⟨@bnd (aLoad
  Tryz.prog H7 75 v5x4) ⟨fun v22x15 => @bndC Tryz.prog 73 [v22x15] H7 ⟨fun v23x16 H17 => @bnd (gif v23x16 true (aFieldAddr Tryz.prog H17 75 v5x4 6) undef) ⟨fun v25x18 => @bnd (gif v23x16 true (aLoad Tryz.prog H17 3 v25x18) undef)
  ⟨fun v26x19 => @bnd (gif v23x16 true ((some a1)) undef) ⟨fun v27x20 => @bnd (gif v23x16 true (aBin2 Tryz.prog H17 BinOp.sub 3 (Operand.tmp 27) (Operand.const (Value.int IntKind.i64 1)) v27x20 (Value.int IntKind.i64 1)) undef)
  ⟨fun v28x21 => @bnd (gif v23x16 true (aBin2 Tryz.prog H17 BinOp.eql 3 (Operand.tmp 26) (Operand.tmp 28) v26x19 v28x21) undef) ⟨fun v29x22 => @bnd (pickV v23x16 v29x22 (Value.bool false)) ⟨fun v30x23 => @bnd (gif v30x23 true
  (aFieldAddr Tryz.prog H17 75 v5x4 7) undef) ⟨fun v32x24 => @bnd (gif v30x23 true (aLoad Tryz.prog H17 3 v32x24) undef) ⟨fun v33x25 => @bnd (gif v30x23 true (aBin2 Tryz.prog H17 BinOp.eql 3 (Operand.tmp 33) (Operand.const
  (Value.int IntKind.i64 0)) v33x25 (Value.int IntKind.i64 0)) undef) ⟨fun v34x26 => @bnd (pickV v30x23 v34x26 (Value.bool false)) ⟨fun v35x27 => @kifB v35x27 ⟨@bnd (aBin2 Tryz.prog H17 BinOp.sub 3 (Operand.tmp 37) (Operand.const
  (Value.int IntKind.i64 1)) a1 (Value.int IntKind.i64 1)) ⟨fun v38x28 => @bndC Tryz.prog 53 [a0, v38x28] H17 ⟨fun v39x29 H30 => k v39x29 H30⟩⟩⟩ ⟨S53x0  k [a0, a1, undef, undef, (Value.int IntKind.i64 0), v5x4, undef, a1, v8x1,
  a0, a1, v11x2, v12x3, v13x8, v14x9, v16x10, v16x10, undef, undef, undef, v21x14, v21x14, v22x15, v23x16, v23x16, v25x18, v26x19, v27x20, v28x21, v29x22, v30x23, v30x23, v32x24, v33x25, v34x26, v35x27, undef, undef, undef,
  undef, undef, undef, undef, undef, undef, undef, undef, undef, undef, undef, undef, undef, undef, undef, undef, undef, undef, undef, undef, undef, undef, undef, undef, undef, undef, undef, undef, undef, undef, undef, undef]
  H17⟩⟩⟩⟩⟩⟩⟩⟩⟩⟩⟩⟩⟩⟩ ⟨@bnd (aBin2 Tryz.prog H7 BinOp.eql 5 (Operand.tmp 14) (Operand.const (Value.int IntKind.u8 1)) v14x9 (Value.int IntKind.u8 1)) ⟨fun v41x31 => @kifB v41x31 ⟨S53x1  k [a0, a1, undef, undef, (Value.int
  IntKind.i64 0), v5x4, undef, a1, v8x1, a0, a1, v11x2, v12x3, v13x8, v14x9, v16x10, v16x10, undef, undef, undef, v21x14, v21x14, undef, undef, undef, undef, undef, undef, undef, undef, undef, undef, undef, undef, undef, undef,
  undef, undef, undef, undef, v41x31, v41x31, undef, undef, undef, undef, undef, undef, undef, undef, undef, undef, undef, undef, undef, undef, undef, undef, undef, undef, undef, undef, undef, undef, undef, undef, undef, undef,
  undef, undef, undef] H7⟩ ⟨@bnd (aBin2 Tryz.prog H7 BinOp.eql 5 (Operand.tmp 14) (Operand.const (Value.int IntKind.u8 2)) v14x9 (Value.int IntKind.u8 2)) ⟨fun v42x32 => S53x1  k [a0, a1, undef, undef, (Value.int IntKind.i64 0),
  v5x4, undef, a1, v8x1, a0, a1, v11x2, v12x3, v13x8, v14x9, v16x10, v16x10, undef, undef, undef, v21x14, v21x14, undef, undef, undef, undef, undef, undef, undef, undef, undef, undef, undef, undef, undef, undef, undef, undef,
  undef, undef, v42x32, v41x31, v42x32, undef, undef, undef, undef, undef, undef, undef, undef, undef, undef, undef, undef, undef, undef, undef, undef, undef, undef, undef, undef, undef, undef, undef, undef, undef, undef, undef,
  undef] H7⟩⟩⟩⟩⟩⟩⟩⟩⟩⟩⟩⟩⟩⟩⟩) := by kernel_rfl
theorem S53x0q (s0 s1 s2 s3 s4 s5 s6 s7 s8 s9 s10 s11 s12 s13 s14 s15 s16 s17 s18 s19 s20 s21 s22 s23 s24 s25 s26 s27 s28 s29 s30 s31 s32 s33 s34 s35 s36 s37 s38 s39 s40 s41 s42 s43 s44 s45 s46 s47 s48 s49 s50 s51 s52 s53 s54 s55
  s56 s57 s58 s59 s60 s61 s62 s63 s64 s65 s66 s67 s68 s69 s70 : Value) (H : AHeap) (k : Value → AHeap → Prop) : S53x0 k [s0, s1, s2, s3, s4, s5, s6, s7, s8, s9, s10, s11, s12, s13, s14, s15, s16, s17, s18, s19, s20, s21, s22,
  s23, s24, s25, s26, s27, s28, s29, s30, s31, s32, s33, s34, s35, s36, s37, s38, s39, s40, s41, s42, s43, s44, s45, s46, s47, s48, s49, s50, s51, s52, s53, s54, s55, s56, s57, s58, s59, s60, s61, s62, s63, s64, s65, s66, s67,
  s68, s69, s70] H = (k (Value.int IntKind.i64 (-1)) H) := by kernel_rfl
theorem S53x1q (s0 s1 s2 s3 s4 s5 s6 s7 s8 s9 s10 s11 s12 s13 s14 s15 s16 s17 s18 s19 s20 s21 s22 s23 s24 s25 s26 s27 s28 s29 s30 s31 s32 s33 s34 s35 s36 s37 s38 s39 s40 s41 s42 s43 s44 s45 s46 s47 s48 s49 s50 s51 s52 s53 s54 s55
  s56 s57 s58 s59 s60 s61 s62 s63 s64 s65 s66 s67 s68 s69 s70 : Value) (H : AHeap) (k : Value → AHeap → Prop) : S53x1 k [s0, s1, s2, s3, s4, s5, s6, s7, s8, s9, s10, s11, s12, s13, s14, s15, s16, s17, s18, s19, s20, s21, s22,
  s23, s24, s25, s26, s27, s28, s29, s30, s31, s32, s33, s34, s35, s36, s37, s38, s39, s40, s41, s42, s43, s44, s45, s46, s47, s48, s49, s50, s51, s52, s53, s54, s55, s56, s57, s58, s59, s60, s61, s62, s63, s64, s65, s66, s67,
  s68, s69, s70] H = (@kifB s40 ⟨@bnd (aBin2 Tryz.prog H BinOp.sub 3 (Operand.tmp 44) (Operand.const (Value.int IntKind.i64 1)) s1 (Value.int IntKind.i64 1)) ⟨fun v45x33 => @bndC Tryz.prog 53 [s0, v45x33] H ⟨fun v46x34 H35 =>
  @bnd (aLoad Tryz.prog H35 75 s5) ⟨fun v47x36 => @bndC Tryz.prog 73 [v47x36] H35 ⟨fun v48x37 H38 => @bnd (gif v48x37 true (aFieldAddr Tryz.prog H38 75 s5 7) undef) ⟨fun v50x39 => @bnd (gif v48x37 true (aLoad Tryz.prog H38 3
  v50x39) undef) ⟨fun v51x40 => @bnd (gif v48x37 true ((some s1)) undef) ⟨fun v52x41 => @bnd (gif v48x37 true (aBin2 Tryz.prog H38 BinOp.sub 3 (Operand.tmp 52) (Operand.const (Value.int IntKind.i64 1)) v52x41 (Value.int
  IntKind.i64 1)) undef) ⟨fun v53x42 => @bnd (gif v48x37 true (aBin2 Tryz.prog H38 BinOp.eql 3 (Operand.tmp 51) (Operand.tmp 53) v51x40 v53x42) undef) ⟨fun v54x43 => @bnd (pickV v48x37 v54x43 (Value.bool false)) ⟨fun v55x44 =>
  @bnd (gif v55x44 true ((some v46x34)) undef) ⟨fun v57x45 => @bnd (gif v55x44 true (aBin2 Tryz.prog H38 BinOp.gtr 3 (Operand.tmp 57) (Operand.const (Value.int IntKind.i64 0)) v57x45 (Value.int IntKind.i64 0)) undef) ⟨fun v58x46
  => @bnd (pickV v55x44 v58x46 (Value.bool false)) ⟨fun v59x47 => @bnd (gif v59x47 true (aFieldAddr Tryz.prog H38 75 s5 6) undef) ⟨fun v61x48 => @bnd (gif v59x47 true (aLoad Tryz.prog H38 3 v61x48) undef) ⟨fun v62x49 => @bnd (gif
  v59x47 true ((some v46x34)) undef) ⟨fun v63x50 => @bnd (gif v59x47 true (aBin2 Tryz.prog H38 BinOp.sub 3 (Operand.tmp 63) (Operand.const (Value.int IntKind.i64 1)) v63x50 (Value.int IntKind.i64 1)) undef) ⟨fun v64x51 => @bnd
  (gif v59x47 true (aBin2 Tryz.prog H38 BinOp.eql 3 (Operand.tmp 62) (Operand.tmp 64) v62x49 v64x51) undef) ⟨fun v65x52 => @bnd (pickV v59x47 v65x52 (Value.bool false)) ⟨fun v66x53 => @kifB v66x53 ⟨@bnd (aBin2 Tryz.prog H38
  BinOp.sub 3 (Operand.tmp 68) (Operand.const (Value.int IntKind.i64 1)) v46x34 (Value.int IntKind.i64 1)) ⟨fun v69x54 => @bndC Tryz.prog 53 [s0, v69x54] H38 ⟨fun v70x55 H56 => k v70x55 H56⟩⟩⟩ ⟨S53x0  k [s0, s1, s2, s3, s4, s5,
  v46x34, s7, s8, s9, s10, s11, s12, s13, s14, s15, s16, s17, s18, s19, s20, s21, s22, s23, s24, s25, s26, s27, s28, s29, s30, s31, s32, s33, s34, s35, s36, s37, s38, s39, s40, s41, s42, s0, s1, v45x33, v46x34, v47x36, v48x37,
  v48x37, v50x39, v51x40, v52x41, v53x42, v54x43, v55x44, v55x44, v57x45, v58x46, v59x47, v59x47, v61x48, v62x49, v63x50, v64x51, v65x52, v66x53, s67, s68, s69, s70] H38⟩⟩⟩⟩⟩⟩⟩⟩⟩⟩⟩⟩⟩⟩⟩⟩⟩⟩⟩⟩⟩ ⟨S53x0  k [s0, s1, s2, s3, s4, s5, s6,
  s7, s8, s9, s10, s11, s12, s13, s14, s15, s16, s17, s18, s19, s20, s21, s22, s23, s24, s25, s26, s27, s28, s29, s30, s31, s32, s33, s34, s35, s36, s37, s38, s39, s40, s41, s42, s43, s44, s45, s46, s47, s48, s49, s50, s51, s52,
  s53, s54, s55, s56, s57, s58, s59, s60, s61, s62, s63, s64, s65, s66, s67, s68, s69, s70] H⟩) := by kernel_rfl
-- slices.Index[[]bool,bool]
def L54x0 (n : Nat) (k : Value → AHeap → Prop) (sl : List Value) (H : AHeap) : Prop := kit Tryz.prog (cl (cl (cr (cl (cr (cb Tryz.f54)))))) n (kblk 0 (kseq Tryz.prog (cr (cr (cb Tryz.f54))) (kfin Tryz.prog Tryz.f54 k))) .normal
  sl H
theorem d54 (a0 a1 : Value) (H : AHeap) (k : Value → AHeap → Prop) : kbody Tryz.prog Tryz.f54 [a0, a1] H k = (@bnd (aLen Tryz.prog H 71 a0) ⟨fun v7x1 => ∃ n, L54x0 n  k [a0, a1, undef, undef, (Value.int IntKind.i64 0), undef, a0,
  v7x1, (Value.int IntKind.i64 0), undef, undef, undef, undef, undef, undef, undef, undef, undef, undef] H⟩) := by kernel_rfl
theorem L54x0q (n0 : Nat) (s0 s1 s2 s3 s4 s5 s6 s7 s8 s9 s10 s11 s12 s13 s14 s15 s16 s17 s18 : Value) (H : AHeap) (k : Value → AHeap → Prop) : L54x0 (n0 + 1) k [s0, s1, s2, s3, s4, s5, s6, s7, s8, s9, s10, s11, s12, s13, s14,
  s15, s16, s17, s18] H = (@bnd (aBin2 Tryz.prog H BinOp.lss 3 (Operand.tmp 8) (Operand.tmp 7) s8 s7) ⟨fun v9x2 => @kifB v9x2 ⟨@bnd (aIndexAddr Tryz.prog H 71 s0 s8) ⟨fun v14x3 => @bnd (aLoad Tryz.prog H 4 v14x3) ⟨fun v15x4 =>
  @bnd (aBin2 Tryz.prog H BinOp.eql 4 (Operand.tmp 11) (Operand.tmp 15) s1 v15x4) ⟨fun v16x5 => @kifB v16x5 ⟨k s8 H⟩ ⟨@bnd (aBin2 Tryz.prog H BinOp.add 3 (Operand.tmp 8) (Operand.const (Value.int IntKind.i64 1)) s8 (Value.int
  IntKind.i64 1)) ⟨fun v18x6 => L54x0 n0  k [s0, s1, s2, s3, s4, s8, s6, s7, v18x6, v9x2, s8, s1, s0, s8, v14x3, v15x4, v16x5, s17, v18x6] H⟩⟩⟩⟩⟩⟩ ⟨k (Value.int IntKind.i64 (-1)) H⟩⟩) := by kernel_rfl
-- tocsin/tocsinref10.Copy
def L55x0 (n : Nat) (k : Value → AHeap → Prop) (sl : List Value) (H : AHeap) : Prop := kit Tryz.prog (cl (cl (cr (cl (cr (cr (cb Tryz.f55))))))) n (kblk 0 (kseq Tryz.prog (cr (cr (cr (cb Tryz.f55)))) (kfin Tryz.prog Tryz.f55 k)))
  .normal sl H
theorem d55 (a0 : Value) (H : AHeap) (k : Value → AHeap → Prop) : kbody Tryz.prog Tryz.f55 [a0] H k = (∃ n, L55x0 n  k [a0, undef, (Value.slice none 0 0), (Value.slice none 0 0), (Value.int IntKind.i64 0), undef, undef, undef,
  undef, undef, undef, undef, undef, undef, undef, undef, undef, undef, undef, undef, undef, undef, undef, undef, undef, undef, undef, undef] H) := by kernel_rfl
theorem L55x0q (n0 : Nat) (s0 s1 s2 s3 s4 s5 s6 s7 s8 s9 s10 s11 s12 s13 s14 s15 s16 s17 s18 s19 s20 s21 s22 s23 s24 s25 s26 s27 : Value) (H : AHeap) (k : Value → AHeap → Prop) : L55x0 (n0 + 1) k [s0, s1, s2, s3, s4, s5, s6, s7,
  s8, s9, s10, s11, s12, s13, s14, s15, s16, s17, s18, s19, s20, s21, s22, s23, s24, s25, s26, s27] H = (@bnd (aLen Tryz.prog H 31 s0) ⟨fun v8x1 => @bnd (aBin2 Tryz.prog H BinOp.lss 3 (Operand.tmp 6) (Operand.tmp 8) s4 v8x1) ⟨fun
  v9x2 => @kifB v9x2 ⟨@bnd (aIndexAddr Tryz.prog H 31 s0 s4) ⟨fun v14x3 => @bnd (aLoad Tryz.prog H 75 v14x3) ⟨fun v15x4 => @bndE (aAlloc Tryz.prog H 75) ⟨fun v5x5 H6 => @bndS (aStore Tryz.prog H6 75 v5x5 v15x4) ⟨fun _ H8 => @bnd
  (aIndexAddr Tryz.prog H8 31 s0 s4) ⟨fun v18x9 => @bnd (aFieldAddr Tryz.prog H8 75 v18x9 2) ⟨fun v19x10 => @bnd (aLoad Tryz.prog H8 73 v19x10) ⟨fun v20x11 => @bndC Tryz.prog 74 [v20x11] H8 ⟨fun v21x12 H13 => @bnd (aFieldAddr
  Tryz.prog H13 75 v5x5 2) ⟨fun v22x14 => @bndS (aStore Tryz.prog H13 73 v22x14 v21x12) ⟨fun _ H16 => @bnd (aLoad Tryz.prog H16 75 v5x5) ⟨fun v24x17 => @bndL Tryz.prog H16 31 1 [(0, v24x17)] ⟨fun v25x18 H19 => @bndE (aBuiltin
  Tryz.prog H19 Builtin.append #[31, 31] [s3, v25x18]) ⟨fun v26x20 H21 => @bnd (aBin2 Tryz.prog H21 BinOp.add 3 (Operand.tmp 10) (Operand.const (Value.int IntKind.i64 1)) s4 (Value.int IntKind.i64 1)) ⟨fun v11x22 => L55x0 n0  k
  [s0, s1, s2, v26x20, v11x22, v5x5, s4, s0, v8x1, v9x2, s4, v11x22, s0, s4, v14x3, v15x4, s0, s4, v18x9, v19x10, v20x11, v21x12, v22x14, s3, v24x17, v25x18, v26x20, s27] H21⟩⟩⟩⟩⟩⟩⟩⟩⟩⟩⟩⟩⟩⟩⟩ ⟨k s3 H⟩⟩⟩) := by kernel_rfl
-- (*strings.Builder).WriteString
theorem d57 (a0 a1 : Value) (H : AHeap) (k : Value → AHeap → Prop) : kbody Tryz.prog Tryz.f57 [a0, a1] H k = (@bndC Tryz.prog 75 [a0] H ⟨fun _ H2 => @bnd (nilV a0) ⟨fun v10x3 => @bnd (aFieldAddr Tryz.prog H2 102 v10x3 1) ⟨fun
  v11x4 => @bnd (aLoad Tryz.prog H2 47 v11x4) ⟨fun v12x5 => @bndE (aBuiltin Tryz.prog H2 Builtin.append #[47, 9] [v12x5, a1]) ⟨fun v14x6 H7 => @bnd (nilV a0) ⟨fun v15x8 => @bnd (aFieldAddr Tryz.prog H7 102 v15x8 1) ⟨fun v16x9 =>
  @bndS (aStore Tryz.prog H7 47 v16x9 v14x6) ⟨fun _ H11 => @bnd (aLen Tryz.prog H11 9 a1) ⟨fun v18x12 => k (.tuple #[v18x12, Value.nilIface]) H11⟩⟩⟩⟩⟩⟩⟩⟩⟩) := by kernel_rfl
-- (*strings.Builder).String
theorem d58 (a0 : Value) (H : AHeap) (k : Value → AHeap → Prop) : kbody Tryz.prog Tryz.f58 [a0] H k = (@bnd (nilV a0) ⟨fun v4x1 => @bnd (aFieldAddr Tryz.prog H 102 v4x1 1) ⟨fun v5x2 => @bnd (aLoad Tryz.prog H 47 v5x2) ⟨fun v6x3
  => @bndD false H ⟨fun v7x4 H5 => aBuiltin Tryz.prog H Builtin.unsafeSliceData #[47] [v6x3] = some (v7x4, H5)⟩ ⟨fun v7x4 H5 => @bnd (nilV a0) ⟨fun v9x6 => @bnd (aFieldAddr Tryz.prog H 102 v9x6 1) ⟨fun v10x7 => @bnd (aLoad
  Tryz.prog H 47 v10x7) ⟨fun v11x8 => @bnd (aLen Tryz.prog H 47 v11x8) ⟨fun v12x9 => @bndD true H5 ⟨fun v13x10 H11 => aBuiltin Tryz.prog H5 Builtin.unsafeString #[127, 3] [v7x4, v12x9] = some (v13x10, H11)⟩ ⟨fun v13x10 H11 => k
  v13x10 H11⟩⟩⟩⟩⟩⟩⟩⟩⟩) := by kernel_rfl
-- tocsin/expr.aggregates
theorem d60 (H : AHeap) (k : Value → AHeap → Prop) : kbody Tryz.prog Tryz.f60 [] H k = (@bndL Tryz.prog H 32 6 [(0, (Value.string { data := #[99, 111, 117, 110, 116] })), (1, (Value.string { data := #[115, 117, 109] })), (2,
  (Value.string { data := #[109, 105, 110] })), (3, (Value.string { data := #[109, 97, 120] })), (4, (Value.string { data := #[109, 101, 97, 110] })), (5, (Value.string { data := #[108, 97, 115, 116] }))] ⟨fun v1x1 H2 => k v1x1
  H2⟩) := by kernel_rfl
-- tocsin/expr.compares
theorem d62 (H : AHeap) (k : Value → AHeap → Prop) : kbody Tryz.prog Tryz.f62 [] H k = (@bndL Tryz.prog H 32 6 [(0, (Value.string { data := #[60] })), (1, (Value.string { data := #[60, 61] })), (2, (Value.string { data := #[62]
  })), (3, (Value.string { data := #[62, 61] })), (4, (Value.string { data := #[61, 61] })), (5, (Value.string { data := #[33, 61] }))] ⟨fun v1x1 H2 => k v1x1 H2⟩) := by kernel_rfl
-- tocsin/lex.Tell
theorem d67 (a0 : Value) (H : AHeap) (k : Value → AHeap → Prop) : kbody Tryz.prog Tryz.f67 [a0] H k = (@bndE (aNew H 9 a0) ⟨fun v1x1 H2 => k (.func (Fn.func 85) #[] #[v1x1]) H2⟩) := by kernel_rfl
-- (*tocsin/expr.reader).takes
def S69x0 (k : Value → AHeap → Prop) (sl : List Value) (H : AHeap) : Prop := kseq Tryz.prog (cr (cr (cr (cb Tryz.f69)))) (kfin Tryz.prog Tryz.f69 k) .normal sl H
theorem d69 (a0 a1 a2 : Value) (H : AHeap) (k : Value → AHeap → Prop) : kbody Tryz.prog Tryz.f69 [a0, a1, a2] H k = (@bndC Tryz.prog 88 [a0, a1, a2] H ⟨fun v11x1 H2 => @kifB v11x1 ⟨@bnd (nilV a0) ⟨fun v14x3 => @bnd (aFieldAddr
  Tryz.prog H2 89 v14x3 1) ⟨fun v15x4 => @bnd (aLoad Tryz.prog H2 3 v15x4) ⟨fun v16x5 => @bnd (aBin2 Tryz.prog H2 BinOp.add 3 (Operand.tmp 16) (Operand.const (Value.int IntKind.i64 1)) v16x5 (Value.int IntKind.i64 1)) ⟨fun v17x6
  => @bnd (nilV a0) ⟨fun v18x7 => @bnd (aFieldAddr Tryz.prog H2 89 v18x7 1) ⟨fun v19x8 => @bndS (aStore Tryz.prog H2 3 v19x8 v17x6) ⟨fun _ H10 => S69x0  k [a0, a1, a2, undef, undef, undef, (Value.bool false), v11x1, a0, a1, a2,
  v11x1, v11x1, a0, v14x3, v15x4, v16x5, v17x6, v18x7, v19x8, undef] H10⟩⟩⟩⟩⟩⟩⟩⟩ ⟨S69x0  k [a0, a1, a2, undef, undef, undef, (Value.bool false), v11x1, a0, a1, a2, v11x1, v11x1, undef, undef, undef, undef, undef, undef, undef,
  undef] H2⟩⟩) := by kernel_rfl
theorem S69x0q (s0 s1 s2 s3 s4 s5 s6 s7 s8 s9 s10 s11 s12 s13 s14 s15 s16 s17 s18 s19 s20 : Value) (H : AHeap) (k : Value → AHeap → Prop) : S69x0 k [s0, s1, s2, s3, s4, s5, s6, s7, s8, s9, s10, s11, s12, s13, s14, s15, s16, s17,
  s18, s19, s20] H = (k s7 H) := by kernel_rfl
-- (*tocsin/expr.reader).sign
theorem d70 (a0 a1 : Value) (H : AHeap) (k : Value → AHeap → Prop) : kbody Tryz.prog Tryz.f70 [a0, a1] H k = (@bndC Tryz.prog 69 [a0, (Value.int IntKind.u8 4), a1] H ⟨fun v7x1 H2 => @bnd (nilV a0) ⟨fun v8x3 => @bnd (aFieldAddr
  Tryz.prog H2 89 v8x3 2) ⟨fun v9x4 => @bndS (aStore Tryz.prog H2 4 v9x4 v7x1) ⟨fun _ H6 => k (.tuple #[]) H6⟩⟩⟩⟩) := by kernel_rfl
-- (*tocsin/expr.reader).comparison
theorem d71 (a0 : Value) (H : AHeap) (k : Value → AHeap → Prop) : kbody Tryz.prog Tryz.f71 [a0] H k = (@bndE (aAlloc Tryz.prog H 75) ⟨fun v2x1 H2 => @bndC Tryz.prog 60 [] H2 ⟨fun v5x3 H4 => @bndC Tryz.prog 89 [a0, (Value.int
  IntKind.u8 1), v5x3] H4 ⟨fun v6x5 H6 => @bnd (buildV Tryz.prog 75 [(0, (Value.int IntKind.u8 0)), (1, v6x5)]) ⟨fun v7x7 => @bndE (aAlloc Tryz.prog H6 75) ⟨fun v3x8 H9 => @bndS (aStore Tryz.prog H9 75 v3x8 v7x7) ⟨fun _ H11 =>
  @bndC Tryz.prog 70 [a0, (Value.string { data := #[40] })] H11 ⟨fun _ H13 => @bndC Tryz.prog 90 [a0] H13 ⟨fun v11x14 H15 => @bnd (aFieldAddr Tryz.prog H15 75 v3x8 2) ⟨fun v12x16 => @bndS (aStore Tryz.prog H15 73 v12x16 v11x14)
  ⟨fun _ H18 => @bndC Tryz.prog 70 [a0, (Value.string { data := #[91] })] H18 ⟨fun _ H20 => @bndC Tryz.prog 91 [a0] H20 ⟨fun v16x21 H22 => @bnd (aFieldAddr Tryz.prog H22 75 v3x8 3) ⟨fun v17x23 => @bndS (aStore Tryz.prog H22 3
  v17x23 v16x21) ⟨fun _ H25 => @bndC Tryz.prog 70 [a0, (Value.string { data := #[93] })] H25 ⟨fun _ H27 => @bndC Tryz.prog 70 [a0, (Value.string { data := #[41] })] H27 ⟨fun _ H29 => @bndC Tryz.prog 62 [] H29 ⟨fun v23x30 H31 =>
  @bndC Tryz.prog 89 [a0, (Value.int IntKind.u8 4), v23x30] H31 ⟨fun v24x32 H33 => @bnd (aFieldAddr Tryz.prog H33 75 v3x8 4) ⟨fun v25x34 => @bndS (aStore Tryz.prog H33 5 v25x34 v24x32) ⟨fun _ H36 => @bndC Tryz.prog 92 [a0] H36
  ⟨fun v27x37 H38 => @bnd (aFieldAddr Tryz.prog H38 75 v3x8 5) ⟨fun v28x39 => @bndS (aStore Tryz.prog H38 2 v28x39 v27x37) ⟨fun _ H41 => @bnd (aLoad Tryz.prog H41 75 v3x8) ⟨fun v29x42 => @bndS (aStore Tryz.prog H41 75 v2x1
  v29x42) ⟨fun _ H44 => ∃ r45, aLoad Tryz.prog H44 75 v2x1 = some r45 ∧ k r45 H44⟩⟩⟩⟩⟩⟩⟩⟩⟩⟩⟩⟩⟩⟩⟩⟩⟩⟩⟩⟩⟩⟩⟩⟩⟩) := by kernel_rfl
-- tocsin/expr.plain
theorem d72 (a0 : Value) (H : AHeap) (k : Value → AHeap → Prop) : kbody Tryz.prog Tryz.f72 [a0] H k = (@bndE (aNew H 75 a0) ⟨fun v1x1 H2 => @bnd (aFieldAddr Tryz.prog H2 75 v1x1 1) ⟨fun v3x3 => @bnd (aLoad Tryz.prog H2 5 v3x3)
  ⟨fun v4x4 => @bnd (convV Tryz.prog H2 5 3 v4x4) ⟨fun v5x5 => @bndD false H2 ⟨fun v6x6 H7 => ACalls Tryz.prog 60 [] H2 v6x6 H7⟩ ⟨fun v6x6 H7 => @bnd (aLen Tryz.prog H7 32 v6x6) ⟨fun v7x8 => @bnd (aBin2 Tryz.prog H7 BinOp.lss 3
  (Operand.tmp 5) (Operand.tmp 7) v5x5 v7x8) ⟨fun v8x9 => @bnd (gif v8x9 true (aFieldAddr Tryz.prog H7 75 v1x1 2) undef) ⟨fun v10x10 => @bnd (gif v8x9 true (aLoad Tryz.prog H7 73 v10x10) undef) ⟨fun v11x11 => @bndD true H7 ⟨fun
  v12x12 H13 => gifp v8x9 true (ACalls Tryz.prog 93 [v11x11] H7 v12x12 H13) (v12x12 = undef ∧ H13 = H7)⟩ ⟨fun v12x12 H13 => @bnd (pickV v8x9 v12x12 (Value.bool false)) ⟨fun v13x14 => @bnd (gif v13x14 true (aFieldAddr Tryz.prog
  H13 75 v1x1 3) undef) ⟨fun v15x15 => @bnd (gif v13x14 true (aLoad Tryz.prog H13 3 v15x15) undef) ⟨fun v16x16 => @bnd (gif v13x14 true (aBin2 Tryz.prog H13 BinOp.geq 3 (Operand.tmp 16) (Operand.const (Value.int IntKind.i64 1))
  v16x16 (Value.int IntKind.i64 1)) undef) ⟨fun v17x17 => @bnd (pickV v13x14 v17x17 (Value.bool false)) ⟨fun v18x18 => @bnd (gif v18x18 true (aFieldAddr Tryz.prog H13 75 v1x1 3) undef) ⟨fun v20x19 => @bnd (gif v18x18 true (aLoad
  Tryz.prog H13 3 v20x19) undef) ⟨fun v21x20 => @bnd (gif v18x18 true (aBin2 Tryz.prog H13 BinOp.leq 3 (Operand.tmp 21) (Operand.const (Value.int IntKind.i64 1000)) v21x20 (Value.int IntKind.i64 1000)) undef) ⟨fun v22x21 => @bnd
  (pickV v18x18 v22x21 (Value.bool false)) ⟨fun v23x22 => @bnd (gif v23x22 true (aFieldAddr Tryz.prog H13 75 v1x1 4) undef) ⟨fun v25x23 => @bnd (gif v23x22 true (aLoad Tryz.prog H13 5 v25x23) undef) ⟨fun v26x24 => @bnd (gif
  v23x22 true (convV Tryz.prog H13 5 3 v26x24) undef) ⟨fun v27x25 => @bndD false H13 ⟨fun v28x26 H27 => gifp v23x22 true (ACalls Tryz.prog 62 [] H13 v28x26 H27) (v28x26 = undef ∧ H27 = H13)⟩ ⟨fun v28x26 H27 => @bnd (gif v23x22
  true (aLen Tryz.prog H27 32 v28x26) undef) ⟨fun v29x28 => @bnd (gif v23x22 true (aBin2 Tryz.prog H27 BinOp.lss 3 (Operand.tmp 27) (Operand.tmp 29) v27x25 v29x28) undef) ⟨fun v30x29 => @bnd (pickV v23x22 v30x29 (Value.bool
  false)) ⟨fun v31x30 => @bnd (gif v31x30 true (aFieldAddr Tryz.prog H27 75 v1x1 5) undef) ⟨fun v33x31 => @bnd (gif v31x30 true (aLoad Tryz.prog H27 2 v33x31) undef) ⟨fun v34x32 => @bndD false H27 ⟨fun v35x33 H34 => gifp v31x30
  true (ACalls Tryz.prog 81 [v34x32] H27 v35x33 H34) (v35x33 = undef ∧ H34 = H27)⟩ ⟨fun v35x33 H34 => @bnd (gif v31x30 true (aFieldAddr Tryz.prog H27 75 v1x1 5) undef) ⟨fun v36x35 => @bnd (gif v31x30 true (aLoad Tryz.prog H27 2
  v36x35) undef) ⟨fun v37x36 => @bnd (gif v31x30 true (aBin2 Tryz.prog H34 BinOp.eql 2 (Operand.tmp 35) (Operand.tmp 37) v35x33 v37x36) undef) ⟨fun v38x37 => @bnd (pickV v31x30 v38x37 (Value.bool false)) ⟨fun v39x38 => @bnd (gif
  v39x38 true (aFieldAddr Tryz.prog H34 75 v1x1 6) undef) ⟨fun v41x39 => @bnd (gif v39x38 true (aLoad Tryz.prog H34 3 v41x39) undef) ⟨fun v42x40 => @bnd (gif v39x38 true (aBin2 Tryz.prog H34 BinOp.eql 3 (Operand.tmp 42)
  (Operand.const (Value.int IntKind.i64 0)) v42x40 (Value.int IntKind.i64 0)) undef) ⟨fun v43x41 => @bnd (pickV v39x38 v43x41 (Value.bool false)) ⟨fun v44x42 => @bnd (gif v44x42 true (aFieldAddr Tryz.prog H34 75 v1x1 7) undef)
  ⟨fun v46x43 => @bnd (gif v44x42 true (aLoad Tryz.prog H34 3 v46x43) undef) ⟨fun v47x44 => @bnd (gif v44x42 true (aBin2 Tryz.prog H34 BinOp.eql 3 (Operand.tmp 47) (Operand.const (Value.int IntKind.i64 0)) v47x44 (Value.int
  IntKind.i64 0)) undef) ⟨fun v48x45 => @bnd (pickV v44x42 v48x45 (Value.bool false)) ⟨fun v49x46 => k v49x46 H34⟩⟩⟩⟩⟩⟩⟩⟩⟩⟩⟩⟩⟩⟩⟩⟩⟩⟩⟩⟩⟩⟩⟩⟩⟩⟩⟩⟩⟩⟩⟩⟩⟩⟩⟩⟩⟩⟩⟩⟩⟩) := by kernel_rfl

end Go.Vi
namespace Go.Vi
open Go Go.Proofs
-- tocsin/expr.void
theorem d73 (a0 : Value) (H : AHeap) (k : Value → AHeap → Prop) : kbody Tryz.prog Tryz.f73 [a0] H k = (@bndE (aNew H 75 a0) ⟨fun v1x1 H2 => @bnd (aFieldAddr Tryz.prog H2 75 v1x1 1) ⟨fun v3x3 => @bnd (aLoad Tryz.prog H2 5 v3x3)
  ⟨fun v4x4 => @bnd (aBin2 Tryz.prog H2 BinOp.eql 5 (Operand.tmp 4) (Operand.const (Value.int IntKind.u8 0)) v4x4 (Value.int IntKind.u8 0)) ⟨fun v5x5 => @bnd (gif v5x5 true (aFieldAddr Tryz.prog H2 75 v1x1 2) undef) ⟨fun v7x6 =>
  @bnd (gif v5x5 true (aLoad Tryz.prog H2 73 v7x6) undef) ⟨fun v8x7 => @bnd (gif v5x5 true (aLen Tryz.prog H2 73 v8x7) undef) ⟨fun v9x8 => @bnd (gif v5x5 true (aBin2 Tryz.prog H2 BinOp.eql 3 (Operand.tmp 9) (Operand.const
  (Value.int IntKind.i64 0)) v9x8 (Value.int IntKind.i64 0)) undef) ⟨fun v10x9 => @bnd (pickV v5x5 v10x9 (Value.bool false)) ⟨fun v11x10 => @bnd (gif v11x10 true (aFieldAddr Tryz.prog H2 75 v1x1 3) undef) ⟨fun v13x11 => @bnd (gif
  v11x10 true (aLoad Tryz.prog H2 3 v13x11) undef) ⟨fun v14x12 => @bnd (gif v11x10 true (aBin2 Tryz.prog H2 BinOp.eql 3 (Operand.tmp 14) (Operand.const (Value.int IntKind.i64 0)) v14x12 (Value.int IntKind.i64 0)) undef) ⟨fun
  v15x13 => @bnd (pickV v11x10 v15x13 (Value.bool false)) ⟨fun v16x14 => @bnd (gif v16x14 true (aFieldAddr Tryz.prog H2 75 v1x1 4) undef) ⟨fun v18x15 => @bnd (gif v16x14 true (aLoad Tryz.prog H2 5 v18x15) undef) ⟨fun v19x16 =>
  @bnd (gif v16x14 true (aBin2 Tryz.prog H2 BinOp.eql 5 (Operand.tmp 19) (Operand.const (Value.int IntKind.u8 0)) v19x16 (Value.int IntKind.u8 0)) undef) ⟨fun v20x17 => @bnd (pickV v16x14 v20x17 (Value.bool false)) ⟨fun v21x18 =>
  @bnd (gif v21x18 true (aFieldAddr Tryz.prog H2 75 v1x1 5) undef) ⟨fun v23x19 => @bnd (gif v21x18 true (aLoad Tryz.prog H2 2 v23x19) undef) ⟨fun v24x20 => @bnd (gif v21x18 true (aBin2 Tryz.prog H2 BinOp.eql 2 (Operand.tmp 24)
  (Operand.const (Value.int IntKind.i64 0)) v24x20 (Value.int IntKind.i64 0)) undef) ⟨fun v25x21 => @bnd (pickV v21x18 v25x21 (Value.bool false)) ⟨fun v26x22 => k v26x22 H2⟩⟩⟩⟩⟩⟩⟩⟩⟩⟩⟩⟩⟩⟩⟩⟩⟩⟩⟩⟩⟩) := by kernel_rfl
-- tocsin/tocsinref08.Copy
theorem d74 (a0 : Value) (H : AHeap) (k : Value → AHeap → Prop) : kbody Tryz.prog Tryz.f74 [a0] H k = (@bndE (aBuiltin Tryz.prog H Builtin.append #[73, 73] [(Value.slice none 0 0), a0]) ⟨fun v6x1 H2 => k v6x1 H2⟩) := by kernel_rfl
-- (*strings.Builder).copyCheck
theorem d75 (a0 : Value) (H : AHeap) (k : Value → AHeap → Prop) : kbody Tryz.prog Tryz.f75 [a0] H k = (@bnd (nilV a0) ⟨fun v3x1 => @bnd (aFieldAddr Tryz.prog H 102 v3x1 0) ⟨fun v4x2 => @bnd (aLoad Tryz.prog H 100 v4x2) ⟨fun v5x3
  => @bnd (aBin2 Tryz.prog H BinOp.eql 100 (Operand.tmp 5) (Operand.const (Value.pointer none)) v5x3 (Value.pointer none)) ⟨fun v6x4 => @kifB v6x4 ⟨@bnd (convV Tryz.prog H 100 151 a0) ⟨fun v9x5 => @bndC Tryz.prog 94 [v9x5] H ⟨fun
  v10x6 H7 => @bnd (convV Tryz.prog H7 151 100 v10x6) ⟨fun v11x8 => @bnd (nilV a0) ⟨fun v12x9 => @bnd (aFieldAddr Tryz.prog H7 102 v12x9 0) ⟨fun v13x10 => @bndS (aStore Tryz.prog H7 100 v13x10 v11x8) ⟨fun _ H12 => k (.tuple #[])
  H12⟩⟩⟩⟩⟩⟩⟩ ⟨@bnd (nilV a0) ⟨fun v15x13 => @bnd (aFieldAddr Tryz.prog H 102 v15x13 0) ⟨fun v16x14 => @bnd (aLoad Tryz.prog H 100 v16x14) ⟨fun v17x15 => @bnd (aBin2 Tryz.prog H BinOp.neq 100 (Operand.tmp 17) (Operand.tmp 18)
  v17x15 a0) ⟨fun v19x16 => @kifB v19x16 ⟨False⟩ ⟨k (.tuple #[]) H⟩⟩⟩⟩⟩⟩⟩⟩⟩⟩) := by kernel_rfl
-- tocsin/match.ops
theorem d78 (H : AHeap) (k : Value → AHeap → Prop) : kbody Tryz.prog Tryz.f78 [] H k = (@bndE (some (Value.map (some H.length), H ++ [AObj.map []])) ⟨fun v1x1 H2 => @bnd (buildV Tryz.prog 133 [(0, (Value.string { data := #[61]
  })), (1, (.func (.func 100) #[] #[]))]) ⟨fun v2x3 => @bndS (aUpdate Tryz.prog H2 129 v1x1 (Value.int IntKind.u8 0) v2x3) ⟨fun _ H5 => @bnd (buildV Tryz.prog 133 [(0, (Value.string { data := #[33, 61] })), (1, (.func (.func 101)
  #[] #[]))]) ⟨fun v3x6 => @bndS (aUpdate Tryz.prog H5 129 v1x1 (Value.int IntKind.u8 1) v3x6) ⟨fun _ H8 => @bnd (buildV Tryz.prog 133 [(0, (Value.string { data := #[94, 61] })), (1, (.func (.func 102) #[] #[]))]) ⟨fun v4x9 =>
  @bndS (aUpdate Tryz.prog H8 129 v1x1 (Value.int IntKind.u8 2) v4x9) ⟨fun _ H11 => k v1x1 H11⟩⟩⟩⟩⟩⟩⟩) := by kernel_rfl
-- tocsin/fixed.Sat
theorem d81 (a0 : Value) (H : AHeap) (k : Value → AHeap → Prop) : kbody Tryz.prog Tryz.f81 [a0] H k = (@bndE (aBuiltin Tryz.prog H Builtin.max #[2, 2] [a0, (Value.int IntKind.i64 (-4611686018427387903))]) ⟨fun v4x1 H2 => @bndE
  (aBuiltin Tryz.prog H2 Builtin.min #[2, 2] [v4x1, (Value.int IntKind.i64 4611686018427387903)]) ⟨fun v5x3 H4 => k v5x3 H4⟩⟩) := by kernel_rfl
-- tocsin/lex.Tell$1
def L85x0 (n : Nat) (k : Value → AHeap → Prop) (sl : List Value) (H : AHeap) : Prop := kit Tryz.prog (cl (cl (cr (cr (cb Tryz.f85))))) n (kblk 0 (kfin Tryz.prog Tryz.f85 k)) .normal sl H
theorem d85 (a0 a1 : Value) (H : AHeap) (k : Value → AHeap → Prop) : kbody Tryz.prog Tryz.f85 [a0, a1] H k = (@bnd (aLoad Tryz.prog H 9 a1) ⟨fun v6x1 => @bnd (aLen Tryz.prog H 9 v6x1) ⟨fun v7x2 => @bnd (aBin2 Tryz.prog H
  BinOp.gtr 3 (Operand.tmp 7) (Operand.const (Value.int IntKind.i64 4096)) v7x2 (Value.int IntKind.i64 4096)) ⟨fun v8x3 => @kifB v8x3 ⟨@bnd (buildV Tryz.prog 121 []) ⟨fun v10x4 => @bndV Tryz.prog a0 [v10x4, (Value.int IntKind.i64
  3)] H ⟨fun _ H6 => k (.tuple #[]) H6⟩⟩⟩ ⟨@bnd (aLoad Tryz.prog H 9 a1) ⟨fun v12x7 => @bndC Tryz.prog 86 [v12x7, (Value.int IntKind.i64 0)] H ⟨fun v13x8 H9 => ∃ n, L85x0 n  k [a0, a1, undef, v13x8, undef, undef, v6x1, v7x2,
  v8x3, undef, undef, undef, v12x7, v13x8, undef, undef, undef, undef, undef, undef, undef, undef, undef, undef, undef, undef, undef, undef, undef, undef, undef, undef, undef, undef, undef, undef, undef, undef, undef, undef]
  H9⟩⟩⟩⟩⟩⟩) := by kernel_rfl
theorem L85x0q (n0 : Nat) (s0 s1 s2 s3 s4 s5 s6 s7 s8 s9 s10 s11 s12 s13 s14 s15 s16 s17 s18 s19 s20 s21 s22 s23 s24 s25 s26 s27 s28 s29 s30 s31 s32 s33 s34 s35 s36 s37 s38 s39 : Value) (H : AHeap) (k : Value → AHeap → Prop) :
  L85x0 (n0 + 1) k [s0, s1, s2, s3, s4, s5, s6, s7, s8, s9, s10, s11, s12, s13, s14, s15, s16, s17, s18, s19, s20, s21, s22, s23, s24, s25, s26, s27, s28, s29, s30, s31, s32, s33, s34, s35, s36, s37, s38, s39] H = (@bnd (aLoad
  Tryz.prog H 9 s1) ⟨fun v15x10 => @bnd (aLen Tryz.prog H 9 v15x10) ⟨fun v16x11 => @bnd (aBin2 Tryz.prog H BinOp.lss 3 (Operand.tmp 14) (Operand.tmp 16) s3 v16x11) ⟨fun v17x12 => @kifB v17x12 ⟨@bnd (aLoad Tryz.prog H 9 s1) ⟨fun
  v22x13 => @bndC Tryz.prog 87 [v22x13, s3] H ⟨fun v24x14 H15 => @bnd (tupV v24x14 0) ⟨fun v25x16 => @bnd (tupV v24x14 1) ⟨fun v26x17 => @bndE (aAlloc Tryz.prog H15 121) ⟨fun v4x18 H19 => @bndS (aStore Tryz.prog H19 121 v4x18
  v25x16) ⟨fun _ H21 => @bnd (aBin2 Tryz.prog H21 BinOp.eql 3 (Operand.tmp 27) (Operand.const (Value.int IntKind.i64 0)) v26x17 (Value.int IntKind.i64 0)) ⟨fun v28x22 => @kifB v28x22 ⟨@bnd (buildV Tryz.prog 121 [(2, s3)]) ⟨fun
  v31x23 => @bndV Tryz.prog s0 [v31x23, (Value.int IntKind.i64 90)] H21 ⟨fun _ H25 => k (.tuple #[]) H25⟩⟩⟩ ⟨@bnd (aLoad Tryz.prog H21 121 v4x18) ⟨fun v34x26 => @bndV Tryz.prog s0 [v34x26, (Value.int IntKind.i64 0)] H21 ⟨fun
  v35x27 H28 => @bnd (unV Tryz.prog UnOp.not v35x27) ⟨fun v36x29 => @kifB v36x29 ⟨k (.tuple #[]) H28⟩ ⟨@bnd (aBin2 Tryz.prog H28 BinOp.add 3 (Operand.tmp 37) (Operand.tmp 38) s3 v26x17) ⟨fun v39x30 => @bnd (aLoad Tryz.prog H28 9
  s1) ⟨fun v18x31 => @bndC Tryz.prog 86 [v18x31, v39x30] H28 ⟨fun v20x32 H33 => L85x0 n0  k [s0, s1, s2, v20x32, v4x18, v26x17, s6, s7, s8, s9, s10, s11, s12, s13, s3, v15x10, v16x11, v17x12, v18x31, v39x30, v20x32, v24x14,
  v22x13, s3, v24x14, v25x16, v26x17, v26x17, v28x22, s29, s30, s31, s32, s0, v34x26, v35x27, v36x29, s3, v26x17, v39x30] H33⟩⟩⟩⟩⟩⟩⟩⟩⟩⟩⟩⟩⟩⟩⟩⟩ ⟨k (.tuple #[]) H⟩⟩⟩⟩) := by kernel_rfl
-- tocsin/lex.skip
def L86x0 (n : Nat) (k : Value → AHeap → Prop) (sl : List Value) (H : AHeap) : Prop := kit Tryz.prog (cl (cl (cl (cr (cb Tryz.f86))))) n (kblk 0 (kseq Tryz.prog (cr (cr (cb Tryz.f86))) (kfin Tryz.prog Tryz.f86 k))) .normal sl H
theorem d86 (a0 a1 : Value) (H : AHeap) (k : Value → AHeap → Prop) : kbody Tryz.prog Tryz.f86 [a0, a1] H k = (∃ n, L86x0 n  k [a0, a1, undef, undef, (Value.int IntKind.i64 0), undef, undef, undef, undef, undef, undef, undef,
  undef, undef, undef, undef, undef, undef, undef, undef, undef, undef, undef, undef, undef, undef, undef, undef, undef] H) := by kernel_rfl
theorem L86x0q (n0 : Nat) (s0 s1 s2 s3 s4 s5 s6 s7 s8 s9 s10 s11 s12 s13 s14 s15 s16 s17 s18 s19 s20 s21 s22 s23 s24 s25 s26 s27 s28 : Value) (H : AHeap) (k : Value → AHeap → Prop) : L86x0 (n0 + 1) k [s0, s1, s2, s3, s4, s5, s6,
  s7, s8, s9, s10, s11, s12, s13, s14, s15, s16, s17, s18, s19, s20, s21, s22, s23, s24, s25, s26, s27, s28] H = (@bnd (aLen Tryz.prog H 9 s0) ⟨fun v7x1 => @bnd (aBin2 Tryz.prog H BinOp.lss 3 (Operand.tmp 5) (Operand.tmp 7) s1
  v7x1) ⟨fun v8x2 => @kifB v8x2 ⟨@bnd (aIndex Tryz.prog 9 s0 s1) ⟨fun v13x3 => @bndC Tryz.prog 108 [(Value.string { data := #[32, 9, 10, 13] }), v13x3] H ⟨fun v14x4 H5 => @bnd (aBin2 Tryz.prog H5 BinOp.geq 3 (Operand.tmp 14)
  (Operand.const (Value.int IntKind.i64 0)) v14x4 (Value.int IntKind.i64 0)) ⟨fun v15x6 => @kifB v15x6 ⟨@bnd (aBin2 Tryz.prog H5 BinOp.add 3 (Operand.tmp 16) (Operand.const (Value.int IntKind.i64 1)) s1 (Value.int IntKind.i64 1))
  ⟨fun v17x7 => L86x0 n0  k [s0, v17x7, s2, s3, s4, s1, s0, v7x1, v8x2, s9, v15x6, s0, s1, v13x3, v14x4, v15x6, s1, v17x7, s18, s19, s20, s21, s22, s23, s24, s25, s26, s27, s28] H5⟩⟩ ⟨@bnd (aIndex Tryz.prog 9 s0 s1) ⟨fun v21x8 =>
  @bnd (aBin2 Tryz.prog H5 BinOp.eql 5 (Operand.tmp 21) (Operand.const (Value.int IntKind.u8 35)) v21x8 (Value.int IntKind.u8 35)) ⟨fun v22x9 => @kifB v22x9 ⟨@bndC Tryz.prog 109 [s0, s1, (.func (.func 110) #[] #[])] H5 ⟨fun
  v26x10 H11 => @bnd (aBin2 Tryz.prog H11 BinOp.add 3 (Operand.tmp 23) (Operand.tmp 26) s1 v26x10) ⟨fun v27x12 => L86x0 n0  k [s0, v27x12, s2, s3, s4, s1, s0, v7x1, v8x2, s9, v15x6, s0, s1, v13x3, v14x4, v15x6, s16, s17, v22x9,
  s0, s1, v21x8, v22x9, s1, s0, s1, v26x10, v27x12, s28] H11⟩⟩⟩ ⟨k s1 H5⟩⟩⟩⟩⟩⟩⟩⟩ ⟨k s1 H⟩⟩⟩) := by kernel_rfl
-- tocsin/lex.one
def S87x0 (k : Value → AHeap → Prop) (sl : List Value) (H : AHeap) : Prop := kseq Tryz.prog (cr (cr (cr (cr (cb Tryz.f87))))) (kfin Tryz.prog Tryz.f87 k) .normal sl H
theorem d87 (a0 a1 : Value) (H : AHeap) (k : Value → AHeap → Prop) : kbody Tryz.prog Tryz.f87 [a0, a1] H k = (@bndE (aAlloc Tryz.prog H 121) ⟨fun v4x1 H2 => @bnd (buildV Tryz.prog 121 [(2, a1)]) ⟨fun v10x3 => @bndE (aAlloc
  Tryz.prog H2 121) ⟨fun v6x4 H5 => @bndS (aStore Tryz.prog H5 121 v6x4 v10x3) ⟨fun _ H7 => @bnd (aIndex Tryz.prog 9 a0 a1) ⟨fun v18x8 => @bndC Tryz.prog 111 [v18x8] H7 ⟨fun v19x9 H10 => @kifB v19x9 ⟨@bndC Tryz.prog 109 [a0, a1,
  (.func (.func 112) #[] #[])] H10 ⟨fun v22x11 H12 => @bnd (aFieldAddr Tryz.prog H12 121 v6x4 0) ⟨fun v23x13 => @bndS (aStore Tryz.prog H12 5 v23x13 (Value.int IntKind.u8 1)) ⟨fun _ H15 => S87x0  k [a0, a1, undef, undef, v4x1,
  (Value.int IntKind.i64 0), v6x4, v22x11, undef, a1, v10x3, undef, undef, undef, undef, v19x9, a0, a1, v18x8, v19x9, a0, a1, v22x11, v23x13, undef, undef, undef, undef, undef, undef, undef, undef, undef, undef, undef, undef,
  undef, undef, undef, undef, undef, undef, undef, undef, undef, undef, undef, undef, undef, undef, undef, undef, undef, undef, undef, undef, undef, undef, undef, undef, undef, undef, undef, undef, undef, undef, undef, undef,
  undef, undef, undef, undef, undef, undef, undef, undef, undef, undef, undef, undef, undef, undef, undef, undef, undef] H15⟩⟩⟩⟩ ⟨@bnd (aIndex Tryz.prog 9 a0 a1) ⟨fun v27x16 => @bndC Tryz.prog 113 [v27x16] H10 ⟨fun v28x17 H18 =>
  @kifB v28x17 ⟨@bndC Tryz.prog 109 [a0, a1, (.func (.func 113) #[] #[])] H18 ⟨fun v31x19 H20 => @bnd (aFieldAddr Tryz.prog H20 121 v6x4 0) ⟨fun v32x21 => @bndS (aStore Tryz.prog H20 5 v32x21 (Value.int IntKind.u8 2)) ⟨fun _ H23
  => @bnd (aBin2 Tryz.prog H23 BinOp.add 3 (Operand.tmp 34) (Operand.tmp 35) a1 v31x19) ⟨fun v36x24 => @bnd (aBin2 Tryz.prog H23 BinOp.add 3 (Operand.tmp 36) (Operand.const (Value.int IntKind.i64 1)) v36x24 (Value.int IntKind.i64
  1)) ⟨fun v37x25 => @bndC Tryz.prog 109 [a0, v37x25, (.func (.func 113) #[] #[])] H23 ⟨fun v38x26 H27 => @bnd (aBin2 Tryz.prog H27 BinOp.add 3 (Operand.tmp 39) (Operand.tmp 40) a1 v31x19) ⟨fun v41x28 => @bnd (aLen Tryz.prog H27
  9 a0) ⟨fun v43x29 => @bnd (aBin2 Tryz.prog H27 BinOp.lss 3 (Operand.tmp 41) (Operand.tmp 43) v41x28 v43x29) ⟨fun v44x30 => @bnd (gif v44x30 true ((some a0)) undef) ⟨fun v46x31 => @bnd (gif v44x30 true ((some a1)) undef) ⟨fun
  v47x32 => @bnd (gif v44x30 true ((some v31x19)) undef) ⟨fun v48x33 => @bnd (gif v44x30 true (aBin2 Tryz.prog H27 BinOp.add 3 (Operand.tmp 47) (Operand.tmp 48) v47x32 v48x33) undef) ⟨fun v49x34 => @bnd (gif v44x30 true (aIndex
  Tryz.prog 9 v46x31 v49x34) undef) ⟨fun v50x35 => @bnd (gif v44x30 true (aBin2 Tryz.prog H27 BinOp.eql 5 (Operand.tmp 50) (Operand.const (Value.int IntKind.u8 46)) v50x35 (Value.int IntKind.u8 46)) undef) ⟨fun v51x36 => @bnd
  (pickV v44x30 v51x36 (Value.bool false)) ⟨fun v52x37 => @bnd (gif v52x37 true ((some v38x26)) undef) ⟨fun v54x38 => @bnd (gif v52x37 true (aBin2 Tryz.prog H27 BinOp.gtr 3 (Operand.tmp 54) (Operand.const (Value.int IntKind.i64
  0)) v54x38 (Value.int IntKind.i64 0)) undef) ⟨fun v55x39 => @bnd (pickV v52x37 v55x39 (Value.bool false)) ⟨fun v56x40 => @kifB v56x40 ⟨@bnd (aBin2 Tryz.prog H27 BinOp.add 3 (Operand.const (Value.int IntKind.i64 1)) (Operand.tmp
  58) (Value.int IntKind.i64 1) v38x26) ⟨fun v59x41 => @bnd (aBin2 Tryz.prog H27 BinOp.add 3 (Operand.tmp 57) (Operand.tmp 59) v31x19 v59x41) ⟨fun v60x42 => S87x0  k [a0, a1, undef, undef, v4x1, (Value.int IntKind.i64 0), v6x4,
  v60x42, v38x26, a1, v10x3, undef, undef, undef, undef, v19x9, a0, a1, v18x8, v19x9, undef, undef, undef, undef, v28x17, a0, a1, v27x16, v28x17, a0, a1, v31x19, v32x21, a0, a1, v31x19, v36x24, v37x25, v38x26, a1, v31x19, v41x28,
  a0, v43x29, v44x30, v44x30, v46x31, v47x32, v48x33, v49x34, v50x35, v51x36, v52x37, v52x37, v54x38, v55x39, v56x40, v31x19, v38x26, v59x41, v60x42, undef, undef, undef, undef, undef, undef, undef, undef, undef, undef, undef,
  undef, undef, undef, undef, undef, undef, undef, undef, undef, undef, undef, undef, undef] H27⟩⟩⟩ ⟨S87x0  k [a0, a1, undef, undef, v4x1, (Value.int IntKind.i64 0), v6x4, v31x19, v38x26, a1, v10x3, undef, undef, undef, undef,
  v19x9, a0, a1, v18x8, v19x9, undef, undef, undef, undef, v28x17, a0, a1, v27x16, v28x17, a0, a1, v31x19, v32x21, a0, a1, v31x19, v36x24, v37x25, v38x26, a1, v31x19, v41x28, a0, v43x29, v44x30, v44x30, v46x31, v47x32, v48x33,
  v49x34, v50x35, v51x36, v52x37, v52x37, v54x38, v55x39, v56x40, undef, undef, undef, undef, undef, undef, undef, undef, undef, undef, undef, undef, undef, undef, undef, undef, undef, undef, undef, undef, undef, undef, undef,
  undef, undef, undef, undef, undef] H27⟩⟩⟩⟩⟩⟩⟩⟩⟩⟩⟩⟩⟩⟩⟩⟩⟩⟩⟩⟩⟩ ⟨@bnd (aIndex Tryz.prog 9 a0 a1) ⟨fun v64x43 => @bnd (aBin2 Tryz.prog H18 BinOp.eql 5 (Operand.tmp 64) (Operand.const (Value.int IntKind.u8 34)) v64x43 (Value.int
  IntKind.u8 34)) ⟨fun v65x44 => @kifB v65x44 ⟨@bnd (aFieldAddr Tryz.prog H18 121 v6x4 0) ⟨fun v66x45 => @bndS (aStore Tryz.prog H18 5 v66x45 (Value.int IntKind.u8 3)) ⟨fun _ H47 => @bndC Tryz.prog 114 [a0, a1] H47 ⟨fun v70x48
  H49 => @bnd (tupV v70x48 0) ⟨fun v71x50 => @bnd (tupV v70x48 1) ⟨fun v72x51 => @bnd (aFieldAddr Tryz.prog H49 121 v6x4 1) ⟨fun v73x52 => @bndS (aStore Tryz.prog H49 9 v73x52 v71x50) ⟨fun _ H54 => @bnd (aLoad Tryz.prog H54 121
  v6x4) ⟨fun v74x55 => @bndS (aStore Tryz.prog H54 121 v4x1 v74x55) ⟨fun _ H57 => ∃ r58, aLoad Tryz.prog H57 121 v4x1 = some r58 ∧ k (.tuple #[r58, v72x51]) H57⟩⟩⟩⟩⟩⟩⟩⟩⟩⟩ ⟨@bndC Tryz.prog 115 [a0, a1] H18 ⟨fun v13x59 H60 => @bnd
  (aFieldAddr Tryz.prog H60 121 v6x4 0) ⟨fun v14x61 => @bndS (aStore Tryz.prog H60 5 v14x61 (Value.int IntKind.u8 4)) ⟨fun _ H63 => S87x0  k [a0, a1, undef, undef, v4x1, (Value.int IntKind.i64 0), v6x4, v13x59, undef, a1, v10x3,
  a0, a1, v13x59, v14x61, v19x9, a0, a1, v18x8, v19x9, undef, undef, undef, undef, v28x17, a0, a1, v27x16, v28x17, undef, undef, undef, undef, undef, undef, undef, undef, undef, undef, undef, undef, undef, undef, undef, undef,
  undef, undef, undef, undef, undef, undef, undef, undef, undef, undef, undef, undef, undef, undef, undef, undef, v65x44, a0, a1, v64x43, v65x44, undef, undef, undef, undef, undef, undef, undef, undef, undef, undef, undef, undef,
  undef, undef, undef, undef, undef, undef, undef] H63⟩⟩⟩⟩⟩⟩⟩⟩⟩⟩⟩⟩⟩⟩⟩⟩) := by kernel_rfl
theorem S87x0q (s0 s1 s2 s3 s4 s5 s6 s7 s8 s9 s10 s11 s12 s13 s14 s15 s16 s17 s18 s19 s20 s21 s22 s23 s24 s25 s26 s27 s28 s29 s30 s31 s32 s33 s34 s35 s36 s37 s38 s39 s40 s41 s42 s43 s44 s45 s46 s47 s48 s49 s50 s51 s52 s53 s54 s55
  s56 s57 s58 s59 s60 s61 s62 s63 s64 s65 s66 s67 s68 s69 s70 s71 s72 s73 s74 s75 s76 s77 s78 s79 s80 s81 s82 s83 s84 : Value) (H : AHeap) (k : Value → AHeap → Prop) : S87x0 k [s0, s1, s2, s3, s4, s5, s6, s7, s8, s9, s10, s11,
  s12, s13, s14, s15, s16, s17, s18, s19, s20, s21, s22, s23, s24, s25, s26, s27, s28, s29, s30, s31, s32, s33, s34, s35, s36, s37, s38, s39, s40, s41, s42, s43, s44, s45, s46, s47, s48, s49, s50, s51, s52, s53, s54, s55, s56,
  s57, s58, s59, s60, s61, s62, s63, s64, s65, s66, s67, s68, s69, s70, s71, s72, s73, s74, s75, s76, s77, s78, s79, s80, s81, s82, s83, s84] H = (@bnd (aBin2 Tryz.prog H BinOp.add 3 (Operand.tmp 78) (Operand.tmp 79) s1 s7) ⟨fun
  v80x64 => @bnd (aSliceOp Tryz.prog H 9 s0 (some s1) (some v80x64)) ⟨fun v81x65 => @bnd (aFieldAddr Tryz.prog H 121 s6 1) ⟨fun v82x66 => @bndS (aStore Tryz.prog H 9 v82x66 v81x65) ⟨fun _ H68 => @bnd (aLoad Tryz.prog H68 121 s6)
  ⟨fun v83x69 => @bndS (aStore Tryz.prog H68 121 s4 v83x69) ⟨fun _ H71 => ∃ r72, aLoad Tryz.prog H71 121 s4 = some r72 ∧ k (.tuple #[r72, s7]) H71⟩⟩⟩⟩⟩⟩) := by kernel_rfl
-- (*tocsin/expr.reader).is
theorem d88 (a0 a1 a2 : Value) (H : AHeap) (k : Value → AHeap → Prop) : kbody Tryz.prog Tryz.f88 [a0, a1, a2] H k = (@bnd (nilV a0) ⟨fun v8x1 => @bnd (aFieldAddr Tryz.prog H 89 v8x1 2) ⟨fun v9x2 => @bnd (aLoad Tryz.prog H 4 v9x2)
  ⟨fun v10x3 => @bnd (gif v10x3 true ((some a0)) undef) ⟨fun v12x4 => @bnd (gif v10x3 true (nilV v12x4) undef) ⟨fun v13x5 => @bnd (gif v10x3 true (aFieldAddr Tryz.prog H 89 v13x5 1) undef) ⟨fun v14x6 => @bnd (gif v10x3 true
  (aLoad Tryz.prog H 3 v14x6) undef) ⟨fun v15x7 => @bnd (gif v10x3 true ((some a0)) undef) ⟨fun v16x8 => @bnd (gif v10x3 true (nilV v16x8) undef) ⟨fun v17x9 => @bnd (gif v10x3 true (aFieldAddr Tryz.prog H 89 v17x9 0) undef) ⟨fun
  v18x10 => @bnd (gif v10x3 true (aLoad Tryz.prog H 82 v18x10) undef) ⟨fun v19x11 => @bnd (gif v10x3 true (aLen Tryz.prog H 82 v19x11) undef) ⟨fun v20x12 => @bnd (gif v10x3 true (aBin2 Tryz.prog H BinOp.lss 3 (Operand.tmp 15)
  (Operand.tmp 20) v15x7 v20x12) undef) ⟨fun v21x13 => @bnd (pickV v10x3 v21x13 (Value.bool false)) ⟨fun v22x14 => @bnd (gif v22x14 true ((some a0)) undef) ⟨fun v24x15 => @bnd (gif v22x14 true (nilV v24x15) undef) ⟨fun v25x16 =>
  @bnd (gif v22x14 true (aFieldAddr Tryz.prog H 89 v25x16 0) undef) ⟨fun v26x17 => @bnd (gif v22x14 true (aLoad Tryz.prog H 82 v26x17) undef) ⟨fun v27x18 => @bnd (gif v22x14 true ((some a0)) undef) ⟨fun v28x19 => @bnd (gif v22x14
  true (nilV v28x19) undef) ⟨fun v29x20 => @bnd (gif v22x14 true (aFieldAddr Tryz.prog H 89 v29x20 1) undef) ⟨fun v30x21 => @bnd (gif v22x14 true (aLoad Tryz.prog H 3 v30x21) undef) ⟨fun v31x22 => @bnd (gif v22x14 true
  (aIndexAddr Tryz.prog H 82 v27x18 v31x22) undef) ⟨fun v32x23 => @bnd (gif v22x14 true (aFieldAddr Tryz.prog H 121 v32x23 0) undef) ⟨fun v33x24 => @bnd (gif v22x14 true (aLoad Tryz.prog H 5 v33x24) undef) ⟨fun v34x25 => @bnd
  (gif v22x14 true ((some a1)) undef) ⟨fun v35x26 => @bnd (gif v22x14 true (aBin2 Tryz.prog H BinOp.eql 5 (Operand.tmp 34) (Operand.tmp 35) v34x25 v35x26) undef) ⟨fun v36x27 => @bnd (pickV v22x14 v36x27 (Value.bool false)) ⟨fun
  v37x28 => @bnd (gif v37x28 true ((some a0)) undef) ⟨fun v39x29 => @bnd (gif v37x28 true (nilV v39x29) undef) ⟨fun v40x30 => @bnd (gif v37x28 true (aFieldAddr Tryz.prog H 89 v40x30 0) undef) ⟨fun v41x31 => @bnd (gif v37x28 true
  (aLoad Tryz.prog H 82 v41x31) undef) ⟨fun v42x32 => @bnd (gif v37x28 true ((some a0)) undef) ⟨fun v43x33 => @bnd (gif v37x28 true (nilV v43x33) undef) ⟨fun v44x34 => @bnd (gif v37x28 true (aFieldAddr Tryz.prog H 89 v44x34 1)
  undef) ⟨fun v45x35 => @bnd (gif v37x28 true (aLoad Tryz.prog H 3 v45x35) undef) ⟨fun v46x36 => @bnd (gif v37x28 true (aIndexAddr Tryz.prog H 82 v42x32 v46x36) undef) ⟨fun v47x37 => @bnd (gif v37x28 true (aFieldAddr Tryz.prog H
  121 v47x37 1) undef) ⟨fun v48x38 => @bnd (gif v37x28 true (aLoad Tryz.prog H 9 v48x38) undef) ⟨fun v49x39 => @bnd (gif v37x28 true ((some a2)) undef) ⟨fun v50x40 => @bnd (gif v37x28 true (aBin2 Tryz.prog H BinOp.eql 9
  (Operand.tmp 49) (Operand.tmp 50) v49x39 v50x40) undef) ⟨fun v51x41 => @bnd (pickV v37x28 v51x41 (Value.bool false)) ⟨fun v52x42 => k v52x42 H⟩⟩⟩⟩⟩⟩⟩⟩⟩⟩⟩⟩⟩⟩⟩⟩⟩⟩⟩⟩⟩⟩⟩⟩⟩⟩⟩⟩⟩⟩⟩⟩⟩⟩⟩⟩⟩⟩⟩⟩⟩⟩) := by kernel_rfl
-- (*tocsin/expr.reader).one
theorem d89 (a0 a1 a2 : Value) (H : AHeap) (k : Value → AHeap → Prop) : kbody Tryz.prog Tryz.f89 [a0, a1, a2] H k = (@bndC Tryz.prog 116 [a2] H ⟨fun v11x1 H2 => @bndC Tryz.prog 117 [a0, a1] H2 ⟨fun v14x3 H4 => @bnd (aLookup
  Tryz.prog H4 93 v11x1 v14x3 true) ⟨fun v15x5 => @bnd (tupV v15x5 0) ⟨fun v16x6 => @bnd (tupV v15x5 1) ⟨fun v17x7 => @bnd (nilV a0) ⟨fun v20x8 => @bnd (aFieldAddr Tryz.prog H4 89 v20x8 2) ⟨fun v21x9 => @bnd (aLoad Tryz.prog H4 4
  v21x9) ⟨fun v22x10 => @bnd (gif v22x10 true ((some v17x7)) undef) ⟨fun v24x11 => @bnd (pickV v22x10 v24x11 (Value.bool false)) ⟨fun v25x12 => @bnd (nilV a0) ⟨fun v26x13 => @bnd (aFieldAddr Tryz.prog H4 89 v26x13 2) ⟨fun v27x14
  => @bndS (aStore Tryz.prog H4 4 v27x14 v25x12) ⟨fun _ H16 => @bnd (convV Tryz.prog H16 3 5 v16x6) ⟨fun v29x17 => k v29x17 H16⟩⟩⟩⟩⟩⟩⟩⟩⟩⟩⟩⟩⟩⟩) := by kernel_rfl
-- (*tocsin/expr.reader).selects
def L90x0 (n : Nat) (k : Value → AHeap → Prop) (sl : List Value) (H : AHeap) : Prop := kit Tryz.prog (cl (cl (cr (cl (cr (cr (cr (cr (cb Tryz.f90))))))))) n (kblk 0 (kseq Tryz.prog (cr (cr (cr (cr (cr (cb Tryz.f90)))))) (kfin
  Tryz.prog Tryz.f90 k))) .normal sl H
theorem d90 (a0 : Value) (H : AHeap) (k : Value → AHeap → Prop) : kbody Tryz.prog Tryz.f90 [a0] H k = (@bndC Tryz.prog 70 [a0, (Value.string { data := #[123] })] H ⟨fun v6x1 H2 => @bndC Tryz.prog 69 [a0, (Value.int IntKind.u8 4),
  (Value.string { data := #[125] })] H2 ⟨fun v8x3 H4 => @kifB v8x3 ⟨k (Value.slice none 0 0) H4⟩ ⟨∃ n, L90x0 n  k [a0, undef, (Value.slice none 0 0), (Value.slice none 0 0), (Value.bool true), a0, v6x1, a0, v8x3, undef, undef,
  undef, undef, undef, undef, undef, undef, undef, undef, undef, undef, undef, undef, undef, undef, undef, undef, undef, undef, undef, undef, undef, undef, undef, undef, undef, undef, undef, undef, undef, undef, undef, undef]
  H4⟩⟩⟩) := by kernel_rfl
theorem L90x0q (n0 : Nat) (s0 s1 s2 s3 s4 s5 s6 s7 s8 s9 s10 s11 s12 s13 s14 s15 s16 s17 s18 s19 s20 s21 s22 s23 s24 s25 s26 s27 s28 s29 s30 s31 s32 s33 s34 s35 s36 s37 s38 s39 s40 s41 s42 : Value) (H : AHeap) (k : Value → AHeap
  → Prop) : L90x0 (n0 + 1) k [s0, s1, s2, s3, s4, s5, s6, s7, s8, s9, s10, s11, s12, s13, s14, s15, s16, s17, s18, s19, s20, s21, s22, s23, s24, s25, s26, s27, s28, s29, s30, s31, s32, s33, s34, s35, s36, s37, s38, s39, s40, s41,
  s42] H = (@bnd (gif s4 true ((some s0)) undef) ⟨fun v11x5 => @bnd (gif s4 true (nilV v11x5) undef) ⟨fun v12x6 => @bnd (gif s4 true (aFieldAddr Tryz.prog H 89 v12x6 2) undef) ⟨fun v13x7 => @bnd (gif s4 true (aLoad Tryz.prog H 4
  v13x7) undef) ⟨fun v14x8 => @bnd (pickV s4 v14x8 (Value.bool false)) ⟨fun v15x9 => @kifB v15x9 ⟨@bndC Tryz.prog 117 [s0, (Value.int IntKind.u8 1)] H ⟨fun v20x10 H11 => @bndC Tryz.prog 118 [] H11 ⟨fun v22x12 H13 => @bndC
  Tryz.prog 89 [s0, (Value.int IntKind.u8 4), v22x12] H13 ⟨fun v23x14 H15 => @bndC Tryz.prog 117 [s0, (Value.int IntKind.u8 3)] H15 ⟨fun v25x16 H17 => @bnd (buildV Tryz.prog 92 [(0, v20x10), (1, v23x14), (2, v25x16)]) ⟨fun v26x18
  => @bndL Tryz.prog H17 73 1 [(0, v26x18)] ⟨fun v27x19 H20 => @bndE (aBuiltin Tryz.prog H20 Builtin.append #[73, 73] [s3, v27x19]) ⟨fun v28x21 H22 => @bndC Tryz.prog 69 [s0, (Value.int IntKind.u8 4), (Value.string { data :=
  #[44] })] H22 ⟨fun v17x23 H24 => L90x0 n0  k [s0, s1, s2, v28x21, v17x23, s5, s6, s7, s8, s4, s4, v11x5, v12x6, v13x7, v14x8, v15x9, s0, v17x23, s3, s0, v20x10, s0, v22x12, v23x14, s0, v25x16, v26x18, v27x19, v28x21, s29, s30,
  s31, s32, s33, s34, s35, s36, s37, s38, s39, s40, s41, s42] H24⟩⟩⟩⟩⟩⟩⟩⟩⟩ ⟨@bndC Tryz.prog 70 [s0, (Value.string { data := #[125] })] H ⟨fun _ H26 => @bnd (nilV s0) ⟨fun v33x27 => @bnd (aFieldAddr Tryz.prog H26 89 v33x27 2) ⟨fun
  v34x28 => @bnd (aLoad Tryz.prog H26 4 v34x28) ⟨fun v35x29 => @bnd (gif v35x29 true ((some s3)) undef) ⟨fun v37x30 => @bndG v35x29 true H26 ⟨fun v38x31 H32 => ACalls Tryz.prog 93 [v37x30] H26 v38x31 H32⟩ ⟨fun v38x31 H32 => @bnd
  (pickV v35x29 v38x31 (Value.bool false)) ⟨fun v39x33 => @bnd (nilV s0) ⟨fun v40x34 => @bnd (aFieldAddr Tryz.prog H32 89 v40x34 2) ⟨fun v41x35 => @bndS (aStore Tryz.prog H32 4 v41x35 v39x33) ⟨fun _ H37 => k s3
  H37⟩⟩⟩⟩⟩⟩⟩⟩⟩⟩⟩⟩⟩⟩⟩⟩) := by kernel_rfl

end Go.Vi
namespace Go.Vi
open Go Go.Proofs
-- (*tocsin/expr.reader).window
theorem d91 (a0 : Value) (H : AHeap) (k : Value → AHeap → Prop) : kbody Tryz.prog Tryz.f91 [a0] H k = (@bndC Tryz.prog 117 [a0, (Value.int IntKind.u8 2)] H ⟨fun v7x1 H2 => @bndC Tryz.prog 119 [v7x1] H2 ⟨fun v8x3 H4 => @bnd (tupV
  v8x3 0) ⟨fun v9x5 => @bnd (tupV v8x3 1) ⟨fun v10x6 => @bnd (nilV a0) ⟨fun v13x7 => @bnd (aFieldAddr Tryz.prog H4 89 v13x7 2) ⟨fun v14x8 => @bnd (aLoad Tryz.prog H4 4 v14x8) ⟨fun v15x9 => @bnd (gif v15x9 true ((some v10x6))
  undef) ⟨fun v17x10 => @bnd (gif v15x9 true (aBin2 Tryz.prog H4 BinOp.eql 105 (Operand.tmp 17) (Operand.const Value.nilIface) v17x10 Value.nilIface) undef) ⟨fun v18x11 => @bnd (pickV v15x9 v18x11 (Value.bool false)) ⟨fun v19x12
  => @bnd (gif v19x12 true ((some v9x5)) undef) ⟨fun v21x13 => @bnd (gif v19x12 true (aBin2 Tryz.prog H4 BinOp.geq 3 (Operand.tmp 21) (Operand.const (Value.int IntKind.i64 1)) v21x13 (Value.int IntKind.i64 1)) undef) ⟨fun v22x14
  => @bnd (pickV v19x12 v22x14 (Value.bool false)) ⟨fun v23x15 => @bnd (gif v23x15 true ((some v9x5)) undef) ⟨fun v25x16 => @bnd (gif v23x15 true (aBin2 Tryz.prog H4 BinOp.leq 3 (Operand.tmp 25) (Operand.const (Value.int
  IntKind.i64 1000)) v25x16 (Value.int IntKind.i64 1000)) undef) ⟨fun v26x17 => @bnd (pickV v23x15 v26x17 (Value.bool false)) ⟨fun v27x18 => @bnd (nilV a0) ⟨fun v28x19 => @bnd (aFieldAddr Tryz.prog H4 89 v28x19 2) ⟨fun v29x20 =>
  @bndS (aStore Tryz.prog H4 4 v29x20 v27x18) ⟨fun _ H22 => k v9x5 H22⟩⟩⟩⟩⟩⟩⟩⟩⟩⟩⟩⟩⟩⟩⟩⟩⟩⟩⟩) := by kernel_rfl
-- (*tocsin/expr.reader).value
def S92x0 (k : Value → AHeap → Prop) (sl : List Value) (H : AHeap) : Prop := kseq Tryz.prog (cr (cr (cr (cb Tryz.f92)))) (kfin Tryz.prog Tryz.f92 k) .normal sl H
theorem d92 (a0 : Value) (H : AHeap) (k : Value → AHeap → Prop) : kbody Tryz.prog Tryz.f92 [a0] H k = (@bndC Tryz.prog 69 [a0, (Value.int IntKind.u8 4), (Value.string { data := #[45] })] H ⟨fun v7x1 H2 => @kifB v7x1 ⟨S92x0  k
  [a0, undef, (Value.int IntKind.i64 0), (Value.string { data := #[45] }), undef, undef, a0, v7x1, undef, undef, undef, undef, undef, undef, undef, undef, undef, undef, undef, undef, undef, undef, undef, undef, undef, undef,
  undef, undef] H2⟩ ⟨S92x0  k [a0, undef, (Value.int IntKind.i64 0), (Value.string { data := #[] }), undef, undef, a0, v7x1, undef, undef, undef, undef, undef, undef, undef, undef, undef, undef, undef, undef, undef, undef, undef,
  undef, undef, undef, undef, undef] H2⟩⟩) := by kernel_rfl
theorem S92x0q (s0 s1 s2 s3 s4 s5 s6 s7 s8 s9 s10 s11 s12 s13 s14 s15 s16 s17 s18 s19 s20 s21 s22 s23 s24 s25 s26 s27 : Value) (H : AHeap) (k : Value → AHeap → Prop) : S92x0 k [s0, s1, s2, s3, s4, s5, s6, s7, s8, s9, s10, s11,
  s12, s13, s14, s15, s16, s17, s18, s19, s20, s21, s22, s23, s24, s25, s26, s27] H = (@bndC Tryz.prog 117 [s0, (Value.int IntKind.u8 2)] H ⟨fun v11x3 H4 => @bnd (aBin2 Tryz.prog H4 BinOp.add 9 (Operand.tmp 9) (Operand.tmp 11) s3
  v11x3) ⟨fun v12x5 => @bndC Tryz.prog 120 [v12x5] H4 ⟨fun v13x6 H7 => @bnd (tupV v13x6 0) ⟨fun v14x8 => @bnd (tupV v13x6 1) ⟨fun v15x9 => @bnd (nilV s0) ⟨fun v18x10 => @bnd (aFieldAddr Tryz.prog H7 89 v18x10 2) ⟨fun v19x11 =>
  @bnd (aLoad Tryz.prog H7 4 v19x11) ⟨fun v20x12 => @bnd (gif v20x12 true ((some v15x9)) undef) ⟨fun v22x13 => @bnd (gif v20x12 true (aBin2 Tryz.prog H7 BinOp.eql 28 (Operand.tmp 22) (Operand.const (Value.int IntKind.i64 0))
  v22x13 (Value.int IntKind.i64 0)) undef) ⟨fun v23x14 => @bnd (pickV v20x12 v23x14 (Value.bool false)) ⟨fun v24x15 => @bnd (nilV s0) ⟨fun v25x16 => @bnd (aFieldAddr Tryz.prog H7 89 v25x16 2) ⟨fun v26x17 => @bndS (aStore
  Tryz.prog H7 4 v26x17 v24x15) ⟨fun _ H19 => k v14x8 H19⟩⟩⟩⟩⟩⟩⟩⟩⟩⟩⟩⟩⟩⟩) := by kernel_rfl
-- tocsin/match.May
def L93x0 (n : Nat) (k : Value → AHeap → Prop) (sl : List Value) (H : AHeap) : Prop := kit Tryz.prog (cl (cl (cr (cl (cr (cr (cb Tryz.f93))))))) n (kblk 0 (kseq Tryz.prog (cr (cr (cr (cb Tryz.f93)))) (kfin Tryz.prog Tryz.f93 k)))
  .normal sl H
theorem d93 (a0 : Value) (H : AHeap) (k : Value → AHeap → Prop) : kbody Tryz.prog Tryz.f93 [a0] H k = (@bndC Tryz.prog 78 [] H ⟨fun v8x1 H2 => @bnd (aLen Tryz.prog H2 73 a0) ⟨fun v10x3 => ∃ n, L93x0 n  k [a0, undef, (Value.bool
  false), v8x1, undef, undef, undef, undef, v8x1, a0, v10x3, (Value.int IntKind.i64 0), undef, undef, undef, undef, undef, undef, undef, undef, undef, undef, undef, undef, undef, undef, undef, undef, undef, undef, undef, undef,
  undef, undef, undef, undef, undef, undef, undef, undef] H2⟩⟩) := by kernel_rfl
theorem L93x0q (n0 : Nat) (s0 s1 s2 s3 s4 s5 s6 s7 s8 s9 s10 s11 s12 s13 s14 s15 s16 s17 s18 s19 s20 s21 s22 s23 s24 s25 s26 s27 s28 s29 s30 s31 s32 s33 s34 s35 s36 s37 s38 s39 : Value) (H : AHeap) (k : Value → AHeap → Prop) :
  L93x0 (n0 + 1) k [s0, s1, s2, s3, s4, s5, s6, s7, s8, s9, s10, s11, s12, s13, s14, s15, s16, s17, s18, s19, s20, s21, s22, s23, s24, s25, s26, s27, s28, s29, s30, s31, s32, s33, s34, s35, s36, s37, s38, s39] H = (@bnd (aBin2
  Tryz.prog H BinOp.lss 3 (Operand.tmp 11) (Operand.tmp 10) s11 s10) ⟨fun v12x4 => @kifB v12x4 ⟨@bnd (aIndexAddr Tryz.prog H 73 s9 s11) ⟨fun v13x5 => @bnd (aLoad Tryz.prog H 92 v13x5) ⟨fun v14x6 => @bndE (aAlloc Tryz.prog H 92)
  ⟨fun v5x7 H8 => @bndS (aStore Tryz.prog H8 92 v5x7 v14x6) ⟨fun _ H10 => @bnd (aFieldAddr Tryz.prog H10 92 v5x7 1) ⟨fun v17x11 => @bnd (aLoad Tryz.prog H10 5 v17x11) ⟨fun v18x12 => @bnd (aLookup Tryz.prog H10 129 s3 v18x12 true)
  ⟨fun v19x13 => @bnd (tupV v19x13 0) ⟨fun v20x14 => @bnd (tupV v19x13 1) ⟨fun v21x15 => @bndE (aAlloc Tryz.prog H10 133) ⟨fun v6x16 H17 => @bndS (aStore Tryz.prog H17 133 v6x16 v20x14) ⟨fun _ H19 => @bnd (unV Tryz.prog UnOp.not
  v21x15) ⟨fun v23x20 => @bnd (gif v23x20 false (aFieldAddr Tryz.prog H19 92 v5x7 0) undef) ⟨fun v25x21 => @bnd (gif v23x20 false (aLoad Tryz.prog H19 9 v25x21) undef) ⟨fun v26x22 => @bndG v23x20 false H19 ⟨fun v27x23 H24 =>
  ACalls Tryz.prog 32 [v26x22] H19 v27x23 H24⟩ ⟨fun v27x23 H24 => @bnd (gif v23x20 false (unV Tryz.prog UnOp.not v27x23) undef) ⟨fun v28x25 => @bnd (pickV v23x20 (Value.bool true) v28x25) ⟨fun v29x26 => @bnd (gif v29x26 false
  (aFieldAddr Tryz.prog H24 92 v5x7 2) undef) ⟨fun v31x27 => @bnd (gif v29x26 false (aLoad Tryz.prog H24 9 v31x27) undef) ⟨fun v32x28 => @bndG v29x26 false H24 ⟨fun v33x29 H30 => ACalls Tryz.prog 121 [v32x28] H24 v33x29 H30⟩ ⟨fun
  v33x29 H30 => @bnd (gif v29x26 false (unV Tryz.prog UnOp.not v33x29) undef) ⟨fun v34x31 => @bnd (pickV v29x26 (Value.bool true) v34x31) ⟨fun v35x32 => @kifB v35x32 ⟨k (Value.bool false) H30⟩ ⟨@bnd (aBin2 Tryz.prog H30 BinOp.add
  3 (Operand.tmp 11) (Operand.const (Value.int IntKind.i64 1)) s11 (Value.int IntKind.i64 1)) ⟨fun v36x33 => L93x0 n0  k [s0, s1, s2, s3, s4, v5x7, v6x16, v21x15, s8, s9, s10, v36x33, v12x4, v13x5, v14x6, v19x13, s3, v17x11,
  v18x12, v19x13, v20x14, v21x15, v21x15, v23x20, v23x20, v25x21, v26x22, v27x23, v28x25, v29x26, v29x26, v31x27, v32x28, v33x29, v34x31, v35x32, v36x33, s37, s38, s39] H30⟩⟩⟩⟩⟩⟩⟩⟩⟩⟩⟩⟩⟩⟩⟩⟩⟩⟩⟩⟩⟩⟩⟩⟩⟩ ⟨@bnd (aLen Tryz.prog H 73 s0)
  ⟨fun v38x34 => @bnd (aBin2 Tryz.prog H BinOp.leq 3 (Operand.tmp 38) (Operand.const (Value.int IntKind.i64 6)) v38x34 (Value.int IntKind.i64 6)) ⟨fun v39x35 => k v39x35 H⟩⟩⟩⟩) := by kernel_rfl
-- strings.HasPrefix
theorem d102 (a0 a1 : Value) (H : AHeap) (k : Value → AHeap → Prop) : kbody Tryz.prog Tryz.f102 [a0, a1] H k = (@bndC Tryz.prog 127 [a0, a1] H ⟨fun v7x1 H2 => k v7x1 H2⟩) := by kernel_rfl
-- (*strings.Builder).WriteByte
theorem d103 (a0 a1 : Value) (H : AHeap) (k : Value → AHeap → Prop) : kbody Tryz.prog Tryz.f103 [a0, a1] H k = (@bndC Tryz.prog 75 [a0] H ⟨fun _ H2 => @bnd (nilV a0) ⟨fun v9x3 => @bnd (aFieldAddr Tryz.prog H2 102 v9x3 1) ⟨fun
  v10x4 => @bnd (aLoad Tryz.prog H2 47 v10x4) ⟨fun v11x5 => @bndL Tryz.prog H2 47 1 [(0, a1)] ⟨fun v13x6 H7 => @bndE (aBuiltin Tryz.prog H7 Builtin.append #[47, 47] [v11x5, v13x6]) ⟨fun v14x8 H9 => @bnd (nilV a0) ⟨fun v15x10 =>
  @bnd (aFieldAddr Tryz.prog H9 102 v15x10 1) ⟨fun v16x11 => @bndS (aStore Tryz.prog H9 47 v16x11 v14x8) ⟨fun _ H13 => k Value.nilIface H13⟩⟩⟩⟩⟩⟩⟩⟩⟩) := by kernel_rfl
-- strings.IndexByte
theorem d108 (a0 a1 : Value) (H : AHeap) (k : Value → AHeap → Prop) : kbody Tryz.prog Tryz.f108 [a0, a1] H k = (@bndC Tryz.prog 131 [a0, a1] H ⟨fun v7x1 H2 => k v7x1 H2⟩) := by kernel_rfl
-- tocsin/lex.run
def L109x0 (n : Nat) (k : Value → AHeap → Prop) (sl : List Value) (H : AHeap) : Prop := kit Tryz.prog (cl (cl (cl (cr (cr (cb Tryz.f109)))))) n (kblk 0 (kseq Tryz.prog (cr (cr (cr (cb Tryz.f109)))) (kfin Tryz.prog Tryz.f109 k)))
  .normal sl H
theorem d109 (a0 a1 a2 : Value) (H : AHeap) (k : Value → AHeap → Prop) : kbody Tryz.prog Tryz.f109 [a0, a1, a2] H k = (∃ n, L109x0 n  k [a0, a1, a2, undef, undef, undef, (Value.int IntKind.i64 0), (Value.int IntKind.i64 0),
  undef, undef, undef, undef, undef, undef, undef, undef, undef, undef, undef, undef, undef, undef, undef, undef, undef, undef] H) := by kernel_rfl
theorem L109x0q (n0 : Nat) (s0 s1 s2 s3 s4 s5 s6 s7 s8 s9 s10 s11 s12 s13 s14 s15 s16 s17 s18 s19 s20 s21 s22 s23 s24 s25 : Value) (H : AHeap) (k : Value → AHeap → Prop) : L109x0 (n0 + 1) k [s0, s1, s2, s3, s4, s5, s6, s7, s8,
  s9, s10, s11, s12, s13, s14, s15, s16, s17, s18, s19, s20, s21, s22, s23, s24, s25] H = (@bnd (aBin2 Tryz.prog H BinOp.add 3 (Operand.tmp 8) (Operand.tmp 9) s1 s7) ⟨fun v10x1 => @bnd (aLen Tryz.prog H 9 s0) ⟨fun v12x2 => @bnd
  (aBin2 Tryz.prog H BinOp.lss 3 (Operand.tmp 10) (Operand.tmp 12) v10x1 v12x2) ⟨fun v13x3 => @bnd (gif v13x3 true ((some s2)) undef) ⟨fun v15x4 => @bnd (gif v13x3 true ((some s0)) undef) ⟨fun v16x5 => @bnd (gif v13x3 true ((some
  s1)) undef) ⟨fun v17x6 => @bnd (gif v13x3 true ((some s7)) undef) ⟨fun v18x7 => @bnd (gif v13x3 true (aBin2 Tryz.prog H BinOp.add 3 (Operand.tmp 17) (Operand.tmp 18) v17x6 v18x7) undef) ⟨fun v19x8 => @bnd (gif v13x3 true
  (aIndex Tryz.prog 9 v16x5 v19x8) undef) ⟨fun v20x9 => @bndG v13x3 true H ⟨fun v21x10 H11 => callV Tryz.prog v15x4 [v20x9] H v21x10 H11⟩ ⟨fun v21x10 H11 => @bnd (pickV v13x3 v21x10 (Value.bool false)) ⟨fun v22x12 => @kifB v22x12
  ⟨@bnd (aBin2 Tryz.prog H11 BinOp.add 3 (Operand.tmp 23) (Operand.const (Value.int IntKind.i64 1)) s7 (Value.int IntKind.i64 1)) ⟨fun v24x13 => L109x0 n0  k [s0, s1, s2, s3, s4, s5, s6, v24x13, s1, s7, v10x1, s0, v12x2, v13x3,
  v13x3, v15x4, v16x5, v17x6, v18x7, v19x8, v20x9, v21x10, v22x12, s7, v24x13, s25] H11⟩⟩ ⟨k s7 H11⟩⟩⟩⟩⟩⟩⟩⟩⟩⟩⟩⟩) := by kernel_rfl
-- tocsin/lex.skip$1
theorem d110 (a0 : Value) (H : AHeap) (k : Value → AHeap → Prop) : kbody Tryz.prog Tryz.f110 [a0] H k = (@bnd (aBin2 Tryz.prog H BinOp.neq 5 (Operand.tmp 3) (Operand.const (Value.int IntKind.u8 10)) a0 (Value.int IntKind.u8 10))
  ⟨fun v4x1 => k v4x1 H⟩) := by kernel_rfl
-- tocsin/lex.letter
theorem d111 (a0 : Value) (H : AHeap) (k : Value → AHeap → Prop) : kbody Tryz.prog Tryz.f111 [a0] H k = (@bnd (aBin2 Tryz.prog H BinOp.geq 5 (Operand.tmp 3) (Operand.const (Value.int IntKind.u8 97)) a0 (Value.int IntKind.u8 97))
  ⟨fun v4x1 => @bnd (gif v4x1 true ((some a0)) undef) ⟨fun v6x2 => @bnd (gif v4x1 true (aBin2 Tryz.prog H BinOp.leq 5 (Operand.tmp 6) (Operand.const (Value.int IntKind.u8 122)) v6x2 (Value.int IntKind.u8 122)) undef) ⟨fun v7x3 =>
  @bnd (pickV v4x1 v7x3 (Value.bool false)) ⟨fun v8x4 => k v8x4 H⟩⟩⟩⟩) := by kernel_rfl
-- tocsin/lex.mark
theorem d112 (a0 : Value) (H : AHeap) (k : Value → AHeap → Prop) : kbody Tryz.prog Tryz.f112 [a0] H k = (@bndC Tryz.prog 111 [a0] H ⟨fun v4x1 H2 => @bnd (gif v4x1 false ((some a0)) undef) ⟨fun v6x3 => @bndG v4x1 false H2 ⟨fun
  v7x4 H5 => ACalls Tryz.prog 113 [v6x3] H2 v7x4 H5⟩ ⟨fun v7x4 H5 => @bnd (pickV v4x1 (Value.bool true) v7x4) ⟨fun v8x6 => @bnd (gif v8x6 false ((some a0)) undef) ⟨fun v10x7 => @bnd (gif v8x6 false (aBin2 Tryz.prog H5 BinOp.eql 5
  (Operand.tmp 10) (Operand.const (Value.int IntKind.u8 95)) v10x7 (Value.int IntKind.u8 95)) undef) ⟨fun v11x8 => @bnd (pickV v8x6 (Value.bool true) v11x8) ⟨fun v12x9 => k v12x9 H5⟩⟩⟩⟩⟩⟩⟩) := by kernel_rfl
-- tocsin/lex.digit
theorem d113 (a0 : Value) (H : AHeap) (k : Value → AHeap → Prop) : kbody Tryz.prog Tryz.f113 [a0] H k = (@bnd (aBin2 Tryz.prog H BinOp.geq 5 (Operand.tmp 3) (Operand.const (Value.int IntKind.u8 48)) a0 (Value.int IntKind.u8 48))
  ⟨fun v4x1 => @bnd (gif v4x1 true ((some a0)) undef) ⟨fun v6x2 => @bnd (gif v4x1 true (aBin2 Tryz.prog H BinOp.leq 5 (Operand.tmp 6) (Operand.const (Value.int IntKind.u8 57)) v6x2 (Value.int IntKind.u8 57)) undef) ⟨fun v7x3 =>
  @bnd (pickV v4x1 v7x3 (Value.bool false)) ⟨fun v8x4 => k v8x4 H⟩⟩⟩⟩) := by kernel_rfl
-- tocsin/lex.text
def L114x0 (n : Nat) (k : Value → AHeap → Prop) (sl : List Value) (H : AHeap) : Prop := kit Tryz.prog (cl (cl (cr (cl (cr (cr (cb Tryz.f114))))))) n (kblk 0 (kseq Tryz.prog (cr (cr (cr (cb Tryz.f114)))) (kfin Tryz.prog Tryz.f114
  k))) .normal sl H
def S114x0 (n0 : Nat) (k : Value → AHeap → Prop) (sl : List Value) (H : AHeap) : Prop := kseq Tryz.prog (cr (cl (cl (cr (cl (cl (cr (cl (cr (cr (cb Tryz.f114))))))))))) (kblk 1 (kseq Tryz.prog (cr (cr (cl (cl (cr (cl (cr (cr (cb
  Tryz.f114))))))))) (kit Tryz.prog (cl (cl (cr (cl (cr (cr (cb Tryz.f114))))))) n0 (kblk 0 (kseq Tryz.prog (cr (cr (cr (cb Tryz.f114)))) (kfin Tryz.prog Tryz.f114 k)))))) .normal sl H
theorem d114 (a0 a1 : Value) (H : AHeap) (k : Value → AHeap → Prop) : kbody Tryz.prog Tryz.f114 [a0, a1] H k = (@bndE (aAlloc Tryz.prog H 102) ⟨fun v6x1 H2 => @bnd (aBin2 Tryz.prog H2 BinOp.add 3 (Operand.tmp 8) (Operand.const
  (Value.int IntKind.i64 1)) a1 (Value.int IntKind.i64 1)) ⟨fun v9x3 => ∃ n, L114x0 n  k [a0, a1, undef, undef, (Value.string { data := #[] }), (Value.int IntKind.i64 0), v6x1, v9x3, a1, v9x3, undef, undef, undef, undef, undef,
  undef, undef, undef, undef, undef, undef, undef, undef, undef, undef, undef, undef, undef, undef, undef, undef, undef, undef, undef, undef, undef, undef, undef, undef, undef, undef, undef, undef, undef, undef, undef, undef,
  undef, undef, undef, undef, undef, undef, undef, undef, undef, undef, undef, undef, undef, undef, undef, undef, undef, undef, undef, undef, undef, undef, undef, undef, undef, undef, undef, undef] H2⟩⟩) := by kernel_rfl
theorem L114x0q (n0 : Nat) (s0 s1 s2 s3 s4 s5 s6 s7 s8 s9 s10 s11 s12 s13 s14 s15 s16 s17 s18 s19 s20 s21 s22 s23 s24 s25 s26 s27 s28 s29 s30 s31 s32 s33 s34 s35 s36 s37 s38 s39 s40 s41 s42 s43 s44 s45 s46 s47 s48 s49 s50 s51 s52
  s53 s54 s55 s56 s57 s58 s59 s60 s61 s62 s63 s64 s65 s66 s67 s68 s69 s70 s71 s72 s73 s74 : Value) (H : AHeap) (k : Value → AHeap → Prop) : L114x0 (n0 + 1) k [s0, s1, s2, s3, s4, s5, s6, s7, s8, s9, s10, s11, s12, s13, s14, s15,
  s16, s17, s18, s19, s20, s21, s22, s23, s24, s25, s26, s27, s28, s29, s30, s31, s32, s33, s34, s35, s36, s37, s38, s39, s40, s41, s42, s43, s44, s45, s46, s47, s48, s49, s50, s51, s52, s53, s54, s55, s56, s57, s58, s59, s60,
  s61, s62, s63, s64, s65, s66, s67, s68, s69, s70, s71, s72, s73, s74] H = (@bnd (aLen Tryz.prog H 9 s0) ⟨fun v12x4 => @bnd (aBin2 Tryz.prog H BinOp.lss 3 (Operand.tmp 10) (Operand.tmp 12) s7 v12x4) ⟨fun v13x5 => @bnd (gif v13x5
  true ((some s0)) undef) ⟨fun v15x6 => @bnd (gif v13x5 true ((some s7)) undef) ⟨fun v16x7 => @bnd (gif v13x5 true (aIndex Tryz.prog 9 v15x6 v16x7) undef) ⟨fun v17x8 => @bnd (gif v13x5 true (aBin2 Tryz.prog H BinOp.geq 5
  (Operand.tmp 17) (Operand.const (Value.int IntKind.u8 32)) v17x8 (Value.int IntKind.u8 32)) undef) ⟨fun v18x9 => @bnd (pickV v13x5 v18x9 (Value.bool false)) ⟨fun v19x10 => @bnd (gif v19x10 true ((some s0)) undef) ⟨fun v21x11 =>
  @bnd (gif v19x10 true ((some s7)) undef) ⟨fun v22x12 => @bnd (gif v19x10 true (aIndex Tryz.prog 9 v21x11 v22x12) undef) ⟨fun v23x13 => @bnd (gif v19x10 true (aBin2 Tryz.prog H BinOp.leq 5 (Operand.tmp 23) (Operand.const
  (Value.int IntKind.u8 126)) v23x13 (Value.int IntKind.u8 126)) undef) ⟨fun v24x14 => @bnd (pickV v19x10 v24x14 (Value.bool false)) ⟨fun v25x15 => @kifB v25x15 ⟨@bnd (aIndex Tryz.prog 9 s0 s7) ⟨fun v31x16 => @bnd (aBin2
  Tryz.prog H BinOp.eql 5 (Operand.tmp 31) (Operand.const (Value.int IntKind.u8 34)) v31x16 (Value.int IntKind.u8 34)) ⟨fun v32x17 => @kifB v32x17 ⟨@bndC Tryz.prog 58 [s6] H ⟨fun v33x18 H19 => @bnd (aBin2 Tryz.prog H19 BinOp.add
  3 (Operand.tmp 34) (Operand.const (Value.int IntKind.i64 1)) s7 (Value.int IntKind.i64 1)) ⟨fun v35x20 => @bnd (aBin2 Tryz.prog H19 BinOp.sub 3 (Operand.tmp 35) (Operand.tmp 36) v35x20 s1) ⟨fun v37x21 => k (.tuple #[v33x18,
  v37x21]) H19⟩⟩⟩⟩ ⟨@bnd (aIndex Tryz.prog 9 s0 s7) ⟨fun v41x22 => @bnd (aBin2 Tryz.prog H BinOp.eql 5 (Operand.tmp 41) (Operand.const (Value.int IntKind.u8 92)) v41x22 (Value.int IntKind.u8 92)) ⟨fun v42x23 => @bnd (gif v42x23
  true ((some s7)) undef) ⟨fun v44x24 => @bnd (gif v42x23 true (aBin2 Tryz.prog H BinOp.add 3 (Operand.tmp 44) (Operand.const (Value.int IntKind.i64 1)) v44x24 (Value.int IntKind.i64 1)) undef) ⟨fun v45x25 => @bnd (gif v42x23
  true ((some s0)) undef) ⟨fun v46x26 => @bnd (gif v42x23 true (aLen Tryz.prog H 9 v46x26) undef) ⟨fun v47x27 => @bnd (gif v42x23 true (aBin2 Tryz.prog H BinOp.lss 3 (Operand.tmp 45) (Operand.tmp 47) v45x25 v47x27) undef) ⟨fun
  v48x28 => @bnd (pickV v42x23 v48x28 (Value.bool false)) ⟨fun v49x29 => @bnd (gif v49x29 true ((some s0)) undef) ⟨fun v51x30 => @bnd (gif v49x29 true ((some s7)) undef) ⟨fun v52x31 => @bnd (gif v49x29 true (aBin2 Tryz.prog H
  BinOp.add 3 (Operand.tmp 52) (Operand.const (Value.int IntKind.i64 1)) v52x31 (Value.int IntKind.i64 1)) undef) ⟨fun v53x32 => @bnd (gif v49x29 true (aIndex Tryz.prog 9 v51x30 v53x32) undef) ⟨fun v54x33 => @bnd (gif v49x29 true
  (aBin2 Tryz.prog H BinOp.eql 5 (Operand.tmp 54) (Operand.const (Value.int IntKind.u8 34)) v54x33 (Value.int IntKind.u8 34)) undef) ⟨fun v55x34 => @bnd (gif v49x29 true ((some v55x34)) undef) ⟨fun v56x35 => @bnd (gif v56x35
  false ((some s0)) undef) ⟨fun v57x36 => @bnd (gif v56x35 false ((some s7)) undef) ⟨fun v58x37 => @bnd (gif v56x35 false (aBin2 Tryz.prog H BinOp.add 3 (Operand.tmp 58) (Operand.const (Value.int IntKind.i64 1)) v58x37 (Value.int
  IntKind.i64 1)) undef) ⟨fun v59x38 => @bnd (gif v56x35 false (aIndex Tryz.prog 9 v57x36 v59x38) undef) ⟨fun v60x39 => @bnd (gif v56x35 false (aBin2 Tryz.prog H BinOp.eql 5 (Operand.tmp 60) (Operand.const (Value.int IntKind.u8
  92)) v60x39 (Value.int IntKind.u8 92)) undef) ⟨fun v61x40 => @bnd (gif v49x29 true (pickV v56x35 (Value.bool true) v61x40) undef) ⟨fun v62x41 => @bnd (pickV v49x29 v62x41 (Value.bool false)) ⟨fun v63x42 => @kifB v63x42 ⟨@bnd
  (aBin2 Tryz.prog H BinOp.add 3 (Operand.tmp 64) (Operand.const (Value.int IntKind.i64 1)) s7 (Value.int IntKind.i64 1)) ⟨fun v65x43 => S114x0 n0 k [s0, s1, s2, s3, s4, s5, s6, v65x43, s8, s9, s7, s0, v12x4, v13x5, v13x5, v15x6,
  v16x7, v17x8, v18x9, v19x10, v19x10, v21x11, v22x12, v23x13, v24x14, v25x15, s26, s27, v32x17, s0, s7, v31x16, v32x17, s33, s34, s35, s36, s37, v63x42, s0, s7, v41x22, v42x23, v42x23, v44x24, v45x25, v46x26, v47x27, v48x28,
  v49x29, v49x29, v51x30, v52x31, v53x32, v54x33, v55x34, v56x35, v57x36, v58x37, v59x38, v60x39, v61x40, v62x41, v63x42, s7, v65x43, s66, s67, s68, s69, s70, s71, s72, s73, s74] H⟩⟩ ⟨@bnd (aIndex Tryz.prog 9 s0 s7) ⟨fun v69x44
  => @bnd (aBin2 Tryz.prog H BinOp.eql 5 (Operand.tmp 69) (Operand.const (Value.int IntKind.u8 92)) v69x44 (Value.int IntKind.u8 92)) ⟨fun v70x45 => @kifB v70x45 ⟨k (.tuple #[(Value.string { data := #[] }), (Value.int IntKind.i64
  0)]) H⟩ ⟨S114x0 n0 k [s0, s1, s2, s3, s4, s5, s6, s7, s8, s9, s7, s0, v12x4, v13x5, v13x5, v15x6, v16x7, v17x8, v18x9, v19x10, v19x10, v21x11, v22x12, v23x13, v24x14, v25x15, s26, s27, v32x17, s0, s7, v31x16, v32x17, s33, s34,
  s35, s36, s37, v63x42, s0, s7, v41x22, v42x23, v42x23, v44x24, v45x25, v46x26, v47x27, v48x28, v49x29, v49x29, v51x30, v52x31, v53x32, v54x33, v55x34, v56x35, v57x36, v58x37, v59x38, v60x39, v61x40, v62x41, v63x42, s64, s65,
  v70x45, s0, s7, v69x44, v70x45, s71, s72, s73, s74] H⟩⟩⟩⟩⟩⟩⟩⟩⟩⟩⟩⟩⟩⟩⟩⟩⟩⟩⟩⟩⟩⟩⟩⟩⟩⟩⟩⟩⟩ ⟨k (.tuple #[(Value.string { data := #[] }), (Value.int IntKind.i64 0)]) H⟩⟩⟩⟩⟩⟩⟩⟩⟩⟩⟩⟩⟩) := by kernel_rfl
theorem S114x0q (n0 : Nat) (s0 s1 s2 s3 s4 s5 s6 s7 s8 s9 s10 s11 s12 s13 s14 s15 s16 s17 s18 s19 s20 s21 s22 s23 s24 s25 s26 s27 s28 s29 s30 s31 s32 s33 s34 s35 s36 s37 s38 s39 s40 s41 s42 s43 s44 s45 s46 s47 s48 s49 s50 s51 s52
  s53 s54 s55 s56 s57 s58 s59 s60 s61 s62 s63 s64 s65 s66 s67 s68 s69 s70 s71 s72 s73 s74 : Value) (H : AHeap) (k : Value → AHeap → Prop) : S114x0 n0 k [s0, s1, s2, s3, s4, s5, s6, s7, s8, s9, s10, s11, s12, s13, s14, s15, s16,
  s17, s18, s19, s20, s21, s22, s23, s24, s25, s26, s27, s28, s29, s30, s31, s32, s33, s34, s35, s36, s37, s38, s39, s40, s41, s42, s43, s44, s45, s46, s47, s48, s49, s50, s51, s52, s53, s54, s55, s56, s57, s58, s59, s60, s61,
  s62, s63, s64, s65, s66, s67, s68, s69, s70, s71, s72, s73, s74] H = (@bnd (aIndex Tryz.prog 9 s0 s7) ⟨fun v73x46 => @bndC Tryz.prog 103 [s6, v73x46] H ⟨fun v74x47 H48 => @bnd (aBin2 Tryz.prog H48 BinOp.add 3 (Operand.tmp 26)
  (Operand.const (Value.int IntKind.i64 1)) s7 (Value.int IntKind.i64 1)) ⟨fun v27x49 => L114x0 n0  k [s0, s1, s2, s3, s4, s5, s6, v27x49, s8, s9, s10, s11, s12, s13, s14, s15, s16, s17, s18, s19, s20, s21, s22, s23, s24, s25,
  s7, v27x49, s28, s29, s30, s31, s32, s33, s34, s35, s36, s37, s38, s39, s40, s41, s42, s43, s44, s45, s46, s47, s48, s49, s50, s51, s52, s53, s54, s55, s56, s57, s58, s59, s60, s61, s62, s63, s64, s65, s66, s67, s68, s69, s70,
  s0, s7, v73x46, v74x47] H48⟩⟩⟩) := by kernel_rfl
-- tocsin/lex.sign
theorem d115 (a0 a1 : Value) (H : AHeap) (k : Value → AHeap → Prop) : kbody Tryz.prog Tryz.f115 [a0, a1] H k = (@bnd (aBin2 Tryz.prog H BinOp.add 3 (Operand.tmp 5) (Operand.const (Value.int IntKind.i64 1)) a1 (Value.int
  IntKind.i64 1)) ⟨fun v6x1 => @bnd (aLen Tryz.prog H 9 a0) ⟨fun v8x2 => @bnd (aBin2 Tryz.prog H BinOp.lss 3 (Operand.tmp 6) (Operand.tmp 8) v6x1 v8x2) ⟨fun v9x3 => @bnd (gif v9x3 true ((some a0)) undef) ⟨fun v11x4 => @bnd (gif
  v9x3 true ((some a1)) undef) ⟨fun v12x5 => @bnd (gif v9x3 true (aBin2 Tryz.prog H BinOp.add 3 (Operand.tmp 12) (Operand.const (Value.int IntKind.i64 1)) v12x5 (Value.int IntKind.i64 1)) undef) ⟨fun v13x6 => @bnd (gif v9x3 true
  (aIndex Tryz.prog 9 v11x4 v13x6) undef) ⟨fun v14x7 => @bnd (gif v9x3 true (aBin2 Tryz.prog H BinOp.eql 5 (Operand.tmp 14) (Operand.const (Value.int IntKind.u8 61)) v14x7 (Value.int IntKind.u8 61)) undef) ⟨fun v15x8 => @bnd
  (pickV v9x3 v15x8 (Value.bool false)) ⟨fun v16x9 => @bnd (gif v16x9 true ((some a0)) undef) ⟨fun v18x10 => @bnd (gif v16x9 true ((some a1)) undef) ⟨fun v19x11 => @bnd (gif v16x9 true (aIndex Tryz.prog 9 v18x10 v19x11) undef)
  ⟨fun v20x12 => @bndG v16x9 true H ⟨fun v21x13 H14 => ACalls Tryz.prog 108 [(Value.string { data := #[60, 62, 61, 33, 94] }), v20x12] H v21x13 H14⟩ ⟨fun v21x13 H14 => @bnd (gif v16x9 true (aBin2 Tryz.prog H14 BinOp.geq 3
  (Operand.tmp 21) (Operand.const (Value.int IntKind.i64 0)) v21x13 (Value.int IntKind.i64 0)) undef) ⟨fun v22x15 => @bnd (pickV v16x9 v22x15 (Value.bool false)) ⟨fun v23x16 => @kifB v23x16 ⟨k (Value.int IntKind.i64 2) H14⟩ ⟨@bnd
  (aIndex Tryz.prog 9 a0 a1) ⟨fun v26x17 => @bndC Tryz.prog 108 [(Value.string { data := #[123, 125, 40, 41, 91, 93, 44, 58, 59, 61, 60, 62, 45] }), v26x17] H14 ⟨fun v27x18 H19 => @bnd (aBin2 Tryz.prog H19 BinOp.geq 3
  (Operand.tmp 27) (Operand.const (Value.int IntKind.i64 0)) v27x18 (Value.int IntKind.i64 0)) ⟨fun v28x20 => @kifB v28x20 ⟨k (Value.int IntKind.i64 1) H19⟩ ⟨k (Value.int IntKind.i64 0) H19⟩⟩⟩⟩⟩⟩⟩⟩⟩⟩⟩⟩⟩⟩⟩⟩⟩⟩⟩⟩) := by kernel_rfl
-- tocsin/expr.named
def L116x0 (n : Nat) (k : Value → AHeap → Prop) (sl : List Value) (H : AHeap) : Prop := kit Tryz.prog (cl (cl (cr (cl (cr (cr (cb Tryz.f116))))))) n (kblk 0 (kseq Tryz.prog (cr (cr (cr (cb Tryz.f116)))) (kfin Tryz.prog Tryz.f116
  k))) .normal sl H
theorem d116 (a0 : Value) (H : AHeap) (k : Value → AHeap → Prop) : kbody Tryz.prog Tryz.f116 [a0] H k = (@bndE (some (Value.map (some H.length), H ++ [AObj.map []])) ⟨fun v6x1 H2 => @bnd (aLen Tryz.prog H2 32 a0) ⟨fun v8x3 => ∃
  n, L116x0 n  k [a0, undef, (Value.map none), v6x1, undef, undef, v6x1, a0, v8x3, (Value.int IntKind.i64 0), undef, undef, undef, undef, undef, undef, undef, undef, undef] H2⟩⟩) := by kernel_rfl
theorem L116x0q (n0 : Nat) (s0 s1 s2 s3 s4 s5 s6 s7 s8 s9 s10 s11 s12 s13 s14 s15 s16 s17 s18 : Value) (H : AHeap) (k : Value → AHeap → Prop) : L116x0 (n0 + 1) k [s0, s1, s2, s3, s4, s5, s6, s7, s8, s9, s10, s11, s12, s13, s14,
  s15, s16, s17, s18] H = (@bnd (aBin2 Tryz.prog H BinOp.lss 3 (Operand.tmp 9) (Operand.tmp 8) s9 s8) ⟨fun v10x4 => @kifB v10x4 ⟨@bnd (aIndexAddr Tryz.prog H 32 s7 s9) ⟨fun v12x5 => @bnd (aLoad Tryz.prog H 9 v12x5) ⟨fun v13x6 =>
  @bndS (aUpdate Tryz.prog H 93 s3 v13x6 s9) ⟨fun _ H8 => @bnd (aBin2 Tryz.prog H8 BinOp.add 3 (Operand.tmp 9) (Operand.const (Value.int IntKind.i64 1)) s9 (Value.int IntKind.i64 1)) ⟨fun v17x9 => L116x0 n0  k [s0, s1, s2, s3,
  s9, v13x6, s6, s7, s8, v17x9, v10x4, s9, v12x5, v13x6, s3, v13x6, s9, v17x9, s18] H8⟩⟩⟩⟩⟩ ⟨k s3 H⟩⟩) := by kernel_rfl

end Go.Vi
namespace Go.Vi
open Go Go.Proofs
-- (*tocsin/expr.reader).take
theorem d117 (a0 a1 : Value) (H : AHeap) (k : Value → AHeap → Prop) : kbody Tryz.prog Tryz.f117 [a0, a1] H k = (@bnd (nilV a0) ⟨fun v6x1 => @bnd (aFieldAddr Tryz.prog H 89 v6x1 2) ⟨fun v7x2 => @bnd (aLoad Tryz.prog H 4 v7x2) ⟨fun
  v8x3 => @bnd (unV Tryz.prog UnOp.not v8x3) ⟨fun v9x4 => @bnd (gif v9x4 false ((some a0)) undef) ⟨fun v11x5 => @bnd (gif v9x4 false (nilV v11x5) undef) ⟨fun v12x6 => @bnd (gif v9x4 false (aFieldAddr Tryz.prog H 89 v12x6 1)
  undef) ⟨fun v13x7 => @bnd (gif v9x4 false (aLoad Tryz.prog H 3 v13x7) undef) ⟨fun v14x8 => @bnd (gif v9x4 false ((some a0)) undef) ⟨fun v15x9 => @bnd (gif v9x4 false (nilV v15x9) undef) ⟨fun v16x10 => @bnd (gif v9x4 false
  (aFieldAddr Tryz.prog H 89 v16x10 0) undef) ⟨fun v17x11 => @bnd (gif v9x4 false (aLoad Tryz.prog H 82 v17x11) undef) ⟨fun v18x12 => @bnd (gif v9x4 false (aLen Tryz.prog H 82 v18x12) undef) ⟨fun v19x13 => @bnd (gif v9x4 false
  (aBin2 Tryz.prog H BinOp.geq 3 (Operand.tmp 14) (Operand.tmp 19) v14x8 v19x13) undef) ⟨fun v20x14 => @bnd (pickV v9x4 (Value.bool true) v20x14) ⟨fun v21x15 => @bnd (gif v21x15 false ((some a0)) undef) ⟨fun v23x16 => @bnd (gif
  v21x15 false (nilV v23x16) undef) ⟨fun v24x17 => @bnd (gif v21x15 false (aFieldAddr Tryz.prog H 89 v24x17 0) undef) ⟨fun v25x18 => @bnd (gif v21x15 false (aLoad Tryz.prog H 82 v25x18) undef) ⟨fun v26x19 => @bnd (gif v21x15
  false ((some a0)) undef) ⟨fun v27x20 => @bnd (gif v21x15 false (nilV v27x20) undef) ⟨fun v28x21 => @bnd (gif v21x15 false (aFieldAddr Tryz.prog H 89 v28x21 1) undef) ⟨fun v29x22 => @bnd (gif v21x15 false (aLoad Tryz.prog H 3
  v29x22) undef) ⟨fun v30x23 => @bnd (gif v21x15 false (aIndexAddr Tryz.prog H 82 v26x19 v30x23) undef) ⟨fun v31x24 => @bnd (gif v21x15 false (aFieldAddr Tryz.prog H 121 v31x24 0) undef) ⟨fun v32x25 => @bnd (gif v21x15 false
  (aLoad Tryz.prog H 5 v32x25) undef) ⟨fun v33x26 => @bnd (gif v21x15 false ((some a1)) undef) ⟨fun v34x27 => @bnd (gif v21x15 false (aBin2 Tryz.prog H BinOp.neq 5 (Operand.tmp 33) (Operand.tmp 34) v33x26 v34x27) undef) ⟨fun
  v35x28 => @bnd (pickV v21x15 (Value.bool true) v35x28) ⟨fun v36x29 => @kifB v36x29 ⟨@bnd (nilV a0) ⟨fun v38x30 => @bnd (aFieldAddr Tryz.prog H 89 v38x30 2) ⟨fun v39x31 => @bndS (aStore Tryz.prog H 4 v39x31 (Value.bool false))
  ⟨fun _ H33 => k (Value.string { data := #[] }) H33⟩⟩⟩⟩ ⟨@bnd (nilV a0) ⟨fun v41x34 => @bnd (aFieldAddr Tryz.prog H 89 v41x34 1) ⟨fun v42x35 => @bnd (aLoad Tryz.prog H 3 v42x35) ⟨fun v43x36 => @bnd (aBin2 Tryz.prog H BinOp.add 3
  (Operand.tmp 43) (Operand.const (Value.int IntKind.i64 1)) v43x36 (Value.int IntKind.i64 1)) ⟨fun v44x37 => @bnd (nilV a0) ⟨fun v45x38 => @bnd (aFieldAddr Tryz.prog H 89 v45x38 1) ⟨fun v46x39 => @bndS (aStore Tryz.prog H 3
  v46x39 v44x37) ⟨fun _ H41 => @bnd (nilV a0) ⟨fun v48x42 => @bnd (aFieldAddr Tryz.prog H41 89 v48x42 0) ⟨fun v49x43 => @bnd (aLoad Tryz.prog H41 82 v49x43) ⟨fun v50x44 => @bnd (nilV a0) ⟨fun v52x45 => @bnd (aFieldAddr Tryz.prog
  H41 89 v52x45 1) ⟨fun v53x46 => @bnd (aLoad Tryz.prog H41 3 v53x46) ⟨fun v54x47 => @bnd (aBin2 Tryz.prog H41 BinOp.sub 3 (Operand.tmp 54) (Operand.const (Value.int IntKind.i64 1)) v54x47 (Value.int IntKind.i64 1)) ⟨fun v55x48
  => @bnd (aIndexAddr Tryz.prog H41 82 v50x44 v55x48) ⟨fun v56x49 => @bnd (aFieldAddr Tryz.prog H41 121 v56x49 1) ⟨fun v57x50 => @bnd (aLoad Tryz.prog H41 9 v57x50) ⟨fun v58x51 => k v58x51
  H41⟩⟩⟩⟩⟩⟩⟩⟩⟩⟩⟩⟩⟩⟩⟩⟩⟩⟩⟩⟩⟩⟩⟩⟩⟩⟩⟩⟩⟩⟩⟩⟩⟩⟩⟩⟩⟩⟩⟩⟩⟩⟩⟩⟩⟩⟩⟩) := by kernel_rfl
-- strconv.Atoi
theorem d119 (a0 : Value) (H : AHeap) (k : Value → AHeap → Prop) : kbody Tryz.prog Tryz.f119 [a0] H k = (@bndC Tryz.prog 132 [a0] H ⟨fun v8x1 H2 => @bnd (tupV v8x1 0) ⟨fun v9x3 => @bnd (tupV v8x1 1) ⟨fun v10x4 => @bnd (aBin2
  Tryz.prog H2 BinOp.neq 105 (Operand.tmp 11) (Operand.const Value.nilIface) v10x4 Value.nilIface) ⟨fun v12x5 => @kifB v12x5 ⟨@bndC Tryz.prog 133 [(Value.string { data := #[65, 116, 111, 105] }), a0, (Value.int IntKind.i64 0),
  (Value.int IntKind.i64 0), v10x4] H2 ⟨fun v16x6 H7 => k (.tuple #[v9x3, v16x6]) H7⟩⟩ ⟨k (.tuple #[v9x3, Value.nilIface]) H2⟩⟩⟩⟩⟩) := by kernel_rfl
-- tocsin/fixed.Parse
def L120x0 (n : Nat) (k : Value → AHeap → Prop) (sl : List Value) (H : AHeap) : Prop := kit Tryz.prog (cl (cl (cr (cl (cr (cr (cr (cr (cr (cb Tryz.f120)))))))))) n (kblk 0 (kseq Tryz.prog (cr (cr (cr (cr (cr (cr (cb
  Tryz.f120))))))) (kfin Tryz.prog Tryz.f120 k))) .normal sl H
def S120x0 (k : Value → AHeap → Prop) (sl : List Value) (H : AHeap) : Prop := kseq Tryz.prog (cr (cr (cr (cr (cr (cr (cb Tryz.f120))))))) (kfin Tryz.prog Tryz.f120 k) .normal sl H
def S120x1 (k : Value → AHeap → Prop) (sl : List Value) (H : AHeap) : Prop := kseq Tryz.prog (cr (cr (cr (cr (cr (cr (cr (cb Tryz.f120)))))))) (kfin Tryz.prog Tryz.f120 k) .normal sl H
def B120x0 (n0 : Nat) (k : Value → AHeap → Prop) (sl : List Value) (H : AHeap) : Prop := (kseq Tryz.prog (cr (cr (cl (cl (cr (cr (cl (cl (cr (cl (cr (cr (cr (cr (cr (cb Tryz.f120)))))))))))))))) (kblk 1 (kseq Tryz.prog (cr (cr
  (cr (cl (cl (cr (cl (cr (cr (cr (cr (cr (cb Tryz.f120))))))))))))) (kit Tryz.prog (cl (cl (cr (cl (cr (cr (cr (cr (cr (cb Tryz.f120)))))))))) n0 (kblk 0 (kseq Tryz.prog (cr (cr (cr (cr (cr (cr (cb Tryz.f120))))))) (kfin
  Tryz.prog Tryz.f120 k))))))) (.exit 0) sl H
def B120x1 (n0 : Nat) (k : Value → AHeap → Prop) (sl : List Value) (H : AHeap) : Prop := (kseq Tryz.prog (cr (cr (cl (cl (cr (cl (cr (cr (cr (cr (cr (cb Tryz.f120)))))))))))) (kit Tryz.prog (cl (cl (cr (cl (cr (cr (cr (cr (cr (cb
  Tryz.f120)))))))))) n0 (kblk 0 (kseq Tryz.prog (cr (cr (cr (cr (cr (cr (cb Tryz.f120))))))) (kfin Tryz.prog Tryz.f120 k))))) (.exit 0) sl H
theorem B120x0q (n0 : Nat) (sl : List Value) (H : AHeap) (k : Value → AHeap → Prop) : B120x0 n0 k sl H = S120x0  k sl H := by kernel_rfl
theorem B120x1q (n0 : Nat) (sl : List Value) (H : AHeap) (k : Value → AHeap → Prop) : B120x1 n0 k sl H = S120x0  k sl H := by kernel_rfl
theorem d120 (a0 : Value) (H : AHeap) (k : Value → AHeap → Prop) : kbody Tryz.prog Tryz.f120 [a0] H k = (@bndC Tryz.prog 134 [a0, (Value.string { data := #[45] })] H ⟨fun v14x1 H2 => @bnd (tupV v14x1 0) ⟨fun v15x3 => @bnd (tupV
  v14x1 1) ⟨fun v16x4 => @bndC Tryz.prog 135 [v15x3] H2 ⟨fun v19x5 H6 => @bnd (tupV v19x5 0) ⟨fun v20x7 => @bnd (tupV v19x5 1) ⟨fun v21x8 => @bnd (tupV v19x5 2) ⟨fun v22x9 => @bnd (unV Tryz.prog UnOp.not v22x9) ⟨fun v24x10 =>
  @kifB v24x10 ⟨k (.tuple #[(Value.int IntKind.i64 0), (Value.int IntKind.i64 10)]) H6⟩ ⟨@bnd (aBin2 Tryz.prog H6 BinOp.add 9 (Operand.tmp 25) (Operand.tmp 26) v20x7 v21x8) ⟨fun v27x11 => @bnd (aLen Tryz.prog H6 9 v21x8) ⟨fun
  v29x12 => @bnd (aBin2 Tryz.prog H6 BinOp.sub 3 (Operand.const (Value.int IntKind.i64 3)) (Operand.tmp 29) (Value.int IntKind.i64 3) v29x12) ⟨fun v30x13 => @bndC Tryz.prog 136 [(Value.string { data := #[48] }), v30x13] H6 ⟨fun
  v31x14 H15 => @bnd (aBin2 Tryz.prog H15 BinOp.add 9 (Operand.tmp 27) (Operand.tmp 31) v27x11 v31x14) ⟨fun v32x16 => @bndE (aConv Tryz.prog H15 9 47 v32x16) ⟨fun v33x17 H18 => @bnd (aLen Tryz.prog H18 47 v33x17) ⟨fun v34x19 => ∃
  n, L120x0 n  k [a0, undef, (Value.int IntKind.i64 0), (Value.int IntKind.i64 0), v15x3, v16x4, v20x7, v21x8, v22x9, (Value.int IntKind.i64 0), undef, undef, v14x1, a0, v14x1, v15x3, v16x4, v19x5, v15x3, v19x5, v20x7, v21x8,
  v22x9, v22x9, v24x10, v20x7, v21x8, v27x11, v21x8, v29x12, v30x13, v31x14, v32x16, v33x17, v34x19, (Value.int IntKind.i64 0), undef, undef, undef, undef, undef, undef, undef, undef, undef, undef, undef, undef, undef, undef,
  undef, undef, undef, undef, undef, undef, undef] H18⟩⟩⟩⟩⟩⟩⟩⟩⟩⟩⟩⟩⟩⟩⟩⟩) := by kernel_rfl
theorem L120x0q (n0 : Nat) (s0 s1 s2 s3 s4 s5 s6 s7 s8 s9 s10 s11 s12 s13 s14 s15 s16 s17 s18 s19 s20 s21 s22 s23 s24 s25 s26 s27 s28 s29 s30 s31 s32 s33 s34 s35 s36 s37 s38 s39 s40 s41 s42 s43 s44 s45 s46 s47 s48 s49 s50 s51 s52
  s53 s54 s55 s56 : Value) (H : AHeap) (k : Value → AHeap → Prop) : L120x0 (n0 + 1) k [s0, s1, s2, s3, s4, s5, s6, s7, s8, s9, s10, s11, s12, s13, s14, s15, s16, s17, s18, s19, s20, s21, s22, s23, s24, s25, s26, s27, s28, s29,
  s30, s31, s32, s33, s34, s35, s36, s37, s38, s39, s40, s41, s42, s43, s44, s45, s46, s47, s48, s49, s50, s51, s52, s53, s54, s55, s56] H = (@bnd (aBin2 Tryz.prog H BinOp.lss 3 (Operand.tmp 35) (Operand.tmp 34) s35 s34) ⟨fun
  v36x20 => @kifB v36x20 ⟨@bnd (aIndexAddr Tryz.prog H 47 s33 s35) ⟨fun v37x21 => @bnd (aLoad Tryz.prog H 5 v37x21) ⟨fun v38x22 => @bnd (aBin2 Tryz.prog H BinOp.sub 5 (Operand.tmp 40) (Operand.const (Value.int IntKind.u8 48))
  v38x22 (Value.int IntKind.u8 48)) ⟨fun v41x23 => @bnd (convV Tryz.prog H 5 2 v41x23) ⟨fun v42x24 => @bnd (aBin2 Tryz.prog H BinOp.sub 2 (Operand.const (Value.int IntKind.i64 4611686018427387903)) (Operand.tmp 42) (Value.int
  IntKind.i64 4611686018427387903) v42x24) ⟨fun v43x25 => @bnd (aBin2 Tryz.prog H BinOp.quo 2 (Operand.tmp 43) (Operand.const (Value.int IntKind.i64 10)) v43x25 (Value.int IntKind.i64 10)) ⟨fun v44x26 => @bnd (aBin2 Tryz.prog H
  BinOp.gtr 2 (Operand.tmp 39) (Operand.tmp 44) s9 v44x26) ⟨fun v45x27 => @kifB v45x27 ⟨B120x0 n0 k [s0, s1, s2, s3, s4, s5, s6, s7, s8, (Value.int IntKind.i64 4611686018427387903), s10, v38x22, s12, s13, s14, s15, s16, s17, s18,
  s19, s20, s21, s22, s23, s24, s25, s26, s27, s28, s29, s30, s31, s32, s33, s34, s35, v36x20, v37x21, v38x22, s9, v38x22, v41x23, v42x24, v43x25, v44x26, v45x27, s46, s47, s48, s49, s50, s51, s52, s53, s54, s55, s56] H⟩ ⟨@bnd
  (aBin2 Tryz.prog H BinOp.mul 2 (Operand.const (Value.int IntKind.i64 10)) (Operand.tmp 46) (Value.int IntKind.i64 10) s9) ⟨fun v47x28 => @bnd (aBin2 Tryz.prog H BinOp.sub 5 (Operand.tmp 48) (Operand.const (Value.int IntKind.u8
  48)) v38x22 (Value.int IntKind.u8 48)) ⟨fun v49x29 => @bnd (convV Tryz.prog H 5 2 v49x29) ⟨fun v50x30 => @bnd (aBin2 Tryz.prog H BinOp.add 2 (Operand.tmp 47) (Operand.tmp 50) v47x28 v50x30) ⟨fun v51x31 => @bnd (aBin2 Tryz.prog
  H BinOp.add 3 (Operand.tmp 35) (Operand.const (Value.int IntKind.i64 1)) s35 (Value.int IntKind.i64 1)) ⟨fun v52x32 => L120x0 n0  k [s0, s1, s2, s3, s4, s5, s6, s7, s8, v51x31, s10, v38x22, s12, s13, s14, s15, s16, s17, s18,
  s19, s20, s21, s22, s23, s24, s25, s26, s27, s28, s29, s30, s31, s32, s33, s34, v52x32, v36x20, v37x21, v38x22, s9, v38x22, v41x23, v42x24, v43x25, v44x26, v45x27, s9, v47x28, v38x22, v49x29, v50x30, v51x31, v52x32, s53, s54,
  s55, s56] H⟩⟩⟩⟩⟩⟩⟩⟩⟩⟩⟩⟩⟩⟩ ⟨B120x1 n0 k [s0, s1, s2, s3, s4, s5, s6, s7, s8, s9, s10, s11, s12, s13, s14, s15, s16, s17, s18, s19, s20, s21, s22, s23, s24, s25, s26, s27, s28, s29, s30, s31, s32, s33, s34, s35, v36x20, s37, s38,
  s39, s40, s41, s42, s43, s44, s45, s46, s47, s48, s49, s50, s51, s52, s53, s54, s55, s56] H⟩⟩) := by kernel_rfl
theorem S120x0q (s0 s1 s2 s3 s4 s5 s6 s7 s8 s9 s10 s11 s12 s13 s14 s15 s16 s17 s18 s19 s20 s21 s22 s23 s24 s25 s26 s27 s28 s29 s30 s31 s32 s33 s34 s35 s36 s37 s38 s39 s40 s41 s42 s43 s44 s45 s46 s47 s48 s49 s50 s51 s52 s53 s54
  s55 s56 : Value) (H : AHeap) (k : Value → AHeap → Prop) : S120x0 k [s0, s1, s2, s3, s4, s5, s6, s7, s8, s9, s10, s11, s12, s13, s14, s15, s16, s17, s18, s19, s20, s21, s22, s23, s24, s25, s26, s27, s28, s29, s30, s31, s32, s33,
  s34, s35, s36, s37, s38, s39, s40, s41, s42, s43, s44, s45, s46, s47, s48, s49, s50, s51, s52, s53, s54, s55, s56] H = (@kifB s5 ⟨@bnd (unV Tryz.prog UnOp.neg s9) ⟨fun v55x33 => S120x1  k [s0, s1, s2, s3, s4, s5, s6, s7, s8,
  v55x33, s10, s11, s12, s13, s14, s15, s16, s17, s18, s19, s20, s21, s22, s23, s24, s25, s26, s27, s28, s29, s30, s31, s32, s33, s34, s35, s36, s37, s38, s39, s40, s41, s42, s43, s44, s45, s46, s47, s48, s49, s50, s51, s52, s5,
  s9, v55x33, s56] H⟩⟩ ⟨S120x1  k [s0, s1, s2, s3, s4, s5, s6, s7, s8, s9, s10, s11, s12, s13, s14, s15, s16, s17, s18, s19, s20, s21, s22, s23, s24, s25, s26, s27, s28, s29, s30, s31, s32, s33, s34, s35, s36, s37, s38, s39, s40,
  s41, s42, s43, s44, s45, s46, s47, s48, s49, s50, s51, s52, s5, s54, s55, s56] H⟩) := by kernel_rfl
theorem S120x1q (s0 s1 s2 s3 s4 s5 s6 s7 s8 s9 s10 s11 s12 s13 s14 s15 s16 s17 s18 s19 s20 s21 s22 s23 s24 s25 s26 s27 s28 s29 s30 s31 s32 s33 s34 s35 s36 s37 s38 s39 s40 s41 s42 s43 s44 s45 s46 s47 s48 s49 s50 s51 s52 s53 s54
  s55 s56 : Value) (H : AHeap) (k : Value → AHeap → Prop) : S120x1 k [s0, s1, s2, s3, s4, s5, s6, s7, s8, s9, s10, s11, s12, s13, s14, s15, s16, s17, s18, s19, s20, s21, s22, s23, s24, s25, s26, s27, s28, s29, s30, s31, s32, s33,
  s34, s35, s36, s37, s38, s39, s40, s41, s42, s43, s44, s45, s46, s47, s48, s49, s50, s51, s52, s53, s54, s55, s56] H = (k (.tuple #[s9, (Value.int IntKind.i64 0)]) H) := by kernel_rfl
-- tocsin/match.may
theorem d121 (a0 : Value) (H : AHeap) (k : Value → AHeap → Prop) : kbody Tryz.prog Tryz.f121 [a0] H k = (@bnd (aBin2 Tryz.prog H BinOp.eql 9 (Operand.tmp 3) (Operand.const (Value.string { data := #[] })) a0 (Value.string { data
  := #[] })) ⟨fun v4x1 => @bnd (gif v4x1 false ((some a0)) undef) ⟨fun v6x2 => @bndG v4x1 false H ⟨fun v7x3 H4 => ACalls Tryz.prog 137 [v6x2] H v7x3 H4⟩ ⟨fun v7x3 H4 => @bnd (pickV v4x1 (Value.bool true) v7x3) ⟨fun v8x5 => k v8x5
  H4⟩⟩⟩⟩) := by kernel_rfl
-- internal/stringslite.HasPrefix
theorem d127 (a0 a1 : Value) (H : AHeap) (k : Value → AHeap → Prop) : kbody Tryz.prog Tryz.f127 [a0, a1] H k = (@bnd (aLen Tryz.prog H 9 a0) ⟨fun v6x1 => @bnd (aLen Tryz.prog H 9 a1) ⟨fun v8x2 => @bnd (aBin2 Tryz.prog H BinOp.geq
  3 (Operand.tmp 6) (Operand.tmp 8) v6x1 v8x2) ⟨fun v9x3 => @bnd (gif v9x3 true ((some a0)) undef) ⟨fun v11x4 => @bnd (gif v9x3 true ((some a1)) undef) ⟨fun v12x5 => @bnd (gif v9x3 true (aLen Tryz.prog H 9 v12x5) undef) ⟨fun
  v13x6 => @bnd (gif v9x3 true (aSliceOp Tryz.prog H 9 v11x4 none (some v13x6)) undef) ⟨fun v14x7 => @bnd (gif v9x3 true ((some a1)) undef) ⟨fun v15x8 => @bnd (gif v9x3 true (aBin2 Tryz.prog H BinOp.eql 9 (Operand.tmp 14)
  (Operand.tmp 15) v14x7 v15x8) undef) ⟨fun v16x9 => @bnd (pickV v9x3 v16x9 (Value.bool false)) ⟨fun v17x10 => k v17x10 H⟩⟩⟩⟩⟩⟩⟩⟩⟩⟩) := by kernel_rfl
-- internal/stringslite.IndexByte
theorem d131 (a0 a1 : Value) (H : AHeap) (k : Value → AHeap → Prop) : kbody Tryz.prog Tryz.f131 [a0, a1] H k = (@bndC Tryz.prog 143 [a0, a1] H ⟨fun v7x1 H2 => k v7x1 H2⟩) := by kernel_rfl
-- internal/strconv.Atoi
def S132x0 (k : Value → AHeap → Prop) (sl : List Value) (H : AHeap) : Prop := kseq Tryz.prog (cr (cr (cl (cr (cl (cr (cr (cb Tryz.f132)))))))) (kseq Tryz.prog (cr (cr (cr (cb Tryz.f132)))) (kfin Tryz.prog Tryz.f132 k)) .normal sl
  H
def L132x0 (n : Nat) (k : Value → AHeap → Prop) (sl : List Value) (H : AHeap) : Prop := kit Tryz.prog (cl (cl (cr (cl (cr (cr (cr (cl (cr (cl (cr (cr (cb Tryz.f132))))))))))))) n (kblk 0 (kseq Tryz.prog (cr (cr (cr (cr (cl (cr
  (cl (cr (cr (cb Tryz.f132)))))))))) (kseq Tryz.prog (cr (cr (cr (cb Tryz.f132)))) (kfin Tryz.prog Tryz.f132 k)))) .normal sl H
def S132x1 (k : Value → AHeap → Prop) (sl : List Value) (H : AHeap) : Prop := kseq Tryz.prog (cr (cr (cr (cr (cr (cl (cr (cl (cr (cr (cb Tryz.f132))))))))))) (kseq Tryz.prog (cr (cr (cr (cb Tryz.f132)))) (kfin Tryz.prog Tryz.f132
  k)) .normal sl H
theorem d132 (a0 : Value) (H : AHeap) (k : Value → AHeap → Prop) : kbody Tryz.prog Tryz.f132 [a0] H k = (@bnd (aLen Tryz.prog H 9 a0) ⟨fun v12x1 => @bnd (gif (Value.bool false) true ((some v12x1)) undef) ⟨fun v14x2 => @bnd (gif
  (Value.bool false) true (aBin2 Tryz.prog H BinOp.lss 3 (Operand.const (Value.int IntKind.i64 0)) (Operand.tmp 14) (Value.int IntKind.i64 0) v14x2) undef) ⟨fun v15x3 => @bnd (gif (Value.bool false) true ((some v15x3)) undef)
  ⟨fun v16x4 => @bnd (gif v16x4 true ((some v12x1)) undef) ⟨fun v17x5 => @bnd (gif v16x4 true (aBin2 Tryz.prog H BinOp.lss 3 (Operand.tmp 17) (Operand.const (Value.int IntKind.i64 10)) v17x5 (Value.int IntKind.i64 10)) undef)
  ⟨fun v18x6 => @bnd (gif (Value.bool false) true (pickV v16x4 v18x6 (Value.bool false)) undef) ⟨fun v19x7 => @bnd (pickV (Value.bool false) v19x7 (Value.bool false)) ⟨fun v20x8 => @bnd (gif v20x8 false ((some (Value.bool true)))
  undef) ⟨fun v22x9 => @bnd (gif v22x9 true ((some v12x1)) undef) ⟨fun v23x10 => @bnd (gif v22x9 true (aBin2 Tryz.prog H BinOp.lss 3 (Operand.const (Value.int IntKind.i64 0)) (Operand.tmp 23) (Value.int IntKind.i64 0) v23x10)
  undef) ⟨fun v24x11 => @bnd (gif v22x9 true ((some v24x11)) undef) ⟨fun v25x12 => @bnd (gif v25x12 true ((some v12x1)) undef) ⟨fun v26x13 => @bnd (gif v25x12 true (aBin2 Tryz.prog H BinOp.lss 3 (Operand.tmp 26) (Operand.const
  (Value.int IntKind.i64 19)) v26x13 (Value.int IntKind.i64 19)) undef) ⟨fun v27x14 => @bnd (gif v22x9 true (pickV v25x12 v27x14 (Value.bool false)) undef) ⟨fun v28x15 => @bnd (gif v20x8 false (pickV v22x9 v28x15 (Value.bool
  false)) undef) ⟨fun v29x16 => @bnd (pickV v20x8 (Value.bool true) v29x16) ⟨fun v30x17 => @kifB v30x17 ⟨@bnd (aIndex Tryz.prog 9 a0 (Value.int IntKind.i64 0)) ⟨fun v33x18 => @bnd (aBin2 Tryz.prog H BinOp.eql 5 (Operand.tmp 33)
  (Operand.const (Value.int IntKind.u8 45)) v33x18 (Value.int IntKind.u8 45)) ⟨fun v34x19 => @bnd (gif v34x19 false ((some a0)) undef) ⟨fun v36x20 => @bnd (gif v34x19 false (aIndex Tryz.prog 9 v36x20 (Value.int IntKind.i64 0))
  undef) ⟨fun v37x21 => @bnd (gif v34x19 false (aBin2 Tryz.prog H BinOp.eql 5 (Operand.tmp 37) (Operand.const (Value.int IntKind.u8 43)) v37x21 (Value.int IntKind.u8 43)) undef) ⟨fun v38x22 => @bnd (pickV v34x19 (Value.bool true)
  v38x22) ⟨fun v39x23 => @kifB v39x23 ⟨kx Tryz.prog (cl (cr (cl (cr (cl (cr (cl (cr (cr (cb Tryz.f132)))))))))) [a0, undef, (Value.int IntKind.i64 0), Value.nilIface, v12x1, a0, undef, undef, undef, undef, undef, a0, v12x1,
  (Value.bool false), v14x2, v15x3, v16x4, v17x5, v18x6, v19x7, v20x8, v20x8, v22x9, v23x10, v24x11, v25x12, v26x13, v27x14, v28x15, v29x16, v30x17, a0, a0, v33x18, v34x19, v34x19, v36x20, v37x21, v38x22, v39x23, undef, undef,
  undef, undef, undef, undef, undef, undef, undef, undef, undef, undef, undef, undef, undef, undef, undef, undef, undef, undef, undef, undef, undef, undef, undef, undef, undef, undef, undef, undef, undef, undef, undef, undef,
  undef, undef, undef] H (kseq Tryz.prog (cr (cr (cl (cr (cl (cr (cr (cb Tryz.f132)))))))) (kseq Tryz.prog (cr (cr (cr (cb Tryz.f132)))) (kfin Tryz.prog Tryz.f132 k)))⟩ ⟨S132x0  k [a0, undef, (Value.int IntKind.i64 0),
  Value.nilIface, v12x1, a0, undef, undef, undef, undef, undef, a0, v12x1, (Value.bool false), v14x2, v15x3, v16x4, v17x5, v18x6, v19x7, v20x8, v20x8, v22x9, v23x10, v24x11, v25x12, v26x13, v27x14, v28x15, v29x16, v30x17, a0, a0,
  v33x18, v34x19, v34x19, v36x20, v37x21, v38x22, v39x23, undef, undef, undef, undef, undef, undef, undef, undef, undef, undef, undef, undef, undef, undef, undef, undef, undef, undef, undef, undef, undef, undef, undef, undef,
  undef, undef, undef, undef, undef, undef, undef, undef, undef, undef, undef, undef, undef] H⟩⟩⟩⟩⟩⟩⟩⟩ ⟨@bndC Tryz.prog 144 [a0, (Value.int IntKind.i64 10), (Value.int IntKind.i64 0)] H ⟨fun v72x24 H25 => @bnd (tupV v72x24 0)
  ⟨fun v73x26 => @bnd (tupV v72x24 1) ⟨fun v74x27 => k (.tuple #[v73x26, v74x27]) H25⟩⟩⟩⟩⟩⟩⟩⟩⟩⟩⟩⟩⟩⟩⟩⟩⟩⟩⟩⟩⟩) := by kernel_rfl
theorem S132x0q (s0 s1 s2 s3 s4 s5 s6 s7 s8 s9 s10 s11 s12 s13 s14 s15 s16 s17 s18 s19 s20 s21 s22 s23 s24 s25 s26 s27 s28 s29 s30 s31 s32 s33 s34 s35 s36 s37 s38 s39 s40 s41 s42 s43 s44 s45 s46 s47 s48 s49 s50 s51 s52 s53 s54
  s55 s56 s57 s58 s59 s60 s61 s62 s63 s64 s65 s66 s67 s68 s69 s70 s71 s72 s73 s74 s75 s76 : Value) (H : AHeap) (k : Value → AHeap → Prop) : S132x0 k [s0, s1, s2, s3, s4, s5, s6, s7, s8, s9, s10, s11, s12, s13, s14, s15, s16, s17,
  s18, s19, s20, s21, s22, s23, s24, s25, s26, s27, s28, s29, s30, s31, s32, s33, s34, s35, s36, s37, s38, s39, s40, s41, s42, s43, s44, s45, s46, s47, s48, s49, s50, s51, s52, s53, s54, s55, s56, s57, s58, s59, s60, s61, s62,
  s63, s64, s65, s66, s67, s68, s69, s70, s71, s72, s73, s74, s75, s76] H = (@bndE (aConv Tryz.prog H 9 47 s0) ⟨fun v47x28 H29 => @bnd (aLen Tryz.prog H29 47 v47x28) ⟨fun v48x30 => ∃ n, L132x0 n  k [s0, s1, s2, s3, s4, s5,
  (Value.int IntKind.i64 0), s7, s8, s9, s10, s11, s12, s13, s14, s15, s16, s17, s18, s19, s20, s21, s22, s23, s24, s25, s26, s27, s28, s29, s30, s31, s32, s33, s34, s35, s36, s37, s38, s39, s40, s41, s42, s43, s44, s45, s0,
  v47x28, v48x30, (Value.int IntKind.i64 0), s50, s51, s52, s53, s54, s55, s56, s57, s58, s59, s60, s61, s62, s63, s64, s65, s66, s67, s68, s69, s70, s71, s72, s73, s74, s75, s76] H29⟩⟩) := by kernel_rfl
theorem L132x0q (n0 : Nat) (s0 s1 s2 s3 s4 s5 s6 s7 s8 s9 s10 s11 s12 s13 s14 s15 s16 s17 s18 s19 s20 s21 s22 s23 s24 s25 s26 s27 s28 s29 s30 s31 s32 s33 s34 s35 s36 s37 s38 s39 s40 s41 s42 s43 s44 s45 s46 s47 s48 s49 s50 s51 s52
  s53 s54 s55 s56 s57 s58 s59 s60 s61 s62 s63 s64 s65 s66 s67 s68 s69 s70 s71 s72 s73 s74 s75 s76 : Value) (H : AHeap) (k : Value → AHeap → Prop) : L132x0 (n0 + 1) k [s0, s1, s2, s3, s4, s5, s6, s7, s8, s9, s10, s11, s12, s13,
  s14, s15, s16, s17, s18, s19, s20, s21, s22, s23, s24, s25, s26, s27, s28, s29, s30, s31, s32, s33, s34, s35, s36, s37, s38, s39, s40, s41, s42, s43, s44, s45, s46, s47, s48, s49, s50, s51, s52, s53, s54, s55, s56, s57, s58,
  s59, s60, s61, s62, s63, s64, s65, s66, s67, s68, s69, s70, s71, s72, s73, s74, s75, s76] H = (@bnd (aBin2 Tryz.prog H BinOp.lss 3 (Operand.tmp 49) (Operand.tmp 48) s49 s48) ⟨fun v50x31 => @kifB v50x31 ⟨@bnd (aIndexAddr
  Tryz.prog H 47 s47 s49) ⟨fun v51x32 => @bnd (aLoad Tryz.prog H 5 v51x32) ⟨fun v52x33 => @bnd (aBin2 Tryz.prog H BinOp.sub 5 (Operand.tmp 53) (Operand.const (Value.int IntKind.u8 48)) v52x33 (Value.int IntKind.u8 48)) ⟨fun
  v54x34 => @bnd (aBin2 Tryz.prog H BinOp.gtr 5 (Operand.tmp 55) (Operand.const (Value.int IntKind.u8 9)) v54x34 (Value.int IntKind.u8 9)) ⟨fun v56x35 => @kifB v56x35 ⟨k (.tuple #[(Value.int IntKind.i64 0), (.iface 194 (Value.int
  IntKind.i64 2))]) H⟩ ⟨@bnd (aBin2 Tryz.prog H BinOp.mul 3 (Operand.tmp 58) (Operand.const (Value.int IntKind.i64 10)) s6 (Value.int IntKind.i64 10)) ⟨fun v59x36 => @bnd (convV Tryz.prog H 5 3 v54x34) ⟨fun v61x37 => @bnd (aBin2
  Tryz.prog H BinOp.add 3 (Operand.tmp 59) (Operand.tmp 61) v59x36 v61x37) ⟨fun v62x38 => @bnd (aBin2 Tryz.prog H BinOp.add 3 (Operand.tmp 49) (Operand.const (Value.int IntKind.i64 1)) s49 (Value.int IntKind.i64 1)) ⟨fun v63x39
  => L132x0 n0  k [s0, s1, s2, s3, s4, s5, v62x38, s7, v54x34, s9, s10, s11, s12, s13, s14, s15, s16, s17, s18, s19, s20, s21, s22, s23, s24, s25, s26, s27, s28, s29, s30, s31, s32, s33, s34, s35, s36, s37, s38, s39, s40, s41,
  s42, s43, s44, s45, s46, s47, s48, v63x39, v50x31, v51x32, v52x33, v52x33, v54x34, v54x34, v56x35, s57, s6, v59x36, v54x34, v61x37, v62x38, v63x39, s64, s65, s66, s67, s68, s69, s70, s71, s72, s73, s74, s75, s76] H⟩⟩⟩⟩⟩⟩⟩⟩⟩⟩
  ⟨@bnd (aIndex Tryz.prog 9 s5 (Value.int IntKind.i64 0)) ⟨fun v65x40 => @bnd (aBin2 Tryz.prog H BinOp.eql 5 (Operand.tmp 65) (Operand.const (Value.int IntKind.u8 45)) v65x40 (Value.int IntKind.u8 45)) ⟨fun v66x41 => @kifB v66x41
  ⟨kx Tryz.prog (cl (cr (cl (cr (cr (cr (cr (cl (cr (cl (cr (cr (cb Tryz.f132))))))))))))) [s0, s1, s2, s3, s4, s5, s6, s7, s8, s9, s10, s11, s12, s13, s14, s15, s16, s17, s18, s19, s20, s21, s22, s23, s24, s25, s26, s27, s28,
  s29, s30, s31, s32, s33, s34, s35, s36, s37, s38, s39, s40, s41, s42, s43, s44, s45, s46, s47, s48, s49, v50x31, s51, s52, s53, s54, s55, s56, s57, s58, s59, s60, s61, s62, s63, s5, v65x40, v66x41, s67, s68, s69, s70, s71, s72,
  s73, s74, s75, s76] H (kseq Tryz.prog (cr (cr (cr (cr (cr (cl (cr (cl (cr (cr (cb Tryz.f132))))))))))) (kseq Tryz.prog (cr (cr (cr (cb Tryz.f132)))) (kfin Tryz.prog Tryz.f132 k)))⟩ ⟨S132x1  k [s0, s1, s2, s3, s4, s5, s6, s7,
  s8, s9, s10, s11, s12, s13, s14, s15, s16, s17, s18, s19, s20, s21, s22, s23, s24, s25, s26, s27, s28, s29, s30, s31, s32, s33, s34, s35, s36, s37, s38, s39, s40, s41, s42, s43, s44, s45, s46, s47, s48, s49, v50x31, s51, s52,
  s53, s54, s55, s56, s57, s58, s59, s60, s61, s62, s63, s5, v65x40, v66x41, s67, s68, s69, s70, s71, s72, s73, s74, s75, s76] H⟩⟩⟩⟩⟩) := by kernel_rfl
theorem S132x1q (s0 s1 s2 s3 s4 s5 s6 s7 s8 s9 s10 s11 s12 s13 s14 s15 s16 s17 s18 s19 s20 s21 s22 s23 s24 s25 s26 s27 s28 s29 s30 s31 s32 s33 s34 s35 s36 s37 s38 s39 s40 s41 s42 s43 s44 s45 s46 s47 s48 s49 s50 s51 s52 s53 s54
  s55 s56 s57 s58 s59 s60 s61 s62 s63 s64 s65 s66 s67 s68 s69 s70 s71 s72 s73 s74 s75 s76 : Value) (H : AHeap) (k : Value → AHeap → Prop) : S132x1 k [s0, s1, s2, s3, s4, s5, s6, s7, s8, s9, s10, s11, s12, s13, s14, s15, s16, s17,
  s18, s19, s20, s21, s22, s23, s24, s25, s26, s27, s28, s29, s30, s31, s32, s33, s34, s35, s36, s37, s38, s39, s40, s41, s42, s43, s44, s45, s46, s47, s48, s49, s50, s51, s52, s53, s54, s55, s56, s57, s58, s59, s60, s61, s62,
  s63, s64, s65, s66, s67, s68, s69, s70, s71, s72, s73, s74, s75, s76] H = (k (.tuple #[s6, Value.nilIface]) H) := by kernel_rfl
-- strings.CutPrefix
theorem d134 (a0 a1 : Value) (H : AHeap) (k : Value → AHeap → Prop) : kbody Tryz.prog Tryz.f134 [a0, a1] H k = (@bndC Tryz.prog 149 [a0, a1] H ⟨fun v8x1 H2 => @bnd (tupV v8x1 0) ⟨fun v9x3 => @bnd (tupV v8x1 1) ⟨fun v10x4 => k
  (.tuple #[v9x3, v10x4]) H2⟩⟩⟩) := by kernel_rfl
-- tocsin/fixed.cut
def L135x0 (n : Nat) (k : Value → AHeap → Prop) (sl : List Value) (H : AHeap) : Prop := kit Tryz.prog (cl (cl (cr (cl (cr (cr (cl (cr (cb Tryz.f135))))))))) n (kblk 0 (kseq Tryz.prog (cr (cr (cr (cl (cr (cb Tryz.f135)))))) (kfin
  Tryz.prog Tryz.f135 k))) .normal sl H
def S135x0 (n0 : Nat) (k : Value → AHeap → Prop) (sl : List Value) (H : AHeap) : Prop := kseq Tryz.prog (cr (cr (cl (cl (cr (cr (cl (cl (cr (cl (cr (cr (cl (cr (cb Tryz.f135))))))))))))))) (kblk 1 (kseq Tryz.prog (cr (cr (cr (cl
  (cl (cr (cl (cr (cr (cl (cr (cb Tryz.f135)))))))))))) (kit Tryz.prog (cl (cl (cr (cl (cr (cr (cl (cr (cb Tryz.f135))))))))) n0 (kblk 0 (kseq Tryz.prog (cr (cr (cr (cl (cr (cb Tryz.f135)))))) (kfin Tryz.prog Tryz.f135 k))))))
  .normal sl H
def S135x1 (k : Value → AHeap → Prop) (sl : List Value) (H : AHeap) : Prop := kseq Tryz.prog (cr (cr (cr (cl (cr (cb Tryz.f135)))))) (kfin Tryz.prog Tryz.f135 k) .normal sl H
def S135x2 (n0 : Nat) (k : Value → AHeap → Prop) (sl : List Value) (H : AHeap) : Prop := kseq Tryz.prog (cr (cr (cr (cl (cl (cr (cl (cr (cr (cl (cr (cb Tryz.f135)))))))))))) (kit Tryz.prog (cl (cl (cr (cl (cr (cr (cl (cr (cb
  Tryz.f135))))))))) n0 (kblk 0 (kseq Tryz.prog (cr (cr (cr (cl (cr (cb Tryz.f135)))))) (kfin Tryz.prog Tryz.f135 k)))) .normal sl H
def B135x0 (n0 : Nat) (k : Value → AHeap → Prop) (sl : List Value) (H : AHeap) : Prop := (kblk 2 (kseq Tryz.prog (cr (cr (cl (cl (cr (cr (cl (cl (cr (cl (cr (cr (cl (cr (cb Tryz.f135))))))))))))))) (kblk 1 (kseq Tryz.prog (cr (cr
  (cr (cl (cl (cr (cl (cr (cr (cl (cr (cb Tryz.f135)))))))))))) (kit Tryz.prog (cl (cl (cr (cl (cr (cr (cl (cr (cb Tryz.f135))))))))) n0 (kblk 0 (kseq Tryz.prog (cr (cr (cr (cl (cr (cb Tryz.f135)))))) (kfin Tryz.prog Tryz.f135
  k)))))))) (.exit 0) sl H
def B135x1 (n0 : Nat) (k : Value → AHeap → Prop) (sl : List Value) (H : AHeap) : Prop := (kseq Tryz.prog (cr (cr (cl (cl (cr (cl (cr (cr (cl (cr (cb Tryz.f135))))))))))) (kit Tryz.prog (cl (cl (cr (cl (cr (cr (cl (cr (cb
  Tryz.f135))))))))) n0 (kblk 0 (kseq Tryz.prog (cr (cr (cr (cl (cr (cb Tryz.f135)))))) (kfin Tryz.prog Tryz.f135 k))))) (.exit 0) sl H
theorem B135x0q (n0 : Nat) (sl : List Value) (H : AHeap) (k : Value → AHeap → Prop) : B135x0 n0 k sl H = S135x1  k sl H := by kernel_rfl
theorem B135x1q (n0 : Nat) (sl : List Value) (H : AHeap) (k : Value → AHeap → Prop) : B135x1 n0 k sl H = S135x1  k sl H := by kernel_rfl
theorem d135 (a0 : Value) (H : AHeap) (k : Value → AHeap → Prop) : kbody Tryz.prog Tryz.f135 [a0] H k = (@bnd (aLen Tryz.prog H 9 a0) ⟨fun v8x1 => ∃ n, L135x0 n  k [a0, undef, (Value.string { data := #[] }), (Value.string { data
  := #[] }), (Value.bool false), (Value.int IntKind.i64 (-1)), undef, a0, v8x1, (Value.int IntKind.i64 0), undef, undef, undef, undef, undef, undef, undef, undef, undef, undef, undef, undef, undef, undef, undef, undef, undef,
  undef, undef, undef, undef, undef, undef, undef, undef, undef, undef, undef, undef, undef, undef, undef, undef, undef, undef, undef, undef, undef, undef, undef, undef, undef, undef, undef, undef, undef, undef, undef, undef,
  undef, undef, undef, undef, undef, undef, undef] H⟩) := by kernel_rfl
theorem L135x0q (n0 : Nat) (s0 s1 s2 s3 s4 s5 s6 s7 s8 s9 s10 s11 s12 s13 s14 s15 s16 s17 s18 s19 s20 s21 s22 s23 s24 s25 s26 s27 s28 s29 s30 s31 s32 s33 s34 s35 s36 s37 s38 s39 s40 s41 s42 s43 s44 s45 s46 s47 s48 s49 s50 s51 s52
  s53 s54 s55 s56 s57 s58 s59 s60 s61 s62 s63 s64 s65 : Value) (H : AHeap) (k : Value → AHeap → Prop) : L135x0 (n0 + 1) k [s0, s1, s2, s3, s4, s5, s6, s7, s8, s9, s10, s11, s12, s13, s14, s15, s16, s17, s18, s19, s20, s21, s22,
  s23, s24, s25, s26, s27, s28, s29, s30, s31, s32, s33, s34, s35, s36, s37, s38, s39, s40, s41, s42, s43, s44, s45, s46, s47, s48, s49, s50, s51, s52, s53, s54, s55, s56, s57, s58, s59, s60, s61, s62, s63, s64, s65] H = (@bnd
  (aBin2 Tryz.prog H BinOp.lss 3 (Operand.tmp 9) (Operand.tmp 8) s9 s8) ⟨fun v10x2 => @kifB v10x2 ⟨@bnd (aIndex Tryz.prog 9 s0 s9) ⟨fun v15x3 => @bnd (aBin2 Tryz.prog H BinOp.geq 5 (Operand.tmp 15) (Operand.const (Value.int
  IntKind.u8 48)) v15x3 (Value.int IntKind.u8 48)) ⟨fun v16x4 => @bnd (gif v16x4 true ((some s0)) undef) ⟨fun v18x5 => @bnd (gif v16x4 true ((some s9)) undef) ⟨fun v19x6 => @bnd (gif v16x4 true (aIndex Tryz.prog 9 v18x5 v19x6)
  undef) ⟨fun v20x7 => @bnd (gif v16x4 true (aBin2 Tryz.prog H BinOp.leq 5 (Operand.tmp 20) (Operand.const (Value.int IntKind.u8 57)) v20x7 (Value.int IntKind.u8 57)) undef) ⟨fun v21x8 => @bnd (pickV v16x4 v21x8 (Value.bool
  false)) ⟨fun v22x9 => @kifB v22x9 ⟨S135x0 n0 k [s0, s1, s2, s3, s4, s5, s9, s7, s8, s9, v10x2, s9, v22x9, s0, s9, v15x3, v16x4, v16x4, v18x5, v19x6, v20x7, v21x8, v22x9, s23, s24, s25, s26, s27, s28, s29, s30, s31, s32, s33,
  s34, s35, s36, s37, s38, s39, s40, s41, s42, s43, s44, s45, s46, s47, s48, s49, s50, s51, s52, s53, s54, s55, s56, s57, s58, s59, s60, s61, s62, s63, s64, s65] H⟩ ⟨@bnd (aIndex Tryz.prog 9 s0 s9) ⟨fun v26x10 => @bnd (aBin2
  Tryz.prog H BinOp.eql 5 (Operand.tmp 26) (Operand.const (Value.int IntKind.u8 46)) v26x10 (Value.int IntKind.u8 46)) ⟨fun v27x11 => @bnd (gif v27x11 true ((some s5)) undef) ⟨fun v29x12 => @bnd (gif v27x11 true (aBin2 Tryz.prog
  H BinOp.lss 3 (Operand.tmp 29) (Operand.const (Value.int IntKind.i64 0)) v29x12 (Value.int IntKind.i64 0)) undef) ⟨fun v30x13 => @bnd (pickV v27x11 v30x13 (Value.bool false)) ⟨fun v31x14 => @kifB v31x14 ⟨S135x0 n0 k [s0, s1,
  s2, s3, s4, s9, s9, s7, s8, s9, v10x2, s9, v22x9, s0, s9, v15x3, v16x4, v16x4, v18x5, v19x6, v20x7, v21x8, v22x9, v31x14, s0, s9, v26x10, v27x11, v27x11, v29x12, v30x13, v31x14, s9, s33, s34, s35, s36, s37, s38, s39, s40, s41,
  s42, s43, s44, s45, s46, s47, s48, s49, s50, s51, s52, s53, s54, s55, s56, s57, s58, s59, s60, s61, s62, s63, s64, s65] H⟩ ⟨B135x0 n0 k [s0, s1, s2, s3, s4, s5, s9, s7, s8, s9, v10x2, s9, v22x9, s0, s9, v15x3, v16x4, v16x4,
  v18x5, v19x6, v20x7, v21x8, v22x9, v31x14, s0, s9, v26x10, v27x11, v27x11, v29x12, v30x13, v31x14, s32, s33, s34, s35, s36, s37, s38, s39, s40, s41, s42, s43, s44, s45, s46, s47, s48, s49, s50, s51, s52, s53, s54, s55, s56,
  s57, s58, s59, s60, s61, s62, s63, s64, s65] H⟩⟩⟩⟩⟩⟩⟩⟩⟩⟩⟩⟩⟩⟩⟩ ⟨B135x1 n0 k [s0, s1, s2, s3, s4, s5, s6, s7, s8, s9, v10x2, s11, s12, s13, s14, s15, s16, s17, s18, s19, s20, s21, s22, s23, s24, s25, s26, s27, s28, s29, s30, s31,
  s32, s33, s34, s35, s36, s37, s38, s39, s40, s41, s42, s43, s44, s45, s46, s47, s48, s49, s50, s51, s52, s53, s54, s55, s56, s57, s58, s59, s60, s61, s62, s63, s64, s65] H⟩⟩) := by kernel_rfl
theorem S135x0q (n0 : Nat) (s0 s1 s2 s3 s4 s5 s6 s7 s8 s9 s10 s11 s12 s13 s14 s15 s16 s17 s18 s19 s20 s21 s22 s23 s24 s25 s26 s27 s28 s29 s30 s31 s32 s33 s34 s35 s36 s37 s38 s39 s40 s41 s42 s43 s44 s45 s46 s47 s48 s49 s50 s51 s52
  s53 s54 s55 s56 s57 s58 s59 s60 s61 s62 s63 s64 s65 : Value) (H : AHeap) (k : Value → AHeap → Prop) : S135x0 n0 k [s0, s1, s2, s3, s4, s5, s6, s7, s8, s9, s10, s11, s12, s13, s14, s15, s16, s17, s18, s19, s20, s21, s22, s23,
  s24, s25, s26, s27, s28, s29, s30, s31, s32, s33, s34, s35, s36, s37, s38, s39, s40, s41, s42, s43, s44, s45, s46, s47, s48, s49, s50, s51, s52, s53, s54, s55, s56, s57, s58, s59, s60, s61, s62, s63, s64, s65] H = (@bnd (aLen
  Tryz.prog H 9 s0) ⟨fun v35x15 => @bnd (aBin2 Tryz.prog H BinOp.sub 3 (Operand.tmp 35) (Operand.const (Value.int IntKind.i64 1)) v35x15 (Value.int IntKind.i64 1)) ⟨fun v36x16 => @bnd (aBin2 Tryz.prog H BinOp.eql 3 (Operand.tmp
  33) (Operand.tmp 36) s6 v36x16) ⟨fun v37x17 => @kifB v37x17 ⟨S135x2 n0 k [s0, s1, s2, s3, (Value.bool true), s5, s6, s7, s8, s9, s10, s11, s12, s13, s14, s15, s16, s17, s18, s19, s20, s21, s22, s23, s24, s25, s26, s27, s28,
  s29, s30, s31, s32, s6, s0, v35x15, v36x16, v37x17, s38, s39, s40, s41, s42, s43, s44, s45, s46, s47, s48, s49, s50, s51, s52, s53, s54, s55, s56, s57, s58, s59, s60, s61, s62, s63, s64, s65] H⟩ ⟨S135x2 n0 k [s0, s1, s2, s3,
  s4, s5, s6, s7, s8, s9, s10, s11, s12, s13, s14, s15, s16, s17, s18, s19, s20, s21, s22, s23, s24, s25, s26, s27, s28, s29, s30, s31, s32, s6, s0, v35x15, v36x16, v37x17, s38, s39, s40, s41, s42, s43, s44, s45, s46, s47, s48,
  s49, s50, s51, s52, s53, s54, s55, s56, s57, s58, s59, s60, s61, s62, s63, s64, s65] H⟩⟩⟩⟩) := by kernel_rfl
theorem S135x1q (s0 s1 s2 s3 s4 s5 s6 s7 s8 s9 s10 s11 s12 s13 s14 s15 s16 s17 s18 s19 s20 s21 s22 s23 s24 s25 s26 s27 s28 s29 s30 s31 s32 s33 s34 s35 s36 s37 s38 s39 s40 s41 s42 s43 s44 s45 s46 s47 s48 s49 s50 s51 s52 s53 s54
  s55 s56 s57 s58 s59 s60 s61 s62 s63 s64 s65 : Value) (H : AHeap) (k : Value → AHeap → Prop) : S135x1 k [s0, s1, s2, s3, s4, s5, s6, s7, s8, s9, s10, s11, s12, s13, s14, s15, s16, s17, s18, s19, s20, s21, s22, s23, s24, s25,
  s26, s27, s28, s29, s30, s31, s32, s33, s34, s35, s36, s37, s38, s39, s40, s41, s42, s43, s44, s45, s46, s47, s48, s49, s50, s51, s52, s53, s54, s55, s56, s57, s58, s59, s60, s61, s62, s63, s64, s65] H = (@bnd (aBin2 Tryz.prog
  H BinOp.lss 3 (Operand.tmp 39) (Operand.const (Value.int IntKind.i64 0)) s5 (Value.int IntKind.i64 0)) ⟨fun v40x18 => @kifB v40x18 ⟨k (.tuple #[s0, (Value.string { data := #[] }), s4]) H⟩ ⟨@bnd (aSliceOp Tryz.prog H 9 s0 none
  (some s5)) ⟨fun v45x19 => @bnd (aBin2 Tryz.prog H BinOp.add 3 (Operand.tmp 47) (Operand.const (Value.int IntKind.i64 1)) s5 (Value.int IntKind.i64 1)) ⟨fun v48x20 => @bnd (aSliceOp Tryz.prog H 9 s0 (some v48x20) none) ⟨fun
  v49x21 => @bnd (gif s4 true ((some v45x19)) undef) ⟨fun v54x22 => @bnd (gif s4 true (aBin2 Tryz.prog H BinOp.neq 9 (Operand.tmp 54) (Operand.const (Value.string { data := #[] })) v54x22 (Value.string { data := #[] })) undef)
  ⟨fun v55x23 => @bnd (pickV s4 v55x23 (Value.bool false)) ⟨fun v56x24 => @bnd (gif v56x24 true ((some v49x21)) undef) ⟨fun v58x25 => @bnd (gif v56x24 true (aBin2 Tryz.prog H BinOp.neq 9 (Operand.tmp 58) (Operand.const
  (Value.string { data := #[] })) v58x25 (Value.string { data := #[] })) undef) ⟨fun v59x26 => @bnd (pickV v56x24 v59x26 (Value.bool false)) ⟨fun v60x27 => @bnd (gif v60x27 true ((some v49x21)) undef) ⟨fun v62x28 => @bnd (gif
  v60x27 true (aLen Tryz.prog H 9 v62x28) undef) ⟨fun v63x29 => @bnd (gif v60x27 true (aBin2 Tryz.prog H BinOp.leq 3 (Operand.tmp 63) (Operand.const (Value.int IntKind.i64 3)) v63x29 (Value.int IntKind.i64 3)) undef) ⟨fun v64x30
  => @bnd (pickV v60x27 v64x30 (Value.bool false)) ⟨fun v65x31 => k (.tuple #[v45x19, v49x21, v65x31]) H⟩⟩⟩⟩⟩⟩⟩⟩⟩⟩⟩⟩⟩⟩⟩) := by kernel_rfl
theorem S135x2q (n0 : Nat) (s0 s1 s2 s3 s4 s5 s6 s7 s8 s9 s10 s11 s12 s13 s14 s15 s16 s17 s18 s19 s20 s21 s22 s23 s24 s25 s26 s27 s28 s29 s30 s31 s32 s33 s34 s35 s36 s37 s38 s39 s40 s41 s42 s43 s44 s45 s46 s47 s48 s49 s50 s51 s52
  s53 s54 s55 s56 s57 s58 s59 s60 s61 s62 s63 s64 s65 : Value) (H : AHeap) (k : Value → AHeap → Prop) : S135x2 n0 k [s0, s1, s2, s3, s4, s5, s6, s7, s8, s9, s10, s11, s12, s13, s14, s15, s16, s17, s18, s19, s20, s21, s22, s23,
  s24, s25, s26, s27, s28, s29, s30, s31, s32, s33, s34, s35, s36, s37, s38, s39, s40, s41, s42, s43, s44, s45, s46, s47, s48, s49, s50, s51, s52, s53, s54, s55, s56, s57, s58, s59, s60, s61, s62, s63, s64, s65] H = (@bnd (aBin2
  Tryz.prog H BinOp.add 3 (Operand.tmp 9) (Operand.const (Value.int IntKind.i64 1)) s9 (Value.int IntKind.i64 1)) ⟨fun v38x32 => L135x0 n0  k [s0, s1, s2, s3, s4, s5, s6, s7, s8, v38x32, s10, s11, s12, s13, s14, s15, s16, s17,
  s18, s19, s20, s21, s22, s23, s24, s25, s26, s27, s28, s29, s30, s31, s32, s33, s34, s35, s36, s37, v38x32, s39, s40, s41, s42, s43, s44, s45, s46, s47, s48, s49, s50, s51, s52, s53, s54, s55, s56, s57, s58, s59, s60, s61, s62,
  s63, s64, s65] H⟩) := by kernel_rfl

end Go.Vi
namespace Go.Vi
open Go Go.Proofs
-- strings.Repeat
def S136x0 (k : Value → AHeap → Prop) (sl : List Value) (H : AHeap) : Prop := kseq Tryz.prog (cr (cr (cr (cb Tryz.f136)))) (kfin Tryz.prog Tryz.f136 k) .normal sl H
def S136x1 (k : Value → AHeap → Prop) (sl : List Value) (H : AHeap) : Prop := kseq Tryz.prog (cr (cr (cr (cr (cr (cb Tryz.f136)))))) (kfin Tryz.prog Tryz.f136 k) .normal sl H
def S136x2 (k : Value → AHeap → Prop) (sl : List Value) (H : AHeap) : Prop := kseq Tryz.prog (cr (cl (cr (cl (cr (cr (cr (cr (cr (cr (cr (cb Tryz.f136)))))))))))) (kblk 1 (kseq Tryz.prog (cr (cr (cr (cr (cr (cr (cr (cr (cb
  Tryz.f136))))))))) (kfin Tryz.prog Tryz.f136 k))) .normal sl H
def S136x3 (k : Value → AHeap → Prop) (sl : List Value) (H : AHeap) : Prop := kseq Tryz.prog (cr (cr (cr (cr (cr (cr (cr (cr (cb Tryz.f136))))))))) (kfin Tryz.prog Tryz.f136 k) .normal sl H
def S136x4 (k : Value → AHeap → Prop) (sl : List Value) (H : AHeap) : Prop := kseq Tryz.prog (cr (cr (cr (cr (cr (cr (cr (cr (cr (cr (cb Tryz.f136))))))))))) (kfin Tryz.prog Tryz.f136 k) .normal sl H
def L136x0 (n : Nat) (k : Value → AHeap → Prop) (sl : List Value) (H : AHeap) : Prop := kit Tryz.prog (cl (cl (cl (cr (cr (cr (cr (cr (cr (cr (cr (cr (cr (cr (cr (cr (cb Tryz.f136))))))))))))))))) n (kblk 3 (kseq Tryz.prog (cr
  (cr (cr (cr (cr (cr (cr (cr (cr (cr (cr (cr (cr (cr (cb Tryz.f136))))))))))))))) (kfin Tryz.prog Tryz.f136 k))) .normal sl H
theorem d136 (a0 a1 : Value) (H : AHeap) (k : Value → AHeap → Prop) : kbody Tryz.prog Tryz.f136 [a0, a1] H k = (@bnd (aBin2 Tryz.prog H BinOp.eql 3 (Operand.tmp 11) (Operand.const (Value.int IntKind.i64 0)) a1 (Value.int
  IntKind.i64 0)) ⟨fun v13x1 => @kifB v13x1 ⟨k (Value.string { data := #[] }) H⟩ ⟨@bnd (aBin2 Tryz.prog H BinOp.eql 3 (Operand.tmp 11) (Operand.const (Value.int IntKind.i64 1)) a1 (Value.int IntKind.i64 1)) ⟨fun v15x2 => @kifB
  v15x2 ⟨k a0 H⟩ ⟨@bnd (aBin2 Tryz.prog H BinOp.lss 3 (Operand.tmp 17) (Operand.const (Value.int IntKind.i64 0)) a1 (Value.int IntKind.i64 0)) ⟨fun v18x3 => @kifB v18x3 ⟨@bndE (none) ⟨fun _ H5 => S136x0  k [a0, a1, undef, undef,
  (Value.string { data := #[] }), undef, undef, undef, undef, undef, undef, a1, v13x1, v13x1, v15x2, v15x2, undef, a1, v18x3, (.iface 9 (Value.string { data := #[115, 116, 114, 105, 110, 103, 115, 58, 32, 110, 101, 103, 97, 116,
  105, 118, 101, 32, 82, 101, 112, 101, 97, 116, 32, 99, 111, 117, 110, 116] })), undef, undef, undef, undef, undef, undef, undef, undef, undef, undef, undef, undef, undef, undef, undef, undef, undef, undef, undef, undef, undef,
  undef, undef, undef, undef, undef, undef, undef, undef, undef, undef, undef, undef, undef, undef, undef, undef, undef, undef, undef, undef, undef, undef, undef, undef, undef, undef, undef, undef, undef, undef, undef, undef,
  undef, undef, undef, undef, undef, undef, undef, undef, undef, undef, undef, undef, undef, undef, undef, undef, undef, undef, undef, undef, undef, undef, undef, undef, undef, undef, undef, undef, undef, undef, undef, undef,
  undef, undef, undef, undef, undef, undef, undef, undef, undef, undef, undef, undef, undef, undef, undef, undef, undef, undef, undef, undef] H5⟩⟩ ⟨S136x0  k [a0, a1, undef, undef, (Value.string { data := #[] }), undef, undef,
  undef, undef, undef, undef, a1, v13x1, v13x1, v15x2, v15x2, undef, a1, v18x3, undef, undef, undef, undef, undef, undef, undef, undef, undef, undef, undef, undef, undef, undef, undef, undef, undef, undef, undef, undef, undef,
  undef, undef, undef, undef, undef, undef, undef, undef, undef, undef, undef, undef, undef, undef, undef, undef, undef, undef, undef, undef, undef, undef, undef, undef, undef, undef, undef, undef, undef, undef, undef, undef,
  undef, undef, undef, undef, undef, undef, undef, undef, undef, undef, undef, undef, undef, undef, undef, undef, undef, undef, undef, undef, undef, undef, undef, undef, undef, undef, undef, undef, undef, undef, undef, undef,
  undef, undef, undef, undef, undef, undef, undef, undef, undef, undef, undef, undef, undef, undef, undef, undef, undef, undef, undef, undef, undef] H⟩⟩⟩⟩⟩⟩) := by kernel_rfl
theorem S136x0q (s0 s1 s2 s3 s4 s5 s6 s7 s8 s9 s10 s11 s12 s13 s14 s15 s16 s17 s18 s19 s20 s21 s22 s23 s24 s25 s26 s27 s28 s29 s30 s31 s32 s33 s34 s35 s36 s37 s38 s39 s40 s41 s42 s43 s44 s45 s46 s47 s48 s49 s50 s51 s52 s53 s54
  s55 s56 s57 s58 s59 s60 s61 s62 s63 s64 s65 s66 s67 s68 s69 s70 s71 s72 s73 s74 s75 s76 s77 s78 s79 s80 s81 s82 s83 s84 s85 s86 s87 s88 s89 s90 s91 s92 s93 s94 s95 s96 s97 s98 s99 s100 s101 s102 s103 s104 s105 s106 s107 s108
  s109 s110 s111 s112 s113 s114 s115 s116 s117 s118 s119 s120 s121 s122 s123 s124 : Value) (H : AHeap) (k : Value → AHeap → Prop) : S136x0 k [s0, s1, s2, s3, s4, s5, s6, s7, s8, s9, s10, s11, s12, s13, s14, s15, s16, s17, s18,
  s19, s20, s21, s22, s23, s24, s25, s26, s27, s28, s29, s30, s31, s32, s33, s34, s35, s36, s37, s38, s39, s40, s41, s42, s43, s44, s45, s46, s47, s48, s49, s50, s51, s52, s53, s54, s55, s56, s57, s58, s59, s60, s61, s62, s63,
  s64, s65, s66, s67, s68, s69, s70, s71, s72, s73, s74, s75, s76, s77, s78, s79, s80, s81, s82, s83, s84, s85, s86, s87, s88, s89, s90, s91, s92, s93, s94, s95, s96, s97, s98, s99, s100, s101, s102, s103, s104, s105, s106, s107,
  s108, s109, s110, s111, s112, s113, s114, s115, s116, s117, s118, s119, s120, s121, s122, s123, s124] H = (@bnd (aLen Tryz.prog H 9 s0) ⟨fun v22x6 => @bnd (convV Tryz.prog H 3 141 v22x6) ⟨fun v23x7 => @bnd (convV Tryz.prog H 3
  141 s1) ⟨fun v25x8 => @bndC Tryz.prog 150 [v23x7, v25x8] H ⟨fun v26x9 H10 => @bnd (tupV v26x9 0) ⟨fun v27x11 => @bnd (tupV v26x9 1) ⟨fun v28x12 => @bnd (aBin2 Tryz.prog H10 BinOp.gtr 141 (Operand.tmp 29) (Operand.const
  (Value.int IntKind.u64 0)) v27x11 (Value.int IntKind.u64 0)) ⟨fun v30x13 => @bnd (gif v30x13 false ((some v28x12)) undef) ⟨fun v32x14 => @bnd (gif v30x13 false (aBin2 Tryz.prog H10 BinOp.gtr 141 (Operand.tmp 32) (Operand.const
  (Value.int IntKind.u64 9223372036854775807)) v32x14 (Value.int IntKind.u64 9223372036854775807)) undef) ⟨fun v33x15 => @bnd (pickV v30x13 (Value.bool true) v33x15) ⟨fun v34x16 => @kifB v34x16 ⟨@bndE (none) ⟨fun _ H18 => S136x1 
  k [s0, s1, s2, s3, s4, v27x11, v28x12, s7, s8, s9, s10, s11, s12, s13, s14, s15, s16, s17, s18, s19, v26x9, s0, v22x6, v23x7, s1, v25x8, v26x9, v27x11, v28x12, v27x11, v30x13, v30x13, v32x14, v33x15, v34x16, (.iface 9
  (Value.string { data := #[115, 116, 114, 105, 110, 103, 115, 58, 32, 82, 101, 112, 101, 97, 116, 32, 111, 117, 116, 112, 117, 116, 32, 108, 101, 110, 103, 116, 104, 32, 111, 118, 101, 114, 102, 108, 111, 119] })), s36, s37,
  s38, s39, s40, s41, s42, s43, s44, s45, s46, s47, s48, s49, s50, s51, s52, s53, s54, s55, s56, s57, s58, s59, s60, s61, s62, s63, s64, s65, s66, s67, s68, s69, s70, s71, s72, s73, s74, s75, s76, s77, s78, s79, s80, s81, s82,
  s83, s84, s85, s86, s87, s88, s89, s90, s91, s92, s93, s94, s95, s96, s97, s98, s99, s100, s101, s102, s103, s104, s105, s106, s107, s108, s109, s110, s111, s112, s113, s114, s115, s116, s117, s118, s119, s120, s121, s122,
  s123, s124] H18⟩⟩ ⟨S136x1  k [s0, s1, s2, s3, s4, v27x11, v28x12, s7, s8, s9, s10, s11, s12, s13, s14, s15, s16, s17, s18, s19, v26x9, s0, v22x6, v23x7, s1, v25x8, v26x9, v27x11, v28x12, v27x11, v30x13, v30x13, v32x14, v33x15,
  v34x16, s35, s36, s37, s38, s39, s40, s41, s42, s43, s44, s45, s46, s47, s48, s49, s50, s51, s52, s53, s54, s55, s56, s57, s58, s59, s60, s61, s62, s63, s64, s65, s66, s67, s68, s69, s70, s71, s72, s73, s74, s75, s76, s77, s78,
  s79, s80, s81, s82, s83, s84, s85, s86, s87, s88, s89, s90, s91, s92, s93, s94, s95, s96, s97, s98, s99, s100, s101, s102, s103, s104, s105, s106, s107, s108, s109, s110, s111, s112, s113, s114, s115, s116, s117, s118, s119,
  s120, s121, s122, s123, s124] H10⟩⟩⟩⟩⟩⟩⟩⟩⟩⟩⟩) := by kernel_rfl
theorem S136x1q (s0 s1 s2 s3 s4 s5 s6 s7 s8 s9 s10 s11 s12 s13 s14 s15 s16 s17 s18 s19 s20 s21 s22 s23 s24 s25 s26 s27 s28 s29 s30 s31 s32 s33 s34 s35 s36 s37 s38 s39 s40 s41 s42 s43 s44 s45 s46 s47 s48 s49 s50 s51 s52 s53 s54
  s55 s56 s57 s58 s59 s60 s61 s62 s63 s64 s65 s66 s67 s68 s69 s70 s71 s72 s73 s74 s75 s76 s77 s78 s79 s80 s81 s82 s83 s84 s85 s86 s87 s88 s89 s90 s91 s92 s93 s94 s95 s96 s97 s98 s99 s100 s101 s102 s103 s104 s105 s106 s107 s108
  s109 s110 s111 s112 s113 s114 s115 s116 s117 s118 s119 s120 s121 s122 s123 s124 : Value) (H : AHeap) (k : Value → AHeap → Prop) : S136x1 k [s0, s1, s2, s3, s4, s5, s6, s7, s8, s9, s10, s11, s12, s13, s14, s15, s16, s17, s18,
  s19, s20, s21, s22, s23, s24, s25, s26, s27, s28, s29, s30, s31, s32, s33, s34, s35, s36, s37, s38, s39, s40, s41, s42, s43, s44, s45, s46, s47, s48, s49, s50, s51, s52, s53, s54, s55, s56, s57, s58, s59, s60, s61, s62, s63,
  s64, s65, s66, s67, s68, s69, s70, s71, s72, s73, s74, s75, s76, s77, s78, s79, s80, s81, s82, s83, s84, s85, s86, s87, s88, s89, s90, s91, s92, s93, s94, s95, s96, s97, s98, s99, s100, s101, s102, s103, s104, s105, s106, s107,
  s108, s109, s110, s111, s112, s113, s114, s115, s116, s117, s118, s119, s120, s121, s122, s123, s124] H = (@bnd (convV Tryz.prog H 141 3 s6) ⟨fun v37x19 => @bnd (aLen Tryz.prog H 9 s0) ⟨fun v39x20 => @bnd (aBin2 Tryz.prog H
  BinOp.eql 3 (Operand.tmp 39) (Operand.const (Value.int IntKind.i64 0)) v39x20 (Value.int IntKind.i64 0)) ⟨fun v40x21 => @kifB v40x21 ⟨k (Value.string { data := #[] }) H⟩ ⟨@bnd (aIndex Tryz.prog 9 s0 (Value.int IntKind.i64 0))
  ⟨fun v42x22 => @bnd (aBin2 Tryz.prog H BinOp.eql 5 (Operand.tmp 42) (Operand.const (Value.int IntKind.u8 32)) v42x22 (Value.int IntKind.u8 32)) ⟨fun v44x23 => @kifB v44x23 ⟨S136x2  k [s0, s1, s2, s3, s4, s5, s6, v37x19, s8, s9,
  s10, s11, s12, s13, s14, s15, s16, s17, s18, s19, s20, s21, s22, s23, s24, s25, s26, s27, s28, s29, s30, s31, s32, s33, s34, s35, s6, v37x19, s0, v39x20, v40x21, s0, v42x22, v44x23, v44x23, s45, s46, s47, s48, s49, s50, s51,
  s52, s53, s54, s55, s56, s57, s58, s59, s60, s61, s62, s63, s64, s65, s66, s67, s68, s69, s70, s71, s72, s73, s74, s75, s76, s77, s78, s79, s80, s81, s82, s83, s84, s85, s86, s87, s88, s89, s90, s91, s92, s93, s94, s95, s96,
  s97, s98, s99, s100, s101, s102, s103, s104, s105, s106, s107, s108, s109, s110, s111, s112, s113, s114, s115, s116, s117, s118, s119, s120, s121, s122, s123, s124] H⟩ ⟨@bnd (aBin2 Tryz.prog H BinOp.eql 5 (Operand.tmp 42)
  (Operand.const (Value.int IntKind.u8 45)) v42x22 (Value.int IntKind.u8 45)) ⟨fun v45x24 => @kifB v45x24 ⟨S136x2  k [s0, s1, s2, s3, s4, s5, s6, v37x19, s8, s9, s10, s11, s12, s13, s14, s15, s16, s17, s18, s19, s20, s21, s22,
  s23, s24, s25, s26, s27, s28, s29, s30, s31, s32, s33, s34, s35, s6, v37x19, s0, v39x20, v40x21, s0, v42x22, v45x24, v44x23, v45x24, s46, s47, s48, s49, s50, s51, s52, s53, s54, s55, s56, s57, s58, s59, s60, s61, s62, s63, s64,
  s65, s66, s67, s68, s69, s70, s71, s72, s73, s74, s75, s76, s77, s78, s79, s80, s81, s82, s83, s84, s85, s86, s87, s88, s89, s90, s91, s92, s93, s94, s95, s96, s97, s98, s99, s100, s101, s102, s103, s104, s105, s106, s107,
  s108, s109, s110, s111, s112, s113, s114, s115, s116, s117, s118, s119, s120, s121, s122, s123, s124] H⟩ ⟨@bnd (aBin2 Tryz.prog H BinOp.eql 5 (Operand.tmp 42) (Operand.const (Value.int IntKind.u8 48)) v42x22 (Value.int
  IntKind.u8 48)) ⟨fun v46x25 => @kifB v46x25 ⟨S136x2  k [s0, s1, s2, s3, s4, s5, s6, v37x19, s8, s9, s10, s11, s12, s13, s14, s15, s16, s17, s18, s19, s20, s21, s22, s23, s24, s25, s26, s27, s28, s29, s30, s31, s32, s33, s34,
  s35, s6, v37x19, s0, v39x20, v40x21, s0, v42x22, v46x25, v44x23, v45x24, v46x25, s47, s48, s49, s50, s51, s52, s53, s54, s55, s56, s57, s58, s59, s60, s61, s62, s63, s64, s65, s66, s67, s68, s69, s70, s71, s72, s73, s74, s75,
  s76, s77, s78, s79, s80, s81, s82, s83, s84, s85, s86, s87, s88, s89, s90, s91, s92, s93, s94, s95, s96, s97, s98, s99, s100, s101, s102, s103, s104, s105, s106, s107, s108, s109, s110, s111, s112, s113, s114, s115, s116, s117,
  s118, s119, s120, s121, s122, s123, s124] H⟩ ⟨@bnd (aBin2 Tryz.prog H BinOp.eql 5 (Operand.tmp 42) (Operand.const (Value.int IntKind.u8 61)) v42x22 (Value.int IntKind.u8 61)) ⟨fun v47x26 => @kifB v47x26 ⟨S136x2  k [s0, s1, s2,
  s3, s4, s5, s6, v37x19, s8, s9, s10, s11, s12, s13, s14, s15, s16, s17, s18, s19, s20, s21, s22, s23, s24, s25, s26, s27, s28, s29, s30, s31, s32, s33, s34, s35, s6, v37x19, s0, v39x20, v40x21, s0, v42x22, v47x26, v44x23,
  v45x24, v46x25, v47x26, s48, s49, s50, s51, s52, s53, s54, s55, s56, s57, s58, s59, s60, s61, s62, s63, s64, s65, s66, s67, s68, s69, s70, s71, s72, s73, s74, s75, s76, s77, s78, s79, s80, s81, s82, s83, s84, s85, s86, s87,
  s88, s89, s90, s91, s92, s93, s94, s95, s96, s97, s98, s99, s100, s101, s102, s103, s104, s105, s106, s107, s108, s109, s110, s111, s112, s113, s114, s115, s116, s117, s118, s119, s120, s121, s122, s123, s124] H⟩ ⟨@bnd (aBin2
  Tryz.prog H BinOp.eql 5 (Operand.tmp 42) (Operand.const (Value.int IntKind.u8 9)) v42x22 (Value.int IntKind.u8 9)) ⟨fun v48x27 => S136x2  k [s0, s1, s2, s3, s4, s5, s6, v37x19, s8, s9, s10, s11, s12, s13, s14, s15, s16, s17,
  s18, s19, s20, s21, s22, s23, s24, s25, s26, s27, s28, s29, s30, s31, s32, s33, s34, s35, s6, v37x19, s0, v39x20, v40x21, s0, v42x22, v48x27, v44x23, v45x24, v46x25, v47x26, v48x27, s49, s50, s51, s52, s53, s54, s55, s56, s57,
  s58, s59, s60, s61, s62, s63, s64, s65, s66, s67, s68, s69, s70, s71, s72, s73, s74, s75, s76, s77, s78, s79, s80, s81, s82, s83, s84, s85, s86, s87, s88, s89, s90, s91, s92, s93, s94, s95, s96, s97, s98, s99, s100, s101, s102,
  s103, s104, s105, s106, s107, s108, s109, s110, s111, s112, s113, s114, s115, s116, s117, s118, s119, s120, s121, s122, s123, s124] H⟩⟩⟩⟩⟩⟩⟩⟩⟩⟩⟩⟩⟩⟩) := by kernel_rfl
theorem S136x2q (s0 s1 s2 s3 s4 s5 s6 s7 s8 s9 s10 s11 s12 s13 s14 s15 s16 s17 s18 s19 s20 s21 s22 s23 s24 s25 s26 s27 s28 s29 s30 s31 s32 s33 s34 s35 s36 s37 s38 s39 s40 s41 s42 s43 s44 s45 s46 s47 s48 s49 s50 s51 s52 s53 s54
  s55 s56 s57 s58 s59 s60 s61 s62 s63 s64 s65 s66 s67 s68 s69 s70 s71 s72 s73 s74 s75 s76 s77 s78 s79 s80 s81 s82 s83 s84 s85 s86 s87 s88 s89 s90 s91 s92 s93 s94 s95 s96 s97 s98 s99 s100 s101 s102 s103 s104 s105 s106 s107 s108
  s109 s110 s111 s112 s113 s114 s115 s116 s117 s118 s119 s120 s121 s122 s123 s124 : Value) (H : AHeap) (k : Value → AHeap → Prop) : S136x2 k [s0, s1, s2, s3, s4, s5, s6, s7, s8, s9, s10, s11, s12, s13, s14, s15, s16, s17, s18,
  s19, s20, s21, s22, s23, s24, s25, s26, s27, s28, s29, s30, s31, s32, s33, s34, s35, s36, s37, s38, s39, s40, s41, s42, s43, s44, s45, s46, s47, s48, s49, s50, s51, s52, s53, s54, s55, s56, s57, s58, s59, s60, s61, s62, s63,
  s64, s65, s66, s67, s68, s69, s70, s71, s72, s73, s74, s75, s76, s77, s78, s79, s80, s81, s82, s83, s84, s85, s86, s87, s88, s89, s90, s91, s92, s93, s94, s95, s96, s97, s98, s99, s100, s101, s102, s103, s104, s105, s106, s107,
  s108, s109, s110, s111, s112, s113, s114, s115, s116, s117, s118, s119, s120, s121, s122, s123, s124] H = (@kifB s43 ⟨@bnd (aBin2 Tryz.prog H BinOp.leq 3 (Operand.tmp 50) (Operand.const (Value.int IntKind.i64 128)) s7
  (Value.int IntKind.i64 128)) ⟨fun v51x28 => @bnd (gif v51x28 true ((some s0)) undef) ⟨fun v53x29 => @bndG v51x28 true H ⟨fun v54x30 H31 => ACalls Tryz.prog 102 [(Value.string { data := #[32, 32, 32, 32, 32, 32, 32, 32, 32, 32,
  32, 32, 32, 32, 32, 32, 32, 32, 32, 32, 32, 32, 32, 32, 32, 32, 32, 32, 32, 32, 32, 32, 32, 32, 32, 32, 32, 32, 32, 32, 32, 32, 32, 32, 32, 32, 32, 32, 32, 32, 32, 32, 32, 32, 32, 32, 32, 32, 32, 32, 32, 32, 32, 32, 32, 32, 32,
  32, 32, 32, 32, 32, 32, 32, 32, 32, 32, 32, 32, 32, 32, 32, 32, 32, 32, 32, 32, 32, 32, 32, 32, 32, 32, 32, 32, 32, 32, 32, 32, 32, 32, 32, 32, 32, 32, 32, 32, 32, 32, 32, 32, 32, 32, 32, 32, 32, 32, 32, 32, 32, 32, 32, 32, 32,
  32, 32, 32, 32] }), v53x29] H v54x30 H31⟩ ⟨fun v54x30 H31 => @bnd (pickV v51x28 v54x30 (Value.bool false)) ⟨fun v55x32 => @kifB v55x32 ⟨@bnd (aSliceOp Tryz.prog H31 9 (Value.string { data := #[32, 32, 32, 32, 32, 32, 32, 32,
  32, 32, 32, 32, 32, 32, 32, 32, 32, 32, 32, 32, 32, 32, 32, 32, 32, 32, 32, 32, 32, 32, 32, 32, 32, 32, 32, 32, 32, 32, 32, 32, 32, 32, 32, 32, 32, 32, 32, 32, 32, 32, 32, 32, 32, 32, 32, 32, 32, 32, 32, 32, 32, 32, 32, 32, 32,
  32, 32, 32, 32, 32, 32, 32, 32, 32, 32, 32, 32, 32, 32, 32, 32, 32, 32, 32, 32, 32, 32, 32, 32, 32, 32, 32, 32, 32, 32, 32, 32, 32, 32, 32, 32, 32, 32, 32, 32, 32, 32, 32, 32, 32, 32, 32, 32, 32, 32, 32, 32, 32, 32, 32, 32, 32,
  32, 32, 32, 32, 32, 32] }) none (some s7)) ⟨fun v57x33 => k v57x33 H31⟩⟩ ⟨@bnd (aBin2 Tryz.prog H31 BinOp.leq 3 (Operand.tmp 59) (Operand.const (Value.int IntKind.i64 128)) s7 (Value.int IntKind.i64 128)) ⟨fun v60x34 => @bnd
  (gif v60x34 true ((some s0)) undef) ⟨fun v62x35 => @bndG v60x34 true H31 ⟨fun v63x36 H37 => ACalls Tryz.prog 102 [(Value.string { data := #[45, 45, 45, 45, 45, 45, 45, 45, 45, 45, 45, 45, 45, 45, 45, 45, 45, 45, 45, 45, 45, 45,
  45, 45, 45, 45, 45, 45, 45, 45, 45, 45, 45, 45, 45, 45, 45, 45, 45, 45, 45, 45, 45, 45, 45, 45, 45, 45, 45, 45, 45, 45, 45, 45, 45, 45, 45, 45, 45, 45, 45, 45, 45, 45, 45, 45, 45, 45, 45, 45, 45, 45, 45, 45, 45, 45, 45, 45, 45,
  45, 45, 45, 45, 45, 45, 45, 45, 45, 45, 45, 45, 45, 45, 45, 45, 45, 45, 45, 45, 45, 45, 45, 45, 45, 45, 45, 45, 45, 45, 45, 45, 45, 45, 45, 45, 45, 45, 45, 45, 45, 45, 45, 45, 45, 45, 45, 45, 45] }), v62x35] H31 v63x36 H37⟩
  ⟨fun v63x36 H37 => @bnd (pickV v60x34 v63x36 (Value.bool false)) ⟨fun v64x38 => @kifB v64x38 ⟨@bnd (aSliceOp Tryz.prog H37 9 (Value.string { data := #[45, 45, 45, 45, 45, 45, 45, 45, 45, 45, 45, 45, 45, 45, 45, 45, 45, 45, 45,
  45, 45, 45, 45, 45, 45, 45, 45, 45, 45, 45, 45, 45, 45, 45, 45, 45, 45, 45, 45, 45, 45, 45, 45, 45, 45, 45, 45, 45, 45, 45, 45, 45, 45, 45, 45, 45, 45, 45, 45, 45, 45, 45, 45, 45, 45, 45, 45, 45, 45, 45, 45, 45, 45, 45, 45, 45,
  45, 45, 45, 45, 45, 45, 45, 45, 45, 45, 45, 45, 45, 45, 45, 45, 45, 45, 45, 45, 45, 45, 45, 45, 45, 45, 45, 45, 45, 45, 45, 45, 45, 45, 45, 45, 45, 45, 45, 45, 45, 45, 45, 45, 45, 45, 45, 45, 45, 45, 45, 45] }) none (some s7))
  ⟨fun v66x39 => k v66x39 H37⟩⟩ ⟨@bnd (aBin2 Tryz.prog H37 BinOp.leq 3 (Operand.tmp 68) (Operand.const (Value.int IntKind.i64 64)) s7 (Value.int IntKind.i64 64)) ⟨fun v69x40 => @bnd (gif v69x40 true ((some s0)) undef) ⟨fun v71x41
  => @bndG v69x40 true H37 ⟨fun v72x42 H43 => ACalls Tryz.prog 102 [(Value.string { data := #[48, 48, 48, 48, 48, 48, 48, 48, 48, 48, 48, 48, 48, 48, 48, 48, 48, 48, 48, 48, 48, 48, 48, 48, 48, 48, 48, 48, 48, 48, 48, 48, 48, 48,
  48, 48, 48, 48, 48, 48, 48, 48, 48, 48, 48, 48, 48, 48, 48, 48, 48, 48, 48, 48, 48, 48, 48, 48, 48, 48, 48, 48, 48, 48] }), v71x41] H37 v72x42 H43⟩ ⟨fun v72x42 H43 => @bnd (pickV v69x40 v72x42 (Value.bool false)) ⟨fun v73x44 =>
  @kifB v73x44 ⟨@bnd (aSliceOp Tryz.prog H43 9 (Value.string { data := #[48, 48, 48, 48, 48, 48, 48, 48, 48, 48, 48, 48, 48, 48, 48, 48, 48, 48, 48, 48, 48, 48, 48, 48, 48, 48, 48, 48, 48, 48, 48, 48, 48, 48, 48, 48, 48, 48, 48,
  48, 48, 48, 48, 48, 48, 48, 48, 48, 48, 48, 48, 48, 48, 48, 48, 48, 48, 48, 48, 48, 48, 48, 48, 48] }) none (some s7)) ⟨fun v75x45 => k v75x45 H43⟩⟩ ⟨@bnd (aBin2 Tryz.prog H43 BinOp.leq 3 (Operand.tmp 77) (Operand.const
  (Value.int IntKind.i64 128)) s7 (Value.int IntKind.i64 128)) ⟨fun v78x46 => @bnd (gif v78x46 true ((some s0)) undef) ⟨fun v80x47 => @bndG v78x46 true H43 ⟨fun v81x48 H49 => ACalls Tryz.prog 102 [(Value.string { data := #[61,
  61, 61, 61, 61, 61, 61, 61, 61, 61, 61, 61, 61, 61, 61, 61, 61, 61, 61, 61, 61, 61, 61, 61, 61, 61, 61, 61, 61, 61, 61, 61, 61, 61, 61, 61, 61, 61, 61, 61, 61, 61, 61, 61, 61, 61, 61, 61, 61, 61, 61, 61, 61, 61, 61, 61, 61, 61,
  61, 61, 61, 61, 61, 61, 61, 61, 61, 61, 61, 61, 61, 61, 61, 61, 61, 61, 61, 61, 61, 61, 61, 61, 61, 61, 61, 61, 61, 61, 61, 61, 61, 61, 61, 61, 61, 61, 61, 61, 61, 61, 61, 61, 61, 61, 61, 61, 61, 61, 61, 61, 61, 61, 61, 61, 61,
  61, 61, 61, 61, 61, 61, 61, 61, 61, 61, 61, 61, 61] }), v80x47] H43 v81x48 H49⟩ ⟨fun v81x48 H49 => @bnd (pickV v78x46 v81x48 (Value.bool false)) ⟨fun v82x50 => @kifB v82x50 ⟨@bnd (aSliceOp Tryz.prog H49 9 (Value.string { data
  := #[61, 61, 61, 61, 61, 61, 61, 61, 61, 61, 61, 61, 61, 61, 61, 61, 61, 61, 61, 61, 61, 61, 61, 61, 61, 61, 61, 61, 61, 61, 61, 61, 61, 61, 61, 61, 61, 61, 61, 61, 61, 61, 61, 61, 61, 61, 61, 61, 61, 61, 61, 61, 61, 61, 61,
  61, 61, 61, 61, 61, 61, 61, 61, 61, 61, 61, 61, 61, 61, 61, 61, 61, 61, 61, 61, 61, 61, 61, 61, 61, 61, 61, 61, 61, 61, 61, 61, 61, 61, 61, 61, 61, 61, 61, 61, 61, 61, 61, 61, 61, 61, 61, 61, 61, 61, 61, 61, 61, 61, 61, 61, 61,
  61, 61, 61, 61, 61, 61, 61, 61, 61, 61, 61, 61, 61, 61, 61, 61] }) none (some s7)) ⟨fun v84x51 => k v84x51 H49⟩⟩ ⟨@bnd (aBin2 Tryz.prog H49 BinOp.leq 3 (Operand.tmp 86) (Operand.const (Value.int IntKind.i64 64)) s7 (Value.int
  IntKind.i64 64)) ⟨fun v87x52 => @bnd (gif v87x52 true ((some s0)) undef) ⟨fun v89x53 => @bndG v87x52 true H49 ⟨fun v90x54 H55 => ACalls Tryz.prog 102 [(Value.string { data := #[9, 9, 9, 9, 9, 9, 9, 9, 9, 9, 9, 9, 9, 9, 9, 9, 9,
  9, 9, 9, 9, 9, 9, 9, 9, 9, 9, 9, 9, 9, 9, 9, 9, 9, 9, 9, 9, 9, 9, 9, 9, 9, 9, 9, 9, 9, 9, 9, 9, 9, 9, 9, 9, 9, 9, 9, 9, 9, 9, 9, 9, 9, 9, 9] }), v89x53] H49 v90x54 H55⟩ ⟨fun v90x54 H55 => @bnd (pickV v87x52 v90x54 (Value.bool
  false)) ⟨fun v91x56 => @kifB v91x56 ⟨@bnd (aSliceOp Tryz.prog H55 9 (Value.string { data := #[9, 9, 9, 9, 9, 9, 9, 9, 9, 9, 9, 9, 9, 9, 9, 9, 9, 9, 9, 9, 9, 9, 9, 9, 9, 9, 9, 9, 9, 9, 9, 9, 9, 9, 9, 9, 9, 9, 9, 9, 9, 9, 9, 9,
  9, 9, 9, 9, 9, 9, 9, 9, 9, 9, 9, 9, 9, 9, 9, 9, 9, 9, 9, 9] }) none (some s7)) ⟨fun v93x57 => k v93x57 H55⟩⟩ ⟨S136x3  k [s0, s1, s2, s3, s4, s5, s6, s7, s8, s9, s10, s11, s12, s13, s14, s15, s16, s17, s18, s19, s20, s21, s22,
  s23, s24, s25, s26, s27, s28, s29, s30, s31, s32, s33, s34, s35, s36, s37, s38, s39, s40, s41, s42, s43, s44, s45, s46, s47, s48, v55x32, s7, v51x28, v51x28, v53x29, v54x30, v55x32, s56, s57, v64x38, s7, v60x34, v60x34, v62x35,
  v63x36, v64x38, s65, s66, v73x44, s7, v69x40, v69x40, v71x41, v72x42, v73x44, s74, s75, v82x50, s7, v78x46, v78x46, v80x47, v81x48, v82x50, s83, s84, v91x56, s7, v87x52, v87x52, v89x53, v90x54, v91x56, s92, s93, s94, s95, s96,
  s97, s98, s99, s100, s101, s102, s103, s104, s105, s106, s107, s108, s109, s110, s111, s112, s113, s114, s115, s116, s117, s118, s119, s120, s121, s122, s123, s124] H55⟩⟩⟩⟩⟩⟩⟩⟩⟩⟩⟩⟩⟩⟩⟩⟩⟩⟩⟩⟩⟩⟩⟩⟩⟩⟩ ⟨S136x3  k [s0, s1, s2, s3, s4,
  s5, s6, s7, s8, s9, s10, s11, s12, s13, s14, s15, s16, s17, s18, s19, s20, s21, s22, s23, s24, s25, s26, s27, s28, s29, s30, s31, s32, s33, s34, s35, s36, s37, s38, s39, s40, s41, s42, s43, s44, s45, s46, s47, s48, s49, s50,
  s51, s52, s53, s54, s55, s56, s57, s58, s59, s60, s61, s62, s63, s64, s65, s66, s67, s68, s69, s70, s71, s72, s73, s74, s75, s76, s77, s78, s79, s80, s81, s82, s83, s84, s85, s86, s87, s88, s89, s90, s91, s92, s93, s94, s95,
  s96, s97, s98, s99, s100, s101, s102, s103, s104, s105, s106, s107, s108, s109, s110, s111, s112, s113, s114, s115, s116, s117, s118, s119, s120, s121, s122, s123, s124] H⟩) := by kernel_rfl
theorem S136x3q (s0 s1 s2 s3 s4 s5 s6 s7 s8 s9 s10 s11 s12 s13 s14 s15 s16 s17 s18 s19 s20 s21 s22 s23 s24 s25 s26 s27 s28 s29 s30 s31 s32 s33 s34 s35 s36 s37 s38 s39 s40 s41 s42 s43 s44 s45 s46 s47 s48 s49 s50 s51 s52 s53 s54
  s55 s56 s57 s58 s59 s60 s61 s62 s63 s64 s65 s66 s67 s68 s69 s70 s71 s72 s73 s74 s75 s76 s77 s78 s79 s80 s81 s82 s83 s84 s85 s86 s87 s88 s89 s90 s91 s92 s93 s94 s95 s96 s97 s98 s99 s100 s101 s102 s103 s104 s105 s106 s107 s108
  s109 s110 s111 s112 s113 s114 s115 s116 s117 s118 s119 s120 s121 s122 s123 s124 : Value) (H : AHeap) (k : Value → AHeap → Prop) : S136x3 k [s0, s1, s2, s3, s4, s5, s6, s7, s8, s9, s10, s11, s12, s13, s14, s15, s16, s17, s18,
  s19, s20, s21, s22, s23, s24, s25, s26, s27, s28, s29, s30, s31, s32, s33, s34, s35, s36, s37, s38, s39, s40, s41, s42, s43, s44, s45, s46, s47, s48, s49, s50, s51, s52, s53, s54, s55, s56, s57, s58, s59, s60, s61, s62, s63,
  s64, s65, s66, s67, s68, s69, s70, s71, s72, s73, s74, s75, s76, s77, s78, s79, s80, s81, s82, s83, s84, s85, s86, s87, s88, s89, s90, s91, s92, s93, s94, s95, s96, s97, s98, s99, s100, s101, s102, s103, s104, s105, s106, s107,
  s108, s109, s110, s111, s112, s113, s114, s115, s116, s117, s118, s119, s120, s121, s122, s123, s124] H = (@bnd (aBin2 Tryz.prog H BinOp.gtr 3 (Operand.tmp 95) (Operand.const (Value.int IntKind.i64 8192)) s7 (Value.int
  IntKind.i64 8192)) ⟨fun v96x58 => @kifB v96x58 ⟨@bnd (aLen Tryz.prog H 9 s0) ⟨fun v98x59 => @bnd (aBin2 Tryz.prog H BinOp.quo 3 (Operand.const (Value.int IntKind.i64 8192)) (Operand.tmp 98) (Value.int IntKind.i64 8192) v98x59)
  ⟨fun v99x60 => @bnd (aLen Tryz.prog H 9 s0) ⟨fun v101x61 => @bnd (aBin2 Tryz.prog H BinOp.mul 3 (Operand.tmp 99) (Operand.tmp 101) v99x60 v101x61) ⟨fun v102x62 => @bnd (aBin2 Tryz.prog H BinOp.eql 3 (Operand.tmp 103)
  (Operand.const (Value.int IntKind.i64 0)) v102x62 (Value.int IntKind.i64 0)) ⟨fun v104x63 => @kifB v104x63 ⟨@bnd (aLen Tryz.prog H 9 s0) ⟨fun v106x64 => S136x4  k [s0, s1, s2, s3, s4, s5, s6, s7, v106x64, s9, s10, s11, s12,
  s13, s14, s15, s16, s17, s18, s19, s20, s21, s22, s23, s24, s25, s26, s27, s28, s29, s30, s31, s32, s33, s34, s35, s36, s37, s38, s39, s40, s41, s42, s43, s44, s45, s46, s47, s48, s49, s50, s51, s52, s53, s54, s55, s56, s57,
  s58, s59, s60, s61, s62, s63, s64, s65, s66, s67, s68, s69, s70, s71, s72, s73, s74, s75, s76, s77, s78, s79, s80, s81, s82, s83, s84, s85, s86, s87, s88, s89, s90, s91, s92, s93, s7, s7, v96x58, s0, v98x59, v99x60, s0,
  v101x61, v102x62, v102x62, v104x63, s0, v106x64, s107, s108, s109, s110, s111, s112, s113, s114, s115, s116, s117, s118, s119, s120, s121, s122, s123, s124] H⟩⟩ ⟨S136x4  k [s0, s1, s2, s3, s4, s5, s6, s7, v102x62, s9, s10, s11,
  s12, s13, s14, s15, s16, s17, s18, s19, s20, s21, s22, s23, s24, s25, s26, s27, s28, s29, s30, s31, s32, s33, s34, s35, s36, s37, s38, s39, s40, s41, s42, s43, s44, s45, s46, s47, s48, s49, s50, s51, s52, s53, s54, s55, s56,
  s57, s58, s59, s60, s61, s62, s63, s64, s65, s66, s67, s68, s69, s70, s71, s72, s73, s74, s75, s76, s77, s78, s79, s80, s81, s82, s83, s84, s85, s86, s87, s88, s89, s90, s91, s92, s93, s7, s7, v96x58, s0, v98x59, v99x60, s0,
  v101x61, v102x62, v102x62, v104x63, s105, s106, s107, s108, s109, s110, s111, s112, s113, s114, s115, s116, s117, s118, s119, s120, s121, s122, s123, s124] H⟩⟩⟩⟩⟩⟩⟩ ⟨S136x4  k [s0, s1, s2, s3, s4, s5, s6, s7, s7, s9, s10, s11,
  s12, s13, s14, s15, s16, s17, s18, s19, s20, s21, s22, s23, s24, s25, s26, s27, s28, s29, s30, s31, s32, s33, s34, s35, s36, s37, s38, s39, s40, s41, s42, s43, s44, s45, s46, s47, s48, s49, s50, s51, s52, s53, s54, s55, s56,
  s57, s58, s59, s60, s61, s62, s63, s64, s65, s66, s67, s68, s69, s70, s71, s72, s73, s74, s75, s76, s77, s78, s79, s80, s81, s82, s83, s84, s85, s86, s87, s88, s89, s90, s91, s92, s93, s7, s7, v96x58, s97, s98, s99, s100, s101,
  s102, s103, s104, s105, s106, s107, s108, s109, s110, s111, s112, s113, s114, s115, s116, s117, s118, s119, s120, s121, s122, s123, s124] H⟩⟩) := by kernel_rfl
theorem S136x4q (s0 s1 s2 s3 s4 s5 s6 s7 s8 s9 s10 s11 s12 s13 s14 s15 s16 s17 s18 s19 s20 s21 s22 s23 s24 s25 s26 s27 s28 s29 s30 s31 s32 s33 s34 s35 s36 s37 s38 s39 s40 s41 s42 s43 s44 s45 s46 s47 s48 s49 s50 s51 s52 s53 s54
  s55 s56 s57 s58 s59 s60 s61 s62 s63 s64 s65 s66 s67 s68 s69 s70 s71 s72 s73 s74 s75 s76 s77 s78 s79 s80 s81 s82 s83 s84 s85 s86 s87 s88 s89 s90 s91 s92 s93 s94 s95 s96 s97 s98 s99 s100 s101 s102 s103 s104 s105 s106 s107 s108
  s109 s110 s111 s112 s113 s114 s115 s116 s117 s118 s119 s120 s121 s122 s123 s124 : Value) (H : AHeap) (k : Value → AHeap → Prop) : S136x4 k [s0, s1, s2, s3, s4, s5, s6, s7, s8, s9, s10, s11, s12, s13, s14, s15, s16, s17, s18,
  s19, s20, s21, s22, s23, s24, s25, s26, s27, s28, s29, s30, s31, s32, s33, s34, s35, s36, s37, s38, s39, s40, s41, s42, s43, s44, s45, s46, s47, s48, s49, s50, s51, s52, s53, s54, s55, s56, s57, s58, s59, s60, s61, s62, s63,
  s64, s65, s66, s67, s68, s69, s70, s71, s72, s73, s74, s75, s76, s77, s78, s79, s80, s81, s82, s83, s84, s85, s86, s87, s88, s89, s90, s91, s92, s93, s94, s95, s96, s97, s98, s99, s100, s101, s102, s103, s104, s105, s106, s107,
  s108, s109, s110, s111, s112, s113, s114, s115, s116, s117, s118, s119, s120, s121, s122, s123, s124] H = (@bndE (aAlloc Tryz.prog H 102) ⟨fun v9x65 H66 => @bndC Tryz.prog 56 [v9x65, s7] H66 ⟨fun v108x67 H68 => @bndC Tryz.prog
  57 [v9x65, s0] H68 ⟨fun v110x69 H70 => ∃ n, L136x0 n  k [s0, s1, s2, s3, s4, s5, s6, s7, s8, v9x65, s10, s11, s12, s13, s14, s15, s16, s17, s18, s19, s20, s21, s22, s23, s24, s25, s26, s27, s28, s29, s30, s31, s32, s33, s34,
  s35, s36, s37, s38, s39, s40, s41, s42, s43, s44, s45, s46, s47, s48, s49, s50, s51, s52, s53, s54, s55, s56, s57, s58, s59, s60, s61, s62, s63, s64, s65, s66, s67, s68, s69, s70, s71, s72, s73, s74, s75, s76, s77, s78, s79,
  s80, s81, s82, s83, s84, s85, s86, s87, s88, s89, s90, s91, s92, s93, s94, s95, s96, s97, s98, s99, s100, s101, s102, s103, s104, s105, s106, s7, v108x67, s0, v110x69, s111, s112, s113, s114, s115, s116, s117, s118, s119, s120,
  s121, s122, s123, s124] H70⟩⟩⟩) := by kernel_rfl
theorem L136x0q (n0 : Nat) (s0 s1 s2 s3 s4 s5 s6 s7 s8 s9 s10 s11 s12 s13 s14 s15 s16 s17 s18 s19 s20 s21 s22 s23 s24 s25 s26 s27 s28 s29 s30 s31 s32 s33 s34 s35 s36 s37 s38 s39 s40 s41 s42 s43 s44 s45 s46 s47 s48 s49 s50 s51 s52
  s53 s54 s55 s56 s57 s58 s59 s60 s61 s62 s63 s64 s65 s66 s67 s68 s69 s70 s71 s72 s73 s74 s75 s76 s77 s78 s79 s80 s81 s82 s83 s84 s85 s86 s87 s88 s89 s90 s91 s92 s93 s94 s95 s96 s97 s98 s99 s100 s101 s102 s103 s104 s105 s106 s107
  s108 s109 s110 s111 s112 s113 s114 s115 s116 s117 s118 s119 s120 s121 s122 s123 s124 : Value) (H : AHeap) (k : Value → AHeap → Prop) : L136x0 (n0 + 1) k [s0, s1, s2, s3, s4, s5, s6, s7, s8, s9, s10, s11, s12, s13, s14, s15,
  s16, s17, s18, s19, s20, s21, s22, s23, s24, s25, s26, s27, s28, s29, s30, s31, s32, s33, s34, s35, s36, s37, s38, s39, s40, s41, s42, s43, s44, s45, s46, s47, s48, s49, s50, s51, s52, s53, s54, s55, s56, s57, s58, s59, s60,
  s61, s62, s63, s64, s65, s66, s67, s68, s69, s70, s71, s72, s73, s74, s75, s76, s77, s78, s79, s80, s81, s82, s83, s84, s85, s86, s87, s88, s89, s90, s91, s92, s93, s94, s95, s96, s97, s98, s99, s100, s101, s102, s103, s104,
  s105, s106, s107, s108, s109, s110, s111, s112, s113, s114, s115, s116, s117, s118, s119, s120, s121, s122, s123, s124] H = (@bndC Tryz.prog 151 [s9] H ⟨fun v111x71 H72 => @bnd (aBin2 Tryz.prog H72 BinOp.lss 3 (Operand.tmp 111)
  (Operand.tmp 112) v111x71 s7) ⟨fun v113x73 => @kifB v113x73 ⟨@bndC Tryz.prog 151 [s9] H72 ⟨fun v115x74 H75 => @bnd (aBin2 Tryz.prog H75 BinOp.sub 3 (Operand.tmp 114) (Operand.tmp 115) s7 v115x74) ⟨fun v116x76 => @bndC Tryz.prog
  151 [s9] H75 ⟨fun v117x77 H78 => @bndE (aBuiltin Tryz.prog H78 Builtin.min #[3, 3, 3] [v116x76, v117x77, s8]) ⟨fun v119x79 H80 => @bndC Tryz.prog 58 [s9] H80 ⟨fun v120x81 H82 => @bnd (aSliceOp Tryz.prog H82 9 v120x81 none (some
  v119x79)) ⟨fun v122x83 => @bndC Tryz.prog 57 [s9, v122x83] H82 ⟨fun v123x84 H85 => L136x0 n0  k [s0, s1, s2, s3, s4, s5, s6, s7, s8, s9, v119x79, s11, s12, s13, s14, s15, s16, s17, s18, s19, s20, s21, s22, s23, s24, s25, s26,
  s27, s28, s29, s30, s31, s32, s33, s34, s35, s36, s37, s38, s39, s40, s41, s42, s43, s44, s45, s46, s47, s48, s49, s50, s51, s52, s53, s54, s55, s56, s57, s58, s59, s60, s61, s62, s63, s64, s65, s66, s67, s68, s69, s70, s71,
  s72, s73, s74, s75, s76, s77, s78, s79, s80, s81, s82, s83, s84, s85, s86, s87, s88, s89, s90, s91, s92, s93, s94, s95, s96, s97, s98, s99, s100, s101, s102, s103, s104, s105, s106, s107, s108, s109, s110, v111x71, s7, v113x73,
  s7, v115x74, v116x76, v117x77, s8, v119x79, v120x81, v119x79, v122x83, v123x84, s124] H85⟩⟩⟩⟩⟩⟩⟩⟩ ⟨@bndC Tryz.prog 58 [s9] H72 ⟨fun v124x86 H87 => k v124x86 H87⟩⟩⟩⟩) := by kernel_rfl
-- tocsin/labels.MayValue
theorem d137 (a0 : Value) (H : AHeap) (k : Value → AHeap → Prop) : kbody Tryz.prog Tryz.f137 [a0] H k = (@bnd (aLen Tryz.prog H 9 a0) ⟨fun v4x1 => @bnd (aBin2 Tryz.prog H BinOp.geq 3 (Operand.tmp 4) (Operand.const (Value.int
  IntKind.i64 1)) v4x1 (Value.int IntKind.i64 1)) ⟨fun v5x2 => @bnd (gif v5x2 true ((some a0)) undef) ⟨fun v7x3 => @bnd (gif v5x2 true (aLen Tryz.prog H 9 v7x3) undef) ⟨fun v8x4 => @bnd (gif v5x2 true (aBin2 Tryz.prog H BinOp.leq
  3 (Operand.tmp 8) (Operand.const (Value.int IntKind.i64 32)) v8x4 (Value.int IntKind.i64 32)) undef) ⟨fun v9x5 => @bnd (pickV v5x2 v9x5 (Value.bool false)) ⟨fun v10x6 => @bnd (gif v10x6 true ((some a0)) undef) ⟨fun v12x7 =>
  @bndG v10x6 true H ⟨fun v13x8 H9 => ACalls Tryz.prog 50 [v12x7, (.func (.func 152) #[] #[])] H v13x8 H9⟩ ⟨fun v13x8 H9 => @bnd (pickV v10x6 v13x8 (Value.bool false)) ⟨fun v14x10 => k v14x10 H9⟩⟩⟩⟩⟩⟩⟩⟩⟩) := by kernel_rfl
-- internal/stringslite.CutPrefix
theorem d149 (a0 a1 : Value) (H : AHeap) (k : Value → AHeap → Prop) : kbody Tryz.prog Tryz.f149 [a0, a1] H k = (@bndC Tryz.prog 127 [a0, a1] H ⟨fun v8x1 H2 => @bnd (unV Tryz.prog UnOp.not v8x1) ⟨fun v9x3 => @kifB v9x3 ⟨k (.tuple
  #[a0, (Value.bool false)]) H2⟩ ⟨@bnd (aLen Tryz.prog H2 9 a1) ⟨fun v13x4 => @bnd (aSliceOp Tryz.prog H2 9 a0 (some v13x4) none) ⟨fun v14x5 => k (.tuple #[v14x5, (Value.bool true)]) H2⟩⟩⟩⟩⟩) := by kernel_rfl
-- math/bits.Mul
theorem d150 (a0 a1 : Value) (H : AHeap) (k : Value → AHeap → Prop) : kbody Tryz.prog Tryz.f150 [a0, a1] H k = (@kifB (Value.bool false) ⟨@bnd (convV Tryz.prog H 141 42 a0) ⟨fun v12x1 => @bnd (convV Tryz.prog H 141 42 a1) ⟨fun
  v14x2 => @bndC Tryz.prog 160 [v12x1, v14x2] H ⟨fun v15x3 H4 => @bnd (tupV v15x3 0) ⟨fun v16x5 => @bnd (tupV v15x3 1) ⟨fun v17x6 => @bnd (convV Tryz.prog H4 42 141 v16x5) ⟨fun v19x7 => @bnd (convV Tryz.prog H4 42 141 v17x6) ⟨fun
  v21x8 => k (.tuple #[v19x7, v21x8]) H4⟩⟩⟩⟩⟩⟩⟩⟩ ⟨@bndC Tryz.prog 161 [a0, a1] H ⟨fun v25x9 H10 => @bnd (tupV v25x9 0) ⟨fun v26x11 => @bnd (tupV v25x9 1) ⟨fun v27x12 => k (.tuple #[v26x11, v27x12]) H10⟩⟩⟩⟩) := by kernel_rfl
-- tocsin/labels.sign
theorem d152 (a0 : Value) (H : AHeap) (k : Value → AHeap → Prop) : kbody Tryz.prog Tryz.f152 [a0] H k = (@bnd (aBin2 Tryz.prog H BinOp.geq 5 (Operand.tmp 3) (Operand.const (Value.int IntKind.u8 32)) a0 (Value.int IntKind.u8 32))
  ⟨fun v4x1 => @bnd (gif v4x1 true ((some a0)) undef) ⟨fun v6x2 => @bnd (gif v4x1 true (aBin2 Tryz.prog H BinOp.leq 5 (Operand.tmp 6) (Operand.const (Value.int IntKind.u8 126)) v6x2 (Value.int IntKind.u8 126)) undef) ⟨fun v7x3 =>
  @bnd (pickV v4x1 v7x3 (Value.bool false)) ⟨fun v8x4 => k v8x4 H⟩⟩⟩⟩) := by kernel_rfl
-- math/bits.Mul64
theorem d161 (a0 a1 : Value) (H : AHeap) (k : Value → AHeap → Prop) : kbody Tryz.prog Tryz.f161 [a0, a1] H k = (@bnd (aBin2 Tryz.prog H BinOp.and 155 (Operand.tmp 14) (Operand.const (Value.int IntKind.u64 4294967295)) a0
  (Value.int IntKind.u64 4294967295)) ⟨fun v15x1 => @bnd (aBin2 Tryz.prog H BinOp.shr 155 (Operand.tmp 16) (Operand.const (Value.int IntKind.u64 32)) a0 (Value.int IntKind.u64 32)) ⟨fun v17x2 => @bnd (aBin2 Tryz.prog H BinOp.and
  155 (Operand.tmp 18) (Operand.const (Value.int IntKind.u64 4294967295)) a1 (Value.int IntKind.u64 4294967295)) ⟨fun v19x3 => @bnd (aBin2 Tryz.prog H BinOp.shr 155 (Operand.tmp 20) (Operand.const (Value.int IntKind.u64 32)) a1
  (Value.int IntKind.u64 32)) ⟨fun v21x4 => @bnd (aBin2 Tryz.prog H BinOp.mul 155 (Operand.tmp 22) (Operand.tmp 23) v15x1 v19x3) ⟨fun v24x5 => @bnd (aBin2 Tryz.prog H BinOp.mul 155 (Operand.tmp 25) (Operand.tmp 26) v17x2 v19x3)
  ⟨fun v27x6 => @bnd (aBin2 Tryz.prog H BinOp.shr 155 (Operand.tmp 28) (Operand.const (Value.int IntKind.u64 32)) v24x5 (Value.int IntKind.u64 32)) ⟨fun v29x7 => @bnd (aBin2 Tryz.prog H BinOp.add 155 (Operand.tmp 27) (Operand.tmp
  29) v27x6 v29x7) ⟨fun v30x8 => @bnd (aBin2 Tryz.prog H BinOp.and 155 (Operand.tmp 31) (Operand.const (Value.int IntKind.u64 4294967295)) v30x8 (Value.int IntKind.u64 4294967295)) ⟨fun v32x9 => @bnd (aBin2 Tryz.prog H BinOp.shr
  155 (Operand.tmp 33) (Operand.const (Value.int IntKind.u64 32)) v30x8 (Value.int IntKind.u64 32)) ⟨fun v34x10 => @bnd (aBin2 Tryz.prog H BinOp.mul 155 (Operand.tmp 36) (Operand.tmp 37) v15x1 v21x4) ⟨fun v38x11 => @bnd (aBin2
  Tryz.prog H BinOp.add 155 (Operand.tmp 35) (Operand.tmp 38) v32x9 v38x11) ⟨fun v39x12 => @bnd (aBin2 Tryz.prog H BinOp.mul 155 (Operand.tmp 40) (Operand.tmp 41) v17x2 v21x4) ⟨fun v42x13 => @bnd (aBin2 Tryz.prog H BinOp.add 155
  (Operand.tmp 42) (Operand.tmp 43) v42x13 v34x10) ⟨fun v44x14 => @bnd (aBin2 Tryz.prog H BinOp.shr 155 (Operand.tmp 45) (Operand.const (Value.int IntKind.u64 32)) v39x12 (Value.int IntKind.u64 32)) ⟨fun v46x15 => @bnd (aBin2
  Tryz.prog H BinOp.add 155 (Operand.tmp 44) (Operand.tmp 46) v44x14 v46x15) ⟨fun v47x16 => @bnd (aBin2 Tryz.prog H BinOp.mul 155 (Operand.tmp 48) (Operand.tmp 49) a0 a1) ⟨fun v50x17 => k (.tuple #[v47x16, v50x17])
  H⟩⟩⟩⟩⟩⟩⟩⟩⟩⟩⟩⟩⟩⟩⟩⟩⟩) := by kernel_rfl

end Go.Vi
namespace Go.Vi
open Go Go.Proofs

theorem MixT : Tryz.prog.follows .mixedOrders = true := by kernel_rfl
def isLow (b : UInt8) : Bool := decide (97 ≤ (b.toNat : Int)) && decide ((b.toNat : Int) ≤ 122)
def isDig (b : UInt8) : Bool := decide (48 ≤ (b.toNat : Int)) && decide ((b.toNat : Int) ≤ 57)
def isMark (b : UInt8) : Bool := isLow b || isDig b || (b.toNat : Int) == 95
def isSign (b : UInt8) : Bool := decide (32 ≤ (b.toNat : Int)) && decide ((b.toNat : Int) ≤ 126)
def mayName (l : List UInt8) : Bool := decide (1 ≤ l.length) && decide (l.length ≤ 16) && (l[0]?).any isLow && l.all isMark
def mayValue (l : List UInt8) : Bool := decide (1 ≤ l.length) && decide (l.length ≤ 32) && l.all isSign
theorem c_lab_letter (H : AHeap) (b : UInt8) : ACalls Tryz.prog 49 [byt b] H (.bool (isLow b)) H := by
  refine acalls_pure MixT Tryz.func49 (by decide) rfl ?_
  rw [d49]
  simp +contextual [isLow]
theorem c_lab_mark (H : AHeap) (b : UInt8) : ACalls Tryz.prog 51 [byt b] H (.bool (isMark b)) H := by
  refine acalls_pure MixT Tryz.func51 (by decide) rfl ?_
  rw [d51]
  refine bndC_of (c_lab_letter _ _) ?_
  simp +contextual [isMark, isDig]
theorem c_lab_sign (H : AHeap) (b : UInt8) : ACalls Tryz.prog 152 [byt b] H (.bool (isSign b)) H := by
  refine acalls_pure MixT Tryz.func152 (by decide) rfl ?_
  rw [d152]
  simp +contextual [isSign]
theorem every_loop {l : List UInt8} {g : FuncId} {p : UInt8 → Bool} {H : AHeap} {k : Value → AHeap → Prop} (hp : ∀ b, ACalls Tryz.prog g [byt b] H (.bool (p b)) H) (hl : l.length < 2 ^ 63) :
    ∀ (r : List UInt8) (i : Nat) (s2 s3 s4 s5 s9 s10 s11 s12 s13 s14 s15 s16 s17 : Value), l.drop i = r → i ≤ l.length → k (.bool (r.all p)) H →
      L50x0 (r.length + 1) k [str l, .func (.func g) #[] #[], s2, s3, s4, s5, str l, i64 l.length, i64 i, s9, s10, s11, s12, s13, s14, s15, s16, s17] H := by
  intro r
  induction r with
  | nil =>
    intro i s2 s3 s4 s5 s9 s10 s11 s12 s13 s14 s15 s16 s17 hd hi hk
    have hle : l.length ≤ i := by simpa using hd
    rw [List.length_nil, L50x0q]
    have : ¬ i < l.length := by omega
    simp [this]
    simpa using hk
  | cons b r ih =>
    intro i s2 s3 s4 s5 s9 s10 s11 s12 s13 s14 s15 s16 s17 hd hi hk
    have hb : l[i]? = some b := by rw [← List.head?_drop, hd]; rfl
    have hlt : i < l.length := (List.getElem?_eq_some_iff.1 hb).1
    rw [List.length_cons, L50x0q]
    simp [hlt, aIndex_at _ hb]
    refine bndV_func (by simpa using hp b) ?_
    simp
    refine kifB_bool (fun h => ?_) (fun h => ?_)
    · simp at h
      simpa [h] using hk
    · simp at h
      simp [show i + 1 < 2 ^ 63 by omega]
      exact ih (i + 1) _ _ _ _ _ _ _ _ _ _ _ _ _ (by rw [← List.drop_drop, hd]; rfl) hlt (by simpa [h] using hk)
theorem c_every {H : AHeap} {l : List UInt8} {g : FuncId} {p : UInt8 → Bool} (hp : ∀ b, ACalls Tryz.prog g [byt b] H (.bool (p b)) H) (hl : l.length < 2 ^ 63) :
    ACalls Tryz.prog 50 [str l, .func (.func g) #[] #[]] H (.bool (l.all p)) H := by
  refine acalls_pure MixT Tryz.func50 (by decide) rfl ?_
  rw [d50]
  simp
  exact ⟨l.length + 1, every_loop hp hl l 0 _ _ _ _ _ _ _ _ _ _ _ _ _ rfl (by omega) ⟨rfl, [], by simp⟩⟩
theorem c_mayName (H : AHeap) (l : List UInt8) : ACalls Tryz.prog 32 [str l] H (.bool (mayName l)) H := by
  refine acalls_pure MixT Tryz.func32 (by decide) rfl ?_
  rw [d32]
  cases l with
  | nil => simp [mayName]
  | cons b r =>
    have hb : (b :: r)[0]? = some b := rfl
    have h0 := aIndex_at (P := Tryz.prog) (T := 9) (k := .i64) (i := 0) (by simp) hb
    simp only [Int.ofNat_zero] at h0
    simp +contextual [h0]
    refine bndG_call (.bool (isLow b)) (fun h => ?_) ?_
    · simp only [h, gsel_tt]; exact c_lab_letter _ _
    simp +contextual
    refine bndG_call (.bool ((b :: r).all isMark)) (fun h => ?_) ?_
    · have hh := h
      simp at h
      simp only [hh, gsel_tt]; exact c_every (c_lab_mark _) (by simp; omega)
    · simp +contextual [mayName]
      have : decide (1 ≤ (r.length : Int) + 1) = true := by simp; omega
      have h2 : decide ((r.length : Int) + 1 ≤ 16) = decide (r.length ≤ 15) := by rw [decide_eq_decide]; omega
      rw [this, h2, Bool.true_and]

theorem c_mayValue (H : AHeap) (l : List UInt8) : ACalls Tryz.prog 137 [str l] H (.bool (mayValue l)) H := by
  refine acalls_pure MixT Tryz.func137 (by decide) rfl ?_
  rw [d137]
  simp +contextual
  refine bndG_call (.bool (l.all isSign)) (fun h => ?_) ?_
  · have hh := h
    simp at h
    simp only [hh, gsel_tt]; exact c_every (c_lab_sign _) (by omega)
  · simp +contextual
    rw [mayValue]
    congr 2 <;> rw [decide_eq_decide] <;> omega

/-! ### Matchers -/
structure Mat where
  name : List UInt8
  op : Int
  value : List UInt8
def Mat.cells (m : Mat) : List Value := [str m.name, .int .u8 m.op, str m.value]
def mayM (s : List UInt8) : Bool := decide (s = []) || mayValue s
def Mat.ok (m : Mat) : Bool := (m.op == 0 || m.op == 1 || m.op == 2) && mayName m.name && mayM m.value
def mayMats (ms : List Mat) : Bool := ms.all Mat.ok && decide (ms.length ≤ 6)
theorem c_matMay (H : AHeap) (l : List UInt8) : ACalls Tryz.prog 121 [str l] H (.bool (mayM l)) H := by
  refine acalls_pure MixT Tryz.func121 (by decide) rfl ?_
  rw [d121]
  simp +contextual
  refine bndG_call (.bool (mayValue l)) (fun h => ?_) ?_
  · simp only [h, gsel_ff]; exact c_mayValue _ _
  · simp +contextual [mayM]
def opsMap : List (Value × Value) := [(.int .u8 0, .agg #[str [61], .func (.func 100) #[] #[]]), (.int .u8 1, .agg #[str [33, 61], .func (.func 101) #[] #[]]), (.int .u8 2, .agg #[str [94, 61], .func (.func 102) #[] #[]])]
theorem c_matOps (H : AHeap) : ACalls Tryz.prog 78 [] H (.map (some H.length)) (H ++ [.map opsMap]) := by
  refine acalls_of MixT Tryz.func78 (by decide) ?_
  rw [d78]
  simp [keyOk, mOk, mput, mfind, keyEq, opsMap]
/-- Matchers in memory. -/
def MatsAt (H : AHeap) (v : Value) (ms : List Mat) : Prop := Arr H 3 v (ms.map Mat.cells)
theorem MatsAt.pre {H K v ms} (h : MatsAt H v ms) (p : Pre H K) : MatsAt K v ms := Arr.pre h p
def isOp (n : Int) : Bool := n == 0 || n == 1 || n == 2
def opS (n : Int) : List UInt8 := if n = 0 then [61] else if n = 1 then [33, 61] else if n = 2 then [94, 61] else []
def opF (n : Int) : Value := if n = 0 then .func (.func 100) #[] #[] else if n = 1 then .func (.func 101) #[] #[] else if n = 2 then .func (.func 102) #[] #[] else .nilFunc
theorem opF_cells (n : Int) : (opF n).cells = #[opF n] := by unfold opF; split <;> (try split) <;> (try split) <;> rfl
theorem opF_one (n : Int) : (opF n).oneCell' = true := by unfold opF; split <;> (try split) <;> (try split) <;> rfl
theorem opsOk : mOk (.int .u8) opsMap = true := by simp [mOk, opsMap, keyOk]
theorem opsLook {K : AHeap} {mb : Nat} (n : Int) (h : K[mb]? = some (.map opsMap)) : aLookup Tryz.prog K 129 (.map (some mb)) (.int .u8 n) true = some (.tuple #[.agg #[str (opS n), opF n], .bool (isOp n)]) := by
  rw [aLookup_map, h]
  simp only [tm129, Option.bind_some, mapOf_map, opsOk, keyOk, beq_self_eq_true, if_true]
  unfold mget opsMap opS opF isOp
  simp only [mfind, keyEq]
  by_cases h0 : n = 0
  · simp [h0]
  · by_cases h1 : n = 1
    · simp [h1]
    · by_cases h2 : n = 2
      · simp [h2]
      · simp [h0, h1, h2, cok, isLit]
theorem matMay_loop {v : Value} {ms : List Mat} {H : AHeap} {w : Bool} {mb : Nat} {k : Value → AHeap → Prop} (hl : ms.length < 2 ^ 63) (hk : ∀ K, Pre H K → k (.bool w) K) :
    ∀ (r : List Mat) (i : Nat) (K : AHeap) (s1 s2 s4 s5 s6 s7 s8 s12 s13 s14 s15 s16 s17 s18 s19 s20 s21 s22 s23 s24 s25 s26 s27 s28 s29 s30 s31 s32 s33 s34 s35 s36 s37 s38 s39 : Value), ms.drop i = r → i ≤ ms.length → Pre H K → MatsAt K v ms → K[mb]? = some (.map opsMap) →
      w = (r.all Mat.ok && decide (ms.length ≤ 6)) →
      L93x0 (r.length + 1) k [v, s1, s2, .map (some mb), s4, s5, s6, s7, s8, v, i64 ms.length, i64 i, s12, s13, s14, s15, s16, s17, s18, s19, s20, s21, s22, s23, s24, s25, s26, s27, s28, s29, s30, s31, s32, s33, s34, s35, s36, s37, s38, s39] K := by
  intro r
  induction r with
  | nil =>
    intro i K s1 s2 s4 s5 s6 s7 s8 s12 s13 s14 s15 s16 s17 s18 s19 s20 s21 s22 s23 s24 s25 s26 s27 s28 s29 s30 s31 s32 s33 s34 s35 s36 s37 s38 s39 hd hi hp hm hmap hw
    have hle : ms.length ≤ i := by simpa using hd
    rw [List.length_nil, L93x0q]
    have : ¬ i < ms.length := by omega
    have hlen := hm.len (P := Tryz.prog) (T := 73) (e := 92) (by simp)
    simp at hlen
    simp [this, hlen]
    have := hk K hp
    rw [hw] at this
    have e : decide ((ms.length : Int) ≤ 6) = decide (ms.length ≤ 6) := by rw [decide_eq_decide]; omega
    rw [e]; simpa using this
  | cons m r ih =>
    intro i K s1 s2 s4 s5 s6 s7 s8 s12 s13 s14 s15 s16 s17 s18 s19 s20 s21 s22 s23 s24 s25 s26 s27 s28 s29 s30 s31 s32 s33 s34 s35 s36 s37 s38 s39 hd hi hp hm hmap hw
    have hb : ms[i]? = some m := by rw [← List.head?_drop, hd]; rfl
    have hlt : i < ms.length := (List.getElem?_eq_some_iff.1 hb).1
    obtain ⟨p, hp1, hp2⟩ := hm.load (P := Tryz.prog) (T := 73) (te := 92) (i := i) (e := m.cells) (by simp) (by simp) (by simp) (by simp [hb])
    have hmb : mb < K.length := (List.getElem?_eq_some_iff.1 hmap).1
    have hg : ∀ X : AHeap, (K ++ X)[mb]? = some (.map opsMap) := fun X => get_more hmap
    rw [List.length_cons, L93x0q]
    have hlook : ∀ X : AHeap, aLookup Tryz.prog (K ++ X) 129 (.map (some mb)) (.int .u8 m.op) true = some (.tuple #[.agg #[str (opS m.op), opF m.op], .bool (isOp m.op)]) := fun X => opsLook _ (hg X)
    simp +contextual [hlt, hp1, hp2, Mat.cells, -aLookup_map, hlook, opF_one]
    refine bndG_call (.bool (mayName m.name)) (fun h => ?_) ?_
    · simp only [h, gsel_ff]; exact c_mayName _ _
    simp +contextual
    refine bndG_call (.bool (mayM m.value)) (fun h => ?_) ?_
    · simp only [h, gsel_ff]; exact c_matMay _ _
    simp +contextual
    have hok : m.ok = (isOp m.op && mayName m.name && mayM m.value) := by simp [Mat.ok, isOp]
    refine kifB_bool (fun h => ?_) (fun h => ?_)
    · have : w = false := by
        rw [hw, List.all_cons, hok]
        revert h; cases isOp m.op <;> cases mayName m.name <;> cases mayM m.value <;> simp
      rw [← this]
      exact hk _ (hp.more _)
    · have h1 : m.ok = true := by
        rw [hok]
        revert h; cases isOp m.op <;> cases mayName m.name <;> cases mayM m.value <;> simp
      simp [show i + 1 < 2 ^ 63 by omega]
      exact ih (i + 1) _ _ _ _ _ _ _ _ _ _ _ _ _ _ _ _ _ _ _ _ _ _ _ _ _ _ _ _ _ _ _ _ _ _ _ _ (by rw [← List.drop_drop, hd]; rfl) hlt (hp.more _) (hm.pre (.app _ _)) (hg _) (by rw [hw, List.all_cons, h1, Bool.true_and])
theorem c_matchMay {H : AHeap} {v : Value} {ms : List Mat} (hm : MatsAt H v ms) (hl : ms.length < 2 ^ 63) : ACalls Tryz.prog 93 [v] H (.bool (mayMats ms)) H := by
  refine acalls_pure MixT Tryz.func93 (by decide) rfl ?_
  rw [d93]
  refine bndC_of (c_matOps H) ?_
  have hlen := (hm.pre (.app H [.map opsMap])).len (P := Tryz.prog) (T := 73) (e := 92) (by simp)
  simp at hlen
  simp [hlen]
  exact ⟨ms.length + 1, matMay_loop (H := H) hl (fun K p => ⟨rfl, p⟩) ms 0 _ _ _ _ _ _ _ _ _ _ _ _ _ _ _ _ _ _ _ _ _ _ _ _ _ _ _ _ _ _ _ _ _ _ _ _ rfl (by omega) (.app _ _) (hm.pre (.app _ _)) (by simp) rfl⟩
end Go.Vi
namespace Go.Vi
open Go Go.Proofs

structure Nod where
  kind : UInt8
  agg : UInt8
  sel : List Mat
  window : Int
  cmp : UInt8
  value : Int
  left : Int
  right : Int
def Nod.cells (n : Nod) (sv : Value) : List Value := [byt n.kind, byt n.agg, sv, i64 n.window, byt n.cmp, i64 n.value, i64 n.left, i64 n.right]
def maxFix : Int := 4611686018427387903
def sat (x : Int) : Int := min (max x (-maxFix)) maxFix
theorem c_sat (H : AHeap) (x : Int) : ACalls Tryz.prog 81 [i64 x] H (i64 (sat x)) H := by
  refine acalls_pure MixT Tryz.func81 (by decide) rfl ?_
  rw [d81]
  simp [sat, maxFix]
  split <;> split <;> omega
def aggs : List (List UInt8) := [[99, 111, 117, 110, 116], [115, 117, 109], [109, 105, 110], [109, 97, 120], [109, 101, 97, 110], [108, 97, 115, 116]]
def cmps : List (List UInt8) := [[60], [60, 61], [62], [62, 61], [61, 61], [33, 61]]
theorem c_aggregates (H : AHeap) : ACalls Tryz.prog 60 [] H (.slice (some ⟨H.length, 0, some 6⟩) 6 6) (H ++ [.cells (aggs.map str) 9]) := by
  refine acalls_of MixT Tryz.func60 (by decide) ?_
  rw [d60]
  exact bndL_of (by decide) (by kernel_rfl) ⟨rfl, rfl⟩
theorem c_compares (H : AHeap) : ACalls Tryz.prog 62 [] H (.slice (some ⟨H.length, 0, some 6⟩) 6 6) (H ++ [.cells (cmps.map str) 9]) := by
  refine acalls_of MixT Tryz.func62 (by decide) ?_
  rw [d62]
  exact bndL_of (by decide) (by kernel_rfl) ⟨rfl, rfl⟩
def Nod.plain (n : Nod) : Bool := decide ((n.agg.toNat : Int) < 6) && mayMats n.sel && decide (n.window ≥ 1) && decide (n.window ≤ 1000) && decide ((n.cmp.toNat : Int) < 6) && (sat n.value == n.value) && (n.left == 0) && (n.right == 0)
def Nod.void (n : Nod) : Bool := ((n.agg.toNat : Int) == 0) && ((n.sel.length : Int) == 0) && (n.window == 0) && ((n.cmp.toNat : Int) == 0) && (n.value == 0)
theorem MatsAt.one {H v ms} (h : MatsAt H v ms) : v.oneCell' = true := Arr.one h
theorem c_void {H : AHeap} {n : Nod} {sv : Value} (hs : MatsAt H sv n.sel) : ACalls Tryz.prog 73 [.agg (n.cells sv).toArray] H (.bool n.void) H := by
  refine acalls_pure MixT Tryz.func73 (by decide) rfl ?_
  rw [d73]
  have h1 := hs.one
  have hl := fun X => (hs.pre (.app H X)).len (P := Tryz.prog) (T := 73) (e := 92) (by simp)
  simp at hl
  simp +contextual [aNew_agg, Nod.cells, Nod.void, h1, hl]
theorem c_plain {H : AHeap} {n : Nod} {sv : Value} (hs : MatsAt H sv n.sel) (hsl : n.sel.length < 2 ^ 63) : ACalls Tryz.prog 72 [.agg (n.cells sv).toArray] H (.bool n.plain) H := by
  refine acalls_pure MixT Tryz.func72 (by decide) rfl ?_
  rw [d72]
  have h1 := hs.one
  simp +contextual [aNew_agg, Nod.cells, h1]
  refine bndD_of (c_aggregates _) (.inr ⟨_, rfl⟩) ?_
  simp +contextual
  refine bndD_gcall (.bool (mayMats n.sel)) (by simp) (fun h => ?_) ?_
  · simp only [h, gsel_tt]; rw [List.append_assoc]; exact c_matchMay (hs.pre (.app _ _)) hsl
  simp +contextual
  refine bndD_gcases _ _ (by simp) (fun h => ?_) (fun _ => c_compares _) (.inr ⟨_, by simp; rfl⟩) (fun h => ?_)
  · have e : n.plain = false := by simp only [Nod.plain, ge_iff_le, h, Bool.false_and]
    simp [h, e]
  · simp +contextual [h]
    refine bndD_gcall (i64 (sat n.value)) (by simp) (fun h => ?_) ?_
    · simp only [h, gsel_tt]; exact c_sat _ _
    simp +contextual
    simp only [Nod.plain, ge_iff_le, h, Bool.true_and]

/-- Nodes in memory. -/
def NodesAt (H : AHeap) (v : Value) (ns : List Nod) : Prop := ∃ cl : List (List Value), Arr H 8 v cl ∧ cl.length = ns.length ∧ ∀ (i : Nat) n, ns[i]? = some n → ∃ sv, cl[i]? = some (n.cells sv) ∧ MatsAt H sv n.sel ∧ n.sel.length < 2 ^ 63
theorem NodesAt.pre {H K v ns} (h : NodesAt H v ns) (p : Pre H K) : NodesAt K v ns := by
  obtain ⟨cl, h1, h2, h3⟩ := h
  refine ⟨cl, h1.pre p, h2, fun i n hi => ?_⟩
  obtain ⟨sv, q1, q2, q3⟩ := h3 i n hi
  exact ⟨sv, q1, q2.pre p, q3⟩
theorem NodesAt.len {H v ns} (h : NodesAt H v ns) (K : AHeap) : aLen Tryz.prog K 31 v = some (i64 ns.length) := by
  obtain ⟨cl, h1, h2, _⟩ := h
  rw [← h2]
  exact h1.len' (e := 75) (by simp)
def isAnd (n : Nod) : Bool := (n.kind.toNat : Int) == 1
def isOr (n : Nod) : Bool := (n.kind.toNat : Int) == 2
def beg (ns : List Nod) : Nat → Int → Int
  | 0, _ => -1
  | f + 1, e => if e < 0 then -1 else match ns[e.toNat]? with
    | none => -1
    | some n =>
      if ((n.kind.toNat : Int) == 0) = true then (if n.plain = true then e else -1)
      else if ((n.kind.toNat : Int) == 3) = true then (if (n.void && n.left == e - 1 && n.right == 0) = true then beg ns f (e - 1) else -1)
      else if (isAnd n || isOr n) = true then
        (if (n.void && n.right == e - 1 && decide (beg ns f (e - 1) > 0) && n.left == beg ns f (e - 1) - 1) = true then beg ns f (beg ns f (e - 1) - 1) else -1)
      else -1
theorem beg_range (ns : List Nod) : ∀ (f : Nat) (e : Int), -1 ≤ e → -1 ≤ beg ns f e ∧ beg ns f e ≤ e := by
  intro f
  induction f with
  | zero => intro e h; exact ⟨Int.le_refl _, h⟩
  | succ f ih =>
    intro e h
    simp only [beg]
    split
    · omega
    · split
      · omega
      · split
        · split <;> omega
        · split
          · split
            · have := ih (e - 1) (by omega); omega
            · omega
          · split
            · split
              · rename_i n _ _ _ _ hc
                simp only [Bool.and_eq_true, decide_eq_true_eq] at hc
                have h1 := ih (e - 1) (by omega)
                have := ih (beg ns f (e - 1) - 1) (by omega)
                omega
              · omega
            · omega
attribute [local simp] S53x0q S53x1q
theorem c_begin {ns : List Nod} {v : Value} (hlen : ns.length < 2 ^ 40) : ∀ (f : Nat) (H : AHeap) (e : Int), NodesAt H v ns → -1 ≤ e → e < ns.length → e < f → ACalls Tryz.prog 53 [v, i64 e] H (i64 (beg ns f e)) H := by
  intro f
  induction f with
  | zero =>
    intro H e hn h1 h2 h3
    refine acalls_pure MixT Tryz.func53 (by decide) rfl ?_
    rw [d53]
    have : e = -1 := by omega
    subst this
    simp [beg]
  | succ f ih =>
    intro H e hn h1 h2 h3
    refine acalls_pure MixT Tryz.func53 (by decide) rfl ?_
    rw [d53]
    by_cases h0 : e < 0
    · simp [beg, h0]
    obtain ⟨cl, ha, hcl, hc⟩ := hn
    obtain ⟨n, hnd⟩ : ∃ n, ns[e.toNat]? = some n := ⟨_, List.getElem?_eq_getElem (by omega)⟩
    obtain ⟨sv, hsv, hm, hml⟩ := hc _ _ hnd
    obtain ⟨p, hp1, hp2⟩ := ha.load (P := Tryz.prog) (T := 31) (te := 75) (i := e.toNat) (e := n.cells sv) (by simp) (by simp) (by simp) hsv
    have het : ((e.toNat : Nat) : Int) = e := by omega
    rw [het] at hp1
    have hone := hm.one
    simp [h0, hp1, hp2, Nod.cells, hone]
    have hK : ∀ X : AHeap, NodesAt (H ++ X) v ns := fun X => NodesAt.pre ⟨cl, ha, hcl, hc⟩ (.app _ _)
    have hpl := fun X : AHeap => c_plain (H := H ++ X) (hm.pre (.app _ _)) hml
    have hvo := fun X : AHeap => c_void (H := H ++ X) (hm.pre (.app _ _))
    have hw : IntKind.i64.wrap (e - 1) = e - 1 := wrap_i64 (by omega) (by omega)
    have hr := ih (H ++ [AObj.cells [byt n.kind, byt n.agg, sv, i64 n.window, byt n.cmp, i64 n.value, i64 n.left, i64 n.right] 75]) (e - 1) (hK _) (by omega) (by omega) (by omega)
    obtain ⟨rb1, rb2⟩ := beg_range ns f (e - 1) (by omega)
    have hw2 : IntKind.i64.wrap (beg ns f (e - 1) - 1) = beg ns f (e - 1) - 1 := wrap_i64 (by omega) (by omega)
    simp only [Nod.cells] at hpl hvo
    have hbeg : beg ns (f + 1) e = if ((n.kind.toNat : Int) == 0) = true then (if n.plain = true then e else -1)
      else if ((n.kind.toNat : Int) == 3) = true then (if (n.void && n.left == e - 1 && n.right == 0) = true then beg ns f (e - 1) else -1)
      else if (isAnd n || isOr n) = true then
        (if (n.void && n.right == e - 1 && decide (beg ns f (e - 1) > 0) && n.left == beg ns f (e - 1) - 1) = true then beg ns f (beg ns f (e - 1) - 1) else -1)
      else -1 := by rw [beg, if_neg h0, hnd]
    generalize beg ns (f + 1) e = res at hbeg ⊢
    refine kifB_bool (fun hk => ?_) (fun hk => ?_)
    · rw [hk, if_pos rfl] at hbeg
      simp
      refine bndC_of (hpl _) ?_
      refine kifB_bool (fun hq => ?_) (fun hq => ?_) <;> simp [hq, hbeg]
    rw [hk, if_neg (by simp)] at hbeg
    simp
    refine kifB_bool (fun hk3 => ?_) (fun hk3 => ?_)
    · rw [hk3, if_pos rfl] at hbeg
      simp
      refine bndC_of (hvo _) ?_
      simp +contextual [hw]
      refine kifB_bool (fun hq => ?_) (fun hq => ?_)
      · rw [hq, if_pos rfl] at hbeg
        simp [hw]
        exact bndC_of hr (by simp [hbeg])
      · rw [hq, if_neg (by simp)] at hbeg
        simp [hbeg]
    rw [hk3, if_neg (by simp)] at hbeg
    simp
    refine kifB_bool (fun hk1 => ?_) (fun hk1 => ?_)
    · rw [show (isAnd n || isOr n) = true by simp only [isAnd, hk1, Bool.true_or], if_pos rfl] at hbeg
      simp only [S53x1q, kifB_true, aBin_sub, hw, bnd_some, hk1]
      refine bndC_of hr ?_
      simp
      refine bndC_of (hvo _) ?_
      simp +contextual [hw, hw2]
      refine kifB_bool (fun hq => ?_) (fun hq => ?_)
      · rw [hq, if_pos rfl] at hbeg
        have hpos : beg ns f (e - 1) > 0 := by
          revert hq; cases hd : decide (beg ns f (e - 1) > 0)
          · simp
          · intro _; simpa using hd
        simp [hw2]
        exact bndC_of (ih _ (beg ns f (e - 1) - 1) (hK _) (by omega) (by omega) (by omega)) (by simp [hbeg])
      · rw [hq, if_neg (by simp)] at hbeg
        simp [hbeg]
    · simp
      refine kifB_bool (fun hk2 => ?_) (fun hk2 => ?_)
      · rw [show (isAnd n || isOr n) = true by simp only [isOr, hk2, Bool.or_true], if_pos rfl] at hbeg
        simp only [aBin_sub, hw, bnd_some]
        refine bndC_of hr ?_
        simp
        refine bndC_of (hvo _) ?_
        simp +contextual [hw, hw2]
        refine kifB_bool (fun hq => ?_) (fun hq => ?_)
        · rw [hq, if_pos rfl] at hbeg
          have hpos : beg ns f (e - 1) > 0 := by
            revert hq; cases hd : decide (beg ns f (e - 1) > 0)
            · simp
            · intro _; simpa using hd
          simp [hw2]
          exact bndC_of (ih _ (beg ns f (e - 1) - 1) (hK _) (by omega) (by omega) (by omega)) (by simp [hbeg])
        · rw [hq, if_neg (by simp)] at hbeg
          simp [hbeg]
      · rw [show (isAnd n || isOr n) = false by simp only [isAnd, isOr, hk1, hk2, Bool.or_self], if_neg (by simp)] at hbeg
        simp [hbeg]
def right (ns : List Nod) : Bool := decide ((ns.length : Int) ≥ 1) && decide ((ns.length : Int) ≤ 31) && (beg ns ns.length ((ns.length : Int) - 1) == 0)
theorem c_right {H : AHeap} {ns : List Nod} {v : Value} (hn : NodesAt H v ns) : ACalls Tryz.prog 37 [v] H (.bool (right ns)) H := by
  refine acalls_pure MixT Tryz.func37 (by decide) rfl ?_
  rw [d37]
  have hl := hn.len H
  simp +contextual [hl]
  refine bndG_call (i64 (beg ns ns.length ((ns.length : Int) - 1))) (fun h => ?_) ?_
  · simp only [h, gsel_tt]
    simp at h
    have : IntKind.i64.wrap ((ns.length : Int) - 1) = (ns.length : Int) - 1 := wrap_i64 (by omega) (by omega)
    rw [this]
    exact c_begin (by omega) _ _ _ hn (by omega) (by omega) (by omega)
  · simp +contextual [right]
end Go.Vi
namespace Go.Vi
open Go Go.Proofs

theorem c_among (H : AHeap) (n a b : Int) : ACalls Tryz.prog 25 [i64 n, i64 a, i64 b] H (.bool (decide (n ≥ a) && decide (n ≤ b))) H := by
  refine acalls_pure MixT Tryz.func25 (by decide) rfl ?_
  rw [d25]
  simp +contextual
def boolCells (l : List Bool) : List (List Value) := l.map fun b => [.bool b]
theorem idxB_loop {l : List Bool} {x : Bool} {H : AHeap} {v : Value} {k : Value → AHeap → Prop} (ha : Arr H 1 v (boolCells l)) (hl : l.length < 2 ^ 63) :
    ∀ (r : List Bool) (i : Nat) (s2 s3 s4 s5 s9 s10 s11 s12 s13 s14 s15 s16 s17 s18 : Value), l.drop i = r → i ≤ l.length → k (i64 (offI i (idxF (x == ·) r))) H →
      L54x0 (r.length + 1) k [v, .bool x, s2, s3, s4, s5, v, i64 l.length, i64 i, s9, s10, s11, s12, s13, s14, s15, s16, s17, s18] H := by
  intro r
  induction r with
  | nil =>
    intro i s2 s3 s4 s5 s9 s10 s11 s12 s13 s14 s15 s16 s17 s18 hd hi hk
    have hle : l.length ≤ i := by simpa using hd
    rw [List.length_nil, L54x0q]
    have : ¬ i < l.length := by omega
    simp [this]
    simpa [idxF, offI] using hk
  | cons b r ih =>
    intro i s2 s3 s4 s5 s9 s10 s11 s12 s13 s14 s15 s16 s17 s18 hd hi hk
    have hb : l[i]? = some b := by rw [← List.head?_drop, hd]; rfl
    have hlt : i < l.length := (List.getElem?_eq_some_iff.1 hb).1
    obtain ⟨p, hp1, hp2⟩ := ha.load1 (P := Tryz.prog) (T := 71) (te := 4) (i := i) (x := .bool b) (by simp) (by simp) (by simp) (by simp [boolCells, hb])
    rw [List.length_cons, L54x0q]
    have hcmp : ∀ o1 o2, aBin2 Tryz.prog H .eql 4 o1 o2 (.bool x) (.bool b) = some (.bool (x == b)) := fun o1 o2 => aBin_beq2 (by simp)
    simp only [aBin_lss, bnd_some, Int.ofNat_lt, hlt, decide_true, kifB_true, hp1, hp2, hcmp]
    rw [offI_cons] at hk
    refine kifB_bool (fun h => ?_) (fun h => ?_)
    · rw [if_pos h] at hk
      exact hk
    · rw [if_neg (by simp [h])] at hk
      simp [show i + 1 < 2 ^ 63 by omega]
      exact ih (i + 1) _ _ _ _ _ _ _ _ _ _ _ _ _ _ (by rw [← List.drop_drop, hd]; rfl) hlt hk
theorem c_indexB {l : List Bool} {x : Bool} {H : AHeap} {v : Value} (ha : Arr H 1 v (boolCells l)) (hl : l.length < 2 ^ 63) : ACalls Tryz.prog 54 [v, .bool x] H (i64 (idxF (x == ·) l)) H := by
  refine acalls_pure MixT Tryz.func54 (by decide) rfl ?_
  rw [d54]
  have hlen := ha.len (P := Tryz.prog) (T := 71) (e := 4) (by simp)
  simp [boolCells] at hlen
  simp [hlen]
  refine ⟨l.length + 1, idxB_loop ha hl l 0 _ _ _ _ _ _ _ _ _ _ _ _ _ _ rfl (by omega) ⟨?_, [], by simp⟩⟩
  unfold offI
  split <;> simp [*]
theorem c_containsB {l : List Bool} {x : Bool} {H : AHeap} {v : Value} (ha : Arr H 1 v (boolCells l)) (hl : l.length < 2 ^ 63) : ACalls Tryz.prog 38 [v, .bool x] H (.bool (l.any (x == ·))) H := by
  refine acalls_pure MixT Tryz.func38 (by decide) rfl ?_
  rw [d38]
  refine bndC_of (c_indexB ha hl) ?_
  simp
  exact idxF_any _ _
def errno (ok : Bool) : Int := if ok = true then 0 else 110
theorem c_all {l : List Bool} {H : AHeap} {v : Value} (ha : Arr H 1 v (boolCells l)) (hl : l.length < 2 ^ 63) : ACalls Tryz.prog 24 [v] H (i64 (errno (l.all id))) H := by
  refine acalls_pure MixT Tryz.func24 (by decide) rfl ?_
  rw [d24]
  refine bndC_of (c_containsB ha hl) ?_
  have e : ∀ l : List Bool, l.any (false == ·) = !(l.all id) := by
    intro l
    induction l with
    | nil => rfl
    | cons b r ih => rw [List.any_cons, List.all_cons, ih]; cases b <;> simp
  rw [e]
  cases h : l.all id <;> simp [errno]
def strCells (l : List (List UInt8)) : List (List Value) := l.map fun s => [str s]
theorem idxS_loop {l : List (List UInt8)} {p : List UInt8 → Bool} {g : FuncId} {H : AHeap} {v : Value} {k : Value → AHeap → Prop} (ha : Arr H 1 v (strCells l)) (hl : l.length < 2 ^ 63) (hp : ∀ s, ACalls Tryz.prog g [str s] H (.bool (p s)) H) :
    ∀ (r : List (List UInt8)) (i : Nat) (s2 s3 s4 s5 s9 s10 s11 s12 s13 s14 s15 s16 s17 s18 : Value), l.drop i = r → i ≤ l.length → k (i64 (offI i (idxF p r))) H →
      L52x0 (r.length + 1) k [v, .func (.func g) #[] #[], s2, s3, s4, s5, v, i64 l.length, i64 i, s9, s10, s11, s12, s13, s14, s15, s16, s17, s18] H := by
  intro r
  induction r with
  | nil =>
    intro i s2 s3 s4 s5 s9 s10 s11 s12 s13 s14 s15 s16 s17 s18 hd hi hk
    have hle : l.length ≤ i := by simpa using hd
    rw [List.length_nil, L52x0q]
    have : ¬ i < l.length := by omega
    simp [this]
    simpa [idxF, offI] using hk
  | cons b r ih =>
    intro i s2 s3 s4 s5 s9 s10 s11 s12 s13 s14 s15 s16 s17 s18 hd hi hk
    have hb : l[i]? = some b := by rw [← List.head?_drop, hd]; rfl
    have hlt : i < l.length := (List.getElem?_eq_some_iff.1 hb).1
    obtain ⟨q, hp1, hp2⟩ := ha.load1 (P := Tryz.prog) (T := 32) (te := 9) (i := i) (x := str b) (by simp) (by simp) (by simp) (by simp [strCells, hb])
    rw [List.length_cons, L52x0q]
    simp only [aBin_lss, bnd_some, Int.ofNat_lt, hlt, decide_true, kifB_true, hp1, hp2]
    refine bndV_func (by simpa using hp b) ?_
    rw [offI_cons] at hk
    refine kifB_bool (fun h => ?_) (fun h => ?_)
    · rw [if_pos h] at hk
      exact hk
    · rw [if_neg (by simp [h])] at hk
      simp [show i + 1 < 2 ^ 63 by omega]
      exact ih (i + 1) _ _ _ _ _ _ _ _ _ _ _ _ _ _ (by rw [← List.drop_drop, hd]; rfl) hlt hk
theorem c_containsS {l : List (List UInt8)} {p : List UInt8 → Bool} {g : FuncId} {H : AHeap} {v : Value} (ha : Arr H 1 v (strCells l)) (hl : l.length < 2 ^ 63) (hp : ∀ s, ACalls Tryz.prog g [str s] H (.bool (p s)) H) :
    ACalls Tryz.prog 33 [v, .func (.func g) #[] #[]] H (.bool (l.any p)) H := by
  refine acalls_pure MixT Tryz.func33 (by decide) rfl ?_
  rw [d33]
  have hi : ACalls Tryz.prog 52 [v, .func (.func g) #[] #[]] H (i64 (idxF p l)) H := by
    refine acalls_pure MixT Tryz.func52 (by decide) rfl ?_
    rw [d52]
    have hlen := ha.len (P := Tryz.prog) (T := 32) (e := 9) (by simp)
    simp [strCells] at hlen
    simp [hlen]
    refine ⟨l.length + 1, idxS_loop ha hl hp l 0 _ _ _ _ _ _ _ _ _ _ _ _ _ _ rfl (by omega) ⟨?_, [], by simp⟩⟩
    unfold offI
    split <;> simp [*]
  refine bndC_of hi ?_
  simp
  exact idxF_any _ _
theorem c_rule1 (H : AHeap) (s : List UInt8) : ACalls Tryz.prog 34 [str s] H (.bool (!mayName s)) H := by
  refine acalls_pure MixT Tryz.func34 (by decide) rfl ?_
  rw [d34]
  refine bndC_of (c_mayName _ _) ?_
  simp
theorem c_itself (H : AHeap) (s : List UInt8) : ACalls Tryz.prog 36 [str s] H (str s) H := by
  refine acalls_pure MixT Tryz.func36 (by decide) rfl ?_
  rw [d36]
  exact ⟨rfl, [], by simp⟩
def keysOf {α : Type} [DecidableEq α] (l : List α) : List α := l.foldl addKey []
def onceB {α : Type} [DecidableEq α] (l : List α) : Bool := ((keysOf l).length : Int) == (l.length : Int)
def QCount : List UInt8 → Value → Prop := fun _ v => ∃ n, v = i64 n
theorem onceS_loop {l : List (List UInt8)} {H : AHeap} {v : Value} {k : Value → AHeap → Prop} (hl : l.length < 2 ^ 63) (w : Bool) (hw : w = onceB l) (hk : ∀ K, Pre H K → k (.bool w) K) (b : Nat) (hbH : H.length ≤ b) :
    ∀ (r : List (List UInt8)) (i : Nat) (es : List (Value × Value)) (ks : List (List UInt8)) (K : AHeap) (s2 s3 s4 s6 s7 s8 s12 s13 s14 s15 s16 s17 s18 s19 s20 s21 s22 s23 s24 s25 s26 : Value), l.drop i = r → i ≤ l.length → Pre H K → Arr K 1 v (strCells l) → K[b]? = some (.map es) → SMap QCount es ks → r.foldl addKey ks = keysOf l →
      L35x0 (r.length + 1) k [v, .func (.func 36) #[] #[], s2, s3, s4, .map (some b), s6, s7, s8, v, i64 l.length, i64 i, s12, s13, s14, s15, s16, s17, s18, s19, s20, s21, s22, s23, s24, s25, s26] K := by
  intro r
  induction r with
  | nil =>
    intro i es ks K s2 s3 s4 s6 s7 s8 s12 s13 s14 s15 s16 s17 s18 s19 s20 s21 s22 s23 s24 s25 s26 hd hi hp ha hm hs hf
    have hle : l.length ≤ i := by simpa using hd
    rw [List.length_nil, L35x0q]
    have : ¬ i < l.length := by omega
    have hlen := ha.len (P := Tryz.prog) (T := 32) (e := 9) (by simp)
    simp [strCells] at hlen
    have hml : aLen Tryz.prog K 93 (.map (some b)) = some (i64 es.length) := by simp [aLen, hm]
    simp [this, hlen, hml]
    have := hk K hp
    rw [hw, onceB, ← hf, List.foldl_nil, ← hs.len] at this
    exact this
  | cons s r ih =>
    intro i es ks K s2 s3 s4 s6 s7 s8 s12 s13 s14 s15 s16 s17 s18 s19 s20 s21 s22 s23 s24 s25 s26 hd hi hp ha hm hs hf
    have hb : l[i]? = some s := by rw [← List.head?_drop, hd]; rfl
    have hlt : i < l.length := (List.getElem?_eq_some_iff.1 hb).1
    obtain ⟨q, hp1, hp2⟩ := ha.load1 (P := Tryz.prog) (T := 32) (te := 9) (i := i) (x := str s) (by simp) (by simp) (by simp) (by simp [strCells, hb])
    rw [List.length_cons, L35x0q]
    simp only [aBin_lss, bnd_some, Int.ofNat_lt, hlt, decide_true, kifB_true, hp1, hp2]
    refine bndV_func (by simpa using c_itself K s) ?_
    obtain ⟨x, hx⟩ : ∃ n, aLookup Tryz.prog K 93 (.map (some b)) (str s) false = some (i64 n) := by
      rw [aLookup_map, hm]
      simp only [tm93, Option.bind_some, mapOf_map, keyOk, if_true, hs.ok]
      rcases hs.get (k := s) with ⟨_, v, g1, n, rfl⟩ | ⟨_, g1⟩
      · rw [g1]; exact ⟨n, by simp⟩
      · rw [g1]; exact ⟨0, by simp [cok, isLit]⟩
    simp only [hx, bnd_some, aBin_add, aUpdate_map, hm, tm93, Option.bind_some, mapOf_map, keyOk, hs.ok, and_self, if_true, bndS_some, wrap_succ (show i + 1 < 2 ^ 63 by omega)]
    exact ih (i + 1) _ (addKey ks s) _ _ _ _ _ _ _ _ _ _ _ _ _ _ _ _ _ _ _ _ _ _ (by rw [← List.drop_drop, hd]; rfl) hlt (hp.set hbH) (ha.set (hcells_map hm)) (get_set hm) (hs.put ⟨_, rfl⟩) hf
theorem c_onceS {l : List (List UInt8)} {H : AHeap} {v : Value} (ha : Arr H 1 v (strCells l)) (hl : l.length < 2 ^ 63) : ACalls Tryz.prog 35 [v, .func (.func 36) #[] #[]] H (.bool (onceB l)) H := by
  refine acalls_pure MixT Tryz.func35 (by decide) rfl ?_
  rw [d35]
  have hlen := (ha.pre (.app H [.map []])).len (P := Tryz.prog) (T := 32) (e := 9) (by simp)
  simp [strCells] at hlen
  simp [hlen]
  exact ⟨l.length + 1, onceS_loop (H := H) hl _ rfl (fun K p => ⟨rfl, p⟩) H.length (Nat.le_refl _) l 0 [] [] _ _ _ _ _ _ _ _ _ _ _ _ _ _ _ _ _ _ _ _ _ _ rfl (by omega) (.app _ _) (ha.pre (.app _ _)) (by simp) trivial rfl⟩

/-! ### Rules -/
structure Rul where
  name : List UInt8
  byL : List UInt8
  nodes : List Nod
  forM : Int
  every : Int
  repeatM : Int
  mutes : List (List UInt8)
  route : List UInt8
def Rul.cells (r : Rul) (nv mv : Value) : List Value := [str r.name, str r.byL, nv, i64 r.forM, i64 r.every, i64 r.repeatM, mv, str r.route]
def Rul.mayB (r : Rul) : Bool := [mayName r.name, decide (r.byL = []) || mayName r.byL, mayName r.route, !decide (r.route = [109, 101, 116, 97]), decide (r.forM ≥ 0) && decide (r.forM ≤ 1000), decide (r.every ≥ 1) && decide (r.every ≤ 100),
  decide (r.repeatM ≥ 1) && decide (r.repeatM ≤ 10000), decide ((r.mutes.length : Int) ≤ 4), !(r.mutes.any fun s => !mayName s), onceB r.mutes, right r.nodes].all id
theorem all_lit {H : AHeap} {l : List Bool} (hl : l.length < 2 ^ 63) : ACalls Tryz.prog 24 [.slice (some ⟨H.length, 0, some l.length⟩) l.length l.length] (H ++ [.cells (l.map .bool) 4]) (i64 (errno (l.all id))) (H ++ [.cells (l.map .bool) 4]) := by
  have := arr1_new (H := H) (T := 4) (l.map Value.bool) []
  simp only [List.length_map, List.map_map] at this
  exact c_all (l := l) (by simpa [boolCells, Function.comp_def] using this) hl
theorem c_rule {H : AHeap} {r : Rul} {nv mv : Value} (hn : NodesAt H nv r.nodes) (hm : Arr H 1 mv (strCells r.mutes)) (hml : r.mutes.length < 2 ^ 63) : ACalls Tryz.prog 12 [.agg (r.cells nv mv).toArray] H (i64 (errno r.mayB)) H := by
  refine acalls_pure MixT Tryz.func12 (by decide) rfl ?_
  rw [d12]
  have h1 : nv.oneCell' = true := by obtain ⟨cl, h, _⟩ := hn; exact h.one
  have h2 := hm.one
  have hlen := fun X => (hm.pre (.app H X)).len (P := Tryz.prog) (T := 32) (e := 9) (by simp)
  simp [strCells] at hlen
  simp [aNew_agg, Rul.cells, h1, h2]
  refine bndD_same (c_mayName _ _) ?_
  simp +contextual
  refine bndD_gcall (.bool (mayName r.byL)) (by simp) (fun h => ?_) ?_
  · simp only [h, gsel_ff]; exact c_mayName _ _
  simp +contextual
  refine bndD_same (c_mayName _ _) ?_
  simp
  refine bndD_same (c_among _ _ _ _) ?_
  simp
  refine bndD_same (c_among _ _ _ _) ?_
  simp
  refine bndD_same (c_among _ _ _ _) ?_
  simp [hlen]
  refine bndD_same (c_containsS (hm.pre (.app _ _)) hml (c_rule1 _)) ?_
  simp
  refine bndD_same (c_onceS (hm.pre (.app _ _)) hml) ?_
  simp
  refine bndD_same (c_right (hn.pre (.app _ _))) ?_
  refine bndD_of (sliceLit1 (e := 4) (zv := .bool false) (l := [mayName r.name, decide (r.byL = []) || mayName r.byL, mayName r.route, !decide (r.route = [109, 101, 116, 97]), decide (r.forM ≥ 0) && decide (r.forM ≤ 1000), decide (r.every ≥ 1) && decide (r.every ≤ 100),
    decide (r.repeatM ≥ 1) && decide (r.repeatM ≤ 10000), decide ((r.mutes.length : Int) ≤ 4), !(r.mutes.any fun s => !mayName s), onceB r.mutes, right r.nodes].map .bool) (by simp) (by simp) rfl (by simp)) (.inl rfl) ?_
  refine bndD_of (all_lit (by simp)) (.inl rfl) ?_
  exact ⟨rfl, _, List.append_assoc _ _ _⟩
end Go.Vi
namespace Go.Vi
open Go Go.Proofs

structure Mut where
  name : List UInt8
  days : List Bool
  fromM : Int
  toM : Int
def Mut.cells (m : Mut) : List Value := str m.name :: (m.days.map .bool ++ [i64 m.fromM, i64 m.toM])
def Mut.mayB (m : Mut) : Bool := [mayName m.name, m.days.any (true == ·), decide (m.fromM ≥ 0) && decide (m.fromM ≤ 1439), decide (m.toM ≥ 1) && decide (m.toM ≤ 1440), m.fromM != m.toM].all id
theorem Mut.one (m : Mut) : ∀ v ∈ m.cells, v.oneCell' = true := by
  intro v hv
  simp only [Mut.cells, List.mem_cons, List.mem_append, List.mem_map, List.not_mem_nil, or_false] at hv
  rcases hv with rfl | ⟨b, _, rfl⟩ | rfl | rfl <;> rfl
theorem c_mute {H : AHeap} {m : Mut} (hd : m.days.length = 7) : ACalls Tryz.prog 13 [.agg m.cells.toArray] H (i64 (errno m.mayB)) H := by
  refine acalls_pure MixT Tryz.func13 (by decide) rfl ?_
  rw [d13]
  obtain ⟨name, days, fr, to⟩ := m
  simp only at hd
  match days, hd with
  | [d0, d1, d2, d3, d4, d5, d6], _ =>
    simp [aNew_agg, Mut.cells]
    refine bndD_same (c_mayName _ _) ?_
    simp [aSliceOp, aLow, aHigh]
    refine bndD_same (c_containsB (l := [d0, d1, d2, d3, d4, d5, d6]) ?_ (by simp)) ?_
    · refine .mk _ _ _ _ _ _ _ rfl (by simp; rfl) rfl (by simp) fun i e he => ?_
      match i, he with
      | 0, he | 1, he | 2, he | 3, he | 4, he | 5, he | 6, he => simp [boolCells] at he; subst he; rfl
      | n + 7, he => simp [boolCells] at he
    simp
    refine bndD_same (c_among _ _ _ _) ?_
    simp
    refine bndD_same (c_among _ _ _ _) ?_
    simp
    refine bndD_of (sliceLit1 (e := 4) (zv := .bool false) (l := [mayName name, [d0, d1, d2, d3, d4, d5, d6].any (true == ·), decide (fr ≥ 0) && decide (fr ≤ 1439), decide (to ≥ 1) && decide (to ≤ 1440), fr != to].map .bool) (by simp) (by simp) rfl (by simp)) (.inl rfl) ?_
    refine bndD_of (all_lit (by simp)) (.inl rfl) ?_
    exact ⟨rfl, _, List.append_assoc _ _ _⟩
/-- Mutes in memory. -/
def MutesAt (H : AHeap) (v : Value) (ms : List Mut) : Prop := Arr H 10 v (ms.map Mut.cells) ∧ ∀ m ∈ ms, m.days.length = 7
theorem MutesAt.pre {H K v ms} (h : MutesAt H v ms) (p : Pre H K) : MutesAt K v ms := ⟨h.1.pre p, h.2⟩
theorem idxM_loop {l : List Mut} {p : Mut → Bool} {g : FuncId} {cap : Array Value} {H : AHeap} {v : Value} {k : Value → AHeap → Prop} (ha : MutesAt H v l) (hl : l.length < 2 ^ 63) (hp : ∀ m ∈ l, ACalls Tryz.prog g ([.agg m.cells.toArray] ++ cap.toList) H (.bool (p m)) H) :
    ∀ (r : List Mut) (i : Nat) (s2 s3 s4 s5 s9 s10 s11 s12 s13 s14 s15 s16 s17 s18 : Value), l.drop i = r → i ≤ l.length → k (i64 (offI i (idxF p r))) H →
      L48x0 (r.length + 1) k [v, .func (.func g) #[] cap, s2, s3, s4, s5, v, i64 l.length, i64 i, s9, s10, s11, s12, s13, s14, s15, s16, s17, s18] H := by
  intro r
  induction r with
  | nil =>
    intro i s2 s3 s4 s5 s9 s10 s11 s12 s13 s14 s15 s16 s17 s18 hd hi hk
    have hle : l.length ≤ i := by simpa using hd
    rw [List.length_nil, L48x0q]
    have : ¬ i < l.length := by omega
    simp [this]
    simpa [idxF, offI] using hk
  | cons b r ih =>
    intro i s2 s3 s4 s5 s9 s10 s11 s12 s13 s14 s15 s16 s17 s18 hd hi hk
    have hb : l[i]? = some b := by rw [← List.head?_drop, hd]; rfl
    have hlt : i < l.length := (List.getElem?_eq_some_iff.1 hb).1
    obtain ⟨q, hp1, hp2⟩ := ha.1.load (P := Tryz.prog) (T := 23) (te := 38) (i := i) (e := b.cells) (by simp) (by simp) (by simp) (by simp [hb])
    rw [List.length_cons, L48x0q]
    simp only [aBin_lss, bnd_some, Int.ofNat_lt, hlt, decide_true, kifB_true, hp1, hp2]
    refine bndV_func (by simpa using hp b (List.mem_of_getElem? hb)) ?_
    rw [offI_cons] at hk
    refine kifB_bool (fun h => ?_) (fun h => ?_)
    · rw [if_pos h] at hk
      exact hk
    · rw [if_neg (by simp [h])] at hk
      simp [show i + 1 < 2 ^ 63 by omega]
      exact ih (i + 1) _ _ _ _ _ _ _ _ _ _ _ _ _ _ (by rw [← List.drop_drop, hd]; rfl) hlt hk
theorem c_containsM {l : List Mut} {p : Mut → Bool} {g : FuncId} {cap : Array Value} {H : AHeap} {v : Value} (ha : MutesAt H v l) (hl : l.length < 2 ^ 63) (hp : ∀ m ∈ l, ACalls Tryz.prog g ([.agg m.cells.toArray] ++ cap.toList) H (.bool (p m)) H) :
    ACalls Tryz.prog 30 [v, .func (.func g) #[] cap] H (.bool (l.any p)) H := by
  refine acalls_pure MixT Tryz.func30 (by decide) rfl ?_
  rw [d30]
  have hi : ACalls Tryz.prog 48 [v, .func (.func g) #[] cap] H (i64 (idxF p l)) H := by
    refine acalls_pure MixT Tryz.func48 (by decide) rfl ?_
    rw [d48]
    have hlen := ha.1.len (P := Tryz.prog) (T := 23) (e := 38) (by simp)
    simp at hlen
    simp [hlen]
    refine ⟨l.length + 1, idxM_loop ha hl hp l 0 _ _ _ _ _ _ _ _ _ _ _ _ _ _ rfl (by omega) ⟨?_, [], by simp⟩⟩
    unfold offI
    split <;> simp [*]
  refine bndC_of hi ?_
  simp
  exact idxF_any _ _

theorem onceR_loop {cl : List (List Value)} {names : List (List UInt8)} {g : FuncId} {H : AHeap} {v : Value} {k : Value → AHeap → Prop} (hl : cl.length < 2 ^ 63) (hnl : names.length = cl.length) (hone : ∀ c ∈ cl, ∀ v ∈ c, v.oneCell' = true)
    (hg : ∀ (i : Nat) c s K, cl[i]? = some c → names[i]? = some s → ACalls Tryz.prog g [.agg c.toArray] K (str s) K) (w : Bool) (hw : w = onceB names) (hk : ∀ K, Pre H K → k (.bool w) K) (b : Nat) (hbH : H.length ≤ b) :
    ∀ (r : List (List UInt8)) (i : Nat) (es : List (Value × Value)) (ks : List (List UInt8)) (K : AHeap) (s2 s3 s4 s6 s7 s8 s12 s13 s14 s15 s16 s17 s18 s19 s20 s21 s22 s23 s24 s25 s26 : Value), names.drop i = r → i ≤ names.length → Pre H K → Arr K 8 v cl → K[b]? = some (.map es) → SMap QCount es ks → r.foldl addKey ks = keysOf names →
      L26x0 (r.length + 1) k [v, .func (.func g) #[] #[], s2, s3, s4, .map (some b), s6, s7, s8, v, i64 cl.length, i64 i, s12, s13, s14, s15, s16, s17, s18, s19, s20, s21, s22, s23, s24, s25, s26] K := by
  intro r
  induction r with
  | nil =>
    intro i es ks K s2 s3 s4 s6 s7 s8 s12 s13 s14 s15 s16 s17 s18 s19 s20 s21 s22 s23 s24 s25 s26 hd hi hp ha hm hs hf
    have hle : names.length ≤ i := by simpa using hd
    rw [List.length_nil, L26x0q]
    have : ¬ i < cl.length := by omega
    have hlen := ha.len (P := Tryz.prog) (T := 22) (e := 34) (by simp)
    have hml : aLen Tryz.prog K 93 (.map (some b)) = some (i64 es.length) := by simp [aLen, hm]
    simp [this, hlen, hml]
    have := hk K hp
    rw [hw, onceB, ← hf, List.foldl_nil, ← hs.len, hnl] at this
    exact this
  | cons s r ih =>
    intro i es ks K s2 s3 s4 s6 s7 s8 s12 s13 s14 s15 s16 s17 s18 s19 s20 s21 s22 s23 s24 s25 s26 hd hi hp ha hm hs hf
    have hb : names[i]? = some s := by rw [← List.head?_drop, hd]; rfl
    have hlt : i < cl.length := by have := (List.getElem?_eq_some_iff.1 hb).1; omega
    have hc : cl[i]? = some cl[i] := List.getElem?_eq_getElem hlt
    generalize cl[i] = c at hc
    obtain ⟨q, hp1, hp2⟩ := ha.load (P := Tryz.prog) (T := 22) (te := 34) (i := i) (e := c) (by simp) (by simp) (by simp) hc
    have hz : c.length = 8 := ha.elen hc
    have hst : ∀ v ∈ c, v.oneCell' = true := hone c (List.mem_of_getElem? hc)
    have hbl : b < K.length := (List.getElem?_eq_some_iff.1 hm).1
    rw [List.length_cons, L26x0q]
    simp only [aBin_lss, bnd_some, Int.ofNat_lt, hlt, decide_true, kifB_true, hp1, hp2]
    have hstA : storable (.agg c.toArray) = true := by simpa [storable] using hst
    simp [hz, hstA]
    rw [show (8 : Nat) = c.length from hz.symm, List.take_length]
    refine bndV_func (by simpa using hg i c s _ hc hb) ?_
    obtain ⟨x, hx⟩ : ∃ n, aLookup Tryz.prog (K ++ [.cells c 34]) 93 (.map (some b)) (str s) false = some (i64 n) := by
      rw [aLookup_map, get_more hm]
      simp only [tm93, Option.bind_some, mapOf_map, keyOk, if_true, hs.ok]
      rcases hs.get (k := s) with ⟨_, v, g1, n, rfl⟩ | ⟨_, g1⟩
      · rw [g1]; exact ⟨n, by simp⟩
      · rw [g1]; exact ⟨0, by simp [cok, isLit]⟩
    simp only [hx, bnd_some, aBin_add, aUpdate_map, get_more hm, tm93, Option.bind_some, mapOf_map, keyOk, hs.ok, and_self, if_true, bndS_some, wrap_succ (show i + 1 < 2 ^ 63 by omega)]
    exact ih (i + 1) _ (addKey ks s) _ _ _ _ _ _ _ _ _ _ _ _ _ _ _ _ _ _ _ _ _ _ (by rw [← List.drop_drop, hd]; rfl) (by omega) ((hp.more _).set hbH) ((ha.pre (.app _ _)).set (hcells_map (get_more hm))) (get_set (get_more hm)) (hs.put ⟨_, rfl⟩) hf
theorem c_onceR {cl : List (List Value)} {names : List (List UInt8)} {g : FuncId} {H : AHeap} {v : Value} (hl : cl.length < 2 ^ 63) (hnl : names.length = cl.length) (hone : ∀ c ∈ cl, ∀ v ∈ c, v.oneCell' = true)
    (hg : ∀ (i : Nat) c s K, cl[i]? = some c → names[i]? = some s → ACalls Tryz.prog g [.agg c.toArray] K (str s) K) (ha : Arr H 8 v cl) : ACalls Tryz.prog 26 [v, .func (.func g) #[] #[]] H (.bool (onceB names)) H := by
  refine acalls_pure MixT Tryz.func26 (by decide) rfl ?_
  rw [d26]
  have hlen := (ha.pre (.app H [.map []])).len (P := Tryz.prog) (T := 22) (e := 34) (by simp)
  simp [hlen]
  exact ⟨names.length + 1, onceR_loop (H := H) hl hnl hone hg _ rfl (fun K p => ⟨rfl, p⟩) H.length (Nat.le_refl _) names 0 [] [] _ _ _ _ _ _ _ _ _ _ _ _ _ _ _ _ _ _ _ _ _ _ rfl (by omega) (.app _ _) (ha.pre (.app _ _)) (by simp) trivial rfl⟩

theorem onceM_loop {cl : List (List Value)} {names : List (List UInt8)} {g : FuncId} {H : AHeap} {v : Value} {k : Value → AHeap → Prop} (hl : cl.length < 2 ^ 63) (hnl : names.length = cl.length) (hone : ∀ c ∈ cl, ∀ v ∈ c, v.oneCell' = true)
    (hg : ∀ (i : Nat) c s K, cl[i]? = some c → names[i]? = some s → ACalls Tryz.prog g [.agg c.toArray] K (str s) K) (w : Bool) (hw : w = onceB names) (hk : ∀ K, Pre H K → k (.bool w) K) (b : Nat) (hbH : H.length ≤ b) :
    ∀ (r : List (List UInt8)) (i : Nat) (es : List (Value × Value)) (ks : List (List UInt8)) (K : AHeap) (s2 s3 s4 s6 s7 s8 s12 s13 s14 s15 s16 s17 s18 s19 s20 s21 s22 s23 s24 s25 s26 : Value), names.drop i = r → i ≤ names.length → Pre H K → Arr K 10 v cl → K[b]? = some (.map es) → SMap QCount es ks → r.foldl addKey ks = keysOf names →
      L28x0 (r.length + 1) k [v, .func (.func g) #[] #[], s2, s3, s4, .map (some b), s6, s7, s8, v, i64 cl.length, i64 i, s12, s13, s14, s15, s16, s17, s18, s19, s20, s21, s22, s23, s24, s25, s26] K := by
  intro r
  induction r with
  | nil =>
    intro i es ks K s2 s3 s4 s6 s7 s8 s12 s13 s14 s15 s16 s17 s18 s19 s20 s21 s22 s23 s24 s25 s26 hd hi hp ha hm hs hf
    have hle : names.length ≤ i := by simpa using hd
    rw [List.length_nil, L28x0q]
    have : ¬ i < cl.length := by omega
    have hlen := ha.len (P := Tryz.prog) (T := 23) (e := 38) (by simp)
    have hml : aLen Tryz.prog K 93 (.map (some b)) = some (i64 es.length) := by simp [aLen, hm]
    simp [this, hlen, hml]
    have := hk K hp
    rw [hw, onceB, ← hf, List.foldl_nil, ← hs.len, hnl] at this
    exact this
  | cons s r ih =>
    intro i es ks K s2 s3 s4 s6 s7 s8 s12 s13 s14 s15 s16 s17 s18 s19 s20 s21 s22 s23 s24 s25 s26 hd hi hp ha hm hs hf
    have hb : names[i]? = some s := by rw [← List.head?_drop, hd]; rfl
    have hlt : i < cl.length := by have := (List.getElem?_eq_some_iff.1 hb).1; omega
    have hc : cl[i]? = some cl[i] := List.getElem?_eq_getElem hlt
    generalize cl[i] = c at hc
    obtain ⟨q, hp1, hp2⟩ := ha.load (P := Tryz.prog) (T := 23) (te := 38) (i := i) (e := c) (by simp) (by simp) (by simp) hc
    have hz : c.length = 10 := ha.elen hc
    have hst : ∀ v ∈ c, v.oneCell' = true := hone c (List.mem_of_getElem? hc)
    have hbl : b < K.length := (List.getElem?_eq_some_iff.1 hm).1
    rw [List.length_cons, L28x0q]
    simp only [aBin_lss, bnd_some, Int.ofNat_lt, hlt, decide_true, kifB_true, hp1, hp2]
    have hstA : storable (.agg c.toArray) = true := by simpa [storable] using hst
    simp [hz, hstA]
    rw [show (10 : Nat) = c.length from hz.symm, List.take_length]
    refine bndV_func (by simpa using hg i c s _ hc hb) ?_
    obtain ⟨x, hx⟩ : ∃ n, aLookup Tryz.prog (K ++ [.cells c 38]) 93 (.map (some b)) (str s) false = some (i64 n) := by
      rw [aLookup_map, get_more hm]
      simp only [tm93, Option.bind_some, mapOf_map, keyOk, if_true, hs.ok]
      rcases hs.get (k := s) with ⟨_, v, g1, n, rfl⟩ | ⟨_, g1⟩
      · rw [g1]; exact ⟨n, by simp⟩
      · rw [g1]; exact ⟨0, by simp [cok, isLit]⟩
    simp only [hx, bnd_some, aBin_add, aUpdate_map, get_more hm, tm93, Option.bind_some, mapOf_map, keyOk, hs.ok, and_self, if_true, bndS_some, wrap_succ (show i + 1 < 2 ^ 63 by omega)]
    exact ih (i + 1) _ (addKey ks s) _ _ _ _ _ _ _ _ _ _ _ _ _ _ _ _ _ _ _ _ _ _ (by rw [← List.drop_drop, hd]; rfl) (by omega) ((hp.more _).set hbH) ((ha.pre (.app _ _)).set (hcells_map (get_more hm))) (get_set (get_more hm)) (hs.put ⟨_, rfl⟩) hf
theorem c_onceM {cl : List (List Value)} {names : List (List UInt8)} {g : FuncId} {H : AHeap} {v : Value} (hl : cl.length < 2 ^ 63) (hnl : names.length = cl.length) (hone : ∀ c ∈ cl, ∀ v ∈ c, v.oneCell' = true)
    (hg : ∀ (i : Nat) c s K, cl[i]? = some c → names[i]? = some s → ACalls Tryz.prog g [.agg c.toArray] K (str s) K) (ha : Arr H 10 v cl) : ACalls Tryz.prog 28 [v, .func (.func g) #[] #[]] H (.bool (onceB names)) H := by
  refine acalls_pure MixT Tryz.func28 (by decide) rfl ?_
  rw [d28]
  have hlen := (ha.pre (.app H [.map []])).len (P := Tryz.prog) (T := 23) (e := 38) (by simp)
  simp [hlen]
  exact ⟨names.length + 1, onceM_loop (H := H) hl hnl hone hg _ rfl (fun K p => ⟨rfl, p⟩) H.length (Nat.le_refl _) names 0 [] [] _ _ _ _ _ _ _ _ _ _ _ _ _ _ _ _ _ _ _ _ _ _ rfl (by omega) (.app _ _) (ha.pre (.app _ _)) (by simp) trivial rfl⟩

theorem c_cfg1 {H : AHeap} {r : Rul} {nv mv : Value} (h1 : nv.oneCell' = true) (h2 : mv.oneCell' = true) : ACalls Tryz.prog 27 [.agg (r.cells nv mv).toArray] H (str r.name) H := by
  refine acalls_pure MixT Tryz.func27 (by decide) rfl ?_
  rw [d27]
  simp [aNew_agg, Rul.cells, h1, h2]
theorem c_cfg2 {H : AHeap} {m : Mut} (hd : m.days.length = 7) : ACalls Tryz.prog 29 [.agg m.cells.toArray] H (str m.name) H := by
  refine acalls_pure MixT Tryz.func29 (by decide) rfl ?_
  rw [d29]
  obtain ⟨name, days, fr, to⟩ := m
  simp only at hd
  match days, hd with
  | [d0, d1, d2, d3, d4, d5, d6], _ => simp [aNew_agg, Mut.cells]
theorem c_cfg3 {H : AHeap} {m : Mut} {b : Nat} {s : List UInt8} (hd : m.days.length = 7) (hb : hcells H b = some [str s]) : ACalls Tryz.prog 31 [.agg m.cells.toArray, .pointer (some ⟨b, 0, some 1⟩)] H (.bool (decide (m.name = s))) H := by
  refine acalls_pure MixT Tryz.func31 (by decide) rfl ?_
  rw [d31]
  have hX := fun X : AHeap => hcells_more (X := X) hb
  obtain ⟨name, days, fr, to⟩ := m
  simp only at hd
  match days, hd with
  | [d0, d1, d2, d3, d4, d5, d6], _ => simp [aNew_agg, Mut.cells, hX]

def widest (most : Int) : List Nod → Int
  | [] => most
  | n :: r => widest (if ((n.kind.toNat : Int) == 0) = true then (if n.window > most then n.window else most) else most) r
attribute [local simp] S15x0q
theorem window_loop {ns : List Nod} {H : AHeap} {v : Value} {k : Value → AHeap → Prop} (hl : ns.length < 2 ^ 63) (w : Int) (hk : ∀ K, Pre H K → k (i64 w) K) :
    ∀ (r : List Nod) (i : Nat) (most : Int) (K : AHeap) (s1 s2 s4 s5 s9 s10 s11 s12 s13 s14 s15 s16 s17 s18 s19 s20 : Value), ns.drop i = r → i ≤ ns.length → Pre H K → NodesAt K v ns → widest most r = w →
      L15x0 (r.length + 1) k [v, s1, s2, i64 most, s4, s5, v, i64 ns.length, i64 i, s9, s10, s11, s12, s13, s14, s15, s16, s17, s18, s19, s20] K := by
  intro r
  induction r with
  | nil =>
    intro i most K s1 s2 s4 s5 s9 s10 s11 s12 s13 s14 s15 s16 s17 s18 s19 s20 hd hi hp hn hw
    have hle : ns.length ≤ i := by simpa using hd
    rw [List.length_nil, L15x0q]
    have : ¬ i < ns.length := by omega
    simp [this]
    rw [← hw] at hk
    exact hk K hp
  | cons n r ih =>
    intro i most K s1 s2 s4 s5 s9 s10 s11 s12 s13 s14 s15 s16 s17 s18 s19 s20 hd hi hp hn hw
    have hb : ns[i]? = some n := by rw [← List.head?_drop, hd]; rfl
    have hlt : i < ns.length := (List.getElem?_eq_some_iff.1 hb).1
    have hnn := hn
    obtain ⟨cl, ha, hcl, hc⟩ := hn
    obtain ⟨sv, hsv, hm, hml⟩ := hc _ _ hb
    obtain ⟨p, hp1, hp2⟩ := ha.load (P := Tryz.prog) (T := 31) (te := 75) (i := i) (e := n.cells sv) (by simp) (by simp) (by simp) hsv
    have hone := hm.one
    rw [List.length_cons, L15x0q]
    simp [hlt, hp1, hp2, Nod.cells, hone]
    simp only [widest] at hw
    refine kifB_bool (fun h => ?_) (fun h => ?_)
    · simp [show i + 1 < 2 ^ 63 by omega]
      exact ih (i + 1) _ _ _ _ _ _ _ _ _ _ _ _ _ _ _ _ _ _ (by rw [← List.drop_drop, hd]; rfl) hlt (hp.more _) (hnn.pre (.app _ _)) (by rw [h, if_pos rfl] at hw; exact hw)
    · simp [show i + 1 < 2 ^ 63 by omega]
      exact ih (i + 1) _ _ _ _ _ _ _ _ _ _ _ _ _ _ _ _ _ _ (by rw [← List.drop_drop, hd]; rfl) hlt (hp.more _) (hnn.pre (.app _ _)) (by rw [h, if_neg (by simp)] at hw; exact hw)
theorem c_window {ns : List Nod} {H : AHeap} {v : Value} (hn : NodesAt H v ns) (hl : ns.length < 2 ^ 63) : ACalls Tryz.prog 15 [v] H (i64 (widest 0 ns)) H := by
  refine acalls_pure MixT Tryz.func15 (by decide) rfl ?_
  rw [d15]
  simp [hn.len]
  exact ⟨ns.length + 1, window_loop (H := H) hl _ (fun K p => ⟨rfl, p⟩) ns 0 0 _ _ _ _ _ _ _ _ _ _ _ _ _ _ _ _ _ rfl (by omega) (.refl _) hn rfl⟩

/-! ### Configurations -/
def RulesAt (H : AHeap) (v : Value) (rs : List Rul) : Prop := ∃ cl : List (List Value), Arr H 8 v cl ∧ cl.length = rs.length ∧ ∀ (i : Nat) r, rs[i]? = some r → ∃ nv mv, cl[i]? = some (r.cells nv mv) ∧ NodesAt H nv r.nodes ∧ Arr H 1 mv (strCells r.mutes) ∧ r.mutes.length < 2 ^ 63
theorem RulesAt.pre {H K v rs} (h : RulesAt H v rs) (p : Pre H K) : RulesAt K v rs := by
  obtain ⟨cl, h1, h2, h3⟩ := h
  refine ⟨cl, h1.pre p, h2, fun i r hi => ?_⟩
  obtain ⟨nv, mv, q1, q2, q3, q4⟩ := h3 i r hi
  exact ⟨nv, mv, q1, q2.pre p, q3.pre p, q4⟩
structure Cfg where
  rules : List Rul
  mutes : List Mut
  late : Int
  limit : Int
def Cfg.cells (c : Cfg) (rv mv : Value) : List Value := [rv, mv, i64 c.late, i64 c.limit]
def Cfg.head (c : Cfg) : Bool := [decide (c.late ≥ 0) && decide (c.late ≤ 100), decide (c.limit ≥ 1) && decide (c.limit ≤ 1000), onceB (c.rules.map (·.name)), onceB (c.mutes.map (·.name))].all id
def Cfg.ruleOk (c : Cfg) (r : Rul) : Bool := r.mayB && r.mutes.all fun s => c.mutes.any fun m => decide (m.name = s)
def Cfg.mayB (c : Cfg) : Bool := if (decide ((c.rules.length : Int) > 8) || decide ((c.mutes.length : Int) > 4)) = true then false else c.head && c.mutes.all Mut.mayB && c.rules.all c.ruleOk
theorem max_errno (a b : Bool) : (if errno b > errno a then errno b else errno a) = errno (a && b) := by cases a <;> cases b <;> simp [errno]
attribute [local simp] S11x0q
theorem cfg_inner {c : Cfg} {H : AHeap} {rv mv sv : Value} {cb : Nat} {l : List (List UInt8)} {n1 : Nat} {k : Value → AHeap → Prop} (hl : l.length < 2 ^ 63) (hml : c.mutes.length < 2 ^ 63) (j : Nat) (hj : j + 1 < 2 ^ 63) (w : Bool)
    (hk : ∀ K (s0 s2 s4 s5 s6 s7 s8 s9 s10 s11 s12 s13 s14 s15 s16 s17 s18 s19 s20 s21 s22 s23 s24 s25 s26 s27 s28 s29 s30 s31 s32 s33 s34 s35 s36 s37 s38 s39 s40 s41 s42 s43 s44 s45 s46 s50 s51 s52 s53 s54 s55 s56 s57 s58 s59 s60 s61 s62 s63 s64 s65 s66 s67 s68 s69 s70 s71 : Value), Pre H K → MutesAt K mv c.mutes → hcells K cb = some (c.cells rv mv) → L11x1 n1 k [s0, .pointer (some ⟨cb, 0, some 4⟩), s2, i64 (errno w), s4, s5, s6, s7, s8, s9, s10, s11, s12, s13, s14, s15, s16, s17, s18, s19, s20, s21, s22, s23, s24, s25, s26, s27, s28, s29, s30, s31, s32, s33, s34, s35, s36, s37, s38, s39, s40, s41, s42, s43, s44, s45, s46, rv, i64 c.rules.length, i64 ((j + 1 : Nat) : Int), s50, s51, s52, s53, s54, s55, s56, s57, s58, s59, s60, s61, s62, s63, s64, s65, s66, s67, s68, s69, s70, s71] K) :
    ∀ (r : List (List UInt8)) (i : Nat) (ok : Bool) (K : AHeap) (s0 s2 s4 s5 s6 s7 s8 s9 s10 s11 s12 s13 s14 s15 s16 s17 s18 s19 s20 s21 s22 s23 s24 s25 s26 s27 s28 s29 s30 s31 s32 s33 s34 s35 s36 s37 s38 s39 s40 s41 s42 s43 s44 s45 s46 s50 s51 s52 s53 s54 s55 s56 s57 s61 s62 s63 s64 s65 s66 s67 s68 s69 s70 s71 : Value), l.drop i = r → i ≤ l.length → Pre H K → MutesAt K mv c.mutes → hcells K cb = some (c.cells rv mv) → Arr K 1 sv (strCells l) →
      w = (ok && r.all fun s => c.mutes.any fun m => decide (m.name = s)) →
      L11x2 (r.length + 1) n1 k [s0, .pointer (some ⟨cb, 0, some 4⟩), s2, i64 (errno ok), s4, s5, s6, s7, s8, s9, s10, s11, s12, s13, s14, s15, s16, s17, s18, s19, s20, s21, s22, s23, s24, s25, s26, s27, s28, s29, s30, s31, s32, s33, s34, s35, s36, s37, s38, s39, s40, s41, s42, s43, s44, s45, s46, rv, i64 c.rules.length, i64 j, s50, s51, s52, s53, s54, s55, s56, s57, sv, i64 l.length, i64 i, s61, s62, s63, s64, s65, s66, s67, s68, s69, s70, s71] K := by
  intro r
  induction r with
  | nil =>
    intro i ok K s0 s2 s4 s5 s6 s7 s8 s9 s10 s11 s12 s13 s14 s15 s16 s17 s18 s19 s20 s21 s22 s23 s24 s25 s26 s27 s28 s29 s30 s31 s32 s33 s34 s35 s36 s37 s38 s39 s40 s41 s42 s43 s44 s45 s46 s50 s51 s52 s53 s54 s55 s56 s57 s61 s62 s63 s64 s65 s66 s67 s68 s69 s70 s71 hd hi hp hm hc ha hw
    have hle : l.length ≤ i := by simpa using hd
    rw [List.length_nil, L11x2q]
    have : ¬ i < l.length := by omega
    simp [this, hj]
    simp at hw
    rw [← hw]
    exact hk K _ _ _ _ _ _ _ _ _ _ _ _ _ _ _ _ _ _ _ _ _ _ _ _ _ _ _ _ _ _ _ _ _ _ _ _ _ _ _ _ _ _ _ _ _ _ _ _ _ _ _ _ _ _ _ _ _ _ _ _ _ _ _ _ _ _ _ hp hm hc
  | cons s r ih =>
    intro i ok K s0 s2 s4 s5 s6 s7 s8 s9 s10 s11 s12 s13 s14 s15 s16 s17 s18 s19 s20 s21 s22 s23 s24 s25 s26 s27 s28 s29 s30 s31 s32 s33 s34 s35 s36 s37 s38 s39 s40 s41 s42 s43 s44 s45 s46 s50 s51 s52 s53 s54 s55 s56 s57 s61 s62 s63 s64 s65 s66 s67 s68 s69 s70 s71 hd hi hp hm hc ha hw
    have hb : l[i]? = some s := by rw [← List.head?_drop, hd]; rfl
    have hlt : i < l.length := (List.getElem?_eq_some_iff.1 hb).1
    obtain ⟨q, hp1, hp2⟩ := ha.load1 (P := Tryz.prog) (T := 32) (te := 9) (i := i) (x := str s) (by simp) (by simp) (by simp) (by simp [strCells, hb])
    have hX := fun X : AHeap => hcells_more (X := X) hc
    have hlX : ∀ X : AHeap, hlen (K ++ X) cb = some 4 := fun X => by rw [hcells_len (hX X)]; rfl
    rw [List.length_cons, L11x2q]
    simp [hlt, hp1, hp2, hX, hlX, Cfg.cells]
    refine bndC_of (c_containsM (p := fun m => decide (m.name = s)) (hm.pre (.app _ _)) hml fun m hmm => ?_) ?_
    · exact c_cfg3 (hm.2 m hmm) (by simp)
    simp
    rw [List.all_cons] at hw
    refine kifB_bool (fun h => ?_) (fun h => ?_)
    · simp [show i + 1 < 2 ^ 63 by omega]
      have h' : (c.mutes.any fun m => decide (m.name = s)) = false := by simpa using h
      rw [h', Bool.false_and, Bool.and_false] at hw
      exact ih (i + 1) false _ _ _ _ _ _ _ _ _ _ _ _ _ _ _ _ _ _ _ _ _ _ _ _ _ _ _ _ _ _ _ _ _ _ _ _ _ _ _ _ _ _ _ _ _ _ _ _ _ _ _ _ _ _ _ _ _ _ _ _ _ _ _ _ _ (by rw [← List.drop_drop, hd]; rfl) hlt (hp.more _) (hm.pre (.app _ _)) (hX _) (ha.pre (.app _ _)) (by simp [hw])
    · simp [show i + 1 < 2 ^ 63 by omega]
      have h' : (c.mutes.any fun m => decide (m.name = s)) = true := by simpa using h
      rw [h', Bool.true_and] at hw
      exact ih (i + 1) ok _ _ _ _ _ _ _ _ _ _ _ _ _ _ _ _ _ _ _ _ _ _ _ _ _ _ _ _ _ _ _ _ _ _ _ _ _ _ _ _ _ _ _ _ _ _ _ _ _ _ _ _ _ _ _ _ _ _ _ _ _ _ _ _ _ (by rw [← List.drop_drop, hd]; rfl) hlt (hp.more _) (hm.pre (.app _ _)) (hX _) (ha.pre (.app _ _)) hw

theorem cfg_rules {c : Cfg} {H : AHeap} {rv mv : Value} {cb : Nat} {k : Value → AHeap → Prop} (hrl : c.rules.length < 2 ^ 63) (hml : c.mutes.length < 2 ^ 63) (hr0 : RulesAt H rv c.rules) (w : Bool) (hk : ∀ K, Pre H K → k (i64 (errno w)) K) :
    ∀ (r : List Rul) (i : Nat) (ok : Bool) (K : AHeap) (s0 s2 s4 s5 s6 s7 s8 s9 s10 s11 s12 s13 s14 s15 s16 s17 s18 s19 s20 s21 s22 s23 s24 s25 s26 s27 s28 s29 s30 s31 s32 s33 s34 s35 s36 s37 s38 s39 s40 s41 s42 s43 s44 s45 s46 s50 s51 s52 s53 s54 s55 s56 s57 s58 s59 s60 s61 s62 s63 s64 s65 s66 s67 s68 s69 s70 s71 : Value), c.rules.drop i = r → i ≤ c.rules.length → Pre H K → MutesAt K mv c.mutes → hcells K cb = some (c.cells rv mv) →
      w = (ok && r.all c.ruleOk) →
      L11x1 (r.length + 1) k [s0, .pointer (some ⟨cb, 0, some 4⟩), s2, i64 (errno ok), s4, s5, s6, s7, s8, s9, s10, s11, s12, s13, s14, s15, s16, s17, s18, s19, s20, s21, s22, s23, s24, s25, s26, s27, s28, s29, s30, s31, s32, s33, s34, s35, s36, s37, s38, s39, s40, s41, s42, s43, s44, s45, s46, rv, i64 c.rules.length, i64 i, s50, s51, s52, s53, s54, s55, s56, s57, s58, s59, s60, s61, s62, s63, s64, s65, s66, s67, s68, s69, s70, s71] K := by
  intro r
  induction r with
  | nil =>
    intro i ok K s0 s2 s4 s5 s6 s7 s8 s9 s10 s11 s12 s13 s14 s15 s16 s17 s18 s19 s20 s21 s22 s23 s24 s25 s26 s27 s28 s29 s30 s31 s32 s33 s34 s35 s36 s37 s38 s39 s40 s41 s42 s43 s44 s45 s46 s50 s51 s52 s53 s54 s55 s56 s57 s58 s59 s60 s61 s62 s63 s64 s65 s66 s67 s68 s69 s70 s71 hd hi hp hm hc hw
    have hle : c.rules.length ≤ i := by simpa using hd
    rw [List.length_nil, L11x1q]
    have : ¬ i < c.rules.length := by omega
    simp [this]
    simp at hw
    rw [← hw]
    exact hk K hp
  | cons x r ih =>
    intro i ok K s0 s2 s4 s5 s6 s7 s8 s9 s10 s11 s12 s13 s14 s15 s16 s17 s18 s19 s20 s21 s22 s23 s24 s25 s26 s27 s28 s29 s30 s31 s32 s33 s34 s35 s36 s37 s38 s39 s40 s41 s42 s43 s44 s45 s46 s50 s51 s52 s53 s54 s55 s56 s57 s58 s59 s60 s61 s62 s63 s64 s65 s66 s67 s68 s69 s70 s71 hd hi hp hm hc hw
    have hb : c.rules[i]? = some x := by rw [← List.head?_drop, hd]; rfl
    have hlt : i < c.rules.length := (List.getElem?_eq_some_iff.1 hb).1
    obtain ⟨cl, ha, hcl, hcc⟩ := hr0.pre hp
    obtain ⟨nv, xv, hx, hn, hxm, hxl⟩ := hcc _ _ hb
    obtain ⟨q, hp1, hp2⟩ := ha.load (P := Tryz.prog) (T := 22) (te := 34) (i := i) (e := x.cells nv xv) (by simp) (by simp) (by simp) hx
    have h1 : nv.oneCell' = true := by obtain ⟨_, h, _⟩ := hn; exact h.one
    have h2 := hxm.one
    have hX := fun X : AHeap => hcells_more (X := X) hc
    have hlen := fun X : AHeap => (hxm.pre (.app K X)).len (P := Tryz.prog) (T := 32) (e := 9) (by simp)
    simp [strCells] at hlen
    rw [List.length_cons, L11x1q]
    simp [hlt, hp1, hp2, Rul.cells, h1, h2]
    refine bndC_of (c_rule (r := x) (hn.pre (.app _ _)) (hxm.pre (.app _ _)) hxl) ?_
    simp [hlen, max_errno]
    rw [List.all_cons] at hw
    refine ⟨x.mutes.length + 1, cfg_inner (H := H) (c := c) (l := x.mutes) (sv := xv) hxl hml i (by omega) (ok && c.ruleOk x) ?_ x.mutes 0 (ok && x.mayB) _ _ _ _ _ _ _ _ _ _ _ _ _ _ _ _ _ _ _ _ _ _ _ _ _ _ _ _ _ _ _ _ _ _ _ _ _ _ _ _ _ _ _ _ _ _ _ _ _ _ _ _ _ _ _ _ _ _ _ _ _ _ _ _ _ rfl (by omega) (hp.more _) (hm.pre (.app _ _)) (hX _) (hxm.pre (.app _ _)) ?_⟩
    · intro K2 s0 s2 s4 s5 s6 s7 s8 s9 s10 s11 s12 s13 s14 s15 s16 s17 s18 s19 s20 s21 s22 s23 s24 s25 s26 s27 s28 s29 s30 s31 s32 s33 s34 s35 s36 s37 s38 s39 s40 s41 s42 s43 s44 s45 s46 s50 s51 s52 s53 s54 s55 s56 s57 s58 s59 s60 s61 s62 s63 s64 s65 s66 s67 s68 s69 s70 s71 hp2 hm2 hc2
      exact ih (i + 1) (ok && c.ruleOk x) K2 _ _ _ _ _ _ _ _ _ _ _ _ _ _ _ _ _ _ _ _ _ _ _ _ _ _ _ _ _ _ _ _ _ _ _ _ _ _ _ _ _ _ _ _ _ _ _ _ _ _ _ _ _ _ _ _ _ _ _ _ _ _ _ _ _ _ _ (by rw [← List.drop_drop, hd]; rfl) hlt hp2 hm2 hc2 (by rw [hw, Bool.and_assoc])
    · simp only [Cfg.ruleOk, Bool.and_assoc]
theorem cfg_mutes {c : Cfg} {H : AHeap} {rv mv : Value} {cb : Nat} {k : Value → AHeap → Prop} (hrl : c.rules.length < 2 ^ 63) (hml : c.mutes.length < 2 ^ 63) (hr0 : RulesAt H rv c.rules) (hm0 : MutesAt H mv c.mutes) (w : Bool) (hk : ∀ K, Pre H K → k (i64 (errno w)) K) :
    ∀ (r : List Mut) (i : Nat) (ok : Bool) (K : AHeap) (s0 s2 s4 s5 s6 s7 s8 s9 s10 s11 s12 s13 s14 s15 s16 s17 s18 s19 s20 s21 s22 s23 s24 s25 s26 s27 s28 s29 s30 s31 s32 s33 s34 s38 s39 s40 s41 s42 s43 s44 s45 s46 s47 s48 s49 s50 s51 s52 s53 s54 s55 s56 s57 s58 s59 s60 s61 s62 s63 s64 s65 s66 s67 s68 s69 s70 s71 : Value), c.mutes.drop i = r → i ≤ c.mutes.length → Pre H K → hcells K cb = some (c.cells rv mv) →
      w = (ok && r.all Mut.mayB && c.rules.all c.ruleOk) →
      L11x0 (r.length + 1) k [s0, .pointer (some ⟨cb, 0, some 4⟩), s2, i64 (errno ok), s4, s5, s6, s7, s8, s9, s10, s11, s12, s13, s14, s15, s16, s17, s18, s19, s20, s21, s22, s23, s24, s25, s26, s27, s28, s29, s30, s31, s32, s33, s34, mv, i64 c.mutes.length, i64 i, s38, s39, s40, s41, s42, s43, s44, s45, s46, s47, s48, s49, s50, s51, s52, s53, s54, s55, s56, s57, s58, s59, s60, s61, s62, s63, s64, s65, s66, s67, s68, s69, s70, s71] K := by
  intro r
  induction r with
  | nil =>
    intro i ok K s0 s2 s4 s5 s6 s7 s8 s9 s10 s11 s12 s13 s14 s15 s16 s17 s18 s19 s20 s21 s22 s23 s24 s25 s26 s27 s28 s29 s30 s31 s32 s33 s34 s38 s39 s40 s41 s42 s43 s44 s45 s46 s47 s48 s49 s50 s51 s52 s53 s54 s55 s56 s57 s58 s59 s60 s61 s62 s63 s64 s65 s66 s67 s68 s69 s70 s71 hd hi hp hc hw
    have hle : c.mutes.length ≤ i := by simpa using hd
    rw [List.length_nil, L11x0q]
    have : ¬ i < c.mutes.length := by omega
    have hl4 : hlen K cb = some 4 := by rw [hcells_len hc]; rfl
    obtain ⟨cl, ha, hcl, hcc⟩ := hr0.pre hp
    have hlen := ha.len (P := Tryz.prog) (T := 22) (e := 34) (by simp)
    rw [hcl] at hlen
    simp [this, hc, hl4, Cfg.cells, hlen]
    exact ⟨c.rules.length + 1, cfg_rules hrl hml hr0 w hk c.rules 0 ok K _ _ _ _ _ _ _ _ _ _ _ _ _ _ _ _ _ _ _ _ _ _ _ _ _ _ _ _ _ _ _ _ _ _ _ _ _ _ _ _ _ _ _ _ _ _ _ _ _ _ _ _ _ _ _ _ _ _ _ _ _ _ _ _ _ _ _ rfl (by omega) hp (hm0.pre hp) hc (by simpa using hw)⟩
  | cons x r ih =>
    intro i ok K s0 s2 s4 s5 s6 s7 s8 s9 s10 s11 s12 s13 s14 s15 s16 s17 s18 s19 s20 s21 s22 s23 s24 s25 s26 s27 s28 s29 s30 s31 s32 s33 s34 s38 s39 s40 s41 s42 s43 s44 s45 s46 s47 s48 s49 s50 s51 s52 s53 s54 s55 s56 s57 s58 s59 s60 s61 s62 s63 s64 s65 s66 s67 s68 s69 s70 s71 hd hi hp hc hw
    have hb : c.mutes[i]? = some x := by rw [← List.head?_drop, hd]; rfl
    have hlt : i < c.mutes.length := (List.getElem?_eq_some_iff.1 hb).1
    have hm := hm0.pre hp
    obtain ⟨q, hp1, hp2⟩ := hm.1.load (P := Tryz.prog) (T := 23) (te := 38) (i := i) (e := x.cells) (by simp) (by simp) (by simp) (by simp [hb])
    have hX := fun X : AHeap => hcells_more (X := X) hc
    have hz : x.cells.length = 10 := by have := hm.1.elen (i := i) (e := x.cells) (by simp [hb]); exact this
    have hstA : storable (.agg x.cells.toArray) = true := by have := x.one; simpa [storable] using this
    rw [List.length_cons, L11x0q]
    simp [hlt, hp1, hp2, hz, hstA]
    rw [show (10 : Nat) = x.cells.length from hz.symm, List.take_length]
    refine bndC_of (c_mute (m := x) (hm.2 x (List.mem_of_getElem? hb))) ?_
    simp [max_errno, show i + 1 < 2 ^ 63 by omega]
    rw [List.all_cons] at hw
    exact ih (i + 1) (ok && x.mayB) _ _ _ _ _ _ _ _ _ _ _ _ _ _ _ _ _ _ _ _ _ _ _ _ _ _ _ _ _ _ _ _ _ _ _ _ _ _ _ _ _ _ _ _ _ _ _ _ _ _ _ _ _ _ _ _ _ _ _ _ _ _ _ _ _ _ _ _ (by rw [← List.drop_drop, hd]; rfl) hlt (hp.more _) (hX _) (by rw [hw]; simp only [Bool.and_assoc])
theorem c_config {c : Cfg} {H : AHeap} {rv mv : Value} (hrl : c.rules.length < 2 ^ 63) (hml : c.mutes.length < 2 ^ 63) (hr : RulesAt H rv c.rules) (hm : MutesAt H mv c.mutes) : ACalls Tryz.prog 11 [.agg (c.cells rv mv).toArray] H (i64 (errno c.mayB)) H := by
  refine acalls_pure MixT Tryz.func11 (by decide) rfl ?_
  rw [d11]
  have h1 : rv.oneCell' = true := by obtain ⟨_, h, _⟩ := hr; exact h.one
  have h2 : mv.oneCell' = true := hm.1.one
  have hrX := fun X : AHeap => hr.pre (.app H X)
  have hmX := fun X : AHeap => hm.pre (.app H X)
  have hlr : ∀ X : AHeap, aLen Tryz.prog (H ++ X) 22 rv = some (i64 c.rules.length) := fun X => by
    obtain ⟨cl, ha, hcl, _⟩ := hrX X
    rw [← hcl]; exact ha.len (e := 34) (by simp)
  have hlm : ∀ X : AHeap, aLen Tryz.prog (H ++ X) 23 mv = some (i64 c.mutes.length) := fun X => by
    have := (hmX X).1.len (P := Tryz.prog) (T := 23) (e := 38) (by simp)
    simpa using this
  simp +contextual [aNew_agg, Cfg.cells, h1, h2, hlr, hlm]
  refine kifB_bool (fun h => ?_) (fun h => ?_)
  · have : c.mayB = false := by
      unfold Cfg.mayB
      rw [if_pos (by simpa using h)]
    simp [this, errno]
  simp
  refine bndD_same (c_among _ _ _ _) ?_
  simp
  refine bndD_same (c_among _ _ _ _) ?_
  simp
  obtain ⟨cl, ha, hcl, hcc⟩ := hrX [.cells [rv, mv, i64 c.late, i64 c.limit] 25]
  refine bndD_same (c_onceR (cl := cl) (names := c.rules.map (·.name)) (by omega) (by simp [hcl]) ?_ ?_ ha) ?_
  · intro x hx
    obtain ⟨i, hi, rfl⟩ := List.getElem_of_mem hx
    have hb : c.rules[i]? = some c.rules[i] := List.getElem?_eq_getElem (by omega)
    obtain ⟨nv, xv, e1, e2, e3, _⟩ := hcc i _ hb
    rw [List.getElem?_eq_getElem hi] at e1
    rw [Option.some.inj e1]
    have q1 : nv.oneCell' = true := by obtain ⟨_, h, _⟩ := e2; exact h.one
    have q2 := e3.one
    intro v hv
    simp only [Rul.cells, List.mem_cons, List.not_mem_nil, or_false] at hv
    rcases hv with rfl | rfl | rfl | rfl | rfl | rfl | rfl | rfl <;> first | rfl | assumption
  · intro i x s K hx hs
    rw [List.getElem?_map] at hs
    cases hb : c.rules[i]? with
    | none => simp [hb] at hs
    | some r =>
      simp [hb] at hs
      subst hs
      obtain ⟨nv, xv, e1, e2, e3, _⟩ := hcc i _ hb
      rw [hx] at e1
      cases e1
      exact c_cfg1 (by obtain ⟨_, h, _⟩ := e2; exact h.one) e3.one
  simp
  refine bndD_same (c_onceM (cl := c.mutes.map Mut.cells) (names := c.mutes.map (·.name)) (by simpa using hml) (by simp) ?_ ?_ (hmX _).1) ?_
  · intro x hx
    obtain ⟨m, _, rfl⟩ := List.mem_map.1 hx
    exact m.one
  · intro i x s K hx hs
    rw [List.getElem?_map] at hs hx
    cases hb : c.mutes[i]? with
    | none => simp [hb] at hs
    | some m =>
      simp [hb] at hs hx
      subst hs hx
      exact c_cfg2 (hm.2 m (List.mem_of_getElem? hb))
  have hsl := sliceLit1 (P := Tryz.prog) (H := H ++ [.cells [rv, mv, i64 c.late, i64 c.limit] 25]) (T := 71) (e := 4) (zv := .bool false) (n := 4) (l := [decide (c.late ≥ 0) && decide (c.late ≤ 100), decide (c.limit ≥ 1) && decide (c.limit ≤ 1000), onceB (c.rules.map (·.name)), onceB (c.mutes.map (·.name))].map .bool) (by simp) (by simp) rfl (by simp)
  refine bndD_of hsl (.inl rfl) ?_
  have hal := all_lit (H := H ++ [.cells [rv, mv, i64 c.late, i64 c.limit] 25]) (l := [decide (c.late ≥ 0) && decide (c.late ≤ 100), decide (c.limit ≥ 1) && decide (c.limit ≤ 1000), onceB (c.rules.map (·.name)), onceB (c.mutes.map (·.name))]) (by simp only [List.length_cons, List.length_nil]; omega)
  rw [show ([decide (c.late ≥ 0) && decide (c.late ≤ 100), decide (c.limit ≥ 1) && decide (c.limit ≤ 1000), onceB (c.rules.map (·.name)), onceB (c.mutes.map (·.name))]).all id = c.head from rfl] at hal
  refine bndD_of hal (.inl rfl) ?_
  have hw : c.mayB = (c.head && c.mutes.all Mut.mayB && c.rules.all c.ruleOk) := by
    unfold Cfg.mayB
    rw [if_neg (by simpa using h)]
  have hc : ∀ X : AHeap, hcells (H ++ .cells [rv, mv, i64 c.late, i64 c.limit] 25 :: X) H.length = some (c.cells rv mv) := fun X => by simp [Cfg.cells]
  simp [hlm]
  rw [hw]
  have hfin := cfg_mutes (H := H) (cb := H.length) (k := Same (i64 (errno (c.head && c.mutes.all Mut.mayB && c.rules.all c.ruleOk))) H) hrl hml hr hm (c.head && c.mutes.all Mut.mayB && c.rules.all c.ruleOk) (fun K p => ⟨rfl, p⟩) c.mutes 0 c.head
  refine ⟨c.mutes.length + 1, hfin _ _ _ _ _ _ _ _ _ _ _ _ _ _ _ _ _ _ _ _ _ _ _ _ _ _ _ _ _ _ _ _ _ _ _ _ _ _ _ _ _ _ _ _ _ _ _ _ _ _ _ _ _ _ _ _ _ _ _ _ _ _ _ _ _ _ _ _ rfl (by omega) (.app _ _) (hc _) rfl⟩
end Go.Vi
namespace Go.Vi
open Go Go.Proofs

theorem max_lt {n : Nat} (h : n ≤ maxLen) : n < 2 ^ 63 := by unfold maxLen at h; omega
theorem map_ex {α β : Type} {g : α → β} : ∀ {l : List β}, (∀ x ∈ l, ∃ m, x = g m) → ∃ ms : List α, l = ms.map g := by
  intro l
  induction l with
  | nil => intro _; exact ⟨[], rfl⟩
  | cons x r ih =>
    intro h
    obtain ⟨m, rfl⟩ := h x (by simp)
    obtain ⟨ms, rfl⟩ := ih fun y hy => h y (by simp [hy])
    exact ⟨m :: ms, rfl⟩
theorem len3 {α : Type} {l : List α} (h : l.length = 3) : ∃ a b c, l = [a, b, c] := match l, h with
  | [a, b, c], _ => ⟨a, b, c, rfl⟩
theorem len7 {α : Type} {l : List α} (h : l.length = 7) : ∃ a b c d e f g, l = [a, b, c, d, e, f, g] := match l, h with
  | [a, b, c, d, e, f, g], _ => ⟨a, b, c, d, e, f, g, rfl⟩
theorem len8 {α : Type} {l : List α} (h : l.length = 8) : ∃ a b c d e f g i, l = [a, b, c, d, e, f, g, i] := match l, h with
  | [a, b, c, d, e, f, g, i], _ => ⟨a, b, c, d, e, f, g, i, rfl⟩
theorem ce_str : Tryz.prog.cellsOf 9 = 1 := by kernel_rfl
theorem ce_u8 : Tryz.prog.cellsOf 5 = 1 := by kernel_rfl
theorem ce_int : Tryz.prog.cellsOf 3 = 1 := by kernel_rfl
theorem ce_i64 : Tryz.prog.cellsOf 2 = 1 := by kernel_rfl
theorem ce_bool : Tryz.prog.cellsOf 4 = 1 := by kernel_rfl
theorem ce_mats : Tryz.prog.cellsOf 73 = 1 := by kernel_rfl
theorem ce_mat : Tryz.prog.cellsOf 92 = 3 := by kernel_rfl
theorem ce_node : Tryz.prog.cellsOf 75 = 8 := by kernel_rfl
theorem ce_days : Tryz.prog.cellsOf 36 = 7 := by kernel_rfl
section
variable {H : AHeap} {f : Nat} {v : Value} {cs : List Value}
theorem rd_mat (h : Rd Tryz.prog H (f + 2) 92 cs) : ∃ m : Mat, cs = m.cells := by
  obtain ⟨hl, hp⟩ := h.parts (ps := [(9, 0), (5, 1), (9, 2)]) (by kernel_rfl)
  rw [ce_mat] at hl
  obtain ⟨x, y, z, rfl⟩ := len3 hl
  simp only [List.forall_mem_cons, ce_str, ce_u8] at hp
  obtain ⟨h0, h1, h2, _⟩ := hp
  obtain ⟨l0, e0, _⟩ := h0.str Tryz.underlying9
  obtain ⟨b, e1, _⟩ := h1.int Tryz.underlying5
  obtain ⟨l2, e2, _⟩ := h2.str Tryz.underlying9
  simp at e0 e1 e2
  exact ⟨⟨l0, b, l2⟩, by simp [Mat.cells, e0, e1, e2]⟩
theorem rd_mats (h : Rd Tryz.prog H (f + 3) 73 [v]) : ∃ ms, MatsAt H v ms ∧ ms.length < 2 ^ 63 := by
  obtain ⟨v', l, h1, h2, h3, h4⟩ := h.slice Tryz.underlying73
  cases h1
  rw [ce_mat] at h2
  obtain ⟨ms, rfl⟩ := map_ex fun x hx => rd_mat (h4 x hx)
  exact ⟨ms, h2, by simpa using max_lt h3⟩
theorem rd_node (h : Rd Tryz.prog H (f + 4) 75 cs) : ∃ (n : Nod) (sv : Value), cs = n.cells sv ∧ MatsAt H sv n.sel ∧ n.sel.length < 2 ^ 63 := by
  obtain ⟨hl, hp⟩ := h.parts (ps := [(5, 0), (5, 1), (73, 2), (3, 3), (5, 4), (2, 5), (3, 6), (3, 7)]) (by kernel_rfl)
  rw [ce_node] at hl
  obtain ⟨x0, x1, x2, x3, x4, x5, x6, x7, rfl⟩ := len8 hl
  simp only [List.forall_mem_cons, ce_u8, ce_int, ce_i64, ce_mats] at hp
  obtain ⟨h0, h1, h2, h3, h4, h5, h6, h7, _⟩ := hp
  obtain ⟨b0, e0⟩ := h0.byte Tryz.underlying5
  obtain ⟨b1, e1⟩ := h1.byte Tryz.underlying5
  obtain ⟨ms, e2, e2'⟩ := rd_mats h2
  obtain ⟨b3, e3, _⟩ := h3.int Tryz.underlying3
  obtain ⟨b4, e4⟩ := h4.byte Tryz.underlying5
  obtain ⟨b5, e5, _⟩ := h5.int Tryz.underlying2
  obtain ⟨b6, e6, _⟩ := h6.int Tryz.underlying3
  obtain ⟨b7, e7, _⟩ := h7.int Tryz.underlying3
  simp at e0 e1 e3 e4 e5 e6 e7
  exact ⟨⟨b0, b1, ms, b3, b4, b5, b6, b7⟩, x2, by simp [Nod.cells, e0, e1, e3, e4, e5, e6, e7], e2, e2'⟩
theorem rd_list {α : Type} {R : List Value → α → Prop} : ∀ {l : List (List Value)}, (∀ x ∈ l, ∃ a, R x a) → ∃ q : List α, l.length = q.length ∧ ∀ (i : Nat) a, q[i]? = some a → ∃ c, l[i]? = some c ∧ R c a := by
  intro l
  induction l with
  | nil => intro _; exact ⟨[], rfl, fun i a h => by simp at h⟩
  | cons x r ih =>
    intro h
    obtain ⟨a, ha⟩ := h x (by simp)
    obtain ⟨q, h1, h2⟩ := ih fun y hy => h y (by simp [hy])
    refine ⟨a :: q, by simp [h1], fun i b hb => ?_⟩
    cases i with
    | zero => simp at hb; subst hb; exact ⟨x, rfl, ha⟩
    | succ i => exact h2 i b (by simpa using hb)
theorem rd_nodes (h : Rd Tryz.prog H (f + 5) 31 [v]) : ∃ ns, NodesAt H v ns ∧ ns.length < 2 ^ 63 := by
  obtain ⟨v', l, h1, h2, h3, h4⟩ := h.slice Tryz.underlying31
  cases h1
  rw [ce_node] at h2
  obtain ⟨ns, q1, q2⟩ := rd_list (R := fun cs (n : Nod) => ∃ sv, cs = n.cells sv ∧ MatsAt H sv n.sel ∧ n.sel.length < 2 ^ 63) fun x hx => rd_node (h4 x hx)
  refine ⟨ns, ⟨l, h2, q1, fun i n hi => ?_⟩, by rw [← q1]; exact max_lt h3⟩
  obtain ⟨c, c1, sv, rfl, c2, c3⟩ := q2 i n hi
  exact ⟨sv, c1, c2, c3⟩
abbrev parts_days : List (TypeId × Nat) := [(4, 0), (4, 1), (4, 2), (4, 3), (4, 4), (4, 5), (4, 6)]
theorem rd_days (h : Rd Tryz.prog H (f + 2) 36 cs) : ∃ d : List Bool, cs = d.map .bool ∧ d.length = 7 := by
  obtain ⟨hl, hp⟩ := h.parts (ps := parts_days) (by kernel_rfl)
  rw [ce_days] at hl
  obtain ⟨x0, x1, x2, x3, x4, x5, x6, rfl⟩ := len7 hl
  simp only [parts_days, List.forall_mem_cons, ce_bool] at hp
  obtain ⟨h0, h1, h2, h3, h4, h5, h6, _⟩ := hp
  obtain ⟨b0, e0⟩ := h0.bool Tryz.underlying4
  obtain ⟨b1, e1⟩ := h1.bool Tryz.underlying4
  obtain ⟨b2, e2⟩ := h2.bool Tryz.underlying4
  obtain ⟨b3, e3⟩ := h3.bool Tryz.underlying4
  obtain ⟨b4, e4⟩ := h4.bool Tryz.underlying4
  obtain ⟨b5, e5⟩ := h5.bool Tryz.underlying4
  obtain ⟨b6, e6⟩ := h6.bool Tryz.underlying4
  simp at e0 e1 e2 e3 e4 e5 e6
  exact ⟨[b0, b1, b2, b3, b4, b5, b6], by simp [e0, e1, e2, e3, e4, e5, e6], rfl⟩
end
end Go.Vi
