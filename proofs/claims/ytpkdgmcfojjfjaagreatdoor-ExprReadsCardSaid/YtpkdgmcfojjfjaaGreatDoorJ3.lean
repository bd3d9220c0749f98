/- What the functions' bodies come to. What the functions' bodies come to. What the functions' bodies come to. What the functions' bodies come to. What the functions' bodies come to. -/
import Derived.Test.YtpkdgmcfojjfjaaGreatDoorJ2
import Derived.Test.YtpkdgmcfojjfjaaGreatDoorChecked
namespace Go.Vi
open Go Go.Proofs
-- tocsin/tocsinlaw10.ExprFrom
def L14x0 (n : Nat) (k : Value → AHeap → Prop) (sl : List Value) (H : AHeap) : Prop := kit Tryz.prog (cl (cl (cr (cl (cr (cr (cr (cb Tryz.f14)))))))) n (kblk 0 (kseq Tryz.prog (cr (cr (cr (cr (cb Tryz.f14))))) (kfin Tryz.prog
  Tryz.f14 k))) .normal sl H
def L14x1 (n : Nat) (n0 : Nat) (k : Value → AHeap → Prop) (sl : List Value) (H : AHeap) : Prop := kit Tryz.prog (cl (cl (cr (cr (cr (cl (cl (cr (cl (cl (cr (cl (cr (cr (cr (cb Tryz.f14)))))))))))))))) n (kblk 2 (kblk 1 (kseq
  Tryz.prog (cr (cr (cl (cl (cr (cl (cr (cr (cr (cb Tryz.f14)))))))))) (kit Tryz.prog (cl (cl (cr (cl (cr (cr (cr (cb Tryz.f14)))))))) n0 (kblk 0 (kseq Tryz.prog (cr (cr (cr (cr (cb Tryz.f14))))) (kfin Tryz.prog Tryz.f14 k)))))))
  .normal sl H
def L14x2 (n : Nat) (n1 : Nat) (n0 : Nat) (k : Value → AHeap → Prop) (sl : List Value) (H : AHeap) : Prop := kit Tryz.prog (cl (cl (cr (cr (cl (cl (cr (cl (cl (cr (cr (cr (cl (cl (cr (cl (cl (cr (cl (cr (cr (cr (cb
  Tryz.f14))))))))))))))))))))))) n (kblk 4 (kblk 3 (kseq Tryz.prog (cr (cr (cl (cl (cr (cr (cr (cl (cl (cr (cl (cl (cr (cl (cr (cr (cr (cb Tryz.f14)))))))))))))))))) (kit Tryz.prog (cl (cl (cr (cr (cr (cl (cl (cr (cl (cl (cr (cl
  (cr (cr (cr (cb Tryz.f14)))))))))))))))) n1 (kblk 2 (kblk 1 (kseq Tryz.prog (cr (cr (cl (cl (cr (cl (cr (cr (cr (cb Tryz.f14)))))))))) (kit Tryz.prog (cl (cl (cr (cl (cr (cr (cr (cb Tryz.f14)))))))) n0 (kblk 0 (kseq Tryz.prog
  (cr (cr (cr (cr (cb Tryz.f14))))) (kfin Tryz.prog Tryz.f14 k))))))))))) .normal sl H
theorem d14 (a0 : Value) (H : AHeap) (k : Value → AHeap → Prop) : kbody Tryz.prog Tryz.f14 [a0] H k = (@bnd (aLen Tryz.prog H 9 a0) ⟨fun v11x1 => @bnd (aBin2 Tryz.prog H .gtr 3 (.tmp 11) (.const (.int .i64 5000)) v11x1 (.int .i64
  5000)) ⟨fun v12x2 => @kifB v12x2 ⟨k (.bool true) H⟩ ⟨@bndC Tryz.prog 38 [a0] H ⟨fun v15x3 H4 => @bnd (tupV v15x3 0) ⟨fun v16x5 => @bnd (tupV v15x3 1) ⟨fun v17x6 => ∃ n, L14x0 n  k [a0, undef, (.bool false), v16x5, v17x6, (.int
  .i64 0), undef, undef, undef, undef, a0, v11x1, v12x2, v15x3, a0, v15x3, v16x5, v17x6, undef, undef, undef, undef, undef, undef, undef, undef, undef, undef, undef, undef, undef, undef, undef, undef, undef, undef, undef, undef,
  undef, undef, undef, undef, undef, undef, undef, undef, undef, undef, undef, undef, undef, undef, undef, undef, undef, undef, undef, undef, undef, undef, undef, undef, undef, undef] H4⟩⟩⟩⟩⟩⟩) := by kernel_rfl
theorem L14x0q (n0 : Nat) (s0 s1 s2 s3 s4 s5 s6 s7 s8 s9 s10 s11 s12 s13 s14 s15 s16 s17 s18 s19 s20 s21 s22 s23 s24 s25 s26 s27 s28 s29 s30 s31 s32 s33 s34 s35 s36 s37 s38 s39 s40 s41 s42 s43 s44 s45 s46 s47 s48 s49 s50 s51 s52
  s53 s54 s55 s56 s57 s58 s59 s60 s61 s62 s63 : Value) (H : AHeap) (k : Value → AHeap → Prop) : L14x0 (n0 + 1) k [s0, s1, s2, s3, s4, s5, s6, s7, s8, s9, s10, s11, s12, s13, s14, s15, s16, s17, s18, s19, s20, s21, s22, s23, s24,
  s25, s26, s27, s28, s29, s30, s31, s32, s33, s34, s35, s36, s37, s38, s39, s40, s41, s42, s43, s44, s45, s46, s47, s48, s49, s50, s51, s52, s53, s54, s55, s56, s57, s58, s59, s60, s61, s62, s63] H = (@bnd (aBin2 Tryz.prog H
  .lss 3 (.tmp 18) (.const (.int .i64 2)) s5 (.int .i64 2)) ⟨fun v19x7 => @kifB v19x7 ⟨@bndC Tryz.prog 17 [s0] H ⟨fun v24x8 H9 => @bnd (tupV v24x8 0) ⟨fun v25x10 => @bnd (tupV v24x8 1) ⟨fun v26x11 => @bndC Tryz.prog 19 [v25x10,
  s3] H9 ⟨fun v29x12 H13 => @bnd (unV Tryz.prog .not v29x12) ⟨fun v30x14 => @bnd (gif v30x14 false ((some v26x11)) undef) ⟨fun v32x15 => @bnd (gif v30x14 false ((some s4)) undef) ⟨fun v33x16 => @bnd (gif v30x14 false (aBin2
  Tryz.prog H13 .neq 3 (.tmp 32) (.tmp 33) v32x15 v33x16) undef) ⟨fun v34x17 => @bnd (pickV v30x14 (.bool true) v34x17) ⟨fun v35x18 => @kifB v35x18 ⟨k (.bool false) H13⟩ ⟨∃ n, L14x1 n n0 k [s0, s1, s2, s3, s4, s5, v25x10, v26x11,
  (.int .i64 0), s9, s10, s11, s12, s13, s14, s15, s16, s17, s5, v19x7, s20, s21, v24x8, s0, v24x8, v25x10, v26x11, v25x10, s3, v29x12, v30x14, v30x14, v32x15, v33x16, v34x17, v35x18, s36, s37, s38, s39, s40, s41, s42, s43, s44,
  s45, s46, s47, s48, s49, s50, s51, s52, s53, s54, s55, s56, s57, s58, s59, s60, s61, s62, s63] H13⟩⟩⟩⟩⟩⟩⟩⟩⟩⟩⟩ ⟨k (.bool true) H⟩⟩) := by kernel_rfl
theorem L14x1q (n1 : Nat) (n0 : Nat) (s0 s1 s2 s3 s4 s5 s6 s7 s8 s9 s10 s11 s12 s13 s14 s15 s16 s17 s18 s19 s20 s21 s22 s23 s24 s25 s26 s27 s28 s29 s30 s31 s32 s33 s34 s35 s36 s37 s38 s39 s40 s41 s42 s43 s44 s45 s46 s47 s48 s49
  s50 s51 s52 s53 s54 s55 s56 s57 s58 s59 s60 s61 s62 s63 : Value) (H : AHeap) (k : Value → AHeap → Prop) : L14x1 (n1 + 1) n0 k [s0, s1, s2, s3, s4, s5, s6, s7, s8, s9, s10, s11, s12, s13, s14, s15, s16, s17, s18, s19, s20, s21,
  s22, s23, s24, s25, s26, s27, s28, s29, s30, s31, s32, s33, s34, s35, s36, s37, s38, s39, s40, s41, s42, s43, s44, s45, s46, s47, s48, s49, s50, s51, s52, s53, s54, s55, s56, s57, s58, s59, s60, s61, s62, s63] H = (@bnd (aLen
  Tryz.prog H 27 s6) ⟨fun v38x19 => @bnd (aBin2 Tryz.prog H .lss 3 (.tmp 36) (.tmp 38) s8 v38x19) ⟨fun v39x20 => @kifB v39x20 ⟨@bnd (aIndexAddr Tryz.prog H 27 s6 s8) ⟨fun v44x21 => @bnd (aFieldAddr Tryz.prog H 37 v44x21 6) ⟨fun
  v45x22 => @bndS (aStore Tryz.prog H 3 v45x22 (.int .i64 (-5))) ⟨fun _ H24 => ∃ n, L14x2 n n1 n0 k [s0, s1, s2, s3, s4, s5, s6, s7, s8, (.int .i64 0), s10, s11, s12, s13, s14, s15, s16, s17, s18, s19, s20, s21, s22, s23, s24,
  s25, s26, s27, s28, s29, s30, s31, s32, s33, s34, s35, s8, s6, v38x19, v39x20, s40, s41, s6, s8, v44x21, v45x22, s46, s47, s48, s49, s50, s51, s52, s53, s54, s55, s56, s57, s58, s59, s60, s61, s62, s63] H24⟩⟩⟩⟩ ⟨@bnd (aBin2
  Tryz.prog H .add 3 (.tmp 20) (.const (.int .i64 1)) s5 (.int .i64 1)) ⟨fun v21x25 => L14x0 n0  k [s0, s1, s2, s3, s4, v21x25, s6, s7, s8, s9, s10, s11, s12, s13, s14, s15, s16, s17, s18, s19, s5, v21x25, s22, s23, s24, s25,
  s26, s27, s28, s29, s30, s31, s32, s33, s34, s35, s8, s6, v38x19, v39x20, s40, s41, s42, s43, s44, s45, s46, s47, s48, s49, s50, s51, s52, s53, s54, s55, s56, s57, s58, s59, s60, s61, s62, s63] H⟩⟩⟩⟩) := by kernel_rfl
theorem L14x2q (n2 : Nat) (n1 : Nat) (n0 : Nat) (s0 s1 s2 s3 s4 s5 s6 s7 s8 s9 s10 s11 s12 s13 s14 s15 s16 s17 s18 s19 s20 s21 s22 s23 s24 s25 s26 s27 s28 s29 s30 s31 s32 s33 s34 s35 s36 s37 s38 s39 s40 s41 s42 s43 s44 s45 s46
  s47 s48 s49 s50 s51 s52 s53 s54 s55 s56 s57 s58 s59 s60 s61 s62 s63 : Value) (H : AHeap) (k : Value → AHeap → Prop) : L14x2 (n2 + 1) n1 n0 k [s0, s1, s2, s3, s4, s5, s6, s7, s8, s9, s10, s11, s12, s13, s14, s15, s16, s17, s18,
  s19, s20, s21, s22, s23, s24, s25, s26, s27, s28, s29, s30, s31, s32, s33, s34, s35, s36, s37, s38, s39, s40, s41, s42, s43, s44, s45, s46, s47, s48, s49, s50, s51, s52, s53, s54, s55, s56, s57, s58, s59, s60, s61, s62, s63] H
  = (@bnd (aIndexAddr Tryz.prog H 27 s6 s8) ⟨fun v49x26 => @bnd (aFieldAddr Tryz.prog H 37 v49x26 2) ⟨fun v50x27 => @bnd (aLoad Tryz.prog H 35 v50x27) ⟨fun v51x28 => @bnd (aLen Tryz.prog H 35 v51x28) ⟨fun v52x29 => @bnd (aBin2
  Tryz.prog H .lss 3 (.tmp 46) (.tmp 52) s9 v52x29) ⟨fun v53x30 => @kifB v53x30 ⟨@bnd (aIndexAddr Tryz.prog H 27 s6 s8) ⟨fun v58x31 => @bnd (aFieldAddr Tryz.prog H 37 v58x31 2) ⟨fun v59x32 => @bnd (aLoad Tryz.prog H 35 v59x32)
  ⟨fun v60x33 => @bnd (aIndexAddr Tryz.prog H 35 v60x33 s9) ⟨fun v62x34 => @bnd (aFieldAddr Tryz.prog H 75 v62x34 0) ⟨fun v63x35 => @bndS (aStore Tryz.prog H 9 v63x35 (.string { data := #[115, 112, 111, 105, 108, 116] })) ⟨fun _
  H37 => @bnd (aBin2 Tryz.prog H37 .add 3 (.tmp 54) (.const (.int .i64 1)) s9 (.int .i64 1)) ⟨fun v55x38 => L14x2 n2 n1 n0 k [s0, s1, s2, s3, s4, s5, s6, s7, s8, v55x38, s10, s11, s12, s13, s14, s15, s16, s17, s18, s19, s20, s21,
  s22, s23, s24, s25, s26, s27, s28, s29, s30, s31, s32, s33, s34, s35, s36, s37, s38, s39, s40, s41, s42, s43, s44, s45, s9, s6, s8, v49x26, v50x27, v51x28, v52x29, v53x30, s9, v55x38, s6, s8, v58x31, v59x32, v60x33, s9, v62x34,
  v63x35] H37⟩⟩⟩⟩⟩⟩⟩⟩ ⟨@bnd (aBin2 Tryz.prog H .add 3 (.tmp 40) (.const (.int .i64 1)) s8 (.int .i64 1)) ⟨fun v41x39 => L14x1 n1 n0 k [s0, s1, s2, s3, s4, s5, s6, s7, v41x39, s9, s10, s11, s12, s13, s14, s15, s16, s17, s18, s19,
  s20, s21, s22, s23, s24, s25, s26, s27, s28, s29, s30, s31, s32, s33, s34, s35, s36, s37, s38, s39, s8, v41x39, s42, s43, s44, s45, s9, s6, s8, v49x26, v50x27, v51x28, v52x29, v53x30, s54, s55, s56, s57, s58, s59, s60, s61,
  s62, s63] H⟩⟩⟩⟩⟩⟩⟩) := by kernel_rfl
-- tocsin/tocsinlaw10.awake
def R16x0 (k : Value → AHeap → Prop) : KontG := (kblkG 0 (kseqG Tryz.prog (drawStd Tryz.prog) (cr (cr (cr (cb Tryz.f16)))) (kfinG Tryz.prog Tryz.f16 k)))
theorem d16 (a0 : Value) (H : AHeap) (k : Value → AHeap → Prop) : kbodyG Tryz.prog (drawStd Tryz.prog) Tryz.f16 [a0] H k = (@bndE (aAlloc Tryz.prog H 23) ⟨fun v2x1 H2 => @bndE (aAlloc Tryz.prog H2 3) ⟨fun v3x3 H4 => @bndE (aAlloc
  Tryz.prog H4 24) ⟨fun v4x5 H6 => @bndE (aAlloc Tryz.prog H6 23) ⟨fun v5x7 H8 => @bndC Tryz.prog 39 [a0] H8 ⟨fun v9x9 H10 => krange Tryz.prog v9x9 [a0, undef, v2x1, v3x3, v4x5, v5x7, undef, undef, a0, v9x9, undef, undef, undef,
  undef, undef, undef, undef, undef, undef, undef, undef, undef] #[10, 11] (cl (cl (cr (cl (cr (cr (cb Tryz.f16))))))) (cr (cl (cr (cl (cr (cr (cb Tryz.f16))))))) H10 [] (R16x0 k)⟩⟩⟩⟩⟩) := by kernel_rfl
theorem R16x0n (s0 s1 s2 s3 s4 s5 s6 s7 s8 s9 s10 s11 s12 s13 s14 s15 s16 s17 s18 s19 s20 s21 : Value) (H : AHeap) (b : Nat) (k : Value → AHeap → Prop) : R16x0 k .normal [s0, s1, s2, s3, s4, s5, s6, s7, s8, s9, s10, s11, s12,
  s13, s14, s15, s16, s17, s18, s19, s20, s21] H [b] = (@bnd (aLoad Tryz.prog H 23 s5) ⟨fun v21x11 => @bndS (aStore Tryz.prog H 23 s2 v21x11) ⟨fun _ H13 => @bndS (aStore Tryz.prog H13 3 s3 (.int .i64 0)) ⟨fun _ H15 => @bndS
  (aStore Tryz.prog H15 24 s4 (.int .i64 0)) ⟨fun _ H17 => H17[b]? = some (AObj.loop LRec.blk) ∧ ∃ r18, aLoad Tryz.prog (H17.set b (AObj.loop LRec.gone)) 23 s2 = some r18 ∧ ∃ r19, aLoad Tryz.prog (H17.set b (AObj.loop LRec.gone))
  3 s3 = some r19 ∧ ∃ r20, aLoad Tryz.prog (H17.set b (AObj.loop LRec.gone)) 24 s4 = some r20 ∧ k (.tuple #[r18, r19, r20]) (H17.set b (AObj.loop LRec.gone))⟩⟩⟩⟩) := by kernel_rfl
theorem R16x0r (s0 s1 s2 s3 s4 s5 s6 s7 s8 s9 s10 s11 s12 s13 s14 s15 s16 s17 s18 s19 s20 s21 : Value) (H : AHeap) (b : Nat) (k : Value → AHeap → Prop) : R16x0 k .ret [s0, s1, s2, s3, s4, s5, s6, s7, s8, s9, s10, s11, s12, s13,
  s14, s15, s16, s17, s18, s19, s20, s21] H [b] = (H[b]? = some (AObj.loop LRec.blk) ∧ ∃ r21, aLoad Tryz.prog (H.set b (AObj.loop LRec.gone)) 23 s2 = some r21 ∧ ∃ r22, aLoad Tryz.prog (H.set b (AObj.loop LRec.gone)) 3 s3 = some
  r22 ∧ ∃ r23, aLoad Tryz.prog (H.set b (AObj.loop LRec.gone)) 24 s4 = some r23 ∧ k (.tuple #[r21, r22, r23]) (H.set b (AObj.loop LRec.gone))) := by kernel_rfl
theorem R16x0A (s0 s1 s2 s3 s4 s5 s6 s7 s8 s9 s10 s11 s12 s13 s14 s15 s16 s17 s18 s19 s20 s21 : Value) (H : AHeap) (kk : Kont) : kx Tryz.prog (cl (cl (cr (cl (cr (cr (cb Tryz.f16))))))) [s0, s1, s2, s3, s4, s5, s6, s7, s8, s9,
  s10, s11, s12, s13, s14, s15, s16, s17, s18, s19, s20, s21] H kk = (@bndE (aAlloc Tryz.prog H 70) ⟨fun v6x24 H25 => @bndS (aStore Tryz.prog H25 70 v6x24 s10) ⟨fun _ H27 => kk AExit.normal [s0, s1, s2, s3, s4, s5, v6x24, s11,
  s8, s9, s10, s11, s12, s13, s14, s15, s16, s17, s18, s19, s20, s21] H27⟩⟩) := by kernel_rfl
theorem R16x0B (s0 s1 s2 s3 s4 s5 s6 s7 s8 s9 s10 s11 s12 s13 s14 s15 s16 s17 s18 s19 s20 s21 : Value) (H : AHeap) (kk : Kont) : kx Tryz.prog (cr (cl (cr (cl (cr (cr (cb Tryz.f16))))))) [s0, s1, s2, s3, s4, s5, s6, s7, s8, s9,
  s10, s11, s12, s13, s14, s15, s16, s17, s18, s19, s20, s21] H kk = (@bnd (aBin2 Tryz.prog H .neq 24 (.tmp 12) (.const (.int .i64 0)) s7 (.int .i64 0)) ⟨fun v13x28 => @kifB v13x28 ⟨@bnd (aFieldAddr Tryz.prog H 70 s6 2) ⟨fun
  v14x29 => @bnd (aLoad Tryz.prog H 3 v14x29) ⟨fun v15x30 => @bndD false H ⟨fun x31 H32 => x31 = undef ∧ aStore Tryz.prog H 23 s2 (.slice none 0 0) = some H32⟩ ⟨fun _ H32 => @bndD true H32 ⟨fun x33 H34 => x33 = undef ∧ aStore
  Tryz.prog H32 3 s3 v15x30 = some H34⟩ ⟨fun _ H34 => @bndD true H34 ⟨fun x35 H36 => x35 = undef ∧ aStore Tryz.prog H34 24 s4 s7 = some H36⟩ ⟨fun _ H36 => kk AExit.ret [s0, s1, s2, s3, s4, s5, s6, s7, s8, s9, s10, s11, s7,
  v13x28, v14x29, v15x30, s7, s17, s18, s19, s20, s21] H36⟩⟩⟩⟩⟩⟩ ⟨@bnd (aLoad Tryz.prog H 23 s5) ⟨fun v17x37 => @bnd (aLoad Tryz.prog H 70 s6) ⟨fun v18x38 => @bndL Tryz.prog H 23 1 [(0, v18x38)] ⟨fun v19x39 H40 => @bndE (aBuiltin
  Tryz.prog H40 Builtin.append #[23, 23] [v17x37, v19x39]) ⟨fun v20x41 H42 => @bndS (aStore Tryz.prog H42 23 s5 v20x41) ⟨fun _ H44 => kk AExit.normal [s0, s1, s2, s3, s4, s5, s6, s7, s8, s9, s10, s11, s7, v13x28, s14, s15, s16,
  v17x37, v18x38, v19x39, v20x41, s21] H44⟩⟩⟩⟩⟩⟩⟩) := by kernel_rfl
-- tocsin/expr.Parse
def S17x0 (k : Value → AHeap → Prop) (sl : List Value) (H : AHeap) : Prop := kseq Tryz.prog (cr (cr (cr (cr (cr (cr (cb Tryz.f17))))))) (kfin Tryz.prog Tryz.f17 k) .normal sl H
theorem d17 (a0 : Value) (H : AHeap) (k : Value → AHeap → Prop) : kbody Tryz.prog Tryz.f17 [a0] H k = (@bndC Tryz.prog 16 [a0] H ⟨fun v12x1 H2 => @bnd (tupV v12x1 0) ⟨fun v13x3 => @bnd (tupV v12x1 1) ⟨fun v14x4 => @bnd (tupV
  v12x1 2) ⟨fun v15x5 => @bnd (aBin2 Tryz.prog H2 .neq 24 (.tmp 16) (.const (.int .i64 0)) v15x5 (.int .i64 0)) ⟨fun v17x6 => @kifB v17x6 ⟨k (.tuple #[(.slice none 0 0), v15x5]) H2⟩ ⟨@bndC Tryz.prog 18 [v13x3, (.int .i64 0)] H2
  ⟨fun v21x7 H8 => @bnd (tupV v21x7 0) ⟨fun v22x9 => @bnd (tupV v21x7 1) ⟨fun v23x10 => @bnd (tupV v21x7 2) ⟨fun v24x11 => @bnd (aBin2 Tryz.prog H8 .eql 24 (.tmp 25) (.const (.int .i64 100)) v24x11 (.int .i64 100)) ⟨fun v26x12 =>
  @kifB v26x12 ⟨k (.tuple #[(.slice none 0 0), v24x11]) H8⟩ ⟨@bnd (aBin2 Tryz.prog H8 .eql 24 (.tmp 28) (.const (.int .i64 4)) v24x11 (.int .i64 4)) ⟨fun v29x13 => @kifB v29x13 ⟨@bnd (buildV Tryz.prog 81 [(0, v13x3), (2, (.bool
  true))]) ⟨fun v31x14 => @bndE (aNew H8 81 v31x14) ⟨fun v32x15 H16 => @bndC Tryz.prog 40 [v32x15] H16 ⟨fun v34x17 H18 => @bnd (nilV v32x15) ⟨fun v36x19 => @bnd (aFieldAddr Tryz.prog H18 81 v36x19 1) ⟨fun v37x20 => @bnd (aLoad
  Tryz.prog H18 3 v37x20) ⟨fun v38x21 => S17x0  k [a0, undef, (.slice none 0 0), (.int .i64 0), v13x3, v14x4, v24x11, v22x9, v38x21, v32x15, v12x1, a0, v12x1, v13x3, v14x4, v15x5, v15x5, v17x6, undef, v21x7, v13x3, v21x7, v22x9,
  v23x10, v24x11, v24x11, v26x12, undef, v24x11, v29x13, v13x3, v31x14, v32x15, v32x15, v34x17, v32x15, v36x19, v37x20, v38x21, undef, undef, undef, undef, undef, undef] H18⟩⟩⟩⟩⟩⟩⟩ ⟨S17x0  k [a0, undef, (.slice none 0 0), (.int
  .i64 0), v13x3, v14x4, v24x11, v22x9, v23x10, undef, v12x1, a0, v12x1, v13x3, v14x4, v15x5, v15x5, v17x6, undef, v21x7, v13x3, v21x7, v22x9, v23x10, v24x11, v24x11, v26x12, undef, v24x11, v29x13, undef, undef, undef, undef,
  undef, undef, undef, undef, undef, undef, undef, undef, undef, undef, undef] H8⟩⟩⟩⟩⟩⟩⟩⟩⟩⟩⟩⟩⟩⟩) := by kernel_rfl
theorem S17x0q (s0 s1 s2 s3 s4 s5 s6 s7 s8 s9 s10 s11 s12 s13 s14 s15 s16 s17 s18 s19 s20 s21 s22 s23 s24 s25 s26 s27 s28 s29 s30 s31 s32 s33 s34 s35 s36 s37 s38 s39 s40 s41 s42 s43 s44 : Value) (H : AHeap) (k : Value → AHeap →
  Prop) : S17x0 k [s0, s1, s2, s3, s4, s5, s6, s7, s8, s9, s10, s11, s12, s13, s14, s15, s16, s17, s18, s19, s20, s21, s22, s23, s24, s25, s26, s27, s28, s29, s30, s31, s32, s33, s34, s35, s36, s37, s38, s39, s40, s41, s42, s43,
  s44] H = (@bnd (aLen Tryz.prog H 23 s4) ⟨fun v41x22 => @bnd (aBin2 Tryz.prog H .neq 3 (.tmp 39) (.tmp 41) s8 v41x22) ⟨fun v42x23 => @kifB v42x23 ⟨k (.tuple #[(.slice none 0 0), (.int .i64 100)]) H⟩ ⟨k (.tuple #[s7, s6]) H⟩⟩⟩)
  := by kernel_rfl
-- tocsin/expr.Read
theorem d18 (a0 a1 : Value) (H : AHeap) (k : Value → AHeap → Prop) : kbody Tryz.prog Tryz.f18 [a0, a1] H k = (@bnd (aBin2 Tryz.prog H .lss 3 (.tmp 9) (.const (.int .i64 0)) a1 (.int .i64 0)) ⟨fun v10x1 => @bnd (gif v10x1 false
  ((some a1)) undef) ⟨fun v12x2 => @bnd (gif v10x1 false ((some a0)) undef) ⟨fun v13x3 => @bnd (gif v10x1 false (aLen Tryz.prog H 23 v13x3) undef) ⟨fun v14x4 => @bnd (gif v10x1 false (aBin2 Tryz.prog H .geq 3 (.tmp 12) (.tmp 14)
  v12x2 v14x4) undef) ⟨fun v15x5 => @bnd (pickV v10x1 (.bool true) v15x5) ⟨fun v16x6 => @kifB v16x6 ⟨k (.tuple #[(.slice none 0 0), (.int .i64 0), (.int .i64 100)]) H⟩ ⟨@bnd (buildV Tryz.prog 81 [(0, a0), (1, a1), (2, (.bool
  true))]) ⟨fun v19x7 => @bndE (aNew H 81 v19x7) ⟨fun v20x8 H9 => @bndC Tryz.prog 40 [v20x8] H9 ⟨fun v22x10 H11 => @bnd (nilV v20x8) ⟨fun v25x12 => @bnd (aFieldAddr Tryz.prog H11 81 v25x12 2) ⟨fun v26x13 => @bnd (aLoad Tryz.prog
  H11 4 v26x13) ⟨fun v27x14 => @bnd (unV Tryz.prog .not v27x14) ⟨fun v28x15 => @kifB v28x15 ⟨k (.tuple #[(.slice none 0 0), (.int .i64 0), (.int .i64 100)]) H11⟩ ⟨@bnd (aLen Tryz.prog H11 27 v22x10) ⟨fun v31x16 => @bnd (aBin2
  Tryz.prog H11 .gtr 3 (.tmp 31) (.const (.int .i64 31)) v31x16 (.int .i64 31)) ⟨fun v32x17 => @kifB v32x17 ⟨k (.tuple #[(.slice none 0 0), (.int .i64 0), (.int .i64 4)]) H11⟩ ⟨@bnd (nilV v20x8) ⟨fun v35x18 => @bnd (aFieldAddr
  Tryz.prog H11 81 v35x18 1) ⟨fun v36x19 => @bnd (aLoad Tryz.prog H11 3 v36x19) ⟨fun v37x20 => k (.tuple #[v22x10, v37x20, (.int .i64 0)]) H11⟩⟩⟩⟩⟩⟩⟩⟩⟩⟩⟩⟩⟩⟩⟩⟩⟩⟩⟩⟩⟩) := by kernel_rfl
-- tocsin/tocsinlaw10.great
end Go.Vi
namespace Go.Vi
open Go Go.Proofs
-- tocsin/finger.Of
def L36x0 (n : Nat) (k : Value → AHeap → Prop) (sl : List Value) (H : AHeap) : Prop := kit Tryz.prog (cl (cl (cl (cr (cr (cr (cr (cb Tryz.f36)))))))) n (kblk 0 (kseq Tryz.prog (cr (cr (cr (cr (cr (cb Tryz.f36)))))) (kfin
  Tryz.prog Tryz.f36 k))) .normal sl H
def L36x1 (n : Nat) (n0 : Nat) (k : Value → AHeap → Prop) (sl : List Value) (H : AHeap) : Prop := kit Tryz.prog (cl (cl (cl (cl (cr (cl (cr (cl (cr (cl (cl (cl (cr (cr (cr (cr (cb Tryz.f36))))))))))))))))) n (kblk 2 (kseq
  Tryz.prog (cr (cl (cr (cl (cr (cl (cr (cl (cl (cl (cr (cr (cr (cr (cb Tryz.f36))))))))))))))) (kseq Tryz.prog (cr (cr (cl (cr (cl (cl (cl (cr (cr (cr (cr (cb Tryz.f36)))))))))))) (kblk 1 (kit Tryz.prog (cl (cl (cl (cr (cr (cr
  (cr (cb Tryz.f36)))))))) n0 (kblk 0 (kseq Tryz.prog (cr (cr (cr (cr (cr (cb Tryz.f36)))))) (kfin Tryz.prog Tryz.f36 k)))))))) .normal sl H
theorem d36 (a0 : Value) (H : AHeap) (k : Value → AHeap → Prop) : kbody Tryz.prog Tryz.f36 [a0] H k = (@bnd (aLen Tryz.prog H 9 a0) ⟨fun v9x1 => @bnd (aBin2 Tryz.prog H .gtr 3 (.tmp 9) (.const (.int .i64 4096)) v9x1 (.int .i64
  4096)) ⟨fun v10x2 => @kifB v10x2 ⟨k (.tuple #[(.slice none 0 0), (.int .i64 0), (.int .i64 3)]) H⟩ ⟨∃ n, L36x0 n  k [a0, undef, (.slice none 0 0), (.int .i64 0), (.int .i64 0), (.slice none 0 0), (.int .i64 0), undef, a0, v9x1,
  v10x2, undef, undef, undef, undef, undef, undef, undef, undef, undef, undef, undef, undef, undef, undef, undef, undef, undef, undef, undef, undef, undef, undef, undef, undef, undef, undef, undef, undef, undef, undef, undef,
  undef, undef, undef, undef, undef, undef, undef, undef, undef] H⟩⟩⟩) := by kernel_rfl
theorem L36x0q (n0 : Nat) (s0 s1 s2 s3 s4 s5 s6 s7 s8 s9 s10 s11 s12 s13 s14 s15 s16 s17 s18 s19 s20 s21 s22 s23 s24 s25 s26 s27 s28 s29 s30 s31 s32 s33 s34 s35 s36 s37 s38 s39 s40 s41 s42 s43 s44 s45 s46 s47 s48 s49 s50 : Value)
  (H : AHeap) (k : Value → AHeap → Prop) : L36x0 (n0 + 1) k [s0, s1, s2, s3, s4, s5, s6, s7, s8, s9, s10, s11, s12, s13, s14, s15, s16, s17, s18, s19, s20, s21, s22, s23, s24, s25, s26, s27, s28, s29, s30, s31, s32, s33, s34,
  s35, s36, s37, s38, s39, s40, s41, s42, s43, s44, s45, s46, s47, s48, s49, s50] H = (@bnd (aLen Tryz.prog H 9 s0) ⟨fun v13x3 => @bnd (aBin2 Tryz.prog H .lss 3 (.tmp 11) (.tmp 13) s6 v13x3) ⟨fun v14x4 => @kifB v14x4 ⟨@bnd
  (aIndex Tryz.prog 9 s0 s6) ⟨fun v17x5 => @bndC Tryz.prog 61 [v17x5] H ⟨fun v18x6 H7 => @kifB v18x6 ⟨@bnd (aBin2 Tryz.prog H7 .add 3 (.tmp 19) (.const (.int .i64 1)) s6 (.int .i64 1)) ⟨fun v20x8 => L36x0 n0  k [s0, s1, s2, s3,
  s4, s5, v20x8, s7, s8, s9, s10, s6, s0, v13x3, v14x4, s0, s6, v17x5, v18x6, s6, v20x8, s21, s22, s23, s24, s25, s26, s27, s28, s29, s30, s31, s32, s33, s34, s35, s36, s37, s38, s39, s40, s41, s42, s43, s44, s45, s46, s47, s48,
  s49, s50] H7⟩⟩ ⟨@bnd (aIndex Tryz.prog 9 s0 s6) ⟨fun v23x9 => @bnd (aBin2 Tryz.prog H7 .eql 5 (.tmp 23) (.const (.int .u8 35)) v23x9 (.int .u8 35)) ⟨fun v24x10 => @kifB v24x10 ⟨∃ n, L36x1 n n0 k [s0, s1, s2, s3, s4, s5, s6, s7,
  s8, s9, s10, s6, s0, v13x3, v14x4, s0, s6, v17x5, v18x6, s19, s20, s0, s6, v23x9, v24x10, s25, s26, s27, s28, s29, s30, s31, s32, s33, s34, s35, s36, s37, s38, s39, s40, s41, s42, s43, s44, s45, s46, s47, s48, s49, s50] H7⟩
  ⟨@bndC Tryz.prog 62 [s0, s6] H7 ⟨fun v39x11 H12 => @bndE (aAlloc Tryz.prog H12 72) ⟨fun v7x13 H14 => @bndS (aStore Tryz.prog H14 72 v7x13 v39x11) ⟨fun _ H16 => @bnd (aFieldAddr Tryz.prog H16 72 v7x13 0) ⟨fun v40x17 => @bnd
  (aLoad Tryz.prog H16 5 v40x17) ⟨fun v41x18 => @bnd (aBin2 Tryz.prog H16 .eql 5 (.tmp 41) (.const (.int .u8 0)) v41x18 (.int .u8 0)) ⟨fun v42x19 => @kifB v42x19 ⟨k (.tuple #[(.slice none 0 0), s6, (.int .i64 90)]) H16⟩ ⟨@bnd
  (aLoad Tryz.prog H16 72 v7x13) ⟨fun v45x20 => @bndL Tryz.prog H16 64 1 [(0, v45x20)] ⟨fun v46x21 H22 => @bndE (aBuiltin Tryz.prog H22 Builtin.append #[64, 64] [s5, v46x21]) ⟨fun v47x23 H24 => @bnd (aFieldAddr Tryz.prog H24 72
  v7x13 3) ⟨fun v48x25 => @bnd (aLoad Tryz.prog H24 3 v48x25) ⟨fun v49x26 => L36x0 n0  k [s0, s1, s2, s3, s4, v47x23, v49x26, v7x13, s8, s9, s10, s6, s0, v13x3, v14x4, s0, s6, v17x5, v18x6, s19, s20, s0, s6, v23x9, v24x10, s25,
  s26, s27, s28, s29, s30, s31, s32, s33, s34, s35, s36, s0, s6, v39x11, v40x17, v41x18, v42x19, s43, s5, v45x20, v46x21, v47x23, v48x25, v49x26, s50] H24⟩⟩⟩⟩⟩⟩⟩⟩⟩⟩⟩⟩⟩⟩⟩⟩⟩⟩⟩ ⟨k (.tuple #[s5, (.int .i64 0), (.int .i64 0)]) H⟩⟩⟩)
  := by kernel_rfl
theorem L36x1q (n1 : Nat) (n0 : Nat) (s0 s1 s2 s3 s4 s5 s6 s7 s8 s9 s10 s11 s12 s13 s14 s15 s16 s17 s18 s19 s20 s21 s22 s23 s24 s25 s26 s27 s28 s29 s30 s31 s32 s33 s34 s35 s36 s37 s38 s39 s40 s41 s42 s43 s44 s45 s46 s47 s48 s49
  s50 : Value) (H : AHeap) (k : Value → AHeap → Prop) : L36x1 (n1 + 1) n0 k [s0, s1, s2, s3, s4, s5, s6, s7, s8, s9, s10, s11, s12, s13, s14, s15, s16, s17, s18, s19, s20, s21, s22, s23, s24, s25, s26, s27, s28, s29, s30, s31,
  s32, s33, s34, s35, s36, s37, s38, s39, s40, s41, s42, s43, s44, s45, s46, s47, s48, s49, s50] H = (@bnd (aLen Tryz.prog H 9 s0) ⟨fun v27x27 => @bnd (aBin2 Tryz.prog H .lss 3 (.tmp 25) (.tmp 27) s6 v27x27) ⟨fun v28x28 => @bnd
  (gif v28x28 true ((some s0)) undef) ⟨fun v30x29 => @bnd (gif v28x28 true ((some s6)) undef) ⟨fun v31x30 => @bnd (gif v28x28 true (aIndex Tryz.prog 9 v30x29 v31x30) undef) ⟨fun v32x31 => @bnd (gif v28x28 true (aBin2 Tryz.prog H
  .neq 5 (.tmp 32) (.const (.int .u8 10)) v32x31 (.int .u8 10)) undef) ⟨fun v33x32 => @bnd (pickV v28x28 v33x32 (.bool false)) ⟨fun v34x33 => @kifB v34x33 ⟨@bnd (aBin2 Tryz.prog H .add 3 (.tmp 35) (.const (.int .i64 1)) s6 (.int
  .i64 1)) ⟨fun v36x34 => L36x1 n1 n0 k [s0, s1, s2, s3, s4, s5, v36x34, s7, s8, s9, s10, s11, s12, s13, s14, s15, s16, s17, s18, s19, s20, s21, s22, s23, s24, s6, s0, v27x27, v28x28, v28x28, v30x29, v31x30, v32x31, v33x32,
  v34x33, s6, v36x34, s37, s38, s39, s40, s41, s42, s43, s44, s45, s46, s47, s48, s49, s50] H⟩⟩ ⟨L36x0 n0  k [s0, s1, s2, s3, s4, s5, s6, s7, s8, s9, s10, s11, s12, s13, s14, s15, s16, s17, s18, s19, s20, s21, s22, s23, s24, s6,
  s0, v27x27, v28x28, v28x28, v30x29, v31x30, v32x31, v33x32, v34x33, s35, s36, s37, s38, s39, s40, s41, s42, s43, s44, s45, s46, s47, s48, s49, s50] H⟩⟩⟩⟩⟩⟩⟩⟩) := by kernel_rfl
-- tocsin/tocsinref10.Condition
theorem d37 (a0 a1 a2 : Value) (H : AHeap) (k : Value → AHeap → Prop) : kbody Tryz.prog Tryz.f37 [a0, a1, a2] H k = (@bndC Tryz.prog 63 [a0, a1, a2, (.string { data := #[111, 114] })] H ⟨fun v11x1 H2 => @bnd (tupV v11x1 0) ⟨fun
  v12x3 => @bnd (tupV v11x1 1) ⟨fun v13x4 => k (.tuple #[v12x3, v13x4]) H2⟩⟩⟩) := by kernel_rfl
-- tocsin/tocsinref10.Parse
theorem d38 (a0 : Value) (H : AHeap) (k : Value → AHeap → Prop) : kbody Tryz.prog Tryz.f38 [a0] H k = (@bndC Tryz.prog 36 [a0] H ⟨fun v11x1 H2 => @bnd (tupV v11x1 0) ⟨fun v12x3 => @bnd (tupV v11x1 1) ⟨fun _ => @bnd (tupV v11x1 2)
  ⟨fun v14x5 => @bnd (aBin2 Tryz.prog H2 .neq 3 (.tmp 15) (.const (.int .i64 0)) v14x5 (.int .i64 0)) ⟨fun v16x6 => @kifB v16x6 ⟨k (.tuple #[(.slice none 0 0), v14x5]) H2⟩ ⟨@bndC Tryz.prog 37 [v12x3, (.int .i64 0), (.int .i64 0)]
  H2 ⟨fun v20x7 H8 => @bnd (tupV v20x7 0) ⟨fun v21x9 => @bnd (tupV v20x7 1) ⟨fun v22x10 => @bnd (aLen Tryz.prog H8 64 v12x3) ⟨fun v25x11 => @bnd (aBin2 Tryz.prog H8 .neq 3 (.tmp 23) (.tmp 25) v22x10 v25x11) ⟨fun v26x12 => @kifB
  v26x12 ⟨k (.tuple #[(.slice none 0 0), (.int .i64 100)]) H8⟩ ⟨@bnd (aLen Tryz.prog H8 27 v21x9) ⟨fun v28x13 => @bnd (aBin2 Tryz.prog H8 .gtr 3 (.tmp 28) (.const (.int .i64 31)) v28x13 (.int .i64 31)) ⟨fun v29x14 => @kifB v29x14
  ⟨k (.tuple #[(.slice none 0 0), (.int .i64 4)]) H8⟩ ⟨k (.tuple #[v21x9, (.int .i64 0)]) H8⟩⟩⟩⟩⟩⟩⟩⟩⟩⟩⟩⟩⟩⟩⟩) := by kernel_rfl
-- tocsin/lex.Tell
theorem d39 (a0 : Value) (H : AHeap) (k : Value → AHeap → Prop) : kbody Tryz.prog Tryz.f39 [a0] H k = (@bndE (aNew H 9 a0) ⟨fun v1x1 H2 => k (.func (Fn.func 64) #[] #[v1x1]) H2⟩) := by kernel_rfl
-- (*tocsin/expr.reader).condition
theorem d40 (a0 : Value) (H : AHeap) (k : Value → AHeap → Prop) : kbody Tryz.prog Tryz.f40 [a0] H k = (@bndE (aNew H 79 a0) ⟨fun v1x1 H2 => @bndE (aAlloc Tryz.prog H2 27) ⟨fun v3x3 H4 => @bndE (aAlloc Tryz.prog H4 107) ⟨fun v4x5
  H6 => @bndS (aStore Tryz.prog H6 107 v4x5 (.func (Fn.func 67) #[] #[v1x1, v4x5, v3x3])) ⟨fun _ H8 => @bnd (aLoad Tryz.prog H8 107 v4x5) ⟨fun v6x9 => @bndV Tryz.prog v6x9 [(.int .i64 0)] H8 ⟨fun _ H11 => @bnd (aLoad Tryz.prog
  H11 27 v3x3) ⟨fun v8x12 => k v8x12 H11⟩⟩⟩⟩⟩⟩⟩) := by kernel_rfl
-- tocsin/tocsinref08.Same
def L41x0 (n : Nat) (k : Value → AHeap → Prop) (sl : List Value) (H : AHeap) : Prop := kit Tryz.prog (cl (cl (cr (cl (cr (cr (cb Tryz.f41))))))) n (kblk 0 (kseq Tryz.prog (cr (cr (cr (cb Tryz.f41)))) (kfin Tryz.prog Tryz.f41 k)))
  .normal sl H
theorem d41 (a0 a1 : Value) (H : AHeap) (k : Value → AHeap → Prop) : kbody Tryz.prog Tryz.f41 [a0, a1] H k = (@bnd (aLen Tryz.prog H 35 a0) ⟨fun v7x1 => @bnd (aLen Tryz.prog H 35 a1) ⟨fun v9x2 => @bnd (aBin2 Tryz.prog H .neq 3
  (.tmp 7) (.tmp 9) v7x1 v9x2) ⟨fun v10x3 => @kifB v10x3 ⟨k (.bool false) H⟩ ⟨∃ n, L41x0 n  k [a0, a1, undef, undef, (.bool false), (.int .i64 0), a0, v7x1, a1, v9x2, v10x3, undef, undef, undef, undef, undef, undef, undef, undef,
  undef, undef, undef, undef, undef, undef, undef] H⟩⟩⟩⟩) := by kernel_rfl
theorem L41x0q (n0 : Nat) (s0 s1 s2 s3 s4 s5 s6 s7 s8 s9 s10 s11 s12 s13 s14 s15 s16 s17 s18 s19 s20 s21 s22 s23 s24 s25 : Value) (H : AHeap) (k : Value → AHeap → Prop) : L41x0 (n0 + 1) k [s0, s1, s2, s3, s4, s5, s6, s7, s8, s9,
  s10, s11, s12, s13, s14, s15, s16, s17, s18, s19, s20, s21, s22, s23, s24, s25] H = (@bnd (aLen Tryz.prog H 35 s0) ⟨fun v13x4 => @bnd (aBin2 Tryz.prog H .lss 3 (.tmp 11) (.tmp 13) s5 v13x4) ⟨fun v14x5 => @kifB v14x5 ⟨@bnd
  (aIndexAddr Tryz.prog H 35 s0 s5) ⟨fun v19x6 => @bnd (aLoad Tryz.prog H 75 v19x6) ⟨fun v20x7 => @bnd (aIndexAddr Tryz.prog H 35 s1 s5) ⟨fun v23x8 => @bnd (aLoad Tryz.prog H 75 v23x8) ⟨fun v24x9 => @bnd (aBin2 Tryz.prog H .neq
  75 (.tmp 20) (.tmp 24) v20x7 v24x9) ⟨fun v25x10 => @kifB v25x10 ⟨k (.bool false) H⟩ ⟨@bnd (aBin2 Tryz.prog H .add 3 (.tmp 15) (.const (.int .i64 1)) s5 (.int .i64 1)) ⟨fun v16x11 => L41x0 n0  k [s0, s1, s2, s3, s4, v16x11, s6,
  s7, s8, s9, s10, s5, s0, v13x4, v14x5, s5, v16x11, s0, s5, v19x6, v20x7, s1, s5, v23x8, v24x9, v25x10] H⟩⟩⟩⟩⟩⟩⟩⟩ ⟨k (.bool true) H⟩⟩⟩) := by kernel_rfl
-- slices.Clone[[]tocsin/api.Node,tocsin/api.Node]
def S44x0 (k : Value → AHeap → Prop) (sl : List Value) (H : AHeap) : Prop := kseq Tryz.prog (cr (cr (cr (cr (cb Tryz.f44))))) (kfin Tryz.prog Tryz.f44 k) .normal sl H
def S44x1 (k : Value → AHeap → Prop) (sl : List Value) (H : AHeap) : Prop := kseq Tryz.prog (cr (cr (cr (cr (cr (cl (cr (cl (cr (cr (cr (cb Tryz.f44)))))))))))) (kblk 0 (kseq Tryz.prog (cr (cr (cr (cr (cb Tryz.f44))))) (kfin
  Tryz.prog Tryz.f44 k))) .normal sl H
theorem S44x0q (s0 s1 s2 s3 s4 s5 s6 s7 s8 s9 s10 s11 s12 s13 s14 s15 s16 s17 s18 s19 s20 s21 s22 s23 s24 s25 s26 s27 s28 s29 s30 s31 s32 s33 s34 s35 s36 s37 s38 s39 s40 s41 s42 s43 s44 s45 s46 s47 s48 s49 s50 s51 s52 s53 s54 s55
  s56 s57 s58 s59 s60 s61 s62 s63 s64 s65 s66 s67 s68 s69 s70 : Value) (H : AHeap) (k : Value → AHeap → Prop) : S44x0 k [s0, s1, s2, s3, s4, s5, s6, s7, s8, s9, s10, s11, s12, s13, s14, s15, s16, s17, s18, s19, s20, s21, s22,
  s23, s24, s25, s26, s27, s28, s29, s30, s31, s32, s33, s34, s35, s36, s37, s38, s39, s40, s41, s42, s43, s44, s45, s46, s47, s48, s49, s50, s51, s52, s53, s54, s55, s56, s57, s58, s59, s60, s61, s62, s63, s64, s65, s66, s67,
  s68, s69, s70] H = (k (.int .i64 (-1)) H) := by kernel_rfl
theorem S44x1q (s0 s1 s2 s3 s4 s5 s6 s7 s8 s9 s10 s11 s12 s13 s14 s15 s16 s17 s18 s19 s20 s21 s22 s23 s24 s25 s26 s27 s28 s29 s30 s31 s32 s33 s34 s35 s36 s37 s38 s39 s40 s41 s42 s43 s44 s45 s46 s47 s48 s49 s50 s51 s52 s53 s54 s55
  s56 s57 s58 s59 s60 s61 s62 s63 s64 s65 s66 s67 s68 s69 s70 : Value) (H : AHeap) (k : Value → AHeap → Prop) : S44x1 k [s0, s1, s2, s3, s4, s5, s6, s7, s8, s9, s10, s11, s12, s13, s14, s15, s16, s17, s18, s19, s20, s21, s22,
  s23, s24, s25, s26, s27, s28, s29, s30, s31, s32, s33, s34, s35, s36, s37, s38, s39, s40, s41, s42, s43, s44, s45, s46, s47, s48, s49, s50, s51, s52, s53, s54, s55, s56, s57, s58, s59, s60, s61, s62, s63, s64, s65, s66, s67,
  s68, s69, s70] H = (@kifB s40 ⟨@bnd (aBin2 Tryz.prog H .sub 3 (.tmp 44) (.const (.int .i64 1)) s1 (.int .i64 1)) ⟨fun v45x33 => @bndC Tryz.prog 44 [s0, v45x33] H ⟨fun v46x34 H35 => @bnd (aLoad Tryz.prog H35 37 s5) ⟨fun v47x36
  => @bndC Tryz.prog 77 [v47x36] H35 ⟨fun v48x37 H38 => @bnd (gif v48x37 true (aFieldAddr Tryz.prog H38 37 s5 7) undef) ⟨fun v50x39 => @bnd (gif v48x37 true (aLoad Tryz.prog H38 3 v50x39) undef) ⟨fun v51x40 => @bnd (gif v48x37
  true ((some s1)) undef) ⟨fun v52x41 => @bnd (gif v48x37 true (aBin2 Tryz.prog H38 .sub 3 (.tmp 52) (.const (.int .i64 1)) v52x41 (.int .i64 1)) undef) ⟨fun v53x42 => @bnd (gif v48x37 true (aBin2 Tryz.prog H38 .eql 3 (.tmp 51)
  (.tmp 53) v51x40 v53x42) undef) ⟨fun v54x43 => @bnd (pickV v48x37 v54x43 (.bool false)) ⟨fun v55x44 => @bnd (gif v55x44 true ((some v46x34)) undef) ⟨fun v57x45 => @bnd (gif v55x44 true (aBin2 Tryz.prog H38 .gtr 3 (.tmp 57)
  (.const (.int .i64 0)) v57x45 (.int .i64 0)) undef) ⟨fun v58x46 => @bnd (pickV v55x44 v58x46 (.bool false)) ⟨fun v59x47 => @bnd (gif v59x47 true (aFieldAddr Tryz.prog H38 37 s5 6) undef) ⟨fun v61x48 => @bnd (gif v59x47 true
  (aLoad Tryz.prog H38 3 v61x48) undef) ⟨fun v62x49 => @bnd (gif v59x47 true ((some v46x34)) undef) ⟨fun v63x50 => @bnd (gif v59x47 true (aBin2 Tryz.prog H38 .sub 3 (.tmp 63) (.const (.int .i64 1)) v63x50 (.int .i64 1)) undef)
  ⟨fun v64x51 => @bnd (gif v59x47 true (aBin2 Tryz.prog H38 .eql 3 (.tmp 62) (.tmp 64) v62x49 v64x51) undef) ⟨fun v65x52 => @bnd (pickV v59x47 v65x52 (.bool false)) ⟨fun v66x53 => @kifB v66x53 ⟨@bnd (aBin2 Tryz.prog H38 .sub 3
  (.tmp 68) (.const (.int .i64 1)) v46x34 (.int .i64 1)) ⟨fun v69x54 => @bndC Tryz.prog 44 [s0, v69x54] H38 ⟨fun v70x55 H56 => k v70x55 H56⟩⟩⟩ ⟨S44x0  k [s0, s1, s2, s3, s4, s5, v46x34, s7, s8, s9, s10, s11, s12, s13, s14, s15,
  s16, s17, s18, s19, s20, s21, s22, s23, s24, s25, s26, s27, s28, s29, s30, s31, s32, s33, s34, s35, s36, s37, s38, s39, s40, s41, s42, s0, s1, v45x33, v46x34, v47x36, v48x37, v48x37, v50x39, v51x40, v52x41, v53x42, v54x43,
  v55x44, v55x44, v57x45, v58x46, v59x47, v59x47, v61x48, v62x49, v63x50, v64x51, v65x52, v66x53, s67, s68, s69, s70] H38⟩⟩⟩⟩⟩⟩⟩⟩⟩⟩⟩⟩⟩⟩⟩⟩⟩⟩⟩⟩⟩ ⟨S44x0  k [s0, s1, s2, s3, s4, s5, s6, s7, s8, s9, s10, s11, s12, s13, s14, s15, s16,
  s17, s18, s19, s20, s21, s22, s23, s24, s25, s26, s27, s28, s29, s30, s31, s32, s33, s34, s35, s36, s37, s38, s39, s40, s41, s42, s43, s44, s45, s46, s47, s48, s49, s50, s51, s52, s53, s54, s55, s56, s57, s58, s59, s60, s61,
  s62, s63, s64, s65, s66, s67, s68, s69, s70] H⟩) := by kernel_rfl
-- tocsin/tocsinlaw11.big
theorem d50 (a0 : Value) (H : AHeap) (k : Value → AHeap → Prop) : kbody Tryz.prog Tryz.f50 [a0] H k = (@bndL Tryz.prog H 42 6 [(0, (.string { data := #[99, 111, 117, 110, 116] })), (1, (.string { data := #[115, 117, 109] })), (2,
  (.string { data := #[109, 105, 110] })), (3, (.string { data := #[109, 97, 120] })), (4, (.string { data := #[109, 101, 97, 110] })), (5, (.string { data := #[108, 97, 115, 116] }))] ⟨fun v3x1 H2 => @bnd (aIndexAddr Tryz.prog
  H2 42 v3x1 a0) ⟨fun v5x3 => @bnd (aLoad Tryz.prog H2 9 v5x3) ⟨fun v6x4 => k v6x4 H2⟩⟩⟩) := by kernel_rfl
-- tocsin/tocsinref10.decimal
end Go.Vi
namespace Go.Vi
open Go Go.Proofs
-- tocsin/tocsinref10.compare
theorem d53 (a0 : Value) (H : AHeap) (k : Value → AHeap → Prop) : kbody Tryz.prog Tryz.f53 [a0] H k = (@bndL Tryz.prog H 42 6 [(0, (.string { data := #[60] })), (1, (.string { data := #[60, 61] })), (2, (.string { data := #[62]
  })), (3, (.string { data := #[62, 61] })), (4, (.string { data := #[61, 61] })), (5, (.string { data := #[33, 61] }))] ⟨fun v3x1 H2 => @bnd (aIndexAddr Tryz.prog H2 42 v3x1 a0) ⟨fun v5x3 => @bnd (aLoad Tryz.prog H2 9 v5x3) ⟨fun
  v6x4 => k v6x4 H2⟩⟩⟩) := by kernel_rfl
-- tocsin/tocsinref09.blank
theorem d61 (a0 : Value) (H : AHeap) (k : Value → AHeap → Prop) : kbody Tryz.prog Tryz.f61 [a0] H k = (@bnd (aBin2 Tryz.prog H .eql 5 (.tmp 3) (.const (.int .u8 32)) a0 (.int .u8 32)) ⟨fun v4x1 => @bnd (gif v4x1 false ((some a0))
  undef) ⟨fun v6x2 => @bnd (gif v4x1 false (aBin2 Tryz.prog H .eql 5 (.tmp 6) (.const (.int .u8 9)) v6x2 (.int .u8 9)) undef) ⟨fun v7x3 => @bnd (pickV v4x1 (.bool true) v7x3) ⟨fun v8x4 => @bnd (gif v8x4 false ((some a0)) undef)
  ⟨fun v10x5 => @bnd (gif v8x4 false (aBin2 Tryz.prog H .eql 5 (.tmp 10) (.const (.int .u8 10)) v10x5 (.int .u8 10)) undef) ⟨fun v11x6 => @bnd (pickV v8x4 (.bool true) v11x6) ⟨fun v12x7 => @bnd (gif v12x7 false ((some a0)) undef)
  ⟨fun v14x8 => @bnd (gif v12x7 false (aBin2 Tryz.prog H .eql 5 (.tmp 14) (.const (.int .u8 13)) v14x8 (.int .u8 13)) undef) ⟨fun v15x9 => @bnd (pickV v12x7 (.bool true) v15x9) ⟨fun v16x10 => k v16x10 H⟩⟩⟩⟩⟩⟩⟩⟩⟩⟩) := by kernel_rfl
-- tocsin/tocsinref09.longest
def S62x0 (k : Value → AHeap → Prop) (sl : List Value) (H : AHeap) : Prop := kseq Tryz.prog (cr (cr (cl (cr (cl (cr (cr (cb Tryz.f62)))))))) (kseq Tryz.prog (cr (cr (cr (cb Tryz.f62)))) (kfin Tryz.prog Tryz.f62 k)) .normal sl H
def L62x0 (n : Nat) (k : Value → AHeap → Prop) (sl : List Value) (H : AHeap) : Prop := kit Tryz.prog (cl (cl (cr (cl (cr (cr (cr (cb Tryz.f62)))))))) n (kblk 0 (kseq Tryz.prog (cr (cr (cr (cr (cb Tryz.f62))))) (kfin Tryz.prog
  Tryz.f62 k))) .normal sl H
def S62x1 (n0 : Nat) (k : Value → AHeap → Prop) (sl : List Value) (H : AHeap) : Prop := kseq Tryz.prog (cr (cr (cl (cl (cr (cl (cl (cr (cl (cr (cr (cr (cb Tryz.f62))))))))))))) (kblk 1 (kseq Tryz.prog (cr (cr (cl (cl (cr (cl (cr
  (cr (cr (cb Tryz.f62)))))))))) (kit Tryz.prog (cl (cl (cr (cl (cr (cr (cr (cb Tryz.f62)))))))) n0 (kblk 0 (kseq Tryz.prog (cr (cr (cr (cr (cb Tryz.f62))))) (kfin Tryz.prog Tryz.f62 k)))))) .normal sl H
def S62x2 (k : Value → AHeap → Prop) (sl : List Value) (H : AHeap) : Prop := kseq Tryz.prog (cr (cr (cr (cr (cb Tryz.f62))))) (kfin Tryz.prog Tryz.f62 k) .normal sl H
def B62x0 (n0 : Nat) (k : Value → AHeap → Prop) (sl : List Value) (H : AHeap) : Prop := (kseq Tryz.prog (cr (cl (cl (cr (cl (cr (cr (cr (cb Tryz.f62))))))))) (kit Tryz.prog (cl (cl (cr (cl (cr (cr (cr (cb Tryz.f62)))))))) n0
  (kblk 0 (kseq Tryz.prog (cr (cr (cr (cr (cb Tryz.f62))))) (kfin Tryz.prog Tryz.f62 k))))) (.exit 0) sl H
def B62x1 (n0 : Nat) (k : Value → AHeap → Prop) (sl : List Value) (H : AHeap) : Prop := (kblk 1 (kseq Tryz.prog (cr (cr (cl (cl (cr (cl (cr (cr (cr (cb Tryz.f62)))))))))) (kit Tryz.prog (cl (cl (cr (cl (cr (cr (cr (cb
  Tryz.f62)))))))) n0 (kblk 0 (kseq Tryz.prog (cr (cr (cr (cr (cb Tryz.f62))))) (kfin Tryz.prog Tryz.f62 k)))))) (.exit 0) sl H
theorem B62x0q (n0 : Nat) (sl : List Value) (H : AHeap) (k : Value → AHeap → Prop) : B62x0 n0 k sl H = S62x2  k sl H := by kernel_rfl
theorem B62x1q (n0 : Nat) (sl : List Value) (H : AHeap) (k : Value → AHeap → Prop) : B62x1 n0 k sl H = S62x2  k sl H := by kernel_rfl
theorem d62 (a0 a1 : Value) (H : AHeap) (k : Value → AHeap → Prop) : kbody Tryz.prog Tryz.f62 [a0, a1] H k = (@bndE (aAlloc Tryz.prog H 72) ⟨fun v4x1 H2 => @bndE (aAlloc Tryz.prog H2 72) ⟨fun v5x3 H4 => @bnd (aIndex Tryz.prog 9
  a0 a1) ⟨fun v13x5 => @bnd (aBin2 Tryz.prog H4 .eql 5 (.tmp 13) (.const (.int .u8 34)) v13x5 (.int .u8 34)) ⟨fun v14x6 => @kifB v14x6 ⟨@bnd (aSliceOp Tryz.prog H4 9 a0 (some a1) none) ⟨fun v18x7 => @bndC Tryz.prog 91 [v18x7] H4
  ⟨fun v19x8 H9 => @bnd (tupV v19x8 0) ⟨fun v20x10 => @bnd (tupV v19x8 1) ⟨fun v21x11 => @bnd (aBin2 Tryz.prog H9 .gtr 3 (.tmp 22) (.const (.int .i64 0)) v21x11 (.int .i64 0)) ⟨fun v23x12 => @bnd (gif v23x12 true ((some a0))
  undef) ⟨fun v25x13 => @bnd (gif v23x12 true ((some a1)) undef) ⟨fun v26x14 => @bnd (gif v23x12 true ((some a1)) undef) ⟨fun v27x15 => @bnd (gif v23x12 true ((some v21x11)) undef) ⟨fun v28x16 => @bnd (gif v23x12 true (aBin2
  Tryz.prog H9 .add 3 (.tmp 27) (.tmp 28) v27x15 v28x16) undef) ⟨fun v29x17 => @bnd (gif v23x12 true (aSliceOp Tryz.prog H9 9 v25x13 (some v26x14) (some v29x17)) undef) ⟨fun v30x18 => @bndG v23x12 true H9 ⟨fun v31x19 H20 =>
  ACalls Tryz.prog 92 [v30x18] H9 v31x19 H20⟩ ⟨fun v31x19 H20 => @bnd (pickV v23x12 v31x19 (.bool false)) ⟨fun v32x21 => @kifB v32x21 ⟨@bnd (aBin2 Tryz.prog H20 .add 3 (.tmp 35) (.tmp 36) a1 v21x11) ⟨fun v37x22 => @bnd (buildV
  Tryz.prog 72 [(0, (.int .u8 3)), (1, v20x10), (2, a1), (3, v37x22)]) ⟨fun v38x23 => @bndS (aStore Tryz.prog H20 72 v5x3 v38x23) ⟨fun _ H25 => S62x0  k [a0, a1, undef, undef, v4x1, v5x3, v20x10, v21x11, undef, undef, undef, a0,
  a1, v13x5, v14x6, v19x8, a0, a1, v18x7, v19x8, v20x10, v21x11, v21x11, v23x12, v23x12, v25x13, v26x14, v27x15, v28x16, v29x17, v30x18, v31x19, v32x21, v20x10, a1, a1, v21x11, v37x22, v38x23, undef, undef, undef, undef, undef,
  undef, undef, undef, undef, undef, undef, undef, undef, undef, undef, undef, undef, undef, undef, undef, undef, undef, undef, undef, undef, undef, undef, undef, undef, undef, undef, undef, undef, undef, undef, undef, undef,
  undef, undef, undef, undef, undef, undef, undef, undef, undef] H25⟩⟩⟩⟩ ⟨S62x0  k [a0, a1, undef, undef, v4x1, v5x3, v20x10, v21x11, undef, undef, undef, a0, a1, v13x5, v14x6, v19x8, a0, a1, v18x7, v19x8, v20x10, v21x11, v21x11,
  v23x12, v23x12, v25x13, v26x14, v27x15, v28x16, v29x17, v30x18, v31x19, v32x21, undef, undef, undef, undef, undef, undef, undef, undef, undef, undef, undef, undef, undef, undef, undef, undef, undef, undef, undef, undef, undef,
  undef, undef, undef, undef, undef, undef, undef, undef, undef, undef, undef, undef, undef, undef, undef, undef, undef, undef, undef, undef, undef, undef, undef, undef, undef, undef, undef, undef, undef, undef, undef]
  H20⟩⟩⟩⟩⟩⟩⟩⟩⟩⟩⟩⟩⟩⟩⟩ ⟨@bnd (aBin2 Tryz.prog H4 .add 3 (.tmp 40) (.const (.int .i64 1)) a1 (.int .i64 1)) ⟨fun v41x26 => ∃ n, L62x0 n  k [a0, a1, undef, undef, v4x1, v5x3, undef, undef, v41x26, undef, undef, a0, a1, v13x5, v14x6,
  undef, undef, undef, undef, undef, undef, undef, undef, undef, undef, undef, undef, undef, undef, undef, undef, undef, undef, undef, undef, undef, undef, undef, undef, undef, a1, v41x26, undef, undef, undef, undef, undef,
  undef, undef, undef, undef, undef, undef, undef, undef, undef, undef, undef, undef, undef, undef, undef, undef, undef, undef, undef, undef, undef, undef, undef, undef, undef, undef, undef, undef, undef, undef, undef, undef,
  undef, undef, undef, undef, undef, undef] H4⟩⟩⟩⟩⟩⟩) := by kernel_rfl
theorem S62x0q (s0 s1 s2 s3 s4 s5 s6 s7 s8 s9 s10 s11 s12 s13 s14 s15 s16 s17 s18 s19 s20 s21 s22 s23 s24 s25 s26 s27 s28 s29 s30 s31 s32 s33 s34 s35 s36 s37 s38 s39 s40 s41 s42 s43 s44 s45 s46 s47 s48 s49 s50 s51 s52 s53 s54 s55
  s56 s57 s58 s59 s60 s61 s62 s63 s64 s65 s66 s67 s68 s69 s70 s71 s72 s73 s74 s75 s76 s77 s78 s79 s80 s81 s82 s83 s84 : Value) (H : AHeap) (k : Value → AHeap → Prop) : S62x0 k [s0, s1, s2, s3, s4, s5, s6, s7, s8, s9, s10, s11,
  s12, s13, s14, s15, s16, s17, s18, s19, s20, s21, s22, s23, s24, s25, s26, s27, s28, s29, s30, s31, s32, s33, s34, s35, s36, s37, s38, s39, s40, s41, s42, s43, s44, s45, s46, s47, s48, s49, s50, s51, s52, s53, s54, s55, s56,
  s57, s58, s59, s60, s61, s62, s63, s64, s65, s66, s67, s68, s69, s70, s71, s72, s73, s74, s75, s76, s77, s78, s79, s80, s81, s82, s83, s84] H = (@bnd (aLoad Tryz.prog H 72 s5) ⟨fun v39x27 => @bndS (aStore Tryz.prog H 72 s4
  v39x27) ⟨fun _ H29 => ∃ r30, aLoad Tryz.prog H29 72 s4 = some r30 ∧ k r30 H29⟩⟩) := by kernel_rfl
theorem L62x0q (n0 : Nat) (s0 s1 s2 s3 s4 s5 s6 s7 s8 s9 s10 s11 s12 s13 s14 s15 s16 s17 s18 s19 s20 s21 s22 s23 s24 s25 s26 s27 s28 s29 s30 s31 s32 s33 s34 s35 s36 s37 s38 s39 s40 s41 s42 s43 s44 s45 s46 s47 s48 s49 s50 s51 s52
  s53 s54 s55 s56 s57 s58 s59 s60 s61 s62 s63 s64 s65 s66 s67 s68 s69 s70 s71 s72 s73 s74 s75 s76 s77 s78 s79 s80 s81 s82 s83 s84 : Value) (H : AHeap) (k : Value → AHeap → Prop) : L62x0 (n0 + 1) k [s0, s1, s2, s3, s4, s5, s6, s7,
  s8, s9, s10, s11, s12, s13, s14, s15, s16, s17, s18, s19, s20, s21, s22, s23, s24, s25, s26, s27, s28, s29, s30, s31, s32, s33, s34, s35, s36, s37, s38, s39, s40, s41, s42, s43, s44, s45, s46, s47, s48, s49, s50, s51, s52, s53,
  s54, s55, s56, s57, s58, s59, s60, s61, s62, s63, s64, s65, s66, s67, s68, s69, s70, s71, s72, s73, s74, s75, s76, s77, s78, s79, s80, s81, s82, s83, s84] H = (@bnd (aLen Tryz.prog H 9 s0) ⟨fun v44x31 => @bnd (aBin2 Tryz.prog H
  .leq 3 (.tmp 42) (.tmp 44) s8 v44x31) ⟨fun v45x32 => @kifB v45x32 ⟨@bnd (aSliceOp Tryz.prog H 9 s0 (some s1) (some s8)) ⟨fun v52x33 => @bndC Tryz.prog 93 [v52x33] H ⟨fun v53x34 H35 => @bnd (tupV v53x34 0) ⟨fun v54x36 => @bnd
  (tupV v53x34 1) ⟨fun v55x37 => @bnd (aBin2 Tryz.prog H35 .gtr 5 (.tmp 56) (.const (.int .u8 0)) v54x36 (.int .u8 0)) ⟨fun v57x38 => @kifB v57x38 ⟨@bnd (buildV Tryz.prog 72 [(0, v54x36), (1, v55x37), (2, s1), (3, s8)]) ⟨fun
  v62x39 => @bndS (aStore Tryz.prog H35 72 s5 v62x39) ⟨fun _ H41 => S62x1 n0 k [s0, s1, s2, s3, s4, s5, s6, s7, s8, v54x36, v55x37, s11, s12, s13, s14, s15, s16, s17, s18, s19, s20, s21, s22, s23, s24, s25, s26, s27, s28, s29,
  s30, s31, s32, s33, s34, s35, s36, s37, s38, s39, s40, s41, s8, s0, v44x31, v45x32, s46, s47, v53x34, s0, s1, s8, v52x33, v53x34, v54x36, v55x37, v54x36, v57x38, v54x36, v55x37, s1, s8, v62x39, s63, s64, s65, s66, s67, s68,
  s69, s70, s71, s72, s73, s74, s75, s76, s77, s78, s79, s80, s81, s82, s83, s84] H41⟩⟩⟩ ⟨S62x1 n0 k [s0, s1, s2, s3, s4, s5, s6, s7, s8, v54x36, v55x37, s11, s12, s13, s14, s15, s16, s17, s18, s19, s20, s21, s22, s23, s24, s25,
  s26, s27, s28, s29, s30, s31, s32, s33, s34, s35, s36, s37, s38, s39, s40, s41, s8, s0, v44x31, v45x32, s46, s47, v53x34, s0, s1, s8, v52x33, v53x34, v54x36, v55x37, v54x36, v57x38, s58, s59, s60, s61, s62, s63, s64, s65, s66,
  s67, s68, s69, s70, s71, s72, s73, s74, s75, s76, s77, s78, s79, s80, s81, s82, s83, s84] H35⟩⟩⟩⟩⟩⟩⟩ ⟨B62x0 n0 k [s0, s1, s2, s3, s4, s5, s6, s7, s8, s9, s10, s11, s12, s13, s14, s15, s16, s17, s18, s19, s20, s21, s22, s23,
  s24, s25, s26, s27, s28, s29, s30, s31, s32, s33, s34, s35, s36, s37, s38, s39, s40, s41, s8, s0, v44x31, v45x32, s46, s47, s48, s49, s50, s51, s52, s53, s54, s55, s56, s57, s58, s59, s60, s61, s62, s63, s64, s65, s66, s67,
  s68, s69, s70, s71, s72, s73, s74, s75, s76, s77, s78, s79, s80, s81, s82, s83, s84] H⟩⟩⟩) := by kernel_rfl
theorem S62x1q (n0 : Nat) (s0 s1 s2 s3 s4 s5 s6 s7 s8 s9 s10 s11 s12 s13 s14 s15 s16 s17 s18 s19 s20 s21 s22 s23 s24 s25 s26 s27 s28 s29 s30 s31 s32 s33 s34 s35 s36 s37 s38 s39 s40 s41 s42 s43 s44 s45 s46 s47 s48 s49 s50 s51 s52
  s53 s54 s55 s56 s57 s58 s59 s60 s61 s62 s63 s64 s65 s66 s67 s68 s69 s70 s71 s72 s73 s74 s75 s76 s77 s78 s79 s80 s81 s82 s83 s84 : Value) (H : AHeap) (k : Value → AHeap → Prop) : S62x1 n0 k [s0, s1, s2, s3, s4, s5, s6, s7, s8,
  s9, s10, s11, s12, s13, s14, s15, s16, s17, s18, s19, s20, s21, s22, s23, s24, s25, s26, s27, s28, s29, s30, s31, s32, s33, s34, s35, s36, s37, s38, s39, s40, s41, s42, s43, s44, s45, s46, s47, s48, s49, s50, s51, s52, s53,
  s54, s55, s56, s57, s58, s59, s60, s61, s62, s63, s64, s65, s66, s67, s68, s69, s70, s71, s72, s73, s74, s75, s76, s77, s78, s79, s80, s81, s82, s83, s84] H = (@bnd (aFieldAddr Tryz.prog H 72 s5 0) ⟨fun v63x42 => @bnd (aLoad
  Tryz.prog H 5 v63x42) ⟨fun v64x43 => @bnd (aBin2 Tryz.prog H .gtr 5 (.tmp 64) (.const (.int .u8 0)) v64x43 (.int .u8 0)) ⟨fun v65x44 => @bnd (gif v65x44 true ((some s8)) undef) ⟨fun v67x45 => @bnd (gif v65x44 true (aFieldAddr
  Tryz.prog H 72 s5 3) undef) ⟨fun v68x46 => @bnd (gif v65x44 true (aLoad Tryz.prog H 3 v68x46) undef) ⟨fun v69x47 => @bnd (gif v65x44 true (aBin2 Tryz.prog H .add 3 (.tmp 69) (.const (.int .i64 1)) v69x47 (.int .i64 1)) undef)
  ⟨fun v70x48 => @bnd (gif v65x44 true (aBin2 Tryz.prog H .gtr 3 (.tmp 67) (.tmp 70) v67x45 v70x48) undef) ⟨fun v71x49 => @bnd (pickV v65x44 v71x49 (.bool false)) ⟨fun v72x50 => @bnd (gif v72x50 false (aFieldAddr Tryz.prog H 72
  s5 0) undef) ⟨fun v74x51 => @bnd (gif v72x50 false (aLoad Tryz.prog H 5 v74x51) undef) ⟨fun v75x52 => @bnd (gif v72x50 false (aBin2 Tryz.prog H .eql 5 (.tmp 75) (.const (.int .u8 0)) v75x52 (.int .u8 0)) undef) ⟨fun v76x53 =>
  @bnd (gif v72x50 false ((some v76x53)) undef) ⟨fun v77x54 => @bnd (gif v77x54 true ((some s8)) undef) ⟨fun v78x55 => @bnd (gif v77x54 true ((some s1)) undef) ⟨fun v79x56 => @bnd (gif v77x54 true (aBin2 Tryz.prog H .add 3 (.tmp
  79) (.const (.int .i64 2)) v79x56 (.int .i64 2)) undef) ⟨fun v80x57 => @bnd (gif v77x54 true (aBin2 Tryz.prog H .gtr 3 (.tmp 78) (.tmp 80) v78x55 v80x57) undef) ⟨fun v81x58 => @bnd (gif v72x50 false (pickV v77x54 v81x58 (.bool
  false)) undef) ⟨fun v82x59 => @bnd (pickV v72x50 (.bool true) v82x59) ⟨fun v83x60 => @kifB v83x60 ⟨B62x1 n0 k [s0, s1, s2, s3, s4, s5, s6, s7, s8, s9, s10, s11, s12, s13, s14, s15, s16, s17, s18, s19, s20, s21, s22, s23, s24,
  s25, s26, s27, s28, s29, s30, s31, s32, s33, s34, s35, s36, s37, s38, s39, s40, s41, s42, s43, s44, s45, s46, s47, s48, s49, s50, s51, s52, s53, s54, s55, s56, s57, s58, s59, s60, s61, s62, v63x42, v64x43, v65x44, v65x44,
  v67x45, v68x46, v69x47, v70x48, v71x49, v72x50, v72x50, v74x51, v75x52, v76x53, v77x54, v78x55, v79x56, v80x57, v81x58, v82x59, v83x60, s84] H⟩ ⟨@bnd (aBin2 Tryz.prog H .add 3 (.tmp 46) (.const (.int .i64 1)) s8 (.int .i64 1))
  ⟨fun v47x61 => L62x0 n0  k [s0, s1, s2, s3, s4, s5, s6, s7, v47x61, s9, s10, s11, s12, s13, s14, s15, s16, s17, s18, s19, s20, s21, s22, s23, s24, s25, s26, s27, s28, s29, s30, s31, s32, s33, s34, s35, s36, s37, s38, s39, s40,
  s41, s42, s43, s44, s45, s8, v47x61, s48, s49, s50, s51, s52, s53, s54, s55, s56, s57, s58, s59, s60, s61, s62, v63x42, v64x43, v65x44, v65x44, v67x45, v68x46, v69x47, v70x48, v71x49, v72x50, v72x50, v74x51, v75x52, v76x53,
  v77x54, v78x55, v79x56, v80x57, v81x58, v82x59, v83x60, s84] H⟩⟩⟩⟩⟩⟩⟩⟩⟩⟩⟩⟩⟩⟩⟩⟩⟩⟩⟩⟩⟩) := by kernel_rfl
theorem S62x2q (s0 s1 s2 s3 s4 s5 s6 s7 s8 s9 s10 s11 s12 s13 s14 s15 s16 s17 s18 s19 s20 s21 s22 s23 s24 s25 s26 s27 s28 s29 s30 s31 s32 s33 s34 s35 s36 s37 s38 s39 s40 s41 s42 s43 s44 s45 s46 s47 s48 s49 s50 s51 s52 s53 s54 s55
  s56 s57 s58 s59 s60 s61 s62 s63 s64 s65 s66 s67 s68 s69 s70 s71 s72 s73 s74 s75 s76 s77 s78 s79 s80 s81 s82 s83 s84 : Value) (H : AHeap) (k : Value → AHeap → Prop) : S62x2 k [s0, s1, s2, s3, s4, s5, s6, s7, s8, s9, s10, s11,
  s12, s13, s14, s15, s16, s17, s18, s19, s20, s21, s22, s23, s24, s25, s26, s27, s28, s29, s30, s31, s32, s33, s34, s35, s36, s37, s38, s39, s40, s41, s42, s43, s44, s45, s46, s47, s48, s49, s50, s51, s52, s53, s54, s55, s56,
  s57, s58, s59, s60, s61, s62, s63, s64, s65, s66, s67, s68, s69, s70, s71, s72, s73, s74, s75, s76, s77, s78, s79, s80, s81, s82, s83, s84] H = (@bnd (aLoad Tryz.prog H 72 s5) ⟨fun v84x62 => @bndS (aStore Tryz.prog H 72 s4
  v84x62) ⟨fun _ H64 => ∃ r65, aLoad Tryz.prog H64 72 s4 = some r65 ∧ k r65 H64⟩⟩) := by kernel_rfl
-- tocsin/tocsinref10.row
def L63x0 (n : Nat) (k : Value → AHeap → Prop) (sl : List Value) (H : AHeap) : Prop := kit Tryz.prog (cl (cl (cl (cr (cr (cb Tryz.f63)))))) n (kblk 0 (kseq Tryz.prog (cr (cr (cr (cb Tryz.f63)))) (kfin Tryz.prog Tryz.f63 k)))
  .normal sl H
def S63x0 (n0 : Nat) (k : Value → AHeap → Prop) (sl : List Value) (H : AHeap) : Prop := kseq Tryz.prog (cr (cr (cr (cr (cr (cl (cr (cl (cl (cl (cr (cr (cb Tryz.f63))))))))))))) (kblk 1 (kit Tryz.prog (cl (cl (cl (cr (cr (cb
  Tryz.f63)))))) n0 (kblk 0 (kseq Tryz.prog (cr (cr (cr (cb Tryz.f63)))) (kfin Tryz.prog Tryz.f63 k))))) .normal sl H
theorem d63 (a0 a1 a2 a3 : Value) (H : AHeap) (k : Value → AHeap → Prop) : kbody Tryz.prog Tryz.f63 [a0, a1, a2, a3] H k = (@bndC Tryz.prog 94 [a0, a1, a2, a3] H ⟨fun v21x1 H2 => @bnd (tupV v21x1 0) ⟨fun v22x3 => @bnd (tupV v21x1
  1) ⟨fun v23x4 => ∃ n, L63x0 n  k [a0, a1, a2, a3, undef, undef, undef, undef, (.slice none 0 0), (.int .i64 0), v22x3, v23x4, undef, undef, undef, undef, v21x1, a0, a1, a2, a3, v21x1, v22x3, v23x4, undef, undef, undef, undef,
  undef, undef, undef, undef, undef, undef, undef, undef, undef, undef, undef, undef, undef, undef, undef, undef, undef, undef, undef, undef, undef, undef, undef, undef, undef, undef, undef, undef, undef, undef, undef, undef,
  undef, undef, undef, undef, undef, undef, undef, undef, undef] H2⟩⟩⟩) := by kernel_rfl
theorem L63x0q (n0 : Nat) (s0 s1 s2 s3 s4 s5 s6 s7 s8 s9 s10 s11 s12 s13 s14 s15 s16 s17 s18 s19 s20 s21 s22 s23 s24 s25 s26 s27 s28 s29 s30 s31 s32 s33 s34 s35 s36 s37 s38 s39 s40 s41 s42 s43 s44 s45 s46 s47 s48 s49 s50 s51 s52
  s53 s54 s55 s56 s57 s58 s59 s60 s61 s62 s63 s64 s65 s66 s67 s68 : Value) (H : AHeap) (k : Value → AHeap → Prop) : L63x0 (n0 + 1) k [s0, s1, s2, s3, s4, s5, s6, s7, s8, s9, s10, s11, s12, s13, s14, s15, s16, s17, s18, s19, s20,
  s21, s22, s23, s24, s25, s26, s27, s28, s29, s30, s31, s32, s33, s34, s35, s36, s37, s38, s39, s40, s41, s42, s43, s44, s45, s46, s47, s48, s49, s50, s51, s52, s53, s54, s55, s56, s57, s58, s59, s60, s61, s62, s63, s64, s65,
  s66, s67, s68] H = (@bnd (aBin2 Tryz.prog H .geq 3 (.tmp 24) (.const (.int .i64 0)) s11 (.int .i64 0)) ⟨fun v25x5 => @bnd (gif v25x5 true ((some s0)) undef) ⟨fun v27x6 => @bnd (gif v25x5 true ((some s11)) undef) ⟨fun v28x7 =>
  @bnd (gif v25x5 true ((some s3)) undef) ⟨fun v29x8 => @bndG v25x5 true H ⟨fun v30x9 H10 => ACalls Tryz.prog 95 [v27x6, v28x7, (.int .u8 1), v29x8] H v30x9 H10⟩ ⟨fun v30x9 H10 => @bnd (pickV v25x5 v30x9 (.bool false)) ⟨fun
  v31x11 => @kifB v31x11 ⟨@bnd (aLen Tryz.prog H10 27 s10) ⟨fun v34x12 => @bnd (aBin2 Tryz.prog H10 .add 3 (.tmp 32) (.tmp 34) s2 v34x12) ⟨fun v35x13 => @bnd (aBin2 Tryz.prog H10 .sub 3 (.tmp 35) (.const (.int .i64 1)) v35x13
  (.int .i64 1)) ⟨fun v36x14 => @bnd (aBin2 Tryz.prog H10 .add 3 (.tmp 39) (.const (.int .i64 1)) s11 (.int .i64 1)) ⟨fun v40x15 => @bnd (aLen Tryz.prog H10 27 s10) ⟨fun v43x16 => @bnd (aBin2 Tryz.prog H10 .add 3 (.tmp 41) (.tmp
  43) s2 v43x16) ⟨fun v44x17 => @bndC Tryz.prog 94 [s0, v40x15, v44x17, s3] H10 ⟨fun v46x18 H19 => @bnd (tupV v46x18 0) ⟨fun v47x20 => @bnd (tupV v46x18 1) ⟨fun v48x21 => @bndE (aBuiltin Tryz.prog H19 Builtin.append #[27, 27]
  [s10, v47x20]) ⟨fun v51x22 H23 => @bnd (aLen Tryz.prog H23 27 v51x22) ⟨fun v55x24 => @bnd (aBin2 Tryz.prog H23 .add 3 (.tmp 53) (.tmp 55) s2 v55x24) ⟨fun v56x25 => @bnd (aBin2 Tryz.prog H23 .sub 3 (.tmp 56) (.const (.int .i64
  1)) v56x25 (.int .i64 1)) ⟨fun v57x26 => @bnd (buildV Tryz.prog 37 [(0, (.int .u8 2)), (6, v36x14), (7, v57x26)]) ⟨fun v58x27 => @bndE (aAlloc Tryz.prog H23 37) ⟨fun v15x28 H29 => @bndS (aStore Tryz.prog H29 37 v15x28 v58x27)
  ⟨fun _ H31 => @bnd (aBin2 Tryz.prog H31 .eql 9 (.tmp 59) (.const (.string { data := #[97, 110, 100] })) s3 (.string { data := #[97, 110, 100] })) ⟨fun v60x32 => @kifB v60x32 ⟨@bnd (aFieldAddr Tryz.prog H31 37 v15x28 0) ⟨fun
  v61x33 => @bndS (aStore Tryz.prog H31 5 v61x33 (.int .u8 1)) ⟨fun _ H35 => S63x0 n0 k [s0, s1, s2, s3, s4, s5, s6, s7, s8, s9, v51x22, s11, v36x14, v47x20, v48x21, v15x28, s16, s17, s18, s19, s20, s21, s22, s23, s11, v25x5,
  v25x5, v27x6, v28x7, v29x8, v30x9, v31x11, s2, s10, v34x12, v35x13, v36x14, v46x18, s0, s11, v40x15, s2, s10, v43x16, v44x17, s3, v46x18, v47x20, v48x21, s10, v47x20, v51x22, v36x14, s2, v51x22, v55x24, v56x25, v57x26, v58x27,
  s3, v60x32, v61x33, s62, s63, s64, s65, s66, s67, s68] H35⟩⟩⟩ ⟨S63x0 n0 k [s0, s1, s2, s3, s4, s5, s6, s7, s8, s9, v51x22, s11, v36x14, v47x20, v48x21, v15x28, s16, s17, s18, s19, s20, s21, s22, s23, s11, v25x5, v25x5, v27x6,
  v28x7, v29x8, v30x9, v31x11, s2, s10, v34x12, v35x13, v36x14, v46x18, s0, s11, v40x15, s2, s10, v43x16, v44x17, s3, v46x18, v47x20, v48x21, s10, v47x20, v51x22, v36x14, s2, v51x22, v55x24, v56x25, v57x26, v58x27, s3, v60x32,
  s61, s62, s63, s64, s65, s66, s67, s68] H31⟩⟩⟩⟩⟩⟩⟩⟩⟩⟩⟩⟩⟩⟩⟩⟩⟩⟩⟩ ⟨k (.tuple #[s10, s11]) H10⟩⟩⟩⟩⟩⟩⟩) := by kernel_rfl
theorem S63x0q (n0 : Nat) (s0 s1 s2 s3 s4 s5 s6 s7 s8 s9 s10 s11 s12 s13 s14 s15 s16 s17 s18 s19 s20 s21 s22 s23 s24 s25 s26 s27 s28 s29 s30 s31 s32 s33 s34 s35 s36 s37 s38 s39 s40 s41 s42 s43 s44 s45 s46 s47 s48 s49 s50 s51 s52
  s53 s54 s55 s56 s57 s58 s59 s60 s61 s62 s63 s64 s65 s66 s67 s68 : Value) (H : AHeap) (k : Value → AHeap → Prop) : S63x0 n0 k [s0, s1, s2, s3, s4, s5, s6, s7, s8, s9, s10, s11, s12, s13, s14, s15, s16, s17, s18, s19, s20, s21,
  s22, s23, s24, s25, s26, s27, s28, s29, s30, s31, s32, s33, s34, s35, s36, s37, s38, s39, s40, s41, s42, s43, s44, s45, s46, s47, s48, s49, s50, s51, s52, s53, s54, s55, s56, s57, s58, s59, s60, s61, s62, s63, s64, s65, s66,
  s67, s68] H = (@bnd (aLoad Tryz.prog H 37 s15) ⟨fun v63x36 => @bndL Tryz.prog H 27 1 [(0, v63x36)] ⟨fun v64x37 H38 => @bndE (aBuiltin Tryz.prog H38 Builtin.append #[27, 27] [s10, v64x37]) ⟨fun v65x39 H40 => L63x0 n0  k [s0, s1,
  s2, s3, s4, s5, s6, s7, s8, s9, v65x39, s14, s12, s13, s14, s15, s16, s17, s18, s19, s20, s21, s22, s23, s24, s25, s26, s27, s28, s29, s30, s31, s32, s33, s34, s35, s36, s37, s38, s39, s40, s41, s42, s43, s44, s45, s46, s47,
  s48, s49, s50, s51, s52, s53, s54, s55, s56, s57, s58, s59, s60, s61, s10, v63x36, v64x37, v65x39, s14, s67, s68] H40⟩⟩⟩) := by kernel_rfl
-- tocsin/lex.Tell$1
def L64x0 (n : Nat) (k : Value → AHeap → Prop) (sl : List Value) (H : AHeap) : Prop := kit Tryz.prog (cl (cl (cr (cr (cb Tryz.f64))))) n (kblk 0 (kfin Tryz.prog Tryz.f64 k)) .normal sl H
theorem d64 (a0 a1 : Value) (H : AHeap) (k : Value → AHeap → Prop) : kbody Tryz.prog Tryz.f64 [a0, a1] H k = (@bnd (aLoad Tryz.prog H 9 a1) ⟨fun v6x1 => @bnd (aLen Tryz.prog H 9 v6x1) ⟨fun v7x2 => @bnd (aBin2 Tryz.prog H .gtr 3
  (.tmp 7) (.const (.int .i64 4096)) v7x2 (.int .i64 4096)) ⟨fun v8x3 => @kifB v8x3 ⟨@bnd (buildV Tryz.prog 70 []) ⟨fun v10x4 => @bndV Tryz.prog a0 [v10x4, (.int .i64 3)] H ⟨fun _ H6 => k (.tuple #[]) H6⟩⟩⟩ ⟨@bnd (aLoad Tryz.prog
  H 9 a1) ⟨fun v12x7 => @bndC Tryz.prog 65 [v12x7, (.int .i64 0)] H ⟨fun v13x8 H9 => ∃ n, L64x0 n  k [a0, a1, undef, v13x8, undef, undef, v6x1, v7x2, v8x3, undef, undef, undef, v12x7, v13x8, undef, undef, undef, undef, undef,
  undef, undef, undef, undef, undef, undef, undef, undef, undef, undef, undef, undef, undef, undef, undef, undef, undef, undef, undef, undef, undef] H9⟩⟩⟩⟩⟩⟩) := by kernel_rfl
theorem L64x0q (n0 : Nat) (s0 s1 s2 s3 s4 s5 s6 s7 s8 s9 s10 s11 s12 s13 s14 s15 s16 s17 s18 s19 s20 s21 s22 s23 s24 s25 s26 s27 s28 s29 s30 s31 s32 s33 s34 s35 s36 s37 s38 s39 : Value) (H : AHeap) (k : Value → AHeap → Prop) :
  L64x0 (n0 + 1) k [s0, s1, s2, s3, s4, s5, s6, s7, s8, s9, s10, s11, s12, s13, s14, s15, s16, s17, s18, s19, s20, s21, s22, s23, s24, s25, s26, s27, s28, s29, s30, s31, s32, s33, s34, s35, s36, s37, s38, s39] H = (@bnd (aLoad
  Tryz.prog H 9 s1) ⟨fun v15x10 => @bnd (aLen Tryz.prog H 9 v15x10) ⟨fun v16x11 => @bnd (aBin2 Tryz.prog H .lss 3 (.tmp 14) (.tmp 16) s3 v16x11) ⟨fun v17x12 => @kifB v17x12 ⟨@bnd (aLoad Tryz.prog H 9 s1) ⟨fun v22x13 => @bndC
  Tryz.prog 66 [v22x13, s3] H ⟨fun v24x14 H15 => @bnd (tupV v24x14 0) ⟨fun v25x16 => @bnd (tupV v24x14 1) ⟨fun v26x17 => @bndE (aAlloc Tryz.prog H15 70) ⟨fun v4x18 H19 => @bndS (aStore Tryz.prog H19 70 v4x18 v25x16) ⟨fun _ H21 =>
  @bnd (aBin2 Tryz.prog H21 .eql 3 (.tmp 27) (.const (.int .i64 0)) v26x17 (.int .i64 0)) ⟨fun v28x22 => @kifB v28x22 ⟨@bnd (buildV Tryz.prog 70 [(2, s3)]) ⟨fun v31x23 => @bndV Tryz.prog s0 [v31x23, (.int .i64 90)] H21 ⟨fun _ H25
  => k (.tuple #[]) H25⟩⟩⟩ ⟨@bnd (aLoad Tryz.prog H21 70 v4x18) ⟨fun v34x26 => @bndV Tryz.prog s0 [v34x26, (.int .i64 0)] H21 ⟨fun v35x27 H28 => @bnd (unV Tryz.prog .not v35x27) ⟨fun v36x29 => @kifB v36x29 ⟨k (.tuple #[]) H28⟩
  ⟨@bnd (aBin2 Tryz.prog H28 .add 3 (.tmp 37) (.tmp 38) s3 v26x17) ⟨fun v39x30 => @bnd (aLoad Tryz.prog H28 9 s1) ⟨fun v18x31 => @bndC Tryz.prog 65 [v18x31, v39x30] H28 ⟨fun v20x32 H33 => L64x0 n0  k [s0, s1, s2, v20x32, v4x18,
  v26x17, s6, s7, s8, s9, s10, s11, s12, s13, s3, v15x10, v16x11, v17x12, v18x31, v39x30, v20x32, v24x14, v22x13, s3, v24x14, v25x16, v26x17, v26x17, v28x22, s29, s30, s31, s32, s0, v34x26, v35x27, v36x29, s3, v26x17, v39x30]
  H33⟩⟩⟩⟩⟩⟩⟩⟩⟩⟩⟩⟩⟩⟩⟩⟩ ⟨k (.tuple #[]) H⟩⟩⟩⟩) := by kernel_rfl
-- tocsin/lex.skip
def L65x0 (n : Nat) (k : Value → AHeap → Prop) (sl : List Value) (H : AHeap) : Prop := kit Tryz.prog (cl (cl (cl (cr (cb Tryz.f65))))) n (kblk 0 (kseq Tryz.prog (cr (cr (cb Tryz.f65))) (kfin Tryz.prog Tryz.f65 k))) .normal sl H
theorem d65 (a0 a1 : Value) (H : AHeap) (k : Value → AHeap → Prop) : kbody Tryz.prog Tryz.f65 [a0, a1] H k = (∃ n, L65x0 n  k [a0, a1, undef, undef, (.int .i64 0), undef, undef, undef, undef, undef, undef, undef, undef, undef,
  undef, undef, undef, undef, undef, undef, undef, undef, undef, undef, undef, undef, undef, undef, undef] H) := by kernel_rfl
theorem L65x0q (n0 : Nat) (s0 s1 s2 s3 s4 s5 s6 s7 s8 s9 s10 s11 s12 s13 s14 s15 s16 s17 s18 s19 s20 s21 s22 s23 s24 s25 s26 s27 s28 : Value) (H : AHeap) (k : Value → AHeap → Prop) : L65x0 (n0 + 1) k [s0, s1, s2, s3, s4, s5, s6,
  s7, s8, s9, s10, s11, s12, s13, s14, s15, s16, s17, s18, s19, s20, s21, s22, s23, s24, s25, s26, s27, s28] H = (@bnd (aLen Tryz.prog H 9 s0) ⟨fun v7x1 => @bnd (aBin2 Tryz.prog H .lss 3 (.tmp 5) (.tmp 7) s1 v7x1) ⟨fun v8x2 =>
  @kifB v8x2 ⟨@bnd (aIndex Tryz.prog 9 s0 s1) ⟨fun v13x3 => @bndC Tryz.prog 96 [(.string { data := #[32, 9, 10, 13] }), v13x3] H ⟨fun v14x4 H5 => @bnd (aBin2 Tryz.prog H5 .geq 3 (.tmp 14) (.const (.int .i64 0)) v14x4 (.int .i64
  0)) ⟨fun v15x6 => @kifB v15x6 ⟨@bnd (aBin2 Tryz.prog H5 .add 3 (.tmp 16) (.const (.int .i64 1)) s1 (.int .i64 1)) ⟨fun v17x7 => L65x0 n0  k [s0, v17x7, s2, s3, s4, s1, s0, v7x1, v8x2, s9, v15x6, s0, s1, v13x3, v14x4, v15x6, s1,
  v17x7, s18, s19, s20, s21, s22, s23, s24, s25, s26, s27, s28] H5⟩⟩ ⟨@bnd (aIndex Tryz.prog 9 s0 s1) ⟨fun v21x8 => @bnd (aBin2 Tryz.prog H5 .eql 5 (.tmp 21) (.const (.int .u8 35)) v21x8 (.int .u8 35)) ⟨fun v22x9 => @kifB v22x9
  ⟨@bndC Tryz.prog 97 [s0, s1, (.func (.func 98) #[] #[])] H5 ⟨fun v26x10 H11 => @bnd (aBin2 Tryz.prog H11 .add 3 (.tmp 23) (.tmp 26) s1 v26x10) ⟨fun v27x12 => L65x0 n0  k [s0, v27x12, s2, s3, s4, s1, s0, v7x1, v8x2, s9, v15x6,
  s0, s1, v13x3, v14x4, v15x6, s16, s17, v22x9, s0, s1, v21x8, v22x9, s1, s0, s1, v26x10, v27x12, s28] H11⟩⟩⟩ ⟨k s1 H5⟩⟩⟩⟩⟩⟩⟩⟩ ⟨k s1 H⟩⟩⟩) := by kernel_rfl
-- tocsin/lex.one
def S66x0 (k : Value → AHeap → Prop) (sl : List Value) (H : AHeap) : Prop := kseq Tryz.prog (cr (cr (cr (cr (cb Tryz.f66))))) (kfin Tryz.prog Tryz.f66 k) .normal sl H
theorem d66 (a0 a1 : Value) (H : AHeap) (k : Value → AHeap → Prop) : kbody Tryz.prog Tryz.f66 [a0, a1] H k = (@bndE (aAlloc Tryz.prog H 70) ⟨fun v4x1 H2 => @bnd (buildV Tryz.prog 70 [(2, a1)]) ⟨fun v10x3 => @bndE (aAlloc
  Tryz.prog H2 70) ⟨fun v6x4 H5 => @bndS (aStore Tryz.prog H5 70 v6x4 v10x3) ⟨fun _ H7 => @bnd (aIndex Tryz.prog 9 a0 a1) ⟨fun v18x8 => @bndC Tryz.prog 99 [v18x8] H7 ⟨fun v19x9 H10 => @kifB v19x9 ⟨@bndC Tryz.prog 97 [a0, a1,
  (.func (.func 100) #[] #[])] H10 ⟨fun v22x11 H12 => @bnd (aFieldAddr Tryz.prog H12 70 v6x4 0) ⟨fun v23x13 => @bndS (aStore Tryz.prog H12 5 v23x13 (.int .u8 1)) ⟨fun _ H15 => S66x0  k [a0, a1, undef, undef, v4x1, (.int .i64 0),
  v6x4, v22x11, undef, a1, v10x3, undef, undef, undef, undef, v19x9, a0, a1, v18x8, v19x9, a0, a1, v22x11, v23x13, undef, undef, undef, undef, undef, undef, undef, undef, undef, undef, undef, undef, undef, undef, undef, undef,
  undef, undef, undef, undef, undef, undef, undef, undef, undef, undef, undef, undef, undef, undef, undef, undef, undef, undef, undef, undef, undef, undef, undef, undef, undef, undef, undef, undef, undef, undef, undef, undef,
  undef, undef, undef, undef, undef, undef, undef, undef, undef, undef, undef, undef, undef] H15⟩⟩⟩⟩ ⟨@bnd (aIndex Tryz.prog 9 a0 a1) ⟨fun v27x16 => @bndC Tryz.prog 101 [v27x16] H10 ⟨fun v28x17 H18 => @kifB v28x17 ⟨@bndC
  Tryz.prog 97 [a0, a1, (.func (.func 101) #[] #[])] H18 ⟨fun v31x19 H20 => @bnd (aFieldAddr Tryz.prog H20 70 v6x4 0) ⟨fun v32x21 => @bndS (aStore Tryz.prog H20 5 v32x21 (.int .u8 2)) ⟨fun _ H23 => @bnd (aBin2 Tryz.prog H23 .add
  3 (.tmp 34) (.tmp 35) a1 v31x19) ⟨fun v36x24 => @bnd (aBin2 Tryz.prog H23 .add 3 (.tmp 36) (.const (.int .i64 1)) v36x24 (.int .i64 1)) ⟨fun v37x25 => @bndC Tryz.prog 97 [a0, v37x25, (.func (.func 101) #[] #[])] H23 ⟨fun v38x26
  H27 => @bnd (aBin2 Tryz.prog H27 .add 3 (.tmp 39) (.tmp 40) a1 v31x19) ⟨fun v41x28 => @bnd (aLen Tryz.prog H27 9 a0) ⟨fun v43x29 => @bnd (aBin2 Tryz.prog H27 .lss 3 (.tmp 41) (.tmp 43) v41x28 v43x29) ⟨fun v44x30 => @bnd (gif
  v44x30 true ((some a0)) undef) ⟨fun v46x31 => @bnd (gif v44x30 true ((some a1)) undef) ⟨fun v47x32 => @bnd (gif v44x30 true ((some v31x19)) undef) ⟨fun v48x33 => @bnd (gif v44x30 true (aBin2 Tryz.prog H27 .add 3 (.tmp 47) (.tmp
  48) v47x32 v48x33) undef) ⟨fun v49x34 => @bnd (gif v44x30 true (aIndex Tryz.prog 9 v46x31 v49x34) undef) ⟨fun v50x35 => @bnd (gif v44x30 true (aBin2 Tryz.prog H27 .eql 5 (.tmp 50) (.const (.int .u8 46)) v50x35 (.int .u8 46))
  undef) ⟨fun v51x36 => @bnd (pickV v44x30 v51x36 (.bool false)) ⟨fun v52x37 => @bnd (gif v52x37 true ((some v38x26)) undef) ⟨fun v54x38 => @bnd (gif v52x37 true (aBin2 Tryz.prog H27 .gtr 3 (.tmp 54) (.const (.int .i64 0)) v54x38
  (.int .i64 0)) undef) ⟨fun v55x39 => @bnd (pickV v52x37 v55x39 (.bool false)) ⟨fun v56x40 => @kifB v56x40 ⟨@bnd (aBin2 Tryz.prog H27 .add 3 (.const (.int .i64 1)) (.tmp 58) (.int .i64 1) v38x26) ⟨fun v59x41 => @bnd (aBin2
  Tryz.prog H27 .add 3 (.tmp 57) (.tmp 59) v31x19 v59x41) ⟨fun v60x42 => S66x0  k [a0, a1, undef, undef, v4x1, (.int .i64 0), v6x4, v60x42, v38x26, a1, v10x3, undef, undef, undef, undef, v19x9, a0, a1, v18x8, v19x9, undef, undef,
  undef, undef, v28x17, a0, a1, v27x16, v28x17, a0, a1, v31x19, v32x21, a0, a1, v31x19, v36x24, v37x25, v38x26, a1, v31x19, v41x28, a0, v43x29, v44x30, v44x30, v46x31, v47x32, v48x33, v49x34, v50x35, v51x36, v52x37, v52x37,
  v54x38, v55x39, v56x40, v31x19, v38x26, v59x41, v60x42, undef, undef, undef, undef, undef, undef, undef, undef, undef, undef, undef, undef, undef, undef, undef, undef, undef, undef, undef, undef, undef, undef, undef, undef]
  H27⟩⟩⟩ ⟨S66x0  k [a0, a1, undef, undef, v4x1, (.int .i64 0), v6x4, v31x19, v38x26, a1, v10x3, undef, undef, undef, undef, v19x9, a0, a1, v18x8, v19x9, undef, undef, undef, undef, v28x17, a0, a1, v27x16, v28x17, a0, a1, v31x19,
  v32x21, a0, a1, v31x19, v36x24, v37x25, v38x26, a1, v31x19, v41x28, a0, v43x29, v44x30, v44x30, v46x31, v47x32, v48x33, v49x34, v50x35, v51x36, v52x37, v52x37, v54x38, v55x39, v56x40, undef, undef, undef, undef, undef, undef,
  undef, undef, undef, undef, undef, undef, undef, undef, undef, undef, undef, undef, undef, undef, undef, undef, undef, undef, undef, undef, undef, undef] H27⟩⟩⟩⟩⟩⟩⟩⟩⟩⟩⟩⟩⟩⟩⟩⟩⟩⟩⟩⟩⟩ ⟨@bnd (aIndex Tryz.prog 9 a0 a1) ⟨fun v64x43 =>
  @bnd (aBin2 Tryz.prog H18 .eql 5 (.tmp 64) (.const (.int .u8 34)) v64x43 (.int .u8 34)) ⟨fun v65x44 => @kifB v65x44 ⟨@bnd (aFieldAddr Tryz.prog H18 70 v6x4 0) ⟨fun v66x45 => @bndS (aStore Tryz.prog H18 5 v66x45 (.int .u8 3))
  ⟨fun _ H47 => @bndC Tryz.prog 102 [a0, a1] H47 ⟨fun v70x48 H49 => @bnd (tupV v70x48 0) ⟨fun v71x50 => @bnd (tupV v70x48 1) ⟨fun v72x51 => @bnd (aFieldAddr Tryz.prog H49 70 v6x4 1) ⟨fun v73x52 => @bndS (aStore Tryz.prog H49 9
  v73x52 v71x50) ⟨fun _ H54 => @bnd (aLoad Tryz.prog H54 70 v6x4) ⟨fun v74x55 => @bndS (aStore Tryz.prog H54 70 v4x1 v74x55) ⟨fun _ H57 => ∃ r58, aLoad Tryz.prog H57 70 v4x1 = some r58 ∧ k (.tuple #[r58, v72x51]) H57⟩⟩⟩⟩⟩⟩⟩⟩⟩⟩
  ⟨@bndC Tryz.prog 103 [a0, a1] H18 ⟨fun v13x59 H60 => @bnd (aFieldAddr Tryz.prog H60 70 v6x4 0) ⟨fun v14x61 => @bndS (aStore Tryz.prog H60 5 v14x61 (.int .u8 4)) ⟨fun _ H63 => S66x0  k [a0, a1, undef, undef, v4x1, (.int .i64 0),
  v6x4, v13x59, undef, a1, v10x3, a0, a1, v13x59, v14x61, v19x9, a0, a1, v18x8, v19x9, undef, undef, undef, undef, v28x17, a0, a1, v27x16, v28x17, undef, undef, undef, undef, undef, undef, undef, undef, undef, undef, undef,
  undef, undef, undef, undef, undef, undef, undef, undef, undef, undef, undef, undef, undef, undef, undef, undef, undef, undef, undef, undef, undef, v65x44, a0, a1, v64x43, v65x44, undef, undef, undef, undef, undef, undef, undef,
  undef, undef, undef, undef, undef, undef, undef, undef, undef, undef, undef, undef] H63⟩⟩⟩⟩⟩⟩⟩⟩⟩⟩⟩⟩⟩⟩⟩⟩) := by kernel_rfl
theorem S66x0q (s0 s1 s2 s3 s4 s5 s6 s7 s8 s9 s10 s11 s12 s13 s14 s15 s16 s17 s18 s19 s20 s21 s22 s23 s24 s25 s26 s27 s28 s29 s30 s31 s32 s33 s34 s35 s36 s37 s38 s39 s40 s41 s42 s43 s44 s45 s46 s47 s48 s49 s50 s51 s52 s53 s54 s55
  s56 s57 s58 s59 s60 s61 s62 s63 s64 s65 s66 s67 s68 s69 s70 s71 s72 s73 s74 s75 s76 s77 s78 s79 s80 s81 s82 s83 s84 : Value) (H : AHeap) (k : Value → AHeap → Prop) : S66x0 k [s0, s1, s2, s3, s4, s5, s6, s7, s8, s9, s10, s11,
  s12, s13, s14, s15, s16, s17, s18, s19, s20, s21, s22, s23, s24, s25, s26, s27, s28, s29, s30, s31, s32, s33, s34, s35, s36, s37, s38, s39, s40, s41, s42, s43, s44, s45, s46, s47, s48, s49, s50, s51, s52, s53, s54, s55, s56,
  s57, s58, s59, s60, s61, s62, s63, s64, s65, s66, s67, s68, s69, s70, s71, s72, s73, s74, s75, s76, s77, s78, s79, s80, s81, s82, s83, s84] H = (@bnd (aBin2 Tryz.prog H .add 3 (.tmp 78) (.tmp 79) s1 s7) ⟨fun v80x64 => @bnd
  (aSliceOp Tryz.prog H 9 s0 (some s1) (some v80x64)) ⟨fun v81x65 => @bnd (aFieldAddr Tryz.prog H 70 s6 1) ⟨fun v82x66 => @bndS (aStore Tryz.prog H 9 v82x66 v81x65) ⟨fun _ H68 => @bnd (aLoad Tryz.prog H68 70 s6) ⟨fun v83x69 =>
  @bndS (aStore Tryz.prog H68 70 s4 v83x69) ⟨fun _ H71 => ∃ r72, aLoad Tryz.prog H71 70 s4 = some r72 ∧ k (.tuple #[r72, s7]) H71⟩⟩⟩⟩⟩⟩) := by kernel_rfl
-- (*tocsin/expr.reader).takes
def S68x0 (k : Value → AHeap → Prop) (sl : List Value) (H : AHeap) : Prop := kseq Tryz.prog (cr (cr (cr (cb Tryz.f68)))) (kfin Tryz.prog Tryz.f68 k) .normal sl H
theorem d68 (a0 a1 a2 : Value) (H : AHeap) (k : Value → AHeap → Prop) : kbody Tryz.prog Tryz.f68 [a0, a1, a2] H k = (@bndC Tryz.prog 104 [a0, a1, a2] H ⟨fun v11x1 H2 => @kifB v11x1 ⟨@bnd (nilV a0) ⟨fun v14x3 => @bnd (aFieldAddr
  Tryz.prog H2 81 v14x3 1) ⟨fun v15x4 => @bnd (aLoad Tryz.prog H2 3 v15x4) ⟨fun v16x5 => @bnd (aBin2 Tryz.prog H2 .add 3 (.tmp 16) (.const (.int .i64 1)) v16x5 (.int .i64 1)) ⟨fun v17x6 => @bnd (nilV a0) ⟨fun v18x7 => @bnd
  (aFieldAddr Tryz.prog H2 81 v18x7 1) ⟨fun v19x8 => @bndS (aStore Tryz.prog H2 3 v19x8 v17x6) ⟨fun _ H10 => S68x0  k [a0, a1, a2, undef, undef, undef, (.bool false), v11x1, a0, a1, a2, v11x1, v11x1, a0, v14x3, v15x4, v16x5,
  v17x6, v18x7, v19x8, undef] H10⟩⟩⟩⟩⟩⟩⟩⟩ ⟨S68x0  k [a0, a1, a2, undef, undef, undef, (.bool false), v11x1, a0, a1, a2, v11x1, v11x1, undef, undef, undef, undef, undef, undef, undef, undef] H2⟩⟩) := by kernel_rfl
theorem S68x0q (s0 s1 s2 s3 s4 s5 s6 s7 s8 s9 s10 s11 s12 s13 s14 s15 s16 s17 s18 s19 s20 : Value) (H : AHeap) (k : Value → AHeap → Prop) : S68x0 k [s0, s1, s2, s3, s4, s5, s6, s7, s8, s9, s10, s11, s12, s13, s14, s15, s16, s17,
  s18, s19, s20] H = (k s7 H) := by kernel_rfl
-- (*tocsin/expr.reader).sign
theorem d69 (a0 a1 : Value) (H : AHeap) (k : Value → AHeap → Prop) : kbody Tryz.prog Tryz.f69 [a0, a1] H k = (@bndC Tryz.prog 68 [a0, (.int .u8 4), a1] H ⟨fun v7x1 H2 => @bnd (nilV a0) ⟨fun v8x3 => @bnd (aFieldAddr Tryz.prog H2
  81 v8x3 2) ⟨fun v9x4 => @bndS (aStore Tryz.prog H2 4 v9x4 v7x1) ⟨fun _ H6 => k (.tuple #[]) H6⟩⟩⟩⟩) := by kernel_rfl
-- (*tocsin/expr.reader).comparison
theorem d70 (a0 : Value) (H : AHeap) (k : Value → AHeap → Prop) : kbody Tryz.prog Tryz.f70 [a0] H k = (@bndE (aAlloc Tryz.prog H 37) ⟨fun v2x1 H2 => @bndC Tryz.prog 71 [] H2 ⟨fun v5x3 H4 => @bndC Tryz.prog 105 [a0, (.int .u8 1),
  v5x3] H4 ⟨fun v6x5 H6 => @bnd (buildV Tryz.prog 37 [(0, (.int .u8 0)), (1, v6x5)]) ⟨fun v7x7 => @bndE (aAlloc Tryz.prog H6 37) ⟨fun v3x8 H9 => @bndS (aStore Tryz.prog H9 37 v3x8 v7x7) ⟨fun _ H11 => @bndC Tryz.prog 69 [a0,
  (.string { data := #[40] })] H11 ⟨fun _ H13 => @bndC Tryz.prog 106 [a0] H13 ⟨fun v11x14 H15 => @bnd (aFieldAddr Tryz.prog H15 37 v3x8 2) ⟨fun v12x16 => @bndS (aStore Tryz.prog H15 35 v12x16 v11x14) ⟨fun _ H18 => @bndC Tryz.prog
  69 [a0, (.string { data := #[91] })] H18 ⟨fun _ H20 => @bndC Tryz.prog 107 [a0] H20 ⟨fun v16x21 H22 => @bnd (aFieldAddr Tryz.prog H22 37 v3x8 3) ⟨fun v17x23 => @bndS (aStore Tryz.prog H22 3 v17x23 v16x21) ⟨fun _ H25 => @bndC
  Tryz.prog 69 [a0, (.string { data := #[93] })] H25 ⟨fun _ H27 => @bndC Tryz.prog 69 [a0, (.string { data := #[41] })] H27 ⟨fun _ H29 => @bndC Tryz.prog 73 [] H29 ⟨fun v23x30 H31 => @bndC Tryz.prog 105 [a0, (.int .u8 4), v23x30]
  H31 ⟨fun v24x32 H33 => @bnd (aFieldAddr Tryz.prog H33 37 v3x8 4) ⟨fun v25x34 => @bndS (aStore Tryz.prog H33 5 v25x34 v24x32) ⟨fun _ H36 => @bndC Tryz.prog 108 [a0] H36 ⟨fun v27x37 H38 => @bnd (aFieldAddr Tryz.prog H38 37 v3x8
  5) ⟨fun v28x39 => @bndS (aStore Tryz.prog H38 2 v28x39 v27x37) ⟨fun _ H41 => @bnd (aLoad Tryz.prog H41 37 v3x8) ⟨fun v29x42 => @bndS (aStore Tryz.prog H41 37 v2x1 v29x42) ⟨fun _ H44 => ∃ r45, aLoad Tryz.prog H44 37 v2x1 = some
  r45 ∧ k r45 H44⟩⟩⟩⟩⟩⟩⟩⟩⟩⟩⟩⟩⟩⟩⟩⟩⟩⟩⟩⟩⟩⟩⟩⟩⟩) := by kernel_rfl
-- tocsin/expr.aggregates
theorem d71 (H : AHeap) (k : Value → AHeap → Prop) : kbody Tryz.prog Tryz.f71 [] H k = (@bndL Tryz.prog H 42 6 [(0, (.string { data := #[99, 111, 117, 110, 116] })), (1, (.string { data := #[115, 117, 109] })), (2, (.string {
  data := #[109, 105, 110] })), (3, (.string { data := #[109, 97, 120] })), (4, (.string { data := #[109, 101, 97, 110] })), (5, (.string { data := #[108, 97, 115, 116] }))] ⟨fun v1x1 H2 => k v1x1 H2⟩) := by kernel_rfl
-- tocsin/match.Print
theorem d73 (H : AHeap) (k : Value → AHeap → Prop) : kbody Tryz.prog Tryz.f73 [] H k = (@bndL Tryz.prog H 42 6 [(0, (.string { data := #[60] })), (1, (.string { data := #[60, 61] })), (2, (.string { data := #[62] })), (3,
  (.string { data := #[62, 61] })), (4, (.string { data := #[61, 61] })), (5, (.string { data := #[33, 61] }))] ⟨fun v1x1 H2 => k v1x1 H2⟩) := by kernel_rfl
-- tocsin/fixed.Print
theorem d80 (a0 : Value) (H : AHeap) (k : Value → AHeap → Prop) : kbody Tryz.prog Tryz.f80 [a0] H k = (@bnd (nilV a0) ⟨fun v4x1 => @bnd (aFieldAddr Tryz.prog H 116 v4x1 1) ⟨fun v5x2 => @bnd (aLoad Tryz.prog H 55 v5x2) ⟨fun v6x3
  => @bndD false H ⟨fun v7x4 H5 => aBuiltin Tryz.prog H Builtin.unsafeSliceData #[55] [v6x3] = some (v7x4, H5)⟩ ⟨fun v7x4 H5 => @bnd (nilV a0) ⟨fun v9x6 => @bnd (aFieldAddr Tryz.prog H 116 v9x6 1) ⟨fun v10x7 => @bnd (aLoad
  Tryz.prog H 55 v10x7) ⟨fun v11x8 => @bnd (aLen Tryz.prog H 55 v11x8) ⟨fun v12x9 => @bndD true H5 ⟨fun v13x10 H11 => aBuiltin Tryz.prog H5 Builtin.unsafeString #[157, 3] [v7x4, v12x9] = some (v13x10, H11)⟩ ⟨fun v13x10 H11 => k
  v13x10 H11⟩⟩⟩⟩⟩⟩⟩⟩⟩) := by kernel_rfl
-- internal/strconv.Itoa
end Go.Vi
namespace Go.Vi
open Go Go.Proofs
-- tocsin/tocsinref01.Sat
theorem d86 (a0 : Value) (H : AHeap) (k : Value → AHeap → Prop) : kbody Tryz.prog Tryz.f86 [a0] H k = (@bnd (aBin2 Tryz.prog H .gtr 2 (.tmp 3) (.const (.int .i64 4611686018427387903)) a0 (.int .i64 4611686018427387903)) ⟨fun v4x1
  => @kifB v4x1 ⟨k (.int .i64 4611686018427387903) H⟩ ⟨@bnd (aBin2 Tryz.prog H .lss 2 (.tmp 5) (.const (.int .i64 (-4611686018427387903))) a0 (.int .i64 (-4611686018427387903))) ⟨fun v6x2 => @kifB v6x2 ⟨k (.int .i64
  (-4611686018427387903)) H⟩ ⟨k a0 H⟩⟩⟩⟩) := by kernel_rfl
-- tocsin/tocsinref07.Quoted
def L91x0 (n : Nat) (k : Value → AHeap → Prop) (sl : List Value) (H : AHeap) : Prop := kit Tryz.prog (cl (cl (cr (cl (cr (cr (cr (cb Tryz.f91)))))))) n (kblk 0 (kseq Tryz.prog (cr (cr (cr (cr (cb Tryz.f91))))) (kfin Tryz.prog
  Tryz.f91 k))) .normal sl H
def S91x0 (n0 : Nat) (k : Value → AHeap → Prop) (sl : List Value) (H : AHeap) : Prop := kseq Tryz.prog (cr (cr (cl (cl (cr (cl (cl (cr (cl (cr (cr (cr (cb Tryz.f91))))))))))))) (kblk 1 (kseq Tryz.prog (cr (cr (cl (cl (cr (cl (cr
  (cr (cr (cb Tryz.f91)))))))))) (kit Tryz.prog (cl (cl (cr (cl (cr (cr (cr (cb Tryz.f91)))))))) n0 (kblk 0 (kseq Tryz.prog (cr (cr (cr (cr (cb Tryz.f91))))) (kfin Tryz.prog Tryz.f91 k)))))) .normal sl H
theorem d91 (a0 : Value) (H : AHeap) (k : Value → AHeap → Prop) : kbody Tryz.prog Tryz.f91 [a0] H k = (@bnd (aBin2 Tryz.prog H .eql 9 (.tmp 6) (.const (.string { data := #[] })) a0 (.string { data := #[] })) ⟨fun v7x1 => @bnd
  (gif v7x1 false ((some a0)) undef) ⟨fun v9x2 => @bnd (gif v7x1 false (aIndex Tryz.prog 9 v9x2 (.int .i64 0)) undef) ⟨fun v10x3 => @bnd (gif v7x1 false (aBin2 Tryz.prog H .neq 5 (.tmp 10) (.const (.int .u8 34)) v10x3 (.int .u8
  34)) undef) ⟨fun v11x4 => @bnd (pickV v7x1 (.bool true) v11x4) ⟨fun v12x5 => @kifB v12x5 ⟨k (.tuple #[(.string { data := #[] }), (.int .i64 0)]) H⟩ ⟨∃ n, L91x0 n  k [a0, undef, (.string { data := #[] }), (.int .i64 0), (.string
  { data := #[] }), (.int .i64 1), a0, v7x1, v7x1, v9x2, v10x3, v11x4, v12x5, undef, undef, undef, undef, undef, undef, undef, undef, undef, undef, undef, undef, undef, undef, undef, undef, undef, undef, undef, undef, undef,
  undef, undef, undef, undef, undef, undef, undef, undef, undef, undef, undef, undef, undef, undef, undef, undef, undef, undef, undef, undef, undef] H⟩⟩⟩⟩⟩⟩) := by kernel_rfl
theorem L91x0q (n0 : Nat) (s0 s1 s2 s3 s4 s5 s6 s7 s8 s9 s10 s11 s12 s13 s14 s15 s16 s17 s18 s19 s20 s21 s22 s23 s24 s25 s26 s27 s28 s29 s30 s31 s32 s33 s34 s35 s36 s37 s38 s39 s40 s41 s42 s43 s44 s45 s46 s47 s48 s49 s50 s51 s52
  s53 s54 : Value) (H : AHeap) (k : Value → AHeap → Prop) : L91x0 (n0 + 1) k [s0, s1, s2, s3, s4, s5, s6, s7, s8, s9, s10, s11, s12, s13, s14, s15, s16, s17, s18, s19, s20, s21, s22, s23, s24, s25, s26, s27, s28, s29, s30, s31,
  s32, s33, s34, s35, s36, s37, s38, s39, s40, s41, s42, s43, s44, s45, s46, s47, s48, s49, s50, s51, s52, s53, s54] H = (@bnd (aLen Tryz.prog H 9 s0) ⟨fun v15x6 => @bnd (aBin2 Tryz.prog H .lss 3 (.tmp 13) (.tmp 15) s5 v15x6)
  ⟨fun v16x7 => @kifB v16x7 ⟨@bnd (aIndex Tryz.prog 9 s0 s5) ⟨fun v21x8 => @bnd (aBin2 Tryz.prog H .eql 5 (.tmp 21) (.const (.int .u8 34)) v21x8 (.int .u8 34)) ⟨fun v22x9 => @kifB v22x9 ⟨@bnd (aBin2 Tryz.prog H .add 3 (.tmp 24)
  (.const (.int .i64 1)) s5 (.int .i64 1)) ⟨fun v25x10 => k (.tuple #[s4, v25x10]) H⟩⟩ ⟨@bnd (aIndex Tryz.prog 9 s0 s5) ⟨fun v28x11 => @bnd (aBin2 Tryz.prog H .eql 5 (.tmp 28) (.const (.int .u8 92)) v28x11 (.int .u8 92)) ⟨fun
  v29x12 => @kifB v29x12 ⟨@bnd (aBin2 Tryz.prog H .add 3 (.tmp 30) (.const (.int .i64 1)) s5 (.int .i64 1)) ⟨fun v31x13 => @bnd (aLen Tryz.prog H 9 s0) ⟨fun v34x14 => @bnd (aBin2 Tryz.prog H .eql 3 (.tmp 32) (.tmp 34) v31x13
  v34x14) ⟨fun v35x15 => @bnd (gif v35x15 false ((some s0)) undef) ⟨fun v37x16 => @bnd (gif v35x15 false ((some v31x13)) undef) ⟨fun v38x17 => @bnd (gif v35x15 false (aIndex Tryz.prog 9 v37x16 v38x17) undef) ⟨fun v39x18 => @bnd
  (gif v35x15 false (aBin2 Tryz.prog H .neq 5 (.tmp 39) (.const (.int .u8 34)) v39x18 (.int .u8 34)) undef) ⟨fun v40x19 => @bnd (gif v35x15 false ((some v40x19)) undef) ⟨fun v41x20 => @bnd (gif v41x20 true ((some s0)) undef) ⟨fun
  v42x21 => @bnd (gif v41x20 true ((some v31x13)) undef) ⟨fun v43x22 => @bnd (gif v41x20 true (aIndex Tryz.prog 9 v42x21 v43x22) undef) ⟨fun v44x23 => @bnd (gif v41x20 true (aBin2 Tryz.prog H .neq 5 (.tmp 44) (.const (.int .u8
  92)) v44x23 (.int .u8 92)) undef) ⟨fun v45x24 => @bnd (gif v35x15 false (pickV v41x20 v45x24 (.bool false)) undef) ⟨fun v46x25 => @bnd (pickV v35x15 (.bool true) v46x25) ⟨fun v47x26 => @kifB v47x26 ⟨k (.tuple #[(.string { data
  := #[] }), (.int .i64 0)]) H⟩ ⟨S91x0 n0 k [s0, s1, s2, s3, s4, v31x13, s6, s7, s8, s9, s10, s11, s12, s5, s0, v15x6, v16x7, s17, s18, s0, s5, v21x8, v22x9, s23, s24, s25, s0, s5, v28x11, v29x12, s5, v31x13, v31x13, s0, v34x14,
  v35x15, v35x15, v37x16, v38x17, v39x18, v40x19, v41x20, v42x21, v43x22, v44x23, v45x24, v46x25, v47x26, s48, s49, s50, s51, s52, s53, s54] H⟩⟩⟩⟩⟩⟩⟩⟩⟩⟩⟩⟩⟩⟩⟩⟩ ⟨S91x0 n0 k [s0, s1, s2, s3, s4, s5, s6, s7, s8, s9, s10, s11, s12,
  s5, s0, v15x6, v16x7, s17, s18, s0, s5, v21x8, v22x9, s23, s24, s25, s0, s5, v28x11, v29x12, s30, s31, s32, s33, s34, s35, s36, s37, s38, s39, s40, s41, s42, s43, s44, s45, s46, s47, s48, s49, s50, s51, s52, s53, s54] H⟩⟩⟩⟩⟩⟩⟩
  ⟨k (.tuple #[(.string { data := #[] }), (.int .i64 0)]) H⟩⟩⟩) := by kernel_rfl
theorem S91x0q (n0 : Nat) (s0 s1 s2 s3 s4 s5 s6 s7 s8 s9 s10 s11 s12 s13 s14 s15 s16 s17 s18 s19 s20 s21 s22 s23 s24 s25 s26 s27 s28 s29 s30 s31 s32 s33 s34 s35 s36 s37 s38 s39 s40 s41 s42 s43 s44 s45 s46 s47 s48 s49 s50 s51 s52
  s53 s54 : Value) (H : AHeap) (k : Value → AHeap → Prop) : S91x0 n0 k [s0, s1, s2, s3, s4, s5, s6, s7, s8, s9, s10, s11, s12, s13, s14, s15, s16, s17, s18, s19, s20, s21, s22, s23, s24, s25, s26, s27, s28, s29, s30, s31, s32,
  s33, s34, s35, s36, s37, s38, s39, s40, s41, s42, s43, s44, s45, s46, s47, s48, s49, s50, s51, s52, s53, s54] H = (@bnd (aBin2 Tryz.prog H .add 3 (.tmp 51) (.const (.int .i64 1)) s5 (.int .i64 1)) ⟨fun v52x27 => @bnd (aSliceOp
  Tryz.prog H 9 s0 (some s5) (some v52x27)) ⟨fun v53x28 => @bnd (aBin2 Tryz.prog H .add 9 (.tmp 48) (.tmp 53) s4 v53x28) ⟨fun v54x29 => @bnd (aBin2 Tryz.prog H .add 3 (.tmp 17) (.const (.int .i64 1)) s5 (.int .i64 1)) ⟨fun v18x30
  => L91x0 n0  k [s0, s1, s2, s3, v54x29, v18x30, s6, s7, s8, s9, s10, s11, s12, s13, s14, s15, s16, s5, v18x30, s19, s20, s21, s22, s23, s24, s25, s26, s27, s28, s29, s30, s31, s32, s33, s34, s35, s36, s37, s38, s39, s40, s41,
  s42, s43, s44, s45, s46, s47, s4, s0, s5, s5, v52x27, v53x28, v54x29] H⟩⟩⟩⟩) := by kernel_rfl
-- tocsin/tocsinref07.Plain
def L92x0 (n : Nat) (k : Value → AHeap → Prop) (sl : List Value) (H : AHeap) : Prop := kit Tryz.prog (cl (cl (cr (cl (cr (cb Tryz.f92)))))) n (kblk 0 (kseq Tryz.prog (cr (cr (cb Tryz.f92))) (kfin Tryz.prog Tryz.f92 k))) .normal
  sl H
theorem d92 (a0 : Value) (H : AHeap) (k : Value → AHeap → Prop) : kbody Tryz.prog Tryz.f92 [a0] H k = (∃ n, L92x0 n  k [a0, undef, (.bool false), (.int .i64 0), undef, undef, undef, undef, undef, undef, undef, undef, undef,
  undef, undef, undef, undef, undef, undef, undef] H) := by kernel_rfl
theorem L92x0q (n0 : Nat) (s0 s1 s2 s3 s4 s5 s6 s7 s8 s9 s10 s11 s12 s13 s14 s15 s16 s17 s18 s19 : Value) (H : AHeap) (k : Value → AHeap → Prop) : L92x0 (n0 + 1) k [s0, s1, s2, s3, s4, s5, s6, s7, s8, s9, s10, s11, s12, s13, s14,
  s15, s16, s17, s18, s19] H = (@bnd (aLen Tryz.prog H 9 s0) ⟨fun v6x1 => @bnd (aBin2 Tryz.prog H .lss 3 (.tmp 4) (.tmp 6) s3 v6x1) ⟨fun v7x2 => @kifB v7x2 ⟨@bnd (aIndex Tryz.prog 9 s0 s3) ⟨fun v12x3 => @bnd (aBin2 Tryz.prog H
  .lss 5 (.tmp 12) (.const (.int .u8 32)) v12x3 (.int .u8 32)) ⟨fun v13x4 => @bnd (gif v13x4 false ((some s0)) undef) ⟨fun v15x5 => @bnd (gif v13x4 false ((some s3)) undef) ⟨fun v16x6 => @bnd (gif v13x4 false (aIndex Tryz.prog 9
  v15x5 v16x6) undef) ⟨fun v17x7 => @bnd (gif v13x4 false (aBin2 Tryz.prog H .gtr 5 (.tmp 17) (.const (.int .u8 126)) v17x7 (.int .u8 126)) undef) ⟨fun v18x8 => @bnd (pickV v13x4 (.bool true) v18x8) ⟨fun v19x9 => @kifB v19x9 ⟨k
  (.bool false) H⟩ ⟨@bnd (aBin2 Tryz.prog H .add 3 (.tmp 8) (.const (.int .i64 1)) s3 (.int .i64 1)) ⟨fun v9x10 => L92x0 n0  k [s0, s1, s2, v9x10, s3, s0, v6x1, v7x2, s3, v9x10, s0, s3, v12x3, v13x4, v13x4, v15x5, v16x6, v17x7,
  v18x8, v19x9] H⟩⟩⟩⟩⟩⟩⟩⟩⟩⟩ ⟨k (.bool true) H⟩⟩⟩) := by kernel_rfl
-- tocsin/tocsinref09.kind
theorem d93 (a0 : Value) (H : AHeap) (k : Value → AHeap → Prop) : kbody Tryz.prog Tryz.f93 [a0] H k = (@bndC Tryz.prog 120 [a0] H ⟨fun v6x1 H2 => @kifB v6x1 ⟨k (.tuple #[(.int .u8 1), a0]) H2⟩ ⟨@bndC Tryz.prog 121 [a0] H2 ⟨fun
  v10x3 H4 => @kifB v10x3 ⟨k (.tuple #[(.int .u8 2), a0]) H4⟩ ⟨@bndC Tryz.prog 122 [a0] H4 ⟨fun v14x5 H6 => @kifB v14x5 ⟨k (.tuple #[(.int .u8 4), a0]) H6⟩ ⟨k (.tuple #[(.int .u8 0), (.string { data := #[] })]) H6⟩⟩⟩⟩⟩⟩) := by
  kernel_rfl
-- tocsin/tocsinref10.part
theorem d94 (a0 a1 a2 a3 : Value) (H : AHeap) (k : Value → AHeap → Prop) : kbody Tryz.prog Tryz.f94 [a0, a1, a2, a3] H k = (@bnd (aBin2 Tryz.prog H .eql 9 (.tmp 14) (.const (.string { data := #[111, 114] })) a3 (.string { data :=
  #[111, 114] })) ⟨fun v15x1 => @kifB v15x1 ⟨@bndC Tryz.prog 63 [a0, a1, a2, (.string { data := #[97, 110, 100] })] H ⟨fun v19x2 H3 => @bnd (tupV v19x2 0) ⟨fun v20x4 => @bnd (tupV v19x2 1) ⟨fun v21x5 => k (.tuple #[v20x4, v21x5])
  H3⟩⟩⟩⟩ ⟨@bndC Tryz.prog 95 [a0, a1, (.int .u8 1), (.string { data := #[110, 111, 116] })] H ⟨fun v24x6 H7 => @kifB v24x6 ⟨@bnd (aBin2 Tryz.prog H7 .add 3 (.tmp 27) (.const (.int .i64 1)) a1 (.int .i64 1)) ⟨fun v28x8 => @bndC
  Tryz.prog 94 [a0, v28x8, a2, (.string { data := #[97, 110, 100] })] H7 ⟨fun v30x9 H10 => @bnd (tupV v30x9 0) ⟨fun v31x11 => @bnd (tupV v30x9 1) ⟨fun v32x12 => @bnd (aBin2 Tryz.prog H10 .lss 3 (.tmp 33) (.const (.int .i64 0))
  v32x12 (.int .i64 0)) ⟨fun v34x13 => @kifB v34x13 ⟨k (.tuple #[(.slice none 0 0), (.int .i64 (-1))]) H10⟩ ⟨@bnd (aLen Tryz.prog H10 27 v31x11) ⟨fun v38x14 => @bnd (aBin2 Tryz.prog H10 .add 3 (.tmp 36) (.tmp 38) a2 v38x14) ⟨fun
  v39x15 => @bnd (aBin2 Tryz.prog H10 .sub 3 (.tmp 39) (.const (.int .i64 1)) v39x15 (.int .i64 1)) ⟨fun v40x16 => @bnd (buildV Tryz.prog 37 [(0, (.int .u8 3)), (6, v40x16)]) ⟨fun v41x17 => @bndL Tryz.prog H10 27 1 [(0, v41x17)]
  ⟨fun v42x18 H19 => @bndE (aBuiltin Tryz.prog H19 Builtin.append #[27, 27] [v31x11, v42x18]) ⟨fun v43x20 H21 => k (.tuple #[v43x20, v32x12]) H21⟩⟩⟩⟩⟩⟩⟩⟩⟩⟩⟩⟩⟩ ⟨@bndC Tryz.prog 95 [a0, a1, (.int .u8 4), (.string { data := #[40]
  })] H7 ⟨fun v48x22 H23 => @kifB v48x22 ⟨@bnd (aBin2 Tryz.prog H23 .add 3 (.tmp 51) (.const (.int .i64 1)) a1 (.int .i64 1)) ⟨fun v52x24 => @bndC Tryz.prog 37 [a0, v52x24, a2] H23 ⟨fun v54x25 H26 => @bnd (tupV v54x25 0) ⟨fun
  v55x27 => @bnd (tupV v54x25 1) ⟨fun v56x28 => @bnd (aBin2 Tryz.prog H26 .lss 3 (.tmp 57) (.const (.int .i64 0)) v56x28 (.int .i64 0)) ⟨fun v58x29 => @bnd (gif v58x29 false ((some a0)) undef) ⟨fun v60x30 => @bnd (gif v58x29
  false ((some v56x28)) undef) ⟨fun v61x31 => @bndG v58x29 false H26 ⟨fun v62x32 H33 => ACalls Tryz.prog 95 [v60x30, v61x31, (.int .u8 4), (.string { data := #[41] })] H26 v62x32 H33⟩ ⟨fun v62x32 H33 => @bnd (gif v58x29 false
  (unV Tryz.prog .not v62x32) undef) ⟨fun v63x34 => @bnd (pickV v58x29 (.bool true) v63x34) ⟨fun v64x35 => @kifB v64x35 ⟨k (.tuple #[(.slice none 0 0), (.int .i64 (-1))]) H33⟩ ⟨@bnd (aBin2 Tryz.prog H33 .add 3 (.tmp 66) (.const
  (.int .i64 1)) v56x28 (.int .i64 1)) ⟨fun v67x36 => k (.tuple #[v55x27, v67x36]) H33⟩⟩⟩⟩⟩⟩⟩⟩⟩⟩⟩⟩⟩ ⟨@bndC Tryz.prog 123 [a0, a1] H23 ⟨fun v70x37 H38 => @bnd (tupV v70x37 0) ⟨fun v71x39 => @bnd (tupV v70x37 1) ⟨fun v72x40 => k
  (.tuple #[v71x39, v72x40]) H38⟩⟩⟩⟩⟩⟩⟩⟩⟩) := by kernel_rfl
-- tocsin/tocsinref10.is
theorem d95 (a0 a1 a2 a3 : Value) (H : AHeap) (k : Value → AHeap → Prop) : kbody Tryz.prog Tryz.f95 [a0, a1, a2, a3] H k = (@bnd (aLen Tryz.prog H 64 a0) ⟨fun v11x1 => @bnd (aBin2 Tryz.prog H .lss 3 (.tmp 9) (.tmp 11) a1 v11x1)
  ⟨fun v12x2 => @bnd (gif v12x2 true ((some a0)) undef) ⟨fun v14x3 => @bnd (gif v12x2 true ((some a1)) undef) ⟨fun v15x4 => @bnd (gif v12x2 true (aIndexAddr Tryz.prog H 64 v14x3 v15x4) undef) ⟨fun v16x5 => @bnd (gif v12x2 true
  (aFieldAddr Tryz.prog H 72 v16x5 0) undef) ⟨fun v17x6 => @bnd (gif v12x2 true (aLoad Tryz.prog H 5 v17x6) undef) ⟨fun v18x7 => @bnd (gif v12x2 true ((some a2)) undef) ⟨fun v19x8 => @bnd (gif v12x2 true (aBin2 Tryz.prog H .eql 5
  (.tmp 18) (.tmp 19) v18x7 v19x8) undef) ⟨fun v20x9 => @bnd (pickV v12x2 v20x9 (.bool false)) ⟨fun v21x10 => @bnd (gif v21x10 true ((some a0)) undef) ⟨fun v23x11 => @bnd (gif v21x10 true ((some a1)) undef) ⟨fun v24x12 => @bnd
  (gif v21x10 true (aIndexAddr Tryz.prog H 64 v23x11 v24x12) undef) ⟨fun v25x13 => @bnd (gif v21x10 true (aFieldAddr Tryz.prog H 72 v25x13 1) undef) ⟨fun v26x14 => @bnd (gif v21x10 true (aLoad Tryz.prog H 9 v26x14) undef) ⟨fun
  v27x15 => @bnd (gif v21x10 true ((some a3)) undef) ⟨fun v28x16 => @bnd (gif v21x10 true (aBin2 Tryz.prog H .eql 9 (.tmp 27) (.tmp 28) v27x15 v28x16) undef) ⟨fun v29x17 => @bnd (gif v21x10 true ((some v29x17)) undef) ⟨fun v30x18
  => @bnd (gif v30x18 false ((some a3)) undef) ⟨fun v31x19 => @bnd (gif v30x18 false (aBin2 Tryz.prog H .eql 9 (.tmp 31) (.const (.string { data := #[42] })) v31x19 (.string { data := #[42] })) undef) ⟨fun v32x20 => @bnd (gif
  v21x10 true (pickV v30x18 (.bool true) v32x20) undef) ⟨fun v33x21 => @bnd (pickV v21x10 v33x21 (.bool false)) ⟨fun v34x22 => k v34x22 H⟩⟩⟩⟩⟩⟩⟩⟩⟩⟩⟩⟩⟩⟩⟩⟩⟩⟩⟩⟩⟩⟩) := by kernel_rfl
-- strings.IndexByte
theorem d96 (a0 a1 : Value) (H : AHeap) (k : Value → AHeap → Prop) : kbody Tryz.prog Tryz.f96 [a0, a1] H k = (@bndC Tryz.prog 124 [a0, a1] H ⟨fun v7x1 H2 => k v7x1 H2⟩) := by kernel_rfl
-- tocsin/lex.run
def L97x0 (n : Nat) (k : Value → AHeap → Prop) (sl : List Value) (H : AHeap) : Prop := kit Tryz.prog (cl (cl (cl (cr (cr (cb Tryz.f97)))))) n (kblk 0 (kseq Tryz.prog (cr (cr (cr (cb Tryz.f97)))) (kfin Tryz.prog Tryz.f97 k)))
  .normal sl H
theorem d97 (a0 a1 a2 : Value) (H : AHeap) (k : Value → AHeap → Prop) : kbody Tryz.prog Tryz.f97 [a0, a1, a2] H k = (∃ n, L97x0 n  k [a0, a1, a2, undef, undef, undef, (.int .i64 0), (.int .i64 0), undef, undef, undef, undef,
  undef, undef, undef, undef, undef, undef, undef, undef, undef, undef, undef, undef, undef, undef] H) := by kernel_rfl
theorem L97x0q (n0 : Nat) (s0 s1 s2 s3 s4 s5 s6 s7 s8 s9 s10 s11 s12 s13 s14 s15 s16 s17 s18 s19 s20 s21 s22 s23 s24 s25 : Value) (H : AHeap) (k : Value → AHeap → Prop) : L97x0 (n0 + 1) k [s0, s1, s2, s3, s4, s5, s6, s7, s8, s9,
  s10, s11, s12, s13, s14, s15, s16, s17, s18, s19, s20, s21, s22, s23, s24, s25] H = (@bnd (aBin2 Tryz.prog H .add 3 (.tmp 8) (.tmp 9) s1 s7) ⟨fun v10x1 => @bnd (aLen Tryz.prog H 9 s0) ⟨fun v12x2 => @bnd (aBin2 Tryz.prog H .lss
  3 (.tmp 10) (.tmp 12) v10x1 v12x2) ⟨fun v13x3 => @bnd (gif v13x3 true ((some s2)) undef) ⟨fun v15x4 => @bnd (gif v13x3 true ((some s0)) undef) ⟨fun v16x5 => @bnd (gif v13x3 true ((some s1)) undef) ⟨fun v17x6 => @bnd (gif v13x3
  true ((some s7)) undef) ⟨fun v18x7 => @bnd (gif v13x3 true (aBin2 Tryz.prog H .add 3 (.tmp 17) (.tmp 18) v17x6 v18x7) undef) ⟨fun v19x8 => @bnd (gif v13x3 true (aIndex Tryz.prog 9 v16x5 v19x8) undef) ⟨fun v20x9 => @bndG v13x3
  true H ⟨fun v21x10 H11 => callV Tryz.prog v15x4 [v20x9] H v21x10 H11⟩ ⟨fun v21x10 H11 => @bnd (pickV v13x3 v21x10 (.bool false)) ⟨fun v22x12 => @kifB v22x12 ⟨@bnd (aBin2 Tryz.prog H11 .add 3 (.tmp 23) (.const (.int .i64 1)) s7
  (.int .i64 1)) ⟨fun v24x13 => L97x0 n0  k [s0, s1, s2, s3, s4, s5, s6, v24x13, s1, s7, v10x1, s0, v12x2, v13x3, v13x3, v15x4, v16x5, v17x6, v18x7, v19x8, v20x9, v21x10, v22x12, s7, v24x13, s25] H11⟩⟩ ⟨k s7 H11⟩⟩⟩⟩⟩⟩⟩⟩⟩⟩⟩⟩) :=
  by kernel_rfl
-- tocsin/lex.skip$1
theorem d98 (a0 : Value) (H : AHeap) (k : Value → AHeap → Prop) : kbody Tryz.prog Tryz.f98 [a0] H k = (@bnd (aBin2 Tryz.prog H .neq 5 (.tmp 3) (.const (.int .u8 10)) a0 (.int .u8 10)) ⟨fun v4x1 => k v4x1 H⟩) := by kernel_rfl
-- tocsin/lex.letter
theorem d99 (a0 : Value) (H : AHeap) (k : Value → AHeap → Prop) : kbody Tryz.prog Tryz.f99 [a0] H k = (@bnd (aBin2 Tryz.prog H .geq 5 (.tmp 3) (.const (.int .u8 97)) a0 (.int .u8 97)) ⟨fun v4x1 => @bnd (gif v4x1 true ((some a0))
  undef) ⟨fun v6x2 => @bnd (gif v4x1 true (aBin2 Tryz.prog H .leq 5 (.tmp 6) (.const (.int .u8 122)) v6x2 (.int .u8 122)) undef) ⟨fun v7x3 => @bnd (pickV v4x1 v7x3 (.bool false)) ⟨fun v8x4 => k v8x4 H⟩⟩⟩⟩) := by kernel_rfl
-- tocsin/lex.mark
theorem d100 (a0 : Value) (H : AHeap) (k : Value → AHeap → Prop) : kbody Tryz.prog Tryz.f100 [a0] H k = (@bndC Tryz.prog 99 [a0] H ⟨fun v4x1 H2 => @bnd (gif v4x1 false ((some a0)) undef) ⟨fun v6x3 => @bndG v4x1 false H2 ⟨fun v7x4
  H5 => ACalls Tryz.prog 101 [v6x3] H2 v7x4 H5⟩ ⟨fun v7x4 H5 => @bnd (pickV v4x1 (.bool true) v7x4) ⟨fun v8x6 => @bnd (gif v8x6 false ((some a0)) undef) ⟨fun v10x7 => @bnd (gif v8x6 false (aBin2 Tryz.prog H5 .eql 5 (.tmp 10)
  (.const (.int .u8 95)) v10x7 (.int .u8 95)) undef) ⟨fun v11x8 => @bnd (pickV v8x6 (.bool true) v11x8) ⟨fun v12x9 => k v12x9 H5⟩⟩⟩⟩⟩⟩⟩) := by kernel_rfl
-- tocsin/lex.digit
theorem d101 (a0 : Value) (H : AHeap) (k : Value → AHeap → Prop) : kbody Tryz.prog Tryz.f101 [a0] H k = (@bnd (aBin2 Tryz.prog H .geq 5 (.tmp 3) (.const (.int .u8 48)) a0 (.int .u8 48)) ⟨fun v4x1 => @bnd (gif v4x1 true ((some
  a0)) undef) ⟨fun v6x2 => @bnd (gif v4x1 true (aBin2 Tryz.prog H .leq 5 (.tmp 6) (.const (.int .u8 57)) v6x2 (.int .u8 57)) undef) ⟨fun v7x3 => @bnd (pickV v4x1 v7x3 (.bool false)) ⟨fun v8x4 => k v8x4 H⟩⟩⟩⟩) := by kernel_rfl
-- tocsin/lex.text
def L102x0 (n : Nat) (k : Value → AHeap → Prop) (sl : List Value) (H : AHeap) : Prop := kit Tryz.prog (cl (cl (cr (cl (cr (cr (cb Tryz.f102))))))) n (kblk 0 (kseq Tryz.prog (cr (cr (cr (cb Tryz.f102)))) (kfin Tryz.prog Tryz.f102
  k))) .normal sl H
def S102x0 (n0 : Nat) (k : Value → AHeap → Prop) (sl : List Value) (H : AHeap) : Prop := kseq Tryz.prog (cr (cl (cl (cr (cl (cl (cr (cl (cr (cr (cb Tryz.f102))))))))))) (kblk 1 (kseq Tryz.prog (cr (cr (cl (cl (cr (cl (cr (cr (cb
  Tryz.f102))))))))) (kit Tryz.prog (cl (cl (cr (cl (cr (cr (cb Tryz.f102))))))) n0 (kblk 0 (kseq Tryz.prog (cr (cr (cr (cb Tryz.f102)))) (kfin Tryz.prog Tryz.f102 k)))))) .normal sl H
theorem d102 (a0 a1 : Value) (H : AHeap) (k : Value → AHeap → Prop) : kbody Tryz.prog Tryz.f102 [a0, a1] H k = (@bndE (aAlloc Tryz.prog H 116) ⟨fun v6x1 H2 => @bnd (aBin2 Tryz.prog H2 .add 3 (.tmp 8) (.const (.int .i64 1)) a1
  (.int .i64 1)) ⟨fun v9x3 => ∃ n, L102x0 n  k [a0, a1, undef, undef, (.string { data := #[] }), (.int .i64 0), v6x1, v9x3, a1, v9x3, undef, undef, undef, undef, undef, undef, undef, undef, undef, undef, undef, undef, undef,
  undef, undef, undef, undef, undef, undef, undef, undef, undef, undef, undef, undef, undef, undef, undef, undef, undef, undef, undef, undef, undef, undef, undef, undef, undef, undef, undef, undef, undef, undef, undef, undef,
  undef, undef, undef, undef, undef, undef, undef, undef, undef, undef, undef, undef, undef, undef, undef, undef, undef, undef, undef, undef] H2⟩⟩) := by kernel_rfl
theorem L102x0q (n0 : Nat) (s0 s1 s2 s3 s4 s5 s6 s7 s8 s9 s10 s11 s12 s13 s14 s15 s16 s17 s18 s19 s20 s21 s22 s23 s24 s25 s26 s27 s28 s29 s30 s31 s32 s33 s34 s35 s36 s37 s38 s39 s40 s41 s42 s43 s44 s45 s46 s47 s48 s49 s50 s51 s52
  s53 s54 s55 s56 s57 s58 s59 s60 s61 s62 s63 s64 s65 s66 s67 s68 s69 s70 s71 s72 s73 s74 : Value) (H : AHeap) (k : Value → AHeap → Prop) : L102x0 (n0 + 1) k [s0, s1, s2, s3, s4, s5, s6, s7, s8, s9, s10, s11, s12, s13, s14, s15,
  s16, s17, s18, s19, s20, s21, s22, s23, s24, s25, s26, s27, s28, s29, s30, s31, s32, s33, s34, s35, s36, s37, s38, s39, s40, s41, s42, s43, s44, s45, s46, s47, s48, s49, s50, s51, s52, s53, s54, s55, s56, s57, s58, s59, s60,
  s61, s62, s63, s64, s65, s66, s67, s68, s69, s70, s71, s72, s73, s74] H = (@bnd (aLen Tryz.prog H 9 s0) ⟨fun v12x4 => @bnd (aBin2 Tryz.prog H .lss 3 (.tmp 10) (.tmp 12) s7 v12x4) ⟨fun v13x5 => @bnd (gif v13x5 true ((some s0))
  undef) ⟨fun v15x6 => @bnd (gif v13x5 true ((some s7)) undef) ⟨fun v16x7 => @bnd (gif v13x5 true (aIndex Tryz.prog 9 v15x6 v16x7) undef) ⟨fun v17x8 => @bnd (gif v13x5 true (aBin2 Tryz.prog H .geq 5 (.tmp 17) (.const (.int .u8
  32)) v17x8 (.int .u8 32)) undef) ⟨fun v18x9 => @bnd (pickV v13x5 v18x9 (.bool false)) ⟨fun v19x10 => @bnd (gif v19x10 true ((some s0)) undef) ⟨fun v21x11 => @bnd (gif v19x10 true ((some s7)) undef) ⟨fun v22x12 => @bnd (gif
  v19x10 true (aIndex Tryz.prog 9 v21x11 v22x12) undef) ⟨fun v23x13 => @bnd (gif v19x10 true (aBin2 Tryz.prog H .leq 5 (.tmp 23) (.const (.int .u8 126)) v23x13 (.int .u8 126)) undef) ⟨fun v24x14 => @bnd (pickV v19x10 v24x14
  (.bool false)) ⟨fun v25x15 => @kifB v25x15 ⟨@bnd (aIndex Tryz.prog 9 s0 s7) ⟨fun v31x16 => @bnd (aBin2 Tryz.prog H .eql 5 (.tmp 31) (.const (.int .u8 34)) v31x16 (.int .u8 34)) ⟨fun v32x17 => @kifB v32x17 ⟨@bndC Tryz.prog 80
  [s6] H ⟨fun v33x18 H19 => @bnd (aBin2 Tryz.prog H19 .add 3 (.tmp 34) (.const (.int .i64 1)) s7 (.int .i64 1)) ⟨fun v35x20 => @bnd (aBin2 Tryz.prog H19 .sub 3 (.tmp 35) (.tmp 36) v35x20 s1) ⟨fun v37x21 => k (.tuple #[v33x18,
  v37x21]) H19⟩⟩⟩⟩ ⟨@bnd (aIndex Tryz.prog 9 s0 s7) ⟨fun v41x22 => @bnd (aBin2 Tryz.prog H .eql 5 (.tmp 41) (.const (.int .u8 92)) v41x22 (.int .u8 92)) ⟨fun v42x23 => @bnd (gif v42x23 true ((some s7)) undef) ⟨fun v44x24 => @bnd
  (gif v42x23 true (aBin2 Tryz.prog H .add 3 (.tmp 44) (.const (.int .i64 1)) v44x24 (.int .i64 1)) undef) ⟨fun v45x25 => @bnd (gif v42x23 true ((some s0)) undef) ⟨fun v46x26 => @bnd (gif v42x23 true (aLen Tryz.prog H 9 v46x26)
  undef) ⟨fun v47x27 => @bnd (gif v42x23 true (aBin2 Tryz.prog H .lss 3 (.tmp 45) (.tmp 47) v45x25 v47x27) undef) ⟨fun v48x28 => @bnd (pickV v42x23 v48x28 (.bool false)) ⟨fun v49x29 => @bnd (gif v49x29 true ((some s0)) undef)
  ⟨fun v51x30 => @bnd (gif v49x29 true ((some s7)) undef) ⟨fun v52x31 => @bnd (gif v49x29 true (aBin2 Tryz.prog H .add 3 (.tmp 52) (.const (.int .i64 1)) v52x31 (.int .i64 1)) undef) ⟨fun v53x32 => @bnd (gif v49x29 true (aIndex
  Tryz.prog 9 v51x30 v53x32) undef) ⟨fun v54x33 => @bnd (gif v49x29 true (aBin2 Tryz.prog H .eql 5 (.tmp 54) (.const (.int .u8 34)) v54x33 (.int .u8 34)) undef) ⟨fun v55x34 => @bnd (gif v49x29 true ((some v55x34)) undef) ⟨fun
  v56x35 => @bnd (gif v56x35 false ((some s0)) undef) ⟨fun v57x36 => @bnd (gif v56x35 false ((some s7)) undef) ⟨fun v58x37 => @bnd (gif v56x35 false (aBin2 Tryz.prog H .add 3 (.tmp 58) (.const (.int .i64 1)) v58x37 (.int .i64 1))
  undef) ⟨fun v59x38 => @bnd (gif v56x35 false (aIndex Tryz.prog 9 v57x36 v59x38) undef) ⟨fun v60x39 => @bnd (gif v56x35 false (aBin2 Tryz.prog H .eql 5 (.tmp 60) (.const (.int .u8 92)) v60x39 (.int .u8 92)) undef) ⟨fun v61x40 =>
  @bnd (gif v49x29 true (pickV v56x35 (.bool true) v61x40) undef) ⟨fun v62x41 => @bnd (pickV v49x29 v62x41 (.bool false)) ⟨fun v63x42 => @kifB v63x42 ⟨@bnd (aBin2 Tryz.prog H .add 3 (.tmp 64) (.const (.int .i64 1)) s7 (.int .i64
  1)) ⟨fun v65x43 => S102x0 n0 k [s0, s1, s2, s3, s4, s5, s6, v65x43, s8, s9, s7, s0, v12x4, v13x5, v13x5, v15x6, v16x7, v17x8, v18x9, v19x10, v19x10, v21x11, v22x12, v23x13, v24x14, v25x15, s26, s27, v32x17, s0, s7, v31x16,
  v32x17, s33, s34, s35, s36, s37, v63x42, s0, s7, v41x22, v42x23, v42x23, v44x24, v45x25, v46x26, v47x27, v48x28, v49x29, v49x29, v51x30, v52x31, v53x32, v54x33, v55x34, v56x35, v57x36, v58x37, v59x38, v60x39, v61x40, v62x41,
  v63x42, s7, v65x43, s66, s67, s68, s69, s70, s71, s72, s73, s74] H⟩⟩ ⟨@bnd (aIndex Tryz.prog 9 s0 s7) ⟨fun v69x44 => @bnd (aBin2 Tryz.prog H .eql 5 (.tmp 69) (.const (.int .u8 92)) v69x44 (.int .u8 92)) ⟨fun v70x45 => @kifB
  v70x45 ⟨k (.tuple #[(.string { data := #[] }), (.int .i64 0)]) H⟩ ⟨S102x0 n0 k [s0, s1, s2, s3, s4, s5, s6, s7, s8, s9, s7, s0, v12x4, v13x5, v13x5, v15x6, v16x7, v17x8, v18x9, v19x10, v19x10, v21x11, v22x12, v23x13, v24x14,
  v25x15, s26, s27, v32x17, s0, s7, v31x16, v32x17, s33, s34, s35, s36, s37, v63x42, s0, s7, v41x22, v42x23, v42x23, v44x24, v45x25, v46x26, v47x27, v48x28, v49x29, v49x29, v51x30, v52x31, v53x32, v54x33, v55x34, v56x35, v57x36,
  v58x37, v59x38, v60x39, v61x40, v62x41, v63x42, s64, s65, v70x45, s0, s7, v69x44, v70x45, s71, s72, s73, s74] H⟩⟩⟩⟩⟩⟩⟩⟩⟩⟩⟩⟩⟩⟩⟩⟩⟩⟩⟩⟩⟩⟩⟩⟩⟩⟩⟩⟩⟩ ⟨k (.tuple #[(.string { data := #[] }), (.int .i64 0)]) H⟩⟩⟩⟩⟩⟩⟩⟩⟩⟩⟩⟩⟩) := by
  kernel_rfl
theorem S102x0q (n0 : Nat) (s0 s1 s2 s3 s4 s5 s6 s7 s8 s9 s10 s11 s12 s13 s14 s15 s16 s17 s18 s19 s20 s21 s22 s23 s24 s25 s26 s27 s28 s29 s30 s31 s32 s33 s34 s35 s36 s37 s38 s39 s40 s41 s42 s43 s44 s45 s46 s47 s48 s49 s50 s51 s52
  s53 s54 s55 s56 s57 s58 s59 s60 s61 s62 s63 s64 s65 s66 s67 s68 s69 s70 s71 s72 s73 s74 : Value) (H : AHeap) (k : Value → AHeap → Prop) : S102x0 n0 k [s0, s1, s2, s3, s4, s5, s6, s7, s8, s9, s10, s11, s12, s13, s14, s15, s16,
  s17, s18, s19, s20, s21, s22, s23, s24, s25, s26, s27, s28, s29, s30, s31, s32, s33, s34, s35, s36, s37, s38, s39, s40, s41, s42, s43, s44, s45, s46, s47, s48, s49, s50, s51, s52, s53, s54, s55, s56, s57, s58, s59, s60, s61,
  s62, s63, s64, s65, s66, s67, s68, s69, s70, s71, s72, s73, s74] H = (@bnd (aIndex Tryz.prog 9 s0 s7) ⟨fun v73x46 => @bndC Tryz.prog 125 [s6, v73x46] H ⟨fun v74x47 H48 => @bnd (aBin2 Tryz.prog H48 .add 3 (.tmp 26) (.const (.int
  .i64 1)) s7 (.int .i64 1)) ⟨fun v27x49 => L102x0 n0  k [s0, s1, s2, s3, s4, s5, s6, v27x49, s8, s9, s10, s11, s12, s13, s14, s15, s16, s17, s18, s19, s20, s21, s22, s23, s24, s25, s7, v27x49, s28, s29, s30, s31, s32, s33, s34,
  s35, s36, s37, s38, s39, s40, s41, s42, s43, s44, s45, s46, s47, s48, s49, s50, s51, s52, s53, s54, s55, s56, s57, s58, s59, s60, s61, s62, s63, s64, s65, s66, s67, s68, s69, s70, s0, s7, v73x46, v74x47] H48⟩⟩⟩) := by kernel_rfl
-- tocsin/lex.sign
theorem d103 (a0 a1 : Value) (H : AHeap) (k : Value → AHeap → Prop) : kbody Tryz.prog Tryz.f103 [a0, a1] H k = (@bnd (aBin2 Tryz.prog H .add 3 (.tmp 5) (.const (.int .i64 1)) a1 (.int .i64 1)) ⟨fun v6x1 => @bnd (aLen Tryz.prog H
  9 a0) ⟨fun v8x2 => @bnd (aBin2 Tryz.prog H .lss 3 (.tmp 6) (.tmp 8) v6x1 v8x2) ⟨fun v9x3 => @bnd (gif v9x3 true ((some a0)) undef) ⟨fun v11x4 => @bnd (gif v9x3 true ((some a1)) undef) ⟨fun v12x5 => @bnd (gif v9x3 true (aBin2
  Tryz.prog H .add 3 (.tmp 12) (.const (.int .i64 1)) v12x5 (.int .i64 1)) undef) ⟨fun v13x6 => @bnd (gif v9x3 true (aIndex Tryz.prog 9 v11x4 v13x6) undef) ⟨fun v14x7 => @bnd (gif v9x3 true (aBin2 Tryz.prog H .eql 5 (.tmp 14)
  (.const (.int .u8 61)) v14x7 (.int .u8 61)) undef) ⟨fun v15x8 => @bnd (pickV v9x3 v15x8 (.bool false)) ⟨fun v16x9 => @bnd (gif v16x9 true ((some a0)) undef) ⟨fun v18x10 => @bnd (gif v16x9 true ((some a1)) undef) ⟨fun v19x11 =>
  @bnd (gif v16x9 true (aIndex Tryz.prog 9 v18x10 v19x11) undef) ⟨fun v20x12 => @bndG v16x9 true H ⟨fun v21x13 H14 => ACalls Tryz.prog 96 [(.string { data := #[60, 62, 61, 33, 94] }), v20x12] H v21x13 H14⟩ ⟨fun v21x13 H14 => @bnd
  (gif v16x9 true (aBin2 Tryz.prog H14 .geq 3 (.tmp 21) (.const (.int .i64 0)) v21x13 (.int .i64 0)) undef) ⟨fun v22x15 => @bnd (pickV v16x9 v22x15 (.bool false)) ⟨fun v23x16 => @kifB v23x16 ⟨k (.int .i64 2) H14⟩ ⟨@bnd (aIndex
  Tryz.prog 9 a0 a1) ⟨fun v26x17 => @bndC Tryz.prog 96 [(.string { data := #[123, 125, 40, 41, 91, 93, 44, 58, 59, 61, 60, 62, 45] }), v26x17] H14 ⟨fun v27x18 H19 => @bnd (aBin2 Tryz.prog H19 .geq 3 (.tmp 27) (.const (.int .i64
  0)) v27x18 (.int .i64 0)) ⟨fun v28x20 => @kifB v28x20 ⟨k (.int .i64 1) H19⟩ ⟨k (.int .i64 0) H19⟩⟩⟩⟩⟩⟩⟩⟩⟩⟩⟩⟩⟩⟩⟩⟩⟩⟩⟩⟩) := by kernel_rfl
-- (*tocsin/expr.reader).is
theorem d104 (a0 a1 a2 : Value) (H : AHeap) (k : Value → AHeap → Prop) : kbody Tryz.prog Tryz.f104 [a0, a1, a2] H k = (@bnd (nilV a0) ⟨fun v8x1 => @bnd (aFieldAddr Tryz.prog H 81 v8x1 2) ⟨fun v9x2 => @bnd (aLoad Tryz.prog H 4
  v9x2) ⟨fun v10x3 => @bnd (gif v10x3 true ((some a0)) undef) ⟨fun v12x4 => @bnd (gif v10x3 true (nilV v12x4) undef) ⟨fun v13x5 => @bnd (gif v10x3 true (aFieldAddr Tryz.prog H 81 v13x5 1) undef) ⟨fun v14x6 => @bnd (gif v10x3 true
  (aLoad Tryz.prog H 3 v14x6) undef) ⟨fun v15x7 => @bnd (gif v10x3 true ((some a0)) undef) ⟨fun v16x8 => @bnd (gif v10x3 true (nilV v16x8) undef) ⟨fun v17x9 => @bnd (gif v10x3 true (aFieldAddr Tryz.prog H 81 v17x9 0) undef) ⟨fun
  v18x10 => @bnd (gif v10x3 true (aLoad Tryz.prog H 23 v18x10) undef) ⟨fun v19x11 => @bnd (gif v10x3 true (aLen Tryz.prog H 23 v19x11) undef) ⟨fun v20x12 => @bnd (gif v10x3 true (aBin2 Tryz.prog H .lss 3 (.tmp 15) (.tmp 20) v15x7
  v20x12) undef) ⟨fun v21x13 => @bnd (pickV v10x3 v21x13 (.bool false)) ⟨fun v22x14 => @bnd (gif v22x14 true ((some a0)) undef) ⟨fun v24x15 => @bnd (gif v22x14 true (nilV v24x15) undef) ⟨fun v25x16 => @bnd (gif v22x14 true
  (aFieldAddr Tryz.prog H 81 v25x16 0) undef) ⟨fun v26x17 => @bnd (gif v22x14 true (aLoad Tryz.prog H 23 v26x17) undef) ⟨fun v27x18 => @bnd (gif v22x14 true ((some a0)) undef) ⟨fun v28x19 => @bnd (gif v22x14 true (nilV v28x19)
  undef) ⟨fun v29x20 => @bnd (gif v22x14 true (aFieldAddr Tryz.prog H 81 v29x20 1) undef) ⟨fun v30x21 => @bnd (gif v22x14 true (aLoad Tryz.prog H 3 v30x21) undef) ⟨fun v31x22 => @bnd (gif v22x14 true (aIndexAddr Tryz.prog H 23
  v27x18 v31x22) undef) ⟨fun v32x23 => @bnd (gif v22x14 true (aFieldAddr Tryz.prog H 70 v32x23 0) undef) ⟨fun v33x24 => @bnd (gif v22x14 true (aLoad Tryz.prog H 5 v33x24) undef) ⟨fun v34x25 => @bnd (gif v22x14 true ((some a1))
  undef) ⟨fun v35x26 => @bnd (gif v22x14 true (aBin2 Tryz.prog H .eql 5 (.tmp 34) (.tmp 35) v34x25 v35x26) undef) ⟨fun v36x27 => @bnd (pickV v22x14 v36x27 (.bool false)) ⟨fun v37x28 => @bnd (gif v37x28 true ((some a0)) undef)
  ⟨fun v39x29 => @bnd (gif v37x28 true (nilV v39x29) undef) ⟨fun v40x30 => @bnd (gif v37x28 true (aFieldAddr Tryz.prog H 81 v40x30 0) undef) ⟨fun v41x31 => @bnd (gif v37x28 true (aLoad Tryz.prog H 23 v41x31) undef) ⟨fun v42x32 =>
  @bnd (gif v37x28 true ((some a0)) undef) ⟨fun v43x33 => @bnd (gif v37x28 true (nilV v43x33) undef) ⟨fun v44x34 => @bnd (gif v37x28 true (aFieldAddr Tryz.prog H 81 v44x34 1) undef) ⟨fun v45x35 => @bnd (gif v37x28 true (aLoad
  Tryz.prog H 3 v45x35) undef) ⟨fun v46x36 => @bnd (gif v37x28 true (aIndexAddr Tryz.prog H 23 v42x32 v46x36) undef) ⟨fun v47x37 => @bnd (gif v37x28 true (aFieldAddr Tryz.prog H 70 v47x37 1) undef) ⟨fun v48x38 => @bnd (gif v37x28
  true (aLoad Tryz.prog H 9 v48x38) undef) ⟨fun v49x39 => @bnd (gif v37x28 true ((some a2)) undef) ⟨fun v50x40 => @bnd (gif v37x28 true (aBin2 Tryz.prog H .eql 9 (.tmp 49) (.tmp 50) v49x39 v50x40) undef) ⟨fun v51x41 => @bnd
  (pickV v37x28 v51x41 (.bool false)) ⟨fun v52x42 => k v52x42 H⟩⟩⟩⟩⟩⟩⟩⟩⟩⟩⟩⟩⟩⟩⟩⟩⟩⟩⟩⟩⟩⟩⟩⟩⟩⟩⟩⟩⟩⟩⟩⟩⟩⟩⟩⟩⟩⟩⟩⟩⟩⟩) := by kernel_rfl
-- (*tocsin/expr.reader).one
theorem d105 (a0 a1 a2 : Value) (H : AHeap) (k : Value → AHeap → Prop) : kbody Tryz.prog Tryz.f105 [a0, a1, a2] H k = (@bndC Tryz.prog 126 [a2] H ⟨fun v11x1 H2 => @bndC Tryz.prog 127 [a0, a1] H2 ⟨fun v14x3 H4 => @bnd (aLookup
  Tryz.prog H4 163 v11x1 v14x3 true) ⟨fun v15x5 => @bnd (tupV v15x5 0) ⟨fun v16x6 => @bnd (tupV v15x5 1) ⟨fun v17x7 => @bnd (nilV a0) ⟨fun v20x8 => @bnd (aFieldAddr Tryz.prog H4 81 v20x8 2) ⟨fun v21x9 => @bnd (aLoad Tryz.prog H4
  4 v21x9) ⟨fun v22x10 => @bnd (gif v22x10 true ((some v17x7)) undef) ⟨fun v24x11 => @bnd (pickV v22x10 v24x11 (.bool false)) ⟨fun v25x12 => @bnd (nilV a0) ⟨fun v26x13 => @bnd (aFieldAddr Tryz.prog H4 81 v26x13 2) ⟨fun v27x14 =>
  @bndS (aStore Tryz.prog H4 4 v27x14 v25x12) ⟨fun _ H16 => @bnd (convV Tryz.prog H16 3 5 v16x6) ⟨fun v29x17 => k v29x17 H16⟩⟩⟩⟩⟩⟩⟩⟩⟩⟩⟩⟩⟩⟩) := by kernel_rfl
-- (*tocsin/expr.reader).selects
def L106x0 (n : Nat) (k : Value → AHeap → Prop) (sl : List Value) (H : AHeap) : Prop := kit Tryz.prog (cl (cl (cr (cl (cr (cr (cr (cr (cb Tryz.f106))))))))) n (kblk 0 (kseq Tryz.prog (cr (cr (cr (cr (cr (cb Tryz.f106)))))) (kfin
  Tryz.prog Tryz.f106 k))) .normal sl H
theorem d106 (a0 : Value) (H : AHeap) (k : Value → AHeap → Prop) : kbody Tryz.prog Tryz.f106 [a0] H k = (@bndC Tryz.prog 69 [a0, (.string { data := #[123] })] H ⟨fun v6x1 H2 => @bndC Tryz.prog 68 [a0, (.int .u8 4), (.string {
  data := #[125] })] H2 ⟨fun v8x3 H4 => @kifB v8x3 ⟨k (.slice none 0 0) H4⟩ ⟨∃ n, L106x0 n  k [a0, undef, (.slice none 0 0), (.slice none 0 0), (.bool true), a0, v6x1, a0, v8x3, undef, undef, undef, undef, undef, undef, undef,
  undef, undef, undef, undef, undef, undef, undef, undef, undef, undef, undef, undef, undef, undef, undef, undef, undef, undef, undef, undef, undef, undef, undef, undef, undef, undef, undef] H4⟩⟩⟩) := by kernel_rfl
theorem L106x0q (n0 : Nat) (s0 s1 s2 s3 s4 s5 s6 s7 s8 s9 s10 s11 s12 s13 s14 s15 s16 s17 s18 s19 s20 s21 s22 s23 s24 s25 s26 s27 s28 s29 s30 s31 s32 s33 s34 s35 s36 s37 s38 s39 s40 s41 s42 : Value) (H : AHeap) (k : Value → AHeap
  → Prop) : L106x0 (n0 + 1) k [s0, s1, s2, s3, s4, s5, s6, s7, s8, s9, s10, s11, s12, s13, s14, s15, s16, s17, s18, s19, s20, s21, s22, s23, s24, s25, s26, s27, s28, s29, s30, s31, s32, s33, s34, s35, s36, s37, s38, s39, s40,
  s41, s42] H = (@bnd (gif s4 true ((some s0)) undef) ⟨fun v11x5 => @bnd (gif s4 true (nilV v11x5) undef) ⟨fun v12x6 => @bnd (gif s4 true (aFieldAddr Tryz.prog H 81 v12x6 2) undef) ⟨fun v13x7 => @bnd (gif s4 true (aLoad Tryz.prog
  H 4 v13x7) undef) ⟨fun v14x8 => @bnd (pickV s4 v14x8 (.bool false)) ⟨fun v15x9 => @kifB v15x9 ⟨@bndC Tryz.prog 127 [s0, (.int .u8 1)] H ⟨fun v20x10 H11 => @bndC Tryz.prog 128 [] H11 ⟨fun v22x12 H13 => @bndC Tryz.prog 105 [s0,
  (.int .u8 4), v22x12] H13 ⟨fun v23x14 H15 => @bndC Tryz.prog 127 [s0, (.int .u8 3)] H15 ⟨fun v25x16 H17 => @bnd (buildV Tryz.prog 75 [(0, v20x10), (1, v23x14), (2, v25x16)]) ⟨fun v26x18 => @bndL Tryz.prog H17 35 1 [(0, v26x18)]
  ⟨fun v27x19 H20 => @bndE (aBuiltin Tryz.prog H20 Builtin.append #[35, 35] [s3, v27x19]) ⟨fun v28x21 H22 => @bndC Tryz.prog 68 [s0, (.int .u8 4), (.string { data := #[44] })] H22 ⟨fun v17x23 H24 => L106x0 n0  k [s0, s1, s2,
  v28x21, v17x23, s5, s6, s7, s8, s4, s4, v11x5, v12x6, v13x7, v14x8, v15x9, s0, v17x23, s3, s0, v20x10, s0, v22x12, v23x14, s0, v25x16, v26x18, v27x19, v28x21, s29, s30, s31, s32, s33, s34, s35, s36, s37, s38, s39, s40, s41,
  s42] H24⟩⟩⟩⟩⟩⟩⟩⟩⟩ ⟨@bndC Tryz.prog 69 [s0, (.string { data := #[125] })] H ⟨fun _ H26 => @bnd (nilV s0) ⟨fun v33x27 => @bnd (aFieldAddr Tryz.prog H26 81 v33x27 2) ⟨fun v34x28 => @bnd (aLoad Tryz.prog H26 4 v34x28) ⟨fun v35x29
  => @bnd (gif v35x29 true ((some s3)) undef) ⟨fun v37x30 => @bndG v35x29 true H26 ⟨fun v38x31 H32 => ACalls Tryz.prog 115 [v37x30] H26 v38x31 H32⟩ ⟨fun v38x31 H32 => @bnd (pickV v35x29 v38x31 (.bool false)) ⟨fun v39x33 => @bnd
  (nilV s0) ⟨fun v40x34 => @bnd (aFieldAddr Tryz.prog H32 81 v40x34 2) ⟨fun v41x35 => @bndS (aStore Tryz.prog H32 4 v41x35 v39x33) ⟨fun _ H37 => k s3 H37⟩⟩⟩⟩⟩⟩⟩⟩⟩⟩⟩⟩⟩⟩⟩⟩) := by kernel_rfl
-- (*tocsin/expr.reader).window
theorem d107 (a0 : Value) (H : AHeap) (k : Value → AHeap → Prop) : kbody Tryz.prog Tryz.f107 [a0] H k = (@bndC Tryz.prog 127 [a0, (.int .u8 2)] H ⟨fun v7x1 H2 => @bndC Tryz.prog 129 [v7x1] H2 ⟨fun v8x3 H4 => @bnd (tupV v8x3 0)
  ⟨fun v9x5 => @bnd (tupV v8x3 1) ⟨fun v10x6 => @bnd (nilV a0) ⟨fun v13x7 => @bnd (aFieldAddr Tryz.prog H4 81 v13x7 2) ⟨fun v14x8 => @bnd (aLoad Tryz.prog H4 4 v14x8) ⟨fun v15x9 => @bnd (gif v15x9 true ((some v10x6)) undef) ⟨fun
  v17x10 => @bnd (gif v15x9 true (aBin2 Tryz.prog H4 .eql 118 (.tmp 17) (.const .nilIface) v17x10 .nilIface) undef) ⟨fun v18x11 => @bnd (pickV v15x9 v18x11 (.bool false)) ⟨fun v19x12 => @bnd (gif v19x12 true ((some v9x5)) undef)
  ⟨fun v21x13 => @bnd (gif v19x12 true (aBin2 Tryz.prog H4 .geq 3 (.tmp 21) (.const (.int .i64 1)) v21x13 (.int .i64 1)) undef) ⟨fun v22x14 => @bnd (pickV v19x12 v22x14 (.bool false)) ⟨fun v23x15 => @bnd (gif v23x15 true ((some
  v9x5)) undef) ⟨fun v25x16 => @bnd (gif v23x15 true (aBin2 Tryz.prog H4 .leq 3 (.tmp 25) (.const (.int .i64 1000)) v25x16 (.int .i64 1000)) undef) ⟨fun v26x17 => @bnd (pickV v23x15 v26x17 (.bool false)) ⟨fun v27x18 => @bnd (nilV
  a0) ⟨fun v28x19 => @bnd (aFieldAddr Tryz.prog H4 81 v28x19 2) ⟨fun v29x20 => @bndS (aStore Tryz.prog H4 4 v29x20 v27x18) ⟨fun _ H22 => k v9x5 H22⟩⟩⟩⟩⟩⟩⟩⟩⟩⟩⟩⟩⟩⟩⟩⟩⟩⟩⟩) := by kernel_rfl
-- (*tocsin/expr.reader).value
def S108x0 (k : Value → AHeap → Prop) (sl : List Value) (H : AHeap) : Prop := kseq Tryz.prog (cr (cr (cr (cb Tryz.f108)))) (kfin Tryz.prog Tryz.f108 k) .normal sl H
theorem d108 (a0 : Value) (H : AHeap) (k : Value → AHeap → Prop) : kbody Tryz.prog Tryz.f108 [a0] H k = (@bndC Tryz.prog 68 [a0, (.int .u8 4), (.string { data := #[45] })] H ⟨fun v7x1 H2 => @kifB v7x1 ⟨S108x0  k [a0, undef, (.int
  .i64 0), (.string { data := #[45] }), undef, undef, a0, v7x1, undef, undef, undef, undef, undef, undef, undef, undef, undef, undef, undef, undef, undef, undef, undef, undef, undef, undef, undef, undef] H2⟩ ⟨S108x0  k [a0,
  undef, (.int .i64 0), (.string { data := #[] }), undef, undef, a0, v7x1, undef, undef, undef, undef, undef, undef, undef, undef, undef, undef, undef, undef, undef, undef, undef, undef, undef, undef, undef, undef] H2⟩⟩) := by
  kernel_rfl
theorem S108x0q (s0 s1 s2 s3 s4 s5 s6 s7 s8 s9 s10 s11 s12 s13 s14 s15 s16 s17 s18 s19 s20 s21 s22 s23 s24 s25 s26 s27 : Value) (H : AHeap) (k : Value → AHeap → Prop) : S108x0 k [s0, s1, s2, s3, s4, s5, s6, s7, s8, s9, s10, s11,
  s12, s13, s14, s15, s16, s17, s18, s19, s20, s21, s22, s23, s24, s25, s26, s27] H = (@bndC Tryz.prog 127 [s0, (.int .u8 2)] H ⟨fun v11x3 H4 => @bnd (aBin2 Tryz.prog H4 .add 9 (.tmp 9) (.tmp 11) s3 v11x3) ⟨fun v12x5 => @bndC
  Tryz.prog 130 [v12x5] H4 ⟨fun v13x6 H7 => @bnd (tupV v13x6 0) ⟨fun v14x8 => @bnd (tupV v13x6 1) ⟨fun v15x9 => @bnd (nilV s0) ⟨fun v18x10 => @bnd (aFieldAddr Tryz.prog H7 81 v18x10 2) ⟨fun v19x11 => @bnd (aLoad Tryz.prog H7 4
  v19x11) ⟨fun v20x12 => @bnd (gif v20x12 true ((some v15x9)) undef) ⟨fun v22x13 => @bnd (gif v20x12 true (aBin2 Tryz.prog H7 .eql 24 (.tmp 22) (.const (.int .i64 0)) v22x13 (.int .i64 0)) undef) ⟨fun v23x14 => @bnd (pickV v20x12
  v23x14 (.bool false)) ⟨fun v24x15 => @bnd (nilV s0) ⟨fun v25x16 => @bnd (aFieldAddr Tryz.prog H7 81 v25x16 2) ⟨fun v26x17 => @bndS (aStore Tryz.prog H7 4 v26x17 v24x15) ⟨fun _ H19 => k v14x8 H19⟩⟩⟩⟩⟩⟩⟩⟩⟩⟩⟩⟩⟩⟩) := by kernel_rfl
-- tocsin/match.ops
theorem d109 (H : AHeap) (k : Value → AHeap → Prop) : kbody Tryz.prog Tryz.f109 [] H k = (@bndE (some (Value.map (some H.length), H ++ [AObj.map []])) ⟨fun v1x1 H2 => @bnd (buildV Tryz.prog 150 [(0, (.string { data := #[61] })),
  (1, (.func (.func 131) #[] #[]))]) ⟨fun v2x3 => @bndS (aUpdate Tryz.prog H2 146 v1x1 (.int .u8 0) v2x3) ⟨fun _ H5 => @bnd (buildV Tryz.prog 150 [(0, (.string { data := #[33, 61] })), (1, (.func (.func 132) #[] #[]))]) ⟨fun v3x6
  => @bndS (aUpdate Tryz.prog H5 146 v1x1 (.int .u8 1) v3x6) ⟨fun _ H8 => @bnd (buildV Tryz.prog 150 [(0, (.string { data := #[94, 61] })), (1, (.func (.func 133) #[] #[]))]) ⟨fun v4x9 => @bndS (aUpdate Tryz.prog H8 146 v1x1
  (.int .u8 2) v4x9) ⟨fun _ H11 => k v1x1 H11⟩⟩⟩⟩⟩⟩⟩) := by kernel_rfl
-- tocsin/match.joined
def L115x0 (n : Nat) (k : Value → AHeap → Prop) (sl : List Value) (H : AHeap) : Prop := kit Tryz.prog (cl (cl (cr (cl (cr (cr (cb Tryz.f115))))))) n (kblk 0 (kseq Tryz.prog (cr (cr (cr (cb Tryz.f115)))) (kfin Tryz.prog Tryz.f115
  k))) .normal sl H
theorem d115 (a0 : Value) (H : AHeap) (k : Value → AHeap → Prop) : kbody Tryz.prog Tryz.f115 [a0] H k = (@bndC Tryz.prog 109 [] H ⟨fun v8x1 H2 => @bnd (aLen Tryz.prog H2 35 a0) ⟨fun v10x3 => ∃ n, L115x0 n  k [a0, undef, (.bool
  false), v8x1, undef, undef, undef, undef, v8x1, a0, v10x3, (.int .i64 0), undef, undef, undef, undef, undef, undef, undef, undef, undef, undef, undef, undef, undef, undef, undef, undef, undef, undef, undef, undef, undef, undef,
  undef, undef, undef, undef, undef, undef] H2⟩⟩) := by kernel_rfl
theorem L115x0q (n0 : Nat) (s0 s1 s2 s3 s4 s5 s6 s7 s8 s9 s10 s11 s12 s13 s14 s15 s16 s17 s18 s19 s20 s21 s22 s23 s24 s25 s26 s27 s28 s29 s30 s31 s32 s33 s34 s35 s36 s37 s38 s39 : Value) (H : AHeap) (k : Value → AHeap → Prop) :
  L115x0 (n0 + 1) k [s0, s1, s2, s3, s4, s5, s6, s7, s8, s9, s10, s11, s12, s13, s14, s15, s16, s17, s18, s19, s20, s21, s22, s23, s24, s25, s26, s27, s28, s29, s30, s31, s32, s33, s34, s35, s36, s37, s38, s39] H = (@bnd (aBin2
  Tryz.prog H .lss 3 (.tmp 11) (.tmp 10) s11 s10) ⟨fun v12x4 => @kifB v12x4 ⟨@bnd (aIndexAddr Tryz.prog H 35 s9 s11) ⟨fun v13x5 => @bnd (aLoad Tryz.prog H 75 v13x5) ⟨fun v14x6 => @bndE (aAlloc Tryz.prog H 75) ⟨fun v5x7 H8 =>
  @bndS (aStore Tryz.prog H8 75 v5x7 v14x6) ⟨fun _ H10 => @bnd (aFieldAddr Tryz.prog H10 75 v5x7 1) ⟨fun v17x11 => @bnd (aLoad Tryz.prog H10 5 v17x11) ⟨fun v18x12 => @bnd (aLookup Tryz.prog H10 146 s3 v18x12 true) ⟨fun v19x13 =>
  @bnd (tupV v19x13 0) ⟨fun v20x14 => @bnd (tupV v19x13 1) ⟨fun v21x15 => @bndE (aAlloc Tryz.prog H10 150) ⟨fun v6x16 H17 => @bndS (aStore Tryz.prog H17 150 v6x16 v20x14) ⟨fun _ H19 => @bnd (unV Tryz.prog .not v21x15) ⟨fun v23x20
  => @bnd (gif v23x20 false (aFieldAddr Tryz.prog H19 75 v5x7 0) undef) ⟨fun v25x21 => @bnd (gif v23x20 false (aLoad Tryz.prog H19 9 v25x21) undef) ⟨fun v26x22 => @bndG v23x20 false H19 ⟨fun v27x23 H24 => ACalls Tryz.prog 138
  [v26x22] H19 v27x23 H24⟩ ⟨fun v27x23 H24 => @bnd (gif v23x20 false (unV Tryz.prog .not v27x23) undef) ⟨fun v28x25 => @bnd (pickV v23x20 (.bool true) v28x25) ⟨fun v29x26 => @bnd (gif v29x26 false (aFieldAddr Tryz.prog H24 75
  v5x7 2) undef) ⟨fun v31x27 => @bnd (gif v29x26 false (aLoad Tryz.prog H24 9 v31x27) undef) ⟨fun v32x28 => @bndG v29x26 false H24 ⟨fun v33x29 H30 => ACalls Tryz.prog 139 [v32x28] H24 v33x29 H30⟩ ⟨fun v33x29 H30 => @bnd (gif
  v29x26 false (unV Tryz.prog .not v33x29) undef) ⟨fun v34x31 => @bnd (pickV v29x26 (.bool true) v34x31) ⟨fun v35x32 => @kifB v35x32 ⟨k (.bool false) H30⟩ ⟨@bnd (aBin2 Tryz.prog H30 .add 3 (.tmp 11) (.const (.int .i64 1)) s11
  (.int .i64 1)) ⟨fun v36x33 => L115x0 n0  k [s0, s1, s2, s3, s4, v5x7, v6x16, v21x15, s8, s9, s10, v36x33, v12x4, v13x5, v14x6, v19x13, s3, v17x11, v18x12, v19x13, v20x14, v21x15, v21x15, v23x20, v23x20, v25x21, v26x22, v27x23,
  v28x25, v29x26, v29x26, v31x27, v32x28, v33x29, v34x31, v35x32, v36x33, s37, s38, s39] H30⟩⟩⟩⟩⟩⟩⟩⟩⟩⟩⟩⟩⟩⟩⟩⟩⟩⟩⟩⟩⟩⟩⟩⟩⟩ ⟨@bnd (aLen Tryz.prog H 35 s0) ⟨fun v38x34 => @bnd (aBin2 Tryz.prog H .leq 3 (.tmp 38) (.const (.int .i64 6))
  v38x34 (.int .i64 6)) ⟨fun v39x35 => k v39x35 H⟩⟩⟩⟩) := by kernel_rfl

end Go.Vi
namespace Go.Vi
open Go Go.Proofs
-- (*strings.Builder).copyCheck
theorem d116 (a0 : Value) (H : AHeap) (k : Value → AHeap → Prop) : kbody Tryz.prog Tryz.f116 [a0] H k = (@bnd (nilV a0) ⟨fun v3x1 => @bnd (aFieldAddr Tryz.prog H 116 v3x1 0) ⟨fun v4x2 => @bnd (aLoad Tryz.prog H 114 v4x2) ⟨fun
  v5x3 => @bnd (aBin2 Tryz.prog H .eql 114 (.tmp 5) (.const (.pointer none)) v5x3 (.pointer none)) ⟨fun v6x4 => @kifB v6x4 ⟨@bnd (convV Tryz.prog H 114 174 a0) ⟨fun v9x5 => @bndC Tryz.prog 140 [v9x5] H ⟨fun v10x6 H7 => @bnd
  (convV Tryz.prog H7 174 114 v10x6) ⟨fun v11x8 => @bnd (nilV a0) ⟨fun v12x9 => @bnd (aFieldAddr Tryz.prog H7 116 v12x9 0) ⟨fun v13x10 => @bndS (aStore Tryz.prog H7 114 v13x10 v11x8) ⟨fun _ H12 => k (.tuple #[]) H12⟩⟩⟩⟩⟩⟩⟩ ⟨@bnd
  (nilV a0) ⟨fun v15x13 => @bnd (aFieldAddr Tryz.prog H 116 v15x13 0) ⟨fun v16x14 => @bnd (aLoad Tryz.prog H 114 v16x14) ⟨fun v17x15 => @bnd (aBin2 Tryz.prog H .neq 114 (.tmp 17) (.tmp 18) v17x15 a0) ⟨fun v19x16 => @kifB v19x16
  ⟨False⟩ ⟨k (.tuple #[]) H⟩⟩⟩⟩⟩⟩⟩⟩⟩⟩) := by kernel_rfl
-- (*strings.Builder).grow
def L120x0 (n : Nat) (k : Value → AHeap → Prop) (sl : List Value) (H : AHeap) : Prop := kit Tryz.prog (cl (cl (cr (cl (cr (cb Tryz.f120)))))) n (kblk 0 (kseq Tryz.prog (cr (cr (cb Tryz.f120))) (kfin Tryz.prog Tryz.f120 k)))
  .normal sl H
theorem d120 (a0 : Value) (H : AHeap) (k : Value → AHeap → Prop) : kbody Tryz.prog Tryz.f120 [a0] H k = (∃ n, L120x0 n  k [a0, undef, (.bool false), (.int .i64 0), undef, undef, undef, undef, undef, undef, undef, undef, undef,
  undef, undef, undef, undef, undef, undef, undef, undef, undef, undef, undef, undef, undef, undef, undef, undef, undef] H) := by kernel_rfl
theorem L120x0q (n0 : Nat) (s0 s1 s2 s3 s4 s5 s6 s7 s8 s9 s10 s11 s12 s13 s14 s15 s16 s17 s18 s19 s20 s21 s22 s23 s24 s25 s26 s27 s28 s29 : Value) (H : AHeap) (k : Value → AHeap → Prop) : L120x0 (n0 + 1) k [s0, s1, s2, s3, s4,
  s5, s6, s7, s8, s9, s10, s11, s12, s13, s14, s15, s16, s17, s18, s19, s20, s21, s22, s23, s24, s25, s26, s27, s28, s29] H = (@bnd (aLen Tryz.prog H 9 s0) ⟨fun v6x1 => @bnd (aBin2 Tryz.prog H .lss 3 (.tmp 4) (.tmp 6) s3 v6x1)
  ⟨fun v7x2 => @kifB v7x2 ⟨@bnd (aBin2 Tryz.prog H .add 3 (.tmp 12) (.const (.int .i64 1)) s3 (.int .i64 1)) ⟨fun v13x3 => @bnd (aSliceOp Tryz.prog H 9 s0 (some s3) (some v13x3)) ⟨fun v14x4 => @bnd (aBin2 Tryz.prog H .add 9
  (.const (.string { data := #[97] })) (.tmp 14) (.string { data := #[97] }) v14x4) ⟨fun v15x5 => @bndC Tryz.prog 146 [v15x5] H ⟨fun v16x6 H7 => @bnd (unV Tryz.prog .not v16x6) ⟨fun v17x8 => @kifB v17x8 ⟨k (.bool false) H7⟩ ⟨@bnd
  (aBin2 Tryz.prog H7 .add 3 (.tmp 8) (.const (.int .i64 1)) s3 (.int .i64 1)) ⟨fun v9x9 => L120x0 n0  k [s0, s1, s2, v9x9, s3, s0, v6x1, v7x2, s3, v9x9, s0, s3, s3, v13x3, v14x4, v15x5, v16x6, v17x8, s18, s19, s20, s21, s22,
  s23, s24, s25, s26, s27, s28, s29] H7⟩⟩⟩⟩⟩⟩⟩⟩ ⟨@bnd (aBin2 Tryz.prog H .neq 9 (.tmp 18) (.const (.string { data := #[] })) s0 (.string { data := #[] })) ⟨fun v19x10 => @bnd (gif v19x10 true ((some s0)) undef) ⟨fun v21x11 =>
  @bnd (gif v19x10 true (aIndex Tryz.prog 9 v21x11 (.int .i64 0)) undef) ⟨fun v22x12 => @bnd (gif v19x10 true (aBin2 Tryz.prog H .geq 5 (.tmp 22) (.const (.int .u8 97)) v22x12 (.int .u8 97)) undef) ⟨fun v23x13 => @bnd (pickV
  v19x10 v23x13 (.bool false)) ⟨fun v24x14 => @bnd (gif v24x14 true ((some s0)) undef) ⟨fun v26x15 => @bnd (gif v24x14 true (aIndex Tryz.prog 9 v26x15 (.int .i64 0)) undef) ⟨fun v27x16 => @bnd (gif v24x14 true (aBin2 Tryz.prog H
  .leq 5 (.tmp 27) (.const (.int .u8 122)) v27x16 (.int .u8 122)) undef) ⟨fun v28x17 => @bnd (pickV v24x14 v28x17 (.bool false)) ⟨fun v29x18 => k v29x18 H⟩⟩⟩⟩⟩⟩⟩⟩⟩⟩⟩⟩) := by kernel_rfl
-- tocsin/tocsinref09.number
def L121x0 (n : Nat) (k : Value → AHeap → Prop) (sl : List Value) (H : AHeap) : Prop := kit Tryz.prog (cl (cl (cr (cl (cr (cb Tryz.f121)))))) n (kblk 0 (kseq Tryz.prog (cr (cr (cb Tryz.f121))) (kfin Tryz.prog Tryz.f121 k)))
  .normal sl H
theorem d121 (a0 : Value) (H : AHeap) (k : Value → AHeap → Prop) : kbody Tryz.prog Tryz.f121 [a0] H k = (∃ n, L121x0 n  k [a0, undef, (.bool false), (.int .i64 0), undef, undef, undef, undef, undef, undef, undef, undef, undef,
  undef, undef, undef, undef, undef, undef, undef, undef, undef, undef, undef, undef, undef, undef] H) := by kernel_rfl
theorem L121x0q (n0 : Nat) (s0 s1 s2 s3 s4 s5 s6 s7 s8 s9 s10 s11 s12 s13 s14 s15 s16 s17 s18 s19 s20 s21 s22 s23 s24 s25 s26 : Value) (H : AHeap) (k : Value → AHeap → Prop) : L121x0 (n0 + 1) k [s0, s1, s2, s3, s4, s5, s6, s7,
  s8, s9, s10, s11, s12, s13, s14, s15, s16, s17, s18, s19, s20, s21, s22, s23, s24, s25, s26] H = (@bnd (aLen Tryz.prog H 9 s0) ⟨fun v6x1 => @bnd (aBin2 Tryz.prog H .lss 3 (.tmp 4) (.tmp 6) s3 v6x1) ⟨fun v7x2 => @kifB v7x2 ⟨@bnd
  (aIndex Tryz.prog 9 s0 s3) ⟨fun v12x3 => @bnd (aBin2 Tryz.prog H .eql 5 (.tmp 12) (.const (.int .u8 46)) v12x3 (.int .u8 46)) ⟨fun v13x4 => @kifB v13x4 ⟨@bnd (aSliceOp Tryz.prog H 9 s0 none (some s3)) ⟨fun v16x5 => @bndC
  Tryz.prog 147 [v16x5] H ⟨fun v17x6 H7 => @bnd (gif v17x6 true ((some s0)) undef) ⟨fun v19x8 => @bnd (gif v17x6 true ((some s3)) undef) ⟨fun v20x9 => @bnd (gif v17x6 true (aBin2 Tryz.prog H7 .add 3 (.tmp 20) (.const (.int .i64
  1)) v20x9 (.int .i64 1)) undef) ⟨fun v21x10 => @bnd (gif v17x6 true (aSliceOp Tryz.prog H7 9 v19x8 (some v21x10) none) undef) ⟨fun v22x11 => @bndG v17x6 true H7 ⟨fun v23x12 H13 => ACalls Tryz.prog 147 [v22x11] H7 v23x12 H13⟩
  ⟨fun v23x12 H13 => @bnd (pickV v17x6 v23x12 (.bool false)) ⟨fun v24x14 => k v24x14 H13⟩⟩⟩⟩⟩⟩⟩⟩⟩ ⟨@bnd (aBin2 Tryz.prog H .add 3 (.tmp 8) (.const (.int .i64 1)) s3 (.int .i64 1)) ⟨fun v9x15 => L121x0 n0  k [s0, s1, s2, v9x15,
  s3, s0, v6x1, v7x2, s3, v9x15, s0, s3, v12x3, v13x4, s14, s15, s16, s17, s18, s19, s20, s21, s22, s23, s24, s25, s26] H⟩⟩⟩⟩⟩ ⟨@bndC Tryz.prog 147 [s0] H ⟨fun v26x16 H17 => k v26x16 H17⟩⟩⟩⟩) := by kernel_rfl
-- tocsin/tocsinref09.sign
def L122x0 (n : Nat) (k : Value → AHeap → Prop) (sl : List Value) (H : AHeap) : Prop := kit Tryz.prog (cl (cl (cr (cl (cr (cr (cb Tryz.f122))))))) n (kblk 0 (kseq Tryz.prog (cr (cr (cr (cb Tryz.f122)))) (kfin Tryz.prog Tryz.f122
  k))) .normal sl H
theorem d122 (a0 : Value) (H : AHeap) (k : Value → AHeap → Prop) : kbody Tryz.prog Tryz.f122 [a0] H k = (@bndL Tryz.prog H 42 18 [(0, (.string { data := #[60, 61] })), (1, (.string { data := #[62, 61] })), (2, (.string { data :=
  #[61, 61] })), (3, (.string { data := #[33, 61] })), (4, (.string { data := #[94, 61] })), (5, (.string { data := #[123] })), (6, (.string { data := #[125] })), (7, (.string { data := #[40] })), (8, (.string { data := #[41]
  })), (9, (.string { data := #[91] })), (10, (.string { data := #[93] })), (11, (.string { data := #[44] })), (12, (.string { data := #[58] })), (13, (.string { data := #[59] })), (14, (.string { data := #[61] })), (15, (.string
  { data := #[60] })), (16, (.string { data := #[62] })), (17, (.string { data := #[45] }))] ⟨fun v5x1 H2 => ∃ n, L122x0 n  k [a0, undef, (.bool false), v5x1, (.int .i64 0), v5x1, undef, undef, undef, undef, undef, undef, undef,
  undef, undef, undef, undef, undef] H2⟩) := by kernel_rfl
theorem L122x0q (n0 : Nat) (s0 s1 s2 s3 s4 s5 s6 s7 s8 s9 s10 s11 s12 s13 s14 s15 s16 s17 : Value) (H : AHeap) (k : Value → AHeap → Prop) : L122x0 (n0 + 1) k [s0, s1, s2, s3, s4, s5, s6, s7, s8, s9, s10, s11, s12, s13, s14, s15,
  s16, s17] H = (@bnd (aLen Tryz.prog H 42 s3) ⟨fun v8x3 => @bnd (aBin2 Tryz.prog H .lss 3 (.tmp 6) (.tmp 8) s4 v8x3) ⟨fun v9x4 => @kifB v9x4 ⟨@bnd (aIndexAddr Tryz.prog H 42 s3 s4) ⟨fun v14x5 => @bnd (aLoad Tryz.prog H 9 v14x5)
  ⟨fun v15x6 => @bnd (aBin2 Tryz.prog H .eql 9 (.tmp 15) (.tmp 16) v15x6 s0) ⟨fun v17x7 => @kifB v17x7 ⟨k (.bool true) H⟩ ⟨@bnd (aBin2 Tryz.prog H .add 3 (.tmp 10) (.const (.int .i64 1)) s4 (.int .i64 1)) ⟨fun v11x8 => L122x0 n0 
  k [s0, s1, s2, s3, v11x8, s5, s4, s3, v8x3, v9x4, s4, v11x8, s3, s4, v14x5, v15x6, s0, v17x7] H⟩⟩⟩⟩⟩⟩ ⟨k (.bool false) H⟩⟩⟩) := by kernel_rfl
-- tocsin/tocsinref10.comparison
def L123x0 (n : Nat) (k : Value → AHeap → Prop) (sl : List Value) (H : AHeap) : Prop := kit Tryz.prog (cl (cl (cl (cr (cr (cr (cb Tryz.f123))))))) n (kblk 0 (kseq Tryz.prog (cr (cr (cr (cr (cb Tryz.f123))))) (kfin Tryz.prog
  Tryz.f123 k))) .normal sl H
def S123x0 (k : Value → AHeap → Prop) (sl : List Value) (H : AHeap) : Prop := kseq Tryz.prog (cr (cr (cr (cr (cr (cr (cr (cr (cb Tryz.f123))))))))) (kfin Tryz.prog Tryz.f123 k) .normal sl H
def L123x1 (n : Nat) (k : Value → AHeap → Prop) (sl : List Value) (H : AHeap) : Prop := kit Tryz.prog (cl (cl (cr (cr (cl (cr (cr (cr (cr (cr (cr (cr (cb Tryz.f123))))))))))))) n (kblk 2 (kseq Tryz.prog (cr (cr (cr (cr (cr (cr
  (cr (cr (cb Tryz.f123))))))))) (kfin Tryz.prog Tryz.f123 k))) .normal sl H
def L123x2 (n : Nat) (k : Value → AHeap → Prop) (sl : List Value) (H : AHeap) : Prop := kit Tryz.prog (cl (cl (cl (cr (cr (cr (cr (cr (cr (cr (cr (cr (cr (cr (cr (cb Tryz.f123)))))))))))))))) n (kblk 4 (kseq Tryz.prog (cr (cr (cr
  (cr (cr (cr (cr (cr (cr (cr (cr (cr (cr (cb Tryz.f123)))))))))))))) (kfin Tryz.prog Tryz.f123 k))) .normal sl H
def S123x1 (k : Value → AHeap → Prop) (sl : List Value) (H : AHeap) : Prop := kseq Tryz.prog (cr (cr (cr (cr (cr (cr (cr (cr (cr (cr (cr (cr (cr (cr (cr (cr (cr (cr (cb Tryz.f123))))))))))))))))))) (kfin Tryz.prog Tryz.f123 k)
  .normal sl H
def B123x0 (n1 : Nat) (k : Value → AHeap → Prop) (sl : List Value) (H : AHeap) : Prop := (kseq Tryz.prog (cr (cr (cr (cr (cr (cl (cl (cl (cr (cr (cl (cr (cr (cr (cr (cr (cr (cr (cb Tryz.f123))))))))))))))))))) (kblk 3 (kit
  Tryz.prog (cl (cl (cr (cr (cl (cr (cr (cr (cr (cr (cr (cr (cb Tryz.f123))))))))))))) n1 (kblk 2 (kseq Tryz.prog (cr (cr (cr (cr (cr (cr (cr (cr (cb Tryz.f123))))))))) (kfin Tryz.prog Tryz.f123 k)))))) (.exit 2) sl H
theorem B123x0q (n1 : Nat) (sl : List Value) (H : AHeap) (k : Value → AHeap → Prop) : B123x0 n1 k sl H = S123x0  k sl H := by kernel_rfl
theorem d123 (a0 a1 : Value) (H : AHeap) (k : Value → AHeap → Prop) : kbody Tryz.prog Tryz.f123 [a0, a1] H k = (@bnd (buildV Tryz.prog 37 [(0, (.int .u8 0))]) ⟨fun v13x1 => @bndE (aAlloc Tryz.prog H 37) ⟨fun v6x2 H3 => @bndS
  (aStore Tryz.prog H3 37 v6x2 v13x1) ⟨fun _ H5 => ∃ n, L123x0 n  k [a0, a1, undef, undef, (.slice none 0 0), (.int .i64 0), v6x2, (.int .i64 0), undef, undef, undef, undef, undef, v13x1, undef, undef, undef, undef, undef, undef,
  undef, undef, undef, undef, undef, undef, undef, undef, undef, undef, undef, undef, undef, undef, undef, undef, undef, undef, undef, undef, undef, undef, undef, undef, undef, undef, undef, undef, undef, undef, undef, undef,
  undef, undef, undef, undef, undef, undef, undef, undef, undef, undef, undef, undef, undef, undef, undef, undef, undef, undef, undef, undef, undef, undef, undef, undef, undef, undef, undef, undef, undef, undef, undef, undef,
  undef, undef, undef, undef, undef, undef, undef, undef, undef, undef, undef, undef, undef, undef, undef, undef, undef, undef, undef, undef, undef, undef, undef, undef, undef, undef, undef, undef, undef, undef, undef, undef,
  undef, undef, undef, undef, undef, undef, undef, undef, undef, undef, undef, undef, undef, undef, undef, undef, undef, undef, undef, undef, undef, undef, undef, undef, undef, undef, undef, undef, undef, undef, undef, undef,
  undef, undef, undef, undef, undef, undef, undef, undef, undef, undef, undef, undef, undef, undef, undef, undef, undef, undef, undef, undef] H5⟩⟩⟩) := by kernel_rfl
theorem L123x0q (n0 : Nat) (s0 s1 s2 s3 s4 s5 s6 s7 s8 s9 s10 s11 s12 s13 s14 s15 s16 s17 s18 s19 s20 s21 s22 s23 s24 s25 s26 s27 s28 s29 s30 s31 s32 s33 s34 s35 s36 s37 s38 s39 s40 s41 s42 s43 s44 s45 s46 s47 s48 s49 s50 s51 s52
  s53 s54 s55 s56 s57 s58 s59 s60 s61 s62 s63 s64 s65 s66 s67 s68 s69 s70 s71 s72 s73 s74 s75 s76 s77 s78 s79 s80 s81 s82 s83 s84 s85 s86 s87 s88 s89 s90 s91 s92 s93 s94 s95 s96 s97 s98 s99 s100 s101 s102 s103 s104 s105 s106 s107
  s108 s109 s110 s111 s112 s113 s114 s115 s116 s117 s118 s119 s120 s121 s122 s123 s124 s125 s126 s127 s128 s129 s130 s131 s132 s133 s134 s135 s136 s137 s138 s139 s140 s141 s142 s143 s144 s145 s146 s147 s148 s149 s150 s151 s152
  s153 s154 s155 s156 s157 s158 s159 s160 s161 s162 s163 s164 s165 s166 s167 : Value) (H : AHeap) (k : Value → AHeap → Prop) : L123x0 (n0 + 1) k [s0, s1, s2, s3, s4, s5, s6, s7, s8, s9, s10, s11, s12, s13, s14, s15, s16, s17,
  s18, s19, s20, s21, s22, s23, s24, s25, s26, s27, s28, s29, s30, s31, s32, s33, s34, s35, s36, s37, s38, s39, s40, s41, s42, s43, s44, s45, s46, s47, s48, s49, s50, s51, s52, s53, s54, s55, s56, s57, s58, s59, s60, s61, s62,
  s63, s64, s65, s66, s67, s68, s69, s70, s71, s72, s73, s74, s75, s76, s77, s78, s79, s80, s81, s82, s83, s84, s85, s86, s87, s88, s89, s90, s91, s92, s93, s94, s95, s96, s97, s98, s99, s100, s101, s102, s103, s104, s105, s106,
  s107, s108, s109, s110, s111, s112, s113, s114, s115, s116, s117, s118, s119, s120, s121, s122, s123, s124, s125, s126, s127, s128, s129, s130, s131, s132, s133, s134, s135, s136, s137, s138, s139, s140, s141, s142, s143, s144,
  s145, s146, s147, s148, s149, s150, s151, s152, s153, s154, s155, s156, s157, s158, s159, s160, s161, s162, s163, s164, s165, s166, s167] H = (@bnd (aBin2 Tryz.prog H .lss 3 (.tmp 14) (.const (.int .i64 6)) s7 (.int .i64 6))
  ⟨fun v15x6 => @bnd (gif v15x6 true ((some s0)) undef) ⟨fun v17x7 => @bnd (gif v15x6 true ((some s1)) undef) ⟨fun v18x8 => @bnd (gif v15x6 true ((some s7)) undef) ⟨fun v19x9 => @bndG v15x6 true H ⟨fun v20x10 H11 => ACalls
  Tryz.prog 50 [v19x9] H v20x10 H11⟩ ⟨fun v20x10 H11 => @bndG v15x6 true H11 ⟨fun v21x12 H13 => ACalls Tryz.prog 95 [v17x7, v18x8, (.int .u8 1), v20x10] H11 v21x12 H13⟩ ⟨fun v21x12 H13 => @bnd (gif v15x6 true (unV Tryz.prog .not
  v21x12) undef) ⟨fun v22x14 => @bnd (pickV v15x6 v22x14 (.bool false)) ⟨fun v23x15 => @kifB v23x15 ⟨@bnd (aBin2 Tryz.prog H13 .add 3 (.tmp 24) (.const (.int .i64 1)) s7 (.int .i64 1)) ⟨fun v25x16 => L123x0 n0  k [s0, s1, s2, s3,
  s4, s5, s6, v25x16, s8, s9, s10, s11, s12, s13, s7, v15x6, v15x6, v17x7, v18x8, v19x9, v20x10, v21x12, v22x14, v23x15, s7, v25x16, s26, s27, s28, s29, s30, s31, s32, s33, s34, s35, s36, s37, s38, s39, s40, s41, s42, s43, s44,
  s45, s46, s47, s48, s49, s50, s51, s52, s53, s54, s55, s56, s57, s58, s59, s60, s61, s62, s63, s64, s65, s66, s67, s68, s69, s70, s71, s72, s73, s74, s75, s76, s77, s78, s79, s80, s81, s82, s83, s84, s85, s86, s87, s88, s89,
  s90, s91, s92, s93, s94, s95, s96, s97, s98, s99, s100, s101, s102, s103, s104, s105, s106, s107, s108, s109, s110, s111, s112, s113, s114, s115, s116, s117, s118, s119, s120, s121, s122, s123, s124, s125, s126, s127, s128,
  s129, s130, s131, s132, s133, s134, s135, s136, s137, s138, s139, s140, s141, s142, s143, s144, s145, s146, s147, s148, s149, s150, s151, s152, s153, s154, s155, s156, s157, s158, s159, s160, s161, s162, s163, s164, s165, s166,
  s167] H13⟩⟩ ⟨@bnd (aBin2 Tryz.prog H13 .eql 3 (.tmp 26) (.const (.int .i64 6)) s7 (.int .i64 6)) ⟨fun v27x17 => @bnd (gif v27x17 false ((some s0)) undef) ⟨fun v29x18 => @bnd (gif v27x17 false ((some s1)) undef) ⟨fun v30x19 =>
  @bnd (gif v27x17 false (aBin2 Tryz.prog H13 .add 3 (.tmp 30) (.const (.int .i64 1)) v30x19 (.int .i64 1)) undef) ⟨fun v31x20 => @bndG v27x17 false H13 ⟨fun v32x21 H22 => ACalls Tryz.prog 95 [v29x18, v31x20, (.int .u8 4),
  (.string { data := #[40] })] H13 v32x21 H22⟩ ⟨fun v32x21 H22 => @bnd (gif v27x17 false (unV Tryz.prog .not v32x21) undef) ⟨fun v33x23 => @bnd (pickV v27x17 (.bool true) v33x23) ⟨fun v34x24 => @bnd (gif v34x24 false ((some s0))
  undef) ⟨fun v36x25 => @bnd (gif v34x24 false ((some s1)) undef) ⟨fun v37x26 => @bnd (gif v34x24 false (aBin2 Tryz.prog H22 .add 3 (.tmp 37) (.const (.int .i64 2)) v37x26 (.int .i64 2)) undef) ⟨fun v38x27 => @bndG v34x24 false
  H22 ⟨fun v39x28 H29 => ACalls Tryz.prog 95 [v36x25, v38x27, (.int .u8 4), (.string { data := #[123] })] H22 v39x28 H29⟩ ⟨fun v39x28 H29 => @bnd (gif v34x24 false (unV Tryz.prog .not v39x28) undef) ⟨fun v40x30 => @bnd (pickV
  v34x24 (.bool true) v40x30) ⟨fun v41x31 => @kifB v41x31 ⟨k (.tuple #[(.slice none 0 0), (.int .i64 (-1))]) H29⟩ ⟨@bnd (convV Tryz.prog H29 3 5 s7) ⟨fun v43x32 => @bnd (aFieldAddr Tryz.prog H29 37 s6 1) ⟨fun v44x33 => @bndS
  (aStore Tryz.prog H29 5 v44x33 v43x32) ⟨fun _ H35 => @bnd (aBin2 Tryz.prog H35 .add 3 (.tmp 45) (.const (.int .i64 3)) s1 (.int .i64 3)) ⟨fun v46x36 => @bndC Tryz.prog 95 [s0, v46x36, (.int .u8 4), (.string { data := #[125] })]
  H35 ⟨fun v49x37 H38 => @kifB v49x37 ⟨@bnd (aBin2 Tryz.prog H38 .add 3 (.tmp 50) (.const (.int .i64 1)) v46x36 (.int .i64 1)) ⟨fun v51x39 => S123x0  k [s0, v51x39, s2, s3, s4, s5, s6, s7, s8, s9, s10, s11, s12, s13, s7, v15x6,
  v15x6, v17x7, v18x8, v19x9, v20x10, v21x12, v22x14, v23x15, s24, s25, s7, v27x17, v27x17, v29x18, v30x19, v31x20, v32x21, v33x23, v34x24, v34x24, v36x25, v37x26, v38x27, v39x28, v40x30, v41x31, s7, v43x32, v44x33, s1, v46x36,
  s0, v46x36, v49x37, v46x36, v51x39, s52, s53, s54, s55, s56, s57, s58, s59, s60, s61, s62, s63, s64, s65, s66, s67, s68, s69, s70, s71, s72, s73, s74, s75, s76, s77, s78, s79, s80, s81, s82, s83, s84, s85, s86, s87, s88, s89,
  s90, s91, s92, s93, s94, s95, s96, s97, s98, s99, s100, s101, s102, s103, s104, s105, s106, s107, s108, s109, s110, s111, s112, s113, s114, s115, s116, s117, s118, s119, s120, s121, s122, s123, s124, s125, s126, s127, s128,
  s129, s130, s131, s132, s133, s134, s135, s136, s137, s138, s139, s140, s141, s142, s143, s144, s145, s146, s147, s148, s149, s150, s151, s152, s153, s154, s155, s156, s157, s158, s159, s160, s161, s162, s163, s164, s165, s166,
  s167] H38⟩⟩ ⟨∃ n, L123x1 n  k [s0, v46x36, s2, s3, s4, s5, s6, s7, s8, s9, s10, s11, s12, s13, s7, v15x6, v15x6, v17x7, v18x8, v19x9, v20x10, v21x12, v22x14, v23x15, s24, s25, s7, v27x17, v27x17, v29x18, v30x19, v31x20, v32x21,
  v33x23, v34x24, v34x24, v36x25, v37x26, v38x27, v39x28, v40x30, v41x31, s7, v43x32, v44x33, s1, v46x36, s0, v46x36, v49x37, s50, s51, s52, s53, s54, s55, s56, s57, s58, s59, s60, s61, s62, s63, s64, s65, s66, s67, s68, s69,
  s70, s71, s72, s73, s74, s75, s76, s77, s78, s79, s80, s81, s82, s83, s84, s85, s86, s87, s88, s89, s90, s91, s92, s93, s94, s95, s96, s97, s98, s99, s100, s101, s102, s103, s104, s105, s106, s107, s108, s109, s110, s111, s112,
  s113, s114, s115, s116, s117, s118, s119, s120, s121, s122, s123, s124, s125, s126, s127, s128, s129, s130, s131, s132, s133, s134, s135, s136, s137, s138, s139, s140, s141, s142, s143, s144, s145, s146, s147, s148, s149, s150,
  s151, s152, s153, s154, s155, s156, s157, s158, s159, s160, s161, s162, s163, s164, s165, s166, s167] H38⟩⟩⟩⟩⟩⟩⟩⟩⟩⟩⟩⟩⟩⟩⟩⟩⟩⟩⟩⟩⟩⟩⟩⟩⟩⟩⟩⟩⟩) := by kernel_rfl
theorem S123x0q (s0 s1 s2 s3 s4 s5 s6 s7 s8 s9 s10 s11 s12 s13 s14 s15 s16 s17 s18 s19 s20 s21 s22 s23 s24 s25 s26 s27 s28 s29 s30 s31 s32 s33 s34 s35 s36 s37 s38 s39 s40 s41 s42 s43 s44 s45 s46 s47 s48 s49 s50 s51 s52 s53 s54
  s55 s56 s57 s58 s59 s60 s61 s62 s63 s64 s65 s66 s67 s68 s69 s70 s71 s72 s73 s74 s75 s76 s77 s78 s79 s80 s81 s82 s83 s84 s85 s86 s87 s88 s89 s90 s91 s92 s93 s94 s95 s96 s97 s98 s99 s100 s101 s102 s103 s104 s105 s106 s107 s108
  s109 s110 s111 s112 s113 s114 s115 s116 s117 s118 s119 s120 s121 s122 s123 s124 s125 s126 s127 s128 s129 s130 s131 s132 s133 s134 s135 s136 s137 s138 s139 s140 s141 s142 s143 s144 s145 s146 s147 s148 s149 s150 s151 s152 s153
  s154 s155 s156 s157 s158 s159 s160 s161 s162 s163 s164 s165 s166 s167 : Value) (H : AHeap) (k : Value → AHeap → Prop) : S123x0 k [s0, s1, s2, s3, s4, s5, s6, s7, s8, s9, s10, s11, s12, s13, s14, s15, s16, s17, s18, s19, s20,
  s21, s22, s23, s24, s25, s26, s27, s28, s29, s30, s31, s32, s33, s34, s35, s36, s37, s38, s39, s40, s41, s42, s43, s44, s45, s46, s47, s48, s49, s50, s51, s52, s53, s54, s55, s56, s57, s58, s59, s60, s61, s62, s63, s64, s65,
  s66, s67, s68, s69, s70, s71, s72, s73, s74, s75, s76, s77, s78, s79, s80, s81, s82, s83, s84, s85, s86, s87, s88, s89, s90, s91, s92, s93, s94, s95, s96, s97, s98, s99, s100, s101, s102, s103, s104, s105, s106, s107, s108,
  s109, s110, s111, s112, s113, s114, s115, s116, s117, s118, s119, s120, s121, s122, s123, s124, s125, s126, s127, s128, s129, s130, s131, s132, s133, s134, s135, s136, s137, s138, s139, s140, s141, s142, s143, s144, s145, s146,
  s147, s148, s149, s150, s151, s152, s153, s154, s155, s156, s157, s158, s159, s160, s161, s162, s163, s164, s165, s166, s167] H = (@bnd (aFieldAddr Tryz.prog H 37 s6 2) ⟨fun v75x40 => @bnd (aLoad Tryz.prog H 35 v75x40) ⟨fun
  v76x41 => @bndC Tryz.prog 149 [v76x41] H ⟨fun v77x42 H43 => @bnd (unV Tryz.prog .not v77x42) ⟨fun v78x44 => @bnd (gif v78x44 false ((some s0)) undef) ⟨fun v80x45 => @bnd (gif v78x44 false ((some s1)) undef) ⟨fun v81x46 => @bndG
  v78x44 false H43 ⟨fun v82x47 H48 => ACalls Tryz.prog 95 [v80x45, v81x46, (.int .u8 4), (.string { data := #[91] })] H43 v82x47 H48⟩ ⟨fun v82x47 H48 => @bnd (gif v78x44 false (unV Tryz.prog .not v82x47) undef) ⟨fun v83x49 =>
  @bnd (pickV v78x44 (.bool true) v83x49) ⟨fun v84x50 => @bnd (gif v84x50 false ((some s0)) undef) ⟨fun v86x51 => @bnd (gif v84x50 false ((some s1)) undef) ⟨fun v87x52 => @bnd (gif v84x50 false (aBin2 Tryz.prog H48 .add 3 (.tmp
  87) (.const (.int .i64 1)) v87x52 (.int .i64 1)) undef) ⟨fun v88x53 => @bndG v84x50 false H48 ⟨fun v89x54 H55 => ACalls Tryz.prog 95 [v86x51, v88x53, (.int .u8 2), (.string { data := #[42] })] H48 v89x54 H55⟩ ⟨fun v89x54 H55 =>
  @bnd (gif v84x50 false (unV Tryz.prog .not v89x54) undef) ⟨fun v90x56 => @bnd (pickV v84x50 (.bool true) v90x56) ⟨fun v91x57 => @bnd (gif v91x57 false ((some s0)) undef) ⟨fun v93x58 => @bnd (gif v91x57 false ((some s1)) undef)
  ⟨fun v94x59 => @bnd (gif v91x57 false (aBin2 Tryz.prog H55 .add 3 (.tmp 94) (.const (.int .i64 2)) v94x59 (.int .i64 2)) undef) ⟨fun v95x60 => @bndG v91x57 false H55 ⟨fun v96x61 H62 => ACalls Tryz.prog 95 [v93x58, v95x60, (.int
  .u8 4), (.string { data := #[93] })] H55 v96x61 H62⟩ ⟨fun v96x61 H62 => @bnd (gif v91x57 false (unV Tryz.prog .not v96x61) undef) ⟨fun v97x63 => @bnd (pickV v91x57 (.bool true) v97x63) ⟨fun v98x64 => @bnd (gif v98x64 false
  ((some s0)) undef) ⟨fun v100x65 => @bnd (gif v98x64 false ((some s1)) undef) ⟨fun v101x66 => @bnd (gif v98x64 false (aBin2 Tryz.prog H62 .add 3 (.tmp 101) (.const (.int .i64 3)) v101x66 (.int .i64 3)) undef) ⟨fun v102x67 =>
  @bndG v98x64 false H62 ⟨fun v103x68 H69 => ACalls Tryz.prog 95 [v100x65, v102x67, (.int .u8 4), (.string { data := #[41] })] H62 v103x68 H69⟩ ⟨fun v103x68 H69 => @bnd (gif v98x64 false (unV Tryz.prog .not v103x68) undef) ⟨fun
  v104x70 => @bnd (pickV v98x64 (.bool true) v104x70) ⟨fun v105x71 => @kifB v105x71 ⟨k (.tuple #[(.slice none 0 0), (.int .i64 (-1))]) H69⟩ ⟨@bnd (aBin2 Tryz.prog H69 .add 3 (.tmp 107) (.const (.int .i64 1)) s1 (.int .i64 1))
  ⟨fun v108x72 => @bnd (aIndexAddr Tryz.prog H69 64 s0 v108x72) ⟨fun v109x73 => @bnd (aFieldAddr Tryz.prog H69 72 v109x73 1) ⟨fun v110x74 => @bnd (aLoad Tryz.prog H69 9 v110x74) ⟨fun v111x75 => @bndC Tryz.prog 150 [v111x75] H69
  ⟨fun v112x76 H77 => @bnd (aFieldAddr Tryz.prog H77 37 s6 3) ⟨fun v113x78 => @bndS (aStore Tryz.prog H77 3 v113x78 v112x76) ⟨fun _ H80 => @bnd (aBin2 Tryz.prog H80 .add 3 (.tmp 114) (.const (.int .i64 4)) s1 (.int .i64 4)) ⟨fun
  v115x81 => ∃ n, L123x2 n  k [s0, v115x81, s2, s3, s4, s5, s6, (.int .i64 0), s8, s9, s10, s11, s12, s13, s14, s15, s16, s17, s18, s19, s20, s21, s22, s23, s24, s25, s26, s27, s28, s29, s30, s31, s32, s33, s34, s35, s36, s37,
  s38, s39, s40, s41, s42, s43, s44, s45, s46, s47, s48, s49, s50, s51, s52, s53, s54, s55, s56, s57, s58, s59, s60, s61, s62, s63, s64, s65, s66, s67, s68, s69, s70, s71, s72, s73, s74, v75x40, v76x41, v77x42, v78x44, v78x44,
  v80x45, v81x46, v82x47, v83x49, v84x50, v84x50, v86x51, v87x52, v88x53, v89x54, v90x56, v91x57, v91x57, v93x58, v94x59, v95x60, v96x61, v97x63, v98x64, v98x64, v100x65, v101x66, v102x67, v103x68, v104x70, v105x71, s0, s1,
  v108x72, v109x73, v110x74, v111x75, v112x76, v113x78, s1, v115x81, s116, s117, s118, s119, s120, s121, s122, s123, s124, s125, s126, s127, s128, s129, s130, s131, s132, s133, s134, s135, s136, s137, s138, s139, s140, s141,
  s142, s143, s144, s145, s146, s147, s148, s149, s150, s151, s152, s153, s154, s155, s156, s157, s158, s159, s160, s161, s162, s163, s164, s165, s166, s167] H80⟩⟩⟩⟩⟩⟩⟩⟩⟩⟩⟩⟩⟩⟩⟩⟩⟩⟩⟩⟩⟩⟩⟩⟩⟩⟩⟩⟩⟩⟩⟩⟩⟩⟩⟩⟩) := by kernel_rfl
theorem L123x1q (n1 : Nat) (s0 s1 s2 s3 s4 s5 s6 s7 s8 s9 s10 s11 s12 s13 s14 s15 s16 s17 s18 s19 s20 s21 s22 s23 s24 s25 s26 s27 s28 s29 s30 s31 s32 s33 s34 s35 s36 s37 s38 s39 s40 s41 s42 s43 s44 s45 s46 s47 s48 s49 s50 s51 s52
  s53 s54 s55 s56 s57 s58 s59 s60 s61 s62 s63 s64 s65 s66 s67 s68 s69 s70 s71 s72 s73 s74 s75 s76 s77 s78 s79 s80 s81 s82 s83 s84 s85 s86 s87 s88 s89 s90 s91 s92 s93 s94 s95 s96 s97 s98 s99 s100 s101 s102 s103 s104 s105 s106 s107
  s108 s109 s110 s111 s112 s113 s114 s115 s116 s117 s118 s119 s120 s121 s122 s123 s124 s125 s126 s127 s128 s129 s130 s131 s132 s133 s134 s135 s136 s137 s138 s139 s140 s141 s142 s143 s144 s145 s146 s147 s148 s149 s150 s151 s152
  s153 s154 s155 s156 s157 s158 s159 s160 s161 s162 s163 s164 s165 s166 s167 : Value) (H : AHeap) (k : Value → AHeap → Prop) : L123x1 (n1 + 1) k [s0, s1, s2, s3, s4, s5, s6, s7, s8, s9, s10, s11, s12, s13, s14, s15, s16, s17,
  s18, s19, s20, s21, s22, s23, s24, s25, s26, s27, s28, s29, s30, s31, s32, s33, s34, s35, s36, s37, s38, s39, s40, s41, s42, s43, s44, s45, s46, s47, s48, s49, s50, s51, s52, s53, s54, s55, s56, s57, s58, s59, s60, s61, s62,
  s63, s64, s65, s66, s67, s68, s69, s70, s71, s72, s73, s74, s75, s76, s77, s78, s79, s80, s81, s82, s83, s84, s85, s86, s87, s88, s89, s90, s91, s92, s93, s94, s95, s96, s97, s98, s99, s100, s101, s102, s103, s104, s105, s106,
  s107, s108, s109, s110, s111, s112, s113, s114, s115, s116, s117, s118, s119, s120, s121, s122, s123, s124, s125, s126, s127, s128, s129, s130, s131, s132, s133, s134, s135, s136, s137, s138, s139, s140, s141, s142, s143, s144,
  s145, s146, s147, s148, s149, s150, s151, s152, s153, s154, s155, s156, s157, s158, s159, s160, s161, s162, s163, s164, s165, s166, s167] H = (@bndC Tryz.prog 148 [s0, s1] H ⟨fun v55x82 H83 => @bnd (tupV v55x82 0) ⟨fun v56x84
  => @bnd (tupV v55x82 1) ⟨fun v57x85 => @bndE (aAlloc Tryz.prog H83 75) ⟨fun v8x86 H87 => @bndS (aStore Tryz.prog H87 75 v8x86 v56x84) ⟨fun _ H89 => @bnd (aBin2 Tryz.prog H89 .lss 3 (.tmp 58) (.const (.int .i64 0)) v57x85 (.int
  .i64 0)) ⟨fun v59x90 => @kifB v59x90 ⟨k (.tuple #[(.slice none 0 0), (.int .i64 (-1))]) H89⟩ ⟨@bnd (aFieldAddr Tryz.prog H89 37 s6 2) ⟨fun v60x91 => @bnd (aLoad Tryz.prog H89 35 v60x91) ⟨fun v61x92 => @bnd (aLoad Tryz.prog H89
  75 v8x86) ⟨fun v62x93 => @bndL Tryz.prog H89 35 1 [(0, v62x93)] ⟨fun v63x94 H95 => @bndE (aBuiltin Tryz.prog H95 Builtin.append #[35, 35] [v61x92, v63x94]) ⟨fun v64x96 H97 => @bnd (aFieldAddr Tryz.prog H97 37 s6 2) ⟨fun v65x98
  => @bndS (aStore Tryz.prog H97 35 v65x98 v64x96) ⟨fun _ H100 => @bnd (aBin2 Tryz.prog H100 .add 3 (.tmp 66) (.const (.int .i64 1)) v57x85 (.int .i64 1)) ⟨fun v67x101 => @bndC Tryz.prog 95 [s0, v57x85, (.int .u8 4), (.string {
  data := #[125] })] H100 ⟨fun v70x102 H103 => @kifB v70x102 ⟨B123x0 n1 k [s0, v67x101, s2, s3, s4, s5, s6, s7, v8x86, v57x85, s10, s11, s12, s13, s14, s15, s16, s17, s18, s19, s20, s21, s22, s23, s24, s25, s26, s27, s28, s29,
  s30, s31, s32, s33, s34, s35, s36, s37, s38, s39, s40, s41, s42, s43, s44, s45, s46, s47, s48, s49, s50, s51, v55x82, s0, s1, v55x82, v56x84, v57x85, v57x85, v59x90, v60x91, v61x92, v62x93, v63x94, v64x96, v65x98, v57x85,
  v67x101, s0, v57x85, v70x102, s71, s72, s73, s74, s75, s76, s77, s78, s79, s80, s81, s82, s83, s84, s85, s86, s87, s88, s89, s90, s91, s92, s93, s94, s95, s96, s97, s98, s99, s100, s101, s102, s103, s104, s105, s106, s107,
  s108, s109, s110, s111, s112, s113, s114, s115, s116, s117, s118, s119, s120, s121, s122, s123, s124, s125, s126, s127, s128, s129, s130, s131, s132, s133, s134, s135, s136, s137, s138, s139, s140, s141, s142, s143, s144, s145,
  s146, s147, s148, s149, s150, s151, s152, s153, s154, s155, s156, s157, s158, s159, s160, s161, s162, s163, s164, s165, s166, s167] H103⟩ ⟨@bndC Tryz.prog 95 [s0, v57x85, (.int .u8 4), (.string { data := #[44] })] H103 ⟨fun
  v73x104 H105 => @bnd (unV Tryz.prog .not v73x104) ⟨fun v74x106 => @kifB v74x106 ⟨k (.tuple #[(.slice none 0 0), (.int .i64 (-1))]) H105⟩ ⟨L123x1 n1  k [s0, v67x101, s2, s3, s4, s5, s6, s7, v8x86, v57x85, s10, s11, s12, s13,
  s14, s15, s16, s17, s18, s19, s20, s21, s22, s23, s24, s25, s26, s27, s28, s29, s30, s31, s32, s33, s34, s35, s36, s37, s38, s39, s40, s41, s42, s43, s44, s45, s46, s47, s48, s49, s50, s51, v55x82, s0, s1, v55x82, v56x84,
  v57x85, v57x85, v59x90, v60x91, v61x92, v62x93, v63x94, v64x96, v65x98, v57x85, v67x101, s0, v57x85, v70x102, s0, v57x85, v73x104, v74x106, s75, s76, s77, s78, s79, s80, s81, s82, s83, s84, s85, s86, s87, s88, s89, s90, s91,
  s92, s93, s94, s95, s96, s97, s98, s99, s100, s101, s102, s103, s104, s105, s106, s107, s108, s109, s110, s111, s112, s113, s114, s115, s116, s117, s118, s119, s120, s121, s122, s123, s124, s125, s126, s127, s128, s129, s130,
  s131, s132, s133, s134, s135, s136, s137, s138, s139, s140, s141, s142, s143, s144, s145, s146, s147, s148, s149, s150, s151, s152, s153, s154, s155, s156, s157, s158, s159, s160, s161, s162, s163, s164, s165, s166, s167]
  H105⟩⟩⟩⟩⟩⟩⟩⟩⟩⟩⟩⟩⟩⟩⟩⟩⟩⟩⟩⟩) := by kernel_rfl
theorem L123x2q (n2 : Nat) (s0 s1 s2 s3 s4 s5 s6 s7 s8 s9 s10 s11 s12 s13 s14 s15 s16 s17 s18 s19 s20 s21 s22 s23 s24 s25 s26 s27 s28 s29 s30 s31 s32 s33 s34 s35 s36 s37 s38 s39 s40 s41 s42 s43 s44 s45 s46 s47 s48 s49 s50 s51 s52
  s53 s54 s55 s56 s57 s58 s59 s60 s61 s62 s63 s64 s65 s66 s67 s68 s69 s70 s71 s72 s73 s74 s75 s76 s77 s78 s79 s80 s81 s82 s83 s84 s85 s86 s87 s88 s89 s90 s91 s92 s93 s94 s95 s96 s97 s98 s99 s100 s101 s102 s103 s104 s105 s106 s107
  s108 s109 s110 s111 s112 s113 s114 s115 s116 s117 s118 s119 s120 s121 s122 s123 s124 s125 s126 s127 s128 s129 s130 s131 s132 s133 s134 s135 s136 s137 s138 s139 s140 s141 s142 s143 s144 s145 s146 s147 s148 s149 s150 s151 s152
  s153 s154 s155 s156 s157 s158 s159 s160 s161 s162 s163 s164 s165 s166 s167 : Value) (H : AHeap) (k : Value → AHeap → Prop) : L123x2 (n2 + 1) k [s0, s1, s2, s3, s4, s5, s6, s7, s8, s9, s10, s11, s12, s13, s14, s15, s16, s17,
  s18, s19, s20, s21, s22, s23, s24, s25, s26, s27, s28, s29, s30, s31, s32, s33, s34, s35, s36, s37, s38, s39, s40, s41, s42, s43, s44, s45, s46, s47, s48, s49, s50, s51, s52, s53, s54, s55, s56, s57, s58, s59, s60, s61, s62,
  s63, s64, s65, s66, s67, s68, s69, s70, s71, s72, s73, s74, s75, s76, s77, s78, s79, s80, s81, s82, s83, s84, s85, s86, s87, s88, s89, s90, s91, s92, s93, s94, s95, s96, s97, s98, s99, s100, s101, s102, s103, s104, s105, s106,
  s107, s108, s109, s110, s111, s112, s113, s114, s115, s116, s117, s118, s119, s120, s121, s122, s123, s124, s125, s126, s127, s128, s129, s130, s131, s132, s133, s134, s135, s136, s137, s138, s139, s140, s141, s142, s143, s144,
  s145, s146, s147, s148, s149, s150, s151, s152, s153, s154, s155, s156, s157, s158, s159, s160, s161, s162, s163, s164, s165, s166, s167] H = (@bnd (aBin2 Tryz.prog H .lss 3 (.tmp 116) (.const (.int .i64 6)) s7 (.int .i64 6))
  ⟨fun v117x107 => @bnd (gif v117x107 true ((some s0)) undef) ⟨fun v119x108 => @bnd (gif v117x107 true ((some s1)) undef) ⟨fun v120x109 => @bnd (gif v117x107 true ((some s7)) undef) ⟨fun v121x110 => @bndG v117x107 true H ⟨fun
  v122x111 H112 => ACalls Tryz.prog 53 [v121x110] H v122x111 H112⟩ ⟨fun v122x111 H112 => @bndG v117x107 true H112 ⟨fun v123x113 H114 => ACalls Tryz.prog 95 [v119x108, v120x109, (.int .u8 4), v122x111] H112 v123x113 H114⟩ ⟨fun
  v123x113 H114 => @bnd (gif v117x107 true (unV Tryz.prog .not v123x113) undef) ⟨fun v124x115 => @bnd (pickV v117x107 v124x115 (.bool false)) ⟨fun v125x116 => @kifB v125x116 ⟨@bnd (aBin2 Tryz.prog H114 .add 3 (.tmp 126) (.const
  (.int .i64 1)) s7 (.int .i64 1)) ⟨fun v127x117 => L123x2 n2  k [s0, s1, s2, s3, s4, s5, s6, v127x117, s8, s9, s10, s11, s12, s13, s14, s15, s16, s17, s18, s19, s20, s21, s22, s23, s24, s25, s26, s27, s28, s29, s30, s31, s32,
  s33, s34, s35, s36, s37, s38, s39, s40, s41, s42, s43, s44, s45, s46, s47, s48, s49, s50, s51, s52, s53, s54, s55, s56, s57, s58, s59, s60, s61, s62, s63, s64, s65, s66, s67, s68, s69, s70, s71, s72, s73, s74, s75, s76, s77,
  s78, s79, s80, s81, s82, s83, s84, s85, s86, s87, s88, s89, s90, s91, s92, s93, s94, s95, s96, s97, s98, s99, s100, s101, s102, s103, s104, s105, s106, s107, s108, s109, s110, s111, s112, s113, s114, s115, s7, v117x107,
  v117x107, v119x108, v120x109, v121x110, v122x111, v123x113, v124x115, v125x116, s7, v127x117, s128, s129, s130, s131, s132, s133, s134, s135, s136, s137, s138, s139, s140, s141, s142, s143, s144, s145, s146, s147, s148, s149,
  s150, s151, s152, s153, s154, s155, s156, s157, s158, s159, s160, s161, s162, s163, s164, s165, s166, s167] H114⟩⟩ ⟨@bnd (aBin2 Tryz.prog H114 .eql 3 (.tmp 128) (.const (.int .i64 6)) s7 (.int .i64 6)) ⟨fun v129x118 => @bnd
  (gif v129x118 false (aFieldAddr Tryz.prog H114 37 s6 3) undef) ⟨fun v131x119 => @bnd (gif v129x118 false (aLoad Tryz.prog H114 3 v131x119) undef) ⟨fun v132x120 => @bnd (gif v129x118 false (aBin2 Tryz.prog H114 .eql 3 (.tmp 132)
  (.const (.int .i64 0)) v132x120 (.int .i64 0)) undef) ⟨fun v133x121 => @bnd (pickV v129x118 (.bool true) v133x121) ⟨fun v134x122 => @kifB v134x122 ⟨k (.tuple #[(.slice none 0 0), (.int .i64 (-1))]) H114⟩ ⟨@bnd (convV Tryz.prog
  H114 3 5 s7) ⟨fun v136x123 => @bnd (aFieldAddr Tryz.prog H114 37 s6 4) ⟨fun v137x124 => @bndS (aStore Tryz.prog H114 5 v137x124 v136x123) ⟨fun _ H126 => @bnd (aBin2 Tryz.prog H126 .add 3 (.tmp 138) (.const (.int .i64 1)) s1
  (.int .i64 1)) ⟨fun v139x127 => @bndC Tryz.prog 95 [s0, v139x127, (.int .u8 4), (.string { data := #[45] })] H126 ⟨fun v142x128 H129 => @kifB v142x128 ⟨@bnd (aBin2 Tryz.prog H129 .add 3 (.tmp 143) (.const (.int .i64 1))
  v139x127 (.int .i64 1)) ⟨fun v144x130 => S123x1  k [s0, v144x130, s2, s3, s4, s5, s6, s7, s8, s9, (.string { data := #[45] }), s11, s12, s13, s14, s15, s16, s17, s18, s19, s20, s21, s22, s23, s24, s25, s26, s27, s28, s29, s30,
  s31, s32, s33, s34, s35, s36, s37, s38, s39, s40, s41, s42, s43, s44, s45, s46, s47, s48, s49, s50, s51, s52, s53, s54, s55, s56, s57, s58, s59, s60, s61, s62, s63, s64, s65, s66, s67, s68, s69, s70, s71, s72, s73, s74, s75,
  s76, s77, s78, s79, s80, s81, s82, s83, s84, s85, s86, s87, s88, s89, s90, s91, s92, s93, s94, s95, s96, s97, s98, s99, s100, s101, s102, s103, s104, s105, s106, s107, s108, s109, s110, s111, s112, s113, s114, s115, s7,
  v117x107, v117x107, v119x108, v120x109, v121x110, v122x111, v123x113, v124x115, v125x116, s126, s127, s7, v129x118, v129x118, v131x119, v132x120, v133x121, v134x122, s7, v136x123, v137x124, s1, v139x127, s0, v139x127, v142x128,
  v139x127, v144x130, s145, s146, s147, s148, s149, s150, s151, s152, s153, s154, s155, s156, s157, s158, s159, s160, s161, s162, s163, s164, s165, s166, s167] H129⟩⟩ ⟨S123x1  k [s0, v139x127, s2, s3, s4, s5, s6, s7, s8, s9,
  (.string { data := #[] }), s11, s12, s13, s14, s15, s16, s17, s18, s19, s20, s21, s22, s23, s24, s25, s26, s27, s28, s29, s30, s31, s32, s33, s34, s35, s36, s37, s38, s39, s40, s41, s42, s43, s44, s45, s46, s47, s48, s49, s50,
  s51, s52, s53, s54, s55, s56, s57, s58, s59, s60, s61, s62, s63, s64, s65, s66, s67, s68, s69, s70, s71, s72, s73, s74, s75, s76, s77, s78, s79, s80, s81, s82, s83, s84, s85, s86, s87, s88, s89, s90, s91, s92, s93, s94, s95,
  s96, s97, s98, s99, s100, s101, s102, s103, s104, s105, s106, s107, s108, s109, s110, s111, s112, s113, s114, s115, s7, v117x107, v117x107, v119x108, v120x109, v121x110, v122x111, v123x113, v124x115, v125x116, s126, s127, s7,
  v129x118, v129x118, v131x119, v132x120, v133x121, v134x122, s7, v136x123, v137x124, s1, v139x127, s0, v139x127, v142x128, s143, s144, s145, s146, s147, s148, s149, s150, s151, s152, s153, s154, s155, s156, s157, s158, s159,
  s160, s161, s162, s163, s164, s165, s166, s167] H129⟩⟩⟩⟩⟩⟩⟩⟩⟩⟩⟩⟩⟩⟩⟩⟩⟩⟩⟩⟩⟩) := by kernel_rfl
theorem S123x1q (s0 s1 s2 s3 s4 s5 s6 s7 s8 s9 s10 s11 s12 s13 s14 s15 s16 s17 s18 s19 s20 s21 s22 s23 s24 s25 s26 s27 s28 s29 s30 s31 s32 s33 s34 s35 s36 s37 s38 s39 s40 s41 s42 s43 s44 s45 s46 s47 s48 s49 s50 s51 s52 s53 s54
  s55 s56 s57 s58 s59 s60 s61 s62 s63 s64 s65 s66 s67 s68 s69 s70 s71 s72 s73 s74 s75 s76 s77 s78 s79 s80 s81 s82 s83 s84 s85 s86 s87 s88 s89 s90 s91 s92 s93 s94 s95 s96 s97 s98 s99 s100 s101 s102 s103 s104 s105 s106 s107 s108
  s109 s110 s111 s112 s113 s114 s115 s116 s117 s118 s119 s120 s121 s122 s123 s124 s125 s126 s127 s128 s129 s130 s131 s132 s133 s134 s135 s136 s137 s138 s139 s140 s141 s142 s143 s144 s145 s146 s147 s148 s149 s150 s151 s152 s153
  s154 s155 s156 s157 s158 s159 s160 s161 s162 s163 s164 s165 s166 s167 : Value) (H : AHeap) (k : Value → AHeap → Prop) : S123x1 k [s0, s1, s2, s3, s4, s5, s6, s7, s8, s9, s10, s11, s12, s13, s14, s15, s16, s17, s18, s19, s20,
  s21, s22, s23, s24, s25, s26, s27, s28, s29, s30, s31, s32, s33, s34, s35, s36, s37, s38, s39, s40, s41, s42, s43, s44, s45, s46, s47, s48, s49, s50, s51, s52, s53, s54, s55, s56, s57, s58, s59, s60, s61, s62, s63, s64, s65,
  s66, s67, s68, s69, s70, s71, s72, s73, s74, s75, s76, s77, s78, s79, s80, s81, s82, s83, s84, s85, s86, s87, s88, s89, s90, s91, s92, s93, s94, s95, s96, s97, s98, s99, s100, s101, s102, s103, s104, s105, s106, s107, s108,
  s109, s110, s111, s112, s113, s114, s115, s116, s117, s118, s119, s120, s121, s122, s123, s124, s125, s126, s127, s128, s129, s130, s131, s132, s133, s134, s135, s136, s137, s138, s139, s140, s141, s142, s143, s144, s145, s146,
  s147, s148, s149, s150, s151, s152, s153, s154, s155, s156, s157, s158, s159, s160, s161, s162, s163, s164, s165, s166, s167] H = (@bndC Tryz.prog 95 [s0, s1, (.int .u8 2), (.string { data := #[42] })] H ⟨fun v147x131 H132 =>
  @bnd (unV Tryz.prog .not v147x131) ⟨fun v148x133 => @kifB v148x133 ⟨k (.tuple #[(.slice none 0 0), (.int .i64 (-1))]) H132⟩ ⟨@bnd (aIndexAddr Tryz.prog H132 64 s0 s1) ⟨fun v153x134 => @bnd (aFieldAddr Tryz.prog H132 72 v153x134
  1) ⟨fun v154x135 => @bnd (aLoad Tryz.prog H132 9 v154x135) ⟨fun v155x136 => @bnd (aBin2 Tryz.prog H132 .add 9 (.tmp 150) (.tmp 155) s10 v155x136) ⟨fun v156x137 => @bndC Tryz.prog 151 [v156x137] H132 ⟨fun v157x138 H139 => @bnd
  (tupV v157x138 0) ⟨fun v158x140 => @bnd (tupV v157x138 1) ⟨fun v159x141 => @bnd (aBin2 Tryz.prog H139 .neq 3 (.tmp 160) (.const (.int .i64 0)) v159x141 (.int .i64 0)) ⟨fun v161x142 => @kifB v161x142 ⟨k (.tuple #[(.slice none 0
  0), (.int .i64 (-1))]) H139⟩ ⟨@bnd (aFieldAddr Tryz.prog H139 37 s6 5) ⟨fun v163x143 => @bndS (aStore Tryz.prog H139 2 v163x143 v158x140) ⟨fun _ H145 => @bnd (aLoad Tryz.prog H145 37 s6) ⟨fun v164x146 => @bndL Tryz.prog H145 27
  1 [(0, v164x146)] ⟨fun v165x147 H148 => @bnd (aBin2 Tryz.prog H148 .add 3 (.tmp 166) (.const (.int .i64 1)) s1 (.int .i64 1)) ⟨fun v167x149 => k (.tuple #[v165x147, v167x149]) H148⟩⟩⟩⟩⟩⟩⟩⟩⟩⟩⟩⟩⟩⟩⟩⟩⟩) := by kernel_rfl
-- internal/stringslite.IndexByte
theorem d124 (a0 a1 : Value) (H : AHeap) (k : Value → AHeap → Prop) : kbody Tryz.prog Tryz.f124 [a0, a1] H k = (@bndC Tryz.prog 152 [a0, a1] H ⟨fun v7x1 H2 => k v7x1 H2⟩) := by kernel_rfl
-- (*strings.Builder).WriteByte
theorem d125 (a0 a1 : Value) (H : AHeap) (k : Value → AHeap → Prop) : kbody Tryz.prog Tryz.f125 [a0, a1] H k = (@bndC Tryz.prog 116 [a0] H ⟨fun _ H2 => @bnd (nilV a0) ⟨fun v9x3 => @bnd (aFieldAddr Tryz.prog H2 116 v9x3 1) ⟨fun
  v10x4 => @bnd (aLoad Tryz.prog H2 55 v10x4) ⟨fun v11x5 => @bndL Tryz.prog H2 55 1 [(0, a1)] ⟨fun v13x6 H7 => @bndE (aBuiltin Tryz.prog H7 Builtin.append #[55, 55] [v11x5, v13x6]) ⟨fun v14x8 H9 => @bnd (nilV a0) ⟨fun v15x10 =>
  @bnd (aFieldAddr Tryz.prog H9 116 v15x10 1) ⟨fun v16x11 => @bndS (aStore Tryz.prog H9 55 v16x11 v14x8) ⟨fun _ H13 => k .nilIface H13⟩⟩⟩⟩⟩⟩⟩⟩⟩) := by kernel_rfl
-- tocsin/expr.named
def L126x0 (n : Nat) (k : Value → AHeap → Prop) (sl : List Value) (H : AHeap) : Prop := kit Tryz.prog (cl (cl (cr (cl (cr (cr (cb Tryz.f126))))))) n (kblk 0 (kseq Tryz.prog (cr (cr (cr (cb Tryz.f126)))) (kfin Tryz.prog Tryz.f126
  k))) .normal sl H
theorem d126 (a0 : Value) (H : AHeap) (k : Value → AHeap → Prop) : kbody Tryz.prog Tryz.f126 [a0] H k = (@bndE (some (Value.map (some H.length), H ++ [AObj.map []])) ⟨fun v6x1 H2 => @bnd (aLen Tryz.prog H2 42 a0) ⟨fun v8x3 => ∃
  n, L126x0 n  k [a0, undef, (.map none), v6x1, undef, undef, v6x1, a0, v8x3, (.int .i64 0), undef, undef, undef, undef, undef, undef, undef, undef, undef] H2⟩⟩) := by kernel_rfl
theorem L126x0q (n0 : Nat) (s0 s1 s2 s3 s4 s5 s6 s7 s8 s9 s10 s11 s12 s13 s14 s15 s16 s17 s18 : Value) (H : AHeap) (k : Value → AHeap → Prop) : L126x0 (n0 + 1) k [s0, s1, s2, s3, s4, s5, s6, s7, s8, s9, s10, s11, s12, s13, s14,
  s15, s16, s17, s18] H = (@bnd (aBin2 Tryz.prog H .lss 3 (.tmp 9) (.tmp 8) s9 s8) ⟨fun v10x4 => @kifB v10x4 ⟨@bnd (aIndexAddr Tryz.prog H 42 s7 s9) ⟨fun v12x5 => @bnd (aLoad Tryz.prog H 9 v12x5) ⟨fun v13x6 => @bndS (aUpdate
  Tryz.prog H 163 s3 v13x6 s9) ⟨fun _ H8 => @bnd (aBin2 Tryz.prog H8 .add 3 (.tmp 9) (.const (.int .i64 1)) s9 (.int .i64 1)) ⟨fun v17x9 => L126x0 n0  k [s0, s1, s2, s3, s9, v13x6, s6, s7, s8, v17x9, v10x4, s9, v12x5, v13x6, s3,
  v13x6, s9, v17x9, s18] H8⟩⟩⟩⟩⟩ ⟨k s3 H⟩⟩) := by kernel_rfl
-- (*tocsin/expr.reader).take
theorem d127 (a0 a1 : Value) (H : AHeap) (k : Value → AHeap → Prop) : kbody Tryz.prog Tryz.f127 [a0, a1] H k = (@bnd (nilV a0) ⟨fun v6x1 => @bnd (aFieldAddr Tryz.prog H 81 v6x1 2) ⟨fun v7x2 => @bnd (aLoad Tryz.prog H 4 v7x2) ⟨fun
  v8x3 => @bnd (unV Tryz.prog .not v8x3) ⟨fun v9x4 => @bnd (gif v9x4 false ((some a0)) undef) ⟨fun v11x5 => @bnd (gif v9x4 false (nilV v11x5) undef) ⟨fun v12x6 => @bnd (gif v9x4 false (aFieldAddr Tryz.prog H 81 v12x6 1) undef)
  ⟨fun v13x7 => @bnd (gif v9x4 false (aLoad Tryz.prog H 3 v13x7) undef) ⟨fun v14x8 => @bnd (gif v9x4 false ((some a0)) undef) ⟨fun v15x9 => @bnd (gif v9x4 false (nilV v15x9) undef) ⟨fun v16x10 => @bnd (gif v9x4 false (aFieldAddr
  Tryz.prog H 81 v16x10 0) undef) ⟨fun v17x11 => @bnd (gif v9x4 false (aLoad Tryz.prog H 23 v17x11) undef) ⟨fun v18x12 => @bnd (gif v9x4 false (aLen Tryz.prog H 23 v18x12) undef) ⟨fun v19x13 => @bnd (gif v9x4 false (aBin2
  Tryz.prog H .geq 3 (.tmp 14) (.tmp 19) v14x8 v19x13) undef) ⟨fun v20x14 => @bnd (pickV v9x4 (.bool true) v20x14) ⟨fun v21x15 => @bnd (gif v21x15 false ((some a0)) undef) ⟨fun v23x16 => @bnd (gif v21x15 false (nilV v23x16)
  undef) ⟨fun v24x17 => @bnd (gif v21x15 false (aFieldAddr Tryz.prog H 81 v24x17 0) undef) ⟨fun v25x18 => @bnd (gif v21x15 false (aLoad Tryz.prog H 23 v25x18) undef) ⟨fun v26x19 => @bnd (gif v21x15 false ((some a0)) undef) ⟨fun
  v27x20 => @bnd (gif v21x15 false (nilV v27x20) undef) ⟨fun v28x21 => @bnd (gif v21x15 false (aFieldAddr Tryz.prog H 81 v28x21 1) undef) ⟨fun v29x22 => @bnd (gif v21x15 false (aLoad Tryz.prog H 3 v29x22) undef) ⟨fun v30x23 =>
  @bnd (gif v21x15 false (aIndexAddr Tryz.prog H 23 v26x19 v30x23) undef) ⟨fun v31x24 => @bnd (gif v21x15 false (aFieldAddr Tryz.prog H 70 v31x24 0) undef) ⟨fun v32x25 => @bnd (gif v21x15 false (aLoad Tryz.prog H 5 v32x25) undef)
  ⟨fun v33x26 => @bnd (gif v21x15 false ((some a1)) undef) ⟨fun v34x27 => @bnd (gif v21x15 false (aBin2 Tryz.prog H .neq 5 (.tmp 33) (.tmp 34) v33x26 v34x27) undef) ⟨fun v35x28 => @bnd (pickV v21x15 (.bool true) v35x28) ⟨fun
  v36x29 => @kifB v36x29 ⟨@bnd (nilV a0) ⟨fun v38x30 => @bnd (aFieldAddr Tryz.prog H 81 v38x30 2) ⟨fun v39x31 => @bndS (aStore Tryz.prog H 4 v39x31 (.bool false)) ⟨fun _ H33 => k (.string { data := #[] }) H33⟩⟩⟩⟩ ⟨@bnd (nilV a0)
  ⟨fun v41x34 => @bnd (aFieldAddr Tryz.prog H 81 v41x34 1) ⟨fun v42x35 => @bnd (aLoad Tryz.prog H 3 v42x35) ⟨fun v43x36 => @bnd (aBin2 Tryz.prog H .add 3 (.tmp 43) (.const (.int .i64 1)) v43x36 (.int .i64 1)) ⟨fun v44x37 => @bnd
  (nilV a0) ⟨fun v45x38 => @bnd (aFieldAddr Tryz.prog H 81 v45x38 1) ⟨fun v46x39 => @bndS (aStore Tryz.prog H 3 v46x39 v44x37) ⟨fun _ H41 => @bnd (nilV a0) ⟨fun v48x42 => @bnd (aFieldAddr Tryz.prog H41 81 v48x42 0) ⟨fun v49x43 =>
  @bnd (aLoad Tryz.prog H41 23 v49x43) ⟨fun v50x44 => @bnd (nilV a0) ⟨fun v52x45 => @bnd (aFieldAddr Tryz.prog H41 81 v52x45 1) ⟨fun v53x46 => @bnd (aLoad Tryz.prog H41 3 v53x46) ⟨fun v54x47 => @bnd (aBin2 Tryz.prog H41 .sub 3
  (.tmp 54) (.const (.int .i64 1)) v54x47 (.int .i64 1)) ⟨fun v55x48 => @bnd (aIndexAddr Tryz.prog H41 23 v50x44 v55x48) ⟨fun v56x49 => @bnd (aFieldAddr Tryz.prog H41 70 v56x49 1) ⟨fun v57x50 => @bnd (aLoad Tryz.prog H41 9
  v57x50) ⟨fun v58x51 => k v58x51 H41⟩⟩⟩⟩⟩⟩⟩⟩⟩⟩⟩⟩⟩⟩⟩⟩⟩⟩⟩⟩⟩⟩⟩⟩⟩⟩⟩⟩⟩⟩⟩⟩⟩⟩⟩⟩⟩⟩⟩⟩⟩⟩⟩⟩⟩⟩⟩) := by kernel_rfl
-- tocsin/expr.ops
theorem d128 (H : AHeap) (k : Value → AHeap → Prop) : kbody Tryz.prog Tryz.f128 [] H k = (@bndL Tryz.prog H 42 3 [(0, (.string { data := #[61] })), (1, (.string { data := #[33, 61] })), (2, (.string { data := #[94, 61] }))] ⟨fun
  v1x1 H2 => k v1x1 H2⟩) := by kernel_rfl
-- strconv.Atoi
theorem d129 (a0 : Value) (H : AHeap) (k : Value → AHeap → Prop) : kbody Tryz.prog Tryz.f129 [a0] H k = (@bndC Tryz.prog 153 [a0] H ⟨fun v8x1 H2 => @bnd (tupV v8x1 0) ⟨fun v9x3 => @bnd (tupV v8x1 1) ⟨fun v10x4 => @bnd (aBin2
  Tryz.prog H2 .neq 118 (.tmp 11) (.const .nilIface) v10x4 .nilIface) ⟨fun v12x5 => @kifB v12x5 ⟨@bndC Tryz.prog 154 [(.string { data := #[65, 116, 111, 105] }), a0, (.int .i64 0), (.int .i64 0), v10x4] H2 ⟨fun v16x6 H7 => k
  (.tuple #[v9x3, v16x6]) H7⟩⟩ ⟨k (.tuple #[v9x3, .nilIface]) H2⟩⟩⟩⟩⟩) := by kernel_rfl
-- tocsin/fixed.Parse
def L130x0 (n : Nat) (k : Value → AHeap → Prop) (sl : List Value) (H : AHeap) : Prop := kit Tryz.prog (cl (cl (cr (cl (cr (cr (cr (cr (cr (cb Tryz.f130)))))))))) n (kblk 0 (kseq Tryz.prog (cr (cr (cr (cr (cr (cr (cb
  Tryz.f130))))))) (kfin Tryz.prog Tryz.f130 k))) .normal sl H
def S130x0 (k : Value → AHeap → Prop) (sl : List Value) (H : AHeap) : Prop := kseq Tryz.prog (cr (cr (cr (cr (cr (cr (cb Tryz.f130))))))) (kfin Tryz.prog Tryz.f130 k) .normal sl H
def S130x1 (k : Value → AHeap → Prop) (sl : List Value) (H : AHeap) : Prop := kseq Tryz.prog (cr (cr (cr (cr (cr (cr (cr (cb Tryz.f130)))))))) (kfin Tryz.prog Tryz.f130 k) .normal sl H
def B130x0 (n0 : Nat) (k : Value → AHeap → Prop) (sl : List Value) (H : AHeap) : Prop := (kseq Tryz.prog (cr (cr (cl (cl (cr (cr (cl (cl (cr (cl (cr (cr (cr (cr (cr (cb Tryz.f130)))))))))))))))) (kblk 1 (kseq Tryz.prog (cr (cr
  (cr (cl (cl (cr (cl (cr (cr (cr (cr (cr (cb Tryz.f130))))))))))))) (kit Tryz.prog (cl (cl (cr (cl (cr (cr (cr (cr (cr (cb Tryz.f130)))))))))) n0 (kblk 0 (kseq Tryz.prog (cr (cr (cr (cr (cr (cr (cb Tryz.f130))))))) (kfin
  Tryz.prog Tryz.f130 k))))))) (.exit 0) sl H
def B130x1 (n0 : Nat) (k : Value → AHeap → Prop) (sl : List Value) (H : AHeap) : Prop := (kseq Tryz.prog (cr (cr (cl (cl (cr (cl (cr (cr (cr (cr (cr (cb Tryz.f130)))))))))))) (kit Tryz.prog (cl (cl (cr (cl (cr (cr (cr (cr (cr (cb
  Tryz.f130)))))))))) n0 (kblk 0 (kseq Tryz.prog (cr (cr (cr (cr (cr (cr (cb Tryz.f130))))))) (kfin Tryz.prog Tryz.f130 k))))) (.exit 0) sl H
theorem B130x0q (n0 : Nat) (sl : List Value) (H : AHeap) (k : Value → AHeap → Prop) : B130x0 n0 k sl H = S130x0  k sl H := by kernel_rfl
theorem B130x1q (n0 : Nat) (sl : List Value) (H : AHeap) (k : Value → AHeap → Prop) : B130x1 n0 k sl H = S130x0  k sl H := by kernel_rfl
theorem d130 (a0 : Value) (H : AHeap) (k : Value → AHeap → Prop) : kbody Tryz.prog Tryz.f130 [a0] H k = (@bndC Tryz.prog 155 [a0, (.string { data := #[45] })] H ⟨fun v14x1 H2 => @bnd (tupV v14x1 0) ⟨fun v15x3 => @bnd (tupV v14x1
  1) ⟨fun v16x4 => @bndC Tryz.prog 156 [v15x3] H2 ⟨fun v19x5 H6 => @bnd (tupV v19x5 0) ⟨fun v20x7 => @bnd (tupV v19x5 1) ⟨fun v21x8 => @bnd (tupV v19x5 2) ⟨fun v22x9 => @bnd (unV Tryz.prog .not v22x9) ⟨fun v24x10 => @kifB v24x10
  ⟨k (.tuple #[(.int .i64 0), (.int .i64 10)]) H6⟩ ⟨@bnd (aBin2 Tryz.prog H6 .add 9 (.tmp 25) (.tmp 26) v20x7 v21x8) ⟨fun v27x11 => @bnd (aLen Tryz.prog H6 9 v21x8) ⟨fun v29x12 => @bnd (aBin2 Tryz.prog H6 .sub 3 (.const (.int
  .i64 3)) (.tmp 29) (.int .i64 3) v29x12) ⟨fun v30x13 => @bndC Tryz.prog 157 [(.string { data := #[48] }), v30x13] H6 ⟨fun v31x14 H15 => @bnd (aBin2 Tryz.prog H15 .add 9 (.tmp 27) (.tmp 31) v27x11 v31x14) ⟨fun v32x16 => @bndE
  (aConv Tryz.prog H15 9 55 v32x16) ⟨fun v33x17 H18 => @bnd (aLen Tryz.prog H18 55 v33x17) ⟨fun v34x19 => ∃ n, L130x0 n  k [a0, undef, (.int .i64 0), (.int .i64 0), v15x3, v16x4, v20x7, v21x8, v22x9, (.int .i64 0), undef, undef,
  v14x1, a0, v14x1, v15x3, v16x4, v19x5, v15x3, v19x5, v20x7, v21x8, v22x9, v22x9, v24x10, v20x7, v21x8, v27x11, v21x8, v29x12, v30x13, v31x14, v32x16, v33x17, v34x19, (.int .i64 0), undef, undef, undef, undef, undef, undef,
  undef, undef, undef, undef, undef, undef, undef, undef, undef, undef, undef, undef, undef, undef, undef] H18⟩⟩⟩⟩⟩⟩⟩⟩⟩⟩⟩⟩⟩⟩⟩⟩) := by kernel_rfl
theorem L130x0q (n0 : Nat) (s0 s1 s2 s3 s4 s5 s6 s7 s8 s9 s10 s11 s12 s13 s14 s15 s16 s17 s18 s19 s20 s21 s22 s23 s24 s25 s26 s27 s28 s29 s30 s31 s32 s33 s34 s35 s36 s37 s38 s39 s40 s41 s42 s43 s44 s45 s46 s47 s48 s49 s50 s51 s52
  s53 s54 s55 s56 : Value) (H : AHeap) (k : Value → AHeap → Prop) : L130x0 (n0 + 1) k [s0, s1, s2, s3, s4, s5, s6, s7, s8, s9, s10, s11, s12, s13, s14, s15, s16, s17, s18, s19, s20, s21, s22, s23, s24, s25, s26, s27, s28, s29,
  s30, s31, s32, s33, s34, s35, s36, s37, s38, s39, s40, s41, s42, s43, s44, s45, s46, s47, s48, s49, s50, s51, s52, s53, s54, s55, s56] H = (@bnd (aBin2 Tryz.prog H .lss 3 (.tmp 35) (.tmp 34) s35 s34) ⟨fun v36x20 => @kifB v36x20
  ⟨@bnd (aIndexAddr Tryz.prog H 55 s33 s35) ⟨fun v37x21 => @bnd (aLoad Tryz.prog H 5 v37x21) ⟨fun v38x22 => @bnd (aBin2 Tryz.prog H .sub 5 (.tmp 40) (.const (.int .u8 48)) v38x22 (.int .u8 48)) ⟨fun v41x23 => @bnd (convV
  Tryz.prog H 5 2 v41x23) ⟨fun v42x24 => @bnd (aBin2 Tryz.prog H .sub 2 (.const (.int .i64 4611686018427387903)) (.tmp 42) (.int .i64 4611686018427387903) v42x24) ⟨fun v43x25 => @bnd (aBin2 Tryz.prog H .quo 2 (.tmp 43) (.const
  (.int .i64 10)) v43x25 (.int .i64 10)) ⟨fun v44x26 => @bnd (aBin2 Tryz.prog H .gtr 2 (.tmp 39) (.tmp 44) s9 v44x26) ⟨fun v45x27 => @kifB v45x27 ⟨B130x0 n0 k [s0, s1, s2, s3, s4, s5, s6, s7, s8, (.int .i64 4611686018427387903),
  s10, v38x22, s12, s13, s14, s15, s16, s17, s18, s19, s20, s21, s22, s23, s24, s25, s26, s27, s28, s29, s30, s31, s32, s33, s34, s35, v36x20, v37x21, v38x22, s9, v38x22, v41x23, v42x24, v43x25, v44x26, v45x27, s46, s47, s48,
  s49, s50, s51, s52, s53, s54, s55, s56] H⟩ ⟨@bnd (aBin2 Tryz.prog H .mul 2 (.const (.int .i64 10)) (.tmp 46) (.int .i64 10) s9) ⟨fun v47x28 => @bnd (aBin2 Tryz.prog H .sub 5 (.tmp 48) (.const (.int .u8 48)) v38x22 (.int .u8
  48)) ⟨fun v49x29 => @bnd (convV Tryz.prog H 5 2 v49x29) ⟨fun v50x30 => @bnd (aBin2 Tryz.prog H .add 2 (.tmp 47) (.tmp 50) v47x28 v50x30) ⟨fun v51x31 => @bnd (aBin2 Tryz.prog H .add 3 (.tmp 35) (.const (.int .i64 1)) s35 (.int
  .i64 1)) ⟨fun v52x32 => L130x0 n0  k [s0, s1, s2, s3, s4, s5, s6, s7, s8, v51x31, s10, v38x22, s12, s13, s14, s15, s16, s17, s18, s19, s20, s21, s22, s23, s24, s25, s26, s27, s28, s29, s30, s31, s32, s33, s34, v52x32, v36x20,
  v37x21, v38x22, s9, v38x22, v41x23, v42x24, v43x25, v44x26, v45x27, s9, v47x28, v38x22, v49x29, v50x30, v51x31, v52x32, s53, s54, s55, s56] H⟩⟩⟩⟩⟩⟩⟩⟩⟩⟩⟩⟩⟩⟩ ⟨B130x1 n0 k [s0, s1, s2, s3, s4, s5, s6, s7, s8, s9, s10, s11, s12,
  s13, s14, s15, s16, s17, s18, s19, s20, s21, s22, s23, s24, s25, s26, s27, s28, s29, s30, s31, s32, s33, s34, s35, v36x20, s37, s38, s39, s40, s41, s42, s43, s44, s45, s46, s47, s48, s49, s50, s51, s52, s53, s54, s55, s56] H⟩⟩)
  := by kernel_rfl
theorem S130x0q (s0 s1 s2 s3 s4 s5 s6 s7 s8 s9 s10 s11 s12 s13 s14 s15 s16 s17 s18 s19 s20 s21 s22 s23 s24 s25 s26 s27 s28 s29 s30 s31 s32 s33 s34 s35 s36 s37 s38 s39 s40 s41 s42 s43 s44 s45 s46 s47 s48 s49 s50 s51 s52 s53 s54
  s55 s56 : Value) (H : AHeap) (k : Value → AHeap → Prop) : S130x0 k [s0, s1, s2, s3, s4, s5, s6, s7, s8, s9, s10, s11, s12, s13, s14, s15, s16, s17, s18, s19, s20, s21, s22, s23, s24, s25, s26, s27, s28, s29, s30, s31, s32, s33,
  s34, s35, s36, s37, s38, s39, s40, s41, s42, s43, s44, s45, s46, s47, s48, s49, s50, s51, s52, s53, s54, s55, s56] H = (@kifB s5 ⟨@bnd (unV Tryz.prog .neg s9) ⟨fun v55x33 => S130x1  k [s0, s1, s2, s3, s4, s5, s6, s7, s8,
  v55x33, s10, s11, s12, s13, s14, s15, s16, s17, s18, s19, s20, s21, s22, s23, s24, s25, s26, s27, s28, s29, s30, s31, s32, s33, s34, s35, s36, s37, s38, s39, s40, s41, s42, s43, s44, s45, s46, s47, s48, s49, s50, s51, s52, s5,
  s9, v55x33, s56] H⟩⟩ ⟨S130x1  k [s0, s1, s2, s3, s4, s5, s6, s7, s8, s9, s10, s11, s12, s13, s14, s15, s16, s17, s18, s19, s20, s21, s22, s23, s24, s25, s26, s27, s28, s29, s30, s31, s32, s33, s34, s35, s36, s37, s38, s39, s40,
  s41, s42, s43, s44, s45, s46, s47, s48, s49, s50, s51, s52, s5, s54, s55, s56] H⟩) := by kernel_rfl
theorem S130x1q (s0 s1 s2 s3 s4 s5 s6 s7 s8 s9 s10 s11 s12 s13 s14 s15 s16 s17 s18 s19 s20 s21 s22 s23 s24 s25 s26 s27 s28 s29 s30 s31 s32 s33 s34 s35 s36 s37 s38 s39 s40 s41 s42 s43 s44 s45 s46 s47 s48 s49 s50 s51 s52 s53 s54
  s55 s56 : Value) (H : AHeap) (k : Value → AHeap → Prop) : S130x1 k [s0, s1, s2, s3, s4, s5, s6, s7, s8, s9, s10, s11, s12, s13, s14, s15, s16, s17, s18, s19, s20, s21, s22, s23, s24, s25, s26, s27, s28, s29, s30, s31, s32, s33,
  s34, s35, s36, s37, s38, s39, s40, s41, s42, s43, s44, s45, s46, s47, s48, s49, s50, s51, s52, s53, s54, s55, s56] H = (k (.tuple #[s9, (.int .i64 0)]) H) := by kernel_rfl
-- strings.HasPrefix
theorem d133 (a0 a1 : Value) (H : AHeap) (k : Value → AHeap → Prop) : kbody Tryz.prog Tryz.f133 [a0, a1] H k = (@bndC Tryz.prog 158 [a0, a1] H ⟨fun v7x1 H2 => k v7x1 H2⟩) := by kernel_rfl
-- strings.trimRightByte
theorem d138 (a0 : Value) (H : AHeap) (k : Value → AHeap → Prop) : kbody Tryz.prog Tryz.f138 [a0] H k = (@bnd (aLen Tryz.prog H 9 a0) ⟨fun v4x1 => @bnd (aBin2 Tryz.prog H .geq 3 (.tmp 4) (.const (.int .i64 1)) v4x1 (.int .i64 1))
  ⟨fun v5x2 => @bnd (gif v5x2 true ((some a0)) undef) ⟨fun v7x3 => @bnd (gif v5x2 true (aLen Tryz.prog H 9 v7x3) undef) ⟨fun v8x4 => @bnd (gif v5x2 true (aBin2 Tryz.prog H .leq 3 (.tmp 8) (.const (.int .i64 16)) v8x4 (.int .i64
  16)) undef) ⟨fun v9x5 => @bnd (pickV v5x2 v9x5 (.bool false)) ⟨fun v10x6 => @bnd (gif v10x6 true ((some a0)) undef) ⟨fun v12x7 => @bnd (gif v10x6 true (aIndex Tryz.prog 9 v12x7 (.int .i64 0)) undef) ⟨fun v13x8 => @bndG v10x6
  true H ⟨fun v14x9 H10 => ACalls Tryz.prog 162 [v13x8] H v14x9 H10⟩ ⟨fun v14x9 H10 => @bnd (pickV v10x6 v14x9 (.bool false)) ⟨fun v15x11 => @bnd (gif v15x11 true ((some a0)) undef) ⟨fun v17x12 => @bndG v15x11 true H10 ⟨fun
  v18x13 H14 => ACalls Tryz.prog 163 [v17x12, (.func (.func 164) #[] #[])] H10 v18x13 H14⟩ ⟨fun v18x13 H14 => @bnd (pickV v15x11 v18x13 (.bool false)) ⟨fun v19x15 => k v19x15 H14⟩⟩⟩⟩⟩⟩⟩⟩⟩⟩⟩⟩⟩) := by kernel_rfl
-- tocsin/match.may
theorem d139 (a0 : Value) (H : AHeap) (k : Value → AHeap → Prop) : kbody Tryz.prog Tryz.f139 [a0] H k = (@bnd (aBin2 Tryz.prog H .eql 9 (.tmp 3) (.const (.string { data := #[] })) a0 (.string { data := #[] })) ⟨fun v4x1 => @bnd
  (gif v4x1 false ((some a0)) undef) ⟨fun v6x2 => @bndG v4x1 false H ⟨fun v7x3 H4 => ACalls Tryz.prog 165 [v6x2] H v7x3 H4⟩ ⟨fun v7x3 H4 => @bnd (pickV v4x1 (.bool true) v7x3) ⟨fun v8x5 => k v8x5 H4⟩⟩⟩⟩) := by kernel_rfl
-- internal/strconv.small
end Go.Vi
