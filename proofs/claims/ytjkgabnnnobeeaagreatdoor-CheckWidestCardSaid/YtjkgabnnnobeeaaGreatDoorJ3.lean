/- Facts of the types. What the functions' bodies come to. What the functions' bodies come to. What the functions' bodies come to. What the functions' bodies come to. -/
import Derived.Test.YtjkgabnnnobeeaaGreatDoorJ2
import Derived.Test.YtjkgabnnnobeeaaGreatDoorChecked
namespace Go.Vi
open Go Go.Proofs
@[simp] theorem tg1 : tagg Tryz.prog 1 = some false := by kernel_rfl
@[simp] theorem ts1 : tsize Tryz.prog 1 = some 1 := by kernel_rfl
@[simp] theorem tal1 (H : AHeap) : aAlloc Tryz.prog H 1 = some (.pointer (some ⟨H.length, 0, some 1⟩), H ++ [.cells [.nilFunc] 1]) := by kernel_rfl
@[simp] theorem tu1 : Tryz.prog.underlying 1 = some (TypeDesc.func #[] #[] false) := by kernel_rfl
@[simp] theorem tg2 : tagg Tryz.prog 2 = some false := by kernel_rfl
@[simp] theorem ts2 : tsize Tryz.prog 2 = some 1 := by kernel_rfl
@[simp] theorem tal2 (H : AHeap) : aAlloc Tryz.prog H 2 = some (.pointer (some ⟨H.length, 0, some 1⟩), H ++ [.cells [.int IntKind.i64 0] 2]) := by kernel_rfl
@[simp] theorem tu2 : Tryz.prog.underlying 2 = some (TypeDesc.int IntKind.i64) := by kernel_rfl
@[simp] theorem tg3 : tagg Tryz.prog 3 = some false := by kernel_rfl
@[simp] theorem ts3 : tsize Tryz.prog 3 = some 1 := by kernel_rfl
@[simp] theorem tal3 (H : AHeap) : aAlloc Tryz.prog H 3 = some (.pointer (some ⟨H.length, 0, some 1⟩), H ++ [.cells [.int IntKind.i64 0] 3]) := by kernel_rfl
@[simp] theorem tu3 : Tryz.prog.underlying 3 = some (TypeDesc.int IntKind.i64) := by kernel_rfl
@[simp] theorem tg4 : tagg Tryz.prog 4 = some false := by kernel_rfl
@[simp] theorem ts4 : tsize Tryz.prog 4 = some 1 := by kernel_rfl
@[simp] theorem tal4 (H : AHeap) : aAlloc Tryz.prog H 4 = some (.pointer (some ⟨H.length, 0, some 1⟩), H ++ [.cells [.bool false] 4]) := by kernel_rfl
@[simp] theorem tu4 : Tryz.prog.underlying 4 = some TypeDesc.bool := by kernel_rfl
@[simp] theorem tg5 : tagg Tryz.prog 5 = some false := by kernel_rfl
@[simp] theorem ts5 : tsize Tryz.prog 5 = some 1 := by kernel_rfl
@[simp] theorem tal5 (H : AHeap) : aAlloc Tryz.prog H 5 = some (.pointer (some ⟨H.length, 0, some 1⟩), H ++ [.cells [.int IntKind.u8 0] 5]) := by kernel_rfl
@[simp] theorem tu5 : Tryz.prog.underlying 5 = some (TypeDesc.int IntKind.u8) := by kernel_rfl
@[simp] theorem tg6 : tagg Tryz.prog 6 = some false := by kernel_rfl
@[simp] theorem ts6 : tsize Tryz.prog 6 = some 1 := by kernel_rfl
@[simp] theorem tal6 (H : AHeap) : aAlloc Tryz.prog H 6 = some (.pointer (some ⟨H.length, 0, some 1⟩), H ++ [.cells [.int IntKind.u8 0] 6]) := by kernel_rfl
@[simp] theorem tu6 : Tryz.prog.underlying 6 = some (TypeDesc.int IntKind.u8) := by kernel_rfl
@[simp] theorem tg7 : tagg Tryz.prog 7 = some true := by kernel_rfl
@[simp] theorem ts7 : tsize Tryz.prog 7 = some 4 := by kernel_rfl
@[simp] theorem tf7x0 : afield Tryz.prog 7 0 = some (0, 2) := by kernel_rfl
@[simp] theorem tf7x1 : afield Tryz.prog 7 1 = some (1, 3) := by kernel_rfl
@[simp] theorem tf7x2 : afield Tryz.prog 7 2 = some (2, 4) := by kernel_rfl
@[simp] theorem tf7x3 : afield Tryz.prog 7 3 = some (3, 6) := by kernel_rfl
@[simp] theorem tal7 (H : AHeap) : aAlloc Tryz.prog H 7 = some (.pointer (some ⟨H.length, 0, some 4⟩), H ++ [.cells [.int IntKind.i64 0, .int IntKind.i64 0, .bool false, .int IntKind.u8 0] 7]) := by kernel_rfl
@[simp] theorem tbv7 (l : List (Nat × Value)) : buildV Tryz.prog 7 l = bldV #[.int IntKind.i64 0, .int IntKind.i64 0, .bool false, .int IntKind.u8 0] [(0, 1), (1, 1), (2, 1), (3, 1)] l := by kernel_rfl
@[simp] theorem tg8 : tagg Tryz.prog 8 = some true := by kernel_rfl
@[simp] theorem ts8 : tsize Tryz.prog 8 = some 4 := by kernel_rfl
@[simp] theorem tf8x0 : afield Tryz.prog 8 0 = some (0, 2) := by kernel_rfl
@[simp] theorem tf8x1 : afield Tryz.prog 8 1 = some (1, 3) := by kernel_rfl
@[simp] theorem tf8x2 : afield Tryz.prog 8 2 = some (2, 4) := by kernel_rfl
@[simp] theorem tf8x3 : afield Tryz.prog 8 3 = some (3, 6) := by kernel_rfl
@[simp] theorem tal8 (H : AHeap) : aAlloc Tryz.prog H 8 = some (.pointer (some ⟨H.length, 0, some 4⟩), H ++ [.cells [.int IntKind.i64 0, .int IntKind.i64 0, .bool false, .int IntKind.u8 0] 8]) := by kernel_rfl
@[simp] theorem tbv8 (l : List (Nat × Value)) : buildV Tryz.prog 8 l = bldV #[.int IntKind.i64 0, .int IntKind.i64 0, .bool false, .int IntKind.u8 0] [(0, 1), (1, 1), (2, 1), (3, 1)] l := by kernel_rfl
@[simp] theorem tg9 : tagg Tryz.prog 9 = some false := by kernel_rfl
@[simp] theorem ts9 : tsize Tryz.prog 9 = some 1 := by kernel_rfl
@[simp] theorem tal9 (H : AHeap) : aAlloc Tryz.prog H 9 = some (.pointer (some ⟨H.length, 0, some 1⟩), H ++ [.cells [.string ⟨#[]⟩] 9]) := by kernel_rfl
@[simp] theorem tu9 : Tryz.prog.underlying 9 = some TypeDesc.string := by kernel_rfl
@[simp] theorem tg10 : tagg Tryz.prog 10 = some false := by kernel_rfl
@[simp] theorem ts10 : tsize Tryz.prog 10 = some 1 := by kernel_rfl
@[simp] theorem tal10 (H : AHeap) : aAlloc Tryz.prog H 10 = some (.pointer (some ⟨H.length, 0, some 1⟩), H ++ [.cells [.string ⟨#[]⟩] 10]) := by kernel_rfl
@[simp] theorem tu10 : Tryz.prog.underlying 10 = some TypeDesc.string := by kernel_rfl
@[simp] theorem tg11 : tagg Tryz.prog 11 = some false := by kernel_rfl
@[simp] theorem ts11 : tsize Tryz.prog 11 = some 1 := by kernel_rfl
@[simp] theorem tal11 (H : AHeap) : aAlloc Tryz.prog H 11 = some (.pointer (some ⟨H.length, 0, some 1⟩), H ++ [.cells [.string ⟨#[]⟩] 11]) := by kernel_rfl
@[simp] theorem tu11 : Tryz.prog.underlying 11 = some TypeDesc.string := by kernel_rfl
@[simp] theorem tg12 : tagg Tryz.prog 12 = some false := by kernel_rfl
@[simp] theorem ts12 : tsize Tryz.prog 12 = some 1 := by kernel_rfl
@[simp] theorem tal12 (H : AHeap) : aAlloc Tryz.prog H 12 = some (.pointer (some ⟨H.length, 0, some 1⟩), H ++ [.cells [.int IntKind.u64 0] 12]) := by kernel_rfl
@[simp] theorem tu12 : Tryz.prog.underlying 12 = some (TypeDesc.int IntKind.u64) := by kernel_rfl
@[simp] theorem tg13 : tagg Tryz.prog 13 = some true := by kernel_rfl
@[simp] theorem ts13 : tsize Tryz.prog 13 = some 2 := by kernel_rfl
@[simp] theorem tf13x0 : afield Tryz.prog 13 0 = some (0, 9) := by kernel_rfl
@[simp] theorem tf13x1 : afield Tryz.prog 13 1 = some (1, 12) := by kernel_rfl
@[simp] theorem tal13 (H : AHeap) : aAlloc Tryz.prog H 13 = some (.pointer (some ⟨H.length, 0, some 2⟩), H ++ [.cells [.string ⟨#[]⟩, .int IntKind.u64 0] 13]) := by kernel_rfl
@[simp] theorem tbv13 (l : List (Nat × Value)) : buildV Tryz.prog 13 l = bldV #[.string ⟨#[]⟩, .int IntKind.u64 0] [(0, 1), (1, 1)] l := by kernel_rfl
@[simp] theorem tg14 : tagg Tryz.prog 14 = some true := by kernel_rfl
@[simp] theorem ts14 : tsize Tryz.prog 14 = some 2 := by kernel_rfl
@[simp] theorem tf14x0 : afield Tryz.prog 14 0 = some (0, 9) := by kernel_rfl
@[simp] theorem tf14x1 : afield Tryz.prog 14 1 = some (1, 12) := by kernel_rfl
@[simp] theorem tal14 (H : AHeap) : aAlloc Tryz.prog H 14 = some (.pointer (some ⟨H.length, 0, some 2⟩), H ++ [.cells [.string ⟨#[]⟩, .int IntKind.u64 0] 14]) := by kernel_rfl
@[simp] theorem tbv14 (l : List (Nat × Value)) : buildV Tryz.prog 14 l = bldV #[.string ⟨#[]⟩, .int IntKind.u64 0] [(0, 1), (1, 1)] l := by kernel_rfl
@[simp] theorem tg15 : tagg Tryz.prog 15 = some false := by kernel_rfl
@[simp] theorem ts15 : tsize Tryz.prog 15 = some 1 := by kernel_rfl
@[simp] theorem tal15 (H : AHeap) : aAlloc Tryz.prog H 15 = some (.pointer (some ⟨H.length, 0, some 1⟩), H ++ [.cells [.pointer none] 15]) := by kernel_rfl
@[simp] theorem tu15 : Tryz.prog.underlying 15 = some (TypeDesc.pointer 259) := by kernel_rfl
@[simp] theorem tg16 : tagg Tryz.prog 16 = some false := by kernel_rfl
@[simp] theorem ts16 : tsize Tryz.prog 16 = some 1 := by kernel_rfl
@[simp] theorem tal16 (H : AHeap) : aAlloc Tryz.prog H 16 = some (.pointer (some ⟨H.length, 0, some 1⟩), H ++ [.cells [.pointer none] 16]) := by kernel_rfl
@[simp] theorem tu16 : Tryz.prog.underlying 16 = some (TypeDesc.pointer 262) := by kernel_rfl
@[simp] theorem tg17 : tagg Tryz.prog 17 = some false := by kernel_rfl
@[simp] theorem ts17 : tsize Tryz.prog 17 = some 1 := by kernel_rfl
@[simp] theorem tal17 (H : AHeap) : aAlloc Tryz.prog H 17 = some (.pointer (some ⟨H.length, 0, some 1⟩), H ++ [.cells [.pointer none] 17]) := by kernel_rfl
@[simp] theorem tu17 : Tryz.prog.underlying 17 = some (TypeDesc.pointer 269) := by kernel_rfl
@[simp] theorem tg18 : tagg Tryz.prog 18 = some true := by kernel_rfl
@[simp] theorem ts18 : tsize Tryz.prog 18 = some 1 := by kernel_rfl
@[simp] theorem tf18x0 : afield Tryz.prog 18 0 = some (0, 17) := by kernel_rfl
@[simp] theorem tal18 (H : AHeap) : aAlloc Tryz.prog H 18 = some (.pointer (some ⟨H.length, 0, some 1⟩), H ++ [.cells [.pointer none] 18]) := by kernel_rfl
@[simp] theorem tbv18 (l : List (Nat × Value)) : buildV Tryz.prog 18 l = bldV #[.pointer none] [(0, 1)] l := by kernel_rfl
@[simp] theorem tg19 : tagg Tryz.prog 19 = some true := by kernel_rfl
@[simp] theorem ts19 : tsize Tryz.prog 19 = some 1 := by kernel_rfl
@[simp] theorem tf19x0 : afield Tryz.prog 19 0 = some (0, 17) := by kernel_rfl
@[simp] theorem tal19 (H : AHeap) : aAlloc Tryz.prog H 19 = some (.pointer (some ⟨H.length, 0, some 1⟩), H ++ [.cells [.pointer none] 19]) := by kernel_rfl
@[simp] theorem tbv19 (l : List (Nat × Value)) : buildV Tryz.prog 19 l = bldV #[.pointer none] [(0, 1)] l := by kernel_rfl
@[simp] theorem tg20 : tagg Tryz.prog 20 = some false := by kernel_rfl
@[simp] theorem ts20 : tsize Tryz.prog 20 = some 1 := by kernel_rfl
@[simp] theorem tal20 (H : AHeap) : aAlloc Tryz.prog H 20 = some (.pointer (some ⟨H.length, 0, some 1⟩), H ++ [.cells [.nilIface] 20]) := by kernel_rfl
@[simp] theorem tu20 : Tryz.prog.underlying 20 = some (TypeDesc.interface #[]) := by kernel_rfl
@[simp] theorem tg21 : tagg Tryz.prog 21 = some false := by kernel_rfl
@[simp] theorem ts21 : tsize Tryz.prog 21 = some 1 := by kernel_rfl
@[simp] theorem tal21 (H : AHeap) : aAlloc Tryz.prog H 21 = some (.pointer (some ⟨H.length, 0, some 1⟩), H ++ [.cells [.int IntKind.i32 0] 21]) := by kernel_rfl
@[simp] theorem tu21 : Tryz.prog.underlying 21 = some (TypeDesc.int IntKind.i32) := by kernel_rfl
@[simp] theorem tg22 : tagg Tryz.prog 22 = some false := by kernel_rfl
@[simp] theorem ts22 : tsize Tryz.prog 22 = some 1 := by kernel_rfl
@[simp] theorem tal22 (H : AHeap) : aAlloc Tryz.prog H 22 = some (.pointer (some ⟨H.length, 0, some 1⟩), H ++ [.cells [.nilFunc] 22]) := by kernel_rfl
@[simp] theorem tu22 : Tryz.prog.underlying 22 = some (TypeDesc.func #[] #[4] false) := by kernel_rfl
@[simp] theorem tg23 : tagg Tryz.prog 23 = some false := by kernel_rfl
@[simp] theorem ts23 : tsize Tryz.prog 23 = some 1 := by kernel_rfl
@[simp] theorem tal23 (H : AHeap) : aAlloc Tryz.prog H 23 = some (.pointer (some ⟨H.length, 0, some 1⟩), H ++ [.cells [.int IntKind.i64 0] 23]) := by kernel_rfl
@[simp] theorem tu23 : Tryz.prog.underlying 23 = some (TypeDesc.int IntKind.i64) := by kernel_rfl
@[simp] theorem tg24 : tagg Tryz.prog 24 = some false := by kernel_rfl
@[simp] theorem ts24 : tsize Tryz.prog 24 = some 1 := by kernel_rfl
@[simp] theorem tal24 (H : AHeap) : aAlloc Tryz.prog H 24 = some (.pointer (some ⟨H.length, 0, some 1⟩), H ++ [.cells [.nilFunc] 24]) := by kernel_rfl
@[simp] theorem tu24 : Tryz.prog.underlying 24 = some (TypeDesc.func #[28] #[23] false) := by kernel_rfl
@[simp] theorem tg25 : tagg Tryz.prog 25 = some false := by kernel_rfl
@[simp] theorem ts25 : tsize Tryz.prog 25 = some 1 := by kernel_rfl
@[simp] theorem tal25 (H : AHeap) : aAlloc Tryz.prog H 25 = some (.pointer (some ⟨H.length, 0, some 1⟩), H ++ [.cells [.slice none 0 0] 25]) := by kernel_rfl
@[simp] theorem tbs25 (H : AHeap) (n : Nat) (l : List (Nat × Value)) : aBuildSlice Tryz.prog H 25 n l = bslV 40 #[.string ⟨#[]⟩, .string ⟨#[]⟩, .slice none 0 0, .int IntKind.i64 0, .int IntKind.i64 0, .int IntKind.i64 0, .slice none 0 0, .string ⟨#[]⟩] H n l := by kernel_rfl
@[simp] theorem tel25 : aElem Tryz.prog 25 = some (40, 8, 120) := by kernel_rfl
@[simp] theorem tu25 : Tryz.prog.underlying 25 = some (TypeDesc.slice 40) := by kernel_rfl
@[simp] theorem tg26 : tagg Tryz.prog 26 = some false := by kernel_rfl
@[simp] theorem ts26 : tsize Tryz.prog 26 = some 1 := by kernel_rfl
@[simp] theorem tal26 (H : AHeap) : aAlloc Tryz.prog H 26 = some (.pointer (some ⟨H.length, 0, some 1⟩), H ++ [.cells [.slice none 0 0] 26]) := by kernel_rfl
@[simp] theorem tbs26 (H : AHeap) (n : Nat) (l : List (Nat × Value)) : aBuildSlice Tryz.prog H 26 n l = bslV 33 #[.string ⟨#[]⟩, .bool false, .bool false, .bool false, .bool false, .bool false, .bool false, .bool false, .int IntKind.i64 0, .int IntKind.i64 0] H n l := by kernel_rfl
@[simp] theorem tel26 : aElem Tryz.prog 26 = some (33, 10, 40) := by kernel_rfl
@[simp] theorem tu26 : Tryz.prog.underlying 26 = some (TypeDesc.slice 33) := by kernel_rfl
@[simp] theorem tg27 : tagg Tryz.prog 27 = some true := by kernel_rfl
@[simp] theorem ts27 : tsize Tryz.prog 27 = some 4 := by kernel_rfl
@[simp] theorem tf27x0 : afield Tryz.prog 27 0 = some (0, 25) := by kernel_rfl
@[simp] theorem tf27x1 : afield Tryz.prog 27 1 = some (1, 26) := by kernel_rfl
@[simp] theorem tf27x2 : afield Tryz.prog 27 2 = some (2, 3) := by kernel_rfl
@[simp] theorem tf27x3 : afield Tryz.prog 27 3 = some (3, 3) := by kernel_rfl
@[simp] theorem tal27 (H : AHeap) : aAlloc Tryz.prog H 27 = some (.pointer (some ⟨H.length, 0, some 4⟩), H ++ [.cells [.slice none 0 0, .slice none 0 0, .int IntKind.i64 0, .int IntKind.i64 0] 27]) := by kernel_rfl
@[simp] theorem tbv27 (l : List (Nat × Value)) : buildV Tryz.prog 27 l = bldV #[.slice none 0 0, .slice none 0 0, .int IntKind.i64 0, .int IntKind.i64 0] [(0, 1), (1, 1), (2, 1), (3, 1)] l := by kernel_rfl
@[simp] theorem tg28 : tagg Tryz.prog 28 = some true := by kernel_rfl
@[simp] theorem ts28 : tsize Tryz.prog 28 = some 4 := by kernel_rfl
@[simp] theorem tf28x0 : afield Tryz.prog 28 0 = some (0, 25) := by kernel_rfl
@[simp] theorem tf28x1 : afield Tryz.prog 28 1 = some (1, 26) := by kernel_rfl
@[simp] theorem tf28x2 : afield Tryz.prog 28 2 = some (2, 3) := by kernel_rfl
@[simp] theorem tf28x3 : afield Tryz.prog 28 3 = some (3, 3) := by kernel_rfl
@[simp] theorem tal28 (H : AHeap) : aAlloc Tryz.prog H 28 = some (.pointer (some ⟨H.length, 0, some 4⟩), H ++ [.cells [.slice none 0 0, .slice none 0 0, .int IntKind.i64 0, .int IntKind.i64 0] 28]) := by kernel_rfl
@[simp] theorem tbv28 (l : List (Nat × Value)) : buildV Tryz.prog 28 l = bldV #[.slice none 0 0, .slice none 0 0, .int IntKind.i64 0, .int IntKind.i64 0] [(0, 1), (1, 1), (2, 1), (3, 1)] l := by kernel_rfl
@[simp] theorem tg29 : tagg Tryz.prog 29 = some false := by kernel_rfl
@[simp] theorem ts29 : tsize Tryz.prog 29 = some 1 := by kernel_rfl
@[simp] theorem tal29 (H : AHeap) : aAlloc Tryz.prog H 29 = some (.pointer (some ⟨H.length, 0, some 1⟩), H ++ [.cells [.nilFunc] 29]) := by kernel_rfl
@[simp] theorem tu29 : Tryz.prog.underlying 29 = some (TypeDesc.func #[3, 3] #[4] false) := by kernel_rfl
@[simp] theorem tg30 : tagg Tryz.prog 30 = some true := by kernel_rfl
@[simp] theorem ts30 : tsize Tryz.prog 30 = some 7 := by kernel_rfl
@[simp] theorem tal30 (H : AHeap) : aAlloc Tryz.prog H 30 = some (.pointer (some ⟨H.length, 0, some 7⟩), H ++ [.cells [.bool false, .bool false, .bool false, .bool false, .bool false, .bool false, .bool false] 30]) := by kernel_rfl
@[simp] theorem tu30 : Tryz.prog.underlying 30 = some (TypeDesc.array 7 4) := by kernel_rfl
@[simp] theorem tg31 : tagg Tryz.prog 31 = some false := by kernel_rfl
@[simp] theorem ts31 : tsize Tryz.prog 31 = some 1 := by kernel_rfl
@[simp] theorem tal31 (H : AHeap) : aAlloc Tryz.prog H 31 = some (.pointer (some ⟨H.length, 0, some 1⟩), H ++ [.cells [.nilFunc] 31]) := by kernel_rfl
@[simp] theorem tu31 : Tryz.prog.underlying 31 = some (TypeDesc.func #[33] #[23] false) := by kernel_rfl
@[simp] theorem tg32 : tagg Tryz.prog 32 = some true := by kernel_rfl
@[simp] theorem ts32 : tsize Tryz.prog 32 = some 10 := by kernel_rfl
@[simp] theorem tf32x0 : afield Tryz.prog 32 0 = some (0, 9) := by kernel_rfl
@[simp] theorem tf32x1 : afield Tryz.prog 32 1 = some (1, 30) := by kernel_rfl
@[simp] theorem tf32x2 : afield Tryz.prog 32 2 = some (8, 3) := by kernel_rfl
@[simp] theorem tf32x3 : afield Tryz.prog 32 3 = some (9, 3) := by kernel_rfl
@[simp] theorem tal32 (H : AHeap) : aAlloc Tryz.prog H 32 = some (.pointer (some ⟨H.length, 0, some 10⟩), H ++ [.cells [.string ⟨#[]⟩, .bool false, .bool false, .bool false, .bool false, .bool false, .bool false, .bool false, .int IntKind.i64 0, .int IntKind.i64 0] 32]) := by kernel_rfl
@[simp] theorem tbv32 (l : List (Nat × Value)) : buildV Tryz.prog 32 l = bldV #[.string ⟨#[]⟩, .bool false, .bool false, .bool false, .bool false, .bool false, .bool false, .bool false, .int IntKind.i64 0, .int IntKind.i64 0] [(0, 1), (1, 7), (8, 1), (9, 1)] l := by kernel_rfl
@[simp] theorem tg33 : tagg Tryz.prog 33 = some true := by kernel_rfl
@[simp] theorem ts33 : tsize Tryz.prog 33 = some 10 := by kernel_rfl
@[simp] theorem tf33x0 : afield Tryz.prog 33 0 = some (0, 9) := by kernel_rfl
@[simp] theorem tf33x1 : afield Tryz.prog 33 1 = some (1, 30) := by kernel_rfl
@[simp] theorem tf33x2 : afield Tryz.prog 33 2 = some (8, 3) := by kernel_rfl
@[simp] theorem tf33x3 : afield Tryz.prog 33 3 = some (9, 3) := by kernel_rfl
@[simp] theorem tal33 (H : AHeap) : aAlloc Tryz.prog H 33 = some (.pointer (some ⟨H.length, 0, some 10⟩), H ++ [.cells [.string ⟨#[]⟩, .bool false, .bool false, .bool false, .bool false, .bool false, .bool false, .bool false, .int IntKind.i64 0, .int IntKind.i64 0] 33]) := by kernel_rfl
@[simp] theorem tbv33 (l : List (Nat × Value)) : buildV Tryz.prog 33 l = bldV #[.string ⟨#[]⟩, .bool false, .bool false, .bool false, .bool false, .bool false, .bool false, .bool false, .int IntKind.i64 0, .int IntKind.i64 0] [(0, 1), (1, 7), (8, 1), (9, 1)] l := by kernel_rfl
@[simp] theorem tg34 : tagg Tryz.prog 34 = some false := by kernel_rfl
@[simp] theorem ts34 : tsize Tryz.prog 34 = some 1 := by kernel_rfl
@[simp] theorem tal34 (H : AHeap) : aAlloc Tryz.prog H 34 = some (.pointer (some ⟨H.length, 0, some 1⟩), H ++ [.cells [.nilFunc] 34]) := by kernel_rfl
@[simp] theorem tu34 : Tryz.prog.underlying 34 = some (TypeDesc.func #[30, 3, 3] #[4] false) := by kernel_rfl
@[simp] theorem tg35 : tagg Tryz.prog 35 = some false := by kernel_rfl
@[simp] theorem ts35 : tsize Tryz.prog 35 = some 1 := by kernel_rfl
@[simp] theorem tal35 (H : AHeap) : aAlloc Tryz.prog H 35 = some (.pointer (some ⟨H.length, 0, some 1⟩), H ++ [.cells [.slice none 0 0] 35]) := by kernel_rfl
@[simp] theorem tbs35 (H : AHeap) (n : Nat) (l : List (Nat × Value)) : aBuildSlice Tryz.prog H 35 n l = bslV 76 #[.int IntKind.u8 0, .int IntKind.u8 0, .slice none 0 0, .int IntKind.i64 0, .int IntKind.u8 0, .int IntKind.i64 0, .int IntKind.i64 0, .int IntKind.i64 0] H n l := by kernel_rfl
@[simp] theorem tel35 : aElem Tryz.prog 35 = some (76, 8, 72) := by kernel_rfl
@[simp] theorem tu35 : Tryz.prog.underlying 35 = some (TypeDesc.slice 76) := by kernel_rfl
@[simp] theorem tg37 : tagg Tryz.prog 37 = some false := by kernel_rfl
@[simp] theorem ts37 : tsize Tryz.prog 37 = some 1 := by kernel_rfl
@[simp] theorem tal37 (H : AHeap) : aAlloc Tryz.prog H 37 = some (.pointer (some ⟨H.length, 0, some 1⟩), H ++ [.cells [.nilFunc] 37]) := by kernel_rfl
@[simp] theorem tu37 : Tryz.prog.underlying 37 = some (TypeDesc.func #[9] #[35, 23] false) := by kernel_rfl
@[simp] theorem tg38 : tagg Tryz.prog 38 = some false := by kernel_rfl
@[simp] theorem ts38 : tsize Tryz.prog 38 = some 1 := by kernel_rfl
@[simp] theorem tal38 (H : AHeap) : aAlloc Tryz.prog H 38 = some (.pointer (some ⟨H.length, 0, some 1⟩), H ++ [.cells [.slice none 0 0] 38]) := by kernel_rfl
@[simp] theorem tbs38 (H : AHeap) (n : Nat) (l : List (Nat × Value)) : aBuildSlice Tryz.prog H 38 n l = bslV 9 #[.string ⟨#[]⟩] H n l := by kernel_rfl
@[simp] theorem tel38 : aElem Tryz.prog 38 = some (9, 1, 16) := by kernel_rfl
@[simp] theorem tu38 : Tryz.prog.underlying 38 = some (TypeDesc.slice 9) := by kernel_rfl
@[simp] theorem tg39 : tagg Tryz.prog 39 = some true := by kernel_rfl
@[simp] theorem ts39 : tsize Tryz.prog 39 = some 8 := by kernel_rfl
@[simp] theorem tf39x0 : afield Tryz.prog 39 0 = some (0, 9) := by kernel_rfl
@[simp] theorem tf39x1 : afield Tryz.prog 39 1 = some (1, 9) := by kernel_rfl
@[simp] theorem tf39x2 : afield Tryz.prog 39 2 = some (2, 35) := by kernel_rfl
@[simp] theorem tf39x3 : afield Tryz.prog 39 3 = some (3, 3) := by kernel_rfl
@[simp] theorem tf39x4 : afield Tryz.prog 39 4 = some (4, 3) := by kernel_rfl
@[simp] theorem tf39x5 : afield Tryz.prog 39 5 = some (5, 3) := by kernel_rfl
@[simp] theorem tf39x6 : afield Tryz.prog 39 6 = some (6, 38) := by kernel_rfl
@[simp] theorem tf39x7 : afield Tryz.prog 39 7 = some (7, 9) := by kernel_rfl
@[simp] theorem tal39 (H : AHeap) : aAlloc Tryz.prog H 39 = some (.pointer (some ⟨H.length, 0, some 8⟩), H ++ [.cells [.string ⟨#[]⟩, .string ⟨#[]⟩, .slice none 0 0, .int IntKind.i64 0, .int IntKind.i64 0, .int IntKind.i64 0, .slice none 0 0, .string ⟨#[]⟩] 39]) := by kernel_rfl
@[simp] theorem tbv39 (l : List (Nat × Value)) : buildV Tryz.prog 39 l = bldV #[.string ⟨#[]⟩, .string ⟨#[]⟩, .slice none 0 0, .int IntKind.i64 0, .int IntKind.i64 0, .int IntKind.i64 0, .slice none 0 0, .string ⟨#[]⟩] [(0, 1), (1, 1), (2, 1), (3, 1), (4, 1), (5, 1), (6, 1), (7, 1)] l := by kernel_rfl
@[simp] theorem tg40 : tagg Tryz.prog 40 = some true := by kernel_rfl
@[simp] theorem ts40 : tsize Tryz.prog 40 = some 8 := by kernel_rfl
@[simp] theorem tf40x0 : afield Tryz.prog 40 0 = some (0, 9) := by kernel_rfl
@[simp] theorem tf40x1 : afield Tryz.prog 40 1 = some (1, 9) := by kernel_rfl
@[simp] theorem tf40x2 : afield Tryz.prog 40 2 = some (2, 35) := by kernel_rfl
@[simp] theorem tf40x3 : afield Tryz.prog 40 3 = some (3, 3) := by kernel_rfl
@[simp] theorem tf40x4 : afield Tryz.prog 40 4 = some (4, 3) := by kernel_rfl
@[simp] theorem tf40x5 : afield Tryz.prog 40 5 = some (5, 3) := by kernel_rfl
@[simp] theorem tf40x6 : afield Tryz.prog 40 6 = some (6, 38) := by kernel_rfl
@[simp] theorem tf40x7 : afield Tryz.prog 40 7 = some (7, 9) := by kernel_rfl
@[simp] theorem tal40 (H : AHeap) : aAlloc Tryz.prog H 40 = some (.pointer (some ⟨H.length, 0, some 8⟩), H ++ [.cells [.string ⟨#[]⟩, .string ⟨#[]⟩, .slice none 0 0, .int IntKind.i64 0, .int IntKind.i64 0, .int IntKind.i64 0, .slice none 0 0, .string ⟨#[]⟩] 40]) := by kernel_rfl
@[simp] theorem tbv40 (l : List (Nat × Value)) : buildV Tryz.prog 40 l = bldV #[.string ⟨#[]⟩, .string ⟨#[]⟩, .slice none 0 0, .int IntKind.i64 0, .int IntKind.i64 0, .int IntKind.i64 0, .slice none 0 0, .string ⟨#[]⟩] [(0, 1), (1, 1), (2, 1), (3, 1), (4, 1), (5, 1), (6, 1), (7, 1)] l := by kernel_rfl
@[simp] theorem tg41 : tagg Tryz.prog 41 = some false := by kernel_rfl
@[simp] theorem ts41 : tsize Tryz.prog 41 = some 1 := by kernel_rfl
@[simp] theorem tal41 (H : AHeap) : aAlloc Tryz.prog H 41 = some (.pointer (some ⟨H.length, 0, some 1⟩), H ++ [.cells [.nilFunc] 41]) := by kernel_rfl
@[simp] theorem tu41 : Tryz.prog.underlying 41 = some (TypeDesc.func #[40] #[23] false) := by kernel_rfl
@[simp] theorem tg42 : tagg Tryz.prog 42 = some false := by kernel_rfl
@[simp] theorem ts42 : tsize Tryz.prog 42 = some 1 := by kernel_rfl
@[simp] theorem tal42 (H : AHeap) : aAlloc Tryz.prog H 42 = some (.pointer (some ⟨H.length, 0, some 1⟩), H ++ [.cells [.nilFunc] 42]) := by kernel_rfl
@[simp] theorem tu42 : Tryz.prog.underlying 42 = some (TypeDesc.func #[3, 3, 3] #[4] false) := by kernel_rfl
@[simp] theorem tg43 : tagg Tryz.prog 43 = some false := by kernel_rfl
@[simp] theorem ts43 : tsize Tryz.prog 43 = some 1 := by kernel_rfl
@[simp] theorem tal43 (H : AHeap) : aAlloc Tryz.prog H 43 = some (.pointer (some ⟨H.length, 0, some 1⟩), H ++ [.cells [.nilFunc] 43]) := by kernel_rfl
@[simp] theorem tu43 : Tryz.prog.underlying 43 = some (TypeDesc.func #[35] #[3] false) := by kernel_rfl
@[simp] theorem tg44 : tagg Tryz.prog 44 = some false := by kernel_rfl
@[simp] theorem ts44 : tsize Tryz.prog 44 = some 1 := by kernel_rfl
@[simp] theorem tal44 (H : AHeap) : aAlloc Tryz.prog H 44 = some (.pointer (some ⟨H.length, 0, some 1⟩), H ++ [.cells [.nilFunc] 44]) := by kernel_rfl
@[simp] theorem tu44 : Tryz.prog.underlying 44 = some (TypeDesc.func #[35, 35] #[4] false) := by kernel_rfl
@[simp] theorem tg45 : tagg Tryz.prog 45 = some false := by kernel_rfl
@[simp] theorem ts45 : tsize Tryz.prog 45 = some 1 := by kernel_rfl
@[simp] theorem tal45 (H : AHeap) : aAlloc Tryz.prog H 45 = some (.pointer (some ⟨H.length, 0, some 1⟩), H ++ [.cells [.nilFunc] 45]) := by kernel_rfl
@[simp] theorem tu45 : Tryz.prog.underlying 45 = some (TypeDesc.func #[3, 3] #[3] false) := by kernel_rfl
@[simp] theorem tg46 : tagg Tryz.prog 46 = some false := by kernel_rfl
@[simp] theorem ts46 : tsize Tryz.prog 46 = some 1 := by kernel_rfl
@[simp] theorem tal46 (H : AHeap) : aAlloc Tryz.prog H 46 = some (.pointer (some ⟨H.length, 0, some 1⟩), H ++ [.cells [.slice none 0 0] 46]) := by kernel_rfl
@[simp] theorem tbs46 (H : AHeap) (n : Nat) (l : List (Nat × Value)) : aBuildSlice Tryz.prog H 46 n l = bslV 82 #[.int IntKind.u32 0, .string ⟨#[]⟩, .int IntKind.u8 0, .int IntKind.i64 0, .int IntKind.i64 0] H n l := by kernel_rfl
@[simp] theorem tel46 : aElem Tryz.prog 46 = some (82, 5, 48) := by kernel_rfl
@[simp] theorem tu46 : Tryz.prog.underlying 46 = some (TypeDesc.slice 82) := by kernel_rfl
@[simp] theorem tg47 : tagg Tryz.prog 47 = some false := by kernel_rfl
@[simp] theorem ts47 : tsize Tryz.prog 47 = some 1 := by kernel_rfl
@[simp] theorem tal47 (H : AHeap) : aAlloc Tryz.prog H 47 = some (.pointer (some ⟨H.length, 0, some 1⟩), H ++ [.cells [.slice none 0 0] 47]) := by kernel_rfl
@[simp] theorem tbs47 (H : AHeap) (n : Nat) (l : List (Nat × Value)) : aBuildSlice Tryz.prog H 47 n l = bslV 80 #[.int IntKind.u32 0, .int IntKind.i64 0] H n l := by kernel_rfl
@[simp] theorem tel47 : aElem Tryz.prog 47 = some (80, 2, 16) := by kernel_rfl
@[simp] theorem tu47 : Tryz.prog.underlying 47 = some (TypeDesc.slice 80) := by kernel_rfl
@[simp] theorem tg48 : tagg Tryz.prog 48 = some false := by kernel_rfl
@[simp] theorem ts48 : tsize Tryz.prog 48 = some 1 := by kernel_rfl
@[simp] theorem tal48 (H : AHeap) : aAlloc Tryz.prog H 48 = some (.pointer (some ⟨H.length, 0, some 1⟩), H ++ [.cells [.nilFunc] 48]) := by kernel_rfl
@[simp] theorem tu48 : Tryz.prog.underlying 48 = some (TypeDesc.func #[46, 28] #[46] false) := by kernel_rfl
@[simp] theorem tg49 : tagg Tryz.prog 49 = some false := by kernel_rfl
@[simp] theorem ts49 : tsize Tryz.prog 49 = some 1 := by kernel_rfl
@[simp] theorem tal49 (H : AHeap) : aAlloc Tryz.prog H 49 = some (.pointer (some ⟨H.length, 0, some 1⟩), H ++ [.cells [.nilFunc] 49]) := by kernel_rfl
@[simp] theorem tu49 : Tryz.prog.underlying 49 = some (TypeDesc.func #[47, 28, 3] #[47] false) := by kernel_rfl
@[simp] theorem tg50 : tagg Tryz.prog 50 = some false := by kernel_rfl
@[simp] theorem ts50 : tsize Tryz.prog 50 = some 1 := by kernel_rfl
@[simp] theorem tal50 (H : AHeap) : aAlloc Tryz.prog H 50 = some (.pointer (some ⟨H.length, 0, some 1⟩), H ++ [.cells [.nilFunc] 50]) := by kernel_rfl
@[simp] theorem tu50 : Tryz.prog.underlying 50 = some (TypeDesc.func #[46, 47, 3] #[4] false) := by kernel_rfl
@[simp] theorem tg51 : tagg Tryz.prog 51 = some false := by kernel_rfl
@[simp] theorem ts51 : tsize Tryz.prog 51 = some 1 := by kernel_rfl
@[simp] theorem tal51 (H : AHeap) : aAlloc Tryz.prog H 51 = some (.pointer (some ⟨H.length, 0, some 1⟩), H ++ [.cells [.nilFunc] 51]) := by kernel_rfl
@[simp] theorem tu51 : Tryz.prog.underlying 51 = some (TypeDesc.func #[60] #[23] true) := by kernel_rfl
@[simp] theorem tg52 : tagg Tryz.prog 52 = some false := by kernel_rfl
@[simp] theorem ts52 : tsize Tryz.prog 52 = some 1 := by kernel_rfl
@[simp] theorem tal52 (H : AHeap) : aAlloc Tryz.prog H 52 = some (.pointer (some ⟨H.length, 0, some 1⟩), H ++ [.cells [.nilFunc] 52]) := by kernel_rfl
@[simp] theorem tu52 : Tryz.prog.underlying 52 = some (TypeDesc.func #[25, 53] #[4] false) := by kernel_rfl
@[simp] theorem tg53 : tagg Tryz.prog 53 = some false := by kernel_rfl
@[simp] theorem ts53 : tsize Tryz.prog 53 = some 1 := by kernel_rfl
@[simp] theorem tal53 (H : AHeap) : aAlloc Tryz.prog H 53 = some (.pointer (some ⟨H.length, 0, some 1⟩), H ++ [.cells [.nilFunc] 53]) := by kernel_rfl
@[simp] theorem tu53 : Tryz.prog.underlying 53 = some (TypeDesc.func #[40] #[9] false) := by kernel_rfl
@[simp] theorem tg54 : tagg Tryz.prog 54 = some false := by kernel_rfl
@[simp] theorem ts54 : tsize Tryz.prog 54 = some 1 := by kernel_rfl
@[simp] theorem tal54 (H : AHeap) : aAlloc Tryz.prog H 54 = some (.pointer (some ⟨H.length, 0, some 1⟩), H ++ [.cells [.nilFunc] 54]) := by kernel_rfl
@[simp] theorem tu54 : Tryz.prog.underlying 54 = some (TypeDesc.func #[26, 55] #[4] false) := by kernel_rfl
@[simp] theorem tg55 : tagg Tryz.prog 55 = some false := by kernel_rfl
@[simp] theorem ts55 : tsize Tryz.prog 55 = some 1 := by kernel_rfl
@[simp] theorem tal55 (H : AHeap) : aAlloc Tryz.prog H 55 = some (.pointer (some ⟨H.length, 0, some 1⟩), H ++ [.cells [.nilFunc] 55]) := by kernel_rfl
@[simp] theorem tu55 : Tryz.prog.underlying 55 = some (TypeDesc.func #[33] #[9] false) := by kernel_rfl
@[simp] theorem tg56 : tagg Tryz.prog 56 = some false := by kernel_rfl
@[simp] theorem ts56 : tsize Tryz.prog 56 = some 1 := by kernel_rfl
@[simp] theorem tal56 (H : AHeap) : aAlloc Tryz.prog H 56 = some (.pointer (some ⟨H.length, 0, some 1⟩), H ++ [.cells [.nilFunc] 56]) := by kernel_rfl
@[simp] theorem tu56 : Tryz.prog.underlying 56 = some (TypeDesc.func #[26, 57] #[4] false) := by kernel_rfl
@[simp] theorem tg57 : tagg Tryz.prog 57 = some false := by kernel_rfl
@[simp] theorem ts57 : tsize Tryz.prog 57 = some 1 := by kernel_rfl
@[simp] theorem tal57 (H : AHeap) : aAlloc Tryz.prog H 57 = some (.pointer (some ⟨H.length, 0, some 1⟩), H ++ [.cells [.nilFunc] 57]) := by kernel_rfl
@[simp] theorem tu57 : Tryz.prog.underlying 57 = some (TypeDesc.func #[33] #[4] false) := by kernel_rfl
@[simp] theorem tg58 : tagg Tryz.prog 58 = some false := by kernel_rfl
@[simp] theorem ts58 : tsize Tryz.prog 58 = some 1 := by kernel_rfl
@[simp] theorem tal58 (H : AHeap) : aAlloc Tryz.prog H 58 = some (.pointer (some ⟨H.length, 0, some 1⟩), H ++ [.cells [.nilFunc] 58]) := by kernel_rfl
@[simp] theorem tu58 : Tryz.prog.underlying 58 = some (TypeDesc.func #[9] #[4] false) := by kernel_rfl
@[simp] theorem tg59 : tagg Tryz.prog 59 = some false := by kernel_rfl
@[simp] theorem ts59 : tsize Tryz.prog 59 = some 1 := by kernel_rfl
@[simp] theorem tal59 (H : AHeap) : aAlloc Tryz.prog H 59 = some (.pointer (some ⟨H.length, 0, some 1⟩), H ++ [.cells [.nilFunc] 59]) := by kernel_rfl
@[simp] theorem tu59 : Tryz.prog.underlying 59 = some (TypeDesc.func #[60, 4] #[4] false) := by kernel_rfl
@[simp] theorem tg60 : tagg Tryz.prog 60 = some false := by kernel_rfl
@[simp] theorem ts60 : tsize Tryz.prog 60 = some 1 := by kernel_rfl
@[simp] theorem tal60 (H : AHeap) : aAlloc Tryz.prog H 60 = some (.pointer (some ⟨H.length, 0, some 1⟩), H ++ [.cells [.slice none 0 0] 60]) := by kernel_rfl
@[simp] theorem tbs60 (H : AHeap) (n : Nat) (l : List (Nat × Value)) : aBuildSlice Tryz.prog H 60 n l = bslV 4 #[.bool false] H n l := by kernel_rfl
@[simp] theorem tel60 : aElem Tryz.prog 60 = some (4, 1, 1) := by kernel_rfl
@[simp] theorem tu60 : Tryz.prog.underlying 60 = some (TypeDesc.slice 4) := by kernel_rfl
@[simp] theorem tg61 : tagg Tryz.prog 61 = some false := by kernel_rfl
@[simp] theorem ts61 : tsize Tryz.prog 61 = some 1 := by kernel_rfl
@[simp] theorem tal61 (H : AHeap) : aAlloc Tryz.prog H 61 = some (.pointer (some ⟨H.length, 0, some 1⟩), H ++ [.cells [.slice none 0 0] 61]) := by kernel_rfl
@[simp] theorem tbs61 (H : AHeap) (n : Nat) (l : List (Nat × Value)) : aBuildSlice Tryz.prog H 61 n l = bslV 101 #[.int IntKind.u8 0, .string ⟨#[]⟩, .int IntKind.i64 0] H n l := by kernel_rfl
@[simp] theorem tel61 : aElem Tryz.prog 61 = some (101, 3, 32) := by kernel_rfl
@[simp] theorem tu61 : Tryz.prog.underlying 61 = some (TypeDesc.slice 101) := by kernel_rfl
@[simp] theorem tg63 : tagg Tryz.prog 63 = some false := by kernel_rfl
@[simp] theorem ts63 : tsize Tryz.prog 63 = some 1 := by kernel_rfl
@[simp] theorem tal63 (H : AHeap) : aAlloc Tryz.prog H 63 = some (.pointer (some ⟨H.length, 0, some 1⟩), H ++ [.cells [.nilFunc] 63]) := by kernel_rfl
@[simp] theorem tu63 : Tryz.prog.underlying 63 = some (TypeDesc.func #[9] #[61, 3, 23] false) := by kernel_rfl
@[simp] theorem tg65 : tagg Tryz.prog 65 = some false := by kernel_rfl
@[simp] theorem ts65 : tsize Tryz.prog 65 = some 1 := by kernel_rfl
@[simp] theorem tal65 (H : AHeap) : aAlloc Tryz.prog H 65 = some (.pointer (some ⟨H.length, 0, some 1⟩), H ++ [.cells [.nilFunc] 65]) := by kernel_rfl
@[simp] theorem tu65 : Tryz.prog.underlying 65 = some (TypeDesc.func #[61, 3] #[35, 3, 23] false) := by kernel_rfl
@[simp] theorem tg66 : tagg Tryz.prog 66 = some false := by kernel_rfl
@[simp] theorem ts66 : tsize Tryz.prog 66 = some 1 := by kernel_rfl
@[simp] theorem tal66 (H : AHeap) : aAlloc Tryz.prog H 66 = some (.pointer (some ⟨H.length, 0, some 1⟩), H ++ [.cells [.pointer none] 66]) := by kernel_rfl
@[simp] theorem tu66 : Tryz.prog.underlying 66 = some (TypeDesc.pointer 68) := by kernel_rfl
@[simp] theorem tg67 : tagg Tryz.prog 67 = some true := by kernel_rfl
@[simp] theorem ts67 : tsize Tryz.prog 67 = some 3 := by kernel_rfl
@[simp] theorem tf67x0 : afield Tryz.prog 67 0 = some (0, 61) := by kernel_rfl
@[simp] theorem tf67x1 : afield Tryz.prog 67 1 = some (1, 3) := by kernel_rfl
@[simp] theorem tf67x2 : afield Tryz.prog 67 2 = some (2, 4) := by kernel_rfl
@[simp] theorem tal67 (H : AHeap) : aAlloc Tryz.prog H 67 = some (.pointer (some ⟨H.length, 0, some 3⟩), H ++ [.cells [.slice none 0 0, .int IntKind.i64 0, .bool false] 67]) := by kernel_rfl
@[simp] theorem tbv67 (l : List (Nat × Value)) : buildV Tryz.prog 67 l = bldV #[.slice none 0 0, .int IntKind.i64 0, .bool false] [(0, 1), (1, 1), (2, 1)] l := by kernel_rfl
@[simp] theorem tg68 : tagg Tryz.prog 68 = some true := by kernel_rfl
@[simp] theorem ts68 : tsize Tryz.prog 68 = some 3 := by kernel_rfl
@[simp] theorem tf68x0 : afield Tryz.prog 68 0 = some (0, 61) := by kernel_rfl
@[simp] theorem tf68x1 : afield Tryz.prog 68 1 = some (1, 3) := by kernel_rfl
@[simp] theorem tf68x2 : afield Tryz.prog 68 2 = some (2, 4) := by kernel_rfl
@[simp] theorem tal68 (H : AHeap) : aAlloc Tryz.prog H 68 = some (.pointer (some ⟨H.length, 0, some 3⟩), H ++ [.cells [.slice none 0 0, .int IntKind.i64 0, .bool false] 68]) := by kernel_rfl
@[simp] theorem tbv68 (l : List (Nat × Value)) : buildV Tryz.prog 68 l = bldV #[.slice none 0 0, .int IntKind.i64 0, .bool false] [(0, 1), (1, 1), (2, 1)] l := by kernel_rfl
@[simp] theorem tg69 : tagg Tryz.prog 69 = some false := by kernel_rfl
@[simp] theorem ts69 : tsize Tryz.prog 69 = some 1 := by kernel_rfl
@[simp] theorem tal69 (H : AHeap) : aAlloc Tryz.prog H 69 = some (.pointer (some ⟨H.length, 0, some 1⟩), H ++ [.cells [.nilFunc] 69]) := by kernel_rfl
@[simp] theorem tu69 : Tryz.prog.underlying 69 = some (TypeDesc.func #[] #[35] false) := by kernel_rfl
@[simp] theorem tg70 : tagg Tryz.prog 70 = some false := by kernel_rfl
@[simp] theorem ts70 : tsize Tryz.prog 70 = some 1 := by kernel_rfl
@[simp] theorem tal70 (H : AHeap) : aAlloc Tryz.prog H 70 = some (.pointer (some ⟨H.length, 0, some 1⟩), H ++ [.cells [.nilFunc] 70]) := by kernel_rfl
@[simp] theorem tu70 : Tryz.prog.underlying 70 = some (TypeDesc.func #[38, 58] #[4] false) := by kernel_rfl
@[simp] theorem tg71 : tagg Tryz.prog 71 = some false := by kernel_rfl
@[simp] theorem ts71 : tsize Tryz.prog 71 = some 1 := by kernel_rfl
@[simp] theorem tal71 (H : AHeap) : aAlloc Tryz.prog H 71 = some (.pointer (some ⟨H.length, 0, some 1⟩), H ++ [.cells [.nilFunc] 71]) := by kernel_rfl
@[simp] theorem tu71 : Tryz.prog.underlying 71 = some (TypeDesc.func #[38, 72] #[4] false) := by kernel_rfl
@[simp] theorem tg72 : tagg Tryz.prog 72 = some false := by kernel_rfl
@[simp] theorem ts72 : tsize Tryz.prog 72 = some 1 := by kernel_rfl
@[simp] theorem tal72 (H : AHeap) : aAlloc Tryz.prog H 72 = some (.pointer (some ⟨H.length, 0, some 1⟩), H ++ [.cells [.nilFunc] 72]) := by kernel_rfl
@[simp] theorem tu72 : Tryz.prog.underlying 72 = some (TypeDesc.func #[9] #[9] false) := by kernel_rfl
@[simp] theorem tg73 : tagg Tryz.prog 73 = some false := by kernel_rfl
@[simp] theorem ts73 : tsize Tryz.prog 73 = some 1 := by kernel_rfl
@[simp] theorem tal73 (H : AHeap) : aAlloc Tryz.prog H 73 = some (.pointer (some ⟨H.length, 0, some 1⟩), H ++ [.cells [.nilFunc] 73]) := by kernel_rfl
@[simp] theorem tu73 : Tryz.prog.underlying 73 = some (TypeDesc.func #[35] #[4] false) := by kernel_rfl
@[simp] theorem tg74 : tagg Tryz.prog 74 = some false := by kernel_rfl
@[simp] theorem ts74 : tsize Tryz.prog 74 = some 1 := by kernel_rfl
@[simp] theorem tal74 (H : AHeap) : aAlloc Tryz.prog H 74 = some (.pointer (some ⟨H.length, 0, some 1⟩), H ++ [.cells [.slice none 0 0] 74]) := by kernel_rfl
@[simp] theorem tbs74 (H : AHeap) (n : Nat) (l : List (Nat × Value)) : aBuildSlice Tryz.prog H 74 n l = bslV 165 #[.string ⟨#[]⟩, .int IntKind.u8 0, .string ⟨#[]⟩] H n l := by kernel_rfl
@[simp] theorem tel74 : aElem Tryz.prog 74 = some (165, 3, 40) := by kernel_rfl
@[simp] theorem tu74 : Tryz.prog.underlying 74 = some (TypeDesc.slice 165) := by kernel_rfl
@[simp] theorem tg75 : tagg Tryz.prog 75 = some true := by kernel_rfl
@[simp] theorem ts75 : tsize Tryz.prog 75 = some 8 := by kernel_rfl
@[simp] theorem tf75x0 : afield Tryz.prog 75 0 = some (0, 5) := by kernel_rfl
@[simp] theorem tf75x1 : afield Tryz.prog 75 1 = some (1, 5) := by kernel_rfl
@[simp] theorem tf75x2 : afield Tryz.prog 75 2 = some (2, 74) := by kernel_rfl
@[simp] theorem tf75x3 : afield Tryz.prog 75 3 = some (3, 3) := by kernel_rfl
@[simp] theorem tf75x4 : afield Tryz.prog 75 4 = some (4, 5) := by kernel_rfl
@[simp] theorem tf75x5 : afield Tryz.prog 75 5 = some (5, 2) := by kernel_rfl
@[simp] theorem tf75x6 : afield Tryz.prog 75 6 = some (6, 3) := by kernel_rfl
@[simp] theorem tf75x7 : afield Tryz.prog 75 7 = some (7, 3) := by kernel_rfl
@[simp] theorem tal75 (H : AHeap) : aAlloc Tryz.prog H 75 = some (.pointer (some ⟨H.length, 0, some 8⟩), H ++ [.cells [.int IntKind.u8 0, .int IntKind.u8 0, .slice none 0 0, .int IntKind.i64 0, .int IntKind.u8 0, .int IntKind.i64 0, .int IntKind.i64 0, .int IntKind.i64 0] 75]) := by kernel_rfl
@[simp] theorem tbv75 (l : List (Nat × Value)) : buildV Tryz.prog 75 l = bldV #[.int IntKind.u8 0, .int IntKind.u8 0, .slice none 0 0, .int IntKind.i64 0, .int IntKind.u8 0, .int IntKind.i64 0, .int IntKind.i64 0, .int IntKind.i64 0] [(0, 1), (1, 1), (2, 1), (3, 1), (4, 1), (5, 1), (6, 1), (7, 1)] l := by kernel_rfl
@[simp] theorem tg76 : tagg Tryz.prog 76 = some true := by kernel_rfl
@[simp] theorem ts76 : tsize Tryz.prog 76 = some 8 := by kernel_rfl
@[simp] theorem tf76x0 : afield Tryz.prog 76 0 = some (0, 5) := by kernel_rfl
@[simp] theorem tf76x1 : afield Tryz.prog 76 1 = some (1, 5) := by kernel_rfl
@[simp] theorem tf76x2 : afield Tryz.prog 76 2 = some (2, 74) := by kernel_rfl
@[simp] theorem tf76x3 : afield Tryz.prog 76 3 = some (3, 3) := by kernel_rfl
@[simp] theorem tf76x4 : afield Tryz.prog 76 4 = some (4, 5) := by kernel_rfl
@[simp] theorem tf76x5 : afield Tryz.prog 76 5 = some (5, 2) := by kernel_rfl
@[simp] theorem tf76x6 : afield Tryz.prog 76 6 = some (6, 3) := by kernel_rfl
@[simp] theorem tf76x7 : afield Tryz.prog 76 7 = some (7, 3) := by kernel_rfl
@[simp] theorem tal76 (H : AHeap) : aAlloc Tryz.prog H 76 = some (.pointer (some ⟨H.length, 0, some 8⟩), H ++ [.cells [.int IntKind.u8 0, .int IntKind.u8 0, .slice none 0 0, .int IntKind.i64 0, .int IntKind.u8 0, .int IntKind.i64 0, .int IntKind.i64 0, .int IntKind.i64 0] 76]) := by kernel_rfl
@[simp] theorem tbv76 (l : List (Nat × Value)) : buildV Tryz.prog 76 l = bldV #[.int IntKind.u8 0, .int IntKind.u8 0, .slice none 0 0, .int IntKind.i64 0, .int IntKind.u8 0, .int IntKind.i64 0, .int IntKind.i64 0, .int IntKind.i64 0] [(0, 1), (1, 1), (2, 1), (3, 1), (4, 1), (5, 1), (6, 1), (7, 1)] l := by kernel_rfl
@[simp] theorem tg77 : tagg Tryz.prog 77 = some false := by kernel_rfl
@[simp] theorem ts77 : tsize Tryz.prog 77 = some 1 := by kernel_rfl
@[simp] theorem tal77 (H : AHeap) : aAlloc Tryz.prog H 77 = some (.pointer (some ⟨H.length, 0, some 1⟩), H ++ [.cells [.int IntKind.u32 0] 77]) := by kernel_rfl
@[simp] theorem tu77 : Tryz.prog.underlying 77 = some (TypeDesc.int IntKind.u32) := by kernel_rfl
@[simp] theorem tg78 : tagg Tryz.prog 78 = some false := by kernel_rfl
@[simp] theorem ts78 : tsize Tryz.prog 78 = some 1 := by kernel_rfl
@[simp] theorem tal78 (H : AHeap) : aAlloc Tryz.prog H 78 = some (.pointer (some ⟨H.length, 0, some 1⟩), H ++ [.cells [.nilFunc] 78]) := by kernel_rfl
@[simp] theorem tu78 : Tryz.prog.underlying 78 = some (TypeDesc.func #[40] #[77] false) := by kernel_rfl
@[simp] theorem tg79 : tagg Tryz.prog 79 = some true := by kernel_rfl
@[simp] theorem ts79 : tsize Tryz.prog 79 = some 2 := by kernel_rfl
@[simp] theorem tf79x0 : afield Tryz.prog 79 0 = some (0, 77) := by kernel_rfl
@[simp] theorem tf79x1 : afield Tryz.prog 79 1 = some (1, 3) := by kernel_rfl
@[simp] theorem tal79 (H : AHeap) : aAlloc Tryz.prog H 79 = some (.pointer (some ⟨H.length, 0, some 2⟩), H ++ [.cells [.int IntKind.u32 0, .int IntKind.i64 0] 79]) := by kernel_rfl
@[simp] theorem tbv79 (l : List (Nat × Value)) : buildV Tryz.prog 79 l = bldV #[.int IntKind.u32 0, .int IntKind.i64 0] [(0, 1), (1, 1)] l := by kernel_rfl
@[simp] theorem tg80 : tagg Tryz.prog 80 = some true := by kernel_rfl
@[simp] theorem ts80 : tsize Tryz.prog 80 = some 2 := by kernel_rfl
@[simp] theorem tf80x0 : afield Tryz.prog 80 0 = some (0, 77) := by kernel_rfl
@[simp] theorem tf80x1 : afield Tryz.prog 80 1 = some (1, 3) := by kernel_rfl
@[simp] theorem tal80 (H : AHeap) : aAlloc Tryz.prog H 80 = some (.pointer (some ⟨H.length, 0, some 2⟩), H ++ [.cells [.int IntKind.u32 0, .int IntKind.i64 0] 80]) := by kernel_rfl
@[simp] theorem tbv80 (l : List (Nat × Value)) : buildV Tryz.prog 80 l = bldV #[.int IntKind.u32 0, .int IntKind.i64 0] [(0, 1), (1, 1)] l := by kernel_rfl
@[simp] theorem tg81 : tagg Tryz.prog 81 = some true := by kernel_rfl
@[simp] theorem ts81 : tsize Tryz.prog 81 = some 5 := by kernel_rfl
@[simp] theorem tf81x0 : afield Tryz.prog 81 0 = some (0, 77) := by kernel_rfl
@[simp] theorem tf81x1 : afield Tryz.prog 81 1 = some (1, 9) := by kernel_rfl
@[simp] theorem tf81x2 : afield Tryz.prog 81 2 = some (2, 5) := by kernel_rfl
@[simp] theorem tf81x3 : afield Tryz.prog 81 3 = some (3, 3) := by kernel_rfl
@[simp] theorem tf81x4 : afield Tryz.prog 81 4 = some (4, 3) := by kernel_rfl
@[simp] theorem tal81 (H : AHeap) : aAlloc Tryz.prog H 81 = some (.pointer (some ⟨H.length, 0, some 5⟩), H ++ [.cells [.int IntKind.u32 0, .string ⟨#[]⟩, .int IntKind.u8 0, .int IntKind.i64 0, .int IntKind.i64 0] 81]) := by kernel_rfl
@[simp] theorem tbv81 (l : List (Nat × Value)) : buildV Tryz.prog 81 l = bldV #[.int IntKind.u32 0, .string ⟨#[]⟩, .int IntKind.u8 0, .int IntKind.i64 0, .int IntKind.i64 0] [(0, 1), (1, 1), (2, 1), (3, 1), (4, 1)] l := by kernel_rfl
@[simp] theorem tg82 : tagg Tryz.prog 82 = some true := by kernel_rfl
@[simp] theorem ts82 : tsize Tryz.prog 82 = some 5 := by kernel_rfl
@[simp] theorem tf82x0 : afield Tryz.prog 82 0 = some (0, 77) := by kernel_rfl
@[simp] theorem tf82x1 : afield Tryz.prog 82 1 = some (1, 9) := by kernel_rfl
@[simp] theorem tf82x2 : afield Tryz.prog 82 2 = some (2, 5) := by kernel_rfl
@[simp] theorem tf82x3 : afield Tryz.prog 82 3 = some (3, 3) := by kernel_rfl
@[simp] theorem tf82x4 : afield Tryz.prog 82 4 = some (4, 3) := by kernel_rfl
@[simp] theorem tal82 (H : AHeap) : aAlloc Tryz.prog H 82 = some (.pointer (some ⟨H.length, 0, some 5⟩), H ++ [.cells [.int IntKind.u32 0, .string ⟨#[]⟩, .int IntKind.u8 0, .int IntKind.i64 0, .int IntKind.i64 0] 82]) := by kernel_rfl
@[simp] theorem tbv82 (l : List (Nat × Value)) : buildV Tryz.prog 82 l = bldV #[.int IntKind.u32 0, .string ⟨#[]⟩, .int IntKind.u8 0, .int IntKind.i64 0, .int IntKind.i64 0] [(0, 1), (1, 1), (2, 1), (3, 1), (4, 1)] l := by kernel_rfl
@[simp] theorem tg83 : tagg Tryz.prog 83 = some false := by kernel_rfl
@[simp] theorem ts83 : tsize Tryz.prog 83 = some 1 := by kernel_rfl
@[simp] theorem tal83 (H : AHeap) : aAlloc Tryz.prog H 83 = some (.pointer (some ⟨H.length, 0, some 1⟩), H ++ [.cells [.map none] 83]) := by kernel_rfl
@[simp] theorem tm83 : mtype Tryz.prog 83 = some ((TypeDesc.int IntKind.u32), 3) := by kernel_rfl
@[simp] theorem tz83 : tzero Tryz.prog 3 = some (.int IntKind.i64 0) := by kernel_rfl
@[simp] theorem tu83 : Tryz.prog.underlying 83 = some (TypeDesc.map 77 3) := by kernel_rfl
@[simp] theorem tg84 : tagg Tryz.prog 84 = some false := by kernel_rfl
@[simp] theorem ts84 : tsize Tryz.prog 84 = some 1 := by kernel_rfl
@[simp] theorem tal84 (H : AHeap) : aAlloc Tryz.prog H 84 = some (.pointer (some ⟨H.length, 0, some 1⟩), H ++ [.cells [.nilFunc] 84]) := by kernel_rfl
@[simp] theorem tu84 : Tryz.prog.underlying 84 = some (TypeDesc.func #[28] #[83] false) := by kernel_rfl
@[simp] theorem tg86 : tagg Tryz.prog 86 = some false := by kernel_rfl
@[simp] theorem ts86 : tsize Tryz.prog 86 = some 1 := by kernel_rfl
@[simp] theorem tal86 (H : AHeap) : aAlloc Tryz.prog H 86 = some (.pointer (some ⟨H.length, 0, some 1⟩), H ++ [.cells [.nilFunc] 86]) := by kernel_rfl
@[simp] theorem tu86 : Tryz.prog.underlying 86 = some (TypeDesc.func #[47, 87] #[83] false) := by kernel_rfl
@[simp] theorem tg87 : tagg Tryz.prog 87 = some false := by kernel_rfl
@[simp] theorem ts87 : tsize Tryz.prog 87 = some 1 := by kernel_rfl
@[simp] theorem tal87 (H : AHeap) : aAlloc Tryz.prog H 87 = some (.pointer (some ⟨H.length, 0, some 1⟩), H ++ [.cells [.nilFunc] 87]) := by kernel_rfl
@[simp] theorem tu87 : Tryz.prog.underlying 87 = some (TypeDesc.func #[80] #[77] false) := by kernel_rfl
@[simp] theorem tg88 : tagg Tryz.prog 88 = some false := by kernel_rfl
@[simp] theorem ts88 : tsize Tryz.prog 88 = some 1 := by kernel_rfl
@[simp] theorem tal88 (H : AHeap) : aAlloc Tryz.prog H 88 = some (.pointer (some ⟨H.length, 0, some 1⟩), H ++ [.cells [.nilFunc] 88]) := by kernel_rfl
@[simp] theorem tu88 : Tryz.prog.underlying 88 = some (TypeDesc.func #[47, 91] #[] false) := by kernel_rfl
@[simp] theorem tg89 : tagg Tryz.prog 89 = some false := by kernel_rfl
@[simp] theorem ts89 : tsize Tryz.prog 89 = some 1 := by kernel_rfl
@[simp] theorem tal89 (H : AHeap) : aAlloc Tryz.prog H 89 = some (.pointer (some ⟨H.length, 0, some 1⟩), H ++ [.cells [.nilFunc] 89]) := by kernel_rfl
@[simp] theorem tu89 : Tryz.prog.underlying 89 = some (TypeDesc.func #[120] #[3] true) := by kernel_rfl
@[simp] theorem tg90 : tagg Tryz.prog 90 = some false := by kernel_rfl
@[simp] theorem ts90 : tsize Tryz.prog 90 = some 1 := by kernel_rfl
@[simp] theorem tal90 (H : AHeap) : aAlloc Tryz.prog H 90 = some (.pointer (some ⟨H.length, 0, some 1⟩), H ++ [.cells [.nilFunc] 90]) := by kernel_rfl
@[simp] theorem tu90 : Tryz.prog.underlying 90 = some (TypeDesc.func #[77, 77] #[3] false) := by kernel_rfl
@[simp] theorem tg91 : tagg Tryz.prog 91 = some false := by kernel_rfl
@[simp] theorem ts91 : tsize Tryz.prog 91 = some 1 := by kernel_rfl
@[simp] theorem tal91 (H : AHeap) : aAlloc Tryz.prog H 91 = some (.pointer (some ⟨H.length, 0, some 1⟩), H ++ [.cells [.nilFunc] 91]) := by kernel_rfl
@[simp] theorem tu91 : Tryz.prog.underlying 91 = some (TypeDesc.func #[80, 80] #[3] false) := by kernel_rfl
@[simp] theorem tg92 : tagg Tryz.prog 92 = some false := by kernel_rfl
@[simp] theorem ts92 : tsize Tryz.prog 92 = some 1 := by kernel_rfl
@[simp] theorem tal92 (H : AHeap) : aAlloc Tryz.prog H 92 = some (.pointer (some ⟨H.length, 0, some 1⟩), H ++ [.cells [.map none] 92]) := by kernel_rfl
@[simp] theorem tm92 : mtype Tryz.prog 92 = some (TypeDesc.string, 3) := by kernel_rfl
@[simp] theorem tz92 : tzero Tryz.prog 3 = some (.int IntKind.i64 0) := by kernel_rfl
@[simp] theorem tu92 : Tryz.prog.underlying 92 = some (TypeDesc.map 9 3) := by kernel_rfl
@[simp] theorem tg93 : tagg Tryz.prog 93 = some false := by kernel_rfl
@[simp] theorem ts93 : tsize Tryz.prog 93 = some 1 := by kernel_rfl
@[simp] theorem tal93 (H : AHeap) : aAlloc Tryz.prog H 93 = some (.pointer (some ⟨H.length, 0, some 1⟩), H ++ [.cells [.nilFunc] 93]) := by kernel_rfl
@[simp] theorem tu93 : Tryz.prog.underlying 93 = some (TypeDesc.func #[26, 57] #[3] false) := by kernel_rfl
@[simp] theorem tg94 : tagg Tryz.prog 94 = some false := by kernel_rfl
@[simp] theorem ts94 : tsize Tryz.prog 94 = some 1 := by kernel_rfl
@[simp] theorem tal94 (H : AHeap) : aAlloc Tryz.prog H 94 = some (.pointer (some ⟨H.length, 0, some 1⟩), H ++ [.cells [.nilFunc] 94]) := by kernel_rfl
@[simp] theorem tu94 : Tryz.prog.underlying 94 = some (TypeDesc.func #[5] #[4] false) := by kernel_rfl
@[simp] theorem tg95 : tagg Tryz.prog 95 = some false := by kernel_rfl
@[simp] theorem ts95 : tsize Tryz.prog 95 = some 1 := by kernel_rfl
@[simp] theorem tal95 (H : AHeap) : aAlloc Tryz.prog H 95 = some (.pointer (some ⟨H.length, 0, some 1⟩), H ++ [.cells [.nilFunc] 95]) := by kernel_rfl
@[simp] theorem tu95 : Tryz.prog.underlying 95 = some (TypeDesc.func #[9, 94] #[4] false) := by kernel_rfl
@[simp] theorem tg96 : tagg Tryz.prog 96 = some false := by kernel_rfl
@[simp] theorem ts96 : tsize Tryz.prog 96 = some 1 := by kernel_rfl
@[simp] theorem tal96 (H : AHeap) : aAlloc Tryz.prog H 96 = some (.pointer (some ⟨H.length, 0, some 1⟩), H ++ [.cells [.nilFunc] 96]) := by kernel_rfl
@[simp] theorem tu96 : Tryz.prog.underlying 96 = some (TypeDesc.func #[60, 4] #[3] false) := by kernel_rfl
@[simp] theorem tg97 : tagg Tryz.prog 97 = some false := by kernel_rfl
@[simp] theorem ts97 : tsize Tryz.prog 97 = some 1 := by kernel_rfl
@[simp] theorem tal97 (H : AHeap) : aAlloc Tryz.prog H 97 = some (.pointer (some ⟨H.length, 0, some 1⟩), H ++ [.cells [.nilFunc] 97]) := by kernel_rfl
@[simp] theorem tu97 : Tryz.prog.underlying 97 = some (TypeDesc.func #[123] #[] false) := by kernel_rfl
@[simp] theorem tg98 : tagg Tryz.prog 98 = some false := by kernel_rfl
@[simp] theorem ts98 : tsize Tryz.prog 98 = some 1 := by kernel_rfl
@[simp] theorem tal98 (H : AHeap) : aAlloc Tryz.prog H 98 = some (.pointer (some ⟨H.length, 0, some 1⟩), H ++ [.cells [.nilFunc] 98]) := by kernel_rfl
@[simp] theorem tu98 : Tryz.prog.underlying 98 = some (TypeDesc.func #[123] #[] false) := by kernel_rfl
@[simp] theorem tg99 : tagg Tryz.prog 99 = some false := by kernel_rfl
@[simp] theorem ts99 : tsize Tryz.prog 99 = some 1 := by kernel_rfl
@[simp] theorem tal99 (H : AHeap) : aAlloc Tryz.prog H 99 = some (.pointer (some ⟨H.length, 0, some 1⟩), H ++ [.cells [.nilFunc] 99]) := by kernel_rfl
@[simp] theorem tu99 : Tryz.prog.underlying 99 = some (TypeDesc.func #[9] #[98] false) := by kernel_rfl
@[simp] theorem tg100 : tagg Tryz.prog 100 = some true := by kernel_rfl
@[simp] theorem ts100 : tsize Tryz.prog 100 = some 3 := by kernel_rfl
@[simp] theorem tf100x0 : afield Tryz.prog 100 0 = some (0, 5) := by kernel_rfl
@[simp] theorem tf100x1 : afield Tryz.prog 100 1 = some (1, 9) := by kernel_rfl
@[simp] theorem tf100x2 : afield Tryz.prog 100 2 = some (2, 3) := by kernel_rfl
@[simp] theorem tal100 (H : AHeap) : aAlloc Tryz.prog H 100 = some (.pointer (some ⟨H.length, 0, some 3⟩), H ++ [.cells [.int IntKind.u8 0, .string ⟨#[]⟩, .int IntKind.i64 0] 100]) := by kernel_rfl
@[simp] theorem tbv100 (l : List (Nat × Value)) : buildV Tryz.prog 100 l = bldV #[.int IntKind.u8 0, .string ⟨#[]⟩, .int IntKind.i64 0] [(0, 1), (1, 1), (2, 1)] l := by kernel_rfl
@[simp] theorem tg101 : tagg Tryz.prog 101 = some true := by kernel_rfl
@[simp] theorem ts101 : tsize Tryz.prog 101 = some 3 := by kernel_rfl
@[simp] theorem tf101x0 : afield Tryz.prog 101 0 = some (0, 5) := by kernel_rfl
@[simp] theorem tf101x1 : afield Tryz.prog 101 1 = some (1, 9) := by kernel_rfl
@[simp] theorem tf101x2 : afield Tryz.prog 101 2 = some (2, 3) := by kernel_rfl
@[simp] theorem tal101 (H : AHeap) : aAlloc Tryz.prog H 101 = some (.pointer (some ⟨H.length, 0, some 3⟩), H ++ [.cells [.int IntKind.u8 0, .string ⟨#[]⟩, .int IntKind.i64 0] 101]) := by kernel_rfl
@[simp] theorem tbv101 (l : List (Nat × Value)) : buildV Tryz.prog 101 l = bldV #[.int IntKind.u8 0, .string ⟨#[]⟩, .int IntKind.i64 0] [(0, 1), (1, 1), (2, 1)] l := by kernel_rfl
@[simp] theorem tg102 : tagg Tryz.prog 102 = some false := by kernel_rfl
@[simp] theorem ts102 : tsize Tryz.prog 102 = some 1 := by kernel_rfl
@[simp] theorem tal102 (H : AHeap) : aAlloc Tryz.prog H 102 = some (.pointer (some ⟨H.length, 0, some 1⟩), H ++ [.cells [.nilFunc] 102]) := by kernel_rfl
@[simp] theorem tu102 : Tryz.prog.underlying 102 = some (TypeDesc.func #[3] #[] false) := by kernel_rfl
@[simp] theorem tg103 : tagg Tryz.prog 103 = some false := by kernel_rfl
@[simp] theorem ts103 : tsize Tryz.prog 103 = some 1 := by kernel_rfl
@[simp] theorem tal103 (H : AHeap) : aAlloc Tryz.prog H 103 = some (.pointer (some ⟨H.length, 0, some 1⟩), H ++ [.cells [.nilFunc] 103]) := by kernel_rfl
@[simp] theorem tu103 : Tryz.prog.underlying 103 = some (TypeDesc.func #[5, 9] #[4] false) := by kernel_rfl
@[simp] theorem tg104 : tagg Tryz.prog 104 = some false := by kernel_rfl
@[simp] theorem ts104 : tsize Tryz.prog 104 = some 1 := by kernel_rfl
@[simp] theorem tal104 (H : AHeap) : aAlloc Tryz.prog H 104 = some (.pointer (some ⟨H.length, 0, some 1⟩), H ++ [.cells [.nilFunc] 104]) := by kernel_rfl
@[simp] theorem tu104 : Tryz.prog.underlying 104 = some (TypeDesc.func #[9] #[] false) := by kernel_rfl
@[simp] theorem tg105 : tagg Tryz.prog 105 = some false := by kernel_rfl
@[simp] theorem ts105 : tsize Tryz.prog 105 = some 1 := by kernel_rfl
@[simp] theorem tal105 (H : AHeap) : aAlloc Tryz.prog H 105 = some (.pointer (some ⟨H.length, 0, some 1⟩), H ++ [.cells [.nilFunc] 105]) := by kernel_rfl
@[simp] theorem tu105 : Tryz.prog.underlying 105 = some (TypeDesc.func #[] #[76] false) := by kernel_rfl
@[simp] theorem tg106 : tagg Tryz.prog 106 = some false := by kernel_rfl
@[simp] theorem ts106 : tsize Tryz.prog 106 = some 1 := by kernel_rfl
@[simp] theorem tal106 (H : AHeap) : aAlloc Tryz.prog H 106 = some (.pointer (some ⟨H.length, 0, some 1⟩), H ++ [.cells [.nilFunc] 106]) := by kernel_rfl
@[simp] theorem tu106 : Tryz.prog.underlying 106 = some (TypeDesc.func #[38, 58] #[3] false) := by kernel_rfl
@[simp] theorem tg107 : tagg Tryz.prog 107 = some false := by kernel_rfl
@[simp] theorem ts107 : tsize Tryz.prog 107 = some 1 := by kernel_rfl
@[simp] theorem tal107 (H : AHeap) : aAlloc Tryz.prog H 107 = some (.pointer (some ⟨H.length, 0, some 1⟩), H ++ [.cells [.nilFunc] 107]) := by kernel_rfl
@[simp] theorem tu107 : Tryz.prog.underlying 107 = some (TypeDesc.func #[35, 3] #[3] false) := by kernel_rfl
@[simp] theorem tg108 : tagg Tryz.prog 108 = some false := by kernel_rfl
@[simp] theorem ts108 : tsize Tryz.prog 108 = some 1 := by kernel_rfl
@[simp] theorem tal108 (H : AHeap) : aAlloc Tryz.prog H 108 = some (.pointer (some ⟨H.length, 0, some 1⟩), H ++ [.cells [.nilFunc] 108]) := by kernel_rfl
@[simp] theorem tu108 : Tryz.prog.underlying 108 = some (TypeDesc.func #[38, 9] #[9] false) := by kernel_rfl
@[simp] theorem tg109 : tagg Tryz.prog 109 = some false := by kernel_rfl
@[simp] theorem ts109 : tsize Tryz.prog 109 = some 1 := by kernel_rfl
@[simp] theorem tal109 (H : AHeap) : aAlloc Tryz.prog H 109 = some (.pointer (some ⟨H.length, 0, some 1⟩), H ++ [.cells [.nilFunc] 109]) := by kernel_rfl
@[simp] theorem tu109 : Tryz.prog.underlying 109 = some (TypeDesc.func #[3] #[9] false) := by kernel_rfl
@[simp] theorem tg110 : tagg Tryz.prog 110 = some false := by kernel_rfl
@[simp] theorem ts110 : tsize Tryz.prog 110 = some 1 := by kernel_rfl
@[simp] theorem tal110 (H : AHeap) : aAlloc Tryz.prog H 110 = some (.pointer (some ⟨H.length, 0, some 1⟩), H ++ [.cells [.nilFunc] 110]) := by kernel_rfl
@[simp] theorem tu110 : Tryz.prog.underlying 110 = some (TypeDesc.func #[35] #[9] false) := by kernel_rfl
@[simp] theorem tg111 : tagg Tryz.prog 111 = some false := by kernel_rfl
@[simp] theorem ts111 : tsize Tryz.prog 111 = some 1 := by kernel_rfl
@[simp] theorem tal111 (H : AHeap) : aAlloc Tryz.prog H 111 = some (.pointer (some ⟨H.length, 0, some 1⟩), H ++ [.cells [.nilFunc] 111]) := by kernel_rfl
@[simp] theorem tu111 : Tryz.prog.underlying 111 = some (TypeDesc.func #[112] #[77] false) := by kernel_rfl
@[simp] theorem tg112 : tagg Tryz.prog 112 = some false := by kernel_rfl
@[simp] theorem ts112 : tsize Tryz.prog 112 = some 1 := by kernel_rfl
@[simp] theorem tal112 (H : AHeap) : aAlloc Tryz.prog H 112 = some (.pointer (some ⟨H.length, 0, some 1⟩), H ++ [.cells [.slice none 0 0] 112]) := by kernel_rfl
@[simp] theorem tbs112 (H : AHeap) (n : Nat) (l : List (Nat × Value)) : aBuildSlice Tryz.prog H 112 n l = bslV 5 #[.int IntKind.u8 0] H n l := by kernel_rfl
@[simp] theorem tel112 : aElem Tryz.prog 112 = some (5, 1, 1) := by kernel_rfl
@[simp] theorem tu112 : Tryz.prog.underlying 112 = some (TypeDesc.slice 5) := by kernel_rfl
@[simp] theorem tg113 : tagg Tryz.prog 113 = some false := by kernel_rfl
@[simp] theorem ts113 : tsize Tryz.prog 113 = some 1 := by kernel_rfl
@[simp] theorem tal113 (H : AHeap) : aAlloc Tryz.prog H 113 = some (.pointer (some ⟨H.length, 0, some 1⟩), H ++ [.cells [.nilFunc] 113]) := by kernel_rfl
@[simp] theorem tu113 : Tryz.prog.underlying 113 = some (TypeDesc.func #[25, 78] #[83] false) := by kernel_rfl
@[simp] theorem tg114 : tagg Tryz.prog 114 = some false := by kernel_rfl
@[simp] theorem ts114 : tsize Tryz.prog 114 = some 1 := by kernel_rfl
@[simp] theorem tal114 (H : AHeap) : aAlloc Tryz.prog H 114 = some (.pointer (some ⟨H.length, 0, some 1⟩), H ++ [.cells [.nilFunc] 114]) := by kernel_rfl
@[simp] theorem tu114 : Tryz.prog.underlying 114 = some (TypeDesc.func #[147] #[] false) := by kernel_rfl
@[simp] theorem tg115 : tagg Tryz.prog 115 = some false := by kernel_rfl
@[simp] theorem ts115 : tsize Tryz.prog 115 = some 1 := by kernel_rfl
@[simp] theorem tal115 (H : AHeap) : aAlloc Tryz.prog H 115 = some (.pointer (some ⟨H.length, 0, some 1⟩), H ++ [.cells [.nilFunc] 115]) := by kernel_rfl
@[simp] theorem tu115 : Tryz.prog.underlying 115 = some (TypeDesc.func #[147] #[] false) := by kernel_rfl
@[simp] theorem tg116 : tagg Tryz.prog 116 = some false := by kernel_rfl
@[simp] theorem ts116 : tsize Tryz.prog 116 = some 1 := by kernel_rfl
@[simp] theorem tal116 (H : AHeap) : aAlloc Tryz.prog H 116 = some (.pointer (some ⟨H.length, 0, some 1⟩), H ++ [.cells [.nilFunc] 116]) := by kernel_rfl
@[simp] theorem tu116 : Tryz.prog.underlying 116 = some (TypeDesc.func #[47] #[115] false) := by kernel_rfl
@[simp] theorem tg117 : tagg Tryz.prog 117 = some false := by kernel_rfl
@[simp] theorem ts117 : tsize Tryz.prog 117 = some 1 := by kernel_rfl
@[simp] theorem tal117 (H : AHeap) : aAlloc Tryz.prog H 117 = some (.pointer (some ⟨H.length, 0, some 1⟩), H ++ [.cells [.nilFunc] 117]) := by kernel_rfl
@[simp] theorem tu117 : Tryz.prog.underlying 117 = some (TypeDesc.func #[47, 3, 3, 3, 91] #[] false) := by kernel_rfl
@[simp] theorem tg118 : tagg Tryz.prog 118 = some false := by kernel_rfl
@[simp] theorem ts118 : tsize Tryz.prog 118 = some 1 := by kernel_rfl
@[simp] theorem tal118 (H : AHeap) : aAlloc Tryz.prog H 118 = some (.pointer (some ⟨H.length, 0, some 1⟩), H ++ [.cells [.nilFunc] 118]) := by kernel_rfl
@[simp] theorem tu118 : Tryz.prog.underlying 118 = some (TypeDesc.func #[119] #[3] false) := by kernel_rfl
@[simp] theorem tg119 : tagg Tryz.prog 119 = some false := by kernel_rfl
@[simp] theorem ts119 : tsize Tryz.prog 119 = some 1 := by kernel_rfl
@[simp] theorem tal119 (H : AHeap) : aAlloc Tryz.prog H 119 = some (.pointer (some ⟨H.length, 0, some 1⟩), H ++ [.cells [.int IntKind.u64 0] 119]) := by kernel_rfl
@[simp] theorem tu119 : Tryz.prog.underlying 119 = some (TypeDesc.int IntKind.u64) := by kernel_rfl
@[simp] theorem tg120 : tagg Tryz.prog 120 = some false := by kernel_rfl
@[simp] theorem ts120 : tsize Tryz.prog 120 = some 1 := by kernel_rfl
@[simp] theorem tal120 (H : AHeap) : aAlloc Tryz.prog H 120 = some (.pointer (some ⟨H.length, 0, some 1⟩), H ++ [.cells [.slice none 0 0] 120]) := by kernel_rfl
@[simp] theorem tbs120 (H : AHeap) (n : Nat) (l : List (Nat × Value)) : aBuildSlice Tryz.prog H 120 n l = bslV 3 #[.int IntKind.i64 0] H n l := by kernel_rfl
@[simp] theorem tel120 : aElem Tryz.prog 120 = some (3, 1, 8) := by kernel_rfl
@[simp] theorem tu120 : Tryz.prog.underlying 120 = some (TypeDesc.slice 3) := by kernel_rfl
@[simp] theorem tg121 : tagg Tryz.prog 121 = some false := by kernel_rfl
@[simp] theorem ts121 : tsize Tryz.prog 121 = some 1 := by kernel_rfl
@[simp] theorem tal121 (H : AHeap) : aAlloc Tryz.prog H 121 = some (.pointer (some ⟨H.length, 0, some 1⟩), H ++ [.cells [.nilFunc] 121]) := by kernel_rfl
@[simp] theorem tu121 : Tryz.prog.underlying 121 = some (TypeDesc.func #[3] #[4] false) := by kernel_rfl
@[simp] theorem tg122 : tagg Tryz.prog 122 = some false := by kernel_rfl
@[simp] theorem ts122 : tsize Tryz.prog 122 = some 1 := by kernel_rfl
@[simp] theorem tal122 (H : AHeap) : aAlloc Tryz.prog H 122 = some (.pointer (some ⟨H.length, 0, some 1⟩), H ++ [.cells [.nilFunc] 122]) := by kernel_rfl
@[simp] theorem tu122 : Tryz.prog.underlying 122 = some (TypeDesc.func #[77] #[4] false) := by kernel_rfl
@[simp] theorem tg123 : tagg Tryz.prog 123 = some false := by kernel_rfl
@[simp] theorem ts123 : tsize Tryz.prog 123 = some 1 := by kernel_rfl
@[simp] theorem tal123 (H : AHeap) : aAlloc Tryz.prog H 123 = some (.pointer (some ⟨H.length, 0, some 1⟩), H ++ [.cells [.nilFunc] 123]) := by kernel_rfl
@[simp] theorem tu123 : Tryz.prog.underlying 123 = some (TypeDesc.func #[101, 23] #[4] false) := by kernel_rfl
@[simp] theorem tg124 : tagg Tryz.prog 124 = some false := by kernel_rfl
@[simp] theorem ts124 : tsize Tryz.prog 124 = some 1 := by kernel_rfl
@[simp] theorem tal124 (H : AHeap) : aAlloc Tryz.prog H 124 = some (.pointer (some ⟨H.length, 0, some 1⟩), H ++ [.cells [.nilFunc] 124]) := by kernel_rfl
@[simp] theorem tu124 : Tryz.prog.underlying 124 = some (TypeDesc.func #[9, 3] #[3] false) := by kernel_rfl
@[simp] theorem tg126 : tagg Tryz.prog 126 = some false := by kernel_rfl
@[simp] theorem ts126 : tsize Tryz.prog 126 = some 1 := by kernel_rfl
@[simp] theorem tal126 (H : AHeap) : aAlloc Tryz.prog H 126 = some (.pointer (some ⟨H.length, 0, some 1⟩), H ++ [.cells [.nilFunc] 126]) := by kernel_rfl
@[simp] theorem tu126 : Tryz.prog.underlying 126 = some (TypeDesc.func #[9, 3] #[101, 3] false) := by kernel_rfl
@[simp] theorem tg127 : tagg Tryz.prog 127 = some false := by kernel_rfl
@[simp] theorem ts127 : tsize Tryz.prog 127 = some 1 := by kernel_rfl
@[simp] theorem tal127 (H : AHeap) : aAlloc Tryz.prog H 127 = some (.pointer (some ⟨H.length, 0, some 1⟩), H ++ [.cells [.nilFunc] 127]) := by kernel_rfl
@[simp] theorem tu127 : Tryz.prog.underlying 127 = some (TypeDesc.func #[5, 38] #[5] false) := by kernel_rfl
@[simp] theorem tg128 : tagg Tryz.prog 128 = some false := by kernel_rfl
@[simp] theorem ts128 : tsize Tryz.prog 128 = some 1 := by kernel_rfl
@[simp] theorem tal128 (H : AHeap) : aAlloc Tryz.prog H 128 = some (.pointer (some ⟨H.length, 0, some 1⟩), H ++ [.cells [.nilFunc] 128]) := by kernel_rfl
@[simp] theorem tu128 : Tryz.prog.underlying 128 = some (TypeDesc.func #[] #[38] false) := by kernel_rfl
@[simp] theorem tg129 : tagg Tryz.prog 129 = some false := by kernel_rfl
@[simp] theorem ts129 : tsize Tryz.prog 129 = some 1 := by kernel_rfl
@[simp] theorem tal129 (H : AHeap) : aAlloc Tryz.prog H 129 = some (.pointer (some ⟨H.length, 0, some 1⟩), H ++ [.cells [.nilFunc] 129]) := by kernel_rfl
@[simp] theorem tu129 : Tryz.prog.underlying 129 = some (TypeDesc.func #[] #[74] false) := by kernel_rfl
@[simp] theorem tg130 : tagg Tryz.prog 130 = some false := by kernel_rfl
@[simp] theorem ts130 : tsize Tryz.prog 130 = some 1 := by kernel_rfl
@[simp] theorem tal130 (H : AHeap) : aAlloc Tryz.prog H 130 = some (.pointer (some ⟨H.length, 0, some 1⟩), H ++ [.cells [.nilFunc] 130]) := by kernel_rfl
@[simp] theorem tu130 : Tryz.prog.underlying 130 = some (TypeDesc.func #[] #[3] false) := by kernel_rfl
@[simp] theorem tg131 : tagg Tryz.prog 131 = some false := by kernel_rfl
@[simp] theorem ts131 : tsize Tryz.prog 131 = some 1 := by kernel_rfl
@[simp] theorem tal131 (H : AHeap) : aAlloc Tryz.prog H 131 = some (.pointer (some ⟨H.length, 0, some 1⟩), H ++ [.cells [.nilFunc] 131]) := by kernel_rfl
@[simp] theorem tu131 : Tryz.prog.underlying 131 = some (TypeDesc.func #[] #[2] false) := by kernel_rfl
@[simp] theorem tg132 : tagg Tryz.prog 132 = some false := by kernel_rfl
@[simp] theorem ts132 : tsize Tryz.prog 132 = some 1 := by kernel_rfl
@[simp] theorem tal132 (H : AHeap) : aAlloc Tryz.prog H 132 = some (.pointer (some ⟨H.length, 0, some 1⟩), H ++ [.cells [.nilFunc] 132]) := by kernel_rfl
@[simp] theorem tu132 : Tryz.prog.underlying 132 = some (TypeDesc.func #[76] #[4] false) := by kernel_rfl
@[simp] theorem tg133 : tagg Tryz.prog 133 = some false := by kernel_rfl
@[simp] theorem ts133 : tsize Tryz.prog 133 = some 1 := by kernel_rfl
@[simp] theorem tal133 (H : AHeap) : aAlloc Tryz.prog H 133 = some (.pointer (some ⟨H.length, 0, some 1⟩), H ++ [.cells [.pointer none] 133]) := by kernel_rfl
@[simp] theorem tu133 : Tryz.prog.underlying 133 = some (TypeDesc.pointer 135) := by kernel_rfl
@[simp] theorem tg134 : tagg Tryz.prog 134 = some true := by kernel_rfl
@[simp] theorem ts134 : tsize Tryz.prog 134 = some 2 := by kernel_rfl
@[simp] theorem tf134x0 : afield Tryz.prog 134 0 = some (0, 133) := by kernel_rfl
@[simp] theorem tf134x1 : afield Tryz.prog 134 1 = some (1, 112) := by kernel_rfl
@[simp] theorem tal134 (H : AHeap) : aAlloc Tryz.prog H 134 = some (.pointer (some ⟨H.length, 0, some 2⟩), H ++ [.cells [.pointer none, .slice none 0 0] 134]) := by kernel_rfl
@[simp] theorem tbv134 (l : List (Nat × Value)) : buildV Tryz.prog 134 l = bldV #[.pointer none, .slice none 0 0] [(0, 1), (1, 1)] l := by kernel_rfl
@[simp] theorem tg135 : tagg Tryz.prog 135 = some true := by kernel_rfl
@[simp] theorem ts135 : tsize Tryz.prog 135 = some 2 := by kernel_rfl
@[simp] theorem tf135x0 : afield Tryz.prog 135 0 = some (0, 133) := by kernel_rfl
@[simp] theorem tf135x1 : afield Tryz.prog 135 1 = some (1, 112) := by kernel_rfl
@[simp] theorem tal135 (H : AHeap) : aAlloc Tryz.prog H 135 = some (.pointer (some ⟨H.length, 0, some 2⟩), H ++ [.cells [.pointer none, .slice none 0 0] 135]) := by kernel_rfl
@[simp] theorem tbv135 (l : List (Nat × Value)) : buildV Tryz.prog 135 l = bldV #[.pointer none, .slice none 0 0] [(0, 1), (1, 1)] l := by kernel_rfl
@[simp] theorem tg136 : tagg Tryz.prog 136 = some false := by kernel_rfl
@[simp] theorem ts136 : tsize Tryz.prog 136 = some 1 := by kernel_rfl
@[simp] theorem tal136 (H : AHeap) : aAlloc Tryz.prog H 136 = some (.pointer (some ⟨H.length, 0, some 1⟩), H ++ [.cells [.nilIface] 136]) := by kernel_rfl
@[simp] theorem tu136 : Tryz.prog.underlying 136 = some (TypeDesc.interface #[("Error", 140)]) := by kernel_rfl
@[simp] theorem tg137 : tagg Tryz.prog 137 = some false := by kernel_rfl
@[simp] theorem ts137 : tsize Tryz.prog 137 = some 1 := by kernel_rfl
@[simp] theorem tal137 (H : AHeap) : aAlloc Tryz.prog H 137 = some (.pointer (some ⟨H.length, 0, some 1⟩), H ++ [.cells [.nilIface] 137]) := by kernel_rfl
@[simp] theorem tu137 : Tryz.prog.underlying 137 = some (TypeDesc.interface #[("Error", 140)]) := by kernel_rfl
@[simp] theorem tg139 : tagg Tryz.prog 139 = some false := by kernel_rfl
@[simp] theorem ts139 : tsize Tryz.prog 139 = some 1 := by kernel_rfl
@[simp] theorem tal139 (H : AHeap) : aAlloc Tryz.prog H 139 = some (.pointer (some ⟨H.length, 0, some 1⟩), H ++ [.cells [.nilFunc] 139]) := by kernel_rfl
@[simp] theorem tu139 : Tryz.prog.underlying 139 = some (TypeDesc.func #[9] #[3, 137] false) := by kernel_rfl
@[simp] theorem tg140 : tagg Tryz.prog 140 = some false := by kernel_rfl
@[simp] theorem ts140 : tsize Tryz.prog 140 = some 1 := by kernel_rfl
@[simp] theorem tal140 (H : AHeap) : aAlloc Tryz.prog H 140 = some (.pointer (some ⟨H.length, 0, some 1⟩), H ++ [.cells [.nilFunc] 140]) := by kernel_rfl
@[simp] theorem tu140 : Tryz.prog.underlying 140 = some (TypeDesc.func #[] #[9] false) := by kernel_rfl
@[simp] theorem tg141 : tagg Tryz.prog 141 = some false := by kernel_rfl
@[simp] theorem ts141 : tsize Tryz.prog 141 = some 1 := by kernel_rfl
@[simp] theorem tal141 (H : AHeap) : aAlloc Tryz.prog H 141 = some (.pointer (some ⟨H.length, 0, some 1⟩), H ++ [.cells [.nilFunc] 141]) := by kernel_rfl
@[simp] theorem tu141 : Tryz.prog.underlying 141 = some (TypeDesc.func #[35] #[35] false) := by kernel_rfl
@[simp] theorem tg142 : tagg Tryz.prog 142 = some false := by kernel_rfl
@[simp] theorem ts142 : tsize Tryz.prog 142 = some 1 := by kernel_rfl
@[simp] theorem tal142 (H : AHeap) : aAlloc Tryz.prog H 142 = some (.pointer (some ⟨H.length, 0, some 1⟩), H ++ [.cells [.nilFunc] 142]) := by kernel_rfl
@[simp] theorem tu142 : Tryz.prog.underlying 142 = some (TypeDesc.func #[35, 3, 3] #[9] false) := by kernel_rfl
@[simp] theorem tg143 : tagg Tryz.prog 143 = some false := by kernel_rfl
@[simp] theorem ts143 : tsize Tryz.prog 143 = some 1 := by kernel_rfl
@[simp] theorem tal143 (H : AHeap) : aAlloc Tryz.prog H 143 = some (.pointer (some ⟨H.length, 0, some 1⟩), H ++ [.cells [.nilFunc] 143]) := by kernel_rfl
@[simp] theorem tu143 : Tryz.prog.underlying 143 = some (TypeDesc.func #[175] #[77] true) := by kernel_rfl
@[simp] theorem tg144 : tagg Tryz.prog 144 = some false := by kernel_rfl
@[simp] theorem ts144 : tsize Tryz.prog 144 = some 1 := by kernel_rfl
@[simp] theorem tal144 (H : AHeap) : aAlloc Tryz.prog H 144 = some (.pointer (some ⟨H.length, 0, some 1⟩), H ++ [.cells [.nilFunc] 144]) := by kernel_rfl
@[simp] theorem tu144 : Tryz.prog.underlying 144 = some (TypeDesc.func #[179] #[] false) := by kernel_rfl
@[simp] theorem tg145 : tagg Tryz.prog 145 = some false := by kernel_rfl
@[simp] theorem ts145 : tsize Tryz.prog 145 = some 1 := by kernel_rfl
@[simp] theorem tal145 (H : AHeap) : aAlloc Tryz.prog H 145 = some (.pointer (some ⟨H.length, 0, some 1⟩), H ++ [.cells [.nilFunc] 145]) := by kernel_rfl
@[simp] theorem tu145 : Tryz.prog.underlying 145 = some (TypeDesc.func #[179] #[] false) := by kernel_rfl
@[simp] theorem tg146 : tagg Tryz.prog 146 = some false := by kernel_rfl
@[simp] theorem ts146 : tsize Tryz.prog 146 = some 1 := by kernel_rfl
@[simp] theorem tal146 (H : AHeap) : aAlloc Tryz.prog H 146 = some (.pointer (some ⟨H.length, 0, some 1⟩), H ++ [.cells [.nilFunc] 146]) := by kernel_rfl
@[simp] theorem tu146 : Tryz.prog.underlying 146 = some (TypeDesc.func #[25] #[145] false) := by kernel_rfl
@[simp] theorem tg147 : tagg Tryz.prog 147 = some false := by kernel_rfl
@[simp] theorem ts147 : tsize Tryz.prog 147 = some 1 := by kernel_rfl
@[simp] theorem tal147 (H : AHeap) : aAlloc Tryz.prog H 147 = some (.pointer (some ⟨H.length, 0, some 1⟩), H ++ [.cells [.nilFunc] 147]) := by kernel_rfl
@[simp] theorem tu147 : Tryz.prog.underlying 147 = some (TypeDesc.func #[3, 80] #[4] false) := by kernel_rfl
@[simp] theorem tg148 : tagg Tryz.prog 148 = some false := by kernel_rfl
@[simp] theorem ts148 : tsize Tryz.prog 148 = some 1 := by kernel_rfl
@[simp] theorem tal148 (H : AHeap) : aAlloc Tryz.prog H 148 = some (.pointer (some ⟨H.length, 0, some 1⟩), H ++ [.cells [.nilFunc] 148]) := by kernel_rfl
@[simp] theorem tu148 : Tryz.prog.underlying 148 = some (TypeDesc.func #[47, 3, 3, 91] #[] false) := by kernel_rfl
@[simp] theorem tg149 : tagg Tryz.prog 149 = some false := by kernel_rfl
@[simp] theorem ts149 : tsize Tryz.prog 149 = some 1 := by kernel_rfl
@[simp] theorem tal149 (H : AHeap) : aAlloc Tryz.prog H 149 = some (.pointer (some ⟨H.length, 0, some 1⟩), H ++ [.cells [.int IntKind.i64 0] 149]) := by kernel_rfl
@[simp] theorem tu149 : Tryz.prog.underlying 149 = some (TypeDesc.int IntKind.i64) := by kernel_rfl
@[simp] theorem tg151 : tagg Tryz.prog 151 = some false := by kernel_rfl
@[simp] theorem ts151 : tsize Tryz.prog 151 = some 1 := by kernel_rfl
@[simp] theorem tal151 (H : AHeap) : aAlloc Tryz.prog H 151 = some (.pointer (some ⟨H.length, 0, some 1⟩), H ++ [.cells [.nilFunc] 151]) := by kernel_rfl
@[simp] theorem tu151 : Tryz.prog.underlying 151 = some (TypeDesc.func #[47, 3, 3, 91] #[3, 149] false) := by kernel_rfl
@[simp] theorem tg152 : tagg Tryz.prog 152 = some false := by kernel_rfl
@[simp] theorem ts152 : tsize Tryz.prog 152 = some 1 := by kernel_rfl
@[simp] theorem tal152 (H : AHeap) : aAlloc Tryz.prog H 152 = some (.pointer (some ⟨H.length, 0, some 1⟩), H ++ [.cells [.nilFunc] 152]) := by kernel_rfl
@[simp] theorem tu152 : Tryz.prog.underlying 152 = some (TypeDesc.func #[47, 3, 3, 91] #[4] false) := by kernel_rfl
@[simp] theorem tg153 : tagg Tryz.prog 153 = some false := by kernel_rfl
@[simp] theorem ts153 : tsize Tryz.prog 153 = some 1 := by kernel_rfl
@[simp] theorem tal153 (H : AHeap) : aAlloc Tryz.prog H 153 = some (.pointer (some ⟨H.length, 0, some 1⟩), H ++ [.cells [.nilFunc] 153]) := by kernel_rfl
@[simp] theorem tu153 : Tryz.prog.underlying 153 = some (TypeDesc.func #[47, 3, 3, 3, 91] #[3] false) := by kernel_rfl
@[simp] theorem tg154 : tagg Tryz.prog 154 = some false := by kernel_rfl
@[simp] theorem ts154 : tsize Tryz.prog 154 = some 1 := by kernel_rfl
@[simp] theorem tal154 (H : AHeap) : aAlloc Tryz.prog H 154 = some (.pointer (some ⟨H.length, 0, some 1⟩), H ++ [.cells [.nilFunc] 154]) := by kernel_rfl
@[simp] theorem tu154 : Tryz.prog.underlying 154 = some (TypeDesc.func #[47, 3, 3, 3, 91] #[3, 4] false) := by kernel_rfl
@[simp] theorem tg155 : tagg Tryz.prog 155 = some false := by kernel_rfl
@[simp] theorem ts155 : tsize Tryz.prog 155 = some 1 := by kernel_rfl
@[simp] theorem tal155 (H : AHeap) : aAlloc Tryz.prog H 155 = some (.pointer (some ⟨H.length, 0, some 1⟩), H ++ [.cells [.nilFunc] 155]) := by kernel_rfl
@[simp] theorem tu155 : Tryz.prog.underlying 155 = some (TypeDesc.func #[77] #[3] false) := by kernel_rfl
@[simp] theorem tg156 : tagg Tryz.prog 156 = some false := by kernel_rfl
@[simp] theorem ts156 : tsize Tryz.prog 156 = some 1 := by kernel_rfl
@[simp] theorem tal156 (H : AHeap) : aAlloc Tryz.prog H 156 = some (.pointer (some ⟨H.length, 0, some 1⟩), H ++ [.cells [.nilFunc] 156]) := by kernel_rfl
@[simp] theorem tu156 : Tryz.prog.underlying 156 = some (TypeDesc.func #[157] #[3] false) := by kernel_rfl
@[simp] theorem tg157 : tagg Tryz.prog 157 = some false := by kernel_rfl
@[simp] theorem ts157 : tsize Tryz.prog 157 = some 1 := by kernel_rfl
@[simp] theorem tal157 (H : AHeap) : aAlloc Tryz.prog H 157 = some (.pointer (some ⟨H.length, 0, some 1⟩), H ++ [.cells [.int IntKind.u64 0] 157]) := by kernel_rfl
@[simp] theorem tu157 : Tryz.prog.underlying 157 = some (TypeDesc.int IntKind.u64) := by kernel_rfl
@[simp] theorem tg158 : tagg Tryz.prog 158 = some false := by kernel_rfl
@[simp] theorem ts158 : tsize Tryz.prog 158 = some 1 := by kernel_rfl
@[simp] theorem tal158 (H : AHeap) : aAlloc Tryz.prog H 158 = some (.pointer (some ⟨H.length, 0, some 1⟩), H ++ [.cells [.nilFunc] 158]) := by kernel_rfl
@[simp] theorem tu158 : Tryz.prog.underlying 158 = some (TypeDesc.func #[9, 5] #[3] false) := by kernel_rfl
@[simp] theorem tg159 : tagg Tryz.prog 159 = some false := by kernel_rfl
@[simp] theorem ts159 : tsize Tryz.prog 159 = some 1 := by kernel_rfl
@[simp] theorem tal159 (H : AHeap) : aAlloc Tryz.prog H 159 = some (.pointer (some ⟨H.length, 0, some 1⟩), H ++ [.cells [.nilFunc] 159]) := by kernel_rfl
@[simp] theorem tu159 : Tryz.prog.underlying 159 = some (TypeDesc.func #[9, 3, 94] #[3] false) := by kernel_rfl
@[simp] theorem tg161 : tagg Tryz.prog 161 = some false := by kernel_rfl
@[simp] theorem ts161 : tsize Tryz.prog 161 = some 1 := by kernel_rfl
@[simp] theorem tal161 (H : AHeap) : aAlloc Tryz.prog H 161 = some (.pointer (some ⟨H.length, 0, some 1⟩), H ++ [.cells [.nilFunc] 161]) := by kernel_rfl
@[simp] theorem tu161 : Tryz.prog.underlying 161 = some (TypeDesc.func #[9, 3] #[9, 3] false) := by kernel_rfl
@[simp] theorem tg162 : tagg Tryz.prog 162 = some false := by kernel_rfl
@[simp] theorem ts162 : tsize Tryz.prog 162 = some 1 := by kernel_rfl
@[simp] theorem tal162 (H : AHeap) : aAlloc Tryz.prog H 162 = some (.pointer (some ⟨H.length, 0, some 1⟩), H ++ [.cells [.nilFunc] 162]) := by kernel_rfl
@[simp] theorem tu162 : Tryz.prog.underlying 162 = some (TypeDesc.func #[38] #[92] false) := by kernel_rfl
@[simp] theorem tg163 : tagg Tryz.prog 163 = some false := by kernel_rfl
@[simp] theorem ts163 : tsize Tryz.prog 163 = some 1 := by kernel_rfl
@[simp] theorem tal163 (H : AHeap) : aAlloc Tryz.prog H 163 = some (.pointer (some ⟨H.length, 0, some 1⟩), H ++ [.cells [.nilFunc] 163]) := by kernel_rfl
@[simp] theorem tu163 : Tryz.prog.underlying 163 = some (TypeDesc.func #[5] #[9] false) := by kernel_rfl
@[simp] theorem tg164 : tagg Tryz.prog 164 = some true := by kernel_rfl
@[simp] theorem ts164 : tsize Tryz.prog 164 = some 3 := by kernel_rfl
@[simp] theorem tf164x0 : afield Tryz.prog 164 0 = some (0, 9) := by kernel_rfl
@[simp] theorem tf164x1 : afield Tryz.prog 164 1 = some (1, 5) := by kernel_rfl
@[simp] theorem tf164x2 : afield Tryz.prog 164 2 = some (2, 9) := by kernel_rfl
@[simp] theorem tal164 (H : AHeap) : aAlloc Tryz.prog H 164 = some (.pointer (some ⟨H.length, 0, some 3⟩), H ++ [.cells [.string ⟨#[]⟩, .int IntKind.u8 0, .string ⟨#[]⟩] 164]) := by kernel_rfl
@[simp] theorem tbv164 (l : List (Nat × Value)) : buildV Tryz.prog 164 l = bldV #[.string ⟨#[]⟩, .int IntKind.u8 0, .string ⟨#[]⟩] [(0, 1), (1, 1), (2, 1)] l := by kernel_rfl
@[simp] theorem tg165 : tagg Tryz.prog 165 = some true := by kernel_rfl
@[simp] theorem ts165 : tsize Tryz.prog 165 = some 3 := by kernel_rfl
@[simp] theorem tf165x0 : afield Tryz.prog 165 0 = some (0, 9) := by kernel_rfl
@[simp] theorem tf165x1 : afield Tryz.prog 165 1 = some (1, 5) := by kernel_rfl
@[simp] theorem tf165x2 : afield Tryz.prog 165 2 = some (2, 9) := by kernel_rfl
@[simp] theorem tal165 (H : AHeap) : aAlloc Tryz.prog H 165 = some (.pointer (some ⟨H.length, 0, some 3⟩), H ++ [.cells [.string ⟨#[]⟩, .int IntKind.u8 0, .string ⟨#[]⟩] 165]) := by kernel_rfl
@[simp] theorem tbv165 (l : List (Nat × Value)) : buildV Tryz.prog 165 l = bldV #[.string ⟨#[]⟩, .int IntKind.u8 0, .string ⟨#[]⟩] [(0, 1), (1, 1), (2, 1)] l := by kernel_rfl
@[simp] theorem tg166 : tagg Tryz.prog 166 = some false := by kernel_rfl
@[simp] theorem ts166 : tsize Tryz.prog 166 = some 1 := by kernel_rfl
@[simp] theorem tal166 (H : AHeap) : aAlloc Tryz.prog H 166 = some (.pointer (some ⟨H.length, 0, some 1⟩), H ++ [.cells [.nilFunc] 166]) := by kernel_rfl
@[simp] theorem tu166 : Tryz.prog.underlying 166 = some (TypeDesc.func #[74] #[4] false) := by kernel_rfl
@[simp] theorem tg168 : tagg Tryz.prog 168 = some false := by kernel_rfl
@[simp] theorem ts168 : tsize Tryz.prog 168 = some 1 := by kernel_rfl
@[simp] theorem tal168 (H : AHeap) : aAlloc Tryz.prog H 168 = some (.pointer (some ⟨H.length, 0, some 1⟩), H ++ [.cells [.nilFunc] 168]) := by kernel_rfl
@[simp] theorem tu168 : Tryz.prog.underlying 168 = some (TypeDesc.func #[9] #[2, 23] false) := by kernel_rfl
@[simp] theorem tg169 : tagg Tryz.prog 169 = some false := by kernel_rfl
@[simp] theorem ts169 : tsize Tryz.prog 169 = some 1 := by kernel_rfl
@[simp] theorem tal169 (H : AHeap) : aAlloc Tryz.prog H 169 = some (.pointer (some ⟨H.length, 0, some 1⟩), H ++ [.cells [.nilFunc] 169]) := by kernel_rfl
@[simp] theorem tu169 : Tryz.prog.underlying 169 = some (TypeDesc.func #[2] #[2] false) := by kernel_rfl
@[simp] theorem tg170 : tagg Tryz.prog 170 = some false := by kernel_rfl
@[simp] theorem ts170 : tsize Tryz.prog 170 = some 1 := by kernel_rfl
@[simp] theorem tal170 (H : AHeap) : aAlloc Tryz.prog H 170 = some (.pointer (some ⟨H.length, 0, some 1⟩), H ++ [.cells [.pointer none] 170]) := by kernel_rfl
@[simp] theorem tu170 : Tryz.prog.underlying 170 = some (TypeDesc.pointer 5) := by kernel_rfl
@[simp] theorem tg171 : tagg Tryz.prog 171 = some false := by kernel_rfl
@[simp] theorem ts171 : tsize Tryz.prog 171 = some 1 := by kernel_rfl
@[simp] theorem tal171 (H : AHeap) : aAlloc Tryz.prog H 171 = some (.pointer (some ⟨H.length, 0, some 1⟩), H ++ [.cells [.nilFunc] 171]) := by kernel_rfl
@[simp] theorem tu171 : Tryz.prog.underlying 171 = some (TypeDesc.func #[2, 3] #[9] false) := by kernel_rfl
@[simp] theorem tg172 : tagg Tryz.prog 172 = some false := by kernel_rfl
@[simp] theorem ts172 : tsize Tryz.prog 172 = some 1 := by kernel_rfl
@[simp] theorem tal172 (H : AHeap) : aAlloc Tryz.prog H 172 = some (.pointer (some ⟨H.length, 0, some 1⟩), H ++ [.cells [.nilFunc] 172]) := by kernel_rfl
@[simp] theorem tu172 : Tryz.prog.underlying 172 = some (TypeDesc.func #[74] #[9] false) := by kernel_rfl
@[simp] theorem tg173 : tagg Tryz.prog 173 = some false := by kernel_rfl
@[simp] theorem ts173 : tsize Tryz.prog 173 = some 1 := by kernel_rfl
@[simp] theorem tal173 (H : AHeap) : aAlloc Tryz.prog H 173 = some (.pointer (some ⟨H.length, 0, some 1⟩), H ++ [.cells [.nilFunc] 173]) := by kernel_rfl
@[simp] theorem tu173 : Tryz.prog.underlying 173 = some (TypeDesc.func #[2] #[9] false) := by kernel_rfl
@[simp] theorem tg174 : tagg Tryz.prog 174 = some false := by kernel_rfl
@[simp] theorem ts174 : tsize Tryz.prog 174 = some 1 := by kernel_rfl
@[simp] theorem tal174 (H : AHeap) : aAlloc Tryz.prog H 174 = some (.pointer (some ⟨H.length, 0, some 1⟩), H ++ [.cells [.nilFunc] 174]) := by kernel_rfl
@[simp] theorem tu174 : Tryz.prog.underlying 174 = some (TypeDesc.func #[76] #[3] false) := by kernel_rfl
@[simp] theorem tg175 : tagg Tryz.prog 175 = some false := by kernel_rfl
@[simp] theorem ts175 : tsize Tryz.prog 175 = some 1 := by kernel_rfl
@[simp] theorem tal175 (H : AHeap) : aAlloc Tryz.prog H 175 = some (.pointer (some ⟨H.length, 0, some 1⟩), H ++ [.cells [.slice none 0 0] 175]) := by kernel_rfl
@[simp] theorem tbs175 (H : AHeap) (n : Nat) (l : List (Nat × Value)) : aBuildSlice Tryz.prog H 175 n l = bslV 112 #[.slice none 0 0] H n l := by kernel_rfl
@[simp] theorem tel175 : aElem Tryz.prog 175 = some (112, 1, 24) := by kernel_rfl
@[simp] theorem tu175 : Tryz.prog.underlying 175 = some (TypeDesc.slice 112) := by kernel_rfl
@[simp] theorem tg176 : tagg Tryz.prog 176 = some false := by kernel_rfl
@[simp] theorem ts176 : tsize Tryz.prog 176 = some 1 := by kernel_rfl
@[simp] theorem tal176 (H : AHeap) : aAlloc Tryz.prog H 176 = some (.pointer (some ⟨H.length, 0, some 1⟩), H ++ [.cells [.pointer none] 176]) := by kernel_rfl
@[simp] theorem tu176 : Tryz.prog.underlying 176 = some (TypeDesc.pointer 209) := by kernel_rfl
@[simp] theorem tg177 : tagg Tryz.prog 177 = some false := by kernel_rfl
@[simp] theorem ts177 : tsize Tryz.prog 177 = some 1 := by kernel_rfl
@[simp] theorem tal177 (H : AHeap) : aAlloc Tryz.prog H 177 = some (.pointer (some ⟨H.length, 0, some 1⟩), H ++ [.cells [.nilFunc] 177]) := by kernel_rfl
@[simp] theorem tu177 : Tryz.prog.underlying 177 = some (TypeDesc.func #[] #[176] false) := by kernel_rfl
@[simp] theorem tg178 : tagg Tryz.prog 178 = some false := by kernel_rfl
@[simp] theorem ts178 : tsize Tryz.prog 178 = some 1 := by kernel_rfl
@[simp] theorem tal178 (H : AHeap) : aAlloc Tryz.prog H 178 = some (.pointer (some ⟨H.length, 0, some 1⟩), H ++ [.cells [.nilFunc] 178]) := by kernel_rfl
@[simp] theorem tu178 : Tryz.prog.underlying 178 = some (TypeDesc.func #[77, 176, 112] #[77] false) := by kernel_rfl
@[simp] theorem tg179 : tagg Tryz.prog 179 = some false := by kernel_rfl
@[simp] theorem ts179 : tsize Tryz.prog 179 = some 1 := by kernel_rfl
@[simp] theorem tal179 (H : AHeap) : aAlloc Tryz.prog H 179 = some (.pointer (some ⟨H.length, 0, some 1⟩), H ++ [.cells [.nilFunc] 179]) := by kernel_rfl
@[simp] theorem tu179 : Tryz.prog.underlying 179 = some (TypeDesc.func #[3, 40] #[4] false) := by kernel_rfl
@[simp] theorem tg180 : tagg Tryz.prog 180 = some false := by kernel_rfl
@[simp] theorem ts180 : tsize Tryz.prog 180 = some 1 := by kernel_rfl
@[simp] theorem tal180 (H : AHeap) : aAlloc Tryz.prog H 180 = some (.pointer (some ⟨H.length, 0, some 1⟩), H ++ [.cells [.int IntKind.u64 0] 180]) := by kernel_rfl
@[simp] theorem tu180 : Tryz.prog.underlying 180 = some (TypeDesc.int IntKind.u64) := by kernel_rfl
@[simp] theorem tg181 : tagg Tryz.prog 181 = some false := by kernel_rfl
@[simp] theorem ts181 : tsize Tryz.prog 181 = some 1 := by kernel_rfl
@[simp] theorem tal181 (H : AHeap) : aAlloc Tryz.prog H 181 = some (.pointer (some ⟨H.length, 0, some 1⟩), H ++ [.cells [.nilFunc] 181]) := by kernel_rfl
@[simp] theorem tu181 : Tryz.prog.underlying 181 = some (TypeDesc.func #[3] #[119] false) := by kernel_rfl
@[simp] theorem tg182 : tagg Tryz.prog 182 = some false := by kernel_rfl
@[simp] theorem ts182 : tsize Tryz.prog 182 = some 1 := by kernel_rfl
@[simp] theorem tal182 (H : AHeap) : aAlloc Tryz.prog H 182 = some (.pointer (some ⟨H.length, 0, some 1⟩), H ++ [.cells [.nilFunc] 182]) := by kernel_rfl
@[simp] theorem tu182 : Tryz.prog.underlying 182 = some (TypeDesc.func #[] #[157] false) := by kernel_rfl
@[simp] theorem tg183 : tagg Tryz.prog 183 = some false := by kernel_rfl
@[simp] theorem ts183 : tsize Tryz.prog 183 = some 1 := by kernel_rfl
@[simp] theorem tal183 (H : AHeap) : aAlloc Tryz.prog H 183 = some (.pointer (some ⟨H.length, 0, some 1⟩), H ++ [.cells [.nilFunc] 183]) := by kernel_rfl
@[simp] theorem tu183 : Tryz.prog.underlying 183 = some (TypeDesc.func #[47, 3, 184, 91] #[3] false) := by kernel_rfl
@[simp] theorem tg184 : tagg Tryz.prog 184 = some false := by kernel_rfl
@[simp] theorem ts184 : tsize Tryz.prog 184 = some 1 := by kernel_rfl
@[simp] theorem tal184 (H : AHeap) : aAlloc Tryz.prog H 184 = some (.pointer (some ⟨H.length, 0, some 1⟩), H ++ [.cells [.pointer none] 184]) := by kernel_rfl
@[simp] theorem tu184 : Tryz.prog.underlying 184 = some (TypeDesc.pointer 3) := by kernel_rfl
@[simp] theorem tg185 : tagg Tryz.prog 185 = some false := by kernel_rfl
@[simp] theorem ts185 : tsize Tryz.prog 185 = some 1 := by kernel_rfl
@[simp] theorem tal185 (H : AHeap) : aAlloc Tryz.prog H 185 = some (.pointer (some ⟨H.length, 0, some 1⟩), H ++ [.cells [.nilFunc] 185]) := by kernel_rfl
@[simp] theorem tu185 : Tryz.prog.underlying 185 = some (TypeDesc.func #[47, 3, 3, 3, 184, 91] #[3] false) := by kernel_rfl
@[simp] theorem tg186 : tagg Tryz.prog 186 = some false := by kernel_rfl
@[simp] theorem ts186 : tsize Tryz.prog 186 = some 1 := by kernel_rfl
@[simp] theorem tal186 (H : AHeap) : aAlloc Tryz.prog H 186 = some (.pointer (some ⟨H.length, 0, some 1⟩), H ++ [.cells [.nilFunc] 186]) := by kernel_rfl
@[simp] theorem tu186 : Tryz.prog.underlying 186 = some (TypeDesc.func #[5] #[137] false) := by kernel_rfl
@[simp] theorem tg187 : tagg Tryz.prog 187 = some false := by kernel_rfl
@[simp] theorem ts187 : tsize Tryz.prog 187 = some 1 := by kernel_rfl
@[simp] theorem tal187 (H : AHeap) : aAlloc Tryz.prog H 187 = some (.pointer (some ⟨H.length, 0, some 1⟩), H ++ [.cells [.map none] 187]) := by kernel_rfl
@[simp] theorem tm187 : mtype Tryz.prog 187 = some ((TypeDesc.int IntKind.u8), 191) := by kernel_rfl
@[simp] theorem tz187 : tzero Tryz.prog 191 = some (.agg #[.string ⟨#[]⟩, .nilFunc]) := by kernel_rfl
@[simp] theorem tu187 : Tryz.prog.underlying 187 = some (TypeDesc.map 5 191) := by kernel_rfl
@[simp] theorem tg188 : tagg Tryz.prog 188 = some false := by kernel_rfl
@[simp] theorem ts188 : tsize Tryz.prog 188 = some 1 := by kernel_rfl
@[simp] theorem tal188 (H : AHeap) : aAlloc Tryz.prog H 188 = some (.pointer (some ⟨H.length, 0, some 1⟩), H ++ [.cells [.nilFunc] 188]) := by kernel_rfl
@[simp] theorem tu188 : Tryz.prog.underlying 188 = some (TypeDesc.func #[] #[187] false) := by kernel_rfl
@[simp] theorem tg189 : tagg Tryz.prog 189 = some false := by kernel_rfl
@[simp] theorem ts189 : tsize Tryz.prog 189 = some 1 := by kernel_rfl
@[simp] theorem tal189 (H : AHeap) : aAlloc Tryz.prog H 189 = some (.pointer (some ⟨H.length, 0, some 1⟩), H ++ [.cells [.nilFunc] 189]) := by kernel_rfl
@[simp] theorem tu189 : Tryz.prog.underlying 189 = some (TypeDesc.func #[9, 9] #[4] false) := by kernel_rfl
@[simp] theorem tg190 : tagg Tryz.prog 190 = some true := by kernel_rfl
@[simp] theorem ts190 : tsize Tryz.prog 190 = some 2 := by kernel_rfl
@[simp] theorem tf190x0 : afield Tryz.prog 190 0 = some (0, 9) := by kernel_rfl
@[simp] theorem tf190x1 : afield Tryz.prog 190 1 = some (1, 189) := by kernel_rfl
@[simp] theorem tal190 (H : AHeap) : aAlloc Tryz.prog H 190 = some (.pointer (some ⟨H.length, 0, some 2⟩), H ++ [.cells [.string ⟨#[]⟩, .nilFunc] 190]) := by kernel_rfl
@[simp] theorem tbv190 (l : List (Nat × Value)) : buildV Tryz.prog 190 l = bldV #[.string ⟨#[]⟩, .nilFunc] [(0, 1), (1, 1)] l := by kernel_rfl
@[simp] theorem tg191 : tagg Tryz.prog 191 = some true := by kernel_rfl
@[simp] theorem ts191 : tsize Tryz.prog 191 = some 2 := by kernel_rfl
@[simp] theorem tf191x0 : afield Tryz.prog 191 0 = some (0, 9) := by kernel_rfl
@[simp] theorem tf191x1 : afield Tryz.prog 191 1 = some (1, 189) := by kernel_rfl
@[simp] theorem tal191 (H : AHeap) : aAlloc Tryz.prog H 191 = some (.pointer (some ⟨H.length, 0, some 2⟩), H ++ [.cells [.string ⟨#[]⟩, .nilFunc] 191]) := by kernel_rfl
@[simp] theorem tbv191 (l : List (Nat × Value)) : buildV Tryz.prog 191 l = bldV #[.string ⟨#[]⟩, .nilFunc] [(0, 1), (1, 1)] l := by kernel_rfl
@[simp] theorem tg193 : tagg Tryz.prog 193 = some false := by kernel_rfl
@[simp] theorem ts193 : tsize Tryz.prog 193 = some 1 := by kernel_rfl
@[simp] theorem tal193 (H : AHeap) : aAlloc Tryz.prog H 193 = some (.pointer (some ⟨H.length, 0, some 1⟩), H ++ [.cells [.nilFunc] 193]) := by kernel_rfl
@[simp] theorem tu193 : Tryz.prog.underlying 193 = some (TypeDesc.func #[9, 9, 3, 3, 137] #[137] false) := by kernel_rfl
@[simp] theorem tg195 : tagg Tryz.prog 195 = some false := by kernel_rfl
@[simp] theorem ts195 : tsize Tryz.prog 195 = some 1 := by kernel_rfl
@[simp] theorem tal195 (H : AHeap) : aAlloc Tryz.prog H 195 = some (.pointer (some ⟨H.length, 0, some 1⟩), H ++ [.cells [.nilFunc] 195]) := by kernel_rfl
@[simp] theorem tu195 : Tryz.prog.underlying 195 = some (TypeDesc.func #[9, 9] #[9, 4] false) := by kernel_rfl
@[simp] theorem tg197 : tagg Tryz.prog 197 = some false := by kernel_rfl
@[simp] theorem ts197 : tsize Tryz.prog 197 = some 1 := by kernel_rfl
@[simp] theorem tal197 (H : AHeap) : aAlloc Tryz.prog H 197 = some (.pointer (some ⟨H.length, 0, some 1⟩), H ++ [.cells [.nilFunc] 197]) := by kernel_rfl
@[simp] theorem tu197 : Tryz.prog.underlying 197 = some (TypeDesc.func #[9] #[9, 9, 4] false) := by kernel_rfl
@[simp] theorem tg198 : tagg Tryz.prog 198 = some false := by kernel_rfl
@[simp] theorem ts198 : tsize Tryz.prog 198 = some 1 := by kernel_rfl
@[simp] theorem tal198 (H : AHeap) : aAlloc Tryz.prog H 198 = some (.pointer (some ⟨H.length, 0, some 1⟩), H ++ [.cells [.nilFunc] 198]) := by kernel_rfl
@[simp] theorem tu198 : Tryz.prog.underlying 198 = some (TypeDesc.func #[9, 3] #[9] false) := by kernel_rfl
@[simp] theorem tg199 : tagg Tryz.prog 199 = some false := by kernel_rfl
@[simp] theorem ts199 : tsize Tryz.prog 199 = some 1 := by kernel_rfl
@[simp] theorem tal199 (H : AHeap) : aAlloc Tryz.prog H 199 = some (.pointer (some ⟨H.length, 0, some 1⟩), H ++ [.cells [.pointer none] 199]) := by kernel_rfl
@[simp] theorem tu199 : Tryz.prog.underlying 199 = some TypeDesc.unsafePointer := by kernel_rfl
@[simp] theorem tg200 : tagg Tryz.prog 200 = some false := by kernel_rfl
@[simp] theorem ts200 : tsize Tryz.prog 200 = some 1 := by kernel_rfl
@[simp] theorem tal200 (H : AHeap) : aAlloc Tryz.prog H 200 = some (.pointer (some ⟨H.length, 0, some 1⟩), H ++ [.cells [.nilFunc] 200]) := by kernel_rfl
@[simp] theorem tu200 : Tryz.prog.underlying 200 = some (TypeDesc.func #[199] #[199] false) := by kernel_rfl
@[simp] theorem tg201 : tagg Tryz.prog 201 = some false := by kernel_rfl
@[simp] theorem ts201 : tsize Tryz.prog 201 = some 1 := by kernel_rfl
@[simp] theorem tal201 (H : AHeap) : aAlloc Tryz.prog H 201 = some (.pointer (some ⟨H.length, 0, some 1⟩), H ++ [.cells [.nilFunc] 201]) := by kernel_rfl
@[simp] theorem tu201 : Tryz.prog.underlying 201 = some (TypeDesc.func #[3] #[112] false) := by kernel_rfl
@[simp] theorem tg202 : tagg Tryz.prog 202 = some true := by kernel_rfl
@[simp] theorem ts202 : tsize Tryz.prog 202 = some 24 := by kernel_rfl
@[simp] theorem tal202 (H : AHeap) : aAlloc Tryz.prog H 202 = some (.pointer (some ⟨H.length, 0, some 24⟩), H ++ [.cells [.int IntKind.u8 0, .int IntKind.u8 0, .int IntKind.u8 0, .int IntKind.u8 0, .int IntKind.u8 0, .int IntKind.u8 0, .int IntKind.u8 0, .int IntKind.u8 0, .int IntKind.u8 0, .int IntKind.u8 0, .int IntKind.u8 0, .int IntKind.u8 0, .int IntKind.u8 0, .int IntKind.u8 0, .int IntKind.u8 0, .int IntKind.u8 0, .int IntKind.u8 0, .int IntKind.u8 0, .int IntKind.u8 0, .int IntKind.u8 0, .int IntKind.u8 0, .int IntKind.u8 0, .int IntKind.u8 0, .int IntKind.u8 0] 202]) := by kernel_rfl
@[simp] theorem tu202 : Tryz.prog.underlying 202 = some (TypeDesc.array 24 5) := by kernel_rfl
@[simp] theorem tg203 : tagg Tryz.prog 203 = some false := by kernel_rfl
@[simp] theorem ts203 : tsize Tryz.prog 203 = some 1 := by kernel_rfl
@[simp] theorem tal203 (H : AHeap) : aAlloc Tryz.prog H 203 = some (.pointer (some ⟨H.length, 0, some 1⟩), H ++ [.cells [.nilFunc] 203]) := by kernel_rfl
@[simp] theorem tu203 : Tryz.prog.underlying 203 = some (TypeDesc.func #[112, 157] #[] false) := by kernel_rfl
@[simp] theorem tg205 : tagg Tryz.prog 205 = some false := by kernel_rfl
@[simp] theorem ts205 : tsize Tryz.prog 205 = some 1 := by kernel_rfl
@[simp] theorem tal205 (H : AHeap) : aAlloc Tryz.prog H 205 = some (.pointer (some ⟨H.length, 0, some 1⟩), H ++ [.cells [.nilFunc] 205]) := by kernel_rfl
@[simp] theorem tu205 : Tryz.prog.underlying 205 = some (TypeDesc.func #[112, 157, 3, 4, 4] #[112, 9] false) := by kernel_rfl
@[simp] theorem tg206 : tagg Tryz.prog 206 = some false := by kernel_rfl
@[simp] theorem ts206 : tsize Tryz.prog 206 = some 1 := by kernel_rfl
@[simp] theorem tal206 (H : AHeap) : aAlloc Tryz.prog H 206 = some (.pointer (some ⟨H.length, 0, some 1⟩), H ++ [.cells [.nilFunc] 206]) := by kernel_rfl
@[simp] theorem tu206 : Tryz.prog.underlying 206 = some (TypeDesc.func #[38] #[9] true) := by kernel_rfl
@[simp] theorem tg207 : tagg Tryz.prog 207 = some false := by kernel_rfl
@[simp] theorem ts207 : tsize Tryz.prog 207 = some 1 := by kernel_rfl
@[simp] theorem tal207 (H : AHeap) : aAlloc Tryz.prog H 207 = some (.pointer (some ⟨H.length, 0, some 1⟩), H ++ [.cells [.nilFunc] 207]) := by kernel_rfl
@[simp] theorem tu207 : Tryz.prog.underlying 207 = some (TypeDesc.func #[9, 9] #[9] false) := by kernel_rfl
@[simp] theorem tg208 : tagg Tryz.prog 208 = some false := by kernel_rfl
@[simp] theorem ts208 : tsize Tryz.prog 208 = some 1 := by kernel_rfl
@[simp] theorem tal208 (H : AHeap) : aAlloc Tryz.prog H 208 = some (.pointer (some ⟨H.length, 0, some 1⟩), H ++ [.cells [.map none] 208]) := by kernel_rfl
@[simp] theorem tm208 : mtype Tryz.prog 208 = some ((TypeDesc.int IntKind.u8), 3) := by kernel_rfl
@[simp] theorem tz208 : tzero Tryz.prog 3 = some (.int IntKind.i64 0) := by kernel_rfl
@[simp] theorem tu208 : Tryz.prog.underlying 208 = some (TypeDesc.map 5 3) := by kernel_rfl
@[simp] theorem tg209 : tagg Tryz.prog 209 = some true := by kernel_rfl
@[simp] theorem ts209 : tsize Tryz.prog 209 = some 256 := by kernel_rfl
@[simp] theorem tu209 : Tryz.prog.underlying 209 = some (TypeDesc.array 256 77) := by kernel_rfl
@[simp] theorem tg210 : tagg Tryz.prog 210 = some false := by kernel_rfl
@[simp] theorem ts210 : tsize Tryz.prog 210 = some 1 := by kernel_rfl
@[simp] theorem tal210 (H : AHeap) : aAlloc Tryz.prog H 210 = some (.pointer (some ⟨H.length, 0, some 1⟩), H ++ [.cells [.nilFunc] 210]) := by kernel_rfl
@[simp] theorem tu210 : Tryz.prog.underlying 210 = some (TypeDesc.func #[77] #[77] false) := by kernel_rfl
@[simp] theorem tg211 : tagg Tryz.prog 211 = some false := by kernel_rfl
@[simp] theorem ts211 : tsize Tryz.prog 211 = some 1 := by kernel_rfl
@[simp] theorem tal211 (H : AHeap) : aAlloc Tryz.prog H 211 = some (.pointer (some ⟨H.length, 0, some 1⟩), H ++ [.cells [.pointer none] 211]) := by kernel_rfl
@[simp] theorem tu211 : Tryz.prog.underlying 211 = some (TypeDesc.pointer 180) := by kernel_rfl
@[simp] theorem tg213 : tagg Tryz.prog 213 = some false := by kernel_rfl
@[simp] theorem ts213 : tsize Tryz.prog 213 = some 1 := by kernel_rfl
@[simp] theorem tal213 (H : AHeap) : aAlloc Tryz.prog H 213 = some (.pointer (some ⟨H.length, 0, some 1⟩), H ++ [.cells [.nilFunc] 213]) := by kernel_rfl
@[simp] theorem tu213 : Tryz.prog.underlying 213 = some (TypeDesc.func #[47, 3, 3, 184, 91] #[3, 3] false) := by kernel_rfl
@[simp] theorem tg214 : tagg Tryz.prog 214 = some false := by kernel_rfl
@[simp] theorem ts214 : tsize Tryz.prog 214 = some 1 := by kernel_rfl
@[simp] theorem tal214 (H : AHeap) : aAlloc Tryz.prog H 214 = some (.pointer (some ⟨H.length, 0, some 1⟩), H ++ [.cells [.int IntKind.i64 0] 214]) := by kernel_rfl
@[simp] theorem tu214 : Tryz.prog.underlying 214 = some (TypeDesc.int IntKind.i64) := by kernel_rfl
@[simp] theorem tg216 : tagg Tryz.prog 216 = some false := by kernel_rfl
@[simp] theorem ts216 : tsize Tryz.prog 216 = some 1 := by kernel_rfl
@[simp] theorem tal216 (H : AHeap) : aAlloc Tryz.prog H 216 = some (.pointer (some ⟨H.length, 0, some 1⟩), H ++ [.cells [.nilFunc] 216]) := by kernel_rfl
@[simp] theorem tu216 : Tryz.prog.underlying 216 = some (TypeDesc.func #[9, 3, 3] #[2, 137] false) := by kernel_rfl
@[simp] theorem tg217 : tagg Tryz.prog 217 = some false := by kernel_rfl
@[simp] theorem ts217 : tsize Tryz.prog 217 = some 1 := by kernel_rfl
@[simp] theorem tal217 (H : AHeap) : aAlloc Tryz.prog H 217 = some (.pointer (some ⟨H.length, 0, some 1⟩), H ++ [.cells [.pointer none] 217]) := by kernel_rfl
@[simp] theorem tu217 : Tryz.prog.underlying 217 = some (TypeDesc.pointer 236) := by kernel_rfl
@[simp] theorem tg218 : tagg Tryz.prog 218 = some false := by kernel_rfl
@[simp] theorem ts218 : tsize Tryz.prog 218 = some 1 := by kernel_rfl
@[simp] theorem tal218 (H : AHeap) : aAlloc Tryz.prog H 218 = some (.pointer (some ⟨H.length, 0, some 1⟩), H ++ [.cells [.nilFunc] 218]) := by kernel_rfl
@[simp] theorem tu218 : Tryz.prog.underlying 218 = some (TypeDesc.func #[9, 9] #[217] false) := by kernel_rfl
@[simp] theorem tg219 : tagg Tryz.prog 219 = some false := by kernel_rfl
@[simp] theorem ts219 : tsize Tryz.prog 219 = some 1 := by kernel_rfl
@[simp] theorem tal219 (H : AHeap) : aAlloc Tryz.prog H 219 = some (.pointer (some ⟨H.length, 0, some 1⟩), H ++ [.cells [.nilFunc] 219]) := by kernel_rfl
@[simp] theorem tu219 : Tryz.prog.underlying 219 = some (TypeDesc.func #[9, 9, 3] #[217] false) := by kernel_rfl
@[simp] theorem tg221 : tagg Tryz.prog 221 = some false := by kernel_rfl
@[simp] theorem ts221 : tsize Tryz.prog 221 = some 1 := by kernel_rfl
@[simp] theorem tal221 (H : AHeap) : aAlloc Tryz.prog H 221 = some (.pointer (some ⟨H.length, 0, some 1⟩), H ++ [.cells [.nilFunc] 221]) := by kernel_rfl
@[simp] theorem tu221 : Tryz.prog.underlying 221 = some (TypeDesc.func #[119, 119] #[119, 119] false) := by kernel_rfl
@[simp] theorem tg222 : tagg Tryz.prog 222 = some false := by kernel_rfl
@[simp] theorem ts222 : tsize Tryz.prog 222 = some 1 := by kernel_rfl
@[simp] theorem tal222 (H : AHeap) : aAlloc Tryz.prog H 222 = some (.pointer (some ⟨H.length, 0, some 1⟩), H ++ [.cells [.nilFunc] 222]) := by kernel_rfl
@[simp] theorem tu222 : Tryz.prog.underlying 222 = some (TypeDesc.func #[3] #[3] false) := by kernel_rfl
@[simp] theorem tg223 : tagg Tryz.prog 223 = some false := by kernel_rfl
@[simp] theorem ts223 : tsize Tryz.prog 223 = some 1 := by kernel_rfl
@[simp] theorem tal223 (H : AHeap) : aAlloc Tryz.prog H 223 = some (.pointer (some ⟨H.length, 0, some 1⟩), H ++ [.cells [.nilFunc] 223]) := by kernel_rfl
@[simp] theorem tu223 : Tryz.prog.underlying 223 = some (TypeDesc.func #[4] #[3] false) := by kernel_rfl
@[simp] theorem tg224 : tagg Tryz.prog 224 = some true := by kernel_rfl
@[simp] theorem ts224 : tsize Tryz.prog 224 = some 20 := by kernel_rfl
@[simp] theorem tal224 (H : AHeap) : aAlloc Tryz.prog H 224 = some (.pointer (some ⟨H.length, 0, some 20⟩), H ++ [.cells [.int IntKind.u64 0, .int IntKind.u64 0, .int IntKind.u64 0, .int IntKind.u64 0, .int IntKind.u64 0, .int IntKind.u64 0, .int IntKind.u64 0, .int IntKind.u64 0, .int IntKind.u64 0, .int IntKind.u64 0, .int IntKind.u64 0, .int IntKind.u64 0, .int IntKind.u64 0, .int IntKind.u64 0, .int IntKind.u64 0, .int IntKind.u64 0, .int IntKind.u64 0, .int IntKind.u64 0, .int IntKind.u64 0, .int IntKind.u64 0] 224]) := by kernel_rfl
@[simp] theorem tu224 : Tryz.prog.underlying 224 = some (TypeDesc.array 20 157) := by kernel_rfl
@[simp] theorem tg225 : tagg Tryz.prog 225 = some true := by kernel_rfl
@[simp] theorem ts225 : tsize Tryz.prog 225 = some 65 := by kernel_rfl
@[simp] theorem tu225 : Tryz.prog.underlying 225 = some (TypeDesc.array 65 5) := by kernel_rfl
@[simp] theorem tg226 : tagg Tryz.prog 226 = some false := by kernel_rfl
@[simp] theorem ts226 : tsize Tryz.prog 226 = some 1 := by kernel_rfl
@[simp] theorem tal226 (H : AHeap) : aAlloc Tryz.prog H 226 = some (.pointer (some ⟨H.length, 0, some 1⟩), H ++ [.cells [.nilFunc] 226]) := by kernel_rfl
@[simp] theorem tu226 : Tryz.prog.underlying 226 = some (TypeDesc.func #[9, 5] #[9] false) := by kernel_rfl
@[simp] theorem tg227 : tagg Tryz.prog 227 = some true := by kernel_rfl
@[simp] theorem ts227 : tsize Tryz.prog 227 = some 256 := by kernel_rfl
@[simp] theorem tu227 : Tryz.prog.underlying 227 = some (TypeDesc.array 256 4) := by kernel_rfl
@[simp] theorem tg228 : tagg Tryz.prog 228 = some true := by kernel_rfl
@[simp] theorem ts228 : tsize Tryz.prog 228 = some 256 := by kernel_rfl
@[simp] theorem tu228 : Tryz.prog.underlying 228 = some (TypeDesc.array 256 4) := by kernel_rfl
@[simp] theorem tg230 : tagg Tryz.prog 230 = some false := by kernel_rfl
@[simp] theorem ts230 : tsize Tryz.prog 230 = some 1 := by kernel_rfl
@[simp] theorem tal230 (H : AHeap) : aAlloc Tryz.prog H 230 = some (.pointer (some ⟨H.length, 0, some 1⟩), H ++ [.cells [.nilFunc] 230]) := by kernel_rfl
@[simp] theorem tu230 : Tryz.prog.underlying 230 = some (TypeDesc.func #[9] #[228, 4] false) := by kernel_rfl
@[simp] theorem tg231 : tagg Tryz.prog 231 = some false := by kernel_rfl
@[simp] theorem ts231 : tsize Tryz.prog 231 = some 1 := by kernel_rfl
@[simp] theorem tal231 (H : AHeap) : aAlloc Tryz.prog H 231 = some (.pointer (some ⟨H.length, 0, some 1⟩), H ++ [.cells [.nilFunc] 231]) := by kernel_rfl
@[simp] theorem tu231 : Tryz.prog.underlying 231 = some (TypeDesc.func #[9, 232] #[9] false) := by kernel_rfl
@[simp] theorem tg232 : tagg Tryz.prog 232 = some false := by kernel_rfl
@[simp] theorem ts232 : tsize Tryz.prog 232 = some 1 := by kernel_rfl
@[simp] theorem tal232 (H : AHeap) : aAlloc Tryz.prog H 232 = some (.pointer (some ⟨H.length, 0, some 1⟩), H ++ [.cells [.pointer none] 232]) := by kernel_rfl
@[simp] theorem tu232 : Tryz.prog.underlying 232 = some (TypeDesc.pointer 228) := by kernel_rfl
@[simp] theorem tg234 : tagg Tryz.prog 234 = some false := by kernel_rfl
@[simp] theorem ts234 : tsize Tryz.prog 234 = some 1 := by kernel_rfl
@[simp] theorem tal234 (H : AHeap) : aAlloc Tryz.prog H 234 = some (.pointer (some ⟨H.length, 0, some 1⟩), H ++ [.cells [.nilFunc] 234]) := by kernel_rfl
@[simp] theorem tu234 : Tryz.prog.underlying 234 = some (TypeDesc.func #[9, 3, 3] #[157, 137] false) := by kernel_rfl
@[simp] theorem tg235 : tagg Tryz.prog 235 = some true := by kernel_rfl
@[simp] theorem ts235 : tsize Tryz.prog 235 = some 3 := by kernel_rfl
@[simp] theorem tf235x0 : afield Tryz.prog 235 0 = some (0, 9) := by kernel_rfl
@[simp] theorem tf235x1 : afield Tryz.prog 235 1 = some (1, 9) := by kernel_rfl
@[simp] theorem tf235x2 : afield Tryz.prog 235 2 = some (2, 137) := by kernel_rfl
@[simp] theorem tal235 (H : AHeap) : aAlloc Tryz.prog H 235 = some (.pointer (some ⟨H.length, 0, some 3⟩), H ++ [.cells [.string ⟨#[]⟩, .string ⟨#[]⟩, .nilIface] 235]) := by kernel_rfl
@[simp] theorem tbv235 (l : List (Nat × Value)) : buildV Tryz.prog 235 l = bldV #[.string ⟨#[]⟩, .string ⟨#[]⟩, .nilIface] [(0, 1), (1, 1), (2, 1)] l := by kernel_rfl
@[simp] theorem tg236 : tagg Tryz.prog 236 = some true := by kernel_rfl
@[simp] theorem ts236 : tsize Tryz.prog 236 = some 3 := by kernel_rfl
@[simp] theorem tf236x0 : afield Tryz.prog 236 0 = some (0, 9) := by kernel_rfl
@[simp] theorem tf236x1 : afield Tryz.prog 236 1 = some (1, 9) := by kernel_rfl
@[simp] theorem tf236x2 : afield Tryz.prog 236 2 = some (2, 137) := by kernel_rfl
@[simp] theorem tal236 (H : AHeap) : aAlloc Tryz.prog H 236 = some (.pointer (some ⟨H.length, 0, some 3⟩), H ++ [.cells [.string ⟨#[]⟩, .string ⟨#[]⟩, .nilIface] 236]) := by kernel_rfl
@[simp] theorem tbv236 (l : List (Nat × Value)) : buildV Tryz.prog 236 l = bldV #[.string ⟨#[]⟩, .string ⟨#[]⟩, .nilIface] [(0, 1), (1, 1), (2, 1)] l := by kernel_rfl
@[simp] theorem tg237 : tagg Tryz.prog 237 = some false := by kernel_rfl
@[simp] theorem ts237 : tsize Tryz.prog 237 = some 1 := by kernel_rfl
@[simp] theorem tal237 (H : AHeap) : aAlloc Tryz.prog H 237 = some (.pointer (some ⟨H.length, 0, some 1⟩), H ++ [.cells [.nilFunc] 237]) := by kernel_rfl
@[simp] theorem tu237 : Tryz.prog.underlying 237 = some (TypeDesc.func #[9] #[137] false) := by kernel_rfl
@[simp] theorem tg239 : tagg Tryz.prog 239 = some false := by kernel_rfl
@[simp] theorem ts239 : tsize Tryz.prog 239 = some 1 := by kernel_rfl
@[simp] theorem tal239 (H : AHeap) : aAlloc Tryz.prog H 239 = some (.pointer (some ⟨H.length, 0, some 1⟩), H ++ [.cells [.nilFunc] 239]) := by kernel_rfl
@[simp] theorem tu239 : Tryz.prog.underlying 239 = some (TypeDesc.func #[77, 77] #[77, 77] false) := by kernel_rfl
@[simp] theorem tg241 : tagg Tryz.prog 241 = some false := by kernel_rfl
@[simp] theorem ts241 : tsize Tryz.prog 241 = some 1 := by kernel_rfl
@[simp] theorem tal241 (H : AHeap) : aAlloc Tryz.prog H 241 = some (.pointer (some ⟨H.length, 0, some 1⟩), H ++ [.cells [.nilFunc] 241]) := by kernel_rfl
@[simp] theorem tu241 : Tryz.prog.underlying 241 = some (TypeDesc.func #[157, 157] #[157, 157] false) := by kernel_rfl
@[simp] theorem tg243 : tagg Tryz.prog 243 = some false := by kernel_rfl
@[simp] theorem ts243 : tsize Tryz.prog 243 = some 1 := by kernel_rfl
@[simp] theorem tal243 (H : AHeap) : aAlloc Tryz.prog H 243 = some (.pointer (some ⟨H.length, 0, some 1⟩), H ++ [.cells [.nilFunc] 243]) := by kernel_rfl
@[simp] theorem tu243 : Tryz.prog.underlying 243 = some (TypeDesc.func #[9] #[21, 3] false) := by kernel_rfl
@[simp] theorem tg244 : tagg Tryz.prog 244 = some false := by kernel_rfl
@[simp] theorem ts244 : tsize Tryz.prog 244 = some 1 := by kernel_rfl
@[simp] theorem tal244 (H : AHeap) : aAlloc Tryz.prog H 244 = some (.pointer (some ⟨H.length, 0, some 1⟩), H ++ [.cells [.nilFunc] 244]) := by kernel_rfl
@[simp] theorem tu244 : Tryz.prog.underlying 244 = some (TypeDesc.func #[9, 21] #[4] false) := by kernel_rfl
@[simp] theorem tg245 : tagg Tryz.prog 245 = some false := by kernel_rfl
@[simp] theorem ts245 : tsize Tryz.prog 245 = some 1 := by kernel_rfl
@[simp] theorem tal245 (H : AHeap) : aAlloc Tryz.prog H 245 = some (.pointer (some ⟨H.length, 0, some 1⟩), H ++ [.cells [.nilFunc] 245]) := by kernel_rfl
@[simp] theorem tu245 : Tryz.prog.underlying 245 = some (TypeDesc.func #[5] #[5] false) := by kernel_rfl
@[simp] theorem tg246 : tagg Tryz.prog 246 = some false := by kernel_rfl
@[simp] theorem ts246 : tsize Tryz.prog 246 = some 1 := by kernel_rfl
@[simp] theorem tal246 (H : AHeap) : aAlloc Tryz.prog H 246 = some (.pointer (some ⟨H.length, 0, some 1⟩), H ++ [.cells [.pointer none] 246]) := by kernel_rfl
@[simp] theorem tu246 : Tryz.prog.underlying 246 = some (TypeDesc.pointer 248) := by kernel_rfl
@[simp] theorem tg247 : tagg Tryz.prog 247 = some true := by kernel_rfl
@[simp] theorem ts247 : tsize Tryz.prog 247 = some 1 := by kernel_rfl
@[simp] theorem tf247x0 : afield Tryz.prog 247 0 = some (0, 9) := by kernel_rfl
@[simp] theorem tal247 (H : AHeap) : aAlloc Tryz.prog H 247 = some (.pointer (some ⟨H.length, 0, some 1⟩), H ++ [.cells [.string ⟨#[]⟩] 247]) := by kernel_rfl
@[simp] theorem tbv247 (l : List (Nat × Value)) : buildV Tryz.prog 247 l = bldV #[.string ⟨#[]⟩] [(0, 1)] l := by kernel_rfl
@[simp] theorem tg248 : tagg Tryz.prog 248 = some true := by kernel_rfl
@[simp] theorem ts248 : tsize Tryz.prog 248 = some 1 := by kernel_rfl
@[simp] theorem tf248x0 : afield Tryz.prog 248 0 = some (0, 9) := by kernel_rfl
@[simp] theorem tal248 (H : AHeap) : aAlloc Tryz.prog H 248 = some (.pointer (some ⟨H.length, 0, some 1⟩), H ++ [.cells [.string ⟨#[]⟩] 248]) := by kernel_rfl
@[simp] theorem tbv248 (l : List (Nat × Value)) : buildV Tryz.prog 248 l = bldV #[.string ⟨#[]⟩] [(0, 1)] l := by kernel_rfl
@[simp] theorem tg249 : tagg Tryz.prog 249 = some true := by kernel_rfl
@[simp] theorem ts249 : tsize Tryz.prog 249 = some 32 := by kernel_rfl
@[simp] theorem tal249 (H : AHeap) : aAlloc Tryz.prog H 249 = some (.pointer (some ⟨H.length, 0, some 32⟩), H ++ [.cells [.int IntKind.u8 0, .int IntKind.u8 0, .int IntKind.u8 0, .int IntKind.u8 0, .int IntKind.u8 0, .int IntKind.u8 0, .int IntKind.u8 0, .int IntKind.u8 0, .int IntKind.u8 0, .int IntKind.u8 0, .int IntKind.u8 0, .int IntKind.u8 0, .int IntKind.u8 0, .int IntKind.u8 0, .int IntKind.u8 0, .int IntKind.u8 0, .int IntKind.u8 0, .int IntKind.u8 0, .int IntKind.u8 0, .int IntKind.u8 0, .int IntKind.u8 0, .int IntKind.u8 0, .int IntKind.u8 0, .int IntKind.u8 0, .int IntKind.u8 0, .int IntKind.u8 0, .int IntKind.u8 0, .int IntKind.u8 0, .int IntKind.u8 0, .int IntKind.u8 0, .int IntKind.u8 0, .int IntKind.u8 0] 249]) := by kernel_rfl
@[simp] theorem tu249 : Tryz.prog.underlying 249 = some (TypeDesc.array 32 5) := by kernel_rfl
@[simp] theorem tg250 : tagg Tryz.prog 250 = some true := by kernel_rfl
@[simp] theorem ts250 : tsize Tryz.prog 250 = some 64 := by kernel_rfl
@[simp] theorem tal250 (H : AHeap) : aAlloc Tryz.prog H 250 = some (.pointer (some ⟨H.length, 0, some 64⟩), H ++ [.cells [.int IntKind.u8 0, .int IntKind.u8 0, .int IntKind.u8 0, .int IntKind.u8 0, .int IntKind.u8 0, .int IntKind.u8 0, .int IntKind.u8 0, .int IntKind.u8 0, .int IntKind.u8 0, .int IntKind.u8 0, .int IntKind.u8 0, .int IntKind.u8 0, .int IntKind.u8 0, .int IntKind.u8 0, .int IntKind.u8 0, .int IntKind.u8 0, .int IntKind.u8 0, .int IntKind.u8 0, .int IntKind.u8 0, .int IntKind.u8 0, .int IntKind.u8 0, .int IntKind.u8 0, .int IntKind.u8 0, .int IntKind.u8 0, .int IntKind.u8 0, .int IntKind.u8 0, .int IntKind.u8 0, .int IntKind.u8 0, .int IntKind.u8 0, .int IntKind.u8 0, .int IntKind.u8 0, .int IntKind.u8 0, .int IntKind.u8 0, .int IntKind.u8 0, .int IntKind.u8 0, .int IntKind.u8 0, .int IntKind.u8 0, .int IntKind.u8 0, .int IntKind.u8 0, .int IntKind.u8 0, .int IntKind.u8 0, .int IntKind.u8 0, .int IntKind.u8 0, .int IntKind.u8 0, .int IntKind.u8 0, .int IntKind.u8 0, .int IntKind.u8 0, .int IntKind.u8 0, .int IntKind.u8 0, .int IntKind.u8 0, .int IntKind.u8 0, .int IntKind.u8 0, .int IntKind.u8 0, .int IntKind.u8 0, .int IntKind.u8 0, .int IntKind.u8 0, .int IntKind.u8 0, .int IntKind.u8 0, .int IntKind.u8 0, .int IntKind.u8 0, .int IntKind.u8 0, .int IntKind.u8 0, .int IntKind.u8 0, .int IntKind.u8 0] 250]) := by kernel_rfl
@[simp] theorem tu250 : Tryz.prog.underlying 250 = some (TypeDesc.array 64 5) := by kernel_rfl
@[simp] theorem tg251 : tagg Tryz.prog 251 = some false := by kernel_rfl
@[simp] theorem ts251 : tsize Tryz.prog 251 = some 1 := by kernel_rfl
@[simp] theorem tal251 (H : AHeap) : aAlloc Tryz.prog H 251 = some (.pointer (some ⟨H.length, 0, some 1⟩), H ++ [.cells [.nilFunc] 251]) := by kernel_rfl
@[simp] theorem tu251 : Tryz.prog.underlying 251 = some (TypeDesc.func #[9, 21] #[3] false) := by kernel_rfl
@[simp] theorem tg252 : tagg Tryz.prog 252 = some false := by kernel_rfl
@[simp] theorem ts252 : tsize Tryz.prog 252 = some 1 := by kernel_rfl
@[simp] theorem tal252 (H : AHeap) : aAlloc Tryz.prog H 252 = some (.pointer (some ⟨H.length, 0, some 1⟩), H ++ [.cells [.nilFunc] 252]) := by kernel_rfl
@[simp] theorem tu252 : Tryz.prog.underlying 252 = some (TypeDesc.func #[21] #[4] false) := by kernel_rfl
@[simp] theorem tg253 : tagg Tryz.prog 253 = some false := by kernel_rfl
@[simp] theorem ts253 : tsize Tryz.prog 253 = some 1 := by kernel_rfl
@[simp] theorem tal253 (H : AHeap) : aAlloc Tryz.prog H 253 = some (.pointer (some ⟨H.length, 0, some 1⟩), H ++ [.cells [.nilFunc] 253]) := by kernel_rfl
@[simp] theorem tu253 : Tryz.prog.underlying 253 = some (TypeDesc.func #[9, 9] #[3] false) := by kernel_rfl
@[simp] theorem tg254 : tagg Tryz.prog 254 = some true := by kernel_rfl
@[simp] theorem ts254 : tsize Tryz.prog 254 = some 256 := by kernel_rfl
@[simp] theorem tu254 : Tryz.prog.underlying 254 = some (TypeDesc.array 256 5) := by kernel_rfl
@[simp] theorem tg255 : tagg Tryz.prog 255 = some true := by kernel_rfl
@[simp] theorem ts255 : tsize Tryz.prog 255 = some 2 := by kernel_rfl
@[simp] theorem tf255x0 : afield Tryz.prog 255 0 = some (0, 5) := by kernel_rfl
@[simp] theorem tf255x1 : afield Tryz.prog 255 1 = some (1, 5) := by kernel_rfl
@[simp] theorem tal255 (H : AHeap) : aAlloc Tryz.prog H 255 = some (.pointer (some ⟨H.length, 0, some 2⟩), H ++ [.cells [.int IntKind.u8 0, .int IntKind.u8 0] 255]) := by kernel_rfl
@[simp] theorem tbv255 (l : List (Nat × Value)) : buildV Tryz.prog 255 l = bldV #[.int IntKind.u8 0, .int IntKind.u8 0] [(0, 1), (1, 1)] l := by kernel_rfl
@[simp] theorem tg256 : tagg Tryz.prog 256 = some true := by kernel_rfl
@[simp] theorem ts256 : tsize Tryz.prog 256 = some 2 := by kernel_rfl
@[simp] theorem tf256x0 : afield Tryz.prog 256 0 = some (0, 5) := by kernel_rfl
@[simp] theorem tf256x1 : afield Tryz.prog 256 1 = some (1, 5) := by kernel_rfl
@[simp] theorem tal256 (H : AHeap) : aAlloc Tryz.prog H 256 = some (.pointer (some ⟨H.length, 0, some 2⟩), H ++ [.cells [.int IntKind.u8 0, .int IntKind.u8 0] 256]) := by kernel_rfl
@[simp] theorem tbv256 (l : List (Nat × Value)) : buildV Tryz.prog 256 l = bldV #[.int IntKind.u8 0, .int IntKind.u8 0] [(0, 1), (1, 1)] l := by kernel_rfl
@[simp] theorem tg257 : tagg Tryz.prog 257 = some true := by kernel_rfl
@[simp] theorem ts257 : tsize Tryz.prog 257 = some 32 := by kernel_rfl
@[simp] theorem tal257 (H : AHeap) : aAlloc Tryz.prog H 257 = some (.pointer (some ⟨H.length, 0, some 32⟩), H ++ [.cells [.int IntKind.u8 0, .int IntKind.u8 0, .int IntKind.u8 0, .int IntKind.u8 0, .int IntKind.u8 0, .int IntKind.u8 0, .int IntKind.u8 0, .int IntKind.u8 0, .int IntKind.u8 0, .int IntKind.u8 0, .int IntKind.u8 0, .int IntKind.u8 0, .int IntKind.u8 0, .int IntKind.u8 0, .int IntKind.u8 0, .int IntKind.u8 0, .int IntKind.u8 0, .int IntKind.u8 0, .int IntKind.u8 0, .int IntKind.u8 0, .int IntKind.u8 0, .int IntKind.u8 0, .int IntKind.u8 0, .int IntKind.u8 0, .int IntKind.u8 0, .int IntKind.u8 0, .int IntKind.u8 0, .int IntKind.u8 0, .int IntKind.u8 0, .int IntKind.u8 0, .int IntKind.u8 0, .int IntKind.u8 0] 257]) := by kernel_rfl
@[simp] theorem tu257 : Tryz.prog.underlying 257 = some (TypeDesc.array 16 256) := by kernel_rfl
@[simp] theorem tg258 : tagg Tryz.prog 258 = some true := by kernel_rfl
@[simp] theorem ts258 : tsize Tryz.prog 258 = some 4 := by kernel_rfl
@[simp] theorem tf258x0 : afield Tryz.prog 258 0 = some (0, 17) := by kernel_rfl
@[simp] theorem tf258x1 : afield Tryz.prog 258 1 = some (1, 17) := by kernel_rfl
@[simp] theorem tf258x2 : afield Tryz.prog 258 2 = some (2, 17) := by kernel_rfl
@[simp] theorem tf258x3 : afield Tryz.prog 258 3 = some (3, 9) := by kernel_rfl
@[simp] theorem tal258 (H : AHeap) : aAlloc Tryz.prog H 258 = some (.pointer (some ⟨H.length, 0, some 4⟩), H ++ [.cells [.pointer none, .pointer none, .pointer none, .string ⟨#[]⟩] 258]) := by kernel_rfl
@[simp] theorem tbv258 (l : List (Nat × Value)) : buildV Tryz.prog 258 l = bldV #[.pointer none, .pointer none, .pointer none, .string ⟨#[]⟩] [(0, 1), (1, 1), (2, 1), (3, 1)] l := by kernel_rfl
@[simp] theorem tg259 : tagg Tryz.prog 259 = some true := by kernel_rfl
@[simp] theorem ts259 : tsize Tryz.prog 259 = some 4 := by kernel_rfl
@[simp] theorem tf259x0 : afield Tryz.prog 259 0 = some (0, 17) := by kernel_rfl
@[simp] theorem tf259x1 : afield Tryz.prog 259 1 = some (1, 17) := by kernel_rfl
@[simp] theorem tf259x2 : afield Tryz.prog 259 2 = some (2, 17) := by kernel_rfl
@[simp] theorem tf259x3 : afield Tryz.prog 259 3 = some (3, 9) := by kernel_rfl
@[simp] theorem tal259 (H : AHeap) : aAlloc Tryz.prog H 259 = some (.pointer (some ⟨H.length, 0, some 4⟩), H ++ [.cells [.pointer none, .pointer none, .pointer none, .string ⟨#[]⟩] 259]) := by kernel_rfl
@[simp] theorem tbv259 (l : List (Nat × Value)) : buildV Tryz.prog 259 l = bldV #[.pointer none, .pointer none, .pointer none, .string ⟨#[]⟩] [(0, 1), (1, 1), (2, 1), (3, 1)] l := by kernel_rfl
@[simp] theorem tg260 : tagg Tryz.prog 260 = some true := by kernel_rfl
@[simp] theorem ts260 : tsize Tryz.prog 260 = some 0 := by kernel_rfl
@[simp] theorem tal260 (H : AHeap) : aAlloc Tryz.prog H 260 = some (.pointer (some ⟨H.length, 0, some 0⟩), H ++ [.cells [] 260]) := by kernel_rfl
@[simp] theorem tu260 : Tryz.prog.underlying 260 = some (TypeDesc.array 0 16) := by kernel_rfl
@[simp] theorem tg261 : tagg Tryz.prog 261 = some true := by kernel_rfl
@[simp] theorem ts261 : tsize Tryz.prog 261 = some 0 := by kernel_rfl
@[simp] theorem tf261x0 : afield Tryz.prog 261 0 = some (0, 260) := by kernel_rfl
@[simp] theorem tal261 (H : AHeap) : aAlloc Tryz.prog H 261 = some (.pointer (some ⟨H.length, 0, some 0⟩), H ++ [.cells [] 261]) := by kernel_rfl
@[simp] theorem tg262 : tagg Tryz.prog 262 = some true := by kernel_rfl
@[simp] theorem ts262 : tsize Tryz.prog 262 = some 0 := by kernel_rfl
@[simp] theorem tf262x0 : afield Tryz.prog 262 0 = some (0, 260) := by kernel_rfl
@[simp] theorem tal262 (H : AHeap) : aAlloc Tryz.prog H 262 = some (.pointer (some ⟨H.length, 0, some 0⟩), H ++ [.cells [] 262]) := by kernel_rfl
@[simp] theorem tg263 : tagg Tryz.prog 263 = some false := by kernel_rfl
@[simp] theorem ts263 : tsize Tryz.prog 263 = some 1 := by kernel_rfl
@[simp] theorem tal263 (H : AHeap) : aAlloc Tryz.prog H 263 = some (.pointer (some ⟨H.length, 0, some 1⟩), H ++ [.cells [.int IntKind.u8 0] 263]) := by kernel_rfl
@[simp] theorem tu263 : Tryz.prog.underlying 263 = some (TypeDesc.int IntKind.u8) := by kernel_rfl
@[simp] theorem tg264 : tagg Tryz.prog 264 = some false := by kernel_rfl
@[simp] theorem ts264 : tsize Tryz.prog 264 = some 1 := by kernel_rfl
@[simp] theorem tal264 (H : AHeap) : aAlloc Tryz.prog H 264 = some (.pointer (some ⟨H.length, 0, some 1⟩), H ++ [.cells [.int IntKind.u8 0] 264]) := by kernel_rfl
@[simp] theorem tu264 : Tryz.prog.underlying 264 = some (TypeDesc.int IntKind.u8) := by kernel_rfl
@[simp] theorem tg265 : tagg Tryz.prog 265 = some false := by kernel_rfl
@[simp] theorem ts265 : tsize Tryz.prog 265 = some 1 := by kernel_rfl
@[simp] theorem tal265 (H : AHeap) : aAlloc Tryz.prog H 265 = some (.pointer (some ⟨H.length, 0, some 1⟩), H ++ [.cells [.nilFunc] 265]) := by kernel_rfl
@[simp] theorem tu265 : Tryz.prog.underlying 265 = some (TypeDesc.func #[199, 199] #[4] false) := by kernel_rfl
@[simp] theorem tg266 : tagg Tryz.prog 266 = some false := by kernel_rfl
@[simp] theorem ts266 : tsize Tryz.prog 266 = some 1 := by kernel_rfl
@[simp] theorem tal266 (H : AHeap) : aAlloc Tryz.prog H 266 = some (.pointer (some ⟨H.length, 0, some 1⟩), H ++ [.cells [.int IntKind.i32 0] 266]) := by kernel_rfl
@[simp] theorem tu266 : Tryz.prog.underlying 266 = some (TypeDesc.int IntKind.i32) := by kernel_rfl
@[simp] theorem tg267 : tagg Tryz.prog 267 = some false := by kernel_rfl
@[simp] theorem ts267 : tsize Tryz.prog 267 = some 1 := by kernel_rfl
@[simp] theorem tal267 (H : AHeap) : aAlloc Tryz.prog H 267 = some (.pointer (some ⟨H.length, 0, some 1⟩), H ++ [.cells [.int IntKind.i32 0] 267]) := by kernel_rfl
@[simp] theorem tu267 : Tryz.prog.underlying 267 = some (TypeDesc.int IntKind.i32) := by kernel_rfl
@[simp] theorem tg268 : tagg Tryz.prog 268 = some true := by kernel_rfl
@[simp] theorem ts268 : tsize Tryz.prog 268 = some 11 := by kernel_rfl
@[simp] theorem tf268x0 : afield Tryz.prog 268 0 = some (0, 12) := by kernel_rfl
@[simp] theorem tf268x1 : afield Tryz.prog 268 1 = some (1, 12) := by kernel_rfl
@[simp] theorem tf268x2 : afield Tryz.prog 268 2 = some (2, 77) := by kernel_rfl
@[simp] theorem tf268x3 : afield Tryz.prog 268 3 = some (3, 263) := by kernel_rfl
@[simp] theorem tf268x4 : afield Tryz.prog 268 4 = some (4, 5) := by kernel_rfl
@[simp] theorem tf268x5 : afield Tryz.prog 268 5 = some (5, 5) := by kernel_rfl
@[simp] theorem tf268x6 : afield Tryz.prog 268 6 = some (6, 264) := by kernel_rfl
@[simp] theorem tf268x7 : afield Tryz.prog 268 7 = some (7, 265) := by kernel_rfl
@[simp] theorem tf268x8 : afield Tryz.prog 268 8 = some (8, 170) := by kernel_rfl
@[simp] theorem tf268x9 : afield Tryz.prog 268 9 = some (9, 266) := by kernel_rfl
@[simp] theorem tf268x10 : afield Tryz.prog 268 10 = some (10, 267) := by kernel_rfl
@[simp] theorem tal268 (H : AHeap) : aAlloc Tryz.prog H 268 = some (.pointer (some ⟨H.length, 0, some 11⟩), H ++ [.cells [.int IntKind.u64 0, .int IntKind.u64 0, .int IntKind.u32 0, .int IntKind.u8 0, .int IntKind.u8 0, .int IntKind.u8 0, .int IntKind.u8 0, .nilFunc, .pointer none, .int IntKind.i32 0, .int IntKind.i32 0] 268]) := by kernel_rfl
@[simp] theorem tbv268 (l : List (Nat × Value)) : buildV Tryz.prog 268 l = bldV #[.int IntKind.u64 0, .int IntKind.u64 0, .int IntKind.u32 0, .int IntKind.u8 0, .int IntKind.u8 0, .int IntKind.u8 0, .int IntKind.u8 0, .nilFunc, .pointer none, .int IntKind.i32 0, .int IntKind.i32 0] [(0, 1), (1, 1), (2, 1), (3, 1), (4, 1), (5, 1), (6, 1), (7, 1), (8, 1), (9, 1), (10, 1)] l := by kernel_rfl
@[simp] theorem tg269 : tagg Tryz.prog 269 = some true := by kernel_rfl
@[simp] theorem ts269 : tsize Tryz.prog 269 = some 11 := by kernel_rfl
@[simp] theorem tf269x0 : afield Tryz.prog 269 0 = some (0, 12) := by kernel_rfl
@[simp] theorem tf269x1 : afield Tryz.prog 269 1 = some (1, 12) := by kernel_rfl
@[simp] theorem tf269x2 : afield Tryz.prog 269 2 = some (2, 77) := by kernel_rfl
@[simp] theorem tf269x3 : afield Tryz.prog 269 3 = some (3, 263) := by kernel_rfl
@[simp] theorem tf269x4 : afield Tryz.prog 269 4 = some (4, 5) := by kernel_rfl
@[simp] theorem tf269x5 : afield Tryz.prog 269 5 = some (5, 5) := by kernel_rfl
@[simp] theorem tf269x6 : afield Tryz.prog 269 6 = some (6, 264) := by kernel_rfl
@[simp] theorem tf269x7 : afield Tryz.prog 269 7 = some (7, 265) := by kernel_rfl
@[simp] theorem tf269x8 : afield Tryz.prog 269 8 = some (8, 170) := by kernel_rfl
@[simp] theorem tf269x9 : afield Tryz.prog 269 9 = some (9, 266) := by kernel_rfl
@[simp] theorem tf269x10 : afield Tryz.prog 269 10 = some (10, 267) := by kernel_rfl
@[simp] theorem tal269 (H : AHeap) : aAlloc Tryz.prog H 269 = some (.pointer (some ⟨H.length, 0, some 11⟩), H ++ [.cells [.int IntKind.u64 0, .int IntKind.u64 0, .int IntKind.u32 0, .int IntKind.u8 0, .int IntKind.u8 0, .int IntKind.u8 0, .int IntKind.u8 0, .nilFunc, .pointer none, .int IntKind.i32 0, .int IntKind.i32 0] 269]) := by kernel_rfl
@[simp] theorem tbv269 (l : List (Nat × Value)) : buildV Tryz.prog 269 l = bldV #[.int IntKind.u64 0, .int IntKind.u64 0, .int IntKind.u32 0, .int IntKind.u8 0, .int IntKind.u8 0, .int IntKind.u8 0, .int IntKind.u8 0, .nilFunc, .pointer none, .int IntKind.i32 0, .int IntKind.i32 0] [(0, 1), (1, 1), (2, 1), (3, 1), (4, 1), (5, 1), (6, 1), (7, 1), (8, 1), (9, 1), (10, 1)] l := by kernel_rfl
end Go.Vi
namespace Go.Vi
open Go Go.Proofs
-- tocsin/tocsinlaw11.CheckVoid
theorem d3 (a0 a1 : Value) (H : AHeap) (k : Value → AHeap → Prop) : kbody Tryz.prog Tryz.f3 [a0, a1] H k = (@bnd (aBin2 Tryz.prog H BinOp.geq 3 (Operand.tmp 6) (Operand.const (Value.int IntKind.i64 0)) a0 (Value.int IntKind.i64
  0)) ⟨fun v7x1 => @bnd (gif v7x1 true ((some a0)) undef) ⟨fun v9x2 => @bnd (gif v7x1 true (aBin2 Tryz.prog H BinOp.leq 3 (Operand.tmp 9) (Operand.const (Value.int IntKind.i64 100)) v9x2 (Value.int IntKind.i64 100)) undef) ⟨fun
  v10x3 => @bnd (pickV v7x1 v10x3 (Value.bool false)) ⟨fun v11x4 => @bnd (gif v11x4 true ((some a1)) undef) ⟨fun v13x5 => @bnd (gif v11x4 true (aBin2 Tryz.prog H BinOp.geq 3 (Operand.tmp 13) (Operand.const (Value.int IntKind.i64
  1)) v13x5 (Value.int IntKind.i64 1)) undef) ⟨fun v14x6 => @bnd (pickV v11x4 v14x6 (Value.bool false)) ⟨fun v15x7 => @bnd (gif v15x7 true ((some a1)) undef) ⟨fun v17x8 => @bnd (gif v15x7 true (aBin2 Tryz.prog H BinOp.leq 3
  (Operand.tmp 17) (Operand.const (Value.int IntKind.i64 1000)) v17x8 (Value.int IntKind.i64 1000)) undef) ⟨fun v18x9 => @bnd (pickV v15x7 v18x9 (Value.bool false)) ⟨fun v19x10 => @bndC Tryz.prog 9 [] H ⟨fun v20x11 H12 => @bnd
  (gif v20x11 true ((some a0)) undef) ⟨fun v22x13 => @bnd (gif v20x11 true ((some a1)) undef) ⟨fun v23x14 => @bnd (gif v20x11 true (buildV Tryz.prog 28 [(2, v22x13), (3, v23x14)]) undef) ⟨fun v24x15 => @bndG v20x11 true H12 ⟨fun
  v25x16 H17 => ACalls Tryz.prog 10 [v24x15] H12 v25x16 H17⟩ ⟨fun v25x16 H17 => @bnd (gif v20x11 true (aBin2 Tryz.prog H17 BinOp.eql 23 (Operand.tmp 25) (Operand.const (Value.int IntKind.i64 0)) v25x16 (Value.int IntKind.i64 0))
  undef) ⟨fun v26x18 => @bnd (gif v20x11 true ((some v19x10)) undef) ⟨fun v27x19 => @bnd (gif v20x11 true (aBin2 Tryz.prog H17 BinOp.eql 4 (Operand.tmp 26) (Operand.tmp 27) v26x18 v27x19) undef) ⟨fun v28x20 => @bnd (pickV v20x11
  v28x20 (Value.bool false)) ⟨fun v29x21 => k v29x21 H17⟩⟩⟩⟩⟩⟩⟩⟩⟩⟩⟩⟩⟩⟩⟩⟩⟩⟩⟩) := by kernel_rfl
-- tocsin/tocsinlaw11.CheckTimes
def L4x0 (n : Nat) (k : Value → AHeap → Prop) (sl : List Value) (H : AHeap) : Prop := kit Tryz.prog (cl (cl (cr (cl (cr (cr (cr (cb Tryz.f4)))))))) n (kblk 0 (kseq Tryz.prog (cr (cr (cr (cr (cb Tryz.f4))))) (kfin Tryz.prog
  Tryz.f4 k))) .normal sl H
theorem d4 (a0 a1 a2 : Value) (H : AHeap) (k : Value → AHeap → Prop) : kbody Tryz.prog Tryz.f4 [a0, a1, a2] H k = (@bndE (aNew H 30 a0) ⟨fun v3x1 H2 => @bndC Tryz.prog 9 [] H2 ⟨fun v10x3 H4 => @bnd (unV Tryz.prog UnOp.not v10x3)
  ⟨fun v11x5 => @kifB v11x5 ⟨k (Value.bool false) H4⟩ ⟨∃ n, L4x0 n  k [a0, a1, a2, v3x1, undef, undef, (Value.bool false), (Value.bool false), (Value.int IntKind.i64 0), undef, v10x3, v11x5, undef, undef, undef, undef, undef,
  undef, undef, undef, undef, undef, undef, undef, undef, undef, undef, undef, undef, undef, undef, undef, undef, undef, undef, undef, undef, undef, undef, undef, undef, undef, undef, undef, undef, undef, undef, undef, undef,
  undef, undef, undef] H4⟩⟩⟩⟩) := by kernel_rfl
theorem L4x0q (n0 : Nat) (s0 s1 s2 s3 s4 s5 s6 s7 s8 s9 s10 s11 s12 s13 s14 s15 s16 s17 s18 s19 s20 s21 s22 s23 s24 s25 s26 s27 s28 s29 s30 s31 s32 s33 s34 s35 s36 s37 s38 s39 s40 s41 s42 s43 s44 s45 s46 s47 s48 s49 s50 s51 :
  Value) (H : AHeap) (k : Value → AHeap → Prop) : L4x0 (n0 + 1) k [s0, s1, s2, s3, s4, s5, s6, s7, s8, s9, s10, s11, s12, s13, s14, s15, s16, s17, s18, s19, s20, s21, s22, s23, s24, s25, s26, s27, s28, s29, s30, s31, s32, s33,
  s34, s35, s36, s37, s38, s39, s40, s41, s42, s43, s44, s45, s46, s47, s48, s49, s50, s51] H = (@bnd (aBin2 Tryz.prog H BinOp.lss 3 (Operand.tmp 12) (Operand.const (Value.int IntKind.i64 7)) s8 (Value.int IntKind.i64 7)) ⟨fun
  v13x6 => @kifB v13x6 ⟨@bnd (gif s7 false ((some s8)) undef) ⟨fun v18x7 => @bnd (gif s7 false (aIndexAddr Tryz.prog H 30 s3 v18x7) undef) ⟨fun v19x8 => @bnd (gif s7 false (aLoad Tryz.prog H 4 v19x8) undef) ⟨fun v20x9 => @bnd
  (pickV s7 (Value.bool true) v20x9) ⟨fun v21x10 => @bnd (aBin2 Tryz.prog H BinOp.add 3 (Operand.tmp 14) (Operand.const (Value.int IntKind.i64 1)) s8 (Value.int IntKind.i64 1)) ⟨fun v15x11 => L4x0 n0  k [s0, s1, s2, s3, s4, s5,
  s6, v21x10, v15x11, s9, s10, s11, s8, v13x6, s8, v15x11, s7, s7, v18x7, v19x8, v20x9, v21x10, s22, s23, s24, s25, s26, s27, s28, s29, s30, s31, s32, s33, s34, s35, s36, s37, s38, s39, s40, s41, s42, s43, s44, s45, s46, s47,
  s48, s49, s50, s51] H⟩⟩⟩⟩⟩⟩ ⟨@bnd (gif s7 true ((some s1)) undef) ⟨fun v24x12 => @bnd (gif s7 true (aBin2 Tryz.prog H BinOp.geq 3 (Operand.tmp 24) (Operand.const (Value.int IntKind.i64 0)) v24x12 (Value.int IntKind.i64 0))
  undef) ⟨fun v25x13 => @bnd (pickV s7 v25x13 (Value.bool false)) ⟨fun v26x14 => @bnd (gif v26x14 true ((some s1)) undef) ⟨fun v28x15 => @bnd (gif v26x14 true (aBin2 Tryz.prog H BinOp.lss 3 (Operand.tmp 28) (Operand.const
  (Value.int IntKind.i64 1440)) v28x15 (Value.int IntKind.i64 1440)) undef) ⟨fun v29x16 => @bnd (pickV v26x14 v29x16 (Value.bool false)) ⟨fun v30x17 => @bnd (gif v30x17 true ((some s2)) undef) ⟨fun v32x18 => @bnd (gif v30x17 true
  (aBin2 Tryz.prog H BinOp.geq 3 (Operand.tmp 32) (Operand.const (Value.int IntKind.i64 1)) v32x18 (Value.int IntKind.i64 1)) undef) ⟨fun v33x19 => @bnd (pickV v30x17 v33x19 (Value.bool false)) ⟨fun v34x20 => @bnd (gif v34x20
  true ((some s2)) undef) ⟨fun v36x21 => @bnd (gif v34x20 true (aBin2 Tryz.prog H BinOp.leq 3 (Operand.tmp 36) (Operand.const (Value.int IntKind.i64 1440)) v36x21 (Value.int IntKind.i64 1440)) undef) ⟨fun v37x22 => @bnd (pickV
  v34x20 v37x22 (Value.bool false)) ⟨fun v38x23 => @bnd (gif v38x23 true ((some s1)) undef) ⟨fun v40x24 => @bnd (gif v38x23 true ((some s2)) undef) ⟨fun v41x25 => @bnd (gif v38x23 true (aBin2 Tryz.prog H BinOp.neq 3 (Operand.tmp
  40) (Operand.tmp 41) v40x24 v41x25) undef) ⟨fun v42x26 => @bnd (pickV v38x23 v42x26 (Value.bool false)) ⟨fun v43x27 => @bnd (aLoad Tryz.prog H 30 s3) ⟨fun v44x28 => @bnd (buildV Tryz.prog 33 [(0, (Value.string { data := #[113]
  })), (1, v44x28), (2, s1), (3, s2)]) ⟨fun v47x29 => @bndC Tryz.prog 11 [v47x29] H ⟨fun v48x30 H31 => @bnd (aBin2 Tryz.prog H31 BinOp.eql 23 (Operand.tmp 48) (Operand.const (Value.int IntKind.i64 0)) v48x30 (Value.int
  IntKind.i64 0)) ⟨fun v49x32 => @bnd (aBin2 Tryz.prog H31 BinOp.eql 4 (Operand.tmp 49) (Operand.tmp 50) v49x32 v43x27) ⟨fun v51x33 => k v51x33 H31⟩⟩⟩⟩⟩⟩⟩⟩⟩⟩⟩⟩⟩⟩⟩⟩⟩⟩⟩⟩⟩⟩⟩) := by kernel_rfl
-- tocsin/tocsinlaw11.CheckBounds
theorem d5 (a0 a1 a2 : Value) (H : AHeap) (k : Value → AHeap → Prop) : kbody Tryz.prog Tryz.f5 [a0, a1, a2] H k = (@bndC Tryz.prog 9 [] H ⟨fun v11x1 H2 => @bnd (unV Tryz.prog UnOp.not v11x1) ⟨fun v12x3 => @kifB v12x3 ⟨k
  (Value.bool false) H2⟩ ⟨@bndC Tryz.prog 12 [(Value.string { data := #[99, 111, 117, 110, 116, 40, 123, 125, 91, 53, 93, 41, 32, 62, 32, 51] })] H2 ⟨fun v14x4 H5 => @bnd (tupV v14x4 0) ⟨fun v15x6 => @bnd (tupV v14x4 1) ⟨fun
  v16x7 => @bnd (buildV Tryz.prog 40 [(0, (Value.string { data := #[97] })), (2, v15x6), (3, a0), (4, a1), (5, a2), (7, (Value.string { data := #[111, 112, 115] }))]) ⟨fun v21x8 => @bndE (aAlloc Tryz.prog H5 40) ⟨fun v9x9 H10 =>
  @bndS (aStore Tryz.prog H10 40 v9x9 v21x8) ⟨fun _ H12 => @bnd (aBin2 Tryz.prog H12 BinOp.geq 3 (Operand.tmp 22) (Operand.const (Value.int IntKind.i64 0)) a0 (Value.int IntKind.i64 0)) ⟨fun v23x13 => @bnd (gif v23x13 true ((some
  a0)) undef) ⟨fun v25x14 => @bnd (gif v23x13 true (aBin2 Tryz.prog H12 BinOp.leq 3 (Operand.tmp 25) (Operand.const (Value.int IntKind.i64 1000)) v25x14 (Value.int IntKind.i64 1000)) undef) ⟨fun v26x15 => @bnd (pickV v23x13
  v26x15 (Value.bool false)) ⟨fun v27x16 => @bnd (gif v27x16 true ((some a1)) undef) ⟨fun v29x17 => @bnd (gif v27x16 true (aBin2 Tryz.prog H12 BinOp.geq 3 (Operand.tmp 29) (Operand.const (Value.int IntKind.i64 1)) v29x17
  (Value.int IntKind.i64 1)) undef) ⟨fun v30x18 => @bnd (pickV v27x16 v30x18 (Value.bool false)) ⟨fun v31x19 => @bnd (gif v31x19 true ((some a1)) undef) ⟨fun v33x20 => @bnd (gif v31x19 true (aBin2 Tryz.prog H12 BinOp.leq 3
  (Operand.tmp 33) (Operand.const (Value.int IntKind.i64 100)) v33x20 (Value.int IntKind.i64 100)) undef) ⟨fun v34x21 => @bnd (pickV v31x19 v34x21 (Value.bool false)) ⟨fun v35x22 => @bnd (gif v35x22 true ((some a2)) undef) ⟨fun
  v37x23 => @bnd (gif v35x22 true (aBin2 Tryz.prog H12 BinOp.geq 3 (Operand.tmp 37) (Operand.const (Value.int IntKind.i64 1)) v37x23 (Value.int IntKind.i64 1)) undef) ⟨fun v38x24 => @bnd (pickV v35x22 v38x24 (Value.bool false))
  ⟨fun v39x25 => @bnd (gif v39x25 true ((some a2)) undef) ⟨fun v41x26 => @bnd (gif v39x25 true (aBin2 Tryz.prog H12 BinOp.leq 3 (Operand.tmp 41) (Operand.const (Value.int IntKind.i64 10000)) v41x26 (Value.int IntKind.i64 10000))
  undef) ⟨fun v42x27 => @bnd (pickV v39x25 v42x27 (Value.bool false)) ⟨fun v43x28 => @bnd (aBin2 Tryz.prog H12 BinOp.eql 23 (Operand.tmp 44) (Operand.const (Value.int IntKind.i64 0)) v16x7 (Value.int IntKind.i64 0)) ⟨fun v45x29
  => @bnd (gif v45x29 true (aLoad Tryz.prog H12 40 v9x9) undef) ⟨fun v47x30 => @bndG v45x29 true H12 ⟨fun v48x31 H32 => ACalls Tryz.prog 13 [v47x30] H12 v48x31 H32⟩ ⟨fun v48x31 H32 => @bnd (gif v45x29 true (aBin2 Tryz.prog H32
  BinOp.eql 23 (Operand.tmp 48) (Operand.const (Value.int IntKind.i64 0)) v48x31 (Value.int IntKind.i64 0)) undef) ⟨fun v49x33 => @bnd (gif v45x29 true ((some v43x28)) undef) ⟨fun v50x34 => @bnd (gif v45x29 true (aBin2 Tryz.prog
  H32 BinOp.eql 4 (Operand.tmp 49) (Operand.tmp 50) v49x33 v50x34) undef) ⟨fun v51x35 => @bnd (pickV v45x29 v51x35 (Value.bool false)) ⟨fun v52x36 => k v52x36 H32⟩⟩⟩⟩⟩⟩⟩⟩⟩⟩⟩⟩⟩⟩⟩⟩⟩⟩⟩⟩⟩⟩⟩⟩⟩⟩⟩⟩⟩⟩⟩⟩) := by kernel_rfl
-- tocsin/tocsinlaw11.CheckWidest
theorem d6 (a0 a1 : Value) (H : AHeap) (k : Value → AHeap → Prop) : kbody Tryz.prog Tryz.f6 [a0, a1] H k = (@bndC Tryz.prog 9 [] H ⟨fun v6x1 H2 => @bnd (unV Tryz.prog UnOp.not v6x1) ⟨fun v7x3 => @kifB v7x3 ⟨k (Value.bool false)
  H2⟩ ⟨@bnd (aLen Tryz.prog H2 35 a0) ⟨fun v9x4 => @bnd (aBin2 Tryz.prog H2 BinOp.gtr 3 (Operand.tmp 9) (Operand.const (Value.int IntKind.i64 100)) v9x4 (Value.int IntKind.i64 100)) ⟨fun v10x5 => @bnd (gif v10x5 false ((some a1))
  undef) ⟨fun v12x6 => @bnd (gif v10x5 false (aLen Tryz.prog H2 35 v12x6) undef) ⟨fun v13x7 => @bnd (gif v10x5 false (aBin2 Tryz.prog H2 BinOp.gtr 3 (Operand.tmp 13) (Operand.const (Value.int IntKind.i64 100)) v13x7 (Value.int
  IntKind.i64 100)) undef) ⟨fun v14x8 => @bnd (pickV v10x5 (Value.bool true) v14x8) ⟨fun v15x9 => @kifB v15x9 ⟨k (Value.bool true) H2⟩ ⟨@bndE (aBuiltin Tryz.prog H2 Builtin.append #[35, 35] [(Value.slice none 0 0), a0]) ⟨fun
  v18x10 H11 => @bndE (aBuiltin Tryz.prog H11 Builtin.append #[35, 35] [v18x10, a1]) ⟨fun v21x12 H13 => @bndC Tryz.prog 14 [v21x12] H13 ⟨fun v23x14 H15 => @bndC Tryz.prog 14 [a0] H15 ⟨fun v25x16 H17 => @bndC Tryz.prog 14 [a1] H17
  ⟨fun v27x18 H19 => @bndE (aBuiltin Tryz.prog H19 Builtin.max #[3, 3] [v25x16, v27x18]) ⟨fun v28x20 H21 => @bnd (aBin2 Tryz.prog H21 BinOp.eql 3 (Operand.tmp 23) (Operand.tmp 28) v23x14 v28x20) ⟨fun v29x22 => @bnd (gif v29x22
  true ((some a0)) undef) ⟨fun v31x23 => @bndG v29x22 true H21 ⟨fun v32x24 H25 => ACalls Tryz.prog 14 [v31x23] H21 v32x24 H25⟩ ⟨fun v32x24 H25 => @bnd (gif v29x22 true (aBin2 Tryz.prog H25 BinOp.geq 3 (Operand.tmp 32)
  (Operand.const (Value.int IntKind.i64 0)) v32x24 (Value.int IntKind.i64 0)) undef) ⟨fun v33x26 => @bnd (pickV v29x22 v33x26 (Value.bool false)) ⟨fun v34x27 => k v34x27 H25⟩⟩⟩⟩⟩⟩⟩⟩⟩⟩⟩⟩⟩⟩⟩⟩⟩⟩⟩⟩⟩) := by kernel_rfl
-- tocsin/tocsinlaw11.awake
theorem d9 (H : AHeap) (k : Value → AHeap → Prop) : kbody Tryz.prog Tryz.f9 [] H k = (@bndC Tryz.prog 12 [(Value.string { data := #[99, 111, 117, 110, 116, 40, 123, 125, 91, 53, 93, 41, 32, 62, 32, 51, 32, 111, 114, 32, 115, 117,
  109, 40, 123, 125, 91, 54, 48, 93, 41, 32, 60, 32, 49] })] H ⟨fun v12x1 H2 => @bnd (tupV v12x1 0) ⟨fun v13x3 => @bnd (tupV v12x1 1) ⟨fun v14x4 => @bnd (buildV Tryz.prog 40 [(0, (Value.string { data := #[97] })), (1,
  (Value.string { data := #[104, 111, 115, 116] })), (2, v13x3), (4, (Value.int IntKind.i64 1)), (5, (Value.int IntKind.i64 1)), (7, (Value.string { data := #[111, 112, 115] }))]) ⟨fun v16x5 => @bndE (aAlloc Tryz.prog H2 40) ⟨fun
  v3x6 H7 => @bndS (aStore Tryz.prog H7 40 v3x6 v16x5) ⟨fun _ H9 => @bnd (aLoad Tryz.prog H9 40 v3x6) ⟨fun v17x10 => @bndE (aAlloc Tryz.prog H9 40) ⟨fun v4x11 H12 => @bndS (aStore Tryz.prog H12 40 v4x11 v17x10) ⟨fun _ H14 => @bnd
  (aFieldAddr Tryz.prog H14 40 v4x11 3) ⟨fun v18x15 => @bndS (aStore Tryz.prog H14 3 v18x15 (Value.int IntKind.i64 1001)) ⟨fun _ H17 => @bnd (aLoad Tryz.prog H17 40 v3x6) ⟨fun v19x18 => @bndE (aAlloc Tryz.prog H17 40) ⟨fun v5x19
  H20 => @bndS (aStore Tryz.prog H20 40 v5x19 v19x18) ⟨fun _ H22 => @bnd (aFieldAddr Tryz.prog H22 40 v5x19 7) ⟨fun v20x23 => @bndS (aStore Tryz.prog H22 9 v20x23 (Value.string { data := #[109, 101, 116, 97] })) ⟨fun _ H25 =>
  @bnd (buildV Tryz.prog 33 [(0, (Value.string { data := #[113] })), (2, (Value.int IntKind.i64 540)), (3, (Value.int IntKind.i64 1020))]) ⟨fun v21x26 => @bndE (aAlloc Tryz.prog H25 33) ⟨fun v6x27 H28 => @bndS (aStore Tryz.prog
  H28 33 v6x27 v21x26) ⟨fun _ H30 => @bnd (aLoad Tryz.prog H30 33 v6x27) ⟨fun v22x31 => @bndC Tryz.prog 11 [v22x31] H30 ⟨fun v23x32 H33 => @bnd (aFieldAddr Tryz.prog H33 33 v6x27 1) ⟨fun v24x34 => @bnd (aIndexAddr Tryz.prog H33
  30 v24x34 (Value.int IntKind.i64 0)) ⟨fun v25x35 => @bndS (aStore Tryz.prog H33 4 v25x35 (Value.bool true)) ⟨fun _ H37 => @bnd (aLoad Tryz.prog H37 40 v3x6) ⟨fun v26x38 => @bndE (aAlloc Tryz.prog H37 40) ⟨fun v8x39 H40 => @bndS
  (aStore Tryz.prog H40 40 v8x39 v26x38) ⟨fun _ H42 => @bndL Tryz.prog H42 38 1 [(0, (Value.string { data := #[113] }))] ⟨fun v27x43 H44 => @bnd (aFieldAddr Tryz.prog H44 40 v8x39 6) ⟨fun v28x45 => @bndS (aStore Tryz.prog H44 38
  v28x45 v27x43) ⟨fun _ H47 => @bnd (aLoad Tryz.prog H47 40 v8x39) ⟨fun v29x48 => @bndL Tryz.prog H47 25 1 [(0, v29x48)] ⟨fun v30x49 H50 => @bnd (buildV Tryz.prog 28 [(0, v30x49), (3, (Value.int IntKind.i64 1))]) ⟨fun v31x51 =>
  @bndE (aAlloc Tryz.prog H50 28) ⟨fun v9x52 H53 => @bndS (aStore Tryz.prog H53 28 v9x52 v31x51) ⟨fun _ H55 => @bnd (aLoad Tryz.prog H55 28 v9x52) ⟨fun v32x56 => @bndC Tryz.prog 10 [v32x56] H55 ⟨fun v33x57 H58 => @bnd (aFieldAddr
  Tryz.prog H58 28 v9x52 1) ⟨fun v34x59 => @bnd (aLoad Tryz.prog H58 26 v34x59) ⟨fun v35x60 => @bnd (aLoad Tryz.prog H58 33 v6x27) ⟨fun v36x61 => @bndL Tryz.prog H58 26 1 [(0, v36x61)] ⟨fun v37x62 H63 => @bndE (aBuiltin Tryz.prog
  H63 Builtin.append #[26, 26] [v35x60, v37x62]) ⟨fun v38x64 H65 => @bnd (aFieldAddr Tryz.prog H65 28 v9x52 1) ⟨fun v39x66 => @bndS (aStore Tryz.prog H65 26 v39x66 v38x64) ⟨fun _ H68 => @bnd (aBin2 Tryz.prog H68 BinOp.eql 23
  (Operand.tmp 40) (Operand.const (Value.int IntKind.i64 0)) v14x4 (Value.int IntKind.i64 0)) ⟨fun v41x69 => @bnd (gif v41x69 true (aLoad Tryz.prog H68 40 v3x6) undef) ⟨fun v43x70 => @bndG v41x69 true H68 ⟨fun v44x71 H72 =>
  ACalls Tryz.prog 13 [v43x70] H68 v44x71 H72⟩ ⟨fun v44x71 H72 => @bnd (gif v41x69 true (aBin2 Tryz.prog H72 BinOp.eql 23 (Operand.tmp 44) (Operand.const (Value.int IntKind.i64 0)) v44x71 (Value.int IntKind.i64 0)) undef) ⟨fun
  v45x73 => @bnd (pickV v41x69 v45x73 (Value.bool false)) ⟨fun v46x74 => @bnd (gif v46x74 true (aLoad Tryz.prog H72 40 v4x11) undef) ⟨fun v48x75 => @bndG v46x74 true H72 ⟨fun v49x76 H77 => ACalls Tryz.prog 13 [v48x75] H72 v49x76
  H77⟩ ⟨fun v49x76 H77 => @bnd (gif v46x74 true (aBin2 Tryz.prog H77 BinOp.eql 23 (Operand.tmp 49) (Operand.const (Value.int IntKind.i64 110)) v49x76 (Value.int IntKind.i64 110)) undef) ⟨fun v50x78 => @bnd (pickV v46x74 v50x78
  (Value.bool false)) ⟨fun v51x79 => @bnd (gif v51x79 true (aLoad Tryz.prog H77 40 v5x19) undef) ⟨fun v53x80 => @bndG v51x79 true H77 ⟨fun v54x81 H82 => ACalls Tryz.prog 13 [v53x80] H77 v54x81 H82⟩ ⟨fun v54x81 H82 => @bnd (gif
  v51x79 true (aBin2 Tryz.prog H82 BinOp.eql 23 (Operand.tmp 54) (Operand.const (Value.int IntKind.i64 110)) v54x81 (Value.int IntKind.i64 110)) undef) ⟨fun v55x83 => @bnd (pickV v51x79 v55x83 (Value.bool false)) ⟨fun v56x84 =>
  @bnd (gif v56x84 true ((some v23x32)) undef) ⟨fun v58x85 => @bnd (gif v56x84 true (aBin2 Tryz.prog H82 BinOp.eql 23 (Operand.tmp 58) (Operand.const (Value.int IntKind.i64 110)) v58x85 (Value.int IntKind.i64 110)) undef) ⟨fun
  v59x86 => @bnd (pickV v56x84 v59x86 (Value.bool false)) ⟨fun v60x87 => @bnd (gif v60x87 true (aLoad Tryz.prog H82 33 v6x27) undef) ⟨fun v62x88 => @bndG v60x87 true H82 ⟨fun v63x89 H90 => ACalls Tryz.prog 11 [v62x88] H82 v63x89
  H90⟩ ⟨fun v63x89 H90 => @bnd (gif v60x87 true (aBin2 Tryz.prog H90 BinOp.eql 23 (Operand.tmp 63) (Operand.const (Value.int IntKind.i64 0)) v63x89 (Value.int IntKind.i64 0)) undef) ⟨fun v64x91 => @bnd (pickV v60x87 v64x91
  (Value.bool false)) ⟨fun v65x92 => @bnd (gif v65x92 true ((some v33x57)) undef) ⟨fun v67x93 => @bnd (gif v65x92 true (aBin2 Tryz.prog H90 BinOp.eql 23 (Operand.tmp 67) (Operand.const (Value.int IntKind.i64 110)) v67x93
  (Value.int IntKind.i64 110)) undef) ⟨fun v68x94 => @bnd (pickV v65x92 v68x94 (Value.bool false)) ⟨fun v69x95 => @bnd (gif v69x95 true (aLoad Tryz.prog H90 28 v9x52) undef) ⟨fun v71x96 => @bndG v69x95 true H90 ⟨fun v72x97 H98 =>
  ACalls Tryz.prog 10 [v71x96] H90 v72x97 H98⟩ ⟨fun v72x97 H98 => @bnd (gif v69x95 true (aBin2 Tryz.prog H98 BinOp.eql 23 (Operand.tmp 72) (Operand.const (Value.int IntKind.i64 0)) v72x97 (Value.int IntKind.i64 0)) undef) ⟨fun
  v73x99 => @bnd (pickV v69x95 v73x99 (Value.bool false)) ⟨fun v74x100 => @bnd (gif v74x100 true ((some v13x3)) undef) ⟨fun v76x101 => @bndG v74x100 true H98 ⟨fun v77x102 H103 => ACalls Tryz.prog 14 [v76x101] H98 v77x102 H103⟩
  ⟨fun v77x102 H103 => @bnd (gif v74x100 true (aBin2 Tryz.prog H103 BinOp.eql 3 (Operand.tmp 77) (Operand.const (Value.int IntKind.i64 60)) v77x102 (Value.int IntKind.i64 60)) undef) ⟨fun v78x104 => @bnd (pickV v74x100 v78x104
  (Value.bool false)) ⟨fun v79x105 => k v79x105 H103⟩⟩⟩⟩⟩⟩⟩⟩⟩⟩⟩⟩⟩⟩⟩⟩⟩⟩⟩⟩⟩⟩⟩⟩⟩⟩⟩⟩⟩⟩⟩⟩⟩⟩⟩⟩⟩⟩⟩⟩⟩⟩⟩⟩⟩⟩⟩⟩⟩⟩⟩⟩⟩⟩⟩⟩⟩⟩⟩⟩⟩⟩⟩⟩⟩⟩⟩⟩⟩⟩⟩⟩⟩⟩⟩) := by kernel_rfl
-- tocsin/check.Config
def L10x0 (n : Nat) (k : Value → AHeap → Prop) (sl : List Value) (H : AHeap) : Prop := kit Tryz.prog (cl (cl (cr (cl (cr (cr (cr (cb Tryz.f10)))))))) n (kblk 0 (kseq Tryz.prog (cr (cr (cr (cr (cb Tryz.f10))))) (kfin Tryz.prog
  Tryz.f10 k))) .normal sl H
def L10x1 (n : Nat) (k : Value → AHeap → Prop) (sl : List Value) (H : AHeap) : Prop := kit Tryz.prog (cl (cl (cr (cl (cr (cr (cr (cr (cb Tryz.f10))))))))) n (kblk 2 (kseq Tryz.prog (cr (cr (cr (cr (cr (cb Tryz.f10)))))) (kfin
  Tryz.prog Tryz.f10 k))) .normal sl H
def L10x2 (n : Nat) (n1 : Nat) (k : Value → AHeap → Prop) (sl : List Value) (H : AHeap) : Prop := kit Tryz.prog (cl (cl (cr (cr (cr (cl (cl (cr (cr (cl (cl (cr (cl (cr (cr (cr (cr (cb Tryz.f10)))))))))))))))))) n (kblk 4 (kblk 3
  (kseq Tryz.prog (cr (cr (cr (cl (cl (cr (cl (cr (cr (cr (cr (cb Tryz.f10)))))))))))) (kit Tryz.prog (cl (cl (cr (cl (cr (cr (cr (cr (cb Tryz.f10))))))))) n1 (kblk 2 (kseq Tryz.prog (cr (cr (cr (cr (cr (cb Tryz.f10)))))) (kfin
  Tryz.prog Tryz.f10 k))))))) .normal sl H
def S10x0 (n2 : Nat) (n1 : Nat) (k : Value → AHeap → Prop) (sl : List Value) (H : AHeap) : Prop := kseq Tryz.prog (cr (cr (cr (cl (cl (cr (cr (cr (cl (cl (cr (cr (cl (cl (cr (cl (cr (cr (cr (cr (cb Tryz.f10)))))))))))))))))))))
  (kit Tryz.prog (cl (cl (cr (cr (cr (cl (cl (cr (cr (cl (cl (cr (cl (cr (cr (cr (cr (cb Tryz.f10)))))))))))))))))) n2 (kblk 4 (kblk 3 (kseq Tryz.prog (cr (cr (cr (cl (cl (cr (cl (cr (cr (cr (cr (cb Tryz.f10)))))))))))) (kit
  Tryz.prog (cl (cl (cr (cl (cr (cr (cr (cr (cb Tryz.f10))))))))) n1 (kblk 2 (kseq Tryz.prog (cr (cr (cr (cr (cr (cb Tryz.f10)))))) (kfin Tryz.prog Tryz.f10 k)))))))) .normal sl H
theorem d10 (a0 : Value) (H : AHeap) (k : Value → AHeap → Prop) : kbody Tryz.prog Tryz.f10 [a0] H k = (@bndE (aNew H 28 a0) ⟨fun v1x1 H2 => @bnd (aFieldAddr Tryz.prog H2 28 v1x1 0) ⟨fun v10x3 => @bnd (aLoad Tryz.prog H2 25 v10x3)
  ⟨fun v11x4 => @bnd (aLen Tryz.prog H2 25 v11x4) ⟨fun v12x5 => @bnd (aBin2 Tryz.prog H2 BinOp.gtr 3 (Operand.tmp 12) (Operand.const (Value.int IntKind.i64 8)) v12x5 (Value.int IntKind.i64 8)) ⟨fun v13x6 => @bnd (gif v13x6 false
  (aFieldAddr Tryz.prog H2 28 v1x1 1) undef) ⟨fun v15x7 => @bnd (gif v13x6 false (aLoad Tryz.prog H2 26 v15x7) undef) ⟨fun v16x8 => @bnd (gif v13x6 false (aLen Tryz.prog H2 26 v16x8) undef) ⟨fun v17x9 => @bnd (gif v13x6 false
  (aBin2 Tryz.prog H2 BinOp.gtr 3 (Operand.tmp 17) (Operand.const (Value.int IntKind.i64 4)) v17x9 (Value.int IntKind.i64 4)) undef) ⟨fun v18x10 => @bnd (pickV v13x6 (Value.bool true) v18x10) ⟨fun v19x11 => @kifB v19x11 ⟨k
  (Value.int IntKind.i64 110) H2⟩ ⟨@bnd (aFieldAddr Tryz.prog H2 28 v1x1 2) ⟨fun v20x12 => @bnd (aLoad Tryz.prog H2 3 v20x12) ⟨fun v21x13 => @bndD false H2 ⟨fun v22x14 H15 => ACalls Tryz.prog 20 [v21x13, (Value.int IntKind.i64
  0), (Value.int IntKind.i64 100)] H2 v22x14 H15⟩ ⟨fun v22x14 H15 => @bnd (aFieldAddr Tryz.prog H2 28 v1x1 3) ⟨fun v23x16 => @bnd (aLoad Tryz.prog H2 3 v23x16) ⟨fun v24x17 => @bndD false H15 ⟨fun v25x18 H19 => ACalls Tryz.prog 20
  [v24x17, (Value.int IntKind.i64 1), (Value.int IntKind.i64 1000)] H15 v25x18 H19⟩ ⟨fun v25x18 H19 => @bnd (aFieldAddr Tryz.prog H2 28 v1x1 0) ⟨fun v26x20 => @bnd (aLoad Tryz.prog H2 25 v26x20) ⟨fun v27x21 => @bndD false H19
  ⟨fun v28x22 H23 => ACalls Tryz.prog 21 [v27x21, (.func (.func 22) #[] #[])] H19 v28x22 H23⟩ ⟨fun v28x22 H23 => @bnd (aFieldAddr Tryz.prog H2 28 v1x1 1) ⟨fun v29x24 => @bnd (aLoad Tryz.prog H2 26 v29x24) ⟨fun v30x25 => @bndD
  true H23 ⟨fun v31x26 H27 => ACalls Tryz.prog 23 [v30x25, (.func (.func 24) #[] #[])] H23 v31x26 H27⟩ ⟨fun v31x26 H27 => @bndD true H27 ⟨fun v32x28 H29 => sliceLit Tryz.prog H27 60 4 [(0, v22x14), (1, v25x18), (2, v28x22), (3,
  v31x26)] v32x28 H29⟩ ⟨fun v32x28 H29 => @bndD true H29 ⟨fun v33x30 H31 => ACalls Tryz.prog 19 [v32x28] H29 v33x30 H31⟩ ⟨fun v33x30 H31 => @bnd (aFieldAddr Tryz.prog H31 28 v1x1 1) ⟨fun v34x32 => @bnd (aLoad Tryz.prog H31 26
  v34x32) ⟨fun v35x33 => @bnd (aLen Tryz.prog H31 26 v35x33) ⟨fun v36x34 => ∃ n, L10x0 n  k [a0, v1x1, (Value.int IntKind.i64 0), v33x30, undef, undef, undef, undef, undef, undef, v10x3, v11x4, v12x5, v13x6, v13x6, v15x7, v16x8,
  v17x9, v18x10, v19x11, v20x12, v21x13, v22x14, v23x16, v24x17, v25x18, v26x20, v27x21, v28x22, v29x24, v30x25, v31x26, v32x28, v33x30, v34x32, v35x33, v36x34, (Value.int IntKind.i64 0), undef, undef, undef, undef, undef, undef,
  undef, undef, undef, undef, undef, undef, undef, undef, undef, undef, undef, undef, undef, undef, undef, undef, undef, undef, undef, undef, undef, undef, undef, undef, undef, undef, undef, undef]
  H31⟩⟩⟩⟩⟩⟩⟩⟩⟩⟩⟩⟩⟩⟩⟩⟩⟩⟩⟩⟩⟩⟩⟩⟩⟩⟩⟩⟩) := by kernel_rfl
theorem L10x0q (n0 : Nat) (s0 s1 s2 s3 s4 s5 s6 s7 s8 s9 s10 s11 s12 s13 s14 s15 s16 s17 s18 s19 s20 s21 s22 s23 s24 s25 s26 s27 s28 s29 s30 s31 s32 s33 s34 s35 s36 s37 s38 s39 s40 s41 s42 s43 s44 s45 s46 s47 s48 s49 s50 s51 s52
  s53 s54 s55 s56 s57 s58 s59 s60 s61 s62 s63 s64 s65 s66 s67 s68 s69 s70 s71 : Value) (H : AHeap) (k : Value → AHeap → Prop) : L10x0 (n0 + 1) k [s0, s1, s2, s3, s4, s5, s6, s7, s8, s9, s10, s11, s12, s13, s14, s15, s16, s17,
  s18, s19, s20, s21, s22, s23, s24, s25, s26, s27, s28, s29, s30, s31, s32, s33, s34, s35, s36, s37, s38, s39, s40, s41, s42, s43, s44, s45, s46, s47, s48, s49, s50, s51, s52, s53, s54, s55, s56, s57, s58, s59, s60, s61, s62,
  s63, s64, s65, s66, s67, s68, s69, s70, s71] H = (@bnd (aBin2 Tryz.prog H BinOp.lss 3 (Operand.tmp 37) (Operand.tmp 36) s37 s36) ⟨fun v38x35 => @kifB v38x35 ⟨@bnd (aIndexAddr Tryz.prog H 26 s35 s37) ⟨fun v39x36 => @bnd (aLoad
  Tryz.prog H 33 v39x36) ⟨fun v40x37 => @bndE (aAlloc Tryz.prog H 33) ⟨fun v5x38 H39 => @bndS (aStore Tryz.prog H39 33 v5x38 v40x37) ⟨fun _ H41 => @bnd (aLoad Tryz.prog H41 33 v5x38) ⟨fun v42x42 => @bndC Tryz.prog 11 [v42x42] H41
  ⟨fun v43x43 H44 => @bndE (aBuiltin Tryz.prog H44 Builtin.max #[23, 23] [s3, v43x43]) ⟨fun v44x45 H46 => @bnd (aBin2 Tryz.prog H46 BinOp.add 3 (Operand.tmp 37) (Operand.const (Value.int IntKind.i64 1)) s37 (Value.int IntKind.i64
  1)) ⟨fun v45x47 => L10x0 n0  k [s0, s1, s2, v44x45, s4, v5x38, s6, s7, s8, s9, s10, s11, s12, s13, s14, s15, s16, s17, s18, s19, s20, s21, s22, s23, s24, s25, s26, s27, s28, s29, s30, s31, s32, s33, s34, s35, s36, v45x47,
  v38x35, v39x36, v40x37, s3, v42x42, v43x43, v44x45, v45x47, s46, s47, s48, s49, s50, s51, s52, s53, s54, s55, s56, s57, s58, s59, s60, s61, s62, s63, s64, s65, s66, s67, s68, s69, s70, s71] H46⟩⟩⟩⟩⟩⟩⟩⟩⟩ ⟨@bnd (aFieldAddr
  Tryz.prog H 28 s1 0) ⟨fun v46x48 => @bnd (aLoad Tryz.prog H 25 v46x48) ⟨fun v47x49 => @bnd (aLen Tryz.prog H 25 v47x49) ⟨fun v48x50 => ∃ n, L10x1 n  k [s0, s1, s2, s3, s4, s5, s6, s7, s8, s9, s10, s11, s12, s13, s14, s15, s16,
  s17, s18, s19, s20, s21, s22, s23, s24, s25, s26, s27, s28, s29, s30, s31, s32, s33, s34, s35, s36, s37, v38x35, s39, s40, s41, s42, s43, s44, s45, v46x48, v47x49, v48x50, (Value.int IntKind.i64 0), s50, s51, s52, s53, s54,
  s55, s56, s57, s58, s59, s60, s61, s62, s63, s64, s65, s66, s67, s68, s69, s70, s71] H⟩⟩⟩⟩⟩) := by kernel_rfl
theorem L10x1q (n1 : Nat) (s0 s1 s2 s3 s4 s5 s6 s7 s8 s9 s10 s11 s12 s13 s14 s15 s16 s17 s18 s19 s20 s21 s22 s23 s24 s25 s26 s27 s28 s29 s30 s31 s32 s33 s34 s35 s36 s37 s38 s39 s40 s41 s42 s43 s44 s45 s46 s47 s48 s49 s50 s51 s52
  s53 s54 s55 s56 s57 s58 s59 s60 s61 s62 s63 s64 s65 s66 s67 s68 s69 s70 s71 : Value) (H : AHeap) (k : Value → AHeap → Prop) : L10x1 (n1 + 1) k [s0, s1, s2, s3, s4, s5, s6, s7, s8, s9, s10, s11, s12, s13, s14, s15, s16, s17,
  s18, s19, s20, s21, s22, s23, s24, s25, s26, s27, s28, s29, s30, s31, s32, s33, s34, s35, s36, s37, s38, s39, s40, s41, s42, s43, s44, s45, s46, s47, s48, s49, s50, s51, s52, s53, s54, s55, s56, s57, s58, s59, s60, s61, s62,
  s63, s64, s65, s66, s67, s68, s69, s70, s71] H = (@bnd (aBin2 Tryz.prog H BinOp.lss 3 (Operand.tmp 49) (Operand.tmp 48) s49 s48) ⟨fun v50x51 => @kifB v50x51 ⟨@bnd (aIndexAddr Tryz.prog H 25 s47 s49) ⟨fun v51x52 => @bnd (aLoad
  Tryz.prog H 40 v51x52) ⟨fun v52x53 => @bndE (aAlloc Tryz.prog H 40) ⟨fun v7x54 H55 => @bndS (aStore Tryz.prog H55 40 v7x54 v52x53) ⟨fun _ H57 => @bnd (aLoad Tryz.prog H57 40 v7x54) ⟨fun v54x58 => @bndC Tryz.prog 13 [v54x58] H57
  ⟨fun v55x59 H60 => @bndE (aBuiltin Tryz.prog H60 Builtin.max #[23, 23] [s3, v55x59]) ⟨fun v56x61 H62 => @bnd (aFieldAddr Tryz.prog H62 40 v7x54 6) ⟨fun v57x63 => @bnd (aLoad Tryz.prog H62 38 v57x63) ⟨fun v58x64 => @bnd (aLen
  Tryz.prog H62 38 v58x64) ⟨fun v59x65 => ∃ n, L10x2 n n1 k [s0, s1, s2, v56x61, s4, s5, s6, v7x54, s8, s9, s10, s11, s12, s13, s14, s15, s16, s17, s18, s19, s20, s21, s22, s23, s24, s25, s26, s27, s28, s29, s30, s31, s32, s33,
  s34, s35, s36, s37, s38, s39, s40, s41, s42, s43, s44, s45, s46, s47, s48, s49, v50x51, v51x52, v52x53, s3, v54x58, v55x59, v56x61, v57x63, v58x64, v59x65, (Value.int IntKind.i64 0), s61, s62, s63, s64, s65, s66, s67, s68, s69,
  s70, s71] H62⟩⟩⟩⟩⟩⟩⟩⟩⟩⟩⟩ ⟨k s3 H⟩⟩) := by kernel_rfl
theorem L10x2q (n2 : Nat) (n1 : Nat) (s0 s1 s2 s3 s4 s5 s6 s7 s8 s9 s10 s11 s12 s13 s14 s15 s16 s17 s18 s19 s20 s21 s22 s23 s24 s25 s26 s27 s28 s29 s30 s31 s32 s33 s34 s35 s36 s37 s38 s39 s40 s41 s42 s43 s44 s45 s46 s47 s48 s49
  s50 s51 s52 s53 s54 s55 s56 s57 s58 s59 s60 s61 s62 s63 s64 s65 s66 s67 s68 s69 s70 s71 : Value) (H : AHeap) (k : Value → AHeap → Prop) : L10x2 (n2 + 1) n1 k [s0, s1, s2, s3, s4, s5, s6, s7, s8, s9, s10, s11, s12, s13, s14,
  s15, s16, s17, s18, s19, s20, s21, s22, s23, s24, s25, s26, s27, s28, s29, s30, s31, s32, s33, s34, s35, s36, s37, s38, s39, s40, s41, s42, s43, s44, s45, s46, s47, s48, s49, s50, s51, s52, s53, s54, s55, s56, s57, s58, s59,
  s60, s61, s62, s63, s64, s65, s66, s67, s68, s69, s70, s71] H = (@bnd (aBin2 Tryz.prog H BinOp.lss 3 (Operand.tmp 60) (Operand.tmp 59) s60 s59) ⟨fun v61x66 => @kifB v61x66 ⟨@bnd (aIndexAddr Tryz.prog H 38 s58 s60) ⟨fun v62x67
  => @bnd (aLoad Tryz.prog H 9 v62x67) ⟨fun v63x68 => @bndE (aAlloc Tryz.prog H 9) ⟨fun v9x69 H70 => @bndS (aStore Tryz.prog H70 9 v9x69 v63x68) ⟨fun _ H72 => @bnd (aFieldAddr Tryz.prog H72 28 s1 1) ⟨fun v64x73 => @bnd (aLoad
  Tryz.prog H72 26 v64x73) ⟨fun v65x74 => @bndC Tryz.prog 25 [v65x74, (.func (Fn.func 26) #[] #[v9x69])] H72 ⟨fun v67x75 H76 => @bnd (unV Tryz.prog UnOp.not v67x75) ⟨fun v68x77 => @kifB v68x77 ⟨S10x0 n2 n1 k [s0, s1, s2,
  (Value.int IntKind.i64 110), s4, s5, s6, s7, s8, v9x69, s10, s11, s12, s13, s14, s15, s16, s17, s18, s19, s20, s21, s22, s23, s24, s25, s26, s27, s28, s29, s30, s31, s32, s33, s34, s35, s36, s37, s38, s39, s40, s41, s42, s43,
  s44, s45, s46, s47, s48, s49, s50, s51, s52, s53, s54, s55, s56, s57, s58, s59, s60, v61x66, v62x67, v63x68, v64x73, v65x74, (.func (Fn.func 26) #[] #[v9x69]), v67x75, v68x77, s69, s70, s71] H76⟩ ⟨S10x0 n2 n1 k [s0, s1, s2, s3,
  s4, s5, s6, s7, s8, v9x69, s10, s11, s12, s13, s14, s15, s16, s17, s18, s19, s20, s21, s22, s23, s24, s25, s26, s27, s28, s29, s30, s31, s32, s33, s34, s35, s36, s37, s38, s39, s40, s41, s42, s43, s44, s45, s46, s47, s48, s49,
  s50, s51, s52, s53, s54, s55, s56, s57, s58, s59, s60, v61x66, v62x67, v63x68, v64x73, v65x74, (.func (Fn.func 26) #[] #[v9x69]), v67x75, v68x77, s69, s70, s71] H76⟩⟩⟩⟩⟩⟩⟩⟩⟩⟩ ⟨@bnd (aBin2 Tryz.prog H BinOp.add 3 (Operand.tmp
  49) (Operand.const (Value.int IntKind.i64 1)) s49 (Value.int IntKind.i64 1)) ⟨fun v70x78 => L10x1 n1  k [s0, s1, s2, s3, s4, s5, s6, s7, s8, s9, s10, s11, s12, s13, s14, s15, s16, s17, s18, s19, s20, s21, s22, s23, s24, s25,
  s26, s27, s28, s29, s30, s31, s32, s33, s34, s35, s36, s37, s38, s39, s40, s41, s42, s43, s44, s45, s46, s47, s48, v70x78, s50, s51, s52, s53, s54, s55, s56, s57, s58, s59, s60, v61x66, s62, s63, s64, s65, s66, s67, s68, s69,
  v70x78, s71] H⟩⟩⟩) := by kernel_rfl
theorem S10x0q (n2 : Nat) (n1 : Nat) (s0 s1 s2 s3 s4 s5 s6 s7 s8 s9 s10 s11 s12 s13 s14 s15 s16 s17 s18 s19 s20 s21 s22 s23 s24 s25 s26 s27 s28 s29 s30 s31 s32 s33 s34 s35 s36 s37 s38 s39 s40 s41 s42 s43 s44 s45 s46 s47 s48 s49
  s50 s51 s52 s53 s54 s55 s56 s57 s58 s59 s60 s61 s62 s63 s64 s65 s66 s67 s68 s69 s70 s71 : Value) (H : AHeap) (k : Value → AHeap → Prop) : S10x0 n2 n1 k [s0, s1, s2, s3, s4, s5, s6, s7, s8, s9, s10, s11, s12, s13, s14, s15, s16,
  s17, s18, s19, s20, s21, s22, s23, s24, s25, s26, s27, s28, s29, s30, s31, s32, s33, s34, s35, s36, s37, s38, s39, s40, s41, s42, s43, s44, s45, s46, s47, s48, s49, s50, s51, s52, s53, s54, s55, s56, s57, s58, s59, s60, s61,
  s62, s63, s64, s65, s66, s67, s68, s69, s70, s71] H = (@bnd (aBin2 Tryz.prog H BinOp.add 3 (Operand.tmp 60) (Operand.const (Value.int IntKind.i64 1)) s60 (Value.int IntKind.i64 1)) ⟨fun v69x79 => L10x2 n2 n1 k [s0, s1, s2, s3,
  s4, s5, s6, s7, s8, s9, s10, s11, s12, s13, s14, s15, s16, s17, s18, s19, s20, s21, s22, s23, s24, s25, s26, s27, s28, s29, s30, s31, s32, s33, s34, s35, s36, s37, s38, s39, s40, s41, s42, s43, s44, s45, s46, s47, s48, s49,
  s50, s51, s52, s53, s54, s55, s56, s57, s58, s59, v69x79, s61, s62, s63, s64, s65, s66, s67, s68, v69x79, s70, s71] H⟩) := by kernel_rfl

end Go.Vi
namespace Go.Vi
open Go Go.Proofs
-- tocsin/check.Mute
theorem d11 (a0 : Value) (H : AHeap) (k : Value → AHeap → Prop) : kbody Tryz.prog Tryz.f11 [a0] H k = (@bndE (aNew H 33 a0) ⟨fun v1x1 H2 => @bnd (aFieldAddr Tryz.prog H2 33 v1x1 0) ⟨fun v3x3 => @bnd (aLoad Tryz.prog H2 9 v3x3)
  ⟨fun v4x4 => @bndD false H2 ⟨fun v5x5 H6 => ACalls Tryz.prog 27 [v4x4] H2 v5x5 H6⟩ ⟨fun v5x5 H6 => @bnd (aFieldAddr Tryz.prog H2 33 v1x1 1) ⟨fun v6x7 => @bnd (aSliceOp Tryz.prog H2 30 v6x7 none none) ⟨fun v7x8 => @bndD false H6
  ⟨fun v8x9 H10 => ACalls Tryz.prog 28 [v7x8, (Value.bool true)] H6 v8x9 H10⟩ ⟨fun v8x9 H10 => @bnd (aFieldAddr Tryz.prog H2 33 v1x1 2) ⟨fun v9x11 => @bnd (aLoad Tryz.prog H2 3 v9x11) ⟨fun v10x12 => @bndD false H10 ⟨fun v11x13
  H14 => ACalls Tryz.prog 20 [v10x12, (Value.int IntKind.i64 0), (Value.int IntKind.i64 1439)] H10 v11x13 H14⟩ ⟨fun v11x13 H14 => @bnd (aFieldAddr Tryz.prog H2 33 v1x1 3) ⟨fun v12x15 => @bnd (aLoad Tryz.prog H2 3 v12x15) ⟨fun
  v13x16 => @bndD false H14 ⟨fun v14x17 H18 => ACalls Tryz.prog 20 [v13x16, (Value.int IntKind.i64 1), (Value.int IntKind.i64 1440)] H14 v14x17 H18⟩ ⟨fun v14x17 H18 => @bnd (aFieldAddr Tryz.prog H2 33 v1x1 2) ⟨fun v15x19 => @bnd
  (aLoad Tryz.prog H2 3 v15x19) ⟨fun v16x20 => @bnd (aFieldAddr Tryz.prog H2 33 v1x1 3) ⟨fun v17x21 => @bnd (aLoad Tryz.prog H2 3 v17x21) ⟨fun v18x22 => @bnd (aBin2 Tryz.prog H2 BinOp.neq 3 (Operand.tmp 16) (Operand.tmp 18)
  v16x20 v18x22) ⟨fun v19x23 => @bndD true H18 ⟨fun v20x24 H25 => sliceLit Tryz.prog H18 60 5 [(0, v5x5), (1, v8x9), (2, v11x13), (3, v14x17), (4, v19x23)] v20x24 H25⟩ ⟨fun v20x24 H25 => @bndD true H25 ⟨fun v21x26 H27 => ACalls
  Tryz.prog 19 [v20x24] H25 v21x26 H27⟩ ⟨fun v21x26 H27 => k v21x26 H27⟩⟩⟩⟩⟩⟩⟩⟩⟩⟩⟩⟩⟩⟩⟩⟩⟩⟩⟩⟩) := by kernel_rfl
-- tocsin/expr.Parse
def S12x0 (k : Value → AHeap → Prop) (sl : List Value) (H : AHeap) : Prop := kseq Tryz.prog (cr (cr (cr (cr (cr (cr (cb Tryz.f12))))))) (kfin Tryz.prog Tryz.f12 k) .normal sl H
theorem d12 (a0 : Value) (H : AHeap) (k : Value → AHeap → Prop) : kbody Tryz.prog Tryz.f12 [a0] H k = (@bndC Tryz.prog 29 [a0] H ⟨fun v12x1 H2 => @bnd (tupV v12x1 0) ⟨fun v13x3 => @bnd (tupV v12x1 1) ⟨fun v14x4 => @bnd (tupV
  v12x1 2) ⟨fun v15x5 => @bnd (aBin2 Tryz.prog H2 BinOp.neq 23 (Operand.tmp 16) (Operand.const (Value.int IntKind.i64 0)) v15x5 (Value.int IntKind.i64 0)) ⟨fun v17x6 => @kifB v17x6 ⟨k (.tuple #[(Value.slice none 0 0), v15x5]) H2⟩
  ⟨@bndC Tryz.prog 30 [v13x3, (Value.int IntKind.i64 0)] H2 ⟨fun v21x7 H8 => @bnd (tupV v21x7 0) ⟨fun v22x9 => @bnd (tupV v21x7 1) ⟨fun v23x10 => @bnd (tupV v21x7 2) ⟨fun v24x11 => @bnd (aBin2 Tryz.prog H8 BinOp.eql 23
  (Operand.tmp 25) (Operand.const (Value.int IntKind.i64 100)) v24x11 (Value.int IntKind.i64 100)) ⟨fun v26x12 => @kifB v26x12 ⟨k (.tuple #[(Value.slice none 0 0), v24x11]) H8⟩ ⟨@bnd (aBin2 Tryz.prog H8 BinOp.eql 23 (Operand.tmp
  28) (Operand.const (Value.int IntKind.i64 4)) v24x11 (Value.int IntKind.i64 4)) ⟨fun v29x13 => @kifB v29x13 ⟨@bnd (buildV Tryz.prog 68 [(0, v13x3), (2, (Value.bool true))]) ⟨fun v31x14 => @bndE (aNew H8 68 v31x14) ⟨fun v32x15
  H16 => @bndC Tryz.prog 31 [v32x15] H16 ⟨fun v34x17 H18 => @bnd (nilV v32x15) ⟨fun v36x19 => @bnd (aFieldAddr Tryz.prog H18 68 v36x19 1) ⟨fun v37x20 => @bnd (aLoad Tryz.prog H18 3 v37x20) ⟨fun v38x21 => S12x0  k [a0, undef,
  (Value.slice none 0 0), (Value.int IntKind.i64 0), v13x3, v14x4, v24x11, v22x9, v38x21, v32x15, v12x1, a0, v12x1, v13x3, v14x4, v15x5, v15x5, v17x6, undef, v21x7, v13x3, v21x7, v22x9, v23x10, v24x11, v24x11, v26x12, undef,
  v24x11, v29x13, v13x3, v31x14, v32x15, v32x15, v34x17, v32x15, v36x19, v37x20, v38x21, undef, undef, undef, undef, undef, undef] H18⟩⟩⟩⟩⟩⟩⟩ ⟨S12x0  k [a0, undef, (Value.slice none 0 0), (Value.int IntKind.i64 0), v13x3, v14x4,
  v24x11, v22x9, v23x10, undef, v12x1, a0, v12x1, v13x3, v14x4, v15x5, v15x5, v17x6, undef, v21x7, v13x3, v21x7, v22x9, v23x10, v24x11, v24x11, v26x12, undef, v24x11, v29x13, undef, undef, undef, undef, undef, undef, undef,
  undef, undef, undef, undef, undef, undef, undef, undef] H8⟩⟩⟩⟩⟩⟩⟩⟩⟩⟩⟩⟩⟩⟩) := by kernel_rfl
theorem S12x0q (s0 s1 s2 s3 s4 s5 s6 s7 s8 s9 s10 s11 s12 s13 s14 s15 s16 s17 s18 s19 s20 s21 s22 s23 s24 s25 s26 s27 s28 s29 s30 s31 s32 s33 s34 s35 s36 s37 s38 s39 s40 s41 s42 s43 s44 : Value) (H : AHeap) (k : Value → AHeap →
  Prop) : S12x0 k [s0, s1, s2, s3, s4, s5, s6, s7, s8, s9, s10, s11, s12, s13, s14, s15, s16, s17, s18, s19, s20, s21, s22, s23, s24, s25, s26, s27, s28, s29, s30, s31, s32, s33, s34, s35, s36, s37, s38, s39, s40, s41, s42, s43,
  s44] H = (@bnd (aLen Tryz.prog H 61 s4) ⟨fun v41x22 => @bnd (aBin2 Tryz.prog H BinOp.neq 3 (Operand.tmp 39) (Operand.tmp 41) s8 v41x22) ⟨fun v42x23 => @kifB v42x23 ⟨k (.tuple #[(Value.slice none 0 0), (Value.int IntKind.i64
  100)]) H⟩ ⟨k (.tuple #[s7, s6]) H⟩⟩⟩) := by kernel_rfl
-- tocsin/check.Rule
theorem d13 (a0 : Value) (H : AHeap) (k : Value → AHeap → Prop) : kbody Tryz.prog Tryz.f13 [a0] H k = (@bndE (aNew H 40 a0) ⟨fun v1x1 H2 => @bnd (aFieldAddr Tryz.prog H2 40 v1x1 0) ⟨fun v3x3 => @bnd (aLoad Tryz.prog H2 9 v3x3)
  ⟨fun v4x4 => @bndD false H2 ⟨fun v5x5 H6 => ACalls Tryz.prog 27 [v4x4] H2 v5x5 H6⟩ ⟨fun v5x5 H6 => @bnd (aFieldAddr Tryz.prog H2 40 v1x1 1) ⟨fun v6x7 => @bnd (aLoad Tryz.prog H2 9 v6x7) ⟨fun v7x8 => @bnd (aBin2 Tryz.prog H2
  BinOp.eql 9 (Operand.tmp 7) (Operand.const (Value.string { data := #[] })) v7x8 (Value.string { data := #[] })) ⟨fun v8x9 => @bnd (gif v8x9 false (aFieldAddr Tryz.prog H6 40 v1x1 1) undef) ⟨fun v10x10 => @bnd (gif v8x9 false
  (aLoad Tryz.prog H6 9 v10x10) undef) ⟨fun v11x11 => @bndD false H6 ⟨fun v12x12 H13 => gifp v8x9 false (ACalls Tryz.prog 27 [v11x11] H6 v12x12 H13) (v12x12 = undef ∧ H13 = H6)⟩ ⟨fun v12x12 H13 => @bnd (pickV v8x9 (Value.bool
  true) v12x12) ⟨fun v13x14 => @bnd (aFieldAddr Tryz.prog H2 40 v1x1 7) ⟨fun v14x15 => @bnd (aLoad Tryz.prog H2 9 v14x15) ⟨fun v15x16 => @bndD false H13 ⟨fun v16x17 H18 => ACalls Tryz.prog 27 [v15x16] H13 v16x17 H18⟩ ⟨fun v16x17
  H18 => @bnd (aFieldAddr Tryz.prog H2 40 v1x1 7) ⟨fun v17x19 => @bnd (aLoad Tryz.prog H2 9 v17x19) ⟨fun v18x20 => @bnd (aBin2 Tryz.prog H2 BinOp.neq 9 (Operand.tmp 18) (Operand.const (Value.string { data := #[109, 101, 116, 97]
  })) v18x20 (Value.string { data := #[109, 101, 116, 97] })) ⟨fun v19x21 => @bnd (aFieldAddr Tryz.prog H2 40 v1x1 3) ⟨fun v20x22 => @bnd (aLoad Tryz.prog H2 3 v20x22) ⟨fun v21x23 => @bndD false H18 ⟨fun v22x24 H25 => ACalls
  Tryz.prog 20 [v21x23, (Value.int IntKind.i64 0), (Value.int IntKind.i64 1000)] H18 v22x24 H25⟩ ⟨fun v22x24 H25 => @bnd (aFieldAddr Tryz.prog H2 40 v1x1 4) ⟨fun v23x26 => @bnd (aLoad Tryz.prog H2 3 v23x26) ⟨fun v24x27 => @bndD
  false H25 ⟨fun v25x28 H29 => ACalls Tryz.prog 20 [v24x27, (Value.int IntKind.i64 1), (Value.int IntKind.i64 100)] H25 v25x28 H29⟩ ⟨fun v25x28 H29 => @bnd (aFieldAddr Tryz.prog H2 40 v1x1 5) ⟨fun v26x30 => @bnd (aLoad Tryz.prog
  H2 3 v26x30) ⟨fun v27x31 => @bndD false H29 ⟨fun v28x32 H33 => ACalls Tryz.prog 20 [v27x31, (Value.int IntKind.i64 1), (Value.int IntKind.i64 10000)] H29 v28x32 H33⟩ ⟨fun v28x32 H33 => @bnd (aFieldAddr Tryz.prog H2 40 v1x1 6)
  ⟨fun v29x34 => @bnd (aLoad Tryz.prog H2 38 v29x34) ⟨fun v30x35 => @bnd (aLen Tryz.prog H2 38 v30x35) ⟨fun v31x36 => @bnd (aBin2 Tryz.prog H2 BinOp.leq 3 (Operand.tmp 31) (Operand.const (Value.int IntKind.i64 4)) v31x36
  (Value.int IntKind.i64 4)) ⟨fun v32x37 => @bnd (aFieldAddr Tryz.prog H2 40 v1x1 6) ⟨fun v33x38 => @bnd (aLoad Tryz.prog H2 38 v33x38) ⟨fun v34x39 => @bndD false H33 ⟨fun v35x40 H41 => ACalls Tryz.prog 32 [v34x39, (.func (.func
  33) #[] #[])] H33 v35x40 H41⟩ ⟨fun v35x40 H41 => @bnd (unV Tryz.prog UnOp.not v35x40) ⟨fun v36x42 => @bnd (aFieldAddr Tryz.prog H2 40 v1x1 6) ⟨fun v37x43 => @bnd (aLoad Tryz.prog H2 38 v37x43) ⟨fun v38x44 => @bndD false H41
  ⟨fun v39x45 H46 => ACalls Tryz.prog 34 [v38x44, (.func (.func 35) #[] #[])] H41 v39x45 H46⟩ ⟨fun v39x45 H46 => @bnd (aFieldAddr Tryz.prog H2 40 v1x1 2) ⟨fun v40x47 => @bnd (aLoad Tryz.prog H2 35 v40x47) ⟨fun v41x48 => @bndD
  false H46 ⟨fun v42x49 H50 => ACalls Tryz.prog 36 [v41x48] H46 v42x49 H50⟩ ⟨fun v42x49 H50 => @bndD true H50 ⟨fun v43x51 H52 => sliceLit Tryz.prog H50 60 11 [(0, v5x5), (1, v13x14), (2, v16x17), (3, v19x21), (4, v22x24), (5,
  v25x28), (6, v28x32), (7, v32x37), (8, v36x42), (9, v39x45), (10, v42x49)] v43x51 H52⟩ ⟨fun v43x51 H52 => @bndD true H52 ⟨fun v44x53 H54 => ACalls Tryz.prog 19 [v43x51] H52 v44x53 H54⟩ ⟨fun v44x53 H54 => k v44x53
  H54⟩⟩⟩⟩⟩⟩⟩⟩⟩⟩⟩⟩⟩⟩⟩⟩⟩⟩⟩⟩⟩⟩⟩⟩⟩⟩⟩⟩⟩⟩⟩⟩⟩⟩⟩⟩⟩⟩⟩⟩⟩⟩) := by kernel_rfl
-- tocsin/check.Window
def L14x0 (n : Nat) (k : Value → AHeap → Prop) (sl : List Value) (H : AHeap) : Prop := kit Tryz.prog (cl (cl (cr (cl (cr (cr (cb Tryz.f14))))))) n (kblk 0 (kseq Tryz.prog (cr (cr (cr (cb Tryz.f14)))) (kfin Tryz.prog Tryz.f14 k)))
  .normal sl H
def S14x0 (n0 : Nat) (k : Value → AHeap → Prop) (sl : List Value) (H : AHeap) : Prop := kseq Tryz.prog (cr (cr (cr (cl (cl (cr (cl (cr (cr (cb Tryz.f14)))))))))) (kit Tryz.prog (cl (cl (cr (cl (cr (cr (cb Tryz.f14))))))) n0 (kblk
  0 (kseq Tryz.prog (cr (cr (cr (cb Tryz.f14)))) (kfin Tryz.prog Tryz.f14 k)))) .normal sl H
theorem d14 (a0 : Value) (H : AHeap) (k : Value → AHeap → Prop) : kbody Tryz.prog Tryz.f14 [a0] H k = (@bnd (aLen Tryz.prog H 35 a0) ⟨fun v7x1 => ∃ n, L14x0 n  k [a0, undef, (Value.int IntKind.i64 0), (Value.int IntKind.i64 0),
  undef, undef, a0, v7x1, (Value.int IntKind.i64 0), undef, undef, undef, undef, undef, undef, undef, undef, undef, undef, undef, undef] H⟩) := by kernel_rfl
theorem L14x0q (n0 : Nat) (s0 s1 s2 s3 s4 s5 s6 s7 s8 s9 s10 s11 s12 s13 s14 s15 s16 s17 s18 s19 s20 : Value) (H : AHeap) (k : Value → AHeap → Prop) : L14x0 (n0 + 1) k [s0, s1, s2, s3, s4, s5, s6, s7, s8, s9, s10, s11, s12, s13,
  s14, s15, s16, s17, s18, s19, s20] H = (@bnd (aBin2 Tryz.prog H BinOp.lss 3 (Operand.tmp 8) (Operand.tmp 7) s8 s7) ⟨fun v9x2 => @kifB v9x2 ⟨@bnd (aIndexAddr Tryz.prog H 35 s6 s8) ⟨fun v10x3 => @bnd (aLoad Tryz.prog H 76 v10x3)
  ⟨fun v11x4 => @bndE (aAlloc Tryz.prog H 76) ⟨fun v5x5 H6 => @bndS (aStore Tryz.prog H6 76 v5x5 v11x4) ⟨fun _ H8 => @bnd (aFieldAddr Tryz.prog H8 76 v5x5 0) ⟨fun v12x9 => @bnd (aLoad Tryz.prog H8 5 v12x9) ⟨fun v13x10 => @bnd
  (aBin2 Tryz.prog H8 BinOp.eql 5 (Operand.tmp 13) (Operand.const (Value.int IntKind.u8 0)) v13x10 (Value.int IntKind.u8 0)) ⟨fun v14x11 => @kifB v14x11 ⟨@bnd (aFieldAddr Tryz.prog H8 76 v5x5 3) ⟨fun v16x12 => @bnd (aLoad
  Tryz.prog H8 3 v16x12) ⟨fun v17x13 => @bndE (aBuiltin Tryz.prog H8 Builtin.max #[3, 3] [s3, v17x13]) ⟨fun v18x14 H15 => S14x0 n0 k [s0, s1, s2, v18x14, s4, v5x5, s6, s7, s8, v9x2, v10x3, v11x4, v12x9, v13x10, v14x11, s3,
  v16x12, v17x13, v18x14, s19, s20] H15⟩⟩⟩⟩ ⟨S14x0 n0 k [s0, s1, s2, s3, s4, v5x5, s6, s7, s8, v9x2, v10x3, v11x4, v12x9, v13x10, v14x11, s15, s16, s17, s18, s19, s20] H8⟩⟩⟩⟩⟩⟩⟩⟩⟩ ⟨k s3 H⟩⟩) := by kernel_rfl
theorem S14x0q (n0 : Nat) (s0 s1 s2 s3 s4 s5 s6 s7 s8 s9 s10 s11 s12 s13 s14 s15 s16 s17 s18 s19 s20 : Value) (H : AHeap) (k : Value → AHeap → Prop) : S14x0 n0 k [s0, s1, s2, s3, s4, s5, s6, s7, s8, s9, s10, s11, s12, s13, s14,
  s15, s16, s17, s18, s19, s20] H = (@bnd (aBin2 Tryz.prog H BinOp.add 3 (Operand.tmp 8) (Operand.const (Value.int IntKind.i64 1)) s8 (Value.int IntKind.i64 1)) ⟨fun v19x16 => L14x0 n0  k [s0, s1, s2, s3, s4, s5, s6, s7, v19x16,
  s9, s10, s11, s12, s13, s14, s15, s16, s17, s18, v19x16, s20] H⟩) := by kernel_rfl
-- tocsin/check.all
theorem d19 (a0 : Value) (H : AHeap) (k : Value → AHeap → Prop) : kbody Tryz.prog Tryz.f19 [a0] H k = (@bndC Tryz.prog 28 [a0, (Value.bool false)] H ⟨fun v4x1 H2 => @kifB v4x1 ⟨k (Value.int IntKind.i64 110) H2⟩ ⟨k (Value.int
  IntKind.i64 0) H2⟩⟩) := by kernel_rfl
-- tocsin/check.among
theorem d20 (a0 a1 a2 : Value) (H : AHeap) (k : Value → AHeap → Prop) : kbody Tryz.prog Tryz.f20 [a0, a1, a2] H k = (@bnd (aBin2 Tryz.prog H BinOp.geq 3 (Operand.tmp 7) (Operand.tmp 8) a0 a1) ⟨fun v9x1 => @bnd (gif v9x1 true
  ((some a0)) undef) ⟨fun v11x2 => @bnd (gif v9x1 true ((some a2)) undef) ⟨fun v12x3 => @bnd (gif v9x1 true (aBin2 Tryz.prog H BinOp.leq 3 (Operand.tmp 11) (Operand.tmp 12) v11x2 v12x3) undef) ⟨fun v13x4 => @bnd (pickV v9x1 v13x4
  (Value.bool false)) ⟨fun v14x5 => k v14x5 H⟩⟩⟩⟩⟩) := by kernel_rfl
-- tocsin/check.once[tocsin/api.Rule]
def L21x0 (n : Nat) (k : Value → AHeap → Prop) (sl : List Value) (H : AHeap) : Prop := kit Tryz.prog (cl (cl (cr (cl (cr (cr (cb Tryz.f21))))))) n (kblk 0 (kseq Tryz.prog (cr (cr (cr (cb Tryz.f21)))) (kfin Tryz.prog Tryz.f21 k)))
  .normal sl H
theorem d21 (a0 a1 : Value) (H : AHeap) (k : Value → AHeap → Prop) : kbody Tryz.prog Tryz.f21 [a0, a1] H k = (@bndE (some (Value.map (some H.length), H ++ [AObj.map []])) ⟨fun v8x1 H2 => @bnd (aLen Tryz.prog H2 25 a0) ⟨fun v10x3
  => ∃ n, L21x0 n  k [a0, a1, undef, undef, (Value.bool false), v8x1, undef, undef, v8x1, a0, v10x3, (Value.int IntKind.i64 0), undef, undef, undef, undef, undef, undef, undef, undef, undef, undef, undef, undef, undef, undef,
  undef] H2⟩⟩) := by kernel_rfl
theorem L21x0q (n0 : Nat) (s0 s1 s2 s3 s4 s5 s6 s7 s8 s9 s10 s11 s12 s13 s14 s15 s16 s17 s18 s19 s20 s21 s22 s23 s24 s25 s26 : Value) (H : AHeap) (k : Value → AHeap → Prop) : L21x0 (n0 + 1) k [s0, s1, s2, s3, s4, s5, s6, s7, s8,
  s9, s10, s11, s12, s13, s14, s15, s16, s17, s18, s19, s20, s21, s22, s23, s24, s25, s26] H = (@bnd (aBin2 Tryz.prog H BinOp.lss 3 (Operand.tmp 11) (Operand.tmp 10) s11 s10) ⟨fun v12x4 => @kifB v12x4 ⟨@bnd (aIndexAddr Tryz.prog
  H 25 s9 s11) ⟨fun v13x5 => @bnd (aLoad Tryz.prog H 40 v13x5) ⟨fun v14x6 => @bndE (aAlloc Tryz.prog H 40) ⟨fun v7x7 H8 => @bndS (aStore Tryz.prog H8 40 v7x7 v14x6) ⟨fun _ H10 => @bnd (aLoad Tryz.prog H10 40 v7x7) ⟨fun v17x11 =>
  @bndV Tryz.prog s1 [v17x11] H10 ⟨fun v18x12 H13 => @bnd (aLookup Tryz.prog H13 92 s5 v18x12 false) ⟨fun v19x14 => @bnd (aBin2 Tryz.prog H13 BinOp.add 3 (Operand.tmp 19) (Operand.const (Value.int IntKind.i64 1)) v19x14
  (Value.int IntKind.i64 1)) ⟨fun v20x15 => @bndS (aUpdate Tryz.prog H13 92 s5 v18x12 v20x15) ⟨fun _ H17 => @bnd (aBin2 Tryz.prog H17 BinOp.add 3 (Operand.tmp 11) (Operand.const (Value.int IntKind.i64 1)) s11 (Value.int
  IntKind.i64 1)) ⟨fun v21x18 => L21x0 n0  k [s0, s1, s2, s3, s4, s5, s6, v7x7, s8, s9, s10, v21x18, v12x4, v13x5, v14x6, s5, s1, v17x11, v18x12, v19x14, v20x15, v21x18, s22, s23, s24, s25, s26] H17⟩⟩⟩⟩⟩⟩⟩⟩⟩⟩⟩ ⟨@bnd (aLen
  Tryz.prog H 92 s5) ⟨fun v23x19 => @bnd (aLen Tryz.prog H 25 s0) ⟨fun v25x20 => @bnd (aBin2 Tryz.prog H BinOp.eql 3 (Operand.tmp 23) (Operand.tmp 25) v23x19 v25x20) ⟨fun v26x21 => k v26x21 H⟩⟩⟩⟩⟩) := by kernel_rfl
-- tocsin/check.Config$1
theorem d22 (a0 : Value) (H : AHeap) (k : Value → AHeap → Prop) : kbody Tryz.prog Tryz.f22 [a0] H k = (@bndE (aNew H 40 a0) ⟨fun v1x1 H2 => @bnd (aFieldAddr Tryz.prog H2 40 v1x1 0) ⟨fun v3x3 => @bnd (aLoad Tryz.prog H2 9 v3x3)
  ⟨fun v4x4 => k v4x4 H2⟩⟩⟩) := by kernel_rfl
-- tocsin/check.once[tocsin/api.Mute]
def L23x0 (n : Nat) (k : Value → AHeap → Prop) (sl : List Value) (H : AHeap) : Prop := kit Tryz.prog (cl (cl (cr (cl (cr (cr (cb Tryz.f23))))))) n (kblk 0 (kseq Tryz.prog (cr (cr (cr (cb Tryz.f23)))) (kfin Tryz.prog Tryz.f23 k)))
  .normal sl H
theorem d23 (a0 a1 : Value) (H : AHeap) (k : Value → AHeap → Prop) : kbody Tryz.prog Tryz.f23 [a0, a1] H k = (@bndE (some (Value.map (some H.length), H ++ [AObj.map []])) ⟨fun v8x1 H2 => @bnd (aLen Tryz.prog H2 26 a0) ⟨fun v10x3
  => ∃ n, L23x0 n  k [a0, a1, undef, undef, (Value.bool false), v8x1, undef, undef, v8x1, a0, v10x3, (Value.int IntKind.i64 0), undef, undef, undef, undef, undef, undef, undef, undef, undef, undef, undef, undef, undef, undef,
  undef] H2⟩⟩) := by kernel_rfl
theorem L23x0q (n0 : Nat) (s0 s1 s2 s3 s4 s5 s6 s7 s8 s9 s10 s11 s12 s13 s14 s15 s16 s17 s18 s19 s20 s21 s22 s23 s24 s25 s26 : Value) (H : AHeap) (k : Value → AHeap → Prop) : L23x0 (n0 + 1) k [s0, s1, s2, s3, s4, s5, s6, s7, s8,
  s9, s10, s11, s12, s13, s14, s15, s16, s17, s18, s19, s20, s21, s22, s23, s24, s25, s26] H = (@bnd (aBin2 Tryz.prog H BinOp.lss 3 (Operand.tmp 11) (Operand.tmp 10) s11 s10) ⟨fun v12x4 => @kifB v12x4 ⟨@bnd (aIndexAddr Tryz.prog
  H 26 s9 s11) ⟨fun v13x5 => @bnd (aLoad Tryz.prog H 33 v13x5) ⟨fun v14x6 => @bndE (aAlloc Tryz.prog H 33) ⟨fun v7x7 H8 => @bndS (aStore Tryz.prog H8 33 v7x7 v14x6) ⟨fun _ H10 => @bnd (aLoad Tryz.prog H10 33 v7x7) ⟨fun v17x11 =>
  @bndV Tryz.prog s1 [v17x11] H10 ⟨fun v18x12 H13 => @bnd (aLookup Tryz.prog H13 92 s5 v18x12 false) ⟨fun v19x14 => @bnd (aBin2 Tryz.prog H13 BinOp.add 3 (Operand.tmp 19) (Operand.const (Value.int IntKind.i64 1)) v19x14
  (Value.int IntKind.i64 1)) ⟨fun v20x15 => @bndS (aUpdate Tryz.prog H13 92 s5 v18x12 v20x15) ⟨fun _ H17 => @bnd (aBin2 Tryz.prog H17 BinOp.add 3 (Operand.tmp 11) (Operand.const (Value.int IntKind.i64 1)) s11 (Value.int
  IntKind.i64 1)) ⟨fun v21x18 => L23x0 n0  k [s0, s1, s2, s3, s4, s5, s6, v7x7, s8, s9, s10, v21x18, v12x4, v13x5, v14x6, s5, s1, v17x11, v18x12, v19x14, v20x15, v21x18, s22, s23, s24, s25, s26] H17⟩⟩⟩⟩⟩⟩⟩⟩⟩⟩⟩ ⟨@bnd (aLen
  Tryz.prog H 92 s5) ⟨fun v23x19 => @bnd (aLen Tryz.prog H 26 s0) ⟨fun v25x20 => @bnd (aBin2 Tryz.prog H BinOp.eql 3 (Operand.tmp 23) (Operand.tmp 25) v23x19 v25x20) ⟨fun v26x21 => k v26x21 H⟩⟩⟩⟩⟩) := by kernel_rfl
-- tocsin/check.Config$2
theorem d24 (a0 : Value) (H : AHeap) (k : Value → AHeap → Prop) : kbody Tryz.prog Tryz.f24 [a0] H k = (@bndE (aNew H 33 a0) ⟨fun v1x1 H2 => @bnd (aFieldAddr Tryz.prog H2 33 v1x1 0) ⟨fun v3x3 => @bnd (aLoad Tryz.prog H2 9 v3x3)
  ⟨fun v4x4 => k v4x4 H2⟩⟩⟩) := by kernel_rfl
-- slices.ContainsFunc[[]tocsin/api.Mute,tocsin/api.Mute]
theorem d25 (a0 a1 : Value) (H : AHeap) (k : Value → AHeap → Prop) : kbody Tryz.prog Tryz.f25 [a0, a1] H k = (@bndC Tryz.prog 46 [a0, a1] H ⟨fun v7x1 H2 => @bnd (aBin2 Tryz.prog H2 BinOp.geq 3 (Operand.tmp 7) (Operand.const
  (Value.int IntKind.i64 0)) v7x1 (Value.int IntKind.i64 0)) ⟨fun v8x3 => k v8x3 H2⟩⟩) := by kernel_rfl
-- tocsin/check.Config$3
theorem d26 (a0 a1 : Value) (H : AHeap) (k : Value → AHeap → Prop) : kbody Tryz.prog Tryz.f26 [a0, a1] H k = (@bndE (aNew H 33 a0) ⟨fun v2x1 H2 => @bnd (aFieldAddr Tryz.prog H2 33 v2x1 0) ⟨fun v4x3 => @bnd (aLoad Tryz.prog H2 9
  v4x3) ⟨fun v5x4 => @bnd (aLoad Tryz.prog H2 9 a1) ⟨fun v6x5 => @bnd (aBin2 Tryz.prog H2 BinOp.eql 9 (Operand.tmp 5) (Operand.tmp 6) v5x4 v6x5) ⟨fun v7x6 => k v7x6 H2⟩⟩⟩⟩⟩) := by kernel_rfl
-- tocsin/labels.MayName
theorem d27 (a0 : Value) (H : AHeap) (k : Value → AHeap → Prop) : kbody Tryz.prog Tryz.f27 [a0] H k = (@bnd (aLen Tryz.prog H 9 a0) ⟨fun v4x1 => @bnd (aBin2 Tryz.prog H BinOp.geq 3 (Operand.tmp 4) (Operand.const (Value.int
  IntKind.i64 1)) v4x1 (Value.int IntKind.i64 1)) ⟨fun v5x2 => @bnd (gif v5x2 true ((some a0)) undef) ⟨fun v7x3 => @bnd (gif v5x2 true (aLen Tryz.prog H 9 v7x3) undef) ⟨fun v8x4 => @bnd (gif v5x2 true (aBin2 Tryz.prog H BinOp.leq
  3 (Operand.tmp 8) (Operand.const (Value.int IntKind.i64 16)) v8x4 (Value.int IntKind.i64 16)) undef) ⟨fun v9x5 => @bnd (pickV v5x2 v9x5 (Value.bool false)) ⟨fun v10x6 => @bnd (gif v10x6 true ((some a0)) undef) ⟨fun v12x7 =>
  @bnd (gif v10x6 true (aIndex Tryz.prog 9 v12x7 (Value.int IntKind.i64 0)) undef) ⟨fun v13x8 => @bndG v10x6 true H ⟨fun v14x9 H10 => ACalls Tryz.prog 47 [v13x8] H v14x9 H10⟩ ⟨fun v14x9 H10 => @bnd (pickV v10x6 v14x9 (Value.bool
  false)) ⟨fun v15x11 => @bnd (gif v15x11 true ((some a0)) undef) ⟨fun v17x12 => @bndG v15x11 true H10 ⟨fun v18x13 H14 => ACalls Tryz.prog 48 [v17x12, (.func (.func 49) #[] #[])] H10 v18x13 H14⟩ ⟨fun v18x13 H14 => @bnd (pickV
  v15x11 v18x13 (Value.bool false)) ⟨fun v19x15 => k v19x15 H14⟩⟩⟩⟩⟩⟩⟩⟩⟩⟩⟩⟩⟩) := by kernel_rfl

end Go.Vi
namespace Go.Vi
open Go Go.Proofs
-- slices.Contains[[]bool,bool]
theorem d28 (a0 a1 : Value) (H : AHeap) (k : Value → AHeap → Prop) : kbody Tryz.prog Tryz.f28 [a0, a1] H k = (@bndC Tryz.prog 50 [a0, a1] H ⟨fun v7x1 H2 => @bnd (aBin2 Tryz.prog H2 BinOp.geq 3 (Operand.tmp 7) (Operand.const
  (Value.int IntKind.i64 0)) v7x1 (Value.int IntKind.i64 0)) ⟨fun v8x3 => k v8x3 H2⟩⟩) := by kernel_rfl
-- tocsin/lex.All
def R29x0 (k : Value → AHeap → Prop) : KontG := (kblkG 0 (kseqG Tryz.prog (drawStd Tryz.prog) (cr (cr (cr (cb Tryz.f29)))) (kfinG Tryz.prog Tryz.f29 k)))
theorem d29 (a0 : Value) (H : AHeap) (k : Value → AHeap → Prop) : kbodyG Tryz.prog (drawStd Tryz.prog) Tryz.f29 [a0] H k = (@bndE (aAlloc Tryz.prog H 61) ⟨fun v2x1 H2 => @bndE (aAlloc Tryz.prog H2 3) ⟨fun v3x3 H4 => @bndE (aAlloc
  Tryz.prog H4 23) ⟨fun v4x5 H6 => @bndE (aAlloc Tryz.prog H6 61) ⟨fun v5x7 H8 => @bndC Tryz.prog 51 [a0] H8 ⟨fun v9x9 H10 => krange Tryz.prog v9x9 [a0, undef, v2x1, v3x3, v4x5, v5x7, undef, undef, a0, v9x9, undef, undef, undef,
  undef, undef, undef, undef, undef, undef, undef, undef, undef] #[10, 11] (cl (cl (cr (cl (cr (cr (cb Tryz.f29))))))) (cr (cl (cr (cl (cr (cr (cb Tryz.f29))))))) H10 [] (R29x0 k)⟩⟩⟩⟩⟩) := by kernel_rfl
theorem R29x0n (s0 s1 s2 s3 s4 s5 s6 s7 s8 s9 s10 s11 s12 s13 s14 s15 s16 s17 s18 s19 s20 s21 : Value) (H : AHeap) (b : Nat) (k : Value → AHeap → Prop) : R29x0 k .normal [s0, s1, s2, s3, s4, s5, s6, s7, s8, s9, s10, s11, s12,
  s13, s14, s15, s16, s17, s18, s19, s20, s21] H [b] = (@bnd (aLoad Tryz.prog H 61 s5) ⟨fun v21x11 => @bndS (aStore Tryz.prog H 61 s2 v21x11) ⟨fun _ H13 => @bndS (aStore Tryz.prog H13 3 s3 (Value.int IntKind.i64 0)) ⟨fun _ H15 =>
  @bndS (aStore Tryz.prog H15 23 s4 (Value.int IntKind.i64 0)) ⟨fun _ H17 => H17[b]? = some (AObj.loop LRec.blk) ∧ ∃ r18, aLoad Tryz.prog (H17.set b (AObj.loop LRec.gone)) 61 s2 = some r18 ∧ ∃ r19, aLoad Tryz.prog (H17.set b
  (AObj.loop LRec.gone)) 3 s3 = some r19 ∧ ∃ r20, aLoad Tryz.prog (H17.set b (AObj.loop LRec.gone)) 23 s4 = some r20 ∧ k (.tuple #[r18, r19, r20]) (H17.set b (AObj.loop LRec.gone))⟩⟩⟩⟩) := by kernel_rfl
theorem R29x0r (s0 s1 s2 s3 s4 s5 s6 s7 s8 s9 s10 s11 s12 s13 s14 s15 s16 s17 s18 s19 s20 s21 : Value) (H : AHeap) (b : Nat) (k : Value → AHeap → Prop) : R29x0 k .ret [s0, s1, s2, s3, s4, s5, s6, s7, s8, s9, s10, s11, s12, s13,
  s14, s15, s16, s17, s18, s19, s20, s21] H [b] = (H[b]? = some (AObj.loop LRec.blk) ∧ ∃ r21, aLoad Tryz.prog (H.set b (AObj.loop LRec.gone)) 61 s2 = some r21 ∧ ∃ r22, aLoad Tryz.prog (H.set b (AObj.loop LRec.gone)) 3 s3 = some
  r22 ∧ ∃ r23, aLoad Tryz.prog (H.set b (AObj.loop LRec.gone)) 23 s4 = some r23 ∧ k (.tuple #[r21, r22, r23]) (H.set b (AObj.loop LRec.gone))) := by kernel_rfl
theorem R29x0A (s0 s1 s2 s3 s4 s5 s6 s7 s8 s9 s10 s11 s12 s13 s14 s15 s16 s17 s18 s19 s20 s21 : Value) (H : AHeap) (kk : Kont) : kx Tryz.prog (cl (cl (cr (cl (cr (cr (cb Tryz.f29))))))) [s0, s1, s2, s3, s4, s5, s6, s7, s8, s9,
  s10, s11, s12, s13, s14, s15, s16, s17, s18, s19, s20, s21] H kk = (@bndE (aAlloc Tryz.prog H 101) ⟨fun v6x24 H25 => @bndS (aStore Tryz.prog H25 101 v6x24 s10) ⟨fun _ H27 => kk AExit.normal [s0, s1, s2, s3, s4, s5, v6x24, s11,
  s8, s9, s10, s11, s12, s13, s14, s15, s16, s17, s18, s19, s20, s21] H27⟩⟩) := by kernel_rfl
theorem R29x0B (s0 s1 s2 s3 s4 s5 s6 s7 s8 s9 s10 s11 s12 s13 s14 s15 s16 s17 s18 s19 s20 s21 : Value) (H : AHeap) (kk : Kont) : kx Tryz.prog (cr (cl (cr (cl (cr (cr (cb Tryz.f29))))))) [s0, s1, s2, s3, s4, s5, s6, s7, s8, s9,
  s10, s11, s12, s13, s14, s15, s16, s17, s18, s19, s20, s21] H kk = (@bnd (aBin2 Tryz.prog H BinOp.neq 23 (Operand.tmp 12) (Operand.const (Value.int IntKind.i64 0)) s7 (Value.int IntKind.i64 0)) ⟨fun v13x28 => @kifB v13x28 ⟨@bnd
  (aFieldAddr Tryz.prog H 101 s6 2) ⟨fun v14x29 => @bnd (aLoad Tryz.prog H 3 v14x29) ⟨fun v15x30 => @bndD false H ⟨fun x31 H32 => x31 = undef ∧ aStore Tryz.prog H 61 s2 (Value.slice none 0 0) = some H32⟩ ⟨fun _ H32 => @bndD true
  H32 ⟨fun x33 H34 => x33 = undef ∧ aStore Tryz.prog H32 3 s3 v15x30 = some H34⟩ ⟨fun _ H34 => @bndD true H34 ⟨fun x35 H36 => x35 = undef ∧ aStore Tryz.prog H34 23 s4 s7 = some H36⟩ ⟨fun _ H36 => kk AExit.ret [s0, s1, s2, s3, s4,
  s5, s6, s7, s8, s9, s10, s11, s7, v13x28, v14x29, v15x30, s7, s17, s18, s19, s20, s21] H36⟩⟩⟩⟩⟩⟩ ⟨@bnd (aLoad Tryz.prog H 61 s5) ⟨fun v17x37 => @bnd (aLoad Tryz.prog H 101 s6) ⟨fun v18x38 => @bndL Tryz.prog H 61 1 [(0, v18x38)]
  ⟨fun v19x39 H40 => @bndE (aBuiltin Tryz.prog H40 Builtin.append #[61, 61] [v17x37, v19x39]) ⟨fun v20x41 H42 => @bndS (aStore Tryz.prog H42 61 s5 v20x41) ⟨fun _ H44 => kk AExit.normal [s0, s1, s2, s3, s4, s5, s6, s7, s8, s9,
  s10, s11, s7, v13x28, s14, s15, s16, v17x37, v18x38, v19x39, v20x41, s21] H44⟩⟩⟩⟩⟩⟩⟩) := by kernel_rfl
-- tocsin/expr.Read
theorem d30 (a0 a1 : Value) (H : AHeap) (k : Value → AHeap → Prop) : kbody Tryz.prog Tryz.f30 [a0, a1] H k = (@bnd (aBin2 Tryz.prog H BinOp.lss 3 (Operand.tmp 9) (Operand.const (Value.int IntKind.i64 0)) a1 (Value.int IntKind.i64
  0)) ⟨fun v10x1 => @bnd (gif v10x1 false ((some a1)) undef) ⟨fun v12x2 => @bnd (gif v10x1 false ((some a0)) undef) ⟨fun v13x3 => @bnd (gif v10x1 false (aLen Tryz.prog H 61 v13x3) undef) ⟨fun v14x4 => @bnd (gif v10x1 false (aBin2
  Tryz.prog H BinOp.geq 3 (Operand.tmp 12) (Operand.tmp 14) v12x2 v14x4) undef) ⟨fun v15x5 => @bnd (pickV v10x1 (Value.bool true) v15x5) ⟨fun v16x6 => @kifB v16x6 ⟨k (.tuple #[(Value.slice none 0 0), (Value.int IntKind.i64 0),
  (Value.int IntKind.i64 100)]) H⟩ ⟨@bnd (buildV Tryz.prog 68 [(0, a0), (1, a1), (2, (Value.bool true))]) ⟨fun v19x7 => @bndE (aNew H 68 v19x7) ⟨fun v20x8 H9 => @bndC Tryz.prog 31 [v20x8] H9 ⟨fun v22x10 H11 => @bnd (nilV v20x8)
  ⟨fun v25x12 => @bnd (aFieldAddr Tryz.prog H11 68 v25x12 2) ⟨fun v26x13 => @bnd (aLoad Tryz.prog H11 4 v26x13) ⟨fun v27x14 => @bnd (unV Tryz.prog UnOp.not v27x14) ⟨fun v28x15 => @kifB v28x15 ⟨k (.tuple #[(Value.slice none 0 0),
  (Value.int IntKind.i64 0), (Value.int IntKind.i64 100)]) H11⟩ ⟨@bnd (aLen Tryz.prog H11 35 v22x10) ⟨fun v31x16 => @bnd (aBin2 Tryz.prog H11 BinOp.gtr 3 (Operand.tmp 31) (Operand.const (Value.int IntKind.i64 31)) v31x16
  (Value.int IntKind.i64 31)) ⟨fun v32x17 => @kifB v32x17 ⟨k (.tuple #[(Value.slice none 0 0), (Value.int IntKind.i64 0), (Value.int IntKind.i64 4)]) H11⟩ ⟨@bnd (nilV v20x8) ⟨fun v35x18 => @bnd (aFieldAddr Tryz.prog H11 68 v35x18
  1) ⟨fun v36x19 => @bnd (aLoad Tryz.prog H11 3 v36x19) ⟨fun v37x20 => k (.tuple #[v22x10, v37x20, (Value.int IntKind.i64 0)]) H11⟩⟩⟩⟩⟩⟩⟩⟩⟩⟩⟩⟩⟩⟩⟩⟩⟩⟩⟩⟩⟩) := by kernel_rfl
-- (*tocsin/expr.reader).condition
theorem d31 (a0 : Value) (H : AHeap) (k : Value → AHeap → Prop) : kbody Tryz.prog Tryz.f31 [a0] H k = (@bndE (aNew H 66 a0) ⟨fun v1x1 H2 => @bndE (aAlloc Tryz.prog H2 35) ⟨fun v3x3 H4 => @bndE (aAlloc Tryz.prog H4 102) ⟨fun v4x5
  H6 => @bndS (aStore Tryz.prog H6 102 v4x5 (.func (Fn.func 52) #[] #[v1x1, v4x5, v3x3])) ⟨fun _ H8 => @bnd (aLoad Tryz.prog H8 102 v4x5) ⟨fun v6x9 => @bndV Tryz.prog v6x9 [(Value.int IntKind.i64 0)] H8 ⟨fun _ H11 => @bnd (aLoad
  Tryz.prog H11 35 v3x3) ⟨fun v8x12 => k v8x12 H11⟩⟩⟩⟩⟩⟩⟩) := by kernel_rfl
-- slices.ContainsFunc[[]string,string]
theorem d32 (a0 a1 : Value) (H : AHeap) (k : Value → AHeap → Prop) : kbody Tryz.prog Tryz.f32 [a0, a1] H k = (@bndC Tryz.prog 56 [a0, a1] H ⟨fun v7x1 H2 => @bnd (aBin2 Tryz.prog H2 BinOp.geq 3 (Operand.tmp 7) (Operand.const
  (Value.int IntKind.i64 0)) v7x1 (Value.int IntKind.i64 0)) ⟨fun v8x3 => k v8x3 H2⟩⟩) := by kernel_rfl
-- tocsin/check.Rule$1
theorem d33 (a0 : Value) (H : AHeap) (k : Value → AHeap → Prop) : kbody Tryz.prog Tryz.f33 [a0] H k = (@bndC Tryz.prog 27 [a0] H ⟨fun v4x1 H2 => @bnd (unV Tryz.prog UnOp.not v4x1) ⟨fun v5x3 => k v5x3 H2⟩⟩) := by kernel_rfl
-- tocsin/check.once[string]
def L34x0 (n : Nat) (k : Value → AHeap → Prop) (sl : List Value) (H : AHeap) : Prop := kit Tryz.prog (cl (cl (cr (cl (cr (cr (cb Tryz.f34))))))) n (kblk 0 (kseq Tryz.prog (cr (cr (cr (cb Tryz.f34)))) (kfin Tryz.prog Tryz.f34 k)))
  .normal sl H
theorem d34 (a0 a1 : Value) (H : AHeap) (k : Value → AHeap → Prop) : kbody Tryz.prog Tryz.f34 [a0, a1] H k = (@bndE (some (Value.map (some H.length), H ++ [AObj.map []])) ⟨fun v8x1 H2 => @bnd (aLen Tryz.prog H2 38 a0) ⟨fun v10x3
  => ∃ n, L34x0 n  k [a0, a1, undef, undef, (Value.bool false), v8x1, undef, undef, v8x1, a0, v10x3, (Value.int IntKind.i64 0), undef, undef, undef, undef, undef, undef, undef, undef, undef, undef, undef, undef, undef, undef,
  undef] H2⟩⟩) := by kernel_rfl
theorem L34x0q (n0 : Nat) (s0 s1 s2 s3 s4 s5 s6 s7 s8 s9 s10 s11 s12 s13 s14 s15 s16 s17 s18 s19 s20 s21 s22 s23 s24 s25 s26 : Value) (H : AHeap) (k : Value → AHeap → Prop) : L34x0 (n0 + 1) k [s0, s1, s2, s3, s4, s5, s6, s7, s8,
  s9, s10, s11, s12, s13, s14, s15, s16, s17, s18, s19, s20, s21, s22, s23, s24, s25, s26] H = (@bnd (aBin2 Tryz.prog H BinOp.lss 3 (Operand.tmp 11) (Operand.tmp 10) s11 s10) ⟨fun v12x4 => @kifB v12x4 ⟨@bnd (aIndexAddr Tryz.prog
  H 38 s9 s11) ⟨fun v13x5 => @bnd (aLoad Tryz.prog H 9 v13x5) ⟨fun v14x6 => @bndV Tryz.prog s1 [v14x6] H ⟨fun v18x7 H8 => @bnd (aLookup Tryz.prog H8 92 s5 v18x7 false) ⟨fun v19x9 => @bnd (aBin2 Tryz.prog H8 BinOp.add 3
  (Operand.tmp 19) (Operand.const (Value.int IntKind.i64 1)) v19x9 (Value.int IntKind.i64 1)) ⟨fun v20x10 => @bndS (aUpdate Tryz.prog H8 92 s5 v18x7 v20x10) ⟨fun _ H12 => @bnd (aBin2 Tryz.prog H12 BinOp.add 3 (Operand.tmp 11)
  (Operand.const (Value.int IntKind.i64 1)) s11 (Value.int IntKind.i64 1)) ⟨fun v21x13 => L34x0 n0  k [s0, s1, s2, s3, s4, s5, s6, v14x6, s8, s9, s10, v21x13, v12x4, v13x5, v14x6, s5, s1, v14x6, v18x7, v19x9, v20x10, v21x13, s22,
  s23, s24, s25, s26] H12⟩⟩⟩⟩⟩⟩⟩⟩ ⟨@bnd (aLen Tryz.prog H 92 s5) ⟨fun v23x14 => @bnd (aLen Tryz.prog H 38 s0) ⟨fun v25x15 => @bnd (aBin2 Tryz.prog H BinOp.eql 3 (Operand.tmp 23) (Operand.tmp 25) v23x14 v25x15) ⟨fun v26x16 => k
  v26x16 H⟩⟩⟩⟩⟩) := by kernel_rfl
-- tocsin/check.itself
theorem d35 (a0 : Value) (H : AHeap) (k : Value → AHeap → Prop) : kbody Tryz.prog Tryz.f35 [a0] H k = (k a0 H) := by kernel_rfl
-- tocsin/expr.Right
theorem d36 (a0 : Value) (H : AHeap) (k : Value → AHeap → Prop) : kbody Tryz.prog Tryz.f36 [a0] H k = (@bnd (aLen Tryz.prog H 35 a0) ⟨fun v4x1 => @bnd (aBin2 Tryz.prog H BinOp.geq 3 (Operand.tmp 4) (Operand.const (Value.int
  IntKind.i64 1)) v4x1 (Value.int IntKind.i64 1)) ⟨fun v5x2 => @bnd (gif v5x2 true ((some a0)) undef) ⟨fun v7x3 => @bnd (gif v5x2 true (aLen Tryz.prog H 35 v7x3) undef) ⟨fun v8x4 => @bnd (gif v5x2 true (aBin2 Tryz.prog H
  BinOp.leq 3 (Operand.tmp 8) (Operand.const (Value.int IntKind.i64 31)) v8x4 (Value.int IntKind.i64 31)) undef) ⟨fun v9x5 => @bnd (pickV v5x2 v9x5 (Value.bool false)) ⟨fun v10x6 => @bnd (gif v10x6 true ((some a0)) undef) ⟨fun
  v12x7 => @bnd (gif v10x6 true ((some a0)) undef) ⟨fun v13x8 => @bnd (gif v10x6 true (aLen Tryz.prog H 35 v13x8) undef) ⟨fun v14x9 => @bnd (gif v10x6 true (aBin2 Tryz.prog H BinOp.sub 3 (Operand.tmp 14) (Operand.const (Value.int
  IntKind.i64 1)) v14x9 (Value.int IntKind.i64 1)) undef) ⟨fun v15x10 => @bndG v10x6 true H ⟨fun v16x11 H12 => ACalls Tryz.prog 57 [v12x7, v15x10] H v16x11 H12⟩ ⟨fun v16x11 H12 => @bnd (gif v10x6 true (aBin2 Tryz.prog H12
  BinOp.eql 3 (Operand.tmp 16) (Operand.const (Value.int IntKind.i64 0)) v16x11 (Value.int IntKind.i64 0)) undef) ⟨fun v17x13 => @bnd (pickV v10x6 v17x13 (Value.bool false)) ⟨fun v18x14 => k v18x14 H12⟩⟩⟩⟩⟩⟩⟩⟩⟩⟩⟩⟩⟩) := by
  kernel_rfl
-- slices.IndexFunc[[]tocsin/api.Mute,tocsin/api.Mute]
def L46x0 (n : Nat) (k : Value → AHeap → Prop) (sl : List Value) (H : AHeap) : Prop := kit Tryz.prog (cl (cl (cr (cl (cr (cb Tryz.f46)))))) n (kblk 0 (kseq Tryz.prog (cr (cr (cb Tryz.f46))) (kfin Tryz.prog Tryz.f46 k))) .normal
  sl H
theorem d46 (a0 a1 : Value) (H : AHeap) (k : Value → AHeap → Prop) : kbody Tryz.prog Tryz.f46 [a0, a1] H k = (@bnd (aLen Tryz.prog H 26 a0) ⟨fun v7x1 => ∃ n, L46x0 n  k [a0, a1, undef, undef, (Value.int IntKind.i64 0), undef, a0,
  v7x1, (Value.int IntKind.i64 0), undef, undef, undef, undef, undef, undef, undef, undef, undef, undef] H⟩) := by kernel_rfl
theorem L46x0q (n0 : Nat) (s0 s1 s2 s3 s4 s5 s6 s7 s8 s9 s10 s11 s12 s13 s14 s15 s16 s17 s18 : Value) (H : AHeap) (k : Value → AHeap → Prop) : L46x0 (n0 + 1) k [s0, s1, s2, s3, s4, s5, s6, s7, s8, s9, s10, s11, s12, s13, s14,
  s15, s16, s17, s18] H = (@bnd (aBin2 Tryz.prog H BinOp.lss 3 (Operand.tmp 8) (Operand.tmp 7) s8 s7) ⟨fun v9x2 => @kifB v9x2 ⟨@bnd (aIndexAddr Tryz.prog H 26 s0 s8) ⟨fun v14x3 => @bnd (aLoad Tryz.prog H 33 v14x3) ⟨fun v15x4 =>
  @bndV Tryz.prog s1 [v15x4] H ⟨fun v16x5 H6 => @kifB v16x5 ⟨k s8 H6⟩ ⟨@bnd (aBin2 Tryz.prog H6 BinOp.add 3 (Operand.tmp 8) (Operand.const (Value.int IntKind.i64 1)) s8 (Value.int IntKind.i64 1)) ⟨fun v18x7 => L46x0 n0  k [s0,
  s1, s2, s3, s4, s8, s6, s7, v18x7, v9x2, s8, s1, s0, s8, v14x3, v15x4, v16x5, s17, v18x7] H6⟩⟩⟩⟩⟩⟩ ⟨k (Value.int IntKind.i64 (-1)) H⟩⟩) := by kernel_rfl
-- tocsin/labels.letter
theorem d47 (a0 : Value) (H : AHeap) (k : Value → AHeap → Prop) : kbody Tryz.prog Tryz.f47 [a0] H k = (@bnd (aBin2 Tryz.prog H BinOp.geq 5 (Operand.tmp 3) (Operand.const (Value.int IntKind.u8 97)) a0 (Value.int IntKind.u8 97))
  ⟨fun v4x1 => @bnd (gif v4x1 true ((some a0)) undef) ⟨fun v6x2 => @bnd (gif v4x1 true (aBin2 Tryz.prog H BinOp.leq 5 (Operand.tmp 6) (Operand.const (Value.int IntKind.u8 122)) v6x2 (Value.int IntKind.u8 122)) undef) ⟨fun v7x3 =>
  @bnd (pickV v4x1 v7x3 (Value.bool false)) ⟨fun v8x4 => k v8x4 H⟩⟩⟩⟩) := by kernel_rfl
-- tocsin/labels.every
def L48x0 (n : Nat) (k : Value → AHeap → Prop) (sl : List Value) (H : AHeap) : Prop := kit Tryz.prog (cl (cl (cr (cl (cr (cb Tryz.f48)))))) n (kblk 0 (kseq Tryz.prog (cr (cr (cb Tryz.f48))) (kfin Tryz.prog Tryz.f48 k))) .normal
  sl H
theorem d48 (a0 a1 : Value) (H : AHeap) (k : Value → AHeap → Prop) : kbody Tryz.prog Tryz.f48 [a0, a1] H k = (@bnd (aLen Tryz.prog H 9 a0) ⟨fun v7x1 => ∃ n, L48x0 n  k [a0, a1, undef, undef, (Value.bool false), undef, a0, v7x1,
  (Value.int IntKind.i64 0), undef, undef, undef, undef, undef, undef, undef, undef, undef] H⟩) := by kernel_rfl
theorem L48x0q (n0 : Nat) (s0 s1 s2 s3 s4 s5 s6 s7 s8 s9 s10 s11 s12 s13 s14 s15 s16 s17 : Value) (H : AHeap) (k : Value → AHeap → Prop) : L48x0 (n0 + 1) k [s0, s1, s2, s3, s4, s5, s6, s7, s8, s9, s10, s11, s12, s13, s14, s15,
  s16, s17] H = (@bnd (aBin2 Tryz.prog H BinOp.lss 3 (Operand.tmp 8) (Operand.tmp 7) s8 s7) ⟨fun v9x2 => @kifB v9x2 ⟨@bnd (aIndex Tryz.prog 9 s0 s8) ⟨fun v14x3 => @bndV Tryz.prog s1 [v14x3] H ⟨fun v15x4 H5 => @bnd (unV Tryz.prog
  UnOp.not v15x4) ⟨fun v16x6 => @kifB v16x6 ⟨k (Value.bool false) H5⟩ ⟨@bnd (aBin2 Tryz.prog H5 BinOp.add 3 (Operand.tmp 8) (Operand.const (Value.int IntKind.i64 1)) s8 (Value.int IntKind.i64 1)) ⟨fun v17x7 => L48x0 n0  k [s0,
  s1, s2, s3, s4, s8, s6, s7, v17x7, v9x2, s8, s1, s0, s8, v14x3, v15x4, v16x6, v17x7] H5⟩⟩⟩⟩⟩⟩ ⟨k (Value.bool true) H⟩⟩) := by kernel_rfl
-- tocsin/labels.mark
theorem d49 (a0 : Value) (H : AHeap) (k : Value → AHeap → Prop) : kbody Tryz.prog Tryz.f49 [a0] H k = (@bndC Tryz.prog 47 [a0] H ⟨fun v4x1 H2 => @bnd (gif v4x1 false ((some a0)) undef) ⟨fun v6x3 => @bnd (gif v4x1 false (aBin2
  Tryz.prog H2 BinOp.geq 5 (Operand.tmp 6) (Operand.const (Value.int IntKind.u8 48)) v6x3 (Value.int IntKind.u8 48)) undef) ⟨fun v7x4 => @bnd (gif v4x1 false ((some v7x4)) undef) ⟨fun v8x5 => @bnd (gif v8x5 true ((some a0))
  undef) ⟨fun v9x6 => @bnd (gif v8x5 true (aBin2 Tryz.prog H2 BinOp.leq 5 (Operand.tmp 9) (Operand.const (Value.int IntKind.u8 57)) v9x6 (Value.int IntKind.u8 57)) undef) ⟨fun v10x7 => @bnd (gif v4x1 false (pickV v8x5 v10x7
  (Value.bool false)) undef) ⟨fun v11x8 => @bnd (pickV v4x1 (Value.bool true) v11x8) ⟨fun v12x9 => @bnd (gif v12x9 false ((some a0)) undef) ⟨fun v14x10 => @bnd (gif v12x9 false (aBin2 Tryz.prog H2 BinOp.eql 5 (Operand.tmp 14)
  (Operand.const (Value.int IntKind.u8 95)) v14x10 (Value.int IntKind.u8 95)) undef) ⟨fun v15x11 => @bnd (pickV v12x9 (Value.bool true) v15x11) ⟨fun v16x12 => k v16x12 H2⟩⟩⟩⟩⟩⟩⟩⟩⟩⟩⟩) := by kernel_rfl
-- slices.Index[[]bool,bool]
def L50x0 (n : Nat) (k : Value → AHeap → Prop) (sl : List Value) (H : AHeap) : Prop := kit Tryz.prog (cl (cl (cr (cl (cr (cb Tryz.f50)))))) n (kblk 0 (kseq Tryz.prog (cr (cr (cb Tryz.f50))) (kfin Tryz.prog Tryz.f50 k))) .normal
  sl H
theorem d50 (a0 a1 : Value) (H : AHeap) (k : Value → AHeap → Prop) : kbody Tryz.prog Tryz.f50 [a0, a1] H k = (@bnd (aLen Tryz.prog H 60 a0) ⟨fun v7x1 => ∃ n, L50x0 n  k [a0, a1, undef, undef, (Value.int IntKind.i64 0), undef, a0,
  v7x1, (Value.int IntKind.i64 0), undef, undef, undef, undef, undef, undef, undef, undef, undef, undef] H⟩) := by kernel_rfl
theorem L50x0q (n0 : Nat) (s0 s1 s2 s3 s4 s5 s6 s7 s8 s9 s10 s11 s12 s13 s14 s15 s16 s17 s18 : Value) (H : AHeap) (k : Value → AHeap → Prop) : L50x0 (n0 + 1) k [s0, s1, s2, s3, s4, s5, s6, s7, s8, s9, s10, s11, s12, s13, s14,
  s15, s16, s17, s18] H = (@bnd (aBin2 Tryz.prog H BinOp.lss 3 (Operand.tmp 8) (Operand.tmp 7) s8 s7) ⟨fun v9x2 => @kifB v9x2 ⟨@bnd (aIndexAddr Tryz.prog H 60 s0 s8) ⟨fun v14x3 => @bnd (aLoad Tryz.prog H 4 v14x3) ⟨fun v15x4 =>
  @bnd (aBin2 Tryz.prog H BinOp.eql 4 (Operand.tmp 11) (Operand.tmp 15) s1 v15x4) ⟨fun v16x5 => @kifB v16x5 ⟨k s8 H⟩ ⟨@bnd (aBin2 Tryz.prog H BinOp.add 3 (Operand.tmp 8) (Operand.const (Value.int IntKind.i64 1)) s8 (Value.int
  IntKind.i64 1)) ⟨fun v18x6 => L50x0 n0  k [s0, s1, s2, s3, s4, s8, s6, s7, v18x6, v9x2, s8, s1, s0, s8, v14x3, v15x4, v16x5, s17, v18x6] H⟩⟩⟩⟩⟩⟩ ⟨k (Value.int IntKind.i64 (-1)) H⟩⟩) := by kernel_rfl
-- tocsin/lex.Tell
theorem d51 (a0 : Value) (H : AHeap) (k : Value → AHeap → Prop) : kbody Tryz.prog Tryz.f51 [a0] H k = (@bndE (aNew H 9 a0) ⟨fun v1x1 H2 => k (.func (Fn.func 68) #[] #[v1x1]) H2⟩) := by kernel_rfl
-- (*tocsin/expr.reader).takes
def S53x0 (k : Value → AHeap → Prop) (sl : List Value) (H : AHeap) : Prop := kseq Tryz.prog (cr (cr (cr (cb Tryz.f53)))) (kfin Tryz.prog Tryz.f53 k) .normal sl H
theorem d53 (a0 a1 a2 : Value) (H : AHeap) (k : Value → AHeap → Prop) : kbody Tryz.prog Tryz.f53 [a0, a1, a2] H k = (@bndC Tryz.prog 71 [a0, a1, a2] H ⟨fun v11x1 H2 => @kifB v11x1 ⟨@bnd (nilV a0) ⟨fun v14x3 => @bnd (aFieldAddr
  Tryz.prog H2 68 v14x3 1) ⟨fun v15x4 => @bnd (aLoad Tryz.prog H2 3 v15x4) ⟨fun v16x5 => @bnd (aBin2 Tryz.prog H2 BinOp.add 3 (Operand.tmp 16) (Operand.const (Value.int IntKind.i64 1)) v16x5 (Value.int IntKind.i64 1)) ⟨fun v17x6
  => @bnd (nilV a0) ⟨fun v18x7 => @bnd (aFieldAddr Tryz.prog H2 68 v18x7 1) ⟨fun v19x8 => @bndS (aStore Tryz.prog H2 3 v19x8 v17x6) ⟨fun _ H10 => S53x0  k [a0, a1, a2, undef, undef, undef, (Value.bool false), v11x1, a0, a1, a2,
  v11x1, v11x1, a0, v14x3, v15x4, v16x5, v17x6, v18x7, v19x8, undef] H10⟩⟩⟩⟩⟩⟩⟩⟩ ⟨S53x0  k [a0, a1, a2, undef, undef, undef, (Value.bool false), v11x1, a0, a1, a2, v11x1, v11x1, undef, undef, undef, undef, undef, undef, undef,
  undef] H2⟩⟩) := by kernel_rfl
theorem S53x0q (s0 s1 s2 s3 s4 s5 s6 s7 s8 s9 s10 s11 s12 s13 s14 s15 s16 s17 s18 s19 s20 : Value) (H : AHeap) (k : Value → AHeap → Prop) : S53x0 k [s0, s1, s2, s3, s4, s5, s6, s7, s8, s9, s10, s11, s12, s13, s14, s15, s16, s17,
  s18, s19, s20] H = (k s7 H) := by kernel_rfl
-- (*tocsin/expr.reader).sign
theorem d54 (a0 a1 : Value) (H : AHeap) (k : Value → AHeap → Prop) : kbody Tryz.prog Tryz.f54 [a0, a1] H k = (@bndC Tryz.prog 53 [a0, (Value.int IntKind.u8 4), a1] H ⟨fun v7x1 H2 => @bnd (nilV a0) ⟨fun v8x3 => @bnd (aFieldAddr
  Tryz.prog H2 68 v8x3 2) ⟨fun v9x4 => @bndS (aStore Tryz.prog H2 4 v9x4 v7x1) ⟨fun _ H6 => k (.tuple #[]) H6⟩⟩⟩⟩) := by kernel_rfl
-- (*tocsin/expr.reader).comparison
theorem d55 (a0 : Value) (H : AHeap) (k : Value → AHeap → Prop) : kbody Tryz.prog Tryz.f55 [a0] H k = (@bndE (aAlloc Tryz.prog H 76) ⟨fun v2x1 H2 => @bndC Tryz.prog 73 [] H2 ⟨fun v5x3 H4 => @bndC Tryz.prog 72 [a0, (Value.int
  IntKind.u8 1), v5x3] H4 ⟨fun v6x5 H6 => @bnd (buildV Tryz.prog 76 [(0, (Value.int IntKind.u8 0)), (1, v6x5)]) ⟨fun v7x7 => @bndE (aAlloc Tryz.prog H6 76) ⟨fun v3x8 H9 => @bndS (aStore Tryz.prog H9 76 v3x8 v7x7) ⟨fun _ H11 =>
  @bndC Tryz.prog 54 [a0, (Value.string { data := #[40] })] H11 ⟨fun _ H13 => @bndC Tryz.prog 74 [a0] H13 ⟨fun v11x14 H15 => @bnd (aFieldAddr Tryz.prog H15 76 v3x8 2) ⟨fun v12x16 => @bndS (aStore Tryz.prog H15 74 v12x16 v11x14)
  ⟨fun _ H18 => @bndC Tryz.prog 54 [a0, (Value.string { data := #[91] })] H18 ⟨fun _ H20 => @bndC Tryz.prog 75 [a0] H20 ⟨fun v16x21 H22 => @bnd (aFieldAddr Tryz.prog H22 76 v3x8 3) ⟨fun v17x23 => @bndS (aStore Tryz.prog H22 3
  v17x23 v16x21) ⟨fun _ H25 => @bndC Tryz.prog 54 [a0, (Value.string { data := #[93] })] H25 ⟨fun _ H27 => @bndC Tryz.prog 54 [a0, (Value.string { data := #[41] })] H27 ⟨fun _ H29 => @bndC Tryz.prog 76 [] H29 ⟨fun v23x30 H31 =>
  @bndC Tryz.prog 72 [a0, (Value.int IntKind.u8 4), v23x30] H31 ⟨fun v24x32 H33 => @bnd (aFieldAddr Tryz.prog H33 76 v3x8 4) ⟨fun v25x34 => @bndS (aStore Tryz.prog H33 5 v25x34 v24x32) ⟨fun _ H36 => @bndC Tryz.prog 77 [a0] H36
  ⟨fun v27x37 H38 => @bnd (aFieldAddr Tryz.prog H38 76 v3x8 5) ⟨fun v28x39 => @bndS (aStore Tryz.prog H38 2 v28x39 v27x37) ⟨fun _ H41 => @bnd (aLoad Tryz.prog H41 76 v3x8) ⟨fun v29x42 => @bndS (aStore Tryz.prog H41 76 v2x1
  v29x42) ⟨fun _ H44 => ∃ r45, aLoad Tryz.prog H44 76 v2x1 = some r45 ∧ k r45 H44⟩⟩⟩⟩⟩⟩⟩⟩⟩⟩⟩⟩⟩⟩⟩⟩⟩⟩⟩⟩⟩⟩⟩⟩⟩) := by kernel_rfl
-- slices.IndexFunc[[]string,string]
def L56x0 (n : Nat) (k : Value → AHeap → Prop) (sl : List Value) (H : AHeap) : Prop := kit Tryz.prog (cl (cl (cr (cl (cr (cb Tryz.f56)))))) n (kblk 0 (kseq Tryz.prog (cr (cr (cb Tryz.f56))) (kfin Tryz.prog Tryz.f56 k))) .normal
  sl H
theorem d56 (a0 a1 : Value) (H : AHeap) (k : Value → AHeap → Prop) : kbody Tryz.prog Tryz.f56 [a0, a1] H k = (@bnd (aLen Tryz.prog H 38 a0) ⟨fun v7x1 => ∃ n, L56x0 n  k [a0, a1, undef, undef, (Value.int IntKind.i64 0), undef, a0,
  v7x1, (Value.int IntKind.i64 0), undef, undef, undef, undef, undef, undef, undef, undef, undef, undef] H⟩) := by kernel_rfl
theorem L56x0q (n0 : Nat) (s0 s1 s2 s3 s4 s5 s6 s7 s8 s9 s10 s11 s12 s13 s14 s15 s16 s17 s18 : Value) (H : AHeap) (k : Value → AHeap → Prop) : L56x0 (n0 + 1) k [s0, s1, s2, s3, s4, s5, s6, s7, s8, s9, s10, s11, s12, s13, s14,
  s15, s16, s17, s18] H = (@bnd (aBin2 Tryz.prog H BinOp.lss 3 (Operand.tmp 8) (Operand.tmp 7) s8 s7) ⟨fun v9x2 => @kifB v9x2 ⟨@bnd (aIndexAddr Tryz.prog H 38 s0 s8) ⟨fun v14x3 => @bnd (aLoad Tryz.prog H 9 v14x3) ⟨fun v15x4 =>
  @bndV Tryz.prog s1 [v15x4] H ⟨fun v16x5 H6 => @kifB v16x5 ⟨k s8 H6⟩ ⟨@bnd (aBin2 Tryz.prog H6 BinOp.add 3 (Operand.tmp 8) (Operand.const (Value.int IntKind.i64 1)) s8 (Value.int IntKind.i64 1)) ⟨fun v18x7 => L56x0 n0  k [s0,
  s1, s2, s3, s4, s8, s6, s7, v18x7, v9x2, s8, s1, s0, s8, v14x3, v15x4, v16x5, s17, v18x7] H6⟩⟩⟩⟩⟩⟩ ⟨k (Value.int IntKind.i64 (-1)) H⟩⟩) := by kernel_rfl
-- tocsin/expr.begin
def S57x0 (k : Value → AHeap → Prop) (sl : List Value) (H : AHeap) : Prop := kseq Tryz.prog (cr (cr (cr (cr (cb Tryz.f57))))) (kfin Tryz.prog Tryz.f57 k) .normal sl H
def S57x1 (k : Value → AHeap → Prop) (sl : List Value) (H : AHeap) : Prop := kseq Tryz.prog (cr (cr (cr (cr (cr (cl (cr (cl (cr (cr (cr (cb Tryz.f57)))))))))))) (kblk 0 (kseq Tryz.prog (cr (cr (cr (cr (cb Tryz.f57))))) (kfin
  Tryz.prog Tryz.f57 k))) .normal sl H
theorem d57 (a0 a1 : Value) (H : AHeap) (k : Value → AHeap → Prop) : kbody Tryz.prog Tryz.f57 [a0, a1] H k = (@bnd (aBin2 Tryz.prog H BinOp.lss 3 (Operand.tmp 7) (Operand.const (Value.int IntKind.i64 0)) a1 (Value.int IntKind.i64
  0)) ⟨fun v8x1 => @kifB v8x1 ⟨k (Value.int IntKind.i64 (-1)) H⟩ ⟨@bnd (aIndexAddr Tryz.prog H 35 a0 a1) ⟨fun v11x2 => @bnd (aLoad Tryz.prog H 76 v11x2) ⟨fun v12x3 => @bndE (aAlloc Tryz.prog H 76) ⟨fun v5x4 H5 => @bndS (aStore
  Tryz.prog H5 76 v5x4 v12x3) ⟨fun _ H7 => @bnd (aFieldAddr Tryz.prog H7 76 v5x4 0) ⟨fun v13x8 => @bnd (aLoad Tryz.prog H7 5 v13x8) ⟨fun v14x9 => @bnd (aBin2 Tryz.prog H7 BinOp.eql 5 (Operand.tmp 14) (Operand.const (Value.int
  IntKind.u8 0)) v14x9 (Value.int IntKind.u8 0)) ⟨fun v16x10 => @kifB v16x10 ⟨@bnd (aLoad Tryz.prog H7 76 v5x4) ⟨fun v17x11 => @bndC Tryz.prog 78 [v17x11] H7 ⟨fun v18x12 H13 => @kifB v18x12 ⟨k a1 H13⟩ ⟨S57x0  k [a0, a1, undef,
  undef, (Value.int IntKind.i64 0), v5x4, undef, a1, v8x1, a0, a1, v11x2, v12x3, v13x8, v14x9, v16x10, v16x10, v17x11, v18x12, undef, undef, undef, undef, undef, undef, undef, undef, undef, undef, undef, undef, undef, undef,
  undef, undef, undef, undef, undef, undef, undef, undef, undef, undef, undef, undef, undef, undef, undef, undef, undef, undef, undef, undef, undef, undef, undef, undef, undef, undef, undef, undef, undef, undef, undef, undef,
  undef, undef, undef, undef, undef, undef] H13⟩⟩⟩⟩ ⟨@bnd (aBin2 Tryz.prog H7 BinOp.eql 5 (Operand.tmp 14) (Operand.const (Value.int IntKind.u8 3)) v14x9 (Value.int IntKind.u8 3)) ⟨fun v21x14 => @kifB v21x14 ⟨@bnd (aLoad
  Tryz.prog H7 76 v5x4) ⟨fun v22x15 => @bndC Tryz.prog 79 [v22x15] H7 ⟨fun v23x16 H17 => @bnd (gif v23x16 true (aFieldAddr Tryz.prog H17 76 v5x4 6) undef) ⟨fun v25x18 => @bnd (gif v23x16 true (aLoad Tryz.prog H17 3 v25x18) undef)
  ⟨fun v26x19 => @bnd (gif v23x16 true ((some a1)) undef) ⟨fun v27x20 => @bnd (gif v23x16 true (aBin2 Tryz.prog H17 BinOp.sub 3 (Operand.tmp 27) (Operand.const (Value.int IntKind.i64 1)) v27x20 (Value.int IntKind.i64 1)) undef)
  ⟨fun v28x21 => @bnd (gif v23x16 true (aBin2 Tryz.prog H17 BinOp.eql 3 (Operand.tmp 26) (Operand.tmp 28) v26x19 v28x21) undef) ⟨fun v29x22 => @bnd (pickV v23x16 v29x22 (Value.bool false)) ⟨fun v30x23 => @bnd (gif v30x23 true
  (aFieldAddr Tryz.prog H17 76 v5x4 7) undef) ⟨fun v32x24 => @bnd (gif v30x23 true (aLoad Tryz.prog H17 3 v32x24) undef) ⟨fun v33x25 => @bnd (gif v30x23 true (aBin2 Tryz.prog H17 BinOp.eql 3 (Operand.tmp 33) (Operand.const
  (Value.int IntKind.i64 0)) v33x25 (Value.int IntKind.i64 0)) undef) ⟨fun v34x26 => @bnd (pickV v30x23 v34x26 (Value.bool false)) ⟨fun v35x27 => @kifB v35x27 ⟨@bnd (aBin2 Tryz.prog H17 BinOp.sub 3 (Operand.tmp 37) (Operand.const
  (Value.int IntKind.i64 1)) a1 (Value.int IntKind.i64 1)) ⟨fun v38x28 => @bndC Tryz.prog 57 [a0, v38x28] H17 ⟨fun v39x29 H30 => k v39x29 H30⟩⟩⟩ ⟨S57x0  k [a0, a1, undef, undef, (Value.int IntKind.i64 0), v5x4, undef, a1, v8x1,
  a0, a1, v11x2, v12x3, v13x8, v14x9, v16x10, v16x10, undef, undef, undef, v21x14, v21x14, v22x15, v23x16, v23x16, v25x18, v26x19, v27x20, v28x21, v29x22, v30x23, v30x23, v32x24, v33x25, v34x26, v35x27, undef, undef, undef,
  undef, undef, undef, undef, undef, undef, undef, undef, undef, undef, undef, undef, undef, undef, undef, undef, undef, undef, undef, undef, undef, undef, undef, undef, undef, undef, undef, undef, undef, undef, undef, undef]
  H17⟩⟩⟩⟩⟩⟩⟩⟩⟩⟩⟩⟩⟩⟩ ⟨@bnd (aBin2 Tryz.prog H7 BinOp.eql 5 (Operand.tmp 14) (Operand.const (Value.int IntKind.u8 1)) v14x9 (Value.int IntKind.u8 1)) ⟨fun v41x31 => @kifB v41x31 ⟨S57x1  k [a0, a1, undef, undef, (Value.int
  IntKind.i64 0), v5x4, undef, a1, v8x1, a0, a1, v11x2, v12x3, v13x8, v14x9, v16x10, v16x10, undef, undef, undef, v21x14, v21x14, undef, undef, undef, undef, undef, undef, undef, undef, undef, undef, undef, undef, undef, undef,
  undef, undef, undef, undef, v41x31, v41x31, undef, undef, undef, undef, undef, undef, undef, undef, undef, undef, undef, undef, undef, undef, undef, undef, undef, undef, undef, undef, undef, undef, undef, undef, undef, undef,
  undef, undef, undef] H7⟩ ⟨@bnd (aBin2 Tryz.prog H7 BinOp.eql 5 (Operand.tmp 14) (Operand.const (Value.int IntKind.u8 2)) v14x9 (Value.int IntKind.u8 2)) ⟨fun v42x32 => S57x1  k [a0, a1, undef, undef, (Value.int IntKind.i64 0),
  v5x4, undef, a1, v8x1, a0, a1, v11x2, v12x3, v13x8, v14x9, v16x10, v16x10, undef, undef, undef, v21x14, v21x14, undef, undef, undef, undef, undef, undef, undef, undef, undef, undef, undef, undef, undef, undef, undef, undef,
  undef, undef, v42x32, v41x31, v42x32, undef, undef, undef, undef, undef, undef, undef, undef, undef, undef, undef, undef, undef, undef, undef, undef, undef, undef, undef, undef, undef, undef, undef, undef, undef, undef, undef,
  undef] H7⟩⟩⟩⟩⟩⟩⟩⟩⟩⟩⟩⟩⟩⟩⟩) := by kernel_rfl
theorem S57x0q (s0 s1 s2 s3 s4 s5 s6 s7 s8 s9 s10 s11 s12 s13 s14 s15 s16 s17 s18 s19 s20 s21 s22 s23 s24 s25 s26 s27 s28 s29 s30 s31 s32 s33 s34 s35 s36 s37 s38 s39 s40 s41 s42 s43 s44 s45 s46 s47 s48 s49 s50 s51 s52 s53 s54 s55
  s56 s57 s58 s59 s60 s61 s62 s63 s64 s65 s66 s67 s68 s69 s70 : Value) (H : AHeap) (k : Value → AHeap → Prop) : S57x0 k [s0, s1, s2, s3, s4, s5, s6, s7, s8, s9, s10, s11, s12, s13, s14, s15, s16, s17, s18, s19, s20, s21, s22,
  s23, s24, s25, s26, s27, s28, s29, s30, s31, s32, s33, s34, s35, s36, s37, s38, s39, s40, s41, s42, s43, s44, s45, s46, s47, s48, s49, s50, s51, s52, s53, s54, s55, s56, s57, s58, s59, s60, s61, s62, s63, s64, s65, s66, s67,
  s68, s69, s70] H = (k (Value.int IntKind.i64 (-1)) H) := by kernel_rfl
theorem S57x1q (s0 s1 s2 s3 s4 s5 s6 s7 s8 s9 s10 s11 s12 s13 s14 s15 s16 s17 s18 s19 s20 s21 s22 s23 s24 s25 s26 s27 s28 s29 s30 s31 s32 s33 s34 s35 s36 s37 s38 s39 s40 s41 s42 s43 s44 s45 s46 s47 s48 s49 s50 s51 s52 s53 s54 s55
  s56 s57 s58 s59 s60 s61 s62 s63 s64 s65 s66 s67 s68 s69 s70 : Value) (H : AHeap) (k : Value → AHeap → Prop) : S57x1 k [s0, s1, s2, s3, s4, s5, s6, s7, s8, s9, s10, s11, s12, s13, s14, s15, s16, s17, s18, s19, s20, s21, s22,
  s23, s24, s25, s26, s27, s28, s29, s30, s31, s32, s33, s34, s35, s36, s37, s38, s39, s40, s41, s42, s43, s44, s45, s46, s47, s48, s49, s50, s51, s52, s53, s54, s55, s56, s57, s58, s59, s60, s61, s62, s63, s64, s65, s66, s67,
  s68, s69, s70] H = (@kifB s40 ⟨@bnd (aBin2 Tryz.prog H BinOp.sub 3 (Operand.tmp 44) (Operand.const (Value.int IntKind.i64 1)) s1 (Value.int IntKind.i64 1)) ⟨fun v45x33 => @bndC Tryz.prog 57 [s0, v45x33] H ⟨fun v46x34 H35 =>
  @bnd (aLoad Tryz.prog H35 76 s5) ⟨fun v47x36 => @bndC Tryz.prog 79 [v47x36] H35 ⟨fun v48x37 H38 => @bnd (gif v48x37 true (aFieldAddr Tryz.prog H38 76 s5 7) undef) ⟨fun v50x39 => @bnd (gif v48x37 true (aLoad Tryz.prog H38 3
  v50x39) undef) ⟨fun v51x40 => @bnd (gif v48x37 true ((some s1)) undef) ⟨fun v52x41 => @bnd (gif v48x37 true (aBin2 Tryz.prog H38 BinOp.sub 3 (Operand.tmp 52) (Operand.const (Value.int IntKind.i64 1)) v52x41 (Value.int
  IntKind.i64 1)) undef) ⟨fun v53x42 => @bnd (gif v48x37 true (aBin2 Tryz.prog H38 BinOp.eql 3 (Operand.tmp 51) (Operand.tmp 53) v51x40 v53x42) undef) ⟨fun v54x43 => @bnd (pickV v48x37 v54x43 (Value.bool false)) ⟨fun v55x44 =>
  @bnd (gif v55x44 true ((some v46x34)) undef) ⟨fun v57x45 => @bnd (gif v55x44 true (aBin2 Tryz.prog H38 BinOp.gtr 3 (Operand.tmp 57) (Operand.const (Value.int IntKind.i64 0)) v57x45 (Value.int IntKind.i64 0)) undef) ⟨fun v58x46
  => @bnd (pickV v55x44 v58x46 (Value.bool false)) ⟨fun v59x47 => @bnd (gif v59x47 true (aFieldAddr Tryz.prog H38 76 s5 6) undef) ⟨fun v61x48 => @bnd (gif v59x47 true (aLoad Tryz.prog H38 3 v61x48) undef) ⟨fun v62x49 => @bnd (gif
  v59x47 true ((some v46x34)) undef) ⟨fun v63x50 => @bnd (gif v59x47 true (aBin2 Tryz.prog H38 BinOp.sub 3 (Operand.tmp 63) (Operand.const (Value.int IntKind.i64 1)) v63x50 (Value.int IntKind.i64 1)) undef) ⟨fun v64x51 => @bnd
  (gif v59x47 true (aBin2 Tryz.prog H38 BinOp.eql 3 (Operand.tmp 62) (Operand.tmp 64) v62x49 v64x51) undef) ⟨fun v65x52 => @bnd (pickV v59x47 v65x52 (Value.bool false)) ⟨fun v66x53 => @kifB v66x53 ⟨@bnd (aBin2 Tryz.prog H38
  BinOp.sub 3 (Operand.tmp 68) (Operand.const (Value.int IntKind.i64 1)) v46x34 (Value.int IntKind.i64 1)) ⟨fun v69x54 => @bndC Tryz.prog 57 [s0, v69x54] H38 ⟨fun v70x55 H56 => k v70x55 H56⟩⟩⟩ ⟨S57x0  k [s0, s1, s2, s3, s4, s5,
  v46x34, s7, s8, s9, s10, s11, s12, s13, s14, s15, s16, s17, s18, s19, s20, s21, s22, s23, s24, s25, s26, s27, s28, s29, s30, s31, s32, s33, s34, s35, s36, s37, s38, s39, s40, s41, s42, s0, s1, v45x33, v46x34, v47x36, v48x37,
  v48x37, v50x39, v51x40, v52x41, v53x42, v54x43, v55x44, v55x44, v57x45, v58x46, v59x47, v59x47, v61x48, v62x49, v63x50, v64x51, v65x52, v66x53, s67, s68, s69, s70] H38⟩⟩⟩⟩⟩⟩⟩⟩⟩⟩⟩⟩⟩⟩⟩⟩⟩⟩⟩⟩⟩ ⟨S57x0  k [s0, s1, s2, s3, s4, s5, s6,
  s7, s8, s9, s10, s11, s12, s13, s14, s15, s16, s17, s18, s19, s20, s21, s22, s23, s24, s25, s26, s27, s28, s29, s30, s31, s32, s33, s34, s35, s36, s37, s38, s39, s40, s41, s42, s43, s44, s45, s46, s47, s48, s49, s50, s51, s52,
  s53, s54, s55, s56, s57, s58, s59, s60, s61, s62, s63, s64, s65, s66, s67, s68, s69, s70] H⟩) := by kernel_rfl

end Go.Vi
namespace Go.Vi
open Go Go.Proofs
-- tocsin/lex.Tell$1
def L68x0 (n : Nat) (k : Value → AHeap → Prop) (sl : List Value) (H : AHeap) : Prop := kit Tryz.prog (cl (cl (cr (cr (cb Tryz.f68))))) n (kblk 0 (kfin Tryz.prog Tryz.f68 k)) .normal sl H
theorem d68 (a0 a1 : Value) (H : AHeap) (k : Value → AHeap → Prop) : kbody Tryz.prog Tryz.f68 [a0, a1] H k = (@bnd (aLoad Tryz.prog H 9 a1) ⟨fun v6x1 => @bnd (aLen Tryz.prog H 9 v6x1) ⟨fun v7x2 => @bnd (aBin2 Tryz.prog H
  BinOp.gtr 3 (Operand.tmp 7) (Operand.const (Value.int IntKind.i64 4096)) v7x2 (Value.int IntKind.i64 4096)) ⟨fun v8x3 => @kifB v8x3 ⟨@bnd (buildV Tryz.prog 101 []) ⟨fun v10x4 => @bndV Tryz.prog a0 [v10x4, (Value.int IntKind.i64
  3)] H ⟨fun _ H6 => k (.tuple #[]) H6⟩⟩⟩ ⟨@bnd (aLoad Tryz.prog H 9 a1) ⟨fun v12x7 => @bndC Tryz.prog 69 [v12x7, (Value.int IntKind.i64 0)] H ⟨fun v13x8 H9 => ∃ n, L68x0 n  k [a0, a1, undef, v13x8, undef, undef, v6x1, v7x2,
  v8x3, undef, undef, undef, v12x7, v13x8, undef, undef, undef, undef, undef, undef, undef, undef, undef, undef, undef, undef, undef, undef, undef, undef, undef, undef, undef, undef, undef, undef, undef, undef, undef, undef]
  H9⟩⟩⟩⟩⟩⟩) := by kernel_rfl
theorem L68x0q (n0 : Nat) (s0 s1 s2 s3 s4 s5 s6 s7 s8 s9 s10 s11 s12 s13 s14 s15 s16 s17 s18 s19 s20 s21 s22 s23 s24 s25 s26 s27 s28 s29 s30 s31 s32 s33 s34 s35 s36 s37 s38 s39 : Value) (H : AHeap) (k : Value → AHeap → Prop) :
  L68x0 (n0 + 1) k [s0, s1, s2, s3, s4, s5, s6, s7, s8, s9, s10, s11, s12, s13, s14, s15, s16, s17, s18, s19, s20, s21, s22, s23, s24, s25, s26, s27, s28, s29, s30, s31, s32, s33, s34, s35, s36, s37, s38, s39] H = (@bnd (aLoad
  Tryz.prog H 9 s1) ⟨fun v15x10 => @bnd (aLen Tryz.prog H 9 v15x10) ⟨fun v16x11 => @bnd (aBin2 Tryz.prog H BinOp.lss 3 (Operand.tmp 14) (Operand.tmp 16) s3 v16x11) ⟨fun v17x12 => @kifB v17x12 ⟨@bnd (aLoad Tryz.prog H 9 s1) ⟨fun
  v22x13 => @bndC Tryz.prog 70 [v22x13, s3] H ⟨fun v24x14 H15 => @bnd (tupV v24x14 0) ⟨fun v25x16 => @bnd (tupV v24x14 1) ⟨fun v26x17 => @bndE (aAlloc Tryz.prog H15 101) ⟨fun v4x18 H19 => @bndS (aStore Tryz.prog H19 101 v4x18
  v25x16) ⟨fun _ H21 => @bnd (aBin2 Tryz.prog H21 BinOp.eql 3 (Operand.tmp 27) (Operand.const (Value.int IntKind.i64 0)) v26x17 (Value.int IntKind.i64 0)) ⟨fun v28x22 => @kifB v28x22 ⟨@bnd (buildV Tryz.prog 101 [(2, s3)]) ⟨fun
  v31x23 => @bndV Tryz.prog s0 [v31x23, (Value.int IntKind.i64 90)] H21 ⟨fun _ H25 => k (.tuple #[]) H25⟩⟩⟩ ⟨@bnd (aLoad Tryz.prog H21 101 v4x18) ⟨fun v34x26 => @bndV Tryz.prog s0 [v34x26, (Value.int IntKind.i64 0)] H21 ⟨fun
  v35x27 H28 => @bnd (unV Tryz.prog UnOp.not v35x27) ⟨fun v36x29 => @kifB v36x29 ⟨k (.tuple #[]) H28⟩ ⟨@bnd (aBin2 Tryz.prog H28 BinOp.add 3 (Operand.tmp 37) (Operand.tmp 38) s3 v26x17) ⟨fun v39x30 => @bnd (aLoad Tryz.prog H28 9
  s1) ⟨fun v18x31 => @bndC Tryz.prog 69 [v18x31, v39x30] H28 ⟨fun v20x32 H33 => L68x0 n0  k [s0, s1, s2, v20x32, v4x18, v26x17, s6, s7, s8, s9, s10, s11, s12, s13, s3, v15x10, v16x11, v17x12, v18x31, v39x30, v20x32, v24x14,
  v22x13, s3, v24x14, v25x16, v26x17, v26x17, v28x22, s29, s30, s31, s32, s0, v34x26, v35x27, v36x29, s3, v26x17, v39x30] H33⟩⟩⟩⟩⟩⟩⟩⟩⟩⟩⟩⟩⟩⟩⟩⟩ ⟨k (.tuple #[]) H⟩⟩⟩⟩) := by kernel_rfl
-- tocsin/lex.skip
def L69x0 (n : Nat) (k : Value → AHeap → Prop) (sl : List Value) (H : AHeap) : Prop := kit Tryz.prog (cl (cl (cl (cr (cb Tryz.f69))))) n (kblk 0 (kseq Tryz.prog (cr (cr (cb Tryz.f69))) (kfin Tryz.prog Tryz.f69 k))) .normal sl H
theorem d69 (a0 a1 : Value) (H : AHeap) (k : Value → AHeap → Prop) : kbody Tryz.prog Tryz.f69 [a0, a1] H k = (∃ n, L69x0 n  k [a0, a1, undef, undef, (Value.int IntKind.i64 0), undef, undef, undef, undef, undef, undef, undef,
  undef, undef, undef, undef, undef, undef, undef, undef, undef, undef, undef, undef, undef, undef, undef, undef, undef] H) := by kernel_rfl
theorem L69x0q (n0 : Nat) (s0 s1 s2 s3 s4 s5 s6 s7 s8 s9 s10 s11 s12 s13 s14 s15 s16 s17 s18 s19 s20 s21 s22 s23 s24 s25 s26 s27 s28 : Value) (H : AHeap) (k : Value → AHeap → Prop) : L69x0 (n0 + 1) k [s0, s1, s2, s3, s4, s5, s6,
  s7, s8, s9, s10, s11, s12, s13, s14, s15, s16, s17, s18, s19, s20, s21, s22, s23, s24, s25, s26, s27, s28] H = (@bnd (aLen Tryz.prog H 9 s0) ⟨fun v7x1 => @bnd (aBin2 Tryz.prog H BinOp.lss 3 (Operand.tmp 5) (Operand.tmp 7) s1
  v7x1) ⟨fun v8x2 => @kifB v8x2 ⟨@bnd (aIndex Tryz.prog 9 s0 s1) ⟨fun v13x3 => @bndC Tryz.prog 99 [(Value.string { data := #[32, 9, 10, 13] }), v13x3] H ⟨fun v14x4 H5 => @bnd (aBin2 Tryz.prog H5 BinOp.geq 3 (Operand.tmp 14)
  (Operand.const (Value.int IntKind.i64 0)) v14x4 (Value.int IntKind.i64 0)) ⟨fun v15x6 => @kifB v15x6 ⟨@bnd (aBin2 Tryz.prog H5 BinOp.add 3 (Operand.tmp 16) (Operand.const (Value.int IntKind.i64 1)) s1 (Value.int IntKind.i64 1))
  ⟨fun v17x7 => L69x0 n0  k [s0, v17x7, s2, s3, s4, s1, s0, v7x1, v8x2, s9, v15x6, s0, s1, v13x3, v14x4, v15x6, s1, v17x7, s18, s19, s20, s21, s22, s23, s24, s25, s26, s27, s28] H5⟩⟩ ⟨@bnd (aIndex Tryz.prog 9 s0 s1) ⟨fun v21x8 =>
  @bnd (aBin2 Tryz.prog H5 BinOp.eql 5 (Operand.tmp 21) (Operand.const (Value.int IntKind.u8 35)) v21x8 (Value.int IntKind.u8 35)) ⟨fun v22x9 => @kifB v22x9 ⟨@bndC Tryz.prog 100 [s0, s1, (.func (.func 101) #[] #[])] H5 ⟨fun
  v26x10 H11 => @bnd (aBin2 Tryz.prog H11 BinOp.add 3 (Operand.tmp 23) (Operand.tmp 26) s1 v26x10) ⟨fun v27x12 => L69x0 n0  k [s0, v27x12, s2, s3, s4, s1, s0, v7x1, v8x2, s9, v15x6, s0, s1, v13x3, v14x4, v15x6, s16, s17, v22x9,
  s0, s1, v21x8, v22x9, s1, s0, s1, v26x10, v27x12, s28] H11⟩⟩⟩ ⟨k s1 H5⟩⟩⟩⟩⟩⟩⟩⟩ ⟨k s1 H⟩⟩⟩) := by kernel_rfl
-- tocsin/lex.one
def S70x0 (k : Value → AHeap → Prop) (sl : List Value) (H : AHeap) : Prop := kseq Tryz.prog (cr (cr (cr (cr (cb Tryz.f70))))) (kfin Tryz.prog Tryz.f70 k) .normal sl H
theorem d70 (a0 a1 : Value) (H : AHeap) (k : Value → AHeap → Prop) : kbody Tryz.prog Tryz.f70 [a0, a1] H k = (@bndE (aAlloc Tryz.prog H 101) ⟨fun v4x1 H2 => @bnd (buildV Tryz.prog 101 [(2, a1)]) ⟨fun v10x3 => @bndE (aAlloc
  Tryz.prog H2 101) ⟨fun v6x4 H5 => @bndS (aStore Tryz.prog H5 101 v6x4 v10x3) ⟨fun _ H7 => @bnd (aIndex Tryz.prog 9 a0 a1) ⟨fun v18x8 => @bndC Tryz.prog 102 [v18x8] H7 ⟨fun v19x9 H10 => @kifB v19x9 ⟨@bndC Tryz.prog 100 [a0, a1,
  (.func (.func 103) #[] #[])] H10 ⟨fun v22x11 H12 => @bnd (aFieldAddr Tryz.prog H12 101 v6x4 0) ⟨fun v23x13 => @bndS (aStore Tryz.prog H12 5 v23x13 (Value.int IntKind.u8 1)) ⟨fun _ H15 => S70x0  k [a0, a1, undef, undef, v4x1,
  (Value.int IntKind.i64 0), v6x4, v22x11, undef, a1, v10x3, undef, undef, undef, undef, v19x9, a0, a1, v18x8, v19x9, a0, a1, v22x11, v23x13, undef, undef, undef, undef, undef, undef, undef, undef, undef, undef, undef, undef,
  undef, undef, undef, undef, undef, undef, undef, undef, undef, undef, undef, undef, undef, undef, undef, undef, undef, undef, undef, undef, undef, undef, undef, undef, undef, undef, undef, undef, undef, undef, undef, undef,
  undef, undef, undef, undef, undef, undef, undef, undef, undef, undef, undef, undef, undef, undef, undef, undef, undef] H15⟩⟩⟩⟩ ⟨@bnd (aIndex Tryz.prog 9 a0 a1) ⟨fun v27x16 => @bndC Tryz.prog 104 [v27x16] H10 ⟨fun v28x17 H18 =>
  @kifB v28x17 ⟨@bndC Tryz.prog 100 [a0, a1, (.func (.func 104) #[] #[])] H18 ⟨fun v31x19 H20 => @bnd (aFieldAddr Tryz.prog H20 101 v6x4 0) ⟨fun v32x21 => @bndS (aStore Tryz.prog H20 5 v32x21 (Value.int IntKind.u8 2)) ⟨fun _ H23
  => @bnd (aBin2 Tryz.prog H23 BinOp.add 3 (Operand.tmp 34) (Operand.tmp 35) a1 v31x19) ⟨fun v36x24 => @bnd (aBin2 Tryz.prog H23 BinOp.add 3 (Operand.tmp 36) (Operand.const (Value.int IntKind.i64 1)) v36x24 (Value.int IntKind.i64
  1)) ⟨fun v37x25 => @bndC Tryz.prog 100 [a0, v37x25, (.func (.func 104) #[] #[])] H23 ⟨fun v38x26 H27 => @bnd (aBin2 Tryz.prog H27 BinOp.add 3 (Operand.tmp 39) (Operand.tmp 40) a1 v31x19) ⟨fun v41x28 => @bnd (aLen Tryz.prog H27
  9 a0) ⟨fun v43x29 => @bnd (aBin2 Tryz.prog H27 BinOp.lss 3 (Operand.tmp 41) (Operand.tmp 43) v41x28 v43x29) ⟨fun v44x30 => @bnd (gif v44x30 true ((some a0)) undef) ⟨fun v46x31 => @bnd (gif v44x30 true ((some a1)) undef) ⟨fun
  v47x32 => @bnd (gif v44x30 true ((some v31x19)) undef) ⟨fun v48x33 => @bnd (gif v44x30 true (aBin2 Tryz.prog H27 BinOp.add 3 (Operand.tmp 47) (Operand.tmp 48) v47x32 v48x33) undef) ⟨fun v49x34 => @bnd (gif v44x30 true (aIndex
  Tryz.prog 9 v46x31 v49x34) undef) ⟨fun v50x35 => @bnd (gif v44x30 true (aBin2 Tryz.prog H27 BinOp.eql 5 (Operand.tmp 50) (Operand.const (Value.int IntKind.u8 46)) v50x35 (Value.int IntKind.u8 46)) undef) ⟨fun v51x36 => @bnd
  (pickV v44x30 v51x36 (Value.bool false)) ⟨fun v52x37 => @bnd (gif v52x37 true ((some v38x26)) undef) ⟨fun v54x38 => @bnd (gif v52x37 true (aBin2 Tryz.prog H27 BinOp.gtr 3 (Operand.tmp 54) (Operand.const (Value.int IntKind.i64
  0)) v54x38 (Value.int IntKind.i64 0)) undef) ⟨fun v55x39 => @bnd (pickV v52x37 v55x39 (Value.bool false)) ⟨fun v56x40 => @kifB v56x40 ⟨@bnd (aBin2 Tryz.prog H27 BinOp.add 3 (Operand.const (Value.int IntKind.i64 1)) (Operand.tmp
  58) (Value.int IntKind.i64 1) v38x26) ⟨fun v59x41 => @bnd (aBin2 Tryz.prog H27 BinOp.add 3 (Operand.tmp 57) (Operand.tmp 59) v31x19 v59x41) ⟨fun v60x42 => S70x0  k [a0, a1, undef, undef, v4x1, (Value.int IntKind.i64 0), v6x4,
  v60x42, v38x26, a1, v10x3, undef, undef, undef, undef, v19x9, a0, a1, v18x8, v19x9, undef, undef, undef, undef, v28x17, a0, a1, v27x16, v28x17, a0, a1, v31x19, v32x21, a0, a1, v31x19, v36x24, v37x25, v38x26, a1, v31x19, v41x28,
  a0, v43x29, v44x30, v44x30, v46x31, v47x32, v48x33, v49x34, v50x35, v51x36, v52x37, v52x37, v54x38, v55x39, v56x40, v31x19, v38x26, v59x41, v60x42, undef, undef, undef, undef, undef, undef, undef, undef, undef, undef, undef,
  undef, undef, undef, undef, undef, undef, undef, undef, undef, undef, undef, undef, undef] H27⟩⟩⟩ ⟨S70x0  k [a0, a1, undef, undef, v4x1, (Value.int IntKind.i64 0), v6x4, v31x19, v38x26, a1, v10x3, undef, undef, undef, undef,
  v19x9, a0, a1, v18x8, v19x9, undef, undef, undef, undef, v28x17, a0, a1, v27x16, v28x17, a0, a1, v31x19, v32x21, a0, a1, v31x19, v36x24, v37x25, v38x26, a1, v31x19, v41x28, a0, v43x29, v44x30, v44x30, v46x31, v47x32, v48x33,
  v49x34, v50x35, v51x36, v52x37, v52x37, v54x38, v55x39, v56x40, undef, undef, undef, undef, undef, undef, undef, undef, undef, undef, undef, undef, undef, undef, undef, undef, undef, undef, undef, undef, undef, undef, undef,
  undef, undef, undef, undef, undef] H27⟩⟩⟩⟩⟩⟩⟩⟩⟩⟩⟩⟩⟩⟩⟩⟩⟩⟩⟩⟩⟩ ⟨@bnd (aIndex Tryz.prog 9 a0 a1) ⟨fun v64x43 => @bnd (aBin2 Tryz.prog H18 BinOp.eql 5 (Operand.tmp 64) (Operand.const (Value.int IntKind.u8 34)) v64x43 (Value.int
  IntKind.u8 34)) ⟨fun v65x44 => @kifB v65x44 ⟨@bnd (aFieldAddr Tryz.prog H18 101 v6x4 0) ⟨fun v66x45 => @bndS (aStore Tryz.prog H18 5 v66x45 (Value.int IntKind.u8 3)) ⟨fun _ H47 => @bndC Tryz.prog 105 [a0, a1] H47 ⟨fun v70x48
  H49 => @bnd (tupV v70x48 0) ⟨fun v71x50 => @bnd (tupV v70x48 1) ⟨fun v72x51 => @bnd (aFieldAddr Tryz.prog H49 101 v6x4 1) ⟨fun v73x52 => @bndS (aStore Tryz.prog H49 9 v73x52 v71x50) ⟨fun _ H54 => @bnd (aLoad Tryz.prog H54 101
  v6x4) ⟨fun v74x55 => @bndS (aStore Tryz.prog H54 101 v4x1 v74x55) ⟨fun _ H57 => ∃ r58, aLoad Tryz.prog H57 101 v4x1 = some r58 ∧ k (.tuple #[r58, v72x51]) H57⟩⟩⟩⟩⟩⟩⟩⟩⟩⟩ ⟨@bndC Tryz.prog 106 [a0, a1] H18 ⟨fun v13x59 H60 => @bnd
  (aFieldAddr Tryz.prog H60 101 v6x4 0) ⟨fun v14x61 => @bndS (aStore Tryz.prog H60 5 v14x61 (Value.int IntKind.u8 4)) ⟨fun _ H63 => S70x0  k [a0, a1, undef, undef, v4x1, (Value.int IntKind.i64 0), v6x4, v13x59, undef, a1, v10x3,
  a0, a1, v13x59, v14x61, v19x9, a0, a1, v18x8, v19x9, undef, undef, undef, undef, v28x17, a0, a1, v27x16, v28x17, undef, undef, undef, undef, undef, undef, undef, undef, undef, undef, undef, undef, undef, undef, undef, undef,
  undef, undef, undef, undef, undef, undef, undef, undef, undef, undef, undef, undef, undef, undef, undef, undef, v65x44, a0, a1, v64x43, v65x44, undef, undef, undef, undef, undef, undef, undef, undef, undef, undef, undef, undef,
  undef, undef, undef, undef, undef, undef, undef] H63⟩⟩⟩⟩⟩⟩⟩⟩⟩⟩⟩⟩⟩⟩⟩⟩) := by kernel_rfl
theorem S70x0q (s0 s1 s2 s3 s4 s5 s6 s7 s8 s9 s10 s11 s12 s13 s14 s15 s16 s17 s18 s19 s20 s21 s22 s23 s24 s25 s26 s27 s28 s29 s30 s31 s32 s33 s34 s35 s36 s37 s38 s39 s40 s41 s42 s43 s44 s45 s46 s47 s48 s49 s50 s51 s52 s53 s54 s55
  s56 s57 s58 s59 s60 s61 s62 s63 s64 s65 s66 s67 s68 s69 s70 s71 s72 s73 s74 s75 s76 s77 s78 s79 s80 s81 s82 s83 s84 : Value) (H : AHeap) (k : Value → AHeap → Prop) : S70x0 k [s0, s1, s2, s3, s4, s5, s6, s7, s8, s9, s10, s11,
  s12, s13, s14, s15, s16, s17, s18, s19, s20, s21, s22, s23, s24, s25, s26, s27, s28, s29, s30, s31, s32, s33, s34, s35, s36, s37, s38, s39, s40, s41, s42, s43, s44, s45, s46, s47, s48, s49, s50, s51, s52, s53, s54, s55, s56,
  s57, s58, s59, s60, s61, s62, s63, s64, s65, s66, s67, s68, s69, s70, s71, s72, s73, s74, s75, s76, s77, s78, s79, s80, s81, s82, s83, s84] H = (@bnd (aBin2 Tryz.prog H BinOp.add 3 (Operand.tmp 78) (Operand.tmp 79) s1 s7) ⟨fun
  v80x64 => @bnd (aSliceOp Tryz.prog H 9 s0 (some s1) (some v80x64)) ⟨fun v81x65 => @bnd (aFieldAddr Tryz.prog H 101 s6 1) ⟨fun v82x66 => @bndS (aStore Tryz.prog H 9 v82x66 v81x65) ⟨fun _ H68 => @bnd (aLoad Tryz.prog H68 101 s6)
  ⟨fun v83x69 => @bndS (aStore Tryz.prog H68 101 s4 v83x69) ⟨fun _ H71 => ∃ r72, aLoad Tryz.prog H71 101 s4 = some r72 ∧ k (.tuple #[r72, s7]) H71⟩⟩⟩⟩⟩⟩) := by kernel_rfl
-- (*tocsin/expr.reader).is
theorem d71 (a0 a1 a2 : Value) (H : AHeap) (k : Value → AHeap → Prop) : kbody Tryz.prog Tryz.f71 [a0, a1, a2] H k = (@bnd (nilV a0) ⟨fun v8x1 => @bnd (aFieldAddr Tryz.prog H 68 v8x1 2) ⟨fun v9x2 => @bnd (aLoad Tryz.prog H 4 v9x2)
  ⟨fun v10x3 => @bnd (gif v10x3 true ((some a0)) undef) ⟨fun v12x4 => @bnd (gif v10x3 true (nilV v12x4) undef) ⟨fun v13x5 => @bnd (gif v10x3 true (aFieldAddr Tryz.prog H 68 v13x5 1) undef) ⟨fun v14x6 => @bnd (gif v10x3 true
  (aLoad Tryz.prog H 3 v14x6) undef) ⟨fun v15x7 => @bnd (gif v10x3 true ((some a0)) undef) ⟨fun v16x8 => @bnd (gif v10x3 true (nilV v16x8) undef) ⟨fun v17x9 => @bnd (gif v10x3 true (aFieldAddr Tryz.prog H 68 v17x9 0) undef) ⟨fun
  v18x10 => @bnd (gif v10x3 true (aLoad Tryz.prog H 61 v18x10) undef) ⟨fun v19x11 => @bnd (gif v10x3 true (aLen Tryz.prog H 61 v19x11) undef) ⟨fun v20x12 => @bnd (gif v10x3 true (aBin2 Tryz.prog H BinOp.lss 3 (Operand.tmp 15)
  (Operand.tmp 20) v15x7 v20x12) undef) ⟨fun v21x13 => @bnd (pickV v10x3 v21x13 (Value.bool false)) ⟨fun v22x14 => @bnd (gif v22x14 true ((some a0)) undef) ⟨fun v24x15 => @bnd (gif v22x14 true (nilV v24x15) undef) ⟨fun v25x16 =>
  @bnd (gif v22x14 true (aFieldAddr Tryz.prog H 68 v25x16 0) undef) ⟨fun v26x17 => @bnd (gif v22x14 true (aLoad Tryz.prog H 61 v26x17) undef) ⟨fun v27x18 => @bnd (gif v22x14 true ((some a0)) undef) ⟨fun v28x19 => @bnd (gif v22x14
  true (nilV v28x19) undef) ⟨fun v29x20 => @bnd (gif v22x14 true (aFieldAddr Tryz.prog H 68 v29x20 1) undef) ⟨fun v30x21 => @bnd (gif v22x14 true (aLoad Tryz.prog H 3 v30x21) undef) ⟨fun v31x22 => @bnd (gif v22x14 true
  (aIndexAddr Tryz.prog H 61 v27x18 v31x22) undef) ⟨fun v32x23 => @bnd (gif v22x14 true (aFieldAddr Tryz.prog H 101 v32x23 0) undef) ⟨fun v33x24 => @bnd (gif v22x14 true (aLoad Tryz.prog H 5 v33x24) undef) ⟨fun v34x25 => @bnd
  (gif v22x14 true ((some a1)) undef) ⟨fun v35x26 => @bnd (gif v22x14 true (aBin2 Tryz.prog H BinOp.eql 5 (Operand.tmp 34) (Operand.tmp 35) v34x25 v35x26) undef) ⟨fun v36x27 => @bnd (pickV v22x14 v36x27 (Value.bool false)) ⟨fun
  v37x28 => @bnd (gif v37x28 true ((some a0)) undef) ⟨fun v39x29 => @bnd (gif v37x28 true (nilV v39x29) undef) ⟨fun v40x30 => @bnd (gif v37x28 true (aFieldAddr Tryz.prog H 68 v40x30 0) undef) ⟨fun v41x31 => @bnd (gif v37x28 true
  (aLoad Tryz.prog H 61 v41x31) undef) ⟨fun v42x32 => @bnd (gif v37x28 true ((some a0)) undef) ⟨fun v43x33 => @bnd (gif v37x28 true (nilV v43x33) undef) ⟨fun v44x34 => @bnd (gif v37x28 true (aFieldAddr Tryz.prog H 68 v44x34 1)
  undef) ⟨fun v45x35 => @bnd (gif v37x28 true (aLoad Tryz.prog H 3 v45x35) undef) ⟨fun v46x36 => @bnd (gif v37x28 true (aIndexAddr Tryz.prog H 61 v42x32 v46x36) undef) ⟨fun v47x37 => @bnd (gif v37x28 true (aFieldAddr Tryz.prog H
  101 v47x37 1) undef) ⟨fun v48x38 => @bnd (gif v37x28 true (aLoad Tryz.prog H 9 v48x38) undef) ⟨fun v49x39 => @bnd (gif v37x28 true ((some a2)) undef) ⟨fun v50x40 => @bnd (gif v37x28 true (aBin2 Tryz.prog H BinOp.eql 9
  (Operand.tmp 49) (Operand.tmp 50) v49x39 v50x40) undef) ⟨fun v51x41 => @bnd (pickV v37x28 v51x41 (Value.bool false)) ⟨fun v52x42 => k v52x42 H⟩⟩⟩⟩⟩⟩⟩⟩⟩⟩⟩⟩⟩⟩⟩⟩⟩⟩⟩⟩⟩⟩⟩⟩⟩⟩⟩⟩⟩⟩⟩⟩⟩⟩⟩⟩⟩⟩⟩⟩⟩⟩) := by kernel_rfl
-- (*tocsin/expr.reader).one
theorem d72 (a0 a1 a2 : Value) (H : AHeap) (k : Value → AHeap → Prop) : kbody Tryz.prog Tryz.f72 [a0, a1, a2] H k = (@bndC Tryz.prog 107 [a2] H ⟨fun v11x1 H2 => @bndC Tryz.prog 108 [a0, a1] H2 ⟨fun v14x3 H4 => @bnd (aLookup
  Tryz.prog H4 92 v11x1 v14x3 true) ⟨fun v15x5 => @bnd (tupV v15x5 0) ⟨fun v16x6 => @bnd (tupV v15x5 1) ⟨fun v17x7 => @bnd (nilV a0) ⟨fun v20x8 => @bnd (aFieldAddr Tryz.prog H4 68 v20x8 2) ⟨fun v21x9 => @bnd (aLoad Tryz.prog H4 4
  v21x9) ⟨fun v22x10 => @bnd (gif v22x10 true ((some v17x7)) undef) ⟨fun v24x11 => @bnd (pickV v22x10 v24x11 (Value.bool false)) ⟨fun v25x12 => @bnd (nilV a0) ⟨fun v26x13 => @bnd (aFieldAddr Tryz.prog H4 68 v26x13 2) ⟨fun v27x14
  => @bndS (aStore Tryz.prog H4 4 v27x14 v25x12) ⟨fun _ H16 => @bnd (convV Tryz.prog H16 3 5 v16x6) ⟨fun v29x17 => k v29x17 H16⟩⟩⟩⟩⟩⟩⟩⟩⟩⟩⟩⟩⟩⟩) := by kernel_rfl

end Go.Vi
