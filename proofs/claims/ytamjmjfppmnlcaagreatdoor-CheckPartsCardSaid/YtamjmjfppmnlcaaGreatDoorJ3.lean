/- Facts of the types. Regions whose calls change what operations in no order with them do not look at. Long texts that the code has. What the functions' bodies come to. What the functions' bodies come to. What the functions' bodies come to. -/
import Derived.Test.YtamjmjfppmnlcaaGreatDoorJ2
import Derived.Test.YtamjmjfppmnlcaaGreatDoorChecked
namespace Go.Vi
open Go Go.Proofs
@[simp] theorem tg1 : tagg Tryz.prog 1 = some false := by kernel_rfl
@[simp] theorem ts1 : tsize Tryz.prog 1 = some 1 := by kernel_rfl
@[simp] theorem tal1 (H : AHeap) : aAlloc Tryz.prog H 1 = some (.pointer (some ⟨H.length, 0, some 1⟩), H ++ [.cells [.nilFunc] 1]) := by kernel_rfl
@[simp] theorem tu1 : Tryz.prog.underlying 1 = some (TypeDesc.func #[] #[] false) := by kernel_rfl
@[simp] theorem tg2 : tagg Tryz.prog 2 = some false := by kernel_rfl
@[simp] theorem ts2 : tsize Tryz.prog 2 = some 1 := by kernel_rfl
@[simp] theorem tal2 (H : AHeap) : aAlloc Tryz.prog H 2 = some (.pointer (some ⟨H.length, 0, some 1⟩), H ++ [.cells [.int IntKind.i64 0] 2]) := by kernel_rfl
@[simp] theorem tu2 : Tryz.prog.underlying 2 = some (TypeDesc.int IntKind.i64) := by kernel_rfl
@[simp] theorem tg3 : tagg Tryz.prog 3 = some false := by kernel_rfl
@[simp] theorem ts3 : tsize Tryz.prog 3 = some 1 := by kernel_rfl
@[simp] theorem tal3 (H : AHeap) : aAlloc Tryz.prog H 3 = some (.pointer (some ⟨H.length, 0, some 1⟩), H ++ [.cells [.int IntKind.i64 0] 3]) := by kernel_rfl
@[simp] theorem tu3 : Tryz.prog.underlying 3 = some (TypeDesc.int IntKind.i64) := by kernel_rfl
@[simp] theorem tg4 : tagg Tryz.prog 4 = some false := by kernel_rfl
@[simp] theorem ts4 : tsize Tryz.prog 4 = some 1 := by kernel_rfl
@[simp] theorem tal4 (H : AHeap) : aAlloc Tryz.prog H 4 = some (.pointer (some ⟨H.length, 0, some 1⟩), H ++ [.cells [.bool false] 4]) := by kernel_rfl
@[simp] theorem tu4 : Tryz.prog.underlying 4 = some TypeDesc.bool := by kernel_rfl
@[simp] theorem tg5 : tagg Tryz.prog 5 = some false := by kernel_rfl
@[simp] theorem ts5 : tsize Tryz.prog 5 = some 1 := by kernel_rfl
@[simp] theorem tal5 (H : AHeap) : aAlloc Tryz.prog H 5 = some (.pointer (some ⟨H.length, 0, some 1⟩), H ++ [.cells [.int IntKind.u8 0] 5]) := by kernel_rfl
@[simp] theorem tu5 : Tryz.prog.underlying 5 = some (TypeDesc.int IntKind.u8) := by kernel_rfl
@[simp] theorem tg6 : tagg Tryz.prog 6 = some false := by kernel_rfl
@[simp] theorem ts6 : tsize Tryz.prog 6 = some 1 := by kernel_rfl
@[simp] theorem tal6 (H : AHeap) : aAlloc Tryz.prog H 6 = some (.pointer (some ⟨H.length, 0, some 1⟩), H ++ [.cells [.int IntKind.u8 0] 6]) := by kernel_rfl
@[simp] theorem tu6 : Tryz.prog.underlying 6 = some (TypeDesc.int IntKind.u8) := by kernel_rfl
@[simp] theorem tg7 : tagg Tryz.prog 7 = some true := by kernel_rfl
@[simp] theorem ts7 : tsize Tryz.prog 7 = some 4 := by kernel_rfl
@[simp] theorem tf7x0 : afield Tryz.prog 7 0 = some (0, 2) := by kernel_rfl
@[simp] theorem tf7x1 : afield Tryz.prog 7 1 = some (1, 3) := by kernel_rfl
@[simp] theorem tf7x2 : afield Tryz.prog 7 2 = some (2, 4) := by kernel_rfl
@[simp] theorem tf7x3 : afield Tryz.prog 7 3 = some (3, 6) := by kernel_rfl
@[simp] theorem tal7 (H : AHeap) : aAlloc Tryz.prog H 7 = some (.pointer (some ⟨H.length, 0, some 4⟩), H ++ [.cells [.int IntKind.i64 0, .int IntKind.i64 0, .bool false, .int IntKind.u8 0] 7]) := by kernel_rfl
@[simp] theorem tbv7 (l : List (Nat × Value)) : buildV Tryz.prog 7 l = bldV #[.int IntKind.i64 0, .int IntKind.i64 0, .bool false, .int IntKind.u8 0] [(0, 1), (1, 1), (2, 1), (3, 1)] l := by kernel_rfl
@[simp] theorem tg8 : tagg Tryz.prog 8 = some true := by kernel_rfl
@[simp] theorem ts8 : tsize Tryz.prog 8 = some 4 := by kernel_rfl
@[simp] theorem tf8x0 : afield Tryz.prog 8 0 = some (0, 2) := by kernel_rfl
@[simp] theorem tf8x1 : afield Tryz.prog 8 1 = some (1, 3) := by kernel_rfl
@[simp] theorem tf8x2 : afield Tryz.prog 8 2 = some (2, 4) := by kernel_rfl
@[simp] theorem tf8x3 : afield Tryz.prog 8 3 = some (3, 6) := by kernel_rfl
@[simp] theorem tal8 (H : AHeap) : aAlloc Tryz.prog H 8 = some (.pointer (some ⟨H.length, 0, some 4⟩), H ++ [.cells [.int IntKind.i64 0, .int IntKind.i64 0, .bool false, .int IntKind.u8 0] 8]) := by kernel_rfl
@[simp] theorem tbv8 (l : List (Nat × Value)) : buildV Tryz.prog 8 l = bldV #[.int IntKind.i64 0, .int IntKind.i64 0, .bool false, .int IntKind.u8 0] [(0, 1), (1, 1), (2, 1), (3, 1)] l := by kernel_rfl
@[simp] theorem tg9 : tagg Tryz.prog 9 = some false := by kernel_rfl
@[simp] theorem ts9 : tsize Tryz.prog 9 = some 1 := by kernel_rfl
@[simp] theorem tal9 (H : AHeap) : aAlloc Tryz.prog H 9 = some (.pointer (some ⟨H.length, 0, some 1⟩), H ++ [.cells [.string ⟨#[]⟩] 9]) := by kernel_rfl
@[simp] theorem tu9 : Tryz.prog.underlying 9 = some TypeDesc.string := by kernel_rfl
@[simp] theorem tg10 : tagg Tryz.prog 10 = some false := by kernel_rfl
@[simp] theorem ts10 : tsize Tryz.prog 10 = some 1 := by kernel_rfl
@[simp] theorem tal10 (H : AHeap) : aAlloc Tryz.prog H 10 = some (.pointer (some ⟨H.length, 0, some 1⟩), H ++ [.cells [.string ⟨#[]⟩] 10]) := by kernel_rfl
@[simp] theorem tu10 : Tryz.prog.underlying 10 = some TypeDesc.string := by kernel_rfl
@[simp] theorem tg11 : tagg Tryz.prog 11 = some false := by kernel_rfl
@[simp] theorem ts11 : tsize Tryz.prog 11 = some 1 := by kernel_rfl
@[simp] theorem tal11 (H : AHeap) : aAlloc Tryz.prog H 11 = some (.pointer (some ⟨H.length, 0, some 1⟩), H ++ [.cells [.string ⟨#[]⟩] 11]) := by kernel_rfl
@[simp] theorem tu11 : Tryz.prog.underlying 11 = some TypeDesc.string := by kernel_rfl
@[simp] theorem tg12 : tagg Tryz.prog 12 = some false := by kernel_rfl
@[simp] theorem ts12 : tsize Tryz.prog 12 = some 1 := by kernel_rfl
@[simp] theorem tal12 (H : AHeap) : aAlloc Tryz.prog H 12 = some (.pointer (some ⟨H.length, 0, some 1⟩), H ++ [.cells [.int IntKind.u64 0] 12]) := by kernel_rfl
@[simp] theorem tu12 : Tryz.prog.underlying 12 = some (TypeDesc.int IntKind.u64) := by kernel_rfl
@[simp] theorem tg13 : tagg Tryz.prog 13 = some true := by kernel_rfl
@[simp] theorem ts13 : tsize Tryz.prog 13 = some 2 := by kernel_rfl
@[simp] theorem tf13x0 : afield Tryz.prog 13 0 = some (0, 9) := by kernel_rfl
@[simp] theorem tf13x1 : afield Tryz.prog 13 1 = some (1, 12) := by kernel_rfl
@[simp] theorem tal13 (H : AHeap) : aAlloc Tryz.prog H 13 = some (.pointer (some ⟨H.length, 0, some 2⟩), H ++ [.cells [.string ⟨#[]⟩, .int IntKind.u64 0] 13]) := by kernel_rfl
@[simp] theorem tbv13 (l : List (Nat × Value)) : buildV Tryz.prog 13 l = bldV #[.string ⟨#[]⟩, .int IntKind.u64 0] [(0, 1), (1, 1)] l := by kernel_rfl
@[simp] theorem tg14 : tagg Tryz.prog 14 = some true := by kernel_rfl
@[simp] theorem ts14 : tsize Tryz.prog 14 = some 2 := by kernel_rfl
@[simp] theorem tf14x0 : afield Tryz.prog 14 0 = some (0, 9) := by kernel_rfl
@[simp] theorem tf14x1 : afield Tryz.prog 14 1 = some (1, 12) := by kernel_rfl
@[simp] theorem tal14 (H : AHeap) : aAlloc Tryz.prog H 14 = some (.pointer (some ⟨H.length, 0, some 2⟩), H ++ [.cells [.string ⟨#[]⟩, .int IntKind.u64 0] 14]) := by kernel_rfl
@[simp] theorem tbv14 (l : List (Nat × Value)) : buildV Tryz.prog 14 l = bldV #[.string ⟨#[]⟩, .int IntKind.u64 0] [(0, 1), (1, 1)] l := by kernel_rfl
@[simp] theorem tg15 : tagg Tryz.prog 15 = some false := by kernel_rfl
@[simp] theorem ts15 : tsize Tryz.prog 15 = some 1 := by kernel_rfl
@[simp] theorem tal15 (H : AHeap) : aAlloc Tryz.prog H 15 = some (.pointer (some ⟨H.length, 0, some 1⟩), H ++ [.cells [.pointer none] 15]) := by kernel_rfl
@[simp] theorem tu15 : Tryz.prog.underlying 15 = some (TypeDesc.pointer 224) := by kernel_rfl
@[simp] theorem tg16 : tagg Tryz.prog 16 = some false := by kernel_rfl
@[simp] theorem ts16 : tsize Tryz.prog 16 = some 1 := by kernel_rfl
@[simp] theorem tal16 (H : AHeap) : aAlloc Tryz.prog H 16 = some (.pointer (some ⟨H.length, 0, some 1⟩), H ++ [.cells [.pointer none] 16]) := by kernel_rfl
@[simp] theorem tu16 : Tryz.prog.underlying 16 = some (TypeDesc.pointer 227) := by kernel_rfl
@[simp] theorem tg17 : tagg Tryz.prog 17 = some false := by kernel_rfl
@[simp] theorem ts17 : tsize Tryz.prog 17 = some 1 := by kernel_rfl
@[simp] theorem tal17 (H : AHeap) : aAlloc Tryz.prog H 17 = some (.pointer (some ⟨H.length, 0, some 1⟩), H ++ [.cells [.pointer none] 17]) := by kernel_rfl
@[simp] theorem tu17 : Tryz.prog.underlying 17 = some (TypeDesc.pointer 234) := by kernel_rfl
@[simp] theorem tg18 : tagg Tryz.prog 18 = some true := by kernel_rfl
@[simp] theorem ts18 : tsize Tryz.prog 18 = some 1 := by kernel_rfl
@[simp] theorem tf18x0 : afield Tryz.prog 18 0 = some (0, 17) := by kernel_rfl
@[simp] theorem tal18 (H : AHeap) : aAlloc Tryz.prog H 18 = some (.pointer (some ⟨H.length, 0, some 1⟩), H ++ [.cells [.pointer none] 18]) := by kernel_rfl
@[simp] theorem tbv18 (l : List (Nat × Value)) : buildV Tryz.prog 18 l = bldV #[.pointer none] [(0, 1)] l := by kernel_rfl
@[simp] theorem tg19 : tagg Tryz.prog 19 = some true := by kernel_rfl
@[simp] theorem ts19 : tsize Tryz.prog 19 = some 1 := by kernel_rfl
@[simp] theorem tf19x0 : afield Tryz.prog 19 0 = some (0, 17) := by kernel_rfl
@[simp] theorem tal19 (H : AHeap) : aAlloc Tryz.prog H 19 = some (.pointer (some ⟨H.length, 0, some 1⟩), H ++ [.cells [.pointer none] 19]) := by kernel_rfl
@[simp] theorem tbv19 (l : List (Nat × Value)) : buildV Tryz.prog 19 l = bldV #[.pointer none] [(0, 1)] l := by kernel_rfl
@[simp] theorem tg20 : tagg Tryz.prog 20 = some false := by kernel_rfl
@[simp] theorem ts20 : tsize Tryz.prog 20 = some 1 := by kernel_rfl
@[simp] theorem tal20 (H : AHeap) : aAlloc Tryz.prog H 20 = some (.pointer (some ⟨H.length, 0, some 1⟩), H ++ [.cells [.nilIface] 20]) := by kernel_rfl
@[simp] theorem tu20 : Tryz.prog.underlying 20 = some (TypeDesc.interface #[]) := by kernel_rfl
@[simp] theorem tg21 : tagg Tryz.prog 21 = some false := by kernel_rfl
@[simp] theorem ts21 : tsize Tryz.prog 21 = some 1 := by kernel_rfl
@[simp] theorem tal21 (H : AHeap) : aAlloc Tryz.prog H 21 = some (.pointer (some ⟨H.length, 0, some 1⟩), H ++ [.cells [.int IntKind.i32 0] 21]) := by kernel_rfl
@[simp] theorem tu21 : Tryz.prog.underlying 21 = some (TypeDesc.int IntKind.i32) := by kernel_rfl
@[simp] theorem tg22 : tagg Tryz.prog 22 = some false := by kernel_rfl
@[simp] theorem ts22 : tsize Tryz.prog 22 = some 1 := by kernel_rfl
@[simp] theorem tal22 (H : AHeap) : aAlloc Tryz.prog H 22 = some (.pointer (some ⟨H.length, 0, some 1⟩), H ++ [.cells [.slice none 0 0] 22]) := by kernel_rfl
@[simp] theorem tbs22 (H : AHeap) (n : Nat) (l : List (Nat × Value)) : aBuildSlice Tryz.prog H 22 n l = bslV 34 #[.string ⟨#[]⟩, .string ⟨#[]⟩, .slice none 0 0, .int IntKind.i64 0, .int IntKind.i64 0, .int IntKind.i64 0, .slice none 0 0, .string ⟨#[]⟩] H n l := by kernel_rfl
@[simp] theorem tel22 : aElem Tryz.prog 22 = some (34, 8, 120) := by kernel_rfl
@[simp] theorem tu22 : Tryz.prog.underlying 22 = some (TypeDesc.slice 34) := by kernel_rfl
@[simp] theorem tg23 : tagg Tryz.prog 23 = some false := by kernel_rfl
@[simp] theorem ts23 : tsize Tryz.prog 23 = some 1 := by kernel_rfl
@[simp] theorem tal23 (H : AHeap) : aAlloc Tryz.prog H 23 = some (.pointer (some ⟨H.length, 0, some 1⟩), H ++ [.cells [.slice none 0 0] 23]) := by kernel_rfl
@[simp] theorem tbs23 (H : AHeap) (n : Nat) (l : List (Nat × Value)) : aBuildSlice Tryz.prog H 23 n l = bslV 38 #[.string ⟨#[]⟩, .bool false, .bool false, .bool false, .bool false, .bool false, .bool false, .bool false, .int IntKind.i64 0, .int IntKind.i64 0] H n l := by kernel_rfl
@[simp] theorem tel23 : aElem Tryz.prog 23 = some (38, 10, 40) := by kernel_rfl
@[simp] theorem tu23 : Tryz.prog.underlying 23 = some (TypeDesc.slice 38) := by kernel_rfl
@[simp] theorem tg24 : tagg Tryz.prog 24 = some true := by kernel_rfl
@[simp] theorem ts24 : tsize Tryz.prog 24 = some 4 := by kernel_rfl
@[simp] theorem tf24x0 : afield Tryz.prog 24 0 = some (0, 22) := by kernel_rfl
@[simp] theorem tf24x1 : afield Tryz.prog 24 1 = some (1, 23) := by kernel_rfl
@[simp] theorem tf24x2 : afield Tryz.prog 24 2 = some (2, 3) := by kernel_rfl
@[simp] theorem tf24x3 : afield Tryz.prog 24 3 = some (3, 3) := by kernel_rfl
@[simp] theorem tal24 (H : AHeap) : aAlloc Tryz.prog H 24 = some (.pointer (some ⟨H.length, 0, some 4⟩), H ++ [.cells [.slice none 0 0, .slice none 0 0, .int IntKind.i64 0, .int IntKind.i64 0] 24]) := by kernel_rfl
@[simp] theorem tbv24 (l : List (Nat × Value)) : buildV Tryz.prog 24 l = bldV #[.slice none 0 0, .slice none 0 0, .int IntKind.i64 0, .int IntKind.i64 0] [(0, 1), (1, 1), (2, 1), (3, 1)] l := by kernel_rfl
@[simp] theorem tg25 : tagg Tryz.prog 25 = some true := by kernel_rfl
@[simp] theorem ts25 : tsize Tryz.prog 25 = some 4 := by kernel_rfl
@[simp] theorem tf25x0 : afield Tryz.prog 25 0 = some (0, 22) := by kernel_rfl
@[simp] theorem tf25x1 : afield Tryz.prog 25 1 = some (1, 23) := by kernel_rfl
@[simp] theorem tf25x2 : afield Tryz.prog 25 2 = some (2, 3) := by kernel_rfl
@[simp] theorem tf25x3 : afield Tryz.prog 25 3 = some (3, 3) := by kernel_rfl
@[simp] theorem tal25 (H : AHeap) : aAlloc Tryz.prog H 25 = some (.pointer (some ⟨H.length, 0, some 4⟩), H ++ [.cells [.slice none 0 0, .slice none 0 0, .int IntKind.i64 0, .int IntKind.i64 0] 25]) := by kernel_rfl
@[simp] theorem tbv25 (l : List (Nat × Value)) : buildV Tryz.prog 25 l = bldV #[.slice none 0 0, .slice none 0 0, .int IntKind.i64 0, .int IntKind.i64 0] [(0, 1), (1, 1), (2, 1), (3, 1)] l := by kernel_rfl
@[simp] theorem tg26 : tagg Tryz.prog 26 = some false := by kernel_rfl
@[simp] theorem ts26 : tsize Tryz.prog 26 = some 1 := by kernel_rfl
@[simp] theorem tal26 (H : AHeap) : aAlloc Tryz.prog H 26 = some (.pointer (some ⟨H.length, 0, some 1⟩), H ++ [.cells [.nilFunc] 26]) := by kernel_rfl
@[simp] theorem tu26 : Tryz.prog.underlying 26 = some (TypeDesc.func #[] #[4] false) := by kernel_rfl
@[simp] theorem tg27 : tagg Tryz.prog 27 = some false := by kernel_rfl
@[simp] theorem ts27 : tsize Tryz.prog 27 = some 1 := by kernel_rfl
@[simp] theorem tal27 (H : AHeap) : aAlloc Tryz.prog H 27 = some (.pointer (some ⟨H.length, 0, some 1⟩), H ++ [.cells [.nilFunc] 27]) := by kernel_rfl
@[simp] theorem tu27 : Tryz.prog.underlying 27 = some (TypeDesc.func #[25] #[4] false) := by kernel_rfl
@[simp] theorem tg28 : tagg Tryz.prog 28 = some false := by kernel_rfl
@[simp] theorem ts28 : tsize Tryz.prog 28 = some 1 := by kernel_rfl
@[simp] theorem tal28 (H : AHeap) : aAlloc Tryz.prog H 28 = some (.pointer (some ⟨H.length, 0, some 1⟩), H ++ [.cells [.int IntKind.i64 0] 28]) := by kernel_rfl
@[simp] theorem tu28 : Tryz.prog.underlying 28 = some (TypeDesc.int IntKind.i64) := by kernel_rfl
@[simp] theorem tg29 : tagg Tryz.prog 29 = some false := by kernel_rfl
@[simp] theorem ts29 : tsize Tryz.prog 29 = some 1 := by kernel_rfl
@[simp] theorem tal29 (H : AHeap) : aAlloc Tryz.prog H 29 = some (.pointer (some ⟨H.length, 0, some 1⟩), H ++ [.cells [.nilFunc] 29]) := by kernel_rfl
@[simp] theorem tu29 : Tryz.prog.underlying 29 = some (TypeDesc.func #[25] #[28] false) := by kernel_rfl
@[simp] theorem tg30 : tagg Tryz.prog 30 = some false := by kernel_rfl
@[simp] theorem ts30 : tsize Tryz.prog 30 = some 1 := by kernel_rfl
@[simp] theorem tal30 (H : AHeap) : aAlloc Tryz.prog H 30 = some (.pointer (some ⟨H.length, 0, some 1⟩), H ++ [.cells [.nilFunc] 30]) := by kernel_rfl
@[simp] theorem tu30 : Tryz.prog.underlying 30 = some (TypeDesc.func #[34] #[28] false) := by kernel_rfl
@[simp] theorem tg31 : tagg Tryz.prog 31 = some false := by kernel_rfl
@[simp] theorem ts31 : tsize Tryz.prog 31 = some 1 := by kernel_rfl
@[simp] theorem tal31 (H : AHeap) : aAlloc Tryz.prog H 31 = some (.pointer (some ⟨H.length, 0, some 1⟩), H ++ [.cells [.slice none 0 0] 31]) := by kernel_rfl
@[simp] theorem tbs31 (H : AHeap) (n : Nat) (l : List (Nat × Value)) : aBuildSlice Tryz.prog H 31 n l = bslV 75 #[.int IntKind.u8 0, .int IntKind.u8 0, .slice none 0 0, .int IntKind.i64 0, .int IntKind.u8 0, .int IntKind.i64 0, .int IntKind.i64 0, .int IntKind.i64 0] H n l := by kernel_rfl
@[simp] theorem tel31 : aElem Tryz.prog 31 = some (75, 8, 72) := by kernel_rfl
@[simp] theorem tu31 : Tryz.prog.underlying 31 = some (TypeDesc.slice 75) := by kernel_rfl
@[simp] theorem tg32 : tagg Tryz.prog 32 = some false := by kernel_rfl
@[simp] theorem ts32 : tsize Tryz.prog 32 = some 1 := by kernel_rfl
@[simp] theorem tal32 (H : AHeap) : aAlloc Tryz.prog H 32 = some (.pointer (some ⟨H.length, 0, some 1⟩), H ++ [.cells [.slice none 0 0] 32]) := by kernel_rfl
@[simp] theorem tbs32 (H : AHeap) (n : Nat) (l : List (Nat × Value)) : aBuildSlice Tryz.prog H 32 n l = bslV 9 #[.string ⟨#[]⟩] H n l := by kernel_rfl
@[simp] theorem tel32 : aElem Tryz.prog 32 = some (9, 1, 16) := by kernel_rfl
@[simp] theorem tu32 : Tryz.prog.underlying 32 = some (TypeDesc.slice 9) := by kernel_rfl
@[simp] theorem tg33 : tagg Tryz.prog 33 = some true := by kernel_rfl
@[simp] theorem ts33 : tsize Tryz.prog 33 = some 8 := by kernel_rfl
@[simp] theorem tf33x0 : afield Tryz.prog 33 0 = some (0, 9) := by kernel_rfl
@[simp] theorem tf33x1 : afield Tryz.prog 33 1 = some (1, 9) := by kernel_rfl
@[simp] theorem tf33x2 : afield Tryz.prog 33 2 = some (2, 31) := by kernel_rfl
@[simp] theorem tf33x3 : afield Tryz.prog 33 3 = some (3, 3) := by kernel_rfl
@[simp] theorem tf33x4 : afield Tryz.prog 33 4 = some (4, 3) := by kernel_rfl
@[simp] theorem tf33x5 : afield Tryz.prog 33 5 = some (5, 3) := by kernel_rfl
@[simp] theorem tf33x6 : afield Tryz.prog 33 6 = some (6, 32) := by kernel_rfl
@[simp] theorem tf33x7 : afield Tryz.prog 33 7 = some (7, 9) := by kernel_rfl
@[simp] theorem tal33 (H : AHeap) : aAlloc Tryz.prog H 33 = some (.pointer (some ⟨H.length, 0, some 8⟩), H ++ [.cells [.string ⟨#[]⟩, .string ⟨#[]⟩, .slice none 0 0, .int IntKind.i64 0, .int IntKind.i64 0, .int IntKind.i64 0, .slice none 0 0, .string ⟨#[]⟩] 33]) := by kernel_rfl
@[simp] theorem tbv33 (l : List (Nat × Value)) : buildV Tryz.prog 33 l = bldV #[.string ⟨#[]⟩, .string ⟨#[]⟩, .slice none 0 0, .int IntKind.i64 0, .int IntKind.i64 0, .int IntKind.i64 0, .slice none 0 0, .string ⟨#[]⟩] [(0, 1), (1, 1), (2, 1), (3, 1), (4, 1), (5, 1), (6, 1), (7, 1)] l := by kernel_rfl
@[simp] theorem tg34 : tagg Tryz.prog 34 = some true := by kernel_rfl
@[simp] theorem ts34 : tsize Tryz.prog 34 = some 8 := by kernel_rfl
@[simp] theorem tf34x0 : afield Tryz.prog 34 0 = some (0, 9) := by kernel_rfl
@[simp] theorem tf34x1 : afield Tryz.prog 34 1 = some (1, 9) := by kernel_rfl
@[simp] theorem tf34x2 : afield Tryz.prog 34 2 = some (2, 31) := by kernel_rfl
@[simp] theorem tf34x3 : afield Tryz.prog 34 3 = some (3, 3) := by kernel_rfl
@[simp] theorem tf34x4 : afield Tryz.prog 34 4 = some (4, 3) := by kernel_rfl
@[simp] theorem tf34x5 : afield Tryz.prog 34 5 = some (5, 3) := by kernel_rfl
@[simp] theorem tf34x6 : afield Tryz.prog 34 6 = some (6, 32) := by kernel_rfl
@[simp] theorem tf34x7 : afield Tryz.prog 34 7 = some (7, 9) := by kernel_rfl
@[simp] theorem tal34 (H : AHeap) : aAlloc Tryz.prog H 34 = some (.pointer (some ⟨H.length, 0, some 8⟩), H ++ [.cells [.string ⟨#[]⟩, .string ⟨#[]⟩, .slice none 0 0, .int IntKind.i64 0, .int IntKind.i64 0, .int IntKind.i64 0, .slice none 0 0, .string ⟨#[]⟩] 34]) := by kernel_rfl
@[simp] theorem tbv34 (l : List (Nat × Value)) : buildV Tryz.prog 34 l = bldV #[.string ⟨#[]⟩, .string ⟨#[]⟩, .slice none 0 0, .int IntKind.i64 0, .int IntKind.i64 0, .int IntKind.i64 0, .slice none 0 0, .string ⟨#[]⟩] [(0, 1), (1, 1), (2, 1), (3, 1), (4, 1), (5, 1), (6, 1), (7, 1)] l := by kernel_rfl
@[simp] theorem tg35 : tagg Tryz.prog 35 = some false := by kernel_rfl
@[simp] theorem ts35 : tsize Tryz.prog 35 = some 1 := by kernel_rfl
@[simp] theorem tal35 (H : AHeap) : aAlloc Tryz.prog H 35 = some (.pointer (some ⟨H.length, 0, some 1⟩), H ++ [.cells [.nilFunc] 35]) := by kernel_rfl
@[simp] theorem tu35 : Tryz.prog.underlying 35 = some (TypeDesc.func #[38] #[28] false) := by kernel_rfl
@[simp] theorem tg36 : tagg Tryz.prog 36 = some true := by kernel_rfl
@[simp] theorem ts36 : tsize Tryz.prog 36 = some 7 := by kernel_rfl
@[simp] theorem tal36 (H : AHeap) : aAlloc Tryz.prog H 36 = some (.pointer (some ⟨H.length, 0, some 7⟩), H ++ [.cells [.bool false, .bool false, .bool false, .bool false, .bool false, .bool false, .bool false] 36]) := by kernel_rfl
@[simp] theorem tu36 : Tryz.prog.underlying 36 = some (TypeDesc.array 7 4) := by kernel_rfl
@[simp] theorem tg37 : tagg Tryz.prog 37 = some true := by kernel_rfl
@[simp] theorem ts37 : tsize Tryz.prog 37 = some 10 := by kernel_rfl
@[simp] theorem tf37x0 : afield Tryz.prog 37 0 = some (0, 9) := by kernel_rfl
@[simp] theorem tf37x1 : afield Tryz.prog 37 1 = some (1, 36) := by kernel_rfl
@[simp] theorem tf37x2 : afield Tryz.prog 37 2 = some (8, 3) := by kernel_rfl
@[simp] theorem tf37x3 : afield Tryz.prog 37 3 = some (9, 3) := by kernel_rfl
@[simp] theorem tal37 (H : AHeap) : aAlloc Tryz.prog H 37 = some (.pointer (some ⟨H.length, 0, some 10⟩), H ++ [.cells [.string ⟨#[]⟩, .bool false, .bool false, .bool false, .bool false, .bool false, .bool false, .bool false, .int IntKind.i64 0, .int IntKind.i64 0] 37]) := by kernel_rfl
@[simp] theorem tbv37 (l : List (Nat × Value)) : buildV Tryz.prog 37 l = bldV #[.string ⟨#[]⟩, .bool false, .bool false, .bool false, .bool false, .bool false, .bool false, .bool false, .int IntKind.i64 0, .int IntKind.i64 0] [(0, 1), (1, 7), (8, 1), (9, 1)] l := by kernel_rfl
@[simp] theorem tg38 : tagg Tryz.prog 38 = some true := by kernel_rfl
@[simp] theorem ts38 : tsize Tryz.prog 38 = some 10 := by kernel_rfl
@[simp] theorem tf38x0 : afield Tryz.prog 38 0 = some (0, 9) := by kernel_rfl
@[simp] theorem tf38x1 : afield Tryz.prog 38 1 = some (1, 36) := by kernel_rfl
@[simp] theorem tf38x2 : afield Tryz.prog 38 2 = some (8, 3) := by kernel_rfl
@[simp] theorem tf38x3 : afield Tryz.prog 38 3 = some (9, 3) := by kernel_rfl
@[simp] theorem tal38 (H : AHeap) : aAlloc Tryz.prog H 38 = some (.pointer (some ⟨H.length, 0, some 10⟩), H ++ [.cells [.string ⟨#[]⟩, .bool false, .bool false, .bool false, .bool false, .bool false, .bool false, .bool false, .int IntKind.i64 0, .int IntKind.i64 0] 38]) := by kernel_rfl
@[simp] theorem tbv38 (l : List (Nat × Value)) : buildV Tryz.prog 38 l = bldV #[.string ⟨#[]⟩, .bool false, .bool false, .bool false, .bool false, .bool false, .bool false, .bool false, .int IntKind.i64 0, .int IntKind.i64 0] [(0, 1), (1, 7), (8, 1), (9, 1)] l := by kernel_rfl
@[simp] theorem tg39 : tagg Tryz.prog 39 = some false := by kernel_rfl
@[simp] theorem ts39 : tsize Tryz.prog 39 = some 1 := by kernel_rfl
@[simp] theorem tal39 (H : AHeap) : aAlloc Tryz.prog H 39 = some (.pointer (some ⟨H.length, 0, some 1⟩), H ++ [.cells [.nilFunc] 39]) := by kernel_rfl
@[simp] theorem tu39 : Tryz.prog.underlying 39 = some (TypeDesc.func #[25, 3] #[4] false) := by kernel_rfl
@[simp] theorem tg40 : tagg Tryz.prog 40 = some false := by kernel_rfl
@[simp] theorem ts40 : tsize Tryz.prog 40 = some 1 := by kernel_rfl
@[simp] theorem tal40 (H : AHeap) : aAlloc Tryz.prog H 40 = some (.pointer (some ⟨H.length, 0, some 1⟩), H ++ [.cells [.nilFunc] 40]) := by kernel_rfl
@[simp] theorem tu40 : Tryz.prog.underlying 40 = some (TypeDesc.func #[25] #[25] false) := by kernel_rfl
@[simp] theorem tg41 : tagg Tryz.prog 41 = some false := by kernel_rfl
@[simp] theorem ts41 : tsize Tryz.prog 41 = some 1 := by kernel_rfl
@[simp] theorem tal41 (H : AHeap) : aAlloc Tryz.prog H 41 = some (.pointer (some ⟨H.length, 0, some 1⟩), H ++ [.cells [.nilFunc] 41]) := by kernel_rfl
@[simp] theorem tu41 : Tryz.prog.underlying 41 = some (TypeDesc.func #[31] #[3] false) := by kernel_rfl
@[simp] theorem tg42 : tagg Tryz.prog 42 = some false := by kernel_rfl
@[simp] theorem ts42 : tsize Tryz.prog 42 = some 1 := by kernel_rfl
@[simp] theorem tal42 (H : AHeap) : aAlloc Tryz.prog H 42 = some (.pointer (some ⟨H.length, 0, some 1⟩), H ++ [.cells [.int IntKind.u32 0] 42]) := by kernel_rfl
@[simp] theorem tu42 : Tryz.prog.underlying 42 = some (TypeDesc.int IntKind.u32) := by kernel_rfl
@[simp] theorem tg43 : tagg Tryz.prog 43 = some false := by kernel_rfl
@[simp] theorem ts43 : tsize Tryz.prog 43 = some 1 := by kernel_rfl
@[simp] theorem tal43 (H : AHeap) : aAlloc Tryz.prog H 43 = some (.pointer (some ⟨H.length, 0, some 1⟩), H ++ [.cells [.nilFunc] 43]) := by kernel_rfl
@[simp] theorem tu43 : Tryz.prog.underlying 43 = some (TypeDesc.func #[34] #[42] false) := by kernel_rfl
@[simp] theorem tg44 : tagg Tryz.prog 44 = some false := by kernel_rfl
@[simp] theorem ts44 : tsize Tryz.prog 44 = some 1 := by kernel_rfl
@[simp] theorem tal44 (H : AHeap) : aAlloc Tryz.prog H 44 = some (.pointer (some ⟨H.length, 0, some 1⟩), H ++ [.cells [.nilFunc] 44]) := by kernel_rfl
@[simp] theorem tu44 : Tryz.prog.underlying 44 = some (TypeDesc.func #[22] #[4] true) := by kernel_rfl
@[simp] theorem tg45 : tagg Tryz.prog 45 = some false := by kernel_rfl
@[simp] theorem ts45 : tsize Tryz.prog 45 = some 1 := by kernel_rfl
@[simp] theorem tal45 (H : AHeap) : aAlloc Tryz.prog H 45 = some (.pointer (some ⟨H.length, 0, some 1⟩), H ++ [.cells [.nilFunc] 45]) := by kernel_rfl
@[simp] theorem tu45 : Tryz.prog.underlying 45 = some (TypeDesc.func #[34, 34] #[4] false) := by kernel_rfl
@[simp] theorem tg46 : tagg Tryz.prog 46 = some false := by kernel_rfl
@[simp] theorem ts46 : tsize Tryz.prog 46 = some 1 := by kernel_rfl
@[simp] theorem tal46 (H : AHeap) : aAlloc Tryz.prog H 46 = some (.pointer (some ⟨H.length, 0, some 1⟩), H ++ [.cells [.nilFunc] 46]) := by kernel_rfl
@[simp] theorem tu46 : Tryz.prog.underlying 46 = some (TypeDesc.func #[22] #[4] false) := by kernel_rfl
@[simp] theorem tg47 : tagg Tryz.prog 47 = some false := by kernel_rfl
@[simp] theorem ts47 : tsize Tryz.prog 47 = some 1 := by kernel_rfl
@[simp] theorem tal47 (H : AHeap) : aAlloc Tryz.prog H 47 = some (.pointer (some ⟨H.length, 0, some 1⟩), H ++ [.cells [.slice none 0 0] 47]) := by kernel_rfl
@[simp] theorem tbs47 (H : AHeap) (n : Nat) (l : List (Nat × Value)) : aBuildSlice Tryz.prog H 47 n l = bslV 5 #[.int IntKind.u8 0] H n l := by kernel_rfl
@[simp] theorem tel47 : aElem Tryz.prog 47 = some (5, 1, 1) := by kernel_rfl
@[simp] theorem tu47 : Tryz.prog.underlying 47 = some (TypeDesc.slice 5) := by kernel_rfl
@[simp] theorem tg48 : tagg Tryz.prog 48 = some false := by kernel_rfl
@[simp] theorem ts48 : tsize Tryz.prog 48 = some 1 := by kernel_rfl
@[simp] theorem tal48 (H : AHeap) : aAlloc Tryz.prog H 48 = some (.pointer (some ⟨H.length, 0, some 1⟩), H ++ [.cells [.nilFunc] 48]) := by kernel_rfl
@[simp] theorem tu48 : Tryz.prog.underlying 48 = some (TypeDesc.func #[31] #[9] false) := by kernel_rfl
@[simp] theorem tg49 : tagg Tryz.prog 49 = some false := by kernel_rfl
@[simp] theorem ts49 : tsize Tryz.prog 49 = some 1 := by kernel_rfl
@[simp] theorem tal49 (H : AHeap) : aAlloc Tryz.prog H 49 = some (.pointer (some ⟨H.length, 0, some 1⟩), H ++ [.cells [.nilFunc] 49]) := by kernel_rfl
@[simp] theorem tu49 : Tryz.prog.underlying 49 = some (TypeDesc.func #[47] #[42] false) := by kernel_rfl
@[simp] theorem tg50 : tagg Tryz.prog 50 = some false := by kernel_rfl
@[simp] theorem ts50 : tsize Tryz.prog 50 = some 1 := by kernel_rfl
@[simp] theorem tal50 (H : AHeap) : aAlloc Tryz.prog H 50 = some (.pointer (some ⟨H.length, 0, some 1⟩), H ++ [.cells [.nilFunc] 50]) := by kernel_rfl
@[simp] theorem tu50 : Tryz.prog.underlying 50 = some (TypeDesc.func #[34, 5, 5] #[4] false) := by kernel_rfl
@[simp] theorem tg51 : tagg Tryz.prog 51 = some false := by kernel_rfl
@[simp] theorem ts51 : tsize Tryz.prog 51 = some 1 := by kernel_rfl
@[simp] theorem tal51 (H : AHeap) : aAlloc Tryz.prog H 51 = some (.pointer (some ⟨H.length, 0, some 1⟩), H ++ [.cells [.slice none 0 0] 51]) := by kernel_rfl
@[simp] theorem tbs51 (H : AHeap) (n : Nat) (l : List (Nat × Value)) : aBuildSlice Tryz.prog H 51 n l = bslV 42 #[.int IntKind.u32 0] H n l := by kernel_rfl
@[simp] theorem tel51 : aElem Tryz.prog 51 = some (42, 1, 4) := by kernel_rfl
@[simp] theorem tu51 : Tryz.prog.underlying 51 = some (TypeDesc.slice 42) := by kernel_rfl
@[simp] theorem tg52 : tagg Tryz.prog 52 = some false := by kernel_rfl
@[simp] theorem ts52 : tsize Tryz.prog 52 = some 1 := by kernel_rfl
@[simp] theorem tal52 (H : AHeap) : aAlloc Tryz.prog H 52 = some (.pointer (some ⟨H.length, 0, some 1⟩), H ++ [.cells [.nilFunc] 52]) := by kernel_rfl
@[simp] theorem tu52 : Tryz.prog.underlying 52 = some (TypeDesc.func #[22] #[51] true) := by kernel_rfl
@[simp] theorem tg53 : tagg Tryz.prog 53 = some false := by kernel_rfl
@[simp] theorem ts53 : tsize Tryz.prog 53 = some 1 := by kernel_rfl
@[simp] theorem tal53 (H : AHeap) : aAlloc Tryz.prog H 53 = some (.pointer (some ⟨H.length, 0, some 1⟩), H ++ [.cells [.nilFunc] 53]) := by kernel_rfl
@[simp] theorem tu53 : Tryz.prog.underlying 53 = some (TypeDesc.func #[22, 22] #[4] false) := by kernel_rfl
@[simp] theorem tg55 : tagg Tryz.prog 55 = some false := by kernel_rfl
@[simp] theorem ts55 : tsize Tryz.prog 55 = some 1 := by kernel_rfl
@[simp] theorem tal55 (H : AHeap) : aAlloc Tryz.prog H 55 = some (.pointer (some ⟨H.length, 0, some 1⟩), H ++ [.cells [.nilFunc] 55]) := by kernel_rfl
@[simp] theorem tu55 : Tryz.prog.underlying 55 = some (TypeDesc.func #[9] #[31, 28] false) := by kernel_rfl
@[simp] theorem tg56 : tagg Tryz.prog 56 = some false := by kernel_rfl
@[simp] theorem ts56 : tsize Tryz.prog 56 = some 1 := by kernel_rfl
@[simp] theorem tal56 (H : AHeap) : aAlloc Tryz.prog H 56 = some (.pointer (some ⟨H.length, 0, some 1⟩), H ++ [.cells [.nilFunc] 56]) := by kernel_rfl
@[simp] theorem tu56 : Tryz.prog.underlying 56 = some (TypeDesc.func #[34] #[4] false) := by kernel_rfl
@[simp] theorem tg57 : tagg Tryz.prog 57 = some false := by kernel_rfl
@[simp] theorem ts57 : tsize Tryz.prog 57 = some 1 := by kernel_rfl
@[simp] theorem tal57 (H : AHeap) : aAlloc Tryz.prog H 57 = some (.pointer (some ⟨H.length, 0, some 1⟩), H ++ [.cells [.nilFunc] 57]) := by kernel_rfl
@[simp] theorem tu57 : Tryz.prog.underlying 57 = some (TypeDesc.func #[71] #[28] true) := by kernel_rfl
@[simp] theorem tg58 : tagg Tryz.prog 58 = some false := by kernel_rfl
@[simp] theorem ts58 : tsize Tryz.prog 58 = some 1 := by kernel_rfl
@[simp] theorem tal58 (H : AHeap) : aAlloc Tryz.prog H 58 = some (.pointer (some ⟨H.length, 0, some 1⟩), H ++ [.cells [.nilFunc] 58]) := by kernel_rfl
@[simp] theorem tu58 : Tryz.prog.underlying 58 = some (TypeDesc.func #[3, 3, 3] #[4] false) := by kernel_rfl
@[simp] theorem tg59 : tagg Tryz.prog 59 = some false := by kernel_rfl
@[simp] theorem ts59 : tsize Tryz.prog 59 = some 1 := by kernel_rfl
@[simp] theorem tal59 (H : AHeap) : aAlloc Tryz.prog H 59 = some (.pointer (some ⟨H.length, 0, some 1⟩), H ++ [.cells [.nilFunc] 59]) := by kernel_rfl
@[simp] theorem tu59 : Tryz.prog.underlying 59 = some (TypeDesc.func #[22, 60] #[4] false) := by kernel_rfl
@[simp] theorem tg60 : tagg Tryz.prog 60 = some false := by kernel_rfl
@[simp] theorem ts60 : tsize Tryz.prog 60 = some 1 := by kernel_rfl
@[simp] theorem tal60 (H : AHeap) : aAlloc Tryz.prog H 60 = some (.pointer (some ⟨H.length, 0, some 1⟩), H ++ [.cells [.nilFunc] 60]) := by kernel_rfl
@[simp] theorem tu60 : Tryz.prog.underlying 60 = some (TypeDesc.func #[34] #[9] false) := by kernel_rfl
@[simp] theorem tg61 : tagg Tryz.prog 61 = some false := by kernel_rfl
@[simp] theorem ts61 : tsize Tryz.prog 61 = some 1 := by kernel_rfl
@[simp] theorem tal61 (H : AHeap) : aAlloc Tryz.prog H 61 = some (.pointer (some ⟨H.length, 0, some 1⟩), H ++ [.cells [.nilFunc] 61]) := by kernel_rfl
@[simp] theorem tu61 : Tryz.prog.underlying 61 = some (TypeDesc.func #[23, 62] #[4] false) := by kernel_rfl
@[simp] theorem tg62 : tagg Tryz.prog 62 = some false := by kernel_rfl
@[simp] theorem ts62 : tsize Tryz.prog 62 = some 1 := by kernel_rfl
@[simp] theorem tal62 (H : AHeap) : aAlloc Tryz.prog H 62 = some (.pointer (some ⟨H.length, 0, some 1⟩), H ++ [.cells [.nilFunc] 62]) := by kernel_rfl
@[simp] theorem tu62 : Tryz.prog.underlying 62 = some (TypeDesc.func #[38] #[9] false) := by kernel_rfl
@[simp] theorem tg63 : tagg Tryz.prog 63 = some false := by kernel_rfl
@[simp] theorem ts63 : tsize Tryz.prog 63 = some 1 := by kernel_rfl
@[simp] theorem tal63 (H : AHeap) : aAlloc Tryz.prog H 63 = some (.pointer (some ⟨H.length, 0, some 1⟩), H ++ [.cells [.nilFunc] 63]) := by kernel_rfl
@[simp] theorem tu63 : Tryz.prog.underlying 63 = some (TypeDesc.func #[23, 64] #[4] false) := by kernel_rfl
@[simp] theorem tg64 : tagg Tryz.prog 64 = some false := by kernel_rfl
@[simp] theorem ts64 : tsize Tryz.prog 64 = some 1 := by kernel_rfl
@[simp] theorem tal64 (H : AHeap) : aAlloc Tryz.prog H 64 = some (.pointer (some ⟨H.length, 0, some 1⟩), H ++ [.cells [.nilFunc] 64]) := by kernel_rfl
@[simp] theorem tu64 : Tryz.prog.underlying 64 = some (TypeDesc.func #[38] #[4] false) := by kernel_rfl
@[simp] theorem tg65 : tagg Tryz.prog 65 = some false := by kernel_rfl
@[simp] theorem ts65 : tsize Tryz.prog 65 = some 1 := by kernel_rfl
@[simp] theorem tal65 (H : AHeap) : aAlloc Tryz.prog H 65 = some (.pointer (some ⟨H.length, 0, some 1⟩), H ++ [.cells [.nilFunc] 65]) := by kernel_rfl
@[simp] theorem tu65 : Tryz.prog.underlying 65 = some (TypeDesc.func #[9] #[4] false) := by kernel_rfl
@[simp] theorem tg66 : tagg Tryz.prog 66 = some false := by kernel_rfl
@[simp] theorem ts66 : tsize Tryz.prog 66 = some 1 := by kernel_rfl
@[simp] theorem tal66 (H : AHeap) : aAlloc Tryz.prog H 66 = some (.pointer (some ⟨H.length, 0, some 1⟩), H ++ [.cells [.nilFunc] 66]) := by kernel_rfl
@[simp] theorem tu66 : Tryz.prog.underlying 66 = some (TypeDesc.func #[32, 65] #[4] false) := by kernel_rfl
@[simp] theorem tg67 : tagg Tryz.prog 67 = some false := by kernel_rfl
@[simp] theorem ts67 : tsize Tryz.prog 67 = some 1 := by kernel_rfl
@[simp] theorem tal67 (H : AHeap) : aAlloc Tryz.prog H 67 = some (.pointer (some ⟨H.length, 0, some 1⟩), H ++ [.cells [.nilFunc] 67]) := by kernel_rfl
@[simp] theorem tu67 : Tryz.prog.underlying 67 = some (TypeDesc.func #[32, 68] #[4] false) := by kernel_rfl
@[simp] theorem tg68 : tagg Tryz.prog 68 = some false := by kernel_rfl
@[simp] theorem ts68 : tsize Tryz.prog 68 = some 1 := by kernel_rfl
@[simp] theorem tal68 (H : AHeap) : aAlloc Tryz.prog H 68 = some (.pointer (some ⟨H.length, 0, some 1⟩), H ++ [.cells [.nilFunc] 68]) := by kernel_rfl
@[simp] theorem tu68 : Tryz.prog.underlying 68 = some (TypeDesc.func #[9] #[9] false) := by kernel_rfl
@[simp] theorem tg69 : tagg Tryz.prog 69 = some false := by kernel_rfl
@[simp] theorem ts69 : tsize Tryz.prog 69 = some 1 := by kernel_rfl
@[simp] theorem tal69 (H : AHeap) : aAlloc Tryz.prog H 69 = some (.pointer (some ⟨H.length, 0, some 1⟩), H ++ [.cells [.nilFunc] 69]) := by kernel_rfl
@[simp] theorem tu69 : Tryz.prog.underlying 69 = some (TypeDesc.func #[31] #[4] false) := by kernel_rfl
@[simp] theorem tg70 : tagg Tryz.prog 70 = some false := by kernel_rfl
@[simp] theorem ts70 : tsize Tryz.prog 70 = some 1 := by kernel_rfl
@[simp] theorem tal70 (H : AHeap) : aAlloc Tryz.prog H 70 = some (.pointer (some ⟨H.length, 0, some 1⟩), H ++ [.cells [.nilFunc] 70]) := by kernel_rfl
@[simp] theorem tu70 : Tryz.prog.underlying 70 = some (TypeDesc.func #[71, 4] #[4] false) := by kernel_rfl
@[simp] theorem tg71 : tagg Tryz.prog 71 = some false := by kernel_rfl
@[simp] theorem ts71 : tsize Tryz.prog 71 = some 1 := by kernel_rfl
@[simp] theorem tal71 (H : AHeap) : aAlloc Tryz.prog H 71 = some (.pointer (some ⟨H.length, 0, some 1⟩), H ++ [.cells [.slice none 0 0] 71]) := by kernel_rfl
@[simp] theorem tbs71 (H : AHeap) (n : Nat) (l : List (Nat × Value)) : aBuildSlice Tryz.prog H 71 n l = bslV 4 #[.bool false] H n l := by kernel_rfl
@[simp] theorem tel71 : aElem Tryz.prog 71 = some (4, 1, 1) := by kernel_rfl
@[simp] theorem tu71 : Tryz.prog.underlying 71 = some (TypeDesc.slice 4) := by kernel_rfl
@[simp] theorem tg72 : tagg Tryz.prog 72 = some false := by kernel_rfl
@[simp] theorem ts72 : tsize Tryz.prog 72 = some 1 := by kernel_rfl
@[simp] theorem tal72 (H : AHeap) : aAlloc Tryz.prog H 72 = some (.pointer (some ⟨H.length, 0, some 1⟩), H ++ [.cells [.nilFunc] 72]) := by kernel_rfl
@[simp] theorem tu72 : Tryz.prog.underlying 72 = some (TypeDesc.func #[34] #[34] false) := by kernel_rfl
@[simp] theorem tg73 : tagg Tryz.prog 73 = some false := by kernel_rfl
@[simp] theorem ts73 : tsize Tryz.prog 73 = some 1 := by kernel_rfl
@[simp] theorem tal73 (H : AHeap) : aAlloc Tryz.prog H 73 = some (.pointer (some ⟨H.length, 0, some 1⟩), H ++ [.cells [.slice none 0 0] 73]) := by kernel_rfl
@[simp] theorem tbs73 (H : AHeap) (n : Nat) (l : List (Nat × Value)) : aBuildSlice Tryz.prog H 73 n l = bslV 92 #[.string ⟨#[]⟩, .int IntKind.u8 0, .string ⟨#[]⟩] H n l := by kernel_rfl
@[simp] theorem tel73 : aElem Tryz.prog 73 = some (92, 3, 40) := by kernel_rfl
@[simp] theorem tu73 : Tryz.prog.underlying 73 = some (TypeDesc.slice 92) := by kernel_rfl
@[simp] theorem tg74 : tagg Tryz.prog 74 = some true := by kernel_rfl
@[simp] theorem ts74 : tsize Tryz.prog 74 = some 8 := by kernel_rfl
@[simp] theorem tf74x0 : afield Tryz.prog 74 0 = some (0, 5) := by kernel_rfl
@[simp] theorem tf74x1 : afield Tryz.prog 74 1 = some (1, 5) := by kernel_rfl
@[simp] theorem tf74x2 : afield Tryz.prog 74 2 = some (2, 73) := by kernel_rfl
@[simp] theorem tf74x3 : afield Tryz.prog 74 3 = some (3, 3) := by kernel_rfl
@[simp] theorem tf74x4 : afield Tryz.prog 74 4 = some (4, 5) := by kernel_rfl
@[simp] theorem tf74x5 : afield Tryz.prog 74 5 = some (5, 2) := by kernel_rfl
@[simp] theorem tf74x6 : afield Tryz.prog 74 6 = some (6, 3) := by kernel_rfl
@[simp] theorem tf74x7 : afield Tryz.prog 74 7 = some (7, 3) := by kernel_rfl
@[simp] theorem tal74 (H : AHeap) : aAlloc Tryz.prog H 74 = some (.pointer (some ⟨H.length, 0, some 8⟩), H ++ [.cells [.int IntKind.u8 0, .int IntKind.u8 0, .slice none 0 0, .int IntKind.i64 0, .int IntKind.u8 0, .int IntKind.i64 0, .int IntKind.i64 0, .int IntKind.i64 0] 74]) := by kernel_rfl
@[simp] theorem tbv74 (l : List (Nat × Value)) : buildV Tryz.prog 74 l = bldV #[.int IntKind.u8 0, .int IntKind.u8 0, .slice none 0 0, .int IntKind.i64 0, .int IntKind.u8 0, .int IntKind.i64 0, .int IntKind.i64 0, .int IntKind.i64 0] [(0, 1), (1, 1), (2, 1), (3, 1), (4, 1), (5, 1), (6, 1), (7, 1)] l := by kernel_rfl
@[simp] theorem tg75 : tagg Tryz.prog 75 = some true := by kernel_rfl
@[simp] theorem ts75 : tsize Tryz.prog 75 = some 8 := by kernel_rfl
@[simp] theorem tf75x0 : afield Tryz.prog 75 0 = some (0, 5) := by kernel_rfl
@[simp] theorem tf75x1 : afield Tryz.prog 75 1 = some (1, 5) := by kernel_rfl
@[simp] theorem tf75x2 : afield Tryz.prog 75 2 = some (2, 73) := by kernel_rfl
@[simp] theorem tf75x3 : afield Tryz.prog 75 3 = some (3, 3) := by kernel_rfl
@[simp] theorem tf75x4 : afield Tryz.prog 75 4 = some (4, 5) := by kernel_rfl
@[simp] theorem tf75x5 : afield Tryz.prog 75 5 = some (5, 2) := by kernel_rfl
@[simp] theorem tf75x6 : afield Tryz.prog 75 6 = some (6, 3) := by kernel_rfl
@[simp] theorem tf75x7 : afield Tryz.prog 75 7 = some (7, 3) := by kernel_rfl
@[simp] theorem tal75 (H : AHeap) : aAlloc Tryz.prog H 75 = some (.pointer (some ⟨H.length, 0, some 8⟩), H ++ [.cells [.int IntKind.u8 0, .int IntKind.u8 0, .slice none 0 0, .int IntKind.i64 0, .int IntKind.u8 0, .int IntKind.i64 0, .int IntKind.i64 0, .int IntKind.i64 0] 75]) := by kernel_rfl
@[simp] theorem tbv75 (l : List (Nat × Value)) : buildV Tryz.prog 75 l = bldV #[.int IntKind.u8 0, .int IntKind.u8 0, .slice none 0 0, .int IntKind.i64 0, .int IntKind.u8 0, .int IntKind.i64 0, .int IntKind.i64 0, .int IntKind.i64 0] [(0, 1), (1, 1), (2, 1), (3, 1), (4, 1), (5, 1), (6, 1), (7, 1)] l := by kernel_rfl
@[simp] theorem tg76 : tagg Tryz.prog 76 = some false := by kernel_rfl
@[simp] theorem ts76 : tsize Tryz.prog 76 = some 1 := by kernel_rfl
@[simp] theorem tal76 (H : AHeap) : aAlloc Tryz.prog H 76 = some (.pointer (some ⟨H.length, 0, some 1⟩), H ++ [.cells [.nilFunc] 76]) := by kernel_rfl
@[simp] theorem tu76 : Tryz.prog.underlying 76 = some (TypeDesc.func #[32, 9] #[9] false) := by kernel_rfl
@[simp] theorem tg77 : tagg Tryz.prog 77 = some false := by kernel_rfl
@[simp] theorem ts77 : tsize Tryz.prog 77 = some 1 := by kernel_rfl
@[simp] theorem tal77 (H : AHeap) : aAlloc Tryz.prog H 77 = some (.pointer (some ⟨H.length, 0, some 1⟩), H ++ [.cells [.nilFunc] 77]) := by kernel_rfl
@[simp] theorem tu77 : Tryz.prog.underlying 77 = some (TypeDesc.func #[3] #[9] false) := by kernel_rfl
@[simp] theorem tg78 : tagg Tryz.prog 78 = some false := by kernel_rfl
@[simp] theorem ts78 : tsize Tryz.prog 78 = some 1 := by kernel_rfl
@[simp] theorem tal78 (H : AHeap) : aAlloc Tryz.prog H 78 = some (.pointer (some ⟨H.length, 0, some 1⟩), H ++ [.cells [.map none] 78]) := by kernel_rfl
@[simp] theorem tm78 : mtype Tryz.prog 78 = some ((TypeDesc.int IntKind.u32), 3) := by kernel_rfl
@[simp] theorem tz78 : tzero Tryz.prog 3 = some (.int IntKind.i64 0) := by kernel_rfl
@[simp] theorem tu78 : Tryz.prog.underlying 78 = some (TypeDesc.map 42 3) := by kernel_rfl
@[simp] theorem tg79 : tagg Tryz.prog 79 = some false := by kernel_rfl
@[simp] theorem ts79 : tsize Tryz.prog 79 = some 1 := by kernel_rfl
@[simp] theorem tal79 (H : AHeap) : aAlloc Tryz.prog H 79 = some (.pointer (some ⟨H.length, 0, some 1⟩), H ++ [.cells [.nilFunc] 79]) := by kernel_rfl
@[simp] theorem tu79 : Tryz.prog.underlying 79 = some (TypeDesc.func #[31] #[31] false) := by kernel_rfl
@[simp] theorem tg80 : tagg Tryz.prog 80 = some false := by kernel_rfl
@[simp] theorem ts80 : tsize Tryz.prog 80 = some 1 := by kernel_rfl
@[simp] theorem tal80 (H : AHeap) : aAlloc Tryz.prog H 80 = some (.pointer (some ⟨H.length, 0, some 1⟩), H ++ [.cells [.nilFunc] 80]) := by kernel_rfl
@[simp] theorem tu80 : Tryz.prog.underlying 80 = some (TypeDesc.func #[31, 3, 3] #[9] false) := by kernel_rfl
@[simp] theorem tg81 : tagg Tryz.prog 81 = some false := by kernel_rfl
@[simp] theorem ts81 : tsize Tryz.prog 81 = some 1 := by kernel_rfl
@[simp] theorem tal81 (H : AHeap) : aAlloc Tryz.prog H 81 = some (.pointer (some ⟨H.length, 0, some 1⟩), H ++ [.cells [.nilFunc] 81]) := by kernel_rfl
@[simp] theorem tu81 : Tryz.prog.underlying 81 = some (TypeDesc.func #[113] #[42] true) := by kernel_rfl
@[simp] theorem tg82 : tagg Tryz.prog 82 = some false := by kernel_rfl
@[simp] theorem ts82 : tsize Tryz.prog 82 = some 1 := by kernel_rfl
@[simp] theorem tal82 (H : AHeap) : aAlloc Tryz.prog H 82 = some (.pointer (some ⟨H.length, 0, some 1⟩), H ++ [.cells [.slice none 0 0] 82]) := by kernel_rfl
@[simp] theorem tbs82 (H : AHeap) (n : Nat) (l : List (Nat × Value)) : aBuildSlice Tryz.prog H 82 n l = bslV 121 #[.int IntKind.u8 0, .string ⟨#[]⟩, .int IntKind.i64 0] H n l := by kernel_rfl
@[simp] theorem tel82 : aElem Tryz.prog 82 = some (121, 3, 32) := by kernel_rfl
@[simp] theorem tu82 : Tryz.prog.underlying 82 = some (TypeDesc.slice 121) := by kernel_rfl
@[simp] theorem tg84 : tagg Tryz.prog 84 = some false := by kernel_rfl
@[simp] theorem ts84 : tsize Tryz.prog 84 = some 1 := by kernel_rfl
@[simp] theorem tal84 (H : AHeap) : aAlloc Tryz.prog H 84 = some (.pointer (some ⟨H.length, 0, some 1⟩), H ++ [.cells [.nilFunc] 84]) := by kernel_rfl
@[simp] theorem tu84 : Tryz.prog.underlying 84 = some (TypeDesc.func #[9] #[82, 3, 28] false) := by kernel_rfl
@[simp] theorem tg86 : tagg Tryz.prog 86 = some false := by kernel_rfl
@[simp] theorem ts86 : tsize Tryz.prog 86 = some 1 := by kernel_rfl
@[simp] theorem tal86 (H : AHeap) : aAlloc Tryz.prog H 86 = some (.pointer (some ⟨H.length, 0, some 1⟩), H ++ [.cells [.nilFunc] 86]) := by kernel_rfl
@[simp] theorem tu86 : Tryz.prog.underlying 86 = some (TypeDesc.func #[82, 3] #[31, 3, 28] false) := by kernel_rfl
@[simp] theorem tg87 : tagg Tryz.prog 87 = some false := by kernel_rfl
@[simp] theorem ts87 : tsize Tryz.prog 87 = some 1 := by kernel_rfl
@[simp] theorem tal87 (H : AHeap) : aAlloc Tryz.prog H 87 = some (.pointer (some ⟨H.length, 0, some 1⟩), H ++ [.cells [.pointer none] 87]) := by kernel_rfl
@[simp] theorem tu87 : Tryz.prog.underlying 87 = some (TypeDesc.pointer 89) := by kernel_rfl
@[simp] theorem tg88 : tagg Tryz.prog 88 = some true := by kernel_rfl
@[simp] theorem ts88 : tsize Tryz.prog 88 = some 3 := by kernel_rfl
@[simp] theorem tf88x0 : afield Tryz.prog 88 0 = some (0, 82) := by kernel_rfl
@[simp] theorem tf88x1 : afield Tryz.prog 88 1 = some (1, 3) := by kernel_rfl
@[simp] theorem tf88x2 : afield Tryz.prog 88 2 = some (2, 4) := by kernel_rfl
@[simp] theorem tal88 (H : AHeap) : aAlloc Tryz.prog H 88 = some (.pointer (some ⟨H.length, 0, some 3⟩), H ++ [.cells [.slice none 0 0, .int IntKind.i64 0, .bool false] 88]) := by kernel_rfl
@[simp] theorem tbv88 (l : List (Nat × Value)) : buildV Tryz.prog 88 l = bldV #[.slice none 0 0, .int IntKind.i64 0, .bool false] [(0, 1), (1, 1), (2, 1)] l := by kernel_rfl
@[simp] theorem tg89 : tagg Tryz.prog 89 = some true := by kernel_rfl
@[simp] theorem ts89 : tsize Tryz.prog 89 = some 3 := by kernel_rfl
@[simp] theorem tf89x0 : afield Tryz.prog 89 0 = some (0, 82) := by kernel_rfl
@[simp] theorem tf89x1 : afield Tryz.prog 89 1 = some (1, 3) := by kernel_rfl
@[simp] theorem tf89x2 : afield Tryz.prog 89 2 = some (2, 4) := by kernel_rfl
@[simp] theorem tal89 (H : AHeap) : aAlloc Tryz.prog H 89 = some (.pointer (some ⟨H.length, 0, some 3⟩), H ++ [.cells [.slice none 0 0, .int IntKind.i64 0, .bool false] 89]) := by kernel_rfl
@[simp] theorem tbv89 (l : List (Nat × Value)) : buildV Tryz.prog 89 l = bldV #[.slice none 0 0, .int IntKind.i64 0, .bool false] [(0, 1), (1, 1), (2, 1)] l := by kernel_rfl
@[simp] theorem tg90 : tagg Tryz.prog 90 = some false := by kernel_rfl
@[simp] theorem ts90 : tsize Tryz.prog 90 = some 1 := by kernel_rfl
@[simp] theorem tal90 (H : AHeap) : aAlloc Tryz.prog H 90 = some (.pointer (some ⟨H.length, 0, some 1⟩), H ++ [.cells [.nilFunc] 90]) := by kernel_rfl
@[simp] theorem tu90 : Tryz.prog.underlying 90 = some (TypeDesc.func #[] #[31] false) := by kernel_rfl
@[simp] theorem tg91 : tagg Tryz.prog 91 = some true := by kernel_rfl
@[simp] theorem ts91 : tsize Tryz.prog 91 = some 3 := by kernel_rfl
@[simp] theorem tf91x0 : afield Tryz.prog 91 0 = some (0, 9) := by kernel_rfl
@[simp] theorem tf91x1 : afield Tryz.prog 91 1 = some (1, 5) := by kernel_rfl
@[simp] theorem tf91x2 : afield Tryz.prog 91 2 = some (2, 9) := by kernel_rfl
@[simp] theorem tal91 (H : AHeap) : aAlloc Tryz.prog H 91 = some (.pointer (some ⟨H.length, 0, some 3⟩), H ++ [.cells [.string ⟨#[]⟩, .int IntKind.u8 0, .string ⟨#[]⟩] 91]) := by kernel_rfl
@[simp] theorem tbv91 (l : List (Nat × Value)) : buildV Tryz.prog 91 l = bldV #[.string ⟨#[]⟩, .int IntKind.u8 0, .string ⟨#[]⟩] [(0, 1), (1, 1), (2, 1)] l := by kernel_rfl
@[simp] theorem tg92 : tagg Tryz.prog 92 = some true := by kernel_rfl
@[simp] theorem ts92 : tsize Tryz.prog 92 = some 3 := by kernel_rfl
@[simp] theorem tf92x0 : afield Tryz.prog 92 0 = some (0, 9) := by kernel_rfl
@[simp] theorem tf92x1 : afield Tryz.prog 92 1 = some (1, 5) := by kernel_rfl
@[simp] theorem tf92x2 : afield Tryz.prog 92 2 = some (2, 9) := by kernel_rfl
@[simp] theorem tal92 (H : AHeap) : aAlloc Tryz.prog H 92 = some (.pointer (some ⟨H.length, 0, some 3⟩), H ++ [.cells [.string ⟨#[]⟩, .int IntKind.u8 0, .string ⟨#[]⟩] 92]) := by kernel_rfl
@[simp] theorem tbv92 (l : List (Nat × Value)) : buildV Tryz.prog 92 l = bldV #[.string ⟨#[]⟩, .int IntKind.u8 0, .string ⟨#[]⟩] [(0, 1), (1, 1), (2, 1)] l := by kernel_rfl
@[simp] theorem tg93 : tagg Tryz.prog 93 = some false := by kernel_rfl
@[simp] theorem ts93 : tsize Tryz.prog 93 = some 1 := by kernel_rfl
@[simp] theorem tal93 (H : AHeap) : aAlloc Tryz.prog H 93 = some (.pointer (some ⟨H.length, 0, some 1⟩), H ++ [.cells [.map none] 93]) := by kernel_rfl
@[simp] theorem tm93 : mtype Tryz.prog 93 = some (TypeDesc.string, 3) := by kernel_rfl
@[simp] theorem tz93 : tzero Tryz.prog 3 = some (.int IntKind.i64 0) := by kernel_rfl
@[simp] theorem tu93 : Tryz.prog.underlying 93 = some (TypeDesc.map 9 3) := by kernel_rfl
@[simp] theorem tg94 : tagg Tryz.prog 94 = some false := by kernel_rfl
@[simp] theorem ts94 : tsize Tryz.prog 94 = some 1 := by kernel_rfl
@[simp] theorem tal94 (H : AHeap) : aAlloc Tryz.prog H 94 = some (.pointer (some ⟨H.length, 0, some 1⟩), H ++ [.cells [.nilFunc] 94]) := by kernel_rfl
@[simp] theorem tu94 : Tryz.prog.underlying 94 = some (TypeDesc.func #[23, 64] #[3] false) := by kernel_rfl
@[simp] theorem tg95 : tagg Tryz.prog 95 = some false := by kernel_rfl
@[simp] theorem ts95 : tsize Tryz.prog 95 = some 1 := by kernel_rfl
@[simp] theorem tal95 (H : AHeap) : aAlloc Tryz.prog H 95 = some (.pointer (some ⟨H.length, 0, some 1⟩), H ++ [.cells [.nilFunc] 95]) := by kernel_rfl
@[simp] theorem tu95 : Tryz.prog.underlying 95 = some (TypeDesc.func #[5] #[4] false) := by kernel_rfl
@[simp] theorem tg96 : tagg Tryz.prog 96 = some false := by kernel_rfl
@[simp] theorem ts96 : tsize Tryz.prog 96 = some 1 := by kernel_rfl
@[simp] theorem tal96 (H : AHeap) : aAlloc Tryz.prog H 96 = some (.pointer (some ⟨H.length, 0, some 1⟩), H ++ [.cells [.nilFunc] 96]) := by kernel_rfl
@[simp] theorem tu96 : Tryz.prog.underlying 96 = some (TypeDesc.func #[9, 95] #[4] false) := by kernel_rfl
@[simp] theorem tg97 : tagg Tryz.prog 97 = some false := by kernel_rfl
@[simp] theorem ts97 : tsize Tryz.prog 97 = some 1 := by kernel_rfl
@[simp] theorem tal97 (H : AHeap) : aAlloc Tryz.prog H 97 = some (.pointer (some ⟨H.length, 0, some 1⟩), H ++ [.cells [.nilFunc] 97]) := by kernel_rfl
@[simp] theorem tu97 : Tryz.prog.underlying 97 = some (TypeDesc.func #[32, 65] #[3] false) := by kernel_rfl
@[simp] theorem tg98 : tagg Tryz.prog 98 = some false := by kernel_rfl
@[simp] theorem ts98 : tsize Tryz.prog 98 = some 1 := by kernel_rfl
@[simp] theorem tal98 (H : AHeap) : aAlloc Tryz.prog H 98 = some (.pointer (some ⟨H.length, 0, some 1⟩), H ++ [.cells [.nilFunc] 98]) := by kernel_rfl
@[simp] theorem tu98 : Tryz.prog.underlying 98 = some (TypeDesc.func #[31, 3] #[3] false) := by kernel_rfl
@[simp] theorem tg99 : tagg Tryz.prog 99 = some false := by kernel_rfl
@[simp] theorem ts99 : tsize Tryz.prog 99 = some 1 := by kernel_rfl
@[simp] theorem tal99 (H : AHeap) : aAlloc Tryz.prog H 99 = some (.pointer (some ⟨H.length, 0, some 1⟩), H ++ [.cells [.nilFunc] 99]) := by kernel_rfl
@[simp] theorem tu99 : Tryz.prog.underlying 99 = some (TypeDesc.func #[71, 4] #[3] false) := by kernel_rfl
@[simp] theorem tg100 : tagg Tryz.prog 100 = some false := by kernel_rfl
@[simp] theorem ts100 : tsize Tryz.prog 100 = some 1 := by kernel_rfl
@[simp] theorem tal100 (H : AHeap) : aAlloc Tryz.prog H 100 = some (.pointer (some ⟨H.length, 0, some 1⟩), H ++ [.cells [.pointer none] 100]) := by kernel_rfl
@[simp] theorem tu100 : Tryz.prog.underlying 100 = some (TypeDesc.pointer 102) := by kernel_rfl
@[simp] theorem tg101 : tagg Tryz.prog 101 = some true := by kernel_rfl
@[simp] theorem ts101 : tsize Tryz.prog 101 = some 2 := by kernel_rfl
@[simp] theorem tf101x0 : afield Tryz.prog 101 0 = some (0, 100) := by kernel_rfl
@[simp] theorem tf101x1 : afield Tryz.prog 101 1 = some (1, 47) := by kernel_rfl
@[simp] theorem tal101 (H : AHeap) : aAlloc Tryz.prog H 101 = some (.pointer (some ⟨H.length, 0, some 2⟩), H ++ [.cells [.pointer none, .slice none 0 0] 101]) := by kernel_rfl
@[simp] theorem tbv101 (l : List (Nat × Value)) : buildV Tryz.prog 101 l = bldV #[.pointer none, .slice none 0 0] [(0, 1), (1, 1)] l := by kernel_rfl
@[simp] theorem tg102 : tagg Tryz.prog 102 = some true := by kernel_rfl
@[simp] theorem ts102 : tsize Tryz.prog 102 = some 2 := by kernel_rfl
@[simp] theorem tf102x0 : afield Tryz.prog 102 0 = some (0, 100) := by kernel_rfl
@[simp] theorem tf102x1 : afield Tryz.prog 102 1 = some (1, 47) := by kernel_rfl
@[simp] theorem tal102 (H : AHeap) : aAlloc Tryz.prog H 102 = some (.pointer (some ⟨H.length, 0, some 2⟩), H ++ [.cells [.pointer none, .slice none 0 0] 102]) := by kernel_rfl
@[simp] theorem tbv102 (l : List (Nat × Value)) : buildV Tryz.prog 102 l = bldV #[.pointer none, .slice none 0 0] [(0, 1), (1, 1)] l := by kernel_rfl
@[simp] theorem tg103 : tagg Tryz.prog 103 = some false := by kernel_rfl
@[simp] theorem ts103 : tsize Tryz.prog 103 = some 1 := by kernel_rfl
@[simp] theorem tal103 (H : AHeap) : aAlloc Tryz.prog H 103 = some (.pointer (some ⟨H.length, 0, some 1⟩), H ++ [.cells [.nilFunc] 103]) := by kernel_rfl
@[simp] theorem tu103 : Tryz.prog.underlying 103 = some (TypeDesc.func #[3] #[] false) := by kernel_rfl
@[simp] theorem tg104 : tagg Tryz.prog 104 = some false := by kernel_rfl
@[simp] theorem ts104 : tsize Tryz.prog 104 = some 1 := by kernel_rfl
@[simp] theorem tal104 (H : AHeap) : aAlloc Tryz.prog H 104 = some (.pointer (some ⟨H.length, 0, some 1⟩), H ++ [.cells [.nilIface] 104]) := by kernel_rfl
@[simp] theorem tu104 : Tryz.prog.underlying 104 = some (TypeDesc.interface #[("Error", 108)]) := by kernel_rfl
@[simp] theorem tg105 : tagg Tryz.prog 105 = some false := by kernel_rfl
@[simp] theorem ts105 : tsize Tryz.prog 105 = some 1 := by kernel_rfl
@[simp] theorem tal105 (H : AHeap) : aAlloc Tryz.prog H 105 = some (.pointer (some ⟨H.length, 0, some 1⟩), H ++ [.cells [.nilIface] 105]) := by kernel_rfl
@[simp] theorem tu105 : Tryz.prog.underlying 105 = some (TypeDesc.interface #[("Error", 108)]) := by kernel_rfl
@[simp] theorem tg107 : tagg Tryz.prog 107 = some false := by kernel_rfl
@[simp] theorem ts107 : tsize Tryz.prog 107 = some 1 := by kernel_rfl
@[simp] theorem tal107 (H : AHeap) : aAlloc Tryz.prog H 107 = some (.pointer (some ⟨H.length, 0, some 1⟩), H ++ [.cells [.nilFunc] 107]) := by kernel_rfl
@[simp] theorem tu107 : Tryz.prog.underlying 107 = some (TypeDesc.func #[9] #[3, 105] false) := by kernel_rfl
@[simp] theorem tg108 : tagg Tryz.prog 108 = some false := by kernel_rfl
@[simp] theorem ts108 : tsize Tryz.prog 108 = some 1 := by kernel_rfl
@[simp] theorem tal108 (H : AHeap) : aAlloc Tryz.prog H 108 = some (.pointer (some ⟨H.length, 0, some 1⟩), H ++ [.cells [.nilFunc] 108]) := by kernel_rfl
@[simp] theorem tu108 : Tryz.prog.underlying 108 = some (TypeDesc.func #[] #[9] false) := by kernel_rfl
@[simp] theorem tg109 : tagg Tryz.prog 109 = some false := by kernel_rfl
@[simp] theorem ts109 : tsize Tryz.prog 109 = some 1 := by kernel_rfl
@[simp] theorem tal109 (H : AHeap) : aAlloc Tryz.prog H 109 = some (.pointer (some ⟨H.length, 0, some 1⟩), H ++ [.cells [.nilFunc] 109]) := by kernel_rfl
@[simp] theorem tu109 : Tryz.prog.underlying 109 = some (TypeDesc.func #[] #[32] false) := by kernel_rfl
@[simp] theorem tg110 : tagg Tryz.prog 110 = some false := by kernel_rfl
@[simp] theorem ts110 : tsize Tryz.prog 110 = some 1 := by kernel_rfl
@[simp] theorem tal110 (H : AHeap) : aAlloc Tryz.prog H 110 = some (.pointer (some ⟨H.length, 0, some 1⟩), H ++ [.cells [.nilFunc] 110]) := by kernel_rfl
@[simp] theorem tu110 : Tryz.prog.underlying 110 = some (TypeDesc.func #[73] #[9] false) := by kernel_rfl
@[simp] theorem tg111 : tagg Tryz.prog 111 = some false := by kernel_rfl
@[simp] theorem ts111 : tsize Tryz.prog 111 = some 1 := by kernel_rfl
@[simp] theorem tal111 (H : AHeap) : aAlloc Tryz.prog H 111 = some (.pointer (some ⟨H.length, 0, some 1⟩), H ++ [.cells [.nilFunc] 111]) := by kernel_rfl
@[simp] theorem tu111 : Tryz.prog.underlying 111 = some (TypeDesc.func #[2] #[9] false) := by kernel_rfl
@[simp] theorem tg112 : tagg Tryz.prog 112 = some false := by kernel_rfl
@[simp] theorem ts112 : tsize Tryz.prog 112 = some 1 := by kernel_rfl
@[simp] theorem tal112 (H : AHeap) : aAlloc Tryz.prog H 112 = some (.pointer (some ⟨H.length, 0, some 1⟩), H ++ [.cells [.nilFunc] 112]) := by kernel_rfl
@[simp] theorem tu112 : Tryz.prog.underlying 112 = some (TypeDesc.func #[75] #[3] false) := by kernel_rfl
@[simp] theorem tg113 : tagg Tryz.prog 113 = some false := by kernel_rfl
@[simp] theorem ts113 : tsize Tryz.prog 113 = some 1 := by kernel_rfl
@[simp] theorem tal113 (H : AHeap) : aAlloc Tryz.prog H 113 = some (.pointer (some ⟨H.length, 0, some 1⟩), H ++ [.cells [.slice none 0 0] 113]) := by kernel_rfl
@[simp] theorem tbs113 (H : AHeap) (n : Nat) (l : List (Nat × Value)) : aBuildSlice Tryz.prog H 113 n l = bslV 47 #[.slice none 0 0] H n l := by kernel_rfl
@[simp] theorem tel113 : aElem Tryz.prog 113 = some (47, 1, 24) := by kernel_rfl
@[simp] theorem tu113 : Tryz.prog.underlying 113 = some (TypeDesc.slice 47) := by kernel_rfl
@[simp] theorem tg114 : tagg Tryz.prog 114 = some false := by kernel_rfl
@[simp] theorem ts114 : tsize Tryz.prog 114 = some 1 := by kernel_rfl
@[simp] theorem tal114 (H : AHeap) : aAlloc Tryz.prog H 114 = some (.pointer (some ⟨H.length, 0, some 1⟩), H ++ [.cells [.pointer none] 114]) := by kernel_rfl
@[simp] theorem tu114 : Tryz.prog.underlying 114 = some (TypeDesc.pointer 139) := by kernel_rfl
@[simp] theorem tg115 : tagg Tryz.prog 115 = some false := by kernel_rfl
@[simp] theorem ts115 : tsize Tryz.prog 115 = some 1 := by kernel_rfl
@[simp] theorem tal115 (H : AHeap) : aAlloc Tryz.prog H 115 = some (.pointer (some ⟨H.length, 0, some 1⟩), H ++ [.cells [.nilFunc] 115]) := by kernel_rfl
@[simp] theorem tu115 : Tryz.prog.underlying 115 = some (TypeDesc.func #[] #[114] false) := by kernel_rfl
@[simp] theorem tg116 : tagg Tryz.prog 116 = some false := by kernel_rfl
@[simp] theorem ts116 : tsize Tryz.prog 116 = some 1 := by kernel_rfl
@[simp] theorem tal116 (H : AHeap) : aAlloc Tryz.prog H 116 = some (.pointer (some ⟨H.length, 0, some 1⟩), H ++ [.cells [.nilFunc] 116]) := by kernel_rfl
@[simp] theorem tu116 : Tryz.prog.underlying 116 = some (TypeDesc.func #[42, 114, 47] #[42] false) := by kernel_rfl
@[simp] theorem tg117 : tagg Tryz.prog 117 = some false := by kernel_rfl
@[simp] theorem ts117 : tsize Tryz.prog 117 = some 1 := by kernel_rfl
@[simp] theorem tal117 (H : AHeap) : aAlloc Tryz.prog H 117 = some (.pointer (some ⟨H.length, 0, some 1⟩), H ++ [.cells [.nilFunc] 117]) := by kernel_rfl
@[simp] theorem tu117 : Tryz.prog.underlying 117 = some (TypeDesc.func #[142] #[] false) := by kernel_rfl
@[simp] theorem tg118 : tagg Tryz.prog 118 = some false := by kernel_rfl
@[simp] theorem ts118 : tsize Tryz.prog 118 = some 1 := by kernel_rfl
@[simp] theorem tal118 (H : AHeap) : aAlloc Tryz.prog H 118 = some (.pointer (some ⟨H.length, 0, some 1⟩), H ++ [.cells [.nilFunc] 118]) := by kernel_rfl
@[simp] theorem tu118 : Tryz.prog.underlying 118 = some (TypeDesc.func #[142] #[] false) := by kernel_rfl
@[simp] theorem tg119 : tagg Tryz.prog 119 = some false := by kernel_rfl
@[simp] theorem ts119 : tsize Tryz.prog 119 = some 1 := by kernel_rfl
@[simp] theorem tal119 (H : AHeap) : aAlloc Tryz.prog H 119 = some (.pointer (some ⟨H.length, 0, some 1⟩), H ++ [.cells [.nilFunc] 119]) := by kernel_rfl
@[simp] theorem tu119 : Tryz.prog.underlying 119 = some (TypeDesc.func #[9] #[118] false) := by kernel_rfl
@[simp] theorem tg120 : tagg Tryz.prog 120 = some true := by kernel_rfl
@[simp] theorem ts120 : tsize Tryz.prog 120 = some 3 := by kernel_rfl
@[simp] theorem tf120x0 : afield Tryz.prog 120 0 = some (0, 5) := by kernel_rfl
@[simp] theorem tf120x1 : afield Tryz.prog 120 1 = some (1, 9) := by kernel_rfl
@[simp] theorem tf120x2 : afield Tryz.prog 120 2 = some (2, 3) := by kernel_rfl
@[simp] theorem tal120 (H : AHeap) : aAlloc Tryz.prog H 120 = some (.pointer (some ⟨H.length, 0, some 3⟩), H ++ [.cells [.int IntKind.u8 0, .string ⟨#[]⟩, .int IntKind.i64 0] 120]) := by kernel_rfl
@[simp] theorem tbv120 (l : List (Nat × Value)) : buildV Tryz.prog 120 l = bldV #[.int IntKind.u8 0, .string ⟨#[]⟩, .int IntKind.i64 0] [(0, 1), (1, 1), (2, 1)] l := by kernel_rfl
@[simp] theorem tg121 : tagg Tryz.prog 121 = some true := by kernel_rfl
@[simp] theorem ts121 : tsize Tryz.prog 121 = some 3 := by kernel_rfl
@[simp] theorem tf121x0 : afield Tryz.prog 121 0 = some (0, 5) := by kernel_rfl
@[simp] theorem tf121x1 : afield Tryz.prog 121 1 = some (1, 9) := by kernel_rfl
@[simp] theorem tf121x2 : afield Tryz.prog 121 2 = some (2, 3) := by kernel_rfl
@[simp] theorem tal121 (H : AHeap) : aAlloc Tryz.prog H 121 = some (.pointer (some ⟨H.length, 0, some 3⟩), H ++ [.cells [.int IntKind.u8 0, .string ⟨#[]⟩, .int IntKind.i64 0] 121]) := by kernel_rfl
@[simp] theorem tbv121 (l : List (Nat × Value)) : buildV Tryz.prog 121 l = bldV #[.int IntKind.u8 0, .string ⟨#[]⟩, .int IntKind.i64 0] [(0, 1), (1, 1), (2, 1)] l := by kernel_rfl
@[simp] theorem tg122 : tagg Tryz.prog 122 = some false := by kernel_rfl
@[simp] theorem ts122 : tsize Tryz.prog 122 = some 1 := by kernel_rfl
@[simp] theorem tal122 (H : AHeap) : aAlloc Tryz.prog H 122 = some (.pointer (some ⟨H.length, 0, some 1⟩), H ++ [.cells [.nilFunc] 122]) := by kernel_rfl
@[simp] theorem tu122 : Tryz.prog.underlying 122 = some (TypeDesc.func #[5, 9] #[4] false) := by kernel_rfl
@[simp] theorem tg123 : tagg Tryz.prog 123 = some false := by kernel_rfl
@[simp] theorem ts123 : tsize Tryz.prog 123 = some 1 := by kernel_rfl
@[simp] theorem tal123 (H : AHeap) : aAlloc Tryz.prog H 123 = some (.pointer (some ⟨H.length, 0, some 1⟩), H ++ [.cells [.nilFunc] 123]) := by kernel_rfl
@[simp] theorem tu123 : Tryz.prog.underlying 123 = some (TypeDesc.func #[9] #[] false) := by kernel_rfl
@[simp] theorem tg124 : tagg Tryz.prog 124 = some false := by kernel_rfl
@[simp] theorem ts124 : tsize Tryz.prog 124 = some 1 := by kernel_rfl
@[simp] theorem tal124 (H : AHeap) : aAlloc Tryz.prog H 124 = some (.pointer (some ⟨H.length, 0, some 1⟩), H ++ [.cells [.nilFunc] 124]) := by kernel_rfl
@[simp] theorem tu124 : Tryz.prog.underlying 124 = some (TypeDesc.func #[] #[75] false) := by kernel_rfl
@[simp] theorem tg125 : tagg Tryz.prog 125 = some false := by kernel_rfl
@[simp] theorem ts125 : tsize Tryz.prog 125 = some 1 := by kernel_rfl
@[simp] theorem tal125 (H : AHeap) : aAlloc Tryz.prog H 125 = some (.pointer (some ⟨H.length, 0, some 1⟩), H ++ [.cells [.nilFunc] 125]) := by kernel_rfl
@[simp] theorem tu125 : Tryz.prog.underlying 125 = some (TypeDesc.func #[75] #[4] false) := by kernel_rfl
@[simp] theorem tg126 : tagg Tryz.prog 126 = some false := by kernel_rfl
@[simp] theorem ts126 : tsize Tryz.prog 126 = some 1 := by kernel_rfl
@[simp] theorem tal126 (H : AHeap) : aAlloc Tryz.prog H 126 = some (.pointer (some ⟨H.length, 0, some 1⟩), H ++ [.cells [.nilFunc] 126]) := by kernel_rfl
@[simp] theorem tu126 : Tryz.prog.underlying 126 = some (TypeDesc.func #[73] #[73] false) := by kernel_rfl
@[simp] theorem tg127 : tagg Tryz.prog 127 = some false := by kernel_rfl
@[simp] theorem ts127 : tsize Tryz.prog 127 = some 1 := by kernel_rfl
@[simp] theorem tal127 (H : AHeap) : aAlloc Tryz.prog H 127 = some (.pointer (some ⟨H.length, 0, some 1⟩), H ++ [.cells [.pointer none] 127]) := by kernel_rfl
@[simp] theorem tu127 : Tryz.prog.underlying 127 = some (TypeDesc.pointer 5) := by kernel_rfl
@[simp] theorem tg128 : tagg Tryz.prog 128 = some false := by kernel_rfl
@[simp] theorem ts128 : tsize Tryz.prog 128 = some 1 := by kernel_rfl
@[simp] theorem tal128 (H : AHeap) : aAlloc Tryz.prog H 128 = some (.pointer (some ⟨H.length, 0, some 1⟩), H ++ [.cells [.nilFunc] 128]) := by kernel_rfl
@[simp] theorem tu128 : Tryz.prog.underlying 128 = some (TypeDesc.func #[2, 3] #[9] false) := by kernel_rfl
@[simp] theorem tg129 : tagg Tryz.prog 129 = some false := by kernel_rfl
@[simp] theorem ts129 : tsize Tryz.prog 129 = some 1 := by kernel_rfl
@[simp] theorem tal129 (H : AHeap) : aAlloc Tryz.prog H 129 = some (.pointer (some ⟨H.length, 0, some 1⟩), H ++ [.cells [.map none] 129]) := by kernel_rfl
@[simp] theorem tm129 : mtype Tryz.prog 129 = some ((TypeDesc.int IntKind.u8), 133) := by kernel_rfl
@[simp] theorem tz129 : tzero Tryz.prog 133 = some (.agg #[.string ⟨#[]⟩, .nilFunc]) := by kernel_rfl
@[simp] theorem tu129 : Tryz.prog.underlying 129 = some (TypeDesc.map 5 133) := by kernel_rfl
@[simp] theorem tg130 : tagg Tryz.prog 130 = some false := by kernel_rfl
@[simp] theorem ts130 : tsize Tryz.prog 130 = some 1 := by kernel_rfl
@[simp] theorem tal130 (H : AHeap) : aAlloc Tryz.prog H 130 = some (.pointer (some ⟨H.length, 0, some 1⟩), H ++ [.cells [.nilFunc] 130]) := by kernel_rfl
@[simp] theorem tu130 : Tryz.prog.underlying 130 = some (TypeDesc.func #[] #[129] false) := by kernel_rfl
@[simp] theorem tg131 : tagg Tryz.prog 131 = some false := by kernel_rfl
@[simp] theorem ts131 : tsize Tryz.prog 131 = some 1 := by kernel_rfl
@[simp] theorem tal131 (H : AHeap) : aAlloc Tryz.prog H 131 = some (.pointer (some ⟨H.length, 0, some 1⟩), H ++ [.cells [.nilFunc] 131]) := by kernel_rfl
@[simp] theorem tu131 : Tryz.prog.underlying 131 = some (TypeDesc.func #[9, 9] #[4] false) := by kernel_rfl
@[simp] theorem tg132 : tagg Tryz.prog 132 = some true := by kernel_rfl
@[simp] theorem ts132 : tsize Tryz.prog 132 = some 2 := by kernel_rfl
@[simp] theorem tf132x0 : afield Tryz.prog 132 0 = some (0, 9) := by kernel_rfl
@[simp] theorem tf132x1 : afield Tryz.prog 132 1 = some (1, 131) := by kernel_rfl
@[simp] theorem tal132 (H : AHeap) : aAlloc Tryz.prog H 132 = some (.pointer (some ⟨H.length, 0, some 2⟩), H ++ [.cells [.string ⟨#[]⟩, .nilFunc] 132]) := by kernel_rfl
@[simp] theorem tbv132 (l : List (Nat × Value)) : buildV Tryz.prog 132 l = bldV #[.string ⟨#[]⟩, .nilFunc] [(0, 1), (1, 1)] l := by kernel_rfl
@[simp] theorem tg133 : tagg Tryz.prog 133 = some true := by kernel_rfl
@[simp] theorem ts133 : tsize Tryz.prog 133 = some 2 := by kernel_rfl
@[simp] theorem tf133x0 : afield Tryz.prog 133 0 = some (0, 9) := by kernel_rfl
@[simp] theorem tf133x1 : afield Tryz.prog 133 1 = some (1, 131) := by kernel_rfl
@[simp] theorem tal133 (H : AHeap) : aAlloc Tryz.prog H 133 = some (.pointer (some ⟨H.length, 0, some 2⟩), H ++ [.cells [.string ⟨#[]⟩, .nilFunc] 133]) := by kernel_rfl
@[simp] theorem tbv133 (l : List (Nat × Value)) : buildV Tryz.prog 133 l = bldV #[.string ⟨#[]⟩, .nilFunc] [(0, 1), (1, 1)] l := by kernel_rfl
@[simp] theorem tg135 : tagg Tryz.prog 135 = some false := by kernel_rfl
@[simp] theorem ts135 : tsize Tryz.prog 135 = some 1 := by kernel_rfl
@[simp] theorem tal135 (H : AHeap) : aAlloc Tryz.prog H 135 = some (.pointer (some ⟨H.length, 0, some 1⟩), H ++ [.cells [.nilFunc] 135]) := by kernel_rfl
@[simp] theorem tu135 : Tryz.prog.underlying 135 = some (TypeDesc.func #[32] #[9] true) := by kernel_rfl
@[simp] theorem tg136 : tagg Tryz.prog 136 = some false := by kernel_rfl
@[simp] theorem ts136 : tsize Tryz.prog 136 = some 1 := by kernel_rfl
@[simp] theorem tal136 (H : AHeap) : aAlloc Tryz.prog H 136 = some (.pointer (some ⟨H.length, 0, some 1⟩), H ++ [.cells [.nilFunc] 136]) := by kernel_rfl
@[simp] theorem tu136 : Tryz.prog.underlying 136 = some (TypeDesc.func #[2] #[2] false) := by kernel_rfl
@[simp] theorem tg137 : tagg Tryz.prog 137 = some false := by kernel_rfl
@[simp] theorem ts137 : tsize Tryz.prog 137 = some 1 := by kernel_rfl
@[simp] theorem tal137 (H : AHeap) : aAlloc Tryz.prog H 137 = some (.pointer (some ⟨H.length, 0, some 1⟩), H ++ [.cells [.nilFunc] 137]) := by kernel_rfl
@[simp] theorem tu137 : Tryz.prog.underlying 137 = some (TypeDesc.func #[9, 9] #[9] false) := by kernel_rfl
@[simp] theorem tg138 : tagg Tryz.prog 138 = some false := by kernel_rfl
@[simp] theorem ts138 : tsize Tryz.prog 138 = some 1 := by kernel_rfl
@[simp] theorem tal138 (H : AHeap) : aAlloc Tryz.prog H 138 = some (.pointer (some ⟨H.length, 0, some 1⟩), H ++ [.cells [.map none] 138]) := by kernel_rfl
@[simp] theorem tm138 : mtype Tryz.prog 138 = some ((TypeDesc.int IntKind.u8), 3) := by kernel_rfl
@[simp] theorem tz138 : tzero Tryz.prog 3 = some (.int IntKind.i64 0) := by kernel_rfl
@[simp] theorem tu138 : Tryz.prog.underlying 138 = some (TypeDesc.map 5 3) := by kernel_rfl
@[simp] theorem tg139 : tagg Tryz.prog 139 = some true := by kernel_rfl
@[simp] theorem ts139 : tsize Tryz.prog 139 = some 256 := by kernel_rfl
@[simp] theorem tu139 : Tryz.prog.underlying 139 = some (TypeDesc.array 256 42) := by kernel_rfl
@[simp] theorem tg140 : tagg Tryz.prog 140 = some false := by kernel_rfl
@[simp] theorem ts140 : tsize Tryz.prog 140 = some 1 := by kernel_rfl
@[simp] theorem tal140 (H : AHeap) : aAlloc Tryz.prog H 140 = some (.pointer (some ⟨H.length, 0, some 1⟩), H ++ [.cells [.nilFunc] 140]) := by kernel_rfl
@[simp] theorem tu140 : Tryz.prog.underlying 140 = some (TypeDesc.func #[42] #[42] false) := by kernel_rfl
@[simp] theorem tg141 : tagg Tryz.prog 141 = some false := by kernel_rfl
@[simp] theorem ts141 : tsize Tryz.prog 141 = some 1 := by kernel_rfl
@[simp] theorem tal141 (H : AHeap) : aAlloc Tryz.prog H 141 = some (.pointer (some ⟨H.length, 0, some 1⟩), H ++ [.cells [.int IntKind.u64 0] 141]) := by kernel_rfl
@[simp] theorem tu141 : Tryz.prog.underlying 141 = some (TypeDesc.int IntKind.u64) := by kernel_rfl
@[simp] theorem tg142 : tagg Tryz.prog 142 = some false := by kernel_rfl
@[simp] theorem ts142 : tsize Tryz.prog 142 = some 1 := by kernel_rfl
@[simp] theorem tal142 (H : AHeap) : aAlloc Tryz.prog H 142 = some (.pointer (some ⟨H.length, 0, some 1⟩), H ++ [.cells [.nilFunc] 142]) := by kernel_rfl
@[simp] theorem tu142 : Tryz.prog.underlying 142 = some (TypeDesc.func #[121, 28] #[4] false) := by kernel_rfl
@[simp] theorem tg143 : tagg Tryz.prog 143 = some false := by kernel_rfl
@[simp] theorem ts143 : tsize Tryz.prog 143 = some 1 := by kernel_rfl
@[simp] theorem tal143 (H : AHeap) : aAlloc Tryz.prog H 143 = some (.pointer (some ⟨H.length, 0, some 1⟩), H ++ [.cells [.nilFunc] 143]) := by kernel_rfl
@[simp] theorem tu143 : Tryz.prog.underlying 143 = some (TypeDesc.func #[9, 3] #[3] false) := by kernel_rfl
@[simp] theorem tg145 : tagg Tryz.prog 145 = some false := by kernel_rfl
@[simp] theorem ts145 : tsize Tryz.prog 145 = some 1 := by kernel_rfl
@[simp] theorem tal145 (H : AHeap) : aAlloc Tryz.prog H 145 = some (.pointer (some ⟨H.length, 0, some 1⟩), H ++ [.cells [.nilFunc] 145]) := by kernel_rfl
@[simp] theorem tu145 : Tryz.prog.underlying 145 = some (TypeDesc.func #[9, 3] #[121, 3] false) := by kernel_rfl
@[simp] theorem tg146 : tagg Tryz.prog 146 = some false := by kernel_rfl
@[simp] theorem ts146 : tsize Tryz.prog 146 = some 1 := by kernel_rfl
@[simp] theorem tal146 (H : AHeap) : aAlloc Tryz.prog H 146 = some (.pointer (some ⟨H.length, 0, some 1⟩), H ++ [.cells [.nilFunc] 146]) := by kernel_rfl
@[simp] theorem tu146 : Tryz.prog.underlying 146 = some (TypeDesc.func #[5, 32] #[5] false) := by kernel_rfl
@[simp] theorem tg147 : tagg Tryz.prog 147 = some false := by kernel_rfl
@[simp] theorem ts147 : tsize Tryz.prog 147 = some 1 := by kernel_rfl
@[simp] theorem tal147 (H : AHeap) : aAlloc Tryz.prog H 147 = some (.pointer (some ⟨H.length, 0, some 1⟩), H ++ [.cells [.nilFunc] 147]) := by kernel_rfl
@[simp] theorem tu147 : Tryz.prog.underlying 147 = some (TypeDesc.func #[] #[73] false) := by kernel_rfl
@[simp] theorem tg148 : tagg Tryz.prog 148 = some false := by kernel_rfl
@[simp] theorem ts148 : tsize Tryz.prog 148 = some 1 := by kernel_rfl
@[simp] theorem tal148 (H : AHeap) : aAlloc Tryz.prog H 148 = some (.pointer (some ⟨H.length, 0, some 1⟩), H ++ [.cells [.nilFunc] 148]) := by kernel_rfl
@[simp] theorem tu148 : Tryz.prog.underlying 148 = some (TypeDesc.func #[] #[3] false) := by kernel_rfl
@[simp] theorem tg149 : tagg Tryz.prog 149 = some false := by kernel_rfl
@[simp] theorem ts149 : tsize Tryz.prog 149 = some 1 := by kernel_rfl
@[simp] theorem tal149 (H : AHeap) : aAlloc Tryz.prog H 149 = some (.pointer (some ⟨H.length, 0, some 1⟩), H ++ [.cells [.nilFunc] 149]) := by kernel_rfl
@[simp] theorem tu149 : Tryz.prog.underlying 149 = some (TypeDesc.func #[] #[2] false) := by kernel_rfl
@[simp] theorem tg150 : tagg Tryz.prog 150 = some false := by kernel_rfl
@[simp] theorem ts150 : tsize Tryz.prog 150 = some 1 := by kernel_rfl
@[simp] theorem tal150 (H : AHeap) : aAlloc Tryz.prog H 150 = some (.pointer (some ⟨H.length, 0, some 1⟩), H ++ [.cells [.nilFunc] 150]) := by kernel_rfl
@[simp] theorem tu150 : Tryz.prog.underlying 150 = some (TypeDesc.func #[73] #[4] false) := by kernel_rfl
@[simp] theorem tg151 : tagg Tryz.prog 151 = some false := by kernel_rfl
@[simp] theorem ts151 : tsize Tryz.prog 151 = some 1 := by kernel_rfl
@[simp] theorem tal151 (H : AHeap) : aAlloc Tryz.prog H 151 = some (.pointer (some ⟨H.length, 0, some 1⟩), H ++ [.cells [.pointer none] 151]) := by kernel_rfl
@[simp] theorem tu151 : Tryz.prog.underlying 151 = some TypeDesc.unsafePointer := by kernel_rfl
@[simp] theorem tg152 : tagg Tryz.prog 152 = some false := by kernel_rfl
@[simp] theorem ts152 : tsize Tryz.prog 152 = some 1 := by kernel_rfl
@[simp] theorem tal152 (H : AHeap) : aAlloc Tryz.prog H 152 = some (.pointer (some ⟨H.length, 0, some 1⟩), H ++ [.cells [.nilFunc] 152]) := by kernel_rfl
@[simp] theorem tu152 : Tryz.prog.underlying 152 = some (TypeDesc.func #[151] #[151] false) := by kernel_rfl
@[simp] theorem tg153 : tagg Tryz.prog 153 = some false := by kernel_rfl
@[simp] theorem ts153 : tsize Tryz.prog 153 = some 1 := by kernel_rfl
@[simp] theorem tal153 (H : AHeap) : aAlloc Tryz.prog H 153 = some (.pointer (some ⟨H.length, 0, some 1⟩), H ++ [.cells [.nilFunc] 153]) := by kernel_rfl
@[simp] theorem tu153 : Tryz.prog.underlying 153 = some (TypeDesc.func #[3] #[47] false) := by kernel_rfl
@[simp] theorem tg154 : tagg Tryz.prog 154 = some true := by kernel_rfl
@[simp] theorem ts154 : tsize Tryz.prog 154 = some 24 := by kernel_rfl
@[simp] theorem tal154 (H : AHeap) : aAlloc Tryz.prog H 154 = some (.pointer (some ⟨H.length, 0, some 24⟩), H ++ [.cells [.int IntKind.u8 0, .int IntKind.u8 0, .int IntKind.u8 0, .int IntKind.u8 0, .int IntKind.u8 0, .int IntKind.u8 0, .int IntKind.u8 0, .int IntKind.u8 0, .int IntKind.u8 0, .int IntKind.u8 0, .int IntKind.u8 0, .int IntKind.u8 0, .int IntKind.u8 0, .int IntKind.u8 0, .int IntKind.u8 0, .int IntKind.u8 0, .int IntKind.u8 0, .int IntKind.u8 0, .int IntKind.u8 0, .int IntKind.u8 0, .int IntKind.u8 0, .int IntKind.u8 0, .int IntKind.u8 0, .int IntKind.u8 0] 154]) := by kernel_rfl
@[simp] theorem tu154 : Tryz.prog.underlying 154 = some (TypeDesc.array 24 5) := by kernel_rfl
@[simp] theorem tg155 : tagg Tryz.prog 155 = some false := by kernel_rfl
@[simp] theorem ts155 : tsize Tryz.prog 155 = some 1 := by kernel_rfl
@[simp] theorem tal155 (H : AHeap) : aAlloc Tryz.prog H 155 = some (.pointer (some ⟨H.length, 0, some 1⟩), H ++ [.cells [.int IntKind.u64 0] 155]) := by kernel_rfl
@[simp] theorem tu155 : Tryz.prog.underlying 155 = some (TypeDesc.int IntKind.u64) := by kernel_rfl
@[simp] theorem tg156 : tagg Tryz.prog 156 = some false := by kernel_rfl
@[simp] theorem ts156 : tsize Tryz.prog 156 = some 1 := by kernel_rfl
@[simp] theorem tal156 (H : AHeap) : aAlloc Tryz.prog H 156 = some (.pointer (some ⟨H.length, 0, some 1⟩), H ++ [.cells [.nilFunc] 156]) := by kernel_rfl
@[simp] theorem tu156 : Tryz.prog.underlying 156 = some (TypeDesc.func #[155] #[3] false) := by kernel_rfl
@[simp] theorem tg157 : tagg Tryz.prog 157 = some false := by kernel_rfl
@[simp] theorem ts157 : tsize Tryz.prog 157 = some 1 := by kernel_rfl
@[simp] theorem tal157 (H : AHeap) : aAlloc Tryz.prog H 157 = some (.pointer (some ⟨H.length, 0, some 1⟩), H ++ [.cells [.nilFunc] 157]) := by kernel_rfl
@[simp] theorem tu157 : Tryz.prog.underlying 157 = some (TypeDesc.func #[47, 155] #[] false) := by kernel_rfl
@[simp] theorem tg159 : tagg Tryz.prog 159 = some false := by kernel_rfl
@[simp] theorem ts159 : tsize Tryz.prog 159 = some 1 := by kernel_rfl
@[simp] theorem tal159 (H : AHeap) : aAlloc Tryz.prog H 159 = some (.pointer (some ⟨H.length, 0, some 1⟩), H ++ [.cells [.nilFunc] 159]) := by kernel_rfl
@[simp] theorem tu159 : Tryz.prog.underlying 159 = some (TypeDesc.func #[47, 155, 3, 4, 4] #[47, 9] false) := by kernel_rfl
@[simp] theorem tg160 : tagg Tryz.prog 160 = some false := by kernel_rfl
@[simp] theorem ts160 : tsize Tryz.prog 160 = some 1 := by kernel_rfl
@[simp] theorem tal160 (H : AHeap) : aAlloc Tryz.prog H 160 = some (.pointer (some ⟨H.length, 0, some 1⟩), H ++ [.cells [.nilFunc] 160]) := by kernel_rfl
@[simp] theorem tu160 : Tryz.prog.underlying 160 = some (TypeDesc.func #[5] #[105] false) := by kernel_rfl
@[simp] theorem tg161 : tagg Tryz.prog 161 = some false := by kernel_rfl
@[simp] theorem ts161 : tsize Tryz.prog 161 = some 1 := by kernel_rfl
@[simp] theorem tal161 (H : AHeap) : aAlloc Tryz.prog H 161 = some (.pointer (some ⟨H.length, 0, some 1⟩), H ++ [.cells [.nilFunc] 161]) := by kernel_rfl
@[simp] theorem tu161 : Tryz.prog.underlying 161 = some (TypeDesc.func #[9, 5] #[9] false) := by kernel_rfl
@[simp] theorem tg162 : tagg Tryz.prog 162 = some true := by kernel_rfl
@[simp] theorem ts162 : tsize Tryz.prog 162 = some 256 := by kernel_rfl
@[simp] theorem tu162 : Tryz.prog.underlying 162 = some (TypeDesc.array 256 4) := by kernel_rfl
@[simp] theorem tg163 : tagg Tryz.prog 163 = some true := by kernel_rfl
@[simp] theorem ts163 : tsize Tryz.prog 163 = some 256 := by kernel_rfl
@[simp] theorem tu163 : Tryz.prog.underlying 163 = some (TypeDesc.array 256 4) := by kernel_rfl
@[simp] theorem tg165 : tagg Tryz.prog 165 = some false := by kernel_rfl
@[simp] theorem ts165 : tsize Tryz.prog 165 = some 1 := by kernel_rfl
@[simp] theorem tal165 (H : AHeap) : aAlloc Tryz.prog H 165 = some (.pointer (some ⟨H.length, 0, some 1⟩), H ++ [.cells [.nilFunc] 165]) := by kernel_rfl
@[simp] theorem tu165 : Tryz.prog.underlying 165 = some (TypeDesc.func #[9] #[163, 4] false) := by kernel_rfl
@[simp] theorem tg166 : tagg Tryz.prog 166 = some false := by kernel_rfl
@[simp] theorem ts166 : tsize Tryz.prog 166 = some 1 := by kernel_rfl
@[simp] theorem tal166 (H : AHeap) : aAlloc Tryz.prog H 166 = some (.pointer (some ⟨H.length, 0, some 1⟩), H ++ [.cells [.nilFunc] 166]) := by kernel_rfl
@[simp] theorem tu166 : Tryz.prog.underlying 166 = some (TypeDesc.func #[9, 167] #[9] false) := by kernel_rfl
@[simp] theorem tg167 : tagg Tryz.prog 167 = some false := by kernel_rfl
@[simp] theorem ts167 : tsize Tryz.prog 167 = some 1 := by kernel_rfl
@[simp] theorem tal167 (H : AHeap) : aAlloc Tryz.prog H 167 = some (.pointer (some ⟨H.length, 0, some 1⟩), H ++ [.cells [.pointer none] 167]) := by kernel_rfl
@[simp] theorem tu167 : Tryz.prog.underlying 167 = some (TypeDesc.pointer 163) := by kernel_rfl
@[simp] theorem tg168 : tagg Tryz.prog 168 = some false := by kernel_rfl
@[simp] theorem ts168 : tsize Tryz.prog 168 = some 1 := by kernel_rfl
@[simp] theorem tal168 (H : AHeap) : aAlloc Tryz.prog H 168 = some (.pointer (some ⟨H.length, 0, some 1⟩), H ++ [.cells [.nilFunc] 168]) := by kernel_rfl
@[simp] theorem tu168 : Tryz.prog.underlying 168 = some (TypeDesc.func #[9, 5] #[3] false) := by kernel_rfl
@[simp] theorem tg169 : tagg Tryz.prog 169 = some false := by kernel_rfl
@[simp] theorem ts169 : tsize Tryz.prog 169 = some 1 := by kernel_rfl
@[simp] theorem tal169 (H : AHeap) : aAlloc Tryz.prog H 169 = some (.pointer (some ⟨H.length, 0, some 1⟩), H ++ [.cells [.nilFunc] 169]) := by kernel_rfl
@[simp] theorem tu169 : Tryz.prog.underlying 169 = some (TypeDesc.func #[9, 3, 95] #[3] false) := by kernel_rfl
@[simp] theorem tg171 : tagg Tryz.prog 171 = some false := by kernel_rfl
@[simp] theorem ts171 : tsize Tryz.prog 171 = some 1 := by kernel_rfl
@[simp] theorem tal171 (H : AHeap) : aAlloc Tryz.prog H 171 = some (.pointer (some ⟨H.length, 0, some 1⟩), H ++ [.cells [.nilFunc] 171]) := by kernel_rfl
@[simp] theorem tu171 : Tryz.prog.underlying 171 = some (TypeDesc.func #[9, 3] #[9, 3] false) := by kernel_rfl
@[simp] theorem tg173 : tagg Tryz.prog 173 = some false := by kernel_rfl
@[simp] theorem ts173 : tsize Tryz.prog 173 = some 1 := by kernel_rfl
@[simp] theorem tal173 (H : AHeap) : aAlloc Tryz.prog H 173 = some (.pointer (some ⟨H.length, 0, some 1⟩), H ++ [.cells [.nilFunc] 173]) := by kernel_rfl
@[simp] theorem tu173 : Tryz.prog.underlying 173 = some (TypeDesc.func #[32] #[93] false) := by kernel_rfl
@[simp] theorem tg174 : tagg Tryz.prog 174 = some false := by kernel_rfl
@[simp] theorem ts174 : tsize Tryz.prog 174 = some 1 := by kernel_rfl
@[simp] theorem tal174 (H : AHeap) : aAlloc Tryz.prog H 174 = some (.pointer (some ⟨H.length, 0, some 1⟩), H ++ [.cells [.nilFunc] 174]) := by kernel_rfl
@[simp] theorem tu174 : Tryz.prog.underlying 174 = some (TypeDesc.func #[5] #[9] false) := by kernel_rfl
@[simp] theorem tg176 : tagg Tryz.prog 176 = some false := by kernel_rfl
@[simp] theorem ts176 : tsize Tryz.prog 176 = some 1 := by kernel_rfl
@[simp] theorem tal176 (H : AHeap) : aAlloc Tryz.prog H 176 = some (.pointer (some ⟨H.length, 0, some 1⟩), H ++ [.cells [.nilFunc] 176]) := by kernel_rfl
@[simp] theorem tu176 : Tryz.prog.underlying 176 = some (TypeDesc.func #[9] #[2, 28] false) := by kernel_rfl
@[simp] theorem tg177 : tagg Tryz.prog 177 = some false := by kernel_rfl
@[simp] theorem ts177 : tsize Tryz.prog 177 = some 1 := by kernel_rfl
@[simp] theorem tal177 (H : AHeap) : aAlloc Tryz.prog H 177 = some (.pointer (some ⟨H.length, 0, some 1⟩), H ++ [.cells [.nilFunc] 177]) := by kernel_rfl
@[simp] theorem tu177 : Tryz.prog.underlying 177 = some (TypeDesc.func #[3] #[3] false) := by kernel_rfl
@[simp] theorem tg178 : tagg Tryz.prog 178 = some false := by kernel_rfl
@[simp] theorem ts178 : tsize Tryz.prog 178 = some 1 := by kernel_rfl
@[simp] theorem tal178 (H : AHeap) : aAlloc Tryz.prog H 178 = some (.pointer (some ⟨H.length, 0, some 1⟩), H ++ [.cells [.nilFunc] 178]) := by kernel_rfl
@[simp] theorem tu178 : Tryz.prog.underlying 178 = some (TypeDesc.func #[4] #[3] false) := by kernel_rfl
@[simp] theorem tg179 : tagg Tryz.prog 179 = some true := by kernel_rfl
@[simp] theorem ts179 : tsize Tryz.prog 179 = some 20 := by kernel_rfl
@[simp] theorem tal179 (H : AHeap) : aAlloc Tryz.prog H 179 = some (.pointer (some ⟨H.length, 0, some 20⟩), H ++ [.cells [.int IntKind.u64 0, .int IntKind.u64 0, .int IntKind.u64 0, .int IntKind.u64 0, .int IntKind.u64 0, .int IntKind.u64 0, .int IntKind.u64 0, .int IntKind.u64 0, .int IntKind.u64 0, .int IntKind.u64 0, .int IntKind.u64 0, .int IntKind.u64 0, .int IntKind.u64 0, .int IntKind.u64 0, .int IntKind.u64 0, .int IntKind.u64 0, .int IntKind.u64 0, .int IntKind.u64 0, .int IntKind.u64 0, .int IntKind.u64 0] 179]) := by kernel_rfl
@[simp] theorem tu179 : Tryz.prog.underlying 179 = some (TypeDesc.array 20 155) := by kernel_rfl
@[simp] theorem tg180 : tagg Tryz.prog 180 = some true := by kernel_rfl
@[simp] theorem ts180 : tsize Tryz.prog 180 = some 65 := by kernel_rfl
@[simp] theorem tu180 : Tryz.prog.underlying 180 = some (TypeDesc.array 65 5) := by kernel_rfl
@[simp] theorem tg181 : tagg Tryz.prog 181 = some false := by kernel_rfl
@[simp] theorem ts181 : tsize Tryz.prog 181 = some 1 := by kernel_rfl
@[simp] theorem tal181 (H : AHeap) : aAlloc Tryz.prog H 181 = some (.pointer (some ⟨H.length, 0, some 1⟩), H ++ [.cells [.nilFunc] 181]) := by kernel_rfl
@[simp] theorem tu181 : Tryz.prog.underlying 181 = some (TypeDesc.func #[3] #[4] false) := by kernel_rfl
@[simp] theorem tg182 : tagg Tryz.prog 182 = some false := by kernel_rfl
@[simp] theorem ts182 : tsize Tryz.prog 182 = some 1 := by kernel_rfl
@[simp] theorem tal182 (H : AHeap) : aAlloc Tryz.prog H 182 = some (.pointer (some ⟨H.length, 0, some 1⟩), H ++ [.cells [.nilFunc] 182]) := by kernel_rfl
@[simp] theorem tu182 : Tryz.prog.underlying 182 = some (TypeDesc.func #[141] #[3] false) := by kernel_rfl
@[simp] theorem tg184 : tagg Tryz.prog 184 = some false := by kernel_rfl
@[simp] theorem ts184 : tsize Tryz.prog 184 = some 1 := by kernel_rfl
@[simp] theorem tal184 (H : AHeap) : aAlloc Tryz.prog H 184 = some (.pointer (some ⟨H.length, 0, some 1⟩), H ++ [.cells [.nilFunc] 184]) := by kernel_rfl
@[simp] theorem tu184 : Tryz.prog.underlying 184 = some (TypeDesc.func #[9] #[21, 3] false) := by kernel_rfl
@[simp] theorem tg185 : tagg Tryz.prog 185 = some false := by kernel_rfl
@[simp] theorem ts185 : tsize Tryz.prog 185 = some 1 := by kernel_rfl
@[simp] theorem tal185 (H : AHeap) : aAlloc Tryz.prog H 185 = some (.pointer (some ⟨H.length, 0, some 1⟩), H ++ [.cells [.nilFunc] 185]) := by kernel_rfl
@[simp] theorem tu185 : Tryz.prog.underlying 185 = some (TypeDesc.func #[9, 21] #[4] false) := by kernel_rfl
@[simp] theorem tg186 : tagg Tryz.prog 186 = some false := by kernel_rfl
@[simp] theorem ts186 : tsize Tryz.prog 186 = some 1 := by kernel_rfl
@[simp] theorem tal186 (H : AHeap) : aAlloc Tryz.prog H 186 = some (.pointer (some ⟨H.length, 0, some 1⟩), H ++ [.cells [.nilFunc] 186]) := by kernel_rfl
@[simp] theorem tu186 : Tryz.prog.underlying 186 = some (TypeDesc.func #[9, 9, 3, 3, 105] #[105] false) := by kernel_rfl
@[simp] theorem tg188 : tagg Tryz.prog 188 = some false := by kernel_rfl
@[simp] theorem ts188 : tsize Tryz.prog 188 = some 1 := by kernel_rfl
@[simp] theorem tal188 (H : AHeap) : aAlloc Tryz.prog H 188 = some (.pointer (some ⟨H.length, 0, some 1⟩), H ++ [.cells [.nilFunc] 188]) := by kernel_rfl
@[simp] theorem tu188 : Tryz.prog.underlying 188 = some (TypeDesc.func #[9, 9] #[9, 4] false) := by kernel_rfl
@[simp] theorem tg190 : tagg Tryz.prog 190 = some false := by kernel_rfl
@[simp] theorem ts190 : tsize Tryz.prog 190 = some 1 := by kernel_rfl
@[simp] theorem tal190 (H : AHeap) : aAlloc Tryz.prog H 190 = some (.pointer (some ⟨H.length, 0, some 1⟩), H ++ [.cells [.nilFunc] 190]) := by kernel_rfl
@[simp] theorem tu190 : Tryz.prog.underlying 190 = some (TypeDesc.func #[9] #[9, 9, 4] false) := by kernel_rfl
@[simp] theorem tg191 : tagg Tryz.prog 191 = some false := by kernel_rfl
@[simp] theorem ts191 : tsize Tryz.prog 191 = some 1 := by kernel_rfl
@[simp] theorem tal191 (H : AHeap) : aAlloc Tryz.prog H 191 = some (.pointer (some ⟨H.length, 0, some 1⟩), H ++ [.cells [.nilFunc] 191]) := by kernel_rfl
@[simp] theorem tu191 : Tryz.prog.underlying 191 = some (TypeDesc.func #[9, 3] #[9] false) := by kernel_rfl
@[simp] theorem tg192 : tagg Tryz.prog 192 = some false := by kernel_rfl
@[simp] theorem ts192 : tsize Tryz.prog 192 = some 1 := by kernel_rfl
@[simp] theorem tal192 (H : AHeap) : aAlloc Tryz.prog H 192 = some (.pointer (some ⟨H.length, 0, some 1⟩), H ++ [.cells [.nilFunc] 192]) := by kernel_rfl
@[simp] theorem tu192 : Tryz.prog.underlying 192 = some (TypeDesc.func #[42] #[3] false) := by kernel_rfl
@[simp] theorem tg193 : tagg Tryz.prog 193 = some false := by kernel_rfl
@[simp] theorem ts193 : tsize Tryz.prog 193 = some 1 := by kernel_rfl
@[simp] theorem tal193 (H : AHeap) : aAlloc Tryz.prog H 193 = some (.pointer (some ⟨H.length, 0, some 1⟩), H ++ [.cells [.nilFunc] 193]) := by kernel_rfl
@[simp] theorem tu193 : Tryz.prog.underlying 193 = some (TypeDesc.func #[9, 21] #[3] false) := by kernel_rfl
@[simp] theorem tg194 : tagg Tryz.prog 194 = some false := by kernel_rfl
@[simp] theorem ts194 : tsize Tryz.prog 194 = some 1 := by kernel_rfl
@[simp] theorem tal194 (H : AHeap) : aAlloc Tryz.prog H 194 = some (.pointer (some ⟨H.length, 0, some 1⟩), H ++ [.cells [.int IntKind.i64 0] 194]) := by kernel_rfl
@[simp] theorem tu194 : Tryz.prog.underlying 194 = some (TypeDesc.int IntKind.i64) := by kernel_rfl
@[simp] theorem tg196 : tagg Tryz.prog 196 = some false := by kernel_rfl
@[simp] theorem ts196 : tsize Tryz.prog 196 = some 1 := by kernel_rfl
@[simp] theorem tal196 (H : AHeap) : aAlloc Tryz.prog H 196 = some (.pointer (some ⟨H.length, 0, some 1⟩), H ++ [.cells [.nilFunc] 196]) := by kernel_rfl
@[simp] theorem tu196 : Tryz.prog.underlying 196 = some (TypeDesc.func #[9, 3, 3] #[2, 105] false) := by kernel_rfl
@[simp] theorem tg197 : tagg Tryz.prog 197 = some false := by kernel_rfl
@[simp] theorem ts197 : tsize Tryz.prog 197 = some 1 := by kernel_rfl
@[simp] theorem tal197 (H : AHeap) : aAlloc Tryz.prog H 197 = some (.pointer (some ⟨H.length, 0, some 1⟩), H ++ [.cells [.pointer none] 197]) := by kernel_rfl
@[simp] theorem tu197 : Tryz.prog.underlying 197 = some (TypeDesc.pointer 209) := by kernel_rfl
@[simp] theorem tg198 : tagg Tryz.prog 198 = some false := by kernel_rfl
@[simp] theorem ts198 : tsize Tryz.prog 198 = some 1 := by kernel_rfl
@[simp] theorem tal198 (H : AHeap) : aAlloc Tryz.prog H 198 = some (.pointer (some ⟨H.length, 0, some 1⟩), H ++ [.cells [.nilFunc] 198]) := by kernel_rfl
@[simp] theorem tu198 : Tryz.prog.underlying 198 = some (TypeDesc.func #[9, 9] #[197] false) := by kernel_rfl
@[simp] theorem tg199 : tagg Tryz.prog 199 = some false := by kernel_rfl
@[simp] theorem ts199 : tsize Tryz.prog 199 = some 1 := by kernel_rfl
@[simp] theorem tal199 (H : AHeap) : aAlloc Tryz.prog H 199 = some (.pointer (some ⟨H.length, 0, some 1⟩), H ++ [.cells [.nilFunc] 199]) := by kernel_rfl
@[simp] theorem tu199 : Tryz.prog.underlying 199 = some (TypeDesc.func #[9, 9, 3] #[197] false) := by kernel_rfl
@[simp] theorem tg201 : tagg Tryz.prog 201 = some false := by kernel_rfl
@[simp] theorem ts201 : tsize Tryz.prog 201 = some 1 := by kernel_rfl
@[simp] theorem tal201 (H : AHeap) : aAlloc Tryz.prog H 201 = some (.pointer (some ⟨H.length, 0, some 1⟩), H ++ [.cells [.nilFunc] 201]) := by kernel_rfl
@[simp] theorem tu201 : Tryz.prog.underlying 201 = some (TypeDesc.func #[141, 141] #[141, 141] false) := by kernel_rfl
@[simp] theorem tg202 : tagg Tryz.prog 202 = some true := by kernel_rfl
@[simp] theorem ts202 : tsize Tryz.prog 202 = some 32 := by kernel_rfl
@[simp] theorem tal202 (H : AHeap) : aAlloc Tryz.prog H 202 = some (.pointer (some ⟨H.length, 0, some 32⟩), H ++ [.cells [.int IntKind.u8 0, .int IntKind.u8 0, .int IntKind.u8 0, .int IntKind.u8 0, .int IntKind.u8 0, .int IntKind.u8 0, .int IntKind.u8 0, .int IntKind.u8 0, .int IntKind.u8 0, .int IntKind.u8 0, .int IntKind.u8 0, .int IntKind.u8 0, .int IntKind.u8 0, .int IntKind.u8 0, .int IntKind.u8 0, .int IntKind.u8 0, .int IntKind.u8 0, .int IntKind.u8 0, .int IntKind.u8 0, .int IntKind.u8 0, .int IntKind.u8 0, .int IntKind.u8 0, .int IntKind.u8 0, .int IntKind.u8 0, .int IntKind.u8 0, .int IntKind.u8 0, .int IntKind.u8 0, .int IntKind.u8 0, .int IntKind.u8 0, .int IntKind.u8 0, .int IntKind.u8 0, .int IntKind.u8 0] 202]) := by kernel_rfl
@[simp] theorem tu202 : Tryz.prog.underlying 202 = some (TypeDesc.array 32 5) := by kernel_rfl
@[simp] theorem tg203 : tagg Tryz.prog 203 = some true := by kernel_rfl
@[simp] theorem ts203 : tsize Tryz.prog 203 = some 64 := by kernel_rfl
@[simp] theorem tal203 (H : AHeap) : aAlloc Tryz.prog H 203 = some (.pointer (some ⟨H.length, 0, some 64⟩), H ++ [.cells [.int IntKind.u8 0, .int IntKind.u8 0, .int IntKind.u8 0, .int IntKind.u8 0, .int IntKind.u8 0, .int IntKind.u8 0, .int IntKind.u8 0, .int IntKind.u8 0, .int IntKind.u8 0, .int IntKind.u8 0, .int IntKind.u8 0, .int IntKind.u8 0, .int IntKind.u8 0, .int IntKind.u8 0, .int IntKind.u8 0, .int IntKind.u8 0, .int IntKind.u8 0, .int IntKind.u8 0, .int IntKind.u8 0, .int IntKind.u8 0, .int IntKind.u8 0, .int IntKind.u8 0, .int IntKind.u8 0, .int IntKind.u8 0, .int IntKind.u8 0, .int IntKind.u8 0, .int IntKind.u8 0, .int IntKind.u8 0, .int IntKind.u8 0, .int IntKind.u8 0, .int IntKind.u8 0, .int IntKind.u8 0, .int IntKind.u8 0, .int IntKind.u8 0, .int IntKind.u8 0, .int IntKind.u8 0, .int IntKind.u8 0, .int IntKind.u8 0, .int IntKind.u8 0, .int IntKind.u8 0, .int IntKind.u8 0, .int IntKind.u8 0, .int IntKind.u8 0, .int IntKind.u8 0, .int IntKind.u8 0, .int IntKind.u8 0, .int IntKind.u8 0, .int IntKind.u8 0, .int IntKind.u8 0, .int IntKind.u8 0, .int IntKind.u8 0, .int IntKind.u8 0, .int IntKind.u8 0, .int IntKind.u8 0, .int IntKind.u8 0, .int IntKind.u8 0, .int IntKind.u8 0, .int IntKind.u8 0, .int IntKind.u8 0, .int IntKind.u8 0, .int IntKind.u8 0, .int IntKind.u8 0, .int IntKind.u8 0, .int IntKind.u8 0] 203]) := by kernel_rfl
@[simp] theorem tu203 : Tryz.prog.underlying 203 = some (TypeDesc.array 64 5) := by kernel_rfl
@[simp] theorem tg204 : tagg Tryz.prog 204 = some false := by kernel_rfl
@[simp] theorem ts204 : tsize Tryz.prog 204 = some 1 := by kernel_rfl
@[simp] theorem tal204 (H : AHeap) : aAlloc Tryz.prog H 204 = some (.pointer (some ⟨H.length, 0, some 1⟩), H ++ [.cells [.nilFunc] 204]) := by kernel_rfl
@[simp] theorem tu204 : Tryz.prog.underlying 204 = some (TypeDesc.func #[21] #[4] false) := by kernel_rfl
@[simp] theorem tg205 : tagg Tryz.prog 205 = some false := by kernel_rfl
@[simp] theorem ts205 : tsize Tryz.prog 205 = some 1 := by kernel_rfl
@[simp] theorem tal205 (H : AHeap) : aAlloc Tryz.prog H 205 = some (.pointer (some ⟨H.length, 0, some 1⟩), H ++ [.cells [.nilFunc] 205]) := by kernel_rfl
@[simp] theorem tu205 : Tryz.prog.underlying 205 = some (TypeDesc.func #[9, 9] #[3] false) := by kernel_rfl
@[simp] theorem tg207 : tagg Tryz.prog 207 = some false := by kernel_rfl
@[simp] theorem ts207 : tsize Tryz.prog 207 = some 1 := by kernel_rfl
@[simp] theorem tal207 (H : AHeap) : aAlloc Tryz.prog H 207 = some (.pointer (some ⟨H.length, 0, some 1⟩), H ++ [.cells [.nilFunc] 207]) := by kernel_rfl
@[simp] theorem tu207 : Tryz.prog.underlying 207 = some (TypeDesc.func #[9, 3, 3] #[155, 105] false) := by kernel_rfl
@[simp] theorem tg208 : tagg Tryz.prog 208 = some true := by kernel_rfl
@[simp] theorem ts208 : tsize Tryz.prog 208 = some 3 := by kernel_rfl
@[simp] theorem tf208x0 : afield Tryz.prog 208 0 = some (0, 9) := by kernel_rfl
@[simp] theorem tf208x1 : afield Tryz.prog 208 1 = some (1, 9) := by kernel_rfl
@[simp] theorem tf208x2 : afield Tryz.prog 208 2 = some (2, 105) := by kernel_rfl
@[simp] theorem tal208 (H : AHeap) : aAlloc Tryz.prog H 208 = some (.pointer (some ⟨H.length, 0, some 3⟩), H ++ [.cells [.string ⟨#[]⟩, .string ⟨#[]⟩, .nilIface] 208]) := by kernel_rfl
@[simp] theorem tbv208 (l : List (Nat × Value)) : buildV Tryz.prog 208 l = bldV #[.string ⟨#[]⟩, .string ⟨#[]⟩, .nilIface] [(0, 1), (1, 1), (2, 1)] l := by kernel_rfl
@[simp] theorem tg209 : tagg Tryz.prog 209 = some true := by kernel_rfl
@[simp] theorem ts209 : tsize Tryz.prog 209 = some 3 := by kernel_rfl
@[simp] theorem tf209x0 : afield Tryz.prog 209 0 = some (0, 9) := by kernel_rfl
@[simp] theorem tf209x1 : afield Tryz.prog 209 1 = some (1, 9) := by kernel_rfl
@[simp] theorem tf209x2 : afield Tryz.prog 209 2 = some (2, 105) := by kernel_rfl
@[simp] theorem tal209 (H : AHeap) : aAlloc Tryz.prog H 209 = some (.pointer (some ⟨H.length, 0, some 3⟩), H ++ [.cells [.string ⟨#[]⟩, .string ⟨#[]⟩, .nilIface] 209]) := by kernel_rfl
@[simp] theorem tbv209 (l : List (Nat × Value)) : buildV Tryz.prog 209 l = bldV #[.string ⟨#[]⟩, .string ⟨#[]⟩, .nilIface] [(0, 1), (1, 1), (2, 1)] l := by kernel_rfl
@[simp] theorem tg210 : tagg Tryz.prog 210 = some false := by kernel_rfl
@[simp] theorem ts210 : tsize Tryz.prog 210 = some 1 := by kernel_rfl
@[simp] theorem tal210 (H : AHeap) : aAlloc Tryz.prog H 210 = some (.pointer (some ⟨H.length, 0, some 1⟩), H ++ [.cells [.nilFunc] 210]) := by kernel_rfl
@[simp] theorem tu210 : Tryz.prog.underlying 210 = some (TypeDesc.func #[9] #[105] false) := by kernel_rfl
@[simp] theorem tg212 : tagg Tryz.prog 212 = some false := by kernel_rfl
@[simp] theorem ts212 : tsize Tryz.prog 212 = some 1 := by kernel_rfl
@[simp] theorem tal212 (H : AHeap) : aAlloc Tryz.prog H 212 = some (.pointer (some ⟨H.length, 0, some 1⟩), H ++ [.cells [.nilFunc] 212]) := by kernel_rfl
@[simp] theorem tu212 : Tryz.prog.underlying 212 = some (TypeDesc.func #[42, 42] #[42, 42] false) := by kernel_rfl
@[simp] theorem tg214 : tagg Tryz.prog 214 = some false := by kernel_rfl
@[simp] theorem ts214 : tsize Tryz.prog 214 = some 1 := by kernel_rfl
@[simp] theorem tal214 (H : AHeap) : aAlloc Tryz.prog H 214 = some (.pointer (some ⟨H.length, 0, some 1⟩), H ++ [.cells [.nilFunc] 214]) := by kernel_rfl
@[simp] theorem tu214 : Tryz.prog.underlying 214 = some (TypeDesc.func #[155, 155] #[155, 155] false) := by kernel_rfl
@[simp] theorem tg215 : tagg Tryz.prog 215 = some true := by kernel_rfl
@[simp] theorem ts215 : tsize Tryz.prog 215 = some 256 := by kernel_rfl
@[simp] theorem tu215 : Tryz.prog.underlying 215 = some (TypeDesc.array 256 5) := by kernel_rfl
@[simp] theorem tg216 : tagg Tryz.prog 216 = some true := by kernel_rfl
@[simp] theorem ts216 : tsize Tryz.prog 216 = some 2 := by kernel_rfl
@[simp] theorem tf216x0 : afield Tryz.prog 216 0 = some (0, 5) := by kernel_rfl
@[simp] theorem tf216x1 : afield Tryz.prog 216 1 = some (1, 5) := by kernel_rfl
@[simp] theorem tal216 (H : AHeap) : aAlloc Tryz.prog H 216 = some (.pointer (some ⟨H.length, 0, some 2⟩), H ++ [.cells [.int IntKind.u8 0, .int IntKind.u8 0] 216]) := by kernel_rfl
@[simp] theorem tbv216 (l : List (Nat × Value)) : buildV Tryz.prog 216 l = bldV #[.int IntKind.u8 0, .int IntKind.u8 0] [(0, 1), (1, 1)] l := by kernel_rfl
@[simp] theorem tg217 : tagg Tryz.prog 217 = some true := by kernel_rfl
@[simp] theorem ts217 : tsize Tryz.prog 217 = some 2 := by kernel_rfl
@[simp] theorem tf217x0 : afield Tryz.prog 217 0 = some (0, 5) := by kernel_rfl
@[simp] theorem tf217x1 : afield Tryz.prog 217 1 = some (1, 5) := by kernel_rfl
@[simp] theorem tal217 (H : AHeap) : aAlloc Tryz.prog H 217 = some (.pointer (some ⟨H.length, 0, some 2⟩), H ++ [.cells [.int IntKind.u8 0, .int IntKind.u8 0] 217]) := by kernel_rfl
@[simp] theorem tbv217 (l : List (Nat × Value)) : buildV Tryz.prog 217 l = bldV #[.int IntKind.u8 0, .int IntKind.u8 0] [(0, 1), (1, 1)] l := by kernel_rfl
@[simp] theorem tg218 : tagg Tryz.prog 218 = some true := by kernel_rfl
@[simp] theorem ts218 : tsize Tryz.prog 218 = some 32 := by kernel_rfl
@[simp] theorem tal218 (H : AHeap) : aAlloc Tryz.prog H 218 = some (.pointer (some ⟨H.length, 0, some 32⟩), H ++ [.cells [.int IntKind.u8 0, .int IntKind.u8 0, .int IntKind.u8 0, .int IntKind.u8 0, .int IntKind.u8 0, .int IntKind.u8 0, .int IntKind.u8 0, .int IntKind.u8 0, .int IntKind.u8 0, .int IntKind.u8 0, .int IntKind.u8 0, .int IntKind.u8 0, .int IntKind.u8 0, .int IntKind.u8 0, .int IntKind.u8 0, .int IntKind.u8 0, .int IntKind.u8 0, .int IntKind.u8 0, .int IntKind.u8 0, .int IntKind.u8 0, .int IntKind.u8 0, .int IntKind.u8 0, .int IntKind.u8 0, .int IntKind.u8 0, .int IntKind.u8 0, .int IntKind.u8 0, .int IntKind.u8 0, .int IntKind.u8 0, .int IntKind.u8 0, .int IntKind.u8 0, .int IntKind.u8 0, .int IntKind.u8 0] 218]) := by kernel_rfl
@[simp] theorem tu218 : Tryz.prog.underlying 218 = some (TypeDesc.array 16 217) := by kernel_rfl
@[simp] theorem tg219 : tagg Tryz.prog 219 = some false := by kernel_rfl
@[simp] theorem ts219 : tsize Tryz.prog 219 = some 1 := by kernel_rfl
@[simp] theorem tal219 (H : AHeap) : aAlloc Tryz.prog H 219 = some (.pointer (some ⟨H.length, 0, some 1⟩), H ++ [.cells [.nilFunc] 219]) := by kernel_rfl
@[simp] theorem tu219 : Tryz.prog.underlying 219 = some (TypeDesc.func #[5] #[5] false) := by kernel_rfl
@[simp] theorem tg220 : tagg Tryz.prog 220 = some false := by kernel_rfl
@[simp] theorem ts220 : tsize Tryz.prog 220 = some 1 := by kernel_rfl
@[simp] theorem tal220 (H : AHeap) : aAlloc Tryz.prog H 220 = some (.pointer (some ⟨H.length, 0, some 1⟩), H ++ [.cells [.pointer none] 220]) := by kernel_rfl
@[simp] theorem tu220 : Tryz.prog.underlying 220 = some (TypeDesc.pointer 222) := by kernel_rfl
@[simp] theorem tg221 : tagg Tryz.prog 221 = some true := by kernel_rfl
@[simp] theorem ts221 : tsize Tryz.prog 221 = some 1 := by kernel_rfl
@[simp] theorem tf221x0 : afield Tryz.prog 221 0 = some (0, 9) := by kernel_rfl
@[simp] theorem tal221 (H : AHeap) : aAlloc Tryz.prog H 221 = some (.pointer (some ⟨H.length, 0, some 1⟩), H ++ [.cells [.string ⟨#[]⟩] 221]) := by kernel_rfl
@[simp] theorem tbv221 (l : List (Nat × Value)) : buildV Tryz.prog 221 l = bldV #[.string ⟨#[]⟩] [(0, 1)] l := by kernel_rfl
@[simp] theorem tg222 : tagg Tryz.prog 222 = some true := by kernel_rfl
@[simp] theorem ts222 : tsize Tryz.prog 222 = some 1 := by kernel_rfl
@[simp] theorem tf222x0 : afield Tryz.prog 222 0 = some (0, 9) := by kernel_rfl
@[simp] theorem tal222 (H : AHeap) : aAlloc Tryz.prog H 222 = some (.pointer (some ⟨H.length, 0, some 1⟩), H ++ [.cells [.string ⟨#[]⟩] 222]) := by kernel_rfl
@[simp] theorem tbv222 (l : List (Nat × Value)) : buildV Tryz.prog 222 l = bldV #[.string ⟨#[]⟩] [(0, 1)] l := by kernel_rfl
@[simp] theorem tg223 : tagg Tryz.prog 223 = some true := by kernel_rfl
@[simp] theorem ts223 : tsize Tryz.prog 223 = some 4 := by kernel_rfl
@[simp] theorem tf223x0 : afield Tryz.prog 223 0 = some (0, 17) := by kernel_rfl
@[simp] theorem tf223x1 : afield Tryz.prog 223 1 = some (1, 17) := by kernel_rfl
@[simp] theorem tf223x2 : afield Tryz.prog 223 2 = some (2, 17) := by kernel_rfl
@[simp] theorem tf223x3 : afield Tryz.prog 223 3 = some (3, 9) := by kernel_rfl
@[simp] theorem tal223 (H : AHeap) : aAlloc Tryz.prog H 223 = some (.pointer (some ⟨H.length, 0, some 4⟩), H ++ [.cells [.pointer none, .pointer none, .pointer none, .string ⟨#[]⟩] 223]) := by kernel_rfl
@[simp] theorem tbv223 (l : List (Nat × Value)) : buildV Tryz.prog 223 l = bldV #[.pointer none, .pointer none, .pointer none, .string ⟨#[]⟩] [(0, 1), (1, 1), (2, 1), (3, 1)] l := by kernel_rfl
@[simp] theorem tg224 : tagg Tryz.prog 224 = some true := by kernel_rfl
@[simp] theorem ts224 : tsize Tryz.prog 224 = some 4 := by kernel_rfl
@[simp] theorem tf224x0 : afield Tryz.prog 224 0 = some (0, 17) := by kernel_rfl
@[simp] theorem tf224x1 : afield Tryz.prog 224 1 = some (1, 17) := by kernel_rfl
@[simp] theorem tf224x2 : afield Tryz.prog 224 2 = some (2, 17) := by kernel_rfl
@[simp] theorem tf224x3 : afield Tryz.prog 224 3 = some (3, 9) := by kernel_rfl
@[simp] theorem tal224 (H : AHeap) : aAlloc Tryz.prog H 224 = some (.pointer (some ⟨H.length, 0, some 4⟩), H ++ [.cells [.pointer none, .pointer none, .pointer none, .string ⟨#[]⟩] 224]) := by kernel_rfl
@[simp] theorem tbv224 (l : List (Nat × Value)) : buildV Tryz.prog 224 l = bldV #[.pointer none, .pointer none, .pointer none, .string ⟨#[]⟩] [(0, 1), (1, 1), (2, 1), (3, 1)] l := by kernel_rfl
@[simp] theorem tg225 : tagg Tryz.prog 225 = some true := by kernel_rfl
@[simp] theorem ts225 : tsize Tryz.prog 225 = some 0 := by kernel_rfl
@[simp] theorem tal225 (H : AHeap) : aAlloc Tryz.prog H 225 = some (.pointer (some ⟨H.length, 0, some 0⟩), H ++ [.cells [] 225]) := by kernel_rfl
@[simp] theorem tu225 : Tryz.prog.underlying 225 = some (TypeDesc.array 0 16) := by kernel_rfl
@[simp] theorem tg226 : tagg Tryz.prog 226 = some true := by kernel_rfl
@[simp] theorem ts226 : tsize Tryz.prog 226 = some 0 := by kernel_rfl
@[simp] theorem tf226x0 : afield Tryz.prog 226 0 = some (0, 225) := by kernel_rfl
@[simp] theorem tal226 (H : AHeap) : aAlloc Tryz.prog H 226 = some (.pointer (some ⟨H.length, 0, some 0⟩), H ++ [.cells [] 226]) := by kernel_rfl
@[simp] theorem tg227 : tagg Tryz.prog 227 = some true := by kernel_rfl
@[simp] theorem ts227 : tsize Tryz.prog 227 = some 0 := by kernel_rfl
@[simp] theorem tf227x0 : afield Tryz.prog 227 0 = some (0, 225) := by kernel_rfl
@[simp] theorem tal227 (H : AHeap) : aAlloc Tryz.prog H 227 = some (.pointer (some ⟨H.length, 0, some 0⟩), H ++ [.cells [] 227]) := by kernel_rfl
@[simp] theorem tg228 : tagg Tryz.prog 228 = some false := by kernel_rfl
@[simp] theorem ts228 : tsize Tryz.prog 228 = some 1 := by kernel_rfl
@[simp] theorem tal228 (H : AHeap) : aAlloc Tryz.prog H 228 = some (.pointer (some ⟨H.length, 0, some 1⟩), H ++ [.cells [.int IntKind.u8 0] 228]) := by kernel_rfl
@[simp] theorem tu228 : Tryz.prog.underlying 228 = some (TypeDesc.int IntKind.u8) := by kernel_rfl
@[simp] theorem tg229 : tagg Tryz.prog 229 = some false := by kernel_rfl
@[simp] theorem ts229 : tsize Tryz.prog 229 = some 1 := by kernel_rfl
@[simp] theorem tal229 (H : AHeap) : aAlloc Tryz.prog H 229 = some (.pointer (some ⟨H.length, 0, some 1⟩), H ++ [.cells [.int IntKind.u8 0] 229]) := by kernel_rfl
@[simp] theorem tu229 : Tryz.prog.underlying 229 = some (TypeDesc.int IntKind.u8) := by kernel_rfl
@[simp] theorem tg230 : tagg Tryz.prog 230 = some false := by kernel_rfl
@[simp] theorem ts230 : tsize Tryz.prog 230 = some 1 := by kernel_rfl
@[simp] theorem tal230 (H : AHeap) : aAlloc Tryz.prog H 230 = some (.pointer (some ⟨H.length, 0, some 1⟩), H ++ [.cells [.nilFunc] 230]) := by kernel_rfl
@[simp] theorem tu230 : Tryz.prog.underlying 230 = some (TypeDesc.func #[151, 151] #[4] false) := by kernel_rfl
@[simp] theorem tg231 : tagg Tryz.prog 231 = some false := by kernel_rfl
@[simp] theorem ts231 : tsize Tryz.prog 231 = some 1 := by kernel_rfl
@[simp] theorem tal231 (H : AHeap) : aAlloc Tryz.prog H 231 = some (.pointer (some ⟨H.length, 0, some 1⟩), H ++ [.cells [.int IntKind.i32 0] 231]) := by kernel_rfl
@[simp] theorem tu231 : Tryz.prog.underlying 231 = some (TypeDesc.int IntKind.i32) := by kernel_rfl
@[simp] theorem tg232 : tagg Tryz.prog 232 = some false := by kernel_rfl
@[simp] theorem ts232 : tsize Tryz.prog 232 = some 1 := by kernel_rfl
@[simp] theorem tal232 (H : AHeap) : aAlloc Tryz.prog H 232 = some (.pointer (some ⟨H.length, 0, some 1⟩), H ++ [.cells [.int IntKind.i32 0] 232]) := by kernel_rfl
@[simp] theorem tu232 : Tryz.prog.underlying 232 = some (TypeDesc.int IntKind.i32) := by kernel_rfl
@[simp] theorem tg233 : tagg Tryz.prog 233 = some true := by kernel_rfl
@[simp] theorem ts233 : tsize Tryz.prog 233 = some 11 := by kernel_rfl
@[simp] theorem tf233x0 : afield Tryz.prog 233 0 = some (0, 12) := by kernel_rfl
@[simp] theorem tf233x1 : afield Tryz.prog 233 1 = some (1, 12) := by kernel_rfl
@[simp] theorem tf233x2 : afield Tryz.prog 233 2 = some (2, 42) := by kernel_rfl
@[simp] theorem tf233x3 : afield Tryz.prog 233 3 = some (3, 228) := by kernel_rfl
@[simp] theorem tf233x4 : afield Tryz.prog 233 4 = some (4, 5) := by kernel_rfl
@[simp] theorem tf233x5 : afield Tryz.prog 233 5 = some (5, 5) := by kernel_rfl
@[simp] theorem tf233x6 : afield Tryz.prog 233 6 = some (6, 229) := by kernel_rfl
@[simp] theorem tf233x7 : afield Tryz.prog 233 7 = some (7, 230) := by kernel_rfl
@[simp] theorem tf233x8 : afield Tryz.prog 233 8 = some (8, 127) := by kernel_rfl
@[simp] theorem tf233x9 : afield Tryz.prog 233 9 = some (9, 231) := by kernel_rfl
@[simp] theorem tf233x10 : afield Tryz.prog 233 10 = some (10, 232) := by kernel_rfl
@[simp] theorem tal233 (H : AHeap) : aAlloc Tryz.prog H 233 = some (.pointer (some ⟨H.length, 0, some 11⟩), H ++ [.cells [.int IntKind.u64 0, .int IntKind.u64 0, .int IntKind.u32 0, .int IntKind.u8 0, .int IntKind.u8 0, .int IntKind.u8 0, .int IntKind.u8 0, .nilFunc, .pointer none, .int IntKind.i32 0, .int IntKind.i32 0] 233]) := by kernel_rfl
@[simp] theorem tbv233 (l : List (Nat × Value)) : buildV Tryz.prog 233 l = bldV #[.int IntKind.u64 0, .int IntKind.u64 0, .int IntKind.u32 0, .int IntKind.u8 0, .int IntKind.u8 0, .int IntKind.u8 0, .int IntKind.u8 0, .nilFunc, .pointer none, .int IntKind.i32 0, .int IntKind.i32 0] [(0, 1), (1, 1), (2, 1), (3, 1), (4, 1), (5, 1), (6, 1), (7, 1), (8, 1), (9, 1), (10, 1)] l := by kernel_rfl
@[simp] theorem tg234 : tagg Tryz.prog 234 = some true := by kernel_rfl
@[simp] theorem ts234 : tsize Tryz.prog 234 = some 11 := by kernel_rfl
@[simp] theorem tf234x0 : afield Tryz.prog 234 0 = some (0, 12) := by kernel_rfl
@[simp] theorem tf234x1 : afield Tryz.prog 234 1 = some (1, 12) := by kernel_rfl
@[simp] theorem tf234x2 : afield Tryz.prog 234 2 = some (2, 42) := by kernel_rfl
@[simp] theorem tf234x3 : afield Tryz.prog 234 3 = some (3, 228) := by kernel_rfl
@[simp] theorem tf234x4 : afield Tryz.prog 234 4 = some (4, 5) := by kernel_rfl
@[simp] theorem tf234x5 : afield Tryz.prog 234 5 = some (5, 5) := by kernel_rfl
@[simp] theorem tf234x6 : afield Tryz.prog 234 6 = some (6, 229) := by kernel_rfl
@[simp] theorem tf234x7 : afield Tryz.prog 234 7 = some (7, 230) := by kernel_rfl
@[simp] theorem tf234x8 : afield Tryz.prog 234 8 = some (8, 127) := by kernel_rfl
@[simp] theorem tf234x9 : afield Tryz.prog 234 9 = some (9, 231) := by kernel_rfl
@[simp] theorem tf234x10 : afield Tryz.prog 234 10 = some (10, 232) := by kernel_rfl
@[simp] theorem tal234 (H : AHeap) : aAlloc Tryz.prog H 234 = some (.pointer (some ⟨H.length, 0, some 11⟩), H ++ [.cells [.int IntKind.u64 0, .int IntKind.u64 0, .int IntKind.u32 0, .int IntKind.u8 0, .int IntKind.u8 0, .int IntKind.u8 0, .int IntKind.u8 0, .nilFunc, .pointer none, .int IntKind.i32 0, .int IntKind.i32 0] 234]) := by kernel_rfl
@[simp] theorem tbv234 (l : List (Nat × Value)) : buildV Tryz.prog 234 l = bldV #[.int IntKind.u64 0, .int IntKind.u64 0, .int IntKind.u32 0, .int IntKind.u8 0, .int IntKind.u8 0, .int IntKind.u8 0, .int IntKind.u8 0, .nilFunc, .pointer none, .int IntKind.i32 0, .int IntKind.i32 0] [(0, 1), (1, 1), (2, 1), (3, 1), (4, 1), (5, 1), (6, 1), (7, 1), (8, 1), (9, 1), (10, 1)] l := by kernel_rfl
end Go.Vi
namespace Go.Vi
open Go.RowKit
variable {P : Program}

def keepP (P : Program) (ops : Array Oper) (mask : Nat) (H : AHeap) : List (Nat × Oper × List Value × Value) → Prop
  | [] => True
  | (j, o, sl, v) :: r => if mask.testBit j = true then keepP P ops mask H r else gval P ops sl H o = some v ∧ keepP P ops mask H r
theorem keepP_get {ops mask H} : ∀ {ps : List (Nat × Oper × List Value × Value)}, keepP P ops mask H ps → ∀ {j o sl v}, (j, o, sl, v) ∈ ps → mask.testBit j = false → gval P ops sl H o = some v := by
  intro ps
  induction ps with
  | nil => intro _ j o sl v hm; cases hm
  | cons e r ih =>
    obtain ⟨j0, o0, sl0, v0⟩ := e
    intro h j o sl v hm hb
    unfold keepP at h
    rcases List.mem_cons.1 hm with he | hm
    · cases he
      rw [if_neg (by simp [hb])] at h
      exact h.1
    · split at h
      · exact ih h hm hb
      · exact ih h.2 hm hb
def kdrawK (P : Program) (ops : Array Oper) (k : List Value → AHeap → Prop) : List Oper → List DRow → Nat → List (Nat × Oper × List Value × Value) → List Value → AHeap → List AHeap → Prop
  | o :: os, r :: rs, p, ps, sl, H, hs =>
    if r.eff = true then ∃ v H', geff P ops sl H o v H' ∧ (r.bar = true ∨ (∃ X, H' = H ++ X) ∨ r.late = true ∧ keepP P ops r.mask H' ps) ∧ kdrawK P ops k os rs (p + 1) ps (aput sl o.dst v) H' (H :: hs)
    else match (H :: hs)[r.back]? with
      | some K => if freeOp o.op = true then ∃ v, gval P ops sl K o = some v ∧ kdrawK P ops k os rs (p + 1) ps (aput sl o.dst v) H hs
        else if pureOp P o.op = true then ∃ v, gval P ops sl K o = some v ∧ kdrawK P ops k os rs (p + 1) ((p, o, sl, v) :: ps) (aput sl o.dst v) H hs
        else False
      | none => False
  | [], _, _, _, sl, H, _ => k sl H
  | _, [], _, _, _, _, _ => False
theorem free_pure {o : Oper} (h : freeOp o.op = true) : pureOp P o.op = true := by
  unfold freeOp at h
  split at h <;> first | (rename_i e; rw [e]; rfl) | cases h
theorem kdrawK_trace {ops} {k : List Value → AHeap → Prop} : ∀ (os : List Oper) (rs : List DRow) (p0 : Nat) (ps : List (Nat × Oper × List Value × Value)) (sl : List Value) (H : AHeap) (hs : List AHeap) (f0 : Nat → List Value) (g0 : Nat → Value),
    kdrawK P ops k os rs p0 ps sl H hs →
    (∀ (j : Nat) (o : Oper), j < p0 → ops[j]? = some o → ¬ deff P ops j = true → ¬ freeOp o.op = true → (j, o, f0 j, g0 j) ∈ ps) →
    (∀ i, os[i]? = ops[p0 + i]?) → (∀ (i : Nat) (r : DRow), rs[i]? = some r → r.eff = true → deff P ops (p0 + i) = true) →
    ∃ (f : Nat → List Value) (g : Nat → Value) (G : Nat → AHeap) (c : Nat → Nat), (∀ j, j < p0 → f j = f0 j ∧ g j = g0 j) ∧ f p0 = sl ∧ c p0 = hs.length ∧ (∀ i X, (H :: hs)[i]? = some X → G (hs.length - i) = X) ∧
      k (f (p0 + os.length)) (G (c (p0 + os.length))) ∧ ∀ p o r, os[p]? = some o → rs[p]? = some r → RStepK P ops f g G c (p0 + p) o r := by
  intro os
  induction os with
  | nil =>
    intro rs p0 ps sl H hs f0 g0 h _ _ _
    simp only [kdrawK] at h
    have hk : ∀ i X, (H :: hs)[i]? = some X → (fun i => ((H :: hs)[hs.length - i]?).getD []) (hs.length - i) = X := by
      intro i X hX
      have := (List.getElem?_eq_some_iff.1 hX).1
      simp only [List.length_cons] at this
      have e : hs.length - (hs.length - i) = i := by omega
      show ((H :: hs)[hs.length - (hs.length - i)]?).getD [] = X
      rw [e, hX]; rfl
    refine ⟨fun j => if j < p0 then f0 j else sl, g0, fun i => ((H :: hs)[hs.length - i]?).getD [], fun _ => hs.length, fun j hj => ⟨by simp [hj], rfl⟩, by simp, rfl, hk, by simpa using h, by simp⟩
  | cons o os ih =>
    intro rs p0 ps sl H hs f0 g0 h hps hos hrs
    cases rs with
    | nil => simp [kdrawK] at h
    | cons r rs =>
      have ho0 : ops[p0]? = some o := by have := hos 0; simpa using this.symm
      have hos' : ∀ i, os[i]? = ops[p0 + 1 + i]? := fun i => by have := hos (i + 1); simp only [List.getElem?_cons_succ] at this; rw [this]; congr 1; omega
      have hrs' : ∀ (i : Nat) (r : DRow), rs[i]? = some r → r.eff = true → deff P ops (p0 + 1 + i) = true := fun i r hr he => by
        have := hrs (i + 1) r (by simpa using hr) he
        rwa [show p0 + (i + 1) = p0 + 1 + i by omega] at this
      simp only [kdrawK] at h
      split at h
      · rename_i he
        obtain ⟨v, H2, hg, hb, h⟩ := h
        obtain ⟨f, g, G, c, hfg, fp, cp, hG, fe, st⟩ := ih rs (p0 + 1) ps _ _ _ (fun j => if j < p0 then f0 j else sl) (fun j => if j < p0 then g0 j else v) h
          (fun j oj hj hoj hd hf => by
            have hne : j ≠ p0 := fun e => hd (by rw [e]; exact hrs 0 r rfl he)
            have hlt : j < p0 := by omega
            simp only [if_pos hlt]; exact hps j oj hlt hoj hd hf) hos' hrs'
        have hGH : G hs.length = H := by have := hG 1 H rfl; simpa using this
        have hGH2 : G (hs.length + 1) = H2 := by have := hG 0 H2 rfl; simpa using this
        have hf0 : f p0 = sl := by rw [(hfg p0 (by omega)).1]; simp
        have hg0 : g p0 = v := by rw [(hfg p0 (by omega)).2]; simp
        refine ⟨f, g, G, fun p => if p = p0 then hs.length else c p, fun j hj => ?_, hf0, by simp, fun i X hX => ?_, ?_, fun p o' r' ho hr => ?_⟩
        · have := hfg j (by omega); simpa [hj] using this
        · have := hG (i + 1) X (by simpa using hX)
          simpa using this
        · have e1 : ¬ p0 + (os.length + 1) = p0 := by omega
          simp only [List.length_cons, e1, if_false]
          rw [show p0 + (os.length + 1) = p0 + 1 + os.length by omega]; exact fe
        · cases p with
          | zero =>
            simp at ho hr; subst ho hr
            have e1 : ¬ p0 + 1 = p0 := by omega
            show RStepK P ops f g G _ p0 o r
            refine ⟨by rw [fp, hf0, hg0], fun _ => ⟨by simp [cp], ?_, ?_⟩, fun q => by rw [he] at q; cases q⟩
            · simp only [eq_self, if_true]; rw [hGH, hGH2, hf0, hg0]; exact geff_step hg
            · simp only [eq_self, if_true]; rw [hGH, hGH2]
              refine hb.imp id (Or.imp id fun q => ⟨q.1, fun j o' hj hoj hd hf hm => ?_⟩)
              have hin := hps j o' hj hoj hd hf
              have h1 := hfg j (by omega)
              simp only [if_pos hj] at h1
              rw [h1.1, h1.2]
              have hpure : pureOp P o'.op = true := by
                unfold deff at hd
                simpa [hoj] using hd
              exact gval_step hpure (keepP_get q.2 hin hm)
          | succ p =>
            have k := st p o' r' (by simpa using ho) (by simpa using hr)
            have e0 : p0 + 1 + p = p0 + (p + 1) := by omega
            rw [e0] at k
            have e1 : ¬ p0 + (p + 1) = p0 := by omega
            have e2 : ¬ p0 + (p + 1) + 1 = p0 := by omega
            exact ⟨k.put, fun q => by simp only [e1, e2, if_false]; exact k.eff q, fun q => by simp only [e1, e2, if_false]; exact k.pur q⟩
      · rename_i he
        obtain ⟨K, hk, hp, v, ps', hg, hps', h⟩ : ∃ K, (H :: hs)[r.back]? = some K ∧ pureOp P o.op = true ∧ ∃ v ps', gval P ops sl K o = some v ∧ (freeOp o.op = true ∧ ps' = ps ∨ ps' = (p0, o, sl, v) :: ps) ∧ kdrawK P ops k os rs (p0 + 1) ps' (aput sl o.dst v) H hs := by
          split at h
          · rename_i K hK
            split at h
            · rename_i hp
              obtain ⟨v, hv, h⟩ := h
              exact ⟨K, hK, free_pure hp, v, ps, hv, .inl ⟨hp, rfl⟩, h⟩
            · split at h
              · rename_i hp; obtain ⟨v, hv, h⟩ := h; exact ⟨K, hK, hp, v, _, hv, .inr rfl, h⟩
              · cases h
          · cases h
        obtain ⟨f, g, G, c, hfg, fp, cp, hG, fe, st⟩ := ih rs (p0 + 1) ps' _ _ _ (fun j => if j < p0 then f0 j else sl) (fun j => if j < p0 then g0 j else v) h
          (fun j oj hj hoj hd hf => by
            by_cases hlt : j < p0
            · simp only [if_pos hlt]
              have := hps j oj hlt hoj hd hf
              rcases hps' with ⟨_, e⟩ | e
              · rw [e]; exact this
              · rw [e]; exact List.mem_cons_of_mem _ this
            · have hje : j = p0 := by omega
              subst hje
              rw [ho0] at hoj; cases hoj
              simp only [Nat.lt_irrefl, if_false]
              rcases hps' with ⟨q, _⟩ | e
              · exact absurd q hf
              · rw [e]; exact List.mem_cons_self ..) hos' hrs'
        have hf0 : f p0 = sl := by rw [(hfg p0 (by omega)).1]; simp
        have hg0 : g p0 = v := by rw [(hfg p0 (by omega)).2]; simp
        refine ⟨f, g, G, fun p => if p = p0 then hs.length else c p, fun j hj => ?_, hf0, by simp, hG, ?_, fun p o' r' ho hr => ?_⟩
        · have := hfg j (by omega); simpa [hj] using this
        · have e1 : ¬ p0 + (os.length + 1) = p0 := by omega
          simp only [List.length_cons, e1, if_false]
          rw [show p0 + (os.length + 1) = p0 + 1 + os.length by omega]; exact fe
        cases p with
        | zero =>
          simp at ho hr; subst ho hr
          have e1 : ¬ p0 + 1 = p0 := by omega
          have hbk := (List.getElem?_eq_some_iff.1 hk).1
          simp only [List.length_cons] at hbk
          show RStepK P ops f g G _ p0 o r
          refine ⟨by rw [fp, hf0, hg0], fun q => absurd q he, fun _ => ⟨by simp [cp], ?_, ?_⟩⟩
          · simp only [eq_self, if_true]; omega
          · simp only [eq_self, if_true]; rw [hG _ _ hk, hf0, hg0]; exact gval_step hp hg
        | succ p =>
          have k := st p o' r' (by simpa using ho) (by simpa using hr)
          have e0 : p0 + 1 + p = p0 + (p + 1) := by omega
          rw [e0] at k
          have e1 : ¬ p0 + (p + 1) = p0 := by omega
          have e2 : ¬ p0 + (p + 1) + 1 = p0 := by omega
          exact ⟨k.put, fun q => by simp only [e1, e2, if_false]; exact k.eff q, fun q => by simp only [e1, e2, if_false]; exact k.pur q⟩

theorem kdrawK_any [Ctx] {w0 s H w sl a ops rs k Q} (hw : WRel w0 s H w) (ha : ARel s H sl a) (hr : drows P ops = some rs) (h : kdrawK P ops k ops.toList rs 0 [] sl H [])
    (hq : ∀ sl' H', k sl' H' → APost w0 s H Q .normal (sl', H')) : wpAnyIn FF 0 P .any ops Q ops.size (Array.replicate ops.size false) a { w with drawn := w.drawn + 1 } := by
  obtain ⟨T, hok, rfl⟩ := drows_inv hr
  clear hr
  have hs : Sound P ops T := ⟨hok⟩
  have row : ∀ p, p < ops.size → ((List.range ops.size).map (T.row P ops))[p]? = some (T.row P ops p) := by
    intro p hp; simp [hp]
  obtain ⟨f, g, G, c, _, f0, c0, hG, fe, st⟩ := kdrawK_trace _ _ 0 [] _ _ _ (fun _ => sl) (fun _ => undef) h (fun j _ hj => absurd hj (by omega)) (fun i => by simp) (fun i r hr he => by
    have hi : i < ops.size := by have := (List.getElem?_eq_some_iff.1 hr).1; simpa using this
    rw [row i hi] at hr
    cases hr
    rw [Nat.zero_add]
    cases hd : deff P ops i with
    | true => rfl
    | false => simp [DTab.row, hd] at he)
  simp only [Nat.zero_add] at fe st
  have hc : ∀ p, p ≤ ops.size → c p = T.idx.getD p 0 := by
    intro p
    induction p with
    | zero => intro _; rw [c0, hs.ends.1]; rfl
    | succ p ih =>
      intro hp
      have ho : ops[p]? = some ops[p] := Array.getElem?_eq_getElem (by omega)
      have k := st p ops[p] _ (by simp) (row p (by omega))
      by_cases he : deff P ops p = true
      · have := (k.eff (by simp [DTab.row, he])).1
        rw [this, ih (by omega), (hs.effAt ho he).2.1]
      · have := (k.pur (by simp [DTab.row, he])).1
        rw [this, ih (by omega), (hs.pureAt ho he).1]
  have hd : RRun P ops T f g G := by
    refine ⟨hs, fun p o ho => ?_⟩
    have hp := (Array.getElem?_eq_some_iff.1 ho).1
    have k := st p o _ (by simpa using ho) (row p hp)
    refine ⟨k.put, fun q => ?_, fun q => ?_⟩
    · have := k.eff q
      rw [hc p (by omega), hc (p + 1) (by omega)] at this
      exact this
    · have := k.pur q
      rw [hc p (by omega), hc (p + 1) (by omega)] at this
      exact this
  have g0 : G 0 = H := by simpa using hG 0 H rfl
  have he : c ops.toList.length = T.effs.length := by simp only [Array.length_toList]; rw [hc ops.size (Nat.le_refl _), hs.ends.2.1]
  rw [he] at fe
  simp only [Array.length_toList] at fe
  refine hd.wp (H0 := H) (s0 := s) ops.size (l := Array.replicate ops.size false) (sl := f 0) (k := 0) ?_ (by simp) (by rw [g0]; exact hw.drew) (by rw [g0, f0]; exact ha) (by rw [g0]; exact Ext.refl _ _) (fun s' a' w' g1 g2 g3 => hq _ _ fe s' a' w' g1 g2 g3)
  have nol : ∀ i, ¬ isListed (Array.replicate ops.size false) i := by
    intro i
    unfold isListed
    simp [Array.getD]
  exact ⟨by simp, fun j o _ h => absurd h (nol j), rfl, fun t _ => rfl, fun i o t _ h => absurd h (nol i), fun i q _ => ⟨fun h => absurd h (nol q), fun h => by omega⟩, by omega⟩
def drawKeep (P : Program) : DrawK := fun ops k sl H => match drows P ops with
  | some rs => kdrawK P ops k ops.toList rs 0 [] sl H []
  | none => False
theorem drawKeep_sound [Ctx] (hm : P.follows .mixedOrders = true) : SoundK P (drawKeep P) := by
  intro w0 s H w sl a id ops k Q hw ha h hq
  unfold drawKeep at h
  split at h
  · rename_i rs hr; exact wpIn_region_any hm (kdrawK_any hw ha hr h hq)
  · cases h
theorem kdrawK_mono {ops} {k k' : List Value → AHeap → Prop} (hk : ∀ sl H, k sl H → k' sl H) : ∀ (os : List Oper) (rs : List DRow) {p ps sl H hs}, kdrawK P ops k os rs p ps sl H hs → kdrawK P ops k' os rs p ps sl H hs := by
  intro os
  induction os with
  | nil => intro rs p ps sl H hs h; simp only [kdrawK] at h ⊢; exact hk _ _ h
  | cons o os ih =>
    intro rs p ps sl H hs h
    cases rs with
    | nil => simp [kdrawK] at h
    | cons r rs =>
      simp only [kdrawK] at h ⊢
      split at h
      · rename_i he
        obtain ⟨v, H2, hg, hb, h⟩ := h
        rw [if_pos he]; exact ⟨v, H2, hg, hb, ih rs h⟩
      · rename_i he
        rw [if_neg he]
        split at h
        · rename_i K hK
          split at h
          · rename_i hp
            obtain ⟨v, hv, h⟩ := h
            rw [if_pos hp]; exact ⟨v, hv, ih rs h⟩
          · rename_i hp
            rw [if_neg hp]
            split at h
            · rename_i hq
              obtain ⟨v, hv, h⟩ := h
              rw [if_pos hq]; exact ⟨v, hv, ih rs h⟩
            · cases h
        · cases h
theorem kdrawK_one {ops} {k : List Value → AHeap → Prop} : ∀ (os : List Oper) (rs : List DRow) {p ps sl H hs}, kdrawK P ops k os rs p ps sl H hs → ∃ sl' H', k sl' H' ∧ kdrawK P ops (fun s2 h2 => s2 = sl' ∧ h2 = H') os rs p ps sl H hs := by
  intro os
  induction os with
  | nil => intro rs p ps sl H hs h; simp only [kdrawK] at h; exact ⟨sl, H, h, by simp only [kdrawK]; trivial⟩
  | cons o os ih =>
    intro rs p ps sl H hs h
    cases rs with
    | nil => simp [kdrawK] at h
    | cons r rs =>
      simp only [kdrawK] at h
      split at h
      · rename_i he
        obtain ⟨v, H2, hg, hb, h⟩ := h
        obtain ⟨a, b, h1, h2⟩ := ih rs h
        refine ⟨a, b, h1, ?_⟩
        simp only [kdrawK, if_pos he]; exact ⟨v, H2, hg, hb, h2⟩
      · rename_i he
        split at h
        · rename_i K hK
          split at h
          · rename_i hp
            obtain ⟨v, hv, h⟩ := h
            obtain ⟨a, b, h1, h2⟩ := ih rs h
            refine ⟨a, b, h1, ?_⟩
            simp only [kdrawK, if_neg he, hK, if_pos hp]; exact ⟨v, hv, h2⟩
          · rename_i hp
            split at h
            · rename_i hq
              obtain ⟨v, hv, h⟩ := h
              obtain ⟨a, b, h1, h2⟩ := ih rs h
              refine ⟨a, b, h1, ?_⟩
              simp only [kdrawK, if_neg he, hK, if_neg hp, if_pos hq]; exact ⟨v, hv, h2⟩
            · cases h
        · cases h
class QK where
  f : Value → AHeap → Prop
/-- A drawn step that leaves what earlier operations saw. -/
def bndK (b l : Bool) (H : AHeap) [e : QH] [s : QK] [q : QH] : Prop := ∃ v H', e.f v H' ∧ (b = true ∨ (∃ X, H' = H ++ X) ∨ l = true ∧ s.f v H') ∧ q.f v H'
theorem bndK_of {b : Bool} {H : AHeap} {e q : QH} {s : QK} {v : Value} {H' : AHeap} (h : e.f v H') (hs : s.f v H') (k : q.f v H') : @bndK b true H e s q := ⟨v, H', h, .inr (.inr ⟨rfl, hs⟩), k⟩
theorem bndK_ext {b l : Bool} {H : AHeap} {e q : QH} {s : QK} {v : Value} {H' : AHeap} (h : e.f v H') (hs : ∃ X, H' = H ++ X) (k : q.f v H') : @bndK b l H e s q := ⟨v, H', h, .inr (.inl hs), k⟩
theorem bndK_bar {l : Bool} {H : AHeap} {e q : QH} {s : QK} {v : Value} {H' : AHeap} (h : e.f v H') (k : q.f v H') : @bndK true l H e s q := ⟨v, H', h, .inl rfl, k⟩
end Go.Vi
namespace Go.Vi
open Go
def smS : ByteArray := ⟨#[48, 48, 48, 49, 48, 50, 48, 51, 48, 52, 48, 53, 48, 54, 48, 55, 48, 56, 48, 57, 49, 48, 49, 49, 49, 50, 49, 51, 49, 52, 49, 53, 49, 54, 49, 55, 49, 56, 49, 57, 50, 48, 50, 49, 50, 50, 50, 51, 50, 52, 50, 53, 50, 54, 50, 55, 50, 56, 50, 57, 51, 48, 51, 49, 51, 50, 51, 51, 51, 52, 51, 53, 51, 54, 51, 55, 51, 56, 51, 57, 52, 48, 52, 49, 52, 50, 52, 51, 52, 52, 52, 53, 52, 54, 52, 55, 52, 56, 52, 57, 53, 48, 53, 49, 53, 50, 53, 51, 53, 52, 53, 53, 53, 54, 53, 55, 53, 56, 53, 57, 54, 48, 54, 49, 54, 50, 54, 51, 54, 52, 54, 53, 54, 54, 54, 55, 54, 56, 54, 57, 55, 48, 55, 49, 55, 50, 55, 51, 55, 52, 55, 53, 55, 54, 55, 55, 55, 56, 55, 57, 56, 48, 56, 49, 56, 50, 56, 51, 56, 52, 56, 53, 56, 54, 56, 55, 56, 56, 56, 57, 57, 48, 57, 49, 57, 50, 57, 51, 57, 52, 57, 53, 57, 54, 57, 55, 57, 56, 57, 57]⟩
def dgS : ByteArray := ⟨#[48, 49, 50, 51, 52, 53, 54, 55, 56, 57, 97, 98, 99, 100, 101, 102, 103, 104, 105, 106, 107, 108, 109, 110, 111, 112, 113, 114, 115, 116, 117, 118, 119, 120, 121, 122]⟩
def l8S : ByteArray := ⟨#[0, 1, 2, 2, 3, 3, 3, 3, 4, 4, 4, 4, 4, 4, 4, 4, 5, 5, 5, 5, 5, 5, 5, 5, 5, 5, 5, 5, 5, 5, 5, 5, 6, 6, 6, 6, 6, 6, 6, 6, 6, 6, 6, 6, 6, 6, 6, 6, 6, 6, 6, 6, 6, 6, 6, 6, 6, 6, 6, 6, 6, 6, 6, 6, 7, 7, 7, 7, 7, 7, 7, 7, 7, 7, 7, 7, 7, 7, 7, 7, 7, 7, 7, 7, 7, 7, 7, 7, 7, 7, 7, 7, 7, 7, 7, 7, 7, 7, 7, 7, 7, 7, 7, 7, 7, 7, 7, 7, 7, 7, 7, 7, 7, 7, 7, 7, 7, 7, 7, 7, 7, 7, 7, 7, 7, 7, 7, 7, 8, 8, 8, 8, 8, 8, 8, 8, 8, 8, 8, 8, 8, 8, 8, 8, 8, 8, 8, 8, 8, 8, 8, 8, 8, 8, 8, 8, 8, 8, 8, 8, 8, 8, 8, 8, 8, 8, 8, 8, 8, 8, 8, 8, 8, 8, 8, 8, 8, 8, 8, 8, 8, 8, 8, 8, 8, 8, 8, 8, 8, 8, 8, 8, 8, 8, 8, 8, 8, 8, 8, 8, 8, 8, 8, 8, 8, 8, 8, 8, 8, 8, 8, 8, 8, 8, 8, 8, 8, 8, 8, 8, 8, 8, 8, 8, 8, 8, 8, 8, 8, 8, 8, 8, 8, 8, 8, 8, 8, 8, 8, 8, 8, 8, 8, 8, 8, 8, 8, 8, 8, 8, 8, 8, 8, 8, 8, 8]⟩
end Go.Vi
namespace Go.Vi
open Go Go.Proofs
-- tocsin/tocsinlaw11.CheckParts
def L3x0 (n : Nat) (k : Value → AHeap → Prop) (sl : List Value) (H : AHeap) : Prop := kit Tryz.prog (cl (cl (cr (cl (cr (cr (cr (cr (cr (cb Tryz.f3)))))))))) n (kblk 0 (kseq Tryz.prog (cr (cr (cr (cr (cr (cr (cb Tryz.f3)))))))
  (kfin Tryz.prog Tryz.f3 k))) .normal sl H
def S3x0 (n0 : Nat) (k : Value → AHeap → Prop) (sl : List Value) (H : AHeap) : Prop := kseq Tryz.prog (cr (cr (cl (cl (cr (cl (cl (cr (cl (cr (cr (cr (cr (cr (cb Tryz.f3))))))))))))))) (kblk 1 (kseq Tryz.prog (cr (cr (cl (cl (cr
  (cl (cr (cr (cr (cr (cr (cb Tryz.f3)))))))))))) (kit Tryz.prog (cl (cl (cr (cl (cr (cr (cr (cr (cr (cb Tryz.f3)))))))))) n0 (kblk 0 (kseq Tryz.prog (cr (cr (cr (cr (cr (cr (cb Tryz.f3))))))) (kfin Tryz.prog Tryz.f3 k))))))
  .normal sl H
def L3x1 (n : Nat) (k : Value → AHeap → Prop) (sl : List Value) (H : AHeap) : Prop := kit Tryz.prog (cl (cl (cr (cl (cr (cr (cr (cr (cr (cr (cb Tryz.f3))))))))))) n (kblk 2 (kseq Tryz.prog (cr (cr (cr (cr (cr (cr (cr (cb
  Tryz.f3)))))))) (kfin Tryz.prog Tryz.f3 k))) .normal sl H
theorem d3 (a0 a1 : Value) (H : AHeap) (k : Value → AHeap → Prop) : kbody Tryz.prog Tryz.f3 [a0, a1] H k = (@bndE (aNew H 25 a0) ⟨fun v2x1 H2 => @bndC Tryz.prog 9 [] H2 ⟨fun v9x3 H4 => @bnd (unV Tryz.prog UnOp.not v9x3) ⟨fun
  v10x5 => @kifB v10x5 ⟨k (Value.bool false) H4⟩ ⟨@bnd (aLoad Tryz.prog H4 25 v2x1) ⟨fun v11x6 => @bndC Tryz.prog 10 [v11x6] H4 ⟨fun v12x7 H8 => @bnd (gif v12x7 false (aLoad Tryz.prog H8 25 v2x1) undef) ⟨fun v14x9 => @bndG v12x7
  false H8 ⟨fun v15x10 H11 => ACalls Tryz.prog 11 [v14x9] H8 v15x10 H11⟩ ⟨fun v15x10 H11 => @bnd (gif v12x7 false (aBin2 Tryz.prog H11 BinOp.neq 28 (Operand.tmp 15) (Operand.const (Value.int IntKind.i64 0)) v15x10 (Value.int
  IntKind.i64 0)) undef) ⟨fun v16x12 => @bnd (pickV v12x7 (Value.bool true) v16x12) ⟨fun v17x13 => @kifB v17x13 ⟨k (Value.bool true) H11⟩ ⟨@bnd (aFieldAddr Tryz.prog H11 25 v2x1 2) ⟨fun v18x14 => @bnd (aLoad Tryz.prog H11 3
  v18x14) ⟨fun v19x15 => @bnd (aFieldAddr Tryz.prog H11 25 v2x1 3) ⟨fun v20x16 => @bnd (aLoad Tryz.prog H11 3 v20x16) ⟨fun v21x17 => @bnd (buildV Tryz.prog 25 [(2, v19x15), (3, v21x17)]) ⟨fun v22x18 => @bndE (aAlloc Tryz.prog H11
  25) ⟨fun v5x19 H20 => @bndS (aStore Tryz.prog H20 25 v5x19 v22x18) ⟨fun _ H22 => @bnd (aFieldAddr Tryz.prog H22 25 v2x1 2) ⟨fun v23x23 => @bnd (aLoad Tryz.prog H22 3 v23x23) ⟨fun v24x24 => @bnd (aFieldAddr Tryz.prog H22 25 v2x1
  3) ⟨fun v25x25 => @bnd (aLoad Tryz.prog H22 3 v25x25) ⟨fun v26x26 => @bnd (buildV Tryz.prog 25 [(2, v24x24), (3, v26x26)]) ⟨fun v27x27 => @bndE (aAlloc Tryz.prog H22 25) ⟨fun v6x28 H29 => @bndS (aStore Tryz.prog H29 25 v6x28
  v27x27) ⟨fun _ H31 => ∃ n, L3x0 n  k [a0, a1, v2x1, undef, (Value.bool false), v5x19, v6x28, (Value.int IntKind.i64 0), undef, v9x3, v10x5, v11x6, v12x7, v12x7, v14x9, v15x10, v16x12, v17x13, v18x14, v19x15, v20x16, v21x17,
  v22x18, v23x23, v24x24, v25x25, v26x26, v27x27, undef, undef, undef, undef, undef, undef, undef, undef, undef, undef, undef, undef, undef, undef, undef, undef, undef, undef, undef, undef, undef, undef, undef, undef, undef,
  undef, undef, undef, undef, undef, undef, undef, undef, undef, undef, undef, undef, undef, undef, undef, undef, undef, undef, undef, undef, undef, undef, undef, undef, undef, undef, undef, undef, undef, undef, undef, undef,
  undef, undef, undef, undef, undef, undef, undef, undef, undef, undef, undef, undef, undef, undef, undef, undef, undef, undef, undef, undef, undef, undef, undef, undef, undef, undef, undef, undef, undef, undef, undef, undef]
  H31⟩⟩⟩⟩⟩⟩⟩⟩⟩⟩⟩⟩⟩⟩⟩⟩⟩⟩⟩⟩⟩⟩⟩⟩⟩) := by kernel_rfl
theorem L3x0q (n0 : Nat) (s0 s1 s2 s3 s4 s5 s6 s7 s8 s9 s10 s11 s12 s13 s14 s15 s16 s17 s18 s19 s20 s21 s22 s23 s24 s25 s26 s27 s28 s29 s30 s31 s32 s33 s34 s35 s36 s37 s38 s39 s40 s41 s42 s43 s44 s45 s46 s47 s48 s49 s50 s51 s52
  s53 s54 s55 s56 s57 s58 s59 s60 s61 s62 s63 s64 s65 s66 s67 s68 s69 s70 s71 s72 s73 s74 s75 s76 s77 s78 s79 s80 s81 s82 s83 s84 s85 s86 s87 s88 s89 s90 s91 s92 s93 s94 s95 s96 s97 s98 s99 s100 s101 s102 s103 s104 s105 s106 s107
  s108 s109 s110 s111 s112 s113 s114 s115 s116 : Value) (H : AHeap) (k : Value → AHeap → Prop) : L3x0 (n0 + 1) k [s0, s1, s2, s3, s4, s5, s6, s7, s8, s9, s10, s11, s12, s13, s14, s15, s16, s17, s18, s19, s20, s21, s22, s23, s24,
  s25, s26, s27, s28, s29, s30, s31, s32, s33, s34, s35, s36, s37, s38, s39, s40, s41, s42, s43, s44, s45, s46, s47, s48, s49, s50, s51, s52, s53, s54, s55, s56, s57, s58, s59, s60, s61, s62, s63, s64, s65, s66, s67, s68, s69,
  s70, s71, s72, s73, s74, s75, s76, s77, s78, s79, s80, s81, s82, s83, s84, s85, s86, s87, s88, s89, s90, s91, s92, s93, s94, s95, s96, s97, s98, s99, s100, s101, s102, s103, s104, s105, s106, s107, s108, s109, s110, s111, s112,
  s113, s114, s115, s116] H = (@bnd (aFieldAddr Tryz.prog H 25 s2 0) ⟨fun v29x32 => @bnd (aLoad Tryz.prog H 22 v29x32) ⟨fun v30x33 => @bnd (aLen Tryz.prog H 22 v30x33) ⟨fun v31x34 => @bnd (aBin2 Tryz.prog H BinOp.lss 3
  (Operand.tmp 28) (Operand.tmp 31) s7 v31x34) ⟨fun v32x35 => @kifB v32x35 ⟨@bnd (aFieldAddr Tryz.prog H 25 s2 0) ⟨fun v35x36 => @bnd (aLoad Tryz.prog H 22 v35x36) ⟨fun v36x37 => @bnd (aIndexAddr Tryz.prog H 22 v36x37 s7) ⟨fun
  v38x38 => @bnd (aLoad Tryz.prog H 34 v38x38) ⟨fun v39x39 => @bndC Tryz.prog 12 [v39x39] H ⟨fun v40x40 H41 => @bnd (aBin2 Tryz.prog H41 BinOp.neq 28 (Operand.tmp 40) (Operand.const (Value.int IntKind.i64 0)) v40x40 (Value.int
  IntKind.i64 0)) ⟨fun v41x42 => @kifB v41x42 ⟨k (Value.bool false) H41⟩ ⟨@bnd (aBin2 Tryz.prog H41 BinOp.neq 3 (Operand.tmp 42) (Operand.tmp 43) s7 s1) ⟨fun v44x43 => @kifB v44x43 ⟨@bnd (aFieldAddr Tryz.prog H41 25 s5 0) ⟨fun
  v45x44 => @bnd (aLoad Tryz.prog H41 22 v45x44) ⟨fun v46x45 => @bnd (aFieldAddr Tryz.prog H41 25 s2 0) ⟨fun v47x46 => @bnd (aLoad Tryz.prog H41 22 v47x46) ⟨fun v48x47 => @bnd (aIndexAddr Tryz.prog H41 22 v48x47 s7) ⟨fun v50x48
  => @bnd (aLoad Tryz.prog H41 34 v50x48) ⟨fun v51x49 => @bndD false H41 ⟨fun v52x50 H51 => sliceLit Tryz.prog H41 22 1 [(0, v51x49)] v52x50 H51⟩ ⟨fun v52x50 H51 => @bndD true H51 ⟨fun v53x52 H53 => aBuiltin Tryz.prog H51
  Builtin.append #[22, 22] [v46x45, v52x50] = some (v53x52, H53)⟩ ⟨fun v53x52 H53 => @bnd (aFieldAddr Tryz.prog H53 25 s5 0) ⟨fun v54x54 => @bndD true H53 ⟨fun x55 H56 => x55 = undef ∧ aStore Tryz.prog H53 22 v54x54 v53x52 = some
  H56⟩ ⟨fun _ H56 => S3x0 n0 k [s0, s1, s2, s3, s4, s5, s6, s7, s8, s9, s10, s11, s12, s13, s14, s15, s16, s17, s18, s19, s20, s21, s22, s23, s24, s25, s26, s27, s7, v29x32, v30x33, v31x34, v32x35, s33, s34, v35x36, v36x37, s7,
  v38x38, v39x39, v40x40, v41x42, s7, s1, v44x43, v45x44, v46x45, v47x46, v48x47, s7, v50x48, v51x49, v52x50, v53x52, v54x54, s55, s56, s57, s58, s59, s60, s61, s62, s63, s64, s65, s66, s67, s68, s69, s70, s71, s72, s73, s74,
  s75, s76, s77, s78, s79, s80, s81, s82, s83, s84, s85, s86, s87, s88, s89, s90, s91, s92, s93, s94, s95, s96, s97, s98, s99, s100, s101, s102, s103, s104, s105, s106, s107, s108, s109, s110, s111, s112, s113, s114, s115, s116]
  H56⟩⟩⟩⟩⟩⟩⟩⟩⟩⟩⟩ ⟨S3x0 n0 k [s0, s1, s2, s3, s4, s5, s6, s7, s8, s9, s10, s11, s12, s13, s14, s15, s16, s17, s18, s19, s20, s21, s22, s23, s24, s25, s26, s27, s7, v29x32, v30x33, v31x34, v32x35, s33, s34, v35x36, v36x37, s7,
  v38x38, v39x39, v40x40, v41x42, s7, s1, v44x43, s45, s46, s47, s48, s49, s50, s51, s52, s53, s54, s55, s56, s57, s58, s59, s60, s61, s62, s63, s64, s65, s66, s67, s68, s69, s70, s71, s72, s73, s74, s75, s76, s77, s78, s79, s80,
  s81, s82, s83, s84, s85, s86, s87, s88, s89, s90, s91, s92, s93, s94, s95, s96, s97, s98, s99, s100, s101, s102, s103, s104, s105, s106, s107, s108, s109, s110, s111, s112, s113, s114, s115, s116] H41⟩⟩⟩⟩⟩⟩⟩⟩⟩⟩ ⟨∃ n, L3x1 n  k
  [s0, s1, s2, s3, s4, s5, s6, s7, (Value.int IntKind.i64 0), s9, s10, s11, s12, s13, s14, s15, s16, s17, s18, s19, s20, s21, s22, s23, s24, s25, s26, s27, s7, v29x32, v30x33, v31x34, v32x35, s33, s34, s35, s36, s37, s38, s39,
  s40, s41, s42, s43, s44, s45, s46, s47, s48, s49, s50, s51, s52, s53, s54, s55, s56, s57, s58, s59, s60, s61, s62, s63, s64, s65, s66, s67, s68, s69, s70, s71, s72, s73, s74, s75, s76, s77, s78, s79, s80, s81, s82, s83, s84,
  s85, s86, s87, s88, s89, s90, s91, s92, s93, s94, s95, s96, s97, s98, s99, s100, s101, s102, s103, s104, s105, s106, s107, s108, s109, s110, s111, s112, s113, s114, s115, s116] H⟩⟩⟩⟩⟩) := by kernel_rfl
theorem S3x0q (n0 : Nat) (s0 s1 s2 s3 s4 s5 s6 s7 s8 s9 s10 s11 s12 s13 s14 s15 s16 s17 s18 s19 s20 s21 s22 s23 s24 s25 s26 s27 s28 s29 s30 s31 s32 s33 s34 s35 s36 s37 s38 s39 s40 s41 s42 s43 s44 s45 s46 s47 s48 s49 s50 s51 s52
  s53 s54 s55 s56 s57 s58 s59 s60 s61 s62 s63 s64 s65 s66 s67 s68 s69 s70 s71 s72 s73 s74 s75 s76 s77 s78 s79 s80 s81 s82 s83 s84 s85 s86 s87 s88 s89 s90 s91 s92 s93 s94 s95 s96 s97 s98 s99 s100 s101 s102 s103 s104 s105 s106 s107
  s108 s109 s110 s111 s112 s113 s114 s115 s116 : Value) (H : AHeap) (k : Value → AHeap → Prop) : S3x0 n0 k [s0, s1, s2, s3, s4, s5, s6, s7, s8, s9, s10, s11, s12, s13, s14, s15, s16, s17, s18, s19, s20, s21, s22, s23, s24, s25,
  s26, s27, s28, s29, s30, s31, s32, s33, s34, s35, s36, s37, s38, s39, s40, s41, s42, s43, s44, s45, s46, s47, s48, s49, s50, s51, s52, s53, s54, s55, s56, s57, s58, s59, s60, s61, s62, s63, s64, s65, s66, s67, s68, s69, s70,
  s71, s72, s73, s74, s75, s76, s77, s78, s79, s80, s81, s82, s83, s84, s85, s86, s87, s88, s89, s90, s91, s92, s93, s94, s95, s96, s97, s98, s99, s100, s101, s102, s103, s104, s105, s106, s107, s108, s109, s110, s111, s112,
  s113, s114, s115, s116] H = (@bnd (aFieldAddr Tryz.prog H 25 s6 0) ⟨fun v55x57 => @bnd (aLoad Tryz.prog H 22 v55x57) ⟨fun v56x58 => @bnd (aFieldAddr Tryz.prog H 25 s2 0) ⟨fun v57x59 => @bnd (aLoad Tryz.prog H 22 v57x59) ⟨fun
  v58x60 => @bnd (aFieldAddr Tryz.prog H 25 s2 0) ⟨fun v59x61 => @bnd (aLoad Tryz.prog H 22 v59x61) ⟨fun v60x62 => @bnd (aLen Tryz.prog H 22 v60x62) ⟨fun v61x63 => @bnd (aBin2 Tryz.prog H BinOp.sub 3 (Operand.tmp 61)
  (Operand.const (Value.int IntKind.i64 1)) v61x63 (Value.int IntKind.i64 1)) ⟨fun v62x64 => @bnd (aBin2 Tryz.prog H BinOp.sub 3 (Operand.tmp 62) (Operand.tmp 63) v62x64 s7) ⟨fun v64x65 => @bnd (aIndexAddr Tryz.prog H 22 v58x60
  v64x65) ⟨fun v65x66 => @bnd (aLoad Tryz.prog H 34 v65x66) ⟨fun v66x67 => @bndD false H ⟨fun v67x68 H69 => sliceLit Tryz.prog H 22 1 [(0, v66x67)] v67x68 H69⟩ ⟨fun v67x68 H69 => @bndD true H69 ⟨fun v68x70 H71 => aBuiltin
  Tryz.prog H69 Builtin.append #[22, 22] [v56x58, v67x68] = some (v68x70, H71)⟩ ⟨fun v68x70 H71 => @bnd (aFieldAddr Tryz.prog H71 25 s6 0) ⟨fun v69x72 => @bndD true H71 ⟨fun x73 H74 => x73 = undef ∧ aStore Tryz.prog H71 22 v69x72
  v68x70 = some H74⟩ ⟨fun _ H74 => @bnd (aBin2 Tryz.prog H74 BinOp.add 3 (Operand.tmp 33) (Operand.const (Value.int IntKind.i64 1)) s7 (Value.int IntKind.i64 1)) ⟨fun v34x75 => L3x0 n0  k [s0, s1, s2, s3, s4, s5, s6, v34x75, s8,
  s9, s10, s11, s12, s13, s14, s15, s16, s17, s18, s19, s20, s21, s22, s23, s24, s25, s26, s27, s28, s29, s30, s31, s32, s7, v34x75, s35, s36, s37, s38, s39, s40, s41, s42, s43, s44, s45, s46, s47, s48, s49, s50, s51, s52, s53,
  s54, v55x57, v56x58, v57x59, v58x60, v59x61, v60x62, v61x63, v62x64, s7, v64x65, v65x66, v66x67, v67x68, v68x70, v69x72, s70, s71, s72, s73, s74, s75, s76, s77, s78, s79, s80, s81, s82, s83, s84, s85, s86, s87, s88, s89, s90,
  s91, s92, s93, s94, s95, s96, s97, s98, s99, s100, s101, s102, s103, s104, s105, s106, s107, s108, s109, s110, s111, s112, s113, s114, s115, s116] H74⟩⟩⟩⟩⟩⟩⟩⟩⟩⟩⟩⟩⟩⟩⟩⟩) := by kernel_rfl
theorem L3x1q (n1 : Nat) (s0 s1 s2 s3 s4 s5 s6 s7 s8 s9 s10 s11 s12 s13 s14 s15 s16 s17 s18 s19 s20 s21 s22 s23 s24 s25 s26 s27 s28 s29 s30 s31 s32 s33 s34 s35 s36 s37 s38 s39 s40 s41 s42 s43 s44 s45 s46 s47 s48 s49 s50 s51 s52
  s53 s54 s55 s56 s57 s58 s59 s60 s61 s62 s63 s64 s65 s66 s67 s68 s69 s70 s71 s72 s73 s74 s75 s76 s77 s78 s79 s80 s81 s82 s83 s84 s85 s86 s87 s88 s89 s90 s91 s92 s93 s94 s95 s96 s97 s98 s99 s100 s101 s102 s103 s104 s105 s106 s107
  s108 s109 s110 s111 s112 s113 s114 s115 s116 : Value) (H : AHeap) (k : Value → AHeap → Prop) : L3x1 (n1 + 1) k [s0, s1, s2, s3, s4, s5, s6, s7, s8, s9, s10, s11, s12, s13, s14, s15, s16, s17, s18, s19, s20, s21, s22, s23, s24,
  s25, s26, s27, s28, s29, s30, s31, s32, s33, s34, s35, s36, s37, s38, s39, s40, s41, s42, s43, s44, s45, s46, s47, s48, s49, s50, s51, s52, s53, s54, s55, s56, s57, s58, s59, s60, s61, s62, s63, s64, s65, s66, s67, s68, s69,
  s70, s71, s72, s73, s74, s75, s76, s77, s78, s79, s80, s81, s82, s83, s84, s85, s86, s87, s88, s89, s90, s91, s92, s93, s94, s95, s96, s97, s98, s99, s100, s101, s102, s103, s104, s105, s106, s107, s108, s109, s110, s111, s112,
  s113, s114, s115, s116] H = (@bnd (aFieldAddr Tryz.prog H 25 s2 1) ⟨fun v71x76 => @bnd (aLoad Tryz.prog H 23 v71x76) ⟨fun v72x77 => @bnd (aLen Tryz.prog H 23 v72x77) ⟨fun v73x78 => @bnd (aBin2 Tryz.prog H BinOp.lss 3
  (Operand.tmp 70) (Operand.tmp 73) s8 v73x78) ⟨fun v74x79 => @kifB v74x79 ⟨@bnd (aFieldAddr Tryz.prog H 25 s2 1) ⟨fun v77x80 => @bnd (aLoad Tryz.prog H 23 v77x80) ⟨fun v78x81 => @bnd (aIndexAddr Tryz.prog H 23 v78x81 s8) ⟨fun
  v80x82 => @bnd (aLoad Tryz.prog H 38 v80x82) ⟨fun v81x83 => @bndC Tryz.prog 13 [v81x83] H ⟨fun v82x84 H85 => @bnd (aBin2 Tryz.prog H85 BinOp.neq 28 (Operand.tmp 82) (Operand.const (Value.int IntKind.i64 0)) v82x84 (Value.int
  IntKind.i64 0)) ⟨fun v83x86 => @kifB v83x86 ⟨k (Value.bool false) H85⟩ ⟨@bnd (aFieldAddr Tryz.prog H85 25 s5 1) ⟨fun v84x87 => @bnd (aLoad Tryz.prog H85 23 v84x87) ⟨fun v85x88 => @bnd (aFieldAddr Tryz.prog H85 25 s2 1) ⟨fun
  v86x89 => @bnd (aLoad Tryz.prog H85 23 v86x89) ⟨fun v87x90 => @bnd (aIndexAddr Tryz.prog H85 23 v87x90 s8) ⟨fun v89x91 => @bnd (aLoad Tryz.prog H85 38 v89x91) ⟨fun v90x92 => @bndD false H85 ⟨fun v91x93 H94 => sliceLit Tryz.prog
  H85 23 1 [(0, v90x92)] v91x93 H94⟩ ⟨fun v91x93 H94 => @bndD true H94 ⟨fun v92x95 H96 => aBuiltin Tryz.prog H94 Builtin.append #[23, 23] [v85x88, v91x93] = some (v92x95, H96)⟩ ⟨fun v92x95 H96 => @bnd (aFieldAddr Tryz.prog H96 25
  s5 1) ⟨fun v93x97 => @bndD true H96 ⟨fun x98 H99 => x98 = undef ∧ aStore Tryz.prog H96 23 v93x97 v92x95 = some H99⟩ ⟨fun _ H99 => @bnd (aFieldAddr Tryz.prog H99 25 s6 1) ⟨fun v94x100 => @bnd (aLoad Tryz.prog H99 23 v94x100)
  ⟨fun v95x101 => @bnd (aFieldAddr Tryz.prog H99 25 s2 1) ⟨fun v96x102 => @bnd (aLoad Tryz.prog H99 23 v96x102) ⟨fun v97x103 => @bnd (aFieldAddr Tryz.prog H99 25 s2 1) ⟨fun v98x104 => @bnd (aLoad Tryz.prog H99 23 v98x104) ⟨fun
  v99x105 => @bnd (aLen Tryz.prog H99 23 v99x105) ⟨fun v100x106 => @bnd (aBin2 Tryz.prog H99 BinOp.sub 3 (Operand.tmp 100) (Operand.const (Value.int IntKind.i64 1)) v100x106 (Value.int IntKind.i64 1)) ⟨fun v101x107 => @bnd (aBin2
  Tryz.prog H99 BinOp.sub 3 (Operand.tmp 101) (Operand.tmp 102) v101x107 s8) ⟨fun v103x108 => @bnd (aIndexAddr Tryz.prog H99 23 v97x103 v103x108) ⟨fun v104x109 => @bnd (aLoad Tryz.prog H99 38 v104x109) ⟨fun v105x110 => @bndD
  false H99 ⟨fun v106x111 H112 => sliceLit Tryz.prog H99 23 1 [(0, v105x110)] v106x111 H112⟩ ⟨fun v106x111 H112 => @bndD true H112 ⟨fun v107x113 H114 => aBuiltin Tryz.prog H112 Builtin.append #[23, 23] [v95x101, v106x111] = some
  (v107x113, H114)⟩ ⟨fun v107x113 H114 => @bnd (aFieldAddr Tryz.prog H114 25 s6 1) ⟨fun v108x115 => @bndD true H114 ⟨fun x116 H117 => x116 = undef ∧ aStore Tryz.prog H114 23 v108x115 v107x113 = some H117⟩ ⟨fun _ H117 => @bnd
  (aBin2 Tryz.prog H117 BinOp.add 3 (Operand.tmp 75) (Operand.const (Value.int IntKind.i64 1)) s8 (Value.int IntKind.i64 1)) ⟨fun v76x118 => L3x1 n1  k [s0, s1, s2, s3, s4, s5, s6, s7, v76x118, s9, s10, s11, s12, s13, s14, s15,
  s16, s17, s18, s19, s20, s21, s22, s23, s24, s25, s26, s27, s28, s29, s30, s31, s32, s33, s34, s35, s36, s37, s38, s39, s40, s41, s42, s43, s44, s45, s46, s47, s48, s49, s50, s51, s52, s53, s54, s55, s56, s57, s58, s59, s60,
  s61, s62, s63, s64, s65, s66, s67, s68, s69, s8, v71x76, v72x77, v73x78, v74x79, s8, v76x118, v77x80, v78x81, s8, v80x82, v81x83, v82x84, v83x86, v84x87, v85x88, v86x89, v87x90, s8, v89x91, v90x92, v91x93, v92x95, v93x97,
  v94x100, v95x101, v96x102, v97x103, v98x104, v99x105, v100x106, v101x107, s8, v103x108, v104x109, v105x110, v106x111, v107x113, v108x115, s109, s110, s111, s112, s113, s114, s115, s116] H117⟩⟩⟩⟩⟩⟩⟩⟩⟩⟩⟩⟩⟩⟩⟩⟩⟩⟩⟩⟩⟩⟩⟩⟩⟩⟩⟩⟩⟩⟩⟩⟩⟩⟩
  ⟨@bnd (aLoad Tryz.prog H 25 s5) ⟨fun v109x119 => @bndC Tryz.prog 11 [v109x119] H ⟨fun v110x120 H121 => @bnd (aBin2 Tryz.prog H121 BinOp.eql 28 (Operand.tmp 110) (Operand.const (Value.int IntKind.i64 0)) v110x120 (Value.int
  IntKind.i64 0)) ⟨fun v111x122 => @bnd (gif v111x122 true (aLoad Tryz.prog H121 25 s6) undef) ⟨fun v113x123 => @bndG v111x122 true H121 ⟨fun v114x124 H125 => ACalls Tryz.prog 11 [v113x123] H121 v114x124 H125⟩ ⟨fun v114x124 H125
  => @bnd (gif v111x122 true (aBin2 Tryz.prog H125 BinOp.eql 28 (Operand.tmp 114) (Operand.const (Value.int IntKind.i64 0)) v114x124 (Value.int IntKind.i64 0)) undef) ⟨fun v115x126 => @bnd (pickV v111x122 v115x126 (Value.bool
  false)) ⟨fun v116x127 => k v116x127 H125⟩⟩⟩⟩⟩⟩⟩⟩⟩⟩⟩⟩) := by kernel_rfl
-- tocsin/tocsinlaw11.CheckTwice
def L4x0 (n : Nat) (k : Value → AHeap → Prop) (sl : List Value) (H : AHeap) : Prop := kit Tryz.prog (cl (cl (cr (cl (cr (cr (cr (cb Tryz.f4)))))))) n (kblk 0 (kseq Tryz.prog (cr (cr (cr (cr (cb Tryz.f4))))) (kfin Tryz.prog
  Tryz.f4 k))) .normal sl H
def L4x1 (n : Nat) (k : Value → AHeap → Prop) (sl : List Value) (H : AHeap) : Prop := kit Tryz.prog (cl (cl (cr (cl (cr (cr (cr (cr (cb Tryz.f4))))))))) n (kblk 2 (kseq Tryz.prog (cr (cr (cr (cr (cr (cb Tryz.f4)))))) (kfin
  Tryz.prog Tryz.f4 k))) .normal sl H
theorem d4 (a0 : Value) (H : AHeap) (k : Value → AHeap → Prop) : kbody Tryz.prog Tryz.f4 [a0] H k = (@bndE (aNew H 25 a0) ⟨fun v1x1 H2 => @bndC Tryz.prog 9 [] H2 ⟨fun v8x3 H4 => @bnd (unV Tryz.prog UnOp.not v8x3) ⟨fun v9x5 =>
  @kifB v9x5 ⟨k (Value.bool false) H4⟩ ⟨@bnd (aLoad Tryz.prog H4 25 v1x1) ⟨fun v10x6 => @bndC Tryz.prog 10 [v10x6] H4 ⟨fun v11x7 H8 => @kifB v11x7 ⟨k (Value.bool true) H8⟩ ⟨∃ n, L4x0 n  k [a0, v1x1, (Value.bool false), (Value.int
  IntKind.i64 0), undef, undef, undef, undef, v8x3, v9x5, v10x6, v11x7, undef, undef, undef, undef, undef, undef, undef, undef, undef, undef, undef, undef, undef, undef, undef, undef, undef, undef, undef, undef, undef, undef,
  undef, undef, undef, undef, undef, undef, undef, undef, undef, undef, undef, undef, undef, undef, undef, undef, undef, undef, undef, undef, undef, undef, undef, undef, undef, undef, undef, undef, undef, undef, undef, undef,
  undef, undef, undef, undef, undef, undef, undef, undef, undef, undef, undef, undef] H8⟩⟩⟩⟩⟩⟩⟩) := by kernel_rfl
theorem L4x0q (n0 : Nat) (s0 s1 s2 s3 s4 s5 s6 s7 s8 s9 s10 s11 s12 s13 s14 s15 s16 s17 s18 s19 s20 s21 s22 s23 s24 s25 s26 s27 s28 s29 s30 s31 s32 s33 s34 s35 s36 s37 s38 s39 s40 s41 s42 s43 s44 s45 s46 s47 s48 s49 s50 s51 s52
  s53 s54 s55 s56 s57 s58 s59 s60 s61 s62 s63 s64 s65 s66 s67 s68 s69 s70 s71 s72 s73 s74 s75 s76 s77 : Value) (H : AHeap) (k : Value → AHeap → Prop) : L4x0 (n0 + 1) k [s0, s1, s2, s3, s4, s5, s6, s7, s8, s9, s10, s11, s12, s13,
  s14, s15, s16, s17, s18, s19, s20, s21, s22, s23, s24, s25, s26, s27, s28, s29, s30, s31, s32, s33, s34, s35, s36, s37, s38, s39, s40, s41, s42, s43, s44, s45, s46, s47, s48, s49, s50, s51, s52, s53, s54, s55, s56, s57, s58,
  s59, s60, s61, s62, s63, s64, s65, s66, s67, s68, s69, s70, s71, s72, s73, s74, s75, s76, s77] H = (@bnd (aFieldAddr Tryz.prog H 25 s1 0) ⟨fun v13x9 => @bnd (aLoad Tryz.prog H 22 v13x9) ⟨fun v14x10 => @bnd (aLen Tryz.prog H 22
  v14x10) ⟨fun v15x11 => @bnd (aBin2 Tryz.prog H BinOp.lss 3 (Operand.tmp 12) (Operand.tmp 15) s3 v15x11) ⟨fun v16x12 => @kifB v16x12 ⟨@bnd (aLoad Tryz.prog H 25 s1) ⟨fun v19x13 => @bndC Tryz.prog 14 [v19x13] H ⟨fun v20x14 H15 =>
  @bndE (aAlloc Tryz.prog H15 25) ⟨fun v4x16 H17 => @bndS (aStore Tryz.prog H17 25 v4x16 v20x14) ⟨fun _ H19 => @bnd (aFieldAddr Tryz.prog H19 25 v4x16 0) ⟨fun v21x20 => @bnd (aLoad Tryz.prog H19 22 v21x20) ⟨fun v22x21 => @bnd
  (aFieldAddr Tryz.prog H19 25 s1 0) ⟨fun v23x22 => @bnd (aLoad Tryz.prog H19 22 v23x22) ⟨fun v24x23 => @bnd (aIndexAddr Tryz.prog H19 22 v24x23 s3) ⟨fun v26x24 => @bnd (aLoad Tryz.prog H19 34 v26x24) ⟨fun v27x25 => @bndD false
  H19 ⟨fun v28x26 H27 => sliceLit Tryz.prog H19 22 1 [(0, v27x25)] v28x26 H27⟩ ⟨fun v28x26 H27 => @bndD true H27 ⟨fun v29x28 H29 => aBuiltin Tryz.prog H27 Builtin.append #[22, 22] [v22x21, v28x26] = some (v29x28, H29)⟩ ⟨fun
  v29x28 H29 => @bnd (aFieldAddr Tryz.prog H29 25 v4x16 0) ⟨fun v30x30 => @bndD true H29 ⟨fun x31 H32 => x31 = undef ∧ aStore Tryz.prog H29 22 v30x30 v29x28 = some H32⟩ ⟨fun _ H32 => @bnd (aLoad Tryz.prog H32 25 v4x16) ⟨fun
  v31x33 => @bndC Tryz.prog 11 [v31x33] H32 ⟨fun v32x34 H35 => @bnd (aBin2 Tryz.prog H35 BinOp.neq 28 (Operand.tmp 32) (Operand.const (Value.int IntKind.i64 110)) v32x34 (Value.int IntKind.i64 110)) ⟨fun v33x36 => @kifB v33x36 ⟨k
  (Value.bool false) H35⟩ ⟨@bnd (aFieldAddr Tryz.prog H35 25 s1 0) ⟨fun v34x37 => @bnd (aLoad Tryz.prog H35 22 v34x37) ⟨fun v35x38 => @bnd (aIndexAddr Tryz.prog H35 22 v35x38 s3) ⟨fun v37x39 => @bnd (aFieldAddr Tryz.prog H35 34
  v37x39 2) ⟨fun v38x40 => @bnd (aLoad Tryz.prog H35 31 v38x40) ⟨fun v39x41 => @bndC Tryz.prog 15 [v39x41] H35 ⟨fun v40x42 H43 => @bnd (aFieldAddr Tryz.prog H43 25 s1 0) ⟨fun v41x44 => @bnd (aLoad Tryz.prog H43 22 v41x44) ⟨fun
  v42x45 => @bnd (aIndexAddr Tryz.prog H43 22 v42x45 s3) ⟨fun v44x46 => @bnd (aLoad Tryz.prog H43 34 v44x46) ⟨fun v45x47 => @bndC Tryz.prog 12 [v45x47] H43 ⟨fun v46x48 H49 => @bnd (aBin2 Tryz.prog H49 BinOp.eql 28 (Operand.tmp
  46) (Operand.const (Value.int IntKind.i64 0)) v46x48 (Value.int IntKind.i64 0)) ⟨fun v47x50 => @bnd (gif v47x50 true ((some v40x42)) undef) ⟨fun v49x51 => @bnd (gif v47x50 true (aBin2 Tryz.prog H49 BinOp.lss 3 (Operand.tmp 49)
  (Operand.const (Value.int IntKind.i64 1)) v49x51 (Value.int IntKind.i64 1)) undef) ⟨fun v50x52 => @bnd (gif v47x50 true ((some v50x52)) undef) ⟨fun v51x53 => @bnd (gif v51x53 false ((some v40x42)) undef) ⟨fun v52x54 => @bnd
  (gif v51x53 false (aBin2 Tryz.prog H49 BinOp.gtr 3 (Operand.tmp 52) (Operand.const (Value.int IntKind.i64 1000)) v52x54 (Value.int IntKind.i64 1000)) undef) ⟨fun v53x55 => @bnd (gif v47x50 true (pickV v51x53 (Value.bool true)
  v53x55) undef) ⟨fun v54x56 => @bnd (pickV v47x50 v54x56 (Value.bool false)) ⟨fun v55x57 => @kifB v55x57 ⟨k (Value.bool false) H49⟩ ⟨@bnd (aBin2 Tryz.prog H49 BinOp.add 3 (Operand.tmp 17) (Operand.const (Value.int IntKind.i64
  1)) s3 (Value.int IntKind.i64 1)) ⟨fun v18x58 => L4x0 n0  k [s0, s1, s2, v18x58, v4x16, v40x42, s6, s7, s8, s9, s10, s11, s3, v13x9, v14x10, v15x11, v16x12, s3, v18x58, v19x13, v20x14, v21x20, v22x21, v23x22, v24x23, s3,
  v26x24, v27x25, v28x26, v29x28, v30x30, v31x33, v32x34, v33x36, v34x37, v35x38, s3, v37x39, v38x40, v39x41, v40x42, v41x44, v42x45, s3, v44x46, v45x47, v46x48, v47x50, v47x50, v49x51, v50x52, v51x53, v52x54, v53x55, v54x56,
  v55x57, s56, s57, s58, s59, s60, s61, s62, s63, s64, s65, s66, s67, s68, s69, s70, s71, s72, s73, s74, s75, s76, s77] H49⟩⟩⟩⟩⟩⟩⟩⟩⟩⟩⟩⟩⟩⟩⟩⟩⟩⟩⟩⟩⟩⟩⟩⟩⟩⟩⟩⟩⟩⟩⟩⟩⟩⟩⟩⟩⟩⟩⟩⟩ ⟨∃ n, L4x1 n  k [s0, s1, s2, s3, s4, s5, (Value.int IntKind.i64
  0), s7, s8, s9, s10, s11, s3, v13x9, v14x10, v15x11, v16x12, s17, s18, s19, s20, s21, s22, s23, s24, s25, s26, s27, s28, s29, s30, s31, s32, s33, s34, s35, s36, s37, s38, s39, s40, s41, s42, s43, s44, s45, s46, s47, s48, s49,
  s50, s51, s52, s53, s54, s55, s56, s57, s58, s59, s60, s61, s62, s63, s64, s65, s66, s67, s68, s69, s70, s71, s72, s73, s74, s75, s76, s77] H⟩⟩⟩⟩⟩) := by kernel_rfl
theorem L4x1q (n1 : Nat) (s0 s1 s2 s3 s4 s5 s6 s7 s8 s9 s10 s11 s12 s13 s14 s15 s16 s17 s18 s19 s20 s21 s22 s23 s24 s25 s26 s27 s28 s29 s30 s31 s32 s33 s34 s35 s36 s37 s38 s39 s40 s41 s42 s43 s44 s45 s46 s47 s48 s49 s50 s51 s52
  s53 s54 s55 s56 s57 s58 s59 s60 s61 s62 s63 s64 s65 s66 s67 s68 s69 s70 s71 s72 s73 s74 s75 s76 s77 : Value) (H : AHeap) (k : Value → AHeap → Prop) : L4x1 (n1 + 1) k [s0, s1, s2, s3, s4, s5, s6, s7, s8, s9, s10, s11, s12, s13,
  s14, s15, s16, s17, s18, s19, s20, s21, s22, s23, s24, s25, s26, s27, s28, s29, s30, s31, s32, s33, s34, s35, s36, s37, s38, s39, s40, s41, s42, s43, s44, s45, s46, s47, s48, s49, s50, s51, s52, s53, s54, s55, s56, s57, s58,
  s59, s60, s61, s62, s63, s64, s65, s66, s67, s68, s69, s70, s71, s72, s73, s74, s75, s76, s77] H = (@bnd (aFieldAddr Tryz.prog H 25 s1 1) ⟨fun v57x59 => @bnd (aLoad Tryz.prog H 23 v57x59) ⟨fun v58x60 => @bnd (aLen Tryz.prog H
  23 v58x60) ⟨fun v59x61 => @bnd (aBin2 Tryz.prog H BinOp.lss 3 (Operand.tmp 56) (Operand.tmp 59) s6 v59x61) ⟨fun v60x62 => @kifB v60x62 ⟨@bnd (aLoad Tryz.prog H 25 s1) ⟨fun v63x63 => @bndC Tryz.prog 14 [v63x63] H ⟨fun v64x64 H65
  => @bndE (aAlloc Tryz.prog H65 25) ⟨fun v7x66 H67 => @bndS (aStore Tryz.prog H67 25 v7x66 v64x64) ⟨fun _ H69 => @bnd (aFieldAddr Tryz.prog H69 25 v7x66 1) ⟨fun v65x70 => @bnd (aLoad Tryz.prog H69 23 v65x70) ⟨fun v66x71 => @bnd
  (aFieldAddr Tryz.prog H69 25 s1 1) ⟨fun v67x72 => @bnd (aLoad Tryz.prog H69 23 v67x72) ⟨fun v68x73 => @bnd (aIndexAddr Tryz.prog H69 23 v68x73 s6) ⟨fun v70x74 => @bnd (aLoad Tryz.prog H69 38 v70x74) ⟨fun v71x75 => @bndD false
  H69 ⟨fun v72x76 H77 => sliceLit Tryz.prog H69 23 1 [(0, v71x75)] v72x76 H77⟩ ⟨fun v72x76 H77 => @bndD true H77 ⟨fun v73x78 H79 => aBuiltin Tryz.prog H77 Builtin.append #[23, 23] [v66x71, v72x76] = some (v73x78, H79)⟩ ⟨fun
  v73x78 H79 => @bnd (aFieldAddr Tryz.prog H79 25 v7x66 1) ⟨fun v74x80 => @bndD true H79 ⟨fun x81 H82 => x81 = undef ∧ aStore Tryz.prog H79 23 v74x80 v73x78 = some H82⟩ ⟨fun _ H82 => @bnd (aLoad Tryz.prog H82 25 v7x66) ⟨fun
  v75x83 => @bndC Tryz.prog 11 [v75x83] H82 ⟨fun v76x84 H85 => @bnd (aBin2 Tryz.prog H85 BinOp.neq 28 (Operand.tmp 76) (Operand.const (Value.int IntKind.i64 110)) v76x84 (Value.int IntKind.i64 110)) ⟨fun v77x86 => @kifB v77x86 ⟨k
  (Value.bool false) H85⟩ ⟨@bnd (aBin2 Tryz.prog H85 BinOp.add 3 (Operand.tmp 61) (Operand.const (Value.int IntKind.i64 1)) s6 (Value.int IntKind.i64 1)) ⟨fun v62x87 => L4x1 n1  k [s0, s1, s2, s3, s4, s5, v62x87, v7x66, s8, s9,
  s10, s11, s12, s13, s14, s15, s16, s17, s18, s19, s20, s21, s22, s23, s24, s25, s26, s27, s28, s29, s30, s31, s32, s33, s34, s35, s36, s37, s38, s39, s40, s41, s42, s43, s44, s45, s46, s47, s48, s49, s50, s51, s52, s53, s54,
  s55, s6, v57x59, v58x60, v59x61, v60x62, s6, v62x87, v63x63, v64x64, v65x70, v66x71, v67x72, v68x73, s6, v70x74, v71x75, v72x76, v73x78, v74x80, v75x83, v76x84, v77x86] H85⟩⟩⟩⟩⟩⟩⟩⟩⟩⟩⟩⟩⟩⟩⟩⟩⟩⟩⟩⟩ ⟨k (Value.bool true) H⟩⟩⟩⟩⟩) := by
  kernel_rfl
-- tocsin/tocsinlaw11.awake
theorem d9 (H : AHeap) (k : Value → AHeap → Prop) : kbody Tryz.prog Tryz.f9 [] H k = (@bndC Tryz.prog 22 [(Value.string { data := #[99, 111, 117, 110, 116, 40, 123, 125, 91, 53, 93, 41, 32, 62, 32, 51, 32, 111, 114, 32, 115, 117,
  109, 40, 123, 125, 91, 54, 48, 93, 41, 32, 60, 32, 49] })] H ⟨fun v12x1 H2 => @bnd (tupV v12x1 0) ⟨fun v13x3 => @bnd (tupV v12x1 1) ⟨fun v14x4 => @bnd (buildV Tryz.prog 34 [(0, (Value.string { data := #[97] })), (1,
  (Value.string { data := #[104, 111, 115, 116] })), (2, v13x3), (4, (Value.int IntKind.i64 1)), (5, (Value.int IntKind.i64 1)), (7, (Value.string { data := #[111, 112, 115] }))]) ⟨fun v16x5 => @bndE (aAlloc Tryz.prog H2 34) ⟨fun
  v3x6 H7 => @bndS (aStore Tryz.prog H7 34 v3x6 v16x5) ⟨fun _ H9 => @bnd (aLoad Tryz.prog H9 34 v3x6) ⟨fun v17x10 => @bndE (aAlloc Tryz.prog H9 34) ⟨fun v4x11 H12 => @bndS (aStore Tryz.prog H12 34 v4x11 v17x10) ⟨fun _ H14 => @bnd
  (aFieldAddr Tryz.prog H14 34 v4x11 3) ⟨fun v18x15 => @bndS (aStore Tryz.prog H14 3 v18x15 (Value.int IntKind.i64 1001)) ⟨fun _ H17 => @bnd (aLoad Tryz.prog H17 34 v3x6) ⟨fun v19x18 => @bndE (aAlloc Tryz.prog H17 34) ⟨fun v5x19
  H20 => @bndS (aStore Tryz.prog H20 34 v5x19 v19x18) ⟨fun _ H22 => @bnd (aFieldAddr Tryz.prog H22 34 v5x19 7) ⟨fun v20x23 => @bndS (aStore Tryz.prog H22 9 v20x23 (Value.string { data := #[109, 101, 116, 97] })) ⟨fun _ H25 =>
  @bnd (buildV Tryz.prog 38 [(0, (Value.string { data := #[113] })), (2, (Value.int IntKind.i64 540)), (3, (Value.int IntKind.i64 1020))]) ⟨fun v21x26 => @bndE (aAlloc Tryz.prog H25 38) ⟨fun v6x27 H28 => @bndS (aStore Tryz.prog
  H28 38 v6x27 v21x26) ⟨fun _ H30 => @bnd (aLoad Tryz.prog H30 38 v6x27) ⟨fun v22x31 => @bndC Tryz.prog 13 [v22x31] H30 ⟨fun v23x32 H33 => @bnd (aFieldAddr Tryz.prog H33 38 v6x27 1) ⟨fun v24x34 => @bnd (aIndexAddr Tryz.prog H33
  36 v24x34 (Value.int IntKind.i64 0)) ⟨fun v25x35 => @bndS (aStore Tryz.prog H33 4 v25x35 (Value.bool true)) ⟨fun _ H37 => @bnd (aLoad Tryz.prog H37 34 v3x6) ⟨fun v26x38 => @bndE (aAlloc Tryz.prog H37 34) ⟨fun v8x39 H40 => @bndS
  (aStore Tryz.prog H40 34 v8x39 v26x38) ⟨fun _ H42 => @bndL Tryz.prog H42 32 1 [(0, (Value.string { data := #[113] }))] ⟨fun v27x43 H44 => @bnd (aFieldAddr Tryz.prog H44 34 v8x39 6) ⟨fun v28x45 => @bndS (aStore Tryz.prog H44 32
  v28x45 v27x43) ⟨fun _ H47 => @bnd (aLoad Tryz.prog H47 34 v8x39) ⟨fun v29x48 => @bndL Tryz.prog H47 22 1 [(0, v29x48)] ⟨fun v30x49 H50 => @bnd (buildV Tryz.prog 25 [(0, v30x49), (3, (Value.int IntKind.i64 1))]) ⟨fun v31x51 =>
  @bndE (aAlloc Tryz.prog H50 25) ⟨fun v9x52 H53 => @bndS (aStore Tryz.prog H53 25 v9x52 v31x51) ⟨fun _ H55 => @bnd (aLoad Tryz.prog H55 25 v9x52) ⟨fun v32x56 => @bndC Tryz.prog 11 [v32x56] H55 ⟨fun v33x57 H58 => @bnd (aFieldAddr
  Tryz.prog H58 25 v9x52 1) ⟨fun v34x59 => @bnd (aLoad Tryz.prog H58 23 v34x59) ⟨fun v35x60 => @bnd (aLoad Tryz.prog H58 38 v6x27) ⟨fun v36x61 => @bndL Tryz.prog H58 23 1 [(0, v36x61)] ⟨fun v37x62 H63 => @bndE (aBuiltin Tryz.prog
  H63 Builtin.append #[23, 23] [v35x60, v37x62]) ⟨fun v38x64 H65 => @bnd (aFieldAddr Tryz.prog H65 25 v9x52 1) ⟨fun v39x66 => @bndS (aStore Tryz.prog H65 23 v39x66 v38x64) ⟨fun _ H68 => @bnd (aBin2 Tryz.prog H68 BinOp.eql 28
  (Operand.tmp 40) (Operand.const (Value.int IntKind.i64 0)) v14x4 (Value.int IntKind.i64 0)) ⟨fun v41x69 => @bnd (gif v41x69 true (aLoad Tryz.prog H68 34 v3x6) undef) ⟨fun v43x70 => @bndG v41x69 true H68 ⟨fun v44x71 H72 =>
  ACalls Tryz.prog 12 [v43x70] H68 v44x71 H72⟩ ⟨fun v44x71 H72 => @bnd (gif v41x69 true (aBin2 Tryz.prog H72 BinOp.eql 28 (Operand.tmp 44) (Operand.const (Value.int IntKind.i64 0)) v44x71 (Value.int IntKind.i64 0)) undef) ⟨fun
  v45x73 => @bnd (pickV v41x69 v45x73 (Value.bool false)) ⟨fun v46x74 => @bnd (gif v46x74 true (aLoad Tryz.prog H72 34 v4x11) undef) ⟨fun v48x75 => @bndG v46x74 true H72 ⟨fun v49x76 H77 => ACalls Tryz.prog 12 [v48x75] H72 v49x76
  H77⟩ ⟨fun v49x76 H77 => @bnd (gif v46x74 true (aBin2 Tryz.prog H77 BinOp.eql 28 (Operand.tmp 49) (Operand.const (Value.int IntKind.i64 110)) v49x76 (Value.int IntKind.i64 110)) undef) ⟨fun v50x78 => @bnd (pickV v46x74 v50x78
  (Value.bool false)) ⟨fun v51x79 => @bnd (gif v51x79 true (aLoad Tryz.prog H77 34 v5x19) undef) ⟨fun v53x80 => @bndG v51x79 true H77 ⟨fun v54x81 H82 => ACalls Tryz.prog 12 [v53x80] H77 v54x81 H82⟩ ⟨fun v54x81 H82 => @bnd (gif
  v51x79 true (aBin2 Tryz.prog H82 BinOp.eql 28 (Operand.tmp 54) (Operand.const (Value.int IntKind.i64 110)) v54x81 (Value.int IntKind.i64 110)) undef) ⟨fun v55x83 => @bnd (pickV v51x79 v55x83 (Value.bool false)) ⟨fun v56x84 =>
  @bnd (gif v56x84 true ((some v23x32)) undef) ⟨fun v58x85 => @bnd (gif v56x84 true (aBin2 Tryz.prog H82 BinOp.eql 28 (Operand.tmp 58) (Operand.const (Value.int IntKind.i64 110)) v58x85 (Value.int IntKind.i64 110)) undef) ⟨fun
  v59x86 => @bnd (pickV v56x84 v59x86 (Value.bool false)) ⟨fun v60x87 => @bnd (gif v60x87 true (aLoad Tryz.prog H82 38 v6x27) undef) ⟨fun v62x88 => @bndG v60x87 true H82 ⟨fun v63x89 H90 => ACalls Tryz.prog 13 [v62x88] H82 v63x89
  H90⟩ ⟨fun v63x89 H90 => @bnd (gif v60x87 true (aBin2 Tryz.prog H90 BinOp.eql 28 (Operand.tmp 63) (Operand.const (Value.int IntKind.i64 0)) v63x89 (Value.int IntKind.i64 0)) undef) ⟨fun v64x91 => @bnd (pickV v60x87 v64x91
  (Value.bool false)) ⟨fun v65x92 => @bnd (gif v65x92 true ((some v33x57)) undef) ⟨fun v67x93 => @bnd (gif v65x92 true (aBin2 Tryz.prog H90 BinOp.eql 28 (Operand.tmp 67) (Operand.const (Value.int IntKind.i64 110)) v67x93
  (Value.int IntKind.i64 110)) undef) ⟨fun v68x94 => @bnd (pickV v65x92 v68x94 (Value.bool false)) ⟨fun v69x95 => @bnd (gif v69x95 true (aLoad Tryz.prog H90 25 v9x52) undef) ⟨fun v71x96 => @bndG v69x95 true H90 ⟨fun v72x97 H98 =>
  ACalls Tryz.prog 11 [v71x96] H90 v72x97 H98⟩ ⟨fun v72x97 H98 => @bnd (gif v69x95 true (aBin2 Tryz.prog H98 BinOp.eql 28 (Operand.tmp 72) (Operand.const (Value.int IntKind.i64 0)) v72x97 (Value.int IntKind.i64 0)) undef) ⟨fun
  v73x99 => @bnd (pickV v69x95 v73x99 (Value.bool false)) ⟨fun v74x100 => @bnd (gif v74x100 true ((some v13x3)) undef) ⟨fun v76x101 => @bndG v74x100 true H98 ⟨fun v77x102 H103 => ACalls Tryz.prog 15 [v76x101] H98 v77x102 H103⟩
  ⟨fun v77x102 H103 => @bnd (gif v74x100 true (aBin2 Tryz.prog H103 BinOp.eql 3 (Operand.tmp 77) (Operand.const (Value.int IntKind.i64 60)) v77x102 (Value.int IntKind.i64 60)) undef) ⟨fun v78x104 => @bnd (pickV v74x100 v78x104
  (Value.bool false)) ⟨fun v79x105 => k v79x105 H103⟩⟩⟩⟩⟩⟩⟩⟩⟩⟩⟩⟩⟩⟩⟩⟩⟩⟩⟩⟩⟩⟩⟩⟩⟩⟩⟩⟩⟩⟩⟩⟩⟩⟩⟩⟩⟩⟩⟩⟩⟩⟩⟩⟩⟩⟩⟩⟩⟩⟩⟩⟩⟩⟩⟩⟩⟩⟩⟩⟩⟩⟩⟩⟩⟩⟩⟩⟩⟩⟩⟩⟩⟩⟩⟩) := by kernel_rfl

end Go.Vi
namespace Go.Vi
open Go Go.Proofs
-- tocsin/tocsinlaw11.Big
def L10x0 (n : Nat) (k : Value → AHeap → Prop) (sl : List Value) (H : AHeap) : Prop := kit Tryz.prog (cl (cl (cr (cl (cr (cr (cb Tryz.f10))))))) n (kblk 0 (kseq Tryz.prog (cr (cr (cr (cb Tryz.f10)))) (kfin Tryz.prog Tryz.f10 k)))
  .normal sl H
def L10x1 (n : Nat) (k : Value → AHeap → Prop) (sl : List Value) (H : AHeap) : Prop := kit Tryz.prog (cl (cl (cr (cl (cr (cr (cr (cb Tryz.f10)))))))) n (kblk 2 (kseq Tryz.prog (cr (cr (cr (cr (cb Tryz.f10))))) (kfin Tryz.prog
  Tryz.f10 k))) .normal sl H
theorem d10 (a0 : Value) (H : AHeap) (k : Value → AHeap → Prop) : kbody Tryz.prog Tryz.f10 [a0] H k = (@bndE (aNew H 25 a0) ⟨fun v1x1 H2 => @bnd (aFieldAddr Tryz.prog H2 25 v1x1 0) ⟨fun v5x3 => @bnd (aLoad Tryz.prog H2 22 v5x3)
  ⟨fun v6x4 => @bnd (aLen Tryz.prog H2 22 v6x4) ⟨fun v7x5 => @bnd (aBin2 Tryz.prog H2 BinOp.gtr 3 (Operand.tmp 7) (Operand.const (Value.int IntKind.i64 20)) v7x5 (Value.int IntKind.i64 20)) ⟨fun v8x6 => @bnd (gif v8x6 false
  (aFieldAddr Tryz.prog H2 25 v1x1 1) undef) ⟨fun v10x7 => @bnd (gif v8x6 false (aLoad Tryz.prog H2 23 v10x7) undef) ⟨fun v11x8 => @bnd (gif v8x6 false (aLen Tryz.prog H2 23 v11x8) undef) ⟨fun v12x9 => @bnd (gif v8x6 false (aBin2
  Tryz.prog H2 BinOp.gtr 3 (Operand.tmp 12) (Operand.const (Value.int IntKind.i64 50)) v12x9 (Value.int IntKind.i64 50)) undef) ⟨fun v13x10 => @bnd (pickV v8x6 (Value.bool true) v13x10) ⟨fun v14x11 => @kifB v14x11 ⟨k (Value.bool
  true) H2⟩ ⟨∃ n, L10x0 n  k [a0, v1x1, (Value.bool false), (Value.int IntKind.i64 0), undef, v5x3, v6x4, v7x5, v8x6, v8x6, v10x7, v11x8, v12x9, v13x10, v14x11, undef, undef, undef, undef, undef, undef, undef, undef, undef,
  undef, undef, undef, undef, undef, undef, undef, undef, undef, undef, undef, undef, undef, undef, undef, undef, undef, undef, undef] H2⟩⟩⟩⟩⟩⟩⟩⟩⟩⟩⟩) := by kernel_rfl
theorem L10x0q (n0 : Nat) (s0 s1 s2 s3 s4 s5 s6 s7 s8 s9 s10 s11 s12 s13 s14 s15 s16 s17 s18 s19 s20 s21 s22 s23 s24 s25 s26 s27 s28 s29 s30 s31 s32 s33 s34 s35 s36 s37 s38 s39 s40 s41 s42 : Value) (H : AHeap) (k : Value → AHeap
  → Prop) : L10x0 (n0 + 1) k [s0, s1, s2, s3, s4, s5, s6, s7, s8, s9, s10, s11, s12, s13, s14, s15, s16, s17, s18, s19, s20, s21, s22, s23, s24, s25, s26, s27, s28, s29, s30, s31, s32, s33, s34, s35, s36, s37, s38, s39, s40, s41,
  s42] H = (@bnd (aFieldAddr Tryz.prog H 25 s1 0) ⟨fun v16x12 => @bnd (aLoad Tryz.prog H 22 v16x12) ⟨fun v17x13 => @bnd (aLen Tryz.prog H 22 v17x13) ⟨fun v18x14 => @bnd (aBin2 Tryz.prog H BinOp.lss 3 (Operand.tmp 15) (Operand.tmp
  18) s3 v18x14) ⟨fun v19x15 => @kifB v19x15 ⟨@bnd (aFieldAddr Tryz.prog H 25 s1 0) ⟨fun v22x16 => @bnd (aLoad Tryz.prog H 22 v22x16) ⟨fun v23x17 => @bnd (aIndexAddr Tryz.prog H 22 v23x17 s3) ⟨fun v25x18 => @bnd (aLoad Tryz.prog
  H 34 v25x18) ⟨fun v26x19 => @bndC Tryz.prog 23 [v26x19] H ⟨fun v27x20 H21 => @kifB v27x20 ⟨k (Value.bool true) H21⟩ ⟨@bnd (aBin2 Tryz.prog H21 BinOp.add 3 (Operand.tmp 20) (Operand.const (Value.int IntKind.i64 1)) s3 (Value.int
  IntKind.i64 1)) ⟨fun v21x22 => L10x0 n0  k [s0, s1, s2, v21x22, s4, s5, s6, s7, s8, s9, s10, s11, s12, s13, s14, s3, v16x12, v17x13, v18x14, v19x15, s3, v21x22, v22x16, v23x17, s3, v25x18, v26x19, v27x20, s28, s29, s30, s31,
  s32, s33, s34, s35, s36, s37, s38, s39, s40, s41, s42] H21⟩⟩⟩⟩⟩⟩⟩⟩ ⟨∃ n, L10x1 n  k [s0, s1, s2, s3, (Value.int IntKind.i64 0), s5, s6, s7, s8, s9, s10, s11, s12, s13, s14, s3, v16x12, v17x13, v18x14, v19x15, s20, s21, s22,
  s23, s24, s25, s26, s27, s28, s29, s30, s31, s32, s33, s34, s35, s36, s37, s38, s39, s40, s41, s42] H⟩⟩⟩⟩⟩) := by kernel_rfl
theorem L10x1q (n1 : Nat) (s0 s1 s2 s3 s4 s5 s6 s7 s8 s9 s10 s11 s12 s13 s14 s15 s16 s17 s18 s19 s20 s21 s22 s23 s24 s25 s26 s27 s28 s29 s30 s31 s32 s33 s34 s35 s36 s37 s38 s39 s40 s41 s42 : Value) (H : AHeap) (k : Value → AHeap
  → Prop) : L10x1 (n1 + 1) k [s0, s1, s2, s3, s4, s5, s6, s7, s8, s9, s10, s11, s12, s13, s14, s15, s16, s17, s18, s19, s20, s21, s22, s23, s24, s25, s26, s27, s28, s29, s30, s31, s32, s33, s34, s35, s36, s37, s38, s39, s40, s41,
  s42] H = (@bnd (aFieldAddr Tryz.prog H 25 s1 1) ⟨fun v29x23 => @bnd (aLoad Tryz.prog H 23 v29x23) ⟨fun v30x24 => @bnd (aLen Tryz.prog H 23 v30x24) ⟨fun v31x25 => @bnd (aBin2 Tryz.prog H BinOp.lss 3 (Operand.tmp 28) (Operand.tmp
  31) s4 v31x25) ⟨fun v32x26 => @kifB v32x26 ⟨@bnd (aFieldAddr Tryz.prog H 25 s1 1) ⟨fun v35x27 => @bnd (aLoad Tryz.prog H 23 v35x27) ⟨fun v36x28 => @bnd (aIndexAddr Tryz.prog H 23 v36x28 s4) ⟨fun v38x29 => @bnd (aFieldAddr
  Tryz.prog H 38 v38x29 0) ⟨fun v39x30 => @bnd (aLoad Tryz.prog H 9 v39x30) ⟨fun v40x31 => @bnd (aLen Tryz.prog H 9 v40x31) ⟨fun v41x32 => @bnd (aBin2 Tryz.prog H BinOp.gtr 3 (Operand.tmp 41) (Operand.const (Value.int IntKind.i64
  1000)) v41x32 (Value.int IntKind.i64 1000)) ⟨fun v42x33 => @kifB v42x33 ⟨k (Value.bool true) H⟩ ⟨@bnd (aBin2 Tryz.prog H BinOp.add 3 (Operand.tmp 33) (Operand.const (Value.int IntKind.i64 1)) s4 (Value.int IntKind.i64 1)) ⟨fun
  v34x34 => L10x1 n1  k [s0, s1, s2, s3, v34x34, s5, s6, s7, s8, s9, s10, s11, s12, s13, s14, s15, s16, s17, s18, s19, s20, s21, s22, s23, s24, s25, s26, s27, s4, v29x23, v30x24, v31x25, v32x26, s4, v34x34, v35x27, v36x28, s4,
  v38x29, v39x30, v40x31, v41x32, v42x33] H⟩⟩⟩⟩⟩⟩⟩⟩⟩⟩ ⟨k (Value.bool false) H⟩⟩⟩⟩⟩) := by kernel_rfl
-- tocsin/check.Config
def L11x0 (n : Nat) (k : Value → AHeap → Prop) (sl : List Value) (H : AHeap) : Prop := kit Tryz.prog (cl (cl (cr (cl (cr (cr (cr (cb Tryz.f11)))))))) n (kblk 0 (kseq Tryz.prog (cr (cr (cr (cr (cb Tryz.f11))))) (kfin Tryz.prog
  Tryz.f11 k))) .normal sl H
def L11x1 (n : Nat) (k : Value → AHeap → Prop) (sl : List Value) (H : AHeap) : Prop := kit Tryz.prog (cl (cl (cr (cl (cr (cr (cr (cr (cb Tryz.f11))))))))) n (kblk 2 (kseq Tryz.prog (cr (cr (cr (cr (cr (cb Tryz.f11)))))) (kfin
  Tryz.prog Tryz.f11 k))) .normal sl H
def L11x2 (n : Nat) (n1 : Nat) (k : Value → AHeap → Prop) (sl : List Value) (H : AHeap) : Prop := kit Tryz.prog (cl (cl (cr (cr (cr (cl (cl (cr (cr (cl (cl (cr (cl (cr (cr (cr (cr (cb Tryz.f11)))))))))))))))))) n (kblk 4 (kblk 3
  (kseq Tryz.prog (cr (cr (cr (cl (cl (cr (cl (cr (cr (cr (cr (cb Tryz.f11)))))))))))) (kit Tryz.prog (cl (cl (cr (cl (cr (cr (cr (cr (cb Tryz.f11))))))))) n1 (kblk 2 (kseq Tryz.prog (cr (cr (cr (cr (cr (cb Tryz.f11)))))) (kfin
  Tryz.prog Tryz.f11 k))))))) .normal sl H
def S11x0 (n2 : Nat) (n1 : Nat) (k : Value → AHeap → Prop) (sl : List Value) (H : AHeap) : Prop := kseq Tryz.prog (cr (cr (cr (cl (cl (cr (cr (cr (cl (cl (cr (cr (cl (cl (cr (cl (cr (cr (cr (cr (cb Tryz.f11)))))))))))))))))))))
  (kit Tryz.prog (cl (cl (cr (cr (cr (cl (cl (cr (cr (cl (cl (cr (cl (cr (cr (cr (cr (cb Tryz.f11)))))))))))))))))) n2 (kblk 4 (kblk 3 (kseq Tryz.prog (cr (cr (cr (cl (cl (cr (cl (cr (cr (cr (cr (cb Tryz.f11)))))))))))) (kit
  Tryz.prog (cl (cl (cr (cl (cr (cr (cr (cr (cb Tryz.f11))))))))) n1 (kblk 2 (kseq Tryz.prog (cr (cr (cr (cr (cr (cb Tryz.f11)))))) (kfin Tryz.prog Tryz.f11 k)))))))) .normal sl H
theorem d11 (a0 : Value) (H : AHeap) (k : Value → AHeap → Prop) : kbody Tryz.prog Tryz.f11 [a0] H k = (@bndE (aNew H 25 a0) ⟨fun v1x1 H2 => @bnd (aFieldAddr Tryz.prog H2 25 v1x1 0) ⟨fun v10x3 => @bnd (aLoad Tryz.prog H2 22 v10x3)
  ⟨fun v11x4 => @bnd (aLen Tryz.prog H2 22 v11x4) ⟨fun v12x5 => @bnd (aBin2 Tryz.prog H2 BinOp.gtr 3 (Operand.tmp 12) (Operand.const (Value.int IntKind.i64 8)) v12x5 (Value.int IntKind.i64 8)) ⟨fun v13x6 => @bnd (gif v13x6 false
  (aFieldAddr Tryz.prog H2 25 v1x1 1) undef) ⟨fun v15x7 => @bnd (gif v13x6 false (aLoad Tryz.prog H2 23 v15x7) undef) ⟨fun v16x8 => @bnd (gif v13x6 false (aLen Tryz.prog H2 23 v16x8) undef) ⟨fun v17x9 => @bnd (gif v13x6 false
  (aBin2 Tryz.prog H2 BinOp.gtr 3 (Operand.tmp 17) (Operand.const (Value.int IntKind.i64 4)) v17x9 (Value.int IntKind.i64 4)) undef) ⟨fun v18x10 => @bnd (pickV v13x6 (Value.bool true) v18x10) ⟨fun v19x11 => @kifB v19x11 ⟨k
  (Value.int IntKind.i64 110) H2⟩ ⟨@bnd (aFieldAddr Tryz.prog H2 25 v1x1 2) ⟨fun v20x12 => @bnd (aLoad Tryz.prog H2 3 v20x12) ⟨fun v21x13 => @bndD false H2 ⟨fun v22x14 H15 => ACalls Tryz.prog 25 [v21x13, (Value.int IntKind.i64
  0), (Value.int IntKind.i64 100)] H2 v22x14 H15⟩ ⟨fun v22x14 H15 => @bnd (aFieldAddr Tryz.prog H2 25 v1x1 3) ⟨fun v23x16 => @bnd (aLoad Tryz.prog H2 3 v23x16) ⟨fun v24x17 => @bndD false H15 ⟨fun v25x18 H19 => ACalls Tryz.prog 25
  [v24x17, (Value.int IntKind.i64 1), (Value.int IntKind.i64 1000)] H15 v25x18 H19⟩ ⟨fun v25x18 H19 => @bnd (aFieldAddr Tryz.prog H2 25 v1x1 0) ⟨fun v26x20 => @bnd (aLoad Tryz.prog H2 22 v26x20) ⟨fun v27x21 => @bndD false H19
  ⟨fun v28x22 H23 => ACalls Tryz.prog 26 [v27x21, (.func (.func 27) #[] #[])] H19 v28x22 H23⟩ ⟨fun v28x22 H23 => @bnd (aFieldAddr Tryz.prog H2 25 v1x1 1) ⟨fun v29x24 => @bnd (aLoad Tryz.prog H2 23 v29x24) ⟨fun v30x25 => @bndD
  true H23 ⟨fun v31x26 H27 => ACalls Tryz.prog 28 [v30x25, (.func (.func 29) #[] #[])] H23 v31x26 H27⟩ ⟨fun v31x26 H27 => @bndD true H27 ⟨fun v32x28 H29 => sliceLit Tryz.prog H27 71 4 [(0, v22x14), (1, v25x18), (2, v28x22), (3,
  v31x26)] v32x28 H29⟩ ⟨fun v32x28 H29 => @bndD true H29 ⟨fun v33x30 H31 => ACalls Tryz.prog 24 [v32x28] H29 v33x30 H31⟩ ⟨fun v33x30 H31 => @bnd (aFieldAddr Tryz.prog H31 25 v1x1 1) ⟨fun v34x32 => @bnd (aLoad Tryz.prog H31 23
  v34x32) ⟨fun v35x33 => @bnd (aLen Tryz.prog H31 23 v35x33) ⟨fun v36x34 => ∃ n, L11x0 n  k [a0, v1x1, (Value.int IntKind.i64 0), v33x30, undef, undef, undef, undef, undef, undef, v10x3, v11x4, v12x5, v13x6, v13x6, v15x7, v16x8,
  v17x9, v18x10, v19x11, v20x12, v21x13, v22x14, v23x16, v24x17, v25x18, v26x20, v27x21, v28x22, v29x24, v30x25, v31x26, v32x28, v33x30, v34x32, v35x33, v36x34, (Value.int IntKind.i64 0), undef, undef, undef, undef, undef, undef,
  undef, undef, undef, undef, undef, undef, undef, undef, undef, undef, undef, undef, undef, undef, undef, undef, undef, undef, undef, undef, undef, undef, undef, undef, undef, undef, undef, undef]
  H31⟩⟩⟩⟩⟩⟩⟩⟩⟩⟩⟩⟩⟩⟩⟩⟩⟩⟩⟩⟩⟩⟩⟩⟩⟩⟩⟩⟩) := by kernel_rfl
theorem L11x0q (n0 : Nat) (s0 s1 s2 s3 s4 s5 s6 s7 s8 s9 s10 s11 s12 s13 s14 s15 s16 s17 s18 s19 s20 s21 s22 s23 s24 s25 s26 s27 s28 s29 s30 s31 s32 s33 s34 s35 s36 s37 s38 s39 s40 s41 s42 s43 s44 s45 s46 s47 s48 s49 s50 s51 s52
  s53 s54 s55 s56 s57 s58 s59 s60 s61 s62 s63 s64 s65 s66 s67 s68 s69 s70 s71 : Value) (H : AHeap) (k : Value → AHeap → Prop) : L11x0 (n0 + 1) k [s0, s1, s2, s3, s4, s5, s6, s7, s8, s9, s10, s11, s12, s13, s14, s15, s16, s17,
  s18, s19, s20, s21, s22, s23, s24, s25, s26, s27, s28, s29, s30, s31, s32, s33, s34, s35, s36, s37, s38, s39, s40, s41, s42, s43, s44, s45, s46, s47, s48, s49, s50, s51, s52, s53, s54, s55, s56, s57, s58, s59, s60, s61, s62,
  s63, s64, s65, s66, s67, s68, s69, s70, s71] H = (@bnd (aBin2 Tryz.prog H BinOp.lss 3 (Operand.tmp 37) (Operand.tmp 36) s37 s36) ⟨fun v38x35 => @kifB v38x35 ⟨@bnd (aIndexAddr Tryz.prog H 23 s35 s37) ⟨fun v39x36 => @bnd (aLoad
  Tryz.prog H 38 v39x36) ⟨fun v40x37 => @bndE (aAlloc Tryz.prog H 38) ⟨fun v5x38 H39 => @bndS (aStore Tryz.prog H39 38 v5x38 v40x37) ⟨fun _ H41 => @bnd (aLoad Tryz.prog H41 38 v5x38) ⟨fun v42x42 => @bndC Tryz.prog 13 [v42x42] H41
  ⟨fun v43x43 H44 => @bndE (aBuiltin Tryz.prog H44 Builtin.max #[28, 28] [s3, v43x43]) ⟨fun v44x45 H46 => @bnd (aBin2 Tryz.prog H46 BinOp.add 3 (Operand.tmp 37) (Operand.const (Value.int IntKind.i64 1)) s37 (Value.int IntKind.i64
  1)) ⟨fun v45x47 => L11x0 n0  k [s0, s1, s2, v44x45, s4, v5x38, s6, s7, s8, s9, s10, s11, s12, s13, s14, s15, s16, s17, s18, s19, s20, s21, s22, s23, s24, s25, s26, s27, s28, s29, s30, s31, s32, s33, s34, s35, s36, v45x47,
  v38x35, v39x36, v40x37, s3, v42x42, v43x43, v44x45, v45x47, s46, s47, s48, s49, s50, s51, s52, s53, s54, s55, s56, s57, s58, s59, s60, s61, s62, s63, s64, s65, s66, s67, s68, s69, s70, s71] H46⟩⟩⟩⟩⟩⟩⟩⟩⟩ ⟨@bnd (aFieldAddr
  Tryz.prog H 25 s1 0) ⟨fun v46x48 => @bnd (aLoad Tryz.prog H 22 v46x48) ⟨fun v47x49 => @bnd (aLen Tryz.prog H 22 v47x49) ⟨fun v48x50 => ∃ n, L11x1 n  k [s0, s1, s2, s3, s4, s5, s6, s7, s8, s9, s10, s11, s12, s13, s14, s15, s16,
  s17, s18, s19, s20, s21, s22, s23, s24, s25, s26, s27, s28, s29, s30, s31, s32, s33, s34, s35, s36, s37, v38x35, s39, s40, s41, s42, s43, s44, s45, v46x48, v47x49, v48x50, (Value.int IntKind.i64 0), s50, s51, s52, s53, s54,
  s55, s56, s57, s58, s59, s60, s61, s62, s63, s64, s65, s66, s67, s68, s69, s70, s71] H⟩⟩⟩⟩⟩) := by kernel_rfl
theorem L11x1q (n1 : Nat) (s0 s1 s2 s3 s4 s5 s6 s7 s8 s9 s10 s11 s12 s13 s14 s15 s16 s17 s18 s19 s20 s21 s22 s23 s24 s25 s26 s27 s28 s29 s30 s31 s32 s33 s34 s35 s36 s37 s38 s39 s40 s41 s42 s43 s44 s45 s46 s47 s48 s49 s50 s51 s52
  s53 s54 s55 s56 s57 s58 s59 s60 s61 s62 s63 s64 s65 s66 s67 s68 s69 s70 s71 : Value) (H : AHeap) (k : Value → AHeap → Prop) : L11x1 (n1 + 1) k [s0, s1, s2, s3, s4, s5, s6, s7, s8, s9, s10, s11, s12, s13, s14, s15, s16, s17,
  s18, s19, s20, s21, s22, s23, s24, s25, s26, s27, s28, s29, s30, s31, s32, s33, s34, s35, s36, s37, s38, s39, s40, s41, s42, s43, s44, s45, s46, s47, s48, s49, s50, s51, s52, s53, s54, s55, s56, s57, s58, s59, s60, s61, s62,
  s63, s64, s65, s66, s67, s68, s69, s70, s71] H = (@bnd (aBin2 Tryz.prog H BinOp.lss 3 (Operand.tmp 49) (Operand.tmp 48) s49 s48) ⟨fun v50x51 => @kifB v50x51 ⟨@bnd (aIndexAddr Tryz.prog H 22 s47 s49) ⟨fun v51x52 => @bnd (aLoad
  Tryz.prog H 34 v51x52) ⟨fun v52x53 => @bndE (aAlloc Tryz.prog H 34) ⟨fun v7x54 H55 => @bndS (aStore Tryz.prog H55 34 v7x54 v52x53) ⟨fun _ H57 => @bnd (aLoad Tryz.prog H57 34 v7x54) ⟨fun v54x58 => @bndC Tryz.prog 12 [v54x58] H57
  ⟨fun v55x59 H60 => @bndE (aBuiltin Tryz.prog H60 Builtin.max #[28, 28] [s3, v55x59]) ⟨fun v56x61 H62 => @bnd (aFieldAddr Tryz.prog H62 34 v7x54 6) ⟨fun v57x63 => @bnd (aLoad Tryz.prog H62 32 v57x63) ⟨fun v58x64 => @bnd (aLen
  Tryz.prog H62 32 v58x64) ⟨fun v59x65 => ∃ n, L11x2 n n1 k [s0, s1, s2, v56x61, s4, s5, s6, v7x54, s8, s9, s10, s11, s12, s13, s14, s15, s16, s17, s18, s19, s20, s21, s22, s23, s24, s25, s26, s27, s28, s29, s30, s31, s32, s33,
  s34, s35, s36, s37, s38, s39, s40, s41, s42, s43, s44, s45, s46, s47, s48, s49, v50x51, v51x52, v52x53, s3, v54x58, v55x59, v56x61, v57x63, v58x64, v59x65, (Value.int IntKind.i64 0), s61, s62, s63, s64, s65, s66, s67, s68, s69,
  s70, s71] H62⟩⟩⟩⟩⟩⟩⟩⟩⟩⟩⟩ ⟨k s3 H⟩⟩) := by kernel_rfl
theorem L11x2q (n2 : Nat) (n1 : Nat) (s0 s1 s2 s3 s4 s5 s6 s7 s8 s9 s10 s11 s12 s13 s14 s15 s16 s17 s18 s19 s20 s21 s22 s23 s24 s25 s26 s27 s28 s29 s30 s31 s32 s33 s34 s35 s36 s37 s38 s39 s40 s41 s42 s43 s44 s45 s46 s47 s48 s49
  s50 s51 s52 s53 s54 s55 s56 s57 s58 s59 s60 s61 s62 s63 s64 s65 s66 s67 s68 s69 s70 s71 : Value) (H : AHeap) (k : Value → AHeap → Prop) : L11x2 (n2 + 1) n1 k [s0, s1, s2, s3, s4, s5, s6, s7, s8, s9, s10, s11, s12, s13, s14,
  s15, s16, s17, s18, s19, s20, s21, s22, s23, s24, s25, s26, s27, s28, s29, s30, s31, s32, s33, s34, s35, s36, s37, s38, s39, s40, s41, s42, s43, s44, s45, s46, s47, s48, s49, s50, s51, s52, s53, s54, s55, s56, s57, s58, s59,
  s60, s61, s62, s63, s64, s65, s66, s67, s68, s69, s70, s71] H = (@bnd (aBin2 Tryz.prog H BinOp.lss 3 (Operand.tmp 60) (Operand.tmp 59) s60 s59) ⟨fun v61x66 => @kifB v61x66 ⟨@bnd (aIndexAddr Tryz.prog H 32 s58 s60) ⟨fun v62x67
  => @bnd (aLoad Tryz.prog H 9 v62x67) ⟨fun v63x68 => @bndE (aAlloc Tryz.prog H 9) ⟨fun v9x69 H70 => @bndS (aStore Tryz.prog H70 9 v9x69 v63x68) ⟨fun _ H72 => @bnd (aFieldAddr Tryz.prog H72 25 s1 1) ⟨fun v64x73 => @bnd (aLoad
  Tryz.prog H72 23 v64x73) ⟨fun v65x74 => @bndC Tryz.prog 30 [v65x74, (.func (Fn.func 31) #[] #[v9x69])] H72 ⟨fun v67x75 H76 => @bnd (unV Tryz.prog UnOp.not v67x75) ⟨fun v68x77 => @kifB v68x77 ⟨S11x0 n2 n1 k [s0, s1, s2,
  (Value.int IntKind.i64 110), s4, s5, s6, s7, s8, v9x69, s10, s11, s12, s13, s14, s15, s16, s17, s18, s19, s20, s21, s22, s23, s24, s25, s26, s27, s28, s29, s30, s31, s32, s33, s34, s35, s36, s37, s38, s39, s40, s41, s42, s43,
  s44, s45, s46, s47, s48, s49, s50, s51, s52, s53, s54, s55, s56, s57, s58, s59, s60, v61x66, v62x67, v63x68, v64x73, v65x74, (.func (Fn.func 31) #[] #[v9x69]), v67x75, v68x77, s69, s70, s71] H76⟩ ⟨S11x0 n2 n1 k [s0, s1, s2, s3,
  s4, s5, s6, s7, s8, v9x69, s10, s11, s12, s13, s14, s15, s16, s17, s18, s19, s20, s21, s22, s23, s24, s25, s26, s27, s28, s29, s30, s31, s32, s33, s34, s35, s36, s37, s38, s39, s40, s41, s42, s43, s44, s45, s46, s47, s48, s49,
  s50, s51, s52, s53, s54, s55, s56, s57, s58, s59, s60, v61x66, v62x67, v63x68, v64x73, v65x74, (.func (Fn.func 31) #[] #[v9x69]), v67x75, v68x77, s69, s70, s71] H76⟩⟩⟩⟩⟩⟩⟩⟩⟩⟩ ⟨@bnd (aBin2 Tryz.prog H BinOp.add 3 (Operand.tmp
  49) (Operand.const (Value.int IntKind.i64 1)) s49 (Value.int IntKind.i64 1)) ⟨fun v70x78 => L11x1 n1  k [s0, s1, s2, s3, s4, s5, s6, s7, s8, s9, s10, s11, s12, s13, s14, s15, s16, s17, s18, s19, s20, s21, s22, s23, s24, s25,
  s26, s27, s28, s29, s30, s31, s32, s33, s34, s35, s36, s37, s38, s39, s40, s41, s42, s43, s44, s45, s46, s47, s48, v70x78, s50, s51, s52, s53, s54, s55, s56, s57, s58, s59, s60, v61x66, s62, s63, s64, s65, s66, s67, s68, s69,
  v70x78, s71] H⟩⟩⟩) := by kernel_rfl
theorem S11x0q (n2 : Nat) (n1 : Nat) (s0 s1 s2 s3 s4 s5 s6 s7 s8 s9 s10 s11 s12 s13 s14 s15 s16 s17 s18 s19 s20 s21 s22 s23 s24 s25 s26 s27 s28 s29 s30 s31 s32 s33 s34 s35 s36 s37 s38 s39 s40 s41 s42 s43 s44 s45 s46 s47 s48 s49
  s50 s51 s52 s53 s54 s55 s56 s57 s58 s59 s60 s61 s62 s63 s64 s65 s66 s67 s68 s69 s70 s71 : Value) (H : AHeap) (k : Value → AHeap → Prop) : S11x0 n2 n1 k [s0, s1, s2, s3, s4, s5, s6, s7, s8, s9, s10, s11, s12, s13, s14, s15, s16,
  s17, s18, s19, s20, s21, s22, s23, s24, s25, s26, s27, s28, s29, s30, s31, s32, s33, s34, s35, s36, s37, s38, s39, s40, s41, s42, s43, s44, s45, s46, s47, s48, s49, s50, s51, s52, s53, s54, s55, s56, s57, s58, s59, s60, s61,
  s62, s63, s64, s65, s66, s67, s68, s69, s70, s71] H = (@bnd (aBin2 Tryz.prog H BinOp.add 3 (Operand.tmp 60) (Operand.const (Value.int IntKind.i64 1)) s60 (Value.int IntKind.i64 1)) ⟨fun v69x79 => L11x2 n2 n1 k [s0, s1, s2, s3,
  s4, s5, s6, s7, s8, s9, s10, s11, s12, s13, s14, s15, s16, s17, s18, s19, s20, s21, s22, s23, s24, s25, s26, s27, s28, s29, s30, s31, s32, s33, s34, s35, s36, s37, s38, s39, s40, s41, s42, s43, s44, s45, s46, s47, s48, s49,
  s50, s51, s52, s53, s54, s55, s56, s57, s58, s59, v69x79, s61, s62, s63, s64, s65, s66, s67, s68, v69x79, s70, s71] H⟩) := by kernel_rfl
-- tocsin/check.Rule
theorem d12 (a0 : Value) (H : AHeap) (k : Value → AHeap → Prop) : kbody Tryz.prog Tryz.f12 [a0] H k = (@bndE (aNew H 34 a0) ⟨fun v1x1 H2 => @bnd (aFieldAddr Tryz.prog H2 34 v1x1 0) ⟨fun v3x3 => @bnd (aLoad Tryz.prog H2 9 v3x3)
  ⟨fun v4x4 => @bndD false H2 ⟨fun v5x5 H6 => ACalls Tryz.prog 32 [v4x4] H2 v5x5 H6⟩ ⟨fun v5x5 H6 => @bnd (aFieldAddr Tryz.prog H2 34 v1x1 1) ⟨fun v6x7 => @bnd (aLoad Tryz.prog H2 9 v6x7) ⟨fun v7x8 => @bnd (aBin2 Tryz.prog H2
  BinOp.eql 9 (Operand.tmp 7) (Operand.const (Value.string { data := #[] })) v7x8 (Value.string { data := #[] })) ⟨fun v8x9 => @bnd (gif v8x9 false (aFieldAddr Tryz.prog H6 34 v1x1 1) undef) ⟨fun v10x10 => @bnd (gif v8x9 false
  (aLoad Tryz.prog H6 9 v10x10) undef) ⟨fun v11x11 => @bndD false H6 ⟨fun v12x12 H13 => gifp v8x9 false (ACalls Tryz.prog 32 [v11x11] H6 v12x12 H13) (v12x12 = undef ∧ H13 = H6)⟩ ⟨fun v12x12 H13 => @bnd (pickV v8x9 (Value.bool
  true) v12x12) ⟨fun v13x14 => @bnd (aFieldAddr Tryz.prog H2 34 v1x1 7) ⟨fun v14x15 => @bnd (aLoad Tryz.prog H2 9 v14x15) ⟨fun v15x16 => @bndD false H13 ⟨fun v16x17 H18 => ACalls Tryz.prog 32 [v15x16] H13 v16x17 H18⟩ ⟨fun v16x17
  H18 => @bnd (aFieldAddr Tryz.prog H2 34 v1x1 7) ⟨fun v17x19 => @bnd (aLoad Tryz.prog H2 9 v17x19) ⟨fun v18x20 => @bnd (aBin2 Tryz.prog H2 BinOp.neq 9 (Operand.tmp 18) (Operand.const (Value.string { data := #[109, 101, 116, 97]
  })) v18x20 (Value.string { data := #[109, 101, 116, 97] })) ⟨fun v19x21 => @bnd (aFieldAddr Tryz.prog H2 34 v1x1 3) ⟨fun v20x22 => @bnd (aLoad Tryz.prog H2 3 v20x22) ⟨fun v21x23 => @bndD false H18 ⟨fun v22x24 H25 => ACalls
  Tryz.prog 25 [v21x23, (Value.int IntKind.i64 0), (Value.int IntKind.i64 1000)] H18 v22x24 H25⟩ ⟨fun v22x24 H25 => @bnd (aFieldAddr Tryz.prog H2 34 v1x1 4) ⟨fun v23x26 => @bnd (aLoad Tryz.prog H2 3 v23x26) ⟨fun v24x27 => @bndD
  false H25 ⟨fun v25x28 H29 => ACalls Tryz.prog 25 [v24x27, (Value.int IntKind.i64 1), (Value.int IntKind.i64 100)] H25 v25x28 H29⟩ ⟨fun v25x28 H29 => @bnd (aFieldAddr Tryz.prog H2 34 v1x1 5) ⟨fun v26x30 => @bnd (aLoad Tryz.prog
  H2 3 v26x30) ⟨fun v27x31 => @bndD false H29 ⟨fun v28x32 H33 => ACalls Tryz.prog 25 [v27x31, (Value.int IntKind.i64 1), (Value.int IntKind.i64 10000)] H29 v28x32 H33⟩ ⟨fun v28x32 H33 => @bnd (aFieldAddr Tryz.prog H2 34 v1x1 6)
  ⟨fun v29x34 => @bnd (aLoad Tryz.prog H2 32 v29x34) ⟨fun v30x35 => @bnd (aLen Tryz.prog H2 32 v30x35) ⟨fun v31x36 => @bnd (aBin2 Tryz.prog H2 BinOp.leq 3 (Operand.tmp 31) (Operand.const (Value.int IntKind.i64 4)) v31x36
  (Value.int IntKind.i64 4)) ⟨fun v32x37 => @bnd (aFieldAddr Tryz.prog H2 34 v1x1 6) ⟨fun v33x38 => @bnd (aLoad Tryz.prog H2 32 v33x38) ⟨fun v34x39 => @bndD false H33 ⟨fun v35x40 H41 => ACalls Tryz.prog 33 [v34x39, (.func (.func
  34) #[] #[])] H33 v35x40 H41⟩ ⟨fun v35x40 H41 => @bnd (unV Tryz.prog UnOp.not v35x40) ⟨fun v36x42 => @bnd (aFieldAddr Tryz.prog H2 34 v1x1 6) ⟨fun v37x43 => @bnd (aLoad Tryz.prog H2 32 v37x43) ⟨fun v38x44 => @bndD false H41
  ⟨fun v39x45 H46 => ACalls Tryz.prog 35 [v38x44, (.func (.func 36) #[] #[])] H41 v39x45 H46⟩ ⟨fun v39x45 H46 => @bnd (aFieldAddr Tryz.prog H2 34 v1x1 2) ⟨fun v40x47 => @bnd (aLoad Tryz.prog H2 31 v40x47) ⟨fun v41x48 => @bndD
  false H46 ⟨fun v42x49 H50 => ACalls Tryz.prog 37 [v41x48] H46 v42x49 H50⟩ ⟨fun v42x49 H50 => @bndD true H50 ⟨fun v43x51 H52 => sliceLit Tryz.prog H50 71 11 [(0, v5x5), (1, v13x14), (2, v16x17), (3, v19x21), (4, v22x24), (5,
  v25x28), (6, v28x32), (7, v32x37), (8, v36x42), (9, v39x45), (10, v42x49)] v43x51 H52⟩ ⟨fun v43x51 H52 => @bndD true H52 ⟨fun v44x53 H54 => ACalls Tryz.prog 24 [v43x51] H52 v44x53 H54⟩ ⟨fun v44x53 H54 => k v44x53
  H54⟩⟩⟩⟩⟩⟩⟩⟩⟩⟩⟩⟩⟩⟩⟩⟩⟩⟩⟩⟩⟩⟩⟩⟩⟩⟩⟩⟩⟩⟩⟩⟩⟩⟩⟩⟩⟩⟩⟩⟩⟩⟩) := by kernel_rfl
-- tocsin/check.Mute
theorem d13 (a0 : Value) (H : AHeap) (k : Value → AHeap → Prop) : kbody Tryz.prog Tryz.f13 [a0] H k = (@bndE (aNew H 38 a0) ⟨fun v1x1 H2 => @bnd (aFieldAddr Tryz.prog H2 38 v1x1 0) ⟨fun v3x3 => @bnd (aLoad Tryz.prog H2 9 v3x3)
  ⟨fun v4x4 => @bndD false H2 ⟨fun v5x5 H6 => ACalls Tryz.prog 32 [v4x4] H2 v5x5 H6⟩ ⟨fun v5x5 H6 => @bnd (aFieldAddr Tryz.prog H2 38 v1x1 1) ⟨fun v6x7 => @bnd (aSliceOp Tryz.prog H2 36 v6x7 none none) ⟨fun v7x8 => @bndD false H6
  ⟨fun v8x9 H10 => ACalls Tryz.prog 38 [v7x8, (Value.bool true)] H6 v8x9 H10⟩ ⟨fun v8x9 H10 => @bnd (aFieldAddr Tryz.prog H2 38 v1x1 2) ⟨fun v9x11 => @bnd (aLoad Tryz.prog H2 3 v9x11) ⟨fun v10x12 => @bndD false H10 ⟨fun v11x13
  H14 => ACalls Tryz.prog 25 [v10x12, (Value.int IntKind.i64 0), (Value.int IntKind.i64 1439)] H10 v11x13 H14⟩ ⟨fun v11x13 H14 => @bnd (aFieldAddr Tryz.prog H2 38 v1x1 3) ⟨fun v12x15 => @bnd (aLoad Tryz.prog H2 3 v12x15) ⟨fun
  v13x16 => @bndD false H14 ⟨fun v14x17 H18 => ACalls Tryz.prog 25 [v13x16, (Value.int IntKind.i64 1), (Value.int IntKind.i64 1440)] H14 v14x17 H18⟩ ⟨fun v14x17 H18 => @bnd (aFieldAddr Tryz.prog H2 38 v1x1 2) ⟨fun v15x19 => @bnd
  (aLoad Tryz.prog H2 3 v15x19) ⟨fun v16x20 => @bnd (aFieldAddr Tryz.prog H2 38 v1x1 3) ⟨fun v17x21 => @bnd (aLoad Tryz.prog H2 3 v17x21) ⟨fun v18x22 => @bnd (aBin2 Tryz.prog H2 BinOp.neq 3 (Operand.tmp 16) (Operand.tmp 18)
  v16x20 v18x22) ⟨fun v19x23 => @bndD true H18 ⟨fun v20x24 H25 => sliceLit Tryz.prog H18 71 5 [(0, v5x5), (1, v8x9), (2, v11x13), (3, v14x17), (4, v19x23)] v20x24 H25⟩ ⟨fun v20x24 H25 => @bndD true H25 ⟨fun v21x26 H27 => ACalls
  Tryz.prog 24 [v20x24] H25 v21x26 H27⟩ ⟨fun v21x26 H27 => k v21x26 H27⟩⟩⟩⟩⟩⟩⟩⟩⟩⟩⟩⟩⟩⟩⟩⟩⟩⟩⟩⟩) := by kernel_rfl
-- tocsin/tocsinref11.Copy
def L14x0 (n : Nat) (k : Value → AHeap → Prop) (sl : List Value) (H : AHeap) : Prop := kit Tryz.prog (cl (cl (cr (cl (cr (cr (cb Tryz.f14))))))) n (kblk 0 (kseq Tryz.prog (cr (cr (cr (cb Tryz.f14)))) (kfin Tryz.prog Tryz.f14 k)))
  .normal sl H
theorem d14 (a0 : Value) (H : AHeap) (k : Value → AHeap → Prop) : kbody Tryz.prog Tryz.f14 [a0] H k = (@bndE (aNew H 25 a0) ⟨fun v1x1 H2 => @bndE (aAlloc Tryz.prog H2 25) ⟨fun v2x3 H4 => @bnd (aFieldAddr Tryz.prog H4 25 v1x1 2)
  ⟨fun v5x5 => @bnd (aLoad Tryz.prog H4 3 v5x5) ⟨fun v6x6 => @bnd (aFieldAddr Tryz.prog H4 25 v1x1 3) ⟨fun v7x7 => @bnd (aLoad Tryz.prog H4 3 v7x7) ⟨fun v8x8 => @bnd (buildV Tryz.prog 25 [(2, v6x6), (3, v8x8)]) ⟨fun v9x9 => @bndE
  (aAlloc Tryz.prog H4 25) ⟨fun v3x10 H11 => @bndS (aStore Tryz.prog H11 25 v3x10 v9x9) ⟨fun _ H13 => ∃ n, L14x0 n  k [a0, v1x1, v2x3, v3x10, (Value.int IntKind.i64 0), v5x5, v6x6, v7x7, v8x8, v9x9, undef, undef, undef, undef,
  undef, undef, undef, undef, undef, undef, undef, undef, undef, undef, undef, undef, undef, undef, undef, undef, undef, undef, undef, undef, undef] H13⟩⟩⟩⟩⟩⟩⟩⟩⟩) := by kernel_rfl
theorem L14x0q (n0 : Nat) (s0 s1 s2 s3 s4 s5 s6 s7 s8 s9 s10 s11 s12 s13 s14 s15 s16 s17 s18 s19 s20 s21 s22 s23 s24 s25 s26 s27 s28 s29 s30 s31 s32 s33 s34 : Value) (H : AHeap) (k : Value → AHeap → Prop) : L14x0 (n0 + 1) k [s0,
  s1, s2, s3, s4, s5, s6, s7, s8, s9, s10, s11, s12, s13, s14, s15, s16, s17, s18, s19, s20, s21, s22, s23, s24, s25, s26, s27, s28, s29, s30, s31, s32, s33, s34] H = (@bnd (aFieldAddr Tryz.prog H 25 s1 0) ⟨fun v11x14 => @bnd
  (aLoad Tryz.prog H 22 v11x14) ⟨fun v12x15 => @bnd (aLen Tryz.prog H 22 v12x15) ⟨fun v13x16 => @bnd (aBin2 Tryz.prog H BinOp.lss 3 (Operand.tmp 10) (Operand.tmp 13) s4 v13x16) ⟨fun v14x17 => @kifB v14x17 ⟨@bnd (aFieldAddr
  Tryz.prog H 25 s3 0) ⟨fun v17x18 => @bnd (aLoad Tryz.prog H 22 v17x18) ⟨fun v18x19 => @bnd (aFieldAddr Tryz.prog H 25 s1 0) ⟨fun v19x20 => @bnd (aLoad Tryz.prog H 22 v19x20) ⟨fun v20x21 => @bnd (aIndexAddr Tryz.prog H 22 v20x21
  s4) ⟨fun v22x22 => @bnd (aLoad Tryz.prog H 34 v22x22) ⟨fun v23x23 => @bndD false H ⟨fun v24x24 H25 => ACalls Tryz.prog 39 [v23x23] H v24x24 H25⟩ ⟨fun v24x24 H25 => @bndD false H25 ⟨fun v25x26 H27 => sliceLit Tryz.prog H25 22 1
  [(0, v24x24)] v25x26 H27⟩ ⟨fun v25x26 H27 => @bndD true H27 ⟨fun v26x28 H29 => aBuiltin Tryz.prog H27 Builtin.append #[22, 22] [v18x19, v25x26] = some (v26x28, H29)⟩ ⟨fun v26x28 H29 => @bnd (aFieldAddr Tryz.prog H29 25 s3 0)
  ⟨fun v27x30 => @bndD true H29 ⟨fun x31 H32 => x31 = undef ∧ aStore Tryz.prog H29 22 v27x30 v26x28 = some H32⟩ ⟨fun _ H32 => @bnd (aBin2 Tryz.prog H32 BinOp.add 3 (Operand.tmp 15) (Operand.const (Value.int IntKind.i64 1)) s4
  (Value.int IntKind.i64 1)) ⟨fun v16x33 => L14x0 n0  k [s0, s1, s2, s3, v16x33, s5, s6, s7, s8, s9, s4, v11x14, v12x15, v13x16, v14x17, s4, v16x33, v17x18, v18x19, v19x20, v20x21, s4, v22x22, v23x23, v24x24, v25x26, v26x28,
  v27x30, s28, s29, s30, s31, s32, s33, s34] H32⟩⟩⟩⟩⟩⟩⟩⟩⟩⟩⟩⟩⟩ ⟨@bnd (aFieldAddr Tryz.prog H 25 s3 1) ⟨fun v28x34 => @bnd (aLoad Tryz.prog H 23 v28x34) ⟨fun v29x35 => @bnd (aFieldAddr Tryz.prog H 25 s1 1) ⟨fun v30x36 => @bnd
  (aLoad Tryz.prog H 23 v30x36) ⟨fun v31x37 => @bndE (aBuiltin Tryz.prog H Builtin.append #[23, 23] [v29x35, v31x37]) ⟨fun v32x38 H39 => @bnd (aFieldAddr Tryz.prog H39 25 s3 1) ⟨fun v33x40 => @bndS (aStore Tryz.prog H39 23 v33x40
  v32x38) ⟨fun _ H42 => @bnd (aLoad Tryz.prog H42 25 s3) ⟨fun v34x43 => @bndS (aStore Tryz.prog H42 25 s2 v34x43) ⟨fun _ H45 => ∃ r46, aLoad Tryz.prog H45 25 s2 = some r46 ∧ k r46 H45⟩⟩⟩⟩⟩⟩⟩⟩⟩⟩⟩⟩⟩⟩) := by kernel_rfl
-- tocsin/check.Window
def L15x0 (n : Nat) (k : Value → AHeap → Prop) (sl : List Value) (H : AHeap) : Prop := kit Tryz.prog (cl (cl (cr (cl (cr (cr (cb Tryz.f15))))))) n (kblk 0 (kseq Tryz.prog (cr (cr (cr (cb Tryz.f15)))) (kfin Tryz.prog Tryz.f15 k)))
  .normal sl H
def S15x0 (n0 : Nat) (k : Value → AHeap → Prop) (sl : List Value) (H : AHeap) : Prop := kseq Tryz.prog (cr (cr (cr (cl (cl (cr (cl (cr (cr (cb Tryz.f15)))))))))) (kit Tryz.prog (cl (cl (cr (cl (cr (cr (cb Tryz.f15))))))) n0 (kblk
  0 (kseq Tryz.prog (cr (cr (cr (cb Tryz.f15)))) (kfin Tryz.prog Tryz.f15 k)))) .normal sl H
theorem d15 (a0 : Value) (H : AHeap) (k : Value → AHeap → Prop) : kbody Tryz.prog Tryz.f15 [a0] H k = (@bnd (aLen Tryz.prog H 31 a0) ⟨fun v7x1 => ∃ n, L15x0 n  k [a0, undef, (Value.int IntKind.i64 0), (Value.int IntKind.i64 0),
  undef, undef, a0, v7x1, (Value.int IntKind.i64 0), undef, undef, undef, undef, undef, undef, undef, undef, undef, undef, undef, undef] H⟩) := by kernel_rfl
theorem L15x0q (n0 : Nat) (s0 s1 s2 s3 s4 s5 s6 s7 s8 s9 s10 s11 s12 s13 s14 s15 s16 s17 s18 s19 s20 : Value) (H : AHeap) (k : Value → AHeap → Prop) : L15x0 (n0 + 1) k [s0, s1, s2, s3, s4, s5, s6, s7, s8, s9, s10, s11, s12, s13,
  s14, s15, s16, s17, s18, s19, s20] H = (@bnd (aBin2 Tryz.prog H BinOp.lss 3 (Operand.tmp 8) (Operand.tmp 7) s8 s7) ⟨fun v9x2 => @kifB v9x2 ⟨@bnd (aIndexAddr Tryz.prog H 31 s6 s8) ⟨fun v10x3 => @bnd (aLoad Tryz.prog H 75 v10x3)
  ⟨fun v11x4 => @bndE (aAlloc Tryz.prog H 75) ⟨fun v5x5 H6 => @bndS (aStore Tryz.prog H6 75 v5x5 v11x4) ⟨fun _ H8 => @bnd (aFieldAddr Tryz.prog H8 75 v5x5 0) ⟨fun v12x9 => @bnd (aLoad Tryz.prog H8 5 v12x9) ⟨fun v13x10 => @bnd
  (aBin2 Tryz.prog H8 BinOp.eql 5 (Operand.tmp 13) (Operand.const (Value.int IntKind.u8 0)) v13x10 (Value.int IntKind.u8 0)) ⟨fun v14x11 => @kifB v14x11 ⟨@bnd (aFieldAddr Tryz.prog H8 75 v5x5 3) ⟨fun v16x12 => @bnd (aLoad
  Tryz.prog H8 3 v16x12) ⟨fun v17x13 => @bndE (aBuiltin Tryz.prog H8 Builtin.max #[3, 3] [s3, v17x13]) ⟨fun v18x14 H15 => S15x0 n0 k [s0, s1, s2, v18x14, s4, v5x5, s6, s7, s8, v9x2, v10x3, v11x4, v12x9, v13x10, v14x11, s3,
  v16x12, v17x13, v18x14, s19, s20] H15⟩⟩⟩⟩ ⟨S15x0 n0 k [s0, s1, s2, s3, s4, v5x5, s6, s7, s8, v9x2, v10x3, v11x4, v12x9, v13x10, v14x11, s15, s16, s17, s18, s19, s20] H8⟩⟩⟩⟩⟩⟩⟩⟩⟩ ⟨k s3 H⟩⟩) := by kernel_rfl
theorem S15x0q (n0 : Nat) (s0 s1 s2 s3 s4 s5 s6 s7 s8 s9 s10 s11 s12 s13 s14 s15 s16 s17 s18 s19 s20 : Value) (H : AHeap) (k : Value → AHeap → Prop) : S15x0 n0 k [s0, s1, s2, s3, s4, s5, s6, s7, s8, s9, s10, s11, s12, s13, s14,
  s15, s16, s17, s18, s19, s20] H = (@bnd (aBin2 Tryz.prog H BinOp.add 3 (Operand.tmp 8) (Operand.const (Value.int IntKind.i64 1)) s8 (Value.int IntKind.i64 1)) ⟨fun v19x16 => L15x0 n0  k [s0, s1, s2, s3, s4, s5, s6, s7, v19x16,
  s9, s10, s11, s12, s13, s14, s15, s16, s17, s18, v19x16, s20] H⟩) := by kernel_rfl
-- tocsin/expr.Parse
def S22x0 (k : Value → AHeap → Prop) (sl : List Value) (H : AHeap) : Prop := kseq Tryz.prog (cr (cr (cr (cr (cr (cr (cb Tryz.f22))))))) (kfin Tryz.prog Tryz.f22 k) .normal sl H
theorem d22 (a0 : Value) (H : AHeap) (k : Value → AHeap → Prop) : kbody Tryz.prog Tryz.f22 [a0] H k = (@bndC Tryz.prog 45 [a0] H ⟨fun v12x1 H2 => @bnd (tupV v12x1 0) ⟨fun v13x3 => @bnd (tupV v12x1 1) ⟨fun v14x4 => @bnd (tupV
  v12x1 2) ⟨fun v15x5 => @bnd (aBin2 Tryz.prog H2 BinOp.neq 28 (Operand.tmp 16) (Operand.const (Value.int IntKind.i64 0)) v15x5 (Value.int IntKind.i64 0)) ⟨fun v17x6 => @kifB v17x6 ⟨k (.tuple #[(Value.slice none 0 0), v15x5]) H2⟩
  ⟨@bndC Tryz.prog 46 [v13x3, (Value.int IntKind.i64 0)] H2 ⟨fun v21x7 H8 => @bnd (tupV v21x7 0) ⟨fun v22x9 => @bnd (tupV v21x7 1) ⟨fun v23x10 => @bnd (tupV v21x7 2) ⟨fun v24x11 => @bnd (aBin2 Tryz.prog H8 BinOp.eql 28
  (Operand.tmp 25) (Operand.const (Value.int IntKind.i64 100)) v24x11 (Value.int IntKind.i64 100)) ⟨fun v26x12 => @kifB v26x12 ⟨k (.tuple #[(Value.slice none 0 0), v24x11]) H8⟩ ⟨@bnd (aBin2 Tryz.prog H8 BinOp.eql 28 (Operand.tmp
  28) (Operand.const (Value.int IntKind.i64 4)) v24x11 (Value.int IntKind.i64 4)) ⟨fun v29x13 => @kifB v29x13 ⟨@bnd (buildV Tryz.prog 89 [(0, v13x3), (2, (Value.bool true))]) ⟨fun v31x14 => @bndE (aNew H8 89 v31x14) ⟨fun v32x15
  H16 => @bndC Tryz.prog 47 [v32x15] H16 ⟨fun v34x17 H18 => @bnd (nilV v32x15) ⟨fun v36x19 => @bnd (aFieldAddr Tryz.prog H18 89 v36x19 1) ⟨fun v37x20 => @bnd (aLoad Tryz.prog H18 3 v37x20) ⟨fun v38x21 => S22x0  k [a0, undef,
  (Value.slice none 0 0), (Value.int IntKind.i64 0), v13x3, v14x4, v24x11, v22x9, v38x21, v32x15, v12x1, a0, v12x1, v13x3, v14x4, v15x5, v15x5, v17x6, undef, v21x7, v13x3, v21x7, v22x9, v23x10, v24x11, v24x11, v26x12, undef,
  v24x11, v29x13, v13x3, v31x14, v32x15, v32x15, v34x17, v32x15, v36x19, v37x20, v38x21, undef, undef, undef, undef, undef, undef] H18⟩⟩⟩⟩⟩⟩⟩ ⟨S22x0  k [a0, undef, (Value.slice none 0 0), (Value.int IntKind.i64 0), v13x3, v14x4,
  v24x11, v22x9, v23x10, undef, v12x1, a0, v12x1, v13x3, v14x4, v15x5, v15x5, v17x6, undef, v21x7, v13x3, v21x7, v22x9, v23x10, v24x11, v24x11, v26x12, undef, v24x11, v29x13, undef, undef, undef, undef, undef, undef, undef,
  undef, undef, undef, undef, undef, undef, undef, undef] H8⟩⟩⟩⟩⟩⟩⟩⟩⟩⟩⟩⟩⟩⟩) := by kernel_rfl
theorem S22x0q (s0 s1 s2 s3 s4 s5 s6 s7 s8 s9 s10 s11 s12 s13 s14 s15 s16 s17 s18 s19 s20 s21 s22 s23 s24 s25 s26 s27 s28 s29 s30 s31 s32 s33 s34 s35 s36 s37 s38 s39 s40 s41 s42 s43 s44 : Value) (H : AHeap) (k : Value → AHeap →
  Prop) : S22x0 k [s0, s1, s2, s3, s4, s5, s6, s7, s8, s9, s10, s11, s12, s13, s14, s15, s16, s17, s18, s19, s20, s21, s22, s23, s24, s25, s26, s27, s28, s29, s30, s31, s32, s33, s34, s35, s36, s37, s38, s39, s40, s41, s42, s43,
  s44] H = (@bnd (aLen Tryz.prog H 82 s4) ⟨fun v41x22 => @bnd (aBin2 Tryz.prog H BinOp.neq 3 (Operand.tmp 39) (Operand.tmp 41) s8 v41x22) ⟨fun v42x23 => @kifB v42x23 ⟨k (.tuple #[(Value.slice none 0 0), (Value.int IntKind.i64
  100)]) H⟩ ⟨k (.tuple #[s7, s6]) H⟩⟩⟩) := by kernel_rfl
-- tocsin/tocsinlaw11.big
def L23x0 (n : Nat) (k : Value → AHeap → Prop) (sl : List Value) (H : AHeap) : Prop := kit Tryz.prog (cl (cl (cr (cl (cr (cr (cr (cb Tryz.f23)))))))) n (kblk 0 (kseq Tryz.prog (cr (cr (cr (cr (cb Tryz.f23))))) (kfin Tryz.prog
  Tryz.f23 k))) .normal sl H
def L23x1 (n : Nat) (k : Value → AHeap → Prop) (sl : List Value) (H : AHeap) : Prop := kit Tryz.prog (cl (cl (cr (cl (cr (cr (cr (cr (cb Tryz.f23))))))))) n (kblk 2 (kseq Tryz.prog (cr (cr (cr (cr (cr (cb Tryz.f23)))))) (kfin
  Tryz.prog Tryz.f23 k))) .normal sl H
def L23x2 (n : Nat) (n1 : Nat) (k : Value → AHeap → Prop) (sl : List Value) (H : AHeap) : Prop := kit Tryz.prog (cl (cl (cr (cr (cl (cl (cr (cl (cl (cr (cl (cr (cr (cr (cr (cb Tryz.f23)))))))))))))))) n (kblk 4 (kblk 3 (kseq
  Tryz.prog (cr (cr (cl (cl (cr (cl (cr (cr (cr (cr (cb Tryz.f23))))))))))) (kit Tryz.prog (cl (cl (cr (cl (cr (cr (cr (cr (cb Tryz.f23))))))))) n1 (kblk 2 (kseq Tryz.prog (cr (cr (cr (cr (cr (cb Tryz.f23)))))) (kfin Tryz.prog
  Tryz.f23 k))))))) .normal sl H
theorem d23 (a0 : Value) (H : AHeap) (k : Value → AHeap → Prop) : kbody Tryz.prog Tryz.f23 [a0] H k = (@bndE (aNew H 34 a0) ⟨fun v1x1 H2 => @bnd (aFieldAddr Tryz.prog H2 34 v1x1 6) ⟨fun v8x3 => @bnd (aLoad Tryz.prog H2 32 v8x3)
  ⟨fun v9x4 => @bnd (aLen Tryz.prog H2 32 v9x4) ⟨fun v10x5 => @bnd (aBin2 Tryz.prog H2 BinOp.gtr 3 (Operand.tmp 10) (Operand.const (Value.int IntKind.i64 100)) v10x5 (Value.int IntKind.i64 100)) ⟨fun v11x6 => @bnd (gif v11x6
  false (aFieldAddr Tryz.prog H2 34 v1x1 2) undef) ⟨fun v13x7 => @bnd (gif v11x6 false (aLoad Tryz.prog H2 31 v13x7) undef) ⟨fun v14x8 => @bnd (gif v11x6 false (aLen Tryz.prog H2 31 v14x8) undef) ⟨fun v15x9 => @bnd (gif v11x6
  false (aBin2 Tryz.prog H2 BinOp.gtr 3 (Operand.tmp 15) (Operand.const (Value.int IntKind.i64 100)) v15x9 (Value.int IntKind.i64 100)) undef) ⟨fun v16x10 => @bnd (pickV v11x6 (Value.bool true) v16x10) ⟨fun v17x11 => @bnd (gif
  v17x11 false (aFieldAddr Tryz.prog H2 34 v1x1 0) undef) ⟨fun v19x12 => @bnd (gif v17x11 false (aLoad Tryz.prog H2 9 v19x12) undef) ⟨fun v20x13 => @bnd (gif v17x11 false (aLen Tryz.prog H2 9 v20x13) undef) ⟨fun v21x14 => @bnd
  (gif v17x11 false (aBin2 Tryz.prog H2 BinOp.gtr 3 (Operand.tmp 21) (Operand.const (Value.int IntKind.i64 1000)) v21x14 (Value.int IntKind.i64 1000)) undef) ⟨fun v22x15 => @bnd (pickV v17x11 (Value.bool true) v22x15) ⟨fun v23x16
  => @bnd (gif v23x16 false (aFieldAddr Tryz.prog H2 34 v1x1 1) undef) ⟨fun v25x17 => @bnd (gif v23x16 false (aLoad Tryz.prog H2 9 v25x17) undef) ⟨fun v26x18 => @bnd (gif v23x16 false (aLen Tryz.prog H2 9 v26x18) undef) ⟨fun
  v27x19 => @bnd (gif v23x16 false (aBin2 Tryz.prog H2 BinOp.gtr 3 (Operand.tmp 27) (Operand.const (Value.int IntKind.i64 1000)) v27x19 (Value.int IntKind.i64 1000)) undef) ⟨fun v28x20 => @bnd (pickV v23x16 (Value.bool true)
  v28x20) ⟨fun v29x21 => @bnd (gif v29x21 false (aFieldAddr Tryz.prog H2 34 v1x1 7) undef) ⟨fun v31x22 => @bnd (gif v29x21 false (aLoad Tryz.prog H2 9 v31x22) undef) ⟨fun v32x23 => @bnd (gif v29x21 false (aLen Tryz.prog H2 9
  v32x23) undef) ⟨fun v33x24 => @bnd (gif v29x21 false (aBin2 Tryz.prog H2 BinOp.gtr 3 (Operand.tmp 33) (Operand.const (Value.int IntKind.i64 1000)) v33x24 (Value.int IntKind.i64 1000)) undef) ⟨fun v34x25 => @bnd (pickV v29x21
  (Value.bool true) v34x25) ⟨fun v35x26 => @kifB v35x26 ⟨k (Value.bool true) H2⟩ ⟨@bnd (aFieldAddr Tryz.prog H2 34 v1x1 0) ⟨fun v36x27 => @bnd (aLoad Tryz.prog H2 9 v36x27) ⟨fun v37x28 => @bnd (aLen Tryz.prog H2 9 v37x28) ⟨fun
  v38x29 => @bnd (aBin2 Tryz.prog H2 BinOp.sub 3 (Operand.const (Value.int IntKind.i64 5000)) (Operand.tmp 38) (Value.int IntKind.i64 5000) v38x29) ⟨fun v39x30 => @bnd (aFieldAddr Tryz.prog H2 34 v1x1 1) ⟨fun v40x31 => @bnd
  (aLoad Tryz.prog H2 9 v40x31) ⟨fun v41x32 => @bnd (aLen Tryz.prog H2 9 v41x32) ⟨fun v42x33 => @bnd (aBin2 Tryz.prog H2 BinOp.sub 3 (Operand.tmp 39) (Operand.tmp 42) v39x30 v42x33) ⟨fun v43x34 => @bnd (aFieldAddr Tryz.prog H2 34
  v1x1 7) ⟨fun v44x35 => @bnd (aLoad Tryz.prog H2 9 v44x35) ⟨fun v45x36 => @bnd (aLen Tryz.prog H2 9 v45x36) ⟨fun v46x37 => @bnd (aBin2 Tryz.prog H2 BinOp.sub 3 (Operand.tmp 43) (Operand.tmp 46) v43x34 v46x37) ⟨fun v47x38 => ∃ n,
  L23x0 n  k [a0, v1x1, (Value.bool false), v47x38, (Value.int IntKind.i64 0), undef, undef, undef, v8x3, v9x4, v10x5, v11x6, v11x6, v13x7, v14x8, v15x9, v16x10, v17x11, v17x11, v19x12, v20x13, v21x14, v22x15, v23x16, v23x16,
  v25x17, v26x18, v27x19, v28x20, v29x21, v29x21, v31x22, v32x23, v33x24, v34x25, v35x26, v36x27, v37x28, v38x29, v39x30, v40x31, v41x32, v42x33, v43x34, v44x35, v45x36, v46x37, v47x38, undef, undef, undef, undef, undef, undef,
  undef, undef, undef, undef, undef, undef, undef, undef, undef, undef, undef, undef, undef, undef, undef, undef, undef, undef, undef, undef, undef, undef, undef, undef, undef, undef, undef, undef, undef, undef, undef, undef,
  undef, undef, undef, undef, undef, undef, undef, undef, undef, undef, undef, undef, undef, undef, undef, undef, undef, undef, undef, undef, undef, undef, undef, undef, undef, undef, undef, undef, undef, undef, undef, undef,
  undef, undef, undef, undef, undef, undef, undef, undef, undef, undef, undef, undef, undef] H2⟩⟩⟩⟩⟩⟩⟩⟩⟩⟩⟩⟩⟩⟩⟩⟩⟩⟩⟩⟩⟩⟩⟩⟩⟩⟩⟩⟩⟩⟩⟩⟩⟩⟩⟩⟩⟩⟩) := by kernel_rfl
theorem L23x0q (n0 : Nat) (s0 s1 s2 s3 s4 s5 s6 s7 s8 s9 s10 s11 s12 s13 s14 s15 s16 s17 s18 s19 s20 s21 s22 s23 s24 s25 s26 s27 s28 s29 s30 s31 s32 s33 s34 s35 s36 s37 s38 s39 s40 s41 s42 s43 s44 s45 s46 s47 s48 s49 s50 s51 s52
  s53 s54 s55 s56 s57 s58 s59 s60 s61 s62 s63 s64 s65 s66 s67 s68 s69 s70 s71 s72 s73 s74 s75 s76 s77 s78 s79 s80 s81 s82 s83 s84 s85 s86 s87 s88 s89 s90 s91 s92 s93 s94 s95 s96 s97 s98 s99 s100 s101 s102 s103 s104 s105 s106 s107
  s108 s109 s110 s111 s112 s113 s114 s115 s116 s117 s118 s119 s120 s121 s122 s123 s124 s125 s126 s127 s128 s129 s130 : Value) (H : AHeap) (k : Value → AHeap → Prop) : L23x0 (n0 + 1) k [s0, s1, s2, s3, s4, s5, s6, s7, s8, s9, s10,
  s11, s12, s13, s14, s15, s16, s17, s18, s19, s20, s21, s22, s23, s24, s25, s26, s27, s28, s29, s30, s31, s32, s33, s34, s35, s36, s37, s38, s39, s40, s41, s42, s43, s44, s45, s46, s47, s48, s49, s50, s51, s52, s53, s54, s55,
  s56, s57, s58, s59, s60, s61, s62, s63, s64, s65, s66, s67, s68, s69, s70, s71, s72, s73, s74, s75, s76, s77, s78, s79, s80, s81, s82, s83, s84, s85, s86, s87, s88, s89, s90, s91, s92, s93, s94, s95, s96, s97, s98, s99, s100,
  s101, s102, s103, s104, s105, s106, s107, s108, s109, s110, s111, s112, s113, s114, s115, s116, s117, s118, s119, s120, s121, s122, s123, s124, s125, s126, s127, s128, s129, s130] H = (@bnd (aFieldAddr Tryz.prog H 34 s1 6) ⟨fun
  v49x39 => @bnd (aLoad Tryz.prog H 32 v49x39) ⟨fun v50x40 => @bnd (aLen Tryz.prog H 32 v50x40) ⟨fun v51x41 => @bnd (aBin2 Tryz.prog H BinOp.lss 3 (Operand.tmp 48) (Operand.tmp 51) s4 v51x41) ⟨fun v52x42 => @kifB v52x42 ⟨@bnd
  (aFieldAddr Tryz.prog H 34 s1 6) ⟨fun v55x43 => @bnd (aLoad Tryz.prog H 32 v55x43) ⟨fun v56x44 => @bnd (aIndexAddr Tryz.prog H 32 v56x44 s4) ⟨fun v58x45 => @bnd (aLoad Tryz.prog H 9 v58x45) ⟨fun v59x46 => @bnd (aLen Tryz.prog H
  9 v59x46) ⟨fun v60x47 => @bnd (aBin2 Tryz.prog H BinOp.gtr 3 (Operand.tmp 60) (Operand.tmp 61) v60x47 s3) ⟨fun v62x48 => @kifB v62x48 ⟨k (Value.bool true) H⟩ ⟨@bnd (aFieldAddr Tryz.prog H 34 s1 6) ⟨fun v64x49 => @bnd (aLoad
  Tryz.prog H 32 v64x49) ⟨fun v65x50 => @bnd (aIndexAddr Tryz.prog H 32 v65x50 s4) ⟨fun v67x51 => @bnd (aLoad Tryz.prog H 9 v67x51) ⟨fun v68x52 => @bnd (aLen Tryz.prog H 9 v68x52) ⟨fun v69x53 => @bnd (aBin2 Tryz.prog H BinOp.sub
  3 (Operand.tmp 63) (Operand.tmp 69) s3 v69x53) ⟨fun v70x54 => @bnd (aBin2 Tryz.prog H BinOp.add 3 (Operand.tmp 53) (Operand.const (Value.int IntKind.i64 1)) s4 (Value.int IntKind.i64 1)) ⟨fun v54x55 => L23x0 n0  k [s0, s1, s2,
  v70x54, v54x55, s5, s6, s7, s8, s9, s10, s11, s12, s13, s14, s15, s16, s17, s18, s19, s20, s21, s22, s23, s24, s25, s26, s27, s28, s29, s30, s31, s32, s33, s34, s35, s36, s37, s38, s39, s40, s41, s42, s43, s44, s45, s46, s47,
  s4, v49x39, v50x40, v51x41, v52x42, s4, v54x55, v55x43, v56x44, s4, v58x45, v59x46, v60x47, s3, v62x48, s3, v64x49, v65x50, s4, v67x51, v68x52, v69x53, v70x54, s71, s72, s73, s74, s75, s76, s77, s78, s79, s80, s81, s82, s83,
  s84, s85, s86, s87, s88, s89, s90, s91, s92, s93, s94, s95, s96, s97, s98, s99, s100, s101, s102, s103, s104, s105, s106, s107, s108, s109, s110, s111, s112, s113, s114, s115, s116, s117, s118, s119, s120, s121, s122, s123,
  s124, s125, s126, s127, s128, s129, s130] H⟩⟩⟩⟩⟩⟩⟩⟩⟩⟩⟩⟩⟩⟩⟩ ⟨∃ n, L23x1 n  k [s0, s1, s2, s3, s4, (Value.int IntKind.i64 0), s6, s7, s8, s9, s10, s11, s12, s13, s14, s15, s16, s17, s18, s19, s20, s21, s22, s23, s24, s25, s26,
  s27, s28, s29, s30, s31, s32, s33, s34, s35, s36, s37, s38, s39, s40, s41, s42, s43, s44, s45, s46, s47, s4, v49x39, v50x40, v51x41, v52x42, s53, s54, s55, s56, s57, s58, s59, s60, s61, s62, s63, s64, s65, s66, s67, s68, s69,
  s70, s71, s72, s73, s74, s75, s76, s77, s78, s79, s80, s81, s82, s83, s84, s85, s86, s87, s88, s89, s90, s91, s92, s93, s94, s95, s96, s97, s98, s99, s100, s101, s102, s103, s104, s105, s106, s107, s108, s109, s110, s111, s112,
  s113, s114, s115, s116, s117, s118, s119, s120, s121, s122, s123, s124, s125, s126, s127, s128, s129, s130] H⟩⟩⟩⟩⟩) := by kernel_rfl
theorem L23x1q (n1 : Nat) (s0 s1 s2 s3 s4 s5 s6 s7 s8 s9 s10 s11 s12 s13 s14 s15 s16 s17 s18 s19 s20 s21 s22 s23 s24 s25 s26 s27 s28 s29 s30 s31 s32 s33 s34 s35 s36 s37 s38 s39 s40 s41 s42 s43 s44 s45 s46 s47 s48 s49 s50 s51 s52
  s53 s54 s55 s56 s57 s58 s59 s60 s61 s62 s63 s64 s65 s66 s67 s68 s69 s70 s71 s72 s73 s74 s75 s76 s77 s78 s79 s80 s81 s82 s83 s84 s85 s86 s87 s88 s89 s90 s91 s92 s93 s94 s95 s96 s97 s98 s99 s100 s101 s102 s103 s104 s105 s106 s107
  s108 s109 s110 s111 s112 s113 s114 s115 s116 s117 s118 s119 s120 s121 s122 s123 s124 s125 s126 s127 s128 s129 s130 : Value) (H : AHeap) (k : Value → AHeap → Prop) : L23x1 (n1 + 1) k [s0, s1, s2, s3, s4, s5, s6, s7, s8, s9, s10,
  s11, s12, s13, s14, s15, s16, s17, s18, s19, s20, s21, s22, s23, s24, s25, s26, s27, s28, s29, s30, s31, s32, s33, s34, s35, s36, s37, s38, s39, s40, s41, s42, s43, s44, s45, s46, s47, s48, s49, s50, s51, s52, s53, s54, s55,
  s56, s57, s58, s59, s60, s61, s62, s63, s64, s65, s66, s67, s68, s69, s70, s71, s72, s73, s74, s75, s76, s77, s78, s79, s80, s81, s82, s83, s84, s85, s86, s87, s88, s89, s90, s91, s92, s93, s94, s95, s96, s97, s98, s99, s100,
  s101, s102, s103, s104, s105, s106, s107, s108, s109, s110, s111, s112, s113, s114, s115, s116, s117, s118, s119, s120, s121, s122, s123, s124, s125, s126, s127, s128, s129, s130] H = (@bnd (aFieldAddr Tryz.prog H 34 s1 2) ⟨fun
  v72x56 => @bnd (aLoad Tryz.prog H 31 v72x56) ⟨fun v73x57 => @bnd (aLen Tryz.prog H 31 v73x57) ⟨fun v74x58 => @bnd (aBin2 Tryz.prog H BinOp.lss 3 (Operand.tmp 71) (Operand.tmp 74) s5 v74x58) ⟨fun v75x59 => @kifB v75x59 ⟨@bnd
  (aFieldAddr Tryz.prog H 34 s1 2) ⟨fun v78x60 => @bnd (aLoad Tryz.prog H 31 v78x60) ⟨fun v79x61 => @bnd (aIndexAddr Tryz.prog H 31 v79x61 s5) ⟨fun v81x62 => @bnd (aFieldAddr Tryz.prog H 75 v81x62 2) ⟨fun v82x63 => @bnd (aLoad
  Tryz.prog H 73 v82x63) ⟨fun v83x64 => @bnd (aLen Tryz.prog H 73 v83x64) ⟨fun v84x65 => @bnd (aBin2 Tryz.prog H BinOp.gtr 3 (Operand.tmp 84) (Operand.const (Value.int IntKind.i64 50)) v84x65 (Value.int IntKind.i64 50)) ⟨fun
  v85x66 => @kifB v85x66 ⟨k (Value.bool true) H⟩ ⟨∃ n, L23x2 n n1 k [s0, s1, s2, s3, s4, s5, (Value.int IntKind.i64 0), s7, s8, s9, s10, s11, s12, s13, s14, s15, s16, s17, s18, s19, s20, s21, s22, s23, s24, s25, s26, s27, s28,
  s29, s30, s31, s32, s33, s34, s35, s36, s37, s38, s39, s40, s41, s42, s43, s44, s45, s46, s47, s48, s49, s50, s51, s52, s53, s54, s55, s56, s57, s58, s59, s60, s61, s62, s63, s64, s65, s66, s67, s68, s69, s70, s5, v72x56,
  v73x57, v74x58, v75x59, s76, s77, v78x60, v79x61, s5, v81x62, v82x63, v83x64, v84x65, v85x66, s86, s87, s88, s89, s90, s91, s92, s93, s94, s95, s96, s97, s98, s99, s100, s101, s102, s103, s104, s105, s106, s107, s108, s109,
  s110, s111, s112, s113, s114, s115, s116, s117, s118, s119, s120, s121, s122, s123, s124, s125, s126, s127, s128, s129, s130] H⟩⟩⟩⟩⟩⟩⟩⟩⟩ ⟨k (Value.bool false) H⟩⟩⟩⟩⟩) := by kernel_rfl
theorem L23x2q (n2 : Nat) (n1 : Nat) (s0 s1 s2 s3 s4 s5 s6 s7 s8 s9 s10 s11 s12 s13 s14 s15 s16 s17 s18 s19 s20 s21 s22 s23 s24 s25 s26 s27 s28 s29 s30 s31 s32 s33 s34 s35 s36 s37 s38 s39 s40 s41 s42 s43 s44 s45 s46 s47 s48 s49
  s50 s51 s52 s53 s54 s55 s56 s57 s58 s59 s60 s61 s62 s63 s64 s65 s66 s67 s68 s69 s70 s71 s72 s73 s74 s75 s76 s77 s78 s79 s80 s81 s82 s83 s84 s85 s86 s87 s88 s89 s90 s91 s92 s93 s94 s95 s96 s97 s98 s99 s100 s101 s102 s103 s104
  s105 s106 s107 s108 s109 s110 s111 s112 s113 s114 s115 s116 s117 s118 s119 s120 s121 s122 s123 s124 s125 s126 s127 s128 s129 s130 : Value) (H : AHeap) (k : Value → AHeap → Prop) : L23x2 (n2 + 1) n1 k [s0, s1, s2, s3, s4, s5,
  s6, s7, s8, s9, s10, s11, s12, s13, s14, s15, s16, s17, s18, s19, s20, s21, s22, s23, s24, s25, s26, s27, s28, s29, s30, s31, s32, s33, s34, s35, s36, s37, s38, s39, s40, s41, s42, s43, s44, s45, s46, s47, s48, s49, s50, s51,
  s52, s53, s54, s55, s56, s57, s58, s59, s60, s61, s62, s63, s64, s65, s66, s67, s68, s69, s70, s71, s72, s73, s74, s75, s76, s77, s78, s79, s80, s81, s82, s83, s84, s85, s86, s87, s88, s89, s90, s91, s92, s93, s94, s95, s96,
  s97, s98, s99, s100, s101, s102, s103, s104, s105, s106, s107, s108, s109, s110, s111, s112, s113, s114, s115, s116, s117, s118, s119, s120, s121, s122, s123, s124, s125, s126, s127, s128, s129, s130] H = (@bnd (aFieldAddr
  Tryz.prog H 34 s1 2) ⟨fun v87x67 => @bnd (aLoad Tryz.prog H 31 v87x67) ⟨fun v88x68 => @bnd (aIndexAddr Tryz.prog H 31 v88x68 s5) ⟨fun v90x69 => @bnd (aFieldAddr Tryz.prog H 75 v90x69 2) ⟨fun v91x70 => @bnd (aLoad Tryz.prog H 73
  v91x70) ⟨fun v92x71 => @bnd (aLen Tryz.prog H 73 v92x71) ⟨fun v93x72 => @bnd (aBin2 Tryz.prog H BinOp.lss 3 (Operand.tmp 86) (Operand.tmp 93) s6 v93x72) ⟨fun v94x73 => @kifB v94x73 ⟨@bnd (aFieldAddr Tryz.prog H 34 s1 2) ⟨fun
  v97x74 => @bnd (aLoad Tryz.prog H 31 v97x74) ⟨fun v98x75 => @bnd (aIndexAddr Tryz.prog H 31 v98x75 s5) ⟨fun v100x76 => @bnd (aFieldAddr Tryz.prog H 75 v100x76 2) ⟨fun v101x77 => @bnd (aLoad Tryz.prog H 73 v101x77) ⟨fun v102x78
  => @bnd (aIndexAddr Tryz.prog H 73 v102x78 s6) ⟨fun v104x79 => @bnd (aLoad Tryz.prog H 92 v104x79) ⟨fun v105x80 => @bndE (aAlloc Tryz.prog H 92) ⟨fun v7x81 H82 => @bndS (aStore Tryz.prog H82 92 v7x81 v105x80) ⟨fun _ H84 => @bnd
  (aFieldAddr Tryz.prog H84 92 v7x81 0) ⟨fun v106x85 => @bnd (aLoad Tryz.prog H84 9 v106x85) ⟨fun v107x86 => @bnd (aLen Tryz.prog H84 9 v107x86) ⟨fun v108x87 => @bnd (aBin2 Tryz.prog H84 BinOp.gtr 3 (Operand.tmp 108) (Operand.tmp
  109) v108x87 s3) ⟨fun v110x88 => @bnd (gif v110x88 false (aFieldAddr Tryz.prog H84 92 v7x81 2) undef) ⟨fun v112x89 => @bnd (gif v110x88 false (aLoad Tryz.prog H84 9 v112x89) undef) ⟨fun v113x90 => @bnd (gif v110x88 false (aLen
  Tryz.prog H84 9 v113x90) undef) ⟨fun v114x91 => @bnd (gif v110x88 false ((some s3)) undef) ⟨fun v115x92 => @bnd (gif v110x88 false (aFieldAddr Tryz.prog H84 92 v7x81 0) undef) ⟨fun v116x93 => @bnd (gif v110x88 false (aLoad
  Tryz.prog H84 9 v116x93) undef) ⟨fun v117x94 => @bnd (gif v110x88 false (aLen Tryz.prog H84 9 v117x94) undef) ⟨fun v118x95 => @bnd (gif v110x88 false (aBin2 Tryz.prog H84 BinOp.sub 3 (Operand.tmp 115) (Operand.tmp 118) v115x92
  v118x95) undef) ⟨fun v119x96 => @bnd (gif v110x88 false (aBin2 Tryz.prog H84 BinOp.gtr 3 (Operand.tmp 114) (Operand.tmp 119) v114x91 v119x96) undef) ⟨fun v120x97 => @bnd (pickV v110x88 (Value.bool true) v120x97) ⟨fun v121x98 =>
  @kifB v121x98 ⟨k (Value.bool true) H84⟩ ⟨@bnd (aFieldAddr Tryz.prog H84 92 v7x81 0) ⟨fun v123x99 => @bnd (aLoad Tryz.prog H84 9 v123x99) ⟨fun v124x100 => @bnd (aLen Tryz.prog H84 9 v124x100) ⟨fun v125x101 => @bnd (aBin2
  Tryz.prog H84 BinOp.sub 3 (Operand.tmp 122) (Operand.tmp 125) s3 v125x101) ⟨fun v126x102 => @bnd (aFieldAddr Tryz.prog H84 92 v7x81 2) ⟨fun v127x103 => @bnd (aLoad Tryz.prog H84 9 v127x103) ⟨fun v128x104 => @bnd (aLen Tryz.prog
  H84 9 v128x104) ⟨fun v129x105 => @bnd (aBin2 Tryz.prog H84 BinOp.sub 3 (Operand.tmp 126) (Operand.tmp 129) v126x102 v129x105) ⟨fun v130x106 => @bnd (aBin2 Tryz.prog H84 BinOp.add 3 (Operand.tmp 95) (Operand.const (Value.int
  IntKind.i64 1)) s6 (Value.int IntKind.i64 1)) ⟨fun v96x107 => L23x2 n2 n1 k [s0, s1, s2, v130x106, s4, s5, v96x107, v7x81, s8, s9, s10, s11, s12, s13, s14, s15, s16, s17, s18, s19, s20, s21, s22, s23, s24, s25, s26, s27, s28,
  s29, s30, s31, s32, s33, s34, s35, s36, s37, s38, s39, s40, s41, s42, s43, s44, s45, s46, s47, s48, s49, s50, s51, s52, s53, s54, s55, s56, s57, s58, s59, s60, s61, s62, s63, s64, s65, s66, s67, s68, s69, s70, s71, s72, s73,
  s74, s75, s76, s77, s78, s79, s80, s81, s82, s83, s84, s85, s6, v87x67, v88x68, s5, v90x69, v91x70, v92x71, v93x72, v94x73, s6, v96x107, v97x74, v98x75, s5, v100x76, v101x77, v102x78, s6, v104x79, v105x80, v106x85, v107x86,
  v108x87, s3, v110x88, v110x88, v112x89, v113x90, v114x91, v115x92, v116x93, v117x94, v118x95, v119x96, v120x97, v121x98, s3, v123x99, v124x100, v125x101, v126x102, v127x103, v128x104, v129x105, v130x106]
  H84⟩⟩⟩⟩⟩⟩⟩⟩⟩⟩⟩⟩⟩⟩⟩⟩⟩⟩⟩⟩⟩⟩⟩⟩⟩⟩⟩⟩⟩⟩⟩⟩⟩⟩ ⟨@bnd (aBin2 Tryz.prog H BinOp.add 3 (Operand.tmp 76) (Operand.const (Value.int IntKind.i64 1)) s5 (Value.int IntKind.i64 1)) ⟨fun v77x108 => L23x1 n1  k [s0, s1, s2, s3, s4, v77x108, s6,
  s7, s8, s9, s10, s11, s12, s13, s14, s15, s16, s17, s18, s19, s20, s21, s22, s23, s24, s25, s26, s27, s28, s29, s30, s31, s32, s33, s34, s35, s36, s37, s38, s39, s40, s41, s42, s43, s44, s45, s46, s47, s48, s49, s50, s51, s52,
  s53, s54, s55, s56, s57, s58, s59, s60, s61, s62, s63, s64, s65, s66, s67, s68, s69, s70, s71, s72, s73, s74, s75, s5, v77x108, s78, s79, s80, s81, s82, s83, s84, s85, s6, v87x67, v88x68, s5, v90x69, v91x70, v92x71, v93x72,
  v94x73, s95, s96, s97, s98, s99, s100, s101, s102, s103, s104, s105, s106, s107, s108, s109, s110, s111, s112, s113, s114, s115, s116, s117, s118, s119, s120, s121, s122, s123, s124, s125, s126, s127, s128, s129, s130]
  H⟩⟩⟩⟩⟩⟩⟩⟩⟩) := by kernel_rfl

end Go.Vi
namespace Go.Vi
open Go Go.Proofs
-- tocsin/check.all
theorem d24 (a0 : Value) (H : AHeap) (k : Value → AHeap → Prop) : kbody Tryz.prog Tryz.f24 [a0] H k = (@bndC Tryz.prog 38 [a0, (Value.bool false)] H ⟨fun v4x1 H2 => @kifB v4x1 ⟨k (Value.int IntKind.i64 110) H2⟩ ⟨k (Value.int
  IntKind.i64 0) H2⟩⟩) := by kernel_rfl
-- tocsin/check.among
theorem d25 (a0 a1 a2 : Value) (H : AHeap) (k : Value → AHeap → Prop) : kbody Tryz.prog Tryz.f25 [a0, a1, a2] H k = (@bnd (aBin2 Tryz.prog H BinOp.geq 3 (Operand.tmp 7) (Operand.tmp 8) a0 a1) ⟨fun v9x1 => @bnd (gif v9x1 true
  ((some a0)) undef) ⟨fun v11x2 => @bnd (gif v9x1 true ((some a2)) undef) ⟨fun v12x3 => @bnd (gif v9x1 true (aBin2 Tryz.prog H BinOp.leq 3 (Operand.tmp 11) (Operand.tmp 12) v11x2 v12x3) undef) ⟨fun v13x4 => @bnd (pickV v9x1 v13x4
  (Value.bool false)) ⟨fun v14x5 => k v14x5 H⟩⟩⟩⟩⟩) := by kernel_rfl
-- tocsin/check.once[tocsin/api.Rule]
def L26x0 (n : Nat) (k : Value → AHeap → Prop) (sl : List Value) (H : AHeap) : Prop := kit Tryz.prog (cl (cl (cr (cl (cr (cr (cb Tryz.f26))))))) n (kblk 0 (kseq Tryz.prog (cr (cr (cr (cb Tryz.f26)))) (kfin Tryz.prog Tryz.f26 k)))
  .normal sl H
theorem d26 (a0 a1 : Value) (H : AHeap) (k : Value → AHeap → Prop) : kbody Tryz.prog Tryz.f26 [a0, a1] H k = (@bndE (some (Value.map (some H.length), H ++ [AObj.map []])) ⟨fun v8x1 H2 => @bnd (aLen Tryz.prog H2 22 a0) ⟨fun v10x3
  => ∃ n, L26x0 n  k [a0, a1, undef, undef, (Value.bool false), v8x1, undef, undef, v8x1, a0, v10x3, (Value.int IntKind.i64 0), undef, undef, undef, undef, undef, undef, undef, undef, undef, undef, undef, undef, undef, undef,
  undef] H2⟩⟩) := by kernel_rfl
theorem L26x0q (n0 : Nat) (s0 s1 s2 s3 s4 s5 s6 s7 s8 s9 s10 s11 s12 s13 s14 s15 s16 s17 s18 s19 s20 s21 s22 s23 s24 s25 s26 : Value) (H : AHeap) (k : Value → AHeap → Prop) : L26x0 (n0 + 1) k [s0, s1, s2, s3, s4, s5, s6, s7, s8,
  s9, s10, s11, s12, s13, s14, s15, s16, s17, s18, s19, s20, s21, s22, s23, s24, s25, s26] H = (@bnd (aBin2 Tryz.prog H BinOp.lss 3 (Operand.tmp 11) (Operand.tmp 10) s11 s10) ⟨fun v12x4 => @kifB v12x4 ⟨@bnd (aIndexAddr Tryz.prog
  H 22 s9 s11) ⟨fun v13x5 => @bnd (aLoad Tryz.prog H 34 v13x5) ⟨fun v14x6 => @bndE (aAlloc Tryz.prog H 34) ⟨fun v7x7 H8 => @bndS (aStore Tryz.prog H8 34 v7x7 v14x6) ⟨fun _ H10 => @bnd (aLoad Tryz.prog H10 34 v7x7) ⟨fun v17x11 =>
  @bndV Tryz.prog s1 [v17x11] H10 ⟨fun v18x12 H13 => @bnd (aLookup Tryz.prog H13 93 s5 v18x12 false) ⟨fun v19x14 => @bnd (aBin2 Tryz.prog H13 BinOp.add 3 (Operand.tmp 19) (Operand.const (Value.int IntKind.i64 1)) v19x14
  (Value.int IntKind.i64 1)) ⟨fun v20x15 => @bndS (aUpdate Tryz.prog H13 93 s5 v18x12 v20x15) ⟨fun _ H17 => @bnd (aBin2 Tryz.prog H17 BinOp.add 3 (Operand.tmp 11) (Operand.const (Value.int IntKind.i64 1)) s11 (Value.int
  IntKind.i64 1)) ⟨fun v21x18 => L26x0 n0  k [s0, s1, s2, s3, s4, s5, s6, v7x7, s8, s9, s10, v21x18, v12x4, v13x5, v14x6, s5, s1, v17x11, v18x12, v19x14, v20x15, v21x18, s22, s23, s24, s25, s26] H17⟩⟩⟩⟩⟩⟩⟩⟩⟩⟩⟩ ⟨@bnd (aLen
  Tryz.prog H 93 s5) ⟨fun v23x19 => @bnd (aLen Tryz.prog H 22 s0) ⟨fun v25x20 => @bnd (aBin2 Tryz.prog H BinOp.eql 3 (Operand.tmp 23) (Operand.tmp 25) v23x19 v25x20) ⟨fun v26x21 => k v26x21 H⟩⟩⟩⟩⟩) := by kernel_rfl
-- tocsin/check.Config$1
theorem d27 (a0 : Value) (H : AHeap) (k : Value → AHeap → Prop) : kbody Tryz.prog Tryz.f27 [a0] H k = (@bndE (aNew H 34 a0) ⟨fun v1x1 H2 => @bnd (aFieldAddr Tryz.prog H2 34 v1x1 0) ⟨fun v3x3 => @bnd (aLoad Tryz.prog H2 9 v3x3)
  ⟨fun v4x4 => k v4x4 H2⟩⟩⟩) := by kernel_rfl
-- tocsin/check.once[tocsin/api.Mute]
def L28x0 (n : Nat) (k : Value → AHeap → Prop) (sl : List Value) (H : AHeap) : Prop := kit Tryz.prog (cl (cl (cr (cl (cr (cr (cb Tryz.f28))))))) n (kblk 0 (kseq Tryz.prog (cr (cr (cr (cb Tryz.f28)))) (kfin Tryz.prog Tryz.f28 k)))
  .normal sl H
theorem d28 (a0 a1 : Value) (H : AHeap) (k : Value → AHeap → Prop) : kbody Tryz.prog Tryz.f28 [a0, a1] H k = (@bndE (some (Value.map (some H.length), H ++ [AObj.map []])) ⟨fun v8x1 H2 => @bnd (aLen Tryz.prog H2 23 a0) ⟨fun v10x3
  => ∃ n, L28x0 n  k [a0, a1, undef, undef, (Value.bool false), v8x1, undef, undef, v8x1, a0, v10x3, (Value.int IntKind.i64 0), undef, undef, undef, undef, undef, undef, undef, undef, undef, undef, undef, undef, undef, undef,
  undef] H2⟩⟩) := by kernel_rfl
theorem L28x0q (n0 : Nat) (s0 s1 s2 s3 s4 s5 s6 s7 s8 s9 s10 s11 s12 s13 s14 s15 s16 s17 s18 s19 s20 s21 s22 s23 s24 s25 s26 : Value) (H : AHeap) (k : Value → AHeap → Prop) : L28x0 (n0 + 1) k [s0, s1, s2, s3, s4, s5, s6, s7, s8,
  s9, s10, s11, s12, s13, s14, s15, s16, s17, s18, s19, s20, s21, s22, s23, s24, s25, s26] H = (@bnd (aBin2 Tryz.prog H BinOp.lss 3 (Operand.tmp 11) (Operand.tmp 10) s11 s10) ⟨fun v12x4 => @kifB v12x4 ⟨@bnd (aIndexAddr Tryz.prog
  H 23 s9 s11) ⟨fun v13x5 => @bnd (aLoad Tryz.prog H 38 v13x5) ⟨fun v14x6 => @bndE (aAlloc Tryz.prog H 38) ⟨fun v7x7 H8 => @bndS (aStore Tryz.prog H8 38 v7x7 v14x6) ⟨fun _ H10 => @bnd (aLoad Tryz.prog H10 38 v7x7) ⟨fun v17x11 =>
  @bndV Tryz.prog s1 [v17x11] H10 ⟨fun v18x12 H13 => @bnd (aLookup Tryz.prog H13 93 s5 v18x12 false) ⟨fun v19x14 => @bnd (aBin2 Tryz.prog H13 BinOp.add 3 (Operand.tmp 19) (Operand.const (Value.int IntKind.i64 1)) v19x14
  (Value.int IntKind.i64 1)) ⟨fun v20x15 => @bndS (aUpdate Tryz.prog H13 93 s5 v18x12 v20x15) ⟨fun _ H17 => @bnd (aBin2 Tryz.prog H17 BinOp.add 3 (Operand.tmp 11) (Operand.const (Value.int IntKind.i64 1)) s11 (Value.int
  IntKind.i64 1)) ⟨fun v21x18 => L28x0 n0  k [s0, s1, s2, s3, s4, s5, s6, v7x7, s8, s9, s10, v21x18, v12x4, v13x5, v14x6, s5, s1, v17x11, v18x12, v19x14, v20x15, v21x18, s22, s23, s24, s25, s26] H17⟩⟩⟩⟩⟩⟩⟩⟩⟩⟩⟩ ⟨@bnd (aLen
  Tryz.prog H 93 s5) ⟨fun v23x19 => @bnd (aLen Tryz.prog H 23 s0) ⟨fun v25x20 => @bnd (aBin2 Tryz.prog H BinOp.eql 3 (Operand.tmp 23) (Operand.tmp 25) v23x19 v25x20) ⟨fun v26x21 => k v26x21 H⟩⟩⟩⟩⟩) := by kernel_rfl
-- tocsin/check.Config$2
theorem d29 (a0 : Value) (H : AHeap) (k : Value → AHeap → Prop) : kbody Tryz.prog Tryz.f29 [a0] H k = (@bndE (aNew H 38 a0) ⟨fun v1x1 H2 => @bnd (aFieldAddr Tryz.prog H2 38 v1x1 0) ⟨fun v3x3 => @bnd (aLoad Tryz.prog H2 9 v3x3)
  ⟨fun v4x4 => k v4x4 H2⟩⟩⟩) := by kernel_rfl
-- slices.ContainsFunc[[]tocsin/api.Mute,tocsin/api.Mute]
theorem d30 (a0 a1 : Value) (H : AHeap) (k : Value → AHeap → Prop) : kbody Tryz.prog Tryz.f30 [a0, a1] H k = (@bndC Tryz.prog 48 [a0, a1] H ⟨fun v7x1 H2 => @bnd (aBin2 Tryz.prog H2 BinOp.geq 3 (Operand.tmp 7) (Operand.const
  (Value.int IntKind.i64 0)) v7x1 (Value.int IntKind.i64 0)) ⟨fun v8x3 => k v8x3 H2⟩⟩) := by kernel_rfl
-- tocsin/check.Config$3
theorem d31 (a0 a1 : Value) (H : AHeap) (k : Value → AHeap → Prop) : kbody Tryz.prog Tryz.f31 [a0, a1] H k = (@bndE (aNew H 38 a0) ⟨fun v2x1 H2 => @bnd (aFieldAddr Tryz.prog H2 38 v2x1 0) ⟨fun v4x3 => @bnd (aLoad Tryz.prog H2 9
  v4x3) ⟨fun v5x4 => @bnd (aLoad Tryz.prog H2 9 a1) ⟨fun v6x5 => @bnd (aBin2 Tryz.prog H2 BinOp.eql 9 (Operand.tmp 5) (Operand.tmp 6) v5x4 v6x5) ⟨fun v7x6 => k v7x6 H2⟩⟩⟩⟩⟩) := by kernel_rfl
-- tocsin/labels.MayName
theorem d32 (a0 : Value) (H : AHeap) (k : Value → AHeap → Prop) : kbody Tryz.prog Tryz.f32 [a0] H k = (@bnd (aLen Tryz.prog H 9 a0) ⟨fun v4x1 => @bnd (aBin2 Tryz.prog H BinOp.geq 3 (Operand.tmp 4) (Operand.const (Value.int
  IntKind.i64 1)) v4x1 (Value.int IntKind.i64 1)) ⟨fun v5x2 => @bnd (gif v5x2 true ((some a0)) undef) ⟨fun v7x3 => @bnd (gif v5x2 true (aLen Tryz.prog H 9 v7x3) undef) ⟨fun v8x4 => @bnd (gif v5x2 true (aBin2 Tryz.prog H BinOp.leq
  3 (Operand.tmp 8) (Operand.const (Value.int IntKind.i64 16)) v8x4 (Value.int IntKind.i64 16)) undef) ⟨fun v9x5 => @bnd (pickV v5x2 v9x5 (Value.bool false)) ⟨fun v10x6 => @bnd (gif v10x6 true ((some a0)) undef) ⟨fun v12x7 =>
  @bnd (gif v10x6 true (aIndex Tryz.prog 9 v12x7 (Value.int IntKind.i64 0)) undef) ⟨fun v13x8 => @bndG v10x6 true H ⟨fun v14x9 H10 => ACalls Tryz.prog 49 [v13x8] H v14x9 H10⟩ ⟨fun v14x9 H10 => @bnd (pickV v10x6 v14x9 (Value.bool
  false)) ⟨fun v15x11 => @bnd (gif v15x11 true ((some a0)) undef) ⟨fun v17x12 => @bndG v15x11 true H10 ⟨fun v18x13 H14 => ACalls Tryz.prog 50 [v17x12, (.func (.func 51) #[] #[])] H10 v18x13 H14⟩ ⟨fun v18x13 H14 => @bnd (pickV
  v15x11 v18x13 (Value.bool false)) ⟨fun v19x15 => k v19x15 H14⟩⟩⟩⟩⟩⟩⟩⟩⟩⟩⟩⟩⟩) := by kernel_rfl
-- slices.ContainsFunc[[]string,string]
theorem d33 (a0 a1 : Value) (H : AHeap) (k : Value → AHeap → Prop) : kbody Tryz.prog Tryz.f33 [a0, a1] H k = (@bndC Tryz.prog 52 [a0, a1] H ⟨fun v7x1 H2 => @bnd (aBin2 Tryz.prog H2 BinOp.geq 3 (Operand.tmp 7) (Operand.const
  (Value.int IntKind.i64 0)) v7x1 (Value.int IntKind.i64 0)) ⟨fun v8x3 => k v8x3 H2⟩⟩) := by kernel_rfl
-- tocsin/check.Rule$1
theorem d34 (a0 : Value) (H : AHeap) (k : Value → AHeap → Prop) : kbody Tryz.prog Tryz.f34 [a0] H k = (@bndC Tryz.prog 32 [a0] H ⟨fun v4x1 H2 => @bnd (unV Tryz.prog UnOp.not v4x1) ⟨fun v5x3 => k v5x3 H2⟩⟩) := by kernel_rfl
-- tocsin/check.once[string]
def L35x0 (n : Nat) (k : Value → AHeap → Prop) (sl : List Value) (H : AHeap) : Prop := kit Tryz.prog (cl (cl (cr (cl (cr (cr (cb Tryz.f35))))))) n (kblk 0 (kseq Tryz.prog (cr (cr (cr (cb Tryz.f35)))) (kfin Tryz.prog Tryz.f35 k)))
  .normal sl H
theorem d35 (a0 a1 : Value) (H : AHeap) (k : Value → AHeap → Prop) : kbody Tryz.prog Tryz.f35 [a0, a1] H k = (@bndE (some (Value.map (some H.length), H ++ [AObj.map []])) ⟨fun v8x1 H2 => @bnd (aLen Tryz.prog H2 32 a0) ⟨fun v10x3
  => ∃ n, L35x0 n  k [a0, a1, undef, undef, (Value.bool false), v8x1, undef, undef, v8x1, a0, v10x3, (Value.int IntKind.i64 0), undef, undef, undef, undef, undef, undef, undef, undef, undef, undef, undef, undef, undef, undef,
  undef] H2⟩⟩) := by kernel_rfl
theorem L35x0q (n0 : Nat) (s0 s1 s2 s3 s4 s5 s6 s7 s8 s9 s10 s11 s12 s13 s14 s15 s16 s17 s18 s19 s20 s21 s22 s23 s24 s25 s26 : Value) (H : AHeap) (k : Value → AHeap → Prop) : L35x0 (n0 + 1) k [s0, s1, s2, s3, s4, s5, s6, s7, s8,
  s9, s10, s11, s12, s13, s14, s15, s16, s17, s18, s19, s20, s21, s22, s23, s24, s25, s26] H = (@bnd (aBin2 Tryz.prog H BinOp.lss 3 (Operand.tmp 11) (Operand.tmp 10) s11 s10) ⟨fun v12x4 => @kifB v12x4 ⟨@bnd (aIndexAddr Tryz.prog
  H 32 s9 s11) ⟨fun v13x5 => @bnd (aLoad Tryz.prog H 9 v13x5) ⟨fun v14x6 => @bndV Tryz.prog s1 [v14x6] H ⟨fun v18x7 H8 => @bnd (aLookup Tryz.prog H8 93 s5 v18x7 false) ⟨fun v19x9 => @bnd (aBin2 Tryz.prog H8 BinOp.add 3
  (Operand.tmp 19) (Operand.const (Value.int IntKind.i64 1)) v19x9 (Value.int IntKind.i64 1)) ⟨fun v20x10 => @bndS (aUpdate Tryz.prog H8 93 s5 v18x7 v20x10) ⟨fun _ H12 => @bnd (aBin2 Tryz.prog H12 BinOp.add 3 (Operand.tmp 11)
  (Operand.const (Value.int IntKind.i64 1)) s11 (Value.int IntKind.i64 1)) ⟨fun v21x13 => L35x0 n0  k [s0, s1, s2, s3, s4, s5, s6, v14x6, s8, s9, s10, v21x13, v12x4, v13x5, v14x6, s5, s1, v14x6, v18x7, v19x9, v20x10, v21x13, s22,
  s23, s24, s25, s26] H12⟩⟩⟩⟩⟩⟩⟩⟩ ⟨@bnd (aLen Tryz.prog H 93 s5) ⟨fun v23x14 => @bnd (aLen Tryz.prog H 32 s0) ⟨fun v25x15 => @bnd (aBin2 Tryz.prog H BinOp.eql 3 (Operand.tmp 23) (Operand.tmp 25) v23x14 v25x15) ⟨fun v26x16 => k
  v26x16 H⟩⟩⟩⟩⟩) := by kernel_rfl
-- tocsin/check.itself
theorem d36 (a0 : Value) (H : AHeap) (k : Value → AHeap → Prop) : kbody Tryz.prog Tryz.f36 [a0] H k = (k a0 H) := by kernel_rfl
-- tocsin/expr.Right
theorem d37 (a0 : Value) (H : AHeap) (k : Value → AHeap → Prop) : kbody Tryz.prog Tryz.f37 [a0] H k = (@bnd (aLen Tryz.prog H 31 a0) ⟨fun v4x1 => @bnd (aBin2 Tryz.prog H BinOp.geq 3 (Operand.tmp 4) (Operand.const (Value.int
  IntKind.i64 1)) v4x1 (Value.int IntKind.i64 1)) ⟨fun v5x2 => @bnd (gif v5x2 true ((some a0)) undef) ⟨fun v7x3 => @bnd (gif v5x2 true (aLen Tryz.prog H 31 v7x3) undef) ⟨fun v8x4 => @bnd (gif v5x2 true (aBin2 Tryz.prog H
  BinOp.leq 3 (Operand.tmp 8) (Operand.const (Value.int IntKind.i64 31)) v8x4 (Value.int IntKind.i64 31)) undef) ⟨fun v9x5 => @bnd (pickV v5x2 v9x5 (Value.bool false)) ⟨fun v10x6 => @bnd (gif v10x6 true ((some a0)) undef) ⟨fun
  v12x7 => @bnd (gif v10x6 true ((some a0)) undef) ⟨fun v13x8 => @bnd (gif v10x6 true (aLen Tryz.prog H 31 v13x8) undef) ⟨fun v14x9 => @bnd (gif v10x6 true (aBin2 Tryz.prog H BinOp.sub 3 (Operand.tmp 14) (Operand.const (Value.int
  IntKind.i64 1)) v14x9 (Value.int IntKind.i64 1)) undef) ⟨fun v15x10 => @bndG v10x6 true H ⟨fun v16x11 H12 => ACalls Tryz.prog 53 [v12x7, v15x10] H v16x11 H12⟩ ⟨fun v16x11 H12 => @bnd (gif v10x6 true (aBin2 Tryz.prog H12
  BinOp.eql 3 (Operand.tmp 16) (Operand.const (Value.int IntKind.i64 0)) v16x11 (Value.int IntKind.i64 0)) undef) ⟨fun v17x13 => @bnd (pickV v10x6 v17x13 (Value.bool false)) ⟨fun v18x14 => k v18x14 H12⟩⟩⟩⟩⟩⟩⟩⟩⟩⟩⟩⟩⟩) := by
  kernel_rfl
-- slices.Contains[[]bool,bool]
theorem d38 (a0 a1 : Value) (H : AHeap) (k : Value → AHeap → Prop) : kbody Tryz.prog Tryz.f38 [a0, a1] H k = (@bndC Tryz.prog 54 [a0, a1] H ⟨fun v7x1 H2 => @bnd (aBin2 Tryz.prog H2 BinOp.geq 3 (Operand.tmp 7) (Operand.const
  (Value.int IntKind.i64 0)) v7x1 (Value.int IntKind.i64 0)) ⟨fun v8x3 => k v8x3 H2⟩⟩) := by kernel_rfl
-- tocsin/tocsinref11.CopyRule
theorem d39 (a0 : Value) (H : AHeap) (k : Value → AHeap → Prop) : kbody Tryz.prog Tryz.f39 [a0] H k = (@bndE (aNew H 34 a0) ⟨fun v1x1 H2 => @bndE (aAlloc Tryz.prog H2 34) ⟨fun v2x3 H4 => @bnd (aFieldAddr Tryz.prog H4 34 v1x1 2)
  ⟨fun v4x5 => @bnd (aLoad Tryz.prog H4 31 v4x5) ⟨fun v5x6 => @bndC Tryz.prog 55 [v5x6] H4 ⟨fun v6x7 H8 => @bnd (aFieldAddr Tryz.prog H8 34 v1x1 2) ⟨fun v7x9 => @bndS (aStore Tryz.prog H8 31 v7x9 v6x7) ⟨fun _ H11 => @bnd
  (aFieldAddr Tryz.prog H11 34 v1x1 6) ⟨fun v9x12 => @bnd (aLoad Tryz.prog H11 32 v9x12) ⟨fun v10x13 => @bndE (aBuiltin Tryz.prog H11 Builtin.append #[32, 32] [(Value.slice none 0 0), v10x13]) ⟨fun v11x14 H15 => @bnd (aFieldAddr
  Tryz.prog H15 34 v1x1 6) ⟨fun v13x16 => @bndS (aStore Tryz.prog H15 32 v13x16 v11x14) ⟨fun _ H18 => @bnd (aLoad Tryz.prog H18 34 v1x1) ⟨fun v14x19 => @bndS (aStore Tryz.prog H18 34 v2x3 v14x19) ⟨fun _ H21 => ∃ r22, aLoad
  Tryz.prog H21 34 v2x3 = some r22 ∧ k r22 H21⟩⟩⟩⟩⟩⟩⟩⟩⟩⟩⟩⟩⟩⟩) := by kernel_rfl
-- tocsin/lex.All
def R45x0 (k : Value → AHeap → Prop) : KontG := (kblkG 0 (kseqG Tryz.prog (drawStd Tryz.prog) (cr (cr (cr (cb Tryz.f45)))) (kfinG Tryz.prog Tryz.f45 k)))
theorem d45 (a0 : Value) (H : AHeap) (k : Value → AHeap → Prop) : kbodyG Tryz.prog (drawStd Tryz.prog) Tryz.f45 [a0] H k = (@bndE (aAlloc Tryz.prog H 82) ⟨fun v2x1 H2 => @bndE (aAlloc Tryz.prog H2 3) ⟨fun v3x3 H4 => @bndE (aAlloc
  Tryz.prog H4 28) ⟨fun v4x5 H6 => @bndE (aAlloc Tryz.prog H6 82) ⟨fun v5x7 H8 => @bndC Tryz.prog 67 [a0] H8 ⟨fun v9x9 H10 => krange Tryz.prog v9x9 [a0, undef, v2x1, v3x3, v4x5, v5x7, undef, undef, a0, v9x9, undef, undef, undef,
  undef, undef, undef, undef, undef, undef, undef, undef, undef] #[10, 11] (cl (cl (cr (cl (cr (cr (cb Tryz.f45))))))) (cr (cl (cr (cl (cr (cr (cb Tryz.f45))))))) H10 [] (R45x0 k)⟩⟩⟩⟩⟩) := by kernel_rfl
theorem R45x0n (s0 s1 s2 s3 s4 s5 s6 s7 s8 s9 s10 s11 s12 s13 s14 s15 s16 s17 s18 s19 s20 s21 : Value) (H : AHeap) (b : Nat) (k : Value → AHeap → Prop) : R45x0 k .normal [s0, s1, s2, s3, s4, s5, s6, s7, s8, s9, s10, s11, s12,
  s13, s14, s15, s16, s17, s18, s19, s20, s21] H [b] = (@bnd (aLoad Tryz.prog H 82 s5) ⟨fun v21x11 => @bndS (aStore Tryz.prog H 82 s2 v21x11) ⟨fun _ H13 => @bndS (aStore Tryz.prog H13 3 s3 (Value.int IntKind.i64 0)) ⟨fun _ H15 =>
  @bndS (aStore Tryz.prog H15 28 s4 (Value.int IntKind.i64 0)) ⟨fun _ H17 => H17[b]? = some (AObj.loop LRec.blk) ∧ ∃ r18, aLoad Tryz.prog (H17.set b (AObj.loop LRec.gone)) 82 s2 = some r18 ∧ ∃ r19, aLoad Tryz.prog (H17.set b
  (AObj.loop LRec.gone)) 3 s3 = some r19 ∧ ∃ r20, aLoad Tryz.prog (H17.set b (AObj.loop LRec.gone)) 28 s4 = some r20 ∧ k (.tuple #[r18, r19, r20]) (H17.set b (AObj.loop LRec.gone))⟩⟩⟩⟩) := by kernel_rfl
theorem R45x0r (s0 s1 s2 s3 s4 s5 s6 s7 s8 s9 s10 s11 s12 s13 s14 s15 s16 s17 s18 s19 s20 s21 : Value) (H : AHeap) (b : Nat) (k : Value → AHeap → Prop) : R45x0 k .ret [s0, s1, s2, s3, s4, s5, s6, s7, s8, s9, s10, s11, s12, s13,
  s14, s15, s16, s17, s18, s19, s20, s21] H [b] = (H[b]? = some (AObj.loop LRec.blk) ∧ ∃ r21, aLoad Tryz.prog (H.set b (AObj.loop LRec.gone)) 82 s2 = some r21 ∧ ∃ r22, aLoad Tryz.prog (H.set b (AObj.loop LRec.gone)) 3 s3 = some
  r22 ∧ ∃ r23, aLoad Tryz.prog (H.set b (AObj.loop LRec.gone)) 28 s4 = some r23 ∧ k (.tuple #[r21, r22, r23]) (H.set b (AObj.loop LRec.gone))) := by kernel_rfl
theorem R45x0A (s0 s1 s2 s3 s4 s5 s6 s7 s8 s9 s10 s11 s12 s13 s14 s15 s16 s17 s18 s19 s20 s21 : Value) (H : AHeap) (kk : Kont) : kx Tryz.prog (cl (cl (cr (cl (cr (cr (cb Tryz.f45))))))) [s0, s1, s2, s3, s4, s5, s6, s7, s8, s9,
  s10, s11, s12, s13, s14, s15, s16, s17, s18, s19, s20, s21] H kk = (@bndE (aAlloc Tryz.prog H 121) ⟨fun v6x24 H25 => @bndS (aStore Tryz.prog H25 121 v6x24 s10) ⟨fun _ H27 => kk AExit.normal [s0, s1, s2, s3, s4, s5, v6x24, s11,
  s8, s9, s10, s11, s12, s13, s14, s15, s16, s17, s18, s19, s20, s21] H27⟩⟩) := by kernel_rfl
theorem R45x0B (s0 s1 s2 s3 s4 s5 s6 s7 s8 s9 s10 s11 s12 s13 s14 s15 s16 s17 s18 s19 s20 s21 : Value) (H : AHeap) (kk : Kont) : kx Tryz.prog (cr (cl (cr (cl (cr (cr (cb Tryz.f45))))))) [s0, s1, s2, s3, s4, s5, s6, s7, s8, s9,
  s10, s11, s12, s13, s14, s15, s16, s17, s18, s19, s20, s21] H kk = (@bnd (aBin2 Tryz.prog H BinOp.neq 28 (Operand.tmp 12) (Operand.const (Value.int IntKind.i64 0)) s7 (Value.int IntKind.i64 0)) ⟨fun v13x28 => @kifB v13x28 ⟨@bnd
  (aFieldAddr Tryz.prog H 121 s6 2) ⟨fun v14x29 => @bnd (aLoad Tryz.prog H 3 v14x29) ⟨fun v15x30 => @bndD false H ⟨fun x31 H32 => x31 = undef ∧ aStore Tryz.prog H 82 s2 (Value.slice none 0 0) = some H32⟩ ⟨fun _ H32 => @bndD true
  H32 ⟨fun x33 H34 => x33 = undef ∧ aStore Tryz.prog H32 3 s3 v15x30 = some H34⟩ ⟨fun _ H34 => @bndD true H34 ⟨fun x35 H36 => x35 = undef ∧ aStore Tryz.prog H34 28 s4 s7 = some H36⟩ ⟨fun _ H36 => kk AExit.ret [s0, s1, s2, s3, s4,
  s5, s6, s7, s8, s9, s10, s11, s7, v13x28, v14x29, v15x30, s7, s17, s18, s19, s20, s21] H36⟩⟩⟩⟩⟩⟩ ⟨@bnd (aLoad Tryz.prog H 82 s5) ⟨fun v17x37 => @bnd (aLoad Tryz.prog H 121 s6) ⟨fun v18x38 => @bndL Tryz.prog H 82 1 [(0, v18x38)]
  ⟨fun v19x39 H40 => @bndE (aBuiltin Tryz.prog H40 Builtin.append #[82, 82] [v17x37, v19x39]) ⟨fun v20x41 H42 => @bndS (aStore Tryz.prog H42 82 s5 v20x41) ⟨fun _ H44 => kk AExit.normal [s0, s1, s2, s3, s4, s5, s6, s7, s8, s9,
  s10, s11, s7, v13x28, s14, s15, s16, v17x37, v18x38, v19x39, v20x41, s21] H44⟩⟩⟩⟩⟩⟩⟩) := by kernel_rfl
-- tocsin/expr.Read
theorem d46 (a0 a1 : Value) (H : AHeap) (k : Value → AHeap → Prop) : kbody Tryz.prog Tryz.f46 [a0, a1] H k = (@bnd (aBin2 Tryz.prog H BinOp.lss 3 (Operand.tmp 9) (Operand.const (Value.int IntKind.i64 0)) a1 (Value.int IntKind.i64
  0)) ⟨fun v10x1 => @bnd (gif v10x1 false ((some a1)) undef) ⟨fun v12x2 => @bnd (gif v10x1 false ((some a0)) undef) ⟨fun v13x3 => @bnd (gif v10x1 false (aLen Tryz.prog H 82 v13x3) undef) ⟨fun v14x4 => @bnd (gif v10x1 false (aBin2
  Tryz.prog H BinOp.geq 3 (Operand.tmp 12) (Operand.tmp 14) v12x2 v14x4) undef) ⟨fun v15x5 => @bnd (pickV v10x1 (Value.bool true) v15x5) ⟨fun v16x6 => @kifB v16x6 ⟨k (.tuple #[(Value.slice none 0 0), (Value.int IntKind.i64 0),
  (Value.int IntKind.i64 100)]) H⟩ ⟨@bnd (buildV Tryz.prog 89 [(0, a0), (1, a1), (2, (Value.bool true))]) ⟨fun v19x7 => @bndE (aNew H 89 v19x7) ⟨fun v20x8 H9 => @bndC Tryz.prog 47 [v20x8] H9 ⟨fun v22x10 H11 => @bnd (nilV v20x8)
  ⟨fun v25x12 => @bnd (aFieldAddr Tryz.prog H11 89 v25x12 2) ⟨fun v26x13 => @bnd (aLoad Tryz.prog H11 4 v26x13) ⟨fun v27x14 => @bnd (unV Tryz.prog UnOp.not v27x14) ⟨fun v28x15 => @kifB v28x15 ⟨k (.tuple #[(Value.slice none 0 0),
  (Value.int IntKind.i64 0), (Value.int IntKind.i64 100)]) H11⟩ ⟨@bnd (aLen Tryz.prog H11 31 v22x10) ⟨fun v31x16 => @bnd (aBin2 Tryz.prog H11 BinOp.gtr 3 (Operand.tmp 31) (Operand.const (Value.int IntKind.i64 31)) v31x16
  (Value.int IntKind.i64 31)) ⟨fun v32x17 => @kifB v32x17 ⟨k (.tuple #[(Value.slice none 0 0), (Value.int IntKind.i64 0), (Value.int IntKind.i64 4)]) H11⟩ ⟨@bnd (nilV v20x8) ⟨fun v35x18 => @bnd (aFieldAddr Tryz.prog H11 89 v35x18
  1) ⟨fun v36x19 => @bnd (aLoad Tryz.prog H11 3 v36x19) ⟨fun v37x20 => k (.tuple #[v22x10, v37x20, (Value.int IntKind.i64 0)]) H11⟩⟩⟩⟩⟩⟩⟩⟩⟩⟩⟩⟩⟩⟩⟩⟩⟩⟩⟩⟩⟩) := by kernel_rfl

end Go.Vi
