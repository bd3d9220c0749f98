/- Facts of the types. Regions whose calls change what operations in no order with them do not look at. Long texts that the code has. What the functions' bodies come to. What the functions' bodies come to. What the functions' bodies come to. What the functions' bodies come to. What the functions' bodies come to. -/
import Derived.Test.YtpkdgmcfojjfjaaGreatDoorJ2
import Derived.Test.YtpkdgmcfojjfjaaGreatDoorChecked
namespace Go.Vi
open Go Go.Proofs
@[simp] theorem tg1 : tagg Tryz.prog 1 = some false := by kernel_rfl
@[simp] theorem ts1 : tsize Tryz.prog 1 = some 1 := by kernel_rfl
@[simp] theorem tu1 : Tryz.prog.underlying 1 = some (TypeDesc.func #[] #[] false) := by kernel_rfl
@[simp] theorem tg2 : tagg Tryz.prog 2 = some false := by kernel_rfl
@[simp] theorem ts2 : tsize Tryz.prog 2 = some 1 := by kernel_rfl
@[simp] theorem tu2 : Tryz.prog.underlying 2 = some (TypeDesc.int IntKind.i64) := by kernel_rfl
@[simp] theorem tg3 : tagg Tryz.prog 3 = some false := by kernel_rfl
@[simp] theorem ts3 : tsize Tryz.prog 3 = some 1 := by kernel_rfl
@[simp] theorem tal3 (H : AHeap) : aAlloc Tryz.prog H 3 = some (.pointer (some ⟨H.length, 0, some 1⟩), H ++ [.cells [.int IntKind.i64 0] 3]) := by kernel_rfl
@[simp] theorem tu3 : Tryz.prog.underlying 3 = some (TypeDesc.int IntKind.i64) := by kernel_rfl
@[simp] theorem tg4 : tagg Tryz.prog 4 = some false := by kernel_rfl
@[simp] theorem ts4 : tsize Tryz.prog 4 = some 1 := by kernel_rfl
@[simp] theorem tu4 : Tryz.prog.underlying 4 = some TypeDesc.bool := by kernel_rfl
@[simp] theorem tg5 : tagg Tryz.prog 5 = some false := by kernel_rfl
@[simp] theorem ts5 : tsize Tryz.prog 5 = some 1 := by kernel_rfl
@[simp] theorem tu5 : Tryz.prog.underlying 5 = some (TypeDesc.int IntKind.u8) := by kernel_rfl
@[simp] theorem tg6 : tagg Tryz.prog 6 = some false := by kernel_rfl
@[simp] theorem ts6 : tsize Tryz.prog 6 = some 1 := by kernel_rfl
@[simp] theorem tu6 : Tryz.prog.underlying 6 = some (TypeDesc.int IntKind.u8) := by kernel_rfl
@[simp] theorem tg7 : tagg Tryz.prog 7 = some true := by kernel_rfl
@[simp] theorem ts7 : tsize Tryz.prog 7 = some 4 := by kernel_rfl
@[simp] theorem tf7x0 : afield Tryz.prog 7 0 = some (0, 2) := by kernel_rfl
@[simp] theorem tf7x1 : afield Tryz.prog 7 1 = some (1, 3) := by kernel_rfl
@[simp] theorem tf7x2 : afield Tryz.prog 7 2 = some (2, 4) := by kernel_rfl
@[simp] theorem tf7x3 : afield Tryz.prog 7 3 = some (3, 6) := by kernel_rfl
@[simp] theorem tg8 : tagg Tryz.prog 8 = some true := by kernel_rfl
@[simp] theorem ts8 : tsize Tryz.prog 8 = some 4 := by kernel_rfl
@[simp] theorem tf8x0 : afield Tryz.prog 8 0 = some (0, 2) := by kernel_rfl
@[simp] theorem tf8x1 : afield Tryz.prog 8 1 = some (1, 3) := by kernel_rfl
@[simp] theorem tf8x2 : afield Tryz.prog 8 2 = some (2, 4) := by kernel_rfl
@[simp] theorem tf8x3 : afield Tryz.prog 8 3 = some (3, 6) := by kernel_rfl
@[simp] theorem tg9 : tagg Tryz.prog 9 = some false := by kernel_rfl
@[simp] theorem ts9 : tsize Tryz.prog 9 = some 1 := by kernel_rfl
@[simp] theorem tu9 : Tryz.prog.underlying 9 = some TypeDesc.string := by kernel_rfl
@[simp] theorem tg10 : tagg Tryz.prog 10 = some false := by kernel_rfl
@[simp] theorem ts10 : tsize Tryz.prog 10 = some 1 := by kernel_rfl
@[simp] theorem tu10 : Tryz.prog.underlying 10 = some TypeDesc.string := by kernel_rfl
@[simp] theorem tg11 : tagg Tryz.prog 11 = some false := by kernel_rfl
@[simp] theorem ts11 : tsize Tryz.prog 11 = some 1 := by kernel_rfl
@[simp] theorem tu11 : Tryz.prog.underlying 11 = some TypeDesc.string := by kernel_rfl
@[simp] theorem tg12 : tagg Tryz.prog 12 = some false := by kernel_rfl
@[simp] theorem ts12 : tsize Tryz.prog 12 = some 1 := by kernel_rfl
@[simp] theorem tu12 : Tryz.prog.underlying 12 = some (TypeDesc.int IntKind.u64) := by kernel_rfl
@[simp] theorem tg13 : tagg Tryz.prog 13 = some true := by kernel_rfl
@[simp] theorem ts13 : tsize Tryz.prog 13 = some 2 := by kernel_rfl
@[simp] theorem tf13x0 : afield Tryz.prog 13 0 = some (0, 9) := by kernel_rfl
@[simp] theorem tf13x1 : afield Tryz.prog 13 1 = some (1, 12) := by kernel_rfl
@[simp] theorem tg15 : tagg Tryz.prog 15 = some false := by kernel_rfl
@[simp] theorem ts15 : tsize Tryz.prog 15 = some 1 := by kernel_rfl
@[simp] theorem tu15 : Tryz.prog.underlying 15 = some (TypeDesc.pointer 237) := by kernel_rfl
@[simp] theorem tg16 : tagg Tryz.prog 16 = some false := by kernel_rfl
@[simp] theorem ts16 : tsize Tryz.prog 16 = some 1 := by kernel_rfl
@[simp] theorem tu16 : Tryz.prog.underlying 16 = some (TypeDesc.pointer 240) := by kernel_rfl
@[simp] theorem tg17 : tagg Tryz.prog 17 = some false := by kernel_rfl
@[simp] theorem ts17 : tsize Tryz.prog 17 = some 1 := by kernel_rfl
@[simp] theorem tu17 : Tryz.prog.underlying 17 = some (TypeDesc.pointer 247) := by kernel_rfl
@[simp] theorem tg18 : tagg Tryz.prog 18 = some true := by kernel_rfl
@[simp] theorem ts18 : tsize Tryz.prog 18 = some 1 := by kernel_rfl
@[simp] theorem tf18x0 : afield Tryz.prog 18 0 = some (0, 17) := by kernel_rfl
@[simp] theorem tg19 : tagg Tryz.prog 19 = some true := by kernel_rfl
@[simp] theorem ts19 : tsize Tryz.prog 19 = some 1 := by kernel_rfl
@[simp] theorem tf19x0 : afield Tryz.prog 19 0 = some (0, 17) := by kernel_rfl
@[simp] theorem tg20 : tagg Tryz.prog 20 = some false := by kernel_rfl
@[simp] theorem ts20 : tsize Tryz.prog 20 = some 1 := by kernel_rfl
@[simp] theorem tu20 : Tryz.prog.underlying 20 = some (TypeDesc.interface #[]) := by kernel_rfl
@[simp] theorem tg21 : tagg Tryz.prog 21 = some false := by kernel_rfl
@[simp] theorem ts21 : tsize Tryz.prog 21 = some 1 := by kernel_rfl
@[simp] theorem tu21 : Tryz.prog.underlying 21 = some (TypeDesc.int IntKind.i32) := by kernel_rfl
@[simp] theorem tg22 : tagg Tryz.prog 22 = some false := by kernel_rfl
@[simp] theorem ts22 : tsize Tryz.prog 22 = some 1 := by kernel_rfl
@[simp] theorem tu22 : Tryz.prog.underlying 22 = some (TypeDesc.func #[] #[4] false) := by kernel_rfl
@[simp] theorem tg23 : tagg Tryz.prog 23 = some false := by kernel_rfl
@[simp] theorem ts23 : tsize Tryz.prog 23 = some 1 := by kernel_rfl
@[simp] theorem tal23 (H : AHeap) : aAlloc Tryz.prog H 23 = some (.pointer (some ⟨H.length, 0, some 1⟩), H ++ [.cells [.slice none 0 0] 23]) := by kernel_rfl
@[simp] theorem tbs23 (H : AHeap) (n : Nat) (l : List (Nat × Value)) : aBuildSlice Tryz.prog H 23 n l = bslV 70 #[.int IntKind.u8 0, .string ⟨#[]⟩, .int IntKind.i64 0] H n l := by kernel_rfl
@[simp] theorem tel23 : aElem Tryz.prog 23 = some (70, 3, 32) := by kernel_rfl
@[simp] theorem tu23 : Tryz.prog.underlying 23 = some (TypeDesc.slice 70) := by kernel_rfl
@[simp] theorem tg24 : tagg Tryz.prog 24 = some false := by kernel_rfl
@[simp] theorem ts24 : tsize Tryz.prog 24 = some 1 := by kernel_rfl
@[simp] theorem tal24 (H : AHeap) : aAlloc Tryz.prog H 24 = some (.pointer (some ⟨H.length, 0, some 1⟩), H ++ [.cells [.int IntKind.i64 0] 24]) := by kernel_rfl
@[simp] theorem tu24 : Tryz.prog.underlying 24 = some (TypeDesc.int IntKind.i64) := by kernel_rfl
@[simp] theorem tg27 : tagg Tryz.prog 27 = some false := by kernel_rfl
@[simp] theorem ts27 : tsize Tryz.prog 27 = some 1 := by kernel_rfl
@[simp] theorem tal27 (H : AHeap) : aAlloc Tryz.prog H 27 = some (.pointer (some ⟨H.length, 0, some 1⟩), H ++ [.cells [.slice none 0 0] 27]) := by kernel_rfl
@[simp] theorem tbs27 (H : AHeap) (n : Nat) (l : List (Nat × Value)) : aBuildSlice Tryz.prog H 27 n l = bslV 37 #[.int IntKind.u8 0, .int IntKind.u8 0, .slice none 0 0, .int IntKind.i64 0, .int IntKind.u8 0, .int IntKind.i64 0, .int IntKind.i64 0, .int IntKind.i64 0] H n l := by kernel_rfl
@[simp] theorem tel27 : aElem Tryz.prog 27 = some (37, 8, 72) := by kernel_rfl
@[simp] theorem tu27 : Tryz.prog.underlying 27 = some (TypeDesc.slice 37) := by kernel_rfl
@[simp] theorem tg29 : tagg Tryz.prog 29 = some false := by kernel_rfl
@[simp] theorem ts29 : tsize Tryz.prog 29 = some 1 := by kernel_rfl
@[simp] theorem tu29 : Tryz.prog.underlying 29 = some (TypeDesc.func #[9] #[27, 24] false) := by kernel_rfl
@[simp] theorem tg31 : tagg Tryz.prog 31 = some false := by kernel_rfl
@[simp] theorem ts31 : tsize Tryz.prog 31 = some 1 := by kernel_rfl
@[simp] theorem tu31 : Tryz.prog.underlying 31 = some (TypeDesc.func #[23, 3] #[27, 3, 24] false) := by kernel_rfl
@[simp] theorem tg32 : tagg Tryz.prog 32 = some false := by kernel_rfl
@[simp] theorem ts32 : tsize Tryz.prog 32 = some 1 := by kernel_rfl
@[simp] theorem tu32 : Tryz.prog.underlying 32 = some (TypeDesc.func #[27, 27] #[4] false) := by kernel_rfl
@[simp] theorem tg33 : tagg Tryz.prog 33 = some false := by kernel_rfl
@[simp] theorem ts33 : tsize Tryz.prog 33 = some 1 := by kernel_rfl
@[simp] theorem tu33 : Tryz.prog.underlying 33 = some (TypeDesc.func #[9] #[4] false) := by kernel_rfl
@[simp] theorem tg34 : tagg Tryz.prog 34 = some false := by kernel_rfl
@[simp] theorem ts34 : tsize Tryz.prog 34 = some 1 := by kernel_rfl
@[simp] theorem tu34 : Tryz.prog.underlying 34 = some (TypeDesc.func #[9, 3] #[4] false) := by kernel_rfl
@[simp] theorem tg35 : tagg Tryz.prog 35 = some false := by kernel_rfl
@[simp] theorem ts35 : tsize Tryz.prog 35 = some 1 := by kernel_rfl
@[simp] theorem tbs35 (H : AHeap) (n : Nat) (l : List (Nat × Value)) : aBuildSlice Tryz.prog H 35 n l = bslV 75 #[.string ⟨#[]⟩, .int IntKind.u8 0, .string ⟨#[]⟩] H n l := by kernel_rfl
@[simp] theorem tel35 : aElem Tryz.prog 35 = some (75, 3, 40) := by kernel_rfl
@[simp] theorem tu35 : Tryz.prog.underlying 35 = some (TypeDesc.slice 75) := by kernel_rfl
@[simp] theorem tg37 : tagg Tryz.prog 37 = some true := by kernel_rfl
@[simp] theorem ts37 : tsize Tryz.prog 37 = some 8 := by kernel_rfl
@[simp] theorem tf37x0 : afield Tryz.prog 37 0 = some (0, 5) := by kernel_rfl
@[simp] theorem tf37x1 : afield Tryz.prog 37 1 = some (1, 5) := by kernel_rfl
@[simp] theorem tf37x2 : afield Tryz.prog 37 2 = some (2, 35) := by kernel_rfl
@[simp] theorem tf37x3 : afield Tryz.prog 37 3 = some (3, 3) := by kernel_rfl
@[simp] theorem tf37x4 : afield Tryz.prog 37 4 = some (4, 5) := by kernel_rfl
@[simp] theorem tf37x5 : afield Tryz.prog 37 5 = some (5, 2) := by kernel_rfl
@[simp] theorem tf37x6 : afield Tryz.prog 37 6 = some (6, 3) := by kernel_rfl
@[simp] theorem tf37x7 : afield Tryz.prog 37 7 = some (7, 3) := by kernel_rfl
@[simp] theorem tal37 (H : AHeap) : aAlloc Tryz.prog H 37 = some (.pointer (some ⟨H.length, 0, some 8⟩), H ++ [.cells [.int IntKind.u8 0, .int IntKind.u8 0, .slice none 0 0, .int IntKind.i64 0, .int IntKind.u8 0, .int IntKind.i64 0, .int IntKind.i64 0, .int IntKind.i64 0] 37]) := by kernel_rfl
@[simp] theorem tbv37 (l : List (Nat × Value)) : buildV Tryz.prog 37 l = bldV #[.int IntKind.u8 0, .int IntKind.u8 0, .slice none 0 0, .int IntKind.i64 0, .int IntKind.u8 0, .int IntKind.i64 0, .int IntKind.i64 0, .int IntKind.i64 0] [(0, 1), (1, 1), (2, 1), (3, 1), (4, 1), (5, 1), (6, 1), (7, 1)] l := by kernel_rfl
@[simp] theorem tg39 : tagg Tryz.prog 39 = some false := by kernel_rfl
@[simp] theorem ts39 : tsize Tryz.prog 39 = some 1 := by kernel_rfl
@[simp] theorem tu39 : Tryz.prog.underlying 39 = some (TypeDesc.func #[27] #[4] false) := by kernel_rfl
@[simp] theorem tg40 : tagg Tryz.prog 40 = some false := by kernel_rfl
@[simp] theorem ts40 : tsize Tryz.prog 40 = some 1 := by kernel_rfl
@[simp] theorem tu40 : Tryz.prog.underlying 40 = some (TypeDesc.func #[27] #[9] false) := by kernel_rfl
@[simp] theorem tg41 : tagg Tryz.prog 41 = some false := by kernel_rfl
@[simp] theorem ts41 : tsize Tryz.prog 41 = some 1 := by kernel_rfl
@[simp] theorem tu41 : Tryz.prog.underlying 41 = some (TypeDesc.func #[27, 9] #[4] false) := by kernel_rfl
@[simp] theorem tg42 : tagg Tryz.prog 42 = some false := by kernel_rfl
@[simp] theorem ts42 : tsize Tryz.prog 42 = some 1 := by kernel_rfl
@[simp] theorem tbs42 (H : AHeap) (n : Nat) (l : List (Nat × Value)) : aBuildSlice Tryz.prog H 42 n l = bslV 9 #[.string ⟨#[]⟩] H n l := by kernel_rfl
@[simp] theorem tel42 : aElem Tryz.prog 42 = some (9, 1, 16) := by kernel_rfl
@[simp] theorem tu42 : Tryz.prog.underlying 42 = some (TypeDesc.slice 9) := by kernel_rfl
@[simp] theorem tg43 : tagg Tryz.prog 43 = some true := by kernel_rfl
@[simp] theorem ts43 : tsize Tryz.prog 43 = some 8 := by kernel_rfl
@[simp] theorem tf43x0 : afield Tryz.prog 43 0 = some (0, 9) := by kernel_rfl
@[simp] theorem tf43x1 : afield Tryz.prog 43 1 = some (1, 9) := by kernel_rfl
@[simp] theorem tf43x2 : afield Tryz.prog 43 2 = some (2, 27) := by kernel_rfl
@[simp] theorem tf43x3 : afield Tryz.prog 43 3 = some (3, 3) := by kernel_rfl
@[simp] theorem tf43x4 : afield Tryz.prog 43 4 = some (4, 3) := by kernel_rfl
@[simp] theorem tf43x5 : afield Tryz.prog 43 5 = some (5, 3) := by kernel_rfl
@[simp] theorem tf43x6 : afield Tryz.prog 43 6 = some (6, 42) := by kernel_rfl
@[simp] theorem tf43x7 : afield Tryz.prog 43 7 = some (7, 9) := by kernel_rfl
@[simp] theorem tg44 : tagg Tryz.prog 44 = some true := by kernel_rfl
@[simp] theorem ts44 : tsize Tryz.prog 44 = some 8 := by kernel_rfl
@[simp] theorem tf44x0 : afield Tryz.prog 44 0 = some (0, 9) := by kernel_rfl
@[simp] theorem tf44x1 : afield Tryz.prog 44 1 = some (1, 9) := by kernel_rfl
@[simp] theorem tf44x2 : afield Tryz.prog 44 2 = some (2, 27) := by kernel_rfl
@[simp] theorem tf44x3 : afield Tryz.prog 44 3 = some (3, 3) := by kernel_rfl
@[simp] theorem tf44x4 : afield Tryz.prog 44 4 = some (4, 3) := by kernel_rfl
@[simp] theorem tf44x5 : afield Tryz.prog 44 5 = some (5, 3) := by kernel_rfl
@[simp] theorem tf44x6 : afield Tryz.prog 44 6 = some (6, 42) := by kernel_rfl
@[simp] theorem tf44x7 : afield Tryz.prog 44 7 = some (7, 9) := by kernel_rfl
@[simp] theorem tg45 : tagg Tryz.prog 45 = some false := by kernel_rfl
@[simp] theorem ts45 : tsize Tryz.prog 45 = some 1 := by kernel_rfl
@[simp] theorem tu45 : Tryz.prog.underlying 45 = some (TypeDesc.func #[49] #[4] false) := by kernel_rfl
@[simp] theorem tg46 : tagg Tryz.prog 46 = some false := by kernel_rfl
@[simp] theorem ts46 : tsize Tryz.prog 46 = some 1 := by kernel_rfl
@[simp] theorem tbs46 (H : AHeap) (n : Nat) (l : List (Nat × Value)) : aBuildSlice Tryz.prog H 46 n l = bslV 44 #[.string ⟨#[]⟩, .string ⟨#[]⟩, .slice none 0 0, .int IntKind.i64 0, .int IntKind.i64 0, .int IntKind.i64 0, .slice none 0 0, .string ⟨#[]⟩] H n l := by kernel_rfl
@[simp] theorem tel46 : aElem Tryz.prog 46 = some (44, 8, 120) := by kernel_rfl
@[simp] theorem tu46 : Tryz.prog.underlying 46 = some (TypeDesc.slice 44) := by kernel_rfl
@[simp] theorem tg47 : tagg Tryz.prog 47 = some false := by kernel_rfl
@[simp] theorem ts47 : tsize Tryz.prog 47 = some 1 := by kernel_rfl
@[simp] theorem tbs47 (H : AHeap) (n : Nat) (l : List (Nat × Value)) : aBuildSlice Tryz.prog H 47 n l = bslV 89 #[.string ⟨#[]⟩, .bool false, .bool false, .bool false, .bool false, .bool false, .bool false, .bool false, .int IntKind.i64 0, .int IntKind.i64 0] H n l := by kernel_rfl
@[simp] theorem tel47 : aElem Tryz.prog 47 = some (89, 10, 40) := by kernel_rfl
@[simp] theorem tu47 : Tryz.prog.underlying 47 = some (TypeDesc.slice 89) := by kernel_rfl
@[simp] theorem tg48 : tagg Tryz.prog 48 = some true := by kernel_rfl
@[simp] theorem ts48 : tsize Tryz.prog 48 = some 4 := by kernel_rfl
@[simp] theorem tf48x0 : afield Tryz.prog 48 0 = some (0, 46) := by kernel_rfl
@[simp] theorem tf48x1 : afield Tryz.prog 48 1 = some (1, 47) := by kernel_rfl
@[simp] theorem tf48x2 : afield Tryz.prog 48 2 = some (2, 3) := by kernel_rfl
@[simp] theorem tf48x3 : afield Tryz.prog 48 3 = some (3, 3) := by kernel_rfl
@[simp] theorem tg49 : tagg Tryz.prog 49 = some true := by kernel_rfl
@[simp] theorem ts49 : tsize Tryz.prog 49 = some 4 := by kernel_rfl
@[simp] theorem tf49x0 : afield Tryz.prog 49 0 = some (0, 46) := by kernel_rfl
@[simp] theorem tf49x1 : afield Tryz.prog 49 1 = some (1, 47) := by kernel_rfl
@[simp] theorem tf49x2 : afield Tryz.prog 49 2 = some (2, 3) := by kernel_rfl
@[simp] theorem tf49x3 : afield Tryz.prog 49 3 = some (3, 3) := by kernel_rfl
@[simp] theorem tg50 : tagg Tryz.prog 50 = some false := by kernel_rfl
@[simp] theorem ts50 : tsize Tryz.prog 50 = some 1 := by kernel_rfl
@[simp] theorem tu50 : Tryz.prog.underlying 50 = some (TypeDesc.int IntKind.u32) := by kernel_rfl
@[simp] theorem tg51 : tagg Tryz.prog 51 = some false := by kernel_rfl
@[simp] theorem ts51 : tsize Tryz.prog 51 = some 1 := by kernel_rfl
@[simp] theorem tu51 : Tryz.prog.underlying 51 = some (TypeDesc.func #[44] #[50] false) := by kernel_rfl
@[simp] theorem tg52 : tagg Tryz.prog 52 = some false := by kernel_rfl
@[simp] theorem ts52 : tsize Tryz.prog 52 = some 1 := by kernel_rfl
@[simp] theorem tu52 : Tryz.prog.underlying 52 = some (TypeDesc.func #[46] #[4] true) := by kernel_rfl
@[simp] theorem tg53 : tagg Tryz.prog 53 = some false := by kernel_rfl
@[simp] theorem ts53 : tsize Tryz.prog 53 = some 1 := by kernel_rfl
@[simp] theorem tu53 : Tryz.prog.underlying 53 = some (TypeDesc.func #[44, 44] #[4] false) := by kernel_rfl
@[simp] theorem tg54 : tagg Tryz.prog 54 = some false := by kernel_rfl
@[simp] theorem ts54 : tsize Tryz.prog 54 = some 1 := by kernel_rfl
@[simp] theorem tu54 : Tryz.prog.underlying 54 = some (TypeDesc.func #[46] #[4] false) := by kernel_rfl
@[simp] theorem tg55 : tagg Tryz.prog 55 = some false := by kernel_rfl
@[simp] theorem ts55 : tsize Tryz.prog 55 = some 1 := by kernel_rfl
@[simp] theorem tbs55 (H : AHeap) (n : Nat) (l : List (Nat × Value)) : aBuildSlice Tryz.prog H 55 n l = bslV 5 #[.int IntKind.u8 0] H n l := by kernel_rfl
@[simp] theorem tel55 : aElem Tryz.prog 55 = some (5, 1, 1) := by kernel_rfl
@[simp] theorem tu55 : Tryz.prog.underlying 55 = some (TypeDesc.slice 5) := by kernel_rfl
@[simp] theorem tg56 : tagg Tryz.prog 56 = some false := by kernel_rfl
@[simp] theorem ts56 : tsize Tryz.prog 56 = some 1 := by kernel_rfl
@[simp] theorem tu56 : Tryz.prog.underlying 56 = some (TypeDesc.func #[55] #[50] false) := by kernel_rfl
@[simp] theorem tg57 : tagg Tryz.prog 57 = some false := by kernel_rfl
@[simp] theorem ts57 : tsize Tryz.prog 57 = some 1 := by kernel_rfl
@[simp] theorem tu57 : Tryz.prog.underlying 57 = some (TypeDesc.func #[44, 5, 5] #[4] false) := by kernel_rfl
@[simp] theorem tg58 : tagg Tryz.prog 58 = some false := by kernel_rfl
@[simp] theorem ts58 : tsize Tryz.prog 58 = some 1 := by kernel_rfl
@[simp] theorem tbs58 (H : AHeap) (n : Nat) (l : List (Nat × Value)) : aBuildSlice Tryz.prog H 58 n l = bslV 50 #[.int IntKind.u32 0] H n l := by kernel_rfl
@[simp] theorem tel58 : aElem Tryz.prog 58 = some (50, 1, 4) := by kernel_rfl
@[simp] theorem tu58 : Tryz.prog.underlying 58 = some (TypeDesc.slice 50) := by kernel_rfl
@[simp] theorem tg59 : tagg Tryz.prog 59 = some false := by kernel_rfl
@[simp] theorem ts59 : tsize Tryz.prog 59 = some 1 := by kernel_rfl
@[simp] theorem tu59 : Tryz.prog.underlying 59 = some (TypeDesc.func #[46] #[58] true) := by kernel_rfl
@[simp] theorem tg60 : tagg Tryz.prog 60 = some false := by kernel_rfl
@[simp] theorem ts60 : tsize Tryz.prog 60 = some 1 := by kernel_rfl
@[simp] theorem tu60 : Tryz.prog.underlying 60 = some (TypeDesc.func #[46, 46] #[4] false) := by kernel_rfl
@[simp] theorem tg61 : tagg Tryz.prog 61 = some false := by kernel_rfl
@[simp] theorem ts61 : tsize Tryz.prog 61 = some 1 := by kernel_rfl
@[simp] theorem tu61 : Tryz.prog.underlying 61 = some (TypeDesc.func #[27] #[27] false) := by kernel_rfl
@[simp] theorem tg62 : tagg Tryz.prog 62 = some false := by kernel_rfl
@[simp] theorem ts62 : tsize Tryz.prog 62 = some 1 := by kernel_rfl
@[simp] theorem tu62 : Tryz.prog.underlying 62 = some (TypeDesc.func #[49] #[49] false) := by kernel_rfl
@[simp] theorem tg63 : tagg Tryz.prog 63 = some false := by kernel_rfl
@[simp] theorem ts63 : tsize Tryz.prog 63 = some 1 := by kernel_rfl
@[simp] theorem tu63 : Tryz.prog.underlying 63 = some (TypeDesc.func #[49, 49] #[4] false) := by kernel_rfl
@[simp] theorem tg64 : tagg Tryz.prog 64 = some false := by kernel_rfl
@[simp] theorem ts64 : tsize Tryz.prog 64 = some 1 := by kernel_rfl
@[simp] theorem tbs64 (H : AHeap) (n : Nat) (l : List (Nat × Value)) : aBuildSlice Tryz.prog H 64 n l = bslV 72 #[.int IntKind.u8 0, .string ⟨#[]⟩, .int IntKind.i64 0, .int IntKind.i64 0] H n l := by kernel_rfl
@[simp] theorem tel64 : aElem Tryz.prog 64 = some (72, 4, 40) := by kernel_rfl
@[simp] theorem tu64 : Tryz.prog.underlying 64 = some (TypeDesc.slice 72) := by kernel_rfl
@[simp] theorem tg66 : tagg Tryz.prog 66 = some false := by kernel_rfl
@[simp] theorem ts66 : tsize Tryz.prog 66 = some 1 := by kernel_rfl
@[simp] theorem tu66 : Tryz.prog.underlying 66 = some (TypeDesc.func #[9] #[64, 3, 3] false) := by kernel_rfl
@[simp] theorem tg68 : tagg Tryz.prog 68 = some false := by kernel_rfl
@[simp] theorem ts68 : tsize Tryz.prog 68 = some 1 := by kernel_rfl
@[simp] theorem tu68 : Tryz.prog.underlying 68 = some (TypeDesc.func #[64, 3, 3] #[27, 3] false) := by kernel_rfl
@[simp] theorem tg69 : tagg Tryz.prog 69 = some true := by kernel_rfl
@[simp] theorem ts69 : tsize Tryz.prog 69 = some 3 := by kernel_rfl
@[simp] theorem tf69x0 : afield Tryz.prog 69 0 = some (0, 5) := by kernel_rfl
@[simp] theorem tf69x1 : afield Tryz.prog 69 1 = some (1, 9) := by kernel_rfl
@[simp] theorem tf69x2 : afield Tryz.prog 69 2 = some (2, 3) := by kernel_rfl
@[simp] theorem tg70 : tagg Tryz.prog 70 = some true := by kernel_rfl
@[simp] theorem ts70 : tsize Tryz.prog 70 = some 3 := by kernel_rfl
@[simp] theorem tf70x0 : afield Tryz.prog 70 0 = some (0, 5) := by kernel_rfl
@[simp] theorem tf70x1 : afield Tryz.prog 70 1 = some (1, 9) := by kernel_rfl
@[simp] theorem tf70x2 : afield Tryz.prog 70 2 = some (2, 3) := by kernel_rfl
@[simp] theorem tal70 (H : AHeap) : aAlloc Tryz.prog H 70 = some (.pointer (some ⟨H.length, 0, some 3⟩), H ++ [.cells [.int IntKind.u8 0, .string ⟨#[]⟩, .int IntKind.i64 0] 70]) := by kernel_rfl
@[simp] theorem tbv70 (l : List (Nat × Value)) : buildV Tryz.prog 70 l = bldV #[.int IntKind.u8 0, .string ⟨#[]⟩, .int IntKind.i64 0] [(0, 1), (1, 1), (2, 1)] l := by kernel_rfl
@[simp] theorem tg71 : tagg Tryz.prog 71 = some true := by kernel_rfl
@[simp] theorem ts71 : tsize Tryz.prog 71 = some 4 := by kernel_rfl
@[simp] theorem tf71x0 : afield Tryz.prog 71 0 = some (0, 5) := by kernel_rfl
@[simp] theorem tf71x1 : afield Tryz.prog 71 1 = some (1, 9) := by kernel_rfl
@[simp] theorem tf71x2 : afield Tryz.prog 71 2 = some (2, 3) := by kernel_rfl
@[simp] theorem tf71x3 : afield Tryz.prog 71 3 = some (3, 3) := by kernel_rfl
@[simp] theorem tg72 : tagg Tryz.prog 72 = some true := by kernel_rfl
@[simp] theorem ts72 : tsize Tryz.prog 72 = some 4 := by kernel_rfl
@[simp] theorem tf72x0 : afield Tryz.prog 72 0 = some (0, 5) := by kernel_rfl
@[simp] theorem tf72x1 : afield Tryz.prog 72 1 = some (1, 9) := by kernel_rfl
@[simp] theorem tf72x2 : afield Tryz.prog 72 2 = some (2, 3) := by kernel_rfl
@[simp] theorem tf72x3 : afield Tryz.prog 72 3 = some (3, 3) := by kernel_rfl
@[simp] theorem tg73 : tagg Tryz.prog 73 = some false := by kernel_rfl
@[simp] theorem ts73 : tsize Tryz.prog 73 = some 1 := by kernel_rfl
@[simp] theorem tu73 : Tryz.prog.underlying 73 = some (TypeDesc.func #[9] #[27, 3] false) := by kernel_rfl
@[simp] theorem tg74 : tagg Tryz.prog 74 = some true := by kernel_rfl
@[simp] theorem ts74 : tsize Tryz.prog 74 = some 3 := by kernel_rfl
@[simp] theorem tf74x0 : afield Tryz.prog 74 0 = some (0, 9) := by kernel_rfl
@[simp] theorem tf74x1 : afield Tryz.prog 74 1 = some (1, 5) := by kernel_rfl
@[simp] theorem tf74x2 : afield Tryz.prog 74 2 = some (2, 9) := by kernel_rfl
@[simp] theorem tg75 : tagg Tryz.prog 75 = some true := by kernel_rfl
@[simp] theorem ts75 : tsize Tryz.prog 75 = some 3 := by kernel_rfl
@[simp] theorem tf75x0 : afield Tryz.prog 75 0 = some (0, 9) := by kernel_rfl
@[simp] theorem tf75x1 : afield Tryz.prog 75 1 = some (1, 5) := by kernel_rfl
@[simp] theorem tf75x2 : afield Tryz.prog 75 2 = some (2, 9) := by kernel_rfl
@[simp] theorem tal75 (H : AHeap) : aAlloc Tryz.prog H 75 = some (.pointer (some ⟨H.length, 0, some 3⟩), H ++ [.cells [.string ⟨#[]⟩, .int IntKind.u8 0, .string ⟨#[]⟩] 75]) := by kernel_rfl
@[simp] theorem tbv75 (l : List (Nat × Value)) : buildV Tryz.prog 75 l = bldV #[.string ⟨#[]⟩, .int IntKind.u8 0, .string ⟨#[]⟩] [(0, 1), (1, 1), (2, 1)] l := by kernel_rfl
@[simp] theorem tg76 : tagg Tryz.prog 76 = some false := by kernel_rfl
@[simp] theorem ts76 : tsize Tryz.prog 76 = some 1 := by kernel_rfl
@[simp] theorem tu76 : Tryz.prog.underlying 76 = some (TypeDesc.func #[103] #[] false) := by kernel_rfl
@[simp] theorem tg77 : tagg Tryz.prog 77 = some false := by kernel_rfl
@[simp] theorem ts77 : tsize Tryz.prog 77 = some 1 := by kernel_rfl
@[simp] theorem tu77 : Tryz.prog.underlying 77 = some (TypeDesc.func #[103] #[] false) := by kernel_rfl
@[simp] theorem tg78 : tagg Tryz.prog 78 = some false := by kernel_rfl
@[simp] theorem ts78 : tsize Tryz.prog 78 = some 1 := by kernel_rfl
@[simp] theorem tu78 : Tryz.prog.underlying 78 = some (TypeDesc.func #[9] #[77] false) := by kernel_rfl
@[simp] theorem tg79 : tagg Tryz.prog 79 = some false := by kernel_rfl
@[simp] theorem ts79 : tsize Tryz.prog 79 = some 1 := by kernel_rfl
@[simp] theorem tu79 : Tryz.prog.underlying 79 = some (TypeDesc.pointer 81) := by kernel_rfl
@[simp] theorem tg80 : tagg Tryz.prog 80 = some true := by kernel_rfl
@[simp] theorem ts80 : tsize Tryz.prog 80 = some 3 := by kernel_rfl
@[simp] theorem tf80x0 : afield Tryz.prog 80 0 = some (0, 23) := by kernel_rfl
@[simp] theorem tf80x1 : afield Tryz.prog 80 1 = some (1, 3) := by kernel_rfl
@[simp] theorem tf80x2 : afield Tryz.prog 80 2 = some (2, 4) := by kernel_rfl
@[simp] theorem tg81 : tagg Tryz.prog 81 = some true := by kernel_rfl
@[simp] theorem ts81 : tsize Tryz.prog 81 = some 3 := by kernel_rfl
@[simp] theorem tf81x0 : afield Tryz.prog 81 0 = some (0, 23) := by kernel_rfl
@[simp] theorem tf81x1 : afield Tryz.prog 81 1 = some (1, 3) := by kernel_rfl
@[simp] theorem tf81x2 : afield Tryz.prog 81 2 = some (2, 4) := by kernel_rfl
@[simp] theorem tal81 (H : AHeap) : aAlloc Tryz.prog H 81 = some (.pointer (some ⟨H.length, 0, some 3⟩), H ++ [.cells [.slice none 0 0, .int IntKind.i64 0, .bool false] 81]) := by kernel_rfl
@[simp] theorem tbv81 (l : List (Nat × Value)) : buildV Tryz.prog 81 l = bldV #[.slice none 0 0, .int IntKind.i64 0, .bool false] [(0, 1), (1, 1), (2, 1)] l := by kernel_rfl
@[simp] theorem tg84 : tagg Tryz.prog 84 = some false := by kernel_rfl
@[simp] theorem ts84 : tsize Tryz.prog 84 = some 1 := by kernel_rfl
@[simp] theorem tu84 : Tryz.prog.underlying 84 = some (TypeDesc.func #[27, 3, 3] #[9] false) := by kernel_rfl
@[simp] theorem tg87 : tagg Tryz.prog 87 = some true := by kernel_rfl
@[simp] theorem ts87 : tsize Tryz.prog 87 = some 7 := by kernel_rfl
@[simp] theorem tu87 : Tryz.prog.underlying 87 = some (TypeDesc.array 7 4) := by kernel_rfl
@[simp] theorem tg89 : tagg Tryz.prog 89 = some true := by kernel_rfl
@[simp] theorem ts89 : tsize Tryz.prog 89 = some 10 := by kernel_rfl
@[simp] theorem tf89x0 : afield Tryz.prog 89 0 = some (0, 9) := by kernel_rfl
@[simp] theorem tf89x1 : afield Tryz.prog 89 1 = some (1, 87) := by kernel_rfl
@[simp] theorem tf89x2 : afield Tryz.prog 89 2 = some (8, 3) := by kernel_rfl
@[simp] theorem tf89x3 : afield Tryz.prog 89 3 = some (9, 3) := by kernel_rfl
@[simp] theorem tg90 : tagg Tryz.prog 90 = some false := by kernel_rfl
@[simp] theorem ts90 : tsize Tryz.prog 90 = some 1 := by kernel_rfl
@[simp] theorem tu90 : Tryz.prog.underlying 90 = some (TypeDesc.func #[42, 9] #[9] false) := by kernel_rfl
@[simp] theorem tg91 : tagg Tryz.prog 91 = some false := by kernel_rfl
@[simp] theorem ts91 : tsize Tryz.prog 91 = some 1 := by kernel_rfl
@[simp] theorem tu91 : Tryz.prog.underlying 91 = some (TypeDesc.func #[3] #[9] false) := by kernel_rfl
@[simp] theorem tg92 : tagg Tryz.prog 92 = some false := by kernel_rfl
@[simp] theorem ts92 : tsize Tryz.prog 92 = some 1 := by kernel_rfl
@[simp] theorem tm92 : mtype Tryz.prog 92 = some ((TypeDesc.int IntKind.u32), 3) := by kernel_rfl
@[simp] theorem tz92 : tzero Tryz.prog 3 = some (.int IntKind.i64 0) := by kernel_rfl
@[simp] theorem tu92 : Tryz.prog.underlying 92 = some (TypeDesc.map 50 3) := by kernel_rfl
@[simp] theorem tg93 : tagg Tryz.prog 93 = some false := by kernel_rfl
@[simp] theorem ts93 : tsize Tryz.prog 93 = some 1 := by kernel_rfl
@[simp] theorem tu93 : Tryz.prog.underlying 93 = some (TypeDesc.func #[122] #[50] true) := by kernel_rfl
@[simp] theorem tg94 : tagg Tryz.prog 94 = some false := by kernel_rfl
@[simp] theorem ts94 : tsize Tryz.prog 94 = some 1 := by kernel_rfl
@[simp] theorem tu94 : Tryz.prog.underlying 94 = some (TypeDesc.func #[35] #[35] false) := by kernel_rfl
@[simp] theorem tg95 : tagg Tryz.prog 95 = some false := by kernel_rfl
@[simp] theorem ts95 : tsize Tryz.prog 95 = some 1 := by kernel_rfl
@[simp] theorem tu95 : Tryz.prog.underlying 95 = some (TypeDesc.func #[35] #[9] false) := by kernel_rfl
@[simp] theorem tg96 : tagg Tryz.prog 96 = some false := by kernel_rfl
@[simp] theorem ts96 : tsize Tryz.prog 96 = some 1 := by kernel_rfl
@[simp] theorem tu96 : Tryz.prog.underlying 96 = some (TypeDesc.func #[2] #[9] false) := by kernel_rfl
@[simp] theorem tg97 : tagg Tryz.prog 97 = some false := by kernel_rfl
@[simp] theorem ts97 : tsize Tryz.prog 97 = some 1 := by kernel_rfl
@[simp] theorem tu97 : Tryz.prog.underlying 97 = some (TypeDesc.func #[27, 42, 3, 4] #[9] false) := by kernel_rfl
@[simp] theorem tg98 : tagg Tryz.prog 98 = some false := by kernel_rfl
@[simp] theorem ts98 : tsize Tryz.prog 98 = some 1 := by kernel_rfl
@[simp] theorem tu98 : Tryz.prog.underlying 98 = some (TypeDesc.func #[44] #[44] false) := by kernel_rfl
@[simp] theorem tg99 : tagg Tryz.prog 99 = some false := by kernel_rfl
@[simp] theorem ts99 : tsize Tryz.prog 99 = some 1 := by kernel_rfl
@[simp] theorem tu99 : Tryz.prog.underlying 99 = some (TypeDesc.func #[44] #[9] false) := by kernel_rfl
@[simp] theorem tg100 : tagg Tryz.prog 100 = some false := by kernel_rfl
@[simp] theorem ts100 : tsize Tryz.prog 100 = some 1 := by kernel_rfl
@[simp] theorem tu100 : Tryz.prog.underlying 100 = some (TypeDesc.func #[5] #[4] false) := by kernel_rfl
@[simp] theorem tg101 : tagg Tryz.prog 101 = some false := by kernel_rfl
@[simp] theorem ts101 : tsize Tryz.prog 101 = some 1 := by kernel_rfl
@[simp] theorem tu101 : Tryz.prog.underlying 101 = some (TypeDesc.func #[9, 3] #[72] false) := by kernel_rfl
@[simp] theorem tg102 : tagg Tryz.prog 102 = some false := by kernel_rfl
@[simp] theorem ts102 : tsize Tryz.prog 102 = some 1 := by kernel_rfl
@[simp] theorem tu102 : Tryz.prog.underlying 102 = some (TypeDesc.func #[64, 3, 3, 9] #[27, 3] false) := by kernel_rfl
@[simp] theorem tg103 : tagg Tryz.prog 103 = some false := by kernel_rfl
@[simp] theorem ts103 : tsize Tryz.prog 103 = some 1 := by kernel_rfl
@[simp] theorem tu103 : Tryz.prog.underlying 103 = some (TypeDesc.func #[70, 24] #[4] false) := by kernel_rfl
@[simp] theorem tg104 : tagg Tryz.prog 104 = some false := by kernel_rfl
@[simp] theorem ts104 : tsize Tryz.prog 104 = some 1 := by kernel_rfl
@[simp] theorem tu104 : Tryz.prog.underlying 104 = some (TypeDesc.func #[9, 3] #[3] false) := by kernel_rfl
@[simp] theorem tg106 : tagg Tryz.prog 106 = some false := by kernel_rfl
@[simp] theorem ts106 : tsize Tryz.prog 106 = some 1 := by kernel_rfl
@[simp] theorem tu106 : Tryz.prog.underlying 106 = some (TypeDesc.func #[9, 3] #[70, 3] false) := by kernel_rfl
@[simp] theorem tg107 : tagg Tryz.prog 107 = some false := by kernel_rfl
@[simp] theorem ts107 : tsize Tryz.prog 107 = some 1 := by kernel_rfl
@[simp] theorem tal107 (H : AHeap) : aAlloc Tryz.prog H 107 = some (.pointer (some ⟨H.length, 0, some 1⟩), H ++ [.cells [.nilFunc] 107]) := by kernel_rfl
@[simp] theorem tu107 : Tryz.prog.underlying 107 = some (TypeDesc.func #[3] #[] false) := by kernel_rfl
@[simp] theorem tg108 : tagg Tryz.prog 108 = some false := by kernel_rfl
@[simp] theorem ts108 : tsize Tryz.prog 108 = some 1 := by kernel_rfl
@[simp] theorem tu108 : Tryz.prog.underlying 108 = some (TypeDesc.func #[5, 9] #[4] false) := by kernel_rfl
@[simp] theorem tg109 : tagg Tryz.prog 109 = some false := by kernel_rfl
@[simp] theorem ts109 : tsize Tryz.prog 109 = some 1 := by kernel_rfl
@[simp] theorem tu109 : Tryz.prog.underlying 109 = some (TypeDesc.func #[9] #[] false) := by kernel_rfl
@[simp] theorem tg110 : tagg Tryz.prog 110 = some false := by kernel_rfl
@[simp] theorem ts110 : tsize Tryz.prog 110 = some 1 := by kernel_rfl
@[simp] theorem tu110 : Tryz.prog.underlying 110 = some (TypeDesc.func #[] #[37] false) := by kernel_rfl
@[simp] theorem tg111 : tagg Tryz.prog 111 = some false := by kernel_rfl
@[simp] theorem ts111 : tsize Tryz.prog 111 = some 1 := by kernel_rfl
@[simp] theorem tu111 : Tryz.prog.underlying 111 = some (TypeDesc.func #[] #[42] false) := by kernel_rfl
@[simp] theorem tg112 : tagg Tryz.prog 112 = some false := by kernel_rfl
@[simp] theorem ts112 : tsize Tryz.prog 112 = some 1 := by kernel_rfl
@[simp] theorem tu112 : Tryz.prog.underlying 112 = some (TypeDesc.func #[37] #[3] false) := by kernel_rfl
@[simp] theorem tg113 : tagg Tryz.prog 113 = some false := by kernel_rfl
@[simp] theorem ts113 : tsize Tryz.prog 113 = some 1 := by kernel_rfl
@[simp] theorem tu113 : Tryz.prog.underlying 113 = some (TypeDesc.func #[37] #[4] false) := by kernel_rfl
@[simp] theorem tg114 : tagg Tryz.prog 114 = some false := by kernel_rfl
@[simp] theorem ts114 : tsize Tryz.prog 114 = some 1 := by kernel_rfl
@[simp] theorem tu114 : Tryz.prog.underlying 114 = some (TypeDesc.pointer 116) := by kernel_rfl
@[simp] theorem tg115 : tagg Tryz.prog 115 = some true := by kernel_rfl
@[simp] theorem ts115 : tsize Tryz.prog 115 = some 2 := by kernel_rfl
@[simp] theorem tf115x0 : afield Tryz.prog 115 0 = some (0, 114) := by kernel_rfl
@[simp] theorem tf115x1 : afield Tryz.prog 115 1 = some (1, 55) := by kernel_rfl
@[simp] theorem tg116 : tagg Tryz.prog 116 = some true := by kernel_rfl
@[simp] theorem ts116 : tsize Tryz.prog 116 = some 2 := by kernel_rfl
@[simp] theorem tf116x0 : afield Tryz.prog 116 0 = some (0, 114) := by kernel_rfl
@[simp] theorem tf116x1 : afield Tryz.prog 116 1 = some (1, 55) := by kernel_rfl
@[simp] theorem tal116 (H : AHeap) : aAlloc Tryz.prog H 116 = some (.pointer (some ⟨H.length, 0, some 2⟩), H ++ [.cells [.pointer none, .slice none 0 0] 116]) := by kernel_rfl
@[simp] theorem tbv116 (l : List (Nat × Value)) : buildV Tryz.prog 116 l = bldV #[.pointer none, .slice none 0 0] [(0, 1), (1, 1)] l := by kernel_rfl
@[simp] theorem tg117 : tagg Tryz.prog 117 = some false := by kernel_rfl
@[simp] theorem ts117 : tsize Tryz.prog 117 = some 1 := by kernel_rfl
@[simp] theorem tu117 : Tryz.prog.underlying 117 = some (TypeDesc.interface #[("Error", 121)]) := by kernel_rfl
@[simp] theorem tg118 : tagg Tryz.prog 118 = some false := by kernel_rfl
@[simp] theorem ts118 : tsize Tryz.prog 118 = some 1 := by kernel_rfl
@[simp] theorem tu118 : Tryz.prog.underlying 118 = some (TypeDesc.interface #[("Error", 121)]) := by kernel_rfl
@[simp] theorem tg120 : tagg Tryz.prog 120 = some false := by kernel_rfl
@[simp] theorem ts120 : tsize Tryz.prog 120 = some 1 := by kernel_rfl
@[simp] theorem tu120 : Tryz.prog.underlying 120 = some (TypeDesc.func #[9] #[3, 118] false) := by kernel_rfl
@[simp] theorem tg121 : tagg Tryz.prog 121 = some false := by kernel_rfl
@[simp] theorem ts121 : tsize Tryz.prog 121 = some 1 := by kernel_rfl
@[simp] theorem tu121 : Tryz.prog.underlying 121 = some (TypeDesc.func #[] #[9] false) := by kernel_rfl
@[simp] theorem tg122 : tagg Tryz.prog 122 = some false := by kernel_rfl
@[simp] theorem ts122 : tsize Tryz.prog 122 = some 1 := by kernel_rfl
@[simp] theorem tbs122 (H : AHeap) (n : Nat) (l : List (Nat × Value)) : aBuildSlice Tryz.prog H 122 n l = bslV 55 #[.slice none 0 0] H n l := by kernel_rfl
@[simp] theorem tel122 : aElem Tryz.prog 122 = some (55, 1, 24) := by kernel_rfl
@[simp] theorem tu122 : Tryz.prog.underlying 122 = some (TypeDesc.slice 55) := by kernel_rfl
@[simp] theorem tg123 : tagg Tryz.prog 123 = some false := by kernel_rfl
@[simp] theorem ts123 : tsize Tryz.prog 123 = some 1 := by kernel_rfl
@[simp] theorem tu123 : Tryz.prog.underlying 123 = some (TypeDesc.pointer 158) := by kernel_rfl
@[simp] theorem tg125 : tagg Tryz.prog 125 = some false := by kernel_rfl
@[simp] theorem ts125 : tsize Tryz.prog 125 = some 1 := by kernel_rfl
@[simp] theorem tu125 : Tryz.prog.underlying 125 = some (TypeDesc.func #[50, 123, 55] #[50] false) := by kernel_rfl
@[simp] theorem tg126 : tagg Tryz.prog 126 = some false := by kernel_rfl
@[simp] theorem ts126 : tsize Tryz.prog 126 = some 1 := by kernel_rfl
@[simp] theorem tu126 : Tryz.prog.underlying 126 = some (TypeDesc.func #[5] #[9] false) := by kernel_rfl
@[simp] theorem tg127 : tagg Tryz.prog 127 = some false := by kernel_rfl
@[simp] theorem ts127 : tsize Tryz.prog 127 = some 1 := by kernel_rfl
@[simp] theorem tu127 : Tryz.prog.underlying 127 = some (TypeDesc.func #[9] #[9] false) := by kernel_rfl
@[simp] theorem tg128 : tagg Tryz.prog 128 = some false := by kernel_rfl
@[simp] theorem ts128 : tsize Tryz.prog 128 = some 1 := by kernel_rfl
@[simp] theorem tu128 : Tryz.prog.underlying 128 = some (TypeDesc.func #[2] #[2] false) := by kernel_rfl
@[simp] theorem tg129 : tagg Tryz.prog 129 = some false := by kernel_rfl
@[simp] theorem ts129 : tsize Tryz.prog 129 = some 1 := by kernel_rfl
@[simp] theorem tu129 : Tryz.prog.underlying 129 = some (TypeDesc.func #[130] #[50] false) := by kernel_rfl
@[simp] theorem tg130 : tagg Tryz.prog 130 = some false := by kernel_rfl
@[simp] theorem ts130 : tsize Tryz.prog 130 = some 1 := by kernel_rfl
@[simp] theorem tbs130 (H : AHeap) (n : Nat) (l : List (Nat × Value)) : aBuildSlice Tryz.prog H 130 n l = bslV 3 #[.int IntKind.i64 0] H n l := by kernel_rfl
@[simp] theorem tel130 : aElem Tryz.prog 130 = some (3, 1, 8) := by kernel_rfl
@[simp] theorem tu130 : Tryz.prog.underlying 130 = some (TypeDesc.slice 3) := by kernel_rfl
@[simp] theorem tg131 : tagg Tryz.prog 131 = some false := by kernel_rfl
@[simp] theorem ts131 : tsize Tryz.prog 131 = some 1 := by kernel_rfl
@[simp] theorem tu131 : Tryz.prog.underlying 131 = some (TypeDesc.func #[] #[130] false) := by kernel_rfl
@[simp] theorem tg132 : tagg Tryz.prog 132 = some false := by kernel_rfl
@[simp] theorem ts132 : tsize Tryz.prog 132 = some 1 := by kernel_rfl
@[simp] theorem tu132 : Tryz.prog.underlying 132 = some (TypeDesc.int IntKind.u64) := by kernel_rfl
@[simp] theorem tg133 : tagg Tryz.prog 133 = some false := by kernel_rfl
@[simp] theorem ts133 : tsize Tryz.prog 133 = some 1 := by kernel_rfl
@[simp] theorem tu133 : Tryz.prog.underlying 133 = some (TypeDesc.func #[50, 50] #[50] false) := by kernel_rfl
@[simp] theorem tg138 : tagg Tryz.prog 138 = some false := by kernel_rfl
@[simp] theorem ts138 : tsize Tryz.prog 138 = some 1 := by kernel_rfl
@[simp] theorem tu138 : Tryz.prog.underlying 138 = some (TypeDesc.func #[64, 3, 5, 9] #[4] false) := by kernel_rfl
@[simp] theorem tg139 : tagg Tryz.prog 139 = some false := by kernel_rfl
@[simp] theorem ts139 : tsize Tryz.prog 139 = some 1 := by kernel_rfl
@[simp] theorem tu139 : Tryz.prog.underlying 139 = some (TypeDesc.func #[9, 5] #[3] false) := by kernel_rfl
@[simp] theorem tg140 : tagg Tryz.prog 140 = some false := by kernel_rfl
@[simp] theorem ts140 : tsize Tryz.prog 140 = some 1 := by kernel_rfl
@[simp] theorem tu140 : Tryz.prog.underlying 140 = some (TypeDesc.func #[9, 3, 100] #[3] false) := by kernel_rfl
@[simp] theorem tg141 : tagg Tryz.prog 141 = some false := by kernel_rfl
@[simp] theorem ts141 : tsize Tryz.prog 141 = some 1 := by kernel_rfl
@[simp] theorem tu141 : Tryz.prog.underlying 141 = some (TypeDesc.func #[9, 3] #[9, 3] false) := by kernel_rfl
@[simp] theorem tg142 : tagg Tryz.prog 142 = some false := by kernel_rfl
@[simp] theorem ts142 : tsize Tryz.prog 142 = some 1 := by kernel_rfl
@[simp] theorem tu142 : Tryz.prog.underlying 142 = some (TypeDesc.func #[5, 42] #[5] false) := by kernel_rfl
@[simp] theorem tg143 : tagg Tryz.prog 143 = some false := by kernel_rfl
@[simp] theorem ts143 : tsize Tryz.prog 143 = some 1 := by kernel_rfl
@[simp] theorem tu143 : Tryz.prog.underlying 143 = some (TypeDesc.func #[] #[35] false) := by kernel_rfl
@[simp] theorem tg144 : tagg Tryz.prog 144 = some false := by kernel_rfl
@[simp] theorem ts144 : tsize Tryz.prog 144 = some 1 := by kernel_rfl
@[simp] theorem tu144 : Tryz.prog.underlying 144 = some (TypeDesc.func #[] #[3] false) := by kernel_rfl
@[simp] theorem tg146 : tagg Tryz.prog 146 = some false := by kernel_rfl
@[simp] theorem ts146 : tsize Tryz.prog 146 = some 1 := by kernel_rfl
@[simp] theorem tm146 : mtype Tryz.prog 146 = some ((TypeDesc.int IntKind.u8), 150) := by kernel_rfl
@[simp] theorem tz146 : tzero Tryz.prog 150 = some (.agg #[.string ⟨#[]⟩, .nilFunc]) := by kernel_rfl
@[simp] theorem tu146 : Tryz.prog.underlying 146 = some (TypeDesc.map 5 150) := by kernel_rfl
@[simp] theorem tg148 : tagg Tryz.prog 148 = some false := by kernel_rfl
@[simp] theorem ts148 : tsize Tryz.prog 148 = some 1 := by kernel_rfl
@[simp] theorem tu148 : Tryz.prog.underlying 148 = some (TypeDesc.func #[9, 9] #[4] false) := by kernel_rfl
@[simp] theorem tg150 : tagg Tryz.prog 150 = some true := by kernel_rfl
@[simp] theorem ts150 : tsize Tryz.prog 150 = some 2 := by kernel_rfl
@[simp] theorem tf150x0 : afield Tryz.prog 150 0 = some (0, 9) := by kernel_rfl
@[simp] theorem tf150x1 : afield Tryz.prog 150 1 = some (1, 148) := by kernel_rfl
@[simp] theorem tal150 (H : AHeap) : aAlloc Tryz.prog H 150 = some (.pointer (some ⟨H.length, 0, some 2⟩), H ++ [.cells [.string ⟨#[]⟩, .nilFunc] 150]) := by kernel_rfl
@[simp] theorem tbv150 (l : List (Nat × Value)) : buildV Tryz.prog 150 l = bldV #[.string ⟨#[]⟩, .nilFunc] [(0, 1), (1, 1)] l := by kernel_rfl
@[simp] theorem tg152 : tagg Tryz.prog 152 = some false := by kernel_rfl
@[simp] theorem ts152 : tsize Tryz.prog 152 = some 1 := by kernel_rfl
@[simp] theorem tu152 : Tryz.prog.underlying 152 = some (TypeDesc.func #[42] #[9] true) := by kernel_rfl
@[simp] theorem tg153 : tagg Tryz.prog 153 = some false := by kernel_rfl
@[simp] theorem ts153 : tsize Tryz.prog 153 = some 1 := by kernel_rfl
@[simp] theorem tu153 : Tryz.prog.underlying 153 = some (TypeDesc.func #[2, 3] #[9] false) := by kernel_rfl
@[simp] theorem tg154 : tagg Tryz.prog 154 = some false := by kernel_rfl
@[simp] theorem ts154 : tsize Tryz.prog 154 = some 1 := by kernel_rfl
@[simp] theorem tu154 : Tryz.prog.underlying 154 = some (TypeDesc.func #[9, 9] #[9] false) := by kernel_rfl
@[simp] theorem tg155 : tagg Tryz.prog 155 = some false := by kernel_rfl
@[simp] theorem ts155 : tsize Tryz.prog 155 = some 1 := by kernel_rfl
@[simp] theorem tm155 : mtype Tryz.prog 155 = some ((TypeDesc.int IntKind.u8), 3) := by kernel_rfl
@[simp] theorem tz155 : tzero Tryz.prog 3 = some (.int IntKind.i64 0) := by kernel_rfl
@[simp] theorem tu155 : Tryz.prog.underlying 155 = some (TypeDesc.map 5 3) := by kernel_rfl
@[simp] theorem tg156 : tagg Tryz.prog 156 = some false := by kernel_rfl
@[simp] theorem ts156 : tsize Tryz.prog 156 = some 1 := by kernel_rfl
@[simp] theorem tu156 : Tryz.prog.underlying 156 = some (TypeDesc.func #[35] #[4] false) := by kernel_rfl
@[simp] theorem tg157 : tagg Tryz.prog 157 = some false := by kernel_rfl
@[simp] theorem ts157 : tsize Tryz.prog 157 = some 1 := by kernel_rfl
@[simp] theorem tu157 : Tryz.prog.underlying 157 = some (TypeDesc.pointer 5) := by kernel_rfl
@[simp] theorem tg158 : tagg Tryz.prog 158 = some true := by kernel_rfl
@[simp] theorem ts158 : tsize Tryz.prog 158 = some 256 := by kernel_rfl
@[simp] theorem tu158 : Tryz.prog.underlying 158 = some (TypeDesc.array 256 50) := by kernel_rfl
@[simp] theorem tg163 : tagg Tryz.prog 163 = some false := by kernel_rfl
@[simp] theorem ts163 : tsize Tryz.prog 163 = some 1 := by kernel_rfl
@[simp] theorem tm163 : mtype Tryz.prog 163 = some (TypeDesc.string, 3) := by kernel_rfl
@[simp] theorem tz163 : tzero Tryz.prog 3 = some (.int IntKind.i64 0) := by kernel_rfl
@[simp] theorem tu163 : Tryz.prog.underlying 163 = some (TypeDesc.map 9 3) := by kernel_rfl
@[simp] theorem tg164 : tagg Tryz.prog 164 = some false := by kernel_rfl
@[simp] theorem ts164 : tsize Tryz.prog 164 = some 1 := by kernel_rfl
@[simp] theorem tu164 : Tryz.prog.underlying 164 = some (TypeDesc.func #[42] #[163] false) := by kernel_rfl
@[simp] theorem tg166 : tagg Tryz.prog 166 = some false := by kernel_rfl
@[simp] theorem ts166 : tsize Tryz.prog 166 = some 1 := by kernel_rfl
@[simp] theorem tu166 : Tryz.prog.underlying 166 = some (TypeDesc.func #[9] #[2, 24] false) := by kernel_rfl
@[simp] theorem tg167 : tagg Tryz.prog 167 = some false := by kernel_rfl
@[simp] theorem ts167 : tsize Tryz.prog 167 = some 1 := by kernel_rfl
@[simp] theorem tu167 : Tryz.prog.underlying 167 = some (TypeDesc.func #[9, 5] #[9] false) := by kernel_rfl
@[simp] theorem tg168 : tagg Tryz.prog 168 = some true := by kernel_rfl
@[simp] theorem ts168 : tsize Tryz.prog 168 = some 256 := by kernel_rfl
@[simp] theorem tu168 : Tryz.prog.underlying 168 = some (TypeDesc.array 256 4) := by kernel_rfl
@[simp] theorem tg169 : tagg Tryz.prog 169 = some true := by kernel_rfl
@[simp] theorem ts169 : tsize Tryz.prog 169 = some 256 := by kernel_rfl
@[simp] theorem tu169 : Tryz.prog.underlying 169 = some (TypeDesc.array 256 4) := by kernel_rfl
@[simp] theorem tg174 : tagg Tryz.prog 174 = some false := by kernel_rfl
@[simp] theorem ts174 : tsize Tryz.prog 174 = some 1 := by kernel_rfl
@[simp] theorem tu174 : Tryz.prog.underlying 174 = some TypeDesc.unsafePointer := by kernel_rfl
@[simp] theorem tg175 : tagg Tryz.prog 175 = some false := by kernel_rfl
@[simp] theorem ts175 : tsize Tryz.prog 175 = some 1 := by kernel_rfl
@[simp] theorem tu175 : Tryz.prog.underlying 175 = some (TypeDesc.func #[174] #[174] false) := by kernel_rfl
@[simp] theorem tg176 : tagg Tryz.prog 176 = some false := by kernel_rfl
@[simp] theorem ts176 : tsize Tryz.prog 176 = some 1 := by kernel_rfl
@[simp] theorem tu176 : Tryz.prog.underlying 176 = some (TypeDesc.func #[3] #[55] false) := by kernel_rfl
@[simp] theorem tg177 : tagg Tryz.prog 177 = some true := by kernel_rfl
@[simp] theorem ts177 : tsize Tryz.prog 177 = some 24 := by kernel_rfl
@[simp] theorem tal177 (H : AHeap) : aAlloc Tryz.prog H 177 = some (.pointer (some ⟨H.length, 0, some 24⟩), H ++ [.cells [.int IntKind.u8 0, .int IntKind.u8 0, .int IntKind.u8 0, .int IntKind.u8 0, .int IntKind.u8 0, .int IntKind.u8 0, .int IntKind.u8 0, .int IntKind.u8 0, .int IntKind.u8 0, .int IntKind.u8 0, .int IntKind.u8 0, .int IntKind.u8 0, .int IntKind.u8 0, .int IntKind.u8 0, .int IntKind.u8 0, .int IntKind.u8 0, .int IntKind.u8 0, .int IntKind.u8 0, .int IntKind.u8 0, .int IntKind.u8 0, .int IntKind.u8 0, .int IntKind.u8 0, .int IntKind.u8 0, .int IntKind.u8 0] 177]) := by kernel_rfl
@[simp] theorem tu177 : Tryz.prog.underlying 177 = some (TypeDesc.array 24 5) := by kernel_rfl
@[simp] theorem tg178 : tagg Tryz.prog 178 = some false := by kernel_rfl
@[simp] theorem ts178 : tsize Tryz.prog 178 = some 1 := by kernel_rfl
@[simp] theorem tu178 : Tryz.prog.underlying 178 = some (TypeDesc.int IntKind.u64) := by kernel_rfl
@[simp] theorem tg179 : tagg Tryz.prog 179 = some false := by kernel_rfl
@[simp] theorem ts179 : tsize Tryz.prog 179 = some 1 := by kernel_rfl
@[simp] theorem tu179 : Tryz.prog.underlying 179 = some (TypeDesc.func #[178] #[3] false) := by kernel_rfl
@[simp] theorem tg180 : tagg Tryz.prog 180 = some false := by kernel_rfl
@[simp] theorem ts180 : tsize Tryz.prog 180 = some 1 := by kernel_rfl
@[simp] theorem tu180 : Tryz.prog.underlying 180 = some (TypeDesc.func #[55, 178] #[] false) := by kernel_rfl
@[simp] theorem tg185 : tagg Tryz.prog 185 = some false := by kernel_rfl
@[simp] theorem ts185 : tsize Tryz.prog 185 = some 1 := by kernel_rfl
@[simp] theorem tu185 : Tryz.prog.underlying 185 = some (TypeDesc.func #[9] #[3] false) := by kernel_rfl
@[simp] theorem tg188 : tagg Tryz.prog 188 = some false := by kernel_rfl
@[simp] theorem ts188 : tsize Tryz.prog 188 = some 1 := by kernel_rfl
@[simp] theorem tu188 : Tryz.prog.underlying 188 = some (TypeDesc.func #[9, 9, 3, 3, 118] #[118] false) := by kernel_rfl
@[simp] theorem tg192 : tagg Tryz.prog 192 = some false := by kernel_rfl
@[simp] theorem ts192 : tsize Tryz.prog 192 = some 1 := by kernel_rfl
@[simp] theorem tu192 : Tryz.prog.underlying 192 = some (TypeDesc.func #[9] #[9, 9, 4] false) := by kernel_rfl
@[simp] theorem tg197 : tagg Tryz.prog 197 = some false := by kernel_rfl
@[simp] theorem ts197 : tsize Tryz.prog 197 = some 1 := by kernel_rfl
@[simp] theorem tu197 : Tryz.prog.underlying 197 = some (TypeDesc.func #[9, 100] #[4] false) := by kernel_rfl
@[simp] theorem tg200 : tagg Tryz.prog 200 = some true := by kernel_rfl
@[simp] theorem ts200 : tsize Tryz.prog 200 = some 20 := by kernel_rfl
@[simp] theorem tu200 : Tryz.prog.underlying 200 = some (TypeDesc.array 20 178) := by kernel_rfl
@[simp] theorem tg205 : tagg Tryz.prog 205 = some false := by kernel_rfl
@[simp] theorem ts205 : tsize Tryz.prog 205 = some 1 := by kernel_rfl
@[simp] theorem tu205 : Tryz.prog.underlying 205 = some (TypeDesc.int IntKind.i64) := by kernel_rfl
@[simp] theorem tg208 : tagg Tryz.prog 208 = some false := by kernel_rfl
@[simp] theorem ts208 : tsize Tryz.prog 208 = some 1 := by kernel_rfl
@[simp] theorem tu208 : Tryz.prog.underlying 208 = some (TypeDesc.pointer 218) := by kernel_rfl
@[simp] theorem tg218 : tagg Tryz.prog 218 = some true := by kernel_rfl
@[simp] theorem ts218 : tsize Tryz.prog 218 = some 3 := by kernel_rfl
@[simp] theorem tf218x0 : afield Tryz.prog 218 0 = some (0, 9) := by kernel_rfl
@[simp] theorem tf218x1 : afield Tryz.prog 218 1 = some (1, 9) := by kernel_rfl
@[simp] theorem tf218x2 : afield Tryz.prog 218 2 = some (2, 118) := by kernel_rfl
@[simp] theorem tal218 (H : AHeap) : aAlloc Tryz.prog H 218 = some (.pointer (some ⟨H.length, 0, some 3⟩), H ++ [.cells [.string ⟨#[]⟩, .string ⟨#[]⟩, .nilIface] 218]) := by kernel_rfl
@[simp] theorem tbv218 (l : List (Nat × Value)) : buildV Tryz.prog 218 l = bldV #[.string ⟨#[]⟩, .string ⟨#[]⟩, .nilIface] [(0, 1), (1, 1), (2, 1)] l := by kernel_rfl
@[simp] theorem tg237 : tagg Tryz.prog 237 = some true := by kernel_rfl
@[simp] theorem ts237 : tsize Tryz.prog 237 = some 4 := by kernel_rfl
@[simp] theorem tf237x0 : afield Tryz.prog 237 0 = some (0, 17) := by kernel_rfl
@[simp] theorem tf237x1 : afield Tryz.prog 237 1 = some (1, 17) := by kernel_rfl
@[simp] theorem tf237x2 : afield Tryz.prog 237 2 = some (2, 17) := by kernel_rfl
@[simp] theorem tf237x3 : afield Tryz.prog 237 3 = some (3, 9) := by kernel_rfl
@[simp] theorem tg238 : tagg Tryz.prog 238 = some true := by kernel_rfl
@[simp] theorem ts238 : tsize Tryz.prog 238 = some 0 := by kernel_rfl
@[simp] theorem tu238 : Tryz.prog.underlying 238 = some (TypeDesc.array 0 16) := by kernel_rfl
@[simp] theorem tg240 : tagg Tryz.prog 240 = some true := by kernel_rfl
@[simp] theorem ts240 : tsize Tryz.prog 240 = some 0 := by kernel_rfl
@[simp] theorem tf240x0 : afield Tryz.prog 240 0 = some (0, 238) := by kernel_rfl
@[simp] theorem tg241 : tagg Tryz.prog 241 = some false := by kernel_rfl
@[simp] theorem ts241 : tsize Tryz.prog 241 = some 1 := by kernel_rfl
@[simp] theorem tu241 : Tryz.prog.underlying 241 = some (TypeDesc.int IntKind.u8) := by kernel_rfl
@[simp] theorem tg242 : tagg Tryz.prog 242 = some false := by kernel_rfl
@[simp] theorem ts242 : tsize Tryz.prog 242 = some 1 := by kernel_rfl
@[simp] theorem tu242 : Tryz.prog.underlying 242 = some (TypeDesc.int IntKind.u8) := by kernel_rfl
@[simp] theorem tg243 : tagg Tryz.prog 243 = some false := by kernel_rfl
@[simp] theorem ts243 : tsize Tryz.prog 243 = some 1 := by kernel_rfl
@[simp] theorem tu243 : Tryz.prog.underlying 243 = some (TypeDesc.func #[174, 174] #[4] false) := by kernel_rfl
@[simp] theorem tg244 : tagg Tryz.prog 244 = some false := by kernel_rfl
@[simp] theorem ts244 : tsize Tryz.prog 244 = some 1 := by kernel_rfl
@[simp] theorem tu244 : Tryz.prog.underlying 244 = some (TypeDesc.int IntKind.i32) := by kernel_rfl
@[simp] theorem tg245 : tagg Tryz.prog 245 = some false := by kernel_rfl
@[simp] theorem ts245 : tsize Tryz.prog 245 = some 1 := by kernel_rfl
@[simp] theorem tu245 : Tryz.prog.underlying 245 = some (TypeDesc.int IntKind.i32) := by kernel_rfl
@[simp] theorem tg247 : tagg Tryz.prog 247 = some true := by kernel_rfl
@[simp] theorem ts247 : tsize Tryz.prog 247 = some 11 := by kernel_rfl
@[simp] theorem tf247x0 : afield Tryz.prog 247 0 = some (0, 12) := by kernel_rfl
@[simp] theorem tf247x1 : afield Tryz.prog 247 1 = some (1, 12) := by kernel_rfl
@[simp] theorem tf247x2 : afield Tryz.prog 247 2 = some (2, 50) := by kernel_rfl
@[simp] theorem tf247x3 : afield Tryz.prog 247 3 = some (3, 241) := by kernel_rfl
@[simp] theorem tf247x4 : afield Tryz.prog 247 4 = some (4, 5) := by kernel_rfl
@[simp] theorem tf247x5 : afield Tryz.prog 247 5 = some (5, 5) := by kernel_rfl
@[simp] theorem tf247x6 : afield Tryz.prog 247 6 = some (6, 242) := by kernel_rfl
@[simp] theorem tf247x7 : afield Tryz.prog 247 7 = some (7, 243) := by kernel_rfl
@[simp] theorem tf247x8 : afield Tryz.prog 247 8 = some (8, 157) := by kernel_rfl
@[simp] theorem tf247x9 : afield Tryz.prog 247 9 = some (9, 244) := by kernel_rfl
@[simp] theorem tf247x10 : afield Tryz.prog 247 10 = some (10, 245) := by kernel_rfl
end Go.Vi
namespace Go.Vi
open Go.RowKit
variable {P : Program}

def keepP (P : Program) (ops : Array Oper) (mask : Nat) (H : AHeap) : List (Nat × Oper × List Value × Value) → Prop
  | [] => True
  | (j, o, sl, v) :: r => if mask.testBit j = true then keepP P ops mask H r else gval P ops sl H o = some v ∧ keepP P ops mask H r
theorem keepP_get {ops mask H} : ∀ {ps : List (Nat × Oper × List Value × Value)}, keepP P ops mask H ps → ∀ {j o sl v}, (j, o, sl, v) ∈ ps → mask.testBit j = false → gval P ops sl H o = some v := by
  intro ps
  induction ps with
  | nil => intro _ j o sl v hm; cases hm
  | cons e r ih =>
    obtain ⟨j0, o0, sl0, v0⟩ := e
    intro h j o sl v hm hb
    unfold keepP at h
    rcases List.mem_cons.1 hm with he | hm
    · cases he
      rw [if_neg (by simp [hb])] at h
      exact h.1
    · split at h
      · exact ih h hm hb
      · exact ih h.2 hm hb
def kdrawK (P : Program) (ops : Array Oper) (k : List Value → AHeap → Prop) : List Oper → List DRow → Nat → List (Nat × Oper × List Value × Value) → List Value → AHeap → List AHeap → Prop
  | o :: os, r :: rs, p, ps, sl, H, hs =>
    if r.eff = true then ∃ v H', geff P ops sl H o v H' ∧ (r.bar = true ∨ (∃ X, H' = H ++ X) ∨ r.late = true ∧ keepP P ops r.mask H' ps) ∧ kdrawK P ops k os rs (p + 1) ps (aput sl o.dst v) H' (H :: hs)
    else match (H :: hs)[r.back]? with
      | some K => if freeOp o.op = true then ∃ v, gval P ops sl K o = some v ∧ kdrawK P ops k os rs (p + 1) ps (aput sl o.dst v) H hs
        else if pureOp P o.op = true then ∃ v, gval P ops sl K o = some v ∧ kdrawK P ops k os rs (p + 1) ((p, o, sl, v) :: ps) (aput sl o.dst v) H hs
        else False
      | none => False
  | [], _, _, _, sl, H, _ => k sl H
  | _, [], _, _, _, _, _ => False
theorem free_pure {o : Oper} (h : freeOp o.op = true) : pureOp P o.op = true := by
  unfold freeOp at h
  split at h <;> first | (rename_i e; rw [e]; rfl) | cases h
theorem kdrawK_trace {ops} {k : List Value → AHeap → Prop} : ∀ (os : List Oper) (rs : List DRow) (p0 : Nat) (ps : List (Nat × Oper × List Value × Value)) (sl : List Value) (H : AHeap) (hs : List AHeap) (f0 : Nat → List Value) (g0 : Nat → Value),
    kdrawK P ops k os rs p0 ps sl H hs →
    (∀ (j : Nat) (o : Oper), j < p0 → ops[j]? = some o → ¬ deff P ops j = true → ¬ freeOp o.op = true → (j, o, f0 j, g0 j) ∈ ps) →
    (∀ i, os[i]? = ops[p0 + i]?) → (∀ (i : Nat) (r : DRow), rs[i]? = some r → r.eff = true → deff P ops (p0 + i) = true) →
    ∃ (f : Nat → List Value) (g : Nat → Value) (G : Nat → AHeap) (c : Nat → Nat), (∀ j, j < p0 → f j = f0 j ∧ g j = g0 j) ∧ f p0 = sl ∧ c p0 = hs.length ∧ (∀ i X, (H :: hs)[i]? = some X → G (hs.length - i) = X) ∧
      k (f (p0 + os.length)) (G (c (p0 + os.length))) ∧ ∀ p o r, os[p]? = some o → rs[p]? = some r → RStepK P ops f g G c (p0 + p) o r := by
  intro os
  induction os with
  | nil =>
    intro rs p0 ps sl H hs f0 g0 h _ _ _
    simp only [kdrawK] at h
    have hk : ∀ i X, (H :: hs)[i]? = some X → (fun i => ((H :: hs)[hs.length - i]?).getD []) (hs.length - i) = X := by
      intro i X hX
      have := (List.getElem?_eq_some_iff.1 hX).1
      simp only [List.length_cons] at this
      have e : hs.length - (hs.length - i) = i := by omega
      show ((H :: hs)[hs.length - (hs.length - i)]?).getD [] = X
      rw [e, hX]; rfl
    refine ⟨fun j => if j < p0 then f0 j else sl, g0, fun i => ((H :: hs)[hs.length - i]?).getD [], fun _ => hs.length, fun j hj => ⟨by simp [hj], rfl⟩, by simp, rfl, hk, by simpa using h, by simp⟩
  | cons o os ih =>
    intro rs p0 ps sl H hs f0 g0 h hps hos hrs
    cases rs with
    | nil => simp [kdrawK] at h
    | cons r rs =>
      have ho0 : ops[p0]? = some o := by have := hos 0; simpa using this.symm
      have hos' : ∀ i, os[i]? = ops[p0 + 1 + i]? := fun i => by have := hos (i + 1); simp only [List.getElem?_cons_succ] at this; rw [this]; congr 1; omega
      have hrs' : ∀ (i : Nat) (r : DRow), rs[i]? = some r → r.eff = true → deff P ops (p0 + 1 + i) = true := fun i r hr he => by
        have := hrs (i + 1) r (by simpa using hr) he
        rwa [show p0 + (i + 1) = p0 + 1 + i by omega] at this
      simp only [kdrawK] at h
      split at h
      · rename_i he
        obtain ⟨v, H2, hg, hb, h⟩ := h
        obtain ⟨f, g, G, c, hfg, fp, cp, hG, fe, st⟩ := ih rs (p0 + 1) ps _ _ _ (fun j => if j < p0 then f0 j else sl) (fun j => if j < p0 then g0 j else v) h
          (fun j oj hj hoj hd hf => by
            have hne : j ≠ p0 := fun e => hd (by rw [e]; exact hrs 0 r rfl he)
            have hlt : j < p0 := by omega
            simp only [if_pos hlt]; exact hps j oj hlt hoj hd hf) hos' hrs'
        have hGH : G hs.length = H := by have := hG 1 H rfl; simpa using this
        have hGH2 : G (hs.length + 1) = H2 := by have := hG 0 H2 rfl; simpa using this
        have hf0 : f p0 = sl := by rw [(hfg p0 (by omega)).1]; simp
        have hg0 : g p0 = v := by rw [(hfg p0 (by omega)).2]; simp
        refine ⟨f, g, G, fun p => if p = p0 then hs.length else c p, fun j hj => ?_, hf0, by simp, fun i X hX => ?_, ?_, fun p o' r' ho hr => ?_⟩
        · have := hfg j (by omega); simpa [hj] using this
        · have := hG (i + 1) X (by simpa using hX)
          simpa using this
        · have e1 : ¬ p0 + (os.length + 1) = p0 := by omega
          simp only [List.length_cons, e1, if_false]
          rw [show p0 + (os.length + 1) = p0 + 1 + os.length by omega]; exact fe
        · cases p with
          | zero =>
            simp at ho hr; subst ho hr
            have e1 : ¬ p0 + 1 = p0 := by omega
            show RStepK P ops f g G _ p0 o r
            refine ⟨by rw [fp, hf0, hg0], fun _ => ⟨by simp [cp], ?_, ?_⟩, fun q => by rw [he] at q; cases q⟩
            · simp only [eq_self, if_true]; rw [hGH, hGH2, hf0, hg0]; exact geff_step hg
            · simp only [eq_self, if_true]; rw [hGH, hGH2]
              refine hb.imp id (Or.imp id fun q => ⟨q.1, fun j o' hj hoj hd hf hm => ?_⟩)
              have hin := hps j o' hj hoj hd hf
              have h1 := hfg j (by omega)
              simp only [if_pos hj] at h1
              rw [h1.1, h1.2]
              have hpure : pureOp P o'.op = true := by
                unfold deff at hd
                simpa [hoj] using hd
              exact gval_step hpure (keepP_get q.2 hin hm)
          | succ p =>
            have k := st p o' r' (by simpa using ho) (by simpa using hr)
            have e0 : p0 + 1 + p = p0 + (p + 1) := by omega
            rw [e0] at k
            have e1 : ¬ p0 + (p + 1) = p0 := by omega
            have e2 : ¬ p0 + (p + 1) + 1 = p0 := by omega
            exact ⟨k.put, fun q => by simp only [e1, e2, if_false]; exact k.eff q, fun q => by simp only [e1, e2, if_false]; exact k.pur q⟩
      · rename_i he
        obtain ⟨K, hk, hp, v, ps', hg, hps', h⟩ : ∃ K, (H :: hs)[r.back]? = some K ∧ pureOp P o.op = true ∧ ∃ v ps', gval P ops sl K o = some v ∧ (freeOp o.op = true ∧ ps' = ps ∨ ps' = (p0, o, sl, v) :: ps) ∧ kdrawK P ops k os rs (p0 + 1) ps' (aput sl o.dst v) H hs := by
          split at h
          · rename_i K hK
            split at h
            · rename_i hp
              obtain ⟨v, hv, h⟩ := h
              exact ⟨K, hK, free_pure hp, v, ps, hv, .inl ⟨hp, rfl⟩, h⟩
            · split at h
              · rename_i hp; obtain ⟨v, hv, h⟩ := h; exact ⟨K, hK, hp, v, _, hv, .inr rfl, h⟩
              · cases h
          · cases h
        obtain ⟨f, g, G, c, hfg, fp, cp, hG, fe, st⟩ := ih rs (p0 + 1) ps' _ _ _ (fun j => if j < p0 then f0 j else sl) (fun j => if j < p0 then g0 j else v) h
          (fun j oj hj hoj hd hf => by
            by_cases hlt : j < p0
            · simp only [if_pos hlt]
              have := hps j oj hlt hoj hd hf
              rcases hps' with ⟨_, e⟩ | e
              · rw [e]; exact this
              · rw [e]; exact List.mem_cons_of_mem _ this
            · have hje : j = p0 := by omega
              subst hje
              rw [ho0] at hoj; cases hoj
              simp only [Nat.lt_irrefl, if_false]
              rcases hps' with ⟨q, _⟩ | e
              · exact absurd q hf
              · rw [e]; exact List.mem_cons_self ..) hos' hrs'
        have hf0 : f p0 = sl := by rw [(hfg p0 (by omega)).1]; simp
        have hg0 : g p0 = v := by rw [(hfg p0 (by omega)).2]; simp
        refine ⟨f, g, G, fun p => if p = p0 then hs.length else c p, fun j hj => ?_, hf0, by simp, hG, ?_, fun p o' r' ho hr => ?_⟩
        · have := hfg j (by omega); simpa [hj] using this
        · have e1 : ¬ p0 + (os.length + 1) = p0 := by omega
          simp only [List.length_cons, e1, if_false]
          rw [show p0 + (os.length + 1) = p0 + 1 + os.length by omega]; exact fe
        cases p with
        | zero =>
          simp at ho hr; subst ho hr
          have e1 : ¬ p0 + 1 = p0 := by omega
          have hbk := (List.getElem?_eq_some_iff.1 hk).1
          simp only [List.length_cons] at hbk
          show RStepK P ops f g G _ p0 o r
          refine ⟨by rw [fp, hf0, hg0], fun q => absurd q he, fun _ => ⟨by simp [cp], ?_, ?_⟩⟩
          · simp only [eq_self, if_true]; omega
          · simp only [eq_self, if_true]; rw [hG _ _ hk, hf0, hg0]; exact gval_step hp hg
        | succ p =>
          have k := st p o' r' (by simpa using ho) (by simpa using hr)
          have e0 : p0 + 1 + p = p0 + (p + 1) := by omega
          rw [e0] at k
          have e1 : ¬ p0 + (p + 1) = p0 := by omega
          have e2 : ¬ p0 + (p + 1) + 1 = p0 := by omega
          exact ⟨k.put, fun q => by simp only [e1, e2, if_false]; exact k.eff q, fun q => by simp only [e1, e2, if_false]; exact k.pur q⟩

theorem kdrawK_any [Ctx] {w0 s H w sl a ops rs k Q} (hw : WRel w0 s H w) (ha : ARel s H sl a) (hr : drows P ops = some rs) (h : kdrawK P ops k ops.toList rs 0 [] sl H [])
    (hq : ∀ sl' H', k sl' H' → APost w0 s H Q .normal (sl', H')) : wpAnyIn FF 0 P .any ops Q ops.size (Array.replicate ops.size false) a { w with drawn := w.drawn + 1 } := by
  obtain ⟨T, hok, rfl⟩ := drows_inv hr
  clear hr
  have hs : Sound P ops T := ⟨hok⟩
  have row : ∀ p, p < ops.size → ((List.range ops.size).map (T.row P ops))[p]? = some (T.row P ops p) := by
    intro p hp; simp [hp]
  obtain ⟨f, g, G, c, _, f0, c0, hG, fe, st⟩ := kdrawK_trace _ _ 0 [] _ _ _ (fun _ => sl) (fun _ => undef) h (fun j _ hj => absurd hj (by omega)) (fun i => by simp) (fun i r hr he => by
    have hi : i < ops.size := by have := (List.getElem?_eq_some_iff.1 hr).1; simpa using this
    rw [row i hi] at hr
    cases hr
    rw [Nat.zero_add]
    cases hd : deff P ops i with
    | true => rfl
    | false => simp [DTab.row, hd] at he)
  simp only [Nat.zero_add] at fe st
  have hc : ∀ p, p ≤ ops.size → c p = T.idx.getD p 0 := by
    intro p
    induction p with
    | zero => intro _; rw [c0, hs.ends.1]; rfl
    | succ p ih =>
      intro hp
      have ho : ops[p]? = some ops[p] := Array.getElem?_eq_getElem (by omega)
      have k := st p ops[p] _ (by simp) (row p (by omega))
      by_cases he : deff P ops p = true
      · have := (k.eff (by simp [DTab.row, he])).1
        rw [this, ih (by omega), (hs.effAt ho he).2.1]
      · have := (k.pur (by simp [DTab.row, he])).1
        rw [this, ih (by omega), (hs.pureAt ho he).1]
  have hd : RRun P ops T f g G := by
    refine ⟨hs, fun p o ho => ?_⟩
    have hp := (Array.getElem?_eq_some_iff.1 ho).1
    have k := st p o _ (by simpa using ho) (row p hp)
    refine ⟨k.put, fun q => ?_, fun q => ?_⟩
    · have := k.eff q
      rw [hc p (by omega), hc (p + 1) (by omega)] at this
      exact this
    · have := k.pur q
      rw [hc p (by omega), hc (p + 1) (by omega)] at this
      exact this
  have g0 : G 0 = H := by simpa using hG 0 H rfl
  have he : c ops.toList.length = T.effs.length := by simp only [Array.length_toList]; rw [hc ops.size (Nat.le_refl _), hs.ends.2.1]
  rw [he] at fe
  simp only [Array.length_toList] at fe
  refine hd.wp (H0 := H) (s0 := s) ops.size (l := Array.replicate ops.size false) (sl := f 0) (k := 0) ?_ (by simp) (by rw [g0]; exact hw.drew) (by rw [g0, f0]; exact ha) (by rw [g0]; exact Ext.refl _ _) (fun s' a' w' g1 g2 g3 => hq _ _ fe s' a' w' g1 g2 g3)
  have nol : ∀ i, ¬ isListed (Array.replicate ops.size false) i := by
    intro i
    unfold isListed
    simp [Array.getD]
  exact ⟨by simp, fun j o _ h => absurd h (nol j), rfl, fun t _ => rfl, fun i o t _ h => absurd h (nol i), fun i q _ => ⟨fun h => absurd h (nol q), fun h => by omega⟩, by omega⟩
def drawKeep (P : Program) : DrawK := fun ops k sl H => match drows P ops with
  | some rs => kdrawK P ops k ops.toList rs 0 [] sl H []
  | none => False
theorem drawKeep_sound [Ctx] (hm : P.follows .mixedOrders = true) : SoundK P (drawKeep P) := by
  intro w0 s H w sl a id ops k Q hw ha h hq
  unfold drawKeep at h
  split at h
  · rename_i rs hr; exact wpIn_region_any hm (kdrawK_any hw ha hr h hq)
  · cases h
def drawPairK (P : Program) : DrawK := fun ops k sl H => match pairOf ops with
  | some i => drawKeep P (addEdge ops i (i + 1)) k sl H ∧ drawKeep P (addEdge (swapOps ops i (i + 1)) i (i + 1)) k sl H
  | none => drawKeep P ops k sl H
theorem drawPairK_sound [Ctx] (hm : P.follows .mixedOrders = true) : SoundK P (drawPairK P) := by
  intro w0 s H w sl a id ops k Q hw ha h hq
  unfold drawPairK at h
  split at h
  · rename_i i hp
    have hp' := List.find?_some hp
    simp only [Bool.and_eq_true, Option.any_eq_true] at hp'
    obtain ⟨⟨o1, ho1, _⟩, o2, ho2, _⟩ := hp'
    have hi := (Array.getElem?_eq_some_iff.1 ho1).1
    have hj := (Array.getElem?_eq_some_iff.1 ho2).1
    have any : ∀ ops' : Array Oper, ops'.size = ops.size → drawKeep P ops' k sl H → wpAnyIn FF 0 P .any ops' Q ops.size (Array.replicate ops.size false) a { w with drawn := w.drawn + 1 } := by
      intro ops' hs hd
      unfold drawKeep at hd
      split at hd
      · rename_i rs hr
        have := kdrawK_any hw ha hr hd hq
        rwa [hs] at this
      · cases hd
    refine wp_region_valid hm fun L hv => ?_
    rcases first_of i (i + 1) L with hf | hf
    · have := wpOps_of_any L (addEdge_valid (by omega) L hv fun hm => .inr (hf hm)) (any (addEdge ops i (i + 1)) (by simp [addEdge]) h.1)
      have q := ((addEdge_alike ops i (i + 1)).ops (P := P) (Q := Q) L (a := a) (w := { w with drawn := w.drawn + 1 })).1
      rw [List.map_id] at q
      exact q this
    · have sh : Shadow ops.size i (i + 1) (Array.replicate ops.size false) (Array.replicate ops.size false) := by
        refine ⟨by simp, by simp, fun x => ?_⟩
        simp [Array.getD]
      have hv2 := sh.valid hi hj L hv
      have hv3 := addEdge_valid (i := i) (j := i + 1) (by omega) _ hv2 fun hm => by
        obtain ⟨y, hy, he⟩ := List.mem_map.1 hm
        have hyi : y = i := by
          have := swapAt_inj (i := i) (j := i + 1) (x := y) (y := i) (by rw [he]; simp [swapAt])
          exact this
        subst hyi
        obtain ⟨r, s, h1, h2⟩ := hf hy
        refine .inr ⟨r.map (swapAt y (y + 1)), s.map (swapAt y (y + 1)), by rw [h1]; simp [swapAt], fun hq => ?_⟩
        obtain ⟨z, hz, hez⟩ := List.mem_map.1 hq
        have : z = y := swapAt_inj (i := y) (j := y + 1) (by rw [hez]; simp [swapAt])
        exact h2 (this ▸ hz)
      have := wpOps_of_any _ hv3 (any _ (by simp [addEdge, swapOps_size]) h.2)
      have q := ((addEdge_alike (swapOps ops i (i + 1)) i (i + 1)).ops (P := P) (Q := Q) (L.map (swapAt i (i + 1))) (a := a) (w := { w with drawn := w.drawn + 1 })).1
      rw [List.map_id] at q
      exact ((swapOps_alike hi hj).ops L).1 (q this)
  · exact drawKeep_sound hm hw ha h hq
inductive Plan where
  | std
  | swap (i j : Nat) (p : Plan)
  | split (i j : Nat) (p q : Plan)
def Plan.ok (n : Nat) : Plan → Bool
  | .std => true
  | .swap i j p => decide (i < n) && decide (j < n) && p.ok n
  | .split i j p q => decide (i ≠ j) && p.ok n && q.ok n
theorem kdrawK_mono {ops} {k k' : List Value → AHeap → Prop} (hk : ∀ sl H, k sl H → k' sl H) : ∀ (os : List Oper) (rs : List DRow) {p ps sl H hs}, kdrawK P ops k os rs p ps sl H hs → kdrawK P ops k' os rs p ps sl H hs := by
  intro os
  induction os with
  | nil => intro rs p ps sl H hs h; simp only [kdrawK] at h ⊢; exact hk _ _ h
  | cons o os ih =>
    intro rs p ps sl H hs h
    cases rs with
    | nil => simp [kdrawK] at h
    | cons r rs =>
      simp only [kdrawK] at h ⊢
      split at h
      · rename_i he
        obtain ⟨v, H2, hg, hb, h⟩ := h
        rw [if_pos he]; exact ⟨v, H2, hg, hb, ih rs h⟩
      · rename_i he
        rw [if_neg he]
        split at h
        · rename_i K hK
          split at h
          · rename_i hp
            obtain ⟨v, hv, h⟩ := h
            rw [if_pos hp]; exact ⟨v, hv, ih rs h⟩
          · rename_i hp
            rw [if_neg hp]
            split at h
            · rename_i hq
              obtain ⟨v, hv, h⟩ := h
              rw [if_pos hq]; exact ⟨v, hv, ih rs h⟩
            · cases h
        · cases h
theorem kdrawK_one {ops} {k : List Value → AHeap → Prop} : ∀ (os : List Oper) (rs : List DRow) {p ps sl H hs}, kdrawK P ops k os rs p ps sl H hs → ∃ sl' H', k sl' H' ∧ kdrawK P ops (fun s2 h2 => s2 = sl' ∧ h2 = H') os rs p ps sl H hs := by
  intro os
  induction os with
  | nil => intro rs p ps sl H hs h; simp only [kdrawK] at h; exact ⟨sl, H, h, by simp only [kdrawK]; trivial⟩
  | cons o os ih =>
    intro rs p ps sl H hs h
    cases rs with
    | nil => simp [kdrawK] at h
    | cons r rs =>
      simp only [kdrawK] at h
      split at h
      · rename_i he
        obtain ⟨v, H2, hg, hb, h⟩ := h
        obtain ⟨a, b, h1, h2⟩ := ih rs h
        refine ⟨a, b, h1, ?_⟩
        simp only [kdrawK, if_pos he]; exact ⟨v, H2, hg, hb, h2⟩
      · rename_i he
        split at h
        · rename_i K hK
          split at h
          · rename_i hp
            obtain ⟨v, hv, h⟩ := h
            obtain ⟨a, b, h1, h2⟩ := ih rs h
            refine ⟨a, b, h1, ?_⟩
            simp only [kdrawK, if_neg he, hK, if_pos hp]; exact ⟨v, hv, h2⟩
          · rename_i hp
            split at h
            · rename_i hq
              obtain ⟨v, hv, h⟩ := h
              obtain ⟨a, b, h1, h2⟩ := ih rs h
              refine ⟨a, b, h1, ?_⟩
              simp only [kdrawK, if_neg he, hK, if_neg hp, if_pos hq]; exact ⟨v, hv, h2⟩
            · cases h
        · cases h
class QK where
  f : Value → AHeap → Prop
def bndK (b l : Bool) (H : AHeap) [e : QH] [s : QK] [q : QH] : Prop := ∃ v H', e.f v H' ∧ (b = true ∨ (∃ X, H' = H ++ X) ∨ l = true ∧ s.f v H') ∧ q.f v H'
theorem bndK_of {b : Bool} {H : AHeap} {e q : QH} {s : QK} {v : Value} {H' : AHeap} (h : e.f v H') (hs : s.f v H') (k : q.f v H') : @bndK b true H e s q := ⟨v, H', h, .inr (.inr ⟨rfl, hs⟩), k⟩
theorem bndK_ext {b l : Bool} {H : AHeap} {e q : QH} {s : QK} {v : Value} {H' : AHeap} (h : e.f v H') (hs : ∃ X, H' = H ++ X) (k : q.f v H') : @bndK b l H e s q := ⟨v, H', h, .inr (.inl hs), k⟩
theorem bndK_bar {l : Bool} {H : AHeap} {e q : QH} {s : QK} {v : Value} {H' : AHeap} (h : e.f v H') (k : q.f v H') : @bndK true l H e s q := ⟨v, H', h, .inl rfl, k⟩
end Go.Vi
namespace Go.Vi
open Go
def smS : ByteArray := ⟨#[48, 48, 48, 49, 48, 50, 48, 51, 48, 52, 48, 53, 48, 54, 48, 55, 48, 56, 48, 57, 49, 48, 49, 49, 49, 50, 49, 51, 49, 52, 49, 53, 49, 54, 49, 55, 49, 56, 49, 57, 50, 48, 50, 49, 50, 50, 50, 51, 50, 52, 50, 53, 50, 54, 50, 55, 50, 56, 50, 57, 51, 48, 51, 49, 51, 50, 51, 51, 51, 52, 51, 53, 51, 54, 51, 55, 51, 56, 51, 57, 52, 48, 52, 49, 52, 50, 52, 51, 52, 52, 52, 53, 52, 54, 52, 55, 52, 56, 52, 57, 53, 48, 53, 49, 53, 50, 53, 51, 53, 52, 53, 53, 53, 54, 53, 55, 53, 56, 53, 57, 54, 48, 54, 49, 54, 50, 54, 51, 54, 52, 54, 53, 54, 54, 54, 55, 54, 56, 54, 57, 55, 48, 55, 49, 55, 50, 55, 51, 55, 52, 55, 53, 55, 54, 55, 55, 55, 56, 55, 57, 56, 48, 56, 49, 56, 50, 56, 51, 56, 52, 56, 53, 56, 54, 56, 55, 56, 56, 56, 57, 57, 48, 57, 49, 57, 50, 57, 51, 57, 52, 57, 53, 57, 54, 57, 55, 57, 56, 57, 57]⟩
def dgS : ByteArray := ⟨#[48, 49, 50, 51, 52, 53, 54, 55, 56, 57, 97, 98, 99, 100, 101, 102, 103, 104, 105, 106, 107, 108, 109, 110, 111, 112, 113, 114, 115, 116, 117, 118, 119, 120, 121, 122]⟩
def l8S : ByteArray := ⟨#[0, 1, 2, 2, 3, 3, 3, 3, 4, 4, 4, 4, 4, 4, 4, 4, 5, 5, 5, 5, 5, 5, 5, 5, 5, 5, 5, 5, 5, 5, 5, 5, 6, 6, 6, 6, 6, 6, 6, 6, 6, 6, 6, 6, 6, 6, 6, 6, 6, 6, 6, 6, 6, 6, 6, 6, 6, 6, 6, 6, 6, 6, 6, 6, 7, 7, 7, 7, 7, 7, 7, 7, 7, 7, 7, 7, 7, 7, 7, 7, 7, 7, 7, 7, 7, 7, 7, 7, 7, 7, 7, 7, 7, 7, 7, 7, 7, 7, 7, 7, 7, 7, 7, 7, 7, 7, 7, 7, 7, 7, 7, 7, 7, 7, 7, 7, 7, 7, 7, 7, 7, 7, 7, 7, 7, 7, 7, 7, 8, 8, 8, 8, 8, 8, 8, 8, 8, 8, 8, 8, 8, 8, 8, 8, 8, 8, 8, 8, 8, 8, 8, 8, 8, 8, 8, 8, 8, 8, 8, 8, 8, 8, 8, 8, 8, 8, 8, 8, 8, 8, 8, 8, 8, 8, 8, 8, 8, 8, 8, 8, 8, 8, 8, 8, 8, 8, 8, 8, 8, 8, 8, 8, 8, 8, 8, 8, 8, 8, 8, 8, 8, 8, 8, 8, 8, 8, 8, 8, 8, 8, 8, 8, 8, 8, 8, 8, 8, 8, 8, 8, 8, 8, 8, 8, 8, 8, 8, 8, 8, 8, 8, 8, 8, 8, 8, 8, 8, 8, 8, 8, 8, 8, 8, 8, 8, 8, 8, 8, 8, 8, 8, 8, 8, 8, 8, 8]⟩
end Go.Vi
namespace Go.Vi
open Go Go.Proofs
-- tocsin/tocsinlaw10.ExprWhole
theorem d3 (a0 : Value) (H : AHeap) (k : Value → AHeap → Prop) : kbody Tryz.prog Tryz.f3 [a0] H k = (@bndC Tryz.prog 15 [] H ⟨fun v11x1 H2 => @bnd (unV Tryz.prog .not v11x1) ⟨fun v12x3 => @kifB v12x3 ⟨k (.bool false) H2⟩ ⟨@bnd
  (aLen Tryz.prog H2 9 a0) ⟨fun v14x4 => @bnd (aBin2 Tryz.prog H2 .gtr 3 (.tmp 14) (.const (.int .i64 4000)) v14x4 (.int .i64 4000)) ⟨fun v15x5 => @kifB v15x5 ⟨k (.bool true) H2⟩ ⟨@bndC Tryz.prog 16 [a0] H2 ⟨fun v18x6 H7 => @bnd
  (tupV v18x6 0) ⟨fun v19x8 => @bnd (tupV v18x6 1) ⟨fun _ => @bnd (tupV v18x6 2) ⟨fun v21x10 => @bndC Tryz.prog 17 [a0] H7 ⟨fun v24x11 H12 => @bnd (tupV v24x11 0) ⟨fun v25x13 => @bnd (tupV v24x11 1) ⟨fun v26x14 => @bnd (aBin2
  Tryz.prog H12 .neq 24 (.tmp 27) (.const (.int .i64 0)) v21x10 (.int .i64 0)) ⟨fun v28x15 => @kifB v28x15 ⟨@bnd (aBin2 Tryz.prog H12 .eql 24 (.tmp 29) (.tmp 30) v26x14 v21x10) ⟨fun v31x16 => @bnd (gif v31x16 true ((some v25x13))
  undef) ⟨fun v33x17 => @bnd (gif v31x16 true (aLen Tryz.prog H12 27 v33x17) undef) ⟨fun v34x18 => @bnd (gif v31x16 true (aBin2 Tryz.prog H12 .eql 3 (.tmp 34) (.const (.int .i64 0)) v34x18 (.int .i64 0)) undef) ⟨fun v35x19 =>
  @bnd (pickV v31x16 v35x19 (.bool false)) ⟨fun v36x20 => k v36x20 H12⟩⟩⟩⟩⟩⟩ ⟨@bndC Tryz.prog 18 [v19x8, (.int .i64 0)] H12 ⟨fun v39x21 H22 => @bnd (tupV v39x21 0) ⟨fun v40x23 => @bnd (tupV v39x21 1) ⟨fun v41x24 => @bnd (tupV
  v39x21 2) ⟨fun v42x25 => @bnd (aBin2 Tryz.prog H22 .eql 24 (.tmp 43) (.const (.int .i64 0)) v26x14 (.int .i64 0)) ⟨fun v44x26 => @kifB v44x26 ⟨@bnd (aBin2 Tryz.prog H22 .eql 24 (.tmp 45) (.const (.int .i64 0)) v42x25 (.int .i64
  0)) ⟨fun v46x27 => @bnd (gif v46x27 true ((some v41x24)) undef) ⟨fun v48x28 => @bnd (gif v46x27 true ((some v19x8)) undef) ⟨fun v49x29 => @bnd (gif v46x27 true (aLen Tryz.prog H22 23 v49x29) undef) ⟨fun v50x30 => @bnd (gif
  v46x27 true (aBin2 Tryz.prog H22 .eql 3 (.tmp 48) (.tmp 50) v48x28 v50x30) undef) ⟨fun v51x31 => @bnd (pickV v46x27 v51x31 (.bool false)) ⟨fun v52x32 => @bnd (gif v52x32 true ((some v25x13)) undef) ⟨fun v54x33 => @bnd (gif
  v52x32 true ((some v40x23)) undef) ⟨fun v55x34 => @bndG v52x32 true H22 ⟨fun v56x35 H36 => ACalls Tryz.prog 19 [v54x33, v55x34] H22 v56x35 H36⟩ ⟨fun v56x35 H36 => @bnd (pickV v52x32 v56x35 (.bool false)) ⟨fun v57x37 => k v57x37
  H36⟩⟩⟩⟩⟩⟩⟩⟩⟩⟩⟩ ⟨@bnd (aBin2 Tryz.prog H22 .neq 24 (.tmp 58) (.const (.int .i64 0)) v42x25 (.int .i64 0)) ⟨fun v59x38 => @bnd (gif v59x38 false ((some v41x24)) undef) ⟨fun v61x39 => @bnd (gif v59x38 false ((some v19x8)) undef)
  ⟨fun v62x40 => @bnd (gif v59x38 false (aLen Tryz.prog H22 23 v62x40) undef) ⟨fun v63x41 => @bnd (gif v59x38 false (aBin2 Tryz.prog H22 .lss 3 (.tmp 61) (.tmp 63) v61x39 v63x41) undef) ⟨fun v64x42 => @bnd (pickV v59x38 (.bool
  true) v64x42) ⟨fun v65x43 => k v65x43 H22⟩⟩⟩⟩⟩⟩⟩⟩⟩⟩⟩⟩⟩⟩⟩⟩⟩⟩⟩⟩⟩⟩⟩⟩⟩⟩⟩) := by kernel_rfl
-- tocsin/tocsinlaw10.ExprRound
def L4x0 (n : Nat) (k : Value → AHeap → Prop) (sl : List Value) (H : AHeap) : Prop := kit Tryz.prog (cl (cl (cr (cl (cr (cr (cr (cr (cr (cr (cb Tryz.f4))))))))))) n (kblk 0 (kseq Tryz.prog (cr (cr (cr (cr (cr (cr (cr (cb
  Tryz.f4)))))))) (kfin Tryz.prog Tryz.f4 k))) .normal sl H
theorem d4 (a0 a1 : Value) (H : AHeap) (k : Value → AHeap → Prop) : kbody Tryz.prog Tryz.f4 [a0, a1] H k = (@bndC Tryz.prog 15 [] H ⟨fun v12x1 H2 => @bnd (unV Tryz.prog .not v12x1) ⟨fun v13x3 => @kifB v13x3 ⟨k (.bool false) H2⟩
  ⟨@bnd (aLen Tryz.prog H2 9 a0) ⟨fun v15x4 => @bnd (aBin2 Tryz.prog H2 .gtr 3 (.tmp 15) (.const (.int .i64 1500)) v15x4 (.int .i64 1500)) ⟨fun v16x5 => @bnd (gif v16x5 false ((some a1)) undef) ⟨fun v18x6 => @bnd (gif v16x5 false
  (aBin2 Tryz.prog H2 .lss 3 (.tmp 18) (.const (.int .i64 0)) v18x6 (.int .i64 0)) undef) ⟨fun v19x7 => @bnd (pickV v16x5 (.bool true) v19x7) ⟨fun v20x8 => @bnd (gif v20x8 false ((some a1)) undef) ⟨fun v22x9 => @bnd (gif v20x8
  false (aBin2 Tryz.prog H2 .gtr 3 (.tmp 22) (.const (.int .i64 1000)) v22x9 (.int .i64 1000)) undef) ⟨fun v23x10 => @bnd (pickV v20x8 (.bool true) v23x10) ⟨fun v24x11 => @kifB v24x11 ⟨k (.bool true) H2⟩ ⟨@bndC Tryz.prog 17 [a0]
  H2 ⟨fun v27x12 H13 => @bnd (tupV v27x12 0) ⟨fun v28x14 => @bnd (tupV v27x12 1) ⟨fun v29x15 => @bnd (aBin2 Tryz.prog H13 .neq 24 (.tmp 30) (.const (.int .i64 0)) v29x15 (.int .i64 0)) ⟨fun v31x16 => @kifB v31x16 ⟨k (.bool true)
  H13⟩ ⟨∃ n, L4x0 n  k [a0, a1, undef, undef, (.bool false), v28x14, v29x15, (.string { data := #[] }), (.string { data := #[] }), (.int .i64 0), undef, undef, v12x1, v13x3, a0, v15x4, v16x5, v16x5, v18x6, v19x7, v20x8, v20x8,
  v22x9, v23x10, v24x11, v27x12, a0, v27x12, v28x14, v29x15, v29x15, v31x16, undef, undef, undef, undef, undef, undef, undef, undef, undef, undef, undef, undef, undef, undef, undef, undef, undef, undef, undef, undef, undef,
  undef, undef, undef, undef, undef] H13⟩⟩⟩⟩⟩⟩⟩⟩⟩⟩⟩⟩⟩⟩⟩⟩⟩) := by kernel_rfl
def S5x0 (k : Value → AHeap → Prop) (sl : List Value) (H : AHeap) : Prop := kseq Tryz.prog (cr (cr (cr (cr (cr (cr (cr (cr (cb Tryz.f5))))))))) (kfin Tryz.prog Tryz.f5 k) .normal sl H
theorem d5 (a0 a1 a2 : Value) (H : AHeap) (k : Value → AHeap → Prop) : kbody Tryz.prog Tryz.f5 [a0, a1, a2] H k = (@bndC Tryz.prog 15 [] H ⟨fun v20x1 H2 => @bnd (unV Tryz.prog .not v20x1) ⟨fun v21x3 => @kifB v21x3 ⟨k (.bool
  false) H2⟩ ⟨@bnd (aLen Tryz.prog H2 9 a0) ⟨fun v23x4 => @bnd (aBin2 Tryz.prog H2 .gtr 3 (.tmp 23) (.const (.int .i64 1500)) v23x4 (.int .i64 1500)) ⟨fun v24x5 => @bnd (gif v24x5 false ((some a1)) undef) ⟨fun v26x6 => @bnd (gif
  v24x5 false (aLen Tryz.prog H2 9 v26x6) undef) ⟨fun v27x7 => @bnd (gif v24x5 false (aBin2 Tryz.prog H2 .gtr 3 (.tmp 27) (.const (.int .i64 1500)) v27x7 (.int .i64 1500)) undef) ⟨fun v28x8 => @bnd (pickV v24x5 (.bool true)
  v28x8) ⟨fun v29x9 => @kifB v29x9 ⟨k (.bool true) H2⟩ ⟨@bndC Tryz.prog 17 [a0] H2 ⟨fun v32x10 H11 => @bnd (tupV v32x10 0) ⟨fun v33x12 => @bnd (tupV v32x10 1) ⟨fun v34x13 => @bndC Tryz.prog 17 [a1] H11 ⟨fun v37x14 H15 => @bnd
  (tupV v37x14 0) ⟨fun v38x16 => @bnd (tupV v37x14 1) ⟨fun v39x17 => @bnd (aBin2 Tryz.prog H15 .neq 24 (.tmp 40) (.const (.int .i64 0)) v34x13 (.int .i64 0)) ⟨fun v41x18 => @bnd (gif v41x18 false ((some v39x17)) undef) ⟨fun
  v43x19 => @bnd (gif v41x18 false (aBin2 Tryz.prog H15 .neq 24 (.tmp 43) (.const (.int .i64 0)) v43x19 (.int .i64 0)) undef) ⟨fun v44x20 => @bnd (pickV v41x18 (.bool true) v44x20) ⟨fun v45x21 => @kifB v45x21 ⟨k (.bool true) H15⟩
  ⟨@kifB a2 ⟨S5x0  k [a0, a1, a2, undef, undef, undef, (.bool false), v33x12, v34x13, v38x16, v39x17, (.string { data := #[32, 111, 114, 32] }), (.int .u8 2), undef, undef, undef, undef, undef, undef, undef, v20x1, v21x3, a0,
  v23x4, v24x5, v24x5, v26x6, v27x7, v28x8, v29x9, v32x10, a0, v32x10, v33x12, v34x13, v37x14, a1, v37x14, v38x16, v39x17, v34x13, v41x18, v41x18, v43x19, v44x20, v45x21, a2, undef, undef, undef, undef, undef, undef, undef,
  undef, undef, undef, undef, undef, undef, undef, undef, undef, undef, undef, undef, undef, undef, undef, undef, undef, undef, undef, undef, undef, undef, undef, undef, undef, undef, undef, undef, undef, undef, undef, undef,
  undef, undef, undef, undef, undef, undef, undef, undef, undef, undef, undef, undef, undef, undef, undef, undef, undef, undef, undef, undef, undef, undef, undef, undef, undef, undef, undef, undef, undef, undef, undef, undef,
  undef, undef, undef, undef, undef, undef, undef, undef, undef, undef, undef, undef, undef, undef, undef, undef, undef, undef, undef, undef, undef, undef, undef, undef, undef, undef, undef, undef, undef, undef, undef, undef,
  undef, undef, undef, undef, undef, undef, undef, undef, undef, undef, undef, undef, undef, undef, undef, undef, undef, undef, undef, undef, undef, undef, undef, undef, undef, undef, undef, undef, undef, undef, undef, undef,
  undef, undef, undef, undef, undef, undef, undef, undef, undef, undef, undef, undef, undef, undef, undef, undef, undef, undef, undef, undef, undef, undef, undef, undef, undef, undef, undef, undef, undef, undef, undef, undef,
  undef, undef, undef, undef, undef, undef, undef, undef, undef, undef, undef, undef, undef, undef, undef, undef, undef, undef, undef, undef, undef, undef] H15⟩ ⟨S5x0  k [a0, a1, a2, undef, undef, undef, (.bool false), v33x12,
  v34x13, v38x16, v39x17, (.string { data := #[32, 97, 110, 100, 32] }), (.int .u8 1), undef, undef, undef, undef, undef, undef, undef, v20x1, v21x3, a0, v23x4, v24x5, v24x5, v26x6, v27x7, v28x8, v29x9, v32x10, a0, v32x10,
  v33x12, v34x13, v37x14, a1, v37x14, v38x16, v39x17, v34x13, v41x18, v41x18, v43x19, v44x20, v45x21, a2, undef, undef, undef, undef, undef, undef, undef, undef, undef, undef, undef, undef, undef, undef, undef, undef, undef,
  undef, undef, undef, undef, undef, undef, undef, undef, undef, undef, undef, undef, undef, undef, undef, undef, undef, undef, undef, undef, undef, undef, undef, undef, undef, undef, undef, undef, undef, undef, undef, undef,
  undef, undef, undef, undef, undef, undef, undef, undef, undef, undef, undef, undef, undef, undef, undef, undef, undef, undef, undef, undef, undef, undef, undef, undef, undef, undef, undef, undef, undef, undef, undef, undef,
  undef, undef, undef, undef, undef, undef, undef, undef, undef, undef, undef, undef, undef, undef, undef, undef, undef, undef, undef, undef, undef, undef, undef, undef, undef, undef, undef, undef, undef, undef, undef, undef,
  undef, undef, undef, undef, undef, undef, undef, undef, undef, undef, undef, undef, undef, undef, undef, undef, undef, undef, undef, undef, undef, undef, undef, undef, undef, undef, undef, undef, undef, undef, undef, undef,
  undef, undef, undef, undef, undef, undef, undef, undef, undef, undef, undef, undef, undef, undef, undef, undef, undef, undef, undef, undef, undef, undef, undef, undef, undef, undef, undef, undef, undef, undef, undef, undef,
  undef, undef, undef, undef, undef, undef, undef, undef, undef, undef, undef, undef] H15⟩⟩⟩⟩⟩⟩⟩⟩⟩⟩⟩⟩⟩⟩⟩⟩⟩⟩⟩⟩⟩⟩) := by kernel_rfl
def S6x0 (k : Value → AHeap → Prop) (sl : List Value) (H : AHeap) : Prop := kseq Tryz.prog (cr (cr (cr (cr (cr (cr (cb Tryz.f6))))))) (kfin Tryz.prog Tryz.f6 k) .normal sl H
theorem d6 (a0 a1 : Value) (H : AHeap) (k : Value → AHeap → Prop) : kbody Tryz.prog Tryz.f6 [a0, a1] H k = (@bndC Tryz.prog 15 [] H ⟨fun v13x1 H2 => @bnd (unV Tryz.prog .not v13x1) ⟨fun v14x3 => @kifB v14x3 ⟨k (.bool false) H2⟩
  ⟨@bndC Tryz.prog 20 [a0] H2 ⟨fun v16x4 H5 => @bnd (gif v16x4 false ((some a1)) undef) ⟨fun v18x6 => @bnd (gif v16x4 false (aLen Tryz.prog H5 9 v18x6) undef) ⟨fun v19x7 => @bnd (gif v16x4 false (aBin2 Tryz.prog H5 .gtr 3 (.tmp
  19) (.const (.int .i64 4000)) v19x7 (.int .i64 4000)) undef) ⟨fun v20x8 => @bnd (pickV v16x4 (.bool true) v20x8) ⟨fun v21x9 => @kifB v21x9 ⟨k (.bool true) H5⟩ ⟨@bndC Tryz.prog 21 [a0] H5 ⟨fun v23x10 H11 => @bndC Tryz.prog 22
  [a0] H11 ⟨fun v25x12 H13 => @bnd (aBin2 Tryz.prog H13 .neq 9 (.tmp 26) (.const (.string { data := #[] })) v23x10 (.string { data := #[] })) ⟨fun v27x14 => @bnd (aBin2 Tryz.prog H13 .neq 4 (.tmp 25) (.tmp 27) v25x12 v27x14) ⟨fun
  v28x15 => @kifB v28x15 ⟨k (.bool false) H13⟩ ⟨@bnd (aBin2 Tryz.prog H13 .neq 9 (.tmp 29) (.const (.string { data := #[] })) v23x10 (.string { data := #[] })) ⟨fun v30x16 => @bnd (gif v30x16 true ((some v23x10)) undef) ⟨fun
  v32x17 => @bnd (gif v30x16 true (aLen Tryz.prog H13 9 v32x17) undef) ⟨fun v33x18 => @bnd (gif v30x16 true (aBin2 Tryz.prog H13 .leq 3 (.tmp 33) (.const (.int .i64 4096)) v33x18 (.int .i64 4096)) undef) ⟨fun v34x19 => @bnd
  (pickV v30x16 v34x19 (.bool false)) ⟨fun v35x20 => @kifB v35x20 ⟨@bndC Tryz.prog 17 [v23x10] H13 ⟨fun v38x21 H22 => @bnd (tupV v38x21 0) ⟨fun v39x23 => @bnd (tupV v38x21 1) ⟨fun v40x24 => @bnd (aBin2 Tryz.prog H22 .neq 24 (.tmp
  41) (.const (.int .i64 0)) v40x24 (.int .i64 0)) ⟨fun v42x25 => @bnd (gif v42x25 false ((some a0)) undef) ⟨fun v44x26 => @bnd (gif v42x25 false ((some v39x23)) undef) ⟨fun v45x27 => @bndG v42x25 false H22 ⟨fun v46x28 H29 =>
  ACalls Tryz.prog 19 [v44x26, v45x27] H22 v46x28 H29⟩ ⟨fun v46x28 H29 => @bnd (gif v42x25 false (unV Tryz.prog .not v46x28) undef) ⟨fun v47x30 => @bnd (pickV v42x25 (.bool true) v47x30) ⟨fun v48x31 => @bnd (gif v48x31 false
  ((some v39x23)) undef) ⟨fun v50x32 => @bndG v48x31 false H29 ⟨fun v51x33 H34 => ACalls Tryz.prog 21 [v50x32] H29 v51x33 H34⟩ ⟨fun v51x33 H34 => @bnd (gif v48x31 false ((some v23x10)) undef) ⟨fun v52x35 => @bnd (gif v48x31 false
  (aBin2 Tryz.prog H34 .neq 9 (.tmp 51) (.tmp 52) v51x33 v52x35) undef) ⟨fun v53x36 => @bnd (pickV v48x31 (.bool true) v53x36) ⟨fun v54x37 => @kifB v54x37 ⟨k (.bool false) H34⟩ ⟨S6x0  k [a0, a1, undef, undef, (.bool false),
  v23x10, v39x23, v40x24, undef, undef, undef, undef, undef, v13x1, v14x3, a0, v16x4, v16x4, v18x6, v19x7, v20x8, v21x9, a0, v23x10, a0, v25x12, v23x10, v27x14, v28x15, v23x10, v30x16, v30x16, v32x17, v33x18, v34x19, v35x20,
  v38x21, v23x10, v38x21, v39x23, v40x24, v40x24, v42x25, v42x25, v44x26, v45x27, v46x28, v47x30, v48x31, v48x31, v50x32, v51x33, v52x35, v53x36, v54x37, undef, undef, undef, undef, undef, undef, undef, undef, undef, undef,
  undef, undef, undef, undef, undef, undef, undef, undef, undef, undef, undef, undef, undef, undef, undef, undef, undef, undef, undef, undef, undef, undef, undef, undef] H34⟩⟩⟩⟩⟩⟩⟩⟩⟩⟩⟩⟩⟩⟩⟩⟩ ⟨S6x0  k [a0, a1, undef, undef, (.bool
  false), v23x10, undef, undef, undef, undef, undef, undef, undef, v13x1, v14x3, a0, v16x4, v16x4, v18x6, v19x7, v20x8, v21x9, a0, v23x10, a0, v25x12, v23x10, v27x14, v28x15, v23x10, v30x16, v30x16, v32x17, v33x18, v34x19,
  v35x20, undef, undef, undef, undef, undef, undef, undef, undef, undef, undef, undef, undef, undef, undef, undef, undef, undef, undef, undef, undef, undef, undef, undef, undef, undef, undef, undef, undef, undef, undef, undef,
  undef, undef, undef, undef, undef, undef, undef, undef, undef, undef, undef, undef, undef, undef, undef, undef, undef, undef, undef, undef, undef, undef] H13⟩⟩⟩⟩⟩⟩⟩⟩⟩⟩⟩⟩⟩⟩⟩⟩⟩⟩⟩⟩) := by kernel_rfl
theorem S6x0q (s0 s1 s2 s3 s4 s5 s6 s7 s8 s9 s10 s11 s12 s13 s14 s15 s16 s17 s18 s19 s20 s21 s22 s23 s24 s25 s26 s27 s28 s29 s30 s31 s32 s33 s34 s35 s36 s37 s38 s39 s40 s41 s42 s43 s44 s45 s46 s47 s48 s49 s50 s51 s52 s53 s54 s55
  s56 s57 s58 s59 s60 s61 s62 s63 s64 s65 s66 s67 s68 s69 s70 s71 s72 s73 s74 s75 s76 s77 s78 s79 s80 s81 s82 s83 s84 s85 s86 s87 s88 : Value) (H : AHeap) (k : Value → AHeap → Prop) : S6x0 k [s0, s1, s2, s3, s4, s5, s6, s7, s8,
  s9, s10, s11, s12, s13, s14, s15, s16, s17, s18, s19, s20, s21, s22, s23, s24, s25, s26, s27, s28, s29, s30, s31, s32, s33, s34, s35, s36, s37, s38, s39, s40, s41, s42, s43, s44, s45, s46, s47, s48, s49, s50, s51, s52, s53,
  s54, s55, s56, s57, s58, s59, s60, s61, s62, s63, s64, s65, s66, s67, s68, s69, s70, s71, s72, s73, s74, s75, s76, s77, s78, s79, s80, s81, s82, s83, s84, s85, s86, s87, s88] H = (@bndC Tryz.prog 17 [s1] H ⟨fun v57x38 H39 =>
  @bnd (tupV v57x38 0) ⟨fun v58x40 => @bnd (tupV v57x38 1) ⟨fun v59x41 => @bnd (aBin2 Tryz.prog H39 .neq 24 (.tmp 60) (.const (.int .i64 0)) v59x41 (.int .i64 0)) ⟨fun v61x42 => @kifB v61x42 ⟨@bnd (aLen Tryz.prog H39 27 v58x40)
  ⟨fun v63x43 => @bnd (aBin2 Tryz.prog H39 .eql 3 (.tmp 63) (.const (.int .i64 0)) v63x43 (.int .i64 0)) ⟨fun v64x44 => k v64x44 H39⟩⟩⟩ ⟨@bndC Tryz.prog 21 [v58x40] H39 ⟨fun v66x45 H46 => @bndC Tryz.prog 22 [v58x40] H46 ⟨fun
  v68x47 H48 => @bnd (unV Tryz.prog .not v68x47) ⟨fun v69x49 => @bnd (gif v69x49 false ((some v66x45)) undef) ⟨fun v71x50 => @bnd (gif v69x49 false (aBin2 Tryz.prog H48 .eql 9 (.tmp 71) (.const (.string { data := #[] })) v71x50
  (.string { data := #[] })) undef) ⟨fun v72x51 => @bnd (pickV v69x49 (.bool true) v72x51) ⟨fun v73x52 => @kifB v73x52 ⟨k (.bool false) H48⟩ ⟨@bnd (aLen Tryz.prog H48 9 v66x45) ⟨fun v75x53 => @bnd (aBin2 Tryz.prog H48 .gtr 3
  (.tmp 75) (.const (.int .i64 4096)) v75x53 (.int .i64 4096)) ⟨fun v76x54 => @kifB v76x54 ⟨k (.bool true) H48⟩ ⟨@bndC Tryz.prog 17 [v66x45] H48 ⟨fun v79x55 H56 => @bnd (tupV v79x55 0) ⟨fun v80x57 => @bnd (tupV v79x55 1) ⟨fun
  v81x58 => @bnd (aBin2 Tryz.prog H56 .eql 24 (.tmp 82) (.const (.int .i64 0)) v81x58 (.int .i64 0)) ⟨fun v83x59 => @bnd (gif v83x59 true ((some v58x40)) undef) ⟨fun v85x60 => @bnd (gif v83x59 true ((some v80x57)) undef) ⟨fun
  v86x61 => @bndG v83x59 true H56 ⟨fun v87x62 H63 => ACalls Tryz.prog 19 [v85x60, v86x61] H56 v87x62 H63⟩ ⟨fun v87x62 H63 => @bnd (pickV v83x59 v87x62 (.bool false)) ⟨fun v88x64 => k v88x64 H63⟩⟩⟩⟩⟩⟩⟩⟩⟩⟩⟩⟩⟩⟩⟩⟩⟩⟩⟩⟩⟩⟩⟩) := by
  kernel_rfl

end Go.Vi
namespace Go.Vi
open Go Go.Proofs
-- tocsin/tocsinlaw14.FingerUnlike
theorem d15 (H : AHeap) (k : Value → AHeap → Prop) : kbody Tryz.prog Tryz.f15 [] H k = (@bndC Tryz.prog 17 [(.string { data := #[99, 111, 117, 110, 116, 40, 123, 125, 91, 53, 93, 41, 32, 62, 32, 51] })] H ⟨fun v12x1 H2 => @bnd
  (tupV v12x1 0) ⟨fun v13x3 => @bnd (tupV v12x1 1) ⟨fun v14x4 => @bnd (aBin2 Tryz.prog H2 .add 9 (.const (.string { data := #[110, 111, 116, 32, 40] })) (.tmp 16) (.string { data := #[110, 111, 116, 32, 40] }) (.string { data :=
  #[99, 111, 117, 110, 116, 40, 123, 125, 91, 53, 93, 41, 32, 62, 32, 51] })) ⟨fun v17x5 => @bnd (aBin2 Tryz.prog H2 .add 9 (.tmp 17) (.const (.string { data := #[32, 111, 114, 32] })) v17x5 (.string { data := #[32, 111, 114, 32]
  })) ⟨fun v18x6 => @bnd (aBin2 Tryz.prog H2 .add 9 (.tmp 18) (.tmp 19) v18x6 (.string { data := #[99, 111, 117, 110, 116, 40, 123, 125, 91, 53, 93, 41, 32, 62, 32, 51] })) ⟨fun v20x7 => @bnd (aBin2 Tryz.prog H2 .add 9 (.tmp 20)
  (.const (.string { data := #[41, 32, 97, 110, 100, 32] })) v20x7 (.string { data := #[41, 32, 97, 110, 100, 32] })) ⟨fun v21x8 => @bnd (aBin2 Tryz.prog H2 .add 9 (.tmp 21) (.tmp 22) v21x8 (.string { data := #[99, 111, 117, 110,
  116, 40, 123, 125, 91, 53, 93, 41, 32, 62, 32, 51] })) ⟨fun v23x9 => @bndC Tryz.prog 17 [v23x9] H2 ⟨fun v24x10 H11 => @bnd (tupV v24x10 0) ⟨fun v25x12 => @bnd (tupV v24x10 1) ⟨fun v26x13 => @bnd (aBin2 Tryz.prog H11 .add 9
  (.tmp 28) (.const (.string { data := #[32, 97, 110, 100] })) (.string { data := #[99, 111, 117, 110, 116, 40, 123, 125, 91, 53, 93, 41, 32, 62, 32, 51] }) (.string { data := #[32, 97, 110, 100] })) ⟨fun v29x14 => @bndC
  Tryz.prog 17 [v29x14] H11 ⟨fun v30x15 H16 => @bnd (tupV v30x15 0) ⟨fun _ => @bnd (tupV v30x15 1) ⟨fun v32x18 => @bndC Tryz.prog 17 [(.string { data := #[99, 111, 117, 110, 116, 40, 123, 125, 91, 48, 93, 41, 32, 62, 32, 49] })]
  H16 ⟨fun v34x19 H20 => @bnd (tupV v34x19 0) ⟨fun _ => @bnd (tupV v34x19 1) ⟨fun v36x22 => @bnd (aBin2 Tryz.prog H20 .neq 24 (.tmp 37) (.const (.int .i64 0)) v14x4 (.int .i64 0)) ⟨fun v38x23 => @bnd (gif v38x23 false ((some
  v13x3)) undef) ⟨fun v40x24 => @bnd (gif v38x23 false (aLen Tryz.prog H20 27 v40x24) undef) ⟨fun v41x25 => @bnd (gif v38x23 false (aBin2 Tryz.prog H20 .neq 3 (.tmp 41) (.const (.int .i64 1)) v41x25 (.int .i64 1)) undef) ⟨fun
  v42x26 => @bnd (pickV v38x23 (.bool true) v42x26) ⟨fun v43x27 => @bnd (gif v43x27 false ((some v13x3)) undef) ⟨fun v45x28 => @bnd (gif v43x27 false (aIndexAddr Tryz.prog H20 27 v45x28 (.int .i64 0)) undef) ⟨fun v46x29 => @bnd
  (gif v43x27 false (aFieldAddr Tryz.prog H20 37 v46x29 3) undef) ⟨fun v47x30 => @bnd (gif v43x27 false (aLoad Tryz.prog H20 3 v47x30) undef) ⟨fun v48x31 => @bnd (gif v43x27 false (aBin2 Tryz.prog H20 .neq 3 (.tmp 48) (.const
  (.int .i64 5)) v48x31 (.int .i64 5)) undef) ⟨fun v49x32 => @bnd (pickV v43x27 (.bool true) v49x32) ⟨fun v50x33 => @bnd (gif v50x33 false ((some v13x3)) undef) ⟨fun v52x34 => @bnd (gif v50x33 false (aIndexAddr Tryz.prog H20 27
  v52x34 (.int .i64 0)) undef) ⟨fun v53x35 => @bnd (gif v50x33 false (aFieldAddr Tryz.prog H20 37 v53x35 4) undef) ⟨fun v54x36 => @bnd (gif v50x33 false (aLoad Tryz.prog H20 5 v54x36) undef) ⟨fun v55x37 => @bnd (gif v50x33 false
  (aBin2 Tryz.prog H20 .neq 5 (.tmp 55) (.const (.int .u8 2)) v55x37 (.int .u8 2)) undef) ⟨fun v56x38 => @bnd (pickV v50x33 (.bool true) v56x38) ⟨fun v57x39 => @bnd (gif v57x39 false ((some v13x3)) undef) ⟨fun v59x40 => @bnd (gif
  v57x39 false (aIndexAddr Tryz.prog H20 27 v59x40 (.int .i64 0)) undef) ⟨fun v60x41 => @bnd (gif v57x39 false (aFieldAddr Tryz.prog H20 37 v60x41 5) undef) ⟨fun v61x42 => @bnd (gif v57x39 false (aLoad Tryz.prog H20 2 v61x42)
  undef) ⟨fun v62x43 => @bnd (gif v57x39 false (aBin2 Tryz.prog H20 .neq 2 (.tmp 62) (.const (.int .i64 3000)) v62x43 (.int .i64 3000)) undef) ⟨fun v63x44 => @bnd (pickV v57x39 (.bool true) v63x44) ⟨fun v64x45 => @bnd (gif v64x45
  false ((some v26x13)) undef) ⟨fun v66x46 => @bnd (gif v64x45 false (aBin2 Tryz.prog H20 .neq 24 (.tmp 66) (.const (.int .i64 0)) v66x46 (.int .i64 0)) undef) ⟨fun v67x47 => @bnd (pickV v64x45 (.bool true) v67x47) ⟨fun v68x48 =>
  @bnd (gif v68x48 false ((some v25x12)) undef) ⟨fun v70x49 => @bnd (gif v68x48 false (aLen Tryz.prog H20 27 v70x49) undef) ⟨fun v71x50 => @bnd (gif v68x48 false (aBin2 Tryz.prog H20 .neq 3 (.tmp 71) (.const (.int .i64 6)) v71x50
  (.int .i64 6)) undef) ⟨fun v72x51 => @bnd (pickV v68x48 (.bool true) v72x51) ⟨fun v73x52 => @bnd (gif v73x52 false ((some v32x18)) undef) ⟨fun v75x53 => @bnd (gif v73x52 false (aBin2 Tryz.prog H20 .neq 24 (.tmp 75) (.const
  (.int .i64 100)) v75x53 (.int .i64 100)) undef) ⟨fun v76x54 => @bnd (pickV v73x52 (.bool true) v76x54) ⟨fun v77x55 => @bnd (gif v77x55 false ((some v36x22)) undef) ⟨fun v79x56 => @bnd (gif v77x55 false (aBin2 Tryz.prog H20 .neq
  24 (.tmp 79) (.const (.int .i64 100)) v79x56 (.int .i64 100)) undef) ⟨fun v80x57 => @bnd (pickV v77x55 (.bool true) v80x57) ⟨fun v81x58 => @kifB v81x58 ⟨k (.bool false) H20⟩ ⟨@bnd (aIndexAddr Tryz.prog H20 27 v25x12 (.int .i64
  2)) ⟨fun v83x59 => @bnd (aFieldAddr Tryz.prog H20 37 v83x59 0) ⟨fun v84x60 => @bnd (aLoad Tryz.prog H20 5 v84x60) ⟨fun v85x61 => @bnd (aBin2 Tryz.prog H20 .eql 5 (.tmp 85) (.const (.int .u8 2)) v85x61 (.int .u8 2)) ⟨fun v86x62
  => @bnd (gif v86x62 true ((some v25x12)) undef) ⟨fun v88x63 => @bnd (gif v86x62 true (aIndexAddr Tryz.prog H20 27 v88x63 (.int .i64 2)) undef) ⟨fun v89x64 => @bnd (gif v86x62 true (aFieldAddr Tryz.prog H20 37 v89x64 7) undef)
  ⟨fun v90x65 => @bnd (gif v86x62 true (aLoad Tryz.prog H20 3 v90x65) undef) ⟨fun v91x66 => @bnd (gif v86x62 true (aBin2 Tryz.prog H20 .eql 3 (.tmp 91) (.const (.int .i64 1)) v91x66 (.int .i64 1)) undef) ⟨fun v92x67 => @bnd
  (pickV v86x62 v92x67 (.bool false)) ⟨fun v93x68 => @bnd (gif v93x68 true ((some v25x12)) undef) ⟨fun v95x69 => @bnd (gif v93x68 true (aIndexAddr Tryz.prog H20 27 v95x69 (.int .i64 3)) undef) ⟨fun v96x70 => @bnd (gif v93x68 true
  (aFieldAddr Tryz.prog H20 37 v96x70 0) undef) ⟨fun v97x71 => @bnd (gif v93x68 true (aLoad Tryz.prog H20 5 v97x71) undef) ⟨fun v98x72 => @bnd (gif v93x68 true (aBin2 Tryz.prog H20 .eql 5 (.tmp 98) (.const (.int .u8 3)) v98x72
  (.int .u8 3)) undef) ⟨fun v99x73 => @bnd (pickV v93x68 v99x73 (.bool false)) ⟨fun v100x74 => @bnd (gif v100x74 true ((some v25x12)) undef) ⟨fun v102x75 => @bnd (gif v100x74 true (aIndexAddr Tryz.prog H20 27 v102x75 (.int .i64
  3)) undef) ⟨fun v103x76 => @bnd (gif v100x74 true (aFieldAddr Tryz.prog H20 37 v103x76 6) undef) ⟨fun v104x77 => @bnd (gif v100x74 true (aLoad Tryz.prog H20 3 v104x77) undef) ⟨fun v105x78 => @bnd (gif v100x74 true (aBin2
  Tryz.prog H20 .eql 3 (.tmp 105) (.const (.int .i64 2)) v105x78 (.int .i64 2)) undef) ⟨fun v106x79 => @bnd (pickV v100x74 v106x79 (.bool false)) ⟨fun v107x80 => @bnd (gif v107x80 true ((some v25x12)) undef) ⟨fun v109x81 => @bnd
  (gif v107x80 true (aIndexAddr Tryz.prog H20 27 v109x81 (.int .i64 5)) undef) ⟨fun v110x82 => @bnd (gif v107x80 true (aFieldAddr Tryz.prog H20 37 v110x82 0) undef) ⟨fun v111x83 => @bnd (gif v107x80 true (aLoad Tryz.prog H20 5
  v111x83) undef) ⟨fun v112x84 => @bnd (gif v107x80 true (aBin2 Tryz.prog H20 .eql 5 (.tmp 112) (.const (.int .u8 1)) v112x84 (.int .u8 1)) undef) ⟨fun v113x85 => @bnd (pickV v107x80 v113x85 (.bool false)) ⟨fun v114x86 => @bnd
  (gif v114x86 true ((some v25x12)) undef) ⟨fun v116x87 => @bnd (gif v114x86 true (aIndexAddr Tryz.prog H20 27 v116x87 (.int .i64 5)) undef) ⟨fun v117x88 => @bnd (gif v114x86 true (aFieldAddr Tryz.prog H20 37 v117x88 6) undef)
  ⟨fun v118x89 => @bnd (gif v114x86 true (aLoad Tryz.prog H20 3 v118x89) undef) ⟨fun v119x90 => @bnd (gif v114x86 true (aBin2 Tryz.prog H20 .eql 3 (.tmp 119) (.const (.int .i64 3)) v119x90 (.int .i64 3)) undef) ⟨fun v120x91 =>
  @bnd (pickV v114x86 v120x91 (.bool false)) ⟨fun v121x92 => @bnd (gif v121x92 true ((some v25x12)) undef) ⟨fun v123x93 => @bnd (gif v121x92 true (aIndexAddr Tryz.prog H20 27 v123x93 (.int .i64 5)) undef) ⟨fun v124x94 => @bnd
  (gif v121x92 true (aFieldAddr Tryz.prog H20 37 v124x94 7) undef) ⟨fun v125x95 => @bnd (gif v121x92 true (aLoad Tryz.prog H20 3 v125x95) undef) ⟨fun v126x96 => @bnd (gif v121x92 true (aBin2 Tryz.prog H20 .eql 3 (.tmp 126)
  (.const (.int .i64 4)) v126x96 (.int .i64 4)) undef) ⟨fun v127x97 => @bnd (pickV v121x92 v127x97 (.bool false)) ⟨fun v128x98 => @bnd (gif v128x98 true ((some v25x12)) undef) ⟨fun v130x99 => @bndG v128x98 true H20 ⟨fun v131x100
  H101 => ACalls Tryz.prog 21 [v130x99] H20 v131x100 H101⟩ ⟨fun v131x100 H101 => @bnd (gif v128x98 true ((some (.string { data := #[99, 111, 117, 110, 116, 40, 123, 125, 91, 53, 93, 41, 32, 62, 32, 51] }))) undef) ⟨fun v132x102
  => @bnd (gif v128x98 true (aBin2 Tryz.prog H101 .add 9 (.const (.string { data := #[110, 111, 116, 32, 40] })) (.tmp 132) (.string { data := #[110, 111, 116, 32, 40] }) v132x102) undef) ⟨fun v133x103 => @bnd (gif v128x98 true
  (aBin2 Tryz.prog H101 .add 9 (.tmp 133) (.const (.string { data := #[32, 111, 114, 32] })) v133x103 (.string { data := #[32, 111, 114, 32] })) undef) ⟨fun v134x104 => @bnd (gif v128x98 true ((some (.string { data := #[99, 111,
  117, 110, 116, 40, 123, 125, 91, 53, 93, 41, 32, 62, 32, 51] }))) undef) ⟨fun v135x105 => @bnd (gif v128x98 true (aBin2 Tryz.prog H101 .add 9 (.tmp 134) (.tmp 135) v134x104 v135x105) undef) ⟨fun v136x106 => @bnd (gif v128x98
  true (aBin2 Tryz.prog H101 .add 9 (.tmp 136) (.const (.string { data := #[41, 32, 97, 110, 100, 32] })) v136x106 (.string { data := #[41, 32, 97, 110, 100, 32] })) undef) ⟨fun v137x107 => @bnd (gif v128x98 true ((some (.string
  { data := #[99, 111, 117, 110, 116, 40, 123, 125, 91, 53, 93, 41, 32, 62, 32, 51] }))) undef) ⟨fun v138x108 => @bnd (gif v128x98 true (aBin2 Tryz.prog H101 .add 9 (.tmp 137) (.tmp 138) v137x107 v138x108) undef) ⟨fun v139x109 =>
  @bnd (gif v128x98 true (aBin2 Tryz.prog H101 .eql 9 (.tmp 131) (.tmp 139) v131x100 v139x109) undef) ⟨fun v140x110 => @bnd (pickV v128x98 v140x110 (.bool false)) ⟨fun v141x111 => @bnd (gif v141x111 true ((some v25x12)) undef)
  ⟨fun v143x112 => @bndG v141x111 true H101 ⟨fun v144x113 H114 => ACalls Tryz.prog 22 [v143x112] H101 v144x113 H114⟩ ⟨fun v144x113 H114 => @bnd (pickV v141x111 v144x113 (.bool false)) ⟨fun v145x115 => @bnd (gif v145x115 true
  ((some v25x12)) undef) ⟨fun v147x116 => @bnd (gif v145x115 true (aSliceOp Tryz.prog H114 27 v147x116 none (some (.int .i64 2))) undef) ⟨fun v148x117 => @bndG v145x115 true H114 ⟨fun v149x118 H119 => ACalls Tryz.prog 22
  [v148x117] H114 v149x118 H119⟩ ⟨fun v149x118 H119 => @bnd (gif v145x115 true (unV Tryz.prog .not v149x118) undef) ⟨fun v150x120 => @bnd (pickV v145x115 v150x120 (.bool false)) ⟨fun v151x121 => k v151x121
  H119⟩⟩⟩⟩⟩⟩⟩⟩⟩⟩⟩⟩⟩⟩⟩⟩⟩⟩⟩⟩⟩⟩⟩⟩⟩⟩⟩⟩⟩⟩⟩⟩⟩⟩⟩⟩⟩⟩⟩⟩⟩⟩⟩⟩⟩⟩⟩⟩⟩⟩⟩⟩⟩⟩⟩⟩⟩⟩⟩⟩⟩⟩⟩⟩⟩⟩⟩⟩⟩⟩⟩⟩⟩⟩⟩⟩⟩⟩⟩⟩⟩⟩⟩⟩⟩⟩⟩⟩⟩⟩⟩⟩⟩⟩⟩⟩⟩⟩⟩⟩⟩⟩⟩⟩⟩⟩⟩⟩⟩⟩⟩⟩⟩⟩⟩) := by kernel_rfl
-- tocsin/lex.All
def R16x0 (k : Value → AHeap → Prop) : KontG := (kblkG 0 (kseqG Tryz.prog (drawStd Tryz.prog) (cr (cr (cr (cb Tryz.f16)))) (kfinG Tryz.prog Tryz.f16 k)))
theorem d16 (a0 : Value) (H : AHeap) (k : Value → AHeap → Prop) : kbodyG Tryz.prog (drawStd Tryz.prog) Tryz.f16 [a0] H k = (@bndE (aAlloc Tryz.prog H 23) ⟨fun v2x1 H2 => @bndE (aAlloc Tryz.prog H2 3) ⟨fun v3x3 H4 => @bndE (aAlloc
  Tryz.prog H4 24) ⟨fun v4x5 H6 => @bndE (aAlloc Tryz.prog H6 23) ⟨fun v5x7 H8 => @bndC Tryz.prog 39 [a0] H8 ⟨fun v9x9 H10 => krange Tryz.prog v9x9 [a0, undef, v2x1, v3x3, v4x5, v5x7, undef, undef, a0, v9x9, undef, undef, undef,
  undef, undef, undef, undef, undef, undef, undef, undef, undef] #[10, 11] (cl (cl (cr (cl (cr (cr (cb Tryz.f16))))))) (cr (cl (cr (cl (cr (cr (cb Tryz.f16))))))) H10 [] (R16x0 k)⟩⟩⟩⟩⟩) := by kernel_rfl
theorem R16x0n (s0 s1 s2 s3 s4 s5 s6 s7 s8 s9 s10 s11 s12 s13 s14 s15 s16 s17 s18 s19 s20 s21 : Value) (H : AHeap) (b : Nat) (k : Value → AHeap → Prop) : R16x0 k .normal [s0, s1, s2, s3, s4, s5, s6, s7, s8, s9, s10, s11, s12,
  s13, s14, s15, s16, s17, s18, s19, s20, s21] H [b] = (@bnd (aLoad Tryz.prog H 23 s5) ⟨fun v21x11 => @bndS (aStore Tryz.prog H 23 s2 v21x11) ⟨fun _ H13 => @bndS (aStore Tryz.prog H13 3 s3 (.int .i64 0)) ⟨fun _ H15 => @bndS
  (aStore Tryz.prog H15 24 s4 (.int .i64 0)) ⟨fun _ H17 => H17[b]? = some (AObj.loop LRec.blk) ∧ ∃ r18, aLoad Tryz.prog (H17.set b (AObj.loop LRec.gone)) 23 s2 = some r18 ∧ ∃ r19, aLoad Tryz.prog (H17.set b (AObj.loop LRec.gone))
  3 s3 = some r19 ∧ ∃ r20, aLoad Tryz.prog (H17.set b (AObj.loop LRec.gone)) 24 s4 = some r20 ∧ k (.tuple #[r18, r19, r20]) (H17.set b (AObj.loop LRec.gone))⟩⟩⟩⟩) := by kernel_rfl
theorem R16x0r (s0 s1 s2 s3 s4 s5 s6 s7 s8 s9 s10 s11 s12 s13 s14 s15 s16 s17 s18 s19 s20 s21 : Value) (H : AHeap) (b : Nat) (k : Value → AHeap → Prop) : R16x0 k .ret [s0, s1, s2, s3, s4, s5, s6, s7, s8, s9, s10, s11, s12, s13,
  s14, s15, s16, s17, s18, s19, s20, s21] H [b] = (H[b]? = some (AObj.loop LRec.blk) ∧ ∃ r21, aLoad Tryz.prog (H.set b (AObj.loop LRec.gone)) 23 s2 = some r21 ∧ ∃ r22, aLoad Tryz.prog (H.set b (AObj.loop LRec.gone)) 3 s3 = some
  r22 ∧ ∃ r23, aLoad Tryz.prog (H.set b (AObj.loop LRec.gone)) 24 s4 = some r23 ∧ k (.tuple #[r21, r22, r23]) (H.set b (AObj.loop LRec.gone))) := by kernel_rfl
theorem R16x0A (s0 s1 s2 s3 s4 s5 s6 s7 s8 s9 s10 s11 s12 s13 s14 s15 s16 s17 s18 s19 s20 s21 : Value) (H : AHeap) (kk : Kont) : kx Tryz.prog (cl (cl (cr (cl (cr (cr (cb Tryz.f16))))))) [s0, s1, s2, s3, s4, s5, s6, s7, s8, s9,
  s10, s11, s12, s13, s14, s15, s16, s17, s18, s19, s20, s21] H kk = (@bndE (aAlloc Tryz.prog H 70) ⟨fun v6x24 H25 => @bndS (aStore Tryz.prog H25 70 v6x24 s10) ⟨fun _ H27 => kk AExit.normal [s0, s1, s2, s3, s4, s5, v6x24, s11,
  s8, s9, s10, s11, s12, s13, s14, s15, s16, s17, s18, s19, s20, s21] H27⟩⟩) := by kernel_rfl
theorem R16x0B (s0 s1 s2 s3 s4 s5 s6 s7 s8 s9 s10 s11 s12 s13 s14 s15 s16 s17 s18 s19 s20 s21 : Value) (H : AHeap) (kk : Kont) : kx Tryz.prog (cr (cl (cr (cl (cr (cr (cb Tryz.f16))))))) [s0, s1, s2, s3, s4, s5, s6, s7, s8, s9,
  s10, s11, s12, s13, s14, s15, s16, s17, s18, s19, s20, s21] H kk = (@bnd (aBin2 Tryz.prog H .neq 24 (.tmp 12) (.const (.int .i64 0)) s7 (.int .i64 0)) ⟨fun v13x28 => @kifB v13x28 ⟨@bnd (aFieldAddr Tryz.prog H 70 s6 2) ⟨fun
  v14x29 => @bnd (aLoad Tryz.prog H 3 v14x29) ⟨fun v15x30 => @bndD false H ⟨fun x31 H32 => x31 = undef ∧ aStore Tryz.prog H 23 s2 (.slice none 0 0) = some H32⟩ ⟨fun _ H32 => @bndD true H32 ⟨fun x33 H34 => x33 = undef ∧ aStore
  Tryz.prog H32 3 s3 v15x30 = some H34⟩ ⟨fun _ H34 => @bndD true H34 ⟨fun x35 H36 => x35 = undef ∧ aStore Tryz.prog H34 24 s4 s7 = some H36⟩ ⟨fun _ H36 => kk AExit.ret [s0, s1, s2, s3, s4, s5, s6, s7, s8, s9, s10, s11, s7,
  v13x28, v14x29, v15x30, s7, s17, s18, s19, s20, s21] H36⟩⟩⟩⟩⟩⟩ ⟨@bnd (aLoad Tryz.prog H 23 s5) ⟨fun v17x37 => @bnd (aLoad Tryz.prog H 70 s6) ⟨fun v18x38 => @bndL Tryz.prog H 23 1 [(0, v18x38)] ⟨fun v19x39 H40 => @bndE (aBuiltin
  Tryz.prog H40 Builtin.append #[23, 23] [v17x37, v19x39]) ⟨fun v20x41 H42 => @bndS (aStore Tryz.prog H42 23 s5 v20x41) ⟨fun _ H44 => kk AExit.normal [s0, s1, s2, s3, s4, s5, s6, s7, s8, s9, s10, s11, s7, v13x28, s14, s15, s16,
  v17x37, v18x38, v19x39, v20x41, s21] H44⟩⟩⟩⟩⟩⟩⟩) := by kernel_rfl
-- tocsin/expr.Parse
def S17x0 (k : Value → AHeap → Prop) (sl : List Value) (H : AHeap) : Prop := kseq Tryz.prog (cr (cr (cr (cr (cr (cr (cb Tryz.f17))))))) (kfin Tryz.prog Tryz.f17 k) .normal sl H
theorem d17 (a0 : Value) (H : AHeap) (k : Value → AHeap → Prop) : kbody Tryz.prog Tryz.f17 [a0] H k = (@bndC Tryz.prog 16 [a0] H ⟨fun v12x1 H2 => @bnd (tupV v12x1 0) ⟨fun v13x3 => @bnd (tupV v12x1 1) ⟨fun v14x4 => @bnd (tupV
  v12x1 2) ⟨fun v15x5 => @bnd (aBin2 Tryz.prog H2 .neq 24 (.tmp 16) (.const (.int .i64 0)) v15x5 (.int .i64 0)) ⟨fun v17x6 => @kifB v17x6 ⟨k (.tuple #[(.slice none 0 0), v15x5]) H2⟩ ⟨@bndC Tryz.prog 18 [v13x3, (.int .i64 0)] H2
  ⟨fun v21x7 H8 => @bnd (tupV v21x7 0) ⟨fun v22x9 => @bnd (tupV v21x7 1) ⟨fun v23x10 => @bnd (tupV v21x7 2) ⟨fun v24x11 => @bnd (aBin2 Tryz.prog H8 .eql 24 (.tmp 25) (.const (.int .i64 100)) v24x11 (.int .i64 100)) ⟨fun v26x12 =>
  @kifB v26x12 ⟨k (.tuple #[(.slice none 0 0), v24x11]) H8⟩ ⟨@bnd (aBin2 Tryz.prog H8 .eql 24 (.tmp 28) (.const (.int .i64 4)) v24x11 (.int .i64 4)) ⟨fun v29x13 => @kifB v29x13 ⟨@bnd (buildV Tryz.prog 81 [(0, v13x3), (2, (.bool
  true))]) ⟨fun v31x14 => @bndE (aNew H8 81 v31x14) ⟨fun v32x15 H16 => @bndC Tryz.prog 40 [v32x15] H16 ⟨fun v34x17 H18 => @bnd (nilV v32x15) ⟨fun v36x19 => @bnd (aFieldAddr Tryz.prog H18 81 v36x19 1) ⟨fun v37x20 => @bnd (aLoad
  Tryz.prog H18 3 v37x20) ⟨fun v38x21 => S17x0  k [a0, undef, (.slice none 0 0), (.int .i64 0), v13x3, v14x4, v24x11, v22x9, v38x21, v32x15, v12x1, a0, v12x1, v13x3, v14x4, v15x5, v15x5, v17x6, undef, v21x7, v13x3, v21x7, v22x9,
  v23x10, v24x11, v24x11, v26x12, undef, v24x11, v29x13, v13x3, v31x14, v32x15, v32x15, v34x17, v32x15, v36x19, v37x20, v38x21, undef, undef, undef, undef, undef, undef] H18⟩⟩⟩⟩⟩⟩⟩ ⟨S17x0  k [a0, undef, (.slice none 0 0), (.int
  .i64 0), v13x3, v14x4, v24x11, v22x9, v23x10, undef, v12x1, a0, v12x1, v13x3, v14x4, v15x5, v15x5, v17x6, undef, v21x7, v13x3, v21x7, v22x9, v23x10, v24x11, v24x11, v26x12, undef, v24x11, v29x13, undef, undef, undef, undef,
  undef, undef, undef, undef, undef, undef, undef, undef, undef, undef, undef] H8⟩⟩⟩⟩⟩⟩⟩⟩⟩⟩⟩⟩⟩⟩) := by kernel_rfl
theorem S17x0q (s0 s1 s2 s3 s4 s5 s6 s7 s8 s9 s10 s11 s12 s13 s14 s15 s16 s17 s18 s19 s20 s21 s22 s23 s24 s25 s26 s27 s28 s29 s30 s31 s32 s33 s34 s35 s36 s37 s38 s39 s40 s41 s42 s43 s44 : Value) (H : AHeap) (k : Value → AHeap →
  Prop) : S17x0 k [s0, s1, s2, s3, s4, s5, s6, s7, s8, s9, s10, s11, s12, s13, s14, s15, s16, s17, s18, s19, s20, s21, s22, s23, s24, s25, s26, s27, s28, s29, s30, s31, s32, s33, s34, s35, s36, s37, s38, s39, s40, s41, s42, s43,
  s44] H = (@bnd (aLen Tryz.prog H 23 s4) ⟨fun v41x22 => @bnd (aBin2 Tryz.prog H .neq 3 (.tmp 39) (.tmp 41) s8 v41x22) ⟨fun v42x23 => @kifB v42x23 ⟨k (.tuple #[(.slice none 0 0), (.int .i64 100)]) H⟩ ⟨k (.tuple #[s7, s6]) H⟩⟩⟩)
  := by kernel_rfl
-- tocsin/expr.Read
theorem d18 (a0 a1 : Value) (H : AHeap) (k : Value → AHeap → Prop) : kbody Tryz.prog Tryz.f18 [a0, a1] H k = (@bnd (aBin2 Tryz.prog H .lss 3 (.tmp 9) (.const (.int .i64 0)) a1 (.int .i64 0)) ⟨fun v10x1 => @bnd (gif v10x1 false
  ((some a1)) undef) ⟨fun v12x2 => @bnd (gif v10x1 false ((some a0)) undef) ⟨fun v13x3 => @bnd (gif v10x1 false (aLen Tryz.prog H 23 v13x3) undef) ⟨fun v14x4 => @bnd (gif v10x1 false (aBin2 Tryz.prog H .geq 3 (.tmp 12) (.tmp 14)
  v12x2 v14x4) undef) ⟨fun v15x5 => @bnd (pickV v10x1 (.bool true) v15x5) ⟨fun v16x6 => @kifB v16x6 ⟨k (.tuple #[(.slice none 0 0), (.int .i64 0), (.int .i64 100)]) H⟩ ⟨@bnd (buildV Tryz.prog 81 [(0, a0), (1, a1), (2, (.bool
  true))]) ⟨fun v19x7 => @bndE (aNew H 81 v19x7) ⟨fun v20x8 H9 => @bndC Tryz.prog 40 [v20x8] H9 ⟨fun v22x10 H11 => @bnd (nilV v20x8) ⟨fun v25x12 => @bnd (aFieldAddr Tryz.prog H11 81 v25x12 2) ⟨fun v26x13 => @bnd (aLoad Tryz.prog
  H11 4 v26x13) ⟨fun v27x14 => @bnd (unV Tryz.prog .not v27x14) ⟨fun v28x15 => @kifB v28x15 ⟨k (.tuple #[(.slice none 0 0), (.int .i64 0), (.int .i64 100)]) H11⟩ ⟨@bnd (aLen Tryz.prog H11 27 v22x10) ⟨fun v31x16 => @bnd (aBin2
  Tryz.prog H11 .gtr 3 (.tmp 31) (.const (.int .i64 31)) v31x16 (.int .i64 31)) ⟨fun v32x17 => @kifB v32x17 ⟨k (.tuple #[(.slice none 0 0), (.int .i64 0), (.int .i64 4)]) H11⟩ ⟨@bnd (nilV v20x8) ⟨fun v35x18 => @bnd (aFieldAddr
  Tryz.prog H11 81 v35x18 1) ⟨fun v36x19 => @bnd (aLoad Tryz.prog H11 3 v36x19) ⟨fun v37x20 => k (.tuple #[v22x10, v37x20, (.int .i64 0)]) H11⟩⟩⟩⟩⟩⟩⟩⟩⟩⟩⟩⟩⟩⟩⟩⟩⟩⟩⟩⟩⟩) := by kernel_rfl

end Go.Vi
namespace Go.Vi
open Go Go.Proofs
-- tocsin/tocsinlaw10.great
def L20x0 (n : Nat) (k : Value → AHeap → Prop) (sl : List Value) (H : AHeap) : Prop := kit Tryz.prog (cl (cl (cr (cl (cr (cr (cr (cb Tryz.f20)))))))) n (kblk 0 (kseq Tryz.prog (cr (cr (cr (cr (cb Tryz.f20))))) (kfin Tryz.prog
  Tryz.f20 k))) .normal sl H
def L20x1 (n : Nat) (n0 : Nat) (k : Value → AHeap → Prop) (sl : List Value) (H : AHeap) : Prop := kit Tryz.prog (cl (cl (cr (cr (cl (cl (cr (cl (cl (cr (cl (cr (cr (cr (cb Tryz.f20))))))))))))))) n (kblk 2 (kblk 1 (kseq Tryz.prog
  (cr (cr (cl (cl (cr (cl (cr (cr (cr (cb Tryz.f20)))))))))) (kit Tryz.prog (cl (cl (cr (cl (cr (cr (cr (cb Tryz.f20)))))))) n0 (kblk 0 (kseq Tryz.prog (cr (cr (cr (cr (cb Tryz.f20))))) (kfin Tryz.prog Tryz.f20 k))))))) .normal
  sl H
theorem d20 (a0 : Value) (H : AHeap) (k : Value → AHeap → Prop) : kbody Tryz.prog Tryz.f20 [a0] H k = (@bnd (aLen Tryz.prog H 27 a0) ⟨fun v8x1 => @bnd (aBin2 Tryz.prog H .gtr 3 (.tmp 8) (.const (.int .i64 100)) v8x1 (.int .i64
  100)) ⟨fun v9x2 => @kifB v9x2 ⟨k (.bool true) H⟩ ⟨∃ n, L20x0 n  k [a0, undef, (.bool false), (.int .i64 5000), (.int .i64 0), undef, undef, a0, v8x1, v9x2, undef, undef, undef, undef, undef, undef, undef, undef, undef, undef,
  undef, undef, undef, undef, undef, undef, undef, undef, undef, undef, undef, undef, undef, undef, undef, undef, undef, undef, undef, undef, undef, undef, undef, undef, undef, undef, undef, undef, undef, undef, undef, undef,
  undef, undef, undef, undef, undef, undef, undef, undef, undef, undef, undef, undef, undef, undef] H⟩⟩⟩) := by kernel_rfl
theorem L20x0q (n0 : Nat) (s0 s1 s2 s3 s4 s5 s6 s7 s8 s9 s10 s11 s12 s13 s14 s15 s16 s17 s18 s19 s20 s21 s22 s23 s24 s25 s26 s27 s28 s29 s30 s31 s32 s33 s34 s35 s36 s37 s38 s39 s40 s41 s42 s43 s44 s45 s46 s47 s48 s49 s50 s51 s52
  s53 s54 s55 s56 s57 s58 s59 s60 s61 s62 s63 s64 s65 : Value) (H : AHeap) (k : Value → AHeap → Prop) : L20x0 (n0 + 1) k [s0, s1, s2, s3, s4, s5, s6, s7, s8, s9, s10, s11, s12, s13, s14, s15, s16, s17, s18, s19, s20, s21, s22,
  s23, s24, s25, s26, s27, s28, s29, s30, s31, s32, s33, s34, s35, s36, s37, s38, s39, s40, s41, s42, s43, s44, s45, s46, s47, s48, s49, s50, s51, s52, s53, s54, s55, s56, s57, s58, s59, s60, s61, s62, s63, s64, s65] H = (@bnd
  (aLen Tryz.prog H 27 s0) ⟨fun v12x3 => @bnd (aBin2 Tryz.prog H .lss 3 (.tmp 10) (.tmp 12) s4 v12x3) ⟨fun v13x4 => @kifB v13x4 ⟨@bnd (aIndexAddr Tryz.prog H 27 s0 s4) ⟨fun v18x5 => @bnd (aFieldAddr Tryz.prog H 37 v18x5 2) ⟨fun
  v19x6 => @bnd (aLoad Tryz.prog H 35 v19x6) ⟨fun v20x7 => @bnd (aLen Tryz.prog H 35 v20x7) ⟨fun v21x8 => @bnd (aBin2 Tryz.prog H .gtr 3 (.tmp 21) (.const (.int .i64 100)) v21x8 (.int .i64 100)) ⟨fun v22x9 => @kifB v22x9 ⟨k
  (.bool true) H⟩ ⟨∃ n, L20x1 n n0 k [s0, s1, s2, s3, s4, (.int .i64 0), s6, s7, s8, s9, s4, s0, v12x3, v13x4, s14, s15, s0, s4, v18x5, v19x6, v20x7, v21x8, v22x9, s23, s24, s25, s26, s27, s28, s29, s30, s31, s32, s33, s34, s35,
  s36, s37, s38, s39, s40, s41, s42, s43, s44, s45, s46, s47, s48, s49, s50, s51, s52, s53, s54, s55, s56, s57, s58, s59, s60, s61, s62, s63, s64, s65] H⟩⟩⟩⟩⟩⟩⟩ ⟨k (.bool false) H⟩⟩⟩) := by kernel_rfl
theorem L20x1q (n1 : Nat) (n0 : Nat) (s0 s1 s2 s3 s4 s5 s6 s7 s8 s9 s10 s11 s12 s13 s14 s15 s16 s17 s18 s19 s20 s21 s22 s23 s24 s25 s26 s27 s28 s29 s30 s31 s32 s33 s34 s35 s36 s37 s38 s39 s40 s41 s42 s43 s44 s45 s46 s47 s48 s49
  s50 s51 s52 s53 s54 s55 s56 s57 s58 s59 s60 s61 s62 s63 s64 s65 : Value) (H : AHeap) (k : Value → AHeap → Prop) : L20x1 (n1 + 1) n0 k [s0, s1, s2, s3, s4, s5, s6, s7, s8, s9, s10, s11, s12, s13, s14, s15, s16, s17, s18, s19,
  s20, s21, s22, s23, s24, s25, s26, s27, s28, s29, s30, s31, s32, s33, s34, s35, s36, s37, s38, s39, s40, s41, s42, s43, s44, s45, s46, s47, s48, s49, s50, s51, s52, s53, s54, s55, s56, s57, s58, s59, s60, s61, s62, s63, s64,
  s65] H = (@bnd (aIndexAddr Tryz.prog H 27 s0 s4) ⟨fun v26x10 => @bnd (aFieldAddr Tryz.prog H 37 v26x10 2) ⟨fun v27x11 => @bnd (aLoad Tryz.prog H 35 v27x11) ⟨fun v28x12 => @bnd (aLen Tryz.prog H 35 v28x12) ⟨fun v29x13 => @bnd
  (aBin2 Tryz.prog H .lss 3 (.tmp 23) (.tmp 29) s5 v29x13) ⟨fun v30x14 => @kifB v30x14 ⟨@bnd (aIndexAddr Tryz.prog H 27 s0 s4) ⟨fun v35x15 => @bnd (aFieldAddr Tryz.prog H 37 v35x15 2) ⟨fun v36x16 => @bnd (aLoad Tryz.prog H 35
  v36x16) ⟨fun v37x17 => @bnd (aIndexAddr Tryz.prog H 35 v37x17 s5) ⟨fun v39x18 => @bnd (aLoad Tryz.prog H 75 v39x18) ⟨fun v40x19 => @bndE (aAlloc Tryz.prog H 75) ⟨fun v6x20 H21 => @bndS (aStore Tryz.prog H21 75 v6x20 v40x19)
  ⟨fun _ H23 => @bnd (aFieldAddr Tryz.prog H23 75 v6x20 0) ⟨fun v41x24 => @bnd (aLoad Tryz.prog H23 9 v41x24) ⟨fun v42x25 => @bnd (aLen Tryz.prog H23 9 v42x25) ⟨fun v43x26 => @bnd (aBin2 Tryz.prog H23 .gtr 3 (.tmp 43) (.tmp 44)
  v43x26 s3) ⟨fun v45x27 => @bnd (gif v45x27 false (aFieldAddr Tryz.prog H23 75 v6x20 2) undef) ⟨fun v47x28 => @bnd (gif v45x27 false (aLoad Tryz.prog H23 9 v47x28) undef) ⟨fun v48x29 => @bnd (gif v45x27 false (aLen Tryz.prog H23
  9 v48x29) undef) ⟨fun v49x30 => @bnd (gif v45x27 false ((some s3)) undef) ⟨fun v50x31 => @bnd (gif v45x27 false (aFieldAddr Tryz.prog H23 75 v6x20 0) undef) ⟨fun v51x32 => @bnd (gif v45x27 false (aLoad Tryz.prog H23 9 v51x32)
  undef) ⟨fun v52x33 => @bnd (gif v45x27 false (aLen Tryz.prog H23 9 v52x33) undef) ⟨fun v53x34 => @bnd (gif v45x27 false (aBin2 Tryz.prog H23 .sub 3 (.tmp 50) (.tmp 53) v50x31 v53x34) undef) ⟨fun v54x35 => @bnd (gif v45x27 false
  (aBin2 Tryz.prog H23 .gtr 3 (.tmp 49) (.tmp 54) v49x30 v54x35) undef) ⟨fun v55x36 => @bnd (pickV v45x27 (.bool true) v55x36) ⟨fun v56x37 => @kifB v56x37 ⟨k (.bool true) H23⟩ ⟨@bnd (aFieldAddr Tryz.prog H23 75 v6x20 0) ⟨fun
  v58x38 => @bnd (aLoad Tryz.prog H23 9 v58x38) ⟨fun v59x39 => @bnd (aLen Tryz.prog H23 9 v59x39) ⟨fun v60x40 => @bnd (aBin2 Tryz.prog H23 .sub 3 (.tmp 57) (.tmp 60) s3 v60x40) ⟨fun v61x41 => @bnd (aFieldAddr Tryz.prog H23 75
  v6x20 2) ⟨fun v62x42 => @bnd (aLoad Tryz.prog H23 9 v62x42) ⟨fun v63x43 => @bnd (aLen Tryz.prog H23 9 v63x43) ⟨fun v64x44 => @bnd (aBin2 Tryz.prog H23 .sub 3 (.tmp 61) (.tmp 64) v61x41 v64x44) ⟨fun v65x45 => @bnd (aBin2
  Tryz.prog H23 .add 3 (.tmp 31) (.const (.int .i64 1)) s5 (.int .i64 1)) ⟨fun v32x46 => L20x1 n1 n0 k [s0, s1, s2, v65x45, s4, v32x46, v6x20, s7, s8, s9, s10, s11, s12, s13, s14, s15, s16, s17, s18, s19, s20, s21, s22, s5, s0,
  s4, v26x10, v27x11, v28x12, v29x13, v30x14, s5, v32x46, s0, s4, v35x15, v36x16, v37x17, s5, v39x18, v40x19, v41x24, v42x25, v43x26, s3, v45x27, v45x27, v47x28, v48x29, v49x30, v50x31, v51x32, v52x33, v53x34, v54x35, v55x36,
  v56x37, s3, v58x38, v59x39, v60x40, v61x41, v62x42, v63x43, v64x44, v65x45] H23⟩⟩⟩⟩⟩⟩⟩⟩⟩⟩⟩⟩⟩⟩⟩⟩⟩⟩⟩⟩⟩⟩⟩⟩⟩⟩⟩⟩⟩⟩⟩⟩ ⟨@bnd (aBin2 Tryz.prog H .add 3 (.tmp 14) (.const (.int .i64 1)) s4 (.int .i64 1)) ⟨fun v15x47 => L20x0 n0  k [s0,
  s1, s2, s3, v15x47, s5, s6, s7, s8, s9, s10, s11, s12, s13, s4, v15x47, s16, s17, s18, s19, s20, s21, s22, s5, s0, s4, v26x10, v27x11, v28x12, v29x13, v30x14, s31, s32, s33, s34, s35, s36, s37, s38, s39, s40, s41, s42, s43,
  s44, s45, s46, s47, s48, s49, s50, s51, s52, s53, s54, s55, s56, s57, s58, s59, s60, s61, s62, s63, s64, s65] H⟩⟩⟩⟩⟩⟩⟩) := by kernel_rfl
-- tocsin/expr.Print
theorem d21 (a0 : Value) (H : AHeap) (k : Value → AHeap → Prop) : kbody Tryz.prog Tryz.f21 [a0] H k = (@bndC Tryz.prog 22 [a0] H ⟨fun v5x1 H2 => @bnd (unV Tryz.prog .not v5x1) ⟨fun v6x3 => @kifB v6x3 ⟨k (.string { data := #[] })
  H2⟩ ⟨@bndC Tryz.prog 42 [a0] H2 ⟨fun v8x4 H5 => @bnd (aLen Tryz.prog H5 27 v8x4) ⟨fun v11x6 => @bnd (aBin2 Tryz.prog H5 .sub 3 (.tmp 11) (.const (.int .i64 1)) v11x6 (.int .i64 1)) ⟨fun v12x7 => @bndC Tryz.prog 43 [v8x4, v12x7,
  (.int .i64 0)] H5 ⟨fun v13x8 H9 => k v13x8 H9⟩⟩⟩⟩⟩⟩⟩) := by kernel_rfl
-- tocsin/expr.Right
theorem d22 (a0 : Value) (H : AHeap) (k : Value → AHeap → Prop) : kbody Tryz.prog Tryz.f22 [a0] H k = (@bnd (aLen Tryz.prog H 27 a0) ⟨fun v4x1 => @bnd (aBin2 Tryz.prog H .geq 3 (.tmp 4) (.const (.int .i64 1)) v4x1 (.int .i64 1))
  ⟨fun v5x2 => @bnd (gif v5x2 true ((some a0)) undef) ⟨fun v7x3 => @bnd (gif v5x2 true (aLen Tryz.prog H 27 v7x3) undef) ⟨fun v8x4 => @bnd (gif v5x2 true (aBin2 Tryz.prog H .leq 3 (.tmp 8) (.const (.int .i64 31)) v8x4 (.int .i64
  31)) undef) ⟨fun v9x5 => @bnd (pickV v5x2 v9x5 (.bool false)) ⟨fun v10x6 => @bnd (gif v10x6 true ((some a0)) undef) ⟨fun v12x7 => @bnd (gif v10x6 true ((some a0)) undef) ⟨fun v13x8 => @bnd (gif v10x6 true (aLen Tryz.prog H 27
  v13x8) undef) ⟨fun v14x9 => @bnd (gif v10x6 true (aBin2 Tryz.prog H .sub 3 (.tmp 14) (.const (.int .i64 1)) v14x9 (.int .i64 1)) undef) ⟨fun v15x10 => @bndG v10x6 true H ⟨fun v16x11 H12 => ACalls Tryz.prog 44 [v12x7, v15x10] H
  v16x11 H12⟩ ⟨fun v16x11 H12 => @bnd (gif v10x6 true (aBin2 Tryz.prog H12 .eql 3 (.tmp 16) (.const (.int .i64 0)) v16x11 (.int .i64 0)) undef) ⟨fun v17x13 => @bnd (pickV v10x6 v17x13 (.bool false)) ⟨fun v18x14 => k v18x14
  H12⟩⟩⟩⟩⟩⟩⟩⟩⟩⟩⟩⟩⟩) := by kernel_rfl
-- tocsin/tocsinlaw11.Big
theorem d39 (a0 : Value) (H : AHeap) (k : Value → AHeap → Prop) : kbody Tryz.prog Tryz.f39 [a0] H k = (@bndE (aNew H 9 a0) ⟨fun v1x1 H2 => k (.func (Fn.func 64) #[] #[v1x1]) H2⟩) := by kernel_rfl
-- (*tocsin/expr.reader).condition
theorem d40 (a0 : Value) (H : AHeap) (k : Value → AHeap → Prop) : kbody Tryz.prog Tryz.f40 [a0] H k = (@bndE (aNew H 79 a0) ⟨fun v1x1 H2 => @bndE (aAlloc Tryz.prog H2 27) ⟨fun v3x3 H4 => @bndE (aAlloc Tryz.prog H4 107) ⟨fun v4x5
  H6 => @bndS (aStore Tryz.prog H6 107 v4x5 (.func (Fn.func 67) #[] #[v1x1, v4x5, v3x3])) ⟨fun _ H8 => @bnd (aLoad Tryz.prog H8 107 v4x5) ⟨fun v6x9 => @bndV Tryz.prog v6x9 [(.int .i64 0)] H8 ⟨fun _ H11 => @bnd (aLoad Tryz.prog
  H11 27 v3x3) ⟨fun v8x12 => k v8x12 H11⟩⟩⟩⟩⟩⟩⟩) := by kernel_rfl
-- tocsin/tocsinref08.Same
def L41x0 (n : Nat) (k : Value → AHeap → Prop) (sl : List Value) (H : AHeap) : Prop := kit Tryz.prog (cl (cl (cr (cl (cr (cr (cb Tryz.f41))))))) n (kblk 0 (kseq Tryz.prog (cr (cr (cr (cb Tryz.f41)))) (kfin Tryz.prog Tryz.f41 k)))
  .normal sl H
theorem d41 (a0 a1 : Value) (H : AHeap) (k : Value → AHeap → Prop) : kbody Tryz.prog Tryz.f41 [a0, a1] H k = (@bnd (aLen Tryz.prog H 35 a0) ⟨fun v7x1 => @bnd (aLen Tryz.prog H 35 a1) ⟨fun v9x2 => @bnd (aBin2 Tryz.prog H .neq 3
  (.tmp 7) (.tmp 9) v7x1 v9x2) ⟨fun v10x3 => @kifB v10x3 ⟨k (.bool false) H⟩ ⟨∃ n, L41x0 n  k [a0, a1, undef, undef, (.bool false), (.int .i64 0), a0, v7x1, a1, v9x2, v10x3, undef, undef, undef, undef, undef, undef, undef, undef,
  undef, undef, undef, undef, undef, undef, undef] H⟩⟩⟩⟩) := by kernel_rfl
theorem L41x0q (n0 : Nat) (s0 s1 s2 s3 s4 s5 s6 s7 s8 s9 s10 s11 s12 s13 s14 s15 s16 s17 s18 s19 s20 s21 s22 s23 s24 s25 : Value) (H : AHeap) (k : Value → AHeap → Prop) : L41x0 (n0 + 1) k [s0, s1, s2, s3, s4, s5, s6, s7, s8, s9,
  s10, s11, s12, s13, s14, s15, s16, s17, s18, s19, s20, s21, s22, s23, s24, s25] H = (@bnd (aLen Tryz.prog H 35 s0) ⟨fun v13x4 => @bnd (aBin2 Tryz.prog H .lss 3 (.tmp 11) (.tmp 13) s5 v13x4) ⟨fun v14x5 => @kifB v14x5 ⟨@bnd
  (aIndexAddr Tryz.prog H 35 s0 s5) ⟨fun v19x6 => @bnd (aLoad Tryz.prog H 75 v19x6) ⟨fun v20x7 => @bnd (aIndexAddr Tryz.prog H 35 s1 s5) ⟨fun v23x8 => @bnd (aLoad Tryz.prog H 75 v23x8) ⟨fun v24x9 => @bnd (aBin2 Tryz.prog H .neq
  75 (.tmp 20) (.tmp 24) v20x7 v24x9) ⟨fun v25x10 => @kifB v25x10 ⟨k (.bool false) H⟩ ⟨@bnd (aBin2 Tryz.prog H .add 3 (.tmp 15) (.const (.int .i64 1)) s5 (.int .i64 1)) ⟨fun v16x11 => L41x0 n0  k [s0, s1, s2, s3, s4, v16x11, s6,
  s7, s8, s9, s10, s5, s0, v13x4, v14x5, s5, v16x11, s0, s5, v19x6, v20x7, s1, s5, v23x8, v24x9, v25x10] H⟩⟩⟩⟩⟩⟩⟩⟩ ⟨k (.bool true) H⟩⟩⟩) := by kernel_rfl
-- slices.Clone[[]tocsin/api.Node,tocsin/api.Node]
theorem d42 (a0 : Value) (H : AHeap) (k : Value → AHeap → Prop) : kbody Tryz.prog Tryz.f42 [a0] H k = (@bnd (aBin2 Tryz.prog H .eql 27 (.tmp 3) (.const (.slice none 0 0)) a0 (.slice none 0 0)) ⟨fun v4x1 => @kifB v4x1 ⟨k (.slice
  none 0 0) H⟩ ⟨@bndL Tryz.prog H 27 0 [] ⟨fun v5x2 H3 => @bndE (aBuiltin Tryz.prog H3 Builtin.append #[27, 27] [v5x2, a0]) ⟨fun v7x4 H5 => k v7x4 H5⟩⟩⟩⟩) := by kernel_rfl
-- tocsin/expr.text
def S43x0 (k : Value → AHeap → Prop) (sl : List Value) (H : AHeap) : Prop := kseq Tryz.prog (cr (cr (cr (cr (cb Tryz.f43))))) (kfin Tryz.prog Tryz.f43 k) .normal sl H
theorem d43 (a0 a1 a2 : Value) (H : AHeap) (k : Value → AHeap → Prop) : kbody Tryz.prog Tryz.f43 [a0, a1, a2] H k = (@bnd (aIndexAddr Tryz.prog H 27 a0 a1) ⟨fun v11x1 => @bnd (aLoad Tryz.prog H 37 v11x1) ⟨fun v12x2 => @bndE
  (aAlloc Tryz.prog H 37) ⟨fun v7x3 H4 => @bndS (aStore Tryz.prog H4 37 v7x3 v12x2) ⟨fun _ H6 => @bnd (aFieldAddr Tryz.prog H6 37 v7x3 0) ⟨fun v13x7 => @bnd (aLoad Tryz.prog H6 5 v13x7) ⟨fun v14x8 => @bnd (aBin2 Tryz.prog H6 .eql
  5 (.tmp 14) (.const (.int .u8 0)) v14x8 (.int .u8 0)) ⟨fun v16x9 => @kifB v16x9 ⟨@bndD false H6 ⟨fun v17x10 H11 => ACalls Tryz.prog 71 [] H6 v17x10 H11⟩ ⟨fun v17x10 H11 => @bnd (aFieldAddr Tryz.prog H6 37 v7x3 1) ⟨fun v18x12 =>
  @bnd (aLoad Tryz.prog H6 5 v18x12) ⟨fun v19x13 => @bnd (aIndexAddr Tryz.prog H11 42 v17x10 v19x13) ⟨fun v20x14 => @bnd (aLoad Tryz.prog H11 9 v20x14) ⟨fun v21x15 => @bnd (aBin2 Tryz.prog H11 .add 9 (.tmp 21) (.const (.string {
  data := #[40] })) v21x15 (.string { data := #[40] })) ⟨fun v22x16 => @bnd (aFieldAddr Tryz.prog H6 37 v7x3 2) ⟨fun v23x17 => @bnd (aLoad Tryz.prog H6 35 v23x17) ⟨fun v24x18 => @bndD false H11 ⟨fun v25x19 H20 => ACalls Tryz.prog
  72 [v24x18] H11 v25x19 H20⟩ ⟨fun v25x19 H20 => @bnd (aBin2 Tryz.prog H20 .add 9 (.tmp 22) (.tmp 25) v22x16 v25x19) ⟨fun v26x21 => @bnd (aBin2 Tryz.prog H20 .add 9 (.tmp 26) (.const (.string { data := #[91] })) v26x21 (.string {
  data := #[91] })) ⟨fun v27x22 => @bnd (aFieldAddr Tryz.prog H6 37 v7x3 3) ⟨fun v28x23 => @bnd (aLoad Tryz.prog H6 3 v28x23) ⟨fun v29x24 => @bndD false H20 ⟨fun v30x25 H26 => ACalls Tryz.prog 47 [v29x24] H20 v30x25 H26⟩ ⟨fun
  v30x25 H26 => @bnd (aBin2 Tryz.prog H26 .add 9 (.tmp 27) (.tmp 30) v27x22 v30x25) ⟨fun v31x27 => @bnd (aBin2 Tryz.prog H26 .add 9 (.tmp 31) (.const (.string { data := #[93, 41, 32] })) v31x27 (.string { data := #[93, 41, 32]
  })) ⟨fun v32x28 => @bndD false H26 ⟨fun v33x29 H30 => ACalls Tryz.prog 73 [] H26 v33x29 H30⟩ ⟨fun v33x29 H30 => @bnd (aFieldAddr Tryz.prog H6 37 v7x3 4) ⟨fun v34x31 => @bnd (aLoad Tryz.prog H6 5 v34x31) ⟨fun v35x32 => @bnd
  (aIndexAddr Tryz.prog H30 42 v33x29 v35x32) ⟨fun v36x33 => @bnd (aLoad Tryz.prog H30 9 v36x33) ⟨fun v37x34 => @bnd (aBin2 Tryz.prog H30 .add 9 (.tmp 32) (.tmp 37) v32x28 v37x34) ⟨fun v38x35 => @bnd (aBin2 Tryz.prog H30 .add 9
  (.tmp 38) (.const (.string { data := #[32] })) v38x35 (.string { data := #[32] })) ⟨fun v39x36 => @bnd (aFieldAddr Tryz.prog H6 37 v7x3 5) ⟨fun v40x37 => @bnd (aLoad Tryz.prog H6 2 v40x37) ⟨fun v41x38 => @bndD false H30 ⟨fun
  v42x39 H40 => ACalls Tryz.prog 74 [v41x38] H30 v42x39 H40⟩ ⟨fun v42x39 H40 => @bnd (aBin2 Tryz.prog H40 .add 9 (.tmp 39) (.tmp 42) v39x36 v42x39) ⟨fun v43x41 => S43x0  k [a0, a1, a2, undef, undef, undef, (.string { data := #[]
  }), v7x3, v43x41, a0, a1, v11x1, v12x2, v13x7, v14x8, v16x9, v16x9, v17x10, v18x12, v19x13, v20x14, v21x15, v22x16, v23x17, v24x18, v25x19, v26x21, v27x22, v28x23, v29x24, v30x25, v31x27, v32x28, v33x29, v34x31, v35x32, v36x33,
  v37x34, v38x35, v39x36, v40x37, v41x38, v42x39, v43x41, undef, undef, undef, undef, undef, undef, undef, undef, undef, undef, undef, undef, undef, undef, undef, undef, undef, undef, undef, undef, undef, undef, undef, undef,
  undef, undef, undef, undef, undef, undef, undef, undef, undef, undef, undef, undef, undef, undef, undef] H40⟩⟩⟩⟩⟩⟩⟩⟩⟩⟩⟩⟩⟩⟩⟩⟩⟩⟩⟩⟩⟩⟩⟩⟩⟩⟩⟩⟩ ⟨@bnd (aBin2 Tryz.prog H6 .eql 5 (.tmp 14) (.const (.int .u8 3)) v14x8 (.int .u8 3)) ⟨fun
  v45x42 => @kifB v45x42 ⟨@bnd (aFieldAddr Tryz.prog H6 37 v7x3 6) ⟨fun v47x43 => @bnd (aLoad Tryz.prog H6 3 v47x43) ⟨fun v48x44 => @bndC Tryz.prog 43 [a0, v48x44, (.int .i64 2)] H6 ⟨fun v49x45 H46 => @bnd (aBin2 Tryz.prog H46
  .add 9 (.const (.string { data := #[110, 111, 116, 32] })) (.tmp 49) (.string { data := #[110, 111, 116, 32] }) v49x45) ⟨fun v50x47 => S43x0  k [a0, a1, a2, undef, undef, undef, (.string { data := #[] }), v7x3, v50x47, a0, a1,
  v11x1, v12x2, v13x7, v14x8, v16x9, v16x9, undef, undef, undef, undef, undef, undef, undef, undef, undef, undef, undef, undef, undef, undef, undef, undef, undef, undef, undef, undef, undef, undef, undef, undef, undef, undef,
  undef, v45x42, v45x42, a0, v47x43, v48x44, v49x45, v50x47, undef, undef, undef, undef, undef, undef, undef, undef, undef, undef, undef, undef, undef, undef, undef, undef, undef, undef, undef, undef, undef, undef, undef, undef,
  undef, undef, undef, undef, undef, undef, undef, undef] H46⟩⟩⟩⟩⟩ ⟨@bnd (aBin2 Tryz.prog H6 .eql 5 (.tmp 14) (.const (.int .u8 1)) v14x8 (.int .u8 1)) ⟨fun v52x48 => @kifB v52x48 ⟨@bnd (aFieldAddr Tryz.prog H6 37 v7x3 6) ⟨fun
  v54x49 => @bnd (aLoad Tryz.prog H6 3 v54x49) ⟨fun v55x50 => @bndD false H6 ⟨fun v56x51 H52 => ACalls Tryz.prog 43 [a0, v55x50, (.int .i64 1)] H6 v56x51 H52⟩ ⟨fun v56x51 H52 => @bnd (aBin2 Tryz.prog H52 .add 9 (.tmp 56) (.const
  (.string { data := #[32, 97, 110, 100, 32] })) v56x51 (.string { data := #[32, 97, 110, 100, 32] })) ⟨fun v57x53 => @bnd (aFieldAddr Tryz.prog H6 37 v7x3 7) ⟨fun v59x54 => @bnd (aLoad Tryz.prog H6 3 v59x54) ⟨fun v60x55 => @bndD
  false H52 ⟨fun v61x56 H57 => ACalls Tryz.prog 43 [a0, v60x55, (.int .i64 2)] H52 v61x56 H57⟩ ⟨fun v61x56 H57 => @bnd (aBin2 Tryz.prog H57 .add 9 (.tmp 57) (.tmp 61) v57x53 v61x56) ⟨fun v62x58 => S43x0  k [a0, a1, a2, undef,
  undef, undef, (.string { data := #[] }), v7x3, v62x58, a0, a1, v11x1, v12x2, v13x7, v14x8, v16x9, v16x9, undef, undef, undef, undef, undef, undef, undef, undef, undef, undef, undef, undef, undef, undef, undef, undef, undef,
  undef, undef, undef, undef, undef, undef, undef, undef, undef, undef, v45x42, v45x42, undef, undef, undef, undef, undef, v52x48, v52x48, a0, v54x49, v55x50, v56x51, v57x53, a0, v59x54, v60x55, v61x56, v62x58, undef, undef,
  undef, undef, undef, undef, undef, undef, undef, undef, undef, undef, undef, undef, undef, undef, undef, undef, undef, undef] H57⟩⟩⟩⟩⟩⟩⟩⟩⟩ ⟨@bnd (aBin2 Tryz.prog H6 .eql 5 (.tmp 14) (.const (.int .u8 2)) v14x8 (.int .u8 2))
  ⟨fun v64x59 => @kifB v64x59 ⟨@bnd (aFieldAddr Tryz.prog H6 37 v7x3 6) ⟨fun v66x60 => @bnd (aLoad Tryz.prog H6 3 v66x60) ⟨fun v67x61 => @bndD false H6 ⟨fun v68x62 H63 => ACalls Tryz.prog 43 [a0, v67x61, (.int .i64 0)] H6 v68x62
  H63⟩ ⟨fun v68x62 H63 => @bnd (aBin2 Tryz.prog H63 .add 9 (.tmp 68) (.const (.string { data := #[32, 111, 114, 32] })) v68x62 (.string { data := #[32, 111, 114, 32] })) ⟨fun v69x64 => @bnd (aFieldAddr Tryz.prog H6 37 v7x3 7)
  ⟨fun v71x65 => @bnd (aLoad Tryz.prog H6 3 v71x65) ⟨fun v72x66 => @bndD false H63 ⟨fun v73x67 H68 => ACalls Tryz.prog 43 [a0, v72x66, (.int .i64 1)] H63 v73x67 H68⟩ ⟨fun v73x67 H68 => @bnd (aBin2 Tryz.prog H68 .add 9 (.tmp 69)
  (.tmp 73) v69x64 v73x67) ⟨fun v74x69 => S43x0  k [a0, a1, a2, undef, undef, undef, (.string { data := #[] }), v7x3, v74x69, a0, a1, v11x1, v12x2, v13x7, v14x8, v16x9, v16x9, undef, undef, undef, undef, undef, undef, undef,
  undef, undef, undef, undef, undef, undef, undef, undef, undef, undef, undef, undef, undef, undef, undef, undef, undef, undef, undef, undef, v45x42, v45x42, undef, undef, undef, undef, undef, v52x48, v52x48, undef, undef, undef,
  undef, undef, undef, undef, undef, undef, undef, v64x59, v64x59, a0, v66x60, v67x61, v68x62, v69x64, a0, v71x65, v72x66, v73x67, v74x69, undef, undef, undef, undef, undef, undef, undef, undef] H68⟩⟩⟩⟩⟩⟩⟩⟩⟩ ⟨S43x0  k [a0, a1,
  a2, undef, undef, undef, (.string { data := #[] }), v7x3, (.string { data := #[] }), a0, a1, v11x1, v12x2, v13x7, v14x8, v16x9, v16x9, undef, undef, undef, undef, undef, undef, undef, undef, undef, undef, undef, undef, undef,
  undef, undef, undef, undef, undef, undef, undef, undef, undef, undef, undef, undef, undef, undef, v45x42, v45x42, undef, undef, undef, undef, undef, v52x48, v52x48, undef, undef, undef, undef, undef, undef, undef, undef, undef,
  undef, v64x59, v64x59, undef, undef, undef, undef, undef, undef, undef, undef, undef, undef, undef, undef, undef, undef, undef, undef, undef, undef] H6⟩⟩⟩⟩⟩⟩⟩⟩⟩⟩⟩⟩⟩⟩) := by kernel_rfl
theorem S43x0q (s0 s1 s2 s3 s4 s5 s6 s7 s8 s9 s10 s11 s12 s13 s14 s15 s16 s17 s18 s19 s20 s21 s22 s23 s24 s25 s26 s27 s28 s29 s30 s31 s32 s33 s34 s35 s36 s37 s38 s39 s40 s41 s42 s43 s44 s45 s46 s47 s48 s49 s50 s51 s52 s53 s54 s55
  s56 s57 s58 s59 s60 s61 s62 s63 s64 s65 s66 s67 s68 s69 s70 s71 s72 s73 s74 s75 s76 s77 s78 s79 s80 s81 s82 : Value) (H : AHeap) (k : Value → AHeap → Prop) : S43x0 k [s0, s1, s2, s3, s4, s5, s6, s7, s8, s9, s10, s11, s12, s13,
  s14, s15, s16, s17, s18, s19, s20, s21, s22, s23, s24, s25, s26, s27, s28, s29, s30, s31, s32, s33, s34, s35, s36, s37, s38, s39, s40, s41, s42, s43, s44, s45, s46, s47, s48, s49, s50, s51, s52, s53, s54, s55, s56, s57, s58,
  s59, s60, s61, s62, s63, s64, s65, s66, s67, s68, s69, s70, s71, s72, s73, s74, s75, s76, s77, s78, s79, s80, s81, s82] H = (@bnd (aLoad Tryz.prog H 37 s7) ⟨fun v75x70 => @bndC Tryz.prog 75 [v75x70] H ⟨fun v76x71 H72 => @bnd
  (aBin2 Tryz.prog H72 .lss 3 (.tmp 76) (.tmp 77) v76x71 s2) ⟨fun v78x73 => @kifB v78x73 ⟨@bnd (aBin2 Tryz.prog H72 .add 9 (.const (.string { data := #[40] })) (.tmp 79) (.string { data := #[40] }) s8) ⟨fun v80x74 => @bnd (aBin2
  Tryz.prog H72 .add 9 (.tmp 80) (.const (.string { data := #[41] })) v80x74 (.string { data := #[41] })) ⟨fun v81x75 => k v81x75 H72⟩⟩⟩ ⟨k s8 H72⟩⟩⟩⟩) := by kernel_rfl
-- tocsin/expr.begin
def S44x0 (k : Value → AHeap → Prop) (sl : List Value) (H : AHeap) : Prop := kseq Tryz.prog (cr (cr (cr (cr (cb Tryz.f44))))) (kfin Tryz.prog Tryz.f44 k) .normal sl H
def S44x1 (k : Value → AHeap → Prop) (sl : List Value) (H : AHeap) : Prop := kseq Tryz.prog (cr (cr (cr (cr (cr (cl (cr (cl (cr (cr (cr (cb Tryz.f44)))))))))))) (kblk 0 (kseq Tryz.prog (cr (cr (cr (cr (cb Tryz.f44))))) (kfin
  Tryz.prog Tryz.f44 k))) .normal sl H
theorem d44 (a0 a1 : Value) (H : AHeap) (k : Value → AHeap → Prop) : kbody Tryz.prog Tryz.f44 [a0, a1] H k = (@bnd (aBin2 Tryz.prog H .lss 3 (.tmp 7) (.const (.int .i64 0)) a1 (.int .i64 0)) ⟨fun v8x1 => @kifB v8x1 ⟨k (.int .i64
  (-1)) H⟩ ⟨@bnd (aIndexAddr Tryz.prog H 27 a0 a1) ⟨fun v11x2 => @bnd (aLoad Tryz.prog H 37 v11x2) ⟨fun v12x3 => @bndE (aAlloc Tryz.prog H 37) ⟨fun v5x4 H5 => @bndS (aStore Tryz.prog H5 37 v5x4 v12x3) ⟨fun _ H7 => @bnd
  (aFieldAddr Tryz.prog H7 37 v5x4 0) ⟨fun v13x8 => @bnd (aLoad Tryz.prog H7 5 v13x8) ⟨fun v14x9 => @bnd (aBin2 Tryz.prog H7 .eql 5 (.tmp 14) (.const (.int .u8 0)) v14x9 (.int .u8 0)) ⟨fun v16x10 => @kifB v16x10 ⟨@bnd (aLoad
  Tryz.prog H7 37 v5x4) ⟨fun v17x11 => @bndC Tryz.prog 76 [v17x11] H7 ⟨fun v18x12 H13 => @kifB v18x12 ⟨k a1 H13⟩ ⟨S44x0  k [a0, a1, undef, undef, (.int .i64 0), v5x4, undef, a1, v8x1, a0, a1, v11x2, v12x3, v13x8, v14x9, v16x10,
  v16x10, v17x11, v18x12, undef, undef, undef, undef, undef, undef, undef, undef, undef, undef, undef, undef, undef, undef, undef, undef, undef, undef, undef, undef, undef, undef, undef, undef, undef, undef, undef, undef, undef,
  undef, undef, undef, undef, undef, undef, undef, undef, undef, undef, undef, undef, undef, undef, undef, undef, undef, undef, undef, undef, undef, undef, undef] H13⟩⟩⟩⟩ ⟨@bnd (aBin2 Tryz.prog H7 .eql 5 (.tmp 14) (.const (.int
  .u8 3)) v14x9 (.int .u8 3)) ⟨fun v21x14 => @kifB v21x14 ⟨@bnd (aLoad Tryz.prog H7 37 v5x4) ⟨fun v22x15 => @bndC Tryz.prog 77 [v22x15] H7 ⟨fun v23x16 H17 => @bnd (gif v23x16 true (aFieldAddr Tryz.prog H17 37 v5x4 6) undef) ⟨fun
  v25x18 => @bnd (gif v23x16 true (aLoad Tryz.prog H17 3 v25x18) undef) ⟨fun v26x19 => @bnd (gif v23x16 true ((some a1)) undef) ⟨fun v27x20 => @bnd (gif v23x16 true (aBin2 Tryz.prog H17 .sub 3 (.tmp 27) (.const (.int .i64 1))
  v27x20 (.int .i64 1)) undef) ⟨fun v28x21 => @bnd (gif v23x16 true (aBin2 Tryz.prog H17 .eql 3 (.tmp 26) (.tmp 28) v26x19 v28x21) undef) ⟨fun v29x22 => @bnd (pickV v23x16 v29x22 (.bool false)) ⟨fun v30x23 => @bnd (gif v30x23
  true (aFieldAddr Tryz.prog H17 37 v5x4 7) undef) ⟨fun v32x24 => @bnd (gif v30x23 true (aLoad Tryz.prog H17 3 v32x24) undef) ⟨fun v33x25 => @bnd (gif v30x23 true (aBin2 Tryz.prog H17 .eql 3 (.tmp 33) (.const (.int .i64 0))
  v33x25 (.int .i64 0)) undef) ⟨fun v34x26 => @bnd (pickV v30x23 v34x26 (.bool false)) ⟨fun v35x27 => @kifB v35x27 ⟨@bnd (aBin2 Tryz.prog H17 .sub 3 (.tmp 37) (.const (.int .i64 1)) a1 (.int .i64 1)) ⟨fun v38x28 => @bndC
  Tryz.prog 44 [a0, v38x28] H17 ⟨fun v39x29 H30 => k v39x29 H30⟩⟩⟩ ⟨S44x0  k [a0, a1, undef, undef, (.int .i64 0), v5x4, undef, a1, v8x1, a0, a1, v11x2, v12x3, v13x8, v14x9, v16x10, v16x10, undef, undef, undef, v21x14, v21x14,
  v22x15, v23x16, v23x16, v25x18, v26x19, v27x20, v28x21, v29x22, v30x23, v30x23, v32x24, v33x25, v34x26, v35x27, undef, undef, undef, undef, undef, undef, undef, undef, undef, undef, undef, undef, undef, undef, undef, undef,
  undef, undef, undef, undef, undef, undef, undef, undef, undef, undef, undef, undef, undef, undef, undef, undef, undef, undef, undef] H17⟩⟩⟩⟩⟩⟩⟩⟩⟩⟩⟩⟩⟩⟩ ⟨@bnd (aBin2 Tryz.prog H7 .eql 5 (.tmp 14) (.const (.int .u8 1)) v14x9 (.int
  .u8 1)) ⟨fun v41x31 => @kifB v41x31 ⟨S44x1  k [a0, a1, undef, undef, (.int .i64 0), v5x4, undef, a1, v8x1, a0, a1, v11x2, v12x3, v13x8, v14x9, v16x10, v16x10, undef, undef, undef, v21x14, v21x14, undef, undef, undef, undef,
  undef, undef, undef, undef, undef, undef, undef, undef, undef, undef, undef, undef, undef, undef, v41x31, v41x31, undef, undef, undef, undef, undef, undef, undef, undef, undef, undef, undef, undef, undef, undef, undef, undef,
  undef, undef, undef, undef, undef, undef, undef, undef, undef, undef, undef, undef, undef] H7⟩ ⟨@bnd (aBin2 Tryz.prog H7 .eql 5 (.tmp 14) (.const (.int .u8 2)) v14x9 (.int .u8 2)) ⟨fun v42x32 => S44x1  k [a0, a1, undef, undef,
  (.int .i64 0), v5x4, undef, a1, v8x1, a0, a1, v11x2, v12x3, v13x8, v14x9, v16x10, v16x10, undef, undef, undef, v21x14, v21x14, undef, undef, undef, undef, undef, undef, undef, undef, undef, undef, undef, undef, undef, undef,
  undef, undef, undef, undef, v42x32, v41x31, v42x32, undef, undef, undef, undef, undef, undef, undef, undef, undef, undef, undef, undef, undef, undef, undef, undef, undef, undef, undef, undef, undef, undef, undef, undef, undef,
  undef, undef, undef] H7⟩⟩⟩⟩⟩⟩⟩⟩⟩⟩⟩⟩⟩⟩⟩) := by kernel_rfl
theorem S44x0q (s0 s1 s2 s3 s4 s5 s6 s7 s8 s9 s10 s11 s12 s13 s14 s15 s16 s17 s18 s19 s20 s21 s22 s23 s24 s25 s26 s27 s28 s29 s30 s31 s32 s33 s34 s35 s36 s37 s38 s39 s40 s41 s42 s43 s44 s45 s46 s47 s48 s49 s50 s51 s52 s53 s54 s55
  s56 s57 s58 s59 s60 s61 s62 s63 s64 s65 s66 s67 s68 s69 s70 : Value) (H : AHeap) (k : Value → AHeap → Prop) : S44x0 k [s0, s1, s2, s3, s4, s5, s6, s7, s8, s9, s10, s11, s12, s13, s14, s15, s16, s17, s18, s19, s20, s21, s22,
  s23, s24, s25, s26, s27, s28, s29, s30, s31, s32, s33, s34, s35, s36, s37, s38, s39, s40, s41, s42, s43, s44, s45, s46, s47, s48, s49, s50, s51, s52, s53, s54, s55, s56, s57, s58, s59, s60, s61, s62, s63, s64, s65, s66, s67,
  s68, s69, s70] H = (k (.int .i64 (-1)) H) := by kernel_rfl
theorem S44x1q (s0 s1 s2 s3 s4 s5 s6 s7 s8 s9 s10 s11 s12 s13 s14 s15 s16 s17 s18 s19 s20 s21 s22 s23 s24 s25 s26 s27 s28 s29 s30 s31 s32 s33 s34 s35 s36 s37 s38 s39 s40 s41 s42 s43 s44 s45 s46 s47 s48 s49 s50 s51 s52 s53 s54 s55
  s56 s57 s58 s59 s60 s61 s62 s63 s64 s65 s66 s67 s68 s69 s70 : Value) (H : AHeap) (k : Value → AHeap → Prop) : S44x1 k [s0, s1, s2, s3, s4, s5, s6, s7, s8, s9, s10, s11, s12, s13, s14, s15, s16, s17, s18, s19, s20, s21, s22,
  s23, s24, s25, s26, s27, s28, s29, s30, s31, s32, s33, s34, s35, s36, s37, s38, s39, s40, s41, s42, s43, s44, s45, s46, s47, s48, s49, s50, s51, s52, s53, s54, s55, s56, s57, s58, s59, s60, s61, s62, s63, s64, s65, s66, s67,
  s68, s69, s70] H = (@kifB s40 ⟨@bnd (aBin2 Tryz.prog H .sub 3 (.tmp 44) (.const (.int .i64 1)) s1 (.int .i64 1)) ⟨fun v45x33 => @bndC Tryz.prog 44 [s0, v45x33] H ⟨fun v46x34 H35 => @bnd (aLoad Tryz.prog H35 37 s5) ⟨fun v47x36
  => @bndC Tryz.prog 77 [v47x36] H35 ⟨fun v48x37 H38 => @bnd (gif v48x37 true (aFieldAddr Tryz.prog H38 37 s5 7) undef) ⟨fun v50x39 => @bnd (gif v48x37 true (aLoad Tryz.prog H38 3 v50x39) undef) ⟨fun v51x40 => @bnd (gif v48x37
  true ((some s1)) undef) ⟨fun v52x41 => @bnd (gif v48x37 true (aBin2 Tryz.prog H38 .sub 3 (.tmp 52) (.const (.int .i64 1)) v52x41 (.int .i64 1)) undef) ⟨fun v53x42 => @bnd (gif v48x37 true (aBin2 Tryz.prog H38 .eql 3 (.tmp 51)
  (.tmp 53) v51x40 v53x42) undef) ⟨fun v54x43 => @bnd (pickV v48x37 v54x43 (.bool false)) ⟨fun v55x44 => @bnd (gif v55x44 true ((some v46x34)) undef) ⟨fun v57x45 => @bnd (gif v55x44 true (aBin2 Tryz.prog H38 .gtr 3 (.tmp 57)
  (.const (.int .i64 0)) v57x45 (.int .i64 0)) undef) ⟨fun v58x46 => @bnd (pickV v55x44 v58x46 (.bool false)) ⟨fun v59x47 => @bnd (gif v59x47 true (aFieldAddr Tryz.prog H38 37 s5 6) undef) ⟨fun v61x48 => @bnd (gif v59x47 true
  (aLoad Tryz.prog H38 3 v61x48) undef) ⟨fun v62x49 => @bnd (gif v59x47 true ((some v46x34)) undef) ⟨fun v63x50 => @bnd (gif v59x47 true (aBin2 Tryz.prog H38 .sub 3 (.tmp 63) (.const (.int .i64 1)) v63x50 (.int .i64 1)) undef)
  ⟨fun v64x51 => @bnd (gif v59x47 true (aBin2 Tryz.prog H38 .eql 3 (.tmp 62) (.tmp 64) v62x49 v64x51) undef) ⟨fun v65x52 => @bnd (pickV v59x47 v65x52 (.bool false)) ⟨fun v66x53 => @kifB v66x53 ⟨@bnd (aBin2 Tryz.prog H38 .sub 3
  (.tmp 68) (.const (.int .i64 1)) v46x34 (.int .i64 1)) ⟨fun v69x54 => @bndC Tryz.prog 44 [s0, v69x54] H38 ⟨fun v70x55 H56 => k v70x55 H56⟩⟩⟩ ⟨S44x0  k [s0, s1, s2, s3, s4, s5, v46x34, s7, s8, s9, s10, s11, s12, s13, s14, s15,
  s16, s17, s18, s19, s20, s21, s22, s23, s24, s25, s26, s27, s28, s29, s30, s31, s32, s33, s34, s35, s36, s37, s38, s39, s40, s41, s42, s0, s1, v45x33, v46x34, v47x36, v48x37, v48x37, v50x39, v51x40, v52x41, v53x42, v54x43,
  v55x44, v55x44, v57x45, v58x46, v59x47, v59x47, v61x48, v62x49, v63x50, v64x51, v65x52, v66x53, s67, s68, s69, s70] H38⟩⟩⟩⟩⟩⟩⟩⟩⟩⟩⟩⟩⟩⟩⟩⟩⟩⟩⟩⟩⟩ ⟨S44x0  k [s0, s1, s2, s3, s4, s5, s6, s7, s8, s9, s10, s11, s12, s13, s14, s15, s16,
  s17, s18, s19, s20, s21, s22, s23, s24, s25, s26, s27, s28, s29, s30, s31, s32, s33, s34, s35, s36, s37, s38, s39, s40, s41, s42, s43, s44, s45, s46, s47, s48, s49, s50, s51, s52, s53, s54, s55, s56, s57, s58, s59, s60, s61,
  s62, s63, s64, s65, s66, s67, s68, s69, s70] H⟩) := by kernel_rfl
-- tocsin/tocsinlaw11.big
end Go.Vi
namespace Go.Vi
open Go Go.Proofs
-- strings.Join
def S46x0 (k : Value → AHeap → Prop) (sl : List Value) (H : AHeap) : Prop := kseq Tryz.prog (cr (cl (cr (cl (cr (cr (cr (cb Tryz.f46)))))))) (kseq Tryz.prog (cr (cr (cr (cr (cb Tryz.f46))))) (kfin Tryz.prog Tryz.f46 k)) .normal
  sl H
def S46x1 (k : Value → AHeap → Prop) (sl : List Value) (H : AHeap) : Prop := kseq Tryz.prog (cr (cr (cr (cr (cb Tryz.f46))))) (kfin Tryz.prog Tryz.f46 k) .normal sl H
def L46x0 (n : Nat) (k : Value → AHeap → Prop) (sl : List Value) (H : AHeap) : Prop := kit Tryz.prog (cl (cl (cr (cl (cr (cr (cr (cr (cb Tryz.f46))))))))) n (kblk 1 (kseq Tryz.prog (cr (cr (cr (cr (cr (cb Tryz.f46)))))) (kfin
  Tryz.prog Tryz.f46 k))) .normal sl H
def S46x2 (n0 : Nat) (k : Value → AHeap → Prop) (sl : List Value) (H : AHeap) : Prop := kseq Tryz.prog (cr (cr (cl (cl (cr (cr (cl (cl (cr (cl (cr (cr (cr (cr (cb Tryz.f46))))))))))))))) (kblk 2 (kseq Tryz.prog (cr (cr (cr (cl
  (cl (cr (cl (cr (cr (cr (cr (cb Tryz.f46)))))))))))) (kit Tryz.prog (cl (cl (cr (cl (cr (cr (cr (cr (cb Tryz.f46))))))))) n0 (kblk 1 (kseq Tryz.prog (cr (cr (cr (cr (cr (cb Tryz.f46)))))) (kfin Tryz.prog Tryz.f46 k))))))
  .normal sl H
def L46x1 (n : Nat) (k : Value → AHeap → Prop) (sl : List Value) (H : AHeap) : Prop := kit Tryz.prog (cl (cl (cr (cl (cr (cr (cr (cr (cr (cr (cr (cr (cb Tryz.f46))))))))))))) n (kblk 3 (kseq Tryz.prog (cr (cr (cr (cr (cr (cr (cr
  (cr (cr (cb Tryz.f46)))))))))) (kfin Tryz.prog Tryz.f46 k))) .normal sl H
theorem d46 (a0 a1 : Value) (H : AHeap) (k : Value → AHeap → Prop) : kbody Tryz.prog Tryz.f46 [a0, a1] H k = (@bnd (aLen Tryz.prog H 42 a0) ⟨fun v12x1 => @bnd (aBin2 Tryz.prog H .eql 3 (.tmp 12) (.const (.int .i64 0)) v12x1 (.int
  .i64 0)) ⟨fun v14x2 => @kifB v14x2 ⟨k (.string { data := #[] }) H⟩ ⟨@bnd (aBin2 Tryz.prog H .eql 3 (.tmp 12) (.const (.int .i64 1)) v12x1 (.int .i64 1)) ⟨fun v16x3 => @kifB v16x3 ⟨@bnd (aIndexAddr Tryz.prog H 42 a0 (.int .i64
  0)) ⟨fun v18x4 => @bnd (aLoad Tryz.prog H 9 v18x4) ⟨fun v19x5 => k v19x5 H⟩⟩⟩ ⟨@bnd (aLen Tryz.prog H 9 a1) ⟨fun v21x6 => @bnd (aBin2 Tryz.prog H .gtr 3 (.tmp 21) (.const (.int .i64 0)) v21x6 (.int .i64 0)) ⟨fun v22x7 => @kifB
  v22x7 ⟨@bnd (aLen Tryz.prog H 9 a1) ⟨fun v24x8 => @bnd (aLen Tryz.prog H 42 a0) ⟨fun v26x9 => @bnd (aBin2 Tryz.prog H .sub 3 (.tmp 26) (.const (.int .i64 1)) v26x9 (.int .i64 1)) ⟨fun v27x10 => @bnd (aBin2 Tryz.prog H .quo 3
  (.const (.int .i64 9223372036854775807)) (.tmp 27) (.int .i64 9223372036854775807) v27x10) ⟨fun v28x11 => @bnd (aBin2 Tryz.prog H .geq 3 (.tmp 24) (.tmp 28) v24x8 v28x11) ⟨fun v29x12 => @kifB v29x12 ⟨@bndE (none) ⟨fun _ H14 =>
  S46x0  k [a0, a1, undef, undef, (.string { data := #[] }), (.int .i64 0), undef, undef, undef, undef, undef, a0, v12x1, v14x2, v14x2, v16x3, v16x3, undef, undef, undef, a1, v21x6, v22x7, a1, v24x8, a0, v26x9, v27x10, v28x11,
  v29x12, (.iface 9 (.string { data := #[115, 116, 114, 105, 110, 103, 115, 58, 32, 74, 111, 105, 110, 32, 111, 117, 116, 112, 117, 116, 32, 108, 101, 110, 103, 116, 104, 32, 111, 118, 101, 114, 102, 108, 111, 119] })), undef,
  undef, undef, undef, undef, undef, undef, undef, undef, undef, undef, undef, undef, undef, undef, undef, undef, undef, undef, undef, undef, undef, undef, undef, undef, undef, undef, undef, undef, undef, undef, undef, undef,
  undef, undef, undef, undef, undef, undef, undef, undef, undef, undef, undef] H14⟩⟩ ⟨S46x0  k [a0, a1, undef, undef, (.string { data := #[] }), (.int .i64 0), undef, undef, undef, undef, undef, a0, v12x1, v14x2, v14x2, v16x3,
  v16x3, undef, undef, undef, a1, v21x6, v22x7, a1, v24x8, a0, v26x9, v27x10, v28x11, v29x12, undef, undef, undef, undef, undef, undef, undef, undef, undef, undef, undef, undef, undef, undef, undef, undef, undef, undef, undef,
  undef, undef, undef, undef, undef, undef, undef, undef, undef, undef, undef, undef, undef, undef, undef, undef, undef, undef, undef, undef, undef, undef, undef, undef, undef, undef] H⟩⟩⟩⟩⟩⟩⟩ ⟨S46x1  k [a0, a1, undef, undef,
  (.string { data := #[] }), (.int .i64 0), undef, undef, undef, undef, undef, a0, v12x1, v14x2, v14x2, v16x3, v16x3, undef, undef, undef, a1, v21x6, v22x7, undef, undef, undef, undef, undef, undef, undef, undef, undef, undef,
  undef, undef, undef, undef, undef, undef, undef, undef, undef, undef, undef, undef, undef, undef, undef, undef, undef, undef, undef, undef, undef, undef, undef, undef, undef, undef, undef, undef, undef, undef, undef, undef,
  undef, undef, undef, undef, undef, undef, undef, undef, undef, undef] H⟩⟩⟩⟩⟩⟩⟩⟩) := by kernel_rfl
theorem S46x0q (s0 s1 s2 s3 s4 s5 s6 s7 s8 s9 s10 s11 s12 s13 s14 s15 s16 s17 s18 s19 s20 s21 s22 s23 s24 s25 s26 s27 s28 s29 s30 s31 s32 s33 s34 s35 s36 s37 s38 s39 s40 s41 s42 s43 s44 s45 s46 s47 s48 s49 s50 s51 s52 s53 s54 s55
  s56 s57 s58 s59 s60 s61 s62 s63 s64 s65 s66 s67 s68 s69 s70 s71 s72 s73 s74 : Value) (H : AHeap) (k : Value → AHeap → Prop) : S46x0 k [s0, s1, s2, s3, s4, s5, s6, s7, s8, s9, s10, s11, s12, s13, s14, s15, s16, s17, s18, s19,
  s20, s21, s22, s23, s24, s25, s26, s27, s28, s29, s30, s31, s32, s33, s34, s35, s36, s37, s38, s39, s40, s41, s42, s43, s44, s45, s46, s47, s48, s49, s50, s51, s52, s53, s54, s55, s56, s57, s58, s59, s60, s61, s62, s63, s64,
  s65, s66, s67, s68, s69, s70, s71, s72, s73, s74] H = (@bnd (aLen Tryz.prog H 9 s1) ⟨fun v33x15 => @bnd (aLen Tryz.prog H 42 s0) ⟨fun v35x16 => @bnd (aBin2 Tryz.prog H .sub 3 (.tmp 35) (.const (.int .i64 1)) v35x16 (.int .i64
  1)) ⟨fun v36x17 => @bnd (aBin2 Tryz.prog H .mul 3 (.tmp 33) (.tmp 36) v33x15 v36x17) ⟨fun v37x18 => @bnd (aBin2 Tryz.prog H .add 3 (.tmp 31) (.tmp 37) s5 v37x18) ⟨fun v38x19 => S46x1  k [s0, s1, s2, s3, s4, v38x19, s6, s7, s8,
  s9, s10, s11, s12, s13, s14, s15, s16, s17, s18, s19, s20, s21, s22, s23, s24, s25, s26, s27, s28, s29, s30, s5, s1, v33x15, s0, v35x16, v36x17, v37x18, v38x19, s39, s40, s41, s42, s43, s44, s45, s46, s47, s48, s49, s50, s51,
  s52, s53, s54, s55, s56, s57, s58, s59, s60, s61, s62, s63, s64, s65, s66, s67, s68, s69, s70, s71, s72, s73, s74] H⟩⟩⟩⟩⟩) := by kernel_rfl
theorem S46x1q (s0 s1 s2 s3 s4 s5 s6 s7 s8 s9 s10 s11 s12 s13 s14 s15 s16 s17 s18 s19 s20 s21 s22 s23 s24 s25 s26 s27 s28 s29 s30 s31 s32 s33 s34 s35 s36 s37 s38 s39 s40 s41 s42 s43 s44 s45 s46 s47 s48 s49 s50 s51 s52 s53 s54 s55
  s56 s57 s58 s59 s60 s61 s62 s63 s64 s65 s66 s67 s68 s69 s70 s71 s72 s73 s74 : Value) (H : AHeap) (k : Value → AHeap → Prop) : S46x1 k [s0, s1, s2, s3, s4, s5, s6, s7, s8, s9, s10, s11, s12, s13, s14, s15, s16, s17, s18, s19,
  s20, s21, s22, s23, s24, s25, s26, s27, s28, s29, s30, s31, s32, s33, s34, s35, s36, s37, s38, s39, s40, s41, s42, s43, s44, s45, s46, s47, s48, s49, s50, s51, s52, s53, s54, s55, s56, s57, s58, s59, s60, s61, s62, s63, s64,
  s65, s66, s67, s68, s69, s70, s71, s72, s73, s74] H = (@bnd (aLen Tryz.prog H 42 s0) ⟨fun v40x20 => ∃ n, L46x0 n  k [s0, s1, s2, s3, s4, s5, s6, s7, s8, s9, s10, s11, s12, s13, s14, s15, s16, s17, s18, s19, s20, s21, s22, s23,
  s24, s25, s26, s27, s28, s29, s30, s31, s32, s33, s34, s35, s36, s37, s38, s0, v40x20, (.int .i64 0), s42, s43, s44, s45, s46, s47, s48, s49, s50, s51, s52, s53, s54, s55, s56, s57, s58, s59, s60, s61, s62, s63, s64, s65, s66,
  s67, s68, s69, s70, s71, s72, s73, s74] H⟩) := by kernel_rfl
theorem L46x0q (n0 : Nat) (s0 s1 s2 s3 s4 s5 s6 s7 s8 s9 s10 s11 s12 s13 s14 s15 s16 s17 s18 s19 s20 s21 s22 s23 s24 s25 s26 s27 s28 s29 s30 s31 s32 s33 s34 s35 s36 s37 s38 s39 s40 s41 s42 s43 s44 s45 s46 s47 s48 s49 s50 s51 s52
  s53 s54 s55 s56 s57 s58 s59 s60 s61 s62 s63 s64 s65 s66 s67 s68 s69 s70 s71 s72 s73 s74 : Value) (H : AHeap) (k : Value → AHeap → Prop) : L46x0 (n0 + 1) k [s0, s1, s2, s3, s4, s5, s6, s7, s8, s9, s10, s11, s12, s13, s14, s15,
  s16, s17, s18, s19, s20, s21, s22, s23, s24, s25, s26, s27, s28, s29, s30, s31, s32, s33, s34, s35, s36, s37, s38, s39, s40, s41, s42, s43, s44, s45, s46, s47, s48, s49, s50, s51, s52, s53, s54, s55, s56, s57, s58, s59, s60,
  s61, s62, s63, s64, s65, s66, s67, s68, s69, s70, s71, s72, s73, s74] H = (@bnd (aBin2 Tryz.prog H .lss 3 (.tmp 41) (.tmp 40) s41 s40) ⟨fun v42x21 => @kifB v42x21 ⟨@bnd (aIndexAddr Tryz.prog H 42 s39 s41) ⟨fun v43x22 => @bnd
  (aLoad Tryz.prog H 9 v43x22) ⟨fun v44x23 => @bnd (aLen Tryz.prog H 9 v44x23) ⟨fun v46x24 => @bnd (aBin2 Tryz.prog H .sub 3 (.const (.int .i64 9223372036854775807)) (.tmp 47) (.int .i64 9223372036854775807) s5) ⟨fun v48x25 =>
  @bnd (aBin2 Tryz.prog H .gtr 3 (.tmp 46) (.tmp 48) v46x24 v48x25) ⟨fun v49x26 => @kifB v49x26 ⟨@bndE (none) ⟨fun _ H28 => S46x2 n0 k [s0, s1, s2, s3, s4, s5, s6, v44x23, s8, s9, s10, s11, s12, s13, s14, s15, s16, s17, s18, s19,
  s20, s21, s22, s23, s24, s25, s26, s27, s28, s29, s30, s31, s32, s33, s34, s35, s36, s37, s38, s39, s40, s41, v42x21, v43x22, v44x23, v44x23, v46x24, s5, v48x25, v49x26, (.iface 9 (.string { data := #[115, 116, 114, 105, 110,
  103, 115, 58, 32, 74, 111, 105, 110, 32, 111, 117, 116, 112, 117, 116, 32, 108, 101, 110, 103, 116, 104, 32, 111, 118, 101, 114, 102, 108, 111, 119] })), s51, s52, s53, s54, s55, s56, s57, s58, s59, s60, s61, s62, s63, s64,
  s65, s66, s67, s68, s69, s70, s71, s72, s73, s74] H28⟩⟩ ⟨S46x2 n0 k [s0, s1, s2, s3, s4, s5, s6, v44x23, s8, s9, s10, s11, s12, s13, s14, s15, s16, s17, s18, s19, s20, s21, s22, s23, s24, s25, s26, s27, s28, s29, s30, s31, s32,
  s33, s34, s35, s36, s37, s38, s39, s40, s41, v42x21, v43x22, v44x23, v44x23, v46x24, s5, v48x25, v49x26, s50, s51, s52, s53, s54, s55, s56, s57, s58, s59, s60, s61, s62, s63, s64, s65, s66, s67, s68, s69, s70, s71, s72, s73,
  s74] H⟩⟩⟩⟩⟩⟩⟩ ⟨@bndE (aAlloc Tryz.prog H 116) ⟨fun v8x29 H30 => @bndC Tryz.prog 78 [v8x29, s5] H30 ⟨fun v57x31 H32 => @bnd (aIndexAddr Tryz.prog H32 42 s0 (.int .i64 0)) ⟨fun v59x33 => @bnd (aLoad Tryz.prog H32 9 v59x33) ⟨fun
  v60x34 => @bndC Tryz.prog 79 [v8x29, v60x34] H32 ⟨fun v61x35 H36 => @bnd (aSliceOp Tryz.prog H36 42 s0 (some (.int .i64 1)) none) ⟨fun v63x37 => @bnd (aLen Tryz.prog H36 42 v63x37) ⟨fun v64x38 => ∃ n, L46x1 n  k [s0, s1, s2,
  s3, s4, s5, s6, s7, v8x29, s9, s10, s11, s12, s13, s14, s15, s16, s17, s18, s19, s20, s21, s22, s23, s24, s25, s26, s27, s28, s29, s30, s31, s32, s33, s34, s35, s36, s37, s38, s39, s40, s41, v42x21, s43, s44, s45, s46, s47,
  s48, s49, s50, s51, s52, s53, s54, s55, s5, v57x31, s0, v59x33, v60x34, v61x35, s0, v63x37, v64x38, (.int .i64 0), s66, s67, s68, s69, s70, s71, s72, s73, s74] H36⟩⟩⟩⟩⟩⟩⟩⟩⟩) := by kernel_rfl
theorem S46x2q (n0 : Nat) (s0 s1 s2 s3 s4 s5 s6 s7 s8 s9 s10 s11 s12 s13 s14 s15 s16 s17 s18 s19 s20 s21 s22 s23 s24 s25 s26 s27 s28 s29 s30 s31 s32 s33 s34 s35 s36 s37 s38 s39 s40 s41 s42 s43 s44 s45 s46 s47 s48 s49 s50 s51 s52
  s53 s54 s55 s56 s57 s58 s59 s60 s61 s62 s63 s64 s65 s66 s67 s68 s69 s70 s71 s72 s73 s74 : Value) (H : AHeap) (k : Value → AHeap → Prop) : S46x2 n0 k [s0, s1, s2, s3, s4, s5, s6, s7, s8, s9, s10, s11, s12, s13, s14, s15, s16,
  s17, s18, s19, s20, s21, s22, s23, s24, s25, s26, s27, s28, s29, s30, s31, s32, s33, s34, s35, s36, s37, s38, s39, s40, s41, s42, s43, s44, s45, s46, s47, s48, s49, s50, s51, s52, s53, s54, s55, s56, s57, s58, s59, s60, s61,
  s62, s63, s64, s65, s66, s67, s68, s69, s70, s71, s72, s73, s74] H = (@bnd (aLen Tryz.prog H 9 s7) ⟨fun v53x39 => @bnd (aBin2 Tryz.prog H .add 3 (.tmp 51) (.tmp 53) s5 v53x39) ⟨fun v54x40 => @bnd (aBin2 Tryz.prog H .add 3 (.tmp
  41) (.const (.int .i64 1)) s41 (.int .i64 1)) ⟨fun v55x41 => L46x0 n0  k [s0, s1, s2, s3, s4, v54x40, s6, s7, s8, s9, s10, s11, s12, s13, s14, s15, s16, s17, s18, s19, s20, s21, s22, s23, s24, s25, s26, s27, s28, s29, s30, s31,
  s32, s33, s34, s35, s36, s37, s38, s39, s40, v55x41, s42, s43, s44, s45, s46, s47, s48, s49, s50, s5, s7, v53x39, v54x40, v55x41, s56, s57, s58, s59, s60, s61, s62, s63, s64, s65, s66, s67, s68, s69, s70, s71, s72, s73, s74]
  H⟩⟩⟩) := by kernel_rfl
theorem L46x1q (n1 : Nat) (s0 s1 s2 s3 s4 s5 s6 s7 s8 s9 s10 s11 s12 s13 s14 s15 s16 s17 s18 s19 s20 s21 s22 s23 s24 s25 s26 s27 s28 s29 s30 s31 s32 s33 s34 s35 s36 s37 s38 s39 s40 s41 s42 s43 s44 s45 s46 s47 s48 s49 s50 s51 s52
  s53 s54 s55 s56 s57 s58 s59 s60 s61 s62 s63 s64 s65 s66 s67 s68 s69 s70 s71 s72 s73 s74 : Value) (H : AHeap) (k : Value → AHeap → Prop) : L46x1 (n1 + 1) k [s0, s1, s2, s3, s4, s5, s6, s7, s8, s9, s10, s11, s12, s13, s14, s15,
  s16, s17, s18, s19, s20, s21, s22, s23, s24, s25, s26, s27, s28, s29, s30, s31, s32, s33, s34, s35, s36, s37, s38, s39, s40, s41, s42, s43, s44, s45, s46, s47, s48, s49, s50, s51, s52, s53, s54, s55, s56, s57, s58, s59, s60,
  s61, s62, s63, s64, s65, s66, s67, s68, s69, s70, s71, s72, s73, s74] H = (@bnd (aBin2 Tryz.prog H .lss 3 (.tmp 65) (.tmp 64) s65 s64) ⟨fun v66x42 => @kifB v66x42 ⟨@bnd (aIndexAddr Tryz.prog H 42 s63 s65) ⟨fun v67x43 => @bnd
  (aLoad Tryz.prog H 9 v67x43) ⟨fun v68x44 => @bndC Tryz.prog 79 [s8, s1] H ⟨fun v70x45 H46 => @bndC Tryz.prog 79 [s8, v68x44] H46 ⟨fun v72x47 H48 => @bnd (aBin2 Tryz.prog H48 .add 3 (.tmp 65) (.const (.int .i64 1)) s65 (.int
  .i64 1)) ⟨fun v73x49 => L46x1 n1  k [s0, s1, s2, s3, s4, s5, s6, s7, s8, s9, v68x44, s11, s12, s13, s14, s15, s16, s17, s18, s19, s20, s21, s22, s23, s24, s25, s26, s27, s28, s29, s30, s31, s32, s33, s34, s35, s36, s37, s38,
  s39, s40, s41, s42, s43, s44, s45, s46, s47, s48, s49, s50, s51, s52, s53, s54, s55, s56, s57, s58, s59, s60, s61, s62, s63, s64, v73x49, v66x42, v67x43, v68x44, s1, v70x45, v68x44, v72x47, v73x49, s74] H48⟩⟩⟩⟩⟩⟩ ⟨@bndC
  Tryz.prog 80 [s8] H ⟨fun v74x50 H51 => k v74x50 H51⟩⟩⟩) := by kernel_rfl
-- strconv.Itoa
theorem d47 (a0 : Value) (H : AHeap) (k : Value → AHeap → Prop) : kbody Tryz.prog Tryz.f47 [a0] H k = (@bndC Tryz.prog 81 [a0] H ⟨fun v4x1 H2 => k v4x1 H2⟩) := by kernel_rfl
-- tocsin/crc.Of
def L64x0 (n : Nat) (k : Value → AHeap → Prop) (sl : List Value) (H : AHeap) : Prop := kit Tryz.prog (cl (cl (cr (cr (cb Tryz.f64))))) n (kblk 0 (kfin Tryz.prog Tryz.f64 k)) .normal sl H
theorem d64 (a0 a1 : Value) (H : AHeap) (k : Value → AHeap → Prop) : kbody Tryz.prog Tryz.f64 [a0, a1] H k = (@bnd (aLoad Tryz.prog H 9 a1) ⟨fun v6x1 => @bnd (aLen Tryz.prog H 9 v6x1) ⟨fun v7x2 => @bnd (aBin2 Tryz.prog H .gtr 3
  (.tmp 7) (.const (.int .i64 4096)) v7x2 (.int .i64 4096)) ⟨fun v8x3 => @kifB v8x3 ⟨@bnd (buildV Tryz.prog 70 []) ⟨fun v10x4 => @bndV Tryz.prog a0 [v10x4, (.int .i64 3)] H ⟨fun _ H6 => k (.tuple #[]) H6⟩⟩⟩ ⟨@bnd (aLoad Tryz.prog
  H 9 a1) ⟨fun v12x7 => @bndC Tryz.prog 65 [v12x7, (.int .i64 0)] H ⟨fun v13x8 H9 => ∃ n, L64x0 n  k [a0, a1, undef, v13x8, undef, undef, v6x1, v7x2, v8x3, undef, undef, undef, v12x7, v13x8, undef, undef, undef, undef, undef,
  undef, undef, undef, undef, undef, undef, undef, undef, undef, undef, undef, undef, undef, undef, undef, undef, undef, undef, undef, undef, undef] H9⟩⟩⟩⟩⟩⟩) := by kernel_rfl
theorem L64x0q (n0 : Nat) (s0 s1 s2 s3 s4 s5 s6 s7 s8 s9 s10 s11 s12 s13 s14 s15 s16 s17 s18 s19 s20 s21 s22 s23 s24 s25 s26 s27 s28 s29 s30 s31 s32 s33 s34 s35 s36 s37 s38 s39 : Value) (H : AHeap) (k : Value → AHeap → Prop) :
  L64x0 (n0 + 1) k [s0, s1, s2, s3, s4, s5, s6, s7, s8, s9, s10, s11, s12, s13, s14, s15, s16, s17, s18, s19, s20, s21, s22, s23, s24, s25, s26, s27, s28, s29, s30, s31, s32, s33, s34, s35, s36, s37, s38, s39] H = (@bnd (aLoad
  Tryz.prog H 9 s1) ⟨fun v15x10 => @bnd (aLen Tryz.prog H 9 v15x10) ⟨fun v16x11 => @bnd (aBin2 Tryz.prog H .lss 3 (.tmp 14) (.tmp 16) s3 v16x11) ⟨fun v17x12 => @kifB v17x12 ⟨@bnd (aLoad Tryz.prog H 9 s1) ⟨fun v22x13 => @bndC
  Tryz.prog 66 [v22x13, s3] H ⟨fun v24x14 H15 => @bnd (tupV v24x14 0) ⟨fun v25x16 => @bnd (tupV v24x14 1) ⟨fun v26x17 => @bndE (aAlloc Tryz.prog H15 70) ⟨fun v4x18 H19 => @bndS (aStore Tryz.prog H19 70 v4x18 v25x16) ⟨fun _ H21 =>
  @bnd (aBin2 Tryz.prog H21 .eql 3 (.tmp 27) (.const (.int .i64 0)) v26x17 (.int .i64 0)) ⟨fun v28x22 => @kifB v28x22 ⟨@bnd (buildV Tryz.prog 70 [(2, s3)]) ⟨fun v31x23 => @bndV Tryz.prog s0 [v31x23, (.int .i64 90)] H21 ⟨fun _ H25
  => k (.tuple #[]) H25⟩⟩⟩ ⟨@bnd (aLoad Tryz.prog H21 70 v4x18) ⟨fun v34x26 => @bndV Tryz.prog s0 [v34x26, (.int .i64 0)] H21 ⟨fun v35x27 H28 => @bnd (unV Tryz.prog .not v35x27) ⟨fun v36x29 => @kifB v36x29 ⟨k (.tuple #[]) H28⟩
  ⟨@bnd (aBin2 Tryz.prog H28 .add 3 (.tmp 37) (.tmp 38) s3 v26x17) ⟨fun v39x30 => @bnd (aLoad Tryz.prog H28 9 s1) ⟨fun v18x31 => @bndC Tryz.prog 65 [v18x31, v39x30] H28 ⟨fun v20x32 H33 => L64x0 n0  k [s0, s1, s2, v20x32, v4x18,
  v26x17, s6, s7, s8, s9, s10, s11, s12, s13, s3, v15x10, v16x11, v17x12, v18x31, v39x30, v20x32, v24x14, v22x13, s3, v24x14, v25x16, v26x17, v26x17, v28x22, s29, s30, s31, s32, s0, v34x26, v35x27, v36x29, s3, v26x17, v39x30]
  H33⟩⟩⟩⟩⟩⟩⟩⟩⟩⟩⟩⟩⟩⟩⟩⟩ ⟨k (.tuple #[]) H⟩⟩⟩⟩) := by kernel_rfl
-- tocsin/lex.skip
def L65x0 (n : Nat) (k : Value → AHeap → Prop) (sl : List Value) (H : AHeap) : Prop := kit Tryz.prog (cl (cl (cl (cr (cb Tryz.f65))))) n (kblk 0 (kseq Tryz.prog (cr (cr (cb Tryz.f65))) (kfin Tryz.prog Tryz.f65 k))) .normal sl H
theorem d65 (a0 a1 : Value) (H : AHeap) (k : Value → AHeap → Prop) : kbody Tryz.prog Tryz.f65 [a0, a1] H k = (∃ n, L65x0 n  k [a0, a1, undef, undef, (.int .i64 0), undef, undef, undef, undef, undef, undef, undef, undef, undef,
  undef, undef, undef, undef, undef, undef, undef, undef, undef, undef, undef, undef, undef, undef, undef] H) := by kernel_rfl
theorem L65x0q (n0 : Nat) (s0 s1 s2 s3 s4 s5 s6 s7 s8 s9 s10 s11 s12 s13 s14 s15 s16 s17 s18 s19 s20 s21 s22 s23 s24 s25 s26 s27 s28 : Value) (H : AHeap) (k : Value → AHeap → Prop) : L65x0 (n0 + 1) k [s0, s1, s2, s3, s4, s5, s6,
  s7, s8, s9, s10, s11, s12, s13, s14, s15, s16, s17, s18, s19, s20, s21, s22, s23, s24, s25, s26, s27, s28] H = (@bnd (aLen Tryz.prog H 9 s0) ⟨fun v7x1 => @bnd (aBin2 Tryz.prog H .lss 3 (.tmp 5) (.tmp 7) s1 v7x1) ⟨fun v8x2 =>
  @kifB v8x2 ⟨@bnd (aIndex Tryz.prog 9 s0 s1) ⟨fun v13x3 => @bndC Tryz.prog 96 [(.string { data := #[32, 9, 10, 13] }), v13x3] H ⟨fun v14x4 H5 => @bnd (aBin2 Tryz.prog H5 .geq 3 (.tmp 14) (.const (.int .i64 0)) v14x4 (.int .i64
  0)) ⟨fun v15x6 => @kifB v15x6 ⟨@bnd (aBin2 Tryz.prog H5 .add 3 (.tmp 16) (.const (.int .i64 1)) s1 (.int .i64 1)) ⟨fun v17x7 => L65x0 n0  k [s0, v17x7, s2, s3, s4, s1, s0, v7x1, v8x2, s9, v15x6, s0, s1, v13x3, v14x4, v15x6, s1,
  v17x7, s18, s19, s20, s21, s22, s23, s24, s25, s26, s27, s28] H5⟩⟩ ⟨@bnd (aIndex Tryz.prog 9 s0 s1) ⟨fun v21x8 => @bnd (aBin2 Tryz.prog H5 .eql 5 (.tmp 21) (.const (.int .u8 35)) v21x8 (.int .u8 35)) ⟨fun v22x9 => @kifB v22x9
  ⟨@bndC Tryz.prog 97 [s0, s1, (.func (.func 98) #[] #[])] H5 ⟨fun v26x10 H11 => @bnd (aBin2 Tryz.prog H11 .add 3 (.tmp 23) (.tmp 26) s1 v26x10) ⟨fun v27x12 => L65x0 n0  k [s0, v27x12, s2, s3, s4, s1, s0, v7x1, v8x2, s9, v15x6,
  s0, s1, v13x3, v14x4, v15x6, s16, s17, v22x9, s0, s1, v21x8, v22x9, s1, s0, s1, v26x10, v27x12, s28] H11⟩⟩⟩ ⟨k s1 H5⟩⟩⟩⟩⟩⟩⟩⟩ ⟨k s1 H⟩⟩⟩) := by kernel_rfl
-- tocsin/lex.one
def S66x0 (k : Value → AHeap → Prop) (sl : List Value) (H : AHeap) : Prop := kseq Tryz.prog (cr (cr (cr (cr (cb Tryz.f66))))) (kfin Tryz.prog Tryz.f66 k) .normal sl H
theorem d66 (a0 a1 : Value) (H : AHeap) (k : Value → AHeap → Prop) : kbody Tryz.prog Tryz.f66 [a0, a1] H k = (@bndE (aAlloc Tryz.prog H 70) ⟨fun v4x1 H2 => @bnd (buildV Tryz.prog 70 [(2, a1)]) ⟨fun v10x3 => @bndE (aAlloc
  Tryz.prog H2 70) ⟨fun v6x4 H5 => @bndS (aStore Tryz.prog H5 70 v6x4 v10x3) ⟨fun _ H7 => @bnd (aIndex Tryz.prog 9 a0 a1) ⟨fun v18x8 => @bndC Tryz.prog 99 [v18x8] H7 ⟨fun v19x9 H10 => @kifB v19x9 ⟨@bndC Tryz.prog 97 [a0, a1,
  (.func (.func 100) #[] #[])] H10 ⟨fun v22x11 H12 => @bnd (aFieldAddr Tryz.prog H12 70 v6x4 0) ⟨fun v23x13 => @bndS (aStore Tryz.prog H12 5 v23x13 (.int .u8 1)) ⟨fun _ H15 => S66x0  k [a0, a1, undef, undef, v4x1, (.int .i64 0),
  v6x4, v22x11, undef, a1, v10x3, undef, undef, undef, undef, v19x9, a0, a1, v18x8, v19x9, a0, a1, v22x11, v23x13, undef, undef, undef, undef, undef, undef, undef, undef, undef, undef, undef, undef, undef, undef, undef, undef,
  undef, undef, undef, undef, undef, undef, undef, undef, undef, undef, undef, undef, undef, undef, undef, undef, undef, undef, undef, undef, undef, undef, undef, undef, undef, undef, undef, undef, undef, undef, undef, undef,
  undef, undef, undef, undef, undef, undef, undef, undef, undef, undef, undef, undef, undef] H15⟩⟩⟩⟩ ⟨@bnd (aIndex Tryz.prog 9 a0 a1) ⟨fun v27x16 => @bndC Tryz.prog 101 [v27x16] H10 ⟨fun v28x17 H18 => @kifB v28x17 ⟨@bndC
  Tryz.prog 97 [a0, a1, (.func (.func 101) #[] #[])] H18 ⟨fun v31x19 H20 => @bnd (aFieldAddr Tryz.prog H20 70 v6x4 0) ⟨fun v32x21 => @bndS (aStore Tryz.prog H20 5 v32x21 (.int .u8 2)) ⟨fun _ H23 => @bnd (aBin2 Tryz.prog H23 .add
  3 (.tmp 34) (.tmp 35) a1 v31x19) ⟨fun v36x24 => @bnd (aBin2 Tryz.prog H23 .add 3 (.tmp 36) (.const (.int .i64 1)) v36x24 (.int .i64 1)) ⟨fun v37x25 => @bndC Tryz.prog 97 [a0, v37x25, (.func (.func 101) #[] #[])] H23 ⟨fun v38x26
  H27 => @bnd (aBin2 Tryz.prog H27 .add 3 (.tmp 39) (.tmp 40) a1 v31x19) ⟨fun v41x28 => @bnd (aLen Tryz.prog H27 9 a0) ⟨fun v43x29 => @bnd (aBin2 Tryz.prog H27 .lss 3 (.tmp 41) (.tmp 43) v41x28 v43x29) ⟨fun v44x30 => @bnd (gif
  v44x30 true ((some a0)) undef) ⟨fun v46x31 => @bnd (gif v44x30 true ((some a1)) undef) ⟨fun v47x32 => @bnd (gif v44x30 true ((some v31x19)) undef) ⟨fun v48x33 => @bnd (gif v44x30 true (aBin2 Tryz.prog H27 .add 3 (.tmp 47) (.tmp
  48) v47x32 v48x33) undef) ⟨fun v49x34 => @bnd (gif v44x30 true (aIndex Tryz.prog 9 v46x31 v49x34) undef) ⟨fun v50x35 => @bnd (gif v44x30 true (aBin2 Tryz.prog H27 .eql 5 (.tmp 50) (.const (.int .u8 46)) v50x35 (.int .u8 46))
  undef) ⟨fun v51x36 => @bnd (pickV v44x30 v51x36 (.bool false)) ⟨fun v52x37 => @bnd (gif v52x37 true ((some v38x26)) undef) ⟨fun v54x38 => @bnd (gif v52x37 true (aBin2 Tryz.prog H27 .gtr 3 (.tmp 54) (.const (.int .i64 0)) v54x38
  (.int .i64 0)) undef) ⟨fun v55x39 => @bnd (pickV v52x37 v55x39 (.bool false)) ⟨fun v56x40 => @kifB v56x40 ⟨@bnd (aBin2 Tryz.prog H27 .add 3 (.const (.int .i64 1)) (.tmp 58) (.int .i64 1) v38x26) ⟨fun v59x41 => @bnd (aBin2
  Tryz.prog H27 .add 3 (.tmp 57) (.tmp 59) v31x19 v59x41) ⟨fun v60x42 => S66x0  k [a0, a1, undef, undef, v4x1, (.int .i64 0), v6x4, v60x42, v38x26, a1, v10x3, undef, undef, undef, undef, v19x9, a0, a1, v18x8, v19x9, undef, undef,
  undef, undef, v28x17, a0, a1, v27x16, v28x17, a0, a1, v31x19, v32x21, a0, a1, v31x19, v36x24, v37x25, v38x26, a1, v31x19, v41x28, a0, v43x29, v44x30, v44x30, v46x31, v47x32, v48x33, v49x34, v50x35, v51x36, v52x37, v52x37,
  v54x38, v55x39, v56x40, v31x19, v38x26, v59x41, v60x42, undef, undef, undef, undef, undef, undef, undef, undef, undef, undef, undef, undef, undef, undef, undef, undef, undef, undef, undef, undef, undef, undef, undef, undef]
  H27⟩⟩⟩ ⟨S66x0  k [a0, a1, undef, undef, v4x1, (.int .i64 0), v6x4, v31x19, v38x26, a1, v10x3, undef, undef, undef, undef, v19x9, a0, a1, v18x8, v19x9, undef, undef, undef, undef, v28x17, a0, a1, v27x16, v28x17, a0, a1, v31x19,
  v32x21, a0, a1, v31x19, v36x24, v37x25, v38x26, a1, v31x19, v41x28, a0, v43x29, v44x30, v44x30, v46x31, v47x32, v48x33, v49x34, v50x35, v51x36, v52x37, v52x37, v54x38, v55x39, v56x40, undef, undef, undef, undef, undef, undef,
  undef, undef, undef, undef, undef, undef, undef, undef, undef, undef, undef, undef, undef, undef, undef, undef, undef, undef, undef, undef, undef, undef] H27⟩⟩⟩⟩⟩⟩⟩⟩⟩⟩⟩⟩⟩⟩⟩⟩⟩⟩⟩⟩⟩ ⟨@bnd (aIndex Tryz.prog 9 a0 a1) ⟨fun v64x43 =>
  @bnd (aBin2 Tryz.prog H18 .eql 5 (.tmp 64) (.const (.int .u8 34)) v64x43 (.int .u8 34)) ⟨fun v65x44 => @kifB v65x44 ⟨@bnd (aFieldAddr Tryz.prog H18 70 v6x4 0) ⟨fun v66x45 => @bndS (aStore Tryz.prog H18 5 v66x45 (.int .u8 3))
  ⟨fun _ H47 => @bndC Tryz.prog 102 [a0, a1] H47 ⟨fun v70x48 H49 => @bnd (tupV v70x48 0) ⟨fun v71x50 => @bnd (tupV v70x48 1) ⟨fun v72x51 => @bnd (aFieldAddr Tryz.prog H49 70 v6x4 1) ⟨fun v73x52 => @bndS (aStore Tryz.prog H49 9
  v73x52 v71x50) ⟨fun _ H54 => @bnd (aLoad Tryz.prog H54 70 v6x4) ⟨fun v74x55 => @bndS (aStore Tryz.prog H54 70 v4x1 v74x55) ⟨fun _ H57 => ∃ r58, aLoad Tryz.prog H57 70 v4x1 = some r58 ∧ k (.tuple #[r58, v72x51]) H57⟩⟩⟩⟩⟩⟩⟩⟩⟩⟩
  ⟨@bndC Tryz.prog 103 [a0, a1] H18 ⟨fun v13x59 H60 => @bnd (aFieldAddr Tryz.prog H60 70 v6x4 0) ⟨fun v14x61 => @bndS (aStore Tryz.prog H60 5 v14x61 (.int .u8 4)) ⟨fun _ H63 => S66x0  k [a0, a1, undef, undef, v4x1, (.int .i64 0),
  v6x4, v13x59, undef, a1, v10x3, a0, a1, v13x59, v14x61, v19x9, a0, a1, v18x8, v19x9, undef, undef, undef, undef, v28x17, a0, a1, v27x16, v28x17, undef, undef, undef, undef, undef, undef, undef, undef, undef, undef, undef,
  undef, undef, undef, undef, undef, undef, undef, undef, undef, undef, undef, undef, undef, undef, undef, undef, undef, undef, undef, undef, undef, v65x44, a0, a1, v64x43, v65x44, undef, undef, undef, undef, undef, undef, undef,
  undef, undef, undef, undef, undef, undef, undef, undef, undef, undef, undef, undef] H63⟩⟩⟩⟩⟩⟩⟩⟩⟩⟩⟩⟩⟩⟩⟩⟩) := by kernel_rfl
theorem S66x0q (s0 s1 s2 s3 s4 s5 s6 s7 s8 s9 s10 s11 s12 s13 s14 s15 s16 s17 s18 s19 s20 s21 s22 s23 s24 s25 s26 s27 s28 s29 s30 s31 s32 s33 s34 s35 s36 s37 s38 s39 s40 s41 s42 s43 s44 s45 s46 s47 s48 s49 s50 s51 s52 s53 s54 s55
  s56 s57 s58 s59 s60 s61 s62 s63 s64 s65 s66 s67 s68 s69 s70 s71 s72 s73 s74 s75 s76 s77 s78 s79 s80 s81 s82 s83 s84 : Value) (H : AHeap) (k : Value → AHeap → Prop) : S66x0 k [s0, s1, s2, s3, s4, s5, s6, s7, s8, s9, s10, s11,
  s12, s13, s14, s15, s16, s17, s18, s19, s20, s21, s22, s23, s24, s25, s26, s27, s28, s29, s30, s31, s32, s33, s34, s35, s36, s37, s38, s39, s40, s41, s42, s43, s44, s45, s46, s47, s48, s49, s50, s51, s52, s53, s54, s55, s56,
  s57, s58, s59, s60, s61, s62, s63, s64, s65, s66, s67, s68, s69, s70, s71, s72, s73, s74, s75, s76, s77, s78, s79, s80, s81, s82, s83, s84] H = (@bnd (aBin2 Tryz.prog H .add 3 (.tmp 78) (.tmp 79) s1 s7) ⟨fun v80x64 => @bnd
  (aSliceOp Tryz.prog H 9 s0 (some s1) (some v80x64)) ⟨fun v81x65 => @bnd (aFieldAddr Tryz.prog H 70 s6 1) ⟨fun v82x66 => @bndS (aStore Tryz.prog H 9 v82x66 v81x65) ⟨fun _ H68 => @bnd (aLoad Tryz.prog H68 70 s6) ⟨fun v83x69 =>
  @bndS (aStore Tryz.prog H68 70 s4 v83x69) ⟨fun _ H71 => ∃ r72, aLoad Tryz.prog H71 70 s4 = some r72 ∧ k (.tuple #[r72, s7]) H71⟩⟩⟩⟩⟩⟩) := by kernel_rfl
-- (*tocsin/expr.reader).takes
def S68x0 (k : Value → AHeap → Prop) (sl : List Value) (H : AHeap) : Prop := kseq Tryz.prog (cr (cr (cr (cb Tryz.f68)))) (kfin Tryz.prog Tryz.f68 k) .normal sl H
theorem d68 (a0 a1 a2 : Value) (H : AHeap) (k : Value → AHeap → Prop) : kbody Tryz.prog Tryz.f68 [a0, a1, a2] H k = (@bndC Tryz.prog 104 [a0, a1, a2] H ⟨fun v11x1 H2 => @kifB v11x1 ⟨@bnd (nilV a0) ⟨fun v14x3 => @bnd (aFieldAddr
  Tryz.prog H2 81 v14x3 1) ⟨fun v15x4 => @bnd (aLoad Tryz.prog H2 3 v15x4) ⟨fun v16x5 => @bnd (aBin2 Tryz.prog H2 .add 3 (.tmp 16) (.const (.int .i64 1)) v16x5 (.int .i64 1)) ⟨fun v17x6 => @bnd (nilV a0) ⟨fun v18x7 => @bnd
  (aFieldAddr Tryz.prog H2 81 v18x7 1) ⟨fun v19x8 => @bndS (aStore Tryz.prog H2 3 v19x8 v17x6) ⟨fun _ H10 => S68x0  k [a0, a1, a2, undef, undef, undef, (.bool false), v11x1, a0, a1, a2, v11x1, v11x1, a0, v14x3, v15x4, v16x5,
  v17x6, v18x7, v19x8, undef] H10⟩⟩⟩⟩⟩⟩⟩⟩ ⟨S68x0  k [a0, a1, a2, undef, undef, undef, (.bool false), v11x1, a0, a1, a2, v11x1, v11x1, undef, undef, undef, undef, undef, undef, undef, undef] H2⟩⟩) := by kernel_rfl
theorem S68x0q (s0 s1 s2 s3 s4 s5 s6 s7 s8 s9 s10 s11 s12 s13 s14 s15 s16 s17 s18 s19 s20 : Value) (H : AHeap) (k : Value → AHeap → Prop) : S68x0 k [s0, s1, s2, s3, s4, s5, s6, s7, s8, s9, s10, s11, s12, s13, s14, s15, s16, s17,
  s18, s19, s20] H = (k s7 H) := by kernel_rfl
-- (*tocsin/expr.reader).sign
theorem d69 (a0 a1 : Value) (H : AHeap) (k : Value → AHeap → Prop) : kbody Tryz.prog Tryz.f69 [a0, a1] H k = (@bndC Tryz.prog 68 [a0, (.int .u8 4), a1] H ⟨fun v7x1 H2 => @bnd (nilV a0) ⟨fun v8x3 => @bnd (aFieldAddr Tryz.prog H2
  81 v8x3 2) ⟨fun v9x4 => @bndS (aStore Tryz.prog H2 4 v9x4 v7x1) ⟨fun _ H6 => k (.tuple #[]) H6⟩⟩⟩⟩) := by kernel_rfl
-- (*tocsin/expr.reader).comparison
theorem d70 (a0 : Value) (H : AHeap) (k : Value → AHeap → Prop) : kbody Tryz.prog Tryz.f70 [a0] H k = (@bndE (aAlloc Tryz.prog H 37) ⟨fun v2x1 H2 => @bndC Tryz.prog 71 [] H2 ⟨fun v5x3 H4 => @bndC Tryz.prog 105 [a0, (.int .u8 1),
  v5x3] H4 ⟨fun v6x5 H6 => @bnd (buildV Tryz.prog 37 [(0, (.int .u8 0)), (1, v6x5)]) ⟨fun v7x7 => @bndE (aAlloc Tryz.prog H6 37) ⟨fun v3x8 H9 => @bndS (aStore Tryz.prog H9 37 v3x8 v7x7) ⟨fun _ H11 => @bndC Tryz.prog 69 [a0,
  (.string { data := #[40] })] H11 ⟨fun _ H13 => @bndC Tryz.prog 106 [a0] H13 ⟨fun v11x14 H15 => @bnd (aFieldAddr Tryz.prog H15 37 v3x8 2) ⟨fun v12x16 => @bndS (aStore Tryz.prog H15 35 v12x16 v11x14) ⟨fun _ H18 => @bndC Tryz.prog
  69 [a0, (.string { data := #[91] })] H18 ⟨fun _ H20 => @bndC Tryz.prog 107 [a0] H20 ⟨fun v16x21 H22 => @bnd (aFieldAddr Tryz.prog H22 37 v3x8 3) ⟨fun v17x23 => @bndS (aStore Tryz.prog H22 3 v17x23 v16x21) ⟨fun _ H25 => @bndC
  Tryz.prog 69 [a0, (.string { data := #[93] })] H25 ⟨fun _ H27 => @bndC Tryz.prog 69 [a0, (.string { data := #[41] })] H27 ⟨fun _ H29 => @bndC Tryz.prog 73 [] H29 ⟨fun v23x30 H31 => @bndC Tryz.prog 105 [a0, (.int .u8 4), v23x30]
  H31 ⟨fun v24x32 H33 => @bnd (aFieldAddr Tryz.prog H33 37 v3x8 4) ⟨fun v25x34 => @bndS (aStore Tryz.prog H33 5 v25x34 v24x32) ⟨fun _ H36 => @bndC Tryz.prog 108 [a0] H36 ⟨fun v27x37 H38 => @bnd (aFieldAddr Tryz.prog H38 37 v3x8
  5) ⟨fun v28x39 => @bndS (aStore Tryz.prog H38 2 v28x39 v27x37) ⟨fun _ H41 => @bnd (aLoad Tryz.prog H41 37 v3x8) ⟨fun v29x42 => @bndS (aStore Tryz.prog H41 37 v2x1 v29x42) ⟨fun _ H44 => ∃ r45, aLoad Tryz.prog H44 37 v2x1 = some
  r45 ∧ k r45 H44⟩⟩⟩⟩⟩⟩⟩⟩⟩⟩⟩⟩⟩⟩⟩⟩⟩⟩⟩⟩⟩⟩⟩⟩⟩) := by kernel_rfl
-- tocsin/expr.aggregates
theorem d71 (H : AHeap) (k : Value → AHeap → Prop) : kbody Tryz.prog Tryz.f71 [] H k = (@bndL Tryz.prog H 42 6 [(0, (.string { data := #[99, 111, 117, 110, 116] })), (1, (.string { data := #[115, 117, 109] })), (2, (.string {
  data := #[109, 105, 110] })), (3, (.string { data := #[109, 97, 120] })), (4, (.string { data := #[109, 101, 97, 110] })), (5, (.string { data := #[108, 97, 115, 116] }))] ⟨fun v1x1 H2 => k v1x1 H2⟩) := by kernel_rfl
-- tocsin/match.Print
def L72x0 (n : Nat) (k : Value → AHeap → Prop) (sl : List Value) (H : AHeap) : Prop := kit Tryz.prog (cl (cl (cr (cl (cr (cr (cr (cb Tryz.f72)))))))) n (kblk 0 (kseq Tryz.prog (cr (cr (cr (cr (cb Tryz.f72))))) (kfin Tryz.prog
  Tryz.f72 k))) .normal sl H
def S72x0 (n0 : Nat) (k : Value → AHeap → Prop) (sl : List Value) (H : AHeap) : Prop := kseq Tryz.prog (cr (cr (cr (cl (cl (cr (cr (cl (cl (cr (cl (cr (cr (cr (cb Tryz.f72))))))))))))))) (kblk 1 (kseq Tryz.prog (cr (cr (cr (cl
  (cl (cr (cl (cr (cr (cr (cb Tryz.f72))))))))))) (kit Tryz.prog (cl (cl (cr (cl (cr (cr (cr (cb Tryz.f72)))))))) n0 (kblk 0 (kseq Tryz.prog (cr (cr (cr (cr (cb Tryz.f72))))) (kfin Tryz.prog Tryz.f72 k)))))) .normal sl H
theorem d72 (a0 : Value) (H : AHeap) (k : Value → AHeap → Prop) : kbody Tryz.prog Tryz.f72 [a0] H k = (@bndC Tryz.prog 109 [] H ⟨fun v9x1 H2 => @bnd (aLen Tryz.prog H2 35 a0) ⟨fun v11x3 => ∃ n, L72x0 n  k [a0, undef, (.string {
  data := #[] }), v9x1, (.slice none 0 0), undef, undef, undef, undef, v9x1, a0, v11x3, (.int .i64 0), undef, undef, undef, undef, undef, undef, undef, undef, undef, undef, undef, undef, undef, undef, undef, undef, undef, undef,
  undef, undef, undef, undef, undef, undef, undef, undef, undef, undef, undef, undef, undef] H2⟩⟩) := by kernel_rfl
theorem L72x0q (n0 : Nat) (s0 s1 s2 s3 s4 s5 s6 s7 s8 s9 s10 s11 s12 s13 s14 s15 s16 s17 s18 s19 s20 s21 s22 s23 s24 s25 s26 s27 s28 s29 s30 s31 s32 s33 s34 s35 s36 s37 s38 s39 s40 s41 s42 s43 : Value) (H : AHeap) (k : Value →
  AHeap → Prop) : L72x0 (n0 + 1) k [s0, s1, s2, s3, s4, s5, s6, s7, s8, s9, s10, s11, s12, s13, s14, s15, s16, s17, s18, s19, s20, s21, s22, s23, s24, s25, s26, s27, s28, s29, s30, s31, s32, s33, s34, s35, s36, s37, s38, s39,
  s40, s41, s42, s43] H = (@bnd (aBin2 Tryz.prog H .lss 3 (.tmp 12) (.tmp 11) s12 s11) ⟨fun v13x4 => @kifB v13x4 ⟨@bnd (aIndexAddr Tryz.prog H 35 s10 s12) ⟨fun v14x5 => @bnd (aLoad Tryz.prog H 75 v14x5) ⟨fun v15x6 => @bndE
  (aAlloc Tryz.prog H 75) ⟨fun v6x7 H8 => @bndS (aStore Tryz.prog H8 75 v6x7 v15x6) ⟨fun _ H10 => @bnd (aFieldAddr Tryz.prog H10 75 v6x7 1) ⟨fun v18x11 => @bnd (aLoad Tryz.prog H10 5 v18x11) ⟨fun v19x12 => @bnd (aLookup Tryz.prog
  H10 146 s3 v19x12 true) ⟨fun v20x13 => @bnd (tupV v20x13 0) ⟨fun v21x14 => @bnd (tupV v20x13 1) ⟨fun v22x15 => @bndE (aAlloc Tryz.prog H10 150) ⟨fun v7x16 H17 => @bndS (aStore Tryz.prog H17 150 v7x16 v21x14) ⟨fun _ H19 => @bnd
  (unV Tryz.prog .not v22x15) ⟨fun v24x20 => @kifB v24x20 ⟨@bnd (aLookup Tryz.prog H19 146 s3 (.int .u8 0) false) ⟨fun v26x21 => @bndS (aStore Tryz.prog H19 150 v7x16 v26x21) ⟨fun _ H23 => S72x0 n0 k [s0, s1, s2, s3, s4, s5,
  v6x7, v7x16, v22x15, s9, s10, s11, s12, v13x4, v14x5, v15x6, v20x13, s3, v18x11, v19x12, v20x13, v21x14, v22x15, v22x15, v24x20, s3, v26x21, s27, s28, s29, s30, s31, s32, s33, s34, s35, s36, s37, s38, s39, s40, s41, s42, s43]
  H23⟩⟩⟩ ⟨S72x0 n0 k [s0, s1, s2, s3, s4, s5, v6x7, v7x16, v22x15, s9, s10, s11, s12, v13x4, v14x5, v15x6, v20x13, s3, v18x11, v19x12, v20x13, v21x14, v22x15, v22x15, v24x20, s25, s26, s27, s28, s29, s30, s31, s32, s33, s34, s35,
  s36, s37, s38, s39, s40, s41, s42, s43] H19⟩⟩⟩⟩⟩⟩⟩⟩⟩⟩⟩⟩⟩⟩ ⟨@bndC Tryz.prog 46 [s4, (.string { data := #[44] })] H ⟨fun v41x24 H25 => @bndL Tryz.prog H25 42 3 [(0, (.string { data := #[123] })), (1, v41x24), (2, (.string { data
  := #[125] }))] ⟨fun v42x26 H27 => @bndC Tryz.prog 110 [v42x26] H27 ⟨fun v43x28 H29 => k v43x28 H29⟩⟩⟩⟩⟩) := by kernel_rfl
theorem S72x0q (n0 : Nat) (s0 s1 s2 s3 s4 s5 s6 s7 s8 s9 s10 s11 s12 s13 s14 s15 s16 s17 s18 s19 s20 s21 s22 s23 s24 s25 s26 s27 s28 s29 s30 s31 s32 s33 s34 s35 s36 s37 s38 s39 s40 s41 s42 s43 : Value) (H : AHeap) (k : Value →
  AHeap → Prop) : S72x0 n0 k [s0, s1, s2, s3, s4, s5, s6, s7, s8, s9, s10, s11, s12, s13, s14, s15, s16, s17, s18, s19, s20, s21, s22, s23, s24, s25, s26, s27, s28, s29, s30, s31, s32, s33, s34, s35, s36, s37, s38, s39, s40, s41,
  s42, s43] H = (@bnd (aFieldAddr Tryz.prog H 75 s6 0) ⟨fun v28x30 => @bnd (aLoad Tryz.prog H 9 v28x30) ⟨fun v29x31 => @bnd (aFieldAddr Tryz.prog H 150 s7 0) ⟨fun v30x32 => @bnd (aLoad Tryz.prog H 9 v30x32) ⟨fun v31x33 => @bnd
  (aFieldAddr Tryz.prog H 75 s6 2) ⟨fun v32x34 => @bnd (aLoad Tryz.prog H 9 v32x34) ⟨fun v33x35 => @bndD false H ⟨fun v34x36 H37 => ACalls Tryz.prog 111 [v33x35] H v34x36 H37⟩ ⟨fun v34x36 H37 => @bndD true H37 ⟨fun v35x38 H39 =>
  sliceLit Tryz.prog H37 42 3 [(0, v29x31), (1, v31x33), (2, v34x36)] v35x38 H39⟩ ⟨fun v35x38 H39 => @bndD true H39 ⟨fun v36x40 H41 => ACalls Tryz.prog 110 [v35x38] H39 v36x40 H41⟩ ⟨fun v36x40 H41 => @bndD true H41 ⟨fun v37x42
  H43 => sliceLit Tryz.prog H41 42 1 [(0, v36x40)] v37x42 H43⟩ ⟨fun v37x42 H43 => @bndD true H43 ⟨fun v38x44 H45 => aBuiltin Tryz.prog H43 Builtin.append #[42, 42] [s4, v37x42] = some (v38x44, H45)⟩ ⟨fun v38x44 H45 => @bnd (aBin2
  Tryz.prog H45 .add 3 (.tmp 12) (.const (.int .i64 1)) s12 (.int .i64 1)) ⟨fun v39x46 => L72x0 n0  k [s0, s1, s2, s3, v38x44, s5, s6, s7, s8, s9, s10, s11, v39x46, s13, s14, s15, s16, s17, s18, s19, s20, s21, s22, s23, s24, s25,
  s26, s4, v28x30, v29x31, v30x32, v31x33, v32x34, v33x35, v34x36, v35x38, v36x40, v37x42, v38x44, v39x46, s40, s41, s42, s43] H45⟩⟩⟩⟩⟩⟩⟩⟩⟩⟩⟩⟩) := by kernel_rfl
-- tocsin/expr.compares
theorem d73 (H : AHeap) (k : Value → AHeap → Prop) : kbody Tryz.prog Tryz.f73 [] H k = (@bndL Tryz.prog H 42 6 [(0, (.string { data := #[60] })), (1, (.string { data := #[60, 61] })), (2, (.string { data := #[62] })), (3,
  (.string { data := #[62, 61] })), (4, (.string { data := #[61, 61] })), (5, (.string { data := #[33, 61] }))] ⟨fun v1x1 H2 => k v1x1 H2⟩) := by kernel_rfl
-- tocsin/fixed.Print
def S74x0 (k : Value → AHeap → Prop) (sl : List Value) (H : AHeap) : Prop := kseq Tryz.prog (cr (cr (cr (cr (cb Tryz.f74))))) (kfin Tryz.prog Tryz.f74 k) .normal sl H
def S74x1 (k : Value → AHeap → Prop) (sl : List Value) (H : AHeap) : Prop := kseq Tryz.prog (cr (cr (cr (cr (cr (cr (cb Tryz.f74))))))) (kfin Tryz.prog Tryz.f74 k) .normal sl H
theorem d74 (a0 : Value) (H : AHeap) (k : Value → AHeap → Prop) : kbody Tryz.prog Tryz.f74 [a0] H k = (@bndC Tryz.prog 112 [a0] H ⟨fun v7x1 H2 => @bnd (aBin2 Tryz.prog H2 .lss 2 (.tmp 8) (.const (.int .i64 0)) v7x1 (.int .i64 0))
  ⟨fun v9x3 => @kifB v9x3 ⟨@bnd (unV Tryz.prog .neg v7x1) ⟨fun v11x4 => S74x0  k [v11x4, undef, (.string { data := #[] }), (.string { data := #[45] }), undef, undef, a0, v7x1, v7x1, v9x3, v7x1, v11x4, undef, undef, undef, undef,
  undef, undef, undef, undef, undef, undef, undef, undef, undef, undef, undef, undef, undef, undef] H2⟩⟩ ⟨S74x0  k [v7x1, undef, (.string { data := #[] }), (.string { data := #[] }), undef, undef, a0, v7x1, v7x1, v9x3, undef,
  undef, undef, undef, undef, undef, undef, undef, undef, undef, undef, undef, undef, undef, undef, undef, undef, undef, undef, undef] H2⟩⟩⟩) := by kernel_rfl
theorem S74x0q (s0 s1 s2 s3 s4 s5 s6 s7 s8 s9 s10 s11 s12 s13 s14 s15 s16 s17 s18 s19 s20 s21 s22 s23 s24 s25 s26 s27 s28 s29 : Value) (H : AHeap) (k : Value → AHeap → Prop) : S74x0 k [s0, s1, s2, s3, s4, s5, s6, s7, s8, s9, s10,
  s11, s12, s13, s14, s15, s16, s17, s18, s19, s20, s21, s22, s23, s24, s25, s26, s27, s28, s29] H = (@bnd (aBin2 Tryz.prog H .quo 2 (.tmp 13) (.const (.int .i64 1000)) s0 (.int .i64 1000)) ⟨fun v14x5 => @bndC Tryz.prog 113
  [v14x5, (.int .i64 10)] H ⟨fun v15x6 H7 => @bnd (aBin2 Tryz.prog H7 .add 9 (.tmp 12) (.tmp 15) s3 v15x6) ⟨fun v16x8 => @bnd (aBin2 Tryz.prog H7 .rem 2 (.tmp 17) (.const (.int .i64 1000)) s0 (.int .i64 1000)) ⟨fun v18x9 => @bnd
  (aBin2 Tryz.prog H7 .gtr 2 (.tmp 19) (.const (.int .i64 0)) v18x9 (.int .i64 0)) ⟨fun v20x10 => @kifB v20x10 ⟨@bnd (aBin2 Tryz.prog H7 .add 2 (.const (.int .i64 1000)) (.tmp 22) (.int .i64 1000) v18x9) ⟨fun v23x11 => @bndC
  Tryz.prog 113 [v23x11, (.int .i64 10)] H7 ⟨fun v24x12 H13 => @bnd (aSliceOp Tryz.prog H13 9 v24x12 (some (.int .i64 1)) none) ⟨fun v25x14 => @bndC Tryz.prog 114 [v25x14, (.string { data := #[48] })] H13 ⟨fun v26x15 H16 => @bnd
  (aBin2 Tryz.prog H16 .add 9 (.const (.string { data := #[46] })) (.tmp 26) (.string { data := #[46] }) v26x15) ⟨fun v27x17 => @bnd (aBin2 Tryz.prog H16 .add 9 (.tmp 21) (.tmp 27) v16x8 v27x17) ⟨fun v28x18 => S74x1  k [s0, s1,
  s2, s3, v28x18, v18x9, s6, s7, s8, s9, s10, s11, s3, s0, v14x5, v15x6, v16x8, s0, v18x9, v18x9, v20x10, v16x8, v18x9, v23x11, v24x12, v25x14, v26x15, v27x17, v28x18, s29] H16⟩⟩⟩⟩⟩⟩⟩ ⟨S74x1  k [s0, s1, s2, s3, v16x8, v18x9, s6,
  s7, s8, s9, s10, s11, s3, s0, v14x5, v15x6, v16x8, s0, v18x9, v18x9, v20x10, s21, s22, s23, s24, s25, s26, s27, s28, s29] H7⟩⟩⟩⟩⟩⟩) := by kernel_rfl
theorem S74x1q (s0 s1 s2 s3 s4 s5 s6 s7 s8 s9 s10 s11 s12 s13 s14 s15 s16 s17 s18 s19 s20 s21 s22 s23 s24 s25 s26 s27 s28 s29 : Value) (H : AHeap) (k : Value → AHeap → Prop) : S74x1 k [s0, s1, s2, s3, s4, s5, s6, s7, s8, s9, s10,
  s11, s12, s13, s14, s15, s16, s17, s18, s19, s20, s21, s22, s23, s24, s25, s26, s27, s28, s29] H = (k s4 H) := by kernel_rfl
-- tocsin/expr.strong
theorem d75 (a0 : Value) (H : AHeap) (k : Value → AHeap → Prop) : kbody Tryz.prog Tryz.f75 [a0] H k = (@bndE (aNew H 37 a0) ⟨fun v1x1 H2 => @bndE (some (Value.map (some H2.length), H2 ++ [AObj.map []])) ⟨fun v3x3 H4 => @bndS
  (aUpdate Tryz.prog H4 155 v3x3 (.int .u8 2) (.int .i64 0)) ⟨fun _ H6 => @bndS (aUpdate Tryz.prog H6 155 v3x3 (.int .u8 1) (.int .i64 1)) ⟨fun _ H8 => @bndS (aUpdate Tryz.prog H8 155 v3x3 (.int .u8 3) (.int .i64 2)) ⟨fun _ H10
  => @bndS (aUpdate Tryz.prog H10 155 v3x3 (.int .u8 0) (.int .i64 3)) ⟨fun _ H12 => @bnd (aFieldAddr Tryz.prog H12 37 v1x1 0) ⟨fun v5x13 => @bnd (aLoad Tryz.prog H12 5 v5x13) ⟨fun v6x14 => @bnd (aLookup Tryz.prog H12 155 v3x3
  v6x14 false) ⟨fun v7x15 => k v7x15 H12⟩⟩⟩⟩⟩⟩⟩⟩⟩) := by kernel_rfl

end Go.Vi
namespace Go.Vi
open Go Go.Proofs
-- tocsin/expr.plain
theorem d76 (a0 : Value) (H : AHeap) (k : Value → AHeap → Prop) : kbody Tryz.prog Tryz.f76 [a0] H k = (@bndE (aNew H 37 a0) ⟨fun v1x1 H2 => @bnd (aFieldAddr Tryz.prog H2 37 v1x1 1) ⟨fun v3x3 => @bnd (aLoad Tryz.prog H2 5 v3x3)
  ⟨fun v4x4 => @bnd (convV Tryz.prog H2 5 3 v4x4) ⟨fun v5x5 => @bndD false H2 ⟨fun v6x6 H7 => ACalls Tryz.prog 71 [] H2 v6x6 H7⟩ ⟨fun v6x6 H7 => @bnd (aLen Tryz.prog H7 42 v6x6) ⟨fun v7x8 => @bnd (aBin2 Tryz.prog H7 .lss 3 (.tmp
  5) (.tmp 7) v5x5 v7x8) ⟨fun v8x9 => @bnd (gif v8x9 true (aFieldAddr Tryz.prog H7 37 v1x1 2) undef) ⟨fun v10x10 => @bnd (gif v8x9 true (aLoad Tryz.prog H7 35 v10x10) undef) ⟨fun v11x11 => @bndD true H7 ⟨fun v12x12 H13 => gifp
  v8x9 true (ACalls Tryz.prog 115 [v11x11] H7 v12x12 H13) (v12x12 = undef ∧ H13 = H7)⟩ ⟨fun v12x12 H13 => @bnd (pickV v8x9 v12x12 (.bool false)) ⟨fun v13x14 => @bnd (gif v13x14 true (aFieldAddr Tryz.prog H13 37 v1x1 3) undef)
  ⟨fun v15x15 => @bnd (gif v13x14 true (aLoad Tryz.prog H13 3 v15x15) undef) ⟨fun v16x16 => @bnd (gif v13x14 true (aBin2 Tryz.prog H13 .geq 3 (.tmp 16) (.const (.int .i64 1)) v16x16 (.int .i64 1)) undef) ⟨fun v17x17 => @bnd
  (pickV v13x14 v17x17 (.bool false)) ⟨fun v18x18 => @bnd (gif v18x18 true (aFieldAddr Tryz.prog H13 37 v1x1 3) undef) ⟨fun v20x19 => @bnd (gif v18x18 true (aLoad Tryz.prog H13 3 v20x19) undef) ⟨fun v21x20 => @bnd (gif v18x18
  true (aBin2 Tryz.prog H13 .leq 3 (.tmp 21) (.const (.int .i64 1000)) v21x20 (.int .i64 1000)) undef) ⟨fun v22x21 => @bnd (pickV v18x18 v22x21 (.bool false)) ⟨fun v23x22 => @bnd (gif v23x22 true (aFieldAddr Tryz.prog H13 37 v1x1
  4) undef) ⟨fun v25x23 => @bnd (gif v23x22 true (aLoad Tryz.prog H13 5 v25x23) undef) ⟨fun v26x24 => @bnd (gif v23x22 true (convV Tryz.prog H13 5 3 v26x24) undef) ⟨fun v27x25 => @bndD false H13 ⟨fun v28x26 H27 => gifp v23x22
  true (ACalls Tryz.prog 73 [] H13 v28x26 H27) (v28x26 = undef ∧ H27 = H13)⟩ ⟨fun v28x26 H27 => @bnd (gif v23x22 true (aLen Tryz.prog H27 42 v28x26) undef) ⟨fun v29x28 => @bnd (gif v23x22 true (aBin2 Tryz.prog H27 .lss 3 (.tmp
  27) (.tmp 29) v27x25 v29x28) undef) ⟨fun v30x29 => @bnd (pickV v23x22 v30x29 (.bool false)) ⟨fun v31x30 => @bnd (gif v31x30 true (aFieldAddr Tryz.prog H27 37 v1x1 5) undef) ⟨fun v33x31 => @bnd (gif v31x30 true (aLoad Tryz.prog
  H27 2 v33x31) undef) ⟨fun v34x32 => @bndD false H27 ⟨fun v35x33 H34 => gifp v31x30 true (ACalls Tryz.prog 112 [v34x32] H27 v35x33 H34) (v35x33 = undef ∧ H34 = H27)⟩ ⟨fun v35x33 H34 => @bnd (gif v31x30 true (aFieldAddr Tryz.prog
  H27 37 v1x1 5) undef) ⟨fun v36x35 => @bnd (gif v31x30 true (aLoad Tryz.prog H27 2 v36x35) undef) ⟨fun v37x36 => @bnd (gif v31x30 true (aBin2 Tryz.prog H34 .eql 2 (.tmp 35) (.tmp 37) v35x33 v37x36) undef) ⟨fun v38x37 => @bnd
  (pickV v31x30 v38x37 (.bool false)) ⟨fun v39x38 => @bnd (gif v39x38 true (aFieldAddr Tryz.prog H34 37 v1x1 6) undef) ⟨fun v41x39 => @bnd (gif v39x38 true (aLoad Tryz.prog H34 3 v41x39) undef) ⟨fun v42x40 => @bnd (gif v39x38
  true (aBin2 Tryz.prog H34 .eql 3 (.tmp 42) (.const (.int .i64 0)) v42x40 (.int .i64 0)) undef) ⟨fun v43x41 => @bnd (pickV v39x38 v43x41 (.bool false)) ⟨fun v44x42 => @bnd (gif v44x42 true (aFieldAddr Tryz.prog H34 37 v1x1 7)
  undef) ⟨fun v46x43 => @bnd (gif v44x42 true (aLoad Tryz.prog H34 3 v46x43) undef) ⟨fun v47x44 => @bnd (gif v44x42 true (aBin2 Tryz.prog H34 .eql 3 (.tmp 47) (.const (.int .i64 0)) v47x44 (.int .i64 0)) undef) ⟨fun v48x45 =>
  @bnd (pickV v44x42 v48x45 (.bool false)) ⟨fun v49x46 => k v49x46 H34⟩⟩⟩⟩⟩⟩⟩⟩⟩⟩⟩⟩⟩⟩⟩⟩⟩⟩⟩⟩⟩⟩⟩⟩⟩⟩⟩⟩⟩⟩⟩⟩⟩⟩⟩⟩⟩⟩⟩⟩⟩) := by kernel_rfl
-- tocsin/expr.void
theorem d77 (a0 : Value) (H : AHeap) (k : Value → AHeap → Prop) : kbody Tryz.prog Tryz.f77 [a0] H k = (@bndE (aNew H 37 a0) ⟨fun v1x1 H2 => @bnd (aFieldAddr Tryz.prog H2 37 v1x1 1) ⟨fun v3x3 => @bnd (aLoad Tryz.prog H2 5 v3x3)
  ⟨fun v4x4 => @bnd (aBin2 Tryz.prog H2 .eql 5 (.tmp 4) (.const (.int .u8 0)) v4x4 (.int .u8 0)) ⟨fun v5x5 => @bnd (gif v5x5 true (aFieldAddr Tryz.prog H2 37 v1x1 2) undef) ⟨fun v7x6 => @bnd (gif v5x5 true (aLoad Tryz.prog H2 35
  v7x6) undef) ⟨fun v8x7 => @bnd (gif v5x5 true (aLen Tryz.prog H2 35 v8x7) undef) ⟨fun v9x8 => @bnd (gif v5x5 true (aBin2 Tryz.prog H2 .eql 3 (.tmp 9) (.const (.int .i64 0)) v9x8 (.int .i64 0)) undef) ⟨fun v10x9 => @bnd (pickV
  v5x5 v10x9 (.bool false)) ⟨fun v11x10 => @bnd (gif v11x10 true (aFieldAddr Tryz.prog H2 37 v1x1 3) undef) ⟨fun v13x11 => @bnd (gif v11x10 true (aLoad Tryz.prog H2 3 v13x11) undef) ⟨fun v14x12 => @bnd (gif v11x10 true (aBin2
  Tryz.prog H2 .eql 3 (.tmp 14) (.const (.int .i64 0)) v14x12 (.int .i64 0)) undef) ⟨fun v15x13 => @bnd (pickV v11x10 v15x13 (.bool false)) ⟨fun v16x14 => @bnd (gif v16x14 true (aFieldAddr Tryz.prog H2 37 v1x1 4) undef) ⟨fun
  v18x15 => @bnd (gif v16x14 true (aLoad Tryz.prog H2 5 v18x15) undef) ⟨fun v19x16 => @bnd (gif v16x14 true (aBin2 Tryz.prog H2 .eql 5 (.tmp 19) (.const (.int .u8 0)) v19x16 (.int .u8 0)) undef) ⟨fun v20x17 => @bnd (pickV v16x14
  v20x17 (.bool false)) ⟨fun v21x18 => @bnd (gif v21x18 true (aFieldAddr Tryz.prog H2 37 v1x1 5) undef) ⟨fun v23x19 => @bnd (gif v21x18 true (aLoad Tryz.prog H2 2 v23x19) undef) ⟨fun v24x20 => @bnd (gif v21x18 true (aBin2
  Tryz.prog H2 .eql 2 (.tmp 24) (.const (.int .i64 0)) v24x20 (.int .i64 0)) undef) ⟨fun v25x21 => @bnd (pickV v21x18 v25x21 (.bool false)) ⟨fun v26x22 => k v26x22 H2⟩⟩⟩⟩⟩⟩⟩⟩⟩⟩⟩⟩⟩⟩⟩⟩⟩⟩⟩⟩⟩) := by kernel_rfl
-- (*strings.Builder).Grow
def S78x0 (k : Value → AHeap → Prop) (sl : List Value) (H : AHeap) : Prop := kseq Tryz.prog (cr (cr (cb Tryz.f78))) (kfin Tryz.prog Tryz.f78 k) .normal sl H
theorem d78 (a0 a1 : Value) (H : AHeap) (k : Value → AHeap → Prop) : kbody Tryz.prog Tryz.f78 [a0, a1] H k = (@bndC Tryz.prog 116 [a0] H ⟨fun v5x1 H2 => @bnd (aBin2 Tryz.prog H2 .lss 3 (.tmp 6) (.const (.int .i64 0)) a1 (.int
  .i64 0)) ⟨fun v7x3 => @kifB v7x3 ⟨@bndE (none) ⟨fun _ H5 => S78x0  k [a0, a1, undef, undef, a0, v5x1, a1, v7x3, (.iface 9 (.string { data := #[115, 116, 114, 105, 110, 103, 115, 46, 66, 117, 105, 108, 100, 101, 114, 46, 71,
  114, 111, 119, 58, 32, 110, 101, 103, 97, 116, 105, 118, 101, 32, 99, 111, 117, 110, 116] })), undef, undef, undef, undef, undef, undef, undef, undef, undef, undef, undef, undef, undef, undef, undef, undef] H5⟩⟩ ⟨S78x0  k [a0,
  a1, undef, undef, a0, v5x1, a1, v7x3, undef, undef, undef, undef, undef, undef, undef, undef, undef, undef, undef, undef, undef, undef, undef, undef, undef] H2⟩⟩⟩) := by kernel_rfl
theorem S78x0q (s0 s1 s2 s3 s4 s5 s6 s7 s8 s9 s10 s11 s12 s13 s14 s15 s16 s17 s18 s19 s20 s21 s22 s23 s24 : Value) (H : AHeap) (k : Value → AHeap → Prop) : S78x0 k [s0, s1, s2, s3, s4, s5, s6, s7, s8, s9, s10, s11, s12, s13, s14,
  s15, s16, s17, s18, s19, s20, s21, s22, s23, s24] H = (@bnd (nilV s0) ⟨fun v10x6 => @bnd (aFieldAddr Tryz.prog H 116 v10x6 1) ⟨fun v11x7 => @bnd (aLoad Tryz.prog H 55 v11x7) ⟨fun v12x8 => @bndD false H ⟨fun v13x9 H10 =>
  aBuiltin Tryz.prog H Builtin.cap #[55] [v12x8] = some (v13x9, H10)⟩ ⟨fun v13x9 H10 => @bnd (nilV s0) ⟨fun v15x11 => @bnd (aFieldAddr Tryz.prog H 116 v15x11 1) ⟨fun v16x12 => @bnd (aLoad Tryz.prog H 55 v16x12) ⟨fun v17x13 =>
  @bnd (aLen Tryz.prog H 55 v17x13) ⟨fun v18x14 => @bnd (aBin2 Tryz.prog H10 .sub 3 (.tmp 13) (.tmp 18) v13x9 v18x14) ⟨fun v19x15 => @bnd (aBin2 Tryz.prog H10 .lss 3 (.tmp 19) (.tmp 20) v19x15 s1) ⟨fun v21x16 => @kifB v21x16
  ⟨@bndC Tryz.prog 117 [s0, s1] H10 ⟨fun _ H18 => k (.tuple #[]) H18⟩⟩ ⟨k (.tuple #[]) H10⟩⟩⟩⟩⟩⟩⟩⟩⟩⟩⟩) := by kernel_rfl
-- (*strings.Builder).WriteString
theorem d79 (a0 a1 : Value) (H : AHeap) (k : Value → AHeap → Prop) : kbody Tryz.prog Tryz.f79 [a0, a1] H k = (@bndC Tryz.prog 116 [a0] H ⟨fun _ H2 => @bnd (nilV a0) ⟨fun v10x3 => @bnd (aFieldAddr Tryz.prog H2 116 v10x3 1) ⟨fun
  v11x4 => @bnd (aLoad Tryz.prog H2 55 v11x4) ⟨fun v12x5 => @bndE (aBuiltin Tryz.prog H2 Builtin.append #[55, 9] [v12x5, a1]) ⟨fun v14x6 H7 => @bnd (nilV a0) ⟨fun v15x8 => @bnd (aFieldAddr Tryz.prog H7 116 v15x8 1) ⟨fun v16x9 =>
  @bndS (aStore Tryz.prog H7 55 v16x9 v14x6) ⟨fun _ H11 => @bnd (aLen Tryz.prog H11 9 a1) ⟨fun v18x12 => k (.tuple #[v18x12, .nilIface]) H11⟩⟩⟩⟩⟩⟩⟩⟩⟩) := by kernel_rfl
-- (*strings.Builder).String
theorem d80 (a0 : Value) (H : AHeap) (k : Value → AHeap → Prop) : kbody Tryz.prog Tryz.f80 [a0] H k = (@bnd (nilV a0) ⟨fun v4x1 => @bnd (aFieldAddr Tryz.prog H 116 v4x1 1) ⟨fun v5x2 => @bnd (aLoad Tryz.prog H 55 v5x2) ⟨fun v6x3
  => @bndD false H ⟨fun v7x4 H5 => aBuiltin Tryz.prog H Builtin.unsafeSliceData #[55] [v6x3] = some (v7x4, H5)⟩ ⟨fun v7x4 H5 => @bnd (nilV a0) ⟨fun v9x6 => @bnd (aFieldAddr Tryz.prog H 116 v9x6 1) ⟨fun v10x7 => @bnd (aLoad
  Tryz.prog H 55 v10x7) ⟨fun v11x8 => @bnd (aLen Tryz.prog H 55 v11x8) ⟨fun v12x9 => @bndD true H5 ⟨fun v13x10 H11 => aBuiltin Tryz.prog H5 Builtin.unsafeString #[157, 3] [v7x4, v12x9] = some (v13x10, H11)⟩ ⟨fun v13x10 H11 => k
  v13x10 H11⟩⟩⟩⟩⟩⟩⟩⟩⟩) := by kernel_rfl
-- internal/strconv.Itoa
theorem d81 (a0 : Value) (H : AHeap) (k : Value → AHeap → Prop) : kbody Tryz.prog Tryz.f81 [a0] H k = (@bndC Tryz.prog 118 [a0, (.int .i64 10)] H ⟨fun v4x1 H2 => k v4x1 H2⟩) := by kernel_rfl
-- tocsin/crc.row
theorem d96 (a0 a1 : Value) (H : AHeap) (k : Value → AHeap → Prop) : kbody Tryz.prog Tryz.f96 [a0, a1] H k = (@bndC Tryz.prog 124 [a0, a1] H ⟨fun v7x1 H2 => k v7x1 H2⟩) := by kernel_rfl
-- tocsin/lex.run
def L97x0 (n : Nat) (k : Value → AHeap → Prop) (sl : List Value) (H : AHeap) : Prop := kit Tryz.prog (cl (cl (cl (cr (cr (cb Tryz.f97)))))) n (kblk 0 (kseq Tryz.prog (cr (cr (cr (cb Tryz.f97)))) (kfin Tryz.prog Tryz.f97 k)))
  .normal sl H
theorem d97 (a0 a1 a2 : Value) (H : AHeap) (k : Value → AHeap → Prop) : kbody Tryz.prog Tryz.f97 [a0, a1, a2] H k = (∃ n, L97x0 n  k [a0, a1, a2, undef, undef, undef, (.int .i64 0), (.int .i64 0), undef, undef, undef, undef,
  undef, undef, undef, undef, undef, undef, undef, undef, undef, undef, undef, undef, undef, undef] H) := by kernel_rfl
theorem L97x0q (n0 : Nat) (s0 s1 s2 s3 s4 s5 s6 s7 s8 s9 s10 s11 s12 s13 s14 s15 s16 s17 s18 s19 s20 s21 s22 s23 s24 s25 : Value) (H : AHeap) (k : Value → AHeap → Prop) : L97x0 (n0 + 1) k [s0, s1, s2, s3, s4, s5, s6, s7, s8, s9,
  s10, s11, s12, s13, s14, s15, s16, s17, s18, s19, s20, s21, s22, s23, s24, s25] H = (@bnd (aBin2 Tryz.prog H .add 3 (.tmp 8) (.tmp 9) s1 s7) ⟨fun v10x1 => @bnd (aLen Tryz.prog H 9 s0) ⟨fun v12x2 => @bnd (aBin2 Tryz.prog H .lss
  3 (.tmp 10) (.tmp 12) v10x1 v12x2) ⟨fun v13x3 => @bnd (gif v13x3 true ((some s2)) undef) ⟨fun v15x4 => @bnd (gif v13x3 true ((some s0)) undef) ⟨fun v16x5 => @bnd (gif v13x3 true ((some s1)) undef) ⟨fun v17x6 => @bnd (gif v13x3
  true ((some s7)) undef) ⟨fun v18x7 => @bnd (gif v13x3 true (aBin2 Tryz.prog H .add 3 (.tmp 17) (.tmp 18) v17x6 v18x7) undef) ⟨fun v19x8 => @bnd (gif v13x3 true (aIndex Tryz.prog 9 v16x5 v19x8) undef) ⟨fun v20x9 => @bndG v13x3
  true H ⟨fun v21x10 H11 => callV Tryz.prog v15x4 [v20x9] H v21x10 H11⟩ ⟨fun v21x10 H11 => @bnd (pickV v13x3 v21x10 (.bool false)) ⟨fun v22x12 => @kifB v22x12 ⟨@bnd (aBin2 Tryz.prog H11 .add 3 (.tmp 23) (.const (.int .i64 1)) s7
  (.int .i64 1)) ⟨fun v24x13 => L97x0 n0  k [s0, s1, s2, s3, s4, s5, s6, v24x13, s1, s7, v10x1, s0, v12x2, v13x3, v13x3, v15x4, v16x5, v17x6, v18x7, v19x8, v20x9, v21x10, v22x12, s7, v24x13, s25] H11⟩⟩ ⟨k s7 H11⟩⟩⟩⟩⟩⟩⟩⟩⟩⟩⟩⟩) :=
  by kernel_rfl
-- tocsin/lex.skip$1
theorem d98 (a0 : Value) (H : AHeap) (k : Value → AHeap → Prop) : kbody Tryz.prog Tryz.f98 [a0] H k = (@bnd (aBin2 Tryz.prog H .neq 5 (.tmp 3) (.const (.int .u8 10)) a0 (.int .u8 10)) ⟨fun v4x1 => k v4x1 H⟩) := by kernel_rfl
-- tocsin/lex.letter
theorem d99 (a0 : Value) (H : AHeap) (k : Value → AHeap → Prop) : kbody Tryz.prog Tryz.f99 [a0] H k = (@bnd (aBin2 Tryz.prog H .geq 5 (.tmp 3) (.const (.int .u8 97)) a0 (.int .u8 97)) ⟨fun v4x1 => @bnd (gif v4x1 true ((some a0))
  undef) ⟨fun v6x2 => @bnd (gif v4x1 true (aBin2 Tryz.prog H .leq 5 (.tmp 6) (.const (.int .u8 122)) v6x2 (.int .u8 122)) undef) ⟨fun v7x3 => @bnd (pickV v4x1 v7x3 (.bool false)) ⟨fun v8x4 => k v8x4 H⟩⟩⟩⟩) := by kernel_rfl
-- tocsin/lex.mark
theorem d100 (a0 : Value) (H : AHeap) (k : Value → AHeap → Prop) : kbody Tryz.prog Tryz.f100 [a0] H k = (@bndC Tryz.prog 99 [a0] H ⟨fun v4x1 H2 => @bnd (gif v4x1 false ((some a0)) undef) ⟨fun v6x3 => @bndG v4x1 false H2 ⟨fun v7x4
  H5 => ACalls Tryz.prog 101 [v6x3] H2 v7x4 H5⟩ ⟨fun v7x4 H5 => @bnd (pickV v4x1 (.bool true) v7x4) ⟨fun v8x6 => @bnd (gif v8x6 false ((some a0)) undef) ⟨fun v10x7 => @bnd (gif v8x6 false (aBin2 Tryz.prog H5 .eql 5 (.tmp 10)
  (.const (.int .u8 95)) v10x7 (.int .u8 95)) undef) ⟨fun v11x8 => @bnd (pickV v8x6 (.bool true) v11x8) ⟨fun v12x9 => k v12x9 H5⟩⟩⟩⟩⟩⟩⟩) := by kernel_rfl
-- tocsin/lex.digit
theorem d101 (a0 : Value) (H : AHeap) (k : Value → AHeap → Prop) : kbody Tryz.prog Tryz.f101 [a0] H k = (@bnd (aBin2 Tryz.prog H .geq 5 (.tmp 3) (.const (.int .u8 48)) a0 (.int .u8 48)) ⟨fun v4x1 => @bnd (gif v4x1 true ((some
  a0)) undef) ⟨fun v6x2 => @bnd (gif v4x1 true (aBin2 Tryz.prog H .leq 5 (.tmp 6) (.const (.int .u8 57)) v6x2 (.int .u8 57)) undef) ⟨fun v7x3 => @bnd (pickV v4x1 v7x3 (.bool false)) ⟨fun v8x4 => k v8x4 H⟩⟩⟩⟩) := by kernel_rfl
-- tocsin/lex.text
def L102x0 (n : Nat) (k : Value → AHeap → Prop) (sl : List Value) (H : AHeap) : Prop := kit Tryz.prog (cl (cl (cr (cl (cr (cr (cb Tryz.f102))))))) n (kblk 0 (kseq Tryz.prog (cr (cr (cr (cb Tryz.f102)))) (kfin Tryz.prog Tryz.f102
  k))) .normal sl H
def S102x0 (n0 : Nat) (k : Value → AHeap → Prop) (sl : List Value) (H : AHeap) : Prop := kseq Tryz.prog (cr (cl (cl (cr (cl (cl (cr (cl (cr (cr (cb Tryz.f102))))))))))) (kblk 1 (kseq Tryz.prog (cr (cr (cl (cl (cr (cl (cr (cr (cb
  Tryz.f102))))))))) (kit Tryz.prog (cl (cl (cr (cl (cr (cr (cb Tryz.f102))))))) n0 (kblk 0 (kseq Tryz.prog (cr (cr (cr (cb Tryz.f102)))) (kfin Tryz.prog Tryz.f102 k)))))) .normal sl H
theorem d102 (a0 a1 : Value) (H : AHeap) (k : Value → AHeap → Prop) : kbody Tryz.prog Tryz.f102 [a0, a1] H k = (@bndE (aAlloc Tryz.prog H 116) ⟨fun v6x1 H2 => @bnd (aBin2 Tryz.prog H2 .add 3 (.tmp 8) (.const (.int .i64 1)) a1
  (.int .i64 1)) ⟨fun v9x3 => ∃ n, L102x0 n  k [a0, a1, undef, undef, (.string { data := #[] }), (.int .i64 0), v6x1, v9x3, a1, v9x3, undef, undef, undef, undef, undef, undef, undef, undef, undef, undef, undef, undef, undef,
  undef, undef, undef, undef, undef, undef, undef, undef, undef, undef, undef, undef, undef, undef, undef, undef, undef, undef, undef, undef, undef, undef, undef, undef, undef, undef, undef, undef, undef, undef, undef, undef,
  undef, undef, undef, undef, undef, undef, undef, undef, undef, undef, undef, undef, undef, undef, undef, undef, undef, undef, undef, undef] H2⟩⟩) := by kernel_rfl
theorem L102x0q (n0 : Nat) (s0 s1 s2 s3 s4 s5 s6 s7 s8 s9 s10 s11 s12 s13 s14 s15 s16 s17 s18 s19 s20 s21 s22 s23 s24 s25 s26 s27 s28 s29 s30 s31 s32 s33 s34 s35 s36 s37 s38 s39 s40 s41 s42 s43 s44 s45 s46 s47 s48 s49 s50 s51 s52
  s53 s54 s55 s56 s57 s58 s59 s60 s61 s62 s63 s64 s65 s66 s67 s68 s69 s70 s71 s72 s73 s74 : Value) (H : AHeap) (k : Value → AHeap → Prop) : L102x0 (n0 + 1) k [s0, s1, s2, s3, s4, s5, s6, s7, s8, s9, s10, s11, s12, s13, s14, s15,
  s16, s17, s18, s19, s20, s21, s22, s23, s24, s25, s26, s27, s28, s29, s30, s31, s32, s33, s34, s35, s36, s37, s38, s39, s40, s41, s42, s43, s44, s45, s46, s47, s48, s49, s50, s51, s52, s53, s54, s55, s56, s57, s58, s59, s60,
  s61, s62, s63, s64, s65, s66, s67, s68, s69, s70, s71, s72, s73, s74] H = (@bnd (aLen Tryz.prog H 9 s0) ⟨fun v12x4 => @bnd (aBin2 Tryz.prog H .lss 3 (.tmp 10) (.tmp 12) s7 v12x4) ⟨fun v13x5 => @bnd (gif v13x5 true ((some s0))
  undef) ⟨fun v15x6 => @bnd (gif v13x5 true ((some s7)) undef) ⟨fun v16x7 => @bnd (gif v13x5 true (aIndex Tryz.prog 9 v15x6 v16x7) undef) ⟨fun v17x8 => @bnd (gif v13x5 true (aBin2 Tryz.prog H .geq 5 (.tmp 17) (.const (.int .u8
  32)) v17x8 (.int .u8 32)) undef) ⟨fun v18x9 => @bnd (pickV v13x5 v18x9 (.bool false)) ⟨fun v19x10 => @bnd (gif v19x10 true ((some s0)) undef) ⟨fun v21x11 => @bnd (gif v19x10 true ((some s7)) undef) ⟨fun v22x12 => @bnd (gif
  v19x10 true (aIndex Tryz.prog 9 v21x11 v22x12) undef) ⟨fun v23x13 => @bnd (gif v19x10 true (aBin2 Tryz.prog H .leq 5 (.tmp 23) (.const (.int .u8 126)) v23x13 (.int .u8 126)) undef) ⟨fun v24x14 => @bnd (pickV v19x10 v24x14
  (.bool false)) ⟨fun v25x15 => @kifB v25x15 ⟨@bnd (aIndex Tryz.prog 9 s0 s7) ⟨fun v31x16 => @bnd (aBin2 Tryz.prog H .eql 5 (.tmp 31) (.const (.int .u8 34)) v31x16 (.int .u8 34)) ⟨fun v32x17 => @kifB v32x17 ⟨@bndC Tryz.prog 80
  [s6] H ⟨fun v33x18 H19 => @bnd (aBin2 Tryz.prog H19 .add 3 (.tmp 34) (.const (.int .i64 1)) s7 (.int .i64 1)) ⟨fun v35x20 => @bnd (aBin2 Tryz.prog H19 .sub 3 (.tmp 35) (.tmp 36) v35x20 s1) ⟨fun v37x21 => k (.tuple #[v33x18,
  v37x21]) H19⟩⟩⟩⟩ ⟨@bnd (aIndex Tryz.prog 9 s0 s7) ⟨fun v41x22 => @bnd (aBin2 Tryz.prog H .eql 5 (.tmp 41) (.const (.int .u8 92)) v41x22 (.int .u8 92)) ⟨fun v42x23 => @bnd (gif v42x23 true ((some s7)) undef) ⟨fun v44x24 => @bnd
  (gif v42x23 true (aBin2 Tryz.prog H .add 3 (.tmp 44) (.const (.int .i64 1)) v44x24 (.int .i64 1)) undef) ⟨fun v45x25 => @bnd (gif v42x23 true ((some s0)) undef) ⟨fun v46x26 => @bnd (gif v42x23 true (aLen Tryz.prog H 9 v46x26)
  undef) ⟨fun v47x27 => @bnd (gif v42x23 true (aBin2 Tryz.prog H .lss 3 (.tmp 45) (.tmp 47) v45x25 v47x27) undef) ⟨fun v48x28 => @bnd (pickV v42x23 v48x28 (.bool false)) ⟨fun v49x29 => @bnd (gif v49x29 true ((some s0)) undef)
  ⟨fun v51x30 => @bnd (gif v49x29 true ((some s7)) undef) ⟨fun v52x31 => @bnd (gif v49x29 true (aBin2 Tryz.prog H .add 3 (.tmp 52) (.const (.int .i64 1)) v52x31 (.int .i64 1)) undef) ⟨fun v53x32 => @bnd (gif v49x29 true (aIndex
  Tryz.prog 9 v51x30 v53x32) undef) ⟨fun v54x33 => @bnd (gif v49x29 true (aBin2 Tryz.prog H .eql 5 (.tmp 54) (.const (.int .u8 34)) v54x33 (.int .u8 34)) undef) ⟨fun v55x34 => @bnd (gif v49x29 true ((some v55x34)) undef) ⟨fun
  v56x35 => @bnd (gif v56x35 false ((some s0)) undef) ⟨fun v57x36 => @bnd (gif v56x35 false ((some s7)) undef) ⟨fun v58x37 => @bnd (gif v56x35 false (aBin2 Tryz.prog H .add 3 (.tmp 58) (.const (.int .i64 1)) v58x37 (.int .i64 1))
  undef) ⟨fun v59x38 => @bnd (gif v56x35 false (aIndex Tryz.prog 9 v57x36 v59x38) undef) ⟨fun v60x39 => @bnd (gif v56x35 false (aBin2 Tryz.prog H .eql 5 (.tmp 60) (.const (.int .u8 92)) v60x39 (.int .u8 92)) undef) ⟨fun v61x40 =>
  @bnd (gif v49x29 true (pickV v56x35 (.bool true) v61x40) undef) ⟨fun v62x41 => @bnd (pickV v49x29 v62x41 (.bool false)) ⟨fun v63x42 => @kifB v63x42 ⟨@bnd (aBin2 Tryz.prog H .add 3 (.tmp 64) (.const (.int .i64 1)) s7 (.int .i64
  1)) ⟨fun v65x43 => S102x0 n0 k [s0, s1, s2, s3, s4, s5, s6, v65x43, s8, s9, s7, s0, v12x4, v13x5, v13x5, v15x6, v16x7, v17x8, v18x9, v19x10, v19x10, v21x11, v22x12, v23x13, v24x14, v25x15, s26, s27, v32x17, s0, s7, v31x16,
  v32x17, s33, s34, s35, s36, s37, v63x42, s0, s7, v41x22, v42x23, v42x23, v44x24, v45x25, v46x26, v47x27, v48x28, v49x29, v49x29, v51x30, v52x31, v53x32, v54x33, v55x34, v56x35, v57x36, v58x37, v59x38, v60x39, v61x40, v62x41,
  v63x42, s7, v65x43, s66, s67, s68, s69, s70, s71, s72, s73, s74] H⟩⟩ ⟨@bnd (aIndex Tryz.prog 9 s0 s7) ⟨fun v69x44 => @bnd (aBin2 Tryz.prog H .eql 5 (.tmp 69) (.const (.int .u8 92)) v69x44 (.int .u8 92)) ⟨fun v70x45 => @kifB
  v70x45 ⟨k (.tuple #[(.string { data := #[] }), (.int .i64 0)]) H⟩ ⟨S102x0 n0 k [s0, s1, s2, s3, s4, s5, s6, s7, s8, s9, s7, s0, v12x4, v13x5, v13x5, v15x6, v16x7, v17x8, v18x9, v19x10, v19x10, v21x11, v22x12, v23x13, v24x14,
  v25x15, s26, s27, v32x17, s0, s7, v31x16, v32x17, s33, s34, s35, s36, s37, v63x42, s0, s7, v41x22, v42x23, v42x23, v44x24, v45x25, v46x26, v47x27, v48x28, v49x29, v49x29, v51x30, v52x31, v53x32, v54x33, v55x34, v56x35, v57x36,
  v58x37, v59x38, v60x39, v61x40, v62x41, v63x42, s64, s65, v70x45, s0, s7, v69x44, v70x45, s71, s72, s73, s74] H⟩⟩⟩⟩⟩⟩⟩⟩⟩⟩⟩⟩⟩⟩⟩⟩⟩⟩⟩⟩⟩⟩⟩⟩⟩⟩⟩⟩⟩ ⟨k (.tuple #[(.string { data := #[] }), (.int .i64 0)]) H⟩⟩⟩⟩⟩⟩⟩⟩⟩⟩⟩⟩⟩) := by
  kernel_rfl
theorem S102x0q (n0 : Nat) (s0 s1 s2 s3 s4 s5 s6 s7 s8 s9 s10 s11 s12 s13 s14 s15 s16 s17 s18 s19 s20 s21 s22 s23 s24 s25 s26 s27 s28 s29 s30 s31 s32 s33 s34 s35 s36 s37 s38 s39 s40 s41 s42 s43 s44 s45 s46 s47 s48 s49 s50 s51 s52
  s53 s54 s55 s56 s57 s58 s59 s60 s61 s62 s63 s64 s65 s66 s67 s68 s69 s70 s71 s72 s73 s74 : Value) (H : AHeap) (k : Value → AHeap → Prop) : S102x0 n0 k [s0, s1, s2, s3, s4, s5, s6, s7, s8, s9, s10, s11, s12, s13, s14, s15, s16,
  s17, s18, s19, s20, s21, s22, s23, s24, s25, s26, s27, s28, s29, s30, s31, s32, s33, s34, s35, s36, s37, s38, s39, s40, s41, s42, s43, s44, s45, s46, s47, s48, s49, s50, s51, s52, s53, s54, s55, s56, s57, s58, s59, s60, s61,
  s62, s63, s64, s65, s66, s67, s68, s69, s70, s71, s72, s73, s74] H = (@bnd (aIndex Tryz.prog 9 s0 s7) ⟨fun v73x46 => @bndC Tryz.prog 125 [s6, v73x46] H ⟨fun v74x47 H48 => @bnd (aBin2 Tryz.prog H48 .add 3 (.tmp 26) (.const (.int
  .i64 1)) s7 (.int .i64 1)) ⟨fun v27x49 => L102x0 n0  k [s0, s1, s2, s3, s4, s5, s6, v27x49, s8, s9, s10, s11, s12, s13, s14, s15, s16, s17, s18, s19, s20, s21, s22, s23, s24, s25, s7, v27x49, s28, s29, s30, s31, s32, s33, s34,
  s35, s36, s37, s38, s39, s40, s41, s42, s43, s44, s45, s46, s47, s48, s49, s50, s51, s52, s53, s54, s55, s56, s57, s58, s59, s60, s61, s62, s63, s64, s65, s66, s67, s68, s69, s70, s0, s7, v73x46, v74x47] H48⟩⟩⟩) := by kernel_rfl
-- tocsin/lex.sign
theorem d103 (a0 a1 : Value) (H : AHeap) (k : Value → AHeap → Prop) : kbody Tryz.prog Tryz.f103 [a0, a1] H k = (@bnd (aBin2 Tryz.prog H .add 3 (.tmp 5) (.const (.int .i64 1)) a1 (.int .i64 1)) ⟨fun v6x1 => @bnd (aLen Tryz.prog H
  9 a0) ⟨fun v8x2 => @bnd (aBin2 Tryz.prog H .lss 3 (.tmp 6) (.tmp 8) v6x1 v8x2) ⟨fun v9x3 => @bnd (gif v9x3 true ((some a0)) undef) ⟨fun v11x4 => @bnd (gif v9x3 true ((some a1)) undef) ⟨fun v12x5 => @bnd (gif v9x3 true (aBin2
  Tryz.prog H .add 3 (.tmp 12) (.const (.int .i64 1)) v12x5 (.int .i64 1)) undef) ⟨fun v13x6 => @bnd (gif v9x3 true (aIndex Tryz.prog 9 v11x4 v13x6) undef) ⟨fun v14x7 => @bnd (gif v9x3 true (aBin2 Tryz.prog H .eql 5 (.tmp 14)
  (.const (.int .u8 61)) v14x7 (.int .u8 61)) undef) ⟨fun v15x8 => @bnd (pickV v9x3 v15x8 (.bool false)) ⟨fun v16x9 => @bnd (gif v16x9 true ((some a0)) undef) ⟨fun v18x10 => @bnd (gif v16x9 true ((some a1)) undef) ⟨fun v19x11 =>
  @bnd (gif v16x9 true (aIndex Tryz.prog 9 v18x10 v19x11) undef) ⟨fun v20x12 => @bndG v16x9 true H ⟨fun v21x13 H14 => ACalls Tryz.prog 96 [(.string { data := #[60, 62, 61, 33, 94] }), v20x12] H v21x13 H14⟩ ⟨fun v21x13 H14 => @bnd
  (gif v16x9 true (aBin2 Tryz.prog H14 .geq 3 (.tmp 21) (.const (.int .i64 0)) v21x13 (.int .i64 0)) undef) ⟨fun v22x15 => @bnd (pickV v16x9 v22x15 (.bool false)) ⟨fun v23x16 => @kifB v23x16 ⟨k (.int .i64 2) H14⟩ ⟨@bnd (aIndex
  Tryz.prog 9 a0 a1) ⟨fun v26x17 => @bndC Tryz.prog 96 [(.string { data := #[123, 125, 40, 41, 91, 93, 44, 58, 59, 61, 60, 62, 45] }), v26x17] H14 ⟨fun v27x18 H19 => @bnd (aBin2 Tryz.prog H19 .geq 3 (.tmp 27) (.const (.int .i64
  0)) v27x18 (.int .i64 0)) ⟨fun v28x20 => @kifB v28x20 ⟨k (.int .i64 1) H19⟩ ⟨k (.int .i64 0) H19⟩⟩⟩⟩⟩⟩⟩⟩⟩⟩⟩⟩⟩⟩⟩⟩⟩⟩⟩⟩) := by kernel_rfl
-- (*tocsin/expr.reader).is
theorem d104 (a0 a1 a2 : Value) (H : AHeap) (k : Value → AHeap → Prop) : kbody Tryz.prog Tryz.f104 [a0, a1, a2] H k = (@bnd (nilV a0) ⟨fun v8x1 => @bnd (aFieldAddr Tryz.prog H 81 v8x1 2) ⟨fun v9x2 => @bnd (aLoad Tryz.prog H 4
  v9x2) ⟨fun v10x3 => @bnd (gif v10x3 true ((some a0)) undef) ⟨fun v12x4 => @bnd (gif v10x3 true (nilV v12x4) undef) ⟨fun v13x5 => @bnd (gif v10x3 true (aFieldAddr Tryz.prog H 81 v13x5 1) undef) ⟨fun v14x6 => @bnd (gif v10x3 true
  (aLoad Tryz.prog H 3 v14x6) undef) ⟨fun v15x7 => @bnd (gif v10x3 true ((some a0)) undef) ⟨fun v16x8 => @bnd (gif v10x3 true (nilV v16x8) undef) ⟨fun v17x9 => @bnd (gif v10x3 true (aFieldAddr Tryz.prog H 81 v17x9 0) undef) ⟨fun
  v18x10 => @bnd (gif v10x3 true (aLoad Tryz.prog H 23 v18x10) undef) ⟨fun v19x11 => @bnd (gif v10x3 true (aLen Tryz.prog H 23 v19x11) undef) ⟨fun v20x12 => @bnd (gif v10x3 true (aBin2 Tryz.prog H .lss 3 (.tmp 15) (.tmp 20) v15x7
  v20x12) undef) ⟨fun v21x13 => @bnd (pickV v10x3 v21x13 (.bool false)) ⟨fun v22x14 => @bnd (gif v22x14 true ((some a0)) undef) ⟨fun v24x15 => @bnd (gif v22x14 true (nilV v24x15) undef) ⟨fun v25x16 => @bnd (gif v22x14 true
  (aFieldAddr Tryz.prog H 81 v25x16 0) undef) ⟨fun v26x17 => @bnd (gif v22x14 true (aLoad Tryz.prog H 23 v26x17) undef) ⟨fun v27x18 => @bnd (gif v22x14 true ((some a0)) undef) ⟨fun v28x19 => @bnd (gif v22x14 true (nilV v28x19)
  undef) ⟨fun v29x20 => @bnd (gif v22x14 true (aFieldAddr Tryz.prog H 81 v29x20 1) undef) ⟨fun v30x21 => @bnd (gif v22x14 true (aLoad Tryz.prog H 3 v30x21) undef) ⟨fun v31x22 => @bnd (gif v22x14 true (aIndexAddr Tryz.prog H 23
  v27x18 v31x22) undef) ⟨fun v32x23 => @bnd (gif v22x14 true (aFieldAddr Tryz.prog H 70 v32x23 0) undef) ⟨fun v33x24 => @bnd (gif v22x14 true (aLoad Tryz.prog H 5 v33x24) undef) ⟨fun v34x25 => @bnd (gif v22x14 true ((some a1))
  undef) ⟨fun v35x26 => @bnd (gif v22x14 true (aBin2 Tryz.prog H .eql 5 (.tmp 34) (.tmp 35) v34x25 v35x26) undef) ⟨fun v36x27 => @bnd (pickV v22x14 v36x27 (.bool false)) ⟨fun v37x28 => @bnd (gif v37x28 true ((some a0)) undef)
  ⟨fun v39x29 => @bnd (gif v37x28 true (nilV v39x29) undef) ⟨fun v40x30 => @bnd (gif v37x28 true (aFieldAddr Tryz.prog H 81 v40x30 0) undef) ⟨fun v41x31 => @bnd (gif v37x28 true (aLoad Tryz.prog H 23 v41x31) undef) ⟨fun v42x32 =>
  @bnd (gif v37x28 true ((some a0)) undef) ⟨fun v43x33 => @bnd (gif v37x28 true (nilV v43x33) undef) ⟨fun v44x34 => @bnd (gif v37x28 true (aFieldAddr Tryz.prog H 81 v44x34 1) undef) ⟨fun v45x35 => @bnd (gif v37x28 true (aLoad
  Tryz.prog H 3 v45x35) undef) ⟨fun v46x36 => @bnd (gif v37x28 true (aIndexAddr Tryz.prog H 23 v42x32 v46x36) undef) ⟨fun v47x37 => @bnd (gif v37x28 true (aFieldAddr Tryz.prog H 70 v47x37 1) undef) ⟨fun v48x38 => @bnd (gif v37x28
  true (aLoad Tryz.prog H 9 v48x38) undef) ⟨fun v49x39 => @bnd (gif v37x28 true ((some a2)) undef) ⟨fun v50x40 => @bnd (gif v37x28 true (aBin2 Tryz.prog H .eql 9 (.tmp 49) (.tmp 50) v49x39 v50x40) undef) ⟨fun v51x41 => @bnd
  (pickV v37x28 v51x41 (.bool false)) ⟨fun v52x42 => k v52x42 H⟩⟩⟩⟩⟩⟩⟩⟩⟩⟩⟩⟩⟩⟩⟩⟩⟩⟩⟩⟩⟩⟩⟩⟩⟩⟩⟩⟩⟩⟩⟩⟩⟩⟩⟩⟩⟩⟩⟩⟩⟩⟩) := by kernel_rfl
-- (*tocsin/expr.reader).one
theorem d105 (a0 a1 a2 : Value) (H : AHeap) (k : Value → AHeap → Prop) : kbody Tryz.prog Tryz.f105 [a0, a1, a2] H k = (@bndC Tryz.prog 126 [a2] H ⟨fun v11x1 H2 => @bndC Tryz.prog 127 [a0, a1] H2 ⟨fun v14x3 H4 => @bnd (aLookup
  Tryz.prog H4 163 v11x1 v14x3 true) ⟨fun v15x5 => @bnd (tupV v15x5 0) ⟨fun v16x6 => @bnd (tupV v15x5 1) ⟨fun v17x7 => @bnd (nilV a0) ⟨fun v20x8 => @bnd (aFieldAddr Tryz.prog H4 81 v20x8 2) ⟨fun v21x9 => @bnd (aLoad Tryz.prog H4
  4 v21x9) ⟨fun v22x10 => @bnd (gif v22x10 true ((some v17x7)) undef) ⟨fun v24x11 => @bnd (pickV v22x10 v24x11 (.bool false)) ⟨fun v25x12 => @bnd (nilV a0) ⟨fun v26x13 => @bnd (aFieldAddr Tryz.prog H4 81 v26x13 2) ⟨fun v27x14 =>
  @bndS (aStore Tryz.prog H4 4 v27x14 v25x12) ⟨fun _ H16 => @bnd (convV Tryz.prog H16 3 5 v16x6) ⟨fun v29x17 => k v29x17 H16⟩⟩⟩⟩⟩⟩⟩⟩⟩⟩⟩⟩⟩⟩) := by kernel_rfl
-- (*tocsin/expr.reader).selects
def L106x0 (n : Nat) (k : Value → AHeap → Prop) (sl : List Value) (H : AHeap) : Prop := kit Tryz.prog (cl (cl (cr (cl (cr (cr (cr (cr (cb Tryz.f106))))))))) n (kblk 0 (kseq Tryz.prog (cr (cr (cr (cr (cr (cb Tryz.f106)))))) (kfin
  Tryz.prog Tryz.f106 k))) .normal sl H
theorem d106 (a0 : Value) (H : AHeap) (k : Value → AHeap → Prop) : kbody Tryz.prog Tryz.f106 [a0] H k = (@bndC Tryz.prog 69 [a0, (.string { data := #[123] })] H ⟨fun v6x1 H2 => @bndC Tryz.prog 68 [a0, (.int .u8 4), (.string {
  data := #[125] })] H2 ⟨fun v8x3 H4 => @kifB v8x3 ⟨k (.slice none 0 0) H4⟩ ⟨∃ n, L106x0 n  k [a0, undef, (.slice none 0 0), (.slice none 0 0), (.bool true), a0, v6x1, a0, v8x3, undef, undef, undef, undef, undef, undef, undef,
  undef, undef, undef, undef, undef, undef, undef, undef, undef, undef, undef, undef, undef, undef, undef, undef, undef, undef, undef, undef, undef, undef, undef, undef, undef, undef, undef] H4⟩⟩⟩) := by kernel_rfl
theorem L106x0q (n0 : Nat) (s0 s1 s2 s3 s4 s5 s6 s7 s8 s9 s10 s11 s12 s13 s14 s15 s16 s17 s18 s19 s20 s21 s22 s23 s24 s25 s26 s27 s28 s29 s30 s31 s32 s33 s34 s35 s36 s37 s38 s39 s40 s41 s42 : Value) (H : AHeap) (k : Value → AHeap
  → Prop) : L106x0 (n0 + 1) k [s0, s1, s2, s3, s4, s5, s6, s7, s8, s9, s10, s11, s12, s13, s14, s15, s16, s17, s18, s19, s20, s21, s22, s23, s24, s25, s26, s27, s28, s29, s30, s31, s32, s33, s34, s35, s36, s37, s38, s39, s40,
  s41, s42] H = (@bnd (gif s4 true ((some s0)) undef) ⟨fun v11x5 => @bnd (gif s4 true (nilV v11x5) undef) ⟨fun v12x6 => @bnd (gif s4 true (aFieldAddr Tryz.prog H 81 v12x6 2) undef) ⟨fun v13x7 => @bnd (gif s4 true (aLoad Tryz.prog
  H 4 v13x7) undef) ⟨fun v14x8 => @bnd (pickV s4 v14x8 (.bool false)) ⟨fun v15x9 => @kifB v15x9 ⟨@bndC Tryz.prog 127 [s0, (.int .u8 1)] H ⟨fun v20x10 H11 => @bndC Tryz.prog 128 [] H11 ⟨fun v22x12 H13 => @bndC Tryz.prog 105 [s0,
  (.int .u8 4), v22x12] H13 ⟨fun v23x14 H15 => @bndC Tryz.prog 127 [s0, (.int .u8 3)] H15 ⟨fun v25x16 H17 => @bnd (buildV Tryz.prog 75 [(0, v20x10), (1, v23x14), (2, v25x16)]) ⟨fun v26x18 => @bndL Tryz.prog H17 35 1 [(0, v26x18)]
  ⟨fun v27x19 H20 => @bndE (aBuiltin Tryz.prog H20 Builtin.append #[35, 35] [s3, v27x19]) ⟨fun v28x21 H22 => @bndC Tryz.prog 68 [s0, (.int .u8 4), (.string { data := #[44] })] H22 ⟨fun v17x23 H24 => L106x0 n0  k [s0, s1, s2,
  v28x21, v17x23, s5, s6, s7, s8, s4, s4, v11x5, v12x6, v13x7, v14x8, v15x9, s0, v17x23, s3, s0, v20x10, s0, v22x12, v23x14, s0, v25x16, v26x18, v27x19, v28x21, s29, s30, s31, s32, s33, s34, s35, s36, s37, s38, s39, s40, s41,
  s42] H24⟩⟩⟩⟩⟩⟩⟩⟩⟩ ⟨@bndC Tryz.prog 69 [s0, (.string { data := #[125] })] H ⟨fun _ H26 => @bnd (nilV s0) ⟨fun v33x27 => @bnd (aFieldAddr Tryz.prog H26 81 v33x27 2) ⟨fun v34x28 => @bnd (aLoad Tryz.prog H26 4 v34x28) ⟨fun v35x29
  => @bnd (gif v35x29 true ((some s3)) undef) ⟨fun v37x30 => @bndG v35x29 true H26 ⟨fun v38x31 H32 => ACalls Tryz.prog 115 [v37x30] H26 v38x31 H32⟩ ⟨fun v38x31 H32 => @bnd (pickV v35x29 v38x31 (.bool false)) ⟨fun v39x33 => @bnd
  (nilV s0) ⟨fun v40x34 => @bnd (aFieldAddr Tryz.prog H32 81 v40x34 2) ⟨fun v41x35 => @bndS (aStore Tryz.prog H32 4 v41x35 v39x33) ⟨fun _ H37 => k s3 H37⟩⟩⟩⟩⟩⟩⟩⟩⟩⟩⟩⟩⟩⟩⟩⟩) := by kernel_rfl
-- (*tocsin/expr.reader).window
theorem d107 (a0 : Value) (H : AHeap) (k : Value → AHeap → Prop) : kbody Tryz.prog Tryz.f107 [a0] H k = (@bndC Tryz.prog 127 [a0, (.int .u8 2)] H ⟨fun v7x1 H2 => @bndC Tryz.prog 129 [v7x1] H2 ⟨fun v8x3 H4 => @bnd (tupV v8x3 0)
  ⟨fun v9x5 => @bnd (tupV v8x3 1) ⟨fun v10x6 => @bnd (nilV a0) ⟨fun v13x7 => @bnd (aFieldAddr Tryz.prog H4 81 v13x7 2) ⟨fun v14x8 => @bnd (aLoad Tryz.prog H4 4 v14x8) ⟨fun v15x9 => @bnd (gif v15x9 true ((some v10x6)) undef) ⟨fun
  v17x10 => @bnd (gif v15x9 true (aBin2 Tryz.prog H4 .eql 118 (.tmp 17) (.const .nilIface) v17x10 .nilIface) undef) ⟨fun v18x11 => @bnd (pickV v15x9 v18x11 (.bool false)) ⟨fun v19x12 => @bnd (gif v19x12 true ((some v9x5)) undef)
  ⟨fun v21x13 => @bnd (gif v19x12 true (aBin2 Tryz.prog H4 .geq 3 (.tmp 21) (.const (.int .i64 1)) v21x13 (.int .i64 1)) undef) ⟨fun v22x14 => @bnd (pickV v19x12 v22x14 (.bool false)) ⟨fun v23x15 => @bnd (gif v23x15 true ((some
  v9x5)) undef) ⟨fun v25x16 => @bnd (gif v23x15 true (aBin2 Tryz.prog H4 .leq 3 (.tmp 25) (.const (.int .i64 1000)) v25x16 (.int .i64 1000)) undef) ⟨fun v26x17 => @bnd (pickV v23x15 v26x17 (.bool false)) ⟨fun v27x18 => @bnd (nilV
  a0) ⟨fun v28x19 => @bnd (aFieldAddr Tryz.prog H4 81 v28x19 2) ⟨fun v29x20 => @bndS (aStore Tryz.prog H4 4 v29x20 v27x18) ⟨fun _ H22 => k v9x5 H22⟩⟩⟩⟩⟩⟩⟩⟩⟩⟩⟩⟩⟩⟩⟩⟩⟩⟩⟩) := by kernel_rfl
-- (*tocsin/expr.reader).value
def S108x0 (k : Value → AHeap → Prop) (sl : List Value) (H : AHeap) : Prop := kseq Tryz.prog (cr (cr (cr (cb Tryz.f108)))) (kfin Tryz.prog Tryz.f108 k) .normal sl H
theorem d108 (a0 : Value) (H : AHeap) (k : Value → AHeap → Prop) : kbody Tryz.prog Tryz.f108 [a0] H k = (@bndC Tryz.prog 68 [a0, (.int .u8 4), (.string { data := #[45] })] H ⟨fun v7x1 H2 => @kifB v7x1 ⟨S108x0  k [a0, undef, (.int
  .i64 0), (.string { data := #[45] }), undef, undef, a0, v7x1, undef, undef, undef, undef, undef, undef, undef, undef, undef, undef, undef, undef, undef, undef, undef, undef, undef, undef, undef, undef] H2⟩ ⟨S108x0  k [a0,
  undef, (.int .i64 0), (.string { data := #[] }), undef, undef, a0, v7x1, undef, undef, undef, undef, undef, undef, undef, undef, undef, undef, undef, undef, undef, undef, undef, undef, undef, undef, undef, undef] H2⟩⟩) := by
  kernel_rfl
theorem S108x0q (s0 s1 s2 s3 s4 s5 s6 s7 s8 s9 s10 s11 s12 s13 s14 s15 s16 s17 s18 s19 s20 s21 s22 s23 s24 s25 s26 s27 : Value) (H : AHeap) (k : Value → AHeap → Prop) : S108x0 k [s0, s1, s2, s3, s4, s5, s6, s7, s8, s9, s10, s11,
  s12, s13, s14, s15, s16, s17, s18, s19, s20, s21, s22, s23, s24, s25, s26, s27] H = (@bndC Tryz.prog 127 [s0, (.int .u8 2)] H ⟨fun v11x3 H4 => @bnd (aBin2 Tryz.prog H4 .add 9 (.tmp 9) (.tmp 11) s3 v11x3) ⟨fun v12x5 => @bndC
  Tryz.prog 130 [v12x5] H4 ⟨fun v13x6 H7 => @bnd (tupV v13x6 0) ⟨fun v14x8 => @bnd (tupV v13x6 1) ⟨fun v15x9 => @bnd (nilV s0) ⟨fun v18x10 => @bnd (aFieldAddr Tryz.prog H7 81 v18x10 2) ⟨fun v19x11 => @bnd (aLoad Tryz.prog H7 4
  v19x11) ⟨fun v20x12 => @bnd (gif v20x12 true ((some v15x9)) undef) ⟨fun v22x13 => @bnd (gif v20x12 true (aBin2 Tryz.prog H7 .eql 24 (.tmp 22) (.const (.int .i64 0)) v22x13 (.int .i64 0)) undef) ⟨fun v23x14 => @bnd (pickV v20x12
  v23x14 (.bool false)) ⟨fun v24x15 => @bnd (nilV s0) ⟨fun v25x16 => @bnd (aFieldAddr Tryz.prog H7 81 v25x16 2) ⟨fun v26x17 => @bndS (aStore Tryz.prog H7 4 v26x17 v24x15) ⟨fun _ H19 => k v14x8 H19⟩⟩⟩⟩⟩⟩⟩⟩⟩⟩⟩⟩⟩⟩) := by kernel_rfl
-- tocsin/match.ops
theorem d109 (H : AHeap) (k : Value → AHeap → Prop) : kbody Tryz.prog Tryz.f109 [] H k = (@bndE (some (Value.map (some H.length), H ++ [AObj.map []])) ⟨fun v1x1 H2 => @bnd (buildV Tryz.prog 150 [(0, (.string { data := #[61] })),
  (1, (.func (.func 131) #[] #[]))]) ⟨fun v2x3 => @bndS (aUpdate Tryz.prog H2 146 v1x1 (.int .u8 0) v2x3) ⟨fun _ H5 => @bnd (buildV Tryz.prog 150 [(0, (.string { data := #[33, 61] })), (1, (.func (.func 132) #[] #[]))]) ⟨fun v3x6
  => @bndS (aUpdate Tryz.prog H5 146 v1x1 (.int .u8 1) v3x6) ⟨fun _ H8 => @bnd (buildV Tryz.prog 150 [(0, (.string { data := #[94, 61] })), (1, (.func (.func 133) #[] #[]))]) ⟨fun v4x9 => @bndS (aUpdate Tryz.prog H8 146 v1x1
  (.int .u8 2) v4x9) ⟨fun _ H11 => k v1x1 H11⟩⟩⟩⟩⟩⟩⟩) := by kernel_rfl

end Go.Vi
