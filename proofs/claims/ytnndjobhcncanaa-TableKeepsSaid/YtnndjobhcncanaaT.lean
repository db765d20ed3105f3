/- What the seat's program says of its types and functions, as instances of the calculus. No statement of the seat is proved here. -/
import Derived.Test.YtnndjobhcncanaaD
import Derived.Test.YtnndjobhcncanaaProg
import Derived.KernelRfl
namespace Go.Proofs.Ytnndjobhcncanaa
open Go.Proofs.YtnndjobhcncanaaW.PrintLast
instance : UT Try.prog 2 (.int .i64) := ⟨Try.underlying2⟩
instance : UT Try.prog 3 (.int .i64) := ⟨Try.underlying3⟩
instance : UT Try.prog 4 (.bool) := ⟨Try.underlying4⟩
instance : UT Try.prog 5 (.int .u8) := ⟨Try.underlying5⟩
instance : UT Try.prog 6 (.int .u8) := ⟨Try.underlying6⟩
instance : UT Try.prog 7 (.struct #[{ name := "x", type := 2, offset := 0, embedded := false, tag := "", pkgPath := "runtime", byteOffset := 0 }, { name := "y", type := 3, offset := 1, embedded := false, tag := "", pkgPath := "runtime", byteOffset := 8 }, { name := "signed", type := 4, offset := 2, embedded := false, tag := "", pkgPath := "runtime", byteOffset := 16 }, { name := "code", type := 6, offset := 3, embedded := false, tag := "", pkgPath := "runtime", byteOffset := 17 }]) := ⟨Try.underlying7⟩
instance : UT Try.prog 8 (.struct #[{ name := "x", type := 2, offset := 0, embedded := false, tag := "", pkgPath := "runtime", byteOffset := 0 }, { name := "y", type := 3, offset := 1, embedded := false, tag := "", pkgPath := "runtime", byteOffset := 8 }, { name := "signed", type := 4, offset := 2, embedded := false, tag := "", pkgPath := "runtime", byteOffset := 16 }, { name := "code", type := 6, offset := 3, embedded := false, tag := "", pkgPath := "runtime", byteOffset := 17 }]) := ⟨Try.underlying8⟩
instance : UT Try.prog 9 (.string) := ⟨Try.underlying9⟩
instance : UT Try.prog 10 (.string) := ⟨Try.underlying10⟩
instance : UT Try.prog 11 (.string) := ⟨Try.underlying11⟩
instance : UT Try.prog 12 (.int .u64) := ⟨Try.underlying12⟩
instance : UT Try.prog 13 (.struct #[{ name := "msg", type := 9, offset := 0, embedded := false, tag := "", pkgPath := "runtime", byteOffset := 0 }, { name := "addr", type := 12, offset := 1, embedded := false, tag := "", pkgPath := "runtime", byteOffset := 16 }]) := ⟨Try.underlying13⟩
instance : UT Try.prog 14 (.struct #[{ name := "msg", type := 9, offset := 0, embedded := false, tag := "", pkgPath := "runtime", byteOffset := 0 }, { name := "addr", type := 12, offset := 1, embedded := false, tag := "", pkgPath := "runtime", byteOffset := 16 }]) := ⟨Try.underlying14⟩
instance : UT Try.prog 15 (.pointer 114) := ⟨Try.underlying15⟩
instance : UT Try.prog 16 (.pointer 117) := ⟨Try.underlying16⟩
instance : UT Try.prog 17 (.pointer 126) := ⟨Try.underlying17⟩
instance : UT Try.prog 18 (.struct #[{ name := "typ", type := 17, offset := 0, embedded := false, tag := "", pkgPath := "internal/runtime/maps", byteOffset := 0 }]) := ⟨Try.underlying18⟩
instance : UT Try.prog 19 (.struct #[{ name := "typ", type := 17, offset := 0, embedded := false, tag := "", pkgPath := "internal/runtime/maps", byteOffset := 0 }]) := ⟨Try.underlying19⟩
instance : UT Try.prog 21 (.int .i32) := ⟨Try.underlying21⟩
instance : UT Try.prog 22 (.slice 42) := ⟨Try.underlying22⟩
instance : UT Try.prog 23 (.slice 58) := ⟨Try.underlying23⟩
instance : UT Try.prog 24 (.slice 63) := ⟨Try.underlying24⟩
instance : UT Try.prog 25 (.struct #[{ name := "Start", type := 3, offset := 0, embedded := false, tag := "", pkgPath := "", byteOffset := 0 }, { name := "End", type := 3, offset := 1, embedded := false, tag := "", pkgPath := "", byteOffset := 8 }, { name := "Rows", type := 22, offset := 2, embedded := false, tag := "", pkgPath := "", byteOffset := 16 }, { name := "Open", type := 23, offset := 3, embedded := false, tag := "", pkgPath := "", byteOffset := 40 }, { name := "Prods", type := 24, offset := 4, embedded := false, tag := "", pkgPath := "", byteOffset := 64 }]) := ⟨Try.underlying25⟩
instance : UT Try.prog 26 (.struct #[{ name := "Start", type := 3, offset := 0, embedded := false, tag := "", pkgPath := "", byteOffset := 0 }, { name := "End", type := 3, offset := 1, embedded := false, tag := "", pkgPath := "", byteOffset := 8 }, { name := "Rows", type := 22, offset := 2, embedded := false, tag := "", pkgPath := "", byteOffset := 16 }, { name := "Open", type := 23, offset := 3, embedded := false, tag := "", pkgPath := "", byteOffset := 40 }, { name := "Prods", type := 24, offset := 4, embedded := false, tag := "", pkgPath := "", byteOffset := 64 }]) := ⟨Try.underlying26⟩
instance : UT Try.prog 27 (.int .i64) := ⟨Try.underlying27⟩
instance : UT Try.prog 31 (.slice 3) := ⟨Try.underlying31⟩
instance : UT Try.prog 32 (.struct #[{ name := "Start", type := 3, offset := 0, embedded := false, tag := "", pkgPath := "", byteOffset := 0 }, { name := "End", type := 3, offset := 1, embedded := false, tag := "", pkgPath := "", byteOffset := 8 }, { name := "New", type := 31, offset := 2, embedded := false, tag := "", pkgPath := "", byteOffset := 16 }]) := ⟨Try.underlying32⟩
instance : UT Try.prog 33 (.struct #[{ name := "Start", type := 3, offset := 0, embedded := false, tag := "", pkgPath := "", byteOffset := 0 }, { name := "End", type := 3, offset := 1, embedded := false, tag := "", pkgPath := "", byteOffset := 8 }, { name := "New", type := 31, offset := 2, embedded := false, tag := "", pkgPath := "", byteOffset := 16 }]) := ⟨Try.underlying33⟩
instance : UT Try.prog 41 (.struct #[{ name := "Offset", type := 3, offset := 0, embedded := false, tag := "", pkgPath := "", byteOffset := 0 }, { name := "Pid", type := 3, offset := 1, embedded := false, tag := "", pkgPath := "", byteOffset := 8 }, { name := "Seq", type := 3, offset := 2, embedded := false, tag := "", pkgPath := "", byteOffset := 16 }, { name := "Key", type := 9, offset := 3, embedded := false, tag := "", pkgPath := "", byteOffset := 24 }, { name := "Value", type := 9, offset := 4, embedded := false, tag := "", pkgPath := "", byteOffset := 40 }]) := ⟨Try.underlying41⟩
instance : UT Try.prog 42 (.struct #[{ name := "Offset", type := 3, offset := 0, embedded := false, tag := "", pkgPath := "", byteOffset := 0 }, { name := "Pid", type := 3, offset := 1, embedded := false, tag := "", pkgPath := "", byteOffset := 8 }, { name := "Seq", type := 3, offset := 2, embedded := false, tag := "", pkgPath := "", byteOffset := 16 }, { name := "Key", type := 9, offset := 3, embedded := false, tag := "", pkgPath := "", byteOffset := 24 }, { name := "Value", type := 9, offset := 4, embedded := false, tag := "", pkgPath := "", byteOffset := 40 }]) := ⟨Try.underlying42⟩
instance : UT Try.prog 50 (.slice 33) := ⟨Try.underlying50⟩
instance : UT Try.prog 56 (.slice 87) := ⟨Try.underlying56⟩
instance : UT Try.prog 57 (.struct #[{ name := "Pid", type := 3, offset := 0, embedded := false, tag := "", pkgPath := "", byteOffset := 0 }, { name := "Epoch", type := 3, offset := 1, embedded := false, tag := "", pkgPath := "", byteOffset := 8 }, { name := "Batches", type := 56, offset := 2, embedded := false, tag := "", pkgPath := "", byteOffset := 16 }]) := ⟨Try.underlying57⟩
instance : UT Try.prog 58 (.struct #[{ name := "Pid", type := 3, offset := 0, embedded := false, tag := "", pkgPath := "", byteOffset := 0 }, { name := "Epoch", type := 3, offset := 1, embedded := false, tag := "", pkgPath := "", byteOffset := 8 }, { name := "Batches", type := 56, offset := 2, embedded := false, tag := "", pkgPath := "", byteOffset := 16 }]) := ⟨Try.underlying58⟩
instance : UT Try.prog 61 (.slice 128) := ⟨Try.underlying61⟩
instance : UT Try.prog 62 (.struct #[{ name := "Pid", type := 3, offset := 0, embedded := false, tag := "", pkgPath := "", byteOffset := 0 }, { name := "Epoch", type := 3, offset := 1, embedded := false, tag := "", pkgPath := "", byteOffset := 8 }, { name := "Next", type := 3, offset := 2, embedded := false, tag := "", pkgPath := "", byteOffset := 16 }, { name := "Seen", type := 61, offset := 3, embedded := false, tag := "", pkgPath := "", byteOffset := 24 }]) := ⟨Try.underlying62⟩
instance : UT Try.prog 63 (.struct #[{ name := "Pid", type := 3, offset := 0, embedded := false, tag := "", pkgPath := "", byteOffset := 0 }, { name := "Epoch", type := 3, offset := 1, embedded := false, tag := "", pkgPath := "", byteOffset := 8 }, { name := "Next", type := 3, offset := 2, embedded := false, tag := "", pkgPath := "", byteOffset := 16 }, { name := "Seen", type := 61, offset := 3, embedded := false, tag := "", pkgPath := "", byteOffset := 24 }]) := ⟨Try.underlying63⟩
instance : UT Try.prog 71 (.slice 5) := ⟨Try.underlying71⟩
instance : UT Try.prog 75 (.pointer 99) := ⟨Try.underlying75⟩
instance : UT Try.prog 80 (.pointer 84) := ⟨Try.underlying80⟩
instance : UT Try.prog 83 (.struct #[{ name := "B", type := 9, offset := 0, embedded := false, tag := "", pkgPath := "", byteOffset := 0 }, { name := "At", type := 3, offset := 1, embedded := false, tag := "", pkgPath := "", byteOffset := 16 }, { name := "Bad", type := 4, offset := 2, embedded := false, tag := "", pkgPath := "", byteOffset := 24 }]) := ⟨Try.underlying83⟩
instance : UT Try.prog 84 (.struct #[{ name := "B", type := 9, offset := 0, embedded := false, tag := "", pkgPath := "", byteOffset := 0 }, { name := "At", type := 3, offset := 1, embedded := false, tag := "", pkgPath := "", byteOffset := 16 }, { name := "Bad", type := 4, offset := 2, embedded := false, tag := "", pkgPath := "", byteOffset := 24 }]) := ⟨Try.underlying84⟩
instance : UT Try.prog 85 (.slice 89) := ⟨Try.underlying85⟩
instance : UT Try.prog 86 (.struct #[{ name := "Pid", type := 3, offset := 0, embedded := false, tag := "", pkgPath := "", byteOffset := 0 }, { name := "Epoch", type := 3, offset := 1, embedded := false, tag := "", pkgPath := "", byteOffset := 8 }, { name := "Seq", type := 3, offset := 2, embedded := false, tag := "", pkgPath := "", byteOffset := 16 }, { name := "Txn", type := 4, offset := 3, embedded := false, tag := "", pkgPath := "", byteOffset := 24 }, { name := "Records", type := 85, offset := 4, embedded := false, tag := "", pkgPath := "", byteOffset := 32 }]) := ⟨Try.underlying86⟩
instance : UT Try.prog 87 (.struct #[{ name := "Pid", type := 3, offset := 0, embedded := false, tag := "", pkgPath := "", byteOffset := 0 }, { name := "Epoch", type := 3, offset := 1, embedded := false, tag := "", pkgPath := "", byteOffset := 8 }, { name := "Seq", type := 3, offset := 2, embedded := false, tag := "", pkgPath := "", byteOffset := 16 }, { name := "Txn", type := 4, offset := 3, embedded := false, tag := "", pkgPath := "", byteOffset := 24 }, { name := "Records", type := 85, offset := 4, embedded := false, tag := "", pkgPath := "", byteOffset := 32 }]) := ⟨Try.underlying87⟩
instance : UT Try.prog 88 (.struct #[{ name := "Key", type := 9, offset := 0, embedded := false, tag := "", pkgPath := "", byteOffset := 0 }, { name := "Value", type := 9, offset := 1, embedded := false, tag := "", pkgPath := "", byteOffset := 16 }]) := ⟨Try.underlying88⟩
instance : UT Try.prog 89 (.struct #[{ name := "Key", type := 9, offset := 0, embedded := false, tag := "", pkgPath := "", byteOffset := 0 }, { name := "Value", type := 9, offset := 1, embedded := false, tag := "", pkgPath := "", byteOffset := 16 }]) := ⟨Try.underlying89⟩
instance : UT Try.prog 96 (.int .u64) := ⟨Try.underlying96⟩
instance : UT Try.prog 99 (.struct #[{ name := "B", type := 9, offset := 0, embedded := false, tag := "", pkgPath := "", byteOffset := 0 }, { name := "At", type := 3, offset := 1, embedded := false, tag := "", pkgPath := "", byteOffset := 16 }, { name := "Bad", type := 4, offset := 2, embedded := false, tag := "", pkgPath := "", byteOffset := 24 }]) := ⟨Try.underlying99⟩
instance : UT Try.prog 102 (.pointer 42) := ⟨Try.underlying102⟩
instance : UT Try.prog 103 (.pointer 58) := ⟨Try.underlying103⟩
instance : UT Try.prog 108 (.pointer 110) := ⟨Try.underlying108⟩
instance : UT Try.prog 109 (.struct #[{ name := "b", type := 71, offset := 0, embedded := false, tag := "", pkgPath := "roving/varint", byteOffset := 0 }, { name := "at", type := 3, offset := 1, embedded := false, tag := "", pkgPath := "roving/varint", byteOffset := 24 }]) := ⟨Try.underlying109⟩
instance : UT Try.prog 110 (.struct #[{ name := "b", type := 71, offset := 0, embedded := false, tag := "", pkgPath := "roving/varint", byteOffset := 0 }, { name := "at", type := 3, offset := 1, embedded := false, tag := "", pkgPath := "roving/varint", byteOffset := 24 }]) := ⟨Try.underlying110⟩
instance : UT Try.prog 113 (.struct #[{ name := "_interface", type := 17, offset := 0, embedded := false, tag := "", pkgPath := "runtime", byteOffset := 0 }, { name := "concrete", type := 17, offset := 1, embedded := false, tag := "", pkgPath := "runtime", byteOffset := 8 }, { name := "asserted", type := 17, offset := 2, embedded := false, tag := "", pkgPath := "runtime", byteOffset := 16 }, { name := "missingMethod", type := 9, offset := 3, embedded := false, tag := "", pkgPath := "runtime", byteOffset := 24 }]) := ⟨Try.underlying113⟩
instance : UT Try.prog 114 (.struct #[{ name := "_interface", type := 17, offset := 0, embedded := false, tag := "", pkgPath := "runtime", byteOffset := 0 }, { name := "concrete", type := 17, offset := 1, embedded := false, tag := "", pkgPath := "runtime", byteOffset := 8 }, { name := "asserted", type := 17, offset := 2, embedded := false, tag := "", pkgPath := "runtime", byteOffset := 16 }, { name := "missingMethod", type := 9, offset := 3, embedded := false, tag := "", pkgPath := "runtime", byteOffset := 24 }]) := ⟨Try.underlying114⟩
instance : UT Try.prog 115 (.array 0 16) := ⟨Try.underlying115⟩
instance : UT Try.prog 116 (.struct #[{ name := "_", type := 115, offset := 0, embedded := false, tag := "", pkgPath := "runtime", byteOffset := 0 }]) := ⟨Try.underlying116⟩
instance : UT Try.prog 117 (.struct #[{ name := "_", type := 115, offset := 0, embedded := false, tag := "", pkgPath := "runtime", byteOffset := 0 }]) := ⟨Try.underlying117⟩
instance : UT Try.prog 118 (.int .u32) := ⟨Try.underlying118⟩
instance : UT Try.prog 119 (.int .u8) := ⟨Try.underlying119⟩
instance : UT Try.prog 120 (.int .u8) := ⟨Try.underlying120⟩
instance : UT Try.prog 122 (.pointer 5) := ⟨Try.underlying122⟩
instance : UT Try.prog 123 (.int .i32) := ⟨Try.underlying123⟩
instance : UT Try.prog 124 (.int .i32) := ⟨Try.underlying124⟩
instance : UT Try.prog 125 (.struct #[{ name := "Size_", type := 12, offset := 0, embedded := false, tag := "", pkgPath := "", byteOffset := 0 }, { name := "PtrBytes", type := 12, offset := 1, embedded := false, tag := "", pkgPath := "", byteOffset := 8 }, { name := "Hash", type := 118, offset := 2, embedded := false, tag := "", pkgPath := "", byteOffset := 16 }, { name := "TFlag", type := 119, offset := 3, embedded := false, tag := "", pkgPath := "", byteOffset := 20 }, { name := "Align_", type := 5, offset := 4, embedded := false, tag := "", pkgPath := "", byteOffset := 21 }, { name := "FieldAlign_", type := 5, offset := 5, embedded := false, tag := "", pkgPath := "", byteOffset := 22 }, { name := "Kind_", type := 120, offset := 6, embedded := false, tag := "", pkgPath := "", byteOffset := 23 }, { name := "Equal", type := 121, offset := 7, embedded := false, tag := "", pkgPath := "", byteOffset := 24 }, { name := "GCData", type := 122, offset := 8, embedded := false, tag := "", pkgPath := "", byteOffset := 32 }, { name := "Str", type := 123, offset := 9, embedded := false, tag := "", pkgPath := "", byteOffset := 40 }, { name := "PtrToThis", type := 124, offset := 10, embedded := false, tag := "", pkgPath := "", byteOffset := 44 }]) := ⟨Try.underlying125⟩
instance : UT Try.prog 126 (.struct #[{ name := "Size_", type := 12, offset := 0, embedded := false, tag := "", pkgPath := "", byteOffset := 0 }, { name := "PtrBytes", type := 12, offset := 1, embedded := false, tag := "", pkgPath := "", byteOffset := 8 }, { name := "Hash", type := 118, offset := 2, embedded := false, tag := "", pkgPath := "", byteOffset := 16 }, { name := "TFlag", type := 119, offset := 3, embedded := false, tag := "", pkgPath := "", byteOffset := 20 }, { name := "Align_", type := 5, offset := 4, embedded := false, tag := "", pkgPath := "", byteOffset := 21 }, { name := "FieldAlign_", type := 5, offset := 5, embedded := false, tag := "", pkgPath := "", byteOffset := 22 }, { name := "Kind_", type := 120, offset := 6, embedded := false, tag := "", pkgPath := "", byteOffset := 23 }, { name := "Equal", type := 121, offset := 7, embedded := false, tag := "", pkgPath := "", byteOffset := 24 }, { name := "GCData", type := 122, offset := 8, embedded := false, tag := "", pkgPath := "", byteOffset := 32 }, { name := "Str", type := 123, offset := 9, embedded := false, tag := "", pkgPath := "", byteOffset := 40 }, { name := "PtrToThis", type := 124, offset := 10, embedded := false, tag := "", pkgPath := "", byteOffset := 44 }]) := ⟨Try.underlying126⟩
instance : UT Try.prog 127 (.struct #[{ name := "Seq", type := 3, offset := 0, embedded := false, tag := "", pkgPath := "", byteOffset := 0 }, { name := "Count", type := 3, offset := 1, embedded := false, tag := "", pkgPath := "", byteOffset := 8 }, { name := "Base", type := 3, offset := 2, embedded := false, tag := "", pkgPath := "", byteOffset := 16 }]) := ⟨Try.underlying127⟩
instance : UT Try.prog 128 (.struct #[{ name := "Seq", type := 3, offset := 0, embedded := false, tag := "", pkgPath := "", byteOffset := 0 }, { name := "Count", type := 3, offset := 1, embedded := false, tag := "", pkgPath := "", byteOffset := 8 }, { name := "Base", type := 3, offset := 2, embedded := false, tag := "", pkgPath := "", byteOffset := 16 }]) := ⟨Try.underlying128⟩
instance : IT Try.prog 1 (.nilFunc) 1 8 := ⟨by kernel_rfl, rfl⟩
instance : IT Try.prog 2 (.int .i64 0) 1 8 := ⟨by kernel_rfl, rfl⟩
instance : IT Try.prog 3 (.int .i64 0) 1 8 := ⟨by kernel_rfl, rfl⟩
instance : IT Try.prog 4 (.bool false) 1 1 := ⟨by kernel_rfl, rfl⟩
instance : IT Try.prog 5 (.int .u8 0) 1 1 := ⟨by kernel_rfl, rfl⟩
instance : IT Try.prog 6 (.int .u8 0) 1 1 := ⟨by kernel_rfl, rfl⟩
instance : IT Try.prog 7 (.agg #[.int .i64 0, .int .i64 0, .bool false, .int .u8 0]) 4 24 := ⟨by kernel_rfl, rfl⟩
instance : IT Try.prog 8 (.agg #[.int .i64 0, .int .i64 0, .bool false, .int .u8 0]) 4 24 := ⟨by kernel_rfl, rfl⟩
instance : IT Try.prog 9 (.string ⟨#[]⟩) 1 16 := ⟨by kernel_rfl, rfl⟩
instance : IT Try.prog 10 (.string ⟨#[]⟩) 1 16 := ⟨by kernel_rfl, rfl⟩
instance : IT Try.prog 11 (.string ⟨#[]⟩) 1 16 := ⟨by kernel_rfl, rfl⟩
instance : IT Try.prog 12 (.int .u64 0) 1 8 := ⟨by kernel_rfl, rfl⟩
instance : IT Try.prog 13 (.agg #[.string ⟨#[]⟩, .int .u64 0]) 2 24 := ⟨by kernel_rfl, rfl⟩
instance : IT Try.prog 14 (.agg #[.string ⟨#[]⟩, .int .u64 0]) 2 24 := ⟨by kernel_rfl, rfl⟩
instance : IT Try.prog 15 (.pointer none) 1 8 := ⟨by kernel_rfl, rfl⟩
instance : IT Try.prog 16 (.pointer none) 1 8 := ⟨by kernel_rfl, rfl⟩
instance : IT Try.prog 17 (.pointer none) 1 8 := ⟨by kernel_rfl, rfl⟩
instance : IT Try.prog 18 (.agg #[.pointer none]) 1 8 := ⟨by kernel_rfl, rfl⟩
instance : IT Try.prog 19 (.agg #[.pointer none]) 1 8 := ⟨by kernel_rfl, rfl⟩
instance : IT Try.prog 20 (.nilIface) 1 16 := ⟨by kernel_rfl, rfl⟩
instance : IT Try.prog 21 (.int .i32 0) 1 4 := ⟨by kernel_rfl, rfl⟩
instance : IT Try.prog 22 (.slice none 0 0) 1 24 := ⟨by kernel_rfl, rfl⟩
instance : IT Try.prog 23 (.slice none 0 0) 1 24 := ⟨by kernel_rfl, rfl⟩
instance : IT Try.prog 24 (.slice none 0 0) 1 24 := ⟨by kernel_rfl, rfl⟩
instance : IT Try.prog 25 (.agg #[.int .i64 0, .int .i64 0, .slice none 0 0, .slice none 0 0, .slice none 0 0]) 5 88 := ⟨by kernel_rfl, rfl⟩
instance : IT Try.prog 26 (.agg #[.int .i64 0, .int .i64 0, .slice none 0 0, .slice none 0 0, .slice none 0 0]) 5 88 := ⟨by kernel_rfl, rfl⟩
instance : IT Try.prog 27 (.int .i64 0) 1 8 := ⟨by kernel_rfl, rfl⟩
instance : IT Try.prog 28 (.nilFunc) 1 8 := ⟨by kernel_rfl, rfl⟩
instance : IT Try.prog 29 (.nilFunc) 1 8 := ⟨by kernel_rfl, rfl⟩
instance : IT Try.prog 30 (.nilFunc) 1 8 := ⟨by kernel_rfl, rfl⟩
instance : IT Try.prog 31 (.slice none 0 0) 1 24 := ⟨by kernel_rfl, rfl⟩
instance : IT Try.prog 32 (.agg #[.int .i64 0, .int .i64 0, .slice none 0 0]) 3 40 := ⟨by kernel_rfl, rfl⟩
instance : IT Try.prog 33 (.agg #[.int .i64 0, .int .i64 0, .slice none 0 0]) 3 40 := ⟨by kernel_rfl, rfl⟩
instance : IT Try.prog 35 (.nilFunc) 1 8 := ⟨by kernel_rfl, rfl⟩
instance : IT Try.prog 36 (.nilFunc) 1 8 := ⟨by kernel_rfl, rfl⟩
instance : IT Try.prog 37 (.nilFunc) 1 8 := ⟨by kernel_rfl, rfl⟩
instance : IT Try.prog 38 (.nilFunc) 1 8 := ⟨by kernel_rfl, rfl⟩
instance : IT Try.prog 40 (.nilFunc) 1 8 := ⟨by kernel_rfl, rfl⟩
instance : IT Try.prog 41 (.agg #[.int .i64 0, .int .i64 0, .int .i64 0, .string ⟨#[]⟩, .string ⟨#[]⟩]) 5 56 := ⟨by kernel_rfl, rfl⟩
instance : IT Try.prog 42 (.agg #[.int .i64 0, .int .i64 0, .int .i64 0, .string ⟨#[]⟩, .string ⟨#[]⟩]) 5 56 := ⟨by kernel_rfl, rfl⟩
instance : IT Try.prog 43 (.nilFunc) 1 8 := ⟨by kernel_rfl, rfl⟩
instance : IT Try.prog 45 (.nilFunc) 1 8 := ⟨by kernel_rfl, rfl⟩
instance : IT Try.prog 46 (.nilFunc) 1 8 := ⟨by kernel_rfl, rfl⟩
instance : IT Try.prog 47 (.nilFunc) 1 8 := ⟨by kernel_rfl, rfl⟩
instance : IT Try.prog 48 (.nilFunc) 1 8 := ⟨by kernel_rfl, rfl⟩
instance : IT Try.prog 49 (.nilFunc) 1 8 := ⟨by kernel_rfl, rfl⟩
instance : IT Try.prog 50 (.slice none 0 0) 1 24 := ⟨by kernel_rfl, rfl⟩
instance : IT Try.prog 52 (.nilFunc) 1 8 := ⟨by kernel_rfl, rfl⟩
instance : IT Try.prog 54 (.nilFunc) 1 8 := ⟨by kernel_rfl, rfl⟩
instance : IT Try.prog 55 (.nilFunc) 1 8 := ⟨by kernel_rfl, rfl⟩
instance : IT Try.prog 56 (.slice none 0 0) 1 24 := ⟨by kernel_rfl, rfl⟩
instance : IT Try.prog 57 (.agg #[.int .i64 0, .int .i64 0, .slice none 0 0]) 3 40 := ⟨by kernel_rfl, rfl⟩
instance : IT Try.prog 58 (.agg #[.int .i64 0, .int .i64 0, .slice none 0 0]) 3 40 := ⟨by kernel_rfl, rfl⟩
instance : IT Try.prog 59 (.nilFunc) 1 8 := ⟨by kernel_rfl, rfl⟩
instance : IT Try.prog 60 (.nilFunc) 1 8 := ⟨by kernel_rfl, rfl⟩
instance : IT Try.prog 61 (.slice none 0 0) 1 24 := ⟨by kernel_rfl, rfl⟩
instance : IT Try.prog 62 (.agg #[.int .i64 0, .int .i64 0, .int .i64 0, .slice none 0 0]) 4 48 := ⟨by kernel_rfl, rfl⟩
instance : IT Try.prog 63 (.agg #[.int .i64 0, .int .i64 0, .int .i64 0, .slice none 0 0]) 4 48 := ⟨by kernel_rfl, rfl⟩
instance : IT Try.prog 64 (.nilFunc) 1 8 := ⟨by kernel_rfl, rfl⟩
instance : IT Try.prog 65 (.nilFunc) 1 8 := ⟨by kernel_rfl, rfl⟩
instance : IT Try.prog 66 (.nilFunc) 1 8 := ⟨by kernel_rfl, rfl⟩
instance : IT Try.prog 67 (.nilFunc) 1 8 := ⟨by kernel_rfl, rfl⟩
instance : IT Try.prog 68 (.nilFunc) 1 8 := ⟨by kernel_rfl, rfl⟩
instance : IT Try.prog 69 (.nilFunc) 1 8 := ⟨by kernel_rfl, rfl⟩
instance : IT Try.prog 70 (.nilFunc) 1 8 := ⟨by kernel_rfl, rfl⟩
instance : IT Try.prog 71 (.slice none 0 0) 1 24 := ⟨by kernel_rfl, rfl⟩
instance : IT Try.prog 73 (.nilFunc) 1 8 := ⟨by kernel_rfl, rfl⟩
instance : IT Try.prog 74 (.nilFunc) 1 8 := ⟨by kernel_rfl, rfl⟩
instance : IT Try.prog 75 (.pointer none) 1 8 := ⟨by kernel_rfl, rfl⟩
instance : IT Try.prog 76 (.nilFunc) 1 8 := ⟨by kernel_rfl, rfl⟩
instance : IT Try.prog 78 (.nilFunc) 1 8 := ⟨by kernel_rfl, rfl⟩
instance : IT Try.prog 79 (.nilFunc) 1 8 := ⟨by kernel_rfl, rfl⟩
instance : IT Try.prog 80 (.pointer none) 1 8 := ⟨by kernel_rfl, rfl⟩
instance : IT Try.prog 81 (.nilFunc) 1 8 := ⟨by kernel_rfl, rfl⟩
instance : IT Try.prog 82 (.nilFunc) 1 8 := ⟨by kernel_rfl, rfl⟩
instance : IT Try.prog 83 (.agg #[.string ⟨#[]⟩, .int .i64 0, .bool false]) 3 32 := ⟨by kernel_rfl, rfl⟩
instance : IT Try.prog 84 (.agg #[.string ⟨#[]⟩, .int .i64 0, .bool false]) 3 32 := ⟨by kernel_rfl, rfl⟩
instance : IT Try.prog 85 (.slice none 0 0) 1 24 := ⟨by kernel_rfl, rfl⟩
instance : IT Try.prog 86 (.agg #[.int .i64 0, .int .i64 0, .int .i64 0, .bool false, .slice none 0 0]) 5 56 := ⟨by kernel_rfl, rfl⟩
instance : IT Try.prog 87 (.agg #[.int .i64 0, .int .i64 0, .int .i64 0, .bool false, .slice none 0 0]) 5 56 := ⟨by kernel_rfl, rfl⟩
instance : IT Try.prog 88 (.agg #[.string ⟨#[]⟩, .string ⟨#[]⟩]) 2 32 := ⟨by kernel_rfl, rfl⟩
instance : IT Try.prog 89 (.agg #[.string ⟨#[]⟩, .string ⟨#[]⟩]) 2 32 := ⟨by kernel_rfl, rfl⟩
instance : IT Try.prog 90 (.nilFunc) 1 8 := ⟨by kernel_rfl, rfl⟩
instance : IT Try.prog 91 (.nilFunc) 1 8 := ⟨by kernel_rfl, rfl⟩
instance : IT Try.prog 92 (.nilFunc) 1 8 := ⟨by kernel_rfl, rfl⟩
instance : IT Try.prog 93 (.nilFunc) 1 8 := ⟨by kernel_rfl, rfl⟩
instance : IT Try.prog 94 (.nilFunc) 1 8 := ⟨by kernel_rfl, rfl⟩
instance : IT Try.prog 95 (.nilFunc) 1 8 := ⟨by kernel_rfl, rfl⟩
instance : IT Try.prog 96 (.int .u64 0) 1 8 := ⟨by kernel_rfl, rfl⟩
instance : IT Try.prog 97 (.nilFunc) 1 8 := ⟨by kernel_rfl, rfl⟩
instance : IT Try.prog 98 (.nilFunc) 1 8 := ⟨by kernel_rfl, rfl⟩
instance : IT Try.prog 99 (.agg #[.string ⟨#[]⟩, .int .i64 0, .bool false]) 3 32 := ⟨by kernel_rfl, rfl⟩
instance : IT Try.prog 101 (.nilFunc) 1 8 := ⟨by kernel_rfl, rfl⟩
instance : IT Try.prog 102 (.pointer none) 1 8 := ⟨by kernel_rfl, rfl⟩
instance : IT Try.prog 103 (.pointer none) 1 8 := ⟨by kernel_rfl, rfl⟩
instance : IT Try.prog 104 (.nilFunc) 1 8 := ⟨by kernel_rfl, rfl⟩
instance : IT Try.prog 105 (.nilFunc) 1 8 := ⟨by kernel_rfl, rfl⟩
instance : IT Try.prog 106 (.nilFunc) 1 8 := ⟨by kernel_rfl, rfl⟩
instance : IT Try.prog 107 (.nilFunc) 1 8 := ⟨by kernel_rfl, rfl⟩
instance : IT Try.prog 108 (.pointer none) 1 8 := ⟨by kernel_rfl, rfl⟩
instance : IT Try.prog 109 (.agg #[.slice none 0 0, .int .i64 0]) 2 32 := ⟨by kernel_rfl, rfl⟩
instance : IT Try.prog 110 (.agg #[.slice none 0 0, .int .i64 0]) 2 32 := ⟨by kernel_rfl, rfl⟩
instance : IT Try.prog 111 (.nilFunc) 1 8 := ⟨by kernel_rfl, rfl⟩
instance : IT Try.prog 112 (.nilFunc) 1 8 := ⟨by kernel_rfl, rfl⟩
instance : IT Try.prog 113 (.agg #[.pointer none, .pointer none, .pointer none, .string ⟨#[]⟩]) 4 40 := ⟨by kernel_rfl, rfl⟩
instance : IT Try.prog 114 (.agg #[.pointer none, .pointer none, .pointer none, .string ⟨#[]⟩]) 4 40 := ⟨by kernel_rfl, rfl⟩
instance : IT Try.prog 115 (.agg #[]) 0 0 := ⟨by kernel_rfl, rfl⟩
instance : IT Try.prog 116 (.agg #[]) 0 0 := ⟨by kernel_rfl, rfl⟩
instance : IT Try.prog 117 (.agg #[]) 0 0 := ⟨by kernel_rfl, rfl⟩
instance : IT Try.prog 118 (.int .u32 0) 1 4 := ⟨by kernel_rfl, rfl⟩
instance : IT Try.prog 119 (.int .u8 0) 1 1 := ⟨by kernel_rfl, rfl⟩
instance : IT Try.prog 120 (.int .u8 0) 1 1 := ⟨by kernel_rfl, rfl⟩
instance : IT Try.prog 121 (.nilFunc) 1 8 := ⟨by kernel_rfl, rfl⟩
instance : IT Try.prog 122 (.pointer none) 1 8 := ⟨by kernel_rfl, rfl⟩
instance : IT Try.prog 123 (.int .i32 0) 1 4 := ⟨by kernel_rfl, rfl⟩
instance : IT Try.prog 124 (.int .i32 0) 1 4 := ⟨by kernel_rfl, rfl⟩
instance : IT Try.prog 125 (.agg #[.int .u64 0, .int .u64 0, .int .u32 0, .int .u8 0, .int .u8 0, .int .u8 0, .int .u8 0, .nilFunc, .pointer none, .int .i32 0, .int .i32 0]) 11 48 := ⟨by kernel_rfl, rfl⟩
instance : IT Try.prog 126 (.agg #[.int .u64 0, .int .u64 0, .int .u32 0, .int .u8 0, .int .u8 0, .int .u8 0, .int .u8 0, .nilFunc, .pointer none, .int .i32 0, .int .i32 0]) 11 48 := ⟨by kernel_rfl, rfl⟩
instance : IT Try.prog 127 (.agg #[.int .i64 0, .int .i64 0, .int .i64 0]) 3 24 := ⟨by kernel_rfl, rfl⟩
instance : IT Try.prog 128 (.agg #[.int .i64 0, .int .i64 0, .int .i64 0]) 3 24 := ⟨by kernel_rfl, rfl⟩
instance : FO Try.prog 7 0 0 2 := ⟨by kernel_rfl⟩
instance : FO Try.prog 7 1 1 3 := ⟨by kernel_rfl⟩
instance : FO Try.prog 7 2 2 4 := ⟨by kernel_rfl⟩
instance : FO Try.prog 7 3 3 6 := ⟨by kernel_rfl⟩
instance : ST Try.prog 7 [(0, 1), (1, 1), (2, 1), (3, 1)] [.int .i64 0, .int .i64 0, .bool false, .int .u8 0] := ⟨by kernel_rfl, _, _, inferInstance⟩
instance : FO Try.prog 8 0 0 2 := ⟨by kernel_rfl⟩
instance : FO Try.prog 8 1 1 3 := ⟨by kernel_rfl⟩
instance : FO Try.prog 8 2 2 4 := ⟨by kernel_rfl⟩
instance : FO Try.prog 8 3 3 6 := ⟨by kernel_rfl⟩
instance : ST Try.prog 8 [(0, 1), (1, 1), (2, 1), (3, 1)] [.int .i64 0, .int .i64 0, .bool false, .int .u8 0] := ⟨by kernel_rfl, _, _, inferInstance⟩
instance : FO Try.prog 13 0 0 9 := ⟨by kernel_rfl⟩
instance : FO Try.prog 13 1 1 12 := ⟨by kernel_rfl⟩
instance : ST Try.prog 13 [(0, 1), (1, 1)] [.string ⟨#[]⟩, .int .u64 0] := ⟨by kernel_rfl, _, _, inferInstance⟩
instance : FO Try.prog 14 0 0 9 := ⟨by kernel_rfl⟩
instance : FO Try.prog 14 1 1 12 := ⟨by kernel_rfl⟩
instance : ST Try.prog 14 [(0, 1), (1, 1)] [.string ⟨#[]⟩, .int .u64 0] := ⟨by kernel_rfl, _, _, inferInstance⟩
instance : FO Try.prog 18 0 0 17 := ⟨by kernel_rfl⟩
instance : ST Try.prog 18 [(0, 1)] [.pointer none] := ⟨by kernel_rfl, _, _, inferInstance⟩
instance : FO Try.prog 19 0 0 17 := ⟨by kernel_rfl⟩
instance : ST Try.prog 19 [(0, 1)] [.pointer none] := ⟨by kernel_rfl, _, _, inferInstance⟩
instance : FO Try.prog 25 0 0 3 := ⟨by kernel_rfl⟩
instance : FO Try.prog 25 1 1 3 := ⟨by kernel_rfl⟩
instance : FO Try.prog 25 2 2 22 := ⟨by kernel_rfl⟩
instance : FO Try.prog 25 3 3 23 := ⟨by kernel_rfl⟩
instance : FO Try.prog 25 4 4 24 := ⟨by kernel_rfl⟩
instance : ST Try.prog 25 [(0, 1), (1, 1), (2, 1), (3, 1), (4, 1)] [.int .i64 0, .int .i64 0, .slice none 0 0, .slice none 0 0, .slice none 0 0] := ⟨by kernel_rfl, _, _, inferInstance⟩
instance : FO Try.prog 26 0 0 3 := ⟨by kernel_rfl⟩
instance : FO Try.prog 26 1 1 3 := ⟨by kernel_rfl⟩
instance : FO Try.prog 26 2 2 22 := ⟨by kernel_rfl⟩
instance : FO Try.prog 26 3 3 23 := ⟨by kernel_rfl⟩
instance : FO Try.prog 26 4 4 24 := ⟨by kernel_rfl⟩
instance : ST Try.prog 26 [(0, 1), (1, 1), (2, 1), (3, 1), (4, 1)] [.int .i64 0, .int .i64 0, .slice none 0 0, .slice none 0 0, .slice none 0 0] := ⟨by kernel_rfl, _, _, inferInstance⟩
instance : FO Try.prog 32 0 0 3 := ⟨by kernel_rfl⟩
instance : FO Try.prog 32 1 1 3 := ⟨by kernel_rfl⟩
instance : FO Try.prog 32 2 2 31 := ⟨by kernel_rfl⟩
instance : ST Try.prog 32 [(0, 1), (1, 1), (2, 1)] [.int .i64 0, .int .i64 0, .slice none 0 0] := ⟨by kernel_rfl, _, _, inferInstance⟩
instance : FO Try.prog 33 0 0 3 := ⟨by kernel_rfl⟩
instance : FO Try.prog 33 1 1 3 := ⟨by kernel_rfl⟩
instance : FO Try.prog 33 2 2 31 := ⟨by kernel_rfl⟩
instance : ST Try.prog 33 [(0, 1), (1, 1), (2, 1)] [.int .i64 0, .int .i64 0, .slice none 0 0] := ⟨by kernel_rfl, _, _, inferInstance⟩
instance : FO Try.prog 41 0 0 3 := ⟨by kernel_rfl⟩
instance : FO Try.prog 41 1 1 3 := ⟨by kernel_rfl⟩
instance : FO Try.prog 41 2 2 3 := ⟨by kernel_rfl⟩
instance : FO Try.prog 41 3 3 9 := ⟨by kernel_rfl⟩
instance : FO Try.prog 41 4 4 9 := ⟨by kernel_rfl⟩
instance : ST Try.prog 41 [(0, 1), (1, 1), (2, 1), (3, 1), (4, 1)] [.int .i64 0, .int .i64 0, .int .i64 0, .string ⟨#[]⟩, .string ⟨#[]⟩] := ⟨by kernel_rfl, _, _, inferInstance⟩
instance : FO Try.prog 42 0 0 3 := ⟨by kernel_rfl⟩
instance : FO Try.prog 42 1 1 3 := ⟨by kernel_rfl⟩
instance : FO Try.prog 42 2 2 3 := ⟨by kernel_rfl⟩
instance : FO Try.prog 42 3 3 9 := ⟨by kernel_rfl⟩
instance : FO Try.prog 42 4 4 9 := ⟨by kernel_rfl⟩
instance : ST Try.prog 42 [(0, 1), (1, 1), (2, 1), (3, 1), (4, 1)] [.int .i64 0, .int .i64 0, .int .i64 0, .string ⟨#[]⟩, .string ⟨#[]⟩] := ⟨by kernel_rfl, _, _, inferInstance⟩
instance : FO Try.prog 57 0 0 3 := ⟨by kernel_rfl⟩
instance : FO Try.prog 57 1 1 3 := ⟨by kernel_rfl⟩
instance : FO Try.prog 57 2 2 56 := ⟨by kernel_rfl⟩
instance : ST Try.prog 57 [(0, 1), (1, 1), (2, 1)] [.int .i64 0, .int .i64 0, .slice none 0 0] := ⟨by kernel_rfl, _, _, inferInstance⟩
instance : FO Try.prog 58 0 0 3 := ⟨by kernel_rfl⟩
instance : FO Try.prog 58 1 1 3 := ⟨by kernel_rfl⟩
instance : FO Try.prog 58 2 2 56 := ⟨by kernel_rfl⟩
instance : ST Try.prog 58 [(0, 1), (1, 1), (2, 1)] [.int .i64 0, .int .i64 0, .slice none 0 0] := ⟨by kernel_rfl, _, _, inferInstance⟩
instance : FO Try.prog 62 0 0 3 := ⟨by kernel_rfl⟩
instance : FO Try.prog 62 1 1 3 := ⟨by kernel_rfl⟩
instance : FO Try.prog 62 2 2 3 := ⟨by kernel_rfl⟩
instance : FO Try.prog 62 3 3 61 := ⟨by kernel_rfl⟩
instance : ST Try.prog 62 [(0, 1), (1, 1), (2, 1), (3, 1)] [.int .i64 0, .int .i64 0, .int .i64 0, .slice none 0 0] := ⟨by kernel_rfl, _, _, inferInstance⟩
instance : FO Try.prog 63 0 0 3 := ⟨by kernel_rfl⟩
instance : FO Try.prog 63 1 1 3 := ⟨by kernel_rfl⟩
instance : FO Try.prog 63 2 2 3 := ⟨by kernel_rfl⟩
instance : FO Try.prog 63 3 3 61 := ⟨by kernel_rfl⟩
instance : ST Try.prog 63 [(0, 1), (1, 1), (2, 1), (3, 1)] [.int .i64 0, .int .i64 0, .int .i64 0, .slice none 0 0] := ⟨by kernel_rfl, _, _, inferInstance⟩
instance : FO Try.prog 83 0 0 9 := ⟨by kernel_rfl⟩
instance : FO Try.prog 83 1 1 3 := ⟨by kernel_rfl⟩
instance : FO Try.prog 83 2 2 4 := ⟨by kernel_rfl⟩
instance : ST Try.prog 83 [(0, 1), (1, 1), (2, 1)] [.string ⟨#[]⟩, .int .i64 0, .bool false] := ⟨by kernel_rfl, _, _, inferInstance⟩
instance : FO Try.prog 84 0 0 9 := ⟨by kernel_rfl⟩
instance : FO Try.prog 84 1 1 3 := ⟨by kernel_rfl⟩
instance : FO Try.prog 84 2 2 4 := ⟨by kernel_rfl⟩
instance : ST Try.prog 84 [(0, 1), (1, 1), (2, 1)] [.string ⟨#[]⟩, .int .i64 0, .bool false] := ⟨by kernel_rfl, _, _, inferInstance⟩
instance : FO Try.prog 86 0 0 3 := ⟨by kernel_rfl⟩
instance : FO Try.prog 86 1 1 3 := ⟨by kernel_rfl⟩
instance : FO Try.prog 86 2 2 3 := ⟨by kernel_rfl⟩
instance : FO Try.prog 86 3 3 4 := ⟨by kernel_rfl⟩
instance : FO Try.prog 86 4 4 85 := ⟨by kernel_rfl⟩
instance : ST Try.prog 86 [(0, 1), (1, 1), (2, 1), (3, 1), (4, 1)] [.int .i64 0, .int .i64 0, .int .i64 0, .bool false, .slice none 0 0] := ⟨by kernel_rfl, _, _, inferInstance⟩
instance : FO Try.prog 87 0 0 3 := ⟨by kernel_rfl⟩
instance : FO Try.prog 87 1 1 3 := ⟨by kernel_rfl⟩
instance : FO Try.prog 87 2 2 3 := ⟨by kernel_rfl⟩
instance : FO Try.prog 87 3 3 4 := ⟨by kernel_rfl⟩
instance : FO Try.prog 87 4 4 85 := ⟨by kernel_rfl⟩
instance : ST Try.prog 87 [(0, 1), (1, 1), (2, 1), (3, 1), (4, 1)] [.int .i64 0, .int .i64 0, .int .i64 0, .bool false, .slice none 0 0] := ⟨by kernel_rfl, _, _, inferInstance⟩
instance : FO Try.prog 88 0 0 9 := ⟨by kernel_rfl⟩
instance : FO Try.prog 88 1 1 9 := ⟨by kernel_rfl⟩
instance : ST Try.prog 88 [(0, 1), (1, 1)] [.string ⟨#[]⟩, .string ⟨#[]⟩] := ⟨by kernel_rfl, _, _, inferInstance⟩
instance : FO Try.prog 89 0 0 9 := ⟨by kernel_rfl⟩
instance : FO Try.prog 89 1 1 9 := ⟨by kernel_rfl⟩
instance : ST Try.prog 89 [(0, 1), (1, 1)] [.string ⟨#[]⟩, .string ⟨#[]⟩] := ⟨by kernel_rfl, _, _, inferInstance⟩
instance : FO Try.prog 99 0 0 9 := ⟨by kernel_rfl⟩
instance : FO Try.prog 99 1 1 3 := ⟨by kernel_rfl⟩
instance : FO Try.prog 99 2 2 4 := ⟨by kernel_rfl⟩
instance : ST Try.prog 99 [(0, 1), (1, 1), (2, 1)] [.string ⟨#[]⟩, .int .i64 0, .bool false] := ⟨by kernel_rfl, _, _, inferInstance⟩
instance : FO Try.prog 109 0 0 71 := ⟨by kernel_rfl⟩
instance : FO Try.prog 109 1 1 3 := ⟨by kernel_rfl⟩
instance : ST Try.prog 109 [(0, 1), (1, 1)] [.slice none 0 0, .int .i64 0] := ⟨by kernel_rfl, _, _, inferInstance⟩
instance : FO Try.prog 110 0 0 71 := ⟨by kernel_rfl⟩
instance : FO Try.prog 110 1 1 3 := ⟨by kernel_rfl⟩
instance : ST Try.prog 110 [(0, 1), (1, 1)] [.slice none 0 0, .int .i64 0] := ⟨by kernel_rfl, _, _, inferInstance⟩
instance : FO Try.prog 113 0 0 17 := ⟨by kernel_rfl⟩
instance : FO Try.prog 113 1 1 17 := ⟨by kernel_rfl⟩
instance : FO Try.prog 113 2 2 17 := ⟨by kernel_rfl⟩
instance : FO Try.prog 113 3 3 9 := ⟨by kernel_rfl⟩
instance : ST Try.prog 113 [(0, 1), (1, 1), (2, 1), (3, 1)] [.pointer none, .pointer none, .pointer none, .string ⟨#[]⟩] := ⟨by kernel_rfl, _, _, inferInstance⟩
instance : FO Try.prog 114 0 0 17 := ⟨by kernel_rfl⟩
instance : FO Try.prog 114 1 1 17 := ⟨by kernel_rfl⟩
instance : FO Try.prog 114 2 2 17 := ⟨by kernel_rfl⟩
instance : FO Try.prog 114 3 3 9 := ⟨by kernel_rfl⟩
instance : ST Try.prog 114 [(0, 1), (1, 1), (2, 1), (3, 1)] [.pointer none, .pointer none, .pointer none, .string ⟨#[]⟩] := ⟨by kernel_rfl, _, _, inferInstance⟩
instance : ST Try.prog 116 [(0, 0)] [] := ⟨by kernel_rfl, _, _, inferInstance⟩
instance : ST Try.prog 117 [(0, 0)] [] := ⟨by kernel_rfl, _, _, inferInstance⟩
instance : FO Try.prog 125 0 0 12 := ⟨by kernel_rfl⟩
instance : FO Try.prog 125 1 1 12 := ⟨by kernel_rfl⟩
instance : FO Try.prog 125 2 2 118 := ⟨by kernel_rfl⟩
instance : FO Try.prog 125 3 3 119 := ⟨by kernel_rfl⟩
instance : FO Try.prog 125 4 4 5 := ⟨by kernel_rfl⟩
instance : FO Try.prog 125 5 5 5 := ⟨by kernel_rfl⟩
instance : FO Try.prog 125 6 6 120 := ⟨by kernel_rfl⟩
instance : FO Try.prog 125 7 7 121 := ⟨by kernel_rfl⟩
instance : FO Try.prog 125 8 8 122 := ⟨by kernel_rfl⟩
instance : FO Try.prog 125 9 9 123 := ⟨by kernel_rfl⟩
instance : FO Try.prog 125 10 10 124 := ⟨by kernel_rfl⟩
instance : ST Try.prog 125 [(0, 1), (1, 1), (2, 1), (3, 1), (4, 1), (5, 1), (6, 1), (7, 1), (8, 1), (9, 1), (10, 1)] [.int .u64 0, .int .u64 0, .int .u32 0, .int .u8 0, .int .u8 0, .int .u8 0, .int .u8 0, .nilFunc, .pointer none, .int .i32 0, .int .i32 0] := ⟨by kernel_rfl, _, _, inferInstance⟩
instance : FO Try.prog 126 0 0 12 := ⟨by kernel_rfl⟩
instance : FO Try.prog 126 1 1 12 := ⟨by kernel_rfl⟩
instance : FO Try.prog 126 2 2 118 := ⟨by kernel_rfl⟩
instance : FO Try.prog 126 3 3 119 := ⟨by kernel_rfl⟩
instance : FO Try.prog 126 4 4 5 := ⟨by kernel_rfl⟩
instance : FO Try.prog 126 5 5 5 := ⟨by kernel_rfl⟩
instance : FO Try.prog 126 6 6 120 := ⟨by kernel_rfl⟩
instance : FO Try.prog 126 7 7 121 := ⟨by kernel_rfl⟩
instance : FO Try.prog 126 8 8 122 := ⟨by kernel_rfl⟩
instance : FO Try.prog 126 9 9 123 := ⟨by kernel_rfl⟩
instance : FO Try.prog 126 10 10 124 := ⟨by kernel_rfl⟩
instance : ST Try.prog 126 [(0, 1), (1, 1), (2, 1), (3, 1), (4, 1), (5, 1), (6, 1), (7, 1), (8, 1), (9, 1), (10, 1)] [.int .u64 0, .int .u64 0, .int .u32 0, .int .u8 0, .int .u8 0, .int .u8 0, .int .u8 0, .nilFunc, .pointer none, .int .i32 0, .int .i32 0] := ⟨by kernel_rfl, _, _, inferInstance⟩
instance : FO Try.prog 127 0 0 3 := ⟨by kernel_rfl⟩
instance : FO Try.prog 127 1 1 3 := ⟨by kernel_rfl⟩
instance : FO Try.prog 127 2 2 3 := ⟨by kernel_rfl⟩
instance : ST Try.prog 127 [(0, 1), (1, 1), (2, 1)] [.int .i64 0, .int .i64 0, .int .i64 0] := ⟨by kernel_rfl, _, _, inferInstance⟩
instance : FO Try.prog 128 0 0 3 := ⟨by kernel_rfl⟩
instance : FO Try.prog 128 1 1 3 := ⟨by kernel_rfl⟩
instance : FO Try.prog 128 2 2 3 := ⟨by kernel_rfl⟩
instance : ST Try.prog 128 [(0, 1), (1, 1), (2, 1)] [.int .i64 0, .int .i64 0, .int .i64 0] := ⟨by kernel_rfl, _, _, inferInstance⟩
instance : Enters Try.prog 3 := ⟨fun args w => enters_ Try.func3 (by kernel_rfl) (by kernel_rfl) args w⟩
instance : Enters Try.prog 4 := ⟨fun args w => enters_ Try.func4 (by kernel_rfl) (by kernel_rfl) args w⟩
instance : Enters Try.prog 5 := ⟨fun args w => enters_ Try.func5 (by kernel_rfl) (by kernel_rfl) args w⟩
instance : Enters Try.prog 6 := ⟨fun args w => enters_ Try.func6 (by kernel_rfl) (by kernel_rfl) args w⟩
instance : Enters Try.prog 7 := ⟨fun args w => enters_ Try.func7 (by kernel_rfl) (by kernel_rfl) args w⟩
instance : Enters Try.prog 8 := ⟨fun args w => enters_ Try.func8 (by kernel_rfl) (by kernel_rfl) args w⟩
instance : Enters Try.prog 9 := ⟨fun args w => enters_ Try.func9 (by kernel_rfl) (by kernel_rfl) args w⟩
instance : Enters Try.prog 10 := ⟨fun args w => enters_ Try.func10 (by kernel_rfl) (by kernel_rfl) args w⟩
instance : Enters Try.prog 11 := ⟨fun args w => enters_ Try.func11 (by kernel_rfl) (by kernel_rfl) args w⟩
instance : Enters Try.prog 12 := ⟨fun args w => enters_ Try.func12 (by kernel_rfl) (by kernel_rfl) args w⟩
instance : Enters Try.prog 13 := ⟨fun args w => enters_ Try.func13 (by kernel_rfl) (by kernel_rfl) args w⟩
instance : Enters Try.prog 14 := ⟨fun args w => enters_ Try.func14 (by kernel_rfl) (by kernel_rfl) args w⟩
instance : Enters Try.prog 15 := ⟨fun args w => enters_ Try.func15 (by kernel_rfl) (by kernel_rfl) args w⟩
instance : Enters Try.prog 16 := ⟨fun args w => enters_ Try.func16 (by kernel_rfl) (by kernel_rfl) args w⟩
instance : Enters Try.prog 17 := ⟨fun args w => enters_ Try.func17 (by kernel_rfl) (by kernel_rfl) args w⟩
instance : Enters Try.prog 18 := ⟨fun args w => enters_ Try.func18 (by kernel_rfl) (by kernel_rfl) args w⟩
instance : Enters Try.prog 19 := ⟨fun args w => enters_ Try.func19 (by kernel_rfl) (by kernel_rfl) args w⟩
instance : Enters Try.prog 20 := ⟨fun args w => enters_ Try.func20 (by kernel_rfl) (by kernel_rfl) args w⟩
instance : Enters Try.prog 21 := ⟨fun args w => enters_ Try.func21 (by kernel_rfl) (by kernel_rfl) args w⟩
instance : Enters Try.prog 22 := ⟨fun args w => enters_ Try.func22 (by kernel_rfl) (by kernel_rfl) args w⟩
instance : Enters Try.prog 23 := ⟨fun args w => enters_ Try.func23 (by kernel_rfl) (by kernel_rfl) args w⟩
instance : Enters Try.prog 24 := ⟨fun args w => enters_ Try.func24 (by kernel_rfl) (by kernel_rfl) args w⟩
instance : Enters Try.prog 25 := ⟨fun args w => enters_ Try.func25 (by kernel_rfl) (by kernel_rfl) args w⟩
instance : Enters Try.prog 26 := ⟨fun args w => enters_ Try.func26 (by kernel_rfl) (by kernel_rfl) args w⟩
instance : Enters Try.prog 27 := ⟨fun args w => enters_ Try.func27 (by kernel_rfl) (by kernel_rfl) args w⟩
instance : Enters Try.prog 28 := ⟨fun args w => enters_ Try.func28 (by kernel_rfl) (by kernel_rfl) args w⟩
instance : Enters Try.prog 29 := ⟨fun args w => enters_ Try.func29 (by kernel_rfl) (by kernel_rfl) args w⟩
instance : Enters Try.prog 30 := ⟨fun args w => enters_ Try.func30 (by kernel_rfl) (by kernel_rfl) args w⟩
instance : Enters Try.prog 31 := ⟨fun args w => enters_ Try.func31 (by kernel_rfl) (by kernel_rfl) args w⟩
instance : Enters Try.prog 32 := ⟨fun args w => enters_ Try.func32 (by kernel_rfl) (by kernel_rfl) args w⟩
instance : Enters Try.prog 33 := ⟨fun args w => enters_ Try.func33 (by kernel_rfl) (by kernel_rfl) args w⟩
instance : Enters Try.prog 34 := ⟨fun args w => enters_ Try.func34 (by kernel_rfl) (by kernel_rfl) args w⟩
instance : Enters Try.prog 35 := ⟨fun args w => enters_ Try.func35 (by kernel_rfl) (by kernel_rfl) args w⟩
instance : Enters Try.prog 36 := ⟨fun args w => enters_ Try.func36 (by kernel_rfl) (by kernel_rfl) args w⟩
instance : Enters Try.prog 37 := ⟨fun args w => enters_ Try.func37 (by kernel_rfl) (by kernel_rfl) args w⟩
instance : Enters Try.prog 38 := ⟨fun args w => enters_ Try.func38 (by kernel_rfl) (by kernel_rfl) args w⟩
instance : Enters Try.prog 39 := ⟨fun args w => enters_ Try.func39 (by kernel_rfl) (by kernel_rfl) args w⟩
instance : Enters Try.prog 40 := ⟨fun args w => enters_ Try.func40 (by kernel_rfl) (by kernel_rfl) args w⟩
instance : Enters Try.prog 41 := ⟨fun args w => enters_ Try.func41 (by kernel_rfl) (by kernel_rfl) args w⟩
instance : Enters Try.prog 42 := ⟨fun args w => enters_ Try.func42 (by kernel_rfl) (by kernel_rfl) args w⟩
instance : Enters Try.prog 43 := ⟨fun args w => enters_ Try.func43 (by kernel_rfl) (by kernel_rfl) args w⟩
instance : Enters Try.prog 44 := ⟨fun args w => enters_ Try.func44 (by kernel_rfl) (by kernel_rfl) args w⟩
instance : Enters Try.prog 45 := ⟨fun args w => enters_ Try.func45 (by kernel_rfl) (by kernel_rfl) args w⟩
instance : Enters Try.prog 46 := ⟨fun args w => enters_ Try.func46 (by kernel_rfl) (by kernel_rfl) args w⟩
instance : Enters Try.prog 47 := ⟨fun args w => enters_ Try.func47 (by kernel_rfl) (by kernel_rfl) args w⟩
instance : Enters Try.prog 48 := ⟨fun args w => enters_ Try.func48 (by kernel_rfl) (by kernel_rfl) args w⟩
instance : Enters Try.prog 49 := ⟨fun args w => enters_ Try.func49 (by kernel_rfl) (by kernel_rfl) args w⟩
instance : Enters Try.prog 50 := ⟨fun args w => enters_ Try.func50 (by kernel_rfl) (by kernel_rfl) args w⟩
instance : Enters Try.prog 51 := ⟨fun args w => enters_ Try.func51 (by kernel_rfl) (by kernel_rfl) args w⟩
instance : Enters Try.prog 52 := ⟨fun args w => enters_ Try.func52 (by kernel_rfl) (by kernel_rfl) args w⟩
instance : Enters Try.prog 53 := ⟨fun args w => enters_ Try.func53 (by kernel_rfl) (by kernel_rfl) args w⟩
instance : Enters Try.prog 54 := ⟨fun args w => enters_ Try.func54 (by kernel_rfl) (by kernel_rfl) args w⟩
instance : Enters Try.prog 55 := ⟨fun args w => enters_ Try.func55 (by kernel_rfl) (by kernel_rfl) args w⟩
instance : Enters Try.prog 56 := ⟨fun args w => enters_ Try.func56 (by kernel_rfl) (by kernel_rfl) args w⟩
instance : Enters Try.prog 57 := ⟨fun args w => enters_ Try.func57 (by kernel_rfl) (by kernel_rfl) args w⟩
instance : Enters Try.prog 58 := ⟨fun args w => enters_ Try.func58 (by kernel_rfl) (by kernel_rfl) args w⟩
instance : Enters Try.prog 59 := ⟨fun args w => enters_ Try.func59 (by kernel_rfl) (by kernel_rfl) args w⟩
instance : Enters Try.prog 60 := ⟨fun args w => enters_ Try.func60 (by kernel_rfl) (by kernel_rfl) args w⟩
instance : Enters Try.prog 61 := ⟨fun args w => enters_ Try.func61 (by kernel_rfl) (by kernel_rfl) args w⟩
instance : Enters Try.prog 62 := ⟨fun args w => enters_ Try.func62 (by kernel_rfl) (by kernel_rfl) args w⟩
instance : Enters Try.prog 63 := ⟨fun args w => enters_ Try.func63 (by kernel_rfl) (by kernel_rfl) args w⟩
instance : Enters Try.prog 64 := ⟨fun args w => enters_ Try.func64 (by kernel_rfl) (by kernel_rfl) args w⟩
instance : Enters Try.prog 65 := ⟨fun args w => enters_ Try.func65 (by kernel_rfl) (by kernel_rfl) args w⟩
instance : Enters Try.prog 66 := ⟨fun args w => enters_ Try.func66 (by kernel_rfl) (by kernel_rfl) args w⟩
instance : Enters Try.prog 67 := ⟨fun args w => enters_ Try.func67 (by kernel_rfl) (by kernel_rfl) args w⟩
instance : Enters Try.prog 68 := ⟨fun args w => enters_ Try.func68 (by kernel_rfl) (by kernel_rfl) args w⟩
instance : Enters Try.prog 69 := ⟨fun args w => enters_ Try.func69 (by kernel_rfl) (by kernel_rfl) args w⟩
instance : Enters Try.prog 70 := ⟨fun args w => enters_ Try.func70 (by kernel_rfl) (by kernel_rfl) args w⟩
instance : Enters Try.prog 71 := ⟨fun args w => enters_ Try.func71 (by kernel_rfl) (by kernel_rfl) args w⟩
instance : Enters Try.prog 72 := ⟨fun args w => enters_ Try.func72 (by kernel_rfl) (by kernel_rfl) args w⟩
instance : Enters Try.prog 73 := ⟨fun args w => enters_ Try.func73 (by kernel_rfl) (by kernel_rfl) args w⟩
theorem follows_mixed : Try.prog.follows .mixedOrders = true := by kernel_rfl
end Go.Proofs.Ytnndjobhcncanaa
