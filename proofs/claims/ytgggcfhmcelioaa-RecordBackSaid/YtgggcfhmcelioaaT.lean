/- What the seat's program says of its types and functions, as instances of the calculus. No statement of the seat is proved here. -/
import Derived.Test.YtgggcfhmcelioaaD
import Derived.Test.YtgggcfhmcelioaaProg
import Derived.KernelRfl
namespace Go.Proofs.Ytgggcfhmcelioaa
open Go.Proofs.YtgggcfhmcelioaaW.PrintLast
instance : UT Try.prog 2 (.int .i64) := ⟨Try.underlying2⟩
instance : UT Try.prog 3 (.int .i64) := ⟨Try.underlying3⟩
instance : UT Try.prog 4 (.bool) := ⟨Try.underlying4⟩
instance : UT Try.prog 5 (.int .u8) := ⟨Try.underlying5⟩
instance : UT Try.prog 6 (.int .u8) := ⟨Try.underlying6⟩
instance : UT Try.prog 7 (.struct #[{ name := "x", type := 2, offset := 0, embedded := false, tag := "", pkgPath := "runtime", byteOffset := 0 }, { name := "y", type := 3, offset := 1, embedded := false, tag := "", pkgPath := "runtime", byteOffset := 8 }, { name := "signed", type := 4, offset := 2, embedded := false, tag := "", pkgPath := "runtime", byteOffset := 16 }, { name := "code", type := 6, offset := 3, embedded := false, tag := "", pkgPath := "runtime", byteOffset := 17 }]) := ⟨Try.underlying7⟩
instance : UT Try.prog 8 (.struct #[{ name := "x", type := 2, offset := 0, embedded := false, tag := "", pkgPath := "runtime", byteOffset := 0 }, { name := "y", type := 3, offset := 1, embedded := false, tag := "", pkgPath := "runtime", byteOffset := 8 }, { name := "signed", type := 4, offset := 2, embedded := false, tag := "", pkgPath := "runtime", byteOffset := 16 }, { name := "code", type := 6, offset := 3, embedded := false, tag := "", pkgPath := "runtime", byteOffset := 17 }]) := ⟨Try.underlying8⟩
instance : UT Try.prog 9 (.string) := ⟨Try.underlying9⟩
instance : UT Try.prog 10 (.string) := ⟨Try.underlying10⟩
instance : UT Try.prog 11 (.string) := ⟨Try.underlying11⟩
instance : UT Try.prog 12 (.int .u64) := ⟨Try.underlying12⟩
instance : UT Try.prog 13 (.struct #[{ name := "msg", type := 9, offset := 0, embedded := false, tag := "", pkgPath := "runtime", byteOffset := 0 }, { name := "addr", type := 12, offset := 1, embedded := false, tag := "", pkgPath := "runtime", byteOffset := 16 }]) := ⟨Try.underlying13⟩
instance : UT Try.prog 14 (.struct #[{ name := "msg", type := 9, offset := 0, embedded := false, tag := "", pkgPath := "runtime", byteOffset := 0 }, { name := "addr", type := 12, offset := 1, embedded := false, tag := "", pkgPath := "runtime", byteOffset := 16 }]) := ⟨Try.underlying14⟩
instance : UT Try.prog 15 (.pointer 133) := ⟨Try.underlying15⟩
instance : UT Try.prog 16 (.pointer 136) := ⟨Try.underlying16⟩
instance : UT Try.prog 17 (.pointer 145) := ⟨Try.underlying17⟩
instance : UT Try.prog 18 (.struct #[{ name := "typ", type := 17, offset := 0, embedded := false, tag := "", pkgPath := "internal/runtime/maps", byteOffset := 0 }]) := ⟨Try.underlying18⟩
instance : UT Try.prog 19 (.struct #[{ name := "typ", type := 17, offset := 0, embedded := false, tag := "", pkgPath := "internal/runtime/maps", byteOffset := 0 }]) := ⟨Try.underlying19⟩
instance : UT Try.prog 21 (.int .i32) := ⟨Try.underlying21⟩
instance : UT Try.prog 22 (.slice 51) := ⟨Try.underlying22⟩
instance : UT Try.prog 23 (.struct #[{ name := "Pid", type := 3, offset := 0, embedded := false, tag := "", pkgPath := "", byteOffset := 0 }, { name := "Epoch", type := 3, offset := 1, embedded := false, tag := "", pkgPath := "", byteOffset := 8 }, { name := "Seq", type := 3, offset := 2, embedded := false, tag := "", pkgPath := "", byteOffset := 16 }, { name := "Txn", type := 4, offset := 3, embedded := false, tag := "", pkgPath := "", byteOffset := 24 }, { name := "Records", type := 22, offset := 4, embedded := false, tag := "", pkgPath := "", byteOffset := 32 }]) := ⟨Try.underlying23⟩
instance : UT Try.prog 24 (.struct #[{ name := "Pid", type := 3, offset := 0, embedded := false, tag := "", pkgPath := "", byteOffset := 0 }, { name := "Epoch", type := 3, offset := 1, embedded := false, tag := "", pkgPath := "", byteOffset := 8 }, { name := "Seq", type := 3, offset := 2, embedded := false, tag := "", pkgPath := "", byteOffset := 16 }, { name := "Txn", type := 4, offset := 3, embedded := false, tag := "", pkgPath := "", byteOffset := 24 }, { name := "Records", type := 22, offset := 4, embedded := false, tag := "", pkgPath := "", byteOffset := 32 }]) := ⟨Try.underlying24⟩
instance : UT Try.prog 27 (.int .i64) := ⟨Try.underlying27⟩
instance : UT Try.prog 32 (.slice 34) := ⟨Try.underlying32⟩
instance : UT Try.prog 33 (.struct #[{ name := "Do", type := 3, offset := 0, embedded := false, tag := "", pkgPath := "", byteOffset := 0 }, { name := "N", type := 3, offset := 1, embedded := false, tag := "", pkgPath := "", byteOffset := 8 }, { name := "S", type := 9, offset := 2, embedded := false, tag := "", pkgPath := "", byteOffset := 16 }]) := ⟨Try.underlying33⟩
instance : UT Try.prog 34 (.struct #[{ name := "Do", type := 3, offset := 0, embedded := false, tag := "", pkgPath := "", byteOffset := 0 }, { name := "N", type := 3, offset := 1, embedded := false, tag := "", pkgPath := "", byteOffset := 8 }, { name := "S", type := 9, offset := 2, embedded := false, tag := "", pkgPath := "", byteOffset := 16 }]) := ⟨Try.underlying34⟩
instance : UT Try.prog 35 (.slice 5) := ⟨Try.underlying35⟩
instance : UT Try.prog 46 (.slice 49) := ⟨Try.underlying46⟩
instance : UT Try.prog 48 (.struct #[{ name := "Offset", type := 3, offset := 0, embedded := false, tag := "", pkgPath := "", byteOffset := 0 }, { name := "Pid", type := 3, offset := 1, embedded := false, tag := "", pkgPath := "", byteOffset := 8 }, { name := "Seq", type := 3, offset := 2, embedded := false, tag := "", pkgPath := "", byteOffset := 16 }, { name := "Key", type := 9, offset := 3, embedded := false, tag := "", pkgPath := "", byteOffset := 24 }, { name := "Value", type := 9, offset := 4, embedded := false, tag := "", pkgPath := "", byteOffset := 40 }]) := ⟨Try.underlying48⟩
instance : UT Try.prog 49 (.struct #[{ name := "Offset", type := 3, offset := 0, embedded := false, tag := "", pkgPath := "", byteOffset := 0 }, { name := "Pid", type := 3, offset := 1, embedded := false, tag := "", pkgPath := "", byteOffset := 8 }, { name := "Seq", type := 3, offset := 2, embedded := false, tag := "", pkgPath := "", byteOffset := 16 }, { name := "Key", type := 9, offset := 3, embedded := false, tag := "", pkgPath := "", byteOffset := 24 }, { name := "Value", type := 9, offset := 4, embedded := false, tag := "", pkgPath := "", byteOffset := 40 }]) := ⟨Try.underlying49⟩
instance : UT Try.prog 50 (.struct #[{ name := "Key", type := 9, offset := 0, embedded := false, tag := "", pkgPath := "", byteOffset := 0 }, { name := "Value", type := 9, offset := 1, embedded := false, tag := "", pkgPath := "", byteOffset := 16 }]) := ⟨Try.underlying50⟩
instance : UT Try.prog 51 (.struct #[{ name := "Key", type := 9, offset := 0, embedded := false, tag := "", pkgPath := "", byteOffset := 0 }, { name := "Value", type := 9, offset := 1, embedded := false, tag := "", pkgPath := "", byteOffset := 16 }]) := ⟨Try.underlying51⟩
instance : UT Try.prog 53 (.int .i8) := ⟨Try.underlying53⟩
instance : UT Try.prog 54 (.slice 101) := ⟨Try.underlying54⟩
instance : UT Try.prog 55 (.struct #[{ name := "Pid", type := 3, offset := 0, embedded := false, tag := "", pkgPath := "", byteOffset := 0 }, { name := "Epoch", type := 3, offset := 1, embedded := false, tag := "", pkgPath := "", byteOffset := 8 }, { name := "Next", type := 3, offset := 2, embedded := false, tag := "", pkgPath := "", byteOffset := 16 }, { name := "Seen", type := 54, offset := 3, embedded := false, tag := "", pkgPath := "", byteOffset := 24 }]) := ⟨Try.underlying55⟩
instance : UT Try.prog 56 (.struct #[{ name := "Pid", type := 3, offset := 0, embedded := false, tag := "", pkgPath := "", byteOffset := 0 }, { name := "Epoch", type := 3, offset := 1, embedded := false, tag := "", pkgPath := "", byteOffset := 8 }, { name := "Next", type := 3, offset := 2, embedded := false, tag := "", pkgPath := "", byteOffset := 16 }, { name := "Seen", type := 54, offset := 3, embedded := false, tag := "", pkgPath := "", byteOffset := 24 }]) := ⟨Try.underlying56⟩
instance : UT Try.prog 57 (.struct #[{ name := "Kind", type := 53, offset := 0, embedded := false, tag := "", pkgPath := "", byteOffset := 0 }, { name := "B", type := 24, offset := 1, embedded := false, tag := "", pkgPath := "", byteOffset := 8 }, { name := "Yes", type := 4, offset := 6, embedded := false, tag := "", pkgPath := "", byteOffset := 64 }, { name := "Next", type := 3, offset := 7, embedded := false, tag := "", pkgPath := "", byteOffset := 72 }, { name := "Offset", type := 3, offset := 8, embedded := false, tag := "", pkgPath := "", byteOffset := 80 }, { name := "Row", type := 49, offset := 9, embedded := false, tag := "", pkgPath := "", byteOffset := 88 }, { name := "Prod", type := 56, offset := 14, embedded := false, tag := "", pkgPath := "", byteOffset := 144 }]) := ⟨Try.underlying57⟩
instance : UT Try.prog 58 (.struct #[{ name := "Kind", type := 53, offset := 0, embedded := false, tag := "", pkgPath := "", byteOffset := 0 }, { name := "B", type := 24, offset := 1, embedded := false, tag := "", pkgPath := "", byteOffset := 8 }, { name := "Yes", type := 4, offset := 6, embedded := false, tag := "", pkgPath := "", byteOffset := 64 }, { name := "Next", type := 3, offset := 7, embedded := false, tag := "", pkgPath := "", byteOffset := 72 }, { name := "Offset", type := 3, offset := 8, embedded := false, tag := "", pkgPath := "", byteOffset := 80 }, { name := "Row", type := 49, offset := 9, embedded := false, tag := "", pkgPath := "", byteOffset := 88 }, { name := "Prod", type := 56, offset := 14, embedded := false, tag := "", pkgPath := "", byteOffset := 144 }]) := ⟨Try.underlying58⟩
instance : UT Try.prog 71 (.slice 58) := ⟨Try.underlying71⟩
instance : UT Try.prog 72 (.slice 9) := ⟨Try.underlying72⟩
instance : UT Try.prog 81 (.array 3 3) := ⟨Try.underlying81⟩
instance : UT Try.prog 83 (.pointer 89) := ⟨Try.underlying83⟩
instance : UT Try.prog 88 (.struct #[{ name := "B", type := 9, offset := 0, embedded := false, tag := "", pkgPath := "", byteOffset := 0 }, { name := "At", type := 3, offset := 1, embedded := false, tag := "", pkgPath := "", byteOffset := 16 }, { name := "Bad", type := 4, offset := 2, embedded := false, tag := "", pkgPath := "", byteOffset := 24 }]) := ⟨Try.underlying88⟩
instance : UT Try.prog 89 (.struct #[{ name := "B", type := 9, offset := 0, embedded := false, tag := "", pkgPath := "", byteOffset := 0 }, { name := "At", type := 3, offset := 1, embedded := false, tag := "", pkgPath := "", byteOffset := 16 }, { name := "Bad", type := 4, offset := 2, embedded := false, tag := "", pkgPath := "", byteOffset := 24 }]) := ⟨Try.underlying89⟩
instance : UT Try.prog 92 (.pointer 95) := ⟨Try.underlying92⟩
instance : UT Try.prog 93 (.pointer 58) := ⟨Try.underlying93⟩
instance : UT Try.prog 94 (.struct #[{ name := "b", type := 35, offset := 0, embedded := false, tag := "", pkgPath := "roving/entry", byteOffset := 0 }, { name := "x", type := 93, offset := 1, embedded := false, tag := "", pkgPath := "roving/entry", byteOffset := 24 }]) := ⟨Try.underlying94⟩
instance : UT Try.prog 95 (.struct #[{ name := "b", type := 35, offset := 0, embedded := false, tag := "", pkgPath := "roving/entry", byteOffset := 0 }, { name := "x", type := 93, offset := 1, embedded := false, tag := "", pkgPath := "roving/entry", byteOffset := 24 }]) := ⟨Try.underlying95⟩
instance : UT Try.prog 97 (.array 7 96) := ⟨Try.underlying97⟩
instance : UT Try.prog 99 (.slice 3) := ⟨Try.underlying99⟩
instance : UT Try.prog 100 (.struct #[{ name := "Seq", type := 3, offset := 0, embedded := false, tag := "", pkgPath := "", byteOffset := 0 }, { name := "Count", type := 3, offset := 1, embedded := false, tag := "", pkgPath := "", byteOffset := 8 }, { name := "Base", type := 3, offset := 2, embedded := false, tag := "", pkgPath := "", byteOffset := 16 }]) := ⟨Try.underlying100⟩
instance : UT Try.prog 101 (.struct #[{ name := "Seq", type := 3, offset := 0, embedded := false, tag := "", pkgPath := "", byteOffset := 0 }, { name := "Count", type := 3, offset := 1, embedded := false, tag := "", pkgPath := "", byteOffset := 8 }, { name := "Base", type := 3, offset := 2, embedded := false, tag := "", pkgPath := "", byteOffset := 16 }]) := ⟨Try.underlying101⟩
instance : UT Try.prog 104 (.pointer 49) := ⟨Try.underlying104⟩
instance : UT Try.prog 108 (.pointer 110) := ⟨Try.underlying108⟩
instance : UT Try.prog 109 (.struct #[{ name := "Reader", type := 83, offset := 0, embedded := true, tag := "", pkgPath := "", byteOffset := 0 }, { name := "x", type := 58, offset := 1, embedded := false, tag := "", pkgPath := "roving/entry", byteOffset := 8 }]) := ⟨Try.underlying109⟩
instance : UT Try.prog 110 (.struct #[{ name := "Reader", type := 83, offset := 0, embedded := true, tag := "", pkgPath := "", byteOffset := 0 }, { name := "x", type := 58, offset := 1, embedded := false, tag := "", pkgPath := "roving/entry", byteOffset := 8 }]) := ⟨Try.underlying110⟩
instance : UT Try.prog 112 (.array 7 111) := ⟨Try.underlying112⟩
instance : UT Try.prog 113 (.pointer 123) := ⟨Try.underlying113⟩
instance : UT Try.prog 120 (.int .u64) := ⟨Try.underlying120⟩
instance : UT Try.prog 122 (.pointer 56) := ⟨Try.underlying122⟩
instance : UT Try.prog 123 (.struct #[{ name := "B", type := 9, offset := 0, embedded := false, tag := "", pkgPath := "", byteOffset := 0 }, { name := "At", type := 3, offset := 1, embedded := false, tag := "", pkgPath := "", byteOffset := 16 }, { name := "Bad", type := 4, offset := 2, embedded := false, tag := "", pkgPath := "", byteOffset := 24 }]) := ⟨Try.underlying123⟩
instance : UT Try.prog 126 (.pointer 128) := ⟨Try.underlying126⟩
instance : UT Try.prog 127 (.struct #[{ name := "b", type := 35, offset := 0, embedded := false, tag := "", pkgPath := "roving/varint", byteOffset := 0 }, { name := "at", type := 3, offset := 1, embedded := false, tag := "", pkgPath := "roving/varint", byteOffset := 24 }]) := ⟨Try.underlying127⟩
instance : UT Try.prog 128 (.struct #[{ name := "b", type := 35, offset := 0, embedded := false, tag := "", pkgPath := "roving/varint", byteOffset := 0 }, { name := "at", type := 3, offset := 1, embedded := false, tag := "", pkgPath := "roving/varint", byteOffset := 24 }]) := ⟨Try.underlying128⟩
instance : UT Try.prog 132 (.struct #[{ name := "_interface", type := 17, offset := 0, embedded := false, tag := "", pkgPath := "runtime", byteOffset := 0 }, { name := "concrete", type := 17, offset := 1, embedded := false, tag := "", pkgPath := "runtime", byteOffset := 8 }, { name := "asserted", type := 17, offset := 2, embedded := false, tag := "", pkgPath := "runtime", byteOffset := 16 }, { name := "missingMethod", type := 9, offset := 3, embedded := false, tag := "", pkgPath := "runtime", byteOffset := 24 }]) := ⟨Try.underlying132⟩
instance : UT Try.prog 133 (.struct #[{ name := "_interface", type := 17, offset := 0, embedded := false, tag := "", pkgPath := "runtime", byteOffset := 0 }, { name := "concrete", type := 17, offset := 1, embedded := false, tag := "", pkgPath := "runtime", byteOffset := 8 }, { name := "asserted", type := 17, offset := 2, embedded := false, tag := "", pkgPath := "runtime", byteOffset := 16 }, { name := "missingMethod", type := 9, offset := 3, embedded := false, tag := "", pkgPath := "runtime", byteOffset := 24 }]) := ⟨Try.underlying133⟩
instance : UT Try.prog 134 (.array 0 16) := ⟨Try.underlying134⟩
instance : UT Try.prog 135 (.struct #[{ name := "_", type := 134, offset := 0, embedded := false, tag := "", pkgPath := "runtime", byteOffset := 0 }]) := ⟨Try.underlying135⟩
instance : UT Try.prog 136 (.struct #[{ name := "_", type := 134, offset := 0, embedded := false, tag := "", pkgPath := "runtime", byteOffset := 0 }]) := ⟨Try.underlying136⟩
instance : UT Try.prog 137 (.int .u32) := ⟨Try.underlying137⟩
instance : UT Try.prog 138 (.int .u8) := ⟨Try.underlying138⟩
instance : UT Try.prog 139 (.int .u8) := ⟨Try.underlying139⟩
instance : UT Try.prog 141 (.pointer 5) := ⟨Try.underlying141⟩
instance : UT Try.prog 142 (.int .i32) := ⟨Try.underlying142⟩
instance : UT Try.prog 143 (.int .i32) := ⟨Try.underlying143⟩
instance : UT Try.prog 144 (.struct #[{ name := "Size_", type := 12, offset := 0, embedded := false, tag := "", pkgPath := "", byteOffset := 0 }, { name := "PtrBytes", type := 12, offset := 1, embedded := false, tag := "", pkgPath := "", byteOffset := 8 }, { name := "Hash", type := 137, offset := 2, embedded := false, tag := "", pkgPath := "", byteOffset := 16 }, { name := "TFlag", type := 138, offset := 3, embedded := false, tag := "", pkgPath := "", byteOffset := 20 }, { name := "Align_", type := 5, offset := 4, embedded := false, tag := "", pkgPath := "", byteOffset := 21 }, { name := "FieldAlign_", type := 5, offset := 5, embedded := false, tag := "", pkgPath := "", byteOffset := 22 }, { name := "Kind_", type := 139, offset := 6, embedded := false, tag := "", pkgPath := "", byteOffset := 23 }, { name := "Equal", type := 140, offset := 7, embedded := false, tag := "", pkgPath := "", byteOffset := 24 }, { name := "GCData", type := 141, offset := 8, embedded := false, tag := "", pkgPath := "", byteOffset := 32 }, { name := "Str", type := 142, offset := 9, embedded := false, tag := "", pkgPath := "", byteOffset := 40 }, { name := "PtrToThis", type := 143, offset := 10, embedded := false, tag := "", pkgPath := "", byteOffset := 44 }]) := ⟨Try.underlying144⟩
instance : UT Try.prog 145 (.struct #[{ name := "Size_", type := 12, offset := 0, embedded := false, tag := "", pkgPath := "", byteOffset := 0 }, { name := "PtrBytes", type := 12, offset := 1, embedded := false, tag := "", pkgPath := "", byteOffset := 8 }, { name := "Hash", type := 137, offset := 2, embedded := false, tag := "", pkgPath := "", byteOffset := 16 }, { name := "TFlag", type := 138, offset := 3, embedded := false, tag := "", pkgPath := "", byteOffset := 20 }, { name := "Align_", type := 5, offset := 4, embedded := false, tag := "", pkgPath := "", byteOffset := 21 }, { name := "FieldAlign_", type := 5, offset := 5, embedded := false, tag := "", pkgPath := "", byteOffset := 22 }, { name := "Kind_", type := 139, offset := 6, embedded := false, tag := "", pkgPath := "", byteOffset := 23 }, { name := "Equal", type := 140, offset := 7, embedded := false, tag := "", pkgPath := "", byteOffset := 24 }, { name := "GCData", type := 141, offset := 8, embedded := false, tag := "", pkgPath := "", byteOffset := 32 }, { name := "Str", type := 142, offset := 9, embedded := false, tag := "", pkgPath := "", byteOffset := 40 }, { name := "PtrToThis", type := 143, offset := 10, embedded := false, tag := "", pkgPath := "", byteOffset := 44 }]) := ⟨Try.underlying145⟩
instance : IT Try.prog 1 (.nilFunc) 1 8 := ⟨by kernel_rfl, rfl⟩
instance : IT Try.prog 2 (.int .i64 0) 1 8 := ⟨by kernel_rfl, rfl⟩
instance : IT Try.prog 3 (.int .i64 0) 1 8 := ⟨by kernel_rfl, rfl⟩
instance : IT Try.prog 4 (.bool false) 1 1 := ⟨by kernel_rfl, rfl⟩
instance : IT Try.prog 5 (.int .u8 0) 1 1 := ⟨by kernel_rfl, rfl⟩
instance : IT Try.prog 6 (.int .u8 0) 1 1 := ⟨by kernel_rfl, rfl⟩
instance : IT Try.prog 7 (.agg #[.int .i64 0, .int .i64 0, .bool false, .int .u8 0]) 4 24 := ⟨by kernel_rfl, rfl⟩
instance : IT Try.prog 8 (.agg #[.int .i64 0, .int .i64 0, .bool false, .int .u8 0]) 4 24 := ⟨by kernel_rfl, rfl⟩
instance : IT Try.prog 9 (.string ⟨#[]⟩) 1 16 := ⟨by kernel_rfl, rfl⟩
instance : IT Try.prog 10 (.string ⟨#[]⟩) 1 16 := ⟨by kernel_rfl, rfl⟩
instance : IT Try.prog 11 (.string ⟨#[]⟩) 1 16 := ⟨by kernel_rfl, rfl⟩
instance : IT Try.prog 12 (.int .u64 0) 1 8 := ⟨by kernel_rfl, rfl⟩
instance : IT Try.prog 13 (.agg #[.string ⟨#[]⟩, .int .u64 0]) 2 24 := ⟨by kernel_rfl, rfl⟩
instance : IT Try.prog 14 (.agg #[.string ⟨#[]⟩, .int .u64 0]) 2 24 := ⟨by kernel_rfl, rfl⟩
instance : IT Try.prog 15 (.pointer none) 1 8 := ⟨by kernel_rfl, rfl⟩
instance : IT Try.prog 16 (.pointer none) 1 8 := ⟨by kernel_rfl, rfl⟩
instance : IT Try.prog 17 (.pointer none) 1 8 := ⟨by kernel_rfl, rfl⟩
instance : IT Try.prog 18 (.agg #[.pointer none]) 1 8 := ⟨by kernel_rfl, rfl⟩
instance : IT Try.prog 19 (.agg #[.pointer none]) 1 8 := ⟨by kernel_rfl, rfl⟩
instance : IT Try.prog 20 (.nilIface) 1 16 := ⟨by kernel_rfl, rfl⟩
instance : IT Try.prog 21 (.int .i32 0) 1 4 := ⟨by kernel_rfl, rfl⟩
instance : IT Try.prog 22 (.slice none 0 0) 1 24 := ⟨by kernel_rfl, rfl⟩
instance : IT Try.prog 23 (.agg #[.int .i64 0, .int .i64 0, .int .i64 0, .bool false, .slice none 0 0]) 5 56 := ⟨by kernel_rfl, rfl⟩
instance : IT Try.prog 24 (.agg #[.int .i64 0, .int .i64 0, .int .i64 0, .bool false, .slice none 0 0]) 5 56 := ⟨by kernel_rfl, rfl⟩
instance : IT Try.prog 25 (.nilFunc) 1 8 := ⟨by kernel_rfl, rfl⟩
instance : IT Try.prog 26 (.nilFunc) 1 8 := ⟨by kernel_rfl, rfl⟩
instance : IT Try.prog 27 (.int .i64 0) 1 8 := ⟨by kernel_rfl, rfl⟩
instance : IT Try.prog 29 (.nilFunc) 1 8 := ⟨by kernel_rfl, rfl⟩
instance : IT Try.prog 30 (.nilFunc) 1 8 := ⟨by kernel_rfl, rfl⟩
instance : IT Try.prog 31 (.nilFunc) 1 8 := ⟨by kernel_rfl, rfl⟩
instance : IT Try.prog 32 (.slice none 0 0) 1 24 := ⟨by kernel_rfl, rfl⟩
instance : IT Try.prog 33 (.agg #[.int .i64 0, .int .i64 0, .string ⟨#[]⟩]) 3 32 := ⟨by kernel_rfl, rfl⟩
instance : IT Try.prog 34 (.agg #[.int .i64 0, .int .i64 0, .string ⟨#[]⟩]) 3 32 := ⟨by kernel_rfl, rfl⟩
instance : IT Try.prog 35 (.slice none 0 0) 1 24 := ⟨by kernel_rfl, rfl⟩
instance : IT Try.prog 37 (.nilFunc) 1 8 := ⟨by kernel_rfl, rfl⟩
instance : IT Try.prog 38 (.nilFunc) 1 8 := ⟨by kernel_rfl, rfl⟩
instance : IT Try.prog 39 (.nilFunc) 1 8 := ⟨by kernel_rfl, rfl⟩
instance : IT Try.prog 40 (.nilFunc) 1 8 := ⟨by kernel_rfl, rfl⟩
instance : IT Try.prog 41 (.nilFunc) 1 8 := ⟨by kernel_rfl, rfl⟩
instance : IT Try.prog 42 (.nilFunc) 1 8 := ⟨by kernel_rfl, rfl⟩
instance : IT Try.prog 43 (.nilFunc) 1 8 := ⟨by kernel_rfl, rfl⟩
instance : IT Try.prog 45 (.nilFunc) 1 8 := ⟨by kernel_rfl, rfl⟩
instance : IT Try.prog 46 (.slice none 0 0) 1 24 := ⟨by kernel_rfl, rfl⟩
instance : IT Try.prog 47 (.nilFunc) 1 8 := ⟨by kernel_rfl, rfl⟩
instance : IT Try.prog 48 (.agg #[.int .i64 0, .int .i64 0, .int .i64 0, .string ⟨#[]⟩, .string ⟨#[]⟩]) 5 56 := ⟨by kernel_rfl, rfl⟩
instance : IT Try.prog 49 (.agg #[.int .i64 0, .int .i64 0, .int .i64 0, .string ⟨#[]⟩, .string ⟨#[]⟩]) 5 56 := ⟨by kernel_rfl, rfl⟩
instance : IT Try.prog 50 (.agg #[.string ⟨#[]⟩, .string ⟨#[]⟩]) 2 32 := ⟨by kernel_rfl, rfl⟩
instance : IT Try.prog 51 (.agg #[.string ⟨#[]⟩, .string ⟨#[]⟩]) 2 32 := ⟨by kernel_rfl, rfl⟩
instance : IT Try.prog 52 (.nilFunc) 1 8 := ⟨by kernel_rfl, rfl⟩
instance : IT Try.prog 53 (.int .i8 0) 1 1 := ⟨by kernel_rfl, rfl⟩
instance : IT Try.prog 54 (.slice none 0 0) 1 24 := ⟨by kernel_rfl, rfl⟩
instance : IT Try.prog 55 (.agg #[.int .i64 0, .int .i64 0, .int .i64 0, .slice none 0 0]) 4 48 := ⟨by kernel_rfl, rfl⟩
instance : IT Try.prog 56 (.agg #[.int .i64 0, .int .i64 0, .int .i64 0, .slice none 0 0]) 4 48 := ⟨by kernel_rfl, rfl⟩
instance : IT Try.prog 57 (.agg #[.int .i8 0, .int .i64 0, .int .i64 0, .int .i64 0, .bool false, .slice none 0 0, .bool false, .int .i64 0, .int .i64 0, .int .i64 0, .int .i64 0, .int .i64 0, .string ⟨#[]⟩, .string ⟨#[]⟩, .int .i64 0, .int .i64 0, .int .i64 0, .slice none 0 0]) 18 192 := ⟨by kernel_rfl, rfl⟩
instance : IT Try.prog 58 (.agg #[.int .i8 0, .int .i64 0, .int .i64 0, .int .i64 0, .bool false, .slice none 0 0, .bool false, .int .i64 0, .int .i64 0, .int .i64 0, .int .i64 0, .int .i64 0, .string ⟨#[]⟩, .string ⟨#[]⟩, .int .i64 0, .int .i64 0, .int .i64 0, .slice none 0 0]) 18 192 := ⟨by kernel_rfl, rfl⟩
instance : IT Try.prog 59 (.nilFunc) 1 8 := ⟨by kernel_rfl, rfl⟩
instance : IT Try.prog 60 (.nilFunc) 1 8 := ⟨by kernel_rfl, rfl⟩
instance : IT Try.prog 61 (.nilFunc) 1 8 := ⟨by kernel_rfl, rfl⟩
instance : IT Try.prog 62 (.nilFunc) 1 8 := ⟨by kernel_rfl, rfl⟩
instance : IT Try.prog 63 (.nilFunc) 1 8 := ⟨by kernel_rfl, rfl⟩
instance : IT Try.prog 64 (.nilFunc) 1 8 := ⟨by kernel_rfl, rfl⟩
instance : IT Try.prog 66 (.nilFunc) 1 8 := ⟨by kernel_rfl, rfl⟩
instance : IT Try.prog 67 (.nilFunc) 1 8 := ⟨by kernel_rfl, rfl⟩
instance : IT Try.prog 68 (.nilFunc) 1 8 := ⟨by kernel_rfl, rfl⟩
instance : IT Try.prog 69 (.nilFunc) 1 8 := ⟨by kernel_rfl, rfl⟩
instance : IT Try.prog 70 (.nilFunc) 1 8 := ⟨by kernel_rfl, rfl⟩
instance : IT Try.prog 71 (.slice none 0 0) 1 24 := ⟨by kernel_rfl, rfl⟩
instance : IT Try.prog 72 (.slice none 0 0) 1 24 := ⟨by kernel_rfl, rfl⟩
instance : IT Try.prog 73 (.nilFunc) 1 8 := ⟨by kernel_rfl, rfl⟩
instance : IT Try.prog 75 (.nilFunc) 1 8 := ⟨by kernel_rfl, rfl⟩
instance : IT Try.prog 77 (.nilFunc) 1 8 := ⟨by kernel_rfl, rfl⟩
instance : IT Try.prog 78 (.nilFunc) 1 8 := ⟨by kernel_rfl, rfl⟩
instance : IT Try.prog 79 (.nilFunc) 1 8 := ⟨by kernel_rfl, rfl⟩
instance : IT Try.prog 80 (.nilFunc) 1 8 := ⟨by kernel_rfl, rfl⟩
instance : IT Try.prog 81 (.agg #[.int .i64 0, .int .i64 0, .int .i64 0]) 3 24 := ⟨by kernel_rfl, rfl⟩
instance : IT Try.prog 82 (.nilFunc) 1 8 := ⟨by kernel_rfl, rfl⟩
instance : IT Try.prog 83 (.pointer none) 1 8 := ⟨by kernel_rfl, rfl⟩
instance : IT Try.prog 84 (.nilFunc) 1 8 := ⟨by kernel_rfl, rfl⟩
instance : IT Try.prog 85 (.nilFunc) 1 8 := ⟨by kernel_rfl, rfl⟩
instance : IT Try.prog 86 (.nilFunc) 1 8 := ⟨by kernel_rfl, rfl⟩
instance : IT Try.prog 87 (.nilFunc) 1 8 := ⟨by kernel_rfl, rfl⟩
instance : IT Try.prog 88 (.agg #[.string ⟨#[]⟩, .int .i64 0, .bool false]) 3 32 := ⟨by kernel_rfl, rfl⟩
instance : IT Try.prog 89 (.agg #[.string ⟨#[]⟩, .int .i64 0, .bool false]) 3 32 := ⟨by kernel_rfl, rfl⟩
instance : IT Try.prog 90 (.nilFunc) 1 8 := ⟨by kernel_rfl, rfl⟩
instance : IT Try.prog 91 (.nilFunc) 1 8 := ⟨by kernel_rfl, rfl⟩
instance : IT Try.prog 92 (.pointer none) 1 8 := ⟨by kernel_rfl, rfl⟩
instance : IT Try.prog 93 (.pointer none) 1 8 := ⟨by kernel_rfl, rfl⟩
instance : IT Try.prog 94 (.agg #[.slice none 0 0, .pointer none]) 2 32 := ⟨by kernel_rfl, rfl⟩
instance : IT Try.prog 95 (.agg #[.slice none 0 0, .pointer none]) 2 32 := ⟨by kernel_rfl, rfl⟩
instance : IT Try.prog 96 (.nilFunc) 1 8 := ⟨by kernel_rfl, rfl⟩
instance : IT Try.prog 97 (.agg #[.nilFunc, .nilFunc, .nilFunc, .nilFunc, .nilFunc, .nilFunc, .nilFunc]) 7 56 := ⟨by kernel_rfl, rfl⟩
instance : IT Try.prog 98 (.nilFunc) 1 8 := ⟨by kernel_rfl, rfl⟩
instance : IT Try.prog 99 (.slice none 0 0) 1 24 := ⟨by kernel_rfl, rfl⟩
instance : IT Try.prog 100 (.agg #[.int .i64 0, .int .i64 0, .int .i64 0]) 3 24 := ⟨by kernel_rfl, rfl⟩
instance : IT Try.prog 101 (.agg #[.int .i64 0, .int .i64 0, .int .i64 0]) 3 24 := ⟨by kernel_rfl, rfl⟩
instance : IT Try.prog 102 (.nilFunc) 1 8 := ⟨by kernel_rfl, rfl⟩
instance : IT Try.prog 103 (.nilFunc) 1 8 := ⟨by kernel_rfl, rfl⟩
instance : IT Try.prog 104 (.pointer none) 1 8 := ⟨by kernel_rfl, rfl⟩
instance : IT Try.prog 105 (.nilFunc) 1 8 := ⟨by kernel_rfl, rfl⟩
instance : IT Try.prog 106 (.nilFunc) 1 8 := ⟨by kernel_rfl, rfl⟩
instance : IT Try.prog 107 (.nilFunc) 1 8 := ⟨by kernel_rfl, rfl⟩
instance : IT Try.prog 108 (.pointer none) 1 8 := ⟨by kernel_rfl, rfl⟩
instance : IT Try.prog 109 (.agg #[.pointer none, .int .i8 0, .int .i64 0, .int .i64 0, .int .i64 0, .bool false, .slice none 0 0, .bool false, .int .i64 0, .int .i64 0, .int .i64 0, .int .i64 0, .int .i64 0, .string ⟨#[]⟩, .string ⟨#[]⟩, .int .i64 0, .int .i64 0, .int .i64 0, .slice none 0 0]) 19 200 := ⟨by kernel_rfl, rfl⟩
instance : IT Try.prog 110 (.agg #[.pointer none, .int .i8 0, .int .i64 0, .int .i64 0, .int .i64 0, .bool false, .slice none 0 0, .bool false, .int .i64 0, .int .i64 0, .int .i64 0, .int .i64 0, .int .i64 0, .string ⟨#[]⟩, .string ⟨#[]⟩, .int .i64 0, .int .i64 0, .int .i64 0, .slice none 0 0]) 19 200 := ⟨by kernel_rfl, rfl⟩
instance : IT Try.prog 111 (.nilFunc) 1 8 := ⟨by kernel_rfl, rfl⟩
instance : IT Try.prog 112 (.agg #[.nilFunc, .nilFunc, .nilFunc, .nilFunc, .nilFunc, .nilFunc, .nilFunc]) 7 56 := ⟨by kernel_rfl, rfl⟩
instance : IT Try.prog 113 (.pointer none) 1 8 := ⟨by kernel_rfl, rfl⟩
instance : IT Try.prog 114 (.nilFunc) 1 8 := ⟨by kernel_rfl, rfl⟩
instance : IT Try.prog 115 (.nilFunc) 1 8 := ⟨by kernel_rfl, rfl⟩
instance : IT Try.prog 116 (.nilFunc) 1 8 := ⟨by kernel_rfl, rfl⟩
instance : IT Try.prog 117 (.nilFunc) 1 8 := ⟨by kernel_rfl, rfl⟩
instance : IT Try.prog 118 (.nilFunc) 1 8 := ⟨by kernel_rfl, rfl⟩
instance : IT Try.prog 119 (.nilFunc) 1 8 := ⟨by kernel_rfl, rfl⟩
instance : IT Try.prog 120 (.int .u64 0) 1 8 := ⟨by kernel_rfl, rfl⟩
instance : IT Try.prog 121 (.nilFunc) 1 8 := ⟨by kernel_rfl, rfl⟩
instance : IT Try.prog 122 (.pointer none) 1 8 := ⟨by kernel_rfl, rfl⟩
instance : IT Try.prog 123 (.agg #[.string ⟨#[]⟩, .int .i64 0, .bool false]) 3 32 := ⟨by kernel_rfl, rfl⟩
instance : IT Try.prog 125 (.nilFunc) 1 8 := ⟨by kernel_rfl, rfl⟩
instance : IT Try.prog 126 (.pointer none) 1 8 := ⟨by kernel_rfl, rfl⟩
instance : IT Try.prog 127 (.agg #[.slice none 0 0, .int .i64 0]) 2 32 := ⟨by kernel_rfl, rfl⟩
instance : IT Try.prog 128 (.agg #[.slice none 0 0, .int .i64 0]) 2 32 := ⟨by kernel_rfl, rfl⟩
instance : IT Try.prog 130 (.nilFunc) 1 8 := ⟨by kernel_rfl, rfl⟩
instance : IT Try.prog 131 (.nilFunc) 1 8 := ⟨by kernel_rfl, rfl⟩
instance : IT Try.prog 132 (.agg #[.pointer none, .pointer none, .pointer none, .string ⟨#[]⟩]) 4 40 := ⟨by kernel_rfl, rfl⟩
instance : IT Try.prog 133 (.agg #[.pointer none, .pointer none, .pointer none, .string ⟨#[]⟩]) 4 40 := ⟨by kernel_rfl, rfl⟩
instance : IT Try.prog 134 (.agg #[]) 0 0 := ⟨by kernel_rfl, rfl⟩
instance : IT Try.prog 135 (.agg #[]) 0 0 := ⟨by kernel_rfl, rfl⟩
instance : IT Try.prog 136 (.agg #[]) 0 0 := ⟨by kernel_rfl, rfl⟩
instance : IT Try.prog 137 (.int .u32 0) 1 4 := ⟨by kernel_rfl, rfl⟩
instance : IT Try.prog 138 (.int .u8 0) 1 1 := ⟨by kernel_rfl, rfl⟩
instance : IT Try.prog 139 (.int .u8 0) 1 1 := ⟨by kernel_rfl, rfl⟩
instance : IT Try.prog 140 (.nilFunc) 1 8 := ⟨by kernel_rfl, rfl⟩
instance : IT Try.prog 141 (.pointer none) 1 8 := ⟨by kernel_rfl, rfl⟩
instance : IT Try.prog 142 (.int .i32 0) 1 4 := ⟨by kernel_rfl, rfl⟩
instance : IT Try.prog 143 (.int .i32 0) 1 4 := ⟨by kernel_rfl, rfl⟩
instance : IT Try.prog 144 (.agg #[.int .u64 0, .int .u64 0, .int .u32 0, .int .u8 0, .int .u8 0, .int .u8 0, .int .u8 0, .nilFunc, .pointer none, .int .i32 0, .int .i32 0]) 11 48 := ⟨by kernel_rfl, rfl⟩
instance : IT Try.prog 145 (.agg #[.int .u64 0, .int .u64 0, .int .u32 0, .int .u8 0, .int .u8 0, .int .u8 0, .int .u8 0, .nilFunc, .pointer none, .int .i32 0, .int .i32 0]) 11 48 := ⟨by kernel_rfl, rfl⟩
instance : FO Try.prog 7 0 0 2 := ⟨by kernel_rfl⟩
instance : FO Try.prog 7 1 1 3 := ⟨by kernel_rfl⟩
instance : FO Try.prog 7 2 2 4 := ⟨by kernel_rfl⟩
instance : FO Try.prog 7 3 3 6 := ⟨by kernel_rfl⟩
instance : ST Try.prog 7 [(0, 1), (1, 1), (2, 1), (3, 1)] [.int .i64 0, .int .i64 0, .bool false, .int .u8 0] := ⟨by kernel_rfl, _, _, inferInstance⟩
instance : FO Try.prog 8 0 0 2 := ⟨by kernel_rfl⟩
instance : FO Try.prog 8 1 1 3 := ⟨by kernel_rfl⟩
instance : FO Try.prog 8 2 2 4 := ⟨by kernel_rfl⟩
instance : FO Try.prog 8 3 3 6 := ⟨by kernel_rfl⟩
instance : ST Try.prog 8 [(0, 1), (1, 1), (2, 1), (3, 1)] [.int .i64 0, .int .i64 0, .bool false, .int .u8 0] := ⟨by kernel_rfl, _, _, inferInstance⟩
instance : FO Try.prog 13 0 0 9 := ⟨by kernel_rfl⟩
instance : FO Try.prog 13 1 1 12 := ⟨by kernel_rfl⟩
instance : ST Try.prog 13 [(0, 1), (1, 1)] [.string ⟨#[]⟩, .int .u64 0] := ⟨by kernel_rfl, _, _, inferInstance⟩
instance : FO Try.prog 14 0 0 9 := ⟨by kernel_rfl⟩
instance : FO Try.prog 14 1 1 12 := ⟨by kernel_rfl⟩
instance : ST Try.prog 14 [(0, 1), (1, 1)] [.string ⟨#[]⟩, .int .u64 0] := ⟨by kernel_rfl, _, _, inferInstance⟩
instance : FO Try.prog 18 0 0 17 := ⟨by kernel_rfl⟩
instance : ST Try.prog 18 [(0, 1)] [.pointer none] := ⟨by kernel_rfl, _, _, inferInstance⟩
instance : FO Try.prog 19 0 0 17 := ⟨by kernel_rfl⟩
instance : ST Try.prog 19 [(0, 1)] [.pointer none] := ⟨by kernel_rfl, _, _, inferInstance⟩
instance : FO Try.prog 23 0 0 3 := ⟨by kernel_rfl⟩
instance : FO Try.prog 23 1 1 3 := ⟨by kernel_rfl⟩
instance : FO Try.prog 23 2 2 3 := ⟨by kernel_rfl⟩
instance : FO Try.prog 23 3 3 4 := ⟨by kernel_rfl⟩
instance : FO Try.prog 23 4 4 22 := ⟨by kernel_rfl⟩
instance : ST Try.prog 23 [(0, 1), (1, 1), (2, 1), (3, 1), (4, 1)] [.int .i64 0, .int .i64 0, .int .i64 0, .bool false, .slice none 0 0] := ⟨by kernel_rfl, _, _, inferInstance⟩
instance : FO Try.prog 24 0 0 3 := ⟨by kernel_rfl⟩
instance : FO Try.prog 24 1 1 3 := ⟨by kernel_rfl⟩
instance : FO Try.prog 24 2 2 3 := ⟨by kernel_rfl⟩
instance : FO Try.prog 24 3 3 4 := ⟨by kernel_rfl⟩
instance : FO Try.prog 24 4 4 22 := ⟨by kernel_rfl⟩
instance : ST Try.prog 24 [(0, 1), (1, 1), (2, 1), (3, 1), (4, 1)] [.int .i64 0, .int .i64 0, .int .i64 0, .bool false, .slice none 0 0] := ⟨by kernel_rfl, _, _, inferInstance⟩
instance : FO Try.prog 33 0 0 3 := ⟨by kernel_rfl⟩
instance : FO Try.prog 33 1 1 3 := ⟨by kernel_rfl⟩
instance : FO Try.prog 33 2 2 9 := ⟨by kernel_rfl⟩
instance : ST Try.prog 33 [(0, 1), (1, 1), (2, 1)] [.int .i64 0, .int .i64 0, .string ⟨#[]⟩] := ⟨by kernel_rfl, _, _, inferInstance⟩
instance : FO Try.prog 34 0 0 3 := ⟨by kernel_rfl⟩
instance : FO Try.prog 34 1 1 3 := ⟨by kernel_rfl⟩
instance : FO Try.prog 34 2 2 9 := ⟨by kernel_rfl⟩
instance : ST Try.prog 34 [(0, 1), (1, 1), (2, 1)] [.int .i64 0, .int .i64 0, .string ⟨#[]⟩] := ⟨by kernel_rfl, _, _, inferInstance⟩
instance : FO Try.prog 48 0 0 3 := ⟨by kernel_rfl⟩
instance : FO Try.prog 48 1 1 3 := ⟨by kernel_rfl⟩
instance : FO Try.prog 48 2 2 3 := ⟨by kernel_rfl⟩
instance : FO Try.prog 48 3 3 9 := ⟨by kernel_rfl⟩
instance : FO Try.prog 48 4 4 9 := ⟨by kernel_rfl⟩
instance : ST Try.prog 48 [(0, 1), (1, 1), (2, 1), (3, 1), (4, 1)] [.int .i64 0, .int .i64 0, .int .i64 0, .string ⟨#[]⟩, .string ⟨#[]⟩] := ⟨by kernel_rfl, _, _, inferInstance⟩
instance : FO Try.prog 49 0 0 3 := ⟨by kernel_rfl⟩
instance : FO Try.prog 49 1 1 3 := ⟨by kernel_rfl⟩
instance : FO Try.prog 49 2 2 3 := ⟨by kernel_rfl⟩
instance : FO Try.prog 49 3 3 9 := ⟨by kernel_rfl⟩
instance : FO Try.prog 49 4 4 9 := ⟨by kernel_rfl⟩
instance : ST Try.prog 49 [(0, 1), (1, 1), (2, 1), (3, 1), (4, 1)] [.int .i64 0, .int .i64 0, .int .i64 0, .string ⟨#[]⟩, .string ⟨#[]⟩] := ⟨by kernel_rfl, _, _, inferInstance⟩
instance : FO Try.prog 50 0 0 9 := ⟨by kernel_rfl⟩
instance : FO Try.prog 50 1 1 9 := ⟨by kernel_rfl⟩
instance : ST Try.prog 50 [(0, 1), (1, 1)] [.string ⟨#[]⟩, .string ⟨#[]⟩] := ⟨by kernel_rfl, _, _, inferInstance⟩
instance : FO Try.prog 51 0 0 9 := ⟨by kernel_rfl⟩
instance : FO Try.prog 51 1 1 9 := ⟨by kernel_rfl⟩
instance : ST Try.prog 51 [(0, 1), (1, 1)] [.string ⟨#[]⟩, .string ⟨#[]⟩] := ⟨by kernel_rfl, _, _, inferInstance⟩
instance : FO Try.prog 55 0 0 3 := ⟨by kernel_rfl⟩
instance : FO Try.prog 55 1 1 3 := ⟨by kernel_rfl⟩
instance : FO Try.prog 55 2 2 3 := ⟨by kernel_rfl⟩
instance : FO Try.prog 55 3 3 54 := ⟨by kernel_rfl⟩
instance : ST Try.prog 55 [(0, 1), (1, 1), (2, 1), (3, 1)] [.int .i64 0, .int .i64 0, .int .i64 0, .slice none 0 0] := ⟨by kernel_rfl, _, _, inferInstance⟩
instance : FO Try.prog 56 0 0 3 := ⟨by kernel_rfl⟩
instance : FO Try.prog 56 1 1 3 := ⟨by kernel_rfl⟩
instance : FO Try.prog 56 2 2 3 := ⟨by kernel_rfl⟩
instance : FO Try.prog 56 3 3 54 := ⟨by kernel_rfl⟩
instance : ST Try.prog 56 [(0, 1), (1, 1), (2, 1), (3, 1)] [.int .i64 0, .int .i64 0, .int .i64 0, .slice none 0 0] := ⟨by kernel_rfl, _, _, inferInstance⟩
instance : FO Try.prog 57 0 0 53 := ⟨by kernel_rfl⟩
instance : FO Try.prog 57 1 1 24 := ⟨by kernel_rfl⟩
instance : FO Try.prog 57 2 6 4 := ⟨by kernel_rfl⟩
instance : FO Try.prog 57 3 7 3 := ⟨by kernel_rfl⟩
instance : FO Try.prog 57 4 8 3 := ⟨by kernel_rfl⟩
instance : FO Try.prog 57 5 9 49 := ⟨by kernel_rfl⟩
instance : FO Try.prog 57 6 14 56 := ⟨by kernel_rfl⟩
instance : ST Try.prog 57 [(0, 1), (1, 5), (6, 1), (7, 1), (8, 1), (9, 5), (14, 4)] [.int .i8 0, .int .i64 0, .int .i64 0, .int .i64 0, .bool false, .slice none 0 0, .bool false, .int .i64 0, .int .i64 0, .int .i64 0, .int .i64 0, .int .i64 0, .string ⟨#[]⟩, .string ⟨#[]⟩, .int .i64 0, .int .i64 0, .int .i64 0, .slice none 0 0] := ⟨by kernel_rfl, _, _, inferInstance⟩
instance : FO Try.prog 58 0 0 53 := ⟨by kernel_rfl⟩
instance : FO Try.prog 58 1 1 24 := ⟨by kernel_rfl⟩
instance : FO Try.prog 58 2 6 4 := ⟨by kernel_rfl⟩
instance : FO Try.prog 58 3 7 3 := ⟨by kernel_rfl⟩
instance : FO Try.prog 58 4 8 3 := ⟨by kernel_rfl⟩
instance : FO Try.prog 58 5 9 49 := ⟨by kernel_rfl⟩
instance : FO Try.prog 58 6 14 56 := ⟨by kernel_rfl⟩
instance : ST Try.prog 58 [(0, 1), (1, 5), (6, 1), (7, 1), (8, 1), (9, 5), (14, 4)] [.int .i8 0, .int .i64 0, .int .i64 0, .int .i64 0, .bool false, .slice none 0 0, .bool false, .int .i64 0, .int .i64 0, .int .i64 0, .int .i64 0, .int .i64 0, .string ⟨#[]⟩, .string ⟨#[]⟩, .int .i64 0, .int .i64 0, .int .i64 0, .slice none 0 0] := ⟨by kernel_rfl, _, _, inferInstance⟩
instance : FO Try.prog 88 0 0 9 := ⟨by kernel_rfl⟩
instance : FO Try.prog 88 1 1 3 := ⟨by kernel_rfl⟩
instance : FO Try.prog 88 2 2 4 := ⟨by kernel_rfl⟩
instance : ST Try.prog 88 [(0, 1), (1, 1), (2, 1)] [.string ⟨#[]⟩, .int .i64 0, .bool false] := ⟨by kernel_rfl, _, _, inferInstance⟩
instance : FO Try.prog 89 0 0 9 := ⟨by kernel_rfl⟩
instance : FO Try.prog 89 1 1 3 := ⟨by kernel_rfl⟩
instance : FO Try.prog 89 2 2 4 := ⟨by kernel_rfl⟩
instance : ST Try.prog 89 [(0, 1), (1, 1), (2, 1)] [.string ⟨#[]⟩, .int .i64 0, .bool false] := ⟨by kernel_rfl, _, _, inferInstance⟩
instance : FO Try.prog 94 0 0 35 := ⟨by kernel_rfl⟩
instance : FO Try.prog 94 1 1 93 := ⟨by kernel_rfl⟩
instance : ST Try.prog 94 [(0, 1), (1, 1)] [.slice none 0 0, .pointer none] := ⟨by kernel_rfl, _, _, inferInstance⟩
instance : FO Try.prog 95 0 0 35 := ⟨by kernel_rfl⟩
instance : FO Try.prog 95 1 1 93 := ⟨by kernel_rfl⟩
instance : ST Try.prog 95 [(0, 1), (1, 1)] [.slice none 0 0, .pointer none] := ⟨by kernel_rfl, _, _, inferInstance⟩
instance : FO Try.prog 100 0 0 3 := ⟨by kernel_rfl⟩
instance : FO Try.prog 100 1 1 3 := ⟨by kernel_rfl⟩
instance : FO Try.prog 100 2 2 3 := ⟨by kernel_rfl⟩
instance : ST Try.prog 100 [(0, 1), (1, 1), (2, 1)] [.int .i64 0, .int .i64 0, .int .i64 0] := ⟨by kernel_rfl, _, _, inferInstance⟩
instance : FO Try.prog 101 0 0 3 := ⟨by kernel_rfl⟩
instance : FO Try.prog 101 1 1 3 := ⟨by kernel_rfl⟩
instance : FO Try.prog 101 2 2 3 := ⟨by kernel_rfl⟩
instance : ST Try.prog 101 [(0, 1), (1, 1), (2, 1)] [.int .i64 0, .int .i64 0, .int .i64 0] := ⟨by kernel_rfl, _, _, inferInstance⟩
instance : FO Try.prog 109 0 0 83 := ⟨by kernel_rfl⟩
instance : FO Try.prog 109 1 1 58 := ⟨by kernel_rfl⟩
instance : ST Try.prog 109 [(0, 1), (1, 18)] [.pointer none, .int .i8 0, .int .i64 0, .int .i64 0, .int .i64 0, .bool false, .slice none 0 0, .bool false, .int .i64 0, .int .i64 0, .int .i64 0, .int .i64 0, .int .i64 0, .string ⟨#[]⟩, .string ⟨#[]⟩, .int .i64 0, .int .i64 0, .int .i64 0, .slice none 0 0] := ⟨by kernel_rfl, _, _, inferInstance⟩
instance : FO Try.prog 110 0 0 83 := ⟨by kernel_rfl⟩
instance : FO Try.prog 110 1 1 58 := ⟨by kernel_rfl⟩
instance : ST Try.prog 110 [(0, 1), (1, 18)] [.pointer none, .int .i8 0, .int .i64 0, .int .i64 0, .int .i64 0, .bool false, .slice none 0 0, .bool false, .int .i64 0, .int .i64 0, .int .i64 0, .int .i64 0, .int .i64 0, .string ⟨#[]⟩, .string ⟨#[]⟩, .int .i64 0, .int .i64 0, .int .i64 0, .slice none 0 0] := ⟨by kernel_rfl, _, _, inferInstance⟩
instance : FO Try.prog 123 0 0 9 := ⟨by kernel_rfl⟩
instance : FO Try.prog 123 1 1 3 := ⟨by kernel_rfl⟩
instance : FO Try.prog 123 2 2 4 := ⟨by kernel_rfl⟩
instance : ST Try.prog 123 [(0, 1), (1, 1), (2, 1)] [.string ⟨#[]⟩, .int .i64 0, .bool false] := ⟨by kernel_rfl, _, _, inferInstance⟩
instance : FO Try.prog 127 0 0 35 := ⟨by kernel_rfl⟩
instance : FO Try.prog 127 1 1 3 := ⟨by kernel_rfl⟩
instance : ST Try.prog 127 [(0, 1), (1, 1)] [.slice none 0 0, .int .i64 0] := ⟨by kernel_rfl, _, _, inferInstance⟩
instance : FO Try.prog 128 0 0 35 := ⟨by kernel_rfl⟩
instance : FO Try.prog 128 1 1 3 := ⟨by kernel_rfl⟩
instance : ST Try.prog 128 [(0, 1), (1, 1)] [.slice none 0 0, .int .i64 0] := ⟨by kernel_rfl, _, _, inferInstance⟩
instance : FO Try.prog 132 0 0 17 := ⟨by kernel_rfl⟩
instance : FO Try.prog 132 1 1 17 := ⟨by kernel_rfl⟩
instance : FO Try.prog 132 2 2 17 := ⟨by kernel_rfl⟩
instance : FO Try.prog 132 3 3 9 := ⟨by kernel_rfl⟩
instance : ST Try.prog 132 [(0, 1), (1, 1), (2, 1), (3, 1)] [.pointer none, .pointer none, .pointer none, .string ⟨#[]⟩] := ⟨by kernel_rfl, _, _, inferInstance⟩
instance : FO Try.prog 133 0 0 17 := ⟨by kernel_rfl⟩
instance : FO Try.prog 133 1 1 17 := ⟨by kernel_rfl⟩
instance : FO Try.prog 133 2 2 17 := ⟨by kernel_rfl⟩
instance : FO Try.prog 133 3 3 9 := ⟨by kernel_rfl⟩
instance : ST Try.prog 133 [(0, 1), (1, 1), (2, 1), (3, 1)] [.pointer none, .pointer none, .pointer none, .string ⟨#[]⟩] := ⟨by kernel_rfl, _, _, inferInstance⟩
instance : ST Try.prog 135 [(0, 0)] [] := ⟨by kernel_rfl, _, _, inferInstance⟩
instance : ST Try.prog 136 [(0, 0)] [] := ⟨by kernel_rfl, _, _, inferInstance⟩
instance : FO Try.prog 144 0 0 12 := ⟨by kernel_rfl⟩
instance : FO Try.prog 144 1 1 12 := ⟨by kernel_rfl⟩
instance : FO Try.prog 144 2 2 137 := ⟨by kernel_rfl⟩
instance : FO Try.prog 144 3 3 138 := ⟨by kernel_rfl⟩
instance : FO Try.prog 144 4 4 5 := ⟨by kernel_rfl⟩
instance : FO Try.prog 144 5 5 5 := ⟨by kernel_rfl⟩
instance : FO Try.prog 144 6 6 139 := ⟨by kernel_rfl⟩
instance : FO Try.prog 144 7 7 140 := ⟨by kernel_rfl⟩
instance : FO Try.prog 144 8 8 141 := ⟨by kernel_rfl⟩
instance : FO Try.prog 144 9 9 142 := ⟨by kernel_rfl⟩
instance : FO Try.prog 144 10 10 143 := ⟨by kernel_rfl⟩
instance : ST Try.prog 144 [(0, 1), (1, 1), (2, 1), (3, 1), (4, 1), (5, 1), (6, 1), (7, 1), (8, 1), (9, 1), (10, 1)] [.int .u64 0, .int .u64 0, .int .u32 0, .int .u8 0, .int .u8 0, .int .u8 0, .int .u8 0, .nilFunc, .pointer none, .int .i32 0, .int .i32 0] := ⟨by kernel_rfl, _, _, inferInstance⟩
instance : FO Try.prog 145 0 0 12 := ⟨by kernel_rfl⟩
instance : FO Try.prog 145 1 1 12 := ⟨by kernel_rfl⟩
instance : FO Try.prog 145 2 2 137 := ⟨by kernel_rfl⟩
instance : FO Try.prog 145 3 3 138 := ⟨by kernel_rfl⟩
instance : FO Try.prog 145 4 4 5 := ⟨by kernel_rfl⟩
instance : FO Try.prog 145 5 5 5 := ⟨by kernel_rfl⟩
instance : FO Try.prog 145 6 6 139 := ⟨by kernel_rfl⟩
instance : FO Try.prog 145 7 7 140 := ⟨by kernel_rfl⟩
instance : FO Try.prog 145 8 8 141 := ⟨by kernel_rfl⟩
instance : FO Try.prog 145 9 9 142 := ⟨by kernel_rfl⟩
instance : FO Try.prog 145 10 10 143 := ⟨by kernel_rfl⟩
instance : ST Try.prog 145 [(0, 1), (1, 1), (2, 1), (3, 1), (4, 1), (5, 1), (6, 1), (7, 1), (8, 1), (9, 1), (10, 1)] [.int .u64 0, .int .u64 0, .int .u32 0, .int .u8 0, .int .u8 0, .int .u8 0, .int .u8 0, .nilFunc, .pointer none, .int .i32 0, .int .i32 0] := ⟨by kernel_rfl, _, _, inferInstance⟩
instance : Enters Try.prog 3 := ⟨fun args w => enters_ Try.func3 (by kernel_rfl) (by kernel_rfl) args w⟩
instance : Enters Try.prog 4 := ⟨fun args w => enters_ Try.func4 (by kernel_rfl) (by kernel_rfl) args w⟩
instance : Enters Try.prog 5 := ⟨fun args w => enters_ Try.func5 (by kernel_rfl) (by kernel_rfl) args w⟩
instance : Enters Try.prog 6 := ⟨fun args w => enters_ Try.func6 (by kernel_rfl) (by kernel_rfl) args w⟩
instance : Enters Try.prog 7 := ⟨fun args w => enters_ Try.func7 (by kernel_rfl) (by kernel_rfl) args w⟩
instance : Enters Try.prog 8 := ⟨fun args w => enters_ Try.func8 (by kernel_rfl) (by kernel_rfl) args w⟩
instance : Enters Try.prog 9 := ⟨fun args w => enters_ Try.func9 (by kernel_rfl) (by kernel_rfl) args w⟩
instance : Enters Try.prog 10 := ⟨fun args w => enters_ Try.func10 (by kernel_rfl) (by kernel_rfl) args w⟩
instance : Enters Try.prog 11 := ⟨fun args w => enters_ Try.func11 (by kernel_rfl) (by kernel_rfl) args w⟩
instance : Enters Try.prog 12 := ⟨fun args w => enters_ Try.func12 (by kernel_rfl) (by kernel_rfl) args w⟩
instance : Enters Try.prog 13 := ⟨fun args w => enters_ Try.func13 (by kernel_rfl) (by kernel_rfl) args w⟩
instance : Enters Try.prog 14 := ⟨fun args w => enters_ Try.func14 (by kernel_rfl) (by kernel_rfl) args w⟩
instance : Enters Try.prog 15 := ⟨fun args w => enters_ Try.func15 (by kernel_rfl) (by kernel_rfl) args w⟩
instance : Enters Try.prog 16 := ⟨fun args w => enters_ Try.func16 (by kernel_rfl) (by kernel_rfl) args w⟩
instance : Enters Try.prog 17 := ⟨fun args w => enters_ Try.func17 (by kernel_rfl) (by kernel_rfl) args w⟩
instance : Enters Try.prog 18 := ⟨fun args w => enters_ Try.func18 (by kernel_rfl) (by kernel_rfl) args w⟩
instance : Enters Try.prog 19 := ⟨fun args w => enters_ Try.func19 (by kernel_rfl) (by kernel_rfl) args w⟩
instance : Enters Try.prog 20 := ⟨fun args w => enters_ Try.func20 (by kernel_rfl) (by kernel_rfl) args w⟩
instance : Enters Try.prog 21 := ⟨fun args w => enters_ Try.func21 (by kernel_rfl) (by kernel_rfl) args w⟩
instance : Enters Try.prog 22 := ⟨fun args w => enters_ Try.func22 (by kernel_rfl) (by kernel_rfl) args w⟩
instance : Enters Try.prog 23 := ⟨fun args w => enters_ Try.func23 (by kernel_rfl) (by kernel_rfl) args w⟩
instance : Enters Try.prog 24 := ⟨fun args w => enters_ Try.func24 (by kernel_rfl) (by kernel_rfl) args w⟩
instance : Enters Try.prog 25 := ⟨fun args w => enters_ Try.func25 (by kernel_rfl) (by kernel_rfl) args w⟩
instance : Enters Try.prog 26 := ⟨fun args w => enters_ Try.func26 (by kernel_rfl) (by kernel_rfl) args w⟩
instance : Enters Try.prog 27 := ⟨fun args w => enters_ Try.func27 (by kernel_rfl) (by kernel_rfl) args w⟩
instance : Enters Try.prog 28 := ⟨fun args w => enters_ Try.func28 (by kernel_rfl) (by kernel_rfl) args w⟩
instance : Enters Try.prog 29 := ⟨fun args w => enters_ Try.func29 (by kernel_rfl) (by kernel_rfl) args w⟩
instance : Enters Try.prog 30 := ⟨fun args w => enters_ Try.func30 (by kernel_rfl) (by kernel_rfl) args w⟩
instance : Enters Try.prog 31 := ⟨fun args w => enters_ Try.func31 (by kernel_rfl) (by kernel_rfl) args w⟩
instance : Enters Try.prog 32 := ⟨fun args w => enters_ Try.func32 (by kernel_rfl) (by kernel_rfl) args w⟩
instance : Enters Try.prog 33 := ⟨fun args w => enters_ Try.func33 (by kernel_rfl) (by kernel_rfl) args w⟩
instance : Enters Try.prog 34 := ⟨fun args w => enters_ Try.func34 (by kernel_rfl) (by kernel_rfl) args w⟩
instance : Enters Try.prog 35 := ⟨fun args w => enters_ Try.func35 (by kernel_rfl) (by kernel_rfl) args w⟩
instance : Enters Try.prog 36 := ⟨fun args w => enters_ Try.func36 (by kernel_rfl) (by kernel_rfl) args w⟩
instance : Enters Try.prog 37 := ⟨fun args w => enters_ Try.func37 (by kernel_rfl) (by kernel_rfl) args w⟩
instance : Enters Try.prog 38 := ⟨fun args w => enters_ Try.func38 (by kernel_rfl) (by kernel_rfl) args w⟩
instance : Enters Try.prog 39 := ⟨fun args w => enters_ Try.func39 (by kernel_rfl) (by kernel_rfl) args w⟩
instance : Enters Try.prog 40 := ⟨fun args w => enters_ Try.func40 (by kernel_rfl) (by kernel_rfl) args w⟩
instance : Enters Try.prog 41 := ⟨fun args w => enters_ Try.func41 (by kernel_rfl) (by kernel_rfl) args w⟩
instance : Enters Try.prog 42 := ⟨fun args w => enters_ Try.func42 (by kernel_rfl) (by kernel_rfl) args w⟩
instance : Enters Try.prog 43 := ⟨fun args w => enters_ Try.func43 (by kernel_rfl) (by kernel_rfl) args w⟩
instance : Enters Try.prog 44 := ⟨fun args w => enters_ Try.func44 (by kernel_rfl) (by kernel_rfl) args w⟩
instance : Enters Try.prog 45 := ⟨fun args w => enters_ Try.func45 (by kernel_rfl) (by kernel_rfl) args w⟩
instance : Enters Try.prog 46 := ⟨fun args w => enters_ Try.func46 (by kernel_rfl) (by kernel_rfl) args w⟩
instance : Enters Try.prog 47 := ⟨fun args w => enters_ Try.func47 (by kernel_rfl) (by kernel_rfl) args w⟩
instance : Enters Try.prog 48 := ⟨fun args w => enters_ Try.func48 (by kernel_rfl) (by kernel_rfl) args w⟩
instance : Enters Try.prog 49 := ⟨fun args w => enters_ Try.func49 (by kernel_rfl) (by kernel_rfl) args w⟩
instance : Enters Try.prog 50 := ⟨fun args w => enters_ Try.func50 (by kernel_rfl) (by kernel_rfl) args w⟩
instance : Enters Try.prog 51 := ⟨fun args w => enters_ Try.func51 (by kernel_rfl) (by kernel_rfl) args w⟩
instance : Enters Try.prog 52 := ⟨fun args w => enters_ Try.func52 (by kernel_rfl) (by kernel_rfl) args w⟩
instance : Enters Try.prog 53 := ⟨fun args w => enters_ Try.func53 (by kernel_rfl) (by kernel_rfl) args w⟩
instance : Enters Try.prog 54 := ⟨fun args w => enters_ Try.func54 (by kernel_rfl) (by kernel_rfl) args w⟩
instance : Enters Try.prog 55 := ⟨fun args w => enters_ Try.func55 (by kernel_rfl) (by kernel_rfl) args w⟩
instance : Enters Try.prog 56 := ⟨fun args w => enters_ Try.func56 (by kernel_rfl) (by kernel_rfl) args w⟩
instance : Enters Try.prog 57 := ⟨fun args w => enters_ Try.func57 (by kernel_rfl) (by kernel_rfl) args w⟩
instance : Enters Try.prog 58 := ⟨fun args w => enters_ Try.func58 (by kernel_rfl) (by kernel_rfl) args w⟩
instance : Enters Try.prog 59 := ⟨fun args w => enters_ Try.func59 (by kernel_rfl) (by kernel_rfl) args w⟩
instance : Enters Try.prog 60 := ⟨fun args w => enters_ Try.func60 (by kernel_rfl) (by kernel_rfl) args w⟩
instance : Enters Try.prog 61 := ⟨fun args w => enters_ Try.func61 (by kernel_rfl) (by kernel_rfl) args w⟩
instance : Enters Try.prog 62 := ⟨fun args w => enters_ Try.func62 (by kernel_rfl) (by kernel_rfl) args w⟩
instance : Enters Try.prog 63 := ⟨fun args w => enters_ Try.func63 (by kernel_rfl) (by kernel_rfl) args w⟩
instance : Enters Try.prog 64 := ⟨fun args w => enters_ Try.func64 (by kernel_rfl) (by kernel_rfl) args w⟩
instance : Enters Try.prog 65 := ⟨fun args w => enters_ Try.func65 (by kernel_rfl) (by kernel_rfl) args w⟩
instance : Enters Try.prog 66 := ⟨fun args w => enters_ Try.func66 (by kernel_rfl) (by kernel_rfl) args w⟩
instance : Enters Try.prog 67 := ⟨fun args w => enters_ Try.func67 (by kernel_rfl) (by kernel_rfl) args w⟩
instance : Enters Try.prog 68 := ⟨fun args w => enters_ Try.func68 (by kernel_rfl) (by kernel_rfl) args w⟩
instance : Enters Try.prog 69 := ⟨fun args w => enters_ Try.func69 (by kernel_rfl) (by kernel_rfl) args w⟩
instance : Enters Try.prog 70 := ⟨fun args w => enters_ Try.func70 (by kernel_rfl) (by kernel_rfl) args w⟩
instance : Enters Try.prog 71 := ⟨fun args w => enters_ Try.func71 (by kernel_rfl) (by kernel_rfl) args w⟩
instance : Enters Try.prog 72 := ⟨fun args w => enters_ Try.func72 (by kernel_rfl) (by kernel_rfl) args w⟩
instance : Enters Try.prog 73 := ⟨fun args w => enters_ Try.func73 (by kernel_rfl) (by kernel_rfl) args w⟩
instance : Enters Try.prog 74 := ⟨fun args w => enters_ Try.func74 (by kernel_rfl) (by kernel_rfl) args w⟩
instance : Enters Try.prog 75 := ⟨fun args w => enters_ Try.func75 (by kernel_rfl) (by kernel_rfl) args w⟩
instance : Enters Try.prog 76 := ⟨fun args w => enters_ Try.func76 (by kernel_rfl) (by kernel_rfl) args w⟩
instance : Enters Try.prog 77 := ⟨fun args w => enters_ Try.func77 (by kernel_rfl) (by kernel_rfl) args w⟩
instance : Enters Try.prog 78 := ⟨fun args w => enters_ Try.func78 (by kernel_rfl) (by kernel_rfl) args w⟩
instance : Enters Try.prog 79 := ⟨fun args w => enters_ Try.func79 (by kernel_rfl) (by kernel_rfl) args w⟩
instance : Enters Try.prog 80 := ⟨fun args w => enters_ Try.func80 (by kernel_rfl) (by kernel_rfl) args w⟩
instance : Enters Try.prog 81 := ⟨fun args w => enters_ Try.func81 (by kernel_rfl) (by kernel_rfl) args w⟩
instance : Enters Try.prog 82 := ⟨fun args w => enters_ Try.func82 (by kernel_rfl) (by kernel_rfl) args w⟩
instance : Enters Try.prog 83 := ⟨fun args w => enters_ Try.func83 (by kernel_rfl) (by kernel_rfl) args w⟩
instance : Enters Try.prog 84 := ⟨fun args w => enters_ Try.func84 (by kernel_rfl) (by kernel_rfl) args w⟩
instance : Enters Try.prog 85 := ⟨fun args w => enters_ Try.func85 (by kernel_rfl) (by kernel_rfl) args w⟩
instance : Enters Try.prog 86 := ⟨fun args w => enters_ Try.func86 (by kernel_rfl) (by kernel_rfl) args w⟩
instance : Enters Try.prog 87 := ⟨fun args w => enters_ Try.func87 (by kernel_rfl) (by kernel_rfl) args w⟩
instance : Enters Try.prog 88 := ⟨fun args w => enters_ Try.func88 (by kernel_rfl) (by kernel_rfl) args w⟩
instance : Enters Try.prog 89 := ⟨fun args w => enters_ Try.func89 (by kernel_rfl) (by kernel_rfl) args w⟩
instance : Enters Try.prog 90 := ⟨fun args w => enters_ Try.func90 (by kernel_rfl) (by kernel_rfl) args w⟩
instance : Enters Try.prog 91 := ⟨fun args w => enters_ Try.func91 (by kernel_rfl) (by kernel_rfl) args w⟩
instance : Enters Try.prog 92 := ⟨fun args w => enters_ Try.func92 (by kernel_rfl) (by kernel_rfl) args w⟩
instance : Enters Try.prog 93 := ⟨fun args w => enters_ Try.func93 (by kernel_rfl) (by kernel_rfl) args w⟩
instance : Enters Try.prog 94 := ⟨fun args w => enters_ Try.func94 (by kernel_rfl) (by kernel_rfl) args w⟩
instance : Enters Try.prog 95 := ⟨fun args w => enters_ Try.func95 (by kernel_rfl) (by kernel_rfl) args w⟩
instance : Enters Try.prog 96 := ⟨fun args w => enters_ Try.func96 (by kernel_rfl) (by kernel_rfl) args w⟩
instance : Enters Try.prog 97 := ⟨fun args w => enters_ Try.func97 (by kernel_rfl) (by kernel_rfl) args w⟩
instance : Enters Try.prog 98 := ⟨fun args w => enters_ Try.func98 (by kernel_rfl) (by kernel_rfl) args w⟩
instance : Enters Try.prog 99 := ⟨fun args w => enters_ Try.func99 (by kernel_rfl) (by kernel_rfl) args w⟩
instance : Enters Try.prog 100 := ⟨fun args w => enters_ Try.func100 (by kernel_rfl) (by kernel_rfl) args w⟩
instance : Enters Try.prog 101 := ⟨fun args w => enters_ Try.func101 (by kernel_rfl) (by kernel_rfl) args w⟩
instance : Enters Try.prog 102 := ⟨fun args w => enters_ Try.func102 (by kernel_rfl) (by kernel_rfl) args w⟩
instance : Enters Try.prog 103 := ⟨fun args w => enters_ Try.func103 (by kernel_rfl) (by kernel_rfl) args w⟩
instance : Enters Try.prog 104 := ⟨fun args w => enters_ Try.func104 (by kernel_rfl) (by kernel_rfl) args w⟩
instance : Enters Try.prog 105 := ⟨fun args w => enters_ Try.func105 (by kernel_rfl) (by kernel_rfl) args w⟩
instance : Enters Try.prog 106 := ⟨fun args w => enters_ Try.func106 (by kernel_rfl) (by kernel_rfl) args w⟩
instance : Enters Try.prog 107 := ⟨fun args w => enters_ Try.func107 (by kernel_rfl) (by kernel_rfl) args w⟩
instance : Enters Try.prog 108 := ⟨fun args w => enters_ Try.func108 (by kernel_rfl) (by kernel_rfl) args w⟩
instance : Enters Try.prog 109 := ⟨fun args w => enters_ Try.func109 (by kernel_rfl) (by kernel_rfl) args w⟩
theorem follows_mixed : Try.prog.follows .mixedOrders = true := by kernel_rfl
end Go.Proofs.Ytgggcfhmcelioaa
