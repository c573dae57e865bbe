/- Facts on the seat's types and functions, each read off the loaded program. -/
import Derived.KernelRfl
import Derived.Test.YtlaemkgdffgmhaaSl8
import Derived.Test.YtlaemkgdffgmhaaProg
set_option autoImplicit false
namespace Go.Proofs
open Go.SL
instance : TyU Try.prog 0 ((TypeDesc.tuple #[])) := ⟨Try.underlying0⟩
instance : TyU Try.prog 1 ((TypeDesc.func #[] #[] false)) := ⟨Try.underlying1⟩
instance : TyI Try.prog 1 1 (.nilFunc) 8 := ⟨by kernel_rfl⟩
instance : TyU Try.prog 2 ((TypeDesc.int IntKind.i64)) := ⟨Try.underlying2⟩
instance : TyI Try.prog 2 1 (.int .i64 0) 8 := ⟨by kernel_rfl⟩
instance : TyU Try.prog 3 ((TypeDesc.int IntKind.i64)) := ⟨Try.underlying3⟩
instance : TyI Try.prog 3 1 (.int .i64 0) 8 := ⟨by kernel_rfl⟩
instance : TyU Try.prog 4 (TypeDesc.bool) := ⟨Try.underlying4⟩
instance : TyI Try.prog 4 1 (.bool false) 1 := ⟨by kernel_rfl⟩
instance : TyU Try.prog 5 ((TypeDesc.int IntKind.u8)) := ⟨Try.underlying5⟩
instance : TyI Try.prog 5 1 (.int .u8 0) 1 := ⟨by kernel_rfl⟩
instance : TyU Try.prog 6 ((TypeDesc.int IntKind.u8)) := ⟨Try.underlying6⟩
instance : TyI Try.prog 6 1 (.int .u8 0) 1 := ⟨by kernel_rfl⟩
instance : TyU Try.prog 7 ((TypeDesc.struct #[{ name := "x", type := 2, offset := 0, embedded := false, tag := "", pkgPath := "runtime", byteOffset := 0 }, { name := "y", type := 3, offset := 1, embedded := false, tag := "", pkgPath := "runtime", byteOffset := 8 }, { name := "signed", type := 4, offset := 2, embedded := false, tag := "", pkgPath := "runtime", byteOffset := 16 }, { name := "code", type := 6, offset := 3, embedded := false, tag := "", pkgPath := "runtime", byteOffset := 17 }])) := ⟨Try.underlying7⟩
instance : TyI Try.prog 7 4 (.agg #[.int .i64 0, .int .i64 0, .bool false, .int .u8 0]) 24 := ⟨by kernel_rfl⟩
instance : TyU Try.prog 8 ((TypeDesc.struct #[{ name := "x", type := 2, offset := 0, embedded := false, tag := "", pkgPath := "runtime", byteOffset := 0 }, { name := "y", type := 3, offset := 1, embedded := false, tag := "", pkgPath := "runtime", byteOffset := 8 }, { name := "signed", type := 4, offset := 2, embedded := false, tag := "", pkgPath := "runtime", byteOffset := 16 }, { name := "code", type := 6, offset := 3, embedded := false, tag := "", pkgPath := "runtime", byteOffset := 17 }])) := ⟨Try.underlying8⟩
instance : TyI Try.prog 8 4 (.agg #[.int .i64 0, .int .i64 0, .bool false, .int .u8 0]) 24 := ⟨by kernel_rfl⟩
instance : TyU Try.prog 9 (TypeDesc.string) := ⟨Try.underlying9⟩
instance : TyI Try.prog 9 1 (.string ⟨#[]⟩) 16 := ⟨by kernel_rfl⟩
instance : TyU Try.prog 10 (TypeDesc.string) := ⟨Try.underlying10⟩
instance : TyI Try.prog 10 1 (.string ⟨#[]⟩) 16 := ⟨by kernel_rfl⟩
instance : TyU Try.prog 11 (TypeDesc.string) := ⟨Try.underlying11⟩
instance : TyI Try.prog 11 1 (.string ⟨#[]⟩) 16 := ⟨by kernel_rfl⟩
instance : TyU Try.prog 12 ((TypeDesc.int IntKind.u64)) := ⟨Try.underlying12⟩
instance : TyI Try.prog 12 1 (.int .u64 0) 8 := ⟨by kernel_rfl⟩
instance : TyU Try.prog 13 ((TypeDesc.struct #[{ name := "msg", type := 9, offset := 0, embedded := false, tag := "", pkgPath := "runtime", byteOffset := 0 }, { name := "addr", type := 12, offset := 1, embedded := false, tag := "", pkgPath := "runtime", byteOffset := 16 }])) := ⟨Try.underlying13⟩
instance : TyI Try.prog 13 2 (.agg #[.string ⟨#[]⟩, .int .u64 0]) 24 := ⟨by kernel_rfl⟩
instance : TyU Try.prog 14 ((TypeDesc.struct #[{ name := "msg", type := 9, offset := 0, embedded := false, tag := "", pkgPath := "runtime", byteOffset := 0 }, { name := "addr", type := 12, offset := 1, embedded := false, tag := "", pkgPath := "runtime", byteOffset := 16 }])) := ⟨Try.underlying14⟩
instance : TyI Try.prog 14 2 (.agg #[.string ⟨#[]⟩, .int .u64 0]) 24 := ⟨by kernel_rfl⟩
instance : TyU Try.prog 15 ((TypeDesc.pointer 50)) := ⟨Try.underlying15⟩
instance : TyI Try.prog 15 1 (.pointer none) 8 := ⟨by kernel_rfl⟩
instance : TyU Try.prog 16 ((TypeDesc.pointer 53)) := ⟨Try.underlying16⟩
instance : TyI Try.prog 16 1 (.pointer none) 8 := ⟨by kernel_rfl⟩
instance : TyU Try.prog 17 ((TypeDesc.pointer 62)) := ⟨Try.underlying17⟩
instance : TyI Try.prog 17 1 (.pointer none) 8 := ⟨by kernel_rfl⟩
instance : TyU Try.prog 18 ((TypeDesc.struct #[{ name := "typ", type := 17, offset := 0, embedded := false, tag := "", pkgPath := "internal/runtime/maps", byteOffset := 0 }])) := ⟨Try.underlying18⟩
instance : TyI Try.prog 18 1 (.agg #[.pointer none]) 8 := ⟨by kernel_rfl⟩
instance : TyU Try.prog 19 ((TypeDesc.struct #[{ name := "typ", type := 17, offset := 0, embedded := false, tag := "", pkgPath := "internal/runtime/maps", byteOffset := 0 }])) := ⟨Try.underlying19⟩
instance : TyI Try.prog 19 1 (.agg #[.pointer none]) 8 := ⟨by kernel_rfl⟩
instance : TyU Try.prog 20 ((TypeDesc.interface #[])) := ⟨Try.underlying20⟩
instance : TyI Try.prog 20 1 (.nilIface) 16 := ⟨by kernel_rfl⟩
instance : TyU Try.prog 21 ((TypeDesc.int IntKind.i32)) := ⟨Try.underlying21⟩
instance : TyI Try.prog 21 1 (.int .i32 0) 4 := ⟨by kernel_rfl⟩
instance : TyU Try.prog 22 ((TypeDesc.slice 33)) := ⟨Try.underlying22⟩
instance : TyI Try.prog 22 1 (.slice none 0 0) 24 := ⟨by kernel_rfl⟩
instance : TyU Try.prog 23 ((TypeDesc.func #[22] #[4] false)) := ⟨Try.underlying23⟩
instance : TyI Try.prog 23 1 (.nilFunc) 8 := ⟨by kernel_rfl⟩
instance : TyU Try.prog 24 ((TypeDesc.func #[] #[4] false)) := ⟨Try.underlying24⟩
instance : TyI Try.prog 24 1 (.nilFunc) 8 := ⟨by kernel_rfl⟩
instance : TyU Try.prog 25 ((TypeDesc.pointer 45)) := ⟨Try.underlying25⟩
instance : TyI Try.prog 25 1 (.pointer none) 8 := ⟨by kernel_rfl⟩
instance : TyU Try.prog 26 ((TypeDesc.func #[] #[25] false)) := ⟨Try.underlying26⟩
instance : TyI Try.prog 26 1 (.nilFunc) 8 := ⟨by kernel_rfl⟩
instance : TyU Try.prog 27 ((TypeDesc.struct #[{ name := "Text", type := 9, offset := 0, embedded := false, tag := "", pkgPath := "", byteOffset := 0 }, { name := "Synced", type := 3, offset := 1, embedded := false, tag := "", pkgPath := "", byteOffset := 16 }])) := ⟨Try.underlying27⟩
instance : TyI Try.prog 27 2 (.agg #[.string ⟨#[]⟩, .int .i64 0]) 24 := ⟨by kernel_rfl⟩
instance : TyU Try.prog 28 ((TypeDesc.struct #[{ name := "Text", type := 9, offset := 0, embedded := false, tag := "", pkgPath := "", byteOffset := 0 }, { name := "Synced", type := 3, offset := 1, embedded := false, tag := "", pkgPath := "", byteOffset := 16 }])) := ⟨Try.underlying28⟩
instance : TyI Try.prog 28 2 (.agg #[.string ⟨#[]⟩, .int .i64 0]) 24 := ⟨by kernel_rfl⟩
instance : TyU Try.prog 29 ((TypeDesc.tuple #[28, 3])) := ⟨Try.underlying29⟩
instance : TyU Try.prog 30 ((TypeDesc.func #[28, 33] #[28, 3] false)) := ⟨Try.underlying30⟩
instance : TyI Try.prog 30 1 (.nilFunc) 8 := ⟨by kernel_rfl⟩
instance : TyU Try.prog 31 ((TypeDesc.int IntKind.u64)) := ⟨Try.underlying31⟩
instance : TyI Try.prog 31 1 (.int .u64 0) 8 := ⟨by kernel_rfl⟩
instance : TyU Try.prog 32 ((TypeDesc.struct #[{ name := "Kind", type := 3, offset := 0, embedded := false, tag := "", pkgPath := "", byteOffset := 0 }, { name := "Text", type := 9, offset := 1, embedded := false, tag := "", pkgPath := "", byteOffset := 8 }, { name := "Keep", type := 31, offset := 2, embedded := false, tag := "", pkgPath := "", byteOffset := 24 }])) := ⟨Try.underlying32⟩
instance : TyI Try.prog 32 3 (.agg #[.int .i64 0, .string ⟨#[]⟩, .int .u64 0]) 32 := ⟨by kernel_rfl⟩
instance : TyU Try.prog 33 ((TypeDesc.struct #[{ name := "Kind", type := 3, offset := 0, embedded := false, tag := "", pkgPath := "", byteOffset := 0 }, { name := "Text", type := 9, offset := 1, embedded := false, tag := "", pkgPath := "", byteOffset := 8 }, { name := "Keep", type := 31, offset := 2, embedded := false, tag := "", pkgPath := "", byteOffset := 24 }])) := ⟨Try.underlying33⟩
instance : TyI Try.prog 33 3 (.agg #[.int .i64 0, .string ⟨#[]⟩, .int .u64 0]) 32 := ⟨by kernel_rfl⟩
instance : TyU Try.prog 34 ((TypeDesc.int IntKind.i64)) := ⟨Try.underlying34⟩
instance : TyI Try.prog 34 1 (.int .i64 0) 8 := ⟨by kernel_rfl⟩
instance : TyU Try.prog 35 ((TypeDesc.func #[33] #[34] false)) := ⟨Try.underlying35⟩
instance : TyI Try.prog 35 1 (.nilFunc) 8 := ⟨by kernel_rfl⟩
instance : TyU Try.prog 36 ((TypeDesc.func #[] #[9] false)) := ⟨Try.underlying36⟩
instance : TyI Try.prog 36 1 (.nilFunc) 8 := ⟨by kernel_rfl⟩
instance : TyU Try.prog 37 ((TypeDesc.func #[] #[3] false)) := ⟨Try.underlying37⟩
instance : TyI Try.prog 37 1 (.nilFunc) 8 := ⟨by kernel_rfl⟩
instance : TyU Try.prog 38 ((TypeDesc.func #[22, 9, 31] #[4] false)) := ⟨Try.underlying38⟩
instance : TyI Try.prog 38 1 (.nilFunc) 8 := ⟨by kernel_rfl⟩
instance : TyU Try.prog 39 ((TypeDesc.func #[22, 9] #[4] false)) := ⟨Try.underlying39⟩
instance : TyI Try.prog 39 1 (.nilFunc) 8 := ⟨by kernel_rfl⟩
instance : TyU Try.prog 40 ((TypeDesc.int IntKind.u64)) := ⟨Try.underlying40⟩
instance : TyI Try.prog 40 1 (.int .u64 0) 8 := ⟨by kernel_rfl⟩
instance : TyU Try.prog 41 ((TypeDesc.func #[22, 3] #[4] false)) := ⟨Try.underlying41⟩
instance : TyI Try.prog 41 1 (.nilFunc) 8 := ⟨by kernel_rfl⟩
instance : TyU Try.prog 42 ((TypeDesc.func #[33] #[4] false)) := ⟨Try.underlying42⟩
instance : TyI Try.prog 42 1 (.nilFunc) 8 := ⟨by kernel_rfl⟩
instance : TyU Try.prog 43 ((TypeDesc.slice 5)) := ⟨Try.underlying43⟩
instance : TyI Try.prog 43 1 (.slice none 0 0) 24 := ⟨by kernel_rfl⟩
instance : TyU Try.prog 44 ((TypeDesc.struct #[{ name := "b", type := 43, offset := 0, embedded := false, tag := "", pkgPath := "sandglass/disk", byteOffset := 0 }, { name := "synced", type := 3, offset := 1, embedded := false, tag := "", pkgPath := "sandglass/disk", byteOffset := 24 }])) := ⟨Try.underlying44⟩
instance : TyI Try.prog 44 2 (.agg #[.slice none 0 0, .int .i64 0]) 32 := ⟨by kernel_rfl⟩
instance : TyU Try.prog 45 ((TypeDesc.struct #[{ name := "b", type := 43, offset := 0, embedded := false, tag := "", pkgPath := "sandglass/disk", byteOffset := 0 }, { name := "synced", type := 3, offset := 1, embedded := false, tag := "", pkgPath := "sandglass/disk", byteOffset := 24 }])) := ⟨Try.underlying45⟩
instance : TyI Try.prog 45 2 (.agg #[.slice none 0 0, .int .i64 0]) 32 := ⟨by kernel_rfl⟩
instance : TyU Try.prog 46 ((TypeDesc.func #[28, 31] #[28] false)) := ⟨Try.underlying46⟩
instance : TyI Try.prog 46 1 (.nilFunc) 8 := ⟨by kernel_rfl⟩
instance : TyU Try.prog 47 ((TypeDesc.func #[31] #[] false)) := ⟨Try.underlying47⟩
instance : TyI Try.prog 47 1 (.nilFunc) 8 := ⟨by kernel_rfl⟩
instance : TyU Try.prog 48 ((TypeDesc.func #[31, 3] #[4] false)) := ⟨Try.underlying48⟩
instance : TyI Try.prog 48 1 (.nilFunc) 8 := ⟨by kernel_rfl⟩
instance : TyU Try.prog 49 ((TypeDesc.struct #[{ name := "_interface", type := 17, offset := 0, embedded := false, tag := "", pkgPath := "runtime", byteOffset := 0 }, { name := "concrete", type := 17, offset := 1, embedded := false, tag := "", pkgPath := "runtime", byteOffset := 8 }, { name := "asserted", type := 17, offset := 2, embedded := false, tag := "", pkgPath := "runtime", byteOffset := 16 }, { name := "missingMethod", type := 9, offset := 3, embedded := false, tag := "", pkgPath := "runtime", byteOffset := 24 }])) := ⟨Try.underlying49⟩
instance : TyI Try.prog 49 4 (.agg #[.pointer none, .pointer none, .pointer none, .string ⟨#[]⟩]) 40 := ⟨by kernel_rfl⟩
instance : TyU Try.prog 50 ((TypeDesc.struct #[{ name := "_interface", type := 17, offset := 0, embedded := false, tag := "", pkgPath := "runtime", byteOffset := 0 }, { name := "concrete", type := 17, offset := 1, embedded := false, tag := "", pkgPath := "runtime", byteOffset := 8 }, { name := "asserted", type := 17, offset := 2, embedded := false, tag := "", pkgPath := "runtime", byteOffset := 16 }, { name := "missingMethod", type := 9, offset := 3, embedded := false, tag := "", pkgPath := "runtime", byteOffset := 24 }])) := ⟨Try.underlying50⟩
instance : TyI Try.prog 50 4 (.agg #[.pointer none, .pointer none, .pointer none, .string ⟨#[]⟩]) 40 := ⟨by kernel_rfl⟩
instance : TyU Try.prog 51 ((TypeDesc.array 0 16)) := ⟨Try.underlying51⟩
instance : TyI Try.prog 51 0 (.agg #[]) 0 := ⟨by kernel_rfl⟩
instance : TyU Try.prog 52 ((TypeDesc.struct #[{ name := "_", type := 51, offset := 0, embedded := false, tag := "", pkgPath := "runtime", byteOffset := 0 }])) := ⟨Try.underlying52⟩
instance : TyI Try.prog 52 0 (.agg #[]) 0 := ⟨by kernel_rfl⟩
instance : TyU Try.prog 53 ((TypeDesc.struct #[{ name := "_", type := 51, offset := 0, embedded := false, tag := "", pkgPath := "runtime", byteOffset := 0 }])) := ⟨Try.underlying53⟩
instance : TyI Try.prog 53 0 (.agg #[]) 0 := ⟨by kernel_rfl⟩
instance : TyU Try.prog 54 ((TypeDesc.int IntKind.u32)) := ⟨Try.underlying54⟩
instance : TyI Try.prog 54 1 (.int .u32 0) 4 := ⟨by kernel_rfl⟩
instance : TyU Try.prog 55 ((TypeDesc.int IntKind.u8)) := ⟨Try.underlying55⟩
instance : TyI Try.prog 55 1 (.int .u8 0) 1 := ⟨by kernel_rfl⟩
instance : TyU Try.prog 56 ((TypeDesc.int IntKind.u8)) := ⟨Try.underlying56⟩
instance : TyI Try.prog 56 1 (.int .u8 0) 1 := ⟨by kernel_rfl⟩
instance : TyU Try.prog 57 ((TypeDesc.func #[64, 64] #[4] false)) := ⟨Try.underlying57⟩
instance : TyI Try.prog 57 1 (.nilFunc) 8 := ⟨by kernel_rfl⟩
instance : TyU Try.prog 58 ((TypeDesc.pointer 5)) := ⟨Try.underlying58⟩
instance : TyI Try.prog 58 1 (.pointer none) 8 := ⟨by kernel_rfl⟩
instance : TyU Try.prog 59 ((TypeDesc.int IntKind.i32)) := ⟨Try.underlying59⟩
instance : TyI Try.prog 59 1 (.int .i32 0) 4 := ⟨by kernel_rfl⟩
instance : TyU Try.prog 60 ((TypeDesc.int IntKind.i32)) := ⟨Try.underlying60⟩
instance : TyI Try.prog 60 1 (.int .i32 0) 4 := ⟨by kernel_rfl⟩
instance : TyU Try.prog 61 ((TypeDesc.struct #[{ name := "Size_", type := 12, offset := 0, embedded := false, tag := "", pkgPath := "", byteOffset := 0 }, { name := "PtrBytes", type := 12, offset := 1, embedded := false, tag := "", pkgPath := "", byteOffset := 8 }, { name := "Hash", type := 54, offset := 2, embedded := false, tag := "", pkgPath := "", byteOffset := 16 }, { name := "TFlag", type := 55, offset := 3, embedded := false, tag := "", pkgPath := "", byteOffset := 20 }, { name := "Align_", type := 5, offset := 4, embedded := false, tag := "", pkgPath := "", byteOffset := 21 }, { name := "FieldAlign_", type := 5, offset := 5, embedded := false, tag := "", pkgPath := "", byteOffset := 22 }, { name := "Kind_", type := 56, offset := 6, embedded := false, tag := "", pkgPath := "", byteOffset := 23 }, { name := "Equal", type := 57, offset := 7, embedded := false, tag := "", pkgPath := "", byteOffset := 24 }, { name := "GCData", type := 58, offset := 8, embedded := false, tag := "", pkgPath := "", byteOffset := 32 }, { name := "Str", type := 59, offset := 9, embedded := false, tag := "", pkgPath := "", byteOffset := 40 }, { name := "PtrToThis", type := 60, offset := 10, embedded := false, tag := "", pkgPath := "", byteOffset := 44 }])) := ⟨Try.underlying61⟩
instance : TyI Try.prog 61 11 (.agg #[.int .u64 0, .int .u64 0, .int .u32 0, .int .u8 0, .int .u8 0, .int .u8 0, .int .u8 0, .nilFunc, .pointer none, .int .i32 0, .int .i32 0]) 48 := ⟨by kernel_rfl⟩
instance : TyU Try.prog 62 ((TypeDesc.struct #[{ name := "Size_", type := 12, offset := 0, embedded := false, tag := "", pkgPath := "", byteOffset := 0 }, { name := "PtrBytes", type := 12, offset := 1, embedded := false, tag := "", pkgPath := "", byteOffset := 8 }, { name := "Hash", type := 54, offset := 2, embedded := false, tag := "", pkgPath := "", byteOffset := 16 }, { name := "TFlag", type := 55, offset := 3, embedded := false, tag := "", pkgPath := "", byteOffset := 20 }, { name := "Align_", type := 5, offset := 4, embedded := false, tag := "", pkgPath := "", byteOffset := 21 }, { name := "FieldAlign_", type := 5, offset := 5, embedded := false, tag := "", pkgPath := "", byteOffset := 22 }, { name := "Kind_", type := 56, offset := 6, embedded := false, tag := "", pkgPath := "", byteOffset := 23 }, { name := "Equal", type := 57, offset := 7, embedded := false, tag := "", pkgPath := "", byteOffset := 24 }, { name := "GCData", type := 58, offset := 8, embedded := false, tag := "", pkgPath := "", byteOffset := 32 }, { name := "Str", type := 59, offset := 9, embedded := false, tag := "", pkgPath := "", byteOffset := 40 }, { name := "PtrToThis", type := 60, offset := 10, embedded := false, tag := "", pkgPath := "", byteOffset := 44 }])) := ⟨Try.underlying62⟩
instance : TyI Try.prog 62 11 (.agg #[.int .u64 0, .int .u64 0, .int .u32 0, .int .u8 0, .int .u8 0, .int .u8 0, .int .u8 0, .nilFunc, .pointer none, .int .i32 0, .int .i32 0]) 48 := ⟨by kernel_rfl⟩
instance : TyU Try.prog 63 ((TypeDesc.func #[3] #[] false)) := ⟨Try.underlying63⟩
instance : TyI Try.prog 63 1 (.nilFunc) 8 := ⟨by kernel_rfl⟩
instance : TyU Try.prog 64 (TypeDesc.unsafePointer) := ⟨Try.underlying64⟩
instance : TyI Try.prog 64 1 (.pointer none) 8 := ⟨by kernel_rfl⟩
instance : Places Try.prog 7 [(0, 1), (1, 1), (2, 1), (3, 1)] [.int .i64 0, .int .i64 0, .bool false, .int .u8 0] := .of Try.underlying7 inferInstance rfl (fun _ => by kernel_rfl)
instance : FldOff Try.prog 7 0 0 := .of Try.underlying7 (fd := { name := "x", type := 2, offset := 0, embedded := false, tag := "", pkgPath := "runtime", byteOffset := 0 }) rfl inferInstance (by decide)
instance : FldOff Try.prog 7 1 1 := .of Try.underlying7 (fd := { name := "y", type := 3, offset := 1, embedded := false, tag := "", pkgPath := "runtime", byteOffset := 8 }) rfl inferInstance (by decide)
instance : FldOff Try.prog 7 2 2 := .of Try.underlying7 (fd := { name := "signed", type := 4, offset := 2, embedded := false, tag := "", pkgPath := "runtime", byteOffset := 16 }) rfl inferInstance (by decide)
instance : FldOff Try.prog 7 3 3 := .of Try.underlying7 (fd := { name := "code", type := 6, offset := 3, embedded := false, tag := "", pkgPath := "runtime", byteOffset := 17 }) rfl inferInstance (by decide)
instance : Places Try.prog 8 [(0, 1), (1, 1), (2, 1), (3, 1)] [.int .i64 0, .int .i64 0, .bool false, .int .u8 0] := .of Try.underlying8 inferInstance rfl (fun _ => by kernel_rfl)
instance : FldOff Try.prog 8 0 0 := .of Try.underlying8 (fd := { name := "x", type := 2, offset := 0, embedded := false, tag := "", pkgPath := "runtime", byteOffset := 0 }) rfl inferInstance (by decide)
instance : FldOff Try.prog 8 1 1 := .of Try.underlying8 (fd := { name := "y", type := 3, offset := 1, embedded := false, tag := "", pkgPath := "runtime", byteOffset := 8 }) rfl inferInstance (by decide)
instance : FldOff Try.prog 8 2 2 := .of Try.underlying8 (fd := { name := "signed", type := 4, offset := 2, embedded := false, tag := "", pkgPath := "runtime", byteOffset := 16 }) rfl inferInstance (by decide)
instance : FldOff Try.prog 8 3 3 := .of Try.underlying8 (fd := { name := "code", type := 6, offset := 3, embedded := false, tag := "", pkgPath := "runtime", byteOffset := 17 }) rfl inferInstance (by decide)
instance : Places Try.prog 13 [(0, 1), (1, 1)] [.string ⟨#[]⟩, .int .u64 0] := .of Try.underlying13 inferInstance rfl (fun _ => by kernel_rfl)
instance : FldOff Try.prog 13 0 0 := .of Try.underlying13 (fd := { name := "msg", type := 9, offset := 0, embedded := false, tag := "", pkgPath := "runtime", byteOffset := 0 }) rfl inferInstance (by decide)
instance : FldOff Try.prog 13 1 1 := .of Try.underlying13 (fd := { name := "addr", type := 12, offset := 1, embedded := false, tag := "", pkgPath := "runtime", byteOffset := 16 }) rfl inferInstance (by decide)
instance : Places Try.prog 14 [(0, 1), (1, 1)] [.string ⟨#[]⟩, .int .u64 0] := .of Try.underlying14 inferInstance rfl (fun _ => by kernel_rfl)
instance : FldOff Try.prog 14 0 0 := .of Try.underlying14 (fd := { name := "msg", type := 9, offset := 0, embedded := false, tag := "", pkgPath := "runtime", byteOffset := 0 }) rfl inferInstance (by decide)
instance : FldOff Try.prog 14 1 1 := .of Try.underlying14 (fd := { name := "addr", type := 12, offset := 1, embedded := false, tag := "", pkgPath := "runtime", byteOffset := 16 }) rfl inferInstance (by decide)
instance : Places Try.prog 18 [(0, 1)] [.pointer none] := .of Try.underlying18 inferInstance rfl (fun _ => by kernel_rfl)
instance : FldOff Try.prog 18 0 0 := .of Try.underlying18 (fd := { name := "typ", type := 17, offset := 0, embedded := false, tag := "", pkgPath := "internal/runtime/maps", byteOffset := 0 }) rfl inferInstance (by decide)
instance : Places Try.prog 19 [(0, 1)] [.pointer none] := .of Try.underlying19 inferInstance rfl (fun _ => by kernel_rfl)
instance : FldOff Try.prog 19 0 0 := .of Try.underlying19 (fd := { name := "typ", type := 17, offset := 0, embedded := false, tag := "", pkgPath := "internal/runtime/maps", byteOffset := 0 }) rfl inferInstance (by decide)
instance : Places Try.prog 27 [(0, 1), (1, 1)] [.string ⟨#[]⟩, .int .i64 0] := .of Try.underlying27 inferInstance rfl (fun _ => by kernel_rfl)
instance : FldOff Try.prog 27 0 0 := .of Try.underlying27 (fd := { name := "Text", type := 9, offset := 0, embedded := false, tag := "", pkgPath := "", byteOffset := 0 }) rfl inferInstance (by decide)
instance : FldOff Try.prog 27 1 1 := .of Try.underlying27 (fd := { name := "Synced", type := 3, offset := 1, embedded := false, tag := "", pkgPath := "", byteOffset := 16 }) rfl inferInstance (by decide)
instance : Places Try.prog 28 [(0, 1), (1, 1)] [.string ⟨#[]⟩, .int .i64 0] := .of Try.underlying28 inferInstance rfl (fun _ => by kernel_rfl)
instance : FldOff Try.prog 28 0 0 := .of Try.underlying28 (fd := { name := "Text", type := 9, offset := 0, embedded := false, tag := "", pkgPath := "", byteOffset := 0 }) rfl inferInstance (by decide)
instance : FldOff Try.prog 28 1 1 := .of Try.underlying28 (fd := { name := "Synced", type := 3, offset := 1, embedded := false, tag := "", pkgPath := "", byteOffset := 16 }) rfl inferInstance (by decide)
instance : Places Try.prog 32 [(0, 1), (1, 1), (2, 1)] [.int .i64 0, .string ⟨#[]⟩, .int .u64 0] := .of Try.underlying32 inferInstance rfl (fun _ => by kernel_rfl)
instance : FldOff Try.prog 32 0 0 := .of Try.underlying32 (fd := { name := "Kind", type := 3, offset := 0, embedded := false, tag := "", pkgPath := "", byteOffset := 0 }) rfl inferInstance (by decide)
instance : FldOff Try.prog 32 1 1 := .of Try.underlying32 (fd := { name := "Text", type := 9, offset := 1, embedded := false, tag := "", pkgPath := "", byteOffset := 8 }) rfl inferInstance (by decide)
instance : FldOff Try.prog 32 2 2 := .of Try.underlying32 (fd := { name := "Keep", type := 31, offset := 2, embedded := false, tag := "", pkgPath := "", byteOffset := 24 }) rfl inferInstance (by decide)
instance : Places Try.prog 33 [(0, 1), (1, 1), (2, 1)] [.int .i64 0, .string ⟨#[]⟩, .int .u64 0] := .of Try.underlying33 inferInstance rfl (fun _ => by kernel_rfl)
instance : FldOff Try.prog 33 0 0 := .of Try.underlying33 (fd := { name := "Kind", type := 3, offset := 0, embedded := false, tag := "", pkgPath := "", byteOffset := 0 }) rfl inferInstance (by decide)
instance : FldOff Try.prog 33 1 1 := .of Try.underlying33 (fd := { name := "Text", type := 9, offset := 1, embedded := false, tag := "", pkgPath := "", byteOffset := 8 }) rfl inferInstance (by decide)
instance : FldOff Try.prog 33 2 2 := .of Try.underlying33 (fd := { name := "Keep", type := 31, offset := 2, embedded := false, tag := "", pkgPath := "", byteOffset := 24 }) rfl inferInstance (by decide)
instance : Places Try.prog 44 [(0, 1), (1, 1)] [.slice none 0 0, .int .i64 0] := .of Try.underlying44 inferInstance rfl (fun _ => by kernel_rfl)
instance : FldOff Try.prog 44 0 0 := .of Try.underlying44 (fd := { name := "b", type := 43, offset := 0, embedded := false, tag := "", pkgPath := "sandglass/disk", byteOffset := 0 }) rfl inferInstance (by decide)
instance : FldOff Try.prog 44 1 1 := .of Try.underlying44 (fd := { name := "synced", type := 3, offset := 1, embedded := false, tag := "", pkgPath := "sandglass/disk", byteOffset := 24 }) rfl inferInstance (by decide)
instance : Places Try.prog 45 [(0, 1), (1, 1)] [.slice none 0 0, .int .i64 0] := .of Try.underlying45 inferInstance rfl (fun _ => by kernel_rfl)
instance : FldOff Try.prog 45 0 0 := .of Try.underlying45 (fd := { name := "b", type := 43, offset := 0, embedded := false, tag := "", pkgPath := "sandglass/disk", byteOffset := 0 }) rfl inferInstance (by decide)
instance : FldOff Try.prog 45 1 1 := .of Try.underlying45 (fd := { name := "synced", type := 3, offset := 1, embedded := false, tag := "", pkgPath := "sandglass/disk", byteOffset := 24 }) rfl inferInstance (by decide)
instance : Places Try.prog 49 [(0, 1), (1, 1), (2, 1), (3, 1)] [.pointer none, .pointer none, .pointer none, .string ⟨#[]⟩] := .of Try.underlying49 inferInstance rfl (fun _ => by kernel_rfl)
instance : FldOff Try.prog 49 0 0 := .of Try.underlying49 (fd := { name := "_interface", type := 17, offset := 0, embedded := false, tag := "", pkgPath := "runtime", byteOffset := 0 }) rfl inferInstance (by decide)
instance : FldOff Try.prog 49 1 1 := .of Try.underlying49 (fd := { name := "concrete", type := 17, offset := 1, embedded := false, tag := "", pkgPath := "runtime", byteOffset := 8 }) rfl inferInstance (by decide)
instance : FldOff Try.prog 49 2 2 := .of Try.underlying49 (fd := { name := "asserted", type := 17, offset := 2, embedded := false, tag := "", pkgPath := "runtime", byteOffset := 16 }) rfl inferInstance (by decide)
instance : FldOff Try.prog 49 3 3 := .of Try.underlying49 (fd := { name := "missingMethod", type := 9, offset := 3, embedded := false, tag := "", pkgPath := "runtime", byteOffset := 24 }) rfl inferInstance (by decide)
instance : Places Try.prog 50 [(0, 1), (1, 1), (2, 1), (3, 1)] [.pointer none, .pointer none, .pointer none, .string ⟨#[]⟩] := .of Try.underlying50 inferInstance rfl (fun _ => by kernel_rfl)
instance : FldOff Try.prog 50 0 0 := .of Try.underlying50 (fd := { name := "_interface", type := 17, offset := 0, embedded := false, tag := "", pkgPath := "runtime", byteOffset := 0 }) rfl inferInstance (by decide)
instance : FldOff Try.prog 50 1 1 := .of Try.underlying50 (fd := { name := "concrete", type := 17, offset := 1, embedded := false, tag := "", pkgPath := "runtime", byteOffset := 8 }) rfl inferInstance (by decide)
instance : FldOff Try.prog 50 2 2 := .of Try.underlying50 (fd := { name := "asserted", type := 17, offset := 2, embedded := false, tag := "", pkgPath := "runtime", byteOffset := 16 }) rfl inferInstance (by decide)
instance : FldOff Try.prog 50 3 3 := .of Try.underlying50 (fd := { name := "missingMethod", type := 9, offset := 3, embedded := false, tag := "", pkgPath := "runtime", byteOffset := 24 }) rfl inferInstance (by decide)
instance : Places Try.prog 52 [(0, 0)] [] := .of Try.underlying52 inferInstance rfl (fun _ => by kernel_rfl)
instance : Places Try.prog 53 [(0, 0)] [] := .of Try.underlying53 inferInstance rfl (fun _ => by kernel_rfl)
instance : Places Try.prog 61 [(0, 1), (1, 1), (2, 1), (3, 1), (4, 1), (5, 1), (6, 1), (7, 1), (8, 1), (9, 1), (10, 1)] [.int .u64 0, .int .u64 0, .int .u32 0, .int .u8 0, .int .u8 0, .int .u8 0, .int .u8 0, .nilFunc, .pointer none, .int .i32 0, .int .i32 0] := .of Try.underlying61 inferInstance rfl (fun _ => by kernel_rfl)
instance : FldOff Try.prog 61 0 0 := .of Try.underlying61 (fd := { name := "Size_", type := 12, offset := 0, embedded := false, tag := "", pkgPath := "", byteOffset := 0 }) rfl inferInstance (by decide)
instance : FldOff Try.prog 61 1 1 := .of Try.underlying61 (fd := { name := "PtrBytes", type := 12, offset := 1, embedded := false, tag := "", pkgPath := "", byteOffset := 8 }) rfl inferInstance (by decide)
instance : FldOff Try.prog 61 2 2 := .of Try.underlying61 (fd := { name := "Hash", type := 54, offset := 2, embedded := false, tag := "", pkgPath := "", byteOffset := 16 }) rfl inferInstance (by decide)
instance : FldOff Try.prog 61 3 3 := .of Try.underlying61 (fd := { name := "TFlag", type := 55, offset := 3, embedded := false, tag := "", pkgPath := "", byteOffset := 20 }) rfl inferInstance (by decide)
instance : FldOff Try.prog 61 4 4 := .of Try.underlying61 (fd := { name := "Align_", type := 5, offset := 4, embedded := false, tag := "", pkgPath := "", byteOffset := 21 }) rfl inferInstance (by decide)
instance : FldOff Try.prog 61 5 5 := .of Try.underlying61 (fd := { name := "FieldAlign_", type := 5, offset := 5, embedded := false, tag := "", pkgPath := "", byteOffset := 22 }) rfl inferInstance (by decide)
instance : FldOff Try.prog 61 6 6 := .of Try.underlying61 (fd := { name := "Kind_", type := 56, offset := 6, embedded := false, tag := "", pkgPath := "", byteOffset := 23 }) rfl inferInstance (by decide)
instance : FldOff Try.prog 61 7 7 := .of Try.underlying61 (fd := { name := "Equal", type := 57, offset := 7, embedded := false, tag := "", pkgPath := "", byteOffset := 24 }) rfl inferInstance (by decide)
instance : FldOff Try.prog 61 8 8 := .of Try.underlying61 (fd := { name := "GCData", type := 58, offset := 8, embedded := false, tag := "", pkgPath := "", byteOffset := 32 }) rfl inferInstance (by decide)
instance : FldOff Try.prog 61 9 9 := .of Try.underlying61 (fd := { name := "Str", type := 59, offset := 9, embedded := false, tag := "", pkgPath := "", byteOffset := 40 }) rfl inferInstance (by decide)
instance : FldOff Try.prog 61 10 10 := .of Try.underlying61 (fd := { name := "PtrToThis", type := 60, offset := 10, embedded := false, tag := "", pkgPath := "", byteOffset := 44 }) rfl inferInstance (by decide)
instance : Places Try.prog 62 [(0, 1), (1, 1), (2, 1), (3, 1), (4, 1), (5, 1), (6, 1), (7, 1), (8, 1), (9, 1), (10, 1)] [.int .u64 0, .int .u64 0, .int .u32 0, .int .u8 0, .int .u8 0, .int .u8 0, .int .u8 0, .nilFunc, .pointer none, .int .i32 0, .int .i32 0] := .of Try.underlying62 inferInstance rfl (fun _ => by kernel_rfl)
instance : FldOff Try.prog 62 0 0 := .of Try.underlying62 (fd := { name := "Size_", type := 12, offset := 0, embedded := false, tag := "", pkgPath := "", byteOffset := 0 }) rfl inferInstance (by decide)
instance : FldOff Try.prog 62 1 1 := .of Try.underlying62 (fd := { name := "PtrBytes", type := 12, offset := 1, embedded := false, tag := "", pkgPath := "", byteOffset := 8 }) rfl inferInstance (by decide)
instance : FldOff Try.prog 62 2 2 := .of Try.underlying62 (fd := { name := "Hash", type := 54, offset := 2, embedded := false, tag := "", pkgPath := "", byteOffset := 16 }) rfl inferInstance (by decide)
instance : FldOff Try.prog 62 3 3 := .of Try.underlying62 (fd := { name := "TFlag", type := 55, offset := 3, embedded := false, tag := "", pkgPath := "", byteOffset := 20 }) rfl inferInstance (by decide)
instance : FldOff Try.prog 62 4 4 := .of Try.underlying62 (fd := { name := "Align_", type := 5, offset := 4, embedded := false, tag := "", pkgPath := "", byteOffset := 21 }) rfl inferInstance (by decide)
instance : FldOff Try.prog 62 5 5 := .of Try.underlying62 (fd := { name := "FieldAlign_", type := 5, offset := 5, embedded := false, tag := "", pkgPath := "", byteOffset := 22 }) rfl inferInstance (by decide)
instance : FldOff Try.prog 62 6 6 := .of Try.underlying62 (fd := { name := "Kind_", type := 56, offset := 6, embedded := false, tag := "", pkgPath := "", byteOffset := 23 }) rfl inferInstance (by decide)
instance : FldOff Try.prog 62 7 7 := .of Try.underlying62 (fd := { name := "Equal", type := 57, offset := 7, embedded := false, tag := "", pkgPath := "", byteOffset := 24 }) rfl inferInstance (by decide)
instance : FldOff Try.prog 62 8 8 := .of Try.underlying62 (fd := { name := "GCData", type := 58, offset := 8, embedded := false, tag := "", pkgPath := "", byteOffset := 32 }) rfl inferInstance (by decide)
instance : FldOff Try.prog 62 9 9 := .of Try.underlying62 (fd := { name := "Str", type := 59, offset := 9, embedded := false, tag := "", pkgPath := "", byteOffset := 40 }) rfl inferInstance (by decide)
instance : FldOff Try.prog 62 10 10 := .of Try.underlying62 (fd := { name := "PtrToThis", type := 60, offset := 10, embedded := false, tag := "", pkgPath := "", byteOffset := 44 }) rfl inferInstance (by decide)
instance : HasFn Try.prog 3 := ⟨_, Try.func3, by kernel_rfl, by kernel_rfl⟩
instance : HasFn Try.prog 4 := ⟨_, Try.func4, by kernel_rfl, by kernel_rfl⟩
instance : HasFn Try.prog 5 := ⟨_, Try.func5, by kernel_rfl, by kernel_rfl⟩
instance : HasFn Try.prog 6 := ⟨_, Try.func6, by kernel_rfl, by kernel_rfl⟩
instance : HasFn Try.prog 7 := ⟨_, Try.func7, by kernel_rfl, by kernel_rfl⟩
instance : HasFn Try.prog 8 := ⟨_, Try.func8, by kernel_rfl, by kernel_rfl⟩
instance : HasFn Try.prog 9 := ⟨_, Try.func9, by kernel_rfl, by kernel_rfl⟩
instance : HasFn Try.prog 10 := ⟨_, Try.func10, by kernel_rfl, by kernel_rfl⟩
instance : HasFn Try.prog 11 := ⟨_, Try.func11, by kernel_rfl, by kernel_rfl⟩
instance : HasFn Try.prog 12 := ⟨_, Try.func12, by kernel_rfl, by kernel_rfl⟩
instance : HasFn Try.prog 13 := ⟨_, Try.func13, by kernel_rfl, by kernel_rfl⟩
instance : HasFn Try.prog 14 := ⟨_, Try.func14, by kernel_rfl, by kernel_rfl⟩
instance : HasFn Try.prog 15 := ⟨_, Try.func15, by kernel_rfl, by kernel_rfl⟩
instance : HasFn Try.prog 16 := ⟨_, Try.func16, by kernel_rfl, by kernel_rfl⟩
instance : HasFn Try.prog 17 := ⟨_, Try.func17, by kernel_rfl, by kernel_rfl⟩
theorem Try.mixed : Try.prog.follows .mixedOrders = true := by kernel_rfl
end Go.Proofs
