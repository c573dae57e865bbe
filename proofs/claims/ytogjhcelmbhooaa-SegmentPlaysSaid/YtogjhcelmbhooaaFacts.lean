/- Facts on the seat's types and functions, each read off the loaded program. -/
import Derived.KernelRfl
import Derived.Test.YtogjhcelmbhooaaSl8
import Derived.Test.YtogjhcelmbhooaaProg
set_option autoImplicit false
namespace Go.Proofs
open Go.SL
instance : TyU Try.prog 0 ((TypeDesc.tuple #[])) := ⟨Try.underlying0⟩
instance : TyU Try.prog 1 ((TypeDesc.func #[] #[] false)) := ⟨Try.underlying1⟩
instance : TyI Try.prog 1 1 (.nilFunc) 8 := ⟨by kernel_rfl⟩
instance : TyU Try.prog 2 ((TypeDesc.int IntKind.i64)) := ⟨Try.underlying2⟩
instance : TyI Try.prog 2 1 (.int .i64 0) 8 := ⟨by kernel_rfl⟩
instance : TyU Try.prog 3 ((TypeDesc.int IntKind.i64)) := ⟨Try.underlying3⟩
instance : TyI Try.prog 3 1 (.int .i64 0) 8 := ⟨by kernel_rfl⟩
instance : TyU Try.prog 4 (TypeDesc.bool) := ⟨Try.underlying4⟩
instance : TyI Try.prog 4 1 (.bool false) 1 := ⟨by kernel_rfl⟩
instance : TyU Try.prog 5 ((TypeDesc.int IntKind.u8)) := ⟨Try.underlying5⟩
instance : TyI Try.prog 5 1 (.int .u8 0) 1 := ⟨by kernel_rfl⟩
instance : TyU Try.prog 6 ((TypeDesc.int IntKind.u8)) := ⟨Try.underlying6⟩
instance : TyI Try.prog 6 1 (.int .u8 0) 1 := ⟨by kernel_rfl⟩
instance : TyU Try.prog 7 ((TypeDesc.struct #[{ name := "x", type := 2, offset := 0, embedded := false, tag := "", pkgPath := "runtime", byteOffset := 0 }, { name := "y", type := 3, offset := 1, embedded := false, tag := "", pkgPath := "runtime", byteOffset := 8 }, { name := "signed", type := 4, offset := 2, embedded := false, tag := "", pkgPath := "runtime", byteOffset := 16 }, { name := "code", type := 6, offset := 3, embedded := false, tag := "", pkgPath := "runtime", byteOffset := 17 }])) := ⟨Try.underlying7⟩
instance : TyI Try.prog 7 4 (.agg #[.int .i64 0, .int .i64 0, .bool false, .int .u8 0]) 24 := ⟨by kernel_rfl⟩
instance : TyU Try.prog 8 ((TypeDesc.struct #[{ name := "x", type := 2, offset := 0, embedded := false, tag := "", pkgPath := "runtime", byteOffset := 0 }, { name := "y", type := 3, offset := 1, embedded := false, tag := "", pkgPath := "runtime", byteOffset := 8 }, { name := "signed", type := 4, offset := 2, embedded := false, tag := "", pkgPath := "runtime", byteOffset := 16 }, { name := "code", type := 6, offset := 3, embedded := false, tag := "", pkgPath := "runtime", byteOffset := 17 }])) := ⟨Try.underlying8⟩
instance : TyI Try.prog 8 4 (.agg #[.int .i64 0, .int .i64 0, .bool false, .int .u8 0]) 24 := ⟨by kernel_rfl⟩
instance : TyU Try.prog 9 (TypeDesc.string) := ⟨Try.underlying9⟩
instance : TyI Try.prog 9 1 (.string ⟨#[]⟩) 16 := ⟨by kernel_rfl⟩
instance : TyU Try.prog 10 (TypeDesc.string) := ⟨Try.underlying10⟩
instance : TyI Try.prog 10 1 (.string ⟨#[]⟩) 16 := ⟨by kernel_rfl⟩
instance : TyU Try.prog 11 (TypeDesc.string) := ⟨Try.underlying11⟩
instance : TyI Try.prog 11 1 (.string ⟨#[]⟩) 16 := ⟨by kernel_rfl⟩
instance : TyU Try.prog 12 ((TypeDesc.int IntKind.u64)) := ⟨Try.underlying12⟩
instance : TyI Try.prog 12 1 (.int .u64 0) 8 := ⟨by kernel_rfl⟩
instance : TyU Try.prog 13 ((TypeDesc.struct #[{ name := "msg", type := 9, offset := 0, embedded := false, tag := "", pkgPath := "runtime", byteOffset := 0 }, { name := "addr", type := 12, offset := 1, embedded := false, tag := "", pkgPath := "runtime", byteOffset := 16 }])) := ⟨Try.underlying13⟩
instance : TyI Try.prog 13 2 (.agg #[.string ⟨#[]⟩, .int .u64 0]) 24 := ⟨by kernel_rfl⟩
instance : TyU Try.prog 14 ((TypeDesc.struct #[{ name := "msg", type := 9, offset := 0, embedded := false, tag := "", pkgPath := "runtime", byteOffset := 0 }, { name := "addr", type := 12, offset := 1, embedded := false, tag := "", pkgPath := "runtime", byteOffset := 16 }])) := ⟨Try.underlying14⟩
instance : TyI Try.prog 14 2 (.agg #[.string ⟨#[]⟩, .int .u64 0]) 24 := ⟨by kernel_rfl⟩
instance : TyU Try.prog 15 ((TypeDesc.pointer 100)) := ⟨Try.underlying15⟩
instance : TyI Try.prog 15 1 (.pointer none) 8 := ⟨by kernel_rfl⟩
instance : TyU Try.prog 16 ((TypeDesc.pointer 103)) := ⟨Try.underlying16⟩
instance : TyI Try.prog 16 1 (.pointer none) 8 := ⟨by kernel_rfl⟩
instance : TyU Try.prog 17 ((TypeDesc.pointer 111)) := ⟨Try.underlying17⟩
instance : TyI Try.prog 17 1 (.pointer none) 8 := ⟨by kernel_rfl⟩
instance : TyU Try.prog 18 ((TypeDesc.struct #[{ name := "typ", type := 17, offset := 0, embedded := false, tag := "", pkgPath := "internal/runtime/maps", byteOffset := 0 }])) := ⟨Try.underlying18⟩
instance : TyI Try.prog 18 1 (.agg #[.pointer none]) 8 := ⟨by kernel_rfl⟩
instance : TyU Try.prog 19 ((TypeDesc.struct #[{ name := "typ", type := 17, offset := 0, embedded := false, tag := "", pkgPath := "internal/runtime/maps", byteOffset := 0 }])) := ⟨Try.underlying19⟩
instance : TyI Try.prog 19 1 (.agg #[.pointer none]) 8 := ⟨by kernel_rfl⟩
instance : TyU Try.prog 20 ((TypeDesc.interface #[])) := ⟨Try.underlying20⟩
instance : TyI Try.prog 20 1 (.nilIface) 16 := ⟨by kernel_rfl⟩
instance : TyU Try.prog 21 ((TypeDesc.int IntKind.i32)) := ⟨Try.underlying21⟩
instance : TyI Try.prog 21 1 (.int .i32 0) 4 := ⟨by kernel_rfl⟩
instance : TyU Try.prog 22 ((TypeDesc.slice 33)) := ⟨Try.underlying22⟩
instance : TyI Try.prog 22 1 (.slice none 0 0) 24 := ⟨by kernel_rfl⟩
instance : TyU Try.prog 23 ((TypeDesc.func #[22] #[3] false)) := ⟨Try.underlying23⟩
instance : TyI Try.prog 23 1 (.nilFunc) 8 := ⟨by kernel_rfl⟩
instance : TyU Try.prog 24 ((TypeDesc.func #[] #[4] false)) := ⟨Try.underlying24⟩
instance : TyI Try.prog 24 1 (.nilFunc) 8 := ⟨by kernel_rfl⟩
instance : TyU Try.prog 25 ((TypeDesc.pointer 60)) := ⟨Try.underlying25⟩
instance : TyI Try.prog 25 1 (.pointer none) 8 := ⟨by kernel_rfl⟩
instance : TyU Try.prog 26 ((TypeDesc.func #[3] #[25] false)) := ⟨Try.underlying26⟩
instance : TyI Try.prog 26 1 (.nilFunc) 8 := ⟨by kernel_rfl⟩
instance : TyU Try.prog 27 ((TypeDesc.slice 65)) := ⟨Try.underlying27⟩
instance : TyI Try.prog 27 1 (.slice none 0 0) 24 := ⟨by kernel_rfl⟩
instance : TyU Try.prog 28 ((TypeDesc.struct #[{ name := "Size", type := 3, offset := 0, embedded := false, tag := "", pkgPath := "", byteOffset := 0 }, { name := "Sure", type := 3, offset := 1, embedded := false, tag := "", pkgPath := "", byteOffset := 8 }, { name := "L", type := 27, offset := 2, embedded := false, tag := "", pkgPath := "", byteOffset := 16 }])) := ⟨Try.underlying28⟩
instance : TyI Try.prog 28 3 (.agg #[.int .i64 0, .int .i64 0, .slice none 0 0]) 40 := ⟨by kernel_rfl⟩
instance : TyU Try.prog 29 ((TypeDesc.struct #[{ name := "Size", type := 3, offset := 0, embedded := false, tag := "", pkgPath := "", byteOffset := 0 }, { name := "Sure", type := 3, offset := 1, embedded := false, tag := "", pkgPath := "", byteOffset := 8 }, { name := "L", type := 27, offset := 2, embedded := false, tag := "", pkgPath := "", byteOffset := 16 }])) := ⟨Try.underlying29⟩
instance : TyI Try.prog 29 3 (.agg #[.int .i64 0, .int .i64 0, .slice none 0 0]) 40 := ⟨by kernel_rfl⟩
instance : TyU Try.prog 30 ((TypeDesc.func #[3] #[29] false)) := ⟨Try.underlying30⟩
instance : TyI Try.prog 30 1 (.nilFunc) 8 := ⟨by kernel_rfl⟩
instance : TyU Try.prog 31 ((TypeDesc.int IntKind.u64)) := ⟨Try.underlying31⟩
instance : TyI Try.prog 31 1 (.int .u64 0) 8 := ⟨by kernel_rfl⟩
instance : TyU Try.prog 32 ((TypeDesc.struct #[{ name := "Kind", type := 3, offset := 0, embedded := false, tag := "", pkgPath := "", byteOffset := 0 }, { name := "N", type := 3, offset := 1, embedded := false, tag := "", pkgPath := "", byteOffset := 8 }, { name := "Text", type := 9, offset := 2, embedded := false, tag := "", pkgPath := "", byteOffset := 16 }, { name := "Keep", type := 31, offset := 3, embedded := false, tag := "", pkgPath := "", byteOffset := 32 }])) := ⟨Try.underlying32⟩
instance : TyI Try.prog 32 4 (.agg #[.int .i64 0, .int .i64 0, .string ⟨#[]⟩, .int .u64 0]) 40 := ⟨by kernel_rfl⟩
instance : TyU Try.prog 33 ((TypeDesc.struct #[{ name := "Kind", type := 3, offset := 0, embedded := false, tag := "", pkgPath := "", byteOffset := 0 }, { name := "N", type := 3, offset := 1, embedded := false, tag := "", pkgPath := "", byteOffset := 8 }, { name := "Text", type := 9, offset := 2, embedded := false, tag := "", pkgPath := "", byteOffset := 16 }, { name := "Keep", type := 31, offset := 3, embedded := false, tag := "", pkgPath := "", byteOffset := 32 }])) := ⟨Try.underlying33⟩
instance : TyI Try.prog 33 4 (.agg #[.int .i64 0, .int .i64 0, .string ⟨#[]⟩, .int .u64 0]) 40 := ⟨by kernel_rfl⟩
instance : TyU Try.prog 34 ((TypeDesc.tuple #[29, 3, 3])) := ⟨Try.underlying34⟩
instance : TyU Try.prog 35 ((TypeDesc.func #[29, 9] #[29, 3, 3] false)) := ⟨Try.underlying35⟩
instance : TyI Try.prog 35 1 (.nilFunc) 8 := ⟨by kernel_rfl⟩
instance : TyU Try.prog 36 ((TypeDesc.int IntKind.i64)) := ⟨Try.underlying36⟩
instance : TyI Try.prog 36 1 (.int .i64 0) 8 := ⟨by kernel_rfl⟩
instance : TyU Try.prog 37 ((TypeDesc.tuple #[3, 36])) := ⟨Try.underlying37⟩
instance : TyU Try.prog 38 ((TypeDesc.func #[9] #[3, 36] false)) := ⟨Try.underlying38⟩
instance : TyI Try.prog 38 1 (.nilFunc) 8 := ⟨by kernel_rfl⟩
instance : TyU Try.prog 39 ((TypeDesc.func #[29] #[29] false)) := ⟨Try.underlying39⟩
instance : TyI Try.prog 39 1 (.nilFunc) 8 := ⟨by kernel_rfl⟩
instance : TyU Try.prog 40 ((TypeDesc.tuple #[29, 3])) := ⟨Try.underlying40⟩
instance : TyU Try.prog 41 ((TypeDesc.func #[29, 3] #[29, 3] false)) := ⟨Try.underlying41⟩
instance : TyI Try.prog 41 1 (.nilFunc) 8 := ⟨by kernel_rfl⟩
instance : TyU Try.prog 42 ((TypeDesc.func #[3] #[3] false)) := ⟨Try.underlying42⟩
instance : TyI Try.prog 42 1 (.nilFunc) 8 := ⟨by kernel_rfl⟩
instance : TyU Try.prog 43 ((TypeDesc.func #[31] #[] false)) := ⟨Try.underlying43⟩
instance : TyI Try.prog 43 1 (.nilFunc) 8 := ⟨by kernel_rfl⟩
instance : TyU Try.prog 44 ((TypeDesc.func #[29, 31] #[29] false)) := ⟨Try.underlying44⟩
instance : TyI Try.prog 44 1 (.nilFunc) 8 := ⟨by kernel_rfl⟩
instance : TyU Try.prog 45 ((TypeDesc.func #[] #[3] false)) := ⟨Try.underlying45⟩
instance : TyI Try.prog 45 1 (.nilFunc) 8 := ⟨by kernel_rfl⟩
instance : TyU Try.prog 46 ((TypeDesc.func #[29] #[3] false)) := ⟨Try.underlying46⟩
instance : TyI Try.prog 46 1 (.nilFunc) 8 := ⟨by kernel_rfl⟩
instance : TyU Try.prog 47 ((TypeDesc.tuple #[9, 36])) := ⟨Try.underlying47⟩
instance : TyU Try.prog 48 ((TypeDesc.func #[3] #[9, 36] false)) := ⟨Try.underlying48⟩
instance : TyI Try.prog 48 1 (.nilFunc) 8 := ⟨by kernel_rfl⟩
instance : TyU Try.prog 49 ((TypeDesc.tuple #[9, 3])) := ⟨Try.underlying49⟩
instance : TyU Try.prog 50 ((TypeDesc.func #[29, 3] #[9, 3] false)) := ⟨Try.underlying50⟩
instance : TyI Try.prog 50 1 (.nilFunc) 8 := ⟨by kernel_rfl⟩
instance : TyU Try.prog 51 ((TypeDesc.func #[3, 22] #[4] false)) := ⟨Try.underlying51⟩
instance : TyI Try.prog 51 1 (.nilFunc) 8 := ⟨by kernel_rfl⟩
instance : TyU Try.prog 52 ((TypeDesc.slice 9)) := ⟨Try.underlying52⟩
instance : TyI Try.prog 52 1 (.slice none 0 0) 24 := ⟨by kernel_rfl⟩
instance : TyU Try.prog 53 ((TypeDesc.int IntKind.u64)) := ⟨Try.underlying53⟩
instance : TyI Try.prog 53 1 (.int .u64 0) 8 := ⟨by kernel_rfl⟩
instance : TyU Try.prog 54 ((TypeDesc.func #[3, 22, 31] #[4] false)) := ⟨Try.underlying54⟩
instance : TyI Try.prog 54 1 (.nilFunc) 8 := ⟨by kernel_rfl⟩
instance : TyU Try.prog 55 ((TypeDesc.func #[3, 52, 3] #[4] false)) := ⟨Try.underlying55⟩
instance : TyI Try.prog 55 1 (.nilFunc) 8 := ⟨by kernel_rfl⟩
instance : TyU Try.prog 56 ((TypeDesc.func #[9, 3] #[4] false)) := ⟨Try.underlying56⟩
instance : TyI Try.prog 56 1 (.nilFunc) 8 := ⟨by kernel_rfl⟩
instance : TyU Try.prog 57 ((TypeDesc.slice 5)) := ⟨Try.underlying57⟩
instance : TyI Try.prog 57 1 (.slice none 0 0) 24 := ⟨by kernel_rfl⟩
instance : TyU Try.prog 58 ((TypeDesc.slice 73)) := ⟨Try.underlying58⟩
instance : TyI Try.prog 58 1 (.slice none 0 0) 24 := ⟨by kernel_rfl⟩
instance : TyU Try.prog 59 ((TypeDesc.struct #[{ name := "size", type := 3, offset := 0, embedded := false, tag := "", pkgPath := "sandglass/segment", byteOffset := 0 }, { name := "sure", type := 3, offset := 1, embedded := false, tag := "", pkgPath := "sandglass/segment", byteOffset := 8 }, { name := "files", type := 58, offset := 2, embedded := false, tag := "", pkgPath := "sandglass/segment", byteOffset := 16 }])) := ⟨Try.underlying59⟩
instance : TyI Try.prog 59 3 (.agg #[.int .i64 0, .int .i64 0, .slice none 0 0]) 40 := ⟨by kernel_rfl⟩
instance : TyU Try.prog 60 ((TypeDesc.struct #[{ name := "size", type := 3, offset := 0, embedded := false, tag := "", pkgPath := "sandglass/segment", byteOffset := 0 }, { name := "sure", type := 3, offset := 1, embedded := false, tag := "", pkgPath := "sandglass/segment", byteOffset := 8 }, { name := "files", type := 58, offset := 2, embedded := false, tag := "", pkgPath := "sandglass/segment", byteOffset := 16 }])) := ⟨Try.underlying60⟩
instance : TyI Try.prog 60 3 (.agg #[.int .i64 0, .int .i64 0, .slice none 0 0]) 40 := ⟨by kernel_rfl⟩
instance : TyU Try.prog 61 ((TypeDesc.func #[9] #[9, 3] false)) := ⟨Try.underlying61⟩
instance : TyI Try.prog 61 1 (.nilFunc) 8 := ⟨by kernel_rfl⟩
instance : TyU Try.prog 62 ((TypeDesc.struct #[{ name := "Text", type := 9, offset := 0, embedded := false, tag := "", pkgPath := "", byteOffset := 0 }, { name := "Synced", type := 3, offset := 1, embedded := false, tag := "", pkgPath := "", byteOffset := 16 }])) := ⟨Try.underlying62⟩
instance : TyI Try.prog 62 2 (.agg #[.string ⟨#[]⟩, .int .i64 0]) 24 := ⟨by kernel_rfl⟩
instance : TyU Try.prog 63 ((TypeDesc.struct #[{ name := "Text", type := 9, offset := 0, embedded := false, tag := "", pkgPath := "", byteOffset := 0 }, { name := "Synced", type := 3, offset := 1, embedded := false, tag := "", pkgPath := "", byteOffset := 16 }])) := ⟨Try.underlying63⟩
instance : TyI Try.prog 63 2 (.agg #[.string ⟨#[]⟩, .int .i64 0]) 24 := ⟨by kernel_rfl⟩
instance : TyU Try.prog 64 ((TypeDesc.struct #[{ name := "First", type := 3, offset := 0, embedded := false, tag := "", pkgPath := "", byteOffset := 0 }, { name := "D", type := 63, offset := 1, embedded := false, tag := "", pkgPath := "", byteOffset := 8 }, { name := "L", type := 52, offset := 3, embedded := false, tag := "", pkgPath := "", byteOffset := 32 }])) := ⟨Try.underlying64⟩
instance : TyI Try.prog 64 4 (.agg #[.int .i64 0, .string ⟨#[]⟩, .int .i64 0, .slice none 0 0]) 56 := ⟨by kernel_rfl⟩
instance : TyU Try.prog 65 ((TypeDesc.struct #[{ name := "First", type := 3, offset := 0, embedded := false, tag := "", pkgPath := "", byteOffset := 0 }, { name := "D", type := 63, offset := 1, embedded := false, tag := "", pkgPath := "", byteOffset := 8 }, { name := "L", type := 52, offset := 3, embedded := false, tag := "", pkgPath := "", byteOffset := 32 }])) := ⟨Try.underlying65⟩
instance : TyI Try.prog 65 4 (.agg #[.int .i64 0, .string ⟨#[]⟩, .int .i64 0, .slice none 0 0]) 56 := ⟨by kernel_rfl⟩
instance : TyU Try.prog 66 ((TypeDesc.tuple #[63, 3])) := ⟨Try.underlying66⟩
instance : TyU Try.prog 67 ((TypeDesc.func #[63, 69] #[63, 3] false)) := ⟨Try.underlying67⟩
instance : TyI Try.prog 67 1 (.nilFunc) 8 := ⟨by kernel_rfl⟩
instance : TyU Try.prog 68 ((TypeDesc.struct #[{ name := "Kind", type := 3, offset := 0, embedded := false, tag := "", pkgPath := "", byteOffset := 0 }, { name := "Text", type := 9, offset := 1, embedded := false, tag := "", pkgPath := "", byteOffset := 8 }, { name := "Keep", type := 31, offset := 2, embedded := false, tag := "", pkgPath := "", byteOffset := 24 }])) := ⟨Try.underlying68⟩
instance : TyI Try.prog 68 3 (.agg #[.int .i64 0, .string ⟨#[]⟩, .int .u64 0]) 32 := ⟨by kernel_rfl⟩
instance : TyU Try.prog 69 ((TypeDesc.struct #[{ name := "Kind", type := 3, offset := 0, embedded := false, tag := "", pkgPath := "", byteOffset := 0 }, { name := "Text", type := 9, offset := 1, embedded := false, tag := "", pkgPath := "", byteOffset := 8 }, { name := "Keep", type := 31, offset := 2, embedded := false, tag := "", pkgPath := "", byteOffset := 24 }])) := ⟨Try.underlying69⟩
instance : TyI Try.prog 69 3 (.agg #[.int .i64 0, .string ⟨#[]⟩, .int .u64 0]) 32 := ⟨by kernel_rfl⟩
instance : TyU Try.prog 70 ((TypeDesc.func #[29, 65] #[29] false)) := ⟨Try.underlying70⟩
instance : TyI Try.prog 70 1 (.nilFunc) 8 := ⟨by kernel_rfl⟩
instance : TyU Try.prog 71 ((TypeDesc.func #[9] #[9, 36] false)) := ⟨Try.underlying71⟩
instance : TyI Try.prog 71 1 (.nilFunc) 8 := ⟨by kernel_rfl⟩
instance : TyU Try.prog 72 ((TypeDesc.func #[3] #[4] false)) := ⟨Try.underlying72⟩
instance : TyI Try.prog 72 1 (.nilFunc) 8 := ⟨by kernel_rfl⟩
instance : TyU Try.prog 73 ((TypeDesc.pointer 78)) := ⟨Try.underlying73⟩
instance : TyI Try.prog 73 1 (.pointer none) 8 := ⟨by kernel_rfl⟩
instance : TyU Try.prog 74 ((TypeDesc.pointer 92)) := ⟨Try.underlying74⟩
instance : TyI Try.prog 74 1 (.pointer none) 8 := ⟨by kernel_rfl⟩
instance : TyU Try.prog 75 ((TypeDesc.func #[] #[74] false)) := ⟨Try.underlying75⟩
instance : TyI Try.prog 75 1 (.nilFunc) 8 := ⟨by kernel_rfl⟩
instance : TyU Try.prog 76 ((TypeDesc.slice 3)) := ⟨Try.underlying76⟩
instance : TyI Try.prog 76 1 (.slice none 0 0) 24 := ⟨by kernel_rfl⟩
instance : TyU Try.prog 77 ((TypeDesc.struct #[{ name := "first", type := 3, offset := 0, embedded := false, tag := "", pkgPath := "sandglass/segment", byteOffset := 0 }, { name := "ends", type := 76, offset := 1, embedded := false, tag := "", pkgPath := "sandglass/segment", byteOffset := 8 }, { name := "disk", type := 74, offset := 2, embedded := false, tag := "", pkgPath := "sandglass/segment", byteOffset := 32 }])) := ⟨Try.underlying77⟩
instance : TyI Try.prog 77 3 (.agg #[.int .i64 0, .slice none 0 0, .pointer none]) 40 := ⟨by kernel_rfl⟩
instance : TyU Try.prog 78 ((TypeDesc.struct #[{ name := "first", type := 3, offset := 0, embedded := false, tag := "", pkgPath := "sandglass/segment", byteOffset := 0 }, { name := "ends", type := 76, offset := 1, embedded := false, tag := "", pkgPath := "sandglass/segment", byteOffset := 8 }, { name := "disk", type := 74, offset := 2, embedded := false, tag := "", pkgPath := "sandglass/segment", byteOffset := 32 }])) := ⟨Try.underlying78⟩
instance : TyI Try.prog 78 3 (.agg #[.int .i64 0, .slice none 0 0, .pointer none]) 40 := ⟨by kernel_rfl⟩
instance : TyU Try.prog 79 ((TypeDesc.func #[] #[73] false)) := ⟨Try.underlying79⟩
instance : TyI Try.prog 79 1 (.nilFunc) 8 := ⟨by kernel_rfl⟩
instance : TyU Try.prog 80 ((TypeDesc.func #[69] #[36] false)) := ⟨Try.underlying80⟩
instance : TyI Try.prog 80 1 (.nilFunc) 8 := ⟨by kernel_rfl⟩
instance : TyU Try.prog 81 ((TypeDesc.func #[] #[9] false)) := ⟨Try.underlying81⟩
instance : TyI Try.prog 81 1 (.nilFunc) 8 := ⟨by kernel_rfl⟩
instance : TyU Try.prog 82 ((TypeDesc.func #[58, 3, 3] #[58] false)) := ⟨Try.underlying82⟩
instance : TyI Try.prog 82 1 (.nilFunc) 8 := ⟨by kernel_rfl⟩
instance : TyU Try.prog 83 ((TypeDesc.tuple #[52, 3])) := ⟨Try.underlying83⟩
instance : TyU Try.prog 84 ((TypeDesc.func #[9] #[52, 3] false)) := ⟨Try.underlying84⟩
instance : TyI Try.prog 84 1 (.nilFunc) 8 := ⟨by kernel_rfl⟩
instance : TyU Try.prog 85 ((TypeDesc.func #[3] #[9] false)) := ⟨Try.underlying85⟩
instance : TyI Try.prog 85 1 (.nilFunc) 8 := ⟨by kernel_rfl⟩
instance : TyU Try.prog 86 ((TypeDesc.func #[87] #[9] false)) := ⟨Try.underlying86⟩
instance : TyI Try.prog 86 1 (.nilFunc) 8 := ⟨by kernel_rfl⟩
instance : TyU Try.prog 87 ((TypeDesc.int IntKind.u32)) := ⟨Try.underlying87⟩
instance : TyI Try.prog 87 1 (.int .u32 0) 4 := ⟨by kernel_rfl⟩
instance : TyU Try.prog 88 ((TypeDesc.func #[9] #[87] false)) := ⟨Try.underlying88⟩
instance : TyI Try.prog 88 1 (.nilFunc) 8 := ⟨by kernel_rfl⟩
instance : TyU Try.prog 89 ((TypeDesc.func #[63, 31] #[63] false)) := ⟨Try.underlying89⟩
instance : TyI Try.prog 89 1 (.nilFunc) 8 := ⟨by kernel_rfl⟩
instance : TyU Try.prog 90 ((TypeDesc.func #[87, 9] #[87] false)) := ⟨Try.underlying90⟩
instance : TyI Try.prog 90 1 (.nilFunc) 8 := ⟨by kernel_rfl⟩
instance : TyU Try.prog 91 ((TypeDesc.struct #[{ name := "b", type := 57, offset := 0, embedded := false, tag := "", pkgPath := "sandglass/disk", byteOffset := 0 }, { name := "synced", type := 3, offset := 1, embedded := false, tag := "", pkgPath := "sandglass/disk", byteOffset := 24 }])) := ⟨Try.underlying91⟩
instance : TyI Try.prog 91 2 (.agg #[.slice none 0 0, .int .i64 0]) 32 := ⟨by kernel_rfl⟩
instance : TyU Try.prog 92 ((TypeDesc.struct #[{ name := "b", type := 57, offset := 0, embedded := false, tag := "", pkgPath := "sandglass/disk", byteOffset := 0 }, { name := "synced", type := 3, offset := 1, embedded := false, tag := "", pkgPath := "sandglass/disk", byteOffset := 24 }])) := ⟨Try.underlying92⟩
instance : TyI Try.prog 92 2 (.agg #[.slice none 0 0, .int .i64 0]) 32 := ⟨by kernel_rfl⟩
instance : TyU Try.prog 93 ((TypeDesc.func #[3] #[] false)) := ⟨Try.underlying93⟩
instance : TyI Try.prog 93 1 (.nilFunc) 8 := ⟨by kernel_rfl⟩
instance : TyU Try.prog 94 ((TypeDesc.tuple #[9, 3, 3])) := ⟨Try.underlying94⟩
instance : TyU Try.prog 95 ((TypeDesc.func #[9] #[9, 3, 3] false)) := ⟨Try.underlying95⟩
instance : TyI Try.prog 95 1 (.nilFunc) 8 := ⟨by kernel_rfl⟩
instance : TyU Try.prog 96 ((TypeDesc.tuple #[9, 3, 36])) := ⟨Try.underlying96⟩
instance : TyU Try.prog 97 ((TypeDesc.func #[9] #[9, 3, 36] false)) := ⟨Try.underlying97⟩
instance : TyI Try.prog 97 1 (.nilFunc) 8 := ⟨by kernel_rfl⟩
instance : TyU Try.prog 98 ((TypeDesc.func #[31, 3] #[4] false)) := ⟨Try.underlying98⟩
instance : TyI Try.prog 98 1 (.nilFunc) 8 := ⟨by kernel_rfl⟩
instance : TyU Try.prog 99 ((TypeDesc.struct #[{ name := "_interface", type := 17, offset := 0, embedded := false, tag := "", pkgPath := "runtime", byteOffset := 0 }, { name := "concrete", type := 17, offset := 1, embedded := false, tag := "", pkgPath := "runtime", byteOffset := 8 }, { name := "asserted", type := 17, offset := 2, embedded := false, tag := "", pkgPath := "runtime", byteOffset := 16 }, { name := "missingMethod", type := 9, offset := 3, embedded := false, tag := "", pkgPath := "runtime", byteOffset := 24 }])) := ⟨Try.underlying99⟩
instance : TyI Try.prog 99 4 (.agg #[.pointer none, .pointer none, .pointer none, .string ⟨#[]⟩]) 40 := ⟨by kernel_rfl⟩
instance : TyU Try.prog 100 ((TypeDesc.struct #[{ name := "_interface", type := 17, offset := 0, embedded := false, tag := "", pkgPath := "runtime", byteOffset := 0 }, { name := "concrete", type := 17, offset := 1, embedded := false, tag := "", pkgPath := "runtime", byteOffset := 8 }, { name := "asserted", type := 17, offset := 2, embedded := false, tag := "", pkgPath := "runtime", byteOffset := 16 }, { name := "missingMethod", type := 9, offset := 3, embedded := false, tag := "", pkgPath := "runtime", byteOffset := 24 }])) := ⟨Try.underlying100⟩
instance : TyI Try.prog 100 4 (.agg #[.pointer none, .pointer none, .pointer none, .string ⟨#[]⟩]) 40 := ⟨by kernel_rfl⟩
instance : TyU Try.prog 101 ((TypeDesc.array 0 16)) := ⟨Try.underlying101⟩
instance : TyI Try.prog 101 0 (.agg #[]) 0 := ⟨by kernel_rfl⟩
instance : TyU Try.prog 102 ((TypeDesc.struct #[{ name := "_", type := 101, offset := 0, embedded := false, tag := "", pkgPath := "runtime", byteOffset := 0 }])) := ⟨Try.underlying102⟩
instance : TyI Try.prog 102 0 (.agg #[]) 0 := ⟨by kernel_rfl⟩
instance : TyU Try.prog 103 ((TypeDesc.struct #[{ name := "_", type := 101, offset := 0, embedded := false, tag := "", pkgPath := "runtime", byteOffset := 0 }])) := ⟨Try.underlying103⟩
instance : TyI Try.prog 103 0 (.agg #[]) 0 := ⟨by kernel_rfl⟩
instance : TyU Try.prog 104 ((TypeDesc.int IntKind.u8)) := ⟨Try.underlying104⟩
instance : TyI Try.prog 104 1 (.int .u8 0) 1 := ⟨by kernel_rfl⟩
instance : TyU Try.prog 105 ((TypeDesc.int IntKind.u8)) := ⟨Try.underlying105⟩
instance : TyI Try.prog 105 1 (.int .u8 0) 1 := ⟨by kernel_rfl⟩
instance : TyU Try.prog 106 ((TypeDesc.func #[112, 112] #[4] false)) := ⟨Try.underlying106⟩
instance : TyI Try.prog 106 1 (.nilFunc) 8 := ⟨by kernel_rfl⟩
instance : TyU Try.prog 107 ((TypeDesc.pointer 5)) := ⟨Try.underlying107⟩
instance : TyI Try.prog 107 1 (.pointer none) 8 := ⟨by kernel_rfl⟩
instance : TyU Try.prog 108 ((TypeDesc.int IntKind.i32)) := ⟨Try.underlying108⟩
instance : TyI Try.prog 108 1 (.int .i32 0) 4 := ⟨by kernel_rfl⟩
instance : TyU Try.prog 109 ((TypeDesc.int IntKind.i32)) := ⟨Try.underlying109⟩
instance : TyI Try.prog 109 1 (.int .i32 0) 4 := ⟨by kernel_rfl⟩
instance : TyU Try.prog 110 ((TypeDesc.struct #[{ name := "Size_", type := 12, offset := 0, embedded := false, tag := "", pkgPath := "", byteOffset := 0 }, { name := "PtrBytes", type := 12, offset := 1, embedded := false, tag := "", pkgPath := "", byteOffset := 8 }, { name := "Hash", type := 87, offset := 2, embedded := false, tag := "", pkgPath := "", byteOffset := 16 }, { name := "TFlag", type := 104, offset := 3, embedded := false, tag := "", pkgPath := "", byteOffset := 20 }, { name := "Align_", type := 5, offset := 4, embedded := false, tag := "", pkgPath := "", byteOffset := 21 }, { name := "FieldAlign_", type := 5, offset := 5, embedded := false, tag := "", pkgPath := "", byteOffset := 22 }, { name := "Kind_", type := 105, offset := 6, embedded := false, tag := "", pkgPath := "", byteOffset := 23 }, { name := "Equal", type := 106, offset := 7, embedded := false, tag := "", pkgPath := "", byteOffset := 24 }, { name := "GCData", type := 107, offset := 8, embedded := false, tag := "", pkgPath := "", byteOffset := 32 }, { name := "Str", type := 108, offset := 9, embedded := false, tag := "", pkgPath := "", byteOffset := 40 }, { name := "PtrToThis", type := 109, offset := 10, embedded := false, tag := "", pkgPath := "", byteOffset := 44 }])) := ⟨Try.underlying110⟩
instance : TyI Try.prog 110 11 (.agg #[.int .u64 0, .int .u64 0, .int .u32 0, .int .u8 0, .int .u8 0, .int .u8 0, .int .u8 0, .nilFunc, .pointer none, .int .i32 0, .int .i32 0]) 48 := ⟨by kernel_rfl⟩
instance : TyU Try.prog 111 ((TypeDesc.struct #[{ name := "Size_", type := 12, offset := 0, embedded := false, tag := "", pkgPath := "", byteOffset := 0 }, { name := "PtrBytes", type := 12, offset := 1, embedded := false, tag := "", pkgPath := "", byteOffset := 8 }, { name := "Hash", type := 87, offset := 2, embedded := false, tag := "", pkgPath := "", byteOffset := 16 }, { name := "TFlag", type := 104, offset := 3, embedded := false, tag := "", pkgPath := "", byteOffset := 20 }, { name := "Align_", type := 5, offset := 4, embedded := false, tag := "", pkgPath := "", byteOffset := 21 }, { name := "FieldAlign_", type := 5, offset := 5, embedded := false, tag := "", pkgPath := "", byteOffset := 22 }, { name := "Kind_", type := 105, offset := 6, embedded := false, tag := "", pkgPath := "", byteOffset := 23 }, { name := "Equal", type := 106, offset := 7, embedded := false, tag := "", pkgPath := "", byteOffset := 24 }, { name := "GCData", type := 107, offset := 8, embedded := false, tag := "", pkgPath := "", byteOffset := 32 }, { name := "Str", type := 108, offset := 9, embedded := false, tag := "", pkgPath := "", byteOffset := 40 }, { name := "PtrToThis", type := 109, offset := 10, embedded := false, tag := "", pkgPath := "", byteOffset := 44 }])) := ⟨Try.underlying111⟩
instance : TyI Try.prog 111 11 (.agg #[.int .u64 0, .int .u64 0, .int .u32 0, .int .u8 0, .int .u8 0, .int .u8 0, .int .u8 0, .nilFunc, .pointer none, .int .i32 0, .int .i32 0]) 48 := ⟨by kernel_rfl⟩
instance : TyU Try.prog 112 (TypeDesc.unsafePointer) := ⟨Try.underlying112⟩
instance : TyI Try.prog 112 1 (.pointer none) 8 := ⟨by kernel_rfl⟩
instance : Places Try.prog 7 [(0, 1), (1, 1), (2, 1), (3, 1)] [.int .i64 0, .int .i64 0, .bool false, .int .u8 0] := .of Try.underlying7 inferInstance rfl (fun _ => by kernel_rfl)
instance : FldOff Try.prog 7 0 0 := .of Try.underlying7 (fd := { name := "x", type := 2, offset := 0, embedded := false, tag := "", pkgPath := "runtime", byteOffset := 0 }) rfl inferInstance (by decide)
instance : FldOff Try.prog 7 1 1 := .of Try.underlying7 (fd := { name := "y", type := 3, offset := 1, embedded := false, tag := "", pkgPath := "runtime", byteOffset := 8 }) rfl inferInstance (by decide)
instance : FldOff Try.prog 7 2 2 := .of Try.underlying7 (fd := { name := "signed", type := 4, offset := 2, embedded := false, tag := "", pkgPath := "runtime", byteOffset := 16 }) rfl inferInstance (by decide)
instance : FldOff Try.prog 7 3 3 := .of Try.underlying7 (fd := { name := "code", type := 6, offset := 3, embedded := false, tag := "", pkgPath := "runtime", byteOffset := 17 }) rfl inferInstance (by decide)
instance : Places Try.prog 8 [(0, 1), (1, 1), (2, 1), (3, 1)] [.int .i64 0, .int .i64 0, .bool false, .int .u8 0] := .of Try.underlying8 inferInstance rfl (fun _ => by kernel_rfl)
instance : FldOff Try.prog 8 0 0 := .of Try.underlying8 (fd := { name := "x", type := 2, offset := 0, embedded := false, tag := "", pkgPath := "runtime", byteOffset := 0 }) rfl inferInstance (by decide)
instance : FldOff Try.prog 8 1 1 := .of Try.underlying8 (fd := { name := "y", type := 3, offset := 1, embedded := false, tag := "", pkgPath := "runtime", byteOffset := 8 }) rfl inferInstance (by decide)
instance : FldOff Try.prog 8 2 2 := .of Try.underlying8 (fd := { name := "signed", type := 4, offset := 2, embedded := false, tag := "", pkgPath := "runtime", byteOffset := 16 }) rfl inferInstance (by decide)
instance : FldOff Try.prog 8 3 3 := .of Try.underlying8 (fd := { name := "code", type := 6, offset := 3, embedded := false, tag := "", pkgPath := "runtime", byteOffset := 17 }) rfl inferInstance (by decide)
instance : Places Try.prog 13 [(0, 1), (1, 1)] [.string ⟨#[]⟩, .int .u64 0] := .of Try.underlying13 inferInstance rfl (fun _ => by kernel_rfl)
instance : FldOff Try.prog 13 0 0 := .of Try.underlying13 (fd := { name := "msg", type := 9, offset := 0, embedded := false, tag := "", pkgPath := "runtime", byteOffset := 0 }) rfl inferInstance (by decide)
instance : FldOff Try.prog 13 1 1 := .of Try.underlying13 (fd := { name := "addr", type := 12, offset := 1, embedded := false, tag := "", pkgPath := "runtime", byteOffset := 16 }) rfl inferInstance (by decide)
instance : Places Try.prog 14 [(0, 1), (1, 1)] [.string ⟨#[]⟩, .int .u64 0] := .of Try.underlying14 inferInstance rfl (fun _ => by kernel_rfl)
instance : FldOff Try.prog 14 0 0 := .of Try.underlying14 (fd := { name := "msg", type := 9, offset := 0, embedded := false, tag := "", pkgPath := "runtime", byteOffset := 0 }) rfl inferInstance (by decide)
instance : FldOff Try.prog 14 1 1 := .of Try.underlying14 (fd := { name := "addr", type := 12, offset := 1, embedded := false, tag := "", pkgPath := "runtime", byteOffset := 16 }) rfl inferInstance (by decide)
instance : Places Try.prog 18 [(0, 1)] [.pointer none] := .of Try.underlying18 inferInstance rfl (fun _ => by kernel_rfl)
instance : FldOff Try.prog 18 0 0 := .of Try.underlying18 (fd := { name := "typ", type := 17, offset := 0, embedded := false, tag := "", pkgPath := "internal/runtime/maps", byteOffset := 0 }) rfl inferInstance (by decide)
instance : Places Try.prog 19 [(0, 1)] [.pointer none] := .of Try.underlying19 inferInstance rfl (fun _ => by kernel_rfl)
instance : FldOff Try.prog 19 0 0 := .of Try.underlying19 (fd := { name := "typ", type := 17, offset := 0, embedded := false, tag := "", pkgPath := "internal/runtime/maps", byteOffset := 0 }) rfl inferInstance (by decide)
instance : Places Try.prog 28 [(0, 1), (1, 1), (2, 1)] [.int .i64 0, .int .i64 0, .slice none 0 0] := .of Try.underlying28 inferInstance rfl (fun _ => by kernel_rfl)
instance : FldOff Try.prog 28 0 0 := .of Try.underlying28 (fd := { name := "Size", type := 3, offset := 0, embedded := false, tag := "", pkgPath := "", byteOffset := 0 }) rfl inferInstance (by decide)
instance : FldOff Try.prog 28 1 1 := .of Try.underlying28 (fd := { name := "Sure", type := 3, offset := 1, embedded := false, tag := "", pkgPath := "", byteOffset := 8 }) rfl inferInstance (by decide)
instance : FldOff Try.prog 28 2 2 := .of Try.underlying28 (fd := { name := "L", type := 27, offset := 2, embedded := false, tag := "", pkgPath := "", byteOffset := 16 }) rfl inferInstance (by decide)
instance : Places Try.prog 29 [(0, 1), (1, 1), (2, 1)] [.int .i64 0, .int .i64 0, .slice none 0 0] := .of Try.underlying29 inferInstance rfl (fun _ => by kernel_rfl)
instance : FldOff Try.prog 29 0 0 := .of Try.underlying29 (fd := { name := "Size", type := 3, offset := 0, embedded := false, tag := "", pkgPath := "", byteOffset := 0 }) rfl inferInstance (by decide)
instance : FldOff Try.prog 29 1 1 := .of Try.underlying29 (fd := { name := "Sure", type := 3, offset := 1, embedded := false, tag := "", pkgPath := "", byteOffset := 8 }) rfl inferInstance (by decide)
instance : FldOff Try.prog 29 2 2 := .of Try.underlying29 (fd := { name := "L", type := 27, offset := 2, embedded := false, tag := "", pkgPath := "", byteOffset := 16 }) rfl inferInstance (by decide)
instance : Places Try.prog 32 [(0, 1), (1, 1), (2, 1), (3, 1)] [.int .i64 0, .int .i64 0, .string ⟨#[]⟩, .int .u64 0] := .of Try.underlying32 inferInstance rfl (fun _ => by kernel_rfl)
instance : FldOff Try.prog 32 0 0 := .of Try.underlying32 (fd := { name := "Kind", type := 3, offset := 0, embedded := false, tag := "", pkgPath := "", byteOffset := 0 }) rfl inferInstance (by decide)
instance : FldOff Try.prog 32 1 1 := .of Try.underlying32 (fd := { name := "N", type := 3, offset := 1, embedded := false, tag := "", pkgPath := "", byteOffset := 8 }) rfl inferInstance (by decide)
instance : FldOff Try.prog 32 2 2 := .of Try.underlying32 (fd := { name := "Text", type := 9, offset := 2, embedded := false, tag := "", pkgPath := "", byteOffset := 16 }) rfl inferInstance (by decide)
instance : FldOff Try.prog 32 3 3 := .of Try.underlying32 (fd := { name := "Keep", type := 31, offset := 3, embedded := false, tag := "", pkgPath := "", byteOffset := 32 }) rfl inferInstance (by decide)
instance : Places Try.prog 33 [(0, 1), (1, 1), (2, 1), (3, 1)] [.int .i64 0, .int .i64 0, .string ⟨#[]⟩, .int .u64 0] := .of Try.underlying33 inferInstance rfl (fun _ => by kernel_rfl)
instance : FldOff Try.prog 33 0 0 := .of Try.underlying33 (fd := { name := "Kind", type := 3, offset := 0, embedded := false, tag := "", pkgPath := "", byteOffset := 0 }) rfl inferInstance (by decide)
instance : FldOff Try.prog 33 1 1 := .of Try.underlying33 (fd := { name := "N", type := 3, offset := 1, embedded := false, tag := "", pkgPath := "", byteOffset := 8 }) rfl inferInstance (by decide)
instance : FldOff Try.prog 33 2 2 := .of Try.underlying33 (fd := { name := "Text", type := 9, offset := 2, embedded := false, tag := "", pkgPath := "", byteOffset := 16 }) rfl inferInstance (by decide)
instance : FldOff Try.prog 33 3 3 := .of Try.underlying33 (fd := { name := "Keep", type := 31, offset := 3, embedded := false, tag := "", pkgPath := "", byteOffset := 32 }) rfl inferInstance (by decide)
instance : Places Try.prog 59 [(0, 1), (1, 1), (2, 1)] [.int .i64 0, .int .i64 0, .slice none 0 0] := .of Try.underlying59 inferInstance rfl (fun _ => by kernel_rfl)
instance : FldOff Try.prog 59 0 0 := .of Try.underlying59 (fd := { name := "size", type := 3, offset := 0, embedded := false, tag := "", pkgPath := "sandglass/segment", byteOffset := 0 }) rfl inferInstance (by decide)
instance : FldOff Try.prog 59 1 1 := .of Try.underlying59 (fd := { name := "sure", type := 3, offset := 1, embedded := false, tag := "", pkgPath := "sandglass/segment", byteOffset := 8 }) rfl inferInstance (by decide)
instance : FldOff Try.prog 59 2 2 := .of Try.underlying59 (fd := { name := "files", type := 58, offset := 2, embedded := false, tag := "", pkgPath := "sandglass/segment", byteOffset := 16 }) rfl inferInstance (by decide)
instance : Places Try.prog 60 [(0, 1), (1, 1), (2, 1)] [.int .i64 0, .int .i64 0, .slice none 0 0] := .of Try.underlying60 inferInstance rfl (fun _ => by kernel_rfl)
instance : FldOff Try.prog 60 0 0 := .of Try.underlying60 (fd := { name := "size", type := 3, offset := 0, embedded := false, tag := "", pkgPath := "sandglass/segment", byteOffset := 0 }) rfl inferInstance (by decide)
instance : FldOff Try.prog 60 1 1 := .of Try.underlying60 (fd := { name := "sure", type := 3, offset := 1, embedded := false, tag := "", pkgPath := "sandglass/segment", byteOffset := 8 }) rfl inferInstance (by decide)
instance : FldOff Try.prog 60 2 2 := .of Try.underlying60 (fd := { name := "files", type := 58, offset := 2, embedded := false, tag := "", pkgPath := "sandglass/segment", byteOffset := 16 }) rfl inferInstance (by decide)
instance : Places Try.prog 62 [(0, 1), (1, 1)] [.string ⟨#[]⟩, .int .i64 0] := .of Try.underlying62 inferInstance rfl (fun _ => by kernel_rfl)
instance : FldOff Try.prog 62 0 0 := .of Try.underlying62 (fd := { name := "Text", type := 9, offset := 0, embedded := false, tag := "", pkgPath := "", byteOffset := 0 }) rfl inferInstance (by decide)
instance : FldOff Try.prog 62 1 1 := .of Try.underlying62 (fd := { name := "Synced", type := 3, offset := 1, embedded := false, tag := "", pkgPath := "", byteOffset := 16 }) rfl inferInstance (by decide)
instance : Places Try.prog 63 [(0, 1), (1, 1)] [.string ⟨#[]⟩, .int .i64 0] := .of Try.underlying63 inferInstance rfl (fun _ => by kernel_rfl)
instance : FldOff Try.prog 63 0 0 := .of Try.underlying63 (fd := { name := "Text", type := 9, offset := 0, embedded := false, tag := "", pkgPath := "", byteOffset := 0 }) rfl inferInstance (by decide)
instance : FldOff Try.prog 63 1 1 := .of Try.underlying63 (fd := { name := "Synced", type := 3, offset := 1, embedded := false, tag := "", pkgPath := "", byteOffset := 16 }) rfl inferInstance (by decide)
instance : Places Try.prog 64 [(0, 1), (1, 2), (3, 1)] [.int .i64 0, .string ⟨#[]⟩, .int .i64 0, .slice none 0 0] := .of Try.underlying64 inferInstance rfl (fun _ => by kernel_rfl)
instance : FldOff Try.prog 64 0 0 := .of Try.underlying64 (fd := { name := "First", type := 3, offset := 0, embedded := false, tag := "", pkgPath := "", byteOffset := 0 }) rfl inferInstance (by decide)
instance : FldOff Try.prog 64 1 1 := .of Try.underlying64 (fd := { name := "D", type := 63, offset := 1, embedded := false, tag := "", pkgPath := "", byteOffset := 8 }) rfl inferInstance (by decide)
instance : FldOff Try.prog 64 2 3 := .of Try.underlying64 (fd := { name := "L", type := 52, offset := 3, embedded := false, tag := "", pkgPath := "", byteOffset := 32 }) rfl inferInstance (by decide)
instance : Places Try.prog 65 [(0, 1), (1, 2), (3, 1)] [.int .i64 0, .string ⟨#[]⟩, .int .i64 0, .slice none 0 0] := .of Try.underlying65 inferInstance rfl (fun _ => by kernel_rfl)
instance : FldOff Try.prog 65 0 0 := .of Try.underlying65 (fd := { name := "First", type := 3, offset := 0, embedded := false, tag := "", pkgPath := "", byteOffset := 0 }) rfl inferInstance (by decide)
instance : FldOff Try.prog 65 1 1 := .of Try.underlying65 (fd := { name := "D", type := 63, offset := 1, embedded := false, tag := "", pkgPath := "", byteOffset := 8 }) rfl inferInstance (by decide)
instance : FldOff Try.prog 65 2 3 := .of Try.underlying65 (fd := { name := "L", type := 52, offset := 3, embedded := false, tag := "", pkgPath := "", byteOffset := 32 }) rfl inferInstance (by decide)
instance : Places Try.prog 68 [(0, 1), (1, 1), (2, 1)] [.int .i64 0, .string ⟨#[]⟩, .int .u64 0] := .of Try.underlying68 inferInstance rfl (fun _ => by kernel_rfl)
instance : FldOff Try.prog 68 0 0 := .of Try.underlying68 (fd := { name := "Kind", type := 3, offset := 0, embedded := false, tag := "", pkgPath := "", byteOffset := 0 }) rfl inferInstance (by decide)
instance : FldOff Try.prog 68 1 1 := .of Try.underlying68 (fd := { name := "Text", type := 9, offset := 1, embedded := false, tag := "", pkgPath := "", byteOffset := 8 }) rfl inferInstance (by decide)
instance : FldOff Try.prog 68 2 2 := .of Try.underlying68 (fd := { name := "Keep", type := 31, offset := 2, embedded := false, tag := "", pkgPath := "", byteOffset := 24 }) rfl inferInstance (by decide)
instance : Places Try.prog 69 [(0, 1), (1, 1), (2, 1)] [.int .i64 0, .string ⟨#[]⟩, .int .u64 0] := .of Try.underlying69 inferInstance rfl (fun _ => by kernel_rfl)
instance : FldOff Try.prog 69 0 0 := .of Try.underlying69 (fd := { name := "Kind", type := 3, offset := 0, embedded := false, tag := "", pkgPath := "", byteOffset := 0 }) rfl inferInstance (by decide)
instance : FldOff Try.prog 69 1 1 := .of Try.underlying69 (fd := { name := "Text", type := 9, offset := 1, embedded := false, tag := "", pkgPath := "", byteOffset := 8 }) rfl inferInstance (by decide)
instance : FldOff Try.prog 69 2 2 := .of Try.underlying69 (fd := { name := "Keep", type := 31, offset := 2, embedded := false, tag := "", pkgPath := "", byteOffset := 24 }) rfl inferInstance (by decide)
instance : Places Try.prog 77 [(0, 1), (1, 1), (2, 1)] [.int .i64 0, .slice none 0 0, .pointer none] := .of Try.underlying77 inferInstance rfl (fun _ => by kernel_rfl)
instance : FldOff Try.prog 77 0 0 := .of Try.underlying77 (fd := { name := "first", type := 3, offset := 0, embedded := false, tag := "", pkgPath := "sandglass/segment", byteOffset := 0 }) rfl inferInstance (by decide)
instance : FldOff Try.prog 77 1 1 := .of Try.underlying77 (fd := { name := "ends", type := 76, offset := 1, embedded := false, tag := "", pkgPath := "sandglass/segment", byteOffset := 8 }) rfl inferInstance (by decide)
instance : FldOff Try.prog 77 2 2 := .of Try.underlying77 (fd := { name := "disk", type := 74, offset := 2, embedded := false, tag := "", pkgPath := "sandglass/segment", byteOffset := 32 }) rfl inferInstance (by decide)
instance : Places Try.prog 78 [(0, 1), (1, 1), (2, 1)] [.int .i64 0, .slice none 0 0, .pointer none] := .of Try.underlying78 inferInstance rfl (fun _ => by kernel_rfl)
instance : FldOff Try.prog 78 0 0 := .of Try.underlying78 (fd := { name := "first", type := 3, offset := 0, embedded := false, tag := "", pkgPath := "sandglass/segment", byteOffset := 0 }) rfl inferInstance (by decide)
instance : FldOff Try.prog 78 1 1 := .of Try.underlying78 (fd := { name := "ends", type := 76, offset := 1, embedded := false, tag := "", pkgPath := "sandglass/segment", byteOffset := 8 }) rfl inferInstance (by decide)
instance : FldOff Try.prog 78 2 2 := .of Try.underlying78 (fd := { name := "disk", type := 74, offset := 2, embedded := false, tag := "", pkgPath := "sandglass/segment", byteOffset := 32 }) rfl inferInstance (by decide)
instance : Places Try.prog 91 [(0, 1), (1, 1)] [.slice none 0 0, .int .i64 0] := .of Try.underlying91 inferInstance rfl (fun _ => by kernel_rfl)
instance : FldOff Try.prog 91 0 0 := .of Try.underlying91 (fd := { name := "b", type := 57, offset := 0, embedded := false, tag := "", pkgPath := "sandglass/disk", byteOffset := 0 }) rfl inferInstance (by decide)
instance : FldOff Try.prog 91 1 1 := .of Try.underlying91 (fd := { name := "synced", type := 3, offset := 1, embedded := false, tag := "", pkgPath := "sandglass/disk", byteOffset := 24 }) rfl inferInstance (by decide)
instance : Places Try.prog 92 [(0, 1), (1, 1)] [.slice none 0 0, .int .i64 0] := .of Try.underlying92 inferInstance rfl (fun _ => by kernel_rfl)
instance : FldOff Try.prog 92 0 0 := .of Try.underlying92 (fd := { name := "b", type := 57, offset := 0, embedded := false, tag := "", pkgPath := "sandglass/disk", byteOffset := 0 }) rfl inferInstance (by decide)
instance : FldOff Try.prog 92 1 1 := .of Try.underlying92 (fd := { name := "synced", type := 3, offset := 1, embedded := false, tag := "", pkgPath := "sandglass/disk", byteOffset := 24 }) rfl inferInstance (by decide)
instance : Places Try.prog 99 [(0, 1), (1, 1), (2, 1), (3, 1)] [.pointer none, .pointer none, .pointer none, .string ⟨#[]⟩] := .of Try.underlying99 inferInstance rfl (fun _ => by kernel_rfl)
instance : FldOff Try.prog 99 0 0 := .of Try.underlying99 (fd := { name := "_interface", type := 17, offset := 0, embedded := false, tag := "", pkgPath := "runtime", byteOffset := 0 }) rfl inferInstance (by decide)
instance : FldOff Try.prog 99 1 1 := .of Try.underlying99 (fd := { name := "concrete", type := 17, offset := 1, embedded := false, tag := "", pkgPath := "runtime", byteOffset := 8 }) rfl inferInstance (by decide)
instance : FldOff Try.prog 99 2 2 := .of Try.underlying99 (fd := { name := "asserted", type := 17, offset := 2, embedded := false, tag := "", pkgPath := "runtime", byteOffset := 16 }) rfl inferInstance (by decide)
instance : FldOff Try.prog 99 3 3 := .of Try.underlying99 (fd := { name := "missingMethod", type := 9, offset := 3, embedded := false, tag := "", pkgPath := "runtime", byteOffset := 24 }) rfl inferInstance (by decide)
instance : Places Try.prog 100 [(0, 1), (1, 1), (2, 1), (3, 1)] [.pointer none, .pointer none, .pointer none, .string ⟨#[]⟩] := .of Try.underlying100 inferInstance rfl (fun _ => by kernel_rfl)
instance : FldOff Try.prog 100 0 0 := .of Try.underlying100 (fd := { name := "_interface", type := 17, offset := 0, embedded := false, tag := "", pkgPath := "runtime", byteOffset := 0 }) rfl inferInstance (by decide)
instance : FldOff Try.prog 100 1 1 := .of Try.underlying100 (fd := { name := "concrete", type := 17, offset := 1, embedded := false, tag := "", pkgPath := "runtime", byteOffset := 8 }) rfl inferInstance (by decide)
instance : FldOff Try.prog 100 2 2 := .of Try.underlying100 (fd := { name := "asserted", type := 17, offset := 2, embedded := false, tag := "", pkgPath := "runtime", byteOffset := 16 }) rfl inferInstance (by decide)
instance : FldOff Try.prog 100 3 3 := .of Try.underlying100 (fd := { name := "missingMethod", type := 9, offset := 3, embedded := false, tag := "", pkgPath := "runtime", byteOffset := 24 }) rfl inferInstance (by decide)
instance : Places Try.prog 102 [(0, 0)] [] := .of Try.underlying102 inferInstance rfl (fun _ => by kernel_rfl)
instance : Places Try.prog 103 [(0, 0)] [] := .of Try.underlying103 inferInstance rfl (fun _ => by kernel_rfl)
instance : Places Try.prog 110 [(0, 1), (1, 1), (2, 1), (3, 1), (4, 1), (5, 1), (6, 1), (7, 1), (8, 1), (9, 1), (10, 1)] [.int .u64 0, .int .u64 0, .int .u32 0, .int .u8 0, .int .u8 0, .int .u8 0, .int .u8 0, .nilFunc, .pointer none, .int .i32 0, .int .i32 0] := .of Try.underlying110 inferInstance rfl (fun _ => by kernel_rfl)
instance : FldOff Try.prog 110 0 0 := .of Try.underlying110 (fd := { name := "Size_", type := 12, offset := 0, embedded := false, tag := "", pkgPath := "", byteOffset := 0 }) rfl inferInstance (by decide)
instance : FldOff Try.prog 110 1 1 := .of Try.underlying110 (fd := { name := "PtrBytes", type := 12, offset := 1, embedded := false, tag := "", pkgPath := "", byteOffset := 8 }) rfl inferInstance (by decide)
instance : FldOff Try.prog 110 2 2 := .of Try.underlying110 (fd := { name := "Hash", type := 87, offset := 2, embedded := false, tag := "", pkgPath := "", byteOffset := 16 }) rfl inferInstance (by decide)
instance : FldOff Try.prog 110 3 3 := .of Try.underlying110 (fd := { name := "TFlag", type := 104, offset := 3, embedded := false, tag := "", pkgPath := "", byteOffset := 20 }) rfl inferInstance (by decide)
instance : FldOff Try.prog 110 4 4 := .of Try.underlying110 (fd := { name := "Align_", type := 5, offset := 4, embedded := false, tag := "", pkgPath := "", byteOffset := 21 }) rfl inferInstance (by decide)
instance : FldOff Try.prog 110 5 5 := .of Try.underlying110 (fd := { name := "FieldAlign_", type := 5, offset := 5, embedded := false, tag := "", pkgPath := "", byteOffset := 22 }) rfl inferInstance (by decide)
instance : FldOff Try.prog 110 6 6 := .of Try.underlying110 (fd := { name := "Kind_", type := 105, offset := 6, embedded := false, tag := "", pkgPath := "", byteOffset := 23 }) rfl inferInstance (by decide)
instance : FldOff Try.prog 110 7 7 := .of Try.underlying110 (fd := { name := "Equal", type := 106, offset := 7, embedded := false, tag := "", pkgPath := "", byteOffset := 24 }) rfl inferInstance (by decide)
instance : FldOff Try.prog 110 8 8 := .of Try.underlying110 (fd := { name := "GCData", type := 107, offset := 8, embedded := false, tag := "", pkgPath := "", byteOffset := 32 }) rfl inferInstance (by decide)
instance : FldOff Try.prog 110 9 9 := .of Try.underlying110 (fd := { name := "Str", type := 108, offset := 9, embedded := false, tag := "", pkgPath := "", byteOffset := 40 }) rfl inferInstance (by decide)
instance : FldOff Try.prog 110 10 10 := .of Try.underlying110 (fd := { name := "PtrToThis", type := 109, offset := 10, embedded := false, tag := "", pkgPath := "", byteOffset := 44 }) rfl inferInstance (by decide)
instance : Places Try.prog 111 [(0, 1), (1, 1), (2, 1), (3, 1), (4, 1), (5, 1), (6, 1), (7, 1), (8, 1), (9, 1), (10, 1)] [.int .u64 0, .int .u64 0, .int .u32 0, .int .u8 0, .int .u8 0, .int .u8 0, .int .u8 0, .nilFunc, .pointer none, .int .i32 0, .int .i32 0] := .of Try.underlying111 inferInstance rfl (fun _ => by kernel_rfl)
instance : FldOff Try.prog 111 0 0 := .of Try.underlying111 (fd := { name := "Size_", type := 12, offset := 0, embedded := false, tag := "", pkgPath := "", byteOffset := 0 }) rfl inferInstance (by decide)
instance : FldOff Try.prog 111 1 1 := .of Try.underlying111 (fd := { name := "PtrBytes", type := 12, offset := 1, embedded := false, tag := "", pkgPath := "", byteOffset := 8 }) rfl inferInstance (by decide)
instance : FldOff Try.prog 111 2 2 := .of Try.underlying111 (fd := { name := "Hash", type := 87, offset := 2, embedded := false, tag := "", pkgPath := "", byteOffset := 16 }) rfl inferInstance (by decide)
instance : FldOff Try.prog 111 3 3 := .of Try.underlying111 (fd := { name := "TFlag", type := 104, offset := 3, embedded := false, tag := "", pkgPath := "", byteOffset := 20 }) rfl inferInstance (by decide)
instance : FldOff Try.prog 111 4 4 := .of Try.underlying111 (fd := { name := "Align_", type := 5, offset := 4, embedded := false, tag := "", pkgPath := "", byteOffset := 21 }) rfl inferInstance (by decide)
instance : FldOff Try.prog 111 5 5 := .of Try.underlying111 (fd := { name := "FieldAlign_", type := 5, offset := 5, embedded := false, tag := "", pkgPath := "", byteOffset := 22 }) rfl inferInstance (by decide)
instance : FldOff Try.prog 111 6 6 := .of Try.underlying111 (fd := { name := "Kind_", type := 105, offset := 6, embedded := false, tag := "", pkgPath := "", byteOffset := 23 }) rfl inferInstance (by decide)
instance : FldOff Try.prog 111 7 7 := .of Try.underlying111 (fd := { name := "Equal", type := 106, offset := 7, embedded := false, tag := "", pkgPath := "", byteOffset := 24 }) rfl inferInstance (by decide)
instance : FldOff Try.prog 111 8 8 := .of Try.underlying111 (fd := { name := "GCData", type := 107, offset := 8, embedded := false, tag := "", pkgPath := "", byteOffset := 32 }) rfl inferInstance (by decide)
instance : FldOff Try.prog 111 9 9 := .of Try.underlying111 (fd := { name := "Str", type := 108, offset := 9, embedded := false, tag := "", pkgPath := "", byteOffset := 40 }) rfl inferInstance (by decide)
instance : FldOff Try.prog 111 10 10 := .of Try.underlying111 (fd := { name := "PtrToThis", type := 109, offset := 10, embedded := false, tag := "", pkgPath := "", byteOffset := 44 }) rfl inferInstance (by decide)
instance : HasFn Try.prog 3 := ⟨_, Try.func3, by kernel_rfl, by kernel_rfl⟩
instance : HasFn Try.prog 4 := ⟨_, Try.func4, by kernel_rfl, by kernel_rfl⟩
instance : HasFn Try.prog 5 := ⟨_, Try.func5, by kernel_rfl, by kernel_rfl⟩
instance : HasFn Try.prog 6 := ⟨_, Try.func6, by kernel_rfl, by kernel_rfl⟩
instance : HasFn Try.prog 7 := ⟨_, Try.func7, by kernel_rfl, by kernel_rfl⟩
instance : HasFn Try.prog 8 := ⟨_, Try.func8, by kernel_rfl, by kernel_rfl⟩
instance : HasFn Try.prog 9 := ⟨_, Try.func9, by kernel_rfl, by kernel_rfl⟩
instance : HasFn Try.prog 10 := ⟨_, Try.func10, by kernel_rfl, by kernel_rfl⟩
instance : HasFn Try.prog 11 := ⟨_, Try.func11, by kernel_rfl, by kernel_rfl⟩
instance : HasFn Try.prog 12 := ⟨_, Try.func12, by kernel_rfl, by kernel_rfl⟩
instance : HasFn Try.prog 13 := ⟨_, Try.func13, by kernel_rfl, by kernel_rfl⟩
instance : HasFn Try.prog 14 := ⟨_, Try.func14, by kernel_rfl, by kernel_rfl⟩
instance : HasFn Try.prog 15 := ⟨_, Try.func15, by kernel_rfl, by kernel_rfl⟩
instance : HasFn Try.prog 16 := ⟨_, Try.func16, by kernel_rfl, by kernel_rfl⟩
instance : HasFn Try.prog 17 := ⟨_, Try.func17, by kernel_rfl, by kernel_rfl⟩
instance : HasFn Try.prog 18 := ⟨_, Try.func18, by kernel_rfl, by kernel_rfl⟩
instance : HasFn Try.prog 19 := ⟨_, Try.func19, by kernel_rfl, by kernel_rfl⟩
instance : HasFn Try.prog 20 := ⟨_, Try.func20, by kernel_rfl, by kernel_rfl⟩
instance : HasFn Try.prog 21 := ⟨_, Try.func21, by kernel_rfl, by kernel_rfl⟩
instance : HasFn Try.prog 22 := ⟨_, Try.func22, by kernel_rfl, by kernel_rfl⟩
instance : HasFn Try.prog 23 := ⟨_, Try.func23, by kernel_rfl, by kernel_rfl⟩
instance : HasFn Try.prog 24 := ⟨_, Try.func24, by kernel_rfl, by kernel_rfl⟩
instance : HasFn Try.prog 25 := ⟨_, Try.func25, by kernel_rfl, by kernel_rfl⟩
instance : HasFn Try.prog 26 := ⟨_, Try.func26, by kernel_rfl, by kernel_rfl⟩
instance : HasFn Try.prog 27 := ⟨_, Try.func27, by kernel_rfl, by kernel_rfl⟩
instance : HasFn Try.prog 28 := ⟨_, Try.func28, by kernel_rfl, by kernel_rfl⟩
instance : HasFn Try.prog 29 := ⟨_, Try.func29, by kernel_rfl, by kernel_rfl⟩
instance : HasFn Try.prog 30 := ⟨_, Try.func30, by kernel_rfl, by kernel_rfl⟩
instance : HasFn Try.prog 31 := ⟨_, Try.func31, by kernel_rfl, by kernel_rfl⟩
instance : HasFn Try.prog 32 := ⟨_, Try.func32, by kernel_rfl, by kernel_rfl⟩
instance : HasFn Try.prog 33 := ⟨_, Try.func33, by kernel_rfl, by kernel_rfl⟩
instance : HasFn Try.prog 34 := ⟨_, Try.func34, by kernel_rfl, by kernel_rfl⟩
instance : HasFn Try.prog 35 := ⟨_, Try.func35, by kernel_rfl, by kernel_rfl⟩
instance : HasFn Try.prog 36 := ⟨_, Try.func36, by kernel_rfl, by kernel_rfl⟩
instance : HasFn Try.prog 37 := ⟨_, Try.func37, by kernel_rfl, by kernel_rfl⟩
instance : HasFn Try.prog 38 := ⟨_, Try.func38, by kernel_rfl, by kernel_rfl⟩
instance : HasFn Try.prog 39 := ⟨_, Try.func39, by kernel_rfl, by kernel_rfl⟩
instance : HasFn Try.prog 40 := ⟨_, Try.func40, by kernel_rfl, by kernel_rfl⟩
instance : HasFn Try.prog 41 := ⟨_, Try.func41, by kernel_rfl, by kernel_rfl⟩
instance : HasFn Try.prog 42 := ⟨_, Try.func42, by kernel_rfl, by kernel_rfl⟩
instance : HasFn Try.prog 43 := ⟨_, Try.func43, by kernel_rfl, by kernel_rfl⟩
instance : HasFn Try.prog 44 := ⟨_, Try.func44, by kernel_rfl, by kernel_rfl⟩
instance : HasFn Try.prog 45 := ⟨_, Try.func45, by kernel_rfl, by kernel_rfl⟩
instance : HasFn Try.prog 46 := ⟨_, Try.func46, by kernel_rfl, by kernel_rfl⟩
instance : HasFn Try.prog 47 := ⟨_, Try.func47, by kernel_rfl, by kernel_rfl⟩
instance : HasFn Try.prog 48 := ⟨_, Try.func48, by kernel_rfl, by kernel_rfl⟩
instance : HasFn Try.prog 49 := ⟨_, Try.func49, by kernel_rfl, by kernel_rfl⟩
instance : HasFn Try.prog 50 := ⟨_, Try.func50, by kernel_rfl, by kernel_rfl⟩
instance : HasFn Try.prog 51 := ⟨_, Try.func51, by kernel_rfl, by kernel_rfl⟩
instance : HasFn Try.prog 52 := ⟨_, Try.func52, by kernel_rfl, by kernel_rfl⟩
instance : HasFn Try.prog 53 := ⟨_, Try.func53, by kernel_rfl, by kernel_rfl⟩
theorem Try.mixed : Try.prog.follows .mixedOrders = true := by kernel_rfl
end Go.Proofs
