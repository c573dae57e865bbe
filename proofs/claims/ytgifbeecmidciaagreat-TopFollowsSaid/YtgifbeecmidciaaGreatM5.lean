/- Part 5 of the texts below the row: Facts. -/
import Derived.KernelRfl
import Derived.Test.YtgifbeecmidciaaGreatProg
import Derived.Test.YtgifbeecmidciaaGreatM4
/- Facts on the seat's types and functions, each read off the loaded program. -/
set_option autoImplicit false
namespace Go.Proofs
open Go.SL
instance : TyU Tryz.prog 0 ((TypeDesc.tuple #[])) := ⟨Tryz.underlying0⟩
instance : TyU Tryz.prog 1 ((TypeDesc.func #[] #[] false)) := ⟨Tryz.underlying1⟩
instance : TyI Tryz.prog 1 1 (.nilFunc) 8 := ⟨by kernel_rfl⟩
instance : TyU Tryz.prog 2 ((TypeDesc.int IntKind.i64)) := ⟨Tryz.underlying2⟩
instance : TyI Tryz.prog 2 1 (.int .i64 0) 8 := ⟨by kernel_rfl⟩
instance : TyU Tryz.prog 3 ((TypeDesc.int IntKind.i64)) := ⟨Tryz.underlying3⟩
instance : TyI Tryz.prog 3 1 (.int .i64 0) 8 := ⟨by kernel_rfl⟩
instance : TyU Tryz.prog 4 (TypeDesc.bool) := ⟨Tryz.underlying4⟩
instance : TyI Tryz.prog 4 1 (.bool false) 1 := ⟨by kernel_rfl⟩
instance : TyU Tryz.prog 5 ((TypeDesc.int IntKind.u8)) := ⟨Tryz.underlying5⟩
instance : TyI Tryz.prog 5 1 (.int .u8 0) 1 := ⟨by kernel_rfl⟩
instance : TyU Tryz.prog 6 ((TypeDesc.int IntKind.u8)) := ⟨Tryz.underlying6⟩
instance : TyI Tryz.prog 6 1 (.int .u8 0) 1 := ⟨by kernel_rfl⟩
instance : TyU Tryz.prog 7 ((TypeDesc.struct #[{ name := "x", type := 2, offset := 0, embedded := false, tag := "", pkgPath := "runtime", byteOffset := 0 }, { name := "y", type := 3, offset := 1, embedded := false, tag := "", pkgPath := "runtime", byteOffset := 8 }, { name := "signed", type := 4, offset := 2, embedded := false, tag := "", pkgPath := "runtime", byteOffset := 16 }, { name := "code", type := 6, offset := 3, embedded := false, tag := "", pkgPath := "runtime", byteOffset := 17 }])) := ⟨Tryz.underlying7⟩
instance : TyI Tryz.prog 7 4 (.agg #[.int .i64 0, .int .i64 0, .bool false, .int .u8 0]) 24 := ⟨by kernel_rfl⟩
instance : TyU Tryz.prog 8 ((TypeDesc.struct #[{ name := "x", type := 2, offset := 0, embedded := false, tag := "", pkgPath := "runtime", byteOffset := 0 }, { name := "y", type := 3, offset := 1, embedded := false, tag := "", pkgPath := "runtime", byteOffset := 8 }, { name := "signed", type := 4, offset := 2, embedded := false, tag := "", pkgPath := "runtime", byteOffset := 16 }, { name := "code", type := 6, offset := 3, embedded := false, tag := "", pkgPath := "runtime", byteOffset := 17 }])) := ⟨Tryz.underlying8⟩
instance : TyI Tryz.prog 8 4 (.agg #[.int .i64 0, .int .i64 0, .bool false, .int .u8 0]) 24 := ⟨by kernel_rfl⟩
instance : TyU Tryz.prog 9 (TypeDesc.string) := ⟨Tryz.underlying9⟩
instance : TyI Tryz.prog 9 1 (.string ⟨#[]⟩) 16 := ⟨by kernel_rfl⟩
instance : TyU Tryz.prog 10 (TypeDesc.string) := ⟨Tryz.underlying10⟩
instance : TyI Tryz.prog 10 1 (.string ⟨#[]⟩) 16 := ⟨by kernel_rfl⟩
instance : TyU Tryz.prog 11 (TypeDesc.string) := ⟨Tryz.underlying11⟩
instance : TyI Tryz.prog 11 1 (.string ⟨#[]⟩) 16 := ⟨by kernel_rfl⟩
instance : TyU Tryz.prog 12 ((TypeDesc.int IntKind.u64)) := ⟨Tryz.underlying12⟩
instance : TyI Tryz.prog 12 1 (.int .u64 0) 8 := ⟨by kernel_rfl⟩
instance : TyU Tryz.prog 13 ((TypeDesc.struct #[{ name := "msg", type := 9, offset := 0, embedded := false, tag := "", pkgPath := "runtime", byteOffset := 0 }, { name := "addr", type := 12, offset := 1, embedded := false, tag := "", pkgPath := "runtime", byteOffset := 16 }])) := ⟨Tryz.underlying13⟩
instance : TyI Tryz.prog 13 2 (.agg #[.string ⟨#[]⟩, .int .u64 0]) 24 := ⟨by kernel_rfl⟩
instance : TyU Tryz.prog 14 ((TypeDesc.struct #[{ name := "msg", type := 9, offset := 0, embedded := false, tag := "", pkgPath := "runtime", byteOffset := 0 }, { name := "addr", type := 12, offset := 1, embedded := false, tag := "", pkgPath := "runtime", byteOffset := 16 }])) := ⟨Tryz.underlying14⟩
instance : TyI Tryz.prog 14 2 (.agg #[.string ⟨#[]⟩, .int .u64 0]) 24 := ⟨by kernel_rfl⟩
instance : TyU Tryz.prog 15 ((TypeDesc.pointer 219)) := ⟨Tryz.underlying15⟩
instance : TyI Tryz.prog 15 1 (.pointer none) 8 := ⟨by kernel_rfl⟩
instance : TyU Tryz.prog 16 ((TypeDesc.pointer 222)) := ⟨Tryz.underlying16⟩
instance : TyI Tryz.prog 16 1 (.pointer none) 8 := ⟨by kernel_rfl⟩
instance : TyU Tryz.prog 17 ((TypeDesc.pointer 230)) := ⟨Tryz.underlying17⟩
instance : TyI Tryz.prog 17 1 (.pointer none) 8 := ⟨by kernel_rfl⟩
instance : TyU Tryz.prog 18 ((TypeDesc.struct #[{ name := "typ", type := 17, offset := 0, embedded := false, tag := "", pkgPath := "internal/runtime/maps", byteOffset := 0 }])) := ⟨Tryz.underlying18⟩
instance : TyI Tryz.prog 18 1 (.agg #[.pointer none]) 8 := ⟨by kernel_rfl⟩
instance : TyU Tryz.prog 19 ((TypeDesc.struct #[{ name := "typ", type := 17, offset := 0, embedded := false, tag := "", pkgPath := "internal/runtime/maps", byteOffset := 0 }])) := ⟨Tryz.underlying19⟩
instance : TyI Tryz.prog 19 1 (.agg #[.pointer none]) 8 := ⟨by kernel_rfl⟩
instance : TyU Tryz.prog 20 ((TypeDesc.interface #[])) := ⟨Tryz.underlying20⟩
instance : TyI Tryz.prog 20 1 (.nilIface) 16 := ⟨by kernel_rfl⟩
instance : TyU Tryz.prog 21 ((TypeDesc.int IntKind.i32)) := ⟨Tryz.underlying21⟩
instance : TyI Tryz.prog 21 1 (.int .i32 0) 4 := ⟨by kernel_rfl⟩
instance : TyU Tryz.prog 22 ((TypeDesc.slice 26)) := ⟨Tryz.underlying22⟩
instance : TyI Tryz.prog 22 1 (.slice none 0 0) 24 := ⟨by kernel_rfl⟩
instance : TyU Tryz.prog 23 ((TypeDesc.slice 36)) := ⟨Tryz.underlying23⟩
instance : TyI Tryz.prog 23 1 (.slice none 0 0) 24 := ⟨by kernel_rfl⟩
instance : TyU Tryz.prog 24 ((TypeDesc.func #[] #[4] false)) := ⟨Tryz.underlying24⟩
instance : TyI Tryz.prog 24 1 (.nilFunc) 8 := ⟨by kernel_rfl⟩
instance : TyU Tryz.prog 25 ((TypeDesc.slice 27)) := ⟨Tryz.underlying25⟩
instance : TyI Tryz.prog 25 1 (.slice none 0 0) 24 := ⟨by kernel_rfl⟩
instance : TyU Tryz.prog 26 ((TypeDesc.slice 9)) := ⟨Tryz.underlying26⟩
instance : TyI Tryz.prog 26 1 (.slice none 0 0) 24 := ⟨by kernel_rfl⟩
instance : TyU Tryz.prog 27 ((TypeDesc.pointer 67)) := ⟨Tryz.underlying27⟩
instance : TyI Tryz.prog 27 1 (.pointer none) 8 := ⟨by kernel_rfl⟩
instance : TyU Tryz.prog 28 ((TypeDesc.func #[3, 3, 3] #[27] false)) := ⟨Tryz.underlying28⟩
instance : TyI Tryz.prog 28 1 (.nilFunc) 8 := ⟨by kernel_rfl⟩
instance : TyU Tryz.prog 29 ((TypeDesc.slice 61)) := ⟨Tryz.underlying29⟩
instance : TyI Tryz.prog 29 1 (.slice none 0 0) 24 := ⟨by kernel_rfl⟩
instance : TyU Tryz.prog 30 ((TypeDesc.func #[] #[29] false)) := ⟨Tryz.underlying30⟩
instance : TyI Tryz.prog 30 1 (.nilFunc) 8 := ⟨by kernel_rfl⟩
instance : TyU Tryz.prog 31 ((TypeDesc.func #[26] #[3] false)) := ⟨Tryz.underlying31⟩
instance : TyI Tryz.prog 31 1 (.nilFunc) 8 := ⟨by kernel_rfl⟩
instance : TyU Tryz.prog 32 ((TypeDesc.func #[] #[26] false)) := ⟨Tryz.underlying32⟩
instance : TyI Tryz.prog 32 1 (.nilFunc) 8 := ⟨by kernel_rfl⟩
instance : TyU Tryz.prog 33 ((TypeDesc.pointer 78)) := ⟨Tryz.underlying33⟩
instance : TyI Tryz.prog 33 1 (.pointer none) 8 := ⟨by kernel_rfl⟩
instance : TyU Tryz.prog 34 ((TypeDesc.func #[3] #[33] false)) := ⟨Tryz.underlying34⟩
instance : TyI Tryz.prog 34 1 (.nilFunc) 8 := ⟨by kernel_rfl⟩
instance : TyU Tryz.prog 35 ((TypeDesc.struct #[{ name := "From", type := 3, offset := 0, embedded := false, tag := "", pkgPath := "", byteOffset := 0 }, { name := "Height", type := 3, offset := 1, embedded := false, tag := "", pkgPath := "", byteOffset := 8 }, { name := "Value", type := 9, offset := 2, embedded := false, tag := "", pkgPath := "", byteOffset := 16 }])) := ⟨Tryz.underlying35⟩
instance : TyI Tryz.prog 35 3 (.agg #[.int .i64 0, .int .i64 0, .string ⟨#[]⟩]) 32 := ⟨by kernel_rfl⟩
instance : TyU Tryz.prog 36 ((TypeDesc.struct #[{ name := "From", type := 3, offset := 0, embedded := false, tag := "", pkgPath := "", byteOffset := 0 }, { name := "Height", type := 3, offset := 1, embedded := false, tag := "", pkgPath := "", byteOffset := 8 }, { name := "Value", type := 9, offset := 2, embedded := false, tag := "", pkgPath := "", byteOffset := 16 }])) := ⟨Tryz.underlying36⟩
instance : TyI Tryz.prog 36 3 (.agg #[.int .i64 0, .int .i64 0, .string ⟨#[]⟩]) 32 := ⟨by kernel_rfl⟩
instance : TyU Tryz.prog 37 ((TypeDesc.func #[3, 3, 9] #[4] false)) := ⟨Tryz.underlying37⟩
instance : TyI Tryz.prog 37 1 (.nilFunc) 8 := ⟨by kernel_rfl⟩
instance : TyU Tryz.prog 38 ((TypeDesc.func #[26, 26] #[4] false)) := ⟨Tryz.underlying38⟩
instance : TyI Tryz.prog 38 1 (.nilFunc) 8 := ⟨by kernel_rfl⟩
instance : TyU Tryz.prog 39 ((TypeDesc.func #[3, 22, 23] #[4] false)) := ⟨Tryz.underlying39⟩
instance : TyI Tryz.prog 39 1 (.nilFunc) 8 := ⟨by kernel_rfl⟩
instance : TyU Tryz.prog 40 ((TypeDesc.slice 47)) := ⟨Tryz.underlying40⟩
instance : TyI Tryz.prog 40 1 (.slice none 0 0) 24 := ⟨by kernel_rfl⟩
instance : TyU Tryz.prog 41 ((TypeDesc.func #[40] #[3] false)) := ⟨Tryz.underlying41⟩
instance : TyI Tryz.prog 41 1 (.nilFunc) 8 := ⟨by kernel_rfl⟩
instance : TyU Tryz.prog 42 ((TypeDesc.pointer 90)) := ⟨Tryz.underlying42⟩
instance : TyI Tryz.prog 42 1 (.pointer none) 8 := ⟨by kernel_rfl⟩
instance : TyU Tryz.prog 43 ((TypeDesc.func #[3] #[42] false)) := ⟨Tryz.underlying43⟩
instance : TyI Tryz.prog 43 1 (.nilFunc) 8 := ⟨by kernel_rfl⟩
instance : TyU Tryz.prog 44 ((TypeDesc.int IntKind.i64)) := ⟨Tryz.underlying44⟩
instance : TyI Tryz.prog 44 1 (.int .i64 0) 8 := ⟨by kernel_rfl⟩
instance : TyU Tryz.prog 45 ((TypeDesc.int IntKind.u64)) := ⟨Tryz.underlying45⟩
instance : TyI Tryz.prog 45 1 (.int .u64 0) 8 := ⟨by kernel_rfl⟩
instance : TyU Tryz.prog 46 ((TypeDesc.struct #[{ name := "Kind", type := 3, offset := 0, embedded := false, tag := "", pkgPath := "", byteOffset := 0 }, { name := "N", type := 3, offset := 1, embedded := false, tag := "", pkgPath := "", byteOffset := 8 }, { name := "Key", type := 9, offset := 2, embedded := false, tag := "", pkgPath := "", byteOffset := 16 }, { name := "Value", type := 9, offset := 3, embedded := false, tag := "", pkgPath := "", byteOffset := 32 }, { name := "Keep", type := 45, offset := 4, embedded := false, tag := "", pkgPath := "", byteOffset := 48 }])) := ⟨Tryz.underlying46⟩
instance : TyI Tryz.prog 46 5 (.agg #[.int .i64 0, .int .i64 0, .string ⟨#[]⟩, .string ⟨#[]⟩, .int .u64 0]) 56 := ⟨by kernel_rfl⟩
instance : TyU Tryz.prog 47 ((TypeDesc.struct #[{ name := "Kind", type := 3, offset := 0, embedded := false, tag := "", pkgPath := "", byteOffset := 0 }, { name := "N", type := 3, offset := 1, embedded := false, tag := "", pkgPath := "", byteOffset := 8 }, { name := "Key", type := 9, offset := 2, embedded := false, tag := "", pkgPath := "", byteOffset := 16 }, { name := "Value", type := 9, offset := 3, embedded := false, tag := "", pkgPath := "", byteOffset := 32 }, { name := "Keep", type := 45, offset := 4, embedded := false, tag := "", pkgPath := "", byteOffset := 48 }])) := ⟨Tryz.underlying47⟩
instance : TyI Tryz.prog 47 5 (.agg #[.int .i64 0, .int .i64 0, .string ⟨#[]⟩, .string ⟨#[]⟩, .int .u64 0]) 56 := ⟨by kernel_rfl⟩
instance : TyU Tryz.prog 48 ((TypeDesc.func #[9, 9] #[44] false)) := ⟨Tryz.underlying48⟩
instance : TyI Tryz.prog 48 1 (.nilFunc) 8 := ⟨by kernel_rfl⟩
instance : TyU Tryz.prog 49 ((TypeDesc.func #[9] #[44] false)) := ⟨Tryz.underlying49⟩
instance : TyI Tryz.prog 49 1 (.nilFunc) 8 := ⟨by kernel_rfl⟩
instance : TyU Tryz.prog 50 ((TypeDesc.func #[3] #[44] false)) := ⟨Tryz.underlying50⟩
instance : TyI Tryz.prog 50 1 (.nilFunc) 8 := ⟨by kernel_rfl⟩
instance : TyU Tryz.prog 51 ((TypeDesc.func #[45] #[] false)) := ⟨Tryz.underlying51⟩
instance : TyI Tryz.prog 51 1 (.nilFunc) 8 := ⟨by kernel_rfl⟩
instance : TyU Tryz.prog 52 ((TypeDesc.func #[] #[3] false)) := ⟨Tryz.underlying52⟩
instance : TyI Tryz.prog 52 1 (.nilFunc) 8 := ⟨by kernel_rfl⟩
instance : TyU Tryz.prog 53 ((TypeDesc.func #[54, 54] #[4] false)) := ⟨Tryz.underlying53⟩
instance : TyI Tryz.prog 53 1 (.nilFunc) 8 := ⟨by kernel_rfl⟩
instance : TyU Tryz.prog 54 ((TypeDesc.slice 111)) := ⟨Tryz.underlying54⟩
instance : TyI Tryz.prog 54 1 (.slice none 0 0) 24 := ⟨by kernel_rfl⟩
instance : TyU Tryz.prog 55 ((TypeDesc.func #[9, 9, 3] #[54] false)) := ⟨Tryz.underlying55⟩
instance : TyI Tryz.prog 55 1 (.nilFunc) 8 := ⟨by kernel_rfl⟩
instance : TyU Tryz.prog 56 ((TypeDesc.func #[3, 40] #[4] false)) := ⟨Tryz.underlying56⟩
instance : TyI Tryz.prog 56 1 (.nilFunc) 8 := ⟨by kernel_rfl⟩
instance : TyU Tryz.prog 57 ((TypeDesc.func #[61] #[29] false)) := ⟨Tryz.underlying57⟩
instance : TyI Tryz.prog 57 1 (.nilFunc) 8 := ⟨by kernel_rfl⟩
instance : TyU Tryz.prog 58 ((TypeDesc.struct #[{ name := "Kind", type := 3, offset := 0, embedded := false, tag := "", pkgPath := "", byteOffset := 0 }, { name := "From", type := 3, offset := 1, embedded := false, tag := "", pkgPath := "", byteOffset := 8 }, { name := "Round", type := 3, offset := 2, embedded := false, tag := "", pkgPath := "", byteOffset := 16 }, { name := "Valid", type := 3, offset := 3, embedded := false, tag := "", pkgPath := "", byteOffset := 24 }, { name := "Value", type := 9, offset := 4, embedded := false, tag := "", pkgPath := "", byteOffset := 32 }])) := ⟨Tryz.underlying58⟩
instance : TyI Tryz.prog 58 5 (.agg #[.int .i64 0, .int .i64 0, .int .i64 0, .int .i64 0, .string ⟨#[]⟩]) 48 := ⟨by kernel_rfl⟩
instance : TyU Tryz.prog 59 ((TypeDesc.struct #[{ name := "Kind", type := 3, offset := 0, embedded := false, tag := "", pkgPath := "", byteOffset := 0 }, { name := "From", type := 3, offset := 1, embedded := false, tag := "", pkgPath := "", byteOffset := 8 }, { name := "Round", type := 3, offset := 2, embedded := false, tag := "", pkgPath := "", byteOffset := 16 }, { name := "Valid", type := 3, offset := 3, embedded := false, tag := "", pkgPath := "", byteOffset := 24 }, { name := "Value", type := 9, offset := 4, embedded := false, tag := "", pkgPath := "", byteOffset := 32 }])) := ⟨Tryz.underlying59⟩
instance : TyI Tryz.prog 59 5 (.agg #[.int .i64 0, .int .i64 0, .int .i64 0, .int .i64 0, .string ⟨#[]⟩]) 48 := ⟨by kernel_rfl⟩
instance : TyU Tryz.prog 60 ((TypeDesc.struct #[{ name := "Height", type := 3, offset := 0, embedded := false, tag := "", pkgPath := "", byteOffset := 0 }, { name := "Word", type := 59, offset := 1, embedded := false, tag := "", pkgPath := "", byteOffset := 8 }])) := ⟨Tryz.underlying60⟩
instance : TyI Tryz.prog 60 6 (.agg #[.int .i64 0, .int .i64 0, .int .i64 0, .int .i64 0, .int .i64 0, .string ⟨#[]⟩]) 56 := ⟨by kernel_rfl⟩
instance : TyU Tryz.prog 61 ((TypeDesc.struct #[{ name := "Height", type := 3, offset := 0, embedded := false, tag := "", pkgPath := "", byteOffset := 0 }, { name := "Word", type := 59, offset := 1, embedded := false, tag := "", pkgPath := "", byteOffset := 8 }])) := ⟨Tryz.underlying61⟩
instance : TyI Tryz.prog 61 6 (.agg #[.int .i64 0, .int .i64 0, .int .i64 0, .int .i64 0, .int .i64 0, .string ⟨#[]⟩]) 56 := ⟨by kernel_rfl⟩
instance : TyU Tryz.prog 62 ((TypeDesc.tuple #[9, 44])) := ⟨Tryz.underlying62⟩
instance : TyU Tryz.prog 63 ((TypeDesc.func #[9] #[9, 44] false)) := ⟨Tryz.underlying63⟩
instance : TyI Tryz.prog 63 1 (.nilFunc) 8 := ⟨by kernel_rfl⟩
instance : TyU Tryz.prog 64 ((TypeDesc.pointer 122)) := ⟨Tryz.underlying64⟩
instance : TyI Tryz.prog 64 1 (.pointer none) 8 := ⟨by kernel_rfl⟩
instance : TyU Tryz.prog 65 ((TypeDesc.func #[3, 3, 3, 3, 9] #[64] false)) := ⟨Tryz.underlying65⟩
instance : TyI Tryz.prog 65 1 (.nilFunc) 8 := ⟨by kernel_rfl⟩
instance : TyU Tryz.prog 66 ((TypeDesc.struct #[{ name := "n", type := 3, offset := 0, embedded := false, tag := "", pkgPath := "sandglass/chain", byteOffset := 0 }, { name := "t", type := 3, offset := 1, embedded := false, tag := "", pkgPath := "sandglass/chain", byteOffset := 8 }, { name := "me", type := 3, offset := 2, embedded := false, tag := "", pkgPath := "sandglass/chain", byteOffset := 16 }, { name := "begun", type := 4, offset := 3, embedded := false, tag := "", pkgPath := "sandglass/chain", byteOffset := 24 }, { name := "part", type := 64, offset := 4, embedded := false, tag := "", pkgPath := "sandglass/chain", byteOffset := 32 }, { name := "log", type := 26, offset := 5, embedded := false, tag := "", pkgPath := "sandglass/chain", byteOffset := 40 }, { name := "wants", type := 26, offset := 6, embedded := false, tag := "", pkgPath := "sandglass/chain", byteOffset := 64 }])) := ⟨Tryz.underlying66⟩
instance : TyI Tryz.prog 66 7 (.agg #[.int .i64 0, .int .i64 0, .int .i64 0, .bool false, .pointer none, .slice none 0 0, .slice none 0 0]) 88 := ⟨by kernel_rfl⟩
instance : TyU Tryz.prog 67 ((TypeDesc.struct #[{ name := "n", type := 3, offset := 0, embedded := false, tag := "", pkgPath := "sandglass/chain", byteOffset := 0 }, { name := "t", type := 3, offset := 1, embedded := false, tag := "", pkgPath := "sandglass/chain", byteOffset := 8 }, { name := "me", type := 3, offset := 2, embedded := false, tag := "", pkgPath := "sandglass/chain", byteOffset := 16 }, { name := "begun", type := 4, offset := 3, embedded := false, tag := "", pkgPath := "sandglass/chain", byteOffset := 24 }, { name := "part", type := 64, offset := 4, embedded := false, tag := "", pkgPath := "sandglass/chain", byteOffset := 32 }, { name := "log", type := 26, offset := 5, embedded := false, tag := "", pkgPath := "sandglass/chain", byteOffset := 40 }, { name := "wants", type := 26, offset := 6, embedded := false, tag := "", pkgPath := "sandglass/chain", byteOffset := 64 }])) := ⟨Tryz.underlying67⟩
instance : TyI Tryz.prog 67 7 (.agg #[.int .i64 0, .int .i64 0, .int .i64 0, .bool false, .pointer none, .slice none 0 0, .slice none 0 0]) 88 := ⟨by kernel_rfl⟩
instance : TyU Tryz.prog 68 ((TypeDesc.func #[9] #[4] false)) := ⟨Tryz.underlying68⟩
instance : TyI Tryz.prog 68 1 (.nilFunc) 8 := ⟨by kernel_rfl⟩
instance : TyU Tryz.prog 69 ((TypeDesc.func #[9] #[29] false)) := ⟨Tryz.underlying69⟩
instance : TyI Tryz.prog 69 1 (.nilFunc) 8 := ⟨by kernel_rfl⟩
instance : TyU Tryz.prog 70 ((TypeDesc.func #[26] #[26] false)) := ⟨Tryz.underlying70⟩
instance : TyI Tryz.prog 70 1 (.nilFunc) 8 := ⟨by kernel_rfl⟩
instance : TyU Tryz.prog 71 ((TypeDesc.array 8 4)) := ⟨Tryz.underlying71⟩
instance : TyI Tryz.prog 71 8 (.agg #[.bool false, .bool false, .bool false, .bool false, .bool false, .bool false, .bool false, .bool false]) 8 := ⟨by kernel_rfl⟩
instance : TyU Tryz.prog 72 ((TypeDesc.array 64 71)) := ⟨Tryz.underlying72⟩
def bz72 : List Value := (List.replicate 512 [.bool false]).flatten
instance : TyI Tryz.prog 72 512 (.agg (bz72).toArray) 512 := ⟨by kernel_rfl⟩
instance : TyU Tryz.prog 73 ((TypeDesc.map 9 3)) := ⟨Tryz.underlying73⟩
instance : TyI Tryz.prog 73 1 (.map none) 8 := ⟨by kernel_rfl⟩
instance : TyU Tryz.prog 74 ((TypeDesc.struct #[{ name := "counts", type := 73, offset := 0, embedded := false, tag := "", pkgPath := "sandglass/follow", byteOffset := 0 }, { name := "first", type := 9, offset := 1, embedded := false, tag := "", pkgPath := "sandglass/follow", byteOffset := 8 }, { name := "told", type := 4, offset := 2, embedded := false, tag := "", pkgPath := "sandglass/follow", byteOffset := 24 }])) := ⟨Tryz.underlying74⟩
instance : TyI Tryz.prog 74 3 (.agg #[.map none, .string ⟨#[]⟩, .bool false]) 32 := ⟨by kernel_rfl⟩
instance : TyU Tryz.prog 75 ((TypeDesc.struct #[{ name := "counts", type := 73, offset := 0, embedded := false, tag := "", pkgPath := "sandglass/follow", byteOffset := 0 }, { name := "first", type := 9, offset := 1, embedded := false, tag := "", pkgPath := "sandglass/follow", byteOffset := 8 }, { name := "told", type := 4, offset := 2, embedded := false, tag := "", pkgPath := "sandglass/follow", byteOffset := 24 }])) := ⟨Tryz.underlying75⟩
instance : TyI Tryz.prog 75 3 (.agg #[.map none, .string ⟨#[]⟩, .bool false]) 32 := ⟨by kernel_rfl⟩
instance : TyU Tryz.prog 76 ((TypeDesc.array 64 75)) := ⟨Tryz.underlying76⟩
def bz76 : List Value := (List.replicate 64 [.map none, .string ⟨#[]⟩, .bool false]).flatten
instance : TyI Tryz.prog 76 192 (.agg (bz76).toArray) 2048 := ⟨by kernel_rfl⟩
instance : TyU Tryz.prog 77 ((TypeDesc.struct #[{ name := "t", type := 3, offset := 0, embedded := false, tag := "", pkgPath := "sandglass/follow", byteOffset := 0 }, { name := "heard", type := 72, offset := 1, embedded := false, tag := "", pkgPath := "sandglass/follow", byteOffset := 8 }, { name := "tally", type := 76, offset := 513, embedded := false, tag := "", pkgPath := "sandglass/follow", byteOffset := 520 }])) := ⟨Tryz.underlying77⟩
def bz77 : List Value := [.int .i64 0] ++ (List.replicate 512 [.bool false]).flatten ++ (List.replicate 64 [.map none, .string ⟨#[]⟩, .bool false]).flatten
instance : TyI Tryz.prog 77 705 (.agg (bz77).toArray) 2568 := ⟨by kernel_rfl⟩
instance : TyU Tryz.prog 78 ((TypeDesc.struct #[{ name := "t", type := 3, offset := 0, embedded := false, tag := "", pkgPath := "sandglass/follow", byteOffset := 0 }, { name := "heard", type := 72, offset := 1, embedded := false, tag := "", pkgPath := "sandglass/follow", byteOffset := 8 }, { name := "tally", type := 76, offset := 513, embedded := false, tag := "", pkgPath := "sandglass/follow", byteOffset := 520 }])) := ⟨Tryz.underlying78⟩
def bz78 : List Value := [.int .i64 0] ++ (List.replicate 512 [.bool false]).flatten ++ (List.replicate 64 [.map none, .string ⟨#[]⟩, .bool false]).flatten
instance : TyI Tryz.prog 78 705 (.agg (bz78).toArray) 2568 := ⟨by kernel_rfl⟩
instance : TyU Tryz.prog 79 ((TypeDesc.func #[3] #[4] false)) := ⟨Tryz.underlying79⟩
instance : TyI Tryz.prog 79 1 (.nilFunc) 8 := ⟨by kernel_rfl⟩
instance : TyU Tryz.prog 80 ((TypeDesc.func #[9, 3] #[] false)) := ⟨Tryz.underlying80⟩
instance : TyI Tryz.prog 80 1 (.nilFunc) 8 := ⟨by kernel_rfl⟩
instance : TyU Tryz.prog 81 ((TypeDesc.tuple #[9, 4])) := ⟨Tryz.underlying81⟩
instance : TyU Tryz.prog 82 ((TypeDesc.func #[3] #[9, 4] false)) := ⟨Tryz.underlying82⟩
instance : TyI Tryz.prog 82 1 (.nilFunc) 8 := ⟨by kernel_rfl⟩
instance : TyU Tryz.prog 83 ((TypeDesc.pointer 134)) := ⟨Tryz.underlying83⟩
instance : TyI Tryz.prog 83 1 (.pointer none) 8 := ⟨by kernel_rfl⟩
instance : TyU Tryz.prog 84 ((TypeDesc.func #[] #[83] false)) := ⟨Tryz.underlying84⟩
instance : TyI Tryz.prog 84 1 (.nilFunc) 8 := ⟨by kernel_rfl⟩
instance : TyU Tryz.prog 85 ((TypeDesc.pointer 137)) := ⟨Tryz.underlying85⟩
instance : TyI Tryz.prog 85 1 (.pointer none) 8 := ⟨by kernel_rfl⟩
instance : TyU Tryz.prog 86 ((TypeDesc.func #[3] #[85] false)) := ⟨Tryz.underlying86⟩
instance : TyI Tryz.prog 86 1 (.nilFunc) 8 := ⟨by kernel_rfl⟩
instance : TyU Tryz.prog 87 ((TypeDesc.pointer 143)) := ⟨Tryz.underlying87⟩
instance : TyI Tryz.prog 87 1 (.pointer none) 8 := ⟨by kernel_rfl⟩
instance : TyU Tryz.prog 88 ((TypeDesc.func #[] #[87] false)) := ⟨Tryz.underlying88⟩
instance : TyI Tryz.prog 88 1 (.nilFunc) 8 := ⟨by kernel_rfl⟩
instance : TyU Tryz.prog 89 ((TypeDesc.struct #[{ name := "t", type := 83, offset := 0, embedded := false, tag := "", pkgPath := "sandglass/kv", byteOffset := 0 }, { name := "log", type := 85, offset := 1, embedded := false, tag := "", pkgPath := "sandglass/kv", byteOffset := 8 }, { name := "snap", type := 87, offset := 2, embedded := false, tag := "", pkgPath := "sandglass/kv", byteOffset := 16 }, { name := "saved", type := 3, offset := 3, embedded := false, tag := "", pkgPath := "sandglass/kv", byteOffset := 24 }])) := ⟨Tryz.underlying89⟩
instance : TyI Tryz.prog 89 4 (.agg #[.pointer none, .pointer none, .pointer none, .int .i64 0]) 32 := ⟨by kernel_rfl⟩
instance : TyU Tryz.prog 90 ((TypeDesc.struct #[{ name := "t", type := 83, offset := 0, embedded := false, tag := "", pkgPath := "sandglass/kv", byteOffset := 0 }, { name := "log", type := 85, offset := 1, embedded := false, tag := "", pkgPath := "sandglass/kv", byteOffset := 8 }, { name := "snap", type := 87, offset := 2, embedded := false, tag := "", pkgPath := "sandglass/kv", byteOffset := 16 }, { name := "saved", type := 3, offset := 3, embedded := false, tag := "", pkgPath := "sandglass/kv", byteOffset := 24 }])) := ⟨Tryz.underlying90⟩
instance : TyI Tryz.prog 90 4 (.agg #[.pointer none, .pointer none, .pointer none, .int .i64 0]) 32 := ⟨by kernel_rfl⟩
instance : TyU Tryz.prog 91 ((TypeDesc.func #[107] #[44] false)) := ⟨Tryz.underlying91⟩
instance : TyI Tryz.prog 91 1 (.nilFunc) 8 := ⟨by kernel_rfl⟩
instance : TyU Tryz.prog 92 ((TypeDesc.struct #[{ name := "key", type := 9, offset := 0, embedded := false, tag := "", pkgPath := "sandglass/kv", byteOffset := 0 }, { name := "value", type := 9, offset := 1, embedded := false, tag := "", pkgPath := "sandglass/kv", byteOffset := 16 }])) := ⟨Tryz.underlying92⟩
instance : TyI Tryz.prog 92 2 (.agg #[.string ⟨#[]⟩, .string ⟨#[]⟩]) 32 := ⟨by kernel_rfl⟩
instance : TyU Tryz.prog 93 ((TypeDesc.struct #[{ name := "key", type := 9, offset := 0, embedded := false, tag := "", pkgPath := "sandglass/kv", byteOffset := 0 }, { name := "value", type := 9, offset := 1, embedded := false, tag := "", pkgPath := "sandglass/kv", byteOffset := 16 }])) := ⟨Tryz.underlying93⟩
instance : TyI Tryz.prog 93 2 (.agg #[.string ⟨#[]⟩, .string ⟨#[]⟩]) 32 := ⟨by kernel_rfl⟩
instance : TyU Tryz.prog 94 ((TypeDesc.func #[9] #[9, 4] false)) := ⟨Tryz.underlying94⟩
instance : TyI Tryz.prog 94 1 (.nilFunc) 8 := ⟨by kernel_rfl⟩
instance : TyU Tryz.prog 95 ((TypeDesc.struct #[{ name := "key", type := 9, offset := 0, embedded := false, tag := "", pkgPath := "sandglass/kv", byteOffset := 0 }])) := ⟨Tryz.underlying95⟩
instance : TyI Tryz.prog 95 1 (.agg #[.string ⟨#[]⟩]) 16 := ⟨by kernel_rfl⟩
instance : TyU Tryz.prog 96 ((TypeDesc.struct #[{ name := "key", type := 9, offset := 0, embedded := false, tag := "", pkgPath := "sandglass/kv", byteOffset := 0 }])) := ⟨Tryz.underlying96⟩
instance : TyI Tryz.prog 96 1 (.agg #[.string ⟨#[]⟩]) 16 := ⟨by kernel_rfl⟩
instance : TyU Tryz.prog 97 ((TypeDesc.tuple #[9, 3])) := ⟨Tryz.underlying97⟩
instance : TyU Tryz.prog 98 ((TypeDesc.func #[] #[9, 3] false)) := ⟨Tryz.underlying98⟩
instance : TyI Tryz.prog 98 1 (.nilFunc) 8 := ⟨by kernel_rfl⟩
instance : TyU Tryz.prog 99 ((TypeDesc.func #[9, 3] #[44] false)) := ⟨Tryz.underlying99⟩
instance : TyI Tryz.prog 99 1 (.nilFunc) 8 := ⟨by kernel_rfl⟩
instance : TyU Tryz.prog 100 ((TypeDesc.func #[3] #[9] false)) := ⟨Tryz.underlying100⟩
instance : TyI Tryz.prog 100 1 (.nilFunc) 8 := ⟨by kernel_rfl⟩
instance : TyU Tryz.prog 101 ((TypeDesc.func #[54] #[9] false)) := ⟨Tryz.underlying101⟩
instance : TyI Tryz.prog 101 1 (.nilFunc) 8 := ⟨by kernel_rfl⟩
instance : TyU Tryz.prog 102 ((TypeDesc.func #[3] #[3] false)) := ⟨Tryz.underlying102⟩
instance : TyI Tryz.prog 102 1 (.nilFunc) 8 := ⟨by kernel_rfl⟩
instance : TyU Tryz.prog 103 ((TypeDesc.tuple #[83, 3])) := ⟨Tryz.underlying103⟩
instance : TyU Tryz.prog 104 ((TypeDesc.func #[] #[83, 3] false)) := ⟨Tryz.underlying104⟩
instance : TyI Tryz.prog 104 1 (.nilFunc) 8 := ⟨by kernel_rfl⟩
instance : TyU Tryz.prog 105 ((TypeDesc.func #[3] #[9, 44] false)) := ⟨Tryz.underlying105⟩
instance : TyI Tryz.prog 105 1 (.nilFunc) 8 := ⟨by kernel_rfl⟩
instance : TyU Tryz.prog 106 ((TypeDesc.interface #[("sandglass/kv.bytes", 146), ("sandglass/kv.do", 109)])) := ⟨Tryz.underlying106⟩
instance : TyI Tryz.prog 106 1 (.nilIface) 16 := ⟨by kernel_rfl⟩
instance : TyU Tryz.prog 107 ((TypeDesc.interface #[("sandglass/kv.bytes", 146), ("sandglass/kv.do", 109)])) := ⟨Tryz.underlying107⟩
instance : TyI Tryz.prog 107 1 (.nilIface) 16 := ⟨by kernel_rfl⟩
instance : TyU Tryz.prog 108 ((TypeDesc.func #[9] #[107] false)) := ⟨Tryz.underlying108⟩
instance : TyI Tryz.prog 108 1 (.nilFunc) 8 := ⟨by kernel_rfl⟩
instance : TyU Tryz.prog 109 ((TypeDesc.func #[83] #[] false)) := ⟨Tryz.underlying109⟩
instance : TyI Tryz.prog 109 1 (.nilFunc) 8 := ⟨by kernel_rfl⟩
instance : TyU Tryz.prog 110 ((TypeDesc.struct #[{ name := "Key", type := 9, offset := 0, embedded := false, tag := "", pkgPath := "", byteOffset := 0 }, { name := "Value", type := 9, offset := 1, embedded := false, tag := "", pkgPath := "", byteOffset := 16 }])) := ⟨Tryz.underlying110⟩
instance : TyI Tryz.prog 110 2 (.agg #[.string ⟨#[]⟩, .string ⟨#[]⟩]) 32 := ⟨by kernel_rfl⟩
instance : TyU Tryz.prog 111 ((TypeDesc.struct #[{ name := "Key", type := 9, offset := 0, embedded := false, tag := "", pkgPath := "", byteOffset := 0 }, { name := "Value", type := 9, offset := 1, embedded := false, tag := "", pkgPath := "", byteOffset := 16 }])) := ⟨Tryz.underlying111⟩
instance : TyI Tryz.prog 111 2 (.agg #[.string ⟨#[]⟩, .string ⟨#[]⟩]) 32 := ⟨by kernel_rfl⟩
instance : TyU Tryz.prog 112 ((TypeDesc.func #[59] #[29] false)) := ⟨Tryz.underlying112⟩
instance : TyI Tryz.prog 112 1 (.nilFunc) 8 := ⟨by kernel_rfl⟩
instance : TyU Tryz.prog 113 ((TypeDesc.pointer 179)) := ⟨Tryz.underlying113⟩
instance : TyI Tryz.prog 113 1 (.pointer none) 8 := ⟨by kernel_rfl⟩
instance : TyU Tryz.prog 114 ((TypeDesc.func #[3, 3] #[113] false)) := ⟨Tryz.underlying114⟩
instance : TyI Tryz.prog 114 1 (.nilFunc) 8 := ⟨by kernel_rfl⟩
instance : TyU Tryz.prog 115 ((TypeDesc.struct #[{ name := "value", type := 9, offset := 0, embedded := false, tag := "", pkgPath := "sandglass/agree", byteOffset := 0 }, { name := "round", type := 3, offset := 1, embedded := false, tag := "", pkgPath := "sandglass/agree", byteOffset := 16 }])) := ⟨Tryz.underlying115⟩
instance : TyI Tryz.prog 115 2 (.agg #[.string ⟨#[]⟩, .int .i64 0]) 24 := ⟨by kernel_rfl⟩
instance : TyU Tryz.prog 116 ((TypeDesc.struct #[{ name := "value", type := 9, offset := 0, embedded := false, tag := "", pkgPath := "sandglass/agree", byteOffset := 0 }, { name := "round", type := 3, offset := 1, embedded := false, tag := "", pkgPath := "sandglass/agree", byteOffset := 16 }])) := ⟨Tryz.underlying116⟩
instance : TyI Tryz.prog 116 2 (.agg #[.string ⟨#[]⟩, .int .i64 0]) 24 := ⟨by kernel_rfl⟩
instance : TyU Tryz.prog 117 ((TypeDesc.array 64 59)) := ⟨Tryz.underlying117⟩
def bz117 : List Value := (List.replicate 64 [.int .i64 0, .int .i64 0, .int .i64 0, .int .i64 0, .string ⟨#[]⟩]).flatten
instance : TyI Tryz.prog 117 320 (.agg (bz117).toArray) 3072 := ⟨by kernel_rfl⟩
instance : TyU Tryz.prog 118 ((TypeDesc.func #[59] #[] false)) := ⟨Tryz.underlying118⟩
instance : TyI Tryz.prog 118 1 (.nilFunc) 8 := ⟨by kernel_rfl⟩
instance : TyU Tryz.prog 119 ((TypeDesc.struct #[{ name := "say", type := 118, offset := 0, embedded := false, tag := "", pkgPath := "sandglass/agree", byteOffset := 0 }])) := ⟨Tryz.underlying119⟩
instance : TyI Tryz.prog 119 1 (.agg #[.nilFunc]) 8 := ⟨by kernel_rfl⟩
instance : TyU Tryz.prog 120 ((TypeDesc.struct #[{ name := "say", type := 118, offset := 0, embedded := false, tag := "", pkgPath := "sandglass/agree", byteOffset := 0 }])) := ⟨Tryz.underlying120⟩
instance : TyI Tryz.prog 120 1 (.agg #[.nilFunc]) 8 := ⟨by kernel_rfl⟩
instance : TyU Tryz.prog 121 ((TypeDesc.struct #[{ name := "n", type := 3, offset := 0, embedded := false, tag := "", pkgPath := "sandglass/agree", byteOffset := 0 }, { name := "me", type := 3, offset := 1, embedded := false, tag := "", pkgPath := "sandglass/agree", byteOffset := 8 }, { name := "height", type := 3, offset := 2, embedded := false, tag := "", pkgPath := "sandglass/agree", byteOffset := 16 }, { name := "own", type := 9, offset := 3, embedded := false, tag := "", pkgPath := "sandglass/agree", byteOffset := 24 }, { name := "round", type := 3, offset := 4, embedded := false, tag := "", pkgPath := "sandglass/agree", byteOffset := 40 }, { name := "step", type := 3, offset := 5, embedded := false, tag := "", pkgPath := "sandglass/agree", byteOffset := 48 }, { name := "lock", type := 116, offset := 6, embedded := false, tag := "", pkgPath := "sandglass/agree", byteOffset := 56 }, { name := "valid", type := 116, offset := 8, embedded := false, tag := "", pkgPath := "sandglass/agree", byteOffset := 80 }, { name := "proposals", type := 117, offset := 10, embedded := false, tag := "", pkgPath := "sandglass/agree", byteOffset := 104 }, { name := "votes", type := 113, offset := 330, embedded := false, tag := "", pkgPath := "sandglass/agree", byteOffset := 3176 }, { name := "seen", type := 4, offset := 331, embedded := false, tag := "", pkgPath := "sandglass/agree", byteOffset := 3184 }, { name := "done", type := 4, offset := 332, embedded := false, tag := "", pkgPath := "sandglass/agree", byteOffset := 3185 }, { name := "decision", type := 9, offset := 333, embedded := false, tag := "", pkgPath := "sandglass/agree", byteOffset := 3192 }, { name := "mouth", type := 120, offset := 334, embedded := false, tag := "", pkgPath := "sandglass/agree", byteOffset := 3208 }])) := ⟨Tryz.underlying121⟩
def bz121 : List Value := [.int .i64 0, .int .i64 0, .int .i64 0, .string ⟨#[]⟩, .int .i64 0, .int .i64 0, .string ⟨#[]⟩, .int .i64 0, .string ⟨#[]⟩, .int .i64 0] ++ (List.replicate 64 [.int .i64 0, .int .i64 0, .int .i64 0, .int .i64 0, .string ⟨#[]⟩]).flatten ++ [.pointer none, .bool false, .bool false, .string ⟨#[]⟩, .nilFunc]
instance : TyI Tryz.prog 121 335 (.agg (bz121).toArray) 3216 := ⟨by kernel_rfl⟩
instance : TyU Tryz.prog 122 ((TypeDesc.struct #[{ name := "n", type := 3, offset := 0, embedded := false, tag := "", pkgPath := "sandglass/agree", byteOffset := 0 }, { name := "me", type := 3, offset := 1, embedded := false, tag := "", pkgPath := "sandglass/agree", byteOffset := 8 }, { name := "height", type := 3, offset := 2, embedded := false, tag := "", pkgPath := "sandglass/agree", byteOffset := 16 }, { name := "own", type := 9, offset := 3, embedded := false, tag := "", pkgPath := "sandglass/agree", byteOffset := 24 }, { name := "round", type := 3, offset := 4, embedded := false, tag := "", pkgPath := "sandglass/agree", byteOffset := 40 }, { name := "step", type := 3, offset := 5, embedded := false, tag := "", pkgPath := "sandglass/agree", byteOffset := 48 }, { name := "lock", type := 116, offset := 6, embedded := false, tag := "", pkgPath := "sandglass/agree", byteOffset := 56 }, { name := "valid", type := 116, offset := 8, embedded := false, tag := "", pkgPath := "sandglass/agree", byteOffset := 80 }, { name := "proposals", type := 117, offset := 10, embedded := false, tag := "", pkgPath := "sandglass/agree", byteOffset := 104 }, { name := "votes", type := 113, offset := 330, embedded := false, tag := "", pkgPath := "sandglass/agree", byteOffset := 3176 }, { name := "seen", type := 4, offset := 331, embedded := false, tag := "", pkgPath := "sandglass/agree", byteOffset := 3184 }, { name := "done", type := 4, offset := 332, embedded := false, tag := "", pkgPath := "sandglass/agree", byteOffset := 3185 }, { name := "decision", type := 9, offset := 333, embedded := false, tag := "", pkgPath := "sandglass/agree", byteOffset := 3192 }, { name := "mouth", type := 120, offset := 334, embedded := false, tag := "", pkgPath := "sandglass/agree", byteOffset := 3208 }])) := ⟨Tryz.underlying122⟩
def bz122 : List Value := [.int .i64 0, .int .i64 0, .int .i64 0, .string ⟨#[]⟩, .int .i64 0, .int .i64 0, .string ⟨#[]⟩, .int .i64 0, .string ⟨#[]⟩, .int .i64 0] ++ (List.replicate 64 [.int .i64 0, .int .i64 0, .int .i64 0, .int .i64 0, .string ⟨#[]⟩]).flatten ++ [.pointer none, .bool false, .bool false, .string ⟨#[]⟩, .nilFunc]
instance : TyI Tryz.prog 122 335 (.agg (bz122).toArray) 3216 := ⟨by kernel_rfl⟩
instance : TyU Tryz.prog 123 ((TypeDesc.func #[124] #[29] false)) := ⟨Tryz.underlying123⟩
instance : TyI Tryz.prog 123 1 (.nilFunc) 8 := ⟨by kernel_rfl⟩
instance : TyU Tryz.prog 124 ((TypeDesc.slice 59)) := ⟨Tryz.underlying124⟩
instance : TyI Tryz.prog 124 1 (.slice none 0 0) 24 := ⟨by kernel_rfl⟩
instance : TyU Tryz.prog 125 ((TypeDesc.func #[] #[124] false)) := ⟨Tryz.underlying125⟩
instance : TyI Tryz.prog 125 1 (.nilFunc) 8 := ⟨by kernel_rfl⟩
instance : TyU Tryz.prog 126 ((TypeDesc.func #[26, 9] #[3] false)) := ⟨Tryz.underlying126⟩
instance : TyI Tryz.prog 126 1 (.nilFunc) 8 := ⟨by kernel_rfl⟩
instance : TyU Tryz.prog 127 ((TypeDesc.func #[26, 3, 3] #[26] false)) := ⟨Tryz.underlying127⟩
instance : TyI Tryz.prog 127 1 (.nilFunc) 8 := ⟨by kernel_rfl⟩
instance : TyU Tryz.prog 128 ((TypeDesc.pointer 75)) := ⟨Tryz.underlying128⟩
instance : TyI Tryz.prog 128 1 (.pointer none) 8 := ⟨by kernel_rfl⟩
instance : TyU Tryz.prog 129 ((TypeDesc.pointer 132)) := ⟨Tryz.underlying129⟩
instance : TyI Tryz.prog 129 1 (.pointer none) 8 := ⟨by kernel_rfl⟩
instance : TyU Tryz.prog 130 ((TypeDesc.slice 129)) := ⟨Tryz.underlying130⟩
instance : TyI Tryz.prog 130 1 (.slice none 0 0) 24 := ⟨by kernel_rfl⟩
instance : TyU Tryz.prog 131 ((TypeDesc.struct #[{ name := "pairs", type := 54, offset := 0, embedded := false, tag := "", pkgPath := "sandglass/tree", byteOffset := 0 }, { name := "parts", type := 130, offset := 1, embedded := false, tag := "", pkgPath := "sandglass/tree", byteOffset := 24 }])) := ⟨Tryz.underlying131⟩
instance : TyI Tryz.prog 131 2 (.agg #[.slice none 0 0, .slice none 0 0]) 48 := ⟨by kernel_rfl⟩
instance : TyU Tryz.prog 132 ((TypeDesc.struct #[{ name := "pairs", type := 54, offset := 0, embedded := false, tag := "", pkgPath := "sandglass/tree", byteOffset := 0 }, { name := "parts", type := 130, offset := 1, embedded := false, tag := "", pkgPath := "sandglass/tree", byteOffset := 24 }])) := ⟨Tryz.underlying132⟩
instance : TyI Tryz.prog 132 2 (.agg #[.slice none 0 0, .slice none 0 0]) 48 := ⟨by kernel_rfl⟩
instance : TyU Tryz.prog 133 ((TypeDesc.struct #[{ name := "root", type := 129, offset := 0, embedded := false, tag := "", pkgPath := "sandglass/tree", byteOffset := 0 }, { name := "n", type := 3, offset := 1, embedded := false, tag := "", pkgPath := "sandglass/tree", byteOffset := 8 }])) := ⟨Tryz.underlying133⟩
instance : TyI Tryz.prog 133 2 (.agg #[.pointer none, .int .i64 0]) 16 := ⟨by kernel_rfl⟩
instance : TyU Tryz.prog 134 ((TypeDesc.struct #[{ name := "root", type := 129, offset := 0, embedded := false, tag := "", pkgPath := "sandglass/tree", byteOffset := 0 }, { name := "n", type := 3, offset := 1, embedded := false, tag := "", pkgPath := "sandglass/tree", byteOffset := 8 }])) := ⟨Tryz.underlying134⟩
instance : TyI Tryz.prog 134 2 (.agg #[.pointer none, .int .i64 0]) 16 := ⟨by kernel_rfl⟩
instance : TyU Tryz.prog 135 ((TypeDesc.slice 149)) := ⟨Tryz.underlying135⟩
instance : TyI Tryz.prog 135 1 (.slice none 0 0) 24 := ⟨by kernel_rfl⟩
instance : TyU Tryz.prog 136 ((TypeDesc.struct #[{ name := "size", type := 3, offset := 0, embedded := false, tag := "", pkgPath := "sandglass/segment", byteOffset := 0 }, { name := "sure", type := 3, offset := 1, embedded := false, tag := "", pkgPath := "sandglass/segment", byteOffset := 8 }, { name := "files", type := 135, offset := 2, embedded := false, tag := "", pkgPath := "sandglass/segment", byteOffset := 16 }])) := ⟨Tryz.underlying136⟩
instance : TyI Tryz.prog 136 3 (.agg #[.int .i64 0, .int .i64 0, .slice none 0 0]) 40 := ⟨by kernel_rfl⟩
instance : TyU Tryz.prog 137 ((TypeDesc.struct #[{ name := "size", type := 3, offset := 0, embedded := false, tag := "", pkgPath := "sandglass/segment", byteOffset := 0 }, { name := "sure", type := 3, offset := 1, embedded := false, tag := "", pkgPath := "sandglass/segment", byteOffset := 8 }, { name := "files", type := 135, offset := 2, embedded := false, tag := "", pkgPath := "sandglass/segment", byteOffset := 16 }])) := ⟨Tryz.underlying137⟩
instance : TyI Tryz.prog 137 3 (.agg #[.int .i64 0, .int .i64 0, .slice none 0 0]) 40 := ⟨by kernel_rfl⟩
instance : TyU Tryz.prog 138 ((TypeDesc.slice 5)) := ⟨Tryz.underlying138⟩
instance : TyI Tryz.prog 138 1 (.slice none 0 0) 24 := ⟨by kernel_rfl⟩
instance : TyU Tryz.prog 139 ((TypeDesc.struct #[{ name := "b", type := 138, offset := 0, embedded := false, tag := "", pkgPath := "sandglass/snap", byteOffset := 0 }])) := ⟨Tryz.underlying139⟩
instance : TyI Tryz.prog 139 1 (.agg #[.slice none 0 0]) 24 := ⟨by kernel_rfl⟩
instance : TyU Tryz.prog 140 ((TypeDesc.struct #[{ name := "b", type := 138, offset := 0, embedded := false, tag := "", pkgPath := "sandglass/snap", byteOffset := 0 }])) := ⟨Tryz.underlying140⟩
instance : TyI Tryz.prog 140 1 (.agg #[.slice none 0 0]) 24 := ⟨by kernel_rfl⟩
instance : TyU Tryz.prog 141 ((TypeDesc.array 2 140)) := ⟨Tryz.underlying141⟩
instance : TyI Tryz.prog 141 2 (.agg #[.slice none 0 0, .slice none 0 0]) 48 := ⟨by kernel_rfl⟩
instance : TyU Tryz.prog 142 ((TypeDesc.struct #[{ name := "slots", type := 141, offset := 0, embedded := false, tag := "", pkgPath := "sandglass/snap", byteOffset := 0 }])) := ⟨Tryz.underlying142⟩
instance : TyI Tryz.prog 142 2 (.agg #[.slice none 0 0, .slice none 0 0]) 48 := ⟨by kernel_rfl⟩
instance : TyU Tryz.prog 143 ((TypeDesc.struct #[{ name := "slots", type := 141, offset := 0, embedded := false, tag := "", pkgPath := "sandglass/snap", byteOffset := 0 }])) := ⟨Tryz.underlying143⟩
instance : TyI Tryz.prog 143 2 (.agg #[.slice none 0 0, .slice none 0 0]) 48 := ⟨by kernel_rfl⟩
instance : TyU Tryz.prog 144 ((TypeDesc.tuple #[3, 44])) := ⟨Tryz.underlying144⟩
instance : TyU Tryz.prog 145 ((TypeDesc.func #[9] #[3, 44] false)) := ⟨Tryz.underlying145⟩
instance : TyI Tryz.prog 145 1 (.nilFunc) 8 := ⟨by kernel_rfl⟩
instance : TyU Tryz.prog 146 ((TypeDesc.func #[] #[9] false)) := ⟨Tryz.underlying146⟩
instance : TyI Tryz.prog 146 1 (.nilFunc) 8 := ⟨by kernel_rfl⟩
instance : TyU Tryz.prog 147 ((TypeDesc.tuple #[3, 4])) := ⟨Tryz.underlying147⟩
instance : TyU Tryz.prog 148 ((TypeDesc.func #[9] #[3, 4] false)) := ⟨Tryz.underlying148⟩
instance : TyI Tryz.prog 148 1 (.nilFunc) 8 := ⟨by kernel_rfl⟩
instance : TyU Tryz.prog 149 ((TypeDesc.pointer 154)) := ⟨Tryz.underlying149⟩
instance : TyI Tryz.prog 149 1 (.pointer none) 8 := ⟨by kernel_rfl⟩
instance : TyU Tryz.prog 150 ((TypeDesc.func #[] #[149] false)) := ⟨Tryz.underlying150⟩
instance : TyI Tryz.prog 150 1 (.nilFunc) 8 := ⟨by kernel_rfl⟩
instance : TyU Tryz.prog 151 ((TypeDesc.slice 3)) := ⟨Tryz.underlying151⟩
instance : TyI Tryz.prog 151 1 (.slice none 0 0) 24 := ⟨by kernel_rfl⟩
instance : TyU Tryz.prog 152 ((TypeDesc.pointer 187)) := ⟨Tryz.underlying152⟩
instance : TyI Tryz.prog 152 1 (.pointer none) 8 := ⟨by kernel_rfl⟩
instance : TyU Tryz.prog 153 ((TypeDesc.struct #[{ name := "first", type := 3, offset := 0, embedded := false, tag := "", pkgPath := "sandglass/segment", byteOffset := 0 }, { name := "ends", type := 151, offset := 1, embedded := false, tag := "", pkgPath := "sandglass/segment", byteOffset := 8 }, { name := "disk", type := 152, offset := 2, embedded := false, tag := "", pkgPath := "sandglass/segment", byteOffset := 32 }])) := ⟨Tryz.underlying153⟩
instance : TyI Tryz.prog 153 3 (.agg #[.int .i64 0, .slice none 0 0, .pointer none]) 40 := ⟨by kernel_rfl⟩
instance : TyU Tryz.prog 154 ((TypeDesc.struct #[{ name := "first", type := 3, offset := 0, embedded := false, tag := "", pkgPath := "sandglass/segment", byteOffset := 0 }, { name := "ends", type := 151, offset := 1, embedded := false, tag := "", pkgPath := "sandglass/segment", byteOffset := 8 }, { name := "disk", type := 152, offset := 2, embedded := false, tag := "", pkgPath := "sandglass/segment", byteOffset := 32 }])) := ⟨Tryz.underlying154⟩
instance : TyI Tryz.prog 154 3 (.agg #[.int .i64 0, .slice none 0 0, .pointer none]) 40 := ⟨by kernel_rfl⟩
instance : TyU Tryz.prog 155 ((TypeDesc.func #[157] #[44] false)) := ⟨Tryz.underlying155⟩
instance : TyI Tryz.prog 155 1 (.nilFunc) 8 := ⟨by kernel_rfl⟩
instance : TyU Tryz.prog 156 ((TypeDesc.struct #[{ name := "Kind", type := 3, offset := 0, embedded := false, tag := "", pkgPath := "", byteOffset := 0 }, { name := "Text", type := 9, offset := 1, embedded := false, tag := "", pkgPath := "", byteOffset := 8 }, { name := "Keep", type := 45, offset := 2, embedded := false, tag := "", pkgPath := "", byteOffset := 24 }])) := ⟨Tryz.underlying156⟩
instance : TyI Tryz.prog 156 3 (.agg #[.int .i64 0, .string ⟨#[]⟩, .int .u64 0]) 32 := ⟨by kernel_rfl⟩
instance : TyU Tryz.prog 157 ((TypeDesc.struct #[{ name := "Kind", type := 3, offset := 0, embedded := false, tag := "", pkgPath := "", byteOffset := 0 }, { name := "Text", type := 9, offset := 1, embedded := false, tag := "", pkgPath := "", byteOffset := 8 }, { name := "Keep", type := 45, offset := 2, embedded := false, tag := "", pkgPath := "", byteOffset := 24 }])) := ⟨Tryz.underlying157⟩
instance : TyI Tryz.prog 157 3 (.agg #[.int .i64 0, .string ⟨#[]⟩, .int .u64 0]) 32 := ⟨by kernel_rfl⟩
instance : TyU Tryz.prog 158 ((TypeDesc.int IntKind.u32)) := ⟨Tryz.underlying158⟩
instance : TyI Tryz.prog 158 1 (.int .u32 0) 4 := ⟨by kernel_rfl⟩
instance : TyU Tryz.prog 159 ((TypeDesc.array 3 158)) := ⟨Tryz.underlying159⟩
instance : TyI Tryz.prog 159 3 (.agg #[.int .u32 0, .int .u32 0, .int .u32 0]) 12 := ⟨by kernel_rfl⟩
instance : TyU Tryz.prog 160 ((TypeDesc.func #[] #[159] false)) := ⟨Tryz.underlying160⟩
instance : TyI Tryz.prog 160 1 (.nilFunc) 8 := ⟨by kernel_rfl⟩
instance : TyU Tryz.prog 161 ((TypeDesc.func #[158] #[138] false)) := ⟨Tryz.underlying161⟩
instance : TyI Tryz.prog 161 1 (.nilFunc) 8 := ⟨by kernel_rfl⟩
instance : TyU Tryz.prog 162 ((TypeDesc.func #[9] #[158] false)) := ⟨Tryz.underlying162⟩
instance : TyI Tryz.prog 162 1 (.nilFunc) 8 := ⟨by kernel_rfl⟩
instance : TyU Tryz.prog 163 ((TypeDesc.int IntKind.u64)) := ⟨Tryz.underlying163⟩
instance : TyI Tryz.prog 163 1 (.int .u64 0) 8 := ⟨by kernel_rfl⟩
instance : TyU Tryz.prog 164 ((TypeDesc.func #[26] #[9] false)) := ⟨Tryz.underlying164⟩
instance : TyI Tryz.prog 164 1 (.nilFunc) 8 := ⟨by kernel_rfl⟩
instance : TyU Tryz.prog 165 ((TypeDesc.func #[9, 166] #[4] false)) := ⟨Tryz.underlying165⟩
instance : TyI Tryz.prog 165 1 (.nilFunc) 8 := ⟨by kernel_rfl⟩
instance : TyU Tryz.prog 166 ((TypeDesc.func #[111] #[4] false)) := ⟨Tryz.underlying166⟩
instance : TyI Tryz.prog 166 1 (.nilFunc) 8 := ⟨by kernel_rfl⟩
instance : TyU Tryz.prog 167 ((TypeDesc.func #[135, 3, 3] #[135] false)) := ⟨Tryz.underlying167⟩
instance : TyI Tryz.prog 167 1 (.nilFunc) 8 := ⟨by kernel_rfl⟩
instance : TyU Tryz.prog 168 ((TypeDesc.tuple #[54, 44])) := ⟨Tryz.underlying168⟩
instance : TyU Tryz.prog 169 ((TypeDesc.func #[9] #[54, 44] false)) := ⟨Tryz.underlying169⟩
instance : TyI Tryz.prog 169 1 (.nilFunc) 8 := ⟨by kernel_rfl⟩
instance : TyU Tryz.prog 170 ((TypeDesc.func #[9, 9] #[4] false)) := ⟨Tryz.underlying170⟩
instance : TyI Tryz.prog 170 1 (.nilFunc) 8 := ⟨by kernel_rfl⟩
instance : TyU Tryz.prog 171 ((TypeDesc.tuple #[26, 44])) := ⟨Tryz.underlying171⟩
instance : TyU Tryz.prog 172 ((TypeDesc.func #[9] #[26, 44] false)) := ⟨Tryz.underlying172⟩
instance : TyI Tryz.prog 172 1 (.nilFunc) 8 := ⟨by kernel_rfl⟩
instance : TyU Tryz.prog 173 ((TypeDesc.struct #[])) := ⟨Tryz.underlying173⟩
instance : TyI Tryz.prog 173 0 (.agg #[]) 0 := ⟨by kernel_rfl⟩
instance : TyU Tryz.prog 174 ((TypeDesc.struct #[])) := ⟨Tryz.underlying174⟩
instance : TyI Tryz.prog 174 0 (.agg #[]) 0 := ⟨by kernel_rfl⟩
instance : TyU Tryz.prog 175 ((TypeDesc.func #[] #[9, 4] false)) := ⟨Tryz.underlying175⟩
instance : TyI Tryz.prog 175 1 (.nilFunc) 8 := ⟨by kernel_rfl⟩
instance : TyU Tryz.prog 176 ((TypeDesc.func #[59] #[124] false)) := ⟨Tryz.underlying176⟩
instance : TyI Tryz.prog 176 1 (.nilFunc) 8 := ⟨by kernel_rfl⟩
instance : TyU Tryz.prog 177 ((TypeDesc.func #[3, 3] #[3] false)) := ⟨Tryz.underlying177⟩
instance : TyI Tryz.prog 177 1 (.nilFunc) 8 := ⟨by kernel_rfl⟩
instance : TyU Tryz.prog 178 ((TypeDesc.struct #[{ name := "n", type := 3, offset := 0, embedded := false, tag := "", pkgPath := "sandglass/votes", byteOffset := 0 }, { name := "t", type := 3, offset := 1, embedded := false, tag := "", pkgPath := "sandglass/votes", byteOffset := 8 }, { name := "l", type := 124, offset := 2, embedded := false, tag := "", pkgPath := "sandglass/votes", byteOffset := 16 }])) := ⟨Tryz.underlying178⟩
instance : TyI Tryz.prog 178 3 (.agg #[.int .i64 0, .int .i64 0, .slice none 0 0]) 40 := ⟨by kernel_rfl⟩
instance : TyU Tryz.prog 179 ((TypeDesc.struct #[{ name := "n", type := 3, offset := 0, embedded := false, tag := "", pkgPath := "sandglass/votes", byteOffset := 0 }, { name := "t", type := 3, offset := 1, embedded := false, tag := "", pkgPath := "sandglass/votes", byteOffset := 8 }, { name := "l", type := 124, offset := 2, embedded := false, tag := "", pkgPath := "sandglass/votes", byteOffset := 16 }])) := ⟨Tryz.underlying179⟩
instance : TyI Tryz.prog 179 3 (.agg #[.int .i64 0, .int .i64 0, .slice none 0 0]) 40 := ⟨by kernel_rfl⟩
instance : TyU Tryz.prog 180 ((TypeDesc.func #[1] #[124] false)) := ⟨Tryz.underlying180⟩
instance : TyI Tryz.prog 180 1 (.nilFunc) 8 := ⟨by kernel_rfl⟩
instance : TyU Tryz.prog 181 ((TypeDesc.func #[3] #[] false)) := ⟨Tryz.underlying181⟩
instance : TyI Tryz.prog 181 1 (.nilFunc) 8 := ⟨by kernel_rfl⟩
instance : TyU Tryz.prog 182 ((TypeDesc.func #[] #[152] false)) := ⟨Tryz.underlying182⟩
instance : TyI Tryz.prog 182 1 (.nilFunc) 8 := ⟨by kernel_rfl⟩
instance : TyU Tryz.prog 183 ((TypeDesc.func #[54, 185] #[3, 4] false)) := ⟨Tryz.underlying183⟩
instance : TyI Tryz.prog 183 1 (.nilFunc) 8 := ⟨by kernel_rfl⟩
instance : TyU Tryz.prog 184 ((TypeDesc.func #[9, 9] #[3] false)) := ⟨Tryz.underlying184⟩
instance : TyI Tryz.prog 184 1 (.nilFunc) 8 := ⟨by kernel_rfl⟩
instance : TyU Tryz.prog 185 ((TypeDesc.func #[111] #[3] false)) := ⟨Tryz.underlying185⟩
instance : TyI Tryz.prog 185 1 (.nilFunc) 8 := ⟨by kernel_rfl⟩
instance : TyU Tryz.prog 186 ((TypeDesc.struct #[{ name := "b", type := 138, offset := 0, embedded := false, tag := "", pkgPath := "sandglass/disk", byteOffset := 0 }, { name := "synced", type := 3, offset := 1, embedded := false, tag := "", pkgPath := "sandglass/disk", byteOffset := 24 }])) := ⟨Tryz.underlying186⟩
instance : TyI Tryz.prog 186 2 (.agg #[.slice none 0 0, .int .i64 0]) 32 := ⟨by kernel_rfl⟩
instance : TyU Tryz.prog 187 ((TypeDesc.struct #[{ name := "b", type := 138, offset := 0, embedded := false, tag := "", pkgPath := "sandglass/disk", byteOffset := 0 }, { name := "synced", type := 3, offset := 1, embedded := false, tag := "", pkgPath := "sandglass/disk", byteOffset := 24 }])) := ⟨Tryz.underlying187⟩
instance : TyI Tryz.prog 187 2 (.agg #[.slice none 0 0, .int .i64 0]) 32 := ⟨by kernel_rfl⟩
instance : TyU Tryz.prog 188 ((TypeDesc.func #[158, 9] #[158] false)) := ⟨Tryz.underlying188⟩
instance : TyI Tryz.prog 188 1 (.nilFunc) 8 := ⟨by kernel_rfl⟩
instance : TyU Tryz.prog 189 ((TypeDesc.func #[9] #[9] false)) := ⟨Tryz.underlying189⟩
instance : TyI Tryz.prog 189 1 (.nilFunc) 8 := ⟨by kernel_rfl⟩
instance : TyU Tryz.prog 190 ((TypeDesc.tuple #[26, 3])) := ⟨Tryz.underlying190⟩
instance : TyU Tryz.prog 191 ((TypeDesc.func #[9] #[26, 3] false)) := ⟨Tryz.underlying191⟩
instance : TyI Tryz.prog 191 1 (.nilFunc) 8 := ⟨by kernel_rfl⟩
instance : TyU Tryz.prog 192 ((TypeDesc.tuple #[9, 3, 44])) := ⟨Tryz.underlying192⟩
instance : TyU Tryz.prog 193 ((TypeDesc.func #[9] #[9, 3, 44] false)) := ⟨Tryz.underlying193⟩
instance : TyI Tryz.prog 193 1 (.nilFunc) 8 := ⟨by kernel_rfl⟩
instance : TyU Tryz.prog 194 ((TypeDesc.tuple #[9, 9, 4])) := ⟨Tryz.underlying194⟩
instance : TyU Tryz.prog 195 ((TypeDesc.func #[9] #[9, 9, 4] false)) := ⟨Tryz.underlying195⟩
instance : TyI Tryz.prog 195 1 (.nilFunc) 8 := ⟨by kernel_rfl⟩
instance : TyU Tryz.prog 196 ((TypeDesc.func #[59] #[4] false)) := ⟨Tryz.underlying196⟩
instance : TyI Tryz.prog 196 1 (.nilFunc) 8 := ⟨by kernel_rfl⟩
instance : TyU Tryz.prog 197 ((TypeDesc.func #[3, 3, 3] #[3] false)) := ⟨Tryz.underlying197⟩
instance : TyI Tryz.prog 197 1 (.nilFunc) 8 := ⟨by kernel_rfl⟩
instance : TyU Tryz.prog 198 ((TypeDesc.func #[158] #[9] false)) := ⟨Tryz.underlying198⟩
instance : TyI Tryz.prog 198 1 (.nilFunc) 8 := ⟨by kernel_rfl⟩
instance : TyU Tryz.prog 199 ((TypeDesc.func #[45, 3] #[4] false)) := ⟨Tryz.underlying199⟩
instance : TyI Tryz.prog 199 1 (.nilFunc) 8 := ⟨by kernel_rfl⟩
instance : TyU Tryz.prog 200 ((TypeDesc.func #[158] #[159] false)) := ⟨Tryz.underlying200⟩
instance : TyI Tryz.prog 200 1 (.nilFunc) 8 := ⟨by kernel_rfl⟩
instance : TyU Tryz.prog 201 ((TypeDesc.func #[54] #[54] false)) := ⟨Tryz.underlying201⟩
instance : TyI Tryz.prog 201 1 (.nilFunc) 8 := ⟨by kernel_rfl⟩
instance : TyU Tryz.prog 202 ((TypeDesc.func #[130] #[130] false)) := ⟨Tryz.underlying202⟩
instance : TyI Tryz.prog 202 1 (.nilFunc) 8 := ⟨by kernel_rfl⟩
instance : TyU Tryz.prog 203 ((TypeDesc.func #[54, 3, 54] #[54] true)) := ⟨Tryz.underlying203⟩
instance : TyI Tryz.prog 203 1 (.nilFunc) 8 := ⟨by kernel_rfl⟩
instance : TyU Tryz.prog 204 ((TypeDesc.func #[130, 3, 130] #[130] true)) := ⟨Tryz.underlying204⟩
instance : TyI Tryz.prog 204 1 (.nilFunc) 8 := ⟨by kernel_rfl⟩
instance : TyU Tryz.prog 205 ((TypeDesc.func #[59] #[44] false)) := ⟨Tryz.underlying205⟩
instance : TyI Tryz.prog 205 1 (.nilFunc) 8 := ⟨by kernel_rfl⟩
instance : TyU Tryz.prog 206 ((TypeDesc.func #[3, 9] #[] false)) := ⟨Tryz.underlying206⟩
instance : TyI Tryz.prog 206 1 (.nilFunc) 8 := ⟨by kernel_rfl⟩
instance : TyU Tryz.prog 207 ((TypeDesc.func #[54, 3] #[] false)) := ⟨Tryz.underlying207⟩
instance : TyI Tryz.prog 207 1 (.nilFunc) 8 := ⟨by kernel_rfl⟩
instance : TyU Tryz.prog 208 ((TypeDesc.func #[130, 130] #[4] false)) := ⟨Tryz.underlying208⟩
instance : TyI Tryz.prog 208 1 (.nilFunc) 8 := ⟨by kernel_rfl⟩
instance : TyU Tryz.prog 209 ((TypeDesc.func #[130, 3] #[] false)) := ⟨Tryz.underlying209⟩
instance : TyI Tryz.prog 209 1 (.nilFunc) 8 := ⟨by kernel_rfl⟩
instance : TyU Tryz.prog 210 ((TypeDesc.array 64 3)) := ⟨Tryz.underlying210⟩
instance : TyI Tryz.prog 210 64 (.agg #[.int .i64 0, .int .i64 0, .int .i64 0, .int .i64 0, .int .i64 0, .int .i64 0, .int .i64 0, .int .i64 0, .int .i64 0, .int .i64 0, .int .i64 0, .int .i64 0, .int .i64 0, .int .i64 0, .int .i64 0, .int .i64 0, .int .i64 0, .int .i64 0, .int .i64 0, .int .i64 0, .int .i64 0, .int .i64 0, .int .i64 0, .int .i64 0, .int .i64 0, .int .i64 0, .int .i64 0, .int .i64 0, .int .i64 0, .int .i64 0, .int .i64 0, .int .i64 0, .int .i64 0, .int .i64 0, .int .i64 0, .int .i64 0, .int .i64 0, .int .i64 0, .int .i64 0, .int .i64 0, .int .i64 0, .int .i64 0, .int .i64 0, .int .i64 0, .int .i64 0, .int .i64 0, .int .i64 0, .int .i64 0, .int .i64 0, .int .i64 0, .int .i64 0, .int .i64 0, .int .i64 0, .int .i64 0, .int .i64 0, .int .i64 0, .int .i64 0, .int .i64 0, .int .i64 0, .int .i64 0, .int .i64 0, .int .i64 0, .int .i64 0, .int .i64 0]) 512 := ⟨by kernel_rfl⟩
instance : TyU Tryz.prog 211 ((TypeDesc.func #[3, 3] #[9, 4] false)) := ⟨Tryz.underlying211⟩
instance : TyI Tryz.prog 211 1 (.nilFunc) 8 := ⟨by kernel_rfl⟩
instance : TyU Tryz.prog 212 ((TypeDesc.func #[3, 3, 9] #[3] false)) := ⟨Tryz.underlying212⟩
instance : TyI Tryz.prog 212 1 (.nilFunc) 8 := ⟨by kernel_rfl⟩
instance : TyU Tryz.prog 213 ((TypeDesc.func #[54] #[] false)) := ⟨Tryz.underlying213⟩
instance : TyI Tryz.prog 213 1 (.nilFunc) 8 := ⟨by kernel_rfl⟩
instance : TyU Tryz.prog 214 ((TypeDesc.func #[130] #[] false)) := ⟨Tryz.underlying214⟩
instance : TyI Tryz.prog 214 1 (.nilFunc) 8 := ⟨by kernel_rfl⟩
instance : TyU Tryz.prog 215 ((TypeDesc.float FloatKind.f64)) := ⟨Tryz.underlying215⟩
instance : TyU Tryz.prog 216 ((TypeDesc.complex FloatKind.f64)) := ⟨Tryz.underlying216⟩
instance : TyU Tryz.prog 217 ((TypeDesc.func #[3, 3, 9] #[216] false)) := ⟨Tryz.underlying217⟩
instance : TyI Tryz.prog 217 1 (.nilFunc) 8 := ⟨by kernel_rfl⟩
instance : TyU Tryz.prog 218 ((TypeDesc.struct #[{ name := "_interface", type := 17, offset := 0, embedded := false, tag := "", pkgPath := "runtime", byteOffset := 0 }, { name := "concrete", type := 17, offset := 1, embedded := false, tag := "", pkgPath := "runtime", byteOffset := 8 }, { name := "asserted", type := 17, offset := 2, embedded := false, tag := "", pkgPath := "runtime", byteOffset := 16 }, { name := "missingMethod", type := 9, offset := 3, embedded := false, tag := "", pkgPath := "runtime", byteOffset := 24 }])) := ⟨Tryz.underlying218⟩
instance : TyI Tryz.prog 218 4 (.agg #[.pointer none, .pointer none, .pointer none, .string ⟨#[]⟩]) 40 := ⟨by kernel_rfl⟩
instance : TyU Tryz.prog 219 ((TypeDesc.struct #[{ name := "_interface", type := 17, offset := 0, embedded := false, tag := "", pkgPath := "runtime", byteOffset := 0 }, { name := "concrete", type := 17, offset := 1, embedded := false, tag := "", pkgPath := "runtime", byteOffset := 8 }, { name := "asserted", type := 17, offset := 2, embedded := false, tag := "", pkgPath := "runtime", byteOffset := 16 }, { name := "missingMethod", type := 9, offset := 3, embedded := false, tag := "", pkgPath := "runtime", byteOffset := 24 }])) := ⟨Tryz.underlying219⟩
instance : TyI Tryz.prog 219 4 (.agg #[.pointer none, .pointer none, .pointer none, .string ⟨#[]⟩]) 40 := ⟨by kernel_rfl⟩
instance : TyU Tryz.prog 220 ((TypeDesc.array 0 16)) := ⟨Tryz.underlying220⟩
instance : TyI Tryz.prog 220 0 (.agg #[]) 0 := ⟨by kernel_rfl⟩
instance : TyU Tryz.prog 221 ((TypeDesc.struct #[{ name := "_", type := 220, offset := 0, embedded := false, tag := "", pkgPath := "runtime", byteOffset := 0 }])) := ⟨Tryz.underlying221⟩
instance : TyI Tryz.prog 221 0 (.agg #[]) 0 := ⟨by kernel_rfl⟩
instance : TyU Tryz.prog 222 ((TypeDesc.struct #[{ name := "_", type := 220, offset := 0, embedded := false, tag := "", pkgPath := "runtime", byteOffset := 0 }])) := ⟨Tryz.underlying222⟩
instance : TyI Tryz.prog 222 0 (.agg #[]) 0 := ⟨by kernel_rfl⟩
instance : TyU Tryz.prog 223 ((TypeDesc.int IntKind.u8)) := ⟨Tryz.underlying223⟩
instance : TyI Tryz.prog 223 1 (.int .u8 0) 1 := ⟨by kernel_rfl⟩
instance : TyU Tryz.prog 224 ((TypeDesc.int IntKind.u8)) := ⟨Tryz.underlying224⟩
instance : TyI Tryz.prog 224 1 (.int .u8 0) 1 := ⟨by kernel_rfl⟩
instance : TyU Tryz.prog 225 ((TypeDesc.func #[236, 236] #[4] false)) := ⟨Tryz.underlying225⟩
instance : TyI Tryz.prog 225 1 (.nilFunc) 8 := ⟨by kernel_rfl⟩
instance : TyU Tryz.prog 226 ((TypeDesc.pointer 5)) := ⟨Tryz.underlying226⟩
instance : TyI Tryz.prog 226 1 (.pointer none) 8 := ⟨by kernel_rfl⟩
instance : TyU Tryz.prog 227 ((TypeDesc.int IntKind.i32)) := ⟨Tryz.underlying227⟩
instance : TyI Tryz.prog 227 1 (.int .i32 0) 4 := ⟨by kernel_rfl⟩
instance : TyU Tryz.prog 228 ((TypeDesc.int IntKind.i32)) := ⟨Tryz.underlying228⟩
instance : TyI Tryz.prog 228 1 (.int .i32 0) 4 := ⟨by kernel_rfl⟩
instance : TyU Tryz.prog 229 ((TypeDesc.struct #[{ name := "Size_", type := 12, offset := 0, embedded := false, tag := "", pkgPath := "", byteOffset := 0 }, { name := "PtrBytes", type := 12, offset := 1, embedded := false, tag := "", pkgPath := "", byteOffset := 8 }, { name := "Hash", type := 158, offset := 2, embedded := false, tag := "", pkgPath := "", byteOffset := 16 }, { name := "TFlag", type := 223, offset := 3, embedded := false, tag := "", pkgPath := "", byteOffset := 20 }, { name := "Align_", type := 5, offset := 4, embedded := false, tag := "", pkgPath := "", byteOffset := 21 }, { name := "FieldAlign_", type := 5, offset := 5, embedded := false, tag := "", pkgPath := "", byteOffset := 22 }, { name := "Kind_", type := 224, offset := 6, embedded := false, tag := "", pkgPath := "", byteOffset := 23 }, { name := "Equal", type := 225, offset := 7, embedded := false, tag := "", pkgPath := "", byteOffset := 24 }, { name := "GCData", type := 226, offset := 8, embedded := false, tag := "", pkgPath := "", byteOffset := 32 }, { name := "Str", type := 227, offset := 9, embedded := false, tag := "", pkgPath := "", byteOffset := 40 }, { name := "PtrToThis", type := 228, offset := 10, embedded := false, tag := "", pkgPath := "", byteOffset := 44 }])) := ⟨Tryz.underlying229⟩
instance : TyI Tryz.prog 229 11 (.agg #[.int .u64 0, .int .u64 0, .int .u32 0, .int .u8 0, .int .u8 0, .int .u8 0, .int .u8 0, .nilFunc, .pointer none, .int .i32 0, .int .i32 0]) 48 := ⟨by kernel_rfl⟩
instance : TyU Tryz.prog 230 ((TypeDesc.struct #[{ name := "Size_", type := 12, offset := 0, embedded := false, tag := "", pkgPath := "", byteOffset := 0 }, { name := "PtrBytes", type := 12, offset := 1, embedded := false, tag := "", pkgPath := "", byteOffset := 8 }, { name := "Hash", type := 158, offset := 2, embedded := false, tag := "", pkgPath := "", byteOffset := 16 }, { name := "TFlag", type := 223, offset := 3, embedded := false, tag := "", pkgPath := "", byteOffset := 20 }, { name := "Align_", type := 5, offset := 4, embedded := false, tag := "", pkgPath := "", byteOffset := 21 }, { name := "FieldAlign_", type := 5, offset := 5, embedded := false, tag := "", pkgPath := "", byteOffset := 22 }, { name := "Kind_", type := 224, offset := 6, embedded := false, tag := "", pkgPath := "", byteOffset := 23 }, { name := "Equal", type := 225, offset := 7, embedded := false, tag := "", pkgPath := "", byteOffset := 24 }, { name := "GCData", type := 226, offset := 8, embedded := false, tag := "", pkgPath := "", byteOffset := 32 }, { name := "Str", type := 227, offset := 9, embedded := false, tag := "", pkgPath := "", byteOffset := 40 }, { name := "PtrToThis", type := 228, offset := 10, embedded := false, tag := "", pkgPath := "", byteOffset := 44 }])) := ⟨Tryz.underlying230⟩
instance : TyI Tryz.prog 230 11 (.agg #[.int .u64 0, .int .u64 0, .int .u32 0, .int .u8 0, .int .u8 0, .int .u8 0, .int .u8 0, .nilFunc, .pointer none, .int .i32 0, .int .i32 0]) 48 := ⟨by kernel_rfl⟩
instance : TyU Tryz.prog 231 ((TypeDesc.func #[9] #[] false)) := ⟨Tryz.underlying231⟩
instance : TyI Tryz.prog 231 1 (.nilFunc) 8 := ⟨by kernel_rfl⟩
instance : TyU Tryz.prog 232 ((TypeDesc.func #[54, 3, 3] #[54] false)) := ⟨Tryz.underlying232⟩
instance : TyI Tryz.prog 232 1 (.nilFunc) 8 := ⟨by kernel_rfl⟩
instance : TyU Tryz.prog 233 ((TypeDesc.func #[3] #[129] false)) := ⟨Tryz.underlying233⟩
instance : TyI Tryz.prog 233 1 (.nilFunc) 8 := ⟨by kernel_rfl⟩
instance : TyU Tryz.prog 234 ((TypeDesc.func #[4] #[111] false)) := ⟨Tryz.underlying234⟩
instance : TyI Tryz.prog 234 1 (.nilFunc) 8 := ⟨by kernel_rfl⟩
instance : TyU Tryz.prog 235 ((TypeDesc.func #[130, 3, 3] #[130] false)) := ⟨Tryz.underlying235⟩
instance : TyI Tryz.prog 235 1 (.nilFunc) 8 := ⟨by kernel_rfl⟩
instance : TyU Tryz.prog 236 (TypeDesc.unsafePointer) := ⟨Tryz.underlying236⟩
instance : TyI Tryz.prog 236 1 (.pointer none) 8 := ⟨by kernel_rfl⟩
instance : Places Tryz.prog 7 [(0, 1), (1, 1), (2, 1), (3, 1)] [.int .i64 0, .int .i64 0, .bool false, .int .u8 0] := .of Tryz.underlying7 inferInstance rfl (fun _ => by kernel_rfl)
instance : FldOff Tryz.prog 7 0 0 := .of Tryz.underlying7 (fd := { name := "x", type := 2, offset := 0, embedded := false, tag := "", pkgPath := "runtime", byteOffset := 0 }) rfl inferInstance (by decide)
instance : FldOff Tryz.prog 7 1 1 := .of Tryz.underlying7 (fd := { name := "y", type := 3, offset := 1, embedded := false, tag := "", pkgPath := "runtime", byteOffset := 8 }) rfl inferInstance (by decide)
instance : FldOff Tryz.prog 7 2 2 := .of Tryz.underlying7 (fd := { name := "signed", type := 4, offset := 2, embedded := false, tag := "", pkgPath := "runtime", byteOffset := 16 }) rfl inferInstance (by decide)
instance : FldOff Tryz.prog 7 3 3 := .of Tryz.underlying7 (fd := { name := "code", type := 6, offset := 3, embedded := false, tag := "", pkgPath := "runtime", byteOffset := 17 }) rfl inferInstance (by decide)
instance : Places Tryz.prog 8 [(0, 1), (1, 1), (2, 1), (3, 1)] [.int .i64 0, .int .i64 0, .bool false, .int .u8 0] := .of Tryz.underlying8 inferInstance rfl (fun _ => by kernel_rfl)
instance : FldOff Tryz.prog 8 0 0 := .of Tryz.underlying8 (fd := { name := "x", type := 2, offset := 0, embedded := false, tag := "", pkgPath := "runtime", byteOffset := 0 }) rfl inferInstance (by decide)
instance : FldOff Tryz.prog 8 1 1 := .of Tryz.underlying8 (fd := { name := "y", type := 3, offset := 1, embedded := false, tag := "", pkgPath := "runtime", byteOffset := 8 }) rfl inferInstance (by decide)
instance : FldOff Tryz.prog 8 2 2 := .of Tryz.underlying8 (fd := { name := "signed", type := 4, offset := 2, embedded := false, tag := "", pkgPath := "runtime", byteOffset := 16 }) rfl inferInstance (by decide)
instance : FldOff Tryz.prog 8 3 3 := .of Tryz.underlying8 (fd := { name := "code", type := 6, offset := 3, embedded := false, tag := "", pkgPath := "runtime", byteOffset := 17 }) rfl inferInstance (by decide)
instance : Places Tryz.prog 13 [(0, 1), (1, 1)] [.string ⟨#[]⟩, .int .u64 0] := .of Tryz.underlying13 inferInstance rfl (fun _ => by kernel_rfl)
instance : FldOff Tryz.prog 13 0 0 := .of Tryz.underlying13 (fd := { name := "msg", type := 9, offset := 0, embedded := false, tag := "", pkgPath := "runtime", byteOffset := 0 }) rfl inferInstance (by decide)
instance : FldOff Tryz.prog 13 1 1 := .of Tryz.underlying13 (fd := { name := "addr", type := 12, offset := 1, embedded := false, tag := "", pkgPath := "runtime", byteOffset := 16 }) rfl inferInstance (by decide)
instance : Places Tryz.prog 14 [(0, 1), (1, 1)] [.string ⟨#[]⟩, .int .u64 0] := .of Tryz.underlying14 inferInstance rfl (fun _ => by kernel_rfl)
instance : FldOff Tryz.prog 14 0 0 := .of Tryz.underlying14 (fd := { name := "msg", type := 9, offset := 0, embedded := false, tag := "", pkgPath := "runtime", byteOffset := 0 }) rfl inferInstance (by decide)
instance : FldOff Tryz.prog 14 1 1 := .of Tryz.underlying14 (fd := { name := "addr", type := 12, offset := 1, embedded := false, tag := "", pkgPath := "runtime", byteOffset := 16 }) rfl inferInstance (by decide)
instance : Places Tryz.prog 18 [(0, 1)] [.pointer none] := .of Tryz.underlying18 inferInstance rfl (fun _ => by kernel_rfl)
instance : FldOff Tryz.prog 18 0 0 := .of Tryz.underlying18 (fd := { name := "typ", type := 17, offset := 0, embedded := false, tag := "", pkgPath := "internal/runtime/maps", byteOffset := 0 }) rfl inferInstance (by decide)
instance : Places Tryz.prog 19 [(0, 1)] [.pointer none] := .of Tryz.underlying19 inferInstance rfl (fun _ => by kernel_rfl)
instance : FldOff Tryz.prog 19 0 0 := .of Tryz.underlying19 (fd := { name := "typ", type := 17, offset := 0, embedded := false, tag := "", pkgPath := "internal/runtime/maps", byteOffset := 0 }) rfl inferInstance (by decide)
instance : Places Tryz.prog 35 [(0, 1), (1, 1), (2, 1)] [.int .i64 0, .int .i64 0, .string ⟨#[]⟩] := .of Tryz.underlying35 inferInstance rfl (fun _ => by kernel_rfl)
instance : FldOff Tryz.prog 35 0 0 := .of Tryz.underlying35 (fd := { name := "From", type := 3, offset := 0, embedded := false, tag := "", pkgPath := "", byteOffset := 0 }) rfl inferInstance (by decide)
instance : FldOff Tryz.prog 35 1 1 := .of Tryz.underlying35 (fd := { name := "Height", type := 3, offset := 1, embedded := false, tag := "", pkgPath := "", byteOffset := 8 }) rfl inferInstance (by decide)
instance : FldOff Tryz.prog 35 2 2 := .of Tryz.underlying35 (fd := { name := "Value", type := 9, offset := 2, embedded := false, tag := "", pkgPath := "", byteOffset := 16 }) rfl inferInstance (by decide)
instance : Places Tryz.prog 36 [(0, 1), (1, 1), (2, 1)] [.int .i64 0, .int .i64 0, .string ⟨#[]⟩] := .of Tryz.underlying36 inferInstance rfl (fun _ => by kernel_rfl)
instance : FldOff Tryz.prog 36 0 0 := .of Tryz.underlying36 (fd := { name := "From", type := 3, offset := 0, embedded := false, tag := "", pkgPath := "", byteOffset := 0 }) rfl inferInstance (by decide)
instance : FldOff Tryz.prog 36 1 1 := .of Tryz.underlying36 (fd := { name := "Height", type := 3, offset := 1, embedded := false, tag := "", pkgPath := "", byteOffset := 8 }) rfl inferInstance (by decide)
instance : FldOff Tryz.prog 36 2 2 := .of Tryz.underlying36 (fd := { name := "Value", type := 9, offset := 2, embedded := false, tag := "", pkgPath := "", byteOffset := 16 }) rfl inferInstance (by decide)
instance : Places Tryz.prog 46 [(0, 1), (1, 1), (2, 1), (3, 1), (4, 1)] [.int .i64 0, .int .i64 0, .string ⟨#[]⟩, .string ⟨#[]⟩, .int .u64 0] := .of Tryz.underlying46 inferInstance rfl (fun _ => by kernel_rfl)
instance : FldOff Tryz.prog 46 0 0 := .of Tryz.underlying46 (fd := { name := "Kind", type := 3, offset := 0, embedded := false, tag := "", pkgPath := "", byteOffset := 0 }) rfl inferInstance (by decide)
instance : FldOff Tryz.prog 46 1 1 := .of Tryz.underlying46 (fd := { name := "N", type := 3, offset := 1, embedded := false, tag := "", pkgPath := "", byteOffset := 8 }) rfl inferInstance (by decide)
instance : FldOff Tryz.prog 46 2 2 := .of Tryz.underlying46 (fd := { name := "Key", type := 9, offset := 2, embedded := false, tag := "", pkgPath := "", byteOffset := 16 }) rfl inferInstance (by decide)
instance : FldOff Tryz.prog 46 3 3 := .of Tryz.underlying46 (fd := { name := "Value", type := 9, offset := 3, embedded := false, tag := "", pkgPath := "", byteOffset := 32 }) rfl inferInstance (by decide)
instance : FldOff Tryz.prog 46 4 4 := .of Tryz.underlying46 (fd := { name := "Keep", type := 45, offset := 4, embedded := false, tag := "", pkgPath := "", byteOffset := 48 }) rfl inferInstance (by decide)
instance : Places Tryz.prog 47 [(0, 1), (1, 1), (2, 1), (3, 1), (4, 1)] [.int .i64 0, .int .i64 0, .string ⟨#[]⟩, .string ⟨#[]⟩, .int .u64 0] := .of Tryz.underlying47 inferInstance rfl (fun _ => by kernel_rfl)
instance : FldOff Tryz.prog 47 0 0 := .of Tryz.underlying47 (fd := { name := "Kind", type := 3, offset := 0, embedded := false, tag := "", pkgPath := "", byteOffset := 0 }) rfl inferInstance (by decide)
instance : FldOff Tryz.prog 47 1 1 := .of Tryz.underlying47 (fd := { name := "N", type := 3, offset := 1, embedded := false, tag := "", pkgPath := "", byteOffset := 8 }) rfl inferInstance (by decide)
instance : FldOff Tryz.prog 47 2 2 := .of Tryz.underlying47 (fd := { name := "Key", type := 9, offset := 2, embedded := false, tag := "", pkgPath := "", byteOffset := 16 }) rfl inferInstance (by decide)
instance : FldOff Tryz.prog 47 3 3 := .of Tryz.underlying47 (fd := { name := "Value", type := 9, offset := 3, embedded := false, tag := "", pkgPath := "", byteOffset := 32 }) rfl inferInstance (by decide)
instance : FldOff Tryz.prog 47 4 4 := .of Tryz.underlying47 (fd := { name := "Keep", type := 45, offset := 4, embedded := false, tag := "", pkgPath := "", byteOffset := 48 }) rfl inferInstance (by decide)
instance : Places Tryz.prog 58 [(0, 1), (1, 1), (2, 1), (3, 1), (4, 1)] [.int .i64 0, .int .i64 0, .int .i64 0, .int .i64 0, .string ⟨#[]⟩] := .of Tryz.underlying58 inferInstance rfl (fun _ => by kernel_rfl)
instance : FldOff Tryz.prog 58 0 0 := .of Tryz.underlying58 (fd := { name := "Kind", type := 3, offset := 0, embedded := false, tag := "", pkgPath := "", byteOffset := 0 }) rfl inferInstance (by decide)
instance : FldOff Tryz.prog 58 1 1 := .of Tryz.underlying58 (fd := { name := "From", type := 3, offset := 1, embedded := false, tag := "", pkgPath := "", byteOffset := 8 }) rfl inferInstance (by decide)
instance : FldOff Tryz.prog 58 2 2 := .of Tryz.underlying58 (fd := { name := "Round", type := 3, offset := 2, embedded := false, tag := "", pkgPath := "", byteOffset := 16 }) rfl inferInstance (by decide)
instance : FldOff Tryz.prog 58 3 3 := .of Tryz.underlying58 (fd := { name := "Valid", type := 3, offset := 3, embedded := false, tag := "", pkgPath := "", byteOffset := 24 }) rfl inferInstance (by decide)
instance : FldOff Tryz.prog 58 4 4 := .of Tryz.underlying58 (fd := { name := "Value", type := 9, offset := 4, embedded := false, tag := "", pkgPath := "", byteOffset := 32 }) rfl inferInstance (by decide)
instance : Places Tryz.prog 59 [(0, 1), (1, 1), (2, 1), (3, 1), (4, 1)] [.int .i64 0, .int .i64 0, .int .i64 0, .int .i64 0, .string ⟨#[]⟩] := .of Tryz.underlying59 inferInstance rfl (fun _ => by kernel_rfl)
instance : FldOff Tryz.prog 59 0 0 := .of Tryz.underlying59 (fd := { name := "Kind", type := 3, offset := 0, embedded := false, tag := "", pkgPath := "", byteOffset := 0 }) rfl inferInstance (by decide)
instance : FldOff Tryz.prog 59 1 1 := .of Tryz.underlying59 (fd := { name := "From", type := 3, offset := 1, embedded := false, tag := "", pkgPath := "", byteOffset := 8 }) rfl inferInstance (by decide)
instance : FldOff Tryz.prog 59 2 2 := .of Tryz.underlying59 (fd := { name := "Round", type := 3, offset := 2, embedded := false, tag := "", pkgPath := "", byteOffset := 16 }) rfl inferInstance (by decide)
instance : FldOff Tryz.prog 59 3 3 := .of Tryz.underlying59 (fd := { name := "Valid", type := 3, offset := 3, embedded := false, tag := "", pkgPath := "", byteOffset := 24 }) rfl inferInstance (by decide)
instance : FldOff Tryz.prog 59 4 4 := .of Tryz.underlying59 (fd := { name := "Value", type := 9, offset := 4, embedded := false, tag := "", pkgPath := "", byteOffset := 32 }) rfl inferInstance (by decide)
instance : Places Tryz.prog 60 [(0, 1), (1, 5)] [.int .i64 0, .int .i64 0, .int .i64 0, .int .i64 0, .int .i64 0, .string ⟨#[]⟩] := .of Tryz.underlying60 inferInstance rfl (fun _ => by kernel_rfl)
instance : FldOff Tryz.prog 60 0 0 := .of Tryz.underlying60 (fd := { name := "Height", type := 3, offset := 0, embedded := false, tag := "", pkgPath := "", byteOffset := 0 }) rfl inferInstance (by decide)
instance : FldOff Tryz.prog 60 1 1 := .of Tryz.underlying60 (fd := { name := "Word", type := 59, offset := 1, embedded := false, tag := "", pkgPath := "", byteOffset := 8 }) rfl inferInstance (by decide)
instance : Places Tryz.prog 61 [(0, 1), (1, 5)] [.int .i64 0, .int .i64 0, .int .i64 0, .int .i64 0, .int .i64 0, .string ⟨#[]⟩] := .of Tryz.underlying61 inferInstance rfl (fun _ => by kernel_rfl)
instance : FldOff Tryz.prog 61 0 0 := .of Tryz.underlying61 (fd := { name := "Height", type := 3, offset := 0, embedded := false, tag := "", pkgPath := "", byteOffset := 0 }) rfl inferInstance (by decide)
instance : FldOff Tryz.prog 61 1 1 := .of Tryz.underlying61 (fd := { name := "Word", type := 59, offset := 1, embedded := false, tag := "", pkgPath := "", byteOffset := 8 }) rfl inferInstance (by decide)
instance : Places Tryz.prog 66 [(0, 1), (1, 1), (2, 1), (3, 1), (4, 1), (5, 1), (6, 1)] [.int .i64 0, .int .i64 0, .int .i64 0, .bool false, .pointer none, .slice none 0 0, .slice none 0 0] := .of Tryz.underlying66 inferInstance rfl (fun _ => by kernel_rfl)
instance : FldOff Tryz.prog 66 0 0 := .of Tryz.underlying66 (fd := { name := "n", type := 3, offset := 0, embedded := false, tag := "", pkgPath := "sandglass/chain", byteOffset := 0 }) rfl inferInstance (by decide)
instance : FldOff Tryz.prog 66 1 1 := .of Tryz.underlying66 (fd := { name := "t", type := 3, offset := 1, embedded := false, tag := "", pkgPath := "sandglass/chain", byteOffset := 8 }) rfl inferInstance (by decide)
instance : FldOff Tryz.prog 66 2 2 := .of Tryz.underlying66 (fd := { name := "me", type := 3, offset := 2, embedded := false, tag := "", pkgPath := "sandglass/chain", byteOffset := 16 }) rfl inferInstance (by decide)
instance : FldOff Tryz.prog 66 3 3 := .of Tryz.underlying66 (fd := { name := "begun", type := 4, offset := 3, embedded := false, tag := "", pkgPath := "sandglass/chain", byteOffset := 24 }) rfl inferInstance (by decide)
instance : FldOff Tryz.prog 66 4 4 := .of Tryz.underlying66 (fd := { name := "part", type := 64, offset := 4, embedded := false, tag := "", pkgPath := "sandglass/chain", byteOffset := 32 }) rfl inferInstance (by decide)
instance : FldOff Tryz.prog 66 5 5 := .of Tryz.underlying66 (fd := { name := "log", type := 26, offset := 5, embedded := false, tag := "", pkgPath := "sandglass/chain", byteOffset := 40 }) rfl inferInstance (by decide)
instance : FldOff Tryz.prog 66 6 6 := .of Tryz.underlying66 (fd := { name := "wants", type := 26, offset := 6, embedded := false, tag := "", pkgPath := "sandglass/chain", byteOffset := 64 }) rfl inferInstance (by decide)
instance : Places Tryz.prog 67 [(0, 1), (1, 1), (2, 1), (3, 1), (4, 1), (5, 1), (6, 1)] [.int .i64 0, .int .i64 0, .int .i64 0, .bool false, .pointer none, .slice none 0 0, .slice none 0 0] := .of Tryz.underlying67 inferInstance rfl (fun _ => by kernel_rfl)
instance : FldOff Tryz.prog 67 0 0 := .of Tryz.underlying67 (fd := { name := "n", type := 3, offset := 0, embedded := false, tag := "", pkgPath := "sandglass/chain", byteOffset := 0 }) rfl inferInstance (by decide)
instance : FldOff Tryz.prog 67 1 1 := .of Tryz.underlying67 (fd := { name := "t", type := 3, offset := 1, embedded := false, tag := "", pkgPath := "sandglass/chain", byteOffset := 8 }) rfl inferInstance (by decide)
instance : FldOff Tryz.prog 67 2 2 := .of Tryz.underlying67 (fd := { name := "me", type := 3, offset := 2, embedded := false, tag := "", pkgPath := "sandglass/chain", byteOffset := 16 }) rfl inferInstance (by decide)
instance : FldOff Tryz.prog 67 3 3 := .of Tryz.underlying67 (fd := { name := "begun", type := 4, offset := 3, embedded := false, tag := "", pkgPath := "sandglass/chain", byteOffset := 24 }) rfl inferInstance (by decide)
instance : FldOff Tryz.prog 67 4 4 := .of Tryz.underlying67 (fd := { name := "part", type := 64, offset := 4, embedded := false, tag := "", pkgPath := "sandglass/chain", byteOffset := 32 }) rfl inferInstance (by decide)
instance : FldOff Tryz.prog 67 5 5 := .of Tryz.underlying67 (fd := { name := "log", type := 26, offset := 5, embedded := false, tag := "", pkgPath := "sandglass/chain", byteOffset := 40 }) rfl inferInstance (by decide)
instance : FldOff Tryz.prog 67 6 6 := .of Tryz.underlying67 (fd := { name := "wants", type := 26, offset := 6, embedded := false, tag := "", pkgPath := "sandglass/chain", byteOffset := 64 }) rfl inferInstance (by decide)
instance : Places Tryz.prog 74 [(0, 1), (1, 1), (2, 1)] [.map none, .string ⟨#[]⟩, .bool false] := .of Tryz.underlying74 inferInstance rfl (fun _ => by kernel_rfl)
instance : FldOff Tryz.prog 74 0 0 := .of Tryz.underlying74 (fd := { name := "counts", type := 73, offset := 0, embedded := false, tag := "", pkgPath := "sandglass/follow", byteOffset := 0 }) rfl inferInstance (by decide)
instance : FldOff Tryz.prog 74 1 1 := .of Tryz.underlying74 (fd := { name := "first", type := 9, offset := 1, embedded := false, tag := "", pkgPath := "sandglass/follow", byteOffset := 8 }) rfl inferInstance (by decide)
instance : FldOff Tryz.prog 74 2 2 := .of Tryz.underlying74 (fd := { name := "told", type := 4, offset := 2, embedded := false, tag := "", pkgPath := "sandglass/follow", byteOffset := 24 }) rfl inferInstance (by decide)
instance : Places Tryz.prog 75 [(0, 1), (1, 1), (2, 1)] [.map none, .string ⟨#[]⟩, .bool false] := .of Tryz.underlying75 inferInstance rfl (fun _ => by kernel_rfl)
instance : FldOff Tryz.prog 75 0 0 := .of Tryz.underlying75 (fd := { name := "counts", type := 73, offset := 0, embedded := false, tag := "", pkgPath := "sandglass/follow", byteOffset := 0 }) rfl inferInstance (by decide)
instance : FldOff Tryz.prog 75 1 1 := .of Tryz.underlying75 (fd := { name := "first", type := 9, offset := 1, embedded := false, tag := "", pkgPath := "sandglass/follow", byteOffset := 8 }) rfl inferInstance (by decide)
instance : FldOff Tryz.prog 75 2 2 := .of Tryz.underlying75 (fd := { name := "told", type := 4, offset := 2, embedded := false, tag := "", pkgPath := "sandglass/follow", byteOffset := 24 }) rfl inferInstance (by decide)
instance : Places Tryz.prog 77 [(0, 1), (1, 512), (513, 192)] bz77 := .of Tryz.underlying77 inferInstance rfl (fun _ => by kernel_rfl)
instance : FldOff Tryz.prog 77 0 0 := .of Tryz.underlying77 (fd := { name := "t", type := 3, offset := 0, embedded := false, tag := "", pkgPath := "sandglass/follow", byteOffset := 0 }) rfl inferInstance (by decide)
instance : FldOff Tryz.prog 77 1 1 := .of Tryz.underlying77 (fd := { name := "heard", type := 72, offset := 1, embedded := false, tag := "", pkgPath := "sandglass/follow", byteOffset := 8 }) rfl inferInstance (by decide)
instance : FldOff Tryz.prog 77 2 513 := .of Tryz.underlying77 (fd := { name := "tally", type := 76, offset := 513, embedded := false, tag := "", pkgPath := "sandglass/follow", byteOffset := 520 }) rfl inferInstance (by decide)
instance : Places Tryz.prog 78 [(0, 1), (1, 512), (513, 192)] bz78 := .of Tryz.underlying78 inferInstance rfl (fun _ => by kernel_rfl)
instance : FldOff Tryz.prog 78 0 0 := .of Tryz.underlying78 (fd := { name := "t", type := 3, offset := 0, embedded := false, tag := "", pkgPath := "sandglass/follow", byteOffset := 0 }) rfl inferInstance (by decide)
instance : FldOff Tryz.prog 78 1 1 := .of Tryz.underlying78 (fd := { name := "heard", type := 72, offset := 1, embedded := false, tag := "", pkgPath := "sandglass/follow", byteOffset := 8 }) rfl inferInstance (by decide)
instance : FldOff Tryz.prog 78 2 513 := .of Tryz.underlying78 (fd := { name := "tally", type := 76, offset := 513, embedded := false, tag := "", pkgPath := "sandglass/follow", byteOffset := 520 }) rfl inferInstance (by decide)
instance : Places Tryz.prog 89 [(0, 1), (1, 1), (2, 1), (3, 1)] [.pointer none, .pointer none, .pointer none, .int .i64 0] := .of Tryz.underlying89 inferInstance rfl (fun _ => by kernel_rfl)
instance : FldOff Tryz.prog 89 0 0 := .of Tryz.underlying89 (fd := { name := "t", type := 83, offset := 0, embedded := false, tag := "", pkgPath := "sandglass/kv", byteOffset := 0 }) rfl inferInstance (by decide)
instance : FldOff Tryz.prog 89 1 1 := .of Tryz.underlying89 (fd := { name := "log", type := 85, offset := 1, embedded := false, tag := "", pkgPath := "sandglass/kv", byteOffset := 8 }) rfl inferInstance (by decide)
instance : FldOff Tryz.prog 89 2 2 := .of Tryz.underlying89 (fd := { name := "snap", type := 87, offset := 2, embedded := false, tag := "", pkgPath := "sandglass/kv", byteOffset := 16 }) rfl inferInstance (by decide)
instance : FldOff Tryz.prog 89 3 3 := .of Tryz.underlying89 (fd := { name := "saved", type := 3, offset := 3, embedded := false, tag := "", pkgPath := "sandglass/kv", byteOffset := 24 }) rfl inferInstance (by decide)
instance : Places Tryz.prog 90 [(0, 1), (1, 1), (2, 1), (3, 1)] [.pointer none, .pointer none, .pointer none, .int .i64 0] := .of Tryz.underlying90 inferInstance rfl (fun _ => by kernel_rfl)
instance : FldOff Tryz.prog 90 0 0 := .of Tryz.underlying90 (fd := { name := "t", type := 83, offset := 0, embedded := false, tag := "", pkgPath := "sandglass/kv", byteOffset := 0 }) rfl inferInstance (by decide)
instance : FldOff Tryz.prog 90 1 1 := .of Tryz.underlying90 (fd := { name := "log", type := 85, offset := 1, embedded := false, tag := "", pkgPath := "sandglass/kv", byteOffset := 8 }) rfl inferInstance (by decide)
instance : FldOff Tryz.prog 90 2 2 := .of Tryz.underlying90 (fd := { name := "snap", type := 87, offset := 2, embedded := false, tag := "", pkgPath := "sandglass/kv", byteOffset := 16 }) rfl inferInstance (by decide)
instance : FldOff Tryz.prog 90 3 3 := .of Tryz.underlying90 (fd := { name := "saved", type := 3, offset := 3, embedded := false, tag := "", pkgPath := "sandglass/kv", byteOffset := 24 }) rfl inferInstance (by decide)
instance : Places Tryz.prog 92 [(0, 1), (1, 1)] [.string ⟨#[]⟩, .string ⟨#[]⟩] := .of Tryz.underlying92 inferInstance rfl (fun _ => by kernel_rfl)
instance : FldOff Tryz.prog 92 0 0 := .of Tryz.underlying92 (fd := { name := "key", type := 9, offset := 0, embedded := false, tag := "", pkgPath := "sandglass/kv", byteOffset := 0 }) rfl inferInstance (by decide)
instance : FldOff Tryz.prog 92 1 1 := .of Tryz.underlying92 (fd := { name := "value", type := 9, offset := 1, embedded := false, tag := "", pkgPath := "sandglass/kv", byteOffset := 16 }) rfl inferInstance (by decide)
instance : Places Tryz.prog 93 [(0, 1), (1, 1)] [.string ⟨#[]⟩, .string ⟨#[]⟩] := .of Tryz.underlying93 inferInstance rfl (fun _ => by kernel_rfl)
instance : FldOff Tryz.prog 93 0 0 := .of Tryz.underlying93 (fd := { name := "key", type := 9, offset := 0, embedded := false, tag := "", pkgPath := "sandglass/kv", byteOffset := 0 }) rfl inferInstance (by decide)
instance : FldOff Tryz.prog 93 1 1 := .of Tryz.underlying93 (fd := { name := "value", type := 9, offset := 1, embedded := false, tag := "", pkgPath := "sandglass/kv", byteOffset := 16 }) rfl inferInstance (by decide)
instance : Places Tryz.prog 95 [(0, 1)] [.string ⟨#[]⟩] := .of Tryz.underlying95 inferInstance rfl (fun _ => by kernel_rfl)
instance : FldOff Tryz.prog 95 0 0 := .of Tryz.underlying95 (fd := { name := "key", type := 9, offset := 0, embedded := false, tag := "", pkgPath := "sandglass/kv", byteOffset := 0 }) rfl inferInstance (by decide)
instance : Places Tryz.prog 96 [(0, 1)] [.string ⟨#[]⟩] := .of Tryz.underlying96 inferInstance rfl (fun _ => by kernel_rfl)
instance : FldOff Tryz.prog 96 0 0 := .of Tryz.underlying96 (fd := { name := "key", type := 9, offset := 0, embedded := false, tag := "", pkgPath := "sandglass/kv", byteOffset := 0 }) rfl inferInstance (by decide)
instance : Places Tryz.prog 110 [(0, 1), (1, 1)] [.string ⟨#[]⟩, .string ⟨#[]⟩] := .of Tryz.underlying110 inferInstance rfl (fun _ => by kernel_rfl)
instance : FldOff Tryz.prog 110 0 0 := .of Tryz.underlying110 (fd := { name := "Key", type := 9, offset := 0, embedded := false, tag := "", pkgPath := "", byteOffset := 0 }) rfl inferInstance (by decide)
instance : FldOff Tryz.prog 110 1 1 := .of Tryz.underlying110 (fd := { name := "Value", type := 9, offset := 1, embedded := false, tag := "", pkgPath := "", byteOffset := 16 }) rfl inferInstance (by decide)
instance : Places Tryz.prog 111 [(0, 1), (1, 1)] [.string ⟨#[]⟩, .string ⟨#[]⟩] := .of Tryz.underlying111 inferInstance rfl (fun _ => by kernel_rfl)
instance : FldOff Tryz.prog 111 0 0 := .of Tryz.underlying111 (fd := { name := "Key", type := 9, offset := 0, embedded := false, tag := "", pkgPath := "", byteOffset := 0 }) rfl inferInstance (by decide)
instance : FldOff Tryz.prog 111 1 1 := .of Tryz.underlying111 (fd := { name := "Value", type := 9, offset := 1, embedded := false, tag := "", pkgPath := "", byteOffset := 16 }) rfl inferInstance (by decide)
instance : Places Tryz.prog 115 [(0, 1), (1, 1)] [.string ⟨#[]⟩, .int .i64 0] := .of Tryz.underlying115 inferInstance rfl (fun _ => by kernel_rfl)
instance : FldOff Tryz.prog 115 0 0 := .of Tryz.underlying115 (fd := { name := "value", type := 9, offset := 0, embedded := false, tag := "", pkgPath := "sandglass/agree", byteOffset := 0 }) rfl inferInstance (by decide)
instance : FldOff Tryz.prog 115 1 1 := .of Tryz.underlying115 (fd := { name := "round", type := 3, offset := 1, embedded := false, tag := "", pkgPath := "sandglass/agree", byteOffset := 16 }) rfl inferInstance (by decide)
instance : Places Tryz.prog 116 [(0, 1), (1, 1)] [.string ⟨#[]⟩, .int .i64 0] := .of Tryz.underlying116 inferInstance rfl (fun _ => by kernel_rfl)
instance : FldOff Tryz.prog 116 0 0 := .of Tryz.underlying116 (fd := { name := "value", type := 9, offset := 0, embedded := false, tag := "", pkgPath := "sandglass/agree", byteOffset := 0 }) rfl inferInstance (by decide)
instance : FldOff Tryz.prog 116 1 1 := .of Tryz.underlying116 (fd := { name := "round", type := 3, offset := 1, embedded := false, tag := "", pkgPath := "sandglass/agree", byteOffset := 16 }) rfl inferInstance (by decide)
instance : Places Tryz.prog 119 [(0, 1)] [.nilFunc] := .of Tryz.underlying119 inferInstance rfl (fun _ => by kernel_rfl)
instance : FldOff Tryz.prog 119 0 0 := .of Tryz.underlying119 (fd := { name := "say", type := 118, offset := 0, embedded := false, tag := "", pkgPath := "sandglass/agree", byteOffset := 0 }) rfl inferInstance (by decide)
instance : Places Tryz.prog 120 [(0, 1)] [.nilFunc] := .of Tryz.underlying120 inferInstance rfl (fun _ => by kernel_rfl)
instance : FldOff Tryz.prog 120 0 0 := .of Tryz.underlying120 (fd := { name := "say", type := 118, offset := 0, embedded := false, tag := "", pkgPath := "sandglass/agree", byteOffset := 0 }) rfl inferInstance (by decide)
instance : Places Tryz.prog 121 [(0, 1), (1, 1), (2, 1), (3, 1), (4, 1), (5, 1), (6, 2), (8, 2), (10, 320), (330, 1), (331, 1), (332, 1), (333, 1), (334, 1)] bz121 := .of Tryz.underlying121 inferInstance rfl (fun _ => by kernel_rfl)
instance : FldOff Tryz.prog 121 0 0 := .of Tryz.underlying121 (fd := { name := "n", type := 3, offset := 0, embedded := false, tag := "", pkgPath := "sandglass/agree", byteOffset := 0 }) rfl inferInstance (by decide)
instance : FldOff Tryz.prog 121 1 1 := .of Tryz.underlying121 (fd := { name := "me", type := 3, offset := 1, embedded := false, tag := "", pkgPath := "sandglass/agree", byteOffset := 8 }) rfl inferInstance (by decide)
instance : FldOff Tryz.prog 121 2 2 := .of Tryz.underlying121 (fd := { name := "height", type := 3, offset := 2, embedded := false, tag := "", pkgPath := "sandglass/agree", byteOffset := 16 }) rfl inferInstance (by decide)
instance : FldOff Tryz.prog 121 3 3 := .of Tryz.underlying121 (fd := { name := "own", type := 9, offset := 3, embedded := false, tag := "", pkgPath := "sandglass/agree", byteOffset := 24 }) rfl inferInstance (by decide)
instance : FldOff Tryz.prog 121 4 4 := .of Tryz.underlying121 (fd := { name := "round", type := 3, offset := 4, embedded := false, tag := "", pkgPath := "sandglass/agree", byteOffset := 40 }) rfl inferInstance (by decide)
instance : FldOff Tryz.prog 121 5 5 := .of Tryz.underlying121 (fd := { name := "step", type := 3, offset := 5, embedded := false, tag := "", pkgPath := "sandglass/agree", byteOffset := 48 }) rfl inferInstance (by decide)
instance : FldOff Tryz.prog 121 6 6 := .of Tryz.underlying121 (fd := { name := "lock", type := 116, offset := 6, embedded := false, tag := "", pkgPath := "sandglass/agree", byteOffset := 56 }) rfl inferInstance (by decide)
instance : FldOff Tryz.prog 121 7 8 := .of Tryz.underlying121 (fd := { name := "valid", type := 116, offset := 8, embedded := false, tag := "", pkgPath := "sandglass/agree", byteOffset := 80 }) rfl inferInstance (by decide)
instance : FldOff Tryz.prog 121 8 10 := .of Tryz.underlying121 (fd := { name := "proposals", type := 117, offset := 10, embedded := false, tag := "", pkgPath := "sandglass/agree", byteOffset := 104 }) rfl inferInstance (by decide)
instance : FldOff Tryz.prog 121 9 330 := .of Tryz.underlying121 (fd := { name := "votes", type := 113, offset := 330, embedded := false, tag := "", pkgPath := "sandglass/agree", byteOffset := 3176 }) rfl inferInstance (by decide)
instance : FldOff Tryz.prog 121 10 331 := .of Tryz.underlying121 (fd := { name := "seen", type := 4, offset := 331, embedded := false, tag := "", pkgPath := "sandglass/agree", byteOffset := 3184 }) rfl inferInstance (by decide)
instance : FldOff Tryz.prog 121 11 332 := .of Tryz.underlying121 (fd := { name := "done", type := 4, offset := 332, embedded := false, tag := "", pkgPath := "sandglass/agree", byteOffset := 3185 }) rfl inferInstance (by decide)
instance : FldOff Tryz.prog 121 12 333 := .of Tryz.underlying121 (fd := { name := "decision", type := 9, offset := 333, embedded := false, tag := "", pkgPath := "sandglass/agree", byteOffset := 3192 }) rfl inferInstance (by decide)
instance : FldOff Tryz.prog 121 13 334 := .of Tryz.underlying121 (fd := { name := "mouth", type := 120, offset := 334, embedded := false, tag := "", pkgPath := "sandglass/agree", byteOffset := 3208 }) rfl inferInstance (by decide)
instance : Places Tryz.prog 122 [(0, 1), (1, 1), (2, 1), (3, 1), (4, 1), (5, 1), (6, 2), (8, 2), (10, 320), (330, 1), (331, 1), (332, 1), (333, 1), (334, 1)] bz122 := .of Tryz.underlying122 inferInstance rfl (fun _ => by kernel_rfl)
instance : FldOff Tryz.prog 122 0 0 := .of Tryz.underlying122 (fd := { name := "n", type := 3, offset := 0, embedded := false, tag := "", pkgPath := "sandglass/agree", byteOffset := 0 }) rfl inferInstance (by decide)
instance : FldOff Tryz.prog 122 1 1 := .of Tryz.underlying122 (fd := { name := "me", type := 3, offset := 1, embedded := false, tag := "", pkgPath := "sandglass/agree", byteOffset := 8 }) rfl inferInstance (by decide)
instance : FldOff Tryz.prog 122 2 2 := .of Tryz.underlying122 (fd := { name := "height", type := 3, offset := 2, embedded := false, tag := "", pkgPath := "sandglass/agree", byteOffset := 16 }) rfl inferInstance (by decide)
instance : FldOff Tryz.prog 122 3 3 := .of Tryz.underlying122 (fd := { name := "own", type := 9, offset := 3, embedded := false, tag := "", pkgPath := "sandglass/agree", byteOffset := 24 }) rfl inferInstance (by decide)
instance : FldOff Tryz.prog 122 4 4 := .of Tryz.underlying122 (fd := { name := "round", type := 3, offset := 4, embedded := false, tag := "", pkgPath := "sandglass/agree", byteOffset := 40 }) rfl inferInstance (by decide)
instance : FldOff Tryz.prog 122 5 5 := .of Tryz.underlying122 (fd := { name := "step", type := 3, offset := 5, embedded := false, tag := "", pkgPath := "sandglass/agree", byteOffset := 48 }) rfl inferInstance (by decide)
instance : FldOff Tryz.prog 122 6 6 := .of Tryz.underlying122 (fd := { name := "lock", type := 116, offset := 6, embedded := false, tag := "", pkgPath := "sandglass/agree", byteOffset := 56 }) rfl inferInstance (by decide)
instance : FldOff Tryz.prog 122 7 8 := .of Tryz.underlying122 (fd := { name := "valid", type := 116, offset := 8, embedded := false, tag := "", pkgPath := "sandglass/agree", byteOffset := 80 }) rfl inferInstance (by decide)
instance : FldOff Tryz.prog 122 8 10 := .of Tryz.underlying122 (fd := { name := "proposals", type := 117, offset := 10, embedded := false, tag := "", pkgPath := "sandglass/agree", byteOffset := 104 }) rfl inferInstance (by decide)
instance : FldOff Tryz.prog 122 9 330 := .of Tryz.underlying122 (fd := { name := "votes", type := 113, offset := 330, embedded := false, tag := "", pkgPath := "sandglass/agree", byteOffset := 3176 }) rfl inferInstance (by decide)
instance : FldOff Tryz.prog 122 10 331 := .of Tryz.underlying122 (fd := { name := "seen", type := 4, offset := 331, embedded := false, tag := "", pkgPath := "sandglass/agree", byteOffset := 3184 }) rfl inferInstance (by decide)
instance : FldOff Tryz.prog 122 11 332 := .of Tryz.underlying122 (fd := { name := "done", type := 4, offset := 332, embedded := false, tag := "", pkgPath := "sandglass/agree", byteOffset := 3185 }) rfl inferInstance (by decide)
instance : FldOff Tryz.prog 122 12 333 := .of Tryz.underlying122 (fd := { name := "decision", type := 9, offset := 333, embedded := false, tag := "", pkgPath := "sandglass/agree", byteOffset := 3192 }) rfl inferInstance (by decide)
instance : FldOff Tryz.prog 122 13 334 := .of Tryz.underlying122 (fd := { name := "mouth", type := 120, offset := 334, embedded := false, tag := "", pkgPath := "sandglass/agree", byteOffset := 3208 }) rfl inferInstance (by decide)
instance : Places Tryz.prog 131 [(0, 1), (1, 1)] [.slice none 0 0, .slice none 0 0] := .of Tryz.underlying131 inferInstance rfl (fun _ => by kernel_rfl)
instance : FldOff Tryz.prog 131 0 0 := .of Tryz.underlying131 (fd := { name := "pairs", type := 54, offset := 0, embedded := false, tag := "", pkgPath := "sandglass/tree", byteOffset := 0 }) rfl inferInstance (by decide)
instance : FldOff Tryz.prog 131 1 1 := .of Tryz.underlying131 (fd := { name := "parts", type := 130, offset := 1, embedded := false, tag := "", pkgPath := "sandglass/tree", byteOffset := 24 }) rfl inferInstance (by decide)
instance : Places Tryz.prog 132 [(0, 1), (1, 1)] [.slice none 0 0, .slice none 0 0] := .of Tryz.underlying132 inferInstance rfl (fun _ => by kernel_rfl)
instance : FldOff Tryz.prog 132 0 0 := .of Tryz.underlying132 (fd := { name := "pairs", type := 54, offset := 0, embedded := false, tag := "", pkgPath := "sandglass/tree", byteOffset := 0 }) rfl inferInstance (by decide)
instance : FldOff Tryz.prog 132 1 1 := .of Tryz.underlying132 (fd := { name := "parts", type := 130, offset := 1, embedded := false, tag := "", pkgPath := "sandglass/tree", byteOffset := 24 }) rfl inferInstance (by decide)
instance : Places Tryz.prog 133 [(0, 1), (1, 1)] [.pointer none, .int .i64 0] := .of Tryz.underlying133 inferInstance rfl (fun _ => by kernel_rfl)
instance : FldOff Tryz.prog 133 0 0 := .of Tryz.underlying133 (fd := { name := "root", type := 129, offset := 0, embedded := false, tag := "", pkgPath := "sandglass/tree", byteOffset := 0 }) rfl inferInstance (by decide)
instance : FldOff Tryz.prog 133 1 1 := .of Tryz.underlying133 (fd := { name := "n", type := 3, offset := 1, embedded := false, tag := "", pkgPath := "sandglass/tree", byteOffset := 8 }) rfl inferInstance (by decide)
instance : Places Tryz.prog 134 [(0, 1), (1, 1)] [.pointer none, .int .i64 0] := .of Tryz.underlying134 inferInstance rfl (fun _ => by kernel_rfl)
instance : FldOff Tryz.prog 134 0 0 := .of Tryz.underlying134 (fd := { name := "root", type := 129, offset := 0, embedded := false, tag := "", pkgPath := "sandglass/tree", byteOffset := 0 }) rfl inferInstance (by decide)
instance : FldOff Tryz.prog 134 1 1 := .of Tryz.underlying134 (fd := { name := "n", type := 3, offset := 1, embedded := false, tag := "", pkgPath := "sandglass/tree", byteOffset := 8 }) rfl inferInstance (by decide)
instance : Places Tryz.prog 136 [(0, 1), (1, 1), (2, 1)] [.int .i64 0, .int .i64 0, .slice none 0 0] := .of Tryz.underlying136 inferInstance rfl (fun _ => by kernel_rfl)
instance : FldOff Tryz.prog 136 0 0 := .of Tryz.underlying136 (fd := { name := "size", type := 3, offset := 0, embedded := false, tag := "", pkgPath := "sandglass/segment", byteOffset := 0 }) rfl inferInstance (by decide)
instance : FldOff Tryz.prog 136 1 1 := .of Tryz.underlying136 (fd := { name := "sure", type := 3, offset := 1, embedded := false, tag := "", pkgPath := "sandglass/segment", byteOffset := 8 }) rfl inferInstance (by decide)
instance : FldOff Tryz.prog 136 2 2 := .of Tryz.underlying136 (fd := { name := "files", type := 135, offset := 2, embedded := false, tag := "", pkgPath := "sandglass/segment", byteOffset := 16 }) rfl inferInstance (by decide)
instance : Places Tryz.prog 137 [(0, 1), (1, 1), (2, 1)] [.int .i64 0, .int .i64 0, .slice none 0 0] := .of Tryz.underlying137 inferInstance rfl (fun _ => by kernel_rfl)
instance : FldOff Tryz.prog 137 0 0 := .of Tryz.underlying137 (fd := { name := "size", type := 3, offset := 0, embedded := false, tag := "", pkgPath := "sandglass/segment", byteOffset := 0 }) rfl inferInstance (by decide)
instance : FldOff Tryz.prog 137 1 1 := .of Tryz.underlying137 (fd := { name := "sure", type := 3, offset := 1, embedded := false, tag := "", pkgPath := "sandglass/segment", byteOffset := 8 }) rfl inferInstance (by decide)
instance : FldOff Tryz.prog 137 2 2 := .of Tryz.underlying137 (fd := { name := "files", type := 135, offset := 2, embedded := false, tag := "", pkgPath := "sandglass/segment", byteOffset := 16 }) rfl inferInstance (by decide)
instance : Places Tryz.prog 139 [(0, 1)] [.slice none 0 0] := .of Tryz.underlying139 inferInstance rfl (fun _ => by kernel_rfl)
instance : FldOff Tryz.prog 139 0 0 := .of Tryz.underlying139 (fd := { name := "b", type := 138, offset := 0, embedded := false, tag := "", pkgPath := "sandglass/snap", byteOffset := 0 }) rfl inferInstance (by decide)
instance : Places Tryz.prog 140 [(0, 1)] [.slice none 0 0] := .of Tryz.underlying140 inferInstance rfl (fun _ => by kernel_rfl)
instance : FldOff Tryz.prog 140 0 0 := .of Tryz.underlying140 (fd := { name := "b", type := 138, offset := 0, embedded := false, tag := "", pkgPath := "sandglass/snap", byteOffset := 0 }) rfl inferInstance (by decide)
instance : Places Tryz.prog 142 [(0, 2)] [.slice none 0 0, .slice none 0 0] := .of Tryz.underlying142 inferInstance rfl (fun _ => by kernel_rfl)
instance : FldOff Tryz.prog 142 0 0 := .of Tryz.underlying142 (fd := { name := "slots", type := 141, offset := 0, embedded := false, tag := "", pkgPath := "sandglass/snap", byteOffset := 0 }) rfl inferInstance (by decide)
instance : Places Tryz.prog 143 [(0, 2)] [.slice none 0 0, .slice none 0 0] := .of Tryz.underlying143 inferInstance rfl (fun _ => by kernel_rfl)
instance : FldOff Tryz.prog 143 0 0 := .of Tryz.underlying143 (fd := { name := "slots", type := 141, offset := 0, embedded := false, tag := "", pkgPath := "sandglass/snap", byteOffset := 0 }) rfl inferInstance (by decide)
instance : Places Tryz.prog 153 [(0, 1), (1, 1), (2, 1)] [.int .i64 0, .slice none 0 0, .pointer none] := .of Tryz.underlying153 inferInstance rfl (fun _ => by kernel_rfl)
instance : FldOff Tryz.prog 153 0 0 := .of Tryz.underlying153 (fd := { name := "first", type := 3, offset := 0, embedded := false, tag := "", pkgPath := "sandglass/segment", byteOffset := 0 }) rfl inferInstance (by decide)
instance : FldOff Tryz.prog 153 1 1 := .of Tryz.underlying153 (fd := { name := "ends", type := 151, offset := 1, embedded := false, tag := "", pkgPath := "sandglass/segment", byteOffset := 8 }) rfl inferInstance (by decide)
instance : FldOff Tryz.prog 153 2 2 := .of Tryz.underlying153 (fd := { name := "disk", type := 152, offset := 2, embedded := false, tag := "", pkgPath := "sandglass/segment", byteOffset := 32 }) rfl inferInstance (by decide)
instance : Places Tryz.prog 154 [(0, 1), (1, 1), (2, 1)] [.int .i64 0, .slice none 0 0, .pointer none] := .of Tryz.underlying154 inferInstance rfl (fun _ => by kernel_rfl)
instance : FldOff Tryz.prog 154 0 0 := .of Tryz.underlying154 (fd := { name := "first", type := 3, offset := 0, embedded := false, tag := "", pkgPath := "sandglass/segment", byteOffset := 0 }) rfl inferInstance (by decide)
instance : FldOff Tryz.prog 154 1 1 := .of Tryz.underlying154 (fd := { name := "ends", type := 151, offset := 1, embedded := false, tag := "", pkgPath := "sandglass/segment", byteOffset := 8 }) rfl inferInstance (by decide)
instance : FldOff Tryz.prog 154 2 2 := .of Tryz.underlying154 (fd := { name := "disk", type := 152, offset := 2, embedded := false, tag := "", pkgPath := "sandglass/segment", byteOffset := 32 }) rfl inferInstance (by decide)
instance : Places Tryz.prog 156 [(0, 1), (1, 1), (2, 1)] [.int .i64 0, .string ⟨#[]⟩, .int .u64 0] := .of Tryz.underlying156 inferInstance rfl (fun _ => by kernel_rfl)
instance : FldOff Tryz.prog 156 0 0 := .of Tryz.underlying156 (fd := { name := "Kind", type := 3, offset := 0, embedded := false, tag := "", pkgPath := "", byteOffset := 0 }) rfl inferInstance (by decide)
instance : FldOff Tryz.prog 156 1 1 := .of Tryz.underlying156 (fd := { name := "Text", type := 9, offset := 1, embedded := false, tag := "", pkgPath := "", byteOffset := 8 }) rfl inferInstance (by decide)
instance : FldOff Tryz.prog 156 2 2 := .of Tryz.underlying156 (fd := { name := "Keep", type := 45, offset := 2, embedded := false, tag := "", pkgPath := "", byteOffset := 24 }) rfl inferInstance (by decide)
instance : Places Tryz.prog 157 [(0, 1), (1, 1), (2, 1)] [.int .i64 0, .string ⟨#[]⟩, .int .u64 0] := .of Tryz.underlying157 inferInstance rfl (fun _ => by kernel_rfl)
instance : FldOff Tryz.prog 157 0 0 := .of Tryz.underlying157 (fd := { name := "Kind", type := 3, offset := 0, embedded := false, tag := "", pkgPath := "", byteOffset := 0 }) rfl inferInstance (by decide)
instance : FldOff Tryz.prog 157 1 1 := .of Tryz.underlying157 (fd := { name := "Text", type := 9, offset := 1, embedded := false, tag := "", pkgPath := "", byteOffset := 8 }) rfl inferInstance (by decide)
instance : FldOff Tryz.prog 157 2 2 := .of Tryz.underlying157 (fd := { name := "Keep", type := 45, offset := 2, embedded := false, tag := "", pkgPath := "", byteOffset := 24 }) rfl inferInstance (by decide)
instance : Places Tryz.prog 173 [] [] := .of Tryz.underlying173 inferInstance rfl (fun _ => by kernel_rfl)
instance : Places Tryz.prog 174 [] [] := .of Tryz.underlying174 inferInstance rfl (fun _ => by kernel_rfl)
instance : Places Tryz.prog 178 [(0, 1), (1, 1), (2, 1)] [.int .i64 0, .int .i64 0, .slice none 0 0] := .of Tryz.underlying178 inferInstance rfl (fun _ => by kernel_rfl)
instance : FldOff Tryz.prog 178 0 0 := .of Tryz.underlying178 (fd := { name := "n", type := 3, offset := 0, embedded := false, tag := "", pkgPath := "sandglass/votes", byteOffset := 0 }) rfl inferInstance (by decide)
instance : FldOff Tryz.prog 178 1 1 := .of Tryz.underlying178 (fd := { name := "t", type := 3, offset := 1, embedded := false, tag := "", pkgPath := "sandglass/votes", byteOffset := 8 }) rfl inferInstance (by decide)
instance : FldOff Tryz.prog 178 2 2 := .of Tryz.underlying178 (fd := { name := "l", type := 124, offset := 2, embedded := false, tag := "", pkgPath := "sandglass/votes", byteOffset := 16 }) rfl inferInstance (by decide)
instance : Places Tryz.prog 179 [(0, 1), (1, 1), (2, 1)] [.int .i64 0, .int .i64 0, .slice none 0 0] := .of Tryz.underlying179 inferInstance rfl (fun _ => by kernel_rfl)
instance : FldOff Tryz.prog 179 0 0 := .of Tryz.underlying179 (fd := { name := "n", type := 3, offset := 0, embedded := false, tag := "", pkgPath := "sandglass/votes", byteOffset := 0 }) rfl inferInstance (by decide)
instance : FldOff Tryz.prog 179 1 1 := .of Tryz.underlying179 (fd := { name := "t", type := 3, offset := 1, embedded := false, tag := "", pkgPath := "sandglass/votes", byteOffset := 8 }) rfl inferInstance (by decide)
instance : FldOff Tryz.prog 179 2 2 := .of Tryz.underlying179 (fd := { name := "l", type := 124, offset := 2, embedded := false, tag := "", pkgPath := "sandglass/votes", byteOffset := 16 }) rfl inferInstance (by decide)
instance : Places Tryz.prog 186 [(0, 1), (1, 1)] [.slice none 0 0, .int .i64 0] := .of Tryz.underlying186 inferInstance rfl (fun _ => by kernel_rfl)
instance : FldOff Tryz.prog 186 0 0 := .of Tryz.underlying186 (fd := { name := "b", type := 138, offset := 0, embedded := false, tag := "", pkgPath := "sandglass/disk", byteOffset := 0 }) rfl inferInstance (by decide)
instance : FldOff Tryz.prog 186 1 1 := .of Tryz.underlying186 (fd := { name := "synced", type := 3, offset := 1, embedded := false, tag := "", pkgPath := "sandglass/disk", byteOffset := 24 }) rfl inferInstance (by decide)
instance : Places Tryz.prog 187 [(0, 1), (1, 1)] [.slice none 0 0, .int .i64 0] := .of Tryz.underlying187 inferInstance rfl (fun _ => by kernel_rfl)
instance : FldOff Tryz.prog 187 0 0 := .of Tryz.underlying187 (fd := { name := "b", type := 138, offset := 0, embedded := false, tag := "", pkgPath := "sandglass/disk", byteOffset := 0 }) rfl inferInstance (by decide)
instance : FldOff Tryz.prog 187 1 1 := .of Tryz.underlying187 (fd := { name := "synced", type := 3, offset := 1, embedded := false, tag := "", pkgPath := "sandglass/disk", byteOffset := 24 }) rfl inferInstance (by decide)
instance : Places Tryz.prog 218 [(0, 1), (1, 1), (2, 1), (3, 1)] [.pointer none, .pointer none, .pointer none, .string ⟨#[]⟩] := .of Tryz.underlying218 inferInstance rfl (fun _ => by kernel_rfl)
instance : FldOff Tryz.prog 218 0 0 := .of Tryz.underlying218 (fd := { name := "_interface", type := 17, offset := 0, embedded := false, tag := "", pkgPath := "runtime", byteOffset := 0 }) rfl inferInstance (by decide)
instance : FldOff Tryz.prog 218 1 1 := .of Tryz.underlying218 (fd := { name := "concrete", type := 17, offset := 1, embedded := false, tag := "", pkgPath := "runtime", byteOffset := 8 }) rfl inferInstance (by decide)
instance : FldOff Tryz.prog 218 2 2 := .of Tryz.underlying218 (fd := { name := "asserted", type := 17, offset := 2, embedded := false, tag := "", pkgPath := "runtime", byteOffset := 16 }) rfl inferInstance (by decide)
instance : FldOff Tryz.prog 218 3 3 := .of Tryz.underlying218 (fd := { name := "missingMethod", type := 9, offset := 3, embedded := false, tag := "", pkgPath := "runtime", byteOffset := 24 }) rfl inferInstance (by decide)
instance : Places Tryz.prog 219 [(0, 1), (1, 1), (2, 1), (3, 1)] [.pointer none, .pointer none, .pointer none, .string ⟨#[]⟩] := .of Tryz.underlying219 inferInstance rfl (fun _ => by kernel_rfl)
instance : FldOff Tryz.prog 219 0 0 := .of Tryz.underlying219 (fd := { name := "_interface", type := 17, offset := 0, embedded := false, tag := "", pkgPath := "runtime", byteOffset := 0 }) rfl inferInstance (by decide)
instance : FldOff Tryz.prog 219 1 1 := .of Tryz.underlying219 (fd := { name := "concrete", type := 17, offset := 1, embedded := false, tag := "", pkgPath := "runtime", byteOffset := 8 }) rfl inferInstance (by decide)
instance : FldOff Tryz.prog 219 2 2 := .of Tryz.underlying219 (fd := { name := "asserted", type := 17, offset := 2, embedded := false, tag := "", pkgPath := "runtime", byteOffset := 16 }) rfl inferInstance (by decide)
instance : FldOff Tryz.prog 219 3 3 := .of Tryz.underlying219 (fd := { name := "missingMethod", type := 9, offset := 3, embedded := false, tag := "", pkgPath := "runtime", byteOffset := 24 }) rfl inferInstance (by decide)
instance : Places Tryz.prog 221 [(0, 0)] [] := .of Tryz.underlying221 inferInstance rfl (fun _ => by kernel_rfl)
instance : Places Tryz.prog 222 [(0, 0)] [] := .of Tryz.underlying222 inferInstance rfl (fun _ => by kernel_rfl)
instance : Places Tryz.prog 229 [(0, 1), (1, 1), (2, 1), (3, 1), (4, 1), (5, 1), (6, 1), (7, 1), (8, 1), (9, 1), (10, 1)] [.int .u64 0, .int .u64 0, .int .u32 0, .int .u8 0, .int .u8 0, .int .u8 0, .int .u8 0, .nilFunc, .pointer none, .int .i32 0, .int .i32 0] := .of Tryz.underlying229 inferInstance rfl (fun _ => by kernel_rfl)
instance : FldOff Tryz.prog 229 0 0 := .of Tryz.underlying229 (fd := { name := "Size_", type := 12, offset := 0, embedded := false, tag := "", pkgPath := "", byteOffset := 0 }) rfl inferInstance (by decide)
instance : FldOff Tryz.prog 229 1 1 := .of Tryz.underlying229 (fd := { name := "PtrBytes", type := 12, offset := 1, embedded := false, tag := "", pkgPath := "", byteOffset := 8 }) rfl inferInstance (by decide)
instance : FldOff Tryz.prog 229 2 2 := .of Tryz.underlying229 (fd := { name := "Hash", type := 158, offset := 2, embedded := false, tag := "", pkgPath := "", byteOffset := 16 }) rfl inferInstance (by decide)
instance : FldOff Tryz.prog 229 3 3 := .of Tryz.underlying229 (fd := { name := "TFlag", type := 223, offset := 3, embedded := false, tag := "", pkgPath := "", byteOffset := 20 }) rfl inferInstance (by decide)
instance : FldOff Tryz.prog 229 4 4 := .of Tryz.underlying229 (fd := { name := "Align_", type := 5, offset := 4, embedded := false, tag := "", pkgPath := "", byteOffset := 21 }) rfl inferInstance (by decide)
instance : FldOff Tryz.prog 229 5 5 := .of Tryz.underlying229 (fd := { name := "FieldAlign_", type := 5, offset := 5, embedded := false, tag := "", pkgPath := "", byteOffset := 22 }) rfl inferInstance (by decide)
instance : FldOff Tryz.prog 229 6 6 := .of Tryz.underlying229 (fd := { name := "Kind_", type := 224, offset := 6, embedded := false, tag := "", pkgPath := "", byteOffset := 23 }) rfl inferInstance (by decide)
instance : FldOff Tryz.prog 229 7 7 := .of Tryz.underlying229 (fd := { name := "Equal", type := 225, offset := 7, embedded := false, tag := "", pkgPath := "", byteOffset := 24 }) rfl inferInstance (by decide)
instance : FldOff Tryz.prog 229 8 8 := .of Tryz.underlying229 (fd := { name := "GCData", type := 226, offset := 8, embedded := false, tag := "", pkgPath := "", byteOffset := 32 }) rfl inferInstance (by decide)
instance : FldOff Tryz.prog 229 9 9 := .of Tryz.underlying229 (fd := { name := "Str", type := 227, offset := 9, embedded := false, tag := "", pkgPath := "", byteOffset := 40 }) rfl inferInstance (by decide)
instance : FldOff Tryz.prog 229 10 10 := .of Tryz.underlying229 (fd := { name := "PtrToThis", type := 228, offset := 10, embedded := false, tag := "", pkgPath := "", byteOffset := 44 }) rfl inferInstance (by decide)
instance : Places Tryz.prog 230 [(0, 1), (1, 1), (2, 1), (3, 1), (4, 1), (5, 1), (6, 1), (7, 1), (8, 1), (9, 1), (10, 1)] [.int .u64 0, .int .u64 0, .int .u32 0, .int .u8 0, .int .u8 0, .int .u8 0, .int .u8 0, .nilFunc, .pointer none, .int .i32 0, .int .i32 0] := .of Tryz.underlying230 inferInstance rfl (fun _ => by kernel_rfl)
instance : FldOff Tryz.prog 230 0 0 := .of Tryz.underlying230 (fd := { name := "Size_", type := 12, offset := 0, embedded := false, tag := "", pkgPath := "", byteOffset := 0 }) rfl inferInstance (by decide)
instance : FldOff Tryz.prog 230 1 1 := .of Tryz.underlying230 (fd := { name := "PtrBytes", type := 12, offset := 1, embedded := false, tag := "", pkgPath := "", byteOffset := 8 }) rfl inferInstance (by decide)
instance : FldOff Tryz.prog 230 2 2 := .of Tryz.underlying230 (fd := { name := "Hash", type := 158, offset := 2, embedded := false, tag := "", pkgPath := "", byteOffset := 16 }) rfl inferInstance (by decide)
instance : FldOff Tryz.prog 230 3 3 := .of Tryz.underlying230 (fd := { name := "TFlag", type := 223, offset := 3, embedded := false, tag := "", pkgPath := "", byteOffset := 20 }) rfl inferInstance (by decide)
instance : FldOff Tryz.prog 230 4 4 := .of Tryz.underlying230 (fd := { name := "Align_", type := 5, offset := 4, embedded := false, tag := "", pkgPath := "", byteOffset := 21 }) rfl inferInstance (by decide)
instance : FldOff Tryz.prog 230 5 5 := .of Tryz.underlying230 (fd := { name := "FieldAlign_", type := 5, offset := 5, embedded := false, tag := "", pkgPath := "", byteOffset := 22 }) rfl inferInstance (by decide)
instance : FldOff Tryz.prog 230 6 6 := .of Tryz.underlying230 (fd := { name := "Kind_", type := 224, offset := 6, embedded := false, tag := "", pkgPath := "", byteOffset := 23 }) rfl inferInstance (by decide)
instance : FldOff Tryz.prog 230 7 7 := .of Tryz.underlying230 (fd := { name := "Equal", type := 225, offset := 7, embedded := false, tag := "", pkgPath := "", byteOffset := 24 }) rfl inferInstance (by decide)
instance : FldOff Tryz.prog 230 8 8 := .of Tryz.underlying230 (fd := { name := "GCData", type := 226, offset := 8, embedded := false, tag := "", pkgPath := "", byteOffset := 32 }) rfl inferInstance (by decide)
instance : FldOff Tryz.prog 230 9 9 := .of Tryz.underlying230 (fd := { name := "Str", type := 227, offset := 9, embedded := false, tag := "", pkgPath := "", byteOffset := 40 }) rfl inferInstance (by decide)
instance : FldOff Tryz.prog 230 10 10 := .of Tryz.underlying230 (fd := { name := "PtrToThis", type := 228, offset := 10, embedded := false, tag := "", pkgPath := "", byteOffset := 44 }) rfl inferInstance (by decide)
instance : HasFn Tryz.prog 3 := ⟨_, Tryz.func3, by kernel_rfl, by kernel_rfl⟩
instance : HasFn Tryz.prog 4 := ⟨_, Tryz.func4, by kernel_rfl, by kernel_rfl⟩
instance : HasFn Tryz.prog 5 := ⟨_, Tryz.func5, by kernel_rfl, by kernel_rfl⟩
instance : HasFn Tryz.prog 6 := ⟨_, Tryz.func6, by kernel_rfl, by kernel_rfl⟩
instance : HasFn Tryz.prog 7 := ⟨_, Tryz.func7, by kernel_rfl, by kernel_rfl⟩
instance : HasFn Tryz.prog 8 := ⟨_, Tryz.func8, by kernel_rfl, by kernel_rfl⟩
instance : HasFn Tryz.prog 9 := ⟨_, Tryz.func9, by kernel_rfl, by kernel_rfl⟩
instance : HasFn Tryz.prog 10 := ⟨_, Tryz.func10, by kernel_rfl, by kernel_rfl⟩
instance : HasFn Tryz.prog 11 := ⟨_, Tryz.func11, by kernel_rfl, by kernel_rfl⟩
instance : HasFn Tryz.prog 12 := ⟨_, Tryz.func12, by kernel_rfl, by kernel_rfl⟩
instance : HasFn Tryz.prog 13 := ⟨_, Tryz.func13, by kernel_rfl, by kernel_rfl⟩
instance : HasFn Tryz.prog 14 := ⟨_, Tryz.func14, by kernel_rfl, by kernel_rfl⟩
instance : HasFn Tryz.prog 15 := ⟨_, Tryz.func15, by kernel_rfl, by kernel_rfl⟩
instance : HasFn Tryz.prog 16 := ⟨_, Tryz.func16, by kernel_rfl, by kernel_rfl⟩
instance : HasFn Tryz.prog 17 := ⟨_, Tryz.func17, by kernel_rfl, by kernel_rfl⟩
instance : HasFn Tryz.prog 18 := ⟨_, Tryz.func18, by kernel_rfl, by kernel_rfl⟩
instance : HasFn Tryz.prog 19 := ⟨_, Tryz.func19, by kernel_rfl, by kernel_rfl⟩
instance : HasFn Tryz.prog 20 := ⟨_, Tryz.func20, by kernel_rfl, by kernel_rfl⟩
instance : HasFn Tryz.prog 21 := ⟨_, Tryz.func21, by kernel_rfl, by kernel_rfl⟩
instance : HasFn Tryz.prog 22 := ⟨_, Tryz.func22, by kernel_rfl, by kernel_rfl⟩
instance : HasFn Tryz.prog 23 := ⟨_, Tryz.func23, by kernel_rfl, by kernel_rfl⟩
instance : HasFn Tryz.prog 24 := ⟨_, Tryz.func24, by kernel_rfl, by kernel_rfl⟩
instance : HasFn Tryz.prog 25 := ⟨_, Tryz.func25, by kernel_rfl, by kernel_rfl⟩
instance : HasFn Tryz.prog 26 := ⟨_, Tryz.func26, by kernel_rfl, by kernel_rfl⟩
instance : HasFn Tryz.prog 27 := ⟨_, Tryz.func27, by kernel_rfl, by kernel_rfl⟩
instance : HasFn Tryz.prog 28 := ⟨_, Tryz.func28, by kernel_rfl, by kernel_rfl⟩
instance : HasFn Tryz.prog 29 := ⟨_, Tryz.func29, by kernel_rfl, by kernel_rfl⟩
instance : HasFn Tryz.prog 30 := ⟨_, Tryz.func30, by kernel_rfl, by kernel_rfl⟩
instance : HasFn Tryz.prog 31 := ⟨_, Tryz.func31, by kernel_rfl, by kernel_rfl⟩
instance : HasFn Tryz.prog 32 := ⟨_, Tryz.func32, by kernel_rfl, by kernel_rfl⟩
instance : HasFn Tryz.prog 33 := ⟨_, Tryz.func33, by kernel_rfl, by kernel_rfl⟩
instance : HasFn Tryz.prog 34 := ⟨_, Tryz.func34, by kernel_rfl, by kernel_rfl⟩
instance : HasFn Tryz.prog 35 := ⟨_, Tryz.func35, by kernel_rfl, by kernel_rfl⟩
instance : HasFn Tryz.prog 36 := ⟨_, Tryz.func36, by kernel_rfl, by kernel_rfl⟩
instance : HasFn Tryz.prog 37 := ⟨_, Tryz.func37, by kernel_rfl, by kernel_rfl⟩
instance : HasFn Tryz.prog 38 := ⟨_, Tryz.func38, by kernel_rfl, by kernel_rfl⟩
instance : HasFn Tryz.prog 39 := ⟨_, Tryz.func39, by kernel_rfl, by kernel_rfl⟩
instance : HasFn Tryz.prog 40 := ⟨_, Tryz.func40, by kernel_rfl, by kernel_rfl⟩
instance : HasFn Tryz.prog 41 := ⟨_, Tryz.func41, by kernel_rfl, by kernel_rfl⟩
instance : HasFn Tryz.prog 42 := ⟨_, Tryz.func42, by kernel_rfl, by kernel_rfl⟩
instance : HasFn Tryz.prog 43 := ⟨_, Tryz.func43, by kernel_rfl, by kernel_rfl⟩
instance : HasFn Tryz.prog 44 := ⟨_, Tryz.func44, by kernel_rfl, by kernel_rfl⟩
instance : HasFn Tryz.prog 45 := ⟨_, Tryz.func45, by kernel_rfl, by kernel_rfl⟩
instance : HasFn Tryz.prog 46 := ⟨_, Tryz.func46, by kernel_rfl, by kernel_rfl⟩
instance : HasFn Tryz.prog 47 := ⟨_, Tryz.func47, by kernel_rfl, by kernel_rfl⟩
instance : HasFn Tryz.prog 48 := ⟨_, Tryz.func48, by kernel_rfl, by kernel_rfl⟩
instance : HasFn Tryz.prog 49 := ⟨_, Tryz.func49, by kernel_rfl, by kernel_rfl⟩
instance : HasFn Tryz.prog 50 := ⟨_, Tryz.func50, by kernel_rfl, by kernel_rfl⟩
instance : HasFn Tryz.prog 51 := ⟨_, Tryz.func51, by kernel_rfl, by kernel_rfl⟩
instance : HasFn Tryz.prog 52 := ⟨_, Tryz.func52, by kernel_rfl, by kernel_rfl⟩
instance : HasFn Tryz.prog 53 := ⟨_, Tryz.func53, by kernel_rfl, by kernel_rfl⟩
instance : HasFn Tryz.prog 54 := ⟨_, Tryz.func54, by kernel_rfl, by kernel_rfl⟩
instance : HasFn Tryz.prog 55 := ⟨_, Tryz.func55, by kernel_rfl, by kernel_rfl⟩
instance : HasFn Tryz.prog 56 := ⟨_, Tryz.func56, by kernel_rfl, by kernel_rfl⟩
instance : HasFn Tryz.prog 57 := ⟨_, Tryz.func57, by kernel_rfl, by kernel_rfl⟩
instance : HasFn Tryz.prog 58 := ⟨_, Tryz.func58, by kernel_rfl, by kernel_rfl⟩
instance : HasFn Tryz.prog 59 := ⟨_, Tryz.func59, by kernel_rfl, by kernel_rfl⟩
instance : HasFn Tryz.prog 60 := ⟨_, Tryz.func60, by kernel_rfl, by kernel_rfl⟩
instance : HasFn Tryz.prog 61 := ⟨_, Tryz.func61, by kernel_rfl, by kernel_rfl⟩
instance : HasFn Tryz.prog 62 := ⟨_, Tryz.func62, by kernel_rfl, by kernel_rfl⟩
instance : HasFn Tryz.prog 63 := ⟨_, Tryz.func63, by kernel_rfl, by kernel_rfl⟩
instance : HasFn Tryz.prog 64 := ⟨_, Tryz.func64, by kernel_rfl, by kernel_rfl⟩
instance : HasFn Tryz.prog 65 := ⟨_, Tryz.func65, by kernel_rfl, by kernel_rfl⟩
instance : HasFn Tryz.prog 66 := ⟨_, Tryz.func66, by kernel_rfl, by kernel_rfl⟩
instance : HasFn Tryz.prog 67 := ⟨_, Tryz.func67, by kernel_rfl, by kernel_rfl⟩
instance : HasFn Tryz.prog 68 := ⟨_, Tryz.func68, by kernel_rfl, by kernel_rfl⟩
instance : HasFn Tryz.prog 69 := ⟨_, Tryz.func69, by kernel_rfl, by kernel_rfl⟩
instance : HasFn Tryz.prog 70 := ⟨_, Tryz.func70, by kernel_rfl, by kernel_rfl⟩
instance : HasFn Tryz.prog 71 := ⟨_, Tryz.func71, by kernel_rfl, by kernel_rfl⟩
instance : HasFn Tryz.prog 72 := ⟨_, Tryz.func72, by kernel_rfl, by kernel_rfl⟩
instance : HasFn Tryz.prog 73 := ⟨_, Tryz.func73, by kernel_rfl, by kernel_rfl⟩
instance : HasFn Tryz.prog 74 := ⟨_, Tryz.func74, by kernel_rfl, by kernel_rfl⟩
instance : HasFn Tryz.prog 75 := ⟨_, Tryz.func75, by kernel_rfl, by kernel_rfl⟩
instance : HasFn Tryz.prog 76 := ⟨_, Tryz.func76, by kernel_rfl, by kernel_rfl⟩
instance : HasFn Tryz.prog 77 := ⟨_, Tryz.func77, by kernel_rfl, by kernel_rfl⟩
instance : HasFn Tryz.prog 78 := ⟨_, Tryz.func78, by kernel_rfl, by kernel_rfl⟩
instance : HasFn Tryz.prog 79 := ⟨_, Tryz.func79, by kernel_rfl, by kernel_rfl⟩
instance : HasFn Tryz.prog 80 := ⟨_, Tryz.func80, by kernel_rfl, by kernel_rfl⟩
instance : HasFn Tryz.prog 81 := ⟨_, Tryz.func81, by kernel_rfl, by kernel_rfl⟩
instance : HasFn Tryz.prog 82 := ⟨_, Tryz.func82, by kernel_rfl, by kernel_rfl⟩
instance : HasFn Tryz.prog 83 := ⟨_, Tryz.func83, by kernel_rfl, by kernel_rfl⟩
instance : HasFn Tryz.prog 84 := ⟨_, Tryz.func84, by kernel_rfl, by kernel_rfl⟩
instance : HasFn Tryz.prog 85 := ⟨_, Tryz.func85, by kernel_rfl, by kernel_rfl⟩
instance : HasFn Tryz.prog 86 := ⟨_, Tryz.func86, by kernel_rfl, by kernel_rfl⟩
instance : HasFn Tryz.prog 87 := ⟨_, Tryz.func87, by kernel_rfl, by kernel_rfl⟩
instance : HasFn Tryz.prog 88 := ⟨_, Tryz.func88, by kernel_rfl, by kernel_rfl⟩
instance : HasFn Tryz.prog 89 := ⟨_, Tryz.func89, by kernel_rfl, by kernel_rfl⟩
instance : HasFn Tryz.prog 90 := ⟨_, Tryz.func90, by kernel_rfl, by kernel_rfl⟩
instance : HasFn Tryz.prog 91 := ⟨_, Tryz.func91, by kernel_rfl, by kernel_rfl⟩
instance : HasFn Tryz.prog 92 := ⟨_, Tryz.func92, by kernel_rfl, by kernel_rfl⟩
instance : HasFn Tryz.prog 93 := ⟨_, Tryz.func93, by kernel_rfl, by kernel_rfl⟩
instance : HasFn Tryz.prog 94 := ⟨_, Tryz.func94, by kernel_rfl, by kernel_rfl⟩
instance : HasFn Tryz.prog 95 := ⟨_, Tryz.func95, by kernel_rfl, by kernel_rfl⟩
instance : HasFn Tryz.prog 96 := ⟨_, Tryz.func96, by kernel_rfl, by kernel_rfl⟩
instance : HasFn Tryz.prog 97 := ⟨_, Tryz.func97, by kernel_rfl, by kernel_rfl⟩
instance : HasFn Tryz.prog 98 := ⟨_, Tryz.func98, by kernel_rfl, by kernel_rfl⟩
instance : HasFn Tryz.prog 99 := ⟨_, Tryz.func99, by kernel_rfl, by kernel_rfl⟩
instance : HasFn Tryz.prog 100 := ⟨_, Tryz.func100, by kernel_rfl, by kernel_rfl⟩
instance : HasFn Tryz.prog 101 := ⟨_, Tryz.func101, by kernel_rfl, by kernel_rfl⟩
instance : HasFn Tryz.prog 102 := ⟨_, Tryz.func102, by kernel_rfl, by kernel_rfl⟩
instance : HasFn Tryz.prog 103 := ⟨_, Tryz.func103, by kernel_rfl, by kernel_rfl⟩
instance : HasFn Tryz.prog 104 := ⟨_, Tryz.func104, by kernel_rfl, by kernel_rfl⟩
instance : HasFn Tryz.prog 105 := ⟨_, Tryz.func105, by kernel_rfl, by kernel_rfl⟩
instance : HasFn Tryz.prog 106 := ⟨_, Tryz.func106, by kernel_rfl, by kernel_rfl⟩
instance : HasFn Tryz.prog 107 := ⟨_, Tryz.func107, by kernel_rfl, by kernel_rfl⟩
instance : HasFn Tryz.prog 108 := ⟨_, Tryz.func108, by kernel_rfl, by kernel_rfl⟩
instance : HasFn Tryz.prog 109 := ⟨_, Tryz.func109, by kernel_rfl, by kernel_rfl⟩
instance : HasFn Tryz.prog 110 := ⟨_, Tryz.func110, by kernel_rfl, by kernel_rfl⟩
instance : HasFn Tryz.prog 111 := ⟨_, Tryz.func111, by kernel_rfl, by kernel_rfl⟩
instance : HasFn Tryz.prog 112 := ⟨_, Tryz.func112, by kernel_rfl, by kernel_rfl⟩
instance : HasFn Tryz.prog 113 := ⟨_, Tryz.func113, by kernel_rfl, by kernel_rfl⟩
instance : HasFn Tryz.prog 114 := ⟨_, Tryz.func114, by kernel_rfl, by kernel_rfl⟩
instance : HasFn Tryz.prog 115 := ⟨_, Tryz.func115, by kernel_rfl, by kernel_rfl⟩
instance : HasFn Tryz.prog 116 := ⟨_, Tryz.func116, by kernel_rfl, by kernel_rfl⟩
instance : HasFn Tryz.prog 117 := ⟨_, Tryz.func117, by kernel_rfl, by kernel_rfl⟩
instance : HasFn Tryz.prog 118 := ⟨_, Tryz.func118, by kernel_rfl, by kernel_rfl⟩
instance : HasFn Tryz.prog 119 := ⟨_, Tryz.func119, by kernel_rfl, by kernel_rfl⟩
instance : HasFn Tryz.prog 120 := ⟨_, Tryz.func120, by kernel_rfl, by kernel_rfl⟩
instance : HasFn Tryz.prog 121 := ⟨_, Tryz.func121, by kernel_rfl, by kernel_rfl⟩
instance : HasFn Tryz.prog 122 := ⟨_, Tryz.func122, by kernel_rfl, by kernel_rfl⟩
instance : HasFn Tryz.prog 123 := ⟨_, Tryz.func123, by kernel_rfl, by kernel_rfl⟩
instance : HasFn Tryz.prog 124 := ⟨_, Tryz.func124, by kernel_rfl, by kernel_rfl⟩
instance : HasFn Tryz.prog 125 := ⟨_, Tryz.func125, by kernel_rfl, by kernel_rfl⟩
instance : HasFn Tryz.prog 126 := ⟨_, Tryz.func126, by kernel_rfl, by kernel_rfl⟩
instance : HasFn Tryz.prog 127 := ⟨_, Tryz.func127, by kernel_rfl, by kernel_rfl⟩
instance : HasFn Tryz.prog 130 := ⟨_, Tryz.func130, by kernel_rfl, by kernel_rfl⟩
instance : HasFn Tryz.prog 132 := ⟨_, Tryz.func132, by kernel_rfl, by kernel_rfl⟩
instance : HasFn Tryz.prog 133 := ⟨_, Tryz.func133, by kernel_rfl, by kernel_rfl⟩
instance : HasFn Tryz.prog 134 := ⟨_, Tryz.func134, by kernel_rfl, by kernel_rfl⟩
instance : HasFn Tryz.prog 135 := ⟨_, Tryz.func135, by kernel_rfl, by kernel_rfl⟩
instance : HasFn Tryz.prog 136 := ⟨_, Tryz.func136, by kernel_rfl, by kernel_rfl⟩
instance : HasFn Tryz.prog 137 := ⟨_, Tryz.func137, by kernel_rfl, by kernel_rfl⟩
instance : HasFn Tryz.prog 138 := ⟨_, Tryz.func138, by kernel_rfl, by kernel_rfl⟩
instance : HasFn Tryz.prog 139 := ⟨_, Tryz.func139, by kernel_rfl, by kernel_rfl⟩
instance : HasFn Tryz.prog 140 := ⟨_, Tryz.func140, by kernel_rfl, by kernel_rfl⟩
instance : HasFn Tryz.prog 158 := ⟨_, Tryz.func158, by kernel_rfl, by kernel_rfl⟩
instance : HasFn Tryz.prog 159 := ⟨_, Tryz.func159, by kernel_rfl, by kernel_rfl⟩
instance : HasFn Tryz.prog 160 := ⟨_, Tryz.func160, by kernel_rfl, by kernel_rfl⟩
instance : HasFn Tryz.prog 161 := ⟨_, Tryz.func161, by kernel_rfl, by kernel_rfl⟩
instance : HasFn Tryz.prog 162 := ⟨_, Tryz.func162, by kernel_rfl, by kernel_rfl⟩
instance : HasFn Tryz.prog 163 := ⟨_, Tryz.func163, by kernel_rfl, by kernel_rfl⟩
instance : HasFn Tryz.prog 164 := ⟨_, Tryz.func164, by kernel_rfl, by kernel_rfl⟩
instance : HasFn Tryz.prog 165 := ⟨_, Tryz.func165, by kernel_rfl, by kernel_rfl⟩
instance : HasFn Tryz.prog 166 := ⟨_, Tryz.func166, by kernel_rfl, by kernel_rfl⟩
instance : HasFn Tryz.prog 167 := ⟨_, Tryz.func167, by kernel_rfl, by kernel_rfl⟩
instance : HasFn Tryz.prog 168 := ⟨_, Tryz.func168, by kernel_rfl, by kernel_rfl⟩
instance : HasFn Tryz.prog 169 := ⟨_, Tryz.func169, by kernel_rfl, by kernel_rfl⟩
instance : HasFn Tryz.prog 170 := ⟨_, Tryz.func170, by kernel_rfl, by kernel_rfl⟩
instance : HasFn Tryz.prog 171 := ⟨_, Tryz.func171, by kernel_rfl, by kernel_rfl⟩
instance : HasFn Tryz.prog 172 := ⟨_, Tryz.func172, by kernel_rfl, by kernel_rfl⟩
theorem Tryz.mixed : Tryz.prog.follows .mixedOrders = true := by kernel_rfl
end Go.Proofs
