/- Part 5 of the texts below the row: Facts. -/
import Derived.KernelRfl
import Derived.Test.YtkglhackgghcfaaGreatProg
import Derived.Test.YtkglhackgghcfaaGreatM4
/- Facts on the seat's types and functions, each read off the loaded program. -/
set_option autoImplicit false
namespace Go.Proofs
open Go.SL
instance : TyU Tryz.prog 0 ((TypeDesc.tuple #[])) := ⟨Tryz.underlying0⟩
instance : TyU Tryz.prog 1 ((TypeDesc.func #[] #[] false)) := ⟨Tryz.underlying1⟩
instance : TyI Tryz.prog 1 1 (.nilFunc) 8 := ⟨by kernel_rfl⟩
instance : TyU Tryz.prog 2 ((TypeDesc.int IntKind.i64)) := ⟨Tryz.underlying2⟩
instance : TyI Tryz.prog 2 1 (.int .i64 0) 8 := ⟨by kernel_rfl⟩
instance : TyU Tryz.prog 3 ((TypeDesc.int IntKind.i64)) := ⟨Tryz.underlying3⟩
instance : TyI Tryz.prog 3 1 (.int .i64 0) 8 := ⟨by kernel_rfl⟩
instance : TyU Tryz.prog 4 (TypeDesc.bool) := ⟨Tryz.underlying4⟩
instance : TyI Tryz.prog 4 1 (.bool false) 1 := ⟨by kernel_rfl⟩
instance : TyU Tryz.prog 5 ((TypeDesc.int IntKind.u8)) := ⟨Tryz.underlying5⟩
instance : TyI Tryz.prog 5 1 (.int .u8 0) 1 := ⟨by kernel_rfl⟩
instance : TyU Tryz.prog 6 ((TypeDesc.int IntKind.u8)) := ⟨Tryz.underlying6⟩
instance : TyI Tryz.prog 6 1 (.int .u8 0) 1 := ⟨by kernel_rfl⟩
instance : TyU Tryz.prog 7 ((TypeDesc.struct #[{ name := "x", type := 2, offset := 0, embedded := false, tag := "", pkgPath := "runtime", byteOffset := 0 }, { name := "y", type := 3, offset := 1, embedded := false, tag := "", pkgPath := "runtime", byteOffset := 8 }, { name := "signed", type := 4, offset := 2, embedded := false, tag := "", pkgPath := "runtime", byteOffset := 16 }, { name := "code", type := 6, offset := 3, embedded := false, tag := "", pkgPath := "runtime", byteOffset := 17 }])) := ⟨Tryz.underlying7⟩
instance : TyI Tryz.prog 7 4 (.agg #[.int .i64 0, .int .i64 0, .bool false, .int .u8 0]) 24 := ⟨by kernel_rfl⟩
instance : TyU Tryz.prog 8 ((TypeDesc.struct #[{ name := "x", type := 2, offset := 0, embedded := false, tag := "", pkgPath := "runtime", byteOffset := 0 }, { name := "y", type := 3, offset := 1, embedded := false, tag := "", pkgPath := "runtime", byteOffset := 8 }, { name := "signed", type := 4, offset := 2, embedded := false, tag := "", pkgPath := "runtime", byteOffset := 16 }, { name := "code", type := 6, offset := 3, embedded := false, tag := "", pkgPath := "runtime", byteOffset := 17 }])) := ⟨Tryz.underlying8⟩
instance : TyI Tryz.prog 8 4 (.agg #[.int .i64 0, .int .i64 0, .bool false, .int .u8 0]) 24 := ⟨by kernel_rfl⟩
instance : TyU Tryz.prog 9 (TypeDesc.string) := ⟨Tryz.underlying9⟩
instance : TyI Tryz.prog 9 1 (.string ⟨#[]⟩) 16 := ⟨by kernel_rfl⟩
instance : TyU Tryz.prog 10 (TypeDesc.string) := ⟨Tryz.underlying10⟩
instance : TyI Tryz.prog 10 1 (.string ⟨#[]⟩) 16 := ⟨by kernel_rfl⟩
instance : TyU Tryz.prog 11 (TypeDesc.string) := ⟨Tryz.underlying11⟩
instance : TyI Tryz.prog 11 1 (.string ⟨#[]⟩) 16 := ⟨by kernel_rfl⟩
instance : TyU Tryz.prog 12 ((TypeDesc.int IntKind.u64)) := ⟨Tryz.underlying12⟩
instance : TyI Tryz.prog 12 1 (.int .u64 0) 8 := ⟨by kernel_rfl⟩
instance : TyU Tryz.prog 13 ((TypeDesc.struct #[{ name := "msg", type := 9, offset := 0, embedded := false, tag := "", pkgPath := "runtime", byteOffset := 0 }, { name := "addr", type := 12, offset := 1, embedded := false, tag := "", pkgPath := "runtime", byteOffset := 16 }])) := ⟨Tryz.underlying13⟩
instance : TyI Tryz.prog 13 2 (.agg #[.string ⟨#[]⟩, .int .u64 0]) 24 := ⟨by kernel_rfl⟩
instance : TyU Tryz.prog 14 ((TypeDesc.struct #[{ name := "msg", type := 9, offset := 0, embedded := false, tag := "", pkgPath := "runtime", byteOffset := 0 }, { name := "addr", type := 12, offset := 1, embedded := false, tag := "", pkgPath := "runtime", byteOffset := 16 }])) := ⟨Tryz.underlying14⟩
instance : TyI Tryz.prog 14 2 (.agg #[.string ⟨#[]⟩, .int .u64 0]) 24 := ⟨by kernel_rfl⟩
instance : TyU Tryz.prog 15 ((TypeDesc.pointer 153)) := ⟨Tryz.underlying15⟩
instance : TyI Tryz.prog 15 1 (.pointer none) 8 := ⟨by kernel_rfl⟩
instance : TyU Tryz.prog 16 ((TypeDesc.pointer 156)) := ⟨Tryz.underlying16⟩
instance : TyI Tryz.prog 16 1 (.pointer none) 8 := ⟨by kernel_rfl⟩
instance : TyU Tryz.prog 17 ((TypeDesc.pointer 164)) := ⟨Tryz.underlying17⟩
instance : TyI Tryz.prog 17 1 (.pointer none) 8 := ⟨by kernel_rfl⟩
instance : TyU Tryz.prog 18 ((TypeDesc.struct #[{ name := "typ", type := 17, offset := 0, embedded := false, tag := "", pkgPath := "internal/runtime/maps", byteOffset := 0 }])) := ⟨Tryz.underlying18⟩
instance : TyI Tryz.prog 18 1 (.agg #[.pointer none]) 8 := ⟨by kernel_rfl⟩
instance : TyU Tryz.prog 19 ((TypeDesc.struct #[{ name := "typ", type := 17, offset := 0, embedded := false, tag := "", pkgPath := "internal/runtime/maps", byteOffset := 0 }])) := ⟨Tryz.underlying19⟩
instance : TyI Tryz.prog 19 1 (.agg #[.pointer none]) 8 := ⟨by kernel_rfl⟩
instance : TyU Tryz.prog 20 ((TypeDesc.interface #[])) := ⟨Tryz.underlying20⟩
instance : TyI Tryz.prog 20 1 (.nilIface) 16 := ⟨by kernel_rfl⟩
instance : TyU Tryz.prog 21 ((TypeDesc.int IntKind.i32)) := ⟨Tryz.underlying21⟩
instance : TyI Tryz.prog 21 1 (.int .i32 0) 4 := ⟨by kernel_rfl⟩
instance : TyU Tryz.prog 22 ((TypeDesc.slice 31)) := ⟨Tryz.underlying22⟩
instance : TyI Tryz.prog 22 1 (.slice none 0 0) 24 := ⟨by kernel_rfl⟩
instance : TyU Tryz.prog 23 ((TypeDesc.func #[22] #[3] false)) := ⟨Tryz.underlying23⟩
instance : TyI Tryz.prog 23 1 (.nilFunc) 8 := ⟨by kernel_rfl⟩
instance : TyU Tryz.prog 24 ((TypeDesc.func #[] #[4] false)) := ⟨Tryz.underlying24⟩
instance : TyI Tryz.prog 24 1 (.nilFunc) 8 := ⟨by kernel_rfl⟩
instance : TyU Tryz.prog 25 ((TypeDesc.pointer 54)) := ⟨Tryz.underlying25⟩
instance : TyI Tryz.prog 25 1 (.pointer none) 8 := ⟨by kernel_rfl⟩
instance : TyU Tryz.prog 26 ((TypeDesc.func #[3] #[25] false)) := ⟨Tryz.underlying26⟩
instance : TyI Tryz.prog 26 1 (.nilFunc) 8 := ⟨by kernel_rfl⟩
instance : TyU Tryz.prog 27 ((TypeDesc.slice 36)) := ⟨Tryz.underlying27⟩
instance : TyI Tryz.prog 27 1 (.slice none 0 0) 24 := ⟨by kernel_rfl⟩
instance : TyU Tryz.prog 28 ((TypeDesc.func #[] #[3] false)) := ⟨Tryz.underlying28⟩
instance : TyI Tryz.prog 28 1 (.nilFunc) 8 := ⟨by kernel_rfl⟩
instance : TyU Tryz.prog 29 ((TypeDesc.int IntKind.u64)) := ⟨Tryz.underlying29⟩
instance : TyI Tryz.prog 29 1 (.int .u64 0) 8 := ⟨by kernel_rfl⟩
instance : TyU Tryz.prog 30 ((TypeDesc.struct #[{ name := "Kind", type := 3, offset := 0, embedded := false, tag := "", pkgPath := "", byteOffset := 0 }, { name := "N", type := 3, offset := 1, embedded := false, tag := "", pkgPath := "", byteOffset := 8 }, { name := "Key", type := 9, offset := 2, embedded := false, tag := "", pkgPath := "", byteOffset := 16 }, { name := "Value", type := 9, offset := 3, embedded := false, tag := "", pkgPath := "", byteOffset := 32 }, { name := "Keep", type := 29, offset := 4, embedded := false, tag := "", pkgPath := "", byteOffset := 48 }])) := ⟨Tryz.underlying30⟩
instance : TyI Tryz.prog 30 5 (.agg #[.int .i64 0, .int .i64 0, .string ⟨#[]⟩, .string ⟨#[]⟩, .int .u64 0]) 56 := ⟨by kernel_rfl⟩
instance : TyU Tryz.prog 31 ((TypeDesc.struct #[{ name := "Kind", type := 3, offset := 0, embedded := false, tag := "", pkgPath := "", byteOffset := 0 }, { name := "N", type := 3, offset := 1, embedded := false, tag := "", pkgPath := "", byteOffset := 8 }, { name := "Key", type := 9, offset := 2, embedded := false, tag := "", pkgPath := "", byteOffset := 16 }, { name := "Value", type := 9, offset := 3, embedded := false, tag := "", pkgPath := "", byteOffset := 32 }, { name := "Keep", type := 29, offset := 4, embedded := false, tag := "", pkgPath := "", byteOffset := 48 }])) := ⟨Tryz.underlying31⟩
instance : TyI Tryz.prog 31 5 (.agg #[.int .i64 0, .int .i64 0, .string ⟨#[]⟩, .string ⟨#[]⟩, .int .u64 0]) 56 := ⟨by kernel_rfl⟩
instance : TyU Tryz.prog 32 ((TypeDesc.int IntKind.i64)) := ⟨Tryz.underlying32⟩
instance : TyI Tryz.prog 32 1 (.int .i64 0) 8 := ⟨by kernel_rfl⟩
instance : TyU Tryz.prog 33 ((TypeDesc.func #[9, 9] #[32] false)) := ⟨Tryz.underlying33⟩
instance : TyI Tryz.prog 33 1 (.nilFunc) 8 := ⟨by kernel_rfl⟩
instance : TyU Tryz.prog 34 ((TypeDesc.func #[9] #[32] false)) := ⟨Tryz.underlying34⟩
instance : TyI Tryz.prog 34 1 (.nilFunc) 8 := ⟨by kernel_rfl⟩
instance : TyU Tryz.prog 35 ((TypeDesc.func #[3] #[32] false)) := ⟨Tryz.underlying35⟩
instance : TyI Tryz.prog 35 1 (.nilFunc) 8 := ⟨by kernel_rfl⟩
instance : TyU Tryz.prog 36 ((TypeDesc.slice 77)) := ⟨Tryz.underlying36⟩
instance : TyI Tryz.prog 36 1 (.slice none 0 0) 24 := ⟨by kernel_rfl⟩
instance : TyU Tryz.prog 37 ((TypeDesc.func #[9, 9, 3] #[36] false)) := ⟨Tryz.underlying37⟩
instance : TyI Tryz.prog 37 1 (.nilFunc) 8 := ⟨by kernel_rfl⟩
instance : TyU Tryz.prog 38 ((TypeDesc.int IntKind.u64)) := ⟨Tryz.underlying38⟩
instance : TyI Tryz.prog 38 1 (.int .u64 0) 8 := ⟨by kernel_rfl⟩
instance : TyU Tryz.prog 39 ((TypeDesc.func #[29] #[] false)) := ⟨Tryz.underlying39⟩
instance : TyI Tryz.prog 39 1 (.nilFunc) 8 := ⟨by kernel_rfl⟩
instance : TyU Tryz.prog 40 ((TypeDesc.func #[36, 36] #[4] false)) := ⟨Tryz.underlying40⟩
instance : TyI Tryz.prog 40 1 (.nilFunc) 8 := ⟨by kernel_rfl⟩
instance : TyU Tryz.prog 41 ((TypeDesc.func #[3, 22, 3] #[4] false)) := ⟨Tryz.underlying41⟩
instance : TyI Tryz.prog 41 1 (.nilFunc) 8 := ⟨by kernel_rfl⟩
instance : TyU Tryz.prog 42 ((TypeDesc.func #[3, 22, 29] #[4] false)) := ⟨Tryz.underlying42⟩
instance : TyI Tryz.prog 42 1 (.nilFunc) 8 := ⟨by kernel_rfl⟩
instance : TyU Tryz.prog 43 ((TypeDesc.func #[3, 22] #[4] false)) := ⟨Tryz.underlying43⟩
instance : TyI Tryz.prog 43 1 (.nilFunc) 8 := ⟨by kernel_rfl⟩
instance : TyU Tryz.prog 44 ((TypeDesc.tuple #[9, 32])) := ⟨Tryz.underlying44⟩
instance : TyU Tryz.prog 45 ((TypeDesc.func #[9] #[9, 32] false)) := ⟨Tryz.underlying45⟩
instance : TyI Tryz.prog 45 1 (.nilFunc) 8 := ⟨by kernel_rfl⟩
instance : TyU Tryz.prog 46 ((TypeDesc.func #[31] #[4] false)) := ⟨Tryz.underlying46⟩
instance : TyI Tryz.prog 46 1 (.nilFunc) 8 := ⟨by kernel_rfl⟩
instance : TyU Tryz.prog 47 ((TypeDesc.pointer 83)) := ⟨Tryz.underlying47⟩
instance : TyI Tryz.prog 47 1 (.pointer none) 8 := ⟨by kernel_rfl⟩
instance : TyU Tryz.prog 48 ((TypeDesc.func #[] #[47] false)) := ⟨Tryz.underlying48⟩
instance : TyI Tryz.prog 48 1 (.nilFunc) 8 := ⟨by kernel_rfl⟩
instance : TyU Tryz.prog 49 ((TypeDesc.pointer 86)) := ⟨Tryz.underlying49⟩
instance : TyI Tryz.prog 49 1 (.pointer none) 8 := ⟨by kernel_rfl⟩
instance : TyU Tryz.prog 50 ((TypeDesc.func #[3] #[49] false)) := ⟨Tryz.underlying50⟩
instance : TyI Tryz.prog 50 1 (.nilFunc) 8 := ⟨by kernel_rfl⟩
instance : TyU Tryz.prog 51 ((TypeDesc.pointer 92)) := ⟨Tryz.underlying51⟩
instance : TyI Tryz.prog 51 1 (.pointer none) 8 := ⟨by kernel_rfl⟩
instance : TyU Tryz.prog 52 ((TypeDesc.func #[] #[51] false)) := ⟨Tryz.underlying52⟩
instance : TyI Tryz.prog 52 1 (.nilFunc) 8 := ⟨by kernel_rfl⟩
instance : TyU Tryz.prog 53 ((TypeDesc.struct #[{ name := "t", type := 47, offset := 0, embedded := false, tag := "", pkgPath := "sandglass/kv", byteOffset := 0 }, { name := "log", type := 49, offset := 1, embedded := false, tag := "", pkgPath := "sandglass/kv", byteOffset := 8 }, { name := "snap", type := 51, offset := 2, embedded := false, tag := "", pkgPath := "sandglass/kv", byteOffset := 16 }, { name := "saved", type := 3, offset := 3, embedded := false, tag := "", pkgPath := "sandglass/kv", byteOffset := 24 }])) := ⟨Tryz.underlying53⟩
instance : TyI Tryz.prog 53 4 (.agg #[.pointer none, .pointer none, .pointer none, .int .i64 0]) 32 := ⟨by kernel_rfl⟩
instance : TyU Tryz.prog 54 ((TypeDesc.struct #[{ name := "t", type := 47, offset := 0, embedded := false, tag := "", pkgPath := "sandglass/kv", byteOffset := 0 }, { name := "log", type := 49, offset := 1, embedded := false, tag := "", pkgPath := "sandglass/kv", byteOffset := 8 }, { name := "snap", type := 51, offset := 2, embedded := false, tag := "", pkgPath := "sandglass/kv", byteOffset := 16 }, { name := "saved", type := 3, offset := 3, embedded := false, tag := "", pkgPath := "sandglass/kv", byteOffset := 24 }])) := ⟨Tryz.underlying54⟩
instance : TyI Tryz.prog 54 4 (.agg #[.pointer none, .pointer none, .pointer none, .int .i64 0]) 32 := ⟨by kernel_rfl⟩
instance : TyU Tryz.prog 55 ((TypeDesc.func #[9] #[4] false)) := ⟨Tryz.underlying55⟩
instance : TyI Tryz.prog 55 1 (.nilFunc) 8 := ⟨by kernel_rfl⟩
instance : TyU Tryz.prog 56 ((TypeDesc.func #[73] #[32] false)) := ⟨Tryz.underlying56⟩
instance : TyI Tryz.prog 56 1 (.nilFunc) 8 := ⟨by kernel_rfl⟩
instance : TyU Tryz.prog 57 ((TypeDesc.struct #[{ name := "key", type := 9, offset := 0, embedded := false, tag := "", pkgPath := "sandglass/kv", byteOffset := 0 }, { name := "value", type := 9, offset := 1, embedded := false, tag := "", pkgPath := "sandglass/kv", byteOffset := 16 }])) := ⟨Tryz.underlying57⟩
instance : TyI Tryz.prog 57 2 (.agg #[.string ⟨#[]⟩, .string ⟨#[]⟩]) 32 := ⟨by kernel_rfl⟩
instance : TyU Tryz.prog 58 ((TypeDesc.struct #[{ name := "key", type := 9, offset := 0, embedded := false, tag := "", pkgPath := "sandglass/kv", byteOffset := 0 }, { name := "value", type := 9, offset := 1, embedded := false, tag := "", pkgPath := "sandglass/kv", byteOffset := 16 }])) := ⟨Tryz.underlying58⟩
instance : TyI Tryz.prog 58 2 (.agg #[.string ⟨#[]⟩, .string ⟨#[]⟩]) 32 := ⟨by kernel_rfl⟩
instance : TyU Tryz.prog 59 ((TypeDesc.tuple #[9, 4])) := ⟨Tryz.underlying59⟩
instance : TyU Tryz.prog 60 ((TypeDesc.func #[9] #[9, 4] false)) := ⟨Tryz.underlying60⟩
instance : TyI Tryz.prog 60 1 (.nilFunc) 8 := ⟨by kernel_rfl⟩
instance : TyU Tryz.prog 61 ((TypeDesc.struct #[{ name := "key", type := 9, offset := 0, embedded := false, tag := "", pkgPath := "sandglass/kv", byteOffset := 0 }])) := ⟨Tryz.underlying61⟩
instance : TyI Tryz.prog 61 1 (.agg #[.string ⟨#[]⟩]) 16 := ⟨by kernel_rfl⟩
instance : TyU Tryz.prog 62 ((TypeDesc.struct #[{ name := "key", type := 9, offset := 0, embedded := false, tag := "", pkgPath := "sandglass/kv", byteOffset := 0 }])) := ⟨Tryz.underlying62⟩
instance : TyI Tryz.prog 62 1 (.agg #[.string ⟨#[]⟩]) 16 := ⟨by kernel_rfl⟩
instance : TyU Tryz.prog 63 ((TypeDesc.tuple #[9, 3])) := ⟨Tryz.underlying63⟩
instance : TyU Tryz.prog 64 ((TypeDesc.func #[] #[9, 3] false)) := ⟨Tryz.underlying64⟩
instance : TyI Tryz.prog 64 1 (.nilFunc) 8 := ⟨by kernel_rfl⟩
instance : TyU Tryz.prog 65 ((TypeDesc.func #[9, 3] #[32] false)) := ⟨Tryz.underlying65⟩
instance : TyI Tryz.prog 65 1 (.nilFunc) 8 := ⟨by kernel_rfl⟩
instance : TyU Tryz.prog 66 ((TypeDesc.func #[3] #[9] false)) := ⟨Tryz.underlying66⟩
instance : TyI Tryz.prog 66 1 (.nilFunc) 8 := ⟨by kernel_rfl⟩
instance : TyU Tryz.prog 67 ((TypeDesc.func #[36] #[9] false)) := ⟨Tryz.underlying67⟩
instance : TyI Tryz.prog 67 1 (.nilFunc) 8 := ⟨by kernel_rfl⟩
instance : TyU Tryz.prog 68 ((TypeDesc.func #[3] #[3] false)) := ⟨Tryz.underlying68⟩
instance : TyI Tryz.prog 68 1 (.nilFunc) 8 := ⟨by kernel_rfl⟩
instance : TyU Tryz.prog 69 ((TypeDesc.tuple #[47, 3])) := ⟨Tryz.underlying69⟩
instance : TyU Tryz.prog 70 ((TypeDesc.func #[] #[47, 3] false)) := ⟨Tryz.underlying70⟩
instance : TyI Tryz.prog 70 1 (.nilFunc) 8 := ⟨by kernel_rfl⟩
instance : TyU Tryz.prog 71 ((TypeDesc.func #[3] #[9, 32] false)) := ⟨Tryz.underlying71⟩
instance : TyI Tryz.prog 71 1 (.nilFunc) 8 := ⟨by kernel_rfl⟩
instance : TyU Tryz.prog 72 ((TypeDesc.interface #[("sandglass/kv.bytes", 97), ("sandglass/kv.do", 75)])) := ⟨Tryz.underlying72⟩
instance : TyI Tryz.prog 72 1 (.nilIface) 16 := ⟨by kernel_rfl⟩
instance : TyU Tryz.prog 73 ((TypeDesc.interface #[("sandglass/kv.bytes", 97), ("sandglass/kv.do", 75)])) := ⟨Tryz.underlying73⟩
instance : TyI Tryz.prog 73 1 (.nilIface) 16 := ⟨by kernel_rfl⟩
instance : TyU Tryz.prog 74 ((TypeDesc.func #[9] #[73] false)) := ⟨Tryz.underlying74⟩
instance : TyI Tryz.prog 74 1 (.nilFunc) 8 := ⟨by kernel_rfl⟩
instance : TyU Tryz.prog 75 ((TypeDesc.func #[47] #[] false)) := ⟨Tryz.underlying75⟩
instance : TyI Tryz.prog 75 1 (.nilFunc) 8 := ⟨by kernel_rfl⟩
instance : TyU Tryz.prog 76 ((TypeDesc.struct #[{ name := "Key", type := 9, offset := 0, embedded := false, tag := "", pkgPath := "", byteOffset := 0 }, { name := "Value", type := 9, offset := 1, embedded := false, tag := "", pkgPath := "", byteOffset := 16 }])) := ⟨Tryz.underlying76⟩
instance : TyI Tryz.prog 76 2 (.agg #[.string ⟨#[]⟩, .string ⟨#[]⟩]) 32 := ⟨by kernel_rfl⟩
instance : TyU Tryz.prog 77 ((TypeDesc.struct #[{ name := "Key", type := 9, offset := 0, embedded := false, tag := "", pkgPath := "", byteOffset := 0 }, { name := "Value", type := 9, offset := 1, embedded := false, tag := "", pkgPath := "", byteOffset := 16 }])) := ⟨Tryz.underlying77⟩
instance : TyI Tryz.prog 77 2 (.agg #[.string ⟨#[]⟩, .string ⟨#[]⟩]) 32 := ⟨by kernel_rfl⟩
instance : TyU Tryz.prog 78 ((TypeDesc.pointer 81)) := ⟨Tryz.underlying78⟩
instance : TyI Tryz.prog 78 1 (.pointer none) 8 := ⟨by kernel_rfl⟩
instance : TyU Tryz.prog 79 ((TypeDesc.slice 78)) := ⟨Tryz.underlying79⟩
instance : TyI Tryz.prog 79 1 (.slice none 0 0) 24 := ⟨by kernel_rfl⟩
instance : TyU Tryz.prog 80 ((TypeDesc.struct #[{ name := "pairs", type := 36, offset := 0, embedded := false, tag := "", pkgPath := "sandglass/tree", byteOffset := 0 }, { name := "parts", type := 79, offset := 1, embedded := false, tag := "", pkgPath := "sandglass/tree", byteOffset := 24 }])) := ⟨Tryz.underlying80⟩
instance : TyI Tryz.prog 80 2 (.agg #[.slice none 0 0, .slice none 0 0]) 48 := ⟨by kernel_rfl⟩
instance : TyU Tryz.prog 81 ((TypeDesc.struct #[{ name := "pairs", type := 36, offset := 0, embedded := false, tag := "", pkgPath := "sandglass/tree", byteOffset := 0 }, { name := "parts", type := 79, offset := 1, embedded := false, tag := "", pkgPath := "sandglass/tree", byteOffset := 24 }])) := ⟨Tryz.underlying81⟩
instance : TyI Tryz.prog 81 2 (.agg #[.slice none 0 0, .slice none 0 0]) 48 := ⟨by kernel_rfl⟩
instance : TyU Tryz.prog 82 ((TypeDesc.struct #[{ name := "root", type := 78, offset := 0, embedded := false, tag := "", pkgPath := "sandglass/tree", byteOffset := 0 }, { name := "n", type := 3, offset := 1, embedded := false, tag := "", pkgPath := "sandglass/tree", byteOffset := 8 }])) := ⟨Tryz.underlying82⟩
instance : TyI Tryz.prog 82 2 (.agg #[.pointer none, .int .i64 0]) 16 := ⟨by kernel_rfl⟩
instance : TyU Tryz.prog 83 ((TypeDesc.struct #[{ name := "root", type := 78, offset := 0, embedded := false, tag := "", pkgPath := "sandglass/tree", byteOffset := 0 }, { name := "n", type := 3, offset := 1, embedded := false, tag := "", pkgPath := "sandglass/tree", byteOffset := 8 }])) := ⟨Tryz.underlying83⟩
instance : TyI Tryz.prog 83 2 (.agg #[.pointer none, .int .i64 0]) 16 := ⟨by kernel_rfl⟩
instance : TyU Tryz.prog 84 ((TypeDesc.slice 93)) := ⟨Tryz.underlying84⟩
instance : TyI Tryz.prog 84 1 (.slice none 0 0) 24 := ⟨by kernel_rfl⟩
instance : TyU Tryz.prog 85 ((TypeDesc.struct #[{ name := "size", type := 3, offset := 0, embedded := false, tag := "", pkgPath := "sandglass/segment", byteOffset := 0 }, { name := "sure", type := 3, offset := 1, embedded := false, tag := "", pkgPath := "sandglass/segment", byteOffset := 8 }, { name := "files", type := 84, offset := 2, embedded := false, tag := "", pkgPath := "sandglass/segment", byteOffset := 16 }])) := ⟨Tryz.underlying85⟩
instance : TyI Tryz.prog 85 3 (.agg #[.int .i64 0, .int .i64 0, .slice none 0 0]) 40 := ⟨by kernel_rfl⟩
instance : TyU Tryz.prog 86 ((TypeDesc.struct #[{ name := "size", type := 3, offset := 0, embedded := false, tag := "", pkgPath := "sandglass/segment", byteOffset := 0 }, { name := "sure", type := 3, offset := 1, embedded := false, tag := "", pkgPath := "sandglass/segment", byteOffset := 8 }, { name := "files", type := 84, offset := 2, embedded := false, tag := "", pkgPath := "sandglass/segment", byteOffset := 16 }])) := ⟨Tryz.underlying86⟩
instance : TyI Tryz.prog 86 3 (.agg #[.int .i64 0, .int .i64 0, .slice none 0 0]) 40 := ⟨by kernel_rfl⟩
instance : TyU Tryz.prog 87 ((TypeDesc.slice 5)) := ⟨Tryz.underlying87⟩
instance : TyI Tryz.prog 87 1 (.slice none 0 0) 24 := ⟨by kernel_rfl⟩
instance : TyU Tryz.prog 88 ((TypeDesc.struct #[{ name := "b", type := 87, offset := 0, embedded := false, tag := "", pkgPath := "sandglass/snap", byteOffset := 0 }])) := ⟨Tryz.underlying88⟩
instance : TyI Tryz.prog 88 1 (.agg #[.slice none 0 0]) 24 := ⟨by kernel_rfl⟩
instance : TyU Tryz.prog 89 ((TypeDesc.struct #[{ name := "b", type := 87, offset := 0, embedded := false, tag := "", pkgPath := "sandglass/snap", byteOffset := 0 }])) := ⟨Tryz.underlying89⟩
instance : TyI Tryz.prog 89 1 (.agg #[.slice none 0 0]) 24 := ⟨by kernel_rfl⟩
instance : TyU Tryz.prog 90 ((TypeDesc.array 2 89)) := ⟨Tryz.underlying90⟩
instance : TyI Tryz.prog 90 2 (.agg #[.slice none 0 0, .slice none 0 0]) 48 := ⟨by kernel_rfl⟩
instance : TyU Tryz.prog 91 ((TypeDesc.struct #[{ name := "slots", type := 90, offset := 0, embedded := false, tag := "", pkgPath := "sandglass/snap", byteOffset := 0 }])) := ⟨Tryz.underlying91⟩
instance : TyI Tryz.prog 91 2 (.agg #[.slice none 0 0, .slice none 0 0]) 48 := ⟨by kernel_rfl⟩
instance : TyU Tryz.prog 92 ((TypeDesc.struct #[{ name := "slots", type := 90, offset := 0, embedded := false, tag := "", pkgPath := "sandglass/snap", byteOffset := 0 }])) := ⟨Tryz.underlying92⟩
instance : TyI Tryz.prog 92 2 (.agg #[.slice none 0 0, .slice none 0 0]) 48 := ⟨by kernel_rfl⟩
instance : TyU Tryz.prog 93 ((TypeDesc.pointer 103)) := ⟨Tryz.underlying93⟩
instance : TyI Tryz.prog 93 1 (.pointer none) 8 := ⟨by kernel_rfl⟩
instance : TyU Tryz.prog 94 ((TypeDesc.func #[] #[93] false)) := ⟨Tryz.underlying94⟩
instance : TyI Tryz.prog 94 1 (.nilFunc) 8 := ⟨by kernel_rfl⟩
instance : TyU Tryz.prog 95 ((TypeDesc.tuple #[3, 32])) := ⟨Tryz.underlying95⟩
instance : TyU Tryz.prog 96 ((TypeDesc.func #[9] #[3, 32] false)) := ⟨Tryz.underlying96⟩
instance : TyI Tryz.prog 96 1 (.nilFunc) 8 := ⟨by kernel_rfl⟩
instance : TyU Tryz.prog 97 ((TypeDesc.func #[] #[9] false)) := ⟨Tryz.underlying97⟩
instance : TyI Tryz.prog 97 1 (.nilFunc) 8 := ⟨by kernel_rfl⟩
instance : TyU Tryz.prog 98 ((TypeDesc.tuple #[3, 4])) := ⟨Tryz.underlying98⟩
instance : TyU Tryz.prog 99 ((TypeDesc.func #[9] #[3, 4] false)) := ⟨Tryz.underlying99⟩
instance : TyI Tryz.prog 99 1 (.nilFunc) 8 := ⟨by kernel_rfl⟩
instance : TyU Tryz.prog 100 ((TypeDesc.slice 3)) := ⟨Tryz.underlying100⟩
instance : TyI Tryz.prog 100 1 (.slice none 0 0) 24 := ⟨by kernel_rfl⟩
instance : TyU Tryz.prog 101 ((TypeDesc.pointer 130)) := ⟨Tryz.underlying101⟩
instance : TyI Tryz.prog 101 1 (.pointer none) 8 := ⟨by kernel_rfl⟩
instance : TyU Tryz.prog 102 ((TypeDesc.struct #[{ name := "first", type := 3, offset := 0, embedded := false, tag := "", pkgPath := "sandglass/segment", byteOffset := 0 }, { name := "ends", type := 100, offset := 1, embedded := false, tag := "", pkgPath := "sandglass/segment", byteOffset := 8 }, { name := "disk", type := 101, offset := 2, embedded := false, tag := "", pkgPath := "sandglass/segment", byteOffset := 32 }])) := ⟨Tryz.underlying102⟩
instance : TyI Tryz.prog 102 3 (.agg #[.int .i64 0, .slice none 0 0, .pointer none]) 40 := ⟨by kernel_rfl⟩
instance : TyU Tryz.prog 103 ((TypeDesc.struct #[{ name := "first", type := 3, offset := 0, embedded := false, tag := "", pkgPath := "sandglass/segment", byteOffset := 0 }, { name := "ends", type := 100, offset := 1, embedded := false, tag := "", pkgPath := "sandglass/segment", byteOffset := 8 }, { name := "disk", type := 101, offset := 2, embedded := false, tag := "", pkgPath := "sandglass/segment", byteOffset := 32 }])) := ⟨Tryz.underlying103⟩
instance : TyI Tryz.prog 103 3 (.agg #[.int .i64 0, .slice none 0 0, .pointer none]) 40 := ⟨by kernel_rfl⟩
instance : TyU Tryz.prog 104 ((TypeDesc.func #[106] #[32] false)) := ⟨Tryz.underlying104⟩
instance : TyI Tryz.prog 104 1 (.nilFunc) 8 := ⟨by kernel_rfl⟩
instance : TyU Tryz.prog 105 ((TypeDesc.struct #[{ name := "Kind", type := 3, offset := 0, embedded := false, tag := "", pkgPath := "", byteOffset := 0 }, { name := "Text", type := 9, offset := 1, embedded := false, tag := "", pkgPath := "", byteOffset := 8 }, { name := "Keep", type := 29, offset := 2, embedded := false, tag := "", pkgPath := "", byteOffset := 24 }])) := ⟨Tryz.underlying105⟩
instance : TyI Tryz.prog 105 3 (.agg #[.int .i64 0, .string ⟨#[]⟩, .int .u64 0]) 32 := ⟨by kernel_rfl⟩
instance : TyU Tryz.prog 106 ((TypeDesc.struct #[{ name := "Kind", type := 3, offset := 0, embedded := false, tag := "", pkgPath := "", byteOffset := 0 }, { name := "Text", type := 9, offset := 1, embedded := false, tag := "", pkgPath := "", byteOffset := 8 }, { name := "Keep", type := 29, offset := 2, embedded := false, tag := "", pkgPath := "", byteOffset := 24 }])) := ⟨Tryz.underlying106⟩
instance : TyI Tryz.prog 106 3 (.agg #[.int .i64 0, .string ⟨#[]⟩, .int .u64 0]) 32 := ⟨by kernel_rfl⟩
instance : TyU Tryz.prog 107 ((TypeDesc.int IntKind.u32)) := ⟨Tryz.underlying107⟩
instance : TyI Tryz.prog 107 1 (.int .u32 0) 4 := ⟨by kernel_rfl⟩
instance : TyU Tryz.prog 108 ((TypeDesc.array 3 107)) := ⟨Tryz.underlying108⟩
instance : TyI Tryz.prog 108 3 (.agg #[.int .u32 0, .int .u32 0, .int .u32 0]) 12 := ⟨by kernel_rfl⟩
instance : TyU Tryz.prog 109 ((TypeDesc.func #[] #[108] false)) := ⟨Tryz.underlying109⟩
instance : TyI Tryz.prog 109 1 (.nilFunc) 8 := ⟨by kernel_rfl⟩
instance : TyU Tryz.prog 110 ((TypeDesc.func #[107] #[87] false)) := ⟨Tryz.underlying110⟩
instance : TyI Tryz.prog 110 1 (.nilFunc) 8 := ⟨by kernel_rfl⟩
instance : TyU Tryz.prog 111 ((TypeDesc.func #[9] #[107] false)) := ⟨Tryz.underlying111⟩
instance : TyI Tryz.prog 111 1 (.nilFunc) 8 := ⟨by kernel_rfl⟩
instance : TyU Tryz.prog 112 ((TypeDesc.slice 9)) := ⟨Tryz.underlying112⟩
instance : TyI Tryz.prog 112 1 (.slice none 0 0) 24 := ⟨by kernel_rfl⟩
instance : TyU Tryz.prog 113 ((TypeDesc.func #[112] #[9] false)) := ⟨Tryz.underlying113⟩
instance : TyI Tryz.prog 113 1 (.nilFunc) 8 := ⟨by kernel_rfl⟩
instance : TyU Tryz.prog 114 ((TypeDesc.func #[9, 115] #[4] false)) := ⟨Tryz.underlying114⟩
instance : TyI Tryz.prog 114 1 (.nilFunc) 8 := ⟨by kernel_rfl⟩
instance : TyU Tryz.prog 115 ((TypeDesc.func #[77] #[4] false)) := ⟨Tryz.underlying115⟩
instance : TyI Tryz.prog 115 1 (.nilFunc) 8 := ⟨by kernel_rfl⟩
instance : TyU Tryz.prog 116 ((TypeDesc.func #[84, 3, 3] #[84] false)) := ⟨Tryz.underlying116⟩
instance : TyI Tryz.prog 116 1 (.nilFunc) 8 := ⟨by kernel_rfl⟩
instance : TyU Tryz.prog 117 ((TypeDesc.tuple #[36, 32])) := ⟨Tryz.underlying117⟩
instance : TyU Tryz.prog 118 ((TypeDesc.func #[9] #[36, 32] false)) := ⟨Tryz.underlying118⟩
instance : TyI Tryz.prog 118 1 (.nilFunc) 8 := ⟨by kernel_rfl⟩
instance : TyU Tryz.prog 119 ((TypeDesc.func #[9, 9] #[4] false)) := ⟨Tryz.underlying119⟩
instance : TyI Tryz.prog 119 1 (.nilFunc) 8 := ⟨by kernel_rfl⟩
instance : TyU Tryz.prog 120 ((TypeDesc.tuple #[112, 32])) := ⟨Tryz.underlying120⟩
instance : TyU Tryz.prog 121 ((TypeDesc.func #[9] #[112, 32] false)) := ⟨Tryz.underlying121⟩
instance : TyI Tryz.prog 121 1 (.nilFunc) 8 := ⟨by kernel_rfl⟩
instance : TyU Tryz.prog 122 ((TypeDesc.struct #[])) := ⟨Tryz.underlying122⟩
instance : TyI Tryz.prog 122 0 (.agg #[]) 0 := ⟨by kernel_rfl⟩
instance : TyU Tryz.prog 123 ((TypeDesc.struct #[])) := ⟨Tryz.underlying123⟩
instance : TyI Tryz.prog 123 0 (.agg #[]) 0 := ⟨by kernel_rfl⟩
instance : TyU Tryz.prog 124 ((TypeDesc.func #[3] #[4] false)) := ⟨Tryz.underlying124⟩
instance : TyI Tryz.prog 124 1 (.nilFunc) 8 := ⟨by kernel_rfl⟩
instance : TyU Tryz.prog 125 ((TypeDesc.func #[] #[101] false)) := ⟨Tryz.underlying125⟩
instance : TyI Tryz.prog 125 1 (.nilFunc) 8 := ⟨by kernel_rfl⟩
instance : TyU Tryz.prog 126 ((TypeDesc.func #[36, 128] #[3, 4] false)) := ⟨Tryz.underlying126⟩
instance : TyI Tryz.prog 126 1 (.nilFunc) 8 := ⟨by kernel_rfl⟩
instance : TyU Tryz.prog 127 ((TypeDesc.func #[9, 9] #[3] false)) := ⟨Tryz.underlying127⟩
instance : TyI Tryz.prog 127 1 (.nilFunc) 8 := ⟨by kernel_rfl⟩
instance : TyU Tryz.prog 128 ((TypeDesc.func #[77] #[3] false)) := ⟨Tryz.underlying128⟩
instance : TyI Tryz.prog 128 1 (.nilFunc) 8 := ⟨by kernel_rfl⟩
instance : TyU Tryz.prog 129 ((TypeDesc.struct #[{ name := "b", type := 87, offset := 0, embedded := false, tag := "", pkgPath := "sandglass/disk", byteOffset := 0 }, { name := "synced", type := 3, offset := 1, embedded := false, tag := "", pkgPath := "sandglass/disk", byteOffset := 24 }])) := ⟨Tryz.underlying129⟩
instance : TyI Tryz.prog 129 2 (.agg #[.slice none 0 0, .int .i64 0]) 32 := ⟨by kernel_rfl⟩
instance : TyU Tryz.prog 130 ((TypeDesc.struct #[{ name := "b", type := 87, offset := 0, embedded := false, tag := "", pkgPath := "sandglass/disk", byteOffset := 0 }, { name := "synced", type := 3, offset := 1, embedded := false, tag := "", pkgPath := "sandglass/disk", byteOffset := 24 }])) := ⟨Tryz.underlying130⟩
instance : TyI Tryz.prog 130 2 (.agg #[.slice none 0 0, .int .i64 0]) 32 := ⟨by kernel_rfl⟩
instance : TyU Tryz.prog 131 ((TypeDesc.func #[107, 9] #[107] false)) := ⟨Tryz.underlying131⟩
instance : TyI Tryz.prog 131 1 (.nilFunc) 8 := ⟨by kernel_rfl⟩
instance : TyU Tryz.prog 132 ((TypeDesc.func #[9] #[9] false)) := ⟨Tryz.underlying132⟩
instance : TyI Tryz.prog 132 1 (.nilFunc) 8 := ⟨by kernel_rfl⟩
instance : TyU Tryz.prog 133 ((TypeDesc.tuple #[112, 3])) := ⟨Tryz.underlying133⟩
instance : TyU Tryz.prog 134 ((TypeDesc.func #[9] #[112, 3] false)) := ⟨Tryz.underlying134⟩
instance : TyI Tryz.prog 134 1 (.nilFunc) 8 := ⟨by kernel_rfl⟩
instance : TyU Tryz.prog 135 ((TypeDesc.func #[3] #[] false)) := ⟨Tryz.underlying135⟩
instance : TyI Tryz.prog 135 1 (.nilFunc) 8 := ⟨by kernel_rfl⟩
instance : TyU Tryz.prog 136 ((TypeDesc.tuple #[9, 3, 32])) := ⟨Tryz.underlying136⟩
instance : TyU Tryz.prog 137 ((TypeDesc.func #[9] #[9, 3, 32] false)) := ⟨Tryz.underlying137⟩
instance : TyI Tryz.prog 137 1 (.nilFunc) 8 := ⟨by kernel_rfl⟩
instance : TyU Tryz.prog 138 ((TypeDesc.tuple #[9, 9, 4])) := ⟨Tryz.underlying138⟩
instance : TyU Tryz.prog 139 ((TypeDesc.func #[9] #[9, 9, 4] false)) := ⟨Tryz.underlying139⟩
instance : TyI Tryz.prog 139 1 (.nilFunc) 8 := ⟨by kernel_rfl⟩
instance : TyU Tryz.prog 140 ((TypeDesc.func #[107] #[9] false)) := ⟨Tryz.underlying140⟩
instance : TyI Tryz.prog 140 1 (.nilFunc) 8 := ⟨by kernel_rfl⟩
instance : TyU Tryz.prog 141 ((TypeDesc.func #[29, 3] #[4] false)) := ⟨Tryz.underlying141⟩
instance : TyI Tryz.prog 141 1 (.nilFunc) 8 := ⟨by kernel_rfl⟩
instance : TyU Tryz.prog 142 ((TypeDesc.func #[107] #[108] false)) := ⟨Tryz.underlying142⟩
instance : TyI Tryz.prog 142 1 (.nilFunc) 8 := ⟨by kernel_rfl⟩
instance : TyU Tryz.prog 143 ((TypeDesc.func #[36] #[36] false)) := ⟨Tryz.underlying143⟩
instance : TyI Tryz.prog 143 1 (.nilFunc) 8 := ⟨by kernel_rfl⟩
instance : TyU Tryz.prog 144 ((TypeDesc.func #[79] #[79] false)) := ⟨Tryz.underlying144⟩
instance : TyI Tryz.prog 144 1 (.nilFunc) 8 := ⟨by kernel_rfl⟩
instance : TyU Tryz.prog 145 ((TypeDesc.func #[36, 3, 36] #[36] true)) := ⟨Tryz.underlying145⟩
instance : TyI Tryz.prog 145 1 (.nilFunc) 8 := ⟨by kernel_rfl⟩
instance : TyU Tryz.prog 146 ((TypeDesc.func #[79, 3, 79] #[79] true)) := ⟨Tryz.underlying146⟩
instance : TyI Tryz.prog 146 1 (.nilFunc) 8 := ⟨by kernel_rfl⟩
instance : TyU Tryz.prog 147 ((TypeDesc.func #[36, 3] #[] false)) := ⟨Tryz.underlying147⟩
instance : TyI Tryz.prog 147 1 (.nilFunc) 8 := ⟨by kernel_rfl⟩
instance : TyU Tryz.prog 148 ((TypeDesc.func #[79, 79] #[4] false)) := ⟨Tryz.underlying148⟩
instance : TyI Tryz.prog 148 1 (.nilFunc) 8 := ⟨by kernel_rfl⟩
instance : TyU Tryz.prog 149 ((TypeDesc.func #[79, 3] #[] false)) := ⟨Tryz.underlying149⟩
instance : TyI Tryz.prog 149 1 (.nilFunc) 8 := ⟨by kernel_rfl⟩
instance : TyU Tryz.prog 150 ((TypeDesc.func #[36] #[] false)) := ⟨Tryz.underlying150⟩
instance : TyI Tryz.prog 150 1 (.nilFunc) 8 := ⟨by kernel_rfl⟩
instance : TyU Tryz.prog 151 ((TypeDesc.func #[79] #[] false)) := ⟨Tryz.underlying151⟩
instance : TyI Tryz.prog 151 1 (.nilFunc) 8 := ⟨by kernel_rfl⟩
instance : TyU Tryz.prog 152 ((TypeDesc.struct #[{ name := "_interface", type := 17, offset := 0, embedded := false, tag := "", pkgPath := "runtime", byteOffset := 0 }, { name := "concrete", type := 17, offset := 1, embedded := false, tag := "", pkgPath := "runtime", byteOffset := 8 }, { name := "asserted", type := 17, offset := 2, embedded := false, tag := "", pkgPath := "runtime", byteOffset := 16 }, { name := "missingMethod", type := 9, offset := 3, embedded := false, tag := "", pkgPath := "runtime", byteOffset := 24 }])) := ⟨Tryz.underlying152⟩
instance : TyI Tryz.prog 152 4 (.agg #[.pointer none, .pointer none, .pointer none, .string ⟨#[]⟩]) 40 := ⟨by kernel_rfl⟩
instance : TyU Tryz.prog 153 ((TypeDesc.struct #[{ name := "_interface", type := 17, offset := 0, embedded := false, tag := "", pkgPath := "runtime", byteOffset := 0 }, { name := "concrete", type := 17, offset := 1, embedded := false, tag := "", pkgPath := "runtime", byteOffset := 8 }, { name := "asserted", type := 17, offset := 2, embedded := false, tag := "", pkgPath := "runtime", byteOffset := 16 }, { name := "missingMethod", type := 9, offset := 3, embedded := false, tag := "", pkgPath := "runtime", byteOffset := 24 }])) := ⟨Tryz.underlying153⟩
instance : TyI Tryz.prog 153 4 (.agg #[.pointer none, .pointer none, .pointer none, .string ⟨#[]⟩]) 40 := ⟨by kernel_rfl⟩
instance : TyU Tryz.prog 154 ((TypeDesc.array 0 16)) := ⟨Tryz.underlying154⟩
instance : TyI Tryz.prog 154 0 (.agg #[]) 0 := ⟨by kernel_rfl⟩
instance : TyU Tryz.prog 155 ((TypeDesc.struct #[{ name := "_", type := 154, offset := 0, embedded := false, tag := "", pkgPath := "runtime", byteOffset := 0 }])) := ⟨Tryz.underlying155⟩
instance : TyI Tryz.prog 155 0 (.agg #[]) 0 := ⟨by kernel_rfl⟩
instance : TyU Tryz.prog 156 ((TypeDesc.struct #[{ name := "_", type := 154, offset := 0, embedded := false, tag := "", pkgPath := "runtime", byteOffset := 0 }])) := ⟨Tryz.underlying156⟩
instance : TyI Tryz.prog 156 0 (.agg #[]) 0 := ⟨by kernel_rfl⟩
instance : TyU Tryz.prog 157 ((TypeDesc.int IntKind.u8)) := ⟨Tryz.underlying157⟩
instance : TyI Tryz.prog 157 1 (.int .u8 0) 1 := ⟨by kernel_rfl⟩
instance : TyU Tryz.prog 158 ((TypeDesc.int IntKind.u8)) := ⟨Tryz.underlying158⟩
instance : TyI Tryz.prog 158 1 (.int .u8 0) 1 := ⟨by kernel_rfl⟩
instance : TyU Tryz.prog 159 ((TypeDesc.func #[170, 170] #[4] false)) := ⟨Tryz.underlying159⟩
instance : TyI Tryz.prog 159 1 (.nilFunc) 8 := ⟨by kernel_rfl⟩
instance : TyU Tryz.prog 160 ((TypeDesc.pointer 5)) := ⟨Tryz.underlying160⟩
instance : TyI Tryz.prog 160 1 (.pointer none) 8 := ⟨by kernel_rfl⟩
instance : TyU Tryz.prog 161 ((TypeDesc.int IntKind.i32)) := ⟨Tryz.underlying161⟩
instance : TyI Tryz.prog 161 1 (.int .i32 0) 4 := ⟨by kernel_rfl⟩
instance : TyU Tryz.prog 162 ((TypeDesc.int IntKind.i32)) := ⟨Tryz.underlying162⟩
instance : TyI Tryz.prog 162 1 (.int .i32 0) 4 := ⟨by kernel_rfl⟩
instance : TyU Tryz.prog 163 ((TypeDesc.struct #[{ name := "Size_", type := 12, offset := 0, embedded := false, tag := "", pkgPath := "", byteOffset := 0 }, { name := "PtrBytes", type := 12, offset := 1, embedded := false, tag := "", pkgPath := "", byteOffset := 8 }, { name := "Hash", type := 107, offset := 2, embedded := false, tag := "", pkgPath := "", byteOffset := 16 }, { name := "TFlag", type := 157, offset := 3, embedded := false, tag := "", pkgPath := "", byteOffset := 20 }, { name := "Align_", type := 5, offset := 4, embedded := false, tag := "", pkgPath := "", byteOffset := 21 }, { name := "FieldAlign_", type := 5, offset := 5, embedded := false, tag := "", pkgPath := "", byteOffset := 22 }, { name := "Kind_", type := 158, offset := 6, embedded := false, tag := "", pkgPath := "", byteOffset := 23 }, { name := "Equal", type := 159, offset := 7, embedded := false, tag := "", pkgPath := "", byteOffset := 24 }, { name := "GCData", type := 160, offset := 8, embedded := false, tag := "", pkgPath := "", byteOffset := 32 }, { name := "Str", type := 161, offset := 9, embedded := false, tag := "", pkgPath := "", byteOffset := 40 }, { name := "PtrToThis", type := 162, offset := 10, embedded := false, tag := "", pkgPath := "", byteOffset := 44 }])) := ⟨Tryz.underlying163⟩
instance : TyI Tryz.prog 163 11 (.agg #[.int .u64 0, .int .u64 0, .int .u32 0, .int .u8 0, .int .u8 0, .int .u8 0, .int .u8 0, .nilFunc, .pointer none, .int .i32 0, .int .i32 0]) 48 := ⟨by kernel_rfl⟩
instance : TyU Tryz.prog 164 ((TypeDesc.struct #[{ name := "Size_", type := 12, offset := 0, embedded := false, tag := "", pkgPath := "", byteOffset := 0 }, { name := "PtrBytes", type := 12, offset := 1, embedded := false, tag := "", pkgPath := "", byteOffset := 8 }, { name := "Hash", type := 107, offset := 2, embedded := false, tag := "", pkgPath := "", byteOffset := 16 }, { name := "TFlag", type := 157, offset := 3, embedded := false, tag := "", pkgPath := "", byteOffset := 20 }, { name := "Align_", type := 5, offset := 4, embedded := false, tag := "", pkgPath := "", byteOffset := 21 }, { name := "FieldAlign_", type := 5, offset := 5, embedded := false, tag := "", pkgPath := "", byteOffset := 22 }, { name := "Kind_", type := 158, offset := 6, embedded := false, tag := "", pkgPath := "", byteOffset := 23 }, { name := "Equal", type := 159, offset := 7, embedded := false, tag := "", pkgPath := "", byteOffset := 24 }, { name := "GCData", type := 160, offset := 8, embedded := false, tag := "", pkgPath := "", byteOffset := 32 }, { name := "Str", type := 161, offset := 9, embedded := false, tag := "", pkgPath := "", byteOffset := 40 }, { name := "PtrToThis", type := 162, offset := 10, embedded := false, tag := "", pkgPath := "", byteOffset := 44 }])) := ⟨Tryz.underlying164⟩
instance : TyI Tryz.prog 164 11 (.agg #[.int .u64 0, .int .u64 0, .int .u32 0, .int .u8 0, .int .u8 0, .int .u8 0, .int .u8 0, .nilFunc, .pointer none, .int .i32 0, .int .i32 0]) 48 := ⟨by kernel_rfl⟩
instance : TyU Tryz.prog 165 ((TypeDesc.func #[9] #[] false)) := ⟨Tryz.underlying165⟩
instance : TyI Tryz.prog 165 1 (.nilFunc) 8 := ⟨by kernel_rfl⟩
instance : TyU Tryz.prog 166 ((TypeDesc.func #[36, 3, 3] #[36] false)) := ⟨Tryz.underlying166⟩
instance : TyI Tryz.prog 166 1 (.nilFunc) 8 := ⟨by kernel_rfl⟩
instance : TyU Tryz.prog 167 ((TypeDesc.func #[3] #[78] false)) := ⟨Tryz.underlying167⟩
instance : TyI Tryz.prog 167 1 (.nilFunc) 8 := ⟨by kernel_rfl⟩
instance : TyU Tryz.prog 168 ((TypeDesc.func #[4] #[77] false)) := ⟨Tryz.underlying168⟩
instance : TyI Tryz.prog 168 1 (.nilFunc) 8 := ⟨by kernel_rfl⟩
instance : TyU Tryz.prog 169 ((TypeDesc.func #[79, 3, 3] #[79] false)) := ⟨Tryz.underlying169⟩
instance : TyI Tryz.prog 169 1 (.nilFunc) 8 := ⟨by kernel_rfl⟩
instance : TyU Tryz.prog 170 (TypeDesc.unsafePointer) := ⟨Tryz.underlying170⟩
instance : TyI Tryz.prog 170 1 (.pointer none) 8 := ⟨by kernel_rfl⟩
instance : Places Tryz.prog 7 [(0, 1), (1, 1), (2, 1), (3, 1)] [.int .i64 0, .int .i64 0, .bool false, .int .u8 0] := .of Tryz.underlying7 inferInstance rfl (fun _ => by kernel_rfl)
instance : FldOff Tryz.prog 7 0 0 := .of Tryz.underlying7 (fd := { name := "x", type := 2, offset := 0, embedded := false, tag := "", pkgPath := "runtime", byteOffset := 0 }) rfl inferInstance (by decide)
instance : FldOff Tryz.prog 7 1 1 := .of Tryz.underlying7 (fd := { name := "y", type := 3, offset := 1, embedded := false, tag := "", pkgPath := "runtime", byteOffset := 8 }) rfl inferInstance (by decide)
instance : FldOff Tryz.prog 7 2 2 := .of Tryz.underlying7 (fd := { name := "signed", type := 4, offset := 2, embedded := false, tag := "", pkgPath := "runtime", byteOffset := 16 }) rfl inferInstance (by decide)
instance : FldOff Tryz.prog 7 3 3 := .of Tryz.underlying7 (fd := { name := "code", type := 6, offset := 3, embedded := false, tag := "", pkgPath := "runtime", byteOffset := 17 }) rfl inferInstance (by decide)
instance : Places Tryz.prog 8 [(0, 1), (1, 1), (2, 1), (3, 1)] [.int .i64 0, .int .i64 0, .bool false, .int .u8 0] := .of Tryz.underlying8 inferInstance rfl (fun _ => by kernel_rfl)
instance : FldOff Tryz.prog 8 0 0 := .of Tryz.underlying8 (fd := { name := "x", type := 2, offset := 0, embedded := false, tag := "", pkgPath := "runtime", byteOffset := 0 }) rfl inferInstance (by decide)
instance : FldOff Tryz.prog 8 1 1 := .of Tryz.underlying8 (fd := { name := "y", type := 3, offset := 1, embedded := false, tag := "", pkgPath := "runtime", byteOffset := 8 }) rfl inferInstance (by decide)
instance : FldOff Tryz.prog 8 2 2 := .of Tryz.underlying8 (fd := { name := "signed", type := 4, offset := 2, embedded := false, tag := "", pkgPath := "runtime", byteOffset := 16 }) rfl inferInstance (by decide)
instance : FldOff Tryz.prog 8 3 3 := .of Tryz.underlying8 (fd := { name := "code", type := 6, offset := 3, embedded := false, tag := "", pkgPath := "runtime", byteOffset := 17 }) rfl inferInstance (by decide)
instance : Places Tryz.prog 13 [(0, 1), (1, 1)] [.string ⟨#[]⟩, .int .u64 0] := .of Tryz.underlying13 inferInstance rfl (fun _ => by kernel_rfl)
instance : FldOff Tryz.prog 13 0 0 := .of Tryz.underlying13 (fd := { name := "msg", type := 9, offset := 0, embedded := false, tag := "", pkgPath := "runtime", byteOffset := 0 }) rfl inferInstance (by decide)
instance : FldOff Tryz.prog 13 1 1 := .of Tryz.underlying13 (fd := { name := "addr", type := 12, offset := 1, embedded := false, tag := "", pkgPath := "runtime", byteOffset := 16 }) rfl inferInstance (by decide)
instance : Places Tryz.prog 14 [(0, 1), (1, 1)] [.string ⟨#[]⟩, .int .u64 0] := .of Tryz.underlying14 inferInstance rfl (fun _ => by kernel_rfl)
instance : FldOff Tryz.prog 14 0 0 := .of Tryz.underlying14 (fd := { name := "msg", type := 9, offset := 0, embedded := false, tag := "", pkgPath := "runtime", byteOffset := 0 }) rfl inferInstance (by decide)
instance : FldOff Tryz.prog 14 1 1 := .of Tryz.underlying14 (fd := { name := "addr", type := 12, offset := 1, embedded := false, tag := "", pkgPath := "runtime", byteOffset := 16 }) rfl inferInstance (by decide)
instance : Places Tryz.prog 18 [(0, 1)] [.pointer none] := .of Tryz.underlying18 inferInstance rfl (fun _ => by kernel_rfl)
instance : FldOff Tryz.prog 18 0 0 := .of Tryz.underlying18 (fd := { name := "typ", type := 17, offset := 0, embedded := false, tag := "", pkgPath := "internal/runtime/maps", byteOffset := 0 }) rfl inferInstance (by decide)
instance : Places Tryz.prog 19 [(0, 1)] [.pointer none] := .of Tryz.underlying19 inferInstance rfl (fun _ => by kernel_rfl)
instance : FldOff Tryz.prog 19 0 0 := .of Tryz.underlying19 (fd := { name := "typ", type := 17, offset := 0, embedded := false, tag := "", pkgPath := "internal/runtime/maps", byteOffset := 0 }) rfl inferInstance (by decide)
instance : Places Tryz.prog 30 [(0, 1), (1, 1), (2, 1), (3, 1), (4, 1)] [.int .i64 0, .int .i64 0, .string ⟨#[]⟩, .string ⟨#[]⟩, .int .u64 0] := .of Tryz.underlying30 inferInstance rfl (fun _ => by kernel_rfl)
instance : FldOff Tryz.prog 30 0 0 := .of Tryz.underlying30 (fd := { name := "Kind", type := 3, offset := 0, embedded := false, tag := "", pkgPath := "", byteOffset := 0 }) rfl inferInstance (by decide)
instance : FldOff Tryz.prog 30 1 1 := .of Tryz.underlying30 (fd := { name := "N", type := 3, offset := 1, embedded := false, tag := "", pkgPath := "", byteOffset := 8 }) rfl inferInstance (by decide)
instance : FldOff Tryz.prog 30 2 2 := .of Tryz.underlying30 (fd := { name := "Key", type := 9, offset := 2, embedded := false, tag := "", pkgPath := "", byteOffset := 16 }) rfl inferInstance (by decide)
instance : FldOff Tryz.prog 30 3 3 := .of Tryz.underlying30 (fd := { name := "Value", type := 9, offset := 3, embedded := false, tag := "", pkgPath := "", byteOffset := 32 }) rfl inferInstance (by decide)
instance : FldOff Tryz.prog 30 4 4 := .of Tryz.underlying30 (fd := { name := "Keep", type := 29, offset := 4, embedded := false, tag := "", pkgPath := "", byteOffset := 48 }) rfl inferInstance (by decide)
instance : Places Tryz.prog 31 [(0, 1), (1, 1), (2, 1), (3, 1), (4, 1)] [.int .i64 0, .int .i64 0, .string ⟨#[]⟩, .string ⟨#[]⟩, .int .u64 0] := .of Tryz.underlying31 inferInstance rfl (fun _ => by kernel_rfl)
instance : FldOff Tryz.prog 31 0 0 := .of Tryz.underlying31 (fd := { name := "Kind", type := 3, offset := 0, embedded := false, tag := "", pkgPath := "", byteOffset := 0 }) rfl inferInstance (by decide)
instance : FldOff Tryz.prog 31 1 1 := .of Tryz.underlying31 (fd := { name := "N", type := 3, offset := 1, embedded := false, tag := "", pkgPath := "", byteOffset := 8 }) rfl inferInstance (by decide)
instance : FldOff Tryz.prog 31 2 2 := .of Tryz.underlying31 (fd := { name := "Key", type := 9, offset := 2, embedded := false, tag := "", pkgPath := "", byteOffset := 16 }) rfl inferInstance (by decide)
instance : FldOff Tryz.prog 31 3 3 := .of Tryz.underlying31 (fd := { name := "Value", type := 9, offset := 3, embedded := false, tag := "", pkgPath := "", byteOffset := 32 }) rfl inferInstance (by decide)
instance : FldOff Tryz.prog 31 4 4 := .of Tryz.underlying31 (fd := { name := "Keep", type := 29, offset := 4, embedded := false, tag := "", pkgPath := "", byteOffset := 48 }) rfl inferInstance (by decide)
instance : Places Tryz.prog 53 [(0, 1), (1, 1), (2, 1), (3, 1)] [.pointer none, .pointer none, .pointer none, .int .i64 0] := .of Tryz.underlying53 inferInstance rfl (fun _ => by kernel_rfl)
instance : FldOff Tryz.prog 53 0 0 := .of Tryz.underlying53 (fd := { name := "t", type := 47, offset := 0, embedded := false, tag := "", pkgPath := "sandglass/kv", byteOffset := 0 }) rfl inferInstance (by decide)
instance : FldOff Tryz.prog 53 1 1 := .of Tryz.underlying53 (fd := { name := "log", type := 49, offset := 1, embedded := false, tag := "", pkgPath := "sandglass/kv", byteOffset := 8 }) rfl inferInstance (by decide)
instance : FldOff Tryz.prog 53 2 2 := .of Tryz.underlying53 (fd := { name := "snap", type := 51, offset := 2, embedded := false, tag := "", pkgPath := "sandglass/kv", byteOffset := 16 }) rfl inferInstance (by decide)
instance : FldOff Tryz.prog 53 3 3 := .of Tryz.underlying53 (fd := { name := "saved", type := 3, offset := 3, embedded := false, tag := "", pkgPath := "sandglass/kv", byteOffset := 24 }) rfl inferInstance (by decide)
instance : Places Tryz.prog 54 [(0, 1), (1, 1), (2, 1), (3, 1)] [.pointer none, .pointer none, .pointer none, .int .i64 0] := .of Tryz.underlying54 inferInstance rfl (fun _ => by kernel_rfl)
instance : FldOff Tryz.prog 54 0 0 := .of Tryz.underlying54 (fd := { name := "t", type := 47, offset := 0, embedded := false, tag := "", pkgPath := "sandglass/kv", byteOffset := 0 }) rfl inferInstance (by decide)
instance : FldOff Tryz.prog 54 1 1 := .of Tryz.underlying54 (fd := { name := "log", type := 49, offset := 1, embedded := false, tag := "", pkgPath := "sandglass/kv", byteOffset := 8 }) rfl inferInstance (by decide)
instance : FldOff Tryz.prog 54 2 2 := .of Tryz.underlying54 (fd := { name := "snap", type := 51, offset := 2, embedded := false, tag := "", pkgPath := "sandglass/kv", byteOffset := 16 }) rfl inferInstance (by decide)
instance : FldOff Tryz.prog 54 3 3 := .of Tryz.underlying54 (fd := { name := "saved", type := 3, offset := 3, embedded := false, tag := "", pkgPath := "sandglass/kv", byteOffset := 24 }) rfl inferInstance (by decide)
instance : Places Tryz.prog 57 [(0, 1), (1, 1)] [.string ⟨#[]⟩, .string ⟨#[]⟩] := .of Tryz.underlying57 inferInstance rfl (fun _ => by kernel_rfl)
instance : FldOff Tryz.prog 57 0 0 := .of Tryz.underlying57 (fd := { name := "key", type := 9, offset := 0, embedded := false, tag := "", pkgPath := "sandglass/kv", byteOffset := 0 }) rfl inferInstance (by decide)
instance : FldOff Tryz.prog 57 1 1 := .of Tryz.underlying57 (fd := { name := "value", type := 9, offset := 1, embedded := false, tag := "", pkgPath := "sandglass/kv", byteOffset := 16 }) rfl inferInstance (by decide)
instance : Places Tryz.prog 58 [(0, 1), (1, 1)] [.string ⟨#[]⟩, .string ⟨#[]⟩] := .of Tryz.underlying58 inferInstance rfl (fun _ => by kernel_rfl)
instance : FldOff Tryz.prog 58 0 0 := .of Tryz.underlying58 (fd := { name := "key", type := 9, offset := 0, embedded := false, tag := "", pkgPath := "sandglass/kv", byteOffset := 0 }) rfl inferInstance (by decide)
instance : FldOff Tryz.prog 58 1 1 := .of Tryz.underlying58 (fd := { name := "value", type := 9, offset := 1, embedded := false, tag := "", pkgPath := "sandglass/kv", byteOffset := 16 }) rfl inferInstance (by decide)
instance : Places Tryz.prog 61 [(0, 1)] [.string ⟨#[]⟩] := .of Tryz.underlying61 inferInstance rfl (fun _ => by kernel_rfl)
instance : FldOff Tryz.prog 61 0 0 := .of Tryz.underlying61 (fd := { name := "key", type := 9, offset := 0, embedded := false, tag := "", pkgPath := "sandglass/kv", byteOffset := 0 }) rfl inferInstance (by decide)
instance : Places Tryz.prog 62 [(0, 1)] [.string ⟨#[]⟩] := .of Tryz.underlying62 inferInstance rfl (fun _ => by kernel_rfl)
instance : FldOff Tryz.prog 62 0 0 := .of Tryz.underlying62 (fd := { name := "key", type := 9, offset := 0, embedded := false, tag := "", pkgPath := "sandglass/kv", byteOffset := 0 }) rfl inferInstance (by decide)
instance : Places Tryz.prog 76 [(0, 1), (1, 1)] [.string ⟨#[]⟩, .string ⟨#[]⟩] := .of Tryz.underlying76 inferInstance rfl (fun _ => by kernel_rfl)
instance : FldOff Tryz.prog 76 0 0 := .of Tryz.underlying76 (fd := { name := "Key", type := 9, offset := 0, embedded := false, tag := "", pkgPath := "", byteOffset := 0 }) rfl inferInstance (by decide)
instance : FldOff Tryz.prog 76 1 1 := .of Tryz.underlying76 (fd := { name := "Value", type := 9, offset := 1, embedded := false, tag := "", pkgPath := "", byteOffset := 16 }) rfl inferInstance (by decide)
instance : Places Tryz.prog 77 [(0, 1), (1, 1)] [.string ⟨#[]⟩, .string ⟨#[]⟩] := .of Tryz.underlying77 inferInstance rfl (fun _ => by kernel_rfl)
instance : FldOff Tryz.prog 77 0 0 := .of Tryz.underlying77 (fd := { name := "Key", type := 9, offset := 0, embedded := false, tag := "", pkgPath := "", byteOffset := 0 }) rfl inferInstance (by decide)
instance : FldOff Tryz.prog 77 1 1 := .of Tryz.underlying77 (fd := { name := "Value", type := 9, offset := 1, embedded := false, tag := "", pkgPath := "", byteOffset := 16 }) rfl inferInstance (by decide)
instance : Places Tryz.prog 80 [(0, 1), (1, 1)] [.slice none 0 0, .slice none 0 0] := .of Tryz.underlying80 inferInstance rfl (fun _ => by kernel_rfl)
instance : FldOff Tryz.prog 80 0 0 := .of Tryz.underlying80 (fd := { name := "pairs", type := 36, offset := 0, embedded := false, tag := "", pkgPath := "sandglass/tree", byteOffset := 0 }) rfl inferInstance (by decide)
instance : FldOff Tryz.prog 80 1 1 := .of Tryz.underlying80 (fd := { name := "parts", type := 79, offset := 1, embedded := false, tag := "", pkgPath := "sandglass/tree", byteOffset := 24 }) rfl inferInstance (by decide)
instance : Places Tryz.prog 81 [(0, 1), (1, 1)] [.slice none 0 0, .slice none 0 0] := .of Tryz.underlying81 inferInstance rfl (fun _ => by kernel_rfl)
instance : FldOff Tryz.prog 81 0 0 := .of Tryz.underlying81 (fd := { name := "pairs", type := 36, offset := 0, embedded := false, tag := "", pkgPath := "sandglass/tree", byteOffset := 0 }) rfl inferInstance (by decide)
instance : FldOff Tryz.prog 81 1 1 := .of Tryz.underlying81 (fd := { name := "parts", type := 79, offset := 1, embedded := false, tag := "", pkgPath := "sandglass/tree", byteOffset := 24 }) rfl inferInstance (by decide)
instance : Places Tryz.prog 82 [(0, 1), (1, 1)] [.pointer none, .int .i64 0] := .of Tryz.underlying82 inferInstance rfl (fun _ => by kernel_rfl)
instance : FldOff Tryz.prog 82 0 0 := .of Tryz.underlying82 (fd := { name := "root", type := 78, offset := 0, embedded := false, tag := "", pkgPath := "sandglass/tree", byteOffset := 0 }) rfl inferInstance (by decide)
instance : FldOff Tryz.prog 82 1 1 := .of Tryz.underlying82 (fd := { name := "n", type := 3, offset := 1, embedded := false, tag := "", pkgPath := "sandglass/tree", byteOffset := 8 }) rfl inferInstance (by decide)
instance : Places Tryz.prog 83 [(0, 1), (1, 1)] [.pointer none, .int .i64 0] := .of Tryz.underlying83 inferInstance rfl (fun _ => by kernel_rfl)
instance : FldOff Tryz.prog 83 0 0 := .of Tryz.underlying83 (fd := { name := "root", type := 78, offset := 0, embedded := false, tag := "", pkgPath := "sandglass/tree", byteOffset := 0 }) rfl inferInstance (by decide)
instance : FldOff Tryz.prog 83 1 1 := .of Tryz.underlying83 (fd := { name := "n", type := 3, offset := 1, embedded := false, tag := "", pkgPath := "sandglass/tree", byteOffset := 8 }) rfl inferInstance (by decide)
instance : Places Tryz.prog 85 [(0, 1), (1, 1), (2, 1)] [.int .i64 0, .int .i64 0, .slice none 0 0] := .of Tryz.underlying85 inferInstance rfl (fun _ => by kernel_rfl)
instance : FldOff Tryz.prog 85 0 0 := .of Tryz.underlying85 (fd := { name := "size", type := 3, offset := 0, embedded := false, tag := "", pkgPath := "sandglass/segment", byteOffset := 0 }) rfl inferInstance (by decide)
instance : FldOff Tryz.prog 85 1 1 := .of Tryz.underlying85 (fd := { name := "sure", type := 3, offset := 1, embedded := false, tag := "", pkgPath := "sandglass/segment", byteOffset := 8 }) rfl inferInstance (by decide)
instance : FldOff Tryz.prog 85 2 2 := .of Tryz.underlying85 (fd := { name := "files", type := 84, offset := 2, embedded := false, tag := "", pkgPath := "sandglass/segment", byteOffset := 16 }) rfl inferInstance (by decide)
instance : Places Tryz.prog 86 [(0, 1), (1, 1), (2, 1)] [.int .i64 0, .int .i64 0, .slice none 0 0] := .of Tryz.underlying86 inferInstance rfl (fun _ => by kernel_rfl)
instance : FldOff Tryz.prog 86 0 0 := .of Tryz.underlying86 (fd := { name := "size", type := 3, offset := 0, embedded := false, tag := "", pkgPath := "sandglass/segment", byteOffset := 0 }) rfl inferInstance (by decide)
instance : FldOff Tryz.prog 86 1 1 := .of Tryz.underlying86 (fd := { name := "sure", type := 3, offset := 1, embedded := false, tag := "", pkgPath := "sandglass/segment", byteOffset := 8 }) rfl inferInstance (by decide)
instance : FldOff Tryz.prog 86 2 2 := .of Tryz.underlying86 (fd := { name := "files", type := 84, offset := 2, embedded := false, tag := "", pkgPath := "sandglass/segment", byteOffset := 16 }) rfl inferInstance (by decide)
instance : Places Tryz.prog 88 [(0, 1)] [.slice none 0 0] := .of Tryz.underlying88 inferInstance rfl (fun _ => by kernel_rfl)
instance : FldOff Tryz.prog 88 0 0 := .of Tryz.underlying88 (fd := { name := "b", type := 87, offset := 0, embedded := false, tag := "", pkgPath := "sandglass/snap", byteOffset := 0 }) rfl inferInstance (by decide)
instance : Places Tryz.prog 89 [(0, 1)] [.slice none 0 0] := .of Tryz.underlying89 inferInstance rfl (fun _ => by kernel_rfl)
instance : FldOff Tryz.prog 89 0 0 := .of Tryz.underlying89 (fd := { name := "b", type := 87, offset := 0, embedded := false, tag := "", pkgPath := "sandglass/snap", byteOffset := 0 }) rfl inferInstance (by decide)
instance : Places Tryz.prog 91 [(0, 2)] [.slice none 0 0, .slice none 0 0] := .of Tryz.underlying91 inferInstance rfl (fun _ => by kernel_rfl)
instance : FldOff Tryz.prog 91 0 0 := .of Tryz.underlying91 (fd := { name := "slots", type := 90, offset := 0, embedded := false, tag := "", pkgPath := "sandglass/snap", byteOffset := 0 }) rfl inferInstance (by decide)
instance : Places Tryz.prog 92 [(0, 2)] [.slice none 0 0, .slice none 0 0] := .of Tryz.underlying92 inferInstance rfl (fun _ => by kernel_rfl)
instance : FldOff Tryz.prog 92 0 0 := .of Tryz.underlying92 (fd := { name := "slots", type := 90, offset := 0, embedded := false, tag := "", pkgPath := "sandglass/snap", byteOffset := 0 }) rfl inferInstance (by decide)
instance : Places Tryz.prog 102 [(0, 1), (1, 1), (2, 1)] [.int .i64 0, .slice none 0 0, .pointer none] := .of Tryz.underlying102 inferInstance rfl (fun _ => by kernel_rfl)
instance : FldOff Tryz.prog 102 0 0 := .of Tryz.underlying102 (fd := { name := "first", type := 3, offset := 0, embedded := false, tag := "", pkgPath := "sandglass/segment", byteOffset := 0 }) rfl inferInstance (by decide)
instance : FldOff Tryz.prog 102 1 1 := .of Tryz.underlying102 (fd := { name := "ends", type := 100, offset := 1, embedded := false, tag := "", pkgPath := "sandglass/segment", byteOffset := 8 }) rfl inferInstance (by decide)
instance : FldOff Tryz.prog 102 2 2 := .of Tryz.underlying102 (fd := { name := "disk", type := 101, offset := 2, embedded := false, tag := "", pkgPath := "sandglass/segment", byteOffset := 32 }) rfl inferInstance (by decide)
instance : Places Tryz.prog 103 [(0, 1), (1, 1), (2, 1)] [.int .i64 0, .slice none 0 0, .pointer none] := .of Tryz.underlying103 inferInstance rfl (fun _ => by kernel_rfl)
instance : FldOff Tryz.prog 103 0 0 := .of Tryz.underlying103 (fd := { name := "first", type := 3, offset := 0, embedded := false, tag := "", pkgPath := "sandglass/segment", byteOffset := 0 }) rfl inferInstance (by decide)
instance : FldOff Tryz.prog 103 1 1 := .of Tryz.underlying103 (fd := { name := "ends", type := 100, offset := 1, embedded := false, tag := "", pkgPath := "sandglass/segment", byteOffset := 8 }) rfl inferInstance (by decide)
instance : FldOff Tryz.prog 103 2 2 := .of Tryz.underlying103 (fd := { name := "disk", type := 101, offset := 2, embedded := false, tag := "", pkgPath := "sandglass/segment", byteOffset := 32 }) rfl inferInstance (by decide)
instance : Places Tryz.prog 105 [(0, 1), (1, 1), (2, 1)] [.int .i64 0, .string ⟨#[]⟩, .int .u64 0] := .of Tryz.underlying105 inferInstance rfl (fun _ => by kernel_rfl)
instance : FldOff Tryz.prog 105 0 0 := .of Tryz.underlying105 (fd := { name := "Kind", type := 3, offset := 0, embedded := false, tag := "", pkgPath := "", byteOffset := 0 }) rfl inferInstance (by decide)
instance : FldOff Tryz.prog 105 1 1 := .of Tryz.underlying105 (fd := { name := "Text", type := 9, offset := 1, embedded := false, tag := "", pkgPath := "", byteOffset := 8 }) rfl inferInstance (by decide)
instance : FldOff Tryz.prog 105 2 2 := .of Tryz.underlying105 (fd := { name := "Keep", type := 29, offset := 2, embedded := false, tag := "", pkgPath := "", byteOffset := 24 }) rfl inferInstance (by decide)
instance : Places Tryz.prog 106 [(0, 1), (1, 1), (2, 1)] [.int .i64 0, .string ⟨#[]⟩, .int .u64 0] := .of Tryz.underlying106 inferInstance rfl (fun _ => by kernel_rfl)
instance : FldOff Tryz.prog 106 0 0 := .of Tryz.underlying106 (fd := { name := "Kind", type := 3, offset := 0, embedded := false, tag := "", pkgPath := "", byteOffset := 0 }) rfl inferInstance (by decide)
instance : FldOff Tryz.prog 106 1 1 := .of Tryz.underlying106 (fd := { name := "Text", type := 9, offset := 1, embedded := false, tag := "", pkgPath := "", byteOffset := 8 }) rfl inferInstance (by decide)
instance : FldOff Tryz.prog 106 2 2 := .of Tryz.underlying106 (fd := { name := "Keep", type := 29, offset := 2, embedded := false, tag := "", pkgPath := "", byteOffset := 24 }) rfl inferInstance (by decide)
instance : Places Tryz.prog 122 [] [] := .of Tryz.underlying122 inferInstance rfl (fun _ => by kernel_rfl)
instance : Places Tryz.prog 123 [] [] := .of Tryz.underlying123 inferInstance rfl (fun _ => by kernel_rfl)
instance : Places Tryz.prog 129 [(0, 1), (1, 1)] [.slice none 0 0, .int .i64 0] := .of Tryz.underlying129 inferInstance rfl (fun _ => by kernel_rfl)
instance : FldOff Tryz.prog 129 0 0 := .of Tryz.underlying129 (fd := { name := "b", type := 87, offset := 0, embedded := false, tag := "", pkgPath := "sandglass/disk", byteOffset := 0 }) rfl inferInstance (by decide)
instance : FldOff Tryz.prog 129 1 1 := .of Tryz.underlying129 (fd := { name := "synced", type := 3, offset := 1, embedded := false, tag := "", pkgPath := "sandglass/disk", byteOffset := 24 }) rfl inferInstance (by decide)
instance : Places Tryz.prog 130 [(0, 1), (1, 1)] [.slice none 0 0, .int .i64 0] := .of Tryz.underlying130 inferInstance rfl (fun _ => by kernel_rfl)
instance : FldOff Tryz.prog 130 0 0 := .of Tryz.underlying130 (fd := { name := "b", type := 87, offset := 0, embedded := false, tag := "", pkgPath := "sandglass/disk", byteOffset := 0 }) rfl inferInstance (by decide)
instance : FldOff Tryz.prog 130 1 1 := .of Tryz.underlying130 (fd := { name := "synced", type := 3, offset := 1, embedded := false, tag := "", pkgPath := "sandglass/disk", byteOffset := 24 }) rfl inferInstance (by decide)
instance : Places Tryz.prog 152 [(0, 1), (1, 1), (2, 1), (3, 1)] [.pointer none, .pointer none, .pointer none, .string ⟨#[]⟩] := .of Tryz.underlying152 inferInstance rfl (fun _ => by kernel_rfl)
instance : FldOff Tryz.prog 152 0 0 := .of Tryz.underlying152 (fd := { name := "_interface", type := 17, offset := 0, embedded := false, tag := "", pkgPath := "runtime", byteOffset := 0 }) rfl inferInstance (by decide)
instance : FldOff Tryz.prog 152 1 1 := .of Tryz.underlying152 (fd := { name := "concrete", type := 17, offset := 1, embedded := false, tag := "", pkgPath := "runtime", byteOffset := 8 }) rfl inferInstance (by decide)
instance : FldOff Tryz.prog 152 2 2 := .of Tryz.underlying152 (fd := { name := "asserted", type := 17, offset := 2, embedded := false, tag := "", pkgPath := "runtime", byteOffset := 16 }) rfl inferInstance (by decide)
instance : FldOff Tryz.prog 152 3 3 := .of Tryz.underlying152 (fd := { name := "missingMethod", type := 9, offset := 3, embedded := false, tag := "", pkgPath := "runtime", byteOffset := 24 }) rfl inferInstance (by decide)
instance : Places Tryz.prog 153 [(0, 1), (1, 1), (2, 1), (3, 1)] [.pointer none, .pointer none, .pointer none, .string ⟨#[]⟩] := .of Tryz.underlying153 inferInstance rfl (fun _ => by kernel_rfl)
instance : FldOff Tryz.prog 153 0 0 := .of Tryz.underlying153 (fd := { name := "_interface", type := 17, offset := 0, embedded := false, tag := "", pkgPath := "runtime", byteOffset := 0 }) rfl inferInstance (by decide)
instance : FldOff Tryz.prog 153 1 1 := .of Tryz.underlying153 (fd := { name := "concrete", type := 17, offset := 1, embedded := false, tag := "", pkgPath := "runtime", byteOffset := 8 }) rfl inferInstance (by decide)
instance : FldOff Tryz.prog 153 2 2 := .of Tryz.underlying153 (fd := { name := "asserted", type := 17, offset := 2, embedded := false, tag := "", pkgPath := "runtime", byteOffset := 16 }) rfl inferInstance (by decide)
instance : FldOff Tryz.prog 153 3 3 := .of Tryz.underlying153 (fd := { name := "missingMethod", type := 9, offset := 3, embedded := false, tag := "", pkgPath := "runtime", byteOffset := 24 }) rfl inferInstance (by decide)
instance : Places Tryz.prog 155 [(0, 0)] [] := .of Tryz.underlying155 inferInstance rfl (fun _ => by kernel_rfl)
instance : Places Tryz.prog 156 [(0, 0)] [] := .of Tryz.underlying156 inferInstance rfl (fun _ => by kernel_rfl)
instance : Places Tryz.prog 163 [(0, 1), (1, 1), (2, 1), (3, 1), (4, 1), (5, 1), (6, 1), (7, 1), (8, 1), (9, 1), (10, 1)] [.int .u64 0, .int .u64 0, .int .u32 0, .int .u8 0, .int .u8 0, .int .u8 0, .int .u8 0, .nilFunc, .pointer none, .int .i32 0, .int .i32 0] := .of Tryz.underlying163 inferInstance rfl (fun _ => by kernel_rfl)
instance : FldOff Tryz.prog 163 0 0 := .of Tryz.underlying163 (fd := { name := "Size_", type := 12, offset := 0, embedded := false, tag := "", pkgPath := "", byteOffset := 0 }) rfl inferInstance (by decide)
instance : FldOff Tryz.prog 163 1 1 := .of Tryz.underlying163 (fd := { name := "PtrBytes", type := 12, offset := 1, embedded := false, tag := "", pkgPath := "", byteOffset := 8 }) rfl inferInstance (by decide)
instance : FldOff Tryz.prog 163 2 2 := .of Tryz.underlying163 (fd := { name := "Hash", type := 107, offset := 2, embedded := false, tag := "", pkgPath := "", byteOffset := 16 }) rfl inferInstance (by decide)
instance : FldOff Tryz.prog 163 3 3 := .of Tryz.underlying163 (fd := { name := "TFlag", type := 157, offset := 3, embedded := false, tag := "", pkgPath := "", byteOffset := 20 }) rfl inferInstance (by decide)
instance : FldOff Tryz.prog 163 4 4 := .of Tryz.underlying163 (fd := { name := "Align_", type := 5, offset := 4, embedded := false, tag := "", pkgPath := "", byteOffset := 21 }) rfl inferInstance (by decide)
instance : FldOff Tryz.prog 163 5 5 := .of Tryz.underlying163 (fd := { name := "FieldAlign_", type := 5, offset := 5, embedded := false, tag := "", pkgPath := "", byteOffset := 22 }) rfl inferInstance (by decide)
instance : FldOff Tryz.prog 163 6 6 := .of Tryz.underlying163 (fd := { name := "Kind_", type := 158, offset := 6, embedded := false, tag := "", pkgPath := "", byteOffset := 23 }) rfl inferInstance (by decide)
instance : FldOff Tryz.prog 163 7 7 := .of Tryz.underlying163 (fd := { name := "Equal", type := 159, offset := 7, embedded := false, tag := "", pkgPath := "", byteOffset := 24 }) rfl inferInstance (by decide)
instance : FldOff Tryz.prog 163 8 8 := .of Tryz.underlying163 (fd := { name := "GCData", type := 160, offset := 8, embedded := false, tag := "", pkgPath := "", byteOffset := 32 }) rfl inferInstance (by decide)
instance : FldOff Tryz.prog 163 9 9 := .of Tryz.underlying163 (fd := { name := "Str", type := 161, offset := 9, embedded := false, tag := "", pkgPath := "", byteOffset := 40 }) rfl inferInstance (by decide)
instance : FldOff Tryz.prog 163 10 10 := .of Tryz.underlying163 (fd := { name := "PtrToThis", type := 162, offset := 10, embedded := false, tag := "", pkgPath := "", byteOffset := 44 }) rfl inferInstance (by decide)
instance : Places Tryz.prog 164 [(0, 1), (1, 1), (2, 1), (3, 1), (4, 1), (5, 1), (6, 1), (7, 1), (8, 1), (9, 1), (10, 1)] [.int .u64 0, .int .u64 0, .int .u32 0, .int .u8 0, .int .u8 0, .int .u8 0, .int .u8 0, .nilFunc, .pointer none, .int .i32 0, .int .i32 0] := .of Tryz.underlying164 inferInstance rfl (fun _ => by kernel_rfl)
instance : FldOff Tryz.prog 164 0 0 := .of Tryz.underlying164 (fd := { name := "Size_", type := 12, offset := 0, embedded := false, tag := "", pkgPath := "", byteOffset := 0 }) rfl inferInstance (by decide)
instance : FldOff Tryz.prog 164 1 1 := .of Tryz.underlying164 (fd := { name := "PtrBytes", type := 12, offset := 1, embedded := false, tag := "", pkgPath := "", byteOffset := 8 }) rfl inferInstance (by decide)
instance : FldOff Tryz.prog 164 2 2 := .of Tryz.underlying164 (fd := { name := "Hash", type := 107, offset := 2, embedded := false, tag := "", pkgPath := "", byteOffset := 16 }) rfl inferInstance (by decide)
instance : FldOff Tryz.prog 164 3 3 := .of Tryz.underlying164 (fd := { name := "TFlag", type := 157, offset := 3, embedded := false, tag := "", pkgPath := "", byteOffset := 20 }) rfl inferInstance (by decide)
instance : FldOff Tryz.prog 164 4 4 := .of Tryz.underlying164 (fd := { name := "Align_", type := 5, offset := 4, embedded := false, tag := "", pkgPath := "", byteOffset := 21 }) rfl inferInstance (by decide)
instance : FldOff Tryz.prog 164 5 5 := .of Tryz.underlying164 (fd := { name := "FieldAlign_", type := 5, offset := 5, embedded := false, tag := "", pkgPath := "", byteOffset := 22 }) rfl inferInstance (by decide)
instance : FldOff Tryz.prog 164 6 6 := .of Tryz.underlying164 (fd := { name := "Kind_", type := 158, offset := 6, embedded := false, tag := "", pkgPath := "", byteOffset := 23 }) rfl inferInstance (by decide)
instance : FldOff Tryz.prog 164 7 7 := .of Tryz.underlying164 (fd := { name := "Equal", type := 159, offset := 7, embedded := false, tag := "", pkgPath := "", byteOffset := 24 }) rfl inferInstance (by decide)
instance : FldOff Tryz.prog 164 8 8 := .of Tryz.underlying164 (fd := { name := "GCData", type := 160, offset := 8, embedded := false, tag := "", pkgPath := "", byteOffset := 32 }) rfl inferInstance (by decide)
instance : FldOff Tryz.prog 164 9 9 := .of Tryz.underlying164 (fd := { name := "Str", type := 161, offset := 9, embedded := false, tag := "", pkgPath := "", byteOffset := 40 }) rfl inferInstance (by decide)
instance : FldOff Tryz.prog 164 10 10 := .of Tryz.underlying164 (fd := { name := "PtrToThis", type := 162, offset := 10, embedded := false, tag := "", pkgPath := "", byteOffset := 44 }) rfl inferInstance (by decide)
instance : HasFn Tryz.prog 3 := ⟨_, Tryz.func3, by kernel_rfl, by kernel_rfl⟩
instance : HasFn Tryz.prog 4 := ⟨_, Tryz.func4, by kernel_rfl, by kernel_rfl⟩
instance : HasFn Tryz.prog 5 := ⟨_, Tryz.func5, by kernel_rfl, by kernel_rfl⟩
instance : HasFn Tryz.prog 6 := ⟨_, Tryz.func6, by kernel_rfl, by kernel_rfl⟩
instance : HasFn Tryz.prog 7 := ⟨_, Tryz.func7, by kernel_rfl, by kernel_rfl⟩
instance : HasFn Tryz.prog 8 := ⟨_, Tryz.func8, by kernel_rfl, by kernel_rfl⟩
instance : HasFn Tryz.prog 9 := ⟨_, Tryz.func9, by kernel_rfl, by kernel_rfl⟩
instance : HasFn Tryz.prog 10 := ⟨_, Tryz.func10, by kernel_rfl, by kernel_rfl⟩
instance : HasFn Tryz.prog 11 := ⟨_, Tryz.func11, by kernel_rfl, by kernel_rfl⟩
instance : HasFn Tryz.prog 12 := ⟨_, Tryz.func12, by kernel_rfl, by kernel_rfl⟩
instance : HasFn Tryz.prog 13 := ⟨_, Tryz.func13, by kernel_rfl, by kernel_rfl⟩
instance : HasFn Tryz.prog 14 := ⟨_, Tryz.func14, by kernel_rfl, by kernel_rfl⟩
instance : HasFn Tryz.prog 15 := ⟨_, Tryz.func15, by kernel_rfl, by kernel_rfl⟩
instance : HasFn Tryz.prog 16 := ⟨_, Tryz.func16, by kernel_rfl, by kernel_rfl⟩
instance : HasFn Tryz.prog 17 := ⟨_, Tryz.func17, by kernel_rfl, by kernel_rfl⟩
instance : HasFn Tryz.prog 18 := ⟨_, Tryz.func18, by kernel_rfl, by kernel_rfl⟩
instance : HasFn Tryz.prog 19 := ⟨_, Tryz.func19, by kernel_rfl, by kernel_rfl⟩
instance : HasFn Tryz.prog 20 := ⟨_, Tryz.func20, by kernel_rfl, by kernel_rfl⟩
instance : HasFn Tryz.prog 21 := ⟨_, Tryz.func21, by kernel_rfl, by kernel_rfl⟩
instance : HasFn Tryz.prog 22 := ⟨_, Tryz.func22, by kernel_rfl, by kernel_rfl⟩
instance : HasFn Tryz.prog 23 := ⟨_, Tryz.func23, by kernel_rfl, by kernel_rfl⟩
instance : HasFn Tryz.prog 24 := ⟨_, Tryz.func24, by kernel_rfl, by kernel_rfl⟩
instance : HasFn Tryz.prog 25 := ⟨_, Tryz.func25, by kernel_rfl, by kernel_rfl⟩
instance : HasFn Tryz.prog 26 := ⟨_, Tryz.func26, by kernel_rfl, by kernel_rfl⟩
instance : HasFn Tryz.prog 27 := ⟨_, Tryz.func27, by kernel_rfl, by kernel_rfl⟩
instance : HasFn Tryz.prog 28 := ⟨_, Tryz.func28, by kernel_rfl, by kernel_rfl⟩
instance : HasFn Tryz.prog 29 := ⟨_, Tryz.func29, by kernel_rfl, by kernel_rfl⟩
instance : HasFn Tryz.prog 30 := ⟨_, Tryz.func30, by kernel_rfl, by kernel_rfl⟩
instance : HasFn Tryz.prog 31 := ⟨_, Tryz.func31, by kernel_rfl, by kernel_rfl⟩
instance : HasFn Tryz.prog 32 := ⟨_, Tryz.func32, by kernel_rfl, by kernel_rfl⟩
instance : HasFn Tryz.prog 33 := ⟨_, Tryz.func33, by kernel_rfl, by kernel_rfl⟩
instance : HasFn Tryz.prog 34 := ⟨_, Tryz.func34, by kernel_rfl, by kernel_rfl⟩
instance : HasFn Tryz.prog 35 := ⟨_, Tryz.func35, by kernel_rfl, by kernel_rfl⟩
instance : HasFn Tryz.prog 36 := ⟨_, Tryz.func36, by kernel_rfl, by kernel_rfl⟩
instance : HasFn Tryz.prog 37 := ⟨_, Tryz.func37, by kernel_rfl, by kernel_rfl⟩
instance : HasFn Tryz.prog 38 := ⟨_, Tryz.func38, by kernel_rfl, by kernel_rfl⟩
instance : HasFn Tryz.prog 39 := ⟨_, Tryz.func39, by kernel_rfl, by kernel_rfl⟩
instance : HasFn Tryz.prog 40 := ⟨_, Tryz.func40, by kernel_rfl, by kernel_rfl⟩
instance : HasFn Tryz.prog 41 := ⟨_, Tryz.func41, by kernel_rfl, by kernel_rfl⟩
instance : HasFn Tryz.prog 42 := ⟨_, Tryz.func42, by kernel_rfl, by kernel_rfl⟩
instance : HasFn Tryz.prog 43 := ⟨_, Tryz.func43, by kernel_rfl, by kernel_rfl⟩
instance : HasFn Tryz.prog 44 := ⟨_, Tryz.func44, by kernel_rfl, by kernel_rfl⟩
instance : HasFn Tryz.prog 45 := ⟨_, Tryz.func45, by kernel_rfl, by kernel_rfl⟩
instance : HasFn Tryz.prog 46 := ⟨_, Tryz.func46, by kernel_rfl, by kernel_rfl⟩
instance : HasFn Tryz.prog 47 := ⟨_, Tryz.func47, by kernel_rfl, by kernel_rfl⟩
instance : HasFn Tryz.prog 48 := ⟨_, Tryz.func48, by kernel_rfl, by kernel_rfl⟩
instance : HasFn Tryz.prog 49 := ⟨_, Tryz.func49, by kernel_rfl, by kernel_rfl⟩
instance : HasFn Tryz.prog 50 := ⟨_, Tryz.func50, by kernel_rfl, by kernel_rfl⟩
instance : HasFn Tryz.prog 51 := ⟨_, Tryz.func51, by kernel_rfl, by kernel_rfl⟩
instance : HasFn Tryz.prog 52 := ⟨_, Tryz.func52, by kernel_rfl, by kernel_rfl⟩
instance : HasFn Tryz.prog 53 := ⟨_, Tryz.func53, by kernel_rfl, by kernel_rfl⟩
instance : HasFn Tryz.prog 54 := ⟨_, Tryz.func54, by kernel_rfl, by kernel_rfl⟩
instance : HasFn Tryz.prog 55 := ⟨_, Tryz.func55, by kernel_rfl, by kernel_rfl⟩
instance : HasFn Tryz.prog 56 := ⟨_, Tryz.func56, by kernel_rfl, by kernel_rfl⟩
instance : HasFn Tryz.prog 57 := ⟨_, Tryz.func57, by kernel_rfl, by kernel_rfl⟩
instance : HasFn Tryz.prog 58 := ⟨_, Tryz.func58, by kernel_rfl, by kernel_rfl⟩
instance : HasFn Tryz.prog 59 := ⟨_, Tryz.func59, by kernel_rfl, by kernel_rfl⟩
instance : HasFn Tryz.prog 60 := ⟨_, Tryz.func60, by kernel_rfl, by kernel_rfl⟩
instance : HasFn Tryz.prog 61 := ⟨_, Tryz.func61, by kernel_rfl, by kernel_rfl⟩
instance : HasFn Tryz.prog 62 := ⟨_, Tryz.func62, by kernel_rfl, by kernel_rfl⟩
instance : HasFn Tryz.prog 63 := ⟨_, Tryz.func63, by kernel_rfl, by kernel_rfl⟩
instance : HasFn Tryz.prog 64 := ⟨_, Tryz.func64, by kernel_rfl, by kernel_rfl⟩
instance : HasFn Tryz.prog 65 := ⟨_, Tryz.func65, by kernel_rfl, by kernel_rfl⟩
instance : HasFn Tryz.prog 66 := ⟨_, Tryz.func66, by kernel_rfl, by kernel_rfl⟩
instance : HasFn Tryz.prog 67 := ⟨_, Tryz.func67, by kernel_rfl, by kernel_rfl⟩
instance : HasFn Tryz.prog 68 := ⟨_, Tryz.func68, by kernel_rfl, by kernel_rfl⟩
instance : HasFn Tryz.prog 69 := ⟨_, Tryz.func69, by kernel_rfl, by kernel_rfl⟩
instance : HasFn Tryz.prog 70 := ⟨_, Tryz.func70, by kernel_rfl, by kernel_rfl⟩
instance : HasFn Tryz.prog 71 := ⟨_, Tryz.func71, by kernel_rfl, by kernel_rfl⟩
instance : HasFn Tryz.prog 72 := ⟨_, Tryz.func72, by kernel_rfl, by kernel_rfl⟩
instance : HasFn Tryz.prog 73 := ⟨_, Tryz.func73, by kernel_rfl, by kernel_rfl⟩
instance : HasFn Tryz.prog 74 := ⟨_, Tryz.func74, by kernel_rfl, by kernel_rfl⟩
instance : HasFn Tryz.prog 75 := ⟨_, Tryz.func75, by kernel_rfl, by kernel_rfl⟩
instance : HasFn Tryz.prog 76 := ⟨_, Tryz.func76, by kernel_rfl, by kernel_rfl⟩
instance : HasFn Tryz.prog 77 := ⟨_, Tryz.func77, by kernel_rfl, by kernel_rfl⟩
instance : HasFn Tryz.prog 78 := ⟨_, Tryz.func78, by kernel_rfl, by kernel_rfl⟩
instance : HasFn Tryz.prog 79 := ⟨_, Tryz.func79, by kernel_rfl, by kernel_rfl⟩
instance : HasFn Tryz.prog 80 := ⟨_, Tryz.func80, by kernel_rfl, by kernel_rfl⟩
instance : HasFn Tryz.prog 81 := ⟨_, Tryz.func81, by kernel_rfl, by kernel_rfl⟩
instance : HasFn Tryz.prog 82 := ⟨_, Tryz.func82, by kernel_rfl, by kernel_rfl⟩
instance : HasFn Tryz.prog 83 := ⟨_, Tryz.func83, by kernel_rfl, by kernel_rfl⟩
instance : HasFn Tryz.prog 84 := ⟨_, Tryz.func84, by kernel_rfl, by kernel_rfl⟩
instance : HasFn Tryz.prog 85 := ⟨_, Tryz.func85, by kernel_rfl, by kernel_rfl⟩
instance : HasFn Tryz.prog 88 := ⟨_, Tryz.func88, by kernel_rfl, by kernel_rfl⟩
instance : HasFn Tryz.prog 90 := ⟨_, Tryz.func90, by kernel_rfl, by kernel_rfl⟩
instance : HasFn Tryz.prog 91 := ⟨_, Tryz.func91, by kernel_rfl, by kernel_rfl⟩
instance : HasFn Tryz.prog 92 := ⟨_, Tryz.func92, by kernel_rfl, by kernel_rfl⟩
instance : HasFn Tryz.prog 93 := ⟨_, Tryz.func93, by kernel_rfl, by kernel_rfl⟩
instance : HasFn Tryz.prog 94 := ⟨_, Tryz.func94, by kernel_rfl, by kernel_rfl⟩
instance : HasFn Tryz.prog 111 := ⟨_, Tryz.func111, by kernel_rfl, by kernel_rfl⟩
instance : HasFn Tryz.prog 112 := ⟨_, Tryz.func112, by kernel_rfl, by kernel_rfl⟩
instance : HasFn Tryz.prog 113 := ⟨_, Tryz.func113, by kernel_rfl, by kernel_rfl⟩
instance : HasFn Tryz.prog 114 := ⟨_, Tryz.func114, by kernel_rfl, by kernel_rfl⟩
instance : HasFn Tryz.prog 115 := ⟨_, Tryz.func115, by kernel_rfl, by kernel_rfl⟩
instance : HasFn Tryz.prog 116 := ⟨_, Tryz.func116, by kernel_rfl, by kernel_rfl⟩
instance : HasFn Tryz.prog 117 := ⟨_, Tryz.func117, by kernel_rfl, by kernel_rfl⟩
instance : HasFn Tryz.prog 118 := ⟨_, Tryz.func118, by kernel_rfl, by kernel_rfl⟩
instance : HasFn Tryz.prog 119 := ⟨_, Tryz.func119, by kernel_rfl, by kernel_rfl⟩
instance : HasFn Tryz.prog 120 := ⟨_, Tryz.func120, by kernel_rfl, by kernel_rfl⟩
instance : HasFn Tryz.prog 121 := ⟨_, Tryz.func121, by kernel_rfl, by kernel_rfl⟩
instance : HasFn Tryz.prog 122 := ⟨_, Tryz.func122, by kernel_rfl, by kernel_rfl⟩
instance : HasFn Tryz.prog 123 := ⟨_, Tryz.func123, by kernel_rfl, by kernel_rfl⟩
instance : HasFn Tryz.prog 124 := ⟨_, Tryz.func124, by kernel_rfl, by kernel_rfl⟩
instance : HasFn Tryz.prog 125 := ⟨_, Tryz.func125, by kernel_rfl, by kernel_rfl⟩
theorem Tryz.mixed : Tryz.prog.follows .mixedOrders = true := by kernel_rfl
end Go.Proofs
