/- Facts on the seat's types and functions, each read off the loaded program. -/
import Derived.KernelRfl
import Derived.Test.YtmmkepghmmbppaaSl8
import Derived.Test.YtmmkepghmmbppaaProg
set_option autoImplicit false
namespace Go.Proofs
open Go.SL
instance : TyU Try.prog 0 ((TypeDesc.tuple #[])) := ⟨Try.underlying0⟩
instance : TyU Try.prog 1 ((TypeDesc.func #[] #[] false)) := ⟨Try.underlying1⟩
instance : TyI Try.prog 1 1 (.nilFunc) 8 := ⟨by kernel_rfl⟩
instance : TyU Try.prog 2 ((TypeDesc.int IntKind.i64)) := ⟨Try.underlying2⟩
instance : TyI Try.prog 2 1 (.int .i64 0) 8 := ⟨by kernel_rfl⟩
instance : TyU Try.prog 3 ((TypeDesc.int IntKind.i64)) := ⟨Try.underlying3⟩
instance : TyI Try.prog 3 1 (.int .i64 0) 8 := ⟨by kernel_rfl⟩
instance : TyU Try.prog 4 (TypeDesc.bool) := ⟨Try.underlying4⟩
instance : TyI Try.prog 4 1 (.bool false) 1 := ⟨by kernel_rfl⟩
instance : TyU Try.prog 5 ((TypeDesc.int IntKind.u8)) := ⟨Try.underlying5⟩
instance : TyI Try.prog 5 1 (.int .u8 0) 1 := ⟨by kernel_rfl⟩
instance : TyU Try.prog 6 ((TypeDesc.int IntKind.u8)) := ⟨Try.underlying6⟩
instance : TyI Try.prog 6 1 (.int .u8 0) 1 := ⟨by kernel_rfl⟩
instance : TyU Try.prog 7 ((TypeDesc.struct #[{ name := "x", type := 2, offset := 0, embedded := false, tag := "", pkgPath := "runtime", byteOffset := 0 }, { name := "y", type := 3, offset := 1, embedded := false, tag := "", pkgPath := "runtime", byteOffset := 8 }, { name := "signed", type := 4, offset := 2, embedded := false, tag := "", pkgPath := "runtime", byteOffset := 16 }, { name := "code", type := 6, offset := 3, embedded := false, tag := "", pkgPath := "runtime", byteOffset := 17 }])) := ⟨Try.underlying7⟩
instance : TyI Try.prog 7 4 (.agg #[.int .i64 0, .int .i64 0, .bool false, .int .u8 0]) 24 := ⟨by kernel_rfl⟩
instance : TyU Try.prog 8 ((TypeDesc.struct #[{ name := "x", type := 2, offset := 0, embedded := false, tag := "", pkgPath := "runtime", byteOffset := 0 }, { name := "y", type := 3, offset := 1, embedded := false, tag := "", pkgPath := "runtime", byteOffset := 8 }, { name := "signed", type := 4, offset := 2, embedded := false, tag := "", pkgPath := "runtime", byteOffset := 16 }, { name := "code", type := 6, offset := 3, embedded := false, tag := "", pkgPath := "runtime", byteOffset := 17 }])) := ⟨Try.underlying8⟩
instance : TyI Try.prog 8 4 (.agg #[.int .i64 0, .int .i64 0, .bool false, .int .u8 0]) 24 := ⟨by kernel_rfl⟩
instance : TyU Try.prog 9 (TypeDesc.string) := ⟨Try.underlying9⟩
instance : TyI Try.prog 9 1 (.string ⟨#[]⟩) 16 := ⟨by kernel_rfl⟩
instance : TyU Try.prog 10 (TypeDesc.string) := ⟨Try.underlying10⟩
instance : TyI Try.prog 10 1 (.string ⟨#[]⟩) 16 := ⟨by kernel_rfl⟩
instance : TyU Try.prog 11 (TypeDesc.string) := ⟨Try.underlying11⟩
instance : TyI Try.prog 11 1 (.string ⟨#[]⟩) 16 := ⟨by kernel_rfl⟩
instance : TyU Try.prog 12 ((TypeDesc.int IntKind.u64)) := ⟨Try.underlying12⟩
instance : TyI Try.prog 12 1 (.int .u64 0) 8 := ⟨by kernel_rfl⟩
instance : TyU Try.prog 13 ((TypeDesc.struct #[{ name := "msg", type := 9, offset := 0, embedded := false, tag := "", pkgPath := "runtime", byteOffset := 0 }, { name := "addr", type := 12, offset := 1, embedded := false, tag := "", pkgPath := "runtime", byteOffset := 16 }])) := ⟨Try.underlying13⟩
instance : TyI Try.prog 13 2 (.agg #[.string ⟨#[]⟩, .int .u64 0]) 24 := ⟨by kernel_rfl⟩
instance : TyU Try.prog 14 ((TypeDesc.struct #[{ name := "msg", type := 9, offset := 0, embedded := false, tag := "", pkgPath := "runtime", byteOffset := 0 }, { name := "addr", type := 12, offset := 1, embedded := false, tag := "", pkgPath := "runtime", byteOffset := 16 }])) := ⟨Try.underlying14⟩
instance : TyI Try.prog 14 2 (.agg #[.string ⟨#[]⟩, .int .u64 0]) 24 := ⟨by kernel_rfl⟩
instance : TyU Try.prog 15 ((TypeDesc.pointer 124)) := ⟨Try.underlying15⟩
instance : TyI Try.prog 15 1 (.pointer none) 8 := ⟨by kernel_rfl⟩
instance : TyU Try.prog 16 ((TypeDesc.pointer 127)) := ⟨Try.underlying16⟩
instance : TyI Try.prog 16 1 (.pointer none) 8 := ⟨by kernel_rfl⟩
instance : TyU Try.prog 17 ((TypeDesc.pointer 135)) := ⟨Try.underlying17⟩
instance : TyI Try.prog 17 1 (.pointer none) 8 := ⟨by kernel_rfl⟩
instance : TyU Try.prog 18 ((TypeDesc.struct #[{ name := "typ", type := 17, offset := 0, embedded := false, tag := "", pkgPath := "internal/runtime/maps", byteOffset := 0 }])) := ⟨Try.underlying18⟩
instance : TyI Try.prog 18 1 (.agg #[.pointer none]) 8 := ⟨by kernel_rfl⟩
instance : TyU Try.prog 19 ((TypeDesc.struct #[{ name := "typ", type := 17, offset := 0, embedded := false, tag := "", pkgPath := "internal/runtime/maps", byteOffset := 0 }])) := ⟨Try.underlying19⟩
instance : TyI Try.prog 19 1 (.agg #[.pointer none]) 8 := ⟨by kernel_rfl⟩
instance : TyU Try.prog 20 ((TypeDesc.interface #[])) := ⟨Try.underlying20⟩
instance : TyI Try.prog 20 1 (.nilIface) 16 := ⟨by kernel_rfl⟩
instance : TyU Try.prog 21 ((TypeDesc.int IntKind.i32)) := ⟨Try.underlying21⟩
instance : TyI Try.prog 21 1 (.int .i32 0) 4 := ⟨by kernel_rfl⟩
instance : TyU Try.prog 22 ((TypeDesc.slice 25)) := ⟨Try.underlying22⟩
instance : TyI Try.prog 22 1 (.slice none 0 0) 24 := ⟨by kernel_rfl⟩
instance : TyU Try.prog 23 ((TypeDesc.func #[] #[4] false)) := ⟨Try.underlying23⟩
instance : TyI Try.prog 23 1 (.nilFunc) 8 := ⟨by kernel_rfl⟩
instance : TyU Try.prog 24 ((TypeDesc.struct #[{ name := "Kind", type := 3, offset := 0, embedded := false, tag := "", pkgPath := "", byteOffset := 0 }, { name := "At", type := 3, offset := 1, embedded := false, tag := "", pkgPath := "", byteOffset := 8 }, { name := "There", type := 4, offset := 2, embedded := false, tag := "", pkgPath := "", byteOffset := 16 }, { name := "Text", type := 9, offset := 3, embedded := false, tag := "", pkgPath := "", byteOffset := 24 }])) := ⟨Try.underlying24⟩
instance : TyI Try.prog 24 4 (.agg #[.int .i64 0, .int .i64 0, .bool false, .string ⟨#[]⟩]) 40 := ⟨by kernel_rfl⟩
instance : TyU Try.prog 25 ((TypeDesc.struct #[{ name := "Kind", type := 3, offset := 0, embedded := false, tag := "", pkgPath := "", byteOffset := 0 }, { name := "At", type := 3, offset := 1, embedded := false, tag := "", pkgPath := "", byteOffset := 8 }, { name := "There", type := 4, offset := 2, embedded := false, tag := "", pkgPath := "", byteOffset := 16 }, { name := "Text", type := 9, offset := 3, embedded := false, tag := "", pkgPath := "", byteOffset := 24 }])) := ⟨Try.underlying25⟩
instance : TyI Try.prog 25 4 (.agg #[.int .i64 0, .int .i64 0, .bool false, .string ⟨#[]⟩]) 40 := ⟨by kernel_rfl⟩
instance : TyU Try.prog 26 ((TypeDesc.pointer 51)) := ⟨Try.underlying26⟩
instance : TyI Try.prog 26 1 (.pointer none) 8 := ⟨by kernel_rfl⟩
instance : TyU Try.prog 27 ((TypeDesc.func #[3] #[26] false)) := ⟨Try.underlying27⟩
instance : TyI Try.prog 27 1 (.nilFunc) 8 := ⟨by kernel_rfl⟩
instance : TyU Try.prog 28 ((TypeDesc.slice 26)) := ⟨Try.underlying28⟩
instance : TyI Try.prog 28 1 (.slice none 0 0) 24 := ⟨by kernel_rfl⟩
instance : TyU Try.prog 29 ((TypeDesc.slice 9)) := ⟨Try.underlying29⟩
instance : TyI Try.prog 29 1 (.slice none 0 0) 24 := ⟨by kernel_rfl⟩
instance : TyU Try.prog 30 ((TypeDesc.array 2 29)) := ⟨Try.underlying30⟩
instance : TyI Try.prog 30 2 (.agg #[.slice none 0 0, .slice none 0 0]) 48 := ⟨by kernel_rfl⟩
instance : TyU Try.prog 31 ((TypeDesc.int IntKind.u64)) := ⟨Try.underlying31⟩
instance : TyI Try.prog 31 1 (.int .u64 0) 8 := ⟨by kernel_rfl⟩
instance : TyU Try.prog 32 ((TypeDesc.int IntKind.i64)) := ⟨Try.underlying32⟩
instance : TyI Try.prog 32 1 (.int .i64 0) 8 := ⟨by kernel_rfl⟩
instance : TyU Try.prog 33 ((TypeDesc.func #[9] #[32] false)) := ⟨Try.underlying33⟩
instance : TyI Try.prog 33 1 (.nilFunc) 8 := ⟨by kernel_rfl⟩
instance : TyU Try.prog 34 ((TypeDesc.func #[3] #[29] false)) := ⟨Try.underlying34⟩
instance : TyI Try.prog 34 1 (.nilFunc) 8 := ⟨by kernel_rfl⟩
instance : TyU Try.prog 35 ((TypeDesc.func #[] #[29] false)) := ⟨Try.underlying35⟩
instance : TyI Try.prog 35 1 (.nilFunc) 8 := ⟨by kernel_rfl⟩
instance : TyU Try.prog 36 ((TypeDesc.func #[29, 29] #[4] false)) := ⟨Try.underlying36⟩
instance : TyI Try.prog 36 1 (.nilFunc) 8 := ⟨by kernel_rfl⟩
instance : TyU Try.prog 37 ((TypeDesc.func #[] #[3] false)) := ⟨Try.underlying37⟩
instance : TyI Try.prog 37 1 (.nilFunc) 8 := ⟨by kernel_rfl⟩
instance : TyU Try.prog 38 ((TypeDesc.func #[3, 22] #[4] false)) := ⟨Try.underlying38⟩
instance : TyI Try.prog 38 1 (.nilFunc) 8 := ⟨by kernel_rfl⟩
instance : TyU Try.prog 39 ((TypeDesc.func #[3, 29] #[4] false)) := ⟨Try.underlying39⟩
instance : TyI Try.prog 39 1 (.nilFunc) 8 := ⟨by kernel_rfl⟩
instance : TyU Try.prog 40 ((TypeDesc.func #[29] #[4] false)) := ⟨Try.underlying40⟩
instance : TyI Try.prog 40 1 (.nilFunc) 8 := ⟨by kernel_rfl⟩
instance : TyU Try.prog 41 ((TypeDesc.struct #[{ name := "Kind", type := 3, offset := 0, embedded := false, tag := "", pkgPath := "", byteOffset := 0 }, { name := "Now", type := 3, offset := 1, embedded := false, tag := "", pkgPath := "", byteOffset := 8 }, { name := "Text", type := 9, offset := 2, embedded := false, tag := "", pkgPath := "", byteOffset := 16 }])) := ⟨Try.underlying41⟩
instance : TyI Try.prog 41 3 (.agg #[.int .i64 0, .int .i64 0, .string ⟨#[]⟩]) 32 := ⟨by kernel_rfl⟩
instance : TyU Try.prog 42 ((TypeDesc.struct #[{ name := "Kind", type := 3, offset := 0, embedded := false, tag := "", pkgPath := "", byteOffset := 0 }, { name := "Now", type := 3, offset := 1, embedded := false, tag := "", pkgPath := "", byteOffset := 8 }, { name := "Text", type := 9, offset := 2, embedded := false, tag := "", pkgPath := "", byteOffset := 16 }])) := ⟨Try.underlying42⟩
instance : TyI Try.prog 42 3 (.agg #[.int .i64 0, .int .i64 0, .string ⟨#[]⟩]) 32 := ⟨by kernel_rfl⟩
instance : TyU Try.prog 43 ((TypeDesc.func #[42] #[4] false)) := ⟨Try.underlying43⟩
instance : TyI Try.prog 43 1 (.nilFunc) 8 := ⟨by kernel_rfl⟩
instance : TyU Try.prog 44 ((TypeDesc.pointer 70)) := ⟨Try.underlying44⟩
instance : TyI Try.prog 44 1 (.pointer none) 8 := ⟨by kernel_rfl⟩
instance : TyU Try.prog 45 ((TypeDesc.func #[3] #[44] false)) := ⟨Try.underlying45⟩
instance : TyI Try.prog 45 1 (.nilFunc) 8 := ⟨by kernel_rfl⟩
instance : TyU Try.prog 46 ((TypeDesc.pointer 73)) := ⟨Try.underlying46⟩
instance : TyI Try.prog 46 1 (.pointer none) 8 := ⟨by kernel_rfl⟩
instance : TyU Try.prog 47 ((TypeDesc.func #[3] #[46] false)) := ⟨Try.underlying47⟩
instance : TyI Try.prog 47 1 (.nilFunc) 8 := ⟨by kernel_rfl⟩
instance : TyU Try.prog 48 ((TypeDesc.map 3 9)) := ⟨Try.underlying48⟩
instance : TyI Try.prog 48 1 (.map none) 8 := ⟨by kernel_rfl⟩
instance : TyU Try.prog 49 ((TypeDesc.slice 53)) := ⟨Try.underlying49⟩
instance : TyI Try.prog 49 1 (.slice none 0 0) 24 := ⟨by kernel_rfl⟩
instance : TyU Try.prog 50 ((TypeDesc.struct #[{ name := "Window", type := 44, offset := 0, embedded := true, tag := "", pkgPath := "", byteOffset := 0 }, { name := "room", type := 3, offset := 1, embedded := false, tag := "", pkgPath := "sandglass/pipe", byteOffset := 8 }, { name := "sent", type := 3, offset := 2, embedded := false, tag := "", pkgPath := "sandglass/pipe", byteOffset := 16 }, { name := "open", type := 49, offset := 3, embedded := false, tag := "", pkgPath := "sandglass/pipe", byteOffset := 24 }, { name := "timer", type := 46, offset := 4, embedded := false, tag := "", pkgPath := "sandglass/pipe", byteOffset := 48 }, { name := "held", type := 48, offset := 5, embedded := false, tag := "", pkgPath := "sandglass/pipe", byteOffset := 56 }, { name := "told", type := 29, offset := 6, embedded := false, tag := "", pkgPath := "sandglass/pipe", byteOffset := 64 }, { name := "owe", type := 4, offset := 7, embedded := false, tag := "", pkgPath := "sandglass/pipe", byteOffset := 88 }])) := ⟨Try.underlying50⟩
instance : TyI Try.prog 50 8 (.agg #[.pointer none, .int .i64 0, .int .i64 0, .slice none 0 0, .pointer none, .map none, .slice none 0 0, .bool false]) 96 := ⟨by kernel_rfl⟩
instance : TyU Try.prog 51 ((TypeDesc.struct #[{ name := "Window", type := 44, offset := 0, embedded := true, tag := "", pkgPath := "", byteOffset := 0 }, { name := "room", type := 3, offset := 1, embedded := false, tag := "", pkgPath := "sandglass/pipe", byteOffset := 8 }, { name := "sent", type := 3, offset := 2, embedded := false, tag := "", pkgPath := "sandglass/pipe", byteOffset := 16 }, { name := "open", type := 49, offset := 3, embedded := false, tag := "", pkgPath := "sandglass/pipe", byteOffset := 24 }, { name := "timer", type := 46, offset := 4, embedded := false, tag := "", pkgPath := "sandglass/pipe", byteOffset := 48 }, { name := "held", type := 48, offset := 5, embedded := false, tag := "", pkgPath := "sandglass/pipe", byteOffset := 56 }, { name := "told", type := 29, offset := 6, embedded := false, tag := "", pkgPath := "sandglass/pipe", byteOffset := 64 }, { name := "owe", type := 4, offset := 7, embedded := false, tag := "", pkgPath := "sandglass/pipe", byteOffset := 88 }])) := ⟨Try.underlying51⟩
instance : TyI Try.prog 51 8 (.agg #[.pointer none, .int .i64 0, .int .i64 0, .slice none 0 0, .pointer none, .map none, .slice none 0 0, .bool false]) 96 := ⟨by kernel_rfl⟩
instance : TyU Try.prog 52 ((TypeDesc.struct #[{ name := "seq", type := 3, offset := 0, embedded := false, tag := "", pkgPath := "sandglass/pipe", byteOffset := 0 }, { name := "text", type := 9, offset := 1, embedded := false, tag := "", pkgPath := "sandglass/pipe", byteOffset := 8 }, { name := "fresh", type := 4, offset := 2, embedded := false, tag := "", pkgPath := "sandglass/pipe", byteOffset := 24 }])) := ⟨Try.underlying52⟩
instance : TyI Try.prog 52 3 (.agg #[.int .i64 0, .string ⟨#[]⟩, .bool false]) 32 := ⟨by kernel_rfl⟩
instance : TyU Try.prog 53 ((TypeDesc.struct #[{ name := "seq", type := 3, offset := 0, embedded := false, tag := "", pkgPath := "sandglass/pipe", byteOffset := 0 }, { name := "text", type := 9, offset := 1, embedded := false, tag := "", pkgPath := "sandglass/pipe", byteOffset := 8 }, { name := "fresh", type := 4, offset := 2, embedded := false, tag := "", pkgPath := "sandglass/pipe", byteOffset := 24 }])) := ⟨Try.underlying53⟩
instance : TyI Try.prog 53 3 (.agg #[.int .i64 0, .string ⟨#[]⟩, .bool false]) 32 := ⟨by kernel_rfl⟩
instance : TyU Try.prog 54 ((TypeDesc.slice 3)) := ⟨Try.underlying54⟩
instance : TyI Try.prog 54 1 (.slice none 0 0) 24 := ⟨by kernel_rfl⟩
instance : TyU Try.prog 55 ((TypeDesc.func #[3] #[54] false)) := ⟨Try.underlying55⟩
instance : TyI Try.prog 55 1 (.nilFunc) 8 := ⟨by kernel_rfl⟩
instance : TyU Try.prog 56 ((TypeDesc.tuple #[3, 4])) := ⟨Try.underlying56⟩
instance : TyU Try.prog 57 ((TypeDesc.func #[54, 3] #[3, 4] false)) := ⟨Try.underlying57⟩
instance : TyI Try.prog 57 1 (.nilFunc) 8 := ⟨by kernel_rfl⟩
instance : TyU Try.prog 58 ((TypeDesc.func #[3, 3] #[4] false)) := ⟨Try.underlying58⟩
instance : TyI Try.prog 58 1 (.nilFunc) 8 := ⟨by kernel_rfl⟩
instance : TyU Try.prog 59 ((TypeDesc.func #[9, 9] #[9] false)) := ⟨Try.underlying59⟩
instance : TyI Try.prog 59 1 (.nilFunc) 8 := ⟨by kernel_rfl⟩
instance : TyU Try.prog 60 ((TypeDesc.func #[3] #[9] false)) := ⟨Try.underlying60⟩
instance : TyI Try.prog 60 1 (.nilFunc) 8 := ⟨by kernel_rfl⟩
instance : TyU Try.prog 61 ((TypeDesc.tuple #[3, 3, 9, 32])) := ⟨Try.underlying61⟩
instance : TyU Try.prog 62 ((TypeDesc.func #[9] #[3, 3, 9, 32] false)) := ⟨Try.underlying62⟩
instance : TyI Try.prog 62 1 (.nilFunc) 8 := ⟨by kernel_rfl⟩
instance : TyU Try.prog 63 ((TypeDesc.func #[3] #[3] false)) := ⟨Try.underlying63⟩
instance : TyI Try.prog 63 1 (.nilFunc) 8 := ⟨by kernel_rfl⟩
instance : TyU Try.prog 64 ((TypeDesc.func #[49, 65] #[49] false)) := ⟨Try.underlying64⟩
instance : TyI Try.prog 64 1 (.nilFunc) 8 := ⟨by kernel_rfl⟩
instance : TyU Try.prog 65 ((TypeDesc.func #[53] #[4] false)) := ⟨Try.underlying65⟩
instance : TyI Try.prog 65 1 (.nilFunc) 8 := ⟨by kernel_rfl⟩
instance : TyU Try.prog 66 ((TypeDesc.func #[3] #[4] false)) := ⟨Try.underlying66⟩
instance : TyI Try.prog 66 1 (.nilFunc) 8 := ⟨by kernel_rfl⟩
instance : TyU Try.prog 67 ((TypeDesc.func #[29] #[29] false)) := ⟨Try.underlying67⟩
instance : TyI Try.prog 67 1 (.nilFunc) 8 := ⟨by kernel_rfl⟩
instance : TyU Try.prog 68 ((TypeDesc.map 3 4)) := ⟨Try.underlying68⟩
instance : TyI Try.prog 68 1 (.map none) 8 := ⟨by kernel_rfl⟩
instance : TyU Try.prog 69 ((TypeDesc.struct #[{ name := "size", type := 3, offset := 0, embedded := false, tag := "", pkgPath := "sandglass/window", byteOffset := 0 }, { name := "base", type := 3, offset := 1, embedded := false, tag := "", pkgPath := "sandglass/window", byteOffset := 8 }, { name := "beyond", type := 68, offset := 2, embedded := false, tag := "", pkgPath := "sandglass/window", byteOffset := 16 }])) := ⟨Try.underlying69⟩
instance : TyI Try.prog 69 3 (.agg #[.int .i64 0, .int .i64 0, .map none]) 24 := ⟨by kernel_rfl⟩
instance : TyU Try.prog 70 ((TypeDesc.struct #[{ name := "size", type := 3, offset := 0, embedded := false, tag := "", pkgPath := "sandglass/window", byteOffset := 0 }, { name := "base", type := 3, offset := 1, embedded := false, tag := "", pkgPath := "sandglass/window", byteOffset := 8 }, { name := "beyond", type := 68, offset := 2, embedded := false, tag := "", pkgPath := "sandglass/window", byteOffset := 16 }])) := ⟨Try.underlying70⟩
instance : TyI Try.prog 70 3 (.agg #[.int .i64 0, .int .i64 0, .map none]) 24 := ⟨by kernel_rfl⟩
instance : TyU Try.prog 71 ((TypeDesc.map 3 76)) := ⟨Try.underlying71⟩
instance : TyI Try.prog 71 1 (.map none) 8 := ⟨by kernel_rfl⟩
instance : TyU Try.prog 72 ((TypeDesc.struct #[{ name := "most", type := 3, offset := 0, embedded := false, tag := "", pkgPath := "sandglass/window", byteOffset := 0 }, { name := "open", type := 71, offset := 1, embedded := false, tag := "", pkgPath := "sandglass/window", byteOffset := 8 }])) := ⟨Try.underlying72⟩
instance : TyI Try.prog 72 2 (.agg #[.int .i64 0, .map none]) 16 := ⟨by kernel_rfl⟩
instance : TyU Try.prog 73 ((TypeDesc.struct #[{ name := "most", type := 3, offset := 0, embedded := false, tag := "", pkgPath := "sandglass/window", byteOffset := 0 }, { name := "open", type := 71, offset := 1, embedded := false, tag := "", pkgPath := "sandglass/window", byteOffset := 8 }])) := ⟨Try.underlying73⟩
instance : TyI Try.prog 73 2 (.agg #[.int .i64 0, .map none]) 16 := ⟨by kernel_rfl⟩
instance : TyU Try.prog 74 ((TypeDesc.func #[] #[54] false)) := ⟨Try.underlying74⟩
instance : TyI Try.prog 74 1 (.nilFunc) 8 := ⟨by kernel_rfl⟩
instance : TyU Try.prog 75 ((TypeDesc.struct #[{ name := "due", type := 3, offset := 0, embedded := false, tag := "", pkgPath := "sandglass/window", byteOffset := 0 }, { name := "next", type := 3, offset := 1, embedded := false, tag := "", pkgPath := "sandglass/window", byteOffset := 8 }])) := ⟨Try.underlying75⟩
instance : TyI Try.prog 75 2 (.agg #[.int .i64 0, .int .i64 0]) 16 := ⟨by kernel_rfl⟩
instance : TyU Try.prog 76 ((TypeDesc.struct #[{ name := "due", type := 3, offset := 0, embedded := false, tag := "", pkgPath := "sandglass/window", byteOffset := 0 }, { name := "next", type := 3, offset := 1, embedded := false, tag := "", pkgPath := "sandglass/window", byteOffset := 8 }])) := ⟨Try.underlying76⟩
instance : TyI Try.prog 76 2 (.agg #[.int .i64 0, .int .i64 0]) 16 := ⟨by kernel_rfl⟩
instance : TyU Try.prog 77 ((TypeDesc.int IntKind.u64)) := ⟨Try.underlying77⟩
instance : TyI Try.prog 77 1 (.int .u64 0) 8 := ⟨by kernel_rfl⟩
instance : TyU Try.prog 78 ((TypeDesc.tuple #[76, 4])) := ⟨Try.underlying78⟩
instance : TyU Try.prog 79 ((TypeDesc.tuple #[9, 32])) := ⟨Try.underlying79⟩
instance : TyU Try.prog 80 ((TypeDesc.func #[9] #[9, 32] false)) := ⟨Try.underlying80⟩
instance : TyI Try.prog 80 1 (.nilFunc) 8 := ⟨by kernel_rfl⟩
instance : TyU Try.prog 81 ((TypeDesc.func #[29] #[9] false)) := ⟨Try.underlying81⟩
instance : TyI Try.prog 81 1 (.nilFunc) 8 := ⟨by kernel_rfl⟩
instance : TyU Try.prog 82 ((TypeDesc.slice 5)) := ⟨Try.underlying82⟩
instance : TyI Try.prog 82 1 (.slice none 0 0) 24 := ⟨by kernel_rfl⟩
instance : TyU Try.prog 83 ((TypeDesc.tuple #[9, 3, 32])) := ⟨Try.underlying83⟩
instance : TyU Try.prog 84 ((TypeDesc.func #[9] #[9, 3, 32] false)) := ⟨Try.underlying84⟩
instance : TyI Try.prog 84 1 (.nilFunc) 8 := ⟨by kernel_rfl⟩
instance : TyU Try.prog 85 ((TypeDesc.tuple #[29, 32])) := ⟨Try.underlying85⟩
instance : TyU Try.prog 86 ((TypeDesc.func #[9] #[29, 32] false)) := ⟨Try.underlying86⟩
instance : TyI Try.prog 86 1 (.nilFunc) 8 := ⟨by kernel_rfl⟩
instance : TyU Try.prog 87 ((TypeDesc.func #[9] #[3] false)) := ⟨Try.underlying87⟩
instance : TyI Try.prog 87 1 (.nilFunc) 8 := ⟨by kernel_rfl⟩
instance : TyU Try.prog 88 ((TypeDesc.func #[49, 65] #[3] false)) := ⟨Try.underlying88⟩
instance : TyI Try.prog 88 1 (.nilFunc) 8 := ⟨by kernel_rfl⟩
instance : TyU Try.prog 89 ((TypeDesc.func #[91] #[54] false)) := ⟨Try.underlying89⟩
instance : TyI Try.prog 89 1 (.nilFunc) 8 := ⟨by kernel_rfl⟩
instance : TyU Try.prog 90 ((TypeDesc.func #[66] #[] false)) := ⟨Try.underlying90⟩
instance : TyI Try.prog 90 1 (.nilFunc) 8 := ⟨by kernel_rfl⟩
instance : TyU Try.prog 91 ((TypeDesc.func #[66] #[] false)) := ⟨Try.underlying91⟩
instance : TyI Try.prog 91 1 (.nilFunc) 8 := ⟨by kernel_rfl⟩
instance : TyU Try.prog 92 ((TypeDesc.func #[71] #[91] false)) := ⟨Try.underlying92⟩
instance : TyI Try.prog 92 1 (.nilFunc) 8 := ⟨by kernel_rfl⟩
instance : TyU Try.prog 93 ((TypeDesc.func #[94] #[9] false)) := ⟨Try.underlying93⟩
instance : TyI Try.prog 93 1 (.nilFunc) 8 := ⟨by kernel_rfl⟩
instance : TyU Try.prog 94 ((TypeDesc.int IntKind.u32)) := ⟨Try.underlying94⟩
instance : TyI Try.prog 94 1 (.int .u32 0) 4 := ⟨by kernel_rfl⟩
instance : TyU Try.prog 95 ((TypeDesc.func #[94, 9] #[94] false)) := ⟨Try.underlying95⟩
instance : TyI Try.prog 95 1 (.nilFunc) 8 := ⟨by kernel_rfl⟩
instance : TyU Try.prog 96 ((TypeDesc.func #[9] #[9] false)) := ⟨Try.underlying96⟩
instance : TyI Try.prog 96 1 (.nilFunc) 8 := ⟨by kernel_rfl⟩
instance : TyU Try.prog 97 ((TypeDesc.func #[9] #[94] false)) := ⟨Try.underlying97⟩
instance : TyI Try.prog 97 1 (.nilFunc) 8 := ⟨by kernel_rfl⟩
instance : TyU Try.prog 98 ((TypeDesc.tuple #[9, 9, 4])) := ⟨Try.underlying98⟩
instance : TyU Try.prog 99 ((TypeDesc.func #[9] #[9, 9, 4] false)) := ⟨Try.underlying99⟩
instance : TyI Try.prog 99 1 (.nilFunc) 8 := ⟨by kernel_rfl⟩
instance : TyU Try.prog 100 ((TypeDesc.func #[54] #[] false)) := ⟨Try.underlying100⟩
instance : TyI Try.prog 100 1 (.nilFunc) 8 := ⟨by kernel_rfl⟩
instance : TyU Try.prog 101 ((TypeDesc.func #[54, 91] #[54] false)) := ⟨Try.underlying101⟩
instance : TyI Try.prog 101 1 (.nilFunc) 8 := ⟨by kernel_rfl⟩
instance : TyU Try.prog 102 ((TypeDesc.func #[54, 3, 3, 3] #[] false)) := ⟨Try.underlying102⟩
instance : TyI Try.prog 102 1 (.nilFunc) 8 := ⟨by kernel_rfl⟩
instance : TyU Try.prog 103 ((TypeDesc.func #[77] #[3] false)) := ⟨Try.underlying103⟩
instance : TyI Try.prog 103 1 (.nilFunc) 8 := ⟨by kernel_rfl⟩
instance : TyU Try.prog 104 ((TypeDesc.func #[54, 3, 3] #[] false)) := ⟨Try.underlying104⟩
instance : TyI Try.prog 104 1 (.nilFunc) 8 := ⟨by kernel_rfl⟩
instance : TyU Try.prog 105 ((TypeDesc.int IntKind.i64)) := ⟨Try.underlying105⟩
instance : TyI Try.prog 105 1 (.int .i64 0) 8 := ⟨by kernel_rfl⟩
instance : TyU Try.prog 106 ((TypeDesc.tuple #[3, 105])) := ⟨Try.underlying106⟩
instance : TyU Try.prog 107 ((TypeDesc.func #[54, 3, 3] #[3, 105] false)) := ⟨Try.underlying107⟩
instance : TyI Try.prog 107 1 (.nilFunc) 8 := ⟨by kernel_rfl⟩
instance : TyU Try.prog 108 ((TypeDesc.func #[54, 3, 3] #[4] false)) := ⟨Try.underlying108⟩
instance : TyI Try.prog 108 1 (.nilFunc) 8 := ⟨by kernel_rfl⟩
instance : TyU Try.prog 109 ((TypeDesc.func #[54, 3, 3, 3] #[3] false)) := ⟨Try.underlying109⟩
instance : TyI Try.prog 109 1 (.nilFunc) 8 := ⟨by kernel_rfl⟩
instance : TyU Try.prog 110 ((TypeDesc.func #[54, 3, 3, 3] #[3, 4] false)) := ⟨Try.underlying110⟩
instance : TyI Try.prog 110 1 (.nilFunc) 8 := ⟨by kernel_rfl⟩
instance : TyU Try.prog 111 ((TypeDesc.func #[94] #[3] false)) := ⟨Try.underlying111⟩
instance : TyI Try.prog 111 1 (.nilFunc) 8 := ⟨by kernel_rfl⟩
instance : TyU Try.prog 112 ((TypeDesc.func #[31] #[3] false)) := ⟨Try.underlying112⟩
instance : TyI Try.prog 112 1 (.nilFunc) 8 := ⟨by kernel_rfl⟩
instance : TyU Try.prog 113 ((TypeDesc.int IntKind.u64)) := ⟨Try.underlying113⟩
instance : TyI Try.prog 113 1 (.int .u64 0) 8 := ⟨by kernel_rfl⟩
instance : TyU Try.prog 114 ((TypeDesc.func #[3] #[77] false)) := ⟨Try.underlying114⟩
instance : TyI Try.prog 114 1 (.nilFunc) 8 := ⟨by kernel_rfl⟩
instance : TyU Try.prog 115 ((TypeDesc.func #[] #[31] false)) := ⟨Try.underlying115⟩
instance : TyI Try.prog 115 1 (.nilFunc) 8 := ⟨by kernel_rfl⟩
instance : TyU Try.prog 116 ((TypeDesc.func #[54, 3, 117] #[3] false)) := ⟨Try.underlying116⟩
instance : TyI Try.prog 116 1 (.nilFunc) 8 := ⟨by kernel_rfl⟩
instance : TyU Try.prog 117 ((TypeDesc.pointer 3)) := ⟨Try.underlying117⟩
instance : TyI Try.prog 117 1 (.pointer none) 8 := ⟨by kernel_rfl⟩
instance : TyU Try.prog 118 ((TypeDesc.func #[54, 3, 3, 3, 117] #[3] false)) := ⟨Try.underlying118⟩
instance : TyI Try.prog 118 1 (.nilFunc) 8 := ⟨by kernel_rfl⟩
instance : TyU Try.prog 119 ((TypeDesc.pointer 113)) := ⟨Try.underlying119⟩
instance : TyI Try.prog 119 1 (.pointer none) 8 := ⟨by kernel_rfl⟩
instance : TyU Try.prog 120 ((TypeDesc.tuple #[3, 3])) := ⟨Try.underlying120⟩
instance : TyU Try.prog 121 ((TypeDesc.func #[54, 3, 3, 117] #[3, 3] false)) := ⟨Try.underlying121⟩
instance : TyI Try.prog 121 1 (.nilFunc) 8 := ⟨by kernel_rfl⟩
instance : TyU Try.prog 122 ((TypeDesc.func #[] #[9] false)) := ⟨Try.underlying122⟩
instance : TyI Try.prog 122 1 (.nilFunc) 8 := ⟨by kernel_rfl⟩
instance : TyU Try.prog 123 ((TypeDesc.struct #[{ name := "_interface", type := 17, offset := 0, embedded := false, tag := "", pkgPath := "runtime", byteOffset := 0 }, { name := "concrete", type := 17, offset := 1, embedded := false, tag := "", pkgPath := "runtime", byteOffset := 8 }, { name := "asserted", type := 17, offset := 2, embedded := false, tag := "", pkgPath := "runtime", byteOffset := 16 }, { name := "missingMethod", type := 9, offset := 3, embedded := false, tag := "", pkgPath := "runtime", byteOffset := 24 }])) := ⟨Try.underlying123⟩
instance : TyI Try.prog 123 4 (.agg #[.pointer none, .pointer none, .pointer none, .string ⟨#[]⟩]) 40 := ⟨by kernel_rfl⟩
instance : TyU Try.prog 124 ((TypeDesc.struct #[{ name := "_interface", type := 17, offset := 0, embedded := false, tag := "", pkgPath := "runtime", byteOffset := 0 }, { name := "concrete", type := 17, offset := 1, embedded := false, tag := "", pkgPath := "runtime", byteOffset := 8 }, { name := "asserted", type := 17, offset := 2, embedded := false, tag := "", pkgPath := "runtime", byteOffset := 16 }, { name := "missingMethod", type := 9, offset := 3, embedded := false, tag := "", pkgPath := "runtime", byteOffset := 24 }])) := ⟨Try.underlying124⟩
instance : TyI Try.prog 124 4 (.agg #[.pointer none, .pointer none, .pointer none, .string ⟨#[]⟩]) 40 := ⟨by kernel_rfl⟩
instance : TyU Try.prog 125 ((TypeDesc.array 0 16)) := ⟨Try.underlying125⟩
instance : TyI Try.prog 125 0 (.agg #[]) 0 := ⟨by kernel_rfl⟩
instance : TyU Try.prog 126 ((TypeDesc.struct #[{ name := "_", type := 125, offset := 0, embedded := false, tag := "", pkgPath := "runtime", byteOffset := 0 }])) := ⟨Try.underlying126⟩
instance : TyI Try.prog 126 0 (.agg #[]) 0 := ⟨by kernel_rfl⟩
instance : TyU Try.prog 127 ((TypeDesc.struct #[{ name := "_", type := 125, offset := 0, embedded := false, tag := "", pkgPath := "runtime", byteOffset := 0 }])) := ⟨Try.underlying127⟩
instance : TyI Try.prog 127 0 (.agg #[]) 0 := ⟨by kernel_rfl⟩
instance : TyU Try.prog 128 ((TypeDesc.int IntKind.u8)) := ⟨Try.underlying128⟩
instance : TyI Try.prog 128 1 (.int .u8 0) 1 := ⟨by kernel_rfl⟩
instance : TyU Try.prog 129 ((TypeDesc.int IntKind.u8)) := ⟨Try.underlying129⟩
instance : TyI Try.prog 129 1 (.int .u8 0) 1 := ⟨by kernel_rfl⟩
instance : TyU Try.prog 130 ((TypeDesc.func #[136, 136] #[4] false)) := ⟨Try.underlying130⟩
instance : TyI Try.prog 130 1 (.nilFunc) 8 := ⟨by kernel_rfl⟩
instance : TyU Try.prog 131 ((TypeDesc.pointer 5)) := ⟨Try.underlying131⟩
instance : TyI Try.prog 131 1 (.pointer none) 8 := ⟨by kernel_rfl⟩
instance : TyU Try.prog 132 ((TypeDesc.int IntKind.i32)) := ⟨Try.underlying132⟩
instance : TyI Try.prog 132 1 (.int .i32 0) 4 := ⟨by kernel_rfl⟩
instance : TyU Try.prog 133 ((TypeDesc.int IntKind.i32)) := ⟨Try.underlying133⟩
instance : TyI Try.prog 133 1 (.int .i32 0) 4 := ⟨by kernel_rfl⟩
instance : TyU Try.prog 134 ((TypeDesc.struct #[{ name := "Size_", type := 12, offset := 0, embedded := false, tag := "", pkgPath := "", byteOffset := 0 }, { name := "PtrBytes", type := 12, offset := 1, embedded := false, tag := "", pkgPath := "", byteOffset := 8 }, { name := "Hash", type := 94, offset := 2, embedded := false, tag := "", pkgPath := "", byteOffset := 16 }, { name := "TFlag", type := 128, offset := 3, embedded := false, tag := "", pkgPath := "", byteOffset := 20 }, { name := "Align_", type := 5, offset := 4, embedded := false, tag := "", pkgPath := "", byteOffset := 21 }, { name := "FieldAlign_", type := 5, offset := 5, embedded := false, tag := "", pkgPath := "", byteOffset := 22 }, { name := "Kind_", type := 129, offset := 6, embedded := false, tag := "", pkgPath := "", byteOffset := 23 }, { name := "Equal", type := 130, offset := 7, embedded := false, tag := "", pkgPath := "", byteOffset := 24 }, { name := "GCData", type := 131, offset := 8, embedded := false, tag := "", pkgPath := "", byteOffset := 32 }, { name := "Str", type := 132, offset := 9, embedded := false, tag := "", pkgPath := "", byteOffset := 40 }, { name := "PtrToThis", type := 133, offset := 10, embedded := false, tag := "", pkgPath := "", byteOffset := 44 }])) := ⟨Try.underlying134⟩
instance : TyI Try.prog 134 11 (.agg #[.int .u64 0, .int .u64 0, .int .u32 0, .int .u8 0, .int .u8 0, .int .u8 0, .int .u8 0, .nilFunc, .pointer none, .int .i32 0, .int .i32 0]) 48 := ⟨by kernel_rfl⟩
instance : TyU Try.prog 135 ((TypeDesc.struct #[{ name := "Size_", type := 12, offset := 0, embedded := false, tag := "", pkgPath := "", byteOffset := 0 }, { name := "PtrBytes", type := 12, offset := 1, embedded := false, tag := "", pkgPath := "", byteOffset := 8 }, { name := "Hash", type := 94, offset := 2, embedded := false, tag := "", pkgPath := "", byteOffset := 16 }, { name := "TFlag", type := 128, offset := 3, embedded := false, tag := "", pkgPath := "", byteOffset := 20 }, { name := "Align_", type := 5, offset := 4, embedded := false, tag := "", pkgPath := "", byteOffset := 21 }, { name := "FieldAlign_", type := 5, offset := 5, embedded := false, tag := "", pkgPath := "", byteOffset := 22 }, { name := "Kind_", type := 129, offset := 6, embedded := false, tag := "", pkgPath := "", byteOffset := 23 }, { name := "Equal", type := 130, offset := 7, embedded := false, tag := "", pkgPath := "", byteOffset := 24 }, { name := "GCData", type := 131, offset := 8, embedded := false, tag := "", pkgPath := "", byteOffset := 32 }, { name := "Str", type := 132, offset := 9, embedded := false, tag := "", pkgPath := "", byteOffset := 40 }, { name := "PtrToThis", type := 133, offset := 10, embedded := false, tag := "", pkgPath := "", byteOffset := 44 }])) := ⟨Try.underlying135⟩
instance : TyI Try.prog 135 11 (.agg #[.int .u64 0, .int .u64 0, .int .u32 0, .int .u8 0, .int .u8 0, .int .u8 0, .int .u8 0, .nilFunc, .pointer none, .int .i32 0, .int .i32 0]) 48 := ⟨by kernel_rfl⟩
instance : TyU Try.prog 136 (TypeDesc.unsafePointer) := ⟨Try.underlying136⟩
instance : TyI Try.prog 136 1 (.pointer none) 8 := ⟨by kernel_rfl⟩
instance : Places Try.prog 7 [(0, 1), (1, 1), (2, 1), (3, 1)] [.int .i64 0, .int .i64 0, .bool false, .int .u8 0] := .of Try.underlying7 inferInstance rfl (fun _ => by kernel_rfl)
instance : FldOff Try.prog 7 0 0 := .of Try.underlying7 (fd := { name := "x", type := 2, offset := 0, embedded := false, tag := "", pkgPath := "runtime", byteOffset := 0 }) rfl inferInstance (by decide)
instance : FldOff Try.prog 7 1 1 := .of Try.underlying7 (fd := { name := "y", type := 3, offset := 1, embedded := false, tag := "", pkgPath := "runtime", byteOffset := 8 }) rfl inferInstance (by decide)
instance : FldOff Try.prog 7 2 2 := .of Try.underlying7 (fd := { name := "signed", type := 4, offset := 2, embedded := false, tag := "", pkgPath := "runtime", byteOffset := 16 }) rfl inferInstance (by decide)
instance : FldOff Try.prog 7 3 3 := .of Try.underlying7 (fd := { name := "code", type := 6, offset := 3, embedded := false, tag := "", pkgPath := "runtime", byteOffset := 17 }) rfl inferInstance (by decide)
instance : Places Try.prog 8 [(0, 1), (1, 1), (2, 1), (3, 1)] [.int .i64 0, .int .i64 0, .bool false, .int .u8 0] := .of Try.underlying8 inferInstance rfl (fun _ => by kernel_rfl)
instance : FldOff Try.prog 8 0 0 := .of Try.underlying8 (fd := { name := "x", type := 2, offset := 0, embedded := false, tag := "", pkgPath := "runtime", byteOffset := 0 }) rfl inferInstance (by decide)
instance : FldOff Try.prog 8 1 1 := .of Try.underlying8 (fd := { name := "y", type := 3, offset := 1, embedded := false, tag := "", pkgPath := "runtime", byteOffset := 8 }) rfl inferInstance (by decide)
instance : FldOff Try.prog 8 2 2 := .of Try.underlying8 (fd := { name := "signed", type := 4, offset := 2, embedded := false, tag := "", pkgPath := "runtime", byteOffset := 16 }) rfl inferInstance (by decide)
instance : FldOff Try.prog 8 3 3 := .of Try.underlying8 (fd := { name := "code", type := 6, offset := 3, embedded := false, tag := "", pkgPath := "runtime", byteOffset := 17 }) rfl inferInstance (by decide)
instance : Places Try.prog 13 [(0, 1), (1, 1)] [.string ⟨#[]⟩, .int .u64 0] := .of Try.underlying13 inferInstance rfl (fun _ => by kernel_rfl)
instance : FldOff Try.prog 13 0 0 := .of Try.underlying13 (fd := { name := "msg", type := 9, offset := 0, embedded := false, tag := "", pkgPath := "runtime", byteOffset := 0 }) rfl inferInstance (by decide)
instance : FldOff Try.prog 13 1 1 := .of Try.underlying13 (fd := { name := "addr", type := 12, offset := 1, embedded := false, tag := "", pkgPath := "runtime", byteOffset := 16 }) rfl inferInstance (by decide)
instance : Places Try.prog 14 [(0, 1), (1, 1)] [.string ⟨#[]⟩, .int .u64 0] := .of Try.underlying14 inferInstance rfl (fun _ => by kernel_rfl)
instance : FldOff Try.prog 14 0 0 := .of Try.underlying14 (fd := { name := "msg", type := 9, offset := 0, embedded := false, tag := "", pkgPath := "runtime", byteOffset := 0 }) rfl inferInstance (by decide)
instance : FldOff Try.prog 14 1 1 := .of Try.underlying14 (fd := { name := "addr", type := 12, offset := 1, embedded := false, tag := "", pkgPath := "runtime", byteOffset := 16 }) rfl inferInstance (by decide)
instance : Places Try.prog 18 [(0, 1)] [.pointer none] := .of Try.underlying18 inferInstance rfl (fun _ => by kernel_rfl)
instance : FldOff Try.prog 18 0 0 := .of Try.underlying18 (fd := { name := "typ", type := 17, offset := 0, embedded := false, tag := "", pkgPath := "internal/runtime/maps", byteOffset := 0 }) rfl inferInstance (by decide)
instance : Places Try.prog 19 [(0, 1)] [.pointer none] := .of Try.underlying19 inferInstance rfl (fun _ => by kernel_rfl)
instance : FldOff Try.prog 19 0 0 := .of Try.underlying19 (fd := { name := "typ", type := 17, offset := 0, embedded := false, tag := "", pkgPath := "internal/runtime/maps", byteOffset := 0 }) rfl inferInstance (by decide)
instance : Places Try.prog 24 [(0, 1), (1, 1), (2, 1), (3, 1)] [.int .i64 0, .int .i64 0, .bool false, .string ⟨#[]⟩] := .of Try.underlying24 inferInstance rfl (fun _ => by kernel_rfl)
instance : FldOff Try.prog 24 0 0 := .of Try.underlying24 (fd := { name := "Kind", type := 3, offset := 0, embedded := false, tag := "", pkgPath := "", byteOffset := 0 }) rfl inferInstance (by decide)
instance : FldOff Try.prog 24 1 1 := .of Try.underlying24 (fd := { name := "At", type := 3, offset := 1, embedded := false, tag := "", pkgPath := "", byteOffset := 8 }) rfl inferInstance (by decide)
instance : FldOff Try.prog 24 2 2 := .of Try.underlying24 (fd := { name := "There", type := 4, offset := 2, embedded := false, tag := "", pkgPath := "", byteOffset := 16 }) rfl inferInstance (by decide)
instance : FldOff Try.prog 24 3 3 := .of Try.underlying24 (fd := { name := "Text", type := 9, offset := 3, embedded := false, tag := "", pkgPath := "", byteOffset := 24 }) rfl inferInstance (by decide)
instance : Places Try.prog 25 [(0, 1), (1, 1), (2, 1), (3, 1)] [.int .i64 0, .int .i64 0, .bool false, .string ⟨#[]⟩] := .of Try.underlying25 inferInstance rfl (fun _ => by kernel_rfl)
instance : FldOff Try.prog 25 0 0 := .of Try.underlying25 (fd := { name := "Kind", type := 3, offset := 0, embedded := false, tag := "", pkgPath := "", byteOffset := 0 }) rfl inferInstance (by decide)
instance : FldOff Try.prog 25 1 1 := .of Try.underlying25 (fd := { name := "At", type := 3, offset := 1, embedded := false, tag := "", pkgPath := "", byteOffset := 8 }) rfl inferInstance (by decide)
instance : FldOff Try.prog 25 2 2 := .of Try.underlying25 (fd := { name := "There", type := 4, offset := 2, embedded := false, tag := "", pkgPath := "", byteOffset := 16 }) rfl inferInstance (by decide)
instance : FldOff Try.prog 25 3 3 := .of Try.underlying25 (fd := { name := "Text", type := 9, offset := 3, embedded := false, tag := "", pkgPath := "", byteOffset := 24 }) rfl inferInstance (by decide)
instance : Places Try.prog 41 [(0, 1), (1, 1), (2, 1)] [.int .i64 0, .int .i64 0, .string ⟨#[]⟩] := .of Try.underlying41 inferInstance rfl (fun _ => by kernel_rfl)
instance : FldOff Try.prog 41 0 0 := .of Try.underlying41 (fd := { name := "Kind", type := 3, offset := 0, embedded := false, tag := "", pkgPath := "", byteOffset := 0 }) rfl inferInstance (by decide)
instance : FldOff Try.prog 41 1 1 := .of Try.underlying41 (fd := { name := "Now", type := 3, offset := 1, embedded := false, tag := "", pkgPath := "", byteOffset := 8 }) rfl inferInstance (by decide)
instance : FldOff Try.prog 41 2 2 := .of Try.underlying41 (fd := { name := "Text", type := 9, offset := 2, embedded := false, tag := "", pkgPath := "", byteOffset := 16 }) rfl inferInstance (by decide)
instance : Places Try.prog 42 [(0, 1), (1, 1), (2, 1)] [.int .i64 0, .int .i64 0, .string ⟨#[]⟩] := .of Try.underlying42 inferInstance rfl (fun _ => by kernel_rfl)
instance : FldOff Try.prog 42 0 0 := .of Try.underlying42 (fd := { name := "Kind", type := 3, offset := 0, embedded := false, tag := "", pkgPath := "", byteOffset := 0 }) rfl inferInstance (by decide)
instance : FldOff Try.prog 42 1 1 := .of Try.underlying42 (fd := { name := "Now", type := 3, offset := 1, embedded := false, tag := "", pkgPath := "", byteOffset := 8 }) rfl inferInstance (by decide)
instance : FldOff Try.prog 42 2 2 := .of Try.underlying42 (fd := { name := "Text", type := 9, offset := 2, embedded := false, tag := "", pkgPath := "", byteOffset := 16 }) rfl inferInstance (by decide)
instance : Places Try.prog 50 [(0, 1), (1, 1), (2, 1), (3, 1), (4, 1), (5, 1), (6, 1), (7, 1)] [.pointer none, .int .i64 0, .int .i64 0, .slice none 0 0, .pointer none, .map none, .slice none 0 0, .bool false] := .of Try.underlying50 inferInstance rfl (fun _ => by kernel_rfl)
instance : FldOff Try.prog 50 0 0 := .of Try.underlying50 (fd := { name := "Window", type := 44, offset := 0, embedded := true, tag := "", pkgPath := "", byteOffset := 0 }) rfl inferInstance (by decide)
instance : FldOff Try.prog 50 1 1 := .of Try.underlying50 (fd := { name := "room", type := 3, offset := 1, embedded := false, tag := "", pkgPath := "sandglass/pipe", byteOffset := 8 }) rfl inferInstance (by decide)
instance : FldOff Try.prog 50 2 2 := .of Try.underlying50 (fd := { name := "sent", type := 3, offset := 2, embedded := false, tag := "", pkgPath := "sandglass/pipe", byteOffset := 16 }) rfl inferInstance (by decide)
instance : FldOff Try.prog 50 3 3 := .of Try.underlying50 (fd := { name := "open", type := 49, offset := 3, embedded := false, tag := "", pkgPath := "sandglass/pipe", byteOffset := 24 }) rfl inferInstance (by decide)
instance : FldOff Try.prog 50 4 4 := .of Try.underlying50 (fd := { name := "timer", type := 46, offset := 4, embedded := false, tag := "", pkgPath := "sandglass/pipe", byteOffset := 48 }) rfl inferInstance (by decide)
instance : FldOff Try.prog 50 5 5 := .of Try.underlying50 (fd := { name := "held", type := 48, offset := 5, embedded := false, tag := "", pkgPath := "sandglass/pipe", byteOffset := 56 }) rfl inferInstance (by decide)
instance : FldOff Try.prog 50 6 6 := .of Try.underlying50 (fd := { name := "told", type := 29, offset := 6, embedded := false, tag := "", pkgPath := "sandglass/pipe", byteOffset := 64 }) rfl inferInstance (by decide)
instance : FldOff Try.prog 50 7 7 := .of Try.underlying50 (fd := { name := "owe", type := 4, offset := 7, embedded := false, tag := "", pkgPath := "sandglass/pipe", byteOffset := 88 }) rfl inferInstance (by decide)
instance : Places Try.prog 51 [(0, 1), (1, 1), (2, 1), (3, 1), (4, 1), (5, 1), (6, 1), (7, 1)] [.pointer none, .int .i64 0, .int .i64 0, .slice none 0 0, .pointer none, .map none, .slice none 0 0, .bool false] := .of Try.underlying51 inferInstance rfl (fun _ => by kernel_rfl)
instance : FldOff Try.prog 51 0 0 := .of Try.underlying51 (fd := { name := "Window", type := 44, offset := 0, embedded := true, tag := "", pkgPath := "", byteOffset := 0 }) rfl inferInstance (by decide)
instance : FldOff Try.prog 51 1 1 := .of Try.underlying51 (fd := { name := "room", type := 3, offset := 1, embedded := false, tag := "", pkgPath := "sandglass/pipe", byteOffset := 8 }) rfl inferInstance (by decide)
instance : FldOff Try.prog 51 2 2 := .of Try.underlying51 (fd := { name := "sent", type := 3, offset := 2, embedded := false, tag := "", pkgPath := "sandglass/pipe", byteOffset := 16 }) rfl inferInstance (by decide)
instance : FldOff Try.prog 51 3 3 := .of Try.underlying51 (fd := { name := "open", type := 49, offset := 3, embedded := false, tag := "", pkgPath := "sandglass/pipe", byteOffset := 24 }) rfl inferInstance (by decide)
instance : FldOff Try.prog 51 4 4 := .of Try.underlying51 (fd := { name := "timer", type := 46, offset := 4, embedded := false, tag := "", pkgPath := "sandglass/pipe", byteOffset := 48 }) rfl inferInstance (by decide)
instance : FldOff Try.prog 51 5 5 := .of Try.underlying51 (fd := { name := "held", type := 48, offset := 5, embedded := false, tag := "", pkgPath := "sandglass/pipe", byteOffset := 56 }) rfl inferInstance (by decide)
instance : FldOff Try.prog 51 6 6 := .of Try.underlying51 (fd := { name := "told", type := 29, offset := 6, embedded := false, tag := "", pkgPath := "sandglass/pipe", byteOffset := 64 }) rfl inferInstance (by decide)
instance : FldOff Try.prog 51 7 7 := .of Try.underlying51 (fd := { name := "owe", type := 4, offset := 7, embedded := false, tag := "", pkgPath := "sandglass/pipe", byteOffset := 88 }) rfl inferInstance (by decide)
instance : Places Try.prog 52 [(0, 1), (1, 1), (2, 1)] [.int .i64 0, .string ⟨#[]⟩, .bool false] := .of Try.underlying52 inferInstance rfl (fun _ => by kernel_rfl)
instance : FldOff Try.prog 52 0 0 := .of Try.underlying52 (fd := { name := "seq", type := 3, offset := 0, embedded := false, tag := "", pkgPath := "sandglass/pipe", byteOffset := 0 }) rfl inferInstance (by decide)
instance : FldOff Try.prog 52 1 1 := .of Try.underlying52 (fd := { name := "text", type := 9, offset := 1, embedded := false, tag := "", pkgPath := "sandglass/pipe", byteOffset := 8 }) rfl inferInstance (by decide)
instance : FldOff Try.prog 52 2 2 := .of Try.underlying52 (fd := { name := "fresh", type := 4, offset := 2, embedded := false, tag := "", pkgPath := "sandglass/pipe", byteOffset := 24 }) rfl inferInstance (by decide)
instance : Places Try.prog 53 [(0, 1), (1, 1), (2, 1)] [.int .i64 0, .string ⟨#[]⟩, .bool false] := .of Try.underlying53 inferInstance rfl (fun _ => by kernel_rfl)
instance : FldOff Try.prog 53 0 0 := .of Try.underlying53 (fd := { name := "seq", type := 3, offset := 0, embedded := false, tag := "", pkgPath := "sandglass/pipe", byteOffset := 0 }) rfl inferInstance (by decide)
instance : FldOff Try.prog 53 1 1 := .of Try.underlying53 (fd := { name := "text", type := 9, offset := 1, embedded := false, tag := "", pkgPath := "sandglass/pipe", byteOffset := 8 }) rfl inferInstance (by decide)
instance : FldOff Try.prog 53 2 2 := .of Try.underlying53 (fd := { name := "fresh", type := 4, offset := 2, embedded := false, tag := "", pkgPath := "sandglass/pipe", byteOffset := 24 }) rfl inferInstance (by decide)
instance : Places Try.prog 69 [(0, 1), (1, 1), (2, 1)] [.int .i64 0, .int .i64 0, .map none] := .of Try.underlying69 inferInstance rfl (fun _ => by kernel_rfl)
instance : FldOff Try.prog 69 0 0 := .of Try.underlying69 (fd := { name := "size", type := 3, offset := 0, embedded := false, tag := "", pkgPath := "sandglass/window", byteOffset := 0 }) rfl inferInstance (by decide)
instance : FldOff Try.prog 69 1 1 := .of Try.underlying69 (fd := { name := "base", type := 3, offset := 1, embedded := false, tag := "", pkgPath := "sandglass/window", byteOffset := 8 }) rfl inferInstance (by decide)
instance : FldOff Try.prog 69 2 2 := .of Try.underlying69 (fd := { name := "beyond", type := 68, offset := 2, embedded := false, tag := "", pkgPath := "sandglass/window", byteOffset := 16 }) rfl inferInstance (by decide)
instance : Places Try.prog 70 [(0, 1), (1, 1), (2, 1)] [.int .i64 0, .int .i64 0, .map none] := .of Try.underlying70 inferInstance rfl (fun _ => by kernel_rfl)
instance : FldOff Try.prog 70 0 0 := .of Try.underlying70 (fd := { name := "size", type := 3, offset := 0, embedded := false, tag := "", pkgPath := "sandglass/window", byteOffset := 0 }) rfl inferInstance (by decide)
instance : FldOff Try.prog 70 1 1 := .of Try.underlying70 (fd := { name := "base", type := 3, offset := 1, embedded := false, tag := "", pkgPath := "sandglass/window", byteOffset := 8 }) rfl inferInstance (by decide)
instance : FldOff Try.prog 70 2 2 := .of Try.underlying70 (fd := { name := "beyond", type := 68, offset := 2, embedded := false, tag := "", pkgPath := "sandglass/window", byteOffset := 16 }) rfl inferInstance (by decide)
instance : Places Try.prog 72 [(0, 1), (1, 1)] [.int .i64 0, .map none] := .of Try.underlying72 inferInstance rfl (fun _ => by kernel_rfl)
instance : FldOff Try.prog 72 0 0 := .of Try.underlying72 (fd := { name := "most", type := 3, offset := 0, embedded := false, tag := "", pkgPath := "sandglass/window", byteOffset := 0 }) rfl inferInstance (by decide)
instance : FldOff Try.prog 72 1 1 := .of Try.underlying72 (fd := { name := "open", type := 71, offset := 1, embedded := false, tag := "", pkgPath := "sandglass/window", byteOffset := 8 }) rfl inferInstance (by decide)
instance : Places Try.prog 73 [(0, 1), (1, 1)] [.int .i64 0, .map none] := .of Try.underlying73 inferInstance rfl (fun _ => by kernel_rfl)
instance : FldOff Try.prog 73 0 0 := .of Try.underlying73 (fd := { name := "most", type := 3, offset := 0, embedded := false, tag := "", pkgPath := "sandglass/window", byteOffset := 0 }) rfl inferInstance (by decide)
instance : FldOff Try.prog 73 1 1 := .of Try.underlying73 (fd := { name := "open", type := 71, offset := 1, embedded := false, tag := "", pkgPath := "sandglass/window", byteOffset := 8 }) rfl inferInstance (by decide)
instance : Places Try.prog 75 [(0, 1), (1, 1)] [.int .i64 0, .int .i64 0] := .of Try.underlying75 inferInstance rfl (fun _ => by kernel_rfl)
instance : FldOff Try.prog 75 0 0 := .of Try.underlying75 (fd := { name := "due", type := 3, offset := 0, embedded := false, tag := "", pkgPath := "sandglass/window", byteOffset := 0 }) rfl inferInstance (by decide)
instance : FldOff Try.prog 75 1 1 := .of Try.underlying75 (fd := { name := "next", type := 3, offset := 1, embedded := false, tag := "", pkgPath := "sandglass/window", byteOffset := 8 }) rfl inferInstance (by decide)
instance : Places Try.prog 76 [(0, 1), (1, 1)] [.int .i64 0, .int .i64 0] := .of Try.underlying76 inferInstance rfl (fun _ => by kernel_rfl)
instance : FldOff Try.prog 76 0 0 := .of Try.underlying76 (fd := { name := "due", type := 3, offset := 0, embedded := false, tag := "", pkgPath := "sandglass/window", byteOffset := 0 }) rfl inferInstance (by decide)
instance : FldOff Try.prog 76 1 1 := .of Try.underlying76 (fd := { name := "next", type := 3, offset := 1, embedded := false, tag := "", pkgPath := "sandglass/window", byteOffset := 8 }) rfl inferInstance (by decide)
instance : Places Try.prog 123 [(0, 1), (1, 1), (2, 1), (3, 1)] [.pointer none, .pointer none, .pointer none, .string ⟨#[]⟩] := .of Try.underlying123 inferInstance rfl (fun _ => by kernel_rfl)
instance : FldOff Try.prog 123 0 0 := .of Try.underlying123 (fd := { name := "_interface", type := 17, offset := 0, embedded := false, tag := "", pkgPath := "runtime", byteOffset := 0 }) rfl inferInstance (by decide)
instance : FldOff Try.prog 123 1 1 := .of Try.underlying123 (fd := { name := "concrete", type := 17, offset := 1, embedded := false, tag := "", pkgPath := "runtime", byteOffset := 8 }) rfl inferInstance (by decide)
instance : FldOff Try.prog 123 2 2 := .of Try.underlying123 (fd := { name := "asserted", type := 17, offset := 2, embedded := false, tag := "", pkgPath := "runtime", byteOffset := 16 }) rfl inferInstance (by decide)
instance : FldOff Try.prog 123 3 3 := .of Try.underlying123 (fd := { name := "missingMethod", type := 9, offset := 3, embedded := false, tag := "", pkgPath := "runtime", byteOffset := 24 }) rfl inferInstance (by decide)
instance : Places Try.prog 124 [(0, 1), (1, 1), (2, 1), (3, 1)] [.pointer none, .pointer none, .pointer none, .string ⟨#[]⟩] := .of Try.underlying124 inferInstance rfl (fun _ => by kernel_rfl)
instance : FldOff Try.prog 124 0 0 := .of Try.underlying124 (fd := { name := "_interface", type := 17, offset := 0, embedded := false, tag := "", pkgPath := "runtime", byteOffset := 0 }) rfl inferInstance (by decide)
instance : FldOff Try.prog 124 1 1 := .of Try.underlying124 (fd := { name := "concrete", type := 17, offset := 1, embedded := false, tag := "", pkgPath := "runtime", byteOffset := 8 }) rfl inferInstance (by decide)
instance : FldOff Try.prog 124 2 2 := .of Try.underlying124 (fd := { name := "asserted", type := 17, offset := 2, embedded := false, tag := "", pkgPath := "runtime", byteOffset := 16 }) rfl inferInstance (by decide)
instance : FldOff Try.prog 124 3 3 := .of Try.underlying124 (fd := { name := "missingMethod", type := 9, offset := 3, embedded := false, tag := "", pkgPath := "runtime", byteOffset := 24 }) rfl inferInstance (by decide)
instance : Places Try.prog 126 [(0, 0)] [] := .of Try.underlying126 inferInstance rfl (fun _ => by kernel_rfl)
instance : Places Try.prog 127 [(0, 0)] [] := .of Try.underlying127 inferInstance rfl (fun _ => by kernel_rfl)
instance : Places Try.prog 134 [(0, 1), (1, 1), (2, 1), (3, 1), (4, 1), (5, 1), (6, 1), (7, 1), (8, 1), (9, 1), (10, 1)] [.int .u64 0, .int .u64 0, .int .u32 0, .int .u8 0, .int .u8 0, .int .u8 0, .int .u8 0, .nilFunc, .pointer none, .int .i32 0, .int .i32 0] := .of Try.underlying134 inferInstance rfl (fun _ => by kernel_rfl)
instance : FldOff Try.prog 134 0 0 := .of Try.underlying134 (fd := { name := "Size_", type := 12, offset := 0, embedded := false, tag := "", pkgPath := "", byteOffset := 0 }) rfl inferInstance (by decide)
instance : FldOff Try.prog 134 1 1 := .of Try.underlying134 (fd := { name := "PtrBytes", type := 12, offset := 1, embedded := false, tag := "", pkgPath := "", byteOffset := 8 }) rfl inferInstance (by decide)
instance : FldOff Try.prog 134 2 2 := .of Try.underlying134 (fd := { name := "Hash", type := 94, offset := 2, embedded := false, tag := "", pkgPath := "", byteOffset := 16 }) rfl inferInstance (by decide)
instance : FldOff Try.prog 134 3 3 := .of Try.underlying134 (fd := { name := "TFlag", type := 128, offset := 3, embedded := false, tag := "", pkgPath := "", byteOffset := 20 }) rfl inferInstance (by decide)
instance : FldOff Try.prog 134 4 4 := .of Try.underlying134 (fd := { name := "Align_", type := 5, offset := 4, embedded := false, tag := "", pkgPath := "", byteOffset := 21 }) rfl inferInstance (by decide)
instance : FldOff Try.prog 134 5 5 := .of Try.underlying134 (fd := { name := "FieldAlign_", type := 5, offset := 5, embedded := false, tag := "", pkgPath := "", byteOffset := 22 }) rfl inferInstance (by decide)
instance : FldOff Try.prog 134 6 6 := .of Try.underlying134 (fd := { name := "Kind_", type := 129, offset := 6, embedded := false, tag := "", pkgPath := "", byteOffset := 23 }) rfl inferInstance (by decide)
instance : FldOff Try.prog 134 7 7 := .of Try.underlying134 (fd := { name := "Equal", type := 130, offset := 7, embedded := false, tag := "", pkgPath := "", byteOffset := 24 }) rfl inferInstance (by decide)
instance : FldOff Try.prog 134 8 8 := .of Try.underlying134 (fd := { name := "GCData", type := 131, offset := 8, embedded := false, tag := "", pkgPath := "", byteOffset := 32 }) rfl inferInstance (by decide)
instance : FldOff Try.prog 134 9 9 := .of Try.underlying134 (fd := { name := "Str", type := 132, offset := 9, embedded := false, tag := "", pkgPath := "", byteOffset := 40 }) rfl inferInstance (by decide)
instance : FldOff Try.prog 134 10 10 := .of Try.underlying134 (fd := { name := "PtrToThis", type := 133, offset := 10, embedded := false, tag := "", pkgPath := "", byteOffset := 44 }) rfl inferInstance (by decide)
instance : Places Try.prog 135 [(0, 1), (1, 1), (2, 1), (3, 1), (4, 1), (5, 1), (6, 1), (7, 1), (8, 1), (9, 1), (10, 1)] [.int .u64 0, .int .u64 0, .int .u32 0, .int .u8 0, .int .u8 0, .int .u8 0, .int .u8 0, .nilFunc, .pointer none, .int .i32 0, .int .i32 0] := .of Try.underlying135 inferInstance rfl (fun _ => by kernel_rfl)
instance : FldOff Try.prog 135 0 0 := .of Try.underlying135 (fd := { name := "Size_", type := 12, offset := 0, embedded := false, tag := "", pkgPath := "", byteOffset := 0 }) rfl inferInstance (by decide)
instance : FldOff Try.prog 135 1 1 := .of Try.underlying135 (fd := { name := "PtrBytes", type := 12, offset := 1, embedded := false, tag := "", pkgPath := "", byteOffset := 8 }) rfl inferInstance (by decide)
instance : FldOff Try.prog 135 2 2 := .of Try.underlying135 (fd := { name := "Hash", type := 94, offset := 2, embedded := false, tag := "", pkgPath := "", byteOffset := 16 }) rfl inferInstance (by decide)
instance : FldOff Try.prog 135 3 3 := .of Try.underlying135 (fd := { name := "TFlag", type := 128, offset := 3, embedded := false, tag := "", pkgPath := "", byteOffset := 20 }) rfl inferInstance (by decide)
instance : FldOff Try.prog 135 4 4 := .of Try.underlying135 (fd := { name := "Align_", type := 5, offset := 4, embedded := false, tag := "", pkgPath := "", byteOffset := 21 }) rfl inferInstance (by decide)
instance : FldOff Try.prog 135 5 5 := .of Try.underlying135 (fd := { name := "FieldAlign_", type := 5, offset := 5, embedded := false, tag := "", pkgPath := "", byteOffset := 22 }) rfl inferInstance (by decide)
instance : FldOff Try.prog 135 6 6 := .of Try.underlying135 (fd := { name := "Kind_", type := 129, offset := 6, embedded := false, tag := "", pkgPath := "", byteOffset := 23 }) rfl inferInstance (by decide)
instance : FldOff Try.prog 135 7 7 := .of Try.underlying135 (fd := { name := "Equal", type := 130, offset := 7, embedded := false, tag := "", pkgPath := "", byteOffset := 24 }) rfl inferInstance (by decide)
instance : FldOff Try.prog 135 8 8 := .of Try.underlying135 (fd := { name := "GCData", type := 131, offset := 8, embedded := false, tag := "", pkgPath := "", byteOffset := 32 }) rfl inferInstance (by decide)
instance : FldOff Try.prog 135 9 9 := .of Try.underlying135 (fd := { name := "Str", type := 132, offset := 9, embedded := false, tag := "", pkgPath := "", byteOffset := 40 }) rfl inferInstance (by decide)
instance : FldOff Try.prog 135 10 10 := .of Try.underlying135 (fd := { name := "PtrToThis", type := 133, offset := 10, embedded := false, tag := "", pkgPath := "", byteOffset := 44 }) rfl inferInstance (by decide)
instance : HasFn Try.prog 3 := ⟨_, Try.func3, by kernel_rfl, by kernel_rfl⟩
instance : HasFn Try.prog 4 := ⟨_, Try.func4, by kernel_rfl, by kernel_rfl⟩
instance : HasFn Try.prog 5 := ⟨_, Try.func5, by kernel_rfl, by kernel_rfl⟩
instance : HasFn Try.prog 6 := ⟨_, Try.func6, by kernel_rfl, by kernel_rfl⟩
instance : HasFn Try.prog 7 := ⟨_, Try.func7, by kernel_rfl, by kernel_rfl⟩
instance : HasFn Try.prog 8 := ⟨_, Try.func8, by kernel_rfl, by kernel_rfl⟩
instance : HasFn Try.prog 9 := ⟨_, Try.func9, by kernel_rfl, by kernel_rfl⟩
instance : HasFn Try.prog 10 := ⟨_, Try.func10, by kernel_rfl, by kernel_rfl⟩
instance : HasFn Try.prog 11 := ⟨_, Try.func11, by kernel_rfl, by kernel_rfl⟩
instance : HasFn Try.prog 12 := ⟨_, Try.func12, by kernel_rfl, by kernel_rfl⟩
instance : HasFn Try.prog 13 := ⟨_, Try.func13, by kernel_rfl, by kernel_rfl⟩
instance : HasFn Try.prog 14 := ⟨_, Try.func14, by kernel_rfl, by kernel_rfl⟩
instance : HasFn Try.prog 15 := ⟨_, Try.func15, by kernel_rfl, by kernel_rfl⟩
instance : HasFn Try.prog 16 := ⟨_, Try.func16, by kernel_rfl, by kernel_rfl⟩
instance : HasFn Try.prog 17 := ⟨_, Try.func17, by kernel_rfl, by kernel_rfl⟩
instance : HasFn Try.prog 18 := ⟨_, Try.func18, by kernel_rfl, by kernel_rfl⟩
instance : HasFn Try.prog 19 := ⟨_, Try.func19, by kernel_rfl, by kernel_rfl⟩
instance : HasFn Try.prog 20 := ⟨_, Try.func20, by kernel_rfl, by kernel_rfl⟩
instance : HasFn Try.prog 21 := ⟨_, Try.func21, by kernel_rfl, by kernel_rfl⟩
instance : HasFn Try.prog 22 := ⟨_, Try.func22, by kernel_rfl, by kernel_rfl⟩
instance : HasFn Try.prog 23 := ⟨_, Try.func23, by kernel_rfl, by kernel_rfl⟩
instance : HasFn Try.prog 24 := ⟨_, Try.func24, by kernel_rfl, by kernel_rfl⟩
instance : HasFn Try.prog 25 := ⟨_, Try.func25, by kernel_rfl, by kernel_rfl⟩
instance : HasFn Try.prog 26 := ⟨_, Try.func26, by kernel_rfl, by kernel_rfl⟩
instance : HasFn Try.prog 27 := ⟨_, Try.func27, by kernel_rfl, by kernel_rfl⟩
instance : HasFn Try.prog 28 := ⟨_, Try.func28, by kernel_rfl, by kernel_rfl⟩
instance : HasFn Try.prog 29 := ⟨_, Try.func29, by kernel_rfl, by kernel_rfl⟩
instance : HasFn Try.prog 30 := ⟨_, Try.func30, by kernel_rfl, by kernel_rfl⟩
instance : HasFn Try.prog 31 := ⟨_, Try.func31, by kernel_rfl, by kernel_rfl⟩
instance : HasFn Try.prog 32 := ⟨_, Try.func32, by kernel_rfl, by kernel_rfl⟩
instance : HasFn Try.prog 33 := ⟨_, Try.func33, by kernel_rfl, by kernel_rfl⟩
instance : HasFn Try.prog 34 := ⟨_, Try.func34, by kernel_rfl, by kernel_rfl⟩
instance : HasFn Try.prog 35 := ⟨_, Try.func35, by kernel_rfl, by kernel_rfl⟩
instance : HasFn Try.prog 36 := ⟨_, Try.func36, by kernel_rfl, by kernel_rfl⟩
instance : HasFn Try.prog 37 := ⟨_, Try.func37, by kernel_rfl, by kernel_rfl⟩
instance : HasFn Try.prog 38 := ⟨_, Try.func38, by kernel_rfl, by kernel_rfl⟩
instance : HasFn Try.prog 39 := ⟨_, Try.func39, by kernel_rfl, by kernel_rfl⟩
instance : HasFn Try.prog 40 := ⟨_, Try.func40, by kernel_rfl, by kernel_rfl⟩
instance : HasFn Try.prog 41 := ⟨_, Try.func41, by kernel_rfl, by kernel_rfl⟩
instance : HasFn Try.prog 42 := ⟨_, Try.func42, by kernel_rfl, by kernel_rfl⟩
instance : HasFn Try.prog 43 := ⟨_, Try.func43, by kernel_rfl, by kernel_rfl⟩
instance : HasFn Try.prog 44 := ⟨_, Try.func44, by kernel_rfl, by kernel_rfl⟩
instance : HasFn Try.prog 45 := ⟨_, Try.func45, by kernel_rfl, by kernel_rfl⟩
instance : HasFn Try.prog 46 := ⟨_, Try.func46, by kernel_rfl, by kernel_rfl⟩
instance : HasFn Try.prog 47 := ⟨_, Try.func47, by kernel_rfl, by kernel_rfl⟩
instance : HasFn Try.prog 48 := ⟨_, Try.func48, by kernel_rfl, by kernel_rfl⟩
instance : HasFn Try.prog 49 := ⟨_, Try.func49, by kernel_rfl, by kernel_rfl⟩
instance : HasFn Try.prog 50 := ⟨_, Try.func50, by kernel_rfl, by kernel_rfl⟩
instance : HasFn Try.prog 51 := ⟨_, Try.func51, by kernel_rfl, by kernel_rfl⟩
instance : HasFn Try.prog 52 := ⟨_, Try.func52, by kernel_rfl, by kernel_rfl⟩
instance : HasFn Try.prog 53 := ⟨_, Try.func53, by kernel_rfl, by kernel_rfl⟩
instance : HasFn Try.prog 54 := ⟨_, Try.func54, by kernel_rfl, by kernel_rfl⟩
instance : HasFn Try.prog 55 := ⟨_, Try.func55, by kernel_rfl, by kernel_rfl⟩
instance : HasFn Try.prog 56 := ⟨_, Try.func56, by kernel_rfl, by kernel_rfl⟩
instance : HasFn Try.prog 57 := ⟨_, Try.func57, by kernel_rfl, by kernel_rfl⟩
instance : HasFn Try.prog 58 := ⟨_, Try.func58, by kernel_rfl, by kernel_rfl⟩
instance : HasFn Try.prog 59 := ⟨_, Try.func59, by kernel_rfl, by kernel_rfl⟩
instance : HasFn Try.prog 60 := ⟨_, Try.func60, by kernel_rfl, by kernel_rfl⟩
instance : HasFn Try.prog 61 := ⟨_, Try.func61, by kernel_rfl, by kernel_rfl⟩
instance : HasFn Try.prog 62 := ⟨_, Try.func62, by kernel_rfl, by kernel_rfl⟩
instance : HasFn Try.prog 63 := ⟨_, Try.func63, by kernel_rfl, by kernel_rfl⟩
instance : HasFn Try.prog 64 := ⟨_, Try.func64, by kernel_rfl, by kernel_rfl⟩
instance : HasFn Try.prog 65 := ⟨_, Try.func65, by kernel_rfl, by kernel_rfl⟩
instance : HasFn Try.prog 66 := ⟨_, Try.func66, by kernel_rfl, by kernel_rfl⟩
instance : HasFn Try.prog 67 := ⟨_, Try.func67, by kernel_rfl, by kernel_rfl⟩
instance : HasFn Try.prog 68 := ⟨_, Try.func68, by kernel_rfl, by kernel_rfl⟩
instance : HasFn Try.prog 69 := ⟨_, Try.func69, by kernel_rfl, by kernel_rfl⟩
instance : HasFn Try.prog 70 := ⟨_, Try.func70, by kernel_rfl, by kernel_rfl⟩
theorem Try.mixed : Try.prog.follows .mixedOrders = true := by kernel_rfl
end Go.Proofs
