/- Facts on the seat's types and functions, each read off the loaded program. -/
import Derived.KernelRfl
import Derived.Test.YtihlnjafeocbnaaSl8
import Derived.Test.YtihlnjafeocbnaaProg
set_option autoImplicit false
namespace Go.Proofs
open Go.SL
instance : TyU Try.prog 0 ((TypeDesc.tuple #[])) := ⟨Try.underlying0⟩
instance : TyU Try.prog 1 ((TypeDesc.func #[] #[] false)) := ⟨Try.underlying1⟩
instance : TyI Try.prog 1 1 (.nilFunc) 8 := ⟨by kernel_rfl⟩
instance : TyU Try.prog 2 ((TypeDesc.int IntKind.i64)) := ⟨Try.underlying2⟩
instance : TyI Try.prog 2 1 (.int .i64 0) 8 := ⟨by kernel_rfl⟩
instance : TyU Try.prog 3 ((TypeDesc.int IntKind.i64)) := ⟨Try.underlying3⟩
instance : TyI Try.prog 3 1 (.int .i64 0) 8 := ⟨by kernel_rfl⟩
instance : TyU Try.prog 4 (TypeDesc.bool) := ⟨Try.underlying4⟩
instance : TyI Try.prog 4 1 (.bool false) 1 := ⟨by kernel_rfl⟩
instance : TyU Try.prog 5 ((TypeDesc.int IntKind.u8)) := ⟨Try.underlying5⟩
instance : TyI Try.prog 5 1 (.int .u8 0) 1 := ⟨by kernel_rfl⟩
instance : TyU Try.prog 6 ((TypeDesc.int IntKind.u8)) := ⟨Try.underlying6⟩
instance : TyI Try.prog 6 1 (.int .u8 0) 1 := ⟨by kernel_rfl⟩
instance : TyU Try.prog 7 ((TypeDesc.struct #[{ name := "x", type := 2, offset := 0, embedded := false, tag := "", pkgPath := "runtime", byteOffset := 0 }, { name := "y", type := 3, offset := 1, embedded := false, tag := "", pkgPath := "runtime", byteOffset := 8 }, { name := "signed", type := 4, offset := 2, embedded := false, tag := "", pkgPath := "runtime", byteOffset := 16 }, { name := "code", type := 6, offset := 3, embedded := false, tag := "", pkgPath := "runtime", byteOffset := 17 }])) := ⟨Try.underlying7⟩
instance : TyI Try.prog 7 4 (.agg #[.int .i64 0, .int .i64 0, .bool false, .int .u8 0]) 24 := ⟨by kernel_rfl⟩
instance : TyU Try.prog 8 ((TypeDesc.struct #[{ name := "x", type := 2, offset := 0, embedded := false, tag := "", pkgPath := "runtime", byteOffset := 0 }, { name := "y", type := 3, offset := 1, embedded := false, tag := "", pkgPath := "runtime", byteOffset := 8 }, { name := "signed", type := 4, offset := 2, embedded := false, tag := "", pkgPath := "runtime", byteOffset := 16 }, { name := "code", type := 6, offset := 3, embedded := false, tag := "", pkgPath := "runtime", byteOffset := 17 }])) := ⟨Try.underlying8⟩
instance : TyI Try.prog 8 4 (.agg #[.int .i64 0, .int .i64 0, .bool false, .int .u8 0]) 24 := ⟨by kernel_rfl⟩
instance : TyU Try.prog 9 (TypeDesc.string) := ⟨Try.underlying9⟩
instance : TyI Try.prog 9 1 (.string ⟨#[]⟩) 16 := ⟨by kernel_rfl⟩
instance : TyU Try.prog 10 (TypeDesc.string) := ⟨Try.underlying10⟩
instance : TyI Try.prog 10 1 (.string ⟨#[]⟩) 16 := ⟨by kernel_rfl⟩
instance : TyU Try.prog 11 (TypeDesc.string) := ⟨Try.underlying11⟩
instance : TyI Try.prog 11 1 (.string ⟨#[]⟩) 16 := ⟨by kernel_rfl⟩
instance : TyU Try.prog 12 ((TypeDesc.int IntKind.u64)) := ⟨Try.underlying12⟩
instance : TyI Try.prog 12 1 (.int .u64 0) 8 := ⟨by kernel_rfl⟩
instance : TyU Try.prog 13 ((TypeDesc.struct #[{ name := "msg", type := 9, offset := 0, embedded := false, tag := "", pkgPath := "runtime", byteOffset := 0 }, { name := "addr", type := 12, offset := 1, embedded := false, tag := "", pkgPath := "runtime", byteOffset := 16 }])) := ⟨Try.underlying13⟩
instance : TyI Try.prog 13 2 (.agg #[.string ⟨#[]⟩, .int .u64 0]) 24 := ⟨by kernel_rfl⟩
instance : TyU Try.prog 14 ((TypeDesc.struct #[{ name := "msg", type := 9, offset := 0, embedded := false, tag := "", pkgPath := "runtime", byteOffset := 0 }, { name := "addr", type := 12, offset := 1, embedded := false, tag := "", pkgPath := "runtime", byteOffset := 16 }])) := ⟨Try.underlying14⟩
instance : TyI Try.prog 14 2 (.agg #[.string ⟨#[]⟩, .int .u64 0]) 24 := ⟨by kernel_rfl⟩
instance : TyU Try.prog 15 ((TypeDesc.pointer 85)) := ⟨Try.underlying15⟩
instance : TyI Try.prog 15 1 (.pointer none) 8 := ⟨by kernel_rfl⟩
instance : TyU Try.prog 16 ((TypeDesc.pointer 88)) := ⟨Try.underlying16⟩
instance : TyI Try.prog 16 1 (.pointer none) 8 := ⟨by kernel_rfl⟩
instance : TyU Try.prog 17 ((TypeDesc.pointer 97)) := ⟨Try.underlying17⟩
instance : TyI Try.prog 17 1 (.pointer none) 8 := ⟨by kernel_rfl⟩
instance : TyU Try.prog 18 ((TypeDesc.struct #[{ name := "typ", type := 17, offset := 0, embedded := false, tag := "", pkgPath := "internal/runtime/maps", byteOffset := 0 }])) := ⟨Try.underlying18⟩
instance : TyI Try.prog 18 1 (.agg #[.pointer none]) 8 := ⟨by kernel_rfl⟩
instance : TyU Try.prog 19 ((TypeDesc.struct #[{ name := "typ", type := 17, offset := 0, embedded := false, tag := "", pkgPath := "internal/runtime/maps", byteOffset := 0 }])) := ⟨Try.underlying19⟩
instance : TyI Try.prog 19 1 (.agg #[.pointer none]) 8 := ⟨by kernel_rfl⟩
instance : TyU Try.prog 20 ((TypeDesc.interface #[])) := ⟨Try.underlying20⟩
instance : TyI Try.prog 20 1 (.nilIface) 16 := ⟨by kernel_rfl⟩
instance : TyU Try.prog 21 ((TypeDesc.int IntKind.i32)) := ⟨Try.underlying21⟩
instance : TyI Try.prog 21 1 (.int .i32 0) 4 := ⟨by kernel_rfl⟩
instance : TyU Try.prog 22 ((TypeDesc.slice 31)) := ⟨Try.underlying22⟩
instance : TyI Try.prog 22 1 (.slice none 0 0) 24 := ⟨by kernel_rfl⟩
instance : TyU Try.prog 23 ((TypeDesc.func #[22] #[4] false)) := ⟨Try.underlying23⟩
instance : TyI Try.prog 23 1 (.nilFunc) 8 := ⟨by kernel_rfl⟩
instance : TyU Try.prog 24 ((TypeDesc.func #[] #[4] false)) := ⟨Try.underlying24⟩
instance : TyI Try.prog 24 1 (.nilFunc) 8 := ⟨by kernel_rfl⟩
instance : TyU Try.prog 25 ((TypeDesc.pointer 54)) := ⟨Try.underlying25⟩
instance : TyI Try.prog 25 1 (.pointer none) 8 := ⟨by kernel_rfl⟩
instance : TyU Try.prog 26 ((TypeDesc.func #[] #[25] false)) := ⟨Try.underlying26⟩
instance : TyI Try.prog 26 1 (.nilFunc) 8 := ⟨by kernel_rfl⟩
instance : TyU Try.prog 27 ((TypeDesc.slice 48)) := ⟨Try.underlying27⟩
instance : TyI Try.prog 27 1 (.slice none 0 0) 24 := ⟨by kernel_rfl⟩
instance : TyU Try.prog 28 ((TypeDesc.tuple #[27, 4])) := ⟨Try.underlying28⟩
instance : TyU Try.prog 29 ((TypeDesc.func #[25, 27, 31] #[27, 4] false)) := ⟨Try.underlying29⟩
instance : TyI Try.prog 29 1 (.nilFunc) 8 := ⟨by kernel_rfl⟩
instance : TyU Try.prog 30 ((TypeDesc.struct #[{ name := "Gone", type := 4, offset := 0, embedded := false, tag := "", pkgPath := "", byteOffset := 0 }, { name := "Key", type := 9, offset := 1, embedded := false, tag := "", pkgPath := "", byteOffset := 8 }, { name := "Value", type := 9, offset := 2, embedded := false, tag := "", pkgPath := "", byteOffset := 24 }])) := ⟨Try.underlying30⟩
instance : TyI Try.prog 30 3 (.agg #[.bool false, .string ⟨#[]⟩, .string ⟨#[]⟩]) 40 := ⟨by kernel_rfl⟩
instance : TyU Try.prog 31 ((TypeDesc.struct #[{ name := "Gone", type := 4, offset := 0, embedded := false, tag := "", pkgPath := "", byteOffset := 0 }, { name := "Key", type := 9, offset := 1, embedded := false, tag := "", pkgPath := "", byteOffset := 8 }, { name := "Value", type := 9, offset := 2, embedded := false, tag := "", pkgPath := "", byteOffset := 24 }])) := ⟨Try.underlying31⟩
instance : TyI Try.prog 31 3 (.agg #[.bool false, .string ⟨#[]⟩, .string ⟨#[]⟩]) 40 := ⟨by kernel_rfl⟩
instance : TyU Try.prog 32 ((TypeDesc.tuple #[9, 4])) := ⟨Try.underlying32⟩
instance : TyU Try.prog 33 ((TypeDesc.func #[9] #[9, 4] false)) := ⟨Try.underlying33⟩
instance : TyI Try.prog 33 1 (.nilFunc) 8 := ⟨by kernel_rfl⟩
instance : TyU Try.prog 34 ((TypeDesc.func #[27, 9] #[9, 4] false)) := ⟨Try.underlying34⟩
instance : TyI Try.prog 34 1 (.nilFunc) 8 := ⟨by kernel_rfl⟩
instance : TyU Try.prog 35 ((TypeDesc.func #[] #[3] false)) := ⟨Try.underlying35⟩
instance : TyI Try.prog 35 1 (.nilFunc) 8 := ⟨by kernel_rfl⟩
instance : TyU Try.prog 36 ((TypeDesc.func #[27, 27] #[4] false)) := ⟨Try.underlying36⟩
instance : TyI Try.prog 36 1 (.nilFunc) 8 := ⟨by kernel_rfl⟩
instance : TyU Try.prog 37 ((TypeDesc.func #[9, 9, 3] #[27] false)) := ⟨Try.underlying37⟩
instance : TyI Try.prog 37 1 (.nilFunc) 8 := ⟨by kernel_rfl⟩
instance : TyU Try.prog 38 ((TypeDesc.struct #[{ name := "From", type := 9, offset := 0, embedded := false, tag := "", pkgPath := "", byteOffset := 0 }, { name := "To", type := 9, offset := 1, embedded := false, tag := "", pkgPath := "", byteOffset := 16 }, { name := "Most", type := 3, offset := 2, embedded := false, tag := "", pkgPath := "", byteOffset := 32 }])) := ⟨Try.underlying38⟩
instance : TyI Try.prog 38 3 (.agg #[.string ⟨#[]⟩, .string ⟨#[]⟩, .int .i64 0]) 40 := ⟨by kernel_rfl⟩
instance : TyU Try.prog 39 ((TypeDesc.struct #[{ name := "From", type := 9, offset := 0, embedded := false, tag := "", pkgPath := "", byteOffset := 0 }, { name := "To", type := 9, offset := 1, embedded := false, tag := "", pkgPath := "", byteOffset := 16 }, { name := "Most", type := 3, offset := 2, embedded := false, tag := "", pkgPath := "", byteOffset := 32 }])) := ⟨Try.underlying39⟩
instance : TyI Try.prog 39 3 (.agg #[.string ⟨#[]⟩, .string ⟨#[]⟩, .int .i64 0]) 40 := ⟨by kernel_rfl⟩
instance : TyU Try.prog 40 ((TypeDesc.func #[27, 9, 9, 3] #[27] false)) := ⟨Try.underlying40⟩
instance : TyI Try.prog 40 1 (.nilFunc) 8 := ⟨by kernel_rfl⟩
instance : TyU Try.prog 41 ((TypeDesc.func #[22, 39] #[4] false)) := ⟨Try.underlying41⟩
instance : TyI Try.prog 41 1 (.nilFunc) 8 := ⟨by kernel_rfl⟩
instance : TyU Try.prog 42 ((TypeDesc.func #[9] #[4] false)) := ⟨Try.underlying42⟩
instance : TyI Try.prog 42 1 (.nilFunc) 8 := ⟨by kernel_rfl⟩
instance : TyU Try.prog 43 ((TypeDesc.func #[9, 9] #[4] false)) := ⟨Try.underlying43⟩
instance : TyI Try.prog 43 1 (.nilFunc) 8 := ⟨by kernel_rfl⟩
instance : TyU Try.prog 44 ((TypeDesc.func #[22, 22] #[4] false)) := ⟨Try.underlying44⟩
instance : TyI Try.prog 44 1 (.nilFunc) 8 := ⟨by kernel_rfl⟩
instance : TyU Try.prog 45 ((TypeDesc.func #[31] #[4] false)) := ⟨Try.underlying45⟩
instance : TyI Try.prog 45 1 (.nilFunc) 8 := ⟨by kernel_rfl⟩
instance : TyU Try.prog 46 ((TypeDesc.slice 5)) := ⟨Try.underlying46⟩
instance : TyI Try.prog 46 1 (.slice none 0 0) 24 := ⟨by kernel_rfl⟩
instance : TyU Try.prog 47 ((TypeDesc.struct #[{ name := "Key", type := 9, offset := 0, embedded := false, tag := "", pkgPath := "", byteOffset := 0 }, { name := "Value", type := 9, offset := 1, embedded := false, tag := "", pkgPath := "", byteOffset := 16 }])) := ⟨Try.underlying47⟩
instance : TyI Try.prog 47 2 (.agg #[.string ⟨#[]⟩, .string ⟨#[]⟩]) 32 := ⟨by kernel_rfl⟩
instance : TyU Try.prog 48 ((TypeDesc.struct #[{ name := "Key", type := 9, offset := 0, embedded := false, tag := "", pkgPath := "", byteOffset := 0 }, { name := "Value", type := 9, offset := 1, embedded := false, tag := "", pkgPath := "", byteOffset := 16 }])) := ⟨Try.underlying48⟩
instance : TyI Try.prog 48 2 (.agg #[.string ⟨#[]⟩, .string ⟨#[]⟩]) 32 := ⟨by kernel_rfl⟩
instance : TyU Try.prog 49 ((TypeDesc.pointer 52)) := ⟨Try.underlying49⟩
instance : TyI Try.prog 49 1 (.pointer none) 8 := ⟨by kernel_rfl⟩
instance : TyU Try.prog 50 ((TypeDesc.slice 49)) := ⟨Try.underlying50⟩
instance : TyI Try.prog 50 1 (.slice none 0 0) 24 := ⟨by kernel_rfl⟩
instance : TyU Try.prog 51 ((TypeDesc.struct #[{ name := "pairs", type := 27, offset := 0, embedded := false, tag := "", pkgPath := "sandglass/tree", byteOffset := 0 }, { name := "parts", type := 50, offset := 1, embedded := false, tag := "", pkgPath := "sandglass/tree", byteOffset := 24 }])) := ⟨Try.underlying51⟩
instance : TyI Try.prog 51 2 (.agg #[.slice none 0 0, .slice none 0 0]) 48 := ⟨by kernel_rfl⟩
instance : TyU Try.prog 52 ((TypeDesc.struct #[{ name := "pairs", type := 27, offset := 0, embedded := false, tag := "", pkgPath := "sandglass/tree", byteOffset := 0 }, { name := "parts", type := 50, offset := 1, embedded := false, tag := "", pkgPath := "sandglass/tree", byteOffset := 24 }])) := ⟨Try.underlying52⟩
instance : TyI Try.prog 52 2 (.agg #[.slice none 0 0, .slice none 0 0]) 48 := ⟨by kernel_rfl⟩
instance : TyU Try.prog 53 ((TypeDesc.struct #[{ name := "root", type := 49, offset := 0, embedded := false, tag := "", pkgPath := "sandglass/tree", byteOffset := 0 }, { name := "n", type := 3, offset := 1, embedded := false, tag := "", pkgPath := "sandglass/tree", byteOffset := 8 }])) := ⟨Try.underlying53⟩
instance : TyI Try.prog 53 2 (.agg #[.pointer none, .int .i64 0]) 16 := ⟨by kernel_rfl⟩
instance : TyU Try.prog 54 ((TypeDesc.struct #[{ name := "root", type := 49, offset := 0, embedded := false, tag := "", pkgPath := "sandglass/tree", byteOffset := 0 }, { name := "n", type := 3, offset := 1, embedded := false, tag := "", pkgPath := "sandglass/tree", byteOffset := 8 }])) := ⟨Try.underlying54⟩
instance : TyI Try.prog 54 2 (.agg #[.pointer none, .int .i64 0]) 16 := ⟨by kernel_rfl⟩
instance : TyU Try.prog 55 ((TypeDesc.func #[27, 9] #[27, 4] false)) := ⟨Try.underlying55⟩
instance : TyI Try.prog 55 1 (.nilFunc) 8 := ⟨by kernel_rfl⟩
instance : TyU Try.prog 56 ((TypeDesc.func #[27, 9, 9] #[27, 4] false)) := ⟨Try.underlying56⟩
instance : TyI Try.prog 56 1 (.nilFunc) 8 := ⟨by kernel_rfl⟩
instance : TyU Try.prog 57 ((TypeDesc.tuple #[3, 4])) := ⟨Try.underlying57⟩
instance : TyU Try.prog 58 ((TypeDesc.func #[9] #[3, 4] false)) := ⟨Try.underlying58⟩
instance : TyI Try.prog 58 1 (.nilFunc) 8 := ⟨by kernel_rfl⟩
instance : TyU Try.prog 59 ((TypeDesc.func #[27, 9] #[3] false)) := ⟨Try.underlying59⟩
instance : TyI Try.prog 59 1 (.nilFunc) 8 := ⟨by kernel_rfl⟩
instance : TyU Try.prog 60 ((TypeDesc.func #[9, 61] #[4] false)) := ⟨Try.underlying60⟩
instance : TyI Try.prog 60 1 (.nilFunc) 8 := ⟨by kernel_rfl⟩
instance : TyU Try.prog 61 ((TypeDesc.func #[48] #[4] false)) := ⟨Try.underlying61⟩
instance : TyI Try.prog 61 1 (.nilFunc) 8 := ⟨by kernel_rfl⟩
instance : TyU Try.prog 62 ((TypeDesc.func #[9] #[] false)) := ⟨Try.underlying62⟩
instance : TyI Try.prog 62 1 (.nilFunc) 8 := ⟨by kernel_rfl⟩
instance : TyU Try.prog 63 ((TypeDesc.func #[3] #[] false)) := ⟨Try.underlying63⟩
instance : TyI Try.prog 63 1 (.nilFunc) 8 := ⟨by kernel_rfl⟩
instance : TyU Try.prog 64 ((TypeDesc.func #[4, 76, 76] #[3, 4] false)) := ⟨Try.underlying64⟩
instance : TyI Try.prog 64 1 (.nilFunc) 8 := ⟨by kernel_rfl⟩
instance : TyU Try.prog 65 ((TypeDesc.func #[] #[49] false)) := ⟨Try.underlying65⟩
instance : TyI Try.prog 65 1 (.nilFunc) 8 := ⟨by kernel_rfl⟩
instance : TyU Try.prog 66 ((TypeDesc.func #[27, 68] #[3, 4] false)) := ⟨Try.underlying66⟩
instance : TyI Try.prog 66 1 (.nilFunc) 8 := ⟨by kernel_rfl⟩
instance : TyU Try.prog 67 ((TypeDesc.func #[9, 9] #[3] false)) := ⟨Try.underlying67⟩
instance : TyI Try.prog 67 1 (.nilFunc) 8 := ⟨by kernel_rfl⟩
instance : TyU Try.prog 68 ((TypeDesc.func #[48] #[3] false)) := ⟨Try.underlying68⟩
instance : TyI Try.prog 68 1 (.nilFunc) 8 := ⟨by kernel_rfl⟩
instance : TyU Try.prog 69 ((TypeDesc.func #[27, 3, 3] #[27] false)) := ⟨Try.underlying69⟩
instance : TyI Try.prog 69 1 (.nilFunc) 8 := ⟨by kernel_rfl⟩
instance : TyU Try.prog 70 ((TypeDesc.func #[3] #[49] false)) := ⟨Try.underlying70⟩
instance : TyI Try.prog 70 1 (.nilFunc) 8 := ⟨by kernel_rfl⟩
instance : TyU Try.prog 71 ((TypeDesc.func #[4] #[48] false)) := ⟨Try.underlying71⟩
instance : TyI Try.prog 71 1 (.nilFunc) 8 := ⟨by kernel_rfl⟩
instance : TyU Try.prog 72 ((TypeDesc.func #[27] #[27] false)) := ⟨Try.underlying72⟩
instance : TyI Try.prog 72 1 (.nilFunc) 8 := ⟨by kernel_rfl⟩
instance : TyU Try.prog 73 ((TypeDesc.func #[50] #[50] false)) := ⟨Try.underlying73⟩
instance : TyI Try.prog 73 1 (.nilFunc) 8 := ⟨by kernel_rfl⟩
instance : TyU Try.prog 74 ((TypeDesc.func #[27, 3, 27] #[27] true)) := ⟨Try.underlying74⟩
instance : TyI Try.prog 74 1 (.nilFunc) 8 := ⟨by kernel_rfl⟩
instance : TyU Try.prog 75 ((TypeDesc.func #[50, 3, 50] #[50] true)) := ⟨Try.underlying75⟩
instance : TyI Try.prog 75 1 (.nilFunc) 8 := ⟨by kernel_rfl⟩
instance : TyU Try.prog 76 ((TypeDesc.pointer 9)) := ⟨Try.underlying76⟩
instance : TyI Try.prog 76 1 (.pointer none) 8 := ⟨by kernel_rfl⟩
instance : TyU Try.prog 77 ((TypeDesc.func #[50, 3, 3] #[50] false)) := ⟨Try.underlying77⟩
instance : TyI Try.prog 77 1 (.nilFunc) 8 := ⟨by kernel_rfl⟩
instance : TyU Try.prog 78 ((TypeDesc.func #[27, 3] #[] false)) := ⟨Try.underlying78⟩
instance : TyI Try.prog 78 1 (.nilFunc) 8 := ⟨by kernel_rfl⟩
instance : TyU Try.prog 79 ((TypeDesc.func #[50, 50] #[4] false)) := ⟨Try.underlying79⟩
instance : TyI Try.prog 79 1 (.nilFunc) 8 := ⟨by kernel_rfl⟩
instance : TyU Try.prog 80 ((TypeDesc.func #[50, 3] #[] false)) := ⟨Try.underlying80⟩
instance : TyI Try.prog 80 1 (.nilFunc) 8 := ⟨by kernel_rfl⟩
instance : TyU Try.prog 81 ((TypeDesc.func #[27] #[] false)) := ⟨Try.underlying81⟩
instance : TyI Try.prog 81 1 (.nilFunc) 8 := ⟨by kernel_rfl⟩
instance : TyU Try.prog 82 ((TypeDesc.func #[50] #[] false)) := ⟨Try.underlying82⟩
instance : TyI Try.prog 82 1 (.nilFunc) 8 := ⟨by kernel_rfl⟩
instance : TyU Try.prog 83 ((TypeDesc.func #[] #[9] false)) := ⟨Try.underlying83⟩
instance : TyI Try.prog 83 1 (.nilFunc) 8 := ⟨by kernel_rfl⟩
instance : TyU Try.prog 84 ((TypeDesc.struct #[{ name := "_interface", type := 17, offset := 0, embedded := false, tag := "", pkgPath := "runtime", byteOffset := 0 }, { name := "concrete", type := 17, offset := 1, embedded := false, tag := "", pkgPath := "runtime", byteOffset := 8 }, { name := "asserted", type := 17, offset := 2, embedded := false, tag := "", pkgPath := "runtime", byteOffset := 16 }, { name := "missingMethod", type := 9, offset := 3, embedded := false, tag := "", pkgPath := "runtime", byteOffset := 24 }])) := ⟨Try.underlying84⟩
instance : TyI Try.prog 84 4 (.agg #[.pointer none, .pointer none, .pointer none, .string ⟨#[]⟩]) 40 := ⟨by kernel_rfl⟩
instance : TyU Try.prog 85 ((TypeDesc.struct #[{ name := "_interface", type := 17, offset := 0, embedded := false, tag := "", pkgPath := "runtime", byteOffset := 0 }, { name := "concrete", type := 17, offset := 1, embedded := false, tag := "", pkgPath := "runtime", byteOffset := 8 }, { name := "asserted", type := 17, offset := 2, embedded := false, tag := "", pkgPath := "runtime", byteOffset := 16 }, { name := "missingMethod", type := 9, offset := 3, embedded := false, tag := "", pkgPath := "runtime", byteOffset := 24 }])) := ⟨Try.underlying85⟩
instance : TyI Try.prog 85 4 (.agg #[.pointer none, .pointer none, .pointer none, .string ⟨#[]⟩]) 40 := ⟨by kernel_rfl⟩
instance : TyU Try.prog 86 ((TypeDesc.array 0 16)) := ⟨Try.underlying86⟩
instance : TyI Try.prog 86 0 (.agg #[]) 0 := ⟨by kernel_rfl⟩
instance : TyU Try.prog 87 ((TypeDesc.struct #[{ name := "_", type := 86, offset := 0, embedded := false, tag := "", pkgPath := "runtime", byteOffset := 0 }])) := ⟨Try.underlying87⟩
instance : TyI Try.prog 87 0 (.agg #[]) 0 := ⟨by kernel_rfl⟩
instance : TyU Try.prog 88 ((TypeDesc.struct #[{ name := "_", type := 86, offset := 0, embedded := false, tag := "", pkgPath := "runtime", byteOffset := 0 }])) := ⟨Try.underlying88⟩
instance : TyI Try.prog 88 0 (.agg #[]) 0 := ⟨by kernel_rfl⟩
instance : TyU Try.prog 89 ((TypeDesc.int IntKind.u32)) := ⟨Try.underlying89⟩
instance : TyI Try.prog 89 1 (.int .u32 0) 4 := ⟨by kernel_rfl⟩
instance : TyU Try.prog 90 ((TypeDesc.int IntKind.u8)) := ⟨Try.underlying90⟩
instance : TyI Try.prog 90 1 (.int .u8 0) 1 := ⟨by kernel_rfl⟩
instance : TyU Try.prog 91 ((TypeDesc.int IntKind.u8)) := ⟨Try.underlying91⟩
instance : TyI Try.prog 91 1 (.int .u8 0) 1 := ⟨by kernel_rfl⟩
instance : TyU Try.prog 92 ((TypeDesc.func #[98, 98] #[4] false)) := ⟨Try.underlying92⟩
instance : TyI Try.prog 92 1 (.nilFunc) 8 := ⟨by kernel_rfl⟩
instance : TyU Try.prog 93 ((TypeDesc.pointer 5)) := ⟨Try.underlying93⟩
instance : TyI Try.prog 93 1 (.pointer none) 8 := ⟨by kernel_rfl⟩
instance : TyU Try.prog 94 ((TypeDesc.int IntKind.i32)) := ⟨Try.underlying94⟩
instance : TyI Try.prog 94 1 (.int .i32 0) 4 := ⟨by kernel_rfl⟩
instance : TyU Try.prog 95 ((TypeDesc.int IntKind.i32)) := ⟨Try.underlying95⟩
instance : TyI Try.prog 95 1 (.int .i32 0) 4 := ⟨by kernel_rfl⟩
instance : TyU Try.prog 96 ((TypeDesc.struct #[{ name := "Size_", type := 12, offset := 0, embedded := false, tag := "", pkgPath := "", byteOffset := 0 }, { name := "PtrBytes", type := 12, offset := 1, embedded := false, tag := "", pkgPath := "", byteOffset := 8 }, { name := "Hash", type := 89, offset := 2, embedded := false, tag := "", pkgPath := "", byteOffset := 16 }, { name := "TFlag", type := 90, offset := 3, embedded := false, tag := "", pkgPath := "", byteOffset := 20 }, { name := "Align_", type := 5, offset := 4, embedded := false, tag := "", pkgPath := "", byteOffset := 21 }, { name := "FieldAlign_", type := 5, offset := 5, embedded := false, tag := "", pkgPath := "", byteOffset := 22 }, { name := "Kind_", type := 91, offset := 6, embedded := false, tag := "", pkgPath := "", byteOffset := 23 }, { name := "Equal", type := 92, offset := 7, embedded := false, tag := "", pkgPath := "", byteOffset := 24 }, { name := "GCData", type := 93, offset := 8, embedded := false, tag := "", pkgPath := "", byteOffset := 32 }, { name := "Str", type := 94, offset := 9, embedded := false, tag := "", pkgPath := "", byteOffset := 40 }, { name := "PtrToThis", type := 95, offset := 10, embedded := false, tag := "", pkgPath := "", byteOffset := 44 }])) := ⟨Try.underlying96⟩
instance : TyI Try.prog 96 11 (.agg #[.int .u64 0, .int .u64 0, .int .u32 0, .int .u8 0, .int .u8 0, .int .u8 0, .int .u8 0, .nilFunc, .pointer none, .int .i32 0, .int .i32 0]) 48 := ⟨by kernel_rfl⟩
instance : TyU Try.prog 97 ((TypeDesc.struct #[{ name := "Size_", type := 12, offset := 0, embedded := false, tag := "", pkgPath := "", byteOffset := 0 }, { name := "PtrBytes", type := 12, offset := 1, embedded := false, tag := "", pkgPath := "", byteOffset := 8 }, { name := "Hash", type := 89, offset := 2, embedded := false, tag := "", pkgPath := "", byteOffset := 16 }, { name := "TFlag", type := 90, offset := 3, embedded := false, tag := "", pkgPath := "", byteOffset := 20 }, { name := "Align_", type := 5, offset := 4, embedded := false, tag := "", pkgPath := "", byteOffset := 21 }, { name := "FieldAlign_", type := 5, offset := 5, embedded := false, tag := "", pkgPath := "", byteOffset := 22 }, { name := "Kind_", type := 91, offset := 6, embedded := false, tag := "", pkgPath := "", byteOffset := 23 }, { name := "Equal", type := 92, offset := 7, embedded := false, tag := "", pkgPath := "", byteOffset := 24 }, { name := "GCData", type := 93, offset := 8, embedded := false, tag := "", pkgPath := "", byteOffset := 32 }, { name := "Str", type := 94, offset := 9, embedded := false, tag := "", pkgPath := "", byteOffset := 40 }, { name := "PtrToThis", type := 95, offset := 10, embedded := false, tag := "", pkgPath := "", byteOffset := 44 }])) := ⟨Try.underlying97⟩
instance : TyI Try.prog 97 11 (.agg #[.int .u64 0, .int .u64 0, .int .u32 0, .int .u8 0, .int .u8 0, .int .u8 0, .int .u8 0, .nilFunc, .pointer none, .int .i32 0, .int .i32 0]) 48 := ⟨by kernel_rfl⟩
instance : TyU Try.prog 98 (TypeDesc.unsafePointer) := ⟨Try.underlying98⟩
instance : TyI Try.prog 98 1 (.pointer none) 8 := ⟨by kernel_rfl⟩
instance : Places Try.prog 7 [(0, 1), (1, 1), (2, 1), (3, 1)] [.int .i64 0, .int .i64 0, .bool false, .int .u8 0] := .of Try.underlying7 inferInstance rfl (fun _ => by kernel_rfl)
instance : FldOff Try.prog 7 0 0 := .of Try.underlying7 (fd := { name := "x", type := 2, offset := 0, embedded := false, tag := "", pkgPath := "runtime", byteOffset := 0 }) rfl inferInstance (by decide)
instance : FldOff Try.prog 7 1 1 := .of Try.underlying7 (fd := { name := "y", type := 3, offset := 1, embedded := false, tag := "", pkgPath := "runtime", byteOffset := 8 }) rfl inferInstance (by decide)
instance : FldOff Try.prog 7 2 2 := .of Try.underlying7 (fd := { name := "signed", type := 4, offset := 2, embedded := false, tag := "", pkgPath := "runtime", byteOffset := 16 }) rfl inferInstance (by decide)
instance : FldOff Try.prog 7 3 3 := .of Try.underlying7 (fd := { name := "code", type := 6, offset := 3, embedded := false, tag := "", pkgPath := "runtime", byteOffset := 17 }) rfl inferInstance (by decide)
instance : Places Try.prog 8 [(0, 1), (1, 1), (2, 1), (3, 1)] [.int .i64 0, .int .i64 0, .bool false, .int .u8 0] := .of Try.underlying8 inferInstance rfl (fun _ => by kernel_rfl)
instance : FldOff Try.prog 8 0 0 := .of Try.underlying8 (fd := { name := "x", type := 2, offset := 0, embedded := false, tag := "", pkgPath := "runtime", byteOffset := 0 }) rfl inferInstance (by decide)
instance : FldOff Try.prog 8 1 1 := .of Try.underlying8 (fd := { name := "y", type := 3, offset := 1, embedded := false, tag := "", pkgPath := "runtime", byteOffset := 8 }) rfl inferInstance (by decide)
instance : FldOff Try.prog 8 2 2 := .of Try.underlying8 (fd := { name := "signed", type := 4, offset := 2, embedded := false, tag := "", pkgPath := "runtime", byteOffset := 16 }) rfl inferInstance (by decide)
instance : FldOff Try.prog 8 3 3 := .of Try.underlying8 (fd := { name := "code", type := 6, offset := 3, embedded := false, tag := "", pkgPath := "runtime", byteOffset := 17 }) rfl inferInstance (by decide)
instance : Places Try.prog 13 [(0, 1), (1, 1)] [.string ⟨#[]⟩, .int .u64 0] := .of Try.underlying13 inferInstance rfl (fun _ => by kernel_rfl)
instance : FldOff Try.prog 13 0 0 := .of Try.underlying13 (fd := { name := "msg", type := 9, offset := 0, embedded := false, tag := "", pkgPath := "runtime", byteOffset := 0 }) rfl inferInstance (by decide)
instance : FldOff Try.prog 13 1 1 := .of Try.underlying13 (fd := { name := "addr", type := 12, offset := 1, embedded := false, tag := "", pkgPath := "runtime", byteOffset := 16 }) rfl inferInstance (by decide)
instance : Places Try.prog 14 [(0, 1), (1, 1)] [.string ⟨#[]⟩, .int .u64 0] := .of Try.underlying14 inferInstance rfl (fun _ => by kernel_rfl)
instance : FldOff Try.prog 14 0 0 := .of Try.underlying14 (fd := { name := "msg", type := 9, offset := 0, embedded := false, tag := "", pkgPath := "runtime", byteOffset := 0 }) rfl inferInstance (by decide)
instance : FldOff Try.prog 14 1 1 := .of Try.underlying14 (fd := { name := "addr", type := 12, offset := 1, embedded := false, tag := "", pkgPath := "runtime", byteOffset := 16 }) rfl inferInstance (by decide)
instance : Places Try.prog 18 [(0, 1)] [.pointer none] := .of Try.underlying18 inferInstance rfl (fun _ => by kernel_rfl)
instance : FldOff Try.prog 18 0 0 := .of Try.underlying18 (fd := { name := "typ", type := 17, offset := 0, embedded := false, tag := "", pkgPath := "internal/runtime/maps", byteOffset := 0 }) rfl inferInstance (by decide)
instance : Places Try.prog 19 [(0, 1)] [.pointer none] := .of Try.underlying19 inferInstance rfl (fun _ => by kernel_rfl)
instance : FldOff Try.prog 19 0 0 := .of Try.underlying19 (fd := { name := "typ", type := 17, offset := 0, embedded := false, tag := "", pkgPath := "internal/runtime/maps", byteOffset := 0 }) rfl inferInstance (by decide)
instance : Places Try.prog 30 [(0, 1), (1, 1), (2, 1)] [.bool false, .string ⟨#[]⟩, .string ⟨#[]⟩] := .of Try.underlying30 inferInstance rfl (fun _ => by kernel_rfl)
instance : FldOff Try.prog 30 0 0 := .of Try.underlying30 (fd := { name := "Gone", type := 4, offset := 0, embedded := false, tag := "", pkgPath := "", byteOffset := 0 }) rfl inferInstance (by decide)
instance : FldOff Try.prog 30 1 1 := .of Try.underlying30 (fd := { name := "Key", type := 9, offset := 1, embedded := false, tag := "", pkgPath := "", byteOffset := 8 }) rfl inferInstance (by decide)
instance : FldOff Try.prog 30 2 2 := .of Try.underlying30 (fd := { name := "Value", type := 9, offset := 2, embedded := false, tag := "", pkgPath := "", byteOffset := 24 }) rfl inferInstance (by decide)
instance : Places Try.prog 31 [(0, 1), (1, 1), (2, 1)] [.bool false, .string ⟨#[]⟩, .string ⟨#[]⟩] := .of Try.underlying31 inferInstance rfl (fun _ => by kernel_rfl)
instance : FldOff Try.prog 31 0 0 := .of Try.underlying31 (fd := { name := "Gone", type := 4, offset := 0, embedded := false, tag := "", pkgPath := "", byteOffset := 0 }) rfl inferInstance (by decide)
instance : FldOff Try.prog 31 1 1 := .of Try.underlying31 (fd := { name := "Key", type := 9, offset := 1, embedded := false, tag := "", pkgPath := "", byteOffset := 8 }) rfl inferInstance (by decide)
instance : FldOff Try.prog 31 2 2 := .of Try.underlying31 (fd := { name := "Value", type := 9, offset := 2, embedded := false, tag := "", pkgPath := "", byteOffset := 24 }) rfl inferInstance (by decide)
instance : Places Try.prog 38 [(0, 1), (1, 1), (2, 1)] [.string ⟨#[]⟩, .string ⟨#[]⟩, .int .i64 0] := .of Try.underlying38 inferInstance rfl (fun _ => by kernel_rfl)
instance : FldOff Try.prog 38 0 0 := .of Try.underlying38 (fd := { name := "From", type := 9, offset := 0, embedded := false, tag := "", pkgPath := "", byteOffset := 0 }) rfl inferInstance (by decide)
instance : FldOff Try.prog 38 1 1 := .of Try.underlying38 (fd := { name := "To", type := 9, offset := 1, embedded := false, tag := "", pkgPath := "", byteOffset := 16 }) rfl inferInstance (by decide)
instance : FldOff Try.prog 38 2 2 := .of Try.underlying38 (fd := { name := "Most", type := 3, offset := 2, embedded := false, tag := "", pkgPath := "", byteOffset := 32 }) rfl inferInstance (by decide)
instance : Places Try.prog 39 [(0, 1), (1, 1), (2, 1)] [.string ⟨#[]⟩, .string ⟨#[]⟩, .int .i64 0] := .of Try.underlying39 inferInstance rfl (fun _ => by kernel_rfl)
instance : FldOff Try.prog 39 0 0 := .of Try.underlying39 (fd := { name := "From", type := 9, offset := 0, embedded := false, tag := "", pkgPath := "", byteOffset := 0 }) rfl inferInstance (by decide)
instance : FldOff Try.prog 39 1 1 := .of Try.underlying39 (fd := { name := "To", type := 9, offset := 1, embedded := false, tag := "", pkgPath := "", byteOffset := 16 }) rfl inferInstance (by decide)
instance : FldOff Try.prog 39 2 2 := .of Try.underlying39 (fd := { name := "Most", type := 3, offset := 2, embedded := false, tag := "", pkgPath := "", byteOffset := 32 }) rfl inferInstance (by decide)
instance : Places Try.prog 47 [(0, 1), (1, 1)] [.string ⟨#[]⟩, .string ⟨#[]⟩] := .of Try.underlying47 inferInstance rfl (fun _ => by kernel_rfl)
instance : FldOff Try.prog 47 0 0 := .of Try.underlying47 (fd := { name := "Key", type := 9, offset := 0, embedded := false, tag := "", pkgPath := "", byteOffset := 0 }) rfl inferInstance (by decide)
instance : FldOff Try.prog 47 1 1 := .of Try.underlying47 (fd := { name := "Value", type := 9, offset := 1, embedded := false, tag := "", pkgPath := "", byteOffset := 16 }) rfl inferInstance (by decide)
instance : Places Try.prog 48 [(0, 1), (1, 1)] [.string ⟨#[]⟩, .string ⟨#[]⟩] := .of Try.underlying48 inferInstance rfl (fun _ => by kernel_rfl)
instance : FldOff Try.prog 48 0 0 := .of Try.underlying48 (fd := { name := "Key", type := 9, offset := 0, embedded := false, tag := "", pkgPath := "", byteOffset := 0 }) rfl inferInstance (by decide)
instance : FldOff Try.prog 48 1 1 := .of Try.underlying48 (fd := { name := "Value", type := 9, offset := 1, embedded := false, tag := "", pkgPath := "", byteOffset := 16 }) rfl inferInstance (by decide)
instance : Places Try.prog 51 [(0, 1), (1, 1)] [.slice none 0 0, .slice none 0 0] := .of Try.underlying51 inferInstance rfl (fun _ => by kernel_rfl)
instance : FldOff Try.prog 51 0 0 := .of Try.underlying51 (fd := { name := "pairs", type := 27, offset := 0, embedded := false, tag := "", pkgPath := "sandglass/tree", byteOffset := 0 }) rfl inferInstance (by decide)
instance : FldOff Try.prog 51 1 1 := .of Try.underlying51 (fd := { name := "parts", type := 50, offset := 1, embedded := false, tag := "", pkgPath := "sandglass/tree", byteOffset := 24 }) rfl inferInstance (by decide)
instance : Places Try.prog 52 [(0, 1), (1, 1)] [.slice none 0 0, .slice none 0 0] := .of Try.underlying52 inferInstance rfl (fun _ => by kernel_rfl)
instance : FldOff Try.prog 52 0 0 := .of Try.underlying52 (fd := { name := "pairs", type := 27, offset := 0, embedded := false, tag := "", pkgPath := "sandglass/tree", byteOffset := 0 }) rfl inferInstance (by decide)
instance : FldOff Try.prog 52 1 1 := .of Try.underlying52 (fd := { name := "parts", type := 50, offset := 1, embedded := false, tag := "", pkgPath := "sandglass/tree", byteOffset := 24 }) rfl inferInstance (by decide)
instance : Places Try.prog 53 [(0, 1), (1, 1)] [.pointer none, .int .i64 0] := .of Try.underlying53 inferInstance rfl (fun _ => by kernel_rfl)
instance : FldOff Try.prog 53 0 0 := .of Try.underlying53 (fd := { name := "root", type := 49, offset := 0, embedded := false, tag := "", pkgPath := "sandglass/tree", byteOffset := 0 }) rfl inferInstance (by decide)
instance : FldOff Try.prog 53 1 1 := .of Try.underlying53 (fd := { name := "n", type := 3, offset := 1, embedded := false, tag := "", pkgPath := "sandglass/tree", byteOffset := 8 }) rfl inferInstance (by decide)
instance : Places Try.prog 54 [(0, 1), (1, 1)] [.pointer none, .int .i64 0] := .of Try.underlying54 inferInstance rfl (fun _ => by kernel_rfl)
instance : FldOff Try.prog 54 0 0 := .of Try.underlying54 (fd := { name := "root", type := 49, offset := 0, embedded := false, tag := "", pkgPath := "sandglass/tree", byteOffset := 0 }) rfl inferInstance (by decide)
instance : FldOff Try.prog 54 1 1 := .of Try.underlying54 (fd := { name := "n", type := 3, offset := 1, embedded := false, tag := "", pkgPath := "sandglass/tree", byteOffset := 8 }) rfl inferInstance (by decide)
instance : Places Try.prog 84 [(0, 1), (1, 1), (2, 1), (3, 1)] [.pointer none, .pointer none, .pointer none, .string ⟨#[]⟩] := .of Try.underlying84 inferInstance rfl (fun _ => by kernel_rfl)
instance : FldOff Try.prog 84 0 0 := .of Try.underlying84 (fd := { name := "_interface", type := 17, offset := 0, embedded := false, tag := "", pkgPath := "runtime", byteOffset := 0 }) rfl inferInstance (by decide)
instance : FldOff Try.prog 84 1 1 := .of Try.underlying84 (fd := { name := "concrete", type := 17, offset := 1, embedded := false, tag := "", pkgPath := "runtime", byteOffset := 8 }) rfl inferInstance (by decide)
instance : FldOff Try.prog 84 2 2 := .of Try.underlying84 (fd := { name := "asserted", type := 17, offset := 2, embedded := false, tag := "", pkgPath := "runtime", byteOffset := 16 }) rfl inferInstance (by decide)
instance : FldOff Try.prog 84 3 3 := .of Try.underlying84 (fd := { name := "missingMethod", type := 9, offset := 3, embedded := false, tag := "", pkgPath := "runtime", byteOffset := 24 }) rfl inferInstance (by decide)
instance : Places Try.prog 85 [(0, 1), (1, 1), (2, 1), (3, 1)] [.pointer none, .pointer none, .pointer none, .string ⟨#[]⟩] := .of Try.underlying85 inferInstance rfl (fun _ => by kernel_rfl)
instance : FldOff Try.prog 85 0 0 := .of Try.underlying85 (fd := { name := "_interface", type := 17, offset := 0, embedded := false, tag := "", pkgPath := "runtime", byteOffset := 0 }) rfl inferInstance (by decide)
instance : FldOff Try.prog 85 1 1 := .of Try.underlying85 (fd := { name := "concrete", type := 17, offset := 1, embedded := false, tag := "", pkgPath := "runtime", byteOffset := 8 }) rfl inferInstance (by decide)
instance : FldOff Try.prog 85 2 2 := .of Try.underlying85 (fd := { name := "asserted", type := 17, offset := 2, embedded := false, tag := "", pkgPath := "runtime", byteOffset := 16 }) rfl inferInstance (by decide)
instance : FldOff Try.prog 85 3 3 := .of Try.underlying85 (fd := { name := "missingMethod", type := 9, offset := 3, embedded := false, tag := "", pkgPath := "runtime", byteOffset := 24 }) rfl inferInstance (by decide)
instance : Places Try.prog 87 [(0, 0)] [] := .of Try.underlying87 inferInstance rfl (fun _ => by kernel_rfl)
instance : Places Try.prog 88 [(0, 0)] [] := .of Try.underlying88 inferInstance rfl (fun _ => by kernel_rfl)
instance : Places Try.prog 96 [(0, 1), (1, 1), (2, 1), (3, 1), (4, 1), (5, 1), (6, 1), (7, 1), (8, 1), (9, 1), (10, 1)] [.int .u64 0, .int .u64 0, .int .u32 0, .int .u8 0, .int .u8 0, .int .u8 0, .int .u8 0, .nilFunc, .pointer none, .int .i32 0, .int .i32 0] := .of Try.underlying96 inferInstance rfl (fun _ => by kernel_rfl)
instance : FldOff Try.prog 96 0 0 := .of Try.underlying96 (fd := { name := "Size_", type := 12, offset := 0, embedded := false, tag := "", pkgPath := "", byteOffset := 0 }) rfl inferInstance (by decide)
instance : FldOff Try.prog 96 1 1 := .of Try.underlying96 (fd := { name := "PtrBytes", type := 12, offset := 1, embedded := false, tag := "", pkgPath := "", byteOffset := 8 }) rfl inferInstance (by decide)
instance : FldOff Try.prog 96 2 2 := .of Try.underlying96 (fd := { name := "Hash", type := 89, offset := 2, embedded := false, tag := "", pkgPath := "", byteOffset := 16 }) rfl inferInstance (by decide)
instance : FldOff Try.prog 96 3 3 := .of Try.underlying96 (fd := { name := "TFlag", type := 90, offset := 3, embedded := false, tag := "", pkgPath := "", byteOffset := 20 }) rfl inferInstance (by decide)
instance : FldOff Try.prog 96 4 4 := .of Try.underlying96 (fd := { name := "Align_", type := 5, offset := 4, embedded := false, tag := "", pkgPath := "", byteOffset := 21 }) rfl inferInstance (by decide)
instance : FldOff Try.prog 96 5 5 := .of Try.underlying96 (fd := { name := "FieldAlign_", type := 5, offset := 5, embedded := false, tag := "", pkgPath := "", byteOffset := 22 }) rfl inferInstance (by decide)
instance : FldOff Try.prog 96 6 6 := .of Try.underlying96 (fd := { name := "Kind_", type := 91, offset := 6, embedded := false, tag := "", pkgPath := "", byteOffset := 23 }) rfl inferInstance (by decide)
instance : FldOff Try.prog 96 7 7 := .of Try.underlying96 (fd := { name := "Equal", type := 92, offset := 7, embedded := false, tag := "", pkgPath := "", byteOffset := 24 }) rfl inferInstance (by decide)
instance : FldOff Try.prog 96 8 8 := .of Try.underlying96 (fd := { name := "GCData", type := 93, offset := 8, embedded := false, tag := "", pkgPath := "", byteOffset := 32 }) rfl inferInstance (by decide)
instance : FldOff Try.prog 96 9 9 := .of Try.underlying96 (fd := { name := "Str", type := 94, offset := 9, embedded := false, tag := "", pkgPath := "", byteOffset := 40 }) rfl inferInstance (by decide)
instance : FldOff Try.prog 96 10 10 := .of Try.underlying96 (fd := { name := "PtrToThis", type := 95, offset := 10, embedded := false, tag := "", pkgPath := "", byteOffset := 44 }) rfl inferInstance (by decide)
instance : Places Try.prog 97 [(0, 1), (1, 1), (2, 1), (3, 1), (4, 1), (5, 1), (6, 1), (7, 1), (8, 1), (9, 1), (10, 1)] [.int .u64 0, .int .u64 0, .int .u32 0, .int .u8 0, .int .u8 0, .int .u8 0, .int .u8 0, .nilFunc, .pointer none, .int .i32 0, .int .i32 0] := .of Try.underlying97 inferInstance rfl (fun _ => by kernel_rfl)
instance : FldOff Try.prog 97 0 0 := .of Try.underlying97 (fd := { name := "Size_", type := 12, offset := 0, embedded := false, tag := "", pkgPath := "", byteOffset := 0 }) rfl inferInstance (by decide)
instance : FldOff Try.prog 97 1 1 := .of Try.underlying97 (fd := { name := "PtrBytes", type := 12, offset := 1, embedded := false, tag := "", pkgPath := "", byteOffset := 8 }) rfl inferInstance (by decide)
instance : FldOff Try.prog 97 2 2 := .of Try.underlying97 (fd := { name := "Hash", type := 89, offset := 2, embedded := false, tag := "", pkgPath := "", byteOffset := 16 }) rfl inferInstance (by decide)
instance : FldOff Try.prog 97 3 3 := .of Try.underlying97 (fd := { name := "TFlag", type := 90, offset := 3, embedded := false, tag := "", pkgPath := "", byteOffset := 20 }) rfl inferInstance (by decide)
instance : FldOff Try.prog 97 4 4 := .of Try.underlying97 (fd := { name := "Align_", type := 5, offset := 4, embedded := false, tag := "", pkgPath := "", byteOffset := 21 }) rfl inferInstance (by decide)
instance : FldOff Try.prog 97 5 5 := .of Try.underlying97 (fd := { name := "FieldAlign_", type := 5, offset := 5, embedded := false, tag := "", pkgPath := "", byteOffset := 22 }) rfl inferInstance (by decide)
instance : FldOff Try.prog 97 6 6 := .of Try.underlying97 (fd := { name := "Kind_", type := 91, offset := 6, embedded := false, tag := "", pkgPath := "", byteOffset := 23 }) rfl inferInstance (by decide)
instance : FldOff Try.prog 97 7 7 := .of Try.underlying97 (fd := { name := "Equal", type := 92, offset := 7, embedded := false, tag := "", pkgPath := "", byteOffset := 24 }) rfl inferInstance (by decide)
instance : FldOff Try.prog 97 8 8 := .of Try.underlying97 (fd := { name := "GCData", type := 93, offset := 8, embedded := false, tag := "", pkgPath := "", byteOffset := 32 }) rfl inferInstance (by decide)
instance : FldOff Try.prog 97 9 9 := .of Try.underlying97 (fd := { name := "Str", type := 94, offset := 9, embedded := false, tag := "", pkgPath := "", byteOffset := 40 }) rfl inferInstance (by decide)
instance : FldOff Try.prog 97 10 10 := .of Try.underlying97 (fd := { name := "PtrToThis", type := 95, offset := 10, embedded := false, tag := "", pkgPath := "", byteOffset := 44 }) rfl inferInstance (by decide)
instance : HasFn Try.prog 3 := ⟨_, Try.func3, by kernel_rfl, by kernel_rfl⟩
instance : HasFn Try.prog 4 := ⟨_, Try.func4, by kernel_rfl, by kernel_rfl⟩
instance : HasFn Try.prog 5 := ⟨_, Try.func5, by kernel_rfl, by kernel_rfl⟩
instance : HasFn Try.prog 6 := ⟨_, Try.func6, by kernel_rfl, by kernel_rfl⟩
instance : HasFn Try.prog 7 := ⟨_, Try.func7, by kernel_rfl, by kernel_rfl⟩
instance : HasFn Try.prog 8 := ⟨_, Try.func8, by kernel_rfl, by kernel_rfl⟩
instance : HasFn Try.prog 9 := ⟨_, Try.func9, by kernel_rfl, by kernel_rfl⟩
instance : HasFn Try.prog 10 := ⟨_, Try.func10, by kernel_rfl, by kernel_rfl⟩
instance : HasFn Try.prog 11 := ⟨_, Try.func11, by kernel_rfl, by kernel_rfl⟩
instance : HasFn Try.prog 12 := ⟨_, Try.func12, by kernel_rfl, by kernel_rfl⟩
instance : HasFn Try.prog 13 := ⟨_, Try.func13, by kernel_rfl, by kernel_rfl⟩
instance : HasFn Try.prog 14 := ⟨_, Try.func14, by kernel_rfl, by kernel_rfl⟩
instance : HasFn Try.prog 15 := ⟨_, Try.func15, by kernel_rfl, by kernel_rfl⟩
instance : HasFn Try.prog 16 := ⟨_, Try.func16, by kernel_rfl, by kernel_rfl⟩
instance : HasFn Try.prog 17 := ⟨_, Try.func17, by kernel_rfl, by kernel_rfl⟩
instance : HasFn Try.prog 18 := ⟨_, Try.func18, by kernel_rfl, by kernel_rfl⟩
instance : HasFn Try.prog 19 := ⟨_, Try.func19, by kernel_rfl, by kernel_rfl⟩
instance : HasFn Try.prog 20 := ⟨_, Try.func20, by kernel_rfl, by kernel_rfl⟩
instance : HasFn Try.prog 21 := ⟨_, Try.func21, by kernel_rfl, by kernel_rfl⟩
instance : HasFn Try.prog 22 := ⟨_, Try.func22, by kernel_rfl, by kernel_rfl⟩
instance : HasFn Try.prog 23 := ⟨_, Try.func23, by kernel_rfl, by kernel_rfl⟩
instance : HasFn Try.prog 24 := ⟨_, Try.func24, by kernel_rfl, by kernel_rfl⟩
instance : HasFn Try.prog 25 := ⟨_, Try.func25, by kernel_rfl, by kernel_rfl⟩
instance : HasFn Try.prog 26 := ⟨_, Try.func26, by kernel_rfl, by kernel_rfl⟩
instance : HasFn Try.prog 27 := ⟨_, Try.func27, by kernel_rfl, by kernel_rfl⟩
instance : HasFn Try.prog 28 := ⟨_, Try.func28, by kernel_rfl, by kernel_rfl⟩
instance : HasFn Try.prog 29 := ⟨_, Try.func29, by kernel_rfl, by kernel_rfl⟩
instance : HasFn Try.prog 30 := ⟨_, Try.func30, by kernel_rfl, by kernel_rfl⟩
instance : HasFn Try.prog 31 := ⟨_, Try.func31, by kernel_rfl, by kernel_rfl⟩
instance : HasFn Try.prog 32 := ⟨_, Try.func32, by kernel_rfl, by kernel_rfl⟩
instance : HasFn Try.prog 33 := ⟨_, Try.func33, by kernel_rfl, by kernel_rfl⟩
instance : HasFn Try.prog 34 := ⟨_, Try.func34, by kernel_rfl, by kernel_rfl⟩
instance : HasFn Try.prog 35 := ⟨_, Try.func35, by kernel_rfl, by kernel_rfl⟩
instance : HasFn Try.prog 36 := ⟨_, Try.func36, by kernel_rfl, by kernel_rfl⟩
instance : HasFn Try.prog 37 := ⟨_, Try.func37, by kernel_rfl, by kernel_rfl⟩
instance : HasFn Try.prog 38 := ⟨_, Try.func38, by kernel_rfl, by kernel_rfl⟩
instance : HasFn Try.prog 39 := ⟨_, Try.func39, by kernel_rfl, by kernel_rfl⟩
instance : HasFn Try.prog 40 := ⟨_, Try.func40, by kernel_rfl, by kernel_rfl⟩
instance : HasFn Try.prog 41 := ⟨_, Try.func41, by kernel_rfl, by kernel_rfl⟩
instance : HasFn Try.prog 42 := ⟨_, Try.func42, by kernel_rfl, by kernel_rfl⟩
instance : HasFn Try.prog 43 := ⟨_, Try.func43, by kernel_rfl, by kernel_rfl⟩
instance : HasFn Try.prog 44 := ⟨_, Try.func44, by kernel_rfl, by kernel_rfl⟩
instance : HasFn Try.prog 45 := ⟨_, Try.func45, by kernel_rfl, by kernel_rfl⟩
instance : HasFn Try.prog 46 := ⟨_, Try.func46, by kernel_rfl, by kernel_rfl⟩
instance : HasFn Try.prog 47 := ⟨_, Try.func47, by kernel_rfl, by kernel_rfl⟩
instance : HasFn Try.prog 48 := ⟨_, Try.func48, by kernel_rfl, by kernel_rfl⟩
instance : HasFn Try.prog 49 := ⟨_, Try.func49, by kernel_rfl, by kernel_rfl⟩
instance : HasFn Try.prog 51 := ⟨_, Try.func51, by kernel_rfl, by kernel_rfl⟩
instance : HasFn Try.prog 53 := ⟨_, Try.func53, by kernel_rfl, by kernel_rfl⟩
instance : HasFn Try.prog 55 := ⟨_, Try.func55, by kernel_rfl, by kernel_rfl⟩
instance : HasFn Try.prog 56 := ⟨_, Try.func56, by kernel_rfl, by kernel_rfl⟩
instance : HasFn Try.prog 57 := ⟨_, Try.func57, by kernel_rfl, by kernel_rfl⟩
instance : HasFn Try.prog 58 := ⟨_, Try.func58, by kernel_rfl, by kernel_rfl⟩
theorem Try.mixed : Try.prog.follows .mixedOrders = true := by kernel_rfl
end Go.Proofs
