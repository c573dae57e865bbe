/- Facts on the seat's types and functions, each read off the loaded program. -/
import Derived.KernelRfl
import Derived.Test.YtbpohfojedpneaaSl8
import Derived.Test.YtbpohfojedpneaaProg
set_option autoImplicit false
namespace Go.Proofs
open Go.SL
instance : TyU Try.prog 0 ((TypeDesc.tuple #[])) := ⟨Try.underlying0⟩
instance : TyU Try.prog 1 ((TypeDesc.func #[] #[] false)) := ⟨Try.underlying1⟩
instance : TyI Try.prog 1 1 (.nilFunc) 8 := ⟨by kernel_rfl⟩
instance : TyU Try.prog 2 ((TypeDesc.int IntKind.i64)) := ⟨Try.underlying2⟩
instance : TyI Try.prog 2 1 (.int .i64 0) 8 := ⟨by kernel_rfl⟩
instance : TyU Try.prog 3 ((TypeDesc.int IntKind.i64)) := ⟨Try.underlying3⟩
instance : TyI Try.prog 3 1 (.int .i64 0) 8 := ⟨by kernel_rfl⟩
instance : TyU Try.prog 4 (TypeDesc.bool) := ⟨Try.underlying4⟩
instance : TyI Try.prog 4 1 (.bool false) 1 := ⟨by kernel_rfl⟩
instance : TyU Try.prog 5 ((TypeDesc.int IntKind.u8)) := ⟨Try.underlying5⟩
instance : TyI Try.prog 5 1 (.int .u8 0) 1 := ⟨by kernel_rfl⟩
instance : TyU Try.prog 6 ((TypeDesc.int IntKind.u8)) := ⟨Try.underlying6⟩
instance : TyI Try.prog 6 1 (.int .u8 0) 1 := ⟨by kernel_rfl⟩
instance : TyU Try.prog 7 ((TypeDesc.struct #[{ name := "x", type := 2, offset := 0, embedded := false, tag := "", pkgPath := "runtime", byteOffset := 0 }, { name := "y", type := 3, offset := 1, embedded := false, tag := "", pkgPath := "runtime", byteOffset := 8 }, { name := "signed", type := 4, offset := 2, embedded := false, tag := "", pkgPath := "runtime", byteOffset := 16 }, { name := "code", type := 6, offset := 3, embedded := false, tag := "", pkgPath := "runtime", byteOffset := 17 }])) := ⟨Try.underlying7⟩
instance : TyI Try.prog 7 4 (.agg #[.int .i64 0, .int .i64 0, .bool false, .int .u8 0]) 24 := ⟨by kernel_rfl⟩
instance : TyU Try.prog 8 ((TypeDesc.struct #[{ name := "x", type := 2, offset := 0, embedded := false, tag := "", pkgPath := "runtime", byteOffset := 0 }, { name := "y", type := 3, offset := 1, embedded := false, tag := "", pkgPath := "runtime", byteOffset := 8 }, { name := "signed", type := 4, offset := 2, embedded := false, tag := "", pkgPath := "runtime", byteOffset := 16 }, { name := "code", type := 6, offset := 3, embedded := false, tag := "", pkgPath := "runtime", byteOffset := 17 }])) := ⟨Try.underlying8⟩
instance : TyI Try.prog 8 4 (.agg #[.int .i64 0, .int .i64 0, .bool false, .int .u8 0]) 24 := ⟨by kernel_rfl⟩
instance : TyU Try.prog 9 (TypeDesc.string) := ⟨Try.underlying9⟩
instance : TyI Try.prog 9 1 (.string ⟨#[]⟩) 16 := ⟨by kernel_rfl⟩
instance : TyU Try.prog 10 (TypeDesc.string) := ⟨Try.underlying10⟩
instance : TyI Try.prog 10 1 (.string ⟨#[]⟩) 16 := ⟨by kernel_rfl⟩
instance : TyU Try.prog 11 (TypeDesc.string) := ⟨Try.underlying11⟩
instance : TyI Try.prog 11 1 (.string ⟨#[]⟩) 16 := ⟨by kernel_rfl⟩
instance : TyU Try.prog 12 ((TypeDesc.int IntKind.u64)) := ⟨Try.underlying12⟩
instance : TyI Try.prog 12 1 (.int .u64 0) 8 := ⟨by kernel_rfl⟩
instance : TyU Try.prog 13 ((TypeDesc.struct #[{ name := "msg", type := 9, offset := 0, embedded := false, tag := "", pkgPath := "runtime", byteOffset := 0 }, { name := "addr", type := 12, offset := 1, embedded := false, tag := "", pkgPath := "runtime", byteOffset := 16 }])) := ⟨Try.underlying13⟩
instance : TyI Try.prog 13 2 (.agg #[.string ⟨#[]⟩, .int .u64 0]) 24 := ⟨by kernel_rfl⟩
instance : TyU Try.prog 14 ((TypeDesc.struct #[{ name := "msg", type := 9, offset := 0, embedded := false, tag := "", pkgPath := "runtime", byteOffset := 0 }, { name := "addr", type := 12, offset := 1, embedded := false, tag := "", pkgPath := "runtime", byteOffset := 16 }])) := ⟨Try.underlying14⟩
instance : TyI Try.prog 14 2 (.agg #[.string ⟨#[]⟩, .int .u64 0]) 24 := ⟨by kernel_rfl⟩
instance : TyU Try.prog 15 ((TypeDesc.pointer 100)) := ⟨Try.underlying15⟩
instance : TyI Try.prog 15 1 (.pointer none) 8 := ⟨by kernel_rfl⟩
instance : TyU Try.prog 16 ((TypeDesc.pointer 103)) := ⟨Try.underlying16⟩
instance : TyI Try.prog 16 1 (.pointer none) 8 := ⟨by kernel_rfl⟩
instance : TyU Try.prog 17 ((TypeDesc.pointer 111)) := ⟨Try.underlying17⟩
instance : TyI Try.prog 17 1 (.pointer none) 8 := ⟨by kernel_rfl⟩
instance : TyU Try.prog 18 ((TypeDesc.struct #[{ name := "typ", type := 17, offset := 0, embedded := false, tag := "", pkgPath := "internal/runtime/maps", byteOffset := 0 }])) := ⟨Try.underlying18⟩
instance : TyI Try.prog 18 1 (.agg #[.pointer none]) 8 := ⟨by kernel_rfl⟩
instance : TyU Try.prog 19 ((TypeDesc.struct #[{ name := "typ", type := 17, offset := 0, embedded := false, tag := "", pkgPath := "internal/runtime/maps", byteOffset := 0 }])) := ⟨Try.underlying19⟩
instance : TyI Try.prog 19 1 (.agg #[.pointer none]) 8 := ⟨by kernel_rfl⟩
instance : TyU Try.prog 20 ((TypeDesc.interface #[])) := ⟨Try.underlying20⟩
instance : TyI Try.prog 20 1 (.nilIface) 16 := ⟨by kernel_rfl⟩
instance : TyU Try.prog 21 ((TypeDesc.int IntKind.i32)) := ⟨Try.underlying21⟩
instance : TyI Try.prog 21 1 (.int .i32 0) 4 := ⟨by kernel_rfl⟩
instance : TyU Try.prog 22 ((TypeDesc.slice 37)) := ⟨Try.underlying22⟩
instance : TyI Try.prog 22 1 (.slice none 0 0) 24 := ⟨by kernel_rfl⟩
instance : TyU Try.prog 23 ((TypeDesc.func #[22] #[4] false)) := ⟨Try.underlying23⟩
instance : TyI Try.prog 23 1 (.nilFunc) 8 := ⟨by kernel_rfl⟩
instance : TyU Try.prog 24 ((TypeDesc.func #[] #[4] false)) := ⟨Try.underlying24⟩
instance : TyI Try.prog 24 1 (.nilFunc) 8 := ⟨by kernel_rfl⟩
instance : TyU Try.prog 25 ((TypeDesc.pointer 56)) := ⟨Try.underlying25⟩
instance : TyI Try.prog 25 1 (.pointer none) 8 := ⟨by kernel_rfl⟩
instance : TyU Try.prog 26 ((TypeDesc.func #[] #[25] false)) := ⟨Try.underlying26⟩
instance : TyI Try.prog 26 1 (.nilFunc) 8 := ⟨by kernel_rfl⟩
instance : TyU Try.prog 27 ((TypeDesc.slice 35)) := ⟨Try.underlying27⟩
instance : TyI Try.prog 27 1 (.slice none 0 0) 24 := ⟨by kernel_rfl⟩
instance : TyU Try.prog 28 ((TypeDesc.array 16 3)) := ⟨Try.underlying28⟩
instance : TyI Try.prog 28 16 (.agg #[.int .i64 0, .int .i64 0, .int .i64 0, .int .i64 0, .int .i64 0, .int .i64 0, .int .i64 0, .int .i64 0, .int .i64 0, .int .i64 0, .int .i64 0, .int .i64 0, .int .i64 0, .int .i64 0, .int .i64 0, .int .i64 0]) 128 := ⟨by kernel_rfl⟩
instance : TyU Try.prog 29 ((TypeDesc.struct #[{ name := "L", type := 27, offset := 0, embedded := false, tag := "", pkgPath := "", byteOffset := 0 }, { name := "Last", type := 28, offset := 1, embedded := false, tag := "", pkgPath := "", byteOffset := 24 }])) := ⟨Try.underlying29⟩
instance : TyI Try.prog 29 17 (.agg #[.slice none 0 0, .int .i64 0, .int .i64 0, .int .i64 0, .int .i64 0, .int .i64 0, .int .i64 0, .int .i64 0, .int .i64 0, .int .i64 0, .int .i64 0, .int .i64 0, .int .i64 0, .int .i64 0, .int .i64 0, .int .i64 0, .int .i64 0]) 152 := ⟨by kernel_rfl⟩
instance : TyU Try.prog 30 ((TypeDesc.struct #[{ name := "L", type := 27, offset := 0, embedded := false, tag := "", pkgPath := "", byteOffset := 0 }, { name := "Last", type := 28, offset := 1, embedded := false, tag := "", pkgPath := "", byteOffset := 24 }])) := ⟨Try.underlying30⟩
instance : TyI Try.prog 30 17 (.agg #[.slice none 0 0, .int .i64 0, .int .i64 0, .int .i64 0, .int .i64 0, .int .i64 0, .int .i64 0, .int .i64 0, .int .i64 0, .int .i64 0, .int .i64 0, .int .i64 0, .int .i64 0, .int .i64 0, .int .i64 0, .int .i64 0, .int .i64 0]) 152 := ⟨by kernel_rfl⟩
instance : TyU Try.prog 31 ((TypeDesc.func #[] #[30] false)) := ⟨Try.underlying31⟩
instance : TyI Try.prog 31 1 (.nilFunc) 8 := ⟨by kernel_rfl⟩
instance : TyU Try.prog 32 ((TypeDesc.struct #[{ name := "Kind", type := 3, offset := 0, embedded := false, tag := "", pkgPath := "", byteOffset := 0 }, { name := "Epoch", type := 3, offset := 1, embedded := false, tag := "", pkgPath := "", byteOffset := 8 }, { name := "Name", type := 9, offset := 2, embedded := false, tag := "", pkgPath := "", byteOffset := 16 }, { name := "Body", type := 9, offset := 3, embedded := false, tag := "", pkgPath := "", byteOffset := 32 }])) := ⟨Try.underlying32⟩
instance : TyI Try.prog 32 4 (.agg #[.int .i64 0, .int .i64 0, .string ⟨#[]⟩, .string ⟨#[]⟩]) 48 := ⟨by kernel_rfl⟩
instance : TyU Try.prog 33 ((TypeDesc.struct #[{ name := "Kind", type := 3, offset := 0, embedded := false, tag := "", pkgPath := "", byteOffset := 0 }, { name := "Epoch", type := 3, offset := 1, embedded := false, tag := "", pkgPath := "", byteOffset := 8 }, { name := "Name", type := 9, offset := 2, embedded := false, tag := "", pkgPath := "", byteOffset := 16 }, { name := "Body", type := 9, offset := 3, embedded := false, tag := "", pkgPath := "", byteOffset := 32 }])) := ⟨Try.underlying33⟩
instance : TyI Try.prog 33 4 (.agg #[.int .i64 0, .int .i64 0, .string ⟨#[]⟩, .string ⟨#[]⟩]) 48 := ⟨by kernel_rfl⟩
instance : TyU Try.prog 34 ((TypeDesc.struct #[{ name := "Client", type := 3, offset := 0, embedded := false, tag := "", pkgPath := "", byteOffset := 0 }, { name := "Seq", type := 3, offset := 1, embedded := false, tag := "", pkgPath := "", byteOffset := 8 }, { name := "Command", type := 33, offset := 2, embedded := false, tag := "", pkgPath := "", byteOffset := 16 }])) := ⟨Try.underlying34⟩
instance : TyI Try.prog 34 6 (.agg #[.int .i64 0, .int .i64 0, .int .i64 0, .int .i64 0, .string ⟨#[]⟩, .string ⟨#[]⟩]) 64 := ⟨by kernel_rfl⟩
instance : TyU Try.prog 35 ((TypeDesc.struct #[{ name := "Client", type := 3, offset := 0, embedded := false, tag := "", pkgPath := "", byteOffset := 0 }, { name := "Seq", type := 3, offset := 1, embedded := false, tag := "", pkgPath := "", byteOffset := 8 }, { name := "Command", type := 33, offset := 2, embedded := false, tag := "", pkgPath := "", byteOffset := 16 }])) := ⟨Try.underlying35⟩
instance : TyI Try.prog 35 6 (.agg #[.int .i64 0, .int .i64 0, .int .i64 0, .int .i64 0, .string ⟨#[]⟩, .string ⟨#[]⟩]) 64 := ⟨by kernel_rfl⟩
instance : TyU Try.prog 36 ((TypeDesc.struct #[{ name := "Kind", type := 3, offset := 0, embedded := false, tag := "", pkgPath := "", byteOffset := 0 }, { name := "N", type := 3, offset := 1, embedded := false, tag := "", pkgPath := "", byteOffset := 8 }, { name := "Request", type := 35, offset := 2, embedded := false, tag := "", pkgPath := "", byteOffset := 16 }])) := ⟨Try.underlying36⟩
instance : TyI Try.prog 36 8 (.agg #[.int .i64 0, .int .i64 0, .int .i64 0, .int .i64 0, .int .i64 0, .int .i64 0, .string ⟨#[]⟩, .string ⟨#[]⟩]) 80 := ⟨by kernel_rfl⟩
instance : TyU Try.prog 37 ((TypeDesc.struct #[{ name := "Kind", type := 3, offset := 0, embedded := false, tag := "", pkgPath := "", byteOffset := 0 }, { name := "N", type := 3, offset := 1, embedded := false, tag := "", pkgPath := "", byteOffset := 8 }, { name := "Request", type := 35, offset := 2, embedded := false, tag := "", pkgPath := "", byteOffset := 16 }])) := ⟨Try.underlying37⟩
instance : TyI Try.prog 37 8 (.agg #[.int .i64 0, .int .i64 0, .int .i64 0, .int .i64 0, .int .i64 0, .int .i64 0, .string ⟨#[]⟩, .string ⟨#[]⟩]) 80 := ⟨by kernel_rfl⟩
instance : TyU Try.prog 38 ((TypeDesc.tuple #[30, 3])) := ⟨Try.underlying38⟩
instance : TyU Try.prog 39 ((TypeDesc.func #[30, 27] #[30, 3] false)) := ⟨Try.underlying39⟩
instance : TyI Try.prog 39 1 (.nilFunc) 8 := ⟨by kernel_rfl⟩
instance : TyU Try.prog 40 ((TypeDesc.func #[27] #[3] false)) := ⟨Try.underlying40⟩
instance : TyI Try.prog 40 1 (.nilFunc) 8 := ⟨by kernel_rfl⟩
instance : TyU Try.prog 41 ((TypeDesc.func #[30, 3] #[27] false)) := ⟨Try.underlying41⟩
instance : TyI Try.prog 41 1 (.nilFunc) 8 := ⟨by kernel_rfl⟩
instance : TyU Try.prog 42 ((TypeDesc.func #[3] #[27] false)) := ⟨Try.underlying42⟩
instance : TyI Try.prog 42 1 (.nilFunc) 8 := ⟨by kernel_rfl⟩
instance : TyU Try.prog 43 ((TypeDesc.func #[27, 27] #[4] false)) := ⟨Try.underlying43⟩
instance : TyI Try.prog 43 1 (.nilFunc) 8 := ⟨by kernel_rfl⟩
instance : TyU Try.prog 44 ((TypeDesc.func #[30, 35] #[30, 3] false)) := ⟨Try.underlying44⟩
instance : TyI Try.prog 44 1 (.nilFunc) 8 := ⟨by kernel_rfl⟩
instance : TyU Try.prog 45 ((TypeDesc.int IntKind.i64)) := ⟨Try.underlying45⟩
instance : TyI Try.prog 45 1 (.int .i64 0) 8 := ⟨by kernel_rfl⟩
instance : TyU Try.prog 46 ((TypeDesc.func #[35] #[45] false)) := ⟨Try.underlying46⟩
instance : TyI Try.prog 46 1 (.nilFunc) 8 := ⟨by kernel_rfl⟩
instance : TyU Try.prog 47 ((TypeDesc.func #[] #[3] false)) := ⟨Try.underlying47⟩
instance : TyI Try.prog 47 1 (.nilFunc) 8 := ⟨by kernel_rfl⟩
instance : TyU Try.prog 48 ((TypeDesc.func #[3] #[3] false)) := ⟨Try.underlying48⟩
instance : TyI Try.prog 48 1 (.nilFunc) 8 := ⟨by kernel_rfl⟩
instance : TyU Try.prog 49 ((TypeDesc.func #[30, 3] #[3] false)) := ⟨Try.underlying49⟩
instance : TyI Try.prog 49 1 (.nilFunc) 8 := ⟨by kernel_rfl⟩
instance : TyU Try.prog 50 ((TypeDesc.func #[22, 3] #[4] false)) := ⟨Try.underlying50⟩
instance : TyI Try.prog 50 1 (.nilFunc) 8 := ⟨by kernel_rfl⟩
instance : TyU Try.prog 51 ((TypeDesc.func #[37] #[4] false)) := ⟨Try.underlying51⟩
instance : TyI Try.prog 51 1 (.nilFunc) 8 := ⟨by kernel_rfl⟩
instance : TyU Try.prog 52 ((TypeDesc.func #[3, 3] #[35] false)) := ⟨Try.underlying52⟩
instance : TyI Try.prog 52 1 (.nilFunc) 8 := ⟨by kernel_rfl⟩
instance : TyU Try.prog 53 ((TypeDesc.map 3 27)) := ⟨Try.underlying53⟩
instance : TyI Try.prog 53 1 (.map none) 8 := ⟨by kernel_rfl⟩
instance : TyU Try.prog 54 ((TypeDesc.map 3 3)) := ⟨Try.underlying54⟩
instance : TyI Try.prog 54 1 (.map none) 8 := ⟨by kernel_rfl⟩
instance : TyU Try.prog 55 ((TypeDesc.struct #[{ name := "wait", type := 53, offset := 0, embedded := false, tag := "", pkgPath := "sandglass/pool", byteOffset := 0 }, { name := "next", type := 54, offset := 1, embedded := false, tag := "", pkgPath := "sandglass/pool", byteOffset := 8 }, { name := "n", type := 3, offset := 2, embedded := false, tag := "", pkgPath := "sandglass/pool", byteOffset := 16 }])) := ⟨Try.underlying55⟩
instance : TyI Try.prog 55 3 (.agg #[.map none, .map none, .int .i64 0]) 24 := ⟨by kernel_rfl⟩
instance : TyU Try.prog 56 ((TypeDesc.struct #[{ name := "wait", type := 53, offset := 0, embedded := false, tag := "", pkgPath := "sandglass/pool", byteOffset := 0 }, { name := "next", type := 54, offset := 1, embedded := false, tag := "", pkgPath := "sandglass/pool", byteOffset := 8 }, { name := "n", type := 3, offset := 2, embedded := false, tag := "", pkgPath := "sandglass/pool", byteOffset := 16 }])) := ⟨Try.underlying56⟩
instance : TyI Try.prog 56 3 (.agg #[.map none, .map none, .int .i64 0]) 24 := ⟨by kernel_rfl⟩
instance : TyU Try.prog 57 ((TypeDesc.func #[35] #[4] false)) := ⟨Try.underlying57⟩
instance : TyI Try.prog 57 1 (.nilFunc) 8 := ⟨by kernel_rfl⟩
instance : TyU Try.prog 58 ((TypeDesc.tuple #[3, 4])) := ⟨Try.underlying58⟩
instance : TyU Try.prog 59 ((TypeDesc.func #[27, 3] #[3, 4] false)) := ⟨Try.underlying59⟩
instance : TyI Try.prog 59 1 (.nilFunc) 8 := ⟨by kernel_rfl⟩
instance : TyU Try.prog 60 ((TypeDesc.func #[27, 3, 3] #[27] false)) := ⟨Try.underlying60⟩
instance : TyI Try.prog 60 1 (.nilFunc) 8 := ⟨by kernel_rfl⟩
instance : TyU Try.prog 61 ((TypeDesc.slice 4)) := ⟨Try.underlying61⟩
instance : TyI Try.prog 61 1 (.slice none 0 0) 24 := ⟨by kernel_rfl⟩
instance : TyU Try.prog 62 ((TypeDesc.slice 3)) := ⟨Try.underlying62⟩
instance : TyI Try.prog 62 1 (.slice none 0 0) 24 := ⟨by kernel_rfl⟩
instance : TyU Try.prog 63 ((TypeDesc.tuple #[62, 3])) := ⟨Try.underlying63⟩
instance : TyU Try.prog 64 ((TypeDesc.func #[] #[62, 3] false)) := ⟨Try.underlying64⟩
instance : TyI Try.prog 64 1 (.nilFunc) 8 := ⟨by kernel_rfl⟩
instance : TyU Try.prog 65 ((TypeDesc.func #[27, 3, 27] #[27] true)) := ⟨Try.underlying65⟩
instance : TyI Try.prog 65 1 (.nilFunc) 8 := ⟨by kernel_rfl⟩
instance : TyU Try.prog 66 ((TypeDesc.func #[33] #[3] false)) := ⟨Try.underlying66⟩
instance : TyI Try.prog 66 1 (.nilFunc) 8 := ⟨by kernel_rfl⟩
instance : TyU Try.prog 67 ((TypeDesc.func #[33] #[45] false)) := ⟨Try.underlying67⟩
instance : TyI Try.prog 67 1 (.nilFunc) 8 := ⟨by kernel_rfl⟩
instance : TyU Try.prog 68 ((TypeDesc.func #[27, 3, 69] #[3, 4] false)) := ⟨Try.underlying68⟩
instance : TyI Try.prog 68 1 (.nilFunc) 8 := ⟨by kernel_rfl⟩
instance : TyU Try.prog 69 ((TypeDesc.func #[35, 3] #[3] false)) := ⟨Try.underlying69⟩
instance : TyI Try.prog 69 1 (.nilFunc) 8 := ⟨by kernel_rfl⟩
instance : TyU Try.prog 70 ((TypeDesc.func #[62] #[] false)) := ⟨Try.underlying70⟩
instance : TyI Try.prog 70 1 (.nilFunc) 8 := ⟨by kernel_rfl⟩
instance : TyU Try.prog 71 ((TypeDesc.func #[27, 3] #[] false)) := ⟨Try.underlying71⟩
instance : TyI Try.prog 71 1 (.nilFunc) 8 := ⟨by kernel_rfl⟩
instance : TyU Try.prog 72 ((TypeDesc.int IntKind.u64)) := ⟨Try.underlying72⟩
instance : TyI Try.prog 72 1 (.int .u64 0) 8 := ⟨by kernel_rfl⟩
instance : TyU Try.prog 73 ((TypeDesc.func #[62, 3, 3, 3] #[] false)) := ⟨Try.underlying73⟩
instance : TyI Try.prog 73 1 (.nilFunc) 8 := ⟨by kernel_rfl⟩
instance : TyU Try.prog 74 ((TypeDesc.func #[72] #[3] false)) := ⟨Try.underlying74⟩
instance : TyI Try.prog 74 1 (.nilFunc) 8 := ⟨by kernel_rfl⟩
instance : TyU Try.prog 75 ((TypeDesc.func #[62, 3, 3] #[] false)) := ⟨Try.underlying75⟩
instance : TyI Try.prog 75 1 (.nilFunc) 8 := ⟨by kernel_rfl⟩
instance : TyU Try.prog 76 ((TypeDesc.int IntKind.i64)) := ⟨Try.underlying76⟩
instance : TyI Try.prog 76 1 (.int .i64 0) 8 := ⟨by kernel_rfl⟩
instance : TyU Try.prog 77 ((TypeDesc.tuple #[3, 76])) := ⟨Try.underlying77⟩
instance : TyU Try.prog 78 ((TypeDesc.func #[62, 3, 3] #[3, 76] false)) := ⟨Try.underlying78⟩
instance : TyI Try.prog 78 1 (.nilFunc) 8 := ⟨by kernel_rfl⟩
instance : TyU Try.prog 79 ((TypeDesc.func #[62, 3, 3] #[4] false)) := ⟨Try.underlying79⟩
instance : TyI Try.prog 79 1 (.nilFunc) 8 := ⟨by kernel_rfl⟩
instance : TyU Try.prog 80 ((TypeDesc.func #[3, 3] #[4] false)) := ⟨Try.underlying80⟩
instance : TyI Try.prog 80 1 (.nilFunc) 8 := ⟨by kernel_rfl⟩
instance : TyU Try.prog 81 ((TypeDesc.func #[62, 3, 3, 3] #[3] false)) := ⟨Try.underlying81⟩
instance : TyI Try.prog 81 1 (.nilFunc) 8 := ⟨by kernel_rfl⟩
instance : TyU Try.prog 82 ((TypeDesc.func #[62, 3, 3, 3] #[3, 4] false)) := ⟨Try.underlying82⟩
instance : TyI Try.prog 82 1 (.nilFunc) 8 := ⟨by kernel_rfl⟩
instance : TyU Try.prog 83 ((TypeDesc.func #[84] #[3] false)) := ⟨Try.underlying83⟩
instance : TyI Try.prog 83 1 (.nilFunc) 8 := ⟨by kernel_rfl⟩
instance : TyU Try.prog 84 ((TypeDesc.int IntKind.u32)) := ⟨Try.underlying84⟩
instance : TyI Try.prog 84 1 (.int .u32 0) 4 := ⟨by kernel_rfl⟩
instance : TyU Try.prog 85 ((TypeDesc.func #[86] #[3] false)) := ⟨Try.underlying85⟩
instance : TyI Try.prog 85 1 (.nilFunc) 8 := ⟨by kernel_rfl⟩
instance : TyU Try.prog 86 ((TypeDesc.int IntKind.u64)) := ⟨Try.underlying86⟩
instance : TyI Try.prog 86 1 (.int .u64 0) 8 := ⟨by kernel_rfl⟩
instance : TyU Try.prog 87 ((TypeDesc.func #[27] #[] false)) := ⟨Try.underlying87⟩
instance : TyI Try.prog 87 1 (.nilFunc) 8 := ⟨by kernel_rfl⟩
instance : TyU Try.prog 88 ((TypeDesc.int IntKind.u64)) := ⟨Try.underlying88⟩
instance : TyI Try.prog 88 1 (.int .u64 0) 8 := ⟨by kernel_rfl⟩
instance : TyU Try.prog 89 ((TypeDesc.func #[3] #[72] false)) := ⟨Try.underlying89⟩
instance : TyI Try.prog 89 1 (.nilFunc) 8 := ⟨by kernel_rfl⟩
instance : TyU Try.prog 90 ((TypeDesc.func #[] #[86] false)) := ⟨Try.underlying90⟩
instance : TyI Try.prog 90 1 (.nilFunc) 8 := ⟨by kernel_rfl⟩
instance : TyU Try.prog 91 ((TypeDesc.func #[62, 3, 92] #[3] false)) := ⟨Try.underlying91⟩
instance : TyI Try.prog 91 1 (.nilFunc) 8 := ⟨by kernel_rfl⟩
instance : TyU Try.prog 92 ((TypeDesc.pointer 3)) := ⟨Try.underlying92⟩
instance : TyI Try.prog 92 1 (.pointer none) 8 := ⟨by kernel_rfl⟩
instance : TyU Try.prog 93 ((TypeDesc.func #[62, 3, 3, 3, 92] #[3] false)) := ⟨Try.underlying93⟩
instance : TyI Try.prog 93 1 (.nilFunc) 8 := ⟨by kernel_rfl⟩
instance : TyU Try.prog 94 ((TypeDesc.func #[3] #[4] false)) := ⟨Try.underlying94⟩
instance : TyI Try.prog 94 1 (.nilFunc) 8 := ⟨by kernel_rfl⟩
instance : TyU Try.prog 95 ((TypeDesc.pointer 88)) := ⟨Try.underlying95⟩
instance : TyI Try.prog 95 1 (.pointer none) 8 := ⟨by kernel_rfl⟩
instance : TyU Try.prog 96 ((TypeDesc.tuple #[3, 3])) := ⟨Try.underlying96⟩
instance : TyU Try.prog 97 ((TypeDesc.func #[62, 3, 3, 92] #[3, 3] false)) := ⟨Try.underlying97⟩
instance : TyI Try.prog 97 1 (.nilFunc) 8 := ⟨by kernel_rfl⟩
instance : TyU Try.prog 98 ((TypeDesc.func #[] #[9] false)) := ⟨Try.underlying98⟩
instance : TyI Try.prog 98 1 (.nilFunc) 8 := ⟨by kernel_rfl⟩
instance : TyU Try.prog 99 ((TypeDesc.struct #[{ name := "_interface", type := 17, offset := 0, embedded := false, tag := "", pkgPath := "runtime", byteOffset := 0 }, { name := "concrete", type := 17, offset := 1, embedded := false, tag := "", pkgPath := "runtime", byteOffset := 8 }, { name := "asserted", type := 17, offset := 2, embedded := false, tag := "", pkgPath := "runtime", byteOffset := 16 }, { name := "missingMethod", type := 9, offset := 3, embedded := false, tag := "", pkgPath := "runtime", byteOffset := 24 }])) := ⟨Try.underlying99⟩
instance : TyI Try.prog 99 4 (.agg #[.pointer none, .pointer none, .pointer none, .string ⟨#[]⟩]) 40 := ⟨by kernel_rfl⟩
instance : TyU Try.prog 100 ((TypeDesc.struct #[{ name := "_interface", type := 17, offset := 0, embedded := false, tag := "", pkgPath := "runtime", byteOffset := 0 }, { name := "concrete", type := 17, offset := 1, embedded := false, tag := "", pkgPath := "runtime", byteOffset := 8 }, { name := "asserted", type := 17, offset := 2, embedded := false, tag := "", pkgPath := "runtime", byteOffset := 16 }, { name := "missingMethod", type := 9, offset := 3, embedded := false, tag := "", pkgPath := "runtime", byteOffset := 24 }])) := ⟨Try.underlying100⟩
instance : TyI Try.prog 100 4 (.agg #[.pointer none, .pointer none, .pointer none, .string ⟨#[]⟩]) 40 := ⟨by kernel_rfl⟩
instance : TyU Try.prog 101 ((TypeDesc.array 0 16)) := ⟨Try.underlying101⟩
instance : TyI Try.prog 101 0 (.agg #[]) 0 := ⟨by kernel_rfl⟩
instance : TyU Try.prog 102 ((TypeDesc.struct #[{ name := "_", type := 101, offset := 0, embedded := false, tag := "", pkgPath := "runtime", byteOffset := 0 }])) := ⟨Try.underlying102⟩
instance : TyI Try.prog 102 0 (.agg #[]) 0 := ⟨by kernel_rfl⟩
instance : TyU Try.prog 103 ((TypeDesc.struct #[{ name := "_", type := 101, offset := 0, embedded := false, tag := "", pkgPath := "runtime", byteOffset := 0 }])) := ⟨Try.underlying103⟩
instance : TyI Try.prog 103 0 (.agg #[]) 0 := ⟨by kernel_rfl⟩
instance : TyU Try.prog 104 ((TypeDesc.int IntKind.u8)) := ⟨Try.underlying104⟩
instance : TyI Try.prog 104 1 (.int .u8 0) 1 := ⟨by kernel_rfl⟩
instance : TyU Try.prog 105 ((TypeDesc.int IntKind.u8)) := ⟨Try.underlying105⟩
instance : TyI Try.prog 105 1 (.int .u8 0) 1 := ⟨by kernel_rfl⟩
instance : TyU Try.prog 106 ((TypeDesc.func #[112, 112] #[4] false)) := ⟨Try.underlying106⟩
instance : TyI Try.prog 106 1 (.nilFunc) 8 := ⟨by kernel_rfl⟩
instance : TyU Try.prog 107 ((TypeDesc.pointer 5)) := ⟨Try.underlying107⟩
instance : TyI Try.prog 107 1 (.pointer none) 8 := ⟨by kernel_rfl⟩
instance : TyU Try.prog 108 ((TypeDesc.int IntKind.i32)) := ⟨Try.underlying108⟩
instance : TyI Try.prog 108 1 (.int .i32 0) 4 := ⟨by kernel_rfl⟩
instance : TyU Try.prog 109 ((TypeDesc.int IntKind.i32)) := ⟨Try.underlying109⟩
instance : TyI Try.prog 109 1 (.int .i32 0) 4 := ⟨by kernel_rfl⟩
instance : TyU Try.prog 110 ((TypeDesc.struct #[{ name := "Size_", type := 12, offset := 0, embedded := false, tag := "", pkgPath := "", byteOffset := 0 }, { name := "PtrBytes", type := 12, offset := 1, embedded := false, tag := "", pkgPath := "", byteOffset := 8 }, { name := "Hash", type := 84, offset := 2, embedded := false, tag := "", pkgPath := "", byteOffset := 16 }, { name := "TFlag", type := 104, offset := 3, embedded := false, tag := "", pkgPath := "", byteOffset := 20 }, { name := "Align_", type := 5, offset := 4, embedded := false, tag := "", pkgPath := "", byteOffset := 21 }, { name := "FieldAlign_", type := 5, offset := 5, embedded := false, tag := "", pkgPath := "", byteOffset := 22 }, { name := "Kind_", type := 105, offset := 6, embedded := false, tag := "", pkgPath := "", byteOffset := 23 }, { name := "Equal", type := 106, offset := 7, embedded := false, tag := "", pkgPath := "", byteOffset := 24 }, { name := "GCData", type := 107, offset := 8, embedded := false, tag := "", pkgPath := "", byteOffset := 32 }, { name := "Str", type := 108, offset := 9, embedded := false, tag := "", pkgPath := "", byteOffset := 40 }, { name := "PtrToThis", type := 109, offset := 10, embedded := false, tag := "", pkgPath := "", byteOffset := 44 }])) := ⟨Try.underlying110⟩
instance : TyI Try.prog 110 11 (.agg #[.int .u64 0, .int .u64 0, .int .u32 0, .int .u8 0, .int .u8 0, .int .u8 0, .int .u8 0, .nilFunc, .pointer none, .int .i32 0, .int .i32 0]) 48 := ⟨by kernel_rfl⟩
instance : TyU Try.prog 111 ((TypeDesc.struct #[{ name := "Size_", type := 12, offset := 0, embedded := false, tag := "", pkgPath := "", byteOffset := 0 }, { name := "PtrBytes", type := 12, offset := 1, embedded := false, tag := "", pkgPath := "", byteOffset := 8 }, { name := "Hash", type := 84, offset := 2, embedded := false, tag := "", pkgPath := "", byteOffset := 16 }, { name := "TFlag", type := 104, offset := 3, embedded := false, tag := "", pkgPath := "", byteOffset := 20 }, { name := "Align_", type := 5, offset := 4, embedded := false, tag := "", pkgPath := "", byteOffset := 21 }, { name := "FieldAlign_", type := 5, offset := 5, embedded := false, tag := "", pkgPath := "", byteOffset := 22 }, { name := "Kind_", type := 105, offset := 6, embedded := false, tag := "", pkgPath := "", byteOffset := 23 }, { name := "Equal", type := 106, offset := 7, embedded := false, tag := "", pkgPath := "", byteOffset := 24 }, { name := "GCData", type := 107, offset := 8, embedded := false, tag := "", pkgPath := "", byteOffset := 32 }, { name := "Str", type := 108, offset := 9, embedded := false, tag := "", pkgPath := "", byteOffset := 40 }, { name := "PtrToThis", type := 109, offset := 10, embedded := false, tag := "", pkgPath := "", byteOffset := 44 }])) := ⟨Try.underlying111⟩
instance : TyI Try.prog 111 11 (.agg #[.int .u64 0, .int .u64 0, .int .u32 0, .int .u8 0, .int .u8 0, .int .u8 0, .int .u8 0, .nilFunc, .pointer none, .int .i32 0, .int .i32 0]) 48 := ⟨by kernel_rfl⟩
instance : TyU Try.prog 112 (TypeDesc.unsafePointer) := ⟨Try.underlying112⟩
instance : TyI Try.prog 112 1 (.pointer none) 8 := ⟨by kernel_rfl⟩
instance : Places Try.prog 7 [(0, 1), (1, 1), (2, 1), (3, 1)] [.int .i64 0, .int .i64 0, .bool false, .int .u8 0] := .of Try.underlying7 inferInstance rfl (fun _ => by kernel_rfl)
instance : FldOff Try.prog 7 0 0 := .of Try.underlying7 (fd := { name := "x", type := 2, offset := 0, embedded := false, tag := "", pkgPath := "runtime", byteOffset := 0 }) rfl inferInstance (by decide)
instance : FldOff Try.prog 7 1 1 := .of Try.underlying7 (fd := { name := "y", type := 3, offset := 1, embedded := false, tag := "", pkgPath := "runtime", byteOffset := 8 }) rfl inferInstance (by decide)
instance : FldOff Try.prog 7 2 2 := .of Try.underlying7 (fd := { name := "signed", type := 4, offset := 2, embedded := false, tag := "", pkgPath := "runtime", byteOffset := 16 }) rfl inferInstance (by decide)
instance : FldOff Try.prog 7 3 3 := .of Try.underlying7 (fd := { name := "code", type := 6, offset := 3, embedded := false, tag := "", pkgPath := "runtime", byteOffset := 17 }) rfl inferInstance (by decide)
instance : Places Try.prog 8 [(0, 1), (1, 1), (2, 1), (3, 1)] [.int .i64 0, .int .i64 0, .bool false, .int .u8 0] := .of Try.underlying8 inferInstance rfl (fun _ => by kernel_rfl)
instance : FldOff Try.prog 8 0 0 := .of Try.underlying8 (fd := { name := "x", type := 2, offset := 0, embedded := false, tag := "", pkgPath := "runtime", byteOffset := 0 }) rfl inferInstance (by decide)
instance : FldOff Try.prog 8 1 1 := .of Try.underlying8 (fd := { name := "y", type := 3, offset := 1, embedded := false, tag := "", pkgPath := "runtime", byteOffset := 8 }) rfl inferInstance (by decide)
instance : FldOff Try.prog 8 2 2 := .of Try.underlying8 (fd := { name := "signed", type := 4, offset := 2, embedded := false, tag := "", pkgPath := "runtime", byteOffset := 16 }) rfl inferInstance (by decide)
instance : FldOff Try.prog 8 3 3 := .of Try.underlying8 (fd := { name := "code", type := 6, offset := 3, embedded := false, tag := "", pkgPath := "runtime", byteOffset := 17 }) rfl inferInstance (by decide)
instance : Places Try.prog 13 [(0, 1), (1, 1)] [.string ⟨#[]⟩, .int .u64 0] := .of Try.underlying13 inferInstance rfl (fun _ => by kernel_rfl)
instance : FldOff Try.prog 13 0 0 := .of Try.underlying13 (fd := { name := "msg", type := 9, offset := 0, embedded := false, tag := "", pkgPath := "runtime", byteOffset := 0 }) rfl inferInstance (by decide)
instance : FldOff Try.prog 13 1 1 := .of Try.underlying13 (fd := { name := "addr", type := 12, offset := 1, embedded := false, tag := "", pkgPath := "runtime", byteOffset := 16 }) rfl inferInstance (by decide)
instance : Places Try.prog 14 [(0, 1), (1, 1)] [.string ⟨#[]⟩, .int .u64 0] := .of Try.underlying14 inferInstance rfl (fun _ => by kernel_rfl)
instance : FldOff Try.prog 14 0 0 := .of Try.underlying14 (fd := { name := "msg", type := 9, offset := 0, embedded := false, tag := "", pkgPath := "runtime", byteOffset := 0 }) rfl inferInstance (by decide)
instance : FldOff Try.prog 14 1 1 := .of Try.underlying14 (fd := { name := "addr", type := 12, offset := 1, embedded := false, tag := "", pkgPath := "runtime", byteOffset := 16 }) rfl inferInstance (by decide)
instance : Places Try.prog 18 [(0, 1)] [.pointer none] := .of Try.underlying18 inferInstance rfl (fun _ => by kernel_rfl)
instance : FldOff Try.prog 18 0 0 := .of Try.underlying18 (fd := { name := "typ", type := 17, offset := 0, embedded := false, tag := "", pkgPath := "internal/runtime/maps", byteOffset := 0 }) rfl inferInstance (by decide)
instance : Places Try.prog 19 [(0, 1)] [.pointer none] := .of Try.underlying19 inferInstance rfl (fun _ => by kernel_rfl)
instance : FldOff Try.prog 19 0 0 := .of Try.underlying19 (fd := { name := "typ", type := 17, offset := 0, embedded := false, tag := "", pkgPath := "internal/runtime/maps", byteOffset := 0 }) rfl inferInstance (by decide)
instance : Places Try.prog 29 [(0, 1), (1, 16)] [.slice none 0 0, .int .i64 0, .int .i64 0, .int .i64 0, .int .i64 0, .int .i64 0, .int .i64 0, .int .i64 0, .int .i64 0, .int .i64 0, .int .i64 0, .int .i64 0, .int .i64 0, .int .i64 0, .int .i64 0, .int .i64 0, .int .i64 0] := .of Try.underlying29 inferInstance rfl (fun _ => by kernel_rfl)
instance : FldOff Try.prog 29 0 0 := .of Try.underlying29 (fd := { name := "L", type := 27, offset := 0, embedded := false, tag := "", pkgPath := "", byteOffset := 0 }) rfl inferInstance (by decide)
instance : FldOff Try.prog 29 1 1 := .of Try.underlying29 (fd := { name := "Last", type := 28, offset := 1, embedded := false, tag := "", pkgPath := "", byteOffset := 24 }) rfl inferInstance (by decide)
instance : Places Try.prog 30 [(0, 1), (1, 16)] [.slice none 0 0, .int .i64 0, .int .i64 0, .int .i64 0, .int .i64 0, .int .i64 0, .int .i64 0, .int .i64 0, .int .i64 0, .int .i64 0, .int .i64 0, .int .i64 0, .int .i64 0, .int .i64 0, .int .i64 0, .int .i64 0, .int .i64 0] := .of Try.underlying30 inferInstance rfl (fun _ => by kernel_rfl)
instance : FldOff Try.prog 30 0 0 := .of Try.underlying30 (fd := { name := "L", type := 27, offset := 0, embedded := false, tag := "", pkgPath := "", byteOffset := 0 }) rfl inferInstance (by decide)
instance : FldOff Try.prog 30 1 1 := .of Try.underlying30 (fd := { name := "Last", type := 28, offset := 1, embedded := false, tag := "", pkgPath := "", byteOffset := 24 }) rfl inferInstance (by decide)
instance : Places Try.prog 32 [(0, 1), (1, 1), (2, 1), (3, 1)] [.int .i64 0, .int .i64 0, .string ⟨#[]⟩, .string ⟨#[]⟩] := .of Try.underlying32 inferInstance rfl (fun _ => by kernel_rfl)
instance : FldOff Try.prog 32 0 0 := .of Try.underlying32 (fd := { name := "Kind", type := 3, offset := 0, embedded := false, tag := "", pkgPath := "", byteOffset := 0 }) rfl inferInstance (by decide)
instance : FldOff Try.prog 32 1 1 := .of Try.underlying32 (fd := { name := "Epoch", type := 3, offset := 1, embedded := false, tag := "", pkgPath := "", byteOffset := 8 }) rfl inferInstance (by decide)
instance : FldOff Try.prog 32 2 2 := .of Try.underlying32 (fd := { name := "Name", type := 9, offset := 2, embedded := false, tag := "", pkgPath := "", byteOffset := 16 }) rfl inferInstance (by decide)
instance : FldOff Try.prog 32 3 3 := .of Try.underlying32 (fd := { name := "Body", type := 9, offset := 3, embedded := false, tag := "", pkgPath := "", byteOffset := 32 }) rfl inferInstance (by decide)
instance : Places Try.prog 33 [(0, 1), (1, 1), (2, 1), (3, 1)] [.int .i64 0, .int .i64 0, .string ⟨#[]⟩, .string ⟨#[]⟩] := .of Try.underlying33 inferInstance rfl (fun _ => by kernel_rfl)
instance : FldOff Try.prog 33 0 0 := .of Try.underlying33 (fd := { name := "Kind", type := 3, offset := 0, embedded := false, tag := "", pkgPath := "", byteOffset := 0 }) rfl inferInstance (by decide)
instance : FldOff Try.prog 33 1 1 := .of Try.underlying33 (fd := { name := "Epoch", type := 3, offset := 1, embedded := false, tag := "", pkgPath := "", byteOffset := 8 }) rfl inferInstance (by decide)
instance : FldOff Try.prog 33 2 2 := .of Try.underlying33 (fd := { name := "Name", type := 9, offset := 2, embedded := false, tag := "", pkgPath := "", byteOffset := 16 }) rfl inferInstance (by decide)
instance : FldOff Try.prog 33 3 3 := .of Try.underlying33 (fd := { name := "Body", type := 9, offset := 3, embedded := false, tag := "", pkgPath := "", byteOffset := 32 }) rfl inferInstance (by decide)
instance : Places Try.prog 34 [(0, 1), (1, 1), (2, 4)] [.int .i64 0, .int .i64 0, .int .i64 0, .int .i64 0, .string ⟨#[]⟩, .string ⟨#[]⟩] := .of Try.underlying34 inferInstance rfl (fun _ => by kernel_rfl)
instance : FldOff Try.prog 34 0 0 := .of Try.underlying34 (fd := { name := "Client", type := 3, offset := 0, embedded := false, tag := "", pkgPath := "", byteOffset := 0 }) rfl inferInstance (by decide)
instance : FldOff Try.prog 34 1 1 := .of Try.underlying34 (fd := { name := "Seq", type := 3, offset := 1, embedded := false, tag := "", pkgPath := "", byteOffset := 8 }) rfl inferInstance (by decide)
instance : FldOff Try.prog 34 2 2 := .of Try.underlying34 (fd := { name := "Command", type := 33, offset := 2, embedded := false, tag := "", pkgPath := "", byteOffset := 16 }) rfl inferInstance (by decide)
instance : Places Try.prog 35 [(0, 1), (1, 1), (2, 4)] [.int .i64 0, .int .i64 0, .int .i64 0, .int .i64 0, .string ⟨#[]⟩, .string ⟨#[]⟩] := .of Try.underlying35 inferInstance rfl (fun _ => by kernel_rfl)
instance : FldOff Try.prog 35 0 0 := .of Try.underlying35 (fd := { name := "Client", type := 3, offset := 0, embedded := false, tag := "", pkgPath := "", byteOffset := 0 }) rfl inferInstance (by decide)
instance : FldOff Try.prog 35 1 1 := .of Try.underlying35 (fd := { name := "Seq", type := 3, offset := 1, embedded := false, tag := "", pkgPath := "", byteOffset := 8 }) rfl inferInstance (by decide)
instance : FldOff Try.prog 35 2 2 := .of Try.underlying35 (fd := { name := "Command", type := 33, offset := 2, embedded := false, tag := "", pkgPath := "", byteOffset := 16 }) rfl inferInstance (by decide)
instance : Places Try.prog 36 [(0, 1), (1, 1), (2, 6)] [.int .i64 0, .int .i64 0, .int .i64 0, .int .i64 0, .int .i64 0, .int .i64 0, .string ⟨#[]⟩, .string ⟨#[]⟩] := .of Try.underlying36 inferInstance rfl (fun _ => by kernel_rfl)
instance : FldOff Try.prog 36 0 0 := .of Try.underlying36 (fd := { name := "Kind", type := 3, offset := 0, embedded := false, tag := "", pkgPath := "", byteOffset := 0 }) rfl inferInstance (by decide)
instance : FldOff Try.prog 36 1 1 := .of Try.underlying36 (fd := { name := "N", type := 3, offset := 1, embedded := false, tag := "", pkgPath := "", byteOffset := 8 }) rfl inferInstance (by decide)
instance : FldOff Try.prog 36 2 2 := .of Try.underlying36 (fd := { name := "Request", type := 35, offset := 2, embedded := false, tag := "", pkgPath := "", byteOffset := 16 }) rfl inferInstance (by decide)
instance : Places Try.prog 37 [(0, 1), (1, 1), (2, 6)] [.int .i64 0, .int .i64 0, .int .i64 0, .int .i64 0, .int .i64 0, .int .i64 0, .string ⟨#[]⟩, .string ⟨#[]⟩] := .of Try.underlying37 inferInstance rfl (fun _ => by kernel_rfl)
instance : FldOff Try.prog 37 0 0 := .of Try.underlying37 (fd := { name := "Kind", type := 3, offset := 0, embedded := false, tag := "", pkgPath := "", byteOffset := 0 }) rfl inferInstance (by decide)
instance : FldOff Try.prog 37 1 1 := .of Try.underlying37 (fd := { name := "N", type := 3, offset := 1, embedded := false, tag := "", pkgPath := "", byteOffset := 8 }) rfl inferInstance (by decide)
instance : FldOff Try.prog 37 2 2 := .of Try.underlying37 (fd := { name := "Request", type := 35, offset := 2, embedded := false, tag := "", pkgPath := "", byteOffset := 16 }) rfl inferInstance (by decide)
instance : Places Try.prog 55 [(0, 1), (1, 1), (2, 1)] [.map none, .map none, .int .i64 0] := .of Try.underlying55 inferInstance rfl (fun _ => by kernel_rfl)
instance : FldOff Try.prog 55 0 0 := .of Try.underlying55 (fd := { name := "wait", type := 53, offset := 0, embedded := false, tag := "", pkgPath := "sandglass/pool", byteOffset := 0 }) rfl inferInstance (by decide)
instance : FldOff Try.prog 55 1 1 := .of Try.underlying55 (fd := { name := "next", type := 54, offset := 1, embedded := false, tag := "", pkgPath := "sandglass/pool", byteOffset := 8 }) rfl inferInstance (by decide)
instance : FldOff Try.prog 55 2 2 := .of Try.underlying55 (fd := { name := "n", type := 3, offset := 2, embedded := false, tag := "", pkgPath := "sandglass/pool", byteOffset := 16 }) rfl inferInstance (by decide)
instance : Places Try.prog 56 [(0, 1), (1, 1), (2, 1)] [.map none, .map none, .int .i64 0] := .of Try.underlying56 inferInstance rfl (fun _ => by kernel_rfl)
instance : FldOff Try.prog 56 0 0 := .of Try.underlying56 (fd := { name := "wait", type := 53, offset := 0, embedded := false, tag := "", pkgPath := "sandglass/pool", byteOffset := 0 }) rfl inferInstance (by decide)
instance : FldOff Try.prog 56 1 1 := .of Try.underlying56 (fd := { name := "next", type := 54, offset := 1, embedded := false, tag := "", pkgPath := "sandglass/pool", byteOffset := 8 }) rfl inferInstance (by decide)
instance : FldOff Try.prog 56 2 2 := .of Try.underlying56 (fd := { name := "n", type := 3, offset := 2, embedded := false, tag := "", pkgPath := "sandglass/pool", byteOffset := 16 }) rfl inferInstance (by decide)
instance : Places Try.prog 99 [(0, 1), (1, 1), (2, 1), (3, 1)] [.pointer none, .pointer none, .pointer none, .string ⟨#[]⟩] := .of Try.underlying99 inferInstance rfl (fun _ => by kernel_rfl)
instance : FldOff Try.prog 99 0 0 := .of Try.underlying99 (fd := { name := "_interface", type := 17, offset := 0, embedded := false, tag := "", pkgPath := "runtime", byteOffset := 0 }) rfl inferInstance (by decide)
instance : FldOff Try.prog 99 1 1 := .of Try.underlying99 (fd := { name := "concrete", type := 17, offset := 1, embedded := false, tag := "", pkgPath := "runtime", byteOffset := 8 }) rfl inferInstance (by decide)
instance : FldOff Try.prog 99 2 2 := .of Try.underlying99 (fd := { name := "asserted", type := 17, offset := 2, embedded := false, tag := "", pkgPath := "runtime", byteOffset := 16 }) rfl inferInstance (by decide)
instance : FldOff Try.prog 99 3 3 := .of Try.underlying99 (fd := { name := "missingMethod", type := 9, offset := 3, embedded := false, tag := "", pkgPath := "runtime", byteOffset := 24 }) rfl inferInstance (by decide)
instance : Places Try.prog 100 [(0, 1), (1, 1), (2, 1), (3, 1)] [.pointer none, .pointer none, .pointer none, .string ⟨#[]⟩] := .of Try.underlying100 inferInstance rfl (fun _ => by kernel_rfl)
instance : FldOff Try.prog 100 0 0 := .of Try.underlying100 (fd := { name := "_interface", type := 17, offset := 0, embedded := false, tag := "", pkgPath := "runtime", byteOffset := 0 }) rfl inferInstance (by decide)
instance : FldOff Try.prog 100 1 1 := .of Try.underlying100 (fd := { name := "concrete", type := 17, offset := 1, embedded := false, tag := "", pkgPath := "runtime", byteOffset := 8 }) rfl inferInstance (by decide)
instance : FldOff Try.prog 100 2 2 := .of Try.underlying100 (fd := { name := "asserted", type := 17, offset := 2, embedded := false, tag := "", pkgPath := "runtime", byteOffset := 16 }) rfl inferInstance (by decide)
instance : FldOff Try.prog 100 3 3 := .of Try.underlying100 (fd := { name := "missingMethod", type := 9, offset := 3, embedded := false, tag := "", pkgPath := "runtime", byteOffset := 24 }) rfl inferInstance (by decide)
instance : Places Try.prog 102 [(0, 0)] [] := .of Try.underlying102 inferInstance rfl (fun _ => by kernel_rfl)
instance : Places Try.prog 103 [(0, 0)] [] := .of Try.underlying103 inferInstance rfl (fun _ => by kernel_rfl)
instance : Places Try.prog 110 [(0, 1), (1, 1), (2, 1), (3, 1), (4, 1), (5, 1), (6, 1), (7, 1), (8, 1), (9, 1), (10, 1)] [.int .u64 0, .int .u64 0, .int .u32 0, .int .u8 0, .int .u8 0, .int .u8 0, .int .u8 0, .nilFunc, .pointer none, .int .i32 0, .int .i32 0] := .of Try.underlying110 inferInstance rfl (fun _ => by kernel_rfl)
instance : FldOff Try.prog 110 0 0 := .of Try.underlying110 (fd := { name := "Size_", type := 12, offset := 0, embedded := false, tag := "", pkgPath := "", byteOffset := 0 }) rfl inferInstance (by decide)
instance : FldOff Try.prog 110 1 1 := .of Try.underlying110 (fd := { name := "PtrBytes", type := 12, offset := 1, embedded := false, tag := "", pkgPath := "", byteOffset := 8 }) rfl inferInstance (by decide)
instance : FldOff Try.prog 110 2 2 := .of Try.underlying110 (fd := { name := "Hash", type := 84, offset := 2, embedded := false, tag := "", pkgPath := "", byteOffset := 16 }) rfl inferInstance (by decide)
instance : FldOff Try.prog 110 3 3 := .of Try.underlying110 (fd := { name := "TFlag", type := 104, offset := 3, embedded := false, tag := "", pkgPath := "", byteOffset := 20 }) rfl inferInstance (by decide)
instance : FldOff Try.prog 110 4 4 := .of Try.underlying110 (fd := { name := "Align_", type := 5, offset := 4, embedded := false, tag := "", pkgPath := "", byteOffset := 21 }) rfl inferInstance (by decide)
instance : FldOff Try.prog 110 5 5 := .of Try.underlying110 (fd := { name := "FieldAlign_", type := 5, offset := 5, embedded := false, tag := "", pkgPath := "", byteOffset := 22 }) rfl inferInstance (by decide)
instance : FldOff Try.prog 110 6 6 := .of Try.underlying110 (fd := { name := "Kind_", type := 105, offset := 6, embedded := false, tag := "", pkgPath := "", byteOffset := 23 }) rfl inferInstance (by decide)
instance : FldOff Try.prog 110 7 7 := .of Try.underlying110 (fd := { name := "Equal", type := 106, offset := 7, embedded := false, tag := "", pkgPath := "", byteOffset := 24 }) rfl inferInstance (by decide)
instance : FldOff Try.prog 110 8 8 := .of Try.underlying110 (fd := { name := "GCData", type := 107, offset := 8, embedded := false, tag := "", pkgPath := "", byteOffset := 32 }) rfl inferInstance (by decide)
instance : FldOff Try.prog 110 9 9 := .of Try.underlying110 (fd := { name := "Str", type := 108, offset := 9, embedded := false, tag := "", pkgPath := "", byteOffset := 40 }) rfl inferInstance (by decide)
instance : FldOff Try.prog 110 10 10 := .of Try.underlying110 (fd := { name := "PtrToThis", type := 109, offset := 10, embedded := false, tag := "", pkgPath := "", byteOffset := 44 }) rfl inferInstance (by decide)
instance : Places Try.prog 111 [(0, 1), (1, 1), (2, 1), (3, 1), (4, 1), (5, 1), (6, 1), (7, 1), (8, 1), (9, 1), (10, 1)] [.int .u64 0, .int .u64 0, .int .u32 0, .int .u8 0, .int .u8 0, .int .u8 0, .int .u8 0, .nilFunc, .pointer none, .int .i32 0, .int .i32 0] := .of Try.underlying111 inferInstance rfl (fun _ => by kernel_rfl)
instance : FldOff Try.prog 111 0 0 := .of Try.underlying111 (fd := { name := "Size_", type := 12, offset := 0, embedded := false, tag := "", pkgPath := "", byteOffset := 0 }) rfl inferInstance (by decide)
instance : FldOff Try.prog 111 1 1 := .of Try.underlying111 (fd := { name := "PtrBytes", type := 12, offset := 1, embedded := false, tag := "", pkgPath := "", byteOffset := 8 }) rfl inferInstance (by decide)
instance : FldOff Try.prog 111 2 2 := .of Try.underlying111 (fd := { name := "Hash", type := 84, offset := 2, embedded := false, tag := "", pkgPath := "", byteOffset := 16 }) rfl inferInstance (by decide)
instance : FldOff Try.prog 111 3 3 := .of Try.underlying111 (fd := { name := "TFlag", type := 104, offset := 3, embedded := false, tag := "", pkgPath := "", byteOffset := 20 }) rfl inferInstance (by decide)
instance : FldOff Try.prog 111 4 4 := .of Try.underlying111 (fd := { name := "Align_", type := 5, offset := 4, embedded := false, tag := "", pkgPath := "", byteOffset := 21 }) rfl inferInstance (by decide)
instance : FldOff Try.prog 111 5 5 := .of Try.underlying111 (fd := { name := "FieldAlign_", type := 5, offset := 5, embedded := false, tag := "", pkgPath := "", byteOffset := 22 }) rfl inferInstance (by decide)
instance : FldOff Try.prog 111 6 6 := .of Try.underlying111 (fd := { name := "Kind_", type := 105, offset := 6, embedded := false, tag := "", pkgPath := "", byteOffset := 23 }) rfl inferInstance (by decide)
instance : FldOff Try.prog 111 7 7 := .of Try.underlying111 (fd := { name := "Equal", type := 106, offset := 7, embedded := false, tag := "", pkgPath := "", byteOffset := 24 }) rfl inferInstance (by decide)
instance : FldOff Try.prog 111 8 8 := .of Try.underlying111 (fd := { name := "GCData", type := 107, offset := 8, embedded := false, tag := "", pkgPath := "", byteOffset := 32 }) rfl inferInstance (by decide)
instance : FldOff Try.prog 111 9 9 := .of Try.underlying111 (fd := { name := "Str", type := 108, offset := 9, embedded := false, tag := "", pkgPath := "", byteOffset := 40 }) rfl inferInstance (by decide)
instance : FldOff Try.prog 111 10 10 := .of Try.underlying111 (fd := { name := "PtrToThis", type := 109, offset := 10, embedded := false, tag := "", pkgPath := "", byteOffset := 44 }) rfl inferInstance (by decide)
instance : HasFn Try.prog 3 := ⟨_, Try.func3, by kernel_rfl, by kernel_rfl⟩
instance : HasFn Try.prog 4 := ⟨_, Try.func4, by kernel_rfl, by kernel_rfl⟩
instance : HasFn Try.prog 5 := ⟨_, Try.func5, by kernel_rfl, by kernel_rfl⟩
instance : HasFn Try.prog 6 := ⟨_, Try.func6, by kernel_rfl, by kernel_rfl⟩
instance : HasFn Try.prog 7 := ⟨_, Try.func7, by kernel_rfl, by kernel_rfl⟩
instance : HasFn Try.prog 8 := ⟨_, Try.func8, by kernel_rfl, by kernel_rfl⟩
instance : HasFn Try.prog 9 := ⟨_, Try.func9, by kernel_rfl, by kernel_rfl⟩
instance : HasFn Try.prog 10 := ⟨_, Try.func10, by kernel_rfl, by kernel_rfl⟩
instance : HasFn Try.prog 11 := ⟨_, Try.func11, by kernel_rfl, by kernel_rfl⟩
instance : HasFn Try.prog 12 := ⟨_, Try.func12, by kernel_rfl, by kernel_rfl⟩
instance : HasFn Try.prog 13 := ⟨_, Try.func13, by kernel_rfl, by kernel_rfl⟩
instance : HasFn Try.prog 14 := ⟨_, Try.func14, by kernel_rfl, by kernel_rfl⟩
instance : HasFn Try.prog 15 := ⟨_, Try.func15, by kernel_rfl, by kernel_rfl⟩
instance : HasFn Try.prog 16 := ⟨_, Try.func16, by kernel_rfl, by kernel_rfl⟩
instance : HasFn Try.prog 17 := ⟨_, Try.func17, by kernel_rfl, by kernel_rfl⟩
instance : HasFn Try.prog 18 := ⟨_, Try.func18, by kernel_rfl, by kernel_rfl⟩
instance : HasFn Try.prog 19 := ⟨_, Try.func19, by kernel_rfl, by kernel_rfl⟩
instance : HasFn Try.prog 20 := ⟨_, Try.func20, by kernel_rfl, by kernel_rfl⟩
instance : HasFn Try.prog 21 := ⟨_, Try.func21, by kernel_rfl, by kernel_rfl⟩
instance : HasFn Try.prog 22 := ⟨_, Try.func22, by kernel_rfl, by kernel_rfl⟩
instance : HasFn Try.prog 23 := ⟨_, Try.func23, by kernel_rfl, by kernel_rfl⟩
instance : HasFn Try.prog 24 := ⟨_, Try.func24, by kernel_rfl, by kernel_rfl⟩
instance : HasFn Try.prog 25 := ⟨_, Try.func25, by kernel_rfl, by kernel_rfl⟩
instance : HasFn Try.prog 26 := ⟨_, Try.func26, by kernel_rfl, by kernel_rfl⟩
instance : HasFn Try.prog 27 := ⟨_, Try.func27, by kernel_rfl, by kernel_rfl⟩
instance : HasFn Try.prog 28 := ⟨_, Try.func28, by kernel_rfl, by kernel_rfl⟩
instance : HasFn Try.prog 29 := ⟨_, Try.func29, by kernel_rfl, by kernel_rfl⟩
instance : HasFn Try.prog 30 := ⟨_, Try.func30, by kernel_rfl, by kernel_rfl⟩
instance : HasFn Try.prog 31 := ⟨_, Try.func31, by kernel_rfl, by kernel_rfl⟩
instance : HasFn Try.prog 32 := ⟨_, Try.func32, by kernel_rfl, by kernel_rfl⟩
instance : HasFn Try.prog 34 := ⟨_, Try.func34, by kernel_rfl, by kernel_rfl⟩
instance : HasFn Try.prog 35 := ⟨_, Try.func35, by kernel_rfl, by kernel_rfl⟩
instance : HasFn Try.prog 36 := ⟨_, Try.func36, by kernel_rfl, by kernel_rfl⟩
instance : HasFn Try.prog 37 := ⟨_, Try.func37, by kernel_rfl, by kernel_rfl⟩
instance : HasFn Try.prog 38 := ⟨_, Try.func38, by kernel_rfl, by kernel_rfl⟩
instance : HasFn Try.prog 39 := ⟨_, Try.func39, by kernel_rfl, by kernel_rfl⟩
instance : HasFn Try.prog 40 := ⟨_, Try.func40, by kernel_rfl, by kernel_rfl⟩
instance : HasFn Try.prog 41 := ⟨_, Try.func41, by kernel_rfl, by kernel_rfl⟩
instance : HasFn Try.prog 42 := ⟨_, Try.func42, by kernel_rfl, by kernel_rfl⟩
instance : HasFn Try.prog 43 := ⟨_, Try.func43, by kernel_rfl, by kernel_rfl⟩
instance : HasFn Try.prog 44 := ⟨_, Try.func44, by kernel_rfl, by kernel_rfl⟩
instance : HasFn Try.prog 45 := ⟨_, Try.func45, by kernel_rfl, by kernel_rfl⟩
instance : HasFn Try.prog 46 := ⟨_, Try.func46, by kernel_rfl, by kernel_rfl⟩
instance : HasFn Try.prog 47 := ⟨_, Try.func47, by kernel_rfl, by kernel_rfl⟩
instance : HasFn Try.prog 48 := ⟨_, Try.func48, by kernel_rfl, by kernel_rfl⟩
instance : HasFn Try.prog 49 := ⟨_, Try.func49, by kernel_rfl, by kernel_rfl⟩
instance : HasFn Try.prog 50 := ⟨_, Try.func50, by kernel_rfl, by kernel_rfl⟩
instance : HasFn Try.prog 51 := ⟨_, Try.func51, by kernel_rfl, by kernel_rfl⟩
instance : HasFn Try.prog 52 := ⟨_, Try.func52, by kernel_rfl, by kernel_rfl⟩
instance : HasFn Try.prog 53 := ⟨_, Try.func53, by kernel_rfl, by kernel_rfl⟩
instance : HasFn Try.prog 54 := ⟨_, Try.func54, by kernel_rfl, by kernel_rfl⟩
instance : HasFn Try.prog 55 := ⟨_, Try.func55, by kernel_rfl, by kernel_rfl⟩
instance : HasFn Try.prog 56 := ⟨_, Try.func56, by kernel_rfl, by kernel_rfl⟩
theorem Try.mixed : Try.prog.follows .mixedOrders = true := by kernel_rfl
end Go.Proofs
