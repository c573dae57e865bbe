/- Part 14 of the texts below the row: Facts. -/
import Derived.KernelRfl
import Derived.Test.YtdggicfcpcjjlaaGreatDoorProg
import Derived.Test.YtdggicfcpcjjlaaGreatDoorM1
import Derived.Test.YtdggicfcpcjjlaaGreatDoorM9
import Derived.Test.YtdggicfcpcjjlaaGreatDoorM13
/- Facts on the seat's types and functions, each read off the loaded program. -/
set_option autoImplicit false
namespace Go.Proofs
open Go.SL
instance : TyU Tryz.prog 3 ((TypeDesc.int IntKind.i64)) := ⟨Tryz.underlying3⟩
instance : TyI Tryz.prog 3 1 (.int .i64 0) 8 := ⟨by kernel_rfl⟩
instance : TyU Tryz.prog 4 (TypeDesc.bool) := ⟨Tryz.underlying4⟩
instance : TyI Tryz.prog 4 1 (.bool false) 1 := ⟨by kernel_rfl⟩
instance : TyU Tryz.prog 5 ((TypeDesc.int IntKind.u8)) := ⟨Tryz.underlying5⟩
instance : TyI Tryz.prog 5 1 (.int .u8 0) 1 := ⟨by kernel_rfl⟩
instance : TyU Tryz.prog 9 (TypeDesc.string) := ⟨Tryz.underlying9⟩
instance : TyI Tryz.prog 9 1 (.string ⟨#[]⟩) 16 := ⟨by kernel_rfl⟩
instance : TyU Tryz.prog 20 ((TypeDesc.interface #[])) := ⟨Tryz.underlying20⟩
instance : TyI Tryz.prog 20 1 (.nilIface) 16 := ⟨by kernel_rfl⟩
instance : TyU Tryz.prog 22 ((TypeDesc.int IntKind.u64)) := ⟨Tryz.underlying22⟩
instance : TyI Tryz.prog 22 1 (.int .u64 0) 8 := ⟨by kernel_rfl⟩
instance : TyU Tryz.prog 24 ((TypeDesc.array 4 22)) := ⟨Tryz.underlying24⟩
instance : TyI Tryz.prog 24 4 (.agg #[.int .u64 0, .int .u64 0, .int .u64 0, .int .u64 0]) 32 := ⟨by kernel_rfl⟩
instance : TyU Tryz.prog 26 ((TypeDesc.slice 24)) := ⟨Tryz.underlying26⟩
instance : TyI Tryz.prog 26 1 (.slice none 0 0) 24 := ⟨by kernel_rfl⟩
instance : TyU Tryz.prog 28 ((TypeDesc.int IntKind.i64)) := ⟨Tryz.underlying28⟩
instance : TyI Tryz.prog 28 1 (.int .i64 0) 8 := ⟨by kernel_rfl⟩
instance : TyU Tryz.prog 29 ((TypeDesc.tuple #[9,28])) := ⟨Tryz.underlying29⟩
instance : TyU Tryz.prog 30 ((TypeDesc.func #[32,24,9] #[9,28] false)) := ⟨Tryz.underlying30⟩
instance : TyU Tryz.prog 32 ((TypeDesc.struct #[{ name := "X", type := 24, offset := 0, embedded := false, tag := "", pkgPath := "", byteOffset := 0 }, { name := "Y", type := 24, offset := 4, embedded := false, tag := "", pkgPath := "", byteOffset := 32 }, { name := "None", type := 4, offset := 8, embedded := false, tag := "", pkgPath := "", byteOffset := 64 }])) := ⟨Tryz.underlying32⟩
instance : TyI Tryz.prog 32 9 (.agg #[.int .u64 0, .int .u64 0, .int .u64 0, .int .u64 0, .int .u64 0, .int .u64 0, .int .u64 0, .int .u64 0, .bool false]) 72 := ⟨by kernel_rfl⟩
instance : TyU Tryz.prog 34 ((TypeDesc.func #[24,9] #[9,28] false)) := ⟨Tryz.underlying34⟩
instance : TyU Tryz.prog 35 ((TypeDesc.func #[24,24,24] #[4] false)) := ⟨Tryz.underlying35⟩
instance : TyU Tryz.prog 38 ((TypeDesc.slice 26)) := ⟨Tryz.underlying38⟩
instance : TyI Tryz.prog 38 1 (.slice none 0 0) 24 := ⟨by kernel_rfl⟩
instance : TyU Tryz.prog 39 ((TypeDesc.slice 3)) := ⟨Tryz.underlying39⟩
instance : TyU Tryz.prog 40 ((TypeDesc.slice 43)) := ⟨Tryz.underlying40⟩
instance : TyU Tryz.prog 41 ((TypeDesc.slice 46)) := ⟨Tryz.underlying41⟩
instance : TyI Tryz.prog 41 1 (.slice none 0 0) 24 := ⟨by kernel_rfl⟩
instance : TyU Tryz.prog 43 ((TypeDesc.struct #[{ name := "Commits", type := 41, offset := 0, embedded := false, tag := "", pkgPath := "", byteOffset := 0 }, { name := "Values", type := 38, offset := 1, embedded := false, tag := "", pkgPath := "", byteOffset := 24 }])) := ⟨Tryz.underlying43⟩
instance : TyI Tryz.prog 43 2 (.agg #[.slice none 0 0, .slice none 0 0]) 48 := ⟨by kernel_rfl⟩
instance : TyU Tryz.prog 44 ((TypeDesc.tuple #[43,28])) := ⟨Tryz.underlying44⟩
instance : TyU Tryz.prog 45 ((TypeDesc.func #[3,3,38] #[43,28] false)) := ⟨Tryz.underlying45⟩
instance : TyU Tryz.prog 46 ((TypeDesc.slice 32)) := ⟨Tryz.underlying46⟩
instance : TyI Tryz.prog 46 1 (.slice none 0 0) 24 := ⟨by kernel_rfl⟩
instance : TyU Tryz.prog 47 ((TypeDesc.pointer 100)) := ⟨Tryz.underlying47⟩
instance : TyI Tryz.prog 47 1 (.pointer none) 8 := ⟨by kernel_rfl⟩
instance : TyU Tryz.prog 48 ((TypeDesc.func #[3,41] #[47] false)) := ⟨Tryz.underlying48⟩
instance : TyU Tryz.prog 49 ((TypeDesc.tuple #[26,28])) := ⟨Tryz.underlying49⟩
instance : TyU Tryz.prog 50 ((TypeDesc.func #[40,39,3,3] #[26,28] false)) := ⟨Tryz.underlying50⟩
instance : TyU Tryz.prog 51 ((TypeDesc.func #[3,53] #[4] false)) := ⟨Tryz.underlying51⟩
instance : TyU Tryz.prog 53 ((TypeDesc.struct #[{ name := "At", type := 3, offset := 0, embedded := false, tag := "", pkgPath := "", byteOffset := 0 }, { name := "V", type := 24, offset := 1, embedded := false, tag := "", pkgPath := "", byteOffset := 8 }])) := ⟨Tryz.underlying53⟩
instance : TyI Tryz.prog 53 5 (.agg #[.int .i64 0, .int .u64 0, .int .u64 0, .int .u64 0, .int .u64 0]) 40 := ⟨by kernel_rfl⟩
instance : TyU Tryz.prog 54 ((TypeDesc.tuple #[24,28])) := ⟨Tryz.underlying54⟩
instance : TyU Tryz.prog 55 ((TypeDesc.func #[] #[24,28] false)) := ⟨Tryz.underlying55⟩
instance : TyU Tryz.prog 56 ((TypeDesc.func #[40,39] #[46] false)) := ⟨Tryz.underlying56⟩
instance : TyU Tryz.prog 57 ((TypeDesc.func #[37,38,39] #[4] false)) := ⟨Tryz.underlying57⟩
instance : TyU Tryz.prog 59 ((TypeDesc.pointer 122)) := ⟨Tryz.underlying59⟩
instance : TyU Tryz.prog 60 ((TypeDesc.tuple #[59,28])) := ⟨Tryz.underlying60⟩
instance : TyU Tryz.prog 61 ((TypeDesc.func #[3,3,3,40,39,3,3] #[59,28] false)) := ⟨Tryz.underlying61⟩
instance : TyU Tryz.prog 62 ((TypeDesc.func #[32] #[9,28] false)) := ⟨Tryz.underlying62⟩
instance : TyU Tryz.prog 65 ((TypeDesc.struct #[{ name := "Kind", type := 3, offset := 0, embedded := false, tag := "", pkgPath := "", byteOffset := 0 }, { name := "Epoch", type := 3, offset := 1, embedded := false, tag := "", pkgPath := "", byteOffset := 8 }, { name := "Name", type := 9, offset := 2, embedded := false, tag := "", pkgPath := "", byteOffset := 16 }, { name := "Body", type := 9, offset := 3, embedded := false, tag := "", pkgPath := "", byteOffset := 32 }])) := ⟨Tryz.underlying65⟩
instance : TyI Tryz.prog 65 4 (.agg #[.int .i64 0, .int .i64 0, .string ⟨#[]⟩, .string ⟨#[]⟩]) 48 := ⟨by kernel_rfl⟩
instance : TyU Tryz.prog 67 ((TypeDesc.slice 53)) := ⟨Tryz.underlying67⟩
instance : TyI Tryz.prog 67 1 (.slice none 0 0) 24 := ⟨by kernel_rfl⟩
instance : TyU Tryz.prog 68 ((TypeDesc.tuple #[67,28])) := ⟨Tryz.underlying68⟩
instance : TyU Tryz.prog 69 ((TypeDesc.func #[3] #[67,28] false)) := ⟨Tryz.underlying69⟩
instance : TyU Tryz.prog 70 ((TypeDesc.func #[3,3,53] #[4] false)) := ⟨Tryz.underlying70⟩
instance : TyU Tryz.prog 71 ((TypeDesc.func #[9] #[9,28] false)) := ⟨Tryz.underlying71⟩
instance : TyU Tryz.prog 74 ((TypeDesc.func #[4,28] #[] false)) := ⟨Tryz.underlying74⟩
instance : TyU Tryz.prog 76 ((TypeDesc.struct #[{ name := "Key", type := 9, offset := 0, embedded := false, tag := "", pkgPath := "", byteOffset := 0 }, { name := "Head", type := 9, offset := 1, embedded := false, tag := "", pkgPath := "", byteOffset := 16 }])) := ⟨Tryz.underlying76⟩
instance : TyI Tryz.prog 76 2 (.agg #[.string ⟨#[]⟩, .string ⟨#[]⟩]) 32 := ⟨by kernel_rfl⟩
instance : TyU Tryz.prog 77 ((TypeDesc.func #[32,32,32,9] #[76] false)) := ⟨Tryz.underlying77⟩
instance : TyU Tryz.prog 78 ((TypeDesc.func #[24,32] #[32] false)) := ⟨Tryz.underlying78⟩
instance : TyU Tryz.prog 79 ((TypeDesc.func #[9,3] #[9] false)) := ⟨Tryz.underlying79⟩
instance : TyU Tryz.prog 80 ((TypeDesc.pointer 83)) := ⟨Tryz.underlying80⟩
instance : TyI Tryz.prog 80 1 (.pointer none) 8 := ⟨by kernel_rfl⟩
instance : TyU Tryz.prog 81 ((TypeDesc.slice 5)) := ⟨Tryz.underlying81⟩
instance : TyI Tryz.prog 81 1 (.slice none 0 0) 24 := ⟨by kernel_rfl⟩
instance : TyI Tryz.prog 83 2 (.agg #[.pointer none, .slice none 0 0]) 32 := ⟨by kernel_rfl⟩
instance : TyU Tryz.prog 85 ((TypeDesc.interface #[("Error", 91)])) := ⟨Tryz.underlying85⟩
instance : TyU Tryz.prog 86 ((TypeDesc.tuple #[3,85])) := ⟨Tryz.underlying86⟩
instance : TyU Tryz.prog 87 ((TypeDesc.func #[9] #[3,85] false)) := ⟨Tryz.underlying87⟩
instance : TyU Tryz.prog 89 ((TypeDesc.func #[9,9,9,9] #[9,28] false)) := ⟨Tryz.underlying89⟩
instance : TyU Tryz.prog 93 ((TypeDesc.tuple #[32,3])) := ⟨Tryz.underlying93⟩
instance : TyU Tryz.prog 94 ((TypeDesc.func #[9] #[32,3] false)) := ⟨Tryz.underlying94⟩
instance : TyU Tryz.prog 95 ((TypeDesc.func #[3,3,3,38] #[4] false)) := ⟨Tryz.underlying95⟩
instance : TyU Tryz.prog 97 ((TypeDesc.func #[26,3] #[24] false)) := ⟨Tryz.underlying97⟩
instance : TyU Tryz.prog 98 ((TypeDesc.slice 20)) := ⟨Tryz.underlying98⟩
instance : TyI Tryz.prog 98 1 (.slice none 0 0) 24 := ⟨by kernel_rfl⟩
instance : TyI Tryz.prog 100 3 (.agg #[.int .i64 0, .slice none 0 0, .slice none 0 0]) 56 := ⟨by kernel_rfl⟩
instance : TyU Tryz.prog 102 ((TypeDesc.func #[40,3] #[43] false)) := ⟨Tryz.underlying102⟩
instance : TyU Tryz.prog 104 ((TypeDesc.func #[67,105] #[4] false)) := ⟨Tryz.underlying104⟩
instance : TyU Tryz.prog 106 ((TypeDesc.func #[46,53] #[4] false)) := ⟨Tryz.underlying106⟩
instance : TyU Tryz.prog 107 ((TypeDesc.func #[67] #[24,28] false)) := ⟨Tryz.underlying107⟩
instance : TyU Tryz.prog 108 ((TypeDesc.func #[24,24] #[24] false)) := ⟨Tryz.underlying108⟩
instance : TyU Tryz.prog 109 ((TypeDesc.func #[32,32] #[32] false)) := ⟨Tryz.underlying109⟩
instance : TyU Tryz.prog 110 ((TypeDesc.func #[24,24] #[3] false)) := ⟨Tryz.underlying110⟩
instance : TyU Tryz.prog 112 ((TypeDesc.pointer 172)) := ⟨Tryz.underlying112⟩
instance : TyI Tryz.prog 112 1 (.pointer none) 8 := ⟨by kernel_rfl⟩
instance : TyU Tryz.prog 114 ((TypeDesc.pointer 177)) := ⟨Tryz.underlying114⟩
instance : TyI Tryz.prog 114 1 (.pointer none) 8 := ⟨by kernel_rfl⟩
instance : TyU Tryz.prog 116 ((TypeDesc.pointer 184)) := ⟨Tryz.underlying116⟩
instance : TyI Tryz.prog 116 1 (.pointer none) 8 := ⟨by kernel_rfl⟩
instance : TyU Tryz.prog 117 ((TypeDesc.func #[3,3] #[116] false)) := ⟨Tryz.underlying117⟩
instance : TyU Tryz.prog 118 ((TypeDesc.slice 41)) := ⟨Tryz.underlying118⟩
instance : TyI Tryz.prog 118 1 (.slice none 0 0) 24 := ⟨by kernel_rfl⟩
instance : TyU Tryz.prog 119 ((TypeDesc.slice 67)) := ⟨Tryz.underlying119⟩
instance : TyI Tryz.prog 119 1 (.slice none 0 0) 24 := ⟨by kernel_rfl⟩
instance : TyU Tryz.prog 120 ((TypeDesc.slice 47)) := ⟨Tryz.underlying120⟩
instance : TyI Tryz.prog 120 1 (.slice none 0 0) 24 := ⟨by kernel_rfl⟩
instance : TyI Tryz.prog 122 8 (.agg #[.int .i64 0, .int .i64 0, .slice none 0 0, .slice none 0 0, .pointer none, .pointer none, .pointer none, .slice none 0 0]) 112 := ⟨by kernel_rfl⟩
instance : TyU Tryz.prog 123 ((TypeDesc.func #[3,3,43,3] #[4] false)) := ⟨Tryz.underlying123⟩
instance : TyU Tryz.prog 126 ((TypeDesc.func #[65] #[9,28] false)) := ⟨Tryz.underlying126⟩
instance : TyU Tryz.prog 129 ((TypeDesc.func #[85,85] #[4] false)) := ⟨Tryz.underlying129⟩
instance : TyU Tryz.prog 131 ((TypeDesc.struct #[{ name := "e", type := 28, offset := 0, embedded := false, tag := "", pkgPath := "sandglass/vault", byteOffset := 0 }])) := ⟨Tryz.underlying131⟩
instance : TyI Tryz.prog 131 1 (.agg #[.int .i64 0]) 8 := ⟨by kernel_rfl⟩
instance : TyU Tryz.prog 135 ((TypeDesc.struct #[{ name := "Epoch", type := 3, offset := 0, embedded := false, tag := "", pkgPath := "", byteOffset := 0 }, { name := "Name", type := 9, offset := 1, embedded := false, tag := "", pkgPath := "", byteOffset := 8 }, { name := "Body", type := 9, offset := 2, embedded := false, tag := "", pkgPath := "", byteOffset := 24 }])) := ⟨Tryz.underlying135⟩
instance : TyI Tryz.prog 135 3 (.agg #[.int .i64 0, .string ⟨#[]⟩, .string ⟨#[]⟩]) 40 := ⟨by kernel_rfl⟩
instance : TyU Tryz.prog 136 ((TypeDesc.tuple #[135,28])) := ⟨Tryz.underlying136⟩
instance : TyU Tryz.prog 137 ((TypeDesc.func #[9] #[135,28] false)) := ⟨Tryz.underlying137⟩
instance : TyU Tryz.prog 138 ((TypeDesc.tuple #[28,4])) := ⟨Tryz.underlying138⟩
instance : TyU Tryz.prog 140 ((TypeDesc.func #[9,9,3] #[9,28] false)) := ⟨Tryz.underlying140⟩
instance : TyU Tryz.prog 141 ((TypeDesc.func #[9,9] #[9] false)) := ⟨Tryz.underlying141⟩
instance : TyU Tryz.prog 143 ((TypeDesc.struct #[{ name := "M", type := 24, offset := 0, embedded := false, tag := "", pkgPath := "", byteOffset := 0 }, { name := "N", type := 22, offset := 4, embedded := false, tag := "", pkgPath := "", byteOffset := 32 }, { name := "RR", type := 24, offset := 5, embedded := false, tag := "", pkgPath := "", byteOffset := 40 }])) := ⟨Tryz.underlying143⟩
instance : TyI Tryz.prog 143 9 (.agg #[.int .u64 0, .int .u64 0, .int .u64 0, .int .u64 0, .int .u64 0, .int .u64 0, .int .u64 0, .int .u64 0, .int .u64 0]) 72 := ⟨by kernel_rfl⟩
instance : TyU Tryz.prog 145 ((TypeDesc.struct #[{ name := "m", type := 143, offset := 0, embedded := false, tag := "", pkgPath := "sandglass/jacobian", byteOffset := 0 }, { name := "one", type := 24, offset := 9, embedded := false, tag := "", pkgPath := "sandglass/jacobian", byteOffset := 72 }])) := ⟨Tryz.underlying145⟩
instance : TyI Tryz.prog 145 13 (.agg #[.int .u64 0, .int .u64 0, .int .u64 0, .int .u64 0, .int .u64 0, .int .u64 0, .int .u64 0, .int .u64 0, .int .u64 0, .int .u64 0, .int .u64 0, .int .u64 0, .int .u64 0]) 104 := ⟨by kernel_rfl⟩
instance : TyU Tryz.prog 149 ((TypeDesc.struct #[{ name := "X", type := 24, offset := 0, embedded := false, tag := "", pkgPath := "", byteOffset := 0 }, { name := "Y", type := 24, offset := 4, embedded := false, tag := "", pkgPath := "", byteOffset := 32 }, { name := "Z", type := 24, offset := 8, embedded := false, tag := "", pkgPath := "", byteOffset := 64 }])) := ⟨Tryz.underlying149⟩
instance : TyI Tryz.prog 149 12 (.agg #[.int .u64 0, .int .u64 0, .int .u64 0, .int .u64 0, .int .u64 0, .int .u64 0, .int .u64 0, .int .u64 0, .int .u64 0, .int .u64 0, .int .u64 0, .int .u64 0]) 96 := ⟨by kernel_rfl⟩
instance : TyU Tryz.prog 150 ((TypeDesc.func #[145,24,32] #[149] false)) := ⟨Tryz.underlying150⟩
instance : TyU Tryz.prog 152 ((TypeDesc.struct #[{ name := "key", type := 9, offset := 0, embedded := false, tag := "", pkgPath := "sandglass/aead", byteOffset := 0 }, { name := "nonce", type := 9, offset := 1, embedded := false, tag := "", pkgPath := "sandglass/aead", byteOffset := 16 }])) := ⟨Tryz.underlying152⟩
instance : TyI Tryz.prog 152 2 (.agg #[.string ⟨#[]⟩, .string ⟨#[]⟩]) 32 := ⟨by kernel_rfl⟩
instance : TyU Tryz.prog 153 ((TypeDesc.pointer 5)) := ⟨Tryz.underlying153⟩
instance : TyU Tryz.prog 154 ((TypeDesc.int IntKind.u64)) := ⟨Tryz.underlying154⟩
instance : TyU Tryz.prog 155 ((TypeDesc.func #[9,9] #[4] false)) := ⟨Tryz.underlying155⟩
instance : TyU Tryz.prog 156 ((TypeDesc.tuple #[32,28])) := ⟨Tryz.underlying156⟩
instance : TyU Tryz.prog 157 ((TypeDesc.func #[9] #[32,28] false)) := ⟨Tryz.underlying157⟩
instance : TyU Tryz.prog 158 ((TypeDesc.func #[3,3] #[3] false)) := ⟨Tryz.underlying158⟩
instance : TyU Tryz.prog 160 ((TypeDesc.tuple #[67,4])) := ⟨Tryz.underlying160⟩
instance : TyU Tryz.prog 161 ((TypeDesc.func #[67,105] #[3] false)) := ⟨Tryz.underlying161⟩
instance : TyU Tryz.prog 162 ((TypeDesc.func #[46,3] #[32] false)) := ⟨Tryz.underlying162⟩
instance : TyU Tryz.prog 163 ((TypeDesc.func #[39] #[26,28] false)) := ⟨Tryz.underlying163⟩
instance : TyU Tryz.prog 164 ((TypeDesc.func #[67,165] #[24] false)) := ⟨Tryz.underlying164⟩
instance : TyU Tryz.prog 165 ((TypeDesc.func #[3,53] #[24] false)) := ⟨Tryz.underlying165⟩
instance : TyU Tryz.prog 168 ((TypeDesc.func #[32,32,24] #[32] false)) := ⟨Tryz.underlying168⟩
instance : TyU Tryz.prog 169 ((TypeDesc.array 64 9)) := ⟨Tryz.underlying169⟩
instance : TyI Tryz.prog 169 64 (.agg #[.string ⟨#[]⟩, .string ⟨#[]⟩, .string ⟨#[]⟩, .string ⟨#[]⟩, .string ⟨#[]⟩, .string ⟨#[]⟩, .string ⟨#[]⟩, .string ⟨#[]⟩, .string ⟨#[]⟩, .string ⟨#[]⟩, .string ⟨#[]⟩, .string ⟨#[]⟩, .string ⟨#[]⟩, .string ⟨#[]⟩, .string ⟨#[]⟩, .string ⟨#[]⟩, .string ⟨#[]⟩, .string ⟨#[]⟩, .string ⟨#[]⟩, .string ⟨#[]⟩, .string ⟨#[]⟩, .string ⟨#[]⟩, .string ⟨#[]⟩, .string ⟨#[]⟩, .string ⟨#[]⟩, .string ⟨#[]⟩, .string ⟨#[]⟩, .string ⟨#[]⟩, .string ⟨#[]⟩, .string ⟨#[]⟩, .string ⟨#[]⟩, .string ⟨#[]⟩, .string ⟨#[]⟩, .string ⟨#[]⟩, .string ⟨#[]⟩, .string ⟨#[]⟩, .string ⟨#[]⟩, .string ⟨#[]⟩, .string ⟨#[]⟩, .string ⟨#[]⟩, .string ⟨#[]⟩, .string ⟨#[]⟩, .string ⟨#[]⟩, .string ⟨#[]⟩, .string ⟨#[]⟩, .string ⟨#[]⟩, .string ⟨#[]⟩, .string ⟨#[]⟩, .string ⟨#[]⟩, .string ⟨#[]⟩, .string ⟨#[]⟩, .string ⟨#[]⟩, .string ⟨#[]⟩, .string ⟨#[]⟩, .string ⟨#[]⟩, .string ⟨#[]⟩, .string ⟨#[]⟩, .string ⟨#[]⟩, .string ⟨#[]⟩, .string ⟨#[]⟩, .string ⟨#[]⟩, .string ⟨#[]⟩, .string ⟨#[]⟩, .string ⟨#[]⟩]) 1024 := ⟨by kernel_rfl⟩
instance : TyU Tryz.prog 170 ((TypeDesc.slice 135)) := ⟨Tryz.underlying170⟩
instance : TyI Tryz.prog 170 1 (.slice none 0 0) 24 := ⟨by kernel_rfl⟩
instance : TyU Tryz.prog 172 ((TypeDesc.struct #[{ name := "keys", type := 169, offset := 0, embedded := false, tag := "", pkgPath := "sandglass/ledger", byteOffset := 0 }, { name := "files", type := 170, offset := 64, embedded := false, tag := "", pkgPath := "sandglass/ledger", byteOffset := 1024 }, { name := "pruned", type := 3, offset := 65, embedded := false, tag := "", pkgPath := "sandglass/ledger", byteOffset := 1048 }])) := ⟨Tryz.underlying172⟩
instance : TyI Tryz.prog 172 66 (.agg #[.string ⟨#[]⟩, .string ⟨#[]⟩, .string ⟨#[]⟩, .string ⟨#[]⟩, .string ⟨#[]⟩, .string ⟨#[]⟩, .string ⟨#[]⟩, .string ⟨#[]⟩, .string ⟨#[]⟩, .string ⟨#[]⟩, .string ⟨#[]⟩, .string ⟨#[]⟩, .string ⟨#[]⟩, .string ⟨#[]⟩, .string ⟨#[]⟩, .string ⟨#[]⟩, .string ⟨#[]⟩, .string ⟨#[]⟩, .string ⟨#[]⟩, .string ⟨#[]⟩, .string ⟨#[]⟩, .string ⟨#[]⟩, .string ⟨#[]⟩, .string ⟨#[]⟩, .string ⟨#[]⟩, .string ⟨#[]⟩, .string ⟨#[]⟩, .string ⟨#[]⟩, .string ⟨#[]⟩, .string ⟨#[]⟩, .string ⟨#[]⟩, .string ⟨#[]⟩, .string ⟨#[]⟩, .string ⟨#[]⟩, .string ⟨#[]⟩, .string ⟨#[]⟩, .string ⟨#[]⟩, .string ⟨#[]⟩, .string ⟨#[]⟩, .string ⟨#[]⟩, .string ⟨#[]⟩, .string ⟨#[]⟩, .string ⟨#[]⟩, .string ⟨#[]⟩, .string ⟨#[]⟩, .string ⟨#[]⟩, .string ⟨#[]⟩, .string ⟨#[]⟩, .string ⟨#[]⟩, .string ⟨#[]⟩, .string ⟨#[]⟩, .string ⟨#[]⟩, .string ⟨#[]⟩, .string ⟨#[]⟩, .string ⟨#[]⟩, .string ⟨#[]⟩, .string ⟨#[]⟩, .string ⟨#[]⟩, .string ⟨#[]⟩, .string ⟨#[]⟩, .string ⟨#[]⟩, .string ⟨#[]⟩, .string ⟨#[]⟩, .string ⟨#[]⟩, .slice none 0 0, .int .i64 0]) 1056 := ⟨by kernel_rfl⟩
instance : TyU Tryz.prog 173 ((TypeDesc.pointer 231)) := ⟨Tryz.underlying173⟩
instance : TyI Tryz.prog 173 1 (.pointer none) 8 := ⟨by kernel_rfl⟩
instance : TyU Tryz.prog 175 ((TypeDesc.slice 9)) := ⟨Tryz.underlying175⟩
instance : TyI Tryz.prog 175 1 (.slice none 0 0) 24 := ⟨by kernel_rfl⟩
instance : TyI Tryz.prog 177 3 (.agg #[.pointer none, .slice none 0 0, .int .i64 0]) 40 := ⟨by kernel_rfl⟩
instance : TyU Tryz.prog 178 ((TypeDesc.pointer 180)) := ⟨Tryz.underlying178⟩
instance : TyI Tryz.prog 180 2 (.agg #[.int .i64 0, .int .i64 0]) 16 := ⟨by kernel_rfl⟩
instance : TyU Tryz.prog 182 ((TypeDesc.interface #[("sandglass/release.most", 193), ("sandglass/release.now", 193), ("sandglass/release.set", 66)])) := ⟨Tryz.underlying182⟩
instance : TyI Tryz.prog 182 1 (.nilIface) 16 := ⟨by kernel_rfl⟩
instance : TyI Tryz.prog 184 3 (.agg #[.int .i64 0, .int .i64 0, .nilIface]) 32 := ⟨by kernel_rfl⟩
instance : TyU Tryz.prog 185 ((TypeDesc.array 32 5)) := ⟨Tryz.underlying185⟩
instance : TyI Tryz.prog 185 32 (.agg #[.int .u8 0, .int .u8 0, .int .u8 0, .int .u8 0, .int .u8 0, .int .u8 0, .int .u8 0, .int .u8 0, .int .u8 0, .int .u8 0, .int .u8 0, .int .u8 0, .int .u8 0, .int .u8 0, .int .u8 0, .int .u8 0, .int .u8 0, .int .u8 0, .int .u8 0, .int .u8 0, .int .u8 0, .int .u8 0, .int .u8 0, .int .u8 0, .int .u8 0, .int .u8 0, .int .u8 0, .int .u8 0, .int .u8 0, .int .u8 0, .int .u8 0, .int .u8 0]) 32 := ⟨by kernel_rfl⟩
instance : TyU Tryz.prog 187 ((TypeDesc.func #[112,65] #[28] false)) := ⟨Tryz.underlying187⟩
instance : TyI Tryz.prog 191 3 (.agg #[.int .i64 0, .string ⟨#[]⟩, .int .u64 0]) 32 := ⟨by kernel_rfl⟩
instance : TyU Tryz.prog 198 ((TypeDesc.func #[85,85,4] #[4] false)) := ⟨Tryz.underlying198⟩
instance : TyU Tryz.prog 199 ((TypeDesc.tuple #[131,4])) := ⟨Tryz.underlying199⟩
instance : TyU Tryz.prog 200 ((TypeDesc.tuple #[3,4])) := ⟨Tryz.underlying200⟩
instance : TyU Tryz.prog 201 ((TypeDesc.func #[9] #[3,4] false)) := ⟨Tryz.underlying201⟩
instance : TyU Tryz.prog 202 ((TypeDesc.int IntKind.u32)) := ⟨Tryz.underlying202⟩
instance : TyI Tryz.prog 202 1 (.int .u32 0) 4 := ⟨by kernel_rfl⟩
instance : TyU Tryz.prog 203 ((TypeDesc.array 8 202)) := ⟨Tryz.underlying203⟩
instance : TyI Tryz.prog 203 8 (.agg #[.int .u32 0, .int .u32 0, .int .u32 0, .int .u32 0, .int .u32 0, .int .u32 0, .int .u32 0, .int .u32 0]) 32 := ⟨by kernel_rfl⟩
instance : TyU Tryz.prog 205 ((TypeDesc.struct #[{ name := "h", type := 203, offset := 0, embedded := false, tag := "", pkgPath := "sandglass/sha", byteOffset := 0 }, { name := "wait", type := 81, offset := 8, embedded := false, tag := "", pkgPath := "sandglass/sha", byteOffset := 32 }, { name := "n", type := 22, offset := 9, embedded := false, tag := "", pkgPath := "sandglass/sha", byteOffset := 56 }])) := ⟨Tryz.underlying205⟩
instance : TyI Tryz.prog 205 10 (.agg #[.int .u32 0, .int .u32 0, .int .u32 0, .int .u32 0, .int .u32 0, .int .u32 0, .int .u32 0, .int .u32 0, .slice none 0 0, .int .u64 0]) 64 := ⟨by kernel_rfl⟩
instance : TyU Tryz.prog 207 ((TypeDesc.struct #[{ name := "inner", type := 205, offset := 0, embedded := false, tag := "", pkgPath := "sandglass/hmac", byteOffset := 0 }, { name := "outer", type := 205, offset := 10, embedded := false, tag := "", pkgPath := "sandglass/hmac", byteOffset := 64 }])) := ⟨Tryz.underlying207⟩
instance : TyI Tryz.prog 207 20 (.agg #[.int .u32 0, .int .u32 0, .int .u32 0, .int .u32 0, .int .u32 0, .int .u32 0, .int .u32 0, .int .u32 0, .slice none 0 0, .int .u64 0, .int .u32 0, .int .u32 0, .int .u32 0, .int .u32 0, .int .u32 0, .int .u32 0, .int .u32 0, .int .u32 0, .slice none 0 0, .int .u64 0]) 128 := ⟨by kernel_rfl⟩
instance : TyU Tryz.prog 210 ((TypeDesc.func #[149,24] #[32] false)) := ⟨Tryz.underlying210⟩
instance : TyU Tryz.prog 211 ((TypeDesc.array 16 149)) := ⟨Tryz.underlying211⟩
def bz211 : List Value := (List.replicate 192 [.int .u64 0]).flatten
instance : TyI Tryz.prog 211 192 (.agg (bz211).toArray) 1536 := ⟨by kernel_rfl⟩
instance : TyU Tryz.prog 212 ((TypeDesc.func #[145,32] #[211] false)) := ⟨Tryz.underlying212⟩
instance : TyU Tryz.prog 217 ((TypeDesc.func #[149,149] #[149] false)) := ⟨Tryz.underlying217⟩
instance : TyU Tryz.prog 218 (TypeDesc.unsafePointer) := ⟨Tryz.underlying218⟩
instance : TyU Tryz.prog 220 ((TypeDesc.func #[9,9,202,9] #[9,28] false)) := ⟨Tryz.underlying220⟩
instance : TyU Tryz.prog 221 ((TypeDesc.func #[9,9,202] #[9,28] false)) := ⟨Tryz.underlying221⟩
instance : TyU Tryz.prog 222 ((TypeDesc.func #[9,9] #[9,28] false)) := ⟨Tryz.underlying222⟩
instance : TyU Tryz.prog 223 ((TypeDesc.func #[9] #[24,28] false)) := ⟨Tryz.underlying223⟩
instance : TyU Tryz.prog 224 ((TypeDesc.tuple #[24,4])) := ⟨Tryz.underlying224⟩
instance : TyU Tryz.prog 225 ((TypeDesc.func #[24] #[24,4] false)) := ⟨Tryz.underlying225⟩
instance : TyU Tryz.prog 227 ((TypeDesc.func #[26,46] #[32] false)) := ⟨Tryz.underlying227⟩
instance : TyU Tryz.prog 229 ((TypeDesc.func #[24,24] #[24,4] false)) := ⟨Tryz.underlying229⟩
instance : TyI Tryz.prog 231 2 (.agg #[.slice none 0 0, .int .i64 0]) 32 := ⟨by kernel_rfl⟩
instance : TyU Tryz.prog 232 ((TypeDesc.func #[170,233] #[170] false)) := ⟨Tryz.underlying232⟩
instance : TyU Tryz.prog 234 ((TypeDesc.func #[170,3,170] #[170] true)) := ⟨Tryz.underlying234⟩
instance : TyU Tryz.prog 237 ((TypeDesc.func #[202,9] #[202] false)) := ⟨Tryz.underlying237⟩
instance : TyU Tryz.prog 243 ((TypeDesc.tuple #[242,4])) := ⟨Tryz.underlying243⟩
instance : TyU Tryz.prog 250 ((TypeDesc.func #[170,9,252] #[3,4] false)) := ⟨Tryz.underlying250⟩
instance : TyU Tryz.prog 251 ((TypeDesc.func #[9,9] #[3] false)) := ⟨Tryz.underlying251⟩
instance : TyU Tryz.prog 252 ((TypeDesc.func #[135,9] #[3] false)) := ⟨Tryz.underlying252⟩
instance : TyU Tryz.prog 256 ((TypeDesc.func #[9,5] #[9] false)) := ⟨Tryz.underlying256⟩
instance : TyU Tryz.prog 257 ((TypeDesc.func #[24,4] #[24] false)) := ⟨Tryz.underlying257⟩
instance : TyU Tryz.prog 261 ((TypeDesc.array 16 202)) := ⟨Tryz.underlying261⟩
instance : TyI Tryz.prog 261 16 (.agg #[.int .u32 0, .int .u32 0, .int .u32 0, .int .u32 0, .int .u32 0, .int .u32 0, .int .u32 0, .int .u32 0, .int .u32 0, .int .u32 0, .int .u32 0, .int .u32 0, .int .u32 0, .int .u32 0, .int .u32 0, .int .u32 0]) 64 := ⟨by kernel_rfl⟩
instance : TyU Tryz.prog 262 ((TypeDesc.tuple #[261,28])) := ⟨Tryz.underlying262⟩
instance : TyU Tryz.prog 263 ((TypeDesc.func #[9,9,202] #[261,28] false)) := ⟨Tryz.underlying263⟩
instance : TyU Tryz.prog 264 ((TypeDesc.array 64 5)) := ⟨Tryz.underlying264⟩
instance : TyI Tryz.prog 264 64 (.agg #[.int .u8 0, .int .u8 0, .int .u8 0, .int .u8 0, .int .u8 0, .int .u8 0, .int .u8 0, .int .u8 0, .int .u8 0, .int .u8 0, .int .u8 0, .int .u8 0, .int .u8 0, .int .u8 0, .int .u8 0, .int .u8 0, .int .u8 0, .int .u8 0, .int .u8 0, .int .u8 0, .int .u8 0, .int .u8 0, .int .u8 0, .int .u8 0, .int .u8 0, .int .u8 0, .int .u8 0, .int .u8 0, .int .u8 0, .int .u8 0, .int .u8 0, .int .u8 0, .int .u8 0, .int .u8 0, .int .u8 0, .int .u8 0, .int .u8 0, .int .u8 0, .int .u8 0, .int .u8 0, .int .u8 0, .int .u8 0, .int .u8 0, .int .u8 0, .int .u8 0, .int .u8 0, .int .u8 0, .int .u8 0, .int .u8 0, .int .u8 0, .int .u8 0, .int .u8 0, .int .u8 0, .int .u8 0, .int .u8 0, .int .u8 0, .int .u8 0, .int .u8 0, .int .u8 0, .int .u8 0, .int .u8 0, .int .u8 0, .int .u8 0, .int .u8 0]) 64 := ⟨by kernel_rfl⟩
instance : TyU Tryz.prog 268 ((TypeDesc.tuple #[267,28])) := ⟨Tryz.underlying268⟩
instance : TyU Tryz.prog 269 ((TypeDesc.func #[9] #[267,28] false)) := ⟨Tryz.underlying269⟩
instance : TyU Tryz.prog 270 ((TypeDesc.array 8 5)) := ⟨Tryz.underlying270⟩
instance : TyI Tryz.prog 270 8 (.agg #[.int .u8 0, .int .u8 0, .int .u8 0, .int .u8 0, .int .u8 0, .int .u8 0, .int .u8 0, .int .u8 0]) 8 := ⟨by kernel_rfl⟩
instance : TyU Tryz.prog 271 ((TypeDesc.func #[143,24,3] #[24] false)) := ⟨Tryz.underlying271⟩
instance : TyU Tryz.prog 272 ((TypeDesc.array 6 22)) := ⟨Tryz.underlying272⟩
instance : TyI Tryz.prog 272 6 (.agg #[.int .u64 0, .int .u64 0, .int .u64 0, .int .u64 0, .int .u64 0, .int .u64 0]) 48 := ⟨by kernel_rfl⟩
instance : TyU Tryz.prog 273 ((TypeDesc.func #[272,22,24] #[272] false)) := ⟨Tryz.underlying273⟩
instance : TyU Tryz.prog 274 ((TypeDesc.slice 22)) := ⟨Tryz.underlying274⟩
instance : TyU Tryz.prog 275 ((TypeDesc.tuple #[22,22])) := ⟨Tryz.underlying275⟩
instance : TyU Tryz.prog 276 ((TypeDesc.func #[22,22,22] #[22,22] false)) := ⟨Tryz.underlying276⟩
instance : TyU Tryz.prog 277 ((TypeDesc.func #[170,233] #[3] false)) := ⟨Tryz.underlying277⟩
instance : TyU Tryz.prog 278 ((TypeDesc.func #[170,170] #[4] false)) := ⟨Tryz.underlying278⟩
instance : TyU Tryz.prog 279 ((TypeDesc.func #[170,3] #[] false)) := ⟨Tryz.underlying279⟩
instance : TyU Tryz.prog 280 ((TypeDesc.func #[22,3] #[4] false)) := ⟨Tryz.underlying280⟩
instance : TyU Tryz.prog 284 ((TypeDesc.func #[3,3,3,3] #[] false)) := ⟨Tryz.underlying284⟩
instance : TyU Tryz.prog 286 ((TypeDesc.array 2 22)) := ⟨Tryz.underlying286⟩
instance : TyI Tryz.prog 286 2 (.agg #[.int .u64 0, .int .u64 0]) 16 := ⟨by kernel_rfl⟩
instance : TyI Tryz.prog 288 7 (.agg #[.int .u64 0, .int .u64 0, .int .u64 0, .int .u64 0, .int .u64 0, .int .u64 0, .int .u64 0]) 56 := ⟨by kernel_rfl⟩
instance : TyU Tryz.prog 289 ((TypeDesc.array 17 5)) := ⟨Tryz.underlying289⟩
instance : TyI Tryz.prog 289 17 (.agg #[.int .u8 0, .int .u8 0, .int .u8 0, .int .u8 0, .int .u8 0, .int .u8 0, .int .u8 0, .int .u8 0, .int .u8 0, .int .u8 0, .int .u8 0, .int .u8 0, .int .u8 0, .int .u8 0, .int .u8 0, .int .u8 0, .int .u8 0]) 17 := ⟨by kernel_rfl⟩
instance : TyU Tryz.prog 290 ((TypeDesc.array 16 5)) := ⟨Tryz.underlying290⟩
instance : TyI Tryz.prog 290 16 (.agg #[.int .u8 0, .int .u8 0, .int .u8 0, .int .u8 0, .int .u8 0, .int .u8 0, .int .u8 0, .int .u8 0, .int .u8 0, .int .u8 0, .int .u8 0, .int .u8 0, .int .u8 0, .int .u8 0, .int .u8 0, .int .u8 0]) 16 := ⟨by kernel_rfl⟩
instance : TyU Tryz.prog 291 ((TypeDesc.func #[22,22] #[22,22] false)) := ⟨Tryz.underlying291⟩
instance : TyU Tryz.prog 292 ((TypeDesc.array 64 202)) := ⟨Tryz.underlying292⟩
instance : TyI Tryz.prog 292 64 (.agg #[.int .u32 0, .int .u32 0, .int .u32 0, .int .u32 0, .int .u32 0, .int .u32 0, .int .u32 0, .int .u32 0, .int .u32 0, .int .u32 0, .int .u32 0, .int .u32 0, .int .u32 0, .int .u32 0, .int .u32 0, .int .u32 0, .int .u32 0, .int .u32 0, .int .u32 0, .int .u32 0, .int .u32 0, .int .u32 0, .int .u32 0, .int .u32 0, .int .u32 0, .int .u32 0, .int .u32 0, .int .u32 0, .int .u32 0, .int .u32 0, .int .u32 0, .int .u32 0, .int .u32 0, .int .u32 0, .int .u32 0, .int .u32 0, .int .u32 0, .int .u32 0, .int .u32 0, .int .u32 0, .int .u32 0, .int .u32 0, .int .u32 0, .int .u32 0, .int .u32 0, .int .u32 0, .int .u32 0, .int .u32 0, .int .u32 0, .int .u32 0, .int .u32 0, .int .u32 0, .int .u32 0, .int .u32 0, .int .u32 0, .int .u32 0, .int .u32 0, .int .u32 0, .int .u32 0, .int .u32 0, .int .u32 0, .int .u32 0, .int .u32 0, .int .u32 0]) 256 := ⟨by kernel_rfl⟩
instance : TyU Tryz.prog 294 ((TypeDesc.func #[202,3] #[202] false)) := ⟨Tryz.underlying294⟩
instance : TyU Tryz.prog 298 ((TypeDesc.func #[22,22,22,22] #[22,22] false)) := ⟨Tryz.underlying298⟩
instance : TyU Tryz.prog 306 ((TypeDesc.func #[218,218] #[4] false)) := ⟨Tryz.underlying306⟩
instance : Places Tryz.prog 32 [(0, 4), (4, 4), (8, 1)] [.int .u64 0, .int .u64 0, .int .u64 0, .int .u64 0, .int .u64 0, .int .u64 0, .int .u64 0, .int .u64 0, .bool false] := .of Tryz.underlying32 inferInstance rfl (fun _ => by kernel_rfl)
instance : FldOff Tryz.prog 32 0 0 := .of Tryz.underlying32 (fd := { name := "X", type := 24, offset := 0, embedded := false, tag := "", pkgPath := "", byteOffset := 0 }) rfl inferInstance (by decide)
instance : FldOff Tryz.prog 32 1 4 := .of Tryz.underlying32 (fd := { name := "Y", type := 24, offset := 4, embedded := false, tag := "", pkgPath := "", byteOffset := 32 }) rfl inferInstance (by decide)
instance : FldOff Tryz.prog 32 2 8 := .of Tryz.underlying32 (fd := { name := "None", type := 4, offset := 8, embedded := false, tag := "", pkgPath := "", byteOffset := 64 }) rfl inferInstance (by decide)
instance : FldOff Tryz.prog 37 0 0 := .of Tryz.underlying37 (fd := { name := "N", type := 3, offset := 0, embedded := false, tag := "", pkgPath := "", byteOffset := 0 }) rfl inferInstance (by decide)
instance : FldOff Tryz.prog 37 1 1 := .of Tryz.underlying37 (fd := { name := "T", type := 3, offset := 1, embedded := false, tag := "", pkgPath := "", byteOffset := 8 }) rfl inferInstance (by decide)
instance : Places Tryz.prog 43 [(0, 1), (1, 1)] [.slice none 0 0, .slice none 0 0] := .of Tryz.underlying43 inferInstance rfl (fun _ => by kernel_rfl)
instance : FldOff Tryz.prog 43 0 0 := .of Tryz.underlying43 (fd := { name := "Commits", type := 41, offset := 0, embedded := false, tag := "", pkgPath := "", byteOffset := 0 }) rfl inferInstance (by decide)
instance : FldOff Tryz.prog 43 1 1 := .of Tryz.underlying43 (fd := { name := "Values", type := 38, offset := 1, embedded := false, tag := "", pkgPath := "", byteOffset := 24 }) rfl inferInstance (by decide)
instance : Places Tryz.prog 53 [(0, 1), (1, 4)] [.int .i64 0, .int .u64 0, .int .u64 0, .int .u64 0, .int .u64 0] := .of Tryz.underlying53 inferInstance rfl (fun _ => by kernel_rfl)
instance : FldOff Tryz.prog 53 0 0 := .of Tryz.underlying53 (fd := { name := "At", type := 3, offset := 0, embedded := false, tag := "", pkgPath := "", byteOffset := 0 }) rfl inferInstance (by decide)
instance : FldOff Tryz.prog 53 1 1 := .of Tryz.underlying53 (fd := { name := "V", type := 24, offset := 1, embedded := false, tag := "", pkgPath := "", byteOffset := 8 }) rfl inferInstance (by decide)
instance : Places Tryz.prog 65 [(0, 1), (1, 1), (2, 1), (3, 1)] [.int .i64 0, .int .i64 0, .string ⟨#[]⟩, .string ⟨#[]⟩] := .of Tryz.underlying65 inferInstance rfl (fun _ => by kernel_rfl)
instance : FldOff Tryz.prog 65 0 0 := .of Tryz.underlying65 (fd := { name := "Kind", type := 3, offset := 0, embedded := false, tag := "", pkgPath := "", byteOffset := 0 }) rfl inferInstance (by decide)
instance : FldOff Tryz.prog 65 1 1 := .of Tryz.underlying65 (fd := { name := "Epoch", type := 3, offset := 1, embedded := false, tag := "", pkgPath := "", byteOffset := 8 }) rfl inferInstance (by decide)
instance : FldOff Tryz.prog 65 2 2 := .of Tryz.underlying65 (fd := { name := "Name", type := 9, offset := 2, embedded := false, tag := "", pkgPath := "", byteOffset := 16 }) rfl inferInstance (by decide)
instance : FldOff Tryz.prog 65 3 3 := .of Tryz.underlying65 (fd := { name := "Body", type := 9, offset := 3, embedded := false, tag := "", pkgPath := "", byteOffset := 32 }) rfl inferInstance (by decide)
instance : Places Tryz.prog 76 [(0, 1), (1, 1)] [.string ⟨#[]⟩, .string ⟨#[]⟩] := .of Tryz.underlying76 inferInstance rfl (fun _ => by kernel_rfl)
instance : FldOff Tryz.prog 76 0 0 := .of Tryz.underlying76 (fd := { name := "Key", type := 9, offset := 0, embedded := false, tag := "", pkgPath := "", byteOffset := 0 }) rfl inferInstance (by decide)
instance : FldOff Tryz.prog 76 1 1 := .of Tryz.underlying76 (fd := { name := "Head", type := 9, offset := 1, embedded := false, tag := "", pkgPath := "", byteOffset := 16 }) rfl inferInstance (by decide)
instance : FldOff Tryz.prog 83 0 0 := .of Tryz.underlying83 (fd := { name := "addr", type := 80, offset := 0, embedded := false, tag := "", pkgPath := "strings", byteOffset := 0 }) rfl inferInstance (by decide)
instance : FldOff Tryz.prog 83 1 1 := .of Tryz.underlying83 (fd := { name := "buf", type := 81, offset := 1, embedded := false, tag := "", pkgPath := "strings", byteOffset := 8 }) rfl inferInstance (by decide)
instance : Places Tryz.prog 100 [(0, 1), (1, 1), (2, 1)] [.int .i64 0, .slice none 0 0, .slice none 0 0] := .of Tryz.underlying100 inferInstance rfl (fun _ => by kernel_rfl)
instance : FldOff Tryz.prog 100 0 0 := .of Tryz.underlying100 (fd := { name := "t", type := 3, offset := 0, embedded := false, tag := "", pkgPath := "sandglass/gather", byteOffset := 0 }) rfl inferInstance (by decide)
instance : FldOff Tryz.prog 100 1 1 := .of Tryz.underlying100 (fd := { name := "commits", type := 41, offset := 1, embedded := false, tag := "", pkgPath := "sandglass/gather", byteOffset := 8 }) rfl inferInstance (by decide)
instance : FldOff Tryz.prog 100 2 2 := .of Tryz.underlying100 (fd := { name := "kept", type := 98, offset := 2, embedded := false, tag := "", pkgPath := "sandglass/gather", byteOffset := 32 }) rfl inferInstance (by decide)
instance : Places Tryz.prog 122 [(0, 1), (1, 1), (2, 1), (3, 1), (4, 1), (5, 1), (6, 1), (7, 1)] [.int .i64 0, .int .i64 0, .slice none 0 0, .slice none 0 0, .pointer none, .pointer none, .pointer none, .slice none 0 0] := .of Tryz.underlying122 inferInstance rfl (fun _ => by kernel_rfl)
instance : FldOff Tryz.prog 122 0 0 := .of Tryz.underlying122 (fd := { name := "t", type := 3, offset := 0, embedded := false, tag := "", pkgPath := "sandglass/vault", byteOffset := 0 }) rfl inferInstance (by decide)
instance : FldOff Tryz.prog 122 1 1 := .of Tryz.underlying122 (fd := { name := "me", type := 3, offset := 1, embedded := false, tag := "", pkgPath := "sandglass/vault", byteOffset := 8 }) rfl inferInstance (by decide)
instance : FldOff Tryz.prog 122 2 2 := .of Tryz.underlying122 (fd := { name := "commits", type := 118, offset := 2, embedded := false, tag := "", pkgPath := "sandglass/vault", byteOffset := 16 }) rfl inferInstance (by decide)
instance : FldOff Tryz.prog 122 3 3 := .of Tryz.underlying122 (fd := { name := "mine", type := 119, offset := 3, embedded := false, tag := "", pkgPath := "sandglass/vault", byteOffset := 40 }) rfl inferInstance (by decide)
instance : FldOff Tryz.prog 122 4 4 := .of Tryz.underlying122 (fd := { name := "ledger", type := 112, offset := 4, embedded := false, tag := "", pkgPath := "sandglass/vault", byteOffset := 64 }) rfl inferInstance (by decide)
instance : FldOff Tryz.prog 122 5 5 := .of Tryz.underlying122 (fd := { name := "log", type := 114, offset := 5, embedded := false, tag := "", pkgPath := "sandglass/vault", byteOffset := 72 }) rfl inferInstance (by decide)
instance : FldOff Tryz.prog 122 6 6 := .of Tryz.underlying122 (fd := { name := "gate", type := 116, offset := 6, embedded := false, tag := "", pkgPath := "sandglass/vault", byteOffset := 80 }) rfl inferInstance (by decide)
instance : FldOff Tryz.prog 122 7 7 := .of Tryz.underlying122 (fd := { name := "gathers", type := 120, offset := 7, embedded := false, tag := "", pkgPath := "sandglass/vault", byteOffset := 88 }) rfl inferInstance (by decide)
instance : Places Tryz.prog 131 [(0, 1)] [.int .i64 0] := .of Tryz.underlying131 inferInstance rfl (fun _ => by kernel_rfl)
instance : Places Tryz.prog 135 [(0, 1), (1, 1), (2, 1)] [.int .i64 0, .string ⟨#[]⟩, .string ⟨#[]⟩] := .of Tryz.underlying135 inferInstance rfl (fun _ => by kernel_rfl)
instance : FldOff Tryz.prog 135 0 0 := .of Tryz.underlying135 (fd := { name := "Epoch", type := 3, offset := 0, embedded := false, tag := "", pkgPath := "", byteOffset := 0 }) rfl inferInstance (by decide)
instance : FldOff Tryz.prog 135 1 1 := .of Tryz.underlying135 (fd := { name := "Name", type := 9, offset := 1, embedded := false, tag := "", pkgPath := "", byteOffset := 8 }) rfl inferInstance (by decide)
instance : FldOff Tryz.prog 135 2 2 := .of Tryz.underlying135 (fd := { name := "Body", type := 9, offset := 2, embedded := false, tag := "", pkgPath := "", byteOffset := 24 }) rfl inferInstance (by decide)
instance : Places Tryz.prog 143 [(0, 4), (4, 1), (5, 4)] [.int .u64 0, .int .u64 0, .int .u64 0, .int .u64 0, .int .u64 0, .int .u64 0, .int .u64 0, .int .u64 0, .int .u64 0] := .of Tryz.underlying143 inferInstance rfl (fun _ => by kernel_rfl)
instance : FldOff Tryz.prog 143 0 0 := .of Tryz.underlying143 (fd := { name := "M", type := 24, offset := 0, embedded := false, tag := "", pkgPath := "", byteOffset := 0 }) rfl inferInstance (by decide)
instance : FldOff Tryz.prog 143 1 4 := .of Tryz.underlying143 (fd := { name := "N", type := 22, offset := 4, embedded := false, tag := "", pkgPath := "", byteOffset := 32 }) rfl inferInstance (by decide)
instance : FldOff Tryz.prog 143 2 5 := .of Tryz.underlying143 (fd := { name := "RR", type := 24, offset := 5, embedded := false, tag := "", pkgPath := "", byteOffset := 40 }) rfl inferInstance (by decide)
instance : Places Tryz.prog 145 [(0, 9), (9, 4)] [.int .u64 0, .int .u64 0, .int .u64 0, .int .u64 0, .int .u64 0, .int .u64 0, .int .u64 0, .int .u64 0, .int .u64 0, .int .u64 0, .int .u64 0, .int .u64 0, .int .u64 0] := .of Tryz.underlying145 inferInstance rfl (fun _ => by kernel_rfl)
instance : FldOff Tryz.prog 145 0 0 := .of Tryz.underlying145 (fd := { name := "m", type := 143, offset := 0, embedded := false, tag := "", pkgPath := "sandglass/jacobian", byteOffset := 0 }) rfl inferInstance (by decide)
instance : FldOff Tryz.prog 145 1 9 := .of Tryz.underlying145 (fd := { name := "one", type := 24, offset := 9, embedded := false, tag := "", pkgPath := "sandglass/jacobian", byteOffset := 72 }) rfl inferInstance (by decide)
instance : Places Tryz.prog 149 [(0, 4), (4, 4), (8, 4)] [.int .u64 0, .int .u64 0, .int .u64 0, .int .u64 0, .int .u64 0, .int .u64 0, .int .u64 0, .int .u64 0, .int .u64 0, .int .u64 0, .int .u64 0, .int .u64 0] := .of Tryz.underlying149 inferInstance rfl (fun _ => by kernel_rfl)
instance : FldOff Tryz.prog 149 0 0 := .of Tryz.underlying149 (fd := { name := "X", type := 24, offset := 0, embedded := false, tag := "", pkgPath := "", byteOffset := 0 }) rfl inferInstance (by decide)
instance : FldOff Tryz.prog 149 1 4 := .of Tryz.underlying149 (fd := { name := "Y", type := 24, offset := 4, embedded := false, tag := "", pkgPath := "", byteOffset := 32 }) rfl inferInstance (by decide)
instance : FldOff Tryz.prog 149 2 8 := .of Tryz.underlying149 (fd := { name := "Z", type := 24, offset := 8, embedded := false, tag := "", pkgPath := "", byteOffset := 64 }) rfl inferInstance (by decide)
instance : Places Tryz.prog 152 [(0, 1), (1, 1)] [.string ⟨#[]⟩, .string ⟨#[]⟩] := .of Tryz.underlying152 inferInstance rfl (fun _ => by kernel_rfl)
instance : FldOff Tryz.prog 152 0 0 := .of Tryz.underlying152 (fd := { name := "key", type := 9, offset := 0, embedded := false, tag := "", pkgPath := "sandglass/aead", byteOffset := 0 }) rfl inferInstance (by decide)
instance : FldOff Tryz.prog 152 1 1 := .of Tryz.underlying152 (fd := { name := "nonce", type := 9, offset := 1, embedded := false, tag := "", pkgPath := "sandglass/aead", byteOffset := 16 }) rfl inferInstance (by decide)
instance : Places Tryz.prog 172 [(0, 64), (64, 1), (65, 1)] [.string ⟨#[]⟩, .string ⟨#[]⟩, .string ⟨#[]⟩, .string ⟨#[]⟩, .string ⟨#[]⟩, .string ⟨#[]⟩, .string ⟨#[]⟩, .string ⟨#[]⟩, .string ⟨#[]⟩, .string ⟨#[]⟩, .string ⟨#[]⟩, .string ⟨#[]⟩, .string ⟨#[]⟩, .string ⟨#[]⟩, .string ⟨#[]⟩, .string ⟨#[]⟩, .string ⟨#[]⟩, .string ⟨#[]⟩, .string ⟨#[]⟩, .string ⟨#[]⟩, .string ⟨#[]⟩, .string ⟨#[]⟩, .string ⟨#[]⟩, .string ⟨#[]⟩, .string ⟨#[]⟩, .string ⟨#[]⟩, .string ⟨#[]⟩, .string ⟨#[]⟩, .string ⟨#[]⟩, .string ⟨#[]⟩, .string ⟨#[]⟩, .string ⟨#[]⟩, .string ⟨#[]⟩, .string ⟨#[]⟩, .string ⟨#[]⟩, .string ⟨#[]⟩, .string ⟨#[]⟩, .string ⟨#[]⟩, .string ⟨#[]⟩, .string ⟨#[]⟩, .string ⟨#[]⟩, .string ⟨#[]⟩, .string ⟨#[]⟩, .string ⟨#[]⟩, .string ⟨#[]⟩, .string ⟨#[]⟩, .string ⟨#[]⟩, .string ⟨#[]⟩, .string ⟨#[]⟩, .string ⟨#[]⟩, .string ⟨#[]⟩, .string ⟨#[]⟩, .string ⟨#[]⟩, .string ⟨#[]⟩, .string ⟨#[]⟩, .string ⟨#[]⟩, .string ⟨#[]⟩, .string ⟨#[]⟩, .string ⟨#[]⟩, .string ⟨#[]⟩, .string ⟨#[]⟩, .string ⟨#[]⟩, .string ⟨#[]⟩, .string ⟨#[]⟩, .slice none 0 0, .int .i64 0] := .of Tryz.underlying172 inferInstance rfl (fun _ => by kernel_rfl)
instance : FldOff Tryz.prog 172 0 0 := .of Tryz.underlying172 (fd := { name := "keys", type := 169, offset := 0, embedded := false, tag := "", pkgPath := "sandglass/ledger", byteOffset := 0 }) rfl inferInstance (by decide)
instance : FldOff Tryz.prog 172 1 64 := .of Tryz.underlying172 (fd := { name := "files", type := 170, offset := 64, embedded := false, tag := "", pkgPath := "sandglass/ledger", byteOffset := 1024 }) rfl inferInstance (by decide)
instance : FldOff Tryz.prog 172 2 65 := .of Tryz.underlying172 (fd := { name := "pruned", type := 3, offset := 65, embedded := false, tag := "", pkgPath := "sandglass/ledger", byteOffset := 1048 }) rfl inferInstance (by decide)
instance : Places Tryz.prog 177 [(0, 1), (1, 1), (2, 1)] [.pointer none, .slice none 0 0, .int .i64 0] := .of Tryz.underlying177 inferInstance rfl (fun _ => by kernel_rfl)
instance : FldOff Tryz.prog 177 0 0 := .of Tryz.underlying177 (fd := { name := "Disk", type := 173, offset := 0, embedded := true, tag := "", pkgPath := "", byteOffset := 0 }) rfl inferInstance (by decide)
instance : FldOff Tryz.prog 177 1 1 := .of Tryz.underlying177 (fd := { name := "all", type := 175, offset := 1, embedded := false, tag := "", pkgPath := "sandglass/wal", byteOffset := 8 }) rfl inferInstance (by decide)
instance : Places Tryz.prog 180 [(0, 1), (1, 1)] [.int .i64 0, .int .i64 0] := .of Tryz.underlying180 inferInstance rfl (fun _ => by kernel_rfl)
instance : FldOff Tryz.prog 180 0 0 := .of Tryz.underlying180 (fd := { name := "last", type := 3, offset := 0, embedded := false, tag := "", pkgPath := "sandglass/release", byteOffset := 0 }) rfl inferInstance (by decide)
instance : FldOff Tryz.prog 180 1 1 := .of Tryz.underlying180 (fd := { name := "greatest", type := 3, offset := 1, embedded := false, tag := "", pkgPath := "sandglass/release", byteOffset := 8 }) rfl inferInstance (by decide)
instance : Places Tryz.prog 184 [(0, 1), (1, 1), (2, 1)] [.int .i64 0, .int .i64 0, .nilIface] := .of Tryz.underlying184 inferInstance rfl (fun _ => by kernel_rfl)
instance : FldOff Tryz.prog 184 0 0 := .of Tryz.underlying184 (fd := { name := "begin", type := 3, offset := 0, embedded := false, tag := "", pkgPath := "sandglass/release", byteOffset := 0 }) rfl inferInstance (by decide)
instance : FldOff Tryz.prog 184 1 1 := .of Tryz.underlying184 (fd := { name := "each", type := 3, offset := 1, embedded := false, tag := "", pkgPath := "sandglass/release", byteOffset := 8 }) rfl inferInstance (by decide)
instance : FldOff Tryz.prog 184 2 2 := .of Tryz.underlying184 (fd := { name := "clock", type := 182, offset := 2, embedded := false, tag := "", pkgPath := "sandglass/release", byteOffset := 16 }) rfl inferInstance (by decide)
instance : Places Tryz.prog 191 [(0, 1), (1, 1), (2, 1)] [.int .i64 0, .string ⟨#[]⟩, .int .u64 0] := .of Tryz.underlying191 inferInstance rfl (fun _ => by kernel_rfl)
instance : FldOff Tryz.prog 191 0 0 := .of Tryz.underlying191 (fd := { name := "Kind", type := 3, offset := 0, embedded := false, tag := "", pkgPath := "", byteOffset := 0 }) rfl inferInstance (by decide)
instance : FldOff Tryz.prog 191 1 1 := .of Tryz.underlying191 (fd := { name := "Text", type := 9, offset := 1, embedded := false, tag := "", pkgPath := "", byteOffset := 8 }) rfl inferInstance (by decide)
instance : FldOff Tryz.prog 191 2 2 := .of Tryz.underlying191 (fd := { name := "Keep", type := 22, offset := 2, embedded := false, tag := "", pkgPath := "", byteOffset := 24 }) rfl inferInstance (by decide)
instance : Places Tryz.prog 205 [(0, 8), (8, 1), (9, 1)] [.int .u32 0, .int .u32 0, .int .u32 0, .int .u32 0, .int .u32 0, .int .u32 0, .int .u32 0, .int .u32 0, .slice none 0 0, .int .u64 0] := .of Tryz.underlying205 inferInstance rfl (fun _ => by kernel_rfl)
instance : FldOff Tryz.prog 205 0 0 := .of Tryz.underlying205 (fd := { name := "h", type := 203, offset := 0, embedded := false, tag := "", pkgPath := "sandglass/sha", byteOffset := 0 }) rfl inferInstance (by decide)
instance : FldOff Tryz.prog 205 1 8 := .of Tryz.underlying205 (fd := { name := "wait", type := 81, offset := 8, embedded := false, tag := "", pkgPath := "sandglass/sha", byteOffset := 32 }) rfl inferInstance (by decide)
instance : FldOff Tryz.prog 205 2 9 := .of Tryz.underlying205 (fd := { name := "n", type := 22, offset := 9, embedded := false, tag := "", pkgPath := "sandglass/sha", byteOffset := 56 }) rfl inferInstance (by decide)
instance : Places Tryz.prog 207 [(0, 10), (10, 10)] [.int .u32 0, .int .u32 0, .int .u32 0, .int .u32 0, .int .u32 0, .int .u32 0, .int .u32 0, .int .u32 0, .slice none 0 0, .int .u64 0, .int .u32 0, .int .u32 0, .int .u32 0, .int .u32 0, .int .u32 0, .int .u32 0, .int .u32 0, .int .u32 0, .slice none 0 0, .int .u64 0] := .of Tryz.underlying207 inferInstance rfl (fun _ => by kernel_rfl)
instance : FldOff Tryz.prog 207 0 0 := .of Tryz.underlying207 (fd := { name := "inner", type := 205, offset := 0, embedded := false, tag := "", pkgPath := "sandglass/hmac", byteOffset := 0 }) rfl inferInstance (by decide)
instance : FldOff Tryz.prog 207 1 10 := .of Tryz.underlying207 (fd := { name := "outer", type := 205, offset := 10, embedded := false, tag := "", pkgPath := "sandglass/hmac", byteOffset := 64 }) rfl inferInstance (by decide)
instance : Places Tryz.prog 231 [(0, 1), (1, 1)] [.slice none 0 0, .int .i64 0] := .of Tryz.underlying231 inferInstance rfl (fun _ => by kernel_rfl)
instance : FldOff Tryz.prog 231 0 0 := .of Tryz.underlying231 (fd := { name := "b", type := 81, offset := 0, embedded := false, tag := "", pkgPath := "sandglass/disk", byteOffset := 0 }) rfl inferInstance (by decide)
instance : FldOff Tryz.prog 231 1 1 := .of Tryz.underlying231 (fd := { name := "synced", type := 3, offset := 1, embedded := false, tag := "", pkgPath := "sandglass/disk", byteOffset := 24 }) rfl inferInstance (by decide)
instance : Places Tryz.prog 288 [(0, 1), (1, 1), (2, 1), (3, 2), (5, 2)] [.int .u64 0, .int .u64 0, .int .u64 0, .int .u64 0, .int .u64 0, .int .u64 0, .int .u64 0] := .of Tryz.underlying288 inferInstance rfl (fun _ => by kernel_rfl)
instance : FldOff Tryz.prog 288 0 0 := .of Tryz.underlying288 (fd := { name := "a", type := 22, offset := 0, embedded := false, tag := "", pkgPath := "sandglass/poly", byteOffset := 0 }) rfl inferInstance (by decide)
instance : FldOff Tryz.prog 288 1 1 := .of Tryz.underlying288 (fd := { name := "b", type := 22, offset := 1, embedded := false, tag := "", pkgPath := "sandglass/poly", byteOffset := 8 }) rfl inferInstance (by decide)
instance : FldOff Tryz.prog 288 2 2 := .of Tryz.underlying288 (fd := { name := "c", type := 22, offset := 2, embedded := false, tag := "", pkgPath := "sandglass/poly", byteOffset := 16 }) rfl inferInstance (by decide)
instance : FldOff Tryz.prog 288 3 3 := .of Tryz.underlying288 (fd := { name := "r", type := 286, offset := 3, embedded := false, tag := "", pkgPath := "sandglass/poly", byteOffset := 24 }) rfl inferInstance (by decide)
instance : FldOff Tryz.prog 288 4 5 := .of Tryz.underlying288 (fd := { name := "s", type := 286, offset := 5, embedded := false, tag := "", pkgPath := "sandglass/poly", byteOffset := 40 }) rfl inferInstance (by decide)
instance : HasFn Tryz.prog 5 := ⟨_, Tryz.func5, by kernel_rfl, by kernel_rfl⟩
instance : HasFn Tryz.prog 6 := ⟨_, Tryz.func6, by kernel_rfl, by kernel_rfl⟩
instance : HasFn Tryz.prog 7 := ⟨_, Tryz.func7, by kernel_rfl, by kernel_rfl⟩
instance : HasFn Tryz.prog 8 := ⟨_, Tryz.func8, by kernel_rfl, by kernel_rfl⟩
instance : HasFn Tryz.prog 9 := ⟨_, Tryz.func9, by kernel_rfl, by kernel_rfl⟩
instance : HasFn Tryz.prog 10 := ⟨_, Tryz.func10, by kernel_rfl, by kernel_rfl⟩
instance : HasFn Tryz.prog 11 := ⟨_, Tryz.func11, by kernel_rfl, by kernel_rfl⟩
instance : HasFn Tryz.prog 12 := ⟨_, Tryz.func12, by kernel_rfl, by kernel_rfl⟩
instance : HasFn Tryz.prog 13 := ⟨_, Tryz.func13, by kernel_rfl, by kernel_rfl⟩
instance : HasFn Tryz.prog 14 := ⟨_, Tryz.func14, by kernel_rfl, by kernel_rfl⟩
instance : HasFn Tryz.prog 15 := ⟨_, Tryz.func15, by kernel_rfl, by kernel_rfl⟩
instance : HasFn Tryz.prog 16 := ⟨_, Tryz.func16, by kernel_rfl, by kernel_rfl⟩
instance : HasFn Tryz.prog 17 := ⟨_, Tryz.func17, by kernel_rfl, by kernel_rfl⟩
instance : HasFn Tryz.prog 18 := ⟨_, Tryz.func18, by kernel_rfl, by kernel_rfl⟩
instance : HasFn Tryz.prog 19 := ⟨_, Tryz.func19, by kernel_rfl, by kernel_rfl⟩
instance : HasFn Tryz.prog 20 := ⟨_, Tryz.func20, by kernel_rfl, by kernel_rfl⟩
instance : HasFn Tryz.prog 21 := ⟨_, Tryz.func21, by kernel_rfl, by kernel_rfl⟩
instance : HasFn Tryz.prog 22 := ⟨_, Tryz.func22, by kernel_rfl, by kernel_rfl⟩
instance : HasFn Tryz.prog 23 := ⟨_, Tryz.func23, by kernel_rfl, by kernel_rfl⟩
instance : HasFn Tryz.prog 24 := ⟨_, Tryz.func24, by kernel_rfl, by kernel_rfl⟩
instance : HasFn Tryz.prog 25 := ⟨_, Tryz.func25, by kernel_rfl, by kernel_rfl⟩
instance : HasFn Tryz.prog 26 := ⟨_, Tryz.func26, by kernel_rfl, by kernel_rfl⟩
instance : HasFn Tryz.prog 27 := ⟨_, Tryz.func27, by kernel_rfl, by kernel_rfl⟩
instance : HasFn Tryz.prog 28 := ⟨_, Tryz.func28, by kernel_rfl, by kernel_rfl⟩
instance : HasFn Tryz.prog 29 := ⟨_, Tryz.func29, by kernel_rfl, by kernel_rfl⟩
instance : HasFn Tryz.prog 30 := ⟨_, Tryz.func30, by kernel_rfl, by kernel_rfl⟩
instance : HasFn Tryz.prog 31 := ⟨_, Tryz.func31, by kernel_rfl, by kernel_rfl⟩
instance : HasFn Tryz.prog 32 := ⟨_, Tryz.func32, by kernel_rfl, by kernel_rfl⟩
instance : HasFn Tryz.prog 33 := ⟨_, Tryz.func33, by kernel_rfl, by kernel_rfl⟩
instance : HasFn Tryz.prog 34 := ⟨_, Tryz.func34, by kernel_rfl, by kernel_rfl⟩
instance : HasFn Tryz.prog 35 := ⟨_, Tryz.func35, by kernel_rfl, by kernel_rfl⟩
instance : HasFn Tryz.prog 36 := ⟨_, Tryz.func36, by kernel_rfl, by kernel_rfl⟩
instance : HasFn Tryz.prog 37 := ⟨_, Tryz.func37, by kernel_rfl, by kernel_rfl⟩
instance : HasFn Tryz.prog 38 := ⟨_, Tryz.func38, by kernel_rfl, by kernel_rfl⟩
instance : HasFn Tryz.prog 39 := ⟨_, Tryz.func39, by kernel_rfl, by kernel_rfl⟩
instance : HasFn Tryz.prog 40 := ⟨_, Tryz.func40, by kernel_rfl, by kernel_rfl⟩
instance : HasFn Tryz.prog 41 := ⟨_, Tryz.func41, by kernel_rfl, by kernel_rfl⟩
instance : HasFn Tryz.prog 42 := ⟨_, Tryz.func42, by kernel_rfl, by kernel_rfl⟩
instance : HasFn Tryz.prog 43 := ⟨_, Tryz.func43, by kernel_rfl, by kernel_rfl⟩
instance : HasFn Tryz.prog 44 := ⟨_, Tryz.func44, by kernel_rfl, by kernel_rfl⟩
instance : HasFn Tryz.prog 45 := ⟨_, Tryz.func45, by kernel_rfl, by kernel_rfl⟩
instance : HasFn Tryz.prog 46 := ⟨_, Tryz.func46, by kernel_rfl, by kernel_rfl⟩
instance : HasFn Tryz.prog 47 := ⟨_, Tryz.func47, by kernel_rfl, by kernel_rfl⟩
instance : HasFn Tryz.prog 48 := ⟨_, Tryz.func48, by kernel_rfl, by kernel_rfl⟩
instance : HasFn Tryz.prog 49 := ⟨_, Tryz.func49, by kernel_rfl, by kernel_rfl⟩
instance : HasFn Tryz.prog 50 := ⟨_, Tryz.func50, by kernel_rfl, by kernel_rfl⟩
instance : HasFn Tryz.prog 51 := ⟨_, Tryz.func51, by kernel_rfl, by kernel_rfl⟩
instance : HasFn Tryz.prog 52 := ⟨_, Tryz.func52, by kernel_rfl, by kernel_rfl⟩
instance : HasFn Tryz.prog 53 := ⟨_, Tryz.func53, by kernel_rfl, by kernel_rfl⟩
instance : HasFn Tryz.prog 54 := ⟨_, Tryz.func54, by kernel_rfl, by kernel_rfl⟩
instance : HasFn Tryz.prog 55 := ⟨_, Tryz.func55, by kernel_rfl, by kernel_rfl⟩
instance : HasFn Tryz.prog 56 := ⟨_, Tryz.func56, by kernel_rfl, by kernel_rfl⟩
instance : HasFn Tryz.prog 57 := ⟨_, Tryz.func57, by kernel_rfl, by kernel_rfl⟩
instance : HasFn Tryz.prog 58 := ⟨_, Tryz.func58, by kernel_rfl, by kernel_rfl⟩
instance : HasFn Tryz.prog 59 := ⟨_, Tryz.func59, by kernel_rfl, by kernel_rfl⟩
instance : HasFn Tryz.prog 60 := ⟨_, Tryz.func60, by kernel_rfl, by kernel_rfl⟩
instance : HasFn Tryz.prog 61 := ⟨_, Tryz.func61, by kernel_rfl, by kernel_rfl⟩
instance : HasFn Tryz.prog 62 := ⟨_, Tryz.func62, by kernel_rfl, by kernel_rfl⟩
instance : HasFn Tryz.prog 63 := ⟨_, Tryz.func63, by kernel_rfl, by kernel_rfl⟩
instance : HasFn Tryz.prog 64 := ⟨_, Tryz.func64, by kernel_rfl, by kernel_rfl⟩
instance : HasFn Tryz.prog 65 := ⟨_, Tryz.func65, by kernel_rfl, by kernel_rfl⟩
instance : HasFn Tryz.prog 66 := ⟨_, Tryz.func66, by kernel_rfl, by kernel_rfl⟩
instance : HasFn Tryz.prog 67 := ⟨_, Tryz.func67, by kernel_rfl, by kernel_rfl⟩
instance : HasFn Tryz.prog 68 := ⟨_, Tryz.func68, by kernel_rfl, by kernel_rfl⟩
instance : HasFn Tryz.prog 70 := ⟨_, Tryz.func70, by kernel_rfl, by kernel_rfl⟩
instance : HasFn Tryz.prog 71 := ⟨_, Tryz.func71, by kernel_rfl, by kernel_rfl⟩
instance : HasFn Tryz.prog 72 := ⟨_, Tryz.func72, by kernel_rfl, by kernel_rfl⟩
instance : HasFn Tryz.prog 73 := ⟨_, Tryz.func73, by kernel_rfl, by kernel_rfl⟩
instance : HasFn Tryz.prog 74 := ⟨_, Tryz.func74, by kernel_rfl, by kernel_rfl⟩
instance : HasFn Tryz.prog 75 := ⟨_, Tryz.func75, by kernel_rfl, by kernel_rfl⟩
instance : HasFn Tryz.prog 76 := ⟨_, Tryz.func76, by kernel_rfl, by kernel_rfl⟩
instance : HasFn Tryz.prog 77 := ⟨_, Tryz.func77, by kernel_rfl, by kernel_rfl⟩
instance : HasFn Tryz.prog 78 := ⟨_, Tryz.func78, by kernel_rfl, by kernel_rfl⟩
instance : HasFn Tryz.prog 79 := ⟨_, Tryz.func79, by kernel_rfl, by kernel_rfl⟩
instance : HasFn Tryz.prog 80 := ⟨_, Tryz.func80, by kernel_rfl, by kernel_rfl⟩
instance : HasFn Tryz.prog 81 := ⟨_, Tryz.func81, by kernel_rfl, by kernel_rfl⟩
instance : HasFn Tryz.prog 82 := ⟨_, Tryz.func82, by kernel_rfl, by kernel_rfl⟩
instance : HasFn Tryz.prog 83 := ⟨_, Tryz.func83, by kernel_rfl, by kernel_rfl⟩
instance : HasFn Tryz.prog 84 := ⟨_, Tryz.func84, by kernel_rfl, by kernel_rfl⟩
instance : HasFn Tryz.prog 85 := ⟨_, Tryz.func85, by kernel_rfl, by kernel_rfl⟩
instance : HasFn Tryz.prog 86 := ⟨_, Tryz.func86, by kernel_rfl, by kernel_rfl⟩
instance : HasFn Tryz.prog 87 := ⟨_, Tryz.func87, by kernel_rfl, by kernel_rfl⟩
instance : HasFn Tryz.prog 88 := ⟨_, Tryz.func88, by kernel_rfl, by kernel_rfl⟩
instance : HasFn Tryz.prog 89 := ⟨_, Tryz.func89, by kernel_rfl, by kernel_rfl⟩
instance : HasFn Tryz.prog 90 := ⟨_, Tryz.func90, by kernel_rfl, by kernel_rfl⟩
instance : HasFn Tryz.prog 91 := ⟨_, Tryz.func91, by kernel_rfl, by kernel_rfl⟩
instance : HasFn Tryz.prog 92 := ⟨_, Tryz.func92, by kernel_rfl, by kernel_rfl⟩
instance : HasFn Tryz.prog 93 := ⟨_, Tryz.func93, by kernel_rfl, by kernel_rfl⟩
instance : HasFn Tryz.prog 94 := ⟨_, Tryz.func94, by kernel_rfl, by kernel_rfl⟩
instance : HasFn Tryz.prog 95 := ⟨_, Tryz.func95, by kernel_rfl, by kernel_rfl⟩
instance : HasFn Tryz.prog 96 := ⟨_, Tryz.func96, by kernel_rfl, by kernel_rfl⟩
instance : HasFn Tryz.prog 97 := ⟨_, Tryz.func97, by kernel_rfl, by kernel_rfl⟩
instance : HasFn Tryz.prog 98 := ⟨_, Tryz.func98, by kernel_rfl, by kernel_rfl⟩
instance : HasFn Tryz.prog 99 := ⟨_, Tryz.func99, by kernel_rfl, by kernel_rfl⟩
instance : HasFn Tryz.prog 100 := ⟨_, Tryz.func100, by kernel_rfl, by kernel_rfl⟩
instance : HasFn Tryz.prog 101 := ⟨_, Tryz.func101, by kernel_rfl, by kernel_rfl⟩
instance : HasFn Tryz.prog 102 := ⟨_, Tryz.func102, by kernel_rfl, by kernel_rfl⟩
instance : HasFn Tryz.prog 103 := ⟨_, Tryz.func103, by kernel_rfl, by kernel_rfl⟩
instance : HasFn Tryz.prog 104 := ⟨_, Tryz.func104, by kernel_rfl, by kernel_rfl⟩
instance : HasFn Tryz.prog 105 := ⟨_, Tryz.func105, by kernel_rfl, by kernel_rfl⟩
instance : HasFn Tryz.prog 106 := ⟨_, Tryz.func106, by kernel_rfl, by kernel_rfl⟩
instance : HasFn Tryz.prog 107 := ⟨_, Tryz.func107, by kernel_rfl, by kernel_rfl⟩
instance : HasFn Tryz.prog 109 := ⟨_, Tryz.func109, by kernel_rfl, by kernel_rfl⟩
instance : HasFn Tryz.prog 110 := ⟨_, Tryz.func110, by kernel_rfl, by kernel_rfl⟩
instance : HasFn Tryz.prog 111 := ⟨_, Tryz.func111, by kernel_rfl, by kernel_rfl⟩
instance : HasFn Tryz.prog 112 := ⟨_, Tryz.func112, by kernel_rfl, by kernel_rfl⟩
instance : HasFn Tryz.prog 113 := ⟨_, Tryz.func113, by kernel_rfl, by kernel_rfl⟩
instance : HasFn Tryz.prog 114 := ⟨_, Tryz.func114, by kernel_rfl, by kernel_rfl⟩
instance : HasFn Tryz.prog 116 := ⟨_, Tryz.func116, by kernel_rfl, by kernel_rfl⟩
instance : HasFn Tryz.prog 117 := ⟨_, Tryz.func117, by kernel_rfl, by kernel_rfl⟩
instance : HasFn Tryz.prog 120 := ⟨_, Tryz.func120, by kernel_rfl, by kernel_rfl⟩
instance : HasFn Tryz.prog 121 := ⟨_, Tryz.func121, by kernel_rfl, by kernel_rfl⟩
instance : HasFn Tryz.prog 122 := ⟨_, Tryz.func122, by kernel_rfl, by kernel_rfl⟩
instance : HasFn Tryz.prog 123 := ⟨_, Tryz.func123, by kernel_rfl, by kernel_rfl⟩
instance : HasFn Tryz.prog 124 := ⟨_, Tryz.func124, by kernel_rfl, by kernel_rfl⟩
instance : HasFn Tryz.prog 125 := ⟨_, Tryz.func125, by kernel_rfl, by kernel_rfl⟩
instance : HasFn Tryz.prog 126 := ⟨_, Tryz.func126, by kernel_rfl, by kernel_rfl⟩
instance : HasFn Tryz.prog 127 := ⟨_, Tryz.func127, by kernel_rfl, by kernel_rfl⟩
instance : HasFn Tryz.prog 128 := ⟨_, Tryz.func128, by kernel_rfl, by kernel_rfl⟩
instance : HasFn Tryz.prog 129 := ⟨_, Tryz.func129, by kernel_rfl, by kernel_rfl⟩
instance : HasFn Tryz.prog 130 := ⟨_, Tryz.func130, by kernel_rfl, by kernel_rfl⟩
instance : HasFn Tryz.prog 131 := ⟨_, Tryz.func131, by kernel_rfl, by kernel_rfl⟩
instance : HasFn Tryz.prog 132 := ⟨_, Tryz.func132, by kernel_rfl, by kernel_rfl⟩
instance : HasFn Tryz.prog 133 := ⟨_, Tryz.func133, by kernel_rfl, by kernel_rfl⟩
instance : HasFn Tryz.prog 134 := ⟨_, Tryz.func134, by kernel_rfl, by kernel_rfl⟩
instance : HasFn Tryz.prog 136 := ⟨_, Tryz.func136, by kernel_rfl, by kernel_rfl⟩
instance : HasFn Tryz.prog 137 := ⟨_, Tryz.func137, by kernel_rfl, by kernel_rfl⟩
instance : HasFn Tryz.prog 138 := ⟨_, Tryz.func138, by kernel_rfl, by kernel_rfl⟩
instance : HasFn Tryz.prog 139 := ⟨_, Tryz.func139, by kernel_rfl, by kernel_rfl⟩
instance : HasFn Tryz.prog 140 := ⟨_, Tryz.func140, by kernel_rfl, by kernel_rfl⟩
instance : HasFn Tryz.prog 141 := ⟨_, Tryz.func141, by kernel_rfl, by kernel_rfl⟩
instance : HasFn Tryz.prog 142 := ⟨_, Tryz.func142, by kernel_rfl, by kernel_rfl⟩
instance : HasFn Tryz.prog 143 := ⟨_, Tryz.func143, by kernel_rfl, by kernel_rfl⟩
instance : HasFn Tryz.prog 144 := ⟨_, Tryz.func144, by kernel_rfl, by kernel_rfl⟩
instance : HasFn Tryz.prog 145 := ⟨_, Tryz.func145, by kernel_rfl, by kernel_rfl⟩
instance : HasFn Tryz.prog 146 := ⟨_, Tryz.func146, by kernel_rfl, by kernel_rfl⟩
instance : HasFn Tryz.prog 147 := ⟨_, Tryz.func147, by kernel_rfl, by kernel_rfl⟩
instance : HasFn Tryz.prog 148 := ⟨_, Tryz.func148, by kernel_rfl, by kernel_rfl⟩
instance : HasFn Tryz.prog 149 := ⟨_, Tryz.func149, by kernel_rfl, by kernel_rfl⟩
instance : HasFn Tryz.prog 150 := ⟨_, Tryz.func150, by kernel_rfl, by kernel_rfl⟩
instance : HasFn Tryz.prog 151 := ⟨_, Tryz.func151, by kernel_rfl, by kernel_rfl⟩
instance : HasFn Tryz.prog 152 := ⟨_, Tryz.func152, by kernel_rfl, by kernel_rfl⟩
instance : HasFn Tryz.prog 153 := ⟨_, Tryz.func153, by kernel_rfl, by kernel_rfl⟩
instance : HasFn Tryz.prog 156 := ⟨_, Tryz.func156, by kernel_rfl, by kernel_rfl⟩
instance : HasFn Tryz.prog 157 := ⟨_, Tryz.func157, by kernel_rfl, by kernel_rfl⟩
instance : HasFn Tryz.prog 158 := ⟨_, Tryz.func158, by kernel_rfl, by kernel_rfl⟩
instance : HasFn Tryz.prog 159 := ⟨_, Tryz.func159, by kernel_rfl, by kernel_rfl⟩
instance : HasFn Tryz.prog 160 := ⟨_, Tryz.func160, by kernel_rfl, by kernel_rfl⟩
instance : HasFn Tryz.prog 161 := ⟨_, Tryz.func161, by kernel_rfl, by kernel_rfl⟩
instance : HasFn Tryz.prog 162 := ⟨_, Tryz.func162, by kernel_rfl, by kernel_rfl⟩
instance : HasFn Tryz.prog 163 := ⟨_, Tryz.func163, by kernel_rfl, by kernel_rfl⟩
instance : HasFn Tryz.prog 164 := ⟨_, Tryz.func164, by kernel_rfl, by kernel_rfl⟩
instance : HasFn Tryz.prog 165 := ⟨_, Tryz.func165, by kernel_rfl, by kernel_rfl⟩
instance : HasFn Tryz.prog 166 := ⟨_, Tryz.func166, by kernel_rfl, by kernel_rfl⟩
instance : HasFn Tryz.prog 167 := ⟨_, Tryz.func167, by kernel_rfl, by kernel_rfl⟩
instance : HasFn Tryz.prog 168 := ⟨_, Tryz.func168, by kernel_rfl, by kernel_rfl⟩
instance : HasFn Tryz.prog 169 := ⟨_, Tryz.func169, by kernel_rfl, by kernel_rfl⟩
instance : HasFn Tryz.prog 170 := ⟨_, Tryz.func170, by kernel_rfl, by kernel_rfl⟩
instance : HasFn Tryz.prog 171 := ⟨_, Tryz.func171, by kernel_rfl, by kernel_rfl⟩
instance : HasFn Tryz.prog 172 := ⟨_, Tryz.func172, by kernel_rfl, by kernel_rfl⟩
instance : HasFn Tryz.prog 173 := ⟨_, Tryz.func173, by kernel_rfl, by kernel_rfl⟩
instance : HasFn Tryz.prog 174 := ⟨_, Tryz.func174, by kernel_rfl, by kernel_rfl⟩
instance : HasFn Tryz.prog 175 := ⟨_, Tryz.func175, by kernel_rfl, by kernel_rfl⟩
instance : HasFn Tryz.prog 176 := ⟨_, Tryz.func176, by kernel_rfl, by kernel_rfl⟩
instance : HasFn Tryz.prog 177 := ⟨_, Tryz.func177, by kernel_rfl, by kernel_rfl⟩
instance : HasFn Tryz.prog 178 := ⟨_, Tryz.func178, by kernel_rfl, by kernel_rfl⟩
instance : HasFn Tryz.prog 179 := ⟨_, Tryz.func179, by kernel_rfl, by kernel_rfl⟩
instance : HasFn Tryz.prog 180 := ⟨_, Tryz.func180, by kernel_rfl, by kernel_rfl⟩
instance : HasFn Tryz.prog 181 := ⟨_, Tryz.func181, by kernel_rfl, by kernel_rfl⟩
instance : HasFn Tryz.prog 182 := ⟨_, Tryz.func182, by kernel_rfl, by kernel_rfl⟩
instance : HasFn Tryz.prog 183 := ⟨_, Tryz.func183, by kernel_rfl, by kernel_rfl⟩
instance : HasFn Tryz.prog 184 := ⟨_, Tryz.func184, by kernel_rfl, by kernel_rfl⟩
instance : HasFn Tryz.prog 185 := ⟨_, Tryz.func185, by kernel_rfl, by kernel_rfl⟩
instance : HasFn Tryz.prog 186 := ⟨_, Tryz.func186, by kernel_rfl, by kernel_rfl⟩
instance : HasFn Tryz.prog 187 := ⟨_, Tryz.func187, by kernel_rfl, by kernel_rfl⟩
instance : HasFn Tryz.prog 188 := ⟨_, Tryz.func188, by kernel_rfl, by kernel_rfl⟩
instance : HasFn Tryz.prog 194 := ⟨_, Tryz.func194, by kernel_rfl, by kernel_rfl⟩
instance : HasFn Tryz.prog 195 := ⟨_, Tryz.func195, by kernel_rfl, by kernel_rfl⟩
instance : HasFn Tryz.prog 196 := ⟨_, Tryz.func196, by kernel_rfl, by kernel_rfl⟩
instance : HasFn Tryz.prog 197 := ⟨_, Tryz.func197, by kernel_rfl, by kernel_rfl⟩
instance : HasFn Tryz.prog 198 := ⟨_, Tryz.func198, by kernel_rfl, by kernel_rfl⟩
instance : HasFn Tryz.prog 199 := ⟨_, Tryz.func199, by kernel_rfl, by kernel_rfl⟩
instance : HasFn Tryz.prog 200 := ⟨_, Tryz.func200, by kernel_rfl, by kernel_rfl⟩
instance : HasFn Tryz.prog 201 := ⟨_, Tryz.func201, by kernel_rfl, by kernel_rfl⟩
instance : HasFn Tryz.prog 202 := ⟨_, Tryz.func202, by kernel_rfl, by kernel_rfl⟩
instance : HasFn Tryz.prog 203 := ⟨_, Tryz.func203, by kernel_rfl, by kernel_rfl⟩
instance : HasFn Tryz.prog 206 := ⟨_, Tryz.func206, by kernel_rfl, by kernel_rfl⟩
instance : HasFn Tryz.prog 207 := ⟨_, Tryz.func207, by kernel_rfl, by kernel_rfl⟩
instance : HasFn Tryz.prog 208 := ⟨_, Tryz.func208, by kernel_rfl, by kernel_rfl⟩
instance : HasFn Tryz.prog 209 := ⟨_, Tryz.func209, by kernel_rfl, by kernel_rfl⟩
instance : HasFn Tryz.prog 210 := ⟨_, Tryz.func210, by kernel_rfl, by kernel_rfl⟩
instance : HasFn Tryz.prog 212 := ⟨_, Tryz.func212, by kernel_rfl, by kernel_rfl⟩
instance : HasFn Tryz.prog 237 := ⟨_, Tryz.func237, by kernel_rfl, by kernel_rfl⟩
instance : HasFn Tryz.prog 238 := ⟨_, Tryz.func238, by kernel_rfl, by kernel_rfl⟩
theorem Tryz.mixed : Tryz.prog.follows .mixedOrders = true := by kernel_rfl
end Go.Proofs
