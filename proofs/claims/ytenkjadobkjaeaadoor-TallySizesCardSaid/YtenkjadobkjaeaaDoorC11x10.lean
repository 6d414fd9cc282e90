/- Proved: Rows.TallySizesCardSaid, the statement TallySizes with its card, of the given program at the commit; no conditions beyond those in the statement. -/
import Derived.Test.YtenkjadobkjaeaaDoorC11x9
import Derived.Test.YtenkjadobkjaeaaDoorProg
set_option autoImplicit false
set_option linter.unusedVariables false
set_option maxRecDepth 100000
set_option maxHeartbeats 8000000
namespace Go.Proofs.YtenkjadobkjaeaaDoor.VT
open Go Go.V
def y1 : VTy := { desc := Go.TypeDesc.func #[] #[] false, size := 1, bytes := 8, zero := [VVal.nilFunc], flat := false }
theorem ok1 : TyOk Tryd.prog 1 y1 := .one' Tryd.underlying1 Tryd.type1 rfl rfl rfl rfl rfl rfl
def y2 : VTy := { desc := Go.TypeDesc.int Go.IntKind.i64, size := 1, bytes := 8, zero := [VVal.int .i64 0], flat := false }
theorem ok2 : TyOk Tryd.prog 2 y2 := .one' Tryd.underlying2 Tryd.type2 rfl rfl rfl rfl rfl rfl
def y3 : VTy := { desc := Go.TypeDesc.int Go.IntKind.i64, size := 1, bytes := 8, zero := [VVal.int .i64 0], flat := false }
theorem ok3 : TyOk Tryd.prog 3 y3 := .one' Tryd.underlying3 Tryd.type3 rfl rfl rfl rfl rfl rfl
def y4 : VTy := { desc := Go.TypeDesc.bool, size := 1, bytes := 1, zero := [VVal.bool false], flat := false }
theorem ok4 : TyOk Tryd.prog 4 y4 := .one' Tryd.underlying4 Tryd.type4 rfl rfl rfl rfl rfl rfl
def y5 : VTy := { desc := Go.TypeDesc.int Go.IntKind.u8, size := 1, bytes := 1, zero := [VVal.int .u8 0], flat := false }
theorem ok5 : TyOk Tryd.prog 5 y5 := .one' Tryd.underlying5 Tryd.type5 rfl rfl rfl rfl rfl rfl
def y6 : VTy := { desc := Go.TypeDesc.int Go.IntKind.u8, size := 1, bytes := 1, zero := [VVal.int .u8 0], flat := false }
theorem ok6 : TyOk Tryd.prog 6 y6 := .one' Tryd.underlying6 Tryd.type6 rfl rfl rfl rfl rfl rfl
def y8 : VTy := { desc := Go.TypeDesc.struct #[{ name := "x", type := 2, offset := 0, embedded := false, tag := "", pkgPath := "runtime", byteOffset := 0 }, { name := "y", type := 3, offset := 1, embedded := false, tag := "", pkgPath := "runtime", byteOffset := 8 }, { name := "signed", type := 4, offset := 2, embedded := false, tag := "", pkgPath := "runtime", byteOffset := 16 }, { name := "code", type := 6, offset := 3, embedded := false, tag := "", pkgPath := "runtime", byteOffset := 17 }], size := 4, bytes := 24, zero := [VVal.int .i64 0, VVal.int .i64 0, VVal.bool false, VVal.int .u8 0], flat := false }
theorem ok8 : TyOk Tryd.prog 8 y8 := .agg' Tryd.underlying8 Tryd.type8 rfl rfl rfl rfl rfl rfl
def y9 : VTy := { desc := Go.TypeDesc.string, size := 1, bytes := 16, zero := [VVal.str ByteArray.empty], flat := false }
theorem ok9 : TyOk Tryd.prog 9 y9 := .one' Tryd.underlying9 Tryd.type9 rfl rfl rfl rfl rfl rfl
def y20 : VTy := { desc := Go.TypeDesc.interface #[], size := 1, bytes := 16, zero := [VVal.nilIface], flat := false }
theorem ok20 : TyOk Tryd.prog 20 y20 := .one' Tryd.underlying20 Tryd.type20 rfl rfl rfl rfl rfl rfl
def y22 : VTy := { desc := Go.TypeDesc.slice 35, size := 1, bytes := 24, zero := [VVal.slice none 0 0 true 0], flat := false }
theorem ok22 : TyOk Tryd.prog 22 y22 := .one' Tryd.underlying22 Tryd.type22 rfl rfl rfl rfl rfl rfl
def y23 : VTy := { desc := Go.TypeDesc.slice 3, size := 1, bytes := 24, zero := [VVal.slice none 0 0 true 0], flat := false }
theorem ok23 : TyOk Tryd.prog 23 y23 := .one' Tryd.underlying23 Tryd.type23 rfl rfl rfl rfl rfl rfl
def y24 : VTy := { desc := Go.TypeDesc.slice 71, size := 1, bytes := 24, zero := [VVal.slice none 0 0 true 0], flat := false }
theorem ok24 : TyOk Tryd.prog 24 y24 := .one' Tryd.underlying24 Tryd.type24 rfl rfl rfl rfl rfl rfl
def y26 : VTy := { desc := Go.TypeDesc.struct #[{ name := "Users", type := 3, offset := 0, embedded := false, tag := "", pkgPath := "", byteOffset := 0 }, { name := "Who", type := 22, offset := 1, embedded := false, tag := "", pkgPath := "", byteOffset := 8 }, { name := "Fixed", type := 23, offset := 2, embedded := false, tag := "", pkgPath := "", byteOffset := 32 }, { name := "Rules", type := 24, offset := 3, embedded := false, tag := "", pkgPath := "", byteOffset := 56 }], size := 4, bytes := 80, zero := [VVal.int .i64 0, VVal.slice none 0 0 true 0, VVal.slice none 0 0 true 0, VVal.slice none 0 0 true 0], flat := false }
theorem ok26 : TyOk Tryd.prog 26 y26 := .agg' Tryd.underlying26 Tryd.type26 rfl rfl rfl rfl rfl rfl
def y31 : VTy := { desc := Go.TypeDesc.int Go.IntKind.i64, size := 1, bytes := 8, zero := [VVal.int .i64 0], flat := false }
theorem ok31 : TyOk Tryd.prog 31 y31 := .one' Tryd.underlying31 Tryd.type31 rfl rfl rfl rfl rfl rfl
def y35 : VTy := { desc := Go.TypeDesc.int Go.IntKind.u64, size := 1, bytes := 8, zero := [VVal.int .u64 0], flat := false }
theorem ok35 : TyOk Tryd.prog 35 y35 := .one' Tryd.underlying35 Tryd.type35 rfl rfl rfl rfl rfl rfl
def y46 : VTy := { desc := Go.TypeDesc.struct #[{ name := "Nodes", type := 35, offset := 0, embedded := false, tag := "", pkgPath := "", byteOffset := 0 }, { name := "Pairs", type := 35, offset := 1, embedded := false, tag := "", pkgPath := "", byteOffset := 8 }, { name := "Edges", type := 35, offset := 2, embedded := false, tag := "", pkgPath := "", byteOffset := 16 }], size := 3, bytes := 24, zero := [VVal.int .u64 0, VVal.int .u64 0, VVal.int .u64 0], flat := true }
theorem ok46 : TyOk Tryd.prog 46 y46 := .str' Tryd.underlying46 Tryd.type46 rfl rfl rfl rfl rfl rfl XH7 XH7 (fun i f h => match i, f, h with | 0, _, h => by simp at h; subst h; exact ⟨by decide, rfl, _, Tryd.underlying35⟩ | 1, _, h => by simp at h; subst h; exact ⟨by decide, rfl, _, Tryd.underlying35⟩ | 2, _, h => by simp at h; subst h; exact ⟨by decide, rfl, _, Tryd.underlying35⟩ | n + 3, _, h => by simp at h) XH7
def y66 : VTy := { desc := Go.TypeDesc.func #[84] #[] false, size := 1, bytes := 8, zero := [VVal.nilFunc], flat := false }
theorem ok66 : TyOk Tryd.prog 66 y66 := .one' Tryd.underlying66 Tryd.type66 rfl rfl rfl rfl rfl rfl
def y67 : VTy := { desc := Go.TypeDesc.func #[84] #[] false, size := 1, bytes := 8, zero := [VVal.nilFunc], flat := false }
theorem ok67 : TyOk Tryd.prog 67 y67 := .one' Tryd.underlying67 Tryd.type67 rfl rfl rfl rfl rfl rfl
def y71 : VTy := { desc := Go.TypeDesc.struct #[{ name := "Kind", type := 3, offset := 0, embedded := false, tag := "", pkgPath := "", byteOffset := 0 }, { name := "K", type := 3, offset := 1, embedded := false, tag := "", pkgPath := "", byteOffset := 8 }, { name := "Steps", type := 23, offset := 2, embedded := false, tag := "", pkgPath := "", byteOffset := 16 }], size := 3, bytes := 40, zero := [VVal.int .i64 0, VVal.int .i64 0, VVal.slice none 0 0 true 0], flat := false }
theorem ok71 : TyOk Tryd.prog 71 y71 := .agg' Tryd.underlying71 Tryd.type71 rfl rfl rfl rfl rfl rfl
def y75 : VTy := { desc := Go.TypeDesc.struct #[{ name := "word", type := 35, offset := 0, embedded := false, tag := "", pkgPath := "provost/bits", byteOffset := 0 }], size := 1, bytes := 8, zero := [VVal.int .u64 0], flat := true }
theorem ok75 : TyOk Tryd.prog 75 y75 := .str' Tryd.underlying75 Tryd.type75 rfl rfl rfl rfl rfl rfl XH7 XH7 (fun i f h => match i, f, h with | 0, _, h => by simp at h; subst h; exact ⟨by decide, rfl, _, Tryd.underlying35⟩ | n + 1, _, h => by simp at h) XH7
def y79 : VTy := { desc := Go.TypeDesc.pointer 113, size := 1, bytes := 8, zero := [VVal.ptr none], flat := false }
theorem ok79 : TyOk Tryd.prog 79 y79 := .one' Tryd.underlying79 Tryd.type79 rfl rfl rfl rfl rfl rfl
def y81 : VTy := { desc := Go.TypeDesc.pointer 46, size := 1, bytes := 8, zero := [VVal.ptr none], flat := false }
theorem ok81 : TyOk Tryd.prog 81 y81 := .one' Tryd.underlying81 Tryd.type81 rfl rfl rfl rfl rfl rfl
def y82 : VTy := { desc := Go.TypeDesc.slice 23, size := 1, bytes := 24, zero := [VVal.slice none 0 0 true 0], flat := false }
theorem ok82 : TyOk Tryd.prog 82 y82 := .one' Tryd.underlying82 Tryd.type82 rfl rfl rfl rfl rfl rfl
def y84 : VTy := { desc := Go.TypeDesc.func #[23] #[4] false, size := 1, bytes := 8, zero := [VVal.nilFunc], flat := false }
theorem ok84 : TyOk Tryd.prog 84 y84 := .one' Tryd.underlying84 Tryd.type84 rfl rfl rfl rfl rfl rfl
def y88 : VTy := { desc := Go.TypeDesc.func #[122] #[] false, size := 1, bytes := 8, zero := [VVal.nilFunc], flat := false }
theorem ok88 : TyOk Tryd.prog 88 y88 := .one' Tryd.underlying88 Tryd.type88 rfl rfl rfl rfl rfl rfl
def y89 : VTy := { desc := Go.TypeDesc.func #[122] #[] false, size := 1, bytes := 8, zero := [VVal.nilFunc], flat := false }
theorem ok89 : TyOk Tryd.prog 89 y89 := .one' Tryd.underlying89 Tryd.type89 rfl rfl rfl rfl rfl rfl
def y105 : VTy := { desc := Go.TypeDesc.func #[3] #[4] false, size := 1, bytes := 8, zero := [VVal.nilFunc], flat := false }
theorem ok105 : TyOk Tryd.prog 105 y105 := .one' Tryd.underlying105 Tryd.type105 rfl rfl rfl rfl rfl rfl
def y111 : VTy := { desc := Go.TypeDesc.slice 24, size := 1, bytes := 24, zero := [VVal.slice none 0 0 true 0], flat := false }
theorem ok111 : TyOk Tryd.prog 111 y111 := .one' Tryd.underlying111 Tryd.type111 rfl rfl rfl rfl rfl rfl
def y113 : VTy := { desc := Go.TypeDesc.struct #[{ name := "users", type := 3, offset := 0, embedded := false, tag := "", pkgPath := "provost/hunt", byteOffset := 0 }, { name := "words", type := 22, offset := 1, embedded := false, tag := "", pkgPath := "provost/hunt", byteOffset := 8 }, { name := "rules", type := 111, offset := 2, embedded := false, tag := "", pkgPath := "provost/hunt", byteOffset := 32 }, { name := "gauge", type := 81, offset := 3, embedded := false, tag := "", pkgPath := "provost/hunt", byteOffset := 56 }], size := 4, bytes := 64, zero := [VVal.int .i64 0, VVal.slice none 0 0 true 0, VVal.slice none 0 0 true 0, VVal.ptr none], flat := false }
theorem ok113 : TyOk Tryd.prog 113 y113 := .agg' Tryd.underlying113 Tryd.type113 rfl rfl rfl rfl rfl rfl
def y122 : VTy := { desc := Go.TypeDesc.func #[23, 22] #[4] false, size := 1, bytes := 8, zero := [VVal.nilFunc], flat := false }
theorem ok122 : TyOk Tryd.prog 122 y122 := .one' Tryd.underlying122 Tryd.type122 rfl rfl rfl rfl rfl rfl
def y127 : VTy := { desc := Go.TypeDesc.func #[105] #[] false, size := 1, bytes := 8, zero := [VVal.nilFunc], flat := false }
theorem ok127 : TyOk Tryd.prog 127 y127 := .one' Tryd.underlying127 Tryd.type127 rfl rfl rfl rfl rfl rfl
def y128 : VTy := { desc := Go.TypeDesc.func #[105] #[] false, size := 1, bytes := 8, zero := [VVal.nilFunc], flat := false }
theorem ok128 : TyOk Tryd.prog 128 y128 := .one' Tryd.underlying128 Tryd.type128 rfl rfl rfl rfl rfl rfl
def y135 : VTy := { desc := Go.TypeDesc.map 3 3, size := 1, bytes := 8, zero := [VVal.map none], flat := false }
theorem ok135 : TyOk Tryd.prog 135 y135 := .one' Tryd.underlying135 Tryd.type135 rfl rfl rfl rfl rfl rfl
def y137 : VTy := { desc := Go.TypeDesc.int Go.IntKind.u64, size := 1, bytes := 8, zero := [VVal.int .u64 0], flat := false }
theorem ok137 : TyOk Tryd.prog 137 y137 := .one' Tryd.underlying137 Tryd.type137 rfl rfl rfl rfl rfl rfl
def y138 : VTy := { desc := Go.TypeDesc.pointer 141, size := 1, bytes := 8, zero := [VVal.ptr none], flat := false }
theorem ok138 : TyOk Tryd.prog 138 y138 := .one' Tryd.underlying138 Tryd.type138 rfl rfl rfl rfl rfl rfl
def y139 : VTy := { desc := Go.TypeDesc.array 64 3, size := 64, bytes := 512, zero := [VVal.int .i64 0, VVal.int .i64 0, VVal.int .i64 0, VVal.int .i64 0, VVal.int .i64 0, VVal.int .i64 0, VVal.int .i64 0, VVal.int .i64 0, VVal.int .i64 0, VVal.int .i64 0, VVal.int .i64 0, VVal.int .i64 0, VVal.int .i64 0, VVal.int .i64 0, VVal.int .i64 0, VVal.int .i64 0, VVal.int .i64 0, VVal.int .i64 0, VVal.int .i64 0, VVal.int .i64 0, VVal.int .i64 0, VVal.int .i64 0, VVal.int .i64 0, VVal.int .i64 0, VVal.int .i64 0, VVal.int .i64 0, VVal.int .i64 0, VVal.int .i64 0, VVal.int .i64 0, VVal.int .i64 0, VVal.int .i64 0, VVal.int .i64 0, VVal.int .i64 0, VVal.int .i64 0, VVal.int .i64 0, VVal.int .i64 0, VVal.int .i64 0, VVal.int .i64 0, VVal.int .i64 0, VVal.int .i64 0, VVal.int .i64 0, VVal.int .i64 0, VVal.int .i64 0, VVal.int .i64 0, VVal.int .i64 0, VVal.int .i64 0, VVal.int .i64 0, VVal.int .i64 0, VVal.int .i64 0, VVal.int .i64 0, VVal.int .i64 0, VVal.int .i64 0, VVal.int .i64 0, VVal.int .i64 0, VVal.int .i64 0, VVal.int .i64 0, VVal.int .i64 0, VVal.int .i64 0, VVal.int .i64 0, VVal.int .i64 0, VVal.int .i64 0, VVal.int .i64 0, VVal.int .i64 0, VVal.int .i64 0], flat := true }
theorem ok139 : TyOk Tryd.prog 139 y139 := .arr' Tryd.underlying139 Tryd.type139 rfl rfl rfl rfl rfl rfl Tryd.underlying3 Tryd.type3 rfl XH7
def y141 : VTy := { desc := Go.TypeDesc.struct #[{ name := "rows", type := 22, offset := 0, embedded := false, tag := "", pkgPath := "provost/hunt", byteOffset := 0 }, { name := "owner", type := 139, offset := 1, embedded := false, tag := "", pkgPath := "provost/hunt", byteOffset := 24 }, { name := "gauge", type := 81, offset := 65, embedded := false, tag := "", pkgPath := "provost/hunt", byteOffset := 536 }], size := 66, bytes := 544, zero := [VVal.slice none 0 0 true 0, VVal.int .i64 0, VVal.int .i64 0, VVal.int .i64 0, VVal.int .i64 0, VVal.int .i64 0, VVal.int .i64 0, VVal.int .i64 0, VVal.int .i64 0, VVal.int .i64 0, VVal.int .i64 0, VVal.int .i64 0, VVal.int .i64 0, VVal.int .i64 0, VVal.int .i64 0, VVal.int .i64 0, VVal.int .i64 0, VVal.int .i64 0, VVal.int .i64 0, VVal.int .i64 0, VVal.int .i64 0, VVal.int .i64 0, VVal.int .i64 0, VVal.int .i64 0, VVal.int .i64 0, VVal.int .i64 0, VVal.int .i64 0, VVal.int .i64 0, VVal.int .i64 0, VVal.int .i64 0, VVal.int .i64 0, VVal.int .i64 0, VVal.int .i64 0, VVal.int .i64 0, VVal.int .i64 0, VVal.int .i64 0, VVal.int .i64 0, VVal.int .i64 0, VVal.int .i64 0, VVal.int .i64 0, VVal.int .i64 0, VVal.int .i64 0, VVal.int .i64 0, VVal.int .i64 0, VVal.int .i64 0, VVal.int .i64 0, VVal.int .i64 0, VVal.int .i64 0, VVal.int .i64 0, VVal.int .i64 0, VVal.int .i64 0, VVal.int .i64 0, VVal.int .i64 0, VVal.int .i64 0, VVal.int .i64 0, VVal.int .i64 0, VVal.int .i64 0, VVal.int .i64 0, VVal.int .i64 0, VVal.int .i64 0, VVal.int .i64 0, VVal.int .i64 0, VVal.int .i64 0, VVal.int .i64 0, VVal.int .i64 0, VVal.ptr none], flat := false }
theorem ok141 : TyOk Tryd.prog 141 y141 := .agg' Tryd.underlying141 Tryd.type141 rfl rfl rfl rfl rfl rfl
def y143 : VTy := { desc := Go.TypeDesc.pointer 35, size := 1, bytes := 8, zero := [VVal.ptr none], flat := false }
theorem ok143 : TyOk Tryd.prog 143 y143 := .one' Tryd.underlying143 Tryd.type143 rfl rfl rfl rfl rfl rfl
def y151 : VTy := { desc := Go.TypeDesc.func #[153, 3] #[4] false, size := 1, bytes := 8, zero := [VVal.nilFunc], flat := false }
theorem ok151 : TyOk Tryd.prog 151 y151 := .one' Tryd.underlying151 Tryd.type151 rfl rfl rfl rfl rfl rfl
def y153 : VTy := { desc := Go.TypeDesc.struct #[{ name := "most", type := 3, offset := 0, embedded := false, tag := "", pkgPath := "provost/rule", byteOffset := 0 }, { name := "unlike", type := 3, offset := 1, embedded := false, tag := "", pkgPath := "provost/rule", byteOffset := 8 }, { name := "left", type := 3, offset := 2, embedded := false, tag := "", pkgPath := "provost/rule", byteOffset := 16 }], size := 3, bytes := 24, zero := [VVal.int .i64 0, VVal.int .i64 0, VVal.int .i64 0], flat := true }
theorem ok153 : TyOk Tryd.prog 153 y153 := .str' Tryd.underlying153 Tryd.type153 rfl rfl rfl rfl rfl rfl XH7 XH7 (fun i f h => match i, f, h with | 0, _, h => by simp at h; subst h; exact ⟨by decide, rfl, _, Tryd.underlying3⟩ | 1, _, h => by simp at h; subst h; exact ⟨by decide, rfl, _, Tryd.underlying3⟩ | 2, _, h => by simp at h; subst h; exact ⟨by decide, rfl, _, Tryd.underlying3⟩ | n + 3, _, h => by simp at h) XH7
def y154 : VTy := { desc := Go.TypeDesc.array 6 151, size := 6, bytes := 48, zero := [VVal.nilFunc, VVal.nilFunc, VVal.nilFunc, VVal.nilFunc, VVal.nilFunc, VVal.nilFunc], flat := false }
theorem ok154 : TyOk Tryd.prog 154 y154 := .agg' Tryd.underlying154 Tryd.type154 rfl rfl rfl rfl rfl rfl
def y157 : VTy := { desc := Go.TypeDesc.pointer 159, size := 1, bytes := 8, zero := [VVal.ptr none], flat := false }
theorem ok157 : TyOk Tryd.prog 157 y157 := .one' Tryd.underlying157 Tryd.type157 rfl rfl rfl rfl rfl rfl
def y159 : VTy := { desc := Go.TypeDesc.struct #[{ name := "rows", type := 22, offset := 0, embedded := false, tag := "", pkgPath := "provost/match", byteOffset := 0 }, { name := "owner", type := 139, offset := 1, embedded := false, tag := "", pkgPath := "provost/match", byteOffset := 24 }], size := 65, bytes := 536, zero := [VVal.slice none 0 0 true 0, VVal.int .i64 0, VVal.int .i64 0, VVal.int .i64 0, VVal.int .i64 0, VVal.int .i64 0, VVal.int .i64 0, VVal.int .i64 0, VVal.int .i64 0, VVal.int .i64 0, VVal.int .i64 0, VVal.int .i64 0, VVal.int .i64 0, VVal.int .i64 0, VVal.int .i64 0, VVal.int .i64 0, VVal.int .i64 0, VVal.int .i64 0, VVal.int .i64 0, VVal.int .i64 0, VVal.int .i64 0, VVal.int .i64 0, VVal.int .i64 0, VVal.int .i64 0, VVal.int .i64 0, VVal.int .i64 0, VVal.int .i64 0, VVal.int .i64 0, VVal.int .i64 0, VVal.int .i64 0, VVal.int .i64 0, VVal.int .i64 0, VVal.int .i64 0, VVal.int .i64 0, VVal.int .i64 0, VVal.int .i64 0, VVal.int .i64 0, VVal.int .i64 0, VVal.int .i64 0, VVal.int .i64 0, VVal.int .i64 0, VVal.int .i64 0, VVal.int .i64 0, VVal.int .i64 0, VVal.int .i64 0, VVal.int .i64 0, VVal.int .i64 0, VVal.int .i64 0, VVal.int .i64 0, VVal.int .i64 0, VVal.int .i64 0, VVal.int .i64 0, VVal.int .i64 0, VVal.int .i64 0, VVal.int .i64 0, VVal.int .i64 0, VVal.int .i64 0, VVal.int .i64 0, VVal.int .i64 0, VVal.int .i64 0, VVal.int .i64 0, VVal.int .i64 0, VVal.int .i64 0, VVal.int .i64 0, VVal.int .i64 0], flat := false }
theorem ok159 : TyOk Tryd.prog 159 y159 := .agg' Tryd.underlying159 Tryd.type159 rfl rfl rfl rfl rfl rfl
def y162 : VTy := { desc := Go.TypeDesc.array 64 5, size := 64, bytes := 64, zero := [VVal.int .u8 0, VVal.int .u8 0, VVal.int .u8 0, VVal.int .u8 0, VVal.int .u8 0, VVal.int .u8 0, VVal.int .u8 0, VVal.int .u8 0, VVal.int .u8 0, VVal.int .u8 0, VVal.int .u8 0, VVal.int .u8 0, VVal.int .u8 0, VVal.int .u8 0, VVal.int .u8 0, VVal.int .u8 0, VVal.int .u8 0, VVal.int .u8 0, VVal.int .u8 0, VVal.int .u8 0, VVal.int .u8 0, VVal.int .u8 0, VVal.int .u8 0, VVal.int .u8 0, VVal.int .u8 0, VVal.int .u8 0, VVal.int .u8 0, VVal.int .u8 0, VVal.int .u8 0, VVal.int .u8 0, VVal.int .u8 0, VVal.int .u8 0, VVal.int .u8 0, VVal.int .u8 0, VVal.int .u8 0, VVal.int .u8 0, VVal.int .u8 0, VVal.int .u8 0, VVal.int .u8 0, VVal.int .u8 0, VVal.int .u8 0, VVal.int .u8 0, VVal.int .u8 0, VVal.int .u8 0, VVal.int .u8 0, VVal.int .u8 0, VVal.int .u8 0, VVal.int .u8 0, VVal.int .u8 0, VVal.int .u8 0, VVal.int .u8 0, VVal.int .u8 0, VVal.int .u8 0, VVal.int .u8 0, VVal.int .u8 0, VVal.int .u8 0, VVal.int .u8 0, VVal.int .u8 0, VVal.int .u8 0, VVal.int .u8 0, VVal.int .u8 0, VVal.int .u8 0, VVal.int .u8 0, VVal.int .u8 0], flat := true }
theorem ok162 : TyOk Tryd.prog 162 y162 := .arr' Tryd.underlying162 Tryd.type162 rfl rfl rfl rfl rfl rfl Tryd.underlying5 Tryd.type5 rfl XH7
def tys : TypeId → Option VTy := fun t => match t with
  | 1 => some y1
  | 2 => some y2
  | 3 => some y3
  | 4 => some y4
  | 5 => some y5
  | 6 => some y6
  | 8 => some y8
  | 9 => some y9
  | 20 => some y20
  | 22 => some y22
  | 23 => some y23
  | 24 => some y24
  | 26 => some y26
  | 31 => some y31
  | 35 => some y35
  | 46 => some y46
  | 66 => some y66
  | 67 => some y67
  | 71 => some y71
  | 75 => some y75
  | 79 => some y79
  | 81 => some y81
  | 82 => some y82
  | 84 => some y84
  | 88 => some y88
  | 89 => some y89
  | 105 => some y105
  | 111 => some y111
  | 113 => some y113
  | 122 => some y122
  | 127 => some y127
  | 128 => some y128
  | 135 => some y135
  | 137 => some y137
  | 138 => some y138
  | 139 => some y139
  | 141 => some y141
  | 143 => some y143
  | 151 => some y151
  | 153 => some y153
  | 154 => some y154
  | 157 => some y157
  | 159 => some y159
  | 162 => some y162
  | _ => none
theorem tysOk : TOk Tryd.prog tys := by
  intro t y h
  unfold tys at h
  split at h
  · cases h; exact ok1
  · cases h; exact ok2
  · cases h; exact ok3
  · cases h; exact ok4
  · cases h; exact ok5
  · cases h; exact ok6
  · cases h; exact ok8
  · cases h; exact ok9
  · cases h; exact ok20
  · cases h; exact ok22
  · cases h; exact ok23
  · cases h; exact ok24
  · cases h; exact ok26
  · cases h; exact ok31
  · cases h; exact ok35
  · cases h; exact ok46
  · cases h; exact ok66
  · cases h; exact ok67
  · cases h; exact ok71
  · cases h; exact ok75
  · cases h; exact ok79
  · cases h; exact ok81
  · cases h; exact ok82
  · cases h; exact ok84
  · cases h; exact ok88
  · cases h; exact ok89
  · cases h; exact ok105
  · cases h; exact ok111
  · cases h; exact ok113
  · cases h; exact ok122
  · cases h; exact ok127
  · cases h; exact ok128
  · cases h; exact ok135
  · cases h; exact ok137
  · cases h; exact ok138
  · cases h; exact ok139
  · cases h; exact ok141
  · cases h; exact ok143
  · cases h; exact ok151
  · cases h; exact ok153
  · cases h; exact ok154
  · cases h; exact ok157
  · cases h; exact ok159
  · cases h; exact ok162
  · cases h
end Go.Proofs.YtenkjadobkjaeaaDoor.VT
