/- Proved: Rows.TallyOwnCardSaid, the statement TallyOwn with its card, of the given program at the commit; no conditions beyond those in the statement. -/
import Derived.Test.YtccgigdjkghieaaDoorC12x9
import Derived.Test.YtccgigdjkghieaaDoorProg
set_option autoImplicit false
set_option linter.unusedVariables false
set_option maxRecDepth 100000
set_option maxHeartbeats 8000000
namespace Go.Proofs.YtccgigdjkghieaaDoor.VT
open Go Go.V
def y1 : VTy := { desc := Go.TypeDesc.func #[] #[] false, size := 1, bytes := 8, zero := [VVal.nilFunc], flat := false }
theorem ok1 : TyOk Tryd.prog 1 y1 := .one' Tryd.underlying1 Tryd.type1 rfl rfl rfl rfl rfl rfl
def y2 : VTy := { desc := Go.TypeDesc.int Go.IntKind.i64, size := 1, bytes := 8, zero := [VVal.int .i64 0], flat := false }
theorem ok2 : TyOk Tryd.prog 2 y2 := .one' Tryd.underlying2 Tryd.type2 rfl rfl rfl rfl rfl rfl
def y3 : VTy := { desc := Go.TypeDesc.int Go.IntKind.i64, size := 1, bytes := 8, zero := [VVal.int .i64 0], flat := false }
theorem ok3 : TyOk Tryd.prog 3 y3 := .one' Tryd.underlying3 Tryd.type3 rfl rfl rfl rfl rfl rfl
def y4 : VTy := { desc := Go.TypeDesc.bool, size := 1, bytes := 1, zero := [VVal.bool false], flat := false }
theorem ok4 : TyOk Tryd.prog 4 y4 := .one' Tryd.underlying4 Tryd.type4 rfl rfl rfl rfl rfl rfl
def y5 : VTy := { desc := Go.TypeDesc.int Go.IntKind.u8, size := 1, bytes := 1, zero := [VVal.int .u8 0], flat := false }
theorem ok5 : TyOk Tryd.prog 5 y5 := .one' Tryd.underlying5 Tryd.type5 rfl rfl rfl rfl rfl rfl
def y6 : VTy := { desc := Go.TypeDesc.int Go.IntKind.u8, size := 1, bytes := 1, zero := [VVal.int .u8 0], flat := false }
theorem ok6 : TyOk Tryd.prog 6 y6 := .one' Tryd.underlying6 Tryd.type6 rfl rfl rfl rfl rfl rfl
def y7 : VTy := { desc := Go.TypeDesc.struct #[{ name := "x", type := 2, offset := 0, embedded := false, tag := "", pkgPath := "runtime", byteOffset := 0 }, { name := "y", type := 3, offset := 1, embedded := false, tag := "", pkgPath := "runtime", byteOffset := 8 }, { name := "signed", type := 4, offset := 2, embedded := false, tag := "", pkgPath := "runtime", byteOffset := 16 }, { name := "code", type := 6, offset := 3, embedded := false, tag := "", pkgPath := "runtime", byteOffset := 17 }], size := 4, bytes := 24, zero := [VVal.int .i64 0, VVal.int .i64 0, VVal.bool false, VVal.int .u8 0], flat := false }
theorem ok7 : TyOk Tryd.prog 7 y7 := .agg' Tryd.underlying7 Tryd.type7 rfl rfl rfl rfl rfl rfl
def y8 : VTy := { desc := Go.TypeDesc.struct #[{ name := "x", type := 2, offset := 0, embedded := false, tag := "", pkgPath := "runtime", byteOffset := 0 }, { name := "y", type := 3, offset := 1, embedded := false, tag := "", pkgPath := "runtime", byteOffset := 8 }, { name := "signed", type := 4, offset := 2, embedded := false, tag := "", pkgPath := "runtime", byteOffset := 16 }, { name := "code", type := 6, offset := 3, embedded := false, tag := "", pkgPath := "runtime", byteOffset := 17 }], size := 4, bytes := 24, zero := [VVal.int .i64 0, VVal.int .i64 0, VVal.bool false, VVal.int .u8 0], flat := false }
theorem ok8 : TyOk Tryd.prog 8 y8 := .agg' Tryd.underlying8 Tryd.type8 rfl rfl rfl rfl rfl rfl
def y9 : VTy := { desc := Go.TypeDesc.string, size := 1, bytes := 16, zero := [VVal.str ByteArray.empty], flat := false }
theorem ok9 : TyOk Tryd.prog 9 y9 := .one' Tryd.underlying9 Tryd.type9 rfl rfl rfl rfl rfl rfl
def y20 : VTy := { desc := Go.TypeDesc.interface #[], size := 1, bytes := 16, zero := [VVal.nilIface], flat := false }
theorem ok20 : TyOk Tryd.prog 20 y20 := .one' Tryd.underlying20 Tryd.type20 rfl rfl rfl rfl rfl rfl
def y22 : VTy := { desc := Go.TypeDesc.slice 35, size := 1, bytes := 24, zero := [VVal.slice none 0 0 true 0], flat := false }
theorem ok22 : TyOk Tryd.prog 22 y22 := .one' Tryd.underlying22 Tryd.type22 rfl rfl rfl rfl rfl rfl
def y23 : VTy := { desc := Go.TypeDesc.slice 3, size := 1, bytes := 24, zero := [VVal.slice none 0 0 true 0], flat := false }
theorem ok23 : TyOk Tryd.prog 23 y23 := .one' Tryd.underlying23 Tryd.type23 rfl rfl rfl rfl rfl rfl
def y24 : VTy := { desc := Go.TypeDesc.slice 65, size := 1, bytes := 24, zero := [VVal.slice none 0 0 true 0], flat := false }
theorem ok24 : TyOk Tryd.prog 24 y24 := .one' Tryd.underlying24 Tryd.type24 rfl rfl rfl rfl rfl rfl
def y26 : VTy := { desc := Go.TypeDesc.struct #[{ name := "Users", type := 3, offset := 0, embedded := false, tag := "", pkgPath := "", byteOffset := 0 }, { name := "Who", type := 22, offset := 1, embedded := false, tag := "", pkgPath := "", byteOffset := 8 }, { name := "Fixed", type := 23, offset := 2, embedded := false, tag := "", pkgPath := "", byteOffset := 32 }, { name := "Rules", type := 24, offset := 3, embedded := false, tag := "", pkgPath := "", byteOffset := 56 }], size := 4, bytes := 80, zero := [VVal.int .i64 0, VVal.slice none 0 0 true 0, VVal.slice none 0 0 true 0, VVal.slice none 0 0 true 0], flat := false }
theorem ok26 : TyOk Tryd.prog 26 y26 := .agg' Tryd.underlying26 Tryd.type26 rfl rfl rfl rfl rfl rfl
def y31 : VTy := { desc := Go.TypeDesc.int Go.IntKind.i64, size := 1, bytes := 8, zero := [VVal.int .i64 0], flat := false }
theorem ok31 : TyOk Tryd.prog 31 y31 := .one' Tryd.underlying31 Tryd.type31 rfl rfl rfl rfl rfl rfl
def y35 : VTy := { desc := Go.TypeDesc.int Go.IntKind.u64, size := 1, bytes := 8, zero := [VVal.int .u64 0], flat := false }
theorem ok35 : TyOk Tryd.prog 35 y35 := .one' Tryd.underlying35 Tryd.type35 rfl rfl rfl rfl rfl rfl
def y53 : VTy := { desc := Go.TypeDesc.pointer 57, size := 1, bytes := 8, zero := [VVal.ptr none], flat := false }
theorem ok53 : TyOk Tryd.prog 53 y53 := .one' Tryd.underlying53 Tryd.type53 rfl rfl rfl rfl rfl rfl
def y54 : VTy := { desc := Go.TypeDesc.slice 23, size := 1, bytes := 24, zero := [VVal.slice none 0 0 true 0], flat := false }
theorem ok54 : TyOk Tryd.prog 54 y54 := .one' Tryd.underlying54 Tryd.type54 rfl rfl rfl rfl rfl rfl
def y55 : VTy := { desc := Go.TypeDesc.slice 22, size := 1, bytes := 24, zero := [VVal.slice none 0 0 true 0], flat := false }
theorem ok55 : TyOk Tryd.prog 55 y55 := .one' Tryd.underlying55 Tryd.type55 rfl rfl rfl rfl rfl rfl
def y57 : VTy := { desc := Go.TypeDesc.struct #[{ name := "full", type := 54, offset := 0, embedded := false, tag := "", pkgPath := "provost/provostkeep", byteOffset := 0 }, { name := "want", type := 54, offset := 1, embedded := false, tag := "", pkgPath := "provost/provostkeep", byteOffset := 24 }, { name := "rows", type := 55, offset := 2, embedded := false, tag := "", pkgPath := "provost/provostkeep", byteOffset := 48 }, { name := "rest", type := 55, offset := 3, embedded := false, tag := "", pkgPath := "provost/provostkeep", byteOffset := 72 }], size := 4, bytes := 96, zero := [VVal.slice none 0 0 true 0, VVal.slice none 0 0 true 0, VVal.slice none 0 0 true 0, VVal.slice none 0 0 true 0], flat := false }
theorem ok57 : TyOk Tryd.prog 57 y57 := .agg' Tryd.underlying57 Tryd.type57 rfl rfl rfl rfl rfl rfl
def y65 : VTy := { desc := Go.TypeDesc.struct #[{ name := "Kind", type := 3, offset := 0, embedded := false, tag := "", pkgPath := "", byteOffset := 0 }, { name := "K", type := 3, offset := 1, embedded := false, tag := "", pkgPath := "", byteOffset := 8 }, { name := "Steps", type := 23, offset := 2, embedded := false, tag := "", pkgPath := "", byteOffset := 16 }], size := 3, bytes := 40, zero := [VVal.int .i64 0, VVal.int .i64 0, VVal.slice none 0 0 true 0], flat := false }
theorem ok65 : TyOk Tryd.prog 65 y65 := .agg' Tryd.underlying65 Tryd.type65 rfl rfl rfl rfl rfl rfl
def y76 : VTy := { desc := Go.TypeDesc.func #[93] #[] false, size := 1, bytes := 8, zero := [VVal.nilFunc], flat := false }
theorem ok76 : TyOk Tryd.prog 76 y76 := .one' Tryd.underlying76 Tryd.type76 rfl rfl rfl rfl rfl rfl
def y77 : VTy := { desc := Go.TypeDesc.func #[93] #[] false, size := 1, bytes := 8, zero := [VVal.nilFunc], flat := false }
theorem ok77 : TyOk Tryd.prog 77 y77 := .one' Tryd.underlying77 Tryd.type77 rfl rfl rfl rfl rfl rfl
def y81 : VTy := { desc := Go.TypeDesc.struct #[{ name := "Nodes", type := 35, offset := 0, embedded := false, tag := "", pkgPath := "", byteOffset := 0 }, { name := "Pairs", type := 35, offset := 1, embedded := false, tag := "", pkgPath := "", byteOffset := 8 }, { name := "Edges", type := 35, offset := 2, embedded := false, tag := "", pkgPath := "", byteOffset := 16 }], size := 3, bytes := 24, zero := [VVal.int .u64 0, VVal.int .u64 0, VVal.int .u64 0], flat := true }
theorem ok81 : TyOk Tryd.prog 81 y81 := .str' Tryd.underlying81 Tryd.type81 rfl rfl rfl rfl rfl rfl XH3 XH3 (fun i f h => match i, f, h with | 0, _, h => by simp at h; subst h; exact ⟨by decide, rfl, _, Tryd.underlying35⟩ | 1, _, h => by simp at h; subst h; exact ⟨by decide, rfl, _, Tryd.underlying35⟩ | 2, _, h => by simp at h; subst h; exact ⟨by decide, rfl, _, Tryd.underlying35⟩ | n + 3, _, h => by simp at h) XH3
def y85 : VTy := { desc := Go.TypeDesc.struct #[{ name := "word", type := 35, offset := 0, embedded := false, tag := "", pkgPath := "provost/bits", byteOffset := 0 }], size := 1, bytes := 8, zero := [VVal.int .u64 0], flat := true }
theorem ok85 : TyOk Tryd.prog 85 y85 := .str' Tryd.underlying85 Tryd.type85 rfl rfl rfl rfl rfl rfl XH3 XH3 (fun i f h => match i, f, h with | 0, _, h => by simp at h; subst h; exact ⟨by decide, rfl, _, Tryd.underlying35⟩ | n + 1, _, h => by simp at h) XH3
def y89 : VTy := { desc := Go.TypeDesc.pointer 121, size := 1, bytes := 8, zero := [VVal.ptr none], flat := false }
theorem ok89 : TyOk Tryd.prog 89 y89 := .one' Tryd.underlying89 Tryd.type89 rfl rfl rfl rfl rfl rfl
def y91 : VTy := { desc := Go.TypeDesc.pointer 81, size := 1, bytes := 8, zero := [VVal.ptr none], flat := false }
theorem ok91 : TyOk Tryd.prog 91 y91 := .one' Tryd.underlying91 Tryd.type91 rfl rfl rfl rfl rfl rfl
def y93 : VTy := { desc := Go.TypeDesc.func #[23] #[4] false, size := 1, bytes := 8, zero := [VVal.nilFunc], flat := false }
theorem ok93 : TyOk Tryd.prog 93 y93 := .one' Tryd.underlying93 Tryd.type93 rfl rfl rfl rfl rfl rfl
def y95 : VTy := { desc := Go.TypeDesc.func #[130] #[] false, size := 1, bytes := 8, zero := [VVal.nilFunc], flat := false }
theorem ok95 : TyOk Tryd.prog 95 y95 := .one' Tryd.underlying95 Tryd.type95 rfl rfl rfl rfl rfl rfl
def y96 : VTy := { desc := Go.TypeDesc.func #[130] #[] false, size := 1, bytes := 8, zero := [VVal.nilFunc], flat := false }
theorem ok96 : TyOk Tryd.prog 96 y96 := .one' Tryd.underlying96 Tryd.type96 rfl rfl rfl rfl rfl rfl
def y110 : VTy := { desc := Go.TypeDesc.func #[3] #[4] false, size := 1, bytes := 8, zero := [VVal.nilFunc], flat := false }
theorem ok110 : TyOk Tryd.prog 110 y110 := .one' Tryd.underlying110 Tryd.type110 rfl rfl rfl rfl rfl rfl
def y119 : VTy := { desc := Go.TypeDesc.slice 24, size := 1, bytes := 24, zero := [VVal.slice none 0 0 true 0], flat := false }
theorem ok119 : TyOk Tryd.prog 119 y119 := .one' Tryd.underlying119 Tryd.type119 rfl rfl rfl rfl rfl rfl
def y121 : VTy := { desc := Go.TypeDesc.struct #[{ name := "users", type := 3, offset := 0, embedded := false, tag := "", pkgPath := "provost/hunt", byteOffset := 0 }, { name := "words", type := 22, offset := 1, embedded := false, tag := "", pkgPath := "provost/hunt", byteOffset := 8 }, { name := "rules", type := 119, offset := 2, embedded := false, tag := "", pkgPath := "provost/hunt", byteOffset := 32 }, { name := "gauge", type := 91, offset := 3, embedded := false, tag := "", pkgPath := "provost/hunt", byteOffset := 56 }], size := 4, bytes := 64, zero := [VVal.int .i64 0, VVal.slice none 0 0 true 0, VVal.slice none 0 0 true 0, VVal.ptr none], flat := false }
theorem ok121 : TyOk Tryd.prog 121 y121 := .agg' Tryd.underlying121 Tryd.type121 rfl rfl rfl rfl rfl rfl
def y130 : VTy := { desc := Go.TypeDesc.func #[23, 22] #[4] false, size := 1, bytes := 8, zero := [VVal.nilFunc], flat := false }
theorem ok130 : TyOk Tryd.prog 130 y130 := .one' Tryd.underlying130 Tryd.type130 rfl rfl rfl rfl rfl rfl
def y135 : VTy := { desc := Go.TypeDesc.func #[110] #[] false, size := 1, bytes := 8, zero := [VVal.nilFunc], flat := false }
theorem ok135 : TyOk Tryd.prog 135 y135 := .one' Tryd.underlying135 Tryd.type135 rfl rfl rfl rfl rfl rfl
def y136 : VTy := { desc := Go.TypeDesc.func #[110] #[] false, size := 1, bytes := 8, zero := [VVal.nilFunc], flat := false }
theorem ok136 : TyOk Tryd.prog 136 y136 := .one' Tryd.underlying136 Tryd.type136 rfl rfl rfl rfl rfl rfl
def y149 : VTy := { desc := Go.TypeDesc.map 3 3, size := 1, bytes := 8, zero := [VVal.map none], flat := false }
theorem ok149 : TyOk Tryd.prog 149 y149 := .one' Tryd.underlying149 Tryd.type149 rfl rfl rfl rfl rfl rfl
def y153 : VTy := { desc := Go.TypeDesc.int Go.IntKind.u64, size := 1, bytes := 8, zero := [VVal.int .u64 0], flat := false }
theorem ok153 : TyOk Tryd.prog 153 y153 := .one' Tryd.underlying153 Tryd.type153 rfl rfl rfl rfl rfl rfl
def y154 : VTy := { desc := Go.TypeDesc.pointer 157, size := 1, bytes := 8, zero := [VVal.ptr none], flat := false }
theorem ok154 : TyOk Tryd.prog 154 y154 := .one' Tryd.underlying154 Tryd.type154 rfl rfl rfl rfl rfl rfl
def y155 : VTy := { desc := Go.TypeDesc.array 64 3, size := 64, bytes := 512, zero := [VVal.int .i64 0, VVal.int .i64 0, VVal.int .i64 0, VVal.int .i64 0, VVal.int .i64 0, VVal.int .i64 0, VVal.int .i64 0, VVal.int .i64 0, VVal.int .i64 0, VVal.int .i64 0, VVal.int .i64 0, VVal.int .i64 0, VVal.int .i64 0, VVal.int .i64 0, VVal.int .i64 0, VVal.int .i64 0, VVal.int .i64 0, VVal.int .i64 0, VVal.int .i64 0, VVal.int .i64 0, VVal.int .i64 0, VVal.int .i64 0, VVal.int .i64 0, VVal.int .i64 0, VVal.int .i64 0, VVal.int .i64 0, VVal.int .i64 0, VVal.int .i64 0, VVal.int .i64 0, VVal.int .i64 0, VVal.int .i64 0, VVal.int .i64 0, VVal.int .i64 0, VVal.int .i64 0, VVal.int .i64 0, VVal.int .i64 0, VVal.int .i64 0, VVal.int .i64 0, VVal.int .i64 0, VVal.int .i64 0, VVal.int .i64 0, VVal.int .i64 0, VVal.int .i64 0, VVal.int .i64 0, VVal.int .i64 0, VVal.int .i64 0, VVal.int .i64 0, VVal.int .i64 0, VVal.int .i64 0, VVal.int .i64 0, VVal.int .i64 0, VVal.int .i64 0, VVal.int .i64 0, VVal.int .i64 0, VVal.int .i64 0, VVal.int .i64 0, VVal.int .i64 0, VVal.int .i64 0, VVal.int .i64 0, VVal.int .i64 0, VVal.int .i64 0, VVal.int .i64 0, VVal.int .i64 0, VVal.int .i64 0], flat := true }
theorem ok155 : TyOk Tryd.prog 155 y155 := .arr' Tryd.underlying155 Tryd.type155 rfl rfl rfl rfl rfl rfl Tryd.underlying3 Tryd.type3 rfl XH3
def y157 : VTy := { desc := Go.TypeDesc.struct #[{ name := "rows", type := 22, offset := 0, embedded := false, tag := "", pkgPath := "provost/hunt", byteOffset := 0 }, { name := "owner", type := 155, offset := 1, embedded := false, tag := "", pkgPath := "provost/hunt", byteOffset := 24 }, { name := "gauge", type := 91, offset := 65, embedded := false, tag := "", pkgPath := "provost/hunt", byteOffset := 536 }], size := 66, bytes := 544, zero := [VVal.slice none 0 0 true 0, VVal.int .i64 0, VVal.int .i64 0, VVal.int .i64 0, VVal.int .i64 0, VVal.int .i64 0, VVal.int .i64 0, VVal.int .i64 0, VVal.int .i64 0, VVal.int .i64 0, VVal.int .i64 0, VVal.int .i64 0, VVal.int .i64 0, VVal.int .i64 0, VVal.int .i64 0, VVal.int .i64 0, VVal.int .i64 0, VVal.int .i64 0, VVal.int .i64 0, VVal.int .i64 0, VVal.int .i64 0, VVal.int .i64 0, VVal.int .i64 0, VVal.int .i64 0, VVal.int .i64 0, VVal.int .i64 0, VVal.int .i64 0, VVal.int .i64 0, VVal.int .i64 0, VVal.int .i64 0, VVal.int .i64 0, VVal.int .i64 0, VVal.int .i64 0, VVal.int .i64 0, VVal.int .i64 0, VVal.int .i64 0, VVal.int .i64 0, VVal.int .i64 0, VVal.int .i64 0, VVal.int .i64 0, VVal.int .i64 0, VVal.int .i64 0, VVal.int .i64 0, VVal.int .i64 0, VVal.int .i64 0, VVal.int .i64 0, VVal.int .i64 0, VVal.int .i64 0, VVal.int .i64 0, VVal.int .i64 0, VVal.int .i64 0, VVal.int .i64 0, VVal.int .i64 0, VVal.int .i64 0, VVal.int .i64 0, VVal.int .i64 0, VVal.int .i64 0, VVal.int .i64 0, VVal.int .i64 0, VVal.int .i64 0, VVal.int .i64 0, VVal.int .i64 0, VVal.int .i64 0, VVal.int .i64 0, VVal.int .i64 0, VVal.ptr none], flat := false }
theorem ok157 : TyOk Tryd.prog 157 y157 := .agg' Tryd.underlying157 Tryd.type157 rfl rfl rfl rfl rfl rfl
def y159 : VTy := { desc := Go.TypeDesc.pointer 35, size := 1, bytes := 8, zero := [VVal.ptr none], flat := false }
theorem ok159 : TyOk Tryd.prog 159 y159 := .one' Tryd.underlying159 Tryd.type159 rfl rfl rfl rfl rfl rfl
def y167 : VTy := { desc := Go.TypeDesc.func #[169, 3] #[4] false, size := 1, bytes := 8, zero := [VVal.nilFunc], flat := false }
theorem ok167 : TyOk Tryd.prog 167 y167 := .one' Tryd.underlying167 Tryd.type167 rfl rfl rfl rfl rfl rfl
def y169 : VTy := { desc := Go.TypeDesc.struct #[{ name := "most", type := 3, offset := 0, embedded := false, tag := "", pkgPath := "provost/rule", byteOffset := 0 }, { name := "unlike", type := 3, offset := 1, embedded := false, tag := "", pkgPath := "provost/rule", byteOffset := 8 }, { name := "left", type := 3, offset := 2, embedded := false, tag := "", pkgPath := "provost/rule", byteOffset := 16 }], size := 3, bytes := 24, zero := [VVal.int .i64 0, VVal.int .i64 0, VVal.int .i64 0], flat := true }
theorem ok169 : TyOk Tryd.prog 169 y169 := .str' Tryd.underlying169 Tryd.type169 rfl rfl rfl rfl rfl rfl XH3 XH3 (fun i f h => match i, f, h with | 0, _, h => by simp at h; subst h; exact ⟨by decide, rfl, _, Tryd.underlying3⟩ | 1, _, h => by simp at h; subst h; exact ⟨by decide, rfl, _, Tryd.underlying3⟩ | 2, _, h => by simp at h; subst h; exact ⟨by decide, rfl, _, Tryd.underlying3⟩ | n + 3, _, h => by simp at h) XH3
def y170 : VTy := { desc := Go.TypeDesc.array 6 167, size := 6, bytes := 48, zero := [VVal.nilFunc, VVal.nilFunc, VVal.nilFunc, VVal.nilFunc, VVal.nilFunc, VVal.nilFunc], flat := false }
theorem ok170 : TyOk Tryd.prog 170 y170 := .agg' Tryd.underlying170 Tryd.type170 rfl rfl rfl rfl rfl rfl
def y173 : VTy := { desc := Go.TypeDesc.pointer 175, size := 1, bytes := 8, zero := [VVal.ptr none], flat := false }
theorem ok173 : TyOk Tryd.prog 173 y173 := .one' Tryd.underlying173 Tryd.type173 rfl rfl rfl rfl rfl rfl
def y175 : VTy := { desc := Go.TypeDesc.struct #[{ name := "rows", type := 22, offset := 0, embedded := false, tag := "", pkgPath := "provost/match", byteOffset := 0 }, { name := "owner", type := 155, offset := 1, embedded := false, tag := "", pkgPath := "provost/match", byteOffset := 24 }], size := 65, bytes := 536, zero := [VVal.slice none 0 0 true 0, VVal.int .i64 0, VVal.int .i64 0, VVal.int .i64 0, VVal.int .i64 0, VVal.int .i64 0, VVal.int .i64 0, VVal.int .i64 0, VVal.int .i64 0, VVal.int .i64 0, VVal.int .i64 0, VVal.int .i64 0, VVal.int .i64 0, VVal.int .i64 0, VVal.int .i64 0, VVal.int .i64 0, VVal.int .i64 0, VVal.int .i64 0, VVal.int .i64 0, VVal.int .i64 0, VVal.int .i64 0, VVal.int .i64 0, VVal.int .i64 0, VVal.int .i64 0, VVal.int .i64 0, VVal.int .i64 0, VVal.int .i64 0, VVal.int .i64 0, VVal.int .i64 0, VVal.int .i64 0, VVal.int .i64 0, VVal.int .i64 0, VVal.int .i64 0, VVal.int .i64 0, VVal.int .i64 0, VVal.int .i64 0, VVal.int .i64 0, VVal.int .i64 0, VVal.int .i64 0, VVal.int .i64 0, VVal.int .i64 0, VVal.int .i64 0, VVal.int .i64 0, VVal.int .i64 0, VVal.int .i64 0, VVal.int .i64 0, VVal.int .i64 0, VVal.int .i64 0, VVal.int .i64 0, VVal.int .i64 0, VVal.int .i64 0, VVal.int .i64 0, VVal.int .i64 0, VVal.int .i64 0, VVal.int .i64 0, VVal.int .i64 0, VVal.int .i64 0, VVal.int .i64 0, VVal.int .i64 0, VVal.int .i64 0, VVal.int .i64 0, VVal.int .i64 0, VVal.int .i64 0, VVal.int .i64 0, VVal.int .i64 0], flat := false }
theorem ok175 : TyOk Tryd.prog 175 y175 := .agg' Tryd.underlying175 Tryd.type175 rfl rfl rfl rfl rfl rfl
def y177 : VTy := { desc := Go.TypeDesc.array 64 5, size := 64, bytes := 64, zero := [VVal.int .u8 0, VVal.int .u8 0, VVal.int .u8 0, VVal.int .u8 0, VVal.int .u8 0, VVal.int .u8 0, VVal.int .u8 0, VVal.int .u8 0, VVal.int .u8 0, VVal.int .u8 0, VVal.int .u8 0, VVal.int .u8 0, VVal.int .u8 0, VVal.int .u8 0, VVal.int .u8 0, VVal.int .u8 0, VVal.int .u8 0, VVal.int .u8 0, VVal.int .u8 0, VVal.int .u8 0, VVal.int .u8 0, VVal.int .u8 0, VVal.int .u8 0, VVal.int .u8 0, VVal.int .u8 0, VVal.int .u8 0, VVal.int .u8 0, VVal.int .u8 0, VVal.int .u8 0, VVal.int .u8 0, VVal.int .u8 0, VVal.int .u8 0, VVal.int .u8 0, VVal.int .u8 0, VVal.int .u8 0, VVal.int .u8 0, VVal.int .u8 0, VVal.int .u8 0, VVal.int .u8 0, VVal.int .u8 0, VVal.int .u8 0, VVal.int .u8 0, VVal.int .u8 0, VVal.int .u8 0, VVal.int .u8 0, VVal.int .u8 0, VVal.int .u8 0, VVal.int .u8 0, VVal.int .u8 0, VVal.int .u8 0, VVal.int .u8 0, VVal.int .u8 0, VVal.int .u8 0, VVal.int .u8 0, VVal.int .u8 0, VVal.int .u8 0, VVal.int .u8 0, VVal.int .u8 0, VVal.int .u8 0, VVal.int .u8 0, VVal.int .u8 0, VVal.int .u8 0, VVal.int .u8 0, VVal.int .u8 0], flat := true }
theorem ok177 : TyOk Tryd.prog 177 y177 := .arr' Tryd.underlying177 Tryd.type177 rfl rfl rfl rfl rfl rfl Tryd.underlying5 Tryd.type5 rfl XH3
def tys : TypeId → Option VTy := fun t => match t with
 | 1 => some y1
 | 2 => some y2
 | 3 => some y3
 | 4 => some y4
 | 5 => some y5
 | 6 => some y6
 | 7 => some y7
 | 8 => some y8
 | 9 => some y9
 | 20 => some y20
 | 22 => some y22
 | 23 => some y23
 | 24 => some y24
 | 26 => some y26
 | 31 => some y31
 | 35 => some y35
 | 53 => some y53
 | 54 => some y54
 | 55 => some y55
 | 57 => some y57
 | 65 => some y65
 | 76 => some y76
 | 77 => some y77
 | 81 => some y81
 | 85 => some y85
 | 89 => some y89
 | 91 => some y91
 | 93 => some y93
 | 95 => some y95
 | 96 => some y96
 | 110 => some y110
 | 119 => some y119
 | 121 => some y121
 | 130 => some y130
 | 135 => some y135
 | 136 => some y136
 | 149 => some y149
 | 153 => some y153
 | 154 => some y154
 | 155 => some y155
 | 157 => some y157
 | 159 => some y159
 | 167 => some y167
 | 169 => some y169
 | 170 => some y170
 | 173 => some y173
 | 175 => some y175
 | 177 => some y177
 | _ => none
theorem tysOk : TOk Tryd.prog tys := by
 intro t y h
 unfold tys at h
 split at h
 ·cases h; exact ok1
 ·cases h; exact ok2
 ·cases h; exact ok3
 ·cases h; exact ok4
 ·cases h; exact ok5
 ·cases h; exact ok6
 ·cases h; exact ok7
 ·cases h; exact ok8
 ·cases h; exact ok9
 ·cases h; exact ok20
 ·cases h; exact ok22
 ·cases h; exact ok23
 ·cases h; exact ok24
 ·cases h; exact ok26
 ·cases h; exact ok31
 ·cases h; exact ok35
 ·cases h; exact ok53
 ·cases h; exact ok54
 ·cases h; exact ok55
 ·cases h; exact ok57
 ·cases h; exact ok65
 ·cases h; exact ok76
 ·cases h; exact ok77
 ·cases h; exact ok81
 ·cases h; exact ok85
 ·cases h; exact ok89
 ·cases h; exact ok91
 ·cases h; exact ok93
 ·cases h; exact ok95
 ·cases h; exact ok96
 ·cases h; exact ok110
 ·cases h; exact ok119
 ·cases h; exact ok121
 ·cases h; exact ok130
 ·cases h; exact ok135
 ·cases h; exact ok136
 ·cases h; exact ok149
 ·cases h; exact ok153
 ·cases h; exact ok154
 ·cases h; exact ok155
 ·cases h; exact ok157
 ·cases h; exact ok159
 ·cases h; exact ok167
 ·cases h; exact ok169
 ·cases h; exact ok170
 ·cases h; exact ok173
 ·cases h; exact ok175
 ·cases h; exact ok177
 cases h
end Go.Proofs.YtccgigdjkghieaaDoor.VT
