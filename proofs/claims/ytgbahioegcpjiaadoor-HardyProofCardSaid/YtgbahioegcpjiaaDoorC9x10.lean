/- Proved: Rows.HardyProofCardSaid, the statement HardyProof with its card, of the given program at the commit; no conditions beyond those in the statement. -/
import Derived.Test.YtgbahioegcpjiaaDoorC9x9
import Derived.Test.YtgbahioegcpjiaaDoorProg
set_option autoImplicit false
set_option linter.unusedVariables false
set_option maxRecDepth 100000
set_option maxHeartbeats 8000000
namespace Go.Proofs.YtgbahioegcpjiaaDoor.VT
open Go Go.V
def y1 : VTy := { desc := Go.TypeDesc.func #[] #[] false, size := 1, bytes := 8, zero := [VVal.nilFunc], flat := false }
theorem ok1 : TyOk Tryd.prog 1 y1 := .one' Tryd.underlying1 Tryd.type1 rfl rfl rfl rfl rfl rfl
def y2 : VTy := { desc := Go.TypeDesc.int Go.IntKind.i64, size := 1, bytes := 8, zero := [VVal.int .i64 0], flat := false }
theorem ok2 : TyOk Tryd.prog 2 y2 := .one' Tryd.underlying2 Tryd.type2 rfl rfl rfl rfl rfl rfl
def y3 : VTy := { desc := Go.TypeDesc.int Go.IntKind.i64, size := 1, bytes := 8, zero := [VVal.int .i64 0], flat := false }
theorem ok3 : TyOk Tryd.prog 3 y3 := .one' Tryd.underlying3 Tryd.type3 rfl rfl rfl rfl rfl rfl
def y4 : VTy := { desc := Go.TypeDesc.bool, size := 1, bytes := 1, zero := [VVal.bool false], flat := false }
theorem ok4 : TyOk Tryd.prog 4 y4 := .one' Tryd.underlying4 Tryd.type4 rfl rfl rfl rfl rfl rfl
def y5 : VTy := { desc := Go.TypeDesc.int Go.IntKind.u8, size := 1, bytes := 1, zero := [VVal.int .u8 0], flat := false }
theorem ok5 : TyOk Tryd.prog 5 y5 := .one' Tryd.underlying5 Tryd.type5 rfl rfl rfl rfl rfl rfl
def y6 : VTy := { desc := Go.TypeDesc.int Go.IntKind.u8, size := 1, bytes := 1, zero := [VVal.int .u8 0], flat := false }
theorem ok6 : TyOk Tryd.prog 6 y6 := .one' Tryd.underlying6 Tryd.type6 rfl rfl rfl rfl rfl rfl
def y7 : VTy := { desc := Go.TypeDesc.struct #[{ name := "x", type := 2, offset := 0, embedded := false, tag := "", pkgPath := "runtime", byteOffset := 0 }, { name := "y", type := 3, offset := 1, embedded := false, tag := "", pkgPath := "runtime", byteOffset := 8 }, { name := "signed", type := 4, offset := 2, embedded := false, tag := "", pkgPath := "runtime", byteOffset := 16 }, { name := "code", type := 6, offset := 3, embedded := false, tag := "", pkgPath := "runtime", byteOffset := 17 }], size := 4, bytes := 24, zero := [VVal.int .i64 0, VVal.int .i64 0, VVal.bool false, VVal.int .u8 0], flat := false }
theorem ok7 : TyOk Tryd.prog 7 y7 := .agg' Tryd.underlying7 Tryd.type7 rfl rfl rfl rfl rfl rfl
def y9 : VTy := { desc := Go.TypeDesc.string, size := 1, bytes := 16, zero := [VVal.str ByteArray.empty], flat := false }
theorem ok9 : TyOk Tryd.prog 9 y9 := .one' Tryd.underlying9 Tryd.type9 rfl rfl rfl rfl rfl rfl
def y10 : VTy := { desc := Go.TypeDesc.string, size := 1, bytes := 16, zero := [VVal.str ByteArray.empty], flat := false }
theorem ok10 : TyOk Tryd.prog 10 y10 := .one' Tryd.underlying10 Tryd.type10 rfl rfl rfl rfl rfl rfl
def y22 : VTy := { desc := Go.TypeDesc.slice 27, size := 1, bytes := 24, zero := [VVal.slice none 0 0 true 0], flat := false }
theorem ok22 : TyOk Tryd.prog 22 y22 := .one' Tryd.underlying22 Tryd.type22 rfl rfl rfl rfl rfl rfl
def y23 : VTy := { desc := Go.TypeDesc.slice 3, size := 1, bytes := 24, zero := [VVal.slice none 0 0 true 0], flat := false }
theorem ok23 : TyOk Tryd.prog 23 y23 := .one' Tryd.underlying23 Tryd.type23 rfl rfl rfl rfl rfl rfl
def y24 : VTy := { desc := Go.TypeDesc.slice 75, size := 1, bytes := 24, zero := [VVal.slice none 0 0 true 0], flat := false }
theorem ok24 : TyOk Tryd.prog 24 y24 := .one' Tryd.underlying24 Tryd.type24 rfl rfl rfl rfl rfl rfl
def y26 : VTy := { desc := Go.TypeDesc.struct #[{ name := "Users", type := 3, offset := 0, embedded := false, tag := "", pkgPath := "", byteOffset := 0 }, { name := "Who", type := 22, offset := 1, embedded := false, tag := "", pkgPath := "", byteOffset := 8 }, { name := "Fixed", type := 23, offset := 2, embedded := false, tag := "", pkgPath := "", byteOffset := 32 }, { name := "Rules", type := 24, offset := 3, embedded := false, tag := "", pkgPath := "", byteOffset := 56 }], size := 4, bytes := 80, zero := [VVal.int .i64 0, VVal.slice none 0 0 true 0, VVal.slice none 0 0 true 0, VVal.slice none 0 0 true 0], flat := false }
theorem ok26 : TyOk Tryd.prog 26 y26 := .agg' Tryd.underlying26 Tryd.type26 rfl rfl rfl rfl rfl rfl
def y27 : VTy := { desc := Go.TypeDesc.int Go.IntKind.u64, size := 1, bytes := 8, zero := [VVal.int .u64 0], flat := false }
theorem ok27 : TyOk Tryd.prog 27 y27 := .one' Tryd.underlying27 Tryd.type27 rfl rfl rfl rfl rfl rfl
def y39 : VTy := { desc := Go.TypeDesc.int Go.IntKind.i64, size := 1, bytes := 8, zero := [VVal.int .i64 0], flat := false }
theorem ok39 : TyOk Tryd.prog 39 y39 := .one' Tryd.underlying39 Tryd.type39 rfl rfl rfl rfl rfl rfl
def y47 : VTy := { desc := Go.TypeDesc.pointer 93, size := 1, bytes := 8, zero := [VVal.ptr none], flat := false }
theorem ok47 : TyOk Tryd.prog 47 y47 := .one' Tryd.underlying47 Tryd.type47 rfl rfl rfl rfl rfl rfl
def y75 : VTy := { desc := Go.TypeDesc.struct #[{ name := "Kind", type := 3, offset := 0, embedded := false, tag := "", pkgPath := "", byteOffset := 0 }, { name := "K", type := 3, offset := 1, embedded := false, tag := "", pkgPath := "", byteOffset := 8 }, { name := "Steps", type := 23, offset := 2, embedded := false, tag := "", pkgPath := "", byteOffset := 16 }], size := 3, bytes := 40, zero := [VVal.int .i64 0, VVal.int .i64 0, VVal.slice none 0 0 true 0], flat := false }
theorem ok75 : TyOk Tryd.prog 75 y75 := .agg' Tryd.underlying75 Tryd.type75 rfl rfl rfl rfl rfl rfl
def y91 : VTy := { desc := Go.TypeDesc.struct #[{ name := "Nodes", type := 27, offset := 0, embedded := false, tag := "", pkgPath := "", byteOffset := 0 }, { name := "Pairs", type := 27, offset := 1, embedded := false, tag := "", pkgPath := "", byteOffset := 8 }, { name := "Edges", type := 27, offset := 2, embedded := false, tag := "", pkgPath := "", byteOffset := 16 }], size := 3, bytes := 24, zero := [VVal.int .u64 0, VVal.int .u64 0, VVal.int .u64 0], flat := true }
theorem ok91 : TyOk Tryd.prog 91 y91 := .str' Tryd.underlying91 Tryd.type91 rfl rfl rfl rfl rfl rfl XH2 XH2 (fun i f h => match i, f, h with | 0, _, h => by simp at h; subst h; exact ⟨by decide, rfl, _, Tryd.underlying27⟩ | 1, _, h => by simp at h; subst h; exact ⟨by decide, rfl, _, Tryd.underlying27⟩ | 2, _, h => by simp at h; subst h; exact ⟨by decide, rfl, _, Tryd.underlying27⟩ | n + 3, _, h => by simp at h) XH2
def y93 : VTy := { desc := Go.TypeDesc.struct #[{ name := "gauge", type := 91, offset := 0, embedded := false, tag := "", pkgPath := "provost/solve", byteOffset := 0 }], size := 3, bytes := 24, zero := [VVal.int .u64 0, VVal.int .u64 0, VVal.int .u64 0], flat := false }
theorem ok93 : TyOk Tryd.prog 93 y93 := .agg' Tryd.underlying93 Tryd.type93 rfl rfl rfl rfl rfl rfl
def y95 : VTy := { desc := Go.TypeDesc.struct #[{ name := "word", type := 27, offset := 0, embedded := false, tag := "", pkgPath := "provost/bits", byteOffset := 0 }], size := 1, bytes := 8, zero := [VVal.int .u64 0], flat := true }
theorem ok95 : TyOk Tryd.prog 95 y95 := .str' Tryd.underlying95 Tryd.type95 rfl rfl rfl rfl rfl rfl XH2 XH2 (fun i f h => match i, f, h with | 0, _, h => by simp at h; subst h; exact ⟨by decide, rfl, _, Tryd.underlying27⟩ | n + 1, _, h => by simp at h) XH2
def y101 : VTy := { desc := Go.TypeDesc.func #[3] #[4] false, size := 1, bytes := 8, zero := [VVal.nilFunc], flat := false }
theorem ok101 : TyOk Tryd.prog 101 y101 := .one' Tryd.underlying101 Tryd.type101 rfl rfl rfl rfl rfl rfl
def y103 : VTy := { desc := Go.TypeDesc.pointer 143, size := 1, bytes := 8, zero := [VVal.ptr none], flat := false }
theorem ok103 : TyOk Tryd.prog 103 y103 := .one' Tryd.underlying103 Tryd.type103 rfl rfl rfl rfl rfl rfl
def y105 : VTy := { desc := Go.TypeDesc.pointer 91, size := 1, bytes := 8, zero := [VVal.ptr none], flat := false }
theorem ok105 : TyOk Tryd.prog 105 y105 := .one' Tryd.underlying105 Tryd.type105 rfl rfl rfl rfl rfl rfl
def y106 : VTy := { desc := Go.TypeDesc.slice 23, size := 1, bytes := 24, zero := [VVal.slice none 0 0 true 0], flat := false }
theorem ok106 : TyOk Tryd.prog 106 y106 := .one' Tryd.underlying106 Tryd.type106 rfl rfl rfl rfl rfl rfl
def y108 : VTy := { desc := Go.TypeDesc.func #[23] #[4] false, size := 1, bytes := 8, zero := [VVal.nilFunc], flat := false }
theorem ok108 : TyOk Tryd.prog 108 y108 := .one' Tryd.underlying108 Tryd.type108 rfl rfl rfl rfl rfl rfl
def y109 : VTy := { desc := Go.TypeDesc.func #[108] #[] false, size := 1, bytes := 8, zero := [VVal.nilFunc], flat := false }
theorem ok109 : TyOk Tryd.prog 109 y109 := .one' Tryd.underlying109 Tryd.type109 rfl rfl rfl rfl rfl rfl
def y110 : VTy := { desc := Go.TypeDesc.func #[108] #[] false, size := 1, bytes := 8, zero := [VVal.nilFunc], flat := false }
theorem ok110 : TyOk Tryd.prog 110 y110 := .one' Tryd.underlying110 Tryd.type110 rfl rfl rfl rfl rfl rfl
def y117 : VTy := { desc := Go.TypeDesc.int Go.IntKind.u64, size := 1, bytes := 8, zero := [VVal.int .u64 0], flat := false }
theorem ok117 : TyOk Tryd.prog 117 y117 := .one' Tryd.underlying117 Tryd.type117 rfl rfl rfl rfl rfl rfl
def y133 : VTy := { desc := Go.TypeDesc.func #[101] #[] false, size := 1, bytes := 8, zero := [VVal.nilFunc], flat := false }
theorem ok133 : TyOk Tryd.prog 133 y133 := .one' Tryd.underlying133 Tryd.type133 rfl rfl rfl rfl rfl rfl
def y134 : VTy := { desc := Go.TypeDesc.func #[101] #[] false, size := 1, bytes := 8, zero := [VVal.nilFunc], flat := false }
theorem ok134 : TyOk Tryd.prog 134 y134 := .one' Tryd.underlying134 Tryd.type134 rfl rfl rfl rfl rfl rfl
def y141 : VTy := { desc := Go.TypeDesc.slice 24, size := 1, bytes := 24, zero := [VVal.slice none 0 0 true 0], flat := false }
theorem ok141 : TyOk Tryd.prog 141 y141 := .one' Tryd.underlying141 Tryd.type141 rfl rfl rfl rfl rfl rfl
def y143 : VTy := { desc := Go.TypeDesc.struct #[{ name := "users", type := 3, offset := 0, embedded := false, tag := "", pkgPath := "provost/hunt", byteOffset := 0 }, { name := "words", type := 22, offset := 1, embedded := false, tag := "", pkgPath := "provost/hunt", byteOffset := 8 }, { name := "rules", type := 141, offset := 2, embedded := false, tag := "", pkgPath := "provost/hunt", byteOffset := 32 }, { name := "gauge", type := 105, offset := 3, embedded := false, tag := "", pkgPath := "provost/hunt", byteOffset := 56 }], size := 4, bytes := 64, zero := [VVal.int .i64 0, VVal.slice none 0 0 true 0, VVal.slice none 0 0 true 0, VVal.ptr none], flat := false }
theorem ok143 : TyOk Tryd.prog 143 y143 := .agg' Tryd.underlying143 Tryd.type143 rfl rfl rfl rfl rfl rfl
def y144 : VTy := { desc := Go.TypeDesc.pointer 146, size := 1, bytes := 8, zero := [VVal.ptr none], flat := false }
theorem ok144 : TyOk Tryd.prog 144 y144 := .one' Tryd.underlying144 Tryd.type144 rfl rfl rfl rfl rfl rfl
def y146 : VTy := { desc := Go.TypeDesc.struct #[{ name := "row", type := 23, offset := 0, embedded := false, tag := "", pkgPath := "provost/part", byteOffset := 0 }, { name := "keep", type := 108, offset := 1, embedded := false, tag := "", pkgPath := "provost/part", byteOffset := 24 }, { name := "yield", type := 108, offset := 2, embedded := false, tag := "", pkgPath := "provost/part", byteOffset := 32 }], size := 3, bytes := 40, zero := [VVal.slice none 0 0 true 0, VVal.nilFunc, VVal.nilFunc], flat := false }
theorem ok146 : TyOk Tryd.prog 146 y146 := .agg' Tryd.underlying146 Tryd.type146 rfl rfl rfl rfl rfl rfl
def y162 : VTy := { desc := Go.TypeDesc.pointer 165, size := 1, bytes := 8, zero := [VVal.ptr none], flat := false }
theorem ok162 : TyOk Tryd.prog 162 y162 := .one' Tryd.underlying162 Tryd.type162 rfl rfl rfl rfl rfl rfl
def y163 : VTy := { desc := Go.TypeDesc.array 64 3, size := 64, bytes := 512, zero := [VVal.int .i64 0, VVal.int .i64 0, VVal.int .i64 0, VVal.int .i64 0, VVal.int .i64 0, VVal.int .i64 0, VVal.int .i64 0, VVal.int .i64 0, VVal.int .i64 0, VVal.int .i64 0, VVal.int .i64 0, VVal.int .i64 0, VVal.int .i64 0, VVal.int .i64 0, VVal.int .i64 0, VVal.int .i64 0, VVal.int .i64 0, VVal.int .i64 0, VVal.int .i64 0, VVal.int .i64 0, VVal.int .i64 0, VVal.int .i64 0, VVal.int .i64 0, VVal.int .i64 0, VVal.int .i64 0, VVal.int .i64 0, VVal.int .i64 0, VVal.int .i64 0, VVal.int .i64 0, VVal.int .i64 0, VVal.int .i64 0, VVal.int .i64 0, VVal.int .i64 0, VVal.int .i64 0, VVal.int .i64 0, VVal.int .i64 0, VVal.int .i64 0, VVal.int .i64 0, VVal.int .i64 0, VVal.int .i64 0, VVal.int .i64 0, VVal.int .i64 0, VVal.int .i64 0, VVal.int .i64 0, VVal.int .i64 0, VVal.int .i64 0, VVal.int .i64 0, VVal.int .i64 0, VVal.int .i64 0, VVal.int .i64 0, VVal.int .i64 0, VVal.int .i64 0, VVal.int .i64 0, VVal.int .i64 0, VVal.int .i64 0, VVal.int .i64 0, VVal.int .i64 0, VVal.int .i64 0, VVal.int .i64 0, VVal.int .i64 0, VVal.int .i64 0, VVal.int .i64 0, VVal.int .i64 0, VVal.int .i64 0], flat := true }
theorem ok163 : TyOk Tryd.prog 163 y163 := .arr' Tryd.underlying163 Tryd.type163 rfl rfl rfl rfl rfl rfl Tryd.underlying3 Tryd.type3 rfl XH2
def y165 : VTy := { desc := Go.TypeDesc.struct #[{ name := "rows", type := 22, offset := 0, embedded := false, tag := "", pkgPath := "provost/hunt", byteOffset := 0 }, { name := "owner", type := 163, offset := 1, embedded := false, tag := "", pkgPath := "provost/hunt", byteOffset := 24 }, { name := "gauge", type := 105, offset := 65, embedded := false, tag := "", pkgPath := "provost/hunt", byteOffset := 536 }], size := 66, bytes := 544, zero := [VVal.slice none 0 0 true 0, VVal.int .i64 0, VVal.int .i64 0, VVal.int .i64 0, VVal.int .i64 0, VVal.int .i64 0, VVal.int .i64 0, VVal.int .i64 0, VVal.int .i64 0, VVal.int .i64 0, VVal.int .i64 0, VVal.int .i64 0, VVal.int .i64 0, VVal.int .i64 0, VVal.int .i64 0, VVal.int .i64 0, VVal.int .i64 0, VVal.int .i64 0, VVal.int .i64 0, VVal.int .i64 0, VVal.int .i64 0, VVal.int .i64 0, VVal.int .i64 0, VVal.int .i64 0, VVal.int .i64 0, VVal.int .i64 0, VVal.int .i64 0, VVal.int .i64 0, VVal.int .i64 0, VVal.int .i64 0, VVal.int .i64 0, VVal.int .i64 0, VVal.int .i64 0, VVal.int .i64 0, VVal.int .i64 0, VVal.int .i64 0, VVal.int .i64 0, VVal.int .i64 0, VVal.int .i64 0, VVal.int .i64 0, VVal.int .i64 0, VVal.int .i64 0, VVal.int .i64 0, VVal.int .i64 0, VVal.int .i64 0, VVal.int .i64 0, VVal.int .i64 0, VVal.int .i64 0, VVal.int .i64 0, VVal.int .i64 0, VVal.int .i64 0, VVal.int .i64 0, VVal.int .i64 0, VVal.int .i64 0, VVal.int .i64 0, VVal.int .i64 0, VVal.int .i64 0, VVal.int .i64 0, VVal.int .i64 0, VVal.int .i64 0, VVal.int .i64 0, VVal.int .i64 0, VVal.int .i64 0, VVal.int .i64 0, VVal.int .i64 0, VVal.ptr none], flat := false }
theorem ok165 : TyOk Tryd.prog 165 y165 := .agg' Tryd.underlying165 Tryd.type165 rfl rfl rfl rfl rfl rfl
def y167 : VTy := { desc := Go.TypeDesc.pointer 27, size := 1, bytes := 8, zero := [VVal.ptr none], flat := false }
theorem ok167 : TyOk Tryd.prog 167 y167 := .one' Tryd.underlying167 Tryd.type167 rfl rfl rfl rfl rfl rfl
def y174 : VTy := { desc := Go.TypeDesc.func #[176, 3] #[4] false, size := 1, bytes := 8, zero := [VVal.nilFunc], flat := false }
theorem ok174 : TyOk Tryd.prog 174 y174 := .one' Tryd.underlying174 Tryd.type174 rfl rfl rfl rfl rfl rfl
def y176 : VTy := { desc := Go.TypeDesc.struct #[{ name := "most", type := 3, offset := 0, embedded := false, tag := "", pkgPath := "provost/rule", byteOffset := 0 }, { name := "unlike", type := 3, offset := 1, embedded := false, tag := "", pkgPath := "provost/rule", byteOffset := 8 }, { name := "left", type := 3, offset := 2, embedded := false, tag := "", pkgPath := "provost/rule", byteOffset := 16 }], size := 3, bytes := 24, zero := [VVal.int .i64 0, VVal.int .i64 0, VVal.int .i64 0], flat := true }
theorem ok176 : TyOk Tryd.prog 176 y176 := .str' Tryd.underlying176 Tryd.type176 rfl rfl rfl rfl rfl rfl XH2 XH2 (fun i f h => match i, f, h with | 0, _, h => by simp at h; subst h; exact ⟨by decide, rfl, _, Tryd.underlying3⟩ | 1, _, h => by simp at h; subst h; exact ⟨by decide, rfl, _, Tryd.underlying3⟩ | 2, _, h => by simp at h; subst h; exact ⟨by decide, rfl, _, Tryd.underlying3⟩ | n + 3, _, h => by simp at h) XH2
def y177 : VTy := { desc := Go.TypeDesc.array 6 174, size := 6, bytes := 48, zero := [VVal.nilFunc, VVal.nilFunc, VVal.nilFunc, VVal.nilFunc, VVal.nilFunc, VVal.nilFunc], flat := false }
theorem ok177 : TyOk Tryd.prog 177 y177 := .agg' Tryd.underlying177 Tryd.type177 rfl rfl rfl rfl rfl rfl
def y180 : VTy := { desc := Go.TypeDesc.array 64 5, size := 64, bytes := 64, zero := [VVal.int .u8 0, VVal.int .u8 0, VVal.int .u8 0, VVal.int .u8 0, VVal.int .u8 0, VVal.int .u8 0, VVal.int .u8 0, VVal.int .u8 0, VVal.int .u8 0, VVal.int .u8 0, VVal.int .u8 0, VVal.int .u8 0, VVal.int .u8 0, VVal.int .u8 0, VVal.int .u8 0, VVal.int .u8 0, VVal.int .u8 0, VVal.int .u8 0, VVal.int .u8 0, VVal.int .u8 0, VVal.int .u8 0, VVal.int .u8 0, VVal.int .u8 0, VVal.int .u8 0, VVal.int .u8 0, VVal.int .u8 0, VVal.int .u8 0, VVal.int .u8 0, VVal.int .u8 0, VVal.int .u8 0, VVal.int .u8 0, VVal.int .u8 0, VVal.int .u8 0, VVal.int .u8 0, VVal.int .u8 0, VVal.int .u8 0, VVal.int .u8 0, VVal.int .u8 0, VVal.int .u8 0, VVal.int .u8 0, VVal.int .u8 0, VVal.int .u8 0, VVal.int .u8 0, VVal.int .u8 0, VVal.int .u8 0, VVal.int .u8 0, VVal.int .u8 0, VVal.int .u8 0, VVal.int .u8 0, VVal.int .u8 0, VVal.int .u8 0, VVal.int .u8 0, VVal.int .u8 0, VVal.int .u8 0, VVal.int .u8 0, VVal.int .u8 0, VVal.int .u8 0, VVal.int .u8 0, VVal.int .u8 0, VVal.int .u8 0, VVal.int .u8 0, VVal.int .u8 0, VVal.int .u8 0, VVal.int .u8 0], flat := true }
theorem ok180 : TyOk Tryd.prog 180 y180 := .arr' Tryd.underlying180 Tryd.type180 rfl rfl rfl rfl rfl rfl Tryd.underlying5 Tryd.type5 rfl XH2
def y181 : VTy := { desc := Go.TypeDesc.map 3 3, size := 1, bytes := 8, zero := [VVal.map none], flat := false }
theorem ok181 : TyOk Tryd.prog 181 y181 := .one' Tryd.underlying181 Tryd.type181 rfl rfl rfl rfl rfl rfl
def tys : TypeId → Option VTy := fun t => match t with
  | 1 => some y1
  | 2 => some y2
  | 3 => some y3
  | 4 => some y4
  | 5 => some y5
  | 6 => some y6
  | 7 => some y7
  | 9 => some y9
  | 10 => some y10
  | 22 => some y22
  | 23 => some y23
  | 24 => some y24
  | 26 => some y26
  | 27 => some y27
  | 39 => some y39
  | 47 => some y47
  | 75 => some y75
  | 91 => some y91
  | 93 => some y93
  | 95 => some y95
  | 101 => some y101
  | 103 => some y103
  | 105 => some y105
  | 106 => some y106
  | 108 => some y108
  | 109 => some y109
  | 110 => some y110
  | 117 => some y117
  | 133 => some y133
  | 134 => some y134
  | 141 => some y141
  | 143 => some y143
  | 144 => some y144
  | 146 => some y146
  | 162 => some y162
  | 163 => some y163
  | 165 => some y165
  | 167 => some y167
  | 174 => some y174
  | 176 => some y176
  | 177 => some y177
  | 180 => some y180
  | 181 => some y181
  | _ => none
theorem tysOk : TOk Tryd.prog tys := by
  intro t y h
  unfold tys at h
  split at h
  · cases h; exact ok1
  · cases h; exact ok2
  · cases h; exact ok3
  · cases h; exact ok4
  · cases h; exact ok5
  · cases h; exact ok6
  · cases h; exact ok7
  · cases h; exact ok9
  · cases h; exact ok10
  · cases h; exact ok22
  · cases h; exact ok23
  · cases h; exact ok24
  · cases h; exact ok26
  · cases h; exact ok27
  · cases h; exact ok39
  · cases h; exact ok47
  · cases h; exact ok75
  · cases h; exact ok91
  · cases h; exact ok93
  · cases h; exact ok95
  · cases h; exact ok101
  · cases h; exact ok103
  · cases h; exact ok105
  · cases h; exact ok106
  · cases h; exact ok108
  · cases h; exact ok109
  · cases h; exact ok110
  · cases h; exact ok117
  · cases h; exact ok133
  · cases h; exact ok134
  · cases h; exact ok141
  · cases h; exact ok143
  · cases h; exact ok144
  · cases h; exact ok146
  · cases h; exact ok162
  · cases h; exact ok163
  · cases h; exact ok165
  · cases h; exact ok167
  · cases h; exact ok174
  · cases h; exact ok176
  · cases h; exact ok177
  · cases h; exact ok180
  · cases h; exact ok181
  · cases h
end Go.Proofs.YtgbahioegcpjiaaDoor.VT
