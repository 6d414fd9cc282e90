/- Proved: Rows.PlanBackSaid, the statement PlanBack, of the given program at the commit; no conditions beyond those in the statement. -/
import Derived.Test.YtbngdhlmggdaaaaC4x9
import Derived.Test.YtbngdhlmggdaaaaProg
set_option autoImplicit false
set_option linter.unusedVariables false
set_option maxRecDepth 100000
namespace Go.Proofs.Ytbngdhlmggdaaaa.VT
open Go Go.V
def y1 : VTy := { desc := Go.TypeDesc.func #[] #[] false, size := 1, bytes := 8, zero := [VVal.nilFunc], flat := false }
theorem ok1 : TyOk Try.prog 1 y1 := .one' Try.underlying1 Try.type1 rfl rfl rfl rfl rfl rfl
def y2 : VTy := { desc := Go.TypeDesc.int Go.IntKind.i64, size := 1, bytes := 8, zero := [VVal.int .i64 0], flat := false }
theorem ok2 : TyOk Try.prog 2 y2 := .one' Try.underlying2 Try.type2 rfl rfl rfl rfl rfl rfl
def y3 : VTy := { desc := Go.TypeDesc.int Go.IntKind.i64, size := 1, bytes := 8, zero := [VVal.int .i64 0], flat := false }
theorem ok3 : TyOk Try.prog 3 y3 := .one' Try.underlying3 Try.type3 rfl rfl rfl rfl rfl rfl
def y4 : VTy := { desc := Go.TypeDesc.bool, size := 1, bytes := 1, zero := [VVal.bool false], flat := false }
theorem ok4 : TyOk Try.prog 4 y4 := .one' Try.underlying4 Try.type4 rfl rfl rfl rfl rfl rfl
def y5 : VTy := { desc := Go.TypeDesc.int Go.IntKind.u8, size := 1, bytes := 1, zero := [VVal.int .u8 0], flat := false }
theorem ok5 : TyOk Try.prog 5 y5 := .one' Try.underlying5 Try.type5 rfl rfl rfl rfl rfl rfl
def y6 : VTy := { desc := Go.TypeDesc.int Go.IntKind.u8, size := 1, bytes := 1, zero := [VVal.int .u8 0], flat := false }
theorem ok6 : TyOk Try.prog 6 y6 := .one' Try.underlying6 Try.type6 rfl rfl rfl rfl rfl rfl
def y7 : VTy := { desc := Go.TypeDesc.struct #[{ name := "x", type := 2, offset := 0, embedded := false, tag := "", pkgPath := "runtime", byteOffset := 0 }, { name := "y", type := 3, offset := 1, embedded := false, tag := "", pkgPath := "runtime", byteOffset := 8 }, { name := "signed", type := 4, offset := 2, embedded := false, tag := "", pkgPath := "runtime", byteOffset := 16 }, { name := "code", type := 6, offset := 3, embedded := false, tag := "", pkgPath := "runtime", byteOffset := 17 }], size := 4, bytes := 24, zero := [VVal.int .i64 0, VVal.int .i64 0, VVal.bool false, VVal.int .u8 0], flat := false }
theorem ok7 : TyOk Try.prog 7 y7 := .agg' Try.underlying7 Try.type7 rfl rfl rfl rfl rfl rfl
def y8 : VTy := { desc := Go.TypeDesc.struct #[{ name := "x", type := 2, offset := 0, embedded := false, tag := "", pkgPath := "runtime", byteOffset := 0 }, { name := "y", type := 3, offset := 1, embedded := false, tag := "", pkgPath := "runtime", byteOffset := 8 }, { name := "signed", type := 4, offset := 2, embedded := false, tag := "", pkgPath := "runtime", byteOffset := 16 }, { name := "code", type := 6, offset := 3, embedded := false, tag := "", pkgPath := "runtime", byteOffset := 17 }], size := 4, bytes := 24, zero := [VVal.int .i64 0, VVal.int .i64 0, VVal.bool false, VVal.int .u8 0], flat := false }
theorem ok8 : TyOk Try.prog 8 y8 := .agg' Try.underlying8 Try.type8 rfl rfl rfl rfl rfl rfl
def y9 : VTy := { desc := Go.TypeDesc.string, size := 1, bytes := 16, zero := [VVal.str ByteArray.empty], flat := false }
theorem ok9 : TyOk Try.prog 9 y9 := .one' Try.underlying9 Try.type9 rfl rfl rfl rfl rfl rfl
def y10 : VTy := { desc := Go.TypeDesc.string, size := 1, bytes := 16, zero := [VVal.str ByteArray.empty], flat := false }
theorem ok10 : TyOk Try.prog 10 y10 := .one' Try.underlying10 Try.type10 rfl rfl rfl rfl rfl rfl
def y11 : VTy := { desc := Go.TypeDesc.string, size := 1, bytes := 16, zero := [VVal.str ByteArray.empty], flat := false }
theorem ok11 : TyOk Try.prog 11 y11 := .one' Try.underlying11 Try.type11 rfl rfl rfl rfl rfl rfl
def y12 : VTy := { desc := Go.TypeDesc.int Go.IntKind.u64, size := 1, bytes := 8, zero := [VVal.int .u64 0], flat := false }
theorem ok12 : TyOk Try.prog 12 y12 := .one' Try.underlying12 Try.type12 rfl rfl rfl rfl rfl rfl
def y13 : VTy := { desc := Go.TypeDesc.struct #[{ name := "msg", type := 9, offset := 0, embedded := false, tag := "", pkgPath := "runtime", byteOffset := 0 }, { name := "addr", type := 12, offset := 1, embedded := false, tag := "", pkgPath := "runtime", byteOffset := 16 }], size := 2, bytes := 24, zero := [VVal.str ByteArray.empty, VVal.int .u64 0], flat := false }
theorem ok13 : TyOk Try.prog 13 y13 := .agg' Try.underlying13 Try.type13 rfl rfl rfl rfl rfl rfl
def y14 : VTy := { desc := Go.TypeDesc.struct #[{ name := "msg", type := 9, offset := 0, embedded := false, tag := "", pkgPath := "runtime", byteOffset := 0 }, { name := "addr", type := 12, offset := 1, embedded := false, tag := "", pkgPath := "runtime", byteOffset := 16 }], size := 2, bytes := 24, zero := [VVal.str ByteArray.empty, VVal.int .u64 0], flat := false }
theorem ok14 : TyOk Try.prog 14 y14 := .agg' Try.underlying14 Try.type14 rfl rfl rfl rfl rfl rfl
def y15 : VTy := { desc := Go.TypeDesc.pointer 117, size := 1, bytes := 8, zero := [VVal.ptr none], flat := false }
theorem ok15 : TyOk Try.prog 15 y15 := .one' Try.underlying15 Try.type15 rfl rfl rfl rfl rfl rfl
def y16 : VTy := { desc := Go.TypeDesc.pointer 120, size := 1, bytes := 8, zero := [VVal.ptr none], flat := false }
theorem ok16 : TyOk Try.prog 16 y16 := .one' Try.underlying16 Try.type16 rfl rfl rfl rfl rfl rfl
def y17 : VTy := { desc := Go.TypeDesc.pointer 129, size := 1, bytes := 8, zero := [VVal.ptr none], flat := false }
theorem ok17 : TyOk Try.prog 17 y17 := .one' Try.underlying17 Try.type17 rfl rfl rfl rfl rfl rfl
def y18 : VTy := { desc := Go.TypeDesc.struct #[{ name := "typ", type := 17, offset := 0, embedded := false, tag := "", pkgPath := "internal/runtime/maps", byteOffset := 0 }], size := 1, bytes := 8, zero := [VVal.ptr none], flat := false }
theorem ok18 : TyOk Try.prog 18 y18 := .agg' Try.underlying18 Try.type18 rfl rfl rfl rfl rfl rfl
def y19 : VTy := { desc := Go.TypeDesc.struct #[{ name := "typ", type := 17, offset := 0, embedded := false, tag := "", pkgPath := "internal/runtime/maps", byteOffset := 0 }], size := 1, bytes := 8, zero := [VVal.ptr none], flat := false }
theorem ok19 : TyOk Try.prog 19 y19 := .agg' Try.underlying19 Try.type19 rfl rfl rfl rfl rfl rfl
def y20 : VTy := { desc := Go.TypeDesc.interface #[], size := 1, bytes := 16, zero := [VVal.nilIface], flat := false }
theorem ok20 : TyOk Try.prog 20 y20 := .one' Try.underlying20 Try.type20 rfl rfl rfl rfl rfl rfl
def y21 : VTy := { desc := Go.TypeDesc.int Go.IntKind.i32, size := 1, bytes := 4, zero := [VVal.int .i32 0], flat := false }
theorem ok21 : TyOk Try.prog 21 y21 := .one' Try.underlying21 Try.type21 rfl rfl rfl rfl rfl rfl
def y22 : VTy := { desc := Go.TypeDesc.slice 68, size := 1, bytes := 24, zero := [VVal.slice none 0 0 true 0], flat := false }
theorem ok22 : TyOk Try.prog 22 y22 := .one' Try.underlying22 Try.type22 rfl rfl rfl rfl rfl rfl
def y23 : VTy := { desc := Go.TypeDesc.slice 3, size := 1, bytes := 24, zero := [VVal.slice none 0 0 true 0], flat := false }
theorem ok23 : TyOk Try.prog 23 y23 := .one' Try.underlying23 Try.type23 rfl rfl rfl rfl rfl rfl
def y24 : VTy := { desc := Go.TypeDesc.slice 63, size := 1, bytes := 24, zero := [VVal.slice none 0 0 true 0], flat := false }
theorem ok24 : TyOk Try.prog 24 y24 := .one' Try.underlying24 Try.type24 rfl rfl rfl rfl rfl rfl
def y25 : VTy := { desc := Go.TypeDesc.struct #[{ name := "Users", type := 3, offset := 0, embedded := false, tag := "", pkgPath := "", byteOffset := 0 }, { name := "Who", type := 22, offset := 1, embedded := false, tag := "", pkgPath := "", byteOffset := 8 }, { name := "Fixed", type := 23, offset := 2, embedded := false, tag := "", pkgPath := "", byteOffset := 32 }, { name := "Rules", type := 24, offset := 3, embedded := false, tag := "", pkgPath := "", byteOffset := 56 }], size := 4, bytes := 80, zero := [VVal.int .i64 0, VVal.slice none 0 0 true 0, VVal.slice none 0 0 true 0, VVal.slice none 0 0 true 0], flat := false }
theorem ok25 : TyOk Try.prog 25 y25 := .agg' Try.underlying25 Try.type25 rfl rfl rfl rfl rfl rfl
def y26 : VTy := { desc := Go.TypeDesc.struct #[{ name := "Users", type := 3, offset := 0, embedded := false, tag := "", pkgPath := "", byteOffset := 0 }, { name := "Who", type := 22, offset := 1, embedded := false, tag := "", pkgPath := "", byteOffset := 8 }, { name := "Fixed", type := 23, offset := 2, embedded := false, tag := "", pkgPath := "", byteOffset := 32 }, { name := "Rules", type := 24, offset := 3, embedded := false, tag := "", pkgPath := "", byteOffset := 56 }], size := 4, bytes := 80, zero := [VVal.int .i64 0, VVal.slice none 0 0 true 0, VVal.slice none 0 0 true 0, VVal.slice none 0 0 true 0], flat := false }
theorem ok26 : TyOk Try.prog 26 y26 := .agg' Try.underlying26 Try.type26 rfl rfl rfl rfl rfl rfl
def y27 : VTy := { desc := Go.TypeDesc.func #[26] #[26] false, size := 1, bytes := 8, zero := [VVal.nilFunc], flat := false }
theorem ok27 : TyOk Try.prog 27 y27 := .one' Try.underlying27 Try.type27 rfl rfl rfl rfl rfl rfl
def y28 : VTy := { desc := Go.TypeDesc.slice 71, size := 1, bytes := 24, zero := [VVal.slice none 0 0 true 0], flat := false }
theorem ok28 : TyOk Try.prog 28 y28 := .one' Try.underlying28 Try.type28 rfl rfl rfl rfl rfl rfl
def y29 : VTy := { desc := Go.TypeDesc.int Go.IntKind.i64, size := 1, bytes := 8, zero := [VVal.int .i64 0], flat := false }
theorem ok29 : TyOk Try.prog 29 y29 := .one' Try.underlying29 Try.type29 rfl rfl rfl rfl rfl rfl
def y31 : VTy := { desc := Go.TypeDesc.func #[26, 23] #[28, 29] false, size := 1, bytes := 8, zero := [VVal.nilFunc], flat := false }
theorem ok31 : TyOk Try.prog 31 y31 := .one' Try.underlying31 Try.type31 rfl rfl rfl rfl rfl rfl
def y32 : VTy := { desc := Go.TypeDesc.func #[23] #[23] false, size := 1, bytes := 8, zero := [VVal.nilFunc], flat := false }
theorem ok32 : TyOk Try.prog 32 y32 := .one' Try.underlying32 Try.type32 rfl rfl rfl rfl rfl rfl
def y33 : VTy := { desc := Go.TypeDesc.func #[26] #[3] false, size := 1, bytes := 8, zero := [VVal.nilFunc], flat := false }
theorem ok33 : TyOk Try.prog 33 y33 := .one' Try.underlying33 Try.type33 rfl rfl rfl rfl rfl rfl
def y34 : VTy := { desc := Go.TypeDesc.func #[] #[4] false, size := 1, bytes := 8, zero := [VVal.nilFunc], flat := false }
theorem ok34 : TyOk Try.prog 34 y34 := .one' Try.underlying34 Try.type34 rfl rfl rfl rfl rfl rfl
def y35 : VTy := { desc := Go.TypeDesc.func #[28, 28] #[4] false, size := 1, bytes := 8, zero := [VVal.nilFunc], flat := false }
theorem ok35 : TyOk Try.prog 35 y35 := .one' Try.underlying35 Try.type35 rfl rfl rfl rfl rfl rfl
def y36 : VTy := { desc := Go.TypeDesc.func #[26, 23] #[28] false, size := 1, bytes := 8, zero := [VVal.nilFunc], flat := false }
theorem ok36 : TyOk Try.prog 36 y36 := .one' Try.underlying36 Try.type36 rfl rfl rfl rfl rfl rfl
def y37 : VTy := { desc := Go.TypeDesc.func #[26, 23] #[4] false, size := 1, bytes := 8, zero := [VVal.nilFunc], flat := false }
theorem ok37 : TyOk Try.prog 37 y37 := .one' Try.underlying37 Try.type37 rfl rfl rfl rfl rfl rfl
def y38 : VTy := { desc := Go.TypeDesc.slice 5, size := 1, bytes := 24, zero := [VVal.slice none 0 0 true 0], flat := false }
theorem ok38 : TyOk Try.prog 38 y38 := .one' Try.underlying38 Try.type38 rfl rfl rfl rfl rfl rfl
def y40 : VTy := { desc := Go.TypeDesc.func #[26, 23] #[38, 29] false, size := 1, bytes := 8, zero := [VVal.nilFunc], flat := false }
theorem ok40 : TyOk Try.prog 40 y40 := .one' Try.underlying40 Try.type40 rfl rfl rfl rfl rfl rfl
def y42 : VTy := { desc := Go.TypeDesc.func #[26, 23] #[38, 3] false, size := 1, bytes := 8, zero := [VVal.nilFunc], flat := false }
theorem ok42 : TyOk Try.prog 42 y42 := .one' Try.underlying42 Try.type42 rfl rfl rfl rfl rfl rfl
def y44 : VTy := { desc := Go.TypeDesc.func #[38] #[26, 23, 29] false, size := 1, bytes := 8, zero := [VVal.nilFunc], flat := false }
theorem ok44 : TyOk Try.prog 44 y44 := .one' Try.underlying44 Try.type44 rfl rfl rfl rfl rfl rfl
def y45 : VTy := { desc := Go.TypeDesc.func #[38] #[38] false, size := 1, bytes := 8, zero := [VVal.nilFunc], flat := false }
theorem ok45 : TyOk Try.prog 45 y45 := .one' Try.underlying45 Try.type45 rfl rfl rfl rfl rfl rfl
def y47 : VTy := { desc := Go.TypeDesc.func #[38] #[26, 23, 3] false, size := 1, bytes := 8, zero := [VVal.nilFunc], flat := false }
theorem ok47 : TyOk Try.prog 47 y47 := .one' Try.underlying47 Try.type47 rfl rfl rfl rfl rfl rfl
def y48 : VTy := { desc := Go.TypeDesc.func #[26, 26] #[4] false, size := 1, bytes := 8, zero := [VVal.nilFunc], flat := false }
theorem ok48 : TyOk Try.prog 48 y48 := .one' Try.underlying48 Try.type48 rfl rfl rfl rfl rfl rfl
def y49 : VTy := { desc := Go.TypeDesc.func #[23, 23] #[4] false, size := 1, bytes := 8, zero := [VVal.nilFunc], flat := false }
theorem ok49 : TyOk Try.prog 49 y49 := .one' Try.underlying49 Try.type49 rfl rfl rfl rfl rfl rfl
def y50 : VTy := { desc := Go.TypeDesc.func #[38] #[4] false, size := 1, bytes := 8, zero := [VVal.nilFunc], flat := false }
theorem ok50 : TyOk Try.prog 50 y50 := .one' Try.underlying50 Try.type50 rfl rfl rfl rfl rfl rfl
def y51 : VTy := { desc := Go.TypeDesc.pointer 55, size := 1, bytes := 8, zero := [VVal.ptr none], flat := false }
theorem ok51 : TyOk Try.prog 51 y51 := .one' Try.underlying51 Try.type51 rfl rfl rfl rfl rfl rfl
def y52 : VTy := { desc := Go.TypeDesc.slice 23, size := 1, bytes := 24, zero := [VVal.slice none 0 0 true 0], flat := false }
theorem ok52 : TyOk Try.prog 52 y52 := .one' Try.underlying52 Try.type52 rfl rfl rfl rfl rfl rfl
def y53 : VTy := { desc := Go.TypeDesc.slice 22, size := 1, bytes := 24, zero := [VVal.slice none 0 0 true 0], flat := false }
theorem ok53 : TyOk Try.prog 53 y53 := .one' Try.underlying53 Try.type53 rfl rfl rfl rfl rfl rfl
def y54 : VTy := { desc := Go.TypeDesc.struct #[{ name := "full", type := 52, offset := 0, embedded := false, tag := "", pkgPath := "provost/provostkeep", byteOffset := 0 }, { name := "want", type := 52, offset := 1, embedded := false, tag := "", pkgPath := "provost/provostkeep", byteOffset := 24 }, { name := "rows", type := 53, offset := 2, embedded := false, tag := "", pkgPath := "provost/provostkeep", byteOffset := 48 }, { name := "rest", type := 53, offset := 3, embedded := false, tag := "", pkgPath := "provost/provostkeep", byteOffset := 72 }], size := 4, bytes := 96, zero := [VVal.slice none 0 0 true 0, VVal.slice none 0 0 true 0, VVal.slice none 0 0 true 0, VVal.slice none 0 0 true 0], flat := false }
theorem ok54 : TyOk Try.prog 54 y54 := .agg' Try.underlying54 Try.type54 rfl rfl rfl rfl rfl rfl
def y55 : VTy := { desc := Go.TypeDesc.struct #[{ name := "full", type := 52, offset := 0, embedded := false, tag := "", pkgPath := "provost/provostkeep", byteOffset := 0 }, { name := "want", type := 52, offset := 1, embedded := false, tag := "", pkgPath := "provost/provostkeep", byteOffset := 24 }, { name := "rows", type := 53, offset := 2, embedded := false, tag := "", pkgPath := "provost/provostkeep", byteOffset := 48 }, { name := "rest", type := 53, offset := 3, embedded := false, tag := "", pkgPath := "provost/provostkeep", byteOffset := 72 }], size := 4, bytes := 96, zero := [VVal.slice none 0 0 true 0, VVal.slice none 0 0 true 0, VVal.slice none 0 0 true 0, VVal.slice none 0 0 true 0], flat := false }
theorem ok55 : TyOk Try.prog 55 y55 := .agg' Try.underlying55 Try.type55 rfl rfl rfl rfl rfl rfl
def y56 : VTy := { desc := Go.TypeDesc.pointer 60, size := 1, bytes := 8, zero := [VVal.ptr none], flat := false }
theorem ok56 : TyOk Try.prog 56 y56 := .one' Try.underlying56 Try.type56 rfl rfl rfl rfl rfl rfl
def y57 : VTy := { desc := Go.TypeDesc.slice 38, size := 1, bytes := 24, zero := [VVal.slice none 0 0 true 0], flat := false }
theorem ok57 : TyOk Try.prog 57 y57 := .one' Try.underlying57 Try.type57 rfl rfl rfl rfl rfl rfl
def y58 : VTy := { desc := Go.TypeDesc.slice 100, size := 1, bytes := 24, zero := [VVal.slice none 0 0 true 0], flat := false }
theorem ok58 : TyOk Try.prog 58 y58 := .one' Try.underlying58 Try.type58 rfl rfl rfl rfl rfl rfl
def y59 : VTy := { desc := Go.TypeDesc.struct #[{ name := "bytes", type := 57, offset := 0, embedded := false, tag := "", pkgPath := "provost/provostkeep", byteOffset := 0 }, { name := "bytesWant", type := 57, offset := 1, embedded := false, tag := "", pkgPath := "provost/provostkeep", byteOffset := 24 }, { name := "bytesOne", type := 57, offset := 2, embedded := false, tag := "", pkgPath := "provost/provostkeep", byteOffset := 48 }, { name := "bytesMany", type := 57, offset := 3, embedded := false, tag := "", pkgPath := "provost/provostkeep", byteOffset := 72 }, { name := "ints", type := 52, offset := 4, embedded := false, tag := "", pkgPath := "provost/provostkeep", byteOffset := 96 }, { name := "intsWant", type := 52, offset := 5, embedded := false, tag := "", pkgPath := "provost/provostkeep", byteOffset := 120 }, { name := "intsOne", type := 52, offset := 6, embedded := false, tag := "", pkgPath := "provost/provostkeep", byteOffset := 144 }, { name := "intsMany", type := 52, offset := 7, embedded := false, tag := "", pkgPath := "provost/provostkeep", byteOffset := 168 }, { name := "texts", type := 58, offset := 8, embedded := false, tag := "", pkgPath := "provost/provostkeep", byteOffset := 192 }, { name := "textsWant", type := 58, offset := 9, embedded := false, tag := "", pkgPath := "provost/provostkeep", byteOffset := 216 }, { name := "textsOne", type := 58, offset := 10, embedded := false, tag := "", pkgPath := "provost/provostkeep", byteOffset := 240 }, { name := "textsMany", type := 58, offset := 11, embedded := false, tag := "", pkgPath := "provost/provostkeep", byteOffset := 264 }, { name := "n", type := 3, offset := 12, embedded := false, tag := "", pkgPath := "provost/provostkeep", byteOffset := 288 }], size := 13, bytes := 296, zero := [VVal.slice none 0 0 true 0, VVal.slice none 0 0 true 0, VVal.slice none 0 0 true 0, VVal.slice none 0 0 true 0, VVal.slice none 0 0 true 0, VVal.slice none 0 0 true 0, VVal.slice none 0 0 true 0, VVal.slice none 0 0 true 0, VVal.slice none 0 0 true 0, VVal.slice none 0 0 true 0, VVal.slice none 0 0 true 0, VVal.slice none 0 0 true 0, VVal.int .i64 0], flat := false }
theorem ok59 : TyOk Try.prog 59 y59 := .agg' Try.underlying59 Try.type59 rfl rfl rfl rfl rfl rfl
def y60 : VTy := { desc := Go.TypeDesc.struct #[{ name := "bytes", type := 57, offset := 0, embedded := false, tag := "", pkgPath := "provost/provostkeep", byteOffset := 0 }, { name := "bytesWant", type := 57, offset := 1, embedded := false, tag := "", pkgPath := "provost/provostkeep", byteOffset := 24 }, { name := "bytesOne", type := 57, offset := 2, embedded := false, tag := "", pkgPath := "provost/provostkeep", byteOffset := 48 }, { name := "bytesMany", type := 57, offset := 3, embedded := false, tag := "", pkgPath := "provost/provostkeep", byteOffset := 72 }, { name := "ints", type := 52, offset := 4, embedded := false, tag := "", pkgPath := "provost/provostkeep", byteOffset := 96 }, { name := "intsWant", type := 52, offset := 5, embedded := false, tag := "", pkgPath := "provost/provostkeep", byteOffset := 120 }, { name := "intsOne", type := 52, offset := 6, embedded := false, tag := "", pkgPath := "provost/provostkeep", byteOffset := 144 }, { name := "intsMany", type := 52, offset := 7, embedded := false, tag := "", pkgPath := "provost/provostkeep", byteOffset := 168 }, { name := "texts", type := 58, offset := 8, embedded := false, tag := "", pkgPath := "provost/provostkeep", byteOffset := 192 }, { name := "textsWant", type := 58, offset := 9, embedded := false, tag := "", pkgPath := "provost/provostkeep", byteOffset := 216 }, { name := "textsOne", type := 58, offset := 10, embedded := false, tag := "", pkgPath := "provost/provostkeep", byteOffset := 240 }, { name := "textsMany", type := 58, offset := 11, embedded := false, tag := "", pkgPath := "provost/provostkeep", byteOffset := 264 }, { name := "n", type := 3, offset := 12, embedded := false, tag := "", pkgPath := "provost/provostkeep", byteOffset := 288 }], size := 13, bytes := 296, zero := [VVal.slice none 0 0 true 0, VVal.slice none 0 0 true 0, VVal.slice none 0 0 true 0, VVal.slice none 0 0 true 0, VVal.slice none 0 0 true 0, VVal.slice none 0 0 true 0, VVal.slice none 0 0 true 0, VVal.slice none 0 0 true 0, VVal.slice none 0 0 true 0, VVal.slice none 0 0 true 0, VVal.slice none 0 0 true 0, VVal.slice none 0 0 true 0, VVal.int .i64 0], flat := false }
theorem ok60 : TyOk Try.prog 60 y60 := .agg' Try.underlying60 Try.type60 rfl rfl rfl rfl rfl rfl
def y61 : VTy := { desc := Go.TypeDesc.func #[22] #[22] false, size := 1, bytes := 8, zero := [VVal.nilFunc], flat := false }
theorem ok61 : TyOk Try.prog 61 y61 := .one' Try.underlying61 Try.type61 rfl rfl rfl rfl rfl rfl
def y62 : VTy := { desc := Go.TypeDesc.struct #[{ name := "Kind", type := 3, offset := 0, embedded := false, tag := "", pkgPath := "", byteOffset := 0 }, { name := "K", type := 3, offset := 1, embedded := false, tag := "", pkgPath := "", byteOffset := 8 }, { name := "Steps", type := 23, offset := 2, embedded := false, tag := "", pkgPath := "", byteOffset := 16 }], size := 3, bytes := 40, zero := [VVal.int .i64 0, VVal.int .i64 0, VVal.slice none 0 0 true 0], flat := false }
theorem ok62 : TyOk Try.prog 62 y62 := .agg' Try.underlying62 Try.type62 rfl rfl rfl rfl rfl rfl
def y63 : VTy := { desc := Go.TypeDesc.struct #[{ name := "Kind", type := 3, offset := 0, embedded := false, tag := "", pkgPath := "", byteOffset := 0 }, { name := "K", type := 3, offset := 1, embedded := false, tag := "", pkgPath := "", byteOffset := 8 }, { name := "Steps", type := 23, offset := 2, embedded := false, tag := "", pkgPath := "", byteOffset := 16 }], size := 3, bytes := 40, zero := [VVal.int .i64 0, VVal.int .i64 0, VVal.slice none 0 0 true 0], flat := false }
theorem ok63 : TyOk Try.prog 63 y63 := .agg' Try.underlying63 Try.type63 rfl rfl rfl rfl rfl rfl
def y64 : VTy := { desc := Go.TypeDesc.func #[38] #[] false, size := 1, bytes := 8, zero := [VVal.nilFunc], flat := false }
theorem ok64 : TyOk Try.prog 64 y64 := .one' Try.underlying64 Try.type64 rfl rfl rfl rfl rfl rfl
def y65 : VTy := { desc := Go.TypeDesc.func #[24, 24] #[4] false, size := 1, bytes := 8, zero := [VVal.nilFunc], flat := false }
theorem ok65 : TyOk Try.prog 65 y65 := .one' Try.underlying65 Try.type65 rfl rfl rfl rfl rfl rfl
def y66 : VTy := { desc := Go.TypeDesc.func #[23] #[] false, size := 1, bytes := 8, zero := [VVal.nilFunc], flat := false }
theorem ok66 : TyOk Try.prog 66 y66 := .one' Try.underlying66 Try.type66 rfl rfl rfl rfl rfl rfl
def y67 : VTy := { desc := Go.TypeDesc.func #[26, 23, 38] #[4] false, size := 1, bytes := 8, zero := [VVal.nilFunc], flat := false }
theorem ok67 : TyOk Try.prog 67 y67 := .one' Try.underlying67 Try.type67 rfl rfl rfl rfl rfl rfl
def y68 : VTy := { desc := Go.TypeDesc.int Go.IntKind.u64, size := 1, bytes := 8, zero := [VVal.int .u64 0], flat := false }
theorem ok68 : TyOk Try.prog 68 y68 := .one' Try.underlying68 Try.type68 rfl rfl rfl rfl rfl rfl
def y69 : VTy := { desc := Go.TypeDesc.func #[26] #[29] false, size := 1, bytes := 8, zero := [VVal.nilFunc], flat := false }
theorem ok69 : TyOk Try.prog 69 y69 := .one' Try.underlying69 Try.type69 rfl rfl rfl rfl rfl rfl
def y70 : VTy := { desc := Go.TypeDesc.struct #[{ name := "Kind", type := 3, offset := 0, embedded := false, tag := "", pkgPath := "", byteOffset := 0 }, { name := "Step", type := 3, offset := 1, embedded := false, tag := "", pkgPath := "", byteOffset := 8 }, { name := "Rule", type := 3, offset := 2, embedded := false, tag := "", pkgPath := "", byteOffset := 16 }], size := 3, bytes := 24, zero := [VVal.int .i64 0, VVal.int .i64 0, VVal.int .i64 0], flat := true }
theorem ok70 : TyOk Try.prog 70 y70 := .str' Try.underlying70 Try.type70 rfl rfl rfl rfl rfl rfl (by kernel_rfl) (by kernel_rfl) (fun i f h => match i, f, h with | 0, _, h => by simp at h; subst h; exact ⟨by decide, rfl, _, Try.underlying3⟩ | 1, _, h => by simp at h; subst h; exact ⟨by decide, rfl, _, Try.underlying3⟩ | 2, _, h => by simp at h; subst h; exact ⟨by decide, rfl, _, Try.underlying3⟩ | n + 3, _, h => by simp at h) (by kernel_rfl)
def y71 : VTy := { desc := Go.TypeDesc.struct #[{ name := "Kind", type := 3, offset := 0, embedded := false, tag := "", pkgPath := "", byteOffset := 0 }, { name := "Step", type := 3, offset := 1, embedded := false, tag := "", pkgPath := "", byteOffset := 8 }, { name := "Rule", type := 3, offset := 2, embedded := false, tag := "", pkgPath := "", byteOffset := 16 }], size := 3, bytes := 24, zero := [VVal.int .i64 0, VVal.int .i64 0, VVal.int .i64 0], flat := true }
theorem ok71 : TyOk Try.prog 71 y71 := .str' Try.underlying71 Try.type71 rfl rfl rfl rfl rfl rfl (by kernel_rfl) (by kernel_rfl) (fun i f h => match i, f, h with | 0, _, h => by simp at h; subst h; exact ⟨by decide, rfl, _, Try.underlying3⟩ | 1, _, h => by simp at h; subst h; exact ⟨by decide, rfl, _, Try.underlying3⟩ | 2, _, h => by simp at h; subst h; exact ⟨by decide, rfl, _, Try.underlying3⟩ | n + 3, _, h => by simp at h) (by kernel_rfl)
def y72 : VTy := { desc := Go.TypeDesc.struct #[{ name := "word", type := 68, offset := 0, embedded := false, tag := "", pkgPath := "provost/bits", byteOffset := 0 }], size := 1, bytes := 8, zero := [VVal.int .u64 0], flat := true }
theorem ok72 : TyOk Try.prog 72 y72 := .str' Try.underlying72 Try.type72 rfl rfl rfl rfl rfl rfl (by kernel_rfl) (by kernel_rfl) (fun i f h => match i, f, h with | 0, _, h => by simp at h; subst h; exact ⟨by decide, rfl, _, Try.underlying68⟩ | n + 1, _, h => by simp at h) (by kernel_rfl)
def y73 : VTy := { desc := Go.TypeDesc.struct #[{ name := "word", type := 68, offset := 0, embedded := false, tag := "", pkgPath := "provost/bits", byteOffset := 0 }], size := 1, bytes := 8, zero := [VVal.int .u64 0], flat := true }
theorem ok73 : TyOk Try.prog 73 y73 := .str' Try.underlying73 Try.type73 rfl rfl rfl rfl rfl rfl (by kernel_rfl) (by kernel_rfl) (fun i f h => match i, f, h with | 0, _, h => by simp at h; subst h; exact ⟨by decide, rfl, _, Try.underlying68⟩ | n + 1, _, h => by simp at h) (by kernel_rfl)
def y74 : VTy := { desc := Go.TypeDesc.func #[68] #[73] false, size := 1, bytes := 8, zero := [VVal.nilFunc], flat := false }
theorem ok74 : TyOk Try.prog 74 y74 := .one' Try.underlying74 Try.type74 rfl rfl rfl rfl rfl rfl
def y75 : VTy := { desc := Go.TypeDesc.func #[3] #[4] false, size := 1, bytes := 8, zero := [VVal.nilFunc], flat := false }
theorem ok75 : TyOk Try.prog 75 y75 := .one' Try.underlying75 Try.type75 rfl rfl rfl rfl rfl rfl
def y76 : VTy := { desc := Go.TypeDesc.func #[24, 23] #[23] false, size := 1, bytes := 8, zero := [VVal.nilFunc], flat := false }
theorem ok76 : TyOk Try.prog 76 y76 := .one' Try.underlying76 Try.type76 rfl rfl rfl rfl rfl rfl
def y77 : VTy := { desc := Go.TypeDesc.func #[3, 24] #[4] false, size := 1, bytes := 8, zero := [VVal.nilFunc], flat := false }
theorem ok77 : TyOk Try.prog 77 y77 := .one' Try.underlying77 Try.type77 rfl rfl rfl rfl rfl rfl
def y78 : VTy := { desc := Go.TypeDesc.slice 5, size := 1, bytes := 24, zero := [VVal.slice none 0 0 true 0], flat := false }
theorem ok78 : TyOk Try.prog 78 y78 := .one' Try.underlying78 Try.type78 rfl rfl rfl rfl rfl rfl
def y79 : VTy := { desc := Go.TypeDesc.func #[68, 3] #[] false, size := 1, bytes := 8, zero := [VVal.nilFunc], flat := false }
theorem ok79 : TyOk Try.prog 79 y79 := .one' Try.underlying79 Try.type79 rfl rfl rfl rfl rfl rfl
def y80 : VTy := { desc := Go.TypeDesc.func #[26, 23] #[38] false, size := 1, bytes := 8, zero := [VVal.nilFunc], flat := false }
theorem ok80 : TyOk Try.prog 80 y80 := .one' Try.underlying80 Try.type80 rfl rfl rfl rfl rfl rfl
def y81 : VTy := { desc := Go.TypeDesc.pointer 83, size := 1, bytes := 8, zero := [VVal.ptr none], flat := false }
theorem ok81 : TyOk Try.prog 81 y81 := .one' Try.underlying81 Try.type81 rfl rfl rfl rfl rfl rfl
def y82 : VTy := { desc := Go.TypeDesc.struct #[{ name := "left", type := 38, offset := 0, embedded := false, tag := "", pkgPath := "provost/plan", byteOffset := 0 }, { name := "short", type := 4, offset := 1, embedded := false, tag := "", pkgPath := "provost/plan", byteOffset := 24 }], size := 2, bytes := 32, zero := [VVal.slice none 0 0 true 0, VVal.bool false], flat := false }
theorem ok82 : TyOk Try.prog 82 y82 := .agg' Try.underlying82 Try.type82 rfl rfl rfl rfl rfl rfl
def y83 : VTy := { desc := Go.TypeDesc.struct #[{ name := "left", type := 38, offset := 0, embedded := false, tag := "", pkgPath := "provost/plan", byteOffset := 0 }, { name := "short", type := 4, offset := 1, embedded := false, tag := "", pkgPath := "provost/plan", byteOffset := 24 }], size := 2, bytes := 32, zero := [VVal.slice none 0 0 true 0, VVal.bool false], flat := false }
theorem ok83 : TyOk Try.prog 83 y83 := .agg' Try.underlying83 Try.type83 rfl rfl rfl rfl rfl rfl
def y84 : VTy := { desc := Go.TypeDesc.func #[3] #[68] false, size := 1, bytes := 8, zero := [VVal.nilFunc], flat := false }
theorem ok84 : TyOk Try.prog 84 y84 := .one' Try.underlying84 Try.type84 rfl rfl rfl rfl rfl rfl
def y85 : VTy := { desc := Go.TypeDesc.int Go.IntKind.u64, size := 1, bytes := 8, zero := [VVal.int .u64 0], flat := false }
theorem ok85 : TyOk Try.prog 85 y85 := .one' Try.underlying85 Try.type85 rfl rfl rfl rfl rfl rfl
def y86 : VTy := { desc := Go.TypeDesc.func #[] #[63] false, size := 1, bytes := 8, zero := [VVal.nilFunc], flat := false }
theorem ok86 : TyOk Try.prog 86 y86 := .one' Try.underlying86 Try.type86 rfl rfl rfl rfl rfl rfl
def y87 : VTy := { desc := Go.TypeDesc.func #[38] #[68] false, size := 1, bytes := 8, zero := [VVal.nilFunc], flat := false }
theorem ok87 : TyOk Try.prog 87 y87 := .one' Try.underlying87 Try.type87 rfl rfl rfl rfl rfl rfl
def y89 : VTy := { desc := Go.TypeDesc.func #[38, 3] #[24, 4] false, size := 1, bytes := 8, zero := [VVal.nilFunc], flat := false }
theorem ok89 : TyOk Try.prog 89 y89 := .one' Try.underlying89 Try.type89 rfl rfl rfl rfl rfl rfl
def y90 : VTy := { desc := Go.TypeDesc.func #[22, 22] #[4] false, size := 1, bytes := 8, zero := [VVal.nilFunc], flat := false }
theorem ok90 : TyOk Try.prog 90 y90 := .one' Try.underlying90 Try.type90 rfl rfl rfl rfl rfl rfl
def y91 : VTy := { desc := Go.TypeDesc.func #[63, 63] #[4] false, size := 1, bytes := 8, zero := [VVal.nilFunc], flat := false }
theorem ok91 : TyOk Try.prog 91 y91 := .one' Try.underlying91 Try.type91 rfl rfl rfl rfl rfl rfl
def y92 : VTy := { desc := Go.TypeDesc.func #[26, 3] #[68] false, size := 1, bytes := 8, zero := [VVal.nilFunc], flat := false }
theorem ok92 : TyOk Try.prog 92 y92 := .one' Try.underlying92 Try.type92 rfl rfl rfl rfl rfl rfl
def y93 : VTy := { desc := Go.TypeDesc.func #[] #[3] false, size := 1, bytes := 8, zero := [VVal.nilFunc], flat := false }
theorem ok93 : TyOk Try.prog 93 y93 := .one' Try.underlying93 Try.type93 rfl rfl rfl rfl rfl rfl
def y94 : VTy := { desc := Go.TypeDesc.func #[3, 63] #[29] false, size := 1, bytes := 8, zero := [VVal.nilFunc], flat := false }
theorem ok94 : TyOk Try.prog 94 y94 := .one' Try.underlying94 Try.type94 rfl rfl rfl rfl rfl rfl
def y95 : VTy := { desc := Go.TypeDesc.func #[63, 23] #[4] false, size := 1, bytes := 8, zero := [VVal.nilFunc], flat := false }
theorem ok95 : TyOk Try.prog 95 y95 := .one' Try.underlying95 Try.type95 rfl rfl rfl rfl rfl rfl
def y96 : VTy := { desc := Go.TypeDesc.func #[3, 63] #[4] false, size := 1, bytes := 8, zero := [VVal.nilFunc], flat := false }
theorem ok96 : TyOk Try.prog 96 y96 := .one' Try.underlying96 Try.type96 rfl rfl rfl rfl rfl rfl
def y97 : VTy := { desc := Go.TypeDesc.pointer 78, size := 1, bytes := 8, zero := [VVal.ptr none], flat := false }
theorem ok97 : TyOk Try.prog 97 y97 := .one' Try.underlying97 Try.type97 rfl rfl rfl rfl rfl rfl
def y98 : VTy := { desc := Go.TypeDesc.func #[68, 3] #[38] false, size := 1, bytes := 8, zero := [VVal.nilFunc], flat := false }
theorem ok98 : TyOk Try.prog 98 y98 := .one' Try.underlying98 Try.type98 rfl rfl rfl rfl rfl rfl
def y99 : VTy := { desc := Go.TypeDesc.func #[100, 100] #[4] false, size := 1, bytes := 8, zero := [VVal.nilFunc], flat := false }
theorem ok99 : TyOk Try.prog 99 y99 := .one' Try.underlying99 Try.type99 rfl rfl rfl rfl rfl rfl
def y100 : VTy := { desc := Go.TypeDesc.slice 9, size := 1, bytes := 24, zero := [VVal.slice none 0 0 true 0], flat := false }
theorem ok100 : TyOk Try.prog 100 y100 := .one' Try.underlying100 Try.type100 rfl rfl rfl rfl rfl rfl
def y101 : VTy := { desc := Go.TypeDesc.func #[57] #[4] false, size := 1, bytes := 8, zero := [VVal.nilFunc], flat := false }
theorem ok101 : TyOk Try.prog 101 y101 := .one' Try.underlying101 Try.type101 rfl rfl rfl rfl rfl rfl
def y102 : VTy := { desc := Go.TypeDesc.func #[52] #[4] false, size := 1, bytes := 8, zero := [VVal.nilFunc], flat := false }
theorem ok102 : TyOk Try.prog 102 y102 := .one' Try.underlying102 Try.type102 rfl rfl rfl rfl rfl rfl
def y103 : VTy := { desc := Go.TypeDesc.func #[3] #[9] false, size := 1, bytes := 8, zero := [VVal.nilFunc], flat := false }
theorem ok103 : TyOk Try.prog 103 y103 := .one' Try.underlying103 Try.type103 rfl rfl rfl rfl rfl rfl
def y104 : VTy := { desc := Go.TypeDesc.func #[58] #[4] false, size := 1, bytes := 8, zero := [VVal.nilFunc], flat := false }
theorem ok104 : TyOk Try.prog 104 y104 := .one' Try.underlying104 Try.type104 rfl rfl rfl rfl rfl rfl
def y105 : VTy := { desc := Go.TypeDesc.func #[68] #[3] false, size := 1, bytes := 8, zero := [VVal.nilFunc], flat := false }
theorem ok105 : TyOk Try.prog 105 y105 := .one' Try.underlying105 Try.type105 rfl rfl rfl rfl rfl rfl
def y106 : VTy := { desc := Go.TypeDesc.func #[63, 3, 23] #[4] false, size := 1, bytes := 8, zero := [VVal.nilFunc], flat := false }
theorem ok106 : TyOk Try.prog 106 y106 := .one' Try.underlying106 Try.type106 rfl rfl rfl rfl rfl rfl
def y107 : VTy := { desc := Go.TypeDesc.func #[109, 3] #[4] false, size := 1, bytes := 8, zero := [VVal.nilFunc], flat := false }
theorem ok107 : TyOk Try.prog 107 y107 := .one' Try.underlying107 Try.type107 rfl rfl rfl rfl rfl rfl
def y108 : VTy := { desc := Go.TypeDesc.struct #[{ name := "most", type := 3, offset := 0, embedded := false, tag := "", pkgPath := "provost/rule", byteOffset := 0 }, { name := "unlike", type := 3, offset := 1, embedded := false, tag := "", pkgPath := "provost/rule", byteOffset := 8 }, { name := "left", type := 3, offset := 2, embedded := false, tag := "", pkgPath := "provost/rule", byteOffset := 16 }], size := 3, bytes := 24, zero := [VVal.int .i64 0, VVal.int .i64 0, VVal.int .i64 0], flat := true }
theorem ok108 : TyOk Try.prog 108 y108 := .str' Try.underlying108 Try.type108 rfl rfl rfl rfl rfl rfl (by kernel_rfl) (by kernel_rfl) (fun i f h => match i, f, h with | 0, _, h => by simp at h; subst h; exact ⟨by decide, rfl, _, Try.underlying3⟩ | 1, _, h => by simp at h; subst h; exact ⟨by decide, rfl, _, Try.underlying3⟩ | 2, _, h => by simp at h; subst h; exact ⟨by decide, rfl, _, Try.underlying3⟩ | n + 3, _, h => by simp at h) (by kernel_rfl)
def y109 : VTy := { desc := Go.TypeDesc.struct #[{ name := "most", type := 3, offset := 0, embedded := false, tag := "", pkgPath := "provost/rule", byteOffset := 0 }, { name := "unlike", type := 3, offset := 1, embedded := false, tag := "", pkgPath := "provost/rule", byteOffset := 8 }, { name := "left", type := 3, offset := 2, embedded := false, tag := "", pkgPath := "provost/rule", byteOffset := 16 }], size := 3, bytes := 24, zero := [VVal.int .i64 0, VVal.int .i64 0, VVal.int .i64 0], flat := true }
theorem ok109 : TyOk Try.prog 109 y109 := .str' Try.underlying109 Try.type109 rfl rfl rfl rfl rfl rfl (by kernel_rfl) (by kernel_rfl) (fun i f h => match i, f, h with | 0, _, h => by simp at h; subst h; exact ⟨by decide, rfl, _, Try.underlying3⟩ | 1, _, h => by simp at h; subst h; exact ⟨by decide, rfl, _, Try.underlying3⟩ | 2, _, h => by simp at h; subst h; exact ⟨by decide, rfl, _, Try.underlying3⟩ | n + 3, _, h => by simp at h) (by kernel_rfl)
def y110 : VTy := { desc := Go.TypeDesc.array 6 107, size := 6, bytes := 48, zero := [VVal.nilFunc, VVal.nilFunc, VVal.nilFunc, VVal.nilFunc, VVal.nilFunc, VVal.nilFunc], flat := false }
theorem ok110 : TyOk Try.prog 110 y110 := .agg' Try.underlying110 Try.type110 rfl rfl rfl rfl rfl rfl
def y111 : VTy := { desc := Go.TypeDesc.func #[63, 23] #[109] false, size := 1, bytes := 8, zero := [VVal.nilFunc], flat := false }
theorem ok111 : TyOk Try.prog 111 y111 := .one' Try.underlying111 Try.type111 rfl rfl rfl rfl rfl rfl
def y112 : VTy := { desc := Go.TypeDesc.func #[63, 23, 3] #[4] false, size := 1, bytes := 8, zero := [VVal.nilFunc], flat := false }
theorem ok112 : TyOk Try.prog 112 y112 := .one' Try.underlying112 Try.type112 rfl rfl rfl rfl rfl rfl
def y113 : VTy := { desc := Go.TypeDesc.map 3 3, size := 1, bytes := 8, zero := [VVal.map none], flat := false }
theorem ok113 : TyOk Try.prog 113 y113 := .one' Try.underlying113 Try.type113 rfl rfl rfl rfl rfl rfl
def y114 : VTy := { desc := Go.TypeDesc.func #[23] #[3] false, size := 1, bytes := 8, zero := [VVal.nilFunc], flat := false }
theorem ok114 : TyOk Try.prog 114 y114 := .one' Try.underlying114 Try.type114 rfl rfl rfl rfl rfl rfl
def y115 : VTy := { desc := Go.TypeDesc.func #[] #[9] false, size := 1, bytes := 8, zero := [VVal.nilFunc], flat := false }
theorem ok115 : TyOk Try.prog 115 y115 := .one' Try.underlying115 Try.type115 rfl rfl rfl rfl rfl rfl
def y116 : VTy := { desc := Go.TypeDesc.struct #[{ name := "_interface", type := 17, offset := 0, embedded := false, tag := "", pkgPath := "runtime", byteOffset := 0 }, { name := "concrete", type := 17, offset := 1, embedded := false, tag := "", pkgPath := "runtime", byteOffset := 8 }, { name := "asserted", type := 17, offset := 2, embedded := false, tag := "", pkgPath := "runtime", byteOffset := 16 }, { name := "missingMethod", type := 9, offset := 3, embedded := false, tag := "", pkgPath := "runtime", byteOffset := 24 }], size := 4, bytes := 40, zero := [VVal.ptr none, VVal.ptr none, VVal.ptr none, VVal.str ByteArray.empty], flat := false }
theorem ok116 : TyOk Try.prog 116 y116 := .agg' Try.underlying116 Try.type116 rfl rfl rfl rfl rfl rfl
def y117 : VTy := { desc := Go.TypeDesc.struct #[{ name := "_interface", type := 17, offset := 0, embedded := false, tag := "", pkgPath := "runtime", byteOffset := 0 }, { name := "concrete", type := 17, offset := 1, embedded := false, tag := "", pkgPath := "runtime", byteOffset := 8 }, { name := "asserted", type := 17, offset := 2, embedded := false, tag := "", pkgPath := "runtime", byteOffset := 16 }, { name := "missingMethod", type := 9, offset := 3, embedded := false, tag := "", pkgPath := "runtime", byteOffset := 24 }], size := 4, bytes := 40, zero := [VVal.ptr none, VVal.ptr none, VVal.ptr none, VVal.str ByteArray.empty], flat := false }
theorem ok117 : TyOk Try.prog 117 y117 := .agg' Try.underlying117 Try.type117 rfl rfl rfl rfl rfl rfl
def y118 : VTy := { desc := Go.TypeDesc.array 0 16, size := 0, bytes := 0, zero := [], flat := false }
theorem ok118 : TyOk Try.prog 118 y118 := .agg' Try.underlying118 Try.type118 rfl rfl rfl rfl rfl rfl
def y119 : VTy := { desc := Go.TypeDesc.struct #[{ name := "_", type := 118, offset := 0, embedded := false, tag := "", pkgPath := "runtime", byteOffset := 0 }], size := 0, bytes := 0, zero := [], flat := false }
theorem ok119 : TyOk Try.prog 119 y119 := .agg' Try.underlying119 Try.type119 rfl rfl rfl rfl rfl rfl
def y120 : VTy := { desc := Go.TypeDesc.struct #[{ name := "_", type := 118, offset := 0, embedded := false, tag := "", pkgPath := "runtime", byteOffset := 0 }], size := 0, bytes := 0, zero := [], flat := false }
theorem ok120 : TyOk Try.prog 120 y120 := .agg' Try.underlying120 Try.type120 rfl rfl rfl rfl rfl rfl
def y121 : VTy := { desc := Go.TypeDesc.int Go.IntKind.u32, size := 1, bytes := 4, zero := [VVal.int .u32 0], flat := false }
theorem ok121 : TyOk Try.prog 121 y121 := .one' Try.underlying121 Try.type121 rfl rfl rfl rfl rfl rfl
def y122 : VTy := { desc := Go.TypeDesc.int Go.IntKind.u8, size := 1, bytes := 1, zero := [VVal.int .u8 0], flat := false }
theorem ok122 : TyOk Try.prog 122 y122 := .one' Try.underlying122 Try.type122 rfl rfl rfl rfl rfl rfl
def y123 : VTy := { desc := Go.TypeDesc.int Go.IntKind.u8, size := 1, bytes := 1, zero := [VVal.int .u8 0], flat := false }
theorem ok123 : TyOk Try.prog 123 y123 := .one' Try.underlying123 Try.type123 rfl rfl rfl rfl rfl rfl
def y124 : VTy := { desc := Go.TypeDesc.func #[130, 130] #[4] false, size := 1, bytes := 8, zero := [VVal.nilFunc], flat := false }
theorem ok124 : TyOk Try.prog 124 y124 := .one' Try.underlying124 Try.type124 rfl rfl rfl rfl rfl rfl
def y125 : VTy := { desc := Go.TypeDesc.pointer 5, size := 1, bytes := 8, zero := [VVal.ptr none], flat := false }
theorem ok125 : TyOk Try.prog 125 y125 := .one' Try.underlying125 Try.type125 rfl rfl rfl rfl rfl rfl
def y126 : VTy := { desc := Go.TypeDesc.int Go.IntKind.i32, size := 1, bytes := 4, zero := [VVal.int .i32 0], flat := false }
theorem ok126 : TyOk Try.prog 126 y126 := .one' Try.underlying126 Try.type126 rfl rfl rfl rfl rfl rfl
def y127 : VTy := { desc := Go.TypeDesc.int Go.IntKind.i32, size := 1, bytes := 4, zero := [VVal.int .i32 0], flat := false }
theorem ok127 : TyOk Try.prog 127 y127 := .one' Try.underlying127 Try.type127 rfl rfl rfl rfl rfl rfl
def y128 : VTy := { desc := Go.TypeDesc.struct #[{ name := "Size_", type := 12, offset := 0, embedded := false, tag := "", pkgPath := "", byteOffset := 0 }, { name := "PtrBytes", type := 12, offset := 1, embedded := false, tag := "", pkgPath := "", byteOffset := 8 }, { name := "Hash", type := 121, offset := 2, embedded := false, tag := "", pkgPath := "", byteOffset := 16 }, { name := "TFlag", type := 122, offset := 3, embedded := false, tag := "", pkgPath := "", byteOffset := 20 }, { name := "Align_", type := 5, offset := 4, embedded := false, tag := "", pkgPath := "", byteOffset := 21 }, { name := "FieldAlign_", type := 5, offset := 5, embedded := false, tag := "", pkgPath := "", byteOffset := 22 }, { name := "Kind_", type := 123, offset := 6, embedded := false, tag := "", pkgPath := "", byteOffset := 23 }, { name := "Equal", type := 124, offset := 7, embedded := false, tag := "", pkgPath := "", byteOffset := 24 }, { name := "GCData", type := 125, offset := 8, embedded := false, tag := "", pkgPath := "", byteOffset := 32 }, { name := "Str", type := 126, offset := 9, embedded := false, tag := "", pkgPath := "", byteOffset := 40 }, { name := "PtrToThis", type := 127, offset := 10, embedded := false, tag := "", pkgPath := "", byteOffset := 44 }], size := 11, bytes := 48, zero := [VVal.int .u64 0, VVal.int .u64 0, VVal.int .u32 0, VVal.int .u8 0, VVal.int .u8 0, VVal.int .u8 0, VVal.int .u8 0, VVal.nilFunc, VVal.ptr none, VVal.int .i32 0, VVal.int .i32 0], flat := false }
theorem ok128 : TyOk Try.prog 128 y128 := .agg' Try.underlying128 Try.type128 rfl rfl rfl rfl rfl rfl
def y129 : VTy := { desc := Go.TypeDesc.struct #[{ name := "Size_", type := 12, offset := 0, embedded := false, tag := "", pkgPath := "", byteOffset := 0 }, { name := "PtrBytes", type := 12, offset := 1, embedded := false, tag := "", pkgPath := "", byteOffset := 8 }, { name := "Hash", type := 121, offset := 2, embedded := false, tag := "", pkgPath := "", byteOffset := 16 }, { name := "TFlag", type := 122, offset := 3, embedded := false, tag := "", pkgPath := "", byteOffset := 20 }, { name := "Align_", type := 5, offset := 4, embedded := false, tag := "", pkgPath := "", byteOffset := 21 }, { name := "FieldAlign_", type := 5, offset := 5, embedded := false, tag := "", pkgPath := "", byteOffset := 22 }, { name := "Kind_", type := 123, offset := 6, embedded := false, tag := "", pkgPath := "", byteOffset := 23 }, { name := "Equal", type := 124, offset := 7, embedded := false, tag := "", pkgPath := "", byteOffset := 24 }, { name := "GCData", type := 125, offset := 8, embedded := false, tag := "", pkgPath := "", byteOffset := 32 }, { name := "Str", type := 126, offset := 9, embedded := false, tag := "", pkgPath := "", byteOffset := 40 }, { name := "PtrToThis", type := 127, offset := 10, embedded := false, tag := "", pkgPath := "", byteOffset := 44 }], size := 11, bytes := 48, zero := [VVal.int .u64 0, VVal.int .u64 0, VVal.int .u32 0, VVal.int .u8 0, VVal.int .u8 0, VVal.int .u8 0, VVal.int .u8 0, VVal.nilFunc, VVal.ptr none, VVal.int .i32 0, VVal.int .i32 0], flat := false }
theorem ok129 : TyOk Try.prog 129 y129 := .agg' Try.underlying129 Try.type129 rfl rfl rfl rfl rfl rfl
def y130 : VTy := { desc := Go.TypeDesc.unsafePointer, size := 1, bytes := 8, zero := [VVal.ptr none], flat := false }
theorem ok130 : TyOk Try.prog 130 y130 := .one' Try.underlying130 Try.type130 rfl rfl rfl rfl rfl rfl
def tys : TypeId → Option VTy := fun t => match t with
  | 1 => some y1
  | 2 => some y2
  | 3 => some y3
  | 4 => some y4
  | 5 => some y5
  | 6 => some y6
  | 7 => some y7
  | 8 => some y8
  | 9 => some y9
  | 10 => some y10
  | 11 => some y11
  | 12 => some y12
  | 13 => some y13
  | 14 => some y14
  | 15 => some y15
  | 16 => some y16
  | 17 => some y17
  | 18 => some y18
  | 19 => some y19
  | 20 => some y20
  | 21 => some y21
  | 22 => some y22
  | 23 => some y23
  | 24 => some y24
  | 25 => some y25
  | 26 => some y26
  | 27 => some y27
  | 28 => some y28
  | 29 => some y29
  | 31 => some y31
  | 32 => some y32
  | 33 => some y33
  | 34 => some y34
  | 35 => some y35
  | 36 => some y36
  | 37 => some y37
  | 38 => some y38
  | 40 => some y40
  | 42 => some y42
  | 44 => some y44
  | 45 => some y45
  | 47 => some y47
  | 48 => some y48
  | 49 => some y49
  | 50 => some y50
  | 51 => some y51
  | 52 => some y52
  | 53 => some y53
  | 54 => some y54
  | 55 => some y55
  | 56 => some y56
  | 57 => some y57
  | 58 => some y58
  | 59 => some y59
  | 60 => some y60
  | 61 => some y61
  | 62 => some y62
  | 63 => some y63
  | 64 => some y64
  | 65 => some y65
  | 66 => some y66
  | 67 => some y67
  | 68 => some y68
  | 69 => some y69
  | 70 => some y70
  | 71 => some y71
  | 72 => some y72
  | 73 => some y73
  | 74 => some y74
  | 75 => some y75
  | 76 => some y76
  | 77 => some y77
  | 78 => some y78
  | 79 => some y79
  | 80 => some y80
  | 81 => some y81
  | 82 => some y82
  | 83 => some y83
  | 84 => some y84
  | 85 => some y85
  | 86 => some y86
  | 87 => some y87
  | 89 => some y89
  | 90 => some y90
  | 91 => some y91
  | 92 => some y92
  | 93 => some y93
  | 94 => some y94
  | 95 => some y95
  | 96 => some y96
  | 97 => some y97
  | 98 => some y98
  | 99 => some y99
  | 100 => some y100
  | 101 => some y101
  | 102 => some y102
  | 103 => some y103
  | 104 => some y104
  | 105 => some y105
  | 106 => some y106
  | 107 => some y107
  | 108 => some y108
  | 109 => some y109
  | 110 => some y110
  | 111 => some y111
  | 112 => some y112
  | 113 => some y113
  | 114 => some y114
  | 115 => some y115
  | 116 => some y116
  | 117 => some y117
  | 118 => some y118
  | 119 => some y119
  | 120 => some y120
  | 121 => some y121
  | 122 => some y122
  | 123 => some y123
  | 124 => some y124
  | 125 => some y125
  | 126 => some y126
  | 127 => some y127
  | 128 => some y128
  | 129 => some y129
  | 130 => some y130
  | _ => none
theorem tysOk : TOk Try.prog tys := by
  intro t y h
  unfold tys at h
  split at h
  · cases h; exact ok1
  · cases h; exact ok2
  · cases h; exact ok3
  · cases h; exact ok4
  · cases h; exact ok5
  · cases h; exact ok6
  · cases h; exact ok7
  · cases h; exact ok8
  · cases h; exact ok9
  · cases h; exact ok10
  · cases h; exact ok11
  · cases h; exact ok12
  · cases h; exact ok13
  · cases h; exact ok14
  · cases h; exact ok15
  · cases h; exact ok16
  · cases h; exact ok17
  · cases h; exact ok18
  · cases h; exact ok19
  · cases h; exact ok20
  · cases h; exact ok21
  · cases h; exact ok22
  · cases h; exact ok23
  · cases h; exact ok24
  · cases h; exact ok25
  · cases h; exact ok26
  · cases h; exact ok27
  · cases h; exact ok28
  · cases h; exact ok29
  · cases h; exact ok31
  · cases h; exact ok32
  · cases h; exact ok33
  · cases h; exact ok34
  · cases h; exact ok35
  · cases h; exact ok36
  · cases h; exact ok37
  · cases h; exact ok38
  · cases h; exact ok40
  · cases h; exact ok42
  · cases h; exact ok44
  · cases h; exact ok45
  · cases h; exact ok47
  · cases h; exact ok48
  · cases h; exact ok49
  · cases h; exact ok50
  · cases h; exact ok51
  · cases h; exact ok52
  · cases h; exact ok53
  · cases h; exact ok54
  · cases h; exact ok55
  · cases h; exact ok56
  · cases h; exact ok57
  · cases h; exact ok58
  · cases h; exact ok59
  · cases h; exact ok60
  · cases h; exact ok61
  · cases h; exact ok62
  · cases h; exact ok63
  · cases h; exact ok64
  · cases h; exact ok65
  · cases h; exact ok66
  · cases h; exact ok67
  · cases h; exact ok68
  · cases h; exact ok69
  · cases h; exact ok70
  · cases h; exact ok71
  · cases h; exact ok72
  · cases h; exact ok73
  · cases h; exact ok74
  · cases h; exact ok75
  · cases h; exact ok76
  · cases h; exact ok77
  · cases h; exact ok78
  · cases h; exact ok79
  · cases h; exact ok80
  · cases h; exact ok81
  · cases h; exact ok82
  · cases h; exact ok83
  · cases h; exact ok84
  · cases h; exact ok85
  · cases h; exact ok86
  · cases h; exact ok87
  · cases h; exact ok89
  · cases h; exact ok90
  · cases h; exact ok91
  · cases h; exact ok92
  · cases h; exact ok93
  · cases h; exact ok94
  · cases h; exact ok95
  · cases h; exact ok96
  · cases h; exact ok97
  · cases h; exact ok98
  · cases h; exact ok99
  · cases h; exact ok100
  · cases h; exact ok101
  · cases h; exact ok102
  · cases h; exact ok103
  · cases h; exact ok104
  · cases h; exact ok105
  · cases h; exact ok106
  · cases h; exact ok107
  · cases h; exact ok108
  · cases h; exact ok109
  · cases h; exact ok110
  · cases h; exact ok111
  · cases h; exact ok112
  · cases h; exact ok113
  · cases h; exact ok114
  · cases h; exact ok115
  · cases h; exact ok116
  · cases h; exact ok117
  · cases h; exact ok118
  · cases h; exact ok119
  · cases h; exact ok120
  · cases h; exact ok121
  · cases h; exact ok122
  · cases h; exact ok123
  · cases h; exact ok124
  · cases h; exact ok125
  · cases h; exact ok126
  · cases h; exact ok127
  · cases h; exact ok128
  · cases h; exact ok129
  · cases h; exact ok130
  · cases h
end Go.Proofs.Ytbngdhlmggdaaaa.VT
