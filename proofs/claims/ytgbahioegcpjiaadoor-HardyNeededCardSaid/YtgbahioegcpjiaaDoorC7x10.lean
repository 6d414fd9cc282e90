/- Proved: Rows.HardyNeededCardSaid, the statement HardyNeeded with its card, of the given program at the commit; no conditions beyond those in the statement. -/
import Derived.Test.YtgbahioegcpjiaaDoorC7x9
import Derived.Test.YtgbahioegcpjiaaDoorProg
set_option autoImplicit false
set_option linter.unusedVariables false
set_option maxRecDepth 100000
set_option maxHeartbeats 8000000
namespace Go.Proofs.YtgbahioegcpjiaaDoor.VT
open Go Go.V
def y1 : VTy := { desc := Go.TypeDesc.func #[] #[] false, size := 1, bytes := 8, zero := [VVal.nilFunc], flat := false }
theorem ok1 : TyOk Tryd.prog 1 y1 := .one' Tryd.underlying1 Tryd.type1 rfl rfl rfl rfl rfl rfl
def y2 : VTy := { desc := Go.TypeDesc.int Go.IntKind.i64, size := 1, bytes := 8, zero := [VVal.int .i64 0], flat := false }
theorem ok2 : TyOk Tryd.prog 2 y2 := .one' Tryd.underlying2 Tryd.type2 rfl rfl rfl rfl rfl rfl
def y3 : VTy := { desc := Go.TypeDesc.int Go.IntKind.i64, size := 1, bytes := 8, zero := [VVal.int .i64 0], flat := false }
theorem ok3 : TyOk Tryd.prog 3 y3 := .one' Tryd.underlying3 Tryd.type3 rfl rfl rfl rfl rfl rfl
def y4 : VTy := { desc := Go.TypeDesc.bool, size := 1, bytes := 1, zero := [VVal.bool false], flat := false }
theorem ok4 : TyOk Tryd.prog 4 y4 := .one' Tryd.underlying4 Tryd.type4 rfl rfl rfl rfl rfl rfl
def y5 : VTy := { desc := Go.TypeDesc.int Go.IntKind.u8, size := 1, bytes := 1, zero := [VVal.int .u8 0], flat := false }
theorem ok5 : TyOk Tryd.prog 5 y5 := .one' Tryd.underlying5 Tryd.type5 rfl rfl rfl rfl rfl rfl
def y6 : VTy := { desc := Go.TypeDesc.int Go.IntKind.u8, size := 1, bytes := 1, zero := [VVal.int .u8 0], flat := false }
theorem ok6 : TyOk Tryd.prog 6 y6 := .one' Tryd.underlying6 Tryd.type6 rfl rfl rfl rfl rfl rfl
def y7 : VTy := { desc := Go.TypeDesc.struct #[{ name := "x", type := 2, offset := 0, embedded := false, tag := "", pkgPath := "runtime", byteOffset := 0 }, { name := "y", type := 3, offset := 1, embedded := false, tag := "", pkgPath := "runtime", byteOffset := 8 }, { name := "signed", type := 4, offset := 2, embedded := false, tag := "", pkgPath := "runtime", byteOffset := 16 }, { name := "code", type := 6, offset := 3, embedded := false, tag := "", pkgPath := "runtime", byteOffset := 17 }], size := 4, bytes := 24, zero := [VVal.int .i64 0, VVal.int .i64 0, VVal.bool false, VVal.int .u8 0], flat := false }
theorem ok7 : TyOk Tryd.prog 7 y7 := .agg' Tryd.underlying7 Tryd.type7 rfl rfl rfl rfl rfl rfl
def y8 : VTy := { desc := Go.TypeDesc.struct #[{ name := "x", type := 2, offset := 0, embedded := false, tag := "", pkgPath := "runtime", byteOffset := 0 }, { name := "y", type := 3, offset := 1, embedded := false, tag := "", pkgPath := "runtime", byteOffset := 8 }, { name := "signed", type := 4, offset := 2, embedded := false, tag := "", pkgPath := "runtime", byteOffset := 16 }, { name := "code", type := 6, offset := 3, embedded := false, tag := "", pkgPath := "runtime", byteOffset := 17 }], size := 4, bytes := 24, zero := [VVal.int .i64 0, VVal.int .i64 0, VVal.bool false, VVal.int .u8 0], flat := false }
theorem ok8 : TyOk Tryd.prog 8 y8 := .agg' Tryd.underlying8 Tryd.type8 rfl rfl rfl rfl rfl rfl
def y9 : VTy := { desc := Go.TypeDesc.string, size := 1, bytes := 16, zero := [VVal.str ByteArray.empty], flat := false }
theorem ok9 : TyOk Tryd.prog 9 y9 := .one' Tryd.underlying9 Tryd.type9 rfl rfl rfl rfl rfl rfl
def y10 : VTy := { desc := Go.TypeDesc.string, size := 1, bytes := 16, zero := [VVal.str ByteArray.empty], flat := false }
theorem ok10 : TyOk Tryd.prog 10 y10 := .one' Tryd.underlying10 Tryd.type10 rfl rfl rfl rfl rfl rfl
def y11 : VTy := { desc := Go.TypeDesc.string, size := 1, bytes := 16, zero := [VVal.str ByteArray.empty], flat := false }
theorem ok11 : TyOk Tryd.prog 11 y11 := .one' Tryd.underlying11 Tryd.type11 rfl rfl rfl rfl rfl rfl
def y12 : VTy := { desc := Go.TypeDesc.int Go.IntKind.u64, size := 1, bytes := 8, zero := [VVal.int .u64 0], flat := false }
theorem ok12 : TyOk Tryd.prog 12 y12 := .one' Tryd.underlying12 Tryd.type12 rfl rfl rfl rfl rfl rfl
def y13 : VTy := { desc := Go.TypeDesc.struct #[{ name := "msg", type := 9, offset := 0, embedded := false, tag := "", pkgPath := "runtime", byteOffset := 0 }, { name := "addr", type := 12, offset := 1, embedded := false, tag := "", pkgPath := "runtime", byteOffset := 16 }], size := 2, bytes := 24, zero := [VVal.str ByteArray.empty, VVal.int .u64 0], flat := false }
theorem ok13 : TyOk Tryd.prog 13 y13 := .agg' Tryd.underlying13 Tryd.type13 rfl rfl rfl rfl rfl rfl
def y14 : VTy := { desc := Go.TypeDesc.struct #[{ name := "msg", type := 9, offset := 0, embedded := false, tag := "", pkgPath := "runtime", byteOffset := 0 }, { name := "addr", type := 12, offset := 1, embedded := false, tag := "", pkgPath := "runtime", byteOffset := 16 }], size := 2, bytes := 24, zero := [VVal.str ByteArray.empty, VVal.int .u64 0], flat := false }
theorem ok14 : TyOk Tryd.prog 14 y14 := .agg' Tryd.underlying14 Tryd.type14 rfl rfl rfl rfl rfl rfl
def y15 : VTy := { desc := Go.TypeDesc.pointer 184, size := 1, bytes := 8, zero := [VVal.ptr none], flat := false }
theorem ok15 : TyOk Tryd.prog 15 y15 := .one' Tryd.underlying15 Tryd.type15 rfl rfl rfl rfl rfl rfl
def y16 : VTy := { desc := Go.TypeDesc.pointer 187, size := 1, bytes := 8, zero := [VVal.ptr none], flat := false }
theorem ok16 : TyOk Tryd.prog 16 y16 := .one' Tryd.underlying16 Tryd.type16 rfl rfl rfl rfl rfl rfl
def y17 : VTy := { desc := Go.TypeDesc.pointer 196, size := 1, bytes := 8, zero := [VVal.ptr none], flat := false }
theorem ok17 : TyOk Tryd.prog 17 y17 := .one' Tryd.underlying17 Tryd.type17 rfl rfl rfl rfl rfl rfl
def y18 : VTy := { desc := Go.TypeDesc.struct #[{ name := "typ", type := 17, offset := 0, embedded := false, tag := "", pkgPath := "internal/runtime/maps", byteOffset := 0 }], size := 1, bytes := 8, zero := [VVal.ptr none], flat := false }
theorem ok18 : TyOk Tryd.prog 18 y18 := .agg' Tryd.underlying18 Tryd.type18 rfl rfl rfl rfl rfl rfl
def y19 : VTy := { desc := Go.TypeDesc.struct #[{ name := "typ", type := 17, offset := 0, embedded := false, tag := "", pkgPath := "internal/runtime/maps", byteOffset := 0 }], size := 1, bytes := 8, zero := [VVal.ptr none], flat := false }
theorem ok19 : TyOk Tryd.prog 19 y19 := .agg' Tryd.underlying19 Tryd.type19 rfl rfl rfl rfl rfl rfl
def y20 : VTy := { desc := Go.TypeDesc.interface #[], size := 1, bytes := 16, zero := [VVal.nilIface], flat := false }
theorem ok20 : TyOk Tryd.prog 20 y20 := .one' Tryd.underlying20 Tryd.type20 rfl rfl rfl rfl rfl rfl
def y21 : VTy := { desc := Go.TypeDesc.int Go.IntKind.i32, size := 1, bytes := 4, zero := [VVal.int .i32 0], flat := false }
theorem ok21 : TyOk Tryd.prog 21 y21 := .one' Tryd.underlying21 Tryd.type21 rfl rfl rfl rfl rfl rfl
def y22 : VTy := { desc := Go.TypeDesc.slice 27, size := 1, bytes := 24, zero := [VVal.slice none 0 0 true 0], flat := false }
theorem ok22 : TyOk Tryd.prog 22 y22 := .one' Tryd.underlying22 Tryd.type22 rfl rfl rfl rfl rfl rfl
def y23 : VTy := { desc := Go.TypeDesc.slice 3, size := 1, bytes := 24, zero := [VVal.slice none 0 0 true 0], flat := false }
theorem ok23 : TyOk Tryd.prog 23 y23 := .one' Tryd.underlying23 Tryd.type23 rfl rfl rfl rfl rfl rfl
def y24 : VTy := { desc := Go.TypeDesc.slice 75, size := 1, bytes := 24, zero := [VVal.slice none 0 0 true 0], flat := false }
theorem ok24 : TyOk Tryd.prog 24 y24 := .one' Tryd.underlying24 Tryd.type24 rfl rfl rfl rfl rfl rfl
def y25 : VTy := { desc := Go.TypeDesc.struct #[{ name := "Users", type := 3, offset := 0, embedded := false, tag := "", pkgPath := "", byteOffset := 0 }, { name := "Who", type := 22, offset := 1, embedded := false, tag := "", pkgPath := "", byteOffset := 8 }, { name := "Fixed", type := 23, offset := 2, embedded := false, tag := "", pkgPath := "", byteOffset := 32 }, { name := "Rules", type := 24, offset := 3, embedded := false, tag := "", pkgPath := "", byteOffset := 56 }], size := 4, bytes := 80, zero := [VVal.int .i64 0, VVal.slice none 0 0 true 0, VVal.slice none 0 0 true 0, VVal.slice none 0 0 true 0], flat := false }
theorem ok25 : TyOk Tryd.prog 25 y25 := .agg' Tryd.underlying25 Tryd.type25 rfl rfl rfl rfl rfl rfl
def y26 : VTy := { desc := Go.TypeDesc.struct #[{ name := "Users", type := 3, offset := 0, embedded := false, tag := "", pkgPath := "", byteOffset := 0 }, { name := "Who", type := 22, offset := 1, embedded := false, tag := "", pkgPath := "", byteOffset := 8 }, { name := "Fixed", type := 23, offset := 2, embedded := false, tag := "", pkgPath := "", byteOffset := 32 }, { name := "Rules", type := 24, offset := 3, embedded := false, tag := "", pkgPath := "", byteOffset := 56 }], size := 4, bytes := 80, zero := [VVal.int .i64 0, VVal.slice none 0 0 true 0, VVal.slice none 0 0 true 0, VVal.slice none 0 0 true 0], flat := false }
theorem ok26 : TyOk Tryd.prog 26 y26 := .agg' Tryd.underlying26 Tryd.type26 rfl rfl rfl rfl rfl rfl
def y27 : VTy := { desc := Go.TypeDesc.int Go.IntKind.u64, size := 1, bytes := 8, zero := [VVal.int .u64 0], flat := false }
theorem ok27 : TyOk Tryd.prog 27 y27 := .one' Tryd.underlying27 Tryd.type27 rfl rfl rfl rfl rfl rfl
def y28 : VTy := { desc := Go.TypeDesc.func #[26, 3] #[26] false, size := 1, bytes := 8, zero := [VVal.nilFunc], flat := false }
theorem ok28 : TyOk Tryd.prog 28 y28 := .one' Tryd.underlying28 Tryd.type28 rfl rfl rfl rfl rfl rfl
def y29 : VTy := { desc := Go.TypeDesc.func #[26, 27] #[27] false, size := 1, bytes := 8, zero := [VVal.nilFunc], flat := false }
theorem ok29 : TyOk Tryd.prog 29 y29 := .one' Tryd.underlying29 Tryd.type29 rfl rfl rfl rfl rfl rfl
def y30 : VTy := { desc := Go.TypeDesc.func #[26] #[26] false, size := 1, bytes := 8, zero := [VVal.nilFunc], flat := false }
theorem ok30 : TyOk Tryd.prog 30 y30 := .one' Tryd.underlying30 Tryd.type30 rfl rfl rfl rfl rfl rfl
def y31 : VTy := { desc := Go.TypeDesc.func #[] #[4] false, size := 1, bytes := 8, zero := [VVal.nilFunc], flat := false }
theorem ok31 : TyOk Tryd.prog 31 y31 := .one' Tryd.underlying31 Tryd.type31 rfl rfl rfl rfl rfl rfl
def y32 : VTy := { desc := Go.TypeDesc.func #[26, 27] #[4] false, size := 1, bytes := 8, zero := [VVal.nilFunc], flat := false }
theorem ok32 : TyOk Tryd.prog 32 y32 := .one' Tryd.underlying32 Tryd.type32 rfl rfl rfl rfl rfl rfl
def y33 : VTy := { desc := Go.TypeDesc.func #[22, 22] #[4] false, size := 1, bytes := 8, zero := [VVal.nilFunc], flat := false }
theorem ok33 : TyOk Tryd.prog 33 y33 := .one' Tryd.underlying33 Tryd.type33 rfl rfl rfl rfl rfl rfl
def y34 : VTy := { desc := Go.TypeDesc.func #[26] #[22] false, size := 1, bytes := 8, zero := [VVal.nilFunc], flat := false }
theorem ok34 : TyOk Tryd.prog 34 y34 := .one' Tryd.underlying34 Tryd.type34 rfl rfl rfl rfl rfl rfl
def y35 : VTy := { desc := Go.TypeDesc.func #[26] #[4] false, size := 1, bytes := 8, zero := [VVal.nilFunc], flat := false }
theorem ok35 : TyOk Tryd.prog 35 y35 := .one' Tryd.underlying35 Tryd.type35 rfl rfl rfl rfl rfl rfl
def y37 : VTy := { desc := Go.TypeDesc.func #[26] #[23, 23, 4] false, size := 1, bytes := 8, zero := [VVal.nilFunc], flat := false }
theorem ok37 : TyOk Tryd.prog 37 y37 := .one' Tryd.underlying37 Tryd.type37 rfl rfl rfl rfl rfl rfl
def y38 : VTy := { desc := Go.TypeDesc.func #[23, 23] #[4] false, size := 1, bytes := 8, zero := [VVal.nilFunc], flat := false }
theorem ok38 : TyOk Tryd.prog 38 y38 := .one' Tryd.underlying38 Tryd.type38 rfl rfl rfl rfl rfl rfl
def y39 : VTy := { desc := Go.TypeDesc.int Go.IntKind.i64, size := 1, bytes := 8, zero := [VVal.int .i64 0], flat := false }
theorem ok39 : TyOk Tryd.prog 39 y39 := .one' Tryd.underlying39 Tryd.type39 rfl rfl rfl rfl rfl rfl
def y41 : VTy := { desc := Go.TypeDesc.func #[26, 23, 23] #[26, 39] false, size := 1, bytes := 8, zero := [VVal.nilFunc], flat := false }
theorem ok41 : TyOk Tryd.prog 41 y41 := .one' Tryd.underlying41 Tryd.type41 rfl rfl rfl rfl rfl rfl
def y42 : VTy := { desc := Go.TypeDesc.func #[23] #[23] false, size := 1, bytes := 8, zero := [VVal.nilFunc], flat := false }
theorem ok42 : TyOk Tryd.prog 42 y42 := .one' Tryd.underlying42 Tryd.type42 rfl rfl rfl rfl rfl rfl
def y44 : VTy := { desc := Go.TypeDesc.func #[26, 23, 23] #[26, 3] false, size := 1, bytes := 8, zero := [VVal.nilFunc], flat := false }
theorem ok44 : TyOk Tryd.prog 44 y44 := .one' Tryd.underlying44 Tryd.type44 rfl rfl rfl rfl rfl rfl
def y45 : VTy := { desc := Go.TypeDesc.func #[26, 26] #[4] false, size := 1, bytes := 8, zero := [VVal.nilFunc], flat := false }
theorem ok45 : TyOk Tryd.prog 45 y45 := .one' Tryd.underlying45 Tryd.type45 rfl rfl rfl rfl rfl rfl
def y46 : VTy := { desc := Go.TypeDesc.func #[26, 23, 23] #[4] false, size := 1, bytes := 8, zero := [VVal.nilFunc], flat := false }
theorem ok46 : TyOk Tryd.prog 46 y46 := .one' Tryd.underlying46 Tryd.type46 rfl rfl rfl rfl rfl rfl
def y47 : VTy := { desc := Go.TypeDesc.pointer 93, size := 1, bytes := 8, zero := [VVal.ptr none], flat := false }
theorem ok47 : TyOk Tryd.prog 47 y47 := .one' Tryd.underlying47 Tryd.type47 rfl rfl rfl rfl rfl rfl
def y48 : VTy := { desc := Go.TypeDesc.func #[] #[47] false, size := 1, bytes := 8, zero := [VVal.nilFunc], flat := false }
theorem ok48 : TyOk Tryd.prog 48 y48 := .one' Tryd.underlying48 Tryd.type48 rfl rfl rfl rfl rfl rfl
def y49 : VTy := { desc := Go.TypeDesc.func #[26] #[39] false, size := 1, bytes := 8, zero := [VVal.nilFunc], flat := false }
theorem ok49 : TyOk Tryd.prog 49 y49 := .one' Tryd.underlying49 Tryd.type49 rfl rfl rfl rfl rfl rfl
def y50 : VTy := { desc := Go.TypeDesc.func #[3, 23] #[23] false, size := 1, bytes := 8, zero := [VVal.nilFunc], flat := false }
theorem ok50 : TyOk Tryd.prog 50 y50 := .one' Tryd.underlying50 Tryd.type50 rfl rfl rfl rfl rfl rfl
def y51 : VTy := { desc := Go.TypeDesc.slice 100, size := 1, bytes := 24, zero := [VVal.slice none 0 0 true 0], flat := false }
theorem ok51 : TyOk Tryd.prog 51 y51 := .one' Tryd.underlying51 Tryd.type51 rfl rfl rfl rfl rfl rfl
def y53 : VTy := { desc := Go.TypeDesc.func #[26, 23] #[51, 39] false, size := 1, bytes := 8, zero := [VVal.nilFunc], flat := false }
theorem ok53 : TyOk Tryd.prog 53 y53 := .one' Tryd.underlying53 Tryd.type53 rfl rfl rfl rfl rfl rfl
def y54 : VTy := { desc := Go.TypeDesc.func #[26, 23] #[4] false, size := 1, bytes := 8, zero := [VVal.nilFunc], flat := false }
theorem ok54 : TyOk Tryd.prog 54 y54 := .one' Tryd.underlying54 Tryd.type54 rfl rfl rfl rfl rfl rfl
def y56 : VTy := { desc := Go.TypeDesc.func #[26] #[23, 4] false, size := 1, bytes := 8, zero := [VVal.nilFunc], flat := false }
theorem ok56 : TyOk Tryd.prog 56 y56 := .one' Tryd.underlying56 Tryd.type56 rfl rfl rfl rfl rfl rfl
def y57 : VTy := { desc := Go.TypeDesc.slice 5, size := 1, bytes := 24, zero := [VVal.slice none 0 0 true 0], flat := false }
theorem ok57 : TyOk Tryd.prog 57 y57 := .one' Tryd.underlying57 Tryd.type57 rfl rfl rfl rfl rfl rfl
def y59 : VTy := { desc := Go.TypeDesc.func #[26, 23] #[57, 39] false, size := 1, bytes := 8, zero := [VVal.nilFunc], flat := false }
theorem ok59 : TyOk Tryd.prog 59 y59 := .one' Tryd.underlying59 Tryd.type59 rfl rfl rfl rfl rfl rfl
def y61 : VTy := { desc := Go.TypeDesc.func #[57] #[26, 23, 39] false, size := 1, bytes := 8, zero := [VVal.nilFunc], flat := false }
theorem ok61 : TyOk Tryd.prog 61 y61 := .one' Tryd.underlying61 Tryd.type61 rfl rfl rfl rfl rfl rfl
def y62 : VTy := { desc := Go.TypeDesc.func #[57] #[57] false, size := 1, bytes := 8, zero := [VVal.nilFunc], flat := false }
theorem ok62 : TyOk Tryd.prog 62 y62 := .one' Tryd.underlying62 Tryd.type62 rfl rfl rfl rfl rfl rfl
def y63 : VTy := { desc := Go.TypeDesc.func #[26, 3, 5] #[4] false, size := 1, bytes := 8, zero := [VVal.nilFunc], flat := false }
theorem ok63 : TyOk Tryd.prog 63 y63 := .one' Tryd.underlying63 Tryd.type63 rfl rfl rfl rfl rfl rfl
def y64 : VTy := { desc := Go.TypeDesc.func #[26, 27] #[26, 39] false, size := 1, bytes := 8, zero := [VVal.nilFunc], flat := false }
theorem ok64 : TyOk Tryd.prog 64 y64 := .one' Tryd.underlying64 Tryd.type64 rfl rfl rfl rfl rfl rfl
def y65 : VTy := { desc := Go.TypeDesc.func #[26, 27] #[26, 3] false, size := 1, bytes := 8, zero := [VVal.nilFunc], flat := false }
theorem ok65 : TyOk Tryd.prog 65 y65 := .one' Tryd.underlying65 Tryd.type65 rfl rfl rfl rfl rfl rfl
def y66 : VTy := { desc := Go.TypeDesc.func #[24, 24] #[4] false, size := 1, bytes := 8, zero := [VVal.nilFunc], flat := false }
theorem ok66 : TyOk Tryd.prog 66 y66 := .one' Tryd.underlying66 Tryd.type66 rfl rfl rfl rfl rfl rfl
def y67 : VTy := { desc := Go.TypeDesc.func #[26, 3] #[23, 4] false, size := 1, bytes := 8, zero := [VVal.nilFunc], flat := false }
theorem ok67 : TyOk Tryd.prog 67 y67 := .one' Tryd.underlying67 Tryd.type67 rfl rfl rfl rfl rfl rfl
def y68 : VTy := { desc := Go.TypeDesc.func #[26] #[27] false, size := 1, bytes := 8, zero := [VVal.nilFunc], flat := false }
theorem ok68 : TyOk Tryd.prog 68 y68 := .one' Tryd.underlying68 Tryd.type68 rfl rfl rfl rfl rfl rfl
def y69 : VTy := { desc := Go.TypeDesc.func #[26, 3] #[4] false, size := 1, bytes := 8, zero := [VVal.nilFunc], flat := false }
theorem ok69 : TyOk Tryd.prog 69 y69 := .one' Tryd.underlying69 Tryd.type69 rfl rfl rfl rfl rfl rfl
def y70 : VTy := { desc := Go.TypeDesc.func #[26] #[3] false, size := 1, bytes := 8, zero := [VVal.nilFunc], flat := false }
theorem ok70 : TyOk Tryd.prog 70 y70 := .one' Tryd.underlying70 Tryd.type70 rfl rfl rfl rfl rfl rfl
def y71 : VTy := { desc := Go.TypeDesc.func #[27] #[3] false, size := 1, bytes := 8, zero := [VVal.nilFunc], flat := false }
theorem ok71 : TyOk Tryd.prog 71 y71 := .one' Tryd.underlying71 Tryd.type71 rfl rfl rfl rfl rfl rfl
def y72 : VTy := { desc := Go.TypeDesc.func #[23, 27] #[4] false, size := 1, bytes := 8, zero := [VVal.nilFunc], flat := false }
theorem ok72 : TyOk Tryd.prog 72 y72 := .one' Tryd.underlying72 Tryd.type72 rfl rfl rfl rfl rfl rfl
def y73 : VTy := { desc := Go.TypeDesc.func #[26, 22] #[4] false, size := 1, bytes := 8, zero := [VVal.nilFunc], flat := false }
theorem ok73 : TyOk Tryd.prog 73 y73 := .one' Tryd.underlying73 Tryd.type73 rfl rfl rfl rfl rfl rfl
def y74 : VTy := { desc := Go.TypeDesc.struct #[{ name := "Kind", type := 3, offset := 0, embedded := false, tag := "", pkgPath := "", byteOffset := 0 }, { name := "K", type := 3, offset := 1, embedded := false, tag := "", pkgPath := "", byteOffset := 8 }, { name := "Steps", type := 23, offset := 2, embedded := false, tag := "", pkgPath := "", byteOffset := 16 }], size := 3, bytes := 40, zero := [VVal.int .i64 0, VVal.int .i64 0, VVal.slice none 0 0 true 0], flat := false }
theorem ok74 : TyOk Tryd.prog 74 y74 := .agg' Tryd.underlying74 Tryd.type74 rfl rfl rfl rfl rfl rfl
def y75 : VTy := { desc := Go.TypeDesc.struct #[{ name := "Kind", type := 3, offset := 0, embedded := false, tag := "", pkgPath := "", byteOffset := 0 }, { name := "K", type := 3, offset := 1, embedded := false, tag := "", pkgPath := "", byteOffset := 8 }, { name := "Steps", type := 23, offset := 2, embedded := false, tag := "", pkgPath := "", byteOffset := 16 }], size := 3, bytes := 40, zero := [VVal.int .i64 0, VVal.int .i64 0, VVal.slice none 0 0 true 0], flat := false }
theorem ok75 : TyOk Tryd.prog 75 y75 := .agg' Tryd.underlying75 Tryd.type75 rfl rfl rfl rfl rfl rfl
def y76 : VTy := { desc := Go.TypeDesc.func #[124] #[] false, size := 1, bytes := 8, zero := [VVal.nilFunc], flat := false }
theorem ok76 : TyOk Tryd.prog 76 y76 := .one' Tryd.underlying76 Tryd.type76 rfl rfl rfl rfl rfl rfl
def y77 : VTy := { desc := Go.TypeDesc.func #[124] #[] false, size := 1, bytes := 8, zero := [VVal.nilFunc], flat := false }
theorem ok77 : TyOk Tryd.prog 77 y77 := .one' Tryd.underlying77 Tryd.type77 rfl rfl rfl rfl rfl rfl
def y78 : VTy := { desc := Go.TypeDesc.func #[26] #[77] false, size := 1, bytes := 8, zero := [VVal.nilFunc], flat := false }
theorem ok78 : TyOk Tryd.prog 78 y78 := .one' Tryd.underlying78 Tryd.type78 rfl rfl rfl rfl rfl rfl
def y79 : VTy := { desc := Go.TypeDesc.func #[22, 27] #[27] false, size := 1, bytes := 8, zero := [VVal.nilFunc], flat := false }
theorem ok79 : TyOk Tryd.prog 79 y79 := .one' Tryd.underlying79 Tryd.type79 rfl rfl rfl rfl rfl rfl
def y80 : VTy := { desc := Go.TypeDesc.func #[26, 23, 27] #[27] false, size := 1, bytes := 8, zero := [VVal.nilFunc], flat := false }
theorem ok80 : TyOk Tryd.prog 80 y80 := .one' Tryd.underlying80 Tryd.type80 rfl rfl rfl rfl rfl rfl
def y81 : VTy := { desc := Go.TypeDesc.func #[26, 3] #[27] false, size := 1, bytes := 8, zero := [VVal.nilFunc], flat := false }
theorem ok81 : TyOk Tryd.prog 81 y81 := .one' Tryd.underlying81 Tryd.type81 rfl rfl rfl rfl rfl rfl
def y82 : VTy := { desc := Go.TypeDesc.func #[22, 3] #[27] false, size := 1, bytes := 8, zero := [VVal.nilFunc], flat := false }
theorem ok82 : TyOk Tryd.prog 82 y82 := .one' Tryd.underlying82 Tryd.type82 rfl rfl rfl rfl rfl rfl
def y83 : VTy := { desc := Go.TypeDesc.func #[26, 3, 3] #[26, 3] false, size := 1, bytes := 8, zero := [VVal.nilFunc], flat := false }
theorem ok83 : TyOk Tryd.prog 83 y83 := .one' Tryd.underlying83 Tryd.type83 rfl rfl rfl rfl rfl rfl
def y84 : VTy := { desc := Go.TypeDesc.func #[26, 3, 3] #[4] false, size := 1, bytes := 8, zero := [VVal.nilFunc], flat := false }
theorem ok84 : TyOk Tryd.prog 84 y84 := .one' Tryd.underlying84 Tryd.type84 rfl rfl rfl rfl rfl rfl
def y85 : VTy := { desc := Go.TypeDesc.struct #[{ name := "spared", type := 23, offset := 0, embedded := false, tag := "", pkgPath := "provost/core", byteOffset := 0 }, { name := "left", type := 23, offset := 1, embedded := false, tag := "", pkgPath := "provost/core", byteOffset := 24 }], size := 2, bytes := 48, zero := [VVal.slice none 0 0 true 0, VVal.slice none 0 0 true 0], flat := false }
theorem ok85 : TyOk Tryd.prog 85 y85 := .agg' Tryd.underlying85 Tryd.type85 rfl rfl rfl rfl rfl rfl
def y86 : VTy := { desc := Go.TypeDesc.struct #[{ name := "spared", type := 23, offset := 0, embedded := false, tag := "", pkgPath := "provost/core", byteOffset := 0 }, { name := "left", type := 23, offset := 1, embedded := false, tag := "", pkgPath := "provost/core", byteOffset := 24 }], size := 2, bytes := 48, zero := [VVal.slice none 0 0 true 0, VVal.slice none 0 0 true 0], flat := false }
theorem ok86 : TyOk Tryd.prog 86 y86 := .agg' Tryd.underlying86 Tryd.type86 rfl rfl rfl rfl rfl rfl
def y87 : VTy := { desc := Go.TypeDesc.func #[3, 31] #[] false, size := 1, bytes := 8, zero := [VVal.nilFunc], flat := false }
theorem ok87 : TyOk Tryd.prog 87 y87 := .one' Tryd.underlying87 Tryd.type87 rfl rfl rfl rfl rfl rfl
def y88 : VTy := { desc := Go.TypeDesc.func #[23, 3] #[4] false, size := 1, bytes := 8, zero := [VVal.nilFunc], flat := false }
theorem ok88 : TyOk Tryd.prog 88 y88 := .one' Tryd.underlying88 Tryd.type88 rfl rfl rfl rfl rfl rfl
def y89 : VTy := { desc := Go.TypeDesc.func #[3] #[27] false, size := 1, bytes := 8, zero := [VVal.nilFunc], flat := false }
theorem ok89 : TyOk Tryd.prog 89 y89 := .one' Tryd.underlying89 Tryd.type89 rfl rfl rfl rfl rfl rfl
def y90 : VTy := { desc := Go.TypeDesc.struct #[{ name := "Nodes", type := 27, offset := 0, embedded := false, tag := "", pkgPath := "", byteOffset := 0 }, { name := "Pairs", type := 27, offset := 1, embedded := false, tag := "", pkgPath := "", byteOffset := 8 }, { name := "Edges", type := 27, offset := 2, embedded := false, tag := "", pkgPath := "", byteOffset := 16 }], size := 3, bytes := 24, zero := [VVal.int .u64 0, VVal.int .u64 0, VVal.int .u64 0], flat := true }
theorem ok90 : TyOk Tryd.prog 90 y90 := .str' Tryd.underlying90 Tryd.type90 rfl rfl rfl rfl rfl rfl (by kernel_rfl) (by kernel_rfl) (fun i f h => match i, f, h with | 0, _, h => by simp at h; subst h; exact ⟨by decide, rfl, _, Tryd.underlying27⟩ | 1, _, h => by simp at h; subst h; exact ⟨by decide, rfl, _, Tryd.underlying27⟩ | 2, _, h => by simp at h; subst h; exact ⟨by decide, rfl, _, Tryd.underlying27⟩ | n + 3, _, h => by simp at h) (by kernel_rfl)
def y91 : VTy := { desc := Go.TypeDesc.struct #[{ name := "Nodes", type := 27, offset := 0, embedded := false, tag := "", pkgPath := "", byteOffset := 0 }, { name := "Pairs", type := 27, offset := 1, embedded := false, tag := "", pkgPath := "", byteOffset := 8 }, { name := "Edges", type := 27, offset := 2, embedded := false, tag := "", pkgPath := "", byteOffset := 16 }], size := 3, bytes := 24, zero := [VVal.int .u64 0, VVal.int .u64 0, VVal.int .u64 0], flat := true }
theorem ok91 : TyOk Tryd.prog 91 y91 := .str' Tryd.underlying91 Tryd.type91 rfl rfl rfl rfl rfl rfl (by kernel_rfl) (by kernel_rfl) (fun i f h => match i, f, h with | 0, _, h => by simp at h; subst h; exact ⟨by decide, rfl, _, Tryd.underlying27⟩ | 1, _, h => by simp at h; subst h; exact ⟨by decide, rfl, _, Tryd.underlying27⟩ | 2, _, h => by simp at h; subst h; exact ⟨by decide, rfl, _, Tryd.underlying27⟩ | n + 3, _, h => by simp at h) (by kernel_rfl)
def y92 : VTy := { desc := Go.TypeDesc.struct #[{ name := "gauge", type := 91, offset := 0, embedded := false, tag := "", pkgPath := "provost/solve", byteOffset := 0 }], size := 3, bytes := 24, zero := [VVal.int .u64 0, VVal.int .u64 0, VVal.int .u64 0], flat := false }
theorem ok92 : TyOk Tryd.prog 92 y92 := .agg' Tryd.underlying92 Tryd.type92 rfl rfl rfl rfl rfl rfl
def y93 : VTy := { desc := Go.TypeDesc.struct #[{ name := "gauge", type := 91, offset := 0, embedded := false, tag := "", pkgPath := "provost/solve", byteOffset := 0 }], size := 3, bytes := 24, zero := [VVal.int .u64 0, VVal.int .u64 0, VVal.int .u64 0], flat := false }
theorem ok93 : TyOk Tryd.prog 93 y93 := .agg' Tryd.underlying93 Tryd.type93 rfl rfl rfl rfl rfl rfl
def y94 : VTy := { desc := Go.TypeDesc.struct #[{ name := "word", type := 27, offset := 0, embedded := false, tag := "", pkgPath := "provost/bits", byteOffset := 0 }], size := 1, bytes := 8, zero := [VVal.int .u64 0], flat := true }
theorem ok94 : TyOk Tryd.prog 94 y94 := .str' Tryd.underlying94 Tryd.type94 rfl rfl rfl rfl rfl rfl (by kernel_rfl) (by kernel_rfl) (fun i f h => match i, f, h with | 0, _, h => by simp at h; subst h; exact ⟨by decide, rfl, _, Tryd.underlying27⟩ | n + 1, _, h => by simp at h) (by kernel_rfl)
def y95 : VTy := { desc := Go.TypeDesc.struct #[{ name := "word", type := 27, offset := 0, embedded := false, tag := "", pkgPath := "provost/bits", byteOffset := 0 }], size := 1, bytes := 8, zero := [VVal.int .u64 0], flat := true }
theorem ok95 : TyOk Tryd.prog 95 y95 := .str' Tryd.underlying95 Tryd.type95 rfl rfl rfl rfl rfl rfl (by kernel_rfl) (by kernel_rfl) (fun i f h => match i, f, h with | 0, _, h => by simp at h; subst h; exact ⟨by decide, rfl, _, Tryd.underlying27⟩ | n + 1, _, h => by simp at h) (by kernel_rfl)
def y96 : VTy := { desc := Go.TypeDesc.func #[27] #[95] false, size := 1, bytes := 8, zero := [VVal.nilFunc], flat := false }
theorem ok96 : TyOk Tryd.prog 96 y96 := .one' Tryd.underlying96 Tryd.type96 rfl rfl rfl rfl rfl rfl
def y97 : VTy := { desc := Go.TypeDesc.func #[] #[3] false, size := 1, bytes := 8, zero := [VVal.nilFunc], flat := false }
theorem ok97 : TyOk Tryd.prog 97 y97 := .one' Tryd.underlying97 Tryd.type97 rfl rfl rfl rfl rfl rfl
def y98 : VTy := { desc := Go.TypeDesc.func #[3, 75] #[39] false, size := 1, bytes := 8, zero := [VVal.nilFunc], flat := false }
theorem ok98 : TyOk Tryd.prog 98 y98 := .one' Tryd.underlying98 Tryd.type98 rfl rfl rfl rfl rfl rfl
def y99 : VTy := { desc := Go.TypeDesc.struct #[{ name := "Kind", type := 3, offset := 0, embedded := false, tag := "", pkgPath := "", byteOffset := 0 }, { name := "Step", type := 3, offset := 1, embedded := false, tag := "", pkgPath := "", byteOffset := 8 }, { name := "Rule", type := 3, offset := 2, embedded := false, tag := "", pkgPath := "", byteOffset := 16 }], size := 3, bytes := 24, zero := [VVal.int .i64 0, VVal.int .i64 0, VVal.int .i64 0], flat := true }
theorem ok99 : TyOk Tryd.prog 99 y99 := .str' Tryd.underlying99 Tryd.type99 rfl rfl rfl rfl rfl rfl (by kernel_rfl) (by kernel_rfl) (fun i f h => match i, f, h with | 0, _, h => by simp at h; subst h; exact ⟨by decide, rfl, _, Tryd.underlying3⟩ | 1, _, h => by simp at h; subst h; exact ⟨by decide, rfl, _, Tryd.underlying3⟩ | 2, _, h => by simp at h; subst h; exact ⟨by decide, rfl, _, Tryd.underlying3⟩ | n + 3, _, h => by simp at h) (by kernel_rfl)
def y100 : VTy := { desc := Go.TypeDesc.struct #[{ name := "Kind", type := 3, offset := 0, embedded := false, tag := "", pkgPath := "", byteOffset := 0 }, { name := "Step", type := 3, offset := 1, embedded := false, tag := "", pkgPath := "", byteOffset := 8 }, { name := "Rule", type := 3, offset := 2, embedded := false, tag := "", pkgPath := "", byteOffset := 16 }], size := 3, bytes := 24, zero := [VVal.int .i64 0, VVal.int .i64 0, VVal.int .i64 0], flat := true }
theorem ok100 : TyOk Tryd.prog 100 y100 := .str' Tryd.underlying100 Tryd.type100 rfl rfl rfl rfl rfl rfl (by kernel_rfl) (by kernel_rfl) (fun i f h => match i, f, h with | 0, _, h => by simp at h; subst h; exact ⟨by decide, rfl, _, Tryd.underlying3⟩ | 1, _, h => by simp at h; subst h; exact ⟨by decide, rfl, _, Tryd.underlying3⟩ | 2, _, h => by simp at h; subst h; exact ⟨by decide, rfl, _, Tryd.underlying3⟩ | n + 3, _, h => by simp at h) (by kernel_rfl)
def y101 : VTy := { desc := Go.TypeDesc.func #[3] #[4] false, size := 1, bytes := 8, zero := [VVal.nilFunc], flat := false }
theorem ok101 : TyOk Tryd.prog 101 y101 := .one' Tryd.underlying101 Tryd.type101 rfl rfl rfl rfl rfl rfl
def y102 : VTy := { desc := Go.TypeDesc.func #[24, 23] #[23] false, size := 1, bytes := 8, zero := [VVal.nilFunc], flat := false }
theorem ok102 : TyOk Tryd.prog 102 y102 := .one' Tryd.underlying102 Tryd.type102 rfl rfl rfl rfl rfl rfl
def y103 : VTy := { desc := Go.TypeDesc.pointer 143, size := 1, bytes := 8, zero := [VVal.ptr none], flat := false }
theorem ok103 : TyOk Tryd.prog 103 y103 := .one' Tryd.underlying103 Tryd.type103 rfl rfl rfl rfl rfl rfl
def y104 : VTy := { desc := Go.TypeDesc.func #[26, 105] #[103] false, size := 1, bytes := 8, zero := [VVal.nilFunc], flat := false }
theorem ok104 : TyOk Tryd.prog 104 y104 := .one' Tryd.underlying104 Tryd.type104 rfl rfl rfl rfl rfl rfl
def y105 : VTy := { desc := Go.TypeDesc.pointer 91, size := 1, bytes := 8, zero := [VVal.ptr none], flat := false }
theorem ok105 : TyOk Tryd.prog 105 y105 := .one' Tryd.underlying105 Tryd.type105 rfl rfl rfl rfl rfl rfl
def y106 : VTy := { desc := Go.TypeDesc.slice 23, size := 1, bytes := 24, zero := [VVal.slice none 0 0 true 0], flat := false }
theorem ok106 : TyOk Tryd.prog 106 y106 := .one' Tryd.underlying106 Tryd.type106 rfl rfl rfl rfl rfl rfl
def y107 : VTy := { desc := Go.TypeDesc.func #[3, 3, 108] #[106] false, size := 1, bytes := 8, zero := [VVal.nilFunc], flat := false }
theorem ok107 : TyOk Tryd.prog 107 y107 := .one' Tryd.underlying107 Tryd.type107 rfl rfl rfl rfl rfl rfl
def y108 : VTy := { desc := Go.TypeDesc.func #[23] #[4] false, size := 1, bytes := 8, zero := [VVal.nilFunc], flat := false }
theorem ok108 : TyOk Tryd.prog 108 y108 := .one' Tryd.underlying108 Tryd.type108 rfl rfl rfl rfl rfl rfl
def y109 : VTy := { desc := Go.TypeDesc.func #[108] #[] false, size := 1, bytes := 8, zero := [VVal.nilFunc], flat := false }
theorem ok109 : TyOk Tryd.prog 109 y109 := .one' Tryd.underlying109 Tryd.type109 rfl rfl rfl rfl rfl rfl
def y110 : VTy := { desc := Go.TypeDesc.func #[108] #[] false, size := 1, bytes := 8, zero := [VVal.nilFunc], flat := false }
theorem ok110 : TyOk Tryd.prog 110 y110 := .one' Tryd.underlying110 Tryd.type110 rfl rfl rfl rfl rfl rfl
def y111 : VTy := { desc := Go.TypeDesc.func #[23] #[110] false, size := 1, bytes := 8, zero := [VVal.nilFunc], flat := false }
theorem ok111 : TyOk Tryd.prog 111 y111 := .one' Tryd.underlying111 Tryd.type111 rfl rfl rfl rfl rfl rfl
def y112 : VTy := { desc := Go.TypeDesc.slice 5, size := 1, bytes := 24, zero := [VVal.slice none 0 0 true 0], flat := false }
theorem ok112 : TyOk Tryd.prog 112 y112 := .one' Tryd.underlying112 Tryd.type112 rfl rfl rfl rfl rfl rfl
def y113 : VTy := { desc := Go.TypeDesc.func #[27, 3] #[] false, size := 1, bytes := 8, zero := [VVal.nilFunc], flat := false }
theorem ok113 : TyOk Tryd.prog 113 y113 := .one' Tryd.underlying113 Tryd.type113 rfl rfl rfl rfl rfl rfl
def y114 : VTy := { desc := Go.TypeDesc.pointer 116, size := 1, bytes := 8, zero := [VVal.ptr none], flat := false }
theorem ok114 : TyOk Tryd.prog 114 y114 := .one' Tryd.underlying114 Tryd.type114 rfl rfl rfl rfl rfl rfl
def y115 : VTy := { desc := Go.TypeDesc.struct #[{ name := "left", type := 57, offset := 0, embedded := false, tag := "", pkgPath := "provost/plan", byteOffset := 0 }, { name := "short", type := 4, offset := 1, embedded := false, tag := "", pkgPath := "provost/plan", byteOffset := 24 }], size := 2, bytes := 32, zero := [VVal.slice none 0 0 true 0, VVal.bool false], flat := false }
theorem ok115 : TyOk Tryd.prog 115 y115 := .agg' Tryd.underlying115 Tryd.type115 rfl rfl rfl rfl rfl rfl
def y116 : VTy := { desc := Go.TypeDesc.struct #[{ name := "left", type := 57, offset := 0, embedded := false, tag := "", pkgPath := "provost/plan", byteOffset := 0 }, { name := "short", type := 4, offset := 1, embedded := false, tag := "", pkgPath := "provost/plan", byteOffset := 24 }], size := 2, bytes := 32, zero := [VVal.slice none 0 0 true 0, VVal.bool false], flat := false }
theorem ok116 : TyOk Tryd.prog 116 y116 := .agg' Tryd.underlying116 Tryd.type116 rfl rfl rfl rfl rfl rfl
def y117 : VTy := { desc := Go.TypeDesc.int Go.IntKind.u64, size := 1, bytes := 8, zero := [VVal.int .u64 0], flat := false }
theorem ok117 : TyOk Tryd.prog 117 y117 := .one' Tryd.underlying117 Tryd.type117 rfl rfl rfl rfl rfl rfl
def y118 : VTy := { desc := Go.TypeDesc.func #[] #[75] false, size := 1, bytes := 8, zero := [VVal.nilFunc], flat := false }
theorem ok118 : TyOk Tryd.prog 118 y118 := .one' Tryd.underlying118 Tryd.type118 rfl rfl rfl rfl rfl rfl
def y119 : VTy := { desc := Go.TypeDesc.func #[75, 75] #[4] false, size := 1, bytes := 8, zero := [VVal.nilFunc], flat := false }
theorem ok119 : TyOk Tryd.prog 119 y119 := .one' Tryd.underlying119 Tryd.type119 rfl rfl rfl rfl rfl rfl
def y121 : VTy := { desc := Go.TypeDesc.func #[26, 95, 3] #[95, 4] false, size := 1, bytes := 8, zero := [VVal.nilFunc], flat := false }
theorem ok121 : TyOk Tryd.prog 121 y121 := .one' Tryd.underlying121 Tryd.type121 rfl rfl rfl rfl rfl rfl
def y122 : VTy := { desc := Go.TypeDesc.func #[] #[23] false, size := 1, bytes := 8, zero := [VVal.nilFunc], flat := false }
theorem ok122 : TyOk Tryd.prog 122 y122 := .one' Tryd.underlying122 Tryd.type122 rfl rfl rfl rfl rfl rfl
def y123 : VTy := { desc := Go.TypeDesc.func #[26, 3, 3, 23, 27] #[23, 4] false, size := 1, bytes := 8, zero := [VVal.nilFunc], flat := false }
theorem ok123 : TyOk Tryd.prog 123 y123 := .one' Tryd.underlying123 Tryd.type123 rfl rfl rfl rfl rfl rfl
def y124 : VTy := { desc := Go.TypeDesc.func #[23, 22] #[4] false, size := 1, bytes := 8, zero := [VVal.nilFunc], flat := false }
theorem ok124 : TyOk Tryd.prog 124 y124 := .one' Tryd.underlying124 Tryd.type124 rfl rfl rfl rfl rfl rfl
def y125 : VTy := { desc := Go.TypeDesc.func #[] #[110] false, size := 1, bytes := 8, zero := [VVal.nilFunc], flat := false }
theorem ok125 : TyOk Tryd.prog 125 y125 := .one' Tryd.underlying125 Tryd.type125 rfl rfl rfl rfl rfl rfl
def y126 : VTy := { desc := Go.TypeDesc.func #[23] #[22] false, size := 1, bytes := 8, zero := [VVal.nilFunc], flat := false }
theorem ok126 : TyOk Tryd.prog 126 y126 := .one' Tryd.underlying126 Tryd.type126 rfl rfl rfl rfl rfl rfl
def y127 : VTy := { desc := Go.TypeDesc.func #[22] #[4] false, size := 1, bytes := 8, zero := [VVal.nilFunc], flat := false }
theorem ok127 : TyOk Tryd.prog 127 y127 := .one' Tryd.underlying127 Tryd.type127 rfl rfl rfl rfl rfl rfl
def y128 : VTy := { desc := Go.TypeDesc.func #[3, 24] #[4] false, size := 1, bytes := 8, zero := [VVal.nilFunc], flat := false }
theorem ok128 : TyOk Tryd.prog 128 y128 := .one' Tryd.underlying128 Tryd.type128 rfl rfl rfl rfl rfl rfl
def y129 : VTy := { desc := Go.TypeDesc.func #[26, 23] #[22] false, size := 1, bytes := 8, zero := [VVal.nilFunc], flat := false }
theorem ok129 : TyOk Tryd.prog 129 y129 := .one' Tryd.underlying129 Tryd.type129 rfl rfl rfl rfl rfl rfl
def y130 : VTy := { desc := Go.TypeDesc.func #[23] #[3] false, size := 1, bytes := 8, zero := [VVal.nilFunc], flat := false }
theorem ok130 : TyOk Tryd.prog 130 y130 := .one' Tryd.underlying130 Tryd.type130 rfl rfl rfl rfl rfl rfl
def y131 : VTy := { desc := Go.TypeDesc.func #[22, 3, 3] #[22] false, size := 1, bytes := 8, zero := [VVal.nilFunc], flat := false }
theorem ok131 : TyOk Tryd.prog 131 y131 := .one' Tryd.underlying131 Tryd.type131 rfl rfl rfl rfl rfl rfl
def y132 : VTy := { desc := Go.TypeDesc.func #[22] #[22] false, size := 1, bytes := 8, zero := [VVal.nilFunc], flat := false }
theorem ok132 : TyOk Tryd.prog 132 y132 := .one' Tryd.underlying132 Tryd.type132 rfl rfl rfl rfl rfl rfl
def y133 : VTy := { desc := Go.TypeDesc.func #[101] #[] false, size := 1, bytes := 8, zero := [VVal.nilFunc], flat := false }
theorem ok133 : TyOk Tryd.prog 133 y133 := .one' Tryd.underlying133 Tryd.type133 rfl rfl rfl rfl rfl rfl
def y134 : VTy := { desc := Go.TypeDesc.func #[101] #[] false, size := 1, bytes := 8, zero := [VVal.nilFunc], flat := false }
theorem ok134 : TyOk Tryd.prog 134 y134 := .one' Tryd.underlying134 Tryd.type134 rfl rfl rfl rfl rfl rfl
def y135 : VTy := { desc := Go.TypeDesc.func #[] #[134] false, size := 1, bytes := 8, zero := [VVal.nilFunc], flat := false }
theorem ok135 : TyOk Tryd.prog 135 y135 := .one' Tryd.underlying135 Tryd.type135 rfl rfl rfl rfl rfl rfl
def y136 : VTy := { desc := Go.TypeDesc.func #[22, 27] #[4] false, size := 1, bytes := 8, zero := [VVal.nilFunc], flat := false }
theorem ok136 : TyOk Tryd.prog 136 y136 := .one' Tryd.underlying136 Tryd.type136 rfl rfl rfl rfl rfl rfl
def y137 : VTy := { desc := Go.TypeDesc.pointer 86, size := 1, bytes := 8, zero := [VVal.ptr none], flat := false }
theorem ok137 : TyOk Tryd.prog 137 y137 := .one' Tryd.underlying137 Tryd.type137 rfl rfl rfl rfl rfl rfl
def y138 : VTy := { desc := Go.TypeDesc.func #[23, 101] #[4] false, size := 1, bytes := 8, zero := [VVal.nilFunc], flat := false }
theorem ok138 : TyOk Tryd.prog 138 y138 := .one' Tryd.underlying138 Tryd.type138 rfl rfl rfl rfl rfl rfl
def y139 : VTy := { desc := Go.TypeDesc.func #[23, 3] #[3] false, size := 1, bytes := 8, zero := [VVal.nilFunc], flat := false }
theorem ok139 : TyOk Tryd.prog 139 y139 := .one' Tryd.underlying139 Tryd.type139 rfl rfl rfl rfl rfl rfl
def y140 : VTy := { desc := Go.TypeDesc.func #[75, 23] #[4] false, size := 1, bytes := 8, zero := [VVal.nilFunc], flat := false }
theorem ok140 : TyOk Tryd.prog 140 y140 := .one' Tryd.underlying140 Tryd.type140 rfl rfl rfl rfl rfl rfl
def y141 : VTy := { desc := Go.TypeDesc.slice 24, size := 1, bytes := 24, zero := [VVal.slice none 0 0 true 0], flat := false }
theorem ok141 : TyOk Tryd.prog 141 y141 := .one' Tryd.underlying141 Tryd.type141 rfl rfl rfl rfl rfl rfl
def y142 : VTy := { desc := Go.TypeDesc.struct #[{ name := "users", type := 3, offset := 0, embedded := false, tag := "", pkgPath := "provost/hunt", byteOffset := 0 }, { name := "words", type := 22, offset := 1, embedded := false, tag := "", pkgPath := "provost/hunt", byteOffset := 8 }, { name := "rules", type := 141, offset := 2, embedded := false, tag := "", pkgPath := "provost/hunt", byteOffset := 32 }, { name := "gauge", type := 105, offset := 3, embedded := false, tag := "", pkgPath := "provost/hunt", byteOffset := 56 }], size := 4, bytes := 64, zero := [VVal.int .i64 0, VVal.slice none 0 0 true 0, VVal.slice none 0 0 true 0, VVal.ptr none], flat := false }
theorem ok142 : TyOk Tryd.prog 142 y142 := .agg' Tryd.underlying142 Tryd.type142 rfl rfl rfl rfl rfl rfl
def y143 : VTy := { desc := Go.TypeDesc.struct #[{ name := "users", type := 3, offset := 0, embedded := false, tag := "", pkgPath := "provost/hunt", byteOffset := 0 }, { name := "words", type := 22, offset := 1, embedded := false, tag := "", pkgPath := "provost/hunt", byteOffset := 8 }, { name := "rules", type := 141, offset := 2, embedded := false, tag := "", pkgPath := "provost/hunt", byteOffset := 32 }, { name := "gauge", type := 105, offset := 3, embedded := false, tag := "", pkgPath := "provost/hunt", byteOffset := 56 }], size := 4, bytes := 64, zero := [VVal.int .i64 0, VVal.slice none 0 0 true 0, VVal.slice none 0 0 true 0, VVal.ptr none], flat := false }
theorem ok143 : TyOk Tryd.prog 143 y143 := .agg' Tryd.underlying143 Tryd.type143 rfl rfl rfl rfl rfl rfl
def y144 : VTy := { desc := Go.TypeDesc.pointer 146, size := 1, bytes := 8, zero := [VVal.ptr none], flat := false }
theorem ok144 : TyOk Tryd.prog 144 y144 := .one' Tryd.underlying144 Tryd.type144 rfl rfl rfl rfl rfl rfl
def y145 : VTy := { desc := Go.TypeDesc.struct #[{ name := "row", type := 23, offset := 0, embedded := false, tag := "", pkgPath := "provost/part", byteOffset := 0 }, { name := "keep", type := 108, offset := 1, embedded := false, tag := "", pkgPath := "provost/part", byteOffset := 24 }, { name := "yield", type := 108, offset := 2, embedded := false, tag := "", pkgPath := "provost/part", byteOffset := 32 }], size := 3, bytes := 40, zero := [VVal.slice none 0 0 true 0, VVal.nilFunc, VVal.nilFunc], flat := false }
theorem ok145 : TyOk Tryd.prog 145 y145 := .agg' Tryd.underlying145 Tryd.type145 rfl rfl rfl rfl rfl rfl
def y146 : VTy := { desc := Go.TypeDesc.struct #[{ name := "row", type := 23, offset := 0, embedded := false, tag := "", pkgPath := "provost/part", byteOffset := 0 }, { name := "keep", type := 108, offset := 1, embedded := false, tag := "", pkgPath := "provost/part", byteOffset := 24 }, { name := "yield", type := 108, offset := 2, embedded := false, tag := "", pkgPath := "provost/part", byteOffset := 32 }], size := 3, bytes := 40, zero := [VVal.slice none 0 0 true 0, VVal.nilFunc, VVal.nilFunc], flat := false }
theorem ok146 : TyOk Tryd.prog 146 y146 := .agg' Tryd.underlying146 Tryd.type146 rfl rfl rfl rfl rfl rfl
def y147 : VTy := { desc := Go.TypeDesc.func #[3, 3] #[4] false, size := 1, bytes := 8, zero := [VVal.nilFunc], flat := false }
theorem ok147 : TyOk Tryd.prog 147 y147 := .one' Tryd.underlying147 Tryd.type147 rfl rfl rfl rfl rfl rfl
def y148 : VTy := { desc := Go.TypeDesc.func #[75, 3, 23] #[4] false, size := 1, bytes := 8, zero := [VVal.nilFunc], flat := false }
theorem ok148 : TyOk Tryd.prog 148 y148 := .one' Tryd.underlying148 Tryd.type148 rfl rfl rfl rfl rfl rfl
def y149 : VTy := { desc := Go.TypeDesc.func #[22] #[110] false, size := 1, bytes := 8, zero := [VVal.nilFunc], flat := false }
theorem ok149 : TyOk Tryd.prog 149 y149 := .one' Tryd.underlying149 Tryd.type149 rfl rfl rfl rfl rfl rfl
def y150 : VTy := { desc := Go.TypeDesc.pointer 112, size := 1, bytes := 8, zero := [VVal.ptr none], flat := false }
theorem ok150 : TyOk Tryd.prog 150 y150 := .one' Tryd.underlying150 Tryd.type150 rfl rfl rfl rfl rfl rfl
def y151 : VTy := { desc := Go.TypeDesc.func #[] #[27] false, size := 1, bytes := 8, zero := [VVal.nilFunc], flat := false }
theorem ok151 : TyOk Tryd.prog 151 y151 := .one' Tryd.underlying151 Tryd.type151 rfl rfl rfl rfl rfl rfl
def y153 : VTy := { desc := Go.TypeDesc.func #[3] #[95, 39] false, size := 1, bytes := 8, zero := [VVal.nilFunc], flat := false }
theorem ok153 : TyOk Tryd.prog 153 y153 := .one' Tryd.underlying153 Tryd.type153 rfl rfl rfl rfl rfl rfl
def y154 : VTy := { desc := Go.TypeDesc.func #[23, 3, 108] #[4] false, size := 1, bytes := 8, zero := [VVal.nilFunc], flat := false }
theorem ok154 : TyOk Tryd.prog 154 y154 := .one' Tryd.underlying154 Tryd.type154 rfl rfl rfl rfl rfl rfl
def y155 : VTy := { desc := Go.TypeDesc.func #[3, 75] #[4] false, size := 1, bytes := 8, zero := [VVal.nilFunc], flat := false }
theorem ok155 : TyOk Tryd.prog 155 y155 := .one' Tryd.underlying155 Tryd.type155 rfl rfl rfl rfl rfl rfl
def y156 : VTy := { desc := Go.TypeDesc.func #[22, 3] #[22] false, size := 1, bytes := 8, zero := [VVal.nilFunc], flat := false }
theorem ok156 : TyOk Tryd.prog 156 y156 := .one' Tryd.underlying156 Tryd.type156 rfl rfl rfl rfl rfl rfl
def y157 : VTy := { desc := Go.TypeDesc.func #[23] #[106] false, size := 1, bytes := 8, zero := [VVal.nilFunc], flat := false }
theorem ok157 : TyOk Tryd.prog 157 y157 := .one' Tryd.underlying157 Tryd.type157 rfl rfl rfl rfl rfl rfl
def y158 : VTy := { desc := Go.TypeDesc.func #[3] #[3] false, size := 1, bytes := 8, zero := [VVal.nilFunc], flat := false }
theorem ok158 : TyOk Tryd.prog 158 y158 := .one' Tryd.underlying158 Tryd.type158 rfl rfl rfl rfl rfl rfl
def y159 : VTy := { desc := Go.TypeDesc.func #[22] #[3] false, size := 1, bytes := 8, zero := [VVal.nilFunc], flat := false }
theorem ok159 : TyOk Tryd.prog 159 y159 := .one' Tryd.underlying159 Tryd.type159 rfl rfl rfl rfl rfl rfl
def y160 : VTy := { desc := Go.TypeDesc.func #[26, 23] #[23, 4] false, size := 1, bytes := 8, zero := [VVal.nilFunc], flat := false }
theorem ok160 : TyOk Tryd.prog 160 y160 := .one' Tryd.underlying160 Tryd.type160 rfl rfl rfl rfl rfl rfl
def y161 : VTy := { desc := Go.TypeDesc.func #[23, 101] #[3] false, size := 1, bytes := 8, zero := [VVal.nilFunc], flat := false }
theorem ok161 : TyOk Tryd.prog 161 y161 := .one' Tryd.underlying161 Tryd.type161 rfl rfl rfl rfl rfl rfl
def y162 : VTy := { desc := Go.TypeDesc.pointer 165, size := 1, bytes := 8, zero := [VVal.ptr none], flat := false }
theorem ok162 : TyOk Tryd.prog 162 y162 := .one' Tryd.underlying162 Tryd.type162 rfl rfl rfl rfl rfl rfl
def y163 : VTy := { desc := Go.TypeDesc.array 64 3, size := 64, bytes := 512, zero := [VVal.int .i64 0, VVal.int .i64 0, VVal.int .i64 0, VVal.int .i64 0, VVal.int .i64 0, VVal.int .i64 0, VVal.int .i64 0, VVal.int .i64 0, VVal.int .i64 0, VVal.int .i64 0, VVal.int .i64 0, VVal.int .i64 0, VVal.int .i64 0, VVal.int .i64 0, VVal.int .i64 0, VVal.int .i64 0, VVal.int .i64 0, VVal.int .i64 0, VVal.int .i64 0, VVal.int .i64 0, VVal.int .i64 0, VVal.int .i64 0, VVal.int .i64 0, VVal.int .i64 0, VVal.int .i64 0, VVal.int .i64 0, VVal.int .i64 0, VVal.int .i64 0, VVal.int .i64 0, VVal.int .i64 0, VVal.int .i64 0, VVal.int .i64 0, VVal.int .i64 0, VVal.int .i64 0, VVal.int .i64 0, VVal.int .i64 0, VVal.int .i64 0, VVal.int .i64 0, VVal.int .i64 0, VVal.int .i64 0, VVal.int .i64 0, VVal.int .i64 0, VVal.int .i64 0, VVal.int .i64 0, VVal.int .i64 0, VVal.int .i64 0, VVal.int .i64 0, VVal.int .i64 0, VVal.int .i64 0, VVal.int .i64 0, VVal.int .i64 0, VVal.int .i64 0, VVal.int .i64 0, VVal.int .i64 0, VVal.int .i64 0, VVal.int .i64 0, VVal.int .i64 0, VVal.int .i64 0, VVal.int .i64 0, VVal.int .i64 0, VVal.int .i64 0, VVal.int .i64 0, VVal.int .i64 0, VVal.int .i64 0], flat := true }
theorem ok163 : TyOk Tryd.prog 163 y163 := .arr' Tryd.underlying163 Tryd.type163 rfl rfl rfl rfl rfl rfl Tryd.underlying3 Tryd.type3 rfl (by kernel_rfl)
def y164 : VTy := { desc := Go.TypeDesc.struct #[{ name := "rows", type := 22, offset := 0, embedded := false, tag := "", pkgPath := "provost/hunt", byteOffset := 0 }, { name := "owner", type := 163, offset := 1, embedded := false, tag := "", pkgPath := "provost/hunt", byteOffset := 24 }, { name := "gauge", type := 105, offset := 65, embedded := false, tag := "", pkgPath := "provost/hunt", byteOffset := 536 }], size := 66, bytes := 544, zero := [VVal.slice none 0 0 true 0, VVal.int .i64 0, VVal.int .i64 0, VVal.int .i64 0, VVal.int .i64 0, VVal.int .i64 0, VVal.int .i64 0, VVal.int .i64 0, VVal.int .i64 0, VVal.int .i64 0, VVal.int .i64 0, VVal.int .i64 0, VVal.int .i64 0, VVal.int .i64 0, VVal.int .i64 0, VVal.int .i64 0, VVal.int .i64 0, VVal.int .i64 0, VVal.int .i64 0, VVal.int .i64 0, VVal.int .i64 0, VVal.int .i64 0, VVal.int .i64 0, VVal.int .i64 0, VVal.int .i64 0, VVal.int .i64 0, VVal.int .i64 0, VVal.int .i64 0, VVal.int .i64 0, VVal.int .i64 0, VVal.int .i64 0, VVal.int .i64 0, VVal.int .i64 0, VVal.int .i64 0, VVal.int .i64 0, VVal.int .i64 0, VVal.int .i64 0, VVal.int .i64 0, VVal.int .i64 0, VVal.int .i64 0, VVal.int .i64 0, VVal.int .i64 0, VVal.int .i64 0, VVal.int .i64 0, VVal.int .i64 0, VVal.int .i64 0, VVal.int .i64 0, VVal.int .i64 0, VVal.int .i64 0, VVal.int .i64 0, VVal.int .i64 0, VVal.int .i64 0, VVal.int .i64 0, VVal.int .i64 0, VVal.int .i64 0, VVal.int .i64 0, VVal.int .i64 0, VVal.int .i64 0, VVal.int .i64 0, VVal.int .i64 0, VVal.int .i64 0, VVal.int .i64 0, VVal.int .i64 0, VVal.int .i64 0, VVal.int .i64 0, VVal.ptr none], flat := false }
theorem ok164 : TyOk Tryd.prog 164 y164 := .agg' Tryd.underlying164 Tryd.type164 rfl rfl rfl rfl rfl rfl
def y165 : VTy := { desc := Go.TypeDesc.struct #[{ name := "rows", type := 22, offset := 0, embedded := false, tag := "", pkgPath := "provost/hunt", byteOffset := 0 }, { name := "owner", type := 163, offset := 1, embedded := false, tag := "", pkgPath := "provost/hunt", byteOffset := 24 }, { name := "gauge", type := 105, offset := 65, embedded := false, tag := "", pkgPath := "provost/hunt", byteOffset := 536 }], size := 66, bytes := 544, zero := [VVal.slice none 0 0 true 0, VVal.int .i64 0, VVal.int .i64 0, VVal.int .i64 0, VVal.int .i64 0, VVal.int .i64 0, VVal.int .i64 0, VVal.int .i64 0, VVal.int .i64 0, VVal.int .i64 0, VVal.int .i64 0, VVal.int .i64 0, VVal.int .i64 0, VVal.int .i64 0, VVal.int .i64 0, VVal.int .i64 0, VVal.int .i64 0, VVal.int .i64 0, VVal.int .i64 0, VVal.int .i64 0, VVal.int .i64 0, VVal.int .i64 0, VVal.int .i64 0, VVal.int .i64 0, VVal.int .i64 0, VVal.int .i64 0, VVal.int .i64 0, VVal.int .i64 0, VVal.int .i64 0, VVal.int .i64 0, VVal.int .i64 0, VVal.int .i64 0, VVal.int .i64 0, VVal.int .i64 0, VVal.int .i64 0, VVal.int .i64 0, VVal.int .i64 0, VVal.int .i64 0, VVal.int .i64 0, VVal.int .i64 0, VVal.int .i64 0, VVal.int .i64 0, VVal.int .i64 0, VVal.int .i64 0, VVal.int .i64 0, VVal.int .i64 0, VVal.int .i64 0, VVal.int .i64 0, VVal.int .i64 0, VVal.int .i64 0, VVal.int .i64 0, VVal.int .i64 0, VVal.int .i64 0, VVal.int .i64 0, VVal.int .i64 0, VVal.int .i64 0, VVal.int .i64 0, VVal.int .i64 0, VVal.int .i64 0, VVal.int .i64 0, VVal.int .i64 0, VVal.int .i64 0, VVal.int .i64 0, VVal.int .i64 0, VVal.int .i64 0, VVal.ptr none], flat := false }
theorem ok165 : TyOk Tryd.prog 165 y165 := .agg' Tryd.underlying165 Tryd.type165 rfl rfl rfl rfl rfl rfl
def y166 : VTy := { desc := Go.TypeDesc.func #[3, 167] #[4] false, size := 1, bytes := 8, zero := [VVal.nilFunc], flat := false }
theorem ok166 : TyOk Tryd.prog 166 y166 := .one' Tryd.underlying166 Tryd.type166 rfl rfl rfl rfl rfl rfl
def y167 : VTy := { desc := Go.TypeDesc.pointer 27, size := 1, bytes := 8, zero := [VVal.ptr none], flat := false }
theorem ok167 : TyOk Tryd.prog 167 y167 := .one' Tryd.underlying167 Tryd.type167 rfl rfl rfl rfl rfl rfl
def y168 : VTy := { desc := Go.TypeDesc.func #[22, 23, 27, 108] #[4] false, size := 1, bytes := 8, zero := [VVal.nilFunc], flat := false }
theorem ok168 : TyOk Tryd.prog 168 y168 := .one' Tryd.underlying168 Tryd.type168 rfl rfl rfl rfl rfl rfl
def y169 : VTy := { desc := Go.TypeDesc.func #[75, 23, 3] #[4] false, size := 1, bytes := 8, zero := [VVal.nilFunc], flat := false }
theorem ok169 : TyOk Tryd.prog 169 y169 := .one' Tryd.underlying169 Tryd.type169 rfl rfl rfl rfl rfl rfl
def y170 : VTy := { desc := Go.TypeDesc.pointer 172, size := 1, bytes := 8, zero := [VVal.ptr none], flat := false }
theorem ok170 : TyOk Tryd.prog 170 y170 := .one' Tryd.underlying170 Tryd.type170 rfl rfl rfl rfl rfl rfl
def y171 : VTy := { desc := Go.TypeDesc.struct #[{ name := "rows", type := 22, offset := 0, embedded := false, tag := "", pkgPath := "provost/match", byteOffset := 0 }, { name := "owner", type := 163, offset := 1, embedded := false, tag := "", pkgPath := "provost/match", byteOffset := 24 }], size := 65, bytes := 536, zero := [VVal.slice none 0 0 true 0, VVal.int .i64 0, VVal.int .i64 0, VVal.int .i64 0, VVal.int .i64 0, VVal.int .i64 0, VVal.int .i64 0, VVal.int .i64 0, VVal.int .i64 0, VVal.int .i64 0, VVal.int .i64 0, VVal.int .i64 0, VVal.int .i64 0, VVal.int .i64 0, VVal.int .i64 0, VVal.int .i64 0, VVal.int .i64 0, VVal.int .i64 0, VVal.int .i64 0, VVal.int .i64 0, VVal.int .i64 0, VVal.int .i64 0, VVal.int .i64 0, VVal.int .i64 0, VVal.int .i64 0, VVal.int .i64 0, VVal.int .i64 0, VVal.int .i64 0, VVal.int .i64 0, VVal.int .i64 0, VVal.int .i64 0, VVal.int .i64 0, VVal.int .i64 0, VVal.int .i64 0, VVal.int .i64 0, VVal.int .i64 0, VVal.int .i64 0, VVal.int .i64 0, VVal.int .i64 0, VVal.int .i64 0, VVal.int .i64 0, VVal.int .i64 0, VVal.int .i64 0, VVal.int .i64 0, VVal.int .i64 0, VVal.int .i64 0, VVal.int .i64 0, VVal.int .i64 0, VVal.int .i64 0, VVal.int .i64 0, VVal.int .i64 0, VVal.int .i64 0, VVal.int .i64 0, VVal.int .i64 0, VVal.int .i64 0, VVal.int .i64 0, VVal.int .i64 0, VVal.int .i64 0, VVal.int .i64 0, VVal.int .i64 0, VVal.int .i64 0, VVal.int .i64 0, VVal.int .i64 0, VVal.int .i64 0, VVal.int .i64 0], flat := false }
theorem ok171 : TyOk Tryd.prog 171 y171 := .agg' Tryd.underlying171 Tryd.type171 rfl rfl rfl rfl rfl rfl
def y172 : VTy := { desc := Go.TypeDesc.struct #[{ name := "rows", type := 22, offset := 0, embedded := false, tag := "", pkgPath := "provost/match", byteOffset := 0 }, { name := "owner", type := 163, offset := 1, embedded := false, tag := "", pkgPath := "provost/match", byteOffset := 24 }], size := 65, bytes := 536, zero := [VVal.slice none 0 0 true 0, VVal.int .i64 0, VVal.int .i64 0, VVal.int .i64 0, VVal.int .i64 0, VVal.int .i64 0, VVal.int .i64 0, VVal.int .i64 0, VVal.int .i64 0, VVal.int .i64 0, VVal.int .i64 0, VVal.int .i64 0, VVal.int .i64 0, VVal.int .i64 0, VVal.int .i64 0, VVal.int .i64 0, VVal.int .i64 0, VVal.int .i64 0, VVal.int .i64 0, VVal.int .i64 0, VVal.int .i64 0, VVal.int .i64 0, VVal.int .i64 0, VVal.int .i64 0, VVal.int .i64 0, VVal.int .i64 0, VVal.int .i64 0, VVal.int .i64 0, VVal.int .i64 0, VVal.int .i64 0, VVal.int .i64 0, VVal.int .i64 0, VVal.int .i64 0, VVal.int .i64 0, VVal.int .i64 0, VVal.int .i64 0, VVal.int .i64 0, VVal.int .i64 0, VVal.int .i64 0, VVal.int .i64 0, VVal.int .i64 0, VVal.int .i64 0, VVal.int .i64 0, VVal.int .i64 0, VVal.int .i64 0, VVal.int .i64 0, VVal.int .i64 0, VVal.int .i64 0, VVal.int .i64 0, VVal.int .i64 0, VVal.int .i64 0, VVal.int .i64 0, VVal.int .i64 0, VVal.int .i64 0, VVal.int .i64 0, VVal.int .i64 0, VVal.int .i64 0, VVal.int .i64 0, VVal.int .i64 0, VVal.int .i64 0, VVal.int .i64 0, VVal.int .i64 0, VVal.int .i64 0, VVal.int .i64 0, VVal.int .i64 0], flat := false }
theorem ok172 : TyOk Tryd.prog 172 y172 := .agg' Tryd.underlying172 Tryd.type172 rfl rfl rfl rfl rfl rfl
def y173 : VTy := { desc := Go.TypeDesc.func #[22] #[23, 4] false, size := 1, bytes := 8, zero := [VVal.nilFunc], flat := false }
theorem ok173 : TyOk Tryd.prog 173 y173 := .one' Tryd.underlying173 Tryd.type173 rfl rfl rfl rfl rfl rfl
def y174 : VTy := { desc := Go.TypeDesc.func #[176, 3] #[4] false, size := 1, bytes := 8, zero := [VVal.nilFunc], flat := false }
theorem ok174 : TyOk Tryd.prog 174 y174 := .one' Tryd.underlying174 Tryd.type174 rfl rfl rfl rfl rfl rfl
def y175 : VTy := { desc := Go.TypeDesc.struct #[{ name := "most", type := 3, offset := 0, embedded := false, tag := "", pkgPath := "provost/rule", byteOffset := 0 }, { name := "unlike", type := 3, offset := 1, embedded := false, tag := "", pkgPath := "provost/rule", byteOffset := 8 }, { name := "left", type := 3, offset := 2, embedded := false, tag := "", pkgPath := "provost/rule", byteOffset := 16 }], size := 3, bytes := 24, zero := [VVal.int .i64 0, VVal.int .i64 0, VVal.int .i64 0], flat := true }
theorem ok175 : TyOk Tryd.prog 175 y175 := .str' Tryd.underlying175 Tryd.type175 rfl rfl rfl rfl rfl rfl (by kernel_rfl) (by kernel_rfl) (fun i f h => match i, f, h with | 0, _, h => by simp at h; subst h; exact ⟨by decide, rfl, _, Tryd.underlying3⟩ | 1, _, h => by simp at h; subst h; exact ⟨by decide, rfl, _, Tryd.underlying3⟩ | 2, _, h => by simp at h; subst h; exact ⟨by decide, rfl, _, Tryd.underlying3⟩ | n + 3, _, h => by simp at h) (by kernel_rfl)
def y176 : VTy := { desc := Go.TypeDesc.struct #[{ name := "most", type := 3, offset := 0, embedded := false, tag := "", pkgPath := "provost/rule", byteOffset := 0 }, { name := "unlike", type := 3, offset := 1, embedded := false, tag := "", pkgPath := "provost/rule", byteOffset := 8 }, { name := "left", type := 3, offset := 2, embedded := false, tag := "", pkgPath := "provost/rule", byteOffset := 16 }], size := 3, bytes := 24, zero := [VVal.int .i64 0, VVal.int .i64 0, VVal.int .i64 0], flat := true }
theorem ok176 : TyOk Tryd.prog 176 y176 := .str' Tryd.underlying176 Tryd.type176 rfl rfl rfl rfl rfl rfl (by kernel_rfl) (by kernel_rfl) (fun i f h => match i, f, h with | 0, _, h => by simp at h; subst h; exact ⟨by decide, rfl, _, Tryd.underlying3⟩ | 1, _, h => by simp at h; subst h; exact ⟨by decide, rfl, _, Tryd.underlying3⟩ | 2, _, h => by simp at h; subst h; exact ⟨by decide, rfl, _, Tryd.underlying3⟩ | n + 3, _, h => by simp at h) (by kernel_rfl)
def y177 : VTy := { desc := Go.TypeDesc.array 6 174, size := 6, bytes := 48, zero := [VVal.nilFunc, VVal.nilFunc, VVal.nilFunc, VVal.nilFunc, VVal.nilFunc, VVal.nilFunc], flat := false }
theorem ok177 : TyOk Tryd.prog 177 y177 := .agg' Tryd.underlying177 Tryd.type177 rfl rfl rfl rfl rfl rfl
def y178 : VTy := { desc := Go.TypeDesc.func #[75, 23] #[176] false, size := 1, bytes := 8, zero := [VVal.nilFunc], flat := false }
theorem ok178 : TyOk Tryd.prog 178 y178 := .one' Tryd.underlying178 Tryd.type178 rfl rfl rfl rfl rfl rfl
def y179 : VTy := { desc := Go.TypeDesc.func #[22, 23, 167, 3] #[4] false, size := 1, bytes := 8, zero := [VVal.nilFunc], flat := false }
theorem ok179 : TyOk Tryd.prog 179 y179 := .one' Tryd.underlying179 Tryd.type179 rfl rfl rfl rfl rfl rfl
def y180 : VTy := { desc := Go.TypeDesc.array 64 5, size := 64, bytes := 64, zero := [VVal.int .u8 0, VVal.int .u8 0, VVal.int .u8 0, VVal.int .u8 0, VVal.int .u8 0, VVal.int .u8 0, VVal.int .u8 0, VVal.int .u8 0, VVal.int .u8 0, VVal.int .u8 0, VVal.int .u8 0, VVal.int .u8 0, VVal.int .u8 0, VVal.int .u8 0, VVal.int .u8 0, VVal.int .u8 0, VVal.int .u8 0, VVal.int .u8 0, VVal.int .u8 0, VVal.int .u8 0, VVal.int .u8 0, VVal.int .u8 0, VVal.int .u8 0, VVal.int .u8 0, VVal.int .u8 0, VVal.int .u8 0, VVal.int .u8 0, VVal.int .u8 0, VVal.int .u8 0, VVal.int .u8 0, VVal.int .u8 0, VVal.int .u8 0, VVal.int .u8 0, VVal.int .u8 0, VVal.int .u8 0, VVal.int .u8 0, VVal.int .u8 0, VVal.int .u8 0, VVal.int .u8 0, VVal.int .u8 0, VVal.int .u8 0, VVal.int .u8 0, VVal.int .u8 0, VVal.int .u8 0, VVal.int .u8 0, VVal.int .u8 0, VVal.int .u8 0, VVal.int .u8 0, VVal.int .u8 0, VVal.int .u8 0, VVal.int .u8 0, VVal.int .u8 0, VVal.int .u8 0, VVal.int .u8 0, VVal.int .u8 0, VVal.int .u8 0, VVal.int .u8 0, VVal.int .u8 0, VVal.int .u8 0, VVal.int .u8 0, VVal.int .u8 0, VVal.int .u8 0, VVal.int .u8 0, VVal.int .u8 0], flat := true }
theorem ok180 : TyOk Tryd.prog 180 y180 := .arr' Tryd.underlying180 Tryd.type180 rfl rfl rfl rfl rfl rfl Tryd.underlying5 Tryd.type5 rfl (by kernel_rfl)
def y181 : VTy := { desc := Go.TypeDesc.map 3 3, size := 1, bytes := 8, zero := [VVal.map none], flat := false }
theorem ok181 : TyOk Tryd.prog 181 y181 := .one' Tryd.underlying181 Tryd.type181 rfl rfl rfl rfl rfl rfl
def y182 : VTy := { desc := Go.TypeDesc.func #[] #[9] false, size := 1, bytes := 8, zero := [VVal.nilFunc], flat := false }
theorem ok182 : TyOk Tryd.prog 182 y182 := .one' Tryd.underlying182 Tryd.type182 rfl rfl rfl rfl rfl rfl
def y183 : VTy := { desc := Go.TypeDesc.struct #[{ name := "_interface", type := 17, offset := 0, embedded := false, tag := "", pkgPath := "runtime", byteOffset := 0 }, { name := "concrete", type := 17, offset := 1, embedded := false, tag := "", pkgPath := "runtime", byteOffset := 8 }, { name := "asserted", type := 17, offset := 2, embedded := false, tag := "", pkgPath := "runtime", byteOffset := 16 }, { name := "missingMethod", type := 9, offset := 3, embedded := false, tag := "", pkgPath := "runtime", byteOffset := 24 }], size := 4, bytes := 40, zero := [VVal.ptr none, VVal.ptr none, VVal.ptr none, VVal.str ByteArray.empty], flat := false }
theorem ok183 : TyOk Tryd.prog 183 y183 := .agg' Tryd.underlying183 Tryd.type183 rfl rfl rfl rfl rfl rfl
def y184 : VTy := { desc := Go.TypeDesc.struct #[{ name := "_interface", type := 17, offset := 0, embedded := false, tag := "", pkgPath := "runtime", byteOffset := 0 }, { name := "concrete", type := 17, offset := 1, embedded := false, tag := "", pkgPath := "runtime", byteOffset := 8 }, { name := "asserted", type := 17, offset := 2, embedded := false, tag := "", pkgPath := "runtime", byteOffset := 16 }, { name := "missingMethod", type := 9, offset := 3, embedded := false, tag := "", pkgPath := "runtime", byteOffset := 24 }], size := 4, bytes := 40, zero := [VVal.ptr none, VVal.ptr none, VVal.ptr none, VVal.str ByteArray.empty], flat := false }
theorem ok184 : TyOk Tryd.prog 184 y184 := .agg' Tryd.underlying184 Tryd.type184 rfl rfl rfl rfl rfl rfl
def y185 : VTy := { desc := Go.TypeDesc.array 0 16, size := 0, bytes := 0, zero := [], flat := false }
theorem ok185 : TyOk Tryd.prog 185 y185 := .agg' Tryd.underlying185 Tryd.type185 rfl rfl rfl rfl rfl rfl
def y186 : VTy := { desc := Go.TypeDesc.struct #[{ name := "_", type := 185, offset := 0, embedded := false, tag := "", pkgPath := "runtime", byteOffset := 0 }], size := 0, bytes := 0, zero := [], flat := false }
theorem ok186 : TyOk Tryd.prog 186 y186 := .agg' Tryd.underlying186 Tryd.type186 rfl rfl rfl rfl rfl rfl
def y187 : VTy := { desc := Go.TypeDesc.struct #[{ name := "_", type := 185, offset := 0, embedded := false, tag := "", pkgPath := "runtime", byteOffset := 0 }], size := 0, bytes := 0, zero := [], flat := false }
theorem ok187 : TyOk Tryd.prog 187 y187 := .agg' Tryd.underlying187 Tryd.type187 rfl rfl rfl rfl rfl rfl
def y188 : VTy := { desc := Go.TypeDesc.int Go.IntKind.u32, size := 1, bytes := 4, zero := [VVal.int .u32 0], flat := false }
theorem ok188 : TyOk Tryd.prog 188 y188 := .one' Tryd.underlying188 Tryd.type188 rfl rfl rfl rfl rfl rfl
def y189 : VTy := { desc := Go.TypeDesc.int Go.IntKind.u8, size := 1, bytes := 1, zero := [VVal.int .u8 0], flat := false }
theorem ok189 : TyOk Tryd.prog 189 y189 := .one' Tryd.underlying189 Tryd.type189 rfl rfl rfl rfl rfl rfl
def y190 : VTy := { desc := Go.TypeDesc.int Go.IntKind.u8, size := 1, bytes := 1, zero := [VVal.int .u8 0], flat := false }
theorem ok190 : TyOk Tryd.prog 190 y190 := .one' Tryd.underlying190 Tryd.type190 rfl rfl rfl rfl rfl rfl
def y191 : VTy := { desc := Go.TypeDesc.func #[198, 198] #[4] false, size := 1, bytes := 8, zero := [VVal.nilFunc], flat := false }
theorem ok191 : TyOk Tryd.prog 191 y191 := .one' Tryd.underlying191 Tryd.type191 rfl rfl rfl rfl rfl rfl
def y192 : VTy := { desc := Go.TypeDesc.pointer 5, size := 1, bytes := 8, zero := [VVal.ptr none], flat := false }
theorem ok192 : TyOk Tryd.prog 192 y192 := .one' Tryd.underlying192 Tryd.type192 rfl rfl rfl rfl rfl rfl
def y193 : VTy := { desc := Go.TypeDesc.int Go.IntKind.i32, size := 1, bytes := 4, zero := [VVal.int .i32 0], flat := false }
theorem ok193 : TyOk Tryd.prog 193 y193 := .one' Tryd.underlying193 Tryd.type193 rfl rfl rfl rfl rfl rfl
def y194 : VTy := { desc := Go.TypeDesc.int Go.IntKind.i32, size := 1, bytes := 4, zero := [VVal.int .i32 0], flat := false }
theorem ok194 : TyOk Tryd.prog 194 y194 := .one' Tryd.underlying194 Tryd.type194 rfl rfl rfl rfl rfl rfl
def y195 : VTy := { desc := Go.TypeDesc.struct #[{ name := "Size_", type := 12, offset := 0, embedded := false, tag := "", pkgPath := "", byteOffset := 0 }, { name := "PtrBytes", type := 12, offset := 1, embedded := false, tag := "", pkgPath := "", byteOffset := 8 }, { name := "Hash", type := 188, offset := 2, embedded := false, tag := "", pkgPath := "", byteOffset := 16 }, { name := "TFlag", type := 189, offset := 3, embedded := false, tag := "", pkgPath := "", byteOffset := 20 }, { name := "Align_", type := 5, offset := 4, embedded := false, tag := "", pkgPath := "", byteOffset := 21 }, { name := "FieldAlign_", type := 5, offset := 5, embedded := false, tag := "", pkgPath := "", byteOffset := 22 }, { name := "Kind_", type := 190, offset := 6, embedded := false, tag := "", pkgPath := "", byteOffset := 23 }, { name := "Equal", type := 191, offset := 7, embedded := false, tag := "", pkgPath := "", byteOffset := 24 }, { name := "GCData", type := 192, offset := 8, embedded := false, tag := "", pkgPath := "", byteOffset := 32 }, { name := "Str", type := 193, offset := 9, embedded := false, tag := "", pkgPath := "", byteOffset := 40 }, { name := "PtrToThis", type := 194, offset := 10, embedded := false, tag := "", pkgPath := "", byteOffset := 44 }], size := 11, bytes := 48, zero := [VVal.int .u64 0, VVal.int .u64 0, VVal.int .u32 0, VVal.int .u8 0, VVal.int .u8 0, VVal.int .u8 0, VVal.int .u8 0, VVal.nilFunc, VVal.ptr none, VVal.int .i32 0, VVal.int .i32 0], flat := false }
theorem ok195 : TyOk Tryd.prog 195 y195 := .agg' Tryd.underlying195 Tryd.type195 rfl rfl rfl rfl rfl rfl
def y196 : VTy := { desc := Go.TypeDesc.struct #[{ name := "Size_", type := 12, offset := 0, embedded := false, tag := "", pkgPath := "", byteOffset := 0 }, { name := "PtrBytes", type := 12, offset := 1, embedded := false, tag := "", pkgPath := "", byteOffset := 8 }, { name := "Hash", type := 188, offset := 2, embedded := false, tag := "", pkgPath := "", byteOffset := 16 }, { name := "TFlag", type := 189, offset := 3, embedded := false, tag := "", pkgPath := "", byteOffset := 20 }, { name := "Align_", type := 5, offset := 4, embedded := false, tag := "", pkgPath := "", byteOffset := 21 }, { name := "FieldAlign_", type := 5, offset := 5, embedded := false, tag := "", pkgPath := "", byteOffset := 22 }, { name := "Kind_", type := 190, offset := 6, embedded := false, tag := "", pkgPath := "", byteOffset := 23 }, { name := "Equal", type := 191, offset := 7, embedded := false, tag := "", pkgPath := "", byteOffset := 24 }, { name := "GCData", type := 192, offset := 8, embedded := false, tag := "", pkgPath := "", byteOffset := 32 }, { name := "Str", type := 193, offset := 9, embedded := false, tag := "", pkgPath := "", byteOffset := 40 }, { name := "PtrToThis", type := 194, offset := 10, embedded := false, tag := "", pkgPath := "", byteOffset := 44 }], size := 11, bytes := 48, zero := [VVal.int .u64 0, VVal.int .u64 0, VVal.int .u32 0, VVal.int .u8 0, VVal.int .u8 0, VVal.int .u8 0, VVal.int .u8 0, VVal.nilFunc, VVal.ptr none, VVal.int .i32 0, VVal.int .i32 0], flat := false }
theorem ok196 : TyOk Tryd.prog 196 y196 := .agg' Tryd.underlying196 Tryd.type196 rfl rfl rfl rfl rfl rfl
def y197 : VTy := { desc := Go.TypeDesc.func #[] #[91] false, size := 1, bytes := 8, zero := [VVal.nilFunc], flat := false }
theorem ok197 : TyOk Tryd.prog 197 y197 := .one' Tryd.underlying197 Tryd.type197 rfl rfl rfl rfl rfl rfl
def y198 : VTy := { desc := Go.TypeDesc.unsafePointer, size := 1, bytes := 8, zero := [VVal.ptr none], flat := false }
theorem ok198 : TyOk Tryd.prog 198 y198 := .one' Tryd.underlying198 Tryd.type198 rfl rfl rfl rfl rfl rfl
def tys : TypeId → Option VTy := fun t => match t with
  | 1 => some y1
  | 2 => some y2
  | 3 => some y3
  | 4 => some y4
  | 5 => some y5
  | 6 => some y6
  | 7 => some y7
  | 8 => some y8
  | 9 => some y9
  | 10 => some y10
  | 11 => some y11
  | 12 => some y12
  | 13 => some y13
  | 14 => some y14
  | 15 => some y15
  | 16 => some y16
  | 17 => some y17
  | 18 => some y18
  | 19 => some y19
  | 20 => some y20
  | 21 => some y21
  | 22 => some y22
  | 23 => some y23
  | 24 => some y24
  | 25 => some y25
  | 26 => some y26
  | 27 => some y27
  | 28 => some y28
  | 29 => some y29
  | 30 => some y30
  | 31 => some y31
  | 32 => some y32
  | 33 => some y33
  | 34 => some y34
  | 35 => some y35
  | 37 => some y37
  | 38 => some y38
  | 39 => some y39
  | 41 => some y41
  | 42 => some y42
  | 44 => some y44
  | 45 => some y45
  | 46 => some y46
  | 47 => some y47
  | 48 => some y48
  | 49 => some y49
  | 50 => some y50
  | 51 => some y51
  | 53 => some y53
  | 54 => some y54
  | 56 => some y56
  | 57 => some y57
  | 59 => some y59
  | 61 => some y61
  | 62 => some y62
  | 63 => some y63
  | 64 => some y64
  | 65 => some y65
  | 66 => some y66
  | 67 => some y67
  | 68 => some y68
  | 69 => some y69
  | 70 => some y70
  | 71 => some y71
  | 72 => some y72
  | 73 => some y73
  | 74 => some y74
  | 75 => some y75
  | 76 => some y76
  | 77 => some y77
  | 78 => some y78
  | 79 => some y79
  | 80 => some y80
  | 81 => some y81
  | 82 => some y82
  | 83 => some y83
  | 84 => some y84
  | 85 => some y85
  | 86 => some y86
  | 87 => some y87
  | 88 => some y88
  | 89 => some y89
  | 90 => some y90
  | 91 => some y91
  | 92 => some y92
  | 93 => some y93
  | 94 => some y94
  | 95 => some y95
  | 96 => some y96
  | 97 => some y97
  | 98 => some y98
  | 99 => some y99
  | 100 => some y100
  | 101 => some y101
  | 102 => some y102
  | 103 => some y103
  | 104 => some y104
  | 105 => some y105
  | 106 => some y106
  | 107 => some y107
  | 108 => some y108
  | 109 => some y109
  | 110 => some y110
  | 111 => some y111
  | 112 => some y112
  | 113 => some y113
  | 114 => some y114
  | 115 => some y115
  | 116 => some y116
  | 117 => some y117
  | 118 => some y118
  | 119 => some y119
  | 121 => some y121
  | 122 => some y122
  | 123 => some y123
  | 124 => some y124
  | 125 => some y125
  | 126 => some y126
  | 127 => some y127
  | 128 => some y128
  | 129 => some y129
  | 130 => some y130
  | 131 => some y131
  | 132 => some y132
  | 133 => some y133
  | 134 => some y134
  | 135 => some y135
  | 136 => some y136
  | 137 => some y137
  | 138 => some y138
  | 139 => some y139
  | 140 => some y140
  | 141 => some y141
  | 142 => some y142
  | 143 => some y143
  | 144 => some y144
  | 145 => some y145
  | 146 => some y146
  | 147 => some y147
  | 148 => some y148
  | 149 => some y149
  | 150 => some y150
  | 151 => some y151
  | 153 => some y153
  | 154 => some y154
  | 155 => some y155
  | 156 => some y156
  | 157 => some y157
  | 158 => some y158
  | 159 => some y159
  | 160 => some y160
  | 161 => some y161
  | 162 => some y162
  | 163 => some y163
  | 164 => some y164
  | 165 => some y165
  | 166 => some y166
  | 167 => some y167
  | 168 => some y168
  | 169 => some y169
  | 170 => some y170
  | 171 => some y171
  | 172 => some y172
  | 173 => some y173
  | 174 => some y174
  | 175 => some y175
  | 176 => some y176
  | 177 => some y177
  | 178 => some y178
  | 179 => some y179
  | 180 => some y180
  | 181 => some y181
  | 182 => some y182
  | 183 => some y183
  | 184 => some y184
  | 185 => some y185
  | 186 => some y186
  | 187 => some y187
  | 188 => some y188
  | 189 => some y189
  | 190 => some y190
  | 191 => some y191
  | 192 => some y192
  | 193 => some y193
  | 194 => some y194
  | 195 => some y195
  | 196 => some y196
  | 197 => some y197
  | 198 => some y198
  | _ => none
theorem tysOk : TOk Tryd.prog tys := by
  intro t y h
  unfold tys at h
  split at h
  · cases h; exact ok1
  · cases h; exact ok2
  · cases h; exact ok3
  · cases h; exact ok4
  · cases h; exact ok5
  · cases h; exact ok6
  · cases h; exact ok7
  · cases h; exact ok8
  · cases h; exact ok9
  · cases h; exact ok10
  · cases h; exact ok11
  · cases h; exact ok12
  · cases h; exact ok13
  · cases h; exact ok14
  · cases h; exact ok15
  · cases h; exact ok16
  · cases h; exact ok17
  · cases h; exact ok18
  · cases h; exact ok19
  · cases h; exact ok20
  · cases h; exact ok21
  · cases h; exact ok22
  · cases h; exact ok23
  · cases h; exact ok24
  · cases h; exact ok25
  · cases h; exact ok26
  · cases h; exact ok27
  · cases h; exact ok28
  · cases h; exact ok29
  · cases h; exact ok30
  · cases h; exact ok31
  · cases h; exact ok32
  · cases h; exact ok33
  · cases h; exact ok34
  · cases h; exact ok35
  · cases h; exact ok37
  · cases h; exact ok38
  · cases h; exact ok39
  · cases h; exact ok41
  · cases h; exact ok42
  · cases h; exact ok44
  · cases h; exact ok45
  · cases h; exact ok46
  · cases h; exact ok47
  · cases h; exact ok48
  · cases h; exact ok49
  · cases h; exact ok50
  · cases h; exact ok51
  · cases h; exact ok53
  · cases h; exact ok54
  · cases h; exact ok56
  · cases h; exact ok57
  · cases h; exact ok59
  · cases h; exact ok61
  · cases h; exact ok62
  · cases h; exact ok63
  · cases h; exact ok64
  · cases h; exact ok65
  · cases h; exact ok66
  · cases h; exact ok67
  · cases h; exact ok68
  · cases h; exact ok69
  · cases h; exact ok70
  · cases h; exact ok71
  · cases h; exact ok72
  · cases h; exact ok73
  · cases h; exact ok74
  · cases h; exact ok75
  · cases h; exact ok76
  · cases h; exact ok77
  · cases h; exact ok78
  · cases h; exact ok79
  · cases h; exact ok80
  · cases h; exact ok81
  · cases h; exact ok82
  · cases h; exact ok83
  · cases h; exact ok84
  · cases h; exact ok85
  · cases h; exact ok86
  · cases h; exact ok87
  · cases h; exact ok88
  · cases h; exact ok89
  · cases h; exact ok90
  · cases h; exact ok91
  · cases h; exact ok92
  · cases h; exact ok93
  · cases h; exact ok94
  · cases h; exact ok95
  · cases h; exact ok96
  · cases h; exact ok97
  · cases h; exact ok98
  · cases h; exact ok99
  · cases h; exact ok100
  · cases h; exact ok101
  · cases h; exact ok102
  · cases h; exact ok103
  · cases h; exact ok104
  · cases h; exact ok105
  · cases h; exact ok106
  · cases h; exact ok107
  · cases h; exact ok108
  · cases h; exact ok109
  · cases h; exact ok110
  · cases h; exact ok111
  · cases h; exact ok112
  · cases h; exact ok113
  · cases h; exact ok114
  · cases h; exact ok115
  · cases h; exact ok116
  · cases h; exact ok117
  · cases h; exact ok118
  · cases h; exact ok119
  · cases h; exact ok121
  · cases h; exact ok122
  · cases h; exact ok123
  · cases h; exact ok124
  · cases h; exact ok125
  · cases h; exact ok126
  · cases h; exact ok127
  · cases h; exact ok128
  · cases h; exact ok129
  · cases h; exact ok130
  · cases h; exact ok131
  · cases h; exact ok132
  · cases h; exact ok133
  · cases h; exact ok134
  · cases h; exact ok135
  · cases h; exact ok136
  · cases h; exact ok137
  · cases h; exact ok138
  · cases h; exact ok139
  · cases h; exact ok140
  · cases h; exact ok141
  · cases h; exact ok142
  · cases h; exact ok143
  · cases h; exact ok144
  · cases h; exact ok145
  · cases h; exact ok146
  · cases h; exact ok147
  · cases h; exact ok148
  · cases h; exact ok149
  · cases h; exact ok150
  · cases h; exact ok151
  · cases h; exact ok153
  · cases h; exact ok154
  · cases h; exact ok155
  · cases h; exact ok156
  · cases h; exact ok157
  · cases h; exact ok158
  · cases h; exact ok159
  · cases h; exact ok160
  · cases h; exact ok161
  · cases h; exact ok162
  · cases h; exact ok163
  · cases h; exact ok164
  · cases h; exact ok165
  · cases h; exact ok166
  · cases h; exact ok167
  · cases h; exact ok168
  · cases h; exact ok169
  · cases h; exact ok170
  · cases h; exact ok171
  · cases h; exact ok172
  · cases h; exact ok173
  · cases h; exact ok174
  · cases h; exact ok175
  · cases h; exact ok176
  · cases h; exact ok177
  · cases h; exact ok178
  · cases h; exact ok179
  · cases h; exact ok180
  · cases h; exact ok181
  · cases h; exact ok182
  · cases h; exact ok183
  · cases h; exact ok184
  · cases h; exact ok185
  · cases h; exact ok186
  · cases h; exact ok187
  · cases h; exact ok188
  · cases h; exact ok189
  · cases h; exact ok190
  · cases h; exact ok191
  · cases h; exact ok192
  · cases h; exact ok193
  · cases h; exact ok194
  · cases h; exact ok195
  · cases h; exact ok196
  · cases h; exact ok197
  · cases h; exact ok198
  · cases h
end Go.Proofs.YtgbahioegcpjiaaDoor.VT
