/- The table of types that the walks use, by a small program of this session's. -/
import Derived.Test.YtfemkbockhpmcaaProg
import Derived.Test.YtfemkbockhpmcaaSym
set_option maxRecDepth 100000
namespace Go.Proofs.Ytfemkbockhpmcaa.Sym
open Go Go.Proofs
def tb : Tbl := [
  (1, ⟨.nilFunc, 1, 8, TypeDesc.func #[] #[] false⟩),
  (2, ⟨.int .i64 0, 1, 8, TypeDesc.int IntKind.i64⟩),
  (3, ⟨.int .i64 0, 1, 8, TypeDesc.int IntKind.i64⟩),
  (4, ⟨.bool false, 1, 1, TypeDesc.bool⟩),
  (5, ⟨.int .u8 0, 1, 1, TypeDesc.int IntKind.u8⟩),
  (6, ⟨.int .u8 0, 1, 1, TypeDesc.int IntKind.u8⟩),
  (7, ⟨.agg #[.int .i64 0, .int .i64 0, .bool false, .int .u8 0], 4, 24, TypeDesc.struct #[{ name := "x", type := 2, offset := 0, embedded := false, tag := "", pkgPath := "runtime", byteOffset := 0 }, { name := "y", type := 3, offset := 1, embedded := false, tag := "", pkgPath := "runtime", byteOffset := 8 }, { name := "signed", type := 4, offset := 2, embedded := false, tag := "", pkgPath := "runtime", byteOffset := 16 }, { name := "code", type := 6, offset := 3, embedded := false, tag := "", pkgPath := "runtime", byteOffset := 17 }]⟩),
  (8, ⟨.agg #[.int .i64 0, .int .i64 0, .bool false, .int .u8 0], 4, 24, TypeDesc.struct #[{ name := "x", type := 2, offset := 0, embedded := false, tag := "", pkgPath := "runtime", byteOffset := 0 }, { name := "y", type := 3, offset := 1, embedded := false, tag := "", pkgPath := "runtime", byteOffset := 8 }, { name := "signed", type := 4, offset := 2, embedded := false, tag := "", pkgPath := "runtime", byteOffset := 16 }, { name := "code", type := 6, offset := 3, embedded := false, tag := "", pkgPath := "runtime", byteOffset := 17 }]⟩),
  (9, ⟨.string ⟨#[]⟩, 1, 16, TypeDesc.string⟩),
  (10, ⟨.string ⟨#[]⟩, 1, 16, TypeDesc.string⟩),
  (11, ⟨.string ⟨#[]⟩, 1, 16, TypeDesc.string⟩),
  (12, ⟨.int .u64 0, 1, 8, TypeDesc.int IntKind.u64⟩),
  (13, ⟨.agg #[.string ⟨#[]⟩, .int .u64 0], 2, 24, TypeDesc.struct #[{ name := "msg", type := 9, offset := 0, embedded := false, tag := "", pkgPath := "runtime", byteOffset := 0 }, { name := "addr", type := 12, offset := 1, embedded := false, tag := "", pkgPath := "runtime", byteOffset := 16 }]⟩),
  (14, ⟨.agg #[.string ⟨#[]⟩, .int .u64 0], 2, 24, TypeDesc.struct #[{ name := "msg", type := 9, offset := 0, embedded := false, tag := "", pkgPath := "runtime", byteOffset := 0 }, { name := "addr", type := 12, offset := 1, embedded := false, tag := "", pkgPath := "runtime", byteOffset := 16 }]⟩),
  (15, ⟨.pointer none, 1, 8, TypeDesc.pointer 132⟩),
  (16, ⟨.pointer none, 1, 8, TypeDesc.pointer 135⟩),
  (17, ⟨.pointer none, 1, 8, TypeDesc.pointer 144⟩),
  (18, ⟨.agg #[.pointer none], 1, 8, TypeDesc.struct #[{ name := "typ", type := 17, offset := 0, embedded := false, tag := "", pkgPath := "internal/runtime/maps", byteOffset := 0 }]⟩),
  (19, ⟨.agg #[.pointer none], 1, 8, TypeDesc.struct #[{ name := "typ", type := 17, offset := 0, embedded := false, tag := "", pkgPath := "internal/runtime/maps", byteOffset := 0 }]⟩),
  (20, ⟨.nilIface, 1, 16, TypeDesc.interface #[]⟩),
  (21, ⟨.int .i32 0, 1, 4, TypeDesc.int IntKind.i32⟩),
  (22, ⟨.slice none 0 0, 1, 24, TypeDesc.slice 34⟩),
  (23, ⟨.agg #[.slice none 0 0], 1, 24, TypeDesc.struct #[{ name := "Rules", type := 22, offset := 0, embedded := false, tag := "", pkgPath := "", byteOffset := 0 }]⟩),
  (24, ⟨.agg #[.slice none 0 0], 1, 24, TypeDesc.struct #[{ name := "Rules", type := 22, offset := 0, embedded := false, tag := "", pkgPath := "", byteOffset := 0 }]⟩),
  (25, ⟨.slice none 0 0, 1, 24, TypeDesc.slice 9⟩),
  (26, ⟨.nilFunc, 1, 8, TypeDesc.func #[] #[4] false⟩),
  (27, ⟨.nilFunc, 1, 8, TypeDesc.func #[24, 25] #[4] false⟩),
  (28, ⟨.slice none 0 0, 1, 24, TypeDesc.slice 31⟩),
  (29, ⟨.nilFunc, 1, 8, TypeDesc.func #[24, 25] #[28] false⟩),
  (30, ⟨.agg #[.int .i64 0, .string ⟨#[]⟩], 2, 24, TypeDesc.struct #[{ name := "Kind", type := 3, offset := 0, embedded := false, tag := "", pkgPath := "", byteOffset := 0 }, { name := "Name", type := 9, offset := 1, embedded := false, tag := "", pkgPath := "", byteOffset := 8 }]⟩),
  (31, ⟨.agg #[.int .i64 0, .string ⟨#[]⟩], 2, 24, TypeDesc.struct #[{ name := "Kind", type := 3, offset := 0, embedded := false, tag := "", pkgPath := "", byteOffset := 0 }, { name := "Name", type := 9, offset := 1, embedded := false, tag := "", pkgPath := "", byteOffset := 8 }]⟩),
  (32, ⟨.slice none 0 0, 1, 24, TypeDesc.slice 25⟩),
  (33, ⟨.agg #[.string ⟨#[]⟩, .slice none 0 0], 2, 40, TypeDesc.struct #[{ name := "Name", type := 9, offset := 0, embedded := false, tag := "", pkgPath := "", byteOffset := 0 }, { name := "Alts", type := 32, offset := 1, embedded := false, tag := "", pkgPath := "", byteOffset := 16 }]⟩),
  (34, ⟨.agg #[.string ⟨#[]⟩, .slice none 0 0], 2, 40, TypeDesc.struct #[{ name := "Name", type := 9, offset := 0, embedded := false, tag := "", pkgPath := "", byteOffset := 0 }, { name := "Alts", type := 32, offset := 1, embedded := false, tag := "", pkgPath := "", byteOffset := 16 }]⟩),
  (35, ⟨.nilFunc, 1, 8, TypeDesc.func #[9, 32] #[34] true⟩),
  (36, ⟨.nilFunc, 1, 8, TypeDesc.func #[24] #[25] false⟩),
  (37, ⟨.nilFunc, 1, 8, TypeDesc.func #[28, 28] #[4] false⟩),
  (38, ⟨.nilFunc, 1, 8, TypeDesc.func #[24, 25, 9] #[4] false⟩),
  (39, ⟨.slice none 0 0, 1, 24, TypeDesc.slice 46⟩),
  (40, ⟨.agg #[.slice none 0 0, .slice none 0 0, .slice none 0 0], 3, 72, TypeDesc.struct #[{ name := "Tokens", type := 25, offset := 0, embedded := false, tag := "", pkgPath := "", byteOffset := 0 }, { name := "Names", type := 25, offset := 1, embedded := false, tag := "", pkgPath := "", byteOffset := 24 }, { name := "Alts", type := 39, offset := 2, embedded := false, tag := "", pkgPath := "", byteOffset := 48 }]⟩),
  (41, ⟨.agg #[.slice none 0 0, .slice none 0 0, .slice none 0 0], 3, 72, TypeDesc.struct #[{ name := "Tokens", type := 25, offset := 0, embedded := false, tag := "", pkgPath := "", byteOffset := 0 }, { name := "Names", type := 25, offset := 1, embedded := false, tag := "", pkgPath := "", byteOffset := 24 }, { name := "Alts", type := 39, offset := 2, embedded := false, tag := "", pkgPath := "", byteOffset := 48 }]⟩),
  (42, ⟨.int .i64 0, 1, 8, TypeDesc.int IntKind.i64⟩),
  (44, ⟨.nilFunc, 1, 8, TypeDesc.func #[24, 25] #[41, 42] false⟩),
  (45, ⟨.map none, 1, 8, TypeDesc.map 9 4⟩),
  (46, ⟨.slice none 0 0, 1, 24, TypeDesc.slice 47⟩),
  (47, ⟨.slice none 0 0, 1, 24, TypeDesc.slice 3⟩),
  (48, ⟨.nilFunc, 1, 8, TypeDesc.func #[24] #[4] false⟩),
  (50, ⟨.nilFunc, 1, 8, TypeDesc.func #[24] #[9, 42] false⟩),
  (51, ⟨.nilFunc, 1, 8, TypeDesc.func #[24] #[42] false⟩),
  (52, ⟨.nilFunc, 1, 8, TypeDesc.func #[24, 24] #[4] false⟩),
  (54, ⟨.nilFunc, 1, 8, TypeDesc.func #[9] #[24, 3, 42] false⟩),
  (55, ⟨.nilFunc, 1, 8, TypeDesc.func #[9] #[4] false⟩),
  (57, ⟨.nilFunc, 1, 8, TypeDesc.func #[9, 3] #[4] false⟩),
  (58, ⟨.nilFunc, 1, 8, TypeDesc.func #[41, 41] #[4] false⟩),
  (59, ⟨.nilFunc, 1, 8, TypeDesc.func #[41, 3] #[4] false⟩),
  (61, ⟨.nilFunc, 1, 8, TypeDesc.func #[41] #[24, 42] false⟩),
  (62, ⟨.nilFunc, 1, 8, TypeDesc.func #[41] #[42] false⟩),
  (63, ⟨.nilFunc, 1, 8, TypeDesc.func #[41] #[4] false⟩),
  (64, ⟨.pointer none, 1, 8, TypeDesc.pointer 71⟩),
  (65, ⟨.nilFunc, 1, 8, TypeDesc.func #[24, 25] #[64] false⟩),
  (66, ⟨.map none, 1, 8, TypeDesc.map 31 4⟩),
  (67, ⟨.nilFunc, 1, 8, TypeDesc.func #[4, 3, 9] #[] false⟩),
  (68, ⟨.map none, 1, 8, TypeDesc.map 9 3⟩),
  (69, ⟨.map none, 1, 8, TypeDesc.map 9 47⟩),
  (70, ⟨.agg #[.slice none 0 0, .map none, .map none], 3, 40, TypeDesc.struct #[{ name := "g", type := 24, offset := 0, embedded := false, tag := "", pkgPath := "quincunx/check", byteOffset := 0 }, { name := "tokens", type := 68, offset := 1, embedded := false, tag := "", pkgPath := "quincunx/check", byteOffset := 24 }, { name := "rules", type := 69, offset := 2, embedded := false, tag := "", pkgPath := "quincunx/check", byteOffset := 32 }]⟩),
  (71, ⟨.agg #[.slice none 0 0, .map none, .map none], 3, 40, TypeDesc.struct #[{ name := "g", type := 24, offset := 0, embedded := false, tag := "", pkgPath := "quincunx/check", byteOffset := 0 }, { name := "tokens", type := 68, offset := 1, embedded := false, tag := "", pkgPath := "quincunx/check", byteOffset := 24 }, { name := "rules", type := 69, offset := 2, embedded := false, tag := "", pkgPath := "quincunx/check", byteOffset := 32 }]⟩),
  (72, ⟨.nilFunc, 1, 8, TypeDesc.func #[32] #[25] true⟩),
  (73, ⟨.nilFunc, 1, 8, TypeDesc.func #[] #[45] false⟩),
  (74, ⟨.nilFunc, 1, 8, TypeDesc.func #[25, 9] #[3] false⟩),
  (75, ⟨.nilFunc, 1, 8, TypeDesc.func #[25] #[25] false⟩),
  (77, ⟨.pointer none, 1, 8, TypeDesc.pointer 80⟩),
  (78, ⟨.slice none 0 0, 1, 24, TypeDesc.slice 5⟩),
  (79, ⟨.agg #[.pointer none, .slice none 0 0], 2, 32, TypeDesc.struct #[{ name := "addr", type := 77, offset := 0, embedded := false, tag := "", pkgPath := "strings", byteOffset := 0 }, { name := "buf", type := 78, offset := 1, embedded := false, tag := "", pkgPath := "strings", byteOffset := 8 }]⟩),
  (80, ⟨.agg #[.pointer none, .slice none 0 0], 2, 32, TypeDesc.struct #[{ name := "addr", type := 77, offset := 0, embedded := false, tag := "", pkgPath := "strings", byteOffset := 0 }, { name := "buf", type := 78, offset := 1, embedded := false, tag := "", pkgPath := "strings", byteOffset := 8 }]⟩),
  (81, ⟨.nilIface, 1, 16, TypeDesc.interface #[("Error", 85)]⟩),
  (82, ⟨.nilIface, 1, 16, TypeDesc.interface #[("Error", 85)]⟩),
  (84, ⟨.nilFunc, 1, 8, TypeDesc.func #[9] #[3, 82] false⟩),
  (85, ⟨.nilFunc, 1, 8, TypeDesc.func #[] #[9] false⟩),
  (86, ⟨.nilFunc, 1, 8, TypeDesc.func #[55] #[] false⟩),
  (87, ⟨.nilFunc, 1, 8, TypeDesc.func #[55] #[] false⟩),
  (88, ⟨.nilFunc, 1, 8, TypeDesc.func #[24] #[87] false⟩),
  (89, ⟨.nilFunc, 1, 8, TypeDesc.func #[22, 90] #[4] false⟩),
  (90, ⟨.nilFunc, 1, 8, TypeDesc.func #[34] #[4] false⟩),
  (91, ⟨.nilFunc, 1, 8, TypeDesc.func #[22, 22, 94] #[4] false⟩),
  (92, ⟨.nilFunc, 1, 8, TypeDesc.func #[32, 32, 93] #[4] false⟩),
  (93, ⟨.nilFunc, 1, 8, TypeDesc.func #[25, 25] #[4] false⟩),
  (94, ⟨.nilFunc, 1, 8, TypeDesc.func #[34, 34] #[4] false⟩),
  (95, ⟨.pointer none, 1, 8, TypeDesc.pointer 97⟩),
  (96, ⟨.agg #[.slice none 0 0, .int .i64 0], 2, 32, TypeDesc.struct #[{ name := "g", type := 24, offset := 0, embedded := false, tag := "", pkgPath := "quincunx/grammar", byteOffset := 0 }, { name := "where", type := 3, offset := 1, embedded := false, tag := "", pkgPath := "quincunx/grammar", byteOffset := 24 }]⟩),
  (97, ⟨.agg #[.slice none 0 0, .int .i64 0], 2, 32, TypeDesc.struct #[{ name := "g", type := 24, offset := 0, embedded := false, tag := "", pkgPath := "quincunx/grammar", byteOffset := 0 }, { name := "where", type := 3, offset := 1, embedded := false, tag := "", pkgPath := "quincunx/grammar", byteOffset := 24 }]⟩),
  (98, ⟨.nilFunc, 1, 8, TypeDesc.func #[119] #[] false⟩),
  (99, ⟨.nilFunc, 1, 8, TypeDesc.func #[119] #[] false⟩),
  (100, ⟨.nilFunc, 1, 8, TypeDesc.func #[9] #[99] false⟩),
  (101, ⟨.pointer none, 1, 8, TypeDesc.pointer 103⟩),
  (102, ⟨.agg #[.string ⟨#[]⟩, .int .i64 0, .bool false], 3, 32, TypeDesc.struct #[{ name := "s", type := 9, offset := 0, embedded := false, tag := "", pkgPath := "quincunx/quincunxref07", byteOffset := 0 }, { name := "at", type := 3, offset := 1, embedded := false, tag := "", pkgPath := "quincunx/quincunxref07", byteOffset := 16 }, { name := "bad", type := 4, offset := 2, embedded := false, tag := "", pkgPath := "quincunx/quincunxref07", byteOffset := 24 }]⟩),
  (103, ⟨.agg #[.string ⟨#[]⟩, .int .i64 0, .bool false], 3, 32, TypeDesc.struct #[{ name := "s", type := 9, offset := 0, embedded := false, tag := "", pkgPath := "quincunx/quincunxref07", byteOffset := 0 }, { name := "at", type := 3, offset := 1, embedded := false, tag := "", pkgPath := "quincunx/quincunxref07", byteOffset := 16 }, { name := "bad", type := 4, offset := 2, embedded := false, tag := "", pkgPath := "quincunx/quincunxref07", byteOffset := 24 }]⟩),
  (104, ⟨.nilFunc, 1, 8, TypeDesc.func #[] #[34] false⟩),
  (105, ⟨.nilFunc, 1, 8, TypeDesc.func #[25, 9] #[4] false⟩),
  (106, ⟨.nilFunc, 1, 8, TypeDesc.func #[28, 3, 9] #[28] false⟩),
  (107, ⟨.nilFunc, 1, 8, TypeDesc.func #[24, 25] #[25] false⟩),
  (108, ⟨.nilFunc, 1, 8, TypeDesc.func #[47, 47] #[4] false⟩),
  (109, ⟨.nilFunc, 1, 8, TypeDesc.func #[39, 39, 111] #[4] false⟩),
  (110, ⟨.nilFunc, 1, 8, TypeDesc.func #[46, 46, 108] #[4] false⟩),
  (111, ⟨.nilFunc, 1, 8, TypeDesc.func #[46, 46] #[4] false⟩),
  (112, ⟨.nilFunc, 1, 8, TypeDesc.func #[25, 3] #[25] false⟩),
  (113, ⟨.nilFunc, 1, 8, TypeDesc.func #[25, 55] #[4] false⟩),
  (114, ⟨.nilFunc, 1, 8, TypeDesc.func #[5] #[4] false⟩),
  (115, ⟨.pointer none, 1, 8, TypeDesc.pointer 5⟩),
  (116, ⟨.nilFunc, 1, 8, TypeDesc.func #[22, 90] #[3] false⟩),
  (117, ⟨.nilFunc, 1, 8, TypeDesc.func #[32, 118] #[4] false⟩),
  (118, ⟨.nilFunc, 1, 8, TypeDesc.func #[25] #[4] false⟩),
  (119, ⟨.nilFunc, 1, 8, TypeDesc.func #[3, 9] #[4] false⟩),
  (120, ⟨.nilFunc, 1, 8, TypeDesc.func #[9, 5] #[3] false⟩),
  (121, ⟨.pointer none, 1, 8, TypeDesc.pointer 34⟩),
  (122, ⟨.nilFunc, 1, 8, TypeDesc.func #[9, 3] #[3] false⟩),
  (123, ⟨.nilFunc, 1, 8, TypeDesc.func #[9, 3] #[9] false⟩),
  (125, ⟨.nilFunc, 1, 8, TypeDesc.func #[] #[9, 4] false⟩),
  (126, ⟨.nilFunc, 1, 8, TypeDesc.func #[9] #[] false⟩),
  (127, ⟨.nilFunc, 1, 8, TypeDesc.func #[25, 55] #[3] false⟩),
  (128, ⟨.pointer none, 1, 8, TypeDesc.unsafePointer⟩),
  (129, ⟨.nilFunc, 1, 8, TypeDesc.func #[128] #[128] false⟩),
  (130, ⟨.nilFunc, 1, 8, TypeDesc.func #[32, 118] #[3] false⟩),
  (131, ⟨.agg #[.pointer none, .pointer none, .pointer none, .string ⟨#[]⟩], 4, 40, TypeDesc.struct #[{ name := "_interface", type := 17, offset := 0, embedded := false, tag := "", pkgPath := "runtime", byteOffset := 0 }, { name := "concrete", type := 17, offset := 1, embedded := false, tag := "", pkgPath := "runtime", byteOffset := 8 }, { name := "asserted", type := 17, offset := 2, embedded := false, tag := "", pkgPath := "runtime", byteOffset := 16 }, { name := "missingMethod", type := 9, offset := 3, embedded := false, tag := "", pkgPath := "runtime", byteOffset := 24 }]⟩),
  (132, ⟨.agg #[.pointer none, .pointer none, .pointer none, .string ⟨#[]⟩], 4, 40, TypeDesc.struct #[{ name := "_interface", type := 17, offset := 0, embedded := false, tag := "", pkgPath := "runtime", byteOffset := 0 }, { name := "concrete", type := 17, offset := 1, embedded := false, tag := "", pkgPath := "runtime", byteOffset := 8 }, { name := "asserted", type := 17, offset := 2, embedded := false, tag := "", pkgPath := "runtime", byteOffset := 16 }, { name := "missingMethod", type := 9, offset := 3, embedded := false, tag := "", pkgPath := "runtime", byteOffset := 24 }]⟩),
  (136, ⟨.nilFunc, 1, 8, TypeDesc.func #[] #[3] false⟩),
  (137, ⟨.int .u32 0, 1, 4, TypeDesc.int IntKind.u32⟩),
  (138, ⟨.int .u8 0, 1, 1, TypeDesc.int IntKind.u8⟩),
  (139, ⟨.int .u8 0, 1, 1, TypeDesc.int IntKind.u8⟩)]
theorem htb : TblOK Try.prog tb :=
  TblOK.cons (by kernel_rfl) (by kernel_rfl) (
  TblOK.cons (by kernel_rfl) (by kernel_rfl) (
  TblOK.cons (by kernel_rfl) (by kernel_rfl) (
  TblOK.cons (by kernel_rfl) (by kernel_rfl) (
  TblOK.cons (by kernel_rfl) (by kernel_rfl) (
  TblOK.cons (by kernel_rfl) (by kernel_rfl) (
  TblOK.cons (by kernel_rfl) (by kernel_rfl) (
  TblOK.cons (by kernel_rfl) (by kernel_rfl) (
  TblOK.cons (by kernel_rfl) (by kernel_rfl) (
  TblOK.cons (by kernel_rfl) (by kernel_rfl) (
  TblOK.cons (by kernel_rfl) (by kernel_rfl) (
  TblOK.cons (by kernel_rfl) (by kernel_rfl) (
  TblOK.cons (by kernel_rfl) (by kernel_rfl) (
  TblOK.cons (by kernel_rfl) (by kernel_rfl) (
  TblOK.cons (by kernel_rfl) (by kernel_rfl) (
  TblOK.cons (by kernel_rfl) (by kernel_rfl) (
  TblOK.cons (by kernel_rfl) (by kernel_rfl) (
  TblOK.cons (by kernel_rfl) (by kernel_rfl) (
  TblOK.cons (by kernel_rfl) (by kernel_rfl) (
  TblOK.cons (by kernel_rfl) (by kernel_rfl) (
  TblOK.cons (by kernel_rfl) (by kernel_rfl) (
  TblOK.cons (by kernel_rfl) (by kernel_rfl) (
  TblOK.cons (by kernel_rfl) (by kernel_rfl) (
  TblOK.cons (by kernel_rfl) (by kernel_rfl) (
  TblOK.cons (by kernel_rfl) (by kernel_rfl) (
  TblOK.cons (by kernel_rfl) (by kernel_rfl) (
  TblOK.cons (by kernel_rfl) (by kernel_rfl) (
  TblOK.cons (by kernel_rfl) (by kernel_rfl) (
  TblOK.cons (by kernel_rfl) (by kernel_rfl) (
  TblOK.cons (by kernel_rfl) (by kernel_rfl) (
  TblOK.cons (by kernel_rfl) (by kernel_rfl) (
  TblOK.cons (by kernel_rfl) (by kernel_rfl) (
  TblOK.cons (by kernel_rfl) (by kernel_rfl) (
  TblOK.cons (by kernel_rfl) (by kernel_rfl) (
  TblOK.cons (by kernel_rfl) (by kernel_rfl) (
  TblOK.cons (by kernel_rfl) (by kernel_rfl) (
  TblOK.cons (by kernel_rfl) (by kernel_rfl) (
  TblOK.cons (by kernel_rfl) (by kernel_rfl) (
  TblOK.cons (by kernel_rfl) (by kernel_rfl) (
  TblOK.cons (by kernel_rfl) (by kernel_rfl) (
  TblOK.cons (by kernel_rfl) (by kernel_rfl) (
  TblOK.cons (by kernel_rfl) (by kernel_rfl) (
  TblOK.cons (by kernel_rfl) (by kernel_rfl) (
  TblOK.cons (by kernel_rfl) (by kernel_rfl) (
  TblOK.cons (by kernel_rfl) (by kernel_rfl) (
  TblOK.cons (by kernel_rfl) (by kernel_rfl) (
  TblOK.cons (by kernel_rfl) (by kernel_rfl) (
  TblOK.cons (by kernel_rfl) (by kernel_rfl) (
  TblOK.cons (by kernel_rfl) (by kernel_rfl) (
  TblOK.cons (by kernel_rfl) (by kernel_rfl) (
  TblOK.cons (by kernel_rfl) (by kernel_rfl) (
  TblOK.cons (by kernel_rfl) (by kernel_rfl) (
  TblOK.cons (by kernel_rfl) (by kernel_rfl) (
  TblOK.cons (by kernel_rfl) (by kernel_rfl) (
  TblOK.cons (by kernel_rfl) (by kernel_rfl) (
  TblOK.cons (by kernel_rfl) (by kernel_rfl) (
  TblOK.cons (by kernel_rfl) (by kernel_rfl) (
  TblOK.cons (by kernel_rfl) (by kernel_rfl) (
  TblOK.cons (by kernel_rfl) (by kernel_rfl) (
  TblOK.cons (by kernel_rfl) (by kernel_rfl) (
  TblOK.cons (by kernel_rfl) (by kernel_rfl) (
  TblOK.cons (by kernel_rfl) (by kernel_rfl) (
  TblOK.cons (by kernel_rfl) (by kernel_rfl) (
  TblOK.cons (by kernel_rfl) (by kernel_rfl) (
  TblOK.cons (by kernel_rfl) (by kernel_rfl) (
  TblOK.cons (by kernel_rfl) (by kernel_rfl) (
  TblOK.cons (by kernel_rfl) (by kernel_rfl) (
  TblOK.cons (by kernel_rfl) (by kernel_rfl) (
  TblOK.cons (by kernel_rfl) (by kernel_rfl) (
  TblOK.cons (by kernel_rfl) (by kernel_rfl) (
  TblOK.cons (by kernel_rfl) (by kernel_rfl) (
  TblOK.cons (by kernel_rfl) (by kernel_rfl) (
  TblOK.cons (by kernel_rfl) (by kernel_rfl) (
  TblOK.cons (by kernel_rfl) (by kernel_rfl) (
  TblOK.cons (by kernel_rfl) (by kernel_rfl) (
  TblOK.cons (by kernel_rfl) (by kernel_rfl) (
  TblOK.cons (by kernel_rfl) (by kernel_rfl) (
  TblOK.cons (by kernel_rfl) (by kernel_rfl) (
  TblOK.cons (by kernel_rfl) (by kernel_rfl) (
  TblOK.cons (by kernel_rfl) (by kernel_rfl) (
  TblOK.cons (by kernel_rfl) (by kernel_rfl) (
  TblOK.cons (by kernel_rfl) (by kernel_rfl) (
  TblOK.cons (by kernel_rfl) (by kernel_rfl) (
  TblOK.cons (by kernel_rfl) (by kernel_rfl) (
  TblOK.cons (by kernel_rfl) (by kernel_rfl) (
  TblOK.cons (by kernel_rfl) (by kernel_rfl) (
  TblOK.cons (by kernel_rfl) (by kernel_rfl) (
  TblOK.cons (by kernel_rfl) (by kernel_rfl) (
  TblOK.cons (by kernel_rfl) (by kernel_rfl) (
  TblOK.cons (by kernel_rfl) (by kernel_rfl) (
  TblOK.cons (by kernel_rfl) (by kernel_rfl) (
  TblOK.cons (by kernel_rfl) (by kernel_rfl) (
  TblOK.cons (by kernel_rfl) (by kernel_rfl) (
  TblOK.cons (by kernel_rfl) (by kernel_rfl) (
  TblOK.cons (by kernel_rfl) (by kernel_rfl) (
  TblOK.cons (by kernel_rfl) (by kernel_rfl) (
  TblOK.cons (by kernel_rfl) (by kernel_rfl) (
  TblOK.cons (by kernel_rfl) (by kernel_rfl) (
  TblOK.cons (by kernel_rfl) (by kernel_rfl) (
  TblOK.cons (by kernel_rfl) (by kernel_rfl) (
  TblOK.cons (by kernel_rfl) (by kernel_rfl) (
  TblOK.cons (by kernel_rfl) (by kernel_rfl) (
  TblOK.cons (by kernel_rfl) (by kernel_rfl) (
  TblOK.cons (by kernel_rfl) (by kernel_rfl) (
  TblOK.cons (by kernel_rfl) (by kernel_rfl) (
  TblOK.cons (by kernel_rfl) (by kernel_rfl) (
  TblOK.cons (by kernel_rfl) (by kernel_rfl) (
  TblOK.cons (by kernel_rfl) (by kernel_rfl) (
  TblOK.cons (by kernel_rfl) (by kernel_rfl) (
  TblOK.cons (by kernel_rfl) (by kernel_rfl) (
  TblOK.cons (by kernel_rfl) (by kernel_rfl) (
  TblOK.cons (by kernel_rfl) (by kernel_rfl) (
  TblOK.cons (by kernel_rfl) (by kernel_rfl) (
  TblOK.cons (by kernel_rfl) (by kernel_rfl) (
  TblOK.cons (by kernel_rfl) (by kernel_rfl) (
  TblOK.cons (by kernel_rfl) (by kernel_rfl) (
  TblOK.cons (by kernel_rfl) (by kernel_rfl) (
  TblOK.cons (by kernel_rfl) (by kernel_rfl) (
  TblOK.cons (by kernel_rfl) (by kernel_rfl) (
  TblOK.cons (by kernel_rfl) (by kernel_rfl) (
  TblOK.cons (by kernel_rfl) (by kernel_rfl) (
  TblOK.cons (by kernel_rfl) (by kernel_rfl) (
  TblOK.cons (by kernel_rfl) (by kernel_rfl) (
  TblOK.cons (by kernel_rfl) (by kernel_rfl) (
  TblOK.cons (by kernel_rfl) (by kernel_rfl) (
  TblOK.cons (by kernel_rfl) (by kernel_rfl) (
  TblOK.cons (by kernel_rfl) (by kernel_rfl) (
  TblOK.cons (by kernel_rfl) (by kernel_rfl) (TblOK.nil _))))))))))))))))))))))))))))))))))))))))))))))))))))))))))))))))))))))))))))))))))))))))))))))))))))))))))))))))))))))))))))))))
theorem mixed : Try.prog.follows .mixedOrders = true := by kernel_rfl
end Go.Proofs.Ytfemkbockhpmcaa.Sym
