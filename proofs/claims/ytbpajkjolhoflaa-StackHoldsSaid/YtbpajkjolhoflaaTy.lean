/- The table of types that the walks use, by a small program of this session's. -/
import Derived.Test.YtbpajkjolhoflaaProg
import Derived.Test.YtbpajkjolhoflaaSym
set_option maxRecDepth 100000
namespace Go.Proofs.Ytbpajkjolhoflaa.Sym
open Go Go.Proofs
def tb : Tbl := [
  (1, ⟨.nilFunc, 1, 8, TypeDesc.func #[] #[] false⟩),
  (2, ⟨.int .i64 0, 1, 8, TypeDesc.int IntKind.i64⟩),
  (3, ⟨.int .i64 0, 1, 8, TypeDesc.int IntKind.i64⟩),
  (4, ⟨.bool false, 1, 1, TypeDesc.bool⟩),
  (5, ⟨.int .u8 0, 1, 1, TypeDesc.int IntKind.u8⟩),
  (6, ⟨.int .u8 0, 1, 1, TypeDesc.int IntKind.u8⟩),
  (7, ⟨.agg #[.int .i64 0, .int .i64 0, .bool false, .int .u8 0], 4, 24, TypeDesc.struct #[{ name := "x", type := 2, offset := 0, embedded := false, tag := "", pkgPath := "runtime", byteOffset := 0 }, { name := "y", type := 3, offset := 1, embedded := false, tag := "", pkgPath := "runtime", byteOffset := 8 }, { name := "signed", type := 4, offset := 2, embedded := false, tag := "", pkgPath := "runtime", byteOffset := 16 }, { name := "code", type := 6, offset := 3, embedded := false, tag := "", pkgPath := "runtime", byteOffset := 17 }]⟩),
  (8, ⟨.agg #[.int .i64 0, .int .i64 0, .bool false, .int .u8 0], 4, 24, TypeDesc.struct #[{ name := "x", type := 2, offset := 0, embedded := false, tag := "", pkgPath := "runtime", byteOffset := 0 }, { name := "y", type := 3, offset := 1, embedded := false, tag := "", pkgPath := "runtime", byteOffset := 8 }, { name := "signed", type := 4, offset := 2, embedded := false, tag := "", pkgPath := "runtime", byteOffset := 16 }, { name := "code", type := 6, offset := 3, embedded := false, tag := "", pkgPath := "runtime", byteOffset := 17 }]⟩),
  (9, ⟨.string ⟨#[]⟩, 1, 16, TypeDesc.string⟩),
  (10, ⟨.string ⟨#[]⟩, 1, 16, TypeDesc.string⟩),
  (11, ⟨.string ⟨#[]⟩, 1, 16, TypeDesc.string⟩),
  (12, ⟨.int .u64 0, 1, 8, TypeDesc.int IntKind.u64⟩),
  (13, ⟨.agg #[.string ⟨#[]⟩, .int .u64 0], 2, 24, TypeDesc.struct #[{ name := "msg", type := 9, offset := 0, embedded := false, tag := "", pkgPath := "runtime", byteOffset := 0 }, { name := "addr", type := 12, offset := 1, embedded := false, tag := "", pkgPath := "runtime", byteOffset := 16 }]⟩),
  (14, ⟨.agg #[.string ⟨#[]⟩, .int .u64 0], 2, 24, TypeDesc.struct #[{ name := "msg", type := 9, offset := 0, embedded := false, tag := "", pkgPath := "runtime", byteOffset := 0 }, { name := "addr", type := 12, offset := 1, embedded := false, tag := "", pkgPath := "runtime", byteOffset := 16 }]⟩),
  (15, ⟨.pointer none, 1, 8, TypeDesc.pointer 159⟩),
  (16, ⟨.pointer none, 1, 8, TypeDesc.pointer 162⟩),
  (17, ⟨.pointer none, 1, 8, TypeDesc.pointer 171⟩),
  (18, ⟨.agg #[.pointer none], 1, 8, TypeDesc.struct #[{ name := "typ", type := 17, offset := 0, embedded := false, tag := "", pkgPath := "internal/runtime/maps", byteOffset := 0 }]⟩),
  (19, ⟨.agg #[.pointer none], 1, 8, TypeDesc.struct #[{ name := "typ", type := 17, offset := 0, embedded := false, tag := "", pkgPath := "internal/runtime/maps", byteOffset := 0 }]⟩),
  (20, ⟨.nilIface, 1, 16, TypeDesc.interface #[]⟩),
  (21, ⟨.int .i32 0, 1, 4, TypeDesc.int IntKind.i32⟩),
  (22, ⟨.slice none 0 0, 1, 24, TypeDesc.slice 3⟩),
  (23, ⟨.agg #[.slice none 0 0, .slice none 0 0], 2, 48, TypeDesc.struct #[{ name := "A", type := 22, offset := 0, embedded := false, tag := "", pkgPath := "", byteOffset := 0 }, { name := "B", type := 22, offset := 1, embedded := false, tag := "", pkgPath := "", byteOffset := 24 }]⟩),
  (24, ⟨.agg #[.slice none 0 0, .slice none 0 0], 2, 48, TypeDesc.struct #[{ name := "A", type := 22, offset := 0, embedded := false, tag := "", pkgPath := "", byteOffset := 0 }, { name := "B", type := 22, offset := 1, embedded := false, tag := "", pkgPath := "", byteOffset := 24 }]⟩),
  (25, ⟨.nilFunc, 1, 8, TypeDesc.func #[] #[4] false⟩),
  (27, ⟨.nilFunc, 1, 8, TypeDesc.func #[24] #[24, 24, 4] false⟩),
  (29, ⟨.nilFunc, 1, 8, TypeDesc.func #[24] #[24, 4] false⟩),
  (30, ⟨.nilFunc, 1, 8, TypeDesc.func #[24, 24] #[4] false⟩),
  (31, ⟨.nilFunc, 1, 8, TypeDesc.func #[24] #[4] false⟩),
  (32, ⟨.slice none 0 0, 1, 24, TypeDesc.slice 9⟩),
  (33, ⟨.slice none 0 0, 1, 24, TypeDesc.slice 63⟩),
  (34, ⟨.agg #[.slice none 0 0, .slice none 0 0, .slice none 0 0], 3, 72, TypeDesc.struct #[{ name := "Tokens", type := 32, offset := 0, embedded := false, tag := "", pkgPath := "", byteOffset := 0 }, { name := "Names", type := 32, offset := 1, embedded := false, tag := "", pkgPath := "", byteOffset := 24 }, { name := "Alts", type := 33, offset := 2, embedded := false, tag := "", pkgPath := "", byteOffset := 48 }]⟩),
  (35, ⟨.agg #[.slice none 0 0, .slice none 0 0, .slice none 0 0], 3, 72, TypeDesc.struct #[{ name := "Tokens", type := 32, offset := 0, embedded := false, tag := "", pkgPath := "", byteOffset := 0 }, { name := "Names", type := 32, offset := 1, embedded := false, tag := "", pkgPath := "", byteOffset := 24 }, { name := "Alts", type := 33, offset := 2, embedded := false, tag := "", pkgPath := "", byteOffset := 48 }]⟩),
  (36, ⟨.agg #[.slice none 0 0, .slice none 0 0, .int .i64 0, .int .i64 0], 4, 64, TypeDesc.struct #[{ name := "P", type := 24, offset := 0, embedded := false, tag := "", pkgPath := "", byteOffset := 0 }, { name := "How", type := 3, offset := 2, embedded := false, tag := "", pkgPath := "", byteOffset := 48 }, { name := "Alt", type := 3, offset := 3, embedded := false, tag := "", pkgPath := "", byteOffset := 56 }]⟩),
  (37, ⟨.agg #[.slice none 0 0, .slice none 0 0, .int .i64 0, .int .i64 0], 4, 64, TypeDesc.struct #[{ name := "P", type := 24, offset := 0, embedded := false, tag := "", pkgPath := "", byteOffset := 0 }, { name := "How", type := 3, offset := 2, embedded := false, tag := "", pkgPath := "", byteOffset := 48 }, { name := "Alt", type := 3, offset := 3, embedded := false, tag := "", pkgPath := "", byteOffset := 56 }]⟩),
  (38, ⟨.nilFunc, 1, 8, TypeDesc.func #[35, 35, 24] #[4] false⟩),
  (39, ⟨.slice none 0 0, 1, 24, TypeDesc.slice 24⟩),
  (41, ⟨.nilFunc, 1, 8, TypeDesc.func #[35, 24] #[39, 4] false⟩),
  (42, ⟨.nilFunc, 1, 8, TypeDesc.func #[39, 39] #[4] false⟩),
  (43, ⟨.nilFunc, 1, 8, TypeDesc.func #[35, 24, 3] #[24, 4] false⟩),
  (44, ⟨.nilFunc, 1, 8, TypeDesc.func #[35, 35, 37] #[39, 4] false⟩),
  (45, ⟨.nilFunc, 1, 8, TypeDesc.func #[22, 22] #[4] false⟩),
  (46, ⟨.nilFunc, 1, 8, TypeDesc.func #[35, 35, 37] #[4] false⟩),
  (47, ⟨.nilFunc, 1, 8, TypeDesc.func #[35, 3] #[4] false⟩),
  (48, ⟨.int .i64 0, 1, 8, TypeDesc.int IntKind.i64⟩),
  (49, ⟨.nilFunc, 1, 8, TypeDesc.func #[35] #[48] false⟩),
  (50, ⟨.nilFunc, 1, 8, TypeDesc.func #[35, 22] #[4] false⟩),
  (51, ⟨.nilFunc, 1, 8, TypeDesc.func #[35, 22, 22] #[4] false⟩),
  (52, ⟨.nilFunc, 1, 8, TypeDesc.func #[35, 35, 37, 22] #[4] false⟩),
  (53, ⟨.slice none 0 0, 1, 24, TypeDesc.slice 55⟩),
  (54, ⟨.agg #[.int .i64 0, .int .i64 0, .int .i64 0, .slice none 0 0], 4, 48, TypeDesc.struct #[{ name := "Sym", type := 3, offset := 0, embedded := false, tag := "", pkgPath := "", byteOffset := 0 }, { name := "Alt", type := 3, offset := 1, embedded := false, tag := "", pkgPath := "", byteOffset := 8 }, { name := "At", type := 3, offset := 2, embedded := false, tag := "", pkgPath := "", byteOffset := 16 }, { name := "Kids", type := 53, offset := 3, embedded := false, tag := "", pkgPath := "", byteOffset := 24 }]⟩),
  (55, ⟨.agg #[.int .i64 0, .int .i64 0, .int .i64 0, .slice none 0 0], 4, 48, TypeDesc.struct #[{ name := "Sym", type := 3, offset := 0, embedded := false, tag := "", pkgPath := "", byteOffset := 0 }, { name := "Alt", type := 3, offset := 1, embedded := false, tag := "", pkgPath := "", byteOffset := 8 }, { name := "At", type := 3, offset := 2, embedded := false, tag := "", pkgPath := "", byteOffset := 16 }, { name := "Kids", type := 53, offset := 3, embedded := false, tag := "", pkgPath := "", byteOffset := 24 }]⟩),
  (56, ⟨.nilFunc, 1, 8, TypeDesc.func #[55, 3] #[4] false⟩),
  (57, ⟨.nilFunc, 1, 8, TypeDesc.func #[35, 55, 22] #[4] false⟩),
  (58, ⟨.nilFunc, 1, 8, TypeDesc.func #[55] #[22] false⟩),
  (60, ⟨.nilFunc, 1, 8, TypeDesc.func #[35, 22] #[55, 3, 48] false⟩),
  (61, ⟨.nilFunc, 1, 8, TypeDesc.func #[55, 55] #[4] false⟩),
  (62, ⟨.nilFunc, 1, 8, TypeDesc.func #[35, 55] #[4] false⟩),
  (63, ⟨.slice none 0 0, 1, 24, TypeDesc.slice 22⟩),
  (65, ⟨.nilFunc, 1, 8, TypeDesc.func #[35] #[63, 48] false⟩),
  (66, ⟨.nilFunc, 1, 8, TypeDesc.func #[35, 63, 22] #[55, 3, 48] false⟩),
  (67, ⟨.nilFunc, 1, 8, TypeDesc.func #[55] #[3] false⟩),
  (68, ⟨.nilFunc, 1, 8, TypeDesc.func #[22] #[22] false⟩),
  (70, ⟨.nilFunc, 1, 8, TypeDesc.func #[35, 22] #[63, 4] false⟩),
  (71, ⟨.nilFunc, 1, 8, TypeDesc.func #[63] #[22] true⟩),
  (73, ⟨.nilFunc, 1, 8, TypeDesc.func #[35, 22] #[3, 4] false⟩),
  (74, ⟨.nilFunc, 1, 8, TypeDesc.func #[22, 22] #[22] false⟩),
  (75, ⟨.nilFunc, 1, 8, TypeDesc.func #[4, 39] #[39, 4] true⟩),
  (76, ⟨.slice none 0 0, 1, 24, TypeDesc.slice 111⟩),
  (77, ⟨.agg #[.slice none 0 0], 1, 24, TypeDesc.struct #[{ name := "Rules", type := 76, offset := 0, embedded := false, tag := "", pkgPath := "", byteOffset := 0 }]⟩),
  (78, ⟨.agg #[.slice none 0 0], 1, 24, TypeDesc.struct #[{ name := "Rules", type := 76, offset := 0, embedded := false, tag := "", pkgPath := "", byteOffset := 0 }]⟩),
  (80, ⟨.nilFunc, 1, 8, TypeDesc.func #[35] #[78, 48] false⟩),
  (82, ⟨.nilFunc, 1, 8, TypeDesc.func #[78, 32] #[35, 48] false⟩),
  (83, ⟨.nilFunc, 1, 8, TypeDesc.func #[35, 35] #[4] false⟩),
  (84, ⟨.slice none 0 0, 1, 24, TypeDesc.slice 4⟩),
  (85, ⟨.slice none 0 0, 1, 24, TypeDesc.slice 121⟩),
  (86, ⟨.slice none 0 0, 1, 24, TypeDesc.slice 121⟩),
  (87, ⟨.nilFunc, 1, 8, TypeDesc.func #[35, 22] #[86] false⟩),
  (88, ⟨.nilFunc, 1, 8, TypeDesc.func #[35, 22, 22, 3] #[84] false⟩),
  (89, ⟨.nilFunc, 1, 8, TypeDesc.func #[] #[35] false⟩),
  (90, ⟨.nilFunc, 1, 8, TypeDesc.func #[35, 55] #[9] false⟩),
  (91, ⟨.nilFunc, 1, 8, TypeDesc.func #[55, 3] #[3] false⟩),
  (92, ⟨.nilFunc, 1, 8, TypeDesc.func #[128] #[] false⟩),
  (93, ⟨.nilFunc, 1, 8, TypeDesc.func #[128] #[] false⟩),
  (94, ⟨.nilFunc, 1, 8, TypeDesc.func #[55, 4] #[93] false⟩),
  (96, ⟨.nilFunc, 1, 8, TypeDesc.func #[35, 3, 3] #[22, 4] false⟩),
  (97, ⟨.nilFunc, 1, 8, TypeDesc.func #[53, 22, 56] #[4] false⟩),
  (98, ⟨.pointer none, 1, 8, TypeDesc.pointer 55⟩),
  (99, ⟨.slice none 0 0, 1, 24, TypeDesc.slice 98⟩),
  (100, ⟨.slice none 0 0, 1, 24, TypeDesc.slice 133⟩),
  (101, ⟨.nilFunc, 1, 8, TypeDesc.func #[35] #[100] false⟩),
  (102, ⟨.nilFunc, 1, 8, TypeDesc.func #[35] #[33] false⟩),
  (103, ⟨.nilFunc, 1, 8, TypeDesc.func #[22, 3] #[4] false⟩),
  (104, ⟨.pointer none, 1, 8, TypeDesc.pointer 106⟩),
  (105, ⟨.agg #[.slice none 0 0, .slice none 0 0, .slice none 0 0, .slice none 0 0, .slice none 0 0, .int .i64 0, .int .i64 0, .int .i64 0], 8, 144, TypeDesc.struct #[{ name := "c", type := 35, offset := 0, embedded := false, tag := "", pkgPath := "quincunx/quincunxref11", byteOffset := 0 }, { name := "t", type := 63, offset := 3, embedded := false, tag := "", pkgPath := "quincunx/quincunxref11", byteOffset := 72 }, { name := "toks", type := 22, offset := 4, embedded := false, tag := "", pkgPath := "quincunx/quincunxref11", byteOffset := 96 }, { name := "at", type := 3, offset := 5, embedded := false, tag := "", pkgPath := "quincunx/quincunxref11", byteOffset := 120 }, { name := "nodes", type := 3, offset := 6, embedded := false, tag := "", pkgPath := "quincunx/quincunxref11", byteOffset := 128 }, { name := "e", type := 48, offset := 7, embedded := false, tag := "", pkgPath := "quincunx/quincunxref11", byteOffset := 136 }]⟩),
  (106, ⟨.agg #[.slice none 0 0, .slice none 0 0, .slice none 0 0, .slice none 0 0, .slice none 0 0, .int .i64 0, .int .i64 0, .int .i64 0], 8, 144, TypeDesc.struct #[{ name := "c", type := 35, offset := 0, embedded := false, tag := "", pkgPath := "quincunx/quincunxref11", byteOffset := 0 }, { name := "t", type := 63, offset := 3, embedded := false, tag := "", pkgPath := "quincunx/quincunxref11", byteOffset := 72 }, { name := "toks", type := 22, offset := 4, embedded := false, tag := "", pkgPath := "quincunx/quincunxref11", byteOffset := 96 }, { name := "at", type := 3, offset := 5, embedded := false, tag := "", pkgPath := "quincunx/quincunxref11", byteOffset := 120 }, { name := "nodes", type := 3, offset := 6, embedded := false, tag := "", pkgPath := "quincunx/quincunxref11", byteOffset := 128 }, { name := "e", type := 48, offset := 7, embedded := false, tag := "", pkgPath := "quincunx/quincunxref11", byteOffset := 136 }]⟩),
  (107, ⟨.nilFunc, 1, 8, TypeDesc.func #[3] #[55] false⟩),
  (108, ⟨.nilFunc, 1, 8, TypeDesc.func #[22, 3] #[22] false⟩),
  (109, ⟨.slice none 0 0, 1, 24, TypeDesc.slice 32⟩),
  (110, ⟨.agg #[.string ⟨#[]⟩, .slice none 0 0], 2, 40, TypeDesc.struct #[{ name := "Name", type := 9, offset := 0, embedded := false, tag := "", pkgPath := "", byteOffset := 0 }, { name := "Alts", type := 109, offset := 1, embedded := false, tag := "", pkgPath := "", byteOffset := 16 }]⟩),
  (111, ⟨.agg #[.string ⟨#[]⟩, .slice none 0 0], 2, 40, TypeDesc.struct #[{ name := "Name", type := 9, offset := 0, embedded := false, tag := "", pkgPath := "", byteOffset := 0 }, { name := "Alts", type := 109, offset := 1, embedded := false, tag := "", pkgPath := "", byteOffset := 16 }]⟩),
  (112, ⟨.nilFunc, 1, 8, TypeDesc.func #[78] #[48] false⟩),
  (113, ⟨.nilFunc, 1, 8, TypeDesc.func #[9] #[4] false⟩),
  (114, ⟨.nilFunc, 1, 8, TypeDesc.func #[32, 9] #[4] false⟩),
  (115, ⟨.slice none 0 0, 1, 24, TypeDesc.slice 150⟩),
  (116, ⟨.nilFunc, 1, 8, TypeDesc.func #[78, 32] #[115] false⟩),
  (117, ⟨.nilFunc, 1, 8, TypeDesc.func #[78] #[32] false⟩),
  (118, ⟨.nilFunc, 1, 8, TypeDesc.func #[32, 9] #[3] false⟩),
  (119, ⟨.nilFunc, 1, 8, TypeDesc.func #[32, 32] #[4] false⟩),
  (120, ⟨.nilFunc, 1, 8, TypeDesc.func #[3, 3] #[86] false⟩),
  (121, ⟨.slice none 0 0, 1, 24, TypeDesc.slice 84⟩),
  (122, ⟨.pointer none, 1, 8, TypeDesc.pointer 125⟩),
  (123, ⟨.slice none 0 0, 1, 24, TypeDesc.slice 5⟩),
  (124, ⟨.agg #[.pointer none, .slice none 0 0], 2, 32, TypeDesc.struct #[{ name := "addr", type := 122, offset := 0, embedded := false, tag := "", pkgPath := "strings", byteOffset := 0 }, { name := "buf", type := 123, offset := 1, embedded := false, tag := "", pkgPath := "strings", byteOffset := 8 }]⟩),
  (125, ⟨.agg #[.pointer none, .slice none 0 0], 2, 32, TypeDesc.struct #[{ name := "addr", type := 122, offset := 0, embedded := false, tag := "", pkgPath := "strings", byteOffset := 0 }, { name := "buf", type := 123, offset := 1, embedded := false, tag := "", pkgPath := "strings", byteOffset := 8 }]⟩),
  (126, ⟨.nilFunc, 1, 8, TypeDesc.func #[122, 35, 55] #[] false⟩),
  (127, ⟨.nilFunc, 1, 8, TypeDesc.func #[] #[9] false⟩),
  (128, ⟨.nilFunc, 1, 8, TypeDesc.func #[55] #[4] false⟩),
  (129, ⟨.nilFunc, 1, 8, TypeDesc.func #[146] #[] false⟩),
  (130, ⟨.nilFunc, 1, 8, TypeDesc.func #[146] #[] false⟩),
  (131, ⟨.nilFunc, 1, 8, TypeDesc.func #[53] #[130] false⟩),
  (132, ⟨.agg #[.int .i64 0, .int .i64 0, .int .i64 0, .int .i64 0], 4, 32, TypeDesc.struct #[{ name := "Rule", type := 3, offset := 0, embedded := false, tag := "", pkgPath := "", byteOffset := 0 }, { name := "Token", type := 3, offset := 1, embedded := false, tag := "", pkgPath := "", byteOffset := 8 }, { name := "A", type := 3, offset := 2, embedded := false, tag := "", pkgPath := "", byteOffset := 16 }, { name := "B", type := 3, offset := 3, embedded := false, tag := "", pkgPath := "", byteOffset := 24 }]⟩),
  (133, ⟨.agg #[.int .i64 0, .int .i64 0, .int .i64 0, .int .i64 0], 4, 32, TypeDesc.struct #[{ name := "Rule", type := 3, offset := 0, embedded := false, tag := "", pkgPath := "", byteOffset := 0 }, { name := "Token", type := 3, offset := 1, embedded := false, tag := "", pkgPath := "", byteOffset := 8 }, { name := "A", type := 3, offset := 2, embedded := false, tag := "", pkgPath := "", byteOffset := 16 }, { name := "B", type := 3, offset := 3, embedded := false, tag := "", pkgPath := "", byteOffset := 24 }]⟩),
  (134, ⟨.nilFunc, 1, 8, TypeDesc.func #[35, 3, 3] #[22] false⟩),
  (135, ⟨.nilFunc, 1, 8, TypeDesc.func #[48] #[55] false⟩),
  (136, ⟨.nilFunc, 1, 8, TypeDesc.func #[3] #[3] false⟩),
  (137, ⟨.nilFunc, 1, 8, TypeDesc.func #[78] #[4] false⟩),
  (138, ⟨.nilFunc, 1, 8, TypeDesc.func #[115, 3, 9] #[115] false⟩),
  (139, ⟨.nilFunc, 1, 8, TypeDesc.func #[78, 32] #[32] false⟩),
  (140, ⟨.nilIface, 1, 16, TypeDesc.interface #[("Error", 127)]⟩),
  (141, ⟨.nilIface, 1, 16, TypeDesc.interface #[("Error", 127)]⟩),
  (143, ⟨.nilFunc, 1, 8, TypeDesc.func #[9] #[3, 141] false⟩),
  (144, ⟨.nilFunc, 1, 8, TypeDesc.func #[5] #[141] false⟩),
  (145, ⟨.pointer none, 1, 8, TypeDesc.pointer 5⟩),
  (146, ⟨.nilFunc, 1, 8, TypeDesc.func #[3, 55] #[4] false⟩),
  (147, ⟨.nilFunc, 1, 8, TypeDesc.func #[35, 22] #[22, 4] false⟩),
  (148, ⟨.nilFunc, 1, 8, TypeDesc.func #[35] #[63] false⟩),
  (149, ⟨.agg #[.int .i64 0, .string ⟨#[]⟩], 2, 24, TypeDesc.struct #[{ name := "Kind", type := 3, offset := 0, embedded := false, tag := "", pkgPath := "", byteOffset := 0 }, { name := "Name", type := 9, offset := 1, embedded := false, tag := "", pkgPath := "", byteOffset := 8 }]⟩),
  (150, ⟨.agg #[.int .i64 0, .string ⟨#[]⟩], 2, 24, TypeDesc.struct #[{ name := "Kind", type := 3, offset := 0, embedded := false, tag := "", pkgPath := "", byteOffset := 0 }, { name := "Name", type := 9, offset := 1, embedded := false, tag := "", pkgPath := "", byteOffset := 8 }]⟩),
  (151, ⟨.nilFunc, 1, 8, TypeDesc.func #[35] #[84] false⟩),
  (152, ⟨.nilFunc, 1, 8, TypeDesc.func #[35, 22, 84, 63] #[22] false⟩),
  (153, ⟨.nilFunc, 1, 8, TypeDesc.func #[35, 22, 84] #[4] false⟩),
  (154, ⟨.nilFunc, 1, 8, TypeDesc.func #[63] #[3] false⟩),
  (155, ⟨.nilFunc, 1, 8, TypeDesc.func #[35, 3] #[3] false⟩),
  (156, ⟨.pointer none, 1, 8, TypeDesc.unsafePointer⟩),
  (157, ⟨.nilFunc, 1, 8, TypeDesc.func #[156] #[156] false⟩),
  (158, ⟨.agg #[.pointer none, .pointer none, .pointer none, .string ⟨#[]⟩], 4, 40, TypeDesc.struct #[{ name := "_interface", type := 17, offset := 0, embedded := false, tag := "", pkgPath := "runtime", byteOffset := 0 }, { name := "concrete", type := 17, offset := 1, embedded := false, tag := "", pkgPath := "runtime", byteOffset := 8 }, { name := "asserted", type := 17, offset := 2, embedded := false, tag := "", pkgPath := "runtime", byteOffset := 16 }, { name := "missingMethod", type := 9, offset := 3, embedded := false, tag := "", pkgPath := "runtime", byteOffset := 24 }]⟩),
  (159, ⟨.agg #[.pointer none, .pointer none, .pointer none, .string ⟨#[]⟩], 4, 40, TypeDesc.struct #[{ name := "_interface", type := 17, offset := 0, embedded := false, tag := "", pkgPath := "runtime", byteOffset := 0 }, { name := "concrete", type := 17, offset := 1, embedded := false, tag := "", pkgPath := "runtime", byteOffset := 8 }, { name := "asserted", type := 17, offset := 2, embedded := false, tag := "", pkgPath := "runtime", byteOffset := 16 }, { name := "missingMethod", type := 9, offset := 3, embedded := false, tag := "", pkgPath := "runtime", byteOffset := 24 }]⟩),
  (163, ⟨.nilFunc, 1, 8, TypeDesc.func #[] #[3] false⟩),
  (164, ⟨.int .u32 0, 1, 4, TypeDesc.int IntKind.u32⟩),
  (165, ⟨.int .u8 0, 1, 1, TypeDesc.int IntKind.u8⟩),
  (166, ⟨.int .u8 0, 1, 1, TypeDesc.int IntKind.u8⟩),
  (167, ⟨.nilFunc, 1, 8, TypeDesc.func #[156, 156] #[4] false⟩),
  (168, ⟨.int .i32 0, 1, 4, TypeDesc.int IntKind.i32⟩),
  (169, ⟨.int .i32 0, 1, 4, TypeDesc.int IntKind.i32⟩),
  (170, ⟨.agg #[.int .u64 0, .int .u64 0, .int .u32 0, .int .u8 0, .int .u8 0, .int .u8 0, .int .u8 0, .nilFunc, .pointer none, .int .i32 0, .int .i32 0], 11, 48, TypeDesc.struct #[{ name := "Size_", type := 12, offset := 0, embedded := false, tag := "", pkgPath := "", byteOffset := 0 }, { name := "PtrBytes", type := 12, offset := 1, embedded := false, tag := "", pkgPath := "", byteOffset := 8 }, { name := "Hash", type := 164, offset := 2, embedded := false, tag := "", pkgPath := "", byteOffset := 16 }, { name := "TFlag", type := 165, offset := 3, embedded := false, tag := "", pkgPath := "", byteOffset := 20 }, { name := "Align_", type := 5, offset := 4, embedded := false, tag := "", pkgPath := "", byteOffset := 21 }, { name := "FieldAlign_", type := 5, offset := 5, embedded := false, tag := "", pkgPath := "", byteOffset := 22 }, { name := "Kind_", type := 166, offset := 6, embedded := false, tag := "", pkgPath := "", byteOffset := 23 }, { name := "Equal", type := 167, offset := 7, embedded := false, tag := "", pkgPath := "", byteOffset := 24 }, { name := "GCData", type := 145, offset := 8, embedded := false, tag := "", pkgPath := "", byteOffset := 32 }, { name := "Str", type := 168, offset := 9, embedded := false, tag := "", pkgPath := "", byteOffset := 40 }, { name := "PtrToThis", type := 169, offset := 10, embedded := false, tag := "", pkgPath := "", byteOffset := 44 }]⟩),
  (171, ⟨.agg #[.int .u64 0, .int .u64 0, .int .u32 0, .int .u8 0, .int .u8 0, .int .u8 0, .int .u8 0, .nilFunc, .pointer none, .int .i32 0, .int .i32 0], 11, 48, TypeDesc.struct #[{ name := "Size_", type := 12, offset := 0, embedded := false, tag := "", pkgPath := "", byteOffset := 0 }, { name := "PtrBytes", type := 12, offset := 1, embedded := false, tag := "", pkgPath := "", byteOffset := 8 }, { name := "Hash", type := 164, offset := 2, embedded := false, tag := "", pkgPath := "", byteOffset := 16 }, { name := "TFlag", type := 165, offset := 3, embedded := false, tag := "", pkgPath := "", byteOffset := 20 }, { name := "Align_", type := 5, offset := 4, embedded := false, tag := "", pkgPath := "", byteOffset := 21 }, { name := "FieldAlign_", type := 5, offset := 5, embedded := false, tag := "", pkgPath := "", byteOffset := 22 }, { name := "Kind_", type := 166, offset := 6, embedded := false, tag := "", pkgPath := "", byteOffset := 23 }, { name := "Equal", type := 167, offset := 7, embedded := false, tag := "", pkgPath := "", byteOffset := 24 }, { name := "GCData", type := 145, offset := 8, embedded := false, tag := "", pkgPath := "", byteOffset := 32 }, { name := "Str", type := 168, offset := 9, embedded := false, tag := "", pkgPath := "", byteOffset := 40 }, { name := "PtrToThis", type := 169, offset := 10, embedded := false, tag := "", pkgPath := "", byteOffset := 44 }]⟩)]
theorem htb : TblOK Try.prog tb :=
  TblOK.cons (by kernel_rfl) (by kernel_rfl) (
  TblOK.cons (by kernel_rfl) (by kernel_rfl) (
  TblOK.cons (by kernel_rfl) (by kernel_rfl) (
  TblOK.cons (by kernel_rfl) (by kernel_rfl) (
  TblOK.cons (by kernel_rfl) (by kernel_rfl) (
  TblOK.cons (by kernel_rfl) (by kernel_rfl) (
  TblOK.cons (by kernel_rfl) (by kernel_rfl) (
  TblOK.cons (by kernel_rfl) (by kernel_rfl) (
  TblOK.cons (by kernel_rfl) (by kernel_rfl) (
  TblOK.cons (by kernel_rfl) (by kernel_rfl) (
  TblOK.cons (by kernel_rfl) (by kernel_rfl) (
  TblOK.cons (by kernel_rfl) (by kernel_rfl) (
  TblOK.cons (by kernel_rfl) (by kernel_rfl) (
  TblOK.cons (by kernel_rfl) (by kernel_rfl) (
  TblOK.cons (by kernel_rfl) (by kernel_rfl) (
  TblOK.cons (by kernel_rfl) (by kernel_rfl) (
  TblOK.cons (by kernel_rfl) (by kernel_rfl) (
  TblOK.cons (by kernel_rfl) (by kernel_rfl) (
  TblOK.cons (by kernel_rfl) (by kernel_rfl) (
  TblOK.cons (by kernel_rfl) (by kernel_rfl) (
  TblOK.cons (by kernel_rfl) (by kernel_rfl) (
  TblOK.cons (by kernel_rfl) (by kernel_rfl) (
  TblOK.cons (by kernel_rfl) (by kernel_rfl) (
  TblOK.cons (by kernel_rfl) (by kernel_rfl) (
  TblOK.cons (by kernel_rfl) (by kernel_rfl) (
  TblOK.cons (by kernel_rfl) (by kernel_rfl) (
  TblOK.cons (by kernel_rfl) (by kernel_rfl) (
  TblOK.cons (by kernel_rfl) (by kernel_rfl) (
  TblOK.cons (by kernel_rfl) (by kernel_rfl) (
  TblOK.cons (by kernel_rfl) (by kernel_rfl) (
  TblOK.cons (by kernel_rfl) (by kernel_rfl) (
  TblOK.cons (by kernel_rfl) (by kernel_rfl) (
  TblOK.cons (by kernel_rfl) (by kernel_rfl) (
  TblOK.cons (by kernel_rfl) (by kernel_rfl) (
  TblOK.cons (by kernel_rfl) (by kernel_rfl) (
  TblOK.cons (by kernel_rfl) (by kernel_rfl) (
  TblOK.cons (by kernel_rfl) (by kernel_rfl) (
  TblOK.cons (by kernel_rfl) (by kernel_rfl) (
  TblOK.cons (by kernel_rfl) (by kernel_rfl) (
  TblOK.cons (by kernel_rfl) (by kernel_rfl) (
  TblOK.cons (by kernel_rfl) (by kernel_rfl) (
  TblOK.cons (by kernel_rfl) (by kernel_rfl) (
  TblOK.cons (by kernel_rfl) (by kernel_rfl) (
  TblOK.cons (by kernel_rfl) (by kernel_rfl) (
  TblOK.cons (by kernel_rfl) (by kernel_rfl) (
  TblOK.cons (by kernel_rfl) (by kernel_rfl) (
  TblOK.cons (by kernel_rfl) (by kernel_rfl) (
  TblOK.cons (by kernel_rfl) (by kernel_rfl) (
  TblOK.cons (by kernel_rfl) (by kernel_rfl) (
  TblOK.cons (by kernel_rfl) (by kernel_rfl) (
  TblOK.cons (by kernel_rfl) (by kernel_rfl) (
  TblOK.cons (by kernel_rfl) (by kernel_rfl) (
  TblOK.cons (by kernel_rfl) (by kernel_rfl) (
  TblOK.cons (by kernel_rfl) (by kernel_rfl) (
  TblOK.cons (by kernel_rfl) (by kernel_rfl) (
  TblOK.cons (by kernel_rfl) (by kernel_rfl) (
  TblOK.cons (by kernel_rfl) (by kernel_rfl) (
  TblOK.cons (by kernel_rfl) (by kernel_rfl) (
  TblOK.cons (by kernel_rfl) (by kernel_rfl) (
  TblOK.cons (by kernel_rfl) (by kernel_rfl) (
  TblOK.cons (by kernel_rfl) (by kernel_rfl) (
  TblOK.cons (by kernel_rfl) (by kernel_rfl) (
  TblOK.cons (by kernel_rfl) (by kernel_rfl) (
  TblOK.cons (by kernel_rfl) (by kernel_rfl) (
  TblOK.cons (by kernel_rfl) (by kernel_rfl) (
  TblOK.cons (by kernel_rfl) (by kernel_rfl) (
  TblOK.cons (by kernel_rfl) (by kernel_rfl) (
  TblOK.cons (by kernel_rfl) (by kernel_rfl) (
  TblOK.cons (by kernel_rfl) (by kernel_rfl) (
  TblOK.cons (by kernel_rfl) (by kernel_rfl) (
  TblOK.cons (by kernel_rfl) (by kernel_rfl) (
  TblOK.cons (by kernel_rfl) (by kernel_rfl) (
  TblOK.cons (by kernel_rfl) (by kernel_rfl) (
  TblOK.cons (by kernel_rfl) (by kernel_rfl) (
  TblOK.cons (by kernel_rfl) (by kernel_rfl) (
  TblOK.cons (by kernel_rfl) (by kernel_rfl) (
  TblOK.cons (by kernel_rfl) (by kernel_rfl) (
  TblOK.cons (by kernel_rfl) (by kernel_rfl) (
  TblOK.cons (by kernel_rfl) (by kernel_rfl) (
  TblOK.cons (by kernel_rfl) (by kernel_rfl) (
  TblOK.cons (by kernel_rfl) (by kernel_rfl) (
  TblOK.cons (by kernel_rfl) (by kernel_rfl) (
  TblOK.cons (by kernel_rfl) (by kernel_rfl) (
  TblOK.cons (by kernel_rfl) (by kernel_rfl) (
  TblOK.cons (by kernel_rfl) (by kernel_rfl) (
  TblOK.cons (by kernel_rfl) (by kernel_rfl) (
  TblOK.cons (by kernel_rfl) (by kernel_rfl) (
  TblOK.cons (by kernel_rfl) (by kernel_rfl) (
  TblOK.cons (by kernel_rfl) (by kernel_rfl) (
  TblOK.cons (by kernel_rfl) (by kernel_rfl) (
  TblOK.cons (by kernel_rfl) (by kernel_rfl) (
  TblOK.cons (by kernel_rfl) (by kernel_rfl) (
  TblOK.cons (by kernel_rfl) (by kernel_rfl) (
  TblOK.cons (by kernel_rfl) (by kernel_rfl) (
  TblOK.cons (by kernel_rfl) (by kernel_rfl) (
  TblOK.cons (by kernel_rfl) (by kernel_rfl) (
  TblOK.cons (by kernel_rfl) (by kernel_rfl) (
  TblOK.cons (by kernel_rfl) (by kernel_rfl) (
  TblOK.cons (by kernel_rfl) (by kernel_rfl) (
  TblOK.cons (by kernel_rfl) (by kernel_rfl) (
  TblOK.cons (by kernel_rfl) (by kernel_rfl) (
  TblOK.cons (by kernel_rfl) (by kernel_rfl) (
  TblOK.cons (by kernel_rfl) (by kernel_rfl) (
  TblOK.cons (by kernel_rfl) (by kernel_rfl) (
  TblOK.cons (by kernel_rfl) (by kernel_rfl) (
  TblOK.cons (by kernel_rfl) (by kernel_rfl) (
  TblOK.cons (by kernel_rfl) (by kernel_rfl) (
  TblOK.cons (by kernel_rfl) (by kernel_rfl) (
  TblOK.cons (by kernel_rfl) (by kernel_rfl) (
  TblOK.cons (by kernel_rfl) (by kernel_rfl) (
  TblOK.cons (by kernel_rfl) (by kernel_rfl) (
  TblOK.cons (by kernel_rfl) (by kernel_rfl) (
  TblOK.cons (by kernel_rfl) (by kernel_rfl) (
  TblOK.cons (by kernel_rfl) (by kernel_rfl) (
  TblOK.cons (by kernel_rfl) (by kernel_rfl) (
  TblOK.cons (by kernel_rfl) (by kernel_rfl) (
  TblOK.cons (by kernel_rfl) (by kernel_rfl) (
  TblOK.cons (by kernel_rfl) (by kernel_rfl) (
  TblOK.cons (by kernel_rfl) (by kernel_rfl) (
  TblOK.cons (by kernel_rfl) (by kernel_rfl) (
  TblOK.cons (by kernel_rfl) (by kernel_rfl) (
  TblOK.cons (by kernel_rfl) (by kernel_rfl) (
  TblOK.cons (by kernel_rfl) (by kernel_rfl) (
  TblOK.cons (by kernel_rfl) (by kernel_rfl) (
  TblOK.cons (by kernel_rfl) (by kernel_rfl) (
  TblOK.cons (by kernel_rfl) (by kernel_rfl) (
  TblOK.cons (by kernel_rfl) (by kernel_rfl) (
  TblOK.cons (by kernel_rfl) (by kernel_rfl) (
  TblOK.cons (by kernel_rfl) (by kernel_rfl) (
  TblOK.cons (by kernel_rfl) (by kernel_rfl) (
  TblOK.cons (by kernel_rfl) (by kernel_rfl) (
  TblOK.cons (by kernel_rfl) (by kernel_rfl) (
  TblOK.cons (by kernel_rfl) (by kernel_rfl) (
  TblOK.cons (by kernel_rfl) (by kernel_rfl) (
  TblOK.cons (by kernel_rfl) (by kernel_rfl) (
  TblOK.cons (by kernel_rfl) (by kernel_rfl) (
  TblOK.cons (by kernel_rfl) (by kernel_rfl) (
  TblOK.cons (by kernel_rfl) (by kernel_rfl) (
  TblOK.cons (by kernel_rfl) (by kernel_rfl) (
  TblOK.cons (by kernel_rfl) (by kernel_rfl) (
  TblOK.cons (by kernel_rfl) (by kernel_rfl) (
  TblOK.cons (by kernel_rfl) (by kernel_rfl) (
  TblOK.cons (by kernel_rfl) (by kernel_rfl) (
  TblOK.cons (by kernel_rfl) (by kernel_rfl) (
  TblOK.cons (by kernel_rfl) (by kernel_rfl) (
  TblOK.cons (by kernel_rfl) (by kernel_rfl) (
  TblOK.cons (by kernel_rfl) (by kernel_rfl) (
  TblOK.cons (by kernel_rfl) (by kernel_rfl) (
  TblOK.cons (by kernel_rfl) (by kernel_rfl) (
  TblOK.cons (by kernel_rfl) (by kernel_rfl) (
  TblOK.cons (by kernel_rfl) (by kernel_rfl) (
  TblOK.cons (by kernel_rfl) (by kernel_rfl) (
  TblOK.cons (by kernel_rfl) (by kernel_rfl) (
  TblOK.cons (by kernel_rfl) (by kernel_rfl) (
  TblOK.cons (by kernel_rfl) (by kernel_rfl) (
  TblOK.cons (by kernel_rfl) (by kernel_rfl) (
  TblOK.cons (by kernel_rfl) (by kernel_rfl) (TblOK.nil _)))))))))))))))))))))))))))))))))))))))))))))))))))))))))))))))))))))))))))))))))))))))))))))))))))))))))))))))))))))))))))))))))))))))))))))))))))))))))))))
theorem mixed : Try.prog.follows .mixedOrders = true := by kernel_rfl
end Go.Proofs.Ytbpajkjolhoflaa.Sym
