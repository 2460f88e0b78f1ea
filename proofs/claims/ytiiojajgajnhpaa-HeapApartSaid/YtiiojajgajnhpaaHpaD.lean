/- Part of a proof. No condition. (Part 4: YtiiojajgajnhpaaTab, YtiiojajgajnhpaaHy, YtiiojajgajnhpaaHk, AmKE, AmOB, AmX, YtiiojajgajnhpaaFo, YtiiojajgajnhpaaXDs, YtiiojajgajnhpaaX98, YtiiojajgajnhpaaX48, YtiiojajgajnhpaaX92, YtiiojajgajnhpaaX50, YtiiojajgajnhpaaX60, YtiiojajgajnhpaaX107, YtiiojajgajnhpaaX108, YtiiojajgajnhpaaX94, Ytiiojajgaj.) -/
import Derived.Test.YtiiojajgajnhpaaProg
import Derived.KernelRfl
import Derived.Test.YtiiojajgajnhpaaHpaC
set_option linter.unusedVariables false
set_option linter.unusedSimpArgs false
namespace Go.Proofs.Ytiiojajgajnhpaa
open Go Go.AM
def tabC0 : List (Nat × TI) := [(1, ⟨.func #[] #[] false, 1, 8, .nilFunc, [.nilf]⟩),
  (2, ⟨.int .i64, 1, 8, .int .i64 0, [.d (.int .i64 0)]⟩),
  (3, ⟨.int .i64, 1, 8, .int .i64 0, [.d (.int .i64 0)]⟩),
  (4, ⟨.bool, 1, 1, .bool false, [.d (.bool false)]⟩),
  (5, ⟨.int .u8, 1, 1, .int .u8 0, [.d (.int .u8 0)]⟩),
  (6, ⟨.int .u8, 1, 1, .int .u8 0, [.d (.int .u8 0)]⟩),
  (7, ⟨.struct #[⟨"x", 2, 0, false, "", "runtime", 0⟩, ⟨"y", 3, 1, false, "", "runtime", 8⟩, ⟨"signed", 4, 2, false, "", "runtime", 16⟩, ⟨"code", 6, 3, false, "", "runtime", 17⟩], 4, 24, .agg #[.int .i64 0, .int .i64 0, .bool false, .int .u8 0], [.d (.int .i64 0), .d (.int .i64 0), .d (.bool false), .d (.int .u8 0)]⟩),
  (8, ⟨.struct #[⟨"x", 2, 0, false, "", "runtime", 0⟩, ⟨"y", 3, 1, false, "", "runtime", 8⟩, ⟨"signed", 4, 2, false, "", "runtime", 16⟩, ⟨"code", 6, 3, false, "", "runtime", 17⟩], 4, 24, .agg #[.int .i64 0, .int .i64 0, .bool false, .int .u8 0], [.d (.int .i64 0), .d (.int .i64 0), .d (.bool false), .d (.int .u8 0)]⟩),
  (9, ⟨.string, 1, 16, .string ByteArray.empty, [.d (.str ByteArray.empty)]⟩),
  (10, ⟨.string, 1, 16, .string ByteArray.empty, [.d (.str ByteArray.empty)]⟩),
  (11, ⟨.string, 1, 16, .string ByteArray.empty, [.d (.str ByteArray.empty)]⟩),
  (12, ⟨.int .u64, 1, 8, .int .u64 0, [.d (.int .u64 0)]⟩),
  (13, ⟨.struct #[⟨"msg", 9, 0, false, "", "runtime", 0⟩, ⟨"addr", 12, 1, false, "", "runtime", 16⟩], 2, 24, .agg #[.string ByteArray.empty, .int .u64 0], [.d (.str ByteArray.empty), .d (.int .u64 0)]⟩),
  (14, ⟨.struct #[⟨"msg", 9, 0, false, "", "runtime", 0⟩, ⟨"addr", 12, 1, false, "", "runtime", 16⟩], 2, 24, .agg #[.string ByteArray.empty, .int .u64 0], [.d (.str ByteArray.empty), .d (.int .u64 0)]⟩),
  (15, ⟨.pointer 209, 1, 8, .pointer none, [.nilp]⟩)]
def tabC1 : List (Nat × TI) := [(16, ⟨.pointer 212, 1, 8, .pointer none, [.nilp]⟩),
  (17, ⟨.pointer 221, 1, 8, .pointer none, [.nilp]⟩),
  (18, ⟨.struct #[⟨"typ", 17, 0, false, "", "internal/runtime/maps", 0⟩], 1, 8, .agg #[.pointer none], [.nilp]⟩),
  (19, ⟨.struct #[⟨"typ", 17, 0, false, "", "internal/runtime/maps", 0⟩], 1, 8, .agg #[.pointer none], [.nilp]⟩),
  (21, ⟨.int .i32, 1, 4, .int .i32 0, [.d (.int .i32 0)]⟩),
  (22, ⟨.slice 126, 1, 24, .slice none 0 0, [.nils true 16]⟩),
  (23, ⟨.struct #[⟨"Items", 22, 0, false, "", "", 0⟩], 1, 24, .agg #[.slice none 0 0], [.nils true 16]⟩),
  (24, ⟨.struct #[⟨"Items", 22, 0, false, "", "", 0⟩], 1, 24, .agg #[.slice none 0 0], [.nils true 16]⟩),
  (25, ⟨.slice 27, 1, 24, .slice none 0 0, [.nils true 3]⟩),
  (26, ⟨.struct #[⟨"Kind", 5, 0, false, "", "", 0⟩, ⟨"Name", 9, 1, false, "", "", 8⟩, ⟨"Args", 25, 2, false, "", "", 24⟩], 3, 48, .agg #[.int .u8 0, .string ByteArray.empty, .slice none 0 0], [.d (.int .u8 0), .d (.str ByteArray.empty), .nils true 3]⟩),
  (27, ⟨.struct #[⟨"Kind", 5, 0, false, "", "", 0⟩, ⟨"Name", 9, 1, false, "", "", 8⟩, ⟨"Args", 25, 2, false, "", "", 24⟩], 3, 48, .agg #[.int .u8 0, .string ByteArray.empty, .slice none 0 0], [.d (.int .u8 0), .d (.str ByteArray.empty), .nils true 3]⟩),
  (28, ⟨.slice 9, 1, 24, .slice none 0 0, [.nils false 1]⟩),
  (29, ⟨.struct #[⟨"Name", 9, 0, false, "", "", 0⟩, ⟨"Path", 28, 1, false, "", "", 16⟩], 2, 40, .agg #[.string ByteArray.empty, .slice none 0 0], [.d (.str ByteArray.empty), .nils false 1]⟩),
  (30, ⟨.struct #[⟨"Name", 9, 0, false, "", "", 0⟩, ⟨"Path", 28, 1, false, "", "", 16⟩], 2, 40, .agg #[.string ByteArray.empty, .slice none 0 0], [.d (.str ByteArray.empty), .nils false 1]⟩),
  (31, ⟨.slice 33, 1, 24, .slice none 0 0, [.nils true 8]⟩)]
def tabC2 : List (Nat × TI) := [(32, ⟨.struct #[⟨"Op", 5, 0, false, "", "", 0⟩, ⟨"Int", 2, 1, false, "", "", 8⟩, ⟨"Name", 9, 2, false, "", "", 16⟩, ⟨"Second", 9, 3, false, "", "", 32⟩, ⟨"Place", 30, 4, false, "", "", 48⟩, ⟨"Args", 31, 6, false, "", "", 88⟩, ⟨"At", 3, 7, false, "", "", 112⟩], 8, 120, .agg #[.int .u8 0, .int .i64 0, .string ByteArray.empty, .string ByteArray.empty, .string ByteArray.empty, .slice none 0 0, .slice none 0 0, .int .i64 0], [.d (.int .u8 0), .d (.int .i64 0), .d (.str ByteArray.empty), .d (.str ByteArray.empty), .d (.str ByteArray.empty), .nils false 1, .nils true 8, .d (.int .i64 0)]⟩),
  (33, ⟨.struct #[⟨"Op", 5, 0, false, "", "", 0⟩, ⟨"Int", 2, 1, false, "", "", 8⟩, ⟨"Name", 9, 2, false, "", "", 16⟩, ⟨"Second", 9, 3, false, "", "", 32⟩, ⟨"Place", 30, 4, false, "", "", 48⟩, ⟨"Args", 31, 6, false, "", "", 88⟩, ⟨"At", 3, 7, false, "", "", 112⟩], 8, 120, .agg #[.int .u8 0, .int .i64 0, .string ByteArray.empty, .string ByteArray.empty, .string ByteArray.empty, .slice none 0 0, .slice none 0 0, .int .i64 0], [.d (.int .u8 0), .d (.int .i64 0), .d (.str ByteArray.empty), .d (.str ByteArray.empty), .d (.str ByteArray.empty), .nils false 1, .nils true 8, .d (.int .i64 0)]⟩),
  (34, ⟨.func #[24] #[4] false, 1, 8, .nilFunc, [.nilf]⟩),
  (35, ⟨.func #[27] #[4] false, 1, 8, .nilFunc, [.nilf]⟩),
  (36, ⟨.func #[33] #[4] false, 1, 8, .nilFunc, [.nilf]⟩),
  (37, ⟨.func #[24, 24] #[4] false, 1, 8, .nilFunc, [.nilf]⟩),
  (38, ⟨.func #[24, 24, 4] #[4] false, 1, 8, .nilFunc, [.nilf]⟩),
  (39, ⟨.func #[27, 27] #[4] false, 1, 8, .nilFunc, [.nilf]⟩),
  (40, ⟨.func #[33, 33] #[4] false, 1, 8, .nilFunc, [.nilf]⟩),
  (41, ⟨.func #[33, 33, 4] #[4] false, 1, 8, .nilFunc, [.nilf]⟩),
  (42, ⟨.func #[24, 24, 27, 27, 33, 33] #[4] false, 1, 8, .nilFunc, [.nilf]⟩),
  (43, ⟨.func #[24, 4] #[24] false, 1, 8, .nilFunc, [.nilf]⟩),
  (44, ⟨.func #[24] #[24] false, 1, 8, .nilFunc, [.nilf]⟩),
  (45, ⟨.func #[24] #[] false, 1, 8, .nilFunc, [.nilf]⟩),
  (46, ⟨.slice 49, 1, 24, .slice none 0 0, [.nils true 6]⟩),
  (47, ⟨.slice 3, 1, 24, .slice none 0 0, [.nils false 1]⟩)]
def tabC3 : List (Nat × TI) := [(48, ⟨.struct #[⟨"Kind", 5, 0, false, "", "", 0⟩, ⟨"Int", 2, 1, false, "", "", 8⟩, ⟨"Name", 9, 2, false, "", "", 16⟩, ⟨"Fields", 46, 3, false, "", "", 32⟩, ⟨"ID", 3, 4, false, "", "", 56⟩, ⟨"Path", 47, 5, false, "", "", 64⟩], 6, 88, .agg #[.int .u8 0, .int .i64 0, .string ByteArray.empty, .slice none 0 0, .int .i64 0, .slice none 0 0], [.d (.int .u8 0), .d (.int .i64 0), .d (.str ByteArray.empty), .nils true 6, .d (.int .i64 0), .nils false 1]⟩),
  (49, ⟨.struct #[⟨"Kind", 5, 0, false, "", "", 0⟩, ⟨"Int", 2, 1, false, "", "", 8⟩, ⟨"Name", 9, 2, false, "", "", 16⟩, ⟨"Fields", 46, 3, false, "", "", 32⟩, ⟨"ID", 3, 4, false, "", "", 56⟩, ⟨"Path", 47, 5, false, "", "", 64⟩], 6, 88, .agg #[.int .u8 0, .int .i64 0, .string ByteArray.empty, .slice none 0 0, .int .i64 0, .slice none 0 0], [.d (.int .u8 0), .d (.int .i64 0), .d (.str ByteArray.empty), .nils true 6, .d (.int .i64 0), .nils false 1]⟩),
  (50, ⟨.func #[49, 49, 47] #[4] false, 1, 8, .nilFunc, [.nilf]⟩),
  (51, ⟨.func #[49] #[49] false, 1, 8, .nilFunc, [.nilf]⟩),
  (53, ⟨.func #[49, 47] #[49, 5] false, 1, 8, .nilFunc, [.nilf]⟩),
  (55, ⟨.func #[49, 47] #[49, 3] false, 1, 8, .nilFunc, [.nilf]⟩),
  (56, ⟨.func #[49, 47, 49] #[49, 5] false, 1, 8, .nilFunc, [.nilf]⟩),
  (57, ⟨.func #[49, 47, 49] #[49, 3] false, 1, 8, .nilFunc, [.nilf]⟩),
  (58, ⟨.func #[49, 49] #[4] false, 1, 8, .nilFunc, [.nilf]⟩),
  (59, ⟨.func #[49] #[] false, 1, 8, .nilFunc, [.nilf]⟩),
  (60, ⟨.struct #[⟨"Kind", 3, 0, false, "", "", 0⟩, ⟨"ID", 3, 1, false, "", "", 8⟩, ⟨"Room", 3, 2, false, "", "", 16⟩, ⟨"V", 49, 3, false, "", "", 24⟩], 9, 112, .agg #[.int .i64 0, .int .i64 0, .int .i64 0, .int .u8 0, .int .i64 0, .string ByteArray.empty, .slice none 0 0, .int .i64 0, .slice none 0 0], [.d (.int .i64 0), .d (.int .i64 0), .d (.int .i64 0), .d (.int .u8 0), .d (.int .i64 0), .d (.str ByteArray.empty), .nils true 6, .d (.int .i64 0), .nils false 1]⟩),
  (61, ⟨.struct #[⟨"Kind", 3, 0, false, "", "", 0⟩, ⟨"ID", 3, 1, false, "", "", 8⟩, ⟨"Room", 3, 2, false, "", "", 16⟩, ⟨"V", 49, 3, false, "", "", 24⟩], 9, 112, .agg #[.int .i64 0, .int .i64 0, .int .i64 0, .int .u8 0, .int .i64 0, .string ByteArray.empty, .slice none 0 0, .int .i64 0, .slice none 0 0], [.d (.int .i64 0), .d (.int .i64 0), .d (.int .i64 0), .d (.int .u8 0), .d (.int .i64 0), .d (.str ByteArray.empty), .nils true 6, .d (.int .i64 0), .nils false 1]⟩),
  (62, ⟨.func #[63] #[4] false, 1, 8, .nilFunc, [.nilf]⟩),
  (63, ⟨.slice 61, 1, 24, .slice none 0 0, [.nils true 9]⟩)]
def tabC4 : List (Nat × TI) := [(64, ⟨.pointer 67, 1, 8, .pointer none, [.nilp]⟩),
  (65, ⟨.map 3 161, 1, 8, .map none, [.nilm]⟩),
  (66, ⟨.struct #[⟨"m", 65, 0, false, "", "weftway/queues", 0⟩], 1, 8, .agg #[.map none], [.nilm]⟩),
  (67, ⟨.struct #[⟨"m", 65, 0, false, "", "weftway/queues", 0⟩], 1, 8, .agg #[.map none], [.nilm]⟩),
  (68, ⟨.slice 64, 1, 24, .slice none 0 0, [.nils false 1]⟩),
  (69, ⟨.func #[3, 3] #[] false, 1, 8, .nilFunc, [.nilf]⟩),
  (71, ⟨.func #[3] #[49, 4] false, 1, 8, .nilFunc, [.nilf]⟩),
  (72, ⟨.func #[3, 49] #[4] false, 1, 8, .nilFunc, [.nilf]⟩),
  (73, ⟨.func #[3] #[4] false, 1, 8, .nilFunc, [.nilf]⟩),
  (74, ⟨.func #[3] #[46] false, 1, 8, .nilFunc, [.nilf]⟩),
  (75, ⟨.func #[61] #[4] false, 1, 8, .nilFunc, [.nilf]⟩),
  (76, ⟨.func #[] #[64] false, 1, 8, .nilFunc, [.nilf]⟩),
  (77, ⟨.pointer 80, 1, 8, .pointer none, [.nilp]⟩),
  (78, ⟨.slice 171, 1, 24, .slice none 0 0, [.nils true 3]⟩),
  (79, ⟨.struct #[⟨"L", 78, 0, false, "", "", 0⟩], 1, 24, .agg #[.slice none 0 0], [.nils true 3]⟩)]
def tabC5 : List (Nat × TI) := [(80, ⟨.struct #[⟨"L", 78, 0, false, "", "", 0⟩], 1, 24, .agg #[.slice none 0 0], [.nils true 3]⟩),
  (81, ⟨.func #[64, 77, 61] #[4] false, 1, 8, .nilFunc, [.nilf]⟩),
  (82, ⟨.func #[] #[4] false, 1, 8, .nilFunc, [.nilf]⟩),
  (83, ⟨.func #[46, 46] #[4] false, 1, 8, .nilFunc, [.nilf]⟩),
  (84, ⟨.func #[3, 63] #[4] false, 1, 8, .nilFunc, [.nilf]⟩),
  (85, ⟨.func #[63, 3] #[4] false, 1, 8, .nilFunc, [.nilf]⟩),
  (86, ⟨.func #[2] #[49] false, 1, 8, .nilFunc, [.nilf]⟩),
  (87, ⟨.func #[3, 3] #[4] false, 1, 8, .nilFunc, [.nilf]⟩),
  (88, ⟨.func #[3, 3, 3] #[4] false, 1, 8, .nilFunc, [.nilf]⟩),
  (89, ⟨.struct #[⟨"Kind", 3, 0, false, "", "", 0⟩, ⟨"ID", 3, 1, false, "", "", 8⟩, ⟨"Path", 47, 2, false, "", "", 16⟩, ⟨"V", 49, 3, false, "", "", 40⟩], 9, 128, .agg #[.int .i64 0, .int .i64 0, .slice none 0 0, .int .u8 0, .int .i64 0, .string ByteArray.empty, .slice none 0 0, .int .i64 0, .slice none 0 0], [.d (.int .i64 0), .d (.int .i64 0), .nils false 1, .d (.int .u8 0), .d (.int .i64 0), .d (.str ByteArray.empty), .nils true 6, .d (.int .i64 0), .nils false 1]⟩),
  (90, ⟨.struct #[⟨"Kind", 3, 0, false, "", "", 0⟩, ⟨"ID", 3, 1, false, "", "", 8⟩, ⟨"Path", 47, 2, false, "", "", 16⟩, ⟨"V", 49, 3, false, "", "", 40⟩], 9, 128, .agg #[.int .i64 0, .int .i64 0, .slice none 0 0, .int .u8 0, .int .i64 0, .string ByteArray.empty, .slice none 0 0, .int .i64 0, .slice none 0 0], [.d (.int .i64 0), .d (.int .i64 0), .nils false 1, .d (.int .u8 0), .d (.int .i64 0), .d (.str ByteArray.empty), .nils true 6, .d (.int .i64 0), .nils false 1]⟩),
  (91, ⟨.func #[92] #[4] false, 1, 8, .nilFunc, [.nilf]⟩),
  (92, ⟨.slice 90, 1, 24, .slice none 0 0, [.nils true 9]⟩),
  (93, ⟨.pointer 96, 1, 8, .pointer none, [.nilp]⟩),
  (94, ⟨.map 3 173, 1, 8, .map none, [.nilm]⟩),
  (95, ⟨.struct #[⟨"cells", 94, 0, false, "", "weftway/heap", 0⟩, ⟨"left", 3, 1, false, "", "weftway/heap", 8⟩], 2, 16, .agg #[.map none, .int .i64 0], [.nilm, .d (.int .i64 0)]⟩)]
def tabC6 : List (Nat × TI) := [(96, ⟨.struct #[⟨"cells", 94, 0, false, "", "weftway/heap", 0⟩, ⟨"left", 3, 1, false, "", "weftway/heap", 8⟩], 2, 16, .agg #[.map none, .int .i64 0], [.nilm, .d (.int .i64 0)]⟩),
  (97, ⟨.slice 93, 1, 24, .slice none 0 0, [.nils false 1]⟩),
  (98, ⟨.int .i64, 1, 8, .int .i64 0, [.d (.int .i64 0)]⟩),
  (100, ⟨.func #[49] #[3, 98] false, 1, 8, .nilFunc, [.nilf]⟩),
  (101, ⟨.func #[3, 47] #[49, 5] false, 1, 8, .nilFunc, [.nilf]⟩),
  (102, ⟨.func #[3, 47, 49] #[49, 5] false, 1, 8, .nilFunc, [.nilf]⟩),
  (103, ⟨.func #[3] #[49, 5] false, 1, 8, .nilFunc, [.nilf]⟩),
  (104, ⟨.func #[3, 47, 49] #[5] false, 1, 8, .nilFunc, [.nilf]⟩),
  (105, ⟨.func #[] #[3] false, 1, 8, .nilFunc, [.nilf]⟩),
  (106, ⟨.func #[90] #[4] false, 1, 8, .nilFunc, [.nilf]⟩),
  (107, ⟨.func #[] #[93] false, 1, 8, .nilFunc, [.nilf]⟩),
  (108, ⟨.pointer 113, 1, 8, .pointer none, [.nilp]⟩),
  (109, ⟨.func #[] #[108] false, 1, 8, .nilFunc, [.nilf]⟩),
  (110, ⟨.func #[93, 108, 90] #[4] false, 1, 8, .nilFunc, [.nilf]⟩),
  (111, ⟨.slice 183, 1, 24, .slice none 0 0, [.nils true 7]⟩)]
def tabC7 : List (Nat × TI) := [(112, ⟨.struct #[⟨"Cells", 111, 0, false, "", "", 0⟩], 1, 24, .agg #[.slice none 0 0], [.nils true 7]⟩),
  (113, ⟨.struct #[⟨"Cells", 111, 0, false, "", "", 0⟩], 1, 24, .agg #[.slice none 0 0], [.nils true 7]⟩),
  (114, ⟨.func #[3] #[3] false, 1, 8, .nilFunc, [.nilf]⟩),
  (115, ⟨.func #[3, 92] #[4] false, 1, 8, .nilFunc, [.nilf]⟩),
  (116, ⟨.slice 4, 1, 24, .slice none 0 0, [.nils false 1]⟩),
  (118, ⟨.func #[93] #[46, 116] false, 1, 8, .nilFunc, [.nilf]⟩),
  (119, ⟨.func #[93, 90] #[4] false, 1, 8, .nilFunc, [.nilf]⟩),
  (120, ⟨.pointer 122, 1, 8, .pointer none, [.nilp]⟩),
  (121, ⟨.struct #[⟨"Left", 3, 0, false, "", "", 0⟩], 1, 8, .agg #[.int .i64 0], [.d (.int .i64 0)]⟩),
  (122, ⟨.struct #[⟨"Left", 3, 0, false, "", "", 0⟩], 1, 8, .agg #[.int .i64 0], [.d (.int .i64 0)]⟩),
  (123, ⟨.slice 136, 1, 24, .slice none 0 0, [.nils true 4]⟩),
  (124, ⟨.slice 152, 1, 24, .slice none 0 0, [.nils true 15]⟩),
  (125, ⟨.struct #[⟨"Kind", 5, 0, false, "", "", 0⟩, ⟨"Name", 9, 1, false, "", "", 8⟩, ⟨"Fields", 123, 2, false, "", "", 24⟩, ⟨"Result", 27, 3, false, "", "", 48⟩, ⟨"Body", 124, 6, false, "", "", 96⟩, ⟨"Return", 33, 7, false, "", "", 120⟩, ⟨"At", 3, 15, false, "", "", 240⟩], 16, 248, .agg #[.int .u8 0, .string ByteArray.empty, .slice none 0 0, .int .u8 0, .string ByteArray.empty, .slice none 0 0, .slice none 0 0, .int .u8 0, .int .i64 0, .string ByteArray.empty, .string ByteArray.empty, .string ByteArray.empty, .slice none 0 0, .slice none 0 0, .int .i64 0, .int .i64 0], [.d (.int .u8 0), .d (.str ByteArray.empty), .nils true 4, .d (.int .u8 0), .d (.str ByteArray.empty), .nils true 3, .nils true 15, .d (.int .u8 0), .d (.int .i64 0), .d (.str ByteArray.empty), .d (.str ByteArray.empty), .d (.str ByteArray.empty), .nils false 1, .nils true 8, .d (.int .i64 0), .d (.int .i64 0)]⟩),
  (126, ⟨.struct #[⟨"Kind", 5, 0, false, "", "", 0⟩, ⟨"Name", 9, 1, false, "", "", 8⟩, ⟨"Fields", 123, 2, false, "", "", 24⟩, ⟨"Result", 27, 3, false, "", "", 48⟩, ⟨"Body", 124, 6, false, "", "", 96⟩, ⟨"Return", 33, 7, false, "", "", 120⟩, ⟨"At", 3, 15, false, "", "", 240⟩], 16, 248, .agg #[.int .u8 0, .string ByteArray.empty, .slice none 0 0, .int .u8 0, .string ByteArray.empty, .slice none 0 0, .slice none 0 0, .int .u8 0, .int .i64 0, .string ByteArray.empty, .string ByteArray.empty, .string ByteArray.empty, .slice none 0 0, .slice none 0 0, .int .i64 0, .int .i64 0], [.d (.int .u8 0), .d (.str ByteArray.empty), .nils true 4, .d (.int .u8 0), .d (.str ByteArray.empty), .nils true 3, .nils true 15, .d (.int .u8 0), .d (.int .i64 0), .d (.str ByteArray.empty), .d (.str ByteArray.empty), .d (.str ByteArray.empty), .nils false 1, .nils true 8, .d (.int .i64 0), .d (.int .i64 0)]⟩),
  (127, ⟨.func #[9] #[] false, 1, 8, .nilFunc, [.nilf]⟩)]
def tabC8 : List (Nat × TI) := [(128, ⟨.func #[123] #[] false, 1, 8, .nilFunc, [.nilf]⟩),
  (129, ⟨.func #[27] #[] false, 1, 8, .nilFunc, [.nilf]⟩),
  (130, ⟨.func #[124] #[] false, 1, 8, .nilFunc, [.nilf]⟩),
  (131, ⟨.func #[33] #[] false, 1, 8, .nilFunc, [.nilf]⟩),
  (132, ⟨.func #[22, 22, 138] #[4] false, 1, 8, .nilFunc, [.nilf]⟩),
  (133, ⟨.func #[124, 124] #[4] false, 1, 8, .nilFunc, [.nilf]⟩),
  (134, ⟨.func #[123, 123, 137] #[4] false, 1, 8, .nilFunc, [.nilf]⟩),
  (135, ⟨.struct #[⟨"Name", 9, 0, false, "", "", 0⟩, ⟨"Type", 27, 1, false, "", "", 16⟩], 4, 64, .agg #[.string ByteArray.empty, .int .u8 0, .string ByteArray.empty, .slice none 0 0], [.d (.str ByteArray.empty), .d (.int .u8 0), .d (.str ByteArray.empty), .nils true 3]⟩),
  (136, ⟨.struct #[⟨"Name", 9, 0, false, "", "", 0⟩, ⟨"Type", 27, 1, false, "", "", 16⟩], 4, 64, .agg #[.string ByteArray.empty, .int .u8 0, .string ByteArray.empty, .slice none 0 0], [.d (.str ByteArray.empty), .d (.int .u8 0), .d (.str ByteArray.empty), .nils true 3]⟩),
  (137, ⟨.func #[136, 136] #[4] false, 1, 8, .nilFunc, [.nilf]⟩),
  (138, ⟨.func #[126, 126] #[4] false, 1, 8, .nilFunc, [.nilf]⟩),
  (139, ⟨.func #[123, 123] #[4] false, 1, 8, .nilFunc, [.nilf]⟩),
  (140, ⟨.func #[124, 124, 4] #[4] false, 1, 8, .nilFunc, [.nilf]⟩),
  (141, ⟨.func #[25, 25, 39] #[4] false, 1, 8, .nilFunc, [.nilf]⟩),
  (142, ⟨.func #[30, 30] #[4] false, 1, 8, .nilFunc, [.nilf]⟩),
  (143, ⟨.func #[31, 31, 40] #[4] false, 1, 8, .nilFunc, [.nilf]⟩)]
def tabC9 : List (Nat × TI) := [(144, ⟨.func #[31, 31, 4] #[4] false, 1, 8, .nilFunc, [.nilf]⟩),
  (145, ⟨.func #[123] #[123] false, 1, 8, .nilFunc, [.nilf]⟩),
  (146, ⟨.func #[27] #[27] false, 1, 8, .nilFunc, [.nilf]⟩),
  (147, ⟨.func #[124, 4] #[124] false, 1, 8, .nilFunc, [.nilf]⟩),
  (148, ⟨.func #[33, 4] #[33] false, 1, 8, .nilFunc, [.nilf]⟩),
  (149, ⟨.func #[24, 114] #[24] false, 1, 8, .nilFunc, [.nilf]⟩),
  (150, ⟨.slice 154, 1, 24, .slice none 0 0, [.nils true 3]⟩),
  (151, ⟨.struct #[⟨"Op", 5, 0, false, "", "", 0⟩, ⟨"Name", 9, 1, false, "", "", 8⟩, ⟨"Second", 9, 2, false, "", "", 24⟩, ⟨"Names", 28, 3, false, "", "", 40⟩, ⟨"Type", 27, 4, false, "", "", 64⟩, ⟨"Int", 2, 7, false, "", "", 112⟩, ⟨"Place", 30, 8, false, "", "", 120⟩, ⟨"Exprs", 31, 10, false, "", "", 160⟩, ⟨"Body", 124, 11, false, "", "", 184⟩, ⟨"Else", 124, 12, false, "", "", 208⟩, ⟨"Arms", 150, 13, false, "", "", 232⟩, ⟨"At", 3, 14, false, "", "", 256⟩], 15, 264, .agg #[.int .u8 0, .string ByteArray.empty, .string ByteArray.empty, .slice none 0 0, .int .u8 0, .string ByteArray.empty, .slice none 0 0, .int .i64 0, .string ByteArray.empty, .slice none 0 0, .slice none 0 0, .slice none 0 0, .slice none 0 0, .slice none 0 0, .int .i64 0], [.d (.int .u8 0), .d (.str ByteArray.empty), .d (.str ByteArray.empty), .nils false 1, .d (.int .u8 0), .d (.str ByteArray.empty), .nils true 3, .d (.int .i64 0), .d (.str ByteArray.empty), .nils false 1, .nils true 8, .nils true 15, .nils true 15, .nils true 3, .d (.int .i64 0)]⟩),
  (152, ⟨.struct #[⟨"Op", 5, 0, false, "", "", 0⟩, ⟨"Name", 9, 1, false, "", "", 8⟩, ⟨"Second", 9, 2, false, "", "", 24⟩, ⟨"Names", 28, 3, false, "", "", 40⟩, ⟨"Type", 27, 4, false, "", "", 64⟩, ⟨"Int", 2, 7, false, "", "", 112⟩, ⟨"Place", 30, 8, false, "", "", 120⟩, ⟨"Exprs", 31, 10, false, "", "", 160⟩, ⟨"Body", 124, 11, false, "", "", 184⟩, ⟨"Else", 124, 12, false, "", "", 208⟩, ⟨"Arms", 150, 13, false, "", "", 232⟩, ⟨"At", 3, 14, false, "", "", 256⟩], 15, 264, .agg #[.int .u8 0, .string ByteArray.empty, .string ByteArray.empty, .slice none 0 0, .int .u8 0, .string ByteArray.empty, .slice none 0 0, .int .i64 0, .string ByteArray.empty, .slice none 0 0, .slice none 0 0, .slice none 0 0, .slice none 0 0, .slice none 0 0, .int .i64 0], [.d (.int .u8 0), .d (.str ByteArray.empty), .d (.str ByteArray.empty), .nils false 1, .d (.int .u8 0), .d (.str ByteArray.empty), .nils true 3, .d (.int .i64 0), .d (.str ByteArray.empty), .nils false 1, .nils true 8, .nils true 15, .nils true 15, .nils true 3, .d (.int .i64 0)]⟩),
  (153, ⟨.struct #[⟨"Variant", 9, 0, false, "", "", 0⟩, ⟨"Name", 9, 1, false, "", "", 16⟩, ⟨"Body", 124, 2, false, "", "", 32⟩], 3, 56, .agg #[.string ByteArray.empty, .string ByteArray.empty, .slice none 0 0], [.d (.str ByteArray.empty), .d (.str ByteArray.empty), .nils true 15]⟩),
  (154, ⟨.struct #[⟨"Variant", 9, 0, false, "", "", 0⟩, ⟨"Name", 9, 1, false, "", "", 16⟩, ⟨"Body", 124, 2, false, "", "", 32⟩], 3, 56, .agg #[.string ByteArray.empty, .string ByteArray.empty, .slice none 0 0], [.d (.str ByteArray.empty), .d (.str ByteArray.empty), .nils true 15]⟩),
  (155, ⟨.func #[46, 3] #[3] false, 1, 8, .nilFunc, [.nilf]⟩),
  (156, ⟨.func #[46] #[46] false, 1, 8, .nilFunc, [.nilf]⟩),
  (157, ⟨.func #[49, 3] #[5] false, 1, 8, .nilFunc, [.nilf]⟩),
  (158, ⟨.func #[49, 3] #[3] false, 1, 8, .nilFunc, [.nilf]⟩),
  (159, ⟨.func #[49, 47] #[49] false, 1, 8, .nilFunc, [.nilf]⟩)]
def tabC10 : List (Nat × TI) := [(160, ⟨.func #[47, 47] #[4] false, 1, 8, .nilFunc, [.nilf]⟩),
  (161, ⟨.pointer 165, 1, 8, .pointer none, [.nilp]⟩),
  (162, ⟨.func #[3] #[161] false, 1, 8, .nilFunc, [.nilf]⟩),
  (163, ⟨.array 8 49, 48, 704, .agg #[.int .u8 0, .int .i64 0, .string ByteArray.empty, .slice none 0 0, .int .i64 0, .slice none 0 0, .int .u8 0, .int .i64 0, .string ByteArray.empty, .slice none 0 0, .int .i64 0, .slice none 0 0, .int .u8 0, .int .i64 0, .string ByteArray.empty, .slice none 0 0, .int .i64 0, .slice none 0 0, .int .u8 0, .int .i64 0, .string ByteArray.empty, .slice none 0 0, .int .i64 0, .slice none 0 0, .int .u8 0, .int .i64 0, .string ByteArray.empty, .slice none 0 0, .int .i64 0, .slice none 0 0, .int .u8 0, .int .i64 0, .string ByteArray.empty, .slice none 0 0, .int .i64 0, .slice none 0 0, .int .u8 0, .int .i64 0, .string ByteArray.empty, .slice none 0 0, .int .i64 0, .slice none 0 0, .int .u8 0, .int .i64 0, .string ByteArray.empty, .slice none 0 0, .int .i64 0, .slice none 0 0], [.d (.int .u8 0), .d (.int .i64 0), .d (.str ByteArray.empty), .nils true 6, .d (.int .i64 0), .nils false 1, .d (.int .u8 0), .d (.int .i64 0), .d (.str ByteArray.empty), .nils true 6, .d (.int .i64 0), .nils false 1, .d (.int .u8 0), .d (.int .i64 0), .d (.str ByteArray.empty), .nils true 6, .d (.int .i64 0), .nils false 1, .d (.int .u8 0), .d (.int .i64 0), .d (.str ByteArray.empty), .nils true 6, .d (.int .i64 0), .nils false 1, .d (.int .u8 0), .d (.int .i64 0), .d (.str ByteArray.empty), .nils true 6, .d (.int .i64 0), .nils false 1, .d (.int .u8 0), .d (.int .i64 0), .d (.str ByteArray.empty), .nils true 6, .d (.int .i64 0), .nils false 1, .d (.int .u8 0), .d (.int .i64 0), .d (.str ByteArray.empty), .nils true 6, .d (.int .i64 0), .nils false 1, .d (.int .u8 0), .d (.int .i64 0), .d (.str ByteArray.empty), .nils true 6, .d (.int .i64 0), .nils false 1]⟩),
  (164, ⟨.struct #[⟨"room", 3, 0, false, "", "weftway/queues", 0⟩, ⟨"first", 3, 1, false, "", "weftway/queues", 8⟩, ⟨"n", 3, 2, false, "", "weftway/queues", 16⟩, ⟨"l", 163, 3, false, "", "weftway/queues", 24⟩], 51, 728, .agg #[.int .i64 0, .int .i64 0, .int .i64 0, .int .u8 0, .int .i64 0, .string ByteArray.empty, .slice none 0 0, .int .i64 0, .slice none 0 0, .int .u8 0, .int .i64 0, .string ByteArray.empty, .slice none 0 0, .int .i64 0, .slice none 0 0, .int .u8 0, .int .i64 0, .string ByteArray.empty, .slice none 0 0, .int .i64 0, .slice none 0 0, .int .u8 0, .int .i64 0, .string ByteArray.empty, .slice none 0 0, .int .i64 0, .slice none 0 0, .int .u8 0, .int .i64 0, .string ByteArray.empty, .slice none 0 0, .int .i64 0, .slice none 0 0, .int .u8 0, .int .i64 0, .string ByteArray.empty, .slice none 0 0, .int .i64 0, .slice none 0 0, .int .u8 0, .int .i64 0, .string ByteArray.empty, .slice none 0 0, .int .i64 0, .slice none 0 0, .int .u8 0, .int .i64 0, .string ByteArray.empty, .slice none 0 0, .int .i64 0, .slice none 0 0], [.d (.int .i64 0), .d (.int .i64 0), .d (.int .i64 0), .d (.int .u8 0), .d (.int .i64 0), .d (.str ByteArray.empty), .nils true 6, .d (.int .i64 0), .nils false 1, .d (.int .u8 0), .d (.int .i64 0), .d (.str ByteArray.empty), .nils true 6, .d (.int .i64 0), .nils false 1, .d (.int .u8 0), .d (.int .i64 0), .d (.str ByteArray.empty), .nils true 6, .d (.int .i64 0), .nils false 1, .d (.int .u8 0), .d (.int .i64 0), .d (.str ByteArray.empty), .nils true 6, .d (.int .i64 0), .nils false 1, .d (.int .u8 0), .d (.int .i64 0), .d (.str ByteArray.empty), .nils true 6, .d (.int .i64 0), .nils false 1, .d (.int .u8 0), .d (.int .i64 0), .d (.str ByteArray.empty), .nils true 6, .d (.int .i64 0), .nils false 1, .d (.int .u8 0), .d (.int .i64 0), .d (.str ByteArray.empty), .nils true 6, .d (.int .i64 0), .nils false 1, .d (.int .u8 0), .d (.int .i64 0), .d (.str ByteArray.empty), .nils true 6, .d (.int .i64 0), .nils false 1]⟩),
  (165, ⟨.struct #[⟨"room", 3, 0, false, "", "weftway/queues", 0⟩, ⟨"first", 3, 1, false, "", "weftway/queues", 8⟩, ⟨"n", 3, 2, false, "", "weftway/queues", 16⟩, ⟨"l", 163, 3, false, "", "weftway/queues", 24⟩], 51, 728, .agg #[.int .i64 0, .int .i64 0, .int .i64 0, .int .u8 0, .int .i64 0, .string ByteArray.empty, .slice none 0 0, .int .i64 0, .slice none 0 0, .int .u8 0, .int .i64 0, .string ByteArray.empty, .slice none 0 0, .int .i64 0, .slice none 0 0, .int .u8 0, .int .i64 0, .string ByteArray.empty, .slice none 0 0, .int .i64 0, .slice none 0 0, .int .u8 0, .int .i64 0, .string ByteArray.empty, .slice none 0 0, .int .i64 0, .slice none 0 0, .int .u8 0, .int .i64 0, .string ByteArray.empty, .slice none 0 0, .int .i64 0, .slice none 0 0, .int .u8 0, .int .i64 0, .string ByteArray.empty, .slice none 0 0, .int .i64 0, .slice none 0 0, .int .u8 0, .int .i64 0, .string ByteArray.empty, .slice none 0 0, .int .i64 0, .slice none 0 0, .int .u8 0, .int .i64 0, .string ByteArray.empty, .slice none 0 0, .int .i64 0, .slice none 0 0], [.d (.int .i64 0), .d (.int .i64 0), .d (.int .i64 0), .d (.int .u8 0), .d (.int .i64 0), .d (.str ByteArray.empty), .nils true 6, .d (.int .i64 0), .nils false 1, .d (.int .u8 0), .d (.int .i64 0), .d (.str ByteArray.empty), .nils true 6, .d (.int .i64 0), .nils false 1, .d (.int .u8 0), .d (.int .i64 0), .d (.str ByteArray.empty), .nils true 6, .d (.int .i64 0), .nils false 1, .d (.int .u8 0), .d (.int .i64 0), .d (.str ByteArray.empty), .nils true 6, .d (.int .i64 0), .nils false 1, .d (.int .u8 0), .d (.int .i64 0), .d (.str ByteArray.empty), .nils true 6, .d (.int .i64 0), .nils false 1, .d (.int .u8 0), .d (.int .i64 0), .d (.str ByteArray.empty), .nils true 6, .d (.int .i64 0), .nils false 1, .d (.int .u8 0), .d (.int .i64 0), .d (.str ByteArray.empty), .nils true 6, .d (.int .i64 0), .nils false 1, .d (.int .u8 0), .d (.int .i64 0), .d (.str ByteArray.empty), .nils true 6, .d (.int .i64 0), .nils false 1]⟩),
  (166, ⟨.func #[] #[49] false, 1, 8, .nilFunc, [.nilf]⟩),
  (167, ⟨.func #[203] #[] false, 1, 8, .nilFunc, [.nilf]⟩),
  (168, ⟨.func #[203] #[] false, 1, 8, .nilFunc, [.nilf]⟩),
  (169, ⟨.func #[] #[168] false, 1, 8, .nilFunc, [.nilf]⟩),
  (170, ⟨.struct #[⟨"ID", 3, 0, false, "", "", 0⟩, ⟨"Room", 3, 1, false, "", "", 8⟩, ⟨"L", 46, 2, false, "", "", 16⟩], 3, 40, .agg #[.int .i64 0, .int .i64 0, .slice none 0 0], [.d (.int .i64 0), .d (.int .i64 0), .nils true 6]⟩),
  (171, ⟨.struct #[⟨"ID", 3, 0, false, "", "", 0⟩, ⟨"Room", 3, 1, false, "", "", 8⟩, ⟨"L", 46, 2, false, "", "", 16⟩], 3, 40, .agg #[.int .i64 0, .int .i64 0, .slice none 0 0], [.d (.int .i64 0), .d (.int .i64 0), .nils true 6]⟩),
  (172, ⟨.struct #[⟨"v", 49, 0, false, "", "weftway/heap", 0⟩, ⟨"freed", 4, 6, false, "", "weftway/heap", 88⟩], 7, 96, .agg #[.int .u8 0, .int .i64 0, .string ByteArray.empty, .slice none 0 0, .int .i64 0, .slice none 0 0, .bool false], [.d (.int .u8 0), .d (.int .i64 0), .d (.str ByteArray.empty), .nils true 6, .d (.int .i64 0), .nils false 1, .d (.bool false)]⟩),
  (173, ⟨.struct #[⟨"v", 49, 0, false, "", "weftway/heap", 0⟩, ⟨"freed", 4, 6, false, "", "weftway/heap", 88⟩], 7, 96, .agg #[.int .u8 0, .int .i64 0, .string ByteArray.empty, .slice none 0 0, .int .i64 0, .slice none 0 0, .bool false], [.d (.int .u8 0), .d (.int .i64 0), .d (.str ByteArray.empty), .nils true 6, .d (.int .i64 0), .nils false 1, .d (.bool false)]⟩),
  (174, ⟨.func #[3, 175] #[5] false, 1, 8, .nilFunc, [.nilf]⟩),
  (175, ⟨.func #[49] #[49, 5] false, 1, 8, .nilFunc, [.nilf]⟩)]
def tabC11 : List (Nat × TI) := [(177, ⟨.func #[49] #[3, 3] false, 1, 8, .nilFunc, [.nilf]⟩),
  (178, ⟨.func #[3, 47] #[49, 3] false, 1, 8, .nilFunc, [.nilf]⟩),
  (179, ⟨.func #[3, 47, 49] #[3] false, 1, 8, .nilFunc, [.nilf]⟩),
  (180, ⟨.func #[3, 47, 49] #[49, 3] false, 1, 8, .nilFunc, [.nilf]⟩),
  (181, ⟨.func #[3] #[49, 3] false, 1, 8, .nilFunc, [.nilf]⟩),
  (182, ⟨.struct #[⟨"V", 49, 0, false, "", "", 0⟩, ⟨"Freed", 4, 6, false, "", "", 88⟩], 7, 96, .agg #[.int .u8 0, .int .i64 0, .string ByteArray.empty, .slice none 0 0, .int .i64 0, .slice none 0 0, .bool false], [.d (.int .u8 0), .d (.int .i64 0), .d (.str ByteArray.empty), .nils true 6, .d (.int .i64 0), .nils false 1, .d (.bool false)]⟩),
  (183, ⟨.struct #[⟨"V", 49, 0, false, "", "", 0⟩, ⟨"Freed", 4, 6, false, "", "", 88⟩], 7, 96, .agg #[.int .u8 0, .int .i64 0, .string ByteArray.empty, .slice none 0 0, .int .i64 0, .slice none 0 0, .bool false], [.d (.int .u8 0), .d (.int .i64 0), .d (.str ByteArray.empty), .nils true 6, .d (.int .i64 0), .nils false 1, .d (.bool false)]⟩),
  (184, ⟨.func #[28] #[] false, 1, 8, .nilFunc, [.nilf]⟩),
  (185, ⟨.func #[30] #[] false, 1, 8, .nilFunc, [.nilf]⟩),
  (186, ⟨.func #[124, 124, 187] #[4] false, 1, 8, .nilFunc, [.nilf]⟩),
  (187, ⟨.func #[152, 152] #[4] false, 1, 8, .nilFunc, [.nilf]⟩),
  (188, ⟨.func #[28, 28] #[4] false, 1, 8, .nilFunc, [.nilf]⟩),
  (189, ⟨.func #[30] #[30] false, 1, 8, .nilFunc, [.nilf]⟩),
  (190, ⟨.func #[33] #[33] false, 1, 8, .nilFunc, [.nilf]⟩),
  (191, ⟨.func #[152] #[152] false, 1, 8, .nilFunc, [.nilf]⟩)]
def tabC12 : List (Nat × TI) := [(192, ⟨.func #[25, 146] #[25] false, 1, 8, .nilFunc, [.nilf]⟩),
  (193, ⟨.func #[28] #[28] false, 1, 8, .nilFunc, [.nilf]⟩),
  (194, ⟨.func #[31, 190] #[31] false, 1, 8, .nilFunc, [.nilf]⟩),
  (195, ⟨.func #[124, 191] #[124] false, 1, 8, .nilFunc, [.nilf]⟩),
  (196, ⟨.func #[154] #[154] false, 1, 8, .nilFunc, [.nilf]⟩),
  (197, ⟨.func #[150, 196] #[150] false, 1, 8, .nilFunc, [.nilf]⟩),
  (198, ⟨.func #[136] #[136] false, 1, 8, .nilFunc, [.nilf]⟩),
  (199, ⟨.func #[22, 201] #[22] false, 1, 8, .nilFunc, [.nilf]⟩),
  (200, ⟨.func #[123, 198] #[123] false, 1, 8, .nilFunc, [.nilf]⟩),
  (201, ⟨.func #[126] #[126] false, 1, 8, .nilFunc, [.nilf]⟩),
  (202, ⟨.func #[47] #[47] false, 1, 8, .nilFunc, [.nilf]⟩),
  (203, ⟨.func #[49] #[4] false, 1, 8, .nilFunc, [.nilf]⟩),
  (205, ⟨.func #[150, 150, 206] #[4] false, 1, 8, .nilFunc, [.nilf]⟩),
  (206, ⟨.func #[154, 154] #[4] false, 1, 8, .nilFunc, [.nilf]⟩),
  (207, ⟨.func #[] #[9] false, 1, 8, .nilFunc, [.nilf]⟩)]
def tabC13 : List (Nat × TI) := [(208, ⟨.struct #[⟨"_interface", 17, 0, false, "", "runtime", 0⟩, ⟨"concrete", 17, 1, false, "", "runtime", 8⟩, ⟨"asserted", 17, 2, false, "", "runtime", 16⟩, ⟨"missingMethod", 9, 3, false, "", "runtime", 24⟩], 4, 40, .agg #[.pointer none, .pointer none, .pointer none, .string ByteArray.empty], [.nilp, .nilp, .nilp, .d (.str ByteArray.empty)]⟩),
  (209, ⟨.struct #[⟨"_interface", 17, 0, false, "", "runtime", 0⟩, ⟨"concrete", 17, 1, false, "", "runtime", 8⟩, ⟨"asserted", 17, 2, false, "", "runtime", 16⟩, ⟨"missingMethod", 9, 3, false, "", "runtime", 24⟩], 4, 40, .agg #[.pointer none, .pointer none, .pointer none, .string ByteArray.empty], [.nilp, .nilp, .nilp, .d (.str ByteArray.empty)]⟩),
  (213, ⟨.int .u32, 1, 4, .int .u32 0, [.d (.int .u32 0)]⟩),
  (214, ⟨.int .u8, 1, 1, .int .u8 0, [.d (.int .u8 0)]⟩),
  (215, ⟨.int .u8, 1, 1, .int .u8 0, [.d (.int .u8 0)]⟩),
  (216, ⟨.func #[222, 222] #[4] false, 1, 8, .nilFunc, [.nilf]⟩),
  (217, ⟨.pointer 5, 1, 8, .pointer none, [.nilp]⟩),
  (218, ⟨.int .i32, 1, 4, .int .i32 0, [.d (.int .i32 0)]⟩),
  (219, ⟨.int .i32, 1, 4, .int .i32 0, [.d (.int .i32 0)]⟩),
  (220, ⟨.struct #[⟨"Size_", 12, 0, false, "", "", 0⟩, ⟨"PtrBytes", 12, 1, false, "", "", 8⟩, ⟨"Hash", 213, 2, false, "", "", 16⟩, ⟨"TFlag", 214, 3, false, "", "", 20⟩, ⟨"Align_", 5, 4, false, "", "", 21⟩, ⟨"FieldAlign_", 5, 5, false, "", "", 22⟩, ⟨"Kind_", 215, 6, false, "", "", 23⟩, ⟨"Equal", 216, 7, false, "", "", 24⟩, ⟨"GCData", 217, 8, false, "", "", 32⟩, ⟨"Str", 218, 9, false, "", "", 40⟩, ⟨"PtrToThis", 219, 10, false, "", "", 44⟩], 11, 48, .agg #[.int .u64 0, .int .u64 0, .int .u32 0, .int .u8 0, .int .u8 0, .int .u8 0, .int .u8 0, .nilFunc, .pointer none, .int .i32 0, .int .i32 0], [.d (.int .u64 0), .d (.int .u64 0), .d (.int .u32 0), .d (.int .u8 0), .d (.int .u8 0), .d (.int .u8 0), .d (.int .u8 0), .nilf, .nilp, .d (.int .i32 0), .d (.int .i32 0)]⟩),
  (221, ⟨.struct #[⟨"Size_", 12, 0, false, "", "", 0⟩, ⟨"PtrBytes", 12, 1, false, "", "", 8⟩, ⟨"Hash", 213, 2, false, "", "", 16⟩, ⟨"TFlag", 214, 3, false, "", "", 20⟩, ⟨"Align_", 5, 4, false, "", "", 21⟩, ⟨"FieldAlign_", 5, 5, false, "", "", 22⟩, ⟨"Kind_", 215, 6, false, "", "", 23⟩, ⟨"Equal", 216, 7, false, "", "", 24⟩, ⟨"GCData", 217, 8, false, "", "", 32⟩, ⟨"Str", 218, 9, false, "", "", 40⟩, ⟨"PtrToThis", 219, 10, false, "", "", 44⟩], 11, 48, .agg #[.int .u64 0, .int .u64 0, .int .u32 0, .int .u8 0, .int .u8 0, .int .u8 0, .int .u8 0, .nilFunc, .pointer none, .int .i32 0, .int .i32 0], [.d (.int .u64 0), .d (.int .u64 0), .d (.int .u32 0), .d (.int .u8 0), .d (.int .u8 0), .d (.int .u8 0), .d (.int .u8 0), .nilf, .nilp, .d (.int .i32 0), .d (.int .i32 0)]⟩)]
def tabAll : List (List (Nat × TI)) := [tabC0, tabC1, tabC2, tabC3, tabC4, tabC5, tabC6, tabC7, tabC8, tabC9, tabC10, tabC11, tabC12, tabC13]
def tab : Types := tabOf tabAll
theorem tabG0 : allGood Try.prog tabC0 := ⟨⟨by kernel_rfl, by kernel_rfl, by kernel_rfl⟩, ⟨by kernel_rfl, by kernel_rfl, by kernel_rfl⟩, ⟨by kernel_rfl, by kernel_rfl, by kernel_rfl⟩, ⟨by kernel_rfl, by kernel_rfl, by kernel_rfl⟩, ⟨by kernel_rfl, by kernel_rfl, by kernel_rfl⟩, ⟨by kernel_rfl, by kernel_rfl, by kernel_rfl⟩, ⟨by kernel_rfl, by kernel_rfl, by kernel_rfl⟩, ⟨by kernel_rfl, by kernel_rfl, by kernel_rfl⟩, ⟨by kernel_rfl, by kernel_rfl, by kernel_rfl⟩, ⟨by kernel_rfl, by kernel_rfl, by kernel_rfl⟩, ⟨by kernel_rfl, by kernel_rfl, by kernel_rfl⟩, ⟨by kernel_rfl, by kernel_rfl, by kernel_rfl⟩, ⟨by kernel_rfl, by kernel_rfl, by kernel_rfl⟩, ⟨by kernel_rfl, by kernel_rfl, by kernel_rfl⟩, ⟨by kernel_rfl, by kernel_rfl, by kernel_rfl⟩, trivial⟩
theorem tabG1 : allGood Try.prog tabC1 := ⟨⟨by kernel_rfl, by kernel_rfl, by kernel_rfl⟩, ⟨by kernel_rfl, by kernel_rfl, by kernel_rfl⟩, ⟨by kernel_rfl, by kernel_rfl, by kernel_rfl⟩, ⟨by kernel_rfl, by kernel_rfl, by kernel_rfl⟩, ⟨by kernel_rfl, by kernel_rfl, by kernel_rfl⟩, ⟨by kernel_rfl, by kernel_rfl, by kernel_rfl⟩, ⟨by kernel_rfl, by kernel_rfl, by kernel_rfl⟩, ⟨by kernel_rfl, by kernel_rfl, by kernel_rfl⟩, ⟨by kernel_rfl, by kernel_rfl, by kernel_rfl⟩, ⟨by kernel_rfl, by kernel_rfl, by kernel_rfl⟩, ⟨by kernel_rfl, by kernel_rfl, by kernel_rfl⟩, ⟨by kernel_rfl, by kernel_rfl, by kernel_rfl⟩, ⟨by kernel_rfl, by kernel_rfl, by kernel_rfl⟩, ⟨by kernel_rfl, by kernel_rfl, by kernel_rfl⟩, ⟨by kernel_rfl, by kernel_rfl, by kernel_rfl⟩, trivial⟩
theorem tabG2 : allGood Try.prog tabC2 := ⟨⟨by kernel_rfl, by kernel_rfl, by kernel_rfl⟩, ⟨by kernel_rfl, by kernel_rfl, by kernel_rfl⟩, ⟨by kernel_rfl, by kernel_rfl, by kernel_rfl⟩, ⟨by kernel_rfl, by kernel_rfl, by kernel_rfl⟩, ⟨by kernel_rfl, by kernel_rfl, by kernel_rfl⟩, ⟨by kernel_rfl, by kernel_rfl, by kernel_rfl⟩, ⟨by kernel_rfl, by kernel_rfl, by kernel_rfl⟩, ⟨by kernel_rfl, by kernel_rfl, by kernel_rfl⟩, ⟨by kernel_rfl, by kernel_rfl, by kernel_rfl⟩, ⟨by kernel_rfl, by kernel_rfl, by kernel_rfl⟩, ⟨by kernel_rfl, by kernel_rfl, by kernel_rfl⟩, ⟨by kernel_rfl, by kernel_rfl, by kernel_rfl⟩, ⟨by kernel_rfl, by kernel_rfl, by kernel_rfl⟩, ⟨by kernel_rfl, by kernel_rfl, by kernel_rfl⟩, ⟨by kernel_rfl, by kernel_rfl, by kernel_rfl⟩, ⟨by kernel_rfl, by kernel_rfl, by kernel_rfl⟩, trivial⟩
theorem tabG3 : allGood Try.prog tabC3 := ⟨⟨by kernel_rfl, by kernel_rfl, by kernel_rfl⟩, ⟨by kernel_rfl, by kernel_rfl, by kernel_rfl⟩, ⟨by kernel_rfl, by kernel_rfl, by kernel_rfl⟩, ⟨by kernel_rfl, by kernel_rfl, by kernel_rfl⟩, ⟨by kernel_rfl, by kernel_rfl, by kernel_rfl⟩, ⟨by kernel_rfl, by kernel_rfl, by kernel_rfl⟩, ⟨by kernel_rfl, by kernel_rfl, by kernel_rfl⟩, ⟨by kernel_rfl, by kernel_rfl, by kernel_rfl⟩, ⟨by kernel_rfl, by kernel_rfl, by kernel_rfl⟩, ⟨by kernel_rfl, by kernel_rfl, by kernel_rfl⟩, ⟨by kernel_rfl, by kernel_rfl, by kernel_rfl⟩, ⟨by kernel_rfl, by kernel_rfl, by kernel_rfl⟩, ⟨by kernel_rfl, by kernel_rfl, by kernel_rfl⟩, ⟨by kernel_rfl, by kernel_rfl, by kernel_rfl⟩, trivial⟩
theorem tabG4 : allGood Try.prog tabC4 := ⟨⟨by kernel_rfl, by kernel_rfl, by kernel_rfl⟩, ⟨by kernel_rfl, by kernel_rfl, by kernel_rfl⟩, ⟨by kernel_rfl, by kernel_rfl, by kernel_rfl⟩, ⟨by kernel_rfl, by kernel_rfl, by kernel_rfl⟩, ⟨by kernel_rfl, by kernel_rfl, by kernel_rfl⟩, ⟨by kernel_rfl, by kernel_rfl, by kernel_rfl⟩, ⟨by kernel_rfl, by kernel_rfl, by kernel_rfl⟩, ⟨by kernel_rfl, by kernel_rfl, by kernel_rfl⟩, ⟨by kernel_rfl, by kernel_rfl, by kernel_rfl⟩, ⟨by kernel_rfl, by kernel_rfl, by kernel_rfl⟩, ⟨by kernel_rfl, by kernel_rfl, by kernel_rfl⟩, ⟨by kernel_rfl, by kernel_rfl, by kernel_rfl⟩, ⟨by kernel_rfl, by kernel_rfl, by kernel_rfl⟩, ⟨by kernel_rfl, by kernel_rfl, by kernel_rfl⟩, ⟨by kernel_rfl, by kernel_rfl, by kernel_rfl⟩, trivial⟩
theorem tabG5 : allGood Try.prog tabC5 := ⟨⟨by kernel_rfl, by kernel_rfl, by kernel_rfl⟩, ⟨by kernel_rfl, by kernel_rfl, by kernel_rfl⟩, ⟨by kernel_rfl, by kernel_rfl, by kernel_rfl⟩, ⟨by kernel_rfl, by kernel_rfl, by kernel_rfl⟩, ⟨by kernel_rfl, by kernel_rfl, by kernel_rfl⟩, ⟨by kernel_rfl, by kernel_rfl, by kernel_rfl⟩, ⟨by kernel_rfl, by kernel_rfl, by kernel_rfl⟩, ⟨by kernel_rfl, by kernel_rfl, by kernel_rfl⟩, ⟨by kernel_rfl, by kernel_rfl, by kernel_rfl⟩, ⟨by kernel_rfl, by kernel_rfl, by kernel_rfl⟩, ⟨by kernel_rfl, by kernel_rfl, by kernel_rfl⟩, ⟨by kernel_rfl, by kernel_rfl, by kernel_rfl⟩, ⟨by kernel_rfl, by kernel_rfl, by kernel_rfl⟩, ⟨by kernel_rfl, by kernel_rfl, by kernel_rfl⟩, ⟨by kernel_rfl, by kernel_rfl, by kernel_rfl⟩, ⟨by kernel_rfl, by kernel_rfl, by kernel_rfl⟩, trivial⟩
theorem tabG6 : allGood Try.prog tabC6 := ⟨⟨by kernel_rfl, by kernel_rfl, by kernel_rfl⟩, ⟨by kernel_rfl, by kernel_rfl, by kernel_rfl⟩, ⟨by kernel_rfl, by kernel_rfl, by kernel_rfl⟩, ⟨by kernel_rfl, by kernel_rfl, by kernel_rfl⟩, ⟨by kernel_rfl, by kernel_rfl, by kernel_rfl⟩, ⟨by kernel_rfl, by kernel_rfl, by kernel_rfl⟩, ⟨by kernel_rfl, by kernel_rfl, by kernel_rfl⟩, ⟨by kernel_rfl, by kernel_rfl, by kernel_rfl⟩, ⟨by kernel_rfl, by kernel_rfl, by kernel_rfl⟩, ⟨by kernel_rfl, by kernel_rfl, by kernel_rfl⟩, ⟨by kernel_rfl, by kernel_rfl, by kernel_rfl⟩, ⟨by kernel_rfl, by kernel_rfl, by kernel_rfl⟩, ⟨by kernel_rfl, by kernel_rfl, by kernel_rfl⟩, ⟨by kernel_rfl, by kernel_rfl, by kernel_rfl⟩, ⟨by kernel_rfl, by kernel_rfl, by kernel_rfl⟩, trivial⟩
theorem tabG7 : allGood Try.prog tabC7 := ⟨⟨by kernel_rfl, by kernel_rfl, by kernel_rfl⟩, ⟨by kernel_rfl, by kernel_rfl, by kernel_rfl⟩, ⟨by kernel_rfl, by kernel_rfl, by kernel_rfl⟩, ⟨by kernel_rfl, by kernel_rfl, by kernel_rfl⟩, ⟨by kernel_rfl, by kernel_rfl, by kernel_rfl⟩, ⟨by kernel_rfl, by kernel_rfl, by kernel_rfl⟩, ⟨by kernel_rfl, by kernel_rfl, by kernel_rfl⟩, ⟨by kernel_rfl, by kernel_rfl, by kernel_rfl⟩, ⟨by kernel_rfl, by kernel_rfl, by kernel_rfl⟩, ⟨by kernel_rfl, by kernel_rfl, by kernel_rfl⟩, ⟨by kernel_rfl, by kernel_rfl, by kernel_rfl⟩, ⟨by kernel_rfl, by kernel_rfl, by kernel_rfl⟩, ⟨by kernel_rfl, by kernel_rfl, by kernel_rfl⟩, ⟨by kernel_rfl, by kernel_rfl, by kernel_rfl⟩, ⟨by kernel_rfl, by kernel_rfl, by kernel_rfl⟩, trivial⟩
theorem tabG8 : allGood Try.prog tabC8 := ⟨⟨by kernel_rfl, by kernel_rfl, by kernel_rfl⟩, ⟨by kernel_rfl, by kernel_rfl, by kernel_rfl⟩, ⟨by kernel_rfl, by kernel_rfl, by kernel_rfl⟩, ⟨by kernel_rfl, by kernel_rfl, by kernel_rfl⟩, ⟨by kernel_rfl, by kernel_rfl, by kernel_rfl⟩, ⟨by kernel_rfl, by kernel_rfl, by kernel_rfl⟩, ⟨by kernel_rfl, by kernel_rfl, by kernel_rfl⟩, ⟨by kernel_rfl, by kernel_rfl, by kernel_rfl⟩, ⟨by kernel_rfl, by kernel_rfl, by kernel_rfl⟩, ⟨by kernel_rfl, by kernel_rfl, by kernel_rfl⟩, ⟨by kernel_rfl, by kernel_rfl, by kernel_rfl⟩, ⟨by kernel_rfl, by kernel_rfl, by kernel_rfl⟩, ⟨by kernel_rfl, by kernel_rfl, by kernel_rfl⟩, ⟨by kernel_rfl, by kernel_rfl, by kernel_rfl⟩, ⟨by kernel_rfl, by kernel_rfl, by kernel_rfl⟩, ⟨by kernel_rfl, by kernel_rfl, by kernel_rfl⟩, trivial⟩
theorem tabG9 : allGood Try.prog tabC9 := ⟨⟨by kernel_rfl, by kernel_rfl, by kernel_rfl⟩, ⟨by kernel_rfl, by kernel_rfl, by kernel_rfl⟩, ⟨by kernel_rfl, by kernel_rfl, by kernel_rfl⟩, ⟨by kernel_rfl, by kernel_rfl, by kernel_rfl⟩, ⟨by kernel_rfl, by kernel_rfl, by kernel_rfl⟩, ⟨by kernel_rfl, by kernel_rfl, by kernel_rfl⟩, ⟨by kernel_rfl, by kernel_rfl, by kernel_rfl⟩, ⟨by kernel_rfl, by kernel_rfl, by kernel_rfl⟩, ⟨by kernel_rfl, by kernel_rfl, by kernel_rfl⟩, ⟨by kernel_rfl, by kernel_rfl, by kernel_rfl⟩, ⟨by kernel_rfl, by kernel_rfl, by kernel_rfl⟩, ⟨by kernel_rfl, by kernel_rfl, by kernel_rfl⟩, ⟨by kernel_rfl, by kernel_rfl, by kernel_rfl⟩, ⟨by kernel_rfl, by kernel_rfl, by kernel_rfl⟩, ⟨by kernel_rfl, by kernel_rfl, by kernel_rfl⟩, ⟨by kernel_rfl, by kernel_rfl, by kernel_rfl⟩, trivial⟩
theorem tabG10 : allGood Try.prog tabC10 := ⟨⟨by kernel_rfl, by kernel_rfl, by kernel_rfl⟩, ⟨by kernel_rfl, by kernel_rfl, by kernel_rfl⟩, ⟨by kernel_rfl, by kernel_rfl, by kernel_rfl⟩, ⟨by kernel_rfl, by kernel_rfl, by kernel_rfl⟩, ⟨by kernel_rfl, by kernel_rfl, by kernel_rfl⟩, ⟨by kernel_rfl, by kernel_rfl, by kernel_rfl⟩, ⟨by kernel_rfl, by kernel_rfl, by kernel_rfl⟩, ⟨by kernel_rfl, by kernel_rfl, by kernel_rfl⟩, ⟨by kernel_rfl, by kernel_rfl, by kernel_rfl⟩, ⟨by kernel_rfl, by kernel_rfl, by kernel_rfl⟩, ⟨by kernel_rfl, by kernel_rfl, by kernel_rfl⟩, ⟨by kernel_rfl, by kernel_rfl, by kernel_rfl⟩, ⟨by kernel_rfl, by kernel_rfl, by kernel_rfl⟩, ⟨by kernel_rfl, by kernel_rfl, by kernel_rfl⟩, ⟨by kernel_rfl, by kernel_rfl, by kernel_rfl⟩, ⟨by kernel_rfl, by kernel_rfl, by kernel_rfl⟩, trivial⟩
theorem tabG11 : allGood Try.prog tabC11 := ⟨⟨by kernel_rfl, by kernel_rfl, by kernel_rfl⟩, ⟨by kernel_rfl, by kernel_rfl, by kernel_rfl⟩, ⟨by kernel_rfl, by kernel_rfl, by kernel_rfl⟩, ⟨by kernel_rfl, by kernel_rfl, by kernel_rfl⟩, ⟨by kernel_rfl, by kernel_rfl, by kernel_rfl⟩, ⟨by kernel_rfl, by kernel_rfl, by kernel_rfl⟩, ⟨by kernel_rfl, by kernel_rfl, by kernel_rfl⟩, ⟨by kernel_rfl, by kernel_rfl, by kernel_rfl⟩, ⟨by kernel_rfl, by kernel_rfl, by kernel_rfl⟩, ⟨by kernel_rfl, by kernel_rfl, by kernel_rfl⟩, ⟨by kernel_rfl, by kernel_rfl, by kernel_rfl⟩, ⟨by kernel_rfl, by kernel_rfl, by kernel_rfl⟩, ⟨by kernel_rfl, by kernel_rfl, by kernel_rfl⟩, ⟨by kernel_rfl, by kernel_rfl, by kernel_rfl⟩, ⟨by kernel_rfl, by kernel_rfl, by kernel_rfl⟩, trivial⟩
theorem tabG12 : allGood Try.prog tabC12 := ⟨⟨by kernel_rfl, by kernel_rfl, by kernel_rfl⟩, ⟨by kernel_rfl, by kernel_rfl, by kernel_rfl⟩, ⟨by kernel_rfl, by kernel_rfl, by kernel_rfl⟩, ⟨by kernel_rfl, by kernel_rfl, by kernel_rfl⟩, ⟨by kernel_rfl, by kernel_rfl, by kernel_rfl⟩, ⟨by kernel_rfl, by kernel_rfl, by kernel_rfl⟩, ⟨by kernel_rfl, by kernel_rfl, by kernel_rfl⟩, ⟨by kernel_rfl, by kernel_rfl, by kernel_rfl⟩, ⟨by kernel_rfl, by kernel_rfl, by kernel_rfl⟩, ⟨by kernel_rfl, by kernel_rfl, by kernel_rfl⟩, ⟨by kernel_rfl, by kernel_rfl, by kernel_rfl⟩, ⟨by kernel_rfl, by kernel_rfl, by kernel_rfl⟩, ⟨by kernel_rfl, by kernel_rfl, by kernel_rfl⟩, ⟨by kernel_rfl, by kernel_rfl, by kernel_rfl⟩, ⟨by kernel_rfl, by kernel_rfl, by kernel_rfl⟩, trivial⟩
theorem tabG13 : allGood Try.prog tabC13 := ⟨⟨by kernel_rfl, by kernel_rfl, by kernel_rfl⟩, ⟨by kernel_rfl, by kernel_rfl, by kernel_rfl⟩, ⟨by kernel_rfl, by kernel_rfl, by kernel_rfl⟩, ⟨by kernel_rfl, by kernel_rfl, by kernel_rfl⟩, ⟨by kernel_rfl, by kernel_rfl, by kernel_rfl⟩, ⟨by kernel_rfl, by kernel_rfl, by kernel_rfl⟩, ⟨by kernel_rfl, by kernel_rfl, by kernel_rfl⟩, ⟨by kernel_rfl, by kernel_rfl, by kernel_rfl⟩, ⟨by kernel_rfl, by kernel_rfl, by kernel_rfl⟩, ⟨by kernel_rfl, by kernel_rfl, by kernel_rfl⟩, ⟨by kernel_rfl, by kernel_rfl, by kernel_rfl⟩, trivial⟩
theorem tab_all : allGoods Try.prog tabAll := ⟨tabG0, tabG1, tabG2, tabG3, tabG4, tabG5, tabG6, tabG7, tabG8, tabG9, tabG10, tabG11, tabG12, tabG13, trivial⟩
theorem tab_ok : TIok Try.prog tab := tabOf_ok tab_all
theorem tab_one : TIone tab := tabOf_one tab_all
end Go.Proofs.Ytiiojajgajnhpaa

set_option linter.unusedVariables false
noncomputable section
namespace Go.Proofs.Ytiiojajgajnhpaa
open Go Go.AM

theorem llen6 {l : List D} (h : l.length = 6) : ∃ x0 x1 x2 x3 x4 x5, l = [x0, x1, x2, x3, x4, x5] := by
  match l, h with
  | [x0, x1, x2, x3, x4, x5], _ => exact ⟨x0, x1, x2, x3, x4, x5, rfl⟩
theorem llen9 {l : List D} (h : l.length = 9) : ∃ x0 x1 x2 x3 x4 x5 x6 x7 x8, l = [x0, x1, x2, x3, x4, x5, x6, x7, x8] := by
  match l, h with
  | [x0, x1, x2, x3, x4, x5, x6, x7, x8], _ => exact ⟨x0, x1, x2, x3, x4, x5, x6, x7, x8, rfl⟩
theorem rs3 {x : D} (h : RowS tab 3 x) : ∃ a0, x = .int .i64 a0 ∧ (Lit.int .i64 a0).wf = true := by
  have hs := h.flat1 (y := tyD tab 3) (by kernel_rfl) rfl
  have hl := hs.flat 9 3 [3] [x] (by kernel_rfl)
  obtain ⟨a0, rfl, w0⟩ := (hl.2 0 x 3 rfl rfl).intS (x := tyD tab 3) (by kernel_rfl) rfl
  exact ⟨_, rfl, w0⟩
theorem rs49 {x : D} (h : RowS tab 49 x) : ∃ a0 a1 a2 a3 a4 a5, x = .agg [.int .u8 a0, .int .i64 a1, .str a2, .list true 6 a3, .int .i64 a4, .list false 1 a5] ∧ (Lit.int .u8 a0).wf = true ∧ (Lit.int .i64 a1).wf = true ∧ a2.size ≤ maxLen ∧ ListS tab 49 a3 ∧ (Lit.int .i64 a4).wf = true ∧ ListS tab 3 a5 := by
  obtain ⟨cs, rfl, hs⟩ := h.agg (y := tyD tab 49) (by kernel_rfl) rfl
  have hl := hs.flat 9 49 [5, 2, 9, 46, 3, 47] cs (by kernel_rfl)
  obtain ⟨b0, b1, b2, b3, b4, b5, rfl⟩ := llen6 hl.1
  obtain ⟨a0, rfl, w0⟩ := (hl.2 0 b0 5 rfl rfl).intS (x := tyD tab 5) (by kernel_rfl) rfl
  obtain ⟨a1, rfl, w1⟩ := (hl.2 1 b1 2 rfl rfl).intS (x := tyD tab 2) (by kernel_rfl) rfl
  obtain ⟨a2, rfl, w2⟩ := (hl.2 2 b2 9 rfl rfl).strS (x := tyD tab 9) (by kernel_rfl) rfl
  obtain ⟨a3, e3, w3⟩ := (hl.2 3 b3 46 rfl rfl).listS (x := tyD tab 46) (y := tyD tab 49) (by kernel_rfl) rfl (by kernel_rfl)
  obtain rfl : b3 = .list true 6 a3 := e3
  obtain ⟨a4, rfl, w4⟩ := (hl.2 4 b4 3 rfl rfl).intS (x := tyD tab 3) (by kernel_rfl) rfl
  obtain ⟨a5, e5, w5⟩ := (hl.2 5 b5 47 rfl rfl).listS (x := tyD tab 47) (y := tyD tab 3) (by kernel_rfl) rfl (by kernel_rfl)
  obtain rfl : b5 = .list false 1 a5 := e5
  exact ⟨_, _, _, _, _, _, rfl, w0, w1, w2, w3, w4, w5⟩
theorem rs90 {x : D} (h : RowS tab 90 x) : ∃ a0 a1 a2 a3 a4 a5 a6 a7 a8, x = .agg [.int .i64 a0, .int .i64 a1, .list false 1 a2, .int .u8 a3, .int .i64 a4, .str a5, .list true 6 a6, .int .i64 a7, .list false 1 a8] ∧ (Lit.int .i64 a0).wf = true ∧ (Lit.int .i64 a1).wf = true ∧ ListS tab 3 a2 ∧ (Lit.int .u8 a3).wf = true ∧ (Lit.int .i64 a4).wf = true ∧ a5.size ≤ maxLen ∧ ListS tab 49 a6 ∧ (Lit.int .i64 a7).wf = true ∧ ListS tab 3 a8 := by
  obtain ⟨cs, rfl, hs⟩ := h.agg (y := tyD tab 90) (by kernel_rfl) rfl
  have hl := hs.flat 9 90 [3, 3, 47, 5, 2, 9, 46, 3, 47] cs (by kernel_rfl)
  obtain ⟨b0, b1, b2, b3, b4, b5, b6, b7, b8, rfl⟩ := llen9 hl.1
  obtain ⟨a0, rfl, w0⟩ := (hl.2 0 b0 3 rfl rfl).intS (x := tyD tab 3) (by kernel_rfl) rfl
  obtain ⟨a1, rfl, w1⟩ := (hl.2 1 b1 3 rfl rfl).intS (x := tyD tab 3) (by kernel_rfl) rfl
  obtain ⟨a2, e2, w2⟩ := (hl.2 2 b2 47 rfl rfl).listS (x := tyD tab 47) (y := tyD tab 3) (by kernel_rfl) rfl (by kernel_rfl)
  obtain rfl : b2 = .list false 1 a2 := e2
  obtain ⟨a3, rfl, w3⟩ := (hl.2 3 b3 5 rfl rfl).intS (x := tyD tab 5) (by kernel_rfl) rfl
  obtain ⟨a4, rfl, w4⟩ := (hl.2 4 b4 2 rfl rfl).intS (x := tyD tab 2) (by kernel_rfl) rfl
  obtain ⟨a5, rfl, w5⟩ := (hl.2 5 b5 9 rfl rfl).strS (x := tyD tab 9) (by kernel_rfl) rfl
  obtain ⟨a6, e6, w6⟩ := (hl.2 6 b6 46 rfl rfl).listS (x := tyD tab 46) (y := tyD tab 49) (by kernel_rfl) rfl (by kernel_rfl)
  obtain rfl : b6 = .list true 6 a6 := e6
  obtain ⟨a7, rfl, w7⟩ := (hl.2 7 b7 3 rfl rfl).intS (x := tyD tab 3) (by kernel_rfl) rfl
  obtain ⟨a8, e8, w8⟩ := (hl.2 8 b8 47 rfl rfl).listS (x := tyD tab 47) (y := tyD tab 3) (by kernel_rfl) rfl (by kernel_rfl)
  obtain rfl : b8 = .list false 1 a8 := e8
  exact ⟨_, _, _, _, _, _, _, _, _, rfl, w0, w1, w2, w3, w4, w5, w6, w7, w8⟩
theorem rs92 {x : D} (h : RowS tab 92 x) : ∃ a0, x = .list true 9 a0 ∧ ListS tab 90 a0 := by
  have hs := h.flat1 (y := tyD tab 92) (by kernel_rfl) rfl
  have hl := hs.flat 9 92 [92] [x] (by kernel_rfl)
  obtain ⟨a0, e0, w0⟩ := (hl.2 0 x 92 rfl rfl).listS (x := tyD tab 92) (y := tyD tab 90) (by kernel_rfl) rfl (by kernel_rfl)
  obtain rfl : x = .list true 9 a0 := e0
  exact ⟨_, rfl, w0⟩
end Go.Proofs.Ytiiojajgajnhpaa
end

set_option linter.unusedVariables false
noncomputable section
namespace Go.Proofs.Ytiiojajgajnhpaa
open Go Go.AM
theorem sm9 {a0 : ByteArray} (w0 : a0.size ≤ maxLen) : Shape tab 9 [.str a0] := .str (x := tyD tab 9) a0 (by kernel_rfl) (by kernel_rfl) w0
theorem sm3 {a0 : Int} (w0 : (Lit.int .i64 a0).wf = true) : Shape tab 3 [.int .i64 a0] := .int (x := tyD tab 3) a0 (by kernel_rfl) (by kernel_rfl) w0
theorem mk3 {a0 : Int} (w0 : (Lit.int .i64 a0).wf = true) : RowS tab 3 (.int .i64 a0) := ⟨sm3 w0, fun y hy => by rw [show tab 3 = some (tyD tab 3) by kernel_rfl] at hy; cases hy; kernel_rfl⟩
theorem sm5 {a0 : Int} (w0 : (Lit.int .u8 a0).wf = true) : Shape tab 5 [.int .u8 a0] := .int (x := tyD tab 5) a0 (by kernel_rfl) (by kernel_rfl) w0
theorem sm2 {a0 : Int} (w0 : (Lit.int .i64 a0).wf = true) : Shape tab 2 [.int .i64 a0] := .int (x := tyD tab 2) a0 (by kernel_rfl) (by kernel_rfl) w0
theorem sm46 {a0 : List D} (w0 : ListS tab 49 a0) : Shape tab 46 [.list true 6 a0] := by
  have e : D.list (rowD (tyD tab 49).desc) (tyD tab 49).size a0 = .list true 6 a0 := by kernel_rfl
  rw [← e]
  exact w0.shape tab_one (x := tyD tab 46) (y := tyD tab 49) (by kernel_rfl) (by kernel_rfl) (by kernel_rfl)
theorem sm47 {a0 : List D} (w0 : ListS tab 3 a0) : Shape tab 47 [.list false 1 a0] := by
  have e : D.list (rowD (tyD tab 3).desc) (tyD tab 3).size a0 = .list false 1 a0 := by kernel_rfl
  rw [← e]
  exact w0.shape tab_one (x := tyD tab 47) (y := tyD tab 3) (by kernel_rfl) (by kernel_rfl) (by kernel_rfl)
theorem sm49 {a0 : Int} {a1 : Int} {a2 : ByteArray} {a3 : List D} {a4 : Int} {a5 : List D} (w0 : (Lit.int .u8 a0).wf = true) (w1 : (Lit.int .i64 a1).wf = true) (w2 : a2.size ≤ maxLen) (w3 : ListS tab 49 a3) (w4 : (Lit.int .i64 a4).wf = true) (w5 : ListS tab 3 a5) : Shape tab 49 [.int .u8 a0, .int .i64 a1, .str a2, .list true 6 a3, .int .i64 a4, .list false 1 a5] := by
  have tt : tab 49 = some (tyD tab 49) := by kernel_rfl
  obtain ⟨fs, hfs, hall⟩ : ∃ fs, (tyD tab 49).desc = .struct fs ∧ (fs.toList.all fun f => [(5, 0), (2, 1), (9, 2), (46, 3), (3, 4), (47, 5)].contains (f.type, f.offset)) = true := ⟨(match (tyD tab 49).desc with | .struct fs => fs | _ => #[]), by kernel_rfl, by kernel_rfl⟩
  refine .struct (x := tyD tab 49) (fs := fs) _ tt hfs (by kernel_rfl) (by simp [D.isAgg]) (fun f hf y hy => ?_)
  have hq := List.all_eq_true.1 hall f hf
  simp only [List.contains_cons, List.contains_nil, Bool.or_false, Bool.or_eq_true, beq_iff_eq, Prod.mk.injEq] at hq
  rcases hq with ⟨e1, e2⟩ | ⟨e1, e2⟩ | ⟨e1, e2⟩ | ⟨e1, e2⟩ | ⟨e1, e2⟩ | ⟨e1, e2⟩
  · rw [e1, show tab 5 = some (tyD tab 5) by kernel_rfl] at hy; cases hy; rw [e1, e2, show (tyD tab 5).size = 1 by kernel_rfl]; exact sm5 w0
  · rw [e1, show tab 2 = some (tyD tab 2) by kernel_rfl] at hy; cases hy; rw [e1, e2, show (tyD tab 2).size = 1 by kernel_rfl]; exact sm2 w1
  · rw [e1, show tab 9 = some (tyD tab 9) by kernel_rfl] at hy; cases hy; rw [e1, e2, show (tyD tab 9).size = 1 by kernel_rfl]; exact sm9 w2
  · rw [e1, show tab 46 = some (tyD tab 46) by kernel_rfl] at hy; cases hy; rw [e1, e2, show (tyD tab 46).size = 1 by kernel_rfl]; exact sm46 w3
  · rw [e1, show tab 3 = some (tyD tab 3) by kernel_rfl] at hy; cases hy; rw [e1, e2, show (tyD tab 3).size = 1 by kernel_rfl]; exact sm3 w4
  · rw [e1, show tab 47 = some (tyD tab 47) by kernel_rfl] at hy; cases hy; rw [e1, e2, show (tyD tab 47).size = 1 by kernel_rfl]; exact sm47 w5
theorem mk49 {a0 : Int} {a1 : Int} {a2 : ByteArray} {a3 : List D} {a4 : Int} {a5 : List D} (w0 : (Lit.int .u8 a0).wf = true) (w1 : (Lit.int .i64 a1).wf = true) (w2 : a2.size ≤ maxLen) (w3 : ListS tab 49 a3) (w4 : (Lit.int .i64 a4).wf = true) (w5 : ListS tab 3 a5) : RowS tab 49 (.agg [.int .u8 a0, .int .i64 a1, .str a2, .list true 6 a3, .int .i64 a4, .list false 1 a5]) := ⟨sm49 w0 w1 w2 w3 w4 w5, fun y hy => by rw [show tab 49 = some (tyD tab 49) by kernel_rfl] at hy; cases hy; kernel_rfl⟩
theorem sm90 {a0 : Int} {a1 : Int} {a2 : List D} {a3 : Int} {a4 : Int} {a5 : ByteArray} {a6 : List D} {a7 : Int} {a8 : List D} (w0 : (Lit.int .i64 a0).wf = true) (w1 : (Lit.int .i64 a1).wf = true) (w2 : ListS tab 3 a2) (w3 : (Lit.int .u8 a3).wf = true) (w4 : (Lit.int .i64 a4).wf = true) (w5 : a5.size ≤ maxLen) (w6 : ListS tab 49 a6) (w7 : (Lit.int .i64 a7).wf = true) (w8 : ListS tab 3 a8) : Shape tab 90 [.int .i64 a0, .int .i64 a1, .list false 1 a2, .int .u8 a3, .int .i64 a4, .str a5, .list true 6 a6, .int .i64 a7, .list false 1 a8] := by
  have tt : tab 90 = some (tyD tab 90) := by kernel_rfl
  obtain ⟨fs, hfs, hall⟩ : ∃ fs, (tyD tab 90).desc = .struct fs ∧ (fs.toList.all fun f => [(3, 0), (3, 1), (47, 2), (49, 3)].contains (f.type, f.offset)) = true := ⟨(match (tyD tab 90).desc with | .struct fs => fs | _ => #[]), by kernel_rfl, by kernel_rfl⟩
  refine .struct (x := tyD tab 90) (fs := fs) _ tt hfs (by kernel_rfl) (by simp [D.isAgg]) (fun f hf y hy => ?_)
  have hq := List.all_eq_true.1 hall f hf
  simp only [List.contains_cons, List.contains_nil, Bool.or_false, Bool.or_eq_true, beq_iff_eq, Prod.mk.injEq] at hq
  rcases hq with ⟨e1, e2⟩ | ⟨e1, e2⟩ | ⟨e1, e2⟩ | ⟨e1, e2⟩
  · rw [e1, show tab 3 = some (tyD tab 3) by kernel_rfl] at hy; cases hy; rw [e1, e2, show (tyD tab 3).size = 1 by kernel_rfl]; exact sm3 w0
  · rw [e1, show tab 3 = some (tyD tab 3) by kernel_rfl] at hy; cases hy; rw [e1, e2, show (tyD tab 3).size = 1 by kernel_rfl]; exact sm3 w1
  · rw [e1, show tab 47 = some (tyD tab 47) by kernel_rfl] at hy; cases hy; rw [e1, e2, show (tyD tab 47).size = 1 by kernel_rfl]; exact sm47 w2
  · rw [e1, show tab 49 = some (tyD tab 49) by kernel_rfl] at hy; cases hy; rw [e1, e2, show (tyD tab 49).size = 6 by kernel_rfl]; exact sm49 w3 w4 w5 w6 w7 w8
theorem mk90 {a0 : Int} {a1 : Int} {a2 : List D} {a3 : Int} {a4 : Int} {a5 : ByteArray} {a6 : List D} {a7 : Int} {a8 : List D} (w0 : (Lit.int .i64 a0).wf = true) (w1 : (Lit.int .i64 a1).wf = true) (w2 : ListS tab 3 a2) (w3 : (Lit.int .u8 a3).wf = true) (w4 : (Lit.int .i64 a4).wf = true) (w5 : a5.size ≤ maxLen) (w6 : ListS tab 49 a6) (w7 : (Lit.int .i64 a7).wf = true) (w8 : ListS tab 3 a8) : RowS tab 90 (.agg [.int .i64 a0, .int .i64 a1, .list false 1 a2, .int .u8 a3, .int .i64 a4, .str a5, .list true 6 a6, .int .i64 a7, .list false 1 a8]) := ⟨sm90 w0 w1 w2 w3 w4 w5 w6 w7 w8, fun y hy => by rw [show tab 90 = some (tyD tab 90) by kernel_rfl] at hy; cases hy; kernel_rfl⟩
end Go.Proofs.Ytiiojajgajnhpaa
end

namespace Go.AM
open Go Go.RowKit

def cvP (p : Id → Bool) : CV → Bool
  | .ptr i _ => p i
  | .fn _ cap => allB p cap
  | .lst i _ _ _ => p i
  | .sl i _ => p i
  | .map i => p i
  | .ap i _ _ _ _ => p i
  | .ow i => p i
  | .op i _ _ _ => p i
  | .yl i => p i
  | _ => true
def v1P (p : Id → Bool) : V1 → Bool
  | .d _ => true
  | .c x => cvP p x
  | .agg cs => allB (cvP p) cs
def avP (p : Id → Bool) : AV → Bool
  | .u => true
  | .v x => v1P p x
  | .t xs => allB (v1P p) xs
def objP (p : Id → Bool) : AObj → Bool
  | .cells cs => allB (cvP p) cs
  | .tok .. => true
  | .map _ _ es => allB (fun e => v1P p e.2) es
  | .arr cs1 _ _ _ cs2 => match allB (cvP p) cs1 with
    | true => allB (cvP p) cs2
    | false => false
  | .tree _ _ _ _ foc => match foc with
    | some x => allB (cvP p) x.2
    | none => true
  | .gone => true
  | .rnd _ sl => allB (fun x => avP p x.2) sl
  | .rndX _ => true

section
variable {p : Id → Bool} {f e : Id → Id} (hp : ∀ i, p i = true → f (e i) = i)
include hp
theorem ren_cv {c : CV} (h : cvP p c = true) : (c.ren e).ren f = c := by
  cases c <;> simp only [CV.ren, cvP] at h ⊢
  · rw [hp _ h]
  · rw [List.map_map]
    congr 1
    rw [allB_iff] at h
    exact map_same fun i hi => hp _ (h i hi)
  · rw [hp _ h]
  · rw [hp _ h]
  · rw [hp _ h]
  · rw [hp _ h]
  · rw [hp _ h]
  · rw [hp _ h]
  · rw [hp _ h]
theorem ren_cvs {cs : List CV} (h : allB (cvP p) cs = true) : (cs.map (CV.ren e)).map (CV.ren f) = cs := by
  rw [List.map_map]
  rw [allB_iff] at h
  exact map_same fun i hi => ren_cv hp (h i hi)
theorem ren_v1 {c : V1} (h : v1P p c = true) : (c.ren e).ren f = c := by
  cases c <;> simp only [V1.ren, v1P] at h ⊢
  · rw [ren_cv hp h]
  · rw [ren_cvs hp h]
theorem ren_av {c : AV} (h : avP p c = true) : (c.ren e).ren f = c := by
  cases c <;> simp only [AV.ren, avP] at h ⊢
  · rw [ren_v1 hp h]
  · rw [List.map_map]
    congr 1
    rw [allB_iff] at h
    exact map_same fun i hi => ren_v1 hp (h i hi)
theorem ren_obj {c : AObj} (h : objP p c = true) : (c.ren e).ren f = c := by
  cases c <;> simp only [AObj.ren, objP] at h ⊢
  · rw [ren_cvs hp h]
  · rw [List.map_map]
    congr 1
    rw [allB_iff] at h
    refine map_same fun i hi => ?_
    show (i.1, (i.2.ren e).ren f) = i
    rw [ren_v1 hp (h i hi)]
  · split at h
    · rename_i h1
      rw [ren_cvs hp h, ren_cvs hp h1]
    · cases h
  · congr 1
    split at h
    · show some (_, List.map (CV.ren f) (List.map (CV.ren e) _)) = _
      rw [ren_cvs hp h]
    · rfl
  · rw [List.map_map]
    congr 1
    rw [allB_iff] at h
    refine map_same fun i hi => ?_
    show (i.1, (i.2.ren e).ren f) = i
    rw [ren_av hp (h i hi)]
end

theorem weak_ren {σ σ' : St} (r : Id → Id) (hext : ∀ j, r (.ext j) = .ext j) (hbig : ∀ n, σ'.next ≤ n → ∃ N, σ.next ≤ N ∧ r (.loc n) = .loc N)
    (hs : ∀ t, getS σ'.slots t = .u ∨ getS σ.slots t = (getS σ'.slots t).ren r) (hh : ∀ i o, getH σ'.heap i = some o → getH σ.heap (r i) = some (o.ren r))
    (hinj : ∀ i j o o', getH σ'.heap i = some o → getH σ'.heap j = some o' → r i = r j → i = j) (hlow : ∀ n, σ'.next ≤ n → getH σ'.heap (.loc n) = none) : Weak σ σ' := by
  rintro C a w ⟨g, R⟩
  let g' : Ghost := fun i => g (r i)
  have hz : ∀ b o, zone g' (getH σ'.heap) b o → zone g (getH σ.heap) b o := by
    rintro b o ⟨i, ob, hi, h1⟩
    exact ⟨r i, _, hh i ob hi, zone1_ren.2 h1⟩
  have hzz : ∀ b o, zor (zone g' (getH σ'.heap)) C.X b o → zor (zone g (getH σ.heap)) C.X b o := fun b o hx => hx.imp (hz b o) id
  have ht : ∀ i n sz e, getH σ'.heap i = some (.tok n sz e) → getH σ.heap (r i) = some (.tok n sz e) := fun i n sz e hi => hh i _ hi
  have hw : ∀ i, isLive (getH σ'.heap i) = true → isLive (getH σ.heap (r i)) = true := by
    intro i hi
    cases hc : getH σ'.heap i with
    | none => rw [hc] at hi; cases hi
    | some o =>
      rw [hh i o hc]
      rw [hc] at hi
      exact isLive_ren.trans hi
  refine ⟨g', R.size, R.defers, fun t => ?_, ⟨fun i o hi => RelObj.pull (r := r) (g' := g') hzz (fun _ => rfl) ht hw (R.heap.objs _ _ (hh i o hi)), fun i j oi oj b hi hj bi bj => ?_, fun i oi b o hi bi => R.heap.apart _ _ b o (hh i oi hi) (Obk_ren.2 bi)⟩, R.frame, fun j => ?_,
    fun j ob b o hj hz' => R.within _ _ b o (hh j ob hj) (zone1_ren.2 hz'), R.xs, fun n hn => ⟨?_, hlow n hn⟩⟩
  · rcases hs t with e | e
    · rw [e]; trivial
    · have := R.slots t
      rw [e] at this
      exact RelAV.pull (r := r) hzz (fun _ => rfl) ht hw this
  · exact hinj i j oi oj hi hj (R.heap.sep _ _ _ _ b (hh i oi hi) (hh j oj hj) (Obk_ren.2 bi) (Obk_ren.2 bj))
  · show gsame (C.g0 (.ext j)) (g (r (.ext j)))
    rw [hext]
    exact R.ext j
  · obtain ⟨N, hN, e⟩ := hbig n hn
    show g (r (.loc n)) = undef
    rw [e]
    exact (R.free N hN).1

def fstOf : List (Nat × Nat) → Nat → Option Nat
  | [], _ => none
  | (a, b) :: l, k => match Nat.beq a k with
    | true => some b
    | false => fstOf l k
def sndOf : List (Nat × Nat) → Nat → Option Nat
  | [], _ => none
  | (a, b) :: l, k => match Nat.beq b k with
    | true => some a
    | false => sndOf l k
def invF (l : List (Nat × Nat)) : Id → Id
  | .ext j => .ext j
  | .loc k => match fstOf l k with
    | some m => .loc m
    | none => .loc k
def backF (l : List (Nat × Nat)) : Id → Id
  | .ext j => .ext j
  | .loc k => match sndOf l k with
    | some m => .loc m
    | none => .loc k
def okId (l : List (Nat × Nat)) (n : Nat) (i : Id) : Bool :=
  match Id.beq (backF l (invF l i)) i with
  | true => idB n (invF l i)
  | false => false
def renS (l : List (Nat × Nat)) : List (Nat × AV) → List (Nat × AV)
  | [] => []
  | (t, x) :: r => (t, x.ren (invF l)) :: renS l r
def renH (l : List (Nat × Nat)) : List (Id × AObj) → List (Id × AObj)
  | [] => []
  | (i, x) :: r => (invF l i, x.ren (invF l)) :: renH l r
def keepR (ks : List Nat) (is : List Id) (n : Nat) (l : List (Nat × Nat)) (σ : St) (K : St → Prop) : Prop :=
  match keepH σ.heap is with
  | none => False
  | some hp => req (allB (fun x : Nat × AV => avP (okId l n) x.2) (keepS σ.slots ks)) <| req (allB (fun x : Id × AObj => match okId l n x.1 with | true => objP (okId l n) x.2 | false => false) hp) <|
      K ⟨renS l (keepS σ.slots ks), renH l hp, n⟩

theorem renS_get {l : List (Nat × Nat)} {s : List (Nat × AV)} (t : Nat) : getS (renS l s) t = (getS s t).ren (invF l) := by
  induction s with
  | nil => rfl
  | cons x s ih =>
    obtain ⟨k, v⟩ := x
    show getS ((k, v.ren (invF l)) :: renS l s) t = _
    rw [getS_cons, getS_cons]
    simp only []
    split
    · rfl
    · exact ih
theorem renH_get {l : List (Nat × Nat)} {p : Id → Bool} {f : Id → Id} (hp : ∀ i, p i = true → f (invF l i) = i) : ∀ {s : List (Id × AObj)}, (∀ x ∈ s, p x.1 = true) → ∀ {i : Id} {o : AObj}, getH (renH l s) i = some o → p (f i) = true ∧ invF l (f i) = i ∧ ∃ o', getH s (f i) = some o' ∧ o = o'.ren (invF l)
  | [], _, i, o, h => by simp [renH, getH] at h
  | (k, v) :: s, hs, i, o, h => by
    have hk := hs (k, v) (by simp)
    rw [show renH l ((k, v) :: s) = (invF l k, v.ren (invF l)) :: renH l s from rfl, getH_cons] at h
    simp only [updO] at h
    by_cases e : i = invF l k
    · rw [if_pos e] at h
      simp at h
      have hf : f i = k := by rw [e]; exact hp k hk
      rw [hf]
      exact ⟨hk, e.symm, v, by rw [getH_cons]; simp [updO], h.symm⟩
    · rw [if_neg e] at h
      obtain ⟨h1, h2, o', h3, h4⟩ := renH_get hp (fun x hx => hs x (List.mem_cons_of_mem _ hx)) h
      refine ⟨h1, h2, o', ?_, h4⟩
      rw [getH_cons]
      simp only [updO]
      rw [if_neg]
      · exact h3
      · rintro rfl
        exact e h2.symm
theorem getH_all {q : Id × AObj → Bool} {l : List (Id × AObj)} (h : allB q l = true) {i : Id} {o : AObj} (hi : getH l i = some o) : q (i, o) = true := by
  induction l with
  | nil => simp [getH] at hi
  | cons x l ih =>
    obtain ⟨k, v⟩ := x
    rw [allB_iff] at h
    rw [getH_cons] at hi
    simp only [updO] at hi
    split at hi
    · rename_i e
      cases hi
      rw [e]
      exact h _ (List.mem_cons_self ..)
    · exact ih (allB_iff.2 fun x hx => h x (by simp [hx])) hi

theorem keepR_weak {ks : List Nat} {is : List Id} {n : Nat} {l : List (Nat × Nat)} {σ : St} {K : St → Prop} (h : keepR ks is n l σ K) : ∃ σ', Weak σ σ' ∧ K σ' := by
  unfold keepR at h
  split at h
  · exact h.elim
  · rename_i hp hhp
    obtain ⟨h1, h⟩ := req_iff.1 h
    obtain ⟨h2, h⟩ := req_iff.1 h
    let N := max σ.next n
    let f : Id → Id := fun i => if idB n i = true then backF l i else .loc N
    have hpf : ∀ i, okId l n i = true → f (invF l i) = i := by
      intro i hi
      unfold okId at hi
      split at hi
      · rename_i hb
        show (if idB n (invF l i) = true then _ else _) = i
        rw [if_pos hi]
        exact Id.beq_iff.1 hb
      · cases hi
    have hk2 : ∀ x ∈ hp, okId l n x.1 = true ∧ objP (okId l n) x.2 = true := by
      intro x hx
      have := allB_iff.1 h2 x hx
      split at this
      · rename_i hb; exact ⟨hb, this⟩
      · cases this
    have hnew : ∀ i o, getH (renH l hp) i = some o → okId l n (f i) = true ∧ invF l (f i) = i ∧ ∃ o', getH hp (f i) = some o' ∧ o = o'.ren (invF l) := fun i o hi => renH_get hpf (fun x hx => (hk2 x hx).1) hi
    refine ⟨_, weak_ren f (fun j => by show (if idB n (.ext j) = true then _ else _) = _; simp [idB, backF]) (fun m hm => ⟨N, Nat.le_max_left _ _, ?_⟩) (fun t => ?_) (fun i o hi => ?_) (fun i j o o' hi hj e => ?_) (fun m hm => ?_), h⟩
    · have hm : n ≤ m := hm
      have : idB n (.loc m) = false := by
        cases hb : idB n (.loc m) with
        | false => rfl
        | true => simp [idB] at hb; omega
      show (if idB n (.loc m) = true then _ else _) = _
      rw [this]; rfl
    · rw [renS_get]
      rcases keepS_get (l := σ.slots) (ks := ks) t with e | e
      · rw [e]; exact .inl rfl
      · right
        rw [← e]
        exact (ren_av hpf (getS_all (p := avP (okId l n)) rfl h1 t)).symm
    · obtain ⟨p1, p2, o', p3, rfl⟩ := hnew i o hi
      have hq := getH_all (q := fun x => objP (okId l n) x.2) (allB_iff.2 fun x hx => (hk2 x hx).2) p3
      rw [ren_obj hpf hq]
      exact (keepH_get hhp _ _ p3).1
    · obtain ⟨_, p2, _⟩ := hnew i o hi
      obtain ⟨_, q2, _⟩ := hnew j o' hj
      rw [← p2, ← q2, e]
    · cases hc : getH (renH l hp) (.loc m) with
      | none => rfl
      | some o =>
        obtain ⟨p1, p2, _⟩ := hnew _ o hc
        have hm : n ≤ m := hm
        unfold okId at p1
        split at p1
        · rw [p2] at p1
          simp [idB] at p1
          omega
        · cases p1
end Go.AM

namespace Go.AM
open Go Go.RowKit

theorem loop_invG {M : Mach} {ex : St → (AExit → St → Prop) → Prop} {σ : St} {K : AExit → St → Prop} (gs : List Gh) (l : List (Nat × Nat)) (ks : List Nat) (is : List Id) (nx : Nat) {T : Type} (S : T → St) (I : T → Prop) (m : T → Nat) (t0 : T)
    (hI : I t0) (h0 : gh gs σ fun σ => keepR ks is nx l σ (· = S t0))
    (hr : ∀ t, I t → ex (S t) fun e σ2 => match e with
      | .normal => ∃ n' σ3, n' < m t ∧ Weak σ2 σ3 ∧ ∃ t', I t' ∧ n' = m t' ∧ σ3 = S t'
      | .exit id => K (.exit id) σ2
      | .ret => K .ret σ2) : M.lock fun _ => loopP ex σ K ∨ ∃ n, unrollP ex K n σ := by
  refine (M.lock_iff _).2 <| .inl ⟨fun n σ => ∃ t, I t ∧ n = m t ∧ σ = S t, m t0, ?_, ?_⟩
  · obtain ⟨σ1, hw1, h1⟩ := gh_weak h0
    obtain ⟨σ', hw, e⟩ := keepR_weak h1
    exact ⟨σ', Weak.trans hw1 hw, t0, hI, rfl, e⟩
  · rintro n σ1 ⟨t, h1, rfl, rfl⟩
    exact hr t h1
theorem loop_nextG {T : Type} {m : T → Nat} {I : T → Prop} {S : T → St} {σ2 : St} {k : Nat} (t' : T) (gs : List Gh) (l : List (Nat × Nat)) (ks : List Nat) (is : List Id) (nx : Nat) (hI : I t') (hm : m t' < k)
    (hk : gh gs σ2 fun σ => keepR ks is nx l σ (· = S t')) : ∃ n' σ3, n' < k ∧ Weak σ2 σ3 ∧ ∃ t', I t' ∧ n' = m t' ∧ σ3 = S t' := by
  obtain ⟨σ1, hw1, h1⟩ := gh_weak hk
  obtain ⟨σ', hw, e⟩ := keepR_weak h1
  exact ⟨m t', σ', hm, Weak.trans hw1 hw, t', hI, rfl, e⟩

section
variable {w : World} {Z Z' X : Zone} {g g' : Ghost} {h h' : Heap}

end

end Go.AM

namespace Go.AM
open Go Go.RowKit

section
variable {α β γ : Type}
def bS (x : Option (α ⊕ β)) (k1 : α → Option γ) (k2 : β → Option γ) : Option γ :=
  match x with
  | some (.inl a) => k1 a
  | some (.inr b) => k2 b
  | none => none
theorem bS_inv {x : Option (α ⊕ β)} {k1 : α → Option γ} {k2 : β → Option γ} {r : γ} (h : bS x k1 k2 = some r) : (∃ a, x = some (.inl a) ∧ k1 a = some r) ∨ ∃ b, x = some (.inr b) ∧ k2 b = some r := by
  unfold bS at h
  split at h
  · exact .inl ⟨_, rfl, h⟩
  · exact .inr ⟨_, rfl, h⟩
  · cases h
end

section
variable {γ : Type}
def letB (b : Bool) (k : Bool → Option γ) : Option γ := k b
theorem letB_inv {b : Bool} {k : Bool → Option γ} {r : γ} (h : letB b k = some r) : ∃ y, b = y ∧ k y = some r := ⟨b, rfl, h⟩
def findF (e : Bool) (key : D) (rows : List D) (k1 : D → Option γ) (k0 : Option γ) : Option γ :=
  match findR e key rows with
  | some (some y) => k1 y
  | some none => k0
  | none => none
theorem findF_inv {e : Bool} {key : D} {rows : List D} {k1 : D → Option γ} {k0 : Option γ} {r : γ} (h : findF e key rows k1 k0 = some r) : (∃ y, findR e key rows = some (some y) ∧ k1 y = some r) ∨ (findR e key rows = some none ∧ k0 = some r) := by
  unfold findF at h
  split at h
  · rename_i y hy
    exact .inl ⟨y, hy, h⟩
  · rename_i hy
    exact .inr ⟨hy, h⟩
  · cases h
def putF (key : D) (ws rows : List D) (k : List D → Option γ) : Option γ :=
  match putR key ws rows with
  | some r => k r
  | none => none
theorem putF_inv {key : D} {ws rows : List D} {k : List D → Option γ} {r : γ} (h : putF key ws rows k = some r) : ∃ out, putR key ws rows = some out ∧ k out = some r := by
  unfold putF at h
  split at h
  · rename_i out ho
    exact ⟨out, ho, h⟩
  · cases h
end
theorem eqv_eq {a b q : Bool} (h : (a == b) = q) : eqvB a b = q := (eqvB_eq a b).trans h
theorem not_eq' {a q : Bool} (h : (!a) = q) : notB a = q := by rw [notB_eq]; exact h

theorem seq_go {M : Mach} {ea eb : St → (AExit → St → Prop) → Prop} {σ : St} {K : AExit → St → Prop} (h : ea σ fun e σ' => match e with
    | .normal => eb σ' K
    | .exit id => K (.exit id) σ'
    | .ret => K .ret σ') : M.lock fun _ => seqP ea eb σ K := (M.lock_iff _).2 (.inl h)
theorem seq_join {M : Mach} {ea eb : St → (AExit → St → Prop) → Prop} {σ : St} {K : AExit → St → Prop} {T : Type} (S : T → St) (I : T → Prop)
    (ha : ea σ fun e σ' => match e with
      | .normal => ∃ σ'', Weak σ' σ'' ∧ ∃ t, I t ∧ σ'' = S t
      | .exit id => K (.exit id) σ'
      | .ret => K .ret σ') (hb : ∀ t, I t → eb (S t) K) : M.lock fun _ => seqP ea eb σ K := by
  refine (M.lock_iff _).2 (.inr ⟨fun σ => ∃ t, I t ∧ σ = S t, ha, ?_⟩)
  rintro σ2 ⟨t, hi, rfl⟩
  exact hb t hi
theorem join_nextG {T : Type} {I : T → Prop} {S : T → St} {σ2 : St} (t' : T) (gs : List Gh) (l : List (Nat × Nat)) (ks : List Nat) (is : List Id) (nx : Nat) (hI : I t') (hk : gh gs σ2 fun σ => keepR ks is nx l σ (· = S t')) :
    ∃ σ'', Weak σ2 σ'' ∧ ∃ t, I t ∧ σ'' = S t := by
  obtain ⟨σ1, hw1, h1⟩ := gh_weak hk
  obtain ⟨σ', hw, e⟩ := keepR_weak h1
  exact ⟨σ', Weak.trans hw1 hw, t', hI, e⟩
theorem join_next {T : Type} {I : T → Prop} {S : T → St} {σ2 : St} (t' : T) (ks : List Nat) (is : List Id) (nx : Nat) (hI : I t') (hk : keep ks is nx σ2 (· = S t')) :
    ∃ σ'', Weak σ2 σ'' ∧ ∃ t, I t ∧ σ'' = S t := by
  obtain ⟨σ', hw, e⟩ := keep_weak hk
  exact ⟨σ', hw, t', hI, e⟩

section
variable {M : Mach} {P : Program} {I : Inv}

theorem finQ_go {Q : AV → List AObj → List AObj → Prop} {ti : Types} {rs : List ResultVar} {σ : St} {res : AV} {post new : List AObj} (hQ : Q res post new)
    (h : withRes ti σ rs fun xs => ∃ nm : List Id, nodupB nm = true ∧ mkRes xs = res.ren (renN nm σ.next) ∧ postOK (getH σ.heap) (renN nm σ.next) post 0 ∧ newOK (getH σ.heap) (renN nm σ.next) new nm ∧ handOK post nm) :
    ∃ r p n, Q r p n ∧ Fin' ti rs σ r p n := ⟨_, _, _, hQ, [], h⟩

theorem op_pl {ti : Types} {o : Oper} {fresh : Nat} {σ : St} {K : St → Prop} (hk : plOp M ti o fresh σ K) : M.lock fun _ => plOp M ti o fresh σ K ∨ ghOp M ti o fresh σ K := (M.lock_iff _).2 (.inl hk)
end
end Go.AM

namespace Go.Proofs.Ytiiojajgajnhpaa
open Go Go.AM
theorem fol : Try.prog.follows .mixedOrders = true := by kernel_rfl
def inv : Inv := Inv.none
end Go.Proofs.Ytiiojajgajnhpaa

set_option linter.unusedVariables false
noncomputable section
namespace Go.Proofs.Ytiiojajgajnhpaa
open Go Go.AM
def ds_t49 {γ : Type} (x : D) (k : Int → Int → ByteArray → List D → Int → List D → Option γ) : Option γ := match x with | .agg [.int .u8 a0, .int .i64 a1, .str a2, .list true 6 a3, .int .i64 a4, .list false 1 a5] => k a0 a1 a2 a3 a4 a5 | _ => none
theorem ds_t49_inv {γ : Type} {x : D} {k : Int → Int → ByteArray → List D → Int → List D → Option γ} {r : γ} (h : ds_t49 x k = some r) : ∃ a0 a1 a2 a3 a4 a5, x = .agg [.int .u8 a0, .int .i64 a1, .str a2, .list true 6 a3, .int .i64 a4, .list false 1 a5] ∧ k a0 a1 a2 a3 a4 a5 = some r := by
  unfold ds_t49 at h
  split at h
  · exact ⟨_, _, _, _, _, _, rfl, h⟩
  · cases h
def k_S : ByteArray := ⟨#[83]⟩
def ds_t173 {γ : Type} (x : D) (k : Int → Int → ByteArray → List D → Int → List D → Bool → Option γ) : Option γ := match x with | .agg [.int .u8 a0, .int .i64 a1, .str a2, .list true 6 a3, .int .i64 a4, .list false 1 a5, .bool a6] => k a0 a1 a2 a3 a4 a5 a6 | _ => none
theorem ds_t173_inv {γ : Type} {x : D} {k : Int → Int → ByteArray → List D → Int → List D → Bool → Option γ} {r : γ} (h : ds_t173 x k = some r) : ∃ a0 a1 a2 a3 a4 a5 a6, x = .agg [.int .u8 a0, .int .i64 a1, .str a2, .list true 6 a3, .int .i64 a4, .list false 1 a5, .bool a6] ∧ k a0 a1 a2 a3 a4 a5 a6 = some r := by
  unfold ds_t173 at h
  split at h
  · exact ⟨_, _, _, _, _, _, _, rfl, h⟩
  · cases h
def ds_i64 {γ : Type} (x : D) (k : Int → Option γ) : Option γ := match x with | .int .i64 a0 => k a0 | _ => none
theorem ds_i64_inv {γ : Type} {x : D} {k : Int → Option γ} {r : γ} (h : ds_i64 x k = some r) : ∃ a0, x = .int .i64 a0 ∧ k a0 = some r := by
  unfold ds_i64 at h
  split at h
  · exact ⟨_, rfl, h⟩
  · cases h
def ds_t90 {γ : Type} (x : D) (k : Int → Int → List D → Int → Int → ByteArray → List D → Int → List D → Option γ) : Option γ := match x with | .agg [.int .i64 a0, .int .i64 a1, .list false 1 a2, .int .u8 a3, .int .i64 a4, .str a5, .list true 6 a6, .int .i64 a7, .list false 1 a8] => k a0 a1 a2 a3 a4 a5 a6 a7 a8 | _ => none
theorem ds_t90_inv {γ : Type} {x : D} {k : Int → Int → List D → Int → Int → ByteArray → List D → Int → List D → Option γ} {r : γ} (h : ds_t90 x k = some r) : ∃ a0 a1 a2 a3 a4 a5 a6 a7 a8, x = .agg [.int .i64 a0, .int .i64 a1, .list false 1 a2, .int .u8 a3, .int .i64 a4, .str a5, .list true 6 a6, .int .i64 a7, .list false 1 a8] ∧ k a0 a1 a2 a3 a4 a5 a6 a7 a8 = some r := by
  unfold ds_t90 at h
  split at h
  · exact ⟨_, _, _, _, _, _, _, _, _, rfl, h⟩
  · cases h
def ds_bool {γ : Type} (x : D) (k : Bool → Option γ) : Option γ := match x with | .bool a0 => k a0 | _ => none
theorem ds_bool_inv {γ : Type} {x : D} {k : Bool → Option γ} {r : γ} (h : ds_bool x k = some r) : ∃ a0, x = .bool a0 ∧ k a0 = some r := by
  unfold ds_bool at h
  split at h
  · exact ⟨_, rfl, h⟩
  · cases h
end Go.Proofs.Ytiiojajgajnhpaa
end

set_option linter.unusedVariables false
noncomputable section
namespace Go.Proofs.Ytiiojajgajnhpaa
open Go Go.AM
mutual
def L98_2 : Nat → (List D) → (List D) → Int → Option (Bool)
  | 0, _, _, _ => none
  | n + 1, l1, l2, z6 =>
    lenF l1 fun z7 => (if z6 < z7 then L98_3 n l1 l2 z6 true else L98_3 n l1 l2 z6 false)
def L98_3 : Nat → (List D) → (List D) → Int → Bool → Option (Bool)
  | 0, _, _, _, _ => none
  | n + 1, l1, l2, z6, b8 =>
    (if b8 = true then getF l1 z6 fun x9 => ds_i64 x9 fun z10 => getF l2 z6 fun x11 => ds_i64 x11 fun z12 => (if z10 = z12 then L98_4 n l1 l2 z6 false else L98_4 n l1 l2 z6 true) else some true)
def L98_4 : Nat → (List D) → (List D) → Int → Bool → Option (Bool)
  | 0, _, _, _, _ => none
  | n + 1, l1, l2, z6, b13 =>
    (if b13 = true then some false else letF (IntKind.wrap .i64 (z6 + 1)) fun z14 => L98_2 n l1 l2 z14)
end
def L98_1 : Nat → (List D) → (List D) → Bool → Option (Bool)
  | 0, _, _, _ => none
  | n + 1, l1, l2, b5 =>
    (if b5 = true then some false else L98_2 n l1 l2 (0 : Int))
def F98 (n : Nat) (l1 : List D) (l2 : List D) : Option (Bool) :=
  lenF l1 fun z3 => lenF l2 fun z4 => (if z3 = z4 then L98_1 n l1 l2 false else L98_1 n l1 l2 true)
set_option maxRecDepth 100000 in
set_option maxHeartbeats 40000000 in
theorem T98 (n : Nat) : ∀ ⦃l1 : List D⦄ ⦃l2 : List D⦄ ⦃r1 : Bool⦄, F98 n l1 l2 = some r1 →
    Trip Try.prog inv 98 [.d (.list false 1 l1), .d (.list false 1 l2)] [] (.v (.d (.bool r1))) [] [] := by
  intro l1 l2 r1 h
  unfold F98 at h
  refine Trip.of tab_ok tab_one fol Try.func98 rfl (by kernel_rfl) rfl rfl rfl (fun M hM hI => ?_)
  try cbv
  refine seq_go ?_
  try cbv
  refine seq_go ?_
  try cbv
  refine seq_join (T := Nat × Bool) (fun t => ⟨[(0, .v (.d (.list false 1 l1))), (1, .v (.d (.list false 1 l2))), (4, .v (.d (.bool false))), (10, .v (.d (.bool t.2)))], [], 192⟩) (fun t => t.1 ≤ n ∧ L98_1 t.1 l1 l2 t.2 = some r1) ?_ ?_
  · try cbv
    replace h := lenF_inv M h
    obtain ⟨z3, hz, h⟩ := h
    refine ⟨z3, hz, ?_⟩
    clear hz
    try cbv
    replace h := lenF_inv M h
    obtain ⟨z4, hz, h⟩ := h
    refine ⟨z4, hz, ?_⟩
    clear hz
    try cbv
    refine splitI (fun e => ?_) (fun e => ?_)
    · replace h := ite_t e h
      clear e
      try cbv
      exact join_next (n, false) [0, 1, 4, 10] [] 192 ⟨by omega, h⟩ (by cbv)
    · replace h := ite_f e h
      clear e
      try cbv
      exact join_next (n, true) [0, 1, 4, 10] [] 192 ⟨by omega, h⟩ (by cbv)
  · clear h
    rintro ⟨m1, b5⟩ ⟨hm1, h⟩
    replace hm1 : m1 ≤ n := hm1
    cases m1 with
    | zero =>
      replace h : L98_1 0 l1 l2 b5 = some r1 := h
      rw [L98_1] at h
      cases h
    | succ m1 =>
      replace h : L98_1 (m1 + 1) l1 l2 b5 = some r1 := h
      rw [L98_1] at h
      try cbv
      cases b5
      · replace h := ite_f Bool.false_ne_true h
        try cbv
        refine seq_go ?_
        try cbv
        refine seq_go ?_
        try cbv
        refine loop_inv (T := Nat × Int) [0, 1, 4, 5] [] 224 (fun t => ⟨[(0, .v (.d (.list false 1 l1))), (1, .v (.d (.list false 1 l2))), (4, .v (.d (.bool false))), (5, .v (.d (.int .i64 t.2)))], [], 224⟩)
          (fun t => t.1 ≤ m1 ∧ L98_2 t.1 l1 l2 t.2 = some r1) (fun t => t.1) (m1, (0 : Int)) ⟨Nat.le_refl _, h⟩ (by cbv) ?_
        clear h
        rintro ⟨m2, z6⟩ ⟨hm2, h⟩
        replace hm2 : m2 ≤ m1 := hm2
        cases m2 with
        | zero =>
          replace h : L98_2 0 l1 l2 z6 = some r1 := h
          rw [L98_2] at h
          cases h
        | succ m2 =>
          replace h : L98_2 (m2 + 1) l1 l2 z6 = some r1 := h
          rw [L98_2] at h
          try cbv
          refine seq_go ?_
          try cbv
          refine seq_join (T := Nat × Bool) (fun t => ⟨[(0, .v (.d (.list false 1 l1))), (1, .v (.d (.list false 1 l2))), (4, .v (.d (.bool false))), (5, .v (.d (.int .i64 z6))), (14, .v (.d (.bool t.2)))], [], 352⟩) (fun t => t.1 ≤ m2 ∧ L98_3 t.1 l1 l2 z6 t.2 = some r1) ?_ ?_
          · try cbv
            replace h := lenF_inv M h
            obtain ⟨z7, hz, h⟩ := h
            refine ⟨z7, hz, ?_⟩
            clear hz
            try cbv
            refine splitL (fun e => ?_) (fun e => ?_)
            · replace h := ite_t e h
              clear e
              try cbv
              exact join_next (m2, true) [0, 1, 4, 5, 14] [] 352 ⟨by omega, h⟩ (by cbv)
            · replace h := ite_f (Int.not_lt.2 e) h
              clear e
              try cbv
              exact join_next (m2, false) [0, 1, 4, 5, 14] [] 352 ⟨by omega, h⟩ (by cbv)
          · clear h
            rintro ⟨m3, b8⟩ ⟨hm3, h⟩
            replace hm3 : m3 ≤ m2 := hm3
            cases m3 with
            | zero =>
              replace h : L98_3 0 l1 l2 z6 b8 = some r1 := h
              rw [L98_3] at h
              cases h
            | succ m3 =>
              replace h : L98_3 (m3 + 1) l1 l2 z6 b8 = some r1 := h
              rw [L98_3] at h
              try cbv
              cases b8
              · replace h := ite_f Bool.false_ne_true h
                try cbv
                refine seq_go ?_
                try cbv
                obtain rfl := Option.some.inj h
                refine fin_go ?_
                try cbv
                exact ⟨[], rfl, rfl, trivial, trivial, trivial⟩
              · replace h := ite_t rfl h
                try cbv
                refine seq_go ?_
                try cbv
                refine seq_join (T := Nat × Bool) (fun t => ⟨[(0, .v (.d (.list false 1 l1))), (1, .v (.d (.list false 1 l2))), (4, .v (.d (.bool false))), (5, .v (.d (.int .i64 z6))), (25, .v (.d (.bool t.2)))], [], 640⟩) (fun t => t.1 ≤ m3 ∧ L98_4 t.1 l1 l2 z6 t.2 = some r1) ?_ ?_
                · try cbv
                  replace h := getF_inv h
                  obtain ⟨x9, hx9, h⟩ := h
                  replace h := ds_i64_inv h
                  obtain ⟨z10, rfl, h⟩ := h
                  refine ⟨_, hx9.1, hx9.2, ?_⟩
                  try cbv
                  replace h := getF_inv h
                  obtain ⟨x11, hx11, h⟩ := h
                  replace h := ds_i64_inv h
                  obtain ⟨z12, rfl, h⟩ := h
                  refine ⟨_, hx11.1, hx11.2, ?_⟩
                  try cbv
                  refine splitI (fun e => ?_) (fun e => ?_)
                  · replace h := ite_t e h
                    clear e
                    try cbv
                    refine drawn ?_ ?_
                    · show _ = true
                      kernel_rfl
                    try cbv
                    exact join_next (m3, false) [0, 1, 4, 5, 25] [] 640 ⟨by omega, h⟩ (by cbv)
                  · replace h := ite_f e h
                    clear e
                    try cbv
                    refine drawn ?_ ?_
                    · show _ = true
                      kernel_rfl
                    try cbv
                    exact join_next (m3, true) [0, 1, 4, 5, 25] [] 640 ⟨by omega, h⟩ (by cbv)
                · clear h
                  rintro ⟨m4, b13⟩ ⟨hm4, h⟩
                  replace hm4 : m4 ≤ m3 := hm4
                  cases m4 with
                  | zero =>
                    replace h : L98_4 0 l1 l2 z6 b13 = some r1 := h
                    rw [L98_4] at h
                    cases h
                  | succ m4 =>
                    replace h : L98_4 (m4 + 1) l1 l2 z6 b13 = some r1 := h
                    rw [L98_4] at h
                    try cbv
                    cases b13
                    · replace h := ite_f Bool.false_ne_true h
                      try cbv
                      replace h := letF_inv h
                      obtain ⟨z14, hz, h⟩ := h
                      refine ⟨z14, hz, ?_⟩
                      clear hz
                      try cbv
                      exact loop_next (m4, z14) [0, 1, 4, 5] [] 224 ⟨by omega, h⟩ (Nat.lt_succ_of_le (by omega)) (by cbv)
                    · replace h := ite_t rfl h
                      try cbv
                      refine seq_go ?_
                      try cbv
                      obtain rfl := Option.some.inj h
                      refine fin_go ?_
                      try cbv
                      exact ⟨[], rfl, rfl, trivial, trivial, trivial⟩
      · replace h := ite_t rfl h
        try cbv
        refine seq_go ?_
        try cbv
        obtain rfl := Option.some.inj h
        refine fin_go ?_
        try cbv
        exact ⟨[], rfl, rfl, trivial, trivial, trivial⟩
end Go.Proofs.Ytiiojajgajnhpaa
end

set_option linter.unusedVariables false
noncomputable section
namespace Go.Proofs.Ytiiojajgajnhpaa
open Go Go.AM
mutual
def L48_1 : Nat → (List D) → (List D) → Bool → Option (Bool)
  | 0, _, _, _ => none
  | n + 1, l1, l2, b5 =>
    (if b5 = true then some false else L48_2 n l1 l2 (0 : Int))
def L48_2 : Nat → (List D) → (List D) → Int → Option (Bool)
  | 0, _, _, _ => none
  | n + 1, l1, l2, z6 =>
    lenF l1 fun z7 => (if z6 < z7 then L48_3 n l1 l2 z6 true else L48_3 n l1 l2 z6 false)
def L48_3 : Nat → (List D) → (List D) → Int → Bool → Option (Bool)
  | 0, _, _, _, _ => none
  | n + 1, l1, l2, z6, b8 =>
    (if b8 = true then getF l1 z6 fun x9 => ds_t49 x9 fun z10 z11 s12 l13 z14 l15 => getF l2 z6 fun x16 => ds_t49 x16 fun z17 z18 s19 l20 z21 l22 => bO1 (F34 n z10 z11 s12 l13 z14 l15 z17 z18 s19 l20 z21 l22) fun b23 => letB (!b23) fun b24 => (if b24 = true then some false else letF (IntKind.wrap .i64 (z6 + 1)) fun z25 => L48_2 n l1 l2 z25) else some true)
def F48 : Nat → (List D) → (List D) → Option (Bool)
  | 0, _, _ => none
  | n + 1, l1, l2 =>
    lenF l1 fun z3 => lenF l2 fun z4 => (if z3 = z4 then L48_1 n l1 l2 false else L48_1 n l1 l2 true)
def F34 : Nat → Int → Int → ByteArray → (List D) → Int → (List D) → Int → Int → ByteArray → (List D) → Int → (List D) → Option (Bool)
  | 0, _, _, _, _, _, _, _, _, _, _, _, _ => none
  | n + 1, z1, z2, s3, l4, z5, l6, z7, z8, s9, l10, z11, l12 =>
    (if z1 = z7 then (if z2 = z8 then (if s3 = s9 then (if z5 = z11 then bO1 (F98 n l6 l12) fun b13 => (if b13 = true then bO1 (F48 n l4 l10) fun b14 => some b14 else some false) else some false) else some false) else some false) else some false)
end
set_option maxRecDepth 100000 in
set_option maxHeartbeats 40000000 in
theorem G48 (n : Nat) : (∀ ⦃l1 : List D⦄ ⦃l2 : List D⦄ ⦃r1 : Bool⦄, F48 n l1 l2 = some r1 →
    Trip Try.prog inv 48 [.d (.list true 6 l1), .d (.list true 6 l2)] [] (.v (.d (.bool r1))) [] []) ∧
    (∀ ⦃z1 : Int⦄ ⦃z2 : Int⦄ ⦃s3 : ByteArray⦄ ⦃l4 : List D⦄ ⦃z5 : Int⦄ ⦃l6 : List D⦄ ⦃z7 : Int⦄ ⦃z8 : Int⦄ ⦃s9 : ByteArray⦄ ⦃l10 : List D⦄ ⦃z11 : Int⦄ ⦃l12 : List D⦄ ⦃r1 : Bool⦄, F34 n z1 z2 s3 l4 z5 l6 z7 z8 s9 l10 z11 l12 = some r1 →
    Trip Try.prog inv 34 [.d (.agg [.int .u8 z1, .int .i64 z2, .str s3, .list true 6 l4, .int .i64 z5, .list false 1 l6]), .d (.agg [.int .u8 z7, .int .i64 z8, .str s9, .list true 6 l10, .int .i64 z11, .list false 1 l12])] [] (.v (.d (.bool r1))) [] []) := by
  induction n using Nat.strongRecOn with
  | _ n ih =>
    cases n with
    | zero =>
      refine ⟨?_, ?_⟩
      · intro l1 l2 r1 h
        cases (show (none : Option _) = some _ from h)
      · intro z1 z2 s3 l4 z5 l6 z7 z8 s9 l10 z11 l12 r1 h
        cases (show (none : Option _) = some _ from h)
    | succ n =>
      refine ⟨?_, ?_⟩
      · intro l1 l2 r1 h
        rw [F48] at h
        refine Trip.of tab_ok tab_one fol Try.func48 rfl (by kernel_rfl) rfl rfl rfl (fun M hM hI => ?_)
        try cbv
        refine seq_go ?_
        try cbv
        refine seq_go ?_
        try cbv
        refine seq_join (T := Nat × Bool) (fun t => ⟨[(0, .v (.d (.list true 6 l1))), (1, .v (.d (.list true 6 l2))), (4, .v (.d (.bool false))), (10, .v (.d (.bool t.2)))], [], 192⟩) (fun t => t.1 ≤ n ∧ L48_1 t.1 l1 l2 t.2 = some r1) ?_ ?_
        · try cbv
          replace h := lenF_inv M h
          obtain ⟨z3, hz, h⟩ := h
          refine ⟨z3, hz, ?_⟩
          clear hz
          try cbv
          replace h := lenF_inv M h
          obtain ⟨z4, hz, h⟩ := h
          refine ⟨z4, hz, ?_⟩
          clear hz
          try cbv
          refine splitI (fun e => ?_) (fun e => ?_)
          · replace h := ite_t e h
            clear e
            try cbv
            exact join_next (n, false) [0, 1, 4, 10] [] 192 ⟨by omega, h⟩ (by cbv)
          · replace h := ite_f e h
            clear e
            try cbv
            exact join_next (n, true) [0, 1, 4, 10] [] 192 ⟨by omega, h⟩ (by cbv)
        · clear h
          rintro ⟨m1, b5⟩ ⟨hm1, h⟩
          replace hm1 : m1 ≤ n := hm1
          cases m1 with
          | zero =>
            replace h : L48_1 0 l1 l2 b5 = some r1 := h
            rw [L48_1] at h
            cases h
          | succ m1 =>
            replace h : L48_1 (m1 + 1) l1 l2 b5 = some r1 := h
            rw [L48_1] at h
            try cbv
            cases b5
            · replace h := ite_f Bool.false_ne_true h
              try cbv
              refine seq_go ?_
              try cbv
              refine seq_go ?_
              try cbv
              refine loop_inv (T := Nat × Int) [0, 1, 4, 5] [] 224 (fun t => ⟨[(0, .v (.d (.list true 6 l1))), (1, .v (.d (.list true 6 l2))), (4, .v (.d (.bool false))), (5, .v (.d (.int .i64 t.2)))], [], 224⟩)
                (fun t => t.1 ≤ m1 ∧ L48_2 t.1 l1 l2 t.2 = some r1) (fun t => t.1) (m1, (0 : Int)) ⟨Nat.le_refl _, h⟩ (by cbv) ?_
              clear h
              rintro ⟨m2, z6⟩ ⟨hm2, h⟩
              replace hm2 : m2 ≤ m1 := hm2
              cases m2 with
              | zero =>
                replace h : L48_2 0 l1 l2 z6 = some r1 := h
                rw [L48_2] at h
                cases h
              | succ m2 =>
                replace h : L48_2 (m2 + 1) l1 l2 z6 = some r1 := h
                rw [L48_2] at h
                try cbv
                refine seq_go ?_
                try cbv
                refine seq_join (T := Nat × Bool) (fun t => ⟨[(0, .v (.d (.list true 6 l1))), (1, .v (.d (.list true 6 l2))), (4, .v (.d (.bool false))), (5, .v (.d (.int .i64 z6))), (14, .v (.d (.bool t.2)))], [], 352⟩) (fun t => t.1 ≤ m2 ∧ L48_3 t.1 l1 l2 z6 t.2 = some r1) ?_ ?_
                · try cbv
                  replace h := lenF_inv M h
                  obtain ⟨z7, hz, h⟩ := h
                  refine ⟨z7, hz, ?_⟩
                  clear hz
                  try cbv
                  refine splitL (fun e => ?_) (fun e => ?_)
                  · replace h := ite_t e h
                    clear e
                    try cbv
                    exact join_next (m2, true) [0, 1, 4, 5, 14] [] 352 ⟨by omega, h⟩ (by cbv)
                  · replace h := ite_f (Int.not_lt.2 e) h
                    clear e
                    try cbv
                    exact join_next (m2, false) [0, 1, 4, 5, 14] [] 352 ⟨by omega, h⟩ (by cbv)
                · clear h
                  rintro ⟨m3, b8⟩ ⟨hm3, h⟩
                  replace hm3 : m3 ≤ m2 := hm3
                  cases m3 with
                  | zero =>
                    replace h : L48_3 0 l1 l2 z6 b8 = some r1 := h
                    rw [L48_3] at h
                    cases h
                  | succ m3 =>
                    replace h : L48_3 (m3 + 1) l1 l2 z6 b8 = some r1 := h
                    rw [L48_3] at h
                    try cbv
                    cases b8
                    · replace h := ite_f Bool.false_ne_true h
                      try cbv
                      refine seq_go ?_
                      try cbv
                      obtain rfl := Option.some.inj h
                      refine fin_go ?_
                      try cbv
                      exact ⟨[], rfl, rfl, trivial, trivial, trivial⟩
                    · replace h := ite_t rfl h
                      try cbv
                      refine seq_go ?_
                      try cbv
                      refine seq_go ?_
                      try cbv
                      replace h := getF_inv h
                      obtain ⟨x9, hx9, h⟩ := h
                      replace h := ds_t49_inv h
                      obtain ⟨z10, z11, s12, l13, z14, l15, rfl, h⟩ := h
                      refine ⟨_, hx9.1, hx9.2, ?_⟩
                      try cbv
                      replace h := getF_inv h
                      obtain ⟨x16, hx16, h⟩ := h
                      replace h := ds_t49_inv h
                      obtain ⟨z17, z18, s19, l20, z21, l22, rfl, h⟩ := h
                      refine ⟨_, hx16.1, hx16.2, ?_⟩
                      try cbv
                      replace h := bO1_inv h
                      obtain ⟨b23, hr, h⟩ := h
                      first | refine .inr (.inl ⟨[], ?_⟩) | refine .inl ⟨[], ?_⟩
                      try cbv
                      refine call_pure hM hI ((ih _ (by omega)).2 hr) rfl ?_
                      clear hr
                      try cbv
                      replace h := letB_inv h
                      obtain ⟨b24, hz, h⟩ := h
                      refine ⟨b24, not_eq' hz, ?_⟩
                      clear hz
                      try cbv
                      refine drawn ?_ ?_
                      · show _ = true
                        kernel_rfl
                      try cbv
                      cases b24
                      · replace h := ite_f Bool.false_ne_true h
                        try cbv
                        replace h := letF_inv h
                        obtain ⟨z25, hz, h⟩ := h
                        refine ⟨z25, hz, ?_⟩
                        clear hz
                        try cbv
                        exact loop_next (m3, z25) [0, 1, 4, 5] [] 224 ⟨by omega, h⟩ (Nat.lt_succ_of_le (by omega)) (by cbv)
                      · replace h := ite_t rfl h
                        try cbv
                        refine seq_go ?_
                        try cbv
                        obtain rfl := Option.some.inj h
                        refine fin_go ?_
                        try cbv
                        exact ⟨[], rfl, rfl, trivial, trivial, trivial⟩
            · replace h := ite_t rfl h
              try cbv
              refine seq_go ?_
              try cbv
              obtain rfl := Option.some.inj h
              refine fin_go ?_
              try cbv
              exact ⟨[], rfl, rfl, trivial, trivial, trivial⟩
      · intro z1 z2 s3 l4 z5 l6 z7 z8 s9 l10 z11 l12 r1 h
        rw [F34] at h
        refine Trip.of tab_ok tab_one fol Try.func34 rfl (by kernel_rfl) rfl rfl rfl (fun M hM hI => ?_)
        try cbv
        refine seq_go ?_
        try cbv
        refine seq_go ?_
        try cbv
        refine splitI (fun e => ?_) (fun e => ?_)
        · replace h := ite_t e h
          clear e
          try cbv
          refine splitI (fun e => ?_) (fun e => ?_)
          · replace h := ite_t e h
            clear e
            try cbv
            refine splitS (fun e => ?_) (fun e => ?_)
            · replace h := ite_t (bytes_eq.1 e) h
              clear e
              try cbv
              refine splitI (fun e => ?_) (fun e => ?_)
              · replace h := ite_t e h
                clear e
                try cbv
                replace h := bO1_inv h
                obtain ⟨b13, hr, h⟩ := h
                refine call_go rfl rfl ?_
                try cbv
                refine call_pure hM hI (T98 _ hr) rfl ?_
                clear hr
                try cbv
                cases b13
                · replace h := ite_f Bool.false_ne_true h
                  try cbv
                  obtain rfl := Option.some.inj h
                  refine fin_go ?_
                  try cbv
                  exact ⟨[], rfl, rfl, trivial, trivial, trivial⟩
                · replace h := ite_t rfl h
                  try cbv
                  replace h := bO1_inv h
                  obtain ⟨b14, hr, h⟩ := h
                  refine call_go rfl rfl ?_
                  try cbv
                  refine call_pure hM hI ((ih _ (by omega)).1 hr) rfl ?_
                  clear hr
                  try cbv
                  obtain rfl := Option.some.inj h
                  refine fin_go ?_
                  try cbv
                  exact ⟨[], rfl, rfl, trivial, trivial, trivial⟩
              · replace h := ite_f e h
                clear e
                try cbv
                obtain rfl := Option.some.inj h
                refine fin_go ?_
                try cbv
                exact ⟨[], rfl, rfl, trivial, trivial, trivial⟩
            · replace h := ite_f (bytes_ne.1 e) h
              clear e
              try cbv
              obtain rfl := Option.some.inj h
              refine fin_go ?_
              try cbv
              exact ⟨[], rfl, rfl, trivial, trivial, trivial⟩
          · replace h := ite_f e h
            clear e
            try cbv
            obtain rfl := Option.some.inj h
            refine fin_go ?_
            try cbv
            exact ⟨[], rfl, rfl, trivial, trivial, trivial⟩
        · replace h := ite_f e h
          clear e
          try cbv
          obtain rfl := Option.some.inj h
          refine fin_go ?_
          try cbv
          exact ⟨[], rfl, rfl, trivial, trivial, trivial⟩
theorem T34 (n : Nat) : ∀ ⦃z1 : Int⦄ ⦃z2 : Int⦄ ⦃s3 : ByteArray⦄ ⦃l4 : List D⦄ ⦃z5 : Int⦄ ⦃l6 : List D⦄ ⦃z7 : Int⦄ ⦃z8 : Int⦄ ⦃s9 : ByteArray⦄ ⦃l10 : List D⦄ ⦃z11 : Int⦄ ⦃l12 : List D⦄ ⦃r1 : Bool⦄, F34 n z1 z2 s3 l4 z5 l6 z7 z8 s9 l10 z11 l12 = some r1 →
    Trip Try.prog inv 34 [.d (.agg [.int .u8 z1, .int .i64 z2, .str s3, .list true 6 l4, .int .i64 z5, .list false 1 l6]), .d (.agg [.int .u8 z7, .int .i64 z8, .str s9, .list true 6 l10, .int .i64 z11, .list false 1 l12])] [] (.v (.d (.bool r1))) [] [] := (G48 n).2
end Go.Proofs.Ytiiojajgajnhpaa
end

set_option linter.unusedVariables false
noncomputable section
namespace Go.Proofs.Ytiiojajgajnhpaa
open Go Go.AM
mutual
def L92_1 : Nat → (List D) → Int → Int → Option (Int)
  | 0, _, _, _ => none
  | n + 1, l1, z3, z4 =>
    lenF l1 fun z5 => (if z4 < z5 then (if (0 : Int) ≤ z3 then L92_2 n l1 z3 z4 true else L92_2 n l1 z3 z4 false) else L92_2 n l1 z3 z4 false)
def L92_2 : Nat → (List D) → Int → Int → Bool → Option (Int)
  | 0, _, _, _, _ => none
  | n + 1, l1, z3, z4, b6 =>
    (if b6 = true then getF l1 z4 fun x7 => ds_t49 x7 fun z8 z9 s10 l11 z12 l13 => letF (IntKind.wrap .i64 (z3 - 10)) fun z14 => (if z14 < (0 : Int) then L92_3 n l1 z4 s10 l11 l13 z14 true else szF s10 fun z15 => (if z14 < z15 then L92_3 n l1 z4 s10 l11 l13 z14 true else lenF l13 fun z16 => szF s10 fun z17 => letF (IntKind.wrap .i64 (z14 - z17)) fun z18 => (if z18 < z16 then L92_3 n l1 z4 s10 l11 l13 z14 true else L92_3 n l1 z4 s10 l11 l13 z14 false))) else some z3)
def L92_3 : Nat → (List D) → Int → ByteArray → (List D) → (List D) → Int → Bool → Option (Int)
  | 0, _, _, _, _, _, _, _ => none
  | n + 1, l1, z4, s10, l11, l13, z14, b19 =>
    (if b19 = true then some (-1 : Int) else szF s10 fun z20 => letF (IntKind.wrap .i64 (z14 - z20)) fun z21 => lenF l13 fun z22 => letF (IntKind.wrap .i64 (z21 - z22)) fun z23 => bO1 (F92 n l11 z23) fun z24 => letF (IntKind.wrap .i64 (z4 + 1)) fun z25 => L92_1 n l1 z24 z25)
def F92 : Nat → (List D) → Int → Option (Int)
  | 0, _, _ => none
  | n + 1, l1, z2 =>
    L92_1 n l1 z2 (0 : Int)
end
set_option maxRecDepth 100000 in
set_option maxHeartbeats 40000000 in
theorem T92 (n : Nat) : ∀ ⦃l1 : List D⦄ ⦃z2 : Int⦄ ⦃r1 : Int⦄, F92 n l1 z2 = some r1 →
    Trip Try.prog inv 92 [.d (.list true 6 l1), .d (.int .i64 z2)] [] (.v (.d (.int .i64 r1))) [] [] := by
  induction n using Nat.strongRecOn with
  | _ n ih =>
    cases n with
    | zero =>
      intro l1 z2 r1 h
      cases (show (none : Option _) = some _ from h)
    | succ n =>
      intro l1 z2 r1 h
      rw [F92] at h
      refine Trip.of tab_ok tab_one fol Try.func92 rfl (by kernel_rfl) rfl rfl rfl (fun M hM hI => ?_)
      try cbv
      refine seq_go ?_
      try cbv
      refine seq_go ?_
      try cbv
      refine seq_go ?_
      try cbv
      refine loop_inv (T := Nat × Int × Int) [0, 1, 4, 5] [] 64 (fun t => ⟨[(0, .v (.d (.list true 6 l1))), (1, .v (.d (.int .i64 t.2.1))), (4, .v (.d (.int .i64 0))), (5, .v (.d (.int .i64 t.2.2)))], [], 64⟩)
        (fun t => t.1 ≤ n ∧ L92_1 t.1 l1 t.2.1 t.2.2 = some r1) (fun t => t.1) (n, (z2, (0 : Int))) ⟨Nat.le_refl _, h⟩ (by cbv) ?_
      clear h
      rintro ⟨m1, z3, z4⟩ ⟨hm1, h⟩
      replace hm1 : m1 ≤ n := hm1
      cases m1 with
      | zero =>
        replace h : L92_1 0 l1 z3 z4 = some r1 := h
        rw [L92_1] at h
        cases h
      | succ m1 =>
        replace h : L92_1 (m1 + 1) l1 z3 z4 = some r1 := h
        rw [L92_1] at h
        try cbv
        refine seq_go ?_
        try cbv
        refine seq_join (T := Nat × Bool) (fun t => ⟨[(0, .v (.d (.list true 6 l1))), (1, .v (.d (.int .i64 z3))), (4, .v (.d (.int .i64 0))), (5, .v (.d (.int .i64 z4))), (14, .v (.d (.bool t.2)))], [], 320⟩) (fun t => t.1 ≤ m1 ∧ L92_2 t.1 l1 z3 z4 t.2 = some r1) ?_ ?_
        · try cbv
          replace h := lenF_inv M h
          obtain ⟨z5, hz, h⟩ := h
          refine ⟨z5, hz, ?_⟩
          clear hz
          try cbv
          refine splitL (fun e => ?_) (fun e => ?_)
          · replace h := ite_t e h
            clear e
            try cbv
            refine splitLe (fun e => ?_) (fun e => ?_)
            · replace h := ite_t e h
              clear e
              try cbv
              exact join_next (m1, true) [0, 1, 4, 5, 14] [] 320 ⟨by omega, h⟩ (by cbv)
            · replace h := ite_f (Int.not_le.2 e) h
              clear e
              try cbv
              exact join_next (m1, false) [0, 1, 4, 5, 14] [] 320 ⟨by omega, h⟩ (by cbv)
          · replace h := ite_f (Int.not_lt.2 e) h
            clear e
            try cbv
            exact join_next (m1, false) [0, 1, 4, 5, 14] [] 320 ⟨by omega, h⟩ (by cbv)
        · clear h
          rintro ⟨m2, b6⟩ ⟨hm2, h⟩
          replace hm2 : m2 ≤ m1 := hm2
          cases m2 with
          | zero =>
            replace h : L92_2 0 l1 z3 z4 b6 = some r1 := h
            rw [L92_2] at h
            cases h
          | succ m2 =>
            replace h : L92_2 (m2 + 1) l1 z3 z4 b6 = some r1 := h
            rw [L92_2] at h
            try cbv
            cases b6
            · replace h := ite_f Bool.false_ne_true h
              try cbv
              refine seq_go ?_
              try cbv
              obtain rfl := Option.some.inj h
              refine fin_go ?_
              try cbv
              exact ⟨[], rfl, rfl, trivial, trivial, trivial⟩
            · replace h := ite_t rfl h
              try cbv
              refine seq_go ?_
              try cbv
              refine seq_go ?_
              try cbv
              replace h := getF_inv h
              obtain ⟨x7, hx7, h⟩ := h
              replace h := ds_t49_inv h
              obtain ⟨z8, z9, s10, l11, z12, l13, rfl, h⟩ := h
              refine ⟨_, hx7.1, hx7.2, ?_⟩
              try cbv
              refine seq_go ?_
              try cbv
              replace h := letF_inv h
              obtain ⟨z14, hz, h⟩ := h
              refine ⟨z14, hz, ?_⟩
              clear hz
              try cbv
              refine seq_go ?_
              try cbv
              refine seq_join (T := Nat × Bool) (fun t => ⟨[(0, .v (.d (.list true 6 l1))), (1, .v (.d (.int .i64 z14))), (4, .v (.d (.int .i64 0))), (5, .v (.d (.int .i64 z4))), (6, .v (.c (.ptr (.loc 448) 0))), (42, .v (.d (.bool t.2)))], [(.loc 448, .cells [.d (.int .u8 z8), .d (.int .i64 z9), .d (.str s10), .d (.list true 6 l11), .d (.int .i64 z12), .d (.list false 1 l13)])], 1248⟩) (fun t => t.1 ≤ m2 ∧ L92_3 t.1 l1 z4 s10 l11 l13 z14 t.2 = some r1) ?_ ?_
              · try cbv
                refine splitL (fun e => ?_) (fun e => ?_)
                · replace h := ite_t e h
                  clear e
                  try cbv
                  exact join_next (m2, true) [0, 1, 4, 5, 6, 42] [.loc 448] 1248 ⟨by omega, h⟩ (by cbv)
                · replace h := ite_f (Int.not_lt.2 e) h
                  clear e
                  try cbv
                  replace h := szF_inv M h
                  obtain ⟨z15, hz, h⟩ := h
                  refine ⟨z15, hz, ?_⟩
                  clear hz
                  try cbv
                  refine splitL (fun e => ?_) (fun e => ?_)
                  · replace h := ite_t e h
                    clear e
                    try cbv
                    exact join_next (m2, true) [0, 1, 4, 5, 6, 42] [.loc 448] 1248 ⟨by omega, h⟩ (by cbv)
                  · replace h := ite_f (Int.not_lt.2 e) h
                    clear e
                    try cbv
                    replace h := lenF_inv M h
                    obtain ⟨z16, hz, h⟩ := h
                    refine ⟨z16, hz, ?_⟩
                    clear hz
                    try cbv
                    replace h := szF_inv M h
                    obtain ⟨z17, hz, h⟩ := h
                    refine ⟨z17, hz, ?_⟩
                    clear hz
                    try cbv
                    replace h := letF_inv h
                    obtain ⟨z18, hz, h⟩ := h
                    refine ⟨z18, hz, ?_⟩
                    clear hz
                    try cbv
                    refine splitL (fun e => ?_) (fun e => ?_)
                    · replace h := ite_t e h
                      clear e
                      try cbv
                      exact join_next (m2, true) [0, 1, 4, 5, 6, 42] [.loc 448] 1248 ⟨by omega, h⟩ (by cbv)
                    · replace h := ite_f (Int.not_lt.2 e) h
                      clear e
                      try cbv
                      exact join_next (m2, false) [0, 1, 4, 5, 6, 42] [.loc 448] 1248 ⟨by omega, h⟩ (by cbv)
              · clear h
                rintro ⟨m3, b19⟩ ⟨hm3, h⟩
                replace hm3 : m3 ≤ m2 := hm3
                cases m3 with
                | zero =>
                  replace h : L92_3 0 l1 z4 s10 l11 l13 z14 b19 = some r1 := h
                  rw [L92_3] at h
                  cases h
                | succ m3 =>
                  replace h : L92_3 (m3 + 1) l1 z4 s10 l11 l13 z14 b19 = some r1 := h
                  rw [L92_3] at h
                  try cbv
                  cases b19
                  · replace h := ite_f Bool.false_ne_true h
                    try cbv
                    replace h := szF_inv M h
                    obtain ⟨z20, hz, h⟩ := h
                    refine ⟨z20, hz, ?_⟩
                    clear hz
                    try cbv
                    replace h := letF_inv h
                    obtain ⟨z21, hz, h⟩ := h
                    refine ⟨z21, hz, ?_⟩
                    clear hz
                    try cbv
                    replace h := lenF_inv M h
                    obtain ⟨z22, hz, h⟩ := h
                    refine ⟨z22, hz, ?_⟩
                    clear hz
                    try cbv
                    replace h := letF_inv h
                    obtain ⟨z23, hz, h⟩ := h
                    refine ⟨z23, hz, ?_⟩
                    clear hz
                    try cbv
                    replace h := bO1_inv h
                    obtain ⟨z24, hr, h⟩ := h
                    refine call_go rfl rfl ?_
                    try cbv
                    refine call_pure hM hI ((ih _ (by omega)) hr) rfl ?_
                    clear hr
                    try cbv
                    replace h := letF_inv h
                    obtain ⟨z25, hz, h⟩ := h
                    refine ⟨z25, hz, ?_⟩
                    clear hz
                    try cbv
                    exact loop_next (m3, (z24, z25)) [0, 1, 4, 5] [] 64 ⟨by omega, h⟩ (Nat.lt_succ_of_le (by omega)) (by cbv)
                  · replace h := ite_t rfl h
                    try cbv
                    refine seq_go ?_
                    try cbv
                    obtain rfl := Option.some.inj h
                    refine fin_go ?_
                    try cbv
                    exact ⟨[], rfl, rfl, trivial, trivial, trivial⟩
end Go.Proofs.Ytiiojajgajnhpaa
end

set_option linter.unusedVariables false
noncomputable section
namespace Go.Proofs.Ytiiojajgajnhpaa
open Go Go.AM
mutual
def L50_2 : Nat → (List D) → Int → Int → Option (Bool)
  | 0, _, _, _ => none
  | n + 1, l1, z4, z5 =>
    lenF l1 fun z6 => (if z5 < z6 then L50_3 n l1 z4 z5 true else L50_3 n l1 z4 z5 false)
def L50_3 : Nat → (List D) → Int → Int → Bool → Option (Bool)
  | 0, _, _, _, _ => none
  | n + 1, l1, z4, z5, b7 =>
    (if b7 = true then getF l1 z5 fun x8 => ds_t90 x8 fun z9 z10 l11 z12 z13 s14 l15 z16 l17 => lenF l11 fun z18 => (if (50 : Int) < z18 then L50_4 n l1 z4 z5 true else L50_4 n l1 z4 z5 false) else (if z4 < (0 : Int) then some true else some false))
def L50_4 : Nat → (List D) → Int → Int → Bool → Option (Bool)
  | 0, _, _, _, _ => none
  | n + 1, l1, z4, z5, b19 =>
    (if b19 = true then some true else getF l1 z5 fun x20 => ds_t90 x20 fun z21 z22 l23 z24 z25 s26 l27 z28 l29 => bO1 (F92 n ([.agg [.int .u8 z24, .int .i64 z25, .str s26, .list true 6 l27, .int .i64 z28, .list false 1 l29]]) z4) fun z30 => letF (IntKind.wrap .i64 (z5 + 1)) fun z31 => L50_2 n l1 z30 z31)
end
def L50_1 : Nat → (List D) → Bool → Option (Bool)
  | 0, _, _ => none
  | n + 1, l1, b3 =>
    (if b3 = true then some true else L50_2 n l1 (10000 : Int) (0 : Int))
def F50 (n : Nat) (l1 : List D) : Option (Bool) :=
  lenF l1 fun z2 => (if (60 : Int) < z2 then L50_1 n l1 true else L50_1 n l1 false)
set_option maxRecDepth 100000 in
set_option maxHeartbeats 40000000 in
theorem T50 (n : Nat) : ∀ ⦃l1 : List D⦄ ⦃r1 : Bool⦄, F50 n l1 = some r1 →
    Trip Try.prog inv 50 [.d (.list true 9 l1)] [] (.v (.d (.bool r1))) [] [] := by
  intro l1 r1 h
  unfold F50 at h
  refine Trip.of tab_ok tab_one fol Try.func50 rfl (by kernel_rfl) rfl rfl rfl (fun M hM hI => ?_)
  try cbv
  refine seq_go ?_
  try cbv
  refine seq_go ?_
  try cbv
  refine seq_join (T := Nat × Bool) (fun t => ⟨[(0, .v (.d (.list true 9 l1))), (2, .v (.d (.bool false))), (7, .v (.d (.bool t.2)))], [], 128⟩) (fun t => t.1 ≤ n ∧ L50_1 t.1 l1 t.2 = some r1) ?_ ?_
  · try cbv
    replace h := lenF_inv M h
    obtain ⟨z2, hz, h⟩ := h
    refine ⟨z2, hz, ?_⟩
    clear hz
    try cbv
    refine splitL (fun e => ?_) (fun e => ?_)
    · replace h := ite_t e h
      clear e
      try cbv
      exact join_next (n, true) [0, 2, 7] [] 128 ⟨by omega, h⟩ (by cbv)
    · replace h := ite_f (Int.not_lt.2 e) h
      clear e
      try cbv
      exact join_next (n, false) [0, 2, 7] [] 128 ⟨by omega, h⟩ (by cbv)
  · clear h
    rintro ⟨m1, b3⟩ ⟨hm1, h⟩
    replace hm1 : m1 ≤ n := hm1
    cases m1 with
    | zero =>
      replace h : L50_1 0 l1 b3 = some r1 := h
      rw [L50_1] at h
      cases h
    | succ m1 =>
      replace h : L50_1 (m1 + 1) l1 b3 = some r1 := h
      rw [L50_1] at h
      try cbv
      cases b3
      · replace h := ite_f Bool.false_ne_true h
        try cbv
        refine seq_go ?_
        try cbv
        refine seq_go ?_
        try cbv
        refine seq_go ?_
        try cbv
        refine loop_inv (T := Nat × Int × Int) [0, 2, 3, 4] [] 192 (fun t => ⟨[(0, .v (.d (.list true 9 l1))), (2, .v (.d (.bool false))), (3, .v (.d (.int .i64 t.2.1))), (4, .v (.d (.int .i64 t.2.2)))], [], 192⟩)
          (fun t => t.1 ≤ m1 ∧ L50_2 t.1 l1 t.2.1 t.2.2 = some r1) (fun t => t.1) (m1, ((10000 : Int), (0 : Int))) ⟨Nat.le_refl _, h⟩ (by cbv) ?_
        clear h
        rintro ⟨m2, z4, z5⟩ ⟨hm2, h⟩
        replace hm2 : m2 ≤ m1 := hm2
        cases m2 with
        | zero =>
          replace h : L50_2 0 l1 z4 z5 = some r1 := h
          rw [L50_2] at h
          cases h
        | succ m2 =>
          replace h : L50_2 (m2 + 1) l1 z4 z5 = some r1 := h
          rw [L50_2] at h
          try cbv
          refine seq_go ?_
          try cbv
          refine seq_join (T := Nat × Bool) (fun t => ⟨[(0, .v (.d (.list true 9 l1))), (2, .v (.d (.bool false))), (3, .v (.d (.int .i64 z4))), (4, .v (.d (.int .i64 z5))), (11, .v (.d (.bool t.2)))], [], 320⟩) (fun t => t.1 ≤ m2 ∧ L50_3 t.1 l1 z4 z5 t.2 = some r1) ?_ ?_
          · try cbv
            replace h := lenF_inv M h
            obtain ⟨z6, hz, h⟩ := h
            refine ⟨z6, hz, ?_⟩
            clear hz
            try cbv
            refine splitL (fun e => ?_) (fun e => ?_)
            · replace h := ite_t e h
              clear e
              try cbv
              exact join_next (m2, true) [0, 2, 3, 4, 11] [] 320 ⟨by omega, h⟩ (by cbv)
            · replace h := ite_f (Int.not_lt.2 e) h
              clear e
              try cbv
              exact join_next (m2, false) [0, 2, 3, 4, 11] [] 320 ⟨by omega, h⟩ (by cbv)
          · clear h
            rintro ⟨m3, b7⟩ ⟨hm3, h⟩
            replace hm3 : m3 ≤ m2 := hm3
            cases m3 with
            | zero =>
              replace h : L50_3 0 l1 z4 z5 b7 = some r1 := h
              rw [L50_3] at h
              cases h
            | succ m3 =>
              replace h : L50_3 (m3 + 1) l1 z4 z5 b7 = some r1 := h
              rw [L50_3] at h
              try cbv
              cases b7
              · replace h := ite_f Bool.false_ne_true h
                try cbv
                refine seq_go ?_
                try cbv
                refine splitL (fun e => ?_) (fun e => ?_)
                · replace h := ite_t e h
                  clear e
                  try cbv
                  obtain rfl := Option.some.inj h
                  refine fin_go ?_
                  try cbv
                  exact ⟨[], rfl, rfl, trivial, trivial, trivial⟩
                · replace h := ite_f (Int.not_lt.2 e) h
                  clear e
                  try cbv
                  obtain rfl := Option.some.inj h
                  refine fin_go ?_
                  try cbv
                  exact ⟨[], rfl, rfl, trivial, trivial, trivial⟩
              · replace h := ite_t rfl h
                try cbv
                refine seq_go ?_
                try cbv
                refine seq_go ?_
                try cbv
                refine seq_join (T := Nat × Bool) (fun t => ⟨[(0, .v (.d (.list true 9 l1))), (2, .v (.d (.bool false))), (3, .v (.d (.int .i64 z4))), (4, .v (.d (.int .i64 z5))), (20, .v (.d (.bool t.2)))], [], 544⟩) (fun t => t.1 ≤ m3 ∧ L50_4 t.1 l1 z4 z5 t.2 = some r1) ?_ ?_
                · try cbv
                  replace h := getF_inv h
                  obtain ⟨x8, hx8, h⟩ := h
                  replace h := ds_t90_inv h
                  obtain ⟨z9, z10, l11, z12, z13, s14, l15, z16, l17, rfl, h⟩ := h
                  refine ⟨_, hx8.1, hx8.2, ?_⟩
                  try cbv
                  replace h := lenF_inv M h
                  obtain ⟨z18, hz, h⟩ := h
                  refine ⟨z18, hz, ?_⟩
                  clear hz
                  try cbv
                  refine splitL (fun e => ?_) (fun e => ?_)
                  · replace h := ite_t e h
                    clear e
                    try cbv
                    exact join_next (m3, true) [0, 2, 3, 4, 20] [] 544 ⟨by omega, h⟩ (by cbv)
                  · replace h := ite_f (Int.not_lt.2 e) h
                    clear e
                    try cbv
                    exact join_next (m3, false) [0, 2, 3, 4, 20] [] 544 ⟨by omega, h⟩ (by cbv)
                · clear h
                  rintro ⟨m4, b19⟩ ⟨hm4, h⟩
                  replace hm4 : m4 ≤ m3 := hm4
                  cases m4 with
                  | zero =>
                    replace h : L50_4 0 l1 z4 z5 b19 = some r1 := h
                    rw [L50_4] at h
                    cases h
                  | succ m4 =>
                    replace h : L50_4 (m4 + 1) l1 z4 z5 b19 = some r1 := h
                    rw [L50_4] at h
                    try cbv
                    cases b19
                    · replace h := ite_f Bool.false_ne_true h
                      try cbv
                      replace h := getF_inv h
                      obtain ⟨x20, hx20, h⟩ := h
                      replace h := ds_t90_inv h
                      obtain ⟨z21, z22, l23, z24, z25, s26, l27, z28, l29, rfl, h⟩ := h
                      refine ⟨_, hx20.1, hx20.2, ?_⟩
                      try cbv
                      refine ⟨false, ?_⟩
                      try cbv
                      refine ⟨true, ?_⟩
                      try cbv
                      replace h := bO1_inv h
                      obtain ⟨z30, hr, h⟩ := h
                      refine call_go rfl rfl ?_
                      try cbv
                      refine call_pure hM hI (T92 _ hr) rfl ?_
                      clear hr
                      try cbv
                      replace h := letF_inv h
                      obtain ⟨z31, hz, h⟩ := h
                      refine ⟨z31, hz, ?_⟩
                      clear hz
                      try cbv
                      exact loop_next (m4, (z30, z31)) [0, 2, 3, 4] [] 192 ⟨by omega, h⟩ (Nat.lt_succ_of_le (by omega)) (by cbv)
                    · replace h := ite_t rfl h
                      try cbv
                      refine seq_go ?_
                      try cbv
                      obtain rfl := Option.some.inj h
                      refine fin_go ?_
                      try cbv
                      exact ⟨[], rfl, rfl, trivial, trivial, trivial⟩
      · replace h := ite_t rfl h
        try cbv
        refine seq_go ?_
        try cbv
        obtain rfl := Option.some.inj h
        refine fin_go ?_
        try cbv
        exact ⟨[], rfl, rfl, trivial, trivial, trivial⟩
end Go.Proofs.Ytiiojajgajnhpaa
end

set_option linter.unusedVariables false
noncomputable section
namespace Go.Proofs.Ytiiojajgajnhpaa
open Go Go.AM
def F60 (n : Nat) : Option (Unit) :=
  some ()
set_option maxRecDepth 100000 in
set_option maxHeartbeats 40000000 in
theorem T60 (n : Nat) : F60 n = some () →
    Trip Try.prog inv 60 [] [] (.v (.c (.ptr (.loc 0) 0))) [] [.cells [.ow (.loc 1), .d (.int .i64 0)], .tree (.fmap true) true 8 [] none] := by
  intro h
  unfold F60 at h
  refine Trip.of tab_ok tab_one fol Try.func60 rfl (by kernel_rfl) rfl rfl rfl (fun M hM hI => ?_)
  try cbv
  refine seq_go ?_
  try cbv
  refine seq_go ?_
  try cbv
  skip
  refine fin_go ?_
  try cbv
  exact ⟨[.loc 96, .loc 32], rfl, rfl, trivial, ⟨rfl, ⟨rfl, trivial⟩⟩, trivial⟩
end Go.Proofs.Ytiiojajgajnhpaa
end

set_option linter.unusedVariables false
noncomputable section
namespace Go.Proofs.Ytiiojajgajnhpaa
open Go Go.AM
def F107 (n : Nat) (z1 : Int) (l2 : List D) : Option (Int × List D) :=
  some (z1, l2)
set_option maxRecDepth 100000 in
set_option maxHeartbeats 40000000 in
theorem T107 (n : Nat) : ∀ ⦃z1 : Int⦄ ⦃l2 : List D⦄ ⦃r1 : Int⦄ ⦃r2 : List D⦄, F107 n z1 l2 = some (r1, r2) →
    Trip Try.prog inv 107 [.c (.ptr (.ext 0) 0)] [.cells [.ow (.ext 1), .d (.int .i64 z1)], .tree (.fmap true) true 8 l2 none] (.v (.d (.bool false))) [.cells [.ow (.ext 1), .d (.int .i64 r1)], .tree (.fmap true) true 8 r2 none] [] := by
  intro z1 l2 r1 r2 h
  unfold F107 at h
  refine Trip.of tab_ok tab_one fol Try.func107 rfl (by kernel_rfl) rfl rfl rfl (fun M hM hI => ?_)
  try cbv
  refine seq_go ?_
  try cbv
  refine seq_go ?_
  try cbv
  obtain ⟨rfl, rfl⟩ := inj2 h
  refine fin_go ?_
  try cbv
  exact ⟨[], rfl, rfl, ⟨rfl, ⟨rfl, trivial⟩⟩, trivial, trivial⟩
end Go.Proofs.Ytiiojajgajnhpaa
end

set_option linter.unusedVariables false
noncomputable section
namespace Go.Proofs.Ytiiojajgajnhpaa
open Go Go.AM
def F108 (n : Nat) (z1 : Int) (z2 : Int) (l3 : List D) : Option (Int × Int × ByteArray × List D × Int × List D × Int × Int × List D) :=
  bO2 (F107 n z2 l3) fun z4 l5 => (findF true (.int .i64 z1) l5 (fun x6 => ds_t173 x6 fun z7 z8 s9 l10 z11 l12 b13 => (if b13 = true then some ((0 : Int), (0 : Int), ByteArray.empty, ([] : List D), (0 : Int), ([] : List D), (1 : Int), z4, l5) else some (z7, z8, s9, l10, z11, l12, (0 : Int), z4, l5))) (some ((0 : Int), (0 : Int), ByteArray.empty, ([] : List D), (0 : Int), ([] : List D), (6 : Int), z4, l5)))
set_option maxRecDepth 100000 in
set_option maxHeartbeats 40000000 in
theorem T108 (n : Nat) : ∀ ⦃z1 : Int⦄ ⦃z2 : Int⦄ ⦃l3 : List D⦄ ⦃r1 : Int⦄ ⦃r2 : Int⦄ ⦃r3 : ByteArray⦄ ⦃r4 : List D⦄ ⦃r5 : Int⦄ ⦃r6 : List D⦄ ⦃r7 : Int⦄ ⦃r8 : Int⦄ ⦃r9 : List D⦄, F108 n z1 z2 l3 = some (r1, r2, r3, r4, r5, r6, r7, r8, r9) →
    Trip Try.prog inv 108 [.c (.ptr (.ext 0) 0), .d (.int .i64 z1)] [.cells [.ow (.ext 1), .d (.int .i64 z2)], .tree (.fmap true) true 8 l3 none] (.t [.d (.agg [.int .u8 r1, .int .i64 r2, .str r3, .list true 6 r4, .int .i64 r5, .list false 1 r6]), .d (.int .u8 r7)]) [.cells [.ow (.ext 1), .d (.int .i64 r8)], .tree (.fmap true) true 8 r9 none] [] := by
  intro z1 z2 l3 r1 r2 r3 r4 r5 r6 r7 r8 r9 h
  unfold F108 at h
  refine Trip.of tab_ok tab_one fol Try.func108 rfl (by kernel_rfl) rfl rfl rfl (fun M hM hI => ?_)
  try cbv
  refine seq_go ?_
  try cbv
  refine seq_go ?_
  try cbv
  refine seq_go ?_
  try cbv
  replace h := bO2_inv h
  obtain ⟨z4, l5, hr, h⟩ := h
  refine call_go rfl rfl ?_
  try cbv
  refine call_with hM hI [.ext 0, .ext 1] (T107 _ hr) rfl (by simp) ⟨rfl, ⟨rfl, trivial⟩⟩ ⟨trivial, ⟨trivial, trivial⟩⟩ (by simp) ?_
  clear hr
  try cbv
  refine seq_go ?_
  try cbv
  replace h := findF_inv h
  rcases h with ⟨x6, hz, h⟩ | ⟨hz, h⟩
  · replace h := ds_t173_inv h
    obtain ⟨z7, z8, s9, l10, z11, l12, b13, rfl, h⟩ := h
    refine ⟨some _, (M.lock_iff _).2 hz, ?_⟩
    clear hz
    try cbv
    refine seq_go ?_
    try cbv
    refine seq_go ?_
    try cbv
    refine ⟨false, rfl, ?_⟩
    try cbv
    refine seq_go ?_
    try cbv
    cases b13
    · replace h := ite_f Bool.false_ne_true h
      try cbv
      refine seq_go ?_
      try cbv
      obtain ⟨rfl, rfl, rfl, rfl, rfl, rfl, rfl, rfl, rfl⟩ := inj9 h
      refine fin_go ?_
      try cbv
      exact ⟨[], rfl, rfl, ⟨rfl, ⟨rfl, trivial⟩⟩, trivial, trivial⟩
    · replace h := ite_t rfl h
      try cbv
      refine seq_go ?_
      try cbv
      obtain ⟨rfl, rfl, rfl, rfl, rfl, rfl, rfl, rfl, rfl⟩ := inj9 h
      refine fin_go ?_
      try cbv
      exact ⟨[], rfl, rfl, ⟨rfl, ⟨rfl, trivial⟩⟩, trivial, trivial⟩
  · refine ⟨none, (M.lock_iff _).2 hz, ?_⟩
    clear hz
    try cbv
    refine seq_go ?_
    try cbv
    refine seq_go ?_
    try cbv
    refine ⟨true, rfl, ?_⟩
    try cbv
    refine seq_go ?_
    try cbv
    obtain ⟨rfl, rfl, rfl, rfl, rfl, rfl, rfl, rfl, rfl⟩ := inj9 h
    refine fin_go ?_
    try cbv
    exact ⟨[], rfl, rfl, ⟨rfl, ⟨rfl, trivial⟩⟩, trivial, trivial⟩
end Go.Proofs.Ytiiojajgajnhpaa
end

set_option linter.unusedVariables false
noncomputable section
namespace Go.Proofs.Ytiiojajgajnhpaa
open Go Go.AM
def L94_2 : Nat → Bool → Option (Int)
  | 0, _ => none
  | n + 1, b11 =>
    (if b11 = true then some (6 : Int) else some (0 : Int))
def L94_1 : Nat → Int → (List D) → Int → Bool → Option (Int)
  | 0, _, _, _, _ => none
  | n + 1, z1, l4, z7, b8 =>
    (if b8 = true then some (3 : Int) else (if z1 = (4 : Int) then (if z7 < (0 : Int) then L94_2 n true else lenF l4 fun z9 => (if z9 ≤ z7 then L94_2 n true else L94_2 n false)) else (if z1 = (5 : Int) then (if z7 < (0 : Int) then L94_2 n true else lenF l4 fun z10 => (if z10 ≤ z7 then L94_2 n true else L94_2 n false)) else L94_2 n true)))
def F94 (n : Nat) (z1 : Int) (z2 : Int) (s3 : ByteArray) (l4 : List D) (z5 : Int) (l6 : List D) (z7 : Int) : Option (Int) :=
  (if z1 = (0 : Int) then L94_1 n z1 l4 z7 true else L94_1 n z1 l4 z7 false)
set_option maxRecDepth 100000 in
set_option maxHeartbeats 40000000 in
theorem T94 (n : Nat) : ∀ ⦃z1 : Int⦄ ⦃z2 : Int⦄ ⦃s3 : ByteArray⦄ ⦃l4 : List D⦄ ⦃z5 : Int⦄ ⦃l6 : List D⦄ ⦃z7 : Int⦄ ⦃r1 : Int⦄, F94 n z1 z2 s3 l4 z5 l6 z7 = some r1 →
    Trip Try.prog inv 94 [.d (.agg [.int .u8 z1, .int .i64 z2, .str s3, .list true 6 l4, .int .i64 z5, .list false 1 l6]), .d (.int .i64 z7)] [] (.v (.d (.int .u8 r1))) [] [] := by
  intro z1 z2 s3 l4 z5 l6 z7 r1 h
  unfold F94 at h
  refine Trip.of tab_ok tab_one fol Try.func94 rfl (by kernel_rfl) rfl rfl rfl (fun M hM hI => ?_)
  try cbv
  refine seq_go ?_
  try cbv
  refine seq_go ?_
  try cbv
  refine seq_join (T := Nat × Bool) (fun t => ⟨[(1, .v (.d (.int .i64 z7))), (2, .v (.c (.ptr (.loc 0) 0))), (4, .v (.d (.int .u8 0))), (5, .v (.d (.bool t.2)))], [(.loc 0, .cells [.d (.int .u8 z1), .d (.int .i64 z2), .d (.str s3), .d (.list true 6 l4), .d (.int .i64 z5), .d (.list false 1 l6)])], 192⟩) (fun t => t.1 ≤ n ∧ L94_1 t.1 z1 l4 z7 t.2 = some r1) ?_ ?_
  · try cbv
    refine splitI (fun e => ?_) (fun e => ?_)
    · replace h := ite_t e h
      clear e
      try cbv
      exact join_next (n, true) [1, 2, 4, 5] [.loc 0] 192 ⟨by omega, h⟩ (by cbv)
    · replace h := ite_f e h
      clear e
      try cbv
      exact join_next (n, false) [1, 2, 4, 5] [.loc 0] 192 ⟨by omega, h⟩ (by cbv)
  · clear h
    rintro ⟨m1, b8⟩ ⟨hm1, h⟩
    replace hm1 : m1 ≤ n := hm1
    cases m1 with
    | zero =>
      replace h : L94_1 0 z1 l4 z7 b8 = some r1 := h
      rw [L94_1] at h
      cases h
    | succ m1 =>
      replace h : L94_1 (m1 + 1) z1 l4 z7 b8 = some r1 := h
      rw [L94_1] at h
      try cbv
      cases b8
      · replace h := ite_f Bool.false_ne_true h
        try cbv
        refine seq_join (T := Nat × Bool) (fun t => ⟨[(4, .v (.d (.int .u8 0))), (9, .v (.d (.bool t.2)))], [], 832⟩) (fun t => t.1 ≤ m1 ∧ L94_2 t.1 t.2 = some r1) ?_ ?_
        · try cbv
          refine splitI (fun e => ?_) (fun e => ?_)
          · replace h := ite_t e h
            clear e
            try cbv
            refine splitL (fun e => ?_) (fun e => ?_)
            · replace h := ite_t e h
              clear e
              try cbv
              exact join_next (m1, true) [4, 9] [] 832 ⟨by omega, h⟩ (by cbv)
            · replace h := ite_f (Int.not_lt.2 e) h
              clear e
              try cbv
              replace h := lenF_inv M h
              obtain ⟨z9, hz, h⟩ := h
              refine ⟨z9, hz, ?_⟩
              clear hz
              try cbv
              refine splitLe (fun e => ?_) (fun e => ?_)
              · replace h := ite_t e h
                clear e
                try cbv
                exact join_next (m1, true) [4, 9] [] 832 ⟨by omega, h⟩ (by cbv)
              · replace h := ite_f (Int.not_le.2 e) h
                clear e
                try cbv
                exact join_next (m1, false) [4, 9] [] 832 ⟨by omega, h⟩ (by cbv)
          · replace h := ite_f e h
            clear e
            try cbv
            refine splitI (fun e => ?_) (fun e => ?_)
            · replace h := ite_t e h
              clear e
              try cbv
              refine splitL (fun e => ?_) (fun e => ?_)
              · replace h := ite_t e h
                clear e
                try cbv
                exact join_next (m1, true) [4, 9] [] 832 ⟨by omega, h⟩ (by cbv)
              · replace h := ite_f (Int.not_lt.2 e) h
                clear e
                try cbv
                replace h := lenF_inv M h
                obtain ⟨z10, hz, h⟩ := h
                refine ⟨z10, hz, ?_⟩
                clear hz
                try cbv
                refine splitLe (fun e => ?_) (fun e => ?_)
                · replace h := ite_t e h
                  clear e
                  try cbv
                  exact join_next (m1, true) [4, 9] [] 832 ⟨by omega, h⟩ (by cbv)
                · replace h := ite_f (Int.not_le.2 e) h
                  clear e
                  try cbv
                  exact join_next (m1, false) [4, 9] [] 832 ⟨by omega, h⟩ (by cbv)
            · replace h := ite_f e h
              clear e
              try cbv
              exact join_next (m1, true) [4, 9] [] 832 ⟨by omega, h⟩ (by cbv)
        · clear h
          rintro ⟨m2, b11⟩ ⟨hm2, h⟩
          replace hm2 : m2 ≤ m1 := hm2
          cases m2 with
          | zero =>
            replace h : L94_2 0 b11 = some r1 := h
            rw [L94_2] at h
            cases h
          | succ m2 =>
            replace h : L94_2 (m2 + 1) b11 = some r1 := h
            rw [L94_2] at h
            try cbv
            cases b11
            · replace h := ite_f Bool.false_ne_true h
              try cbv
              refine seq_go ?_
              try cbv
              obtain rfl := Option.some.inj h
              refine fin_go ?_
              try cbv
              exact ⟨[], rfl, rfl, trivial, trivial, trivial⟩
            · replace h := ite_t rfl h
              try cbv
              refine seq_go ?_
              try cbv
              obtain rfl := Option.some.inj h
              refine fin_go ?_
              try cbv
              exact ⟨[], rfl, rfl, trivial, trivial, trivial⟩
      · replace h := ite_t rfl h
        try cbv
        refine seq_go ?_
        try cbv
        obtain rfl := Option.some.inj h
        refine fin_go ?_
        try cbv
        exact ⟨[], rfl, rfl, trivial, trivial, trivial⟩
end Go.Proofs.Ytiiojajgajnhpaa
end

set_option linter.unusedVariables false
noncomputable section
namespace Go.Proofs.Ytiiojajgajnhpaa
open Go Go.AM
def L141_1 : Nat → (List D) → Bool → Option (List D)
  | 0, _, _ => none
  | n + 1, l1, b2 =>
    (if b2 = true then some ([] : List D) else needF (scalB l1 = true) (appF 8 ([] : List D) l1 fun l3 => some l3))
def F141 (n : Nat) (l1 : List D) : Option (List D) :=
  (nilF l1 (L141_1 n l1 true) (L141_1 n l1 false))
set_option maxRecDepth 100000 in
set_option maxHeartbeats 40000000 in
theorem T141 (n : Nat) : ∀ ⦃l1 : List D⦄ ⦃r1 : List D⦄, F141 n l1 = some r1 →
    Trip Try.prog inv 141 [.d (.list false 1 l1)] [] (.v (.c (.ow (.loc 0)))) [] [.tree .row false 1 r1 none] := by
  intro l1 r1 h
  unfold F141 at h
  refine Trip.of tab_ok tab_one fol Try.func141 rfl (by kernel_rfl) rfl rfl rfl (fun M hM hI => ?_)
  try cbv
  refine seq_go ?_
  try cbv
  refine seq_go ?_
  try cbv
  refine seq_join (T := Nat × Bool) (fun t => ⟨[(0, .v (.d (.list false 1 l1))), (2, .v (.c (.nils false 1))), (4, .v (.d (.bool t.2)))], [], 96⟩) (fun t => t.1 ≤ n ∧ L141_1 t.1 l1 t.2 = some r1) ?_ ?_
  · try cbv
    replace h := nilF_inv h
    obtain ⟨h, hA⟩ := h
    refine nil_both ?_ (fun e => ?_)
    · clear hA
      try cbv
      exact join_next (n, false) [0, 2, 4] [] 96 ⟨by omega, h⟩ (by cbv)
    · replace h := hA e
      clear hA
      try cbv
      exact join_next (n, true) [0, 2, 4] [] 96 ⟨by omega, h⟩ (by cbv)
  · clear h
    rintro ⟨m1, b2⟩ ⟨hm1, h⟩
    replace hm1 : m1 ≤ n := hm1
    cases m1 with
    | zero =>
      replace h : L141_1 0 l1 b2 = some r1 := h
      rw [L141_1] at h
      cases h
    | succ m1 =>
      replace h : L141_1 (m1 + 1) l1 b2 = some r1 := h
      rw [L141_1] at h
      try cbv
      cases b2
      · replace h := ite_f Bool.false_ne_true h
        try cbv
        refine seq_go ?_
        try cbv
        refine ⟨true, ?_⟩
        try cbv
        refine ⟨[], ?_⟩
        try cbv
        refine ⟨[], rfl, ?_⟩
        try cbv
        refine op_pl ?_
        try cbv
        refine ⟨true, ?_⟩
        try cbv
        refine ⟨true, ?_⟩
        try cbv
        refine ⟨[], ?_⟩
        try cbv
        replace h := needF_inv h
        obtain ⟨hs, h⟩ := h
        replace h := appF_inv h
        obtain ⟨l3, hb, hz, h⟩ := h
        refine ⟨scalB_iff.1 hs, (M.lock_iff _).2 hb, l3, hz, ?_⟩
        clear hs hb hz
        try cbv
        obtain rfl := Option.some.inj h
        refine fin_go ?_
        try cbv
        exact ⟨[.loc 160], rfl, rfl, trivial, ⟨rfl, trivial⟩, trivial⟩
      · replace h := ite_t rfl h
        try cbv
        refine seq_go ?_
        try cbv
        obtain rfl := Option.some.inj h
        refine ⟨_, _, _, ⟨rfl, rfl, rfl⟩, [.treeS 2 false 1], ?_⟩
        try cbv
        exact ⟨[.loc 128], rfl, rfl, trivial, ⟨rfl, trivial⟩, trivial⟩
end Go.Proofs.Ytiiojajgajnhpaa
end

set_option linter.unusedVariables false
noncomputable section
namespace Go.Proofs.Ytiiojajgajnhpaa
open Go Go.AM
mutual
def L95_1 : Nat → Int → Int → ByteArray → (List D) → Int → (List D) → Int → Int → (List D) → Option (Int × Int × ByteArray × Int × List D × List D)
  | 0, _, _, _, _, _, _, _, _, _ => none
  | n + 1, z1, z2, s3, l4, z5, l6, z7, z8, l9 =>
    (if z8 < z7 then L95_2 n z1 z2 s3 l4 z5 l6 z7 z8 l9 true else L95_2 n z1 z2 s3 l4 z5 l6 z7 z8 l9 false)
def L95_2 : Nat → Int → Int → ByteArray → (List D) → Int → (List D) → Int → Int → (List D) → Bool → Option (Int × Int × ByteArray × Int × List D × List D)
  | 0, _, _, _, _, _, _, _, _, _, _ => none
  | n + 1, z1, z2, s3, l4, z5, l6, z7, z8, l9, b10 =>
    (if b10 = true then getF l4 z8 fun x11 => ds_t49 x11 fun z12 z13 s14 l15 z16 l17 => bO6 (F95 n z12 z13 s14 l15 z16 l17) fun z18 z19 s20 z21 l22 l23 => appF 88 l9 ([.agg [.int .u8 z18, .int .i64 z19, .str s20, .list true 6 l22, .int .i64 z21, .list false 1 l23]]) fun l24 => letF (IntKind.wrap .i64 (z8 + 1)) fun z25 => L95_1 n z1 z2 s3 l4 z5 l6 z7 z25 l24 else bO1 (F141 n l6) fun l26 => some (z1, z2, s3, z5, l9, l26))
def F95 : Nat → Int → Int → ByteArray → (List D) → Int → (List D) → Option (Int × Int × ByteArray × Int × List D × List D)
  | 0, _, _, _, _, _, _ => none
  | n + 1, z1, z2, s3, l4, z5, l6 =>
    lenF l4 fun z7 => L95_1 n z1 z2 s3 l4 z5 l6 z7 (0 : Int) ([] : List D)
end
set_option maxRecDepth 100000 in
set_option maxHeartbeats 40000000 in
theorem T95 (n : Nat) : ∀ ⦃z1 : Int⦄ ⦃z2 : Int⦄ ⦃s3 : ByteArray⦄ ⦃l4 : List D⦄ ⦃z5 : Int⦄ ⦃l6 : List D⦄ ⦃r1 : Int⦄ ⦃r2 : Int⦄ ⦃r3 : ByteArray⦄ ⦃r4 : Int⦄ ⦃r5 : List D⦄ ⦃r6 : List D⦄, F95 n z1 z2 s3 l4 z5 l6 = some (r1, r2, r3, r4, r5, r6) →
    Trip Try.prog inv 95 [.d (.agg [.int .u8 z1, .int .i64 z2, .str s3, .list true 6 l4, .int .i64 z5, .list false 1 l6])] [] (.v (.agg [.d (.int .u8 r1), .d (.int .i64 r2), .d (.str r3), .ow (.loc 0), .d (.int .i64 r4), .ow (.loc 1)])) [] [.tree .row true 6 r5 none, .tree .row false 1 r6 none] := by
  induction n using Nat.strongRecOn with
  | _ n ih =>
    cases n with
    | zero =>
      intro z1 z2 s3 l4 z5 l6 r1 r2 r3 r4 r5 r6 h
      cases (show (none : Option _) = some _ from h)
    | succ n =>
      intro z1 z2 s3 l4 z5 l6 r1 r2 r3 r4 r5 r6 h
      rw [F95] at h
      refine Trip.of tab_ok tab_one fol Try.func95 rfl (by kernel_rfl) rfl rfl rfl (fun M hM hI => ?_)
      try cbv
      refine seq_go ?_
      try cbv
      refine seq_go ?_
      try cbv
      refine seq_go ?_
      try cbv
      refine seq_go ?_
      try cbv
      replace h := lenF_inv M h
      obtain ⟨z7, hz, h⟩ := h
      refine ⟨z7, hz, ?_⟩
      clear hz
      try cbv
      refine loop_invG (T := Nat × Int × List D) [.treeS 3 true 6] [] [1, 2, 3, 7, 8, 9] [.loc 0, .loc 32, .loc 224] 256 (fun t => ⟨[(1, .v (.c (.ptr (.loc 0) 0))), (2, .v (.c (.ptr (.loc 32) 0))), (3, .v (.c (.ow (.loc 224)))), (7, .v (.d (.list true 6 l4))), (8, .v (.d (.int .i64 z7))), (9, .v (.d (.int .i64 t.2.1)))], [(.loc 0, .cells [.d (.int .u8 z1), .d (.int .i64 z2), .d (.str s3), .d (.list true 6 l4), .d (.int .i64 z5), .d (.list false 1 l6)]), (.loc 32, .cells [.d (.int .u8 0), .d (.int .i64 0), .d (.str ByteArray.empty), .nils true 6, .d (.int .i64 0), .nils false 1]), (.loc 224, .tree .row true 6 t.2.2 none)], 256⟩)
        (fun t => t.1 ≤ n ∧ L95_1 t.1 z1 z2 s3 l4 z5 l6 z7 t.2.1 t.2.2 = some (r1, r2, r3, r4, r5, r6)) (fun t => t.1) (n, ((0 : Int), ([] : List D))) ⟨Nat.le_refl _, h⟩ (by cbv) ?_
      clear h
      rintro ⟨m1, z8, l9⟩ ⟨hm1, h⟩
      replace hm1 : m1 ≤ n := hm1
      cases m1 with
      | zero =>
        replace h : L95_1 0 z1 z2 s3 l4 z5 l6 z7 z8 l9 = some (r1, r2, r3, r4, r5, r6) := h
        rw [L95_1] at h
        cases h
      | succ m1 =>
        replace h : L95_1 (m1 + 1) z1 z2 s3 l4 z5 l6 z7 z8 l9 = some (r1, r2, r3, r4, r5, r6) := h
        rw [L95_1] at h
        try cbv
        refine seq_join (T := Nat × Bool) (fun t => ⟨[(1, .v (.c (.ptr (.loc 0) 0))), (2, .v (.c (.ptr (.loc 32) 0))), (3, .v (.c (.ow (.loc 224)))), (7, .v (.d (.list true 6 l4))), (8, .v (.d (.int .i64 z7))), (9, .v (.d (.int .i64 z8))), (10, .v (.d (.bool t.2)))], [(.loc 0, .cells [.d (.int .u8 z1), .d (.int .i64 z2), .d (.str s3), .d (.list true 6 l4), .d (.int .i64 z5), .d (.list false 1 l6)]), (.loc 32, .cells [.d (.int .u8 0), .d (.int .i64 0), .d (.str ByteArray.empty), .nils true 6, .d (.int .i64 0), .nils false 1]), (.loc 224, .tree .row true 6 l9 none)], 288⟩) (fun t => t.1 ≤ m1 ∧ L95_2 t.1 z1 z2 s3 l4 z5 l6 z7 z8 l9 t.2 = some (r1, r2, r3, r4, r5, r6)) ?_ ?_
        · try cbv
          refine splitL (fun e => ?_) (fun e => ?_)
          · replace h := ite_t e h
            clear e
            try cbv
            exact join_next (m1, true) [1, 2, 3, 7, 8, 9, 10] [.loc 0, .loc 32, .loc 224] 288 ⟨by omega, h⟩ (by cbv)
          · replace h := ite_f (Int.not_lt.2 e) h
            clear e
            try cbv
            exact join_next (m1, false) [1, 2, 3, 7, 8, 9, 10] [.loc 0, .loc 32, .loc 224] 288 ⟨by omega, h⟩ (by cbv)
        · clear h
          rintro ⟨m2, b10⟩ ⟨hm2, h⟩
          replace hm2 : m2 ≤ m1 := hm2
          cases m2 with
          | zero =>
            replace h : L95_2 0 z1 z2 s3 l4 z5 l6 z7 z8 l9 b10 = some (r1, r2, r3, r4, r5, r6) := h
            rw [L95_2] at h
            cases h
          | succ m2 =>
            replace h : L95_2 (m2 + 1) z1 z2 s3 l4 z5 l6 z7 z8 l9 b10 = some (r1, r2, r3, r4, r5, r6) := h
            rw [L95_2] at h
            try cbv
            refine seq_go ?_
            try cbv
            cases b10
            · replace h := ite_f Bool.false_ne_true h
              try cbv
              refine seq_go ?_
              try cbv
              replace h := bO1_inv h
              obtain ⟨l26, hr, h⟩ := h
              refine call_go rfl rfl ?_
              try cbv
              refine call_with hM hI [] (T141 _ hr) rfl (by simp) trivial trivial (by simp) ?_
              clear hr
              try cbv
              refine seq_go ?_
              try cbv
              obtain ⟨rfl, rfl, rfl, rfl, rfl, rfl⟩ := inj6 h
              refine fin_go ?_
              try cbv
              exact ⟨[.loc 224, .loc 384], rfl, rfl, trivial, ⟨rfl, ⟨rfl, trivial⟩⟩, trivial⟩
            · replace h := ite_t rfl h
              try cbv
              refine seq_go ?_
              try cbv
              refine seq_go ?_
              try cbv
              replace h := getF_inv h
              obtain ⟨x11, hx11, h⟩ := h
              replace h := ds_t49_inv h
              obtain ⟨z12, z13, s14, l15, z16, l17, rfl, h⟩ := h
              refine ⟨_, hx11.1, hx11.2, ?_⟩
              try cbv
              replace h := bO6_inv h
              obtain ⟨z18, z19, s20, z21, l22, l23, hr, h⟩ := h
              refine call_go rfl rfl ?_
              try cbv
              refine call_with hM hI [] ((ih _ (by omega)) hr) rfl (by simp) trivial trivial (by simp) ?_
              clear hr
              try cbv
              refine ⟨false, ?_⟩
              try cbv
              refine ⟨false, ?_⟩
              try cbv
              refine op_pl ?_
              try cbv
              refine ⟨true, ?_⟩
              try cbv
              refine ⟨true, ?_⟩
              try cbv
              refine ⟨[], ?_⟩
              try cbv
              replace h := appF_inv h
              obtain ⟨l24, hb, hz, h⟩ := h
              refine ⟨[.agg [.int .u8 z18, .int .i64 z19, .str s20, .list true 6 l22, .int .i64 z21, .list false 1 l23]], rfl, ?_⟩
              try cbv
              refine ⟨(M.lock_iff _).2 hb, l24, hz, ?_⟩
              clear hb hz
              try cbv
              replace h := letF_inv h
              obtain ⟨z25, hz, h⟩ := h
              refine ⟨z25, hz, ?_⟩
              clear hz
              try cbv
              refine loop_nextG (m2, (z25, l24)) [] [(544, 224)] [1, 2, 3, 7, 8, 9] [.loc 0, .loc 32, .loc 544] 256 ⟨by omega, h⟩ (Nat.lt_succ_of_le (by omega)) ?_
              try cbv
end Go.Proofs.Ytiiojajgajnhpaa
end

set_option linter.unusedVariables false
noncomputable section
namespace Go.Proofs.Ytiiojajgajnhpaa
open Go Go.AM
mutual
def L95z_1 : Nat → Int → Int → ByteArray → (List D) → Int → (List D) → Int → Int → (List D) → Option (Int × Int × ByteArray × List D × Int × List D)
  | 0, _, _, _, _, _, _, _, _, _ => none
  | n + 1, z1, z2, s3, l4, z5, l6, z7, z8, l9 =>
    (if z8 < z7 then L95z_2 n z1 z2 s3 l4 z5 l6 z7 z8 l9 true else L95z_2 n z1 z2 s3 l4 z5 l6 z7 z8 l9 false)
def L95z_2 : Nat → Int → Int → ByteArray → (List D) → Int → (List D) → Int → Int → (List D) → Bool → Option (Int × Int × ByteArray × List D × Int × List D)
  | 0, _, _, _, _, _, _, _, _, _, _ => none
  | n + 1, z1, z2, s3, l4, z5, l6, z7, z8, l9, b10 =>
    (if b10 = true then getF l4 z8 fun x11 => ds_t49 x11 fun z12 z13 s14 l15 z16 l17 => bO6 (F95 n z12 z13 s14 l15 z16 l17) fun z18 z19 s20 z21 l22 l23 => appF 88 l9 ([.agg [.int .u8 z18, .int .i64 z19, .str s20, .list true 6 l22, .int .i64 z21, .list false 1 l23]]) fun l24 => letF (IntKind.wrap .i64 (z8 + 1)) fun z25 => L95z_1 n z1 z2 s3 l4 z5 l6 z7 z25 l24 else bO1 (F141 n l6) fun l26 => some (z1, z2, s3, l9, z5, l26))
end
def F95z (n : Nat) (z1 : Int) (z2 : Int) (s3 : ByteArray) (l4 : List D) (z5 : Int) (l6 : List D) : Option (Int × Int × ByteArray × List D × Int × List D) :=
  lenF l4 fun z7 => L95z_1 n z1 z2 s3 l4 z5 l6 z7 (0 : Int) ([] : List D)
set_option maxRecDepth 100000 in
set_option maxHeartbeats 40000000 in
theorem T95z (n : Nat) : ∀ ⦃z1 : Int⦄ ⦃z2 : Int⦄ ⦃s3 : ByteArray⦄ ⦃l4 : List D⦄ ⦃z5 : Int⦄ ⦃l6 : List D⦄ ⦃r1 : Int⦄ ⦃r2 : Int⦄ ⦃r3 : ByteArray⦄ ⦃r4 : List D⦄ ⦃r5 : Int⦄ ⦃r6 : List D⦄, F95z n z1 z2 s3 l4 z5 l6 = some (r1, r2, r3, r4, r5, r6) →
    Trip Try.prog inv 95 [.d (.agg [.int .u8 z1, .int .i64 z2, .str s3, .list true 6 l4, .int .i64 z5, .list false 1 l6])] [] (.v (.d (.agg [.int .u8 r1, .int .i64 r2, .str r3, .list true 6 r4, .int .i64 r5, .list false 1 r6]))) [] [] := by
  intro z1 z2 s3 l4 z5 l6 r1 r2 r3 r4 r5 r6 h
  unfold F95z at h
  refine Trip.of tab_ok tab_one fol Try.func95 rfl (by kernel_rfl) rfl rfl rfl (fun M hM hI => ?_)
  try cbv
  refine seq_go ?_
  try cbv
  refine seq_go ?_
  try cbv
  refine seq_go ?_
  try cbv
  refine seq_go ?_
  try cbv
  replace h := lenF_inv M h
  obtain ⟨z7, hz, h⟩ := h
  refine ⟨z7, hz, ?_⟩
  clear hz
  try cbv
  refine loop_invG (T := Nat × Int × List D) [.treeS 3 true 6] [] [1, 2, 3, 7, 8, 9] [.loc 0, .loc 32, .loc 224] 256 (fun t => ⟨[(1, .v (.c (.ptr (.loc 0) 0))), (2, .v (.c (.ptr (.loc 32) 0))), (3, .v (.c (.ow (.loc 224)))), (7, .v (.d (.list true 6 l4))), (8, .v (.d (.int .i64 z7))), (9, .v (.d (.int .i64 t.2.1)))], [(.loc 0, .cells [.d (.int .u8 z1), .d (.int .i64 z2), .d (.str s3), .d (.list true 6 l4), .d (.int .i64 z5), .d (.list false 1 l6)]), (.loc 32, .cells [.d (.int .u8 0), .d (.int .i64 0), .d (.str ByteArray.empty), .nils true 6, .d (.int .i64 0), .nils false 1]), (.loc 224, .tree .row true 6 t.2.2 none)], 256⟩)
    (fun t => t.1 ≤ n ∧ L95z_1 t.1 z1 z2 s3 l4 z5 l6 z7 t.2.1 t.2.2 = some (r1, r2, r3, r4, r5, r6)) (fun t => t.1) (n, ((0 : Int), ([] : List D))) ⟨Nat.le_refl _, h⟩ (by cbv) ?_
  clear h
  rintro ⟨m1, z8, l9⟩ ⟨hm1, h⟩
  replace hm1 : m1 ≤ n := hm1
  cases m1 with
  | zero =>
    replace h : L95z_1 0 z1 z2 s3 l4 z5 l6 z7 z8 l9 = some (r1, r2, r3, r4, r5, r6) := h
    rw [L95z_1] at h
    cases h
  | succ m1 =>
    replace h : L95z_1 (m1 + 1) z1 z2 s3 l4 z5 l6 z7 z8 l9 = some (r1, r2, r3, r4, r5, r6) := h
    rw [L95z_1] at h
    try cbv
    refine seq_join (T := Nat × Bool) (fun t => ⟨[(1, .v (.c (.ptr (.loc 0) 0))), (2, .v (.c (.ptr (.loc 32) 0))), (3, .v (.c (.ow (.loc 224)))), (7, .v (.d (.list true 6 l4))), (8, .v (.d (.int .i64 z7))), (9, .v (.d (.int .i64 z8))), (10, .v (.d (.bool t.2)))], [(.loc 0, .cells [.d (.int .u8 z1), .d (.int .i64 z2), .d (.str s3), .d (.list true 6 l4), .d (.int .i64 z5), .d (.list false 1 l6)]), (.loc 32, .cells [.d (.int .u8 0), .d (.int .i64 0), .d (.str ByteArray.empty), .nils true 6, .d (.int .i64 0), .nils false 1]), (.loc 224, .tree .row true 6 l9 none)], 288⟩) (fun t => t.1 ≤ m1 ∧ L95z_2 t.1 z1 z2 s3 l4 z5 l6 z7 z8 l9 t.2 = some (r1, r2, r3, r4, r5, r6)) ?_ ?_
    · try cbv
      refine splitL (fun e => ?_) (fun e => ?_)
      · replace h := ite_t e h
        clear e
        try cbv
        exact join_next (m1, true) [1, 2, 3, 7, 8, 9, 10] [.loc 0, .loc 32, .loc 224] 288 ⟨by omega, h⟩ (by cbv)
      · replace h := ite_f (Int.not_lt.2 e) h
        clear e
        try cbv
        exact join_next (m1, false) [1, 2, 3, 7, 8, 9, 10] [.loc 0, .loc 32, .loc 224] 288 ⟨by omega, h⟩ (by cbv)
    · clear h
      rintro ⟨m2, b10⟩ ⟨hm2, h⟩
      replace hm2 : m2 ≤ m1 := hm2
      cases m2 with
      | zero =>
        replace h : L95z_2 0 z1 z2 s3 l4 z5 l6 z7 z8 l9 b10 = some (r1, r2, r3, r4, r5, r6) := h
        rw [L95z_2] at h
        cases h
      | succ m2 =>
        replace h : L95z_2 (m2 + 1) z1 z2 s3 l4 z5 l6 z7 z8 l9 b10 = some (r1, r2, r3, r4, r5, r6) := h
        rw [L95z_2] at h
        try cbv
        refine seq_go ?_
        try cbv
        cases b10
        · replace h := ite_f Bool.false_ne_true h
          try cbv
          refine seq_go ?_
          try cbv
          replace h := bO1_inv h
          obtain ⟨l26, hr, h⟩ := h
          refine call_go rfl rfl ?_
          try cbv
          refine call_with hM hI [] (T141 _ hr) rfl (by simp) trivial trivial (by simp) ?_
          clear hr
          try cbv
          refine seq_go ?_
          try cbv
          obtain ⟨rfl, rfl, rfl, rfl, rfl, rfl⟩ := inj6 h
          refine ⟨_, _, _, ⟨rfl, rfl, rfl⟩, [.freeze (.loc 224), .freeze (.loc 384)], ?_⟩
          try cbv
          exact ⟨[], rfl, rfl, trivial, trivial, trivial⟩
        · replace h := ite_t rfl h
          try cbv
          refine seq_go ?_
          try cbv
          refine seq_go ?_
          try cbv
          replace h := getF_inv h
          obtain ⟨x11, hx11, h⟩ := h
          replace h := ds_t49_inv h
          obtain ⟨z12, z13, s14, l15, z16, l17, rfl, h⟩ := h
          refine ⟨_, hx11.1, hx11.2, ?_⟩
          try cbv
          replace h := bO6_inv h
          obtain ⟨z18, z19, s20, z21, l22, l23, hr, h⟩ := h
          refine call_go rfl rfl ?_
          try cbv
          refine call_with hM hI [] (T95 _ hr) rfl (by simp) trivial trivial (by simp) ?_
          clear hr
          try cbv
          refine ⟨false, ?_⟩
          try cbv
          refine ⟨false, ?_⟩
          try cbv
          refine op_pl ?_
          try cbv
          refine ⟨true, ?_⟩
          try cbv
          refine ⟨true, ?_⟩
          try cbv
          refine ⟨[], ?_⟩
          try cbv
          replace h := appF_inv h
          obtain ⟨l24, hb, hz, h⟩ := h
          refine ⟨[.agg [.int .u8 z18, .int .i64 z19, .str s20, .list true 6 l22, .int .i64 z21, .list false 1 l23]], rfl, ?_⟩
          try cbv
          refine ⟨(M.lock_iff _).2 hb, l24, hz, ?_⟩
          clear hb hz
          try cbv
          replace h := letF_inv h
          obtain ⟨z25, hz, h⟩ := h
          refine ⟨z25, hz, ?_⟩
          clear hz
          try cbv
          refine loop_nextG (m2, (z25, l24)) [] [(544, 224)] [1, 2, 3, 7, 8, 9] [.loc 0, .loc 32, .loc 544] 256 ⟨by omega, h⟩ (Nat.lt_succ_of_le (by omega)) ?_
          try cbv
end Go.Proofs.Ytiiojajgajnhpaa
end

set_option linter.unusedVariables false
noncomputable section
namespace Go.Proofs.Ytiiojajgajnhpaa
open Go Go.AM
def L30_4 : Nat → Int → Int → ByteArray → (List D) → Int → (List D) → Bool → Option (Int × Int × ByteArray × List D × Int × List D × Int)
  | 0, _, _, _, _, _, _, _ => none
  | n + 1, z10, z11, s12, l13, z14, l15, b29 =>
    (if b29 = true then some ((0 : Int), (0 : Int), ByteArray.empty, ([] : List D), (0 : Int), ([] : List D), (3 : Int)) else bO6 (F95z n z10 z11 s12 l13 z14 l15) fun z30 z31 s32 l33 z34 l35 => some (z30, z31, s32, l33, z34, l35, (0 : Int)))
mutual
def L30_1 : Nat → (List D) → Int → Int → Int → Int → ByteArray → (List D) → Int → (List D) → Option (Int × Int × ByteArray × List D × Int × List D × Int)
  | 0, _, _, _, _, _, _, _, _, _ => none
  | n + 1, l7, z8, z9, z10, z11, s12, l13, z14, l15 =>
    (if z9 < z8 then L30_2 n l7 z8 z9 z10 z11 s12 l13 z14 l15 true else L30_2 n l7 z8 z9 z10 z11 s12 l13 z14 l15 false)
def L30_2 : Nat → (List D) → Int → Int → Int → Int → ByteArray → (List D) → Int → (List D) → Bool → Option (Int × Int × ByteArray × List D × Int × List D × Int)
  | 0, _, _, _, _, _, _, _, _, _, _ => none
  | n + 1, l7, z8, z9, z10, z11, s12, l13, z14, l15, b16 =>
    (if b16 = true then getF l7 z9 fun x17 => ds_i64 x17 fun z18 => bO1 (F94 n z10 z11 s12 l13 z14 l15 z18) fun z19 => (if z19 = (0 : Int) then L30_3 n l7 z8 z9 l13 z18 z19 false else L30_3 n l7 z8 z9 l13 z18 z19 true) else (if z10 = (0 : Int) then L30_4 n z10 z11 s12 l13 z14 l15 true else L30_4 n z10 z11 s12 l13 z14 l15 false))
def L30_3 : Nat → (List D) → Int → Int → (List D) → Int → Int → Bool → Option (Int × Int × ByteArray × List D × Int × List D × Int)
  | 0, _, _, _, _, _, _, _ => none
  | n + 1, l7, z8, z9, l13, z18, z19, b20 =>
    (if b20 = true then some ((0 : Int), (0 : Int), ByteArray.empty, ([] : List D), (0 : Int), ([] : List D), z19) else getF l13 z18 fun x21 => ds_t49 x21 fun z22 z23 s24 l25 z26 l27 => letF (IntKind.wrap .i64 (z9 + 1)) fun z28 => L30_1 n l7 z8 z28 z22 z23 s24 l25 z26 l27)
end
def F30 (n : Nat) (z1 : Int) (z2 : Int) (s3 : ByteArray) (l4 : List D) (z5 : Int) (l6 : List D) (l7 : List D) : Option (Int × Int × ByteArray × List D × Int × List D × Int) :=
  lenF l7 fun z8 => L30_1 n l7 z8 (0 : Int) z1 z2 s3 l4 z5 l6
set_option maxRecDepth 100000 in
set_option maxHeartbeats 40000000 in
theorem T30 (n : Nat) : ∀ ⦃z1 : Int⦄ ⦃z2 : Int⦄ ⦃s3 : ByteArray⦄ ⦃l4 : List D⦄ ⦃z5 : Int⦄ ⦃l6 : List D⦄ ⦃l7 : List D⦄ ⦃r1 : Int⦄ ⦃r2 : Int⦄ ⦃r3 : ByteArray⦄ ⦃r4 : List D⦄ ⦃r5 : Int⦄ ⦃r6 : List D⦄ ⦃r7 : Int⦄, F30 n z1 z2 s3 l4 z5 l6 l7 = some (r1, r2, r3, r4, r5, r6, r7) →
    Trip Try.prog inv 30 [.d (.agg [.int .u8 z1, .int .i64 z2, .str s3, .list true 6 l4, .int .i64 z5, .list false 1 l6]), .d (.list false 1 l7)] [] (.t [.d (.agg [.int .u8 r1, .int .i64 r2, .str r3, .list true 6 r4, .int .i64 r5, .list false 1 r6]), .d (.int .u8 r7)]) [] [] := by
  intro z1 z2 s3 l4 z5 l6 l7 r1 r2 r3 r4 r5 r6 r7 h
  unfold F30 at h
  refine Trip.of tab_ok tab_one fol Try.func30 rfl (by kernel_rfl) rfl rfl rfl (fun M hM hI => ?_)
  try cbv
  refine seq_go ?_
  try cbv
  refine seq_go ?_
  try cbv
  refine seq_go ?_
  try cbv
  replace h := lenF_inv M h
  obtain ⟨z8, hz, h⟩ := h
  refine ⟨z8, hz, ?_⟩
  clear hz
  try cbv
  refine loop_inv (T := Nat × Int × Int × Int × ByteArray × List D × Int × List D) [2, 4, 5, 9, 10, 11] [.loc 0, .loc 32] 192 (fun t => ⟨[(2, .v (.c (.ptr (.loc 0) 0))), (4, .v (.c (.ptr (.loc 32) 0))), (5, .v (.d (.int .u8 0))), (9, .v (.d (.list false 1 l7))), (10, .v (.d (.int .i64 z8))), (11, .v (.d (.int .i64 t.2.1)))], [(.loc 0, .cells [.d (.int .u8 t.2.2.1), .d (.int .i64 t.2.2.2.1), .d (.str t.2.2.2.2.1), .d (.list true 6 t.2.2.2.2.2.1), .d (.int .i64 t.2.2.2.2.2.2.1), .d (.list false 1 t.2.2.2.2.2.2.2)]), (.loc 32, .cells [.d (.int .u8 0), .d (.int .i64 0), .d (.str ByteArray.empty), .nils true 6, .d (.int .i64 0), .nils false 1])], 192⟩)
    (fun t => t.1 ≤ n ∧ L30_1 t.1 l7 z8 t.2.1 t.2.2.1 t.2.2.2.1 t.2.2.2.2.1 t.2.2.2.2.2.1 t.2.2.2.2.2.2.1 t.2.2.2.2.2.2.2 = some (r1, r2, r3, r4, r5, r6, r7)) (fun t => t.1) (n, ((0 : Int), z1, z2, s3, l4, z5, l6)) ⟨Nat.le_refl _, h⟩ (by cbv) ?_
  clear h
  rintro ⟨m1, z9, z10, z11, s12, l13, z14, l15⟩ ⟨hm1, h⟩
  replace hm1 : m1 ≤ n := hm1
  cases m1 with
  | zero =>
    replace h : L30_1 0 l7 z8 z9 z10 z11 s12 l13 z14 l15 = some (r1, r2, r3, r4, r5, r6, r7) := h
    rw [L30_1] at h
    cases h
  | succ m1 =>
    replace h : L30_1 (m1 + 1) l7 z8 z9 z10 z11 s12 l13 z14 l15 = some (r1, r2, r3, r4, r5, r6, r7) := h
    rw [L30_1] at h
    try cbv
    refine seq_join (T := Nat × Bool) (fun t => ⟨[(2, .v (.c (.ptr (.loc 0) 0))), (4, .v (.c (.ptr (.loc 32) 0))), (5, .v (.d (.int .u8 0))), (9, .v (.d (.list false 1 l7))), (10, .v (.d (.int .i64 z8))), (11, .v (.d (.int .i64 z9))), (12, .v (.d (.bool t.2)))], [(.loc 0, .cells [.d (.int .u8 z10), .d (.int .i64 z11), .d (.str s12), .d (.list true 6 l13), .d (.int .i64 z14), .d (.list false 1 l15)]), (.loc 32, .cells [.d (.int .u8 0), .d (.int .i64 0), .d (.str ByteArray.empty), .nils true 6, .d (.int .i64 0), .nils false 1])], 224⟩) (fun t => t.1 ≤ m1 ∧ L30_2 t.1 l7 z8 z9 z10 z11 s12 l13 z14 l15 t.2 = some (r1, r2, r3, r4, r5, r6, r7)) ?_ ?_
    · try cbv
      refine splitL (fun e => ?_) (fun e => ?_)
      · replace h := ite_t e h
        clear e
        try cbv
        exact join_next (m1, true) [2, 4, 5, 9, 10, 11, 12] [.loc 0, .loc 32] 224 ⟨by omega, h⟩ (by cbv)
      · replace h := ite_f (Int.not_lt.2 e) h
        clear e
        try cbv
        exact join_next (m1, false) [2, 4, 5, 9, 10, 11, 12] [.loc 0, .loc 32] 224 ⟨by omega, h⟩ (by cbv)
    · clear h
      rintro ⟨m2, b16⟩ ⟨hm2, h⟩
      replace hm2 : m2 ≤ m1 := hm2
      cases m2 with
      | zero =>
        replace h : L30_2 0 l7 z8 z9 z10 z11 s12 l13 z14 l15 b16 = some (r1, r2, r3, r4, r5, r6, r7) := h
        rw [L30_2] at h
        cases h
      | succ m2 =>
        replace h : L30_2 (m2 + 1) l7 z8 z9 z10 z11 s12 l13 z14 l15 b16 = some (r1, r2, r3, r4, r5, r6, r7) := h
        rw [L30_2] at h
        try cbv
        refine seq_go ?_
        try cbv
        cases b16
        · replace h := ite_f Bool.false_ne_true h
          try cbv
          refine seq_go ?_
          try cbv
          refine seq_join (T := Nat × Bool) (fun t => ⟨[(2, .v (.c (.ptr (.loc 0) 0))), (4, .v (.c (.ptr (.loc 32) 0))), (5, .v (.d (.int .u8 0))), (30, .v (.d (.bool t.2)))], [(.loc 0, .cells [.d (.int .u8 z10), .d (.int .i64 z11), .d (.str s12), .d (.list true 6 l13), .d (.int .i64 z14), .d (.list false 1 l15)]), (.loc 32, .cells [.d (.int .u8 0), .d (.int .i64 0), .d (.str ByteArray.empty), .nils true 6, .d (.int .i64 0), .nils false 1])], 320⟩) (fun t => t.1 ≤ m2 ∧ L30_4 t.1 z10 z11 s12 l13 z14 l15 t.2 = some (r1, r2, r3, r4, r5, r6, r7)) ?_ ?_
          · try cbv
            refine splitI (fun e => ?_) (fun e => ?_)
            · replace h := ite_t e h
              clear e
              try cbv
              exact join_next (m2, true) [2, 4, 5, 30] [.loc 0, .loc 32] 320 ⟨by omega, h⟩ (by cbv)
            · replace h := ite_f e h
              clear e
              try cbv
              exact join_next (m2, false) [2, 4, 5, 30] [.loc 0, .loc 32] 320 ⟨by omega, h⟩ (by cbv)
          · clear h
            rintro ⟨m4, b29⟩ ⟨hm4, h⟩
            replace hm4 : m4 ≤ m2 := hm4
            cases m4 with
            | zero =>
              replace h : L30_4 0 z10 z11 s12 l13 z14 l15 b29 = some (r1, r2, r3, r4, r5, r6, r7) := h
              rw [L30_4] at h
              cases h
            | succ m4 =>
              replace h : L30_4 (m4 + 1) z10 z11 s12 l13 z14 l15 b29 = some (r1, r2, r3, r4, r5, r6, r7) := h
              rw [L30_4] at h
              try cbv
              cases b29
              · replace h := ite_f Bool.false_ne_true h
                try cbv
                refine seq_go ?_
                try cbv
                replace h := bO6_inv h
                obtain ⟨z30, z31, s32, l33, z34, l35, hr, h⟩ := h
                refine call_go rfl rfl ?_
                try cbv
                refine call_pure hM hI (T95z _ hr) rfl ?_
                clear hr
                try cbv
                obtain ⟨rfl, rfl, rfl, rfl, rfl, rfl, rfl⟩ := inj7 h
                refine fin_go ?_
                try cbv
                exact ⟨[], rfl, rfl, trivial, trivial, trivial⟩
              · replace h := ite_t rfl h
                try cbv
                refine seq_go ?_
                try cbv
                obtain ⟨rfl, rfl, rfl, rfl, rfl, rfl, rfl⟩ := inj7 h
                refine fin_go ?_
                try cbv
                exact ⟨[], rfl, rfl, trivial, trivial, trivial⟩
        · replace h := ite_t rfl h
          try cbv
          refine seq_go ?_
          try cbv
          refine seq_go ?_
          try cbv
          replace h := getF_inv h
          obtain ⟨x17, hx17, h⟩ := h
          replace h := ds_i64_inv h
          obtain ⟨z18, rfl, h⟩ := h
          refine ⟨_, hx17.1, hx17.2, ?_⟩
          try cbv
          refine seq_go ?_
          try cbv
          refine seq_go ?_
          try cbv
          replace h := bO1_inv h
          obtain ⟨z19, hr, h⟩ := h
          refine call_go rfl rfl ?_
          try cbv
          refine call_pure hM hI (T94 _ hr) rfl ?_
          clear hr
          try cbv
          refine seq_join (T := Nat × Bool) (fun t => ⟨[(2, .v (.c (.ptr (.loc 0) 0))), (4, .v (.c (.ptr (.loc 32) 0))), (5, .v (.d (.int .u8 0))), (7, .v (.d (.int .i64 z18))), (8, .v (.d (.int .u8 z19))), (9, .v (.d (.list false 1 l7))), (10, .v (.d (.int .i64 z8))), (11, .v (.d (.int .i64 z9))), (19, .v (.d (.bool t.2)))], [(.loc 0, .cells [.d (.int .u8 z10), .d (.int .i64 z11), .d (.str s12), .d (.list true 6 l13), .d (.int .i64 z14), .d (.list false 1 l15)]), (.loc 32, .cells [.d (.int .u8 0), .d (.int .i64 0), .d (.str ByteArray.empty), .nils true 6, .d (.int .i64 0), .nils false 1])], 512⟩) (fun t => t.1 ≤ m2 ∧ L30_3 t.1 l7 z8 z9 l13 z18 z19 t.2 = some (r1, r2, r3, r4, r5, r6, r7)) ?_ ?_
          · try cbv
            refine splitI (fun e => ?_) (fun e => ?_)
            · replace h := ite_t e h
              clear e
              try cbv
              exact join_next (m2, false) [2, 4, 5, 7, 8, 9, 10, 11, 19] [.loc 0, .loc 32] 512 ⟨by omega, h⟩ (by cbv)
            · replace h := ite_f e h
              clear e
              try cbv
              exact join_next (m2, true) [2, 4, 5, 7, 8, 9, 10, 11, 19] [.loc 0, .loc 32] 512 ⟨by omega, h⟩ (by cbv)
          · clear h
            rintro ⟨m3, b20⟩ ⟨hm3, h⟩
            replace hm3 : m3 ≤ m2 := hm3
            cases m3 with
            | zero =>
              replace h : L30_3 0 l7 z8 z9 l13 z18 z19 b20 = some (r1, r2, r3, r4, r5, r6, r7) := h
              rw [L30_3] at h
              cases h
            | succ m3 =>
              replace h : L30_3 (m3 + 1) l7 z8 z9 l13 z18 z19 b20 = some (r1, r2, r3, r4, r5, r6, r7) := h
              rw [L30_3] at h
              try cbv
              cases b20
              · replace h := ite_f Bool.false_ne_true h
                try cbv
                replace h := getF_inv h
                obtain ⟨x21, hx21, h⟩ := h
                replace h := ds_t49_inv h
                obtain ⟨z22, z23, s24, l25, z26, l27, rfl, h⟩ := h
                refine ⟨_, hx21.1, hx21.2, ?_⟩
                try cbv
                replace h := letF_inv h
                obtain ⟨z28, hz, h⟩ := h
                refine ⟨z28, hz, ?_⟩
                clear hz
                try cbv
                exact loop_next (m3, (z28, z22, z23, s24, l25, z26, l27)) [2, 4, 5, 9, 10, 11] [.loc 0, .loc 32] 192 ⟨by omega, h⟩ (Nat.lt_succ_of_le (by omega)) (by cbv)
              · replace h := ite_t rfl h
                try cbv
                refine seq_go ?_
                try cbv
                obtain ⟨rfl, rfl, rfl, rfl, rfl, rfl, rfl⟩ := inj7 h
                refine fin_go ?_
                try cbv
                exact ⟨[], rfl, rfl, trivial, trivial, trivial⟩
end Go.Proofs.Ytiiojajgajnhpaa
end

set_option linter.unusedVariables false
noncomputable section
namespace Go.Proofs.Ytiiojajgajnhpaa
open Go Go.AM
def L94x1_2 : Nat → (List D) → (List D) → Bool → Option (Int × List D × List D)
  | 0, _, _, _ => none
  | n + 1, l6, l7, b11 =>
    (if b11 = true then some ((6 : Int), l6, l7) else some ((0 : Int), l6, l7))
def L94x1_1 : Nat → Int → Int → (List D) → (List D) → Bool → Option (Int × List D × List D)
  | 0, _, _, _, _, _ => none
  | n + 1, z1, z5, l6, l7, b8 =>
    (if b8 = true then some ((3 : Int), l6, l7) else (if z1 = (4 : Int) then (if z5 < (0 : Int) then L94x1_2 n l6 l7 true else lenF l6 fun z9 => (if z9 ≤ z5 then L94x1_2 n l6 l7 true else L94x1_2 n l6 l7 false)) else (if z1 = (5 : Int) then (if z5 < (0 : Int) then L94x1_2 n l6 l7 true else lenF l6 fun z10 => (if z10 ≤ z5 then L94x1_2 n l6 l7 true else L94x1_2 n l6 l7 false)) else L94x1_2 n l6 l7 true)))
def F94x1 (n : Nat) (z1 : Int) (z2 : Int) (s3 : ByteArray) (z4 : Int) (z5 : Int) (l6 : List D) (l7 : List D) : Option (Int × List D × List D) :=
  (if z1 = (0 : Int) then L94x1_1 n z1 z5 l6 l7 true else L94x1_1 n z1 z5 l6 l7 false)
set_option maxRecDepth 100000 in
set_option maxHeartbeats 40000000 in
theorem T94x1 (n : Nat) : ∀ ⦃z1 : Int⦄ ⦃z2 : Int⦄ ⦃s3 : ByteArray⦄ ⦃z4 : Int⦄ ⦃z5 : Int⦄ ⦃l6 : List D⦄ ⦃l7 : List D⦄ ⦃r1 : Int⦄ ⦃r2 : List D⦄ ⦃r3 : List D⦄, F94x1 n z1 z2 s3 z4 z5 l6 l7 = some (r1, r2, r3) →
    Trip Try.prog inv 94 [.agg [.d (.int .u8 z1), .d (.int .i64 z2), .d (.str s3), .ow (.ext 0), .d (.int .i64 z4), .ow (.ext 1)], .d (.int .i64 z5)] [.tree .row true 6 l6 none, .tree .row false 1 l7 none] (.v (.d (.int .u8 r1))) [.tree .row true 6 r2 none, .tree .row false 1 r3 none] [] := by
  intro z1 z2 s3 z4 z5 l6 l7 r1 r2 r3 h
  unfold F94x1 at h
  refine Trip.of tab_ok tab_one fol Try.func94 rfl (by kernel_rfl) rfl rfl rfl (fun M hM hI => ?_)
  try cbv
  refine seq_go ?_
  try cbv
  refine seq_go ?_
  try cbv
  refine seq_join (T := Nat × Bool) (fun t => ⟨[(1, .v (.d (.int .i64 z5))), (2, .v (.c (.ptr (.loc 0) 0))), (4, .v (.d (.int .u8 0))), (5, .v (.d (.bool t.2)))], [(.ext 0, .tree .row true 6 l6 none), (.ext 1, .tree .row false 1 l7 none), (.loc 0, .cells [.d (.int .u8 z1), .d (.int .i64 z2), .d (.str s3), .ow (.ext 0), .d (.int .i64 z4), .ow (.ext 1)])], 192⟩) (fun t => t.1 ≤ n ∧ L94x1_1 t.1 z1 z5 l6 l7 t.2 = some (r1, r2, r3)) ?_ ?_
  · try cbv
    refine splitI (fun e => ?_) (fun e => ?_)
    · replace h := ite_t e h
      clear e
      try cbv
      exact join_next (n, true) [1, 2, 4, 5] [.ext 0, .ext 1, .loc 0] 192 ⟨by omega, h⟩ (by cbv)
    · replace h := ite_f e h
      clear e
      try cbv
      exact join_next (n, false) [1, 2, 4, 5] [.ext 0, .ext 1, .loc 0] 192 ⟨by omega, h⟩ (by cbv)
  · clear h
    rintro ⟨m1, b8⟩ ⟨hm1, h⟩
    replace hm1 : m1 ≤ n := hm1
    cases m1 with
    | zero =>
      replace h : L94x1_1 0 z1 z5 l6 l7 b8 = some (r1, r2, r3) := h
      rw [L94x1_1] at h
      cases h
    | succ m1 =>
      replace h : L94x1_1 (m1 + 1) z1 z5 l6 l7 b8 = some (r1, r2, r3) := h
      rw [L94x1_1] at h
      try cbv
      cases b8
      · replace h := ite_f Bool.false_ne_true h
        try cbv
        refine seq_join (T := Nat × Bool) (fun t => ⟨[(4, .v (.d (.int .u8 0))), (9, .v (.d (.bool t.2)))], [(.ext 0, .tree .row true 6 l6 none), (.ext 1, .tree .row false 1 l7 none)], 832⟩) (fun t => t.1 ≤ m1 ∧ L94x1_2 t.1 l6 l7 t.2 = some (r1, r2, r3)) ?_ ?_
        · try cbv
          refine splitI (fun e => ?_) (fun e => ?_)
          · replace h := ite_t e h
            clear e
            try cbv
            refine splitL (fun e => ?_) (fun e => ?_)
            · replace h := ite_t e h
              clear e
              try cbv
              exact join_next (m1, true) [4, 9] [.ext 0, .ext 1] 832 ⟨by omega, h⟩ (by cbv)
            · replace h := ite_f (Int.not_lt.2 e) h
              clear e
              try cbv
              replace h := lenF_inv M h
              obtain ⟨z9, hz, h⟩ := h
              refine ⟨false, ?_⟩
              try cbv
              refine ⟨z9, hz, ?_⟩
              clear hz
              try cbv
              refine splitLe (fun e => ?_) (fun e => ?_)
              · replace h := ite_t e h
                clear e
                try cbv
                exact join_next (m1, true) [4, 9] [.ext 0, .ext 1] 832 ⟨by omega, h⟩ (by cbv)
              · replace h := ite_f (Int.not_le.2 e) h
                clear e
                try cbv
                exact join_next (m1, false) [4, 9] [.ext 0, .ext 1] 832 ⟨by omega, h⟩ (by cbv)
          · replace h := ite_f e h
            clear e
            try cbv
            refine splitI (fun e => ?_) (fun e => ?_)
            · replace h := ite_t e h
              clear e
              try cbv
              refine splitL (fun e => ?_) (fun e => ?_)
              · replace h := ite_t e h
                clear e
                try cbv
                exact join_next (m1, true) [4, 9] [.ext 0, .ext 1] 832 ⟨by omega, h⟩ (by cbv)
              · replace h := ite_f (Int.not_lt.2 e) h
                clear e
                try cbv
                replace h := lenF_inv M h
                obtain ⟨z10, hz, h⟩ := h
                refine ⟨false, ?_⟩
                try cbv
                refine ⟨z10, hz, ?_⟩
                clear hz
                try cbv
                refine splitLe (fun e => ?_) (fun e => ?_)
                · replace h := ite_t e h
                  clear e
                  try cbv
                  exact join_next (m1, true) [4, 9] [.ext 0, .ext 1] 832 ⟨by omega, h⟩ (by cbv)
                · replace h := ite_f (Int.not_le.2 e) h
                  clear e
                  try cbv
                  exact join_next (m1, false) [4, 9] [.ext 0, .ext 1] 832 ⟨by omega, h⟩ (by cbv)
            · replace h := ite_f e h
              clear e
              try cbv
              exact join_next (m1, true) [4, 9] [.ext 0, .ext 1] 832 ⟨by omega, h⟩ (by cbv)
        · clear h
          rintro ⟨m2, b11⟩ ⟨hm2, h⟩
          replace hm2 : m2 ≤ m1 := hm2
          cases m2 with
          | zero =>
            replace h : L94x1_2 0 l6 l7 b11 = some (r1, r2, r3) := h
            rw [L94x1_2] at h
            cases h
          | succ m2 =>
            replace h : L94x1_2 (m2 + 1) l6 l7 b11 = some (r1, r2, r3) := h
            rw [L94x1_2] at h
            try cbv
            cases b11
            · replace h := ite_f Bool.false_ne_true h
              try cbv
              refine seq_go ?_
              try cbv
              obtain ⟨rfl, rfl, rfl⟩ := inj3 h
              refine fin_go ?_
              try cbv
              exact ⟨[], rfl, rfl, ⟨rfl, ⟨rfl, trivial⟩⟩, trivial, trivial⟩
            · replace h := ite_t rfl h
              try cbv
              refine seq_go ?_
              try cbv
              obtain ⟨rfl, rfl, rfl⟩ := inj3 h
              refine fin_go ?_
              try cbv
              exact ⟨[], rfl, rfl, ⟨rfl, ⟨rfl, trivial⟩⟩, trivial, trivial⟩
      · replace h := ite_t rfl h
        try cbv
        refine seq_go ?_
        try cbv
        obtain ⟨rfl, rfl, rfl⟩ := inj3 h
        refine fin_go ?_
        try cbv
        exact ⟨[], rfl, rfl, ⟨rfl, ⟨rfl, trivial⟩⟩, trivial, trivial⟩
end Go.Proofs.Ytiiojajgajnhpaa
end

set_option linter.unusedVariables false
noncomputable section
namespace Go.Proofs.Ytiiojajgajnhpaa
open Go Go.AM
mutual
def L97_1 : Nat → Int → Int → ByteArray → Int → (List D) → (List D) → (List D) → Int → Int → ByteArray → (List D) → Int → (List D) → Int → Bool → Option (Int × Int × ByteArray × Int × Int × Int × ByteArray × List D × Int × List D × Int × List D × List D)
  | 0, _, _, _, _, _, _, _, _, _, _, _, _, _, _, _ => none
  | n + 1, z1, z2, s3, z4, l5, l6, l7, z8, z9, s10, l11, z12, l13, z14, b16 =>
    (if b16 = true then bO6 (F95 n z8 z9 s10 l11 z12 l13) fun z17 z18 s19 z20 l21 l22 => some (z17, z18, s19, z20, z8, z9, s10, l11, z12, l13, z14, l21, l22) else getF l5 0 fun x23 => ds_i64 x23 fun z24 => bO3 (F94x1 n z1 z2 s3 z4 z24 l6 l7) fun z25 l26 l27 => (if z25 = (0 : Int) then L97_2 n z1 z2 s3 z4 l5 z8 z9 s10 l11 z12 l13 z24 z25 l26 l27 true else L97_2 n z1 z2 s3 z4 l5 z8 z9 s10 l11 z12 l13 z24 z25 l26 l27 false))
def L97_2 : Nat → Int → Int → ByteArray → Int → (List D) → Int → Int → ByteArray → (List D) → Int → (List D) → Int → Int → (List D) → (List D) → Bool → Option (Int × Int × ByteArray × Int × Int × Int × ByteArray × List D × Int × List D × Int × List D × List D)
  | 0, _, _, _, _, _, _, _, _, _, _, _, _, _, _, _, _ => none
  | n + 1, z1, z2, s3, z4, l5, z8, z9, s10, l11, z12, l13, z24, z25, l26, l27, b28 =>
    (if b28 = true then needF (0 ≤ z24 ∧ z24.toNat < l26.length) (getN l26 (z24.toNat) fun x29 => ds_t49 x29 fun z30 z31 s32 l33 z34 l35 => fromF l5 (1 : Int) fun l36 => bO13 (F97 n z30 z31 s32 z34 l36 l33 l35 z8 z9 s10 l11 z12 l13 z25) fun z37 z38 s39 z40 z41 z42 s43 l44 z45 l46 z47 l48 l49 => needF (0 ≤ z24 ∧ z24.toNat < l26.length) (setF l26 (z24.toNat) (.agg [.int .u8 z37, .int .i64 z38, .str s39, .list true 6 l48, .int .i64 z40, .list false 1 l49]) fun l50 => L97_3 n z1 z2 s3 z4 l50 l27 z41 z42 s43 l44 z45 l46 z47)) else L97_3 n z1 z2 s3 z4 l26 l27 z8 z9 s10 l11 z12 l13 z25)
def L97_3 : Nat → Int → Int → ByteArray → Int → (List D) → (List D) → Int → Int → ByteArray → (List D) → Int → (List D) → Int → Option (Int × Int × ByteArray × Int × Int × Int × ByteArray × List D × Int × List D × Int × List D × List D)
  | 0, _, _, _, _, _, _, _, _, _, _, _, _, _ => none
  | n + 1, z1, z2, s3, z4, l51, l52, z53, z54, s55, l56, z57, l58, z59 =>
    some (z1, z2, s3, z4, z53, z54, s55, l56, z57, l58, z59, l51, l52)
def F97 : Nat → Int → Int → ByteArray → Int → (List D) → (List D) → (List D) → Int → Int → ByteArray → (List D) → Int → (List D) → Int → Option (Int × Int × ByteArray × Int × Int × Int × ByteArray × List D × Int × List D × Int × List D × List D)
  | 0, _, _, _, _, _, _, _, _, _, _, _, _, _, _ => none
  | n + 1, z1, z2, s3, z4, l5, l6, l7, z8, z9, s10, l11, z12, l13, z14 =>
    lenF l5 fun z15 => (if z15 = (0 : Int) then L97_1 n z1 z2 s3 z4 l5 l6 l7 z8 z9 s10 l11 z12 l13 z14 true else L97_1 n z1 z2 s3 z4 l5 l6 l7 z8 z9 s10 l11 z12 l13 z14 false)
end
set_option maxRecDepth 100000 in
set_option maxHeartbeats 40000000 in
theorem T97 (n : Nat) : ∀ ⦃z1 : Int⦄ ⦃z2 : Int⦄ ⦃s3 : ByteArray⦄ ⦃z4 : Int⦄ ⦃l5 : List D⦄ ⦃l6 : List D⦄ ⦃l7 : List D⦄ ⦃z8 : Int⦄ ⦃z9 : Int⦄ ⦃s10 : ByteArray⦄ ⦃l11 : List D⦄ ⦃z12 : Int⦄ ⦃l13 : List D⦄ ⦃z14 : Int⦄ ⦃r1 : Int⦄ ⦃r2 : Int⦄ ⦃r3 : ByteArray⦄ ⦃r4 : Int⦄ ⦃r5 : Int⦄ ⦃r6 : Int⦄ ⦃r7 : ByteArray⦄ ⦃r8 : List D⦄ ⦃r9 : Int⦄ ⦃r10 : List D⦄ ⦃r11 : Int⦄ ⦃r12 : List D⦄ ⦃r13 : List D⦄, F97 n z1 z2 s3 z4 l5 l6 l7 z8 z9 s10 l11 z12 l13 z14 = some (r1, r2, r3, r4, r5, r6, r7, r8, r9, r10, r11, r12, r13) →
    Trip Try.prog inv 97 [.agg [.d (.int .u8 z1), .d (.int .i64 z2), .d (.str s3), .ow (.ext 0), .d (.int .i64 z4), .ow (.ext 1)], .d (.list false 1 l5), .c (.ptr (.ext 2) 0), .c (.ptr (.ext 3) 0), .c (.ptr (.ext 4) 0)] [.tree .row true 6 l6 none, .tree .row false 1 l7 none, .cells [.d (.int .u8 z8), .d (.int .i64 z9), .d (.str s10), .d (.list true 6 l11), .d (.int .i64 z12), .d (.list false 1 l13)], .cells [.d (.int .u8 z14)], .cells [.fn 97 [.ext 2, .ext 3, .ext 4]]] (.v (.agg [.d (.int .u8 r1), .d (.int .i64 r2), .d (.str r3), .ow (.loc 0), .d (.int .i64 r4), .ow (.loc 1)])) [.gone, .gone, .cells [.d (.int .u8 r5), .d (.int .i64 r6), .d (.str r7), .d (.list true 6 r8), .d (.int .i64 r9), .d (.list false 1 r10)], .cells [.d (.int .u8 r11)], .cells [.fn 97 [.ext 2, .ext 3, .ext 4]]] [.tree .row true 6 r12 none, .tree .row false 1 r13 none] := by
  induction n using Nat.strongRecOn with
  | _ n ih =>
    cases n with
    | zero =>
      intro z1 z2 s3 z4 l5 l6 l7 z8 z9 s10 l11 z12 l13 z14 r1 r2 r3 r4 r5 r6 r7 r8 r9 r10 r11 r12 r13 h
      cases (show (none : Option _) = some _ from h)
    | succ n =>
      intro z1 z2 s3 z4 l5 l6 l7 z8 z9 s10 l11 z12 l13 z14 r1 r2 r3 r4 r5 r6 r7 r8 r9 r10 r11 r12 r13 h
      rw [F97] at h
      refine Trip.of tab_ok tab_one fol Try.func97 rfl (by kernel_rfl) rfl rfl rfl (fun M hM hI => ?_)
      try cbv
      refine seq_go ?_
      try cbv
      refine seq_go ?_
      try cbv
      refine seq_join (T := Nat × Bool) (fun t => ⟨[(1, .v (.d (.list false 1 l5))), (2, .v (.c (.ptr (.ext 2) 0))), (3, .v (.c (.ptr (.ext 3) 0))), (4, .v (.c (.ptr (.ext 4) 0))), (5, .v (.c (.ptr (.loc 0) 0))), (7, .v (.c (.ptr (.loc 32) 0))), (10, .v (.d (.bool t.2)))], [(.ext 0, .tree .row true 6 l6 none), (.ext 1, .tree .row false 1 l7 none), (.ext 2, .cells [.d (.int .u8 z8), .d (.int .i64 z9), .d (.str s10), .d (.list true 6 l11), .d (.int .i64 z12), .d (.list false 1 l13)]), (.ext 3, .cells [.d (.int .u8 z14)]), (.ext 4, .cells [.fn 97 [.ext 2, .ext 3, .ext 4]]), (.loc 0, .cells [.d (.int .u8 z1), .d (.int .i64 z2), .d (.str s3), .ow (.ext 0), .d (.int .i64 z4), .ow (.ext 1)]), (.loc 32, .cells [.d (.int .u8 0), .d (.int .i64 0), .d (.str ByteArray.empty), .nils true 6, .d (.int .i64 0), .nils false 1])], 160⟩) (fun t => t.1 ≤ n ∧ L97_1 t.1 z1 z2 s3 z4 l5 l6 l7 z8 z9 s10 l11 z12 l13 z14 t.2 = some (r1, r2, r3, r4, r5, r6, r7, r8, r9, r10, r11, r12, r13)) ?_ ?_
      · try cbv
        replace h := lenF_inv M h
        obtain ⟨z15, hz, h⟩ := h
        refine ⟨z15, hz, ?_⟩
        clear hz
        try cbv
        refine splitI (fun e => ?_) (fun e => ?_)
        · replace h := ite_t e h
          clear e
          try cbv
          exact join_next (n, true) [1, 2, 3, 4, 5, 7, 10] [.ext 0, .ext 1, .ext 2, .ext 3, .ext 4, .loc 0, .loc 32] 160 ⟨by omega, h⟩ (by cbv)
        · replace h := ite_f e h
          clear e
          try cbv
          exact join_next (n, false) [1, 2, 3, 4, 5, 7, 10] [.ext 0, .ext 1, .ext 2, .ext 3, .ext 4, .loc 0, .loc 32] 160 ⟨by omega, h⟩ (by cbv)
      · clear h
        rintro ⟨m1, b16⟩ ⟨hm1, h⟩
        replace hm1 : m1 ≤ n := hm1
        cases m1 with
        | zero =>
          replace h : L97_1 0 z1 z2 s3 z4 l5 l6 l7 z8 z9 s10 l11 z12 l13 z14 b16 = some (r1, r2, r3, r4, r5, r6, r7, r8, r9, r10, r11, r12, r13) := h
          rw [L97_1] at h
          cases h
        | succ m1 =>
          replace h : L97_1 (m1 + 1) z1 z2 s3 z4 l5 l6 l7 z8 z9 s10 l11 z12 l13 z14 b16 = some (r1, r2, r3, r4, r5, r6, r7, r8, r9, r10, r11, r12, r13) := h
          rw [L97_1] at h
          try cbv
          cases b16
          · replace h := ite_f Bool.false_ne_true h
            try cbv
            refine seq_join (T := Nat × List D × List D × Int × Int × ByteArray × List D × Int × List D × Int) (fun t => ⟨[(5, .v (.c (.ptr (.loc 0) 0))), (7, .v (.c (.ptr (.loc 32) 0)))], [(.ext 0, .tree .row true 6 t.2.1 none), (.ext 1, .tree .row false 1 t.2.2.1 none), (.ext 2, .cells [.d (.int .u8 t.2.2.2.1), .d (.int .i64 t.2.2.2.2.1), .d (.str t.2.2.2.2.2.1), .d (.list true 6 t.2.2.2.2.2.2.1), .d (.int .i64 t.2.2.2.2.2.2.2.1), .d (.list false 1 t.2.2.2.2.2.2.2.2.1)]), (.ext 3, .cells [.d (.int .u8 t.2.2.2.2.2.2.2.2.2)]), (.ext 4, .cells [.fn 97 [.ext 2, .ext 3, .ext 4]]), (.loc 0, .cells [.d (.int .u8 z1), .d (.int .i64 z2), .d (.str s3), .ow (.ext 0), .d (.int .i64 z4), .ow (.ext 1)]), (.loc 32, .cells [.d (.int .u8 0), .d (.int .i64 0), .d (.str ByteArray.empty), .nils true 6, .d (.int .i64 0), .nils false 1])], 992⟩) (fun t => t.1 ≤ m1 ∧ L97_3 t.1 z1 z2 s3 z4 t.2.1 t.2.2.1 t.2.2.2.1 t.2.2.2.2.1 t.2.2.2.2.2.1 t.2.2.2.2.2.2.1 t.2.2.2.2.2.2.2.1 t.2.2.2.2.2.2.2.2.1 t.2.2.2.2.2.2.2.2.2 = some (r1, r2, r3, r4, r5, r6, r7, r8, r9, r10, r11, r12, r13)) ?_ ?_
            · try cbv
              refine seq_go ?_
              try cbv
              replace h := getF_inv h
              obtain ⟨x23, hx23, h⟩ := h
              replace h := ds_i64_inv h
              obtain ⟨z24, rfl, h⟩ := h
              refine ⟨_, hx23.1, hx23.2, ?_⟩
              try cbv
              replace h := bO3_inv h
              obtain ⟨z25, l26, l27, hr, h⟩ := h
              first | refine .inr (.inl ⟨[], ?_⟩) | refine .inl ⟨[], ?_⟩
              try cbv
              refine call_with hM hI [.ext 0, .ext 1] (T94x1 _ hr) rfl (by simp) ⟨rfl, ⟨rfl, trivial⟩⟩ ⟨trivial, ⟨trivial, trivial⟩⟩ (by simp) ?_
              clear hr
              try cbv
              refine drawn ?_ ?_
              · show _ = true
                kernel_rfl
              try cbv
              refine seq_join (T := Nat × Bool) (fun t => ⟨[(1, .v (.d (.list false 1 l5))), (4, .v (.c (.ptr (.ext 4) 0))), (5, .v (.c (.ptr (.loc 0) 0))), (7, .v (.c (.ptr (.loc 32) 0))), (19, .v (.d (.bool t.2)))], [(.ext 0, .tree .row true 6 l26 none), (.ext 1, .tree .row false 1 l27 none), (.ext 2, .cells [.d (.int .u8 z8), .d (.int .i64 z9), .d (.str s10), .d (.list true 6 l11), .d (.int .i64 z12), .d (.list false 1 l13)]), (.ext 3, .cells [.d (.int .u8 z25)]), (.ext 4, .cells [.fn 97 [.ext 2, .ext 3, .ext 4]]), (.loc 0, .cells [.d (.int .u8 z1), .d (.int .i64 z2), .d (.str s3), .ow (.ext 0), .d (.int .i64 z4), .ow (.ext 1)]), (.loc 32, .cells [.d (.int .u8 0), .d (.int .i64 0), .d (.str ByteArray.empty), .nils true 6, .d (.int .i64 0), .nils false 1])], 416⟩) (fun t => t.1 ≤ m1 ∧ L97_2 t.1 z1 z2 s3 z4 l5 z8 z9 s10 l11 z12 l13 z24 z25 l26 l27 t.2 = some (r1, r2, r3, r4, r5, r6, r7, r8, r9, r10, r11, r12, r13)) ?_ ?_
              · try cbv
                refine splitI (fun e => ?_) (fun e => ?_)
                · replace h := ite_t e h
                  clear e
                  try cbv
                  exact join_next (m1, true) [1, 4, 5, 7, 19] [.ext 0, .ext 1, .ext 2, .ext 3, .ext 4, .loc 0, .loc 32] 416 ⟨by omega, h⟩ (by cbv)
                · replace h := ite_f e h
                  clear e
                  try cbv
                  exact join_next (m1, false) [1, 4, 5, 7, 19] [.ext 0, .ext 1, .ext 2, .ext 3, .ext 4, .loc 0, .loc 32] 416 ⟨by omega, h⟩ (by cbv)
              · clear h
                rintro ⟨m2, b28⟩ ⟨hm2, h⟩
                replace hm2 : m2 ≤ m1 := hm2
                cases m2 with
                | zero =>
                  replace h : L97_2 0 z1 z2 s3 z4 l5 z8 z9 s10 l11 z12 l13 z24 z25 l26 l27 b28 = some (r1, r2, r3, r4, r5, r6, r7, r8, r9, r10, r11, r12, r13) := h
                  rw [L97_2] at h
                  cases h
                | succ m2 =>
                  replace h : L97_2 (m2 + 1) z1 z2 s3 z4 l5 z8 z9 s10 l11 z12 l13 z24 z25 l26 l27 b28 = some (r1, r2, r3, r4, r5, r6, r7, r8, r9, r10, r11, r12, r13) := h
                  rw [L97_2] at h
                  try cbv
                  cases b28
                  · replace h := ite_f Bool.false_ne_true h
                    try cbv
                    exact join_next (m2, (l26, l27, z8, z9, s10, l11, z12, l13, z25)) [5, 7] [.ext 0, .ext 1, .ext 2, .ext 3, .ext 4, .loc 0, .loc 32] 992 ⟨by omega, h⟩ (by cbv)
                  · replace h := ite_t rfl h
                    try cbv
                    refine ⟨_, hx23.1, hx23.2, ?_⟩
                    try cbv
                    refine ⟨_, hx23.1, hx23.2, ?_⟩
                    try cbv
                    replace h := needF_inv h
                    obtain ⟨hn, h⟩ := h
                    refine ⟨(M.lock_iff _).2 hn, ?_⟩
                    clear hn
                    try cbv
                    refine ⟨[], ?_⟩
                    try cbv
                    replace h := getN_inv h
                    obtain ⟨x29, hx, h⟩ := h
                    replace h := ds_t49_inv h
                    obtain ⟨z30, z31, s32, l33, z34, l35, rfl, h⟩ := h
                    refine ⟨_, hx, ?_⟩
                    clear hx
                    try cbv
                    refine ⟨false, ?_⟩
                    try cbv
                    replace h := fromF_inv M h
                    obtain ⟨l36, hb, hz, h⟩ := h
                    refine ⟨l36, hb, hz, ?_⟩
                    clear hb hz
                    try cbv
                    replace h := bO13_inv h
                    obtain ⟨z37, z38, s39, z40, z41, z42, s43, l44, z45, l46, z47, l48, l49, hr, h⟩ := h
                    first | refine .inr (.inr ⟨[.ext 4], ?_⟩) | refine .inr ⟨[.ext 4], ?_⟩
                    try cbv
                    refine call_with hM hI [.loc 803, .loc 805, .ext 2, .ext 3, .ext 4] ((ih _ (by omega)) hr) rfl (by simp) ⟨rfl, ⟨rfl, ⟨rfl, ⟨rfl, ⟨rfl, trivial⟩⟩⟩⟩⟩ ⟨trivial, ⟨trivial, ⟨trivial, ⟨trivial, ⟨trivial, trivial⟩⟩⟩⟩⟩ (by simp) ?_
                    try cbv
                    first | refine ⟨(rfl : (_ : Option AObj) = _), ?_⟩ | skip
                    try cbv
                    clear hr
                    try cbv
                    replace h := needF_inv h
                    obtain ⟨hn, h⟩ := h
                    refine ⟨(M.lock_iff _).2 hn, ?_⟩
                    clear hn
                    try cbv
                    refine ⟨[], ?_⟩
                    try cbv
                    first | refine ⟨(rfl : (_ : Nat) = _), ?_⟩ | skip
                    try cbv
                    refine drawn ?_ ?_
                    · show _ = true
                      kernel_rfl
                    try cbv
                    replace h := setF_inv h
                    obtain ⟨l50, hl50, h⟩ := h
                    refine join_nextG (m2, (l50, l27, z41, z42, s43, l44, z45, l46, z47)) [.close (.ext 0)] [] [5, 7] [.ext 0, .ext 1, .ext 2, .ext 3, .ext 4, .loc 0, .loc 32] 992 ⟨by omega, h⟩ ?_
                    try cbv
                    refine ⟨l50, hl50, ?_⟩
                    clear hl50
                    try cbv
                    first | done | exact rfl | cbv
            · clear h
              rintro ⟨m3, l51, l52, z53, z54, s55, l56, z57, l58, z59⟩ ⟨hm3, h⟩
              replace hm3 : m3 ≤ m1 := hm3
              cases m3 with
              | zero =>
                replace h : L97_3 0 z1 z2 s3 z4 l51 l52 z53 z54 s55 l56 z57 l58 z59 = some (r1, r2, r3, r4, r5, r6, r7, r8, r9, r10, r11, r12, r13) := h
                rw [L97_3] at h
                cases h
              | succ m3 =>
                replace h : L97_3 (m3 + 1) z1 z2 s3 z4 l51 l52 z53 z54 s55 l56 z57 l58 z59 = some (r1, r2, r3, r4, r5, r6, r7, r8, r9, r10, r11, r12, r13) := h
                rw [L97_3] at h
                try cbv
                refine seq_go ?_
                try cbv
                obtain ⟨rfl, rfl, rfl, rfl, rfl, rfl, rfl, rfl, rfl, rfl, rfl, rfl, rfl⟩ := inj13 h
                refine ⟨_, _, _, ⟨rfl, rfl, rfl⟩, [.move (.ext 0), .move (.ext 1)], ?_⟩
                try cbv
                exact ⟨[.loc 1056, .loc 1088], rfl, rfl, ⟨rfl, ⟨rfl, ⟨rfl, trivial⟩⟩⟩, ⟨rfl, ⟨rfl, trivial⟩⟩, trivial⟩
          · replace h := ite_t rfl h
            try cbv
            refine seq_go ?_
            try cbv
            replace h := bO6_inv h
            obtain ⟨z17, z18, s19, z20, l21, l22, hr, h⟩ := h
            refine call_go rfl rfl ?_
            try cbv
            refine call_with hM hI [] (T95 _ hr) rfl (by simp) trivial trivial (by simp) ?_
            clear hr
            try cbv
            obtain ⟨rfl, rfl, rfl, rfl, rfl, rfl, rfl, rfl, rfl, rfl, rfl, rfl, rfl⟩ := inj13 h
            refine ⟨_, _, _, ⟨rfl, rfl, rfl⟩, [.drop (.ext 0), .drop (.ext 1)], ?_⟩
            try cbv
            exact ⟨[.loc 192, .loc 193], rfl, rfl, ⟨rfl, ⟨rfl, ⟨rfl, trivial⟩⟩⟩, ⟨rfl, ⟨rfl, trivial⟩⟩, trivial⟩
end Go.Proofs.Ytiiojajgajnhpaa
end

set_option linter.unusedVariables false
noncomputable section
namespace Go.Proofs.Ytiiojajgajnhpaa
open Go Go.AM
def L32_1 : Nat → Int → Int → ByteArray → Int → Int → (List D) → (List D) → Bool → Option (Int × Int × ByteArray × List D × Int × List D × Int)
  | 0, _, _, _, _, _, _, _, _ => none
  | n + 1, z20, z21, s22, z23, z30, l31, l32, b33 =>
    (if b33 = true then some ((0 : Int), (0 : Int), ByteArray.empty, ([] : List D), (0 : Int), ([] : List D), z30) else some (z20, z21, s22, l31, z23, l32, (0 : Int)))
def F32 (n : Nat) (z1 : Int) (z2 : Int) (s3 : ByteArray) (l4 : List D) (z5 : Int) (l6 : List D) (l7 : List D) (z8 : Int) (z9 : Int) (s10 : ByteArray) (l11 : List D) (z12 : Int) (l13 : List D) : Option (Int × Int × ByteArray × List D × Int × List D × Int) :=
  bO6 (F95 n z1 z2 s3 l4 z5 l6) fun z14 z15 s16 z17 l18 l19 => bO13 (F97 n z14 z15 s16 z17 l7 l18 l19 z8 z9 s10 l11 z12 l13 (0 : Int)) fun z20 z21 s22 z23 z24 z25 s26 l27 z28 l29 z30 l31 l32 => (if z30 = (0 : Int) then L32_1 n z20 z21 s22 z23 z30 l31 l32 false else L32_1 n z20 z21 s22 z23 z30 l31 l32 true)
set_option maxRecDepth 100000 in
set_option maxHeartbeats 40000000 in
theorem T32 (n : Nat) : ∀ ⦃z1 : Int⦄ ⦃z2 : Int⦄ ⦃s3 : ByteArray⦄ ⦃l4 : List D⦄ ⦃z5 : Int⦄ ⦃l6 : List D⦄ ⦃l7 : List D⦄ ⦃z8 : Int⦄ ⦃z9 : Int⦄ ⦃s10 : ByteArray⦄ ⦃l11 : List D⦄ ⦃z12 : Int⦄ ⦃l13 : List D⦄ ⦃r1 : Int⦄ ⦃r2 : Int⦄ ⦃r3 : ByteArray⦄ ⦃r4 : List D⦄ ⦃r5 : Int⦄ ⦃r6 : List D⦄ ⦃r7 : Int⦄, F32 n z1 z2 s3 l4 z5 l6 l7 z8 z9 s10 l11 z12 l13 = some (r1, r2, r3, r4, r5, r6, r7) →
    Trip Try.prog inv 32 [.d (.agg [.int .u8 z1, .int .i64 z2, .str s3, .list true 6 l4, .int .i64 z5, .list false 1 l6]), .d (.list false 1 l7), .d (.agg [.int .u8 z8, .int .i64 z9, .str s10, .list true 6 l11, .int .i64 z12, .list false 1 l13])] [] (.t [.d (.agg [.int .u8 r1, .int .i64 r2, .str r3, .list true 6 r4, .int .i64 r5, .list false 1 r6]), .d (.int .u8 r7)]) [] [] := by
  intro z1 z2 s3 l4 z5 l6 l7 z8 z9 s10 l11 z12 l13 r1 r2 r3 r4 r5 r6 r7 h
  unfold F32 at h
  refine Trip.of tab_ok tab_one fol Try.func32 rfl (by kernel_rfl) rfl rfl rfl (fun M hM hI => ?_)
  try cbv
  refine seq_go ?_
  try cbv
  refine seq_go ?_
  try cbv
  refine seq_go ?_
  try cbv
  refine seq_go ?_
  try cbv
  refine seq_go ?_
  try cbv
  replace h := bO6_inv h
  obtain ⟨z14, z15, s16, z17, l18, l19, hr, h⟩ := h
  first | refine .inr (.inl ⟨[], ?_⟩) | refine .inl ⟨[], ?_⟩
  try cbv
  refine call_with hM hI [] (T95 _ hr) rfl (by simp) trivial trivial (by simp) ?_
  clear hr
  try cbv
  replace h := bO13_inv h
  obtain ⟨z20, z21, s22, z23, z24, z25, s26, l27, z28, l29, z30, l31, l32, hr, h⟩ := h
  first | refine .inr (.inr ⟨[.loc 192], ?_⟩) | refine .inr ⟨[.loc 192], ?_⟩
  try cbv
  refine call_with hM hI [.loc 352, .loc 353, .loc 32, .loc 128, .loc 192] (T97 _ hr) rfl (by simp) ⟨rfl, ⟨rfl, ⟨rfl, ⟨rfl, ⟨rfl, trivial⟩⟩⟩⟩⟩ ⟨trivial, ⟨trivial, ⟨trivial, ⟨trivial, ⟨trivial, trivial⟩⟩⟩⟩⟩ (by simp) ?_
  try cbv
  first | refine ⟨(rfl : (_ : Option AObj) = _), ?_⟩ | skip
  try cbv
  clear hr
  try cbv
  refine drawn ?_ ?_
  · show _ = true
    kernel_rfl
  try cbv
  refine seq_go ?_
  try cbv
  refine seq_join (T := Nat × Bool) (fun t => ⟨[(6, .v (.c (.ptr (.loc 64) 0))), (7, .v (.d (.int .u8 0))), (8, .v (.c (.ptr (.loc 128) 0))), (10, .v (.c (.ptr (.loc 448) 0))), (18, .v (.d (.bool t.2)))], [(.loc 64, .cells [.d (.int .u8 0), .d (.int .i64 0), .d (.str ByteArray.empty), .nils true 6, .d (.int .i64 0), .nils false 1]), (.loc 128, .cells [.d (.int .u8 z30)]), (.loc 448, .cells [.d (.int .u8 z20), .d (.int .i64 z21), .d (.str s22), .ow (.loc 416), .d (.int .i64 z23), .ow (.loc 417)]), (.loc 416, .tree .row true 6 l31 none), (.loc 417, .tree .row false 1 l32 none)], 576⟩) (fun t => t.1 ≤ n ∧ L32_1 t.1 z20 z21 s22 z23 z30 l31 l32 t.2 = some (r1, r2, r3, r4, r5, r6, r7)) ?_ ?_
  · try cbv
    refine splitI (fun e => ?_) (fun e => ?_)
    · replace h := ite_t e h
      clear e
      try cbv
      exact join_next (n, false) [6, 7, 8, 10, 18] [.loc 64, .loc 128, .loc 448, .loc 416, .loc 417] 576 ⟨by omega, h⟩ (by cbv)
    · replace h := ite_f e h
      clear e
      try cbv
      exact join_next (n, true) [6, 7, 8, 10, 18] [.loc 64, .loc 128, .loc 448, .loc 416, .loc 417] 576 ⟨by omega, h⟩ (by cbv)
  · clear h
    rintro ⟨m1, b33⟩ ⟨hm1, h⟩
    replace hm1 : m1 ≤ n := hm1
    cases m1 with
    | zero =>
      replace h : L32_1 0 z20 z21 s22 z23 z30 l31 l32 b33 = some (r1, r2, r3, r4, r5, r6, r7) := h
      rw [L32_1] at h
      cases h
    | succ m1 =>
      replace h : L32_1 (m1 + 1) z20 z21 s22 z23 z30 l31 l32 b33 = some (r1, r2, r3, r4, r5, r6, r7) := h
      rw [L32_1] at h
      try cbv
      cases b33
      · replace h := ite_f Bool.false_ne_true h
        try cbv
        refine seq_go ?_
        try cbv
        obtain ⟨rfl, rfl, rfl, rfl, rfl, rfl, rfl⟩ := inj7 h
        refine ⟨_, _, _, ⟨rfl, rfl, rfl⟩, [.freeze (.loc 416), .freeze (.loc 417)], ?_⟩
        try cbv
        exact ⟨[], rfl, rfl, trivial, trivial, trivial⟩
      · replace h := ite_t rfl h
        try cbv
        refine seq_go ?_
        try cbv
        refine drawn ?_ ?_
        · show _ = true
          kernel_rfl
        try cbv
        obtain ⟨rfl, rfl, rfl, rfl, rfl, rfl, rfl⟩ := inj7 h
        refine ⟨_, _, _, ⟨rfl, rfl, rfl⟩, [.treeC (.loc 64) 3 true 6, .treeC (.loc 64) 5 false 1, .freeze (.loc 704), .freeze (.loc 736)], ?_⟩
        try cbv
        exact ⟨[], rfl, rfl, trivial, trivial, trivial⟩
end Go.Proofs.Ytiiojajgajnhpaa
end

set_option linter.unusedVariables false
noncomputable section
namespace Go.Proofs.Ytiiojajgajnhpaa
open Go Go.AM
def L110_1 : Nat → Int → Int → ByteArray → (List D) → Int → (List D) → (List D) → Int → Int → ByteArray → Int → Int → Int → ByteArray → (List D) → Int → (List D) → Int → Int → ByteArray → (List D) → Int → (List D) → Int → Bool → Option (((Int × Int × ByteArray × List D × Int × List D × Int × List D × Int × Int × ByteArray × Int × Int × Int × ByteArray × List D × Int × List D) ⊕ (Int × Int × ByteArray × List D × Int × List D × Int × List D × Int × Int × ByteArray × List D × Int × List D × Int × Int × ByteArray × List D × Int × List D)))
  | 0, _, _, _, _, _, _, _, _, _, _, _, _, _, _, _, _, _, _, _, _, _, _, _, _, _ => none
  | n + 1, z1, z2, s3, l4, z5, l6, l7, z8, z9, s10, z11, z12, z13, s14, l15, z16, l17, z18, z19, s20, l21, z22, l23, z24, b25 =>
    (if b25 = true then some (.inl (z18, z19, s20, l21, z22, l23, z24, l7, z8, z9, s10, z11, z12, z13, s14, l15, z16, l17)) else bO7 (F32 n z1 z2 s3 l4 z5 l6 l7 z12 z13 s14 l15 z16 l17) fun z26 z27 s28 l29 z30 l31 z32 => some (.inr (z26, z27, s28, l29, z30, l31, z32, l7, z18, z19, s20, l21, z22, l23, z12, z13, s14, l15, z16, l17)))
def F110 (n : Nat) (z1 : Int) (z2 : Int) (s3 : ByteArray) (l4 : List D) (z5 : Int) (l6 : List D) (l7 : List D) (z8 : Int) (z9 : Int) (s10 : ByteArray) (z11 : Int) (z12 : Int) (z13 : Int) (s14 : ByteArray) (l15 : List D) (z16 : Int) (l17 : List D) : Option (((Int × Int × ByteArray × List D × Int × List D × Int × List D × Int × Int × ByteArray × Int × Int × Int × ByteArray × List D × Int × List D) ⊕ (Int × Int × ByteArray × List D × Int × List D × Int × List D × Int × Int × ByteArray × List D × Int × List D × Int × Int × ByteArray × List D × Int × List D))) :=
  bO7 (F30 n z1 z2 s3 l4 z5 l6 l7) fun z18 z19 s20 l21 z22 l23 z24 => (if z24 = (0 : Int) then L110_1 n z1 z2 s3 l4 z5 l6 l7 z8 z9 s10 z11 z12 z13 s14 l15 z16 l17 z18 z19 s20 l21 z22 l23 z24 false else L110_1 n z1 z2 s3 l4 z5 l6 l7 z8 z9 s10 z11 z12 z13 s14 l15 z16 l17 z18 z19 s20 l21 z22 l23 z24 true)
set_option maxRecDepth 100000 in
set_option maxHeartbeats 40000000 in
theorem T110 (n : Nat) : ∀ ⦃z1 : Int⦄ ⦃z2 : Int⦄ ⦃s3 : ByteArray⦄ ⦃l4 : List D⦄ ⦃z5 : Int⦄ ⦃l6 : List D⦄ ⦃l7 : List D⦄ ⦃z8 : Int⦄ ⦃z9 : Int⦄ ⦃s10 : ByteArray⦄ ⦃z11 : Int⦄ ⦃z12 : Int⦄ ⦃z13 : Int⦄ ⦃s14 : ByteArray⦄ ⦃l15 : List D⦄ ⦃z16 : Int⦄ ⦃l17 : List D⦄ ⦃r : ((Int × Int × ByteArray × List D × Int × List D × Int × List D × Int × Int × ByteArray × Int × Int × Int × ByteArray × List D × Int × List D) ⊕ (Int × Int × ByteArray × List D × Int × List D × Int × List D × Int × Int × ByteArray × List D × Int × List D × Int × Int × ByteArray × List D × Int × List D))⦄, F110 n z1 z2 s3 l4 z5 l6 l7 z8 z9 s10 z11 z12 z13 s14 l15 z16 l17 = some r → ∀ Q : AV → List AObj → List AObj → Prop, (match r with | .inl (r1, r2, r3, r4, r5, r6, r7, r8, r9, r10, r11, r12, r13, r14, r15, r16, r17, r18) => Q (.t [.d (.agg [.int .u8 r1, .int .i64 r2, .str r3, .list true 6 r4, .int .i64 r5, .list false 1 r6]), .d (.int .u8 r7)]) [.cells [.d (.list false 1 r8)], .cells [.d (.int .u8 r9), .d (.int .i64 r10), .d (.str r11), .nils true 6, .d (.int .i64 r12), .nils false 1], .cells [.d (.int .u8 r13), .d (.int .i64 r14), .d (.str r15), .d (.list true 6 r16), .d (.int .i64 r17), .d (.list false 1 r18)]] [] | .inr (r1, r2, r3, r4, r5, r6, r7, r8, r9, r10, r11, r12, r13, r14, r15, r16, r17, r18, r19, r20) => Q (.t [.d (.agg [.int .u8 r1, .int .i64 r2, .str r3, .list true 6 r4, .int .i64 r5, .list false 1 r6]), .d (.int .u8 r7)]) [.cells [.d (.list false 1 r8)], .cells [.d (.int .u8 r9), .d (.int .i64 r10), .d (.str r11), .d (.list true 6 r12), .d (.int .i64 r13), .d (.list false 1 r14)], .cells [.d (.int .u8 r15), .d (.int .i64 r16), .d (.str r17), .d (.list true 6 r18), .d (.int .i64 r19), .d (.list false 1 r20)]] []) →
    TripK Try.prog inv 110 [.d (.agg [.int .u8 z1, .int .i64 z2, .str s3, .list true 6 l4, .int .i64 z5, .list false 1 l6]), .c (.ptr (.ext 0) 0), .c (.ptr (.ext 1) 0), .c (.ptr (.ext 2) 0)] [.cells [.d (.list false 1 l7)], .cells [.d (.int .u8 z8), .d (.int .i64 z9), .d (.str s10), .nils true 6, .d (.int .i64 z11), .nils false 1], .cells [.d (.int .u8 z12), .d (.int .i64 z13), .d (.str s14), .d (.list true 6 l15), .d (.int .i64 z16), .d (.list false 1 l17)]] Q := by
  intro z1 z2 s3 l4 z5 l6 l7 z8 z9 s10 z11 z12 z13 s14 l15 z16 l17 r h Q hQ
  unfold F110 at h
  refine TripK.of tab_ok tab_one fol Try.func110 rfl (by kernel_rfl) rfl rfl rfl (fun M hM hI => ?_)
  try cbv
  refine seq_go ?_
  try cbv
  refine seq_go ?_
  try cbv
  replace h := bO7_inv h
  obtain ⟨z18, z19, s20, l21, z22, l23, z24, hr, h⟩ := h
  refine call_go rfl rfl ?_
  try cbv
  refine call_pure hM hI (T30 _ hr) rfl ?_
  clear hr
  try cbv
  refine seq_go ?_
  try cbv
  refine seq_join (T := Nat × Bool) (fun t => ⟨[(1, .v (.c (.ptr (.ext 0) 0))), (2, .v (.c (.ptr (.ext 1) 0))), (3, .v (.c (.ptr (.ext 2) 0))), (4, .v (.c (.ptr (.loc 0) 0))), (5, .v (.c (.ptr (.loc 32) 0))), (6, .v (.d (.int .u8 0))), (7, .v (.c (.ptr (.loc 288) 0))), (8, .v (.d (.int .u8 z24))), (16, .v (.d (.bool t.2)))], [(.ext 0, .cells [.d (.list false 1 l7)]), (.ext 1, .cells [.d (.int .u8 z8), .d (.int .i64 z9), .d (.str s10), .nils true 6, .d (.int .i64 z11), .nils false 1]), (.ext 2, .cells [.d (.int .u8 z12), .d (.int .i64 z13), .d (.str s14), .d (.list true 6 l15), .d (.int .i64 z16), .d (.list false 1 l17)]), (.loc 0, .cells [.d (.int .u8 z1), .d (.int .i64 z2), .d (.str s3), .d (.list true 6 l4), .d (.int .i64 z5), .d (.list false 1 l6)]), (.loc 32, .cells [.d (.int .u8 0), .d (.int .i64 0), .d (.str ByteArray.empty), .nils true 6, .d (.int .i64 0), .nils false 1]), (.loc 288, .cells [.d (.int .u8 z18), .d (.int .i64 z19), .d (.str s20), .d (.list true 6 l21), .d (.int .i64 z22), .d (.list false 1 l23)])], 448⟩) (fun t => t.1 ≤ n ∧ L110_1 t.1 z1 z2 s3 l4 z5 l6 l7 z8 z9 s10 z11 z12 z13 s14 l15 z16 l17 z18 z19 s20 l21 z22 l23 z24 t.2 = some r) ?_ ?_
  · try cbv
    refine splitI (fun e => ?_) (fun e => ?_)
    · replace h := ite_t e h
      clear e
      try cbv
      exact join_next (n, false) [1, 2, 3, 4, 5, 6, 7, 8, 16] [.ext 0, .ext 1, .ext 2, .loc 0, .loc 32, .loc 288] 448 ⟨by omega, h⟩ (by cbv)
    · replace h := ite_f e h
      clear e
      try cbv
      exact join_next (n, true) [1, 2, 3, 4, 5, 6, 7, 8, 16] [.ext 0, .ext 1, .ext 2, .loc 0, .loc 32, .loc 288] 448 ⟨by omega, h⟩ (by cbv)
  · clear h
    rintro ⟨m1, b25⟩ ⟨hm1, h⟩
    replace hm1 : m1 ≤ n := hm1
    cases m1 with
    | zero =>
      replace h : L110_1 0 z1 z2 s3 l4 z5 l6 l7 z8 z9 s10 z11 z12 z13 s14 l15 z16 l17 z18 z19 s20 l21 z22 l23 z24 b25 = some r := h
      rw [L110_1] at h
      cases h
    | succ m1 =>
      replace h : L110_1 (m1 + 1) z1 z2 s3 l4 z5 l6 l7 z8 z9 s10 z11 z12 z13 s14 l15 z16 l17 z18 z19 s20 l21 z22 l23 z24 b25 = some r := h
      rw [L110_1] at h
      try cbv
      cases b25
      · replace h := ite_f Bool.false_ne_true h
        try cbv
        refine seq_go ?_
        try cbv
        refine seq_go ?_
        try cbv
        replace h := bO7_inv h
        obtain ⟨z26, z27, s28, l29, z30, l31, z32, hr, h⟩ := h
        refine call_go rfl rfl ?_
        try cbv
        refine call_pure hM hI (T32 _ hr) rfl ?_
        clear hr
        try cbv
        obtain rfl := Option.some.inj h
        refine finQ_go hQ ?_
        try cbv
        exact ⟨[], rfl, rfl, ⟨rfl, ⟨rfl, ⟨rfl, trivial⟩⟩⟩, trivial, trivial⟩
      · replace h := ite_t rfl h
        try cbv
        refine seq_go ?_
        try cbv
        obtain rfl := Option.some.inj h
        refine finQ_go hQ ?_
        try cbv
        exact ⟨[], rfl, rfl, ⟨rfl, ⟨rfl, ⟨rfl, trivial⟩⟩⟩, trivial, trivial⟩
end Go.Proofs.Ytiiojajgajnhpaa
end

set_option linter.unusedVariables false
noncomputable section
namespace Go.Proofs.Ytiiojajgajnhpaa
open Go Go.AM
def L109x1_3 : Nat → Int → Int → (List D) → Int → Int → ByteArray → Int → Int → Int → ByteArray → (List D) → Int → (List D) → (List D) → Option (((Int × Int × List D × List D × Int × Int × ByteArray × Int × Int × Int × ByteArray × List D × Int × List D) ⊕ (Int × Int × List D × List D × Int × Int × ByteArray × List D × Int × List D × Int × Int × ByteArray × List D × Int × List D)))
  | 0, _, _, _, _, _, _, _, _, _, _, _, _, _, _ => none
  | n + 1, z22, z31, l32, z33, z34, s35, z36, z37, z38, s39, l40, z41, l42, l67 =>
    some (.inl (z31, z22, l67, l32, z33, z34, s35, z36, z37, z38, s39, l40, z41, l42))
def L109x1_2 : Nat → Int → Int → (List D) → Int → Int → ByteArray → (List D) → Int → (List D) → Int → (List D) → Int → Int → ByteArray → Int → Int → Int → ByteArray → (List D) → Int → (List D) → Bool → Option (((Int × Int × List D × List D × Int × Int × ByteArray × Int × Int × Int × ByteArray × List D × Int × List D) ⊕ (Int × Int × List D × List D × Int × Int × ByteArray × List D × Int × List D × Int × Int × ByteArray × List D × Int × List D)))
  | 0, _, _, _, _, _, _, _, _, _, _, _, _, _, _, _, _, _, _, _, _, _, _ => none
  | n + 1, z1, z22, l23, z25, z26, s27, l28, z29, l30, z31, l32, z33, z34, s35, z36, z37, z38, s39, l40, z41, l42, b65 =>
    (if b65 = true then putF (.int .i64 z1) [.int .u8 z25, .int .i64 z26, .str s27, .list true 6 l28, .int .i64 z29, .list false 1 l30, .bool false] l23 fun l66 => L109x1_3 n z22 z31 l32 z33 z34 s35 z36 z37 z38 s39 l40 z41 l42 l66 else L109x1_3 n z22 z31 l32 z33 z34 s35 z36 z37 z38 s39 l40 z41 l42 l23)
def L109x1_5 : Nat → Int → Int → (List D) → Int → Int → ByteArray → (List D) → Int → (List D) → Int → Int → ByteArray → (List D) → Int → (List D) → (List D) → Option (((Int × Int × List D × List D × Int × Int × ByteArray × Int × Int × Int × ByteArray × List D × Int × List D) ⊕ (Int × Int × List D × List D × Int × Int × ByteArray × List D × Int × List D × Int × Int × ByteArray × List D × Int × List D)))
  | 0, _, _, _, _, _, _, _, _, _, _, _, _, _, _, _, _ => none
  | n + 1, z22, z49, l50, z51, z52, s53, l54, z55, l56, z57, z58, s59, l60, z61, l62, l70 =>
    some (.inr (z49, z22, l70, l50, z51, z52, s53, l54, z55, l56, z57, z58, s59, l60, z61, l62))
def L109x1_4 : Nat → Int → Int → (List D) → Int → Int → ByteArray → (List D) → Int → (List D) → Int → (List D) → Int → Int → ByteArray → (List D) → Int → (List D) → Int → Int → ByteArray → (List D) → Int → (List D) → Bool → Option (((Int × Int × List D × List D × Int × Int × ByteArray × Int × Int × Int × ByteArray × List D × Int × List D) ⊕ (Int × Int × List D × List D × Int × Int × ByteArray × List D × Int × List D × Int × Int × ByteArray × List D × Int × List D)))
  | 0, _, _, _, _, _, _, _, _, _, _, _, _, _, _, _, _, _, _, _, _, _, _, _, _ => none
  | n + 1, z1, z22, l23, z43, z44, s45, l46, z47, l48, z49, l50, z51, z52, s53, l54, z55, l56, z57, z58, s59, l60, z61, l62, b68 =>
    (if b68 = true then putF (.int .i64 z1) [.int .u8 z43, .int .i64 z44, .str s45, .list true 6 l46, .int .i64 z47, .list false 1 l48, .bool false] l23 fun l69 => L109x1_5 n z22 z49 l50 z51 z52 s53 l54 z55 l56 z57 z58 s59 l60 z61 l62 l69 else L109x1_5 n z22 z49 l50 z51 z52 s53 l54 z55 l56 z57 z58 s59 l60 z61 l62 l23)
def L109x1_1 : Nat → Int → (List D) → Int → Int → ByteArray → Int → Int → Int → ByteArray → (List D) → Int → (List D) → Int → Int → ByteArray → (List D) → Int → (List D) → Int → Int → (List D) → Bool → Option (((Int × Int × List D × List D × Int × Int × ByteArray × Int × Int × Int × ByteArray × List D × Int × List D) ⊕ (Int × Int × List D × List D × Int × Int × ByteArray × List D × Int × List D × Int × Int × ByteArray × List D × Int × List D)))
  | 0, _, _, _, _, _, _, _, _, _, _, _, _, _, _, _, _, _, _, _, _, _, _ => none
  | n + 1, z1, l4, z5, z6, s7, z8, z9, z10, s11, l12, z13, l14, z15, z16, s17, l18, z19, l20, z21, z22, l23, b24 =>
    (if b24 = true then some (.inl (z21, z22, l23, l4, z5, z6, s7, z8, z9, z10, s11, l12, z13, l14)) else bS (F110 n z15 z16 s17 l18 z19 l20 l4 z5 z6 s7 z8 z9 z10 s11 l12 z13 l14) (fun p63 => bO18 (some p63) fun z25 z26 s27 l28 z29 l30 z31 l32 z33 z34 s35 z36 z37 z38 s39 l40 z41 l42 => (if z31 = (0 : Int) then L109x1_2 n z1 z22 l23 z25 z26 s27 l28 z29 l30 z31 l32 z33 z34 s35 z36 z37 z38 s39 l40 z41 l42 true else L109x1_2 n z1 z22 l23 z25 z26 s27 l28 z29 l30 z31 l32 z33 z34 s35 z36 z37 z38 s39 l40 z41 l42 false)) (fun p64 => bO20 (some p64) fun z43 z44 s45 l46 z47 l48 z49 l50 z51 z52 s53 l54 z55 l56 z57 z58 s59 l60 z61 l62 => (if z49 = (0 : Int) then L109x1_4 n z1 z22 l23 z43 z44 s45 l46 z47 l48 z49 l50 z51 z52 s53 l54 z55 l56 z57 z58 s59 l60 z61 l62 true else L109x1_4 n z1 z22 l23 z43 z44 s45 l46 z47 l48 z49 l50 z51 z52 s53 l54 z55 l56 z57 z58 s59 l60 z61 l62 false)))
def F109x1 (n : Nat) (z1 : Int) (z2 : Int) (l3 : List D) (l4 : List D) (z5 : Int) (z6 : Int) (s7 : ByteArray) (z8 : Int) (z9 : Int) (z10 : Int) (s11 : ByteArray) (l12 : List D) (z13 : Int) (l14 : List D) : Option (((Int × Int × List D × List D × Int × Int × ByteArray × Int × Int × Int × ByteArray × List D × Int × List D) ⊕ (Int × Int × List D × List D × Int × Int × ByteArray × List D × Int × List D × Int × Int × ByteArray × List D × Int × List D))) :=
  bO9 (F108 n z1 z2 l3) fun z15 z16 s17 l18 z19 l20 z21 z22 l23 => (if z21 = (0 : Int) then L109x1_1 n z1 l4 z5 z6 s7 z8 z9 z10 s11 l12 z13 l14 z15 z16 s17 l18 z19 l20 z21 z22 l23 false else L109x1_1 n z1 l4 z5 z6 s7 z8 z9 z10 s11 l12 z13 l14 z15 z16 s17 l18 z19 l20 z21 z22 l23 true)
set_option maxRecDepth 100000 in
set_option maxHeartbeats 40000000 in
theorem T109x1 (n : Nat) : ∀ ⦃z1 : Int⦄ ⦃z2 : Int⦄ ⦃l3 : List D⦄ ⦃l4 : List D⦄ ⦃z5 : Int⦄ ⦃z6 : Int⦄ ⦃s7 : ByteArray⦄ ⦃z8 : Int⦄ ⦃z9 : Int⦄ ⦃z10 : Int⦄ ⦃s11 : ByteArray⦄ ⦃l12 : List D⦄ ⦃z13 : Int⦄ ⦃l14 : List D⦄ ⦃r : ((Int × Int × List D × List D × Int × Int × ByteArray × Int × Int × Int × ByteArray × List D × Int × List D) ⊕ (Int × Int × List D × List D × Int × Int × ByteArray × List D × Int × List D × Int × Int × ByteArray × List D × Int × List D))⦄, F109x1 n z1 z2 l3 l4 z5 z6 s7 z8 z9 z10 s11 l12 z13 l14 = some r → ∀ Q : AV → List AObj → List AObj → Prop, (match r with | .inl (r1, r2, r3, r4, r5, r6, r7, r8, r9, r10, r11, r12, r13, r14) => Q (.v (.d (.int .u8 r1))) [.cells [.ow (.ext 1), .d (.int .i64 r2)], .tree (.fmap true) true 8 r3 none, .cells [.d (.list false 1 r4)], .cells [.d (.int .u8 r5), .d (.int .i64 r6), .d (.str r7), .nils true 6, .d (.int .i64 r8), .nils false 1], .cells [.d (.int .u8 r9), .d (.int .i64 r10), .d (.str r11), .d (.list true 6 r12), .d (.int .i64 r13), .d (.list false 1 r14)]] [] | .inr (r1, r2, r3, r4, r5, r6, r7, r8, r9, r10, r11, r12, r13, r14, r15, r16) => Q (.v (.d (.int .u8 r1))) [.cells [.ow (.ext 1), .d (.int .i64 r2)], .tree (.fmap true) true 8 r3 none, .cells [.d (.list false 1 r4)], .cells [.d (.int .u8 r5), .d (.int .i64 r6), .d (.str r7), .d (.list true 6 r8), .d (.int .i64 r9), .d (.list false 1 r10)], .cells [.d (.int .u8 r11), .d (.int .i64 r12), .d (.str r13), .d (.list true 6 r14), .d (.int .i64 r15), .d (.list false 1 r16)]] []) →
    TripK Try.prog inv 109 [.c (.ptr (.ext 0) 0), .d (.int .i64 z1), .c (.fn 110 [.ext 2, .ext 3, .ext 4])] [.cells [.ow (.ext 1), .d (.int .i64 z2)], .tree (.fmap true) true 8 l3 none, .cells [.d (.list false 1 l4)], .cells [.d (.int .u8 z5), .d (.int .i64 z6), .d (.str s7), .nils true 6, .d (.int .i64 z8), .nils false 1], .cells [.d (.int .u8 z9), .d (.int .i64 z10), .d (.str s11), .d (.list true 6 l12), .d (.int .i64 z13), .d (.list false 1 l14)]] Q := by
  intro z1 z2 l3 l4 z5 z6 s7 z8 z9 z10 s11 l12 z13 l14 r h Q hQ
  unfold F109x1 at h
  refine TripK.of tab_ok tab_one fol Try.func109 rfl (by kernel_rfl) rfl rfl rfl (fun M hM hI => ?_)
  try cbv
  refine seq_go ?_
  try cbv
  refine seq_go ?_
  try cbv
  replace h := bO9_inv h
  obtain ⟨z15, z16, s17, l18, z19, l20, z21, z22, l23, hr, h⟩ := h
  refine call_go rfl rfl ?_
  try cbv
  refine call_with hM hI [.ext 0, .ext 1] (T108 _ hr) rfl (by simp) ⟨rfl, ⟨rfl, trivial⟩⟩ ⟨trivial, ⟨trivial, trivial⟩⟩ (by simp) ?_
  clear hr
  try cbv
  refine seq_go ?_
  try cbv
  refine seq_join (T := Nat × Bool) (fun t => ⟨[(0, .v (.c (.ptr (.ext 0) 0))), (1, .v (.d (.int .i64 z1))), (2, .v (.c (.fn 110 [.ext 2, .ext 3, .ext 4]))), (6, .v (.d (.int .u8 0))), (7, .v (.c (.ptr (.loc 224) 0))), (8, .v (.d (.int .u8 z21))), (17, .v (.d (.bool t.2)))], [(.ext 0, .cells [.ow (.ext 1), .d (.int .i64 z22)]), (.ext 1, .tree (.fmap true) true 8 l23 none), (.ext 2, .cells [.d (.list false 1 l4)]), (.ext 3, .cells [.d (.int .u8 z5), .d (.int .i64 z6), .d (.str s7), .nils true 6, .d (.int .i64 z8), .nils false 1]), (.ext 4, .cells [.d (.int .u8 z9), .d (.int .i64 z10), .d (.str s11), .d (.list true 6 l12), .d (.int .i64 z13), .d (.list false 1 l14)]), (.loc 224, .cells [.d (.int .u8 z15), .d (.int .i64 z16), .d (.str s17), .d (.list true 6 l18), .d (.int .i64 z19), .d (.list false 1 l20)])], 384⟩) (fun t => t.1 ≤ n ∧ L109x1_1 t.1 z1 l4 z5 z6 s7 z8 z9 z10 s11 l12 z13 l14 z15 z16 s17 l18 z19 l20 z21 z22 l23 t.2 = some r) ?_ ?_
  · try cbv
    refine splitI (fun e => ?_) (fun e => ?_)
    · replace h := ite_t e h
      clear e
      try cbv
      exact join_next (n, false) [0, 1, 2, 6, 7, 8, 17] [.ext 0, .ext 1, .ext 2, .ext 3, .ext 4, .loc 224] 384 ⟨by omega, h⟩ (by cbv)
    · replace h := ite_f e h
      clear e
      try cbv
      exact join_next (n, true) [0, 1, 2, 6, 7, 8, 17] [.ext 0, .ext 1, .ext 2, .ext 3, .ext 4, .loc 224] 384 ⟨by omega, h⟩ (by cbv)
  · clear h
    rintro ⟨m1, b24⟩ ⟨hm1, h⟩
    replace hm1 : m1 ≤ n := hm1
    cases m1 with
    | zero =>
      replace h : L109x1_1 0 z1 l4 z5 z6 s7 z8 z9 z10 s11 l12 z13 l14 z15 z16 s17 l18 z19 l20 z21 z22 l23 b24 = some r := h
      rw [L109x1_1] at h
      cases h
    | succ m1 =>
      replace h : L109x1_1 (m1 + 1) z1 l4 z5 z6 s7 z8 z9 z10 s11 l12 z13 l14 z15 z16 s17 l18 z19 l20 z21 z22 l23 b24 = some r := h
      rw [L109x1_1] at h
      try cbv
      cases b24
      · replace h := ite_f Bool.false_ne_true h
        try cbv
        refine seq_go ?_
        try cbv
        replace h := bS_inv h
        rcases h with ⟨p63, hr, h⟩ | ⟨p64, hr, h⟩
        · replace h := bO18_inv h
          obtain ⟨z25, z26, s27, l28, z29, l30, z31, l32, z33, z34, s35, z36, z37, z38, s39, l40, z41, l42, hp, h⟩ := h
          obtain rfl := Option.some.inj hp
          clear hp
          refine call_go rfl rfl ?_
          try cbv
          refine call_with hM hI [.ext 2, .ext 3, .ext 4] (T110 _ hr (fun r p n => r = .t [.d (.agg [.int .u8 z25, .int .i64 z26, .str s27, .list true 6 l28, .int .i64 z29, .list false 1 l30]), .d (.int .u8 z31)] ∧ p = [.cells [.d (.list false 1 l32)], .cells [.d (.int .u8 z33), .d (.int .i64 z34), .d (.str s35), .nils true 6, .d (.int .i64 z36), .nils false 1], .cells [.d (.int .u8 z37), .d (.int .i64 z38), .d (.str s39), .d (.list true 6 l40), .d (.int .i64 z41), .d (.list false 1 l42)]] ∧ n = []) ⟨rfl, rfl, rfl⟩ : Trip _ _ _ _ _ (.t [.d (.agg [.int .u8 z25, .int .i64 z26, .str s27, .list true 6 l28, .int .i64 z29, .list false 1 l30]), .d (.int .u8 z31)]) [.cells [.d (.list false 1 l32)], .cells [.d (.int .u8 z33), .d (.int .i64 z34), .d (.str s35), .nils true 6, .d (.int .i64 z36), .nils false 1], .cells [.d (.int .u8 z37), .d (.int .i64 z38), .d (.str s39), .d (.list true 6 l40), .d (.int .i64 z41), .d (.list false 1 l42)]] []) rfl (by simp) ⟨rfl, ⟨rfl, ⟨rfl, trivial⟩⟩⟩ ⟨trivial, ⟨trivial, ⟨trivial, trivial⟩⟩⟩ (by simp) ?_
          clear hr
          try cbv
          refine seq_join (T := Nat × List D) (fun t => ⟨[(6, .v (.d (.int .u8 0))), (8, .v (.d (.int .u8 z31)))], [(.ext 0, .cells [.ow (.ext 1), .d (.int .i64 z22)]), (.ext 1, .tree (.fmap true) true 8 t.2 none), (.ext 2, .cells [.d (.list false 1 l32)]), (.ext 3, .cells [.d (.int .u8 z33), .d (.int .i64 z34), .d (.str s35), .nils true 6, .d (.int .i64 z36), .nils false 1]), (.ext 4, .cells [.d (.int .u8 z37), .d (.int .i64 z38), .d (.str s39), .d (.list true 6 l40), .d (.int .i64 z41), .d (.list false 1 l42)])], 992⟩) (fun t => t.1 ≤ m1 ∧ L109x1_3 t.1 z22 z31 l32 z33 z34 s35 z36 z37 z38 s39 l40 z41 l42 t.2 = some r) ?_ ?_
          · try cbv
            refine seq_join (T := Nat × Bool) (fun t => ⟨[(0, .v (.c (.ptr (.ext 0) 0))), (1, .v (.d (.int .i64 z1))), (6, .v (.d (.int .u8 0))), (8, .v (.d (.int .u8 z31))), (9, .v (.c (.ptr (.loc 576) 0))), (26, .v (.d (.bool t.2)))], [(.ext 0, .cells [.ow (.ext 1), .d (.int .i64 z22)]), (.ext 1, .tree (.fmap true) true 8 l23 none), (.ext 2, .cells [.d (.list false 1 l32)]), (.ext 3, .cells [.d (.int .u8 z33), .d (.int .i64 z34), .d (.str s35), .nils true 6, .d (.int .i64 z36), .nils false 1]), (.ext 4, .cells [.d (.int .u8 z37), .d (.int .i64 z38), .d (.str s39), .d (.list true 6 l40), .d (.int .i64 z41), .d (.list false 1 l42)]), (.loc 576, .cells [.d (.int .u8 z25), .d (.int .i64 z26), .d (.str s27), .d (.list true 6 l28), .d (.int .i64 z29), .d (.list false 1 l30)])], 736⟩) (fun t => t.1 ≤ m1 ∧ L109x1_2 t.1 z1 z22 l23 z25 z26 s27 l28 z29 l30 z31 l32 z33 z34 s35 z36 z37 z38 s39 l40 z41 l42 t.2 = some r) ?_ ?_
            · try cbv
              refine splitI (fun e => ?_) (fun e => ?_)
              · replace h := ite_t e h
                clear e
                try cbv
                exact join_next (m1, true) [0, 1, 6, 8, 9, 26] [.ext 0, .ext 1, .ext 2, .ext 3, .ext 4, .loc 576] 736 ⟨by omega, h⟩ (by cbv)
              · replace h := ite_f e h
                clear e
                try cbv
                exact join_next (m1, false) [0, 1, 6, 8, 9, 26] [.ext 0, .ext 1, .ext 2, .ext 3, .ext 4, .loc 576] 736 ⟨by omega, h⟩ (by cbv)
            · clear h
              rintro ⟨m2, b65⟩ ⟨hm2, h⟩
              replace hm2 : m2 ≤ m1 := hm2
              cases m2 with
              | zero =>
                replace h : L109x1_2 0 z1 z22 l23 z25 z26 s27 l28 z29 l30 z31 l32 z33 z34 s35 z36 z37 z38 s39 l40 z41 l42 b65 = some r := h
                rw [L109x1_2] at h
                cases h
              | succ m2 =>
                replace h : L109x1_2 (m2 + 1) z1 z22 l23 z25 z26 s27 l28 z29 l30 z31 l32 z33 z34 s35 z36 z37 z38 s39 l40 z41 l42 b65 = some r := h
                rw [L109x1_2] at h
                try cbv
                cases b65
                · replace h := ite_f Bool.false_ne_true h
                  try cbv
                  exact join_next (m2, l23) [6, 8] [.ext 0, .ext 1, .ext 2, .ext 3, .ext 4] 992 ⟨by omega, h⟩ (by cbv)
                · replace h := ite_t rfl h
                  try cbv
                  replace h := putF_inv h
                  obtain ⟨l66, hz, h⟩ := h
                  refine ⟨l66, (M.lock_iff _).2 hz, ?_⟩
                  clear hz
                  try cbv
                  refine drawn ?_ ?_
                  · show _ = true
                    kernel_rfl
                  try cbv
                  exact join_next (m2, l66) [6, 8] [.ext 0, .ext 1, .ext 2, .ext 3, .ext 4] 992 ⟨by omega, h⟩ (by cbv)
          · clear h
            rintro ⟨m3, l67⟩ ⟨hm3, h⟩
            replace hm3 : m3 ≤ m1 := hm3
            cases m3 with
            | zero =>
              replace h : L109x1_3 0 z22 z31 l32 z33 z34 s35 z36 z37 z38 s39 l40 z41 l42 l67 = some r := h
              rw [L109x1_3] at h
              cases h
            | succ m3 =>
              replace h : L109x1_3 (m3 + 1) z22 z31 l32 z33 z34 s35 z36 z37 z38 s39 l40 z41 l42 l67 = some r := h
              rw [L109x1_3] at h
              try cbv
              refine seq_go ?_
              try cbv
              obtain rfl := Option.some.inj h
              refine finQ_go hQ ?_
              try cbv
              exact ⟨[], rfl, rfl, ⟨rfl, ⟨rfl, ⟨rfl, ⟨rfl, ⟨rfl, trivial⟩⟩⟩⟩⟩, trivial, trivial⟩
        · replace h := bO20_inv h
          obtain ⟨z43, z44, s45, l46, z47, l48, z49, l50, z51, z52, s53, l54, z55, l56, z57, z58, s59, l60, z61, l62, hp, h⟩ := h
          obtain rfl := Option.some.inj hp
          clear hp
          refine call_go rfl rfl ?_
          try cbv
          refine call_with hM hI [.ext 2, .ext 3, .ext 4] (T110 _ hr (fun r p n => r = .t [.d (.agg [.int .u8 z43, .int .i64 z44, .str s45, .list true 6 l46, .int .i64 z47, .list false 1 l48]), .d (.int .u8 z49)] ∧ p = [.cells [.d (.list false 1 l50)], .cells [.d (.int .u8 z51), .d (.int .i64 z52), .d (.str s53), .d (.list true 6 l54), .d (.int .i64 z55), .d (.list false 1 l56)], .cells [.d (.int .u8 z57), .d (.int .i64 z58), .d (.str s59), .d (.list true 6 l60), .d (.int .i64 z61), .d (.list false 1 l62)]] ∧ n = []) ⟨rfl, rfl, rfl⟩ : Trip _ _ _ _ _ (.t [.d (.agg [.int .u8 z43, .int .i64 z44, .str s45, .list true 6 l46, .int .i64 z47, .list false 1 l48]), .d (.int .u8 z49)]) [.cells [.d (.list false 1 l50)], .cells [.d (.int .u8 z51), .d (.int .i64 z52), .d (.str s53), .d (.list true 6 l54), .d (.int .i64 z55), .d (.list false 1 l56)], .cells [.d (.int .u8 z57), .d (.int .i64 z58), .d (.str s59), .d (.list true 6 l60), .d (.int .i64 z61), .d (.list false 1 l62)]] []) rfl (by simp) ⟨rfl, ⟨rfl, ⟨rfl, trivial⟩⟩⟩ ⟨trivial, ⟨trivial, ⟨trivial, trivial⟩⟩⟩ (by simp) ?_
          clear hr
          try cbv
          refine seq_join (T := Nat × List D) (fun t => ⟨[(6, .v (.d (.int .u8 0))), (8, .v (.d (.int .u8 z49)))], [(.ext 0, .cells [.ow (.ext 1), .d (.int .i64 z22)]), (.ext 1, .tree (.fmap true) true 8 t.2 none), (.ext 2, .cells [.d (.list false 1 l50)]), (.ext 3, .cells [.d (.int .u8 z51), .d (.int .i64 z52), .d (.str s53), .d (.list true 6 l54), .d (.int .i64 z55), .d (.list false 1 l56)]), (.ext 4, .cells [.d (.int .u8 z57), .d (.int .i64 z58), .d (.str s59), .d (.list true 6 l60), .d (.int .i64 z61), .d (.list false 1 l62)])], 992⟩) (fun t => t.1 ≤ m1 ∧ L109x1_5 t.1 z22 z49 l50 z51 z52 s53 l54 z55 l56 z57 z58 s59 l60 z61 l62 t.2 = some r) ?_ ?_
          · try cbv
            refine seq_join (T := Nat × Bool) (fun t => ⟨[(0, .v (.c (.ptr (.ext 0) 0))), (1, .v (.d (.int .i64 z1))), (6, .v (.d (.int .u8 0))), (8, .v (.d (.int .u8 z49))), (9, .v (.c (.ptr (.loc 576) 0))), (26, .v (.d (.bool t.2)))], [(.ext 0, .cells [.ow (.ext 1), .d (.int .i64 z22)]), (.ext 1, .tree (.fmap true) true 8 l23 none), (.ext 2, .cells [.d (.list false 1 l50)]), (.ext 3, .cells [.d (.int .u8 z51), .d (.int .i64 z52), .d (.str s53), .d (.list true 6 l54), .d (.int .i64 z55), .d (.list false 1 l56)]), (.ext 4, .cells [.d (.int .u8 z57), .d (.int .i64 z58), .d (.str s59), .d (.list true 6 l60), .d (.int .i64 z61), .d (.list false 1 l62)]), (.loc 576, .cells [.d (.int .u8 z43), .d (.int .i64 z44), .d (.str s45), .d (.list true 6 l46), .d (.int .i64 z47), .d (.list false 1 l48)])], 736⟩) (fun t => t.1 ≤ m1 ∧ L109x1_4 t.1 z1 z22 l23 z43 z44 s45 l46 z47 l48 z49 l50 z51 z52 s53 l54 z55 l56 z57 z58 s59 l60 z61 l62 t.2 = some r) ?_ ?_
            · try cbv
              refine splitI (fun e => ?_) (fun e => ?_)
              · replace h := ite_t e h
                clear e
                try cbv
                exact join_next (m1, true) [0, 1, 6, 8, 9, 26] [.ext 0, .ext 1, .ext 2, .ext 3, .ext 4, .loc 576] 736 ⟨by omega, h⟩ (by cbv)
              · replace h := ite_f e h
                clear e
                try cbv
                exact join_next (m1, false) [0, 1, 6, 8, 9, 26] [.ext 0, .ext 1, .ext 2, .ext 3, .ext 4, .loc 576] 736 ⟨by omega, h⟩ (by cbv)
            · clear h
              rintro ⟨m4, b68⟩ ⟨hm4, h⟩
              replace hm4 : m4 ≤ m1 := hm4
              cases m4 with
              | zero =>
                replace h : L109x1_4 0 z1 z22 l23 z43 z44 s45 l46 z47 l48 z49 l50 z51 z52 s53 l54 z55 l56 z57 z58 s59 l60 z61 l62 b68 = some r := h
                rw [L109x1_4] at h
                cases h
              | succ m4 =>
                replace h : L109x1_4 (m4 + 1) z1 z22 l23 z43 z44 s45 l46 z47 l48 z49 l50 z51 z52 s53 l54 z55 l56 z57 z58 s59 l60 z61 l62 b68 = some r := h
                rw [L109x1_4] at h
                try cbv
                cases b68
                · replace h := ite_f Bool.false_ne_true h
                  try cbv
                  exact join_next (m4, l23) [6, 8] [.ext 0, .ext 1, .ext 2, .ext 3, .ext 4] 992 ⟨by omega, h⟩ (by cbv)
                · replace h := ite_t rfl h
                  try cbv
                  replace h := putF_inv h
                  obtain ⟨l69, hz, h⟩ := h
                  refine ⟨l69, (M.lock_iff _).2 hz, ?_⟩
                  clear hz
                  try cbv
                  refine drawn ?_ ?_
                  · show _ = true
                    kernel_rfl
                  try cbv
                  exact join_next (m4, l69) [6, 8] [.ext 0, .ext 1, .ext 2, .ext 3, .ext 4] 992 ⟨by omega, h⟩ (by cbv)
          · clear h
            rintro ⟨m5, l70⟩ ⟨hm5, h⟩
            replace hm5 : m5 ≤ m1 := hm5
            cases m5 with
            | zero =>
              replace h : L109x1_5 0 z22 z49 l50 z51 z52 s53 l54 z55 l56 z57 z58 s59 l60 z61 l62 l70 = some r := h
              rw [L109x1_5] at h
              cases h
            | succ m5 =>
              replace h : L109x1_5 (m5 + 1) z22 z49 l50 z51 z52 s53 l54 z55 l56 z57 z58 s59 l60 z61 l62 l70 = some r := h
              rw [L109x1_5] at h
              try cbv
              refine seq_go ?_
              try cbv
              obtain rfl := Option.some.inj h
              refine finQ_go hQ ?_
              try cbv
              exact ⟨[], rfl, rfl, ⟨rfl, ⟨rfl, ⟨rfl, ⟨rfl, ⟨rfl, trivial⟩⟩⟩⟩⟩, trivial, trivial⟩
      · replace h := ite_t rfl h
        try cbv
        refine seq_go ?_
        try cbv
        obtain rfl := Option.some.inj h
        refine finQ_go hQ ?_
        try cbv
        exact ⟨[], rfl, rfl, ⟨rfl, ⟨rfl, ⟨rfl, ⟨rfl, ⟨rfl, trivial⟩⟩⟩⟩⟩, trivial, trivial⟩
end Go.Proofs.Ytiiojajgajnhpaa
end

set_option linter.unusedVariables false
noncomputable section
namespace Go.Proofs.Ytiiojajgajnhpaa
open Go Go.AM
def F53 (n : Nat) (z1 : Int) (l2 : List D) (z3 : Int) (z4 : Int) (s5 : ByteArray) (l6 : List D) (z7 : Int) (l8 : List D) (z9 : Int) (l10 : List D) : Option (Int × Int × ByteArray × List D × Int × List D × Int × Int × List D) :=
  bS (F109x1 n z1 z9 l10 l2 (0 : Int) (0 : Int) ByteArray.empty (0 : Int) z3 z4 s5 l6 z7 l8) (fun p41 => bO14 (some p41) fun z11 z12 l13 l14 z15 z16 s17 z18 z19 z20 s21 l22 z23 l24 => some (z15, z16, s17, ([] : List D), z18, ([] : List D), z11, z12, l13)) (fun p42 => bO16 (some p42) fun z25 z26 l27 l28 z29 z30 s31 l32 z33 l34 z35 z36 s37 l38 z39 l40 => some (z29, z30, s31, l32, z33, l34, z25, z26, l27))
set_option maxRecDepth 100000 in
set_option maxHeartbeats 40000000 in
theorem T53 (n : Nat) : ∀ ⦃z1 : Int⦄ ⦃l2 : List D⦄ ⦃z3 : Int⦄ ⦃z4 : Int⦄ ⦃s5 : ByteArray⦄ ⦃l6 : List D⦄ ⦃z7 : Int⦄ ⦃l8 : List D⦄ ⦃z9 : Int⦄ ⦃l10 : List D⦄ ⦃r1 : Int⦄ ⦃r2 : Int⦄ ⦃r3 : ByteArray⦄ ⦃r4 : List D⦄ ⦃r5 : Int⦄ ⦃r6 : List D⦄ ⦃r7 : Int⦄ ⦃r8 : Int⦄ ⦃r9 : List D⦄, F53 n z1 l2 z3 z4 s5 l6 z7 l8 z9 l10 = some (r1, r2, r3, r4, r5, r6, r7, r8, r9) →
    Trip Try.prog inv 53 [.c (.ptr (.ext 0) 0), .d (.int .i64 z1), .d (.list false 1 l2), .d (.agg [.int .u8 z3, .int .i64 z4, .str s5, .list true 6 l6, .int .i64 z7, .list false 1 l8])] [.cells [.ow (.ext 1), .d (.int .i64 z9)], .tree (.fmap true) true 8 l10 none] (.t [.d (.agg [.int .u8 r1, .int .i64 r2, .str r3, .list true 6 r4, .int .i64 r5, .list false 1 r6]), .d (.int .u8 r7)]) [.cells [.ow (.ext 1), .d (.int .i64 r8)], .tree (.fmap true) true 8 r9 none] [] := by
  intro z1 l2 z3 z4 s5 l6 z7 l8 z9 l10 r1 r2 r3 r4 r5 r6 r7 r8 r9 h
  unfold F53 at h
  refine Trip.of tab_ok tab_one fol Try.func53 rfl (by kernel_rfl) rfl rfl rfl (fun M hM hI => ?_)
  try cbv
  refine seq_go ?_
  try cbv
  refine seq_go ?_
  try cbv
  refine seq_go ?_
  try cbv
  replace h := bS_inv h
  rcases h with ⟨p41, hr, h⟩ | ⟨p42, hr, h⟩
  · replace h := bO14_inv h
    obtain ⟨z11, z12, l13, l14, z15, z16, s17, z18, z19, z20, s21, l22, z23, l24, hp, h⟩ := h
    obtain rfl := Option.some.inj hp
    clear hp
    refine call_go rfl rfl ?_
    try cbv
    refine call_with hM hI [.ext 0, .ext 1, .loc 0, .loc 128, .loc 32] (T109x1 _ hr (fun r p n => r = .v (.d (.int .u8 z11)) ∧ p = [.cells [.ow (.ext 1), .d (.int .i64 z12)], .tree (.fmap true) true 8 l13 none, .cells [.d (.list false 1 l14)], .cells [.d (.int .u8 z15), .d (.int .i64 z16), .d (.str s17), .nils true 6, .d (.int .i64 z18), .nils false 1], .cells [.d (.int .u8 z19), .d (.int .i64 z20), .d (.str s21), .d (.list true 6 l22), .d (.int .i64 z23), .d (.list false 1 l24)]] ∧ n = []) ⟨rfl, rfl, rfl⟩ : Trip _ _ _ _ _ (.v (.d (.int .u8 z11))) [.cells [.ow (.ext 1), .d (.int .i64 z12)], .tree (.fmap true) true 8 l13 none, .cells [.d (.list false 1 l14)], .cells [.d (.int .u8 z15), .d (.int .i64 z16), .d (.str s17), .nils true 6, .d (.int .i64 z18), .nils false 1], .cells [.d (.int .u8 z19), .d (.int .i64 z20), .d (.str s21), .d (.list true 6 l22), .d (.int .i64 z23), .d (.list false 1 l24)]] []) rfl (by simp) ⟨rfl, ⟨rfl, ⟨rfl, ⟨rfl, ⟨rfl, trivial⟩⟩⟩⟩⟩ ⟨trivial, ⟨trivial, ⟨trivial, ⟨trivial, ⟨trivial, trivial⟩⟩⟩⟩⟩ (by simp) ?_
    clear hr
    try cbv
    refine seq_go ?_
    try cbv
    obtain ⟨rfl, rfl, rfl, rfl, rfl, rfl, rfl, rfl, rfl⟩ := inj9 h
    refine fin_go ?_
    try cbv
    exact ⟨[], rfl, rfl, ⟨rfl, ⟨rfl, trivial⟩⟩, trivial, trivial⟩
  · replace h := bO16_inv h
    obtain ⟨z25, z26, l27, l28, z29, z30, s31, l32, z33, l34, z35, z36, s37, l38, z39, l40, hp, h⟩ := h
    obtain rfl := Option.some.inj hp
    clear hp
    refine call_go rfl rfl ?_
    try cbv
    refine call_with hM hI [.ext 0, .ext 1, .loc 0, .loc 128, .loc 32] (T109x1 _ hr (fun r p n => r = .v (.d (.int .u8 z25)) ∧ p = [.cells [.ow (.ext 1), .d (.int .i64 z26)], .tree (.fmap true) true 8 l27 none, .cells [.d (.list false 1 l28)], .cells [.d (.int .u8 z29), .d (.int .i64 z30), .d (.str s31), .d (.list true 6 l32), .d (.int .i64 z33), .d (.list false 1 l34)], .cells [.d (.int .u8 z35), .d (.int .i64 z36), .d (.str s37), .d (.list true 6 l38), .d (.int .i64 z39), .d (.list false 1 l40)]] ∧ n = []) ⟨rfl, rfl, rfl⟩ : Trip _ _ _ _ _ (.v (.d (.int .u8 z25))) [.cells [.ow (.ext 1), .d (.int .i64 z26)], .tree (.fmap true) true 8 l27 none, .cells [.d (.list false 1 l28)], .cells [.d (.int .u8 z29), .d (.int .i64 z30), .d (.str s31), .d (.list true 6 l32), .d (.int .i64 z33), .d (.list false 1 l34)], .cells [.d (.int .u8 z35), .d (.int .i64 z36), .d (.str s37), .d (.list true 6 l38), .d (.int .i64 z39), .d (.list false 1 l40)]] []) rfl (by simp) ⟨rfl, ⟨rfl, ⟨rfl, ⟨rfl, ⟨rfl, trivial⟩⟩⟩⟩⟩ ⟨trivial, ⟨trivial, ⟨trivial, ⟨trivial, ⟨trivial, trivial⟩⟩⟩⟩⟩ (by simp) ?_
    clear hr
    try cbv
    refine seq_go ?_
    try cbv
    obtain ⟨rfl, rfl, rfl, rfl, rfl, rfl, rfl, rfl, rfl⟩ := inj9 h
    refine fin_go ?_
    try cbv
    exact ⟨[], rfl, rfl, ⟨rfl, ⟨rfl, trivial⟩⟩, trivial, trivial⟩
end Go.Proofs.Ytiiojajgajnhpaa
end

set_option linter.unusedVariables false
noncomputable section
namespace Go.Proofs.Ytiiojajgajnhpaa
open Go Go.AM
def F115 (n : Nat) (z1 : Int) (l2 : List D) (z3 : Int) (l4 : List D) : Option (Int × Int × ByteArray × List D × Int × List D × Int × Int × List D) :=
  bO9 (F53 n z1 l2 (0 : Int) (0 : Int) ByteArray.empty ([] : List D) (0 : Int) ([] : List D) z3 l4) fun z5 z6 s7 l8 z9 l10 z11 z12 l13 => some (z5, z6, s7, l8, z9, l10, z11, z12, l13)
set_option maxRecDepth 100000 in
set_option maxHeartbeats 40000000 in
theorem T115 (n : Nat) : ∀ ⦃z1 : Int⦄ ⦃l2 : List D⦄ ⦃z3 : Int⦄ ⦃l4 : List D⦄ ⦃r1 : Int⦄ ⦃r2 : Int⦄ ⦃r3 : ByteArray⦄ ⦃r4 : List D⦄ ⦃r5 : Int⦄ ⦃r6 : List D⦄ ⦃r7 : Int⦄ ⦃r8 : Int⦄ ⦃r9 : List D⦄, F115 n z1 l2 z3 l4 = some (r1, r2, r3, r4, r5, r6, r7, r8, r9) →
    Trip Try.prog inv 115 [.c (.ptr (.ext 0) 0), .d (.int .i64 z1), .d (.list false 1 l2)] [.cells [.ow (.ext 1), .d (.int .i64 z3)], .tree (.fmap true) true 8 l4 none] (.t [.d (.agg [.int .u8 r1, .int .i64 r2, .str r3, .list true 6 r4, .int .i64 r5, .list false 1 r6]), .d (.int .u8 r7)]) [.cells [.ow (.ext 1), .d (.int .i64 r8)], .tree (.fmap true) true 8 r9 none] [] := by
  intro z1 l2 z3 l4 r1 r2 r3 r4 r5 r6 r7 r8 r9 h
  unfold F115 at h
  refine Trip.of tab_ok tab_one fol Try.func115 rfl (by kernel_rfl) rfl rfl rfl (fun M hM hI => ?_)
  try cbv
  refine seq_go ?_
  try cbv
  refine seq_go ?_
  try cbv
  replace h := bO9_inv h
  obtain ⟨z5, z6, s7, l8, z9, l10, z11, z12, l13, hr, h⟩ := h
  refine call_go rfl rfl ?_
  try cbv
  refine call_with hM hI [.ext 0, .ext 1] (T53 _ hr) rfl (by simp) ⟨rfl, ⟨rfl, trivial⟩⟩ ⟨trivial, ⟨trivial, trivial⟩⟩ (by simp) ?_
  clear hr
  try cbv
  obtain ⟨rfl, rfl, rfl, rfl, rfl, rfl, rfl, rfl, rfl⟩ := inj9 h
  refine fin_go ?_
  try cbv
  exact ⟨[], rfl, rfl, ⟨rfl, ⟨rfl, trivial⟩⟩, trivial, trivial⟩
end Go.Proofs.Ytiiojajgajnhpaa
end

set_option linter.unusedVariables false
noncomputable section
namespace Go.Proofs.Ytiiojajgajnhpaa
open Go Go.AM
def F119 (n : Nat) (z1 : Int) : Option (Int) :=
  some z1
set_option maxRecDepth 100000 in
set_option maxHeartbeats 40000000 in
theorem T119 (n : Nat) : ∀ ⦃z1 : Int⦄ ⦃r1 : Int⦄, F119 n z1 = some r1 →
    Trip Try.prog inv 119 [.d (.int .i64 z1)] [] (.v (.d (.agg [.int .u8 1, .int .i64 r1, .str ByteArray.empty, .list true 6 [], .int .i64 0, .list false 1 []]))) [] [] := by
  intro z1 r1 h
  unfold F119 at h
  refine Trip.of tab_ok tab_one fol Try.func119 rfl (by kernel_rfl) rfl rfl rfl (fun M hM hI => ?_)
  try cbv
  refine seq_go ?_
  try cbv
  refine seq_go ?_
  try cbv
  obtain rfl := Option.some.inj h
  refine fin_go ?_
  try cbv
  exact ⟨[], rfl, rfl, trivial, trivial, trivial⟩
end Go.Proofs.Ytiiojajgajnhpaa
end

set_option linter.unusedVariables false
noncomputable section
namespace Go.Proofs.Ytiiojajgajnhpaa
open Go Go.AM
def F59 (n : Nat) (z1 : Int) (l2 : List D) : Option (Int × Int × List D) :=
  bO2 (F107 n z1 l2) fun z3 l4 => lenF l4 fun z5 => letF (IntKind.wrap .i64 (1000 - z5)) fun z6 => some (z6, z3, l4)
set_option maxRecDepth 100000 in
set_option maxHeartbeats 40000000 in
theorem T59 (n : Nat) : ∀ ⦃z1 : Int⦄ ⦃l2 : List D⦄ ⦃r1 : Int⦄ ⦃r2 : Int⦄ ⦃r3 : List D⦄, F59 n z1 l2 = some (r1, r2, r3) →
    Trip Try.prog inv 59 [.c (.ptr (.ext 0) 0)] [.cells [.ow (.ext 1), .d (.int .i64 z1)], .tree (.fmap true) true 8 l2 none] (.v (.d (.int .i64 r1))) [.cells [.ow (.ext 1), .d (.int .i64 r2)], .tree (.fmap true) true 8 r3 none] [] := by
  intro z1 l2 r1 r2 r3 h
  unfold F59 at h
  refine Trip.of tab_ok tab_one fol Try.func59 rfl (by kernel_rfl) rfl rfl rfl (fun M hM hI => ?_)
  try cbv
  refine seq_go ?_
  try cbv
  refine seq_go ?_
  try cbv
  refine seq_go ?_
  try cbv
  replace h := bO2_inv h
  obtain ⟨z3, l4, hr, h⟩ := h
  refine call_go rfl rfl ?_
  try cbv
  refine call_with hM hI [.ext 0, .ext 1] (T107 _ hr) rfl (by simp) ⟨rfl, ⟨rfl, trivial⟩⟩ ⟨trivial, ⟨trivial, trivial⟩⟩ (by simp) ?_
  clear hr
  try cbv
  refine seq_go ?_
  try cbv
  replace h := lenF_inv M h
  obtain ⟨z5, hz, h⟩ := h
  refine ⟨true, ?_⟩
  try cbv
  refine ⟨z5, hz, ?_⟩
  clear hz
  try cbv
  replace h := letF_inv h
  obtain ⟨z6, hz, h⟩ := h
  refine ⟨z6, hz, ?_⟩
  clear hz
  try cbv
  obtain ⟨rfl, rfl, rfl⟩ := inj3 h
  refine fin_go ?_
  try cbv
  exact ⟨[], rfl, rfl, ⟨rfl, ⟨rfl, trivial⟩⟩, trivial, trivial⟩
end Go.Proofs.Ytiiojajgajnhpaa
end

set_option linter.unusedVariables false
noncomputable section
namespace Go.Proofs.Ytiiojajgajnhpaa
open Go Go.AM
def L51_1 : Nat → Int → Int → ByteArray → (List D) → Int → (List D) → Bool → Int → (List D) → Option (Int × Int × Int × List D)
  | 0, _, _, _, _, _, _, _, _, _ => none
  | n + 1, z1, z2, s3, l4, z5, l6, b14, z15, l16 =>
    (if b14 = true then some ((0 : Int), (4 : Int), z15, l16) else lenF l16 fun z17 => bO6 (F95z n z1 z2 s3 l4 z5 l6) fun z18 z19 s20 l21 z22 l23 => putF (.int .i64 z17) [.int .u8 z18, .int .i64 z19, .str s20, .list true 6 l21, .int .i64 z22, .list false 1 l23, .bool false] l16 fun l24 => letF (IntKind.wrap .i64 (z15 + 1)) fun z25 => some (z17, (0 : Int), z25, l24))
def F51 (n : Nat) (z1 : Int) (z2 : Int) (s3 : ByteArray) (l4 : List D) (z5 : Int) (l6 : List D) (z7 : Int) (l8 : List D) : Option (Int × Int × Int × List D) :=
  bO2 (F107 n z7 l8) fun z9 l10 => bO3 (F59 n z9 l10) fun z11 z12 l13 => (if z11 = (0 : Int) then L51_1 n z1 z2 s3 l4 z5 l6 true z12 l13 else L51_1 n z1 z2 s3 l4 z5 l6 false z12 l13)
set_option maxRecDepth 100000 in
set_option maxHeartbeats 40000000 in
theorem T51 (n : Nat) : ∀ ⦃z1 : Int⦄ ⦃z2 : Int⦄ ⦃s3 : ByteArray⦄ ⦃l4 : List D⦄ ⦃z5 : Int⦄ ⦃l6 : List D⦄ ⦃z7 : Int⦄ ⦃l8 : List D⦄ ⦃r1 : Int⦄ ⦃r2 : Int⦄ ⦃r3 : Int⦄ ⦃r4 : List D⦄, F51 n z1 z2 s3 l4 z5 l6 z7 l8 = some (r1, r2, r3, r4) →
    Trip Try.prog inv 51 [.c (.ptr (.ext 0) 0), .d (.agg [.int .u8 z1, .int .i64 z2, .str s3, .list true 6 l4, .int .i64 z5, .list false 1 l6])] [.cells [.ow (.ext 1), .d (.int .i64 z7)], .tree (.fmap true) true 8 l8 none] (.t [.d (.int .i64 r1), .d (.int .i64 r2)]) [.cells [.ow (.ext 1), .d (.int .i64 r3)], .tree (.fmap true) true 8 r4 none] [] := by
  intro z1 z2 s3 l4 z5 l6 z7 l8 r1 r2 r3 r4 h
  unfold F51 at h
  refine Trip.of tab_ok tab_one fol Try.func51 rfl (by kernel_rfl) rfl rfl rfl (fun M hM hI => ?_)
  try cbv
  refine seq_go ?_
  try cbv
  refine seq_go ?_
  try cbv
  refine seq_go ?_
  try cbv
  replace h := bO2_inv h
  obtain ⟨z9, l10, hr, h⟩ := h
  refine call_go rfl rfl ?_
  try cbv
  refine call_with hM hI [.ext 0, .ext 1] (T107 _ hr) rfl (by simp) ⟨rfl, ⟨rfl, trivial⟩⟩ ⟨trivial, ⟨trivial, trivial⟩⟩ (by simp) ?_
  clear hr
  try cbv
  refine seq_join (T := Nat × Bool × Int × List D) (fun t => ⟨[(0, .v (.c (.ptr (.ext 0) 0))), (3, .v (.c (.ptr (.loc 0) 0))), (4, .v (.d (.int .i64 0))), (5, .v (.d (.int .i64 0))), (10, .v (.d (.bool t.2.1)))], [(.ext 0, .cells [.ow (.ext 1), .d (.int .i64 t.2.2.1)]), (.ext 1, .tree (.fmap true) true 8 t.2.2.2 none), (.loc 0, .cells [.d (.int .u8 z1), .d (.int .i64 z2), .d (.str s3), .d (.list true 6 l4), .d (.int .i64 z5), .d (.list false 1 l6)])], 320⟩) (fun t => t.1 ≤ n ∧ L51_1 t.1 z1 z2 s3 l4 z5 l6 t.2.1 t.2.2.1 t.2.2.2 = some (r1, r2, r3, r4)) ?_ ?_
  · try cbv
    replace h := bO3_inv h
    obtain ⟨z11, z12, l13, hr, h⟩ := h
    refine call_go rfl rfl ?_
    try cbv
    refine call_with hM hI [.ext 0, .ext 1] (T59 _ hr) rfl (by simp) ⟨rfl, ⟨rfl, trivial⟩⟩ ⟨trivial, ⟨trivial, trivial⟩⟩ (by simp) ?_
    clear hr
    try cbv
    refine splitI (fun e => ?_) (fun e => ?_)
    · replace h := ite_t e h
      clear e
      try cbv
      exact join_next (n, (true, z12, l13)) [0, 3, 4, 5, 10] [.ext 0, .ext 1, .loc 0] 320 ⟨by omega, h⟩ (by cbv)
    · replace h := ite_f e h
      clear e
      try cbv
      exact join_next (n, (false, z12, l13)) [0, 3, 4, 5, 10] [.ext 0, .ext 1, .loc 0] 320 ⟨by omega, h⟩ (by cbv)
  · clear h
    rintro ⟨m1, b14, z15, l16⟩ ⟨hm1, h⟩
    replace hm1 : m1 ≤ n := hm1
    cases m1 with
    | zero =>
      replace h : L51_1 0 z1 z2 s3 l4 z5 l6 b14 z15 l16 = some (r1, r2, r3, r4) := h
      rw [L51_1] at h
      cases h
    | succ m1 =>
      replace h : L51_1 (m1 + 1) z1 z2 s3 l4 z5 l6 b14 z15 l16 = some (r1, r2, r3, r4) := h
      rw [L51_1] at h
      try cbv
      cases b14
      · replace h := ite_f Bool.false_ne_true h
        try cbv
        refine seq_go ?_
        try cbv
        replace h := lenF_inv M h
        obtain ⟨z17, hz, h⟩ := h
        refine ⟨true, ?_⟩
        try cbv
        refine ⟨z17, hz, ?_⟩
        clear hz
        try cbv
        refine seq_go ?_
        try cbv
        replace h := bO6_inv h
        obtain ⟨z18, z19, s20, l21, z22, l23, hr, h⟩ := h
        first | refine .inr (.inl ⟨[], ?_⟩) | refine .inl ⟨[], ?_⟩
        try cbv
        refine call_pure hM hI (T95z _ hr) rfl ?_
        clear hr
        try cbv
        replace h := putF_inv h
        obtain ⟨l24, hz, h⟩ := h
        refine ⟨l24, (M.lock_iff _).2 hz, ?_⟩
        clear hz
        try cbv
        refine drawn ?_ ?_
        · show _ = true
          kernel_rfl
        try cbv
        refine seq_go ?_
        try cbv
        replace h := letF_inv h
        obtain ⟨z25, hz, h⟩ := h
        refine ⟨z25, hz, ?_⟩
        clear hz
        try cbv
        refine seq_go ?_
        try cbv
        obtain ⟨rfl, rfl, rfl, rfl⟩ := inj4 h
        refine fin_go ?_
        try cbv
        exact ⟨[], rfl, rfl, ⟨rfl, ⟨rfl, trivial⟩⟩, trivial, trivial⟩
      · replace h := ite_t rfl h
        try cbv
        refine seq_go ?_
        try cbv
        obtain ⟨rfl, rfl, rfl, rfl⟩ := inj4 h
        refine fin_go ?_
        try cbv
        exact ⟨[], rfl, rfl, ⟨rfl, ⟨rfl, trivial⟩⟩, trivial, trivial⟩
end Go.Proofs.Ytiiojajgajnhpaa
end

set_option linter.unusedVariables false
noncomputable section
namespace Go.Proofs.Ytiiojajgajnhpaa
open Go Go.AM
def L52_1 : Nat → (List D) → Int → Int → ByteArray → (List D) → Int → (List D) → Int → Int → (List D) → Bool → Option (Int × Int × ByteArray × List D × Int × List D × Int × Int × List D)
  | 0, _, _, _, _, _, _, _, _, _, _, _ => none
  | n + 1, l2, z5, z6, s7, l8, z9, l10, z11, z12, l13, b14 =>
    (if b14 = true then some ((0 : Int), (0 : Int), ByteArray.empty, ([] : List D), (0 : Int), ([] : List D), z11, z12, l13) else bO7 (F30 n z5 z6 s7 l8 z9 l10 l2) fun z15 z16 s17 l18 z19 l20 z21 => some (z15, z16, s17, l18, z19, l20, z21, z12, l13))
def F52 (n : Nat) (z1 : Int) (l2 : List D) (z3 : Int) (l4 : List D) : Option (Int × Int × ByteArray × List D × Int × List D × Int × Int × List D) :=
  bO9 (F108 n z1 z3 l4) fun z5 z6 s7 l8 z9 l10 z11 z12 l13 => (if z11 = (0 : Int) then L52_1 n l2 z5 z6 s7 l8 z9 l10 z11 z12 l13 false else L52_1 n l2 z5 z6 s7 l8 z9 l10 z11 z12 l13 true)
set_option maxRecDepth 100000 in
set_option maxHeartbeats 40000000 in
theorem T52 (n : Nat) : ∀ ⦃z1 : Int⦄ ⦃l2 : List D⦄ ⦃z3 : Int⦄ ⦃l4 : List D⦄ ⦃r1 : Int⦄ ⦃r2 : Int⦄ ⦃r3 : ByteArray⦄ ⦃r4 : List D⦄ ⦃r5 : Int⦄ ⦃r6 : List D⦄ ⦃r7 : Int⦄ ⦃r8 : Int⦄ ⦃r9 : List D⦄, F52 n z1 l2 z3 l4 = some (r1, r2, r3, r4, r5, r6, r7, r8, r9) →
    Trip Try.prog inv 52 [.c (.ptr (.ext 0) 0), .d (.int .i64 z1), .d (.list false 1 l2)] [.cells [.ow (.ext 1), .d (.int .i64 z3)], .tree (.fmap true) true 8 l4 none] (.t [.d (.agg [.int .u8 r1, .int .i64 r2, .str r3, .list true 6 r4, .int .i64 r5, .list false 1 r6]), .d (.int .u8 r7)]) [.cells [.ow (.ext 1), .d (.int .i64 r8)], .tree (.fmap true) true 8 r9 none] [] := by
  intro z1 l2 z3 l4 r1 r2 r3 r4 r5 r6 r7 r8 r9 h
  unfold F52 at h
  refine Trip.of tab_ok tab_one fol Try.func52 rfl (by kernel_rfl) rfl rfl rfl (fun M hM hI => ?_)
  try cbv
  refine seq_go ?_
  try cbv
  refine seq_go ?_
  try cbv
  replace h := bO9_inv h
  obtain ⟨z5, z6, s7, l8, z9, l10, z11, z12, l13, hr, h⟩ := h
  refine call_go rfl rfl ?_
  try cbv
  refine call_with hM hI [.ext 0, .ext 1] (T108 _ hr) rfl (by simp) ⟨rfl, ⟨rfl, trivial⟩⟩ ⟨trivial, ⟨trivial, trivial⟩⟩ (by simp) ?_
  clear hr
  try cbv
  refine seq_go ?_
  try cbv
  refine seq_join (T := Nat × Bool) (fun t => ⟨[(2, .v (.d (.list false 1 l2))), (6, .v (.c (.ptr (.loc 0) 0))), (7, .v (.d (.int .u8 0))), (8, .v (.c (.ptr (.loc 256) 0))), (9, .v (.d (.int .u8 z11))), (17, .v (.d (.bool t.2)))], [(.ext 0, .cells [.ow (.ext 1), .d (.int .i64 z12)]), (.ext 1, .tree (.fmap true) true 8 l13 none), (.loc 0, .cells [.d (.int .u8 0), .d (.int .i64 0), .d (.str ByteArray.empty), .nils true 6, .d (.int .i64 0), .nils false 1]), (.loc 256, .cells [.d (.int .u8 z5), .d (.int .i64 z6), .d (.str s7), .d (.list true 6 l8), .d (.int .i64 z9), .d (.list false 1 l10)])], 416⟩) (fun t => t.1 ≤ n ∧ L52_1 t.1 l2 z5 z6 s7 l8 z9 l10 z11 z12 l13 t.2 = some (r1, r2, r3, r4, r5, r6, r7, r8, r9)) ?_ ?_
  · try cbv
    refine splitI (fun e => ?_) (fun e => ?_)
    · replace h := ite_t e h
      clear e
      try cbv
      exact join_next (n, false) [2, 6, 7, 8, 9, 17] [.ext 0, .ext 1, .loc 0, .loc 256] 416 ⟨by omega, h⟩ (by cbv)
    · replace h := ite_f e h
      clear e
      try cbv
      exact join_next (n, true) [2, 6, 7, 8, 9, 17] [.ext 0, .ext 1, .loc 0, .loc 256] 416 ⟨by omega, h⟩ (by cbv)
  · clear h
    rintro ⟨m1, b14⟩ ⟨hm1, h⟩
    replace hm1 : m1 ≤ n := hm1
    cases m1 with
    | zero =>
      replace h : L52_1 0 l2 z5 z6 s7 l8 z9 l10 z11 z12 l13 b14 = some (r1, r2, r3, r4, r5, r6, r7, r8, r9) := h
      rw [L52_1] at h
      cases h
    | succ m1 =>
      replace h : L52_1 (m1 + 1) l2 z5 z6 s7 l8 z9 l10 z11 z12 l13 b14 = some (r1, r2, r3, r4, r5, r6, r7, r8, r9) := h
      rw [L52_1] at h
      try cbv
      cases b14
      · replace h := ite_f Bool.false_ne_true h
        try cbv
        refine seq_go ?_
        try cbv
        replace h := bO7_inv h
        obtain ⟨z15, z16, s17, l18, z19, l20, z21, hr, h⟩ := h
        refine call_go rfl rfl ?_
        try cbv
        refine call_pure hM hI (T30 _ hr) rfl ?_
        clear hr
        try cbv
        obtain ⟨rfl, rfl, rfl, rfl, rfl, rfl, rfl, rfl, rfl⟩ := inj9 h
        refine fin_go ?_
        try cbv
        exact ⟨[], rfl, rfl, ⟨rfl, ⟨rfl, trivial⟩⟩, trivial, trivial⟩
      · replace h := ite_t rfl h
        try cbv
        refine seq_go ?_
        try cbv
        obtain ⟨rfl, rfl, rfl, rfl, rfl, rfl, rfl, rfl, rfl⟩ := inj9 h
        refine fin_go ?_
        try cbv
        exact ⟨[], rfl, rfl, ⟨rfl, ⟨rfl, trivial⟩⟩, trivial, trivial⟩
end Go.Proofs.Ytiiojajgajnhpaa
end

set_option linter.unusedVariables false
noncomputable section
namespace Go.Proofs.Ytiiojajgajnhpaa
open Go Go.AM
def L54_2 : Nat → Int → Int → Int → ByteArray → (List D) → Int → (List D) → Int → Int → (List D) → Bool → Option (Int × Int × ByteArray × List D × Int × List D × Int × Int × List D)
  | 0, _, _, _, _, _, _, _, _, _, _, _ => none
  | n + 1, z1, z4, z5, s6, l7, z8, l9, z10, z11, l12, b14 =>
    (if b14 = true then some ((0 : Int), (0 : Int), ByteArray.empty, ([] : List D), (0 : Int), ([] : List D), z10, z11, l12) else putF (.int .i64 z1) [.int .u8 0, .int .i64 0, .str ByteArray.empty, .list true 6 [], .int .i64 0, .list false 1 [], .bool true] l12 fun l15 => letF (IntKind.wrap .i64 (z11 - 1)) fun z16 => bO6 (F95z n z4 z5 s6 l7 z8 l9) fun z17 z18 s19 l20 z21 l22 => some (z17, z18, s19, l20, z21, l22, (0 : Int), z16, l15))
def L54_1 : Nat → Int → Int → Int → ByteArray → (List D) → Int → (List D) → Int → Int → (List D) → Bool → Option (Int × Int × ByteArray × List D × Int × List D × Int × Int × List D)
  | 0, _, _, _, _, _, _, _, _, _, _, _ => none
  | n + 1, z1, z4, z5, s6, l7, z8, l9, z10, z11, l12, b13 =>
    (if b13 = true then some ((0 : Int), (0 : Int), ByteArray.empty, ([] : List D), (0 : Int), ([] : List D), (2 : Int), z11, l12) else (if z10 = (6 : Int) then L54_2 n z1 z4 z5 s6 l7 z8 l9 z10 z11 l12 true else L54_2 n z1 z4 z5 s6 l7 z8 l9 z10 z11 l12 false))
def F54 (n : Nat) (z1 : Int) (z2 : Int) (l3 : List D) : Option (Int × Int × ByteArray × List D × Int × List D × Int × Int × List D) :=
  bO9 (F108 n z1 z2 l3) fun z4 z5 s6 l7 z8 l9 z10 z11 l12 => (if z10 = (1 : Int) then L54_1 n z1 z4 z5 s6 l7 z8 l9 z10 z11 l12 true else L54_1 n z1 z4 z5 s6 l7 z8 l9 z10 z11 l12 false)
set_option maxRecDepth 100000 in
set_option maxHeartbeats 40000000 in
theorem T54 (n : Nat) : ∀ ⦃z1 : Int⦄ ⦃z2 : Int⦄ ⦃l3 : List D⦄ ⦃r1 : Int⦄ ⦃r2 : Int⦄ ⦃r3 : ByteArray⦄ ⦃r4 : List D⦄ ⦃r5 : Int⦄ ⦃r6 : List D⦄ ⦃r7 : Int⦄ ⦃r8 : Int⦄ ⦃r9 : List D⦄, F54 n z1 z2 l3 = some (r1, r2, r3, r4, r5, r6, r7, r8, r9) →
    Trip Try.prog inv 54 [.c (.ptr (.ext 0) 0), .d (.int .i64 z1)] [.cells [.ow (.ext 1), .d (.int .i64 z2)], .tree (.fmap true) true 8 l3 none] (.t [.d (.agg [.int .u8 r1, .int .i64 r2, .str r3, .list true 6 r4, .int .i64 r5, .list false 1 r6]), .d (.int .u8 r7)]) [.cells [.ow (.ext 1), .d (.int .i64 r8)], .tree (.fmap true) true 8 r9 none] [] := by
  intro z1 z2 l3 r1 r2 r3 r4 r5 r6 r7 r8 r9 h
  unfold F54 at h
  refine Trip.of tab_ok tab_one fol Try.func54 rfl (by kernel_rfl) rfl rfl rfl (fun M hM hI => ?_)
  try cbv
  refine seq_go ?_
  try cbv
  refine seq_go ?_
  try cbv
  replace h := bO9_inv h
  obtain ⟨z4, z5, s6, l7, z8, l9, z10, z11, l12, hr, h⟩ := h
  refine call_go rfl rfl ?_
  try cbv
  refine call_with hM hI [.ext 0, .ext 1] (T108 _ hr) rfl (by simp) ⟨rfl, ⟨rfl, trivial⟩⟩ ⟨trivial, ⟨trivial, trivial⟩⟩ (by simp) ?_
  clear hr
  try cbv
  refine seq_go ?_
  try cbv
  refine seq_go ?_
  try cbv
  refine seq_join (T := Nat × Bool) (fun t => ⟨[(0, .v (.c (.ptr (.ext 0) 0))), (1, .v (.d (.int .i64 z1))), (4, .v (.c (.ptr (.loc 0) 0))), (5, .v (.d (.int .u8 0))), (6, .v (.c (.ptr (.loc 256) 0))), (7, .v (.d (.int .u8 z10))), (14, .v (.d (.int .u8 z10))), (15, .v (.d (.bool t.2)))], [(.ext 0, .cells [.ow (.ext 1), .d (.int .i64 z11)]), (.ext 1, .tree (.fmap true) true 8 l12 none), (.loc 0, .cells [.d (.int .u8 0), .d (.int .i64 0), .d (.str ByteArray.empty), .nils true 6, .d (.int .i64 0), .nils false 1]), (.loc 256, .cells [.d (.int .u8 z4), .d (.int .i64 z5), .d (.str s6), .d (.list true 6 l7), .d (.int .i64 z8), .d (.list false 1 l9)])], 448⟩) (fun t => t.1 ≤ n ∧ L54_1 t.1 z1 z4 z5 s6 l7 z8 l9 z10 z11 l12 t.2 = some (r1, r2, r3, r4, r5, r6, r7, r8, r9)) ?_ ?_
  · try cbv
    refine splitI (fun e => ?_) (fun e => ?_)
    · replace h := ite_t e h
      clear e
      try cbv
      exact join_next (n, true) [0, 1, 4, 5, 6, 7, 14, 15] [.ext 0, .ext 1, .loc 0, .loc 256] 448 ⟨by omega, h⟩ (by cbv)
    · replace h := ite_f e h
      clear e
      try cbv
      exact join_next (n, false) [0, 1, 4, 5, 6, 7, 14, 15] [.ext 0, .ext 1, .loc 0, .loc 256] 448 ⟨by omega, h⟩ (by cbv)
  · clear h
    rintro ⟨m1, b13⟩ ⟨hm1, h⟩
    replace hm1 : m1 ≤ n := hm1
    cases m1 with
    | zero =>
      replace h : L54_1 0 z1 z4 z5 s6 l7 z8 l9 z10 z11 l12 b13 = some (r1, r2, r3, r4, r5, r6, r7, r8, r9) := h
      rw [L54_1] at h
      cases h
    | succ m1 =>
      replace h : L54_1 (m1 + 1) z1 z4 z5 s6 l7 z8 l9 z10 z11 l12 b13 = some (r1, r2, r3, r4, r5, r6, r7, r8, r9) := h
      rw [L54_1] at h
      try cbv
      cases b13
      · replace h := ite_f Bool.false_ne_true h
        try cbv
        refine seq_join (T := Nat × Bool) (fun t => ⟨[(0, .v (.c (.ptr (.ext 0) 0))), (1, .v (.d (.int .i64 z1))), (4, .v (.c (.ptr (.loc 0) 0))), (5, .v (.d (.int .u8 0))), (6, .v (.c (.ptr (.loc 256) 0))), (7, .v (.d (.int .u8 z10))), (18, .v (.d (.bool t.2)))], [(.ext 0, .cells [.ow (.ext 1), .d (.int .i64 z11)]), (.ext 1, .tree (.fmap true) true 8 l12 none), (.loc 0, .cells [.d (.int .u8 0), .d (.int .i64 0), .d (.str ByteArray.empty), .nils true 6, .d (.int .i64 0), .nils false 1]), (.loc 256, .cells [.d (.int .u8 z4), .d (.int .i64 z5), .d (.str s6), .d (.list true 6 l7), .d (.int .i64 z8), .d (.list false 1 l9)])], 512⟩) (fun t => t.1 ≤ m1 ∧ L54_2 t.1 z1 z4 z5 s6 l7 z8 l9 z10 z11 l12 t.2 = some (r1, r2, r3, r4, r5, r6, r7, r8, r9)) ?_ ?_
        · try cbv
          refine splitI (fun e => ?_) (fun e => ?_)
          · replace h := ite_t e h
            clear e
            try cbv
            exact join_next (m1, true) [0, 1, 4, 5, 6, 7, 18] [.ext 0, .ext 1, .loc 0, .loc 256] 512 ⟨by omega, h⟩ (by cbv)
          · replace h := ite_f e h
            clear e
            try cbv
            exact join_next (m1, false) [0, 1, 4, 5, 6, 7, 18] [.ext 0, .ext 1, .loc 0, .loc 256] 512 ⟨by omega, h⟩ (by cbv)
        · clear h
          rintro ⟨m2, b14⟩ ⟨hm2, h⟩
          replace hm2 : m2 ≤ m1 := hm2
          cases m2 with
          | zero =>
            replace h : L54_2 0 z1 z4 z5 s6 l7 z8 l9 z10 z11 l12 b14 = some (r1, r2, r3, r4, r5, r6, r7, r8, r9) := h
            rw [L54_2] at h
            cases h
          | succ m2 =>
            replace h : L54_2 (m2 + 1) z1 z4 z5 s6 l7 z8 l9 z10 z11 l12 b14 = some (r1, r2, r3, r4, r5, r6, r7, r8, r9) := h
            rw [L54_2] at h
            try cbv
            cases b14
            · replace h := ite_f Bool.false_ne_true h
              try cbv
              refine seq_go ?_
              try cbv
              replace h := putF_inv h
              obtain ⟨l15, hz, h⟩ := h
              refine ⟨l15, (M.lock_iff _).2 hz, ?_⟩
              clear hz
              try cbv
              refine seq_go ?_
              try cbv
              replace h := letF_inv h
              obtain ⟨z16, hz, h⟩ := h
              refine ⟨z16, hz, ?_⟩
              clear hz
              try cbv
              refine seq_go ?_
              try cbv
              replace h := bO6_inv h
              obtain ⟨z17, z18, s19, l20, z21, l22, hr, h⟩ := h
              refine call_go rfl rfl ?_
              try cbv
              refine call_pure hM hI (T95z _ hr) rfl ?_
              clear hr
              try cbv
              obtain ⟨rfl, rfl, rfl, rfl, rfl, rfl, rfl, rfl, rfl⟩ := inj9 h
              refine fin_go ?_
              try cbv
              exact ⟨[], rfl, rfl, ⟨rfl, ⟨rfl, trivial⟩⟩, trivial, trivial⟩
            · replace h := ite_t rfl h
              try cbv
              refine seq_go ?_
              try cbv
              obtain ⟨rfl, rfl, rfl, rfl, rfl, rfl, rfl, rfl, rfl⟩ := inj9 h
              refine fin_go ?_
              try cbv
              exact ⟨[], rfl, rfl, ⟨rfl, ⟨rfl, trivial⟩⟩, trivial, trivial⟩
      · replace h := ite_t rfl h
        try cbv
        refine seq_go ?_
        try cbv
        obtain ⟨rfl, rfl, rfl, rfl, rfl, rfl, rfl, rfl, rfl⟩ := inj9 h
        refine fin_go ?_
        try cbv
        exact ⟨[], rfl, rfl, ⟨rfl, ⟨rfl, trivial⟩⟩, trivial, trivial⟩
end Go.Proofs.Ytiiojajgajnhpaa
end

set_option linter.unusedVariables false
noncomputable section
namespace Go.Proofs.Ytiiojajgajnhpaa
open Go Go.AM
def L111_2 : Nat → (List D) → Int → Int → ByteArray → (List D) → Int → (List D) → Int → Int → ByteArray → (List D) → Int → (List D) → Bool → Option (Int × Int × ByteArray × List D × Int × List D × Int × List D × Int × Int × ByteArray × List D × Int × List D)
  | 0, _, _, _, _, _, _, _, _, _, _, _, _, _, _ => none
  | n + 1, l7, z8, z9, s10, l11, z12, l13, z14, z15, s16, l17, z18, l19, b29 =>
    (if b29 = true then some ((0 : Int), (0 : Int), ByteArray.empty, ([] : List D), (0 : Int), ([] : List D), (6 : Int), l7, z8, z9, s10, l11, z12, l13) else some (z14, z15, s16, l17, z18, l19, (0 : Int), l7, z8, z9, s10, l11, z12, l13))
def L111_1 : Nat → Int → Int → ByteArray → (List D) → Int → (List D) → (List D) → Int → Int → ByteArray → (List D) → Int → (List D) → Int → Int → ByteArray → (List D) → Int → (List D) → Int → Bool → Option (Int × Int × ByteArray × List D × Int × List D × Int × List D × Int × Int × ByteArray × List D × Int × List D)
  | 0, _, _, _, _, _, _, _, _, _, _, _, _, _, _, _, _, _, _, _, _, _ => none
  | n + 1, z1, z2, s3, l4, z5, l6, l7, z8, z9, s10, l11, z12, l13, z14, z15, s16, l17, z18, l19, z20, b21 =>
    (if b21 = true then some (z14, z15, s16, l17, z18, l19, z20, l7, z8, z9, s10, l11, z12, l13) else bO7 (F30 n z1 z2 s3 l4 z5 l6 l7) fun z22 z23 s24 l25 z26 l27 z28 => (if z28 = (3 : Int) then L111_2 n l7 z8 z9 s10 l11 z12 l13 z14 z15 s16 l17 z18 l19 false else L111_2 n l7 z8 z9 s10 l11 z12 l13 z14 z15 s16 l17 z18 l19 true))
def F111 (n : Nat) (z1 : Int) (z2 : Int) (s3 : ByteArray) (l4 : List D) (z5 : Int) (l6 : List D) (l7 : List D) (z8 : Int) (z9 : Int) (s10 : ByteArray) (l11 : List D) (z12 : Int) (l13 : List D) : Option (Int × Int × ByteArray × List D × Int × List D × Int × List D × Int × Int × ByteArray × List D × Int × List D) :=
  bO7 (F32 n z1 z2 s3 l4 z5 l6 l7 z8 z9 s10 l11 z12 l13) fun z14 z15 s16 l17 z18 l19 z20 => (if z20 = (0 : Int) then L111_1 n z1 z2 s3 l4 z5 l6 l7 z8 z9 s10 l11 z12 l13 z14 z15 s16 l17 z18 l19 z20 false else L111_1 n z1 z2 s3 l4 z5 l6 l7 z8 z9 s10 l11 z12 l13 z14 z15 s16 l17 z18 l19 z20 true)
set_option maxRecDepth 100000 in
set_option maxHeartbeats 40000000 in
theorem T111 (n : Nat) : ∀ ⦃z1 : Int⦄ ⦃z2 : Int⦄ ⦃s3 : ByteArray⦄ ⦃l4 : List D⦄ ⦃z5 : Int⦄ ⦃l6 : List D⦄ ⦃l7 : List D⦄ ⦃z8 : Int⦄ ⦃z9 : Int⦄ ⦃s10 : ByteArray⦄ ⦃l11 : List D⦄ ⦃z12 : Int⦄ ⦃l13 : List D⦄ ⦃r1 : Int⦄ ⦃r2 : Int⦄ ⦃r3 : ByteArray⦄ ⦃r4 : List D⦄ ⦃r5 : Int⦄ ⦃r6 : List D⦄ ⦃r7 : Int⦄ ⦃r8 : List D⦄ ⦃r9 : Int⦄ ⦃r10 : Int⦄ ⦃r11 : ByteArray⦄ ⦃r12 : List D⦄ ⦃r13 : Int⦄ ⦃r14 : List D⦄, F111 n z1 z2 s3 l4 z5 l6 l7 z8 z9 s10 l11 z12 l13 = some (r1, r2, r3, r4, r5, r6, r7, r8, r9, r10, r11, r12, r13, r14) →
    Trip Try.prog inv 111 [.d (.agg [.int .u8 z1, .int .i64 z2, .str s3, .list true 6 l4, .int .i64 z5, .list false 1 l6]), .c (.ptr (.ext 0) 0), .c (.ptr (.ext 1) 0)] [.cells [.d (.list false 1 l7)], .cells [.d (.int .u8 z8), .d (.int .i64 z9), .d (.str s10), .d (.list true 6 l11), .d (.int .i64 z12), .d (.list false 1 l13)]] (.t [.d (.agg [.int .u8 r1, .int .i64 r2, .str r3, .list true 6 r4, .int .i64 r5, .list false 1 r6]), .d (.int .u8 r7)]) [.cells [.d (.list false 1 r8)], .cells [.d (.int .u8 r9), .d (.int .i64 r10), .d (.str r11), .d (.list true 6 r12), .d (.int .i64 r13), .d (.list false 1 r14)]] [] := by
  intro z1 z2 s3 l4 z5 l6 l7 z8 z9 s10 l11 z12 l13 r1 r2 r3 r4 r5 r6 r7 r8 r9 r10 r11 r12 r13 r14 h
  unfold F111 at h
  refine Trip.of tab_ok tab_one fol Try.func111 rfl (by kernel_rfl) rfl rfl rfl (fun M hM hI => ?_)
  try cbv
  refine seq_go ?_
  try cbv
  refine seq_go ?_
  try cbv
  replace h := bO7_inv h
  obtain ⟨z14, z15, s16, l17, z18, l19, z20, hr, h⟩ := h
  refine call_go rfl rfl ?_
  try cbv
  refine call_pure hM hI (T32 _ hr) rfl ?_
  clear hr
  try cbv
  refine seq_go ?_
  try cbv
  refine seq_join (T := Nat × Bool) (fun t => ⟨[(1, .v (.c (.ptr (.ext 0) 0))), (3, .v (.c (.ptr (.loc 0) 0))), (4, .v (.c (.ptr (.loc 32) 0))), (5, .v (.d (.int .u8 0))), (6, .v (.c (.ptr (.loc 320) 0))), (7, .v (.d (.int .u8 z20))), (18, .v (.d (.bool t.2)))], [(.ext 0, .cells [.d (.list false 1 l7)]), (.ext 1, .cells [.d (.int .u8 z8), .d (.int .i64 z9), .d (.str s10), .d (.list true 6 l11), .d (.int .i64 z12), .d (.list false 1 l13)]), (.loc 0, .cells [.d (.int .u8 z1), .d (.int .i64 z2), .d (.str s3), .d (.list true 6 l4), .d (.int .i64 z5), .d (.list false 1 l6)]), (.loc 32, .cells [.d (.int .u8 0), .d (.int .i64 0), .d (.str ByteArray.empty), .nils true 6, .d (.int .i64 0), .nils false 1]), (.loc 320, .cells [.d (.int .u8 z14), .d (.int .i64 z15), .d (.str s16), .d (.list true 6 l17), .d (.int .i64 z18), .d (.list false 1 l19)])], 480⟩) (fun t => t.1 ≤ n ∧ L111_1 t.1 z1 z2 s3 l4 z5 l6 l7 z8 z9 s10 l11 z12 l13 z14 z15 s16 l17 z18 l19 z20 t.2 = some (r1, r2, r3, r4, r5, r6, r7, r8, r9, r10, r11, r12, r13, r14)) ?_ ?_
  · try cbv
    refine splitI (fun e => ?_) (fun e => ?_)
    · replace h := ite_t e h
      clear e
      try cbv
      exact join_next (n, false) [1, 3, 4, 5, 6, 7, 18] [.ext 0, .ext 1, .loc 0, .loc 32, .loc 320] 480 ⟨by omega, h⟩ (by cbv)
    · replace h := ite_f e h
      clear e
      try cbv
      exact join_next (n, true) [1, 3, 4, 5, 6, 7, 18] [.ext 0, .ext 1, .loc 0, .loc 32, .loc 320] 480 ⟨by omega, h⟩ (by cbv)
  · clear h
    rintro ⟨m1, b21⟩ ⟨hm1, h⟩
    replace hm1 : m1 ≤ n := hm1
    cases m1 with
    | zero =>
      replace h : L111_1 0 z1 z2 s3 l4 z5 l6 l7 z8 z9 s10 l11 z12 l13 z14 z15 s16 l17 z18 l19 z20 b21 = some (r1, r2, r3, r4, r5, r6, r7, r8, r9, r10, r11, r12, r13, r14) := h
      rw [L111_1] at h
      cases h
    | succ m1 =>
      replace h : L111_1 (m1 + 1) z1 z2 s3 l4 z5 l6 l7 z8 z9 s10 l11 z12 l13 z14 z15 s16 l17 z18 l19 z20 b21 = some (r1, r2, r3, r4, r5, r6, r7, r8, r9, r10, r11, r12, r13, r14) := h
      rw [L111_1] at h
      try cbv
      cases b21
      · replace h := ite_f Bool.false_ne_true h
        try cbv
        refine seq_go ?_
        try cbv
        refine seq_go ?_
        try cbv
        replace h := bO7_inv h
        obtain ⟨z22, z23, s24, l25, z26, l27, z28, hr, h⟩ := h
        refine call_go rfl rfl ?_
        try cbv
        refine call_pure hM hI (T30 _ hr) rfl ?_
        clear hr
        try cbv
        refine seq_join (T := Nat × Bool) (fun t => ⟨[(4, .v (.c (.ptr (.loc 32) 0))), (5, .v (.d (.int .u8 0))), (6, .v (.c (.ptr (.loc 320) 0))), (28, .v (.d (.bool t.2)))], [(.ext 0, .cells [.d (.list false 1 l7)]), (.ext 1, .cells [.d (.int .u8 z8), .d (.int .i64 z9), .d (.str s10), .d (.list true 6 l11), .d (.int .i64 z12), .d (.list false 1 l13)]), (.loc 32, .cells [.d (.int .u8 0), .d (.int .i64 0), .d (.str ByteArray.empty), .nils true 6, .d (.int .i64 0), .nils false 1]), (.loc 320, .cells [.d (.int .u8 z14), .d (.int .i64 z15), .d (.str s16), .d (.list true 6 l17), .d (.int .i64 z18), .d (.list false 1 l19)])], 832⟩) (fun t => t.1 ≤ m1 ∧ L111_2 t.1 l7 z8 z9 s10 l11 z12 l13 z14 z15 s16 l17 z18 l19 t.2 = some (r1, r2, r3, r4, r5, r6, r7, r8, r9, r10, r11, r12, r13, r14)) ?_ ?_
        · try cbv
          refine splitI (fun e => ?_) (fun e => ?_)
          · replace h := ite_t e h
            clear e
            try cbv
            exact join_next (m1, false) [4, 5, 6, 28] [.ext 0, .ext 1, .loc 32, .loc 320] 832 ⟨by omega, h⟩ (by cbv)
          · replace h := ite_f e h
            clear e
            try cbv
            exact join_next (m1, true) [4, 5, 6, 28] [.ext 0, .ext 1, .loc 32, .loc 320] 832 ⟨by omega, h⟩ (by cbv)
        · clear h
          rintro ⟨m2, b29⟩ ⟨hm2, h⟩
          replace hm2 : m2 ≤ m1 := hm2
          cases m2 with
          | zero =>
            replace h : L111_2 0 l7 z8 z9 s10 l11 z12 l13 z14 z15 s16 l17 z18 l19 b29 = some (r1, r2, r3, r4, r5, r6, r7, r8, r9, r10, r11, r12, r13, r14) := h
            rw [L111_2] at h
            cases h
          | succ m2 =>
            replace h : L111_2 (m2 + 1) l7 z8 z9 s10 l11 z12 l13 z14 z15 s16 l17 z18 l19 b29 = some (r1, r2, r3, r4, r5, r6, r7, r8, r9, r10, r11, r12, r13, r14) := h
            rw [L111_2] at h
            try cbv
            cases b29
            · replace h := ite_f Bool.false_ne_true h
              try cbv
              refine seq_go ?_
              try cbv
              obtain ⟨rfl, rfl, rfl, rfl, rfl, rfl, rfl, rfl, rfl, rfl, rfl, rfl, rfl, rfl⟩ := inj14 h
              refine fin_go ?_
              try cbv
              exact ⟨[], rfl, rfl, ⟨rfl, ⟨rfl, trivial⟩⟩, trivial, trivial⟩
            · replace h := ite_t rfl h
              try cbv
              refine seq_go ?_
              try cbv
              obtain ⟨rfl, rfl, rfl, rfl, rfl, rfl, rfl, rfl, rfl, rfl, rfl, rfl, rfl, rfl⟩ := inj14 h
              refine fin_go ?_
              try cbv
              exact ⟨[], rfl, rfl, ⟨rfl, ⟨rfl, trivial⟩⟩, trivial, trivial⟩
      · replace h := ite_t rfl h
        try cbv
        refine seq_go ?_
        try cbv
        obtain ⟨rfl, rfl, rfl, rfl, rfl, rfl, rfl, rfl, rfl, rfl, rfl, rfl, rfl, rfl⟩ := inj14 h
        refine fin_go ?_
        try cbv
        exact ⟨[], rfl, rfl, ⟨rfl, ⟨rfl, trivial⟩⟩, trivial, trivial⟩
end Go.Proofs.Ytiiojajgajnhpaa
end

set_option linter.unusedVariables false
noncomputable section
namespace Go.Proofs.Ytiiojajgajnhpaa
open Go Go.AM
def L109_3 : Nat → Int → Int → (List D) → Int → Int → ByteArray → (List D) → Int → (List D) → (List D) → Option (Int × Int × List D × List D × Int × Int × ByteArray × List D × Int × List D)
  | 0, _, _, _, _, _, _, _, _, _, _ => none
  | n + 1, z18, z27, l28, z29, z30, s31, l32, z33, l34, l37 =>
    some (z27, z18, l37, l28, z29, z30, s31, l32, z33, l34)
def L109_2 : Nat → Int → Int → (List D) → Int → Int → ByteArray → (List D) → Int → (List D) → Int → (List D) → Int → Int → ByteArray → (List D) → Int → (List D) → Bool → Option (Int × Int × List D × List D × Int × Int × ByteArray × List D × Int × List D)
  | 0, _, _, _, _, _, _, _, _, _, _, _, _, _, _, _, _, _, _ => none
  | n + 1, z1, z18, l19, z21, z22, s23, l24, z25, l26, z27, l28, z29, z30, s31, l32, z33, l34, b35 =>
    (if b35 = true then putF (.int .i64 z1) [.int .u8 z21, .int .i64 z22, .str s23, .list true 6 l24, .int .i64 z25, .list false 1 l26, .bool false] l19 fun l36 => L109_3 n z18 z27 l28 z29 z30 s31 l32 z33 l34 l36 else L109_3 n z18 z27 l28 z29 z30 s31 l32 z33 l34 l19)
def L109_1 : Nat → Int → (List D) → Int → Int → ByteArray → (List D) → Int → (List D) → Int → Int → ByteArray → (List D) → Int → (List D) → Int → Int → (List D) → Bool → Option (Int × Int × List D × List D × Int × Int × ByteArray × List D × Int × List D)
  | 0, _, _, _, _, _, _, _, _, _, _, _, _, _, _, _, _, _, _ => none
  | n + 1, z1, l4, z5, z6, s7, l8, z9, l10, z11, z12, s13, l14, z15, l16, z17, z18, l19, b20 =>
    (if b20 = true then some (z17, z18, l19, l4, z5, z6, s7, l8, z9, l10) else bO14 (F111 n z11 z12 s13 l14 z15 l16 l4 z5 z6 s7 l8 z9 l10) fun z21 z22 s23 l24 z25 l26 z27 l28 z29 z30 s31 l32 z33 l34 => (if z27 = (0 : Int) then L109_2 n z1 z18 l19 z21 z22 s23 l24 z25 l26 z27 l28 z29 z30 s31 l32 z33 l34 true else L109_2 n z1 z18 l19 z21 z22 s23 l24 z25 l26 z27 l28 z29 z30 s31 l32 z33 l34 false))
def F109 (n : Nat) (z1 : Int) (z2 : Int) (l3 : List D) (l4 : List D) (z5 : Int) (z6 : Int) (s7 : ByteArray) (l8 : List D) (z9 : Int) (l10 : List D) : Option (Int × Int × List D × List D × Int × Int × ByteArray × List D × Int × List D) :=
  bO9 (F108 n z1 z2 l3) fun z11 z12 s13 l14 z15 l16 z17 z18 l19 => (if z17 = (0 : Int) then L109_1 n z1 l4 z5 z6 s7 l8 z9 l10 z11 z12 s13 l14 z15 l16 z17 z18 l19 false else L109_1 n z1 l4 z5 z6 s7 l8 z9 l10 z11 z12 s13 l14 z15 l16 z17 z18 l19 true)
set_option maxRecDepth 100000 in
set_option maxHeartbeats 40000000 in
theorem T109 (n : Nat) : ∀ ⦃z1 : Int⦄ ⦃z2 : Int⦄ ⦃l3 : List D⦄ ⦃l4 : List D⦄ ⦃z5 : Int⦄ ⦃z6 : Int⦄ ⦃s7 : ByteArray⦄ ⦃l8 : List D⦄ ⦃z9 : Int⦄ ⦃l10 : List D⦄ ⦃r1 : Int⦄ ⦃r2 : Int⦄ ⦃r3 : List D⦄ ⦃r4 : List D⦄ ⦃r5 : Int⦄ ⦃r6 : Int⦄ ⦃r7 : ByteArray⦄ ⦃r8 : List D⦄ ⦃r9 : Int⦄ ⦃r10 : List D⦄, F109 n z1 z2 l3 l4 z5 z6 s7 l8 z9 l10 = some (r1, r2, r3, r4, r5, r6, r7, r8, r9, r10) →
    Trip Try.prog inv 109 [.c (.ptr (.ext 0) 0), .d (.int .i64 z1), .c (.fn 111 [.ext 2, .ext 3])] [.cells [.ow (.ext 1), .d (.int .i64 z2)], .tree (.fmap true) true 8 l3 none, .cells [.d (.list false 1 l4)], .cells [.d (.int .u8 z5), .d (.int .i64 z6), .d (.str s7), .d (.list true 6 l8), .d (.int .i64 z9), .d (.list false 1 l10)]] (.v (.d (.int .u8 r1))) [.cells [.ow (.ext 1), .d (.int .i64 r2)], .tree (.fmap true) true 8 r3 none, .cells [.d (.list false 1 r4)], .cells [.d (.int .u8 r5), .d (.int .i64 r6), .d (.str r7), .d (.list true 6 r8), .d (.int .i64 r9), .d (.list false 1 r10)]] [] := by
  intro z1 z2 l3 l4 z5 z6 s7 l8 z9 l10 r1 r2 r3 r4 r5 r6 r7 r8 r9 r10 h
  unfold F109 at h
  refine Trip.of tab_ok tab_one fol Try.func109 rfl (by kernel_rfl) rfl rfl rfl (fun M hM hI => ?_)
  try cbv
  refine seq_go ?_
  try cbv
  refine seq_go ?_
  try cbv
  replace h := bO9_inv h
  obtain ⟨z11, z12, s13, l14, z15, l16, z17, z18, l19, hr, h⟩ := h
  refine call_go rfl rfl ?_
  try cbv
  refine call_with hM hI [.ext 0, .ext 1] (T108 _ hr) rfl (by simp) ⟨rfl, ⟨rfl, trivial⟩⟩ ⟨trivial, ⟨trivial, trivial⟩⟩ (by simp) ?_
  clear hr
  try cbv
  refine seq_go ?_
  try cbv
  refine seq_join (T := Nat × Bool) (fun t => ⟨[(0, .v (.c (.ptr (.ext 0) 0))), (1, .v (.d (.int .i64 z1))), (2, .v (.c (.fn 111 [.ext 2, .ext 3]))), (6, .v (.d (.int .u8 0))), (7, .v (.c (.ptr (.loc 224) 0))), (8, .v (.d (.int .u8 z17))), (17, .v (.d (.bool t.2)))], [(.ext 0, .cells [.ow (.ext 1), .d (.int .i64 z18)]), (.ext 1, .tree (.fmap true) true 8 l19 none), (.ext 2, .cells [.d (.list false 1 l4)]), (.ext 3, .cells [.d (.int .u8 z5), .d (.int .i64 z6), .d (.str s7), .d (.list true 6 l8), .d (.int .i64 z9), .d (.list false 1 l10)]), (.loc 224, .cells [.d (.int .u8 z11), .d (.int .i64 z12), .d (.str s13), .d (.list true 6 l14), .d (.int .i64 z15), .d (.list false 1 l16)])], 384⟩) (fun t => t.1 ≤ n ∧ L109_1 t.1 z1 l4 z5 z6 s7 l8 z9 l10 z11 z12 s13 l14 z15 l16 z17 z18 l19 t.2 = some (r1, r2, r3, r4, r5, r6, r7, r8, r9, r10)) ?_ ?_
  · try cbv
    refine splitI (fun e => ?_) (fun e => ?_)
    · replace h := ite_t e h
      clear e
      try cbv
      exact join_next (n, false) [0, 1, 2, 6, 7, 8, 17] [.ext 0, .ext 1, .ext 2, .ext 3, .loc 224] 384 ⟨by omega, h⟩ (by cbv)
    · replace h := ite_f e h
      clear e
      try cbv
      exact join_next (n, true) [0, 1, 2, 6, 7, 8, 17] [.ext 0, .ext 1, .ext 2, .ext 3, .loc 224] 384 ⟨by omega, h⟩ (by cbv)
  · clear h
    rintro ⟨m1, b20⟩ ⟨hm1, h⟩
    replace hm1 : m1 ≤ n := hm1
    cases m1 with
    | zero =>
      replace h : L109_1 0 z1 l4 z5 z6 s7 l8 z9 l10 z11 z12 s13 l14 z15 l16 z17 z18 l19 b20 = some (r1, r2, r3, r4, r5, r6, r7, r8, r9, r10) := h
      rw [L109_1] at h
      cases h
    | succ m1 =>
      replace h : L109_1 (m1 + 1) z1 l4 z5 z6 s7 l8 z9 l10 z11 z12 s13 l14 z15 l16 z17 z18 l19 b20 = some (r1, r2, r3, r4, r5, r6, r7, r8, r9, r10) := h
      rw [L109_1] at h
      try cbv
      cases b20
      · replace h := ite_f Bool.false_ne_true h
        try cbv
        refine seq_go ?_
        try cbv
        replace h := bO14_inv h
        obtain ⟨z21, z22, s23, l24, z25, l26, z27, l28, z29, z30, s31, l32, z33, l34, hr, h⟩ := h
        refine call_go rfl rfl ?_
        try cbv
        refine call_with hM hI [.ext 2, .ext 3] (T111 _ hr) rfl (by simp) ⟨rfl, ⟨rfl, trivial⟩⟩ ⟨trivial, ⟨trivial, trivial⟩⟩ (by simp) ?_
        clear hr
        try cbv
        refine seq_join (T := Nat × List D) (fun t => ⟨[(6, .v (.d (.int .u8 0))), (8, .v (.d (.int .u8 z27)))], [(.ext 0, .cells [.ow (.ext 1), .d (.int .i64 z18)]), (.ext 1, .tree (.fmap true) true 8 t.2 none), (.ext 2, .cells [.d (.list false 1 l28)]), (.ext 3, .cells [.d (.int .u8 z29), .d (.int .i64 z30), .d (.str s31), .d (.list true 6 l32), .d (.int .i64 z33), .d (.list false 1 l34)])], 992⟩) (fun t => t.1 ≤ m1 ∧ L109_3 t.1 z18 z27 l28 z29 z30 s31 l32 z33 l34 t.2 = some (r1, r2, r3, r4, r5, r6, r7, r8, r9, r10)) ?_ ?_
        · try cbv
          refine seq_join (T := Nat × Bool) (fun t => ⟨[(0, .v (.c (.ptr (.ext 0) 0))), (1, .v (.d (.int .i64 z1))), (6, .v (.d (.int .u8 0))), (8, .v (.d (.int .u8 z27))), (9, .v (.c (.ptr (.loc 576) 0))), (26, .v (.d (.bool t.2)))], [(.ext 0, .cells [.ow (.ext 1), .d (.int .i64 z18)]), (.ext 1, .tree (.fmap true) true 8 l19 none), (.ext 2, .cells [.d (.list false 1 l28)]), (.ext 3, .cells [.d (.int .u8 z29), .d (.int .i64 z30), .d (.str s31), .d (.list true 6 l32), .d (.int .i64 z33), .d (.list false 1 l34)]), (.loc 576, .cells [.d (.int .u8 z21), .d (.int .i64 z22), .d (.str s23), .d (.list true 6 l24), .d (.int .i64 z25), .d (.list false 1 l26)])], 736⟩) (fun t => t.1 ≤ m1 ∧ L109_2 t.1 z1 z18 l19 z21 z22 s23 l24 z25 l26 z27 l28 z29 z30 s31 l32 z33 l34 t.2 = some (r1, r2, r3, r4, r5, r6, r7, r8, r9, r10)) ?_ ?_
          · try cbv
            refine splitI (fun e => ?_) (fun e => ?_)
            · replace h := ite_t e h
              clear e
              try cbv
              exact join_next (m1, true) [0, 1, 6, 8, 9, 26] [.ext 0, .ext 1, .ext 2, .ext 3, .loc 576] 736 ⟨by omega, h⟩ (by cbv)
            · replace h := ite_f e h
              clear e
              try cbv
              exact join_next (m1, false) [0, 1, 6, 8, 9, 26] [.ext 0, .ext 1, .ext 2, .ext 3, .loc 576] 736 ⟨by omega, h⟩ (by cbv)
          · clear h
            rintro ⟨m2, b35⟩ ⟨hm2, h⟩
            replace hm2 : m2 ≤ m1 := hm2
            cases m2 with
            | zero =>
              replace h : L109_2 0 z1 z18 l19 z21 z22 s23 l24 z25 l26 z27 l28 z29 z30 s31 l32 z33 l34 b35 = some (r1, r2, r3, r4, r5, r6, r7, r8, r9, r10) := h
              rw [L109_2] at h
              cases h
            | succ m2 =>
              replace h : L109_2 (m2 + 1) z1 z18 l19 z21 z22 s23 l24 z25 l26 z27 l28 z29 z30 s31 l32 z33 l34 b35 = some (r1, r2, r3, r4, r5, r6, r7, r8, r9, r10) := h
              rw [L109_2] at h
              try cbv
              cases b35
              · replace h := ite_f Bool.false_ne_true h
                try cbv
                exact join_next (m2, l19) [6, 8] [.ext 0, .ext 1, .ext 2, .ext 3] 992 ⟨by omega, h⟩ (by cbv)
              · replace h := ite_t rfl h
                try cbv
                replace h := putF_inv h
                obtain ⟨l36, hz, h⟩ := h
                refine ⟨l36, (M.lock_iff _).2 hz, ?_⟩
                clear hz
                try cbv
                refine drawn ?_ ?_
                · show _ = true
                  kernel_rfl
                try cbv
                exact join_next (m2, l36) [6, 8] [.ext 0, .ext 1, .ext 2, .ext 3] 992 ⟨by omega, h⟩ (by cbv)
        · clear h
          rintro ⟨m3, l37⟩ ⟨hm3, h⟩
          replace hm3 : m3 ≤ m1 := hm3
          cases m3 with
          | zero =>
            replace h : L109_3 0 z18 z27 l28 z29 z30 s31 l32 z33 l34 l37 = some (r1, r2, r3, r4, r5, r6, r7, r8, r9, r10) := h
            rw [L109_3] at h
            cases h
          | succ m3 =>
            replace h : L109_3 (m3 + 1) z18 z27 l28 z29 z30 s31 l32 z33 l34 l37 = some (r1, r2, r3, r4, r5, r6, r7, r8, r9, r10) := h
            rw [L109_3] at h
            try cbv
            refine seq_go ?_
            try cbv
            obtain ⟨rfl, rfl, rfl, rfl, rfl, rfl, rfl, rfl, rfl, rfl⟩ := inj10 h
            refine fin_go ?_
            try cbv
            exact ⟨[], rfl, rfl, ⟨rfl, ⟨rfl, ⟨rfl, ⟨rfl, trivial⟩⟩⟩⟩, trivial, trivial⟩
      · replace h := ite_t rfl h
        try cbv
        refine seq_go ?_
        try cbv
        obtain ⟨rfl, rfl, rfl, rfl, rfl, rfl, rfl, rfl, rfl, rfl⟩ := inj10 h
        refine fin_go ?_
        try cbv
        exact ⟨[], rfl, rfl, ⟨rfl, ⟨rfl, ⟨rfl, ⟨rfl, trivial⟩⟩⟩⟩, trivial, trivial⟩
end Go.Proofs.Ytiiojajgajnhpaa
end

set_option linter.unusedVariables false
noncomputable section
namespace Go.Proofs.Ytiiojajgajnhpaa
open Go Go.AM
def F55 (n : Nat) (z1 : Int) (l2 : List D) (z3 : Int) (z4 : Int) (s5 : ByteArray) (l6 : List D) (z7 : Int) (l8 : List D) (z9 : Int) (l10 : List D) : Option (Int × Int × List D) :=
  bO10 (F109 n z1 z9 l10 l2 z3 z4 s5 l6 z7 l8) fun z11 z12 l13 l14 z15 z16 s17 l18 z19 l20 => some (z11, z12, l13)
set_option maxRecDepth 100000 in
set_option maxHeartbeats 40000000 in
theorem T55 (n : Nat) : ∀ ⦃z1 : Int⦄ ⦃l2 : List D⦄ ⦃z3 : Int⦄ ⦃z4 : Int⦄ ⦃s5 : ByteArray⦄ ⦃l6 : List D⦄ ⦃z7 : Int⦄ ⦃l8 : List D⦄ ⦃z9 : Int⦄ ⦃l10 : List D⦄ ⦃r1 : Int⦄ ⦃r2 : Int⦄ ⦃r3 : List D⦄, F55 n z1 l2 z3 z4 s5 l6 z7 l8 z9 l10 = some (r1, r2, r3) →
    Trip Try.prog inv 55 [.c (.ptr (.ext 0) 0), .d (.int .i64 z1), .d (.list false 1 l2), .d (.agg [.int .u8 z3, .int .i64 z4, .str s5, .list true 6 l6, .int .i64 z7, .list false 1 l8])] [.cells [.ow (.ext 1), .d (.int .i64 z9)], .tree (.fmap true) true 8 l10 none] (.v (.d (.int .u8 r1))) [.cells [.ow (.ext 1), .d (.int .i64 r2)], .tree (.fmap true) true 8 r3 none] [] := by
  intro z1 l2 z3 z4 s5 l6 z7 l8 z9 l10 r1 r2 r3 h
  unfold F55 at h
  refine Trip.of tab_ok tab_one fol Try.func55 rfl (by kernel_rfl) rfl rfl rfl (fun M hM hI => ?_)
  try cbv
  refine seq_go ?_
  try cbv
  refine seq_go ?_
  try cbv
  replace h := bO10_inv h
  obtain ⟨z11, z12, l13, l14, z15, z16, s17, l18, z19, l20, hr, h⟩ := h
  refine call_go rfl rfl ?_
  try cbv
  refine call_with hM hI [.ext 0, .ext 1, .loc 0, .loc 32] (T109 _ hr) rfl (by simp) ⟨rfl, ⟨rfl, ⟨rfl, ⟨rfl, trivial⟩⟩⟩⟩ ⟨trivial, ⟨trivial, ⟨trivial, ⟨trivial, trivial⟩⟩⟩⟩ (by simp) ?_
  clear hr
  try cbv
  obtain ⟨rfl, rfl, rfl⟩ := inj3 h
  refine fin_go ?_
  try cbv
  exact ⟨[], rfl, rfl, ⟨rfl, ⟨rfl, trivial⟩⟩, trivial, trivial⟩
end Go.Proofs.Ytiiojajgajnhpaa
end

set_option linter.unusedVariables false
noncomputable section
namespace Go.Proofs.Ytiiojajgajnhpaa
open Go Go.AM
def F57 (n : Nat) (z1 : Int) (l2 : List D) : Option (Int × Int × List D) :=
  bO2 (F107 n z1 l2) fun z3 l4 => lenF l4 fun z5 => some (z5, z3, l4)
set_option maxRecDepth 100000 in
set_option maxHeartbeats 40000000 in
theorem T57 (n : Nat) : ∀ ⦃z1 : Int⦄ ⦃l2 : List D⦄ ⦃r1 : Int⦄ ⦃r2 : Int⦄ ⦃r3 : List D⦄, F57 n z1 l2 = some (r1, r2, r3) →
    Trip Try.prog inv 57 [.c (.ptr (.ext 0) 0)] [.cells [.ow (.ext 1), .d (.int .i64 z1)], .tree (.fmap true) true 8 l2 none] (.v (.d (.int .i64 r1))) [.cells [.ow (.ext 1), .d (.int .i64 r2)], .tree (.fmap true) true 8 r3 none] [] := by
  intro z1 l2 r1 r2 r3 h
  unfold F57 at h
  refine Trip.of tab_ok tab_one fol Try.func57 rfl (by kernel_rfl) rfl rfl rfl (fun M hM hI => ?_)
  try cbv
  refine seq_go ?_
  try cbv
  refine seq_go ?_
  try cbv
  refine seq_go ?_
  try cbv
  replace h := bO2_inv h
  obtain ⟨z3, l4, hr, h⟩ := h
  refine call_go rfl rfl ?_
  try cbv
  refine call_with hM hI [.ext 0, .ext 1] (T107 _ hr) rfl (by simp) ⟨rfl, ⟨rfl, trivial⟩⟩ ⟨trivial, ⟨trivial, trivial⟩⟩ (by simp) ?_
  clear hr
  try cbv
  refine seq_go ?_
  try cbv
  replace h := lenF_inv M h
  obtain ⟨z5, hz, h⟩ := h
  refine ⟨true, ?_⟩
  try cbv
  refine ⟨z5, hz, ?_⟩
  clear hz
  try cbv
  obtain ⟨rfl, rfl, rfl⟩ := inj3 h
  refine fin_go ?_
  try cbv
  exact ⟨[], rfl, rfl, ⟨rfl, ⟨rfl, trivial⟩⟩, trivial, trivial⟩
end Go.Proofs.Ytiiojajgajnhpaa
end

set_option linter.unusedVariables false
noncomputable section
namespace Go.Proofs.Ytiiojajgajnhpaa
open Go Go.AM
def F58 (n : Nat) (z1 : Int) (l2 : List D) : Option (Int × Int × List D) :=
  bO2 (F107 n z1 l2) fun z3 l4 => some (z3, z3, l4)
set_option maxRecDepth 100000 in
set_option maxHeartbeats 40000000 in
theorem T58 (n : Nat) : ∀ ⦃z1 : Int⦄ ⦃l2 : List D⦄ ⦃r1 : Int⦄ ⦃r2 : Int⦄ ⦃r3 : List D⦄, F58 n z1 l2 = some (r1, r2, r3) →
    Trip Try.prog inv 58 [.c (.ptr (.ext 0) 0)] [.cells [.ow (.ext 1), .d (.int .i64 z1)], .tree (.fmap true) true 8 l2 none] (.v (.d (.int .i64 r1))) [.cells [.ow (.ext 1), .d (.int .i64 r2)], .tree (.fmap true) true 8 r3 none] [] := by
  intro z1 l2 r1 r2 r3 h
  unfold F58 at h
  refine Trip.of tab_ok tab_one fol Try.func58 rfl (by kernel_rfl) rfl rfl rfl (fun M hM hI => ?_)
  try cbv
  refine seq_go ?_
  try cbv
  refine seq_go ?_
  try cbv
  refine seq_go ?_
  try cbv
  replace h := bO2_inv h
  obtain ⟨z3, l4, hr, h⟩ := h
  refine call_go rfl rfl ?_
  try cbv
  refine call_with hM hI [.ext 0, .ext 1] (T107 _ hr) rfl (by simp) ⟨rfl, ⟨rfl, trivial⟩⟩ ⟨trivial, ⟨trivial, trivial⟩⟩ (by simp) ?_
  clear hr
  try cbv
  refine seq_go ?_
  try cbv
  obtain ⟨rfl, rfl, rfl⟩ := inj3 h
  refine fin_go ?_
  try cbv
  exact ⟨[], rfl, rfl, ⟨rfl, ⟨rfl, trivial⟩⟩, trivial, trivial⟩
end Go.Proofs.Ytiiojajgajnhpaa
end
