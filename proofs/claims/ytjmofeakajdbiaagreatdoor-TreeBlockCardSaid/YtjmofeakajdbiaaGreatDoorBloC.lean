/- Part of a proof. No condition. (Part 3.) -/
import Derived.Test.YtjmofeakajdbiaaGreatDoorProg
import Derived.KernelRfl
import Derived.Laws.CopyRow
import Derived.DataReads
import Derived.Shelf.Strings.Fields
import Derived.Shelf.Unicode.Latin
import Derived.Shelf.Unicode.Is16White
import Derived.Shelf.Unicode.IsSpaceAny
import Derived.Shelf.Unicode.Is16Any
import Derived.Shelf.Unicode.Is32Any
import Derived.Shelf.Unicode.ExclAny
import Derived.Test.YtjmofeakajdbiaaGreatDoorBloB
set_option linter.unusedVariables false
set_option linter.unusedSimpArgs false
namespace Go.Proofs.YtjmofeakajdbiaaGreatDoor
open Go Go.AM
def tabC0:List (Nat×TI):=[(1,⟨.func #[] #[] false,1,8,.nilFunc,[.nilf]⟩),
 (2,⟨.int .i64,1,8,.int .i64 0,[.d (.int .i64 0)]⟩),
 (3,⟨.int .i64,1,8,.int .i64 0,[.d (.int .i64 0)]⟩),
 (4,⟨.bool,1,1,.bool false,[.d (.bool false)]⟩),
 (5,⟨.int .u8,1,1,.int .u8 0,[.d (.int .u8 0)]⟩),
 (6,⟨.int .u8,1,1,.int .u8 0,[.d (.int .u8 0)]⟩),
 (7,⟨.struct #[⟨"x",2,0,false, "", "runtime",0⟩,⟨"y",3,1,false, "", "runtime",8⟩,⟨"signed",4,2,false, "", "runtime",16⟩,⟨"code",6,3,false, "", "runtime",17⟩],4,24,.agg #[.int .i64 0,.int .i64 0,.bool false,.int .u8 0],[.d (.int .i64 0),.d (.int .i64 0),.d (.bool false),.d (.int .u8 0)]⟩),
 (8,⟨.struct #[⟨"x",2,0,false, "", "runtime",0⟩,⟨"y",3,1,false, "", "runtime",8⟩,⟨"signed",4,2,false, "", "runtime",16⟩,⟨"code",6,3,false, "", "runtime",17⟩],4,24,.agg #[.int .i64 0,.int .i64 0,.bool false,.int .u8 0],[.d (.int .i64 0),.d (.int .i64 0),.d (.bool false),.d (.int .u8 0)]⟩),
 (9,⟨.string,1,16,.string ByteArray.empty,[.d (.str ByteArray.empty)]⟩),
 (10,⟨.string,1,16,.string ByteArray.empty,[.d (.str ByteArray.empty)]⟩),
 (11,⟨.string,1,16,.string ByteArray.empty,[.d (.str ByteArray.empty)]⟩),
 (12,⟨.int .u64,1,8,.int .u64 0,[.d (.int .u64 0)]⟩),
 (13,⟨.struct #[⟨"msg",9,0,false, "", "runtime",0⟩,⟨"addr",12,1,false, "", "runtime",16⟩],2,24,.agg #[.string ByteArray.empty,.int .u64 0],[.d (.str ByteArray.empty),.d (.int .u64 0)]⟩),
 (14,⟨.struct #[⟨"msg",9,0,false, "", "runtime",0⟩,⟨"addr",12,1,false, "", "runtime",16⟩],2,24,.agg #[.string ByteArray.empty,.int .u64 0],[.d (.str ByteArray.empty),.d (.int .u64 0)]⟩),
 (15,⟨.pointer 180,1,8,.pointer none,[.nilp]⟩)]
def tabC1:List (Nat×TI):=[(16,⟨.pointer 183,1,8,.pointer none,[.nilp]⟩),
 (17,⟨.pointer 192,1,8,.pointer none,[.nilp]⟩),
 (18,⟨.struct #[⟨"typ",17,0,false, "", "internal/runtime/maps",0⟩],1,8,.agg #[.pointer none],[.nilp]⟩),
 (19,⟨.struct #[⟨"typ",17,0,false, "", "internal/runtime/maps",0⟩],1,8,.agg #[.pointer none],[.nilp]⟩),
 (21,⟨.int .i32,1,4,.int .i32 0,[.d (.int .i32 0)]⟩),
 (22,⟨.slice 45,1,24,.slice none 0 0,[.nils true 16]⟩),
 (23,⟨.struct #[⟨"Items",22,0,false, "", "",0⟩],1,24,.agg #[.slice none 0 0],[.nils true 16]⟩),
 (24,⟨.struct #[⟨"Items",22,0,false, "", "",0⟩],1,24,.agg #[.slice none 0 0],[.nils true 16]⟩),
 (25,⟨.func #[24] #[4] false,1,8,.nilFunc,[.nilf]⟩),
 (26,⟨.func #[24,4] #[24] false,1,8,.nilFunc,[.nilf]⟩),
 (27,⟨.func #[24] #[3] false,1,8,.nilFunc,[.nilf]⟩),
 (28,⟨.func #[24,24,4] #[4] false,1,8,.nilFunc,[.nilf]⟩),
 (29,⟨.func #[] #[4] false,1,8,.nilFunc,[.nilf]⟩),
 (30,⟨.func #[24,24] #[4] false,1,8,.nilFunc,[.nilf]⟩),
 (31,⟨.slice 33,1,24,.slice none 0 0,[.nils true 3]⟩)]
def tabC2:List (Nat×TI):=[(32,⟨.struct #[⟨"Kind",5,0,false, "", "",0⟩,⟨"Name",9,1,false, "", "",8⟩,⟨"Args",31,2,false, "", "",24⟩],3,48,.agg #[.int .u8 0,.string ByteArray.empty,.slice none 0 0],[.d (.int .u8 0),.d (.str ByteArray.empty),.nils true 3]⟩),
 (33,⟨.struct #[⟨"Kind",5,0,false, "", "",0⟩,⟨"Name",9,1,false, "", "",8⟩,⟨"Args",31,2,false, "", "",24⟩],3,48,.agg #[.int .u8 0,.string ByteArray.empty,.slice none 0 0],[.d (.int .u8 0),.d (.str ByteArray.empty),.nils true 3]⟩),
 (34,⟨.slice 9,1,24,.slice none 0 0,[.nils false 1]⟩),
 (35,⟨.struct #[⟨"Name",9,0,false, "", "",0⟩,⟨"Path",34,1,false, "", "",16⟩],2,40,.agg #[.string ByteArray.empty,.slice none 0 0],[.d (.str ByteArray.empty),.nils false 1]⟩),
 (36,⟨.struct #[⟨"Name",9,0,false, "", "",0⟩,⟨"Path",34,1,false, "", "",16⟩],2,40,.agg #[.string ByteArray.empty,.slice none 0 0],[.d (.str ByteArray.empty),.nils false 1]⟩),
 (37,⟨.slice 39,1,24,.slice none 0 0,[.nils true 8]⟩),
 (38,⟨.struct #[⟨"Op",5,0,false, "", "",0⟩,⟨"Int",2,1,false, "", "",8⟩,⟨"Name",9,2,false, "", "",16⟩,⟨"Second",9,3,false, "", "",32⟩,⟨"Place",36,4,false, "", "",48⟩,⟨"Args",37,6,false, "", "",88⟩,⟨"At",3,7,false, "", "",112⟩],8,120,.agg #[.int .u8 0,.int .i64 0,.string ByteArray.empty,.string ByteArray.empty,.string ByteArray.empty,.slice none 0 0,.slice none 0 0,.int .i64 0],[.d (.int .u8 0),.d (.int .i64 0),.d (.str ByteArray.empty),.d (.str ByteArray.empty),.d (.str ByteArray.empty),.nils false 1,.nils true 8,.d (.int .i64 0)]⟩),
 (39,⟨.struct #[⟨"Op",5,0,false, "", "",0⟩,⟨"Int",2,1,false, "", "",8⟩,⟨"Name",9,2,false, "", "",16⟩,⟨"Second",9,3,false, "", "",32⟩,⟨"Place",36,4,false, "", "",48⟩,⟨"Args",37,6,false, "", "",88⟩,⟨"At",3,7,false, "", "",112⟩],8,120,.agg #[.int .u8 0,.int .i64 0,.string ByteArray.empty,.string ByteArray.empty,.string ByteArray.empty,.slice none 0 0,.slice none 0 0,.int .i64 0],[.d (.int .u8 0),.d (.int .i64 0),.d (.str ByteArray.empty),.d (.str ByteArray.empty),.d (.str ByteArray.empty),.nils false 1,.nils true 8,.d (.int .i64 0)]⟩),
 (40,⟨.func #[33] #[4] false,1,8,.nilFunc,[.nilf]⟩),
 (41,⟨.func #[39] #[4] false,1,8,.nilFunc,[.nilf]⟩),
 (42,⟨.slice 74,1,24,.slice none 0 0,[.nils true 4]⟩),
 (43,⟨.slice 50,1,24,.slice none 0 0,[.nils true 15]⟩),
 (44,⟨.struct #[⟨"Kind",5,0,false, "", "",0⟩,⟨"Name",9,1,false, "", "",8⟩,⟨"Fields",42,2,false, "", "",24⟩,⟨"Result",33,3,false, "", "",48⟩,⟨"Body",43,6,false, "", "",96⟩,⟨"Return",39,7,false, "", "",120⟩,⟨"At",3,15,false, "", "",240⟩],16,248,.agg #[.int .u8 0,.string ByteArray.empty,.slice none 0 0,.int .u8 0,.string ByteArray.empty,.slice none 0 0,.slice none 0 0,.int .u8 0,.int .i64 0,.string ByteArray.empty,.string ByteArray.empty,.string ByteArray.empty,.slice none 0 0,.slice none 0 0,.int .i64 0,.int .i64 0],[.d (.int .u8 0),.d (.str ByteArray.empty),.nils true 4,.d (.int .u8 0),.d (.str ByteArray.empty),.nils true 3,.nils true 15,.d (.int .u8 0),.d (.int .i64 0),.d (.str ByteArray.empty),.d (.str ByteArray.empty),.d (.str ByteArray.empty),.nils false 1,.nils true 8,.d (.int .i64 0),.d (.int .i64 0)]⟩),
 (45,⟨.struct #[⟨"Kind",5,0,false, "", "",0⟩,⟨"Name",9,1,false, "", "",8⟩,⟨"Fields",42,2,false, "", "",24⟩,⟨"Result",33,3,false, "", "",48⟩,⟨"Body",43,6,false, "", "",96⟩,⟨"Return",39,7,false, "", "",120⟩,⟨"At",3,15,false, "", "",240⟩],16,248,.agg #[.int .u8 0,.string ByteArray.empty,.slice none 0 0,.int .u8 0,.string ByteArray.empty,.slice none 0 0,.slice none 0 0,.int .u8 0,.int .i64 0,.string ByteArray.empty,.string ByteArray.empty,.string ByteArray.empty,.slice none 0 0,.slice none 0 0,.int .i64 0,.int .i64 0],[.d (.int .u8 0),.d (.str ByteArray.empty),.nils true 4,.d (.int .u8 0),.d (.str ByteArray.empty),.nils true 3,.nils true 15,.d (.int .u8 0),.d (.int .i64 0),.d (.str ByteArray.empty),.d (.str ByteArray.empty),.d (.str ByteArray.empty),.nils false 1,.nils true 8,.d (.int .i64 0),.d (.int .i64 0)]⟩),
 (46,⟨.func #[33,39] #[4] false,1,8,.nilFunc,[.nilf]⟩),
 (47,⟨.func #[] #[24] false,1,8,.nilFunc,[.nilf]⟩)]
def tabC3:List (Nat×TI):=[(48,⟨.slice 95,1,24,.slice none 0 0,[.nils true 3]⟩),
 (49,⟨.struct #[⟨"Op",5,0,false, "", "",0⟩,⟨"Name",9,1,false, "", "",8⟩,⟨"Second",9,2,false, "", "",24⟩,⟨"Names",34,3,false, "", "",40⟩,⟨"Type",33,4,false, "", "",64⟩,⟨"Int",2,7,false, "", "",112⟩,⟨"Place",36,8,false, "", "",120⟩,⟨"Exprs",37,10,false, "", "",160⟩,⟨"Body",43,11,false, "", "",184⟩,⟨"Else",43,12,false, "", "",208⟩,⟨"Arms",48,13,false, "", "",232⟩,⟨"At",3,14,false, "", "",256⟩],15,264,.agg #[.int .u8 0,.string ByteArray.empty,.string ByteArray.empty,.slice none 0 0,.int .u8 0,.string ByteArray.empty,.slice none 0 0,.int .i64 0,.string ByteArray.empty,.slice none 0 0,.slice none 0 0,.slice none 0 0,.slice none 0 0,.slice none 0 0,.int .i64 0],[.d (.int .u8 0),.d (.str ByteArray.empty),.d (.str ByteArray.empty),.nils false 1,.d (.int .u8 0),.d (.str ByteArray.empty),.nils true 3,.d (.int .i64 0),.d (.str ByteArray.empty),.nils false 1,.nils true 8,.nils true 15,.nils true 15,.nils true 3,.d (.int .i64 0)]⟩),
 (50,⟨.struct #[⟨"Op",5,0,false, "", "",0⟩,⟨"Name",9,1,false, "", "",8⟩,⟨"Second",9,2,false, "", "",24⟩,⟨"Names",34,3,false, "", "",40⟩,⟨"Type",33,4,false, "", "",64⟩,⟨"Int",2,7,false, "", "",112⟩,⟨"Place",36,8,false, "", "",120⟩,⟨"Exprs",37,10,false, "", "",160⟩,⟨"Body",43,11,false, "", "",184⟩,⟨"Else",43,12,false, "", "",208⟩,⟨"Arms",48,13,false, "", "",232⟩,⟨"At",3,14,false, "", "",256⟩],15,264,.agg #[.int .u8 0,.string ByteArray.empty,.string ByteArray.empty,.slice none 0 0,.int .u8 0,.string ByteArray.empty,.slice none 0 0,.int .i64 0,.string ByteArray.empty,.slice none 0 0,.slice none 0 0,.slice none 0 0,.slice none 0 0,.slice none 0 0,.int .i64 0],[.d (.int .u8 0),.d (.str ByteArray.empty),.d (.str ByteArray.empty),.nils false 1,.d (.int .u8 0),.d (.str ByteArray.empty),.nils true 3,.d (.int .i64 0),.d (.str ByteArray.empty),.nils false 1,.nils true 8,.nils true 15,.nils true 15,.nils true 3,.d (.int .i64 0)]⟩),
 (51,⟨.func #[43] #[4] false,1,8,.nilFunc,[.nilf]⟩),
 (52,⟨.func #[24] #[24] false,1,8,.nilFunc,[.nilf]⟩),
 (53,⟨.pointer 55,1,8,.pointer none,[.nilp]⟩),
 (54,⟨.struct #[⟨"Left",3,0,false, "", "",0⟩],1,8,.agg #[.int .i64 0],[.d (.int .i64 0)]⟩),
 (55,⟨.struct #[⟨"Left",3,0,false, "", "",0⟩],1,8,.agg #[.int .i64 0],[.d (.int .i64 0)]⟩),
 (56,⟨.func #[9] #[] false,1,8,.nilFunc,[.nilf]⟩),
 (57,⟨.func #[42] #[] false,1,8,.nilFunc,[.nilf]⟩),
 (58,⟨.func #[33] #[] false,1,8,.nilFunc,[.nilf]⟩),
 (59,⟨.func #[43] #[] false,1,8,.nilFunc,[.nilf]⟩),
 (60,⟨.func #[39] #[] false,1,8,.nilFunc,[.nilf]⟩),
 (61,⟨.func #[42] #[42] false,1,8,.nilFunc,[.nilf]⟩),
 (62,⟨.func #[33] #[33] false,1,8,.nilFunc,[.nilf]⟩),
 (63,⟨.func #[43,4] #[43] false,1,8,.nilFunc,[.nilf]⟩)]
def tabC4:List (Nat×TI):=[(64,⟨.func #[39,4] #[39] false,1,8,.nilFunc,[.nilf]⟩),
 (65,⟨.func #[22,3,67] #[4] false,1,8,.nilFunc,[.nilf]⟩),
 (66,⟨.func #[45,3] #[4] false,1,8,.nilFunc,[.nilf]⟩),
 (67,⟨.func #[45] #[4] false,1,8,.nilFunc,[.nilf]⟩),
 (68,⟨.func #[45] #[3] false,1,8,.nilFunc,[.nilf]⟩),
 (69,⟨.func #[3,3] #[3] false,1,8,.nilFunc,[.nilf]⟩),
 (70,⟨.func #[33] #[3] false,1,8,.nilFunc,[.nilf]⟩),
 (71,⟨.func #[39] #[3] false,1,8,.nilFunc,[.nilf]⟩),
 (72,⟨.func #[43] #[3] false,1,8,.nilFunc,[.nilf]⟩),
 (73,⟨.struct #[⟨"Name",9,0,false, "", "",0⟩,⟨"Type",33,1,false, "", "",16⟩],4,64,.agg #[.string ByteArray.empty,.int .u8 0,.string ByteArray.empty,.slice none 0 0],[.d (.str ByteArray.empty),.d (.int .u8 0),.d (.str ByteArray.empty),.nils true 3]⟩),
 (74,⟨.struct #[⟨"Name",9,0,false, "", "",0⟩,⟨"Type",33,1,false, "", "",16⟩],4,64,.agg #[.string ByteArray.empty,.int .u8 0,.string ByteArray.empty,.slice none 0 0],[.d (.str ByteArray.empty),.d (.int .u8 0),.d (.str ByteArray.empty),.nils true 3]⟩),
 (75,⟨.func #[50] #[3] false,1,8,.nilFunc,[.nilf]⟩),
 (76,⟨.func #[37] #[3] false,1,8,.nilFunc,[.nilf]⟩),
 (77,⟨.func #[42,42] #[4] false,1,8,.nilFunc,[.nilf]⟩),
 (78,⟨.func #[33,33] #[4] false,1,8,.nilFunc,[.nilf]⟩),
 (79,⟨.func #[43,43,4] #[4] false,1,8,.nilFunc,[.nilf]⟩)]
def tabC5:List (Nat×TI):=[(80,⟨.func #[39,39,4] #[4] false,1,8,.nilFunc,[.nilf]⟩),
 (81,⟨.func #[36] #[4] false,1,8,.nilFunc,[.nilf]⟩),
 (82,⟨.func #[39,3] #[4] false,1,8,.nilFunc,[.nilf]⟩),
 (83,⟨.func #[33,3] #[4] false,1,8,.nilFunc,[.nilf]⟩),
 (84,⟨.func #[24,85] #[24] false,1,8,.nilFunc,[.nilf]⟩),
 (85,⟨.func #[3] #[3] false,1,8,.nilFunc,[.nilf]⟩),
 (86,⟨.func #[22,22,91] #[4] false,1,8,.nilFunc,[.nilf]⟩),
 (87,⟨.func #[39,39] #[4] false,1,8,.nilFunc,[.nilf]⟩),
 (88,⟨.func #[43,43] #[4] false,1,8,.nilFunc,[.nilf]⟩),
 (89,⟨.func #[42,42,90] #[4] false,1,8,.nilFunc,[.nilf]⟩),
 (90,⟨.func #[74,74] #[4] false,1,8,.nilFunc,[.nilf]⟩),
 (91,⟨.func #[45,45] #[4] false,1,8,.nilFunc,[.nilf]⟩),
 (92,⟨.func #[34] #[] false,1,8,.nilFunc,[.nilf]⟩),
 (93,⟨.func #[36] #[] false,1,8,.nilFunc,[.nilf]⟩),
 (94,⟨.struct #[⟨"Variant",9,0,false, "", "",0⟩,⟨"Name",9,1,false, "", "",16⟩,⟨"Body",43,2,false, "", "",32⟩],3,56,.agg #[.string ByteArray.empty,.string ByteArray.empty,.slice none 0 0],[.d (.str ByteArray.empty),.d (.str ByteArray.empty),.nils true 15]⟩),
 (95,⟨.struct #[⟨"Variant",9,0,false, "", "",0⟩,⟨"Name",9,1,false, "", "",16⟩,⟨"Body",43,2,false, "", "",32⟩],3,56,.agg #[.string ByteArray.empty,.string ByteArray.empty,.slice none 0 0],[.d (.str ByteArray.empty),.d (.str ByteArray.empty),.nils true 15]⟩)]
def tabC6:List (Nat×TI):=[(96,⟨.func #[36] #[36] false,1,8,.nilFunc,[.nilf]⟩),
 (97,⟨.func #[9] #[4] false,1,8,.nilFunc,[.nilf]⟩),
 (98,⟨.func #[42,3,99] #[4] false,1,8,.nilFunc,[.nilf]⟩),
 (99,⟨.func #[74] #[4] false,1,8,.nilFunc,[.nilf]⟩),
 (100,⟨.func #[97,4] #[4] false,1,8,.nilFunc,[.nilf]⟩),
 (101,⟨.func #[43,3,103] #[4] false,1,8,.nilFunc,[.nilf]⟩),
 (102,⟨.func #[50,3] #[4] false,1,8,.nilFunc,[.nilf]⟩),
 (103,⟨.func #[50] #[4] false,1,8,.nilFunc,[.nilf]⟩),
 (104,⟨.func #[43,3] #[4] false,1,8,.nilFunc,[.nilf]⟩),
 (105,⟨.func #[103] #[] false,1,8,.nilFunc,[.nilf]⟩),
 (106,⟨.func #[103] #[] false,1,8,.nilFunc,[.nilf]⟩),
 (107,⟨.func #[50] #[106] false,1,8,.nilFunc,[.nilf]⟩),
 (108,⟨.func #[34,34] #[4] false,1,8,.nilFunc,[.nilf]⟩),
 (109,⟨.func #[36,36] #[4] false,1,8,.nilFunc,[.nilf]⟩),
 (110,⟨.func #[37,37,4] #[4] false,1,8,.nilFunc,[.nilf]⟩),
 (111,⟨.func #[34,3,97] #[4] false,1,8,.nilFunc,[.nilf]⟩)]
def tabC7:List (Nat×TI):=[(112,⟨.struct #[⟨"place",4,0,false, "", "weftway/tree",0⟩,⟨"least",3,1,false, "", "weftway/tree",8⟩,⟨"most",3,2,false, "", "weftway/tree",16⟩],3,24,.agg #[.bool false,.int .i64 0,.int .i64 0],[.d (.bool false),.d (.int .i64 0),.d (.int .i64 0)]⟩),
 (113,⟨.struct #[⟨"place",4,0,false, "", "weftway/tree",0⟩,⟨"least",3,1,false, "", "weftway/tree",8⟩,⟨"most",3,2,false, "", "weftway/tree",16⟩],3,24,.agg #[.bool false,.int .i64 0,.int .i64 0],[.d (.bool false),.d (.int .i64 0),.d (.int .i64 0)]⟩),
 (115,⟨.func #[5] #[113,4] false,1,8,.nilFunc,[.nilf]⟩),
 (116,⟨.func #[39,4] #[4] false,1,8,.nilFunc,[.nilf]⟩),
 (117,⟨.func #[37,3,41] #[4] false,1,8,.nilFunc,[.nilf]⟩),
 (118,⟨.func #[31,3,40] #[4] false,1,8,.nilFunc,[.nilf]⟩),
 (119,⟨.func #[39] #[39] false,1,8,.nilFunc,[.nilf]⟩),
 (120,⟨.func #[50] #[50] false,1,8,.nilFunc,[.nilf]⟩),
 (121,⟨.func #[31,62] #[31] false,1,8,.nilFunc,[.nilf]⟩),
 (122,⟨.func #[34] #[34] false,1,8,.nilFunc,[.nilf]⟩),
 (123,⟨.func #[37,119] #[37] false,1,8,.nilFunc,[.nilf]⟩),
 (124,⟨.func #[43,120] #[43] false,1,8,.nilFunc,[.nilf]⟩),
 (125,⟨.func #[95] #[95] false,1,8,.nilFunc,[.nilf]⟩),
 (126,⟨.func #[48,125] #[48] false,1,8,.nilFunc,[.nilf]⟩),
 (127,⟨.func #[74] #[74] false,1,8,.nilFunc,[.nilf]⟩)]
def tabC8:List (Nat×TI):=[(128,⟨.func #[22,130] #[22] false,1,8,.nilFunc,[.nilf]⟩),
 (129,⟨.func #[42,127] #[42] false,1,8,.nilFunc,[.nilf]⟩),
 (130,⟨.func #[45] #[45] false,1,8,.nilFunc,[.nilf]⟩),
 (131,⟨.func #[31,31,78] #[4] false,1,8,.nilFunc,[.nilf]⟩),
 (132,⟨.func #[37,37,87] #[4] false,1,8,.nilFunc,[.nilf]⟩),
 (133,⟨.func #[43,43,134] #[4] false,1,8,.nilFunc,[.nilf]⟩),
 (134,⟨.func #[50,50] #[4] false,1,8,.nilFunc,[.nilf]⟩),
 (135,⟨.func #[9,136] #[4] false,1,8,.nilFunc,[.nilf]⟩),
 (136,⟨.func #[5] #[4] false,1,8,.nilFunc,[.nilf]⟩),
 (137,⟨.struct #[⟨"names",3,0,false, "", "weftway/tree",0⟩,⟨"exprs",3,1,false, "", "weftway/tree",8⟩,⟨"typed",4,2,false, "", "weftway/tree",16⟩,⟨"placed",4,3,false, "", "weftway/tree",17⟩,⟨"body",4,4,false, "", "weftway/tree",18⟩,⟨"other",4,5,false, "", "weftway/tree",19⟩,⟨"arms",4,6,false, "", "weftway/tree",20⟩,⟨"lent",4,7,false, "", "weftway/tree",21⟩,⟨"name",97,8,false, "", "weftway/tree",24⟩,⟨"second",97,9,false, "", "weftway/tree",32⟩],10,40,.agg #[.int .i64 0,.int .i64 0,.bool false,.bool false,.bool false,.bool false,.bool false,.bool false,.nilFunc,.nilFunc],[.d (.int .i64 0),.d (.int .i64 0),.d (.bool false),.d (.bool false),.d (.bool false),.d (.bool false),.d (.bool false),.d (.bool false),.nilf,.nilf]⟩),
 (138,⟨.struct #[⟨"names",3,0,false, "", "weftway/tree",0⟩,⟨"exprs",3,1,false, "", "weftway/tree",8⟩,⟨"typed",4,2,false, "", "weftway/tree",16⟩,⟨"placed",4,3,false, "", "weftway/tree",17⟩,⟨"body",4,4,false, "", "weftway/tree",18⟩,⟨"other",4,5,false, "", "weftway/tree",19⟩,⟨"arms",4,6,false, "", "weftway/tree",20⟩,⟨"lent",4,7,false, "", "weftway/tree",21⟩,⟨"name",97,8,false, "", "weftway/tree",24⟩,⟨"second",97,9,false, "", "weftway/tree",32⟩],10,40,.agg #[.int .i64 0,.int .i64 0,.bool false,.bool false,.bool false,.bool false,.bool false,.bool false,.nilFunc,.nilFunc],[.d (.int .i64 0),.d (.int .i64 0),.d (.bool false),.d (.bool false),.d (.bool false),.d (.bool false),.d (.bool false),.d (.bool false),.nilf,.nilf]⟩),
 (140,⟨.func #[50] #[138,4] false,1,8,.nilFunc,[.nilf]⟩),
 (141,⟨.func #[48,3,142] #[4] false,1,8,.nilFunc,[.nilf]⟩),
 (142,⟨.func #[95] #[4] false,1,8,.nilFunc,[.nilf]⟩),
 (143,⟨.func #[9,5,5] #[4] false,1,8,.nilFunc,[.nilf]⟩)]
def tabC9:List (Nat×TI):=[(144,⟨.func #[5] #[9] false,1,8,.nilFunc,[.nilf]⟩),
 (145,⟨.func #[9,3] #[4] false,1,8,.nilFunc,[.nilf]⟩),
 (146,⟨.func #[9,5] #[4] false,1,8,.nilFunc,[.nilf]⟩),
 (147,⟨.slice 43,1,24,.slice none 0 0,[.nils false 1]⟩),
 (148,⟨.func #[48,48,149] #[4] false,1,8,.nilFunc,[.nilf]⟩),
 (149,⟨.func #[95,95] #[4] false,1,8,.nilFunc,[.nilf]⟩),
 (150,⟨.func #[9,136] #[3] false,1,8,.nilFunc,[.nilf]⟩),
 (151,⟨.func #[50,9,3] #[4] false,1,8,.nilFunc,[.nilf]⟩),
 (152,⟨.map 9 3,1,8,.map none,[.nilm]⟩),
 (153,⟨.func #[] #[152] false,1,8,.nilFunc,[.nilf]⟩),
 (154,⟨.func #[9] #[34] false,1,8,.nilFunc,[.nilf]⟩),
 (156,⟨.func #[9,157] #[34] false,1,8,.nilFunc,[.nilf]⟩),
 (157,⟨.func #[21] #[4] false,1,8,.nilFunc,[.nilf]⟩),
 (158,⟨.slice 160,1,24,.slice none 0 0,[.nils true 2]⟩),
 (159,⟨.struct #[⟨"start",3,0,false, "", "strings",0⟩,⟨"end",3,1,false, "", "strings",8⟩],2,16,.agg #[.int .i64 0,.int .i64 0],[.d (.int .i64 0),.d (.int .i64 0)]⟩)]
def tabC10:List (Nat×TI):=[(160,⟨.struct #[⟨"start",3,0,false, "", "strings",0⟩,⟨"end",3,1,false, "", "strings",8⟩],2,16,.agg #[.int .i64 0,.int .i64 0],[.d (.int .i64 0),.d (.int .i64 0)]⟩),
 (161,⟨.int .u32,1,4,.int .u32 0,[.d (.int .u32 0)]⟩),
 (162,⟨.func #[163,21] #[4] false,1,8,.nilFunc,[.nilf]⟩),
 (163,⟨.pointer 167,1,8,.pointer none,[.nilp]⟩),
 (164,⟨.slice 170,1,24,.slice none 0 0,[.nils true 3]⟩),
 (165,⟨.slice 173,1,24,.slice none 0 0,[.nils true 3]⟩),
 (166,⟨.struct #[⟨"R16",164,0,false, "", "",0⟩,⟨"R32",165,1,false, "", "",24⟩,⟨"LatinOffset",3,2,false, "", "",48⟩],3,56,.agg #[.slice none 0 0,.slice none 0 0,.int .i64 0],[.nils true 3,.nils true 3,.d (.int .i64 0)]⟩),
 (167,⟨.struct #[⟨"R16",164,0,false, "", "",0⟩,⟨"R32",165,1,false, "", "",24⟩,⟨"LatinOffset",3,2,false, "", "",48⟩],3,56,.agg #[.slice none 0 0,.slice none 0 0,.int .i64 0],[.nils true 3,.nils true 3,.d (.int .i64 0)]⟩),
 (168,⟨.int .u16,1,2,.int .u16 0,[.d (.int .u16 0)]⟩),
 (169,⟨.struct #[⟨"Lo",168,0,false, "", "",0⟩,⟨"Hi",168,1,false, "", "",2⟩,⟨"Stride",168,2,false, "", "",4⟩],3,6,.agg #[.int .u16 0,.int .u16 0,.int .u16 0],[.d (.int .u16 0),.d (.int .u16 0),.d (.int .u16 0)]⟩),
 (170,⟨.struct #[⟨"Lo",168,0,false, "", "",0⟩,⟨"Hi",168,1,false, "", "",2⟩,⟨"Stride",168,2,false, "", "",4⟩],3,6,.agg #[.int .u16 0,.int .u16 0,.int .u16 0],[.d (.int .u16 0),.d (.int .u16 0),.d (.int .u16 0)]⟩),
 (171,⟨.func #[164,168] #[4] false,1,8,.nilFunc,[.nilf]⟩),
 (172,⟨.struct #[⟨"Lo",161,0,false, "", "",0⟩,⟨"Hi",161,1,false, "", "",4⟩,⟨"Stride",161,2,false, "", "",8⟩],3,12,.agg #[.int .u32 0,.int .u32 0,.int .u32 0],[.d (.int .u32 0),.d (.int .u32 0),.d (.int .u32 0)]⟩),
 (173,⟨.struct #[⟨"Lo",161,0,false, "", "",0⟩,⟨"Hi",161,1,false, "", "",4⟩,⟨"Stride",161,2,false, "", "",8⟩],3,12,.agg #[.int .u32 0,.int .u32 0,.int .u32 0],[.d (.int .u32 0),.d (.int .u32 0),.d (.int .u32 0)]⟩),
 (174,⟨.func #[165,161] #[4] false,1,8,.nilFunc,[.nilf]⟩),
 (175,⟨.pointer 170,1,8,.pointer none,[.nilp]⟩)]
def tabC11:List (Nat×TI):=[(176,⟨.int .u64,1,8,.int .u64 0,[.d (.int .u64 0)]⟩),
 (177,⟨.pointer 173,1,8,.pointer none,[.nilp]⟩),
 (178,⟨.func #[] #[9] false,1,8,.nilFunc,[.nilf]⟩),
 (179,⟨.struct #[⟨"_interface",17,0,false, "", "runtime",0⟩,⟨"concrete",17,1,false, "", "runtime",8⟩,⟨"asserted",17,2,false, "", "runtime",16⟩,⟨"missingMethod",9,3,false, "", "runtime",24⟩],4,40,.agg #[.pointer none,.pointer none,.pointer none,.string ByteArray.empty],[.nilp,.nilp,.nilp,.d (.str ByteArray.empty)]⟩),
 (180,⟨.struct #[⟨"_interface",17,0,false, "", "runtime",0⟩,⟨"concrete",17,1,false, "", "runtime",8⟩,⟨"asserted",17,2,false, "", "runtime",16⟩,⟨"missingMethod",9,3,false, "", "runtime",24⟩],4,40,.agg #[.pointer none,.pointer none,.pointer none,.string ByteArray.empty],[.nilp,.nilp,.nilp,.d (.str ByteArray.empty)]⟩),
 (184,⟨.func #[] #[3] false,1,8,.nilFunc,[.nilf]⟩),
 (185,⟨.int .u8,1,1,.int .u8 0,[.d (.int .u8 0)]⟩),
 (186,⟨.int .u8,1,1,.int .u8 0,[.d (.int .u8 0)]⟩),
 (187,⟨.func #[193,193] #[4] false,1,8,.nilFunc,[.nilf]⟩),
 (188,⟨.pointer 5,1,8,.pointer none,[.nilp]⟩),
 (189,⟨.int .i32,1,4,.int .i32 0,[.d (.int .i32 0)]⟩),
 (190,⟨.int .i32,1,4,.int .i32 0,[.d (.int .i32 0)]⟩),
 (191,⟨.struct #[⟨"Size_",12,0,false, "", "",0⟩,⟨"PtrBytes",12,1,false, "", "",8⟩,⟨"Hash",161,2,false, "", "",16⟩,⟨"TFlag",185,3,false, "", "",20⟩,⟨"Align_",5,4,false, "", "",21⟩,⟨"FieldAlign_",5,5,false, "", "",22⟩,⟨"Kind_",186,6,false, "", "",23⟩,⟨"Equal",187,7,false, "", "",24⟩,⟨"GCData",188,8,false, "", "",32⟩,⟨"Str",189,9,false, "", "",40⟩,⟨"PtrToThis",190,10,false, "", "",44⟩],11,48,.agg #[.int .u64 0,.int .u64 0,.int .u32 0,.int .u8 0,.int .u8 0,.int .u8 0,.int .u8 0,.nilFunc,.pointer none,.int .i32 0,.int .i32 0],[.d (.int .u64 0),.d (.int .u64 0),.d (.int .u32 0),.d (.int .u8 0),.d (.int .u8 0),.d (.int .u8 0),.d (.int .u8 0),.nilf,.nilp,.d (.int .i32 0),.d (.int .i32 0)]⟩)]
def tabC12:List (Nat×TI):=[(192,⟨.struct #[⟨"Size_",12,0,false, "", "",0⟩,⟨"PtrBytes",12,1,false, "", "",8⟩,⟨"Hash",161,2,false, "", "",16⟩,⟨"TFlag",185,3,false, "", "",20⟩,⟨"Align_",5,4,false, "", "",21⟩,⟨"FieldAlign_",5,5,false, "", "",22⟩,⟨"Kind_",186,6,false, "", "",23⟩,⟨"Equal",187,7,false, "", "",24⟩,⟨"GCData",188,8,false, "", "",32⟩,⟨"Str",189,9,false, "", "",40⟩,⟨"PtrToThis",190,10,false, "", "",44⟩],11,48,.agg #[.int .u64 0,.int .u64 0,.int .u32 0,.int .u8 0,.int .u8 0,.int .u8 0,.int .u8 0,.nilFunc,.pointer none,.int .i32 0,.int .i32 0],[.d (.int .u64 0),.d (.int .u64 0),.d (.int .u32 0),.d (.int .u8 0),.d (.int .u8 0),.d (.int .u8 0),.d (.int .u8 0),.nilf,.nilp,.d (.int .i32 0),.d (.int .i32 0)]⟩)]
def tabAll:List (List (Nat×TI)):=[tabC0,tabC1,tabC2,tabC3,tabC4,tabC5,tabC6,tabC7,tabC8,tabC9,tabC10,tabC11,tabC12]
def tab:Types:=tabOf tabAll
theorem tabG0:allGood Tryz.prog tabC0:=⟨⟨by kernel_rfl,by kernel_rfl,by kernel_rfl⟩,⟨by kernel_rfl,by kernel_rfl,by kernel_rfl⟩,⟨by kernel_rfl,by kernel_rfl,by kernel_rfl⟩,⟨by kernel_rfl,by kernel_rfl,by kernel_rfl⟩,⟨by kernel_rfl,by kernel_rfl,by kernel_rfl⟩,⟨by kernel_rfl,by kernel_rfl,by kernel_rfl⟩,⟨by kernel_rfl,by kernel_rfl,by kernel_rfl⟩,⟨by kernel_rfl,by kernel_rfl,by kernel_rfl⟩,⟨by kernel_rfl,by kernel_rfl,by kernel_rfl⟩,⟨by kernel_rfl,by kernel_rfl,by kernel_rfl⟩,⟨by kernel_rfl,by kernel_rfl,by kernel_rfl⟩,⟨by kernel_rfl,by kernel_rfl,by kernel_rfl⟩,⟨by kernel_rfl,by kernel_rfl,by kernel_rfl⟩,⟨by kernel_rfl,by kernel_rfl,by kernel_rfl⟩,⟨by kernel_rfl,by kernel_rfl,by kernel_rfl⟩,trivial⟩
theorem tabG1:allGood Tryz.prog tabC1:=⟨⟨by kernel_rfl,by kernel_rfl,by kernel_rfl⟩,⟨by kernel_rfl,by kernel_rfl,by kernel_rfl⟩,⟨by kernel_rfl,by kernel_rfl,by kernel_rfl⟩,⟨by kernel_rfl,by kernel_rfl,by kernel_rfl⟩,⟨by kernel_rfl,by kernel_rfl,by kernel_rfl⟩,⟨by kernel_rfl,by kernel_rfl,by kernel_rfl⟩,⟨by kernel_rfl,by kernel_rfl,by kernel_rfl⟩,⟨by kernel_rfl,by kernel_rfl,by kernel_rfl⟩,⟨by kernel_rfl,by kernel_rfl,by kernel_rfl⟩,⟨by kernel_rfl,by kernel_rfl,by kernel_rfl⟩,⟨by kernel_rfl,by kernel_rfl,by kernel_rfl⟩,⟨by kernel_rfl,by kernel_rfl,by kernel_rfl⟩,⟨by kernel_rfl,by kernel_rfl,by kernel_rfl⟩,⟨by kernel_rfl,by kernel_rfl,by kernel_rfl⟩,⟨by kernel_rfl,by kernel_rfl,by kernel_rfl⟩,trivial⟩
theorem tabG2:allGood Tryz.prog tabC2:=⟨⟨by kernel_rfl,by kernel_rfl,by kernel_rfl⟩,⟨by kernel_rfl,by kernel_rfl,by kernel_rfl⟩,⟨by kernel_rfl,by kernel_rfl,by kernel_rfl⟩,⟨by kernel_rfl,by kernel_rfl,by kernel_rfl⟩,⟨by kernel_rfl,by kernel_rfl,by kernel_rfl⟩,⟨by kernel_rfl,by kernel_rfl,by kernel_rfl⟩,⟨by kernel_rfl,by kernel_rfl,by kernel_rfl⟩,⟨by kernel_rfl,by kernel_rfl,by kernel_rfl⟩,⟨by kernel_rfl,by kernel_rfl,by kernel_rfl⟩,⟨by kernel_rfl,by kernel_rfl,by kernel_rfl⟩,⟨by kernel_rfl,by kernel_rfl,by kernel_rfl⟩,⟨by kernel_rfl,by kernel_rfl,by kernel_rfl⟩,⟨by kernel_rfl,by kernel_rfl,by kernel_rfl⟩,⟨by kernel_rfl,by kernel_rfl,by kernel_rfl⟩,⟨by kernel_rfl,by kernel_rfl,by kernel_rfl⟩,⟨by kernel_rfl,by kernel_rfl,by kernel_rfl⟩,trivial⟩
theorem tabG3:allGood Tryz.prog tabC3:=⟨⟨by kernel_rfl,by kernel_rfl,by kernel_rfl⟩,⟨by kernel_rfl,by kernel_rfl,by kernel_rfl⟩,⟨by kernel_rfl,by kernel_rfl,by kernel_rfl⟩,⟨by kernel_rfl,by kernel_rfl,by kernel_rfl⟩,⟨by kernel_rfl,by kernel_rfl,by kernel_rfl⟩,⟨by kernel_rfl,by kernel_rfl,by kernel_rfl⟩,⟨by kernel_rfl,by kernel_rfl,by kernel_rfl⟩,⟨by kernel_rfl,by kernel_rfl,by kernel_rfl⟩,⟨by kernel_rfl,by kernel_rfl,by kernel_rfl⟩,⟨by kernel_rfl,by kernel_rfl,by kernel_rfl⟩,⟨by kernel_rfl,by kernel_rfl,by kernel_rfl⟩,⟨by kernel_rfl,by kernel_rfl,by kernel_rfl⟩,⟨by kernel_rfl,by kernel_rfl,by kernel_rfl⟩,⟨by kernel_rfl,by kernel_rfl,by kernel_rfl⟩,⟨by kernel_rfl,by kernel_rfl,by kernel_rfl⟩,⟨by kernel_rfl,by kernel_rfl,by kernel_rfl⟩,trivial⟩
theorem tabG4:allGood Tryz.prog tabC4:=⟨⟨by kernel_rfl,by kernel_rfl,by kernel_rfl⟩,⟨by kernel_rfl,by kernel_rfl,by kernel_rfl⟩,⟨by kernel_rfl,by kernel_rfl,by kernel_rfl⟩,⟨by kernel_rfl,by kernel_rfl,by kernel_rfl⟩,⟨by kernel_rfl,by kernel_rfl,by kernel_rfl⟩,⟨by kernel_rfl,by kernel_rfl,by kernel_rfl⟩,⟨by kernel_rfl,by kernel_rfl,by kernel_rfl⟩,⟨by kernel_rfl,by kernel_rfl,by kernel_rfl⟩,⟨by kernel_rfl,by kernel_rfl,by kernel_rfl⟩,⟨by kernel_rfl,by kernel_rfl,by kernel_rfl⟩,⟨by kernel_rfl,by kernel_rfl,by kernel_rfl⟩,⟨by kernel_rfl,by kernel_rfl,by kernel_rfl⟩,⟨by kernel_rfl,by kernel_rfl,by kernel_rfl⟩,⟨by kernel_rfl,by kernel_rfl,by kernel_rfl⟩,⟨by kernel_rfl,by kernel_rfl,by kernel_rfl⟩,⟨by kernel_rfl,by kernel_rfl,by kernel_rfl⟩,trivial⟩
theorem tabG5:allGood Tryz.prog tabC5:=⟨⟨by kernel_rfl,by kernel_rfl,by kernel_rfl⟩,⟨by kernel_rfl,by kernel_rfl,by kernel_rfl⟩,⟨by kernel_rfl,by kernel_rfl,by kernel_rfl⟩,⟨by kernel_rfl,by kernel_rfl,by kernel_rfl⟩,⟨by kernel_rfl,by kernel_rfl,by kernel_rfl⟩,⟨by kernel_rfl,by kernel_rfl,by kernel_rfl⟩,⟨by kernel_rfl,by kernel_rfl,by kernel_rfl⟩,⟨by kernel_rfl,by kernel_rfl,by kernel_rfl⟩,⟨by kernel_rfl,by kernel_rfl,by kernel_rfl⟩,⟨by kernel_rfl,by kernel_rfl,by kernel_rfl⟩,⟨by kernel_rfl,by kernel_rfl,by kernel_rfl⟩,⟨by kernel_rfl,by kernel_rfl,by kernel_rfl⟩,⟨by kernel_rfl,by kernel_rfl,by kernel_rfl⟩,⟨by kernel_rfl,by kernel_rfl,by kernel_rfl⟩,⟨by kernel_rfl,by kernel_rfl,by kernel_rfl⟩,⟨by kernel_rfl,by kernel_rfl,by kernel_rfl⟩,trivial⟩
theorem tabG6:allGood Tryz.prog tabC6:=⟨⟨by kernel_rfl,by kernel_rfl,by kernel_rfl⟩,⟨by kernel_rfl,by kernel_rfl,by kernel_rfl⟩,⟨by kernel_rfl,by kernel_rfl,by kernel_rfl⟩,⟨by kernel_rfl,by kernel_rfl,by kernel_rfl⟩,⟨by kernel_rfl,by kernel_rfl,by kernel_rfl⟩,⟨by kernel_rfl,by kernel_rfl,by kernel_rfl⟩,⟨by kernel_rfl,by kernel_rfl,by kernel_rfl⟩,⟨by kernel_rfl,by kernel_rfl,by kernel_rfl⟩,⟨by kernel_rfl,by kernel_rfl,by kernel_rfl⟩,⟨by kernel_rfl,by kernel_rfl,by kernel_rfl⟩,⟨by kernel_rfl,by kernel_rfl,by kernel_rfl⟩,⟨by kernel_rfl,by kernel_rfl,by kernel_rfl⟩,⟨by kernel_rfl,by kernel_rfl,by kernel_rfl⟩,⟨by kernel_rfl,by kernel_rfl,by kernel_rfl⟩,⟨by kernel_rfl,by kernel_rfl,by kernel_rfl⟩,⟨by kernel_rfl,by kernel_rfl,by kernel_rfl⟩,trivial⟩
theorem tabG7:allGood Tryz.prog tabC7:=⟨⟨by kernel_rfl,by kernel_rfl,by kernel_rfl⟩,⟨by kernel_rfl,by kernel_rfl,by kernel_rfl⟩,⟨by kernel_rfl,by kernel_rfl,by kernel_rfl⟩,⟨by kernel_rfl,by kernel_rfl,by kernel_rfl⟩,⟨by kernel_rfl,by kernel_rfl,by kernel_rfl⟩,⟨by kernel_rfl,by kernel_rfl,by kernel_rfl⟩,⟨by kernel_rfl,by kernel_rfl,by kernel_rfl⟩,⟨by kernel_rfl,by kernel_rfl,by kernel_rfl⟩,⟨by kernel_rfl,by kernel_rfl,by kernel_rfl⟩,⟨by kernel_rfl,by kernel_rfl,by kernel_rfl⟩,⟨by kernel_rfl,by kernel_rfl,by kernel_rfl⟩,⟨by kernel_rfl,by kernel_rfl,by kernel_rfl⟩,⟨by kernel_rfl,by kernel_rfl,by kernel_rfl⟩,⟨by kernel_rfl,by kernel_rfl,by kernel_rfl⟩,⟨by kernel_rfl,by kernel_rfl,by kernel_rfl⟩,trivial⟩
theorem tabG8:allGood Tryz.prog tabC8:=⟨⟨by kernel_rfl,by kernel_rfl,by kernel_rfl⟩,⟨by kernel_rfl,by kernel_rfl,by kernel_rfl⟩,⟨by kernel_rfl,by kernel_rfl,by kernel_rfl⟩,⟨by kernel_rfl,by kernel_rfl,by kernel_rfl⟩,⟨by kernel_rfl,by kernel_rfl,by kernel_rfl⟩,⟨by kernel_rfl,by kernel_rfl,by kernel_rfl⟩,⟨by kernel_rfl,by kernel_rfl,by kernel_rfl⟩,⟨by kernel_rfl,by kernel_rfl,by kernel_rfl⟩,⟨by kernel_rfl,by kernel_rfl,by kernel_rfl⟩,⟨by kernel_rfl,by kernel_rfl,by kernel_rfl⟩,⟨by kernel_rfl,by kernel_rfl,by kernel_rfl⟩,⟨by kernel_rfl,by kernel_rfl,by kernel_rfl⟩,⟨by kernel_rfl,by kernel_rfl,by kernel_rfl⟩,⟨by kernel_rfl,by kernel_rfl,by kernel_rfl⟩,⟨by kernel_rfl,by kernel_rfl,by kernel_rfl⟩,trivial⟩
theorem tabG9:allGood Tryz.prog tabC9:=⟨⟨by kernel_rfl,by kernel_rfl,by kernel_rfl⟩,⟨by kernel_rfl,by kernel_rfl,by kernel_rfl⟩,⟨by kernel_rfl,by kernel_rfl,by kernel_rfl⟩,⟨by kernel_rfl,by kernel_rfl,by kernel_rfl⟩,⟨by kernel_rfl,by kernel_rfl,by kernel_rfl⟩,⟨by kernel_rfl,by kernel_rfl,by kernel_rfl⟩,⟨by kernel_rfl,by kernel_rfl,by kernel_rfl⟩,⟨by kernel_rfl,by kernel_rfl,by kernel_rfl⟩,⟨by kernel_rfl,by kernel_rfl,by kernel_rfl⟩,⟨by kernel_rfl,by kernel_rfl,by kernel_rfl⟩,⟨by kernel_rfl,by kernel_rfl,by kernel_rfl⟩,⟨by kernel_rfl,by kernel_rfl,by kernel_rfl⟩,⟨by kernel_rfl,by kernel_rfl,by kernel_rfl⟩,⟨by kernel_rfl,by kernel_rfl,by kernel_rfl⟩,⟨by kernel_rfl,by kernel_rfl,by kernel_rfl⟩,trivial⟩
theorem tabG10:allGood Tryz.prog tabC10:=⟨⟨by kernel_rfl,by kernel_rfl,by kernel_rfl⟩,⟨by kernel_rfl,by kernel_rfl,by kernel_rfl⟩,⟨by kernel_rfl,by kernel_rfl,by kernel_rfl⟩,⟨by kernel_rfl,by kernel_rfl,by kernel_rfl⟩,⟨by kernel_rfl,by kernel_rfl,by kernel_rfl⟩,⟨by kernel_rfl,by kernel_rfl,by kernel_rfl⟩,⟨by kernel_rfl,by kernel_rfl,by kernel_rfl⟩,⟨by kernel_rfl,by kernel_rfl,by kernel_rfl⟩,⟨by kernel_rfl,by kernel_rfl,by kernel_rfl⟩,⟨by kernel_rfl,by kernel_rfl,by kernel_rfl⟩,⟨by kernel_rfl,by kernel_rfl,by kernel_rfl⟩,⟨by kernel_rfl,by kernel_rfl,by kernel_rfl⟩,⟨by kernel_rfl,by kernel_rfl,by kernel_rfl⟩,⟨by kernel_rfl,by kernel_rfl,by kernel_rfl⟩,⟨by kernel_rfl,by kernel_rfl,by kernel_rfl⟩,⟨by kernel_rfl,by kernel_rfl,by kernel_rfl⟩,trivial⟩
theorem tabG11:allGood Tryz.prog tabC11:=⟨⟨by kernel_rfl,by kernel_rfl,by kernel_rfl⟩,⟨by kernel_rfl,by kernel_rfl,by kernel_rfl⟩,⟨by kernel_rfl,by kernel_rfl,by kernel_rfl⟩,⟨by kernel_rfl,by kernel_rfl,by kernel_rfl⟩,⟨by kernel_rfl,by kernel_rfl,by kernel_rfl⟩,⟨by kernel_rfl,by kernel_rfl,by kernel_rfl⟩,⟨by kernel_rfl,by kernel_rfl,by kernel_rfl⟩,⟨by kernel_rfl,by kernel_rfl,by kernel_rfl⟩,⟨by kernel_rfl,by kernel_rfl,by kernel_rfl⟩,⟨by kernel_rfl,by kernel_rfl,by kernel_rfl⟩,⟨by kernel_rfl,by kernel_rfl,by kernel_rfl⟩,⟨by kernel_rfl,by kernel_rfl,by kernel_rfl⟩,⟨by kernel_rfl,by kernel_rfl,by kernel_rfl⟩,trivial⟩
theorem tabG12:allGood Tryz.prog tabC12:=⟨⟨by kernel_rfl,by kernel_rfl,by kernel_rfl⟩,trivial⟩
theorem tab_all:allGoods Tryz.prog tabAll:=⟨tabG0,tabG1,tabG2,tabG3,tabG4,tabG5,tabG6,tabG7,tabG8,tabG9,tabG10,tabG11,tabG12,trivial⟩
theorem tab_ok:TIok Tryz.prog tab:=tabOf_ok tab_all
theorem tab_one:TIone tab:=tabOf_one tab_all
end Go.Proofs.YtjmofeakajdbiaaGreatDoor
namespace Go.AM
open Go Go.RowKit
def maskOf (acc:List Nat):List Edge→Nat
 | []=>0
 | e::r=>match Region.binds .any e with
  | true=>Nat.lor (Nat.lor (2 ^ e.on) (acc.getD e.on 0)) (maskOf acc r)
  | false=>maskOf acc r
def masks:List Oper→List Nat→List Nat
 | [],acc=>acc
 | o::r,acc=>masks r (acc++[maskOf acc o.after.toList])
inductive Ahead (ops:List Oper):Nat→Nat→Prop where
 | edge {i j:Nat} {o:Oper} {e:Edge} (hj:ops[j]?=some o) (he:e∈o.after.toList) (hb:Region.binds .any e=true) (hi:e.on=i):Ahead ops i j
 | trans {i j k:Nat} (h1:Ahead ops i j) (h2:Ahead ops j k):Ahead ops i k
theorem maskOf_bit {ops:List Oper}{acc:List Nat}{j:Nat}{o:Oper}(hj:ops[j]?=some o) (hacc:∀k i,(acc.getD k 0).testBit i=true→Ahead ops i k):
  ∀(l:List Edge),(∀e∈l,e∈o.after.toList)→∀i,(maskOf acc l).testBit i=true→Ahead ops i j
 | [],_,i,h=>by simp[maskOf]at h
 | e::r,hl,i,h=>by
  have ih:=maskOf_bit hj hacc r (fun e he=>hl e (List.mem_cons_of_mem _ he)) i
  unfold maskOf at h
  split at h
  ·rename_i hb
   rw[show ∀a b:Nat,Nat.lor a b=a ||| b from fun _ _=>rfl,show ∀a b:Nat,Nat.lor a b=a ||| b from fun _ _=>rfl]at h
   simp only[Nat.testBit_or,Bool.or_eq_true,Nat.testBit_two_pow,decide_eq_true_eq]at h
   rcases h with (h | h) | h
   ·exact .edge hj (hl e (by simp)) hb h
   ·exact .trans (hacc _ i h) (.edge hj (hl e (by simp)) hb rfl)
   ·exact ih h
  ·exact ih h
theorem masks_bit {ops:List Oper}:∀(l:List Oper) (acc:List Nat),ops.drop acc.length=l→(∀k i,(acc.getD k 0).testBit i=true→Ahead ops i k)→
  ∀k i,((masks l acc).getD k 0).testBit i=true→Ahead ops i k
 | [],acc,_,hacc,k,i,h=>hacc k i h
 | o::r,acc,hl,hacc,k,i,h=>by
  have hj:ops[acc.length]?=some o:=by
   have:=congrArg (fun l=>l[0]?) hl
   simpa using this
  refine masks_bit r (acc++[maskOf acc o.after.toList]) ?_ ?_ k i h
  ·have:=congrArg List.tail hl
   simpa using this
  ·intro k i hk
   by_cases h1:k<acc.length
   ·refine hacc k i ?_
    simpa [List.getD,List.getElem?_append_left h1] using hk
   ·by_cases h2:k=acc.length
    ·subst h2
     refine maskOf_bit hj hacc o.after.toList (fun e he=>he) i ?_
     simpa [List.getD] using hk
    ·have:(acc++[maskOf acc o.after.toList])[k]?=none:=by simp;omega
     simp[List.getD,this]at hk
def tmpsOf:List Operand→List Nat
 | []=>[]
 | .tmp t::r=>t::tmpsOf r
 | _::r=>tmpsOf r
def readsT (ops:Array Oper) (o:Oper):List Nat:=
 tmpsOf o.op.operands.toList++(match o.guard with
  | some (j,_)=>((ops[j]?).bind (·.dst)).toList
  | none=>[])
def meet (a b:List Nat):Bool:=a.any fun x=>b.any fun y=>Nat.beq x y
def meetI (a b:List Id):Bool:=a.any fun x=>b.any fun y=>Id.beq x y
def slotConf (ops:Array Oper) (a b:Oper):Bool:=
 meet a.dst.toList (readsT ops b) || meet a.dst.toList b.dst.toList || meet (readsT ops a) b.dst.toList
abbrev Fp:=List Id×List Id
def idConf (a b:Fp):Bool:=meetI a.2 b.1 || meetI a.2 b.2 || meetI a.1 b.2
def pairsOK (ops:Array Oper) (ms:List Nat) (l:List (Nat×Oper×Fp)):Bool:=
 l.all fun x=>l.all fun y=>!(Nat.blt x.1 y.1) || !(slotConf ops x.2.1 y.2.1 || idConf x.2.2 y.2.2) || (ms.getD y.1 0).testBit x.1
def backOK:List Oper→Nat→Bool
 | [],_=>true
 | o::r,i=>o.after.toList.all (fun e=>!(Region.binds .any e) || Nat.blt e.on i)&&backOK r (i+1)
def number:List Oper→List Fp→Nat→List (Nat×Oper×Fp)
 | o::r,f::fs,i=>(i,o,f)::number r fs (i+1)
 | _,_,_=>[]
def drawB (ops:Array Oper) (fps:List Fp):Bool:=
 Nat.beq fps.length ops.size&&(backOK ops.toList 0&&pairsOK ops (masks ops.toList []) (number ops.toList fps 0))
def drawOps (M:Mach) (ti:Types) (nt:Nat) (ops:Array Oper) (base:Nat):List Oper→Nat→St→List Fp→(St→List Fp→Prop)→Prop
 | [],i,σ,fps,K=>K ⟨σ.slots,σ.heap,base+32*i⟩ fps
 | o::r,i,σ,fps,K=>guarded ops o σ
   (fun σ1=>storeOK o<| dstOK nt o.dst<| opOut M ti o (base+32*i) (getS σ1.slots) (getH σ1.heap) fun out=>
    drawOps M ti nt ops base r (i+1) ⟨putS σ1.slots o.dst out.val,setW σ1.heap out.wr,σ1.next⟩ (fps++[(out.rd,out.wr.map (·.1))]) K)
   (fun σ1=>dstOK nt o.dst (drawOps M ti nt ops base r (i+1) ⟨putS σ1.slots o.dst (.t []),σ1.heap,σ1.next⟩ (fps++[([],[])]) K))
def execDraw (ti:Types) (M:Mach) (nt:Nat) (ops:Array Oper) (σ:St) (K:St→Prop):Prop:=
 drawOps M ti nt ops σ.next ops.toList 0 σ [] fun σ' fps=>M.lock (fun _=>drawB ops fps=true)∧K σ'
structure Ent where
 o:Oper
 run:Bool
 val:AV
 rd:List Id
 wr:List (Id×AObj)
def guardIs (ops:Array Oper) (e:Ent) (s:Slots):Prop:=
 match e.o.guard with
 | none=>e.run=true
 | some (j,want)=>∃d,(ops[j]?).bind (·.dst)=some d∧(s d= .v (.d (.bool (if e.run then want else !want)))∨(e.run=false∧s d= .t []))
def LexOK (C:Cx) (ops:Array Oper) (base:Nat):List Ent→Nat→Slots→Heap→Prop
 | [],_,_,_=>True
 | e::r,i,s,h=>ops[i]?=some e.o∧(∀d,e.o.dst=some d→d<C.nt)∧guardIs ops e s∧(e.run=true→(∀c,e.o.op≠ .defer c)∧OKop C e.o (base+32*i) s h ⟨e.val,e.rd,e.wr⟩)∧
   (e.run=false→e.val= .t []∧e.wr=[]∧e.rd=[])∧LexOK C ops base r (i+1) (updS s e.o.dst e.val) (updW h e.wr)
def endS:List Ent→Slots→Slots
 | [],s=>s
 | e::r,s=>endS r (updS s e.o.dst e.val)
def endH:List Ent→Heap→Heap
 | [],h=>h
 | e::r,h=>endH r (updW h e.wr)
section
variable {C:Cx}{ti:Types}
theorem drawOps_ents (hti:TIok C.P ti) (h1:TIone ti) {ops:Array Oper}{base:Nat}{K:St→List Fp→Prop}:∀(l:List Oper) (i:Nat) (σ:St) (fps:List Fp),
  ops.toList.drop i=l→drawOps C.M ti C.nt ops base l i σ fps K→
  ∃(es:List Ent) (σ':St),es.map (·.o)=l∧LexOK C ops base es i (getS σ.slots) (getH σ.heap)∧getS σ'.slots=endS es (getS σ.slots)∧getH σ'.heap=endH es (getH σ.heap)∧
   σ'.next=base+32*(i+l.length)∧K σ' (fps++es.map fun e=>(e.rd,e.wr.map (·.1)))
 | [],i,σ,fps,_,hk=>⟨[],⟨σ.slots,σ.heap,base+32*i⟩,rfl,trivial,rfl,rfl,by simp,by simpa using (show K ⟨σ.slots,σ.heap,base+32*i⟩ fps from hk)⟩
 | o::r,i,σ,fps,hl,hk=>by
  have hi:ops[i]?=some o:=by
   have:=congrArg (fun l=>l[0]?) hl
   simpa using this
  have hr:ops.toList.drop (i+1)=r:=by
   have:=congrArg List.tail hl
   simpa using this
  have run:∀(g:guardIs ops ⟨o,true,.u,[],[]⟩ (getS σ.slots)),(storeOK o<| dstOK C.nt o.dst<| opOut C.M ti o (base+32*i) (getS σ.slots) (getH σ.heap) fun out=>
    drawOps C.M ti C.nt ops base r (i+1) ⟨putS σ.slots o.dst out.val,setW σ.heap out.wr,σ.next⟩ (fps++[(out.rd,out.wr.map (·.1))]) K)→
    ∃(es:List Ent) (σ':St),es.map (·.o)=o::r∧LexOK C ops base es i (getS σ.slots) (getH σ.heap)∧getS σ'.slots=endS es (getS σ.slots)∧getH σ'.heap=endH es (getH σ.heap)∧
     σ'.next=base+32*(i+(o::r).length)∧K σ' (fps++es.map fun e=>(e.rd,e.wr.map (·.1))):=by
   intro g hk
   obtain⟨hst,hnd,hk⟩:=storeOK_iff hk
   obtain⟨hd,hk⟩:=dstOK_iff.1 hk
   obtain⟨out,hk,hok⟩:=opOut_sound hti h1 hst.1 hst.2 hk
   obtain⟨es,σ',e1,e2,e3,e4,e5,e6⟩:=drawOps_ents hti h1 r (i+1) _ _ hr hk
   rw[getS_putS]at e2 e3
   rw[getH_setW]at e2 e4
   refine⟨⟨o,true,out.val,out.rd,out.wr⟩::es,σ',by simp[e1],⟨hi,hd,g,fun _=>⟨hnd,hok⟩,fun e=>by simp at e,e2⟩,e3,e4,by rw[e5];simp;omega,?_⟩
   simpa using e6
  have skip:∀(g:guardIs ops ⟨o,false,.t [],[],[]⟩ (getS σ.slots)),(dstOK C.nt o.dst (drawOps C.M ti C.nt ops base r (i+1) ⟨putS σ.slots o.dst (.t []),σ.heap,σ.next⟩ (fps++[([],[])]) K))→
    ∃(es:List Ent) (σ':St),es.map (·.o)=o::r∧LexOK C ops base es i (getS σ.slots) (getH σ.heap)∧getS σ'.slots=endS es (getS σ.slots)∧getH σ'.heap=endH es (getH σ.heap)∧
     σ'.next=base+32*(i+(o::r).length)∧K σ' (fps++es.map fun e=>(e.rd,e.wr.map (·.1))):=by
   intro g hk
   obtain⟨hd,hk⟩:=dstOK_iff.1 hk
   obtain⟨es,σ',e1,e2,e3,e4,e5,e6⟩:=drawOps_ents hti h1 r (i+1) _ _ hr hk
   rw[getS_putS]at e2 e3
   refine⟨⟨o,false,.t [],[],[]⟩::es,σ',by simp[e1],⟨hi,hd,g,fun e=>by simp at e,fun _=>⟨rfl,rfl,rfl⟩,e2⟩,e3,e4,by rw[e5];simp;omega,?_⟩
   simpa using e6
  have hk':guarded ops o σ _ _:=hk
  unfold guarded at hk'
  split at hk'
  ·rename_i hg
   exact run (by simp[guardIs,hg]) hk'
  ·rename_i j want hg
   split at hk'
   ·exact hk'.elim
   ·rename_i d hd
    split at hk'
    ·rename_i c hc
     cases want<;>cases c
     ·exact run (by simp only[guardIs,hg];exact⟨d,hd,.inl hc⟩) hk'
     ·exact skip (by simp only[guardIs,hg];exact⟨d,hd,.inl hc⟩) hk'
     ·exact skip (by simp only[guardIs,hg];exact⟨d,hd,.inl hc⟩) hk'
     ·exact run (by simp only[guardIs,hg];exact⟨d,hd,.inl hc⟩) hk'
    ·rename_i hc
     exact skip (by simp only[guardIs,hg];exact⟨d,hd,.inr ⟨trivial,hc⟩⟩) hk'
    ·exact hk'.elim
def setS (S:Nat→Bool):List Ent→Nat→Slots→Slots
 | [],_,s=>s
 | e::r,i,s=>setS S r (i+1) (if S i then updS s e.o.dst e.val else s)
def setHp (S:Nat→Bool):List Ent→Nat→Heap→Heap
 | [],_,h=>h
 | e::r,i,h=>setHp S r (i+1) (if S i then updW h e.wr else h)
theorem updS_at {s s':Slots}{d:Option Tmp}{v:AV}{t:Nat}(h:d≠some t→s t=s' t):updS s d v t=updS s' d v t:=by
 cases d with
 | none=>exact h (by simp)
 | some d=>
  simp only[updS]
  by_cases ht:t=d
  ·simp[ht]
  ·simp only[if_neg ht];exact h (by simp;exact fun e=>ht e.symm)
theorem updS_off {s:Slots}{d:Option Tmp}{v:AV}{t:Nat}(h:d≠some t):updS s d v t=s t:=by
 cases d with
 | none=>rfl
 | some d=>
  simp only[updS]
  rw[if_neg]
  exact fun e=>h (by rw[e])
theorem updW_at {h h':Heap}{i:Id}:∀{wr:List (Id×AObj)},(i∉wr.map (·.1)→h i=h' i)→updW h wr i=updW h' wr i:=by
 intro wr
 induction wr generalizing h h' with
 | nil=>intro hh;exact hh (by simp)
 | cons x wr ih=>
  intro hh
  refine ih fun hn=>?_
  simp only[updO]
  by_cases hi:i=x.1
  ·simp[hi]
  ·simp only[if_neg hi]
   exact hh (by simp[hi];simpa using hn)
theorem setS_agree {S S':Nat→Bool}{t:Nat}:∀(es:List Ent) (i:Nat) (s s':Slots),s t=s' t→(∀k e,es[k]?=some e→e.o.dst=some t→S (i+k)=S' (i+k))→
  setS S es i s t=setS S' es i s' t
 | [],i,s,s',h,_=>h
 | e::r,i,s,s',h,hw=>by
  refine setS_agree r (i+1) _ _ ?_ (fun k e' hk hd=>by have:=hw (k+1) e' (by simpa using hk) hd;rw[show i+1+k=i+(k+1)from by omega];exact this)
  by_cases hd:e.o.dst=some t
  ·have:=hw 0 e rfl hd
   simp only[Nat.add_zero]at this
   rw[this]
   cases S' i
   ·exact h
   ·exact updS_at (fun _=>h)
  ·cases S i<;>cases S' i<;>simp[updS_off hd,h]
theorem setHp_agree {S S':Nat→Bool}{x:Id}:∀(es:List Ent) (i:Nat) (h h':Heap),h x=h' x→(∀k e,es[k]?=some e→x∈e.wr.map (·.1)→S (i+k)=S' (i+k))→
  setHp S es i h x=setHp S' es i h' x
 | [],i,h,h',hh,_=>hh
 | e::r,i,h,h',hh,hw=>by
  refine setHp_agree r (i+1) _ _ ?_ (fun k e' hk hd=>by have:=hw (k+1) e' (by simpa using hk) hd;rw[show i+1+k=i+(k+1)from by omega];exact this)
  by_cases hd:x∈e.wr.map (·.1)
  ·have:=hw 0 e rfl hd
   simp only[Nat.add_zero]at this
   rw[this]
   cases S' i
   ·exact hh
   ·exact updW_at (fun _=>hh)
  ·have e1:updW h e.wr x=h x:=updW_notin hd
   have e2:updW h' e.wr x=h' x:=updW_notin hd
   cases S i<;>cases S' i<;>simp[e1,e2,hh]
theorem setS_add {S S':Nat→Bool}{t:Nat}{n:Nat}{en:Ent}:∀(es:List Ent) (i:Nat) (s:Slots),es[n]?=some en→S (i+n)=false→S' (i+n)=true→(∀k,k≠i+n→S' k=S k)→
  (en.o.dst=some t→∀k e,es[k]?=some e→e.o.dst=some t→n<k→S (i+k)=false)→setS S' es i s t=updS (setS S es i s) en.o.dst en.val t
 | [],i,s,hn,_,_,_,_=>by simp at hn
 | e::r,i,s,hn,h0,h1,hS,hb=>by
  cases n with
  | zero=>
   simp at hn
   subst hn
   simp only[Nat.add_zero]at h0 h1
   show setS S' r (i+1) (if S' i then updS s e.o.dst e.val else s) t=updS (setS S r (i+1) (if S i then updS s e.o.dst e.val else s)) e.o.dst e.val t
   rw[h0,h1]
   simp only[if_true,Bool.false_eq_true,if_false]
   have same:∀s',setS S' r (i+1) s' t=setS S r (i+1) s' t:=fun s'=>setS_agree r (i+1) s' s' rfl (fun k e' _ _=>hS _ (by omega))
   rw[same]
   by_cases hd:e.o.dst=some t
   ·have none:∀s':Slots,setS S r (i+1) s' t=s' t:=by
     intro s'
     have z:∀(l:List Ent) (m:Nat) (s':Slots),(∀k e,l[k]?=some e→e.o.dst=some t→S (m+k)=false)→setS S l m s' t=s' t:=by
      intro l
      induction l with
      | nil=>intro m s' _;rfl
      | cons e l ih=>
       intro m s' hz
       show setS S l (m+1) (if S m then updS s' e.o.dst e.val else s') t=_
       rw[ih (m+1) _ (fun k e' hk hd=>by have:=hz (k+1) e' (by simpa using hk) hd;rw[show m+1+k=m+(k+1)from by omega];exact this)]
       by_cases hd:e.o.dst=some t
       ·have:=hz 0 e rfl hd
        simp only[Nat.add_zero]at this
        simp[this]
       ·split
        ·exact updS_off hd
        ·rfl
     exact z r (i+1) s' (fun k e' hk hd'=>by
      have:=hb hd (k+1) e' (by simpa using hk) hd' (by omega)
      rw[show i+1+k=i+(k+1)from by omega];exact this)
    rw[none,hd]
    simp[updS]
   ·rw[updS_off hd]
    exact setS_agree r (i+1) _ _ (updS_off hd) (fun _ _ _ _=>rfl)
  | succ n=>
   have e1:S' i=S i:=hS i (by omega)
   show setS S' r (i+1) (if S' i then updS s e.o.dst e.val else s) t=_
   rw[e1]
   refine setS_add r (i+1) _ (by simpa using hn) (by rw[show i+1+n=i+(n+1)from by omega];exact h0) (by rw[show i+1+n=i+(n+1)from by omega];exact h1)
    (fun k hk=>hS k (by omega)) (fun hd k e' hk hd' hlt=>?_)
   have:=hb hd (k+1) e' (by simpa using hk) hd' (by omega)
   rw[show i+1+k=i+(k+1)from by omega];exact this
theorem setHp_add {S S':Nat→Bool}{x:Id}{n:Nat}{en:Ent}:∀(es:List Ent) (i:Nat) (s:Heap),es[n]?=some en→S (i+n)=false→S' (i+n)=true→(∀k,k≠i+n→S' k=S k)→
  (x∈en.wr.map (·.1)→∀k e,es[k]?=some e→x∈e.wr.map (·.1)→n<k→S (i+k)=false)→setHp S' es i s x=updW (setHp S es i s) en.wr x
 | [],i,s,hn,_,_,_,_=>by simp at hn
 | e::r,i,s,hn,h0,h1,hS,hb=>by
  cases n with
  | zero=>
   simp at hn
   subst hn
   simp only[Nat.add_zero]at h0 h1
   show setHp S' r (i+1) (if S' i then updW s e.wr else s) x=updW (setHp S r (i+1) (if S i then updW s e.wr else s)) e.wr x
   rw[h0,h1]
   simp only[if_true,Bool.false_eq_true,if_false]
   have same:∀s',setHp S' r (i+1) s' x=setHp S r (i+1) s' x:=fun s'=>setHp_agree r (i+1) s' s' rfl (fun k e' _ _=>hS _ (by omega))
   rw[same]
   by_cases hd:x∈e.wr.map (·.1)
   ·have none:∀s':Heap,setHp S r (i+1) s' x=s' x:=by
     intro s'
     have z:∀(l:List Ent) (m:Nat) (s':Heap),(∀k e,l[k]?=some e→x∈e.wr.map (·.1)→S (m+k)=false)→setHp S l m s' x=s' x:=by
      intro l
      induction l with
      | nil=>intro m s' _;rfl
      | cons e l ih=>
       intro m s' hz
       show setHp S l (m+1) (if S m then updW s' e.wr else s') x=_
       rw[ih (m+1) _ (fun k e' hk hd=>by have:=hz (k+1) e' (by simpa using hk) hd;rw[show m+1+k=m+(k+1)from by omega];exact this)]
       by_cases hd:x∈e.wr.map (·.1)
       ·have:=hz 0 e rfl hd
        simp only[Nat.add_zero]at this
        simp[this]
       ·split
        ·exact updW_notin hd
        ·rfl
     exact z r (i+1) s' (fun k e' hk hd'=>by
      have:=hb hd (k+1) e' (by simpa using hk) hd' (by omega)
      rw[show i+1+k=i+(k+1)from by omega];exact this)
    rw[none]
    exact updW_at (fun hn=>absurd hd hn)
   ·rw[updW_notin hd]
    exact setHp_agree r (i+1) _ _ (updW_notin hd) (fun _ _ _ _=>rfl)
  | succ n=>
   have e1:S' i=S i:=hS i (by omega)
   show setHp S' r (i+1) (if S' i then updW s e.wr else s) x=_
   rw[e1]
   refine setHp_add r (i+1) _ (by simpa using hn) (by rw[show i+1+n=i+(n+1)from by omega];exact h0) (by rw[show i+1+n=i+(n+1)from by omega];exact h1)
    (fun k hk=>hS k (by omega)) (fun hd k e' hk hd' hlt=>?_)
   have:=hb hd (k+1) e' (by simpa using hk) hd' (by omega)
   rw[show i+1+k=i+(k+1)from by omega];exact this
end
end Go.AM
namespace Go.AM
open Go Go.RowKit
section
variable {C:Cx}{ti:Types}
theorem setS_none {S:Nat→Bool}:∀(es:List Ent) (i:Nat) (s:Slots),(∀k,i≤k→S k=false)→setS S es i s=s
 | [],_,_,_=>rfl
 | e::r,i,s,h=>by
  show setS S r (i+1) (if S i then _ else s)=s
  rw[h i (Nat.le_refl _)]
  exact setS_none r (i+1) s (fun k hk=>h k (by omega))
theorem setHp_none {S:Nat→Bool}:∀(es:List Ent) (i:Nat) (s:Heap),(∀k,i≤k→S k=false)→setHp S es i s=s
 | [],_,_,_=>rfl
 | e::r,i,s,h=>by
  show setHp S r (i+1) (if S i then _ else s)=s
  rw[h i (Nat.le_refl _)]
  exact setHp_none r (i+1) s (fun k hk=>h k (by omega))
theorem setS_all {S:Nat→Bool}:∀(es:List Ent) (i:Nat) (s:Slots),(∀k,k<es.length→S (i+k)=true)→setS S es i s=endS es s
 | [],_,_,_=>rfl
 | e::r,i,s,h=>by
  show setS S r (i+1) (if S i then _ else s)=endS r _
  rw[show S i=true from h 0 (by simp)]
  exact setS_all r (i+1) _ (fun k hk=>by have:=h (k+1) (by simp;omega);rw[show i+1+k=i+(k+1)from by omega];exact this)
theorem setHp_all {S:Nat→Bool}:∀(es:List Ent) (i:Nat) (s:Heap),(∀k,k<es.length→S (i+k)=true)→setHp S es i s=endH es s
 | [],_,_,_=>rfl
 | e::r,i,s,h=>by
  show setHp S r (i+1) (if S i then _ else s)=endH r _
  rw[show S i=true from h 0 (by simp)]
  exact setHp_all r (i+1) _ (fun k hk=>by have:=h (k+1) (by simp;omega);rw[show i+1+k=i+(k+1)from by omega];exact this)
def EntOK (C:Cx) (ops:Array Oper) (base:Nat) (e:Ent) (i:Nat) (s:Slots) (h:Heap):Prop:=
 ops[i]?=some e.o∧(∀d,e.o.dst=some d→d<C.nt)∧guardIs ops e s∧(e.run=true→(∀c,e.o.op≠ .defer c)∧OKop C e.o (base+32*i) s h ⟨e.val,e.rd,e.wr⟩)∧
   (e.run=false→e.val= .t []∧e.wr=[]∧e.rd=[])
theorem lexAt {ops:Array Oper}{base:Nat}(es:List Ent):∀(m n:Nat) (s:Slots) (h:Heap) (e:Ent),LexOK C ops base es m s h→es[n]?=some e→
  EntOK C ops base e (m+n) (setS (fun k=>decide (k<m+n)) es m s) (setHp (fun k=>decide (k<m+n)) es m h):=by
 induction es with
 | nil=>intro m n s h e _ hn;simp at hn
 | cons x r ih=>
  intro m n s h e hl hn
  cases n with
  | zero=>
   simp at hn
   subst hn
   have e1:setS (fun k=>decide (k<m+0)) (x::r) m s=s:=setS_none _ _ _ (fun k hk=>by simp;omega)
   have e2:setHp (fun k=>decide (k<m+0)) (x::r) m h=h:=setHp_none _ _ _ (fun k hk=>by simp;omega)
   rw[e1,e2]
   exact⟨hl.1,hl.2.1,hl.2.2.1,hl.2.2.2.1,hl.2.2.2.2.1⟩
  | succ n=>
   have:=ih (m+1) n _ _ e hl.2.2.2.2.2 (by simpa using hn)
   rw[show m+1+n=m+(n+1)from by omega]at this
   have e1:setS (fun k=>decide (k<m+(n+1))) (x::r) m s=setS (fun k=>decide (k<m+(n+1))) r (m+1) (updS s x.o.dst x.val):=by
    show setS _ r (m+1) (if decide (m<m+(n+1))then _ else _)=_
    rw[if_pos (by simp)]
   have e2:setHp (fun k=>decide (k<m+(n+1))) (x::r) m h=setHp (fun k=>decide (k<m+(n+1))) r (m+1) (updW h x.wr):=by
    show setHp _ r (m+1) (if decide (m<m+(n+1))then _ else _)=_
    rw[if_pos (by simp)]
   rw[e1,e2]
   exact this
theorem RelS.drew {F:Nat→Prop}{s:Slots}{h:Heap}{g:Ghost}{a:Act}{w:World}(R:RelS C F s h g a w):RelS C F s h g a {w with drawn:=w.drawn+1}:=by
 have E:Evo w (zor (zone g h) C.X) g h {w with drawn:=w.drawn+1} (zor (zone g h) C.X) g h:=
  ⟨fun b o u hu hz=>⟨hu,hz⟩,fun _ _ _=>rfl,fun _ _ _=>rfl,fun _ hi=>hi,fun i n sz e _ hn=>⟨n,Nat.le_refl _,hn,fun _=>rfl⟩,fun _ hi=>hi,fun i _ hn=>⟨hn,rfl⟩⟩
 refine R.step (fun _=>False) E ⟨rfl,rfl,rfl,Nat.le_refl _,fun _ _ _=>rfl,fun _ _ _ hu _=>hu⟩ (fun _ _=>⟨rfl,rfl⟩) (fun _ _ _ _ _ _=>rfl) (fun _ _ h=>h.elim) (fun _ _ _ _ h=>h.elim)
  (fun _ _ _ _ _ h=>h.elim) (fun _ h=>h.elim) R.free
theorem filter_one {p p':Nat→Bool}{i:Nat}:∀{l:List Nat},l.Nodup→i∈l→p i=true→p' i=false→(∀k,k≠i→p' k=p k)→(l.filter p').length+1=(l.filter p).length
 | x::l,hn,hi,h1,h0,hs=>by
  have hn':=List.nodup_cons.1 hn
  by_cases hx:x=i
  ·subst hx
   have:l.filter p'=l.filter p:=List.filter_congr fun k hk=>hs k (fun e=>hn'.1 (e▸hk))
   simp[h1,h0,this]
  ·have hil:i∈l:=(List.mem_cons.1 hi).resolve_left (fun e=>hx e.symm)
   have ih:=filter_one hn'.2 hil h1 h0 hs
   have:=hs x hx
   simp only[List.filter_cons,this]
   split<;>simp[ih]
theorem meet_iff {a b:List Nat}{x:Nat}(ha:x∈a) (hb:x∈b):meet a b=true:=by
 simp only[meet,List.any_eq_true]
 exact⟨x,ha,x,hb,by simp⟩
theorem meetI_iff {a b:List Id}{x:Id}(ha:x∈a) (hb:x∈b):meetI a b=true:=by
 simp only[meetI,List.any_eq_true]
 exact⟨x,ha,x,hb,Id.beq_iff.2 rfl⟩
theorem tmpsOf_mem {t:Nat}:∀{l:List Operand},Operand.tmp t∈l→t∈tmpsOf l
 | .tmp x::l,h=>by
  rcases List.mem_cons.1 h with h | h
  ·simp at h;subst h;simp[tmpsOf]
  ·simp[tmpsOf,tmpsOf_mem h]
 | .const v::l,h=>by simp[tmpsOf,tmpsOf_mem ((List.mem_cons.1 h).resolve_left (by simp))]
 | .global v::l,h=>by simp[tmpsOf,tmpsOf_mem ((List.mem_cons.1 h).resolve_left (by simp))]
 | .func v::l,h=>by simp[tmpsOf,tmpsOf_mem ((List.mem_cons.1 h).resolve_left (by simp))]
theorem number_get (l:List Oper):∀(fs:List Fp) (i n:Nat) (o:Oper) (f:Fp),l[n]?=some o→fs[n]?=some f→(i+n,o,f)∈number l fs i:=by
 induction l with
 | nil=>intro fs i n o f h1 _;simp at h1
 | cons x l ih=>
  intro fs i n o f h1 h2
  cases fs with
  | nil=>simp at h2
  | cons y fs=>
   cases n with
   | zero=>simp at h1 h2;subst h1;subst h2;simp[number]
   | succ n=>
    simp at h1 h2
    have:=ih fs (i+1) n o f h1 h2
    rw[show i+1+n=i+(n+1)from by omega]at this
    simp[number,this]
theorem backOK_get (l:List Oper):∀(i n:Nat) (o:Oper) (e:Edge),backOK l i=true→l[n]?=some o→e∈o.after.toList→Region.binds .any e=true→e.on<i+n:=by
 induction l with
 | nil=>intro i n o e _ h1 _ _;simp at h1
 | cons x l ih=>
  intro i n o e h h1 he hb
  simp only[backOK,Bool.and_eq_true,List.all_eq_true]at h
  cases n with
  | zero=>
   simp at h1
   subst h1
   have:=h.1 e he
   simpa [hb] using this
  | succ n=>
   simp at h1
   have:=ih (i+1) n o e h.2 h1 he hb
   omega
theorem draw_ok (hti:TIok C.P ti) (h1:TIone ti) (hm:C.P.follows .mixedOrders=true):DrawOK C (execDraw ti C.M C.nt):=by
 intro id ops σ K Q a w hQ hk R
 obtain⟨es,σ',e1,hlex,e3,e4,e5,hlock,hK⟩:=drawOps_ents hti h1 ops.toList 0 σ [] rfl hk
 have hB:=(C.M.lock_iff _).1 hlock
 simp only[List.nil_append]at hB
 simp only[drawB,Bool.and_eq_true,Nat.beq_eq]at hB
 obtain⟨hlen,hback,hpairs⟩:=hB
 have hlen:es.length=ops.size:=by simpa using congrArg List.length e1
 have hes:∀(n:Nat) e,es[n]?=some e→ops.toList[n]?=some e.o:=by
  intro n e he
  rw[←e1];simp[he]
 have ahead:∀(i j:Nat) ei ej,es[i]?=some ei→es[j]?=some ej→i<j→(slotConf ops ei.o ej.o || idConf (ei.rd,ei.wr.map (·.1)) (ej.rd,ej.wr.map (·.1)))=true→Ahead ops.toList i j:=by
  intro i j ei ej hi hj hlt hc
  have m1:=number_get ops.toList (es.map fun e=>(e.rd,e.wr.map (·.1))) 0 i _ _ (hes i ei hi) (by simp[hi];rfl)
  have m2:=number_get ops.toList (es.map fun e=>(e.rd,e.wr.map (·.1))) 0 j _ _ (hes j ej hj) (by simp[hj];rfl)
  simp only[pairsOK,List.all_eq_true]at hpairs
  have:=hpairs _ m1 _ m2
  simp only[Nat.zero_add]at this
  have hb:Nat.blt i j=true:=by simpa using hlt
  rw[hb,hc]at this
  simp only[Bool.not_true,Bool.false_or]at this
  exact masks_bit ops.toList [] rfl (by simp[List.getD]) j i this
 let s0:=getS σ.slots
 let h0:=getH σ.heap
 let base:=σ.next
 refine wpIn_region_any hm ?_
 let Sof:Array Bool→Nat→Bool:=fun listed k=>listed.getD k false
 have main:∀(fuel:Nat) (listed:Array Bool) (a:Act) (w:World),listed.size=ops.size→
   ((List.range ops.size).filter (fun k=>!Sof listed k)).length=fuel→
   (∀i j,Ahead ops.toList i j→Sof listed j=true→Sof listed i=true)→
   Rel C (fun n=>base≤n∧∀i,Sof listed i=true→¬(base+32*i≤n∧n<base+32*i+32)) (setS (Sof listed) es 0 s0) (setHp (Sof listed) es 0 h0) a w→
   wpAnyIn (fenceOf C.ro) 0 C.P .any ops Q fuel listed a w:=by
  intro fuel
  induction fuel with
  | zero=>
   intro listed a w hsz hcnt hcl R
   have hall:∀k,k<ops.size→Sof listed k=true:=by
    intro k hk
    have:=List.eq_nil_of_length_eq_zero hcnt
    cases hs:Sof listed k with
    | true=>rfl
    | false=>
     have:k∈(List.range ops.size).filter (fun k=>!Sof listed k):=by simp[hk,hs]
     rw[List.eq_nil_of_length_eq_zero hcnt]at this
     simp at this
   refine⟨?_,?_⟩
   ·cases hr:Region.ready .any ops listed with
    | nil=>rfl
    | cons j l=>
     have hj:j∈Region.ready .any ops listed:=by rw[hr];simp
     obtain⟨h2,o,ho,_⟩:=mem_ready.1 hj
     have hlt:=(Array.getElem?_eq_some_iff.1 ho).1
     have:=hall j hlt
     simp only[Sof]at this
     have hjl:j<listed.size:=by omega
     simp[hjl]at this h2
     rw[this]at h2
     simp at h2
   ·refine hQ σ' a w hK ?_
    have:RelSt C σ' a w↔Rel C (fun n=>σ'.next≤n) (getS σ'.slots) (getH σ'.heap) a w:=Iff.rfl
    rw[this,e3,e4,e5]
    have z1:setS (Sof listed) es 0 s0=endS es s0:=setS_all es 0 s0 (fun k hk=>by rw[Nat.zero_add];exact hall k (by omega))
    have z2:setHp (Sof listed) es 0 h0=endH es h0:=setHp_all es 0 h0 (fun k hk=>by rw[Nat.zero_add];exact hall k (by omega))
    rw[z1,z2]at R
    refine R.free_mono (fun n hn=>?_)
    simp only[Nat.zero_add,Array.length_toList]at hn
    refine⟨by simp only[base];omega,fun i hi=>?_⟩
    have:i<ops.size:=by
     simp only[Sof]at hi
     have hil:i<listed.size:=by
      rcases Nat.lt_or_ge i listed.size with h | h
      ·exact h
      ·simp[Array.getElem?_eq_none h]at hi
     omega
    simp only[base]
    omega
  | succ fuel ih=>
   intro listed a w hsz hcnt hcl R
   have hstep:∀i,i∈Region.ready .any ops listed→wpOpIn (fenceOf C.ro) 0 C.P ops Q i (wpAnyIn (fenceOf C.ro) 0 C.P .any ops Q fuel (listed.setIfInBounds i true)) a w:=by
    intro i hi
    obtain⟨hi0,o,ho,hedges⟩:=mem_ready.1 hi
    have hlt:i<ops.size:=(Array.getElem?_eq_some_iff.1 ho).1
    have hil:i<listed.size:=by omega
    have hS0:Sof listed i=false:=by
     simp[hil]at hi0
     simp[Sof,hil,hi0]
    have hS1:Sof (listed.setIfInBounds i true) i=true:=by simp[Sof,hil]
    have hSo:∀k,k≠i→Sof (listed.setIfInBounds i true) k=Sof listed k:=by
     intro k hk
     simp[Sof,Array.getElem?_setIfInBounds_ne (Ne.symm hk)]
    obtain⟨en,hen⟩:∃en,es[i]?=some en:=⟨es[i],by simp[hlen,hlt]⟩
    have hEnt:=lexAt es 0 i s0 h0 en hlex hen
    rw[Nat.zero_add]at hEnt
    obtain⟨ho',hd,hg,hrun,hskip⟩:=hEnt
    rw[ho]at ho'
    obtain rfl:o=en.o:=by simpa using ho'
    -- who writes what i reads or writes
    have order:∀k e,es[k]?=some e→k≠i→(k<i→(slotConf ops e.o en.o || idConf (e.rd,e.wr.map (·.1)) (en.rd,en.wr.map (·.1)))=true)→
      (i<k→(slotConf ops en.o e.o || idConf (en.rd,en.wr.map (·.1)) (e.rd,e.wr.map (·.1)))=true)→Sof listed k=decide (k<i):=by
     intro k e he hne c1 c2
     by_cases hki:k<i
     ·have ah:=ahead k i e en he hen hki (c1 hki)
      have:Sof listed k=true:=by
       have gen:∀x y,Ahead ops.toList x y→y=i→Sof listed x=true:=by
        intro x y hxy
        induction hxy with
        | edge hj hee hb hei=>
         intro hy
         subst hy
         rw[←hei]
         have:=hes _ en hen
         rw[hj]at this
         simp at this
         subst this
         exact hedges _ (by simpa using hee) hb
        | trans p q ihp ihq=>
         intro hy
         exact hcl _ _ p (ihq hy)
       exact gen k i ah rfl
      simp[this,hki]
     ·have hik:i<k:=by omega
      have ah:=ahead i k en e hen he hik (c2 hik)
      have:Sof listed k=false:=by
       cases hs:Sof listed k with
       | false=>rfl
       | true=>have:=hcl i k ah hs;rw[hS0]at this;simp at this
      simp[this,hki]
    have slotAgree:∀t,t∈readsT ops en.o→setS (Sof listed) es 0 s0 t=setS (fun k=>decide (k<i)) es 0 s0 t:=by
     intro t ht
     refine setS_agree es 0 s0 s0 rfl (fun k e he hdst=>?_)
     rw[Nat.zero_add]
     by_cases hki:k=i
     ·subst hki;simp[hS0]
     ·refine order k e he hki (fun _=>?_) (fun _=>?_)
      ·simp[slotConf,meet_iff (x:=t) (a:=e.o.dst.toList) (b:=readsT ops en.o) (by simp[hdst]) ht]
      ·simp[slotConf,meet_iff (x:=t) (a:=readsT ops en.o) (b:=e.o.dst.toList) ht (by simp[hdst])]
    have idAgree:∀x,x∈en.rd→setHp (Sof listed) es 0 h0 x=setHp (fun k=>decide (k<i)) es 0 h0 x:=by
     intro x hx
     refine setHp_agree es 0 h0 h0 rfl (fun k e he hw=>?_)
     rw[Nat.zero_add]
     by_cases hki:k=i
     ·subst hki;simp[hS0]
     ·refine order k e he hki (fun _=>?_) (fun _=>?_)
      ·simp[idConf,meetI_iff (x:=x) (a:=e.wr.map (·.1)) (b:=en.rd) hw hx]
      ·simp[idConf,meetI_iff (x:=x) (a:=en.rd) (b:=e.wr.map (·.1)) hx hw]
    have cl':∀x y,Ahead ops.toList x y→Sof (listed.setIfInBounds i true) y=true→Sof (listed.setIfInBounds i true) x=true:=by
     intro x y hxy hy
     by_cases hx:x=i
     ·rw[hx];exact hS1
     ·rw[hSo x hx]
      by_cases hyi:y=i
      ·subst hyi
       have gen:∀x y',Ahead ops.toList x y'→y'=y→Sof listed x=true:=by
        intro x y' hxy
        induction hxy with
        | edge hj hee hb hei=>
         intro hy
         subst hy
         rw[←hei]
         have:=hes _ en hen
         rw[hj]at this
         simp at this
         subst this
         exact hedges _ (by simpa using hee) hb
        | trans p q ihp ihq=>
         intro hy
         exact hcl _ _ p (ihq hy)
       exact gen x y hxy rfl
      ·rw[hSo y hyi]at hy
       exact hcl x y hxy hy
    have cnt':((List.range ops.size).filter (fun k=>!Sof (listed.setIfInBounds i true) k)).length=fuel:=by
     have:=filter_one (p:=fun k=>!Sof listed k) (p':=fun k=>!Sof (listed.setIfInBounds i true) k) (i:=i) (l:=List.range ops.size) List.nodup_range (by simp[hlt]) (by simp[hS0]) (by simp[hS1])
      (fun k hk=>by simp[hSo k hk])
     omega
    have addS:setS (Sof (listed.setIfInBounds i true)) es 0 s0=updS (setS (Sof listed) es 0 s0) en.o.dst en.val:=by
     funext t
     refine setS_add es 0 s0 hen (by simpa using hS0) (by simpa using hS1) (fun k hk=>hSo k (by omega)) (fun hdst k e he hdst' hik=>?_)
     rw[Nat.zero_add]
     have:=order k e he (by omega) (fun h=>absurd h (by omega)) (fun _=>by simp[slotConf,meet_iff (x:=t) (a:=en.o.dst.toList) (b:=e.o.dst.toList) (by simp[hdst]) (by simp[hdst'])])
     rw[this]
     simp;omega
    have addH:setHp (Sof (listed.setIfInBounds i true)) es 0 h0=updW (setHp (Sof listed) es 0 h0) en.wr:=by
     funext x
     refine setHp_add es 0 h0 hen (by simpa using hS0) (by simpa using hS1) (fun k hk=>hSo k (by omega)) (fun hw k e he hw' hik=>?_)
     rw[Nat.zero_add]
     have:=order k e he (by omega) (fun h=>absurd h (by omega)) (fun _=>by simp[idConf,meetI_iff (x:=x) (a:=en.wr.map (·.1)) (b:=e.wr.map (·.1)) hw hw'])
     rw[this]
     simp;omega
    have next:∀a' w',Rel C (fun n=>(base≤n∧∀i,Sof listed i=true→¬(base+32*i≤n∧n<base+32*i+32))∧¬(base+32*i≤n∧n<base+32*i+32))
      (updS (setS (Sof listed) es 0 s0) en.o.dst en.val) (updW (setHp (Sof listed) es 0 h0) en.wr) a' w'→wpAnyIn (fenceOf C.ro) 0 C.P .any ops Q fuel (listed.setIfInBounds i true) a' w':=by
     intro a' w' R'
     refine ih _ a' w' (by simp[hsz]) cnt' cl' ?_
     rw[addS,addH]
     refine R'.free_mono (fun n hn=>⟨⟨hn.1,fun j hj=>?_⟩,hn.2 i hS1⟩)
     by_cases hji:j=i
     ·subst hji;exact hn.2 j hS1
     ·exact hn.2 j (by rw[hSo j hji];exact hj)
    have hw:Region.wanted en.o (yielded ops a.tmps)=en.run:=by
     unfold guardIs at hg
     split at hg
     ·rename_i hgn
      simp[Region.wanted,hgn,hg]
     ·rename_i j want hgs
      obtain⟨d,hdj,hsd⟩:=hg
      have hmem:d∈readsT ops en.o:=by simp[readsT,hgs,hdj]
      rw[←slotAgree d hmem]at hsd
      rcases hsd with hsd | ⟨hrf,hsd⟩
      rotate_left
      ·have hy:yielded ops a.tmps j=none:=by
        obtain⟨g,R⟩:=R
        have:=R.slots d
        rw[hsd]at this
        obtain⟨vs,hv,_⟩:=this
        exact yields_none' hdj ⟨vs,hv⟩
       simp[Region.wanted,hgs,hy,hrf]
      have hy:yielded ops a.tmps j=some (if en.run then want else !want):=by
       obtain⟨g,R⟩:=R
       have:=R.slots d
       rw[hsd]at this
       have hv:=relB this
       unfold yielded
       rw[hdj]
       have:a.tmps[d]?=some (.bool (if en.run then want else !want)):=by
        rw[Array.getD_eq_getD_getElem?]at hv
        cases h:a.tmps[d]? with
        | none=>rw[h]at hv;simp[undef]at hv
        | some v=>rw[h]at hv;simpa using hv
       simp[this]
      simp only[Region.wanted,hgs,hy]
      cases en.run<;>cases want<;>rfl
    unfold wpOpIn
    rw[ho]
    simp only[]
    cases hr:en.run with
    | true=>
     rw[if_pos (by rw[hw,hr])]
     refine wp_fence (hrun hr).1 (Oper.wp_mono next ?_)
     refine (hrun hr).2 _ _ _ a w Q R (fun t ht=>slotAgree t (by simp[readsT,tmpsOf_mem ht])) idAgree (fun k hk=>⟨by omega,fun j hj=>?_⟩) hd
     by_cases hji:j=i
     ·subst hji;rw[hS0]at hj;simp at hj
     ·omega
    | false=>
     rw[if_neg (by rw[hw,hr];simp)]
     obtain⟨z1,z2,z3⟩:=hskip hr
     refine⟨fun f _=>fenceOf_fn _ f,next _ w ?_⟩
     rw[z1,z2]
     obtain⟨g,R⟩:=R
     refine⟨g,(R.put hd (v:=.t []) ⟨#[],rfl,rfl,by simp⟩).free_mono (fun n hn=>hn.1)⟩
   refine⟨fun hnil=>?_,hstep⟩
   -- not all are listed: the least of those is ready
   exfalso
   have hex:∃k,k<ops.size∧Sof listed k=false:=by
    have:(List.range ops.size).filter (fun k=>!Sof listed k)≠[]:=by intro e;rw[e]at hcnt;simp at hcnt
    obtain⟨k,hk⟩:=List.exists_mem_of_ne_nil _ this
    simp at hk
    exact⟨k,hk.1,hk.2⟩
   obtain⟨k,⟨hk1,hk2⟩,hmin⟩:=least hex
   have:k∈Region.ready .any ops listed:=by
    refine mem_ready.2 ⟨?_,ops[k],by simp[hk1],fun e he hb=>?_⟩
    ·have hkl:k<listed.size:=by omega
     simp only[Sof]at hk2
     simp[hkl]at hk2 ⊢
     exact hk2
    ·have hlt:e.on<0+k:=backOK_get ops.toList 0 k ops[k] e hback (by simp[hk1]) (by simpa using he) hb
     cases hs:Sof listed e.on with
     | true=>exact hs
     | false=>have:=hmin e.on ⟨by omega,hs⟩;omega
   rw[hnil]at this
   simp at this
 refine main ops.size (Array.replicate ops.size false) a _ (by simp) ?_ ?_ ?_
 ·have:(List.range ops.size).filter (fun k=>!Sof (Array.replicate ops.size false) k)=List.range ops.size:=by
   refine List.filter_eq_self.2 fun k hk=>?_
   simp only[Sof,Array.getD_eq_getD_getElem?,Array.getElem?_replicate]
   split<;>rfl
  rw[this];simp
 ·intro i j _ hj
  exfalso
  revert hj
  simp only[Sof,Array.getD_eq_getD_getElem?,Array.getElem?_replicate]
  split<;>simp
 ·have hz:∀k,Sof (Array.replicate ops.size false) k=false:=by intro k;simp only[Sof,Array.getD_eq_getD_getElem?,Array.getElem?_replicate];split<;>rfl
  rw[setS_none es 0 s0 (fun k _=>hz k),setHp_none es 0 h0 (fun k _=>hz k)]
  obtain⟨g,R⟩:=R
  exact⟨g,R.drew.free_mono (fun n hn=>hn.1)⟩
end
end Go.AM
namespace Go.AM
open Go Go.RowKit
theorem RelS.reslot {C:Cx}{F:Nat→Prop}{s:Slots}{h:Heap}{g:Ghost}{a:Act}{w:World}(R:RelS C F s h g a w) (t:Nat) (v:AV) (hr:RelAV w (zor (zone g h) C.X) g h v (a.tmps.getD t undef)):
  RelS C F (updS s (some t) v) h g a w:=by
 refine {R with slots:=fun t'=>?_}
 simp only[updS]
 split
 ·subst_vars;exact hr
 ·exact R.slots t'
theorem RelS.tok0 {C:Cx}{F:Nat→Prop}{s:Slots}{h:Heap}{g:Ghost}{a:Act}{w:World}(R:RelS C F s h g a w) {n:Nat}(hf:F n) (ag:Bool) {sz:Nat}(hsz:0<sz) (e:TypeId):
  RelS C (fun k=>F k∧k≠n) s (updO h (.loc n) (.tok 0 sz e)) (updG g (.loc n) (.slice none 0 0)) a w∧
   RelC w (zor (zone (updG g (.loc n) (.slice none 0 0)) (updO h (.loc n) (.tok 0 sz e))) C.X) (updG g (.loc n) (.slice none 0 0)) (updO h (.loc n) (.tok 0 sz e)) (.lst (.loc n) ag sz []) (.slice none 0 0):=
 R.owned (out:=[]) (zs:=[]) hf ⟨rfl,rfl,rfl,Nat.le_refl _,fun _ _ _=>rfl⟩ hsz (World.ownsRow_nil w _ e sz) (by simp) (by simp)
def tokSlot (t:Nat) (ag:Bool) (sz:Nat) (e:TypeId) (σ:St):St:=
 ⟨(t,.v (.c (.lst (.loc σ.next) ag sz [])))::σ.slots,setH σ.heap (.loc σ.next) (.tok 0 sz e),σ.next+32⟩
theorem weak_tokSlot {t:Nat}{ag:Bool}{sz:Nat}{e:TypeId}{σ:St}(hsz:Nat.blt 0 sz=true) (ht:getS σ.slots t= .v (.c (.nils ag sz))):Weak σ (tokSlot t ag sz e σ):=by
 rintro C a w ⟨g,R⟩
 have hv:=R.slots t
 rw[ht]at hv
 have hv:a.tmps.getD t undef= .slice none 0 0:=hv
 obtain⟨R',hl⟩:=R.tok0 (n:=σ.next) (Nat.le_refl _) ag (sz:=sz) (by simp[Nat.blt]at hsz;omega) e
 have R2:=(R'.reslot t (.v (.c (.lst (.loc σ.next) ag sz []))) (by rw[hv];exact hl)).free_mono (F':=fun n=>σ.next+32≤n) (fun n hn=>⟨by omega,by omega⟩)
 refine⟨updG g (.loc σ.next) (.slice none 0 0),?_⟩
 simp only[tokSlot,getS_cons,getH_setH]
 exact R2
def setNth {α:Type}:List α→Nat→α→List α
 | [],_,_=>[]
 | x::r,n,y=>match n with
  | 0=>y::r
  | m+1=>x::setNth r m y
theorem setNth_eq {α:Type}:∀(l:List α) (n:Nat) (y:α),setNth l n y=l.set n y
 | [],_,_=>rfl
 | _::_,0,_=>rfl
 | x::r,n+1,y=>by simp[setNth,setNth_eq r n y]
def tokCell (i:Id) (j:Nat) (ag:Bool) (sz:Nat) (e:TypeId) (σ:St):St:=
 match getH σ.heap i with
 | some (.cells cs)=>⟨σ.slots,setH (setH σ.heap (.loc σ.next) (.tok 0 sz e)) i (.cells (setNth cs j (.lst (.loc σ.next) ag sz []))),σ.next+32⟩
 | _=>σ
theorem weak_tokCell {i:Id}{j:Nat}{ag:Bool}{sz:Nat}{e:TypeId}{σ:St}{cs:List CV}(hsz:Nat.blt 0 sz=true) (hi:getH σ.heap i=some (.cells cs)) (hj:cs[j]?=some (.nils ag sz)):Weak σ (tokCell i j ag sz e σ):=by
 rintro C a w ⟨g,R⟩
 obtain⟨R',hl⟩:=R.tok0 (n:=σ.next) (Nat.le_refl _) ag (sz:=sz) (by simp[Nat.blt]at hsz;omega) e
 have hne:i≠ .loc σ.next:=by
  rintro rfl
  have:=(R.free σ.next (Nat.le_refl _)).2
  rw[this]at hi;cases hi
 have hi':updO (getH σ.heap) (.loc σ.next) (.tok 0 sz e) i=some (.cells cs):=by simp[updO,hne,hi]
 obtain⟨b,c,et,hb,hh,hsz2,hr⟩:=R'.heap.objs i _ hi'
 have R2:=R'.store (cs':=cs.set j (.lst (.loc σ.next) ag sz [])) hi' hb hh (c':=c) (by simp[hsz2]) (fun k x u hx hu=>by
  by_cases hk:k=j
  ·subst hk
   have hlt:k<cs.length:=(List.getElem?_eq_some_iff.1 hj).1
   rw[List.getElem?_set_self hlt]at hx
   cases hx
   have:=hr k _ u hj hu
   rw[show u=_ from this]
   exact hl
  ·rw[List.getElem?_set_ne (by omega)]at hx
   exact hr k x u hx hu)
 have hw:w.setRow b c=w:=setRow_self w b c _ _ hh
 rw[hw]at R2
 have R3:=R2.free_mono (F':=fun n=>σ.next+32≤n) (fun n hn=>⟨by omega,by omega⟩)
 refine⟨updG g (.loc σ.next) (.slice none 0 0),?_⟩
 simp only[tokCell,hi,getH_setH,setNth_eq]
 exact R3
inductive TokReq where
 | slot (t:Nat) (ag:Bool) (sz:Nat) (e:TypeId)
 | cell (i:Id) (j:Nat) (ag:Bool) (sz:Nat) (e:TypeId)
def isNils (ag:Bool) (sz:Nat):CV→Bool
 | .nils a s=>(a==ag)&&Nat.beq s sz
 | _=>false
def isNilsA (ag:Bool) (sz:Nat):AV→Bool
 | .v (.c c)=>isNils ag sz c
 | _=>false
def nthC:List CV→Nat→CV
 | [],_=>.un
 | x::r,n=>match n with
  | 0=>x
  | m+1=>nthC r m
def tokAll (K:St→Prop):List TokReq→St→Prop
 | [],σ=>K σ
 | .slot t ag sz e::r,σ=>req (Nat.blt 0 sz)<| req (isNilsA ag sz (getS σ.slots t))<| tokAll K r (tokSlot t ag sz e σ)
 | .cell i j ag sz e::r,σ=>req (Nat.blt 0 sz)<| (match getH σ.heap i with
  | some (.cells cs)=>req (isNils ag sz (nthC cs j))<| tokAll K r (tokCell i j ag sz e σ)
  | _=>False)
theorem isNils_eq {ag:Bool}{sz:Nat}{c:CV}(h:isNils ag sz c=true):c= .nils ag sz:=by
 cases c<;>simp[isNils]at h
 obtain⟨rfl,h⟩:=h
 rw[h]
theorem nthC_get:∀{cs:List CV}{j:Nat}{ag:Bool}{sz:Nat},isNils ag sz (nthC cs j)=true→cs[j]?=some (.nils ag sz)
 | [],j,ag,sz,h=>by simp[nthC,isNils]at h
 | x::r,0,ag,sz,h=>by simpa using isNils_eq (by simpa [nthC] using h)
 | x::r,j+1,ag,sz,h=>by simpa using nthC_get (cs:=r) (j:=j) (by simpa [nthC] using h)
theorem tokAll_weak {K:St→Prop}:∀{l:List TokReq}{σ:St},tokAll K l σ→∃σ',(∀C a w,RelSt C σ a w→RelSt C σ' a w)∧K σ'
 | [],σ,h=>⟨σ,fun _ _ _ r=>r,h⟩
 | .slot t ag sz e::r,σ,h=>by
  obtain⟨h1,h⟩:=req_iff.1 h
  obtain⟨h2,h⟩:=req_iff.1 h
  obtain⟨σ',h3,h4⟩:=tokAll_weak h
  have ht:getS σ.slots t= .v (.c (.nils ag sz)):=by
   revert h2
   cases getS σ.slots t with
   | v x=>cases x with
    | c c=>intro h2;rw[isNils_eq h2]
    | _=>intro h2;simp[isNilsA]at h2
   | _=>intro h2;simp[isNilsA]at h2
  exact⟨σ',fun C a w r=>h3 C a w (weak_tokSlot h1 ht C a w r),h4⟩
 | .cell i j ag sz e::r,σ,h=>by
  obtain⟨h1,h⟩:=req_iff.1 h
  split at h
  ·rename_i cs hi
   obtain⟨h2,h⟩:=req_iff.1 h
   obtain⟨σ',h3,h4⟩:=tokAll_weak h
   exact⟨σ',fun C a w r=>h3 C a w (weak_tokCell h1 hi (nthC_get h2) C a w r),h4⟩
  ·exact h.elim
theorem Weak.trans {a b c:St}(h1:Weak a b) (h2:Weak b c):Weak a c:=fun C x w r=>h2 C x w (h1 C x w r)
theorem Weak.refl (a:St):Weak a a:=fun _ _ _ r=>r
end Go.AM
namespace Go.AM
open Go Go.RowKit
def slSub (c:CV) (j:Id) (n:Nat):CV:=
 match c with
 | .d (.list ag sz rows)=>match Nat.beq rows.length n with
  | true=>.d (.list ag sz rows)
  | false=>.sl j n
 | _=>.sl j n
def CV.sub (x:CV) (i:Id) (c:CV):CV:=
 match x with
 | .ow j=>match Id.beq j i with
  | true=>c
  | false=>.ow j
 | .sl j n=>match Id.beq j i with
  | true=>slSub c j n
  | false=>.sl j n
 | x=>x
def isM (i:Id) (c:CV):CV→Prop
 | .ow j=>j=i
 | .sl j n=>j=i∧∃ag sz rows,c= .d (.list ag sz rows)∧rows.length=n
 | _=>False
def subs (i:Id) (c:CV):List CV→List CV
 | []=>[]
 | x::r=>x.sub i c::subs i c r
def V1.sub (i:Id) (c:CV) (x:V1):V1:=
 match x with
 | .d x=>.d x
 | .c x=>match x.sub i c with
  | .d y=>.d y
  | y=>.c y
 | .agg cs=>.agg (subs i c cs)
def subV (i:Id) (c:CV):List V1→List V1
 | []=>[]
 | x::r=>x.sub i c::subV i c r
def AV.sub (i:Id) (c:CV) (x:AV):AV:=
 match x with
 | .u=>.u
 | .v x=>.v (x.sub i c)
 | .t xs=>.t (subV i c xs)
def AObj.sub (i:Id) (c:CV) (o:AObj):AObj:=
 match o with
 | .cells cs=>.cells (subs i c cs)
 | o=>o
theorem subs_eq {i:Id}{c:CV}:∀{l:List CV},subs i c l=l.map (fun x=>x.sub i c)
 | []=>rfl
 | x::l=>by simp[subs,subs_eq (l:=l)]
theorem subV_eq {i:Id}{c:CV}:∀{l:List V1},subV i c l=l.map (V1.sub i c)
 | []=>rfl
 | x::l=>by simp[subV,subV_eq (l:=l)]
section
variable {C:Cx}{F:Nat→Prop}{s:Slots}{h:Heap}{g:Ghost}{a:Act}{w:World}
theorem relC_sub {w':World}{Z Z':Zone}{g':Ghost}{h':Heap}{i:Id}{c:CV}(hE:∀{x:CV}{v:Value},RelC w Z g h x v→RelC w' Z' g' h' x v) (hc:∀x v,isM i c x→RelC w Z g h x v→RelC w' Z' g' h' c v) {x:CV}{v:Value}(r:RelC w Z g h x v):
  RelC w' Z' g' h' (x.sub i c) v:=by
 unfold CV.sub
 split
 ·rename_i j
  cases e:Id.beq j i with
  | true=>exact hc (.ow j) v (Id.beq_iff.1 e:j=i) r
  | false=>exact hE r
 ·rename_i j n
  cases e:Id.beq j i with
  | true=>
   show RelC w' Z' g' h' (slSub c j n) v
   unfold slSub
   split
   ·rename_i ag sz rows
    cases e2:Nat.beq rows.length n with
    | true=>exact hc (.sl j n) v ⟨Id.beq_iff.1 e,ag,sz,rows,rfl,Nat.eq_of_beq_eq_true e2⟩ r
    | false=>exact hE r
   ·exact hE r
  | false=>exact hE r
 ·exact hE r
theorem relV1_sub {w':World}{Z Z':Zone}{g':Ghost}{h':Heap}{i:Id}{c:CV}(hE:∀{x:CV}{v:Value},RelC w Z g h x v→RelC w' Z' g' h' x v) (hD:∀{x:D}{v:Value},RelD w Z x v→RelD w' Z' x v) (hc:∀x v,isM i c x→RelC w Z g h x v→RelC w' Z' g' h' c v) {x:V1}{v:Value}(r:RelV1 w Z g h x v):
  RelV1 w' Z' g' h' (x.sub i c) v:=by
 cases x with
 | d x=>exact hD r
 | c x=>
  have:=relC_sub hE hc (x:=x) r
  show RelV1 w' Z' g' h' (match x.sub i c with | .d y=>.d y | y=>.c y) v
  split
  ·rename_i y hy
   rw[hy]at this
   exact this.1
  ·exact this
 | agg cs=>
  obtain⟨vs,hv,hs,hr⟩:=r
  refine⟨vs,hv,by rw[subs_eq];simpa using hs,fun j y u hy hu=>?_⟩
  rw[subs_eq,List.getElem?_map,Option.map_eq_some_iff]at hy
  obtain⟨x,hx,rfl⟩:=hy
  exact relC_sub hE hc (hr j x u hx hu)
theorem relAV_sub {w':World}{Z Z':Zone}{g':Ghost}{h':Heap}{i:Id}{c:CV}(hE:∀{x:CV}{v:Value},RelC w Z g h x v→RelC w' Z' g' h' x v) (hD:∀{x:D}{v:Value},RelD w Z x v→RelD w' Z' x v) (hc:∀x v,isM i c x→RelC w Z g h x v→RelC w' Z' g' h' c v) {x:AV}{v:Value}(r:RelAV w Z g h x v):
  RelAV w' Z' g' h' (x.sub i c) v:=by
 cases x with
 | u=>trivial
 | v x=>exact relV1_sub hE hD hc r
 | t xs=>
  obtain⟨vs,hv,hs,hr⟩:=r
  refine⟨vs,hv,by rw[subV_eq];simpa using hs,fun j y u hy hu=>?_⟩
  rw[subV_eq,List.getElem?_map,Option.map_eq_some_iff]at hy
  obtain⟨x,hx,rfl⟩:=hy
  exact relV1_sub hE hD hc (hr j x u hx hu)
def swapH (h:Heap) (i:Id) (c:CV) (nw:Option (Nat×AObj)):Heap:=fun j=>
 match nw with
 | some (n,o)=>if j= .loc n then some o else if j=i then some .gone else (h j).map (AObj.sub i c)
 | none=>if j=i then some .gone else (h j).map (AObj.sub i c)
def swapG (g:Ghost) (i:Id) (nw:Option (Nat×AObj)):Ghost:=
 match nw with
 | some (n,_)=>updG g (.loc n) (g i)
 | none=>g
theorem sub_zone {i:Id}{c:CV}{gv:Value}{o:AObj}{b p:Nat}:zone1 gv (o.sub i c) b p↔zone1 gv o b p:=by
 cases o<;>exact Iff.rfl
theorem sub_obk {i:Id}{c:CV}{gv:Value}{o:AObj}{b:Nat}:Obk gv (o.sub i c) b↔Obk gv o b:=by
 cases o<;>exact Iff.rfl
theorem sub_live {i:Id}{c:CV}{o:Option AObj}:isLive (o.map (AObj.sub i c))=isLive o:=by
 cases o with
 | none=>rfl
 | some o=>cases o<;>rfl
theorem RelS.swap (R:RelS C F s h g a w) {i:Id}{ob:AObj}(hi:h i=some ob) (hob:wholeO ob) {c:CV}{nw:Option (Nat×AObj)}(hnw:∀n o,nw=some (n,o)→F n∧o=ob) {F':Nat→Prop}(hF:∀k,F' k→F k∧∀n o,nw=some (n,o)→k≠n)
  (hc:(∀b o,zor (zone (swapG g i nw) (swapH h i c nw)) C.X b o→zor (zone g h) C.X b o)→(nw=none→∀b o,Blk (g i) b→¬zor (zone (swapG g i nw) (swapH h i c nw)) C.X b o)→
   ∀x v,isM i c x→RelC w (zor (zone g h) C.X) g h x v→RelC w (zor (zone (swapG g i nw) (swapH h i c nw)) C.X) (swapG g i nw) (swapH h i c nw) c v):
  RelS C F' (fun t=>(s t).sub i c) (swapH h i c nw) (swapG g i nw) a w:=by
 -- what lies where
 have hn:∀n o,nw=some (n,o)→g (.loc n)=undef∧h (.loc n)=none:=fun n o e=>R.free n (hnw n o e).1
 have gsm:∀j,(∀n o,nw=some (n,o)→j≠ .loc n)→swapG g i nw j=g j:=by
  intro j hj
  unfold swapG
  split
  ·rename_i n o
   simp[updG,hj n o rfl]
  ·rfl
 have gne:∀j,g j≠undef→swapG g i nw j=g j:=fun j hj=>gsm j fun n o e hjn=>hj (hjn▸(hn n o e).1)
 have cases_:∀j o,swapH h i c nw j=some o→(∃n,nw=some (n,o)∧j= .loc n∧o=ob∧swapG g i nw j=g i)∨(j=i∧o= .gone)∨(j≠i∧∃o0,h j=some o0∧o=o0.sub i c∧swapG g i nw j=g j):=by
  intro j o hj
  have other:(∀n o,nw=some (n,o)→j≠ .loc n)→(if j=i then some AObj.gone else (h j).map (AObj.sub i c))=some o→(j=i∧o= .gone)∨(j≠i∧∃o0,h j=some o0∧o=o0.sub i c∧swapG g i nw j=g j):=by
   intro hj' hj
   split at hj
   ·cases hj;exact .inl ⟨by assumption,rfl⟩
   ·rename_i hne
    obtain⟨o0,h1,h2⟩:=Option.map_eq_some_iff.1 hj
    exact .inr ⟨hne,o0,h1,h2.symm,gsm j hj'⟩
  unfold swapH at hj
  split at hj
  ·rename_i n o'
   split at hj
   ·rename_i hjn
    cases hj
    subst hjn
    exact .inl ⟨n,rfl,rfl,(hnw n _ rfl).2,by simp[swapG,updG]⟩
   ·rename_i hjn
    exact .inr (other (by rintro n' o'' e;cases e;exact hjn) hj)
  ·exact .inr (other (by rintro n' o'' e;cases e) hj)
 have hz1:∀j o b p,swapH h i c nw j=some o→zone1 (swapG g i nw j) o b p→∃j' o',h j'=some o'∧zone1 (g j') o' b p∧(j'=j∨j'=i):=by
  intro j o b p hj hb
  rcases cases_ j o hj with⟨n,_,_,rfl,hg⟩ | ⟨rfl,rfl⟩ | ⟨_,o0,h1,rfl,hg⟩
  ·rw[hg]at hb
   exact⟨i,_,hi,hb,.inr rfl⟩
  ·exact hb.elim
  ·rw[hg]at hb
   exact⟨j,o0,h1,sub_zone.1 hb,.inl rfl⟩
 have hz:∀b o,zor (zone (swapG g i nw) (swapH h i c nw)) C.X b o→zor (zone g h) C.X b o:=by
  rintro b p (⟨j,o,hj,hb⟩ | hx)
  ·obtain⟨j',o',h1,h2,_⟩:=hz1 j o b p hj hb
   exact .inl ⟨j',o',h1,h2⟩
  ·exact .inr hx
 have hgone:nw=none→∀b o,Blk (g i) b→¬zor (zone (swapG g i nw) (swapH h i c nw)) C.X b o:=by
  rintro e b p hb (⟨j,o,hj,h1⟩ | hx)
  ·rcases cases_ j o hj with⟨n,e',_⟩ | ⟨rfl,rfl⟩ | ⟨hne,o0,h2,rfl,hg⟩
   ·rw[e]at e';cases e'
   ·exact h1.elim
   ·rw[hg]at h1
    exact hne (R.heap.sep j i o0 ob b h2 hi (sub_zone.1 h1).obk (hob.obk hb))
  ·exact R.heap.apart i _ b p hi (hob.obk hb) hx
 have E:Evo w (zor (zone g h) C.X) g h w (zor (zone (swapG g i nw) (swapH h i c nw)) C.X) (swapG g i nw) (swapH h i c nw):=by
  refine⟨fun b o u hu hx=>⟨hu,fun hy=>hx (hz b o hy)⟩,fun j b hb=>gne j (by rw[hb];simp[undef]),fun j q hq=>gne j (by rw[hq];simp[undef]),fun j hj=>?_,fun j k sz e hj hk=>?_,fun j hj=>?_,fun j hj hl=>?_⟩
  ·rw[gne j (fun e=>by rw[e]at hj;exact hj)];exact hj
  ·have e1:=gne j (fun e=>by rw[e]at hj;exact hj)
   rcases cases_ j _ hk with⟨n,e',rfl,_,_⟩ | ⟨_,h2⟩ | ⟨_,o0,h2,h3,_⟩
   ·rw[(hn n _ e').1]at hj;exact hj.elim
   ·cases h2
   ·cases o0<;>simp[AObj.sub]at h3
    obtain⟨rfl,rfl,rfl⟩:=h3
    exact⟨_,Nat.le_refl _,h2,fun _=>e1⟩
  ·rw[gne j (fun e=>isTu_undef (e▸hj))];exact hj
  ·refine⟨?_,by rw[gne j (fun e=>isTu_undef (e▸hj))]⟩
   cases ho:swapH h i c nw j with
   | none=>rw[ho]at hl;cases hl
   | some o=>
    rw[ho]at hl
    rcases cases_ j o ho with⟨n,e',rfl,_,_⟩ | ⟨_,rfl⟩ | ⟨_,o0,h2,rfl,_⟩
    ·rw[(hn n _ e').1]at hj;exact (isTu_undef hj).elim
    ·cases hl
    ·rw[h2,←sub_live (i:=i) (c:=c)];exact hl
 have hcc:=hc hz hgone
 have objs:∀j o,swapH h i c nw j=some o→RelObj w (zor (zone (swapG g i nw) (swapH h i c nw)) C.X) (swapG g i nw) (swapH h i c nw) o (swapG g i nw j):=by
  intro j o hj
  rcases cases_ j o hj with⟨n,_,_,rfl,hg⟩ | ⟨rfl,rfl⟩ | ⟨_,o0,h1,rfl,hg⟩
  ·rw[hg]
   exact (R.heap.objs i _ hi).evo E fun _ _=>rfl
  ·trivial
  ·rw[hg]
   cases o0 with
   | cells cs=>
    obtain⟨b,cc,e,h2,h3,h4,h5⟩:=R.heap.objs j _ h1
    refine⟨b,cc,e,h2,h3,by rw[subs_eq];simpa using h4,fun q x u hx hu=>?_⟩
    rw[subs_eq,List.getElem?_map,Option.map_eq_some_iff]at hx
    obtain⟨y,hy,rfl⟩:=hx
    exact relC_sub E.relC hcc (h5 q y u hy hu)
   | _=>exact (R.heap.objs j _ h1).evo E fun _ _=>rfl
 have hsep:∀j j' oi oj b,swapH h i c nw j=some oi→swapH h i c nw j'=some oj→Obk (swapG g i nw j) oi b→Obk (swapG g i nw j') oj b→j=j':=by
  intro j j' oi oj b h1 h2 h3 h4
  rcases cases_ j oi h1 with⟨n,e,rfl,rfl,hg⟩ | ⟨rfl,rfl⟩ | ⟨hne,o0,h5,rfl,hg⟩
  ·rcases cases_ j' oj h2 with⟨n',e',rfl,_,_⟩ | ⟨rfl,rfl⟩ | ⟨hne',o0',h5',rfl,hg'⟩
   ·rw[e]at e';cases e';rfl
   ·exact h4.elim
   ·rw[hg]at h3
    rw[hg']at h4
    exact absurd (R.heap.sep i j' _ _ b hi h5' h3 (sub_obk.1 h4)).symm hne'
  ·exact h3.elim
  ·rw[hg]at h3
   rcases cases_ j' oj h2 with⟨n',e',rfl,rfl,hg'⟩ | ⟨rfl,rfl⟩ | ⟨hne',o0',h5',rfl,hg'⟩
   ·rw[hg']at h4
    exact absurd (R.heap.sep j i _ _ b h5 hi (sub_obk.1 h3) h4) hne
   ·exact h4.elim
   ·rw[hg']at h4
    exact R.heap.sep j j' _ _ b h5 h5' (sub_obk.1 h3) (sub_obk.1 h4)
 have RS:=R.step (F':=F') (fun _=>True) E ⟨rfl,rfl,rfl,Nat.le_refl _,fun _ _ _=>rfl,fun _ _ _ hu _=>hu⟩ (fun j hj=>absurd trivial hj) (fun _ _ _ hj=>absurd trivial hj) (fun j o _ hj=>objs j o hj)
  (fun j o b p _ hj hb=>let ⟨j',o',h1,h2,_⟩:=hz1 j o b p hj hb;.inl ⟨j',o',trivial,h1,h2⟩) (fun j j' oi oj b _ _ h1 h2 h3 h4=>hsep j j' oi oj b h1 h2 h3 h4) (fun j _=>by rw[gsm (.ext j) (by rintro n o _ e;cases e)];exact .refl _)
  (fun k hk=>by
   obtain⟨h1,h2⟩:=hF k hk
   obtain⟨h3,h4⟩:=R.free k h1
   have hne:∀n o,nw=some (n,o)→Id.loc k≠ .loc n:=fun n o e h=>h2 n o e (by cases h;rfl)
   refine⟨(gsm _ hne).trans h3,?_⟩
   cases ho:swapH h i c nw (.loc k)with
   | none=>rfl
   | some o=>
    rcases cases_ _ o ho with⟨n,e,e',_⟩ | ⟨e,_⟩ | ⟨_,o0,h5,_⟩
    ·exact absurd e' (hne n _ e)
    ·rw[←e,h4]at hi;cases hi
    ·rw[h4]at h5;cases h5)
 exact {RS with slots:=fun t=>relAV_sub E.relC E.relD hcc (R.slots t)}
def subSl (i:Id) (c:CV):List (Nat×AV)→List (Nat×AV)
 | []=>[]
 | (t,v)::r=>(t,v.sub i c)::subSl i c r
def subHp (i:Id) (c:CV):List (Id×AObj)→List (Id×AObj)
 | []=>[]
 | (j,o)::r=>(j,o.sub i c)::subHp i c r
theorem getS_subSl {i:Id}{c:CV}:∀{l:List (Nat×AV)}{t:Nat},getS (subSl i c l) t=(getS l t).sub i c
 | [],t=>rfl
 | (k,v)::r,t=>by
  show (match Nat.beq k t with | true=>v.sub i c | false=>getS (subSl i c r) t)=(match Nat.beq k t with | true=>v | false=>getS r t).sub i c
  cases Nat.beq k t with
  | true=>rfl
  | false=>exact getS_subSl
theorem getH_subHp {i:Id}{c:CV}:∀{l:List (Id×AObj)}{j:Id},getH (subHp i c l) j=(getH l j).map (AObj.sub i c)
 | [],j=>rfl
 | (k,v)::r,j=>by
  show (match Id.beq k j with | true=>some (v.sub i c) | false=>getH (subHp i c r) j)=(match Id.beq k j with | true=>some v | false=>getH r j).map (AObj.sub i c)
  cases Id.beq k j with
  | true=>rfl
  | false=>exact getH_subHp
def fzSt (i:Id) (x:D) (σ:St):St:=⟨subSl i (.d x) σ.slots,setH (subHp i (.d x) σ.heap) i .gone,σ.next⟩
theorem weak_swap {σ:St}{i:Id}{x:D}{ob:AObj}(hi:getH σ.heap i=some ob) (hob:wholeO ob)
  (hr:∀{C:Cx} {g:Ghost} {w:World},RelH w C.X g (getH σ.heap)→(∀b o,zor (zone g (swapH (getH σ.heap) i (.d x) none)) C.X b o→zor (zone g (getH σ.heap)) C.X b o)→(∀b o,Blk (g i) b→¬zor (zone g (swapH (getH σ.heap) i (.d x) none)) C.X b o)→
   ∀y v,isM i (.d x) y→RelC w (zor (zone g (getH σ.heap)) C.X) g (getH σ.heap) y v→RelD w (zor (zone g (swapH (getH σ.heap) i (.d x) none)) C.X) x v∧x.isAgg=false):Weak σ (fzSt i x σ):=by
 rintro C a w ⟨g,R⟩
 have R2:=R.swap (F':=fun n=>σ.next≤n) hi hob (c:=.d x) (nw:=none) (fun _ _ e=>by cases e) (fun k hk=>⟨hk,fun _ _ e=>by cases e⟩) (fun hz hg y v hm r=>hr R.heap hz (hg rfl) y v hm r)
 refine⟨g,?_⟩
 have e1:getS (fzSt i x σ).slots=fun t=>(getS σ.slots t).sub i (.d x):=by funext t;exact getS_subSl
 have e2:getH (fzSt i x σ).heap=swapH (getH σ.heap) i (.d x) none:=by
  funext j
  show getH (setH (subHp i (.d x) σ.heap) i .gone) j=_
  rw[getH_setH]
  simp only[updO,swapH,getH_subHp]
 show RelS C (fun n=>σ.next≤n) (getS (fzSt i x σ).slots) (getH (fzSt i x σ).heap) g a w
 rw[e1,e2]
 exact R2
theorem weak_freeze {σ:St}{i:Id}{kd:Kd}{ag:Bool}{sz:Nat}{rows:List D}(hi:getH σ.heap i=some (.tree kd ag sz rows none)) (hk:kd= .row∨kd= .flat):Weak σ (fzSt i (.list ag sz rows) σ):=by
 refine weak_swap hi trivial fun RH hz hg y v hm r=>⟨?_,rfl⟩
 rename_i C g w
 have ho:=RH.objs i _ hi
 have hv:v=gval (g i):=by
  cases y<;>first | exact (hm:False).elim | skip
  ·rename_i j n
   obtain⟨rfl,_⟩:=hm
   obtain⟨⟨b,hb⟩,_⟩:=r
   obtain⟨vs,_,h1,_⟩:=ho.1
   rw[hb]at h1;cases h1
  ·rename_i j
   obtain rfl:j=i:=hm
   exact r.2.2 (by rw[hi];rfl)
 rw[hv]
 obtain⟨ht,h0,hf,xs,hx,_,U,T,h1,h2,h3,h4,h5⟩:=ho
 rcases hk with rfl | rfl
 ·exact ((tree_iff (show conD .row ag sz rows=some (.list ag sz rows)from rfl)).1 (RH.objs i _ hi)).2.toD hg
 ·obtain⟨e,hl,hx⟩:=hx
  rcases hx with⟨hv,hn⟩ | ⟨q,cap,cur,hv,_,hh,hnc,hcm,hcs,htake⟩
  ·have:rows=[]:=List.eq_nil_of_length_eq_zero hn
   subst this
   rw[hv]
   exact .list ag sz [] none 0 0 0 (fun _ _=>undef) (Nat.le_refl _) (Nat.zero_le _) (by simp) (by simp) (by simp) (by simp)
  ·rw[hv]
   refine .list ag sz rows _ cap q 0 U hnc hcm hf (fun _=>rfl) (fun k r j c hr hc=>?_) (fun k r j c hr hc=>?_)
   ·obtain⟨p1,_⟩:=h1 k r j c (fun _ _ h=>by cases h) hr hc
    refine⟨?_,fun hz'=>hg q _ ((h5 q).2 (.inl (by rw[hv];rfl))) hz'⟩
    rw[←htake,List.getElem?_take]at p1
    split at p1
    ·rw[Nat.zero_add]
     simpa [World.cell?,hh] using p1
    ·cases p1
   ·obtain⟨_,p2⟩:=h1 k r j c (fun _ _ h=>by cases h) hr hc
    exact (((RelK.fz rfl).1 p2).1.1).mono fun b o u hu hn=>⟨hu,fun hz'=>hn (hz b o hz')⟩
end
end Go.AM
namespace Go.AM
open Go Go.RowKit
theorem RelS.flatten {C:Cx}{F:Nat→Prop}{s:Slots}{h:Heap}{g:Ghost}{a:Act}{w:World}(R:RelS C F s h g a w) {i:Id}{ag:Bool}{sz:Nat}{rows:List D}(hi:h i=some (.tree .row ag sz rows none)):
  ∃g',RelS C F s (updO h i (.tree .flat ag sz rows none)) g' a w:=by
 obtain⟨ht,h0,hf,xs,hx,_,U,T,h1,h2,h3,h4,h5⟩:=R.heap.objs i _ hi
 obtain⟨gv,gt,gg,gb⟩:=mkTu (gval (g i)) (blk (gval (g i))).toList (fun b=>blk (gval (g i))=some b) (fun b hb=>by simp[hb])
 have hsub:∀b,Blk gv b→Blk (g i) b:=fun b hb=>(h5 b).2 (.inl ((gb b).1 hb))
 have hX:∀b o,Blk (g i) b→¬Blk gv b→¬zor (zone (updG g i gv) (updO h i (.tree .flat ag sz rows none))) C.X b o:=by
  rintro b o hb hnb (⟨j,ob,hj,h6⟩ | hx)
  ·by_cases hji:j=i
   ·subst hji
    simp only[updO,if_pos,Option.some.injEq]at hj
    subst hj
    have h6:Blk (updG g j gv j) b:=h6
    simp only[updG,if_pos]at h6
    exact hnb h6
   ·simp only[updO,if_neg hji]at hj
    simp only[updG,if_neg hji]at h6
    exact hji (R.heap.sep j i ob _ b hj hi h6.obk hb)
  ·exact R.heap.apart i _ b o hi hb hx
 refine⟨updG g i gv,R.regroup (fun j=>j=i) (fun j hj=>by simp[updO,updG,hj]) ?_ ?_ ?_ ?_ ?_ ?_ ?_ ?_⟩
 ·rintro j rfl
  exact .inr (.inl ⟨ht,by simpa [updG] using gt,by simp[updG,gg]⟩)
 ·rintro j rfl _ _
  rw[hi];rfl
 ·rintro j ob rfl ho
  simp only[updO,if_pos,Option.some.injEq]at ho
  exact .inl ⟨_,_,_,_,_,ho.symm⟩
 ·rintro j o rfl ho EC ED
  simp only[updO,if_pos,Option.some.injEq]at ho
  subst ho
  have e1:updG g j gv j=gv:=by simp[updG]
  rw[e1]
  refine flat_to gt h0 hf (xs:=xs) (by rw[gg];exact hx) (fun k r q c hr hc=>?_) (fun b=>by rw[gb,gg])
  obtain⟨p1,p2⟩:=h1 k r q c (fun _ _ h=>by cases h) hr hc
  refine⟨_,p1,((RelK.own rfl).1 p2).toD fun b o hb=>hX b o ((h5 b).2 (.inr ⟨k,q,hb⟩)) fun hb'=>h3 k q b hb ((gb b).1 hb')⟩
 ·rintro j ob b rfl ho hb
  simp only[updO,if_pos,Option.some.injEq]at ho
  subst ho
  have hb:Blk (updG g j gv j) b:=hb
  simp only[updG,if_pos]at hb
  exact⟨j,_,rfl,hi,fun o=>hsub b hb⟩
 ·rintro j k _ _ _ rfl rfl _ _ _ _
  rfl
 ·rintro j rfl
  exact .inr ⟨ht,by simpa [updG] using gt,by simp[updG,gg]⟩
 ·intro n hn
  have:=R.free n hn
  have hne:Id.loc n≠i:=by rintro rfl;rw[this.2]at hi;cases hi
  exact⟨by simp[updG,hne,this.1],by simp[updO,hne,this.2]⟩
theorem weak_flatten {σ:St}{i:Id}{ag:Bool}{sz:Nat}{rows:List D}(hi:getH σ.heap i=some (.tree .row ag sz rows none)):Weak σ ⟨σ.slots,setH σ.heap i (.tree .flat ag sz rows none),σ.next⟩:=by
 rintro C a w ⟨g,R⟩
 obtain⟨g',R'⟩:=R.flatten hi
 refine⟨g',?_⟩
 rw[getH_setH]
 exact R'
theorem RelS.drop {C:Cx}{F:Nat→Prop}{s:Slots}{h:Heap}{g:Ghost}{a:Act}{w:World}(R:RelS C F s h g a w) {i:Id}{ob:AObj}(hi:h i=some ob):RelS C F s (updO h i .gone) g a w:=by
 refine R.regroup (fun j=>j=i) (fun j hj=>by simp[updO,hj]) ?_ ?_ ?_ ?_ ?_ ?_ ?_ ?_
 ·rintro j rfl
  exact .inl rfl
 ·rintro j rfl _ hl
  simp[updO,isLive]at hl
 ·rintro j ob' rfl ho
  simp[updO]at ho
  exact .inr ho.symm
 ·rintro j o rfl ho _ _
  simp[updO]at ho
  subst ho
  trivial
 ·rintro j ob' b rfl ho hb
  simp[updO]at ho
  subst ho
  exact hb.elim
 ·rintro j k _ _ _ rfl rfl _ _ _ _
  rfl
 ·intro j _
  exact .refl _
 ·intro n hn
  have:=R.free n hn
  have hne:Id.loc n≠i:=by rintro rfl;rw[this.2]at hi;cases hi
  exact⟨this.1,by simp[updO,hne,this.2]⟩
inductive Gh where
 | flatten (i:Id)
 | close (i:Id)
 | freeze (i:Id)
def isRF:Kd→Bool
 | .row=>true
 | .flat=>true
 | _=>false
def gh:List Gh→St→(St→Prop)→Prop
 | [],σ,K=>K σ
 | x::r,σ,K=>match x with
  | .close i=>closes (getH σ.heap) [i] fun _ _ wr=>gh r ⟨σ.slots,setW σ.heap wr,σ.next⟩ K
  | .freeze i=>(match getH σ.heap i with
   | some (.tree kd ag sz rows foc)=>(match foc with
    | none=>req (isRF kd)<| gh r (fzSt i (.list ag sz rows) σ) K
    | some _=>False)
   | _=>False)
  | .flatten i=>(match getH σ.heap i with
   | some (.tree kd ag sz rows foc)=>(match kd with
    | .row=>(match foc with
     | none=>gh r ⟨σ.slots,setH σ.heap i (.tree .flat ag sz rows none),σ.next⟩ K
     | some _=>False)
    | _=>False)
   | _=>False)
theorem gh_weak {K:St→Prop}:∀{l:List Gh}{σ:St},gh l σ K→∃σ',Weak σ σ'∧K σ'
 | [],σ,h=>⟨σ,Weak.refl σ,h⟩
 | .close i::r,σ,h=>by
  simp only[gh,closes]at h
  split at h
  ·rename_i kd ag sz rows k cs hi
   obtain⟨hnf,h⟩:=req_iff.1 h
   obtain⟨ds,iss,h,hdl,hol,hcl⟩:=closeC_ok h
   split at h
   ·rename_i hnd
    split at h
    ·rename_i hag
     obtain⟨rows',hrows,h⟩:=h
     obtain⟨σ',hw,hk⟩:=gh_weak h
     refine⟨σ',Weak.trans (fun C a w R=>?_) hw,hk⟩
     obtain⟨g,R⟩:=R
     obtain⟨g',R'⟩:=R.closeT hi (notFlat_iff.1 hnf) hdl hol (nodupB_iff.1 hnd) (fun e=>by rw[e]at hag;simpa using hag) hcl hrows
     refine⟨g',?_⟩
     simp only[getH_setW,List.append_nil]
     exact R'
    ·exact h.elim
   ·exact h.elim
  ·exact h.elim
 | .freeze i::r,σ,h=>by
  simp only[gh]at h
  split at h
  ·rename_i kd ag sz rows foc hi
   split at h
   ·obtain⟨h1,h⟩:=req_iff.1 h
    obtain⟨σ',h3,h4⟩:=gh_weak h
    exact⟨σ',Weak.trans (weak_freeze hi (by cases kd<;>simp[isRF]at h1 ⊢)) h3,h4⟩
   ·exact h.elim
  ·exact h.elim
 | .flatten i::r,σ,h=>by
  simp only[gh]at h
  split at h
  ·rename_i kd ag sz rows foc hi
   split at h
   ·split at h
    ·obtain⟨σ',h3,h4⟩:=gh_weak h
     exact⟨σ',Weak.trans (weak_flatten hi) h3,h4⟩
    ·exact h.elim
   ·exact h.elim
  ·exact h.elim
end Go.AM
namespace Go.AM
open Go Go.RowKit
def slotsOf:List V1→Nat→List (Nat×AV)
 | [],_=>[]
 | x::r,i=>(i,.v x)::slotsOf r (i+1)
def extsOf:List AObj→Nat→List (Id×AObj)
 | [],_=>[]
 | x::r,i=>(.ext i,x)::extsOf r (i+1)
theorem slotsOf_get:∀(l:List V1) (i t:Nat),getS (slotsOf l i) t= .u∨∃x,i≤t∧l[t - i]?=some x∧getS (slotsOf l i) t= .v x
 | [],i,t=>.inl rfl
 | x::r,i,t=>by
  show getS ((i,.v x)::slotsOf r (i+1)) t=_∨∃y,i≤t∧(x::r)[t - i]?=some y∧getS ((i,.v x)::slotsOf r (i+1)) t= .v y
  rw[getS_cons]
  simp only[]
  split
  ·subst t;exact .inr ⟨x,Nat.le_refl _,by simp,rfl⟩
  ·rcases slotsOf_get r (i+1) t with h | ⟨y,h1,h2,h3⟩
   ·exact .inl h
   ·refine .inr ⟨y,by omega,?_,h3⟩
    rw[show t - i=(t - (i+1))+1 from by omega]
    simpa using h2
theorem extsOf_get:∀(l:List AObj) (i:Nat) (x:Id) (o:AObj),getH (extsOf l i) x=some o→∃j,x= .ext j∧i≤j∧l[j - i]?=some o
 | [],i,x,o,h=>by simp[extsOf,getH]at h
 | y::r,i,x,o,h=>by
  rw[show extsOf (y::r) i=(.ext i,y)::extsOf r (i+1)from rfl,getH_cons]at h
  simp only[updO]at h
  split at h
  ·simp at h;subst h;subst x;exact⟨i,rfl,Nat.le_refl _,by simp⟩
  ·obtain⟨j,h1,h2,h3⟩:=extsOf_get r (i+1) x o h
   refine⟨j,h1,by omega,?_⟩
   rw[show j - i=(j - (i+1))+1 from by omega]
   simpa using h3
theorem extsOf_ext:∀(l:List AObj) (i j:Nat),getH (extsOf l i) (.ext (i+j))=l[j]?
 | [],i,j=>by simp[extsOf,getH]
 | y::r,i,j=>by
  rw[show extsOf (y::r) i=(.ext i,y)::extsOf r (i+1)from rfl,getH_cons]
  simp only[updO]
  cases j with
  | zero=>simp
  | succ j=>
   rw[if_neg (by simp),show i+(j+1)=i+1+j from by omega,extsOf_ext r (i+1) j]
   simp
def withRes (ti:Types) (σ:St):List ResultVar→(List V1→Prop)→Prop
 | [],K=>K []
 | .tmp t::r,K=>withV (getS σ.slots t) fun x=>withRes ti σ r fun xs=>K (x.norm::xs)
 | .cell a t::r,K=>outLoad ti t (getS σ.slots a) (getH σ.heap) fun out=>withV out.val fun x=>withRes ti σ r fun xs=>K (x.norm::xs)
def mkRes:List V1→AV
 | [x]=>.v x
 | xs=>.t xs
def renN (nm:List Id) (N:Nat):Id→Id
 | .ext j=>.ext j
 | .loc k=>match nm[k]? with
  | some n=>n
  | none=>.loc N
def isGone:AObj→Bool
 | .gone=>true
 | _=>false
theorem isGone_eq {o:AObj}(h:isGone o=true):o= .gone:=by cases o<;>first | rfl | simp[isGone]at h
def postOK (h:Heap) (r:Id→Id):List AObj→Nat→Prop
 | [],_=>True
 | o::l,j=>match isGone o with
  | true=>postOK h r l (j+1)
  | false=>h (.ext j)=some (o.ren r)∧postOK h r l (j+1)
def newOK (h:Heap) (r:Id→Id):List AObj→List Id→Prop
 | [],[]=>True
 | o::l,n::nm=>h n=some (o.ren r)∧newOK h r l nm
 | _,_=>False
def handOK (post:List AObj):List Id→Prop
 | []=>True
 | .loc _::l=>handOK post l
 | .ext j::l=>match post[j]? with
  | some o=>match isGone o with
   | true=>handOK post l
   | false=>False
  | none=>False
def Fin' (ti:Types) (rs:List ResultVar) (σ:St) (res:AV) (post new:List AObj):Prop:=
 ∃gs,gh gs σ fun σ=>withRes ti σ rs fun xs=>∃nm:List Id,nodupB nm=true∧mkRes xs=res.ren (renN nm σ.next)∧postOK (getH σ.heap) (renN nm σ.next) post 0∧newOK (getH σ.heap) (renN nm σ.next) new nm∧handOK post nm
theorem postOK_get {h:Heap}{r:Id→Id}:∀{l:List AObj}{i j:Nat}{o:AObj},postOK h r l i→l[j]?=some o→o= .gone∨h (.ext (i+j))=some (o.ren r)
 | o::l,i,0,_,hp,hj=>by
  simp at hj
  subst hj
  unfold postOK at hp
  split at hp
  ·rename_i hg;exact .inl (isGone_eq hg)
  ·exact .inr hp.1
 | o::l,i,j+1,_,hp,hj=>by
  simp at hj
  have hp':postOK h r l (i+1):=by
   unfold postOK at hp
   split at hp
   ·exact hp
   ·exact hp.2
  have:=postOK_get (j:=j) hp' hj
  rw[show i+(j+1)=i+1+j from by omega]
  exact this
theorem newOK_get {h:Heap}{r:Id→Id}:∀{l:List AObj}{nm:List Id}{j:Nat}{o:AObj},newOK h r l nm→l[j]?=some o→∃n,nm[j]?=some n∧h n=some (o.ren r)
 | o::l,n::nm,0,_,hp,hj=>by simp at hj;subst hj;exact⟨n,rfl,hp.1⟩
 | o::l,n::nm,j+1,_,hp,hj=>by
  simp at hj
  obtain⟨m,h1,h2⟩:=newOK_get (j:=j) hp.2 hj
  exact⟨m,by simpa using h1,h2⟩
 | [],[],j,_,_,hj=>by simp at hj
 | [],_::_,_,_,hp,_=>hp.elim
 | _::_,[],_,_,hp,_=>hp.elim
theorem newOK_len {h:Heap}{r:Id→Id}:∀{l:List AObj}{nm:List Id},newOK h r l nm→nm.length=l.length
 | o::l,n::nm,hp=>by simp[newOK_len hp.2]
 | [],[],_=>rfl
 | [],_::_,hp=>hp.elim
 | _::_,[],hp=>hp.elim
theorem handOK_get {post:List AObj}:∀{nm:List Id}{k j:Nat},handOK post nm→nm[k]?=some (.ext j)→post[j]?=some .gone
 | [],k,j,_,h=>by simp at h
 | n::nm,0,j,hp,h=>by
  simp at h
  subst h
  simp only[handOK]at hp
  split at hp
  ·rename_i o ho
   split at hp
   ·rename_i hg;rw[ho,isGone_eq hg]
   ·exact hp.elim
  ·exact hp.elim
 | n::nm,k+1,j,hp,h=>by
  simp at h
  refine handOK_get (k:=k) ?_ h
  cases n with
  | loc=>exact hp
  | ext i=>
   simp only[handOK]at hp
   split at hp
   ·split at hp
    ·exact hp
    ·exact hp.elim
   ·exact hp.elim
section
variable {C:Cx}{ti:Types}{σ:St}{g:Ghost}{a:Act}{w:World}{F:Nat→Prop}
theorem loadVal (hti:TIok C.P ti) (h1:TIone ti) (R:RelS C F (getS σ.slots) (getH σ.heap) g a w) {p:Tmp}{t:TypeId}{k:Out→Prop}
  (hk:outLoad ti t (getS σ.slots p) (getH σ.heap) k):∃out v ad,k out∧a.tmps.getD p undef= .pointer (some ad)∧(loadVar t ad).run C.P w= .ok v w∧RelAV w (zor (zone g (getH σ.heap)) C.X) g (getH σ.heap) out.val v:=by
 obtain⟨out,hko,_,H⟩:=load_core (C:=C) hti h1 t _ hk
 obtain⟨v,hv,hr⟩:=H F _ _ g a w _ R (R.slots p) (fun _ _=>rfl)
 refine⟨out,v,?_⟩
 revert hv
 generalize a.tmps.getD p undef=u
 intro hv
 cases u with
 | pointer ad=>
  cases ad with
  | none=>simp[Instr.loadAt,Instr.sureAddr]at hv
  | some ad=>exact⟨ad,hko,rfl,by simpa [Instr.loadAt,Instr.sureAddr] using hv,hr⟩
 | _=>simp[Instr.loadAt,Instr.sureAddr]at hv
def oneRes (tmps:Array Value):ResultVar→Sem Value
 | .tmp t=>pure (tmps.getD t undef)
 | .cell a t=>do loadVar t (←asAddr (tmps.getD a undef))
theorem withRes_sound (hti:TIok C.P ti) (h1:TIone ti) (R:RelS C F (getS σ.slots) (getH σ.heap) g a w):∀(rs:List ResultVar) (K:List V1→Prop),withRes ti σ rs K→
  ∃xs vs,K xs∧(rs.mapM (oneRes a.tmps)).run C.P w= .ok vs w∧vs.length=xs.length∧∀(j:Nat) x v,xs[j]?=some x→vs[j]?=some v→RelV1 w (zor (zone g (getH σ.heap)) C.X) g (getH σ.heap) x v
 | [],K,hk=>⟨[],[],hk,rfl,rfl,by simp⟩
 | .tmp t::r,K,hk=>by
  obtain⟨y,hy,hk⟩:=withV_iff.1 hk
  obtain⟨xs,vs,h2,h3,h4,h5⟩:=withRes_sound hti h1 R r _ hk
  refine⟨y.norm::xs,a.tmps.getD t undef::vs,h2,by simp[List.mapM_cons,oneRes,h3],by simp[h4],fun j x v hx hv=>?_⟩
  match j with
  | 0=>
   simp only[List.getElem?_cons_zero,Option.some.injEq]at hx hv
   subst hx;subst hv
   have:=R.slots t
   rw[hy]at this
   exact RelV1.norm this
  | j+1=>simp at hx hv;exact h5 j x v hx hv
 | .cell p t::r,K,hk=>by
  obtain⟨out,v0,ad,hk,hp,hl,hr⟩:=loadVal hti h1 R hk
  obtain⟨y,hy,hk⟩:=withV_iff.1 hk
  obtain⟨xs,vs,h2,h3,h4,h5⟩:=withRes_sound hti h1 R r _ hk
  refine⟨y.norm::xs,v0::vs,h2,by simp only[List.mapM_cons,oneRes,hp,asAddr];simp[hl,h3],by simp[h4],fun j x v hx hv=>?_⟩
  match j with
  | 0=>
   simp only[List.getElem?_cons_zero,Option.some.injEq]at hx hv
   subst hx;subst hv
   rw[hy]at hr
   exact RelV1.norm hr
  | j+1=>simp at hx hv;exact h5 j x v hx hv
theorem results_run {fn:Func}{vs:List Value}(h:(fn.results.toList.mapM (oneRes a.tmps)).run C.P w= .ok vs w):
  (results fn a.tmps).run C.P w= .ok (if h:vs.toArray.size=1 then vs.toArray[0]else .tuple vs.toArray) w:=by
 have e:results fn a.tmps=(do let vs ←fn.results.mapM (oneRes a.tmps);pure (if h:vs.size=1 then vs[0]else .tuple vs)):=by
  unfold results
  congr 1
 rw[e,Array.mapM_eq_mapM_toList,Sem.run_bind,Sem.run_map,h]
 rfl
end
def Mach.of (P:Program) (I:Inv):Mach where
 I:=I
 P:=P
 split:=fun c A=>A c
 split_iff:=fun _ _=>Iff.rfl
 lock:=fun p=>p ()
 lock_iff:=fun _=>Iff.rfl
 eqI:=fun a b=>a==b
 eqI_eq:=fun _ _=>rfl
 ltI:=fun a b=>decide (a<b)
 ltI_eq:=fun _ _=>rfl
 leI:=fun a b=>decide (a≤b)
 leI_eq:=fun _ _=>rfl
 eqS:=fun a b=>a.toList==b.toList
 eqS_eq:=fun _ _=>rfl
 ltS:=fun a b=>Op.bytesLess a.toList b.toList
 ltS_eq:=fun _ _=>rfl
 lenI:=fun l=>l.length
 lenI_eq:=fun _=>rfl
 szI:=fun s=>s.size
 szI_eq:=fun _=>rfl
theorem finish {C:Cx}{σ:St}{g2:Ghost}{a:Act}{w':World}{X:Zone}{post new:List AObj}{nm:List Id}(R2:RelS C (fun n=>σ.next≤n) (getS σ.slots) (getH σ.heap) g2 a w') (hX:∀b o,X b o→C.X b o)
  (hnd:nm.Nodup) (hpost:postOK (getH σ.heap) (renN nm σ.next) post 0) (hnewo:newOK (getH σ.heap) (renN nm σ.next) new nm) (hhand:handOK post nm):
  RelH w' X (fun i=>g2 (renN nm σ.next i)) (heapOf2 post new)∧(∀i ob b o,heapOf2 post new i=some ob→zone1 (g2 (renN nm σ.next i)) ob b o→∃j ob',getH σ.heap j=some ob'∧zone1 (g2 j) ob' b o)∧
   (∀k,new.length≤k→g2 (renN nm σ.next (.loc k))=undef)∧
   ∀(x:AV) v,RelAV w' (zor (zone g2 (getH σ.heap)) C.X) g2 (getH σ.heap) (x.ren (renN nm σ.next)) v→RelAV w' (zor (zone (fun i=>g2 (renN nm σ.next i)) (heapOf2 post new)) X) (fun i=>g2 (renN nm σ.next i)) (heapOf2 post new) x v:=by
 have live:∀i o,heapOf2 post new i=some o→o= .gone∨getH σ.heap (renN nm σ.next i)=some (o.ren (renN nm σ.next)):=by
  intro i o hi
  cases i with
  | ext j=>have:=postOK_get hpost hi;rw[Nat.zero_add]at this;exact this
  | loc k=>
   obtain⟨n,hn,ho⟩:=newOK_get hnewo hi
   exact .inr (by simpa [renN,hn] using ho)
 have hz:∀b o,zor (zone (fun i=>g2 (renN nm σ.next i)) (heapOf2 post new)) X b o→zor (zone g2 (getH σ.heap)) C.X b o:=by
  rintro b o (⟨i,ob,hi,h1⟩ | hx)
  ·rcases live i ob hi with rfl | ho
   ·exact h1.elim
   ·exact .inl ⟨_,_,ho,zone1_ren.2 h1⟩
  ·exact .inr (hX b o hx)
 have ht:∀i n sz e,heapOf2 post new i=some (.tok n sz e)→getH σ.heap (renN nm σ.next i)=some (.tok n sz e):=fun i n sz e hi=>(live i _ hi).resolve_left (by simp)
 have hw:∀i,isLive (heapOf2 post new i)=true→isLive (getH σ.heap (renN nm σ.next i))=true:=by
  intro i hi
  cases ho:heapOf2 post new i with
  | none=>rw[ho]at hi;cases hi
  | some o=>
   rw[ho]at hi
   rcases live i o ho with rfl | h
   ·cases hi
   ·rw[h]
    exact isLive_ren.trans hi
 have hN:=R2.free σ.next (Nat.le_refl _)
 refine⟨⟨fun i o hi=>?_,fun i j oi oj b hi hj bi bj=>?_,fun i oi b o hi bi=>?_⟩,fun i ob b o hi hb=>?_,fun k hk=>?_,fun x v h=>RelAV.pull (r:=renN nm σ.next) (g:=g2) (h:=getH σ.heap) hz (fun _=>rfl) ht hw h⟩
 ·rcases live i o hi with rfl | ho
  ·trivial
  ·exact RelObj.pull (r:=renN nm σ.next) hz (fun _=>rfl) ht hw (R2.heap.objs _ _ ho)
 ·rcases live i oi hi with rfl | ho
  ·exact bi.elim
  rcases live j oj hj with rfl | ho'
  ·exact bj.elim
  have e:=R2.heap.sep _ _ _ _ b ho ho' (Obk_ren.2 bi) (Obk_ren.2 bj)
  cases i with
  | ext i=>
   cases j with
   | ext j=>simpa [renN] using e
   | loc k=>
    obtain⟨n,hn,_⟩:=newOK_get hnewo hj
    simp only[renN,hn]at e
    subst e
    have:=handOK_get hhand hn
    rw[show heapOf2 post new (.ext i)=post[i]? from rfl,this]at hi
    cases hi
    exact bi.elim
  | loc k=>
   obtain⟨n,hn,_⟩:=newOK_get hnewo hi
   cases j with
   | ext j=>
    simp only[renN,hn]at e
    subst e
    have:=handOK_get hhand hn
    rw[show heapOf2 post new (.ext j)=post[j]? from rfl,this]at hj
    cases hj
    exact bj.elim
   | loc k'=>
    obtain⟨n',hn',_⟩:=newOK_get hnewo hj
    simp only[renN,hn,hn']at e
    subst e
    rw[(List.getElem?_inj (List.getElem?_eq_some_iff.1 hn).1 hnd).1 (hn.trans hn'.symm)]
 ·rcases live i oi hi with rfl | ho
  ·exact bi.elim
  ·intro hx
   exact R2.heap.apart _ _ b o ho (Obk_ren.2 bi) (hX b o hx)
 ·rcases live i ob hi with rfl | ho
  ·exact hb.elim
  ·exact⟨_,_,ho,zone1_ren.2 hb⟩
 ·have:nm[k]?=none:=by simp[newOK_len hnewo];omega
  simp only[renN,this]
  exact hN.1
theorem leave_marks {P:Program}{fn:Func}{tmps:Array Value}{R:Ending→World→Prop}:∀(ds:List Nat) (w:World),ds.Nodup→(∀r∈ds,w.heap[r]?=some (.deferred (some [])))→
  LeavesIn Fence.wide 0 P fn tmps R [] .returning (ds.foldl (fun w r=>w.putObj r (.deferred none)) w)→LeavesInM Fence.wide 0 P fn tmps R (ds.map markOf) .returning w
 | [],w,_,_,h=>h
 | r::ds,w,hn,hd,h=>by
  refine⟨by simp,.inl ⟨r,_,rfl,run_takeDeferred (hd r (by simp)),?_⟩⟩
  refine leave_marks ds _ (List.nodup_cons.1 hn).2 (fun r' hr'=>?_) h
  exact (World.putObj_heap_other (by rintro rfl;exact (List.nodup_cons.1 hn).1 hr')).trans (hd r' (by simp[hr']))
theorem marks_apart:∀(ds:List Nat) (w:World),ApartW (fun b=>b∈ds) w (ds.foldl (fun w r=>w.putObj r (.deferred none)) w)
 | [],w=>⟨rfl,rfl,rfl,Nat.le_refl _,fun _ _ _=>rfl⟩
 | r::ds,w=>by
  have:=marks_apart ds (w.putObj r (.deferred none))
  refine⟨this.os,this.tape,this.output,by simpa using this.size,fun b hb hn=>?_⟩
  simp only[List.mem_cons,not_or]at hn
  exact (this.block b (by simpa using hb) hn.2).trans (World.putObj_heap_other hn.1)
theorem marks_size:∀(ds:List Nat) (w:World),(ds.foldl (fun w r=>w.putObj r (.deferred none)) w).heap.size=w.heap.size
 | [],_=>rfl
 | r::ds,w=>by
  have:=marks_size ds (w.putObj r (.deferred none))
  rw[World.putObj_size]at this
  exact this
theorem RelS.turned {C:Cx}{F:Nat→Prop}{s:Slots}{h:Heap}{g:Ghost}{a a':Act}{w w':World}(R:RelS C F s h g a w) {B:Nat→Prop}(A:ApartW B w w') (hs:w'.heap.size=w.heap.size) (hB:∀b o,B b→C.X b o) (hI:∀b,C.M.I.blocks b→¬B b) (ht:a'.tmps=a.tmps) (ro:Option Nat)
  (hro:∀l,ro=some l→(∃L,w'.heap[l]?=some (.loop L))∧∀o,C.X l o) (hd:a'.defers=[]):
  ∃C2:Cx,C2.M=C.M∧C2.nt=C.nt∧C2.X=C.X∧C2.ro=ro∧C2.w0=w'∧C2.Z0=zone g h∧C2.g0=g∧C2.D=[]∧RelS C2 F s h g a' w':=by
 have hX:∀b o,C.X b o→b<w.heap.size:=fun b o hx=>Nat.lt_of_lt_of_le (R.xs b o hx) R.frame.size
 have noz:∀b,(∀o,C.X b o)→∀o,¬zone g h b o:=by
  rintro b hx o ⟨i,ob,hi,hz⟩
  exact R.heap.apart i ob b o hi hz.obk (hx o)
 have hinv:C.M.I.at w' (zor (zone g h) C.X):=by
  obtain⟨i1,i2⟩:=R.inv
  refine⟨C.M.I.same (fun b hb=>A.block b (i2 b hb).1 (hI b hb)) i1,fun b hb=>⟨by rw[hs];exact (i2 b hb).1,(i2 b hb).2⟩⟩
 refine⟨{M:=C.M,nt:=C.nt,w0:=w',Z0:=zone g h,X:=C.X,g0:=g,hinv:=hinv,ro:=ro,D:=[],hro:=fun l hl=>⟨(hro l hl).1,noz l (hro l hl).2⟩,hD:=by simp,hDn:=List.nodup_nil},rfl,rfl,rfl,rfl,rfl,rfl,rfl,rfl,?_⟩
 refine R.restart A rfl rfl (fun i o hi=>.inl hi) (fun b o hb=>.inr (hB b o hb)) ?_ (fun b o hx=>.inl (.inr hx)) (fun b o hx=>by rw[hs];exact hX b o hx) (fun i ob b o hi hb hx=>R.heap.apart i ob b o hi hb hx) rfl (fun b o hz=>hz) (fun j=>.refl _) ht hd (fun n hn=>(R.free n hn).2)
 intro i ob b hi hb hBb
 exact R.heap.apart i ob b 0 hi hb (hB b 0 hBb)
theorem relS_start {C:Cx}{P:Program}{sl:List (Nat×AV)}{pre:List AObj}{g:Ghost}{a:Act}{w:World}(hsz:a.tmps.size=C.nt) (hd:a.defers=C.D.map markOf) (hsl:∀t,RelAV w (zor (zone g (heapOf pre)) C.X) g (heapOf pre) (getS sl t) (a.tmps.getD t undef))
  (RH:RelH w C.X g (heapOf pre)) (hw0:C.w0=w) (hg0:C.g0=g) (hZ:∀b o,zone g (heapOf pre) b o→C.Z0 b o) (hX:∀b o,C.X b o→b<w.heap.size) (hg:∀n,g (.loc n)=undef):RelSt C ⟨sl,extsOf pre 0,0⟩ a w:=by
 have hh:getH (extsOf pre 0)=heapOf pre:=by
  funext i
  cases i with
  | ext j=>have:=extsOf_ext pre 0 j;rw[Nat.zero_add]at this;exact this
  | loc n=>
   cases hc:getH (extsOf pre 0) (.loc n)with
   | none=>rfl
   | some o=>obtain⟨j,e,_⟩:=extsOf_get pre 0 _ o hc;simp at e
 refine⟨g,?_⟩
 rw[hh]
 exact⟨hsz,hd,hsl,RH,by rw[hw0];exact Frame'.refl _ _,fun j=>by rw[hg0];exact .refl _,fun j ob b o hj hz=>.inl (hZ b o ⟨_,_,hj,hz⟩),by rw[hw0];exact hX,fun n _=>⟨hg n,rfl⟩⟩
theorem TripK.intro {P:Program}{I:Inv}{ti:Types}(dr:Mach→Nat→Draw) (hti:TIok P ti) (h1:TIone ti) (hdr:∀C:Cx,C.P=P→DrawOK C (dr C.M C.nt)) {f:FuncId}{fn:Func}{c:Code}(hf:P.funcs[f]?=some fn) (hb:fn.body=some c)
  (hname:(fn.name== "runtime.NumGoroutine")=false) {args:List V1} {pre:List AObj} {Q:AV→List AObj→List AObj→Prop} (hargs:args.length≤fn.ntmps)
  (hx:∀M:Mach,M.P=P→M.I=I→exec M ti fn.ntmps (dr M fn.ntmps) c ⟨slotsOf args 0,extsOf pre 0,0⟩ fun e σ=>match e with
   | .exit _=>False
   | .normal=>∃res post new,Q res post new∧Fin' ti fn.results.toList σ res post new
   | .ret=>∃res post new,Q res post new∧Fin' ti fn.results.toList σ res post new):TripK P I f args pre Q:=by
 refine⟨⟨fn,c,hf,hb,hname⟩,?_⟩
 intro w X g vals hX hI RH hg hsz hargs'
 let C:Cx:={M:=Mach.of P I,nt:=fn.ntmps,w0:=w,Z0:=zone g (heapOf pre),X:=X,g0:=g,hinv:=hI,ro:=none,D:=[],hro:=fun l hl=>(by cases hl),hD:=fun r hr=>(by cases hr),hDn:=List.nodup_nil}
 have R0:RelSt C ⟨slotsOf args 0,extsOf pre 0,0⟩ {tmps:=vals++Array.replicate (fn.ntmps - vals.size) undef,defers:=[]} w:=by
  refine relS_start (P:=P) (by simp[C];omega) rfl (fun t=>?_) RH rfl rfl (fun _ _ h=>h) hX hg
  rcases slotsOf_get args 0 t with h | ⟨x,_,h2,h3⟩
  ·rw[h];trivial
  ·rw[h3]
   simp only[Nat.sub_zero]at h2
   have hlt:t<vals.size:=by rw[hsz];exact (List.getElem?_eq_some_iff.1 h2).1
   have:(vals++Array.replicate (fn.ntmps - vals.size) undef).getD t undef=vals[t]:=by
    simp[Array.getElem?_append,hlt]
   show RelV1 w _ g _ x ((vals++Array.replicate (fn.ntmps - vals.size) undef).getD t undef)
   rw[this]
   exact hargs' t x _ h2 (by simp[hlt])
 refine callsIn_wide.1 (callsIn_of_wp_marks (n:=0) hf hb trivial (wpIn_mono (exec_sound (M:=Mach.of P I) (ro:=none) hti h1 (fun C hC hn=>by
  have:=hdr C (by show C.M.P=P;rw[hC];rfl)
  rw[hC,hn]at this
  exact this) c _ _ C _ w rfl rfl rfl (hx (Mach.of P I) rfl rfl) R0) ?_))
 have fin:∀(C':Cx) (σ:St) (a':Act) (w':World),CxLe C C'→(∃res post new,Q res post new∧Fin' ti fn.results.toList σ res post new)→RelSt C' σ a' w'→
   LeavesInM Fence.wide 0 P fn a'.tmps (fun e w'=>∃v g' res post new,Q res post new∧e= .returned v∧CallPost w X g pre res post new v w' g') a'.defers .returning w':=by
  rintro C' σ0 a' w' hle ⟨res,post,new,hQ,gs,hfin⟩ R0
  obtain⟨σ,hweak,hfin⟩:=gh_weak hfin
  obtain⟨g1,R1⟩:=hweak _ _ _ R0
  rw[R1.defers]
  obtain⟨ds,hds,hds2⟩:=hle.marks
  have hds:C'.D=ds:=by rw[hds];exact List.append_nil ds
  refine leave_marks _ _ C'.hDn (fun r hr=>(R1.kept (C'.hD r hr).1 (C'.hD r hr).2).1) ?_
  have A:=marks_apart C'.D w'
  generalize hw2:C'.D.foldl (fun w r=>w.putObj r (.deferred none)) w'=w2 at A ⊢
  have hsz2:w2.heap.size=w'.heap.size:=by rw[←hw2];exact marks_size _ _
  obtain⟨C2,c1,c2,c3,c4,c5,c6,c7,c8,R2⟩:=R1.turned (a':={tmps:=a'.tmps,defers:=[]}) A hsz2 (fun b o hb=>(hds2 b (hds▸hb)).2 o) (fun b hb hd=>(R1.inv.2 b hb).2 0 (.inr ((hds2 b (hds▸hd)).2 0))) rfl none (fun l hl=>by cases hl) rfl
  have hti2:TIok C2.P ti:=by show TIok C2.M.P ti;rw[c1,hle.M];exact hti
  have hP:C2.P=P:=by show C2.M.P=P;rw[c1,hle.M];rfl
  obtain⟨xs,vs,⟨nm,hnd,hres,hpost,hnewo,hhand⟩,hrun,hlen,hrel⟩:=withRes_sound (C:=C2) hti2 h1 R2 _ _ hfin
  obtain⟨f1,f2,f3,f4⟩:=finish (X:=X) R2 (fun b o hx=>by rw[c3];exact hle.X b o hx) (nodupB_iff.1 hnd) hpost hnewo hhand
  obtain⟨d1,d2,d3⟩:=hle.down R1
  have hrr:=results_run (C:=C2) hrun
  rw[hP]at hrr
  refine⟨_,hrr,_,fun i=>g1 (renN nm σ.next i),res,post,new,hQ,rfl,⟨f1,?_,?_,fun j=>d2 j,fun i ob b o hi hb=>?_,f3⟩⟩
  ·refine f4 res _ ?_
   rw[←hres]
   have other:xs.length≠1→RelAV w2 (zor (zone g1 (getH σ.heap)) C2.X) g1 (getH σ.heap) (.t xs) (.tuple vs.toArray):=fun _=>
    ⟨vs.toArray,rfl,by simpa using hlen,fun j x v hx hv=>hrel j x v hx (by simpa using hv)⟩
   match xs,vs,hlen,hrel,other with
   | [x],[v],_,hrel,_=>exact hrel 0 x v rfl rfl
   | [],[],_,_,other=>exact other (by simp)
   | x::y::xs,v::u::vs,hl,_,other=>
    have:¬(v::u::vs).toArray.size=1:=by simp
    simp only[dif_neg this]
    exact other (by simp)
  ·exact d1.then (Z':=fun b _=>b∈C'.D) ⟨A.os,A.tape,A.output,A.size,fun b hb hn=>A.block b hb (hn 0),fun b o u hu hn=>A.cell hu hn⟩ (fun p o hp=>.inr (hds2 p (hds▸hp)).1)
  ·obtain⟨j,ob',hj,hz⟩:=f2 i ob b o hi hb
   exact d3 j ob' b o hj hz
 intro e a' w' hq
 cases e with
 | normal=>obtain⟨C',hle,σ,hf',hr⟩:=hq;exact fin C' σ a' w' hle hf' hr
 | ret=>obtain⟨C',hle,σ,hf',hr⟩:=hq;exact fin C' σ a' w' hle hf' hr
 | exit id=>obtain⟨C',hle,σ,hf',hr⟩:=hq;exact hf'.elim
 | goto l=>exact hq.elim
 | panic ch=>exact hq.elim
 | outgrown=>exact hq.elim
end Go.AM
namespace Go.AM
open Go Go.RowKit
def putPs:List Tmp→List V1→List (Nat×AV)→List (Nat×AV)
 | p::ps,x::xs,s=>putPs ps xs ((p,.v x)::s)
 | _,_,s=>s
theorem putAll_size {ps:Array Tmp}{vals tmps:Array Value}:(putAll ps vals tmps).size=tmps.size:=by
 unfold putAll
 rw[←Array.foldl_toList]
 generalize (ps.zip vals).toList=l
 induction l generalizing tmps with
 | nil=>rfl
 | cons x l ih=>
  simp only[List.foldl_cons]
  exact ih.trans (by simp)
theorem putPs_rel {w:World}{Z:Zone}{g:Ghost}{h:Heap}:∀{ps:List Tmp}{xs:List V1}{vs:List Value}{s:List (Nat×AV)}{tmps:Array Value},xs.length=ps.length→vs.length=xs.length→(∀p∈ps,p<tmps.size)→
  (∀(j:Nat) x v,xs[j]?=some x→vs[j]?=some v→RelV1 w Z g h x v)→(∀t,RelAV w Z g h (getS s t) (tmps.getD t undef))→
  ∀t,RelAV w Z g h (getS (putPs ps xs s) t) (((ps.zip vs).foldl (fun t x=>t.setIfInBounds x.1 x.2) tmps).getD t undef)
 | [],[],[],s,tmps,_,_,_,_,hs=>hs
 | p::ps,x::xs,v::vs,s,tmps,h1,h2,h3,h4,hs=>by
  refine putPs_rel (ps:=ps) (xs:=xs) (vs:=vs) (by simpa using h1) (by simpa using h2) (fun q hq=>by simpa using h3 q (by simp[hq])) (fun j x v hx hv=>h4 (j+1) x v (by simpa using hx) (by simpa using hv)) ?_
  intro t
  rw[getS_cons]
  simp only[]
  split
  ·subst t
   have:=h3 p (by simp)
   rw[Array.getD_eq_getD_getElem?,Array.getElem?_setIfInBounds_self_of_lt this]
   exact h4 0 x v rfl rfl
  ·rename_i hne
   rw[Array.getD_eq_getD_getElem?,Array.getElem?_setIfInBounds_ne (Ne.symm hne),←Array.getD_eq_getD_getElem?]
   exact hs t
 | [],_::_,_,_,_,h1,_,_,_,_=>by simp at h1
 | _::_,[],_,_,_,h1,_,_,_,_=>by simp at h1
 | [],[],_::_,_,_,_,h2,_,_,_=>by simp at h2
 | _::_,_::_,[],_,_,_,h2,_,_,_=>by simp at h2
def jumpOf:AExit→Jump
 | .normal=>none
 | .ret=>some none
 | .exit id=>some (some id)
def FinR (σ:St) (post new:List AObj):Prop:=
 ∃gs,gh gs σ fun σ=>∃nm:List Id,nodupB nm=true∧postOK (getH σ.heap) (renN nm σ.next) post 0∧newOK (getH σ.heap) (renN nm σ.next) new nm∧handOK post nm
theorem RoundK.intro {P:Program}{I:Inv}{ti:Types}(dr:Mach→Nat→Draw) (hti:TIok P ti) (h1:TIone ti) (hdr:∀C:Cx,C.P=P→DrawOK C (dr C.M C.nt)) {r:RF}{sl:List (Nat×AV)}{args:List V1}{pre:List AObj}{Q:Jump→List AObj→List AObj→Prop}
  (hlen:args.length=r.params.size) (hps:allB (fun p=>Nat.blt p r.nt) r.params.toList=true)
  (hx:∀M:Mach,M.P=P→M.I=I→exec M ti r.nt (dr M r.nt) r.assign ⟨putPs r.params.toList args sl,extsOf pre 0,0⟩ fun e σ=>match e with
   | .normal=>exec M ti r.nt (dr M r.nt) r.body σ fun e σ=>∃post new,Q (jumpOf e) post new∧FinR σ post new
   | _=>False):RoundK P I r sl args pre Q:=by
 refine⟨hlen,?_⟩
 intro l L w X g vals hX hXl hl l1 l2 l3 l4 l5 l6 hI RH hg hsz hargs hsl
 have hlt:l<w.heap.size:=(Array.getElem?_eq_some_iff.1 hl).1
 have noz:∀{X:Zone} {w:World} {g:Ghost} {h:Heap},RelH w X g h→(∀o,X l o)→∀o,¬zone g h l o:=by
  rintro X w g h RH hx o ⟨i,ob,hi,hz⟩
  exact RH.apart i ob l o hi hz.obk (hx o)
 let C:Cx:={M:=Mach.of P I,nt:=r.nt,w0:=w,Z0:=zone g (heapOf pre),X:=X,g0:=g,hinv:=hI,ro:=some l,D:=[],hro:=fun l' hl'=>(by cases hl';exact⟨⟨L,hl⟩,noz RH hXl⟩),hD:=fun r hr=>(by cases hr),hDn:=List.nodup_nil}
 have hdr':∀C':Cx,C'.M=Mach.of P I→C'.nt=r.nt→DrawOK C' (dr (Mach.of P I) r.nt):=fun C' hC hn=>by
  have:=hdr C' (by show C'.M.P=P;rw[hC];rfl)
  rw[hC,hn]at this
  exact this
 have R0:RelSt C ⟨putPs r.params.toList args sl,extsOf pre 0,0⟩ {tmps:=putAll L.params vals L.tmps,defers:=[]} w:=by
  refine relS_start (P:=P) (by show (putAll L.params vals L.tmps).size=r.nt;rw[putAll_size];exact l6) rfl (fun t=>?_) RH rfl rfl (fun _ _ h=>h) hX hg
  have:=putPs_rel (ps:=r.params.toList) (xs:=args) (vs:=vals.toList) (s:=sl) (tmps:=L.tmps) (by simpa using hlen) (by simpa using hsz) (fun p hp=>by
   have:=allB_iff.1 hps p hp
   rw[l6]
   exact Nat.lt_of_succ_le (by simpa [Nat.blt] using this)) (fun j x v hx hv=>hargs j x v hx (by simpa using hv)) hsl t
  show RelAV _ _ _ _ _ ((putAll L.params vals L.tmps).getD t undef)
  unfold putAll
  rw[l3,←Array.foldl_toList,Array.toList_zip]
  exact this
 have h1x:=hx (Mach.of P I) rfl rfl
 refine roundIn_of_wpIn (F:=Fence.wide) trivial ?_
 rw[l4,l5]
 refine wpIn_mono (exec_sound (M:=Mach.of P I) (ro:=some l) hti h1 hdr' r.assign _ _ C _ w rfl rfl rfl h1x R0) ?_
 intro e a1 w1 hq
 cases e with
 | normal=>
  obtain⟨C1,hle,σ1,hk1,g1,R1⟩:=hq
  obtain⟨d1,d2,d3⟩:=hle.down R1
  have hXl1:∀o,C1.X l o:=fun o=>hle.X l o (hXl o)
  have hl1:w1.heap[l]?=some (.loop L):=(d1.block l hlt (noz RH hXl)).trans hl
  have hlt1:l<w1.heap.size:=(Array.getElem?_eq_some_iff.1 hl1).1
  refine⟨w1.putObj l (.loop {L with state:=.busy}),run_beginRound hl1 l1,?_⟩
  have A:ApartW (fun b=>b=l) w1 (w1.putObj l (.loop {L with state:=.busy})):=⟨rfl,rfl,rfl,by simp,fun b _ hb=>World.putObj_heap_other hb⟩
  have hl2:(w1.putObj l (.loop {L with state:=.busy})).heap[l]?=some (.loop {L with state:=.busy}):=World.putObj_heap_same hlt1
  obtain⟨C2,c1,c2,c3,c4,c5,c6,c7,c8,R2⟩:=R1.turned (a':={tmps:=a1.tmps,defers:=[]}) A World.putObj_size (fun b o hb=>by subst hb;exact hXl1 o) (fun b hb hd=>(R1.inv.2 b hb).2 0 (.inr (by subst hd;exact hXl1 0))) rfl (some l) (fun l' hl'=>by cases hl';exact⟨⟨_,hl2⟩,hXl1⟩) rfl
  have ha1:a1={tmps:=a1.tmps,defers:=[]}:=by
   have hd:=R1.defers
   rw[hle.same (by simp[C])]at hd
   show a1=⟨a1.tmps,[]⟩
   rw[←show a1.defers=[]from hd]
  rw[ha1]
  refine wpIn_mono (exec_sound (M:=Mach.of P I) (ro:=some l) hti h1 hdr' r.body σ1 _ C2 _ _ (c1.trans hle.M) (c2.trans hle.nt) c4 hk1 ⟨g1,R2⟩) ?_
  have fin:∀(e:AExit) (a2:Act) (w3:World),(∃C3,CxLe C2 C3∧∃σ,(∃post new,Q (jumpOf e) post new∧FinR σ post new)∧RelSt C3 σ a2 w3)→
    ∃v w',(Instr.endRound l ((jumpOf e).map jumpCode)).run P w3= .ok v w'∧∃jump g' post new,Q jump post new∧Ending.returned v= .returned (.bool jump.isNone)∧RoundPost l L w X g pre jump post new w' g':=by
   rintro e a2 w3 ⟨C3,hle3,σ0,⟨post,new,hQ,gs,hfin⟩,R3⟩
   obtain⟨σ,hweak,nm,hnd,hpost,hnewo,hhand⟩:=gh_weak hfin
   obtain⟨g3,R3⟩:=hweak _ _ _ R3
   obtain⟨f1,f2,f3⟩:=hle3.down R3
   have hXl3:∀o,C3.X l o:=fun o=>hle3.X l o (by rw[c3];exact hXl1 o)
   have hz2:∀o,¬C2.Z0 l o:=by rw[c6];exact noz R1.heap hXl1
   have hl3:w3.heap[l]?=some (.loop {L with state:=.busy}):=by
    have:=f1.block l (by rw[c5,World.putObj_size];exact hlt1) hz2
    rw[c5]at this
    exact this.trans hl2
   have hlt3:l<w3.heap.size:=(Array.getElem?_eq_some_iff.1 hl3).1
   refine⟨_,_,run_endRound _ hl3,?_⟩
   have A3:ApartW (fun b=>b=l) w3 (w3.putObj l (.loop {L with state:=if ((jumpOf e).map jumpCode).isNone then .ready else .done,pending:=(jumpOf e).map jumpCode})):=⟨rfl,rfl,rfl,by simp,fun b _ hb=>World.putObj_heap_other hb⟩
   obtain⟨C4,k1,k2,k3,k4,k5,k6,k7,k8,R4⟩:=R3.turned (a':={tmps:=a2.tmps,defers:=[]}) A3 World.putObj_size (fun b o hb=>by subst hb;exact hXl3 o) (fun b hb hd=>(R3.inv.2 b hb).2 0 (.inr (by subst hd;exact hXl3 0))) rfl none (fun l' hl'=>by cases hl') rfl
   obtain⟨q1,q2,q3,_⟩:=finish (X:=X) R4 (fun b o hx=>by rw[k3];exact hle3.X b o (by rw[c3];exact hle.X b o hx)) (nodupB_iff.1 hnd) hpost hnewo hhand
   have isn:((jumpOf e).map jumpCode).isNone=(jumpOf e).isNone:=by cases jumpOf e<;>rfl
   have zin:∀b o,C2.Z0 b o→zone g (heapOf pre) b o∨w.heap.size≤b:=by
    intro b o hz
    rw[c6]at hz
    obtain⟨i,ob,hi,h3⟩:=hz
    exact d3 i ob b o hi h3
   have fr:Frame' (fun b o=>zone g (heapOf pre) b o∨b=l) w (w3.putObj l (.loop {L with state:=if ((jumpOf e).map jumpCode).isNone then .ready else .done,pending:=(jumpOf e).map jumpCode})):=by
    have s1:Frame' (fun b o=>zone g (heapOf pre) b o∨b=l) w w1:=d1.weaken (fun b o h=>.inl h)
    have one:∀{a b:World},ApartW (fun b=>b=l) a b→Frame' (fun b _=>b=l) a b:=fun A=>⟨A.os,A.tape,A.output,A.size,fun b hb hn=>A.block b hb (fun e=>hn 0 e),fun b o u hu hn=>A.cell hu hn⟩
    have s2:=s1.then (one A) (fun p o h=>.inl (.inr h))
    have s3:=s2.then (by have:=f1;rw[c5]at this;exact this) (fun p o h=>(zin p o h).imp .inl id)
    exact s3.then (one A3) (fun p o h=>.inl (.inr h))
   refine⟨jumpOf e,fun i=>g3 (renN nm σ.next i),post,new,hQ,by rw[isn],⟨q1,fr,?_,fun j=>?_,fun i ob b o hi hb=>?_,q3⟩⟩
   ·rw[World.putObj_heap_same hlt3,isn]
   ·have e1:=d2 j
    have e2:=f2 j
    rw[c7]at e2
    exact e1.trans e2
   ·obtain⟨j,ob',hj,hz⟩:=q2 i ob b o hi hb
    rcases f3 j ob' b o hj hz with h | h
    ·exact zin b o h
    ·rw[c5,World.putObj_size]at h
     exact .inr (Nat.le_trans d1.size h)
  intro e a2 w3 hq
  cases e with
  | normal=>exact fin .normal a2 w3 hq
  | ret=>exact fin .ret a2 w3 hq
  | exit id=>exact fin (.exit id) a2 w3 hq
  | goto l=>exact hq.elim
  | panic ch=>exact hq.elim
  | outgrown=>exact hq.elim
 | exit id=>obtain⟨_,_,_,hk,_⟩:=hq;exact hk.elim
 | ret=>obtain⟨_,_,_,hk,_⟩:=hq;exact hk.elim
 | goto l=>exact hq.elim
 | panic ch=>exact hq.elim
 | outgrown=>exact hq.elim
end Go.AM
namespace Go.AM
open Go Go.RowKit
theorem draw_P {P:Program}{ti:Types}(hti:TIok P ti) (h1:TIone ti) (hm:P.follows .mixedOrders=true):∀C:Cx,C.P=P→DrawOK C (execDraw ti C.M C.nt):=fun C hC=>by
 have hti':TIok C.P ti:=by rw[hC];exact hti
 have hm':C.P.follows .mixedOrders=true:=by rw[hC];exact hm
 exact draw_ok hti' h1 hm'
theorem TripK.of {P:Program}{I:Inv}{ti:Types}(hti:TIok P ti) (h1:TIone ti) (hm:P.follows .mixedOrders=true) {f:FuncId}{fn:Func}{c:Code}(hf:P.funcs[f]?=some fn) (hb:fn.body=some c)
  (hname:(fn.name== "runtime.NumGoroutine")=false) {args:List V1} {pre:List AObj} {Q:AV→List AObj→List AObj→Prop} {nt:Nat} (hnt:fn.ntmps=nt) (hargs:Nat.ble args.length nt=true) {rs:List ResultVar} (hrs:fn.results.toList=rs)
  (hx:∀M:Mach,M.P=P→M.I=I→exec M ti nt (execDraw ti M nt) c ⟨slotsOf args 0,extsOf pre 0,0⟩ fun e σ=>match e with
   | .exit _=>False
   | .normal=>∃res post new,Q res post new∧Fin' ti rs σ res post new
   | .ret=>∃res post new,Q res post new∧Fin' ti rs σ res post new):TripK P I f args pre Q:=by
 subst hnt
 subst hrs
 exact TripK.intro (fun M nt=>execDraw ti M nt) hti h1 (draw_P hti h1 hm) hf hb hname (Nat.le_of_ble_eq_true hargs) hx
theorem Trip.of {P:Program}{I:Inv}{ti:Types}(hti:TIok P ti) (h1:TIone ti) (hm:P.follows .mixedOrders=true) {f:FuncId}{fn:Func}{c:Code}(hf:P.funcs[f]?=some fn) (hb:fn.body=some c)
  (hname:(fn.name== "runtime.NumGoroutine")=false) {args:List V1} {pre post new:List AObj} {res:AV} {nt:Nat} (hnt:fn.ntmps=nt) (hargs:Nat.ble args.length nt=true) {rs:List ResultVar} (hrs:fn.results.toList=rs)
  (hx:∀M:Mach,M.P=P→M.I=I→exec M ti nt (execDraw ti M nt) c ⟨slotsOf args 0,extsOf pre 0,0⟩ fun e σ=>match e with
   | .exit _=>False
   | .normal=>∃r p n,(r=res∧p=post∧n=new)∧Fin' ti rs σ r p n
   | .ret=>∃r p n,(r=res∧p=post∧n=new)∧Fin' ti rs σ r p n):Trip P I f args pre res post new:=
 TripK.of hti h1 hm hf hb hname hnt hargs hrs hx
theorem fin_go {ti:Types}{rs:List ResultVar}{σ:St}{res:AV}{post new:List AObj}(h:withRes ti σ rs fun xs=>∃nm:List Id,nodupB nm=true∧mkRes xs=res.ren (renN nm σ.next)∧postOK (getH σ.heap) (renN nm σ.next) post 0∧newOK (getH σ.heap) (renN nm σ.next) new nm∧handOK post nm):
  ∃r p n,(r=res∧p=post∧n=new)∧Fin' ti rs σ r p n:=⟨_,_,_,⟨rfl,rfl,rfl⟩,[],h⟩
theorem TripK.at {P:Program}{I:Inv}{M:Mach}{f:FuncId}{args:List V1}{pre:List AObj}{Q:AV→List AObj→List AObj→Prop}(hP:M.P=P) (hI:M.I=I) (h:TripK P I f args pre Q):TripK M.P M.I f args pre Q:=by rw[hP,hI];exact h
theorem RoundK.of {P:Program}{I:Inv}{M:Mach}(hP:M.P=P) (hI:M.I=I) {ti:Types}(hti:TIok P ti) (h1:TIone ti) (hm:P.follows .mixedOrders=true) {r:RF}{sl:List (Nat×AV)}{args:List V1}{pre:List AObj}{Q:Jump→List AObj→List AObj→Prop}{nt:Nat}{ps:List Tmp}{ca cb:Code}
  (hnt:r.nt=nt) (hpl:r.params.toList=ps) (ha:r.assign=ca) (hb:r.body=cb) (hlen:args.length=ps.length) (hps:allB (fun p=>Nat.blt p nt) ps=true)
  (hx:∀M:Mach,M.P=P→M.I=I→exec M ti nt (execDraw ti M nt) ca ⟨putPs ps args sl,extsOf pre 0,0⟩ fun e σ=>match e with
   | .normal=>exec M ti nt (execDraw ti M nt) cb σ fun e σ=>∃post new,Q (jumpOf e) post new∧FinR σ post new
   | _=>False):RoundK M.P M.I r sl args pre Q:=by
 subst hnt
 subst hpl
 subst ha
 subst hb
 rw[hP,hI]
 exact RoundK.intro (fun M nt=>execDraw ti M nt) hti h1 (draw_P hti h1 hm) (by simpa using hlen) hps hx
section
variable {M:Mach}{A:Bool→Prop}
theorem splitI {a b:Int}(h1:a=b→A true) (h0:a≠b→A false):M.split (M.eqI a b) A:=by
 rw[M.split_iff,M.eqI_eq]
 by_cases h:a=b
 ·rw[beq_iff_eq.2 h];exact h1 h
 ·rw[beq_eq_false_iff_ne.2 h];exact h0 h
theorem splitL {a b:Int}(h1:a<b→A true) (h0:b≤a→A false):M.split (M.ltI a b) A:=by
 rw[M.split_iff,M.ltI_eq]
 by_cases h:a<b
 ·rw[decide_eq_true h];exact h1 h
 ·rw[decide_eq_false h];exact h0 (by omega)
theorem splitL_f {a b:Int}(h:¬a<b) (h0:A false):M.split (M.ltI a b) A:=splitL (fun e=>absurd e h) (fun _=>h0)
theorem splitLe {a b:Int}(h1:a≤b→A true) (h0:b<a→A false):M.split (M.leI a b) A:=by
 rw[M.split_iff,M.leI_eq]
 by_cases h:a≤b
 ·rw[decide_eq_true h];exact h1 h
 ·rw[decide_eq_false h];exact h0 (by omega)
theorem splitS {a b:ByteArray}(h1:(a.toList==b.toList)=true→A true) (h0:(a.toList==b.toList)=false→A false):M.split (M.eqS a b) A:=by
 rw[M.split_iff,M.eqS_eq]
 cases h:(a.toList==b.toList)
 ·exact h0 h
 ·exact h1 h
end
section
variable {M:Mach}{f:FuncId}{args:List V1}{fresh:Nat}{h:Heap}{k:Out→Prop}{targs:List V1}{res:AV}
theorem call_pure {P:Program}{I:Inv}(hP:M.P=P) (hI:M.I=I) (ht:Trip P I f targs [] res [] []) (he:args=targs.map (V1.ren (renM [] fresh))) (hk:k ⟨res.ren (renM [] fresh),[],[]⟩):
  M.lock fun _=>outCall M.P M.I f args fresh h k:=
 (M.lock_iff _).2 ⟨[],targs,[],res,[],[],hP▸hI▸ht,he,rfl,List.nodup_nil,by simp,trivial,by simp,hk⟩
theorem opOut_call {ti:Types}{o:Oper}{c:Call}{x:Operand}{s:Slots}(ho:o.op= .call c) (hc:c.callee= .value x) (hk:withCl h (fun h'=>opOut0 M ti o fresh s h') k):opOut M ti o fresh s h k:=by
 unfold opOut
 rw[ho]
 simp only[]
 rw[hc]
 exact .inr (.inl hk)
theorem call_go {ti:Types}{o:Oper}{c:Call}{x:Operand}{s:Slots}{X:Prop}(ho:o.op= .call c) (hc:c.callee= .value x) (hk:opOut0 M ti o fresh s h k):M.lock fun _=>opOut M ti o fresh s h k∨X:=
 (M.lock_iff _).2<| .inl<| opOut_call ho hc ⟨[],hk⟩
theorem call_in {A X:Prop}(hk:X):M.lock fun _=>A∨X:=(M.lock_iff _).2 (.inr hk)
def preOK (h:Heap) (r:Id→Id):List Id→List AObj→Prop
 | [],[]=>True
 | i::m,o::pre=>h i=some (o.ren r)∧preOK h r m pre
 | _,_=>False
theorem preOK_get {r:Id→Id}:∀{m:List Id}{pre:List AObj},preOK h r m pre→m.length=pre.length∧∀(j:Nat) i o,m[j]?=some i→pre[j]?=some o→h i=some (o.ren r)
 | [],[],_=>⟨rfl,by simp⟩
 | i::m,o::pre,hp=>by
  obtain⟨h1,h2⟩:=preOK_get hp.2
  refine⟨by simp[h1],fun j i' o' hi ho=>?_⟩
  match j with
  | 0=>simp at hi ho;subst hi;subst ho;exact hp.1
  | j+1=>simp at hi ho;exact h2 j i' o' hi ho
 | [],_::_,hp=>hp.elim
 | _::_,[],hp=>hp.elim
theorem call_with {P:Program}{I:Inv}(hP:M.P=P) (hI:M.I=I) (m:List Id) {pre post new:List AObj}(ht:Trip P I f targs pre res post new) (he:args=targs.map (V1.ren (renM m fresh))) (hm:m.Nodup)
  (hpre:preOK h (renM m fresh) m pre) (hkd:allKinds pre post) (hn:new.length≤31) (hk:k ⟨res.ren (renM m fresh),m,wrM m (renM m fresh) post++wrNew fresh (renM m fresh) 0 new⟩):
  M.lock fun _=>outCall M.P M.I f args fresh h k:=
 (M.lock_iff _).2 ⟨m,targs,pre,res,post,new,hP▸hI▸ht,he,(preOK_get hpre).1,hm,(preOK_get hpre).2,hkd,hn,hk⟩
end
theorem drawn {M:Mach}{p:Unit→Prop}{K:Prop}(hd:p ()) (hk:K):M.lock p∧K:=⟨(M.lock_iff _).2 hd,hk⟩
theorem loop_inv {M:Mach}{ex:St→(AExit→St→Prop)→Prop}{σ:St}{K:AExit→St→Prop}(ks:List Nat) (is:List Id) (nx:Nat) {T:Type}(S:T→St) (I:T→Prop) (m:T→Nat) (t0:T)
  (hI:I t0) (h0:keep ks is nx σ (·=S t0))
  (hr:∀t,I t→ex (S t) fun e σ2=>match e with
   | .normal=>∃n' σ3,n'<m t∧Weak σ2 σ3∧∃t',I t'∧n'=m t'∧σ3=S t'
   | .exit id=>K (.exit id) σ2
   | .ret=>K .ret σ2):M.lock fun _=>loopP ex σ K∨∃n,unrollP ex K n σ:=by
 refine (M.lock_iff _).2<| .inl ⟨fun n σ=>∃t,I t∧n=m t∧σ=S t,m t0,?_,?_⟩
 ·obtain⟨σ',hw,e⟩:=keep_weak h0
  exact⟨σ',hw,t0,hI,rfl,e⟩
 ·rintro n σ1 ⟨t,h1,rfl,rfl⟩
  exact hr t h1
theorem loop_invT {M:Mach}{ex:St→(AExit→St→Prop)→Prop}{σ:St}{K:AExit→St→Prop}(tr:List TokReq) (ks:List Nat) (is:List Id) (nx:Nat) {T:Type}(S:T→St) (I:T→Prop) (m:T→Nat) (t0:T)
  (hI:I t0) (h0:tokAll (fun σ=>keep ks is nx σ (·=S t0)) tr σ)
  (hr:∀t,I t→ex (S t) fun e σ2=>match e with
   | .normal=>∃n' σ3,n'<m t∧Weak σ2 σ3∧∃t',I t'∧n'=m t'∧σ3=S t'
   | .exit id=>K (.exit id) σ2
   | .ret=>K .ret σ2):M.lock fun _=>loopP ex σ K∨∃n,unrollP ex K n σ:=by
 refine (M.lock_iff _).2<| .inl ⟨fun n σ=>∃t,I t∧n=m t∧σ=S t,m t0,?_,?_⟩
 ·obtain⟨σ1,hw1,h1⟩:=tokAll_weak h0
  obtain⟨σ',hw,e⟩:=keep_weak h1
  exact⟨σ',Weak.trans hw1 hw,t0,hI,rfl,e⟩
 ·rintro n σ1 ⟨t,h1,rfl,rfl⟩
  exact hr t h1
theorem loop_next {T:Type}{m:T→Nat}{I:T→Prop}{S:T→St}{σ2:St}{k:Nat}(t':T) (ks:List Nat) (is:List Id) (nx:Nat) (hI:I t') (hm:m t'<k) (hk:keep ks is nx σ2 (·=S t')):
  ∃n' σ3,n'<k∧Weak σ2 σ3∧∃t',I t'∧n'=m t'∧σ3=S t':=by
 obtain⟨σ',hw,e⟩:=keep_weak hk
 exact⟨m t',σ',hm,hw,t',hI,rfl,e⟩
theorem wrap_i64 {x z:Int}(h: -9223372036854775808≤x∧x≤9223372036854775807) (hz:z=x):IntKind.i64.wrap x=z:=by
 rw[hz];exact IntWalk.i64_in x h
section
variable {M:Mach}{L L':List D}{N i:Int}(hN:0≤N∧L.length=N.toNat)
include hN
end
end Go.AM
namespace Go.AM
open Go Go.RowKit
def cvP (p:Id→Bool):CV→Bool
 | .ptr i _=>p i
 | .fn _ cap=>allB p cap
 | .lst i _ _ _=>p i
 | .sl i _=>p i
 | .map i=>p i
 | .ap i _ _ _ _=>p i
 | .ow i=>p i
 | .op i _ _ _=>p i
 | .yl i=>p i
 | _=>true
def v1P (p:Id→Bool):V1→Bool
 | .d _=>true
 | .c x=>cvP p x
 | .agg cs=>allB (cvP p) cs
def avP (p:Id→Bool):AV→Bool
 | .u=>true
 | .v x=>v1P p x
 | .t xs=>allB (v1P p) xs
def objP (p:Id→Bool):AObj→Bool
 | .cells cs=>allB (cvP p) cs
 | .tok ..=>true
 | .map _ _ es=>allB (fun e=>v1P p e.2) es
 | .arr cs1 _ _ _ cs2=>match allB (cvP p) cs1 with
  | true=>allB (cvP p) cs2
  | false=>false
 | .tree _ _ _ _ foc=>match foc with
  | some x=>allB (cvP p) x.2
  | none=>true
 | .gone=>true
 | .rnd _ sl=>allB (fun x=>avP p x.2) sl
 | .rndX _=>true
section
variable {p:Id→Bool}{f e:Id→Id}(hp:∀i,p i=true→f (e i)=i)
include hp
theorem ren_cv {c:CV}(h:cvP p c=true):(c.ren e).ren f=c:=by
 cases c<;>simp only[CV.ren,cvP]at h ⊢
 ·rw[hp _ h]
 ·rw[List.map_map]
  congr 1
  rw[allB_iff]at h
  exact map_same fun i hi=>hp _ (h i hi)
 ·rw[hp _ h]
 ·rw[hp _ h]
 ·rw[hp _ h]
 ·rw[hp _ h]
 ·rw[hp _ h]
 ·rw[hp _ h]
 ·rw[hp _ h]
theorem ren_cvs {cs:List CV}(h:allB (cvP p) cs=true):(cs.map (CV.ren e)).map (CV.ren f)=cs:=by
 rw[List.map_map]
 rw[allB_iff]at h
 exact map_same fun i hi=>ren_cv hp (h i hi)
theorem ren_v1 {c:V1}(h:v1P p c=true):(c.ren e).ren f=c:=by
 cases c<;>simp only[V1.ren,v1P]at h ⊢
 ·rw[ren_cv hp h]
 ·rw[ren_cvs hp h]
theorem ren_av {c:AV}(h:avP p c=true):(c.ren e).ren f=c:=by
 cases c<;>simp only[AV.ren,avP]at h ⊢
 ·rw[ren_v1 hp h]
 ·rw[List.map_map]
  congr 1
  rw[allB_iff]at h
  exact map_same fun i hi=>ren_v1 hp (h i hi)
theorem ren_obj {c:AObj}(h:objP p c=true):(c.ren e).ren f=c:=by
 cases c<;>simp only[AObj.ren,objP]at h ⊢
 ·rw[ren_cvs hp h]
 ·rw[List.map_map]
  congr 1
  rw[allB_iff]at h
  refine map_same fun i hi=>?_
  show (i.1,(i.2.ren e).ren f)=i
  rw[ren_v1 hp (h i hi)]
 ·split at h
  ·rename_i h1
   rw[ren_cvs hp h,ren_cvs hp h1]
  ·cases h
 ·congr 1
  split at h
  ·show some (_,List.map (CV.ren f) (List.map (CV.ren e) _))=_
   rw[ren_cvs hp h]
  ·rfl
 ·rw[List.map_map]
  congr 1
  rw[allB_iff]at h
  refine map_same fun i hi=>?_
  show (i.1,(i.2.ren e).ren f)=i
  rw[ren_av hp (h i hi)]
end
theorem weak_ren {σ σ':St}(r:Id→Id) (hext:∀j,r (.ext j)= .ext j) (hbig:∀n,σ'.next≤n→∃N,σ.next≤N∧r (.loc n)= .loc N)
  (hs:∀t,getS σ'.slots t= .u∨getS σ.slots t=(getS σ'.slots t).ren r) (hh:∀i o,getH σ'.heap i=some o→getH σ.heap (r i)=some (o.ren r))
  (hinj:∀i j o o',getH σ'.heap i=some o→getH σ'.heap j=some o'→r i=r j→i=j) (hlow:∀n,σ'.next≤n→getH σ'.heap (.loc n)=none):Weak σ σ':=by
 rintro C a w ⟨g,R⟩
 let g':Ghost:=fun i=>g (r i)
 have hz:∀b o,zone g' (getH σ'.heap) b o→zone g (getH σ.heap) b o:=by
  rintro b o ⟨i,ob,hi,h1⟩
  exact⟨r i,_,hh i ob hi,zone1_ren.2 h1⟩
 have hzz:∀b o,zor (zone g' (getH σ'.heap)) C.X b o→zor (zone g (getH σ.heap)) C.X b o:=fun b o hx=>hx.imp (hz b o) id
 have ht:∀i n sz e,getH σ'.heap i=some (.tok n sz e)→getH σ.heap (r i)=some (.tok n sz e):=fun i n sz e hi=>hh i _ hi
 have hw:∀i,isLive (getH σ'.heap i)=true→isLive (getH σ.heap (r i))=true:=by
  intro i hi
  cases hc:getH σ'.heap i with
  | none=>rw[hc]at hi;cases hi
  | some o=>
   rw[hh i o hc]
   rw[hc]at hi
   exact isLive_ren.trans hi
 refine⟨g',R.size,R.defers,fun t=>?_,⟨fun i o hi=>RelObj.pull (r:=r) (g':=g') hzz (fun _=>rfl) ht hw (R.heap.objs _ _ (hh i o hi)),fun i j oi oj b hi hj bi bj=>?_,fun i oi b o hi bi=>R.heap.apart _ _ b o (hh i oi hi) (Obk_ren.2 bi)⟩,R.frame,fun j=>?_,
  fun j ob b o hj hz'=>R.within _ _ b o (hh j ob hj) (zone1_ren.2 hz'),R.xs,fun n hn=>⟨?_,hlow n hn⟩⟩
 ·rcases hs t with e | e
  ·rw[e];trivial
  ·have:=R.slots t
   rw[e]at this
   exact RelAV.pull (r:=r) hzz (fun _=>rfl) ht hw this
 ·exact hinj i j oi oj hi hj (R.heap.sep _ _ _ _ b (hh i oi hi) (hh j oj hj) (Obk_ren.2 bi) (Obk_ren.2 bj))
 ·show gsame (C.g0 (.ext j)) (g (r (.ext j)))
  rw[hext]
  exact R.ext j
 ·obtain⟨N,hN,e⟩:=hbig n hn
  show g (r (.loc n))=undef
  rw[e]
  exact (R.free N hN).1
def fstOf:List (Nat×Nat)→Nat→Option Nat
 | [],_=>none
 | (a,b)::l,k=>match Nat.beq a k with
  | true=>some b
  | false=>fstOf l k
def sndOf:List (Nat×Nat)→Nat→Option Nat
 | [],_=>none
 | (a,b)::l,k=>match Nat.beq b k with
  | true=>some a
  | false=>sndOf l k
def invF (l:List (Nat×Nat)):Id→Id
 | .ext j=>.ext j
 | .loc k=>match fstOf l k with
  | some m=>.loc m
  | none=>.loc k
def backF (l:List (Nat×Nat)):Id→Id
 | .ext j=>.ext j
 | .loc k=>match sndOf l k with
  | some m=>.loc m
  | none=>.loc k
def okId (l:List (Nat×Nat)) (n:Nat) (i:Id):Bool:=
 match Id.beq (backF l (invF l i)) i with
 | true=>idB n (invF l i)
 | false=>false
def renS (l:List (Nat×Nat)):List (Nat×AV)→List (Nat×AV)
 | []=>[]
 | (t,x)::r=>(t,x.ren (invF l))::renS l r
def renH (l:List (Nat×Nat)):List (Id×AObj)→List (Id×AObj)
 | []=>[]
 | (i,x)::r=>(invF l i,x.ren (invF l))::renH l r
def keepR (ks:List Nat) (is:List Id) (n:Nat) (l:List (Nat×Nat)) (σ:St) (K:St→Prop):Prop:=
 match keepH σ.heap is with
 | none=>False
 | some hp=>req (allB (fun x:Nat×AV=>avP (okId l n) x.2) (keepS σ.slots ks))<| req (allB (fun x:Id×AObj=>match okId l n x.1 with | true=>objP (okId l n) x.2 | false=>false) hp)<|
   K ⟨renS l (keepS σ.slots ks),renH l hp,n⟩
theorem renS_get {l:List (Nat×Nat)}{s:List (Nat×AV)}(t:Nat):getS (renS l s) t=(getS s t).ren (invF l):=by
 induction s with
 | nil=>rfl
 | cons x s ih=>
  obtain⟨k,v⟩:=x
  show getS ((k,v.ren (invF l))::renS l s) t=_
  rw[getS_cons,getS_cons]
  simp only[]
  split
  ·rfl
  ·exact ih
theorem renH_get {l:List (Nat×Nat)}{p:Id→Bool}{f:Id→Id}(hp:∀i,p i=true→f (invF l i)=i):∀{s:List (Id×AObj)},(∀x∈s,p x.1=true)→∀{i:Id}{o:AObj},getH (renH l s) i=some o→p (f i)=true∧invF l (f i)=i∧∃o',getH s (f i)=some o'∧o=o'.ren (invF l)
 | [],_,i,o,h=>by simp[renH,getH]at h
 | (k,v)::s,hs,i,o,h=>by
  have hk:=hs (k,v) (by simp)
  rw[show renH l ((k,v)::s)=(invF l k,v.ren (invF l))::renH l s from rfl,getH_cons]at h
  simp only[updO]at h
  by_cases e:i=invF l k
  ·rw[if_pos e]at h
   simp at h
   have hf:f i=k:=by rw[e];exact hp k hk
   rw[hf]
   exact⟨hk,e.symm,v,by rw[getH_cons];simp[updO],h.symm⟩
  ·rw[if_neg e]at h
   obtain⟨h1,h2,o',h3,h4⟩:=renH_get hp (fun x hx=>hs x (List.mem_cons_of_mem _ hx)) h
   refine⟨h1,h2,o',?_,h4⟩
   rw[getH_cons]
   simp only[updO]
   rw[if_neg]
   ·exact h3
   ·rintro rfl
    exact e h2.symm
theorem getH_all {q:Id×AObj→Bool}{l:List (Id×AObj)}(h:allB q l=true) {i:Id}{o:AObj}(hi:getH l i=some o):q (i,o)=true:=by
 induction l with
 | nil=>simp[getH]at hi
 | cons x l ih=>
  obtain⟨k,v⟩:=x
  rw[allB_iff]at h
  rw[getH_cons]at hi
  simp only[updO]at hi
  split at hi
  ·rename_i e
   cases hi
   rw[e]
   exact h _ (List.mem_cons_self ..)
  ·exact ih (allB_iff.2 fun x hx=>h x (by simp[hx])) hi
theorem keepR_weak {ks:List Nat}{is:List Id}{n:Nat}{l:List (Nat×Nat)}{σ:St}{K:St→Prop}(h:keepR ks is n l σ K):∃σ',Weak σ σ'∧K σ':=by
 unfold keepR at h
 split at h
 ·exact h.elim
 ·rename_i hp hhp
  obtain⟨h1,h⟩:=req_iff.1 h
  obtain⟨h2,h⟩:=req_iff.1 h
  let N:=max σ.next n
  let f:Id→Id:=fun i=>if idB n i=true then backF l i else .loc N
  have hpf:∀i,okId l n i=true→f (invF l i)=i:=by
   intro i hi
   unfold okId at hi
   split at hi
   ·rename_i hb
    show (if idB n (invF l i)=true then _ else _)=i
    rw[if_pos hi]
    exact Id.beq_iff.1 hb
   ·cases hi
  have hk2:∀x∈hp,okId l n x.1=true∧objP (okId l n) x.2=true:=by
   intro x hx
   have:=allB_iff.1 h2 x hx
   split at this
   ·rename_i hb;exact⟨hb,this⟩
   ·cases this
  have hnew:∀i o,getH (renH l hp) i=some o→okId l n (f i)=true∧invF l (f i)=i∧∃o',getH hp (f i)=some o'∧o=o'.ren (invF l):=fun i o hi=>renH_get hpf (fun x hx=>(hk2 x hx).1) hi
  refine⟨_,weak_ren f (fun j=>by show (if idB n (.ext j)=true then _ else _)=_;simp[idB,backF]) (fun m hm=>⟨N,Nat.le_max_left _ _,?_⟩) (fun t=>?_) (fun i o hi=>?_) (fun i j o o' hi hj e=>?_) (fun m hm=>?_),h⟩
  ·have hm:n≤m:=hm
   have:idB n (.loc m)=false:=by
    cases hb:idB n (.loc m)with
    | false=>rfl
    | true=>simp[idB]at hb;omega
   show (if idB n (.loc m)=true then _ else _)=_
   rw[this];rfl
  ·rw[renS_get]
   rcases keepS_get (l:=σ.slots) (ks:=ks) t with e | e
   ·rw[e];exact .inl rfl
   ·right
    rw[←e]
    exact (ren_av hpf (getS_all (p:=avP (okId l n)) rfl h1 t)).symm
  ·obtain⟨p1,p2,o',p3,rfl⟩:=hnew i o hi
   have hq:=getH_all (q:=fun x=>objP (okId l n) x.2) (allB_iff.2 fun x hx=>(hk2 x hx).2) p3
   rw[ren_obj hpf hq]
   exact (keepH_get hhp _ _ p3).1
  ·obtain⟨_,p2,_⟩:=hnew i o hi
   obtain⟨_,q2,_⟩:=hnew j o' hj
   rw[←p2,←q2,e]
  ·cases hc:getH (renH l hp) (.loc m)with
   | none=>rfl
   | some o=>
    obtain⟨p1,p2,_⟩:=hnew _ o hc
    have hm:n≤m:=hm
    unfold okId at p1
    split at p1
    ·rw[p2]at p1
     simp[idB]at p1
     omega
    ·cases p1
end Go.AM
namespace Go.AM
open Go Go.RowKit
theorem loop_invG {M:Mach}{ex:St→(AExit→St→Prop)→Prop}{σ:St}{K:AExit→St→Prop}(gs:List Gh) (l:List (Nat×Nat)) (ks:List Nat) (is:List Id) (nx:Nat) {T:Type}(S:T→St) (I:T→Prop) (m:T→Nat) (t0:T)
  (hI:I t0) (h0:gh gs σ fun σ=>keepR ks is nx l σ (·=S t0))
  (hr:∀t,I t→ex (S t) fun e σ2=>match e with
   | .normal=>∃n' σ3,n'<m t∧Weak σ2 σ3∧∃t',I t'∧n'=m t'∧σ3=S t'
   | .exit id=>K (.exit id) σ2
   | .ret=>K .ret σ2):M.lock fun _=>loopP ex σ K∨∃n,unrollP ex K n σ:=by
 refine (M.lock_iff _).2<| .inl ⟨fun n σ=>∃t,I t∧n=m t∧σ=S t,m t0,?_,?_⟩
 ·obtain⟨σ1,hw1,h1⟩:=gh_weak h0
  obtain⟨σ',hw,e⟩:=keepR_weak h1
  exact⟨σ',Weak.trans hw1 hw,t0,hI,rfl,e⟩
 ·rintro n σ1 ⟨t,h1,rfl,rfl⟩
  exact hr t h1
theorem loop_nextG {T:Type}{m:T→Nat}{I:T→Prop}{S:T→St}{σ2:St}{k:Nat}(t':T) (gs:List Gh) (l:List (Nat×Nat)) (ks:List Nat) (is:List Id) (nx:Nat) (hI:I t') (hm:m t'<k)
  (hk:gh gs σ2 fun σ=>keepR ks is nx l σ (·=S t')):∃n' σ3,n'<k∧Weak σ2 σ3∧∃t',I t'∧n'=m t'∧σ3=S t':=by
 obtain⟨σ1,hw1,h1⟩:=gh_weak hk
 obtain⟨σ',hw,e⟩:=keepR_weak h1
 exact⟨m t',σ',hm,Weak.trans hw1 hw,t',hI,rfl,e⟩
def lentD:AObj→Option D
 | .tree k ag sz rows foc=>match foc with
  | none=>conD k ag sz rows
  | some _=>none
 | _=>none
def lentB (o:AObj):Bool:=
 match lentD o with
 | some _=>true
 | none=>false
section
variable {w:World}{Z Z' X:Zone}{g g':Ghost}{h h':Heap}
end
end Go.AM
namespace Go.AM
open Go Go.RowKit
inductive Shape (ti:Types):TypeId→List D→Prop where
 | bool {t x} (b:Bool) (h:ti t=some x) (hd:x.desc= .bool):Shape ti t [.bool b]
 | int {t x k} (n:Int) (h:ti t=some x) (hd:x.desc= .int k) (hw:(Lit.int k n).wf=true):Shape ti t [.int k n]
 | str {t x} (s:ByteArray) (h:ti t=some x) (hd:x.desc= .string) (hs:s.size≤maxLen):Shape ti t [.str s]
 | slice {t x e y} (rows:List D) (h:ti t=some x) (hd:x.desc= .slice e) (he:ti e=some y) (hl:rows.length≤maxLen)
   (hf:∀r∈rows,r.fits (rowD y.desc) y.size) (hr:∀r∈rows,Shape ti e r.cells):Shape ti t [.list (rowD y.desc) y.size rows]
 | struct {t x fs} (ds:List D) (h:ti t=some x) (hd:x.desc= .struct fs) (hl:ds.length=x.size) (hg:∀c∈ds,c.isAgg=false)
   (hr:∀f∈fs.toList,∀y,ti f.type=some y→Shape ti f.type ((ds.drop f.offset).take y.size)):Shape ti t ds
def chain (ti:Types):Nat→List Field→Option Nat
 | off,[]=>some off
 | off,f::r=>if f.offset=off then match ti f.type with
   | some y=>chain ti (off+y.size) r
   | none=>none
  else none
theorem chain_le {ti:Types}:∀{fs:List Field}{off tot:Nat},chain ti off fs=some tot→off≤tot∧∀f∈fs,off≤f.offset∧∃y,ti f.type=some y
 | [],off,tot,h=>by simp[chain]at h;subst h;exact⟨Nat.le_refl _,by simp⟩
 | f::fs,off,tot,h=>by
  unfold chain at h
  split at h
  ·rename_i ho
   split at h
   ·rename_i y hy
    obtain⟨h1,h2⟩:=chain_le h
    refine⟨by omega,fun f' hf'=>?_⟩
    rcases List.mem_cons.1 hf' with rfl | hf'
    ·exact⟨by omega,y,hy⟩
    ·exact⟨by have:=(h2 f' hf').1;omega,(h2 f' hf').2⟩
   ·simp at h
  ·simp at h
def plainB (ti:Types) (T:List TypeId):Bool:=
 T.all fun t=>match ti t with
  | some x=>match x.desc with
   | .bool | .int _ | .string=>x.size==1
   | .slice e=>T.contains e&&(x.size==1)&&(match ti e with
    | some y=>decide (0<y.size)&&(rowD y.desc || y.size==1)
    | none=>false)
   | .struct fs=>(chain ti 0 fs.toList==some x.size)&&fs.toList.all fun f=>T.contains f.type
   | _=>false
  | none=>false
theorem choose_list {Q:Nat→D→Prop}:∀n,(∀i,i<n→∃r,Q i r)→∃l:List D,l.length=n∧∀i r,l[i]?=some r→Q i r
 | 0,_=>⟨[],rfl,by simp⟩
 | n+1,h=>by
  obtain⟨l,h1,h2⟩:=choose_list n (fun i hi=>h i (by omega))
  obtain⟨r,hr⟩:=h n (by omega)
  refine⟨l++[r],by simp[h1],fun i r' hi=>?_⟩
  by_cases hl:i<l.length
  ·rw[List.getElem?_append_left hl]at hi;exact h2 i r' hi
  ·rw[List.getElem?_append_right (by omega)]at hi
   have hin:i=n:=by
    by_cases he:i=n
    ·exact he
    ·rw[List.getElem?_eq_none (by simp;omega)]at hi;simp at hi
   subst hin
   rw[h1]at hi
   simp at hi
   subst hi
   exact hr
def RelDs (w:World) (Z:Zone) (ds:List D) (cs:List Value):Prop:=
 ds.length=cs.length∧(∀c∈ds,c.isAgg=false)∧∀(j:Nat) c u,ds[j]?=some c→cs[j]?=some u→RelD w Z c u
theorem relDs_one {w:World}{Z:Zone}{c:D}{u:Value}(hc:c.isAgg=false) (h:RelD w Z c u):RelDs w Z [c] [u]:=
 ⟨rfl,by simpa using hc,fun j c' u' h1 h2=>by
  match j with
  | 0=>simp at h1 h2;subst h1;subst h2;exact h
  | j+1=>simp at h1⟩
theorem conv_fields {w:World}{Z:Zone}{ti:Types}{cs:List Value}:∀(fs:List Field) (off tot:Nat),chain ti off fs=some tot→tot≤cs.length→
  (∀f∈fs,∀y,ti f.type=some y→∃ds,Shape ti f.type ds∧RelDs w Z ds ((cs.drop f.offset).take y.size))→
  ∃ds,RelDs w Z ds ((cs.drop off).take (tot - off))∧∀f∈fs,∀y,ti f.type=some y→Shape ti f.type ((ds.drop (f.offset - off)).take y.size)
 | [],off,tot,h,_,_=>by
  simp[chain]at h
  subst h
  exact⟨[],⟨by simp,by simp,by simp⟩,by simp⟩
 | f::fs,off,tot,h,hl,hx=>by
  unfold chain at h
  split at h
  ·rename_i ho
   split at h
   ·rename_i y hy
    obtain⟨hle,hoff⟩:=chain_le h
    obtain⟨ds',⟨a1,a2,a3⟩,hs'⟩:=conv_fields fs _ tot h hl (fun f' hf'=>hx f' (List.mem_cons_of_mem _ hf'))
    obtain⟨p,hp,b1,b2,b3⟩:=hx f (by simp) y hy
    rw[ho]at b1 b3
    have hpl:p.length=y.size:=by rw[b1];simp;omega
    refine⟨p++ds',⟨?_,?_,?_⟩,fun f' hf' y' hy'=>?_⟩
    ·simp at a1 ⊢;omega
    ·intro c hc
     rcases List.mem_append.1 hc with hc | hc
     ·exact b2 c hc
     ·exact a2 c hc
    ·intro j c u hc hu
     rw[List.getElem?_take]at hu
     split at hu
     ·rename_i hj
      rw[List.getElem?_drop]at hu
      by_cases hjp:j<p.length
      ·rw[List.getElem?_append_left hjp]at hc
       refine b3 j c u hc ?_
       rw[List.getElem?_take,if_pos (by omega),List.getElem?_drop];exact hu
      ·rw[List.getElem?_append_right (by omega)]at hc
       refine a3 (j - p.length) c u hc ?_
       rw[List.getElem?_take,if_pos (by omega),List.getElem?_drop,←hu]
       congr 1
       omega
     ·simp at hu
    ·rcases List.mem_cons.1 hf' with rfl | hf'
     ·rw[hy]at hy'
      obtain rfl:y=y':=by simpa using hy'
      rw[ho,Nat.sub_self,List.drop_zero,List.take_append_of_le_length (by omega),List.take_of_length_le (by omega)]
      exact hp
     ·have h1:=(hoff f' hf').1
      have:=hs' f' hf' y' hy'
      rw[List.drop_append,List.drop_of_length_le (by omega),List.nil_append]
      rw[show f'.offset - off - p.length=f'.offset - (off+y.size)from by omega]
      exact this
   ·simp at h
  ·simp at h
theorem cellsOf_ti {P:Program}{ti:Types}(hti:TIok P ti) {t:TypeId}{x:TI}(h:ti t=some x):P.cellsOf t=x.size:=by
 obtain⟨_,i,h1,h2,_⟩:=hti t x h
 simp[Program.cellsOf,h1,h2]
theorem conv {H:Type}{enc:TypeId×Value→H}{P:Program}{ti:Types}(hti:TIok P ti) {T:List TypeId}(hT:plainB ti T=true) {w:World}{base:Nat}{spare:Nat→Bool}{held:Bool}{Z:Zone}(hZ:∀b o,¬Z b o):
  ∀(fuel:Nat) (t:TypeId) (cs:List Value) (d:DataW H) (ps:List MemPlace),t∈T→DataW.trod enc P w base spare held fuel t cs=some (d,ps)→∃ds,Shape ti t ds∧RelDs w Z ds cs
 | 0,t,cs,d,ps,_,h=>by simp[DataW.trod]at h
 | fuel+1,t,cs,d,ps,ht,h=>by
  have hp:=hT
  unfold plainB at hp
  have hp:=List.all_eq_true.1 hp t ht
  split at hp
  ·rename_i x hx
   have hu:=(hti t x hx).1
   have hcs:=cellsOf_ti hti hx
   split at hp
   ·rename_i hd
    rw[hd]at hu
    unfold DataW.trod at h
    simp only[hu]at h
    split at h<;>simp_all
    exact⟨_,.bool _ hx hd,relDs_one rfl (.bool _)⟩
   ·rename_i k hd
    rw[hd]at hu
    unfold DataW.trod at h
    simp only[hu]at h
    split at h<;>simp_all
    obtain⟨⟨rfl,hw⟩,_⟩:=h
    exact⟨_,.int _ hx hd hw,relDs_one rfl (.int _ _)⟩
   ·rename_i hd
    rw[hd]at hu
    unfold DataW.trod at h
    simp only[hu]at h
    split at h<;>simp_all
    exact⟨_,.str _ hx hd h.1,relDs_one rfl (.str _)⟩
   ·rename_i e hd
    rw[hd]at hu
    simp only[Bool.and_eq_true]at hp
    obtain⟨⟨he,_⟩,hp⟩:=hp
    have he:e∈T:=by simpa using he
    split at hp
    ·rename_i y hy
     simp only[Bool.and_eq_true,decide_eq_true_eq]at hp
     have hey:=cellsOf_ti hti hy
     unfold DataW.trod at h
     simp only[hu]at h
     split at h<;>rename_i hq<;>try cases hq
     ·exact⟨_,.slice [] hx hd hy (by simp) (by simp) (by simp),relDs_one rfl (relD_nil _ _)⟩
     ·rename_i a len cap
      rw[hey]at h
      split at h
      ·rename_i hg
       obtain⟨elems,he1,_⟩:=Option.bind_eq_some_iff.1 h
       have hel:elems.length=len:=by simpa using mapM_some_length he1
       have each:∀i,i<len→∃cs' ds,(w.cells? base (a.add (i*y.size)) y.size)=some cs'∧Shape ti e ds∧RelDs w Z ds cs':=by
        intro i hi
        have h1:=mapM_some_get he1 i i (by simp[hi])
        rw[List.getElem?_eq_getElem (by omega:i<elems.length)]at h1
        obtain⟨cs',h2,h3⟩:=Option.bind_eq_some_iff.1 h1
        obtain⟨ds,h4,h5⟩:=conv hti hT hZ fuel e cs' _ _ he h3
        exact⟨cs',ds,h2,h4,h5⟩
       have hspot:0<len→a.spot=none:=by
        intro hl
        obtain⟨cs',_,h2,_⟩:=each 0 hl
        obtain⟨_,h3,h4⟩:=World.cells?_some h2
        have h5:=h4 0 hp.1
        rw[List.getElem?_eq_getElem (by omega)]at h5
        simp only[Nat.zero_mul,Addr.add,if_true]at h5
        unfold World.cell? at h5
        split at h5
        ·split at h5
         ·cases h5
         ·rename_i hs;simpa using hs
        ·cases h5
       obtain⟨rows,hrl,hrows⟩:=choose_list (Q:=fun i r=>r.fits (rowD y.desc) y.size∧Shape ti e r.cells∧∀(j:Nat) c,r.cells[j]?=some c→
         ∃u,w.cell? ⟨a.block,a.off+(i*y.size+j),none⟩=some u∧RelD w Z c u) len (fun i hi=>by
        obtain⟨cs',ds,h2,h3,h4⟩:=each i hi
        obtain⟨_,h5,h6⟩:=World.cells?_some h2
        have hdl:ds.length=y.size:=h4.1.trans h5
        obtain⟨r,hr1,hr2⟩:∃r:D,r.cells=ds∧r.isAgg=rowD y.desc:=by
         cases hrw:rowD y.desc with
         | true=>exact⟨.agg ds,rfl,rfl⟩
         | false=>
          rw[hrw]at hp
          have:y.size=1:=by simpa using hp.2
          obtain⟨c,rfl⟩:=List.length_eq_one_iff.1 (hdl.trans this)
          have hc:=h4.2.1 c (by simp)
          exact⟨c,by cases c<;>first | rfl | simp[D.isAgg]at hc,hc⟩
        refine⟨r,⟨hr2,by rw[hr1,hdl],by rw[hr1];exact h4.2.1⟩,by rw[hr1];exact h3,fun j c hc=>?_⟩
        rw[hr1]at hc
        have hj:j<y.size:=by rw[←hdl];exact (List.getElem?_eq_some_iff.1 hc).1
        have h7:=h6 j hj
        have ha:(a.add (i*y.size)).add j=⟨a.block,a.off+(i*y.size+j),none⟩:=by
         have:=hspot (by omega)
         obtain⟨ab,ao,asp⟩:=a
         simp only at this
         subst this
         unfold Addr.add
         split<;>split<;>simp_all<;>omega
        rw[ha,List.getElem?_eq_getElem (by omega:j<cs'.length)]at h7
        exact⟨_,h7,h4.2.2 j c _ hc (List.getElem?_eq_getElem (by omega:j<cs'.length))⟩)
       refine⟨_,.slice rows hx hd hy (by omega) (fun r hr=>?_) (fun r hr=>?_),relDs_one rfl ?_⟩
       ·obtain⟨i,hi⟩:=List.mem_iff_getElem?.1 hr
        exact (hrows i r hi).1
       ·obtain⟨i,hi⟩:=List.mem_iff_getElem?.1 hr
        exact (hrows i r hi).2.1
       ·rw[←hrl]
        refine .list _ _ rows (some a) cap a.block a.off (fun i j=>(w.cell? ⟨a.block,a.off+(i*y.size+j),none⟩).getD undef) (by omega) hg.2.2 (fun r hr=>?_) (fun hne=>?_) (fun i r j c hr hc=>?_) (fun i r j c hr hc=>?_)
        ·obtain⟨i,hi⟩:=List.mem_iff_getElem?.1 hr
         exact (hrows i r hi).1
        ·have:=hspot (by rw[←hrl];exact List.length_pos_iff.2 hne)
         obtain⟨ab,ao,asp⟩:=a
         simp only at this
         rw[this]
        ·obtain⟨u,hu1,_⟩:=(hrows i r hr).2.2 j c hc
         rw[hu1]
         exact⟨rfl,hZ _ _⟩
        ·obtain⟨u,hu1,hu2⟩:=(hrows i r hr).2.2 j c hc
         rw[hu1]
         exact hu2
      ·cases h
     ·cases h
    ·simp at hp
   ·rename_i fs hd
    rw[hd]at hu
    simp only[Bool.and_eq_true,beq_iff_eq]at hp
    obtain⟨hch,hfs⟩:=hp
    unfold DataW.trod at h
    simp only[hu]at h
    split at h<;>rename_i hq<;>try cases hq
    ·obtain⟨xs,hxs,_⟩:=Option.map_eq_some_iff.1 h
     obtain⟨ds,h1,h2⟩:=conv_fields (w:=w) (Z:=Z) (cs:=cs) fs.toList 0 x.size hch (by omega) (fun f hf y hy=>by
      obtain⟨i,hi⟩:=List.mem_iff_getElem?.1 hf
      have h3:=mapM_some_get hxs i f hi
      have hil:i<xs.length:=by rw[mapM_some_length hxs];exact (List.getElem?_eq_some_iff.1 hi).1
      rw[List.getElem?_eq_getElem hil,cellsOf_ti hti hy]at h3
      have hfT:f.type∈T:=by simpa using List.all_eq_true.1 hfs f hf
      exact conv hti hT hZ fuel f.type _ _ _ hfT h3)
     rw[List.drop_zero,Nat.sub_zero,List.take_of_length_le (by omega)]at h1
     exact⟨ds,.struct ds hx hd (by rw[h1.1];omega) h1.2.1 (fun f hf y hy=>by simpa using h2 f hf y hy),h1⟩
    ·cases h
   ·simp at hp
  ·simp at hp
end Go.AM
namespace Go.AM
open Go
structure AllR (L L':List D) (r:Nat→Bool) (R:Bool):Prop where
 len:L.length≠L'.length→R=false
 bad:∀i,i<L.length→i<L'.length→r i=false→R=false
 good:L.length=L'.length→(∀i,i<L.length→r i=true)→R=true
theorem AllR.of (L L':List D) (r:Nat→Bool):AllR L L' r (decide (L.length=L'.length∧∀i,i<L.length→r i=true)) where
 len h:=by simp[h]
 bad i h1 h2 h:=by
  rw[decide_eq_false_iff_not]
  rintro⟨_,h3⟩
  rw[h3 i h1]at h
  cases h
 good h1 h2:=by rw[decide_eq_true_iff];exact⟨h1,h2⟩
section
variable {ti:Types}{t e:TypeId}{x y:TI}{ds:List D}{fs:Array Field}{k:IntKind}
theorem Shape.int_inv (h:Shape ti t ds) (hx:ti t=some x) (hd:x.desc= .int k):∃n,ds=[.int k n]∧(Lit.int k n).wf=true:=by
 cases h<;>simp_all
theorem Shape.str_inv (h:Shape ti t ds) (hx:ti t=some x) (hd:x.desc= .string):∃s,ds=[.str s]∧s.size≤maxLen:=by
 cases h<;>simp_all
theorem Shape.slice_inv (h:Shape ti t ds) (hx:ti t=some x) (hd:x.desc= .slice e) (hy:ti e=some y):
  ∃rows,ds=[.list (rowD y.desc) y.size rows]∧rows.length≤maxLen∧(∀r∈rows,r.fits (rowD y.desc) y.size)∧∀r∈rows,Shape ti e r.cells:=by
 cases h with
 | slice rows h1 h2 h3 h4 h5 h6=>
  rw[hx]at h1
  obtain rfl:=Option.some.inj h1
  rw[hd]at h2
  obtain rfl:=TypeDesc.slice.inj h2
  rw[hy]at h3
  obtain rfl:=Option.some.inj h3
  exact⟨rows,rfl,h4,h5,h6⟩
 | _=>simp_all
theorem Shape.struct_inv (h:Shape ti t ds) (hx:ti t=some x) (hd:x.desc= .struct fs):
  ds.length=x.size∧(∀c∈ds,c.isAgg=false)∧∀f∈fs.toList,∀y,ti f.type=some y→Shape ti f.type ((ds.drop f.offset).take y.size):=by
 cases h with
 | struct ds h1 h2 h3 h4 h5=>
  rw[hx]at h1
  obtain rfl:=Option.some.inj h1
  rw[hd]at h2
  obtain rfl:=TypeDesc.struct.inj h2
  exact⟨h3,h4,h5⟩
 | _=>simp_all
end
open Classical in
theorem AllR.same (L L':List D):AllR L L' (fun i=>decide (L[i]?=L'[i]?)) (decide (L=L')) where
 len h:=by rw[decide_eq_false_iff_not];rintro rfl;exact h rfl
 bad i h1 h2 h:=by
  rw[decide_eq_false_iff_not]at h ⊢
  rintro rfl;exact h rfl
 good h1 h2:=by
  rw[decide_eq_true_iff]
  refine List.ext_getElem? fun i=>?_
  by_cases hi:i<L.length
  ·exact of_decide_eq_true (h2 i hi)
  ·rw[List.getElem?_eq_none (by omega),List.getElem?_eq_none (by omega)]
def tyD (ti:Types) (t:TypeId):TI:=
 match ti t with
 | some x=>x
 | none=>⟨.bool,0,0,.bool false,[]⟩
theorem bytes_eq {a b:ByteArray}:(a.toList==b.toList)=true↔a=b:=by
 constructor
 ·intro h
  have h:=beq_iff_eq.1 h
  rw[ByteArray.toList_eq,ByteArray.toList_eq]at h
  exact ByteArray.ext (Array.ext' h)
 ·rintro rfl;simp
theorem toList_inj {a b:ByteArray}:a.toList=b.toList↔a=b:=by rw[←bytes_eq,beq_iff_eq]
theorem bytes_ne {a b:ByteArray}:(a.toList==b.toList)=false↔a≠b:=by
 rw[←Bool.not_eq_true,bytes_eq]
end Go.AM
namespace Go.AM
open Go
section
variable {α γ:Type}
def letF (z:Int) (k:Int→Option γ):Option γ:=k z
theorem letF_inv {z:Int}{k:Int→Option γ}{r:γ}(h:letF z k=some r):∃y,z=y∧k y=some r:=⟨z,rfl,h⟩
def lenF (L:List D) (k:Int→Option γ):Option γ:=k L.length
theorem lenF_inv (M:Mach) {L:List D}{k:Int→Option γ}{r:γ}(h:lenF L k=some r):∃y,M.lenI L=y∧k y=some r:=⟨L.length,M.lenI_eq L,h⟩
def szF (s:ByteArray) (k:Int→Option γ):Option γ:=k s.size
theorem szF_inv (M:Mach) {s:ByteArray}{k:Int→Option γ}{r:γ}(h:szF s k=some r):∃y,M.szI s=y∧k y=some r:=⟨s.size,M.szI_eq s,h⟩
def getF (L:List D) (i:Int) (k:D→Option γ):Option γ:=if 0≤i then (match L[i.toNat]? with | some x=>k x | none=>none)else none
theorem getF_inv {L:List D}{i:Int}{k:D→Option γ}{r:γ}(h:getF L i k=some r):∃x,(0≤i∧L[i.toNat]?=some x)∧k x=some r:=by
 unfold getF at h
 split at h
 ·rename_i h0
  split at h
  ·rename_i x hx
   exact⟨x,⟨h0,hx⟩,h⟩
  ·cases h
 ·cases h
theorem getF_some {L:List D}{i:Int}{k:D→Option γ}{x:D}(h0:0≤i) (hx:L[i.toNat]?=some x):getF L i k=k x:=by
 unfold getF
 rw[if_pos h0,hx]
def needF (p:Prop) [Decidable p] (x:Option γ):Option γ:=if p then x else none
theorem needF_inv {p:Prop} [Decidable p] {x:Option γ}{r:γ}(h:needF p x=some r):p∧x=some r:=by
 unfold needF at h
 split at h
 ·rename_i hp
  exact⟨hp,h⟩
 ·cases h
theorem ite_t {p:Prop} [Decidable p] {x y r:Option γ}(hp:p) (h:(if p then x else y)=r):x=r:=by rwa [if_pos hp]at h
theorem ite_f {p:Prop} [Decidable p] {x y r:Option γ}(hp:¬p) (h:(if p then x else y)=r):y=r:=by rwa [if_neg hp]at h
def appF (b:Nat) (L M:List D) (k:List D→Option γ):Option γ:=if L.length+M.length≤maxLen∧(L.length+M.length)*b≤140737488355328 then k (L++M)else none
theorem appF_inv {b:Nat}{L M:List D}{k:List D→Option γ}{r:γ}(h:appF b L M k=some r):∃out,(L.length+M.length≤maxLen∧(L.length+M.length)*b≤140737488355328)∧L++M=out∧k out=some r:=by
 unfold appF at h
 split at h
 ·rename_i hb
  exact⟨_,hb,rfl,h⟩
 ·cases h
open Classical in
noncomputable def nilF (L:List D) (A B:Option γ):Option γ:=if L=[]then (if A=B then B else none)else B
theorem nilF_inv {L:List D}{A B:Option γ}{r:γ}(h:nilF L A B=some r):B=some r∧(L=[]→A=some r):=by
 unfold nilF at h
 split at h
 ·split at h
  ·rename_i e;exact⟨h,fun _=>e▸h⟩
  ·cases h
 ·rename_i hn;exact⟨h,fun e=>absurd e hn⟩
theorem nilF_eq {L:List D}{A B:Option γ}(h:L=[]→A=B):nilF L A B=B:=by
 unfold nilF
 split
 ·rename_i e;rw[if_pos (h e)]
 ·rfl
theorem nil_both {L:List D}{K0 K1:Prop}(h0:K0) (h1:L=[]→K1):(L≠[]→K0)∧(L=[]→K1∧K0):=⟨fun _=>h0,fun e=>⟨h1 e,h0⟩⟩
def letL (L:List D) (k:List D→Option γ):Option γ:=k L
theorem letL_inv {L:List D}{k:List D→Option γ}{r:γ}(h:letL L k=some r):∃out,L=out∧k out=some r:=⟨L,rfl,h⟩
def setF (L:List D) (i:Nat) (x:D) (k:List D→Option γ):Option γ:=k (L.set i x)
theorem setF_inv {L:List D}{i:Nat}{x:D}{k:List D→Option γ}{r:γ}(h:setF L i x k=some r):∃out,L.set i x=out∧k out=some r:=⟨_,rfl,h⟩
def getN (L:List D) (i:Nat) (k:D→Option γ):Option γ:=match L[i]? with | some x=>k x | none=>none
theorem getN_inv {L:List D}{i:Nat}{k:D→Option γ}{r:γ}(h:getN L i k=some r):∃x,L[i]?=some x∧k x=some r:=by
 unfold getN at h
 split at h
 ·rename_i x hx
  exact⟨x,hx,h⟩
 ·cases h
def atF (s:ByteArray) (i:Int) (k:Int→Option γ):Option γ:=if 0≤i then (match (s[i.toNat]?).map (fun u=>(u.toNat:Int))with | some z=>k z | none=>none)else none
theorem atF_inv {s:ByteArray}{i:Int}{k:Int→Option γ}{r:γ}(h:atF s i k=some r):∃z,(0≤i∧(s[i.toNat]?).map (fun u=>(u.toNat:Int))=some z)∧k z=some r:=by
 unfold atF at h
 split at h
 ·rename_i h0
  split at h
  ·rename_i z hz
   exact⟨z,⟨h0,hz⟩,h⟩
  ·cases h
 ·cases h
def bO0 (x:Option Unit) (k:Option γ):Option γ:=match x with | some _=>k | none=>none
theorem bO0_inv {x:Option Unit}{k:Option γ}{r:γ}(h:bO0 x k=some r):x=some ()∧k=some r:=by
 cases x with
 | none=>cases h
 | some u=>exact⟨rfl,h⟩
def bO1 {A1:Type}(x:Option (A1)) (k:A1→Option γ):Option γ:=match x with | some p=>k p | none=>none
theorem bO1_inv {A1:Type}{x:Option (A1)}{k:A1→Option γ}{r:γ}(h:bO1 x k=some r):∃a1,x=some a1∧k a1=some r:=by
 cases x with
 | none=>cases h
 | some p=>exact⟨_,rfl,h⟩
def bO2 {A1 A2:Type}(x:Option (A1×A2)) (k:A1→A2→Option γ):Option γ:=match x with | some p=>k p.1 p.2 | none=>none
theorem bO2_inv {A1 A2:Type}{x:Option (A1×A2)}{k:A1→A2→Option γ}{r:γ}(h:bO2 x k=some r):∃a1 a2,x=some (a1,a2)∧k a1 a2=some r:=by
 cases x with
 | none=>cases h
 | some p=>exact⟨_,_,rfl,h⟩
theorem inj2 {A1 A2:Type}{a1 b1:A1}{a2 b2:A2}(h:some (a1,a2)=some (b1,b2)):a1=b1∧a2=b2:=by
 cases h
 exact⟨rfl,rfl⟩
def bO3 {A1 A2 A3:Type}(x:Option (A1×A2×A3)) (k:A1→A2→A3→Option γ):Option γ:=match x with | some p=>k p.1 p.2.1 p.2.2 | none=>none
theorem bO3_inv {A1 A2 A3:Type}{x:Option (A1×A2×A3)}{k:A1→A2→A3→Option γ}{r:γ}(h:bO3 x k=some r):∃a1 a2 a3,x=some (a1,a2,a3)∧k a1 a2 a3=some r:=by
 cases x with
 | none=>cases h
 | some p=>exact⟨_,_,_,rfl,h⟩
theorem inj3 {A1 A2 A3:Type}{a1 b1:A1}{a2 b2:A2}{a3 b3:A3}(h:some (a1,a2,a3)=some (b1,b2,b3)):a1=b1∧a2=b2∧a3=b3:=by
 cases h
 exact⟨rfl,rfl,rfl⟩
def bO4 {A1 A2 A3 A4:Type}(x:Option (A1×A2×A3×A4)) (k:A1→A2→A3→A4→Option γ):Option γ:=match x with | some p=>k p.1 p.2.1 p.2.2.1 p.2.2.2 | none=>none
theorem bO4_inv {A1 A2 A3 A4:Type}{x:Option (A1×A2×A3×A4)}{k:A1→A2→A3→A4→Option γ}{r:γ}(h:bO4 x k=some r):∃a1 a2 a3 a4,x=some (a1,a2,a3,a4)∧k a1 a2 a3 a4=some r:=by
 cases x with
 | none=>cases h
 | some p=>exact⟨_,_,_,_,rfl,h⟩
theorem inj4 {A1 A2 A3 A4:Type}{a1 b1:A1}{a2 b2:A2}{a3 b3:A3}{a4 b4:A4}(h:some (a1,a2,a3,a4)=some (b1,b2,b3,b4)):a1=b1∧a2=b2∧a3=b3∧a4=b4:=by
 cases h
 exact⟨rfl,rfl,rfl,rfl⟩
def bO7 {A1 A2 A3 A4 A5 A6 A7:Type}(x:Option (A1×A2×A3×A4×A5×A6×A7)) (k:A1→A2→A3→A4→A5→A6→A7→Option γ):Option γ:=match x with | some p=>k p.1 p.2.1 p.2.2.1 p.2.2.2.1 p.2.2.2.2.1 p.2.2.2.2.2.1 p.2.2.2.2.2.2 | none=>none
theorem bO7_inv {A1 A2 A3 A4 A5 A6 A7:Type}{x:Option (A1×A2×A3×A4×A5×A6×A7)}{k:A1→A2→A3→A4→A5→A6→A7→Option γ}{r:γ}(h:bO7 x k=some r):∃a1 a2 a3 a4 a5 a6 a7,x=some (a1,a2,a3,a4,a5,a6,a7)∧k a1 a2 a3 a4 a5 a6 a7=some r:=by
 cases x with
 | none=>cases h
 | some p=>exact⟨_,_,_,_,_,_,_,rfl,h⟩
theorem inj7 {A1 A2 A3 A4 A5 A6 A7:Type}{a1 b1:A1}{a2 b2:A2}{a3 b3:A3}{a4 b4:A4}{a5 b5:A5}{a6 b6:A6}{a7 b7:A7}(h:some (a1,a2,a3,a4,a5,a6,a7)=some (b1,b2,b3,b4,b5,b6,b7)):a1=b1∧a2=b2∧a3=b3∧a4=b4∧a5=b5∧a6=b6∧a7=b7:=by
 cases h
 exact⟨rfl,rfl,rfl,rfl,rfl,rfl,rfl⟩
def bO10 {A1 A2 A3 A4 A5 A6 A7 A8 A9 A10:Type}(x:Option (A1×A2×A3×A4×A5×A6×A7×A8×A9×A10)) (k:A1→A2→A3→A4→A5→A6→A7→A8→A9→A10→Option γ):Option γ:=match x with | some p=>k p.1 p.2.1 p.2.2.1 p.2.2.2.1 p.2.2.2.2.1 p.2.2.2.2.2.1 p.2.2.2.2.2.2.1 p.2.2.2.2.2.2.2.1 p.2.2.2.2.2.2.2.2.1 p.2.2.2.2.2.2.2.2.2 | none=>none
theorem bO10_inv {A1 A2 A3 A4 A5 A6 A7 A8 A9 A10:Type}{x:Option (A1×A2×A3×A4×A5×A6×A7×A8×A9×A10)}{k:A1→A2→A3→A4→A5→A6→A7→A8→A9→A10→Option γ}{r:γ}(h:bO10 x k=some r):∃a1 a2 a3 a4 a5 a6 a7 a8 a9 a10,x=some (a1,a2,a3,a4,a5,a6,a7,a8,a9,a10)∧k a1 a2 a3 a4 a5 a6 a7 a8 a9 a10=some r:=by
 cases x with
 | none=>cases h
 | some p=>exact⟨_,_,_,_,_,_,_,_,_,_,rfl,h⟩
theorem inj10 {A1 A2 A3 A4 A5 A6 A7 A8 A9 A10:Type}{a1 b1:A1}{a2 b2:A2}{a3 b3:A3}{a4 b4:A4}{a5 b5:A5}{a6 b6:A6}{a7 b7:A7}{a8 b8:A8}{a9 b9:A9}{a10 b10:A10}(h:some (a1,a2,a3,a4,a5,a6,a7,a8,a9,a10)=some (b1,b2,b3,b4,b5,b6,b7,b8,b9,b10)):a1=b1∧a2=b2∧a3=b3∧a4=b4∧a5=b5∧a6=b6∧a7=b7∧a8=b8∧a9=b9∧a10=b10:=by
 cases h
 exact⟨rfl,rfl,rfl,rfl,rfl,rfl,rfl,rfl,rfl,rfl⟩
def bO14 {A1 A2 A3 A4 A5 A6 A7 A8 A9 A10 A11 A12 A13 A14:Type}(x:Option (A1×A2×A3×A4×A5×A6×A7×A8×A9×A10×A11×A12×A13×A14)) (k:A1→A2→A3→A4→A5→A6→A7→A8→A9→A10→A11→A12→A13→A14→Option γ):Option γ:=match x with | some p=>k p.1 p.2.1 p.2.2.1 p.2.2.2.1 p.2.2.2.2.1 p.2.2.2.2.2.1 p.2.2.2.2.2.2.1 p.2.2.2.2.2.2.2.1 p.2.2.2.2.2.2.2.2.1 p.2.2.2.2.2.2.2.2.2.1 p.2.2.2.2.2.2.2.2.2.2.1 p.2.2.2.2.2.2.2.2.2.2.2.1 p.2.2.2.2.2.2.2.2.2.2.2.2.1 p.2.2.2.2.2.2.2.2.2.2.2.2.2 | none=>none
theorem bO14_inv {A1 A2 A3 A4 A5 A6 A7 A8 A9 A10 A11 A12 A13 A14:Type}{x:Option (A1×A2×A3×A4×A5×A6×A7×A8×A9×A10×A11×A12×A13×A14)}{k:A1→A2→A3→A4→A5→A6→A7→A8→A9→A10→A11→A12→A13→A14→Option γ}{r:γ}(h:bO14 x k=some r):∃a1 a2 a3 a4 a5 a6 a7 a8 a9 a10 a11 a12 a13 a14,x=some (a1,a2,a3,a4,a5,a6,a7,a8,a9,a10,a11,a12,a13,a14)∧k a1 a2 a3 a4 a5 a6 a7 a8 a9 a10 a11 a12 a13 a14=some r:=by
 cases x with
 | none=>cases h
 | some p=>exact⟨_,_,_,_,_,_,_,_,_,_,_,_,_,_,rfl,h⟩
theorem inj14 {A1 A2 A3 A4 A5 A6 A7 A8 A9 A10 A11 A12 A13 A14:Type}{a1 b1:A1}{a2 b2:A2}{a3 b3:A3}{a4 b4:A4}{a5 b5:A5}{a6 b6:A6}{a7 b7:A7}{a8 b8:A8}{a9 b9:A9}{a10 b10:A10}{a11 b11:A11}{a12 b12:A12}{a13 b13:A13}{a14 b14:A14}(h:some (a1,a2,a3,a4,a5,a6,a7,a8,a9,a10,a11,a12,a13,a14)=some (b1,b2,b3,b4,b5,b6,b7,b8,b9,b10,b11,b12,b13,b14)):a1=b1∧a2=b2∧a3=b3∧a4=b4∧a5=b5∧a6=b6∧a7=b7∧a8=b8∧a9=b9∧a10=b10∧a11=b11∧a12=b12∧a13=b13∧a14=b14:=by
 cases h
 exact⟨rfl,rfl,rfl,rfl,rfl,rfl,rfl,rfl,rfl,rfl,rfl,rfl,rfl,rfl⟩
def bO15 {A1 A2 A3 A4 A5 A6 A7 A8 A9 A10 A11 A12 A13 A14 A15:Type}(x:Option (A1×A2×A3×A4×A5×A6×A7×A8×A9×A10×A11×A12×A13×A14×A15)) (k:A1→A2→A3→A4→A5→A6→A7→A8→A9→A10→A11→A12→A13→A14→A15→Option γ):Option γ:=match x with | some p=>k p.1 p.2.1 p.2.2.1 p.2.2.2.1 p.2.2.2.2.1 p.2.2.2.2.2.1 p.2.2.2.2.2.2.1 p.2.2.2.2.2.2.2.1 p.2.2.2.2.2.2.2.2.1 p.2.2.2.2.2.2.2.2.2.1 p.2.2.2.2.2.2.2.2.2.2.1 p.2.2.2.2.2.2.2.2.2.2.2.1 p.2.2.2.2.2.2.2.2.2.2.2.2.1 p.2.2.2.2.2.2.2.2.2.2.2.2.2.1 p.2.2.2.2.2.2.2.2.2.2.2.2.2.2 | none=>none
theorem bO15_inv {A1 A2 A3 A4 A5 A6 A7 A8 A9 A10 A11 A12 A13 A14 A15:Type}{x:Option (A1×A2×A3×A4×A5×A6×A7×A8×A9×A10×A11×A12×A13×A14×A15)}{k:A1→A2→A3→A4→A5→A6→A7→A8→A9→A10→A11→A12→A13→A14→A15→Option γ}{r:γ}(h:bO15 x k=some r):∃a1 a2 a3 a4 a5 a6 a7 a8 a9 a10 a11 a12 a13 a14 a15,x=some (a1,a2,a3,a4,a5,a6,a7,a8,a9,a10,a11,a12,a13,a14,a15)∧k a1 a2 a3 a4 a5 a6 a7 a8 a9 a10 a11 a12 a13 a14 a15=some r:=by
 cases x with
 | none=>cases h
 | some p=>exact⟨_,_,_,_,_,_,_,_,_,_,_,_,_,_,_,rfl,h⟩
theorem inj15 {A1 A2 A3 A4 A5 A6 A7 A8 A9 A10 A11 A12 A13 A14 A15:Type}{a1 b1:A1}{a2 b2:A2}{a3 b3:A3}{a4 b4:A4}{a5 b5:A5}{a6 b6:A6}{a7 b7:A7}{a8 b8:A8}{a9 b9:A9}{a10 b10:A10}{a11 b11:A11}{a12 b12:A12}{a13 b13:A13}{a14 b14:A14}{a15 b15:A15}(h:some (a1,a2,a3,a4,a5,a6,a7,a8,a9,a10,a11,a12,a13,a14,a15)=some (b1,b2,b3,b4,b5,b6,b7,b8,b9,b10,b11,b12,b13,b14,b15)):a1=b1∧a2=b2∧a3=b3∧a4=b4∧a5=b5∧a6=b6∧a7=b7∧a8=b8∧a9=b9∧a10=b10∧a11=b11∧a12=b12∧a13=b13∧a14=b14∧a15=b15:=by
 cases h
 exact⟨rfl,rfl,rfl,rfl,rfl,rfl,rfl,rfl,rfl,rfl,rfl,rfl,rfl,rfl,rfl⟩
def bO16 {A1 A2 A3 A4 A5 A6 A7 A8 A9 A10 A11 A12 A13 A14 A15 A16:Type}(x:Option (A1×A2×A3×A4×A5×A6×A7×A8×A9×A10×A11×A12×A13×A14×A15×A16)) (k:A1→A2→A3→A4→A5→A6→A7→A8→A9→A10→A11→A12→A13→A14→A15→A16→Option γ):Option γ:=match x with | some p=>k p.1 p.2.1 p.2.2.1 p.2.2.2.1 p.2.2.2.2.1 p.2.2.2.2.2.1 p.2.2.2.2.2.2.1 p.2.2.2.2.2.2.2.1 p.2.2.2.2.2.2.2.2.1 p.2.2.2.2.2.2.2.2.2.1 p.2.2.2.2.2.2.2.2.2.2.1 p.2.2.2.2.2.2.2.2.2.2.2.1 p.2.2.2.2.2.2.2.2.2.2.2.2.1 p.2.2.2.2.2.2.2.2.2.2.2.2.2.1 p.2.2.2.2.2.2.2.2.2.2.2.2.2.2.1 p.2.2.2.2.2.2.2.2.2.2.2.2.2.2.2 | none=>none
theorem bO16_inv {A1 A2 A3 A4 A5 A6 A7 A8 A9 A10 A11 A12 A13 A14 A15 A16:Type}{x:Option (A1×A2×A3×A4×A5×A6×A7×A8×A9×A10×A11×A12×A13×A14×A15×A16)}{k:A1→A2→A3→A4→A5→A6→A7→A8→A9→A10→A11→A12→A13→A14→A15→A16→Option γ}{r:γ}(h:bO16 x k=some r):∃a1 a2 a3 a4 a5 a6 a7 a8 a9 a10 a11 a12 a13 a14 a15 a16,x=some (a1,a2,a3,a4,a5,a6,a7,a8,a9,a10,a11,a12,a13,a14,a15,a16)∧k a1 a2 a3 a4 a5 a6 a7 a8 a9 a10 a11 a12 a13 a14 a15 a16=some r:=by
 cases x with
 | none=>cases h
 | some p=>exact⟨_,_,_,_,_,_,_,_,_,_,_,_,_,_,_,_,rfl,h⟩
theorem inj16 {A1 A2 A3 A4 A5 A6 A7 A8 A9 A10 A11 A12 A13 A14 A15 A16:Type}{a1 b1:A1}{a2 b2:A2}{a3 b3:A3}{a4 b4:A4}{a5 b5:A5}{a6 b6:A6}{a7 b7:A7}{a8 b8:A8}{a9 b9:A9}{a10 b10:A10}{a11 b11:A11}{a12 b12:A12}{a13 b13:A13}{a14 b14:A14}{a15 b15:A15}{a16 b16:A16}(h:some (a1,a2,a3,a4,a5,a6,a7,a8,a9,a10,a11,a12,a13,a14,a15,a16)=some (b1,b2,b3,b4,b5,b6,b7,b8,b9,b10,b11,b12,b13,b14,b15,b16)):a1=b1∧a2=b2∧a3=b3∧a4=b4∧a5=b5∧a6=b6∧a7=b7∧a8=b8∧a9=b9∧a10=b10∧a11=b11∧a12=b12∧a13=b13∧a14=b14∧a15=b15∧a16=b16:=by
 cases h
 exact⟨rfl,rfl,rfl,rfl,rfl,rfl,rfl,rfl,rfl,rfl,rfl,rfl,rfl,rfl,rfl,rfl⟩
def bO18 {A1 A2 A3 A4 A5 A6 A7 A8 A9 A10 A11 A12 A13 A14 A15 A16 A17 A18:Type}(x:Option (A1×A2×A3×A4×A5×A6×A7×A8×A9×A10×A11×A12×A13×A14×A15×A16×A17×A18)) (k:A1→A2→A3→A4→A5→A6→A7→A8→A9→A10→A11→A12→A13→A14→A15→A16→A17→A18→Option γ):Option γ:=match x with | some p=>k p.1 p.2.1 p.2.2.1 p.2.2.2.1 p.2.2.2.2.1 p.2.2.2.2.2.1 p.2.2.2.2.2.2.1 p.2.2.2.2.2.2.2.1 p.2.2.2.2.2.2.2.2.1 p.2.2.2.2.2.2.2.2.2.1 p.2.2.2.2.2.2.2.2.2.2.1 p.2.2.2.2.2.2.2.2.2.2.2.1 p.2.2.2.2.2.2.2.2.2.2.2.2.1 p.2.2.2.2.2.2.2.2.2.2.2.2.2.1 p.2.2.2.2.2.2.2.2.2.2.2.2.2.2.1 p.2.2.2.2.2.2.2.2.2.2.2.2.2.2.2.1 p.2.2.2.2.2.2.2.2.2.2.2.2.2.2.2.2.1 p.2.2.2.2.2.2.2.2.2.2.2.2.2.2.2.2.2 | none=>none
theorem bO18_inv {A1 A2 A3 A4 A5 A6 A7 A8 A9 A10 A11 A12 A13 A14 A15 A16 A17 A18:Type}{x:Option (A1×A2×A3×A4×A5×A6×A7×A8×A9×A10×A11×A12×A13×A14×A15×A16×A17×A18)}{k:A1→A2→A3→A4→A5→A6→A7→A8→A9→A10→A11→A12→A13→A14→A15→A16→A17→A18→Option γ}{r:γ}(h:bO18 x k=some r):∃a1 a2 a3 a4 a5 a6 a7 a8 a9 a10 a11 a12 a13 a14 a15 a16 a17 a18,x=some (a1,a2,a3,a4,a5,a6,a7,a8,a9,a10,a11,a12,a13,a14,a15,a16,a17,a18)∧k a1 a2 a3 a4 a5 a6 a7 a8 a9 a10 a11 a12 a13 a14 a15 a16 a17 a18=some r:=by
 cases x with
 | none=>cases h
 | some p=>exact⟨_,_,_,_,_,_,_,_,_,_,_,_,_,_,_,_,_,_,rfl,h⟩
theorem inj18 {A1 A2 A3 A4 A5 A6 A7 A8 A9 A10 A11 A12 A13 A14 A15 A16 A17 A18:Type}{a1 b1:A1}{a2 b2:A2}{a3 b3:A3}{a4 b4:A4}{a5 b5:A5}{a6 b6:A6}{a7 b7:A7}{a8 b8:A8}{a9 b9:A9}{a10 b10:A10}{a11 b11:A11}{a12 b12:A12}{a13 b13:A13}{a14 b14:A14}{a15 b15:A15}{a16 b16:A16}{a17 b17:A17}{a18 b18:A18}(h:some (a1,a2,a3,a4,a5,a6,a7,a8,a9,a10,a11,a12,a13,a14,a15,a16,a17,a18)=some (b1,b2,b3,b4,b5,b6,b7,b8,b9,b10,b11,b12,b13,b14,b15,b16,b17,b18)):a1=b1∧a2=b2∧a3=b3∧a4=b4∧a5=b5∧a6=b6∧a7=b7∧a8=b8∧a9=b9∧a10=b10∧a11=b11∧a12=b12∧a13=b13∧a14=b14∧a15=b15∧a16=b16∧a17=b17∧a18=b18:=by
 cases h
 exact⟨rfl,rfl,rfl,rfl,rfl,rfl,rfl,rfl,rfl,rfl,rfl,rfl,rfl,rfl,rfl,rfl,rfl,rfl⟩
end
end Go.AM
namespace Go.AM
open Go
def sI (n:Nat) (z:Int):Nat×AV:=(n,.v (.d (.int .i64 z)))
def sU (n:Nat) (z:Int):Nat×AV:=(n,.v (.d (.int .u8 z)))
def sB (n:Nat) (b:Bool):Nat×AV:=(n,.v (.d (.bool b)))
def sT (n s:Nat) (l:List D):Nat×AV:=(n,.v (.d (.list true s l)))
def sF (n s:Nat) (l:List D):Nat×AV:=(n,.v (.d (.list false s l)))
def sL (n i:Nat):Nat×AV:=(n,.v (.c (.ptr (.loc i) 0)))
def sE (n i:Nat):Nat×AV:=(n,.v (.c (.ptr (.ext i) 0)))
def sS (n:Nat) (b:ByteArray):Nat×AV:=(n,.v (.d (.str b)))
abbrev LD:=List D
abbrev BA:=ByteArray
theorem itT {γ:Type}{x y r:Option γ}(h:(if true=true then x else y)=r):x=r:=h
theorem itF {γ:Type}{x y r:Option γ}(h:(if false=true then x else y)=r):y=r:=h
end Go.AM
namespace Go.AM
open Go Go.RowKit
theorem Trip.ofCallsT {P:Program}{I:Inv}{f:FuncId}{xs:List D}{res:AV}(hf:∃fn c,P.funcs[f]?=some fn∧fn.body=some c∧(fn.name== "runtime.NumGoroutine")=false)
  (h:∀(w:World) (Z:Zone) (vals:Array Value),I.rel w→vals.size=xs.length→(∀(j:Nat) x v,xs[j]?=some x→vals[j]?=some v→RelD w Z x v)→
   Calls P f vals w fun e w'=>∃v,e= .returned v∧ApartW (fun _=>False) w w'∧∀Z' g' h',(∀b o,Z' b o→b<w.heap.size)→RelAV w' Z' g' h' res v):Trip P I f (xs.map V1.d) [] res [] []:=by
 refine Trip.mk' hf fun w X g vals hX hI RH hg hsz hargs=>?_
 have none:∀{i o},heapOf [] i=some o→False:=by
  intro i o h
  cases i<;>simp[heapOf]at h
 have none2:∀{i o},heapOf2 [] [] i=some o→False:=by
  intro i o h
  cases i<;>simp[heapOf2]at h
 refine (h w (zor (zone g (heapOf [])) X) vals hI.1 (by simpa using hsz) (fun j x v hx hv=>hargs j (.d x) v (by simp[hx]) hv)).mono ?_
 rintro e w' ⟨v,rfl,A,hr⟩
 refine⟨v,g,rfl,⟨⟨fun i o hi=>(none2 hi).elim,fun i j oi oj b hi=>(none2 hi).elim,fun i oi b o hi=>(none2 hi).elim⟩,hr _ _ _ ?_,?_,fun j=>.refl _,fun i ob b o hi=>(none2 hi).elim,fun k _=>hg k⟩⟩
 ·rintro b o (⟨i,ob,hi,_⟩ | hx)
  ·exact (none2 hi).elim
  ·exact hX b o hx
 ·exact⟨A.os,A.tape,A.output,A.size,fun b hb _=>A.block b hb id,fun b o u hu _=>A.cell hu id⟩
theorem grow_apart {w w':World}(h:w'.os=w.os) (h1:w'.tape=w.tape) (h2:w'.output=w.output) (h3:w.heap.size≤w'.heap.size) (h4:∀b,b<w.heap.size→w'.heap[b]?=w.heap[b]?):ApartW (fun _=>False) w w':=
 ⟨h,h1,h2,h3,fun b hb _=>h4 b hb⟩
end Go.AM
namespace Go.AM
open Go Go.RowKit
section
variable {α β γ:Type}
def bS (x:Option (α ⊕ β)) (k1:α→Option γ) (k2:β→Option γ):Option γ:=
 match x with
 | some (.inl a)=>k1 a
 | some (.inr b)=>k2 b
 | none=>none
theorem bS_inv {x:Option (α ⊕ β)}{k1:α→Option γ}{k2:β→Option γ}{r:γ}(h:bS x k1 k2=some r):(∃a,x=some (.inl a)∧k1 a=some r)∨∃b,x=some (.inr b)∧k2 b=some r:=by
 unfold bS at h
 split at h
 ·exact .inl ⟨_,rfl,h⟩
 ·exact .inr ⟨_,rfl,h⟩
 ·cases h
end
section
variable {γ:Type}
def letB (b:Bool) (k:Bool→Option γ):Option γ:=k b
theorem letB_inv {b:Bool}{k:Bool→Option γ}{r:γ}(h:letB b k=some r):∃y,b=y∧k y=some r:=⟨b,rfl,h⟩
def findF (e:Bool) (key:D) (rows:List D) (k1:D→Option γ) (k0:Option γ):Option γ:=
 match findR e key rows with
 | some (some y)=>k1 y
 | some none=>k0
 | none=>none
theorem findF_inv {e:Bool}{key:D}{rows:List D}{k1:D→Option γ}{k0:Option γ}{r:γ}(h:findF e key rows k1 k0=some r):(∃y,findR e key rows=some (some y)∧k1 y=some r)∨(findR e key rows=some none∧k0=some r):=by
 unfold findF at h
 split at h
 ·rename_i y hy
  exact .inl ⟨y,hy,h⟩
 ·rename_i hy
  exact .inr ⟨hy,h⟩
 ·cases h
def putF (key:D) (ws rows:List D) (k:List D→Option γ):Option γ:=
 match putR key ws rows with
 | some r=>k r
 | none=>none
theorem putF_inv {key:D}{ws rows:List D}{k:List D→Option γ}{r:γ}(h:putF key ws rows k=some r):∃out,putR key ws rows=some out∧k out=some r:=by
 unfold putF at h
 split at h
 ·rename_i out ho
  exact⟨out,ho,h⟩
 ·cases h
end
def cL:Code→Code
 | .seq a _=>a
 | .cond _ a _=>a
 | .block _ b=>b
 | .loop b=>b
 | .rangeFunc _ _ a _=>a
 | c=>c
def cR:Code→Code
 | .seq _ b=>b
 | .cond _ _ b=>b
 | .rangeFunc _ _ _ b=>b
 | c=>c
def cP:Code→Array Tmp
 | .rangeFunc _ p _ _=>p
 | _=>#[]
def bodyOf (fn:Func):Code:=
 match fn.body with
 | some c=>c
 | none=>.skip
def slOK (s:Slots):List (Nat×AV)→Prop
 | []=>True
 | (t,v)::r=>s t=v∧slOK s r
theorem slOK_get {s:Slots}:∀{sl:List (Nat×AV)},slOK s sl→∀t,getS sl t= .u∨getS sl t=s t
 | [],_,_=>.inl rfl
 | (k,v)::r,h,t=>by
  show (match Nat.beq k t with | true=>v | false=>getS r t)= .u∨(match Nat.beq k t with | true=>v | false=>getS r t)=s t
  cases e:Nat.beq k t with
  | true=>exact .inr (by rw[←Nat.eq_of_beq_eq_true e];exact h.1.symm)
  | false=>exact slOK_get h.2 t
theorem eqv_eq {a b q:Bool}(h:(a==b)=q):eqvB a b=q:=(eqvB_eq a b).trans h
theorem eqv_ne {a b q:Bool}(h:(!(a==b))=q):notB (eqvB a b)=q:=by rw[eqvB_eq,notB_eq];exact h
theorem not_eq' {a q:Bool}(h:(!a)=q):notB a=q:=by rw[notB_eq];exact h
theorem seq_go {M:Mach}{ea eb:St→(AExit→St→Prop)→Prop}{σ:St}{K:AExit→St→Prop}(h:ea σ fun e σ'=>match e with
  | .normal=>eb σ' K
  | .exit id=>K (.exit id) σ'
  | .ret=>K .ret σ'):M.lock fun _=>seqP ea eb σ K:=(M.lock_iff _).2 (.inl h)
theorem seq_join {M:Mach}{ea eb:St→(AExit→St→Prop)→Prop}{σ:St}{K:AExit→St→Prop}{T:Type}(S:T→St) (I:T→Prop)
  (ha:ea σ fun e σ'=>match e with
   | .normal=>∃σ'',Weak σ' σ''∧∃t,I t∧σ''=S t
   | .exit id=>K (.exit id) σ'
   | .ret=>K .ret σ') (hb:∀t,I t→eb (S t) K):M.lock fun _=>seqP ea eb σ K:=by
 refine (M.lock_iff _).2 (.inr ⟨fun σ=>∃t,I t∧σ=S t,ha,?_⟩)
 rintro σ2 ⟨t,hi,rfl⟩
 exact hb t hi
theorem join_nextG {T:Type}{I:T→Prop}{S:T→St}{σ2:St}(t':T) (gs:List Gh) (l:List (Nat×Nat)) (ks:List Nat) (is:List Id) (nx:Nat) (hI:I t') (hk:gh gs σ2 fun σ=>keepR ks is nx l σ (·=S t')):
  ∃σ'',Weak σ2 σ''∧∃t,I t∧σ''=S t:=by
 obtain⟨σ1,hw1,h1⟩:=gh_weak hk
 obtain⟨σ',hw,e⟩:=keepR_weak h1
 exact⟨σ',Weak.trans hw1 hw,t',hI,e⟩
theorem join_next {T:Type}{I:T→Prop}{S:T→St}{σ2:St}(t':T) (ks:List Nat) (is:List Id) (nx:Nat) (hI:I t') (hk:keep ks is nx σ2 (·=S t')):
  ∃σ'',Weak σ2 σ''∧∃t,I t∧σ''=S t:=by
 obtain⟨σ',hw,e⟩:=keep_weak hk
 exact⟨σ',hw,t',hI,e⟩
section
variable {M:Mach}{P:Program}{I:Inv}
theorem RoundK.of' {ti:Types}(hti:TIok P ti) (h1:TIone ti) (hm:P.follows .mixedOrders=true) {r:RF}{sl:List (Nat×AV)}{args:List V1}{pre:List AObj}{Q:Jump→List AObj→List AObj→Prop}{nt:Nat}{ps:List Tmp}{ca cb:Code}
  (hnt:r.nt=nt) (hpl:r.params.toList=ps) (ha:r.assign=ca) (hb:r.body=cb) (hlen:args.length=ps.length) (hps:allB (fun p=>Nat.blt p nt) ps=true)
  (hx:∀M:Mach,M.P=P→M.I=I→exec M ti nt (execDraw ti M nt) ca ⟨putPs ps args sl,extsOf pre 0,0⟩ fun e σ=>match e with
   | .normal=>exec M ti nt (execDraw ti M nt) cb σ fun e σ=>∃post new,Q (jumpOf e) post new∧FinR σ post new
   | _=>False):RoundK P I r sl args pre Q:=by
 subst hnt
 subst hpl
 subst ha
 subst hb
 exact RoundK.intro (fun M nt=>execDraw ti M nt) hti h1 (draw_P hti h1 hm) (by simpa using hlen) hps hx
theorem finQ_go {Q:AV→List AObj→List AObj→Prop}{ti:Types}{rs:List ResultVar}{σ:St}{res:AV}{post new:List AObj}(hQ:Q res post new)
  (h:withRes ti σ rs fun xs=>∃nm:List Id,nodupB nm=true∧mkRes xs=res.ren (renN nm σ.next)∧postOK (getH σ.heap) (renN nm σ.next) post 0∧newOK (getH σ.heap) (renN nm σ.next) new nm∧handOK post nm):
  ∃r p n,Q r p n∧Fin' ti rs σ r p n:=⟨_,_,_,hQ,[],h⟩
theorem yl_with {A:Prop}{ti:Types}{o:Oper}{c:Call}{f:Operand}{fresh:Nat}{σ:St}{K:St→Prop}{i:Id}{r:Unit→RF}{sl sl0:List (Nat×AV)}{xs targs:List V1}{pre post new:List AObj}{j:Jump}
  (hP:M.P=P) (hI:M.I=I) (m:List Id) (ho:o.op= .call c) (hc:c.callee= .value f) (hf:opd ti (getS σ.slots) 0 f= .v (.c (.yl i))) (hr:getH σ.heap i=some (.rnd r sl))
  (hR:RoundK P I (r ()) sl0 targs pre fun j' p n=>j'=j∧p=post∧n=new) (hxs:vals1 (opsArgs ti (getS σ.slots) c.args.toList c.argTypes.toList)=some xs)
  (he:xs=targs.map (V1.ren (renM (m++[i]) fresh))) (hsl:sl=renSl (renM (m++[i]) fresh) sl0) (hm:(m++[i]).Nodup) (hpre:preOK (getH σ.heap) (renM (m++[i]) fresh) m pre) (hkd:allKinds pre post) (hn:new.length≤31)
  (hk:K ⟨putS σ.slots o.dst (.v (.d (.bool j.isNone))),setW σ.heap (wrM (m++[i]) (renM (m++[i]) fresh) (post++[putRec j r sl0])++wrNew fresh (renM (m++[i]) fresh) 0 new),fresh⟩):
  M.lock fun _=>A∨callK M ti o fresh σ K:=by
 refine call_in ?_
 unfold callK
 rw[ho]
 simp only[]
 rw[hc]
 simp only[]
 refine⟨⟨σ.slots,σ.heap,fresh⟩,Weak.refl _,rfl,?_⟩
 simp only[hf]
 unfold withArgs
 rw[hxs]
 simp only[hr]
 refine⟨m,targs,pre,sl0,_,hP▸hI▸hR,he,hsl,(preOK_get hpre).1,hm,(preOK_get hpre).2,?_⟩
 rintro j' post' new' ⟨rfl,rfl,rfl⟩
 exact⟨⟨hkd,hn⟩,hk⟩
def callFV (M:Mach) (ti:Types) (o:Oper) (c:Call) (f:Operand) (fresh:Nat) (σ:St) (K:St→Prop):Prop:=
 match opd ti (getS σ.slots) 0 f with
 | .v (.c (.fn n cap))=>withArgs (opsArgs ti (getS σ.slots) c.args.toList c.argTypes.toList) fun xs=>callFn M o.dst fresh σ n (xs++cap.map fun i=>V1.c (.ptr i 0)) K
 | _=>False
theorem call_gs {A:Prop}{ti:Types}{o:Oper}{c:Call}{f:Operand}{fresh:Nat}{σ:St}{K:St→Prop}(gs:List Gh) (ho:o.op= .call c) (hc:c.callee= .value f)
  (hk:gh gs ⟨σ.slots,σ.heap,fresh⟩ fun σ'=>σ'.next=fresh∧M.lock fun _=>callFV M ti o c f fresh σ' K):M.lock fun _=>A∨callK M ti o fresh σ K:=by
 refine call_in ?_
 obtain⟨σ',hw,hn,hk⟩:=gh_weak hk
 have hk:=(M.lock_iff _).1 hk
 unfold callK
 rw[ho]
 simp only[]
 rw[hc]
 simp only[]
 refine⟨σ',hw,hn,?_⟩
 unfold callFV at hk
 split at hk
 ·rename_i n cap h
  rw[h]
  exact hk
 ·exact hk.elim
theorem callfv_with {ti:Types}{o:Oper}{c:Call}{f:Operand}{fresh:Nat}{σ:St}{K:St→Prop}{n:FuncId}{cap:List Id}{xs targs:List V1}{pre post new:List AObj}{res:AV}(hP:M.P=P) (hI:M.I=I) (m:List Id)
  (hf:opd ti (getS σ.slots) 0 f= .v (.c (.fn n cap))) (hxs:vals1 (opsArgs ti (getS σ.slots) c.args.toList c.argTypes.toList)=some xs) (ht:Trip P I n targs pre res post new)
  (he:(xs++cap.map fun i=>V1.c (.ptr i 0))=targs.map (V1.ren (renM m fresh))) (hm:m.Nodup) (hpre:preOK (getH σ.heap) (renM m fresh) m pre) (hkd:allKinds pre post) (hn:new.length≤31)
  (hk:K ⟨putS σ.slots o.dst (res.ren (renM m fresh)),setW σ.heap (wrM m (renM m fresh) post++wrNew fresh (renM m fresh) 0 new),σ.next⟩):M.lock fun _=>callFV M ti o c f fresh σ K:=by
 refine (M.lock_iff _).2 ?_
 unfold callFV
 rw[hf]
 simp only[]
 unfold withArgs
 rw[hxs]
 refine⟨m,targs,pre,_,hP▸hI▸ht,he,(preOK_get hpre).1,hm,(preOK_get hpre).2,?_⟩
 rintro res' post' new' ⟨rfl,rfl,rfl⟩
 exact⟨⟨hkd,hn⟩,hk⟩
theorem op_must {ti:Types}{o:Oper}{fresh:Nat}{σ:St}{K:St→Prop}(gs:List Gh) (hk:gh gs ⟨σ.slots,σ.heap,fresh⟩ fun σ'=>σ'.next=fresh∧plOp M ti o fresh σ' K):M.lock fun _=>ghOp M ti o fresh σ K:=by
 obtain⟨σ',hw,hn,hk⟩:=gh_weak hk
 exact (M.lock_iff _).2 ⟨σ',hw,hn,hk⟩
theorem op_gs {ti:Types}{o:Oper}{fresh:Nat}{σ:St}{K:St→Prop}(gs:List Gh) (hk:gh gs ⟨σ.slots,σ.heap,fresh⟩ fun σ'=>σ'.next=fresh∧plOp M ti o fresh σ' K):M.lock fun _=>plOp M ti o fresh σ K∨ghOp M ti o fresh σ K:=
 (M.lock_iff _).2 (.inr ((M.lock_iff _).1 (op_must gs hk)))
theorem range_with {ti:Types}{nt:Nat}{g:Operand}{ps:Array Tmp}{assign body:Code}{σ:St}{K:AExit→St→Prop}{n:FuncId}{cap:List Id}{targs:List V1}{pre post new:List AObj}{res:AV}
  (hP:M.P=P) (hI:M.I=I) (m:List Id) (sl:List (Nat×AV)) (hg:opd ti (getS σ.slots) 0 g= .v (.c (.fn n cap))) (hsl:slOK (getS σ.slots) sl)
  (ht:Trip P I n targs pre res post new) (he:(V1.c (.yl (.loc σ.next))::cap.map fun i=>V1.c (.ptr i 0))=targs.map (V1.ren (renM m (σ.next+32)))) (hm:m.Nodup)
  (hpre:preOK (getH (setH σ.heap (.loc σ.next) (.rnd (fun _=>⟨ps,assign,body,nt⟩) sl))) (renM m (σ.next+32)) m pre) (hkd:allKinds pre post) (hn:new.length≤31)
  (hk:match getH (setW (setH σ.heap (.loc σ.next) (.rnd (fun _=>⟨ps,assign,body,nt⟩) sl)) (wrM m (renM m (σ.next+32)) post++wrNew (σ.next+32) (renM m (σ.next+32)) 0 new)) (.loc σ.next)with
   | some (.rnd _ _)=>K .normal ⟨σ.slots,setH (setW (setH σ.heap (.loc σ.next) (.rnd (fun _=>⟨ps,assign,body,nt⟩) sl)) (wrM m (renM m (σ.next+32)) post++wrNew (σ.next+32) (renM m (σ.next+32)) 0 new)) (.loc σ.next) .gone,σ.next+64⟩
   | some (.rndX j)=>(match j with
    | none=>K .ret ⟨σ.slots,setH (setW (setH σ.heap (.loc σ.next) (.rnd (fun _=>⟨ps,assign,body,nt⟩) sl)) (wrM m (renM m (σ.next+32)) post++wrNew (σ.next+32) (renM m (σ.next+32)) 0 new)) (.loc σ.next) .gone,σ.next+64⟩
    | some id=>K (.exit id) ⟨σ.slots,setH (setW (setH σ.heap (.loc σ.next) (.rnd (fun _=>⟨ps,assign,body,nt⟩) sl)) (wrM m (renM m (σ.next+32)) post++wrNew (σ.next+32) (renM m (σ.next+32)) 0 new)) (.loc σ.next) .gone,σ.next+64⟩)
   | _=>False):
  M.lock fun _=>rangeP M ti nt g ps assign body σ K:=by
 refine (M.lock_iff _).2 ⟨σ,Weak.refl _,?_⟩
 rw[hg]
 refine⟨sl,slOK_get hsl,m,targs,pre,_,hP▸hI▸ht,he,(preOK_get hpre).1,hm,(preOK_get hpre).2,?_⟩
 rintro res' post' new' ⟨rfl,rfl,rfl⟩
 exact⟨⟨hkd,hn⟩,hk⟩
end
end Go.AM
namespace Go.AM
open Go
def slB (d:Nat) (b:Bool) (l:List (Nat×AV)):List Nat→List (Nat×AV)
 | []=>[]
 | k::r=>(match Nat.beq k d with
  | true=>(k,.v (.d (.bool b)))
  | false=>(k,getS l k))::slB d b l r
def hpB (h:List (Id×AObj)):List Id→List (Id×AObj)
 | []=>[]
 | i::r=>(match getH h i with
  | some o=>(i,o)::hpB h r
  | none=>hpB h r)
def stB (d:Nat) (ks:List Nat) (is:List Id) (nx:Nat) (σ:St) (b:Bool):St:=⟨slB d b σ.slots ks,hpB σ.heap is,nx⟩
theorem seq_joinB {M:Mach}{ea eb:St→(AExit→St→Prop)→Prop}{σ:St}{K:AExit→St→Prop}(d:Nat) (ks:List Nat) (is:List Id) (nx:Nat) (I:Nat→Bool→Prop)
  (ha:ea σ fun e σ'=>match e with
   | .normal=>∃σ'',Weak σ' σ''∧∃t:Nat×Bool,I t.1 t.2∧σ''=stB d ks is nx σ t.2
   | .exit id=>K (.exit id) σ'
   | .ret=>K .ret σ') (hb:∀t:Nat×Bool,I t.1 t.2→eb (stB d ks is nx σ t.2) K):M.lock fun _=>seqP ea eb σ K:=
 seq_join (fun t:Nat×Bool=>stB d ks is nx σ t.2) (fun t=>I t.1 t.2) ha hb
end Go.AM
namespace Go.Proofs.YtjmofeakajdbiaaGreatDoor
open Go Go.AM
theorem fol:Tryz.prog.follows .mixedOrders=true:=by kernel_rfl
theorem var_same {P:Program}{name:String}{g:Nat}(hg:P.globalNamed name=some g) {w w':World}(h:w'.heap[g]?=w.heap[g]?):w'.var? P name=w.var? P name:=by
 unfold World.var?
 rw[hg]
 simp only[Option.bind_some,h]
theorem space_no:∃g,Tryz.prog.globalNamed "strings.asciiSpace" =some g:=⟨0,by kernel_rfl⟩
def inv:Inv:=⟨fun b=>Tryz.prog.globalNamed "strings.asciiSpace" =some b,fun w=>Lib.TabIs Tryz.prog w "strings.asciiSpace" .u8 Lib.asciiSpaceTab,fun h hr=>by
 obtain⟨g,hg⟩:=space_no
 unfold Lib.TabIs at hr ⊢
 rw[var_same hg (h g hg)]
 exact hr⟩
end Go.Proofs.YtjmofeakajdbiaaGreatDoor
namespace Go.Proofs
open Go.Shelf
def Tryz.lays157_ren:Go.Shelf.Ren:=⟨fun | 157=>152 | 229=>153 | 199=>154 | 261=>155 | 311=>156 | 312=>157 | n=>n,fun | 9=>9 | 31=>34 | 3=>3 | 5=>5 | 4=>4 | 119=>155 | 0=>0 | 40=>157 | 152=>158 | 21=>21 | 154=>160 | 51=>161 | 141=>163 | 196=>167 | 193=>164 | 198=>170 | 49=>168 | 194=>165 | 201=>173 | 226=>175 | 46=>176 | 227=>177 | n=>n,fun | 0=>0 | 6=>1 | n=>n⟩
theorem Tryz.lays157:Go.Proofs.Lays.n157 Tryz.prog Tryz.lays157_ren:={
 mixed:=by kernel_rfl
 f157:=Tryz.func152.trans (congrArg some (by kernel_rfl))
 f199:=Tryz.func154.trans (congrArg some (by kernel_rfl))
 f229:=Tryz.func153.trans (congrArg some (by kernel_rfl))
 f261:=Tryz.func155.trans (congrArg some (by kernel_rfl))
 f311:=Tryz.func156.trans (congrArg some (by kernel_rfl))
 f312:=Tryz.func157.trans (congrArg some (by kernel_rfl))
 t0:=Tryz.underlying0
 a0:=Tryz.isAgg0
 z0:=Tryz.sizeOf0
 v0:=Tryz.zeroValue0
 t3:=Tryz.underlying3
 a3:=Tryz.isAgg3
 z3:=Tryz.sizeOf3
 v3:=Tryz.zeroValue3
 t4:=Tryz.underlying4
 a4:=Tryz.isAgg4
 z4:=Tryz.sizeOf4
 v4:=Tryz.zeroValue4
 t5:=Tryz.underlying5
 a5:=Tryz.isAgg5
 z5:=Tryz.sizeOf5
 v5:=Tryz.zeroValue5
 t9:=Tryz.underlying9
 a9:=Tryz.isAgg9
 z9:=Tryz.sizeOf9
 v9:=Tryz.zeroValue9
 t21:=Tryz.underlying21
 a21:=Tryz.isAgg21
 z21:=Tryz.sizeOf21
 v21:=Tryz.zeroValue21
 t31:=Tryz.underlying34
 a31:=Tryz.isAgg34
 z31:=Tryz.sizeOf34
 v31:=Tryz.zeroValue34
 t40:=Tryz.underlying157
 a40:=Tryz.isAgg157
 z40:=Tryz.sizeOf157
 v40:=Tryz.zeroValue157
 t46:=Tryz.underlying176
 a46:=Tryz.isAgg176
 z46:=Tryz.sizeOf176
 v46:=Tryz.zeroValue176
 t49:=Tryz.underlying168
 a49:=Tryz.isAgg168
 z49:=Tryz.sizeOf168
 v49:=Tryz.zeroValue168
 t51:=Tryz.underlying161
 a51:=Tryz.isAgg161
 z51:=Tryz.sizeOf161
 v51:=Tryz.zeroValue161
 t119:=Tryz.underlying155
 a119:=Tryz.isAgg155
 z119:=Tryz.sizeOf155
 t141:=Tryz.underlying163
 a141:=Tryz.isAgg163
 z141:=Tryz.sizeOf163
 v141:=Tryz.zeroValue163
 t152:=Tryz.underlying158
 a152:=Tryz.isAgg158
 z152:=Tryz.sizeOf158
 v152:=Tryz.zeroValue158
 t154:=Tryz.underlying160
 a154:=Tryz.isAgg160
 z154:=Tryz.sizeOf160
 v154:=Tryz.zeroValue160
 t193:=Tryz.underlying164
 a193:=Tryz.isAgg164
 z193:=Tryz.sizeOf164
 v193:=Tryz.zeroValue164
 t194:=Tryz.underlying165
 a194:=Tryz.isAgg165
 z194:=Tryz.sizeOf165
 v194:=Tryz.zeroValue165
 t196:=Tryz.underlying167
 a196:=Tryz.isAgg167
 z196:=Tryz.sizeOf167
 v196:=Tryz.zeroValue167
 t198:=Tryz.underlying170
 a198:=Tryz.isAgg170
 z198:=Tryz.sizeOf170
 v198:=Tryz.zeroValue170
 t201:=Tryz.underlying173
 a201:=Tryz.isAgg173
 z201:=Tryz.sizeOf173
 v201:=Tryz.zeroValue173
 t226:=Tryz.underlying175
 a226:=Tryz.isAgg175
 z226:=Tryz.sizeOf175
 v226:=Tryz.zeroValue175
 t227:=Tryz.underlying177
 a227:=Tryz.isAgg177
 z227:=Tryz.sizeOf177
 v227:=Tryz.zeroValue177
 g0:=by kernel_rfl
 g6:=by kernel_rfl}
open Go.RowKit Go.Lib in
theorem Tryz.strings_Fields (s:ByteArray) (w:World) (hs:s.size<4294967281) (hascii:∀(j:Nat) b,s.data.toList[j]?=some b→b.toNat<128) (htab:Lib.TabIs Tryz.prog w "strings.asciiSpace" .u8 Lib.asciiSpaceTab):
  Calls Tryz.prog 152 #[.string s] w fun e w'=>
   e= .returned (.slice (some ⟨w.heap.size,0,none⟩) (Lib.fields s.data.toList).length (Lib.fields s.data.toList).length)∧w'=w.alloc (.cells ((Lib.fields s.data.toList).map fun l=>Value.string ⟨l.toArray⟩).toArray 9):=Any.strings_Fields Tryz.lays157 (by kernel_rfl) (by kernel_rfl) s w hs hascii htab
end Go.Proofs
set_option linter.unusedVariables false
namespace Go.Proofs.YtjmofeakajdbiaaGreatDoor
open Go Go.AM
theorem two {vals:Array Value}(h:vals.size=2):∃v u,vals=#[v,u]:=
 ⟨vals[0],vals[1],by
  apply Array.ext
  ·simpa using h
  ·intro i h1 h2
   match i,h2 with
   | 0,_=>rfl
   | 1,_=>rfl⟩
def fieldsD (s:ByteArray):List D:=(Lib.fields s.data.toList).map fun l=>D.str ⟨l.toArray⟩
def F152 (n:Nat) (s:ByteArray):Option (List D):=if s.size<4294967281∧(s.data.toList.all fun b=>b.toNat<128)=true∧(Lib.fields s.data.toList).length≤maxLen then some (fieldsD s)else none
theorem T152 (n:Nat):∀⦃s:ByteArray⦄ ⦃r1:List D⦄,F152 n s=some r1→Trip Tryz.prog inv 152 [.d (.str s)] [] (.v (.d (.list false 1 r1))) [] []:=by
 intro s r1 h
 unfold F152 at h
 split at h
 ·rename_i hb
  cases h
  obtain⟨h1,h2,h3⟩:=hb
  refine Trip.ofCallsT (xs:=[.str s]) ⟨_,_,Tryz.func152,rfl,by kernel_rfl⟩ fun w Z vals hr hsz hv=>?_
  obtain⟨v,rfl⟩:∃v,vals=#[v]:=Array.size_eq_one_iff.1 hsz
  cases hv 0 _ _ rfl rfl
  refine (Tryz.strings_Fields s w h1 (fun j b hj=>by
   have:=List.all_eq_true.1 h2 b (List.mem_of_getElem? hj)
   simpa using this) hr).mono ?_
  rintro e w' ⟨rfl,rfl⟩
  refine⟨_,rfl,grow_apart rfl rfl rfl (by simp) (fun b hb=>Go.RowKit.Below.heap_alloc w _ b hb),fun Z' _ _ hZ=>?_⟩
  have hl:(fieldsD s).length=(Lib.fields s.data.toList).length:=by simp[fieldsD]
  show RelD _ Z' (.list false 1 (fieldsD s)) _
  rw[←hl]
  refine .list false 1 (fieldsD s) _ _ w.heap.size 0 (fun i _=>.string ⟨((Lib.fields s.data.toList).getD i []).toArray⟩) (Nat.le_refl _) (by rw[hl];exact h3) ?_ (fun _=>rfl) ?_ ?_
  ·intro r hr
   obtain⟨l,_,rfl⟩:=List.mem_map.1 hr
   exact⟨rfl,rfl,fun c hc=>by simp[D.cells]at hc;subst hc;rfl⟩
  ·intro i r j c hi hj
   have hi':((Lib.fields s.data.toList).map fun l=>D.str ⟨l.toArray⟩)[i]?=some r:=hi
   rw[List.getElem?_map,Option.map_eq_some_iff]at hi'
   obtain⟨l,hl',rfl⟩:=hi'
   match j with
   | 0=>
    refine⟨?_,fun hz=>absurd (hZ _ _ hz) (Nat.lt_irrefl _)⟩
    have:=heap_alloc_new w (.cells ((Lib.fields s.data.toList).map fun l=>Value.string ⟨l.toArray⟩).toArray 9)
    unfold World.cell?
    simp only[Nat.zero_add,Nat.mul_one,Nat.add_zero]
    rw[this]
    simp[hl']
   | j+1=>simp[D.cells]at hj
  ·intro i r j c hi hj
   have hi':((Lib.fields s.data.toList).map fun l=>D.str ⟨l.toArray⟩)[i]?=some r:=hi
   rw[List.getElem?_map,Option.map_eq_some_iff]at hi'
   obtain⟨l,hl',rfl⟩:=hi'
   match j with
   | 0=>
    simp[D.cells]at hj
    subst hj
    simp only[List.getD_eq_getElem?_getD,hl',Option.getD_some]
    exact .str _
   | j+1=>simp[D.cells]at hj
 ·cases h
end Go.Proofs.YtjmofeakajdbiaaGreatDoor
set_option maxRecDepth 100000
set_option maxHeartbeats 40000000
set_option linter.unusedVariables false
noncomputable section
namespace Go.Proofs.YtjmofeakajdbiaaGreatDoor
open Go Go.AM
def ds_t45 {γ:Type}(x:D) (k:Int->BA->LD->Int->BA->LD->LD->Int->Int->BA->BA->BA->LD->LD->Int->Int->Option γ):Option γ:=match x with | .agg [.int .u8 a0,.str a1,.list true 4 a2,.int .u8 a3,.str a4,.list true 3 a5,.list true 15 a6,.int .u8 a7,.int .i64 a8,.str a9,.str a10,.str a11,.list false 1 a12,.list true 8 a13,.int .i64 a14,.int .i64 a15]=>k a0 a1 a2 a3 a4 a5 a6 a7 a8 a9 a10 a11 a12 a13 a14 a15 | _=>none
theorem ds_t45_inv {γ:Type}{x:D}{k:Int->BA->LD->Int->BA->LD->LD->Int->Int->BA->BA->BA->LD->LD->Int->Int->Option γ}{r:γ}(h:ds_t45 x k=some r):∃a0 a1 a2 a3 a4 a5 a6 a7 a8 a9 a10 a11 a12 a13 a14 a15,x= .agg [.int .u8 a0,.str a1,.list true 4 a2,.int .u8 a3,.str a4,.list true 3 a5,.list true 15 a6,.int .u8 a7,.int .i64 a8,.str a9,.str a10,.str a11,.list false 1 a12,.list true 8 a13,.int .i64 a14,.int .i64 a15]/\k a0 a1 a2 a3 a4 a5 a6 a7 a8 a9 a10 a11 a12 a13 a14 a15=some r:=by
 unfold ds_t45 at h
 split at h
 ·exact⟨_,_,_,_,_,_,_,_,_,_,_,_,_,_,_,_,rfl,h⟩
 ·cases h
def ds_t74 {γ:Type}(x:D) (k:BA->Int->BA->LD->Option γ):Option γ:=match x with | .agg [.str a0,.int .u8 a1,.str a2,.list true 3 a3]=>k a0 a1 a2 a3 | _=>none
theorem ds_t74_inv {γ:Type}{x:D}{k:BA->Int->BA->LD->Option γ}{r:γ}(h:ds_t74 x k=some r):∃a0 a1 a2 a3,x= .agg [.str a0,.int .u8 a1,.str a2,.list true 3 a3]/\k a0 a1 a2 a3=some r:=by
 unfold ds_t74 at h
 split at h
 ·exact⟨_,_,_,_,rfl,h⟩
 ·cases h
def ds_t33 {γ:Type}(x:D) (k:Int->BA->LD->Option γ):Option γ:=match x with | .agg [.int .u8 a0,.str a1,.list true 3 a2]=>k a0 a1 a2 | _=>none
theorem ds_t33_inv {γ:Type}{x:D}{k:Int->BA->LD->Option γ}{r:γ}(h:ds_t33 x k=some r):∃a0 a1 a2,x= .agg [.int .u8 a0,.str a1,.list true 3 a2]/\k a0 a1 a2=some r:=by
 unfold ds_t33 at h
 split at h
 ·exact⟨_,_,_,rfl,h⟩
 ·cases h
def ds_t50 {γ:Type}(x:D) (k:Int->BA->BA->LD->Int->BA->LD->Int->BA->LD->LD->LD->LD->LD->Int->Option γ):Option γ:=match x with | .agg [.int .u8 a0,.str a1,.str a2,.list false 1 a3,.int .u8 a4,.str a5,.list true 3 a6,.int .i64 a7,.str a8,.list false 1 a9,.list true 8 a10,.list true 15 a11,.list true 15 a12,.list true 3 a13,.int .i64 a14]=>k a0 a1 a2 a3 a4 a5 a6 a7 a8 a9 a10 a11 a12 a13 a14 | _=>none
theorem ds_t50_inv {γ:Type}{x:D}{k:Int->BA->BA->LD->Int->BA->LD->Int->BA->LD->LD->LD->LD->LD->Int->Option γ}{r:γ}(h:ds_t50 x k=some r):∃a0 a1 a2 a3 a4 a5 a6 a7 a8 a9 a10 a11 a12 a13 a14,x= .agg [.int .u8 a0,.str a1,.str a2,.list false 1 a3,.int .u8 a4,.str a5,.list true 3 a6,.int .i64 a7,.str a8,.list false 1 a9,.list true 8 a10,.list true 15 a11,.list true 15 a12,.list true 3 a13,.int .i64 a14]/\k a0 a1 a2 a3 a4 a5 a6 a7 a8 a9 a10 a11 a12 a13 a14=some r:=by
 unfold ds_t50 at h
 split at h
 ·exact⟨_,_,_,_,_,_,_,_,_,_,_,_,_,_,_,rfl,h⟩
 ·cases h
def ds_str {γ:Type}(x:D) (k:BA->Option γ):Option γ:=match x with | .str a0=>k a0 | _=>none
theorem ds_str_inv {γ:Type}{x:D}{k:BA->Option γ}{r:γ}(h:ds_str x k=some r):∃a0,x= .str a0/\k a0=some r:=by
 unfold ds_str at h
 split at h
 ·exact⟨_,rfl,h⟩
 ·cases h
def ds_t39 {γ:Type}(x:D) (k:Int->Int->BA->BA->BA->LD->LD->Int->Option γ):Option γ:=match x with | .agg [.int .u8 a0,.int .i64 a1,.str a2,.str a3,.str a4,.list false 1 a5,.list true 8 a6,.int .i64 a7]=>k a0 a1 a2 a3 a4 a5 a6 a7 | _=>none
theorem ds_t39_inv {γ:Type}{x:D}{k:Int->Int->BA->BA->BA->LD->LD->Int->Option γ}{r:γ}(h:ds_t39 x k=some r):∃a0 a1 a2 a3 a4 a5 a6 a7,x= .agg [.int .u8 a0,.int .i64 a1,.str a2,.str a3,.str a4,.list false 1 a5,.list true 8 a6,.int .i64 a7]/\k a0 a1 a2 a3 a4 a5 a6 a7=some r:=by
 unfold ds_t39 at h
 split at h
 ·exact⟨_,_,_,_,_,_,_,_,rfl,h⟩
 ·cases h
def ds_t95 {γ:Type}(x:D) (k:BA->BA->LD->Option γ):Option γ:=match x with | .agg [.str a0,.str a1,.list true 15 a2]=>k a0 a1 a2 | _=>none
theorem ds_t95_inv {γ:Type}{x:D}{k:BA->BA->LD->Option γ}{r:γ}(h:ds_t95 x k=some r):∃a0 a1 a2,x= .agg [.str a0,.str a1,.list true 15 a2]/\k a0 a1 a2=some r:=by
 unfold ds_t95 at h
 split at h
 ·exact⟨_,_,_,rfl,h⟩
 ·cases h
def k_let_if_else_while_match_:BA:=⟨#[108,101,116,32,105,102,32,101,108,115,101,32,119,104,105,108,101,32,109,97,116,99,104,32,115,99,111,112,101,32,115,112,97,119,110,32,108,111,99,107,32,97,115,32,99,104,97,110,32,100,114,111,112,32,102,110,32,115,116,114,117,99,116,32,101,110,117,109,32,116,114,117,101,32,102,97,108,115,101,32,97,110,100,32,111,114,32,110,111,116,32,105,110,116,32,98,111,111,108,32,117,110,105,116,32,109,117,116,32,98,111,120,32,117,110,98,111,120,32,99,101,108,108,32,103,101,116,32,115,101,116,32,114,99,32,97,114,99,32,99,108,111,110,101,32,109,117,116,101,120,32,111,112,101,110,32,97,116,111,109,105,99,32,108,111,97,100,32,115,116,111,114,101,32,102,101,116,99,104,32,115,101,110,100,32,114,101,99,118,32,66,111,120,32,67,101,108,108,32,82,99,32,65,114,99,32,77,117,116,101,120,32,65,116,111,109,105,99,32,83,101,110,100,101,114,32,82,101,99,101,105,118,101,114]⟩
def ds_i64 {γ:Type}(x:D) (k:Int->Option γ):Option γ:=match x with | .int .i64 a0=>k a0 | _=>none
theorem ds_i64_inv {γ:Type}{x:D}{k:Int->Option γ}{r:γ}(h:ds_i64 x k=some r):∃a0,x= .int .i64 a0/\k a0=some r:=by
 unfold ds_i64 at h
 split at h
 ·exact⟨_,rfl,h⟩
 ·cases h
def k__:BA:=⟨#[42]⟩
def k_let:BA:=⟨#[108,101,116]⟩
def k_if:BA:=⟨#[105,102]⟩
def k_else:BA:=⟨#[101,108,115,101]⟩
def k_while:BA:=⟨#[119,104,105,108,101]⟩
def k_match:BA:=⟨#[109,97,116,99,104]⟩
def k_scope:BA:=⟨#[115,99,111,112,101]⟩
def k_spawn:BA:=⟨#[115,112,97,119,110]⟩
def k_lock:BA:=⟨#[108,111,99,107]⟩
def k_as:BA:=⟨#[97,115]⟩
def k_chan:BA:=⟨#[99,104,97,110]⟩
def k_drop:BA:=⟨#[100,114,111,112]⟩
def k_fn:BA:=⟨#[102,110]⟩
def k_struct:BA:=⟨#[115,116,114,117,99,116]⟩
def k_enum:BA:=⟨#[101,110,117,109]⟩
def k_true:BA:=⟨#[116,114,117,101]⟩
def k_false:BA:=⟨#[102,97,108,115,101]⟩
def k_and:BA:=⟨#[97,110,100]⟩
def k_or:BA:=⟨#[111,114]⟩
def k_not:BA:=⟨#[110,111,116]⟩
def k_int:BA:=⟨#[105,110,116]⟩
def k_bool:BA:=⟨#[98,111,111,108]⟩
def k_unit:BA:=⟨#[117,110,105,116]⟩
def k_mut:BA:=⟨#[109,117,116]⟩
def k_box:BA:=⟨#[98,111,120]⟩
def k_unbox:BA:=⟨#[117,110,98,111,120]⟩
def k_cell:BA:=⟨#[99,101,108,108]⟩
def k_get:BA:=⟨#[103,101,116]⟩
def k_set:BA:=⟨#[115,101,116]⟩
def k_rc:BA:=⟨#[114,99]⟩
def k_arc:BA:=⟨#[97,114,99]⟩
def k_clone:BA:=⟨#[99,108,111,110,101]⟩
def k_mutex:BA:=⟨#[109,117,116,101,120]⟩
def k_open:BA:=⟨#[111,112,101,110]⟩
def k_atomic:BA:=⟨#[97,116,111,109,105,99]⟩
def k_load:BA:=⟨#[108,111,97,100]⟩
def k_store:BA:=⟨#[115,116,111,114,101]⟩
def k_fetch:BA:=⟨#[102,101,116,99,104]⟩
def k_send:BA:=⟨#[115,101,110,100]⟩
def k_recv:BA:=⟨#[114,101,99,118]⟩
def k_Box:BA:=⟨#[66,111,120]⟩
def k_Cell:BA:=⟨#[67,101,108,108]⟩
def k_Rc:BA:=⟨#[82,99]⟩
def k_Arc:BA:=⟨#[65,114,99]⟩
def k_Mutex:BA:=⟨#[77,117,116,101,120]⟩
def k_Atomic:BA:=⟨#[65,116,111,109,105,99]⟩
def k_Sender:BA:=⟨#[83,101,110,100,101,114]⟩
def k_Receiver:BA:=⟨#[82,101,99,101,105,118,101,114]⟩
def k_i0:BA:=⟨#[105,48]⟩
def k_b0:BA:=⟨#[98,48]⟩
def k_0:BA:=⟨#[48]⟩
def k_p0:BA:=⟨#[112,48]⟩
def k_1:BA:=⟨#[49]⟩
def k_2:BA:=⟨#[50]⟩
def k_n6:BA:=⟨#[110,54]⟩
def k_tf6:BA:=⟨#[116,102,54]⟩
def k_tv9:BA:=⟨#[116,118,57]⟩
def k_p1:BA:=⟨#[112,49]⟩
def rf88_0:Unit->RF:=fun _=>⟨cP (cL (cR (cL (cR (cR (cR (cR (bodyOf Tryz.f88)))))))),cL (cL (cR (cL (cR (cR (cR (cR (bodyOf Tryz.f88)))))))),cR (cL (cR (cL (cR (cR (cR (cR (bodyOf Tryz.f88)))))))),34⟩
def ds_listtrue15 {γ:Type}(x:D) (k:LD->Option γ):Option γ:=match x with | .list true 15 a0=>k a0 | _=>none
theorem ds_listtrue15_inv {γ:Type}{x:D}{k:LD->Option γ}{r:γ}(h:ds_listtrue15 x k=some r):∃a0,x= .list true 15 a0/\k a0=some r:=by
 unfold ds_listtrue15 at h
 split at h
 ·exact⟨_,rfl,h⟩
 ·cases h
def rf45_0:Unit->RF:=fun _=>⟨cP (cL (cR (cL (cR (cR (cR (bodyOf Tryz.f45))))))),cL (cL (cR (cL (cR (cR (cR (bodyOf Tryz.f45))))))),cR (cL (cR (cL (cR (cR (cR (bodyOf Tryz.f45))))))),27⟩
def k_main:BA:=⟨#[109,97,105,110]⟩
def k_x:BA:=⟨#[120]⟩
def k_T:BA:=⟨#[84]⟩
def k_f:BA:=⟨#[102]⟩
def k_a:BA:=⟨#[97]⟩
def k_X:BA:=⟨#[88]⟩
def F122 (n:Nat) (z1:Int):Option (Bool):=
 (if (65:Int)<=z1 then (if z1<=(90:Int)then some true else some false)else some false)
theorem T122 (n:Nat):∀⦃z1 r1⦄,F122 n z1=some r1->
    Trip Tryz.prog inv 122 [.d (.int .u8 z1)] [] (.v (.d (.bool r1))) [] []:=by
 intro z1 r1 h
 unfold F122 at h
 refine Trip.of tab_ok tab_one fol Tryz.func122 rfl (by kernel_rfl) rfl rfl rfl (fun M hM hI=>?_)
 try cbv
 refine seq_go ?_
 try cbv
 refine seq_go ?_
 try cbv
 refine splitLe (fun e=>?_) (fun e=>?_)
 ·replace h:=ite_t e h
  clear e
  try cbv
  refine splitLe (fun e=>?_) (fun e=>?_)
  ·replace h:=ite_t e h
   clear e
   try cbv
   obtain rfl:=Option.some.inj h
   refine fin_go ?_
   try cbv
   exact⟨[],by trivial⟩
  replace h:=ite_f (Int.not_le.2 e) h
  clear e
  try cbv
  obtain rfl:=Option.some.inj h
  refine fin_go ?_
  try cbv
  exact⟨[],by trivial⟩
 replace h:=ite_f (Int.not_le.2 e) h
 clear e
 try cbv
 obtain rfl:=Option.some.inj h
 refine fin_go ?_
 try cbv
 exact⟨[],by trivial⟩
def F123 (n:Nat) (z1:Int):Option (Bool):=
 (if (97:Int)<=z1 then (if z1<=(122:Int)then some true else some false)else some false)
theorem T123 (n:Nat):∀⦃z1 r1⦄,F123 n z1=some r1->
    Trip Tryz.prog inv 123 [.d (.int .u8 z1)] [] (.v (.d (.bool r1))) [] []:=by
 intro z1 r1 h
 unfold F123 at h
 refine Trip.of tab_ok tab_one fol Tryz.func123 rfl (by kernel_rfl) rfl rfl rfl (fun M hM hI=>?_)
 try cbv
 refine seq_go ?_
 try cbv
 refine seq_go ?_
 try cbv
 refine splitLe (fun e=>?_) (fun e=>?_)
 ·replace h:=ite_t e h
  clear e
  try cbv
  refine splitLe (fun e=>?_) (fun e=>?_)
  ·replace h:=ite_t e h
   clear e
   try cbv
   obtain rfl:=Option.some.inj h
   refine fin_go ?_
   try cbv
   exact⟨[],by trivial⟩
  replace h:=ite_f (Int.not_le.2 e) h
  clear e
  try cbv
  obtain rfl:=Option.some.inj h
  refine fin_go ?_
  try cbv
  exact⟨[],by trivial⟩
 replace h:=ite_f (Int.not_le.2 e) h
 clear e
 try cbv
 obtain rfl:=Option.some.inj h
 refine fin_go ?_
 try cbv
 exact⟨[],by trivial⟩
def F150 (n:Nat) (z1:Int):Option (Bool):=
 (if (48:Int)<=z1 then (if z1<=(57:Int)then some true else some false)else some false)
theorem T150 (n:Nat):∀⦃z1 r1⦄,F150 n z1=some r1->
    Trip Tryz.prog inv 150 [.d (.int .u8 z1)] [] (.v (.d (.bool r1))) [] []:=by
 intro z1 r1 h
 unfold F150 at h
 refine Trip.of tab_ok tab_one fol Tryz.func150 rfl (by kernel_rfl) rfl rfl rfl (fun M hM hI=>?_)
 try cbv
 refine seq_go ?_
 try cbv
 refine seq_go ?_
 try cbv
 refine splitLe (fun e=>?_) (fun e=>?_)
 ·replace h:=ite_t e h
  clear e
  try cbv
  refine splitLe (fun e=>?_) (fun e=>?_)
  ·replace h:=ite_t e h
   clear e
   try cbv
   obtain rfl:=Option.some.inj h
   refine fin_go ?_
   try cbv
   exact⟨[],by trivial⟩
  replace h:=ite_f (Int.not_le.2 e) h
  clear e
  try cbv
  obtain rfl:=Option.some.inj h
  refine fin_go ?_
  try cbv
  exact⟨[],by trivial⟩
 replace h:=ite_f (Int.not_le.2 e) h
 clear e
 try cbv
 obtain rfl:=Option.some.inj h
 refine fin_go ?_
 try cbv
 exact⟨[],by trivial⟩
def F143 (n:Nat) (z1:Int):Option (Bool):=
 bO1 (F123 n z1) fun b2=>(if b2=true then some true else bO1 (F122 n z1) fun b3=>(if b3=true then some true else bO1 (F150 n z1) fun b4=>(if b4=true then some true else (if z1=(95:Int)then some true else some false))))
theorem T143 (n:Nat):∀⦃z1 r1⦄,F143 n z1=some r1->
    Trip Tryz.prog inv 143 [.d (.int .u8 z1)] [] (.v (.d (.bool r1))) [] []:=by
 intro z1 r1 h
 unfold F143 at h
 refine Trip.of tab_ok tab_one fol Tryz.func143 rfl (by kernel_rfl) rfl rfl rfl (fun M hM hI=>?_)
 try cbv
 refine seq_go ?_
 try cbv
 refine seq_go ?_
 try cbv
 replace h:=bO1_inv h
 obtain⟨b2,hr,h⟩:=h
 refine call_go rfl rfl ?_
 try cbv
 refine call_pure hM hI (T123 _ hr) rfl ?_
 clear hr
 try cbv
 cases b2
 rotate_left
 ·replace h:=itT h
  try cbv
  obtain rfl:=Option.some.inj h
  refine fin_go ?_
  try cbv
  exact⟨[],by trivial⟩
 replace h:=itF h
 try cbv
 replace h:=bO1_inv h
 obtain⟨b3,hr,h⟩:=h
 refine call_go rfl rfl ?_
 try cbv
 refine call_pure hM hI (T122 _ hr) rfl ?_
 clear hr
 try cbv
 cases b3
 rotate_left
 ·replace h:=itT h
  try cbv
  obtain rfl:=Option.some.inj h
  refine fin_go ?_
  try cbv
  exact⟨[],by trivial⟩
 replace h:=itF h
 try cbv
 replace h:=bO1_inv h
 obtain⟨b4,hr,h⟩:=h
 refine call_go rfl rfl ?_
 try cbv
 refine call_pure hM hI (T150 _ hr) rfl ?_
 clear hr
 try cbv
 cases b4
 ·replace h:=itF h
  try cbv
  refine splitI (fun e=>?_) (fun e=>?_)
  ·replace h:=ite_t e h
   clear e
   try cbv
   obtain rfl:=Option.some.inj h
   refine fin_go ?_
   try cbv
   exact⟨[],by trivial⟩
  replace h:=ite_f e h
  clear e
  try cbv
  obtain rfl:=Option.some.inj h
  refine fin_go ?_
  try cbv
  exact⟨[],by trivial⟩
 replace h:=itT h
 try cbv
 obtain rfl:=Option.some.inj h
 refine fin_go ?_
 try cbv
 exact⟨[],by trivial⟩
mutual
def L142_1:Nat->BA->Int->Option (Int)
 | 0,_,_=>none
 | n+1,s1,z2=>
  szF s1 fun z3=>(if z2<z3 then atF s1 z2 fun z4=>bO1 (F143 n z4) fun b5=>L142_2 n s1 z2 b5 else L142_2 n s1 z2 false)
def L142_2:Nat->BA->Int->Bool->Option (Int)
 | 0,_,_,_=>none
 | n+1,s1,z2,b6=>
  (if b6=true then letF (IntKind.wrap .i64 (z2+1)) fun z7=>L142_1 n s1 z7 else some z2)
end
def F142 (n:Nat) (s1:BA):Option (Int):=
 L142_1 n s1 (0:Int)
theorem T142 (n:Nat):∀⦃s1 r1⦄,F142 n s1=some r1->
    Trip Tryz.prog inv 142 [.d (.str s1),.c (.fn 143 [])] [] (.v (.d (.int .i64 r1))) [] []:=by
 intro s1 r1 h
 unfold F142 at h
 refine Trip.of tab_ok tab_one fol Tryz.func142 rfl (by kernel_rfl) rfl rfl rfl (fun M hM hI=>?_)
 try cbv
 refine seq_go ?_
 try cbv
 refine seq_go ?_
 try cbv
 refine seq_go ?_
 try cbv
 refine loop_inv (T:=Nat×Int) [0,1,4,5] [] 64 (fun t=>⟨[sS 0 s1,(1,.v (.c (.fn 143 []))),sI 4 0,sI 5 t.2],[],64⟩)
   (fun t=>t.1<=n/\L142_1 t.1 s1 t.2=some r1) (fun t=>t.1) (n,(0:Int)) ⟨Nat.le_refl _,h⟩ (by cbv) ?_
 clear h
 rintro⟨m1,z2⟩ ⟨hm1,h⟩
 replace hm1:m1<=n:=hm1
 obtain _ | m1:=m1
 ·replace h:L142_1 0 s1 z2=some r1:=h
  rw[L142_1]at h
  cases h
 replace h:L142_1 (m1+1) s1 z2=some r1:=h
 rw[L142_1]at h
 try cbv
 refine seq_go ?_
 try cbv
 refine seq_joinB 16 [0,1,4,5,16] [] 416 (fun m b=>m<=m1/\L142_2 m s1 z2 b=some r1) ?_ ?_
 ·try cbv
  replace h:=szF_inv M h
  obtain⟨z3,hz,h⟩:=h
  refine⟨z3,hz,?_⟩
  clear hz
  try cbv
  refine splitL (fun e=>?_) (fun e=>?_)
  ·replace h:=ite_t e h
   clear e
   try cbv
   replace h:=atF_inv h
   obtain⟨z4,hz,h⟩:=h
   refine⟨z4,hz,?_⟩
   clear hz
   try cbv
   replace h:=bO1_inv h
   obtain⟨b5,hr,h⟩:=h
   refine call_go rfl rfl ?_
   try cbv
   refine call_pure hM hI (T143 _ hr) rfl ?_
   clear hr
   try cbv
   exact join_next (m1,b5) [0,1,4,5,16] [] 416 ⟨by omega,h⟩ (by cbv)
  replace h:=ite_f (Int.not_lt.2 e) h
  clear e
  try cbv
  exact join_next (m1,false) [0,1,4,5,16] [] 416 ⟨by omega,h⟩ (by cbv)
 clear h
 rintro⟨m2,b6⟩ ⟨hm2,h⟩
 try cbv
 replace hm2:m2<=m1:=hm2
 obtain _ | m2:=m2
 ·replace h:L142_2 0 s1 z2 b6=some r1:=h
  rw[L142_2]at h
  cases h
 replace h:L142_2 (m2+1) s1 z2 b6=some r1:=h
 rw[L142_2]at h
 try cbv
 cases b6
 ·replace h:=itF h
  try cbv
  refine seq_go ?_
  try cbv
  obtain rfl:=Option.some.inj h
  refine fin_go ?_
  try cbv
  exact⟨[],by trivial⟩
 replace h:=itT h
 try cbv
 replace h:=letF_inv h
 obtain⟨z7,hz,h⟩:=h
 refine⟨z7,hz,?_⟩
 clear hz
 try cbv
 exact loop_next (m2,z7) [0,1,4,5] [] 64 ⟨by omega,h⟩ (Nat.lt_succ_of_le (by omega)) (by cbv)
mutual
def L151_1:Nat->LD->Int->Int->LD->Option LD
 | 0,_,_,_,_=>none
 | n+1,l1,z2,z3,l4=>
  (if z3<z2 then L151_2 n l1 z2 z3 l4 true else L151_2 n l1 z2 z3 l4 false)
def L151_2:Nat->LD->Int->Int->LD->Bool->Option LD
 | 0,_,_,_,_,_=>none
 | n+1,l1,z2,z3,l4,b5=>
  (if b5=true then getF l1 z3 fun x6=>ds_str x6 fun s7=>letF (IntKind.wrap .i64 (z3+1)) fun z8=>putF (.str s7) [.int .i64 z8] l4 fun l9=>letF (IntKind.wrap .i64 (z3+1)) fun z10=>L151_1 n l1 z2 z10 l9 else some l4)
end
def F151 (n:Nat):Option LD:=
 bO1 (F152 n k_let_if_else_while_match_) fun l1=>lenF l1 fun z2=>L151_1 n l1 z2 (0:Int) ([]:LD)
theorem T151 (n:Nat):∀⦃r1⦄,F151 n=some r1->
    Trip Tryz.prog inv 151 [] [] (.v (.c (.ow (.loc 0)))) [] [.tree (.fmap false) true 2 r1 none]:=by
 intro r1 h
 unfold F151 at h
 refine Trip.of tab_ok tab_one fol Tryz.func151 rfl (by kernel_rfl) rfl rfl rfl (fun M hM hI=>?_)
 try cbv
 refine seq_go ?_
 try cbv
 refine seq_go ?_
 try cbv
 refine seq_go ?_
 try cbv
 refine seq_go ?_
 try cbv
 replace h:=bO1_inv h
 obtain⟨l1,hr,h⟩:=h
 refine call_go rfl rfl ?_
 try cbv
 refine call_pure hM hI (T152 _ hr) rfl ?_
 clear hr
 try cbv
 replace h:=lenF_inv M h
 obtain⟨z2,hz,h⟩:=h
 refine⟨z2,hz,?_⟩
 clear hz
 try cbv
 refine loop_invG (T:=Nat×Int×LD) [] [] [0,1,5,6,7] [.loc 32] 192 (fun t=>⟨[(0,.v (.c (.nilm))),(1,.v (.c (.ow (.loc 32)))),sF 5 1 l1,sI 6 z2,sI 7 t.2.1],[(.loc 32,.tree (.fmap false) true 2 t.2.2 none)],192⟩)
   (fun t=>t.1<=n/\L151_1 t.1 l1 z2 t.2.1 t.2.2=some r1) (fun t=>t.1) (n,((0:Int),([]:LD))) ⟨Nat.le_refl _,h⟩ (by cbv) ?_
 clear h
 rintro⟨m1,z3,l4⟩ ⟨hm1,h⟩
 replace hm1:m1<=n:=hm1
 obtain _ | m1:=m1
 ·replace h:L151_1 0 l1 z2 z3 l4=some r1:=h
  rw[L151_1]at h
  cases h
 replace h:L151_1 (m1+1) l1 z2 z3 l4=some r1:=h
 rw[L151_1]at h
 try cbv
 refine seq_joinB 8 [0,1,5,6,7,8] [.loc 32] 224 (fun m b=>m<=m1/\L151_2 m l1 z2 z3 l4 b=some r1) ?_ ?_
 ·try cbv
  refine splitL (fun e=>?_) (fun e=>?_)
  ·replace h:=ite_t e h
   clear e
   try cbv
   exact join_next (m1,true) [0,1,5,6,7,8] [.loc 32] 224 ⟨by omega,h⟩ (by cbv)
  replace h:=ite_f (Int.not_lt.2 e) h
  clear e
  try cbv
  exact join_next (m1,false) [0,1,5,6,7,8] [.loc 32] 224 ⟨by omega,h⟩ (by cbv)
 clear h
 rintro⟨m2,b5⟩ ⟨hm2,h⟩
 try cbv
 replace hm2:m2<=m1:=hm2
 obtain _ | m2:=m2
 ·replace h:L151_2 0 l1 z2 z3 l4 b5=some r1:=h
  rw[L151_2]at h
  cases h
 replace h:L151_2 (m2+1) l1 z2 z3 l4 b5=some r1:=h
 rw[L151_2]at h
 try cbv
 refine seq_go ?_
 try cbv
 cases b5
 ·replace h:=itF h
  try cbv
  refine seq_go ?_
  try cbv
  obtain rfl:=Option.some.inj h
  refine fin_go ?_
  try cbv
  exact⟨[.loc 32],rfl,rfl,trivial,⟨rfl,trivial⟩,trivial⟩
 replace h:=itT h
 try cbv
 refine seq_go ?_
 try cbv
 refine seq_go ?_
 try cbv
 replace h:=getF_inv h
 obtain⟨x6,⟨hx0,hx⟩,h⟩:=h
 refine⟨x6,hx0,hx,?_⟩
 clear hx0 hx
 replace h:=ds_str_inv h
 obtain⟨s7,rfl,h⟩:=h
 try cbv
 replace h:=letF_inv h
 obtain⟨z8,hz,h⟩:=h
 refine⟨z8,hz,?_⟩
 clear hz
 try cbv
 replace h:=putF_inv h
 obtain⟨l9,hz,h⟩:=h
 refine⟨l9,(M.lock_iff _).2 hz,?_⟩
 clear hz
 try cbv
 replace h:=letF_inv h
 obtain⟨z10,hz,h⟩:=h
 refine⟨z10,hz,?_⟩
 clear hz
 try cbv
 refine loop_nextG (m2,(z10,l9)) [] [] [0,1,5,6,7] [.loc 32] 192 ⟨by omega,h⟩ (Nat.lt_succ_of_le (by omega)) ?_
 try cbv
def F144 (n:Nat) (s1:BA):Option (Bool):=
 bO1 (F151 n) fun l2=>(findF false (.str s1) l2 (fun x3=>ds_i64 x3 fun z4=>(if (0:Int)<z4 then some true else some false)) (some false))
theorem T144 (n:Nat):∀⦃s1 r1⦄,F144 n s1=some r1->
    Trip Tryz.prog inv 144 [.d (.str s1)] [] (.v (.d (.bool r1))) [] []:=by
 intro s1 r1 h
 unfold F144 at h
 refine Trip.of tab_ok tab_one fol Tryz.func144 rfl (by kernel_rfl) rfl rfl rfl (fun M hM hI=>?_)
 try cbv
 refine seq_go ?_
 try cbv
 refine seq_go ?_
 try cbv
 replace h:=bO1_inv h
 obtain⟨l2,hr,h⟩:=h
 refine call_go rfl rfl ?_
 try cbv
 refine call_with hM hI [] (T151 _ hr) rfl (by simp) trivial trivial (by simp) ?_
 clear hr
 try cbv
 replace h:=findF_inv h
 rcases h with⟨x3,hz,h⟩ | ⟨hz,h⟩
 ·replace h:=ds_i64_inv h
  obtain⟨z4,rfl,h⟩:=h
  refine⟨some _,(M.lock_iff _).2 hz,?_⟩
  clear hz
  try cbv
  refine splitL (fun e=>?_) (fun e=>?_)
  ·replace h:=ite_t e h
   clear e
   try cbv
   obtain rfl:=Option.some.inj h
   refine fin_go ?_
   try cbv
   exact⟨[],by trivial⟩
  replace h:=ite_f (Int.not_lt.2 e) h
  clear e
  try cbv
  obtain rfl:=Option.some.inj h
  refine fin_go ?_
  try cbv
  exact⟨[],by trivial⟩
 refine⟨none,(M.lock_iff _).2 hz,?_⟩
 clear hz
 try cbv
 refine splitL_f (by decide) ?_
 try cbv
 obtain rfl:=Option.some.inj h
 refine fin_go ?_
 try cbv
 exact⟨[],by trivial⟩
def F121 (n:Nat) (s1:BA):Option (Bool):=
 (if s1=ByteArray.empty then some false else szF s1 fun z2=>(if z2<=(16:Int)then atF s1 (0:Int) fun z3=>bO1 (F122 n z3) fun b4=>(if b4=true then bO1 (F142 n s1) fun z5=>szF s1 fun z6=>(if z5=z6 then bO1 (F144 n s1) fun b7=>letB (!b7) fun b8=>some b8 else some false)else some false)else some false))
theorem T121 (n:Nat):∀⦃s1 r1⦄,F121 n s1=some r1->
    Trip Tryz.prog inv 121 [.d (.str s1),.c (.fn 122 [])] [] (.v (.d (.bool r1))) [] []:=by
 intro s1 r1 h
 unfold F121 at h
 refine Trip.of tab_ok tab_one fol Tryz.func121 rfl (by kernel_rfl) rfl rfl rfl (fun M hM hI=>?_)
 try cbv
 refine seq_go ?_
 try cbv
 refine seq_go ?_
 try cbv
 refine splitS (fun e=>?_) (fun e=>?_)
 ·replace h:=ite_t (bytes_eq.1 e) h
  clear e
  try cbv
  obtain rfl:=Option.some.inj h
  refine fin_go ?_
  try cbv
  exact⟨[],by trivial⟩
 replace h:=ite_f (bytes_ne.1 e) h
 clear e
 try cbv
 replace h:=szF_inv M h
 obtain⟨z2,hz,h⟩:=h
 refine⟨z2,hz,?_⟩
 clear hz
 try cbv
 refine splitLe (fun e=>?_) (fun e=>?_)
 rotate_left
 ·replace h:=ite_f (Int.not_le.2 e) h
  clear e
  try cbv
  obtain rfl:=Option.some.inj h
  refine fin_go ?_
  try cbv
  exact⟨[],by trivial⟩
 replace h:=ite_t e h
 clear e
 try cbv
 replace h:=atF_inv h
 obtain⟨z3,hz,h⟩:=h
 refine⟨z3,hz,?_⟩
 clear hz
 try cbv
 replace h:=bO1_inv h
 obtain⟨b4,hr,h⟩:=h
 refine call_go rfl rfl ?_
 try cbv
 refine call_pure hM hI (T122 _ hr) rfl ?_
 clear hr
 try cbv
 cases b4
 ·replace h:=itF h
  try cbv
  obtain rfl:=Option.some.inj h
  refine fin_go ?_
  try cbv
  exact⟨[],by trivial⟩
 replace h:=itT h
 try cbv
 replace h:=bO1_inv h
 obtain⟨z5,hr,h⟩:=h
 refine call_go rfl rfl ?_
 try cbv
 refine call_pure hM hI (T142 _ hr) rfl ?_
 clear hr
 try cbv
 replace h:=szF_inv M h
 obtain⟨z6,hz,h⟩:=h
 refine⟨z6,hz,?_⟩
 clear hz
 try cbv
 refine splitI (fun e=>?_) (fun e=>?_)
 ·replace h:=ite_t e h
  clear e
  try cbv
  replace h:=bO1_inv h
  obtain⟨b7,hr,h⟩:=h
  refine call_go rfl rfl ?_
  try cbv
  refine call_pure hM hI (T144 _ hr) rfl ?_
  clear hr
  try cbv
  replace h:=letB_inv h
  obtain⟨b8,hz,h⟩:=h
  refine⟨b8,not_eq' hz,?_⟩
  clear hz
  try cbv
  obtain rfl:=Option.some.inj h
  refine fin_go ?_
  try cbv
  exact⟨[],by trivial⟩
 replace h:=ite_f e h
 clear e
 try cbv
 obtain rfl:=Option.some.inj h
 refine fin_go ?_
 try cbv
 exact⟨[],by trivial⟩
def F73 (n:Nat) (s1:BA):Option (Bool):=
 bO1 (F121 n s1) fun b2=>some b2
theorem T73 (n:Nat):∀⦃s1 r1⦄,F73 n s1=some r1->
    Trip Tryz.prog inv 73 [.d (.str s1)] [] (.v (.d (.bool r1))) [] []:=by
 intro s1 r1 h
 unfold F73 at h
 refine Trip.of tab_ok tab_one fol Tryz.func73 rfl (by kernel_rfl) rfl rfl rfl (fun M hM hI=>?_)
 try cbv
 refine seq_go ?_
 try cbv
 refine seq_go ?_
 try cbv
 replace h:=bO1_inv h
 obtain⟨b2,hr,h⟩:=h
 refine call_go rfl rfl ?_
 try cbv
 refine call_pure hM hI (T121 _ hr) rfl ?_
 clear hr
 try cbv
 obtain rfl:=Option.some.inj h
 refine fin_go ?_
 try cbv
 exact⟨[],by trivial⟩
mutual
def F101:Nat->Int->BA->LD->Int->Option (Bool×Int)
 | 0,_,_,_,_=>none
 | n+1,z1,s2,l3,z4=>
  letF (IntKind.wrap .i64 (z4 - 1)) fun z5=>bO1 (F55 n z1 s2 l3 z5) fun b6=>some (b6,z4)
def L100_1:Nat->LD->Int->Int->Int->Option (Bool×Int)
 | 0,_,_,_,_=>none
 | n+1,l1,z2,z4,z5=>
  lenF l1 fun z6=>(if z4<z6 then (if z4<z2 then L100_2 n l1 z2 z4 z5 true else L100_2 n l1 z2 z4 z5 false)else L100_2 n l1 z2 z4 z5 false)
def L100_2:Nat->LD->Int->Int->Int->Bool->Option (Bool×Int)
 | 0,_,_,_,_,_=>none
 | n+1,l1,z2,z4,z5,b7=>
  (if b7=true then getF l1 z4 fun x8=>ds_t33 x8 fun z9 s10 l11=>bO2 (F101 n z9 s10 l11 z5) fun b12 z13=>letB (!b12) fun b14=>(if b14=true then some (false,z13)else letF (IntKind.wrap .i64 (z4+1)) fun z15=>L100_1 n l1 z2 z15 z13)else lenF l1 fun z16=>(if z16<=z2 then some (true,z5)else some (false,z5)))
def F100:Nat->LD->Int->Int->Option (Bool×Int)
 | 0,_,_,_=>none
 | n+1,l1,z2,z3=>
  L100_1 n l1 z2 (0:Int) z3
def L55_1:Nat->Int->BA->LD->Int->Bool->Option (Bool)
 | 0,_,_,_,_,_=>none
 | n+1,z1,s2,l3,z4,b5=>
  (if z1=(1:Int)then L55_2 n z1 s2 l3 z4 b5 true else L55_2 n z1 s2 l3 z4 b5 false)
def L55_2:Nat->Int->BA->LD->Int->Bool->Bool->Option (Bool)
 | 0,_,_,_,_,_,_=>none
 | n+1,z1,s2,l3,z4,b5,b6=>
  (if b6=true then L55_5 n z1 s2 l3 z4 b5 true else (if z1=(2:Int)then L55_3 n z1 s2 l3 z4 b5 true else L55_3 n z1 s2 l3 z4 b5 false))
def L55_3:Nat->Int->BA->LD->Int->Bool->Bool->Option (Bool)
 | 0,_,_,_,_,_,_=>none
 | n+1,z1,s2,l3,z4,b5,b7=>
  (if b7=true then L55_5 n z1 s2 l3 z4 b5 true else (if z1=(3:Int)then L55_4 n z1 s2 l3 z4 b5 true else L55_4 n z1 s2 l3 z4 b5 false))
def L55_4:Nat->Int->BA->LD->Int->Bool->Bool->Option (Bool)
 | 0,_,_,_,_,_,_=>none
 | n+1,z1,s2,l3,z4,b5,b8=>
  (if b8=true then L55_5 n z1 s2 l3 z4 b5 true else (if z1=(10:Int)then L55_5 n z1 s2 l3 z4 b5 true else L55_5 n z1 s2 l3 z4 b5 false))
def L55_5:Nat->Int->BA->LD->Int->Bool->Bool->Option (Bool)
 | 0,_,_,_,_,_,_=>none
 | n+1,z1,s2,l3,z4,b5,b9=>
  (if b9=true then L55_7 n z1 l3 z4 (0:Int) b5 else (if z1=(4:Int)then L55_6 n z1 s2 l3 z4 b5 true else L55_6 n z1 s2 l3 z4 b5 false))
def L55_6:Nat->Int->BA->LD->Int->Bool->Bool->Option (Bool)
 | 0,_,_,_,_,_,_=>none
 | n+1,z1,s2,l3,z4,b5,b10=>
  (if b10=true then bO1 (F73 n s2) fun b11=>L55_7 n z1 l3 z4 (0:Int) b11 else L55_7 n z1 l3 z4 (1:Int) b5)
def L55_7:Nat->Int->LD->Int->Int->Bool->Option (Bool)
 | 0,_,_,_,_,_=>none
 | n+1,z1,l3,z4,z12,b13=>
  (if (0:Int)<z4 then (if (1:Int)<=z1 then (if z1<=(14:Int)then (if b13=true then lenF l3 fun z14=>(if z14=z12 then bO2 (F100 n l3 (1:Int) z4) fun b15 z16=>some b15 else some false)else some false)else some false)else some false)else some false)
def F55:Nat->Int->BA->LD->Int->Option (Bool)
 | 0,_,_,_,_=>none
 | n+1,z1,s2,l3,z4=>
  (if s2=ByteArray.empty then L55_1 n z1 s2 l3 z4 true else L55_1 n z1 s2 l3 z4 false)
end
theorem G101 (n:Nat):(∀⦃z1 s2 l3 z4 r1 r2⦄,F101 n z1 s2 l3 z4=some (r1,r2)->
    Trip Tryz.prog inv 101 [.d (.agg [.int .u8 z1,.str s2,.list true 3 l3]),.c (.ptr (.ext 0) 0)] [.cells [.d (.int .i64 z4)]] (.v (.d (.bool r1))) [.cells [.d (.int .i64 r2)]] [])/\
    (∀⦃l1 z2 z3 r1 r2⦄,F100 n l1 z2 z3=some (r1,r2)->
    Trip Tryz.prog inv 100 [.d (.list true 3 l1),.d (.int .i64 z2),.c (.fn 101 [.ext 0])] [.cells [.d (.int .i64 z3)]] (.v (.d (.bool r1))) [.cells [.d (.int .i64 r2)]] [])/\
    (∀⦃z1 s2 l3 z4 r1⦄,F55 n z1 s2 l3 z4=some r1->
    Trip Tryz.prog inv 55 [.d (.agg [.int .u8 z1,.str s2,.list true 3 l3]),.d (.int .i64 z4)] [] (.v (.d (.bool r1))) [] []):=by
 induction n using Nat.strongRecOn with | _ n ih=>
 obtain _ | n:=n
 ·refine⟨?_,?_,?_⟩
  ·intro z1 s2 l3 z4 r1 r2 h
   cases (show (none:Option _)=some _ from h)
  ·intro l1 z2 z3 r1 r2 h
   cases (show (none:Option _)=some _ from h)
  intro z1 s2 l3 z4 r1 h
  cases (show (none:Option _)=some _ from h)
 refine⟨?_,?_,?_⟩
 ·intro z1 s2 l3 z4 r1 r2 h
  rw[F101]at h
  refine Trip.of tab_ok tab_one fol Tryz.func101 rfl (by kernel_rfl) rfl rfl rfl (fun M hM hI=>?_)
  try cbv
  refine seq_go ?_
  try cbv
  refine seq_go ?_
  try cbv
  replace h:=letF_inv h
  obtain⟨z5,hz,h⟩:=h
  refine⟨z5,hz,?_⟩
  clear hz
  try cbv
  replace h:=bO1_inv h
  obtain⟨b6,hr,h⟩:=h
  refine call_go rfl rfl ?_
  try cbv
  refine call_pure hM hI ((ih _ (by omega)).2.2 hr) rfl ?_
  clear hr
  try cbv
  obtain⟨rfl,rfl⟩:=inj2 h
  refine fin_go ?_
  try cbv
  exact⟨[],rfl,rfl,⟨rfl,trivial⟩,trivial,trivial⟩
 ·intro l1 z2 z3 r1 r2 h
  rw[F100]at h
  refine Trip.of tab_ok tab_one fol Tryz.func100 rfl (by kernel_rfl) rfl rfl rfl (fun M hM hI=>?_)
  try cbv
  refine seq_go ?_
  try cbv
  refine seq_go ?_
  try cbv
  refine seq_go ?_
  try cbv
  refine loop_inv (T:=Nat×Int×Int) [0,1,2,6,7] [.ext 0] 64 (fun t=>⟨[sT 0 3 l1,sI 1 z2,(2,.v (.c (.fn 101 [.ext 0]))),sB 6 false,sI 7 t.2.1],[(.ext 0,.cells [.d (.int .i64 t.2.2)])],64⟩)
    (fun t=>t.1<=n/\L100_1 t.1 l1 z2 t.2.1 t.2.2=some (r1,r2)) (fun t=>t.1) (n,((0:Int),z3)) ⟨Nat.le_refl _,h⟩ (by cbv) ?_
  clear h
  rintro⟨m1,z4,z5⟩ ⟨hm1,h⟩
  replace hm1:m1<=n:=hm1
  obtain _ | m1:=m1
  ·replace h:L100_1 0 l1 z2 z4 z5=some (r1,r2):=h
   rw[L100_1]at h
   cases h
  replace h:L100_1 (m1+1) l1 z2 z4 z5=some (r1,r2):=h
  rw[L100_1]at h
  try cbv
  refine seq_go ?_
  try cbv
  refine seq_join (T:=Nat×Bool) (fun t=>⟨[sT 0 3 l1,sI 1 z2,(2,.v (.c (.fn 101 [.ext 0]))),sB 6 false,sI 7 z4,sB 16 t.2],[(.ext 0,.cells [.d (.int .i64 z5)])],352⟩) (fun t=>t.1<=m1/\L100_2 t.1 l1 z2 z4 z5 t.2=some (r1,r2)) ?_ ?_
  ·try cbv
   replace h:=lenF_inv M h
   obtain⟨z6,hz,h⟩:=h
   refine⟨z6,hz,?_⟩
   clear hz
   try cbv
   refine splitL (fun e=>?_) (fun e=>?_)
   ·replace h:=ite_t e h
    clear e
    try cbv
    refine splitL (fun e=>?_) (fun e=>?_)
    ·replace h:=ite_t e h
     clear e
     try cbv
     exact join_next (m1,true) [0,1,2,6,7,16] [.ext 0] 352 ⟨by omega,h⟩ (by cbv)
    replace h:=ite_f (Int.not_lt.2 e) h
    clear e
    try cbv
    exact join_next (m1,false) [0,1,2,6,7,16] [.ext 0] 352 ⟨by omega,h⟩ (by cbv)
   replace h:=ite_f (Int.not_lt.2 e) h
   clear e
   try cbv
   exact join_next (m1,false) [0,1,2,6,7,16] [.ext 0] 352 ⟨by omega,h⟩ (by cbv)
  clear h
  rintro⟨m2,b7⟩ ⟨hm2,h⟩
  replace hm2:m2<=m1:=hm2
  obtain _ | m2:=m2
  ·replace h:L100_2 0 l1 z2 z4 z5 b7=some (r1,r2):=h
   rw[L100_2]at h
   cases h
  replace h:L100_2 (m2+1) l1 z2 z4 z5 b7=some (r1,r2):=h
  rw[L100_2]at h
  try cbv
  cases b7
  ·replace h:=itF h
   try cbv
   refine seq_go ?_
   try cbv
   replace h:=lenF_inv M h
   obtain⟨z16,hz,h⟩:=h
   refine⟨z16,hz,?_⟩
   clear hz
   try cbv
   refine splitLe (fun e=>?_) (fun e=>?_)
   ·replace h:=ite_t e h
    clear e
    try cbv
    obtain⟨rfl,rfl⟩:=inj2 h
    refine fin_go ?_
    try cbv
    exact⟨[],rfl,rfl,⟨rfl,trivial⟩,trivial,trivial⟩
   replace h:=ite_f (Int.not_le.2 e) h
   clear e
   try cbv
   obtain⟨rfl,rfl⟩:=inj2 h
   refine fin_go ?_
   try cbv
   exact⟨[],rfl,rfl,⟨rfl,trivial⟩,trivial,trivial⟩
  replace h:=itT h
  try cbv
  refine seq_go ?_
  try cbv
  refine seq_go ?_
  try cbv
  replace h:=getF_inv h
  obtain⟨x8,⟨hx0,hx⟩,h⟩:=h
  refine⟨x8,hx0,hx,?_⟩
  clear hx0 hx
  replace h:=ds_t33_inv h
  obtain⟨z9,s10,l11,rfl,h⟩:=h
  try cbv
  replace h:=bO2_inv h
  obtain⟨b12,z13,hr,h⟩:=h
  refine call_go rfl rfl ?_
  try cbv
  refine call_with hM hI [.ext 0] ((ih _ (by omega)).1 hr) rfl (by simp) ⟨rfl,trivial⟩ ⟨trivial,trivial⟩ (by simp) ?_
  clear hr
  try cbv
  replace h:=letB_inv h
  obtain⟨b14,hz,h⟩:=h
  refine⟨b14,not_eq' hz,?_⟩
  clear hz
  try cbv
  cases b14
  ·replace h:=itF h
   try cbv
   replace h:=letF_inv h
   obtain⟨z15,hz,h⟩:=h
   refine⟨z15,hz,?_⟩
   clear hz
   try cbv
   exact loop_next (m2,(z15,z13)) [0,1,2,6,7] [.ext 0] 64 ⟨by omega,h⟩ (Nat.lt_succ_of_le (by omega)) (by cbv)
  replace h:=itT h
  try cbv
  refine seq_go ?_
  try cbv
  obtain⟨rfl,rfl⟩:=inj2 h
  refine fin_go ?_
  try cbv
  exact⟨[],rfl,rfl,⟨rfl,trivial⟩,trivial,trivial⟩
 intro z1 s2 l3 z4 r1 h
 rw[F55]at h
 refine Trip.of tab_ok tab_one fol Tryz.func55 rfl (by kernel_rfl) rfl rfl rfl (fun M hM hI=>?_)
 try cbv
 refine seq_go ?_
 try cbv
 refine seq_join (T:=Nat×Bool) (fun t=>⟨[sL 2 0,sL 3 32,sB 4 false,sI 5 1,sB 6 t.2],[(.loc 0,.cells [.d (.int .u8 z1),.d (.str s2),.d (.list true 3 l3)]),(.loc 32,.cells [.d (.int .i64 z4)])],256⟩) (fun t=>t.1<=n/\L55_1 t.1 z1 s2 l3 z4 t.2=some r1) ?_ ?_
 ·try cbv
  refine splitS (fun e=>?_) (fun e=>?_)
  ·replace h:=ite_t (bytes_eq.1 e) h
   clear e
   try cbv
   refine drawn ?_ ?_
   ·show _=true
    kernel_rfl
   try cbv
   exact join_next (n,true) [2,3,4,5,6] [.loc 0,.loc 32] 256 ⟨by omega,h⟩ (by cbv)
  replace h:=ite_f (bytes_ne.1 e) h
  clear e
  try cbv
  refine drawn ?_ ?_
  ·show _=true
   kernel_rfl
  try cbv
  exact join_next (n,false) [2,3,4,5,6] [.loc 0,.loc 32] 256 ⟨by omega,h⟩ (by cbv)
 clear h
 rintro⟨m1,b5⟩ ⟨hm1,h⟩
 replace hm1:m1<=n:=hm1
 obtain _ | m1:=m1
 ·replace h:L55_1 0 z1 s2 l3 z4 b5=some r1:=h
  rw[L55_1]at h
  cases h
 replace h:L55_1 (m1+1) z1 s2 l3 z4 b5=some r1:=h
 rw[L55_1]at h
 try cbv
 refine seq_join (T:=Nat×Int×Bool) (fun t=>⟨[sL 2 0,sL 3 32,sB 4 false,sI 5 t.2.1,sB 6 t.2.2],[(.loc 0,.cells [.d (.int .u8 z1),.d (.str s2),.d (.list true 3 l3)]),(.loc 32,.cells [.d (.int .i64 z4)])],800⟩) (fun t=>t.1<=m1/\L55_7 t.1 z1 l3 z4 t.2.1 t.2.2=some r1) ?_ ?_
 rotate_left
 ·clear h
  rintro⟨m7,z12,b13⟩ ⟨hm7,h⟩
  replace hm7:m7<=m1:=hm7
  obtain _ | m7:=m7
  ·replace h:L55_7 0 z1 l3 z4 z12 b13=some r1:=h
   rw[L55_7]at h
   cases h
  replace h:L55_7 (m7+1) z1 l3 z4 z12 b13=some r1:=h
  rw[L55_7]at h
  try cbv
  refine seq_go ?_
  try cbv
  refine splitL (fun e=>?_) (fun e=>?_)
  rotate_left
  ·replace h:=ite_f (Int.not_lt.2 e) h
   clear e
   try cbv
   obtain rfl:=Option.some.inj h
   refine fin_go ?_
   try cbv
   exact⟨[],by trivial⟩
  replace h:=ite_t e h
  clear e
  try cbv
  refine splitLe (fun e=>?_) (fun e=>?_)
  rotate_left
  ·replace h:=ite_f (Int.not_le.2 e) h
   clear e
   try cbv
   obtain rfl:=Option.some.inj h
   refine fin_go ?_
   try cbv
   exact⟨[],by trivial⟩
  replace h:=ite_t e h
  clear e
  try cbv
  refine splitLe (fun e=>?_) (fun e=>?_)
  rotate_left
  ·replace h:=ite_f (Int.not_le.2 e) h
   clear e
   try cbv
   obtain rfl:=Option.some.inj h
   refine fin_go ?_
   try cbv
   exact⟨[],by trivial⟩
  replace h:=ite_t e h
  clear e
  try cbv
  cases b13
  ·replace h:=itF h
   try cbv
   obtain rfl:=Option.some.inj h
   refine fin_go ?_
   try cbv
   exact⟨[],by trivial⟩
  replace h:=itT h
  try cbv
  replace h:=lenF_inv M h
  obtain⟨z14,hz,h⟩:=h
  refine⟨z14,hz,?_⟩
  clear hz
  try cbv
  refine splitI (fun e=>?_) (fun e=>?_)
  ·replace h:=ite_t e h
   clear e
   try cbv
   replace h:=bO2_inv h
   obtain⟨b15,z16,hr,h⟩:=h
   refine call_go rfl rfl ?_
   try cbv
   refine call_with hM hI [.loc 32] ((ih _ (by omega)).2.1 hr) rfl (by simp) ⟨rfl,trivial⟩ ⟨trivial,trivial⟩ (by simp) ?_
   clear hr
   try cbv
   obtain rfl:=Option.some.inj h
   refine fin_go ?_
   try cbv
   exact⟨[],by trivial⟩
  replace h:=ite_f e h
  clear e
  try cbv
  obtain rfl:=Option.some.inj h
  refine fin_go ?_
  try cbv
  exact⟨[],by trivial⟩
 try cbv
 refine seq_go ?_
 try cbv
 refine seq_join (T:=Nat×Bool) (fun t=>⟨[sL 2 0,sL 3 32,sB 4 false,sI 5 1,sB 6 b5,sU 11 z1,sB 12 t.2],[(.loc 0,.cells [.d (.int .u8 z1),.d (.str s2),.d (.list true 3 l3)]),(.loc 32,.cells [.d (.int .i64 z4)])],576⟩) (fun t=>t.1<=m1/\L55_5 t.1 z1 s2 l3 z4 b5 t.2=some r1) ?_ ?_
 rotate_left
 ·clear h
  rintro⟨m5,b9⟩ ⟨hm5,h⟩
  replace hm5:m5<=m1:=hm5
  obtain _ | m5:=m5
  ·replace h:L55_5 0 z1 s2 l3 z4 b5 b9=some r1:=h
   rw[L55_5]at h
   cases h
  replace h:L55_5 (m5+1) z1 s2 l3 z4 b5 b9=some r1:=h
  rw[L55_5]at h
  try cbv
  cases b9
  rotate_left
  ·replace h:=itT h
   try cbv
   exact join_next (m5,((0:Int),b5)) [2,3,4,5,6] [.loc 0,.loc 32] 800 ⟨by omega,h⟩ (by cbv)
  replace h:=itF h
  try cbv
  refine seq_join (T:=Nat×Bool) (fun t=>⟨[sL 2 0,sL 3 32,sB 4 false,sI 5 1,sB 6 b5,sB 17 t.2],[(.loc 0,.cells [.d (.int .u8 z1),.d (.str s2),.d (.list true 3 l3)]),(.loc 32,.cells [.d (.int .i64 z4)])],640⟩) (fun t=>t.1<=m5/\L55_6 t.1 z1 s2 l3 z4 b5 t.2=some r1) ?_ ?_
  ·try cbv
   refine splitI (fun e=>?_) (fun e=>?_)
   ·replace h:=ite_t e h
    clear e
    try cbv
    exact join_next (m5,true) [2,3,4,5,6,17] [.loc 0,.loc 32] 640 ⟨by omega,h⟩ (by cbv)
   replace h:=ite_f e h
   clear e
   try cbv
   exact join_next (m5,false) [2,3,4,5,6,17] [.loc 0,.loc 32] 640 ⟨by omega,h⟩ (by cbv)
  clear h
  rintro⟨m6,b10⟩ ⟨hm6,h⟩
  replace hm6:m6<=m5:=hm6
  obtain _ | m6:=m6
  ·replace h:L55_6 0 z1 s2 l3 z4 b5 b10=some r1:=h
   rw[L55_6]at h
   cases h
  replace h:L55_6 (m6+1) z1 s2 l3 z4 b5 b10=some r1:=h
  rw[L55_6]at h
  try cbv
  cases b10
  ·replace h:=itF h
   try cbv
   exact join_next (m6,((1:Int),b5)) [2,3,4,5,6] [.loc 0,.loc 32] 800 ⟨by omega,h⟩ (by cbv)
  replace h:=itT h
  try cbv
  replace h:=bO1_inv h
  obtain⟨b11,hr,h⟩:=h
  refine call_go rfl rfl ?_
  try cbv
  refine call_pure hM hI (T73 _ hr) rfl ?_
  clear hr
  try cbv
  exact join_next (m6,((0:Int),b11)) [2,3,4,5,6] [.loc 0,.loc 32] 800 ⟨by omega,h⟩ (by cbv)
 try cbv
 refine seq_join (T:=Nat×Bool) (fun t=>⟨[sL 2 0,sL 3 32,sB 4 false,sI 5 1,sB 6 b5,sU 11 z1,sB 12 t.2],[(.loc 0,.cells [.d (.int .u8 z1),.d (.str s2),.d (.list true 3 l3)]),(.loc 32,.cells [.d (.int .i64 z4)])],384⟩) (fun t=>t.1<=m1/\L55_2 t.1 z1 s2 l3 z4 b5 t.2=some r1) ?_ ?_
 ·try cbv
  refine splitI (fun e=>?_) (fun e=>?_)
  ·replace h:=ite_t e h
   clear e
   try cbv
   exact join_next (m1,true) [2,3,4,5,6,11,12] [.loc 0,.loc 32] 384 ⟨by omega,h⟩ (by cbv)
  replace h:=ite_f e h
  clear e
  try cbv
  exact join_next (m1,false) [2,3,4,5,6,11,12] [.loc 0,.loc 32] 384 ⟨by omega,h⟩ (by cbv)
 clear h
 rintro⟨m2,b6⟩ ⟨hm2,h⟩
 replace hm2:m2<=m1:=hm2
 obtain _ | m2:=m2
 ·replace h:L55_2 0 z1 s2 l3 z4 b5 b6=some r1:=h
  rw[L55_2]at h
  cases h
 replace h:L55_2 (m2+1) z1 s2 l3 z4 b5 b6=some r1:=h
 rw[L55_2]at h
 try cbv
 cases b6
 rotate_left
 ·replace h:=itT h
  try cbv
  exact join_next (m2,true) [2,3,4,5,6,11,12] [.loc 0,.loc 32] 576 ⟨by omega,h⟩ (by cbv)
 replace h:=itF h
 try cbv
 refine seq_join (T:=Nat×Bool) (fun t=>⟨[sL 2 0,sL 3 32,sB 4 false,sI 5 1,sB 6 b5,sU 11 z1,sB 12 t.2],[(.loc 0,.cells [.d (.int .u8 z1),.d (.str s2),.d (.list true 3 l3)]),(.loc 32,.cells [.d (.int .i64 z4)])],448⟩) (fun t=>t.1<=m2/\L55_3 t.1 z1 s2 l3 z4 b5 t.2=some r1) ?_ ?_
 ·try cbv
  refine splitI (fun e=>?_) (fun e=>?_)
  ·replace h:=ite_t e h
   clear e
   try cbv
   exact join_next (m2,true) [2,3,4,5,6,11,12] [.loc 0,.loc 32] 448 ⟨by omega,h⟩ (by cbv)
  replace h:=ite_f e h
  clear e
  try cbv
  exact join_next (m2,false) [2,3,4,5,6,11,12] [.loc 0,.loc 32] 448 ⟨by omega,h⟩ (by cbv)
 clear h
 rintro⟨m3,b7⟩ ⟨hm3,h⟩
 replace hm3:m3<=m2:=hm3
 obtain _ | m3:=m3
 ·replace h:L55_3 0 z1 s2 l3 z4 b5 b7=some r1:=h
  rw[L55_3]at h
  cases h
 replace h:L55_3 (m3+1) z1 s2 l3 z4 b5 b7=some r1:=h
 rw[L55_3]at h
 try cbv
 cases b7
 rotate_left
 ·replace h:=itT h
  try cbv
  exact join_next (m3,true) [2,3,4,5,6,11,12] [.loc 0,.loc 32] 576 ⟨by omega,h⟩ (by cbv)
 replace h:=itF h
 try cbv
 refine seq_join (T:=Nat×Bool) (fun t=>⟨[sL 2 0,sL 3 32,sB 4 false,sI 5 1,sB 6 b5,sU 11 z1,sB 12 t.2],[(.loc 0,.cells [.d (.int .u8 z1),.d (.str s2),.d (.list true 3 l3)]),(.loc 32,.cells [.d (.int .i64 z4)])],512⟩) (fun t=>t.1<=m3/\L55_4 t.1 z1 s2 l3 z4 b5 t.2=some r1) ?_ ?_
 ·try cbv
  refine splitI (fun e=>?_) (fun e=>?_)
  ·replace h:=ite_t e h
   clear e
   try cbv
   exact join_next (m3,true) [2,3,4,5,6,11,12] [.loc 0,.loc 32] 512 ⟨by omega,h⟩ (by cbv)
  replace h:=ite_f e h
  clear e
  try cbv
  exact join_next (m3,false) [2,3,4,5,6,11,12] [.loc 0,.loc 32] 512 ⟨by omega,h⟩ (by cbv)
 clear h
 rintro⟨m4,b8⟩ ⟨hm4,h⟩
 replace hm4:m4<=m3:=hm4
 obtain _ | m4:=m4
 ·replace h:L55_4 0 z1 s2 l3 z4 b5 b8=some r1:=h
  rw[L55_4]at h
  cases h
 replace h:L55_4 (m4+1) z1 s2 l3 z4 b5 b8=some r1:=h
 rw[L55_4]at h
 try cbv
 cases b8
 ·replace h:=itF h
  try cbv
  refine splitI (fun e=>?_) (fun e=>?_)
  ·replace h:=ite_t e h
   clear e
   try cbv
   exact join_next (m4,true) [2,3,4,5,6,11,12] [.loc 0,.loc 32] 576 ⟨by omega,h⟩ (by cbv)
  replace h:=ite_f e h
  clear e
  try cbv
  exact join_next (m4,false) [2,3,4,5,6,11,12] [.loc 0,.loc 32] 576 ⟨by omega,h⟩ (by cbv)
 replace h:=itT h
 try cbv
 exact join_next (m4,true) [2,3,4,5,6,11,12] [.loc 0,.loc 32] 576 ⟨by omega,h⟩ (by cbv)
theorem T55 (n:Nat):∀⦃z1 s2 l3 z4 r1⦄,F55 n z1 s2 l3 z4=some r1->
  Trip Tryz.prog inv 55 [.d (.agg [.int .u8 z1,.str s2,.list true 3 l3]),.d (.int .i64 z4)] [] (.v (.d (.bool r1))) [] []:=(G101 n).2.2
mutual
def L139_2:Nat->LD->LD->Int->Int->Option (Bool)
 | 0,_,_,_,_=>none
 | n+1,l1,l2,z6,z7=>
  (if z7<z6 then L139_3 n l1 l2 z6 z7 true else L139_3 n l1 l2 z6 z7 false)
def L139_3:Nat->LD->LD->Int->Int->Bool->Option (Bool)
 | 0,_,_,_,_,_=>none
 | n+1,l1,l2,z6,z7,b8=>
  (if b8=true then getF l1 z7 fun x9=>ds_str x9 fun s10=>getF l2 z7 fun x11=>ds_str x11 fun s12=>(if s10=s12 then L139_4 n l1 l2 z6 z7 false else L139_4 n l1 l2 z6 z7 true)else some true)
def L139_4:Nat->LD->LD->Int->Int->Bool->Option (Bool)
 | 0,_,_,_,_,_=>none
 | n+1,l1,l2,z6,z7,b13=>
  (if b13=true then some false else letF (IntKind.wrap .i64 (z7+1)) fun z14=>L139_2 n l1 l2 z6 z14)
end
def L139_1:Nat->LD->LD->Bool->Option (Bool)
 | 0,_,_,_=>none
 | n+1,l1,l2,b5=>
  (if b5=true then some false else lenF l1 fun z6=>L139_2 n l1 l2 z6 (0:Int))
def F139 (n:Nat) (l1:LD) (l2:LD):Option (Bool):=
 lenF l1 fun z3=>lenF l2 fun z4=>(if z3=z4 then L139_1 n l1 l2 false else L139_1 n l1 l2 true)
theorem T139 (n:Nat):∀⦃l1 l2 r1⦄,F139 n l1 l2=some r1->
    Trip Tryz.prog inv 139 [.d (.list false 1 l1),.d (.list false 1 l2)] [] (.v (.d (.bool r1))) [] []:=by
 intro l1 l2 r1 h
 unfold F139 at h
 refine Trip.of tab_ok tab_one fol Tryz.func139 rfl (by kernel_rfl) rfl rfl rfl (fun M hM hI=>?_)
 try cbv
 refine seq_go ?_
 try cbv
 refine seq_go ?_
 try cbv
 refine seq_joinB 10 [0,1,4,10] [] 192 (fun m b=>m<=n/\L139_1 m l1 l2 b=some r1) ?_ ?_
 ·try cbv
  replace h:=lenF_inv M h
  obtain⟨z3,hz,h⟩:=h
  refine⟨z3,hz,?_⟩
  clear hz
  try cbv
  replace h:=lenF_inv M h
  obtain⟨z4,hz,h⟩:=h
  refine⟨z4,hz,?_⟩
  clear hz
  try cbv
  refine splitI (fun e=>?_) (fun e=>?_)
  ·replace h:=ite_t e h
   clear e
   try cbv
   exact join_next (n,false) [0,1,4,10] [] 192 ⟨by omega,h⟩ (by cbv)
  replace h:=ite_f e h
  clear e
  try cbv
  exact join_next (n,true) [0,1,4,10] [] 192 ⟨by omega,h⟩ (by cbv)
 clear h
 rintro⟨m1,b5⟩ ⟨hm1,h⟩
 try cbv
 replace hm1:m1<=n:=hm1
 obtain _ | m1:=m1
 ·replace h:L139_1 0 l1 l2 b5=some r1:=h
  rw[L139_1]at h
  cases h
 replace h:L139_1 (m1+1) l1 l2 b5=some r1:=h
 rw[L139_1]at h
 try cbv
 cases b5
 rotate_left
 ·replace h:=itT h
  try cbv
  refine seq_go ?_
  try cbv
  obtain rfl:=Option.some.inj h
  refine fin_go ?_
  try cbv
  exact⟨[],by trivial⟩
 replace h:=itF h
 try cbv
 refine seq_go ?_
 try cbv
 refine seq_go ?_
 try cbv
 replace h:=lenF_inv M h
 obtain⟨z6,hz,h⟩:=h
 refine⟨z6,hz,?_⟩
 clear hz
 try cbv
 refine loop_inv (T:=Nat×Int) [0,1,4,12,13] [] 288 (fun t=>⟨[sF 0 1 l1,sF 1 1 l2,sB 4 false,sI 12 z6,sI 13 t.2],[],288⟩)
   (fun t=>t.1<=m1/\L139_2 t.1 l1 l2 z6 t.2=some r1) (fun t=>t.1) (m1,(0:Int)) ⟨Nat.le_refl _,h⟩ (by cbv) ?_
 clear h
 rintro⟨m2,z7⟩ ⟨hm2,h⟩
 replace hm2:m2<=m1:=hm2
 obtain _ | m2:=m2
 ·replace h:L139_2 0 l1 l2 z6 z7=some r1:=h
  rw[L139_2]at h
  cases h
 replace h:L139_2 (m2+1) l1 l2 z6 z7=some r1:=h
 rw[L139_2]at h
 try cbv
 refine seq_joinB 14 [0,1,4,12,13,14] [] 320 (fun m b=>m<=m2/\L139_3 m l1 l2 z6 z7 b=some r1) ?_ ?_
 ·try cbv
  refine splitL (fun e=>?_) (fun e=>?_)
  ·replace h:=ite_t e h
   clear e
   try cbv
   exact join_next (m2,true) [0,1,4,12,13,14] [] 320 ⟨by omega,h⟩ (by cbv)
  replace h:=ite_f (Int.not_lt.2 e) h
  clear e
  try cbv
  exact join_next (m2,false) [0,1,4,12,13,14] [] 320 ⟨by omega,h⟩ (by cbv)
 clear h
 rintro⟨m3,b8⟩ ⟨hm3,h⟩
 try cbv
 replace hm3:m3<=m2:=hm3
 obtain _ | m3:=m3
 ·replace h:L139_3 0 l1 l2 z6 z7 b8=some r1:=h
  rw[L139_3]at h
  cases h
 replace h:L139_3 (m3+1) l1 l2 z6 z7 b8=some r1:=h
 rw[L139_3]at h
 try cbv
 refine seq_go ?_
 try cbv
 cases b8
 ·replace h:=itF h
  try cbv
  refine seq_go ?_
  try cbv
  obtain rfl:=Option.some.inj h
  refine fin_go ?_
  try cbv
  exact⟨[],by trivial⟩
 replace h:=itT h
 try cbv
 refine seq_go ?_
 try cbv
 refine seq_go ?_
 try cbv
 refine seq_joinB 24 [0,1,4,12,13,24] [] 672 (fun m b=>m<=m3/\L139_4 m l1 l2 z6 z7 b=some r1) ?_ ?_
 ·try cbv
  replace h:=getF_inv h
  obtain⟨x9,⟨hx0,hx⟩,h⟩:=h
  refine⟨x9,hx0,hx,?_⟩
  clear hx0 hx
  replace h:=ds_str_inv h
  obtain⟨s10,rfl,h⟩:=h
  try cbv
  replace h:=getF_inv h
  obtain⟨x11,⟨hx0,hx⟩,h⟩:=h
  refine⟨x11,hx0,hx,?_⟩
  clear hx0 hx
  replace h:=ds_str_inv h
  obtain⟨s12,rfl,h⟩:=h
  try cbv
  refine splitS (fun e=>?_) (fun e=>?_)
  ·replace h:=ite_t (bytes_eq.1 e) h
   clear e
   try cbv
   refine drawn ?_ ?_
   ·show _=true
    kernel_rfl
   try cbv
   exact join_next (m3,false) [0,1,4,12,13,24] [] 672 ⟨by omega,h⟩ (by cbv)
  replace h:=ite_f (bytes_ne.1 e) h
  clear e
  try cbv
  refine drawn ?_ ?_
  ·show _=true
   kernel_rfl
  try cbv
  exact join_next (m3,true) [0,1,4,12,13,24] [] 672 ⟨by omega,h⟩ (by cbv)
 clear h
 rintro⟨m4,b13⟩ ⟨hm4,h⟩
 try cbv
 replace hm4:m4<=m3:=hm4
 obtain _ | m4:=m4
 ·replace h:L139_4 0 l1 l2 z6 z7 b13=some r1:=h
  rw[L139_4]at h
  cases h
 replace h:L139_4 (m4+1) l1 l2 z6 z7 b13=some r1:=h
 rw[L139_4]at h
 try cbv
 cases b13
 ·replace h:=itF h
  try cbv
  replace h:=letF_inv h
  obtain⟨z14,hz,h⟩:=h
  refine⟨z14,hz,?_⟩
  clear hz
  try cbv
  exact loop_next (m4,z14) [0,1,4,12,13] [] 288 ⟨by omega,h⟩ (Nat.lt_succ_of_le (by omega)) (by cbv)
 replace h:=itT h
 try cbv
 refine seq_go ?_
 try cbv
 obtain rfl:=Option.some.inj h
 refine fin_go ?_
 try cbv
 exact⟨[],by trivial⟩
def F117 (n:Nat) (s1:BA) (l2:LD) (s3:BA) (l4:LD):Option (Bool):=
 (if s1=s3 then bO1 (F139 n l2 l4) fun b5=>some b5 else some false)
theorem T117 (n:Nat):∀⦃s1 l2 s3 l4 r1⦄,F117 n s1 l2 s3 l4=some r1->
    Trip Tryz.prog inv 117 [.d (.agg [.str s1,.list false 1 l2]),.d (.agg [.str s3,.list false 1 l4])] [] (.v (.d (.bool r1))) [] []:=by
 intro s1 l2 s3 l4 r1 h
 unfold F117 at h
 refine Trip.of tab_ok tab_one fol Tryz.func117 rfl (by kernel_rfl) rfl rfl rfl (fun M hM hI=>?_)
 try cbv
 refine seq_go ?_
 try cbv
 refine seq_go ?_
 try cbv
 refine splitS (fun e=>?_) (fun e=>?_)
 ·replace h:=ite_t (bytes_eq.1 e) h
  clear e
  try cbv
  replace h:=bO1_inv h
  obtain⟨b5,hr,h⟩:=h
  refine call_go rfl rfl ?_
  try cbv
  refine call_pure hM hI (T139 _ hr) rfl ?_
  clear hr
  try cbv
  obtain rfl:=Option.some.inj h
  refine fin_go ?_
  try cbv
  exact⟨[],by trivial⟩
 replace h:=ite_f (bytes_ne.1 e) h
 clear e
 try cbv
 obtain rfl:=Option.some.inj h
 refine fin_go ?_
 try cbv
 exact⟨[],by trivial⟩
mutual
def L118_1:Nat->LD->LD->Bool->Option (Bool)
 | 0,_,_,_=>none
 | n+1,l1,l2,b5=>
  (if b5=true then some false else lenF l1 fun z6=>L118_2 n l1 l2 z6 (0:Int))
def L118_2:Nat->LD->LD->Int->Int->Option (Bool)
 | 0,_,_,_,_=>none
 | n+1,l1,l2,z6,z7=>
  (if z7<z6 then L118_3 n l1 l2 z6 z7 true else L118_3 n l1 l2 z6 z7 false)
def L118_3:Nat->LD->LD->Int->Int->Bool->Option (Bool)
 | 0,_,_,_,_,_=>none
 | n+1,l1,l2,z6,z7,b8=>
  (if b8=true then getF l1 z7 fun x9=>ds_t39 x9 fun z10 z11 s12 s13 s14 l15 l16 z17=>getF l2 z7 fun x18=>ds_t39 x18 fun z19 z20 s21 s22 s23 l24 l25 z26=>bO1 (F62 n z10 z11 s12 s13 s14 l15 l16 z17 z19 z20 s21 s22 s23 l24 l25 z26) fun b27=>letB (!b27) fun b28=>(if b28=true then some false else letF (IntKind.wrap .i64 (z7+1)) fun z29=>L118_2 n l1 l2 z6 z29)else some true)
def F118:Nat->LD->LD->Option (Bool)
 | 0,_,_=>none
 | n+1,l1,l2=>
  lenF l1 fun z3=>lenF l2 fun z4=>(if z3=z4 then L118_1 n l1 l2 false else L118_1 n l1 l2 true)
def F62:Nat->Int->Int->BA->BA->BA->LD->LD->Int->Int->Int->BA->BA->BA->LD->LD->Int->Option (Bool)
 | 0,_,_,_,_,_,_,_,_,_,_,_,_,_,_,_,_=>none
 | n+1,z1,z2,s3,s4,s5,l6,l7,z8,z9,z10,s11,s12,s13,l14,l15,z16=>
  (if z1=z9 then (if z2=z10 then (if s3=s11 then (if s4=s12 then bO1 (F117 n s5 l6 s13 l14) fun b17=>(if b17=true then bO1 (F118 n l7 l15) fun b18=>some b18 else some false)else some false)else some false)else some false)else some false)
end
theorem G118 (n:Nat):(∀⦃l1 l2 r1⦄,F118 n l1 l2=some r1->
    Trip Tryz.prog inv 118 [.d (.list true 8 l1),.d (.list true 8 l2),.c (.fn 62 [])] [] (.v (.d (.bool r1))) [] [])/\
    (∀⦃z1 z2 s3 s4 s5 l6 l7 z8 z9 z10 s11 s12 s13 l14 l15 z16 r1⦄,F62 n z1 z2 s3 s4 s5 l6 l7 z8 z9 z10 s11 s12 s13 l14 l15 z16=some r1->
    Trip Tryz.prog inv 62 [.d (.agg [.int .u8 z1,.int .i64 z2,.str s3,.str s4,.str s5,.list false 1 l6,.list true 8 l7,.int .i64 z8]),.d (.agg [.int .u8 z9,.int .i64 z10,.str s11,.str s12,.str s13,.list false 1 l14,.list true 8 l15,.int .i64 z16])] [] (.v (.d (.bool r1))) [] []):=by
 induction n using Nat.strongRecOn with | _ n ih=>
 obtain _ | n:=n
 ·refine⟨?_,?_⟩
  ·intro l1 l2 r1 h
   cases (show (none:Option _)=some _ from h)
  intro z1 z2 s3 s4 s5 l6 l7 z8 z9 z10 s11 s12 s13 l14 l15 z16 r1 h
  cases (show (none:Option _)=some _ from h)
 refine⟨?_,?_⟩
 rotate_left
 ·intro z1 z2 s3 s4 s5 l6 l7 z8 z9 z10 s11 s12 s13 l14 l15 z16 r1 h
  rw[F62]at h
  refine Trip.of tab_ok tab_one fol Tryz.func62 rfl (by kernel_rfl) rfl rfl rfl (fun M hM hI=>?_)
  try cbv
  refine seq_go ?_
  try cbv
  refine seq_go ?_
  try cbv
  refine splitI (fun e=>?_) (fun e=>?_)
  rotate_left
  ·replace h:=ite_f e h
   clear e
   try cbv
   obtain rfl:=Option.some.inj h
   refine fin_go ?_
   try cbv
   exact⟨[],by trivial⟩
  replace h:=ite_t e h
  clear e
  try cbv
  refine splitI (fun e=>?_) (fun e=>?_)
  rotate_left
  ·replace h:=ite_f e h
   clear e
   try cbv
   obtain rfl:=Option.some.inj h
   refine fin_go ?_
   try cbv
   exact⟨[],by trivial⟩
  replace h:=ite_t e h
  clear e
  try cbv
  refine splitS (fun e=>?_) (fun e=>?_)
  rotate_left
  ·replace h:=ite_f (bytes_ne.1 e) h
   clear e
   try cbv
   obtain rfl:=Option.some.inj h
   refine fin_go ?_
   try cbv
   exact⟨[],by trivial⟩
  replace h:=ite_t (bytes_eq.1 e) h
  clear e
  try cbv
  refine splitS (fun e=>?_) (fun e=>?_)
  rotate_left
  ·replace h:=ite_f (bytes_ne.1 e) h
   clear e
   try cbv
   obtain rfl:=Option.some.inj h
   refine fin_go ?_
   try cbv
   exact⟨[],by trivial⟩
  replace h:=ite_t (bytes_eq.1 e) h
  clear e
  try cbv
  replace h:=bO1_inv h
  obtain⟨b17,hr,h⟩:=h
  refine call_go rfl rfl ?_
  try cbv
  refine call_pure hM hI (T117 _ hr) rfl ?_
  clear hr
  try cbv
  cases b17
  ·replace h:=itF h
   try cbv
   obtain rfl:=Option.some.inj h
   refine fin_go ?_
   try cbv
   exact⟨[],by trivial⟩
  replace h:=itT h
  try cbv
  replace h:=bO1_inv h
  obtain⟨b18,hr,h⟩:=h
  refine call_go rfl rfl ?_
  try cbv
  refine call_pure hM hI ((ih _ (by omega)).1 hr) rfl ?_
  clear hr
  try cbv
  obtain rfl:=Option.some.inj h
  refine fin_go ?_
  try cbv
  exact⟨[],by trivial⟩
 intro l1 l2 r1 h
 rw[F118]at h
 refine Trip.of tab_ok tab_one fol Tryz.func118 rfl (by kernel_rfl) rfl rfl rfl (fun M hM hI=>?_)
 try cbv
 refine seq_go ?_
 try cbv
 refine seq_go ?_
 try cbv
 refine seq_joinB 14 [0,1,2,6,14] [] 192 (fun m b=>m<=n/\L118_1 m l1 l2 b=some r1) ?_ ?_
 ·try cbv
  replace h:=lenF_inv M h
  obtain⟨z3,hz,h⟩:=h
  refine⟨z3,hz,?_⟩
  clear hz
  try cbv
  replace h:=lenF_inv M h
  obtain⟨z4,hz,h⟩:=h
  refine⟨z4,hz,?_⟩
  clear hz
  try cbv
  refine splitI (fun e=>?_) (fun e=>?_)
  ·replace h:=ite_t e h
   clear e
   try cbv
   exact join_next (n,false) [0,1,2,6,14] [] 192 ⟨by omega,h⟩ (by cbv)
  replace h:=ite_f e h
  clear e
  try cbv
  exact join_next (n,true) [0,1,2,6,14] [] 192 ⟨by omega,h⟩ (by cbv)
 clear h
 rintro⟨m1,b5⟩ ⟨hm1,h⟩
 try cbv
 replace hm1:m1<=n:=hm1
 obtain _ | m1:=m1
 ·replace h:L118_1 0 l1 l2 b5=some r1:=h
  rw[L118_1]at h
  cases h
 replace h:L118_1 (m1+1) l1 l2 b5=some r1:=h
 rw[L118_1]at h
 try cbv
 cases b5
 rotate_left
 ·replace h:=itT h
  try cbv
  refine seq_go ?_
  try cbv
  obtain rfl:=Option.some.inj h
  refine fin_go ?_
  try cbv
  exact⟨[],by trivial⟩
 replace h:=itF h
 try cbv
 refine seq_go ?_
 try cbv
 refine seq_go ?_
 try cbv
 replace h:=lenF_inv M h
 obtain⟨z6,hz,h⟩:=h
 refine⟨z6,hz,?_⟩
 clear hz
 try cbv
 refine loop_inv (T:=Nat×Int) [1,2,6,15,16,17] [] 288 (fun t=>⟨[sT 1 8 l2,(2,.v (.c (.fn 62 []))),sB 6 false,sT 15 8 l1,sI 16 z6,sI 17 t.2],[],288⟩)
   (fun t=>t.1<=m1/\L118_2 t.1 l1 l2 z6 t.2=some r1) (fun t=>t.1) (m1,(0:Int)) ⟨Nat.le_refl _,h⟩ (by cbv) ?_
 clear h
 rintro⟨m2,z7⟩ ⟨hm2,h⟩
 replace hm2:m2<=m1:=hm2
 obtain _ | m2:=m2
 ·replace h:L118_2 0 l1 l2 z6 z7=some r1:=h
  rw[L118_2]at h
  cases h
 replace h:L118_2 (m2+1) l1 l2 z6 z7=some r1:=h
 rw[L118_2]at h
 try cbv
 refine seq_joinB 18 [1,2,6,15,16,17,18] [] 320 (fun m b=>m<=m2/\L118_3 m l1 l2 z6 z7 b=some r1) ?_ ?_
 ·try cbv
  refine splitL (fun e=>?_) (fun e=>?_)
  ·replace h:=ite_t e h
   clear e
   try cbv
   exact join_next (m2,true) [1,2,6,15,16,17,18] [] 320 ⟨by omega,h⟩ (by cbv)
  replace h:=ite_f (Int.not_lt.2 e) h
  clear e
  try cbv
  exact join_next (m2,false) [1,2,6,15,16,17,18] [] 320 ⟨by omega,h⟩ (by cbv)
 clear h
 rintro⟨m3,b8⟩ ⟨hm3,h⟩
 try cbv
 replace hm3:m3<=m2:=hm3
 obtain _ | m3:=m3
 ·replace h:L118_3 0 l1 l2 z6 z7 b8=some r1:=h
  rw[L118_3]at h
  cases h
 replace h:L118_3 (m3+1) l1 l2 z6 z7 b8=some r1:=h
 rw[L118_3]at h
 try cbv
 refine seq_go ?_
 try cbv
 cases b8
 ·replace h:=itF h
  try cbv
  refine seq_go ?_
  try cbv
  obtain rfl:=Option.some.inj h
  refine fin_go ?_
  try cbv
  exact⟨[],by trivial⟩
 replace h:=itT h
 try cbv
 refine seq_go ?_
 try cbv
 refine seq_go ?_
 try cbv
 replace h:=getF_inv h
 obtain⟨x9,⟨hx0,hx⟩,h⟩:=h
 refine⟨x9,hx0,hx,?_⟩
 clear hx0 hx
 replace h:=ds_t39_inv h
 obtain⟨z10,z11,s12,s13,s14,l15,l16,z17,rfl,h⟩:=h
 try cbv
 refine seq_go ?_
 try cbv
 replace h:=getF_inv h
 obtain⟨x18,⟨hx0,hx⟩,h⟩:=h
 refine⟨x18,hx0,hx,?_⟩
 clear hx0 hx
 replace h:=ds_t39_inv h
 obtain⟨z19,z20,s21,s22,s23,l24,l25,z26,rfl,h⟩:=h
 try cbv
 refine seq_go ?_
 try cbv
 replace h:=bO1_inv h
 obtain⟨b27,hr,h⟩:=h
 refine call_go rfl rfl ?_
 try cbv
 refine call_pure hM hI ((ih _ (by omega)).2 hr) rfl ?_
 clear hr
 try cbv
 replace h:=letB_inv h
 obtain⟨b28,hz,h⟩:=h
 refine⟨b28,not_eq' hz,?_⟩
 clear hz
 try cbv
 cases b28
 ·replace h:=itF h
  try cbv
  replace h:=letF_inv h
  obtain⟨z29,hz,h⟩:=h
  refine⟨z29,hz,?_⟩
  clear hz
  try cbv
  exact loop_next (m3,z29) [1,2,6,15,16,17] [] 288 ⟨by omega,h⟩ (Nat.lt_succ_of_le (by omega)) (by cbv)
 replace h:=itT h
 try cbv
 refine seq_go ?_
 try cbv
 obtain rfl:=Option.some.inj h
 refine fin_go ?_
 try cbv
 exact⟨[],by trivial⟩
theorem T118 (n:Nat):∀⦃l1 l2 r1⦄,F118 n l1 l2=some r1->
  Trip Tryz.prog inv 118 [.d (.list true 8 l1),.d (.list true 8 l2),.c (.fn 62 [])] [] (.v (.d (.bool r1))) [] []:=(G118 n).1
theorem T62 (n:Nat):∀⦃z1 z2 s3 s4 s5 l6 l7 z8 z9 z10 s11 s12 s13 l14 l15 z16 r1⦄,F62 n z1 z2 s3 s4 s5 l6 l7 z8 z9 z10 s11 s12 s13 l14 l15 z16=some r1->
  Trip Tryz.prog inv 62 [.d (.agg [.int .u8 z1,.int .i64 z2,.str s3,.str s4,.str s5,.list false 1 l6,.list true 8 l7,.int .i64 z8]),.d (.agg [.int .u8 z9,.int .i64 z10,.str s11,.str s12,.str s13,.list false 1 l14,.list true 8 l15,.int .i64 z16])] [] (.v (.d (.bool r1))) [] []:=(G118 n).2
def F53 (n:Nat) (z1:Int) (z2:Int) (s3:BA) (s4:BA) (s5:BA) (l6:LD) (l7:LD) (z8:Int):Option (Bool):=
 (if z1=(5:Int)then some true else (if z1=(6:Int)then some true else some false))
theorem T53 (n:Nat):∀⦃z1 z2 s3 s4 s5 l6 l7 z8 r1⦄,F53 n z1 z2 s3 s4 s5 l6 l7 z8=some r1->
    Trip Tryz.prog inv 53 [.d (.agg [.int .u8 z1,.int .i64 z2,.str s3,.str s4,.str s5,.list false 1 l6,.list true 8 l7,.int .i64 z8])] [] (.v (.d (.bool r1))) [] []:=by
 intro z1 z2 s3 s4 s5 l6 l7 z8 r1 h
 unfold F53 at h
 refine Trip.of tab_ok tab_one fol Tryz.func53 rfl (by kernel_rfl) rfl rfl rfl (fun M hM hI=>?_)
 try cbv
 refine seq_go ?_
 try cbv
 refine seq_go ?_
 try cbv
 refine splitI (fun e=>?_) (fun e=>?_)
 ·replace h:=ite_t e h
  clear e
  try cbv
  obtain rfl:=Option.some.inj h
  refine fin_go ?_
  try cbv
  exact⟨[],by trivial⟩
 replace h:=ite_f e h
 clear e
 try cbv
 refine splitI (fun e=>?_) (fun e=>?_)
 ·replace h:=ite_t e h
  clear e
  try cbv
  obtain rfl:=Option.some.inj h
  refine fin_go ?_
  try cbv
  exact⟨[],by trivial⟩
 replace h:=ite_f e h
 clear e
 try cbv
 obtain rfl:=Option.some.inj h
 refine fin_go ?_
 try cbv
 exact⟨[],by trivial⟩
def F72 (n:Nat) (z1:Int) (s2:BA) (l3:LD):Option (Bool):=
 (if z1=(0:Int)then (if s2=ByteArray.empty then lenF l3 fun z4=>(if z4=(0:Int)then some true else some false)else some false)else some false)
theorem T72 (n:Nat):∀⦃z1 s2 l3 r1⦄,F72 n z1 s2 l3=some r1->
    Trip Tryz.prog inv 72 [.d (.agg [.int .u8 z1,.str s2,.list true 3 l3])] [] (.v (.d (.bool r1))) [] []:=by
 intro z1 s2 l3 r1 h
 unfold F72 at h
 refine Trip.of tab_ok tab_one fol Tryz.func72 rfl (by kernel_rfl) rfl rfl rfl (fun M hM hI=>?_)
 try cbv
 refine seq_go ?_
 try cbv
 refine seq_go ?_
 try cbv
 refine splitI (fun e=>?_) (fun e=>?_)
 rotate_left
 ·replace h:=ite_f e h
  clear e
  try cbv
  obtain rfl:=Option.some.inj h
  refine fin_go ?_
  try cbv
  exact⟨[],by trivial⟩
 replace h:=ite_t e h
 clear e
 try cbv
 refine splitS (fun e=>?_) (fun e=>?_)
 rotate_left
 ·replace h:=ite_f (bytes_ne.1 e) h
  clear e
  try cbv
  obtain rfl:=Option.some.inj h
  refine fin_go ?_
  try cbv
  exact⟨[],by trivial⟩
 replace h:=ite_t (bytes_eq.1 e) h
 clear e
 try cbv
 replace h:=lenF_inv M h
 obtain⟨z4,hz,h⟩:=h
 refine⟨z4,hz,?_⟩
 clear hz
 try cbv
 refine splitI (fun e=>?_) (fun e=>?_)
 ·replace h:=ite_t e h
  clear e
  try cbv
  obtain rfl:=Option.some.inj h
  refine fin_go ?_
  try cbv
  exact⟨[],by trivial⟩
 replace h:=ite_f e h
 clear e
 try cbv
 obtain rfl:=Option.some.inj h
 refine fin_go ?_
 try cbv
 exact⟨[],by trivial⟩
def F121x1 (n:Nat) (s1:BA):Option (Bool):=
 (if s1=ByteArray.empty then some false else szF s1 fun z2=>(if z2<=(16:Int)then atF s1 (0:Int) fun z3=>bO1 (F123 n z3) fun b4=>(if b4=true then bO1 (F142 n s1) fun z5=>szF s1 fun z6=>(if z5=z6 then bO1 (F144 n s1) fun b7=>letB (!b7) fun b8=>some b8 else some false)else some false)else some false))
theorem T121x1 (n:Nat):∀⦃s1 r1⦄,F121x1 n s1=some r1->
    Trip Tryz.prog inv 121 [.d (.str s1),.c (.fn 123 [])] [] (.v (.d (.bool r1))) [] []:=by
 intro s1 r1 h
 unfold F121x1 at h
 refine Trip.of tab_ok tab_one fol Tryz.func121 rfl (by kernel_rfl) rfl rfl rfl (fun M hM hI=>?_)
 try cbv
 refine seq_go ?_
 try cbv
 refine seq_go ?_
 try cbv
 refine splitS (fun e=>?_) (fun e=>?_)
 ·replace h:=ite_t (bytes_eq.1 e) h
  clear e
  try cbv
  obtain rfl:=Option.some.inj h
  refine fin_go ?_
  try cbv
  exact⟨[],by trivial⟩
 replace h:=ite_f (bytes_ne.1 e) h
 clear e
 try cbv
 replace h:=szF_inv M h
 obtain⟨z2,hz,h⟩:=h
 refine⟨z2,hz,?_⟩
 clear hz
 try cbv
 refine splitLe (fun e=>?_) (fun e=>?_)
 rotate_left
 ·replace h:=ite_f (Int.not_le.2 e) h
  clear e
  try cbv
  obtain rfl:=Option.some.inj h
  refine fin_go ?_
  try cbv
  exact⟨[],by trivial⟩
 replace h:=ite_t e h
 clear e
 try cbv
 replace h:=atF_inv h
 obtain⟨z3,hz,h⟩:=h
 refine⟨z3,hz,?_⟩
 clear hz
 try cbv
 replace h:=bO1_inv h
 obtain⟨b4,hr,h⟩:=h
 refine call_go rfl rfl ?_
 try cbv
 refine call_pure hM hI (T123 _ hr) rfl ?_
 clear hr
 try cbv
 cases b4
 ·replace h:=itF h
  try cbv
  obtain rfl:=Option.some.inj h
  refine fin_go ?_
  try cbv
  exact⟨[],by trivial⟩
 replace h:=itT h
 try cbv
 replace h:=bO1_inv h
 obtain⟨z5,hr,h⟩:=h
 refine call_go rfl rfl ?_
 try cbv
 refine call_pure hM hI (T142 _ hr) rfl ?_
 clear hr
 try cbv
 replace h:=szF_inv M h
 obtain⟨z6,hz,h⟩:=h
 refine⟨z6,hz,?_⟩
 clear hz
 try cbv
 refine splitI (fun e=>?_) (fun e=>?_)
 ·replace h:=ite_t e h
  clear e
  try cbv
  replace h:=bO1_inv h
  obtain⟨b7,hr,h⟩:=h
  refine call_go rfl rfl ?_
  try cbv
  refine call_pure hM hI (T144 _ hr) rfl ?_
  clear hr
  try cbv
  replace h:=letB_inv h
  obtain⟨b8,hz,h⟩:=h
  refine⟨b8,not_eq' hz,?_⟩
  clear hz
  try cbv
  obtain rfl:=Option.some.inj h
  refine fin_go ?_
  try cbv
  exact⟨[],by trivial⟩
 replace h:=ite_f e h
 clear e
 try cbv
 obtain rfl:=Option.some.inj h
 refine fin_go ?_
 try cbv
 exact⟨[],by trivial⟩
end Go.Proofs.YtjmofeakajdbiaaGreatDoor
end
